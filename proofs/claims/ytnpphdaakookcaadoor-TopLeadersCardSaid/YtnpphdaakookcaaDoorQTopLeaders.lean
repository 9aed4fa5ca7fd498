/- The card of the law 'TopLeaders': for every input the call returns true; each argument reads as it did. Condition: the three tables of numbers that the library reads hold what the program's text lays in them, which the card ties. -/
import Derived.Test.YtnpphdaakookcaaDoorCards
import Derived.SevenTiedAt
import Derived.ChangeOld
import Derived.Below
import Derived.Test.YtnpphdaakookcaaDoorQ40
set_option linter.unusedVariables false
set_option linter.unusedSimpArgs false
set_option maxHeartbeats 4000000
set_option maxRecDepth 100000
namespace Go.Proofs.YtnpphdaakookcaaDoor
open Go.RowKit
theorem zOz {rs:List Scu.Replica} {k:Nat} (hk:k < rs.length) {nw:Int} (h:∀ j (hj:j < rs.length),j < k→rs[j].kept.normal≤nw):∀ j (hj:j < rs.length),j < k+1→rs[j].kept.normal≤max nw rs[k].kept.normal:=by
 intro j hj Ha
 by_cases e:j=k
 ·subst e;omega
 have:=h j hj (by omega);omega
theorem lawTopLeaders_c (v:Value) (l:List Scu.Raw) (w:World) (h:IsRaws w w.heap.size v l) (ht:Tab w) :
 Calls Tryd.prog 8 #[v] w fun e w'=>e=.returned (.bool true)∧Below w.heap.size w w':=by
 obtain ⟨Al,cl,rfl,Ho⟩:=h.form'
 obtain ⟨la,Kt⟩:∃ la,Scu.rawActs l 280 3=la:=⟨_,rfl⟩
 obtain ⟨o,ho⟩:∃ o,Scu.outOf (Scu.steps (Scu.netNew 3) la)=o:=⟨_,rfl⟩
 have K:=Lib.hid (zRt (.slice Al l.length cl) l 280 w w.heap.size (Nat.le_refl _) h ht (by decide) la Kt o ho)
 have Vb:=Lib.hid (Scu.came_bound ho)
 have Kc:=Lib.hid (Scu.came_view ho)
 have Vc:=Lib.hid (Scu.came_lead_one ho)
 have Ku:=Lib.hid (Scu.came_lead_all ho)
 clear h ht Kt ho
 go_enter Tryd.func8,Tryd.ntmps8
 go_wp2_with fail
 refine K.out.mono ?_;rintro e w1 ⟨⟨A,c,A0,c0,A1,c1,A2,c2,A3,c3,A4,c4,A5,c5,rfl,Hp,Hq⟩,h1⟩
 go_upto_region 2 with fail
 have hR:=RanB.made h1 Hp
 obtain ⟨Wd,Kd⟩:∃ W,W=w1.alloc (Obj.cells #[.slice A0 o.replicas.length c0,.slice A1 o.slots.length c1,.slice A2 o.flying.length c2,.slice A3 o.clients.length c3,.slice A4 o.told.length c4,.slice A5 o.codes.length c5] 32):=⟨_,rfl⟩
 obtain ⟨g,hg⟩:∃ g,w1.heap.size=g:=⟨_,rfl⟩
 rw [← Kd,hg] at hR
 rw [← Kd,hg]
 obtain ⟨b0,b1,b2,b3,b4,b5⟩:=cz6 hR.box
 have HR:=Lib.hid hR
 clear hR Kd hg h1 Hp Hq K
 go_wp2_with fail
 refine (zBo _ _ _ _ _ _ o.replicas Wd HR.out.out.reps Vb.out rfl rfl rfl rfl rfl).mono ?_;rintro e w2 ⟨⟨A6,c6,rfl,Hh⟩,h2⟩
 obtain ⟨all,Hc⟩:∃ all,Scu.committed o.replicas=all:=⟨_,rfl⟩
 rw [Hc] at Hh Ku
 rw [Hc]
 have Hg:=Lib.hid (HR.out.below h2)
 have Hr:=Lib.hid Hh
 have d0:=cz1 Hg.out.box
 have Ke:=Hg.out.out.reps.len
 unfold R47 at Ke
 have Kf:=Hr.out.len
 unfold R47 at Kf
 clear b0 b1 b2 b3 b4 b5 HR h2 Hh Hc
 have Kv:g < w2.heap.size:=Hg.out.box.lt
 go_wp2_with fail
 go_loopw [7,25] (fun nv i wr=>∃ (nw:Int) (k:Nat),k≤o.replicas.length∧nv=.int .i64 nw∧i=.int .i64 k∧Hid (Below w2.heap.size w2 wr∧∀ j (hj:j < o.replicas.length),j < k→o.replicas[j].kept.normal≤nw)) (fun _ i _=>o.replicas.length - (intOf i).toNat)
 case atStart=>exact ⟨0,0,Nat.zero_le _,rfl,rfl,Lib.hid ⟨Below.refl _ _,fun j _ h=>by omega⟩⟩
 case round =>
  obtain ⟨nw,k,hk,rfl,rfl,HK⟩:=hrel
  by_cases Hu:k < o.replicas.length
  ·have Kg:(k:Int) < (o.replicas.length:Int):=by omega
   have Kw:=Kc.out o.replicas[k] (List.getElem_mem Hu)
   have Kh:=zOz Hu HK.out.2
   have Kx:=Lib.hid (fun j (hj:j < o.replicas.length) (Ky:k≠j)=>Vc.out k j Hu hj Ky)
   obtain ⟨rk,Hi⟩:∃ rk,o.replicas[k]=rk:=⟨_,rfl⟩
   obtain ⟨gr,or_,F0,q0,F1,q1,F2,q2,F3,q3,F4,q4,rfl,Vd,Hj,p0,p1,p2,p3,p4,p5,p6,p7,p8,p9⟩:=zJv (zEo Hg.out.out.reps HK.out.1) Hu Hi
   rw [Hi] at Kw Kh Kx
   have Hc:=zAa wr (Obj.cells (rN rk F0 rk.kept.log.length q0 F1 q1 F2 q2 F3 q3 F4 q4) 49)
   have Hb:=Blk.new wr 49 (rN rk F0 rk.kept.log.length q0 F1 q1 F2 q2 F3 q3 F4 q4)
   have HB:=Lib.hid (And.intro (HK.out.1.trans (Hc.mono HK.out.1.size)) Kh)
   clear Hj Hi Kh
   go_upto_region 7 with fail
   obtain ⟨Wq,Hv⟩:∃ W,W=wr.alloc (Obj.cells (rN rk F0 rk.kept.log.length q0 F1 q1 F2 q2 F3 q3 F4 q4) 49):=⟨_,rfl⟩
   obtain ⟨gq,Ki⟩:∃ g,wr.heap.size=g:=⟨_,rfl⟩
   rw [← Hv,Ki] at Hb
   rw [← Hv] at HB
   rw [← Hv,Ki]
   obtain ⟨-,-,x2⟩:=cz3 Hb
   have d1:=cW HB.out.1 Kv d0
   have Hw:=Lib.hid Hb
   clear Hv Ki Hb Hc p0 p1 p2 p3 p4 p5 p6 p7 p8 p9
   obtain ⟨nx,Kj⟩:∃ nx,max nw rk.kept.normal=nx:=⟨_,rfl⟩
   rw [Kj] at HB
   have Ve:=Lib.hid Kj
   clear Kj
   go_wp2_with fail
   try rw [Ve.out]
   obtain ⟨wo,Hx⟩:∃ wo:World,wo=Wq:=⟨_,rfl⟩
   go_loopw [38] (fun i wr=>∃ m:Nat,m≤o.replicas.length∧i=.int .i64 m∧Hid (Below Wq.heap.size Wq wr)) (fun i _=>o.replicas.length - (intOf i).toNat)
   case atStart=>exact ⟨0,Nat.zero_le _,rfl,Lib.hid (Below.refl _ _)⟩
   case round =>
    obtain ⟨m,hm,rfl,HM⟩:=hrel
    by_cases Hk:m < o.replicas.length
    ·have Hl:(m:Int) < (o.replicas.length:Int):=by omega
     have Hs:=Kc.out o.replicas[m] (List.getElem_mem Hk)
     have Ho:=Kx.out m Hk
     obtain ⟨rx,Kk⟩:∃ rx,o.replicas[m]=rx:=⟨_,rfl⟩
     obtain ⟨gx,ox,G0,z0,G1,z1,G2,z2,G3,z3,G4,z4,e,Vk,Hj,p0,p1,p2,p3,p4,p5,p6,p7,p8,p9⟩:=zJv (zEo Hg.out.out.reps (HB.out.1.trans (HM.out.mono HB.out.1.size))) Hk Kk
     obtain ⟨rfl,rfl⟩:gr=gx∧or_=ox:=by cases e;exact ⟨rfl,rfl⟩
     rw [Kk] at Hs Ho
     have Hc:=zAa wr (Obj.cells (rN rx G0 rx.kept.log.length z0 G1 z1 G2 z2 G3 z3 G4 z4) 49)
     have Hd:=Blk.new wr 49 (rN rx G0 rx.kept.log.length z0 G1 z1 G2 z2 G3 z3 G4 z4)
     have Hb:=(Hw.out.same HM.out).same Hc
     have Ha:=Lib.hid (HM.out.trans (Hc.mono HM.out.size))
     clear Hj Kk e
     go_upto_region 11 with fail
     obtain ⟨Wy,He⟩:∃ W,W=wr.alloc (Obj.cells (rN rx G0 rx.kept.log.length z0 G1 z1 G2 z2 G3 z3 G4 z4) 49):=⟨_,rfl⟩
     obtain ⟨gy,Hm⟩:∃ g,wr.heap.size=g:=⟨_,rfl⟩
     rw [← He,Hm] at Hd
     rw [← He] at Ha Hb
     rw [← He,Hm]
     clear He Hm Hc p0 p1 p2 p3 p4 p5 p6 p7 p8 p9
     obtain ⟨x0,x1,x2,x3,x4,x5,x6,x7,x8,x9⟩:=cz10 Hb
     obtain ⟨y0,y1,y2,y3,y4,y5,y6,y7,y8,y9⟩:=cz10 Hd
     by_cases Hy:k=m
     ·have Kl:((m:Int) != (k:Int))=false:=by rw [Hy];simp
      clear Hb Hd Ho Hy
      go_wp2_with fail
      go_roundw
      case rel=>first | exact ⟨m+1,by omega,rfl,Ha⟩ | ((repeat apply Exists.intro);exact ⟨⟨m+1,by omega,rfl,Ha⟩,rfl⟩)
      case measure=>first | (simp only [intOf];omega) | (simp [intOf];omega)
     have Kl:((m:Int) != (k:Int))=true:=by rw [bne_iff_ne];omega
     have Km:=Lib.hid (Ho Hy)
     have Hf:=Lib.hid Hb
     have Hz:=Lib.hid Hd
     clear Hb Hd Ho Hy
     go_wp2_with fail
     refine (zLr _ _ _ _ _ rk Kw Wy).mono ?_;rintro e w5 ⟨rfl,h5⟩
     obtain ⟨lk,Kn⟩:∃ b,Scu.leads rk=b:=⟨_,rfl⟩
     rw [Kn] at Km ⊢
     have Ha:=Lib.hid (Ha.out.trans (h5.mono Ha.out.size))
     cases lk with
     | false =>
       go_wp2_with fail
       go_roundw
       case rel=>first | exact ⟨m+1,by omega,rfl,Ha⟩ | ((repeat apply Exists.intro);exact ⟨⟨m+1,by omega,rfl,Ha⟩,rfl⟩)
       case measure=>first | (simp only [intOf];omega) | (simp [intOf];omega)
     | true =>
       have Hb:=Hf.out.same h5
       have Hd:=Hz.out.same h5
       clear x0 x1 x2 x3 x4 x5 x6 x7 x8 x9 y0 y1 y2 y3 y4 y5 y6 y7 y8 y9 Hf Hz h5
       obtain ⟨y0,y1,y2,y3,y4,y5,y6,y7,y8,y9⟩:=cz10 Hd
       have Hf:=Lib.hid Hb
       have Hz:=Lib.hid Hd
       clear Hb Hd
       go_wp2_with fail
       refine (zLr _ _ _ _ _ rx Hs w5).mono ?_;rintro e w6 ⟨rfl,h6⟩
       obtain ⟨lx,Vf⟩:∃ b,Scu.leads rx=b:=⟨_,rfl⟩
       rw [Vf] at Km ⊢
       have Ha:=Lib.hid (Ha.out.trans (h6.mono Ha.out.size))
       cases lx with
       | false =>
         go_wp2_with fail
         go_roundw
         case rel=>first | exact ⟨m+1,by omega,rfl,Ha⟩ | ((repeat apply Exists.intro);exact ⟨⟨m+1,by omega,rfl,Ha⟩,rfl⟩)
         case measure=>first | (simp only [intOf];omega) | (simp [intOf];omega)
       | true =>
         have Ky:(rk.kept.view == rx.kept.view)=false:=by rw [beq_eq_false_iff_ne];exact Km.out (by trivial) (by trivial)
         obtain ⟨-,x1⟩:=cz2 (Hf.out.same h6)
         obtain ⟨-,y1⟩:=cz2 (Hz.out.same h6)
         go_wp2_with fail
         go_roundw
         case rel=>first | exact ⟨m+1,by omega,rfl,Ha⟩ | ((repeat apply Exists.intro);exact ⟨⟨m+1,by omega,rfl,Ha⟩,rfl⟩)
         case measure=>first | (simp only [intOf];omega) | (simp [intOf];omega)
    have Hl:¬ (m:Int) < (o.replicas.length:Int):=by omega
    have HF:=Lib.hid (And.intro (HB.out.1.trans (HM.out.mono HB.out.1.size)) HB.out.2)
    go_wp2_with fail
    go_roundw
    case rel=>first | exact ⟨nx,k+1,by omega,rfl,rfl,HF⟩ | ((repeat apply Exists.intro);exact ⟨⟨nx,k+1,by omega,rfl,rfl,HF⟩,rfl⟩)
    case measure=>first | (simp only [intOf];omega) | (simp [intOf];omega)
  have Kg:¬ (k:Int) < (o.replicas.length:Int):=by omega
  have Vg:=Lib.hid (fun j (hj:j < o.replicas.length)=>HK.out.2 j hj (by omega))
  obtain ⟨wo,Hx⟩:∃ wo:World,wo=wr:=⟨_,rfl⟩
  have d2:=cW HK.out.1 Kv d0
  have HW:=Lib.hid (show Below w2.heap.size w2 wo by rw [Hx];exact HK.out.1)
  rw [← Hx] at d2 ⊢
  clear Hx HK
  go_wp2_with fail
  go_loopw [68] (fun i wr=>∃ m:Nat,m≤o.replicas.length∧i=.int .i64 m∧Hid (Below wo.heap.size wo wr)) (fun i _=>o.replicas.length - (intOf i).toNat)
  case atStart=>exact ⟨0,Nat.zero_le _,rfl,Lib.hid (Below.refl _ _)⟩
  case round =>
   obtain ⟨m,hm,rfl,HM⟩:=hrel
   by_cases Hk:m < o.replicas.length
   ·have Hl:(m:Int) < (o.replicas.length:Int):=by omega
    have Hs:=Kc.out o.replicas[m] (List.getElem_mem Hk)
    have Ko:=Ku.out m Hk
    have Kz:=Vg.out
    have Kp:=Lib.hid (HW.out.trans (HM.out.mono HW.out.size))
    obtain ⟨rk,Hi⟩:∃ rk,o.replicas[m]=rk:=⟨_,rfl⟩
    obtain ⟨gr,or_,F0,q0,F1,q1,F2,q2,F3,q3,F4,q4,rfl,Vd,Hj,p0,p1,p2,p3,p4,p5,p6,p7,p8,p9⟩:=zJv (zEo Hg.out.out.reps Kp.out) Hk Hi
    rw [Hi] at Hs Ko
    have Va:=Lib.hid (fun (h1:Scu.leads rk=true) (h2:rk.kept.view=nw)=>Ko h1 (fun j hj=>by rw [h2];exact Kz j hj))
    have Hc:=zAa wr (Obj.cells (rN rk F0 rk.kept.log.length q0 F1 q1 F2 q2 F3 q3 F4 q4) 49)
    have Hb:=Blk.new wr 49 (rN rk F0 rk.kept.log.length q0 F1 q1 F2 q2 F3 q3 F4 q4)
    have Ha:=Lib.hid (HM.out.trans (Hc.mono HM.out.size))
    have Ka:=Lib.hid (Hj.log.below Hc)
    have Kb:=Lib.hid ((Hr.out.below Kp.out).below Hc)
    have Kq:=Hj.log.len
    unfold R47 at Kq
    clear Hj Hi Ko Kz
    go_upto_region 18 with fail
    obtain ⟨Wy,He⟩:∃ W,W=wr.alloc (Obj.cells (rN rk F0 rk.kept.log.length q0 F1 q1 F2 q2 F3 q3 F4 q4) 49):=⟨_,rfl⟩
    obtain ⟨gy,Hm⟩:∃ g,wr.heap.size=g:=⟨_,rfl⟩
    rw [← He,Hm] at Hb
    rw [← He] at Ha Ka Kb
    rw [← He,Hm]
    clear He Hm Hc p0 p1 p2 p3 p4 p5 p6 p7 p8 p9 HM Kp
    obtain ⟨y0,y1,y2,y3,y4,y5,y6,y7,y8,y9⟩:=cz10 Hb
    have Hw:=Lib.hid Hb
    clear Hb
    go_wp2_with fail
    refine (zLr _ _ _ _ _ rk Hs Wy).mono ?_;rintro e w6 ⟨rfl,h6⟩
    obtain ⟨lk,Kn⟩:∃ b,Scu.leads rk=b:=⟨_,rfl⟩
    rw [Kn] at Va ⊢
    have Ha:=Lib.hid (Ha.out.trans (h6.mono Ha.out.size))
    cases lk with
    | false =>
      go_wp2_with fail
      go_roundw
      case rel=>first | exact ⟨m+1,by omega,rfl,Ha⟩ | ((repeat apply Exists.intro);exact ⟨⟨m+1,by omega,rfl,Ha⟩,rfl⟩)
      case measure=>first | (simp only [intOf];omega) | (simp [intOf];omega)
    | true =>
      have Hb:=Hw.out.same h6
      have Ka:=Lib.hid (Ka.out.below h6)
      have Kb:=Lib.hid (Kb.out.below h6)
      clear y0 y1 y2 y3 y4 y5 y6 y7 y8 y9 Hw h6
      obtain ⟨-,y1,-,-,y4⟩:=cz5 Hb
      clear Hb
      by_cases Ht:rk.kept.view=nw
      ·have Kr:(rk.kept.view == nw)=true:=by rw [Ht];simp
       have Hn:=Va.out (by trivial) Ht
       have Vh:=Hn.length_le
       have Ks:¬ (rk.kept.log.length:Int) < (all.length:Int):=by omega
       have Vi:decide ((rk.kept.log.length:Int) < (all.length:Int))=false:=by rw [decide_eq_false_iff_not];exact Ks
       have Vl:all.length≤q0:=by omega
       have HT:=Lib.hid (Ka.out.take Vh)
       have Vj:=Lib.hid (show rk.kept.log.take all.length=all from Scu.take_len_of_prefix Hn)
       clear Hn Ht
       go_wp2_with fail
       refine (zRs _ _ _ _ _ 0 0 HT.out Kb.out Vj.out).mono ?_;rintro e x7 ⟨rfl,n7,rfl⟩
       go_wp2_with fail
       go_roundw
       case rel=>first | exact ⟨m+1,by omega,rfl,Lib.hid (below_drewN Ha.out _)⟩ | ((repeat apply Exists.intro);exact ⟨⟨m+1,by omega,rfl,Lib.hid (below_drewN Ha.out _)⟩,rfl⟩)
       case measure=>first | (simp only [intOf];omega) | (simp [intOf];omega)
      ·have Kr:(rk.kept.view == nw)=false:=by rw [beq_eq_false_iff_ne];exact Ht
       clear Ht
       go_wp2_with fail
       go_roundw
       case rel=>first | exact ⟨m+1,by omega,rfl,Ha⟩ | ((repeat apply Exists.intro);exact ⟨⟨m+1,by omega,rfl,Ha⟩,rfl⟩)
       case measure=>first | (simp only [intOf];omega) | (simp [intOf];omega)
   have Hl:¬ (m:Int) < (o.replicas.length:Int):=by omega
   have HF:=Lib.hid (Hg.out.low.trans ((HW.out.trans (HM.out.mono HW.out.size)).mono Hg.out.low.size))
   go_wp2
   go_ret
   exact ⟨rfl,HF.out⟩
theorem lawTopLeaders_w (v:Value) (l:List Scu.Raw) {w:World} (h:IsRaws w w.heap.size v l) (W:World) (hW:W=w) (ht:Tab W) :
 Calls Tryd.prog 8 #[v] W fun e w'=>e=.returned (.bool true)∧Below W.heap.size W w':=by
 subst hW
 exact lawTopLeaders_c v l W h ht
end Go.Proofs.YtnpphdaakookcaaDoor
namespace Go.Proofs.YtnpphdaakookcaaDoor.topLeadersDone
open Go.ChangeShapes Go.WideShapes Go.ChangeAt Go.RowKit
open Go.ChangeMaps (open_string shut_string)
theorem own : ownKnob Tryd.prog.godebug = none := by kernel_rfl
theorem laidOut : laidOutB Tryd.prog = true := by kernel_rfl
set_option maxRecDepth 100000 in
theorem lifted (os : Os) (started : os.Started) (H : Type) (enc : TypeId × Value → H) :
    ReturnsInHanded {} Tryd.checked os 8 .any (fun w args => (Rows.topLeadersSpec.pre enc Tryd.prog Tryd.f8 [] false w args ∧ laidMetH Tryd.prog Rows.topLeadersRow.laid w) ∧ sizedMet enc Tryd.prog Tryd.f8 (OpenSpec.ofChange Rows.topLeadersSpec) false w args)
      (Rows.topLeadersSpec.post enc Tryd.prog Tryd.f8 false true false false) := by
  refine returnsInHanded_of_change_and (C := Tryd.checked) (X := fun w _ => laidMetH Tryd.prog Rows.topLeadersRow.laid w) (fun _ _ _ hh h => h.of_heap hh) own started (by kernel_rfl) Tryd.func8
    (ChangeSpec.witness_shaped (enc := enc) (C := Tryd.checked) (os := os) (X := fun w _ => laidMetH Tryd.prog Rows.topLeadersRow.laid w) false (World.doorLaid Tryd.prog doorFuel os) #[.slice none 0 0] 8 rfl (zCs os _) (by kernel_rfl) (by kernel_rfl) (by kernel_rfl) (zFu os _)) ?_
  intro W base args ds gs before hval0 hW _ hsz hL _
  have htab := zKz hL
  have hwt0 : ∀ (j : Nat) (t : TypeId) (d : DataW H), (Tryd.f8.params.toList ++ Rows.topLeadersSpec.plain.varTypes Tryd.prog)[j]? = some t → (ds ++ gs)[j]? = some d → ∀ k ∈ d.weights Tryd.prog t, k ≤ reachBytes := fun j t d ht hd k hk => by
    have := List.all_eq_true.1 hsz k (DataW.weights_mem_each ht hd k hk)
    simpa using this
  clear hsz hL
  have hwt := hwt0
  rw [Tryd.params8] at hwt
  have hval : ∀ (j : Nat) t v, Tryd.f8.params[j]? = some t → args[j]? = some v → Value.okWide Tryd.prog W .any base t v := hval0
  have hW' := hW
  obtain ⟨p, q, hA0, hV, rfl, hfz, hnd⟩ := hW
  have hA : DataW.TrodAll enc Tryd.prog W 0 (fun _ => true) true Tryd.f8.params.toList args.toList ds p := hA0
  rw [Tryd.params8] at hA hval
  obtain ⟨v0, vs0, d0, ds0, p0, q0, hargs, rfl, rfl, h0, r0⟩ := trodAll_cons hA
  obtain ⟨rfl, rfl, rfl⟩ := trodAll_nil r0
  obtain rfl : args = #[v0] := by cases args; simp_all
  obtain ⟨rfl, rfl⟩ := trodVars_none hV
  have k0 := h0
  have lt0 : ∀ x ∈ p0, x.block < W.heap.size := by obtain ⟨m, hm⟩ := k0; exact DataW.trod_lt m _ _ _ hm
  obtain ⟨a0, w0⟩ := zDh (hval 0 22 v0 rfl rfl) h0 (hwt 0 22 d0 rfl rfl)
  clear hA0 hval0
  refine (lawTopLeaders_w v0 a0 w0 W rfl htab).mono fun e W' ⟨he, bel⟩ => ?_
  subst he
  exact ⟨_, rfl, _, _, _, [], _, [], hW', trodAll_mk1 (shut_bool Tryd.underlying4 _), (trodAll_cons_mk (Below.trod laidOut (by kernel_rfl) (of_decide_eq_true (by kernel_rfl)) k0 bel lt0) trodAll_mk0), rfl, bel.frame _, fun h => by cases h⟩
theorem over : Rows.TopLeadersSaid :=
  OpenClaim.holds_of_wide 8 Tryd.f8 rfl rfl rfl rfl rfl rfl rfl ⟨rfl, rfl, rfl, rfl, rfl⟩ rfl rfl rfl rfl rfl (by kernel_rfl) Tryd.func8 (zFt rfl rfl rfl rfl rfl rfl (by as_aux_lemma => kernel_rfl) (by as_aux_lemma => kernel_rfl) (by as_aux_lemma => kernel_rfl) (by as_aux_lemma => kernel_rfl) (by as_aux_lemma => kernel_rfl) (by as_aux_lemma => kernel_rfl) (by as_aux_lemma => kernel_rfl))
    (of_decide_eq_true (by kernel_rfl)) (by unfold Func.isWrapper; first | (rw [if_pos (by decide +kernel)]; kernel_rfl) | (rw [if_neg (by decide +kernel)]; exact ⟨rfl, rfl⟩))
    (fun os started H enc _ => lifted os started H enc)
theorem proved : Rows.TopLeadersCardSaid :=
  Claim7.holds_tied_plain_at .later [] [.data, .data, .data] true Rows.topLeadersCard.stood.harness false
    over (fun _ h => by cases h) (by kernel_rfl) (fun _ h => by cases h) topLeaders_row_tie rfl ⟨rfl, rfl⟩ (by kernel_rfl) rfl
    (fun f fn hf hfn => by
      obtain rfl : f = 8 := Option.some.inj ((show Tryd.prog.funcNamed Rows.topLeadersRow.func = some 8 by kernel_rfl).symm.trans hf) |>.symm
      obtain rfl : fn = Tryd.f8 := (Option.some.inj (Tryd.func8.symm.trans hfn)).symm
      exact ⟨by kernel_rfl, fun j t ht => by
        rw [Tryd.params8] at ht
        have hm : t ∈ [22] := by simpa using Array.mem_of_getElem? ht
        have hall : ([22].all fun u => !Tryd.prog.wantsStandIn u) = true := by kernel_rfl
        exact (show Tryd.prog.wantsStandIn t = false by simpa using List.all_eq_true.1 hall t hm)⟩)
    (by kernel_rfl)
end Go.Proofs.YtnpphdaakookcaaDoor.topLeadersDone
