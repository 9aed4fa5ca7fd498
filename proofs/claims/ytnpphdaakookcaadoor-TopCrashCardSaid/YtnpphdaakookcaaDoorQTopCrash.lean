/- The card of the law 'TopCrash': for every input the call returns true; each argument reads as it did. Condition: the three tables of numbers that the library reads hold what the program's text lays in them, which the card ties. -/
import Derived.Test.YtnpphdaakookcaaDoorCards
import Derived.SevenTiedAt
import Derived.ChangeOld
import Derived.Below
import Derived.Test.YtnpphdaakookcaaDoorQ40
set_option linter.unusedVariables false
set_option linter.unusedSimpArgs false
set_option maxHeartbeats 4000000
set_option maxRecDepth 100000
namespace Go.Proofs.YtnpphdaakookcaaDoor
open Go.RowKit
theorem zXe {w:World} {g n m:Nat} {e:TypeId} {xs:List Value} (h:Blk w g e xs.toArray) (hn:xs.length=n*m):Src1 w m (.slice (some ⟨g,0,none⟩) n n) n xs :=
 ⟨hn,.inr ⟨_,_,rfl,fun j u hj=>by
  have:(⟨g,0,none⟩:Addr).add j=⟨g,j,none⟩:=by unfold Addr.add;split <;> simp_all
  rw [this,h.cell]
  simpa using hj⟩⟩
theorem zXf {w:World} {A:Option Addr} {n c:Nat} {ss:List (List Scu.Str)} (h:IsRow 42 1 24 RowE w 0 (.slice A n c) ss) {k:Nat} (hk:k < ss.length):∃ g o Au nu cu,A=some ⟨g,o,none⟩∧w.cell? ⟨g,o+k,none⟩=some (.slice Au nu cu)∧IsStrs w 0 (.slice Au nu cu) ss[k]:=by
 obtain ⟨⟨A',c',css2,e1,_,h2,h3,Hb,h4⟩,_⟩:=h
 cases e1
 obtain ⟨g,o,cs1,rfl,hg,_,Ha,u,rfl,hu⟩:=zDo h2 h3 (by decide) Hb h4 hk
 obtain ⟨Au,nu,cu,rfl⟩:=hu.form
 have:=Ha 0 _ rfl
 rw [Nat.mul_one,Nat.add_zero] at this
 exact ⟨g,o,Au,nu,cu,rfl,this,hu⟩
theorem lawTopCrash_c (v:Value) (l:List Scu.Raw) (w:World) (h:IsRaws w w.heap.size v l) (ht:Tab w) :
 Calls Tryd.prog 9 #[v] w fun e w'=>e=.returned (.bool true)∧Below w.heap.size w w':=by
 obtain ⟨Al,cl,rfl,Vm⟩:=h.form'
 obtain ⟨la,Ht⟩:∃ la,Scu.rawActs l 250 3=la:=⟨_,rfl⟩
 obtain ⟨o,ho⟩:∃ o,Scu.outOf (Scu.steps (Scu.netNew 3) la)=o:=⟨_,rfl⟩
 obtain ⟨p,hp⟩:∃ p,Scu.outOf (Scu.steps (Scu.netNew 3) (la ++ Scu.falls))=p:=⟨_,rfl⟩
 have K:=Lib.hid (zRt (.slice Al l.length cl) l 250 w w.heap.size (Nat.le_refl _) h ht (by decide) la Ht o ho)
 have K2:=Lib.hid (fun (W:World) (hb:Below w.heap.size w W) (g:Nat) (Hi:Blk W g 40 (Scu.falls.map actV).flatten.toArray)=>yBn (.slice Al l.length cl) l 250 W w.heap.size hb.size (h.below hb) (ht.below hb) (some ⟨g,0,none⟩) 3 Scu.falls 3 rfl (by decide) (fun W' Vc=>zXe (Hi.same Vc) (by rw [zXc];rfl)) (la ++ Scu.falls) (by rw [Ht]) p hp)
 have Vd:=Lib.hid (Scu.came_bound ho)
 have Ve:=Lib.hid (Scu.came_bound hp)
 have Kk:=Lib.hid (Scu.came_falls ho hp)
 have Vf:=Lib.hid (Scu.came_slot ho)
 have Kl:=Lib.hid (Scu.came_len ho)
 have Km:=Lib.hid (Scu.came_len hp)
 clear h ht Ht ho hp
 go_enter Tryd.func9,Tryd.ntmps9
 go_wp2_with fail
 refine K.out.mono ?_;rintro e w1 ⟨⟨A,c,A0,c0,A1,c1,A2,c2,A3,c3,A4,c4,A5,c5,rfl,Hb,Hc⟩,h1⟩
 go_upto_region 2 with fail
 have hR:=RanB.made h1 Hb
 obtain ⟨Wd,Hu⟩:∃ W,W=w1.alloc (Obj.cells #[.slice A0 o.replicas.length c0,.slice A1 o.slots.length c1,.slice A2 o.flying.length c2,.slice A3 o.clients.length c3,.slice A4 o.told.length c4,.slice A5 o.codes.length c5] 32):=⟨_,rfl⟩
 obtain ⟨g,hg⟩:∃ g,w1.heap.size=g:=⟨_,rfl⟩
 rw [← Hu,hg] at hR
 rw [← Hu,hg]
 have HR:=Lib.hid hR
 clear hR Hu hg h1 Hb Hc K
 go_wp2_with fail
 have Hv:=zAa Wd (Obj.cells (Scu.falls.map actV).flatten.toArray 40)
 refine (K2.out (Wd.alloc (Obj.cells (Scu.falls.map actV).flatten.toArray 40)) (HR.out.low.trans (Hv.mono HR.out.low.size)) Wd.heap.size (Blk.new Wd _ _)).mono ?_;rintro e w3 ⟨⟨D,d,D0,d0,D1,d1,D2,d2,D3,d3,D4,d4,D5,d5,rfl,Hb,Hc⟩,h3⟩
 go_upto_region 3 with fail
 have hR:=RanB.made h3 Hb
 have He:=(HR.out.below Hv).below (h3.trans ((zAa w3 (Obj.cells #[.slice D0 p.replicas.length d0,.slice D1 p.slots.length d1,.slice D2 p.flying.length d2,.slice D3 p.clients.length d3,.slice D4 p.told.length d4,.slice D5 p.codes.length d5] 32)).mono h3.size))
 obtain ⟨We,Hn⟩:∃ W,W=w3.alloc (Obj.cells #[.slice D0 p.replicas.length d0,.slice D1 p.slots.length d1,.slice D2 p.flying.length d2,.slice D3 p.clients.length d3,.slice D4 p.told.length d4,.slice D5 p.codes.length d5] 32):=⟨_,rfl⟩
 obtain ⟨g3,Hw⟩:∃ g,w3.heap.size=g:=⟨_,rfl⟩
 obtain ⟨Wf,Kn⟩:∃ W,W=Wd.alloc (Obj.cells (Scu.falls.map actV).flatten.toArray 40):=⟨_,rfl⟩
 rw [← Hn,Hw,← Kn] at hR
 rw [← Hn] at He
 rw [← Hn,Hw]
 clear Hn Hw h3 Hb Hc K2 HR Hv Kn
 go_wp2_with fail
 obtain ⟨S,Hh⟩:∃ S:World→Prop,S=fun w'=>RanB w w' g A0 c0 A1 c1 A2 c2 A3 c3 A4 c4 A5 c5 o∧RanB Wf w' g3 D0 d0 D1 d1 D2 d2 D3 d3 D4 d4 D5 d5 p:=⟨_,rfl⟩
 have Hj:∀ W,S W→RanB w W g A0 c0 A1 c1 A2 c2 A3 c3 A4 c4 A5 c5 o∧RanB Wf W g3 D0 d0 D1 d1 D2 d2 D3 d3 D4 d4 D5 d5 p:=fun W h=>by rw [Hh] at h;exact h
 have Ho:∀ W W',S W→Below W.heap.size W W'→S W':=fun W W' h hb=>by rw [Hh] at h ⊢;exact ⟨h.1.below hb,h.2.below hb⟩
 have Ha:S We.drew:=by rw [Hh];exact ⟨He.drew,hR.drew⟩
 obtain ⟨all,Hf⟩:∃ all,Scu.committed o.replicas=all:=⟨_,rfl⟩
 have Vg:=Lib.hid (Kk.out.1.symm.trans Hf)
 have Vh:=Lib.hid Hf
 clear hR He Hf
 refine wp_region_held (S:=S) (by kernel_rfl) ?_
 change wpAnyH _ _ _ _ _ _ _ _ We.drew
 refine tkHs [0,1,2,3,4,5,6,7,9] (by kernel_rfl) (fun _ _ _ _ _ h=>h) Ha ?_
 iterate 9
  refine tkc (v:=?_) rfl (Or.inl ⟨by rfl,?_⟩) ?_
  rotate_left
  ·(intro wv Hk;rw [Hh] at Hk;obtain ⟨sx,sy⟩:=Hk;have s0:=sx.box.cell 0;have s1:=sx.box.cell 1;have s2:=sx.box.cell 2;have s3:=sx.box.cell 3;have s4:=sx.box.cell 4;have s5:=sx.box.cell 5;have u0:=sy.box.cell 0;have u1:=sy.box.cell 1;have u2:=sy.box.cell 2;have u3:=sy.box.cell 3;have u4:=sy.box.cell 4;have u5:=sy.box.cell 5;simp only [List.getElem?_toArray,List.getElem?_cons_zero,List.getElem?_cons_succ] at s0 s1 s2 s3 s4 s5 u0 u1 u2 u3 u4 u5;clear sx sy;go_simp;(try with_reducible rfl))
  (try simp only [Act.put,zp1,zp2,zp3])
 refine tkz ?_
 refine alH 8 (by kernel_rfl) (wpOp_step (o:=_) rfl fun KA Ko=>?_)
 go_simp
 refine (zBo _ _ _ _ _ _ o.replicas _ (Hj _ Ha).1.out.reps Vd.out rfl rfl rfl rfl rfl).mono ?_;rintro e w6 ⟨⟨A6,c6,rfl,Hl⟩,h6⟩
 rw [Vh.out] at Hl ⊢
 have Hx:=Ho _ _ Ha h6
 refine Ko _ _ ⟨Hx,?_⟩
 (try simp only [Act.put,zp1,zp2,zp3])
 clear Ha h6 Ko
 have Ha:=Hx
 refine alH 10 (by kernel_rfl) (wpOp_step (o:=_) rfl fun KB Kp=>?_)
 go_simp
 refine (zBo _ _ _ _ _ _ p.replicas _ (Hj _ Ha).2.out.reps Ve.out rfl rfl rfl rfl rfl).mono ?_;rintro e w7 ⟨⟨A7,c7,rfl,Hy⟩,h7⟩
 rw [Vg.out] at Hy ⊢
 have Hl:=Hl.below h7
 have Hz:=Ho _ _ Ha h7
 refine Kp _ _ ⟨Hz,?_⟩
 (try simp only [Act.put,zp1,zp2,zp3])
 clear Ha Hx h7 Kp
 have Ha:=Hz
 have Ka:=Lib.hid (And.intro Hl Hy)
 refine alH 11 (by kernel_rfl) (wpOp_step (o:=_) rfl fun KC Kq=>?_)
 go_simp
 refine (zRs _ _ all all _ 0 0 Ka.out.1 Ka.out.2 rfl).mono ?_;rintro e x ⟨rfl,n8,rfl⟩
 have Kb:=Ho _ _ Ha (below_drewN (Below.refl _ _) n8)
 refine Kq _ _ ⟨Kb,?_⟩
 (try simp only [Act.put,zp1,zp2,zp3])
 clear Ha Hz Kq Ka Hl Hy
 have Ha:=Kb
 refine tkHs [12,13] (by kernel_rfl) (fun _ _ _ _ _ h=>h) Ha ?_
 iterate 2
  refine tkc (v:=?_) rfl (Or.inl ⟨by rfl,?_⟩) ?_
  rotate_left
  ·(intro wv Hk;rw [Hh] at Hk;obtain ⟨sx,sy⟩:=Hk;have s0:=sx.box.cell 0;have s1:=sx.box.cell 1;have s2:=sx.box.cell 2;have s3:=sx.box.cell 3;have s4:=sx.box.cell 4;have s5:=sx.box.cell 5;have u0:=sy.box.cell 0;have u1:=sy.box.cell 1;have u2:=sy.box.cell 2;have u3:=sy.box.cell 3;have u4:=sy.box.cell 4;have u5:=sy.box.cell 5;simp only [List.getElem?_toArray,List.getElem?_cons_zero,List.getElem?_cons_succ] at s0 s1 s2 s3 s4 s5 u0 u1 u2 u3 u4 u5;clear sx sy;go_simp;(try with_reducible rfl))
  (try simp only [Act.put,zp1,zp2,zp3])
 refine tkz ?_
 refine wpAnyH_done (by kernel_rfl) ?_ _
 (try simp only [Act.put,zp1,zp2,zp3])
 refine genW (P:=fun W=>Exit.then _ _ _ _ W) (fun w2 Kr=>?_)
 rw [← Kr] at Ha
 clear Kb Kr
 have He:=(Hj _ Ha).1
 have hR:=(Hj _ Ha).2
 clear Ha Hj Ho Hh
 have d0:=cz1 hR.box
 obtain ⟨-,s1⟩:=cz2 He.box
 have Kc:=hR.out.reps.len
 unfold R47 at Kc
 have Vi:=He.box.lt
 have HR:=Lib.hid hR
 have Kd:=Lib.hid He
 clear hR He
 go_wp2_with fail
 go_loopw [48] (fun i wr=>∃ k:Nat,k≤p.replicas.length∧i=.int .i64 k∧Hid (Below w2.heap.size w2 wr)) (fun i _=>p.replicas.length - (intOf i).toNat)
 case atStart=>exact ⟨0,Nat.zero_le _,rfl,Lib.hid (Below.refl _ _)⟩
 case round =>
  obtain ⟨k,hk,rfl,HK⟩:=hrel
  by_cases Ks:k < p.replicas.length
  ·have Ke:(k:Int) < (p.replicas.length:Int):=by omega
   have Kt:k < o.slots.length:=by have:=Kl.out.2;have:=Km.out.1;omega
   have Ku:k < o.replicas.length:=by have:=Kl.out.1;have:=Km.out.1;omega
   have Vj:(k:Int) < (o.slots.length:Int):=by omega
   obtain ⟨gen,at_,Hp⟩:=Vf.out k Ku Kt
   rw [← Kk.out.2 k Ku Ks] at Hp
   obtain ⟨rk,Kf⟩:∃ rk,p.replicas[k]=rk:=⟨_,rfl⟩
   obtain ⟨gr,or_,F0,q0,F1,q1,F2,q2,F3,q3,F4,q4,rfl,Vn,Kv,p0,p1,p2,p3,p4,p5,p6,p7,p8,p9⟩:=zJv (zEo HR.out.out.reps HK.out) Ks Kf
   rw [Kf] at Hp
   obtain ⟨gs,os,Au,nu,cu,rfl,Kg,Kw⟩:=zXf (Kd.out.below HK.out).out.slots Kt
   have Hd:=zAa wr (Obj.cells (rN rk F0 rk.kept.log.length q0 F1 q1 F2 q2 F3 q3 F4 q4) 49)
   have Hg:=Blk.new wr 49 (rN rk F0 rk.kept.log.length q0 F1 q1 F2 q2 F3 q3 F4 q4)
   have HB:=Lib.hid (HK.out.trans (Hd.mono HK.out.size))
   have Hm:=cW Hd (World.block_lt_of_cell? wr _ Kg) Kg
   have s1':=cW HB.out Vi s1
   have Kx:=Lib.hid (Kv.log.below Hd)
   have Ky:=Lib.hid (Kw.below Hd)
   have Vk:=Lib.hid Hp
   clear Kv Kf Kw Kg Hp
   go_upto_region 8 with fail
   obtain ⟨Wq,Hq⟩:∃ W,W=wr.alloc (Obj.cells (rN rk F0 rk.kept.log.length q0 F1 q1 F2 q2 F3 q3 F4 q4) 49):=⟨_,rfl⟩
   obtain ⟨gq,Kh⟩:∃ g,wr.heap.size=g:=⟨_,rfl⟩
   rw [← Hq,Kh] at Hg
   rw [← Hq] at HB Kx Ky Hm s1'
   rw [← Hq,Kh]
   have Vl:=Lib.hid Hg
   clear Hq Kh Hg Hd p0 p1 p2 p3 p4 p5 p6 p7 p8 p9
   go_wp2_with fail
   refine (zJq _ _ Wq 0 Ky.out rk.kept gen at_ 0 Vk.out).mono ?_;rintro e w5 ⟨⟨Ak,nk,ck,rfl,Kz⟩,h5⟩
   go_upto_region 9 with fail
   have Hd:=zAa w5 (Obj.cells #[.int .i64 rk.kept.view,.int .i64 rk.kept.normal,.bool rk.kept.calm,.slice Ak nk ck,.int .i64 rk.kept.commit] 44)
   have Hr:=h5.trans (Hd.mono h5.size)
   have Hi:=Blk.new w5 44 #[.int .i64 rk.kept.view,.int .i64 rk.kept.normal,.bool rk.kept.calm,.slice Ak nk ck,.int .i64 rk.kept.commit]
   have Hg:=Vl.out.same Hr
   have Ki:=Lib.hid (HB.out.trans (Hr.mono HB.out.size))
   have Va:=Lib.hid (Kx.out.below Hr)
   have Vb:=Lib.hid (Kz.below Hd)
   obtain ⟨Wz,Hs⟩:∃ W,W=w5.alloc (Obj.cells #[.int .i64 rk.kept.view,.int .i64 rk.kept.normal,.bool rk.kept.calm,.slice Ak nk ck,.int .i64 rk.kept.commit] 44):=⟨_,rfl⟩
   obtain ⟨gz,Kj⟩:∃ g,w5.heap.size=g:=⟨_,rfl⟩
   rw [← Hs,Kj] at Hi
   rw [← Hs] at Hg Ki Va Vb
   rw [← Hs,Kj]
   obtain ⟨-,x1,-,x3,x4⟩:=cz5 Hg
   obtain ⟨y0,-,y2,y3⟩:=cz4 Hi
   have Vo:(rk.kept.view != rk.kept.view)=false:=by simp
   have Vp:(rk.kept.calm != rk.kept.calm)=false:=by simp
   clear Hg Hi Hs Kj Hd Hr h5 Kz s1' Hm
   go_wp2_with fail
   refine (zRs _ _ rk.kept.log rk.kept.log _ 0 0 Vb.out Va.out rfl).mono ?_;rintro e x ⟨rfl,n9,rfl⟩
   go_wp2_with fail
   go_roundw
   case rel=>first | exact ⟨k+1,by omega,rfl,Lib.hid (below_drewN Ki.out _)⟩ | ((repeat apply Exists.intro);exact ⟨⟨k+1,by omega,rfl,Lib.hid (below_drewN Ki.out _)⟩,rfl⟩)
   case measure=>first | (simp only [intOf];omega) | (simp [intOf];omega)
  have Ke:¬ (k:Int) < (p.replicas.length:Int):=by omega
  have HF:=Lib.hid (Kd.out.low.trans (HK.out.mono Kd.out.low.size))
  go_wp2
  go_ret
  exact ⟨rfl,HF.out⟩
theorem lawTopCrash_w (v:Value) (l:List Scu.Raw) {w:World} (h:IsRaws w w.heap.size v l) (W:World) (hW:W=w) (ht:Tab W) :
 Calls Tryd.prog 9 #[v] W fun e w'=>e=.returned (.bool true)∧Below W.heap.size W w':=by
 subst hW
 exact lawTopCrash_c v l W h ht
end Go.Proofs.YtnpphdaakookcaaDoor
namespace Go.Proofs.YtnpphdaakookcaaDoor.topCrashDone
open Go.ChangeShapes Go.WideShapes Go.ChangeAt Go.RowKit
open Go.ChangeMaps (open_string shut_string)
theorem own : ownKnob Tryd.prog.godebug = none := by kernel_rfl
theorem laidOut : laidOutB Tryd.prog = true := by kernel_rfl
set_option maxRecDepth 100000 in
theorem lifted (os : Os) (started : os.Started) (H : Type) (enc : TypeId × Value → H) :
    ReturnsInHanded {} Tryd.checked os 9 .any (fun w args => (Rows.topCrashSpec.pre enc Tryd.prog Tryd.f9 [] false w args ∧ laidMetH Tryd.prog Rows.topCrashRow.laid w) ∧ sizedMet enc Tryd.prog Tryd.f9 (OpenSpec.ofChange Rows.topCrashSpec) false w args)
      (Rows.topCrashSpec.post enc Tryd.prog Tryd.f9 false true false false) := by
  refine returnsInHanded_of_change_and (C := Tryd.checked) (X := fun w _ => laidMetH Tryd.prog Rows.topCrashRow.laid w) (fun _ _ _ hh h => h.of_heap hh) own started (by kernel_rfl) Tryd.func9
    (ChangeSpec.witness_shaped (enc := enc) (C := Tryd.checked) (os := os) (X := fun w _ => laidMetH Tryd.prog Rows.topCrashRow.laid w) false (World.doorLaid Tryd.prog doorFuel os) #[.slice none 0 0] 8 rfl (zCs os _) (by kernel_rfl) (by kernel_rfl) (by kernel_rfl) (zFu os _)) ?_
  intro W base args ds gs before hval0 hW _ hsz hL _
  have htab := zKz hL
  have hwt0 : ∀ (j : Nat) (t : TypeId) (d : DataW H), (Tryd.f9.params.toList ++ Rows.topCrashSpec.plain.varTypes Tryd.prog)[j]? = some t → (ds ++ gs)[j]? = some d → ∀ k ∈ d.weights Tryd.prog t, k ≤ reachBytes := fun j t d ht hd k hk => by
    have := List.all_eq_true.1 hsz k (DataW.weights_mem_each ht hd k hk)
    simpa using this
  clear hsz hL
  have hwt := hwt0
  rw [Tryd.params9] at hwt
  have hval : ∀ (j : Nat) t v, Tryd.f9.params[j]? = some t → args[j]? = some v → Value.okWide Tryd.prog W .any base t v := hval0
  have hW' := hW
  obtain ⟨p, q, hA0, hV, rfl, hfz, hnd⟩ := hW
  have hA : DataW.TrodAll enc Tryd.prog W 0 (fun _ => true) true Tryd.f9.params.toList args.toList ds p := hA0
  rw [Tryd.params9] at hA hval
  obtain ⟨v0, vs0, d0, ds0, p0, q0, hargs, rfl, rfl, h0, r0⟩ := trodAll_cons hA
  obtain ⟨rfl, rfl, rfl⟩ := trodAll_nil r0
  obtain rfl : args = #[v0] := by cases args; simp_all
  obtain ⟨rfl, rfl⟩ := trodVars_none hV
  have k0 := h0
  have lt0 : ∀ x ∈ p0, x.block < W.heap.size := by obtain ⟨m, hm⟩ := k0; exact DataW.trod_lt m _ _ _ hm
  obtain ⟨a0, w0⟩ := zDh (hval 0 22 v0 rfl rfl) h0 (hwt 0 22 d0 rfl rfl)
  clear hA0 hval0
  refine (lawTopCrash_w v0 a0 w0 W rfl htab).mono fun e W' ⟨he, bel⟩ => ?_
  subst he
  exact ⟨_, rfl, _, _, _, [], _, [], hW', trodAll_mk1 (shut_bool Tryd.underlying4 _), (trodAll_cons_mk (Below.trod laidOut (by kernel_rfl) (of_decide_eq_true (by kernel_rfl)) k0 bel lt0) trodAll_mk0), rfl, bel.frame _, fun h => by cases h⟩
theorem over : Rows.TopCrashSaid :=
  OpenClaim.holds_of_wide 9 Tryd.f9 rfl rfl rfl rfl rfl rfl rfl ⟨rfl, rfl, rfl, rfl, rfl⟩ rfl rfl rfl rfl rfl (by kernel_rfl) Tryd.func9 (zFt rfl rfl rfl rfl rfl rfl (by as_aux_lemma => kernel_rfl) (by as_aux_lemma => kernel_rfl) (by as_aux_lemma => kernel_rfl) (by as_aux_lemma => kernel_rfl) (by as_aux_lemma => kernel_rfl) (by as_aux_lemma => kernel_rfl) (by as_aux_lemma => kernel_rfl))
    (of_decide_eq_true (by kernel_rfl)) (by unfold Func.isWrapper; first | (rw [if_pos (by decide +kernel)]; kernel_rfl) | (rw [if_neg (by decide +kernel)]; exact ⟨rfl, rfl⟩))
    (fun os started H enc _ => lifted os started H enc)
theorem proved : Rows.TopCrashCardSaid :=
  Claim7.holds_tied_plain_at .later [] [.data, .data, .data] true Rows.topCrashCard.stood.harness false
    over (fun _ h => by cases h) (by kernel_rfl) (fun _ h => by cases h) topCrash_row_tie rfl ⟨rfl, rfl⟩ (by kernel_rfl) rfl
    (fun f fn hf hfn => by
      obtain rfl : f = 9 := Option.some.inj ((show Tryd.prog.funcNamed Rows.topCrashRow.func = some 9 by kernel_rfl).symm.trans hf) |>.symm
      obtain rfl : fn = Tryd.f9 := (Option.some.inj (Tryd.func9.symm.trans hfn)).symm
      exact ⟨by kernel_rfl, fun j t ht => by
        rw [Tryd.params9] at ht
        have hm : t ∈ [22] := by simpa using Array.mem_of_getElem? ht
        have hall : ([22].all fun u => !Tryd.prog.wantsStandIn u) = true := by kernel_rfl
        exact (show Tryd.prog.wantsStandIn t = false by simpa using List.all_eq_true.1 hall t hm)⟩)
    (by kernel_rfl)
end Go.Proofs.YtnpphdaakookcaaDoor.topCrashDone
