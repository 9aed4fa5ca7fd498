/- Part 25: words and walks under the laws of the whole. -/
import Derived.Test.YtnpphdaakookcaaDoorQ12
import Derived.Test.YtnpphdaakookcaaDoorQ24
set_option linter.unusedVariables false
set_option linter.unusedSimpArgs false
set_option maxHeartbeats 4000000
set_option maxRecDepth 100000
namespace Go.Proofs.YtnpphdaakookcaaDoor
open Go.RowKit
def AppRet (w:World) (y:Scu.State) (c:Int) (e:Ending):Prop:=∃ nv sv lv,e=.returned (.tuple #[.agg #[nv,sv,lv],.int .i64 c])/\IsState w 0 nv sv lv y
theorem zRn (w:World):IsState w 0 (.slice none 0 0) (.slice none 0 0) (.slice none 0 0) Scu.state0 :=
 ⟨(OwnVol.zero_ w 0).is,⟨⟨none,0,rfl,mE _,Rd.nil⟩,by simp [Scu.state0,R47]⟩⟩
theorem zLz (w:World) (c:Int):AppRet w Scu.state0 c (.returned (.tuple #[.agg #[.slice none 0 0,.slice none 0 0,.slice none 0 0],.int .i64 c])):=⟨_,_,_,rfl,zRn w⟩
section
variable {s:Scu.State} {e:Scu.Str} {r:Scu.Request} {c:Int}
theorem ap1 (h:Scu.stateFault s≠0):Scu.apply s e=(Scu.state0,Scu.stateFault s):=if_pos h
theorem ap2 (h:¬ Scu.stateFault s≠0) (hd:Scu.decode e=(r,c)) (hc:c≠0):Scu.apply s e=(Scu.state0,c):=by
 unfold Scu.apply
 rw [if_neg h,hd,if_pos hc]
theorem ap3 (h:¬ Scu.stateFault s≠0) (hd:Scu.decode e=(r,0)):Scu.apply s e=(Scu.applyIt s r,0):=by
 unfold Scu.apply
 rw [if_neg h,hd,if_neg (by simp)]
theorem zCq (hd:Scu.decode e=(r,0)):Scu.reqFault r=0:=by
 unfold Scu.decode at hd
 split at hd
 ·simp at hd
 split at hd
 ·simp at hd
 simp only at hd
 split at hd
 ·rename_i h;exact absurd (congrArg Prod.snd hd) h
 split at hd
 ·rename_i h;exact absurd (congrArg Prod.snd hd) h
 split at hd
 ·simp at hd
 split at hd
 ·rename_i h;exact absurd (congrArg Prod.snd hd) h
 rename_i h
 have e1:=congrArg Prod.fst hd
 simp only at e1
 rw [<- e1]
 exact Decidable.not_not.1 h
theorem zHe (h:¬ Scu.stateFault s≠0):s.lasts.length=4/\¬ Scu.volFault s.volume≠0:=by
 unfold Scu.stateFault at h
 split at h
 ·rename_i hx
  unfold Scu.lastsOk at hx
  simp only [Bool.and_eq_true,beq_iff_eq] at hx
  exact ⟨hx.1,h⟩
 exact absurd (by decide) h
end
section
variable {w w':World} {nv sv lv:Value} {x:Scu.State}
theorem IsState.same (h:IsState w 0 nv sv lv x) (hs:Same [9,42,76] 0 w w'):IsState w' 0 nv sv lv x :=
 ⟨h.vol.same (hs.mono (fun t ht=>by simp at ht ⊢;rcases ht with h | h <;> simp [h]) (mC _)) rfl,h.lasts.same (hs.mono (fun t ht=>by simp at ht ⊢;simp [ht]) (mC _))⟩
theorem IsState.sets3 {g:Nat} {cs:Array Value} (h:IsState w 0 nv sv lv x) (hb:Blk w g 72 cs) (a b c:Value) :
 IsState (((w.setCell ⟨g,0,none⟩ a).setCell ⟨g,1,none⟩ b).setCell ⟨g,2,none⟩ c) 0 nv sv lv x:=h.same (Same.sets3 hb (mE _) (by decide) a b c)
theorem IsState.drew (h:IsState w 0 nv sv lv x):IsState w.drew 0 nv sv lv x:=h.below (mG _ _).drew
end
theorem zCg {B g:Nat} {w w1:World} {a b c:Value} (h:Below B w w1) (hg:B<=g) :
 Below B w (((w1.setCell ⟨g,0,none⟩ a).setCell ⟨g,1,none⟩ b).setCell ⟨g,2,none⟩ c) :=
 ((h.setCell (p:=⟨g,0,none⟩) hg _).setCell (p:=⟨g,1,none⟩) hg _).setCell (p:=⟨g,2,none⟩) hg _
theorem zDy {g:Nat} {w:World} {a b c p q r:Value} (h:Blk w g 72 #[p,q,r]) :
 Blk (((w.setCell ⟨g,0,none⟩ a).setCell ⟨g,1,none⟩ b).setCell ⟨g,2,none⟩ c) g 72 #[a,b,c]:=((h.set_ 0 a).set_ 1 b).set_ 2 c
open Go.RowKit
theorem zWa (A0:Option Addr) (n0 c0:Nat) (A1:Option Addr) (n1 c1:Nat) (A2:Option Addr) (n2 c2:Nat) (x:Scu.State) (s:Scu.Str) (w:World) (B:Nat) (hv:IsState w B (.slice A0 n0 c0) (.slice A1 n1 c1) (.slice A2 n2 c2) x) (hf:Scu.stateFault x≠0) :
 Calls Tryd.prog 39 #[.agg #[.slice A0 n0 c0,.slice A1 n1 c1,.slice A2 n2 c2],.string s] w fun e w'=>AppRet w' Scu.state0 (Scu.stateFault x) e/\Below w.heap.size w w':=by
 have HV:=mA hv
 have Hc:(Scu.stateFault x != 0)=true:=by simpa using hf
 clear hf hv
 go_enter Tryd.func39,Tryd.ntmps39
 go_wp2_with fail
 refine (zGf _ _ _ x _ B ((HV.out.alloc _).alloc _)).mono ?_;rintro en w1 ⟨rfl,h1⟩
 have Hd:Blk w1 w.heap.size 72 #[.slice A0 n0 c0,.slice A1 n1 c1,.slice A2 n2 c2]:=((Blk.new w _ _).alloc _).same h1
 have Ha:Blk w1 (w.heap.size+1) 72 #[.slice none 0 0,.slice none 0 0,.slice none 0 0]:=(Blk.new' (by simp)).same h1
 have Hb:Below w.heap.size w w1:=((zAa w (.cells #[.slice A0 n0 c0,.slice A1 n1 c1,.slice A2 n2 c2] 72)).alloc (by simp) (.cells #[.slice none 0 0,.slice none 0 0,.slice none 0 0] 72)).trans (h1.mono (by simp;omega))
 clear h1
 obtain ⟨z0,z1,z2⟩:=cz3 Ha
 have zz:=Ha.frozen
 have zl:=Ha.lt
 have hr:=zDy (a:=.slice none 0 0) (b:=.slice none 0 0) (c:=.slice none 0 0) Ha
 obtain ⟨r0,r1,r2⟩:=cz3 hr
 go_wp2
 refine bodyPost_ret (v:=.tuple #[.agg #[.slice none 0 0,.slice none 0 0,.slice none 0 0],.int .i64 (Scu.stateFault x)]) (by simp [results,Tryd.results39,go_sem,r0,r1,r2]) rfl ?_
 exact ⟨zLz _ _,zCg Hb (by omega)⟩
theorem zWb (A0:Option Addr) (n0 c0:Nat) (A1:Option Addr) (n1 c1:Nat) (A2:Option Addr) (n2 c2:Nat) (x:Scu.State) (s:Scu.Str) (r:Scu.Request) (c:Int) (w:World) (B:Nat) (hv:IsState w B (.slice A0 n0 c0) (.slice A1 n1 c1) (.slice A2 n2 c2) x) (hf:¬ Scu.stateFault x≠0)
 (hd:Scu.decode s=(r,c)) (hc:c≠0) :
 Calls Tryd.prog 39 #[.agg #[.slice A0 n0 c0,.slice A1 n1 c1,.slice A2 n2 c2],.string s] w fun e w'=>AppRet w' Scu.state0 c e/\Below w.heap.size w w':=by
 have HV:=mA hv
 have HD:=mA hd
 have Hj:(Scu.stateFault x != 0)=false:=by simpa using hf
 have Hk:(c != 0)=true:=by simpa using hc
 clear hf hv hd hc
 go_enter Tryd.func39,Tryd.ntmps39
 go_wp2_with fail
 refine (zGf _ _ _ x _ B ((HV.out.alloc _).alloc _)).mono ?_;rintro en w1 ⟨rfl,h1⟩
 have Hg:Blk w1 w.heap.size 72 #[.slice A0 n0 c0,.slice A1 n1 c1,.slice A2 n2 c2]:=((Blk.new w _ _).alloc _).same h1
 have Ha:Blk w1 (w.heap.size+1) 72 #[.slice none 0 0,.slice none 0 0,.slice none 0 0]:=(Blk.new' (by simp)).same h1
 have Hd:Below w.heap.size w w1:=((zAa w (.cells #[.slice A0 n0 c0,.slice A1 n1 c1,.slice A2 n2 c2] 72)).alloc (by simp) (.cells #[.slice none 0 0,.slice none 0 0,.slice none 0 0] 72)).trans (h1.mono (by simp;omega))
 clear h1
 obtain ⟨z0,z1,z2⟩:=cz3 Ha
 have zz:=Ha.frozen
 have zl:=Ha.lt
 go_wp2_with fail
 refine (zLq s _ r c HD.out).mono ?_;rintro en w2 ⟨rfl,h2⟩
 have Hh:=Hg.same h2
 have He:=Ha.same h2
 have Hi:=He.lt
 have Hf:=Hd.trans (h2.mono Hd.size)
 clear h2 Hg Ha Hd z0 z1 z2 zz zl
 go_upto_region 5 with fail
 obtain ⟨Wd,Hb⟩:=mJ (w2.alloc (.cells #[.int .i64 r.client,.int .i64 r.num,.int .i64 r.op.kind,.int .i64 r.op.at_,.int .i64 r.op.snap,.string r.op.data] 62))
 rw [<- Hb]
 have Hc:Below w2.heap.size w2 Wd:=by rw [Hb];exact zAa _ _
 have hq:Blk Wd w2.heap.size 62 #[.int .i64 r.client,.int .i64 r.num,.int .i64 r.op.kind,.int .i64 r.op.at_,.int .i64 r.op.snap,.string r.op.data]:=by rw [Hb];exact Blk.new _ _ _
 have hs:=Hh.same Hc
 have hz:=He.same Hc
 have hb:=Hf.trans (Hc.mono Hf.size)
 clear Hh He Hf Hc Hb
 obtain ⟨z0,z1,z2⟩:=cz3 hz
 have zz:=hz.frozen
 have zl:=hz.lt
 obtain ⟨s0,s1,s2⟩:=cz3 hs
 have sz:=hs.frozen
 have sl:=hs.lt
 obtain ⟨q0,q1,q2,q3,q4,q5⟩:=cz6 hq
 have ql:=hq.lt
 have hr:=zDy (a:=.slice none 0 0) (b:=.slice none 0 0) (c:=.slice none 0 0) hz
 obtain ⟨r0,r1,r2⟩:=cz3 hr
 go_wp2
 refine bodyPost_ret (v:=.tuple #[.agg #[.slice none 0 0,.slice none 0 0,.slice none 0 0],.int .i64 c]) (by simp [results,Tryd.results39,go_sem,r0,r1,r2]) rfl ?_
 exact ⟨zLz _ _,zCg hb (by omega)⟩
structure Apl (Wd:World) (x:Scu.State) (g:Nat) (nu su lu:Value) (wx:World):Prop where
 out:Blk wx g 72 #[nu,su,lu]
 lo:Wd.heap.size<=g
 vol:OwnVol wx Wd.heap.size nu su x.volume
 lasts:OwnLasts wx Wd.heap.size lu x.lasts
 low:Below Wd.heap.size Wd wx
theorem useA {P Q:Prop} (h:P) (k:P->Q):Q:=k h
theorem zZi {Wd wb:World} {x:Scu.State} {nu su lu:Value} (hB:Below Wd.heap.size Wd wb) (hu:OwnVol wb Wd.heap.size nu su x.volume) (hl:OwnLasts wb Wd.heap.size lu x.lasts) :
 Apl Wd x wb.heap.size nu su lu (wb.alloc (.cells #[nu,su,lu] 72)) :=
 ⟨Blk.new wb _ _,hB.size,hu.alloc _,hl.below (zAa wb _),hB.alloc hB.size _⟩
theorem zZj {Wd wb:World} {x:Scu.State} {g:Nat} {nu su lu a b c:Value} (hB:Below Wd.heap.size Wd wb) (hu:OwnVol wb Wd.heap.size nu su x.volume) (hl:OwnLasts wb Wd.heap.size lu x.lasts) (hb:Blk wb g 72 #[a,b,c]) (hg:Wd.heap.size<=g) :
 Apl Wd x g nu su lu (((wb.setCell ⟨g,0,none⟩ nu).setCell ⟨g,1,none⟩ su).setCell ⟨g,2,none⟩ lu) :=
 ⟨zDy hb,hg,hu.same (Same.sets3 (B:=0) hb (mE _) (by decide) _ _ _),hl.same (Same.sets3 (B:=0) hb (mE _) (by decide) _ _ _),zCg hB hg⟩
theorem zZk (A0:Option Addr) (n0 c0:Nat) (A1:Option Addr) (n1 c1:Nat) (A2:Option Addr) (n2 c2:Nat) (x:Scu.State) (s:Scu.Str) (r:Scu.Request) (k:Nat) (w:World) (B:Nat) (hv:IsState w B (.slice A0 n0 c0) (.slice A1 n1 c1) (.slice A2 n2 c2) x) (hf:¬ Scu.stateFault x≠0)
 (hd:Scu.decode s=(r,0)) (hk:r.client=(k:Int)+1) (Hu:k < x.lasts.length) :
 Calls Tryd.prog 39 #[.agg #[.slice A0 n0 c0,.slice A1 n1 c1,.slice A2 n2 c2],.string s] w fun e w'=>AppRet w' (Scu.applyIt x r) 0 e/\Below w.heap.size w w':=by
 have Kn:¬ Scu.opFault r.op≠0:=by have:=(Scu.reqFault_ok (zCq hd)).2.2.2.2;omega
 have Ky:=mA Kn
 clear Kn
 have HV:=mA hv
 have HD:=mA hd
 have Vo:(Scu.stateFault x != 0)=false:=by simpa using hf
 have Vp:((0:Int) != 0)=false:=rfl
 obtain ⟨Ko,Kp⟩:=zHe hf
 have Kz:=mA Kp
 have Vq:=mA Ko
 have Vr:(k:Int) < (x.lasts.length:Int):=by omega
 have Va:n2=x.lasts.length:=by
  obtain ⟨A,c,e,_⟩:=hv.lasts.ex
  cases e
  rfl
 have Vs:(k:Int) < (n2:Int):=by omega
 have Vt:k < 4:=by omega
 have Vb:(k:Int) < 4:=by omega
 have HK:=mA hk
 clear hf hv hd Kp Ko Va hk
 go_enter Tryd.func39,Tryd.ntmps39
 go_wp2_with fail
 refine (zGf _ _ _ x _ B ((HV.out.alloc _).alloc _)).mono ?_;rintro en w1 ⟨rfl,h1⟩
 have Hl:Blk w1 w.heap.size 72 #[.slice A0 n0 c0,.slice A1 n1 c1,.slice A2 n2 c2]:=((Blk.new w _ _).alloc _).same h1
 have Hm:Blk w1 (w.heap.size+1) 72 #[.slice none 0 0,.slice none 0 0,.slice none 0 0]:=(Blk.new' (by simp)).same h1
 have Kb:Below w.heap.size w w1:=((zAa w (.cells #[.slice A0 n0 c0,.slice A1 n1 c1,.slice A2 n2 c2] 72)).alloc (by simp) (.cells #[.slice none 0 0,.slice none 0 0,.slice none 0 0] 72)).trans (h1.mono (by simp;omega))
 clear h1
 obtain ⟨z0,z1,z2⟩:=cz3 Hm
 have zz:=Hm.frozen
 have zl:=Hm.lt
 go_wp2_with fail
 refine (zLq s _ r 0 HD.out).mono ?_;rintro en w2 ⟨rfl,h2⟩
 have Hn:=Hl.same h2
 have Hf:=Hm.same h2
 have Vc:=Hf.lt
 have Kc:=Kb.trans (h2.mono Kb.size)
 clear h2 Hl Hm Kb z0 z1 z2 zz zl
 go_upto_region 5 with fail
 obtain ⟨Wd,Hv⟩:=mJ (w2.alloc (.cells #[.int .i64 r.client,.int .i64 r.num,.int .i64 r.op.kind,.int .i64 r.op.at_,.int .i64 r.op.snap,.string r.op.data] 62))
 rw [<- Hv]
 have Hw:Below w2.heap.size w2 Wd:=by rw [Hv];exact zAa _ _
 have hq:Blk Wd w2.heap.size 62 #[.int .i64 r.client,.int .i64 r.num,.int .i64 r.op.kind,.int .i64 r.op.at_,.int .i64 r.op.snap,.string r.op.data]:=by rw [Hv];exact Blk.new _ _ _
 have hs:=Hn.same Hw
 have hz:=Hf.same Hw
 have hb:=Kc.trans (Hw.mono Kc.size)
 clear Hn Hf Kc Hw Hv
 obtain ⟨z0,z1,z2⟩:=cz3 hz
 have zz:=hz.frozen
 have zl:=hz.lt
 obtain ⟨s0,s1,s2⟩:=cz3 hs
 have sz:=hs.frozen
 have sl:=hs.lt
 obtain ⟨q0,q1,q2,q3,q4,q5⟩:=cz6 hq
 have ql:=hq.lt
 have He:=mA (HV.out.below hb)
 have HS:=mA (mB hs (mB hz (mB hq hb)))
 clear hs hz hq hb
 go_upto_region 7 with fail
 go_cut [9] (fun p wx=>∃ g nu su lu,p=.pointer (some ⟨g,0,none⟩)/\Apl Wd x g nu su lu wx)
 case first =>
  go_region_with (first
   | (go_at_call 55;refine (zCm _ _ x.volume _ B ?_).mono ?_;(first | exact He.out.vol.drewN 1 | exact (He.out.vol.alloc _).drewN 1 | exact (He.out.vol.drewN 1).alloc _);rintro en wa ⟨⟨nu,su,rfl,hu⟩,ha⟩
      refine useA (P:=Below Wd.heap.size Wd wa) ?_ ?_
      (first | exact (below_drewN (mG _ _) 1).trans ha | exact (below_drewN (zAa Wd (.cells #[.slice none 0 0,.slice none 0 0,.slice none 0 0] 72)) 1).trans (ha.mono (Nat.le_succ_of_le (mC _))) | exact ((below_drewN (mG _ _) 1).alloc (mC _) (.cells #[.slice none 0 0,.slice none 0 0,.slice none 0 0] 72)).trans (ha.mono (by simp)))
      intro hA
      refine useA (P:=OwnVol wa Wd.heap.size nu su x.volume) ?_ ?_
      (first | exact hu | exact hu.base_ (by simp))
      clear hu;intro hu
      obtain ⟨A3,n3,c3,rfl⟩:=hu.is.now.form
      obtain ⟨A4,n4,c4,rfl⟩:=hu.is.snaps.form
      have HA:=mA hA
      have HU:=mA hu
      have t2:=cW hA sl s2
      have Vd:=hA.size
      have tl:w.heap.size < wa.heap.size:=mF sl hA.size
      have tz:=cW hA sl s0
      (try (refine useA (P:=Blk wa Wd.heap.size 72 #[.slice none 0 0,.slice none 0 0,.slice none 0 0]) ?_ ?_;(first | exact ((Blk.new Wd _ _).drew).same ha | exact (Blk.new (Wd.drewN 1) _ _).same ha);intro Ho;have Hi:=mA Ho;clear Ho))
      clear hu ha hA)
   | (go_at_call 56;refine (zHw _ x.lasts _ B ?_).mono ?_;(first | exact He.out.lasts.below HA.out | exact (He.out.lasts.below HA.out).alloc _);rintro en wb ⟨⟨lu,rfl,hl⟩,hb⟩
      refine useA (P:=Below wa.heap.size wa wb) ?_ ?_
      (first | exact hb | exact (zAa wa (.cells #[.slice none 0 0,.slice none 0 0,.slice none 0 0] 72)).trans (hb.mono (by simp)))
      intro hB
      refine useA (P:=OwnLasts wb Wd.heap.size lu x.lasts) ?_ ?_
      (first | exact hl.base_ HA.out.size | exact hl.base_ (mD HA.out.size (by simp)))
      clear hl;intro hl
      obtain ⟨A5,n5,c5,rfl⟩:=hl.is.form
      have Kd:=mA (HU.out.below hB)
      have Ke:=mA hl
      have HB:=mA (HA.out.trans (hB.mono HA.out.size))
      have Hb:=hB.size
      (try (have Ha:=mA (show Blk wb Wd.heap.size 72 #[.slice none 0 0,.slice none 0 0,.slice none 0 0] from Hi.out.same hB);have b0:=Ha.out.cell 0;have b1:=Ha.out.cell 1;have b2:=Ha.out.cell 2;simp only [List.getElem?_toArray,List.getElem?_cons_zero,List.getElem?_cons_succ] at b0 b1 b2;have bz:=Ha.out.frozen;have bl:=Ha.out.lt))
      (try (have Ha:=mA (show Blk wb wa.heap.size 72 #[.slice none 0 0,.slice none 0 0,.slice none 0 0] from (Blk.new wa _ _).same hb);have b0:=Ha.out.cell 0;have b1:=Ha.out.cell 1;have b2:=Ha.out.cell 2;simp only [List.getElem?_toArray,List.getElem?_cons_zero,List.getElem?_cons_succ] at b0 b1 b2;have bz:=Ha.out.frozen;have bl:=Ha.out.lt))
      clear hl hb hB)
   | (go_at_call 56;refine (zHw _ x.lasts _ B ?_).mono ?_;(first | exact He.out.lasts.drewN 1 | exact (He.out.lasts.alloc _).drewN 1 | exact (He.out.lasts.drewN 1).alloc _);rintro en wa ⟨⟨lu,rfl,hl⟩,ha⟩
      refine useA (P:=Below Wd.heap.size Wd wa) ?_ ?_
      (first | exact (below_drewN (mG _ _) 1).trans ha | exact (below_drewN (zAa Wd (.cells #[.slice none 0 0,.slice none 0 0,.slice none 0 0] 72)) 1).trans (ha.mono (Nat.le_succ_of_le (mC _))) | exact ((below_drewN (mG _ _) 1).alloc (mC _) (.cells #[.slice none 0 0,.slice none 0 0,.slice none 0 0] 72)).trans (ha.mono (by simp)))
      intro hA
      refine useA (P:=OwnLasts wa Wd.heap.size lu x.lasts) ?_ ?_
      (first | exact hl | exact hl.base_ (by simp))
      clear hl;intro hl
      obtain ⟨A5,n5,c5,rfl⟩:=hl.is.form
      have HA:=mA hA
      have HL:=mA hl
      have t0:=cW hA sl s0
      have t1:=cW hA sl s1
      have Vd:=hA.size
      have tl:w.heap.size < wa.heap.size:=mF sl hA.size
      have tz:=cW hA sl s0
      (try (refine useA (P:=Blk wa Wd.heap.size 72 #[.slice none 0 0,.slice none 0 0,.slice none 0 0]) ?_ ?_;(first | exact ((Blk.new Wd _ _).drew).same ha | exact (Blk.new (Wd.drewN 1) _ _).same ha);intro Ho;have Hi:=mA Ho;clear Ho))
      clear hl ha hA)
   | (go_at_call 55;refine (zCm _ _ x.volume _ B ?_).mono ?_;(first | exact He.out.vol.below HA.out | exact (He.out.vol.below HA.out).alloc _);rintro en wb ⟨⟨nu,su,rfl,hu⟩,hb⟩
      refine useA (P:=Below wa.heap.size wa wb) ?_ ?_
      (first | exact hb | exact (zAa wa (.cells #[.slice none 0 0,.slice none 0 0,.slice none 0 0] 72)).trans (hb.mono (by simp)))
      intro hB
      refine useA (P:=OwnVol wb Wd.heap.size nu su x.volume) ?_ ?_
      (first | exact hu.base_ HA.out.size | exact hu.base_ (mD HA.out.size (by simp)))
      clear hu;intro hu
      obtain ⟨A3,n3,c3,rfl⟩:=hu.is.now.form
      obtain ⟨A4,n4,c4,rfl⟩:=hu.is.snaps.form
      have Kd:=mA hu
      have Ke:=mA (HL.out.below hB)
      have HB:=mA (HA.out.trans (hB.mono HA.out.size))
      have Hb:=hB.size
      (try (have Ha:=mA (show Blk wb Wd.heap.size 72 #[.slice none 0 0,.slice none 0 0,.slice none 0 0] from Hi.out.same hB);have b0:=Ha.out.cell 0;have b1:=Ha.out.cell 1;have b2:=Ha.out.cell 2;simp only [List.getElem?_toArray,List.getElem?_cons_zero,List.getElem?_cons_succ] at b0 b1 b2;have bz:=Ha.out.frozen;have bl:=Ha.out.lt))
      (try (have Ha:=mA (show Blk wb wa.heap.size 72 #[.slice none 0 0,.slice none 0 0,.slice none 0 0] from (Blk.new wa _ _).same hb);have b0:=Ha.out.cell 0;have b1:=Ha.out.cell 1;have b2:=Ha.out.cell 2;simp only [List.getElem?_toArray,List.getElem?_cons_zero,List.getElem?_cons_succ] at b0 b1 b2;have bz:=Ha.out.frozen;have bl:=Ha.out.lt))
      clear hu hb hB))
  all_goals
   go_wp2_with fail
   go_meet
   first
    | exact ⟨_,_,_,_,rfl,zZi HB.out Kd.out Ke.out⟩
    | exact ⟨_,_,_,_,rfl,zZj HB.out Kd.out Ke.out Ha.out (by omega)⟩
 case rest =>
 obtain ⟨g,nu,su,lu,rfl,hA⟩:=hcut
 obtain ⟨A3,n3,c3,rfl⟩:=hA.vol.is.now.form
 obtain ⟨A4,n4,c4,rfl⟩:=hA.vol.is.snaps.form
 obtain ⟨gl,cl,cur,rfl,Vu,Hb,Kq⟩:=hA.lasts.at_ (by omega)
 have Hc:=hA.low
 have hs:=HS.out.1.same Hc
 have hz:=HS.out.2.1.same Hc
 have hq:=HS.out.2.2.1.same Hc
 have Ve:=HS.out.2.2.2.size
 have hb:=HS.out.2.2.2.trans (Hc.mono Ve)
 have ho:=hA.out
 have Vf:=zl
 have Vg:=ql
 clear s0 s1 s2 sz sl z0 z1 z2 zz zl q0 q1 q2 q3 q4 q5 ql
 obtain ⟨s0,s1,s2⟩:=cz3 hs
 have sz:=hs.frozen
 have sl:=hs.lt
 obtain ⟨z0,z1,z2⟩:=cz3 hz
 have zz:=hz.frozen
 have zl:=hz.lt
 obtain ⟨q0,q1,q2,q3,q4,q5⟩:=cz6 hq
 have ql:=hq.lt
 obtain ⟨o0,o1,o2⟩:=cz3 ho
 have oz:=ho.frozen
 have ol:=ho.lt
 have hk:=HK.out
 rw [hk] at q0
 obtain ⟨⟨A,c,e,_,hr⟩,_⟩:=HV.out.lasts.below hb
 obtain ⟨gi,oi,rfl,Vv,Kr,_⟩:=zGo hr Hu
 obtain rfl:A2=some ⟨gi,oi,none⟩:=by cases e;rfl
 obtain ⟨ln,Kf⟩:=mJ (x.lasts[k].num)
 rw [<- Kf] at Kr
 have Ks:=mA Kf
 have Vw:=hA.lo
 have HA:=mA hA
 have HB:=mA hb
 have HZ:=mA hz
 have HQ:=mA hq
 have Vh:=mA Hb
 have Hx:=mA Kq
 have Hg:=Hb.lt
 clear hs hz hq hb ho hr e Kf hA Hc hk Hb Kq
 by_cases Kg:r.num<=ln
 ·have Hk:Scu.applyIt x r=x:=by
   unfold Scu.applyIt
   rw [HK.out,show ((k:Int)+1 - 1).toNat=k by omega,mI,mH Hu,Option.getD_some,if_pos (by rw [<- Ks.out];exact Kg)]
  go_wp2_with fail
  go_quiet (fail)
  go_wp2_with fail
  have Kt:Blk (wc.drewN nq) (w.heap.size+1) 72 #[.slice none 0 0,.slice none 0 0,.slice none 0 0]:=HZ.out
  have hr:=zDy (a:=.slice A3 n3 c3) (b:=.slice A4 n4 c4) (c:=.slice (some ⟨gl,0,none⟩) x.lasts.length cl) Kt
  obtain ⟨r0,r1,r2⟩:=cz3 hr
  refine bodyPost_ret (v:=.tuple #[.agg #[.slice A3 n3 c3,.slice A4 n4 c4,.slice (some ⟨gl,0,none⟩) x.lasts.length cl],.int .i64 0]) (by simp [results,Tryd.results39,go_sem,r0,r1,r2]) rfl ?_
  exact ⟨by rw [Hk];exact ⟨_,_,_,rfl,IsState.sets3 (w:=wc.drewN nq) ⟨HA.out.vol.is.drewN nq,HA.out.lasts.is.drewN nq⟩ Kt _ _ _⟩,zCg (below_drewN HB.out nq) (by omega)⟩
 have Hk:Scu.applyIt x r=⟨(Scu.doIt x.volume r.op).1,x.lasts.set k ⟨r.num,(Scu.doIt x.volume r.op).2⟩⟩:=by
  unfold Scu.applyIt
  rw [HK.out,show ((k:Int)+1 - 1).toNat=k by omega,mI,mH Hu,Option.getD_some,if_neg (by rw [<- Ks.out];exact Kg)]
 have Hy:=vd3 Kz.out Ky.out
 generalize Scu.doIt x.volume r.op=q at Hk Hy
 obtain ⟨y,⟨rc,rn,rd⟩⟩:=q
 simp only at Hk Hy
 have Vi:=mA Hy
 have Vj:=mA Hk
 have Vx:ln < r.num:=by omega
 clear Hk Hy Kg
 go_wp2_with fail
 go_quiet (fail)
 go_wp2_with fail
 refine (zZh _ _ x.volume r.op.kind r.op.at_ r.op.snap r.op.data _ 0 (HA.out.vol.is.drewN nq) y rc rn rd 0 Vi.out).mono ?_;rintro en w4 ⟨⟨na,sa,rfl,ha⟩,h4⟩
 have h4:Below wc.heap.size wc w4:=(below_drewN (mG _ _) nq).trans h4
 obtain ⟨A6,n6,c6,rfl⟩:=ha.is.now.form
 obtain ⟨A7,n7,c7,rfl⟩:=ha.is.snaps.form
 go_upto_region 11 with fail
 obtain ⟨Wf,Hp⟩:=mJ ((w4.alloc (.cells #[.slice A6 n6 c6,.slice A7 n7 c7] 69)).alloc (.cells #[.int .i64 rc,.int .i64 rn,.string rd] 64))
 rw [<- Hp]
 have Kh:Below w4.heap.size w4 Wf:=by rw [Hp];exact (zAa w4 _).alloc (by simp) _
 have Ki:Blk Wf w4.heap.size 69 #[.slice A6 n6 c6,.slice A7 n7 c7]:=by rw [Hp];exact (Blk.new w4 _ _).alloc _
 have Kj:Blk Wf (w4.heap.size+1) 64 #[.int .i64 rc,.int .i64 rn,.string rd]:=by rw [Hp];exact Blk.new' (by simp)
 have Vk:=h4.size
 have Hd:=h4.trans (Kh.mono Vk)
 have hz:=HZ.out.same Hd
 have hq:=HQ.out.same Hd
 have ho:=HA.out.out.same Hd
 have Hb:=Vh.out.same Hd
 have Hq:=ha.below Kh
 have Hr:=HA.out.lasts.below Hd
 have Hs:=HB.out.trans (Hd.mono HB.out.size)
 have e:∀ j,j < 4->(x.lasts.flatMap lastC)[k*4+j]? = (lastC x.lasts[k])[j]?:=fun j hj=>zLj lastC 4 (fun _=>rfl) x.lasts k j Hu hj
 have l0:Wf.cell? ⟨gl,k*4,none⟩=some (.int .i64 x.lasts[k].num):=((Hd.cell (p:=⟨gl,k*4,none⟩) Hg).trans (Hx.out (k*4) (by omega))).trans (e 0 (by omega))
 have l1:Wf.cell? ⟨gl,k*4+1,none⟩=some (.int .i64 x.lasts[k].reply.code):=((Hd.cell (p:=⟨gl,k*4+1,none⟩) Hg).trans (Hx.out (k*4+1) (by omega))).trans (e 1 (by omega))
 have l2:Wf.cell? ⟨gl,k*4+2,none⟩=some (.int .i64 x.lasts[k].reply.n):=((Hd.cell (p:=⟨gl,k*4+2,none⟩) Hg).trans (Hx.out (k*4+2) (by omega))).trans (e 2 (by omega))
 have l3:Wf.cell? ⟨gl,k*4+3,none⟩=some (.string x.lasts[k].reply.data):=((Hd.cell (p:=⟨gl,k*4+3,none⟩) Hg).trans (Hx.out (k*4+3) (by omega))).trans (e 3 (by omega))
 have lz:=Hb.frozen
 have ll:=Hb.lt
 have Kk:gl≠g:=by
  rintro rfl
  unfold Blk at Hb ho
  rw [Hb] at ho
  cases ho
 have Hh:g≠gl:=fun e=>Kk e.symm
 have Vy:=ol
 clear s0 s1 s2 sz sl z0 z1 z2 zz zl q0 q1 q2 q3 q4 q5 ql o0 o1 o2 oz ol Kr e Hp h4
 obtain ⟨z0,z1,z2⟩:=cz3 hz
 have zz:=hz.frozen
 have zl:=hz.lt
 obtain ⟨q0,q1,q2,q3,q4,q5⟩:=cz6 hq
 have ql:=hq.lt
 obtain ⟨o0,o1,o2⟩:=cz3 ho
 have oz:=ho.frozen
 have ol:=ho.lt
 rw [HK.out] at q0
 obtain ⟨v0,v1⟩:=cz2 Ki
 obtain ⟨y0,y1,y2⟩:=cz3 Kj
 have Kl:=Ki.lt
 have Km:=Kj.lt
 have Ku:g≠w.heap.size+1:=by omega
 have Vz:g≠w2.heap.size:=by omega
 have Ga:g≠w4.heap.size:=by omega
 have Gb:g≠w4.heap.size+1:=by omega
 have Hz:gl≠w.heap.size+1:=by omega
 have Gc:gl≠w2.heap.size:=by omega
 have Gd:gl≠w4.heap.size:=by omega
 have Ge:gl≠w4.heap.size+1:=by omega
 have HX:=mA (mB hz (mB ho (mB Hb (mB Hq (mB Hr Hs)))))
 clear hz hq ho Hb Hq Hr Hs Ki Kj Hd Kh ha
 go_region
 obtain ⟨Wg,Hj⟩:=mJ (((((((Wf.setCell ⟨g,0,none⟩ (.slice A6 n6 c6)).setCell ⟨g,1,none⟩ (.slice A7 n7 c7)).setCell ⟨gl,k*4,none⟩ (.int .i64 r.num)).setCell ⟨gl,k*4+1,none⟩ (.int .i64 rc)).setCell ⟨gl,k*4+2,none⟩ (.int .i64 rn)).setCell ⟨gl,k*4+3,none⟩ (.string rd)).drew)
 rw [<- Hj]
 obtain ⟨hz,ho,Hb,Hq,Hr,Hs⟩:=HX.out
 have Ht:=(Hb.far (p:=⟨g,0,none⟩) Kk (.slice A6 n6 c6)).far (p:=⟨g,1,none⟩) Kk (.slice A7 n7 c7)
 have Hl:Same [9,42] 0 Wf ((Wf.setCell ⟨g,0,none⟩ (.slice A6 n6 c6)).setCell ⟨g,1,none⟩ (.slice A7 n7 c7)):=Same.sets2 ho (mE _) (by decide) _ _
 have Hn:Same [76] 0 Wf ((Wf.setCell ⟨g,0,none⟩ (.slice A6 n6 c6)).setCell ⟨g,1,none⟩ (.slice A7 n7 c7)):=Same.sets2 ho (mE _) (by decide) _ _
 have Kv:=Same.put4 (Ts:=[9,42]) (B:=0) Ht (mE _) (by decide) k ⟨r.num,⟨rc,rn,rd⟩⟩
 have hV:OwnVol Wg wc.heap.size (.slice A6 n6 c6) (.slice A7 n7 c7) y:=by rw [Hj];exact ((Hq.same Hl).same Kv).below (mG _ _).drew
 have hL:OwnLasts Wg Wd.heap.size (.slice (some ⟨gl,0,none⟩) x.lasts.length cl) (x.lasts.set k ⟨r.num,⟨rc,rn,rd⟩⟩):=by rw [Hj];exact ((Hr.same Hn).put k ⟨r.num,⟨rc,rn,rd⟩⟩).below (mG _ _).drew
 have Ka:Blk Wg g 72 #[.slice A6 n6 c6,.slice A7 n7 c7,.slice (some ⟨gl,0,none⟩) x.lasts.length cl]:=by
  rw [Hj]
  exact (((((ho.set_ 0 (.slice A6 n6 c6)).set_ 1 (.slice A7 n7 c7)).far (p:=⟨gl,k*4,none⟩) Hh _).far (p:=⟨gl,k*4+1,none⟩) Hh _).far (p:=⟨gl,k*4+2,none⟩) Hh _ |>.far (p:=⟨gl,k*4+3,none⟩) Hh _).drew
 have Hf:Blk Wg (w.heap.size+1) 72 #[.slice none 0 0,.slice none 0 0,.slice none 0 0]:=by
  rw [Hj]
  exact (((((hz.far (p:=⟨g,0,none⟩) (fun e=>Ku e.symm) _).far (p:=⟨g,1,none⟩) (fun e=>Ku e.symm) _).far (p:=⟨gl,k*4,none⟩) (fun e=>Hz e.symm) _).far (p:=⟨gl,k*4+1,none⟩) (fun e=>Hz e.symm) _).far (p:=⟨gl,k*4+2,none⟩) (fun e=>Hz e.symm) _ |>.far (p:=⟨gl,k*4+3,none⟩) (fun e=>Hz e.symm) _).drew
 have Kw:Below w.heap.size w Wg:=by
  have q1:w.heap.size<=g:=by omega
  have q2:w.heap.size<=gl:=by omega
  rw [Hj]
  exact ((((((Hs.setCell (p:=⟨g,0,none⟩) q1 _).setCell (p:=⟨g,1,none⟩) q1 _).setCell (p:=⟨gl,k*4,none⟩) q2 _).setCell (p:=⟨gl,k*4+1,none⟩) q2 _).setCell (p:=⟨gl,k*4+2,none⟩) q2 _).setCell (p:=⟨gl,k*4+3,none⟩) q2 _).drew
 clear l0 l1 l2 l3 lz ll z0 z1 z2 zz zl q0 q1 q2 q3 q4 q5 ql o0 o1 o2 oz ol v0 v1 y0 y1 y2 Kl Km hz ho Hb Hq Hr Hs Ht Hl Hn Kv HX Hj
 obtain ⟨z0,z1,z2⟩:=cz3 Hf
 have zz:=Hf.frozen
 have zl:=Hf.lt
 obtain ⟨o0,o1,o2⟩:=cz3 Ka
 have oz:=Ka.frozen
 have ol:=Ka.lt
 have Vl:=mA hV
 have Vm:=mA hL
 have Vn:=mA Kw
 have Kx:=mA Hf
 clear hV hL Kw Hf Ka
 go_wp2
 have hr:=zDy (a:=.slice A6 n6 c6) (b:=.slice A7 n7 c7) (c:=.slice (some ⟨gl,0,none⟩) x.lasts.length cl) Kx.out
 obtain ⟨r0,r1,r2⟩:=cz3 hr
 refine bodyPost_ret (v:=.tuple #[.agg #[.slice A6 n6 c6,.slice A7 n7 c7,.slice (some ⟨gl,0,none⟩) x.lasts.length cl],.int .i64 0]) (by simp [results,Tryd.results39,go_sem,r0,r1,r2]) rfl ?_
 exact ⟨by rw [Vj.out];exact ⟨_,_,_,rfl,IsState.sets3 ⟨Vl.out.is,Vm.out.is⟩ Kx.out _ _ _⟩,zCg Vn.out (by omega)⟩
theorem zZl (nv sv lv:Value) (x:Scu.State) (s:Scu.Str) (w:World) (B:Nat) (hv:IsState w B nv sv lv x) :
 Calls Tryd.prog 39 #[.agg #[nv,sv,lv],.string s] w fun e w'=>AppRet w' (Scu.apply x s).1 (Scu.apply x s).2 e/\Below w.heap.size w w':=by
 obtain ⟨A0,n0,c0,rfl⟩:=hv.vol.now.form
 obtain ⟨A1,n1,c1,rfl⟩:=hv.vol.snaps.form
 obtain ⟨A2,n2,c2,rfl⟩:=hv.lasts.form
 by_cases hf:Scu.stateFault x≠0
 ·rw [ap1 hf]
  exact zWa A0 n0 c0 A1 n1 c1 A2 n2 c2 x s w B hv hf
 obtain ⟨q,hd⟩:=mK (Scu.decode s)
 obtain ⟨r,c⟩:=q
 by_cases hc:c=0
 ·subst hc
  rw [ap3 hf hd]
  obtain ⟨h1,h2,_⟩:=Scu.reqFault_ok (zCq hd)
  have h4:=(zHe hf).1
  obtain ⟨k,hk⟩:∃ k:Nat,r.client=(k:Int)+1:=⟨(r.client - 1).toNat,by omega⟩
  exact zZk A0 n0 c0 A1 n1 c1 A2 n2 c2 x s r k w B hv hf hd hk (by omega)
 rw [ap2 hf hd hc]
 exact zWb A0 n0 c0 A1 n1 c1 A2 n2 c2 x s r c w B hv hf hd hc
theorem zWc (nv sv lv:Value) (x:Scu.State) (s:Scu.Str) (w:World) (B:Nat) (hv:IsState w B nv sv lv x) (y:Scu.State) (c:Int) (h:Scu.apply x s=(y,c)) :
 Calls Tryd.prog 39 #[.agg #[nv,sv,lv],.string s] w fun e w'=>AppRet w' y c e/\Below w.heap.size w w':=by
 have:=zZl nv sv lv x s w B hv
 rw [h] at this
 exact this
theorem zNp {l:List Scu.Str} {k:Nat} (hk:k < l.length) {y z:Scu.State} {c:Int} (h:Scu.apply y l[k]=(z,c)):Scu.playFrom y (l.drop k)=if c≠0 then (Scu.state0,c) else Scu.playFrom z (l.drop (k+1)):=by
 rw [List.drop_eq_getElem_cons hk]
 show (if (Scu.apply y l[k]).2≠0 then _ else _)=_
 rw [h]
structure PlayI (w:World) (b:Nat) (l:List Scu.Str) (k:Nat) (nv sv lv:Value) (y:Scu.State) (wr:World):Prop where
 zero:Blk wr w.heap.size 72 #[.slice none 0 0,.slice none 0 0,.slice none 0 0]
 blk:Blk wr b 72 #[nv,sv,lv]
 st:IsState wr 0 nv sv lv y
 so:Scu.play l=Scu.playFrom y (l.drop k)
 low:Below w.heap.size w wr
 ne:w.heap.size < b
theorem PlayI.below {w wr w':World} {b k:Nat} {l:List Scu.Str} {nv sv lv:Value} {y:Scu.State} (h:PlayI w b l k nv sv lv y wr) (hb:Below wr.heap.size wr w'):PlayI w b l k nv sv lv y w' :=
 ⟨h.zero.same hb,h.blk.same hb,h.st.below hb,h.so,h.low.trans (hb.mono h.low.size),h.ne⟩
theorem PlayI.next {w wr:World} {b k:Nat} {l:List Scu.Str} {nv sv lv nu su lu:Value} {y z:Scu.State} (h:PlayI w b l k nv sv lv y wr) (hz:IsState wr 0 nu su lu z) (hs:Scu.play l=Scu.playFrom z (l.drop (k+1))) :
 PlayI w b l (k+1) nu su lu z (((wr.setCell ⟨b,0,none⟩ nu).setCell ⟨b,1,none⟩ su).setCell ⟨b,2,none⟩ lu) :=
 ⟨((h.zero.far (p:=⟨b,0,none⟩) (Nat.ne_of_lt h.ne) _).far (p:=⟨b,1,none⟩) (Nat.ne_of_lt h.ne) _).far (p:=⟨b,2,none⟩) (Nat.ne_of_lt h.ne) _,zDy h.blk,hz.sets3 h.blk _ _ _,hs,zCg h.low (Nat.le_of_lt h.ne),h.ne⟩
theorem yBf (v:Value) (l:List Scu.Str) (w:World) (B:Nat) (hv:IsStrs w B v l) :
 Calls Tryd.prog 24 #[v] w fun e w'=>AppRet w' (Scu.play l).1 (Scu.play l).2 e/\Below w.heap.size w w':=by
 obtain ⟨⟨A,c,rfl,_,hr⟩,hl,_⟩:=hv
 unfold R47 at hl
 go_enter Tryd.func24,Tryd.ntmps24
 go_wp2_with fail
 refine (zMt _).mono ?_;rintro en w1 ⟨⟨nv,sv,lv,rfl,hn⟩,h1⟩
 obtain ⟨A1,n1,c1,rfl⟩:=hn.vol.now.form
 obtain ⟨A2,n2,c2,rfl⟩:=hn.vol.snaps.form
 obtain ⟨A3,n3,c3,rfl⟩:=hn.lasts.form
 have hP:PlayI w w1.heap.size l 0 (.slice A1 n1 c1) (.slice A2 n2 c2) (.slice A3 n3 c3) Scu.stateNew (w1.alloc (.cells #[.slice A1 n1 c1,.slice A2 n2 c2,.slice A3 n3 c3] 72)) :=
  ⟨((Blk.new w _ _).same h1).alloc _,Blk.new w1 _ _,hn.alloc _,rfl,((zAa w _).trans (h1.mono (by simp))).alloc (by have:=h1.size;simp at this;omega) _,by have:=h1.size;simp at this;omega⟩
 have HP:=mA hP
 clear hP hn h1
 go_wp2_with fail
 go_loopw [12] (fun i wr=>∃ (k:Nat) (A1:Option Addr) (n1 c1:Nat) (A2:Option Addr) (n2 c2:Nat) (A3:Option Addr) (n3 c3:Nat) (y:Scu.State),k<=l.length/\i=.int .i64 k/\PlayI w w1.heap.size l k (.slice A1 n1 c1) (.slice A2 n2 c2) (.slice A3 n3 c3) y wr) (fun i _=>l.length - (intOf i).toNat)
 case atStart=>exact ⟨0,A1,n1,c1,A2,n2,c2,A3,n3,c3,_,mE _,rfl,HP.out⟩
 case round =>
  obtain ⟨k,D1,m1,d1,D2,m2,d2,D3,m3,d3,y,hk,rfl,hP⟩:=hrel
  have Ha:=hP.blk
  obtain ⟨b0,b1,b2⟩:=cz3 Ha
  have bz:=Ha.frozen
  have bl:=Ha.lt
  have hz:=hP.zero
  obtain ⟨z0,z1,z2⟩:=cz3 hz
  have zz:=hz.frozen
  have zl:=hz.lt
  have Hm:=hP.ne
  by_cases He:k < l.length
  ·have Hj:(k:Int) < (l.length:Int):=by omega
   obtain ⟨g,o,rfl,hg,Hk⟩:=zEf (hr.below hP.low) He
   obtain ⟨q,hq⟩:=mK (Scu.apply y l[k])
   obtain ⟨z,c⟩:=q
   have HQ:=mA hq
   have HP:=mA hP
   clear Ha hz hP hq
   go_wp2_with fail
   refine (zWc _ _ _ y l[k] _ 0 HP.out.st z c HQ.out).mono ?_;rintro en w2 ⟨⟨nu,su,lu,rfl,hu⟩,h2⟩
   obtain ⟨E1,p1,f1,rfl⟩:=hu.vol.now.form
   obtain ⟨E2,p2,f2,rfl⟩:=hu.vol.snaps.form
   obtain ⟨E3,p3,f3,rfl⟩:=hu.lasts.form
   go_upto_region 6 with fail
   obtain ⟨Wd,Hc⟩:=mJ (w2.alloc (.cells #[.slice E1 p1 f1,.slice E2 p2 f2,.slice E3 p3 f3] 72))
   rw [<- Hc]
   have Hf:Below w2.heap.size w2 Wd:=by rw [Hc];exact zAa _ _
   have hq:Blk Wd w2.heap.size 72 #[.slice E1 p1 f1,.slice E2 p2 f2,.slice E3 p3 f3]:=by rw [Hc];exact Blk.new _ _ _
   have Hd:=(HP.out.below h2).below Hf
   have Hh:=hu.below Hf
   have Ha:=Hd.blk
   have hz:=Hd.zero
   clear b0 b1 b2 bz bl z0 z1 z2 zz zl Hk Hc Hf h2 hu
   obtain ⟨b0,b1,b2⟩:=cz3 Ha
   have bz:=Ha.frozen
   have bl:=Ha.lt
   obtain ⟨z0,z1,z2⟩:=cz3 hz
   have zz:=hz.frozen
   have zl:=hz.lt
   obtain ⟨q0,q1,q2⟩:=cz3 hq
   have qz:=hq.frozen
   have ql:=hq.lt
   have Hb:=mA Hd
   have Hl:=mA Hh
   clear Ha hz hq Hd Hh HP
   by_cases hc:c=0
   ·subst hc
    have HS:=mA (show Scu.play l=Scu.playFrom z (l.drop (k+1)) by rw [Hb.out.so,zNp He HQ.out,if_neg (by simp)])
    go_wp2
    refine ⟨⟨k+1,E1,p1,f1,E2,p2,f2,E3,p3,f3,z,by omega,rfl,Hb.out.next Hl.out HS.out⟩,?_⟩
    simp [intOf];omega
   have Hn:(c != 0)=true:=by simpa using hc
   have HS:=mA (show Scu.play l=(Scu.state0,c) by rw [Hb.out.so,zNp He HQ.out,if_pos hc])
   clear hc
   go_wp2
   have Hg:=zDy (a:=.slice none 0 0) (b:=.slice none 0 0) (c:=.slice none 0 0) Hb.out.zero
   obtain ⟨r0,r1,r2⟩:=cz3 Hg
   refine bodyPost_ret (v:=.tuple #[.agg #[.slice none 0 0,.slice none 0 0,.slice none 0 0],.int .i64 c]) (by simp [results,Tryd.results24,go_sem,r0,r1,r2]) rfl ?_
   exact ⟨by rw [HS.out];exact zLz _ _,zCg Hb.out.low (mC _)⟩
  have Hi:k=l.length:=by omega
  have HS:=mA (show Scu.play l=(y,0) by rw [hP.so,Hi,List.drop_length];rfl)
  have Ho:¬ (k:Int) < (l.length:Int):=by omega
  have HP:=mA hP
  clear Ha hz hP Hi hk
  go_wp2
  have Hg:=zDy (a:=.slice D1 m1 d1) (b:=.slice D2 m2 d2) (c:=.slice D3 m3 d3) HP.out.zero
  obtain ⟨r0,r1,r2⟩:=cz3 Hg
  refine bodyPost_ret (v:=.tuple #[.agg #[.slice D1 m1 d1,.slice D2 m2 d2,.slice D3 m3 d3],.int .i64 0]) (by simp [results,Tryd.results24,go_sem,r0,r1,r2]) rfl ?_
  exact ⟨by rw [HS.out];exact ⟨_,_,_,rfl,HP.out.st.sets3 HP.out.zero _ _ _⟩,zCg HP.out.low (mC _)⟩
end Go.Proofs.YtnpphdaakookcaaDoor
