/- Part 40: words and walks under the laws of the whole. -/
import Derived.Test.YtlngfbngnnepiaaGreatZZ13
import Derived.Test.YtlngfbngnnepiaaGreatZZ39
set_option linter.unusedVariables false
set_option linter.unusedSimpArgs false
set_option maxHeartbeats 4000000
set_option maxRecDepth 100000
namespace Go.Proofs.YtlngfbngnnepiaaGreat
open Go.RowKit
theorem zYa (nv sv:Value) (x:Scu.Volume) (ki a m:Int) (d:Scu.Str) (w:World) (B:Nat) (hv:IsVolume w B nv sv x) :
 Calls Tryz.prog 97 #[.agg #[nv,sv],.agg #[.int .i64 ki,.int .i64 a,.int .i64 m,.string d]] w fun e w'=>DidRet w' w.heap.size (Scu.volDo x ⟨ki,a,m,d⟩) e/\Below w.heap.size w w':=by
 obtain ⟨A0,n0,c0,rfl⟩:=hv.now.form;obtain ⟨A1,n1,c1,rfl⟩:=hv.snaps.form;by_cases hf:Scu.volFault x≠0
 ·rw [vd1 hf];exact zVb A0 n0 c0 A1 n1 c1 x ki a m d w B hv hf
 by_cases ho:Scu.opFault ⟨ki,a,m,d⟩≠0
 ·rw [vd2 hf ho];exact zVc A0 n0 c0 A1 n1 c1 x ki a m d w B hv hf ho
 rw [vd3 hf ho];obtain ⟨k0,k1,a0,a1,m0,m1,Hg,Hd,He,Hf⟩:=Scu.opFault_ok (Decidable.not_not.1 ho);have Hi:=(zAu hf).1;have Hj:=(zAu hf).2.1;simp only at k0 k1 a0 a1 m0 m1 Hg Hd He Hf
 obtain ⟨an,rfl⟩:=Int.eq_ofNat_of_zero_le a0;have hd:d.size<=R47:=by unfold R47;omega
 have Hb:an < 6:=by omega
 have Hc:(ki=1\/ki=2)\/ki=3\/ki=4:=by omega
 rcases Hc with hw | rfl | rfl
 ·obtain rfl:m=0:=Hd (by omega);have Ha:Scu.doIt x ⟨ki,an,0,d⟩=(⟨x.now.set an d,x.snaps⟩,Scu.reply0):=by unfold Scu.doIt;rw [if_pos hw];rfl
  rw [Ha];rcases hw with rfl | rfl
  ·exact zVd A0 n0 c0 A1 n1 c1 x an d w B hv hf ho Hb hd
  have Hh:d=⟨#[]⟩:=Hf (by omega);subst Hh;exact zVe A0 n0 c0 A1 n1 c1 x an w B hv hf ho Hb
 ·by_cases hm:m=0
  ·subst hm;have Ha:Scu.doIt x ⟨3,an,0,d⟩=(x,⟨0,0,x.now.getD an Scu.str0⟩):=by
    unfold Scu.doIt;rw [if_neg (by simp),if_neg (by simp),if_pos rfl];rfl
   rw [Ha];exact zVf A0 n0 c0 A1 n1 c1 x an d w B hv hf ho Hb
  obtain ⟨sn,rfl⟩:∃ sn:Nat,m=(sn:Int)+1:=⟨(m - 1).toNat,by omega⟩;by_cases hgt:x.snaps.length < sn+1
  ·have Ha:Scu.doIt x ⟨3,an,(sn:Int)+1,d⟩=(x,⟨6,0,Scu.str0⟩):=by
    unfold Scu.doIt;rw [if_neg (by simp),if_neg (by simp),if_neg (by simp only [];omega),if_pos (by simp only [];omega)];rfl
   rw [Ha];exact zVg A0 n0 c0 A1 n1 c1 x an sn d w B hv hf ho Hb hgt
  have Ha:Scu.doIt x ⟨3,an,(sn:Int)+1,d⟩=(x,⟨0,0,(x.snaps.getD sn []).getD an Scu.str0⟩):=by
   unfold Scu.doIt;rw [if_neg (by simp),if_neg (by simp),if_neg (by simp only [];omega),if_neg (by simp only [];omega)];have e1:((sn:Int)+1 - 1).toNat=sn:=by omega
   simp only [Int.toNat_natCast,e1]
   rfl
  rw [Ha];exact zVh A0 n0 c0 A1 n1 c1 x an sn d w B hv hf ho Hb (by omega)
 obtain rfl:m=0:=Hd (by omega);obtain rfl:an=0:=by have:=He rfl;omega
 by_cases h3:x.snaps.length=3
 ·have Ha:Scu.doIt x ⟨4,(0:Nat),0,d⟩=(x,⟨7,0,Scu.str0⟩):=by
   unfold Scu.doIt;rw [if_neg (by simp),if_pos rfl,if_pos h3];rfl
  rw [Ha];exact zVi A0 n0 c0 A1 n1 c1 x d w B hv hf ho h3
 have Ha:Scu.doIt x ⟨4,(0:Nat),0,d⟩=(⟨x.now,x.snaps ++ [x.now]⟩,⟨0,(x.snaps.length:Int)+1,Scu.str0⟩):=by
  unfold Scu.doIt;rw [if_neg (by simp),if_pos rfl,if_neg h3];rfl
 rw [Ha];exact zVj A0 n0 c0 A1 n1 c1 x d w B hv hf ho (by omega)
def DidRetA (w:World) (base:Nat) (y:Scu.Volume) (rc rn:Int) (rd:Scu.Str) (qe:Int) (e:Ending):Prop :=
 ∃ nu su,e=.returned (.tuple #[.agg #[nu,su],.agg #[.int .i64 rc,.int .i64 rn,.string rd],.int .i64 qe])/\OwnVol w base nu su y
theorem zYb (nv sv:Value) (x:Scu.Volume) (ki a m:Int) (d:Scu.Str) (w:World) (B:Nat) (hv:IsVolume w B nv sv x) (y:Scu.Volume) (rc rn:Int) (rd:Scu.Str) (qe:Int) (h:Scu.volDo x ⟨ki,a,m,d⟩=(y,⟨rc,rn,rd⟩,qe)) :
 Calls Tryz.prog 114 #[.agg #[nv,sv],.agg #[.int .i64 ki,.int .i64 a,.int .i64 m,.string d]] w fun e w'=>DidRetA w' w.heap.size y rc rn rd qe e/\Below w.heap.size w w':=by
 have:=zXz nv sv x ki a m d w B hv;rw [h] at this;exact this
theorem zYc (nv sv:Value) (x:Scu.Volume) (ki a m:Int) (d:Scu.Str) (w:World) (B:Nat) (hv:IsVolume w B nv sv x) (y:Scu.Volume) (rc rn:Int) (rd:Scu.Str) (qe:Int) (h:Scu.volDo x ⟨ki,a,m,d⟩=(y,⟨rc,rn,rd⟩,qe)) :
 Calls Tryz.prog 97 #[.agg #[nv,sv],.agg #[.int .i64 ki,.int .i64 a,.int .i64 m,.string d]] w fun e w'=>DidRetA w' w.heap.size y rc rn rd qe e/\Below w.heap.size w w':=by
 have:=zYa nv sv x ki a m d w B hv;rw [h] at this;exact this
def AppRet (w:World) (y:Scu.State) (c:Int) (e:Ending):Prop:=∃ nv sv lv,e=.returned (.tuple #[.agg #[nv,sv,lv],.int .i64 c])/\IsState w 0 nv sv lv y
theorem zQn (w:World):IsState w 0 (.slice none 0 0) (.slice none 0 0) (.slice none 0 0) Scu.state0 :=
 ⟨(OwnVol.zero_ w 0).is,⟨⟨none,0,rfl,mE _,Rd.nil⟩,by simp [Scu.state0,R47]⟩⟩
theorem zGf (w:World) (c:Int):AppRet w Scu.state0 c (.returned (.tuple #[.agg #[.slice none 0 0,.slice none 0 0,.slice none 0 0],.int .i64 c])):=⟨_,_,_,rfl,zQn w⟩
section
variable {s:Scu.State} {e:Scu.Str} {r:Scu.Request} {c:Int}
theorem ap1 (h:Scu.stateFault s≠0):Scu.apply s e=(Scu.state0,Scu.stateFault s):=if_pos h
theorem ap2 (h:¬ Scu.stateFault s≠0) (hd:Scu.decode e=(r,c)) (hc:c≠0):Scu.apply s e=(Scu.state0,c):=by
 unfold Scu.apply;rw [if_neg h,hd,if_pos hc]
theorem ap3 (h:¬ Scu.stateFault s≠0) (hd:Scu.decode e=(r,0)):Scu.apply s e=(Scu.applyIt s r,0):=by
 unfold Scu.apply;rw [if_neg h,hd,if_neg (by simp)]
theorem zGg (hd:Scu.decode e=(r,0)):Scu.reqFault r=0:=by
 unfold Scu.decode at hd;split at hd
 ·simp at hd
 split at hd
 ·simp at hd
 simp only at hd
 split at hd
 ·rename_i h;exact absurd (congrArg Prod.snd hd) h
 split at hd
 ·rename_i h;exact absurd (congrArg Prod.snd hd) h
 split at hd
 ·simp at hd
 split at hd
 ·rename_i h;exact absurd (congrArg Prod.snd hd) h
 rename_i h
 have e1:=congrArg Prod.fst hd;simp only at e1
 rw [<- e1];exact Decidable.not_not.1 h
theorem zDj (h:¬ Scu.stateFault s≠0):s.lasts.length=4/\¬ Scu.volFault s.volume≠0:=by
 unfold Scu.stateFault at h;split at h
 ·rename_i hx
  unfold Scu.lastsOk at hx;simp only [Bool.and_eq_true,beq_iff_eq] at hx
  exact ⟨hx.1,h⟩
 exact absurd (by decide) h
end
section
variable {w w':World} {nv sv lv:Value} {x:Scu.State}
theorem IsState.same (h:IsState w 0 nv sv lv x) (hs:Same [9,39,95] 0 w w'):IsState w' 0 nv sv lv x :=
 ⟨h.vol.same (hs.mono (fun t ht=>by simp at ht ⊢;rcases ht with h | h <;> simp [h]) (mC _)) rfl,h.lasts.same (hs.mono (fun t ht=>by simp at ht ⊢;simp [ht]) (mC _))⟩
theorem IsState.sets3 {g:Nat} {cs:Array Value} (h:IsState w 0 nv sv lv x) (hb:Blk w g 91 cs) (a b c:Value) :
 IsState (((w.setCell ⟨g,0,none⟩ a).setCell ⟨g,1,none⟩ b).setCell ⟨g,2,none⟩ c) 0 nv sv lv x:=h.same (Same.sets3 hb (mE _) (by decide) a b c)
theorem IsState.drew (h:IsState w 0 nv sv lv x):IsState w.drew 0 nv sv lv x:=h.below (mG _ _).drew
end
theorem zBc {B g:Nat} {w w1:World} {a b c:Value} (h:Below B w w1) (hg:B<=g) :
 Below B w (((w1.setCell ⟨g,0,none⟩ a).setCell ⟨g,1,none⟩ b).setCell ⟨g,2,none⟩ c) :=
 ((h.setCell (p:=⟨g,0,none⟩) hg _).setCell (p:=⟨g,1,none⟩) hg _).setCell (p:=⟨g,2,none⟩) hg _
theorem zCb {g:Nat} {w:World} {a b c p q r:Value} (h:Blk w g 91 #[p,q,r]) :
 Blk (((w.setCell ⟨g,0,none⟩ a).setCell ⟨g,1,none⟩ b).setCell ⟨g,2,none⟩ c) g 91 #[a,b,c]:=((h.set_ 0 a).set_ 1 b).set_ 2 c
open Go.RowKit
theorem zVk (A0:Option Addr) (n0 c0:Nat) (A1:Option Addr) (n1 c1:Nat) (A2:Option Addr) (n2 c2:Nat) (x:Scu.State) (s:Scu.Str) (w:World) (B:Nat) (hv:IsState w B (.slice A0 n0 c0) (.slice A1 n1 c1) (.slice A2 n2 c2) x) (hf:Scu.stateFault x≠0) :
 Calls Tryz.prog 102 #[.agg #[.slice A0 n0 c0,.slice A1 n1 c1,.slice A2 n2 c2],.string s] w fun e w'=>AppRet w' Scu.state0 (Scu.stateFault x) e/\Below w.heap.size w w':=by
 have HV:=mA hv;have Hc:(Scu.stateFault x != 0)=true:=by simpa using hf
 clear hf hv;go_enter Tryz.func102,Tryz.ntmps102
 go_wp2_with fail
 refine (zGn _ _ _ x _ B ((HV.out.alloc _).alloc _)).mono ?_;rintro en w1 ⟨rfl,h1⟩;have Hd:Blk w1 w.heap.size 91 #[.slice A0 n0 c0,.slice A1 n1 c1,.slice A2 n2 c2]:=((Blk.new w _ _).alloc _).same h1;have Ha:Blk w1 (w.heap.size+1) 91 #[.slice none 0 0,.slice none 0 0,.slice none 0 0]:=(Blk.new' (by simp)).same h1;have Hb:Below w.heap.size w w1:=((zAa w (.cells #[.slice A0 n0 c0,.slice A1 n1 c1,.slice A2 n2 c2] 91)).alloc (by simp) (.cells #[.slice none 0 0,.slice none 0 0,.slice none 0 0] 91)).trans (h1.mono (by simp;omega));clear h1;obtain ⟨z0,z1,z2⟩:=cz3 Ha;have zz:=Ha.frozen;have zl:=Ha.lt;have hr:=zCb (a:=.slice none 0 0) (b:=.slice none 0 0) (c:=.slice none 0 0) Ha;obtain ⟨r0,r1,r2⟩:=cz3 hr;go_wp2
 refine bodyPost_ret (v:=.tuple #[.agg #[.slice none 0 0,.slice none 0 0,.slice none 0 0],.int .i64 (Scu.stateFault x)]) (by simp [results,Tryz.results102,go_sem,r0,r1,r2]) rfl ?_;exact ⟨zGf _ _,zBc Hb (by omega)⟩
theorem zVl (A0:Option Addr) (n0 c0:Nat) (A1:Option Addr) (n1 c1:Nat) (A2:Option Addr) (n2 c2:Nat) (x:Scu.State) (s:Scu.Str) (r:Scu.Request) (c:Int) (w:World) (B:Nat) (hv:IsState w B (.slice A0 n0 c0) (.slice A1 n1 c1) (.slice A2 n2 c2) x) (hf:¬ Scu.stateFault x≠0)
 (hd:Scu.decode s=(r,c)) (hc:c≠0) :
 Calls Tryz.prog 102 #[.agg #[.slice A0 n0 c0,.slice A1 n1 c1,.slice A2 n2 c2],.string s] w fun e w'=>AppRet w' Scu.state0 c e/\Below w.heap.size w w':=by
 have HV:=mA hv;have HD:=mA hd;have Hj:(Scu.stateFault x != 0)=false:=by simpa using hf
 have Hk:(c != 0)=true:=by simpa using hc
 clear hf hv hd hc;go_enter Tryz.func102,Tryz.ntmps102
 go_wp2_with fail
 refine (zGn _ _ _ x _ B ((HV.out.alloc _).alloc _)).mono ?_;rintro en w1 ⟨rfl,h1⟩;have Hg:Blk w1 w.heap.size 91 #[.slice A0 n0 c0,.slice A1 n1 c1,.slice A2 n2 c2]:=((Blk.new w _ _).alloc _).same h1;have Ha:Blk w1 (w.heap.size+1) 91 #[.slice none 0 0,.slice none 0 0,.slice none 0 0]:=(Blk.new' (by simp)).same h1;have Hd:Below w.heap.size w w1:=((zAa w (.cells #[.slice A0 n0 c0,.slice A1 n1 c1,.slice A2 n2 c2] 91)).alloc (by simp) (.cells #[.slice none 0 0,.slice none 0 0,.slice none 0 0] 91)).trans (h1.mono (by simp;omega));clear h1;obtain ⟨z0,z1,z2⟩:=cz3 Ha;have zz:=Ha.frozen;have zl:=Ha.lt;go_wp2_with fail
 refine (zKz s _ r c HD.out).mono ?_;rintro en w2 ⟨rfl,h2⟩;have Hh:=Hg.same h2;have He:=Ha.same h2;have Hi:=He.lt;have Hf:=Hd.trans (h2.mono Hd.size);clear h2 Hg Ha Hd z0 z1 z2 zz zl;go_upto_region 5 with fail
 obtain ⟨Wd,Hb⟩:=mJ (w2.alloc (.cells #[.int .i64 r.client,.int .i64 r.num,.int .i64 r.op.kind,.int .i64 r.op.at_,.int .i64 r.op.snap,.string r.op.data] 53));rw [<- Hb];have Hc:Below w2.heap.size w2 Wd:=by rw [Hb];exact zAa _ _
 have hq:Blk Wd w2.heap.size 53 #[.int .i64 r.client,.int .i64 r.num,.int .i64 r.op.kind,.int .i64 r.op.at_,.int .i64 r.op.snap,.string r.op.data]:=by rw [Hb];exact Blk.new _ _ _
 have hs:=Hh.same Hc;have hz:=He.same Hc;have hb:=Hf.trans (Hc.mono Hf.size);clear Hh He Hf Hc Hb;obtain ⟨z0,z1,z2⟩:=cz3 hz;have zz:=hz.frozen;have zl:=hz.lt;obtain ⟨s0,s1,s2⟩:=cz3 hs;have sz:=hs.frozen;have sl:=hs.lt;obtain ⟨q0,q1,q2,q3,q4,q5⟩:=cz6 hq;have ql:=hq.lt;have hr:=zCb (a:=.slice none 0 0) (b:=.slice none 0 0) (c:=.slice none 0 0) hz;obtain ⟨r0,r1,r2⟩:=cz3 hr;go_wp2
 refine bodyPost_ret (v:=.tuple #[.agg #[.slice none 0 0,.slice none 0 0,.slice none 0 0],.int .i64 c]) (by simp [results,Tryz.results102,go_sem,r0,r1,r2]) rfl ?_;exact ⟨zGf _ _,zBc hb (by omega)⟩
structure Apl (Wd:World) (x:Scu.State) (g:Nat) (nu su lu:Value) (wx:World):Prop where
 out:Blk wx g 91 #[nu,su,lu]
 lo:Wd.heap.size<=g
 vol:OwnVol wx Wd.heap.size nu su x.volume
 lasts:OwnLasts wx Wd.heap.size lu x.lasts
 low:Below Wd.heap.size Wd wx
theorem useA {P Q:Prop} (h:P) (k:P->Q):Q:=k h
theorem zSo {Wd wb:World} {x:Scu.State} {nu su lu:Value} (hB:Below Wd.heap.size Wd wb) (hu:OwnVol wb Wd.heap.size nu su x.volume) (hl:OwnLasts wb Wd.heap.size lu x.lasts) :
 Apl Wd x wb.heap.size nu su lu (wb.alloc (.cells #[nu,su,lu] 91)) :=
 ⟨Blk.new wb _ _,hB.size,hu.alloc _,hl.below (zAa wb _),hB.alloc hB.size _⟩
theorem zSp {Wd wb:World} {x:Scu.State} {g:Nat} {nu su lu a b c:Value} (hB:Below Wd.heap.size Wd wb) (hu:OwnVol wb Wd.heap.size nu su x.volume) (hl:OwnLasts wb Wd.heap.size lu x.lasts) (hb:Blk wb g 91 #[a,b,c]) (hg:Wd.heap.size<=g) :
 Apl Wd x g nu su lu (((wb.setCell ⟨g,0,none⟩ nu).setCell ⟨g,1,none⟩ su).setCell ⟨g,2,none⟩ lu) :=
 ⟨zCb hb,hg,hu.same (Same.sets3 (B:=0) hb (mE _) (by decide) _ _ _),hl.same (Same.sets3 (B:=0) hb (mE _) (by decide) _ _ _),zBc hB hg⟩
theorem zYd (A0:Option Addr) (n0 c0:Nat) (A1:Option Addr) (n1 c1:Nat) (A2:Option Addr) (n2 c2:Nat) (x:Scu.State) (s:Scu.Str) (r:Scu.Request) (k:Nat) (w:World) (B:Nat) (hv:IsState w B (.slice A0 n0 c0) (.slice A1 n1 c1) (.slice A2 n2 c2) x) (hf:¬ Scu.stateFault x≠0)
 (hd:Scu.decode s=(r,0)) (hk:r.client=(k:Int)+1) (Hu:k < x.lasts.length) :
 Calls Tryz.prog 102 #[.agg #[.slice A0 n0 c0,.slice A1 n1 c1,.slice A2 n2 c2],.string s] w fun e w'=>AppRet w' (Scu.applyIt x r) 0 e/\Below w.heap.size w w':=by
 have Kn:¬ Scu.opFault r.op≠0:=by have:=(Scu.reqFault_ok (zGg hd)).2.2.2.2;omega
 have Ky:=mA Kn;clear Kn;have HV:=mA hv;have HD:=mA hd;have Vo:(Scu.stateFault x != 0)=false:=by simpa using hf
 have Vp:((0:Int) != 0)=false:=rfl;obtain ⟨Ko,Kp⟩:=zDj hf;have Kz:=mA Kp;have Vq:=mA Ko;have Vr:(k:Int) < (x.lasts.length:Int):=by omega
 have Va:n2=x.lasts.length:=by
  obtain ⟨A,c,e,_⟩:=hv.lasts.ex;cases e
  rfl
 have Vs:(k:Int) < (n2:Int):=by omega
 have Vt:k < 4:=by omega
 have Vb:(k:Int) < 4:=by omega
 have HK:=mA hk;clear hf hv hd Kp Ko Va hk;go_enter Tryz.func102,Tryz.ntmps102
 go_wp2_with fail
 refine (zGn _ _ _ x _ B ((HV.out.alloc _).alloc _)).mono ?_;rintro en w1 ⟨rfl,h1⟩;have Hl:Blk w1 w.heap.size 91 #[.slice A0 n0 c0,.slice A1 n1 c1,.slice A2 n2 c2]:=((Blk.new w _ _).alloc _).same h1;have Hm:Blk w1 (w.heap.size+1) 91 #[.slice none 0 0,.slice none 0 0,.slice none 0 0]:=(Blk.new' (by simp)).same h1;have Kb:Below w.heap.size w w1:=((zAa w (.cells #[.slice A0 n0 c0,.slice A1 n1 c1,.slice A2 n2 c2] 91)).alloc (by simp) (.cells #[.slice none 0 0,.slice none 0 0,.slice none 0 0] 91)).trans (h1.mono (by simp;omega));clear h1;obtain ⟨z0,z1,z2⟩:=cz3 Hm;have zz:=Hm.frozen;have zl:=Hm.lt;go_wp2_with fail
 refine (zKz s _ r 0 HD.out).mono ?_;rintro en w2 ⟨rfl,h2⟩;have Hn:=Hl.same h2;have Hf:=Hm.same h2;have Vc:=Hf.lt;have Kc:=Kb.trans (h2.mono Kb.size);clear h2 Hl Hm Kb z0 z1 z2 zz zl;go_upto_region 5 with fail
 obtain ⟨Wd,Hv⟩:=mJ (w2.alloc (.cells #[.int .i64 r.client,.int .i64 r.num,.int .i64 r.op.kind,.int .i64 r.op.at_,.int .i64 r.op.snap,.string r.op.data] 53));rw [<- Hv];have Hw:Below w2.heap.size w2 Wd:=by rw [Hv];exact zAa _ _
 have hq:Blk Wd w2.heap.size 53 #[.int .i64 r.client,.int .i64 r.num,.int .i64 r.op.kind,.int .i64 r.op.at_,.int .i64 r.op.snap,.string r.op.data]:=by rw [Hv];exact Blk.new _ _ _
 have hs:=Hn.same Hw;have hz:=Hf.same Hw;have hb:=Kc.trans (Hw.mono Kc.size);clear Hn Hf Kc Hw Hv;obtain ⟨z0,z1,z2⟩:=cz3 hz;have zz:=hz.frozen;have zl:=hz.lt;obtain ⟨s0,s1,s2⟩:=cz3 hs;have sz:=hs.frozen;have sl:=hs.lt;obtain ⟨q0,q1,q2,q3,q4,q5⟩:=cz6 hq;have ql:=hq.lt;have He:=mA (HV.out.below hb);have HS:=mA (mB hs (mB hz (mB hq hb)));clear hs hz hq hb;go_upto_region 7 with fail
 go_cut [9] (fun p wx=>∃ g nu su lu,p=.pointer (some ⟨g,0,none⟩)/\Apl Wd x g nu su lu wx)
 case first =>
  go_region_with (first
   | (go_at_call 112;refine (zCu _ _ x.volume _ B ?_).mono ?_;(first | exact He.out.vol.drewN 1 | exact (He.out.vol.alloc _).drewN 1 | exact (He.out.vol.drewN 1).alloc _);rintro en wa ⟨⟨nu,su,rfl,hu⟩,ha⟩
      refine useA (P:=Below Wd.heap.size Wd wa) ?_ ?_
      (first | exact (below_drewN (mG _ _) 1).trans ha | exact (below_drewN (zAa Wd (.cells #[.slice none 0 0,.slice none 0 0,.slice none 0 0] 91)) 1).trans (ha.mono (Nat.le_succ_of_le (mC _))) | exact ((below_drewN (mG _ _) 1).alloc (mC _) (.cells #[.slice none 0 0,.slice none 0 0,.slice none 0 0] 91)).trans (ha.mono (by simp)))
      intro hA;refine useA (P:=OwnVol wa Wd.heap.size nu su x.volume) ?_ ?_
      (first | exact hu | exact hu.base_ (by simp))
      clear hu;intro hu;obtain ⟨A3,n3,c3,rfl⟩:=hu.is.now.form;obtain ⟨A4,n4,c4,rfl⟩:=hu.is.snaps.form;have HA:=mA hA;have HU:=mA hu;have t2:=cW hA sl s2;have Vd:=hA.size;have tl:w.heap.size < wa.heap.size:=mF sl hA.size;have tz:=cW hA sl s0
      (try (refine useA (P:=Blk wa Wd.heap.size 91 #[.slice none 0 0,.slice none 0 0,.slice none 0 0]) ?_ ?_;(first | exact ((Blk.new Wd _ _).drew).same ha | exact (Blk.new (Wd.drewN 1) _ _).same ha);intro Ho;have Hi:=mA Ho;clear Ho))
      clear hu ha hA)
   | (go_at_call 113;refine (zId _ x.lasts _ B ?_).mono ?_;(first | exact He.out.lasts.below HA.out | exact (He.out.lasts.below HA.out).alloc _);rintro en wb ⟨⟨lu,rfl,hl⟩,hb⟩
      refine useA (P:=Below wa.heap.size wa wb) ?_ ?_
      (first | exact hb | exact (zAa wa (.cells #[.slice none 0 0,.slice none 0 0,.slice none 0 0] 91)).trans (hb.mono (by simp)))
      intro hB;refine useA (P:=OwnLasts wb Wd.heap.size lu x.lasts) ?_ ?_
      (first | exact hl.base_ HA.out.size | exact hl.base_ (mD HA.out.size (by simp)))
      clear hl;intro hl;obtain ⟨A5,n5,c5,rfl⟩:=hl.is.form;have Kd:=mA (HU.out.below hB);have Ke:=mA hl;have HB:=mA (HA.out.trans (hB.mono HA.out.size));have Hb:=hB.size
      (try (have Ha:=mA (show Blk wb Wd.heap.size 91 #[.slice none 0 0,.slice none 0 0,.slice none 0 0] from Hi.out.same hB);have b0:=Ha.out.cell 0;have b1:=Ha.out.cell 1;have b2:=Ha.out.cell 2;simp only [List.getElem?_toArray,List.getElem?_cons_zero,List.getElem?_cons_succ] at b0 b1 b2;have bz:=Ha.out.frozen;have bl:=Ha.out.lt))
      (try (have Ha:=mA (show Blk wb wa.heap.size 91 #[.slice none 0 0,.slice none 0 0,.slice none 0 0] from (Blk.new wa _ _).same hb);have b0:=Ha.out.cell 0;have b1:=Ha.out.cell 1;have b2:=Ha.out.cell 2;simp only [List.getElem?_toArray,List.getElem?_cons_zero,List.getElem?_cons_succ] at b0 b1 b2;have bz:=Ha.out.frozen;have bl:=Ha.out.lt))
      clear hl hb hB)
   | (go_at_call 113;refine (zId _ x.lasts _ B ?_).mono ?_;(first | exact He.out.lasts.drewN 1 | exact (He.out.lasts.alloc _).drewN 1 | exact (He.out.lasts.drewN 1).alloc _);rintro en wa ⟨⟨lu,rfl,hl⟩,ha⟩
      refine useA (P:=Below Wd.heap.size Wd wa) ?_ ?_
      (first | exact (below_drewN (mG _ _) 1).trans ha | exact (below_drewN (zAa Wd (.cells #[.slice none 0 0,.slice none 0 0,.slice none 0 0] 91)) 1).trans (ha.mono (Nat.le_succ_of_le (mC _))) | exact ((below_drewN (mG _ _) 1).alloc (mC _) (.cells #[.slice none 0 0,.slice none 0 0,.slice none 0 0] 91)).trans (ha.mono (by simp)))
      intro hA;refine useA (P:=OwnLasts wa Wd.heap.size lu x.lasts) ?_ ?_
      (first | exact hl | exact hl.base_ (by simp))
      clear hl;intro hl;obtain ⟨A5,n5,c5,rfl⟩:=hl.is.form;have HA:=mA hA;have HL:=mA hl;have t0:=cW hA sl s0;have t1:=cW hA sl s1;have Vd:=hA.size;have tl:w.heap.size < wa.heap.size:=mF sl hA.size;have tz:=cW hA sl s0
      (try (refine useA (P:=Blk wa Wd.heap.size 91 #[.slice none 0 0,.slice none 0 0,.slice none 0 0]) ?_ ?_;(first | exact ((Blk.new Wd _ _).drew).same ha | exact (Blk.new (Wd.drewN 1) _ _).same ha);intro Ho;have Hi:=mA Ho;clear Ho))
      clear hl ha hA)
   | (go_at_call 112;refine (zCu _ _ x.volume _ B ?_).mono ?_;(first | exact He.out.vol.below HA.out | exact (He.out.vol.below HA.out).alloc _);rintro en wb ⟨⟨nu,su,rfl,hu⟩,hb⟩
      refine useA (P:=Below wa.heap.size wa wb) ?_ ?_
      (first | exact hb | exact (zAa wa (.cells #[.slice none 0 0,.slice none 0 0,.slice none 0 0] 91)).trans (hb.mono (by simp)))
      intro hB;refine useA (P:=OwnVol wb Wd.heap.size nu su x.volume) ?_ ?_
      (first | exact hu.base_ HA.out.size | exact hu.base_ (mD HA.out.size (by simp)))
      clear hu;intro hu;obtain ⟨A3,n3,c3,rfl⟩:=hu.is.now.form;obtain ⟨A4,n4,c4,rfl⟩:=hu.is.snaps.form;have Kd:=mA hu;have Ke:=mA (HL.out.below hB);have HB:=mA (HA.out.trans (hB.mono HA.out.size));have Hb:=hB.size
      (try (have Ha:=mA (show Blk wb Wd.heap.size 91 #[.slice none 0 0,.slice none 0 0,.slice none 0 0] from Hi.out.same hB);have b0:=Ha.out.cell 0;have b1:=Ha.out.cell 1;have b2:=Ha.out.cell 2;simp only [List.getElem?_toArray,List.getElem?_cons_zero,List.getElem?_cons_succ] at b0 b1 b2;have bz:=Ha.out.frozen;have bl:=Ha.out.lt))
      (try (have Ha:=mA (show Blk wb wa.heap.size 91 #[.slice none 0 0,.slice none 0 0,.slice none 0 0] from (Blk.new wa _ _).same hb);have b0:=Ha.out.cell 0;have b1:=Ha.out.cell 1;have b2:=Ha.out.cell 2;simp only [List.getElem?_toArray,List.getElem?_cons_zero,List.getElem?_cons_succ] at b0 b1 b2;have bz:=Ha.out.frozen;have bl:=Ha.out.lt))
      clear hu hb hB))
  all_goals
   go_wp2_with fail
   go_meet
   first
    | exact ⟨_,_,_,_,rfl,zSo HB.out Kd.out Ke.out⟩
    | exact ⟨_,_,_,_,rfl,zSp HB.out Kd.out Ke.out Ha.out (by omega)⟩
 case rest =>
 obtain ⟨g,nu,su,lu,rfl,hA⟩:=hcut;obtain ⟨A3,n3,c3,rfl⟩:=hA.vol.is.now.form;obtain ⟨A4,n4,c4,rfl⟩:=hA.vol.is.snaps.form;obtain ⟨gl,cl,cur,rfl,Vu,Hb,Kq⟩:=hA.lasts.at_ (by omega);have Hc:=hA.low;have hs:=HS.out.1.same Hc;have hz:=HS.out.2.1.same Hc;have hq:=HS.out.2.2.1.same Hc;have Ve:=HS.out.2.2.2.size;have hb:=HS.out.2.2.2.trans (Hc.mono Ve);have ho:=hA.out;have Vf:=zl;have Vg:=ql;clear s0 s1 s2 sz sl z0 z1 z2 zz zl q0 q1 q2 q3 q4 q5 ql;obtain ⟨s0,s1,s2⟩:=cz3 hs;have sz:=hs.frozen;have sl:=hs.lt;obtain ⟨z0,z1,z2⟩:=cz3 hz;have zz:=hz.frozen;have zl:=hz.lt;obtain ⟨q0,q1,q2,q3,q4,q5⟩:=cz6 hq;have ql:=hq.lt;obtain ⟨o0,o1,o2⟩:=cz3 ho;have oz:=ho.frozen;have ol:=ho.lt;have hk:=HK.out;rw [hk] at q0;obtain ⟨⟨A,c,e,_,hr⟩,_⟩:=HV.out.lasts.below hb;obtain ⟨gi,oi,rfl,Vv,Kr,_⟩:=zGa hr Hu;obtain rfl:A2=some ⟨gi,oi,none⟩:=by cases e;rfl
 obtain ⟨ln,Kf⟩:=mJ (x.lasts[k].num);rw [<- Kf] at Kr;have Ks:=mA Kf;have Vw:=hA.lo;have HA:=mA hA;have HB:=mA hb;have HZ:=mA hz;have HQ:=mA hq;have Vh:=mA Hb;have Hx:=mA Kq;have Hg:=Hb.lt;clear hs hz hq hb ho hr e Kf hA Hc hk Hb Kq;by_cases Kg:r.num<=ln
 ·have Hk:Scu.applyIt x r=x:=by
   unfold Scu.applyIt;rw [HK.out,show ((k:Int)+1 - 1).toNat=k by omega,mI,mH Hu,Option.getD_some,if_pos (by rw [<- Ks.out];exact Kg)]
  go_wp2_with fail
  go_quiet (fail)
  go_wp2_with fail
  have Kt:Blk (wc.drewN nq) (w.heap.size+1) 91 #[.slice none 0 0,.slice none 0 0,.slice none 0 0]:=HZ.out;have hr:=zCb (a:=.slice A3 n3 c3) (b:=.slice A4 n4 c4) (c:=.slice (some ⟨gl,0,none⟩) x.lasts.length cl) Kt;obtain ⟨r0,r1,r2⟩:=cz3 hr;refine bodyPost_ret (v:=.tuple #[.agg #[.slice A3 n3 c3,.slice A4 n4 c4,.slice (some ⟨gl,0,none⟩) x.lasts.length cl],.int .i64 0]) (by simp [results,Tryz.results102,go_sem,r0,r1,r2]) rfl ?_;exact ⟨by rw [Hk];exact ⟨_,_,_,rfl,IsState.sets3 (w:=wc.drewN nq) ⟨HA.out.vol.is.drewN nq,HA.out.lasts.is.drewN nq⟩ Kt _ _ _⟩,zBc (below_drewN HB.out nq) (by omega)⟩
 have Hk:Scu.applyIt x r=⟨(Scu.doIt x.volume r.op).1,x.lasts.set k ⟨r.num,(Scu.doIt x.volume r.op).2⟩⟩:=by
  unfold Scu.applyIt;rw [HK.out,show ((k:Int)+1 - 1).toNat=k by omega,mI,mH Hu,Option.getD_some,if_neg (by rw [<- Ks.out];exact Kg)]
 have Hy:=vd3 Kz.out Ky.out;generalize Scu.doIt x.volume r.op=q at Hk Hy;obtain ⟨y,⟨rc,rn,rd⟩⟩:=q;simp only at Hk Hy
 have Vi:=mA Hy;have Vj:=mA Hk;have Vx:ln < r.num:=by omega
 clear Hk Hy Kg;go_wp2_with fail
 go_quiet (fail)
 go_wp2_with fail
 refine (zYb _ _ x.volume r.op.kind r.op.at_ r.op.snap r.op.data _ 0 (HA.out.vol.is.drewN nq) y rc rn rd 0 Vi.out).mono ?_;rintro en w4 ⟨⟨na,sa,rfl,ha⟩,h4⟩;have h4:Below wc.heap.size wc w4:=(below_drewN (mG _ _) nq).trans h4;obtain ⟨A6,n6,c6,rfl⟩:=ha.is.now.form;obtain ⟨A7,n7,c7,rfl⟩:=ha.is.snaps.form;go_upto_region 11 with fail
 obtain ⟨Wf,Hp⟩:=mJ ((w4.alloc (.cells #[.slice A6 n6 c6,.slice A7 n7 c7] 88)).alloc (.cells #[.int .i64 rc,.int .i64 rn,.string rd] 69));rw [<- Hp];have Kh:Below w4.heap.size w4 Wf:=by rw [Hp];exact (zAa w4 _).alloc (by simp) _
 have Ki:Blk Wf w4.heap.size 88 #[.slice A6 n6 c6,.slice A7 n7 c7]:=by rw [Hp];exact (Blk.new w4 _ _).alloc _
 have Kj:Blk Wf (w4.heap.size+1) 69 #[.int .i64 rc,.int .i64 rn,.string rd]:=by rw [Hp];exact Blk.new' (by simp)
 have Vk:=h4.size;have Hd:=h4.trans (Kh.mono Vk);have hz:=HZ.out.same Hd;have hq:=HQ.out.same Hd;have ho:=HA.out.out.same Hd;have Hb:=Vh.out.same Hd;have Hq:=ha.below Kh;have Hr:=HA.out.lasts.below Hd;have Hs:=HB.out.trans (Hd.mono HB.out.size);have e:∀ j,j < 4->(x.lasts.flatMap lastC)[k*4+j]? = (lastC x.lasts[k])[j]?:=fun j hj=>zIl lastC 4 (fun _=>rfl) x.lasts k j Hu hj
 have l0:Wf.cell? ⟨gl,k*4,none⟩=some (.int .i64 x.lasts[k].num):=((Hd.cell (p:=⟨gl,k*4,none⟩) Hg).trans (Hx.out (k*4) (by omega))).trans (e 0 (by omega));have l1:Wf.cell? ⟨gl,k*4+1,none⟩=some (.int .i64 x.lasts[k].reply.code):=((Hd.cell (p:=⟨gl,k*4+1,none⟩) Hg).trans (Hx.out (k*4+1) (by omega))).trans (e 1 (by omega));have l2:Wf.cell? ⟨gl,k*4+2,none⟩=some (.int .i64 x.lasts[k].reply.n):=((Hd.cell (p:=⟨gl,k*4+2,none⟩) Hg).trans (Hx.out (k*4+2) (by omega))).trans (e 2 (by omega));have l3:Wf.cell? ⟨gl,k*4+3,none⟩=some (.string x.lasts[k].reply.data):=((Hd.cell (p:=⟨gl,k*4+3,none⟩) Hg).trans (Hx.out (k*4+3) (by omega))).trans (e 3 (by omega));have lz:=Hb.frozen;have ll:=Hb.lt;have Kk:gl≠g:=by
  rintro rfl;unfold Blk at Hb ho;rw [Hb] at ho;cases ho
 have Hh:g≠gl:=fun e=>Kk e.symm
 have Vy:=ol;clear s0 s1 s2 sz sl z0 z1 z2 zz zl q0 q1 q2 q3 q4 q5 ql o0 o1 o2 oz ol Kr e Hp h4;obtain ⟨z0,z1,z2⟩:=cz3 hz;have zz:=hz.frozen;have zl:=hz.lt;obtain ⟨q0,q1,q2,q3,q4,q5⟩:=cz6 hq;have ql:=hq.lt;obtain ⟨o0,o1,o2⟩:=cz3 ho;have oz:=ho.frozen;have ol:=ho.lt;rw [HK.out] at q0;obtain ⟨v0,v1⟩:=cz2 Ki;obtain ⟨y0,y1,y2⟩:=cz3 Kj;have Kl:=Ki.lt;have Km:=Kj.lt;have Ku:g≠w.heap.size+1:=by omega
 have Vz:g≠w2.heap.size:=by omega
 have Ga:g≠w4.heap.size:=by omega
 have Gb:g≠w4.heap.size+1:=by omega
 have Hz:gl≠w.heap.size+1:=by omega
 have Gc:gl≠w2.heap.size:=by omega
 have Gd:gl≠w4.heap.size:=by omega
 have Ge:gl≠w4.heap.size+1:=by omega
 have HX:=mA (mB hz (mB ho (mB Hb (mB Hq (mB Hr Hs)))));clear hz hq ho Hb Hq Hr Hs Ki Kj Hd Kh ha;go_region
 obtain ⟨Wg,Hj⟩:=mJ (((((((Wf.setCell ⟨g,0,none⟩ (.slice A6 n6 c6)).setCell ⟨g,1,none⟩ (.slice A7 n7 c7)).setCell ⟨gl,k*4,none⟩ (.int .i64 r.num)).setCell ⟨gl,k*4+1,none⟩ (.int .i64 rc)).setCell ⟨gl,k*4+2,none⟩ (.int .i64 rn)).setCell ⟨gl,k*4+3,none⟩ (.string rd)).drew);rw [<- Hj];obtain ⟨hz,ho,Hb,Hq,Hr,Hs⟩:=HX.out;have Ht:=(Hb.far (p:=⟨g,0,none⟩) Kk (.slice A6 n6 c6)).far (p:=⟨g,1,none⟩) Kk (.slice A7 n7 c7);have Hl:Same [9,39] 0 Wf ((Wf.setCell ⟨g,0,none⟩ (.slice A6 n6 c6)).setCell ⟨g,1,none⟩ (.slice A7 n7 c7)):=Same.sets2 ho (mE _) (by decide) _ _;have Hn:Same [95] 0 Wf ((Wf.setCell ⟨g,0,none⟩ (.slice A6 n6 c6)).setCell ⟨g,1,none⟩ (.slice A7 n7 c7)):=Same.sets2 ho (mE _) (by decide) _ _;have Kv:=Same.put4 (Ts:=[9,39]) (B:=0) Ht (mE _) (by decide) k ⟨r.num,⟨rc,rn,rd⟩⟩;have hV:OwnVol Wg wc.heap.size (.slice A6 n6 c6) (.slice A7 n7 c7) y:=by rw [Hj];exact ((Hq.same Hl).same Kv).below (mG _ _).drew
 have hL:OwnLasts Wg Wd.heap.size (.slice (some ⟨gl,0,none⟩) x.lasts.length cl) (x.lasts.set k ⟨r.num,⟨rc,rn,rd⟩⟩):=by rw [Hj];exact ((Hr.same Hn).put k ⟨r.num,⟨rc,rn,rd⟩⟩).below (mG _ _).drew
 have Ka:Blk Wg g 91 #[.slice A6 n6 c6,.slice A7 n7 c7,.slice (some ⟨gl,0,none⟩) x.lasts.length cl]:=by
  rw [Hj];exact (((((ho.set_ 0 (.slice A6 n6 c6)).set_ 1 (.slice A7 n7 c7)).far (p:=⟨gl,k*4,none⟩) Hh _).far (p:=⟨gl,k*4+1,none⟩) Hh _).far (p:=⟨gl,k*4+2,none⟩) Hh _ |>.far (p:=⟨gl,k*4+3,none⟩) Hh _).drew
 have Hf:Blk Wg (w.heap.size+1) 91 #[.slice none 0 0,.slice none 0 0,.slice none 0 0]:=by
  rw [Hj];exact (((((hz.far (p:=⟨g,0,none⟩) (fun e=>Ku e.symm) _).far (p:=⟨g,1,none⟩) (fun e=>Ku e.symm) _).far (p:=⟨gl,k*4,none⟩) (fun e=>Hz e.symm) _).far (p:=⟨gl,k*4+1,none⟩) (fun e=>Hz e.symm) _).far (p:=⟨gl,k*4+2,none⟩) (fun e=>Hz e.symm) _ |>.far (p:=⟨gl,k*4+3,none⟩) (fun e=>Hz e.symm) _).drew
 have Kw:Below w.heap.size w Wg:=by
  have q1:w.heap.size<=g:=by omega
  have q2:w.heap.size<=gl:=by omega
  rw [Hj];exact ((((((Hs.setCell (p:=⟨g,0,none⟩) q1 _).setCell (p:=⟨g,1,none⟩) q1 _).setCell (p:=⟨gl,k*4,none⟩) q2 _).setCell (p:=⟨gl,k*4+1,none⟩) q2 _).setCell (p:=⟨gl,k*4+2,none⟩) q2 _).setCell (p:=⟨gl,k*4+3,none⟩) q2 _).drew
 clear l0 l1 l2 l3 lz ll z0 z1 z2 zz zl q0 q1 q2 q3 q4 q5 ql o0 o1 o2 oz ol v0 v1 y0 y1 y2 Kl Km hz ho Hb Hq Hr Hs Ht Hl Hn Kv HX Hj;obtain ⟨z0,z1,z2⟩:=cz3 Hf;have zz:=Hf.frozen;have zl:=Hf.lt;obtain ⟨o0,o1,o2⟩:=cz3 Ka;have oz:=Ka.frozen;have ol:=Ka.lt;have Vl:=mA hV;have Vm:=mA hL;have Vn:=mA Kw;have Kx:=mA Hf;clear hV hL Kw Hf Ka;go_wp2
 have hr:=zCb (a:=.slice A6 n6 c6) (b:=.slice A7 n7 c7) (c:=.slice (some ⟨gl,0,none⟩) x.lasts.length cl) Kx.out;obtain ⟨r0,r1,r2⟩:=cz3 hr;refine bodyPost_ret (v:=.tuple #[.agg #[.slice A6 n6 c6,.slice A7 n7 c7,.slice (some ⟨gl,0,none⟩) x.lasts.length cl],.int .i64 0]) (by simp [results,Tryz.results102,go_sem,r0,r1,r2]) rfl ?_;exact ⟨by rw [Vj.out];exact ⟨_,_,_,rfl,IsState.sets3 ⟨Vl.out.is,Vm.out.is⟩ Kx.out _ _ _⟩,zBc Vn.out (by omega)⟩
theorem zYe (nv sv lv:Value) (x:Scu.State) (s:Scu.Str) (w:World) (B:Nat) (hv:IsState w B nv sv lv x) :
 Calls Tryz.prog 102 #[.agg #[nv,sv,lv],.string s] w fun e w'=>AppRet w' (Scu.apply x s).1 (Scu.apply x s).2 e/\Below w.heap.size w w':=by
 obtain ⟨A0,n0,c0,rfl⟩:=hv.vol.now.form;obtain ⟨A1,n1,c1,rfl⟩:=hv.vol.snaps.form;obtain ⟨A2,n2,c2,rfl⟩:=hv.lasts.form;by_cases hf:Scu.stateFault x≠0
 ·rw [ap1 hf];exact zVk A0 n0 c0 A1 n1 c1 A2 n2 c2 x s w B hv hf
 obtain ⟨q,hd⟩:=mK (Scu.decode s);obtain ⟨r,c⟩:=q;by_cases hc:c=0
 ·subst hc;rw [ap3 hf hd];obtain ⟨h1,h2,_⟩:=Scu.reqFault_ok (zGg hd);have h4:=(zDj hf).1;obtain ⟨k,hk⟩:∃ k:Nat,r.client=(k:Int)+1:=⟨(r.client - 1).toNat,by omega⟩;exact zYd A0 n0 c0 A1 n1 c1 A2 n2 c2 x s r k w B hv hf hd hk (by omega)
 rw [ap2 hf hd hc];exact zVl A0 n0 c0 A1 n1 c1 A2 n2 c2 x s r c w B hv hf hd hc
theorem zQo (A0:Option Addr) (n0 c0:Nat) (A1:Option Addr) (n1 c1:Nat) (A2:Option Addr) (c2:Nat) (x:Scu.State) (s:Scu.Str) (w:World) (B:Nat) (hv:IsState w B (.slice A0 n0 c0) (.slice A1 n1 c1) (.slice A2 x.lasts.length c2) x) (hf:Scu.stateFault x≠0) :
 Calls Tryz.prog 67 #[.agg #[.slice A0 n0 c0,.slice A1 n1 c1,.slice A2 x.lasts.length c2],.string s] w fun e w'=>AppRet w' Scu.state0 (Scu.stateFault x) e/\Below w.heap.size w w':=by
 have HV:=mA hv;have Hc:(Scu.stateFault x != 0)=true:=by simpa using hf
 have Hd:(Scu.stateFault x == 0)=false:=by simpa using hf
 clear hf hv;go_enter Tryz.func67,Tryz.ntmps67
 go_wp2_with fail
 refine (zEy _ _ _ x _ B ((HV.out.alloc _).alloc _)).mono ?_;rintro en w1 ⟨rfl,h1⟩;have He:Blk w1 w.heap.size 91 #[.slice A0 n0 c0,.slice A1 n1 c1,.slice A2 x.lasts.length c2]:=((Blk.new w _ _).alloc _).same h1;have Ha:Blk w1 (w.heap.size+1) 91 #[.slice none 0 0,.slice none 0 0,.slice none 0 0]:=(Blk.new' (by simp)).same h1;have Hb:Below w.heap.size w w1:=((zAa w (.cells #[.slice A0 n0 c0,.slice A1 n1 c1,.slice A2 x.lasts.length c2] 91)).alloc (by simp) (.cells #[.slice none 0 0,.slice none 0 0,.slice none 0 0] 91)).trans (h1.mono (by simp;omega));clear h1;obtain ⟨z0,z1,z2⟩:=cz3 Ha;have zz:=Ha.frozen;have zl:=Ha.lt;have hr:=zCb (a:=.slice none 0 0) (b:=.slice none 0 0) (c:=.slice none 0 0) Ha;obtain ⟨r0,r1,r2⟩:=cz3 hr;go_wp2
 refine bodyPost_ret (v:=.tuple #[.agg #[.slice none 0 0,.slice none 0 0,.slice none 0 0],.int .i64 (Scu.stateFault x)]) (by simp [results,Tryz.results67,go_sem,r0,r1,r2]) rfl ?_;exact ⟨zGf _ _,zBc Hb (by omega)⟩
theorem zQp (A0:Option Addr) (n0 c0:Nat) (A1:Option Addr) (n1 c1:Nat) (A2:Option Addr) (c2:Nat) (x:Scu.State) (s:Scu.Str) (r:Scu.Request) (c:Int) (w:World) (B:Nat) (hv:IsState w B (.slice A0 n0 c0) (.slice A1 n1 c1) (.slice A2 x.lasts.length c2) x) (hf:¬ Scu.stateFault x≠0)
 (hd:Scu.decode s=(r,c)) (hc:c≠0) :
 Calls Tryz.prog 67 #[.agg #[.slice A0 n0 c0,.slice A1 n1 c1,.slice A2 x.lasts.length c2],.string s] w fun e w'=>AppRet w' Scu.state0 c e/\Below w.heap.size w w':=by
 have HV:=mA hv;have HD:=mA hd;have Hj:(Scu.stateFault x != 0)=false:=by simpa using hf
 have Hk:(c != 0)=true:=by simpa using hc
 clear hf hv hd hc;go_enter Tryz.func67,Tryz.ntmps67
 go_wp2_with fail
 refine (zEy _ _ _ x _ B ((HV.out.alloc _).alloc _)).mono ?_;rintro en w1 ⟨rfl,h1⟩;have Hg:Blk w1 w.heap.size 91 #[.slice A0 n0 c0,.slice A1 n1 c1,.slice A2 x.lasts.length c2]:=((Blk.new w _ _).alloc _).same h1;have Ha:Blk w1 (w.heap.size+1) 91 #[.slice none 0 0,.slice none 0 0,.slice none 0 0]:=(Blk.new' (by simp)).same h1;have Hd:Below w.heap.size w w1:=((zAa w (.cells #[.slice A0 n0 c0,.slice A1 n1 c1,.slice A2 x.lasts.length c2] 91)).alloc (by simp) (.cells #[.slice none 0 0,.slice none 0 0,.slice none 0 0] 91)).trans (h1.mono (by simp;omega));clear h1;obtain ⟨z0,z1,z2⟩:=cz3 Ha;have zz:=Ha.frozen;have zl:=Ha.lt;go_wp2_with fail
 refine (zGz s _ r c HD.out).mono ?_;rintro en w2 ⟨rfl,h2⟩;have Hh:=Hg.same h2;have He:=Ha.same h2;have Hi:=He.lt;have Hf:=Hd.trans (h2.mono Hd.size);clear h2 Hg Ha Hd z0 z1 z2 zz zl;go_upto_region 5 with fail
 obtain ⟨Wd,Hb⟩:=mJ (w2.alloc (.cells #[.int .i64 r.client,.int .i64 r.num,.int .i64 r.op.kind,.int .i64 r.op.at_,.int .i64 r.op.snap,.string r.op.data] 53));rw [<- Hb];have Hc:Below w2.heap.size w2 Wd:=by rw [Hb];exact zAa _ _
 have hq:Blk Wd w2.heap.size 53 #[.int .i64 r.client,.int .i64 r.num,.int .i64 r.op.kind,.int .i64 r.op.at_,.int .i64 r.op.snap,.string r.op.data]:=by rw [Hb];exact Blk.new _ _ _
 have hs:=Hh.same Hc;have hz:=He.same Hc;have hb:=Hf.trans (Hc.mono Hf.size);clear Hh He Hf Hc Hb;obtain ⟨z0,z1,z2⟩:=cz3 hz;have zz:=hz.frozen;have zl:=hz.lt;obtain ⟨s0,s1,s2⟩:=cz3 hs;have sz:=hs.frozen;have sl:=hs.lt;obtain ⟨q0,q1,q2,q3,q4,q5⟩:=cz6 hq;have ql:=hq.lt;have hr:=zCb (a:=.slice none 0 0) (b:=.slice none 0 0) (c:=.slice none 0 0) hz;obtain ⟨r0,r1,r2⟩:=cz3 hr;go_wp2
 refine bodyPost_ret (v:=.tuple #[.agg #[.slice none 0 0,.slice none 0 0,.slice none 0 0],.int .i64 c]) (by simp [results,Tryz.results67,go_sem,r0,r1,r2]) rfl ?_;exact ⟨zGf _ _,zBc hb (by omega)⟩
theorem zSq (A0:Option Addr) (n0 c0:Nat) (A1:Option Addr) (n1 c1:Nat) (A2:Option Addr) (c2:Nat) (x:Scu.State) (s:Scu.Str) (r:Scu.Request) (k:Nat) (w:World) (B:Nat) (hv:IsState w B (.slice A0 n0 c0) (.slice A1 n1 c1) (.slice A2 x.lasts.length c2) x) (hf:¬ Scu.stateFault x≠0)
 (hd:Scu.decode s=(r,0)) (hk:r.client=(k:Int)+1) (Hx:k < x.lasts.length) :
 Calls Tryz.prog 67 #[.agg #[.slice A0 n0 c0,.slice A1 n1 c1,.slice A2 x.lasts.length c2],.string s] w fun e w'=>AppRet w' (Scu.applyIt x r) 0 e/\Below w.heap.size w w':=by
 have Ks:¬ Scu.opFault r.op≠0:=by have:=(Scu.reqFault_ok (zGg hd)).2.2.2.2;omega
 have Ve:=mA Ks;clear Ks;have HV:=mA hv;have HD:=mA hd;have Vv:(Scu.stateFault x != 0)=false:=by simpa using hf
 have Vw:((0:Int) != 0)=false:=rfl;obtain ⟨Kt,Ku⟩:=zDj hf;have Vf:=mA Ku;have Vg:=mA Kt;have Vx:(k:Int) < (x.lasts.length:Int):=by omega
 have Vy:k < 4:=by omega
 have Vh:(k:Int) < 4:=by omega
 have HK:=mA hk;clear hf hv hd Ku Kt hk;go_enter Tryz.func67,Tryz.ntmps67
 go_wp2_with fail
 refine (zEy _ _ _ x _ B ((HV.out.alloc _).alloc _)).mono ?_;rintro en w1 ⟨rfl,h1⟩;have Hl:Blk w1 w.heap.size 91 #[.slice A0 n0 c0,.slice A1 n1 c1,.slice A2 x.lasts.length c2]:=((Blk.new w _ _).alloc _).same h1;have Hm:Blk w1 (w.heap.size+1) 91 #[.slice none 0 0,.slice none 0 0,.slice none 0 0]:=(Blk.new' (by simp)).same h1;have Kf:Below w.heap.size w w1:=((zAa w (.cells #[.slice A0 n0 c0,.slice A1 n1 c1,.slice A2 x.lasts.length c2] 91)).alloc (by simp) (.cells #[.slice none 0 0,.slice none 0 0,.slice none 0 0] 91)).trans (h1.mono (by simp;omega));clear h1;obtain ⟨z0,z1,z2⟩:=cz3 Hm;have zz:=Hm.frozen;have zl:=Hm.lt;go_wp2_with fail
 refine (zGz s _ r 0 HD.out).mono ?_;rintro en w2 ⟨rfl,h2⟩;have Hn:=Hl.same h2;have He:=Hm.same h2;have Vi:=He.lt;have Kg:=Kf.trans (h2.mono Kf.size);clear h2 Hl Hm Kf z0 z1 z2 zz zl;go_upto_region 5 with fail
 obtain ⟨Wd,Hy⟩:=mJ (w2.alloc (.cells #[.int .i64 r.client,.int .i64 r.num,.int .i64 r.op.kind,.int .i64 r.op.at_,.int .i64 r.op.snap,.string r.op.data] 53));rw [<- Hy];have Hz:Below w2.heap.size w2 Wd:=by rw [Hy];exact zAa _ _
 have hq:Blk Wd w2.heap.size 53 #[.int .i64 r.client,.int .i64 r.num,.int .i64 r.op.kind,.int .i64 r.op.at_,.int .i64 r.op.snap,.string r.op.data]:=by rw [Hy];exact Blk.new _ _ _
 have hs:=Hn.same Hz;have hz:=He.same Hz;have hb:=Kg.trans (Hz.mono Kg.size);clear Hn He Kg Hz Hy;obtain ⟨z0,z1,z2⟩:=cz3 hz;have zz:=hz.frozen;have zl:=hz.lt;obtain ⟨s0,s1,s2⟩:=cz3 hs;have sz:=hs.frozen;have sl:=hs.lt;obtain ⟨q0,q1,q2,q3,q4,q5⟩:=cz6 hq;have ql:=hq.lt;have Hj:=mA (HV.out.below hb);have HS:=mA (mB hs (mB hz (mB hq hb)));clear hs hz hq hb;go_upto_region 7 with fail
 go_cut [9] (fun p wx=>∃ g nu su lu,p=.pointer (some ⟨g,0,none⟩)/\Apl Wd x g nu su lu wx)
 case first =>
  obtain ⟨⟨AL,cL,eL,_,Kh⟩,Ho⟩:=Hj.out.lasts;obtain ⟨rfl,rfl⟩:A2=AL/\c2=cL:=by cases eL;exact ⟨rfl,rfl⟩
  have Hp:=mA Kh;have Hq:=mA Ho;have Kv:=mA (show A2=none->x.lasts.length=0 by
   intro e;subst e;have h9:=congrArg List.length (zBi Kh);rw [zFq] at h9;simp only [List.length_nil] at h9
   omega)
  have Ka:=mA (show 0+x.lasts.length<=maxLen/\(0+x.lasts.length)*40<=140737488355328 by have:=Vg.out;unfold maxLen;omega);clear eL Kh Ho;go_region_law (first
   | (go_simp;go_at_call 96;refine (zCv _ _ x.volume _ B ?_).mono ?_;(first | exact Hj.out.vol.drewN 1 | exact (Hj.out.vol.alloc _).drewN 1 | exact (Hj.out.vol.drewN 1).alloc _);rintro en wa ⟨⟨nu,su,rfl,hu⟩,ha⟩
      refine useA (P:=Below Wd.heap.size Wd wa) ?_ ?_
      (first | exact (below_drewN (mG _ _) 1).trans ha | exact (below_drewN (zAa Wd (.cells #[.slice none 0 0,.slice none 0 0,.slice none 0 0] 91)) 1).trans (ha.mono (Nat.le_succ_of_le (mC _))) | exact ((below_drewN (mG _ _) 1).alloc (mC _) (.cells #[.slice none 0 0,.slice none 0 0,.slice none 0 0] 91)).trans (ha.mono (by simp)))
      intro hA;refine useA (P:=OwnVol wa Wd.heap.size nu su x.volume) ?_ ?_
      (first | exact hu | exact hu.base_ (by simp))
      clear hu;intro hu;obtain ⟨A3,n3,c3,rfl⟩:=hu.is.now.form;obtain ⟨A4,n4,c4,rfl⟩:=hu.is.snaps.form;have HA:=mA hA;have HU:=mA hu;have Vj:=hA.size;have tl:w.heap.size < wa.heap.size:=mF sl hA.size;have t0:=cW hA sl s0;have t1:=cW hA sl s1;have t2:=cW hA sl s2
      (try (refine useA (P:=Blk wa Wd.heap.size 91 #[.slice none 0 0,.slice none 0 0,.slice none 0 0]) ?_ ?_;(first | exact ((Blk.new Wd _ _).drew).same ha | exact (Blk.new (Wd.drewN 1) _ _).same ha);intro Hr;have Hh:=mA Hr;clear Hr))
      clear hu ha hA)
   | (refine zBq _ rfl (.const (.slice none 0 0)) (.tmp 32) 89 rfl zLf wa.heap.size _ 0 [] rfl (World.ownsRow_nil _ _ _ _) (.slice A2 x.lasts.length c2) x.lasts.length (x.lasts.flatMap lastC) rfl ?_ (zJh _) Ka.out.1 Ka.out.2 ?_ ?_
      ·refine zAq (size:=4) (B:=B) (t:=95) ?_ (zFq _) Kv.out
       (first | exact Hp.out.below HA.out | exact (Hp.out.below HA.out).alloc _)
      ·(first | exact mC _ | exact Nat.le_succ_of_le (mC _) | simp)
      intro lu wb hl hg _;refine useA (P:=OwnLasts wb Wd.heap.size lu x.lasts) ?_ ?_
      ·exact ⟨zAl (by simpa only [Nat.zero_add,List.nil_append] using hl) HA.out.size,Hq.out⟩
      clear hl;intro hl;have hb:=zAk hg (mC _) (fun q hq=>by cases hq);clear hg;refine useA (P:=Below wa.heap.size wa wb) ?_ ?_
      (first | exact hb | exact (zAa wa (.cells #[.slice none 0 0,.slice none 0 0,.slice none 0 0] 91)).trans (hb.mono (by simp)))
      intro hB;obtain ⟨A5,n5,c5,rfl⟩:=hl.is.form;have Ki:=mA (HU.out.below hB);have Kj:=mA hl;have HB:=mA (HA.out.trans (hB.mono HA.out.size));have Hb:=hB.size
      (try (have Ha:=mA (show Blk wb Wd.heap.size 91 #[.slice none 0 0,.slice none 0 0,.slice none 0 0] from Hh.out.same hB);have b0:=Ha.out.cell 0;have b1:=Ha.out.cell 1;have b2:=Ha.out.cell 2;simp only [List.getElem?_toArray,List.getElem?_cons_zero,List.getElem?_cons_succ] at b0 b1 b2;have bz:=Ha.out.frozen;have bl:=Ha.out.lt))
      (try (have Ha:=mA (show Blk wb wa.heap.size 91 #[.slice none 0 0,.slice none 0 0,.slice none 0 0] from (Blk.new wa _ _).same hb);have b0:=Ha.out.cell 0;have b1:=Ha.out.cell 1;have b2:=Ha.out.cell 2;simp only [List.getElem?_toArray,List.getElem?_cons_zero,List.getElem?_cons_succ] at b0 b1 b2;have bz:=Ha.out.frozen;have bl:=Ha.out.lt))
      clear hl hb hB)
   | (refine zBq _ rfl (.const (.slice none 0 0)) (.tmp 32) 89 rfl zLf Wd.heap.size _ 0 [] rfl (World.ownsRow_nil _ _ _ _) (.slice A2 x.lasts.length c2) x.lasts.length (x.lasts.flatMap lastC) rfl ?_ (zJh _) Ka.out.1 Ka.out.2 ?_ ?_
      ·refine zAq (size:=4) (B:=B) (t:=95) ?_ (zFq _) Kv.out
       (first | exact Hp.out.drewN 1 | exact (Hp.out.alloc _).drewN 1 | exact (Hp.out.drewN 1).alloc _)
      ·(first | exact mC _ | exact Nat.le_succ_of_le (mC _) | simp)
      intro lu wa hl hg _;refine useA (P:=OwnLasts wa Wd.heap.size lu x.lasts) ?_ ?_
      ·exact ⟨by simpa only [Nat.zero_add,List.nil_append] using hl,Hq.out⟩
      clear hl;intro hl;have ha:=zAk hg (mC _) (fun q hq=>by cases hq);clear hg;refine useA (P:=Below Wd.heap.size Wd wa) ?_ ?_
      (first | exact (below_drewN (mG _ _) 1).trans ha | exact (below_drewN (zAa Wd (.cells #[.slice none 0 0,.slice none 0 0,.slice none 0 0] 91)) 1).trans (ha.mono (Nat.le_succ_of_le (mC _))) | exact ((below_drewN (mG _ _) 1).alloc (mC _) (.cells #[.slice none 0 0,.slice none 0 0,.slice none 0 0] 91)).trans (ha.mono (by simp)))
      intro hA;obtain ⟨A5,n5,c5,rfl⟩:=hl.is.form;have HA:=mA hA;have HL:=mA hl;have Vj:=hA.size;have tl:w.heap.size < wa.heap.size:=mF sl hA.size;have t0:=cW hA sl s0;have t1:=cW hA sl s1;have t2:=cW hA sl s2
      (try (refine useA (P:=Blk wa Wd.heap.size 91 #[.slice none 0 0,.slice none 0 0,.slice none 0 0]) ?_ ?_;(first | exact ((Blk.new Wd _ _).drew).same ha | exact (Blk.new (Wd.drewN 1) _ _).same ha);intro Hr;have Hh:=mA Hr;clear Hr))
      clear hl ha hA)
   | (go_simp;go_at_call 96;refine (zCv _ _ x.volume _ B ?_).mono ?_;(first | exact Hj.out.vol.below HA.out | exact (Hj.out.vol.below HA.out).alloc _);rintro en wb ⟨⟨nu,su,rfl,hu⟩,hb⟩
      refine useA (P:=Below wa.heap.size wa wb) ?_ ?_
      (first | exact hb | exact (zAa wa (.cells #[.slice none 0 0,.slice none 0 0,.slice none 0 0] 91)).trans (hb.mono (by simp)))
      intro hB;refine useA (P:=OwnVol wb Wd.heap.size nu su x.volume) ?_ ?_
      (first | exact hu.base_ HA.out.size | exact hu.base_ (mD HA.out.size (by simp)))
      clear hu;intro hu;obtain ⟨A3,n3,c3,rfl⟩:=hu.is.now.form;obtain ⟨A4,n4,c4,rfl⟩:=hu.is.snaps.form;have Ki:=mA hu;have Kj:=mA (HL.out.below hB);have HB:=mA (HA.out.trans (hB.mono HA.out.size));have Hb:=hB.size
      (try (have Ha:=mA (show Blk wb Wd.heap.size 91 #[.slice none 0 0,.slice none 0 0,.slice none 0 0] from Hh.out.same hB);have b0:=Ha.out.cell 0;have b1:=Ha.out.cell 1;have b2:=Ha.out.cell 2;simp only [List.getElem?_toArray,List.getElem?_cons_zero,List.getElem?_cons_succ] at b0 b1 b2;have bz:=Ha.out.frozen;have bl:=Ha.out.lt))
      (try (have Ha:=mA (show Blk wb wa.heap.size 91 #[.slice none 0 0,.slice none 0 0,.slice none 0 0] from (Blk.new wa _ _).same hb);have b0:=Ha.out.cell 0;have b1:=Ha.out.cell 1;have b2:=Ha.out.cell 2;simp only [List.getElem?_toArray,List.getElem?_cons_zero,List.getElem?_cons_succ] at b0 b1 b2;have bz:=Ha.out.frozen;have bl:=Ha.out.lt))
      clear hu hb hB))
  all_goals
   go_wp2_with fail
   go_meet
   first
    | exact ⟨_,_,_,_,rfl,zSo HB.out Ki.out Kj.out⟩
    | exact ⟨_,_,_,_,rfl,zSp HB.out Ki.out Kj.out Ha.out (by omega)⟩
 case rest =>
 obtain ⟨g,nu,su,lu,rfl,hA⟩:=hcut;obtain ⟨A3,n3,c3,rfl⟩:=hA.vol.is.now.form;obtain ⟨A4,n4,c4,rfl⟩:=hA.vol.is.snaps.form;obtain ⟨gl,cl,cur,rfl,Vz,Hb,Kw⟩:=hA.lasts.at_ (by omega);have Hc:=hA.low;have hs:=HS.out.1.same Hc;have hz:=HS.out.2.1.same Hc;have hq:=HS.out.2.2.1.same Hc;have Vk:=HS.out.2.2.2.size;have hb:=HS.out.2.2.2.trans (Hc.mono Vk);have ho:=hA.out;have Vl:=zl;have Vm:=ql;clear s0 s1 s2 sz sl z0 z1 z2 zz zl q0 q1 q2 q3 q4 q5 ql;obtain ⟨s0,s1,s2⟩:=cz3 hs;have sz:=hs.frozen;have sl:=hs.lt;obtain ⟨z0,z1,z2⟩:=cz3 hz;have zz:=hz.frozen;have zl:=hz.lt;obtain ⟨q0,q1,q2,q3,q4,q5⟩:=cz6 hq;have ql:=hq.lt;obtain ⟨o0,o1,o2⟩:=cz3 ho;have oz:=ho.frozen;have ol:=ho.lt;have hk:=HK.out;rw [hk] at q0;obtain ⟨⟨A,c,e,_,hr⟩,_⟩:=HV.out.lasts.below hb;obtain ⟨gi,oi,rfl,Ga,Kx,_⟩:=zGa hr Hx;obtain rfl:A2=some ⟨gi,oi,none⟩:=by cases e;rfl
 obtain ⟨ln,Kk⟩:=mJ (x.lasts[k].num);rw [<- Kk] at Kx;have Ky:=mA Kk;have Gb:=hA.lo;have HA:=mA hA;have HB:=mA hb;have HZ:=mA hz;have HQ:=mA hq;have Vn:=mA Hb;have Kb:=mA Kw;have Hf:=Hb.lt;clear hs hz hq hb ho hr e Kk hA Hc hk Hb Kw;by_cases Kl:r.num<=ln
 ·have Vo:¬ ln < r.num:=by omega
  have Hk:Scu.applyIt x r=x:=by
   unfold Scu.applyIt;rw [HK.out,show ((k:Int)+1 - 1).toNat=k by omega,mI,mH Hx,Option.getD_some,if_pos (by rw [<- Ky.out];exact Kl)]
  go_wp2_with fail
  go_quiet (fail)
  go_wp2_with fail
  have Kz:Blk (wc.drewN nq) (w.heap.size+1) 91 #[.slice none 0 0,.slice none 0 0,.slice none 0 0]:=HZ.out;have hr:=zCb (a:=.slice A3 n3 c3) (b:=.slice A4 n4 c4) (c:=.slice (some ⟨gl,0,none⟩) x.lasts.length cl) Kz;obtain ⟨r0,r1,r2⟩:=cz3 hr;refine bodyPost_ret (v:=.tuple #[.agg #[.slice A3 n3 c3,.slice A4 n4 c4,.slice (some ⟨gl,0,none⟩) x.lasts.length cl],.int .i64 0]) (by simp [results,Tryz.results67,go_sem,r0,r1,r2]) rfl ?_;exact ⟨by rw [Hk];exact ⟨_,_,_,rfl,IsState.sets3 (w:=wc.drewN nq) ⟨HA.out.vol.is.drewN nq,HA.out.lasts.is.drewN nq⟩ Kz _ _ _⟩,zBc (below_drewN HB.out nq) (by omega)⟩
 have Hk:Scu.applyIt x r=⟨(Scu.doIt x.volume r.op).1,x.lasts.set k ⟨r.num,(Scu.doIt x.volume r.op).2⟩⟩:=by
  unfold Scu.applyIt;rw [HK.out,show ((k:Int)+1 - 1).toNat=k by omega,mI,mH Hx,Option.getD_some,if_neg (by rw [<- Ky.out];exact Kl)]
 have Kc:=vd3 Vf.out Ve.out;generalize Scu.doIt x.volume r.op=q at Hk Kc;obtain ⟨y,⟨rc,rn,rd⟩⟩:=q;simp only at Hk Kc
 have Vp:=mA Kc;have Vq:=mA Hk;have Gc:ln < r.num:=by omega
 clear Hk Kc Kl;go_wp2_with fail
 go_quiet (fail)
 go_wp2_with fail
 refine (zYc _ _ x.volume r.op.kind r.op.at_ r.op.snap r.op.data _ B ((HV.out.vol.below HB.out).drewN nq) y rc rn rd 0 Vp.out).mono ?_;rintro en w4 ⟨⟨na,sa,rfl,ha⟩,h4⟩;have h4:Below wc.heap.size wc w4:=(below_drewN (mG _ _) nq).trans h4;obtain ⟨A6,n6,c6,rfl⟩:=ha.is.now.form;obtain ⟨A7,n7,c7,rfl⟩:=ha.is.snaps.form;go_upto_region 10 with fail
 obtain ⟨Wf,Hs⟩:=mJ ((w4.alloc (.cells #[.slice A6 n6 c6,.slice A7 n7 c7] 88)).alloc (.cells #[.int .i64 rc,.int .i64 rn,.string rd] 69));rw [<- Hs];have Km:Below w4.heap.size w4 Wf:=by rw [Hs];exact (zAa w4 _).alloc (by simp) _
 have Kn:Blk Wf w4.heap.size 88 #[.slice A6 n6 c6,.slice A7 n7 c7]:=by rw [Hs];exact (Blk.new w4 _ _).alloc _
 have Ko:Blk Wf (w4.heap.size+1) 69 #[.int .i64 rc,.int .i64 rn,.string rd]:=by rw [Hs];exact Blk.new' (by simp)
 have Vr:=h4.size;have Hd:=h4.trans (Km.mono Vr);have hz:=HZ.out.same Hd;have hq:=HQ.out.same Hd;have ho:=HA.out.out.same Hd;have Hb:=Vn.out.same Hd;have Ht:=ha.below Km;have Hu:=HA.out.lasts.below Hd;have Hv:=HB.out.trans (Hd.mono HB.out.size);have e:∀ j,j < 4->(x.lasts.flatMap lastC)[k*4+j]? = (lastC x.lasts[k])[j]?:=fun j hj=>zIl lastC 4 (fun _=>rfl) x.lasts k j Hx hj
 have l0:Wf.cell? ⟨gl,k*4,none⟩=some (.int .i64 x.lasts[k].num):=((Hd.cell (p:=⟨gl,k*4,none⟩) Hf).trans (Kb.out (k*4) (by omega))).trans (e 0 (by omega));have l1:Wf.cell? ⟨gl,k*4+1,none⟩=some (.int .i64 x.lasts[k].reply.code):=((Hd.cell (p:=⟨gl,k*4+1,none⟩) Hf).trans (Kb.out (k*4+1) (by omega))).trans (e 1 (by omega));have l2:Wf.cell? ⟨gl,k*4+2,none⟩=some (.int .i64 x.lasts[k].reply.n):=((Hd.cell (p:=⟨gl,k*4+2,none⟩) Hf).trans (Kb.out (k*4+2) (by omega))).trans (e 2 (by omega));have l3:Wf.cell? ⟨gl,k*4+3,none⟩=some (.string x.lasts[k].reply.data):=((Hd.cell (p:=⟨gl,k*4+3,none⟩) Hf).trans (Kb.out (k*4+3) (by omega))).trans (e 3 (by omega));have lz:=Hb.frozen;have ll:=Hb.lt;have Kp:gl≠g:=by
  rintro rfl;unfold Blk at Hb ho;rw [Hb] at ho;cases ho
 have Hg:g≠gl:=fun e=>Kp e.symm
 have Gd:=ol;clear s0 s1 s2 sz sl z0 z1 z2 zz zl q0 q1 q2 q3 q4 q5 ql o0 o1 o2 oz ol Kx e Hs h4;obtain ⟨z0,z1,z2⟩:=cz3 hz;have zz:=hz.frozen;have zl:=hz.lt;obtain ⟨q0,q1,q2,q3,q4,q5⟩:=cz6 hq;have ql:=hq.lt;obtain ⟨o0,o1,o2⟩:=cz3 ho;have oz:=ho.frozen;have ol:=ho.lt;rw [HK.out] at q0;obtain ⟨v0,v1⟩:=cz2 Kn;obtain ⟨y0,y1,y2⟩:=cz3 Ko;have Kq:=Kn.lt;have Kr:=Ko.lt;have Va:g≠w.heap.size+1:=by omega
 have Ge:g≠w2.heap.size:=by omega
 have Gf:g≠w4.heap.size:=by omega
 have Gg:g≠w4.heap.size+1:=by omega
 have Kd:gl≠w.heap.size+1:=by omega
 have Gh:gl≠w2.heap.size:=by omega
 have Gi:gl≠w4.heap.size:=by omega
 have Gj:gl≠w4.heap.size+1:=by omega
 have HX:=mA (mB hz (mB ho (mB Hb (mB Ht (mB Hu Hv)))));clear hz hq ho Hb Ht Hu Hv Kn Ko Hd Km ha;go_upto_region 12 with fail
 obtain ⟨Wg,Hi⟩:=mJ (((((((Wf.setCell ⟨g,0,none⟩ (.slice A6 n6 c6)).setCell ⟨g,1,none⟩ (.slice A7 n7 c7)).setCell ⟨gl,k*4,none⟩ (.int .i64 r.num)).setCell ⟨gl,k*4+1,none⟩ (.int .i64 rc)).setCell ⟨gl,k*4+2,none⟩ (.int .i64 rn)).setCell ⟨gl,k*4+3,none⟩ (.string rd)));rw [<- Hi];obtain ⟨hz,ho,Hb,Ht,Hu,Hv⟩:=HX.out;have Hw:=(Hb.far (p:=⟨g,0,none⟩) Kp (.slice A6 n6 c6)).far (p:=⟨g,1,none⟩) Kp (.slice A7 n7 c7);have Hl:Same [9,39] 0 Wf ((Wf.setCell ⟨g,0,none⟩ (.slice A6 n6 c6)).setCell ⟨g,1,none⟩ (.slice A7 n7 c7)):=Same.sets2 ho (mE _) (by decide) _ _;have Hn:Same [95] 0 Wf ((Wf.setCell ⟨g,0,none⟩ (.slice A6 n6 c6)).setCell ⟨g,1,none⟩ (.slice A7 n7 c7)):=Same.sets2 ho (mE _) (by decide) _ _;have Vb:=Same.put4 (Ts:=[9,39]) (B:=0) Hw (mE _) (by decide) k ⟨r.num,⟨rc,rn,rd⟩⟩;have hV:OwnVol Wg wc.heap.size (.slice A6 n6 c6) (.slice A7 n7 c7) y:=by rw [Hi];exact (Ht.same Hl).same Vb
 have hL:OwnLasts Wg Wd.heap.size (.slice (some ⟨gl,0,none⟩) x.lasts.length cl) (x.lasts.set k ⟨r.num,⟨rc,rn,rd⟩⟩):=by rw [Hi];exact (Hu.same Hn).put k ⟨r.num,⟨rc,rn,rd⟩⟩
 have Ke:Blk Wg g 91 #[.slice A6 n6 c6,.slice A7 n7 c7,.slice (some ⟨gl,0,none⟩) x.lasts.length cl]:=by
  rw [Hi];exact (((((ho.set_ 0 (.slice A6 n6 c6)).set_ 1 (.slice A7 n7 c7)).far (p:=⟨gl,k*4,none⟩) Hg _).far (p:=⟨gl,k*4+1,none⟩) Hg _).far (p:=⟨gl,k*4+2,none⟩) Hg _ |>.far (p:=⟨gl,k*4+3,none⟩) Hg _)
 have He:Blk Wg (w.heap.size+1) 91 #[.slice none 0 0,.slice none 0 0,.slice none 0 0]:=by
  rw [Hi];exact (((((hz.far (p:=⟨g,0,none⟩) (fun e=>Va e.symm) _).far (p:=⟨g,1,none⟩) (fun e=>Va e.symm) _).far (p:=⟨gl,k*4,none⟩) (fun e=>Kd e.symm) _).far (p:=⟨gl,k*4+1,none⟩) (fun e=>Kd e.symm) _).far (p:=⟨gl,k*4+2,none⟩) (fun e=>Kd e.symm) _ |>.far (p:=⟨gl,k*4+3,none⟩) (fun e=>Kd e.symm) _)
 have Vc:Below w.heap.size w Wg:=by
  have q1:w.heap.size<=g:=by omega
  have q2:w.heap.size<=gl:=by omega
  rw [Hi];exact ((((((Hv.setCell (p:=⟨g,0,none⟩) q1 _).setCell (p:=⟨g,1,none⟩) q1 _).setCell (p:=⟨gl,k*4,none⟩) q2 _).setCell (p:=⟨gl,k*4+1,none⟩) q2 _).setCell (p:=⟨gl,k*4+2,none⟩) q2 _).setCell (p:=⟨gl,k*4+3,none⟩) q2 _)
 clear l0 l1 l2 l3 lz ll z0 z1 z2 zz zl q0 q1 q2 q3 q4 q5 ql o0 o1 o2 oz ol v0 v1 y0 y1 y2 Kq Kr hz ho Hb Ht Hu Hv Hw Hl Hn Vb HX Hi;obtain ⟨z0,z1,z2⟩:=cz3 He;have zz:=He.frozen;have zl:=He.lt;obtain ⟨o0,o1,o2⟩:=cz3 Ke;have oz:=Ke.frozen;have ol:=Ke.lt;have Vs:=mA hV;have Vt:=mA hL;have Vu:=mA Vc;have Vd:=mA He;clear hV hL Vc He Ke;go_wp2
 have hr:=zCb (a:=.slice A6 n6 c6) (b:=.slice A7 n7 c7) (c:=.slice (some ⟨gl,0,none⟩) x.lasts.length cl) Vd.out;obtain ⟨r0,r1,r2⟩:=cz3 hr;refine bodyPost_ret (v:=.tuple #[.agg #[.slice A6 n6 c6,.slice A7 n7 c7,.slice (some ⟨gl,0,none⟩) x.lasts.length cl],.int .i64 0]) (by simp [results,Tryz.results67,go_sem,r0,r1,r2]) rfl ?_;exact ⟨by rw [Vq.out];exact ⟨_,_,_,rfl,IsState.sets3 ⟨Vs.out.is,Vt.out.is⟩ Vd.out _ _ _⟩,zBc Vu.out (by omega)⟩
theorem zSr (nv sv lv:Value) (x:Scu.State) (s:Scu.Str) (w:World) (B:Nat) (hv:IsState w B nv sv lv x) :
 Calls Tryz.prog 67 #[.agg #[nv,sv,lv],.string s] w fun e w'=>AppRet w' (Scu.apply x s).1 (Scu.apply x s).2 e/\Below w.heap.size w w':=by
 obtain ⟨A0,n0,c0,rfl⟩:=hv.vol.now.form;obtain ⟨A1,n1,c1,rfl⟩:=hv.vol.snaps.form;obtain ⟨⟨A2,c2,rfl,_⟩,_⟩:=hv.lasts;by_cases hf:Scu.stateFault x≠0
 ·rw [ap1 hf];exact zQo A0 n0 c0 A1 n1 c1 A2 c2 x s w B hv hf
 obtain ⟨q,hd⟩:=mK (Scu.decode s);obtain ⟨r,c⟩:=q;by_cases hc:c=0
 ·subst hc;rw [ap3 hf hd];obtain ⟨h1,h2,_⟩:=Scu.reqFault_ok (zGg hd);have h4:=(zDj hf).1;obtain ⟨k,hk⟩:∃ k:Nat,r.client=(k:Int)+1:=⟨(r.client - 1).toNat,by omega⟩;exact zSq A0 n0 c0 A1 n1 c1 A2 c2 x s r k w B hv hf hd hk (by omega)
 rw [ap2 hf hd hc];exact zQp A0 n0 c0 A1 n1 c1 A2 c2 x s r c w B hv hf hd hc
end Go.Proofs.YtlngfbngnnepiaaGreat
