/- Part 41: words and walks under the laws of the whole. -/
import Derived.Test.YtlngfbngnnepiaaGreatZZ40
set_option linter.unusedVariables false
set_option linter.unusedSimpArgs false
set_option maxHeartbeats 4000000
set_option maxRecDepth 100000
namespace Go.Proofs.YtlngfbngnnepiaaGreat
open Go.RowKit
theorem zVm (nv sv lv:Value) (x:Scu.State) (s:Scu.Str) (w:World) (B:Nat) (hv:IsState w B nv sv lv x) (y:Scu.State) (c:Int) (h:Scu.apply x s=(y,c)) :
 Calls Tryz.prog 102 #[.agg #[nv,sv,lv],.string s] w fun e w'=>AppRet w' y c e/\Below w.heap.size w w':=by
 have:=zYe nv sv lv x s w B hv;rw [h] at this;exact this
theorem zQq (nv sv lv:Value) (x:Scu.State) (s:Scu.Str) (w:World) (B:Nat) (hv:IsState w B nv sv lv x) (y:Scu.State) (c:Int) (h:Scu.apply x s=(y,c)) :
 Calls Tryz.prog 67 #[.agg #[nv,sv,lv],.string s] w fun e w'=>AppRet w' y c e/\Below w.heap.size w w':=by
 have:=zSr nv sv lv x s w B hv;rw [h] at this;exact this
theorem zHl {l:List Scu.Str} {k:Nat} (hk:k < l.length) {y z:Scu.State} {c:Int} (h:Scu.apply y l[k]=(z,c)):Scu.playFrom y (l.drop k)=if c≠0 then (Scu.state0,c) else Scu.playFrom z (l.drop (k+1)):=by
 rw [List.drop_eq_getElem_cons hk];show (if (Scu.apply y l[k]).2≠0 then _ else _)=_
 rw [h]
structure PlayI (w:World) (b:Nat) (l:List Scu.Str) (k:Nat) (nv sv lv:Value) (y:Scu.State) (wr:World):Prop where
 zero:Blk wr w.heap.size 91 #[.slice none 0 0,.slice none 0 0,.slice none 0 0]
 blk:Blk wr b 91 #[nv,sv,lv]
 st:IsState wr 0 nv sv lv y
 so:Scu.play l=Scu.playFrom y (l.drop k)
 low:Below w.heap.size w wr
 ne:w.heap.size < b
theorem PlayI.below {w wr w':World} {b k:Nat} {l:List Scu.Str} {nv sv lv:Value} {y:Scu.State} (h:PlayI w b l k nv sv lv y wr) (hb:Below wr.heap.size wr w'):PlayI w b l k nv sv lv y w' :=
 ⟨h.zero.same hb,h.blk.same hb,h.st.below hb,h.so,h.low.trans (hb.mono h.low.size),h.ne⟩
theorem PlayI.next {w wr:World} {b k:Nat} {l:List Scu.Str} {nv sv lv nu su lu:Value} {y z:Scu.State} (h:PlayI w b l k nv sv lv y wr) (hz:IsState wr 0 nu su lu z) (hs:Scu.play l=Scu.playFrom z (l.drop (k+1))) :
 PlayI w b l (k+1) nu su lu z (((wr.setCell ⟨b,0,none⟩ nu).setCell ⟨b,1,none⟩ su).setCell ⟨b,2,none⟩ lu) :=
 ⟨((h.zero.far (p:=⟨b,0,none⟩) (Nat.ne_of_lt h.ne) _).far (p:=⟨b,1,none⟩) (Nat.ne_of_lt h.ne) _).far (p:=⟨b,2,none⟩) (Nat.ne_of_lt h.ne) _,zCb h.blk,hz.sets3 h.blk _ _ _,hs,zBc h.low (Nat.le_of_lt h.ne),h.ne⟩
theorem zO5 {P:Prop} (h:P:=by
 exact ⟨by rw [HS.out];exact ⟨_,_,_,rfl,HP.out.st.sets3 HP.out.zero _ _ _⟩,zBc HP.out.low (mC _)⟩):P:=h
theorem zZn (v:Value) (l:List Scu.Str) (w:World) (B:Nat) (hv:IsStrs w B v l) :
 Calls Tryz.prog 77 #[v] w fun e w'=>AppRet w' (Scu.play l).1 (Scu.play l).2 e/\Below w.heap.size w w':=by
 obtain ⟨⟨A,c,rfl,_,hr⟩,hl,_⟩:=hv;unfold R47 at hl;go_enter Tryz.func77,Tryz.ntmps77
 go_wp2_with fail
 refine (zMd _).mono ?_;rintro en w1 ⟨⟨nv,sv,lv,rfl,hn⟩,h1⟩;obtain ⟨A1,n1,c1,rfl⟩:=hn.vol.now.form;obtain ⟨A2,n2,c2,rfl⟩:=hn.vol.snaps.form;obtain ⟨A3,n3,c3,rfl⟩:=hn.lasts.form;have hP:PlayI w w1.heap.size l 0 (.slice A1 n1 c1) (.slice A2 n2 c2) (.slice A3 n3 c3) Scu.stateNew (w1.alloc (.cells #[.slice A1 n1 c1,.slice A2 n2 c2,.slice A3 n3 c3] 91)) :=
  ⟨((Blk.new w _ _).same h1).alloc _,Blk.new w1 _ _,hn.alloc _,rfl,((zAa w _).trans (h1.mono (by simp))).alloc (by have:=h1.size;simp at this;omega) _,by have:=h1.size;simp at this;omega⟩
 have HP:=mA hP;clear hP hn h1;go_wp2_with fail
 go_loopw [12] (fun i wr=>∃ (k:Nat) (A1:Option Addr) (n1 c1:Nat) (A2:Option Addr) (n2 c2:Nat) (A3:Option Addr) (n3 c3:Nat) (y:Scu.State),k<=l.length/\i=.int .i64 k/\PlayI w w1.heap.size l k (.slice A1 n1 c1) (.slice A2 n2 c2) (.slice A3 n3 c3) y wr) (fun i _=>l.length - (intOf i).toNat)
 case atStart=>exact ⟨0,A1,n1,c1,A2,n2,c2,A3,n3,c3,_,mE _,rfl,HP.out⟩
 case round =>
  obtain ⟨k,D1,m1,d1,D2,m2,d2,D3,m3,d3,y,hk,rfl,hP⟩:=hrel;have Ha:=hP.blk;obtain ⟨b0,b1,b2⟩:=cz3 Ha;have bz:=Ha.frozen;have bl:=Ha.lt;have hz:=hP.zero;obtain ⟨z0,z1,z2⟩:=cz3 hz;have zz:=hz.frozen;have zl:=hz.lt;have Hm:=hP.ne;by_cases He:k < l.length
  ·have Hj:(k:Int) < (l.length:Int):=by omega
   obtain ⟨g,o,rfl,hg,Hk⟩:=zBz (hr.below hP.low) He;obtain ⟨q,hq⟩:=mK (Scu.apply y l[k]);obtain ⟨z,c⟩:=q;have HQ:=mA hq;have HP:=mA hP;clear Ha hz hP hq;go_wp2_with fail
   refine (zVm _ _ _ y l[k] _ 0 HP.out.st z c HQ.out).mono ?_;rintro en w2 ⟨⟨nu,su,lu,rfl,hu⟩,h2⟩;obtain ⟨E1,p1,f1,rfl⟩:=hu.vol.now.form;obtain ⟨E2,p2,f2,rfl⟩:=hu.vol.snaps.form;obtain ⟨E3,p3,f3,rfl⟩:=hu.lasts.form;go_upto_region 6 with fail
   obtain ⟨Wd,Hc⟩:=mJ (w2.alloc (.cells #[.slice E1 p1 f1,.slice E2 p2 f2,.slice E3 p3 f3] 91));rw [<- Hc];have Hf:Below w2.heap.size w2 Wd:=by rw [Hc];exact zAa _ _
   have hq:Blk Wd w2.heap.size 91 #[.slice E1 p1 f1,.slice E2 p2 f2,.slice E3 p3 f3]:=by rw [Hc];exact Blk.new _ _ _
   have Hd:=(HP.out.below h2).below Hf;have Hh:=hu.below Hf;have Ha:=Hd.blk;have hz:=Hd.zero;clear b0 b1 b2 bz bl z0 z1 z2 zz zl Hk Hc Hf h2 hu;obtain ⟨b0,b1,b2⟩:=cz3 Ha;have bz:=Ha.frozen;have bl:=Ha.lt;obtain ⟨z0,z1,z2⟩:=cz3 hz;have zz:=hz.frozen;have zl:=hz.lt;obtain ⟨q0,q1,q2⟩:=cz3 hq;have qz:=hq.frozen;have ql:=hq.lt;have Hb:=mA Hd;have Hl:=mA Hh;clear Ha hz hq Hd Hh HP;by_cases hc:c=0
   ·subst hc;have HS:=mA (show Scu.play l=Scu.playFrom z (l.drop (k+1)) by rw [Hb.out.so,zHl He HQ.out,if_neg (by simp)]);go_wp2
    refine ⟨⟨k+1,E1,p1,f1,E2,p2,f2,E3,p3,f3,z,by omega,rfl,Hb.out.next Hl.out HS.out⟩,?_⟩;simp [intOf];omega
   have Hn:(c != 0)=true:=by simpa using hc
   have HS:=mA (show Scu.play l=(Scu.state0,c) by rw [Hb.out.so,zHl He HQ.out,if_pos hc]);clear hc;go_wp2
   have Hg:=zCb (a:=.slice none 0 0) (b:=.slice none 0 0) (c:=.slice none 0 0) Hb.out.zero;obtain ⟨r0,r1,r2⟩:=cz3 Hg;refine bodyPost_ret (v:=.tuple #[.agg #[.slice none 0 0,.slice none 0 0,.slice none 0 0],.int .i64 c]) (by simp [results,Tryz.results77,go_sem,r0,r1,r2]) rfl ?_;exact ⟨by rw [HS.out];exact zGf _ _,zBc Hb.out.low (mC _)⟩
  have Hi:k=l.length:=by omega
  have HS:=mA (show Scu.play l=(y,0) by rw [hP.so,Hi,List.drop_length];rfl);have Ho:¬ (k:Int) < (l.length:Int):=by omega
  have HP:=mA hP;clear Ha hz hP Hi hk;go_wp2
  have Hg:=zCb (a:=.slice D1 m1 d1) (b:=.slice D2 m2 d2) (c:=.slice D3 m3 d3) HP.out.zero;obtain ⟨r0,r1,r2⟩:=cz3 Hg;refine bodyPost_ret (v:=.tuple #[.agg #[.slice D1 m1 d1,.slice D2 m2 d2,.slice D3 m3 d3],.int .i64 0]) (by simp [results,Tryz.results77,go_sem,r0,r1,r2]) rfl ?_;exact zO5
theorem zVn (v:Value) (l:List Scu.Str) (w:World) (B:Nat) (hv:IsStrs w B v l) :
 Calls Tryz.prog 37 #[v] w fun e w'=>AppRet w' (Scu.play l).1 (Scu.play l).2 e/\Below w.heap.size w w':=by
 obtain ⟨⟨A,c,rfl,_,hr⟩,hl,_⟩:=hv;unfold R47 at hl;go_enter Tryz.func37,Tryz.ntmps37
 go_wp2_with fail
 refine (zRd _).mono ?_;rintro en w1 ⟨⟨nv,sv,lv,rfl,hn⟩,h1⟩;obtain ⟨A1,n1,c1,rfl⟩:=hn.vol.now.form;obtain ⟨A2,n2,c2,rfl⟩:=hn.vol.snaps.form;obtain ⟨A3,n3,c3,rfl⟩:=hn.lasts.form;have hP:PlayI w w1.heap.size l 0 (.slice A1 n1 c1) (.slice A2 n2 c2) (.slice A3 n3 c3) Scu.stateNew (w1.alloc (.cells #[.slice A1 n1 c1,.slice A2 n2 c2,.slice A3 n3 c3] 91)) :=
  ⟨((Blk.new w _ _).same h1).alloc _,Blk.new w1 _ _,hn.alloc _,rfl,((zAa w _).trans (h1.mono (by simp))).alloc (by have:=h1.size;simp at this;omega) _,by have:=h1.size;simp at this;omega⟩
 have HP:=mA hP;clear hP hn h1;go_wp2_with fail
 go_loopw [5] (fun i wr=>∃ (k:Nat) (A1:Option Addr) (n1 c1:Nat) (A2:Option Addr) (n2 c2:Nat) (A3:Option Addr) (n3 c3:Nat) (y:Scu.State),k<=l.length/\i=.int .i64 k/\PlayI w w1.heap.size l k (.slice A1 n1 c1) (.slice A2 n2 c2) (.slice A3 n3 c3) y wr) (fun i _=>l.length - (intOf i).toNat)
 case atStart=>exact ⟨0,A1,n1,c1,A2,n2,c2,A3,n3,c3,_,mE _,rfl,HP.out⟩
 case round =>
  obtain ⟨k,D1,m1,d1,D2,m2,d2,D3,m3,d3,y,hk,rfl,hP⟩:=hrel;have Ha:=hP.blk;obtain ⟨b0,b1,b2⟩:=cz3 Ha;have bz:=Ha.frozen;have bl:=Ha.lt;have hz:=hP.zero;obtain ⟨z0,z1,z2⟩:=cz3 hz;have zz:=hz.frozen;have zl:=hz.lt;have Ho:=hP.ne;by_cases Hf:k < l.length
  ·have Hk:(k:Int) < (l.length:Int):=by omega
   obtain ⟨g,o,rfl,hg,Hl⟩:=zBz (hr.below hP.low) Hf;obtain ⟨q,hq⟩:=mK (Scu.apply y l[k]);obtain ⟨z,c⟩:=q;have HQ:=mA hq;have HP:=mA hP;clear Ha hz hP hq;go_upto_region 5 with fail
   go_cut [6,7] from 9 to 28 (fun p e wx=>∃ g E1 p1 f1 E2 p2 f2 E3 p3 f3,p=.pointer (some ⟨g,0,none⟩)/\e=.int .i64 c/\wr.heap.size<=g/\Below wr.heap.size wr wx/\Blk wx g 91 #[.slice E1 p1 f1,.slice E2 p2 f2,.slice E3 p3 f3]/\IsState wx 0 (.slice E1 p1 f1) (.slice E2 p2 f2) (.slice E3 p3 f3) z)
   case first =>
    go_region_with (first
     | (go_at_call 67;refine (zQq _ _ _ y l[k] _ 0 ?_ z c HQ.out).mono ?_;(first | exact HP.out.st.drew | exact (HP.out.st.alloc _).drew | exact HP.out.st.drew.alloc _);rintro en w2 ⟨⟨nu,su,lu,rfl,hu⟩,h2⟩
        refine useA (P:=Below wr.heap.size wr w2) ?_ ?_
        (first | exact (below_drewN (mG _ _) 1).trans h2 | exact (below_drewN (zAa wr (.cells #[.slice none 0 0,.slice none 0 0,.slice none 0 0] 91)) 1).trans (h2.mono (Nat.le_succ_of_le (mC _))) | exact ((below_drewN (mG _ _) 1).alloc (mC _) (.cells #[.slice none 0 0,.slice none 0 0,.slice none 0 0] 91)).trans (h2.mono (by simp)))
        intro hA;obtain ⟨E1,p1,f1,rfl⟩:=hu.vol.now.form;obtain ⟨E2,p2,f2,rfl⟩:=hu.vol.snaps.form;obtain ⟨E3,p3,f3,rfl⟩:=hu.lasts.form;have HU:=mA hu;have HA:=mA hA
        (try (refine useA (P:=Blk w2 wr.heap.size 91 #[.slice none 0 0,.slice none 0 0,.slice none 0 0]) ?_ ?_;(first | exact ((Blk.new wr _ _).drew).same h2 | exact (Blk.new (wr.drewN 1) _ _).same h2);intro Hh;have Hc:=mA Hh;have x0:=Hc.out.cell 0;have x1:=Hc.out.cell 1;have x2:=Hc.out.cell 2;simp only [List.getElem?_toArray,List.getElem?_cons_zero,List.getElem?_cons_succ] at x0 x1 x2;have xz:=Hc.out.frozen;have xl:=Hc.out.lt;clear Hh))
        clear hu h2 hA))
    all_goals
     go_wp2_with fail
     go_meet
     first
      | exact ⟨w2.heap.size,E1,p1,f1,E2,p2,f2,E3,p3,f3,rfl,rfl,HA.out.size,HA.out.alloc HA.out.size _,Blk.new w2 _ _,HU.out.alloc _⟩
      | exact ⟨wr.heap.size,E1,p1,f1,E2,p2,f2,E3,p3,f3,rfl,rfl,mC _,zBc HA.out (mC _),zCb Hc.out,HU.out.sets3 Hc.out _ _ _⟩
   case rest =>
   obtain ⟨g5,E1,p1,f1,E2,p2,f2,E3,p3,f3,rfl,rfl,Hm,Hb,hq,Hi⟩:=hcut;have He:=HP.out.below Hb;have Ha:=He.blk;have hz:=He.zero;clear b0 b1 b2 bz bl z0 z1 z2 zz zl Hl Hb;obtain ⟨b0,b1,b2⟩:=cz3 Ha;have bz:=Ha.frozen;have bl:=Ha.lt;obtain ⟨z0,z1,z2⟩:=cz3 hz;have zz:=hz.frozen;have zl:=hz.lt;obtain ⟨q0,q1,q2⟩:=cz3 hq;have qz:=hq.frozen;have ql:=hq.lt;have Hd:=mA He;have Hn:=mA Hi;clear Ha hz hq He Hi HP;by_cases hc:c=0
   ·subst hc;have HS:=mA (show Scu.play l=Scu.playFrom z (l.drop (k+1)) by rw [Hd.out.so,zHl Hf HQ.out,if_neg (by simp)]);go_wp2
    refine ⟨⟨k+1,E1,p1,f1,E2,p2,f2,E3,p3,f3,z,by omega,rfl,Hd.out.next Hn.out HS.out⟩,?_⟩;simp [intOf];omega
   have Hp:(c != 0)=true:=by simpa using hc
   have HS:=mA (show Scu.play l=(Scu.state0,c) by rw [Hd.out.so,zHl Hf HQ.out,if_pos hc]);clear hc;go_wp2
   have Hg:=zCb (a:=.slice none 0 0) (b:=.slice none 0 0) (c:=.slice none 0 0) Hd.out.zero;obtain ⟨r0,r1,r2⟩:=cz3 Hg;refine bodyPost_ret (v:=.tuple #[.agg #[.slice none 0 0,.slice none 0 0,.slice none 0 0],.int .i64 c]) (by simp [results,Tryz.results37,go_sem,r0,r1,r2]) rfl ?_;exact ⟨by rw [HS.out];exact zGf _ _,zBc Hd.out.low (mC _)⟩
  have Hj:k=l.length:=by omega
  have HS:=mA (show Scu.play l=(y,0) by rw [hP.so,Hj,List.drop_length];rfl);have Hq:¬ (k:Int) < (l.length:Int):=by omega
  have HP:=mA hP;clear Ha hz hP Hj hk;go_wp2
  have Hg:=zCb (a:=.slice D1 m1 d1) (b:=.slice D2 m2 d2) (c:=.slice D3 m3 d3) HP.out.zero;obtain ⟨r0,r1,r2⟩:=cz3 Hg;refine bodyPost_ret (v:=.tuple #[.agg #[.slice D1 m1 d1,.slice D2 m2 d2,.slice D3 m3 d3],.int .i64 0]) (by simp [results,Tryz.results37,go_sem,r0,r1,r2]) rfl ?_;exact zO5
end Go.Proofs.YtlngfbngnnepiaaGreat
