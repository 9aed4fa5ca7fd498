/- Part 12: words and walks under the laws of the whole. -/
import Derived.Deep.DeepCutAuto
import Derived.Test.YtjnjhmkgfjikfaaDoorLv9
set_option linter.unusedVariables false
set_option linter.unusedSimpArgs false
set_option maxHeartbeats 4000000
set_option maxRecDepth 100000
namespace Go.Proofs.YtjnjhmkgfjikfaaDoor
open Go.RowKit
theorem use {P Q:Prop} (h:P) (k:P->Q):Q:=k h
theorem zIg (A0:Option Addr) (n0 c0:Nat) (A1:Option Addr) (n1 c1:Nat) (A2:Option Addr) (n2 c2:Nat) (A3:Option Addr) (n3 c3:Nat) (A4:Option Addr) (n4 c4:Nat) (r:Scu.Replica) (w:World) (B:Nat) (hr:IsRep w B (.slice A0 n0 c0) (.slice A1 n1 c1) (.slice A2 n2 c2) (.slice A3 n3 c3) (.slice A4 n4 c4) r) :
 Calls Tryd.prog 37 #[.agg #[.int .i64 r.me,.int .i64 r.kept.view,.int .i64 r.kept.normal,.bool r.kept.calm,.slice A0 n0 c0,.int .i64 r.kept.commit,.slice A1 n1 c1,.slice A2 n2 c2,.slice A3 n3 c3,.slice A4 n4 c4]] w fun e w'=>RepRet w' w.heap.size r e/\Below w.heap.size w w':=by
 have HV:=mA hr
 clear hr
 go_enter Tryd.func37,Tryd.ntmps37
 go_upto_region 1 with fail
 obtain ⟨Wd,Hj⟩:=mJ ((w.alloc (.cells #[.int .i64 r.me,.int .i64 r.kept.view,.int .i64 r.kept.normal,.bool r.kept.calm,.slice A0 n0 c0,.int .i64 r.kept.commit,.slice A1 n1 c1,.slice A2 n2 c2,.slice A3 n3 c3,.slice A4 n4 c4] 30)).alloc (.cells zR 30))
 rw [<- Hj]
 have hb:Below w.heap.size w Wd:=by rw [Hj];exact (zAa w _).alloc (by simp) _
 have hs:Blk Wd w.heap.size 30 #[.int .i64 r.me,.int .i64 r.kept.view,.int .i64 r.kept.normal,.bool r.kept.calm,.slice A0 n0 c0,.int .i64 r.kept.commit,.slice A1 n1 c1,.slice A2 n2 c2,.slice A3 n3 c3,.slice A4 n4 c4]:=by rw [Hj];exact (Blk.new w _ _).alloc _
 have hz:Blk Wd (w.heap.size+1) 30 zR:=by rw [Hj];exact Blk.new' (by simp)
 obtain ⟨s0,s1,s2,s3,s4,s5,s6,s7,s8,s9⟩:=cz10 hs
 have sz:=hs.frozen
 have sl:=hs.lt
 have Kv:=hz.lt
 have He:=mA (HV.out.below hb)
 have HS:=mA (mB hs (mB hz hb))
 clear hs hz hb Hj
 go_cut [3] (fun p wx=>∃ g lu hv wv nv,p=.pointer (some ⟨g,0,none⟩)/\Rep0 Wd r g lu hv wv nv wx)
 case first =>
  go_region_held3 (fun w'=>w'.cell? ⟨w.heap.size,0,none⟩=some (.int .i64 r.me)/\w'.cell? ⟨w.heap.size,1,none⟩=some (.int .i64 r.kept.view)/\w'.cell? ⟨w.heap.size,2,none⟩=some (.int .i64 r.kept.normal)/\w'.cell? ⟨w.heap.size,3,none⟩=some (.bool r.kept.calm)/\w'.cell? ⟨w.heap.size,4,none⟩=some (.slice A0 n0 c0)/\w'.cell? ⟨w.heap.size,5,none⟩=some (.int .i64 r.kept.commit)/\w'.cell? ⟨w.heap.size,6,none⟩=some (.slice A1 n1 c1)/\w'.cell? ⟨w.heap.size,7,none⟩=some (.slice A2 n2 c2)/\w'.cell? ⟨w.heap.size,9,none⟩=some (.slice A4 n4 c4)) (first | (go_split_ands;(try dsimp only);(repeat' apply mB) <;> first | (with_reducible refine ((zAf M4.out ?_).cell sl).trans ?_ <;> first | assumption | omega) | (with_reducible refine (M4.out.cell sl).trans ?_;assumption) | (with_reducible refine ((M4.out.alloc M4.out.size _).cell sl).trans ?_;assumption) | (with_reducible refine (M3.out.cell sl).trans ?_;assumption) | (with_reducible refine ((M3.out.alloc M3.out.size _).cell sl).trans ?_;assumption) | (with_reducible refine (M2.out.cell sl).trans ?_;assumption) | (with_reducible refine ((M2.out.alloc M2.out.size _).cell sl).trans ?_;assumption) | (with_reducible refine (M1.out.cell sl).trans ?_;assumption) | (with_reducible refine ((M1.out.alloc M1.out.size _).cell sl).trans ?_;assumption) | (with_reducible refine ((zAa Wd _).cell sl).trans ?_;assumption)) | go_keep | (go_split_ands;(try dsimp only);(repeat' apply mB) <;> go_keep))
   (first
   | (go_at_call 19;refine (zCp _ r.kept _ B ?_).mono ?_;(first | exact He.out.log.drewN 1 | exact (He.out.log.alloc _).drewN 1 | exact (He.out.log.drewN 1).alloc _);rintro en x1 ⟨⟨v1,rfl,hu⟩,k1⟩
      refine use (P:=Below Wd.heap.size Wd x1) ?_ ?_
      (first | exact (below_drewN (mG _ _) 1).trans k1 | exact (below_drewN (zAa Wd (.cells zR 30)) 1).trans (k1.mono (Nat.le_succ_of_le (mC _))) | exact ((below_drewN (mG _ _) 1).alloc (mC _) (.cells zR 30)).trans (k1.mono (by simp)))
      intro nn1
      have N1:=mA nn1
      have M1:=mA (nn1)
      have sz1:=nn1.size
      have lw1:w.heap.size < x1.heap.size:=mF sl nn1.size
      have ld1:Wd.heap.size<=x1.heap.size:=M1.out.size
      clear nn1
      refine use (P:=OwnStrs x1 Wd.heap.size v1 r.kept.log) ?_ ?_
      (first | exact hu | exact hu.base_ (by simp))
      clear hu;intro hu
      obtain ⟨A5,n5,c5,rfl⟩:=hu.form
      have O1:=mA hu
      (try (refine use (P:=Blk x1 Wd.heap.size 30 zR) ?_ ?_;(first | exact ((Blk.new Wd _ _).drew).same k1 | exact (Blk.new (Wd.drewN 1) _ _).same k1);intro Hb;have Ha:=mA Hb;clear Hb))
      clear hu k1)
   | (go_at_call 47;refine (zGe _ r.have_ _ B ?_).mono ?_;(first | exact He.out.have_.below M1.out | exact (He.out.have_.below M1.out).alloc _);rintro en x2 ⟨⟨v2,rfl,hu⟩,k2⟩
      refine use (P:=Below x1.heap.size x1 x2) ?_ ?_
      (first | exact k2 | exact (zAa x1 (.cells zR 30)).trans (k2.mono (by simp)))
      intro nn2
      have N2:=mA nn2
      have M2:=mA (M1.out.trans (nn2.mono M1.out.size))
      have sz2:=nn2.size
      have lw2:w.heap.size < x2.heap.size:=mF lw1 nn2.size
      have ld2:Wd.heap.size<=x2.heap.size:=M2.out.size
      clear nn2
      refine use (P:=x2.ownsRow x1.heap.size 3 1 v2 r.have_.length (r.have_.map vInt)) ?_ ?_
      (first | exact hu | exact zAh hu (by simp))
      clear hu;intro hu
      obtain ⟨A6,c6,rfl,_,_,_,Hk⟩:=zAk hu
      have O2:=mA (zAh hu ld1)
      have L2:=mA Hk
      clear Hk
      (try (have Hb:=Ha.out.same N2.out;have Ha:=mA Hb;clear Hb))
      (try (refine use (P:=Blk x2 x1.heap.size 30 zR) ?_ ?_;(first | exact (Blk.new x1 _ _).same k2);intro Hb;have Ha:=mA Hb;clear Hb))
      clear hu k2)
   | (go_at_call 48;refine (zDi _ r.wants _ B ?_).mono ?_;(first | exact He.out.wants.below M2.out | exact (He.out.wants.below M2.out).alloc _);rintro en x3 ⟨⟨v3,rfl,hu⟩,k3⟩
      refine use (P:=Below x2.heap.size x2 x3) ?_ ?_
      (first | exact k3 | exact (zAa x2 (.cells zR 30)).trans (k3.mono (by simp)))
      intro nn3
      have N3:=mA nn3
      have M3:=mA (M2.out.trans (nn3.mono M2.out.size))
      have sz3:=nn3.size
      have lw3:w.heap.size < x3.heap.size:=mF lw2 nn3.size
      have ld3:Wd.heap.size<=x3.heap.size:=M3.out.size
      clear nn3
      refine use (P:=x3.ownsRow x2.heap.size 4 1 v3 r.wants.length (r.wants.map Value.bool)) ?_ ?_
      (first | exact hu | exact zAh hu (by simp))
      clear hu;intro hu
      obtain ⟨A7,c7,rfl,_,_,_,Hl⟩:=zAk hu
      have O3:=mA (zAh hu ld2)
      have L3:=mA Hl
      clear Hl
      (try (have Hb:=Ha.out.same N3.out;have Ha:=mA Hb;clear Hb))
      (try (refine use (P:=Blk x3 x2.heap.size 30 zR) ?_ ?_;(first | exact (Blk.new x2 _ _).same k3);intro Hb;have Ha:=mA Hb;clear Hb))
      clear hu k3)
   | (go_at_call 48;refine (zDi _ r.given _ B ?_).mono ?_;(first | exact He.out.given.below M3.out | exact (He.out.given.below M3.out).alloc _);rintro en x4 ⟨⟨v4,rfl,hu⟩,k4⟩
      refine use (P:=Below x3.heap.size x3 x4) ?_ ?_
      (first | exact k4 | exact (zAa x3 (.cells zR 30)).trans (k4.mono (by simp)))
      intro nn4
      have N4:=mA nn4
      have M4:=mA (M3.out.trans (nn4.mono M3.out.size))
      have sz4:=nn4.size
      have lw4:w.heap.size < x4.heap.size:=mF lw3 nn4.size
      have ld4:Wd.heap.size<=x4.heap.size:=M4.out.size
      clear nn4
      refine use (P:=x4.ownsRow x3.heap.size 4 1 v4 r.given.length (r.given.map Value.bool)) ?_ ?_
      (first | exact hu | exact zAh hu (by simp))
      clear hu;intro hu
      obtain ⟨A8,c8,rfl,_,_,_,Hm⟩:=zAk hu
      have O4:=mA (zAh hu ld3)
      have L4:=mA Hm
      clear Hm
      (try (have Hb:=Ha.out.same N4.out;have Ha:=mA Hb;clear Hb))
      (try (refine use (P:=Blk x4 x3.heap.size 30 zR) ?_ ?_;(first | exact (Blk.new x3 _ _).same k4);intro Hb;have Ha:=mA Hb;clear Hb))
      (try (have b0:=Ha.out.cell 0;have b1:=Ha.out.cell 1;have b2:=Ha.out.cell 2;have b3:=Ha.out.cell 3;have b4:=Ha.out.cell 4;have b5:=Ha.out.cell 5;have b6:=Ha.out.cell 6;have b7:=Ha.out.cell 7;have b8:=Ha.out.cell 8;have b9:=Ha.out.cell 9;simp only [List.getElem?_toArray,List.getElem?_cons_zero,List.getElem?_cons_succ] at b0 b1 b2 b3 b4 b5 b6 b7 b8 b9;have bz:=Ha.out.frozen;have bl:=Ha.out.lt))
      clear hu k4))
  all_goals
   go_wp2_with fail
   go_meet
   have O1':=(O1.out.below (N2.out.trans (N3.out.mono sz2))).below N4.out
   have O2':=zAi (zAi O2.out N3.out) N4.out
   have O3':=zAi O3.out N4.out
   have Hn:OwnRep0 x4 Wd.heap.size _ _ _ _ r:=⟨O1',⟨O2',HV.out.have_.len⟩,⟨O3',HV.out.wants.len⟩,⟨O4.out,HV.out.given.len⟩,fun g h1 h2=>by have:=(L3.out g h1).2;have:=(L4.out g h2).1;omega⟩
   first
    | (refine ⟨x4.heap.size,.slice A5 n5 c5,.slice A6 r.have_.length c6,.slice A7 r.wants.length c7,.slice A8 r.given.length c8,rfl,?_⟩;exact zJv M4.out Hn)
    | (refine ⟨Wd.heap.size,.slice A5 n5 c5,.slice A6 r.have_.length c6,.slice A7 r.wants.length c7,.slice A8 r.given.length c8,rfl,?_⟩;exact zDp M4.out Hn Ha.out (mC _))
    | (refine ⟨x1.heap.size,.slice A5 n5 c5,.slice A6 r.have_.length c6,.slice A7 r.wants.length c7,.slice A8 r.given.length c8,rfl,?_⟩;exact zDp M4.out Hn Ha.out ld1)
    | (refine ⟨x2.heap.size,.slice A5 n5 c5,.slice A6 r.have_.length c6,.slice A7 r.wants.length c7,.slice A8 r.given.length c8,rfl,?_⟩;exact zDp M4.out Hn Ha.out ld2)
    | (refine ⟨x3.heap.size,.slice A5 n5 c5,.slice A6 r.have_.length c6,.slice A7 r.wants.length c7,.slice A8 r.given.length c8,rfl,?_⟩;exact zDp M4.out Hn Ha.out ld3)
 case rest =>
 obtain ⟨g,lu,hv,wv,nv,rfl,hR⟩:=hcut
 obtain ⟨A5,n5,c5,rfl⟩:=hR.own.log.form
 obtain ⟨A6,n6,c6,rfl⟩:=hR.own.have_.form
 obtain ⟨A7,n7,c7,rfl⟩:=hR.own.wants.form
 obtain ⟨A8,n8,c8,rfl⟩:=hR.own.given.form
 have Hf:=hR.low
 have Kb:=HS.out.2.2.size
 have hs:=HS.out.1.same Hf
 have hz:=HS.out.2.1.same Hf
 have hb:=HS.out.2.2.trans (Hf.mono Kb)
 obtain ⟨⟨Ag,cg,csg,eg,Kw,Kc,Kd,Ke,Kf⟩,Kg⟩:=HV.out.gives
 obtain ⟨rfl,rfl,rfl⟩:A3=Ag/\n3=r.gives.length/\c3=cg:=by cases eg;exact ⟨rfl,rfl,rfl⟩
 have hI:GivI w #[.int .i64 r.me,.int .i64 r.kept.view,.int .i64 r.kept.normal,.bool r.kept.calm,.slice A0 n0 c0,.int .i64 r.kept.commit,.slice A1 n1 c1,.slice A2 n2 c2,.slice A3 r.gives.length c3,.slice A4 n4 c4] g r (.slice A5 n5 c5) (.slice A6 n6 c6) (.slice A7 n7 c7) (.slice A8 n8 c8) 0 (.slice none 0 0) [] wc:=⟨hz,hs,hR.out,hR.own.base_ Kb,OwnKs.nil_,by have:=hR.lo;omega,hb,fun c hc=>by cases hc⟩
 have HI:=mA hI
 have HG:=mA (mB Kc (mB Kd (mB Ke (mB Kf Kg))))
 unfold R47 at Kg
 clear s0 s1 s2 s3 s4 s5 s6 s7 s8 s9 sz sl eg Kc Kd Ke Kf
 obtain ⟨s0,s1,s2,s3,s4,s5,s6,s7,s8,s9⟩:=cz10 hs
 have sz:=hs.frozen
 have sl:=hs.lt
 clear hs hz hb hI hR Hf
 go_wp2_with fail
 go_loopw [24] (fun i wr=>∃ (k:Nat) (Ak:Option Addr) (nk ck:Nat) (css:List (List Value)),k<=r.gives.length/\i=.int .i64 k/\GivI w #[.int .i64 r.me,.int .i64 r.kept.view,.int .i64 r.kept.normal,.bool r.kept.calm,.slice A0 n0 c0,.int .i64 r.kept.commit,.slice A1 n1 c1,.slice A2 n2 c2,.slice A3 r.gives.length c3,.slice A4 n4 c4] g r (.slice A5 n5 c5) (.slice A6 n6 c6) (.slice A7 n7 c7) (.slice A8 n8 c8) k (.slice Ak nk ck) css wr) (fun i _=>r.gives.length - (intOf i).toNat)
 case atStart=>exact ⟨0,none,0,0,[],mE _,rfl,HI.out⟩
 case round =>
  obtain ⟨k,Ak,nk,ck,css,hk,rfl,hI⟩:=hrel
  have Kx:=hI.lo
  have Hd:=hI.out
  have Hc:=hI.res
  have Kn:=hI.arg
  clear s0 s1 s2 s3 s4 s5 s6 s7 s8 s9 sz sl
  obtain ⟨o0,o1,o2,o3,o4,o5,o6,o7,o8,o9⟩:=cz10 Hd
  have oz:=Hd.frozen
  have ol:=Hd.lt
  have Ko:=Hc.lt
  have Hq:=mA hI
  by_cases Kh:k < r.gives.length
  ·have Kp:(k:Int) < (r.gives.length:Int):=by omega
   obtain ⟨gg,og,lg,rfl,Ky,k0,k1,k2,k3,k4,Hu⟩:=zEb (k:=k) HG.out.1 HG.out.2.1 (HG.out.2.2.1.below Hq.out.low) (fun j cs x a b=>(HG.out.2.2.2.1 j cs x a b).same (Ts:=[9]) (by simp) (Same.below Hq.out.low)) Kh
   obtain ⟨Al,nl,cl,rfl⟩:=Hu.form
   have Kq:=mA Hu
   clear Hu hI Hd Hc
   go_wp2_with fail
   obtain ⟨We,Hr⟩:=mJ (wr.alloc (.cells #[.int .i64 r.gives[k].view,.int .i64 r.gives[k].normal,.bool r.gives[k].calm,.slice Al nl cl,.int .i64 r.gives[k].commit] 25))
   rw [<- Hr]
   have Hv:Below wr.heap.size wr We:=by rw [Hr];exact zAa _ _
   have Hw:Blk We wr.heap.size 25 #[.int .i64 r.gives[k].view,.int .i64 r.gives[k].normal,.bool r.gives[k].calm,.slice Al nl cl,.int .i64 r.gives[k].commit]:=by rw [Hr];exact Blk.new _ _ _
   have Hi:=Hq.out.below Hv
   have Ki:=Kq.out.below Hv
   obtain ⟨q0,q1,q2,q3,q4⟩:=cz5 Hw
   have ql:=Hw.lt
   clear Hr Hv Hw k0 k1 k2 k3 k4 o0 o1 o2 o3 o4 o5 o6 o7 o8 o9 oz ol
   have Hx:=mA Hi
   have Kj:=mA Ki
   have e1:(r.gives.take k).length=k:=by rw [List.length_take];omega
   have Ho:=mA (show We.ownsRow w.heap.size 25 5 (.slice Ak nk ck) k css.flatten by have h:=Hi.giv.row;rw [e1] at h;exact h)
   have Hs:=Hi.out
   obtain ⟨-,-,-,-,-,-,-,-,e8⟩:=cz9 Hs
   have ez:=Hs.frozen
   have el:=Hs.lt
   clear Hi Ki Hs e1
   go_region_law (first
    | (go_simp;go_at_call 19;refine (zCp _ r.gives[k] _ B ?_).mono ?_;(first | exact Kj.out.drewN 1 | exact Kj.out);rintro en x3 ⟨⟨lx,rfl,hx⟩,h3⟩
       refine use (P:=Below We.heap.size We x3) ?_ ?_
       (first | exact (below_drewN (mG _ _) 1).trans h3 | exact h3)
       intro Hp
       refine use (P:=OwnStrs x3 We.heap.size lx r.gives[k].log) ?_ ?_
       (exact hx)
       clear hx;intro hx
       obtain ⟨Ax,nx,cx,rfl⟩:=hx.form
       have HX:=mA hx
       have H3:=mA Hp
       have f8:=cW Hp el e8
       have fz:=((bcell Hp).2 g 8 el).trans (ez 8)
       have Kr:=Hp.size
       have fl:g < x3.heap.size:=mF el Kr
       have f8a:∀ o,(x3.alloc o).cell? ⟨g,8,none⟩=some (.slice Ak nk ck):=fun o=>((zAa x3 o).cell (p:=⟨g,8,none⟩) fl).trans f8
       clear hx h3 Hp)
    | (refine zBw _ rfl (.tmp 29) (.tmp 32) 28 rfl zJr w.heap.size (.slice Ak nk ck) k css.flatten rfl ?_ (.slice (some ⟨x3.heap.size,0,none⟩) 1 1) 1 (keptV r.gives[k] (.slice Ax nx cx)) rfl ⟨rfl,.inr ⟨_,_,rfl,?_⟩⟩ ?_ ?_ ?_ ?_ ?_
       ·exact zAi (zAi Ho.out H3.out) (zAa x3 _)
       ·intro j v hj
        have Kz:j < 5:=by (rcases Nat.lt_or_ge j 5 with h | h;exact h;rw [List.getElem?_eq_none h] at hj;cases hj)
        have Hy:(⟨x3.heap.size,0,none⟩:Addr).add j=⟨x3.heap.size,j,none⟩:=by (unfold Addr.add;split <;> simp_all)
        rw [Hy,(Blk.new x3 25 #[.int .i64 r.gives[k].view,.int .i64 r.gives[k].normal,.bool r.gives[k].calm,.slice Ax nx cx,.int .i64 r.gives[k].commit]).cell j]
        simpa [keptV] using hj
       ·(intro v hv;simp only [keptV,List.mem_cons,List.not_mem_nil,or_false] at hv;rcases hv with rfl | rfl | rfl | rfl | rfl <;> rfl)
       ·(unfold maxLen;omega)
       ·omega
       ·(have:=Hx.out.low.size;simp;omega)
       intro v4 x4 h4 Hz _
       have Ka:=(Hx.out.below H3.out).below (zAa x3 (.cells #[.int .i64 r.gives[k].view,.int .i64 r.gives[k].normal,.bool r.gives[k].calm,.slice Ax nx cx,.int .i64 r.gives[k].commit] 25))
       have Kk:=zJw Ka Kh HG.out.2.2.2.2 (HX.out.below (zAa x3 (.cells #[.int .i64 r.gives[k].view,.int .i64 r.gives[k].normal,.bool r.gives[k].calm,.slice Ax nx cx,.int .i64 r.gives[k].commit] 25))) (fun x hl=>(Hx.out.own.log.1.lt x hl).2) h4 Hz
       have Hh:=zAi (zAi Ho.out H3.out) (zAa x3 (.cells #[.int .i64 r.gives[k].view,.int .i64 r.gives[k].normal,.bool r.gives[k].calm,.slice Ax nx cx,.int .i64 r.gives[k].commit] 25))
       have Ht:=zCv Ka.out Hh (by decide) Hz
       obtain ⟨-,-,-,-,-,-,-,-,g8⟩:=cz9 Ht
       have gz:=Ht.frozen
       have gl:=Ht.lt
       obtain ⟨A9,c9,rfl,_,_,_,_⟩:=zAk h4
       have Ks:=mA Kk
       clear Ka Kk h4 Hz Ht Hh))
   all_goals (go_wp2;go_roundw)
   all_goals first
    | exact ⟨k+1,A9,k+1,c9,_,by omega,rfl,Ks.out⟩
    | (simp [intOf];omega)
  have Kl:k=r.gives.length:=by omega
  have Kt:¬ (k:Int) < (r.gives.length:Int):=by omega
  have Hi:=hI
  have e1:r.gives.take k=r.gives:=by rw [Kl,List.take_length]
  have HO:=mA (show OwnRep wr w.heap.size (.slice A5 n5 c5) (.slice A6 n6 c6) (.slice A7 n7 c7) (.slice Ak nk ck) (.slice A8 n8 c8) r from ⟨hI.own,css,e1 ▸ hI.giv⟩)
  have Ku:=mA (show ApG wr w.heap.size (.slice Ak nk ck) r.gives (.slice A5 n5 c5) from ⟨css,e1 ▸ hI.giv,hI.apt⟩)
  have Km:=mA Hc
  have Hg:=zAj (a0:=.int .i64 r.me) (a1:=.int .i64 r.kept.view) (a2:=.int .i64 r.kept.normal) (a3:=.bool r.kept.calm) (a4:=.slice A5 n5 c5) (a5:=.int .i64 r.kept.commit) (a6:=.slice A6 n6 c6) (a7:=.slice A7 n7 c7) (a8:=.slice Ak nk ck) (a9:=.slice A8 n8 c8) Hc
  obtain ⟨z0,z1,z2,z3,z4,z5,z6,z7,z8,z9⟩:=cz10 Hc
  have zz:=Hc.frozen
  have zl:=Hc.lt
  obtain ⟨r0,r1,r2,r3,r4,r5,r6,r7,r8,r9⟩:=cz10 Hg
  have rz:=Hg.frozen
  have rl:=Hg.lt
  clear hI Hd Hi Kl hk e1 Hg Hc
  go_wp2
  refine bodyPost_ret (v:=.agg #[.int .i64 r.me,.int .i64 r.kept.view,.int .i64 r.kept.normal,.bool r.kept.calm,.slice A5 n5 c5,.int .i64 r.kept.commit,.slice A6 n6 c6,.slice A7 n7 c7,.slice Ak nk ck,.slice A8 n8 c8]) (by simp [results,Tryd.results37,go_sem,r0,r1,r2,r3,r4,r5,r6,r7,r8,r9]) rfl ?_
  exact ⟨⟨_,_,_,_,_,rfl,HO.out.same (Same.sets10 Km.out (mE _) (by decide)),Ku.out.same (Same.sets10 Km.out (mE _) (by decide))⟩,zAf Hq.out.low (Nat.le_succ _)⟩
theorem IsRep.forms {w:World} {B:Nat} {lv hv wv gv nv:Value} {r:Scu.Replica} (h:IsRep w B lv hv wv gv nv r) :
 ∃ A0 n0 c0 A1 c1 A2 c2 A3 c3 A4 c4,lv=.slice A0 n0 c0/\hv=.slice A1 r.have_.length c1/\wv=.slice A2 r.wants.length c2/\gv=.slice A3 r.gives.length c3/\nv=.slice A4 r.given.length c4:=by
 obtain ⟨A0,n0,c0,e0⟩:=h.log.form
 obtain ⟨⟨A1,c1,e1,_⟩,_⟩:=h.have_
 obtain ⟨⟨A2,c2,e2,_⟩,_⟩:=h.wants
 obtain ⟨⟨A3,c3,_,e3,_⟩,_⟩:=h.gives
 obtain ⟨⟨A4,c4,e4,_⟩,_⟩:=h.given
 exact ⟨A0,n0,c0,A1,c1,A2,c2,A3,c3,A4,c4,e0,e1,e2,e3,e4⟩
def msgV (m:Scu.Message) (lv:Value):List Value:=[.int .i64 m.kind,.int .i64 m.from_,.int .i64 m.tq,.int .i64 m.view,.int .i64 m.normal,.int .i64 m.commit,.int .i64 m.n,lv]
def MsgE (w:World) (B:Nat) (cs:List Value) (m:Scu.Message):Prop:=∃ lv,cs=msgV m lv/\IsStrs w B lv m.log
theorem MsgE.same {w w':World} {B:Nat} {Ts:List TypeId} {cs:List Value} {m:Scu.Message} (h:MsgE w B cs m) (ht:9 ∈ Ts) (hs:Same Ts B w w'):MsgE w' B cs m:=by
 obtain ⟨lv,e,h⟩:=h
 exact ⟨lv,e,h.same ht hs⟩
theorem zLo:ElT 38 43 8 80:=by
 obtain ⟨i,h1,h2,h3,h4⟩:=info_parts (P:=Tryd.prog) (e:=43) (z:=.agg #[.int .i64 0,.int .i64 0,.int .i64 0,.int .i64 0,.int .i64 0,.int .i64 0,.int .i64 0,.slice none 0 0]) (size:=8) (bytes:=80) (by kernel_rfl)
 exact ⟨Tryd.underlying38,by omega,i,_,h1,h2,h3,h4,rfl⟩
structure OwnMs (w:World) (base:Nat) (v:Value) (ms:List Scu.Message) (css:List (List Value)):Prop where
 len:css.length=ms.length
 eight:∀ cs ∈ css,cs.length=8
 row:w.ownsRow base 43 8 v ms.length css.flatten
 each:∀ (j:Nat) (cs:List Value) (m:Scu.Message),css[j]? = some cs->ms[j]? = some m->MsgE w 0 cs m
 max:ms.length*80<=R47
section
variable {w w':World} {B base base':Nat} {v:Value} {ms:List Scu.Message} {css:List (List Value)}
theorem OwnMs.is (h:OwnMs w base v ms css):IsRow 43 8 80 MsgE w 0 v ms:=by
 obtain ⟨A,c,rfl,hc,_,hr,_⟩:=zAk h.row
 exact ⟨⟨A,c,css,rfl,hc,h.len,h.eight,hr,h.each⟩,h.max⟩
theorem OwnMs.same (h:OwnMs w base v ms css) (hs:Same [9,43] B w w'):OwnMs w' base v ms css :=
 ⟨h.len,h.eight,zBb h.row (by simp) hs,fun j cs k a b=>(h.each j cs k a b).same (B:=0) (Ts:=[9,43]) (by simp) (hs.mono (fun _ h=>h) (mE _)),h.max⟩
theorem OwnMs.below (h:OwnMs w base v ms css) (hb:Below w.heap.size w w'):OwnMs w' base v ms css:=h.same (B:=0) (Same.below hb)
theorem OwnMs.nil_:OwnMs w base (.slice none 0 0) [] []:=⟨rfl,by simp,World.ownsRow_nil _ _ _ _,fun j cs k h=>by simp at h,by simp [R47]⟩
theorem OwnMs.form (h:OwnMs w base v ms css):∃ A c,v=.slice A ms.length c:=by
 obtain ⟨A,c,e,_⟩:=zAk h.row
 exact ⟨A,c,e⟩
end
structure Work (w:World) (base gw gr:Nat) (r:Scu.Replica) (lu hv wv gv nv ov:Value) (ms:List Scu.Message) (css:List (List Value)):Prop where
 wb:Blk w gw 68 #[.pointer (some ⟨gr,0,none⟩),ov]
 rb:Blk w gr 30 #[.int .i64 r.me,.int .i64 r.kept.view,.int .i64 r.kept.normal,.bool r.kept.calm,lu,.int .i64 r.kept.commit,hv,wv,gv,nv]
 own:OwnRep w base lu hv wv gv nv r
 out:OwnMs w base ov ms css
 lw:base<=gw
 lr:base<=gr
theorem Work.below {w w':World} {base gw gr:Nat} {r:Scu.Replica} {lu hv wv gv nv ov:Value} {ms:List Scu.Message} {css:List (List Value)} (h:Work w base gw gr r lu hv wv gv nv ov ms css) (hb:Below w.heap.size w w'):Work w' base gw gr r lu hv wv gv nv ov ms css :=
 ⟨h.wb.same hb,h.rb.same hb,h.own.below hb,h.out.below hb,h.lw,h.lr⟩
theorem zEq (lv Ha wv gv nv:Value) (r:Scu.Replica) (w:World) (B:Nat) (hv:IsRep w B lv Ha wv gv nv r) (f:Int) (h:Scu.repFault r=f) :
 Calls Tryd.prog 36 #[.agg #[.int .i64 r.me,.int .i64 r.kept.view,.int .i64 r.kept.normal,.bool r.kept.calm,lv,.int .i64 r.kept.commit,Ha,wv,gv,nv]] w fun e w'=>e=.returned (.int .i64 f)/\Below w.heap.size w w':=by
 have:=zHh lv Ha wv gv nv r w B hv
 rw [h] at this
 exact this
theorem zGg (lv hv wv gv nv:Value) (r:Scu.Replica) (w:World) (B:Nat) (hr:IsRep w B lv hv wv gv nv r) (f:Int) (hf:Scu.repFault r=f) (hn:f≠0) :
 Calls Tryd.prog 22 #[.agg #[.int .i64 r.me,.int .i64 r.kept.view,.int .i64 r.kept.normal,.bool r.kept.calm,lv,.int .i64 r.kept.commit,hv,wv,gv,nv]] w fun e w'=>e=.returned (.tuple #[.pointer none,.int .i64 f])/\Below w.heap.size w w':=by
 have Ha:(f != 0)=true:=by simpa using hn
 clear hn
 have HV:=mA hr
 have HF:=mA hf
 obtain ⟨A0,n0,c0,A1,c1,A2,c2,A3,c3,A4,c4,rfl,rfl,rfl,rfl,rfl⟩:=hr.forms
 clear hr hf
 go_enter Tryd.func22,Tryd.ntmps22
 go_wp2_with fail
 have h0:Below w.heap.size w (w.alloc (.cells (rN r A0 n0 c0 A1 c1 A2 c2 A3 c3 A4 c4) 30)):=zAa w _
 refine (zEq _ _ _ _ _ r _ B (HV.out.below h0) f HF.out).mono ?_;rintro en w1 ⟨rfl,h1⟩
 have hs:Blk w1 w.heap.size 30 (rN r A0 n0 c0 A1 c1 A2 c2 A3 c3 A4 c4):=(Blk.new w _ _).same h1
 have hb:=h0.trans (h1.mono h0.size)
 clear h1 h0
 clear hs
 go_wp2
 go_ret2
 exact ⟨rfl,hb⟩
theorem zAz (lv hv wv gv nv:Value) (r:Scu.Replica) (w:World) (B:Nat) (hr:IsRep w B lv hv wv gv nv r) (hf:Scu.repFault r=0) :
 Calls Tryd.prog 22 #[.agg #[.int .i64 r.me,.int .i64 r.kept.view,.int .i64 r.kept.normal,.bool r.kept.calm,lv,.int .i64 r.kept.commit,hv,wv,gv,nv]] w fun e w' =>
  (∃ gw gr lu hu wu gu nu,e=.returned (.tuple #[.pointer (some ⟨gw,0,none⟩),.int .i64 0])/\Work w' w.heap.size gw gr r lu hu wu gu nu (.slice none 0 0) [] []/\ApG w' w.heap.size gu r.gives lu)/\Below w.heap.size w w':=by
 have HV:=mA hr
 have HF:=mA hf
 obtain ⟨A0,n0,c0,A1,c1,A2,c2,A3,c3,A4,c4,rfl,rfl,rfl,rfl,rfl⟩:=hr.forms
 clear hr hf
 go_enter Tryd.func22,Tryd.ntmps22
 go_wp2_with fail
 have h0:Below w.heap.size w (w.alloc (.cells (rN r A0 n0 c0 A1 c1 A2 c2 A3 c3 A4 c4) 30)):=zAa w _
 refine (zEq _ _ _ _ _ r _ B (HV.out.below h0) 0 HF.out).mono ?_;rintro en w1 ⟨rfl,h1⟩
 have hs:Blk w1 w.heap.size 30 (rN r A0 n0 c0 A1 c1 A2 c2 A3 c3 A4 c4):=(Blk.new w _ _).same h1
 have hb:=h0.trans (h1.mono h0.size)
 clear h1 h0
 obtain ⟨s0,s1,s2,s3,s4,s5,s6,s7,s8,s9⟩:=cz10 hs
 have sl:=hs.lt
 clear hs
 have HB:=mA hb
 clear hb
 go_wp2_with fail
 refine (zIg A0 n0 c0 A1 r.have_.length c1 A2 r.wants.length c2 A3 r.gives.length c3 A4 r.given.length c4 r _ B (HV.out.below HB.out)).mono ?_;rintro en w2 ⟨⟨lu,hu,wu,gu,nu,rfl,ho,Hc⟩,h2⟩
 obtain ⟨E0,m0,d0,E1,d1,E2,d2,E3,d3,E4,d4,rfl,rfl,rfl,rfl,rfl⟩:=ho.is.forms
 have HO:=mA (mB ho h2)
 have Hd:=mA Hc
 clear ho h2 Hc s0 s1 s2 s3 s4 s5 s6 s7 s8 s9 sl
 go_wp2
 go_ret2
 have Hb:=(zAa w2 (.cells (rN r E0 m0 d0 E1 d1 E2 d2 E3 d3 E4 d4) 30)).alloc (by simp) (.cells #[.pointer (some ⟨w2.heap.size,0,none⟩),.slice none 0 0] 68)
 have Ha:=HB.out.size
 have He:=HO.out.2.size
 refine ⟨⟨_,_,_,_,_,_,_,rfl,⟨Blk.new' (by simp),(Blk.new w2 _ _).alloc _,?_,OwnMs.nil_,by omega,by omega⟩,(Hd.out.base_ Ha).below Hb⟩,(HB.out.trans (HO.out.2.mono Ha)).trans (Hb.mono (by omega))⟩
 exact (⟨(HO.out.1.own).base_ Ha,let ⟨css,g⟩:=HO.out.1.giv;⟨css,g.base_ Ha⟩⟩:OwnRep _ _ _ _ _ _ _ _).below Hb
open Go.RowKit
theorem zAd {w w':World} {g:Nat} {t:TypeId} {cs:Array Value} {Ts:List TypeId} (h:Blk w g t cs) (hs:Same Ts 0 w w') (ht:t ∈ Ts):Blk w' g t cs:=(hs.keep g h.lt (.inr ⟨_,_,_,ht,h⟩)).trans h
def Far (w w':World) (ov ov':Value):Prop:=∀ b cs,Blk w b 43 cs->ov.ownBlock≠some b->Blk w' b 43 cs/\ov'.ownBlock≠some b
theorem Far.refl (w:World) (ov:Value):Far w w ov ov:=fun _ _ h k=>⟨h,k⟩
theorem Far.trans {w1 w2 w3:World} {o1 o2 o3:Value} (h:Far w1 w2 o1 o2) (k:Far w2 w3 o2 o3):Far w1 w3 o1 o3:=fun b cs h1 h2=>let ⟨a,c⟩:=h b cs h1 h2;k b cs a c
theorem Far.same {w w':World} {ov:Value} {Ts:List TypeId} (ht:43 ∈ Ts) (hs:Same Ts 0 w w'):Far w w' ov ov:=fun _ _ h k=>⟨zAd h hs ht,k⟩
theorem Far.below {w w':World} {ov:Value} (hb:Below w.heap.size w w'):Far w w' ov ov:=fun _ _ h k=>⟨h.same hb,k⟩
theorem zIh {base gw gr:Nat} {r:Scu.Replica} {lu hv wv gv nv ov v4 lx:Value} {ms:List Scu.Message} {css:List (List Value)} {m:Scu.Message} {P w4:World} (h:Work P base gw gr r lu hv wv gv nv ov ms css) (hm:(ms.length+1)*80<=R47)
 (hx:IsStrs P 0 lx m.log) (h4:w4.ownsRow base 43 8 v4 (ms.length+1) (css.flatten ++ msgV m lx)) (hg:P.grownBy w4 ov.ownBlock) (hb:base<=P.heap.size) (Hg:v4.ownBlock=ov.ownBlock\/v4.ownBlock=some P.heap.size) :
 Work (w4.setCell ⟨gw,1,none⟩ v4) base gw gr r lu hv wv gv nv v4 (ms ++ [m]) (css ++ [msgV m lx])/\Below base P (w4.setCell ⟨gw,1,none⟩ v4)/\Same [9,3,4,25,30] 0 P (w4.setCell ⟨gw,1,none⟩ v4) /\
  ∀ g t cs,Blk P g t cs->g≠gw->ov.ownBlock≠some g->Blk (w4.setCell ⟨gw,1,none⟩ v4) g t cs/\v4.ownBlock≠some g:=by
 have Hb:=h.out.row
 have He:Same [9,3,4,25,30,68] 0 P w4:=Same.own Hb hg (mE _) (by decide)
 have Hd:=zAd h.wb He (by simp)
 have Hh:Same [9,3,4,25,30,43] 0 w4 (w4.setCell ⟨gw,1,none⟩ v4):=Same.set_ Hd (mE _) (by decide) 1 v4
 have Hc:Same [9,3,4,25,30] 0 P (w4.setCell ⟨gw,1,none⟩ v4):=(He.mono (by simp) (mC _)).trans (Hh.mono (by simp) (mC _))
 refine ⟨⟨Hd.set_ 1 v4,zAd h.rb Hc (by simp),h.own.same (Hc.mono (by simp) (mC _)),⟨by simp only [List.length_append,h.out.len,List.length_cons,List.length_nil],?_,?_,?_,by simpa using hm⟩,h.lw,h.lr⟩,?_,Hc,?_⟩
 ·intro c hc
  rcases List.mem_append.1 hc with h' | h'
  ·exact h.out.eight c h'
  rw [List.mem_singleton] at h'
  subst h'
  rfl
 ·rw [List.length_append,List.flatten_append]
  have h5:w4.ownsRow base 43 8 v4 (ms.length+[m].length) (css.flatten ++ [msgV m lx].flatten):=by simpa using h4
  exact zDc h5 Hd (by decide) v4
 ·intro j c x hc Ha
  rcases Nat.lt_or_ge j ms.length with hj | hj
  ·rw [List.getElem?_append_left (by rw [h.out.len];exact hj)] at hc
   rw [List.getElem?_append_left hj] at Ha
   exact (h.out.each j c x hc Ha).same (B:=0) (Ts:=[9]) (by simp) (Hc.mono (by simp) (mC _))
  rw [List.getElem?_append_right (by rw [h.out.len];exact hj),h.out.len] at hc
  rw [List.getElem?_append_right hj] at Ha
  have Hi:j - ms.length=0:=by
   rcases Nat.eq_zero_or_pos (j - ms.length) with h' | h'
   ·exact h'
   rw [List.getElem?_eq_none (by simp;omega)] at hc
   cases hc
  rw [Hi] at hc Ha
  simp only [List.getElem?_cons_zero,Option.some.injEq] at hc Ha
  subst hc
  subst Ha
  exact ⟨lx,rfl,hx.same (by simp) Hc⟩
 ·exact ((mG base P).grown hg hb (fun q hq=>(Hb.lt q hq).1)).setCell (by show base<=gw;exact h.lw) v4
 intro g t cs hB Hj Hf
 refine ⟨Blk.far ((hg.block g hB.lt fun e=>Hf e.symm).trans hB) (p:=⟨gw,1,none⟩) Hj v4,fun e=>?_⟩
 rcases Hg with h' | h'
 ·rw [h'] at e
  exact Hf e
 rw [h'] at e
 have:=hB.lt
 simp only [Option.some.injEq] at e
 omega
theorem zKv (A:Option Addr) (n c:Nat) (m:Scu.Message) (tt:Int) (w:World) (base gw gr:Nat) (r:Scu.Replica) (lu hv wv gv nv ov:Value) (ms:List Scu.Message) (css:List (List Value)) (hW:Work w base gw gr r lu hv wv gv nv ov ms css) (ht:tt=r.me) :
 Calls Tryd.prog 40 #[.pointer (some ⟨gw,0,none⟩),.int .i64 tt,.agg #[.int .i64 m.kind,.int .i64 m.from_,.int .i64 m.tq,.int .i64 m.view,.int .i64 m.normal,.int .i64 m.commit,.int .i64 m.n,.slice A n c]] w fun e w'=>e=.returned (.tuple #[])/\Below w.heap.size w w':=by
 have d0:=hW.wb.cell 0
 have d1:=hW.rb.cell 0
 simp only [List.getElem?_toArray,List.getElem?_cons_zero] at d0 d1
 have dl:=hW.wb.lt
 have dm:=hW.rb.lt
 subst ht
 clear hW
 go_enter Tryd.func40,Tryd.ntmps40
 go_wp2
 refine bodyPost_ret (v:=.tuple #[]) (by simp [results,Tryd.results40]) rfl ?_
 exact ⟨rfl,zAa _ _⟩
theorem zIi (A:Option Addr) (n c:Nat) (m:Scu.Message) (tt:Int) (w:World) (base gw gr:Nat) (r:Scu.Replica) (lu hv wv gv nv ov:Value) (ms:List Scu.Message) (css:List (List Value)) (hW:Work w base gw gr r lu hv wv gv nv ov ms css) (Hc:base<=w.heap.size) (ht:tt≠r.me)
 (hx:IsStrs w 0 (.slice A n c) m.log) (hm:(ms.length+1)*80<=R47) :
 Calls Tryd.prog 40 #[.pointer (some ⟨gw,0,none⟩),.int .i64 tt,.agg #[.int .i64 m.kind,.int .i64 m.from_,.int .i64 m.tq,.int .i64 m.view,.int .i64 m.normal,.int .i64 m.commit,.int .i64 m.n,.slice A n c]] w fun e w'=>e=.returned (.tuple #[])/\(∃ ov' css',Work w' base gw gr r lu hv wv gv nv ov' (ms ++ [⟨m.kind,r.me,tt,r.kept.view,m.normal,m.commit,m.n,m.log⟩]) css'/\∀ g t cs,Blk w g t cs->g≠gw->ov.ownBlock≠some g->Blk w' g t cs/\ov'.ownBlock≠some g)/\Below base w w'/\Same [9] 0 w w':=by
 have Hw:(tt == r.me)=false:=by simpa using ht
 have HW:=mA hW
 have HX:=mA hx
 clear hW hx
 go_enter Tryd.func40,Tryd.ntmps40
 go_upto_region 1 with fail
 obtain ⟨Wd,Hg⟩:=mJ (w.alloc (.cells (mN m A n c) 43))
 rw [<- Hg]
 have Hi:Below w.heap.size w Wd:=by rw [Hg];exact zAa _ _
 have hn:Blk Wd w.heap.size 43 (mN m A n c):=by rw [Hg];exact Blk.new _ _ _
 have Hd:=HW.out.below Hi
 have d0:=cz1 Hd.wb
 obtain ⟨d1,d2⟩:=cz2 Hd.rb
 obtain ⟨-,e1,e2,e3⟩:=cz4 hn
 have ez:=hn.frozen
 have dl:=Hd.wb.lt
 have dm:=Hd.rb.lt
 have el:=hn.lt
 have Hx:w.heap.size≠gw:=by have:=HW.out.wb.lt;omega
 have Hy:w.heap.size≠gr:=by have:=HW.out.rb.lt;omega
 have HN:=mA (mB hn (mB Hd Hi))
 clear hn Hd Hi Hg
 go_wp2_with fail
 go_region
 obtain ⟨We,Hf⟩:=mJ ((((Wd.setCell ⟨w.heap.size,1,none⟩ (.int .i64 r.me)).setCell ⟨w.heap.size,2,none⟩ (.int .i64 tt)).setCell ⟨w.heap.size,3,none⟩ (.int .i64 r.kept.view)).drew)
 rw [<- Hf]
 have Hj:Blk We w.heap.size 43 #[.int .i64 m.kind,.int .i64 r.me,.int .i64 tt,.int .i64 r.kept.view,.int .i64 m.normal,.int .i64 m.commit,.int .i64 m.n,.slice A n c]:=by rw [Hf];exact (((HN.out.1.set_ 1 _).set_ 2 _).set_ 3 _).drew
 have Ht:Same [9,3,4,25,30,68] 0 Wd We:=by
  rw [Hf]
  exact ((((Same.set_ HN.out.1 (mE _) (by decide) 1 _).trans (Same.set_ (HN.out.1.set_ 1 _) (mE _) (by decide) 2 _)).trans (Same.set_ ((HN.out.1.set_ 1 _).set_ 2 _) (mE _) (by decide) 3 _))).trans (Same.drew _)
 have He:Below w.heap.size w We:=by
  rw [Hf]
  exact (((HN.out.2.2.setCell (p:=⟨w.heap.size,1,none⟩) (mC _) _).setCell (p:=⟨w.heap.size,2,none⟩) (mC _) _).setCell (p:=⟨w.heap.size,3,none⟩) (mC _) _).drew
 have Ha:=HW.out.below He
 have Ho:=HX.out.below He
 clear d0 d1 d2 e1 e2 e3 ez dl dm el Hf Ht
 obtain ⟨-,d1⟩:=cz2 Ha.wb
 obtain ⟨q0,q1,q2,q3,q4,q5,q6,q7⟩:=cz8 Hj
 have dz:=Ha.wb.frozen
 have dl:=Ha.wb.lt
 have ql:=Hj.lt
 obtain ⟨Ao,co,rfl⟩:=Ha.out.form
 have Hu:=mA Ha
 have Hv:=mA Ho
 have Hp:=mA He
 have Hk:=mA Ha.out.row
 unfold R47 at hm
 have Hq:=mA (show base<=((We.alloc (.cells #[.int .i64 m.kind,.int .i64 r.me,.int .i64 tt,.int .i64 r.kept.view,.int .i64 m.normal,.int .i64 m.commit,.int .i64 m.n,.slice A n c] 43)).drew).heap.size from mD Hc (((He.alloc He.size (.cells #[.int .i64 m.kind,.int .i64 r.me,.int .i64 tt,.int .i64 r.kept.view,.int .i64 m.normal,.int .i64 m.commit,.int .i64 m.n,.slice A n c] 43)).drew).size))
 clear Hj He Ha Ho
 go_wp2_with fail
 go_region_law (first
  | (refine zBw _ rfl (.tmp 38) (.tmp 40) 38 rfl zLo base (.slice Ao ms.length co) ms.length css.flatten rfl ?_ (.slice (some ⟨We.heap.size,0,none⟩) 1 1) 1 (msgV ⟨m.kind,r.me,tt,r.kept.view,m.normal,m.commit,m.n,m.log⟩ (.slice A n c)) rfl ⟨rfl,.inr ⟨_,_,rfl,?_⟩⟩ ?_ ?_ ?_ ?_ ?_
     ·exact (zAi Hk.out (zAa We _).drew)
     ·intro j v hj
      have Hz:j < 8:=by (rcases Nat.lt_or_ge j 8 with h | h;exact h;rw [List.getElem?_eq_none h] at hj;cases hj)
      have Hl:(⟨We.heap.size,0,none⟩:Addr).add j=⟨We.heap.size,j,none⟩:=by (unfold Addr.add;split <;> simp_all)
      rw [Hl]
      refine (((Blk.new We 43 #[.int .i64 m.kind,.int .i64 r.me,.int .i64 tt,.int .i64 r.kept.view,.int .i64 m.normal,.int .i64 m.commit,.int .i64 m.n,.slice A n c]).drew).cell j).trans ?_
      simpa [msgV] using hj
     ·(intro v hv;simp only [msgV,List.mem_cons,List.not_mem_nil,or_false] at hv;rcases hv with rfl | rfl | rfl | rfl | rfl | rfl | rfl | rfl <;> rfl)
     ·(unfold maxLen;omega)
     ·omega
     ·exact Hq.out
     intro v4 x4 h4 Hm Hr
     have hP:=Hu.out.below (zAa We (.cells #[.int .i64 m.kind,.int .i64 r.me,.int .i64 tt,.int .i64 r.kept.view,.int .i64 m.normal,.int .i64 m.commit,.int .i64 m.n,.slice A n c] 43)).drew
     have Hs:=zIh (m:=⟨m.kind,r.me,tt,r.kept.view,m.normal,m.commit,m.n,m.log⟩) hP (by unfold R47;omega) (Hv.out.below (zAa We (.cells #[.int .i64 m.kind,.int .i64 r.me,.int .i64 tt,.int .i64 r.kept.view,.int .i64 m.normal,.int .i64 m.commit,.int .i64 m.n,.slice A n c] 43)).drew) h4 Hm Hq.out Hr
     have Hb:=zAd hP.wb (Ts:=[68]) (Same.own hP.out.row Hm (mE _) (by decide)) (by simp)
     obtain ⟨-,g1⟩:=cz2 Hb
     have gz:=Hb.frozen
     have gl:=Hb.lt
     obtain ⟨A9,c9,rfl,_,_,_,_⟩:=zAk h4
     have Hh:=mA Hs
     clear hP Hs h4 Hm Hb Hr))
 all_goals
  go_wp2
  go_end0
  have Hn:=(Hp.out.alloc Hp.out.size (.cells #[.int .i64 m.kind,.int .i64 r.me,.int .i64 tt,.int .i64 r.kept.view,.int .i64 m.normal,.int .i64 m.commit,.int .i64 m.n,.slice A n c] 43)).drew
  exact ⟨rfl,⟨_,_,Hh.out.1,fun g t cs h1 h2 h3=>Hh.out.2.2.2 g t cs (h1.same Hn) h2 h3⟩,(Hn.mono Hc).trans Hh.out.2.1,(Same.below Hn).trans (Hh.out.2.2.1.mono (by simp) (mC _))⟩
def partAll (me view:Int) (m:Scu.Message) (k:Nat):List Scu.Message:=((([0,1,2]:List Int).take k).filter fun i=>decide (i≠me)).map fun i=>⟨m.kind,me,i,view,m.normal,m.commit,m.n,m.log⟩
theorem zIj (me view:Int) (m:Scu.Message):partAll me view m 0=[]:=rfl
theorem zIk {me view:Int} {m:Scu.Message} {k:Nat} (hk:k < 3) (h:(k:Int)=me):partAll me view m (k+1)=partAll me view m k:=by
 subst h
 rcases k with _ | _ | _ | k
 ·simp [partAll]
 ·simp [partAll]
 ·simp [partAll]
 omega
theorem zIl {me view:Int} {m:Scu.Message} {k:Nat} (hk:k < 3) (h:(k:Int)≠me):partAll me view m (k+1)=partAll me view m k ++ [⟨m.kind,me,k,view,m.normal,m.commit,m.n,m.log⟩]:=by
 have h':decide ((k:Int)=me)=false:=by simpa using h
 rcases k with _ | _ | _ | k
 ·simp [partAll,List.take,List.filter,show ¬ (0:Int)=me from h]
 ·simp [partAll,List.take,List.filter,show ¬ (1:Int)=me from h]
  by_cases h0:(0:Int)=me <;> simp [h0]
 ·simp [partAll,List.take,List.filter,show ¬ (2:Int)=me from h]
  by_cases h0:(0:Int)=me <;> by_cases h1:(1:Int)=me <;> simp [h0,h1]
 omega
theorem zGv (me view:Int) (m:Scu.Message) (k:Nat):(partAll me view m k).length<=3:=by
 unfold partAll
 rw [List.length_map]
 refine mD (List.length_filter_le _ _) ?_
 rw [List.length_take]
 simp only [List.length_cons,List.length_nil]
 omega
theorem zKa {ms ps:List Scu.Message} (h:ps.length<=3) (hm:(ms.length+4)*80<=R47):((ms ++ ps).length+1)*80<=R47:=by
 have e:(ms ++ ps).length=ms.length+ps.length:=List.length_append
 rw [e]
 refine mD (Nat.mul_le_mul_right 80 ?_) hm
 omega
theorem zLp {w:World} {a b:Nat} {t t':TypeId} {cs cs':Array Value} (h:Blk w a t cs) (h':Blk w b t' cs') (ht:t≠t'):a≠b:=fun e=>by
 subst e
 unfold Blk at h h'
 rw [h] at h'
 cases h'
 exact ht rfl
structure AllI (w:World) (base gw gr:Nat) (r:Scu.Replica) (lu hv wv gv nv:Value) (ms:List Scu.Message) (m:Scu.Message) (A:Option Addr) (n c:Nat) (k:Nat) (ov0 ov:Value) (css:List (List Value)) (wr:World):Prop where
 far:Far w wr ov0 ov
 work:Work wr base gw gr r lu hv wv gv nv ov (ms ++ partAll r.me r.kept.view m k) css
 box:Blk wr w.heap.size 43 #[.int .i64 m.kind,.int .i64 m.from_,.int .i64 m.tq,.int .i64 m.view,.int .i64 m.normal,.int .i64 m.commit,.int .i64 m.n,.slice A n c]
 ne:ov.ownBlock≠some w.heap.size
 log:IsStrs wr 0 (.slice A n c) m.log
 low:Below base w wr
theorem zMp (A:Option Addr) (n c:Nat) (m:Scu.Message) (w:World) (base gw gr:Nat) (r:Scu.Replica) (lu hv wv gv nv ov:Value) (ms:List Scu.Message) (css:List (List Value)) (hW:Work w base gw gr r lu hv wv gv nv ov ms css) (Hb:base<=w.heap.size)
 (hx:IsStrs w 0 (.slice A n c) m.log) (hm:(ms.length+4)*80<=R47) :
 Calls Tryd.prog 38 #[.pointer (some ⟨gw,0,none⟩),.agg #[.int .i64 m.kind,.int .i64 m.from_,.int .i64 m.tq,.int .i64 m.view,.int .i64 m.normal,.int .i64 m.commit,.int .i64 m.n,.slice A n c]] w fun e w'=>e=.returned (.tuple #[])/\(∃ ov' css',Work w' base gw gr r lu hv wv gv nv ov' (ms ++ partAll r.me r.kept.view m 3) css'/\Far w w' ov ov')/\Below base w w':=by
 have hI:AllI w base gw gr r lu hv wv gv nv ms m A n c 0 ov ov css (w.alloc (.cells (mN m A n c) 43)):=by
  have Hi:=zAa w (.cells (mN m A n c) 43)
  refine ⟨Far.below Hi,?_,Blk.new w _ _,fun e=>?_,hx.below Hi,Hi.mono Hb⟩
  ·rw [zIj,List.append_nil]
   exact hW.below Hi
  have:=(hW.out.row.lt _ e).2
  omega
 have HI:=mA hI
 clear hI hW hx
 go_enter Tryd.func38,Tryd.ntmps38
 go_wp2_with fail
 go_loopw [6] (fun i wr=>∃ (k:Nat) (ov1:Value) (css:List (List Value)),k<=3/\i=.int .i64 k/\Hid (AllI w base gw gr r lu hv wv gv nv ms m A n c k ov ov1 css wr)) (fun i _=>3 - (intOf i).toNat)
 case atStart=>exact ⟨0,ov,css,mE _,rfl,HI⟩
 case round =>
  obtain ⟨k,ov1,css1,hk,rfl,hI⟩:=hrel
  by_cases Ho:k < 3
  ·have Hw:(k:Int) < 3:=by omega
   have Hj:=hI.out.box
   obtain ⟨b0,b1,b2,b3,b4,b5,b6,b7⟩:=cz8 Hj
   have bl:=Hj.lt
   clear Hj
   go_wp2_with fail
   refine (zAo _ m.log _ 0 (hI.out.log.alloc _)).mono ?_;rintro en w2 ⟨⟨u,rfl,hu⟩,h2⟩
   obtain ⟨Au,cu,rfl,_,_,_,_⟩:=zAk hu
   have He:Blk w2 wr.heap.size 43 (mN m A n c):=(Blk.new wr _ _).same h2
   obtain ⟨-,-,-,-,-,-,-,x7⟩:=cz8 He
   have xz:=He.frozen
   have xl:=He.lt
   have Hp:Below wr.heap.size wr w2:=(zAa wr _).trans (h2.mono (by simp))
   have Hq:IsStrs w2 0 (.slice Au m.log.length cu) m.log:=zBx hu hI.out.log.len hI.out.log.each
   have Hf:=mA (mB He (mB Hp Hq))
   clear He Hp Hq hu h2
   go_upto_region 6 with fail
   obtain ⟨Wf,Hg⟩:=mJ (w2.setCell ⟨wr.heap.size,7,none⟩ (.slice Au m.log.length cu))
   rw [<- Hg]
   have Hk:Blk Wf wr.heap.size 43 (mN m Au m.log.length cu):=by rw [Hg];exact Hf.out.1.set_ 7 _
   have Hc:Below wr.heap.size wr Wf:=by rw [Hg];exact Hf.out.2.1.setCell (p:=⟨wr.heap.size,7,none⟩) (mC _) _
   have Hr:IsStrs Wf 0 (.slice Au m.log.length cu) m.log:=by rw [Hg];exact Hf.out.2.2.same (Ts:=[9]) (by simp) (Same.set_ Hf.out.1 (mE _) (by decide) 7 _)
   have Hs:AllI w base gw gr r lu hv wv gv nv ms m A n c k ov ov1 css1 Wf:=⟨hI.out.far.trans (Far.below Hc),hI.out.work.below Hc,hI.out.box.same Hc,hI.out.ne,hI.out.log.below Hc,hI.out.low.trans (Hc.mono (mD Hb hI.out.low.size))⟩
   obtain ⟨x0,x1,x2,x3,x4,x5,x6,y7⟩:=cz8 Hk
   have yl:=Hk.lt
   have Ht:base<=Wf.heap.size:=mD (mD Hb hI.out.low.size) Hc.size
   have Ha:=mA Hs
   have Hx:=mA Hr
   clear Hk Hc Hr Hs Hg x7 xz xl b0 b1 b2 b3 b4 b5 b6 b7 bl hI Hf
   have Hy:=mA (zKa (zGv r.me r.kept.view m k) hm)
   go_wp2_with fail
   by_cases Hd:(k:Int)=r.me
   ·refine (zKv Au m.log.length cu m k Wf base gw gr r lu hv wv gv nv ov1 _ css1 Ha.out.work Hd).mono ?_;rintro en w5 ⟨rfl,h5⟩
    have Hh:AllI w base gw gr r lu hv wv gv nv ms m A n c (k+1) ov ov1 css1 w5:=⟨Ha.out.far.trans (Far.below h5),by rw [zIk Ho Hd];exact Ha.out.work.below h5,Ha.out.box.same h5,Ha.out.ne,Ha.out.log.below h5,Ha.out.low.trans (h5.mono Ht)⟩
    have Hl:=mA Hh
    clear Hh h5 Hd
    go_wp2
    exact ⟨⟨k+1,ov1,css1,by omega,rfl,Hl⟩,by simp only [intOf];omega⟩
   refine (zIi Au m.log.length cu m k Wf base gw gr r lu hv wv gv nv ov1 _ css1 Ha.out.work Ht Hd Hx.out Hy.out).mono ?_;rintro en w5 ⟨rfl,⟨ov2,css2,Hu,Hm⟩,h5,Hv⟩
   have Hz:w.heap.size≠gw:=by
    intro e
    have hA:=Ha.out.box
    have hC:=Ha.out.work.wb
    rw [e] at hA
    unfold Blk at hA hC
    rw [hA] at hC
    cases hC
   have Hn:=Hm _ _ _ Ha.out.box Hz Ha.out.ne
   have Hh:AllI w base gw gr r lu hv wv gv nv ms m A n c (k+1) ov ov2 css2 w5:=⟨Ha.out.far.trans fun b cs hb hc=>Hm b _ cs hb (zLp hb Ha.out.work.wb (by decide)) hc,by rw [zIl Ho Hd,<- List.append_assoc];exact Hu,Hn.1,Hn.2,Ha.out.log.same (by simp) Hv,Ha.out.low.trans h5⟩
   have Hl:=mA Hh
   clear Hh h5 Hv Hu Hm Hn Hd
   go_wp2
   exact ⟨⟨k+1,ov2,css2,by omega,rfl,Hl⟩,by simp only [intOf];omega⟩
  have Ka:k=3:=by omega
  subst Ka
  go_wp2
  go_end0
  exact ⟨rfl,⟨_,_,hI.out.work,hI.out.far⟩,hI.out.low⟩
def leadMsg (r:Scu.Replica):Scu.Message:=⟨1,0,0,0,0,r.kept.commit,0,r.kept.log⟩
theorem zMq (w:World) (base gw gr:Nat) (r:Scu.Replica) (lu hv wv gv nv ov:Value) (ms:List Scu.Message) (css:List (List Value)) (hW:Work w base gw gr r lu hv wv gv nv ov ms css) (Ha:base<=w.heap.size) (hm:(ms.length+4)*80<=R47) :
 Calls Tryd.prog 23 #[.pointer (some ⟨gw,0,none⟩)] w fun e w'=>e=.returned (.tuple #[])/\(∃ ov' css',Work w' base gw gr r lu hv wv gv nv ov' (ms ++ partAll r.me r.kept.view (leadMsg r) 3) css')/\Below base w w':=by
 have hl:=hW.own.is.log
 obtain ⟨A,n,c,rfl⟩:=hl.form
 have d0:=cz1 hW.wb
 obtain ⟨-,-,-,-,d4,d5⟩:=cz6 hW.rb
 have dl:=hW.wb.lt
 have dm:=hW.rb.lt
 have HW:=mA (mB hW hl)
 have HM:=mA hm
 clear hW hl hm
 go_enter Tryd.func23,Tryd.ntmps23
 go_wp2_with fail
 go_still_tail 18,(by kernel_rfl)
 change wpList _ _ _ _ _ w.drew
 go_wp2_with (go_at_call 38;refine (zMp A n c (leadMsg r) _ base gw gr r (.slice A n c) hv wv gv nv ov ms css (HW.out.1.below (mG _ _).drew) Ha (HW.out.2.below (mG _ _).drew) HM.out).mono ?_;rintro en w5 ⟨rfl,⟨ov5,css5,hk,_⟩,h5⟩;have HK:=mA (mB hk ((mG base w).drew.trans h5));clear hk h5)
 go_wp2
 go_end0
 exact ⟨rfl,⟨_,_,HK.out.1⟩,HK.out.2⟩
theorem zDe {w:World} {base:Nat} {e:TypeId} {size n:Nat} {v:Value} {xs:List Value} (h:w.ownsRow base e size v n xs) {p:Addr} (hp:v.ownBlock≠some p.block) (u:Value):(w.setCell p u).ownsRow base e size v n xs:=by
 obtain ⟨hl,h0 | ⟨g,cap,cur,rfl,hb,hh,hr⟩⟩:=h
 ·exact ⟨hl,.inl h0⟩
 exact ⟨hl,.inr ⟨g,cap,cur,rfl,hb,(Below.heap_setCell w p u g (fun e=>hp (by rw [<- e];rfl))).trans hh,hr⟩⟩
theorem OwnOnes.at_ {α:Type} {t:TypeId} {bytes:Nat} {f:α->Value} {w:World} {base:Nat} {v:Value} {xs:List α} (h:OwnOnes t bytes f w base v xs) (hn:0 < xs.length) :
 ∃ g c cur,v=.slice (some ⟨g,0,none⟩) xs.length c/\base<=g/\Blk w g t cur/\∀ j,j < xs.length->w.cell? ⟨g,j,none⟩=(xs.map f)[j]?:=zKu h.1 hn
theorem OwnOnes.put {α:Type} {t:TypeId} {bytes:Nat} {f:α->Value} {w:World} {base g c n:Nat} {xs:List α} (h:OwnOnes t bytes f w base (.slice (some ⟨g,0,none⟩) n c) xs) (j:Nat) (x:α) :
 OwnOnes t bytes f (w.setCell ⟨g,j,none⟩ (f x)) base (.slice (some ⟨g,0,none⟩) n c) (xs.set j x):=by
 have hn:n=xs.length:=by
  obtain ⟨⟨A,c',e,_⟩,_⟩:=h.is
  cases e
  rfl
 subst hn
 refine ⟨?_,by simpa using h.2⟩
 rw [List.length_set,List.map_set]
 exact zId h.1 j _
theorem OwnOnes.far {α:Type} {t:TypeId} {bytes:Nat} {f:α->Value} {w:World} {base:Nat} {v:Value} {xs:List α} (h:OwnOnes t bytes f w base v xs) {p:Addr} (hp:v.ownBlock≠some p.block) (u:Value):OwnOnes t bytes f (w.setCell p u) base v xs:=⟨zDe h.1 hp u,h.2⟩
theorem Work.want {w:World} {base gw gr g c n:Nat} {r:Scu.Replica} {lu hv gv nv ov:Value} {ms:List Scu.Message} {css:List (List Value)} (h:Work w base gw gr r lu hv (.slice (some ⟨g,0,none⟩) n c) gv nv ov ms css) {cur:Array Value} (hB:Blk w g 4 cur) (hg:base<=g) (j:Nat) (b:Bool) :
 Work (w.setCell ⟨g,j,none⟩ (.bool b)) base gw gr { r with wants:=r.wants.set j b } lu hv (.slice (some ⟨g,0,none⟩) n c) gv nv ov ms css/\Below base w (w.setCell ⟨g,j,none⟩ (.bool b)):=by
 have hs:Same [9,3,25,30,68,43] 0 w (w.setCell ⟨g,j,none⟩ (.bool b)):=Same.set_ hB (mE _) (by decide) j _
 obtain ⟨css',Ha⟩:=h.own.giv
 exact ⟨⟨zAd h.wb hs (by simp),zAd h.rb hs (by simp),⟨⟨h.own.own.log.same (hs.mono (by simp) (mC _)),h.own.own.have_.same (hs.mono (by simp) (mC _)),h.own.own.wants.put j b,h.own.own.given.far (h.own.own.apart g rfl) _,h.own.own.apart⟩,css',Ha.same (hs.mono (by simp) (mC _))⟩,h.out.same (hs.mono (by simp) (mC _)),h.lw,h.lr⟩,
  (mG base w).setCell (p:=⟨g,j,none⟩) hg _⟩
def WorkE (w:World) (base gw gr:Nat) (r:Scu.Replica) (ms:List Scu.Message):Prop:=∃ lu hv wv gv nv ov css,Work w base gw gr r lu hv wv gv nv ov ms css
theorem WorkE.below {w w':World} {base gw gr:Nat} {r:Scu.Replica} {ms:List Scu.Message} (h:WorkE w base gw gr r ms) (hb:Below w.heap.size w w'):WorkE w' base gw gr r ms :=
 let ⟨_,_,_,_,_,_,_,h⟩:=h;⟨_,_,_,_,_,_,_,h.below hb⟩
theorem Work.e {w:World} {base gw gr:Nat} {r:Scu.Replica} {lu hv wv gv nv ov:Value} {ms:List Scu.Message} {css:List (List Value)} (h:Work w base gw gr r lu hv wv gv nv ov ms css):WorkE w base gw gr r ms:=⟨_,_,_,_,_,_,_,h⟩
theorem zEd (w:World) (base gw gr:Nat) (r:Scu.Replica) (ms:List Scu.Message) (hW:WorkE w base gw gr r ms) (Ha:base<=w.heap.size) (hm:(ms.length+4)*80<=R47) :
 Calls Tryd.prog 23 #[.pointer (some ⟨gw,0,none⟩)] w fun e w'=>e=.returned (.tuple #[])/\WorkE w' base gw gr r (ms ++ Scu.leadOn r)/\Below base w w':=by
 obtain ⟨lu,hv,wv,gv,nv,ov,css,hW⟩:=hW
 refine (zMq w base gw gr r lu hv wv gv nv ov ms css hW Ha hm).mono ?_
 rintro e w' ⟨h1,⟨ov',css',h2⟩,h3⟩
 exact ⟨h1,h2.e,h3⟩
theorem zNf (k:Int) (w:World) (base gw gr:Nat) (r:Scu.Replica) (lu hv wv gv nv ov:Value) (ms:List Scu.Message) (css:List (List Value)) (hW:Work w base gw gr r lu hv wv gv nv ov ms css) (Ha:base<=w.heap.size) (hm:(ms.length+4)*80<=R47) :
 Calls Tryd.prog 38 #[.pointer (some ⟨gw,0,none⟩),.agg #[.int .i64 k,.int .i64 0,.int .i64 0,.int .i64 0,.int .i64 0,.int .i64 0,.int .i64 0,.slice none 0 0]] w fun e w'=>e=.returned (.tuple #[])/\(∃ ov' css',Work w' base gw gr r lu hv wv gv nv ov' (ms ++ Scu.toAll r.me r.kept.view { Scu.msg0 with kind:=k }) css'/\Far w w' ov ov')/\Below base w w' :=
 zMp none 0 0 { Scu.msg0 with kind:=k } w base gw gr r lu hv wv gv nv ov ms css hW Ha IsStrs.nil_ hm
theorem zBz (A:Option Addr) (n c:Nat) (m:Scu.Message) (tt:Int) (w:World) (base gw gr:Nat) (r:Scu.Replica) (ms:List Scu.Message) (hW:WorkE w base gw gr r ms) (Ha:base<=w.heap.size)
 (hx:IsStrs w 0 (.slice A n c) m.log) (hm:(ms.length+1)*80<=R47) (ms':List Scu.Message) (Hb:ms'=if tt=r.me then ms else ms ++ [⟨m.kind,r.me,tt,r.kept.view,m.normal,m.commit,m.n,m.log⟩]) :
 Calls Tryd.prog 40 #[.pointer (some ⟨gw,0,none⟩),.int .i64 tt,.agg #[.int .i64 m.kind,.int .i64 m.from_,.int .i64 m.tq,.int .i64 m.view,.int .i64 m.normal,.int .i64 m.commit,.int .i64 m.n,.slice A n c]] w fun e w'=>e=.returned (.tuple #[])/\WorkE w' base gw gr r ms'/\Below base w w':=by
 obtain ⟨lu,hv,wv,gv,nv,ov,css,hW⟩:=hW
 subst Hb
 by_cases ht:tt=r.me
 ·rw [if_pos ht]
  refine (zKv A n c m tt w base gw gr r lu hv wv gv nv ov ms css hW ht).mono ?_
  rintro e w' ⟨h1,h3⟩
  exact ⟨h1,(hW.below h3).e,h3.mono Ha⟩
 rw [if_neg ht]
 refine (zIi A n c m tt w base gw gr r lu hv wv gv nv ov ms css hW Ha ht hx hm).mono ?_
 rintro e w' ⟨h1,⟨ov',css',h2,_⟩,h3,_⟩
 exact ⟨h1,h2.e,h3⟩
structure LowStrs (w:World) (base:Nat) (v:Value) (xs:List Scu.Str):Prop where
 ex:∃ A c,v=.slice A xs.length c/\xs.length<=c/\(xs=[]\/∃ g o,A=some ⟨g,o,none⟩/\g < base/\∀ (j:Nat) (u:Value),(xs.map Value.string)[j]? = some u->w.cell? ⟨g,o+j,none⟩=some u)
 len:xs.length*16<=R47
 each:∀ s ∈ xs,s.size<=R47
theorem LowStrs.of {w:World} {B:Nat} {v:Value} {xs:List Scu.Str} (h:IsStrs w B v xs):LowStrs w w.heap.size v xs:=by
 obtain ⟨⟨A,c,rfl,hc,hr⟩,h2,h3⟩:=h
 refine ⟨⟨A,c,rfl,hc,?_⟩,h2,h3⟩
 rcases hr with h | ⟨g,o,h1,h2,_,h4⟩
 ·exact .inl (by simpa using h)
 exact .inr ⟨g,o,h1,h2,h4⟩
theorem LowStrs.keep {w w':World} {base:Nat} {v:Value} {xs:List Scu.Str} (h:LowStrs w base v xs) (hb:Below base w w'):LowStrs w' base v xs:=by
 obtain ⟨⟨A,c,rfl,hc,hr⟩,h2,h3⟩:=h
 refine ⟨⟨A,c,rfl,hc,?_⟩,h2,h3⟩
 rcases hr with h | ⟨g,o,h1,h2,h4⟩
 ·exact .inl h
 exact .inr ⟨g,o,h1,h2,fun j u hj=>(hb.cell (p:=⟨g,o+j,none⟩) h2).trans (h4 j u hj)⟩
theorem LowStrs.is {w:World} {base:Nat} {v:Value} {xs:List Scu.Str} (h:LowStrs w base v xs) (hb:base<=w.heap.size):IsStrs w base v xs:=by
 obtain ⟨⟨A,c,rfl,hc,hr⟩,h2,h3⟩:=h
 refine ⟨⟨A,c,rfl,hc,?_⟩,h2,h3⟩
 rcases hr with h | ⟨g,o,h1,h2,h4⟩
 ·exact .inl (by simp [h])
 exact .inr ⟨g,o,h1,by omega,.inl h2,h4⟩
theorem ones3 {α:Type} {t:TypeId} {bytes:Nat} {f:α->Value} {w:World} {base:Nat} {v:Value} {xs:List α} (h:OwnOnes t bytes f w base v xs) (h3:xs.length=3) :
 ∃ g c cur,v=.slice (some ⟨g,0,none⟩) 3 c/\base<=g/\Blk w g t cur/\∀ j,j < 3->w.cell? ⟨g,j,none⟩=(xs.map f)[j]?:=by
 obtain ⟨g,c,cur,h1,h2,hb,h4⟩:=h.at_ (by omega)
 rw [h3] at h1 h4
 exact ⟨g,c,cur,h1,h2,hb,h4⟩
end Go.Proofs.YtjnjhmkgfjikfaaDoor
