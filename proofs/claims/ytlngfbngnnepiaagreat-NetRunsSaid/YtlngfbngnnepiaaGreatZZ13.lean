/- Part 13: words and walks under the laws of the whole. -/
import Derived.Deep.DeepCutAuto
import Derived.Test.YtlngfbngnnepiaaGreatZZ10
set_option linter.unusedVariables false
set_option linter.unusedSimpArgs false
set_option maxHeartbeats 4000000
set_option maxRecDepth 100000
namespace Go.Proofs.YtlngfbngnnepiaaGreat
open Go.RowKit
def OwnLasts (w:World) (base:Nat) (v:Value) (ls:List Scu.Last):Prop:=w.ownsRow base 95 4 v ls.length (ls.flatMap lastC)/\ls.length*40<=R47
theorem OwnLasts.is {w:World} {base:Nat} {v:Value} {ls:List Scu.Last} (h:OwnLasts w base v ls):IsLasts w 0 v ls:=by
 obtain ⟨A,c,rfl,hc,_,hr,_⟩:=zAi h.1;exact ⟨⟨A,c,rfl,hc,hr⟩,h.2⟩
theorem OwnLasts.below {w w':World} {base:Nat} {v:Value} {xs:List Scu.Last} (h:OwnLasts w base v xs) (hb:Below w.heap.size w w'):OwnLasts w' base v xs:=⟨zAg h.1 hb,h.2⟩
theorem OwnLasts.base_ {w:World} {base base':Nat} {v:Value} {xs:List Scu.Last} (h:OwnLasts w base v xs) (hb:base'<=base):OwnLasts w base' v xs:=⟨zAl h.1 hb,h.2⟩
theorem OwnLasts.set_ {w:World} {base:Nat} {v:Value} {xs:List Scu.Last} (h:OwnLasts w base v xs) {g i:Nat} {t:TypeId} {cs:Array Value} (hb:Blk w g t cs) (Ha:t≠95) (u:Value):OwnLasts (w.setCell ⟨g,i,none⟩ u) base v xs:=⟨zFm h.1 hb Ha u,h.2⟩
theorem zLf:ElT 89 95 4 40:=by
 obtain ⟨i,h1,h2,h3,h4⟩:=info_parts (P:=Tryz.prog) (e:=95) (z:=.agg #[.int .i64 0,.int .i64 0,.int .i64 0,.string ⟨#[]⟩]) (size:=4) (bytes:=40) (by kernel_rfl);exact ⟨Tryz.underlying89,by omega,i,_,h1,h2,h3,h4,rfl⟩
theorem zJh (ls:List Scu.Last):∀ u ∈ ls.flatMap lastC,u.oneCell'=true:=fun u hu=>by
 obtain ⟨l,_,h⟩:=List.mem_flatMap.1 hu;simp only [lastC,List.mem_cons,List.not_mem_nil,or_false] at h
 rcases h with rfl | rfl | rfl | rfl <;> rfl
theorem zFq (ls:List Scu.Last):(ls.flatMap lastC).length=ls.length*4:=zOn lastC 4 (fun _=>rfl) ls
theorem zId (v:Value) (xs:List Scu.Last) (w:World) (B:Nat) (hv:IsLasts w B v xs) :
 Calls Tryz.prog 113 #[v] w fun e w'=>(∃ u,e=.returned u/\OwnLasts w' w.heap.size u xs)/\Below w.heap.size w w':=by
 obtain ⟨⟨A,c,rfl,He,hr⟩,hl⟩:=hv;have Hb:=hl;rcases A with _ | ad
 ·have hx:xs=[]:=by
   have:=zBi hr;have:=congrArg List.length this;rw [zFq] at this;exact List.eq_nil_of_length_eq_zero (by simp only [List.length_nil] at this;omega)
  subst hx;have Hc:=fun (W:World)=>Lib.run_eql_slice_nil (P:=Tryz.prog) W 89 95 none 0 c 0 0 Tryz.underlying89
  go_enter Tryz.func113,Tryz.ntmps113
  go_wp2
  go_ret
  exact ⟨⟨_,rfl,World.ownsRow_nil _ _ _ _,Hb⟩,mG _ _⟩
 have Hf:=fun (W:World)=>Lib.run_eql_slice_nil (P:=Tryz.prog) W 89 95 (some ad) xs.length c 0 0 Tryz.underlying89
 have Hd:=hl;unfold R47 at Hd;go_enter Tryz.func113,Tryz.ntmps113
 go_wp2_with (at_builtin;refine zAz _ rfl _ _ 89 rfl zLf w.heap.size _ 0 [] rfl (zKy (mC _)) _ xs.length (xs.flatMap lastC) rfl ?c1 (zJh xs) (by unfold maxLen;omega) (by omega) (by simp) ?_)
 case c1=>exact zAq (hr.alloc _) (zFq xs) (fun e=>by cases e)
 intro v1 w1 Ha hg hw;have Ha:w1.ownsRow w.heap.size 95 4 v1 xs.length (xs.flatMap lastC):=by simpa only [Nat.zero_add,List.nil_append] using Ha
 have HO:=mA Ha;have HW:=mA hw;clear Ha hw;go_wp2
 go_ret
 refine ⟨⟨_,rfl,HO.out,Hb⟩,?_⟩;exact ((mG _ _).alloc (mC _) _).trans (zAk hg (by simp) (fun k hk=>by simp [Value.ownBlock] at hk;omega))
theorem zMo:∀ (ls:List Scu.Last) (k:Nat) (l:Scu.Last),
 ((((ls.flatMap lastC).set (k*4) (.int .i64 l.num)).set (k*4+1) (.int .i64 l.reply.code)).set (k*4+2) (.int .i64 l.reply.n)).set (k*4+3) (.string l.reply.data)=(ls.set k l).flatMap lastC
 | [],k,l=>by simp
 | x :: t,0,l=>by simp [lastC]
 | x :: t,k+1,l=>by
   have ih:=zMo t k l;have e0:(k+1)*4=k*4+1+1+1+1:=by omega
   have e1:k*4+1+1+1+1+1=k*4+1+1+1+1+1:=rfl;have e2:k*4+1+1+1+1+2=k*4+2+1+1+1+1:=by omega
   have e3:k*4+1+1+1+1+3=k*4+3+1+1+1+1:=by omega
   rw [List.set_cons_succ,List.flatMap_cons,List.flatMap_cons,<- ih,e0,e2,e3];simp only [lastC,List.cons_append,List.nil_append,List.set_cons_succ]
theorem zIn {w:World} {base n g c m:Nat} {e:TypeId} {xs:List Value} (h:w.ownsRow base e m (.slice (some ⟨g,0,none⟩) n c) n xs) (j:Nat) (u:Value) :
 (w.setCell ⟨g,j,none⟩ u).ownsRow base e m (.slice (some ⟨g,0,none⟩) n c) n (xs.set j u):=by
 obtain ⟨hl,⟨h0,_⟩ | ⟨g',cap,cur,e1,hb,hh,Ha,hm,Hb,ht⟩⟩:=h
 ·cases h0
 cases e1
 have hB:Blk w g e cur:=hh;refine ⟨by simp [hl],.inr ⟨g,c,cur.setIfInBounds j u,rfl,hb,hB.set_ j u,Ha,hm,by simpa using Hb,?_⟩⟩;rw [Array.toList_setIfInBounds,List.take_set,ht]
theorem OwnLasts.put {w:World} {base g c n:Nat} {ls:List Scu.Last} (h:OwnLasts w base (.slice (some ⟨g,0,none⟩) n c) ls) (k:Nat) (l:Scu.Last) :
 OwnLasts ((((w.setCell ⟨g,k*4,none⟩ (.int .i64 l.num)).setCell ⟨g,k*4+1,none⟩ (.int .i64 l.reply.code)).setCell ⟨g,k*4+2,none⟩ (.int .i64 l.reply.n)).setCell ⟨g,k*4+3,none⟩ (.string l.reply.data)) base (.slice (some ⟨g,0,none⟩) n c) (ls.set k l):=by
 have hn:n=ls.length:=by
  obtain ⟨A,c',e,_⟩:=h.is.ex;cases e
  rfl
 subst hn;refine ⟨?_,by simpa using h.2⟩;rw [List.length_set,<- zMo];exact zIn (zIn (zIn (zIn h.1 _ _) _ _) _ _) _ _
theorem OwnLasts.at_ {w:World} {base:Nat} {v:Value} {ls:List Scu.Last} (h:OwnLasts w base v ls) (hn:0 < ls.length) :
 ∃ g c cur,v=.slice (some ⟨g,0,none⟩) ls.length c/\base<=g/\Blk w g 95 cur/\∀ j,j < ls.length*4->w.cell? ⟨g,j,none⟩=(ls.flatMap lastC)[j]?:=by
 obtain ⟨hl,⟨_,h0⟩ | ⟨g,cap,cur,rfl,hb,hh,Ha,_,Hb,ht⟩⟩:=h.1
 ·omega
 refine ⟨g,cap,cur,rfl,hb,hh,fun j hj=>?_⟩;have hB:Blk w g 95 cur:=hh;rw [hB.cell,<- ht,List.getElem?_take_of_lt (by omega)];simp
theorem Same.put4 {Ts:List TypeId} {B g:Nat} {w:World} {t:TypeId} {cs:Array Value} (hb:Blk w g t cs) (hB:B<=g) (ht:t ∉ Ts) (k:Nat) (l:Scu.Last):Same Ts B w ((((w.setCell ⟨g,k*4,none⟩ (.int .i64 l.num)).setCell ⟨g,k*4+1,none⟩ (.int .i64 l.reply.code)).setCell ⟨g,k*4+2,none⟩ (.int .i64 l.reply.n)).setCell ⟨g,k*4+3,none⟩ (.string l.reply.data)) :=
 (((Same.set_ hb hB ht _ _).trans (Same.set_ (hb.set_ _ _) hB ht _ _)).trans (Same.set_ ((hb.set_ _ _).set_ _ _) hB ht _ _)).trans (Same.set_ (((hb.set_ _ _).set_ _ _).set_ _ _) hB ht _ _)
theorem IsVolume.same {w w':World} {B:Nat} {nv sv:Value} {x:Scu.Volume} (h:IsVolume w 0 nv sv x) (hs:Same [9,39] B w w') (hB:B=0):IsVolume w' 0 nv sv x:=by
 subst hB;exact h.keep hs.size fun g hg hh=>hs.keep g hg (hh.imp id fun ⟨C,fz,t,ht,e⟩=>⟨C,fz,t,by rcases ht with rfl | rfl <;> simp,e⟩)
theorem IsLasts.same {w w':World} {v:Value} {ls:List Scu.Last} (h:IsLasts w 0 v ls) (hs:Same [95] 0 w w'):IsLasts w' 0 v ls :=
 h.keep hs.size fun g hg hh=>hs.keep g hg (hh.imp id fun ⟨C,fz,e⟩=>⟨C,fz,_,by simp,e⟩)
theorem OwnLasts.same {w w':World} {base:Nat} {v:Value} {ls:List Scu.Last} (h:OwnLasts w base v ls) (hs:Same [95] 0 w w'):OwnLasts w' base v ls:=⟨zCq h.1 (by simp) hs,h.2⟩
theorem use {P Q:Prop} (h:P) (k:P->Q):Q:=k h
theorem zJi (A0:Option Addr) (n0 c0:Nat) (A1:Option Addr) (n1 c1:Nat) (A2:Option Addr) (n2 c2:Nat) (A3:Option Addr) (n3 c3:Nat) (A4:Option Addr) (n4 c4:Nat) (r:Scu.Replica) (w:World) (B:Nat) (hr:IsRep w B (.slice A0 n0 c0) (.slice A1 n1 c1) (.slice A2 n2 c2) (.slice A3 n3 c3) (.slice A4 n4 c4) r) :
 Calls Tryz.prog 10 #[.agg #[.int .i64 r.me,.int .i64 r.kept.view,.int .i64 r.kept.normal,.bool r.kept.calm,.slice A0 n0 c0,.int .i64 r.kept.commit,.slice A1 n1 c1,.slice A2 n2 c2,.slice A3 n3 c3,.slice A4 n4 c4]] w fun e w'=>RepRet w' w.heap.size r e/\Below w.heap.size w w':=by
 have HV:=mA hr;clear hr;go_enter Tryz.func10,Tryz.ntmps10
 go_upto_region 1 with fail
 obtain ⟨Wd,Hj⟩:=mJ ((w.alloc (.cells #[.int .i64 r.me,.int .i64 r.kept.view,.int .i64 r.kept.normal,.bool r.kept.calm,.slice A0 n0 c0,.int .i64 r.kept.commit,.slice A1 n1 c1,.slice A2 n2 c2,.slice A3 n3 c3,.slice A4 n4 c4] 47)).alloc (.cells zR 47));rw [<- Hj];have hb:Below w.heap.size w Wd:=by rw [Hj];exact (zAa w _).alloc (by simp) _
 have hs:Blk Wd w.heap.size 47 #[.int .i64 r.me,.int .i64 r.kept.view,.int .i64 r.kept.normal,.bool r.kept.calm,.slice A0 n0 c0,.int .i64 r.kept.commit,.slice A1 n1 c1,.slice A2 n2 c2,.slice A3 n3 c3,.slice A4 n4 c4]:=by rw [Hj];exact (Blk.new w _ _).alloc _
 have hz:Blk Wd (w.heap.size+1) 47 zR:=by rw [Hj];exact Blk.new' (by simp)
 obtain ⟨s0,s1,s2,s3,s4,s5,s6,s7,s8,s9⟩:=cz10 hs;have sz:=hs.frozen;have sl:=hs.lt;have Kv:=hz.lt;have He:=mA (HV.out.below hb);have HS:=mA (mB hs (mB hz hb));clear hs hz hb Hj;go_cut [3] (fun p wx=>∃ g lu hv wv nv,p=.pointer (some ⟨g,0,none⟩)/\Rep0 Wd r g lu hv wv nv wx)
 case first =>
  go_region_held3 (fun w'=>w'.cell? ⟨w.heap.size,0,none⟩=some (.int .i64 r.me)/\w'.cell? ⟨w.heap.size,1,none⟩=some (.int .i64 r.kept.view)/\w'.cell? ⟨w.heap.size,2,none⟩=some (.int .i64 r.kept.normal)/\w'.cell? ⟨w.heap.size,3,none⟩=some (.bool r.kept.calm)/\w'.cell? ⟨w.heap.size,4,none⟩=some (.slice A0 n0 c0)/\w'.cell? ⟨w.heap.size,5,none⟩=some (.int .i64 r.kept.commit)/\w'.cell? ⟨w.heap.size,6,none⟩=some (.slice A1 n1 c1)/\w'.cell? ⟨w.heap.size,7,none⟩=some (.slice A2 n2 c2)/\w'.cell? ⟨w.heap.size,9,none⟩=some (.slice A4 n4 c4)) (first | (go_split_ands;(try dsimp only);(repeat' apply mB) <;> first | (with_reducible refine ((zAh M4.out ?_).cell sl).trans ?_ <;> first | assumption | omega) | (with_reducible refine (M4.out.cell sl).trans ?_;assumption) | (with_reducible refine ((M4.out.alloc M4.out.size _).cell sl).trans ?_;assumption) | (with_reducible refine (M3.out.cell sl).trans ?_;assumption) | (with_reducible refine ((M3.out.alloc M3.out.size _).cell sl).trans ?_;assumption) | (with_reducible refine (M2.out.cell sl).trans ?_;assumption) | (with_reducible refine ((M2.out.alloc M2.out.size _).cell sl).trans ?_;assumption) | (with_reducible refine (M1.out.cell sl).trans ?_;assumption) | (with_reducible refine ((M1.out.alloc M1.out.size _).cell sl).trans ?_;assumption) | (with_reducible refine ((zAa Wd _).cell sl).trans ?_;assumption)) | go_keep | (go_split_ands;(try dsimp only);(repeat' apply mB) <;> go_keep))
   (first
   | (go_at_call 22;refine (zGo _ r.kept _ B ?_).mono ?_;(first | exact He.out.log.drewN 1 | exact (He.out.log.alloc _).drewN 1 | exact (He.out.log.drewN 1).alloc _);rintro en x1 ⟨⟨v1,rfl,hu⟩,k1⟩
      refine use (P:=Below Wd.heap.size Wd x1) ?_ ?_
      (first | exact (below_drewN (mG _ _) 1).trans k1 | exact (below_drewN (zAa Wd (.cells zR 47)) 1).trans (k1.mono (Nat.le_succ_of_le (mC _))) | exact ((below_drewN (mG _ _) 1).alloc (mC _) (.cells zR 47)).trans (k1.mono (by simp)))
      intro nn1;have N1:=mA nn1;have M1:=mA (nn1);have sz1:=nn1.size;have lw1:w.heap.size < x1.heap.size:=mF sl nn1.size;have ld1:Wd.heap.size<=x1.heap.size:=M1.out.size;clear nn1;refine use (P:=OwnStrs x1 Wd.heap.size v1 r.kept.log) ?_ ?_
      (first | exact hu | exact hu.base_ (by simp))
      clear hu;intro hu;obtain ⟨A5,n5,c5,rfl⟩:=hu.form;have O1:=mA hu
      (try (refine use (P:=Blk x1 Wd.heap.size 47 zR) ?_ ?_;(first | exact ((Blk.new Wd _ _).drew).same k1 | exact (Blk.new (Wd.drewN 1) _ _).same k1);intro Hb;have Ha:=mA Hb;clear Hb))
      clear hu k1)
   | (go_at_call 26;refine (zNp _ r.have_ _ B ?_).mono ?_;(first | exact He.out.have_.below M1.out | exact (He.out.have_.below M1.out).alloc _);rintro en x2 ⟨⟨v2,rfl,hu⟩,k2⟩
      refine use (P:=Below x1.heap.size x1 x2) ?_ ?_
      (first | exact k2 | exact (zAa x1 (.cells zR 47)).trans (k2.mono (by simp)))
      intro nn2;have N2:=mA nn2;have M2:=mA (M1.out.trans (nn2.mono M1.out.size));have sz2:=nn2.size;have lw2:w.heap.size < x2.heap.size:=mF lw1 nn2.size;have ld2:Wd.heap.size<=x2.heap.size:=M2.out.size;clear nn2;refine use (P:=x2.ownsRow x1.heap.size 3 1 v2 r.have_.length (r.have_.map vInt)) ?_ ?_
      (first | exact hu | exact zAl hu (by simp))
      clear hu;intro hu;obtain ⟨A6,c6,rfl,_,_,_,Hk⟩:=zAi hu;have O2:=mA (zAl hu ld1);have L2:=mA Hk;clear Hk
      (try (have Hb:=Ha.out.same N2.out;have Ha:=mA Hb;clear Hb))
      (try (refine use (P:=Blk x2 x1.heap.size 47 zR) ?_ ?_;(first | exact (Blk.new x1 _ _).same k2);intro Hb;have Ha:=mA Hb;clear Hb))
      clear hu k2)
   | (go_at_call 27;refine (zIa _ r.wants _ B ?_).mono ?_;(first | exact He.out.wants.below M2.out | exact (He.out.wants.below M2.out).alloc _);rintro en x3 ⟨⟨v3,rfl,hu⟩,k3⟩
      refine use (P:=Below x2.heap.size x2 x3) ?_ ?_
      (first | exact k3 | exact (zAa x2 (.cells zR 47)).trans (k3.mono (by simp)))
      intro nn3;have N3:=mA nn3;have M3:=mA (M2.out.trans (nn3.mono M2.out.size));have sz3:=nn3.size;have lw3:w.heap.size < x3.heap.size:=mF lw2 nn3.size;have ld3:Wd.heap.size<=x3.heap.size:=M3.out.size;clear nn3;refine use (P:=x3.ownsRow x2.heap.size 4 1 v3 r.wants.length (r.wants.map Value.bool)) ?_ ?_
      (first | exact hu | exact zAl hu (by simp))
      clear hu;intro hu;obtain ⟨A7,c7,rfl,_,_,_,Hl⟩:=zAi hu;have O3:=mA (zAl hu ld2);have L3:=mA Hl;clear Hl
      (try (have Hb:=Ha.out.same N3.out;have Ha:=mA Hb;clear Hb))
      (try (refine use (P:=Blk x3 x2.heap.size 47 zR) ?_ ?_;(first | exact (Blk.new x2 _ _).same k3);intro Hb;have Ha:=mA Hb;clear Hb))
      clear hu k3)
   | (go_at_call 27;refine (zIa _ r.given _ B ?_).mono ?_;(first | exact He.out.given.below M3.out | exact (He.out.given.below M3.out).alloc _);rintro en x4 ⟨⟨v4,rfl,hu⟩,k4⟩
      refine use (P:=Below x3.heap.size x3 x4) ?_ ?_
      (first | exact k4 | exact (zAa x3 (.cells zR 47)).trans (k4.mono (by simp)))
      intro nn4;have N4:=mA nn4;have M4:=mA (M3.out.trans (nn4.mono M3.out.size));have sz4:=nn4.size;have lw4:w.heap.size < x4.heap.size:=mF lw3 nn4.size;have ld4:Wd.heap.size<=x4.heap.size:=M4.out.size;clear nn4;refine use (P:=x4.ownsRow x3.heap.size 4 1 v4 r.given.length (r.given.map Value.bool)) ?_ ?_
      (first | exact hu | exact zAl hu (by simp))
      clear hu;intro hu;obtain ⟨A8,c8,rfl,_,_,_,Hm⟩:=zAi hu;have O4:=mA (zAl hu ld3);have L4:=mA Hm;clear Hm
      (try (have Hb:=Ha.out.same N4.out;have Ha:=mA Hb;clear Hb))
      (try (refine use (P:=Blk x4 x3.heap.size 47 zR) ?_ ?_;(first | exact (Blk.new x3 _ _).same k4);intro Hb;have Ha:=mA Hb;clear Hb))
      (try (have b0:=Ha.out.cell 0;have b1:=Ha.out.cell 1;have b2:=Ha.out.cell 2;have b3:=Ha.out.cell 3;have b4:=Ha.out.cell 4;have b5:=Ha.out.cell 5;have b6:=Ha.out.cell 6;have b7:=Ha.out.cell 7;have b8:=Ha.out.cell 8;have b9:=Ha.out.cell 9;simp only [List.getElem?_toArray,List.getElem?_cons_zero,List.getElem?_cons_succ] at b0 b1 b2 b3 b4 b5 b6 b7 b8 b9;have bz:=Ha.out.frozen;have bl:=Ha.out.lt))
      clear hu k4))
  all_goals
   go_wp2_with fail
   go_meet
   have O1':=(O1.out.below (N2.out.trans (N3.out.mono sz2))).below N4.out;have O2':=zAg (zAg O2.out N3.out) N4.out;have O3':=zAg O3.out N4.out;have Hn:OwnRep0 x4 Wd.heap.size _ _ _ _ r:=⟨O1',⟨O2',HV.out.have_.len⟩,⟨O3',HV.out.wants.len⟩,⟨O4.out,HV.out.given.len⟩,fun g h1 h2=>by have:=(L3.out g h1).2;have:=(L4.out g h2).1;omega⟩;first
    | (refine ⟨x4.heap.size,.slice A5 n5 c5,.slice A6 r.have_.length c6,.slice A7 r.wants.length c7,.slice A8 r.given.length c8,rfl,?_⟩;exact zOv M4.out Hn)
    | (refine ⟨Wd.heap.size,.slice A5 n5 c5,.slice A6 r.have_.length c6,.slice A7 r.wants.length c7,.slice A8 r.given.length c8,rfl,?_⟩;exact zEb M4.out Hn Ha.out (mC _))
    | (refine ⟨x1.heap.size,.slice A5 n5 c5,.slice A6 r.have_.length c6,.slice A7 r.wants.length c7,.slice A8 r.given.length c8,rfl,?_⟩;exact zEb M4.out Hn Ha.out ld1)
    | (refine ⟨x2.heap.size,.slice A5 n5 c5,.slice A6 r.have_.length c6,.slice A7 r.wants.length c7,.slice A8 r.given.length c8,rfl,?_⟩;exact zEb M4.out Hn Ha.out ld2)
    | (refine ⟨x3.heap.size,.slice A5 n5 c5,.slice A6 r.have_.length c6,.slice A7 r.wants.length c7,.slice A8 r.given.length c8,rfl,?_⟩;exact zEb M4.out Hn Ha.out ld3)
 case rest =>
 obtain ⟨g,lu,hv,wv,nv,rfl,hR⟩:=hcut;obtain ⟨A5,n5,c5,rfl⟩:=hR.own.log.form;obtain ⟨A6,n6,c6,rfl⟩:=hR.own.have_.form;obtain ⟨A7,n7,c7,rfl⟩:=hR.own.wants.form;obtain ⟨A8,n8,c8,rfl⟩:=hR.own.given.form;have Hf:=hR.low;have Kb:=HS.out.2.2.size;have hs:=HS.out.1.same Hf;have hz:=HS.out.2.1.same Hf;have hb:=HS.out.2.2.trans (Hf.mono Kb);obtain ⟨⟨Ag,cg,csg,eg,Kw,Kc,Kd,Ke,Kf⟩,Kg⟩:=HV.out.gives;obtain ⟨rfl,rfl,rfl⟩:A3=Ag/\n3=r.gives.length/\c3=cg:=by cases eg;exact ⟨rfl,rfl,rfl⟩
 have hI:GivI w #[.int .i64 r.me,.int .i64 r.kept.view,.int .i64 r.kept.normal,.bool r.kept.calm,.slice A0 n0 c0,.int .i64 r.kept.commit,.slice A1 n1 c1,.slice A2 n2 c2,.slice A3 r.gives.length c3,.slice A4 n4 c4] g r (.slice A5 n5 c5) (.slice A6 n6 c6) (.slice A7 n7 c7) (.slice A8 n8 c8) 0 (.slice none 0 0) [] wc:=⟨hz,hs,hR.out,hR.own.base_ Kb,OwnKs.nil_,by have:=hR.lo;omega,hb,fun c hc=>by cases hc⟩;have HI:=mA hI;have HG:=mA (mB Kc (mB Kd (mB Ke (mB Kf Kg))));unfold R47 at Kg;clear s0 s1 s2 s3 s4 s5 s6 s7 s8 s9 sz sl eg Kc Kd Ke Kf;obtain ⟨s0,s1,s2,s3,s4,s5,s6,s7,s8,s9⟩:=cz10 hs;have sz:=hs.frozen;have sl:=hs.lt;clear hs hz hb hI hR Hf;go_wp2_with fail
 go_loopw [24] (fun i wr=>∃ (k:Nat) (Ak:Option Addr) (nk ck:Nat) (css:List (List Value)),k<=r.gives.length/\i=.int .i64 k/\GivI w #[.int .i64 r.me,.int .i64 r.kept.view,.int .i64 r.kept.normal,.bool r.kept.calm,.slice A0 n0 c0,.int .i64 r.kept.commit,.slice A1 n1 c1,.slice A2 n2 c2,.slice A3 r.gives.length c3,.slice A4 n4 c4] g r (.slice A5 n5 c5) (.slice A6 n6 c6) (.slice A7 n7 c7) (.slice A8 n8 c8) k (.slice Ak nk ck) css wr) (fun i _=>r.gives.length - (intOf i).toNat)
 case atStart=>exact ⟨0,none,0,0,[],mE _,rfl,HI.out⟩
 case round =>
  obtain ⟨k,Ak,nk,ck,css,hk,rfl,hI⟩:=hrel;have Kx:=hI.lo;have Hd:=hI.out;have Hc:=hI.res;have Kn:=hI.arg;clear s0 s1 s2 s3 s4 s5 s6 s7 s8 s9 sz sl;obtain ⟨o0,o1,o2,o3,o4,o5,o6,o7,o8,o9⟩:=cz10 Hd;have oz:=Hd.frozen;have ol:=Hd.lt;have Ko:=Hc.lt;have Hq:=mA hI;by_cases Kh:k < r.gives.length
  ·have Kp:(k:Int) < (r.gives.length:Int):=by omega
   obtain ⟨gg,og,lg,rfl,Ky,k0,k1,k2,k3,k4,Hu⟩:=zDp (k:=k) HG.out.1 HG.out.2.1 (HG.out.2.2.1.below Hq.out.low) (fun j cs x a b=>(HG.out.2.2.2.1 j cs x a b).same (Ts:=[9]) (by simp) (Same.below Hq.out.low)) Kh;obtain ⟨Al,nl,cl,rfl⟩:=Hu.form;have Kq:=mA Hu;clear Hu hI Hd Hc;go_wp2_with fail
   obtain ⟨We,Hr⟩:=mJ (wr.alloc (.cells #[.int .i64 r.gives[k].view,.int .i64 r.gives[k].normal,.bool r.gives[k].calm,.slice Al nl cl,.int .i64 r.gives[k].commit] 42));rw [<- Hr];have Hv:Below wr.heap.size wr We:=by rw [Hr];exact zAa _ _
   have Hw:Blk We wr.heap.size 42 #[.int .i64 r.gives[k].view,.int .i64 r.gives[k].normal,.bool r.gives[k].calm,.slice Al nl cl,.int .i64 r.gives[k].commit]:=by rw [Hr];exact Blk.new _ _ _
   have Hi:=Hq.out.below Hv;have Ki:=Kq.out.below Hv;obtain ⟨q0,q1,q2,q3,q4⟩:=cz5 Hw;have ql:=Hw.lt;clear Hr Hv Hw k0 k1 k2 k3 k4 o0 o1 o2 o3 o4 o5 o6 o7 o8 o9 oz ol;have Hx:=mA Hi;have Kj:=mA Ki;have e1:(r.gives.take k).length=k:=by rw [List.length_take];omega
   have Ho:=mA (show We.ownsRow w.heap.size 42 5 (.slice Ak nk ck) k css.flatten by have h:=Hi.giv.row;rw [e1] at h;exact h);have Hs:=Hi.out;obtain ⟨-,-,-,-,-,-,-,-,e8⟩:=cz9 Hs;have ez:=Hs.frozen;have el:=Hs.lt;clear Hi Ki Hs e1;go_region_law (first
    | (go_simp;go_at_call 22;refine (zGo _ r.gives[k] _ B ?_).mono ?_;(first | exact Kj.out.drewN 1 | exact Kj.out);rintro en x3 ⟨⟨lx,rfl,hx⟩,h3⟩
       refine use (P:=Below We.heap.size We x3) ?_ ?_
       (first | exact (below_drewN (mG _ _) 1).trans h3 | exact h3)
       intro Hp;refine use (P:=OwnStrs x3 We.heap.size lx r.gives[k].log) ?_ ?_
       (exact hx)
       clear hx;intro hx;obtain ⟨Ax,nx,cx,rfl⟩:=hx.form;have HX:=mA hx;have H3:=mA Hp;have f8:=cW Hp el e8;have fz:=((bcell Hp).2 g 8 el).trans (ez 8);have Kr:=Hp.size;have fl:g < x3.heap.size:=mF el Kr;have f8a:∀ o,(x3.alloc o).cell? ⟨g,8,none⟩=some (.slice Ak nk ck):=fun o=>((zAa x3 o).cell (p:=⟨g,8,none⟩) fl).trans f8
       clear hx h3 Hp)
    | (refine zBq _ rfl (.tmp 29) (.tmp 32) 45 rfl zOr w.heap.size (.slice Ak nk ck) k css.flatten rfl ?_ (.slice (some ⟨x3.heap.size,0,none⟩) 1 1) 1 (keptV r.gives[k] (.slice Ax nx cx)) rfl ⟨rfl,.inr ⟨_,_,rfl,?_⟩⟩ ?_ ?_ ?_ ?_ ?_
       ·exact zAg (zAg Ho.out H3.out) (zAa x3 _)
       ·intro j v hj;have Kz:j < 5:=by (rcases Nat.lt_or_ge j 5 with h | h;exact h;rw [List.getElem?_eq_none h] at hj;cases hj)
        have Hy:(⟨x3.heap.size,0,none⟩:Addr).add j=⟨x3.heap.size,j,none⟩:=by (unfold Addr.add;split <;> simp_all)
        rw [Hy,(Blk.new x3 42 #[.int .i64 r.gives[k].view,.int .i64 r.gives[k].normal,.bool r.gives[k].calm,.slice Ax nx cx,.int .i64 r.gives[k].commit]).cell j];simpa [keptV] using hj
       ·(intro v hv;simp only [keptV,List.mem_cons,List.not_mem_nil,or_false] at hv;rcases hv with rfl | rfl | rfl | rfl | rfl <;> rfl)
       ·(unfold maxLen;omega)
       ·omega
       ·(have:=Hx.out.low.size;simp;omega)
       intro v4 x4 h4 Hz _;have Ka:=(Hx.out.below H3.out).below (zAa x3 (.cells #[.int .i64 r.gives[k].view,.int .i64 r.gives[k].normal,.bool r.gives[k].calm,.slice Ax nx cx,.int .i64 r.gives[k].commit] 42));have Kk:=zOw Ka Kh HG.out.2.2.2.2 (HX.out.below (zAa x3 (.cells #[.int .i64 r.gives[k].view,.int .i64 r.gives[k].normal,.bool r.gives[k].calm,.slice Ax nx cx,.int .i64 r.gives[k].commit] 42))) (fun x hl=>(Hx.out.own.log.1.lt x hl).2) h4 Hz;have Hh:=zAg (zAg Ho.out H3.out) (zAa x3 (.cells #[.int .i64 r.gives[k].view,.int .i64 r.gives[k].normal,.bool r.gives[k].calm,.slice Ax nx cx,.int .i64 r.gives[k].commit] 42));have Ht:=zEo Ka.out Hh (by decide) Hz;obtain ⟨-,-,-,-,-,-,-,-,g8⟩:=cz9 Ht;have gz:=Ht.frozen;have gl:=Ht.lt;obtain ⟨A9,c9,rfl,_,_,_,_⟩:=zAi h4;have Ks:=mA Kk;clear Ka Kk h4 Hz Ht Hh))
   all_goals (go_wp2;go_roundw)
   all_goals first
    | exact ⟨k+1,A9,k+1,c9,_,by omega,rfl,Ks.out⟩
    | (simp [intOf];omega)
  have Kl:k=r.gives.length:=by omega
  have Kt:¬ (k:Int) < (r.gives.length:Int):=by omega
  have Hi:=hI;have e1:r.gives.take k=r.gives:=by rw [Kl,List.take_length]
  have HO:=mA (show OwnRep wr w.heap.size (.slice A5 n5 c5) (.slice A6 n6 c6) (.slice A7 n7 c7) (.slice Ak nk ck) (.slice A8 n8 c8) r from ⟨hI.own,css,e1 ▸ hI.giv⟩);have Ku:=mA (show ApG wr w.heap.size (.slice Ak nk ck) r.gives (.slice A5 n5 c5) from ⟨css,e1 ▸ hI.giv,hI.apt⟩);have Km:=mA Hc;have Hg:=zAm (a0:=.int .i64 r.me) (a1:=.int .i64 r.kept.view) (a2:=.int .i64 r.kept.normal) (a3:=.bool r.kept.calm) (a4:=.slice A5 n5 c5) (a5:=.int .i64 r.kept.commit) (a6:=.slice A6 n6 c6) (a7:=.slice A7 n7 c7) (a8:=.slice Ak nk ck) (a9:=.slice A8 n8 c8) Hc;obtain ⟨z0,z1,z2,z3,z4,z5,z6,z7,z8,z9⟩:=cz10 Hc;have zz:=Hc.frozen;have zl:=Hc.lt;obtain ⟨r0,r1,r2,r3,r4,r5,r6,r7,r8,r9⟩:=cz10 Hg;have rz:=Hg.frozen;have rl:=Hg.lt;clear hI Hd Hi Kl hk e1 Hg Hc;go_wp2
  refine bodyPost_ret (v:=.agg #[.int .i64 r.me,.int .i64 r.kept.view,.int .i64 r.kept.normal,.bool r.kept.calm,.slice A5 n5 c5,.int .i64 r.kept.commit,.slice A6 n6 c6,.slice A7 n7 c7,.slice Ak nk ck,.slice A8 n8 c8]) (by simp [results,Tryz.results10,go_sem,r0,r1,r2,r3,r4,r5,r6,r7,r8,r9]) rfl ?_;exact ⟨⟨_,_,_,_,_,rfl,HO.out.same (Same.sets10 Km.out (mE _) (by decide)),Ku.out.same (Same.sets10 Km.out (mE _) (by decide))⟩,zAh Hq.out.low (Nat.le_succ _)⟩
theorem zU2 {P:Prop} (h:P:=by
 (first | exact mC _ | exact Nat.le_succ_of_le (mC _) | simp)):P:=h
theorem zCs (A0:Option Addr) (n0 c0:Nat) (A1:Option Addr) (c1:Nat) (A2:Option Addr) (c2:Nat) (A3:Option Addr) (n3 c3:Nat) (A4:Option Addr) (c4:Nat) (r:Scu.Replica) (w:World) (B:Nat) (hr:IsRep w B (.slice A0 n0 c0) (.slice A1 r.have_.length c1) (.slice A2 r.wants.length c2) (.slice A3 n3 c3) (.slice A4 r.given.length c4) r) :
 Calls Tryz.prog 16 #[.agg #[.int .i64 r.me,.int .i64 r.kept.view,.int .i64 r.kept.normal,.bool r.kept.calm,.slice A0 n0 c0,.int .i64 r.kept.commit,.slice A1 r.have_.length c1,.slice A2 r.wants.length c2,.slice A3 n3 c3,.slice A4 r.given.length c4]] w fun e w'=>RepRet w' w.heap.size r e/\Below w.heap.size w w':=by
 have HV:=mA hr;clear hr;go_enter Tryz.func16,Tryz.ntmps16
 go_upto_region 1 with fail
 obtain ⟨Wd,Hk⟩:=mJ ((w.alloc (.cells #[.int .i64 r.me,.int .i64 r.kept.view,.int .i64 r.kept.normal,.bool r.kept.calm,.slice A0 n0 c0,.int .i64 r.kept.commit,.slice A1 r.have_.length c1,.slice A2 r.wants.length c2,.slice A3 n3 c3,.slice A4 r.given.length c4] 47)).alloc (.cells zR 47));rw [<- Hk];have hb:Below w.heap.size w Wd:=by rw [Hk];exact (zAa w _).alloc (by simp) _
 have hs:Blk Wd w.heap.size 47 #[.int .i64 r.me,.int .i64 r.kept.view,.int .i64 r.kept.normal,.bool r.kept.calm,.slice A0 n0 c0,.int .i64 r.kept.commit,.slice A1 r.have_.length c1,.slice A2 r.wants.length c2,.slice A3 n3 c3,.slice A4 r.given.length c4]:=by rw [Hk];exact (Blk.new w _ _).alloc _
 have hz:Blk Wd (w.heap.size+1) 47 zR:=by rw [Hk];exact Blk.new' (by simp)
 obtain ⟨s0,s1,s2,s3,s4,s5,s6,s7,s8,s9⟩:=cz10 hs;have sz:=hs.frozen;have sl:=hs.lt;have Vh:=hz.lt;have Hi:=mA (HV.out.below hb);have HS:=mA (mB hs (mB hz hb));clear hs hz hb Hk;obtain ⟨⟨B2,d2,f2,_,Ka⟩,Kl⟩:=Hi.out.have_;obtain ⟨rfl,rfl⟩:A1=B2/\c1=d2:=by cases f2;exact ⟨rfl,rfl⟩
 have Hl:=mA Ka;have Kb:=mA (show A1=none->r.have_.length=0 from fun e=>by subst e;have:=zBi Ka;simpa using this);have Hm:=mA (show 0+r.have_.length<=maxLen/\(0+r.have_.length)*8<=140737488355328 by unfold R47 at Kl;unfold maxLen;omega);clear f2 Ka Kl;obtain ⟨⟨B3,d3,f3,_,Kc⟩,Km⟩:=Hi.out.wants;obtain ⟨rfl,rfl⟩:A2=B3/\c2=d3:=by cases f3;exact ⟨rfl,rfl⟩
 have Hn:=mA Kc;have Kd:=mA (show A2=none->r.wants.length=0 from fun e=>by subst e;have:=zBi Kc;simpa using this);have Ho:=mA (show 0+r.wants.length<=maxLen/\(0+r.wants.length)*1<=140737488355328 by unfold R47 at Km;unfold maxLen;omega);clear f3 Kc Km;obtain ⟨⟨B4,d4,f4,_,Ke⟩,Kn⟩:=Hi.out.given;obtain ⟨rfl,rfl⟩:A4=B4/\c4=d4:=by cases f4;exact ⟨rfl,rfl⟩
 have Hp:=mA Ke;have Kf:=mA (show A4=none->r.given.length=0 from fun e=>by subst e;have:=zBi Ke;simpa using this);have Hq:=mA (show 0+r.given.length<=maxLen/\(0+r.given.length)*1<=140737488355328 by unfold R47 at Kn;unfold maxLen;omega);clear f4 Ke Kn;go_cut [3] (fun p wx=>∃ g lu hv wv nv,p=.pointer (some ⟨g,0,none⟩)/\Rep0 Wd r g lu hv wv nv wx)
 case first =>
  go_region_held3 (fun w'=>w'.cell? ⟨w.heap.size,0,none⟩=some (.int .i64 r.me)/\w'.cell? ⟨w.heap.size,1,none⟩=some (.int .i64 r.kept.view)/\w'.cell? ⟨w.heap.size,2,none⟩=some (.int .i64 r.kept.normal)/\w'.cell? ⟨w.heap.size,3,none⟩=some (.bool r.kept.calm)/\w'.cell? ⟨w.heap.size,4,none⟩=some (.slice A0 n0 c0)/\w'.cell? ⟨w.heap.size,5,none⟩=some (.int .i64 r.kept.commit)/\w'.cell? ⟨w.heap.size,6,none⟩=some (.slice A1 r.have_.length c1)/\w'.cell? ⟨w.heap.size,7,none⟩=some (.slice A2 r.wants.length c2)/\w'.cell? ⟨w.heap.size,9,none⟩=some (.slice A4 r.given.length c4)) (first | (go_split_ands;(try dsimp only);(repeat' apply mB) <;> first | (with_reducible refine ((zAh M4.out ?_).cell sl).trans ?_ <;> first | assumption | omega) | (with_reducible refine (M4.out.cell sl).trans ?_;assumption) | (with_reducible refine ((M4.out.alloc M4.out.size _).cell sl).trans ?_;assumption) | (with_reducible refine (M3.out.cell sl).trans ?_;assumption) | (with_reducible refine ((M3.out.alloc M3.out.size _).cell sl).trans ?_;assumption) | (with_reducible refine (M2.out.cell sl).trans ?_;assumption) | (with_reducible refine ((M2.out.alloc M2.out.size _).cell sl).trans ?_;assumption) | (with_reducible refine (M1.out.cell sl).trans ?_;assumption) | (with_reducible refine ((M1.out.alloc M1.out.size _).cell sl).trans ?_;assumption) | (with_reducible refine ((zAa Wd _).cell sl).trans ?_;assumption)) | go_keep | (go_split_ands;(try dsimp only);(repeat' apply mB) <;> go_keep))
   (first
   | (go_at_call 30;refine (zHr _ r.kept _ B ?_).mono ?_;(first | exact Hi.out.log.drewN 1 | exact (Hi.out.log.alloc _).drewN 1 | exact (Hi.out.log.drewN 1).alloc _);rintro en x1 ⟨⟨v1,rfl,hu⟩,k1⟩
      refine use (P:=Below Wd.heap.size Wd x1) ?_ ?_
      (first | exact (below_drewN (mG _ _) 1).trans k1 | exact (below_drewN (zAa Wd (.cells zR 47)) 1).trans (k1.mono (Nat.le_succ_of_le (mC _))) | exact ((below_drewN (mG _ _) 1).alloc (mC _) (.cells zR 47)).trans (k1.mono (by simp)))
      intro nn1;have N1:=mA nn1;have M1:=mA (nn1);have sz1:=nn1.size;have lw1:w.heap.size < x1.heap.size:=mF sl nn1.size;have ld1:Wd.heap.size<=x1.heap.size:=M1.out.size;clear nn1;refine use (P:=OwnStrs x1 Wd.heap.size v1 r.kept.log) ?_ ?_
      (first | exact hu | exact hu.base_ (by simp))
      clear hu;intro hu;obtain ⟨A5,n5,c5,rfl⟩:=hu.form;have O1:=mA hu
      (try (refine use (P:=Blk x1 Wd.heap.size 47 zR) ?_ ?_;(first | exact ((Blk.new Wd _ _).drew).same k1 | exact (Blk.new (Wd.drewN 1) _ _).same k1);intro Hb;have Ha:=mA Hb;clear Hb))
      clear hu k1)
   | (refine zBq _ rfl (.const (.slice none 0 0)) (.tmp 11) 43 rfl zRi x1.heap.size _ 0 [] rfl (World.ownsRow_nil _ _ _ _) (.slice A1 r.have_.length c1) r.have_.length (r.have_.map vInt) rfl ?_ (zOs _) Hm.out.1 Hm.out.2 ?_ ?_
      ·refine zAq (size:=1) (B:=B) (t:=3) ?_ (by simp) Kb.out
       (first | exact Hl.out.below M1.out | exact (Hl.out.below M1.out).alloc _)
      ·exact zU2
      intro v2 x2 hu hg _;have k2:=zAk hg (mC _) (fun q hq=>by cases hq);refine use (P:=Below x1.heap.size x1 x2) ?_ ?_
      (first | exact k2 | exact (zAa x1 (.cells zR 47)).trans (k2.mono (by simp)))
      intro nn2;have N2:=mA nn2;have M2:=mA (M1.out.trans (nn2.mono M1.out.size));have sz2:=nn2.size;have lw2:w.heap.size < x2.heap.size:=mF lw1 nn2.size;have ld2:Wd.heap.size<=x2.heap.size:=M2.out.size;clear nn2;refine use (P:=x2.ownsRow x1.heap.size 3 1 v2 r.have_.length (r.have_.map vInt)) ?_ ?_
      (simpa only [Nat.zero_add,List.nil_append] using hu)
      clear hu;intro hu;obtain ⟨A6,c6,rfl,_,_,_,Hr⟩:=zAi hu;have O2:=mA (zAl hu ld1);have L2:=mA Hr;clear Hr
      (try (have Hb:=Ha.out.same N2.out;have Ha:=mA Hb;clear Hb))
      (try (refine use (P:=Blk x2 x1.heap.size 47 zR) ?_ ?_;(first | exact (Blk.new x1 _ _).same k2);intro Hb;have Ha:=mA Hb;clear Hb))
      clear hu hg k2)
   | (refine zBq _ rfl (.const (.slice none 0 0)) (.tmp 14) 44 rfl zLa x2.heap.size _ 0 [] rfl (World.ownsRow_nil _ _ _ _) (.slice A2 r.wants.length c2) r.wants.length (r.wants.map Value.bool) rfl ?_ (zJf _) Ho.out.1 Ho.out.2 ?_ ?_
      ·refine zAq (size:=1) (B:=B) (t:=4) ?_ (by simp) Kd.out
       (first | exact Hn.out.below M2.out | exact (Hn.out.below M2.out).alloc _)
      ·exact zU2
      intro v3 x3 hu hg _;have k3:=zAk hg (mC _) (fun q hq=>by cases hq);refine use (P:=Below x2.heap.size x2 x3) ?_ ?_
      (first | exact k3 | exact (zAa x2 (.cells zR 47)).trans (k3.mono (by simp)))
      intro nn3;have N3:=mA nn3;have M3:=mA (M2.out.trans (nn3.mono M2.out.size));have sz3:=nn3.size;have lw3:w.heap.size < x3.heap.size:=mF lw2 nn3.size;have ld3:Wd.heap.size<=x3.heap.size:=M3.out.size;clear nn3;refine use (P:=x3.ownsRow x2.heap.size 4 1 v3 r.wants.length (r.wants.map Value.bool)) ?_ ?_
      (simpa only [Nat.zero_add,List.nil_append] using hu)
      clear hu;intro hu;obtain ⟨A7,c7,rfl,_,_,_,Hs⟩:=zAi hu;have O3:=mA (zAl hu ld2);have L3:=mA Hs;clear Hs
      (try (have Hb:=Ha.out.same N3.out;have Ha:=mA Hb;clear Hb))
      (try (refine use (P:=Blk x3 x2.heap.size 47 zR) ?_ ?_;(first | exact (Blk.new x2 _ _).same k3);intro Hb;have Ha:=mA Hb;clear Hb))
      clear hu hg k3)
   | (refine zBq _ rfl (.const (.slice none 0 0)) (.tmp 17) 44 rfl zLa x3.heap.size _ 0 [] rfl (World.ownsRow_nil _ _ _ _) (.slice A4 r.given.length c4) r.given.length (r.given.map Value.bool) rfl ?_ (zJf _) Hq.out.1 Hq.out.2 ?_ ?_
      ·refine zAq (size:=1) (B:=B) (t:=4) ?_ (by simp) Kf.out
       (first | exact Hp.out.below M3.out | exact (Hp.out.below M3.out).alloc _)
      ·exact zU2
      intro v4 x4 hu hg _;have k4:=zAk hg (mC _) (fun q hq=>by cases hq);refine use (P:=Below x3.heap.size x3 x4) ?_ ?_
      (first | exact k4 | exact (zAa x3 (.cells zR 47)).trans (k4.mono (by simp)))
      intro nn4;have N4:=mA nn4;have M4:=mA (M3.out.trans (nn4.mono M3.out.size));have sz4:=nn4.size;have lw4:w.heap.size < x4.heap.size:=mF lw3 nn4.size;have ld4:Wd.heap.size<=x4.heap.size:=M4.out.size;clear nn4;refine use (P:=x4.ownsRow x3.heap.size 4 1 v4 r.given.length (r.given.map Value.bool)) ?_ ?_
      (simpa only [Nat.zero_add,List.nil_append] using hu)
      clear hu;intro hu;obtain ⟨A8,c8,rfl,_,_,_,Ht⟩:=zAi hu;have O4:=mA (zAl hu ld3);have L4:=mA Ht;clear Ht
      (try (have Hb:=Ha.out.same N4.out;have Ha:=mA Hb;clear Hb))
      (try (refine use (P:=Blk x4 x3.heap.size 47 zR) ?_ ?_;(first | exact (Blk.new x3 _ _).same k4);intro Hb;have Ha:=mA Hb;clear Hb))
      (try (have b0:=Ha.out.cell 0;have b1:=Ha.out.cell 1;have b2:=Ha.out.cell 2;have b3:=Ha.out.cell 3;have b4:=Ha.out.cell 4;have b5:=Ha.out.cell 5;have b6:=Ha.out.cell 6;have b7:=Ha.out.cell 7;have b8:=Ha.out.cell 8;have b9:=Ha.out.cell 9;simp only [List.getElem?_toArray,List.getElem?_cons_zero,List.getElem?_cons_succ] at b0 b1 b2 b3 b4 b5 b6 b7 b8 b9;have bz:=Ha.out.frozen;have bl:=Ha.out.lt))
      clear hu hg k4))
  all_goals
   go_wp2_with fail
   go_meet
   have O1':=(O1.out.below (N2.out.trans (N3.out.mono sz2))).below N4.out;have O2':=zAg (zAg O2.out N3.out) N4.out;have O3':=zAg O3.out N4.out;have Hu:OwnRep0 x4 Wd.heap.size _ _ _ _ r:=⟨O1',⟨O2',HV.out.have_.len⟩,⟨O3',HV.out.wants.len⟩,⟨O4.out,HV.out.given.len⟩,fun g h1 h2=>by have:=(L3.out g h1).2;have:=(L4.out g h2).1;omega⟩;first
    | (refine ⟨x4.heap.size,.slice A5 n5 c5,.slice A6 r.have_.length c6,.slice A7 r.wants.length c7,.slice A8 r.given.length c8,rfl,?_⟩;exact zOv M4.out Hu)
    | (refine ⟨Wd.heap.size,.slice A5 n5 c5,.slice A6 r.have_.length c6,.slice A7 r.wants.length c7,.slice A8 r.given.length c8,rfl,?_⟩;exact zEb M4.out Hu Ha.out (mC _))
    | (refine ⟨x1.heap.size,.slice A5 n5 c5,.slice A6 r.have_.length c6,.slice A7 r.wants.length c7,.slice A8 r.given.length c8,rfl,?_⟩;exact zEb M4.out Hu Ha.out ld1)
    | (refine ⟨x2.heap.size,.slice A5 n5 c5,.slice A6 r.have_.length c6,.slice A7 r.wants.length c7,.slice A8 r.given.length c8,rfl,?_⟩;exact zEb M4.out Hu Ha.out ld2)
    | (refine ⟨x3.heap.size,.slice A5 n5 c5,.slice A6 r.have_.length c6,.slice A7 r.wants.length c7,.slice A8 r.given.length c8,rfl,?_⟩;exact zEb M4.out Hu Ha.out ld3)
 case rest =>
 obtain ⟨g,lu,hv,wv,nv,rfl,hR⟩:=hcut;obtain ⟨A5,n5,c5,rfl⟩:=hR.own.log.form;obtain ⟨A6,n6,c6,rfl⟩:=hR.own.have_.form;obtain ⟨A7,n7,c7,rfl⟩:=hR.own.wants.form;obtain ⟨A8,n8,c8,rfl⟩:=hR.own.given.form;have He:=hR.low;have Ko:=HS.out.2.2.size;have hs:=HS.out.1.same He;have hz:=HS.out.2.1.same He;have hb:=HS.out.2.2.trans (He.mono Ko);obtain ⟨⟨Ag,cg,csg,eg,Vi,Kp,Kq,Kr,Ks⟩,Kt⟩:=HV.out.gives;obtain ⟨rfl,rfl,rfl⟩:A3=Ag/\n3=r.gives.length/\c3=cg:=by cases eg;exact ⟨rfl,rfl,rfl⟩
 have hI:GivI w (rN r A0 n0 c0 A1 c1 A2 c2 A3 c3 A4 c4) g r (.slice A5 n5 c5) (.slice A6 n6 c6) (.slice A7 n7 c7) (.slice A8 n8 c8) 0 (.slice none 0 0) [] wc:=⟨hz,hs,hR.out,hR.own.base_ Ko,OwnKs.nil_,by have:=hR.lo;omega,hb,fun c hc=>by cases hc⟩;have HI:=mA hI;have HG:=mA (mB Kp (mB Kq (mB Kr (mB Ks Kt))));unfold R47 at Kt;clear s0 s1 s2 s3 s4 s5 s6 s7 s8 s9 sz sl eg Kp Kq Kr Ks;obtain ⟨s0,s1,s2,s3,s4,s5,s6,s7,s8,s9⟩:=cz10 hs;have sz:=hs.frozen;have sl:=hs.lt;clear hs hz hb hI hR He;go_wp2_with fail
 go_loopw [4] (fun i wr=>∃ (k:Nat) (Ak:Option Addr) (nk ck:Nat) (css:List (List Value)),k<=r.gives.length/\i=.int .i64 k/\GivI w (rN r A0 n0 c0 A1 c1 A2 c2 A3 c3 A4 c4) g r (.slice A5 n5 c5) (.slice A6 n6 c6) (.slice A7 n7 c7) (.slice A8 n8 c8) k (.slice Ak nk ck) css wr) (fun i _=>r.gives.length - (intOf i).toNat)
 case atStart=>exact ⟨0,none,0,0,[],mE _,rfl,HI.out⟩
 case round =>
  obtain ⟨k,Ak,nk,ck,css,hk,rfl,hI⟩:=hrel;have Vj:=hI.lo;have Hd:=hI.out;have Hc:=hI.res;have Hf:=hI.arg;clear s0 s1 s2 s3 s4 s5 s6 s7 s8 s9 sz sl;obtain ⟨o0,o1,o2,o3,o4,o5,o6,o7,o8,o9⟩:=cz10 Hd;have oz:=Hd.frozen;have ol:=Hd.lt;have Va:=Hc.lt;have Hx:=mA hI;obtain ⟨s0,s1,s2,s3,s4,s5,s6,s7,s8,s9⟩:=cz10 Hf;have sz:=Hf.frozen;have sl:=Hf.lt;clear Hf;by_cases Ku:k < r.gives.length
  ·have Vb:(k:Int) < (r.gives.length:Int):=by omega
   obtain ⟨gg,og,lg,rfl,Vk,k0,k1,k2,k3,k4,Kg⟩:=zDp (k:=k) HG.out.1 HG.out.2.1 (HG.out.2.2.1.below Hx.out.low) (fun j cs x a b=>(HG.out.2.2.2.1 j cs x a b).same (Ts:=[9]) (by simp) (Same.below Hx.out.low)) Ku;obtain ⟨Al,nl,cl,rfl⟩:=Kg.form;have Vc:=mA Kg;clear Kg hI Hd Hc;go_wp2_with fail
   have Hj:=Hx.out;have Kv:=Vc.out;have Kh:=mA Hj;have Kw:=mA Kv;have e1:(r.gives.take k).length=k:=by rw [List.length_take];omega
   have Hv:=mA (show wr.ownsRow w.heap.size 42 5 (.slice Ak nk ck) k css.flatten by have h:=Hj.giv.row;rw [e1] at h;exact h);have Hy:=Hj.out;obtain ⟨-,-,-,-,-,-,-,-,e8⟩:=cz9 Hy;have ez:=Hy.frozen;have el:=Hy.lt;clear Hj Kv Hy e1;go_region_law (first
    | (go_simp;go_at_call 30;refine (zHr _ r.gives[k] _ B ?_).mono ?_;(first | exact Kw.out.drewN 1 | exact Kw.out);rintro en x3 ⟨⟨lx,rfl,hx⟩,h3⟩
       refine use (P:=Below wr.heap.size wr x3) ?_ ?_
       (first | exact (below_drewN (mG _ _) 1).trans h3 | exact h3)
       intro Hw;refine use (P:=OwnStrs x3 wr.heap.size lx r.gives[k].log) ?_ ?_
       (exact hx)
       clear hx;intro hx;obtain ⟨Ax,nx,cx,rfl⟩:=hx.form;have HX:=mA hx;have H3:=mA Hw;have f8:=cW Hw el e8;have fz:=((bcell Hw).2 g 8 el).trans (ez 8);have Vd:=Hw.size;have fl:g < x3.heap.size:=mF el Vd;have f8a:∀ o,(x3.alloc o).cell? ⟨g,8,none⟩=some (.slice Ak nk ck):=fun o=>((zAa x3 o).cell (p:=⟨g,8,none⟩) fl).trans f8
       clear hx h3 Hw)
    | (refine zBq _ rfl (.tmp 28) (.tmp 35) 45 rfl zOr w.heap.size (.slice Ak nk ck) k css.flatten rfl ?_ (.slice (some ⟨x3.heap.size,0,none⟩) 1 1) 1 (keptV r.gives[k] (.slice Ax nx cx)) rfl ⟨rfl,.inr ⟨_,_,rfl,?_⟩⟩ ?_ ?_ ?_ ?_ ?_
       ·exact zAg (zAg Hv.out H3.out) (zAa x3 _)
       ·intro j v hj;have Vl:j < 5:=by (rcases Nat.lt_or_ge j 5 with h | h;exact h;rw [List.getElem?_eq_none h] at hj;cases hj)
        have Ki:(⟨x3.heap.size,0,none⟩:Addr).add j=⟨x3.heap.size,j,none⟩:=by (unfold Addr.add;split <;> simp_all)
        rw [Ki,(Blk.new x3 42 #[.int .i64 r.gives[k].view,.int .i64 r.gives[k].normal,.bool r.gives[k].calm,.slice Ax nx cx,.int .i64 r.gives[k].commit]).cell j];simpa [keptV] using hj
       ·(intro v hv;simp only [keptV,List.mem_cons,List.not_mem_nil,or_false] at hv;rcases hv with rfl | rfl | rfl | rfl | rfl <;> rfl)
       ·(unfold maxLen;omega)
       ·omega
       ·(have:=Kh.out.low.size;simp;omega)
       intro v4 x4 h4 Kj _;have Kk:=(Kh.out.below H3.out).below (zAa x3 (.cells #[.int .i64 r.gives[k].view,.int .i64 r.gives[k].normal,.bool r.gives[k].calm,.slice Ax nx cx,.int .i64 r.gives[k].commit] 42));have Kx:=zOw Kk Ku HG.out.2.2.2.2 (HX.out.below (zAa x3 (.cells #[.int .i64 r.gives[k].view,.int .i64 r.gives[k].normal,.bool r.gives[k].calm,.slice Ax nx cx,.int .i64 r.gives[k].commit] 42))) (fun x hl=>(Kh.out.own.log.1.lt x hl).2) h4 Kj;have Hh:=zAg (zAg Hv.out H3.out) (zAa x3 (.cells #[.int .i64 r.gives[k].view,.int .i64 r.gives[k].normal,.bool r.gives[k].calm,.slice Ax nx cx,.int .i64 r.gives[k].commit] 42));have Hz:=zEo Kk.out Hh (by decide) Kj;obtain ⟨-,-,-,-,-,-,-,-,g8⟩:=cz9 Hz;have gz:=Hz.frozen;have gl:=Hz.lt;obtain ⟨A9,c9,rfl,_,_,_,_⟩:=zAi h4;have Ve:=mA Kx;clear Kk Kx h4 Kj Hz Hh))
   all_goals (go_wp2;go_roundw)
   all_goals first
    | exact ⟨k+1,A9,k+1,c9,_,by omega,rfl,Ve.out⟩
    | (simp [intOf];omega)
  have Ky:k=r.gives.length:=by omega
  have Vf:¬ (k:Int) < (r.gives.length:Int):=by omega
  have Hj:=hI;have e1:r.gives.take k=r.gives:=by rw [Ky,List.take_length]
  have HO:=mA (show OwnRep wr w.heap.size (.slice A5 n5 c5) (.slice A6 n6 c6) (.slice A7 n7 c7) (.slice Ak nk ck) (.slice A8 n8 c8) r from ⟨hI.own,css,e1 ▸ hI.giv⟩);have Vg:=mA (show ApG wr w.heap.size (.slice Ak nk ck) r.gives (.slice A5 n5 c5) from ⟨css,e1 ▸ hI.giv,hI.apt⟩);have Kz:=mA Hc;have Hg:=zAm (a0:=.int .i64 r.me) (a1:=.int .i64 r.kept.view) (a2:=.int .i64 r.kept.normal) (a3:=.bool r.kept.calm) (a4:=.slice A5 n5 c5) (a5:=.int .i64 r.kept.commit) (a6:=.slice A6 n6 c6) (a7:=.slice A7 n7 c7) (a8:=.slice Ak nk ck) (a9:=.slice A8 n8 c8) Hc;obtain ⟨z0,z1,z2,z3,z4,z5,z6,z7,z8,z9⟩:=cz10 Hc;have zz:=Hc.frozen;have zl:=Hc.lt;obtain ⟨r0,r1,r2,r3,r4,r5,r6,r7,r8,r9⟩:=cz10 Hg;have rz:=Hg.frozen;have rl:=Hg.lt;clear hI Hd Hj Ky hk e1 Hg Hc;go_wp2
  refine bodyPost_ret (v:=.agg #[.int .i64 r.me,.int .i64 r.kept.view,.int .i64 r.kept.normal,.bool r.kept.calm,.slice A5 n5 c5,.int .i64 r.kept.commit,.slice A6 n6 c6,.slice A7 n7 c7,.slice Ak nk ck,.slice A8 n8 c8]) (by simp [results,Tryz.results16,go_sem,r0,r1,r2,r3,r4,r5,r6,r7,r8,r9]) rfl ?_;exact ⟨⟨_,_,_,_,_,rfl,HO.out.same (Same.sets10 Kz.out (mE _) (by decide)),Vg.out.same (Same.sets10 Kz.out (mE _) (by decide))⟩,zAh Hx.out.low (Nat.le_succ _)⟩
theorem zT2 {P:Prop} (h:P:=by
 go_wp2_with fail
 go_quiet (fail)
 go_wp2_with fail
 exact ⟨⟨k+1,Hf,by go_num,below_drewN Hg.out _⟩,by simp only [intOf];omega⟩):P:=h
theorem zRp (A0:Option Addr) (n0 c0:Nat) (A1:Option Addr) (c1:Nat) (A2:Option Addr) (c2:Nat) (A3:Option Addr) (c3:Nat) (A4:Option Addr) (c4:Nat) (E0:Option Addr) (m0 d0:Nat) (E1:Option Addr) (d1:Nat) (E2:Option Addr) (d2:Nat) (E3:Option Addr) (d3:Nat) (E4:Option Addr) (d4:Nat) (r:Scu.Replica) (w:World) (B B':Nat)
 (hx:IsRep w B (.slice A0 n0 c0) (.slice A1 r.have_.length c1) (.slice A2 r.wants.length c2) (.slice A3 r.gives.length c3) (.slice A4 r.given.length c4) r)
 (hy:IsRep w B' (.slice E0 m0 d0) (.slice E1 r.have_.length d1) (.slice E2 r.wants.length d2) (.slice E3 r.gives.length d3) (.slice E4 r.given.length d4) r) :
 Calls Tryz.prog 18 #[.agg #[.int .i64 r.me,.int .i64 r.kept.view,.int .i64 r.kept.normal,.bool r.kept.calm,.slice A0 n0 c0,.int .i64 r.kept.commit,.slice A1 r.have_.length c1,.slice A2 r.wants.length c2,.slice A3 r.gives.length c3,.slice A4 r.given.length c4],.agg #[.int .i64 r.me,.int .i64 r.kept.view,.int .i64 r.kept.normal,.bool r.kept.calm,.slice E0 m0 d0,.int .i64 r.kept.commit,.slice E1 r.have_.length d1,.slice E2 r.wants.length d2,.slice E3 r.gives.length d3,.slice E4 r.given.length d4]] w fun e w'=>e=.returned (.bool true)/\Below w.heap.size w w':=by
 have HX:=mA hx;have HY:=mA hy;obtain ⟨⟨_,_,e,_,hd⟩,Kc⟩:=hx.have_;cases e;have Kd:=mA hd;obtain ⟨⟨_,_,e,_,hd⟩,_⟩:=hy.have_;cases e;have Ke:=mA hd;obtain ⟨⟨_,_,e,_,hd⟩,Kf⟩:=hx.wants;cases e;have Kg:=mA hd;obtain ⟨⟨_,_,e,_,hd⟩,_⟩:=hy.wants;cases e;have Kh:=mA hd;obtain ⟨⟨_,_,e,_,hd⟩,Ki⟩:=hx.given;cases e;have Kj:=mA hd;obtain ⟨⟨_,_,e,_,hd⟩,_⟩:=hy.given;cases e;have Kk:=mA hd;obtain ⟨⟨_,_,csx,e,_,Hr,Hs,Ht,Hu⟩,Kl⟩:=hx.gives;cases e;obtain ⟨⟨_,_,csy,e,_,Hv,Hw,Hx,Hy⟩,_⟩:=hy.gives;cases e;have Hl:=mA (mB Hr (mB Hs (mB Ht Hu)));have Hm:=mA (mB Hv (mB Hw (mB Hx Hy)));unfold R47 at Kc Kf Kl Ki;clear hx hy Hr Hs Ht Hu Hv Hw Hx Hy;go_enter Tryz.func18,Tryz.ntmps18
 go_wp2_with fail
 have Hj:Below w.heap.size w ((w.alloc (.cells (rN r A0 n0 c0 A1 c1 A2 c2 A3 c3 A4 c4) 47)).alloc (.cells (rN r E0 m0 d0 E1 d1 E2 d2 E3 d3 E4 d4) 47)):=(zAa w _).alloc (by simp) _;refine (zHs _ _ r.kept r.kept _ B B' (HX.out.log.below Hj) (HY.out.log.below Hj)).mono ?_;rintro e w1 ⟨rfl,h1⟩;simp only [decide_true]
 have Hn:Blk w1 w.heap.size 47 (rN r A0 n0 c0 A1 c1 A2 c2 A3 c3 A4 c4):=((Blk.new w _ _).alloc _).same h1;have Ho:Blk w1 (w.heap.size+1) 47 (rN r E0 m0 d0 E1 d1 E2 d2 E3 d3 E4 d4):=(Blk.new' (by simp)).same h1;have Hz:=Hj.trans (h1.mono Hj.size);obtain ⟨-,-,-,-,-,-,s0,s1,s2,s3⟩:=cz10 Hn;have sl:=Hn.lt;obtain ⟨-,-,-,-,-,-,t0,t1,t2,t3⟩:=cz10 Ho;have tl:=Ho.lt;have HP:=mA (mB Hn (mB Ho Hz));clear Hn Ho Hj Hz h1;go_wp2_with fail
 clear s0 s1 s2 s3 sl t0 t1 t2 t3 tl;go_loopw [5] (fun i wr=>∃ k:Nat,k<=r.have_.length/\i=.int .i64 k/\Below w1.heap.size w1 wr) (fun i _=>r.have_.length - (intOf i).toNat)
 case atStart=>exact ⟨0,mE _,rfl,mG _ _⟩
 case round =>
  obtain ⟨k,hk,rfl,Ha⟩:=hrel;have Hd:=HP.out.1.same Ha;have He:=HP.out.2.1.same Ha;obtain ⟨-,-,-,-,-,-,p0,p1,p2,p3⟩:=cz10 Hd;have pl:=Hd.lt;obtain ⟨-,-,-,-,-,-,q0,q1,q2,q3⟩:=cz10 He;have ql:=He.lt;have Hh:=HP.out.2.2.trans (Ha.mono HP.out.2.2.size);have Hg:=mA Ha;have Hc:=mA Hh;clear Hd He Ha Hh;by_cases Hf:k < r.have_.length
  ·have Hb:(k:Int) < (r.have_.length:Int):=by omega
   obtain ⟨g,o,rfl,hg,hc⟩:=zDc (Kd.out.below Hc.out) Hf;obtain ⟨g',o',rfl,Hp,Ka⟩:=zDc (Ke.out.below Hc.out) Hf;exact zT2
  have Hb:(r.have_.length:Int)<=(k:Int):=by omega
  obtain ⟨wa,Hk⟩:=mJ (wr);subst Hk;go_wp2_with fail
  clear p0 p1 p2 p3 pl q0 q1 q2 q3 ql;go_loopw [6] (fun i wr=>∃ k:Nat,k<=r.wants.length/\i=.int .i64 k/\Below w1.heap.size w1 wr) (fun i _=>r.wants.length - (intOf i).toNat)
  case atStart=>exact ⟨0,mE _,rfl,Hg.out⟩
  case round =>
  clear Hb Hc Hg;obtain ⟨ka,Km⟩:=mJ (k);subst Km;obtain ⟨k,hk,rfl,Ha⟩:=hrel;have Hd:=HP.out.1.same Ha;have He:=HP.out.2.1.same Ha;obtain ⟨-,-,-,-,-,-,p0,p1,p2,p3⟩:=cz10 Hd;have pl:=Hd.lt;obtain ⟨-,-,-,-,-,-,q0,q1,q2,q3⟩:=cz10 He;have ql:=He.lt;have Hh:=HP.out.2.2.trans (Ha.mono HP.out.2.2.size);have Hg:=mA Ha;have Hc:=mA Hh;clear Hd He Ha Hh;by_cases Hf:k < r.wants.length
  ·have Hb:(k:Int) < (r.wants.length:Int):=by omega
   obtain ⟨g,o,rfl,hg,hc⟩:=zDc (Kg.out.below Hc.out) Hf;obtain ⟨g',o',rfl,Hp,Ka⟩:=zDc (Kh.out.below Hc.out) Hf;exact zT2
  have Hb:(r.wants.length:Int)<=(k:Int):=by omega
  obtain ⟨wb,Hk⟩:=mJ (wr);subst Hk;go_wp2_with fail
  clear p0 p1 p2 p3 pl q0 q1 q2 q3 ql;go_loopw [7] (fun i wr=>∃ k:Nat,k<=r.gives.length/\i=.int .i64 k/\Below w1.heap.size w1 wr) (fun i _=>r.gives.length - (intOf i).toNat)
  case atStart=>exact ⟨0,mE _,rfl,Hg.out⟩
  case round =>
  clear Hb Hc Hg;obtain ⟨kb,Kn⟩:=mJ (k);subst Kn;obtain ⟨k,hk,rfl,Ha⟩:=hrel;have Hd:=HP.out.1.same Ha;have He:=HP.out.2.1.same Ha;obtain ⟨-,-,-,-,-,-,p0,p1,p2,p3⟩:=cz10 Hd;have pl:=Hd.lt;obtain ⟨-,-,-,-,-,-,q0,q1,q2,q3⟩:=cz10 He;have ql:=He.lt;have Hh:=HP.out.2.2.trans (Ha.mono HP.out.2.2.size);have Hg:=mA Ha;have Hc:=mA Hh;clear Hd He Ha Hh;by_cases Hf:k < r.gives.length
  ·have Hb:(k:Int) < (r.gives.length:Int):=by omega
   obtain ⟨g,o,lg,rfl,hg,k0,k1,k2,k3,k4,Hq⟩:=zDp (k:=k) Hl.out.1 Hl.out.2.1 (Hl.out.2.2.1.below Hc.out) (fun j cs x a b=>(Hl.out.2.2.2 j cs x a b).same (Ts:=[9]) (by simp) (Same.below Hc.out)) Hf;obtain ⟨g',o',lg',rfl,Hp,j0,j1,j2,j3,j4,Hi⟩:=zDp (k:=k) Hm.out.1 Hm.out.2.1 (Hm.out.2.2.1.below Hc.out) (fun j cs x a b=>(Hm.out.2.2.2 j cs x a b).same (Ts:=[9]) (by simp) (Same.below Hc.out)) Hf;obtain ⟨Al,nl,cl,rfl⟩:=Hq.form;obtain ⟨Am,nm,cm,rfl⟩:=Hi.form;have Kb:=mA (mB Hq Hi);clear Hq Hi;go_upto_region 16 with fail
   go_cut [112] from 94 to 112 (fun b wx=>b=.bool false/\Below wr.heap.size wr wx)
   case first =>
    go_region_with (go_at_call 42;refine (zHs _ _ r.gives[k] r.gives[k] _ B B' (Kb.out.1.drewN 1) (Kb.out.2.drewN 1)).mono ?_;rintro e w2 ⟨rfl,h2⟩;simp only [decide_true])
    all_goals
     go_wp2_with fail
     go_meet
     exact ⟨rfl,(below_drewN (mG _ _) 1).trans h2⟩
   case rest =>
    obtain ⟨rfl,h2⟩:=hcut;go_wp2_with fail
    exact ⟨⟨k+1,Hf,by go_num,Hg.out.trans (h2.mono Hg.out.size)⟩,by simp only [intOf];omega⟩
  have Hb:(r.gives.length:Int)<=(k:Int):=by omega
  obtain ⟨wd,Hk⟩:=mJ (wr);subst Hk;go_wp2_with fail
  clear p0 p1 p2 p3 pl q0 q1 q2 q3 ql;go_loopw [8] (fun i wr=>∃ k:Nat,k<=r.given.length/\i=.int .i64 k/\Below w1.heap.size w1 wr) (fun i _=>r.given.length - (intOf i).toNat)
  case atStart=>exact ⟨0,mE _,rfl,Hg.out⟩
  case round =>
  clear Hb Hc Hg;obtain ⟨kc,Ko⟩:=mJ (k);subst Ko;obtain ⟨k,hk,rfl,Ha⟩:=hrel;have Hd:=HP.out.1.same Ha;have He:=HP.out.2.1.same Ha;obtain ⟨-,-,-,-,-,-,p0,p1,p2,p3⟩:=cz10 Hd;have pl:=Hd.lt;obtain ⟨-,-,-,-,-,-,q0,q1,q2,q3⟩:=cz10 He;have ql:=He.lt;have Hh:=HP.out.2.2.trans (Ha.mono HP.out.2.2.size);have Hg:=mA Ha;have Hc:=mA Hh;clear Hd He Ha Hh;by_cases Hf:k < r.given.length
  ·have Hb:(k:Int) < (r.given.length:Int):=by omega
   obtain ⟨g,o,rfl,hg,hc⟩:=zDc (Kj.out.below Hc.out) Hf;obtain ⟨g',o',rfl,Hp,Ka⟩:=zDc (Kk.out.below Hc.out) Hf;exact zT2
  have Hb:(r.given.length:Int)<=(k:Int):=by omega
  go_wp2
  go_ret
  exact ⟨rfl,Hc.out⟩
theorem IsRep.forms {w:World} {B:Nat} {lv hv wv gv nv:Value} {r:Scu.Replica} (h:IsRep w B lv hv wv gv nv r) :
 ∃ A0 n0 c0 A1 c1 A2 c2 A3 c3 A4 c4,lv=.slice A0 n0 c0/\hv=.slice A1 r.have_.length c1/\wv=.slice A2 r.wants.length c2/\gv=.slice A3 r.gives.length c3/\nv=.slice A4 r.given.length c4:=by
 obtain ⟨A0,n0,c0,e0⟩:=h.log.form;obtain ⟨⟨A1,c1,e1,_⟩,_⟩:=h.have_;obtain ⟨⟨A2,c2,e2,_⟩,_⟩:=h.wants;obtain ⟨⟨A3,c3,_,e3,_⟩,_⟩:=h.gives;obtain ⟨⟨A4,c4,e4,_⟩,_⟩:=h.given;exact ⟨A0,n0,c0,A1,c1,A2,c2,A3,c3,A4,c4,e0,e1,e2,e3,e4⟩
end Go.Proofs.YtlngfbngnnepiaaGreat
