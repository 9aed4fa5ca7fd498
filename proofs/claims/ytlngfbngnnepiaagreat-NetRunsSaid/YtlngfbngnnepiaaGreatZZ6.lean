/- Part 6: words and walks under the laws of the whole. -/
import Derived.Test.YtlngfbngnnepiaaGreatZZ5
set_option linter.unusedVariables false
set_option linter.unusedSimpArgs false
set_option maxHeartbeats 4000000
set_option maxRecDepth 100000
namespace Go.Proofs.YtlngfbngnnepiaaGreat
open Go.RowKit Go.ChangeShapes Go.WideShapes Go.ChangeAt
def KeptEl (w:World) (B:Nat) (cs:List Value) (k:Scu.Kept):Prop:=∃ lv,cs=[.int .i64 k.view,.int .i64 k.normal,.bool k.calm,lv,.int .i64 k.commit]/\IsStrs w B lv k.log
section
variable {H:Type} {enc:TypeId × Value->H} {w:World} {base:Nat} {spare:Nat->Bool} {held:Bool} {n:Nat}
end
theorem zDe {k:Scu.Kept} (h:k.view < 0\/1048576 < k.view\/k.normal < 0\/k.view < k.normal\/(k.calm=true/\k.normal≠k.view)):Scu.keptFault k=2:=if_pos h
theorem zOp {k:Scu.Kept} (h1:¬ k.view < 0) (h2:¬ 1048576 < k.view) (h3:¬ k.normal < 0) (h4:¬ k.view < k.normal) (h5:k.calm=false\/k.normal=k.view) :
 ¬ (k.view < 0\/1048576 < k.view\/k.normal < 0\/k.view < k.normal\/(k.calm=true/\k.normal≠k.view)):=by
 rintro (h | h | h | h | ⟨h,h'⟩)
 ·exact h1 h
 ·exact h2 h
 ·exact h3 h
 ·exact h4 h
 rcases h5 with h5 | h5
 ·rw [h] at h5;cases h5
 exact h' h5
theorem zMm {k:Scu.Kept} (h:¬ (k.view < 0\/1048576 < k.view\/k.normal < 0\/k.view < k.normal\/(k.calm=true/\k.normal≠k.view))) :
 Scu.keptFault k=if 60 < k.log.length then 1 else if k.commit < 0\/(k.log.length:Int) < k.commit then 2 else Scu.logFault k.log:=if_neg h
theorem zOq {l:List Scu.Str} {k:Nat} (h:k < l.length):Scu.logFault (l.drop k)=if (Scu.decode l[k]).2≠0 then (Scu.decode l[k]).2 else Scu.logFault (l.drop (k+1)):=by
 rw [List.drop_eq_getElem_cons h];rfl
theorem zKz (s:ByteArray) (w:World) (r:Scu.Request) (c:Int) (h:Scu.decode s=(r,c)) :
 Calls Tryz.prog 46 #[.string s] w fun e w'=>e=.returned (.tuple #[.agg #[.int .i64 r.client,.int .i64 r.num,.int .i64 r.op.kind,.int .i64 r.op.at_,.int .i64 r.op.snap,.string r.op.data],.int .i64 c])/\Below w.heap.size w w':=by
 have:=zTh s w;rw [h] at this;exact this
theorem zGz (s:ByteArray) (w:World) (r:Scu.Request) (c:Int) (h:Scu.decode s=(r,c)) :
 Calls Tryz.prog 60 #[.string s] w fun e w'=>e=.returned (.tuple #[.agg #[.int .i64 r.client,.int .i64 r.num,.int .i64 r.op.kind,.int .i64 r.op.at_,.int .i64 r.op.snap,.string r.op.data],.int .i64 c])/\Below w.heap.size w w':=by
 have:=zRf s w;rw [h] at this;exact this
theorem zV1 {P:Prop} (h:P:=by
 clear hr hl he Hb;try clear Ha
 go_enter Tryz.func21,Tryz.ntmps21
 go_wp2
 go_ret
 exact ⟨zAb (zAd HF.out.symm),(mG _ _).alloc (mC _) _⟩):P:=h
theorem zBh (lv:Value) (vi no:Int) (ca:Bool) (lo:List Scu.Str) (co:Int) (w:World) (B:Nat) (hv:IsStrs w B lv lo) :
 Calls Tryz.prog 21 #[.agg #[.int .i64 vi,.int .i64 no,.bool ca,lv,.int .i64 co]] w fun e w'=>e=.returned (.int .i64 (Scu.keptFault ⟨vi,no,ca,lo,co⟩))/\Below w.heap.size w w':=by
 obtain ⟨⟨A,c,rfl,_,hr⟩,hl,he⟩:=hv;have Hb:=mA (fun (s:ByteArray) (W:World)=>zKz s W);unfold R47 at hl he;cases t1:decide (vi < 0) with
 | true =>
   have HF:=mA (show Scu.keptFault ⟨vi,no,ca,lo,co⟩=2 from zDe (.inl (of_decide_eq_true t1)));exact zV1
 | false =>
 cases t2:decide ((1048576:Int) < vi) with
 | true =>
   have HF:=mA (show Scu.keptFault ⟨vi,no,ca,lo,co⟩=2 from zDe (.inr (.inl (of_decide_eq_true t2))));exact zV1
 | false =>
 cases t3:decide (no < 0) with
 | true =>
   have HF:=mA (show Scu.keptFault ⟨vi,no,ca,lo,co⟩=2 from zDe (.inr (.inr (.inl (of_decide_eq_true t3)))));exact zV1
 | false =>
 cases t4:decide (vi < no) with
 | true =>
   have HF:=mA (show Scu.keptFault ⟨vi,no,ca,lo,co⟩=2 from zDe (.inr (.inr (.inr (.inl (of_decide_eq_true t4))))));exact zV1
 | false =>
 have H5:(ca=true/\(no != vi)=true)\/((ca=false\/(ca=true/\(no != vi)=false))):=by
  cases ca <;> cases (no != vi) <;> simp
 rcases H5 with ⟨rfl,t6⟩ | H5
 ·have HF:=mA (show Scu.keptFault ⟨vi,no,true,lo,co⟩=2 from zDe (.inr (.inr (.inr (.inr ⟨rfl,by simpa using t6⟩)))));exact zV1
 have Ha:Scu.keptFault ⟨vi,no,ca,lo,co⟩=if 60 < lo.length then 1 else if co < 0\/(lo.length:Int) < co then 2 else Scu.logFault lo:=zMm (k:=⟨vi,no,ca,lo,co⟩) (zOp (of_decide_eq_false t1) (of_decide_eq_false t2) (of_decide_eq_false t3) (of_decide_eq_false t4) (H5.imp id (fun h=>by simpa using h.2)))
 cases t7:decide ((60:Int) < (lo.length:Int)) with
 | true =>
   rcases H5 with rfl | ⟨rfl,t6⟩
   ·have HF:=mA (show Scu.keptFault ⟨vi,no,false,lo,co⟩=1 from by rw [Ha,if_pos (by have:=of_decide_eq_true t7;omega)]);exact zV1
   ·have HF:=mA (show Scu.keptFault ⟨vi,no,true,lo,co⟩=1 from by rw [Ha,if_pos (by have:=of_decide_eq_true t7;omega)]);exact zV1
 | false =>
 rw [if_neg (by have:=of_decide_eq_false t7;omega)] at Ha;cases t8:decide (co < 0) with
 | true =>
   rcases H5 with rfl | ⟨rfl,t6⟩
   ·have HF:=mA (show Scu.keptFault ⟨vi,no,false,lo,co⟩=2 from by rw [Ha,if_pos (.inl (of_decide_eq_true t8))]);exact zV1
   ·have HF:=mA (show Scu.keptFault ⟨vi,no,true,lo,co⟩=2 from by rw [Ha,if_pos (.inl (of_decide_eq_true t8))]);exact zV1
 | false =>
 cases t9:decide ((lo.length:Int) < co) with
 | true =>
   rcases H5 with rfl | ⟨rfl,t6⟩
   ·have HF:=mA (show Scu.keptFault ⟨vi,no,false,lo,co⟩=2 from by rw [Ha,if_pos (.inr (of_decide_eq_true t9))]);exact zV1
   ·have HF:=mA (show Scu.keptFault ⟨vi,no,true,lo,co⟩=2 from by rw [Ha,if_pos (.inr (of_decide_eq_true t9))]);exact zV1
 | false =>
 rw [if_neg (by have:=of_decide_eq_false t8;have:=of_decide_eq_false t9;omega)] at Ha;have HF:=mA Ha;have HE:=mA he;clear Ha he;rcases H5 with rfl | ⟨rfl,t6⟩;all_goals
  go_enter Tryz.func21,Tryz.ntmps21
  go_wp2
  go_loopw [56] (fun i wr=>∃ j:Nat,j<=lo.length/\i=.int .i64 j/\Hid (Scu.logFault lo=Scu.logFault (lo.drop j))/\Below w.heap.size w wr) (fun i _=>lo.length - (intOf i).toNat)
  case atStart=>exact ⟨0,mE _,rfl,by simp [Hid],(mG _ _).alloc (mC _) _⟩
  case round =>
   obtain ⟨j,hj,rfl,ht,Hc⟩:=hrel;have Hj:=hr.below Hc;have Hh:=Hc.size;by_cases Hf:j < lo.length
   ·have Hg:(j:Int) < (lo.length:Int):=by omega
    obtain ⟨g,o,rfl,hg,hc⟩:=zBz Hj Hf;have hn:=zOq Hf;generalize hd:Scu.decode lo[j]=q at hn;obtain ⟨r,cd⟩:=q;have HD:=mA hd;clear hd;cases hx:(cd != 0)
    ·have Hd:cd=0:=by simpa using hx
     have HX:=mA (show Scu.logFault lo=Scu.logFault (lo.drop (j+1)) by rw [ht.out,hn,if_neg (by simpa using Hd)]);clear hn Hd;go_wp2_with fail
     refine (Hb.out _ _ _ _ HD.out).mono ?_;rintro e w1 ⟨rfl,h1⟩;go_wp2
     have He:=Hc.trans (h1.mono Hh);have Hi:=mA He;clear He;go_roundw
     case rel =>
      refine ⟨j+1,Hf,by go_num,HX,?_⟩;exact (Hi.out.alloc Hi.out.size _)
     case measure=>simp only [intOf];omega
    have Hd:cd≠0:=by simpa using hx
    have HX:=mA (show Scu.keptFault ⟨vi,no,_,lo,co⟩=cd by rw [HF.out,ht.out,hn,if_pos Hd]);clear hn Hd;go_wp2_with fail
    refine (Hb.out _ _ _ _ HD.out).mono ?_;rintro e w1 ⟨rfl,h1⟩;go_wp2
    go_ret
    refine ⟨zAb (zAd HX.out.symm),?_⟩;have He:=Hc.trans (h1.mono Hh);exact (He.alloc He.size _)
   have Hg:(lo.length:Int)<=(j:Int):=by omega
   have HX:=mA (show Scu.keptFault ⟨vi,no,_,lo,co⟩=0 by rw [HF.out,ht.out,List.drop_of_length_le (by omega)];rfl);go_wp2
   go_ret
   exact ⟨zAb (zAd HX.out.symm),Hc⟩
theorem zDz (lv:Value) (k:Scu.Kept) (w:World) (B:Nat) (hv:IsStrs w B lv k.log) :
 Calls Tryz.prog 21 #[.agg #[.int .i64 k.view,.int .i64 k.normal,.bool k.calm,lv,.int .i64 k.commit]] w fun e w'=>e=.returned (.int .i64 (Scu.keptFault k))/\Below w.heap.size w w' :=
 zBh lv k.view k.normal k.calm k.log k.commit w B hv
open Go.RowKit
theorem zFo {n a b:Int} (h:inB n a b=false):n < a\/b < n:=by
 unfold inB at h;simp only [Bool.and_eq_false_iff,decide_eq_false_iff_not] at h
 omega
theorem zDo {n a b:Int} (h:inB n a b=true):a<=n/\n<=b:=by
 unfold inB at h;simpa only [Bool.and_eq_true,decide_eq_true_eq] using h
theorem zU1 {P:Prop} (h:P:=by
 clear hr hl he Hb;try clear Ha
 go_enter Tryz.func29,Tryz.ntmps29
 go_wp2_with (go_at_call 12;refine (zAt _ _ _ _).mono ?_;rintro e w1 ⟨rfl,rfl⟩;first | rw [U1.out] | rw [U2.out] | rw [U4.out])
 go_ret
 exact ⟨zAb (zAd HF.out.symm),(mG _ _).alloc (mC _) _⟩):P:=h
theorem zBw (lv:Value) (vi no:Int) (ca:Bool) (lo:List Scu.Str) (co:Int) (w:World) (B:Nat) (hv:IsStrs w B lv lo) :
 Calls Tryz.prog 29 #[.agg #[.int .i64 vi,.int .i64 no,.bool ca,lv,.int .i64 co]] w fun e w'=>e=.returned (.int .i64 (Scu.keptFault ⟨vi,no,ca,lo,co⟩))/\Below w.heap.size w w':=by
 obtain ⟨⟨A,c,rfl,_,hr⟩,hl,he⟩:=hv;have Hb:=mA (fun (s:ByteArray) (W:World)=>zGz s W);unfold R47 at hl he;cases t1:inB vi 0 1048576 with
 | false =>
   have U1:=mA t1;clear t1;have HF:=mA (show Scu.keptFault ⟨vi,no,ca,lo,co⟩=2 from zDe (by have:=zFo U1.out;show vi < 0\/1048576 < vi\/_;omega));exact zU1
 | true =>
 have U1:=mA t1;have V1:=mA (zDo t1);clear t1;cases t2:inB no 0 vi with
 | false =>
   have U2:=mA t2;clear t2;have HF:=mA (show Scu.keptFault ⟨vi,no,ca,lo,co⟩=2 from zDe (by have:=zFo U2.out;show vi < 0\/1048576 < vi\/no < 0\/vi < no\/_;omega));exact zU1
 | true =>
 have U2:=mA t2;have V2:=mA (zDo t2);clear t2;have H5:(ca=true/\(no != vi)=true)\/((ca=false\/(ca=true/\(no != vi)=false))):=by
  cases ca <;> cases (no != vi) <;> simp
 rcases H5 with ⟨rfl,t6⟩ | H5
 ·have HF:=mA (show Scu.keptFault ⟨vi,no,true,lo,co⟩=2 from zDe (.inr (.inr (.inr (.inr ⟨rfl,by simpa using t6⟩)))));exact zU1
 have Ha:Scu.keptFault ⟨vi,no,ca,lo,co⟩=if 60 < lo.length then 1 else if co < 0\/(lo.length:Int) < co then 2 else Scu.logFault lo :=
  zMm (k:=⟨vi,no,ca,lo,co⟩) (zOp (by have:=V1.out;show ¬ vi < 0;omega) (by have:=V1.out;show ¬ 1048576 < vi;omega) (by have:=V2.out;show ¬ no < 0;omega) (by have:=V2.out;show ¬ vi < no;omega) (H5.imp id (fun h=>by simpa using h.2)))
 cases t7:decide ((60:Int) < (lo.length:Int)) with
 | true =>
   rcases H5 with rfl | ⟨rfl,t6⟩
   ·have HF:=mA (show Scu.keptFault ⟨vi,no,false,lo,co⟩=1 from by rw [Ha,if_pos (by have:=of_decide_eq_true t7;omega)]);exact zU1
   ·have HF:=mA (show Scu.keptFault ⟨vi,no,true,lo,co⟩=1 from by rw [Ha,if_pos (by have:=of_decide_eq_true t7;omega)]);exact zU1
 | false =>
 rw [if_neg (by have:=of_decide_eq_false t7;omega)] at Ha;cases t8:inB co 0 (lo.length:Int) with
 | false =>
   have U4:=mA t8;clear t8;rcases H5 with rfl | ⟨rfl,t6⟩
   ·have HF:=mA (show Scu.keptFault ⟨vi,no,false,lo,co⟩=2 from by rw [Ha,if_pos (by have:=zFo U4.out;omega)]);exact zU1
   ·have HF:=mA (show Scu.keptFault ⟨vi,no,true,lo,co⟩=2 from by rw [Ha,if_pos (by have:=zFo U4.out;omega)]);exact zU1
 | true =>
 have U4:=mA t8;rw [if_neg (by have:=zDo t8;omega)] at Ha;have HF:=mA Ha;have HE:=mA he;clear Ha he t8;rcases H5 with rfl | ⟨rfl,t6⟩;all_goals
  go_enter Tryz.func29,Tryz.ntmps29
  go_wp2_with (go_at_call 12;refine (zAt _ _ _ _).mono ?_;rintro e w1 ⟨rfl,rfl⟩;first | rw [U1.out] | rw [U2.out] | rw [U4.out])
  go_loopw [3] (fun i wr=>∃ j:Nat,j<=lo.length/\i=.int .i64 j/\Hid (Scu.logFault lo=Scu.logFault (lo.drop j))/\Below (w.heap.size+1) (w.alloc (.cells #[.int .i64 vi,.int .i64 no,_,.slice A lo.length c,.int .i64 co] 42)) wr) (fun i _=>lo.length - (intOf i).toNat)
  case atStart=>exact ⟨0,mE _,rfl,by simp [Hid],mG _ _⟩
  case round =>
   obtain ⟨j,hj,rfl,ht,Hc⟩:=hrel;have Hk:=(hr.alloc _).below (Hc.mono (by simp));have Hf:=Hc.size;simp only [World.size_alloc] at Hf
   obtain ⟨Hl,Hm⟩:=bcell Hc;by_cases Hg:j < lo.length
   ·have Hh:(j:Int) < (lo.length:Int):=by omega
    obtain ⟨g,o,rfl,hg,hc⟩:=zBz Hk Hg;have hn:=zOq Hg;generalize hd:Scu.decode lo[j]=q at hn;obtain ⟨r,cd⟩:=q;have HD:=mA hd;have He:=mA Hc;clear hd Hc;cases hx:(cd != 0)
    ·have Hd:cd=0:=by simpa using hx
     have HX:=mA (show Scu.logFault lo=Scu.logFault (lo.drop (j+1)) by rw [ht.out,hn,if_neg (by simpa using Hd)]);clear hn Hd;go_wp2_with fail
     refine (Hb.out _ _ _ _ HD.out).mono ?_;rintro e w1 ⟨rfl,h1⟩;go_wp2
     have Hi:=mA (He.out.trans (h1.mono Hf));go_roundw
     case rel =>
      refine ⟨j+1,Hg,by go_num,HX,?_⟩;exact (Hi.out.alloc (by have:=Hi.out.size;simpa using this) _)
     case measure=>simp only [intOf];omega
    have Hd:cd≠0:=by simpa using hx
    have HX:=mA (show Scu.keptFault ⟨vi,no,_,lo,co⟩=cd by rw [HF.out,ht.out,hn,if_pos Hd]);clear hn Hd;go_wp2_with fail
    refine (Hb.out _ _ _ _ HD.out).mono ?_;rintro e w1 ⟨rfl,h1⟩;go_wp2
    go_ret
    refine ⟨zAb (zAd HX.out.symm),?_⟩;have Hj:=He.out.trans (h1.mono Hf);exact ((zAa w _).trans (Hj.mono (by simp))).alloc (by have:=Hj.size;simp at this;omega) _
   have Hh:(lo.length:Int)<=(j:Int):=by omega
   have HX:=mA (show Scu.keptFault ⟨vi,no,_,lo,co⟩=0 by rw [HF.out,ht.out,List.drop_of_length_le (by omega)];rfl);have He:=mA Hc;clear Hc;go_wp2
   go_ret
   exact ⟨zAb (zAd HX.out.symm),(zAa w _).trans (He.out.mono (by simp))⟩
theorem zEz (lv:Value) (k:Scu.Kept) (w:World) (B:Nat) (hv:IsStrs w B lv k.log) :
 Calls Tryz.prog 29 #[.agg #[.int .i64 k.view,.int .i64 k.normal,.bool k.calm,lv,.int .i64 k.commit]] w fun e w'=>e=.returned (.int .i64 (Scu.keptFault k))/\Below w.heap.size w w' :=
 zBw lv k.view k.normal k.calm k.log k.commit w B hv
end Go.Proofs.YtlngfbngnnepiaaGreat
