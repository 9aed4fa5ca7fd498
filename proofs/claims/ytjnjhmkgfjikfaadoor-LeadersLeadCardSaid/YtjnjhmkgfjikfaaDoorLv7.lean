/- Part 7: words and walks under the laws of the whole. -/
import Derived.Test.YtjnjhmkgfjikfaaDoorLv5
import Derived.Test.YtjnjhmkgfjikfaaDoorLv6
set_option linter.unusedVariables false
set_option linter.unusedSimpArgs false
set_option maxHeartbeats 4000000
set_option maxRecDepth 100000
namespace Go.Proofs.YtjnjhmkgfjikfaaDoor
open Go.RowKit Go.ChangeShapes Go.WideShapes Go.ChangeAt
def KeptEl (w:World) (B:Nat) (cs:List Value) (k:Scu.Kept):Prop:=∃ lv,cs=[.int .i64 k.view,.int .i64 k.normal,.bool k.calm,lv,.int .i64 k.commit]/\IsStrs w B lv k.log
section
variable {H:Type} {enc:TypeId × Value->H} {w:World} {base:Nat} {spare:Nat->Bool} {held:Bool} {n:Nat}
end
theorem zCc {k:Scu.Kept} (h:k.view < 0\/1048576 < k.view\/k.normal < 0\/k.view < k.normal\/(k.calm=true/\k.normal≠k.view)):Scu.keptFault k=2:=if_pos h
theorem zJn {k:Scu.Kept} (h1:¬ k.view < 0) (h2:¬ 1048576 < k.view) (h3:¬ k.normal < 0) (h4:¬ k.view < k.normal) (h5:k.calm=false\/k.normal=k.view) :
 ¬ (k.view < 0\/1048576 < k.view\/k.normal < 0\/k.view < k.normal\/(k.calm=true/\k.normal≠k.view)):=by
 rintro (h | h | h | h | ⟨h,h'⟩)
 ·exact h1 h
 ·exact h2 h
 ·exact h3 h
 ·exact h4 h
 rcases h5 with h5 | h5
 ·rw [h] at h5;cases h5
 exact h' h5
theorem zHz {k:Scu.Kept} (h:¬ (k.view < 0\/1048576 < k.view\/k.normal < 0\/k.view < k.normal\/(k.calm=true/\k.normal≠k.view))) :
 Scu.keptFault k=if 60 < k.log.length then 1 else if k.commit < 0\/(k.log.length:Int) < k.commit then 2 else Scu.logFault k.log:=if_neg h
theorem zJo {l:List Scu.Str} {k:Nat} (h:k < l.length):Scu.logFault (l.drop k)=if (Scu.decode l[k]).2≠0 then (Scu.decode l[k]).2 else Scu.logFault (l.drop (k+1)):=by
 rw [List.drop_eq_getElem_cons h]
 rfl
theorem zJp (s:ByteArray) (w:World) (r:Scu.Request) (c:Int) (h:Scu.decode s=(r,c)) :
 Calls Tryd.prog 30 #[.string s] w fun e w'=>e=.returned (.tuple #[.agg #[.int .i64 r.client,.int .i64 r.num,.int .i64 r.op.kind,.int .i64 r.op.at_,.int .i64 r.op.snap,.string r.op.data],.int .i64 c])/\Below w.heap.size w w':=by
 have:=zJj s w
 rw [h] at this
 exact this
theorem zBd (lv:Value) (vi no:Int) (ca:Bool) (lo:List Scu.Str) (co:Int) (w:World) (B:Nat) (hv:IsStrs w B lv lo) :
 Calls Tryd.prog 18 #[.agg #[.int .i64 vi,.int .i64 no,.bool ca,lv,.int .i64 co]] w fun e w'=>e=.returned (.int .i64 (Scu.keptFault ⟨vi,no,ca,lo,co⟩))/\Below w.heap.size w w':=by
 obtain ⟨⟨A,c,rfl,_,hr⟩,hl,he⟩:=hv
 have Hb:=mA (fun (s:ByteArray) (W:World)=>zJp s W)
 unfold R47 at hl he
 cases t1:decide (vi < 0) with
 | true =>
   have HF:=mA (show Scu.keptFault ⟨vi,no,ca,lo,co⟩=2 from zCc (.inl (of_decide_eq_true t1)))
   clear hr hl he Hb
   try clear Ha
   go_enter Tryd.func18,Tryd.ntmps18
   go_wp2
   go_ret
   exact ⟨zAb (zAg HF.out.symm),(mG _ _).alloc (mC _) _⟩
 | false =>
 cases t2:decide ((1048576:Int) < vi) with
 | true =>
   have HF:=mA (show Scu.keptFault ⟨vi,no,ca,lo,co⟩=2 from zCc (.inr (.inl (of_decide_eq_true t2))))
   clear hr hl he Hb
   try clear Ha
   go_enter Tryd.func18,Tryd.ntmps18
   go_wp2
   go_ret
   exact ⟨zAb (zAg HF.out.symm),(mG _ _).alloc (mC _) _⟩
 | false =>
 cases t3:decide (no < 0) with
 | true =>
   have HF:=mA (show Scu.keptFault ⟨vi,no,ca,lo,co⟩=2 from zCc (.inr (.inr (.inl (of_decide_eq_true t3)))))
   clear hr hl he Hb
   try clear Ha
   go_enter Tryd.func18,Tryd.ntmps18
   go_wp2
   go_ret
   exact ⟨zAb (zAg HF.out.symm),(mG _ _).alloc (mC _) _⟩
 | false =>
 cases t4:decide (vi < no) with
 | true =>
   have HF:=mA (show Scu.keptFault ⟨vi,no,ca,lo,co⟩=2 from zCc (.inr (.inr (.inr (.inl (of_decide_eq_true t4))))))
   clear hr hl he Hb
   try clear Ha
   go_enter Tryd.func18,Tryd.ntmps18
   go_wp2
   go_ret
   exact ⟨zAb (zAg HF.out.symm),(mG _ _).alloc (mC _) _⟩
 | false =>
 have H5:(ca=true/\(no != vi)=true)\/((ca=false\/(ca=true/\(no != vi)=false))):=by
  cases ca <;> cases (no != vi) <;> simp
 rcases H5 with ⟨rfl,t6⟩ | H5
 ·have HF:=mA (show Scu.keptFault ⟨vi,no,true,lo,co⟩=2 from zCc (.inr (.inr (.inr (.inr ⟨rfl,by simpa using t6⟩)))))
  clear hr hl he Hb
  try clear Ha
  go_enter Tryd.func18,Tryd.ntmps18
  go_wp2
  go_ret
  exact ⟨zAb (zAg HF.out.symm),(mG _ _).alloc (mC _) _⟩
 have Ha:Scu.keptFault ⟨vi,no,ca,lo,co⟩=if 60 < lo.length then 1 else if co < 0\/(lo.length:Int) < co then 2 else Scu.logFault lo:=zHz (k:=⟨vi,no,ca,lo,co⟩) (zJn (of_decide_eq_false t1) (of_decide_eq_false t2) (of_decide_eq_false t3) (of_decide_eq_false t4) (H5.imp id (fun h=>by simpa using h.2)))
 cases t7:decide ((60:Int) < (lo.length:Int)) with
 | true =>
   rcases H5 with rfl | ⟨rfl,t6⟩
   ·have HF:=mA (show Scu.keptFault ⟨vi,no,false,lo,co⟩=1 from by rw [Ha,if_pos (by have:=of_decide_eq_true t7;omega)])
    clear hr hl he Hb
    try clear Ha
    go_enter Tryd.func18,Tryd.ntmps18
    go_wp2
    go_ret
    exact ⟨zAb (zAg HF.out.symm),(mG _ _).alloc (mC _) _⟩
   ·have HF:=mA (show Scu.keptFault ⟨vi,no,true,lo,co⟩=1 from by rw [Ha,if_pos (by have:=of_decide_eq_true t7;omega)])
    clear hr hl he Hb
    try clear Ha
    go_enter Tryd.func18,Tryd.ntmps18
    go_wp2
    go_ret
    exact ⟨zAb (zAg HF.out.symm),(mG _ _).alloc (mC _) _⟩
 | false =>
 rw [if_neg (by have:=of_decide_eq_false t7;omega)] at Ha
 cases t8:decide (co < 0) with
 | true =>
   rcases H5 with rfl | ⟨rfl,t6⟩
   ·have HF:=mA (show Scu.keptFault ⟨vi,no,false,lo,co⟩=2 from by rw [Ha,if_pos (.inl (of_decide_eq_true t8))])
    clear hr hl he Hb
    try clear Ha
    go_enter Tryd.func18,Tryd.ntmps18
    go_wp2
    go_ret
    exact ⟨zAb (zAg HF.out.symm),(mG _ _).alloc (mC _) _⟩
   ·have HF:=mA (show Scu.keptFault ⟨vi,no,true,lo,co⟩=2 from by rw [Ha,if_pos (.inl (of_decide_eq_true t8))])
    clear hr hl he Hb
    try clear Ha
    go_enter Tryd.func18,Tryd.ntmps18
    go_wp2
    go_ret
    exact ⟨zAb (zAg HF.out.symm),(mG _ _).alloc (mC _) _⟩
 | false =>
 cases t9:decide ((lo.length:Int) < co) with
 | true =>
   rcases H5 with rfl | ⟨rfl,t6⟩
   ·have HF:=mA (show Scu.keptFault ⟨vi,no,false,lo,co⟩=2 from by rw [Ha,if_pos (.inr (of_decide_eq_true t9))])
    clear hr hl he Hb
    try clear Ha
    go_enter Tryd.func18,Tryd.ntmps18
    go_wp2
    go_ret
    exact ⟨zAb (zAg HF.out.symm),(mG _ _).alloc (mC _) _⟩
   ·have HF:=mA (show Scu.keptFault ⟨vi,no,true,lo,co⟩=2 from by rw [Ha,if_pos (.inr (of_decide_eq_true t9))])
    clear hr hl he Hb
    try clear Ha
    go_enter Tryd.func18,Tryd.ntmps18
    go_wp2
    go_ret
    exact ⟨zAb (zAg HF.out.symm),(mG _ _).alloc (mC _) _⟩
 | false =>
 rw [if_neg (by have:=of_decide_eq_false t8;have:=of_decide_eq_false t9;omega)] at Ha
 have HF:=mA Ha
 have HE:=mA he
 clear Ha he
 rcases H5 with rfl | ⟨rfl,t6⟩
 all_goals
  go_enter Tryd.func18,Tryd.ntmps18
  go_wp2
  go_loopw [56] (fun i wr=>∃ j:Nat,j<=lo.length/\i=.int .i64 j/\Hid (Scu.logFault lo=Scu.logFault (lo.drop j))/\Below w.heap.size w wr) (fun i _=>lo.length - (intOf i).toNat)
  case atStart=>exact ⟨0,mE _,rfl,by simp [Hid],(mG _ _).alloc (mC _) _⟩
  case round =>
   obtain ⟨j,hj,rfl,ht,Hc⟩:=hrel
   have Hj:=hr.below Hc
   have Hh:=Hc.size
   by_cases Hf:j < lo.length
   ·have Hg:(j:Int) < (lo.length:Int):=by omega
    obtain ⟨g,o,rfl,hg,hc⟩:=zEz Hj Hf
    have hn:=zJo Hf
    generalize hd:Scu.decode lo[j]=q at hn
    obtain ⟨r,cd⟩:=q
    have HD:=mA hd
    clear hd
    cases hx:(cd != 0)
    ·have Hd:cd=0:=by simpa using hx
     have HX:=mA (show Scu.logFault lo=Scu.logFault (lo.drop (j+1)) by rw [ht.out,hn,if_neg (by simpa using Hd)])
     clear hn Hd
     go_wp2_with fail
     refine (Hb.out _ _ _ _ HD.out).mono ?_;rintro e w1 ⟨rfl,h1⟩
     go_wp2
     have He:=Hc.trans (h1.mono Hh)
     have Hi:=mA He
     clear He
     go_roundw
     case rel =>
      refine ⟨j+1,Hf,by go_num,HX,?_⟩
      exact (Hi.out.alloc Hi.out.size _)
     case measure=>simp only [intOf];omega
    have Hd:cd≠0:=by simpa using hx
    have HX:=mA (show Scu.keptFault ⟨vi,no,_,lo,co⟩=cd by rw [HF.out,ht.out,hn,if_pos Hd])
    clear hn Hd
    go_wp2_with fail
    refine (Hb.out _ _ _ _ HD.out).mono ?_;rintro e w1 ⟨rfl,h1⟩
    go_wp2
    go_ret
    refine ⟨zAb (zAg HX.out.symm),?_⟩
    have He:=Hc.trans (h1.mono Hh)
    exact (He.alloc He.size _)
   have Hg:(lo.length:Int)<=(j:Int):=by omega
   have HX:=mA (show Scu.keptFault ⟨vi,no,_,lo,co⟩=0 by rw [HF.out,ht.out,List.drop_of_length_le (by omega)];rfl)
   go_wp2
   go_ret
   exact ⟨zAb (zAg HX.out.symm),Hc⟩
theorem zBo (lv:Value) (k:Scu.Kept) (w:World) (B:Nat) (hv:IsStrs w B lv k.log) :
 Calls Tryd.prog 18 #[.agg #[.int .i64 k.view,.int .i64 k.normal,.bool k.calm,lv,.int .i64 k.commit]] w fun e w'=>e=.returned (.int .i64 (Scu.keptFault k))/\Below w.heap.size w w' :=
 zBd lv k.view k.normal k.calm k.log k.commit w B hv
open Go.RowKit
end Go.Proofs.YtjnjhmkgfjikfaaDoor
