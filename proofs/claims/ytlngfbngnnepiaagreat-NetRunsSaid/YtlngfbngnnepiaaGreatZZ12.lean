/- Part 12: words and walks under the laws of the whole. -/
import Derived.Test.YtlngfbngnnepiaaGreatZZ7
set_option linter.unusedVariables false
set_option linter.unusedSimpArgs false
set_option maxHeartbeats 4000000
set_option maxRecDepth 100000
namespace Go.Proofs.YtlngfbngnnepiaaGreat
open Go.RowKit
theorem zTm (v u:Value) (xs ys:List Scu.Str) (w:World) (B B':Nat) (hv:IsStrs w B v xs) (hu:IsStrs w B' u ys) :
 Calls Tryz.prog 104 #[v,u] w fun e w'=>e=.returned (.bool (decide (xs=ys)))/\∃ n,w'=w.drewN n:=by
 obtain ⟨⟨A,c,rfl,_,hr⟩,hl,_⟩:=hv;obtain ⟨⟨A',c',rfl,_,He⟩,Hf,_⟩:=hu;unfold R47 at hl Hf;by_cases he:xs.length=ys.length
 ·have Hg:((xs.length:Int) != (ys.length:Int))=false:=by simp [he]
  have HE:=mA he;clear he;go_enter Tryz.func104,Tryz.ntmps104
  go_wp2
  go_loopw [13] (fun i wr=>∃ k:Nat,k<=xs.length/\i=.int .i64 k/\Hid (xs.take k=ys.take k)/\∃ n,wr=w.drewN n) (fun i _=>xs.length - (intOf i).toNat)
  case atStart=>exact ⟨0,mE _,rfl,rfl,0,rfl⟩
  case round =>
   obtain ⟨k,hk,rfl,ht,n,rfl⟩:=hrel;by_cases Hb:k < xs.length
   ·have Hc:(k:Int) < (xs.length:Int):=by omega
    have hy:k < ys.length:=by have:=HE.out;omega
    have Hk:(k:Int) < (ys.length:Int):=by omega
    obtain ⟨g,o,rfl,_,hc⟩:=zBz hr Hb;obtain ⟨g',o',rfl,_,Hl⟩:=zBz He hy;by_cases hx:xs[k]=ys[k]
    ·have hb:(xs[k].toList == ys[k].toList)=true:=by rw [zEj];simp [hx]
     have HX:=mA hx;clear hx;go_wp2
     go_quiet (fail)
     go_wp2
     exact ⟨⟨k+1,Hb,by go_num,zFk ht.out Hb hy HX.out,_,rfl⟩,by simp only [intOf];omega⟩
    have hb:(xs[k].toList == ys[k].toList)=false:=by rw [zEj];simp [hx]
    have Ha:decide (xs=ys)=false:=by
     rw [decide_eq_false_iff_not];intro e;subst e;exact hx rfl
    have Hh:=mA Ha;clear Ha;go_wp2
    go_quiet (fail)
    go_wp2
    go_ret
    exact ⟨zAb (zBa Hh.out.symm),_,World.drewN_drewN _ _ _⟩
   have Hi:k=xs.length:=by omega
   have Hc:(xs.length:Int)<=(k:Int):=by omega
   have Hd:decide (xs=ys)=true:=by
    rw [decide_eq_true_eq];have h1:=ht.out;rw [List.take_of_length_le (by omega),List.take_of_length_le (by have:=HE.out;omega)] at h1;exact h1
   have Hj:=mA Hd;clear Hi Hd;go_wp2
   go_ret
   exact ⟨zAb (zBa Hj.out.symm),_,rfl⟩
 have Hg:((xs.length:Int) != (ys.length:Int))=true:=by
  rw [bne_iff_ne];omega
 have Ha:decide (xs=ys)=false:=by
  rw [decide_eq_false_iff_not];intro e;exact he (by rw [e])
 rw [Ha];clear he;go_enter Tryz.func104,Tryz.ntmps104
 go_wp2
 go_ret
 exact ⟨rfl,0,rfl⟩
theorem zPy (g j:Nat):(⟨g,0,none⟩:Addr).add j=⟨g,j,none⟩:=by unfold Addr.add;split <;> simp_all
theorem zRo {w:World} {t:TypeId} {cs:List Value} {m:Nat} (hm:cs.length=m):Src1 (w.alloc (.cells cs.toArray t)) m (.slice (some ⟨w.heap.size,0,none⟩) 1 1) 1 cs:=by
 refine ⟨by rw [hm,Nat.one_mul],.inr ⟨_,_,rfl,fun j v hj=>?_⟩⟩;rw [zPy,(Blk.new w t cs.toArray).cell j];simpa using hj
theorem zTn {w:World} {t:TypeId} {u:Value} : Src1 (w.alloc (.cells #[u] t)) 1 (.slice (some ⟨w.heap.size,0,none⟩) 1 1) 1 [u]:=zRo (cs:=[u]) rfl
theorem zNt {w:World} {base:Nat} {v:Value} {xs:List Scu.Str} {n:Nat} (h:w.ownsRow base 9 1 v n (xs.map Value.string)) (hn:n=xs.length) (hl:xs.length*16<=R47) (he:∀ s ∈ xs,s.size<=R47):IsStrs w 0 v xs:=by
 subst hn;obtain ⟨A,c,rfl,hc,_,hr,_⟩:=zAi h;exact ⟨⟨A,c,rfl,hc,hr⟩,hl,he⟩
theorem zFp (w:World) (a b:Obj):Below w.heap.size w ((w.alloc a).alloc b):=(zAa w a).alloc (by simp) b
theorem zS2 {P:Prop} (h:P:=by
 rw [hd];have HB:=mA (zFp w (.cells #[.int .i64 a.view,.int .i64 a.normal,.bool a.calm,.slice A n c,.int .i64 a.commit] 42) (.cells #[.int .i64 b.view,.int .i64 b.normal,.bool b.calm,.slice A' n' c',.int .i64 b.commit] 42));clear hd hv hu;go_enter Tryz.func80,Tryz.ntmps80
 go_wp2
 go_ret
 exact ⟨rfl,HB.out⟩):P:=h
theorem zMn (A A':Option Addr) (n n' c c':Nat) (a b:Scu.Kept) (w:World) (B B':Nat) (hv:IsStrs w B (.slice A n c) a.log) (hu:IsStrs w B' (.slice A' n' c') b.log) (q:Bool) (hq:decide (a=b)=q) :
 Calls Tryz.prog 80 #[.agg #[.int .i64 a.view,.int .i64 a.normal,.bool a.calm,.slice A n c,.int .i64 a.commit],.agg #[.int .i64 b.view,.int .i64 b.normal,.bool b.calm,.slice A' n' c',.int .i64 b.commit]] w
  fun e w'=>e=.returned (.bool q)/\Below w.heap.size w w':=by
 subst hq;cases t1:(a.view == b.view) with
 | false =>
   have hd:decide (a=b)=false:=by rw [decide_eq_false_iff_not];intro e;subst e;simp at t1
   exact zS2
 | true =>
 cases t2:(a.normal == b.normal) with
 | false =>
   have hd:decide (a=b)=false:=by rw [decide_eq_false_iff_not];intro e;subst e;simp at t2
   exact zS2
 | true =>
 cases t3:(a.calm == b.calm) with
 | false =>
   have hd:decide (a=b)=false:=by rw [decide_eq_false_iff_not];intro e;subst e;simp at t3
   exact zS2
 | true =>
 cases t4:(a.commit == b.commit) with
 | false =>
   have hd:decide (a=b)=false:=by rw [decide_eq_false_iff_not];intro e;subst e;simp at t4
   exact zS2
 | true =>
 have hd:decide (a=b)=decide (a.log=b.log):=by
  obtain ⟨v1,n1,c1,l1,m1⟩:=a;obtain ⟨v2,n2,c2,l2,m2⟩:=b;simp only [beq_iff_eq] at t1 t2 t3 t4
  subst t1 t2 t3 t4;simp
 rw [hd];obtain ⟨d,Ha⟩:=mK (decide (a.log=b.log));rw [Ha];have HD:=mA Ha;clear Ha;have b1:=zFp w (.cells #[.int .i64 a.view,.int .i64 a.normal,.bool a.calm,.slice A n c,.int .i64 a.commit] 42) (.cells #[.int .i64 b.view,.int .i64 b.normal,.bool b.calm,.slice A' n' c',.int .i64 b.commit] 42);have HV:=mA (hv.below b1);have HU:=mA (hu.below b1);have HB:=mA b1;clear hd hv hu b1;go_enter Tryz.func80,Tryz.ntmps80
 go_wp2_with fail
 refine (zTm _ _ _ _ _ B B' HV.out HU.out).mono ?_;rintro e w7 ⟨rfl,m7,rfl⟩;rw [HD.out];cases d
 all_goals
  go_wp2
  go_ret
  exact ⟨rfl,below_drewN HB.out _⟩
end Go.Proofs.YtlngfbngnnepiaaGreat
