/- Part 4: words and walks under the laws of the whole. -/
import Derived.SliceStrings
import Derived.SizedLaws
import Derived.Test.YtlngfbngnnepiaaGreatZZ3
set_option linter.unusedVariables false
set_option linter.unusedSimpArgs false
set_option maxHeartbeats 4000000
set_option maxRecDepth 100000
namespace Go.Proofs.YtlngfbngnnepiaaGreat
open Go.RowKit
section
variable {W : World} {g : Nat} {t : TypeId} {a b c d e f h i j k m : Value} {l : List Value}
theorem cz0 (q : Blk W g t l.toArray) (n : Nat) : W.cell? ⟨g, n, none⟩ = l[n]? := by rw [q.cell n]; simp
theorem cz1 (q : Blk W g t (a :: l).toArray) : W.cell? ⟨g, 0, none⟩ = some a := cz0 q 0
theorem cz2 (q : Blk W g t (a :: b :: l).toArray) : W.cell? ⟨g, 0, none⟩ = some a /\ W.cell? ⟨g, 1, none⟩ = some b := ⟨cz0 q 0, cz0 q 1⟩
theorem cz3 (q : Blk W g t (a :: b :: c :: l).toArray) : W.cell? ⟨g, 0, none⟩ = some a /\ W.cell? ⟨g, 1, none⟩ = some b /\ W.cell? ⟨g, 2, none⟩ = some c := ⟨cz0 q 0, cz0 q 1, cz0 q 2⟩
theorem cz4 (q : Blk W g t (a :: b :: c :: d :: l).toArray) : W.cell? ⟨g, 0, none⟩ = some a /\ W.cell? ⟨g, 1, none⟩ = some b /\ W.cell? ⟨g, 2, none⟩ = some c /\ W.cell? ⟨g, 3, none⟩ = some d := ⟨cz0 q 0, cz0 q 1, cz0 q 2, cz0 q 3⟩
theorem cz5 (q : Blk W g t (a :: b :: c :: d :: e :: l).toArray) : W.cell? ⟨g, 0, none⟩ = some a /\ W.cell? ⟨g, 1, none⟩ = some b /\ W.cell? ⟨g, 2, none⟩ = some c /\ W.cell? ⟨g, 3, none⟩ = some d /\ W.cell? ⟨g, 4, none⟩ = some e := ⟨cz0 q 0, cz0 q 1, cz0 q 2, cz0 q 3, cz0 q 4⟩
theorem cz6 (q : Blk W g t (a :: b :: c :: d :: e :: f :: l).toArray) : W.cell? ⟨g, 0, none⟩ = some a /\ W.cell? ⟨g, 1, none⟩ = some b /\ W.cell? ⟨g, 2, none⟩ = some c /\ W.cell? ⟨g, 3, none⟩ = some d /\ W.cell? ⟨g, 4, none⟩ = some e /\ W.cell? ⟨g, 5, none⟩ = some f := ⟨cz0 q 0, cz0 q 1, cz0 q 2, cz0 q 3, cz0 q 4, cz0 q 5⟩
theorem cz7 (q : Blk W g t (a :: b :: c :: d :: e :: f :: h :: l).toArray) : W.cell? ⟨g, 0, none⟩ = some a /\ W.cell? ⟨g, 1, none⟩ = some b /\ W.cell? ⟨g, 2, none⟩ = some c /\ W.cell? ⟨g, 3, none⟩ = some d /\ W.cell? ⟨g, 4, none⟩ = some e /\ W.cell? ⟨g, 5, none⟩ = some f /\ W.cell? ⟨g, 6, none⟩ = some h := ⟨cz0 q 0, cz0 q 1, cz0 q 2, cz0 q 3, cz0 q 4, cz0 q 5, cz0 q 6⟩
theorem cz8 (q : Blk W g t (a :: b :: c :: d :: e :: f :: h :: i :: l).toArray) : W.cell? ⟨g, 0, none⟩ = some a /\ W.cell? ⟨g, 1, none⟩ = some b /\ W.cell? ⟨g, 2, none⟩ = some c /\ W.cell? ⟨g, 3, none⟩ = some d /\ W.cell? ⟨g, 4, none⟩ = some e /\ W.cell? ⟨g, 5, none⟩ = some f /\ W.cell? ⟨g, 6, none⟩ = some h /\ W.cell? ⟨g, 7, none⟩ = some i := ⟨cz0 q 0, cz0 q 1, cz0 q 2, cz0 q 3, cz0 q 4, cz0 q 5, cz0 q 6, cz0 q 7⟩
theorem cz9 (q : Blk W g t (a :: b :: c :: d :: e :: f :: h :: i :: j :: l).toArray) : W.cell? ⟨g, 0, none⟩ = some a /\ W.cell? ⟨g, 1, none⟩ = some b /\ W.cell? ⟨g, 2, none⟩ = some c /\ W.cell? ⟨g, 3, none⟩ = some d /\ W.cell? ⟨g, 4, none⟩ = some e /\ W.cell? ⟨g, 5, none⟩ = some f /\ W.cell? ⟨g, 6, none⟩ = some h /\ W.cell? ⟨g, 7, none⟩ = some i /\ W.cell? ⟨g, 8, none⟩ = some j := ⟨cz0 q 0, cz0 q 1, cz0 q 2, cz0 q 3, cz0 q 4, cz0 q 5, cz0 q 6, cz0 q 7, cz0 q 8⟩
theorem cz10 (q : Blk W g t (a :: b :: c :: d :: e :: f :: h :: i :: j :: k :: l).toArray) : W.cell? ⟨g, 0, none⟩ = some a /\ W.cell? ⟨g, 1, none⟩ = some b /\ W.cell? ⟨g, 2, none⟩ = some c /\ W.cell? ⟨g, 3, none⟩ = some d /\ W.cell? ⟨g, 4, none⟩ = some e /\ W.cell? ⟨g, 5, none⟩ = some f /\ W.cell? ⟨g, 6, none⟩ = some h /\ W.cell? ⟨g, 7, none⟩ = some i /\ W.cell? ⟨g, 8, none⟩ = some j /\ W.cell? ⟨g, 9, none⟩ = some k := ⟨cz0 q 0, cz0 q 1, cz0 q 2, cz0 q 3, cz0 q 4, cz0 q 5, cz0 q 6, cz0 q 7, cz0 q 8, cz0 q 9⟩
end
theorem cW {B : Nat} {w w' : World} {g i : Nat} {v : Value} (h : Below B w w') (l : g < B) (e : w.cell? ⟨g, i, none⟩ = some v) : w'.cell? ⟨g, i, none⟩ = some v := (h.cell (p := ⟨g, i, none⟩) l).trans e
theorem zp1 {α : Type} (l : List α) (i : Nat) (a : α) : l.toArray.setIfInBounds i a = (l.set i a).toArray := List.setIfInBounds_toArray ..
theorem zp2 {α : Type} (x : α) (l : List α) (a : α) : (x :: l).set 0 a = a :: l := rfl
theorem zp3 {α : Type} (x : α) (l : List α) (n : Nat) (a : α) : (x :: l).set (n + 1) a = x :: l.set n a := rfl
/-- What was put is read: a goal in short. -/
theorem puT {P Q : Prop} (k : Q) (h : Q -> P := by intro kk; (try simp only [Act.put, List.getElem_toArray, List.getElem_cons_succ, List.getElem_cons_zero, zp1, zp2, zp3]); exact kk) : P := h k
theorem rg8 {W : World} {g o : Nat} {a b c d e f h i : Value} (H : W.rangeAt g o [a, b, c, d, e, f, h, i]) : W.cell? ⟨g, o, none⟩ = some a /\ W.cell? ⟨g, o + 1, none⟩ = some b /\ W.cell? ⟨g, o + 2, none⟩ = some c /\ W.cell? ⟨g, o + 3, none⟩ = some d /\ W.cell? ⟨g, o + 4, none⟩ = some e /\ W.cell? ⟨g, o + 5, none⟩ = some f /\ W.cell? ⟨g, o + 6, none⟩ = some h /\ W.cell? ⟨g, o + 7, none⟩ = some i := ⟨H 0 _ rfl, H 1 _ rfl, H 2 _ rfl, H 3 _ rfl, H 4 _ rfl, H 5 _ rfl, H 6 _ rfl, H 7 _ rfl⟩
theorem rg9 {W : World} {g o : Nat} {a b c d e f h i j : Value} (H : W.rangeAt g o [a, b, c, d, e, f, h, i, j]) : W.cell? ⟨g, o, none⟩ = some a /\ W.cell? ⟨g, o + 1, none⟩ = some b /\ W.cell? ⟨g, o + 2, none⟩ = some c /\ W.cell? ⟨g, o + 3, none⟩ = some d /\ W.cell? ⟨g, o + 4, none⟩ = some e /\ W.cell? ⟨g, o + 5, none⟩ = some f /\ W.cell? ⟨g, o + 6, none⟩ = some h /\ W.cell? ⟨g, o + 7, none⟩ = some i /\ W.cell? ⟨g, o + 8, none⟩ = some j := ⟨H 0 _ rfl, H 1 _ rfl, H 2 _ rfl, H 3 _ rfl, H 4 _ rfl, H 5 _ rfl, H 6 _ rfl, H 7 _ rfl, H 8 _ rfl⟩
theorem rg10 {W : World} {g o : Nat} {a b c d e f h i j k : Value} (H : W.rangeAt g o [a, b, c, d, e, f, h, i, j, k]) : W.cell? ⟨g, o, none⟩ = some a /\ W.cell? ⟨g, o + 1, none⟩ = some b /\ W.cell? ⟨g, o + 2, none⟩ = some c /\ W.cell? ⟨g, o + 3, none⟩ = some d /\ W.cell? ⟨g, o + 4, none⟩ = some e /\ W.cell? ⟨g, o + 5, none⟩ = some f /\ W.cell? ⟨g, o + 6, none⟩ = some h /\ W.cell? ⟨g, o + 7, none⟩ = some i /\ W.cell? ⟨g, o + 8, none⟩ = some j /\ W.cell? ⟨g, o + 9, none⟩ = some k := ⟨H 0 _ rfl, H 1 _ rfl, H 2 _ rfl, H 3 _ rfl, H 4 _ rfl, H 5 _ rfl, H 6 _ rfl, H 7 _ rfl, H 8 _ rfl, H 9 _ rfl⟩
theorem rgb {W W' : World} {B g o : Nat} {l : List Value} (h : Below B W W') (l1 : g < B) (H : W.rangeAt g o l) : W'.rangeAt g o l := fun j v hj => (h.cell (p := ⟨g, o + j, none⟩) l1).trans (H j v hj)
theorem slq {A B : Option Addr} {n m c d : Nat} (h : Value.slice A n c = .slice B m d) : A = B /\ c = d := by cases h; exact ⟨rfl, rfl⟩
open Go.RowKit Go.ChangeShapes Go.WideShapes Go.ChangeAt
theorem zGi {H:Type} {P:Program} {e:TypeId} {d:DataW H} {k:Nat} (hk:k ∈ d.weights P e):∀ {ds:List (DataW H)},d ∈ ds->k ∈ DataW.weightsAll P e ds
 | [],h=>by cases h
 | d0 :: ds,h=>by
   simp only [DataW.weightsAll,List.mem_append]
   rcases List.mem_cons.1 h with rfl | h
   ·exact .inl hk
   ·exact .inr (zGi hk h)
section
variable {H:Type} {enc:TypeId × Value->H} {w:World} {base:Nat} {spare:Nat->Bool} {held:Bool} {n:Nat}
end
open Go.RowKit
theorem IsState.below {w w':World} {B:Nat} {nv sv lv:Value} {x:Scu.State} (h:IsState w B nv sv lv x) (hb:Below w.heap.size w w'):IsState w' B nv sv lv x:=⟨h.vol.below hb,h.lasts.below hb⟩
theorem IsState.alloc {w:World} {B:Nat} {nv sv lv:Value} {x:Scu.State} (h:IsState w B nv sv lv x) (o:Obj):IsState (w.alloc o) B nv sv lv x:=⟨h.vol.alloc o,h.lasts.alloc o⟩
attribute [local go_sem] zGt zIj zFz
theorem zN1 {P:Prop} (h:P:=by
 rw [show Scu.number n=(Scu.numBytes n,0) from if_neg (by omega)] at this;exact this):P:=h
theorem zJc (n:Int) (w:World) (h0:0<=n) (h1:n<=1073741824) :
 Calls Tryz.prog 43 #[.int .i64 n] w fun e w'=>e=.returned (.tuple #[.string (Scu.numBytes n),.int .i64 0])/\Below w.heap.size w w':=by
 have:=zTb n w;exact zN1
theorem zEl (n:Int) (w:World) (h0:0<=n) (h1:n<=1073741824) :
 Calls Tryz.prog 57 #[.int .i64 n] w fun e w'=>e=.returned (.tuple #[.string (Scu.numBytes n),.int .i64 0])/\Below w.heap.size w w':=by
 have:=zKw n w;exact zN1
theorem zO1 {P:Prop} (h:P:=by
 rw [show Scu.text s=(Scu.textBytes s,0) from if_neg (by omega)] at this;exact this):P:=h
theorem zNm (s:ByteArray) (w:World) (h:s.size<=255) :
 Calls Tryz.prog 44 #[.string s] w fun e w'=>e=.returned (.tuple #[.string (Scu.textBytes s),.int .i64 0])/\Below w.heap.size w w':=by
 have:=zYn s w;exact zO1
theorem zGy (s:ByteArray) (w:World) (h:s.size<=255) :
 Calls Tryz.prog 58 #[.string s] w fun e w'=>e=.returned (.tuple #[.string (Scu.textBytes s),.int .i64 0])/\Below w.heap.size w w':=by
 have:=zLw s w;exact zO1
theorem zRe (a b c d:Int) (a0:0<=a) (a1:a < 256) (b0:0<=b) (b1:b < 256) (c0:0<=c) (c1:c < 256) (d0:0<=d) (d1:d < 256) :
 strOfNums [a,b,c,d]=⟨#[Scu.b8 a,Scu.b8 b,Scu.b8 c,Scu.b8 d]⟩:=by
 unfold strOfNums;simp only [List.map_cons,List.map_nil]
 rw [zHw a0 a1,zHw b0 b1,zHw c0 c1,zHw d0 d1]
theorem zTg (r:Scu.Request) (w:World) :
 Calls Tryz.prog 49 #[.agg #[.int .i64 r.client,.int .i64 r.num,.int .i64 r.op.kind,.int .i64 r.op.at_,.int .i64 r.op.snap,.string r.op.data]] w fun e w' =>
  e=.returned (.tuple #[.string (Scu.encode r).1,.int .i64 (Scu.encode r).2])/\Below w.heap.size w w':=by
 by_cases hf:Scu.reqFault r=0
 ·have hs:Scu.encode r=(Scu.reqBytes r,0):=if_neg (by simp [hf]);rw [hs];obtain ⟨h1,h2,h3,h4,h5⟩:=Scu.reqFault_ok hf;obtain ⟨o1,o2,o3,o4,o5,o6,o7,_,_,_⟩:=Scu.opFault_ok h5;have e1:=zRe r.client r.op.kind r.op.at_ r.op.snap (by omega) (by omega) (by omega) (by omega) (by omega) (by omega) (by omega) (by omega);have z1:(strOfNums [r.client,r.op.kind,r.op.at_,r.op.snap]).size=4:=by rw [e1];rfl
  have z2:=Scu.numBytes_size r.num;have z3:=Scu.textBytes_size r.op.data;have a1:=fun w=>run_string_add_sum (P:=Tryz.prog) (w:=w) (strOfNums [r.client,r.op.kind,r.op.at_,r.op.snap]) (Scu.numBytes r.num) (by omega)
  have a2:=fun w=>run_string_add_sum (P:=Tryz.prog) (w:=w) (strOfNums [r.client,r.op.kind,r.op.at_,r.op.snap] ++ Scu.numBytes r.num) (Scu.textBytes r.op.data) (by rw [ByteArray.size_append];omega)
  have Ha:strOfNums [r.client,r.op.kind,r.op.at_,r.op.snap] ++ Scu.numBytes r.num ++ Scu.textBytes r.op.data=Scu.reqBytes r:=by rw [e1];rfl
  have Hb:=mA Ha;have Hd:=mA h5;have Hc:r.op.data.size<=255:=by omega
  clear hs e1 z1 z2 z3 Ha h5;go_enter Tryz.func49,Tryz.ntmps49
  go_wp2_with fail
  refine (zEg _ _).mono ?_;rintro e w1 ⟨rfl,b1⟩;obtain ⟨hc,hz⟩:=bcell b1;go_wp2_with fail
  refine (zJc _ _ (by omega) (by omega)).mono ?_;rintro e w2 ⟨rfl,b2⟩;have c2:=b1.trans (b2.mono b1.size);clear hc hz;obtain ⟨hc,hz⟩:=bcell c2;go_wp2_with fail
  refine (zNm _ _ Hc).mono ?_;rintro e w3 ⟨rfl,b3⟩;have c3:=c2.trans (b3.mono c2.size);clear hc hz;obtain ⟨hc,hz⟩:=bcell c3;go_wp2
  go_ret2
  exact ⟨zDa (zFf Hb.out) rfl,(zAf c3).alloc (zAf c3).size _⟩
 have hs:Scu.encode r=(Scu.str0,Scu.reqFault r):=if_pos hf;rw [hs];have hb:(Scu.reqFault r != 0)=true:=by simpa using hf
 clear hf hs;go_enter Tryz.func49,Tryz.ntmps49
 go_wp2_with fail
 refine (zEg _ _).mono ?_;rintro e w1 ⟨rfl,b1⟩;go_wp2_with fail
 go_ret2
 exact ⟨rfl,zAf b1⟩
theorem zMg (r:Scu.Request) (w:World) :
 Calls Tryz.prog 34 #[.agg #[.int .i64 r.client,.int .i64 r.num,.int .i64 r.op.kind,.int .i64 r.op.at_,.int .i64 r.op.snap,.string r.op.data]] w fun e w' =>
  e=.returned (.tuple #[.string (Scu.encode r).1,.int .i64 (Scu.encode r).2])/\Below w.heap.size w w':=by
 by_cases hf:Scu.reqFault r=0
 ·have hs:Scu.encode r=(Scu.reqBytes r,0):=if_neg (by simp [hf]);rw [hs];obtain ⟨h1,h2,h3,h4,h5⟩:=Scu.reqFault_ok hf;obtain ⟨o1,o2,o3,o4,o5,o6,o7,_,_,_⟩:=Scu.opFault_ok h5;have e1:=zRe r.client r.op.kind r.op.at_ r.op.snap (by omega) (by omega) (by omega) (by omega) (by omega) (by omega) (by omega) (by omega);have z1:(strOfNums [r.client,r.op.kind,r.op.at_,r.op.snap]).size=4:=by rw [e1];rfl
  have z2:=Scu.numBytes_size r.num;have z4:(strOfNums [(r.op.data.size:Int)]).size=1:=zDl _;have e2:=zFj (s:=r.op.data) (by omega);have a1:=fun w=>run_string_add_sum (P:=Tryz.prog) (w:=w) (strOfNums [r.client,r.op.kind,r.op.at_,r.op.snap]) (Scu.numBytes r.num) (by omega)
  have a2:=fun w=>run_string_add_sum (P:=Tryz.prog) (w:=w) (strOfNums [r.client,r.op.kind,r.op.at_,r.op.snap] ++ Scu.numBytes r.num) (strOfNums [(r.op.data.size:Int)]) (by rw [ByteArray.size_append];omega)
  have a3:=fun w=>run_string_add_sum (P:=Tryz.prog) (w:=w) (strOfNums [r.client,r.op.kind,r.op.at_,r.op.snap] ++ Scu.numBytes r.num ++ strOfNums [(r.op.data.size:Int)]) r.op.data (by rw [ByteArray.size_append,ByteArray.size_append];omega)
  have Ha:strOfNums [r.client,r.op.kind,r.op.at_,r.op.snap] ++ Scu.numBytes r.num ++ strOfNums [(r.op.data.size:Int)] ++ r.op.data=Scu.reqBytes r:=by
   rw [e1,ByteArray.append_assoc,e2];rfl
  have Hb:=mA Ha;have Hc:(r.op.data.size:Int)<=255:=by omega
  clear hs e1 z1 z2 z4 e2 Ha h5;go_enter Tryz.func34,Tryz.ntmps34
  go_wp2_with fail
  refine (zEh _ _).mono ?_;rintro e w1 ⟨rfl,b1⟩;obtain ⟨hc,hz⟩:=bcell b1;go_wp2_with fail
  refine (zEl _ _ (by omega) (by omega)).mono ?_;rintro e w2 ⟨rfl,b2⟩;have c2:=b1.trans (b2.mono b1.size);clear hc hz;obtain ⟨hc,hz⟩:=bcell c2;have Hd:=zBd c2;go_wp2
  go_ret2
  exact ⟨zDa (zFf Hb.out) rfl,((zAf c2).alloc (zAf c2).size _).alloc (by have:=(zAf c2).size;simp;omega) _⟩
 have hs:Scu.encode r=(Scu.str0,Scu.reqFault r):=if_pos hf;rw [hs];have hb:(Scu.reqFault r != 0)=true:=by simpa using hf
 clear hf hs;go_enter Tryz.func34,Tryz.ntmps34
 go_wp2_with fail
 refine (zEh _ _).mono ?_;rintro e w1 ⟨rfl,b1⟩;go_wp2_with fail
 go_ret2
 exact ⟨rfl,zAf b1⟩
theorem zFl (s:Scu.Str):(Scu.readNumber s).2.1.size<=s.size:=by
 unfold Scu.readNumber;split
 ·exact mE _
 split
 ·exact mE _
 show (Scu.dropS s 4).size<=s.size
 unfold Scu.dropS;rw [ByteArray.size_extract];omega
theorem zCe {B g:Nat} {w w1:World} {a b c d e f:Value} (h:Below B w w1) (hg:B<=g) :
 Below B w ((((((w1.setCell ⟨g,0,none⟩ a).setCell ⟨g,1,none⟩ b).setCell ⟨g,2,none⟩ c).setCell ⟨g,3,none⟩ d).setCell ⟨g,4,none⟩ e).setCell ⟨g,5,none⟩ f) :=
 (((((h.setCell (p:=⟨g,0,none⟩) hg _).setCell (p:=⟨g,1,none⟩) hg _).setCell (p:=⟨g,2,none⟩) hg _).setCell (p:=⟨g,3,none⟩) hg _).setCell (p:=⟨g,4,none⟩) hg _).setCell (p:=⟨g,5,none⟩) hg _
theorem zJ1 {P:Prop} (h:P:=by
 have h1:=zFl (Scu.dropS s 4);rw [Hg] at h1;have h2:(Scu.dropS s 4).size<=s.size:=by unfold Scu.dropS;rw [ByteArray.size_extract];omega
 unfold maxLen;simp only at h1
 omega):P:=h
theorem zK1 {P:Prop} (h:P:=by
 rw [HD.out,if_neg (by simp),if_neg (by simp),if_neg (by simp [Hq.out]),if_neg (by simp [hf])]):P:=h
theorem zL1 {P:Prop} (h:P:=by
 go_enter Tryz.func46,Tryz.ntmps46
 go_wp2
 go_returns
 exact ⟨rfl,(mG _ _).alloc (mC _) _⟩):P:=h
theorem zP1 {P:Prop} (h:P:=by
 rw [show Scu.readNumber (s.extract 4 s.size)=(n,s1,e1) from Hg] at this;exact this):P:=h
theorem zQ1 {P:Prop} (h:P:=by
 rw [HD.out,if_neg (by simp),if_neg (by simp),if_neg (by simp [Hq.out]),if_pos hf]):P:=h
theorem zR1 {P:Prop} (h:P:=by
 exact ⟨by rw [HR.out];rfl,zCe (Hk.setCell (by simp) _) (mC _)⟩):P:=h
theorem zTh (s:ByteArray) (w:World) :
 Calls Tryz.prog 46 #[.string s] w fun e w' =>
  e=.returned (.tuple #[vRequest (Scu.decode s).1,.int .i64 (Scu.decode s).2])/\Below w.heap.size w w':=by
 by_cases Hc:40 < s.size
 ·have hs:Scu.decode s=(Scu.req0,1):=if_pos Hc;rw [hs];have h':(40:Int) < s.size:=by omega
  clear hs Hc;exact zL1
 by_cases h4:s.size < 4
 ·have hs:Scu.decode s=(Scu.req0,5):=by unfold Scu.decode;rw [if_neg Hc,if_pos h4]
  rw [hs];have h':(s.size:Int) < 4:=by omega
  clear hs Hc h4;exact zL1
 have g40:(s.size:Int)<=40:=by omega
 have g4:(4:Int)<=s.size:=by omega
 have g0:(0:Int) < s.size:=by omega
 have g1:(1:Int) < s.size:=by omega
 have g2:(2:Int) < s.size:=by omega
 have g3:(3:Int) < s.size:=by omega
 obtain ⟨a0,a1⟩:=zAv s 0;obtain ⟨b0,b1⟩:=zAv s 1;obtain ⟨c0,c1⟩:=zAv s 2;obtain ⟨d0,d1⟩:=zAv s 3;generalize Hg:Scu.readNumber (Scu.dropS s 4)=q1;obtain ⟨n,s1,e1⟩:=q1;generalize Hj:Scu.readText s1=q2;obtain ⟨d,s2,e2⟩:=q2;have Hl:Scu.decode s=if e1≠0 then (Scu.req0,e1) else if e2≠0 then (Scu.req0,e2) else
  if s2≠Scu.str0 then (Scu.req0,4) else if Scu.reqFault ⟨Scu.byteAt s 0,n,⟨Scu.byteAt s 1,Scu.byteAt s 2,Scu.byteAt s 3,d⟩⟩≠0 then
   (Scu.req0,Scu.reqFault ⟨Scu.byteAt s 0,n,⟨Scu.byteAt s 1,Scu.byteAt s 2,Scu.byteAt s 3,d⟩⟩) else (⟨Scu.byteAt s 0,n,⟨Scu.byteAt s 1,Scu.byteAt s 2,Scu.byteAt s 3,d⟩⟩,0):=by
  unfold Scu.decode;rw [if_neg Hc,if_neg h4];simp only [Hg,Hj]
 have Hm:s1.size<=maxLen:=by
  exact zJ1
 have k1:∀ w,Calls Tryz.prog 73 #[.string (s.extract 4 s.size)] w fun e w'=>e=.returned (.tuple #[.int .i64 n,.string s1,.int .i64 e1])/\Below w.heap.size w w':=fun w=>by
  have:=zHx (s.extract 4 s.size) w;exact zP1
 have k2:∀ w,Calls Tryz.prog 74 #[.string s1] w fun e w'=>e=.returned (.tuple #[.string d,.string s2,.int .i64 e2])/\Below w.heap.size w w':=fun w=>by
  have:=zKc s1 w Hm;rw [Hj] at this;exact this
 have K1:=mA k1;have K2:=mA k2;have HD:=mA Hl;have Hn:=mA (zBe s2);clear Hl Hc h4 Hg Hj k1 k2 Hm;go_enter Tryz.func46,Tryz.ntmps46
 go_wp2_with fail
 go_region
 go_wp2_with fail
 refine (K1.out _).mono ?_;rintro e w1 ⟨rfl,h1⟩;obtain ⟨hc,hz⟩:=bcell h1;have Hz:w.heap.size+1 < w1.heap.size:=by have:=h1.size;simp at this;omega
 have Ht:w.heap.size < w1.heap.size:=by omega
 have Ho:Below w.heap.size w w1:=(((mG _ _).alloc (mC _) _).alloc (by simp) _).drew.trans (h1.mono (by simp;omega));by_cases Hh:e1=0
 ·subst Hh;go_wp2_with fail
  refine (K2.out _).mono ?_;rintro e w2 ⟨rfl,h2⟩;obtain ⟨Ka,Kb⟩:=bcell h2;have Hu:w.heap.size+1 < w2.heap.size:=by have:=h2.size;simp at this;omega
  have Hp:w.heap.size < w2.heap.size:=by omega
  have Hk:Below w.heap.size w w2:=(Ho.setCell (by simp) _).trans (h2.mono (by simp;omega));have Ha:=((((((Blk.new w 53 #[.int .i64 0,.int .i64 0,.int .i64 0,.int .i64 0,.int .i64 0,.string ⟨#[]⟩]).alloc (.cells #[.int .i64 (Scu.byteAt s 0),.int .i64 0,.int .i64 (Scu.byteAt s 1),.int .i64 (Scu.byteAt s 2),.int .i64 (Scu.byteAt s 3),.string ⟨#[]⟩] 53)).drew).same h1).far (p:=⟨w.heap.size+1,1,none⟩) (by simp) (.int .i64 n)).same h2);obtain ⟨u0,u1,u2,u3,u4,u5⟩:=cz6 Ha;have Hv:=mA Ha;clear Ha;by_cases Hi:e2=0
  ·subst Hi;by_cases Hd:s2=Scu.str0
   ·have He:s2.toList=[]:=Hn.out.2 (by rw [Hd];rfl);have Hq:=mA Hd;clear Hd;go_wp2_with fail
    refine (zEg ⟨Scu.byteAt s 0,n,⟨Scu.byteAt s 1,Scu.byteAt s 2,Scu.byteAt s 3,d⟩⟩ _).mono ?_;rintro e w3 ⟨rfl,h3⟩;obtain ⟨Kc,Kd⟩:=bcell h3;have Hw:w.heap.size+1 < w3.heap.size:=by have:=h3.size;simp at this;omega
    have Hr:w.heap.size < w3.heap.size:=by omega
    have Hs:Below w.heap.size w w3:=(Hk.setCell (by simp) _).trans (h3.mono (by simp;omega));have Hb:=(Hv.out.far (p:=⟨w.heap.size+1,5,none⟩) (by simp) (.string d)).same h3;obtain ⟨y0,y1,y2,y3,y4,y5⟩:=cz6 Hb;have Ke:=mA Hb;clear Hb;by_cases hf:Scu.reqFault ⟨Scu.byteAt s 0,n,⟨Scu.byteAt s 1,Scu.byteAt s 2,Scu.byteAt s 3,d⟩⟩=0
    ·have hr:Scu.decode s=(⟨Scu.byteAt s 0,n,⟨Scu.byteAt s 1,Scu.byteAt s 2,Scu.byteAt s 3,d⟩⟩,0):=by
      exact zK1
     have HR:=mA hr;have Hx:(Scu.reqFault ⟨Scu.byteAt s 0,n,⟨Scu.byteAt s 1,Scu.byteAt s 2,Scu.byteAt s 3,d⟩⟩ != 0)=false:=by simpa using hf
     clear hr hf;go_wp2
     refine bodyPost_ret (v:=.tuple #[.agg #[.int .i64 (Scu.byteAt s 0),.int .i64 n,.int .i64 (Scu.byteAt s 1),.int .i64 (Scu.byteAt s 2),.int .i64 (Scu.byteAt s 3),.string d],.int .i64 0]) (by simp [results,Tryz.results46,go_sem,y0,y1,y2,y3,y4,y5]) rfl ?_;exact ⟨by rw [HR.out];rfl,zCe Hs (mC _)⟩
    have hr:Scu.decode s=(Scu.req0,Scu.reqFault ⟨Scu.byteAt s 0,n,⟨Scu.byteAt s 1,Scu.byteAt s 2,Scu.byteAt s 3,d⟩⟩):=by
     exact zQ1
    have HR:=mA hr;have Hx:(Scu.reqFault ⟨Scu.byteAt s 0,n,⟨Scu.byteAt s 1,Scu.byteAt s 2,Scu.byteAt s 3,d⟩⟩ != 0)=true:=by simpa using hf
    clear hr hf;go_wp2
    refine bodyPost_ret (v:=.tuple #[.agg #[.int .i64 0,.int .i64 0,.int .i64 0,.int .i64 0,.int .i64 0,.string ⟨#[]⟩],.int .i64 (Scu.reqFault ⟨Scu.byteAt s 0,n,⟨Scu.byteAt s 1,Scu.byteAt s 2,Scu.byteAt s 3,d⟩⟩)]) (by simp [results,Tryz.results46,go_sem,y0,y1,y2,y3,y4,y5]) rfl ?_;exact ⟨by rw [HR.out];rfl,zCe Hs (mC _)⟩
   have He:¬ s2.toList=[]:=fun e=>Hd ((Scu.size_zero_iff _).1 (Hn.out.1 e))
   have Hy:s2.toList.isEmpty=false:=by simpa using He
   have hr:Scu.decode s=(Scu.req0,4):=by rw [HD.out,if_neg (by simp),if_neg (by simp),if_pos Hd]
   have HR:=mA hr;clear hr Hd;go_wp2
   refine bodyPost_ret (v:=.tuple #[.agg #[.int .i64 0,.int .i64 0,.int .i64 0,.int .i64 0,.int .i64 0,.string ⟨#[]⟩],.int .i64 4]) (by simp [results,Tryz.results46,go_sem,u0,u1,u2,u3,u4,u5]) rfl ?_;exact zR1
  have Kf:(e2 != 0)=true:=by simpa using Hi
  have hr:Scu.decode s=(Scu.req0,e2):=by rw [HD.out,if_neg (by simp),if_pos Hi]
  have HR:=mA hr;clear hr Hi;go_wp2
  refine bodyPost_ret (v:=.tuple #[.agg #[.int .i64 0,.int .i64 0,.int .i64 0,.int .i64 0,.int .i64 0,.string ⟨#[]⟩],.int .i64 e2]) (by simp [results,Tryz.results46,go_sem,u0,u1,u2,u3,u4,u5]) rfl ?_;exact zR1
 have Kg:(e1 != 0)=true:=by simpa using Hh
 have hr:Scu.decode s=(Scu.req0,e1):=by rw [HD.out,if_pos Hh]
 have HR:=mA hr;clear hr Hh;go_wp2
 have Hf:=(((Blk.new w 53 #[.int .i64 0,.int .i64 0,.int .i64 0,.int .i64 0,.int .i64 0,.string ⟨#[]⟩]).alloc (.cells #[.int .i64 (Scu.byteAt s 0),.int .i64 0,.int .i64 (Scu.byteAt s 1),.int .i64 (Scu.byteAt s 2),.int .i64 (Scu.byteAt s 3),.string ⟨#[]⟩] 53)).drew).same h1;obtain ⟨u0,u1,u2,u3,u4,u5⟩:=cz6 Hf;refine bodyPost_ret (v:=.tuple #[.agg #[.int .i64 0,.int .i64 0,.int .i64 0,.int .i64 0,.int .i64 0,.string ⟨#[]⟩],.int .i64 e1]) (by simp [results,Tryz.results46,go_sem,u0,u1,u2,u3,u4,u5]) rfl ?_;exact ⟨by rw [HR.out];rfl,zCe (Ho.setCell (by simp) _) (mC _)⟩
attribute [local go_sem] zGt zIj zFz
theorem zM1 {P:Prop} (h:P:=by
 go_enter Tryz.func60,Tryz.ntmps60
 go_wp2
 go_returns
 exact ⟨rfl,(mG _ _).alloc (mC _) _⟩):P:=h
theorem zRf (s:ByteArray) (w:World) :
 Calls Tryz.prog 60 #[.string s] w fun e w' =>
  e=.returned (.tuple #[vRequest (Scu.decode s).1,.int .i64 (Scu.decode s).2])/\Below w.heap.size w w':=by
 by_cases Hc:40 < s.size
 ·have hs:Scu.decode s=(Scu.req0,1):=if_pos Hc;rw [hs];have h':(40:Int) < s.size:=by omega
  clear hs Hc;exact zM1
 by_cases h4:s.size < 4
 ·have hs:Scu.decode s=(Scu.req0,5):=by unfold Scu.decode;rw [if_neg Hc,if_pos h4]
  rw [hs];have h':(s.size:Int) < 4:=by omega
  clear hs Hc h4;exact zM1
 have g40:(s.size:Int)<=40:=by omega
 have g4:(4:Int)<=s.size:=by omega
 have g0:(0:Int) < s.size:=by omega
 have g1:(1:Int) < s.size:=by omega
 have g2:(2:Int) < s.size:=by omega
 have g3:(3:Int) < s.size:=by omega
 obtain ⟨a0,a1⟩:=zAv s 0;obtain ⟨b0,b1⟩:=zAv s 1;obtain ⟨c0,c1⟩:=zAv s 2;obtain ⟨d0,d1⟩:=zAv s 3;generalize Hg:Scu.readNumber (Scu.dropS s 4)=q1;obtain ⟨n,s1,e1⟩:=q1;generalize Hj:Scu.readText s1=q2;obtain ⟨d,s2,e2⟩:=q2;have Hl:Scu.decode s=if e1≠0 then (Scu.req0,e1) else if e2≠0 then (Scu.req0,e2) else
  if s2≠Scu.str0 then (Scu.req0,4) else if Scu.reqFault ⟨Scu.byteAt s 0,n,⟨Scu.byteAt s 1,Scu.byteAt s 2,Scu.byteAt s 3,d⟩⟩≠0 then
   (Scu.req0,Scu.reqFault ⟨Scu.byteAt s 0,n,⟨Scu.byteAt s 1,Scu.byteAt s 2,Scu.byteAt s 3,d⟩⟩) else (⟨Scu.byteAt s 0,n,⟨Scu.byteAt s 1,Scu.byteAt s 2,Scu.byteAt s 3,d⟩⟩,0):=by
  unfold Scu.decode;rw [if_neg Hc,if_neg h4];simp only [Hg,Hj]
 have Hm:s1.size<=maxLen:=by
  exact zJ1
 have k1:∀ w,Calls Tryz.prog 93 #[.string (s.extract 4 s.size)] w fun e w'=>e=.returned (.tuple #[.int .i64 n,.string s1,.int .i64 e1])/\Below w.heap.size w w':=fun w=>by
  have:=zKb (s.extract 4 s.size) w;exact zP1
 have k2:∀ w,Calls Tryz.prog 94 #[.string s1] w fun e w'=>e=.returned (.tuple #[.string d,.string s2,.int .i64 e2])/\Below w.heap.size w w':=fun w=>by
  have:=zOj s1 w Hm;rw [Hj] at this;exact this
 have K1:=mA k1;have K2:=mA k2;have HD:=mA Hl;have Hn:=mA (zBe s2);clear Hl Hc h4 Hg Hj k1 k2 Hm;go_enter Tryz.func60,Tryz.ntmps60
 go_wp2_with fail
 refine (K1.out _).mono ?_;rintro e w1 ⟨rfl,h1⟩;obtain ⟨hc,hz⟩:=bcell h1;have Hz:w.heap.size+1 < w1.heap.size:=by have:=h1.size;simp at this;omega
 have Ht:w.heap.size < w1.heap.size:=by omega
 have Ho:Below w.heap.size w w1:=(((mG _ _).alloc (mC _) _).alloc (by simp) _).trans (h1.mono (by simp;omega));by_cases Hh:e1=0
 ·subst Hh;go_wp2_with fail
  refine (K2.out _).mono ?_;rintro e w2 ⟨rfl,h2⟩;obtain ⟨Ka,Kb⟩:=bcell h2;have Hu:w.heap.size+1 < w2.heap.size:=by have:=h2.size;omega
  have Hp:w.heap.size < w2.heap.size:=by omega
  have Hk:Below w.heap.size w w2:=Ho.trans (h2.mono (by omega));have Ha:=((((Blk.new w 53 #[.int .i64 0,.int .i64 0,.int .i64 0,.int .i64 0,.int .i64 0,.string ⟨#[]⟩]).alloc (.cells #[.int .i64 (Scu.byteAt s 0),.int .i64 0,.int .i64 (Scu.byteAt s 1),.int .i64 (Scu.byteAt s 2),.int .i64 (Scu.byteAt s 3),.string ⟨#[]⟩] 53)).same h1).same h2);obtain ⟨u0,u1,u2,u3,u4,u5⟩:=cz6 Ha;have Hv:=mA Ha;clear Ha;by_cases Hi:e2=0
  ·subst Hi;by_cases Hd:s2=Scu.str0
   ·have He:s2.toList=[]:=Hn.out.2 (by rw [Hd];rfl);have Hq:=mA Hd;clear Hd;go_wp2_with fail
    refine (zEh ⟨Scu.byteAt s 0,n,⟨Scu.byteAt s 1,Scu.byteAt s 2,Scu.byteAt s 3,d⟩⟩ _).mono ?_;rintro e w3 ⟨rfl,h3⟩;obtain ⟨Kc,Kd⟩:=bcell h3;have Hw:w.heap.size+1 < w3.heap.size:=by have:=h3.size;simp at this;omega
    have Hr:w.heap.size < w3.heap.size:=by omega
    have Hs:Below w.heap.size w w3:=((Hk.setCell (p:=⟨w.heap.size+1,1,none⟩) (by simp) _).setCell (p:=⟨w.heap.size+1,5,none⟩) (by simp) _).trans (h3.mono (by simp;omega));have Hb:=((Hv.out.far (p:=⟨w.heap.size+1,1,none⟩) (by simp) (.int .i64 n)).far (p:=⟨w.heap.size+1,5,none⟩) (by simp) (.string d)).same h3;obtain ⟨y0,y1,y2,y3,y4,y5⟩:=cz6 Hb;have Ke:=mA Hb;clear Hb;by_cases hf:Scu.reqFault ⟨Scu.byteAt s 0,n,⟨Scu.byteAt s 1,Scu.byteAt s 2,Scu.byteAt s 3,d⟩⟩=0
    ·have hr:Scu.decode s=(⟨Scu.byteAt s 0,n,⟨Scu.byteAt s 1,Scu.byteAt s 2,Scu.byteAt s 3,d⟩⟩,0):=by
      exact zK1
     have HR:=mA hr;have Hx:(Scu.reqFault ⟨Scu.byteAt s 0,n,⟨Scu.byteAt s 1,Scu.byteAt s 2,Scu.byteAt s 3,d⟩⟩ != 0)=false:=by simpa using hf
     clear hr hf;go_wp2
     refine bodyPost_ret (v:=.tuple #[.agg #[.int .i64 (Scu.byteAt s 0),.int .i64 n,.int .i64 (Scu.byteAt s 1),.int .i64 (Scu.byteAt s 2),.int .i64 (Scu.byteAt s 3),.string d],.int .i64 0]) (by simp [results,Tryz.results60,go_sem,y0,y1,y2,y3,y4,y5]) rfl ?_;exact ⟨by rw [HR.out];rfl,zCe Hs (mC _)⟩
    have hr:Scu.decode s=(Scu.req0,Scu.reqFault ⟨Scu.byteAt s 0,n,⟨Scu.byteAt s 1,Scu.byteAt s 2,Scu.byteAt s 3,d⟩⟩):=by
     exact zQ1
    have HR:=mA hr;have Hx:(Scu.reqFault ⟨Scu.byteAt s 0,n,⟨Scu.byteAt s 1,Scu.byteAt s 2,Scu.byteAt s 3,d⟩⟩ != 0)=true:=by simpa using hf
    clear hr hf;go_wp2
    refine bodyPost_ret (v:=.tuple #[.agg #[.int .i64 0,.int .i64 0,.int .i64 0,.int .i64 0,.int .i64 0,.string ⟨#[]⟩],.int .i64 (Scu.reqFault ⟨Scu.byteAt s 0,n,⟨Scu.byteAt s 1,Scu.byteAt s 2,Scu.byteAt s 3,d⟩⟩)]) (by simp [results,Tryz.results60,go_sem,y0,y1,y2,y3,y4,y5]) rfl ?_;exact ⟨by rw [HR.out];rfl,zCe Hs (mC _)⟩
   have He:¬ s2.toList=[]:=fun e=>Hd ((Scu.size_zero_iff _).1 (Hn.out.1 e))
   have Hy:s2.toList.isEmpty=false:=by simpa using He
   have hr:Scu.decode s=(Scu.req0,4):=by rw [HD.out,if_neg (by simp),if_neg (by simp),if_pos Hd]
   have HR:=mA hr;clear hr Hd;go_wp2
   refine bodyPost_ret (v:=.tuple #[.agg #[.int .i64 0,.int .i64 0,.int .i64 0,.int .i64 0,.int .i64 0,.string ⟨#[]⟩],.int .i64 4]) (by simp [results,Tryz.results60,go_sem,u0,u1,u2,u3,u4,u5]) rfl ?_;exact ⟨by rw [HR.out];rfl,zCe Hk (mC _)⟩
  have Kf:(e2 != 0)=true:=by simpa using Hi
  have hr:Scu.decode s=(Scu.req0,e2):=by rw [HD.out,if_neg (by simp),if_pos Hi]
  have HR:=mA hr;clear hr Hi;go_wp2
  refine bodyPost_ret (v:=.tuple #[.agg #[.int .i64 0,.int .i64 0,.int .i64 0,.int .i64 0,.int .i64 0,.string ⟨#[]⟩],.int .i64 e2]) (by simp [results,Tryz.results60,go_sem,u0,u1,u2,u3,u4,u5]) rfl ?_;exact ⟨by rw [HR.out];rfl,zCe Hk (mC _)⟩
 have Kg:(e1 != 0)=true:=by simpa using Hh
 have hr:Scu.decode s=(Scu.req0,e1):=by rw [HD.out,if_pos Hh]
 have HR:=mA hr;clear hr Hh;go_wp2
 have Hf:=((Blk.new w 53 #[.int .i64 0,.int .i64 0,.int .i64 0,.int .i64 0,.int .i64 0,.string ⟨#[]⟩]).alloc (.cells #[.int .i64 (Scu.byteAt s 0),.int .i64 0,.int .i64 (Scu.byteAt s 1),.int .i64 (Scu.byteAt s 2),.int .i64 (Scu.byteAt s 3),.string ⟨#[]⟩] 53)).same h1;obtain ⟨u0,u1,u2,u3,u4,u5⟩:=cz6 Hf;refine bodyPost_ret (v:=.tuple #[.agg #[.int .i64 0,.int .i64 0,.int .i64 0,.int .i64 0,.int .i64 0,.string ⟨#[]⟩],.int .i64 e1]) (by simp [results,Tryz.results60,go_sem,u0,u1,u2,u3,u4,u5]) rfl ?_;exact ⟨by rw [HR.out];rfl,zCe Ho (mC _)⟩
end Go.Proofs.YtlngfbngnnepiaaGreat
