/- Part 8: words and walks under the laws of the whole. -/
import Derived.Test.YtjnjhmkgfjikfaaDoorLv7
set_option linter.unusedVariables false
set_option linter.unusedSimpArgs false
set_option maxHeartbeats 4000000
set_option maxRecDepth 100000
namespace Go.Proofs.YtjnjhmkgfjikfaaDoor
open Go.RowKit
def OwnStrs (w:World) (base:Nat) (v:Value) (xs:List Scu.Str):Prop:=w.ownsRow base 9 1 v xs.length (xs.map Value.string)/\xs.length*16<=R47/\∀ s ∈ xs,s.size<=R47
theorem OwnStrs.is {w:World} {base:Nat} {v:Value} {xs:List Scu.Str} (h:OwnStrs w base v xs):IsStrs w 0 v xs:=zBx h.1 h.2.1 h.2.2
theorem OwnStrs.form {w:World} {base:Nat} {v:Value} {xs:List Scu.Str} (h:OwnStrs w base v xs):∃ A n c,v=.slice A n c:=h.is.form
theorem OwnStrs.below {w w':World} {base:Nat} {v:Value} {xs:List Scu.Str} (h:OwnStrs w base v xs) (hb:Below w.heap.size w w'):OwnStrs w' base v xs:=⟨zAi h.1 hb,h.2.1,h.2.2⟩
theorem OwnStrs.alloc {w:World} {base:Nat} {v:Value} {xs:List Scu.Str} (h:OwnStrs w base v xs) (o:Obj):OwnStrs (w.alloc o) base v xs:=h.below (zAa w o)
theorem OwnStrs.base_ {w:World} {base base':Nat} {v:Value} {xs:List Scu.Str} (h:OwnStrs w base v xs) (hb:base'<=base):OwnStrs w base' v xs:=⟨zAh h.1 hb,h.2.1,h.2.2⟩
theorem OwnStrs.set_ {w:World} {base:Nat} {v:Value} {xs:List Scu.Str} (h:OwnStrs w base v xs) {g i:Nat} {t:TypeId} {cs:Array Value} (hb:Blk w g t cs) (Ha:t≠9) (u:Value):OwnStrs (w.setCell ⟨g,i,none⟩ u) base v xs:=⟨zDc h.1 hb Ha u,h.2.1,h.2.2⟩
theorem zBb {w w':World} {Ts:List TypeId} {B base:Nat} {e:TypeId} {size n:Nat} {v:Value} {xs:List Value} (h:w.ownsRow base e size v n xs) (ht:e ∈ Ts) (hs:Same Ts B w w'):w'.ownsRow base e size v n xs:=by
 obtain ⟨h1,h2 | ⟨g,cap,cur,rfl,h3,h4,h5⟩⟩:=h
 ·exact ⟨h1,.inl h2⟩
 have Ha:g < w.heap.size:=by
  rcases Nat.lt_or_ge g w.heap.size with Ha | Hb
  ·exact Ha
  rw [Array.getElem?_eq_none Hb] at h4;cases h4
 have:=hs.keep g Ha (.inr ⟨_,_,_,ht,h4⟩)
 exact ⟨h1,.inr ⟨g,cap,cur,rfl,h3,by rw [this];exact h4,h5⟩⟩
theorem OwnStrs.same {w w':World} {B base:Nat} {v:Value} {xs:List Scu.Str} (h:OwnStrs w base v xs) (hs:Same [9] B w w'):OwnStrs w' base v xs:=⟨zBb h.1 (by simp) hs,h.2.1,h.2.2⟩
theorem Same.sets5 {Ts:List TypeId} {B g:Nat} {w:World} {t:TypeId} {cs:Array Value} (hb:Blk w g t cs) (hB:B<=g) (ht:t ∉ Ts) (a b c d e:Value) :
 Same Ts B w (((((w.setCell ⟨g,0,none⟩ a).setCell ⟨g,1,none⟩ b).setCell ⟨g,2,none⟩ c).setCell ⟨g,3,none⟩ d).setCell ⟨g,4,none⟩ e) :=
 ((((Same.set_ hb hB ht 0 a).trans (Same.set_ (hb.set_ 0 a) hB ht 1 b)).trans (Same.set_ ((hb.set_ 0 a).set_ 1 b) hB ht 2 c)).trans (Same.set_ (((hb.set_ 0 a).set_ 1 b).set_ 2 c) hB ht 3 d)).trans (Same.set_ ((((hb.set_ 0 a).set_ 1 b).set_ 2 c).set_ 3 d) hB ht 4 e)
theorem zEm {B g:Nat} {w w1:World} {a b c d e:Value} (h:Below B w w1) (hg:B<=g) :
 Below B w (((((w1.setCell ⟨g,0,none⟩ a).setCell ⟨g,1,none⟩ b).setCell ⟨g,2,none⟩ c).setCell ⟨g,3,none⟩ d).setCell ⟨g,4,none⟩ e) :=
 ((((h.setCell (p:=⟨g,0,none⟩) hg _).setCell (p:=⟨g,1,none⟩) hg _).setCell (p:=⟨g,2,none⟩) hg _).setCell (p:=⟨g,3,none⟩) hg _).setCell (p:=⟨g,4,none⟩) hg _
def KeptRet (w:World) (base:Nat) (k:Scu.Kept) (e:Ending):Prop:=∃ lv,e=.returned (.agg #[.int .i64 k.view,.int .i64 k.normal,.bool k.calm,lv,.int .i64 k.commit])/\OwnStrs w base lv k.log
theorem zCp (lv:Value) (k:Scu.Kept) (w:World) (B:Nat) (hv:IsStrs w B lv k.log) :
 Calls Tryd.prog 19 #[.agg #[.int .i64 k.view,.int .i64 k.normal,.bool k.calm,lv,.int .i64 k.commit]] w fun e w'=>KeptRet w' w.heap.size k e/\Below w.heap.size w w':=by
 have HV:=mA hv
 obtain ⟨A,n,c,rfl⟩:=hv.form
 have Hb:=Blk.new w 25 #[.int .i64 k.view,.int .i64 k.normal,.bool k.calm,.slice A n c,.int .i64 k.commit]
 clear hv
 go_enter Tryd.func19,Tryd.ntmps19
 go_wp2_with fail
 refine (zAo _ k.log _ B ((HV.out.alloc _).alloc _)).mono ?_;rintro e w1 ⟨⟨u,rfl,hu⟩,h1⟩
 obtain ⟨hc,hz⟩:=bcell h1
 have Hg:w.heap.size+1 < w1.heap.size:=by have:=h1.size;simp at this;omega
 have Hd:w.heap.size < w1.heap.size:=by omega
 have Hc:=mA ((Hb.alloc (.cells #[.int .i64 0,.int .i64 0,.bool false,.slice none 0 0,.int .i64 0] 25)).same h1)
 have He:=mA ((Blk.new (w.alloc (.cells #[.int .i64 k.view,.int .i64 k.normal,.bool k.calm,.slice A n c,.int .i64 k.commit] 25)) 25 #[.int .i64 0,.int .i64 0,.bool false,.slice none 0 0,.int .i64 0]).same h1)
 obtain ⟨A2,c2,rfl,_,_,_,_⟩:=zAk hu
 have Hf:Below w.heap.size w w1:=(((mG _ _).alloc (mC _) _).alloc (by simp) _).trans (h1.mono (by simp;omega))
 have HU:=mA (show OwnStrs w1 _ _ k.log from ⟨hu,HV.out.len,HV.out.each⟩)
 clear hu Hb
 have hq:=Hc.out.set_ 3 (.slice A2 k.log.length c2)
 have hr:=He.out.far (p:=⟨w.heap.size,3,none⟩) (by simp) (.slice A2 k.log.length c2)
 simp only [World.size_alloc] at hr
 have Ha:=((((hr.set_ 0 (.int .i64 k.view)).set_ 1 (.int .i64 k.normal)).set_ 2 (.bool k.calm)).set_ 3 (.slice A2 k.log.length c2)).set_ 4 (.int .i64 k.commit)
 have u0:=hq.cell 0
 have u1:=hq.cell 1
 have u2:=hq.cell 2
 have u3:=hq.cell 3
 have u4:=hq.cell 4
 simp at u0 u1 u2 u3 u4
 have v0:=hr.cell 0
 have v1:=hr.cell 1
 have v2:=hr.cell 2
 have v3:=hr.cell 3
 have v4:=hr.cell 4
 simp at v0 v1 v2 v3 v4
 have x0:=Ha.cell 0
 have x1:=Ha.cell 1
 have x2:=Ha.cell 2
 have x3:=Ha.cell 3
 have x4:=Ha.cell 4
 simp at x0 x1 x2 x3 x4
 have uz:=hq.frozen
 have vz:=hr.frozen
 have HQ:=mA (mB hq (mB hr Ha))
 clear hq hr Ha
 go_wp2
 refine bodyPost_ret (v:=.agg #[.int .i64 k.view,.int .i64 k.normal,.bool k.calm,.slice A2 k.log.length c2,.int .i64 k.commit]) (by simp [results,Tryd.results19,go_sem,x0,x1,x2,x3,x4]) rfl ?_
 refine ⟨⟨_,rfl,?_⟩,?_⟩
 ·exact ((HU.out.base_ (by simp;omega)).same (Same.set_ (B:=0) Hc.out (mE _) (by decide) 3 _)).same (Same.sets5 (B:=0) HQ.out.2.1 (mE _) (by decide) _ _ _ _ _)
 exact zEm (Hf.setCell (p:=⟨w.heap.size,3,none⟩) (mC _) _) (Nat.le_succ _)
open Go.RowKit Go.ChangeShapes Go.WideShapes Go.ChangeAt
abbrev vInt:Int->Value:=Value.int .i64
theorem zLm:ElT 26 3 1 8:=by
 obtain ⟨i,h1,h2,h3,h4⟩:=info_parts (P:=Tryd.prog) (e:=3) (z:=.int .i64 0) (size:=1) (bytes:=8) (by kernel_rfl)
 exact ⟨Tryd.underlying26,by omega,i,_,h1,h2,h3,h4,rfl⟩
theorem zJq:ElT 27 4 1 1:=by
 obtain ⟨i,h1,h2,h3,h4⟩:=info_parts (P:=Tryd.prog) (e:=4) (z:=.bool false) (size:=1) (bytes:=1) (by kernel_rfl)
 exact ⟨Tryd.underlying27,by omega,i,_,h1,h2,h3,h4,rfl⟩
theorem zJr:ElT 28 25 5 56:=by
 obtain ⟨i,h1,h2,h3,h4⟩:=info_parts (P:=Tryd.prog) (e:=25) (z:=.agg #[.int .i64 0,.int .i64 0,.bool false,.slice none 0 0,.int .i64 0]) (size:=5) (bytes:=56) (by kernel_rfl)
 exact ⟨Tryd.underlying28,by omega,i,_,h1,h2,h3,h4,rfl⟩
theorem zJs (xs:List Int):∀ u ∈ xs.map vInt,u.oneCell'=true:=fun u hu=>by
 obtain ⟨s,_,rfl⟩:=List.mem_map.1 hu
 rfl
theorem zIa (xs:List Bool):∀ u ∈ xs.map Value.bool,u.oneCell'=true:=fun u hu=>by
 obtain ⟨s,_,rfl⟩:=List.mem_map.1 hu
 rfl
theorem zGe (v:Value) (xs:List Int) (w:World) (B:Nat) (hv:IsOnes 3 8 vInt w B v xs) :
 Calls Tryd.prog 47 #[v] w fun e w'=>(∃ u,e=.returned u/\w'.ownsRow w.heap.size 3 1 u xs.length (xs.map vInt))/\Below w.heap.size w w':=by
 obtain ⟨⟨A,c,rfl,He,hr⟩,hl⟩:=hv
 have Hb:=fun (W:World)=>Lib.run_eql_slice_nil (P:=Tryd.prog) W 26 3 A xs.length c 0 0 Tryd.underlying26
 rcases A with _ | ad
 ·have hx:xs=[]:=by
   have:=zGc hr
   simpa using this
  subst hx
  have Hc:=fun (W:World)=>Lib.run_eql_slice_nil (P:=Tryd.prog) W 26 3 none 0 c 0 0 Tryd.underlying26
  clear Hb
  go_enter Tryd.func47,Tryd.ntmps47
  go_wp2
  go_ret
  exact ⟨⟨_,rfl,World.ownsRow_nil _ _ _ _⟩,mG _ _⟩
 have Hd:=hl
 unfold R47 at Hd
 go_enter Tryd.func47,Tryd.ntmps47
 go_wp2_with (at_builtin;refine zDn _ rfl _ _ 26 rfl zLm w.heap.size _ 0 [] rfl (zGd (mC _)) _ xs.length (xs.map vInt) rfl ?c1 (zJs xs) (by unfold maxLen;omega) (by omega) (by simp) ?_)
 case c1=>exact zEa (hr.alloc _) (by simp) (fun e=>by cases e)
 intro v1 w1 Ha hg hw
 have HO:=mA Ha
 have HW:=mA hw
 clear Ha hw
 go_wp2
 go_ret
 refine ⟨⟨_,rfl,HO.out⟩,?_⟩
 exact ((mG _ _).alloc (mC _) _).trans (zCn hg (by simp) (fun k hk=>by simp [Value.ownBlock] at hk;omega))
theorem zDi (v:Value) (xs:List Bool) (w:World) (B:Nat) (hv:IsOnes 4 1 Value.bool w B v xs) :
 Calls Tryd.prog 48 #[v] w fun e w'=>(∃ u,e=.returned u/\w'.ownsRow w.heap.size 4 1 u xs.length (xs.map Value.bool))/\Below w.heap.size w w':=by
 obtain ⟨⟨A,c,rfl,He,hr⟩,hl⟩:=hv
 have Hb:=fun (W:World)=>Lib.run_eql_slice_nil (P:=Tryd.prog) W 27 4 A xs.length c 0 0 Tryd.underlying27
 rcases A with _ | ad
 ·have hx:xs=[]:=by
   have:=zGc hr
   simpa using this
  subst hx
  have Hc:=fun (W:World)=>Lib.run_eql_slice_nil (P:=Tryd.prog) W 27 4 none 0 c 0 0 Tryd.underlying27
  clear Hb
  go_enter Tryd.func48,Tryd.ntmps48
  go_wp2
  go_ret
  exact ⟨⟨_,rfl,World.ownsRow_nil _ _ _ _⟩,mG _ _⟩
 have Hd:=hl
 unfold R47 at Hd
 go_enter Tryd.func48,Tryd.ntmps48
 go_wp2_with (at_builtin;refine zDn _ rfl _ _ 27 rfl zJq w.heap.size _ 0 [] rfl (zGd (mC _)) _ xs.length (xs.map Value.bool) rfl ?c1 (zIa xs) (by unfold maxLen;omega) (by omega) (by simp) ?_)
 case c1=>exact zEa (hr.alloc _) (by simp) (fun e=>by cases e)
 intro v1 w1 Ha hg hw
 have HO:=mA Ha
 have HW:=mA hw
 clear Ha hw
 go_wp2
 go_ret
 refine ⟨⟨_,rfl,HO.out⟩,?_⟩
 exact ((mG _ _).alloc (mC _) _).trans (zCn hg (by simp) (fun k hk=>by simp [Value.ownBlock] at hk;omega))
theorem KeptEl.same {w w':World} {B:Nat} {Ts:List TypeId} {cs:List Value} {k:Scu.Kept} (h:KeptEl w B cs k) (ht:9 ∈ Ts) (hs:Same Ts B w w'):KeptEl w' B cs k:=by
 obtain ⟨lv,e,h⟩:=h
 exact ⟨lv,e,h.same ht hs⟩
theorem KeptEl.len {w:World} {B:Nat} {cs:List Value} {k:Scu.Kept} (h:KeptEl w B cs k):cs.length=5:=by
 obtain ⟨lv,rfl,_⟩:=h
 rfl
structure IsRep (w:World) (B:Nat) (lv hv wv gv nv:Value) (r:Scu.Replica):Prop where
 log:IsStrs w B lv r.kept.log
 have_:IsOnes 3 8 vInt w B hv r.have_
 wants:IsOnes 4 1 Value.bool w B wv r.wants
 gives:IsRow 25 5 56 KeptEl w B gv r.gives
 given:IsOnes 4 1 Value.bool w B nv r.given
section
variable {w w':World} {B B':Nat} {lv hv wv gv nv:Value} {r:Scu.Replica} {Ts:List TypeId}
theorem IsRep.same (h:IsRep w B lv hv wv gv nv r) (hs:Same [9,3,4,25] B w w'):IsRep w' B lv hv wv gv nv r :=
 ⟨h.log.same (by simp) hs,h.have_.same (by simp) hs,h.wants.same (by simp) hs,h.gives.same (by simp) hs (fun _ _ hk=>hk.same (by simp) hs),h.given.same (by simp) hs⟩
theorem IsRep.below (h:IsRep w B lv hv wv gv nv r) (hb:Below w.heap.size w w'):IsRep w' B lv hv wv gv nv r:=h.same (Same.below hb)
theorem IsRep.alloc (h:IsRep w B lv hv wv gv nv r) (o:Obj):IsRep (w.alloc o) B lv hv wv gv nv r:=h.same (Same.alloc w o)
end
section
variable {H:Type} {enc:TypeId × Value->H} {w:World} {base:Nat} {spare:Nat->Bool} {held:Bool} {n:Nat}
end
open Go.RowKit
def haveBad (n : Nat) (h : Int) : Bool := decide (h < 0) || decide ((n : Int) < h)
def giveBad (g : Scu.Kept) : Bool := decide (Scu.keptFault g ≠0)
theorem zGq {r : Scu.Replica} (h : r.me < 0\/3 <= r.me) : Scu.repFault r = 2 := if_pos h
theorem zDo {r : Scu.Replica} (h : ¬ (r.me < 0\/3 <= r.me)) (h' : r.have_.length ≠3\/r.wants.length ≠3\/r.gives.length ≠3\/r.given.length ≠3) : Scu.repFault r = 8 := by
 unfold Scu.repFault
 rw [if_neg h, if_pos h']
theorem zJt {r : Scu.Replica} (h : ¬ (r.me < 0\/3 <= r.me)) (h1 : r.have_.length = 3) (h2 : r.wants.length = 3) (h3 : r.gives.length = 3) (h4 : r.given.length = 3) :
 Scu.repFault r = if (r.have_.any (haveBad r.kept.log.length) || r.gives.any giveBad) = true then 8 else Scu.keptFault r.kept := by
 unfold Scu.repFault
 rw [if_neg h, if_neg (by omega)]
 rfl
theorem zEb {w : World} {B : Nat} {A : Option Addr} {css : List (List Value)} {gs : List Scu.Kept} {k : Nat} (hl : css.length = gs.length) (hm : ∀ cs ∈ css, cs.length = 5) (h : Rd w B 25 A css.flatten)
 (h6 : ∀ (j : Nat) (cs : List Value) (x : Scu.Kept), css[j]? = some cs -> gs[j]? = some x -> KeptEl w B cs x) (hk : k < gs.length) :
 ∃ g o lv, A = some ⟨g, o, none⟩ /\ g < w.heap.size /\ w.cell? ⟨g, o + k * 5, none⟩ = some (.int .i64 gs[k].view) /\ w.cell? ⟨g, o + k * 5 + 1, none⟩ = some (.int .i64 gs[k].normal) /\ w.cell? ⟨g, o + k * 5 + 2, none⟩ = some (.bool gs[k].calm) /\
  w.cell? ⟨g, o + k * 5 + 3, none⟩ = some lv /\ w.cell? ⟨g, o + k * 5 + 4, none⟩ = some (.int .i64 gs[k].commit) /\ IsStrs w B lv gs[k].log := by
 obtain ⟨g, o, cs, h1, h2, _, h4, lv, rfl, h5⟩ := zCo hl hm (by omega) h h6 hk
 exact ⟨g, o, lv, h1, h2, h4 0 _ rfl, by rw [Nat.add_assoc]; exact h4 1 _ rfl, by rw [Nat.add_assoc]; exact h4 2 _ rfl, by rw [Nat.add_assoc]; exact h4 3 _ rfl, by rw [Nat.add_assoc]; exact h4 4 _ rfl, h5⟩
theorem zHh (lv Hq wv gv nv : Value) (r : Scu.Replica) (w : World) (B : Nat) (hv : IsRep w B lv Hq wv gv nv r) :
 Calls Tryd.prog 36 #[.agg #[.int .i64 r.me, .int .i64 r.kept.view, .int .i64 r.kept.normal, .bool r.kept.calm, lv, .int .i64 r.kept.commit, Hq, wv, gv, nv]] w fun e w' =>
  e = .returned (.int .i64 (Scu.repFault r)) /\ Below w.heap.size w w' := by
 have HV := mA hv
 obtain ⟨⟨A0, c0, rfl, _, Hf⟩, Hv, Hc⟩ := hv.log
 obtain ⟨⟨A1, c1, rfl, _, Hd⟩, Hw⟩ := hv.have_
 obtain ⟨⟨A2, c2, rfl, _, Hg⟩, Hx⟩ := hv.wants
 obtain ⟨⟨A3, c3, css, rfl, _, Hr, Hs, He, Ht⟩, Hy⟩ := hv.gives
 obtain ⟨⟨A4, c4, rfl, _, Hh⟩, Hz⟩ := hv.given
 unfold R47 at Hv Hw Hx Hy Hz
 have Hb := mA (mB Hr (mB Hs Ht))
 clear hv Hr Hs Ht
 cases t1 : decide (r.me < 0) with
 | true =>
   have HF := mA (show Scu.repFault r = 2 from zGq (.inl (of_decide_eq_true t1)))
   clear Hf Hd Hg He Hh Hb Hc
   go_enter Tryd.func36, Tryd.ntmps36
   go_wp2
   go_ret
   exact ⟨zAb (zAg HF.out.symm), (mG _ _).alloc (mC _) _⟩
 | false =>
 cases t2 : decide ((3 : Int) <= r.me) with
 | true =>
   have HF := mA (show Scu.repFault r = 2 from zGq (.inr (of_decide_eq_true t2)))
   clear Hf Hd Hg He Hh Hb Hc
   go_enter Tryd.func36, Tryd.ntmps36
   go_wp2
   go_ret
   exact ⟨zAb (zAg HF.out.symm), (mG _ _).alloc (mC _) _⟩
 | false =>
 have Hi := mA (show ¬ (r.me < 0\/3 <= r.me) from fun h => h.elim (of_decide_eq_false t1) (of_decide_eq_false t2))
 cases t3 : ((r.have_.length : Int) != 3) with
 | true =>
   have HF := mA (show Scu.repFault r = 8 from zDo Hi.out (.inl (by have := bne_iff_ne.1 t3; omega)))
   clear Hf Hd Hg He Hh Hb Hc
   go_enter Tryd.func36, Tryd.ntmps36
   go_wp2
   go_ret
   exact ⟨zAb (zAg HF.out.symm), (mG _ _).alloc (mC _) _⟩
 | false =>
 cases t4 : ((r.wants.length : Int) != 3) with
 | true =>
   have HF := mA (show Scu.repFault r = 8 from zDo Hi.out (.inr (.inl (by have := bne_iff_ne.1 t4; omega))))
   clear Hf Hd Hg He Hh Hb Hc
   go_enter Tryd.func36, Tryd.ntmps36
   go_wp2
   go_ret
   exact ⟨zAb (zAg HF.out.symm), (mG _ _).alloc (mC _) _⟩
 | false =>
 cases t5 : ((r.gives.length : Int) != 3) with
 | true =>
   have HF := mA (show Scu.repFault r = 8 from zDo Hi.out (.inr (.inr (.inl (by have := bne_iff_ne.1 t5; omega)))))
   clear Hf Hd Hg He Hh Hb Hc
   go_enter Tryd.func36, Tryd.ntmps36
   go_wp2
   go_ret
   exact ⟨zAb (zAg HF.out.symm), (mG _ _).alloc (mC _) _⟩
 | false =>
 cases t6 : ((r.given.length : Int) != 3) with
 | true =>
   have HF := mA (show Scu.repFault r = 8 from zDo Hi.out (.inr (.inr (.inr (by have := bne_iff_ne.1 t6; omega)))))
   clear Hf Hd Hg He Hh Hb Hc
   go_enter Tryd.func36, Tryd.ntmps36
   go_wp2
   go_ret
   exact ⟨zAb (zAg HF.out.symm), (mG _ _).alloc (mC _) _⟩
 | false =>
 have l1 : r.have_.length = 3 := by have h : (r.have_.length : Int) = 3 := by simpa using t3
                                    omega
 have l2 : r.wants.length = 3 := by have h : (r.wants.length : Int) = 3 := by simpa using t4
                                    omega
 have l3 : r.gives.length = 3 := by have h : (r.gives.length : Int) = 3 := by simpa using t5
                                    omega
 have l4 : r.given.length = 3 := by have h : (r.given.length : Int) = 3 := by simpa using t6
                                    omega
 have HF := mA (zJt Hi.out l1 l2 l3 l4)
 have L1 := mA l1
 have L3 := mA l3
 have Kf := mA Hc
 clear l1 l2 l3 l4 Hc
 go_enter Tryd.func36, Tryd.ntmps36
 go_wp2
 go_loopw [38] (fun i wr => ∃ j : Nat, j <= r.gives.length /\ i = .int .i64 j /\ Hid ((r.have_.take j).any (haveBad r.kept.log.length) = false /\ (r.gives.take j).any giveBad = false) /\ Below (w.heap.size + 1) (w.alloc (.cells (rN r A0 r.kept.log.length c0 A1 c1 A2 c2 A3 c3 A4 c4) 30)) wr) (fun i _ => r.gives.length - (intOf i).toNat)
 case atStart => exact ⟨0, mE _, rfl, by simp [Hid], mG _ _⟩
 case round =>
  obtain ⟨j, hj, rfl, ht, Ha⟩ := hrel
  have Ka := Ha.size
  simp only [World.size_alloc] at Ka
  have Kb : w.heap.size < wr.heap.size := by omega
  obtain ⟨Kg, Kh⟩ := bcell Ha
  by_cases Hl : j < r.gives.length
  ·have Hn : (j : Int) < (r.gives.length : Int) := by omega
   have Hm : j < r.have_.length := by have := L1.out; have := L3.out; omega
   have Kc : (j : Int) < (r.have_.length : Int) := by omega
   have Ki := mA ((HV.out.alloc (.cells (rN r A0 r.kept.log.length c0 A1 c1 A2 c2 A3 c3 A4 c4) 30)).below (Ha.mono (by simp)))
   obtain ⟨g, o, lvj, e3, hg, k0, k1, k2, k3, k4, Ho⟩ := zEb Hb.out.1 Hb.out.2.1 ((He.alloc (.cells (rN r A0 r.kept.log.length c0 A1 c1 A2 c2 A3 c3 A4 c4) 30)).below (Ha.mono (by simp))) (fun j cs x a b => ((Hb.out.2.2 j cs x a b).same (Ts := [9]) (by simp) (Same.alloc w (.cells (rN r A0 r.kept.log.length c0 A1 c1 A2 c2 A3 c3 A4 c4) 30))).same (Ts := [9]) (by simp) (Same.below (Ha.mono (by simp)))) Hl
   obtain ⟨g1, o1, e1, Kj, m0⟩ := zJl ((Hd.alloc (.cells (rN r A0 r.kept.log.length c0 A1 c1 A2 c2 A3 c3 A4 c4) 30)).below (Ha.mono (by simp))) Hm
   subst e3 e1
   have Kd := mA Ho
   obtain ⟨Aj, nj, cj, rfl⟩ := Ho.form
   have Hj := mA Ha
   clear Ho Ha
   cases u1 : decide (r.have_[j] < 0) with
   | true =>
     have HX := mA (show Scu.repFault r = 8 by rw [HF.out, zDy (haveBad r.kept.log.length) r.have_ j Hm (by unfold haveBad; rw [u1]; rfl)]; rfl)
     go_wp2
     go_quiet (fail)
     go_wp2
     go_ret
     exact ⟨zAb (zAg HX.out.symm), below_drewN (((zAa w _).trans (Hj.out.mono (by simp))).alloc (by omega) _) _⟩
   | false =>
   cases u2 : decide ((r.kept.log.length : Int) < r.have_[j]) with
   | true =>
     have HX := mA (show Scu.repFault r = 8 by rw [HF.out, zDy (haveBad r.kept.log.length) r.have_ j Hm (by unfold haveBad; rw [u1, u2]; rfl)]; rfl)
     go_wp2
     go_quiet (fail)
     go_wp2
     go_ret
     exact ⟨zAb (zAg HX.out.symm), below_drewN (((zAa w _).trans (Hj.out.mono (by simp))).alloc (by omega) _) _⟩
   | false =>
     have hq : w.heap.size < wr.heap.size + 1 := by omega
     have HH := mA (show haveBad r.kept.log.length r.have_[j] = false by unfold haveBad; rw [u1, u2]; rfl)
     cases u3 : (Scu.keptFault r.gives[j] != 0)
     all_goals
      have U3 := mA u3
      go_wp2_with fail
      go_region_held3 (fun w' => w'.cell? ⟨w.heap.size, 6, none⟩ = some (.slice (some ⟨g1, o1, none⟩) r.have_.length c1) /\ w'.cell? ⟨w.heap.size, 4, none⟩ = some (.slice A0 r.kept.log.length c0) /\ w'.cell? ⟨g1, o1 + j, none⟩ = some (.int .i64 r.have_[j]) /\
       w'.cell? ⟨wr.heap.size, 0, none⟩ = some (.int .i64 r.gives[j].view) /\ w'.cell? ⟨wr.heap.size, 1, none⟩ = some (.int .i64 r.gives[j].normal) /\ w'.cell? ⟨wr.heap.size, 2, none⟩ = some (.bool r.gives[j].calm) /\
       w'.cell? ⟨wr.heap.size, 3, none⟩ = some (.slice Aj nj cj) /\ w'.cell? ⟨wr.heap.size, 4, none⟩ = some (.int .i64 r.gives[j].commit)) (first | go_keep | (go_split_ands; refine ⟨?_, ?_, ?_, ?_, ?_, ?_, ?_, ?_⟩ <;> (refine (h1.cell (by first | (simp; done) | (simp; omega))).trans ?_; assumption)))
       ((go_at_call 18; refine (zBo _ r.gives[j] _ B ((Kd.out.alloc _).drewN _)).mono ?_; rintro e w1 ⟨rfl, h1⟩))
      have Hp := below_drewN (((zAa w _).trans (Hj.out.mono (by simp))).alloc (by omega) (.cells #[.int .i64 r.gives[j].view, .int .i64 r.gives[j].normal, .bool r.gives[j].calm, .slice Aj nj cj, .int .i64 r.gives[j].commit] 25)) 1
      have Hu := below_drewN (Hj.out.alloc (by omega) (.cells #[.int .i64 r.gives[j].view, .int .i64 r.gives[j].normal, .bool r.gives[j].calm, .slice Aj nj cj, .int .i64 r.gives[j].commit] 25)) 1
      have Hk := mA (Hp.trans (h1.mono Hp.size))
      have Ke := mA (Hu.trans (h1.mono (by simp; omega)))
      clear Hp Hu
      go_wp2
     ·go_roundw
      case rel =>
       refine ⟨j + 1, Hl, by go_num, ⟨?_, ?_⟩, Ke.out⟩
       ·rw [zGo _ r.have_ j Hm, ht.out.1, HH.out]; rfl
       rw [zGo _ r.gives j Hl, ht.out.2]
       unfold giveBad
       have := U3.out
       simpa using this
      case measure => simp only [intOf]; omega
     ·have HX := mA (show Scu.repFault r = 8 by
       rw [HF.out, zDy giveBad r.gives j Hl (by unfold giveBad; have := U3.out; simpa using this)]
       simp)
      go_ret
      exact ⟨zAb (zAg HX.out.symm), Hk.out⟩
  have Hn : (r.gives.length : Int) <= (j : Int) := by omega
  have HX := mA (show Scu.repFault r = Scu.keptFault r.kept by
   have e1 := zGp _ r.have_ j (by have := L1.out; have := L3.out; omega) ht.out.1
   have e2 := zGp _ r.gives j (by omega) ht.out.2
   rw [HF.out, e1, e2]; rfl)
  have Hj := mA Ha
  have Hk := mA ((zAa w _).trans (Ha.mono (by simp)))
  clear Ha
  go_wp2_with fail
  refine (zBo _ r.kept _ B (HV.out.log.below Hk.out)).mono ?_; rintro e w1 ⟨rfl, h1⟩
  go_wp2
  go_ret
  exact ⟨zAb (zAg HX.out.symm), Hk.out.trans (h1.mono Hk.out.size)⟩
theorem zJu (r:Scu.Replica) (h:r.kept.calm=true):Scu.leads r=(r.kept.view % 3 == r.me):=by
 unfold Scu.leads Scu.leader
 rw [h,Bool.eq_iff_iff]
 simp
theorem zBc (vi:Int) (w:World) (h0:0<=vi):Calls Tryd.prog 17 #[.int .i64 vi] w fun e w'=>e=.returned (.int .i64 (vi % 3))/\w=w':=by
 go_enter Tryd.func17,Tryd.ntmps17
 go_wp2
 go_ret
 exact ⟨rfl,rfl⟩
theorem zLn (me vi no:Int) (ca:Bool) (lv:Value) (co:Int) (hv wv gv nv:Value) (r:Scu.Replica) (h0:0<=vi) (h1:r.me=me) (h2:r.kept.view=vi) (h3:r.kept.calm=ca) (w:World) :
 Calls Tryd.prog 15 #[.agg #[.int .i64 me,.int .i64 vi,.int .i64 no,.bool ca,lv,.int .i64 co,hv,wv,gv,nv]] w fun e w'=>e=.returned (.bool (Scu.leads r))/\Below w.heap.size w w':=by
 cases ca
 ·have HF:=mA (show Scu.leads r=false by unfold Scu.leads;rw [h3];rfl)
  clear h1 h2 h3
  go_enter Tryd.func15,Tryd.ntmps15
  go_wp2
  go_quiet (fail)
  go_wp2
  go_ret
  exact ⟨zAb (zCb HF.out.symm),below_drewN (zAa w _) _⟩
 have HF:=mA (show Scu.leads r=(vi % 3 == me) by rw [zJu r h3,h1,h2])
 clear h1 h2 h3
 go_enter Tryd.func15,Tryd.ntmps15
 go_wp2
 go_quiet ((go_at_call 17;exact zBn ((zBc _ _ h0).mono fun _ _ h=>⟨h.1,0,h.2.symm⟩)))
 go_wp2
 go_ret
 exact ⟨zAb (zCb HF.out.symm),below_drewN (zAa w _) _⟩
theorem zIb (lv hv wv gv nv:Value) (r:Scu.Replica) (h0:0<=r.kept.view) (w:World):Calls Tryd.prog 15 #[.agg #[.int .i64 r.me,.int .i64 r.kept.view,.int .i64 r.kept.normal,.bool r.kept.calm,lv,.int .i64 r.kept.commit,hv,wv,gv,nv]] w fun e w'=>e=.returned (.bool (Scu.leads r))/\Below w.heap.size w w' :=
 zLn _ _ _ _ _ _ _ _ _ _ r h0 rfl rfl rfl w
open Go.RowKit Go.ChangeShapes Go.WideShapes Go.ChangeAt
def MC2 (fr tq vi n:Int):Prop:=fr < 0\/3<=fr\/tq < 0\/3<=tq\/fr=tq\/vi < 0\/1048576 < vi\/n < 0\/60 < n
def MC3 (ki no co n:Int) (lo:List Scu.Str):Prop:=(ki≠4/\no≠0)\/(ki≠2/\n≠0)\/((ki=2\/ki=3)/\(co≠0\/lo≠[]))
def MC4 (ki fr tq vi:Int):Prop:=(ki=1/\fr≠vi % 3)\/((ki=2\/ki=4)/\tq≠vi % 3)
section
variable {ki fr tq vi no co n:Int} {lo:List Scu.Str}
theorem zGr (h:ki < 1\/4 < ki):Scu.msgFault ⟨ki,fr,tq,vi,no,co,n,lo⟩=3:=if_pos h
theorem zBh (h1:¬ (ki < 1\/4 < ki)) (h2:MC2 fr tq vi n):Scu.msgFault ⟨ki,fr,tq,vi,no,co,n,lo⟩=2:=(if_neg h1).trans (if_pos h2)
theorem zAw (h1:¬ (ki < 1\/4 < ki)) (h2:¬ MC2 fr tq vi n) (h3:MC3 ki no co n lo):Scu.msgFault ⟨ki,fr,tq,vi,no,co,n,lo⟩=4:=((if_neg h1).trans (if_neg h2)).trans (if_pos h3)
theorem zEc (h1:¬ (ki < 1\/4 < ki)) (h2:¬ MC2 fr tq vi n) (h3:¬ MC3 ki no co n lo) (h4:MC4 ki fr tq vi):Scu.msgFault ⟨ki,fr,tq,vi,no,co,n,lo⟩=4:=(((if_neg h1).trans (if_neg h2)).trans (if_neg h3)).trans (if_pos h4)
theorem zGs (h1:¬ (ki < 1\/4 < ki)) (h2:¬ MC2 fr tq vi n) (h3:¬ MC3 ki no co n lo) (h4:¬ MC4 ki fr tq vi):Scu.msgFault ⟨ki,fr,tq,vi,no,co,n,lo⟩=Scu.keptFault ⟨vi,no,false,lo,co⟩:=(((if_neg h1).trans (if_neg h2)).trans (if_neg h3)).trans (if_neg h4)
end
theorem zKt {lo:List Scu.Str} (h:decide (0 < lo.length)=false):lo=[]:=by
 have:=of_decide_eq_false h
 exact List.eq_nil_of_length_eq_zero (by omega)
theorem zIc {lo:List Scu.Str} (h:decide (0 < lo.length)=true):lo≠[]:=by
 have:=of_decide_eq_true h
 rintro rfl
 simp at this
theorem zHi (lv:Value) (ki fr tq vi no co n:Int) (lo:List Scu.Str) (w:World) (B:Nat) (hv:IsStrs w B lv lo) :
 Calls Tryd.prog 24 #[.agg #[.int .i64 ki,.int .i64 fr,.int .i64 tq,.int .i64 vi,.int .i64 no,.int .i64 co,.int .i64 n,lv]] w fun e w' =>
  e=.returned (.int .i64 (Scu.msgFault ⟨ki,fr,tq,vi,no,co,n,lo⟩))/\Below w.heap.size w w':=by
 have HV:=mA hv
 obtain ⟨⟨A,c,rfl,_,hr⟩,hl,he⟩:=hv
 unfold R47 at hl
 clear hr he
 cases t1:decide (ki < 1) with
 | true =>
   have HF:=mA (show Scu.msgFault ⟨ki,fr,tq,vi,no,co,n,lo⟩=3 from zGr (.inl (of_decide_eq_true t1)))
   clear HV
   go_enter Tryd.func24,Tryd.ntmps24
   go_wp2
   go_ret
   exact ⟨zAb (zAg HF.out.symm),zAa w _⟩
 | false =>
 cases t2:decide ((4:Int) < ki) with
 | true =>
   have HF:=mA (show Scu.msgFault ⟨ki,fr,tq,vi,no,co,n,lo⟩=3 from zGr (.inr (of_decide_eq_true t2)))
   clear HV
   go_enter Tryd.func24,Tryd.ntmps24
   go_wp2
   go_ret
   exact ⟨zAb (zAg HF.out.symm),zAa w _⟩
 | false =>
 have H1:=mA (show ¬ (ki < 1\/4 < ki) from fun h=>h.elim (of_decide_eq_false t1) (of_decide_eq_false t2))
 cases t3:decide (fr < 0) with
 | true =>
   have HF:=mA (show Scu.msgFault ⟨ki,fr,tq,vi,no,co,n,lo⟩=2 from zBh H1.out (.inl (of_decide_eq_true t3)))
   clear HV
   go_enter Tryd.func24,Tryd.ntmps24
   go_wp2
   go_ret
   exact ⟨zAb (zAg HF.out.symm),zAa w _⟩
 | false =>
 cases t4:decide ((3:Int)<=fr) with
 | true =>
   have HF:=mA (show Scu.msgFault ⟨ki,fr,tq,vi,no,co,n,lo⟩=2 from zBh H1.out (.inr (.inl (of_decide_eq_true t4))))
   clear HV
   go_enter Tryd.func24,Tryd.ntmps24
   go_wp2
   go_ret
   exact ⟨zAb (zAg HF.out.symm),zAa w _⟩
 | false =>
 cases t5:decide (tq < 0) with
 | true =>
   have HF:=mA (show Scu.msgFault ⟨ki,fr,tq,vi,no,co,n,lo⟩=2 from zBh H1.out (.inr (.inr (.inl (of_decide_eq_true t5)))))
   clear HV
   go_enter Tryd.func24,Tryd.ntmps24
   go_wp2
   go_ret
   exact ⟨zAb (zAg HF.out.symm),zAa w _⟩
 | false =>
 cases t6:decide ((3:Int)<=tq) with
 | true =>
   have HF:=mA (show Scu.msgFault ⟨ki,fr,tq,vi,no,co,n,lo⟩=2 from zBh H1.out (.inr (.inr (.inr (.inl (of_decide_eq_true t6))))))
   clear HV
   go_enter Tryd.func24,Tryd.ntmps24
   go_wp2
   go_ret
   exact ⟨zAb (zAg HF.out.symm),zAa w _⟩
 | false =>
 cases t7:(fr == tq) with
 | true =>
   have HF:=mA (show Scu.msgFault ⟨ki,fr,tq,vi,no,co,n,lo⟩=2 from zBh H1.out (.inr (.inr (.inr (.inr (.inl (by simpa using t7)))))))
   clear HV
   go_enter Tryd.func24,Tryd.ntmps24
   go_wp2
   go_ret
   exact ⟨zAb (zAg HF.out.symm),zAa w _⟩
 | false =>
 cases t8:decide (vi < 0) with
 | true =>
   have HF:=mA (show Scu.msgFault ⟨ki,fr,tq,vi,no,co,n,lo⟩=2 from zBh H1.out (.inr (.inr (.inr (.inr (.inr (.inl (of_decide_eq_true t8))))))))
   clear HV
   go_enter Tryd.func24,Tryd.ntmps24
   go_wp2
   go_ret
   exact ⟨zAb (zAg HF.out.symm),zAa w _⟩
 | false =>
 cases t9:decide ((1048576:Int) < vi) with
 | true =>
   have HF:=mA (show Scu.msgFault ⟨ki,fr,tq,vi,no,co,n,lo⟩=2 from zBh H1.out (.inr (.inr (.inr (.inr (.inr (.inr (.inl (of_decide_eq_true t9)))))))))
   clear HV
   go_enter Tryd.func24,Tryd.ntmps24
   go_wp2
   go_ret
   exact ⟨zAb (zAg HF.out.symm),zAa w _⟩
 | false =>
 cases t10:decide (n < 0) with
 | true =>
   have HF:=mA (show Scu.msgFault ⟨ki,fr,tq,vi,no,co,n,lo⟩=2 from zBh H1.out (.inr (.inr (.inr (.inr (.inr (.inr (.inr (.inl (of_decide_eq_true t10))))))))))
   clear HV
   go_enter Tryd.func24,Tryd.ntmps24
   go_wp2
   go_ret
   exact ⟨zAb (zAg HF.out.symm),zAa w _⟩
 | false =>
 cases t11:decide ((60:Int) < n) with
 | true =>
   have HF:=mA (show Scu.msgFault ⟨ki,fr,tq,vi,no,co,n,lo⟩=2 from zBh H1.out (.inr (.inr (.inr (.inr (.inr (.inr (.inr (.inr (of_decide_eq_true t11))))))))))
   clear HV
   go_enter Tryd.func24,Tryd.ntmps24
   go_wp2
   go_ret
   exact ⟨zAb (zAg HF.out.symm),zAa w _⟩
 | false =>
 have H2:=mA (show ¬ MC2 fr tq vi n by
  have:=of_decide_eq_false t3
  have:=of_decide_eq_false t4
  have:=of_decide_eq_false t5
  have:=of_decide_eq_false t6
  have h7:fr≠tq:=by simpa using t7
  have:=of_decide_eq_false t8
  have:=of_decide_eq_false t9
  have:=of_decide_eq_false t10
  have:=of_decide_eq_false t11
  unfold MC2
  omega)
 have Ha:0<=vi:=by have:=of_decide_eq_false t8;omega
 have h4:ki=1\/ki=2\/ki=3\/ki=4:=by have:=H1.out;omega
 rcases h4 with rfl | rfl | rfl | rfl
 all_goals clear t1 t2
 ·cases u1:(no != 0) with
  | true =>
    have HF:=mA (show Scu.msgFault ⟨1,fr,tq,vi,no,co,n,lo⟩=4 from zAw H1.out H2.out (.inl ⟨by decide,by simpa using u1⟩))
    clear HV
    go_enter Tryd.func24,Tryd.ntmps24
    go_wp2
    go_ret
    exact ⟨zAb (zAg HF.out.symm),zAa w _⟩
  | false =>
  cases u2:(n != 0) with
  | true =>
    have HF:=mA (show Scu.msgFault ⟨1,fr,tq,vi,no,co,n,lo⟩=4 from zAw H1.out H2.out (.inr (.inl ⟨by decide,by simpa using u2⟩)))
    clear HV
    go_enter Tryd.func24,Tryd.ntmps24
    go_wp2
    go_ret
    exact ⟨zAb (zAg HF.out.symm),zAa w _⟩
  | false =>
  have H3:=mA (show ¬ MC3 1 no co n lo by
   have:no=0:=by simpa using u1
   have:n=0:=by simpa using u2
   unfold MC3;simp;omega)
  cases u3:(fr != vi % 3) with
  | true =>
    have HF:=mA (show Scu.msgFault ⟨1,fr,tq,vi,no,co,n,lo⟩=4 from zEc H1.out H2.out H3.out (.inl ⟨rfl,by simpa using u3⟩))
    clear HV
    go_enter Tryd.func24,Tryd.ntmps24
    go_wp2
    go_quiet ((go_at_call 17;exact zBn ((zBc _ _ Ha).mono fun _ _ h=>⟨h.1,0,h.2.symm⟩)))
    go_wp2
    go_ret
    exact ⟨zAb (zAg HF.out.symm),below_drewN (zAa w _) _⟩
  | false =>
  have HF:=mA (show Scu.msgFault ⟨1,fr,tq,vi,no,co,n,lo⟩=Scu.keptFault ⟨vi,no,false,lo,co⟩ from zGs H1.out H2.out H3.out (by have h:fr=vi % 3:=by { simpa using u3 };unfold MC4;omega))
  go_enter Tryd.func24,Tryd.ntmps24
  go_wp2
  go_quiet ((go_at_call 17;exact zBn ((zBc _ _ Ha).mono fun _ _ h=>⟨h.1,0,h.2.symm⟩)))
  have hB:=below_drewN (zAa w (.cells #[.int .i64 1,.int .i64 fr,.int .i64 tq,.int .i64 vi,.int .i64 no,.int .i64 co,.int .i64 n,.slice A lo.length c] 43))
  have HB:=mA hB
  clear hB
  go_wp2_with fail
  refine (zBd _ vi no false lo co _ B ((HV.out.alloc _).drewN _)).mono ?_;rintro e w1 ⟨rfl,h1⟩
  go_wp2
  go_ret
  exact ⟨zAb (zAg HF.out.symm),(HB.out _).trans (h1.mono (HB.out _).size)⟩
 ·cases u1:(no != 0) with
  | true =>
    have HF:=mA (show Scu.msgFault ⟨2,fr,tq,vi,no,co,n,lo⟩=4 from zAw H1.out H2.out (.inl ⟨by decide,by simpa using u1⟩))
    clear HV
    go_enter Tryd.func24,Tryd.ntmps24
    go_wp2
    go_ret
    exact ⟨zAb (zAg HF.out.symm),zAa w _⟩
  | false =>
  cases u2:(co != 0) with
  | true =>
    have HF:=mA (show Scu.msgFault ⟨2,fr,tq,vi,no,co,n,lo⟩=4 from zAw H1.out H2.out (.inr (.inr ⟨.inl rfl,.inl (by simpa using u2)⟩)))
    clear HV
    go_enter Tryd.func24,Tryd.ntmps24
    go_wp2
    go_ret
    exact ⟨zAb (zAg HF.out.symm),zAa w _⟩
  | false =>
  cases u4:decide (0 < lo.length) with
  | true =>
    have HF:=mA (show Scu.msgFault ⟨2,fr,tq,vi,no,co,n,lo⟩=4 from zAw H1.out H2.out (.inr (.inr ⟨.inl rfl,.inr (zIc u4)⟩)))
    clear HV
    go_enter Tryd.func24,Tryd.ntmps24
    go_wp2
    go_ret
    exact ⟨zAb (zAg HF.out.symm),zAa w _⟩
  | false =>
  have H3:=mA (show ¬ MC3 2 no co n lo by
   have:no=0:=by simpa using u1
   have:co=0:=by simpa using u2
   have h5:=zKt u4
   unfold MC3;simp [h5];omega)
  cases u3:(tq != vi % 3) with
  | true =>
    have HF:=mA (show Scu.msgFault ⟨2,fr,tq,vi,no,co,n,lo⟩=4 from zEc H1.out H2.out H3.out (.inr ⟨.inl rfl,by simpa using u3⟩))
    clear HV
    go_enter Tryd.func24,Tryd.ntmps24
    go_wp2
    go_quiet ((go_at_call 17;exact zBn ((zBc _ _ Ha).mono fun _ _ h=>⟨h.1,0,h.2.symm⟩)))
    go_wp2
    go_ret
    exact ⟨zAb (zAg HF.out.symm),below_drewN (zAa w _) _⟩
  | false =>
  have HF:=mA (show Scu.msgFault ⟨2,fr,tq,vi,no,co,n,lo⟩=Scu.keptFault ⟨vi,no,false,lo,co⟩ from zGs H1.out H2.out H3.out (by have h:tq=vi % 3:=by { simpa using u3 };unfold MC4;omega))
  go_enter Tryd.func24,Tryd.ntmps24
  go_wp2
  go_quiet ((go_at_call 17;exact zBn ((zBc _ _ Ha).mono fun _ _ h=>⟨h.1,0,h.2.symm⟩)))
  have hB:=below_drewN (zAa w (.cells #[.int .i64 2,.int .i64 fr,.int .i64 tq,.int .i64 vi,.int .i64 no,.int .i64 co,.int .i64 n,.slice A lo.length c] 43))
  have HB:=mA hB
  clear hB
  go_wp2_with fail
  refine (zBd _ vi no false lo co _ B ((HV.out.alloc _).drewN _)).mono ?_;rintro e w1 ⟨rfl,h1⟩
  go_wp2
  go_ret
  exact ⟨zAb (zAg HF.out.symm),(HB.out _).trans (h1.mono (HB.out _).size)⟩
 ·cases u1:(no != 0) with
  | true =>
    have HF:=mA (show Scu.msgFault ⟨3,fr,tq,vi,no,co,n,lo⟩=4 from zAw H1.out H2.out (.inl ⟨by decide,by simpa using u1⟩))
    clear HV
    go_enter Tryd.func24,Tryd.ntmps24
    go_wp2
    go_ret
    exact ⟨zAb (zAg HF.out.symm),zAa w _⟩
  | false =>
  cases u5:(n != 0) with
  | true =>
    have HF:=mA (show Scu.msgFault ⟨3,fr,tq,vi,no,co,n,lo⟩=4 from zAw H1.out H2.out (.inr (.inl ⟨by decide,by simpa using u5⟩)))
    clear HV
    go_enter Tryd.func24,Tryd.ntmps24
    go_wp2
    go_ret
    exact ⟨zAb (zAg HF.out.symm),zAa w _⟩
  | false =>
  cases u2:(co != 0) with
  | true =>
    have HF:=mA (show Scu.msgFault ⟨3,fr,tq,vi,no,co,n,lo⟩=4 from zAw H1.out H2.out (.inr (.inr ⟨.inr rfl,.inl (by simpa using u2)⟩)))
    clear HV
    go_enter Tryd.func24,Tryd.ntmps24
    go_wp2
    go_ret
    exact ⟨zAb (zAg HF.out.symm),zAa w _⟩
  | false =>
  cases u4:decide (0 < lo.length) with
  | true =>
    have HF:=mA (show Scu.msgFault ⟨3,fr,tq,vi,no,co,n,lo⟩=4 from zAw H1.out H2.out (.inr (.inr ⟨.inr rfl,.inr (zIc u4)⟩)))
    clear HV
    go_enter Tryd.func24,Tryd.ntmps24
    go_wp2
    go_ret
    exact ⟨zAb (zAg HF.out.symm),zAa w _⟩
  | false =>
  have H3:=mA (show ¬ MC3 3 no co n lo by
   have:no=0:=by simpa using u1
   have:co=0:=by simpa using u2
   have:n=0:=by simpa using u5
   have h5:=zKt u4
   unfold MC3;simp [h5];omega)
  have HF:=mA (show Scu.msgFault ⟨3,fr,tq,vi,no,co,n,lo⟩=Scu.keptFault ⟨vi,no,false,lo,co⟩ from zGs H1.out H2.out H3.out (by unfold MC4;omega))
  go_enter Tryd.func24,Tryd.ntmps24
  go_wp2
  go_quiet ((go_at_call 17;exact zBn ((zBc _ _ Ha).mono fun _ _ h=>⟨h.1,0,h.2.symm⟩)))
  have hB:=below_drewN (zAa w (.cells #[.int .i64 3,.int .i64 fr,.int .i64 tq,.int .i64 vi,.int .i64 no,.int .i64 co,.int .i64 n,.slice A lo.length c] 43))
  have HB:=mA hB
  clear hB
  go_wp2_with fail
  refine (zBd _ vi no false lo co _ B ((HV.out.alloc _).drewN _)).mono ?_;rintro e w1 ⟨rfl,h1⟩
  go_wp2
  go_ret
  exact ⟨zAb (zAg HF.out.symm),(HB.out _).trans (h1.mono (HB.out _).size)⟩
 cases u2:(n != 0) with
 | true =>
   have HF:=mA (show Scu.msgFault ⟨4,fr,tq,vi,no,co,n,lo⟩=4 from zAw H1.out H2.out (.inr (.inl ⟨by decide,by simpa using u2⟩)))
   clear HV
   go_enter Tryd.func24,Tryd.ntmps24
   go_wp2
   go_ret
   exact ⟨zAb (zAg HF.out.symm),zAa w _⟩
 | false =>
 have H3:=mA (show ¬ MC3 4 no co n lo by
  have:n=0:=by simpa using u2
  unfold MC3;simp;omega)
 cases u3:(tq != vi % 3) with
 | true =>
   have HF:=mA (show Scu.msgFault ⟨4,fr,tq,vi,no,co,n,lo⟩=4 from zEc H1.out H2.out H3.out (.inr ⟨.inr rfl,by simpa using u3⟩))
   clear HV
   go_enter Tryd.func24,Tryd.ntmps24
   go_wp2
   go_quiet ((go_at_call 17;exact zBn ((zBc _ _ Ha).mono fun _ _ h=>⟨h.1,0,h.2.symm⟩)))
   go_wp2
   go_ret
   exact ⟨zAb (zAg HF.out.symm),below_drewN (zAa w _) _⟩
 | false =>
 have HF:=mA (show Scu.msgFault ⟨4,fr,tq,vi,no,co,n,lo⟩=Scu.keptFault ⟨vi,no,false,lo,co⟩ from zGs H1.out H2.out H3.out (by have h:tq=vi % 3:=by { simpa using u3 };unfold MC4;omega))
 go_enter Tryd.func24,Tryd.ntmps24
 go_wp2
 go_quiet ((go_at_call 17;exact zBn ((zBc _ _ Ha).mono fun _ _ h=>⟨h.1,0,h.2.symm⟩)))
 have hB:=below_drewN (zAa w (.cells #[.int .i64 4,.int .i64 fr,.int .i64 tq,.int .i64 vi,.int .i64 no,.int .i64 co,.int .i64 n,.slice A lo.length c] 43))
 have HB:=mA hB
 clear hB
 go_wp2_with fail
 refine (zBd _ vi no false lo co _ B ((HV.out.alloc _).drewN _)).mono ?_;rintro e w1 ⟨rfl,h1⟩
 go_wp2
 go_ret
 exact ⟨zAb (zAg HF.out.symm),(HB.out _).trans (h1.mono (HB.out _).size)⟩
open Go.RowKit Go.ChangeShapes Go.WideShapes Go.ChangeAt
section
variable {H:Type} {enc:TypeId × Value->H} {w:World} {base:Nat} {spare:Nat->Bool} {held:Bool} {n:Nat}
end
open Go.RowKit
def OwnOnes {α:Type} (t:TypeId) (bytes:Nat) (f:α->Value) (w:World) (base:Nat) (v:Value) (xs:List α):Prop:=w.ownsRow base t 1 v xs.length (xs.map f)/\xs.length*bytes<=R47
section
variable {α:Type} {t:TypeId} {bytes:Nat} {f:α->Value} {w w':World} {B base base':Nat} {v:Value} {xs:List α}
theorem OwnOnes.is (h:OwnOnes t bytes f w base v xs):IsOnes t bytes f w 0 v xs:=by
 obtain ⟨A,c,rfl,hc,_,hr,_⟩:=zAk h.1
 exact ⟨⟨_,_,rfl,hc,hr⟩,h.2⟩
theorem OwnOnes.form (h:OwnOnes t bytes f w base v xs):∃ A n c,v=.slice A n c:=h.is.form
theorem OwnOnes.same (h:OwnOnes t bytes f w base v xs) (hs:Same [t] B w w'):OwnOnes t bytes f w' base v xs:=⟨zBb h.1 (by simp) hs,h.2⟩
theorem OwnOnes.below (h:OwnOnes t bytes f w base v xs) (hb:Below w.heap.size w w'):OwnOnes t bytes f w' base v xs:=h.same (B:=0) (Same.below hb)
theorem OwnOnes.base_ (h:OwnOnes t bytes f w base v xs) (hb:base'<=base):OwnOnes t bytes f w base' v xs:=⟨zAh h.1 hb,h.2⟩
theorem OwnOnes.lt (h:OwnOnes t bytes f w base v xs) {g:Nat} (hg:v.ownBlock=some g):base<=g/\g < w.heap.size:=h.1.lt g hg
end
structure OwnRep0 (w:World) (base:Nat) (lv hv wv nv:Value) (r:Scu.Replica):Prop where
 log:OwnStrs w base lv r.kept.log
 have_:OwnOnes 3 8 vInt w base hv r.have_
 wants:OwnOnes 4 1 Value.bool w base wv r.wants
 given:OwnOnes 4 1 Value.bool w base nv r.given
 apart:∀ g,wv.ownBlock=some g->nv.ownBlock≠some g
section
variable {w w':World} {B base base':Nat} {lv hv wv nv:Value} {r:Scu.Replica}
theorem OwnRep0.same (h:OwnRep0 w base lv hv wv nv r) (hs:Same [9,3,4] B w w'):OwnRep0 w' base lv hv wv nv r :=
 ⟨h.log.same (hs.mono (by simp) (mC _)),h.have_.same (hs.mono (by simp) (mC _)),h.wants.same (hs.mono (by simp) (mC _)),h.given.same (hs.mono (by simp) (mC _)),h.apart⟩
theorem OwnRep0.below (h:OwnRep0 w base lv hv wv nv r) (hb:Below w.heap.size w w'):OwnRep0 w' base lv hv wv nv r:=h.same (B:=0) (Same.below hb)
theorem OwnRep0.base_ (h:OwnRep0 w base lv hv wv nv r) (hb:base'<=base):OwnRep0 w base' lv hv wv nv r:=⟨h.log.base_ hb,h.have_.base_ hb,h.wants.base_ hb,h.given.base_ hb,h.apart⟩
end
section
variable {w:World} {g:Nat} {t:TypeId} {a0 a1 a2 a3 a4 a5 a6 a7 a8 a9 b0 b1 b2 b3 b4 b5 b6 b7 b8 b9:Value}
theorem zAj (h:Blk w g t #[b0,b1,b2,b3,b4,b5,b6,b7,b8,b9]):Blk ((((((((((w.setCell ⟨g,0,none⟩ a0).setCell ⟨g,1,none⟩ a1).setCell ⟨g,2,none⟩ a2).setCell ⟨g,3,none⟩ a3).setCell ⟨g,4,none⟩ a4).setCell ⟨g,5,none⟩ a5).setCell ⟨g,6,none⟩ a6).setCell ⟨g,7,none⟩ a7).setCell ⟨g,8,none⟩ a8).setCell ⟨g,9,none⟩ a9) g t #[a0,a1,a2,a3,a4,a5,a6,a7,a8,a9]:=by
 have h0:Blk _ g t #[a0,b1,b2,b3,b4,b5,b6,b7,b8,b9]:=h.set_ 0 a0
 have h1:Blk _ g t #[a0,a1,b2,b3,b4,b5,b6,b7,b8,b9]:=h0.set_ 1 a1
 have h2:Blk _ g t #[a0,a1,a2,b3,b4,b5,b6,b7,b8,b9]:=h1.set_ 2 a2
 have h3:Blk _ g t #[a0,a1,a2,a3,b4,b5,b6,b7,b8,b9]:=h2.set_ 3 a3
 have h4:Blk _ g t #[a0,a1,a2,a3,a4,b5,b6,b7,b8,b9]:=h3.set_ 4 a4
 have h5:Blk _ g t #[a0,a1,a2,a3,a4,a5,b6,b7,b8,b9]:=h4.set_ 5 a5
 have h6:Blk _ g t #[a0,a1,a2,a3,a4,a5,a6,b7,b8,b9]:=h5.set_ 6 a6
 have h7:Blk _ g t #[a0,a1,a2,a3,a4,a5,a6,a7,b8,b9]:=h6.set_ 7 a7
 have h8:Blk _ g t #[a0,a1,a2,a3,a4,a5,a6,a7,a8,b9]:=h7.set_ 8 a8
 have h9:Blk _ g t #[a0,a1,a2,a3,a4,a5,a6,a7,a8,a9]:=h8.set_ 9 a9
 exact h9
theorem Same.sets10 {Ts:List TypeId} {B:Nat} (h:Blk w g t #[b0,b1,b2,b3,b4,b5,b6,b7,b8,b9]) (hB:B<=g) (ht:t ∉ Ts):Same Ts B w ((((((((((w.setCell ⟨g,0,none⟩ a0).setCell ⟨g,1,none⟩ a1).setCell ⟨g,2,none⟩ a2).setCell ⟨g,3,none⟩ a3).setCell ⟨g,4,none⟩ a4).setCell ⟨g,5,none⟩ a5).setCell ⟨g,6,none⟩ a6).setCell ⟨g,7,none⟩ a7).setCell ⟨g,8,none⟩ a8).setCell ⟨g,9,none⟩ a9) :=
 (((((((((Same.set_ h hB ht 0 a0).trans (Same.set_ (h.set_ 0 a0) hB ht 1 a1)).trans (Same.set_ ((h.set_ 0 a0).set_ 1 a1) hB ht 2 a2)).trans (Same.set_ (((h.set_ 0 a0).set_ 1 a1).set_ 2 a2) hB ht 3 a3)).trans
   (Same.set_ ((((h.set_ 0 a0).set_ 1 a1).set_ 2 a2).set_ 3 a3) hB ht 4 a4)).trans (Same.set_ (((((h.set_ 0 a0).set_ 1 a1).set_ 2 a2).set_ 3 a3).set_ 4 a4) hB ht 5 a5)).trans
   (Same.set_ ((((((h.set_ 0 a0).set_ 1 a1).set_ 2 a2).set_ 3 a3).set_ 4 a4).set_ 5 a5) hB ht 6 a6)).trans (Same.set_ (((((((h.set_ 0 a0).set_ 1 a1).set_ 2 a2).set_ 3 a3).set_ 4 a4).set_ 5 a5).set_ 6 a6) hB ht 7 a7)).trans
   (Same.set_ ((((((((h.set_ 0 a0).set_ 1 a1).set_ 2 a2).set_ 3 a3).set_ 4 a4).set_ 5 a5).set_ 6 a6).set_ 7 a7) hB ht 8 a8)).trans (Same.set_ (((((((((h.set_ 0 a0).set_ 1 a1).set_ 2 a2).set_ 3 a3).set_ 4 a4).set_ 5 a5).set_ 6 a6).set_ 7 a7).set_ 8 a8) hB ht 9 a9)
theorem zAf {B:Nat} {w0:World} (h:Below B w0 w) (hg:B<=g):Below B w0 ((((((((((w.setCell ⟨g,0,none⟩ a0).setCell ⟨g,1,none⟩ a1).setCell ⟨g,2,none⟩ a2).setCell ⟨g,3,none⟩ a3).setCell ⟨g,4,none⟩ a4).setCell ⟨g,5,none⟩ a5).setCell ⟨g,6,none⟩ a6).setCell ⟨g,7,none⟩ a7).setCell ⟨g,8,none⟩ a8).setCell ⟨g,9,none⟩ a9) :=
 (((((((((h.setCell (p:=⟨g,0,none⟩) hg a0).setCell (p:=⟨g,1,none⟩) hg a1).setCell (p:=⟨g,2,none⟩) hg a2).setCell (p:=⟨g,3,none⟩) hg a3).setCell (p:=⟨g,4,none⟩) hg a4).setCell (p:=⟨g,5,none⟩) hg a5).setCell (p:=⟨g,6,none⟩) hg a6).setCell (p:=⟨g,7,none⟩) hg a7).setCell (p:=⟨g,8,none⟩) hg a8).setCell (p:=⟨g,9,none⟩) hg a9
end
structure Rep0 (Wd:World) (r:Scu.Replica) (g:Nat) (lu hv wv nv:Value) (wx:World):Prop where
 out:Blk wx g 30 #[.int .i64 r.me,.int .i64 r.kept.view,.int .i64 r.kept.normal,.bool r.kept.calm,lu,.int .i64 r.kept.commit,hv,wv,.slice none 0 0,nv]
 lo:Wd.heap.size<=g
 own:OwnRep0 wx Wd.heap.size lu hv wv nv r
 low:Below Wd.heap.size Wd wx
theorem zJv {Wd x:World} {r:Scu.Replica} {lu hv wv nv:Value} (hb:Below Wd.heap.size Wd x) (ho:OwnRep0 x Wd.heap.size lu hv wv nv r) :
 Rep0 Wd r x.heap.size lu hv wv nv (x.alloc (.cells #[.int .i64 r.me,.int .i64 r.kept.view,.int .i64 r.kept.normal,.bool r.kept.calm,lu,.int .i64 r.kept.commit,hv,wv,.slice none 0 0,nv] 30)) :=
 ⟨Blk.new x _ _,hb.size,ho.below (zAa x _),hb.alloc hb.size _⟩
theorem zDp {Wd w:World} {r:Scu.Replica} {g:Nat} {lu hv wv nv b0 b1 b2 b3 b4 b5 b6 b7 b8 b9:Value} (hb:Below Wd.heap.size Wd w) (ho:OwnRep0 w Wd.heap.size lu hv wv nv r) (h:Blk w g 30 #[b0,b1,b2,b3,b4,b5,b6,b7,b8,b9]) (hg:Wd.heap.size<=g) :
 Rep0 Wd r g lu hv wv nv ((((((((((w.setCell ⟨g,0,none⟩ (.int .i64 r.me)).setCell ⟨g,1,none⟩ (.int .i64 r.kept.view)).setCell ⟨g,2,none⟩ (.int .i64 r.kept.normal)).setCell ⟨g,3,none⟩ (.bool r.kept.calm)).setCell ⟨g,4,none⟩ lu).setCell ⟨g,5,none⟩ (.int .i64 r.kept.commit)).setCell ⟨g,6,none⟩ hv).setCell ⟨g,7,none⟩ wv).setCell ⟨g,8,none⟩ (.slice none 0 0)).setCell ⟨g,9,none⟩ nv) :=
 ⟨zAj h,hg,ho.same (Same.sets10 (B:=0) h (mE _) (by decide)),zAf hb hg⟩
open Go.RowKit
theorem zKu {w:World} {base n:Nat} {e:TypeId} {v:Value} {xs:List Value} (h:w.ownsRow base e 1 v n xs) (hn:0 < n) :
 ∃ g c cur,v=.slice (some ⟨g,0,none⟩) n c/\base<=g/\Blk w g e cur/\∀ j,j < n->w.cell? ⟨g,j,none⟩=xs[j]?:=by
 obtain ⟨hl,⟨rfl,rfl⟩ | ⟨g,cap,cur,rfl,hb,hh,Ha,_,Hb,ht⟩⟩:=h
 ·omega
 refine ⟨g,cap,cur,rfl,hb,hh,fun j hj=>?_⟩
 have hB:Blk w g e cur:=hh
 rw [hB.cell,<- ht,List.getElem?_take_of_lt (by omega)]
 simp
theorem zId {w:World} {base n g c:Nat} {e:TypeId} {xs:List Value} (h:w.ownsRow base e 1 (.slice (some ⟨g,0,none⟩) n c) n xs) (j:Nat) (u:Value) :
 (w.setCell ⟨g,j,none⟩ u).ownsRow base e 1 (.slice (some ⟨g,0,none⟩) n c) n (xs.set j u):=by
 obtain ⟨hl,⟨h0,_⟩ | ⟨g',cap,cur,e1,hb,hh,Ha,hm,Hb,ht⟩⟩:=h
 ·cases h0
 cases e1
 have hB:Blk w g e cur:=hh
 refine ⟨by simp [hl],.inr ⟨g,c,cur.setIfInBounds j u,rfl,hb,hB.set_ j u,Ha,hm,by simpa using Hb,?_⟩⟩
 rw [Array.toList_setIfInBounds,List.take_set,ht]
theorem OwnStrs.at_ {w:World} {base:Nat} {v:Value} {xs:List Scu.Str} (h:OwnStrs w base v xs) (hn:0 < xs.length) :
 ∃ g c cur,v=.slice (some ⟨g,0,none⟩) xs.length c/\base<=g/\Blk w g 9 cur/\∀ j,j < xs.length->w.cell? ⟨g,j,none⟩=(xs.map Value.string)[j]?:=zKu h.1 hn
theorem OwnStrs.put {w:World} {base g c n:Nat} {xs:List Scu.Str} (h:OwnStrs w base (.slice (some ⟨g,0,none⟩) n c) xs) (j:Nat) (s:Scu.Str) (hs:s.size<=R47) :
 OwnStrs (w.setCell ⟨g,j,none⟩ (.string s)) base (.slice (some ⟨g,0,none⟩) n c) (xs.set j s):=by
 have hn:n=xs.length:=by
  obtain ⟨A,c',e,_⟩:=h.is.ex
  cases e
  rfl
 subst hn
 refine ⟨?_,by simpa using h.2.1,fun t ht=>?_⟩
 ·rw [List.length_set,List.map_set]
  exact zId h.1 j _
 rcases List.mem_or_eq_of_mem_set ht with h' | rfl
 ·exact h.2.2 t h'
 exact hs
theorem IsStrs.far {w:World} {B:Nat} {v:Value} {xs:List Scu.Str} (h:IsStrs w B v xs) {p:Addr} (Hb:v.ownBlock≠some p.block) (u:Value):IsStrs (w.setCell p u) B v xs:=by
 obtain ⟨⟨A,c,rfl,hc,hr⟩,h1,h2⟩:=h
 refine ⟨⟨A,c,rfl,hc,?_⟩,h1,h2⟩
 rcases hr with hr | ⟨g,o,rfl,hg,hk,Ha⟩
 ·exact .inl hr
 have Hc:g≠p.block:=fun e=>Hb (by simp [Value.ownBlock,e])
 have e:=Below.heap_setCell w p u g Hc
 exact .inr ⟨g,o,rfl,by simpa [World.setCell] using hg,by rw [e];exact hk,fun j u' hj=>by
  rw [World.cell?_of_block (w:=w) (w':=w.setCell p u) (a:=⟨g,o+j,none⟩) e]
  exact Ha j u' hj⟩
theorem zHj {w:World} {base n g c:Nat} {e:TypeId} {xs:List Value} (h:w.ownsRow base e 1 (.slice (some ⟨g,0,none⟩) n c) n xs):∃ cur,Blk w g e cur/\base<=g:=by
 obtain ⟨_,⟨h0,_⟩ | ⟨g',cap,cur,e1,hb,hh,_⟩⟩:=h
 ·cases h0
 cases e1
 exact ⟨cur,hh,hb⟩
theorem OwnVol.same {w w':World} {B base:Nat} {nv sv:Value} {x:Scu.Volume} (h:OwnVol w base nv sv x) (hs:Same [9,23] B w w'):OwnVol w' base nv sv x:=by
 obtain ⟨hn,Hd,He,hl,vs,b,Hb,Ha,Hf,Hg⟩:=h
 have Hc:Same [9,23] 0 w w':=hs.mono (fun _ h=>h) (mE _)
 exact ⟨zBb hn (by simp) Hc,Hd,He,hl,vs,b,zBb Hb (by simp) Hc,fun j u y h1 h2=>(Ha j u y h1 h2).same (by simp) Hc,Hf,Hg⟩
theorem OwnVol.below {w w':World} {base:Nat} {nv sv:Value} {x:Scu.Volume} (h:OwnVol w base nv sv x) (hb:Below w.heap.size w w'):OwnVol w' base nv sv x:=h.same (B:=0) (Same.below hb)
theorem OwnVol.alloc {w:World} {base:Nat} {nv sv:Value} {x:Scu.Volume} (h:OwnVol w base nv sv x) (o:Obj):OwnVol (w.alloc o) base nv sv x:=h.below (zAa w o)
theorem OwnVol.base_ {w:World} {base base':Nat} {nv sv:Value} {x:Scu.Volume} (h:OwnVol w base nv sv x) (hb:base'<=base):OwnVol w base' nv sv x:=by
 obtain ⟨hn,Hc,Hd,hl,vs,b,Hb,Ha⟩:=h
 exact ⟨zAh hn hb,Hc,Hd,hl,vs,b,zAh Hb hb,Ha⟩
theorem OwnVol.put {w:World} {base g n c:Nat} {sv:Value} {x:Scu.Volume} (h:OwnVol w base (.slice (some ⟨g,0,none⟩) n c) sv x) (j:Nat) (s:Scu.Str) (hs:s.size<=R47) :
 OwnVol (w.setCell ⟨g,j,none⟩ (.string s)) base (.slice (some ⟨g,0,none⟩) n c) sv ⟨x.now.set j s,x.snaps⟩:=by
 obtain ⟨hn,He,Hf,hl,vs,b,Hb,Ha,Hc,Hd⟩:=h
 have hp:=OwnStrs.put (xs:=x.now) ⟨hn,He,Hf⟩ j s hs
 have Hg:n=x.now.length:=by
  obtain ⟨A,c',e,_⟩:=zAk hn
  cases e
  rfl
 subst Hg
 obtain ⟨cur,hb,_⟩:=zHj hn
 refine ⟨hp.1,hp.2.1,hp.2.2,hl,vs,b,zDc Hb hb (by decide) _,fun i u y h1 h2=>(Ha i u y h1 h2).far (fun e=>?_) _,Hc,Hd⟩
 have h3:=Hd u (List.mem_of_getElem? h1) g e
 have h4:=Hc g rfl
 omega
theorem OwnVol.push {w w':World} {base b:Nat} {nv sv u v4:Value} {x:Scu.Volume} {vs:List Value} {y:List Scu.Str}
 (hn:w.ownsRow base 9 1 nv x.now.length (x.now.map Value.string)) (Hd:x.now.length*16<=R47) (He:∀ s ∈ x.now,s.size<=R47) (Ha:w.ownsRow base 23 1 sv x.snaps.length vs)
 (Hb:∀ (j:Nat) (u:Value) (y:List Scu.Str),vs[j]? = some u->x.snaps[j]? = some y->IsStrs w 0 u y) (Hf:∀ g,nv.ownBlock=some g->g < b) (Hg:∀ u ∈ vs,∀ g,u.ownBlock=some g->b<=g)
 (hu:IsStrs w 0 u y) (Hh:∀ g,nv.ownBlock=some g->∀ g',u.ownBlock=some g'->g < g') (hl:(x.snaps.length+1)*24<=R47) (hg:w.grownBy w' sv.ownBlock)
 (h4:w'.ownsRow base 23 1 v4 (x.snaps.length+1) (vs ++ [u])):OwnVol w' base nv v4 ⟨x.now,x.snaps ++ [y]⟩:=by
 have hs:Same [9] 0 w w':=Same.own Ha hg (mE _) (by decide)
 refine ⟨zBb hn (by simp) hs,Hd,He,by simpa using hl,vs ++ [u],(nv.ownBlock.map (· + 1)).getD 0,by simpa using h4,?_,?_,?_⟩
 ·intro j v z hv hz
  have Hj:vs.length=x.snaps.length:=by simpa using Ha.1
  rcases Nat.lt_or_ge j vs.length with hj | hj
  ·rw [List.getElem?_append_left hj] at hv
   rw [List.getElem?_append_left (by omega)] at hz
   exact (Hb j v z hv hz).same (by simp) hs
  rw [List.getElem?_append_right hj] at hv
  rw [List.getElem?_append_right (by omega)] at hz
  have Hi:j - vs.length=0:=by
   rcases Nat.eq_zero_or_pos (j - vs.length) with h | h
   ·exact h
   rw [List.getElem?_eq_none (by simp;omega)] at hv
   cases hv
  rw [Hi] at hv
  rw [show j - x.snaps.length=0 by omega] at hz
  simp only [List.getElem?_cons_zero,Option.some.injEq] at hv hz
  subst hv
  subst hz
  exact hu.same (by simp) hs
 ·intro g Hc
  simp [Hc]
 intro v hv g Hc
 cases hnb:nv.ownBlock with
 | none=>simp
 | some g0 =>
   simp only [Option.map_some,Option.getD_some]
   rcases List.mem_append.1 hv with h | h
   ·have:=Hg v h g Hc
    have:=Hf g0 hnb
    omega
   ·rw [List.mem_singleton] at h
    subst h
    have:=Hh g0 hnb g Hc
    omega
end Go.Proofs.YtjnjhmkgfjikfaaDoor
