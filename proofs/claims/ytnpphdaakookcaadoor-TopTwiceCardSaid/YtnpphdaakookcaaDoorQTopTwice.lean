/- The card of the law 'TopTwice': for every input the call returns true; each argument reads as it did. Condition: the three tables of numbers that the library reads hold what the program's text lays in them, which the card ties. -/
import Derived.Test.YtnpphdaakookcaaDoorCards
import Derived.SevenTiedAt
import Derived.ChangeOld
import Derived.Below
import Derived.Test.YtnpphdaakookcaaDoorQ40
set_option linter.unusedVariables false
set_option linter.unusedSimpArgs false
set_option maxHeartbeats 4000000
set_option maxRecDepth 100000
namespace Go.Proofs.YtnpphdaakookcaaDoor
open Go.RowKit
theorem lawTopTwice_c (v:Value) (l:List Scu.Raw) (w:World) (h:IsRaws w w.heap.size v l) (ht:Tab w) :
 Calls Tryd.prog 10 #[v] w fun e w'=>e=.returned (.bool true)∧Below w.heap.size w w':=by
 obtain ⟨Al,cl,rfl,Ka⟩:=h.form'
 obtain ⟨la,Ho⟩:∃ la,Scu.rawActs l 280 3=la:=⟨_,rfl⟩
 obtain ⟨o,ho⟩:∃ o,Scu.outOf (Scu.steps (Scu.netNew 3) la)=o:=⟨_,rfl⟩
 have K:=Lib.hid (zRt (.slice Al l.length cl) l 280 w w.heap.size (Nat.le_refl _) h ht (by decide) la Ho o ho)
 have K2:=Lib.hid (fun (W:World) (hb:Below w.heap.size w W)=>zRt (.slice Al l.length cl) l 280 W w.heap.size hb.size (h.below hb) (ht.below hb) (by decide) la Ho o ho)
 have Hu:=Lib.hid (Scu.came_bound ho)
 clear h ht Ho ho
 go_enter Tryd.func10,Tryd.ntmps10
 go_wp2_with fail
 refine K.out.mono ?_;rintro e w1 ⟨⟨A,c,A0,c0,A1,c1,A2,c2,A3,c3,A4,c4,A5,c5,rfl,Hb,Hc⟩,h1⟩
 go_upto_region 2 with fail
 have hR:=RanB.made h1 Hb
 obtain ⟨Wd,Hp⟩:∃ W,W=w1.alloc (Obj.cells #[.slice A0 o.replicas.length c0,.slice A1 o.slots.length c1,.slice A2 o.flying.length c2,.slice A3 o.clients.length c3,.slice A4 o.told.length c4,.slice A5 o.codes.length c5] 32):=⟨_,rfl⟩
 obtain ⟨g,hg⟩:∃ g,w1.heap.size=g:=⟨_,rfl⟩
 rw [← Hp,hg] at hR
 rw [← Hp,hg]
 have HR:=Lib.hid hR
 clear hR Hp hg h1 Hb Hc K
 go_wp2_with fail
 refine (K2.out Wd HR.out.low).mono ?_;rintro e w3 ⟨⟨D,d,D0,d0,D1,d1,D2,d2,D3,d3,D4,d4,D5,d5,rfl,Hb,Hc⟩,h3⟩
 go_upto_region 3 with fail
 have hR:=RanB.made h3 Hb
 have Hq:=HR.out.below (h3.trans ((zAa w3 (Obj.cells #[.slice D0 o.replicas.length d0,.slice D1 o.slots.length d1,.slice D2 o.flying.length d2,.slice D3 o.clients.length d3,.slice D4 o.told.length d4,.slice D5 o.codes.length d5] 32)).mono h3.size))
 obtain ⟨We,Hk⟩:∃ W,W=w3.alloc (Obj.cells #[.slice D0 o.replicas.length d0,.slice D1 o.slots.length d1,.slice D2 o.flying.length d2,.slice D3 o.clients.length d3,.slice D4 o.told.length d4,.slice D5 o.codes.length d5] 32):=⟨_,rfl⟩
 obtain ⟨g3,Hr⟩:∃ g,w3.heap.size=g:=⟨_,rfl⟩
 rw [← Hk,Hr] at hR
 rw [← Hk] at Hq
 rw [← Hk,Hr]
 clear Hk Hr h3 Hb Hc K2 HR
 go_wp2_with fail
 obtain ⟨S,He⟩:∃ S:World→Prop,S=fun w'=>RanB w w' g A0 c0 A1 c1 A2 c2 A3 c3 A4 c4 A5 c5 o∧RanB Wd w' g3 D0 d0 D1 d1 D2 d2 D3 d3 D4 d4 D5 d5 o:=⟨_,rfl⟩
 have Hf:∀ W,S W→RanB w W g A0 c0 A1 c1 A2 c2 A3 c3 A4 c4 A5 c5 o∧RanB Wd W g3 D0 d0 D1 d1 D2 d2 D3 d3 D4 d4 D5 d5 o:=fun W h=>by rw [He] at h;exact h
 have Hg:∀ W W',S W→Below W.heap.size W W'→S W':=fun W W' h hb=>by rw [He] at h ⊢;exact ⟨h.1.below hb,h.2.below hb⟩
 have Ha:S We.drew:=by rw [He];exact ⟨Hq.drew,hR.drew⟩
 clear hR Hq
 refine wp_region_held (S:=S) (by kernel_rfl) ?_
 change wpAnyH _ _ _ _ _ _ _ _ We.drew
 refine tkHs [0,1,2,3,4,5,6,7,8] (by kernel_rfl) (fun _ _ _ _ _ h=>h) Ha ?_
 iterate 9
  refine tkc (v:=?_) rfl (Or.inl ⟨by rfl,?_⟩) ?_
  rotate_left
  ·(intro wv Hd;rw [He] at Hd;obtain ⟨sx,sy⟩:=Hd;have s0:=sx.box.cell 0;have s1:=sx.box.cell 1;have s2:=sx.box.cell 2;have s3:=sx.box.cell 3;have s4:=sx.box.cell 4;have s5:=sx.box.cell 5;have u0:=sy.box.cell 0;have u1:=sy.box.cell 1;have u2:=sy.box.cell 2;have u3:=sy.box.cell 3;have u4:=sy.box.cell 4;have u5:=sy.box.cell 5;simp only [List.getElem?_toArray,List.getElem?_cons_zero,List.getElem?_cons_succ] at s0 s1 s2 s3 s4 s5 u0 u1 u2 u3 u4 u5;clear sx sy;go_simp;(try with_reducible rfl))
  (try simp only [Act.put,zp1,zp2,zp3])
 refine tkz ?_
 refine alH 9 (by kernel_rfl) (wpOp_step (o:=_) rfl fun KA Hh=>?_)
 go_simp
 refine (zXr _ _ o.codes o.codes _ 0 0 (Hf _ Ha).1.out.codes (Hf _ Ha).2.out.codes rfl).mono ?_;rintro e x ⟨rfl,n,rfl⟩
 have Hl:=Hg _ _ Ha (below_drewN (Below.refl _ _) n)
 refine Hh _ _ ⟨Hl,?_⟩
 (try simp only [Act.put,zp1,zp2,zp3])
 obtain ⟨W4,Hv⟩:∃ W,W=We.drew.drewN n:=⟨_,rfl⟩
 rw [← Hv] at Hl ⊢
 clear Ha Hv Hh
 have Ha:=Hl
 refine tkHs [10,11,12,13,14,15] (by kernel_rfl) (fun _ _ _ _ _ h=>h) Ha ?_
 iterate 6
  refine tkc (v:=?_) rfl (Or.inl ⟨by rfl,?_⟩) ?_
  rotate_left
  ·(intro wv Hd;rw [He] at Hd;obtain ⟨sx,sy⟩:=Hd;have s0:=sx.box.cell 0;have s1:=sx.box.cell 1;have s2:=sx.box.cell 2;have s3:=sx.box.cell 3;have s4:=sx.box.cell 4;have s5:=sx.box.cell 5;have u0:=sy.box.cell 0;have u1:=sy.box.cell 1;have u2:=sy.box.cell 2;have u3:=sy.box.cell 3;have u4:=sy.box.cell 4;have u5:=sy.box.cell 5;simp only [List.getElem?_toArray,List.getElem?_cons_zero,List.getElem?_cons_succ] at s0 s1 s2 s3 s4 s5 u0 u1 u2 u3 u4 u5;clear sx sy;go_simp;(try with_reducible rfl))
  (try simp only [Act.put,zp1,zp2,zp3])
 refine tkz ?_
 refine alH 16 (by kernel_rfl) (wpOp_step (o:=_) rfl fun KB Hi=>?_)
 go_simp
 refine (yBo _ _ o.told o.told _ (Hf _ Ha).1.out.told (Hf _ Ha).2.out.told rfl).mono ?_;rintro e x ⟨rfl,n5,rfl⟩
 have Hm:=Hg _ _ Ha (below_drewN (Below.refl _ _) n5)
 refine Hi _ _ ⟨Hm,?_⟩
 (try simp only [Act.put,zp1,zp2,zp3])
 obtain ⟨W5,Hw⟩:∃ W,W=W4.drewN n5:=⟨_,rfl⟩
 rw [← Hw] at Hm ⊢
 clear Ha Hl Hw Hi
 have Ha:=Hm
 refine tkHs [17,18,19,21] (by kernel_rfl) (fun _ _ _ _ _ h=>h) Ha ?_
 iterate 4
  refine tkc (v:=?_) rfl (Or.inl ⟨by rfl,?_⟩) ?_
  rotate_left
  ·(intro wv Hd;rw [He] at Hd;obtain ⟨sx,sy⟩:=Hd;have s0:=sx.box.cell 0;have s1:=sx.box.cell 1;have s2:=sx.box.cell 2;have s3:=sx.box.cell 3;have s4:=sx.box.cell 4;have s5:=sx.box.cell 5;have u0:=sy.box.cell 0;have u1:=sy.box.cell 1;have u2:=sy.box.cell 2;have u3:=sy.box.cell 3;have u4:=sy.box.cell 4;have u5:=sy.box.cell 5;simp only [List.getElem?_toArray,List.getElem?_cons_zero,List.getElem?_cons_succ] at s0 s1 s2 s3 s4 s5 u0 u1 u2 u3 u4 u5;clear sx sy;go_simp;(try with_reducible rfl))
  (try simp only [Act.put,zp1,zp2,zp3])
 refine tkz ?_
 obtain ⟨all,Hj⟩:∃ all,Scu.committed o.replicas=all:=⟨_,rfl⟩
 refine alH 20 (by kernel_rfl) (wpOp_step (o:=_) rfl fun KA Hh=>?_)
 go_simp
 refine (zBo _ _ _ _ _ _ o.replicas _ (Hf _ Ha).1.out.reps Hu.out rfl rfl rfl rfl rfl).mono ?_;rintro e w6 ⟨⟨A6,c6,rfl,Hn⟩,h6⟩
 rw [Hj] at Hn ⊢
 have Hs:=Hg _ _ Ha h6
 refine Hh _ _ ⟨Hs,?_⟩
 (try simp only [Act.put,zp1,zp2,zp3])
 clear Ha Hm h6 Hh
 have Ha:=Hs
 refine alH 22 (by kernel_rfl) (wpOp_step (o:=_) rfl fun KB Hi=>?_)
 go_simp
 refine (zBo _ _ _ _ _ _ o.replicas _ (Hf _ Ha).2.out.reps Hu.out rfl rfl rfl rfl rfl).mono ?_;rintro e w7 ⟨⟨A7,c7,rfl,Hx⟩,h7⟩
 rw [Hj] at Hx ⊢
 have Hn:=Hn.below h7
 have Ht:=Hg _ _ Ha h7
 refine Hi _ _ ⟨Ht,?_⟩
 (try simp only [Act.put,zp1,zp2,zp3])
 clear Ha Hs h7 Hi
 have Ha:=Ht
 refine alH 23 (by kernel_rfl) (wpOp_step (o:=_) rfl fun KC Hy=>?_)
 go_simp
 refine (zRs _ _ all all _ 0 0 Hn Hx rfl).mono ?_;rintro e x ⟨rfl,n8,rfl⟩
 have Hz:=Hg _ _ Ha (below_drewN (Below.refl _ _) n8)
 refine Hy _ _ ⟨Hz,?_⟩
 (try simp only [Act.put,zp1,zp2,zp3])
 clear Ha Ht Hy
 have Ha:=Hz
 refine tkHs [24,25] (by kernel_rfl) (fun _ _ _ _ _ h=>h) Ha ?_
 iterate 2
  refine tkc (v:=?_) rfl (Or.inl ⟨by rfl,?_⟩) ?_
  rotate_left
  ·(intro wv Hd;rw [He] at Hd;obtain ⟨sx,sy⟩:=Hd;have s0:=sx.box.cell 0;have s1:=sx.box.cell 1;have s2:=sx.box.cell 2;have s3:=sx.box.cell 3;have s4:=sx.box.cell 4;have s5:=sx.box.cell 5;have u0:=sy.box.cell 0;have u1:=sy.box.cell 1;have u2:=sy.box.cell 2;have u3:=sy.box.cell 3;have u4:=sy.box.cell 4;have u5:=sy.box.cell 5;simp only [List.getElem?_toArray,List.getElem?_cons_zero,List.getElem?_cons_succ] at s0 s1 s2 s3 s4 s5 u0 u1 u2 u3 u4 u5;clear sx sy;go_simp;(try with_reducible rfl))
  (try simp only [Act.put,zp1,zp2,zp3])
 refine tkz ?_
 refine wpAnyH_done (by kernel_rfl) ?_ _
 (try simp only [Act.put,zp1,zp2,zp3])
 have HF:=Lib.hid (Hf _ Ha).1.low
 go_wp2
 go_ret
 exact ⟨rfl,HF.out⟩
theorem lawTopTwice_w (v:Value) (l:List Scu.Raw) {w:World} (h:IsRaws w w.heap.size v l) (W:World) (hW:W=w) (ht:Tab W) :
 Calls Tryd.prog 10 #[v] W fun e w'=>e=.returned (.bool true)∧Below W.heap.size W w':=by
 subst hW
 exact lawTopTwice_c v l W h ht
end Go.Proofs.YtnpphdaakookcaaDoor
namespace Go.Proofs.YtnpphdaakookcaaDoor.topTwiceDone
open Go.ChangeShapes Go.WideShapes Go.ChangeAt Go.RowKit
open Go.ChangeMaps (open_string shut_string)
theorem own : ownKnob Tryd.prog.godebug = none := by kernel_rfl
theorem laidOut : laidOutB Tryd.prog = true := by kernel_rfl
set_option maxRecDepth 100000 in
theorem lifted (os : Os) (started : os.Started) (H : Type) (enc : TypeId × Value → H) :
    ReturnsInHanded {} Tryd.checked os 10 .any (fun w args => (Rows.topTwiceSpec.pre enc Tryd.prog Tryd.f10 [] false w args ∧ laidMetH Tryd.prog Rows.topTwiceRow.laid w) ∧ sizedMet enc Tryd.prog Tryd.f10 (OpenSpec.ofChange Rows.topTwiceSpec) false w args)
      (Rows.topTwiceSpec.post enc Tryd.prog Tryd.f10 false true false false) := by
  refine returnsInHanded_of_change_and (C := Tryd.checked) (X := fun w _ => laidMetH Tryd.prog Rows.topTwiceRow.laid w) (fun _ _ _ hh h => h.of_heap hh) own started (by kernel_rfl) Tryd.func10
    (ChangeSpec.witness_shaped (enc := enc) (C := Tryd.checked) (os := os) (X := fun w _ => laidMetH Tryd.prog Rows.topTwiceRow.laid w) false (World.doorLaid Tryd.prog doorFuel os) #[.slice none 0 0] 8 rfl (zCs os _) (by kernel_rfl) (by kernel_rfl) (by kernel_rfl) (zFu os _)) ?_
  intro W base args ds gs before hval0 hW _ hsz hL _
  have htab := zKz hL
  have hwt0 : ∀ (j : Nat) (t : TypeId) (d : DataW H), (Tryd.f10.params.toList ++ Rows.topTwiceSpec.plain.varTypes Tryd.prog)[j]? = some t → (ds ++ gs)[j]? = some d → ∀ k ∈ d.weights Tryd.prog t, k ≤ reachBytes := fun j t d ht hd k hk => by
    have := List.all_eq_true.1 hsz k (DataW.weights_mem_each ht hd k hk)
    simpa using this
  clear hsz hL
  have hwt := hwt0
  rw [Tryd.params10] at hwt
  have hval : ∀ (j : Nat) t v, Tryd.f10.params[j]? = some t → args[j]? = some v → Value.okWide Tryd.prog W .any base t v := hval0
  have hW' := hW
  obtain ⟨p, q, hA0, hV, rfl, hfz, hnd⟩ := hW
  have hA : DataW.TrodAll enc Tryd.prog W 0 (fun _ => true) true Tryd.f10.params.toList args.toList ds p := hA0
  rw [Tryd.params10] at hA hval
  obtain ⟨v0, vs0, d0, ds0, p0, q0, hargs, rfl, rfl, h0, r0⟩ := trodAll_cons hA
  obtain ⟨rfl, rfl, rfl⟩ := trodAll_nil r0
  obtain rfl : args = #[v0] := by cases args; simp_all
  obtain ⟨rfl, rfl⟩ := trodVars_none hV
  have k0 := h0
  have lt0 : ∀ x ∈ p0, x.block < W.heap.size := by obtain ⟨m, hm⟩ := k0; exact DataW.trod_lt m _ _ _ hm
  obtain ⟨a0, w0⟩ := zDh (hval 0 22 v0 rfl rfl) h0 (hwt 0 22 d0 rfl rfl)
  clear hA0 hval0
  refine (lawTopTwice_w v0 a0 w0 W rfl htab).mono fun e W' ⟨he, bel⟩ => ?_
  subst he
  exact ⟨_, rfl, _, _, _, [], _, [], hW', trodAll_mk1 (shut_bool Tryd.underlying4 _), (trodAll_cons_mk (Below.trod laidOut (by kernel_rfl) (of_decide_eq_true (by kernel_rfl)) k0 bel lt0) trodAll_mk0), rfl, bel.frame _, fun h => by cases h⟩
theorem over : Rows.TopTwiceSaid :=
  OpenClaim.holds_of_wide 10 Tryd.f10 rfl rfl rfl rfl rfl rfl rfl ⟨rfl, rfl, rfl, rfl, rfl⟩ rfl rfl rfl rfl rfl (by kernel_rfl) Tryd.func10 (zFt rfl rfl rfl rfl rfl rfl (by as_aux_lemma => kernel_rfl) (by as_aux_lemma => kernel_rfl) (by as_aux_lemma => kernel_rfl) (by as_aux_lemma => kernel_rfl) (by as_aux_lemma => kernel_rfl) (by as_aux_lemma => kernel_rfl) (by as_aux_lemma => kernel_rfl))
    (of_decide_eq_true (by kernel_rfl)) (by unfold Func.isWrapper; first | (rw [if_pos (by decide +kernel)]; kernel_rfl) | (rw [if_neg (by decide +kernel)]; exact ⟨rfl, rfl⟩))
    (fun os started H enc _ => lifted os started H enc)
theorem proved : Rows.TopTwiceCardSaid :=
  Claim7.holds_tied_plain_at .later [] [.data, .data, .data] true Rows.topTwiceCard.stood.harness false
    over (fun _ h => by cases h) (by kernel_rfl) (fun _ h => by cases h) topTwice_row_tie rfl ⟨rfl, rfl⟩ (by kernel_rfl) rfl
    (fun f fn hf hfn => by
      obtain rfl : f = 10 := Option.some.inj ((show Tryd.prog.funcNamed Rows.topTwiceRow.func = some 10 by kernel_rfl).symm.trans hf) |>.symm
      obtain rfl : fn = Tryd.f10 := (Option.some.inj (Tryd.func10.symm.trans hfn)).symm
      exact ⟨by kernel_rfl, fun j t ht => by
        rw [Tryd.params10] at ht
        have hm : t ∈ [22] := by simpa using Array.mem_of_getElem? ht
        have hall : ([22].all fun u => !Tryd.prog.wantsStandIn u) = true := by kernel_rfl
        exact (show Tryd.prog.wantsStandIn t = false by simpa using List.all_eq_true.1 hall t hm)⟩)
    (by kernel_rfl)
end Go.Proofs.YtnpphdaakookcaaDoor.topTwiceDone
