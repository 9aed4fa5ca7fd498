/- Part 13: words and walks under the law 'ReplicaHears'. -/
import Derived.Test.YtlaibljdlpmbfaaPart12
set_option linter.unusedVariables false
set_option linter.unusedSimpArgs false
/- Walks: ref.heard: who gives. -/
namespace Go.Proofs.Ytlaibljdlpmbfaa
set_option linter.unusedVariables false
set_option linter.unusedSimpArgs false
open Go.RowKit
set_option maxHeartbeats 16000000
set_option maxRecDepth 100000
/- a region that only reads: $1 the numbers, $2 how many, $3 more facts, $4 the world, $5 the world behind it; HS says what holds -/
/- a region that ends in a store, t: up to the store ($1 numbers, $2 how many, $3 more facts, $4 the world, $5 the store's number) -/
/- as QR, but the world keeps its written form $4.drew -/
/- the message's log is taken over into new memory; $1 its slot, $2 the world: v4, x4; HCL: what is new -/
/- ahead of who wants and who gives: a, what comes of a newer view; W0: the world, HS -/
/- the replica's own gift is put: $1 the world, $2 the next region, $3 $4 the store's address and value, $5 the replica; HN, HN2: what holds behind it -/
/- given is set: $1 whose, $2 that it is below 3, $3 the world, $4 more, $5 the replica; HS5 -/
/- begun, and what it says appended to am: $1 $2 the slots, $3 the replica; HS, H32, HNG hold, HFI: what heard comes to -/
theorem heard_4 (g base : Nat) (r : Scu.Replica) (lu hv wv gv nv : Value) (m : Scu.Message) (A : Option Addr) (c : Nat) (w : World) (hR : RWk w base g r lu hv wv gv nv) (h3 : Rep3 r) (hN : ∀ k ∈ r.gives, 0 ≤ k.normal) (hn0 : 0 ≤ r.kept.normal) (hmn : 0 ≤ m.normal) (hl : LowStrs w base (.slice A m.log.length c) m.log) (hk : m.kind = 4) (hf0 : 0 ≤ m.from_) (hf3 : m.from_ < 3)
    (rr : Scu.Replica) (ms : List Scu.Message) (hh : Scu.hearGive r m = (rr, ms)) :
    Calls Try.prog 18 #[.pointer (some ⟨g, 0, none⟩), .agg #[.int .i64 m.kind, .int .i64 m.from_, .int .i64 m.tq, .int .i64 m.view, .int .i64 m.normal, .int .i64 m.commit, .int .i64 m.n, .slice A m.log.length c]] w fun e w' => (∃ ov css, e = .returned ov ∧ OwnMs w' base ov ms css) ∧ RWkE w' base g rr ∧ Below base w w' := by
  have hk1 : (m.kind == 1) = false := by simp [hk]
  have hk2 : (m.kind == 2) = false := by simp [hk]
  have hk3 : (m.kind == 3) = false := by simp [hk]
  have hk4 : (m.kind == 4) = true := by simp [hk]
  obtain ⟨fn, hfn⟩ : ∃ fn : Nat, m.from_ = fn := ⟨m.from_.toNat, by omega⟩
  have hfn3 : fn < 3 := by omega
  have hal := below_alloc w (Obj.cells #[.int .i64 m.kind, .int .i64 m.from_, .int .i64 m.tq, .int .i64 m.view, .int .i64 m.normal, .int .i64 m.commit, .int .i64 m.n, .slice A m.log.length c] 31)
  have hst : HrS w (w.alloc (Obj.cells #[.int .i64 m.kind, .int .i64 m.from_, .int .i64 m.tq, .int .i64 m.view, .int .i64 m.normal, .int .i64 m.commit, .int .i64 m.n, .slice A m.log.length c] 31)) base g w.heap.size r lu hv wv gv nv m A c (.slice none 0 0) [] [] := ⟨hR.below hal, Blk.new _ _ _, hl.keep (hal.mono hR.base_le), OwnMs.nil_, hal.mono hR.base_le⟩
  obtain ⟨E0, z0, a, c1, b, c2, d, c3, e, c4, -, -, rfl, rfl, rfl, rfl, rfl, -⟩ := hst.forms h3
  have H3 := Lib.hid h3
  have HH := Lib.hid hh
  have HN0 := Lib.hid (And.intro hN (And.intro hn0 hmn))
  have HFN := Lib.hid hfn
  have hl47 := hl.len
  unfold R47 at hl47
  have HMX := Lib.hid (show 0 + m.log.length ≤ maxLen ∧ (0 + m.log.length) * 16 ≤ 140737488355328 from ⟨by unfold maxLen; omega, by omega⟩)
  clear hR h3 hl hk hh hN hn0 hmn hf0 hf3 hfn
  go_enter Try.func18, Try.ntmps18
  go_upto_region 3 with fail
  obtain ⟨W0, hW0⟩ : ∃ W, W = w.alloc (Obj.cells #[.int .i64 m.kind, .int .i64 m.from_, .int .i64 m.tq, .int .i64 m.view, .int .i64 m.normal, .int .i64 m.commit, .int .i64 m.n, .slice A m.log.length c] 31) := ⟨_, rfl⟩
  obtain ⟨gm, hgm⟩ : ∃ g, w.heap.size = g := ⟨_, rfl⟩
  rw [← hW0, hgm] at hst
  rw [← hW0, hgm]
  have HS := Lib.hid hst
  clear hW0 hgm hst hal
  obtain ⟨bq, hbq⟩ : ∃ b : Bool, decide (r.kept.view < m.view) = b := ⟨_, rfl⟩
  have HBQ := Lib.hid hbq
  clear hbq
  go_cut [31] from 15 to 30 (fun bv wx => bv = .bool bq ∧ wx = W0.drew)
  case first =>
    by_cases hA : r.kept.view < m.view
    · have HE := Lib.hid (show true = bq by rw [← HBQ.out]; simp [hA])
      obtain ⟨S, hSd⟩ : ∃ S : World → Prop, S = fun w' => Below W0.heap.size W0 w' := ⟨_, rfl⟩
      have hS0 : S W0.drew := by rw [hSd]; exact (Below.refl _ _).drew
      refine wp_region_held (S := S) (by kernel_rfl) ?_
      change wpAnyH _ _ _ _ _ _ _ _ W0.drew
      refine tkHs [0, 1, 2, 3, 4, 5, 6, 7, 8, 9, 10, 11, 12, 13, 14, 15, 16] (by kernel_rfl) (fun _ _ _ _ _ h => h) hS0 ?_
      iterate 17
        first
        | (refine tkc (v := ?_) rfl (Or.inl ⟨by rfl, ?_⟩) ?_; rotate_left; (intro wv hSw; rw [hSd] at hSw; obtain ⟨q0, q1, q2, q3, q4, q5, q6, q7, q8, q9⟩ := cz10 (HS.out.rw_.rb.same hSw); obtain ⟨p0, p1, p2, p3, p4, p5, p6, p7⟩ := cz8 (HS.out.mb.same hSw); skip; go_simp; done); (try simp only [Act.put, zp1, zp2, zp3]))
        | (refine tkc (v := ?_) rfl (Or.inl ⟨by rfl, ?_⟩) ?_; rotate_left; (intro wv hSw; rw [hSd] at hSw; obtain ⟨q0, q1, q2, q3, q4, q5, q6, q7, q8, q9⟩ := cz10 (HS.out.rw_.rb.same hSw); obtain ⟨p0, p1, p2, p3, p4, p5, p6, p7⟩ := cz8 (HS.out.mb.same hSw); skip; go_simp; with_reducible rfl); (try simp only [Act.put, zp1, zp2, zp3]))
        | (refine tkc (v := undef) rfl (Or.inr ⟨by rfl, rfl⟩) ?_; (try simp only [Act.put, zp1, zp2, zp3]))
      refine tkz ?_
      refine wpAnyH_done (by kernel_rfl) ?_ _
      change Exit.then _ _ _ _ W0.drew
      clear hS0 hSd
      go_wp2_with fail
      go_meet
      exact ⟨by rw [HE.out], rfl⟩
    · have HE := Lib.hid (show false = bq by rw [← HBQ.out]; simp [hA])
      obtain ⟨S, hSd⟩ : ∃ S : World → Prop, S = fun w' => Below W0.heap.size W0 w' := ⟨_, rfl⟩
      have hS0 : S W0.drew := by rw [hSd]; exact (Below.refl _ _).drew
      refine wp_region_held (S := S) (by kernel_rfl) ?_
      change wpAnyH _ _ _ _ _ _ _ _ W0.drew
      refine tkHs [0, 1, 2, 3, 4, 5, 6, 7, 8, 9, 10, 11, 12, 13, 14, 15, 16] (by kernel_rfl) (fun _ _ _ _ _ h => h) hS0 ?_
      iterate 17
        first
        | (refine tkc (v := ?_) rfl (Or.inl ⟨by rfl, ?_⟩) ?_; rotate_left; (intro wv hSw; rw [hSd] at hSw; obtain ⟨q0, q1, q2, q3, q4, q5, q6, q7, q8, q9⟩ := cz10 (HS.out.rw_.rb.same hSw); obtain ⟨p0, p1, p2, p3, p4, p5, p6, p7⟩ := cz8 (HS.out.mb.same hSw); skip; go_simp; done); (try simp only [Act.put, zp1, zp2, zp3]))
        | (refine tkc (v := ?_) rfl (Or.inl ⟨by rfl, ?_⟩) ?_; rotate_left; (intro wv hSw; rw [hSd] at hSw; obtain ⟨q0, q1, q2, q3, q4, q5, q6, q7, q8, q9⟩ := cz10 (HS.out.rw_.rb.same hSw); obtain ⟨p0, p1, p2, p3, p4, p5, p6, p7⟩ := cz8 (HS.out.mb.same hSw); skip; go_simp; with_reducible rfl); (try simp only [Act.put, zp1, zp2, zp3]))
        | (refine tkc (v := undef) rfl (Or.inr ⟨by rfl, rfl⟩) ?_; (try simp only [Act.put, zp1, zp2, zp3]))
      refine tkz ?_
      refine wpAnyH_done (by kernel_rfl) ?_ _
      change Exit.then _ _ _ _ W0.drew
      clear hS0 hSd
      go_wp2_with fail
      go_meet
      exact ⟨by rw [HE.out], rfl⟩
  case rest =>
  obtain ⟨rfl, hwc⟩ := hcut
  rw [hwc]
  clear hwc
  have HS := Lib.hid (HS.out.below (Below.refl _ _).drew)
  obtain ⟨W1, hW1⟩ : ∃ W, W = W0.drew := ⟨_, rfl⟩
  rw [← hW1] at HS ⊢
  clear hW1
  obtain ⟨ar, am, ha⟩ : ∃ ar am, Scu.wantIf r m.view = (ar, am) := ⟨_, _, rfl⟩
  have HA := Lib.hid ha
  clear ha
  go_upto_if 31 with fail
  go_cut [5] from 31 to 35 (fun ov wx => ∃ lu hv wv gv nv css, HrS w wx base g gm ar lu hv wv gv nv m A c ov am css)
  case first =>
    cases bq with
    | true =>
      have hvw : r.kept.view < m.view := of_decide_eq_true HBQ.out
      have HW := Lib.hid (show Scu.want r m.view = (ar, am) by rw [← HA.out]; unfold Scu.wantIf; rw [if_pos hvw])
      obtain ⟨-, -, -, p3, -⟩ := cz5 HS.out.mb
      clear hvw
      go_wp2_with fail
      refine (wanted_c g r _ _ _ _ _ m.view base W1 HS.out.rw_.rb HS.out.rw_.own.own.log HS.out.rw_.lr H3.out.2.2.2.2.1 H3.out.2.2.2.2.2 ar am HW.out).mono ?_; rintro en x1 ⟨⟨Ao, co, css, hu', wu', gu', nu', rfl, hB, hown, hmo⟩, h3, hsm⟩
      have HN := Lib.hid (show HrS w x1 base g gm ar _ hu' wu' gu' nu' m A c (.slice Ao am.length co) am css from ⟨⟨hB, hown, HS.out.rw_.lr⟩, blk_keep HS.out.mb hsm (by simp), HS.out.ml.keep h3, hmo, HS.out.low.trans h3⟩)
      clear hB hown hmo h3 hsm
      go_wp2_with fail
      go_meet
      exact ⟨_, _, _, _, _, _, HN.out⟩
    | false =>
      have hvw : ¬ r.kept.view < m.view := of_decide_eq_false HBQ.out
      have hw : Scu.wantIf r m.view = (r, []) := by unfold Scu.wantIf; rw [if_neg hvw]
      have HW := Lib.hid (Prod.mk.inj (hw.symm.trans HA.out))
      clear hvw hw
      go_wp2_with fail
      go_meet
      rw [← HW.out.1, ← HW.out.2]
      exact ⟨_, _, _, _, _, _, HS.out⟩
  case rest =>
  obtain ⟨lu, hv, wv, gv, nv, css, hst⟩ := hcut
  have h31 : Rep3 ar := by have := want_three m.view H3.out; rwa [HA.out] at this
  have hme : ar.me = r.me := by have := want_me r m.view; rwa [HA.out] at this
  obtain ⟨E0, z0, a, c1, b, c2, d, c3, e, c4, Ao, co, rfl, rfl, rfl, rfl, rfl, rfl⟩ := hst.forms h31
  obtain ⟨W2, hW2⟩ : ∃ W, W = wc := ⟨_, rfl⟩
  rw [← hW2] at hst ⊢
  have HS := Lib.hid hst
  have H31 := Lib.hid h31
  have HME := Lib.hid hme
  clear hW2 hst h31 hme
  obtain ⟨p0, -⟩ := cz2 HS.out.mb
  obtain ⟨-, -, -, q3, -⟩ := cz5 HS.out.rw_.rb
  by_cases hcb : ar.kept.calm = true
  · have hhe : Scu.hearGive r m = (ar, am) := by unfold Scu.hearGive; rw [HA.out]; simp only [hcb, ↓reduceIte]
    have HE := Lib.hid (Prod.mk.inj (hhe.symm.trans HH.out))
    rw [hcb] at q3
    clear hhe hcb
    go_upto_if 41 with fail
    go_wp2
    go_ret
    rw [← HE.out.1, ← HE.out.2]
    first | exact ⟨⟨_, rfl, _, HS.out.out⟩, HS.out.rw_.e, HS.out.low⟩ | exact ⟨⟨_, _, rfl, HS.out.out⟩, HS.out.rw_.e, HS.out.low⟩
  have hcf : ar.kept.calm = false := by simpa using hcb
  have HCF := Lib.hid hcf
  rw [hcf] at q3
  clear hcb hcf
  go_upto_if 41 with fail
  go_upto_region 8 with fail
  clear p0 q3
  obtain ⟨mn, hmn⟩ : ∃ n : Nat, ar.me = n := ⟨ar.me.toNat, by have := H31.out.2.2.2.2.1; omega⟩
  have hm3 : mn < 3 := by have := H31.out.2.2.2.2.2; omega
  have hm0' : (0 : Int) ≤ (mn : Int) := by omega
  have hm3' : (mn : Int) < 3 := by omega
  have hf0' : (0 : Int) ≤ (fn : Int) := by omega
  have hf3' : (fn : Int) < 3 := by omega
  have HMN := Lib.hid hmn
  clear hmn
  obtain ⟨heb, ⟨cur, hB⟩, _, hfz, hcn⟩ := ones3' HS.out.rw_.own.own.given H31.out.2.2.2.1
  obtain ⟨gq, hgq⟩ : ∃ b, ar.given[mn]? = some b := ⟨_, List.getElem?_eq_getElem (by rw [H31.out.2.2.2.1]; exact hm3)⟩
  have dh : W2.cell? ⟨e, mn, none⟩ = some (.bool gq) := by rw [hcn _ hm3, List.getElem?_map, hgq]; rfl
  have dal := World.block_lt_of_cell? W2 _ dh
  have hgd : ar.given.getD ar.me.toNat false = gq := by rw [HMN.out, Int.toNat_natCast, List.getD_eq_getElem?_getD, hgq]; rfl
  have HGD := Lib.hid hgd
  have HB := Lib.hid (And.intro hB heb)
  clear hcn hgq hgd hB heb hfz
  obtain ⟨nq, hnq⟩ : ∃ b : Bool, (!gq) = b := ⟨_, rfl⟩
  obtain ⟨r2, hr2⟩ : ∃ q, (if gq = false then Scu.give1 ar ar.me ar.kept else ar) = q := ⟨_, rfl⟩
  have HR2 := Lib.hid (And.intro hr2 hnq)
  clear hr2 hnq
  go_cut [53] from 43 to 52 (fun bv wx => bv = .bool nq ∧ wx = W2.drew)
  case first =>
    obtain ⟨S, hSd⟩ : ∃ S : World → Prop, S = fun w' => Below W2.heap.size W2 w' := ⟨_, rfl⟩
    have hS0 : S W2.drew := by rw [hSd]; exact (Below.refl _ _).drew
    refine wp_region_held (S := S) (by kernel_rfl) ?_
    change wpAnyH _ _ _ _ _ _ _ _ W2.drew
    refine tkHs [0, 1, 2, 3, 4, 5, 6, 7, 8, 9, 10] (by kernel_rfl) (fun _ _ _ _ _ h => h) hS0 ?_
    iterate 11
      first
      | (refine tkc (v := ?_) rfl (Or.inl ⟨by rfl, ?_⟩) ?_; rotate_left; (intro wv hSw; rw [hSd] at hSw; obtain ⟨q0, q1, q2, q3, q4, q5, q6, q7, q8, q9⟩ := cz10 (HS.out.rw_.rb.same hSw); obtain ⟨p0, p1, p2, p3, p4, p5, p6, p7⟩ := cz8 (HS.out.mb.same hSw); (have q10 := cW hSw dal dh; rw [HMN.out] at q0); go_simp; done); (try simp only [Act.put, zp1, zp2, zp3]))
      | (refine tkc (v := ?_) rfl (Or.inl ⟨by rfl, ?_⟩) ?_; rotate_left; (intro wv hSw; rw [hSd] at hSw; obtain ⟨q0, q1, q2, q3, q4, q5, q6, q7, q8, q9⟩ := cz10 (HS.out.rw_.rb.same hSw); obtain ⟨p0, p1, p2, p3, p4, p5, p6, p7⟩ := cz8 (HS.out.mb.same hSw); (have q10 := cW hSw dal dh; rw [HMN.out] at q0); go_simp; with_reducible rfl); (try simp only [Act.put, zp1, zp2, zp3]))
      | (refine tkc (v := undef) rfl (Or.inr ⟨by rfl, rfl⟩) ?_; (try simp only [Act.put, zp1, zp2, zp3]))
    refine tkz ?_
    refine wpAnyH_done (by kernel_rfl) ?_ _
    change Exit.then _ _ _ _ W2.drew
    clear hS0 hSd
    go_wp2_with fail
    go_meet
    exact ⟨by rw [HR2.out.2], rfl⟩
  case rest =>
  obtain ⟨rfl, hwc⟩ := hcut
  rw [hwc]
  clear hwc
  have hdr := (Below.refl W2.heap.size W2).drew
  have HS := Lib.hid (HS.out.below hdr)
  have HB := Lib.hid (And.intro (HB.out.1.same hdr) HB.out.2)
  have dh := cW hdr dal dh
  obtain ⟨W3, hW3⟩ : ∃ W, W = W2.drew := ⟨_, rfl⟩
  rw [← hW3] at HS HB dh ⊢
  clear hW3 hdr dal
  go_upto_if 53 with fail
  go_cut [5] from 53 to 75 (fun ov wx => ov = .slice Ao am.length co ∧ ∃ lu hv wv gv nv, HrS w wx base g gm r2 lu hv wv gv nv m A c ov am css)
  case first =>
    cases gq with
    | false =>
      obtain rfl : nq = true := by rw [← HR2.out.2]; rfl
      have HR2 := Lib.hid (show r2 = Scu.give1 ar ar.me ar.kept by rw [← HR2.out.1]; rfl)
      go_upto_region 9 with fail
      obtain ⟨S, hSd⟩ : ∃ S : World → Prop, S = fun w' => Below W3.heap.size W3 w' := ⟨_, rfl⟩
      have hS0 : S W3.drew := by rw [hSd]; exact (Below.refl _ _).drew
      refine wp_region_E S 13 (by kernel_rfl) (fun hsh => ?_)
      change wpAnyE _ _ _ _ _ _ _ _ _ W3.drew
      refine tkEs 16 [0, 1, 2, 3, 4, 5, 6, 7, 8, 9, 10] (by kernel_rfl) (fun _ _ _ _ _ h => h) hsh hS0 ?_
      iterate 11
        first
        | (refine tkc (v := ?_) rfl (Or.inl ⟨by rfl, ?_⟩) ?_; rotate_left; (intro wv hSw; rw [hSd] at hSw; obtain ⟨q0, q1, q2, q3, q4, q5, q6, q7, q8, q9⟩ := cz10 (HS.out.rw_.rb.same hSw); obtain ⟨p0, p1, p2, p3, p4, p5, p6, p7⟩ := cz8 (HS.out.mb.same hSw); (rw [HMN.out] at q0); go_simp; done); (try simp only [Act.put, zp1, zp2, zp3]))
        | (refine tkc (v := ?_) rfl (Or.inl ⟨by rfl, ?_⟩) ?_; rotate_left; (intro wv hSw; rw [hSd] at hSw; obtain ⟨q0, q1, q2, q3, q4, q5, q6, q7, q8, q9⟩ := cz10 (HS.out.rw_.rb.same hSw); obtain ⟨p0, p1, p2, p3, p4, p5, p6, p7⟩ := cz8 (HS.out.mb.same hSw); (rw [HMN.out] at q0); go_simp; with_reducible rfl); (try simp only [Act.put, zp1, zp2, zp3]))
        | (refine tkc (v := undef) rfl (Or.inr ⟨by rfl, rfl⟩) ?_; (try simp only [Act.put, zp1, zp2, zp3]))
      refine tkz (fun hsh => ?_)
      refine alE 11 (by kernel_rfl) (wpOp_step (o := _) rfl fun KA hKA => ?_)
      go_simp
      have hdr : Below W3.heap.size W3 W3.drew := (Below.refl _ _).drew
      have hown := own_w HS.out.rw_ hdr
      rw [HMN.out] at hown
      refine hown.mono ?_; rintro en x4 ⟨⟨Au, cu, rfl, hou⟩, hb4⟩
      have hb4 : Below W3.heap.size W3 x4 := hdr.trans (hb4.mono hdr.size)
      have hS1 : S x4 := by rw [hSd]; exact hb4
      refine hKA _ _ ⟨.inr hS1, ?_⟩
      have hsh := hsh.set (i := 11) (by rw [← List.contains_iff_mem]; kernel_rfl)
      (try simp only [Act.put, List.getElem_toArray, List.getElem_cons_succ, List.getElem_cons_zero, zp1, zp2, zp3])
      have HOU := Lib.hid (And.intro hou hb4)
      clear hKA hS0 hou hb4 hdr hown
      refine tkEs 16 [12] (by kernel_rfl) (fun _ _ _ _ _ h => h) hsh hS1 ?_
      iterate 1
        first
        | (refine tkc (v := ?_) rfl (Or.inl ⟨by rfl, ?_⟩) ?_; rotate_left; (intro wv hSw; rw [hSd] at hSw; obtain ⟨q0, q1, q2, q3, q4, q5, q6, q7, q8, q9⟩ := cz10 (HS.out.rw_.rb.same hSw); obtain ⟨p0, p1, p2, p3, p4, p5, p6, p7⟩ := cz8 (HS.out.mb.same hSw); (rw [HMN.out] at q0); go_simp; done); (try simp only [Act.put, zp1, zp2, zp3]))
        | (refine tkc (v := ?_) rfl (Or.inl ⟨by rfl, ?_⟩) ?_; rotate_left; (intro wv hSw; rw [hSd] at hSw; obtain ⟨q0, q1, q2, q3, q4, q5, q6, q7, q8, q9⟩ := cz10 (HS.out.rw_.rb.same hSw); obtain ⟨p0, p1, p2, p3, p4, p5, p6, p7⟩ := cz8 (HS.out.mb.same hSw); (rw [HMN.out] at q0); go_simp; with_reducible rfl); (try simp only [Act.put, zp1, zp2, zp3]))
        | (refine tkc (v := undef) rfl (Or.inr ⟨by rfl, rfl⟩) ?_; (try simp only [Act.put, zp1, zp2, zp3]))
      refine tkz (fun hsh => ?_)
      refine alE 13 (by kernel_rfl) (wpOp_step (o := _) rfl fun KB hKB => ?_)
      rw [if_pos (by rfl)]
      have HS4 := Lib.hid (HS.out.below HOU.out.2)
      have hmg : mn < ar.gives.length := by rw [H31.out.2.2.1]; exact hm3
      refine wp_store_mid 24 (.tmp 66) (.tmp 65) rfl d (mn * 5) #[.int .i64 ar.kept.view, .int .i64 ar.kept.normal, .bool false, .slice Au ar.kept.log.length cu, .int .i64 ar.kept.commit] (by go_simp) rfl (gives_there HS4.out.rw_ hmg) (by kernel_rfl) one_kept ?_
      obtain ⟨hk5, hb5⟩ := HS4.out.rw_.put_gives (i := mn) hmg (k := ⟨ar.kept.view, ar.kept.normal, false, ar.kept.log, ar.kept.commit⟩) HOU.out.1.is
      obtain ⟨_, hGB⟩ := gives_blk HS4.out.rw_
      have hs5 : Same [9, 31] 0 x4 (x4.setCells d (mn * 5) [.int .i64 ar.kept.view, .int .i64 ar.kept.normal, .bool false, .slice Au ar.kept.log.length cu, .int .i64 ar.kept.commit]) := Same.sets _ _ _ _ hGB (by decide)
      have hst := HS4.out.upd hk5 hs5 hb5
      obtain ⟨W5, hW5⟩ : ∃ W, W = x4.setCells d (mn * 5) [.int .i64 ar.kept.view, .int .i64 ar.kept.normal, .bool false, .slice Au ar.kept.log.length cu, .int .i64 ar.kept.commit] := ⟨_, rfl⟩
      change HrS _ (x4.setCells d (mn * 5) [.int .i64 ar.kept.view, .int .i64 ar.kept.normal, .bool false, .slice Au ar.kept.log.length cu, .int .i64 ar.kept.commit]) _ _ _ _ _ _ _ _ _ _ _ _ _ _ _ at hst
      rw [← hW5] at hst
      refine hKB _ _ ⟨.inl rfl, wpAnyE_done (by kernel_rfl) ?_ _⟩
      (try simp only [Act.put, List.getElem_toArray, List.getElem_cons_succ, List.getElem_cons_zero, zp1, zp2, zp3])
      change Exit.then _ _ _ _ (x4.setCells d (mn * 5) [.int .i64 ar.kept.view, .int .i64 ar.kept.normal, .bool false, .slice Au ar.kept.log.length cu, .int .i64 ar.kept.commit])
      rw [← hW5]
      obtain ⟨r3, hr3⟩ : ∃ q, q = ({ ar with gives := ar.gives.set mn ⟨ar.kept.view, ar.kept.normal, false, ar.kept.log, ar.kept.commit⟩ } : Scu.Replica) := ⟨_, rfl⟩
      change HrS _ _ _ _ _ ({ ar with gives := ar.gives.set mn ⟨ar.kept.view, ar.kept.normal, false, ar.kept.log, ar.kept.commit⟩ } : Scu.Replica) _ _ _ _ _ _ _ _ _ _ _ at hst
      rw [← hr3] at hst
      have HR3 := Lib.hid hr3
      have HS5 := Lib.hid hst
      have hl5 : r3.given.length = 3 := by rw [hr3]; exact H31.out.2.2.2.1
      have hme5 : r3.me = mn := by rw [hr3]; exact HMN.out
      have HM5 := Lib.hid hme5
      clear hW5 hst hs5 hk5 hb5 hS1 hSd hKB hGB hr3 hme5
      go_upto_region 10 with fail
      obtain ⟨heb, ⟨cur5, hB5⟩, _, hfz5, hcn5⟩ := ones3' HS5.out.rw_.own.own.given hl5
      have dh5 := hcn5 _ hm3
      obtain ⟨gv5, hgv5⟩ : ∃ b, r3.given[mn]? = some b := ⟨_, List.getElem?_eq_getElem (by rw [hl5]; exact hm3)⟩
      rw [List.getElem?_map, hgv5] at dh5
      change W5.cell? ⟨e, mn, none⟩ = some (.bool gv5) at dh5
      have fz5 := hfz5 mn
      obtain ⟨q0, q1, q2, q3, q4, q5, q6, q7, q8, q9⟩ := cz10 HS5.out.rw_.rb
      obtain ⟨p0, p1, p2, p3, p4, p5, p6, p7⟩ := cz8 HS5.out.mb
      (rw [HM5.out] at q0)
      clear hcn5 hfz5 hl5 hgv5
      have HB5 := Lib.hid (And.intro hB5 heb)
      clear hB5 heb
      go_region
      have HN := Lib.hid ((HS5.out.upd (HS5.out.rw_.put_given HB5.out.1 HB5.out.2 mn true).1 (Same.set_ HB5.out.1 (Nat.zero_le _) (by decide) mn _) (HS5.out.rw_.put_given HB5.out.1 HB5.out.2 mn true).2).below (Below.refl _ _).drew)
      clear dh5 fz5 q0 q1 q2 q3 q4 q5 q6 q7 q8 q9 p0 p1 p2 p3 p4 p5 p6 p7
      have HR3 := Lib.hid (show r2 = { r3 with given := r3.given.set mn true } by rw [HR3.out, HR2.out]; unfold Scu.give1; rw [show ar.me.toNat = mn by rw [HMN.out]; rfl]; rfl)
      go_wp2_with fail
      go_meet
      rw [HR3.out]
      exact ⟨rfl, _, _, _, _, _, HN.out⟩
    | true =>
      obtain rfl : nq = false := by rw [← HR2.out.2]; rfl
      have HR2 := Lib.hid (show r2 = ar by rw [← HR2.out.1]; rfl)
      go_wp2_with fail
      go_meet
      rw [HR2.out]
      exact ⟨rfl, _, _, _, _, _, HS.out⟩
  case rest =>
  obtain ⟨rfl, lu, hv, wv, gv, nv, hst⟩ := hcut
  have h32 : Rep3 r2 := by
    rw [← HR2.out.1]
    split
    · exact ⟨H31.out.1, H31.out.2.1, by unfold Scu.give1; simp [H31.out.2.2.1], by unfold Scu.give1; simp [H31.out.2.2.2.1], H31.out.2.2.2.2.1, H31.out.2.2.2.2.2⟩
    · exact H31.out
  clear dh
  obtain ⟨E0, z0, a, c1, b, c2, d, c3, e, c4, -, -, rfl, rfl, rfl, rfl, rfl, -⟩ := hst.forms h32
  obtain ⟨W4, hW4⟩ : ∃ W, W = wc := ⟨_, rfl⟩
  rw [← hW4] at hst ⊢
  have HS := Lib.hid hst
  have H32 := Lib.hid h32
  have HFN3 := Lib.hid hfn3
  clear hW4 hst h32
  go_upto_region 11 with fail
  have HSR := Lib.hid (msg_src (HS.out.ml.is HS.out.rw_.base_le) 1)
  obtain ⟨S, hSd⟩ : ∃ S : World → Prop, S = fun w' => Below W4.heap.size W4 w' := ⟨_, rfl⟩
  have hS0 : S W4.drew := by rw [hSd]; exact (Below.refl _ _).drew
  refine wp_region_E S 17 (by kernel_rfl) (fun hsh => ?_)
  change wpAnyE _ _ _ _ _ _ _ _ _ W4.drew
  refine tkEs 16 [0, 1, 2, 3, 4, 5, 6, 7, 8, 9, 10, 11, 12, 13] (by kernel_rfl) (fun _ _ _ _ _ h => h) hsh hS0 ?_
  iterate 14
    first
    | (refine tkc (v := ?_) rfl (Or.inl ⟨by rfl, ?_⟩) ?_; rotate_left; (intro wv hSw; rw [hSd] at hSw; obtain ⟨q0, q1, q2, q3, q4, q5, q6, q7, q8, q9⟩ := cz10 (HS.out.rw_.rb.same hSw); obtain ⟨p0, p1, p2, p3, p4, p5, p6, p7⟩ := cz8 (HS.out.mb.same hSw); (rw [HFN.out] at p1); go_simp; done); (try simp only [Act.put, zp1, zp2, zp3]))
    | (refine tkc (v := ?_) rfl (Or.inl ⟨by rfl, ?_⟩) ?_; rotate_left; (intro wv hSw; rw [hSd] at hSw; obtain ⟨q0, q1, q2, q3, q4, q5, q6, q7, q8, q9⟩ := cz10 (HS.out.rw_.rb.same hSw); obtain ⟨p0, p1, p2, p3, p4, p5, p6, p7⟩ := cz8 (HS.out.mb.same hSw); (rw [HFN.out] at p1); go_simp; with_reducible rfl); (try simp only [Act.put, zp1, zp2, zp3]))
    | (refine tkc (v := undef) rfl (Or.inr ⟨by rfl, rfl⟩) ?_; (try simp only [Act.put, zp1, zp2, zp3]))
  refine tkz (fun hsh => ?_)
  refine alE 14 (by kernel_rfl) (wpOp_step (o := _) rfl fun KA hKA => ?_)
  rw [if_pos (by rfl)]
  refine wp_app _ (.const (.slice none 0 0)) (.tmp 89) 22 rfl el_strs W4.heap.size _ 0 [] rfl (World.ownsRow_nil _ _ _ _) (.slice A m.log.length c) m.log.length (m.log.map Value.string) rfl HSR.out (one_strs _) HMX.out.1 HMX.out.2 (Nat.le_refl _) ?_
  intro v4 x4 h4 hg4 _
  have hb4 : Below W4.heap.size W4 x4 := ((Below.refl W4.heap.size W4).drew).grown hg4 (Nat.le_refl _) (fun q hq => by cases hq)
  have h4 : x4.ownsRow W4.heap.size 9 1 v4 m.log.length (m.log.map Value.string) := by simpa only [Nat.zero_add, List.nil_append] using h4
  obtain ⟨Au, cu, rfl, _, _, _, _⟩ := rd_own h4
  have HCL := Lib.hid (show OwnStrs x4 base (.slice Au m.log.length cu) m.log ∧ Below W4.heap.size W4 x4 from ⟨OwnStrs.base_ ⟨h4, HS.out.ml.len, HS.out.ml.each⟩ HS.out.rw_.base_le, hb4⟩)
  clear h4 hg4 hb4
  have hS1 : S x4 := by rw [hSd]; exact HCL.out.2
  refine hKA _ _ ⟨.inr hS1, ?_⟩
  have hsh := hsh.set (i := 14) (by rw [← List.contains_iff_mem]; kernel_rfl)
  (try simp only [Act.put, List.getElem_toArray, List.getElem_cons_succ, List.getElem_cons_zero, zp1, zp2, zp3])
  clear hKA hS0
  refine tkEs 16 [15, 16] (by kernel_rfl) (fun _ _ _ _ _ h => h) hsh hS1 ?_
  iterate 2
    first
    | (refine tkc (v := ?_) rfl (Or.inl ⟨by rfl, ?_⟩) ?_; rotate_left; (intro wv hSw; rw [hSd] at hSw; obtain ⟨q0, q1, q2, q3, q4, q5, q6, q7, q8, q9⟩ := cz10 (HS.out.rw_.rb.same hSw); obtain ⟨p0, p1, p2, p3, p4, p5, p6, p7⟩ := cz8 (HS.out.mb.same hSw); (rw [HFN.out] at p1); go_simp; done); (try simp only [Act.put, zp1, zp2, zp3]))
    | (refine tkc (v := ?_) rfl (Or.inl ⟨by rfl, ?_⟩) ?_; rotate_left; (intro wv hSw; rw [hSd] at hSw; obtain ⟨q0, q1, q2, q3, q4, q5, q6, q7, q8, q9⟩ := cz10 (HS.out.rw_.rb.same hSw); obtain ⟨p0, p1, p2, p3, p4, p5, p6, p7⟩ := cz8 (HS.out.mb.same hSw); (rw [HFN.out] at p1); go_simp; with_reducible rfl); (try simp only [Act.put, zp1, zp2, zp3]))
    | (refine tkc (v := undef) rfl (Or.inr ⟨by rfl, rfl⟩) ?_; (try simp only [Act.put, zp1, zp2, zp3]))
  refine tkz (fun hsh => ?_)
  refine alE 17 (by kernel_rfl) (wpOp_step (o := _) rfl fun KB hKB => ?_)
  rw [if_pos (by rfl)]
  have HS4 := Lib.hid (HS.out.below HCL.out.2)
  have hfg : fn < r2.gives.length := by rw [H32.out.2.2.1]; exact HFN3.out
  refine wp_store_mid 24 (.tmp 92) (.tmp 91) rfl d (fn * 5) #[.int .i64 m.view, .int .i64 m.normal, .bool false, .slice Au m.log.length cu, .int .i64 m.commit] (by go_simp) rfl (gives_there HS4.out.rw_ hfg) (by kernel_rfl) one_kept ?_
  obtain ⟨hk5, hb5⟩ := HS4.out.rw_.put_gives (i := fn) hfg (k := ⟨m.view, m.normal, false, m.log, m.commit⟩) HCL.out.1.is
  obtain ⟨_, hGB⟩ := gives_blk HS4.out.rw_
  have hs5 : Same [9, 31] 0 x4 (x4.setCells d (fn * 5) [.int .i64 m.view, .int .i64 m.normal, .bool false, .slice Au m.log.length cu, .int .i64 m.commit]) := Same.sets _ _ _ _ hGB (by decide)
  have hst := HS4.out.upd hk5 hs5 hb5
  obtain ⟨W5, hW5⟩ : ∃ W, W = x4.setCells d (fn * 5) [.int .i64 m.view, .int .i64 m.normal, .bool false, .slice Au m.log.length cu, .int .i64 m.commit] := ⟨_, rfl⟩
  obtain ⟨r3, hr3⟩ : ∃ q, q = ({ r2 with gives := r2.gives.set fn ⟨m.view, m.normal, false, m.log, m.commit⟩ } : Scu.Replica) := ⟨_, rfl⟩
  change HrS _ (x4.setCells d (fn * 5) [.int .i64 m.view, .int .i64 m.normal, .bool false, .slice Au m.log.length cu, .int .i64 m.commit]) _ _ _ ({ r2 with gives := r2.gives.set fn ⟨m.view, m.normal, false, m.log, m.commit⟩ } : Scu.Replica) _ _ _ _ _ _ _ _ _ _ _ at hst
  rw [← hW5, ← hr3] at hst
  refine hKB _ _ ⟨.inl rfl, wpAnyE_done (by kernel_rfl) ?_ _⟩
  (try simp only [Act.put, List.getElem_toArray, List.getElem_cons_succ, List.getElem_cons_zero, zp1, zp2, zp3])
  change Exit.then _ _ _ _ (x4.setCells d (fn * 5) [.int .i64 m.view, .int .i64 m.normal, .bool false, .slice Au m.log.length cu, .int .i64 m.commit])
  rw [← hW5]
  have HR3 := Lib.hid hr3
  have HS5 := Lib.hid hst
  have hl5 : r3.given.length = 3 := by rw [hr3]; exact H32.out.2.2.2.1
  clear hW5 hst hs5 hk5 hb5 hS1 hSd hKB hGB hr3
  go_upto_region 12 with fail
  obtain ⟨heb, ⟨cur5, hB5⟩, _, hfz5, hcn5⟩ := ones3' HS5.out.rw_.own.own.given hl5
  have dh5 := hcn5 _ HFN3.out
  obtain ⟨gv5, hgv5⟩ : ∃ b, r3.given[fn]? = some b := ⟨_, List.getElem?_eq_getElem (by rw [hl5]; exact HFN3.out)⟩
  rw [List.getElem?_map, hgv5] at dh5
  change W5.cell? ⟨e, fn, none⟩ = some (.bool gv5) at dh5
  have fz5 := hfz5 fn
  obtain ⟨q0, q1, q2, q3, q4, q5, q6, q7, q8, q9⟩ := cz10 HS5.out.rw_.rb
  obtain ⟨p0, p1, p2, p3, p4, p5, p6, p7⟩ := cz8 HS5.out.mb
  (rw [HFN.out] at p1)
  clear hcn5 hfz5 hl5 hgv5
  have HB5 := Lib.hid (And.intro hB5 heb)
  clear hB5 heb
  go_region
  have HN := Lib.hid ((HS5.out.upd (HS5.out.rw_.put_given HB5.out.1 HB5.out.2 fn true).1 (Same.set_ HB5.out.1 (Nat.zero_le _) (by decide) fn _) (HS5.out.rw_.put_given HB5.out.1 HB5.out.2 fn true).2).below (Below.refl _ _).drew)
  clear dh5 fz5 q0 q1 q2 q3 q4 q5 q6 q7 q8 q9 p0 p1 p2 p3 p4 p5 p6 p7
  obtain ⟨r4, hr4⟩ : ∃ q, q = Scu.give1 r2 m.from_ ⟨m.view, m.normal, false, m.log, m.commit⟩ := ⟨_, rfl⟩
  have hr43 : r4 = { r3 with given := r3.given.set fn true } := by rw [hr4, HR3.out]; unfold Scu.give1; rw [show m.from_.toNat = fn by rw [HFN.out]; rfl]; rfl
  have h32 : Rep3 r4 := by rw [hr43, HR3.out]; exact ⟨H32.out.1, H32.out.2.1, by simp [H32.out.2.2.1], by simp [H32.out.2.2.2.1], H32.out.2.2.2.2.1, H32.out.2.2.2.2.2⟩
  have hng : ∀ k ∈ r4.gives, 0 ≤ k.normal := by
    have h1 := want_norm m.view HN0.out.1
    have h2 := want_kn r m.view
    rw [HA.out] at h1 h2
    have h3 : ∀ k ∈ r2.gives, 0 ≤ k.normal := by
      rw [← HR2.out.1]
      split
      · exact set_norm h1 (by show 0 ≤ ar.kept.normal; rw [show ar.kept.normal = r.kept.normal from h2]; exact HN0.out.2.1)
      · exact h1
    rw [hr43, HR3.out]
    exact set_norm h3 HN0.out.2.2
  have hfin : Scu.hearGive r m = ((Scu.begun r4).1, am ++ (Scu.begun r4).2) := by
    unfold Scu.hearGive
    rw [HA.out]
    simp only [HCF.out, Bool.false_eq_true, ↓reduceIte, HGD.out]
    rw [HR2.out.1]
    unfold Scu.take1
    rw [hr4]
  have hst := HN.out
  obtain ⟨W6, hW6⟩ : ∃ W, W = (W5.setCell ⟨e, fn, none⟩ (.bool true)).drew := ⟨_, rfl⟩
  rw [← hW6] at hst ⊢
  rw [← hr43] at hst
  have HS := Lib.hid hst
  have H32 := Lib.hid h32
  have HNG := Lib.hid hng
  have HFI := Lib.hid hfin
  clear hW6 hst h32 hng hfin hr4 hr43 HN
  obtain ⟨rb, hrb⟩ : ∃ q, Scu.begun r4 = q := ⟨_, rfl⟩
  obtain ⟨rr2, ms2⟩ := rb
  have hfi := HFI.out.symm.trans HH.out
  rw [hrb] at hfi
  obtain ⟨hfa, hfb⟩ := Prod.mk.inj hfi
  have hln := begun_len r4
  rw [hrb] at hln
  have hla := wantIf_len r m.view
  rw [HA.out] at hla
  have HRB := Lib.hid hrb
  have HFA := Lib.hid (And.intro hfa hfb)
  clear hrb hfi hfa hfb
  go_wp2_with fail
  refine (begun_c g base r4 _ _ _ _ _ _ HS.out.rw_ H32.out HNG.out rr2 ms2 HRB.out).mono ?_; rintro en x5 ⟨⟨ov2, css2, rfl, hm2⟩, hrk, hbs⟩
  obtain ⟨A5, c5, rfl⟩ := hm2.form
  have H5 := Lib.hid (And.intro (HS.out.out.same hbs.same) (And.intro hm2 (And.intro hrk (HS.out.low.trans hbs.low))))
  have HLN := Lib.hid (show (am.length + ms2.length) * 80 ≤ R47 from by unfold R47; (have hla : am.length ≤ 3 := hla); (have hln : ms2.length ≤ 3 := hln); omega)
  have HMX5 := Lib.hid (show am.length + ms2.length ≤ maxLen ∧ (am.length + ms2.length) * 80 ≤ 140737488355328 from by unfold maxLen; (have hla : am.length ≤ 3 := hla); (have hln : ms2.length ≤ 3 := hln); omega)
  have HBX := Lib.hid (Nat.le_trans (HS.out.rw_.base_le) (Nat.le_trans (Nat.le_refl _) (Below.size hbs.low)))
  clear hm2 hrk hbs hla hln
  go_wp2_with (at_builtin; refine list_app _ rfl (.tmp 100) (.tmp 102) 33 rfl el_msgs base (.slice Ao am.length co) am.length css.flatten rfl H5.out.1.row (.slice A5 ms2.length c5) ms2.length css2.flatten rfl H5.out.2.1.src.2.1 H5.out.2.1.src.2.2 HMX5.out.1 HMX5.out.2 HBX.out ?_)
  intro v6 x6 h6 hg6 _
  have hou := H5.out.1.append H5.out.2.1 HLN.out h6 hg6
  have hrk := H5.out.2.2.1.app (Same.own H5.out.1.row hg6 (Nat.zero_le _) (by decide))
  have hlo := H5.out.2.2.2.grown hg6 HBX.out (fun q hq => (H5.out.1.row.lt q hq).1)
  have HZ := Lib.hid (And.intro hou (And.intro hrk hlo))
  clear h6 hg6 hou hrk hlo
  go_wp2
  go_ret
  rw [← HFA.out.1, ← HFA.out.2]
  first | exact ⟨⟨_, rfl, _, HZ.out.1⟩, HZ.out.2.1, HZ.out.2.2⟩ | exact ⟨⟨_, _, rfl, HZ.out.1⟩, HZ.out.2.1, HZ.out.2.2⟩
end Go.Proofs.Ytlaibljdlpmbfaa
