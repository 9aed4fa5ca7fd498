/- Part 11: words and walks under the law 'ReplicaHears'. -/
import Derived.Test.YtlaibljdlpmbfaaPart10
import Derived.StillTailTactics
set_option linter.unusedVariables false
set_option linter.unusedSimpArgs false
/- Walks: ref.heard: who leads speaks. -/
namespace Go.Proofs.Ytlaibljdlpmbfaa
set_option linter.unusedVariables false
set_option linter.unusedSimpArgs false
open Go.RowKit
set_option maxHeartbeats 16000000
set_option maxRecDepth 100000
/- a region that only reads: $1 the numbers, $2 how many, $3 more facts, $4 the world, $5 the world behind it; HS says what holds -/
/- a region that ends in a store, t: up to the store ($1 numbers, $2 how many, $3 more facts, $4 the world, $5 the store's number) -/
/- as QR, but the world keeps its written form $4.drew -/
/- the message's log is taken over into new memory; $1 its slot, $2 the world: v4, x4; HCL: what is new -/
/- ahead of who wants and who gives: a, what comes of a newer view; W0: the world, HS -/
/- the replica's own gift is put: $1 the world, $2 the next region, $3 $4 the store's address and value, $5 the replica; HN, HN2: what holds behind it -/
/- given is set: $1 whose, $2 that it is below 3, $3 the world, $4 more, $5 the replica; HS5 -/
/- begun, and what it says appended to am: $1 $2 the slots, $3 the replica; HS, H32, HNG hold, HFI: what heard comes to -/
/- the message back: $1 the world, $2 the replica; HS says what holds -/
/- behind what is kept: who speaks may have committed more -/
theorem heard_1 (g base : Nat) (r : Scu.Replica) (lu hv wv gv nv : Value) (m : Scu.Message) (A : Option Addr) (c : Nat) (w : World) (hR : RWk w base g r lu hv wv gv nv) (h3 : Rep3 r) (hl : LowStrs w base (.slice A m.log.length c) m.log) (hk : m.kind = 1) (hcm : m.commit ≤ m.log.length)
    (rr : Scu.Replica) (ms : List Scu.Message) (hh : Scu.hearLead r m = (rr, ms)) :
    Calls Try.prog 18 #[.pointer (some ⟨g, 0, none⟩), .agg #[.int .i64 m.kind, .int .i64 m.from_, .int .i64 m.tq, .int .i64 m.view, .int .i64 m.normal, .int .i64 m.commit, .int .i64 m.n, .slice A m.log.length c]] w fun e w' => (∃ ov css, e = .returned ov ∧ OwnMs w' base ov ms css) ∧ RWkE w' base g rr ∧ Below base w w' := by
  have hk1 : (m.kind == 1) = true := by simp [hk]
  have hk3 : (m.kind == 3) = false := by simp [hk]
  have hk4 : (m.kind == 4) = false := by simp [hk]
  have hal := below_alloc w (Obj.cells #[.int .i64 m.kind, .int .i64 m.from_, .int .i64 m.tq, .int .i64 m.view, .int .i64 m.normal, .int .i64 m.commit, .int .i64 m.n, .slice A m.log.length c] 31)
  have hst : HrS w (w.alloc (Obj.cells #[.int .i64 m.kind, .int .i64 m.from_, .int .i64 m.tq, .int .i64 m.view, .int .i64 m.normal, .int .i64 m.commit, .int .i64 m.n, .slice A m.log.length c] 31)) base g w.heap.size r lu hv wv gv nv m A c (.slice none 0 0) [] [] := ⟨hR.below hal, Blk.new _ _ _, hl.keep (hal.mono hR.base_le), OwnMs.nil_, hal.mono hR.base_le⟩
  obtain ⟨E0, z0, a, c1, b, c2, d, c3, e, c4, -, -, rfl, rfl, rfl, rfl, rfl, -⟩ := hst.forms h3
  have H3 := Lib.hid h3
  have HH := Lib.hid ((lead1_eq r m hcm).symm.trans hh)
  have hl47 := hl.len
  unfold R47 at hl47
  have HMX := Lib.hid (show 0 + m.log.length ≤ maxLen ∧ (0 + m.log.length) * 16 ≤ 140737488355328 from ⟨by unfold maxLen; omega, by omega⟩)
  clear hR h3 hl hk hh
  go_enter Try.func18, Try.ntmps18
  go_upto_region 3 with fail
  obtain ⟨W0, hW0⟩ : ∃ W, W = w.alloc (Obj.cells #[.int .i64 m.kind, .int .i64 m.from_, .int .i64 m.tq, .int .i64 m.view, .int .i64 m.normal, .int .i64 m.commit, .int .i64 m.n, .slice A m.log.length c] 31) := ⟨_, rfl⟩
  obtain ⟨gm, hgm⟩ : ∃ g, w.heap.size = g := ⟨_, rfl⟩
  rw [← hW0, hgm] at hst
  rw [← hW0, hgm]
  have HS := Lib.hid hst
  clear hW0 hgm hst hal
  obtain ⟨S, hSd⟩ : ∃ S : World → Prop, S = fun w' => Below W0.heap.size W0 w' := ⟨_, rfl⟩
  have hS0 : S W0.drew := by rw [hSd]; exact (Below.refl _ _).drew
  refine wp_region_held (S := S) (by kernel_rfl) ?_
  change wpAnyH _ _ _ _ _ _ _ _ W0.drew
  refine tkHs [0, 1, 2, 3, 4, 5, 6, 7, 8, 9, 10, 11, 12, 13, 14, 15, 16] (by kernel_rfl) (fun _ _ _ _ _ h => h) hS0 ?_
  iterate 17
    first
    | (refine tkc (v := ?_) rfl (Or.inl ⟨by rfl, ?_⟩) ?_; rotate_left; (intro wv hSw; rw [hSd] at hSw; obtain ⟨q0, q1, q2, q3, q4, q5, q6, q7, q8, q9⟩ := cz10 (HS.out.rw_.rb.same hSw); obtain ⟨p0, p1, p2, p3, p4, p5, p6, p7⟩ := cz8 (HS.out.mb.same hSw); skip; go_simp; done); (try simp only [Act.put, zp1, zp2, zp3]))
    | (refine tkc (v := ?_) rfl (Or.inl ⟨by rfl, ?_⟩) ?_; rotate_left; (intro wv hSw; rw [hSd] at hSw; obtain ⟨q0, q1, q2, q3, q4, q5, q6, q7, q8, q9⟩ := cz10 (HS.out.rw_.rb.same hSw); obtain ⟨p0, p1, p2, p3, p4, p5, p6, p7⟩ := cz8 (HS.out.mb.same hSw); skip; go_simp; with_reducible rfl); (try simp only [Act.put, zp1, zp2, zp3]))
    | (refine tkc (v := undef) rfl (Or.inr ⟨by rfl, rfl⟩) ?_; (try simp only [Act.put, zp1, zp2, zp3]))
  refine tkz ?_
  refine wpAnyH_done (by kernel_rfl) ?_ _
  change Exit.then _ _ _ _ W0.drew
  obtain ⟨W1, hWn⟩ : ∃ W, W = W0.drew := ⟨_, rfl⟩
  have hbn : Below W0.heap.size W0 W1 := by rw [hWn]; exact (Below.refl _ _).drew
  rw [← hWn]
  have hsn := HS.out.below hbn
  clear hWn hS0 hSd
  have HS := Lib.hid hsn
  obtain ⟨p0, -⟩ := cz2 hsn.mb
  clear hsn hbn
  go_upto_region 15 with fail
  clear p0
  obtain ⟨bq, hbq⟩ : ∃ b : Bool, decide (r.kept.view < m.view ∨ r.kept.calm = false) = b := ⟨_, rfl⟩
  have HBQ := Lib.hid hbq
  clear hbq
  go_cut [119] from 106 to 118 (fun bv wx => bv = .bool bq ∧ wx = W1.drew)
  case first =>
    by_cases hA : r.kept.view < m.view
    · have HE := Lib.hid (show true = bq by rw [← HBQ.out]; simp [hA])
      obtain ⟨S, hSd⟩ : ∃ S : World → Prop, S = fun w' => Below W1.heap.size W1 w' := ⟨_, rfl⟩
      have hS0 : S W1.drew := by rw [hSd]; exact (Below.refl _ _).drew
      refine wp_region_held (S := S) (by kernel_rfl) ?_
      change wpAnyH _ _ _ _ _ _ _ _ W1.drew
      refine tkHs [0, 1, 2, 3, 4, 5, 6, 7, 8, 9, 10, 11, 12, 13] (by kernel_rfl) (fun _ _ _ _ _ h => h) hS0 ?_
      iterate 14
        first
        | (refine tkc (v := ?_) rfl (Or.inl ⟨by rfl, ?_⟩) ?_; rotate_left; (intro wv hSw; rw [hSd] at hSw; obtain ⟨q0, q1, q2, q3, q4, q5, q6, q7, q8, q9⟩ := cz10 (HS.out.rw_.rb.same hSw); obtain ⟨p0, p1, p2, p3, p4, p5, p6, p7⟩ := cz8 (HS.out.mb.same hSw); skip; go_simp; done); (try simp only [Act.put, zp1, zp2, zp3]))
        | (refine tkc (v := ?_) rfl (Or.inl ⟨by rfl, ?_⟩) ?_; rotate_left; (intro wv hSw; rw [hSd] at hSw; obtain ⟨q0, q1, q2, q3, q4, q5, q6, q7, q8, q9⟩ := cz10 (HS.out.rw_.rb.same hSw); obtain ⟨p0, p1, p2, p3, p4, p5, p6, p7⟩ := cz8 (HS.out.mb.same hSw); skip; go_simp; with_reducible rfl); (try simp only [Act.put, zp1, zp2, zp3]))
        | (refine tkc (v := undef) rfl (Or.inr ⟨by rfl, rfl⟩) ?_; (try simp only [Act.put, zp1, zp2, zp3]))
      refine tkz ?_
      refine wpAnyH_done (by kernel_rfl) ?_ _
      change Exit.then _ _ _ _ W1.drew
      clear hS0 hSd
      go_wp2_with fail
      go_meet
      exact ⟨by rw [HE.out], rfl⟩
    · by_cases hB : r.kept.calm = false
      · have HE := Lib.hid (show true = bq by rw [← HBQ.out]; simp [hB])
        obtain ⟨S, hSd⟩ : ∃ S : World → Prop, S = fun w' => Below W1.heap.size W1 w' := ⟨_, rfl⟩
        have hS0 : S W1.drew := by rw [hSd]; exact (Below.refl _ _).drew
        refine wp_region_held (S := S) (by kernel_rfl) ?_
        change wpAnyH _ _ _ _ _ _ _ _ W1.drew
        refine tkHs [0, 1, 2, 3, 4, 5, 6, 7, 8, 9, 10, 11, 12, 13] (by kernel_rfl) (fun _ _ _ _ _ h => h) hS0 ?_
        iterate 14
          first
          | (refine tkc (v := ?_) rfl (Or.inl ⟨by rfl, ?_⟩) ?_; rotate_left; (intro wv hSw; rw [hSd] at hSw; obtain ⟨q0, q1, q2, q3, q4, q5, q6, q7, q8, q9⟩ := cz10 (HS.out.rw_.rb.same hSw); obtain ⟨p0, p1, p2, p3, p4, p5, p6, p7⟩ := cz8 (HS.out.mb.same hSw); (rw [hB] at q3); go_simp; done); (try simp only [Act.put, zp1, zp2, zp3]))
          | (refine tkc (v := ?_) rfl (Or.inl ⟨by rfl, ?_⟩) ?_; rotate_left; (intro wv hSw; rw [hSd] at hSw; obtain ⟨q0, q1, q2, q3, q4, q5, q6, q7, q8, q9⟩ := cz10 (HS.out.rw_.rb.same hSw); obtain ⟨p0, p1, p2, p3, p4, p5, p6, p7⟩ := cz8 (HS.out.mb.same hSw); (rw [hB] at q3); go_simp; with_reducible rfl); (try simp only [Act.put, zp1, zp2, zp3]))
          | (refine tkc (v := undef) rfl (Or.inr ⟨by rfl, rfl⟩) ?_; (try simp only [Act.put, zp1, zp2, zp3]))
        refine tkz ?_
        refine wpAnyH_done (by kernel_rfl) ?_ _
        change Exit.then _ _ _ _ W1.drew
        clear hS0 hSd
        go_wp2_with fail
        go_meet
        exact ⟨by rw [HE.out], rfl⟩
      · have HE := Lib.hid (show false = bq by rw [← HBQ.out]; simp [hA, hB])
        have hB' : r.kept.calm = true := by simpa using hB
        clear hB
        obtain ⟨S, hSd⟩ : ∃ S : World → Prop, S = fun w' => Below W1.heap.size W1 w' := ⟨_, rfl⟩
        have hS0 : S W1.drew := by rw [hSd]; exact (Below.refl _ _).drew
        refine wp_region_held (S := S) (by kernel_rfl) ?_
        change wpAnyH _ _ _ _ _ _ _ _ W1.drew
        refine tkHs [0, 1, 2, 3, 4, 5, 6, 7, 8, 9, 10, 11, 12, 13] (by kernel_rfl) (fun _ _ _ _ _ h => h) hS0 ?_
        iterate 14
          first
          | (refine tkc (v := ?_) rfl (Or.inl ⟨by rfl, ?_⟩) ?_; rotate_left; (intro wv hSw; rw [hSd] at hSw; obtain ⟨q0, q1, q2, q3, q4, q5, q6, q7, q8, q9⟩ := cz10 (HS.out.rw_.rb.same hSw); obtain ⟨p0, p1, p2, p3, p4, p5, p6, p7⟩ := cz8 (HS.out.mb.same hSw); (rw [hB'] at q3); go_simp; done); (try simp only [Act.put, zp1, zp2, zp3]))
          | (refine tkc (v := ?_) rfl (Or.inl ⟨by rfl, ?_⟩) ?_; rotate_left; (intro wv hSw; rw [hSd] at hSw; obtain ⟨q0, q1, q2, q3, q4, q5, q6, q7, q8, q9⟩ := cz10 (HS.out.rw_.rb.same hSw); obtain ⟨p0, p1, p2, p3, p4, p5, p6, p7⟩ := cz8 (HS.out.mb.same hSw); (rw [hB'] at q3); go_simp; with_reducible rfl); (try simp only [Act.put, zp1, zp2, zp3]))
          | (refine tkc (v := undef) rfl (Or.inr ⟨by rfl, rfl⟩) ?_; (try simp only [Act.put, zp1, zp2, zp3]))
        refine tkz ?_
        refine wpAnyH_done (by kernel_rfl) ?_ _
        change Exit.then _ _ _ _ W1.drew
        clear hS0 hSd
        go_wp2_with fail
        go_meet
        exact ⟨by rw [HE.out], rfl⟩
  case rest =>
  obtain ⟨rfl, hwc⟩ := hcut
  rw [hwc]
  clear hwc
  have HS := Lib.hid (HS.out.below (Below.refl _ _).drew)
  obtain ⟨W2, hW2⟩ : ∃ W, W = W1.drew := ⟨_, rfl⟩
  rw [← hW2] at HS ⊢
  clear hW2
  cases bq with
  | true =>
    have hfr : r.kept.view < m.view ∨ r.kept.calm = false := of_decide_eq_true HBQ.out
    obtain ⟨com, hcom⟩ : ∃ c, (if (m.log.length : Int) < r.kept.commit then (m.log.length : Int) else r.kept.commit) = c := ⟨_, rfl⟩
    have HL1 := Lib.hid (show lead1 r m = Scu.fresh { r with kept := ⟨m.view, m.view, true, m.log, com⟩ } by unfold lead1; rw [if_pos hfr, hcom])
    have HCOM := Lib.hid hcom
    clear hfr hcom
    go_upto_if 119 with fail
    go_cut [7] from 120 to 159 (fun cv wx => ∃ lu hv wv gv nv, HrS w wx base g gm (lead1 r m) lu hv wv gv nv m A c (.slice none 0 0) [] [])
    case first =>
      obtain ⟨-, -, -, -, -, q5, -⟩ := cz7 HS.out.rw_.rb
      obtain ⟨-, -, -, -, -, -, -, p7⟩ := cz8 HS.out.mb
      go_upto_if 128 with fail
      go_cut [7] from 128 to 131 (fun cv wx => cv = .int .i64 com ∧ wx = W2)
      case first =>
        by_cases hlc : (m.log.length : Int) < r.kept.commit
        · have he := HCOM.out
          rw [if_pos hlc] at he
          have HCE := Lib.hid he
          clear he
          go_wp2_with fail
          go_meet
          exact ⟨by rw [HCE.out], rfl⟩
        · have he := HCOM.out
          rw [if_neg hlc] at he
          have HCE := Lib.hid he
          clear he
          go_wp2_with fail
          go_meet
          exact ⟨by rw [HCE.out], rfl⟩
      case rest =>
      obtain ⟨rfl, hwc⟩ := hcut
      rw [hwc]
      clear hwc q5 p7
      go_upto_region 19 with fail
      have HSR := Lib.hid (msg_src (HS.out.ml.is HS.out.rw_.base_le) 1)
      obtain ⟨S, hSd⟩ : ∃ S : World → Prop, S = fun w' => Below W2.heap.size W2 w' := ⟨_, rfl⟩
      have hS0 : S W2.drew := by rw [hSd]; exact (Below.refl _ _).drew
      refine wp_region_E S 11 (by kernel_rfl) (fun hsh => ?_)
      change wpAnyE _ _ _ _ _ _ _ _ _ W2.drew
      refine tkEs 16 [0, 1, 2, 3, 4, 5, 6, 8] (by kernel_rfl) (fun _ _ _ _ _ h => h) hsh hS0 ?_
      iterate 8
        first
        | (refine tkc (v := ?_) rfl (Or.inl ⟨by rfl, ?_⟩) ?_; rotate_left; (intro wv hSw; rw [hSd] at hSw; obtain ⟨q0, q1, q2, q3, q4, q5, q6, q7, q8, q9⟩ := cz10 (HS.out.rw_.rb.same hSw); obtain ⟨p0, p1, p2, p3, p4, p5, p6, p7⟩ := cz8 (HS.out.mb.same hSw); skip; go_simp; done); (try simp only [Act.put, zp1, zp2, zp3]))
        | (refine tkc (v := ?_) rfl (Or.inl ⟨by rfl, ?_⟩) ?_; rotate_left; (intro wv hSw; rw [hSd] at hSw; obtain ⟨q0, q1, q2, q3, q4, q5, q6, q7, q8, q9⟩ := cz10 (HS.out.rw_.rb.same hSw); obtain ⟨p0, p1, p2, p3, p4, p5, p6, p7⟩ := cz8 (HS.out.mb.same hSw); skip; go_simp; with_reducible rfl); (try simp only [Act.put, zp1, zp2, zp3]))
        | (refine tkc (v := undef) rfl (Or.inr ⟨by rfl, rfl⟩) ?_; (try simp only [Act.put, zp1, zp2, zp3]))
      refine tkz (fun hsh => ?_)
      refine alE 7 (by kernel_rfl) (wpOp_step (o := _) rfl fun KA hKA => ?_)
      rw [if_pos (by rfl)]
      refine wp_app _ (.const (.slice none 0 0)) (.tmp 138) 22 rfl el_strs W2.heap.size _ 0 [] rfl (World.ownsRow_nil _ _ _ _) (.slice A m.log.length c) m.log.length (m.log.map Value.string) rfl HSR.out (one_strs _) HMX.out.1 HMX.out.2 (Nat.le_refl _) ?_
      intro v4 x4 h4 hg4 _
      have hb4 : Below W2.heap.size W2 x4 := ((Below.refl W2.heap.size W2).drew).grown hg4 (Nat.le_refl _) (fun q hq => by cases hq)
      have h4 : x4.ownsRow W2.heap.size 9 1 v4 m.log.length (m.log.map Value.string) := by simpa only [Nat.zero_add, List.nil_append] using h4
      obtain ⟨Au, cu, rfl, _, _, _, _⟩ := rd_own h4
      have HCL := Lib.hid (show OwnStrs x4 base (.slice Au m.log.length cu) m.log ∧ Below W2.heap.size W2 x4 from ⟨OwnStrs.base_ ⟨h4, HS.out.ml.len, HS.out.ml.each⟩ HS.out.rw_.base_le, hb4⟩)
      clear h4 hg4 hb4
      have hS1 : S x4 := by rw [hSd]; exact HCL.out.2
      refine hKA _ _ ⟨.inr hS1, ?_⟩
      have hsh := hsh.set (i := 7) (by rw [← List.contains_iff_mem]; kernel_rfl)
      (try simp only [Act.put, List.getElem_toArray, List.getElem_cons_succ, List.getElem_cons_zero, zp1, zp2, zp3])
      clear hKA hS0
      refine tkEs 16 [9, 10] (by kernel_rfl) (fun _ _ _ _ _ h => h) hsh hS1 ?_
      iterate 2
        first
        | (refine tkc (v := ?_) rfl (Or.inl ⟨by rfl, ?_⟩) ?_; rotate_left; (intro wv hSw; rw [hSd] at hSw; obtain ⟨q0, q1, q2, q3, q4, q5, q6, q7, q8, q9⟩ := cz10 (HS.out.rw_.rb.same hSw); obtain ⟨p0, p1, p2, p3, p4, p5, p6, p7⟩ := cz8 (HS.out.mb.same hSw); skip; go_simp; done); (try simp only [Act.put, zp1, zp2, zp3]))
        | (refine tkc (v := ?_) rfl (Or.inl ⟨by rfl, ?_⟩) ?_; rotate_left; (intro wv hSw; rw [hSd] at hSw; obtain ⟨q0, q1, q2, q3, q4, q5, q6, q7, q8, q9⟩ := cz10 (HS.out.rw_.rb.same hSw); obtain ⟨p0, p1, p2, p3, p4, p5, p6, p7⟩ := cz8 (HS.out.mb.same hSw); skip; go_simp; with_reducible rfl); (try simp only [Act.put, zp1, zp2, zp3]))
        | (refine tkc (v := undef) rfl (Or.inr ⟨by rfl, rfl⟩) ?_; (try simp only [Act.put, zp1, zp2, zp3]))
      refine tkz (fun hsh => ?_)
      refine alE 11 (by kernel_rfl) (wpOp_step (o := _) rfl fun KB hKB => ?_)
      rw [if_pos (by rfl)]
      have HS4 := Lib.hid (HS.out.below HCL.out.2)
      refine wp_store_mid 24 (.tmp 142) (.tmp 141) rfl g 1 #[.int .i64 m.view, .int .i64 m.view, .bool true, .slice Au m.log.length cu, .int .i64 com] rfl rfl (there_subr (n := 10) (blk_thr HS4.out.rw_.rb) 1 5 (by decide)) (by kernel_rfl) one_kept ?_
      obtain ⟨hk5, hb5⟩ := HS4.out.rw_.set_kept (k := ⟨m.view, m.view, true, m.log, com⟩) HCL.out.1
      have hs5 : Same [9, 31] 0 x4 (x4.setCells g 1 [.int .i64 m.view, .int .i64 m.view, .bool true, .slice Au m.log.length cu, .int .i64 com]) := Same.sets _ 1 _ _ HS4.out.rw_.rb (by decide)
      have hst := HS4.out.upd hk5 hs5 hb5
      obtain ⟨W5, hW5⟩ : ∃ W, W = x4.setCells g 1 [.int .i64 m.view, .int .i64 m.view, .bool true, .slice Au m.log.length cu, .int .i64 com] := ⟨_, rfl⟩
      change HrS _ (x4.setCells g 1 [.int .i64 m.view, .int .i64 m.view, .bool true, .slice Au m.log.length cu, .int .i64 com]) _ _ _ _ _ _ _ _ _ _ _ _ _ _ _ at hst
      rw [← hW5] at hst
      refine hKB _ _ ⟨.inl rfl, wpAnyE_done (by kernel_rfl) ?_ _⟩
      (try simp only [Act.put, List.getElem_toArray, List.getElem_cons_succ, List.getElem_cons_zero, zp1, zp2, zp3])
      change Exit.then _ _ _ _ (x4.setCells g 1 [.int .i64 m.view, .int .i64 m.view, .bool true, .slice Au m.log.length cu, .int .i64 com])
      rw [← hW5]
      have HS5 := Lib.hid hst
      clear hW5 hst hs5 hk5 hb5 hS1 hSd hKB
      go_wp2_with fail
      refine (forgotten_s HS5.out).mono ?_; rintro e w6 ⟨rfl, hst⟩
      have HE := Lib.hid hst
      clear hst
      go_wp2_with fail
      go_meet
      rw [HL1.out]
      exact HE.out
    case rest =>
    obtain ⟨lu, hv, wv, gv, nv, hst⟩ := hcut
    obtain ⟨r1, hr1⟩ : ∃ r1, lead1 r m = r1 := ⟨_, rfl⟩
    have hme := lead1_me r m
    have h31 := lead1_three m H3.out
    have hh := HH.out
    rw [hr1] at hst hme h31 hh
    obtain ⟨E0, z0, a, c1, b, c2, d, c3, e, c4, -, -, rfl, rfl, rfl, rfl, rfl, -⟩ := hst.forms h31
    obtain ⟨W6, hW6⟩ : ∃ W, W = wc := ⟨_, rfl⟩
    rw [← hW6] at hst ⊢
    have HS := Lib.hid hst
    have HM := Lib.hid hme
    have HHH := Lib.hid hh
    obtain ⟨-, -, -, -, q4, q5⟩ := cz6 hst.rw_.rb
    obtain ⟨-, -, -, -, -, p5, -⟩ := cz7 hst.mb
    clear hW6 hst hme h31 hh hr1 HH
    obtain ⟨com, hcom⟩ : ∃ c, (if (r1.kept.log.length : Int) < m.commit then (r1.kept.log.length : Int) else m.commit) = c := ⟨_, rfl⟩
    have hcm2 : com = min m.commit (r1.kept.log.length : Int) := by rw [← hcom]; split <;> omega
    have HCOM := Lib.hid (And.intro hcom hcm2)
    clear hcom hcm2
    go_upto_if 168 with fail
    go_cut [8] from 168 to 173 (fun cv wx => cv = .int .i64 com ∧ wx = W6)
    case first =>
      by_cases hlc : (r1.kept.log.length : Int) < m.commit
      · have he := HCOM.out.1
        rw [if_pos hlc] at he
        have HCE := Lib.hid he
        clear he
        go_wp2_with fail
        go_meet
        exact ⟨by rw [HCE.out], rfl⟩
      · have he := HCOM.out.1
        rw [if_neg hlc] at he
        have HCE := Lib.hid he
        clear he
        go_wp2_with fail
        go_meet
        exact ⟨by rw [HCE.out], rfl⟩
    case rest =>
    obtain ⟨rfl, hwc⟩ := hcut
    rw [hwc]
    clear hwc
    by_cases hgt : r1.kept.commit < com
    · have HHQ := Lib.hid (show ({ r1 with kept := { r1.kept with commit := com } }, [{ Scu.msg0 with kind := 2, from_ := r1.me, tq := m.from_, view := r1.kept.view, n := r1.kept.log.length }]) = (rr, ms) by
        have h := HHH.out
        rw [← HCOM.out.2, show max r1.kept.commit com = com by omega, ← HM.out] at h
        exact h)
      have qz := HS.out.rw_.rb.frozen 5
      go_upto_region 28 with fail
      obtain ⟨W7, hW7⟩ : ∃ W, W = W6.setCell ⟨g, 5, none⟩ (.int .i64 com) := ⟨_, rfl⟩
      have hst := HS.out.upd (HS.out.rw_.set_commit com) (Same.set_ HS.out.rw_.rb (Nat.zero_le _) (by decide) 5 _) (HS.out.rw_.rcell 5 (.int .i64 com)).2
      rw [← hW7] at hst ⊢
      obtain ⟨rq, hrq⟩ : ∃ q, q = { r1 with kept := { r1.kept with commit := com } } := ⟨_, rfl⟩
      have HHQ := Lib.hid (show (rq, [{ Scu.msg0 with kind := 2, from_ := rq.me, tq := m.from_, view := rq.kept.view, n := rq.kept.log.length }]) = (rr, ms) by rw [hrq]; exact HHQ.out)
      have HS := Lib.hid (show HrS w W7 base g gm rq (.slice E0 rq.kept.log.length z0) (.slice (some ⟨a, 0, none⟩) 3 c1) (.slice (some ⟨b, 0, none⟩) 3 c2) (.slice (some ⟨d, 0, none⟩) 3 c3) (.slice (some ⟨e, 0, none⟩) 3 c4) m A c (.slice none 0 0) [] [] by rw [hrq]; exact hst)
      clear hW7 hst hrq q4 q5 p5 qz
      obtain ⟨S, hSd⟩ : ∃ S : World → Prop, S = fun w' => Below W7.heap.size W7 w' := ⟨_, rfl⟩
      have hS0 : S W7.drew := by rw [hSd]; exact (Below.refl _ _).drew
      refine wp_region_held (S := S) (by kernel_rfl) ?_
      change wpAnyH _ _ _ _ _ _ _ _ W7.drew
      refine tkHs [0, 1, 2, 3, 4, 5, 6, 7, 8, 9, 10, 11, 12, 13, 14, 15] (by kernel_rfl) (fun _ _ _ _ _ h => h) hS0 ?_
      iterate 16
        first
        | (refine tkc (v := ?_) rfl (Or.inl ⟨by rfl, ?_⟩) ?_; rotate_left; (intro wv hSw; rw [hSd] at hSw; obtain ⟨q0, q1, q2, q3, q4, q5, q6, q7, q8, q9⟩ := cz10 (HS.out.rw_.rb.same hSw); obtain ⟨p0, p1, p2, p3, p4, p5, p6, p7⟩ := cz8 (HS.out.mb.same hSw); skip; go_simp; done); (try simp only [Act.put, zp1, zp2, zp3]))
        | (refine tkc (v := ?_) rfl (Or.inl ⟨by rfl, ?_⟩) ?_; rotate_left; (intro wv hSw; rw [hSd] at hSw; obtain ⟨q0, q1, q2, q3, q4, q5, q6, q7, q8, q9⟩ := cz10 (HS.out.rw_.rb.same hSw); obtain ⟨p0, p1, p2, p3, p4, p5, p6, p7⟩ := cz8 (HS.out.mb.same hSw); skip; go_simp; with_reducible rfl); (try simp only [Act.put, zp1, zp2, zp3]))
        | (refine tkc (v := undef) rfl (Or.inr ⟨by rfl, rfl⟩) ?_; (try simp only [Act.put, zp1, zp2, zp3]))
      refine tkz ?_
      refine alH 16 (by kernel_rfl) (wpOp_step (o := _) rfl fun KA hKA => ?_)
      go_simp
      have hal := ((Below.refl W7.heap.size W7).alloc (Nat.le_refl _) (Obj.cells #[.int .i64 2, .int .i64 rq.me, .int .i64 m.from_, .int .i64 rq.kept.view, .int .i64 0, .int .i64 0, .int .i64 rq.kept.log.length, .slice none 0 0] 31)).drew
      have hbk := (Blk.new W7 31 #[.int .i64 2, .int .i64 rq.me, .int .i64 m.from_, .int .i64 rq.kept.view, .int .i64 0, .int .i64 0, .int .i64 rq.kept.log.length, .slice none 0 0]).drew
      obtain ⟨Wt, hWt⟩ : ∃ W, W = (W7.alloc (Obj.cells #[.int .i64 2, .int .i64 rq.me, .int .i64 m.from_, .int .i64 rq.kept.view, .int .i64 0, .int .i64 0, .int .i64 rq.kept.log.length, .slice none 0 0] 31)).drew := ⟨_, rfl⟩
      rw [← hWt] at hal hbk ⊢
      have hS1 : S Wt := by rw [hSd]; exact hal
      refine hKA _ _ ⟨hS1, ?_⟩
      (try simp only [Act.put, List.getElem_toArray, List.getElem_cons_succ, List.getElem_cons_zero, zp1, zp2, zp3])
      clear hWt hKA hS0
      refine tkHs [17] (by kernel_rfl) (fun _ _ _ _ _ h => h) hS1 ?_
      iterate 1
        first
        | (refine tkc (v := ?_) rfl (Or.inl ⟨by rfl, ?_⟩) ?_; rotate_left; (intro wv hSw; rw [hSd] at hSw; obtain ⟨q0, q1, q2, q3, q4, q5, q6, q7, q8, q9⟩ := cz10 (HS.out.rw_.rb.same hSw); obtain ⟨p0, p1, p2, p3, p4, p5, p6, p7⟩ := cz8 (HS.out.mb.same hSw); skip; go_simp; done); (try simp only [Act.put, zp1, zp2, zp3]))
        | (refine tkc (v := ?_) rfl (Or.inl ⟨by rfl, ?_⟩) ?_; rotate_left; (intro wv hSw; rw [hSd] at hSw; obtain ⟨q0, q1, q2, q3, q4, q5, q6, q7, q8, q9⟩ := cz10 (HS.out.rw_.rb.same hSw); obtain ⟨p0, p1, p2, p3, p4, p5, p6, p7⟩ := cz8 (HS.out.mb.same hSw); skip; go_simp; with_reducible rfl); (try simp only [Act.put, zp1, zp2, zp3]))
        | (refine tkc (v := undef) rfl (Or.inr ⟨by rfl, rfl⟩) ?_; (try simp only [Act.put, zp1, zp2, zp3]))
      refine tkz ?_
      refine wpAnyH_done (by kernel_rfl) ?_ _
      change Exit.then _ _ _ _ Wt
      have HT := Lib.hid (And.intro (ownMs_one (m := { Scu.msg0 with kind := 2, from_ := rq.me, tq := m.from_, view := rq.kept.view, n := rq.kept.log.length }) hbk rfl rfl (Nat.le_trans HS.out.rw_.base_le (Nat.le_refl _))) (HS.out.below hal))
      clear hS1 hSd hal hbk
      go_wp2
      go_ret
      obtain ⟨hr1, hr2⟩ := Prod.mk.inj HHQ.out
      rw [← hr1, ← hr2]
      first | exact ⟨⟨_, rfl, _, HT.out.1⟩, HT.out.2.rw_.e, HT.out.2.low⟩ | exact ⟨⟨_, _, rfl, HT.out.1⟩, HT.out.2.rw_.e, HT.out.2.low⟩
    · have HHQ := Lib.hid (show (r1, [{ Scu.msg0 with kind := 2, from_ := r1.me, tq := m.from_, view := r1.kept.view, n := r1.kept.log.length }]) = (rr, ms) by
        have h := HHH.out
        rw [← HCOM.out.2, show max r1.kept.commit com = r1.kept.commit by omega, ← HM.out] at h
        exact h)
      go_upto_region 28 with fail
      obtain ⟨rq, hrq⟩ : ∃ q, r1 = q := ⟨_, rfl⟩
      rw [hrq] at HHQ HS
      clear hrq q4 q5 p5
      obtain ⟨S, hSd⟩ : ∃ S : World → Prop, S = fun w' => Below W6.heap.size W6 w' := ⟨_, rfl⟩
      have hS0 : S W6.drew := by rw [hSd]; exact (Below.refl _ _).drew
      refine wp_region_held (S := S) (by kernel_rfl) ?_
      change wpAnyH _ _ _ _ _ _ _ _ W6.drew
      refine tkHs [0, 1, 2, 3, 4, 5, 6, 7, 8, 9, 10, 11, 12, 13, 14, 15] (by kernel_rfl) (fun _ _ _ _ _ h => h) hS0 ?_
      iterate 16
        first
        | (refine tkc (v := ?_) rfl (Or.inl ⟨by rfl, ?_⟩) ?_; rotate_left; (intro wv hSw; rw [hSd] at hSw; obtain ⟨q0, q1, q2, q3, q4, q5, q6, q7, q8, q9⟩ := cz10 (HS.out.rw_.rb.same hSw); obtain ⟨p0, p1, p2, p3, p4, p5, p6, p7⟩ := cz8 (HS.out.mb.same hSw); skip; go_simp; done); (try simp only [Act.put, zp1, zp2, zp3]))
        | (refine tkc (v := ?_) rfl (Or.inl ⟨by rfl, ?_⟩) ?_; rotate_left; (intro wv hSw; rw [hSd] at hSw; obtain ⟨q0, q1, q2, q3, q4, q5, q6, q7, q8, q9⟩ := cz10 (HS.out.rw_.rb.same hSw); obtain ⟨p0, p1, p2, p3, p4, p5, p6, p7⟩ := cz8 (HS.out.mb.same hSw); skip; go_simp; with_reducible rfl); (try simp only [Act.put, zp1, zp2, zp3]))
        | (refine tkc (v := undef) rfl (Or.inr ⟨by rfl, rfl⟩) ?_; (try simp only [Act.put, zp1, zp2, zp3]))
      refine tkz ?_
      refine alH 16 (by kernel_rfl) (wpOp_step (o := _) rfl fun KA hKA => ?_)
      go_simp
      have hal := ((Below.refl W6.heap.size W6).alloc (Nat.le_refl _) (Obj.cells #[.int .i64 2, .int .i64 rq.me, .int .i64 m.from_, .int .i64 rq.kept.view, .int .i64 0, .int .i64 0, .int .i64 rq.kept.log.length, .slice none 0 0] 31)).drew
      have hbk := (Blk.new W6 31 #[.int .i64 2, .int .i64 rq.me, .int .i64 m.from_, .int .i64 rq.kept.view, .int .i64 0, .int .i64 0, .int .i64 rq.kept.log.length, .slice none 0 0]).drew
      obtain ⟨Wt, hWt⟩ : ∃ W, W = (W6.alloc (Obj.cells #[.int .i64 2, .int .i64 rq.me, .int .i64 m.from_, .int .i64 rq.kept.view, .int .i64 0, .int .i64 0, .int .i64 rq.kept.log.length, .slice none 0 0] 31)).drew := ⟨_, rfl⟩
      rw [← hWt] at hal hbk ⊢
      have hS1 : S Wt := by rw [hSd]; exact hal
      refine hKA _ _ ⟨hS1, ?_⟩
      (try simp only [Act.put, List.getElem_toArray, List.getElem_cons_succ, List.getElem_cons_zero, zp1, zp2, zp3])
      clear hWt hKA hS0
      refine tkHs [17] (by kernel_rfl) (fun _ _ _ _ _ h => h) hS1 ?_
      iterate 1
        first
        | (refine tkc (v := ?_) rfl (Or.inl ⟨by rfl, ?_⟩) ?_; rotate_left; (intro wv hSw; rw [hSd] at hSw; obtain ⟨q0, q1, q2, q3, q4, q5, q6, q7, q8, q9⟩ := cz10 (HS.out.rw_.rb.same hSw); obtain ⟨p0, p1, p2, p3, p4, p5, p6, p7⟩ := cz8 (HS.out.mb.same hSw); skip; go_simp; done); (try simp only [Act.put, zp1, zp2, zp3]))
        | (refine tkc (v := ?_) rfl (Or.inl ⟨by rfl, ?_⟩) ?_; rotate_left; (intro wv hSw; rw [hSd] at hSw; obtain ⟨q0, q1, q2, q3, q4, q5, q6, q7, q8, q9⟩ := cz10 (HS.out.rw_.rb.same hSw); obtain ⟨p0, p1, p2, p3, p4, p5, p6, p7⟩ := cz8 (HS.out.mb.same hSw); skip; go_simp; with_reducible rfl); (try simp only [Act.put, zp1, zp2, zp3]))
        | (refine tkc (v := undef) rfl (Or.inr ⟨by rfl, rfl⟩) ?_; (try simp only [Act.put, zp1, zp2, zp3]))
      refine tkz ?_
      refine wpAnyH_done (by kernel_rfl) ?_ _
      change Exit.then _ _ _ _ Wt
      have HT := Lib.hid (And.intro (ownMs_one (m := { Scu.msg0 with kind := 2, from_ := rq.me, tq := m.from_, view := rq.kept.view, n := rq.kept.log.length }) hbk rfl rfl (Nat.le_trans HS.out.rw_.base_le (Nat.le_refl _))) (HS.out.below hal))
      clear hS1 hSd hal hbk
      go_wp2
      go_ret
      obtain ⟨hr1, hr2⟩ := Prod.mk.inj HHQ.out
      rw [← hr1, ← hr2]
      first | exact ⟨⟨_, rfl, _, HT.out.1⟩, HT.out.2.rw_.e, HT.out.2.low⟩ | exact ⟨⟨_, _, rfl, HT.out.1⟩, HT.out.2.rw_.e, HT.out.2.low⟩
  | false =>
    have hfr : ¬ (r.kept.view < m.view ∨ r.kept.calm = false) := of_decide_eq_false HBQ.out
    have HFR := Lib.hid hfr
    clear hfr
    go_upto_if 119 with fail
    go_cut [7] from 120 to 159 (fun cv wx => ∃ lu hv wv gv nv, HrS w wx base g gm (lead1 r m) lu hv wv gv nv m A c (.slice none 0 0) [] [])
    case first =>
      go_upto_region 21 with fail
      by_cases hL : (r.kept.log.length : Int) < (m.log.length : Int)
      · have HL1 := Lib.hid (show lead1 r m = { r with kept := { r.kept with log := m.log } } by unfold lead1; rw [if_neg HFR.out, if_pos (by omega)])
        obtain ⟨S, hSd⟩ : ∃ S : World → Prop, S = fun w' => Below W2.heap.size W2 w' := ⟨_, rfl⟩
        have hS0 : S W2.drew := by rw [hSd]; exact (Below.refl _ _).drew
        refine wp_region_held (S := S) (by kernel_rfl) ?_
        change wpAnyH _ _ _ _ _ _ _ _ W2.drew
        refine tkHs [0, 1, 2, 3, 4, 5, 6, 7, 8] (by kernel_rfl) (fun _ _ _ _ _ h => h) hS0 ?_
        iterate 9
          first
          | (refine tkc (v := ?_) rfl (Or.inl ⟨by rfl, ?_⟩) ?_; rotate_left; (intro wv hSw; rw [hSd] at hSw; obtain ⟨q0, q1, q2, q3, q4, q5, q6, q7, q8, q9⟩ := cz10 (HS.out.rw_.rb.same hSw); obtain ⟨p0, p1, p2, p3, p4, p5, p6, p7⟩ := cz8 (HS.out.mb.same hSw); skip; go_simp; done); (try simp only [Act.put, zp1, zp2, zp3]))
          | (refine tkc (v := ?_) rfl (Or.inl ⟨by rfl, ?_⟩) ?_; rotate_left; (intro wv hSw; rw [hSd] at hSw; obtain ⟨q0, q1, q2, q3, q4, q5, q6, q7, q8, q9⟩ := cz10 (HS.out.rw_.rb.same hSw); obtain ⟨p0, p1, p2, p3, p4, p5, p6, p7⟩ := cz8 (HS.out.mb.same hSw); skip; go_simp; with_reducible rfl); (try simp only [Act.put, zp1, zp2, zp3]))
          | (refine tkc (v := undef) rfl (Or.inr ⟨by rfl, rfl⟩) ?_; (try simp only [Act.put, zp1, zp2, zp3]))
        refine tkz ?_
        refine wpAnyH_done (by kernel_rfl) ?_ _
        change Exit.then _ _ _ _ W2.drew
        obtain ⟨W3, hWn⟩ : ∃ W, W = W2.drew := ⟨_, rfl⟩
        have hbn : Below W2.heap.size W2 W3 := by rw [hWn]; exact (Below.refl _ _).drew
        rw [← hWn]
        have hsn := HS.out.below hbn
        clear hWn hS0 hSd
        have HS := Lib.hid hsn
        obtain ⟨-, -, -, -, -, -, -, p7⟩ := cz8 hsn.mb
        have HSR := Lib.hid (msg_src (HS.out.ml.is HS.out.rw_.base_le) 0)
        clear hsn hbn
        go_wp2_with (at_builtin; refine list_app _ rfl (.const (.slice none 0 0)) (.tmp 156) 22 rfl el_strs W3.heap.size _ 0 [] rfl (World.ownsRow_nil _ _ _ _) (.slice A m.log.length c) m.log.length (m.log.map Value.string) rfl HSR.out (one_strs _) HMX.out.1 HMX.out.2 (Nat.le_refl _) ?_)
        intro v4 x4 h4 hg4 _
        have hb4 : Below W3.heap.size W3 x4 := (Below.refl W3.heap.size W3).grown hg4 (Nat.le_refl _) (fun q hq => by cases hq)
        have h4 : x4.ownsRow W3.heap.size 9 1 v4 m.log.length (m.log.map Value.string) := by simpa only [Nat.zero_add, List.nil_append] using h4
        obtain ⟨Au, cu, rfl, _, _, _, _⟩ := rd_own h4
        have HCL := Lib.hid (show OwnStrs x4 base (.slice Au m.log.length cu) m.log ∧ Below W3.heap.size W3 x4 from ⟨OwnStrs.base_ ⟨h4, HS.out.ml.len, HS.out.ml.each⟩ HS.out.rw_.base_le, hb4⟩)
        have HS4 := Lib.hid (HS.out.below hb4)
        obtain ⟨-, -, -, -, q4, -⟩ := cz6 HS4.out.rw_.rb
        have qz := HS4.out.rw_.rb.frozen 4
        have HN := Lib.hid (HS4.out.upd (HS4.out.rw_.set_log HCL.out.1) (Same.set_ HS4.out.rw_.rb (Nat.zero_le _) (by decide) 4 _) (HS4.out.rw_.rcell 4 _).2)
        clear h4 hg4 hb4 p7
        go_wp2_with fail
        go_meet
        rw [HL1.out]
        exact ⟨_, _, _, _, _, HN.out⟩
      · have HL1 := Lib.hid (show lead1 r m = r by unfold lead1; rw [if_neg HFR.out, if_neg (by omega)])
        obtain ⟨S, hSd⟩ : ∃ S : World → Prop, S = fun w' => Below W2.heap.size W2 w' := ⟨_, rfl⟩
        have hS0 : S W2.drew := by rw [hSd]; exact (Below.refl _ _).drew
        refine wp_region_held (S := S) (by kernel_rfl) ?_
        change wpAnyH _ _ _ _ _ _ _ _ W2.drew
        refine tkHs [0, 1, 2, 3, 4, 5, 6, 7, 8] (by kernel_rfl) (fun _ _ _ _ _ h => h) hS0 ?_
        iterate 9
          first
          | (refine tkc (v := ?_) rfl (Or.inl ⟨by rfl, ?_⟩) ?_; rotate_left; (intro wv hSw; rw [hSd] at hSw; obtain ⟨q0, q1, q2, q3, q4, q5, q6, q7, q8, q9⟩ := cz10 (HS.out.rw_.rb.same hSw); obtain ⟨p0, p1, p2, p3, p4, p5, p6, p7⟩ := cz8 (HS.out.mb.same hSw); skip; go_simp; done); (try simp only [Act.put, zp1, zp2, zp3]))
          | (refine tkc (v := ?_) rfl (Or.inl ⟨by rfl, ?_⟩) ?_; rotate_left; (intro wv hSw; rw [hSd] at hSw; obtain ⟨q0, q1, q2, q3, q4, q5, q6, q7, q8, q9⟩ := cz10 (HS.out.rw_.rb.same hSw); obtain ⟨p0, p1, p2, p3, p4, p5, p6, p7⟩ := cz8 (HS.out.mb.same hSw); skip; go_simp; with_reducible rfl); (try simp only [Act.put, zp1, zp2, zp3]))
          | (refine tkc (v := undef) rfl (Or.inr ⟨by rfl, rfl⟩) ?_; (try simp only [Act.put, zp1, zp2, zp3]))
        refine tkz ?_
        refine wpAnyH_done (by kernel_rfl) ?_ _
        change Exit.then _ _ _ _ W2.drew
        clear hS0 hSd
        have HN := Lib.hid (HS.out.below (Below.refl _ _).drew)
        go_wp2_with fail
        go_meet
        rw [HL1.out]
        exact ⟨_, _, _, _, _, HN.out⟩
    case rest =>
    obtain ⟨lu, hv, wv, gv, nv, hst⟩ := hcut
    obtain ⟨r1, hr1⟩ : ∃ r1, lead1 r m = r1 := ⟨_, rfl⟩
    have hme := lead1_me r m
    have h31 := lead1_three m H3.out
    have hh := HH.out
    rw [hr1] at hst hme h31 hh
    obtain ⟨E0, z0, a, c1, b, c2, d, c3, e, c4, -, -, rfl, rfl, rfl, rfl, rfl, -⟩ := hst.forms h31
    obtain ⟨W6, hW6⟩ : ∃ W, W = wc := ⟨_, rfl⟩
    rw [← hW6] at hst ⊢
    have HS := Lib.hid hst
    have HM := Lib.hid hme
    have HHH := Lib.hid hh
    obtain ⟨-, -, -, -, q4, q5⟩ := cz6 hst.rw_.rb
    obtain ⟨-, -, -, -, -, p5, -⟩ := cz7 hst.mb
    clear hW6 hst hme h31 hh hr1 HH
    obtain ⟨com, hcom⟩ : ∃ c, (if (r1.kept.log.length : Int) < m.commit then (r1.kept.log.length : Int) else m.commit) = c := ⟨_, rfl⟩
    have hcm2 : com = min m.commit (r1.kept.log.length : Int) := by rw [← hcom]; split <;> omega
    have HCOM := Lib.hid (And.intro hcom hcm2)
    clear hcom hcm2
    go_upto_if 168 with fail
    go_cut [8] from 168 to 173 (fun cv wx => cv = .int .i64 com ∧ wx = W6)
    case first =>
      by_cases hlc : (r1.kept.log.length : Int) < m.commit
      · have he := HCOM.out.1
        rw [if_pos hlc] at he
        have HCE := Lib.hid he
        clear he
        go_wp2_with fail
        go_meet
        exact ⟨by rw [HCE.out], rfl⟩
      · have he := HCOM.out.1
        rw [if_neg hlc] at he
        have HCE := Lib.hid he
        clear he
        go_wp2_with fail
        go_meet
        exact ⟨by rw [HCE.out], rfl⟩
    case rest =>
    obtain ⟨rfl, hwc⟩ := hcut
    rw [hwc]
    clear hwc
    by_cases hgt : r1.kept.commit < com
    · have HHQ := Lib.hid (show ({ r1 with kept := { r1.kept with commit := com } }, [{ Scu.msg0 with kind := 2, from_ := r1.me, tq := m.from_, view := r1.kept.view, n := r1.kept.log.length }]) = (rr, ms) by
        have h := HHH.out
        rw [← HCOM.out.2, show max r1.kept.commit com = com by omega, ← HM.out] at h
        exact h)
      have qz := HS.out.rw_.rb.frozen 5
      go_upto_region 28 with fail
      obtain ⟨W7, hW7⟩ : ∃ W, W = W6.setCell ⟨g, 5, none⟩ (.int .i64 com) := ⟨_, rfl⟩
      have hst := HS.out.upd (HS.out.rw_.set_commit com) (Same.set_ HS.out.rw_.rb (Nat.zero_le _) (by decide) 5 _) (HS.out.rw_.rcell 5 (.int .i64 com)).2
      rw [← hW7] at hst ⊢
      obtain ⟨rq, hrq⟩ : ∃ q, q = { r1 with kept := { r1.kept with commit := com } } := ⟨_, rfl⟩
      have HHQ := Lib.hid (show (rq, [{ Scu.msg0 with kind := 2, from_ := rq.me, tq := m.from_, view := rq.kept.view, n := rq.kept.log.length }]) = (rr, ms) by rw [hrq]; exact HHQ.out)
      have HS := Lib.hid (show HrS w W7 base g gm rq (.slice E0 rq.kept.log.length z0) (.slice (some ⟨a, 0, none⟩) 3 c1) (.slice (some ⟨b, 0, none⟩) 3 c2) (.slice (some ⟨d, 0, none⟩) 3 c3) (.slice (some ⟨e, 0, none⟩) 3 c4) m A c (.slice none 0 0) [] [] by rw [hrq]; exact hst)
      clear hW7 hst hrq q4 q5 p5 qz
      obtain ⟨S, hSd⟩ : ∃ S : World → Prop, S = fun w' => Below W7.heap.size W7 w' := ⟨_, rfl⟩
      have hS0 : S W7.drew := by rw [hSd]; exact (Below.refl _ _).drew
      refine wp_region_held (S := S) (by kernel_rfl) ?_
      change wpAnyH _ _ _ _ _ _ _ _ W7.drew
      refine tkHs [0, 1, 2, 3, 4, 5, 6, 7, 8, 9, 10, 11, 12, 13, 14, 15] (by kernel_rfl) (fun _ _ _ _ _ h => h) hS0 ?_
      iterate 16
        first
        | (refine tkc (v := ?_) rfl (Or.inl ⟨by rfl, ?_⟩) ?_; rotate_left; (intro wv hSw; rw [hSd] at hSw; obtain ⟨q0, q1, q2, q3, q4, q5, q6, q7, q8, q9⟩ := cz10 (HS.out.rw_.rb.same hSw); obtain ⟨p0, p1, p2, p3, p4, p5, p6, p7⟩ := cz8 (HS.out.mb.same hSw); skip; go_simp; done); (try simp only [Act.put, zp1, zp2, zp3]))
        | (refine tkc (v := ?_) rfl (Or.inl ⟨by rfl, ?_⟩) ?_; rotate_left; (intro wv hSw; rw [hSd] at hSw; obtain ⟨q0, q1, q2, q3, q4, q5, q6, q7, q8, q9⟩ := cz10 (HS.out.rw_.rb.same hSw); obtain ⟨p0, p1, p2, p3, p4, p5, p6, p7⟩ := cz8 (HS.out.mb.same hSw); skip; go_simp; with_reducible rfl); (try simp only [Act.put, zp1, zp2, zp3]))
        | (refine tkc (v := undef) rfl (Or.inr ⟨by rfl, rfl⟩) ?_; (try simp only [Act.put, zp1, zp2, zp3]))
      refine tkz ?_
      refine alH 16 (by kernel_rfl) (wpOp_step (o := _) rfl fun KA hKA => ?_)
      go_simp
      have hal := ((Below.refl W7.heap.size W7).alloc (Nat.le_refl _) (Obj.cells #[.int .i64 2, .int .i64 rq.me, .int .i64 m.from_, .int .i64 rq.kept.view, .int .i64 0, .int .i64 0, .int .i64 rq.kept.log.length, .slice none 0 0] 31)).drew
      have hbk := (Blk.new W7 31 #[.int .i64 2, .int .i64 rq.me, .int .i64 m.from_, .int .i64 rq.kept.view, .int .i64 0, .int .i64 0, .int .i64 rq.kept.log.length, .slice none 0 0]).drew
      obtain ⟨Wt, hWt⟩ : ∃ W, W = (W7.alloc (Obj.cells #[.int .i64 2, .int .i64 rq.me, .int .i64 m.from_, .int .i64 rq.kept.view, .int .i64 0, .int .i64 0, .int .i64 rq.kept.log.length, .slice none 0 0] 31)).drew := ⟨_, rfl⟩
      rw [← hWt] at hal hbk ⊢
      have hS1 : S Wt := by rw [hSd]; exact hal
      refine hKA _ _ ⟨hS1, ?_⟩
      (try simp only [Act.put, List.getElem_toArray, List.getElem_cons_succ, List.getElem_cons_zero, zp1, zp2, zp3])
      clear hWt hKA hS0
      refine tkHs [17] (by kernel_rfl) (fun _ _ _ _ _ h => h) hS1 ?_
      iterate 1
        first
        | (refine tkc (v := ?_) rfl (Or.inl ⟨by rfl, ?_⟩) ?_; rotate_left; (intro wv hSw; rw [hSd] at hSw; obtain ⟨q0, q1, q2, q3, q4, q5, q6, q7, q8, q9⟩ := cz10 (HS.out.rw_.rb.same hSw); obtain ⟨p0, p1, p2, p3, p4, p5, p6, p7⟩ := cz8 (HS.out.mb.same hSw); skip; go_simp; done); (try simp only [Act.put, zp1, zp2, zp3]))
        | (refine tkc (v := ?_) rfl (Or.inl ⟨by rfl, ?_⟩) ?_; rotate_left; (intro wv hSw; rw [hSd] at hSw; obtain ⟨q0, q1, q2, q3, q4, q5, q6, q7, q8, q9⟩ := cz10 (HS.out.rw_.rb.same hSw); obtain ⟨p0, p1, p2, p3, p4, p5, p6, p7⟩ := cz8 (HS.out.mb.same hSw); skip; go_simp; with_reducible rfl); (try simp only [Act.put, zp1, zp2, zp3]))
        | (refine tkc (v := undef) rfl (Or.inr ⟨by rfl, rfl⟩) ?_; (try simp only [Act.put, zp1, zp2, zp3]))
      refine tkz ?_
      refine wpAnyH_done (by kernel_rfl) ?_ _
      change Exit.then _ _ _ _ Wt
      have HT := Lib.hid (And.intro (ownMs_one (m := { Scu.msg0 with kind := 2, from_ := rq.me, tq := m.from_, view := rq.kept.view, n := rq.kept.log.length }) hbk rfl rfl (Nat.le_trans HS.out.rw_.base_le (Nat.le_refl _))) (HS.out.below hal))
      clear hS1 hSd hal hbk
      go_wp2
      go_ret
      obtain ⟨hr1, hr2⟩ := Prod.mk.inj HHQ.out
      rw [← hr1, ← hr2]
      first | exact ⟨⟨_, rfl, _, HT.out.1⟩, HT.out.2.rw_.e, HT.out.2.low⟩ | exact ⟨⟨_, _, rfl, HT.out.1⟩, HT.out.2.rw_.e, HT.out.2.low⟩
    · have HHQ := Lib.hid (show (r1, [{ Scu.msg0 with kind := 2, from_ := r1.me, tq := m.from_, view := r1.kept.view, n := r1.kept.log.length }]) = (rr, ms) by
        have h := HHH.out
        rw [← HCOM.out.2, show max r1.kept.commit com = r1.kept.commit by omega, ← HM.out] at h
        exact h)
      go_upto_region 28 with fail
      obtain ⟨rq, hrq⟩ : ∃ q, r1 = q := ⟨_, rfl⟩
      rw [hrq] at HHQ HS
      clear hrq q4 q5 p5
      obtain ⟨S, hSd⟩ : ∃ S : World → Prop, S = fun w' => Below W6.heap.size W6 w' := ⟨_, rfl⟩
      have hS0 : S W6.drew := by rw [hSd]; exact (Below.refl _ _).drew
      refine wp_region_held (S := S) (by kernel_rfl) ?_
      change wpAnyH _ _ _ _ _ _ _ _ W6.drew
      refine tkHs [0, 1, 2, 3, 4, 5, 6, 7, 8, 9, 10, 11, 12, 13, 14, 15] (by kernel_rfl) (fun _ _ _ _ _ h => h) hS0 ?_
      iterate 16
        first
        | (refine tkc (v := ?_) rfl (Or.inl ⟨by rfl, ?_⟩) ?_; rotate_left; (intro wv hSw; rw [hSd] at hSw; obtain ⟨q0, q1, q2, q3, q4, q5, q6, q7, q8, q9⟩ := cz10 (HS.out.rw_.rb.same hSw); obtain ⟨p0, p1, p2, p3, p4, p5, p6, p7⟩ := cz8 (HS.out.mb.same hSw); skip; go_simp; done); (try simp only [Act.put, zp1, zp2, zp3]))
        | (refine tkc (v := ?_) rfl (Or.inl ⟨by rfl, ?_⟩) ?_; rotate_left; (intro wv hSw; rw [hSd] at hSw; obtain ⟨q0, q1, q2, q3, q4, q5, q6, q7, q8, q9⟩ := cz10 (HS.out.rw_.rb.same hSw); obtain ⟨p0, p1, p2, p3, p4, p5, p6, p7⟩ := cz8 (HS.out.mb.same hSw); skip; go_simp; with_reducible rfl); (try simp only [Act.put, zp1, zp2, zp3]))
        | (refine tkc (v := undef) rfl (Or.inr ⟨by rfl, rfl⟩) ?_; (try simp only [Act.put, zp1, zp2, zp3]))
      refine tkz ?_
      refine alH 16 (by kernel_rfl) (wpOp_step (o := _) rfl fun KA hKA => ?_)
      go_simp
      have hal := ((Below.refl W6.heap.size W6).alloc (Nat.le_refl _) (Obj.cells #[.int .i64 2, .int .i64 rq.me, .int .i64 m.from_, .int .i64 rq.kept.view, .int .i64 0, .int .i64 0, .int .i64 rq.kept.log.length, .slice none 0 0] 31)).drew
      have hbk := (Blk.new W6 31 #[.int .i64 2, .int .i64 rq.me, .int .i64 m.from_, .int .i64 rq.kept.view, .int .i64 0, .int .i64 0, .int .i64 rq.kept.log.length, .slice none 0 0]).drew
      obtain ⟨Wt, hWt⟩ : ∃ W, W = (W6.alloc (Obj.cells #[.int .i64 2, .int .i64 rq.me, .int .i64 m.from_, .int .i64 rq.kept.view, .int .i64 0, .int .i64 0, .int .i64 rq.kept.log.length, .slice none 0 0] 31)).drew := ⟨_, rfl⟩
      rw [← hWt] at hal hbk ⊢
      have hS1 : S Wt := by rw [hSd]; exact hal
      refine hKA _ _ ⟨hS1, ?_⟩
      (try simp only [Act.put, List.getElem_toArray, List.getElem_cons_succ, List.getElem_cons_zero, zp1, zp2, zp3])
      clear hWt hKA hS0
      refine tkHs [17] (by kernel_rfl) (fun _ _ _ _ _ h => h) hS1 ?_
      iterate 1
        first
        | (refine tkc (v := ?_) rfl (Or.inl ⟨by rfl, ?_⟩) ?_; rotate_left; (intro wv hSw; rw [hSd] at hSw; obtain ⟨q0, q1, q2, q3, q4, q5, q6, q7, q8, q9⟩ := cz10 (HS.out.rw_.rb.same hSw); obtain ⟨p0, p1, p2, p3, p4, p5, p6, p7⟩ := cz8 (HS.out.mb.same hSw); skip; go_simp; done); (try simp only [Act.put, zp1, zp2, zp3]))
        | (refine tkc (v := ?_) rfl (Or.inl ⟨by rfl, ?_⟩) ?_; rotate_left; (intro wv hSw; rw [hSd] at hSw; obtain ⟨q0, q1, q2, q3, q4, q5, q6, q7, q8, q9⟩ := cz10 (HS.out.rw_.rb.same hSw); obtain ⟨p0, p1, p2, p3, p4, p5, p6, p7⟩ := cz8 (HS.out.mb.same hSw); skip; go_simp; with_reducible rfl); (try simp only [Act.put, zp1, zp2, zp3]))
        | (refine tkc (v := undef) rfl (Or.inr ⟨by rfl, rfl⟩) ?_; (try simp only [Act.put, zp1, zp2, zp3]))
      refine tkz ?_
      refine wpAnyH_done (by kernel_rfl) ?_ _
      change Exit.then _ _ _ _ Wt
      have HT := Lib.hid (And.intro (ownMs_one (m := { Scu.msg0 with kind := 2, from_ := rq.me, tq := m.from_, view := rq.kept.view, n := rq.kept.log.length }) hbk rfl rfl (Nat.le_trans HS.out.rw_.base_le (Nat.le_refl _))) (HS.out.below hal))
      clear hS1 hSd hal hbk
      go_wp2
      go_ret
      obtain ⟨hr1, hr2⟩ := Prod.mk.inj HHQ.out
      rw [← hr1, ← hr2]
      first | exact ⟨⟨_, rfl, _, HT.out.1⟩, HT.out.2.rw_.e, HT.out.2.low⟩ | exact ⟨⟨_, _, rfl, HT.out.1⟩, HT.out.2.rw_.e, HT.out.2.low⟩
end Go.Proofs.Ytlaibljdlpmbfaa
/- Walks: ref.heard: another one has so many entries. -/
namespace Go.Proofs.Ytlaibljdlpmbfaa
set_option linter.unusedVariables false
set_option linter.unusedSimpArgs false
open Go.RowKit
set_option maxHeartbeats 16000000
set_option maxRecDepth 100000
/- a region that only reads: $1 the numbers, $2 how many, $3 more facts, $4 the world, $5 the world behind it; HS says what holds -/
/- a region that ends in a store, t: up to the store ($1 numbers, $2 how many, $3 more facts, $4 the world, $5 the store's number) -/
/- as QR, but the world keeps its written form $4.drew -/
/- the message's log is taken over into new memory; $1 its slot, $2 the world: v4, x4; HCL: what is new -/
/- ahead of who wants and who gives: a, what comes of a newer view; W0: the world, HS -/
/- the replica's own gift is put: $1 the world, $2 the next region, $3 $4 the store's address and value, $5 the replica; HN, HN2: what holds behind it -/
/- given is set: $1 whose, $2 that it is below 3, $3 the world, $4 more, $5 the replica; HS5 -/
/- begun, and what it says appended to am: $1 $2 the slots, $3 the replica; HS, H32, HNG hold, HFI: what heard comes to -/
theorem heard_2 (g base : Nat) (r : Scu.Replica) (lu hv wv gv nv : Value) (m : Scu.Message) (A : Option Addr) (c : Nat) (w : World) (hR : RWk w base g r lu hv wv gv nv) (h3 : Rep3 r) (hv0 : 0 ≤ r.kept.view) (hl : LowStrs w base (.slice A m.log.length c) m.log) (hk : m.kind = 2) (hf0 : 0 ≤ m.from_) (hf3 : m.from_ < 3)
    (rr : Scu.Replica) (ms : List Scu.Message) (hh : Scu.hearHas r m = (rr, ms)) :
    Calls Try.prog 18 #[.pointer (some ⟨g, 0, none⟩), .agg #[.int .i64 m.kind, .int .i64 m.from_, .int .i64 m.tq, .int .i64 m.view, .int .i64 m.normal, .int .i64 m.commit, .int .i64 m.n, .slice A m.log.length c]] w fun e w' => (∃ ov css, e = .returned ov ∧ OwnMs w' base ov ms css) ∧ RWkE w' base g rr ∧ Below base w w' := by
  have hk1 : (m.kind == 1) = false := by simp [hk]
  have hk2 : (m.kind == 2) = true := by simp [hk]
  have hk3 : (m.kind == 3) = false := by simp [hk]
  have hk4 : (m.kind == 4) = false := by simp [hk]
  obtain ⟨fn, hfn⟩ : ∃ fn : Nat, m.from_ = fn := ⟨m.from_.toNat, by omega⟩
  have hfn3 : fn < 3 := by omega
  have hal := below_alloc w (Obj.cells #[.int .i64 m.kind, .int .i64 m.from_, .int .i64 m.tq, .int .i64 m.view, .int .i64 m.normal, .int .i64 m.commit, .int .i64 m.n, .slice A m.log.length c] 31)
  have hst : HrS w (w.alloc (Obj.cells #[.int .i64 m.kind, .int .i64 m.from_, .int .i64 m.tq, .int .i64 m.view, .int .i64 m.normal, .int .i64 m.commit, .int .i64 m.n, .slice A m.log.length c] 31)) base g w.heap.size r lu hv wv gv nv m A c (.slice none 0 0) [] [] := ⟨hR.below hal, Blk.new _ _ _, hl.keep (hal.mono hR.base_le), OwnMs.nil_, hal.mono hR.base_le⟩
  obtain ⟨E0, z0, a, c1, b, c2, d, c3, e, c4, -, -, rfl, rfl, rfl, rfl, rfl, -⟩ := hst.forms h3
  have H3 := Lib.hid h3
  have HH := Lib.hid hh
  have HV0 := Lib.hid hv0
  have HFN := Lib.hid hfn
  have hl47 := hR.own.own.log.2.1
  unfold R47 at hl47
  clear hR h3 hl hk hh hv0 hf0 hf3 hfn
  go_enter Try.func18, Try.ntmps18
  go_upto_region 3 with fail
  obtain ⟨W0, hW0⟩ : ∃ W, W = w.alloc (Obj.cells #[.int .i64 m.kind, .int .i64 m.from_, .int .i64 m.tq, .int .i64 m.view, .int .i64 m.normal, .int .i64 m.commit, .int .i64 m.n, .slice A m.log.length c] 31) := ⟨_, rfl⟩
  obtain ⟨gm, hgm⟩ : ∃ g, w.heap.size = g := ⟨_, rfl⟩
  rw [← hW0, hgm] at hst
  rw [← hW0, hgm]
  have HS := Lib.hid hst
  clear hW0 hgm hst hal
  obtain ⟨S, hSd⟩ : ∃ S : World → Prop, S = fun w' => Below W0.heap.size W0 w' := ⟨_, rfl⟩
  have hS0 : S W0.drew := by rw [hSd]; exact (Below.refl _ _).drew
  refine wp_region_held (S := S) (by kernel_rfl) ?_
  change wpAnyH _ _ _ _ _ _ _ _ W0.drew
  refine tkHs [0, 1, 2, 3, 4, 5, 6, 7, 8, 9, 10, 11, 12, 13, 14, 15, 16] (by kernel_rfl) (fun _ _ _ _ _ h => h) hS0 ?_
  iterate 17
    first
    | (refine tkc (v := ?_) rfl (Or.inl ⟨by rfl, ?_⟩) ?_; rotate_left; (intro wv hSw; rw [hSd] at hSw; obtain ⟨q0, q1, q2, q3, q4, q5, q6, q7, q8, q9⟩ := cz10 (HS.out.rw_.rb.same hSw); obtain ⟨p0, p1, p2, p3, p4, p5, p6, p7⟩ := cz8 (HS.out.mb.same hSw); skip; go_simp; done); (try simp only [Act.put, zp1, zp2, zp3]))
    | (refine tkc (v := ?_) rfl (Or.inl ⟨by rfl, ?_⟩) ?_; rotate_left; (intro wv hSw; rw [hSd] at hSw; obtain ⟨q0, q1, q2, q3, q4, q5, q6, q7, q8, q9⟩ := cz10 (HS.out.rw_.rb.same hSw); obtain ⟨p0, p1, p2, p3, p4, p5, p6, p7⟩ := cz8 (HS.out.mb.same hSw); skip; go_simp; with_reducible rfl); (try simp only [Act.put, zp1, zp2, zp3]))
    | (refine tkc (v := undef) rfl (Or.inr ⟨by rfl, rfl⟩) ?_; (try simp only [Act.put, zp1, zp2, zp3]))
  refine tkz ?_
  refine wpAnyH_done (by kernel_rfl) ?_ _
  change Exit.then _ _ _ _ W0.drew
  obtain ⟨W1, hWn⟩ : ∃ W, W = W0.drew := ⟨_, rfl⟩
  have hbn : Below W0.heap.size W0 W1 := by rw [hWn]; exact (Below.refl _ _).drew
  rw [← hWn]
  have hsn := HS.out.below hbn
  clear hWn hS0 hSd
  have HS := Lib.hid hsn
  obtain ⟨p0, -⟩ := cz2 hsn.mb
  clear hsn hbn
  go_upto_region 30 with fail
  clear p0
  by_cases hA : m.view = r.kept.view
  · have hAb : (m.view != r.kept.view) = false := by simp [hA]
    have HA := Lib.hid hA
    clear hA
    obtain ⟨bl, hbl⟩ : ∃ b, Scu.leads r = b := ⟨_, rfl⟩
    have HBL := Lib.hid hbl
    clear hbl
    obtain ⟨S, hSd⟩ : ∃ S : World → Prop, S = fun w' => Below W1.heap.size W1 w' := ⟨_, rfl⟩
    have hS0 : S W1.drew := by rw [hSd]; exact (Below.refl _ _).drew
    refine wp_region_held (S := S) (by kernel_rfl) ?_
    change wpAnyH _ _ _ _ _ _ _ _ W1.drew
    refine tkHs [0, 1, 2, 3, 4, 5, 6, 7, 8, 9, 10] (by kernel_rfl) (fun _ _ _ _ _ h => h) hS0 ?_
    iterate 11
      first
      | (refine tkc (v := ?_) rfl (Or.inl ⟨by rfl, ?_⟩) ?_; rotate_left; (intro wv hSw; rw [hSd] at hSw; obtain ⟨q0, q1, q2, q3, q4, q5, q6, q7, q8, q9⟩ := cz10 (HS.out.rw_.rb.same hSw); obtain ⟨p0, p1, p2, p3, p4, p5, p6, p7⟩ := cz8 (HS.out.mb.same hSw); skip; go_simp; done); (try simp only [Act.put, zp1, zp2, zp3]))
      | (refine tkc (v := ?_) rfl (Or.inl ⟨by rfl, ?_⟩) ?_; rotate_left; (intro wv hSw; rw [hSd] at hSw; obtain ⟨q0, q1, q2, q3, q4, q5, q6, q7, q8, q9⟩ := cz10 (HS.out.rw_.rb.same hSw); obtain ⟨p0, p1, p2, p3, p4, p5, p6, p7⟩ := cz8 (HS.out.mb.same hSw); skip; go_simp; with_reducible rfl); (try simp only [Act.put, zp1, zp2, zp3]))
      | (refine tkc (v := undef) rfl (Or.inr ⟨by rfl, rfl⟩) ?_; (try simp only [Act.put, zp1, zp2, zp3]))
    refine tkz ?_
    refine alH 11 (by kernel_rfl) (wpOp_step (o := _) rfl fun KA hKA => ?_)
    go_simp
    refine (leadsNow_a _ _ _ _ _ r HV0.out _ bl HBL.out).mono ?_; rintro e6 W2 ⟨rfl, h2⟩
    have h12 := (Below.refl W1.heap.size W1).drew.trans h2
    have hS0 : S W2 := by rw [hSd]; exact h12
    refine hKA _ _ ⟨hS0, ?_⟩
    (try simp only [Act.put, List.getElem_toArray, List.getElem_cons_succ, List.getElem_cons_zero, zp1, zp2, zp3])
    refine tkHs [12, 13] (by kernel_rfl) (fun _ _ _ _ _ h => h) hS0 ?_
    iterate 2
      first
      | (refine tkc (v := ?_) rfl (Or.inl ⟨by rfl, ?_⟩) ?_; rotate_left; (intro wv hSw; rw [hSd] at hSw; obtain ⟨q0, q1, q2, q3, q4, q5, q6, q7, q8, q9⟩ := cz10 (HS.out.rw_.rb.same hSw); obtain ⟨p0, p1, p2, p3, p4, p5, p6, p7⟩ := cz8 (HS.out.mb.same hSw); skip; go_simp; done); (try simp only [Act.put, zp1, zp2, zp3]))
      | (refine tkc (v := ?_) rfl (Or.inl ⟨by rfl, ?_⟩) ?_; rotate_left; (intro wv hSw; rw [hSd] at hSw; obtain ⟨q0, q1, q2, q3, q4, q5, q6, q7, q8, q9⟩ := cz10 (HS.out.rw_.rb.same hSw); obtain ⟨p0, p1, p2, p3, p4, p5, p6, p7⟩ := cz8 (HS.out.mb.same hSw); skip; go_simp; with_reducible rfl); (try simp only [Act.put, zp1, zp2, zp3]))
      | (refine tkc (v := undef) rfl (Or.inr ⟨by rfl, rfl⟩) ?_; (try simp only [Act.put, zp1, zp2, zp3]))
    refine tkz ?_
    refine wpAnyH_done (by kernel_rfl) ?_ _
    change Exit.then _ _ _ _ W2
    have HS := Lib.hid (HS.out.below h12)
    clear hKA h2 h12 hS0 hSd
    cases bl with
    | false =>
      have hhe : Scu.hearHas r m = (r, []) := by unfold Scu.hearHas; rw [if_pos (.inr HBL.out)]
      have HH := Lib.hid (hhe.symm.trans HH.out)
      have HN := HS
      clear hhe
      go_wp2
      go_ret
      obtain ⟨hr1, hr2⟩ := Prod.mk.inj HH.out
      rw [← hr1, ← hr2]
      first | exact ⟨⟨_, rfl, _, OwnMs.nil_⟩, HN.out.rw_.e, HN.out.low⟩ | exact ⟨⟨_, _, rfl, OwnMs.nil_⟩, HN.out.rw_.e, HN.out.low⟩
    | true =>
      obtain ⟨nn, hnn⟩ : ∃ n, (if (r.kept.log.length : Int) < m.n then (r.kept.log.length : Int) else m.n) = n := ⟨_, rfl⟩
      have hnm : nn = min m.n (r.kept.log.length : Int) := by rw [← hnn]; split <;> omega
      have HNN := Lib.hid (And.intro hnn hnm)
      clear hnn hnm
      obtain ⟨-, -, -, -, q4, -⟩ := cz6 HS.out.rw_.rb
      obtain ⟨-, -, -, -, -, -, p6, -⟩ := cz8 HS.out.mb
      go_upto_if 225 with fail
      go_cut [9] from 225 to 230 (fun cv wx => cv = .int .i64 nn ∧ wx = W2)
      case first =>
        by_cases hlc : (r.kept.log.length : Int) < m.n
        · have he := HNN.out.1
          rw [if_pos hlc] at he
          have HCE := Lib.hid he
          clear he
          go_wp2_with fail
          go_meet
          exact ⟨by rw [HCE.out], rfl⟩
        · have he := HNN.out.1
          rw [if_neg hlc] at he
          have HCE := Lib.hid he
          clear he
          go_wp2_with fail
          go_meet
          exact ⟨by rw [HCE.out], rfl⟩
      case rest =>
      obtain ⟨rfl, hwc⟩ := hcut
      rw [hwc]
      clear hwc q4 p6
      go_upto_region 35 with fail
      obtain ⟨hba, ⟨cur, hB⟩, _, hfz, hcn⟩ := ones3' HS.out.rw_.own.own.have_ H3.out.1
      obtain ⟨hx, hhx⟩ : ∃ h, r.have_[fn]? = some h := ⟨_, List.getElem?_eq_getElem (by rw [H3.out.1]; exact hfn3)⟩
      have dh : W2.cell? ⟨a, fn, none⟩ = some (.int .i64 hx) := by rw [hcn _ hfn3, List.getElem?_map, hhx]; rfl
      have dal := World.block_lt_of_cell? W2 _ dh
      have hgd : r.have_.getD fn 0 = hx := by rw [List.getD_eq_getElem?_getD, hhx]; rfl
      have HHX := Lib.hid (And.intro hhx hgd)
      have HB := Lib.hid (And.intro hB hba)
      clear hcn hhx hgd hB hba
      have hf0 : (0 : Int) ≤ (fn : Int) := by omega
      have hf3 : (fn : Int) < 3 := by omega
      have hhe : Scu.hearHas r m = (if r.kept.commit < nn then ({ { r with have_ := r.have_.set fn (max hx nn) } with kept := { r.kept with commit := nn } }, Scu.leadOn { { r with have_ := r.have_.set fn (max hx nn) } with kept := { r.kept with commit := nn } }) else ({ r with have_ := r.have_.set fn (max hx nn) }, [])) := by
        have hn : ¬ (m.view ≠ r.kept.view ∨ Scu.leads r = false) := by rw [HBL.out, HA.out]; simp
        unfold Scu.hearHas
        rw [if_neg hn, HFN.out]
        simp only [Int.toNat_natCast]
        rw [HHX.out.2, ← HNN.out.2]
      have HH := Lib.hid (hhe.symm.trans HH.out)
      clear hhe
      obtain ⟨bq, hbq⟩ : ∃ b : Bool, decide (hx < nn) = b := ⟨_, rfl⟩
      have HBQ := Lib.hid hbq
      clear hbq
      go_cut [240] from 231 to 239 (fun bv wx => bv = .bool bq ∧ wx = W2.drew)
      case first =>
        by_cases hgt : hx < nn
        · have HE := Lib.hid (show true = bq by rw [← HBQ.out]; simp [hgt])
          obtain ⟨S, hSd⟩ : ∃ S : World → Prop, S = fun w' => Below W2.heap.size W2 w' := ⟨_, rfl⟩
          have hS0 : S W2.drew := by rw [hSd]; exact (Below.refl _ _).drew
          refine wp_region_held (S := S) (by kernel_rfl) ?_
          change wpAnyH _ _ _ _ _ _ _ _ W2.drew
          refine tkHs [0, 1, 2, 3, 4, 5, 6, 7, 8, 9] (by kernel_rfl) (fun _ _ _ _ _ h => h) hS0 ?_
          iterate 10
            first
            | (refine tkc (v := ?_) rfl (Or.inl ⟨by rfl, ?_⟩) ?_; rotate_left; (intro wv hSw; rw [hSd] at hSw; obtain ⟨q0, q1, q2, q3, q4, q5, q6, q7, q8, q9⟩ := cz10 (HS.out.rw_.rb.same hSw); obtain ⟨p0, p1, p2, p3, p4, p5, p6, p7⟩ := cz8 (HS.out.mb.same hSw); (have q10 := cW hSw dal dh; rw [HFN.out] at p1); go_simp; done); (try simp only [Act.put, zp1, zp2, zp3]))
            | (refine tkc (v := ?_) rfl (Or.inl ⟨by rfl, ?_⟩) ?_; rotate_left; (intro wv hSw; rw [hSd] at hSw; obtain ⟨q0, q1, q2, q3, q4, q5, q6, q7, q8, q9⟩ := cz10 (HS.out.rw_.rb.same hSw); obtain ⟨p0, p1, p2, p3, p4, p5, p6, p7⟩ := cz8 (HS.out.mb.same hSw); (have q10 := cW hSw dal dh; rw [HFN.out] at p1); go_simp; with_reducible rfl); (try simp only [Act.put, zp1, zp2, zp3]))
            | (refine tkc (v := undef) rfl (Or.inr ⟨by rfl, rfl⟩) ?_; (try simp only [Act.put, zp1, zp2, zp3]))
          refine tkz ?_
          refine wpAnyH_done (by kernel_rfl) ?_ _
          change Exit.then _ _ _ _ W2.drew
          clear hS0 hSd
          go_wp2_with fail
          go_meet
          exact ⟨by rw [HE.out], rfl⟩
        · have HE := Lib.hid (show false = bq by rw [← HBQ.out]; simp [hgt])
          obtain ⟨S, hSd⟩ : ∃ S : World → Prop, S = fun w' => Below W2.heap.size W2 w' := ⟨_, rfl⟩
          have hS0 : S W2.drew := by rw [hSd]; exact (Below.refl _ _).drew
          refine wp_region_held (S := S) (by kernel_rfl) ?_
          change wpAnyH _ _ _ _ _ _ _ _ W2.drew
          refine tkHs [0, 1, 2, 3, 4, 5, 6, 7, 8, 9] (by kernel_rfl) (fun _ _ _ _ _ h => h) hS0 ?_
          iterate 10
            first
            | (refine tkc (v := ?_) rfl (Or.inl ⟨by rfl, ?_⟩) ?_; rotate_left; (intro wv hSw; rw [hSd] at hSw; obtain ⟨q0, q1, q2, q3, q4, q5, q6, q7, q8, q9⟩ := cz10 (HS.out.rw_.rb.same hSw); obtain ⟨p0, p1, p2, p3, p4, p5, p6, p7⟩ := cz8 (HS.out.mb.same hSw); (have q10 := cW hSw dal dh; rw [HFN.out] at p1); go_simp; done); (try simp only [Act.put, zp1, zp2, zp3]))
            | (refine tkc (v := ?_) rfl (Or.inl ⟨by rfl, ?_⟩) ?_; rotate_left; (intro wv hSw; rw [hSd] at hSw; obtain ⟨q0, q1, q2, q3, q4, q5, q6, q7, q8, q9⟩ := cz10 (HS.out.rw_.rb.same hSw); obtain ⟨p0, p1, p2, p3, p4, p5, p6, p7⟩ := cz8 (HS.out.mb.same hSw); (have q10 := cW hSw dal dh; rw [HFN.out] at p1); go_simp; with_reducible rfl); (try simp only [Act.put, zp1, zp2, zp3]))
            | (refine tkc (v := undef) rfl (Or.inr ⟨by rfl, rfl⟩) ?_; (try simp only [Act.put, zp1, zp2, zp3]))
          refine tkz ?_
          refine wpAnyH_done (by kernel_rfl) ?_ _
          change Exit.then _ _ _ _ W2.drew
          clear hS0 hSd
          go_wp2_with fail
          go_meet
          exact ⟨by rw [HE.out], rfl⟩
      case rest =>
      obtain ⟨rfl, hwc⟩ := hcut
      rw [hwc]
      clear hwc
      have hdr := (Below.refl W2.heap.size W2).drew
      have HS := Lib.hid (HS.out.below hdr)
      have HB := Lib.hid (And.intro (HB.out.1.same hdr) HB.out.2)
      have dh := cW hdr dal dh
      obtain ⟨W3, hW3⟩ : ∃ W, W = W2.drew := ⟨_, rfl⟩
      rw [← hW3] at HS HB dh ⊢
      clear hW3 hdr dal hfz
      go_upto_if 240 with fail
      go_cut [9] from 240 to 248 (fun cv wx => cv = .int .i64 nn ∧ ∃ lu hv wv gv nv, HrS w wx base g gm { r with have_ := r.have_.set fn (max hx nn) } lu hv wv gv nv m A c (.slice none 0 0) [] [])
      case first =>
        cases bq with
        | true =>
          have hgt : hx < nn := of_decide_eq_true HBQ.out
          have HMX := Lib.hid (show max hx nn = nn by omega)
          obtain ⟨-, -, -, -, -, -, q6, -⟩ := cz8 HS.out.rw_.rb
          obtain ⟨-, p1, -⟩ := cz3 HS.out.mb
          rw [HFN.out] at p1
          have hfz := HB.out.1.frozen fn
          have dal := HB.out.1.lt
          obtain ⟨hp1, hp2⟩ := HS.out.rw_.put_have HB.out.1 HB.out.2 fn nn
          have HN := Lib.hid ((HS.out.upd hp1 (Same.set_ HB.out.1 (Nat.zero_le _) (by decide) fn _) hp2).below (Below.refl _ _).drew)
          clear hp1 hp2 hgt
          go_upto_region 36 with fail
          go_region
          go_wp2_with fail
          go_meet
          rw [HMX.out]
          exact ⟨rfl, _, _, _, _, _, HN.out⟩
        | false =>
          have hgt : ¬ hx < nn := of_decide_eq_false HBQ.out
          have HMX := Lib.hid (show ({ r with have_ := r.have_.set fn (max hx nn) } : Scu.Replica) = r by
            rw [show max hx nn = hx by omega, set_same HHX.out.1])
          clear hgt
          go_wp2_with fail
          go_meet
          rw [HMX.out]
          exact ⟨rfl, _, _, _, _, _, HS.out⟩
      case rest =>
      obtain ⟨rfl, lu, hv, wv, gv, nv, hst⟩ := hcut
      obtain ⟨r1, hr1⟩ : ∃ q, q = ({ r with have_ := r.have_.set fn (max hx nn) } : Scu.Replica) := ⟨_, rfl⟩
      rw [← hr1] at hst
      have hq : (if r1.kept.commit < nn then ({ r1 with kept := { r1.kept with commit := nn } }, Scu.leadOn { r1 with kept := { r1.kept with commit := nn } }) else (r1, [])) = (rr, ms) := by rw [hr1]; exact HH.out
      have h31 : Rep3 r1 := by rw [hr1]; exact ⟨by simpa using H3.out.1, H3.out.2⟩
      obtain ⟨E0, z0, a, c1, b, c2, d, c3, e, c4, -, -, rfl, rfl, rfl, rfl, rfl, -⟩ := hst.forms h31
      obtain ⟨W6, hW6⟩ : ∃ W, W = wc := ⟨_, rfl⟩
      rw [← hW6] at hst ⊢
      have HS := Lib.hid hst
      have HQ := Lib.hid hq
      obtain ⟨-, -, -, -, -, q5, -⟩ := cz7 hst.rw_.rb
      clear hW6 hst hq h31 hr1 HH
      by_cases hcm : r1.kept.commit < nn
      · have hq := HQ.out
        rw [if_pos hcm] at hq
        have HH := Lib.hid (Prod.mk.inj hq)
        have qz := HS.out.rw_.rb.frozen 5
        clear hq
        go_upto_region 39 with fail
        obtain ⟨W7, hW7⟩ : ∃ W, W = W6.setCell ⟨g, 5, none⟩ (.int .i64 nn) := ⟨_, rfl⟩
        have hst := HS.out.upd (HS.out.rw_.set_commit nn) (Same.set_ HS.out.rw_.rb (Nat.zero_le _) (by decide) 5 _) (HS.out.rw_.rcell 5 (.int .i64 nn)).2
        rw [← hW7] at hst ⊢
        obtain ⟨r0, r1', r2, r3, r4, r5, r6, r7, r8, r9⟩ := cz10 hst.rw_.rb
        have HS7 := Lib.hid hst
        clear hW7 hst q5 qz
        go_wp2_with fail
        refine (ledBy_c { r1 with kept := { r1.kept with commit := nn } } _ _ _ _ _ W7 0 (Nat.zero_le _) HS7.out.rw_.own.is.log).mono ?_; rintro e7 w7 ⟨⟨ov7, css7, rfl, ho⟩, h7⟩
        rw [HH.out.2] at ho
        obtain ⟨Ao, co7, rfl⟩ := ho.form
        have HFIN := Lib.hid (And.intro (OwnMs.base_ ho HS7.out.rw_.base_le) (HS7.out.below h7))
        clear ho h7
        go_wp2
        go_ret
        rw [← HH.out.1]
        first | exact ⟨⟨_, rfl, _, HFIN.out.1⟩, HFIN.out.2.rw_.e, HFIN.out.2.low⟩ | exact ⟨⟨_, _, rfl, HFIN.out.1⟩, HFIN.out.2.rw_.e, HFIN.out.2.low⟩
      · have hq := HQ.out
        rw [if_neg hcm] at hq
        have HH := Lib.hid hq
        have HN := HS
        clear hq
        go_wp2
        go_ret
        obtain ⟨hr1, hr2⟩ := Prod.mk.inj HH.out
        rw [← hr1, ← hr2]
        first | exact ⟨⟨_, rfl, _, OwnMs.nil_⟩, HN.out.rw_.e, HN.out.low⟩ | exact ⟨⟨_, _, rfl, OwnMs.nil_⟩, HN.out.rw_.e, HN.out.low⟩
  · have hAb : (m.view != r.kept.view) = true := by simp [hA]
    have hhe : Scu.hearHas r m = (r, []) := by unfold Scu.hearHas; rw [if_pos (.inl hA)]
    have HH := Lib.hid (hhe.symm.trans HH.out)
    clear hhe hA
    obtain ⟨S, hSd⟩ : ∃ S : World → Prop, S = fun w' => Below W1.heap.size W1 w' := ⟨_, rfl⟩
    have hS0 : S W1.drew := by rw [hSd]; exact (Below.refl _ _).drew
    refine wp_region_held (S := S) (by kernel_rfl) ?_
    change wpAnyH _ _ _ _ _ _ _ _ W1.drew
    refine tkHs [0, 1, 2, 3, 4, 5, 6, 7, 8, 9, 10, 11, 12, 13] (by kernel_rfl) (fun _ _ _ _ _ h => h) hS0 ?_
    iterate 14
      first
      | (refine tkc (v := ?_) rfl (Or.inl ⟨by rfl, ?_⟩) ?_; rotate_left; (intro wv hSw; rw [hSd] at hSw; obtain ⟨q0, q1, q2, q3, q4, q5, q6, q7, q8, q9⟩ := cz10 (HS.out.rw_.rb.same hSw); obtain ⟨p0, p1, p2, p3, p4, p5, p6, p7⟩ := cz8 (HS.out.mb.same hSw); skip; go_simp; done); (try simp only [Act.put, zp1, zp2, zp3]))
      | (refine tkc (v := ?_) rfl (Or.inl ⟨by rfl, ?_⟩) ?_; rotate_left; (intro wv hSw; rw [hSd] at hSw; obtain ⟨q0, q1, q2, q3, q4, q5, q6, q7, q8, q9⟩ := cz10 (HS.out.rw_.rb.same hSw); obtain ⟨p0, p1, p2, p3, p4, p5, p6, p7⟩ := cz8 (HS.out.mb.same hSw); skip; go_simp; with_reducible rfl); (try simp only [Act.put, zp1, zp2, zp3]))
      | (refine tkc (v := undef) rfl (Or.inr ⟨by rfl, rfl⟩) ?_; (try simp only [Act.put, zp1, zp2, zp3]))
    refine tkz ?_
    refine wpAnyH_done (by kernel_rfl) ?_ _
    change Exit.then _ _ _ _ W1.drew
    obtain ⟨W2, hWn⟩ : ∃ W, W = W1.drew := ⟨_, rfl⟩
    have hbn : Below W1.heap.size W1 W2 := by rw [hWn]; exact (Below.refl _ _).drew
    rw [← hWn]
    have hsn := HS.out.below hbn
    clear hWn hS0 hSd
    have HN := Lib.hid hsn
    clear hsn hbn
    go_wp2
    go_ret
    obtain ⟨hr1, hr2⟩ := Prod.mk.inj HH.out
    rw [← hr1, ← hr2]
    first | exact ⟨⟨_, rfl, _, OwnMs.nil_⟩, HN.out.rw_.e, HN.out.low⟩ | exact ⟨⟨_, _, rfl, OwnMs.nil_⟩, HN.out.rw_.e, HN.out.low⟩
end Go.Proofs.Ytlaibljdlpmbfaa
/- Walks: work.give. -/
namespace Go.Proofs.Ytlaibljdlpmbfaa
open Go.RowKit
set_option maxHeartbeats 4000000
set_option maxRecDepth 100000

def Scu.giveOut (r : Scu.Replica) : Scu.Replica × List Scu.Message :=
  if Scu.leader r.kept.view = r.me then Scu.take1 r (Scu.leader r.kept.view) r.kept
  else (r, [⟨4, r.me, Scu.leader r.kept.view, r.kept.view, r.kept.normal, r.kept.commit, 0, r.kept.log⟩])
theorem give_e (w : World) (base gw gr : Nat) (r : Scu.Replica) (ms : List Scu.Message) (hW : WorkE w base gw gr r ms) (hbase : base ≤ w.heap.size) (h3 : Rep3 r) (hv0 : 0 ≤ r.kept.view) (hm : (ms.length + 4) * 80 ≤ R47) :
    Calls Try.prog 31 #[.pointer (some ⟨gw, 0, none⟩)] w fun e w' => e = .returned (.tuple #[]) ∧ WorkE w' base gw gr (Scu.giveOut r).1 (ms ++ (Scu.giveOut r).2) ∧ Below base w w' := by
  obtain ⟨lu, hv, wv, gv, nv, ov, css, hW⟩ := hW
  obtain ⟨A, n, c, rfl⟩ := hW.own.is.log.form
  have H3 := Lib.hid h3
  have HM := Lib.hid hm
  have d0 := hW.wb.cell 0
  have dr0 := hW.rb.cell 0
  have d1 := hW.rb.cell 1
  have d2 := hW.rb.cell 2
  have d3 := hW.rb.cell 3
  have d4 := hW.rb.cell 4
  have d5 := hW.rb.cell 5
  simp only [List.getElem?_toArray, List.getElem?_cons_zero, List.getElem?_cons_succ] at d0 dr0 d1 d2 d3 d4 d5
  have dl := hW.wb.lt
  have dm := hW.rb.lt
  have HW := Lib.hid hW
  obtain ⟨tt, hto⟩ : ∃ tt, tt = r.kept.view % 3 := ⟨_, rfl⟩
  have hto0 : 0 ≤ tt := by omega
  have hto3 : tt < 3 := by omega
  have HTO := Lib.hid hto
  clear hW h3 hm hto
  go_enter Try.func31, Try.ntmps31
  go_upto_region 1 with fail
  obtain ⟨Wd, hWd⟩ : ∃ W, W = w.alloc (Obj.cells #[.int .i64 r.kept.view, .int .i64 r.kept.normal, .bool r.kept.calm, .slice A n c, .int .i64 r.kept.commit] 24) := ⟨_, rfl⟩
  rw [← hWd]
  have hbw : Below w.heap.size w Wd := by rw [hWd]; exact below_alloc _ _
  have hk : Blk Wd w.heap.size 24 #[.int .i64 r.kept.view, .int .i64 r.kept.normal, .bool r.kept.calm, .slice A n c, .int .i64 r.kept.commit] := by rw [hWd]; exact Blk.new _ _ _
  have HWD := Lib.hid (And.intro (HW.out.below hbw) (And.intro hk (hbw.mono hbase)))
  have hsd : base ≤ Wd.heap.size := Nat.le_trans hbase hbw.size
  clear hWd d0 dr0 d1 d2 d3 d4 d5 dl dm hbw hk
  have d0 := HWD.out.1.wb.cell 0
  have dr0 := HWD.out.1.rb.cell 0
  have k0 := HWD.out.2.1.cell 0
  have k1 := HWD.out.2.1.cell 1
  have k2 := HWD.out.2.1.cell 2
  have k3 := HWD.out.2.1.cell 3
  have k4 := HWD.out.2.1.cell 4
  simp only [List.getElem?_toArray, List.getElem?_cons_zero, List.getElem?_cons_succ] at d0 dr0 k0 k1 k2 k3 k4
  have dl := HWD.out.1.wb.lt
  have dm := HWD.out.1.rb.lt
  have dk := HWD.out.2.1.lt
  go_wp2_with fail
  refine (leader_c _ _ hv0).mono ?_; rintro en w' ⟨rfl, rfl⟩
  rw [← HTO.out]
  by_cases hme : tt = r.me
  · have hgo : Scu.giveOut r = Scu.take1 r tt r.kept := by unfold Scu.giveOut Scu.leader; rw [← HTO.out, if_pos hme]
    have hmeb : (tt == r.me) = true := by simpa using hme
    have HGO := Lib.hid hgo
    clear hgo hme
    go_wp2_with fail
    refine (take_t Wd base gw gr r tt r.kept A n c ms HWD.out.1.e hsd H3.out hto0 hto3 HWD.out.1.own.is.log HM.out).mono ?_; rintro en x1 ⟨rfl, hW1, hb1⟩
    have HX := Lib.hid (And.intro hW1 (HWD.out.2.2.trans hb1))
    clear hW1 hb1
    go_wp2
    refine bodyPost_ret (v := .tuple #[]) (by simp [results, Try.results31]) rfl ?_
    rw [HGO.out]
    exact ⟨rfl, HX.out⟩
  · have hgo : Scu.giveOut r = (r, [⟨4, r.me, tt, r.kept.view, r.kept.normal, r.kept.commit, 0, r.kept.log⟩]) := by unfold Scu.giveOut Scu.leader; rw [← HTO.out, if_neg hme]
    have hmeb : (tt == r.me) = false := by simpa using hme
    have HGO := Lib.hid (And.intro hgo hme)
    have NB := Lib.hid (show w.heap.size ≠ gw ∧ ov.ownBlock ≠ some w.heap.size from ⟨by have := HW.out.wb.lt; omega, fun e => by have := (HW.out.out.row.lt _ e).2; omega⟩)
    clear hgo hme
    go_wp2_with fail
    go_region_held3 (fun w' => w'.cell? ⟨w.heap.size, 1, none⟩ = some (.int .i64 r.kept.normal) ∧ w'.cell? ⟨w.heap.size, 3, none⟩ = some (.slice A n c) ∧ w'.cell? ⟨w.heap.size, 4, none⟩ = some (.int .i64 r.kept.commit))
      (first | (go_split_ands; (try dsimp only); (repeat' apply And.intro) <;> (with_reducible assumption)) | (go_split_ands; (try dsimp only); exact ⟨k1, k3, k4⟩))
      (first
        | (go_at_call 25; refine (cloneStrs_c _ r.kept.log _ 0 ?_).mono ?_; exact HWD.out.1.own.is.log.drewN 1; rintro en x1 ⟨⟨v1, rfl, hu⟩, k1'⟩
           refine use (P := Below Wd.heap.size Wd x1) ?_ ?_
           exact (below_drewN (Below.refl _ _) 1).trans k1'
           intro nn1
           have hW1 := HWD.out.1.below nn1
           obtain ⟨Au, cu, rfl, _, _, _, _⟩ := rd_own hu
           have HU := Lib.hid (And.intro (strs_own hu HWD.out.1.own.is.log.len HWD.out.1.own.is.log.each) (And.intro hW1 (And.intro (HWD.out.2.2.trans (nn1.mono hsd)) nn1)))
           have hs1 : base ≤ x1.heap.size := Nat.le_trans hsd nn1.size
           have e1 := (nn1.cell (p := ⟨w.heap.size, 1, none⟩) dk).trans k1
           have e3 := (nn1.cell (p := ⟨w.heap.size, 3, none⟩) dk).trans k3
           have e4 := (nn1.cell (p := ⟨w.heap.size, 4, none⟩) dk).trans k4
           clear nn1 hu k1' hW1)
        | (go_at_call 27; refine (send_2 Au r.kept.log.length cu { Scu.msg0 with kind := 4, normal := r.kept.normal, commit := r.kept.commit, log := r.kept.log } tt x1 base gw gr r (.slice A n c) hv wv gv nv ov ms css HU.out.2.1 hs1 HGO.out.2 HU.out.1 ?_).mono ?_; (exact Nat.le_trans (Nat.mul_le_mul_right 80 (by omega)) HM.out); rintro en x2 ⟨rfl, ⟨ov2, css2, hW2, hk2⟩, hb2, _⟩
           have hbx := (hk2 _ _ _ (HWD.out.2.1.same HU.out.2.2.2) NB.out.1 NB.out.2).1
           have HX := Lib.hid (And.intro hW2.e (HU.out.2.2.1.trans hb2))
           have f1 := hbx.cell 1
           have f3 := hbx.cell 3
           have f4 := hbx.cell 4
           simp only [List.getElem?_toArray, List.getElem?_cons_zero, List.getElem?_cons_succ] at f1 f3 f4
           clear hW2 hb2 hk2 hbx))
    all_goals
      rename_i hHeld
      clear hHeld
      go_wp2
      go_end0
      rw [HGO.out.1]
      exact ⟨rfl, HX.out⟩
end Go.Proofs.Ytlaibljdlpmbfaa
