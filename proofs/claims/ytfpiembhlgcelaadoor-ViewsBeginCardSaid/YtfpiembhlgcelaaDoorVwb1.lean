/- Part 1: words and walks under the law 'ViewsBegin'. -/
import Derived.Test.YtfpiembhlgcelaaDoorLed3
set_option linter.unusedVariables false
set_option linter.unusedSimpArgs false
/- Plain: ViewsBegin: a view begins when two want it, with all that one of them has. -/
namespace Scu
def wantMsg (f t : Int) : Message := ⟨3, f, t, 1, 0, 0, 0, []⟩
def giveMsg (log : List Str) : Message := ⟨4, 2, 1, 1, 0, 0, 0, log⟩
def vbA (L : List Str) : Replica := ⟨1, ⟨0, 0, true, L, 0⟩, [0, 0, 0], [false, false, false], [kept0, kept0, kept0], [false, false, false]⟩
def vbB (L : List Str) : Replica := ⟨2, ⟨0, 0, true, L, 0⟩, [0, 0, 0], [false, false, false], [kept0, kept0, kept0], [false, false, false]⟩
def vbB1 (L : List Str) : Replica := ⟨2, ⟨1, 0, false, L, 0⟩, [0, 0, 0], [false, false, true], [kept0, kept0, kept0], [false, false, false]⟩
def vbB2 (L : List Str) : Replica := ⟨2, ⟨1, 0, false, L, 0⟩, [0, 0, 0], [false, true, true], [kept0, kept0, kept0], [false, false, false]⟩
def vbA2 (L : List Str) : Replica := ⟨1, ⟨1, 0, false, L, 0⟩, [0, 0, 0], [false, true, true], [kept0, ⟨1, 0, false, L, 0⟩, kept0], [false, true, false]⟩
def vbC (L : List Str) : Replica := ⟨1, ⟨1, 1, true, L, 0⟩, [0, 0, 0], [false, false, false], [kept0, kept0, kept0], [false, false, false]⟩
section
variable {L : List Str}
theorem vb_kept (h : AllIn L) (hl : L.length ≤ 60) (v n : Int) (hv : 0 ≤ v) (hv2 : v ≤ 1048576) (hn : 0 ≤ n) (hnv : n ≤ v) (b : Bool) (hb : b = true → n = v) : keptFault ⟨v, n, b, L, 0⟩ = 0 :=
  keptFault_mk hv hv2 hn hnv hb hl (Int.le_refl _) (by show (0 : Int) ≤ (L.length : Int); omega) h
theorem vb_rep {me : Int} (hm : me = 1 ∨ me = 2) {k : Kept} (hk : keptFault k = 0) {ws gn : List Bool} {gs : List Kept} (h1 : ws.length = 3) (h2 : gs.length = 3) (h3 : gn.length = 3) (hg : ∀ g ∈ gs, keptFault g = 0) : repFault ⟨me, k, [0, 0, 0], ws, gs, gn⟩ = 0 :=
  repFault_mk (by show InR me; unfold InR; omega) rfl h1 h2 h3 (fun x hx => by
    have : x = 0 := by simpa using hx
    subst this
    exact ⟨Int.le_refl _, by show (0 : Int) ≤ (k.log.length : Int); omega⟩) hg hk
theorem vb_gs3 : ∀ g ∈ [kept0, kept0, kept0], keptFault g = 0 := by
  intro g hg
  have : g = kept0 := by simpa using hg
  rw [this]
  exact keptFault0
theorem vb_new {me : Int} (hm : me = 1 ∨ me = 2) (h : AllIn L) (hl : L.length ≤ 60) : repNew me ⟨0, 0, true, L, 0⟩ = (⟨me, ⟨0, 0, true, L, 0⟩, [0, 0, 0], [false, false, false], [kept0, kept0, kept0], [false, false, false]⟩, 0) := by
  unfold repNew
  rw [if_neg (by omega), if_neg (fun hh => hh (vb_kept h hl 0 0 (by omega) (by omega) (by omega) (by omega) true (fun _ => rfl)))]
theorem vb_alarm (h : AllIn L) (hl : L.length ≤ 60) : alarm (vbB L) = (vbB1 L, [wantMsg 2 0, wantMsg 2 1], 0) := by
  have hf : repFault (vbB L) = 0 := vb_rep (.inr rfl) (vb_kept h hl 0 0 (by omega) (by omega) (by omega) (by omega) true (fun _ => rfl)) rfl rfl rfl vb_gs3
  unfold alarm
  rw [if_neg (fun hh => hh hf), if_neg (show ¬ (vbB L).kept.view = 1048576 from by show ¬ (0 : Int) = 1048576; omega)]
  rfl
theorem vb_wantFault {f t : Int} (hf : f = 1 ∨ f = 2) (ht : t = 1 ∨ t = 2) (hne : f ≠ t) : msgFault (wantMsg f t) = 0 := by
  unfold msgFault wantMsg
  simp only
  rw [if_neg (by omega), if_neg (by omega), if_neg (by simp), if_neg (by simp)]
  exact vb_kept (fun e he => by cases he) (by simp) 1 0 (by omega) (by omega) (by omega) (by omega) false (fun hc => by cases hc)
theorem vb_hearA (h : AllIn L) (hl : L.length ≤ 60) : hear (vbA L) (wantMsg 2 1) = (vbA2 L, [wantMsg 1 0, wantMsg 1 2], 0) := by
  have hf : repFault (vbA L) = 0 := vb_rep (.inl rfl) (vb_kept h hl 0 0 (by omega) (by omega) (by omega) (by omega) true (fun _ => rfl)) rfl rfl rfl vb_gs3
  unfold hear
  rw [if_neg (fun hh => hh hf), if_neg (fun hh => hh (vb_wantFault (.inr rfl) (.inl rfl) (by omega))), if_neg (show ¬ (wantMsg 2 1).to ≠ (vbA L).me from fun hh => hh rfl), if_neg (show ¬ (wantMsg 2 1).view < (vbA L).kept.view from by show ¬ (1 : Int) < 0; omega)]
  rfl
theorem vb_hearB (h : AllIn L) (hl : L.length ≤ 60) : hear (vbB1 L) (wantMsg 1 2) = (vbB2 L, [giveMsg L], 0) := by
  have hf : repFault (vbB1 L) = 0 := vb_rep (.inr rfl) (vb_kept h hl 1 0 (by omega) (by omega) (by omega) (by omega) false (fun hc => by cases hc)) rfl rfl rfl vb_gs3
  unfold hear
  rw [if_neg (fun hh => hh hf), if_neg (fun hh => hh (vb_wantFault (.inl rfl) (.inr rfl) (by omega))), if_neg (show ¬ (wantMsg 1 2).to ≠ (vbB1 L).me from fun hh => hh rfl), if_neg (show ¬ (wantMsg 1 2).view < (vbB1 L).kept.view from by show ¬ (1 : Int) < 1; omega)]
  rfl
theorem vb_best {log : List Str} {k : Nat} (hk : k ≤ log.length) : (bestOf ([kept0, ⟨1, 0, false, log.take k, 0⟩, ⟨1, 0, false, log, 0⟩].zip [false, true, true])).log = log := by
  unfold bestOf better
  simp only [List.zip_cons_cons, List.zip_nil_left, List.foldl_cons, List.foldl_nil]
  by_cases h : k = log.length
  · subst h
    simp [kept0]
  · have hlt : k < log.length := by omega
    simp [kept0, hlt, Nat.min_eq_left hk]
theorem vb_hearG {log : List Str} (h : AllIn log) (hl : log.length ≤ 60) {k : Nat} (hk : k ≤ log.length) : ∃ ld, hear (vbA2 (log.take k)) (giveMsg log) = (vbC log, ld, 0) ∧ ld.length = 2 := by
  have hin : AllIn (log.take k) := fun e he => h e (List.mem_of_mem_take he)
  have hlk : (log.take k).length ≤ 60 := by rw [List.length_take]; omega
  have hk1 := vb_kept hin hlk 1 0 (by omega) (by omega) (by omega) (by omega) false (fun hc => by cases hc)
  have hf : repFault (vbA2 (log.take k)) = 0 := vb_rep (.inl rfl) hk1 rfl rfl rfl (fun g hg => by
    simp only [List.mem_cons, List.not_mem_nil, or_false] at hg
    rcases hg with rfl | rfl | rfl
    · exact keptFault0
    · exact hk1
    · exact keptFault0)
  have hmf : msgFault (giveMsg log) = 0 := by
    unfold msgFault giveMsg
    simp only
    rw [if_neg (by omega), if_neg (by omega), if_neg (by simp), if_neg (by unfold leader; simp)]
    exact vb_kept h hl 1 0 (by omega) (by omega) (by omega) (by omega) false (fun hc => by cases hc)
  have hb := vb_best hk
  have e : hearIt (vbA2 (log.take k)) (giveMsg log) = (vbC log, leadOn (vbC log)) := by
    show hearGive (vbA2 (log.take k)) (giveMsg log) = _
    have e1 : hearGive (vbA2 (log.take k)) (giveMsg log) = begun (give1 (vbA2 (log.take k)) 2 ⟨1, 0, false, log, 0⟩) := by
      unfold hearGive take1
      simp only [wantIf, giveMsg, vbA2]
      rfl
    rw [e1]
    have e2 : begun (give1 (vbA2 (log.take k)) 2 ⟨1, 0, false, log, 0⟩) =
        (let b := bestOf ([kept0, ⟨1, 0, false, log.take k, 0⟩, ⟨1, 0, false, log, 0⟩].zip [false, true, true])
         (fresh { vbA2 (log.take k) with kept := ⟨1, 1, true, b.log, min 0 b.log.length⟩ }, leadOn (fresh { vbA2 (log.take k) with kept := ⟨1, 1, true, b.log, min 0 b.log.length⟩ }))) := by
      unfold begun
      rfl
    rw [e2]
    simp only [hb]
    have e3 : min (0 : Int) (log.length : Int) = 0 := by omega
    rw [e3]
    rfl
  refine ⟨leadOn (vbC log), ?_, rfl⟩
  unfold hear
  rw [if_neg (fun hh => hh hf), if_neg (fun hh => hh hmf), if_neg (show ¬ (giveMsg log).to ≠ (vbA2 (log.take k)).me from fun hh => hh rfl), if_neg (show ¬ (giveMsg log).view < (vbA2 (log.take k)).kept.view from by show ¬ (1 : Int) < 1; omega), e]
theorem vb_leads (log : List Str) : leads (vbC log) = true := rfl
end
end Scu
