/- Logs as plain Lean: what is so of a right history. No condition. -/
import Derived.Test.YtdbcimadjmdffaaLogM
set_option linter.unusedVariables false
set_option linter.unusedSimpArgs false
set_option linter.unusedSectionVars false
namespace Go.Proofs.Ytdbcimadjmdffaa
theorem Right.parts {r : R} {h : List R} (hr : Right (r :: h)) : Right h ∧ recErr (h.length + 1) r = 0 ∧ follows h r = true := by
  unfold Right errH at *
  by_cases h1 : errH h = 0
  · rw [if_pos h1] at hr
    by_cases h2 : recErr (h.length + 1) r = 0
    · rw [if_pos h2] at hr
      refine ⟨?_, h2, ?_⟩
      · cases h with
        | nil => rfl
        | cons a b => simpa [errH] using h1
      · cases hf : follows h r
        · rw [hf] at hr; simp at hr
        · rfl
    · rw [if_neg h2] at hr; exact absurd hr h2
  · rw [if_neg h1] at hr; exact absurd hr h1
theorem Right.mk {r : R} {h : List R} (h1 : Right h) (h2 : recErr (h.length + 1) r = 0) (h3 : follows h r = true) : Right (r :: h) := by
  unfold Right at *
  rw [errH, if_pos h1, if_pos h2, if_pos h3]
theorem Right.nil : Right [] := rfl
/-- A record's numbers are in their bounds. -/
theorem rec_bounds {n : Int} {r : R} (h : recErr n r = 0) : 1 ≤ n ∧ n ≤ 60 ∧ 1 ≤ r.kind ∧ r.kind ≤ 4 ∧ 1 ≤ r.txn ∧ r.txn ≤ 9 ∧ 0 ≤ r.prev ∧ r.prev ≤ n - 1 ∧
    (r.turns = true → (0 ≤ r.page ∧ r.page ≤ 2) ∧ (0 ≤ r.cell ∧ r.cell ≤ 2) ∧ (0 ≤ r.old ∧ r.old ≤ 99) ∧ (0 ≤ r.new ∧ r.new ≤ 99)) ∧ (r.kind = 3 → 0 ≤ r.next ∧ r.next ≤ n - 1) ∧
    (r.turns = false → r.page = 0 ∧ r.cell = 0 ∧ r.old = 0 ∧ r.new = 0) ∧ (r.kind ≠ 3 → r.next = 0) := by
  unfold recErr at h
  split at h
  rotate_left
  · simp at h
  split at h
  rotate_left
  · simp at h
  split at h
  rotate_left
  · simp at h
  split at h
  rotate_left
  · simp at h
  split at h
  rotate_left
  · simp at h
  split at h
  rotate_left
  · simp at h
  rename_i h1 h2 h3 h4 h5 h6
  simp only [Bool.and_eq_true, Bool.or_eq_true, wi_iff, R.inner, R.bare, bne_iff_ne, beq_iff_eq, Bool.not_eq_true'] at h1 h2 h3 h4 h5 h6
  refine ⟨by omega, by omega, by omega, by omega, by omega, by omega, by omega, by omega, fun ht => ?_, fun hk => ?_, fun ht => ?_, fun hk => ?_⟩
  · simp [ht] at h4; exact ⟨h4.1, h4.2.1, h4.2.2.1, h4.2.2.2⟩
  · simp [hk] at h5; exact h5
  · simp [ht] at h6; exact h6.1
  · simp [hk] at h6; exact h6.2
/-- Each record that turns a page is in range. -/
def InR (h : List R) : Prop := ∀ r ∈ h, r.turns = true → (0 ≤ r.page ∧ r.page ≤ 2) ∧ (0 ≤ r.cell ∧ r.cell ≤ 2)
def Fit (h : List R) : Prop := ∀ t, cnt h t 3 ≤ (wrs h t).length
theorem Right.inR : ∀ {h : List R}, Right h → InR h
  | [], _ => fun _ h => by cases h
  | r :: h, hr => by
    obtain ⟨h1, h2, _⟩ := hr.parts
    intro x hx ht
    rcases List.mem_cons.1 hx with rfl | hx
    · have := (rec_bounds h2).2.2.2.2.2.2.2.2.1 ht
      exact ⟨this.1, this.2.1⟩
    · exact h1.inR x hx ht
theorem follows_back {h : List R} {r : R} (hf : follows h r = true) (hk : r.kind = 3) : ∃ n l, ups h r.txn = n :: l ∧ r.page = (recAt h n).page ∧ r.cell = (recAt h n).cell ∧ r.old = (recAt h n).new ∧ r.new = (recAt h n).old ∧ r.next = (recAt h n).prev := by
  unfold follows at hf
  split at hf
  · cases hf
  · rw [if_neg (by omega), if_neg (by omega)] at hf
    try rw [if_pos hk] at hf
    cases hu : ups h r.txn with
    | nil => rw [hu] at hf; simp at hf
    | cons n l =>
      rw [hu] at hf
      simp at hf
      exact ⟨n, l, rfl, hf.1, hf.2.1, hf.2.2.1, hf.2.2.2.1, hf.2.2.2.2⟩
theorem Right.fit : ∀ {h : List R}, Right h → Fit h
  | [], _ => fun t => by simp [cnt]
  | r :: h, hr => by
    obtain ⟨h1, h2, h3⟩ := hr.parts
    intro t
    have ih := h1.fit t
    simp only [cnt, wrs]
    by_cases hb : r.txn = t ∧ r.kind = 3
    · obtain ⟨rfl, hk⟩ := hb
      obtain ⟨n, l, hu, _⟩ := follows_back h3 hk
      have hlt : cnt h r.txn 3 < (wrs h r.txn).length := by
        unfold ups at hu
        have := congrArg List.length hu
        simp at this
        omega
      simp [hk]
      omega
    · rw [if_neg hb]
      split <;> simp <;> omega
theorem wrs_le : ∀ {h : List R} {t : Int} {n : Nat}, n ∈ wrs h t → 1 ≤ n ∧ n ≤ h.length
  | [], _, _, hn => by cases hn
  | r :: h, t, n, hn => by
    unfold wrs at hn
    split at hn
    · rcases List.mem_cons.1 hn with rfl | hn
      · simp
      · have := wrs_le hn
        simp; omega
    · have := wrs_le hn
      simp; omega
theorem ups_le {h : List R} {t : Int} {n : Nat} (hn : n ∈ ups h t) : 1 ≤ n ∧ n ≤ h.length := wrs_le (List.mem_of_mem_drop hn)
theorem wrs_len : ∀ (h : List R) (t : Int), (wrs h t).length ≤ h.length
  | [], _ => by simp [wrs]
  | r :: h, t => by
    have := wrs_len h t
    unfold wrs
    split <;> simp <;> omega
/-- What is cut off a right history leaves a right one. -/
theorem Right.drop : ∀ {h : List R} (k : Nat), Right h → Right (h.drop k)
  | [], k, _ => by simp; rfl
  | r :: h, 0, hr => hr
  | r :: h, k + 1, hr => by simpa using Right.drop k hr.parts.1
end Go.Proofs.Ytdbcimadjmdffaa
