/- Acts as plain Lean: what comes of them is right, and what was safe stays; who has committed has won; who has not is gone. No condition. -/
import Derived.Test.YtdbcimadjmdffaaMn
set_option linter.unusedVariables false
set_option linter.unusedSimpArgs false
set_option linter.unusedSectionVars false
namespace Go.Proofs.Ytdbcimadjmdffaa
/-- What was safe stays, ahead of all. -/
def Grows (x y : Wd) : Prop := worldErr x = 0 ∧ worldErr y = 0 ∧ x.safe ≤ y.safe ∧ y.log.take x.safe.toNat = x.log.take x.safe.toNat
theorem safe_app {x : Wd} (h : worldErr x = 0) (g : List R) : (x.log ++ g).take x.safe.toNat = x.log.take x.safe.toNat := by
  obtain ⟨_, _, _, hs, _⟩ := world_right h
  rw [List.take_append_of_le_length (by omega)]
theorem mend_grows {x : Wd} {s : Int} {a b c : Bool} (h : (mendOf x s a b c).2.2 = 0) : Grows x (mendOf x s a b c).1 := by
  obtain ⟨h0, k, g, e, l, _, f⟩ := mend_ok h
  obtain ⟨hR, h60, hsf⟩ := cut_h_right h0
  obtain ⟨_, hl, _, _, g', eg⟩ := mendN_right e hR l
  rw [f]
  refine ⟨h0, mended_right h0 e l, ?_, ?_⟩
  · show x.safe ≤ (g.length : Int)
    rw [hl]; omega
  · show (g.reverse).take x.safe.toNat = _
    have e1 : g.reverse = x.cut.log ++ g'.reverse := by rw [eg, List.reverse_append, hrev]
    have hcl := cut_len h0
    rw [e1, List.take_append_of_le_length (by omega), List.take_of_length_le (by omega)]
    rfl
theorem do_grows {x : Wd} {a : Ac} (h : (doOf x a).2 = 0) : Grows x (doOf x a).1 := by
  have e : doOf x a = doOf x a := rfl
  rw [doOf] at h
  conv at e => rhs; rw [doOf]
  rw [e]
  clear e
  split at h
  · rename_i k1
    rw [if_pos k1]
    obtain ⟨h0, _, _, _, _, e, _, hw⟩ := write_ok h
    rw [e]
    exact ⟨h0, hw, Int.le_refl _, safe_app h0 _⟩
  rename_i k1
  rw [if_neg k1]
  split at h
  · rename_i k2
    rw [if_pos k2]
    obtain ⟨h0, _, _, _, e, _, _, hw⟩ := commit_ok h
    rw [e]
    have := (world_right h0).2.2.2.1
    exact ⟨h0, hw, by show x.safe ≤ (x.log.length : Int) + 1; omega, safe_app h0 _⟩
  rename_i k2
  rw [if_neg k2]
  split at h
  · rename_i k3
    rw [if_pos k3]
    obtain ⟨h0, _, _, g, e, _, _, _, _, hw⟩ := abort_ok h
    rw [e]
    refine ⟨h0, hw, Int.le_refl _, ?_⟩
    show ((g ++ x.h).reverse).take _ = _
    rw [List.reverse_append, hrev]
    exact safe_app h0 _
  rename_i k3
  rw [if_neg k3]
  split at h
  · rename_i k4
    rw [if_pos k4]
    obtain ⟨h0, _, e, hw⟩ := sync_ok h
    rw [e]
    exact ⟨h0, hw, Int.le_max_left _ _, rfl⟩
  rename_i k4
  rw [if_neg k4]
  split at h
  · rename_i k5
    rw [if_pos k5]
    have h0 : worldErr x = 0 := by
      by_cases h0 : worldErr x = 0
      · exact h0
      · unfold flushOf at h; rw [if_neg h0] at h; exact absurd h h0
    have hp : 0 ≤ a.page ∧ a.page ≤ 2 := by
      by_cases hp : wi a.page 0 2 = true
      · exact wi_iff.1 hp
      · unfold flushOf at h; rw [if_pos h0, if_neg hp] at h; simp at h
    rw [flush_ok h0 hp]
    exact ⟨h0, world_lay h0 hp, Int.le_max_left _ _, rfl⟩
  rename_i k5
  rw [if_neg k5]
  split at h
  · rename_i k6
    rw [if_pos k6]
    exact mend_grows h
  · simp at h
/-! ### Who has committed -/
theorem won_app (t : Int) : ∀ (g h : List R), won h t = true → won (g ++ h) t = true
  | [], h, hw => hw
  | r :: g, h, hw => by
    rw [List.cons_append, won_cons, won_app t g h hw]
    simp
theorem cut_ext {x y : Wd} (h : Grows x y) : ∃ g, y.cut.h = g ++ x.cut.h := by
  obtain ⟨h0, h1, h2, h3⟩ := h
  have hs := (world_right h0).2.2.2.1
  refine ⟨(y.cut.log.drop x.safe.toNat).reverse, ?_⟩
  have e : y.cut.log.take x.safe.toNat = x.cut.log := by
    show (y.log.take y.safe.toNat).take x.safe.toNat = x.log.take x.safe.toNat
    rw [List.take_take, Nat.min_eq_left (by omega)]
    exact h3
  unfold Wd.h
  rw [← List.reverse_append, ← e, List.take_append_drop]
theorem kept {x y : Wd} {t : Int} (h : Grows x y) (hw : won x.cut.h t = true) : won y.cut.h t = true := by
  obtain ⟨g, e⟩ := cut_ext h
  rw [e]
  exact won_app t g _ hw
theorem com_won {x : Wd} {t : Int} (h : worldErr x = 0) : won (x.com t).cut.h t = true := by
  have e : (x.com t).cut.h = cmR t (lastN x.h t) :: x.h := by
    unfold Wd.cut Wd.com Wd.h
    dsimp only
    rw [show ((x.log.length : Int) + 1).toNat = x.log.length + 1 by omega, List.take_append, List.take_of_length_le (show x.log.length ≤ x.log.length + 1 by omega)]
    simp [Wd.h]
  rw [e, won_cons]
  simp [cmR]
theorem mend_won {x : Wd} {t : Int} (h : (mendOf x (-1) true true true).2.2 = 0) (hw : won x.cut.h t = true) : won (mendOf x (-1) true true true).1.h t = true := by
  obtain ⟨_, g, _, _, _, _, e, _, _, hwn, _⟩ := mend_true h
  rw [e]
  have : (⟨pagesOf g, g.reverse, g.length⟩ : Wd).h = g := by simp [Wd.h]
  rw [this, ← wins_mem, hwn, wins_mem]
  exact hw
theorem mend_err {x : Wd} (h : worldErr x = 0) (s : Int) (a b c : Bool) : (mendOf x s a b c).2.2 = 0 ∨ (mendOf x s a b c).2.2 = 2 := by
  unfold mendOf
  rw [if_pos h]
  cases mendGo (61 - x.cut.log.length) s 0 x.cut.h with
  | none => exact .inr rfl
  | some p => exact .inl rfl
theorem won_stt {h : List R} {t : Int} (hw : won h t = true) : stt h t = 2 ∨ stt h t = 4 := by
  have h2 : 0 < cnt h t 2 := by simpa [won] using hw
  have hl : lastN h t ≠ 0 := fun e => by rw [cnt_last e 2] at h2; omega
  unfold stt
  rw [if_neg hl]
  split
  · exact .inr rfl
  · simp
/-- Who has won in what is safe has its Commit in all of the log. -/
theorem cut_won {x : Wd} {t : Int} (hw : won x.cut.h t = true) : won x.h t = true := by
  have e : x.h = (x.log.drop x.safe.toNat).reverse ++ x.cut.h := by
    unfold Wd.h Wd.cut
    rw [← List.reverse_append, List.take_append_drop]
  rw [e]
  exact won_app t _ _ hw
theorem lost_state {h : List R} (hn : nextH h = none) {t : Int} (ht : 1 ≤ t ∧ t ≤ 9) : stt h t = 0 ∨ stt h t = 4 := by
  obtain ⟨h1, h2⟩ := (next_none hn).1 t ht
  have := stt_le4 h t
  unfold hangs at h1
  omega
end Go.Proofs.Ytdbcimadjmdffaa
