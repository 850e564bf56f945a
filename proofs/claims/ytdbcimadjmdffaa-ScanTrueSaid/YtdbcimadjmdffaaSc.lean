/- Worlds behind a crash, as plain Lean: what is cut is right; Redo tells what the log tells. No condition. -/
import Derived.Test.YtdbcimadjmdffaaWl
set_option linter.unusedVariables false
set_option linter.unusedSimpArgs false
set_option linter.unusedSectionVars false
namespace Go.Proofs.Ytdbcimadjmdffaa
theorem cut_len {x : Wd} (h : worldErr x = 0) : (x.cut.log.length : Int) = x.safe := by
  obtain ⟨_, _, _, hs, _⟩ := world_right h
  show ((x.log.take x.safe.toNat).length : Int) = x.safe
  rw [List.length_take]
  omega
theorem cut_right {x : Wd} (h : worldErr x = 0) : worldErr x.cut = 0 := by
  obtain ⟨h0, h60, hR, hs, _⟩ := world_right h
  have hl := cut_len h
  refine world_mk (take_right h0 _) ⟨hs.1, ?_⟩ fun p hp => ?_
  · rw [hl]; exact Int.le_refl _
  · obtain ⟨d1, d2⟩ := diskOk_iff.1 (disk_ok h hp)
    refine diskOk_iff.2 ⟨d1, ?_⟩
    show (pagesOf ((x.log.take x.safe.toNat).take (x.disk.get p).last.toNat).reverse).get p = x.disk.get p
    rw [List.take_take, Nat.min_eq_left (by omega)]
    exact d2
theorem p3_eqOf {p q : P3} (h : ∀ i, 0 ≤ i ∧ i ≤ 2 → p.get i = q.get i) : p = q := by
  have h0 := h 0 (by omega)
  have h1 := h 1 (by omega)
  have h2 := h 2 (by omega)
  cases p; cases q
  simp only [P3.get] at h0 h1 h2
  simp at h0 h1 h2
  simp [h0, h1, h2]
/-- What the log tells of a page, from where the disk has it on. -/
theorem redo_page {x : Wd} (hw : worldErr x = 0) {p : Int} (hp : 0 ≤ p ∧ p ≤ 2) : ∀ k, k ≤ x.log.length →
    (redoH x.disk (x.log.take k).reverse).1.get p = if (k : Int) ≤ (x.disk.get p).last then x.disk.get p else (pagesOf (x.log.take k).reverse).get p
  | 0, _ => by
    obtain ⟨d1, _⟩ := diskOk_iff.1 (disk_ok hw hp)
    rw [if_pos (by exact_mod_cast d1.1)]
    rfl
  | k + 1, hk => by
    have ih := redo_page hw hp k (by omega)
    obtain ⟨h0, h60, hR, hs, _⟩ := world_right hw
    obtain ⟨d1, d2⟩ := diskOk_iff.1 (disk_ok hw hp)
    obtain ⟨r, hr⟩ := get_of_lt (l := x.log) (k := k) (by omega)
    have hRk : Right (x.log.take (k + 1)).reverse := (log_right (take_right h0 (k + 1))).2
    have hlk : (x.log.take k).reverse.length = k := by simp; omega
    rw [takeS hr] at hRk ⊢
    obtain ⟨hR1, hrc, _⟩ := hRk.parts
    have hb := rec_bounds hrc
    have hpl := page_last hR1 p
    rw [hlk] at hpl
    -- what is known so far, where the disk has no more than that
    have low : ¬ ((k + 1 : Nat) : Int) ≤ (x.disk.get p).last → (redoH x.disk (x.log.take k).reverse).1.get p = (pagesOf (x.log.take k).reverse).get p := fun hn => by
      rw [ih]
      split
      · rename_i h2
        have e : (x.disk.get p).last.toNat = k := by omega
        rw [e] at d2
        exact d2.symm
      · rfl
    unfold redoH
    cases ht : r.turns
    · rw [if_neg (by simp), pages_stay ht]
      by_cases hc : ((k + 1 : Nat) : Int) ≤ (x.disk.get p).last
      · rw [if_pos hc, ih, if_pos (by omega)]
      · rw [if_neg hc, low hc]
    · obtain ⟨b1, b2, _⟩ := hb.2.2.2.2.2.2.2.2.1 ht
      rw [pages_turn ht, get_set _ b1 _ hp, hlk]
      by_cases hpp : p = r.page
      · subst hpp
        rw [if_pos rfl]
        by_cases hc : ((k + 1 : Nat) : Int) ≤ (x.disk.get r.page).last
        · have e : (redoH x.disk (x.log.take k).reverse).1.get r.page = x.disk.get r.page := by rw [ih, if_pos (by omega)]
          rw [if_neg (by rw [e]; omega), if_pos hc, e]
        · have e := low hc
          rw [if_pos ⟨rfl, by rw [e]; omega⟩, if_neg hc]
          dsimp only
          rw [get_set _ b1 _ b1, if_pos rfl, e]
          congr 1
      · rw [if_neg hpp]
        have e2 : ∀ c : Prop, [Decidable c] → (if c then ((redoH x.disk (x.log.take k).reverse).1.set r.page (((redoH x.disk (x.log.take k).reverse).1.get r.page).put r.cell r.new ((k : Int) + 1)), (redoH x.disk (x.log.take k).reverse).2 + 1) else redoH x.disk (x.log.take k).reverse).1.get p = (redoH x.disk (x.log.take k).reverse).1.get p := fun c _ => by
          split
          · rw [get_set _ b1 _ hp, if_neg hpp]
          · rfl
        rw [e2]
        by_cases hc : ((k + 1 : Nat) : Int) ≤ (x.disk.get p).last
        · rw [if_pos hc, ih, if_pos (by omega)]
        · rw [if_neg hc, low hc]
theorem redo_true {x : Wd} (hw : worldErr x = 0) (hs : x.safe = (x.log.length : Int)) : (redoH x.disk x.h).1 = pagesOf x.h := p3_eqOf fun p hp => by
  obtain ⟨d1, d2⟩ := diskOk_iff.1 (disk_ok hw hp)
  have h := redo_page hw hp x.log.length (Nat.le_refl _)
  rw [List.take_of_length_le (Nat.le_refl _)] at h
  show (redoH x.disk x.log.reverse).1.get p = (pagesOf x.log.reverse).get p
  rw [h]
  split
  · rename_i h2
    have e : (x.disk.get p).last.toNat = x.log.length := by omega
    rw [e, List.take_of_length_le (Nat.le_refl _)] at d2
    exact d2.symm
  · rfl
theorem last_ge : ∀ {g h : List R} {r : R}, Right (g ++ r :: h) → r.turns = true → ((h.length + 1 : Nat) : Int) ≤ ((pagesOf (g ++ r :: h)).get r.page).last
  | [], h, r, hr, ht => by
    obtain ⟨h1, h2, _⟩ := hr.parts
    obtain ⟨b1, b2, _⟩ := (rec_bounds h2).2.2.2.2.2.2.2.2.1 ht
    simp only [List.nil_append]
    rw [pages_turn ht, get_set _ b1 _ b1, if_pos rfl]
    unfold Pg.put
    repeat' split
    all_goals exact Int.le_refl _
  | s :: g, h, r, hr, ht => by
    obtain ⟨h1, h2, _⟩ := hr.parts
    have ih := last_ge h1 ht
    have hin := hr.inR r (by simp) ht
    simp only [List.cons_append]
    cases hs : s.turns
    · rw [pages_stay hs]; exact ih
    · obtain ⟨b1, b2, _⟩ := (rec_bounds h2).2.2.2.2.2.2.2.2.1 hs
      rw [pages_turn hs, get_set _ b1 _ hin.1]
      split
      · have : ((h.length + 1 : Nat) : Int) ≤ ((g ++ r :: h).length + 1 : Nat) := by simp; omega
        unfold Pg.put
        repeat' split
        all_goals exact this
      · exact ih
theorem redo_done : ∀ (h g : List R), Right (g ++ h) → redoH (pagesOf (g ++ h)) h = (pagesOf (g ++ h), 0)
  | [], _, _ => rfl
  | r :: h, g, hr => by
    have e : g ++ r :: h = (g ++ [r]) ++ h := by simp
    have ih := redo_done h (g ++ [r]) (by rw [← e]; exact hr)
    rw [← e] at ih
    unfold redoH
    rw [ih, if_neg]
    rintro ⟨ht, hl⟩
    have := last_ge hr ht
    dsimp only at hl
    omega
/-- A world whose disk tells all. -/
def Wd.laid (x : Wd) : Wd := { x with disk := pagesOf x.h }
theorem laid_right {x : Wd} (hw : worldErr x = 0) (hs : x.safe = (x.log.length : Int)) : worldErr x.laid = 0 := by
  obtain ⟨h0, h60, hR, hsf, _⟩ := world_right hw
  refine world_mk h0 hsf fun p hp => ?_
  have hl := page_last hR p
  rw [hlen] at hl
  refine diskOk_iff.2 ⟨⟨hl.1, by show _ ≤ x.safe; rw [hs]; exact hl.2⟩, ?_⟩
  have := page_then hR hp
  rw [hlen] at this
  show (pagesOf (x.log.take _).reverse).get p = _
  rw [take_rev]
  exact this
theorem redo_laid {x : Wd} (hw : worldErr x = 0) (hs : x.safe = (x.log.length : Int)) : redoOf x.laid = (pagesOf x.h, 0, 0) := by
  have hR := (world_right hw).2.2.1
  have h1 := redo_done x.h [] hR
  simp only [List.nil_append] at h1
  unfold redoOf
  rw [if_pos (laid_right hw hs), if_pos (show x.laid.safe = (x.laid.log.length : Int) from hs)]
  show ((redoH (pagesOf x.h) x.h).1, (((redoH (pagesOf x.h) x.h).2 : Nat) : Int), (0 : Int)) = _
  rw [h1]
  rfl
theorem redo_cut {x : Wd} (hw : worldErr x = 0) : redoOf x.cut = (pagesOf x.cut.h, (((redoH x.disk x.cut.h).2 : Nat) : Int), 0) := by
  have h1 := cut_right hw
  have h2 : x.cut.safe = (x.cut.log.length : Int) := (cut_len hw).symm
  unfold redoOf
  rw [if_pos h1, if_pos h2, redo_true h1 h2]
  rfl
end Go.Proofs.Ytdbcimadjmdffaa
