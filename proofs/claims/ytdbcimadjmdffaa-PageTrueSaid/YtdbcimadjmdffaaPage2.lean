/- What page.Set, Same and the document's answers for pages return at every input. No condition. -/
import Derived.Test.YtdbcimadjmdffaaPage
import Derived.Test.YtdbcimadjmdffaaEqs
set_option linter.unusedSimpArgs false
namespace Go.Proofs.Ytdbcimadjmdffaa
open Go.RowKit
set_option maxHeartbeats 1000000 in
theorem set_bad (p : Pg) (cell val rec : Int) (w : World) (hp : p.ok = false) :
    Calls Try.prog 42 #[p.val, .int .i64 cell, .int .i64 val, .int .i64 rec] w fun e w' =>
      e = .returned (.tuple #[Pg.zero.val, .int .i64 3]) ∧ Below w.heap.size w w' := by
  have he : p.err = 3 := by simp [Pg.err, hp]
  have HE := Lib.hid he
  clear he hp
  obtain ⟨a, b, c, n⟩ := p
  unfold Pg.val
  go_enter Try.func42, Try.ntmps42
  go_wp2_with fail
  refine (check_any ⟨a, b, c, n⟩ _).mono ?_
  rintro e w1 ⟨rfl, hb⟩
  rw [HE.out]
  obtain ⟨hc, hf⟩ := bcell hb
  go_wp2
  exact bodyPost_ret (v := .tuple #[.agg #[.int .i64 0, .int .i64 0, .int .i64 0, .int .i64 0], .int .i64 3]) (by simp [results, Try.results42, go_sem, hc, hf]) rfl ⟨rfl, by
    repeat refine Below.setCell ?_ (by simp) _
    refine Below.trans ?_ (hb.mono (by simp <;> omega))
    repeat refine Below.alloc ?_ (by simp <;> omega) _
    exact Below.refl _ _⟩

theorem set_no (p : Pg) (cell val rec : Int) (w : World) (hp : p.ok = true) (h : setArgs cell val rec = false) :
    Calls Try.prog 42 #[p.val, .int .i64 cell, .int .i64 val, .int .i64 rec] w fun e w' =>
      e = .returned (.tuple #[Pg.zero.val, .int .i64 3]) ∧ Below w.heap.size w w' := by
  have HE := Lib.hid (show p.err = 0 by simp [Pg.err, hp])
  clear hp
  have h' : cell < 0 ∨ (0 ≤ cell ∧ 3 ≤ cell) ∨ (0 ≤ cell ∧ cell < 3 ∧ wi val 0 99 = false) ∨ (0 ≤ cell ∧ cell < 3 ∧ wi val 0 99 = true ∧ rec < 1) ∨ (0 ≤ cell ∧ cell < 3 ∧ wi val 0 99 = true ∧ 1 ≤ rec ∧ 60 < rec) := by
    cases hv : wi val 0 99
    · simp; omega
    · have : ¬ ((0 ≤ cell ∧ cell ≤ 2) ∧ 1 ≤ rec ∧ rec ≤ 60) := by
        intro ⟨a, b⟩
        rw [← wi_iff] at a b
        simp [setArgs, a, b, hv] at h
      simp; omega
  clear h
  obtain ⟨a, b, c, n⟩ := p
  unfold Pg.val
  have HV : ∀ x, wi val 0 99 = x → Hid (wi val 0 99 = x) := fun _ h => h
  have HV := Lib.hid HV
  rcases h' with h1 | ⟨h0, h1⟩ | ⟨h0, h1, h2⟩ | ⟨h0, h1, h2, h3⟩ | ⟨h0, h1, h2, h3, h4⟩
  all_goals
    try (have H2 := Lib.hid h2; clear h2)
    go_enter Try.func42, Try.ntmps42
    go_wp2_with fail
    refine (check_any ⟨a, b, c, n⟩ _).mono ?_
    rintro e w1 ⟨rfl, hb⟩
    rw [HE.out]
    obtain ⟨hc, hf⟩ := bcell hb
    go_wp2_with (go_at_call 109; refine (val_any _ _).mono ?_; rintro e w' ⟨rfl, rfl⟩; rw [H2.out])
    exact bodyPost_ret (v := .tuple #[.agg #[.int .i64 0, .int .i64 0, .int .i64 0, .int .i64 0], .int .i64 3]) (by simp [results, Try.results42, go_sem, hc, hf]) rfl ⟨rfl, by
      repeat refine Below.setCell ?_ (by simp) _
      refine Below.trans ?_ (hb.mono (by simp <;> omega))
      repeat refine Below.alloc ?_ (by simp <;> omega) _
      exact Below.refl _ _⟩

theorem set_yes (p : Pg) (cell val rec : Int) (w : World) (hp : p.ok = true) (h : setArgs cell val rec = true) :
    Calls Try.prog 42 #[p.val, .int .i64 cell, .int .i64 val, .int .i64 rec] w fun e w' =>
      e = .returned (.tuple #[(p.put cell val rec).val, .int .i64 0]) ∧ Below w.heap.size w w' := by
  have HE := Lib.hid (show p.err = 0 by simp [Pg.err, hp])
  clear hp
  simp only [setArgs, Bool.and_eq_true] at h
  obtain ⟨h1, h2, h3⟩ := h
  have hc3 : cell = 0 ∨ cell = 1 ∨ cell = 2 := by have := wi_iff.1 h1; omega
  obtain ⟨h3', h4⟩ := wi_iff.1 h3
  have H2 := Lib.hid h2
  clear h2 h1 h3
  obtain ⟨a, b, c, n⟩ := p
  rcases hc3 with rfl | rfl | rfl
  · show Calls Try.prog 42 #[.agg #[.int .i64 a, .int .i64 b, .int .i64 c, .int .i64 n], _, _, _] w fun e w' => e = .returned (.tuple #[.agg #[.int .i64 val, .int .i64 b, .int .i64 c, .int .i64 rec], .int .i64 0]) ∧ Below w.heap.size w w'
    go_enter Try.func42, Try.ntmps42
    go_wp2_with fail
    refine (check_any ⟨a, b, c, n⟩ _).mono ?_
    rintro e w1 ⟨rfl, hb⟩
    rw [HE.out]
    have hc := blk_cell (below_get' hb (alloc_old _ (alloc_new _ _)))
    have hf := blk_free (below_get' hb (alloc_old _ (alloc_new _ _)))
    have hc' := blk_cell (below_get' hb (alloc_new _ _))
    have hf' := blk_free (below_get' hb (alloc_new _ _))
    simp at hc' hf'
    go_wp2_with (go_at_call 109; refine (val_any _ _).mono ?_; rintro e w' ⟨rfl, rfl⟩; rw [H2.out])
    exact bodyPost_ret (v := .tuple #[.agg #[.int .i64 val, .int .i64 b, .int .i64 c, .int .i64 rec], .int .i64 0]) (by simp [results, Try.results42, go_sem, hc, hf, hc', hf']) rfl ⟨rfl, by
      repeat refine Below.setCell ?_ (by simp) _
      refine Below.trans ?_ (hb.mono (by simp <;> omega))
      repeat refine Below.alloc ?_ (by simp <;> omega) _
      exact Below.refl _ _⟩
  · show Calls Try.prog 42 #[.agg #[.int .i64 a, .int .i64 b, .int .i64 c, .int .i64 n], _, _, _] w fun e w' => e = .returned (.tuple #[.agg #[.int .i64 a, .int .i64 val, .int .i64 c, .int .i64 rec], .int .i64 0]) ∧ Below w.heap.size w w'
    go_enter Try.func42, Try.ntmps42
    go_wp2_with fail
    refine (check_any ⟨a, b, c, n⟩ _).mono ?_
    rintro e w1 ⟨rfl, hb⟩
    rw [HE.out]
    have hc := blk_cell (below_get' hb (alloc_old _ (alloc_new _ _)))
    have hf := blk_free (below_get' hb (alloc_old _ (alloc_new _ _)))
    have hc' := blk_cell (below_get' hb (alloc_new _ _))
    have hf' := blk_free (below_get' hb (alloc_new _ _))
    simp at hc' hf'
    go_wp2_with (go_at_call 109; refine (val_any _ _).mono ?_; rintro e w' ⟨rfl, rfl⟩; rw [H2.out])
    exact bodyPost_ret (v := .tuple #[.agg #[.int .i64 a, .int .i64 val, .int .i64 c, .int .i64 rec], .int .i64 0]) (by simp [results, Try.results42, go_sem, hc, hf, hc', hf']) rfl ⟨rfl, by
      repeat refine Below.setCell ?_ (by simp) _
      refine Below.trans ?_ (hb.mono (by simp <;> omega))
      repeat refine Below.alloc ?_ (by simp <;> omega) _
      exact Below.refl _ _⟩
  · show Calls Try.prog 42 #[.agg #[.int .i64 a, .int .i64 b, .int .i64 c, .int .i64 n], _, _, _] w fun e w' => e = .returned (.tuple #[.agg #[.int .i64 a, .int .i64 b, .int .i64 val, .int .i64 rec], .int .i64 0]) ∧ Below w.heap.size w w'
    go_enter Try.func42, Try.ntmps42
    go_wp2_with fail
    refine (check_any ⟨a, b, c, n⟩ _).mono ?_
    rintro e w1 ⟨rfl, hb⟩
    rw [HE.out]
    have hc := blk_cell (below_get' hb (alloc_old _ (alloc_new _ _)))
    have hf := blk_free (below_get' hb (alloc_old _ (alloc_new _ _)))
    have hc' := blk_cell (below_get' hb (alloc_new _ _))
    have hf' := blk_free (below_get' hb (alloc_new _ _))
    simp at hc' hf'
    go_wp2_with (go_at_call 109; refine (val_any _ _).mono ?_; rintro e w' ⟨rfl, rfl⟩; rw [H2.out])
    exact bodyPost_ret (v := .tuple #[.agg #[.int .i64 a, .int .i64 b, .int .i64 val, .int .i64 rec], .int .i64 0]) (by simp [results, Try.results42, go_sem, hc, hf, hc', hf']) rfl ⟨rfl, by
      repeat refine Below.setCell ?_ (by simp) _
      refine Below.trans ?_ (hb.mono (by simp <;> omega))
      repeat refine Below.alloc ?_ (by simp <;> omega) _
      exact Below.refl _ _⟩

theorem set_any (p : Pg) (cell val rec : Int) (w : World) :
    Calls Try.prog 42 #[p.val, .int .i64 cell, .int .i64 val, .int .i64 rec] w fun e w' =>
      e = .returned (.tuple #[(setOf p cell val rec).1.val, .int .i64 (setOf p cell val rec).2]) ∧ Below w.heap.size w w' := by
  cases hp : p.ok
  · rw [show setOf p cell val rec = (Pg.zero, 3) by simp [setOf, hp]]
    exact set_bad p cell val rec w hp
  · cases ha : setArgs cell val rec
    · rw [show setOf p cell val rec = (Pg.zero, 3) by simp [setOf, ha]]
      exact set_no p cell val rec w hp ha
    · rw [show setOf p cell val rec = (p.put cell val rec, 0) by simp [setOf, hp, ha]]
      exact set_yes p cell val rec w hp ha

theorem same_any (p q : Pg) (w : World) :
    Calls Try.prog 47 #[p.val, q.val] w fun e w' => e = .returned (.bool (p.same q)) ∧ Below w.heap.size w w' := by
  obtain ⟨a, b, c, n⟩ := p
  obtain ⟨a', b', c', n'⟩ := q
  unfold Pg.val
  have he := weq_three a b c a' b' c'
  go_enter Try.func47, Try.ntmps47
  go_wp2
  go_ret
  exact ⟨rfl, by repeat (first | exact Below.refl _ _ | refine Below.alloc ?_ (by simp) _)⟩
end Go.Proofs.Ytdbcimadjmdffaa
