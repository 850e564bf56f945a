/- What the document's answers for pages return at every input. No condition. -/
import Derived.Test.YtdbcimadjmdffaaPage2
set_option linter.unusedSimpArgs false
namespace Go.Proofs.Ytdbcimadjmdffaa
open Go.RowKit
theorem pageError_any (p : Pg) (w : World) :
    Calls Try.prog 46 #[p.val] w fun e w' => e = .returned (.int .i64 p.err) ∧ Below w.heap.size w w' := by
  obtain ⟨a, b, c, n⟩ := p
  have HA : Hid (Pg.err ⟨a, b, c, n⟩ = if (wi a 0 99 && (wi b 0 99 && wi c 0 99)) && wi n 0 60 then 0 else 3) := rfl
  unfold Pg.val
  go_enter Try.func46, Try.ntmps46
  go_wp2
  go_loop [3] (fun i => ∃ k : Nat, k ≤ 3 ∧ i = .int .i64 k ∧ Hid ((0 < k → wi a 0 99 = true) ∧ (1 < k → wi b 0 99 = true) ∧ (2 < k → wi c 0 99 = true))) (fun i => 3 - (intOf i).toNat)
  case atStart => exact ⟨0, Nat.zero_le _, rfl, ⟨fun h => by omega, fun h => by omega, fun h => by omega⟩⟩
  case round =>
    obtain ⟨k, hk, rfl, HR⟩ := hrel
    have hk4 : k = 0 ∨ k = 1 ∨ k = 2 ∨ k = 3 := by omega
    clear hk
    rcases hk4 with rfl | rfl | rfl | rfl
    · cases h0 : wi a 0 99
      all_goals
        have H0 := Lib.hid h0
        clear h0
        go_wp2_with (go_at_call 110; refine (within_any _ _ _ _).mono ?_; rintro e w' ⟨rfl, rfl⟩; rw [H0.out])
      · go_ret
        exact ⟨reti (by rw [HA.out, H0.out]; simp), (Below.refl _ _).alloc (Nat.le_refl _) _⟩
      · go_round
        case rel => exact ⟨1, by decide, rfl, show _ ∧ _ ∧ _ from ⟨fun _ => by first | exact H0.out | trivial, fun h => absurd h (by decide), fun h => absurd h (by decide)⟩⟩
        case measure => simp [intOf]
    · cases h0 : wi b 0 99
      all_goals
        have H0 := Lib.hid h0
        clear h0
        go_wp2_with (go_at_call 110; refine (within_any _ _ _ _).mono ?_; rintro e w' ⟨rfl, rfl⟩; rw [H0.out])
      · go_ret
        exact ⟨reti (by rw [HA.out, H0.out]; simp), (Below.refl _ _).alloc (Nat.le_refl _) _⟩
      · go_round
        case rel => exact ⟨2, by decide, rfl, show _ ∧ _ ∧ _ from ⟨fun _ => HR.1 (by decide), fun _ => by first | exact H0.out | trivial, fun h => absurd h (by decide)⟩⟩
        case measure => simp [intOf]
    · cases h0 : wi c 0 99
      all_goals
        have H0 := Lib.hid h0
        clear h0
        go_wp2_with (go_at_call 110; refine (within_any _ _ _ _).mono ?_; rintro e w' ⟨rfl, rfl⟩; rw [H0.out])
      · go_ret
        exact ⟨reti (by rw [HA.out, H0.out]; simp), (Below.refl _ _).alloc (Nat.le_refl _) _⟩
      · go_round
        case rel => exact ⟨3, by decide, rfl, show _ ∧ _ ∧ _ from ⟨fun _ => HR.1 (by decide), fun _ => HR.2.1 (by decide), fun _ => by first | exact H0.out | trivial⟩⟩
        case measure => simp [intOf]
    · have HX : Hid (Pg.err ⟨a, b, c, n⟩ = if wi n 0 60 then 0 else 3) := by
        show _ = _
        rw [HA.out, HR.1 (by decide), HR.2.1 (by decide), HR.2.2 (by decide)]; simp
      cases h0 : wi n 0 60
      all_goals
        have H0 := Lib.hid h0
        clear h0 HR
        go_wp2_with (go_at_call 110; refine (within_any _ _ _ _).mono ?_; rintro e w' ⟨rfl, rfl⟩; rw [H0.out])
        go_ret
        exact ⟨reti (by rw [HX.out, H0.out]; simp), (Below.refl _ _).alloc (Nat.le_refl _) _⟩

theorem setOf_bad (p : Pg) (cell val rec : Int) (w : World) (hp : p.ok = false) :
    Calls Try.prog 43 #[p.val, .int .i64 cell, .int .i64 val, .int .i64 rec] w fun e w' =>
      e = .returned (.tuple #[Pg.zero.val, .int .i64 3]) ∧ Below w.heap.size w w' := by
  have HE := Lib.hid (show p.err = 3 by simp [Pg.err, hp])
  clear hp
  obtain ⟨a, b, c, n⟩ := p
  unfold Pg.val
  go_enter Try.func43, Try.ntmps43
  go_wp2_with fail
  · refine (pageError_any ⟨a, b, c, n⟩ _).mono ?_
    rintro e w1 ⟨rfl, hb⟩
    rw [HE.out]
    have hc := blk_cell (below_get' hb (alloc_old _ (alloc_new _ _)))
    have hf := blk_free (below_get' hb (alloc_old _ (alloc_new _ _)))
    have hc' := blk_cell (below_get' hb (alloc_new _ _))
    have hf' := blk_free (below_get' hb (alloc_new _ _))
    simp at hc' hf'
    go_wp2
    exact bodyPost_ret (v := .tuple #[.agg #[.int .i64 0, .int .i64 0, .int .i64 0, .int .i64 0], .int .i64 3]) (by simp [results, Try.results43, go_sem, hc, hf, hc', hf']) rfl ⟨rfl, by
      repeat refine Below.setCell ?_ (by simp) _
      refine Below.trans ?_ (hb.mono (by simp <;> omega))
      repeat refine Below.alloc ?_ (by simp <;> omega) _
      exact Below.refl _ _⟩

theorem setOf_no (p : Pg) (cell val rec : Int) (w : World) (hp : p.ok = true) (h : setArgs cell val rec = false) :
    Calls Try.prog 43 #[p.val, .int .i64 cell, .int .i64 val, .int .i64 rec] w fun e w' =>
      e = .returned (.tuple #[Pg.zero.val, .int .i64 3]) ∧ Below w.heap.size w w' := by
  have HE := Lib.hid (show p.err = 0 by simp [Pg.err, hp])
  clear hp
  have h' : wi cell 0 2 = false ∨ (wi cell 0 2 = true ∧ wi val 0 99 = false) ∨ (wi cell 0 2 = true ∧ wi val 0 99 = true ∧ wi rec 1 60 = false) := by
    unfold setArgs at h
    cases h1 : wi cell 0 2 <;> cases h2 : wi val 0 99 <;> cases h3 : wi rec 1 60 <;> simp_all
  clear h
  obtain ⟨a, b, c, n⟩ := p
  unfold Pg.val
  rcases h' with h1 | ⟨h1, h2⟩ | ⟨h1, h2, h3⟩
  all_goals
    have H1 := Lib.hid h1
    clear h1
    try (have H2 := Lib.hid h2; clear h2)
    try (have H3 := Lib.hid h3; clear h3)
    go_enter Try.func43, Try.ntmps43
    go_wp2_with fail
    refine (pageError_any ⟨a, b, c, n⟩ _).mono ?_
    rintro e w1 ⟨rfl, hb⟩
    rw [HE.out]
    have hc := blk_cell (below_get' hb (alloc_old _ (alloc_new _ _)))
    have hf := blk_free (below_get' hb (alloc_old _ (alloc_new _ _)))
    have hc' := blk_cell (below_get' hb (alloc_new _ _))
    have hf' := blk_free (below_get' hb (alloc_new _ _))
    simp at hc' hf'
    go_wp2_with (go_at_call 110; refine (within_any _ _ _ _).mono ?_; rintro e w' ⟨rfl, rfl⟩; (first | rw [H1.out] | rw [H2.out] | rw [H3.out]))
    exact bodyPost_ret (v := .tuple #[.agg #[.int .i64 0, .int .i64 0, .int .i64 0, .int .i64 0], .int .i64 3]) (by simp [results, Try.results43, go_sem, hc, hf, hc', hf']) rfl ⟨rfl, by
      repeat refine Below.setCell ?_ (by simp) _
      refine Below.trans ?_ (hb.mono (by simp <;> omega))
      repeat refine Below.alloc ?_ (by simp <;> omega) _
      exact Below.refl _ _⟩

theorem setOf_yes (p : Pg) (cell val rec : Int) (w : World) (hp : p.ok = true) (h : setArgs cell val rec = true) :
    Calls Try.prog 43 #[p.val, .int .i64 cell, .int .i64 val, .int .i64 rec] w fun e w' =>
      e = .returned (.tuple #[(p.put cell val rec).val, .int .i64 0]) ∧ Below w.heap.size w w' := by
  have HE := Lib.hid (show p.err = 0 by simp [Pg.err, hp])
  clear hp
  simp only [setArgs, Bool.and_eq_true] at h
  obtain ⟨h1, h2, h3⟩ := h
  have hc3 : cell = 0 ∨ cell = 1 ∨ cell = 2 := by have := wi_iff.1 h1; omega
  have H2 := Lib.hid h2
  have H3 := Lib.hid h3
  clear h2 h3
  obtain ⟨a, b, c, n⟩ := p
  rcases hc3 with rfl | rfl | rfl
  · show Calls Try.prog 43 #[.agg #[.int .i64 a, .int .i64 b, .int .i64 c, .int .i64 n], _, _, _] w fun e w' => e = .returned (.tuple #[.agg #[.int .i64 val, .int .i64 b, .int .i64 c, .int .i64 rec], .int .i64 0]) ∧ Below w.heap.size w w'
    have H1 := Lib.hid h1
    clear h1
    go_enter Try.func43, Try.ntmps43
    go_wp2_with fail
    refine (pageError_any ⟨a, b, c, n⟩ _).mono ?_
    rintro e w1 ⟨rfl, hb⟩
    rw [HE.out]
    have hc := blk_cell (below_get' hb (alloc_old _ (alloc_new _ _)))
    have hf := blk_free (below_get' hb (alloc_old _ (alloc_new _ _)))
    have hc' := blk_cell (below_get' hb (alloc_new _ _))
    have hf' := blk_free (below_get' hb (alloc_new _ _))
    simp at hc' hf'
    go_wp2_with (go_at_call 110; refine (within_any _ _ _ _).mono ?_; rintro e w' ⟨rfl, rfl⟩; (first | rw [H1.out] | rw [H2.out] | rw [H3.out]))
    exact bodyPost_ret (v := .tuple #[.agg #[.int .i64 val, .int .i64 b, .int .i64 c, .int .i64 rec], .int .i64 0]) (by simp [results, Try.results43, go_sem, hc, hf, hc', hf']) rfl ⟨rfl, by
      repeat refine Below.setCell ?_ (by simp) _
      refine Below.trans ?_ (hb.mono (by simp <;> omega))
      repeat refine Below.alloc ?_ (by simp <;> omega) _
      exact Below.refl _ _⟩

  · show Calls Try.prog 43 #[.agg #[.int .i64 a, .int .i64 b, .int .i64 c, .int .i64 n], _, _, _] w fun e w' => e = .returned (.tuple #[.agg #[.int .i64 a, .int .i64 val, .int .i64 c, .int .i64 rec], .int .i64 0]) ∧ Below w.heap.size w w'
    have H1 := Lib.hid h1
    clear h1
    go_enter Try.func43, Try.ntmps43
    go_wp2_with fail
    refine (pageError_any ⟨a, b, c, n⟩ _).mono ?_
    rintro e w1 ⟨rfl, hb⟩
    rw [HE.out]
    have hc := blk_cell (below_get' hb (alloc_old _ (alloc_new _ _)))
    have hf := blk_free (below_get' hb (alloc_old _ (alloc_new _ _)))
    have hc' := blk_cell (below_get' hb (alloc_new _ _))
    have hf' := blk_free (below_get' hb (alloc_new _ _))
    simp at hc' hf'
    go_wp2_with (go_at_call 110; refine (within_any _ _ _ _).mono ?_; rintro e w' ⟨rfl, rfl⟩; (first | rw [H1.out] | rw [H2.out] | rw [H3.out]))
    exact bodyPost_ret (v := .tuple #[.agg #[.int .i64 a, .int .i64 val, .int .i64 c, .int .i64 rec], .int .i64 0]) (by simp [results, Try.results43, go_sem, hc, hf, hc', hf']) rfl ⟨rfl, by
      repeat refine Below.setCell ?_ (by simp) _
      refine Below.trans ?_ (hb.mono (by simp <;> omega))
      repeat refine Below.alloc ?_ (by simp <;> omega) _
      exact Below.refl _ _⟩

  · show Calls Try.prog 43 #[.agg #[.int .i64 a, .int .i64 b, .int .i64 c, .int .i64 n], _, _, _] w fun e w' => e = .returned (.tuple #[.agg #[.int .i64 a, .int .i64 b, .int .i64 val, .int .i64 rec], .int .i64 0]) ∧ Below w.heap.size w w'
    have H1 := Lib.hid h1
    clear h1
    go_enter Try.func43, Try.ntmps43
    go_wp2_with fail
    refine (pageError_any ⟨a, b, c, n⟩ _).mono ?_
    rintro e w1 ⟨rfl, hb⟩
    rw [HE.out]
    have hc := blk_cell (below_get' hb (alloc_old _ (alloc_new _ _)))
    have hf := blk_free (below_get' hb (alloc_old _ (alloc_new _ _)))
    have hc' := blk_cell (below_get' hb (alloc_new _ _))
    have hf' := blk_free (below_get' hb (alloc_new _ _))
    simp at hc' hf'
    go_wp2_with (go_at_call 110; refine (within_any _ _ _ _).mono ?_; rintro e w' ⟨rfl, rfl⟩; (first | rw [H1.out] | rw [H2.out] | rw [H3.out]))
    exact bodyPost_ret (v := .tuple #[.agg #[.int .i64 a, .int .i64 b, .int .i64 val, .int .i64 rec], .int .i64 0]) (by simp [results, Try.results43, go_sem, hc, hf, hc', hf']) rfl ⟨rfl, by
      repeat refine Below.setCell ?_ (by simp) _
      refine Below.trans ?_ (hb.mono (by simp <;> omega))
      repeat refine Below.alloc ?_ (by simp <;> omega) _
      exact Below.refl _ _⟩


theorem setOf_any (p : Pg) (cell val rec : Int) (w : World) :
    Calls Try.prog 43 #[p.val, .int .i64 cell, .int .i64 val, .int .i64 rec] w fun e w' =>
      e = .returned (.tuple #[(setOf p cell val rec).1.val, .int .i64 (setOf p cell val rec).2]) ∧ Below w.heap.size w w' := by
  cases hp : p.ok
  · rw [show setOf p cell val rec = (Pg.zero, 3) by simp [setOf, hp]]
    exact setOf_bad p cell val rec w hp
  · cases ha : setArgs cell val rec
    · rw [show setOf p cell val rec = (Pg.zero, 3) by simp [setOf, ha]]
      exact setOf_no p cell val rec w hp ha
    · rw [show setOf p cell val rec = (p.put cell val rec, 0) by simp [setOf, hp, ha]]
      exact setOf_yes p cell val rec w hp ha
end Go.Proofs.Ytdbcimadjmdffaa
