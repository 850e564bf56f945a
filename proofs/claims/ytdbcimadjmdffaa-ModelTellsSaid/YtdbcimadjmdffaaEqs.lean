/- '==' on the arrays and structs of croft: as their numbers are. No condition. -/
import Derived.Test.YtdbcimadjmdffaaRows
import Derived.Test.YtdbcimadjmdffaaModel
import Derived.Test.YtdbcimadjmdffaaKit
import Derived.ChangeKeysEq
set_option linter.unusedSimpArgs false
namespace Go.Proofs.Ytdbcimadjmdffaa
theorem has_int : (Try.prog.info? 3).isSome = true := by kernel_rfl
theorem has_page : (Try.prog.info? 24).isSome = true := by kernel_rfl
theorem has_three : (Try.prog.info? 22).isSome = true := by kernel_rfl
theorem cells_int : Try.prog.cellsOf 3 = 1 := by kernel_rfl
theorem cells_page : Try.prog.cellsOf 24 = 4 := by kernel_rfl
theorem cells_three : Try.prog.cellsOf 22 = 3 := by kernel_rfl
/-- '==' on [3]int. -/
theorem eq_three (d : Nat) (a b c a' b' c' : Int) (w : World) :
    (Op.equalIn (d + 2) 22 (.agg #[.int .i64 a, .int .i64 b, .int .i64 c]) (.agg #[.int .i64 a', .int .i64 b', .int .i64 c'])).run Try.prog w = .ok (a == a' && (b == b' && c == c')) w := by
  obtain ⟨i, hi⟩ := Option.isSome_iff_exists.1 has_int
  rw [run_equalIn_array w (d + 1) _ _ Try.underlying22 hi, cells_int]
  simp only [List.range, List.range.loop, Op.eqItems]
  simp [go_sem]
  by_cases h1 : a = a' <;> by_cases h2 : b = b' <;> by_cases h3 : c = c' <;> simp [h1, h2, h3]
theorem page_ext (p q : Pg) : (p = q) ↔ (p.c0 = q.c0 ∧ p.c1 = q.c1 ∧ p.c2 = q.c2 ∧ p.last = q.last) := by
  cases p; cases q; simp
/-- '==' on pages. -/
theorem eq_page (d : Nat) (p q : Pg) (w : World) :
    (Op.equalIn (d + 3) 24 p.val q.val).run Try.prog w = .ok (decide (p = q)) w := by
  obtain ⟨a, b, c, n⟩ := p
  obtain ⟨a', b', c', n'⟩ := q
  unfold Pg.val
  simp [go_sem, Op.eqFields, eq_three]
  by_cases h1 : a = a' <;> by_cases h2 : b = b' <;> by_cases h3 : c = c' <;> by_cases h4 : n = n' <;> simp [h1, h2, h3, h4]
theorem p3_ext (p q : P3) : (p = q) ↔ (p.p0 = q.p0 ∧ p.p1 = q.p1 ∧ p.p2 = q.p2) := by
  cases p; cases q; simp
/-- '==' on the pages of a world. -/
theorem eq_pages (d : Nat) (p q : P3) (w : World) :
    (Op.equalIn (d + 4) 42 p.val q.val).run Try.prog w = .ok (decide (p = q)) w := by
  have h : ∀ x y : Pg, ∀ W : World, (Op.equalIn (d + 3) 24 (.agg #[.int .i64 x.c0, .int .i64 x.c1, .int .i64 x.c2, .int .i64 x.last]) (.agg #[.int .i64 y.c0, .int .i64 y.c1, .int .i64 y.c2, .int .i64 y.last])).run Try.prog W = .ok (decide (x = y)) W := fun x y W => eq_page d x y W
  obtain ⟨i, hi⟩ := Option.isSome_iff_exists.1 has_page
  unfold P3.val P3.vals
  rw [run_equalIn_array w (d + 3) _ _ Try.underlying42 hi, cells_page]
  simp only [List.range, List.range.loop, Op.eqItems]
  simp [go_sem, h]
  by_cases h1 : p.p0 = q.p0 <;> by_cases h2 : p.p1 = q.p1 <;> by_cases h3 : p.p2 = q.p2 <;> simp [h1, h2, h3, p3_ext]
theorem c9_ext (p q : C9) : (p = q) ↔ ((p.a0 = q.a0 ∧ p.a1 = q.a1 ∧ p.a2 = q.a2) ∧ (p.b0 = q.b0 ∧ p.b1 = q.b1 ∧ p.b2 = q.b2) ∧ (p.c0 = q.c0 ∧ p.c1 = q.c1 ∧ p.c2 = q.c2)) := by
  cases p; cases q; simp [and_assoc]
/-- '==' on the cells of pages. -/
theorem eq_nine (d : Nat) (p q : C9) (w : World) :
    (Op.equalIn (d + 3) 67 p.val q.val).run Try.prog w = .ok (decide (p = q)) w := by
  obtain ⟨i, hi⟩ := Option.isSome_iff_exists.1 has_three
  unfold C9.val
  rw [run_equalIn_array w (d + 2) _ _ Try.underlying67 hi, cells_three]
  simp only [List.range, List.range.loop, Op.eqItems]
  simp [go_sem, eq_three]
  by_cases h1 : p.a0 = q.a0 ∧ p.a1 = q.a1 ∧ p.a2 = q.a2 <;> by_cases h2 : p.b0 = q.b0 ∧ p.b1 = q.b1 ∧ p.b2 = q.b2 <;> by_cases h3 : p.c0 = q.c0 ∧ p.c1 = q.c1 ∧ p.c2 = q.c2 <;> simp [h1, h2, h3, c9_ext]
theorem r_ext (p q : R) : (p = q) ↔ (p.kind = q.kind ∧ p.txn = q.txn ∧ p.prev = q.prev ∧ p.page = q.page ∧ p.cell = q.cell ∧ p.old = q.old ∧ p.new = q.new ∧ p.next = q.next) := by
  cases p; cases q; simp
/-- '==' on records. -/
theorem eq_rec (d : Nat) (p q : R) (w : World) :
    (Op.equalIn (d + 2) 34 p.val q.val).run Try.prog w = .ok (decide (p = q)) w := by
  unfold R.val
  simp [go_sem, Op.eqFields]
  simp only [r_ext]
  by_cases h1 : p.kind = q.kind <;> simp [h1]
  by_cases h2 : p.txn = q.txn <;> simp [h2]
  by_cases h3 : p.prev = q.prev <;> simp [h3]
  by_cases h4 : p.page = q.page <;> simp [h4]
  by_cases h5 : p.cell = q.cell <;> simp [h5]
  by_cases h6 : p.old = q.old <;> simp [h6]
  by_cases h7 : p.new = q.new <;> simp [h7]
  by_cases h8 : p.next = q.next <;> simp [h8]
/-! The same at the depth that a walk asks. -/
theorem weq_three (a b c a' b' c' : Int) (w : World) : (Op.equalIn 10000 22 (.agg #[.int .i64 a, .int .i64 b, .int .i64 c]) (.agg #[.int .i64 a', .int .i64 b', .int .i64 c'])).run Try.prog w = .ok (a == a' && (b == b' && c == c')) w := eq_three 9998 a b c a' b' c' w
theorem weq_page (p q : Pg) (w : World) : (Op.equalIn 10000 24 p.val q.val).run Try.prog w = .ok (decide (p = q)) w := eq_page 9997 p q w
theorem weq_pages (p q : P3) (w : World) : (Op.equalIn 10000 42 p.val q.val).run Try.prog w = .ok (decide (p = q)) w := eq_pages 9996 p q w
theorem weq_nine (p q : C9) (w : World) : (Op.equalIn 10000 67 p.val q.val).run Try.prog w = .ok (decide (p = q)) w := eq_nine 9997 p q w
theorem weq_rec (p q : R) (w : World) : (Op.equalIn 10000 34 p.val q.val).run Try.prog w = .ok (decide (p = q)) w := eq_rec 9998 p q w
end Go.Proofs.Ytdbcimadjmdffaa
