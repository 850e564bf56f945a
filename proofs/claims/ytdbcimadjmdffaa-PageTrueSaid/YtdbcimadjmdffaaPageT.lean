/- PageTells: Check, Set and Same answer just what the document says. No condition. -/
import Derived.Test.YtdbcimadjmdffaaPage3
import Derived.Deep.Cut
set_option linter.unusedSimpArgs false
namespace Go.Proofs.Ytdbcimadjmdffaa
open Go.RowKit
theorem pageBegun_any (w : World) : Calls Try.prog 44 #[] w fun e w' => e = .returned (.bool true) ∧ Below w.heap.size w w' := by
  have s1 : ∀ W, Calls Try.prog 42 #[.agg #[.int .i64 0, .int .i64 0, .int .i64 0, .int .i64 4], .int .i64 1, .int .i64 7, .int .i64 9] W fun e w' => e = .returned (.tuple #[.agg #[.int .i64 0, .int .i64 7, .int .i64 0, .int .i64 9], .int .i64 0]) ∧ Below W.heap.size W w' := fun W => set_any ⟨0, 0, 0, 4⟩ 1 7 9 W
  have s2 : ∀ W, Calls Try.prog 42 #[.agg #[.int .i64 0, .int .i64 0, .int .i64 0, .int .i64 0], .int .i64 3, .int .i64 7, .int .i64 9] W fun e w' => e = .returned (.tuple #[.agg #[.int .i64 0, .int .i64 0, .int .i64 0, .int .i64 0], .int .i64 3]) ∧ Below W.heap.size W w' := fun W => set_any ⟨0, 0, 0, 0⟩ 3 7 9 W
  have s3 : ∀ W, Calls Try.prog 42 #[.agg #[.int .i64 0, .int .i64 0, .int .i64 0, .int .i64 0], .int .i64 1, .int .i64 100, .int .i64 9] W fun e w' => e = .returned (.tuple #[.agg #[.int .i64 0, .int .i64 0, .int .i64 0, .int .i64 0], .int .i64 3]) ∧ Below W.heap.size W w' := fun W => set_any ⟨0, 0, 0, 0⟩ 1 100 9 W
  have s4 : ∀ W, Calls Try.prog 42 #[.agg #[.int .i64 0, .int .i64 0, .int .i64 0, .int .i64 61], .int .i64 1, .int .i64 7, .int .i64 9] W fun e w' => e = .returned (.tuple #[.agg #[.int .i64 0, .int .i64 0, .int .i64 0, .int .i64 0], .int .i64 3]) ∧ Below W.heap.size W w' := fun W => set_any ⟨0, 0, 0, 61⟩ 1 7 9 W
  have S1 := Lib.hid s1
  have S2 := Lib.hid s2
  have S3 := Lib.hid s3
  have S4 := Lib.hid s4
  clear s1 s2 s3 s4
  go_enter Try.func44, Try.ntmps44
  go_wp2_with fail
  refine (S1.out _).mono ?_
  rintro e w1 ⟨rfl, hb1⟩
  go_wp2_with fail
  refine (S2.out _).mono ?_
  rintro e w2 ⟨rfl, hb2⟩
  have g1 := below_get' hb2 (alloc_new w1 _)
  have g2 := Lib.hid g1
  clear g1
  go_wp2_with fail
  refine (S3.out _).mono ?_
  rintro e w3 ⟨rfl, hb3⟩
  have g3 := Lib.hid (below_get' hb3 (alloc_old _ g2.out))
  clear g2
  go_wp2_with fail
  refine (S4.out _).mono ?_
  rintro e w4 ⟨rfl, hb4⟩
  have g4 := Lib.hid (below_get' hb4 (alloc_old _ g3.out))
  clear g3
  have k1 : ∀ W, Calls Try.prog 45 #[.agg #[.int .i64 0, .int .i64 7, .int .i64 0, .int .i64 9]] W fun e w' => e = .returned (.int .i64 0) ∧ Below W.heap.size W w' := fun W => check_any ⟨0, 7, 0, 9⟩ W
  have k2 : ∀ W, Calls Try.prog 47 #[.agg #[.int .i64 0, .int .i64 7, .int .i64 0, .int .i64 9], .agg #[.int .i64 0, .int .i64 7, .int .i64 0, .int .i64 0]] W fun e w' => e = .returned (.bool true) ∧ Below W.heap.size W w' := fun W => same_any ⟨0, 7, 0, 9⟩ ⟨0, 7, 0, 0⟩ W
  have k3 : ∀ W, Calls Try.prog 47 #[.agg #[.int .i64 0, .int .i64 7, .int .i64 0, .int .i64 9], .agg #[.int .i64 0, .int .i64 0, .int .i64 0, .int .i64 0]] W fun e w' => e = .returned (.bool false) ∧ Below W.heap.size W w' := fun W => same_any ⟨0, 7, 0, 9⟩ ⟨0, 0, 0, 0⟩ W
  have e1 : ∀ W, (Op.equalIn 10000 24 (.agg #[.int .i64 0, .int .i64 7, .int .i64 0, .int .i64 9]) (.agg #[.int .i64 0, .int .i64 7, .int .i64 0, .int .i64 9])).run Try.prog W = .ok true W := fun W => weq_page ⟨0, 7, 0, 9⟩ ⟨0, 7, 0, 9⟩ W
  have K1 := Lib.hid k1
  have K2 := Lib.hid k2
  have K3 := Lib.hid k3
  clear k1 k2 k3
  go_upto_region 5 with (fail)
  have c1 := grow_cell (alloc_old (.cells #[.int .i64 0, .int .i64 0, .int .i64 0, .int .i64 0] 24) g4.out)
  refine wp_region_grow_plain ?_
  repeat (go_big_quiet_step ((first | (go_at_call 45; with_reducible exact quiet_grow (K1.out _)) | (go_at_call 47; with_reducible exact quiet_grow (K2.out _)) | (go_at_call 47; with_reducible exact quiet_grow (K3.out _)))))
  refine wpQuiet_nil ?_
  rintro _ ⟨g, rfl⟩
  go_wp2
  go_ret
  refine ⟨rfl, ?_⟩
  repeat (first | exact Below.refl _ _ | refine bg_grow ?_ _ | refine bg_alloc ?_ _ | refine bg_trans ?_ (by assumption))

theorem pageTells_any (p q : Pg) (cell val n : Int) (w : World) :
    Calls Try.prog 3 #[p.val, q.val, .int .i64 cell, .int .i64 val, .int .i64 n] w fun e w' => e = .returned (.bool true) ∧ Below w.heap.size w w' := by
  obtain ⟨x, hx⟩ : ∃ x : Pg × Int, setOf p cell val n = x := ⟨_, rfl⟩
  obtain ⟨⟨x0, x1, x2, x3⟩, e⟩ := x
  have s1 : ∀ W, Calls Try.prog 42 #[p.val, .int .i64 cell, .int .i64 val, .int .i64 n] W fun e' w' => e' = .returned (.tuple #[.agg #[.int .i64 x0, .int .i64 x1, .int .i64 x2, .int .i64 x3], .int .i64 e]) ∧ Below W.heap.size W w' := by
    intro W; have := set_any p cell val n W; rw [hx] at this; exact this
  have s2 : ∀ W, Calls Try.prog 43 #[p.val, .int .i64 cell, .int .i64 val, .int .i64 n] W fun e' w' => e' = .returned (.tuple #[.agg #[.int .i64 x0, .int .i64 x1, .int .i64 x2, .int .i64 x3], .int .i64 e]) ∧ Below W.heap.size W w' := by
    intro W; have := setOf_any p cell val n W; rw [hx] at this; exact this
  have k1 : ∀ W, _ := fun W => check_any p W
  have k2 : ∀ W, _ := fun W => pageError_any p W
  have k3 : ∀ W, Calls Try.prog 47 #[p.val, q.val] W fun e w' => e = .returned (.bool (p.c0 == q.c0 && (p.c1 == q.c1 && p.c2 == q.c2))) ∧ Below W.heap.size W w' := fun W => same_any p q W
  have e1 : ∀ W, (Op.equalIn 10000 24 (.agg #[.int .i64 x0, .int .i64 x1, .int .i64 x2, .int .i64 x3]) (.agg #[.int .i64 x0, .int .i64 x1, .int .i64 x2, .int .i64 x3])).run Try.prog W = .ok true W := fun W => by
    have h := weq_page ⟨x0, x1, x2, x3⟩ ⟨x0, x1, x2, x3⟩ W
    rw [decide_eq_true rfl] at h
    exact h
  generalize p.err = pe at k1 k2
  have S1 := Lib.hid s1
  have S2 := Lib.hid s2
  have K1 := Lib.hid k1
  have K2 := Lib.hid k2
  have K3 := Lib.hid k3
  clear s1 s2 k1 k2 k3 hx
  obtain ⟨a, b, c, l⟩ := p
  obtain ⟨a', b', c', l'⟩ := q
  have e2 := weq_three a b c a' b' c'
  unfold Pg.val at *
  go_enter Try.func3, Try.ntmps3
  go_wp2_with fail
  refine (S1.out _).mono ?_
  rintro e w1 ⟨rfl, hb1⟩
  have c0 := blk_cell (below_get' hb1 (alloc_old _ (alloc_new _ _)))
  have G0 := Lib.hid (below_get' hb1 (alloc_old _ (alloc_new _ _)))
  have G1 := Lib.hid (below_get' hb1 (alloc_new _ _))
  have z1 : w.heap.size + 1 < w1.heap.size := by have := hb1.size; simp at this; omega
  have z0 : w.heap.size < w1.heap.size := by omega
  go_wp2_with fail
  refine (S2.out _).mono ?_
  rintro e w2 ⟨rfl, hb2⟩
  have G0' := Lib.hid (below_get' hb2 (alloc_old _ G0.out))
  have G1' := Lib.hid (below_get' hb2 (alloc_old _ G1.out))
  have G2' := Lib.hid (below_get' hb2 (alloc_new _ _))
  clear G0 G1 c0
  go_upto_region 3 with (fail)
  have c0 := grow_cell (alloc_old (.cells #[.int .i64 x0, .int .i64 x1, .int .i64 x2, .int .i64 x3] 24) G0'.out)
  have c1 := grow_cell (alloc_old (.cells #[.int .i64 x0, .int .i64 x1, .int .i64 x2, .int .i64 x3] 24) G1'.out)
  have c2 := grow_cell (alloc_old (.cells #[.int .i64 x0, .int .i64 x1, .int .i64 x2, .int .i64 x3] 24) G2'.out)
  have c3 := grow_cell (alloc_new w2 (.cells #[.int .i64 x0, .int .i64 x1, .int .i64 x2, .int .i64 x3] 24))
  simp only [World.size_alloc] at c1
  refine wp_region_grow (by kernel_rfl) (by kernel_rfl) ?_
  repeat (go_big_quiet_step ((first | (go_at_call 44; exact quiet_grow (pageBegun_any _)) | (go_at_call 45; with_reducible exact quiet_grow (K1.out _)) | (go_at_call 46; with_reducible exact quiet_grow (K2.out _)) | (go_at_call 47; with_reducible exact quiet_grow (K3.out _)))))
  refine wpQuiet_nil ?_
  rintro _ ⟨g, rfl⟩
  go_wp2
  go_ret
  refine ⟨rfl, ?_⟩
  repeat (first | exact Below.refl _ _ | refine bg_grow ?_ _ | refine bg_alloc ?_ _ | refine bg_trans ?_ (by assumption))
end Go.Proofs.Ytdbcimadjmdffaa
