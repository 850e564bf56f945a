/- PageTrue: what is set is there, all else is as it was. No condition. -/
import Derived.Test.YtdbcimadjmdffaaPageT
import Derived.Test.YtdbcimadjmdffaaDraw
set_option linter.unusedSimpArgs false
namespace Go.Proofs.Ytdbcimadjmdffaa
open Go.RowKit
theorem pageTrue_bad (p : Pg) (cell val n : Int) (w : World) (h : (p.ok && setArgs cell val n) = false) :
    Calls Try.prog 4 #[p.val, .int .i64 cell, .int .i64 val, .int .i64 n] w fun e w' => e = .returned (.bool true) ∧ Below w.heap.size w w' := by
  have s1 : ∀ W, Calls Try.prog 42 #[p.val, .int .i64 cell, .int .i64 val, .int .i64 n] W fun e' w' => e' = .returned (.tuple #[.agg #[.int .i64 0, .int .i64 0, .int .i64 0, .int .i64 0], .int .i64 3]) ∧ Below W.heap.size W w' := by
    intro W
    have h1 := set_any p cell val n W
    rw [show setOf p cell val n = (Pg.zero, 3) by simp only [setOf, h]; rfl] at h1
    exact h1
  have S1 := Lib.hid s1
  clear s1 h
  obtain ⟨a, b, c, l⟩ := p
  unfold Pg.val at *
  go_enter Try.func4, Try.ntmps4
  go_wp2_with fail
  refine (S1.out _).mono ?_
  rintro e w1 ⟨rfl, hb1⟩
  go_wp2_with (go_at_call 44; refine (pageBegun_any _).mono ?_; rintro e w2 ⟨rfl, hb2⟩)
  go_ret
  refine ⟨rfl, ?_⟩
  repeat (first | exact Below.refl _ _ | refine bg_grow ?_ _ | refine bg_alloc ?_ _ | refine bg_trans ?_ (by assumption))
set_option maxRecDepth 100000 in
theorem pageTrue_good0 (a b c l val n : Int) (w : World)
    (s1 : ∀ W, Calls Try.prog 42 #[.agg #[.int .i64 a, .int .i64 b, .int .i64 c, .int .i64 l], .int .i64 0, .int .i64 val, .int .i64 n] W fun e' w' => e' = .returned (.tuple #[.agg #[.int .i64 val, .int .i64 b, .int .i64 c, .int .i64 n], .int .i64 0]) ∧ Below W.heap.size W w')
    (s2 : ∀ W, Calls Try.prog 42 #[.agg #[.int .i64 val, .int .i64 b, .int .i64 c, .int .i64 n], .int .i64 0, .int .i64 a, .int .i64 n] W fun e' w' => e' = .returned (.tuple #[.agg #[.int .i64 a, .int .i64 b, .int .i64 c, .int .i64 n], .int .i64 0]) ∧ Below W.heap.size W w')
    (hok : ∀ W, Calls Try.prog 45 #[.agg #[.int .i64 val, .int .i64 b, .int .i64 c, .int .i64 n]] W fun e w' => e = .returned (.int .i64 0) ∧ Below W.heap.size W w')
    (hsm : ∀ W, Calls Try.prog 47 #[.agg #[.int .i64 a, .int .i64 b, .int .i64 c, .int .i64 n], .agg #[.int .i64 a, .int .i64 b, .int .i64 c, .int .i64 l]] W fun e w' => e = .returned (.bool true) ∧ Below W.heap.size W w') :
    Calls Try.prog 4 #[.agg #[.int .i64 a, .int .i64 b, .int .i64 c, .int .i64 l], .int .i64 0, .int .i64 val, .int .i64 n] w fun e w' => e = .returned (.bool true) ∧ Below w.heap.size w w' := by
  have S1 := Lib.hid s1
  have S2 := Lib.hid s2
  have HO := Lib.hid hok
  have HS := Lib.hid hsm
  clear s1 s2 hok hsm
  go_enter Try.func4, Try.ntmps4
  go_wp2_with fail
  refine (S1.out _).mono ?_
  rintro e w1 ⟨rfl, hb1⟩
  have G0 := Lib.hid (alloc_old (.cells #[.int .i64 val, .int .i64 b, .int .i64 c, .int .i64 n] 24) (below_get' hb1 (alloc_new _ _)))
  have z0 : w.heap.size < w1.heap.size := by have := hb1.size; simp at this; omega
  go_upto_region 4 with (fail)
  have c0 := grow2_cell G0.out
  have c1 := grow2_cell (alloc_new w1 (.cells #[.int .i64 val, .int .i64 b, .int .i64 c, .int .i64 n] 24))
  have LA : ∀ o : Oper, o.op = .alloc 24 → o.guard = none → o.dst = some 11 → Lays Try.prog o 11 #[.int .i64 0, .int .i64 0, .int .i64 0, .int .i64 0] 24 := by
    intro o h1 h2 h3
    refine ⟨h2, h3, fun a w => ?_⟩
    obtain ⟨_, _, _, _, _, _⟩ := o
    subst h1
    go_simp
  refine wp_region_draw 11 13 (by kernel_rfl) (by kernel_rfl) ?_
  simp only [List.take, List.drop]
  repeat (first
    | refine wpG_skip rfl ⟨_, rfl, ?_⟩
    | (refine wpG_want rfl rfl (Nat.le_of_ble_eq_true rfl) ?_
       apply Exists.intro
       refine ⟨?_, ?_, ?_⟩
       · intro G K hK
         go_big_quiet_op
         first
         | exact hK _ rfl
         | (apply Exists.intro
            refine ⟨fun _ => ?_, ?_⟩
            · (go_at_call 42; with_reducible exact quiet_grow (S2.out _))
            exact hK _ rfl)
       · exact ⟨_, rfl⟩))
  refine wpG_nil ?_
  refine spS_alloc (LA _ rfl rfl rfl) ?_
  intro bx hbx
  refine ⟨_, rfl, ?_⟩
  refine spS_store rfl rfl hbx (y := .cells #[.int .i64 a, .int .i64 b, .int .i64 c, .int .i64 n] 24) ?_ ?_
  · intro w' hz
    have cz := blk_cell hz
    have fz := blk_free hz
    exact ⟨put4 w' bx (.int .i64 a) (.int .i64 b) (.int .i64 c) (.int .i64 n), by unfold put4; go_simp, put4_block hz _ _ _ _, put4_below _ _ _ _⟩
  rintro w2 ⟨hb2, gz⟩
  have p0 := below_get' hb2 G0.out
  have x0 := below_get' hb2 (alloc_new w1 (.cells #[.int .i64 val, .int .i64 b, .int .i64 c, .int .i64 n] 24))
  have hB : Below w.heap.size w w2 := by
    repeat (first | exact Below.refl _ _ | refine bg_grow ?_ _ | refine bg_alloc ?_ _ | refine bg_trans ?_ (by assumption))
  clear c0 c1 LA hb2 G0
  have P0 := Lib.hid p0
  have X0 := Lib.hid x0
  have Z0 := Lib.hid gz
  clear p0 x0 gz
  go_wp2_with fail
  refine wp_loop_rounds 4 ?_
  rw [rounds_succ]
  go_upto_region 8 with (fail)
  have cp := grow_cell P0.out
  have cx := grow_cell X0.out
  refine wp_region_grow (by kernel_rfl) (by kernel_rfl) ?_
  repeat (go_big_quiet_step (fail))
  refine wpQuiet_nil ?_
  rintro _ ⟨g, rfl⟩
  clear cp cx
  replace P0 := Lib.hid (grow_get P0.out g)
  replace X0 := Lib.hid (grow_get X0.out g)
  replace Z0 := Lib.hid (grow_get Z0.out g)
  replace hB := bg_grow hB g
  generalize grow w2 g = w3 at *
  go_wp2_with fail
  rw [rounds_succ]
  go_upto_region 8 with (fail)
  have cp := grow_cell P0.out
  have cx := grow_cell X0.out
  refine wp_region_grow (by kernel_rfl) (by kernel_rfl) ?_
  repeat (go_big_quiet_step (fail))
  refine wpQuiet_nil ?_
  rintro _ ⟨g, rfl⟩
  clear cp cx
  replace P0 := Lib.hid (grow_get P0.out g)
  replace X0 := Lib.hid (grow_get X0.out g)
  replace Z0 := Lib.hid (grow_get Z0.out g)
  replace hB := bg_grow hB g
  generalize grow w3 g = w4 at *
  go_wp2_with fail
  rw [rounds_succ]
  go_upto_region 8 with (fail)
  have cp := grow_cell P0.out
  have cx := grow_cell X0.out
  refine wp_region_grow (by kernel_rfl) (by kernel_rfl) ?_
  repeat (go_big_quiet_step (fail))
  refine wpQuiet_nil ?_
  rintro _ ⟨g, rfl⟩
  clear cp cx
  replace P0 := Lib.hid (grow_get P0.out g)
  replace X0 := Lib.hid (grow_get X0.out g)
  replace Z0 := Lib.hid (grow_get Z0.out g)
  replace hB := bg_grow hB g
  generalize grow w4 g = w5 at *
  go_wp2_with fail
  rw [rounds_succ]
  go_upto_region 10 with (fail)
  have cp := grow_cell P0.out
  have cx := grow_cell X0.out
  have cz := grow_cell Z0.out
  refine wp_region_grow_plain ?_
  repeat (go_big_quiet_step ((first | (go_at_call 44; exact quiet_grow (pageBegun_any _)) | (go_at_call 45; with_reducible exact quiet_grow (HO.out _)) | (go_at_call 47; with_reducible exact quiet_grow (HS.out _)))))
  refine wpQuiet_nil ?_
  rintro _ ⟨g, rfl⟩
  go_wp2
  go_ret
  exact ⟨rfl, bg_grow hB g⟩
set_option maxRecDepth 100000 in
theorem pageTrue_good1 (a b c l val n : Int) (w : World)
    (s1 : ∀ W, Calls Try.prog 42 #[.agg #[.int .i64 a, .int .i64 b, .int .i64 c, .int .i64 l], .int .i64 1, .int .i64 val, .int .i64 n] W fun e' w' => e' = .returned (.tuple #[.agg #[.int .i64 a, .int .i64 val, .int .i64 c, .int .i64 n], .int .i64 0]) ∧ Below W.heap.size W w')
    (s2 : ∀ W, Calls Try.prog 42 #[.agg #[.int .i64 a, .int .i64 val, .int .i64 c, .int .i64 n], .int .i64 1, .int .i64 b, .int .i64 n] W fun e' w' => e' = .returned (.tuple #[.agg #[.int .i64 a, .int .i64 b, .int .i64 c, .int .i64 n], .int .i64 0]) ∧ Below W.heap.size W w')
    (hok : ∀ W, Calls Try.prog 45 #[.agg #[.int .i64 a, .int .i64 val, .int .i64 c, .int .i64 n]] W fun e w' => e = .returned (.int .i64 0) ∧ Below W.heap.size W w')
    (hsm : ∀ W, Calls Try.prog 47 #[.agg #[.int .i64 a, .int .i64 b, .int .i64 c, .int .i64 n], .agg #[.int .i64 a, .int .i64 b, .int .i64 c, .int .i64 l]] W fun e w' => e = .returned (.bool true) ∧ Below W.heap.size W w') :
    Calls Try.prog 4 #[.agg #[.int .i64 a, .int .i64 b, .int .i64 c, .int .i64 l], .int .i64 1, .int .i64 val, .int .i64 n] w fun e w' => e = .returned (.bool true) ∧ Below w.heap.size w w' := by
  have S1 := Lib.hid s1
  have S2 := Lib.hid s2
  have HO := Lib.hid hok
  have HS := Lib.hid hsm
  clear s1 s2 hok hsm
  go_enter Try.func4, Try.ntmps4
  go_wp2_with fail
  refine (S1.out _).mono ?_
  rintro e w1 ⟨rfl, hb1⟩
  have G0 := Lib.hid (alloc_old (.cells #[.int .i64 a, .int .i64 val, .int .i64 c, .int .i64 n] 24) (below_get' hb1 (alloc_new _ _)))
  have z0 : w.heap.size < w1.heap.size := by have := hb1.size; simp at this; omega
  go_upto_region 4 with (fail)
  have c0 := grow2_cell G0.out
  have c1 := grow2_cell (alloc_new w1 (.cells #[.int .i64 a, .int .i64 val, .int .i64 c, .int .i64 n] 24))
  have LA : ∀ o : Oper, o.op = .alloc 24 → o.guard = none → o.dst = some 11 → Lays Try.prog o 11 #[.int .i64 0, .int .i64 0, .int .i64 0, .int .i64 0] 24 := by
    intro o h1 h2 h3
    refine ⟨h2, h3, fun a w => ?_⟩
    obtain ⟨_, _, _, _, _, _⟩ := o
    subst h1
    go_simp
  refine wp_region_draw 11 13 (by kernel_rfl) (by kernel_rfl) ?_
  simp only [List.take, List.drop]
  repeat (first
    | refine wpG_skip rfl ⟨_, rfl, ?_⟩
    | (refine wpG_want rfl rfl (Nat.le_of_ble_eq_true rfl) ?_
       apply Exists.intro
       refine ⟨?_, ?_, ?_⟩
       · intro G K hK
         go_big_quiet_op
         first
         | exact hK _ rfl
         | (apply Exists.intro
            refine ⟨fun _ => ?_, ?_⟩
            · (go_at_call 42; with_reducible exact quiet_grow (S2.out _))
            exact hK _ rfl)
       · exact ⟨_, rfl⟩))
  refine wpG_nil ?_
  refine spS_alloc (LA _ rfl rfl rfl) ?_
  intro bx hbx
  refine ⟨_, rfl, ?_⟩
  refine spS_store rfl rfl hbx (y := .cells #[.int .i64 a, .int .i64 b, .int .i64 c, .int .i64 n] 24) ?_ ?_
  · intro w' hz
    have cz := blk_cell hz
    have fz := blk_free hz
    exact ⟨put4 w' bx (.int .i64 a) (.int .i64 b) (.int .i64 c) (.int .i64 n), by unfold put4; go_simp, put4_block hz _ _ _ _, put4_below _ _ _ _⟩
  rintro w2 ⟨hb2, gz⟩
  have p0 := below_get' hb2 G0.out
  have x0 := below_get' hb2 (alloc_new w1 (.cells #[.int .i64 a, .int .i64 val, .int .i64 c, .int .i64 n] 24))
  have hB : Below w.heap.size w w2 := by
    repeat (first | exact Below.refl _ _ | refine bg_grow ?_ _ | refine bg_alloc ?_ _ | refine bg_trans ?_ (by assumption))
  clear c0 c1 LA hb2 G0
  have P0 := Lib.hid p0
  have X0 := Lib.hid x0
  have Z0 := Lib.hid gz
  clear p0 x0 gz
  go_wp2_with fail
  refine wp_loop_rounds 4 ?_
  rw [rounds_succ]
  go_upto_region 8 with (fail)
  have cp := grow_cell P0.out
  have cx := grow_cell X0.out
  refine wp_region_grow (by kernel_rfl) (by kernel_rfl) ?_
  repeat (go_big_quiet_step (fail))
  refine wpQuiet_nil ?_
  rintro _ ⟨g, rfl⟩
  clear cp cx
  replace P0 := Lib.hid (grow_get P0.out g)
  replace X0 := Lib.hid (grow_get X0.out g)
  replace Z0 := Lib.hid (grow_get Z0.out g)
  replace hB := bg_grow hB g
  generalize grow w2 g = w3 at *
  go_wp2_with fail
  rw [rounds_succ]
  go_upto_region 8 with (fail)
  have cp := grow_cell P0.out
  have cx := grow_cell X0.out
  refine wp_region_grow (by kernel_rfl) (by kernel_rfl) ?_
  repeat (go_big_quiet_step (fail))
  refine wpQuiet_nil ?_
  rintro _ ⟨g, rfl⟩
  clear cp cx
  replace P0 := Lib.hid (grow_get P0.out g)
  replace X0 := Lib.hid (grow_get X0.out g)
  replace Z0 := Lib.hid (grow_get Z0.out g)
  replace hB := bg_grow hB g
  generalize grow w3 g = w4 at *
  go_wp2_with fail
  rw [rounds_succ]
  go_upto_region 8 with (fail)
  have cp := grow_cell P0.out
  have cx := grow_cell X0.out
  refine wp_region_grow (by kernel_rfl) (by kernel_rfl) ?_
  repeat (go_big_quiet_step (fail))
  refine wpQuiet_nil ?_
  rintro _ ⟨g, rfl⟩
  clear cp cx
  replace P0 := Lib.hid (grow_get P0.out g)
  replace X0 := Lib.hid (grow_get X0.out g)
  replace Z0 := Lib.hid (grow_get Z0.out g)
  replace hB := bg_grow hB g
  generalize grow w4 g = w5 at *
  go_wp2_with fail
  rw [rounds_succ]
  go_upto_region 10 with (fail)
  have cp := grow_cell P0.out
  have cx := grow_cell X0.out
  have cz := grow_cell Z0.out
  refine wp_region_grow_plain ?_
  repeat (go_big_quiet_step ((first | (go_at_call 44; exact quiet_grow (pageBegun_any _)) | (go_at_call 45; with_reducible exact quiet_grow (HO.out _)) | (go_at_call 47; with_reducible exact quiet_grow (HS.out _)))))
  refine wpQuiet_nil ?_
  rintro _ ⟨g, rfl⟩
  go_wp2
  go_ret
  exact ⟨rfl, bg_grow hB g⟩
set_option maxRecDepth 100000 in
theorem pageTrue_good2 (a b c l val n : Int) (w : World)
    (s1 : ∀ W, Calls Try.prog 42 #[.agg #[.int .i64 a, .int .i64 b, .int .i64 c, .int .i64 l], .int .i64 2, .int .i64 val, .int .i64 n] W fun e' w' => e' = .returned (.tuple #[.agg #[.int .i64 a, .int .i64 b, .int .i64 val, .int .i64 n], .int .i64 0]) ∧ Below W.heap.size W w')
    (s2 : ∀ W, Calls Try.prog 42 #[.agg #[.int .i64 a, .int .i64 b, .int .i64 val, .int .i64 n], .int .i64 2, .int .i64 c, .int .i64 n] W fun e' w' => e' = .returned (.tuple #[.agg #[.int .i64 a, .int .i64 b, .int .i64 c, .int .i64 n], .int .i64 0]) ∧ Below W.heap.size W w')
    (hok : ∀ W, Calls Try.prog 45 #[.agg #[.int .i64 a, .int .i64 b, .int .i64 val, .int .i64 n]] W fun e w' => e = .returned (.int .i64 0) ∧ Below W.heap.size W w')
    (hsm : ∀ W, Calls Try.prog 47 #[.agg #[.int .i64 a, .int .i64 b, .int .i64 c, .int .i64 n], .agg #[.int .i64 a, .int .i64 b, .int .i64 c, .int .i64 l]] W fun e w' => e = .returned (.bool true) ∧ Below W.heap.size W w') :
    Calls Try.prog 4 #[.agg #[.int .i64 a, .int .i64 b, .int .i64 c, .int .i64 l], .int .i64 2, .int .i64 val, .int .i64 n] w fun e w' => e = .returned (.bool true) ∧ Below w.heap.size w w' := by
  have S1 := Lib.hid s1
  have S2 := Lib.hid s2
  have HO := Lib.hid hok
  have HS := Lib.hid hsm
  clear s1 s2 hok hsm
  go_enter Try.func4, Try.ntmps4
  go_wp2_with fail
  refine (S1.out _).mono ?_
  rintro e w1 ⟨rfl, hb1⟩
  have G0 := Lib.hid (alloc_old (.cells #[.int .i64 a, .int .i64 b, .int .i64 val, .int .i64 n] 24) (below_get' hb1 (alloc_new _ _)))
  have z0 : w.heap.size < w1.heap.size := by have := hb1.size; simp at this; omega
  go_upto_region 4 with (fail)
  have c0 := grow2_cell G0.out
  have c1 := grow2_cell (alloc_new w1 (.cells #[.int .i64 a, .int .i64 b, .int .i64 val, .int .i64 n] 24))
  have LA : ∀ o : Oper, o.op = .alloc 24 → o.guard = none → o.dst = some 11 → Lays Try.prog o 11 #[.int .i64 0, .int .i64 0, .int .i64 0, .int .i64 0] 24 := by
    intro o h1 h2 h3
    refine ⟨h2, h3, fun a w => ?_⟩
    obtain ⟨_, _, _, _, _, _⟩ := o
    subst h1
    go_simp
  refine wp_region_draw 11 13 (by kernel_rfl) (by kernel_rfl) ?_
  simp only [List.take, List.drop]
  repeat (first
    | refine wpG_skip rfl ⟨_, rfl, ?_⟩
    | (refine wpG_want rfl rfl (Nat.le_of_ble_eq_true rfl) ?_
       apply Exists.intro
       refine ⟨?_, ?_, ?_⟩
       · intro G K hK
         go_big_quiet_op
         first
         | exact hK _ rfl
         | (apply Exists.intro
            refine ⟨fun _ => ?_, ?_⟩
            · (go_at_call 42; with_reducible exact quiet_grow (S2.out _))
            exact hK _ rfl)
       · exact ⟨_, rfl⟩))
  refine wpG_nil ?_
  refine spS_alloc (LA _ rfl rfl rfl) ?_
  intro bx hbx
  refine ⟨_, rfl, ?_⟩
  refine spS_store rfl rfl hbx (y := .cells #[.int .i64 a, .int .i64 b, .int .i64 c, .int .i64 n] 24) ?_ ?_
  · intro w' hz
    have cz := blk_cell hz
    have fz := blk_free hz
    exact ⟨put4 w' bx (.int .i64 a) (.int .i64 b) (.int .i64 c) (.int .i64 n), by unfold put4; go_simp, put4_block hz _ _ _ _, put4_below _ _ _ _⟩
  rintro w2 ⟨hb2, gz⟩
  have p0 := below_get' hb2 G0.out
  have x0 := below_get' hb2 (alloc_new w1 (.cells #[.int .i64 a, .int .i64 b, .int .i64 val, .int .i64 n] 24))
  have hB : Below w.heap.size w w2 := by
    repeat (first | exact Below.refl _ _ | refine bg_grow ?_ _ | refine bg_alloc ?_ _ | refine bg_trans ?_ (by assumption))
  clear c0 c1 LA hb2 G0
  have P0 := Lib.hid p0
  have X0 := Lib.hid x0
  have Z0 := Lib.hid gz
  clear p0 x0 gz
  go_wp2_with fail
  refine wp_loop_rounds 4 ?_
  rw [rounds_succ]
  go_upto_region 8 with (fail)
  have cp := grow_cell P0.out
  have cx := grow_cell X0.out
  refine wp_region_grow (by kernel_rfl) (by kernel_rfl) ?_
  repeat (go_big_quiet_step (fail))
  refine wpQuiet_nil ?_
  rintro _ ⟨g, rfl⟩
  clear cp cx
  replace P0 := Lib.hid (grow_get P0.out g)
  replace X0 := Lib.hid (grow_get X0.out g)
  replace Z0 := Lib.hid (grow_get Z0.out g)
  replace hB := bg_grow hB g
  generalize grow w2 g = w3 at *
  go_wp2_with fail
  rw [rounds_succ]
  go_upto_region 8 with (fail)
  have cp := grow_cell P0.out
  have cx := grow_cell X0.out
  refine wp_region_grow (by kernel_rfl) (by kernel_rfl) ?_
  repeat (go_big_quiet_step (fail))
  refine wpQuiet_nil ?_
  rintro _ ⟨g, rfl⟩
  clear cp cx
  replace P0 := Lib.hid (grow_get P0.out g)
  replace X0 := Lib.hid (grow_get X0.out g)
  replace Z0 := Lib.hid (grow_get Z0.out g)
  replace hB := bg_grow hB g
  generalize grow w3 g = w4 at *
  go_wp2_with fail
  rw [rounds_succ]
  go_upto_region 8 with (fail)
  have cp := grow_cell P0.out
  have cx := grow_cell X0.out
  refine wp_region_grow (by kernel_rfl) (by kernel_rfl) ?_
  repeat (go_big_quiet_step (fail))
  refine wpQuiet_nil ?_
  rintro _ ⟨g, rfl⟩
  clear cp cx
  replace P0 := Lib.hid (grow_get P0.out g)
  replace X0 := Lib.hid (grow_get X0.out g)
  replace Z0 := Lib.hid (grow_get Z0.out g)
  replace hB := bg_grow hB g
  generalize grow w4 g = w5 at *
  go_wp2_with fail
  rw [rounds_succ]
  go_upto_region 10 with (fail)
  have cp := grow_cell P0.out
  have cx := grow_cell X0.out
  have cz := grow_cell Z0.out
  refine wp_region_grow_plain ?_
  repeat (go_big_quiet_step ((first | (go_at_call 44; exact quiet_grow (pageBegun_any _)) | (go_at_call 45; with_reducible exact quiet_grow (HO.out _)) | (go_at_call 47; with_reducible exact quiet_grow (HS.out _)))))
  refine wpQuiet_nil ?_
  rintro _ ⟨g, rfl⟩
  go_wp2
  go_ret
  exact ⟨rfl, bg_grow hB g⟩

theorem put_ok {p : Pg} {cell val n : Int} (hp : p.ok = true) (h : setArgs cell val n = true) : (p.put cell val n).ok = true := by
  simp only [setArgs, Bool.and_eq_true] at h
  obtain ⟨_, h2, h3⟩ := h
  simp only [Pg.ok, cellsB, Bool.and_eq_true] at hp ⊢
  have h4 : wi n 0 60 = true := by rw [wi_iff] at *; omega
  unfold Pg.put
  split
  · exact ⟨⟨h2, hp.1.2.1, hp.1.2.2⟩, h4⟩
  · split
    · exact ⟨⟨hp.1.1, h2, hp.1.2.2⟩, h4⟩
    · exact ⟨⟨hp.1.1, hp.1.2.1, h2⟩, h4⟩
theorem pageTrue_any (p : Pg) (cell val n : Int) (w : World) :
    Calls Try.prog 4 #[p.val, .int .i64 cell, .int .i64 val, .int .i64 n] w fun e w' => e = .returned (.bool true) ∧ Below w.heap.size w w' := by
  cases h : p.ok && setArgs cell val n
  · exact pageTrue_bad p cell val n w h
  · simp only [Bool.and_eq_true] at h
    have hq := put_ok h.1 h.2
    have h2 := h.2
    simp only [setArgs, Bool.and_eq_true] at h2
    have h1 := h.1
    simp only [Pg.ok, cellsB, Bool.and_eq_true] at h1
    have s1 := set_yes p cell val n
    have hc3 : cell = 0 ∨ cell = 1 ∨ cell = 2 := by have := wi_iff.1 h2.1; omega
    have back : ∀ was, wi was 0 99 = true → ∀ W, Calls Try.prog 42 #[(p.put cell val n).val, .int .i64 cell, .int .i64 was, .int .i64 n] W fun e' w' => e' = .returned (.tuple #[((p.put cell val n).put cell was n).val, .int .i64 0]) ∧ Below W.heap.size W w' :=
      fun was hw W => set_yes _ _ _ _ W hq (by simp only [setArgs, Bool.and_eq_true]; exact ⟨h2.1, hw, h2.2.2⟩)
    have chk : ∀ W, Calls Try.prog 45 #[(p.put cell val n).val] W fun e w' => e = .returned (.int .i64 0) ∧ Below W.heap.size W w' := fun W => by
      have := check_any (p.put cell val n) W
      rwa [show (p.put cell val n).err = 0 by simp [Pg.err, hq]] at this
    have sm : ∀ W, Calls Try.prog 47 #[(⟨p.c0, p.c1, p.c2, n⟩ : Pg).val, p.val] W fun e w' => e = .returned (.bool true) ∧ Below W.heap.size W w' := fun W => by
      have := same_any ⟨p.c0, p.c1, p.c2, n⟩ p W
      rwa [show (⟨p.c0, p.c1, p.c2, n⟩ : Pg).same p = true by simp [Pg.same]] at this
    obtain ⟨a, b, c, l⟩ := p
    rcases hc3 with rfl | rfl | rfl
    · exact pageTrue_good0 a b c l val n w (fun W => s1 W h.1 h.2) (back a h1.1.1) chk sm
    · exact pageTrue_good1 a b c l val n w (fun W => s1 W h.1 h.2) (back b h1.1.2.1) chk sm
    · exact pageTrue_good2 a b c l val n w (fun W => s1 W h.1 h.2) (back c h1.1.2.2) chk sm
end Go.Proofs.Ytdbcimadjmdffaa
