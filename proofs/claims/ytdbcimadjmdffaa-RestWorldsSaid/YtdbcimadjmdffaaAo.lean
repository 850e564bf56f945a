/- What the laws ActLost and ActKept say, as plain Lean. No condition. -/
import Derived.Test.YtdbcimadjmdffaaAn
import Derived.Test.YtdbcimadjmdffaaWl
set_option linter.unusedVariables false
set_option linter.unusedSimpArgs false
set_option linter.unusedSectionVars false
namespace Go.Proofs.Ytdbcimadjmdffaa
theorem do_mend (x : Wd) : doOf x ⟨6, 0, 0, 0, 0⟩ = ((mendOf x (-1) true true true).1, (mendOf x (-1) true true true).2.2) := by simp [doOf]
theorem act_lost {x z : Wd} {e : Int} (hz : doOf x ⟨6, 0, 0, 0, 0⟩ = (z, e)) (he : e = 0) {t : Int} (ht : 1 ≤ t ∧ t ≤ 9) :
    logErr z.log = 0 ∧ (stt z.h t = 0 ∨ stt z.h t = 4) ∧ ∀ k : Nat, (winsOf z.log)[k]? = some t → stt x.h t = 2 ∨ stt x.h t = 4 := by
  rw [do_mend] at hz
  obtain ⟨ez, ee⟩ := Prod.mk.inj hz
  obtain ⟨h0', g, hRg, hlg, hng, _, e9, hw, _, hwins, _⟩ := mend_true (x := x) (ee.trans he)
  rw [e9] at ez
  subst ez
  have hh : (⟨pagesOf g, g.reverse, g.length⟩ : Wd).h = g := by simp [Wd.h]
  have lz := (world_right hw).1
  refine ⟨lz, ?_, ?_⟩
  · rw [hh]; exact lost_state hng ht
  · intro k hk
    dsimp only at hk lz
    rw [wins_ok lz] at hk
    have hm : t ∈ winsL g.reverse := List.mem_of_getElem? hk
    have hc : (winsL g.reverse).contains t = true := by simpa using hm
    rw [winsL_has, List.reverse_reverse] at hc
    refine won_stt (cut_won ?_)
    rw [← wins_mem, ← hwins, wins_mem]
    exact hc
theorem do_err (x : Wd) (h : worldErr x = 0) : (doOf x ⟨6, 0, 0, 0, 0⟩).2 = 0 ∨ (doOf x ⟨6, 0, 0, 0, 0⟩).2 = 2 := by
  rw [do_mend]
  exact mend_err h _ _ _ _
theorem kept_step {x y : Wd} {e : Int} {a : Ac} {t : Int} (hy : doOf x a = (y, e)) (he : e = 0) (hw : won x.cut.h t = true) : worldErr y = 0 ∧ won y.cut.h t = true := by
  have h : (doOf x a).2 = 0 := by rw [hy]; exact he
  have hg := do_grows h
  rw [hy] at hg
  exact ⟨hg.2.1, kept hg hw⟩
theorem kept_start {x y : Wd} {e : Int} {t : Int} (hy : commitOf x t = (y, e)) (he : e = 0) : worldErr x = 0 ∧ worldErr y = 0 ∧ won y.cut.h t = true := by
  have h : (commitOf x t).2 = 0 := by rw [hy]; exact he
  obtain ⟨h0, _, _, _, ec, _, _, hw⟩ := commit_ok h
  rw [hy] at ec
  obtain rfl := (Prod.mk.inj ec).1
  exact ⟨h0, hw, com_won h0⟩
theorem kept_end {x z : Wd} {n e : Int} {t : Int} (hz : mendOf x (-1) true true true = (z, n, e)) (he : e = 0) (hw : won x.cut.h t = true) :
    worldErr z = 0 ∧ (winsOf z.log).contains t = true ∧ cellsOf z.log = cellsH z.h ∧ (pagesOf z.h).cells9 = cellsH z.h := by
  have h : (mendOf x (-1) true true true).2.2 = 0 := by rw [hz]; exact he
  obtain ⟨h0', g, hRg, hlg, hng, _, e9, hwz, _, hwins, _⟩ := mend_true h
  rw [hz] at e9
  dsimp only at e9
  subst e9
  have hh : (⟨pagesOf g, g.reverse, g.length⟩ : Wd).h = g := by simp [Wd.h]
  have lz := (world_right hwz).1
  refine ⟨hwz, ?_, cells_ok hwz, ?_⟩
  · dsimp only at lz ⊢
    rw [wins_ok lz, winsL_has, List.reverse_reverse, ← wins_mem, hwins, wins_mem]
    exact hw
  · rw [hh]
    exact model_true hRg fun t ht => ((next_none hng).1 t ht).1
theorem kept_err {x z : Wd} {n e : Int} (hz : mendOf x (-1) true true true = (z, n, e)) (h : worldErr x = 0) : e = 0 ∨ e = 2 := by
  have := mend_err h (-1) true true true
  rw [hz] at this
  exact this
theorem contains_step {l : List Int} {k : Nat} {y t : Int} (h : l[k]? = some y) : (l.take (k + 1)).contains t = ((l.take k).contains t || decide (y = t)) := by
  obtain ⟨hl, e⟩ := List.getElem?_eq_some_iff.1 h
  rw [List.take_add_one, h]
  simp only [Option.toList, List.contains_append]
  congr 1
  simp [eq_comm]
end Go.Proofs.Ytdbcimadjmdffaa
