/- Mending, as plain Lean: the record that mending puts is right; how far it comes. No condition. -/
import Derived.Test.YtdbcimadjmdffaaCs
import Derived.Test.YtdbcimadjmdffaaSc
import Derived.Test.YtdbcimadjmdffaaCa
set_option linter.unusedVariables false
set_option linter.unusedSimpArgs false
set_option linter.unusedSectionVars false
namespace Go.Proofs.Ytdbcimadjmdffaa
theorem stt_bnd {h : List R} (hR : Right h) {t : Int} (hs : stt h t ≠ 0) : 1 ≤ t ∧ t ≤ 9 := by
  by_cases ht : 1 ≤ t ∧ t ≤ 9
  · exact ht
  · exact absurd (stt_out hR ht) hs
theorem best_state {h : List R} (hb : bestH h ≠ 0) : stt h (bestH h) = 1 ∨ stt h (bestH h) = 3 :=
  (bestGo_hangs h nine 0 (.inl rfl)).resolve_left hb
theorem next_right {h : List R} (hR : Right h) (hl : h.length < 60) {r : R} (hn : nextH h = some r) : Right (r :: h) := by
  unfold nextH at hn
  split at hn
  · rename_i t ht
    obtain rfl := Option.some.inj hn
    have h2 : stt h t = 2 := by simpa using List.find?_some ht
    exact right_end hR hl (stt_bnd hR (by omega)) (.inl h2)
  · split at hn
    · cases hn
    · rename_i hb
      obtain rfl := Option.some.inj hn
      have hs := best_state hb
      exact right_undo hR hl (stt_bnd hR (by omega)) hs
theorem nextR_some {h : List R} (hn : (nextR h).2 = true) : nextH h = some (nextR h).1 := by
  unfold nextR at hn ⊢
  split at hn
  · rename_i r hr; rw [hr]
  · cases hn
theorem nextR_none {h : List R} (hn : (nextR h).2 = false) : nextH h = none := by
  unfold nextR at hn
  split at hn
  · cases hn
  · assumption
theorem mendGo_stop {f : Nat} {s : Int} {n : Nat} {h : List R} (hs : (n : Int) = s ∨ nextH h = none) : mendGo (f + 1) s n h = some (h, n) := by
  unfold mendGo
  by_cases e : (n : Int) = s
  · rw [if_pos e]
  · rw [if_neg e, hs.resolve_left e]
theorem mendGo_step {f : Nat} {s : Int} {n : Nat} {h : List R} {r : R} (hs : (n : Int) ≠ s) (hn : nextH h = some r) : mendGo (f + 1) s n h = mendGo f s (n + 1) (r :: h) := by
  rw [mendGo, if_neg hs, hn]
/-- What mending so many steps, and laying these pages, leaves. -/
def mendX (x : Wd) (steps : Int) (xs : List Int) : Wd × Int × Int :=
  if worldErr x = 0 then
    match mendGo (61 - x.cut.log.length) steps 0 x.cut.h with
    | none => (Wd.zero, 0, 2)
    | some (h, n) => (layL (pagesOf h) xs ⟨x.disk, h.reverse, h.length⟩, n, 0)
  else (Wd.zero, 0, worldErr x)
end Go.Proofs.Ytdbcimadjmdffaa
