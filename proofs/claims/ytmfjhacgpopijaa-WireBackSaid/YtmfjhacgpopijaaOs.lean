/- A string that comes in. No condition. -/
import Derived.Test.YtmfjhacgpopijaaWe
import Derived.ChangeMaps5
set_option linter.unusedVariables false
set_option linter.unusedSimpArgs false
set_option linter.unusedSectionVars false
set_option maxRecDepth 100000
namespace Go.Proofs.Ytmfjhacgpopijaa
open Go.ChangeShapes Go.WideShapes Go.ChangeAt Go.RowKit
theorem open_str {H : Type} {enc : TypeId × Value → H} {w : World} {base : Nat} {spare : Nat → Bool} {held : Bool} {r : Reach} {b0 : Nat} {v : Value} {d : DataW H} {p : List MemPlace} (hv : Value.okWide Try.prog w r b0 9 v) (h : DataW.Trod enc Try.prog w base spare held 9 v d p) : ∃ l : List Int, v = sv l ∧ Bytes l := by
  obtain ⟨s, rfl, _⟩ := Go.ChangeMaps.open_string (P := Try.prog) (t := 9) und9 hv h
  obtain ⟨l, hl, rfl⟩ := str_nums s
  exact ⟨l, rfl, hl⟩
end Go.Proofs.Ytmfjhacgpopijaa
