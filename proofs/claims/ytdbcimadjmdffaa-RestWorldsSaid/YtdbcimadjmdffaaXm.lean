/- Small things that the laws on acts share (they stand in texts of other laws, too; those are not imported here). No condition. -/
import Derived.Test.YtdbcimadjmdffaaP4
set_option linter.unusedVariables false
set_option linter.unusedSimpArgs false
set_option linter.unusedSectionVars false
namespace Go.Proofs.Ytdbcimadjmdffaa
open Go.RowKit Go.Joins
theorem own_max {w : World} {base e size k c : Nat} {A : Option Addr} {xs : List Value} (h : w.ownsRow base e size (.slice A k c) k xs) : k ≤ maxLen := by
  rcases h.2 with ⟨hv, hk⟩ | ⟨g, cap, cur, hv, h1, h2, h3, h4, h5, h6⟩
  · subst hk; exact Nat.zero_le _
  · exact Nat.le_trans h3 h4
def P3.row3 (p : P3) (i : Int) : List Value := [.int .i64 (p.get i).c0, .int .i64 (p.get i).c1, .int .i64 (p.get i).c2]
theorem p3_row3 (p : P3) (i : Int) (hi : 0 ≤ i ∧ i ≤ 2) : seg p.cl (0 + i.toNat * 4 + 0) 3 = some (p.row3 i) := by
  have h1 : i = 0 ∨ i = 1 ∨ i = 2 := by omega
  rcases h1 with rfl | rfl | rfl <;> rfl
end Go.Proofs.Ytdbcimadjmdffaa
