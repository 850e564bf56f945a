/- Worlds behind a crash, as plain Lean: what is cut is right; Redo tells what the log tells. No condition. -/
import Derived.Test.YtapkelocligmdaaGreatDoorWl
set_option linter.unusedVariables false
set_option linter.unusedSimpArgs false
set_option linter.unusedSectionVars false
namespace Go.Proofs.YtapkelocligmdaaGreatDoor
theorem cut_len {x : Wd} (h : worldErr x = 0) : (x.cut.log.length : Int) = x.safe := by
  obtain ⟨_, _, _, hs, _⟩ := world_right h
  show ((x.log.take x.safe.toNat).length : Int) = x.safe
  rw [List.length_take]
  omega
theorem cut_right {x : Wd} (h : worldErr x = 0) : worldErr x.cut = 0 := by
  obtain ⟨h0, h60, hR, hs, _⟩ := world_right h
  have hl := cut_len h
  refine world_mk (take_right h0 _) ⟨hs.1, ?_⟩ fun p hp => ?_
  · rw [hl]; exact Int.le_refl _
  · obtain ⟨d1, d2⟩ := diskOk_iff.1 (disk_ok h hp)
    refine diskOk_iff.2 ⟨d1, ?_⟩
    show (pagesOf ((x.log.take x.safe.toNat).take (x.disk.get p).last.toNat).reverse).get p = x.disk.get p
    rw [List.take_take, Nat.min_eq_left (by omega)]
    exact d2
/-- A world whose disk tells all. -/
def Wd.laid (x : Wd) : Wd := { x with disk := pagesOf x.h }
end Go.Proofs.YtapkelocligmdaaGreatDoor
