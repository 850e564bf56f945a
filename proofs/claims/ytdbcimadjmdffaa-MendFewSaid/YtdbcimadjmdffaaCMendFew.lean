/- Just so many records are put as there are Writes that stand, of Txns that hang, and an End for each of these, and for each that has its Commit alone. No condition. -/
import Derived.Test.YtdbcimadjmdffaaCx
import Derived.Test.YtdbcimadjmdffaaOx
import Derived.Test.YtdbcimadjmdffaaP4
set_option linter.unusedSimpArgs false
namespace Go.Proofs.Ytdbcimadjmdffaa.mendFew
open Go.ChangeShapes Go.WideShapes Go.ChangeAt Go.RowKit
theorem closed : joinedFacts Try.pinned.checked.prog 35 Try.f35 Rows.mendFewSpec Rows.mendFewRow = true := by
  have mk : (Try.pinned.checked.prog.make == some Rows.mendFewRow.make) = true := ini.makeb
  have lf : (Rows.mendFewRow.lifted == Try.pinned.checked.prog.liftsFinal) = true := ini.liftsb
  have me : Try.pinned.checked.prog.mayEnter = true := ini.mayEnter
  have lo : laidOutB Try.pinned.checked.prog = true := ini.laidOut
  have mr : mapsRowed Try.pinned.checked.prog = true := ini.rowed
  have he : Try.pinned.checked.prog.stopsHeard = true := ini.heard
  unfold joinedFacts
  simp only [Bool.and_eq_true]
  repeat' with_reducible apply And.intro
  all_goals first | with_reducible assumption | as_aux_lemma => kernel_rfl
set_option maxRecDepth 100000 in
theorem lifted (os : Os) (started : os.Started) (H : Type) (enc : TypeId × Value → H) :
    ReturnsInHanded {} Try.checked os 35 .any (Rows.mendFewSpec.pre6 enc Try.prog Try.f35 Rows.mendFewRow.domain false) (Rows.mendFewSpec.post enc Try.prog Try.f35 false true false false) := by
  refine lifted_of Try.func35 (by kernel_rfl) rfl rfl (fun H ds h => ?_) (by kernel_rfl) os started H enc
    (ChangeSpec.witness6 (enc := enc) (C := Try.checked) false ⟨#[], #[.agg #[.int .i64 0, .int .i64 0, .int .i64 0, .int .i64 0, .int .i64 0, .int .i64 0, .int .i64 0, .int .i64 0, .int .i64 0, .int .i64 0, .int .i64 0, .int .i64 0, .slice none 0 0, .int .i64 0]], []⟩ 8 (by kernel_rfl) (by kernel_rfl) (by kernel_rfl) (by kernel_rfl)) ?_
  · have h' : ds.length = 1 := h.trans (by kernel_rfl)
    match ds, h' with
    | [d1], _ => rfl
  · intro W base args ds p hval hA
    rw [Try.params35] at hA hval
    obtain ⟨v0, vs0, d0, ds0, p0, q0, hargs, rfl, rfl, h0, r0⟩ := trodAll_cons hA
    obtain ⟨rfl, rfl, rfl⟩ := trodAll_nil r0
    obtain rfl : args = #[v0] := by cases args; simp_all
    obtain ⟨x0, A0, b0, o0, c0, rfl, hm0, hc0, hr0⟩ := open_world (hval 0 54 v0 rfl rfl) h0
    exact w_MendFew x0 A0 b0 o0 c0 W hm0 hc0 hr0
theorem proved : Rows.MendFewSaid :=
  OpenClaim.holds_of_wide 35 Try.f35 rfl rfl rfl rfl rfl rfl rfl ⟨rfl, rfl, rfl, rfl, rfl⟩ rfl rfl rfl rfl rfl (by kernel_rfl) Try.func35 closed
    (of_decide_eq_true (by kernel_rfl)) (by unfold Func.isWrapper; first | (rw [if_pos (by decide +kernel)]; kernel_rfl) | (rw [if_neg (by decide +kernel)]; exact ⟨rfl, rfl⟩))
    (fun os started H enc _ => lifted os started H enc)
end Go.Proofs.Ytdbcimadjmdffaa.mendFew
