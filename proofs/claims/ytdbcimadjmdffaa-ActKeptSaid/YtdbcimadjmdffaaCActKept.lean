/- Who has once committed has won for ever: whatever acts are done then, crashes too; and of those who have not, nothing is left behind a crash. No condition. -/
import Derived.Test.YtdbcimadjmdffaaDf
import Derived.Test.YtdbcimadjmdffaaOx
import Derived.Test.YtdbcimadjmdffaaP4
set_option linter.unusedSimpArgs false
namespace Go.Proofs.Ytdbcimadjmdffaa.actKept
open Go.ChangeShapes Go.WideShapes Go.ChangeAt Go.RowKit
set_option maxHeartbeats 4000000 in
theorem closed : joinedFacts Try.pinned.checked.prog 13 Try.f13 Rows.actKeptSpec Rows.actKeptRow = true := by
  have mk : (Try.pinned.checked.prog.make == some Rows.actKeptRow.make) = true := ini.makeb
  have lf : (Rows.actKeptRow.lifted == Try.pinned.checked.prog.liftsFinal) = true := ini.liftsb
  have me : Try.pinned.checked.prog.mayEnter = true := ini.mayEnter
  have lo : laidOutB Try.pinned.checked.prog = true := ini.laidOut
  have mr : mapsRowed Try.pinned.checked.prog = true := ini.rowed
  have he : Try.pinned.checked.prog.stopsHeard = true := ini.heard
  unfold joinedFacts
  simp only [Bool.and_eq_true]
  repeat' with_reducible apply And.intro
  all_goals first | with_reducible assumption | as_aux_lemma => kernel_rfl
set_option maxRecDepth 100000 in
theorem lifted (os : Os) (started : os.Started) (H : Type) (enc : TypeId × Value → H) :
    ReturnsInHanded {} Try.checked os 13 .any (Rows.actKeptSpec.pre6 enc Try.prog Try.f13 Rows.actKeptRow.domain false) (Rows.actKeptSpec.post enc Try.prog Try.f13 false true false false) := by
  refine lifted_of Try.func13 (by kernel_rfl) rfl rfl (fun H ds h => ?_) (by kernel_rfl) os started H enc
    (ChangeSpec.witness6 (enc := enc) (C := Try.checked) false ⟨#[], #[.agg #[.int .i64 0, .int .i64 0, .int .i64 0, .int .i64 0, .int .i64 0, .int .i64 0, .int .i64 0, .int .i64 0, .int .i64 0, .int .i64 0, .int .i64 0, .int .i64 0, .slice none 0 0, .int .i64 0], .int .i64 0, .slice none 0 0], []⟩ 8 (by kernel_rfl) (by kernel_rfl) (by kernel_rfl) (by kernel_rfl)) ?_
  · have h' : ds.length = 3 := h.trans (by kernel_rfl)
    match ds, h' with
    | [d1, d2, d3], _ => rfl
  · intro W base args ds p hval hA
    rw [Try.params13] at hA hval
    obtain ⟨v0, vs0, d0, ds0, p0, q0, hargs, rfl, rfl, h0, r0⟩ := trodAll_cons hA
    obtain ⟨v1, vs1, d1, ds1, p1, q1, rfl, rfl, rfl, h1, r1⟩ := trodAll_cons r0
    obtain ⟨v2, vs2, d2, ds2, p2, q2, rfl, rfl, rfl, h2, r2⟩ := trodAll_cons r1
    obtain ⟨rfl, rfl, rfl⟩ := trodAll_nil r2
    obtain rfl : args = #[v0, v1, v2] := by cases args; simp_all
    obtain ⟨x0, A0, b0, o0, c0, rfl, hm0, hc0, hr0⟩ := open_world (hval 0 54 v0 rfl rfl) h0
    obtain ⟨a1, rfl, _, _, wf1⟩ := open_int Try.underlying3 (hval 1 3 v1 rfl rfl) h1
    obtain ⟨l2, A2, b2, o2, c2, rfl, hm2, hc2, hp2, hr2⟩ := open_acts (hval 2 55 v2 rfl rfl) h2
    exact w_ActKept x0 A0 b0 o0 c0 a1 l2 A2 b2 o2 c2 W hm0 hc0 hr0 hm2 hr2
theorem proved : Rows.ActKeptSaid :=
  OpenClaim.holds_of_wide 13 Try.f13 rfl rfl rfl rfl rfl rfl rfl ⟨rfl, rfl, rfl, rfl, rfl⟩ rfl rfl rfl rfl rfl (by kernel_rfl) Try.func13 closed
    (of_decide_eq_true (by kernel_rfl)) (by unfold Func.isWrapper; first | (rw [if_pos (by decide +kernel)]; kernel_rfl) | (rw [if_neg (by decide +kernel)]; exact ⟨rfl, rfl⟩))
    (fun os started H enc _ => lifted os started H enc)
end Go.Proofs.Ytdbcimadjmdffaa.actKept
