/- However often it crashes while it is mended, it comes to the same. No condition. -/
import Derived.Test.YtdbcimadjmdffaaCy
import Derived.Test.YtdbcimadjmdffaaOx
import Derived.Test.YtdbcimadjmdffaaP4
set_option linter.unusedSimpArgs false
namespace Go.Proofs.Ytdbcimadjmdffaa.mendOften
open Go.ChangeShapes Go.WideShapes Go.ChangeAt Go.RowKit
theorem closed : joinedFacts Try.pinned.checked.prog 34 Try.f34 Rows.mendOftenSpec Rows.mendOftenRow = true := by
  have mk : (Try.pinned.checked.prog.make == some Rows.mendOftenRow.make) = true := ini.makeb
  have lf : (Rows.mendOftenRow.lifted == Try.pinned.checked.prog.liftsFinal) = true := ini.liftsb
  have me : Try.pinned.checked.prog.mayEnter = true := ini.mayEnter
  have lo : laidOutB Try.pinned.checked.prog = true := ini.laidOut
  have mr : mapsRowed Try.pinned.checked.prog = true := ini.rowed
  have he : Try.pinned.checked.prog.stopsHeard = true := ini.heard
  unfold joinedFacts
  simp only [Bool.and_eq_true]
  repeat' with_reducible apply And.intro
  all_goals first | with_reducible assumption | as_aux_lemma => kernel_rfl
set_option maxRecDepth 100000 in
theorem lifted (os : Os) (started : os.Started) (H : Type) (enc : TypeId × Value → H) :
    ReturnsInHanded {} Try.checked os 34 .any (Rows.mendOftenSpec.pre6 enc Try.prog Try.f34 Rows.mendOftenRow.domain false) (Rows.mendOftenSpec.post enc Try.prog Try.f34 false true false false) := by
  refine lifted_of Try.func34 (by kernel_rfl) rfl rfl (fun H ds h => ?_) (by kernel_rfl) os started H enc
    (ChangeSpec.witness6 (enc := enc) (C := Try.checked) false ⟨#[], #[.agg #[.int .i64 0, .int .i64 0, .int .i64 0, .int .i64 0, .int .i64 0, .int .i64 0, .int .i64 0, .int .i64 0, .int .i64 0, .int .i64 0, .int .i64 0, .int .i64 0, .slice none 0 0, .int .i64 0], .slice none 0 0, .int .i64 0], []⟩ 8 (by kernel_rfl) (by kernel_rfl) (by kernel_rfl) (by kernel_rfl)) ?_
  · have h' : ds.length = 3 := h.trans (by kernel_rfl)
    match ds, h' with
    | [d1, d2, d3], _ => rfl
  · intro W base args ds p hval hA
    rw [Try.params34] at hA hval
    obtain ⟨v0, vs0, d0, ds0, p0, q0, hargs, rfl, rfl, h0, r0⟩ := trodAll_cons hA
    obtain ⟨v1, vs1, d1, ds1, p1, q1, rfl, rfl, rfl, h1, r1⟩ := trodAll_cons r0
    obtain ⟨v2, vs2, d2, ds2, p2, q2, rfl, rfl, rfl, h2, r2⟩ := trodAll_cons r1
    obtain ⟨rfl, rfl, rfl⟩ := trodAll_nil r2
    obtain rfl : args = #[v0, v1, v2] := by cases args; simp_all
    obtain ⟨x0, A0, b0, o0, c0, rfl, hm0, hc0, hr0⟩ := open_world (hval 0 54 v0 rfl rfl) h0
    obtain ⟨l1, A1, b1, o1, c1, rfl, hm1, hc1, hp1, hr1⟩ := open_ints (hval 1 64 v1 rfl rfl) h1
    obtain ⟨a2, rfl, _, _, wf2⟩ := open_int Try.underlying3 (hval 2 3 v2 rfl rfl) h2
    exact w_MendOften x0 A0 b0 o0 c0 l1 A1 b1 o1 c1 a2 W hr1 hm1 hp1 (wf_i64 wf2) hm0 hc0 hr0
theorem proved : Rows.MendOftenSaid :=
  OpenClaim.holds_of_wide 34 Try.f34 rfl rfl rfl rfl rfl rfl rfl ⟨rfl, rfl, rfl, rfl, rfl⟩ rfl rfl rfl rfl rfl (by kernel_rfl) Try.func34 closed
    (of_decide_eq_true (by kernel_rfl)) (by unfold Func.isWrapper; first | (rw [if_pos (by decide +kernel)]; kernel_rfl) | (rw [if_neg (by decide +kernel)]; exact ⟨rfl, rfl⟩))
    (fun os started H enc _ => lifted os started H enc)
end Go.Proofs.Ytdbcimadjmdffaa.mendOften
