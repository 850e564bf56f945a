/- What one Txn does turns no state of another one, nor what its last record is. No condition. -/
import Derived.Test.YtdbcimadjmdffaaCi
import Derived.Test.YtdbcimadjmdffaaOw
import Derived.Test.YtdbcimadjmdffaaP4
set_option linter.unusedSimpArgs false
namespace Go.Proofs.Ytdbcimadjmdffaa.workAlone
open Go.ChangeShapes Go.WideShapes Go.ChangeAt Go.RowKit
theorem closed : joinedFacts Try.pinned.checked.prog 29 Try.f29 Rows.workAloneSpec Rows.workAloneRow = true := by
  have mk : (Try.pinned.checked.prog.make == some Rows.workAloneRow.make) = true := ini.makeb
  have lf : (Rows.workAloneRow.lifted == Try.pinned.checked.prog.liftsFinal) = true := ini.liftsb
  have me : Try.pinned.checked.prog.mayEnter = true := ini.mayEnter
  have lo : laidOutB Try.pinned.checked.prog = true := ini.laidOut
  have mr : mapsRowed Try.pinned.checked.prog = true := ini.rowed
  have he : Try.pinned.checked.prog.stopsHeard = true := ini.heard
  unfold joinedFacts
  simp only [Bool.and_eq_true]
  repeat' with_reducible apply And.intro
  all_goals first | with_reducible assumption | as_aux_lemma => kernel_rfl
set_option maxRecDepth 100000 in
theorem lifted (os : Os) (started : os.Started) (H : Type) (enc : TypeId × Value → H) :
    ReturnsInHanded {} Try.checked os 29 .any (Rows.workAloneSpec.pre6 enc Try.prog Try.f29 Rows.workAloneRow.domain false) (Rows.workAloneSpec.post enc Try.prog Try.f29 false true false false) := by
  refine lifted_of Try.func29 (by kernel_rfl) rfl rfl (fun H ds h => ?_) (by kernel_rfl) os started H enc
    (ChangeSpec.witness6 (enc := enc) (C := Try.checked) false ⟨#[], #[.agg #[.int .i64 0, .int .i64 0, .int .i64 0, .int .i64 0, .int .i64 0, .int .i64 0, .int .i64 0, .int .i64 0, .int .i64 0, .int .i64 0, .int .i64 0, .int .i64 0, .slice none 0 0, .int .i64 0], .int .i64 0, .int .i64 0, .int .i64 0, .int .i64 0, .int .i64 0], []⟩ 8 (by kernel_rfl) (by kernel_rfl) (by kernel_rfl) (by kernel_rfl)) ?_
  · have h' : ds.length = 6 := h.trans (by kernel_rfl)
    match ds, h' with
    | [d1, d2, d3, d4, d5, d6], _ => rfl
  · intro W base args ds p hval hA
    rw [Try.params29] at hA hval
    obtain ⟨v0, vs0, d0, ds0, p0, q0, hargs, rfl, rfl, h0, r0⟩ := trodAll_cons hA
    obtain ⟨v1, vs1, d1, ds1, p1, q1, rfl, rfl, rfl, h1, r1⟩ := trodAll_cons r0
    obtain ⟨v2, vs2, d2, ds2, p2, q2, rfl, rfl, rfl, h2, r2⟩ := trodAll_cons r1
    obtain ⟨v3, vs3, d3, ds3, p3, q3, rfl, rfl, rfl, h3, r3⟩ := trodAll_cons r2
    obtain ⟨v4, vs4, d4, ds4, p4, q4, rfl, rfl, rfl, h4, r4⟩ := trodAll_cons r3
    obtain ⟨v5, vs5, d5, ds5, p5, q5, rfl, rfl, rfl, h5, r5⟩ := trodAll_cons r4
    obtain ⟨rfl, rfl, rfl⟩ := trodAll_nil r5
    obtain rfl : args = #[v0, v1, v2, v3, v4, v5] := by cases args; simp_all
    obtain ⟨x0, A0, b0, o0, c0, rfl, hm0, hc0, hr0⟩ := open_world (hval 0 54 v0 rfl rfl) h0
    obtain ⟨a1, rfl, _, _, wf1⟩ := open_int Try.underlying3 (hval 1 3 v1 rfl rfl) h1
    obtain ⟨a2, rfl, _, _, wf2⟩ := open_int Try.underlying3 (hval 2 3 v2 rfl rfl) h2
    obtain ⟨a3, rfl, _, _, wf3⟩ := open_int Try.underlying3 (hval 3 3 v3 rfl rfl) h3
    obtain ⟨a4, rfl, _, _, wf4⟩ := open_int Try.underlying3 (hval 4 3 v4 rfl rfl) h4
    obtain ⟨a5, rfl, _, _, wf5⟩ := open_int Try.underlying3 (hval 5 3 v5 rfl rfl) h5
    exact w_WorkAlone x0 A0 b0 o0 c0 a1 a2 a3 a4 a5 W hm0 hc0 hr0 (wf_i64 wf5)
theorem proved : Rows.WorkAloneSaid :=
  OpenClaim.holds_of_wide 29 Try.f29 rfl rfl rfl rfl rfl rfl rfl ⟨rfl, rfl, rfl, rfl, rfl⟩ rfl rfl rfl rfl rfl (by kernel_rfl) Try.func29 closed
    (of_decide_eq_true (by kernel_rfl)) (by unfold Func.isWrapper; first | (rw [if_pos (by decide +kernel)]; kernel_rfl) | (rw [if_neg (by decide +kernel)]; exact ⟨rfl, rfl⟩))
    (fun os started H enc _ => lifted os started H enc)
end Go.Proofs.Ytdbcimadjmdffaa.workAlone
