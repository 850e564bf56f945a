/- What is written is read as it was, and nothing else is. No condition. -/
import Derived.Test.YtmfjhacgpopijaaEh
import Derived.Test.YtmfjhacgpopijaaOw
import Derived.Test.YtmfjhacgpopijaaOs
import Derived.Test.YtmfjhacgpopijaaP4
set_option linter.unusedSimpArgs false
namespace Go.Proofs.Ytmfjhacgpopijaa.wireBack
open Go.ChangeShapes Go.WideShapes Go.ChangeAt Go.RowKit
set_option maxHeartbeats 4000000 in
theorem closed : joinedFacts Try.pinned.checked.prog 4 Try.f4 Rows.wireBackSpec Rows.wireBackRow = true := by
  have mk : (Try.pinned.checked.prog.make == some Rows.wireBackRow.make) = true := ini.makeb
  have lf : (Rows.wireBackRow.lifted == Try.pinned.checked.prog.liftsFinal) = true := ini.liftsb
  have me : Try.pinned.checked.prog.mayEnter = true := ini.mayEnter
  have lo : laidOutB Try.pinned.checked.prog = true := ini.laidOut
  have mr : mapsRowed Try.pinned.checked.prog = true := ini.rowed
  have he : Try.pinned.checked.prog.stopsHeard = true := ini.heard
  unfold joinedFacts
  simp only [Bool.and_eq_true]
  repeat' with_reducible apply And.intro
  all_goals first | with_reducible assumption | as_aux_lemma => kernel_rfl
set_option maxRecDepth 100000 in
theorem lifted (os : Os) (started : os.Started) (H : Type) (enc : TypeId × Value → H) :
    ReturnsInHanded {} Try.checked os 4 .any (Rows.wireBackSpec.pre6 enc Try.prog Try.f4 Rows.wireBackRow.domain false) (Rows.wireBackSpec.post enc Try.prog Try.f4 false true false false) := by
  refine lifted_of Try.func4 (by kernel_rfl) rfl rfl (fun H ds h => ?_) (by kernel_rfl) os started H enc
    (ChangeSpec.witness6 (enc := enc) (C := Try.checked) false ⟨#[], #[.agg #[.int .i64 0, .int .i64 0, .int .i64 0, .int .i64 0, .int .i64 0, .int .i64 0, .int .i64 0, .int .i64 0, .int .i64 0, .int .i64 0, .int .i64 0, .int .i64 0, .slice none 0 0, .int .i64 0], .string ⟨#[]⟩], []⟩ 8 (by kernel_rfl) (by kernel_rfl) (by kernel_rfl) (by kernel_rfl)) ?_
  · have h' : ds.length = 2 := h.trans (by kernel_rfl)
    match ds, h' with
    | [d1, d2], _ => rfl
  · intro W base args ds p hval hA
    rw [Try.params4] at hA hval
    obtain ⟨v0, vs0, d0, ds0, p0, q0, hargs, rfl, rfl, h0, r0⟩ := trodAll_cons hA
    obtain ⟨v1, vs1, d1, ds1, p1, q1, rfl, rfl, rfl, h1, r1⟩ := trodAll_cons r0
    obtain ⟨rfl, rfl, rfl⟩ := trodAll_nil r1
    obtain rfl : args = #[v0, v1] := by cases args; simp_all
    obtain ⟨x0, A0, b0, o0, c0, rfl, hm0, hc0, hr0⟩ := open_world (hval 0 28 v0 rfl rfl) h0
    obtain ⟨a1, rfl, hb1⟩ := open_str (hval 1 9 v1 rfl rfl) h1
    exact w_WireBack x0 A0 b0 o0 c0 a1 hb1 W hm0 hc0 hr0
theorem proved : Rows.WireBackSaid :=
  OpenClaim.holds_of_wide 4 Try.f4 rfl rfl rfl rfl rfl rfl rfl ⟨rfl, rfl, rfl, rfl, rfl⟩ rfl rfl rfl rfl rfl (by kernel_rfl) Try.func4 closed
    (of_decide_eq_true (by kernel_rfl)) (by unfold Func.isWrapper; first | (rw [if_pos (by decide +kernel)]; kernel_rfl) | (rw [if_neg (by decide +kernel)]; exact ⟨rfl, rfl⟩))
    (fun os started H enc _ => lifted os started H enc)
end Go.Proofs.Ytmfjhacgpopijaa.wireBack
