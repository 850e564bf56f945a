/- The closure that Read defers. No condition. -/
import Derived.Test.YtmfjhacgpopijaaEe
set_option maxRecDepth 100000
set_option linter.unusedVariables false
set_option linter.unusedSimpArgs false
set_option linter.unusedSectionVars false
set_option maxHeartbeats 4000000
namespace Go.Proofs.Ytmfjhacgpopijaa
open Go.RowKit Go.Joins
theorem size25 (w : World) : (sizeOf 29).run Try.prog w = .ok 1 w := by kernel_rfl
def z14 : List Value := [.int .i64 0, .int .i64 0, .int .i64 0, .int .i64 0, .int .i64 0, .int .i64 0, .int .i64 0, .int .i64 0, .int .i64 0, .int .i64 0, .int .i64 0, .int .i64 0, .slice none 0 0, .int .i64 0]
theorem put_all {cs : List Value} (h : cs.length = 14) : Proofs.Ytmfjhacgpopijaa.put cs 0 z14 = z14 := by
  match cs, h with
  | [a0, a1, a2, a3, a4, a5, a6, a7, a8, a9, a10, a11, a12, a13], _ => rfl
/-- The panic is caught. -/
theorem w_catch (u : World) (F : SF) (b1 b2 : Nat) (cs : List Value) (v : Value) (h14 : cs.length = 14) (w : World) (hw : Wp u [(b1, cs, 28), (b2, [v], 29)] F w) :
    Shuts Try.prog 19 #[.pointer (some ⟨b1, 0, none⟩), .pointer (some ⟨b2, 0, none⟩)] (.panicking shortP) (.panicking [{ v := .iface 60 (.agg #[]), recovered := true }]) w (Wp u [(b1, z14, 28), (b2, [.int .i64 1], 29)] F) := by
  refine callsD_of_wpS Try.func19 rfl fun c₀ fs hu => ?_
  apply wpS_seq
  apply wpS_region
  simp [wpOpsS, go_sem, recoverD, hu, shortP, Try.ntmps19, Exit.thenS]
  refine wpS_cond (t := true) (by simp [Act.eval, Array.replicate]) ?_
  simp only [if_true]
  refine wpS_of_wp ?_
  refine (show WC Try.prog _ _ [(0, .pointer (some ⟨b1, 0, none⟩)), (1, .pointer (some ⟨b2, 0, none⟩))] 5 [(b1, cs, 28), (b2, [v], 29)] F u from ?_) _ _ ⟨⟨rfl, fun t v ht => ?_, rfl⟩, hw.1, hw.2.1, hw.2.2.1, hw.2.2.2⟩
  · refine WC.region ?_
    refine pP (Y.build rfl (bf_28 )) rfl ?_
    refine WL.eff (E.storeP (cs' := z14) Try.sizeOf28 rfl rfl rfl rfl rfl u0 (by omega) (put_all h14)) rfl (fun _ => ?_)
    refine WL.eff (E.store size25 rfl rfl rfl rfl rfl u1 rfl rfl) rfl (fun _ => ?_)
    refine WL.nil ?_
    exact fun a w s => ⟨s.env.defers, _, rfl, .tuple #[], by simp [results, Try.results19], rfl, ⟨_, rfl⟩, s.wp⟩
  · rcases t with _ | _ | t
    · obtain rfl := Option.some.inj (show some (Value.pointer (some ⟨b1, 0, none⟩)) = some v from ht); rfl
    · obtain rfl := Option.some.inj (show some (Value.pointer (some ⟨b2, 0, none⟩)) = some v from ht); rfl
    · exact absurd (show (none : Option Value) = some v from ht) (by simp)
/-- There is nothing to catch. -/
theorem w_idle (u : World) (H : Hp) (F : SF) (b1 b2 : Nat) (w : World) (hw : Wp u H F w) :
    Shuts Try.prog 19 #[.pointer (some ⟨b1, 0, none⟩), .pointer (some ⟨b2, 0, none⟩)] .returning .returning w (Wp u H F) := by
  refine callsD_of_wpS Try.func19 rfl fun c₀ fs hu => ?_
  apply wpS_seq
  apply wpS_region
  simp [wpOpsS, go_sem, recoverD, hu, Try.ntmps19, Exit.thenS]
  refine wpS_cond (t := false) (by simp [Act.eval, Array.replicate]) ?_
  simp only [Bool.false_eq_true, if_false]
  refine wpS_of_wp (wp_skip ?_)
  cases c₀
  simp_all [bodyPostS, results, Try.results19]
end Go.Proofs.Ytmfjhacgpopijaa
