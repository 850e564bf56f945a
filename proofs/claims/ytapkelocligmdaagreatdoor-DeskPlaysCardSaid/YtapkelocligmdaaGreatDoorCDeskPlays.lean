/- Whatever script comes in, playing it ends, and answers alike each time. No condition. -/
import Derived.Test.YtapkelocligmdaaGreatDoorQ8
import Derived.Test.YtapkelocligmdaaGreatDoorCards
import Derived.Test.YtapkelocligmdaaGreatDoorTie
import Derived.Lay
import Derived.LaidOnce
import Derived.SevenTiedAt
import Derived.MakeChecks
set_option linter.unusedSimpArgs false
namespace Go.Proofs.YtapkelocligmdaaGreatDoor.deskPlays
open Go.ChangeShapes Go.WideShapes Go.ChangeAt Go.RowKit
set_option maxHeartbeats 4000000 in
theorem closed : joinedFacts Tryz.pinned.checked.prog 3 Tryz.f3 Rows.deskPlaysSpec Rows.deskPlaysRow = true := by
  have mk : (Tryz.pinned.checked.prog.make == some Rows.deskPlaysRow.make) = true := ini.makeb
  have lf : (Rows.deskPlaysRow.lifted == Tryz.pinned.checked.prog.liftsFinal) = true := ini.liftsb
  have me : Tryz.pinned.checked.prog.mayEnter = true := ini.mayEnter
  have lo : laidOutB Tryz.pinned.checked.prog = true := ini.laidOut
  have mr : mapsRowed Tryz.pinned.checked.prog = true := ini.rowed
  have he : Tryz.pinned.checked.prog.stopsHeard = true := ini.heard
  unfold joinedFacts
  simp only [Bool.and_eq_true]
  repeat' with_reducible apply And.intro
  all_goals first | with_reducible assumption | as_aux_lemma => kernel_rfl
set_option maxRecDepth 100000 in
theorem lifted (os : Os) (started : os.Started) (H : Type) (enc : TypeId × Value → H) :
    ReturnsInHanded {} Tryz.checked os 3 .any (fun w args => (Rows.deskPlaysSpec.pre enc Tryz.prog Tryz.f3 [] false w args ∧ laidMetH Tryz.prog Rows.deskPlaysRow.laid w) ∧ sizedMet enc Tryz.prog Tryz.f3 (OpenSpec.ofChange Rows.deskPlaysSpec) false w args)
      (Rows.deskPlaysSpec.post enc Tryz.prog Tryz.f3 false true false false) := by
  refine returns_shaped_and (C := Tryz.checked) (X := fun w _ => laidMetH Tryz.prog Rows.deskPlaysRow.laid w) (fun _ _ _ hh h => h.of_heap hh) own started (by kernel_rfl) Tryz.func3
    (ChangeSpec.witness_shaped (enc := enc) (C := Tryz.checked) (os := os) (X := fun w _ => laidMetH Tryz.prog Rows.deskPlaysRow.laid w) false (World.laidAll Tryz.prog os Rows.deskPlaysRow.laid) #[.string ⟨#[]⟩] 8 (World.laidAll_os _ _ _)
      (World.shaped_of_ZipB (by kernel_rfl) (by kernel_rfl)) (by kernel_rfl) (by kernel_rfl) (by kernel_rfl)
      (by rw [MakeChecks.laidMetH_plain _ _ _ (by kernel_rfl)]; exact laidMet_laidAll _ (by kernel_rfl) (by kernel_rfl))) ?_
  intro W base args ds gs before hval0 hW hsz hL hsh
  have hval : ∀ (j : Nat) t v, Tryz.f3.params[j]? = some t → args[j]? = some v → Value.okWide Tryz.prog W .any base t v := hval0
  obtain ⟨p, q, hA0, hV, hpq, hfz, hnd⟩ := id hW
  have hA : DataW.TrodAll enc Tryz.prog W 0 (fun _ => true) true Tryz.f3.params.toList args.toList ds p := hA0
  rw [Tryz.params3] at hA hval
  obtain ⟨v0, d0, rfl, hds, h0⟩ := trodAll_one hA
  obtain ⟨s0, rfl, hd0, _, _⟩ := Go.ChangeMaps.open_string (P := Tryz.prog) Tryz.underlying9 (hval 0 9 v0 rfl rfl) h0
  have hlen : s0.data.toList.length ≤ 281474976710656 := by
    have h := sized_string hsz (j := 0) (t := 9) (bytes := s0.data.toList) (by kernel_rfl) (by rw [hds, hd0]; rfl)
    have h2 := reachBytes_lt
    omega
  rw [MakeChecks.laidMetH_plain _ _ _ (by kernel_rfl)] at hL
  have hl := w_DeskPlays s0.data.toList W hlen (gl_of hsh hL)
  rw [← su_of] at hl
  refine (hl : Calls Tryz.prog 3 #[.string s0] W _).mono fun e W' ⟨he, hb⟩ => ⟨.bool true, he, ?_⟩
  refine law_post ini.laidOut Tryz.underlying4 rfl rfl (fun ds h => ?_) (by kernel_rfl) hW hb
  have h' : ds.length = 1 := h.trans (by kernel_rfl)
  match ds, h' with
  | [d1], _ => rfl
theorem proved : Rows.DeskPlaysSaid :=
  OpenClaim.holds_of_wide 3 Tryz.f3 rfl rfl rfl rfl rfl rfl rfl ⟨rfl, rfl, rfl, rfl, rfl⟩ rfl rfl rfl rfl rfl (by kernel_rfl) Tryz.func3 closed
    (of_decide_eq_true (by kernel_rfl)) (by unfold Func.isWrapper; first | (rw [if_pos (by decide +kernel)]; kernel_rfl) | (rw [if_neg (by decide +kernel)]; exact ⟨rfl, rfl⟩))
    (fun os started H enc _ => lifted os started H enc)
theorem card_holds : Rows.DeskPlaysCardSaid :=
  Claim7.holds_tied_plain_at .later [] [.data, .data, .data, .data, .sentinel, .sentinel, .pinned] true (true, "a3ecfcdc678f3cb17d1e0cc6f38977925b620d07c0e62f2f0ce79b6af9780ff8") true proved (fun _ h => by cases h) (by kernel_rfl) (fun _ h => by cases h) deskPlays_row_tie rfl ⟨rfl, rfl⟩ (by kernel_rfl) rfl
    (fun f fn hf hfn => by
      obtain rfl : f = 3 := Option.some.inj ((show Tryz.prog.funcNamed "croft/croftlaw.DeskPlays" = some 3 by kernel_rfl).symm.trans hf) |>.symm
      obtain rfl : fn = Tryz.f3 := (Option.some.inj (Tryz.func3.symm.trans hfn)).symm
      exact ⟨by kernel_rfl, fun j t ht => by
        rw [Tryz.params3] at ht
        have hm : t ∈ [9] := by simpa using Array.mem_of_getElem? ht
        have hall : ([9].all fun u => !Tryz.prog.wantsStandIn u) = true := by kernel_rfl
        exact (show Tryz.prog.wantsStandIn t = false by simpa using List.all_eq_true.1 hall t hm)⟩)
    (by kernel_rfl)
end Go.Proofs.YtapkelocligmdaaGreatDoor.deskPlays
