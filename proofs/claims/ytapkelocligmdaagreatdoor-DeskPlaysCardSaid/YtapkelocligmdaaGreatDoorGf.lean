/- Scripts: must, num. No condition. -/
import Derived.Test.YtapkelocligmdaaGreatDoorDv
set_option maxRecDepth 100000
set_option linter.unusedVariables false
set_option linter.unusedSimpArgs false
set_option linter.unusedSectionVars false
set_option maxHeartbeats 4000000
namespace Go.Proofs.YtapkelocligmdaaGreatDoor
open Go.RowKit Go.Joins
theorem atoi_bnd {s : Str} {v : Int} (h : Lib.atoiAll s = .ok v) : v ≤ 9223372036854775807 := by
  unfold Lib.atoiAll at h
  split at h
  · cases h
  · simp only at h
    split at h
    · cases h
    · cases h
    · split at h
      · cases h
      · split at h
        · cases h
        · simp only [Lib.NumEnd.ok.injEq] at h
          split at h <;> omega

theorem bd_ref (e : Int) (w : World) : (Instr.build 60 #[(0, .int .i64 e)]).run Tryz.prog w = .ok (.agg #[.int .i64 e]) w := by kernel_rfl

theorem w_mustT (b : Bool) (hb : b = true) (e : Int) (w : World) : Ret Tryz.prog 29 [.bool b, .int .i64 e] w (.tuple #[]) := by
 refine enter Tryz.func29 rfl Tryz.ntmps29 rfl SF.top trivial ?_
 refine sR ?_
 refine pM rfl rfl ?_
 refine pP (Y.not rfl) rfl ?_
 refine nN ?_
 refine WC.isF rfl (by rw [hb]; rfl) ?_
 refine WC.skip' ?_
 refine WQ.over Tryz.results29 RVs.nil (fun a w s => ?_)
 · exact ⟨rfl, s.low⟩

theorem w_mustF (b : Bool) (hb : b = false) (e : Int) (w : World) : Die Tryz.prog 29 [.bool b, .int .i64 e] w e := by
 refine enter Tryz.func29 rfl Tryz.ntmps29 rfl SF.top trivial ?_
 refine sR ?_
 refine pM rfl rfl ?_
 refine pP (Y.not rfl) rfl ?_
 refine nN ?_
 refine WC.isT rfl (by rw [hb]; rfl) ?_
 refine WC.region ?_
 refine pM rfl rfl ?_
 refine pP (Y.build rfl (bd_ref e)) rfl ?_
 refine pP (Y.iface (mk_ref e) rfl) rfl ?_
 refine WL.panic rfl ?_
 exact WQ.raised rfl (fun w2 hw => ⟨rfl, hw.2.2.2⟩)

theorem w_deskNum (s9 : Str) (w : World) (hg : Gl w) (hl : s9.length ≤ 1000000) (h0 : 0 ≤ numOf s9) : Ret Tryz.prog 30 [su s9] w (.int .i64 (numOf s9)) := by
 obtain ⟨v, hv, hv6, hd, h6, hat⟩ := num_nat h0
 rw [hv]
 refine enter Tryz.func30 rfl Tryz.ntmps30 rfl SF.top trivial ?_
 refine sR ?_
 refine pA rfl rfl ?_
 refine nN ?_
 refine sR ?_
 refine pM rfl rfl ?_
 refine WL.eff (E.call Tryz.call67 rfl (fun _ w s => l_atoiOk s9 v hat hl w) rfl) rfl (fun _ => ?_)
 refine pM rfl rfl ?_
 refine pP (Y.extract rfl rfl) rfl ?_
 refine pP (Y.extract rfl rfl) rfl ?_
 refine pA rfl rfl ?_
 refine pA rfl rfl ?_
 refine nN ?_
 refine sR ?_
 refine pM rfl rfl ?_
 refine pP (Y.binK (vx := .nilIface) (v := .bool true) rfl rfl (fun w => by kernel_rfl)) rfl ?_
 refine pM rfl rfl ?_
 refine WL.known (t := 12) (r := true) rfl (rfl) ?_
 refine gT rfl ?_
 refine pM rfl rfl ?_
 refine gT rfl ?_
 refine pP (Y.geq rfl rfl) rfl ?_
 refine pP (Y.pickT rfl rfl) rfl ?_
 refine pM rfl rfl ?_
 refine WL.known (t := 16) (r := true) rfl (by rw [decide_eq_true_eq]; omega) ?_
 refine gT rfl ?_
 refine pM rfl rfl ?_
 refine gT rfl ?_
 refine pP (Y.lenU und9 rfl) rfl ?_
 refine gT rfl ?_
 refine pP (Y.leq rfl rfl) rfl ?_
 refine pP (Y.pickT rfl rfl) rfl ?_
 refine pM rfl rfl ?_
 refine WL.known (t := 21) (r := true) rfl (by rw [decide_eq_true_eq]; omega) ?_
 refine gT rfl ?_
 refine pM rfl rfl ?_
 refine gT rfl ?_
 refine WL.eff (E.call Tryz.call25 rfl (fun _ w s => l_itoa v (by omega) w (hg.below s.low)) rfl) rfl (fun _ => ?_)
 refine gT rfl ?_
 refine pM rfl rfl ?_
 refine gT rfl ?_
 refine pP (Y.eqU (a := digs v) (b := s9) rfl rfl rfl) rfl ?_
 refine pP (Y.pickT rfl rfl) rfl ?_
 refine WL.eff (E.call Tryz.call29 rfl (fun _ w s => w_mustT _ (by rw [hd]; simp) 1 w) rfl) rfl (fun _ => ?_)
 refine nN ?_
 refine sR ?_
 refine pM rfl rfl ?_
 refine pA rfl rfl ?_
 refine nN ?_
 refine WC.ret ?_
 refine dn1 Tryz.results30 rfl (fun a w s => ?_)
 · exact ⟨rfl, s.low⟩

theorem w_deskNumBad (s9 : Str) (w : World) (hg : Gl w) (hl : s9.length ≤ 1000000) (hno : ∀ v, Lib.atoiAll s9 ≠ .ok v) : Die Tryz.prog 30 [su s9] w 1 := by
 refine enter Tryz.func30 rfl Tryz.ntmps30 rfl SF.top trivial ?_
 refine sR ?_
 refine pA rfl rfl ?_
 refine nN ?_
 refine sR ?_
 refine pM rfl rfl ?_
 refine WL.eff (E.callN (fun i : Int × TypeId × Value => .tuple #[.int .i64 i.1, .iface i.2.1 i.2.2]) (fun _ => SF.top) Tryz.call67 rfl (fun _ w2 s => (l_atoi s9 hl w2 (hg.below s.low) hno).mono fun e w' ⟨i, he, hb⟩ => ⟨i, he, hb, trivial, fun g hg => hg.elim⟩) rfl) rfl (fun i => ?_)
 refine pM rfl rfl ?_
 refine pP (Y.extract rfl rfl) rfl ?_
 refine pP (Y.extract rfl rfl) rfl ?_
 refine pA rfl rfl ?_
 refine pA rfl rfl ?_
 refine nN ?_
 refine sR ?_
 refine pM rfl rfl ?_
 refine pP (Y.binK (vx := .iface i.2.1 i.2.2) (v := .bool false) rfl rfl (fun w => by kernel_rfl)) rfl ?_
 refine pM rfl rfl ?_
 refine WL.known (t := 12) (r := false) rfl (rfl) ?_
 refine gF rfl ?_
 refine gF rfl ?_
 refine pP (Y.pickF rfl rfl) rfl ?_
 refine pM rfl rfl ?_
 refine gF rfl ?_
 refine gF rfl ?_
 refine gF rfl ?_
 refine pP (Y.pickF rfl rfl) rfl ?_
 refine pM rfl rfl ?_
 refine gF rfl ?_
 refine gF rfl ?_
 refine gF rfl ?_
 refine gF rfl ?_
 refine pP (Y.pickF rfl rfl) rfl ?_
 refine WL.dead Tryz.call29 rfl (fun _ w s => w_mustF _ rfl 1 w) ?_
 refine WQ.thenPanic ?_
 exact WQ.raised rfl (fun w2 hw => ⟨rfl, hw.2.2.2⟩)

theorem w_deskNumOff (s9 : Str) (w : World) (hg : Gl w) (hl : s9.length ≤ 1000000) (v : Int) (hat : Lib.atoiAll s9 = .ok v) (h0 : ¬ 0 ≤ numOf s9) : Die Tryz.prog 30 [su s9] w 1 := by
 refine enter Tryz.func30 rfl Tryz.ntmps30 rfl SF.top trivial ?_
 refine sR ?_
 refine pA rfl rfl ?_
 refine nN ?_
 refine sR ?_
 refine pM rfl rfl ?_
 refine WL.eff (E.call Tryz.call67 rfl (fun _ w s => l_atoiOk s9 v hat hl w) rfl) rfl (fun _ => ?_)
 refine pM rfl rfl ?_
 refine pP (Y.extract rfl rfl) rfl ?_
 refine pP (Y.extract rfl rfl) rfl ?_
 refine pA rfl rfl ?_
 refine pA rfl rfl ?_
 refine nN ?_
 refine sR ?_
 refine pM rfl rfl ?_
 refine pP (Y.binK (vx := .nilIface) (v := .bool true) rfl rfl (fun w => by kernel_rfl)) rfl ?_
 refine pM rfl rfl ?_
 refine WL.known (t := 12) (r := true) rfl (rfl) ?_
 refine gT rfl ?_
 refine pM rfl rfl ?_
 refine gT rfl ?_
 refine pP (Y.geq rfl rfl) rfl ?_
 refine pP (Y.pickT rfl rfl) rfl ?_
 refine pM rfl rfl ?_
 refine WL.split (t := 16) rfl (fun r h16 => ?_)
 cases r
 refine gF rfl ?_
 refine gF rfl ?_
 refine gF rfl ?_
 refine pP (Y.pickF rfl rfl) rfl ?_
 refine pM rfl rfl ?_
 refine gF rfl ?_
 refine gF rfl ?_
 refine gF rfl ?_
 refine gF rfl ?_
 refine pP (Y.pickF rfl rfl) rfl ?_
 refine WL.dead Tryz.call29 rfl (fun _ w s => w_mustF _ (by rfl) 1 w) ?_
 refine WQ.thenPanic ?_
 exact WQ.raised rfl (fun w2 hw => ⟨rfl, hw.2.2.2⟩)
 refine gT rfl ?_
 refine pM rfl rfl ?_
 refine gT rfl ?_
 refine pP (Y.lenU und9 rfl) rfl ?_
 refine gT rfl ?_
 refine pP (Y.leq rfl rfl) rfl ?_
 refine pP (Y.pickT rfl rfl) rfl ?_
 refine pM rfl rfl ?_
 refine WL.split (t := 21) rfl (fun r h21 => ?_)
 cases r
 refine gF rfl ?_
 refine gF rfl ?_
 refine gF rfl ?_
 refine gF rfl ?_
 refine pP (Y.pickF rfl rfl) rfl ?_
 refine WL.dead Tryz.call29 rfl (fun _ w s => w_mustF _ (by rfl) 1 w) ?_
 refine WQ.thenPanic ?_
 exact WQ.raised rfl (fun w2 hw => ⟨rfl, hw.2.2.2⟩)
 refine gT rfl ?_
 refine pM rfl rfl ?_
 obtain ⟨n, hn⟩ : ∃ n : Nat, v = (n : Int) := ⟨v.toNat, by have hh := h16; simp at hh; omega⟩
 subst hn
 have hvb := atoi_bnd hat
 refine gT rfl ?_
 refine WL.eff (E.call Tryz.call25 rfl (fun _ w s => l_itoa n (by omega) w (hg.below s.low)) rfl) rfl (fun _ => ?_)
 refine gT rfl ?_
 refine pM rfl rfl ?_
 refine gT rfl ?_
 refine pP (Y.eqU (a := digs n) (b := s9) rfl rfl rfl) rfl ?_
 refine pP (Y.pickT rfl rfl) rfl ?_
 refine WL.dead Tryz.call29 rfl (fun _ w s => w_mustF _ (by first | rfl | (rw [decide_eq_false_iff_not]; exact fun e => num_neg h0 n ⟨e, by have hh := h21; simp at hh; omega⟩)) 1 w) ?_
 refine WQ.thenPanic ?_
 exact WQ.raised rfl (fun w2 hw => ⟨rfl, hw.2.2.2⟩)

/-- What is no number. -/
theorem w_deskNumDie (s9 : Str) (w : World) (hg : Gl w) (hl : s9.length ≤ 1000000) (h0 : ¬ 0 ≤ numOf s9) : Die Tryz.prog 30 [su s9] w 1 := by
  cases e : Lib.atoiAll s9 with
  | ok v => exact w_deskNumOff s9 w hg hl v e h0
  | range => exact w_deskNumBad s9 w hg hl (fun v h => by rw [e] at h; cases h)
  | _ => exact w_deskNumBad s9 w hg hl (fun v h => by rw [e] at h; cases h)
end Go.Proofs.YtapkelocligmdaaGreatDoor
