/- The law LogTrue: wherever a right log is cut, it is right; a state never goes back. No condition. -/
import Derived.Test.YtdbcimadjmdffaaAr
set_option maxRecDepth 100000
set_option linter.unusedVariables false
set_option linter.unusedSimpArgs false
set_option linter.unusedSectionVars false
set_option maxHeartbeats 4000000
namespace Go.Proofs.Ytdbcimadjmdffaa
open Go.RowKit Go.Joins
theorem w_choose (c n : Int) (w : World) (hc : -9223372036854775808 ≤ c ∧ c ≤ 9223372036854775807) (hn : 0 < n) : Ret Try.prog 60 [.int .i64 c, .int .i64 n] w (.int .i64 (chooseI c n)) := by
 refine enter Try.func60 rfl Try.ntmps60 rfl SF.top trivial ?_
 refine WC.seq ?_
 refine WC.region ?_
 refine WL.pure (Y.assign rfl) rfl rfl rfl ?_
 refine WL.nil ?_
 refine WQ.next ?_
 refine WC.seq ?_
 refine WC.seq ?_
 refine WC.region ?_
 refine WL.pure (Y.move rfl) rfl rfl rfl ?_
 refine WL.pure (Y.lss rfl rfl) rfl rfl rfl ?_
 refine WL.nil ?_
 refine WQ.next ?_
 refine WC.cond rfl (fun h6 => ?_) (fun h6 => ?_)
 have h6 := h6
 simp only [decide_eq_true_eq] at h6
 refine WC.region ?_
 refine WL.pure (Y.move rfl) rfl rfl rfl ?_
 refine WL.pure (Y.add rfl rfl (i64_in (by omega) (by omega))) rfl rfl rfl ?_
 refine WL.pure (Y.neg rfl (i64_in (by omega) (by omega))) rfl rfl rfl ?_
 refine WL.pure (Y.assign rfl) rfl rfl rfl ?_
 refine WL.nil ?_
 refine WQ.next ?_
 refine WC.seq ?_
 refine WC.region ?_
 refine WL.pure (Y.move rfl) rfl rfl rfl ?_
 refine WL.pure (Y.move rfl) rfl rfl rfl ?_
 refine WL.pure (Y.rem (j := n) rfl rfl (by omega) rfl) rfl rfl rfl ?_
 refine WL.pure (Y.assign rfl) rfl rfl rfl ?_
 refine WL.nil ?_
 refine WQ.next ?_
 refine WC.ret ?_
 refine WQ.done Try.results60 (RVs.cons (RV.tmp rfl) RVs.nil) (fun a w s => ?_)
 · refine ⟨?_, s.low⟩
   unfold chooseI
   rw [if_pos h6]
   rfl
 refine WC.skip' ?_
 refine WQ.next ?_
 refine WC.seq ?_
 refine WC.region ?_
 refine WL.pure (Y.move rfl) rfl rfl rfl ?_
 refine WL.pure (Y.move rfl) rfl rfl rfl ?_
 refine WL.pure (Y.rem (j := n) rfl rfl (by omega) rfl) rfl rfl rfl ?_
 refine WL.pure (Y.assign rfl) rfl rfl rfl ?_
 refine WL.nil ?_
 refine WQ.next ?_
 refine WC.ret ?_
 refine WQ.done Try.results60 (RVs.cons (RV.tmp rfl) RVs.nil) (fun a w s => ?_)
 · refine ⟨?_, s.low⟩
   unfold chooseI
   have h6 := h6
   simp only [decide_eq_false_iff_not] at h6
   rw [if_neg h6]
   rfl

theorem w_LogTrue (l : List R) (A : Option Addr) (b o c : Nat) (k t : Int) (w : World) (hm : l.length ≤ maxLen) (hcap : l.length ≤ c) (hr : RL w A b o l) (hk : -9223372036854775808 ≤ k ∧ k ≤ 9223372036854775807) (ht0 : -9223372036854775808 ≤ t ∧ t ≤ 9223372036854775807) : Ret Try.prog 10 [.slice A l.length c, .int .i64 k, .int .i64 t] w (.bool true) := by
 have hch := choose_bnd (c := k) (n := (l.length : Int) + 1) (by omega)
 obtain ⟨m, hmk⟩ := Int.eq_ofNat_of_zero_le hch.1
 have hml : m ≤ l.length := by omega
 have hl63 : (l.length : Int) ≤ 9223372036854775807 := by unfold maxLen at hm; omega
 have hlm : (m : Int) = ((l.take m).length : Int) := by simp; omega
 have ht9 := choose_bnd (c := t) (n := 9) (by omega)
 have ht : 1 ≤ 1 + chooseI t 9 ∧ 1 + chooseI t 9 ≤ 9 := by omega
 refine enter Try.func10 rfl Try.ntmps10 rfl SF.top trivial ?_
 refine WC.seq ?_
 refine WC.region ?_
 refine WL.pure (Y.assign rfl) rfl rfl rfl ?_
 refine WL.nil ?_
 refine WQ.next ?_
 refine WC.seq ?_
 refine WC.seq ?_
 refine WC.region ?_
 refine WL.pure (Y.move rfl) rfl rfl rfl ?_
 refine WL.eff (E.call Try.call54 rfl (fun _ w s => w_logCheck l A b o c w (hr.below s.low)) rfl) rfl (fun _ => ?_)
 refine WL.pure (Y.neq rfl rfl) rfl rfl rfl ?_
 refine WL.nil ?_
 refine WQ.next ?_
 refine WC.cond rfl (fun h16 => ?_) (fun h16 => ?_)
 refine WC.seq ?_
 refine WC.region ?_
 refine WL.eff (E.call Try.call53 rfl (fun _ w s => w_logBegun w) rfl) rfl (fun _ => ?_)
 refine WL.pure (Y.assign rfl) rfl rfl rfl ?_
 refine WL.nil ?_
 refine WQ.next ?_
 refine WC.ret ?_
 refine WQ.thenRet ?_
 refine WQ.done Try.results10 (RVs.cons (RV.tmp rfl) RVs.nil) (fun a w s => ?_)
 · refine ⟨?_, s.low⟩
   clear s
   rfl
 refine WC.skip' ?_
 refine WQ.next ?_
 refine WC.seq ?_
 have h16 : logErr l = 0 := by simpa using h16
 have h60 := (log_right h16).1
 have hR := (log_right h16).2
 refine WC.region ?_
 refine WL.pure (Y.move rfl) rfl rfl rfl ?_
 refine WL.pure (Y.move rfl) rfl rfl rfl ?_
 refine WL.pure (Y.len Try.underlying39 rfl) rfl rfl rfl ?_
 refine WL.pure (Y.add rfl rfl (i64_in (by omega) (by omega))) rfl rfl rfl ?_
 refine WL.eff (E.call Try.call60 rfl (fun _ w s => (by have h := w_choose k ((l.length : Int) + 1) w hk (by omega); rw [hmk] at h; exact h)) rfl) rfl (fun _ => ?_)
 refine WL.pure (Y.assign rfl) rfl rfl rfl ?_
 refine WL.nil ?_
 refine WQ.next ?_
 refine WC.seq ?_
 refine WC.draw [(0, .q false), (1, .q false), (2, .q false), (3, .q false), (4, .q true), (5, .q false), (6, .q true), (7, .q false), (8, .q false), (9, .q false), (10, .q false), (11, .q false), (12, .q false), (13, .q false)] mixed (by kernel_rfl) ?_
 refine WDm.quiet (QS.pure (Y.move rfl) rfl rfl) rfl rfl rfl ?_
 refine WDm.quiet (QS.pure (Y.move rfl) rfl rfl) rfl rfl rfl ?_
 refine WDm.quiet (QS.pure (Y.slToN (l.take m).length hlm Try.underlying39 Try.sizeOf34 rfl rfl (by simp; omega)) rfl rfl) rfl rfl rfl ?_
 refine WDm.quiet (QS.pure (Y.move rfl) rfl rfl) rfl rfl rfl ?_
 refine WDm.quiet (QS.call Try.call60 rfl (fun _ w s => w_choose t 9 w ht0 (by omega))) rfl rfl rfl ?_
 refine WDm.quiet (QS.pure (Y.add rfl rfl (i64_in (by omega) (by omega))) rfl rfl) rfl rfl rfl ?_
 refine WDm.quiet (QS.call Try.call58 rfl (fun _ w s => w_logState (l.take m) A b o c (1 + chooseI t 9) w ((hr.below s.low).take m))) rfl rfl rfl ?_
 refine WDm.quiet (QS.pure (Y.move rfl) rfl rfl) rfl rfl rfl ?_
 refine WDm.quiet (QS.pure (Y.extract rfl rfl) rfl rfl) rfl rfl rfl ?_
 refine WDm.quiet (QS.pure (Y.extract rfl rfl) rfl rfl) rfl rfl rfl ?_
 refine WDm.quiet (QS.pure (Y.extract rfl rfl) rfl rfl) rfl rfl rfl ?_
 refine WDm.quiet (QS.pure (Y.assign rfl) rfl rfl) rfl rfl rfl ?_
 refine WDm.quiet (QS.pure (Y.assign rfl) rfl rfl) rfl rfl rfl ?_
 refine WDm.quiet (QS.pure (Y.assign rfl) rfl rfl) rfl rfl rfl ?_
 refine WDm.nil (WQ.and ?_)
 refine WQ.next ?_
 refine WC.seq ?_
 refine WC.region ?_
 refine WL.pure (Y.move rfl) rfl rfl rfl ?_
 refine WL.pure (Y.move rfl) rfl rfl rfl ?_
 refine WL.eff (E.call Try.call60 rfl (fun _ w s => w_choose t 9 w ht0 (by omega)) rfl) rfl (fun _ => ?_)
 refine WL.pure (Y.add rfl rfl (i64_in (by omega) (by omega))) rfl rfl rfl ?_
 refine WL.eff (E.call Try.call58 rfl (fun _ w s => w_logState l A b o c (1 + chooseI t 9) w (hr.below s.low)) rfl) rfl (fun _ => ?_)
 refine WL.pure (Y.move rfl) rfl rfl rfl ?_
 refine WL.pure (Y.extract rfl rfl) rfl rfl rfl ?_
 refine WL.pure (Y.extract rfl rfl) rfl rfl rfl ?_
 refine WL.pure (Y.extract rfl rfl) rfl rfl rfl ?_
 refine WL.pure (Y.assign rfl) rfl rfl rfl ?_
 refine WL.pure (Y.assign rfl) rfl rfl rfl ?_
 refine WL.pure (Y.assign rfl) rfl rfl rfl ?_
 refine WL.nil ?_
 refine WQ.next ?_
 refine WC.seq ?_
 have e1 := logState_ok (take_right h16 m) ht
 have e2 := logState_ok h16 ht
 have hst := stt_drop (l.length - m) hR (1 + chooseI t 9)
 have hla := last_drop (h := l.reverse) (l.length - m) (1 + chooseI t 9)
 have hlb := last_len (l.take m).reverse (1 + chooseI t 9)
 rw [← take_rev] at hst hla
 simp only [List.length_reverse, List.length_take] at hlb
 refine WC.region ?_
 refine WL.eff (E.call Try.call53 rfl (fun _ w s => w_logBegun w) rfl) rfl (fun _ => ?_)
 refine WL.pure (Y.move rfl) rfl rfl rfl ?_
 refine WL.guardT rfl rfl rfl ?_
 refine WL.pure (Y.move rfl) rfl rfl rfl ?_
 refine WL.guardT rfl rfl rfl ?_
 refine WL.pure (Y.move rfl) rfl rfl rfl ?_
 refine WL.guardT rfl rfl rfl ?_
 refine WL.pure (Y.slToN (l.take m).length hlm Try.underlying39 Try.sizeOf34 rfl rfl (by simp; omega)) rfl rfl rfl ?_
 refine WL.guardT rfl rfl rfl ?_
 refine WL.eff (E.call Try.call54 rfl (fun _ w s => w_logCheck (l.take m) A b o c w ((hr.below s.low).take m)) rfl) rfl (fun _ => ?_)
 refine WL.guardT rfl rfl rfl ?_
 refine WL.pure (Y.eql rfl rfl) rfl rfl rfl ?_
 refine WL.pure (Y.pickT rfl rfl) rfl rfl rfl ?_
 refine WL.pure (Y.move rfl) rfl rfl rfl ?_
 refine WL.known (t := 51) (r := true) rfl (by rw [take_right h16 m]; rfl) ?_
 refine WL.guardT rfl rfl rfl ?_
 refine WL.pure (Y.move rfl) rfl rfl rfl ?_
 refine WL.guardT rfl rfl rfl ?_
 refine WL.pure (Y.eql rfl rfl) rfl rfl rfl ?_
 refine WL.pure (Y.pickT rfl rfl) rfl rfl rfl ?_
 refine WL.pure (Y.move rfl) rfl rfl rfl ?_
 refine WL.known (t := 55) (r := true) rfl (by rw [e1]; rfl) ?_
 refine WL.guardT rfl rfl rfl ?_
 refine WL.pure (Y.move rfl) rfl rfl rfl ?_
 refine WL.guardT rfl rfl rfl ?_
 refine WL.pure (Y.eql rfl rfl) rfl rfl rfl ?_
 refine WL.pure (Y.pickT rfl rfl) rfl rfl rfl ?_
 refine WL.pure (Y.move rfl) rfl rfl rfl ?_
 refine WL.known (t := 59) (r := true) rfl (by rw [e2]; rfl) ?_
 refine WL.guardT rfl rfl rfl ?_
 refine WL.pure (Y.move rfl) rfl rfl rfl ?_
 refine WL.guardT rfl rfl rfl ?_
 refine WL.pure (Y.move rfl) rfl rfl rfl ?_
 refine WL.guardT rfl rfl rfl ?_
 refine WL.pure (Y.leq rfl rfl) rfl rfl rfl ?_
 refine WL.pure (Y.pickT rfl rfl) rfl rfl rfl ?_
 refine WL.pure (Y.move rfl) rfl rfl rfl ?_
 refine WL.known (t := 64) (r := true) rfl (by rw [e1, e2]; simp; omega) ?_
 refine WL.guardT rfl rfl rfl ?_
 refine WL.pure (Y.move rfl) rfl rfl rfl ?_
 refine WL.guardT rfl rfl rfl ?_
 refine WL.pure (Y.move rfl) rfl rfl rfl ?_
 refine WL.guardT rfl rfl rfl ?_
 refine WL.pure (Y.leq rfl rfl) rfl rfl rfl ?_
 refine WL.pure (Y.pickT rfl rfl) rfl rfl rfl ?_
 refine WL.pure (Y.move rfl) rfl rfl rfl ?_
 refine WL.known (t := 69) (r := true) rfl (by rw [e1, e2]; simp; omega) ?_
 refine WL.guardT rfl rfl rfl ?_
 refine WL.pure (Y.move rfl) rfl rfl rfl ?_
 refine WL.guardT rfl rfl rfl ?_
 refine WL.pure (Y.move rfl) rfl rfl rfl ?_
 refine WL.guardT rfl rfl rfl ?_
 refine WL.pure (Y.leq rfl rfl) rfl rfl rfl ?_
 refine WL.pure (Y.pickT rfl rfl) rfl rfl rfl ?_
 refine WL.pure (Y.move rfl) rfl rfl rfl ?_
 refine WL.known (t := 74) (r := true) rfl (by rw [e1]; simp; omega) ?_
 refine WL.guardT rfl rfl rfl ?_
 refine WL.pure (Y.move rfl) rfl rfl rfl ?_
 refine WL.guardT rfl rfl rfl ?_
 refine WL.pure (Y.neq rfl rfl) rfl rfl rfl ?_
 refine WL.guardT rfl rfl rfl ?_
 refine WL.pure (Y.move rfl) rfl rfl rfl ?_
 refine WL.split (t := 77) rfl (fun r h77 => ?_)
 cases r
 refine WL.guardT rfl rfl rfl ?_
 refine WL.pure (Y.move rfl) rfl rfl rfl ?_
 refine WL.guardT rfl rfl rfl ?_
 refine WL.pure (Y.neq rfl rfl) rfl rfl rfl ?_
 refine WL.guardT rfl rfl rfl ?_
 refine WL.pure (Y.pickF rfl rfl) rfl rfl rfl ?_
 refine WL.pure (Y.pickT rfl rfl) rfl rfl rfl ?_
 refine WL.pure (Y.assign rfl) rfl rfl rfl ?_
 refine WL.nil ?_
 refine WQ.next ?_
 refine WC.ret ?_
 refine WQ.done Try.results10 (RVs.cons (RV.tmp rfl) RVs.nil) (fun a w s => ?_)
 · refine ⟨?_, s.low⟩
   clear s
   simp only [packed]
   have h77 := h77
   rw [e1] at h77
   rw [e2]
   simp at h77
   have := hst.2 (by omega)
   have e3 : ((stt l.reverse (1 + chooseI t 9) : Int) != 3) = true := by simp; omega
   rw [e3]
 refine WL.guardF rfl rfl rfl rfl rfl rfl ?_
 refine WL.guardF rfl rfl rfl rfl rfl rfl ?_
 refine WL.guardT rfl rfl rfl ?_
 refine WL.pure (Y.pickT rfl rfl) rfl rfl rfl ?_
 refine WL.pure (Y.pickT rfl rfl) rfl rfl rfl ?_
 refine WL.pure (Y.assign rfl) rfl rfl rfl ?_
 refine WL.nil ?_
 refine WQ.next ?_
 refine WC.ret ?_
 refine WQ.done Try.results10 (RVs.cons (RV.tmp rfl) RVs.nil) (fun a w s => ?_)
 · refine ⟨?_, s.low⟩
   clear s
   rfl
end Go.Proofs.Ytdbcimadjmdffaa
