/- Laws on logs: LogChecks, LogPages, LogStates. No condition. -/
import Derived.Test.YtdbcimadjmdffaaBh
set_option maxRecDepth 100000
set_option linter.unusedVariables false
set_option linter.unusedSimpArgs false
set_option linter.unusedSectionVars false
set_option maxHeartbeats 4000000
namespace Go.Proofs.Ytdbcimadjmdffaa
open Go.RowKit Go.Joins
theorem w_LogChecks (l : List R) (A : Option Addr) (b o c : Nat) (w : World) (hm : l.length ≤ maxLen) (hcap : l.length ≤ c) (hr : RL w A b o l) : Ret Try.prog 7 [.slice A l.length c] w (.bool true) := by
 refine enter Try.func7 rfl Try.ntmps7 rfl SF.top trivial ?_
 refine WC.seq ?_
 refine WC.region ?_
 refine WL.pure (Y.assign rfl) rfl rfl rfl ?_
 refine WL.nil ?_
 refine WQ.next ?_
 refine WC.seq ?_
 refine WC.region ?_
 refine WL.eff (E.call Try.call53 rfl (fun _ w s => w_logBegun w) rfl) rfl (fun _ => ?_)
 refine WL.pure (Y.move rfl) rfl rfl rfl ?_
 refine WL.guardT rfl rfl rfl ?_
 refine WL.pure (Y.move rfl) rfl rfl rfl ?_
 refine WL.guardT rfl rfl rfl ?_
 refine WL.eff (E.call Try.call54 rfl (fun _ w s => w_logCheck l A b o c w (hr.below s.low)) rfl) rfl (fun _ => ?_)
 refine WL.guardT rfl rfl rfl ?_
 refine WL.pure (Y.move rfl) rfl rfl rfl ?_
 refine WL.guardT rfl rfl rfl ?_
 refine WL.eff (E.call Try.call55 rfl (fun _ w s => w_logError l A b o c w hm hcap (hr.below s.low)) rfl) rfl (fun _ => ?_)
 refine WL.guardT rfl rfl rfl ?_
 refine WL.pure (Y.eql rfl rfl) rfl rfl rfl ?_
 refine WL.pure (Y.pickT rfl rfl) rfl rfl rfl ?_
 refine WL.pure (Y.assign rfl) rfl rfl rfl ?_
 refine WL.nil ?_
 refine WQ.next ?_
 refine WC.ret ?_
 refine WQ.done Try.results7 (RVs.cons (RV.tmp rfl) RVs.nil) (fun a w s => ?_)
 · refine ⟨?_, s.low⟩
   simp [packed]

theorem w_LogPages (l : List R) (A : Option Addr) (b o c : Nat) (w : World) (hm : l.length ≤ maxLen) (hcap : l.length ≤ c) (hr : RL w A b o l) : Ret Try.prog 8 [.slice A l.length c] w (.bool true) := by
 refine enter Try.func8 rfl Try.ntmps8 rfl SF.top trivial ?_
 refine WC.seq ?_
 refine WC.region ?_
 refine WL.pure (Y.assign rfl) rfl rfl rfl ?_
 refine WL.nil ?_
 refine WQ.next ?_
 refine WC.seq ?_
 refine WC.region ?_
 refine WL.pure (Y.move rfl) rfl rfl rfl ?_
 refine WL.eff (E.call Try.call56 rfl (fun _ w s => w_logPages l A b o c w (hr.below s.low)) rfl) rfl (fun _ => ?_)
 refine WL.pure (Y.move rfl) rfl rfl rfl ?_
 refine WL.pure (Y.extract rfl rfl) rfl rfl rfl ?_
 refine WL.pure (Y.extract rfl rfl) rfl rfl rfl ?_
 refine WL.eff (E.alloc Try.zeroValue42 rfl rfl) rfl (fun b1 => ?_)
 refine WL.eff (E.store Try.sizeOf42 rfl rfl rfl rfl rfl u0 rfl rfl) rfl (fun _ => ?_)
 refine WL.pure (Y.assign rfl) rfl rfl rfl ?_
 refine WL.nil ?_
 refine WQ.next ?_
 refine WC.seq ?_
 refine WC.region ?_
 refine WL.pure (Y.move rfl) rfl rfl rfl ?_
 refine WL.eff (E.call Try.call57 rfl (fun _ w s => w_docPages l A b o c w hm hcap (hr.below s.low)) rfl) rfl (fun _ => ?_)
 refine WL.pure (Y.move rfl) rfl rfl rfl ?_
 refine WL.pure (Y.extract rfl rfl) rfl rfl rfl ?_
 refine WL.pure (Y.extract rfl rfl) rfl rfl rfl ?_
 refine WL.eff (E.alloc Try.zeroValue42 rfl rfl) rfl (fun b2 => ?_)
 refine WL.eff (E.store Try.sizeOf42 rfl rfl rfl rfl rfl u0 rfl rfl) rfl (fun _ => ?_)
 refine WL.pure (Y.assign rfl) rfl rfl rfl ?_
 refine WL.nil ?_
 refine WQ.next ?_
 refine WC.seq ?_
 refine WC.region ?_
 refine WL.eff (E.call Try.call53 rfl (fun _ w s => w_logBegun w) rfl) rfl (fun _ => ?_)
 refine WL.pure (Y.move rfl) rfl rfl rfl ?_
 refine WL.guardT rfl rfl rfl ?_
 refine WL.val (Y.loadA wd_42 rfl m1 rfl) rfl rfl rfl ?_
 refine WL.guardT rfl rfl rfl ?_
 refine WL.val (Y.loadA wd_42 rfl m0 rfl) rfl rfl rfl ?_
 refine WL.guardT rfl rfl rfl ?_
 refine WL.pure (Y.eqlA Try.eqGuardType42 rfl rfl (weq_pages (logPages l) (logPages l))) rfl rfl rfl ?_
 refine WL.pure (Y.pickT rfl rfl) rfl rfl rfl ?_
 refine WL.pure (Y.move rfl) rfl rfl rfl ?_
 refine WL.known (t := 23) (r := true) rfl (by simp) ?_
 refine WL.guardT rfl rfl rfl ?_
 refine WL.pure (Y.move rfl) rfl rfl rfl ?_
 refine WL.guardT rfl rfl rfl ?_
 refine WL.pure (Y.move rfl) rfl rfl rfl ?_
 refine WL.guardT rfl rfl rfl ?_
 refine WL.pure (Y.eql rfl rfl) rfl rfl rfl ?_
 refine WL.pure (Y.pickT rfl rfl) rfl rfl rfl ?_
 refine WL.pure (Y.assign rfl) rfl rfl rfl ?_
 refine WL.nil ?_
 refine WQ.next ?_
 refine WC.ret ?_
 refine WQ.done Try.results8 (RVs.cons (RV.tmp rfl) RVs.nil) (fun a w s => ?_)
 · refine ⟨?_, s.low⟩
   simp [packed]

theorem w_LogStates (l : List R) (A : Option Addr) (b o c : Nat) (t : Int) (w : World) (hm : l.length ≤ maxLen) (hcap : l.length ≤ c) (hr : RL w A b o l) : Ret Try.prog 9 [.slice A l.length c, .int .i64 t] w (.bool true) := by
 refine enter Try.func9 rfl Try.ntmps9 rfl SF.top trivial ?_
 refine WC.seq ?_
 refine WC.region ?_
 refine WL.pure (Y.assign rfl) rfl rfl rfl ?_
 refine WL.nil ?_
 refine WQ.next ?_
 refine WC.seq ?_
 refine WC.region ?_
 refine WL.pure (Y.move rfl) rfl rfl rfl ?_
 refine WL.pure (Y.move rfl) rfl rfl rfl ?_
 refine WL.eff (E.call Try.call58 rfl (fun _ w s => w_logState l A b o c t w (hr.below s.low)) rfl) rfl (fun _ => ?_)
 refine WL.pure (Y.move rfl) rfl rfl rfl ?_
 refine WL.pure (Y.extract rfl rfl) rfl rfl rfl ?_
 refine WL.pure (Y.extract rfl rfl) rfl rfl rfl ?_
 refine WL.pure (Y.extract rfl rfl) rfl rfl rfl ?_
 refine WL.pure (Y.assign rfl) rfl rfl rfl ?_
 refine WL.pure (Y.assign rfl) rfl rfl rfl ?_
 refine WL.pure (Y.assign rfl) rfl rfl rfl ?_
 refine WL.nil ?_
 refine WQ.next ?_
 refine WC.seq ?_
 refine WC.region ?_
 refine WL.pure (Y.move rfl) rfl rfl rfl ?_
 refine WL.pure (Y.move rfl) rfl rfl rfl ?_
 refine WL.eff (E.call Try.call59 rfl (fun _ w s => w_docState l A b o c t w hm hcap (hr.below s.low)) rfl) rfl (fun _ => ?_)
 refine WL.pure (Y.move rfl) rfl rfl rfl ?_
 refine WL.pure (Y.extract rfl rfl) rfl rfl rfl ?_
 refine WL.pure (Y.extract rfl rfl) rfl rfl rfl ?_
 refine WL.pure (Y.extract rfl rfl) rfl rfl rfl ?_
 refine WL.pure (Y.assign rfl) rfl rfl rfl ?_
 refine WL.pure (Y.assign rfl) rfl rfl rfl ?_
 refine WL.pure (Y.assign rfl) rfl rfl rfl ?_
 refine WL.nil ?_
 refine WQ.next ?_
 refine WC.seq ?_
 refine WC.region ?_
 refine WL.eff (E.call Try.call53 rfl (fun _ w s => w_logBegun w) rfl) rfl (fun _ => ?_)
 refine WL.pure (Y.move rfl) rfl rfl rfl ?_
 refine WL.guardT rfl rfl rfl ?_
 refine WL.pure (Y.move rfl) rfl rfl rfl ?_
 refine WL.guardT rfl rfl rfl ?_
 refine WL.pure (Y.move rfl) rfl rfl rfl ?_
 refine WL.guardT rfl rfl rfl ?_
 refine WL.pure (Y.eql rfl rfl) rfl rfl rfl ?_
 refine WL.pure (Y.pickT rfl rfl) rfl rfl rfl ?_
 refine WL.pure (Y.move rfl) rfl rfl rfl ?_
 refine WL.known (t := 31) (r := true) rfl (by simp) ?_
 refine WL.guardT rfl rfl rfl ?_
 refine WL.pure (Y.move rfl) rfl rfl rfl ?_
 refine WL.guardT rfl rfl rfl ?_
 refine WL.pure (Y.move rfl) rfl rfl rfl ?_
 refine WL.guardT rfl rfl rfl ?_
 refine WL.pure (Y.eql rfl rfl) rfl rfl rfl ?_
 refine WL.pure (Y.pickT rfl rfl) rfl rfl rfl ?_
 refine WL.pure (Y.move rfl) rfl rfl rfl ?_
 refine WL.known (t := 36) (r := true) rfl (by simp) ?_
 refine WL.guardT rfl rfl rfl ?_
 refine WL.pure (Y.move rfl) rfl rfl rfl ?_
 refine WL.guardT rfl rfl rfl ?_
 refine WL.pure (Y.move rfl) rfl rfl rfl ?_
 refine WL.guardT rfl rfl rfl ?_
 refine WL.pure (Y.eql rfl rfl) rfl rfl rfl ?_
 refine WL.pure (Y.pickT rfl rfl) rfl rfl rfl ?_
 refine WL.pure (Y.assign rfl) rfl rfl rfl ?_
 refine WL.nil ?_
 refine WQ.next ?_
 refine WC.ret ?_
 refine WQ.done Try.results9 (RVs.cons (RV.tmp rfl) RVs.nil) (fun a w s => ?_)
 · refine ⟨?_, s.low⟩
   simp [packed]
end Go.Proofs.Ytdbcimadjmdffaa
