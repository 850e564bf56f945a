/- Logs: what Check, Pages and State return, and what the document says. No condition. -/
import Derived.Test.YtdbcimadjmdffaaBf
set_option maxRecDepth 100000
set_option linter.unusedVariables false
set_option linter.unusedSimpArgs false
set_option linter.unusedSectionVars false
set_option maxHeartbeats 4000000
namespace Go.Proofs.Ytdbcimadjmdffaa
open Go.RowKit Go.Joins
def logPages (l : List R) : P3 := if logErr l = 0 then pagesOf l.reverse else P3.zero
def logState (l : List R) (t : Int) : Int × Int × Int := if logErr l = 0 then (if wi t 1 9 then ((stt l.reverse t : Int), (lastN l.reverse t : Int), 0) else (0, 0, 3)) else (0, 0, logErr l)
theorem log_right {l : List R} (h : logErr l = 0) : l.length ≤ 60 ∧ Right l.reverse := by
  unfold logErr at h
  split at h
  · exact ⟨by assumption, h⟩
  · omega
section
variable [Inhabited DSx] {Q : Exit → Act → World → Prop} {E : Env} {n : Nat} {H : Hp} {F G : SF} {u : World}
theorem E.read {f : FuncId} {args : Array Operand} {ts : Array TypeId} {d : Nat} {T' : TypeId} {p : String} {af : Array Edge} {Hl : Hp} (Hx : Hp) (l : List R) (A : Option Addr) (b o c : Nat) (hf : f = 121) (hr : ∀ w, Wp u H F w → RL w A b o l) (hH : H = Hx ++ Hl)
    (hx : evs E args.toList = some [.slice A l.length c]) (hn : Nat.blt d n = true) :
    Eff Try.prog E n H F u ⟨some d, .call { callee := .value (.func f), args := args, argTypes := ts }, T', p, af, none⟩ (fun i : {B : Bk // logErr l = 0 → BOk B l.reverse} => (d, .tuple #[i.1.ptr, .int .i64 (logErr l)]) :: E) (fun i => Hx ++ (i.1.hp ++ Hl)) (fun i => (SF.bk u.heap.size i.1).sep F) := by
  subst hf
  refine Proofs.Ytdbcimadjmdffaa.E.callM _ _ _ Try.call121 hx (fun w hw => ?_) hn
  refine (w_read u H F l A b o c w hw hr).mono fun e w' ⟨i, he, hw'⟩ => ⟨i, he, hw'.sub ?_⟩
  rw [hH]
  refine Hsub.of_perm ?_
  rw [← List.append_assoc, ← List.append_assoc]
  exact List.perm_append_comm.append_right Hl
end

theorem w_logCheck (l : List R) (A : Option Addr) (b o c : Nat) (w : World) (hr : RL w A b o l) : Ret Try.prog 54 [.slice A l.length c] w (.int .i64 (logErr l)) := by
 refine enter Try.func54 rfl Try.ntmps54 rfl SF.top trivial ?_
 refine WC.seq ?_
 refine WC.region ?_
 refine WL.pure (Y.assign rfl) rfl rfl rfl ?_
 refine WL.nil ?_
 refine WQ.next ?_
 refine WC.seq ?_
 refine WC.region ?_
 refine WL.pure (Y.move rfl) rfl rfl rfl ?_
 refine WL.eff (E.read [] l A b o c rfl (fun w hw => hr.below hw.2.2.2) rfl rfl rfl) rfl (fun i => ?_)
 refine WL.pure (Y.move rfl) rfl rfl rfl ?_
 refine WL.pure (Y.extract rfl rfl) rfl rfl rfl ?_
 refine WL.pure (Y.extract rfl rfl) rfl rfl rfl ?_
 refine WL.pure (Y.assign rfl) rfl rfl rfl ?_
 refine WL.pure (Y.assign rfl) rfl rfl rfl ?_
 refine WL.nil ?_
 refine WQ.next ?_
 refine WC.seq ?_
 refine WC.region ?_
 refine WL.pure (Y.move rfl) rfl rfl rfl ?_
 refine WL.pure (Y.assign rfl) rfl rfl rfl ?_
 refine WL.nil ?_
 refine WQ.next ?_
 refine WC.ret ?_
 refine WQ.done Try.results54 (RVs.cons (RV.tmp rfl) RVs.nil) (fun a w s => ?_)
 · exact ⟨rfl, s.low⟩

theorem w_logPages (l : List R) (A : Option Addr) (b o c : Nat) (w : World) (hr : RL w A b o l) : Ret Try.prog 56 [.slice A l.length c] w (.tuple #[(logPages l).val, .int .i64 (logErr l)]) := by
 refine enter Try.func56 rfl Try.ntmps56 rfl SF.top trivial ?_
 refine WC.seq ?_
 refine WC.region ?_
 refine WL.eff (E.alloc Try.zeroValue42 rfl rfl) rfl (fun b1 => ?_)
 refine WL.pure (Y.assign rfl) rfl rfl rfl ?_
 refine WL.nil ?_
 refine WQ.next ?_
 refine WC.seq ?_
 refine WC.region ?_
 refine WL.pure (Y.move rfl) rfl rfl rfl ?_
 refine WL.eff (E.read [_] l A b o c rfl (fun w hw => hr.below hw.2.2.2) rfl rfl rfl) rfl (fun i => ?_)
 obtain ⟨B, hB⟩ := i
 dsimp only
 refine WL.pure (Y.move rfl) rfl rfl rfl ?_
 refine WL.pure (Y.extract rfl rfl) rfl rfl rfl ?_
 refine WL.pure (Y.extract rfl rfl) rfl rfl rfl ?_
 refine WL.pure (Y.assign rfl) rfl rfl rfl ?_
 refine WL.pure (Y.assign rfl) rfl rfl rfl ?_
 refine WL.nil ?_
 refine WQ.next ?_
 refine WC.seq ?_
 refine WC.seq ?_
 refine WC.region ?_
 refine WL.pure (Y.move rfl) rfl rfl rfl ?_
 refine WL.pure (Y.neq rfl rfl) rfl rfl rfl ?_
 refine WL.nil ?_
 refine WQ.next ?_
 refine WC.cond rfl (fun h12 => ?_) (fun h12 => ?_)
 refine WC.seq ?_
 refine WC.region ?_
 refine WL.pure (Y.build rfl (bf_42 )) rfl rfl rfl ?_
 refine WL.pure (Y.move rfl) rfl rfl rfl ?_
 refine WL.eff (E.store Try.sizeOf42 rfl rfl rfl rfl rfl u0 rfl rfl) rfl (fun _ => ?_)
 refine WL.pure (Y.assign rfl) rfl rfl rfl ?_
 refine WL.nil ?_
 refine WQ.next ?_
 refine WC.ret ?_
 refine WQ.thenRet ?_
 refine WQ.done Try.results56 (RVs.cons (RV.cell wd_42 rfl m0 rfl) (RVs.cons (RV.tmp rfl) RVs.nil)) (fun a w s => ?_)
 · have h12 := h12
   refine ⟨?_, s.low⟩
   clear s
   simp at h12
   have e : logPages l = P3.zero := by unfold logPages; rw [if_neg h12]
   rw [e]
   rfl
 refine WC.skip' ?_
 refine WQ.next ?_
 refine WC.seq ?_
 refine WC.region ?_
 refine WL.pure (Y.move rfl) rfl rfl rfl ?_
 refine WL.pure (Y.nilCheck rfl) rfl rfl rfl ?_
 refine WL.pure (Y.fieldAddr fa_112_1 rfl) rfl rfl rfl ?_
 refine WL.val (Y.loadAN wd_42 rfl m1 (r := B.pg.cl) rfl) rfl rfl rfl ?_
 refine WL.eff (E.store Try.sizeOf42 rfl rfl rfl rfl rfl u0 rfl rfl) rfl (fun _ => ?_)
 refine WL.pure (Y.assign rfl) rfl rfl rfl ?_
 refine WL.nil ?_
 refine WQ.next ?_
 refine WC.ret ?_
 refine WQ.done Try.results56 (RVs.cons (RV.cell wd_42 rfl m0 rfl) (RVs.cons (RV.tmp rfl) RVs.nil)) (fun a w s => ?_)
 · have h12 := h12
   refine ⟨?_, s.low⟩
   clear s
   simp at h12
   have e : logPages l = B.pg := by unfold logPages; rw [if_pos h12]; exact (hB h12).pg.symm
   rw [e, h12]
   rfl

theorem w_logState (l : List R) (A : Option Addr) (b o c : Nat) (t : Int) (w : World) (hr : RL w A b o l) : Ret Try.prog 58 [.slice A l.length c, .int .i64 t] w (.tuple #[.int .i64 (logState l t).1, .int .i64 (logState l t).2.1, .int .i64 (logState l t).2.2]) := by
 refine enter Try.func58 rfl Try.ntmps58 rfl SF.top trivial ?_
 refine WC.seq ?_
 refine WC.region ?_
 refine WL.pure (Y.assign rfl) rfl rfl rfl ?_
 refine WL.pure (Y.assign rfl) rfl rfl rfl ?_
 refine WL.pure (Y.assign rfl) rfl rfl rfl ?_
 refine WL.nil ?_
 refine WQ.next ?_
 refine WC.seq ?_
 refine WC.region ?_
 refine WL.pure (Y.move rfl) rfl rfl rfl ?_
 refine WL.eff (E.read [] l A b o c rfl (fun w hw => hr.below hw.2.2.2) rfl rfl rfl) rfl (fun i => ?_)
 obtain ⟨B, hB⟩ := i
 dsimp only
 refine WL.pure (Y.move rfl) rfl rfl rfl ?_
 refine WL.pure (Y.extract rfl rfl) rfl rfl rfl ?_
 refine WL.pure (Y.extract rfl rfl) rfl rfl rfl ?_
 refine WL.pure (Y.assign rfl) rfl rfl rfl ?_
 refine WL.pure (Y.assign rfl) rfl rfl rfl ?_
 refine WL.nil ?_
 refine WQ.next ?_
 refine WC.seq ?_
 refine WC.seq ?_
 refine WC.region ?_
 refine WL.pure (Y.move rfl) rfl rfl rfl ?_
 refine WL.pure (Y.neq rfl rfl) rfl rfl rfl ?_
 refine WL.nil ?_
 refine WQ.next ?_
 refine WC.cond rfl (fun h16 => ?_) (fun h16 => ?_)
 refine WC.seq ?_
 refine WC.region ?_
 refine WL.pure (Y.move rfl) rfl rfl rfl ?_
 refine WL.pure (Y.assign rfl) rfl rfl rfl ?_
 refine WL.pure (Y.assign rfl) rfl rfl rfl ?_
 refine WL.pure (Y.assign rfl) rfl rfl rfl ?_
 refine WL.nil ?_
 refine WQ.next ?_
 refine WC.ret ?_
 refine WQ.thenRet ?_
 refine WQ.done Try.results58 (RVs.cons (RV.tmp rfl) (RVs.cons (RV.tmp rfl) (RVs.cons (RV.tmp rfl) RVs.nil))) (fun a w s => ?_)
 · refine ⟨?_, s.low⟩
   clear s
   have e : logState l t = (0, 0, logErr l) := by unfold logState; simp at h16; rw [if_neg h16]
   rw [e]
   rfl
 refine WC.skip' ?_
 refine WQ.next ?_
 refine WC.seq ?_
 refine WC.seq ?_
 refine WC.region ?_
 refine WL.pure (Y.move rfl) rfl rfl rfl ?_
 refine WL.pure (Y.lss rfl rfl) rfl rfl rfl ?_
 refine WL.pure (Y.move rfl) rfl rfl rfl ?_
 refine WL.split (t := 20) rfl (fun r h20 => ?_)
 cases r
 refine WL.guardT rfl rfl rfl ?_
 refine WL.pure (Y.move rfl) rfl rfl rfl ?_
 refine WL.guardT rfl rfl rfl ?_
 refine WL.pure (Y.gtr rfl rfl) rfl rfl rfl ?_
 refine WL.pure (Y.pickF rfl rfl) rfl rfl rfl ?_
 refine WL.nil ?_
 refine WQ.next ?_
 refine WC.cond rfl (fun h23 => ?_) (fun h23 => ?_)
 refine WC.seq ?_
 refine WC.region ?_
 refine WL.pure (Y.assign rfl) rfl rfl rfl ?_
 refine WL.pure (Y.assign rfl) rfl rfl rfl ?_
 refine WL.pure (Y.assign rfl) rfl rfl rfl ?_
 refine WL.nil ?_
 refine WQ.next ?_
 refine WC.ret ?_
 refine WQ.thenRet ?_
 refine WQ.done Try.results58 (RVs.cons (RV.tmp rfl) (RVs.cons (RV.tmp rfl) (RVs.cons (RV.tmp rfl) RVs.nil))) (fun a w s => ?_)
 · refine ⟨?_, s.low⟩
   clear s
   have e : logState l t = (0, 0, 3) := by unfold logState; simp at h16; rw [if_pos h16, if_neg (by simp [wi] at *; omega)]
   rw [e]
   rfl
 refine WC.skip' ?_
 refine WQ.next ?_
 refine WC.seq ?_
 have h16 := h16
 simp at h16
 have hB2 := hB h16
 have hR := (log_right h16).2
 refine WC.region ?_
 refine WL.pure (Y.move rfl) rfl rfl rfl ?_
 refine WL.pure (Y.move rfl) rfl rfl rfl ?_
 refine WL.eff (E.of [] rfl rfl rfl rfl rfl) rfl (fun i => ?_)
 obtain ⟨⟨B1, x, K⟩, hOf, hK⟩ := i
 obtain ⟨hB1, hst, hla, hup⟩ := hB2.of hOf
 dsimp only at hst hla hup ⊢
 refine WL.pure (Y.assign rfl) rfl rfl rfl ?_
 refine WL.nil ?_
 refine WQ.next ?_
 refine WC.seq ?_
 refine WC.drop [4, 5, 6] ?_
 refine WC.draw [(0, .q false), (1, .q false), (2, .q false), (3, .q true), (4, .q false), (5, .q false), (6, .q false), (7, .q true), (8, .q false), (9, .q false), (10, .q false)] mixed (by kernel_rfl) ?_
 refine WDm.quiet (QS.pure (Y.move rfl) rfl rfl) rfl rfl rfl ?_
 refine WDm.quiet (QS.pure (Y.nilCheck rfl) rfl rfl) rfl rfl rfl ?_
 refine WDm.quiet (QS.pure (Y.fieldAddr fa_117_0 rfl) rfl rfl) rfl rfl rfl ?_
 refine WDm.quiet (QS.val (Y.load fl_3 rfl m0 rfl) rfl rfl) rfl rfl rfl ?_
 refine WDm.quiet (QS.pure (Y.move rfl) rfl rfl) rfl rfl rfl ?_
 refine WDm.quiet (QS.pure (Y.nilCheck rfl) rfl rfl) rfl rfl rfl ?_
 refine WDm.quiet (QS.pure (Y.fieldAddr fa_117_1 rfl) rfl rfl) rfl rfl rfl ?_
 refine WDm.quiet (QS.val (Y.load fl_3 rfl m0 rfl) rfl rfl) rfl rfl rfl ?_
 refine WDm.quiet (QS.pure (Y.assign rfl) rfl rfl) rfl rfl rfl ?_
 refine WDm.quiet (QS.pure (Y.assign rfl) rfl rfl) rfl rfl rfl ?_
 refine WDm.quiet (QS.pure (Y.assign rfl) rfl rfl) rfl rfl rfl ?_
 refine WDm.nil (WQ.and ?_)
 refine WQ.next ?_
 refine WC.ret ?_
 refine WQ.done Try.results58 (RVs.cons (RV.tmp rfl) (RVs.cons (RV.tmp rfl) (RVs.cons (RV.tmp rfl) RVs.nil))) (fun a w s => ?_)
 · refine ⟨?_, s.low⟩
   clear s
   have e : logState l t = ((stt l.reverse t : Int), (lastN l.reverse t : Int), 0) := by unfold logState; rw [if_pos h16, if_pos (by simp [wi] at *; omega)]
   rw [e, ← hR.st, ← hla, ← hst]
   rfl
 refine WL.guardF rfl rfl rfl rfl rfl rfl ?_
 refine WL.guardF rfl rfl rfl rfl rfl rfl ?_
 refine WL.pure (Y.pickT rfl rfl) rfl rfl rfl ?_
 refine WL.nil ?_
 refine WQ.next ?_
 refine WC.condT rfl ?_
 refine WC.seq ?_
 refine WC.region ?_
 refine WL.pure (Y.assign rfl) rfl rfl rfl ?_
 refine WL.pure (Y.assign rfl) rfl rfl rfl ?_
 refine WL.pure (Y.assign rfl) rfl rfl rfl ?_
 refine WL.nil ?_
 refine WQ.next ?_
 refine WC.ret ?_
 refine WQ.thenRet ?_
 refine WQ.done Try.results58 (RVs.cons (RV.tmp rfl) (RVs.cons (RV.tmp rfl) (RVs.cons (RV.tmp rfl) RVs.nil))) (fun a w s => ?_)
 · refine ⟨?_, s.low⟩
   clear s
   have e : logState l t = (0, 0, 3) := by unfold logState; simp at h16; rw [if_pos h16, if_neg (by simp [wi] at *; omega)]
   rw [e]
   rfl

theorem w_docPages (l : List R) (A : Option Addr) (b o c : Nat) (w : World) (hm : l.length ≤ maxLen) (hcap : l.length ≤ c) (hr : RL w A b o l) : Ret Try.prog 57 [.slice A l.length c] w (.tuple #[(logPages l).val, .int .i64 (logErr l)]) := by
 refine enter Try.func57 rfl Try.ntmps57 rfl SF.top trivial ?_
 refine WC.seq ?_
 refine WC.region ?_
 refine WL.eff (E.alloc Try.zeroValue42 rfl rfl) rfl (fun b1 => ?_)
 refine WL.pure (Y.assign rfl) rfl rfl rfl ?_
 refine WL.nil ?_
 refine WQ.next ?_
 refine WC.seq ?_
 refine WC.seq ?_
 refine WC.region ?_
 refine WL.pure (Y.move rfl) rfl rfl rfl ?_
 refine WL.eff (E.call Try.call55 rfl (fun _ w s => w_logError l A b o c w hm hcap (hr.below s.low)) rfl) rfl (fun _ => ?_)
 refine WL.pure (Y.assign rfl) rfl rfl rfl ?_
 refine WL.nil ?_
 refine WQ.next ?_
 refine WC.seq ?_
 refine WC.region ?_
 refine WL.pure (Y.move rfl) rfl rfl rfl ?_
 refine WL.pure (Y.neq rfl rfl) rfl rfl rfl ?_
 refine WL.nil ?_
 refine WQ.next ?_
 refine WC.cond rfl (fun h8 => ?_) (fun h8 => ?_)
 refine WC.seq ?_
 refine WC.region ?_
 refine WL.pure (Y.build rfl (bf_42 )) rfl rfl rfl ?_
 refine WL.pure (Y.move rfl) rfl rfl rfl ?_
 refine WL.eff (E.store Try.sizeOf42 rfl rfl rfl rfl rfl u0 rfl rfl) rfl (fun _ => ?_)
 refine WL.pure (Y.assign rfl) rfl rfl rfl ?_
 refine WL.nil ?_
 refine WQ.next ?_
 refine WC.ret ?_
 refine WQ.thenRet ?_
 refine WQ.done Try.results57 (RVs.cons (RV.cell wd_42 rfl m0 rfl) (RVs.cons (RV.tmp rfl) RVs.nil)) (fun a w s => ?_)
 · refine ⟨?_, s.low⟩
   clear s
   have e : logPages l = P3.zero := by unfold logPages; simp at h8; rw [if_neg h8]
   rw [e]
   rfl
 refine WC.skip' ?_
 refine WQ.next ?_
 refine WC.seq ?_
 have h8 := h8
 simp at h8
 obtain ⟨hle, hR⟩ := log_right h8
 refine WC.region ?_
 refine WL.pure (Y.move rfl) rfl rfl rfl ?_
 refine WL.eff (E.call Try.call123 rfl (fun _ w s => w_pages l A b o c w hle (hr.below s.low) hR.inR.rev) rfl) rfl (fun _ => ?_)
 refine WL.eff (E.store Try.sizeOf42 rfl rfl rfl rfl rfl u0 rfl rfl) rfl (fun _ => ?_)
 refine WL.pure (Y.assign rfl) rfl rfl rfl ?_
 refine WL.nil ?_
 refine WQ.next ?_
 refine WC.ret ?_
 refine WQ.done Try.results57 (RVs.cons (RV.cell wd_42 rfl m0 rfl) (RVs.cons (RV.tmp rfl) RVs.nil)) (fun a w s => ?_)
 · refine ⟨?_, s.low⟩
   clear s
   have e : logPages l = pagesOf l.reverse := by unfold logPages; rw [if_pos h8]
   rw [e, h8]
   rfl

theorem w_docState (l : List R) (A : Option Addr) (b o c : Nat) (t : Int) (w : World) (hm : l.length ≤ maxLen) (hcap : l.length ≤ c) (hr : RL w A b o l) : Ret Try.prog 59 [.slice A l.length c, .int .i64 t] w (.tuple #[.int .i64 (logState l t).1, .int .i64 (logState l t).2.1, .int .i64 (logState l t).2.2]) := by
 refine enter Try.func59 rfl Try.ntmps59 rfl SF.top trivial ?_
 refine WC.seq ?_
 refine WC.region ?_
 refine WL.pure (Y.assign rfl) rfl rfl rfl ?_
 refine WL.pure (Y.assign rfl) rfl rfl rfl ?_
 refine WL.pure (Y.assign rfl) rfl rfl rfl ?_
 refine WL.nil ?_
 refine WQ.next ?_
 refine WC.seq ?_
 refine WC.seq ?_
 refine WC.region ?_
 refine WL.pure (Y.move rfl) rfl rfl rfl ?_
 refine WL.eff (E.call Try.call55 rfl (fun _ w s => w_logError l A b o c w hm hcap (hr.below s.low)) rfl) rfl (fun _ => ?_)
 refine WL.pure (Y.assign rfl) rfl rfl rfl ?_
 refine WL.nil ?_
 refine WQ.next ?_
 refine WC.seq ?_
 refine WC.region ?_
 refine WL.pure (Y.move rfl) rfl rfl rfl ?_
 refine WL.pure (Y.neq rfl rfl) rfl rfl rfl ?_
 refine WL.nil ?_
 refine WQ.next ?_
 refine WC.cond rfl (fun h11 => ?_) (fun h11 => ?_)
 refine WC.seq ?_
 refine WC.region ?_
 refine WL.pure (Y.move rfl) rfl rfl rfl ?_
 refine WL.pure (Y.assign rfl) rfl rfl rfl ?_
 refine WL.pure (Y.assign rfl) rfl rfl rfl ?_
 refine WL.pure (Y.assign rfl) rfl rfl rfl ?_
 refine WL.nil ?_
 refine WQ.next ?_
 refine WC.ret ?_
 refine WQ.thenRet ?_
 refine WQ.done Try.results59 (RVs.cons (RV.tmp rfl) (RVs.cons (RV.tmp rfl) (RVs.cons (RV.tmp rfl) RVs.nil))) (fun a w s => ?_)
 · refine ⟨?_, s.low⟩
   clear s
   have e : logState l t = (0, 0, logErr l) := by unfold logState; simp at h11; rw [if_neg h11]
   rw [e]
   rfl
 refine WC.skip' ?_
 refine WQ.next ?_
 refine WC.seq ?_
 refine WC.seq ?_
 refine WC.region ?_
 refine WL.pure (Y.move rfl) rfl rfl rfl ?_
 refine WL.eff (E.call Try.call110 rfl (fun _ w s => w_rwithin t 1 9 w) rfl) rfl (fun _ => ?_)
 refine WL.pure (Y.not rfl) rfl rfl rfl ?_
 refine WL.nil ?_
 refine WQ.next ?_
 refine WC.cond rfl (fun h15 => ?_) (fun h15 => ?_)
 refine WC.seq ?_
 refine WC.region ?_
 refine WL.pure (Y.assign rfl) rfl rfl rfl ?_
 refine WL.pure (Y.assign rfl) rfl rfl rfl ?_
 refine WL.pure (Y.assign rfl) rfl rfl rfl ?_
 refine WL.nil ?_
 refine WQ.next ?_
 refine WC.ret ?_
 refine WQ.thenRet ?_
 refine WQ.done Try.results59 (RVs.cons (RV.tmp rfl) (RVs.cons (RV.tmp rfl) (RVs.cons (RV.tmp rfl) RVs.nil))) (fun a w s => ?_)
 · refine ⟨?_, s.low⟩
   clear s
   have e : logState l t = (0, 0, 3) := by unfold logState; simp at h11; rw [if_pos h11, if_neg (by simpa using h15)]
   rw [e]
   rfl
 refine WC.skip' ?_
 refine WQ.next ?_
 refine WC.seq ?_
 have h11 := h11
 simp at h11
 obtain ⟨hle, hR⟩ := log_right h11
 refine WC.region ?_
 refine WL.pure (Y.move rfl) rfl rfl rfl ?_
 refine WL.pure (Y.move rfl) rfl rfl rfl ?_
 refine WL.eff (E.call Try.call125 rfl (fun _ w s => w_state l A b o c t w hle (hr.below s.low)) rfl) rfl (fun _ => ?_)
 refine WL.pure (Y.move rfl) rfl rfl rfl ?_
 refine WL.pure (Y.move rfl) rfl rfl rfl ?_
 refine WL.eff (E.call Try.call126 rfl (fun _ w s => w_last l A b o c t w hle (hr.below s.low)) rfl) rfl (fun _ => ?_)
 refine WL.pure (Y.assign rfl) rfl rfl rfl ?_
 refine WL.pure (Y.assign rfl) rfl rfl rfl ?_
 refine WL.pure (Y.assign rfl) rfl rfl rfl ?_
 refine WL.nil ?_
 refine WQ.next ?_
 refine WC.ret ?_
 refine WQ.done Try.results59 (RVs.cons (RV.tmp rfl) (RVs.cons (RV.tmp rfl) (RVs.cons (RV.tmp rfl) RVs.nil))) (fun a w s => ?_)
 · refine ⟨?_, s.low⟩
   clear s
   have e : logState l t = ((stt l.reverse t : Int), (lastN l.reverse t : Int), 0) := by unfold logState; rw [if_pos h11, if_pos (by simpa using h15)]
   rw [e]
   rfl
end Go.Proofs.Ytdbcimadjmdffaa
