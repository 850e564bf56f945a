/- Records: what RecTells and RecTrue return. No condition. -/
import Derived.Test.YtdbcimadjmdffaaRb
set_option maxRecDepth 100000
set_option linter.unusedVariables false
set_option linter.unusedSimpArgs false
set_option linter.unusedSectionVars false
set_option maxHeartbeats 4000000
namespace Go.Proofs.Ytdbcimadjmdffaa
open Go.RowKit
def wrR (txn prev at_ cell was now : Int) : R := ⟨1, txn, prev, at_, cell, was, now, 0⟩
def cmR (txn prev : Int) : R := ⟨2, txn, prev, 0, 0, 0, 0, 0⟩
def bkR (txn prev at_ cell was now nxt : Int) : R := ⟨3, txn, prev, at_, cell, was, now, nxt⟩
def enR (txn prev : Int) : R := ⟨4, txn, prev, 0, 0, 0, 0, 0⟩
theorem recErr_more (n m : Int) (r : R) (h : recErr n r = 0) (h1 : n ≤ m) (h2 : m ≤ 60) : recErr m r = 0 := by
  unfold recErr at h ⊢
  have e : wi n 1 60 = true := by
    cases hn : wi n 1 60
    · rw [hn] at h; simp at h
    · rfl
  have e2 : wi m 1 60 = true := by rw [wi_iff] at e ⊢; omega
  have e3 : ∀ x, wi x 0 (n - 1) = true → wi x 0 (m - 1) = true := fun x hx => by rw [wi_iff] at hx ⊢; omega
  simp only [e, e2, if_true] at h ⊢
  grind
theorem recErr_swap (n : Int) (r : R) (h : recErr n r = 0) : recErr n ⟨r.kind, r.txn, r.prev, r.page, r.cell, r.new, r.old, r.next⟩ = 0 := by
  unfold recErr R.turns R.inner R.bare at h ⊢
  grind

theorem w_wr (a b c d e f : Int) (w : World) : Ret Try.prog 113 [.int .i64 a, .int .i64 b, .int .i64 c, .int .i64 d, .int .i64 e, .int .i64 f] w (wrR a b c d e f).val := by
 refine enter Try.func113 rfl Try.ntmps113 rfl SF.top trivial ?_
 refine WC.seq ?_
 refine WC.region ?_
 refine WL.eff (E.alloc Try.zeroValue34 rfl rfl) rfl (fun b1 => ?_)
 refine WL.nil ?_
 refine WQ.next ?_
 refine WC.seq ?_
 refine WC.region ?_
 refine WL.pure (Y.move rfl) rfl rfl rfl ?_
 refine WL.pure (Y.move rfl) rfl rfl rfl ?_
 refine WL.pure (Y.move rfl) rfl rfl rfl ?_
 refine WL.pure (Y.move rfl) rfl rfl rfl ?_
 refine WL.pure (Y.move rfl) rfl rfl rfl ?_
 refine WL.pure (Y.move rfl) rfl rfl rfl ?_
 refine WL.pure (Y.build rfl (bf_34_0_1_2_3_4_5_6 _ _ _ _ _ _ _)) rfl rfl rfl ?_
 refine WL.eff (E.store Try.sizeOf34 rfl rfl rfl rfl rfl u0 rfl rfl) rfl (fun _ => ?_)
 refine WL.nil ?_
 refine WQ.next ?_
 refine WC.ret ?_
 refine WQ.done Try.results113 (RVs.cons (RV.cell wd_34 rfl m0 rfl) RVs.nil) (fun a w s => ?_)
 · exact ⟨rfl, s.low⟩

theorem w_cm (a b : Int) (w : World) : Ret Try.prog 116 [.int .i64 a, .int .i64 b] w (cmR a b).val := by
 refine enter Try.func116 rfl Try.ntmps116 rfl SF.top trivial ?_
 refine WC.seq ?_
 refine WC.region ?_
 refine WL.eff (E.alloc Try.zeroValue34 rfl rfl) rfl (fun b1 => ?_)
 refine WL.nil ?_
 refine WQ.next ?_
 refine WC.seq ?_
 refine WC.region ?_
 refine WL.pure (Y.move rfl) rfl rfl rfl ?_
 refine WL.pure (Y.move rfl) rfl rfl rfl ?_
 refine WL.pure (Y.build rfl (bf_34_0_1_2 _ _ _)) rfl rfl rfl ?_
 refine WL.eff (E.store Try.sizeOf34 rfl rfl rfl rfl rfl u0 rfl rfl) rfl (fun _ => ?_)
 refine WL.nil ?_
 refine WQ.next ?_
 refine WC.ret ?_
 refine WQ.done Try.results116 (RVs.cons (RV.cell wd_34 rfl m0 rfl) RVs.nil) (fun a w s => ?_)
 · exact ⟨rfl, s.low⟩

theorem w_bk (a b c d e f g : Int) (w : World) : Ret Try.prog 115 [.int .i64 a, .int .i64 b, .int .i64 c, .int .i64 d, .int .i64 e, .int .i64 f, .int .i64 g] w (bkR a b c d e f g).val := by
 refine enter Try.func115 rfl Try.ntmps115 rfl SF.top trivial ?_
 refine WC.seq ?_
 refine WC.region ?_
 refine WL.eff (E.alloc Try.zeroValue34 rfl rfl) rfl (fun b1 => ?_)
 refine WL.nil ?_
 refine WQ.next ?_
 refine WC.seq ?_
 refine WC.region ?_
 refine WL.pure (Y.move rfl) rfl rfl rfl ?_
 refine WL.pure (Y.move rfl) rfl rfl rfl ?_
 refine WL.pure (Y.move rfl) rfl rfl rfl ?_
 refine WL.pure (Y.move rfl) rfl rfl rfl ?_
 refine WL.pure (Y.move rfl) rfl rfl rfl ?_
 refine WL.pure (Y.move rfl) rfl rfl rfl ?_
 refine WL.pure (Y.move rfl) rfl rfl rfl ?_
 refine WL.pure (Y.build rfl (bf_34_0_1_2_3_4_5_6_7 _ _ _ _ _ _ _ _)) rfl rfl rfl ?_
 refine WL.eff (E.store Try.sizeOf34 rfl rfl rfl rfl rfl u0 rfl rfl) rfl (fun _ => ?_)
 refine WL.nil ?_
 refine WQ.next ?_
 refine WC.ret ?_
 refine WQ.done Try.results115 (RVs.cons (RV.cell wd_34 rfl m0 rfl) RVs.nil) (fun a w s => ?_)
 · exact ⟨rfl, s.low⟩

theorem w_en (a b : Int) (w : World) : Ret Try.prog 114 [.int .i64 a, .int .i64 b] w (enR a b).val := by
 refine enter Try.func114 rfl Try.ntmps114 rfl SF.top trivial ?_
 refine WC.seq ?_
 refine WC.region ?_
 refine WL.eff (E.alloc Try.zeroValue34 rfl rfl) rfl (fun b1 => ?_)
 refine WL.nil ?_
 refine WQ.next ?_
 refine WC.seq ?_
 refine WC.region ?_
 refine WL.pure (Y.move rfl) rfl rfl rfl ?_
 refine WL.pure (Y.move rfl) rfl rfl rfl ?_
 refine WL.pure (Y.build rfl (bf_34_0_1_2 _ _ _)) rfl rfl rfl ?_
 refine WL.eff (E.store Try.sizeOf34 rfl rfl rfl rfl rfl u0 rfl rfl) rfl (fun _ => ?_)
 refine WL.nil ?_
 refine WQ.next ?_
 refine WC.ret ?_
 refine WQ.done Try.results114 (RVs.cons (RV.cell wd_34 rfl m0 rfl) RVs.nil) (fun a w s => ?_)
 · exact ⟨rfl, s.low⟩

theorem w_recBegun (w : World) : Ret Try.prog 48 [] w (.bool true) := by
 refine enter Try.func48 rfl Try.ntmps48 rfl SF.top trivial ?_
 refine WC.seq ?_
 refine WC.region ?_
 refine WL.pure (Y.assign rfl) rfl rfl rfl ?_
 refine WL.nil ?_
 refine WQ.next ?_
 refine WC.seq ?_
 refine WC.region ?_
 refine WL.eff (E.call Try.call113 rfl (fun _ w s => w_wr _ _ _ _ _ _ w) rfl) rfl (fun _ => ?_)
 refine WL.eff (E.call Try.call49 rfl (fun _ w s => w_check _ _ w) rfl) rfl (fun _ => ?_)
 refine WL.pure (Y.eql rfl rfl) rfl rfl rfl ?_
 refine WL.pure (Y.move rfl) rfl rfl rfl ?_
 refine WL.known (t := 4) (r := true) rfl (by decide) ?_
 refine WL.guardT rfl rfl rfl ?_
 refine WL.eff (E.call Try.call113 rfl (fun _ w s => w_wr _ _ _ _ _ _ w) rfl) rfl (fun _ => ?_)
 refine WL.guardT rfl rfl rfl ?_
 refine WL.eff (E.call Try.call49 rfl (fun _ w s => w_check _ _ w) rfl) rfl (fun _ => ?_)
 refine WL.guardT rfl rfl rfl ?_
 refine WL.pure (Y.eql rfl rfl) rfl rfl rfl ?_
 refine WL.pure (Y.pickT rfl rfl) rfl rfl rfl ?_
 refine WL.pure (Y.move rfl) rfl rfl rfl ?_
 refine WL.known (t := 9) (r := true) rfl (by decide) ?_
 refine WL.guardT rfl rfl rfl ?_
 refine WL.eff (E.call Try.call113 rfl (fun _ w s => w_wr _ _ _ _ _ _ w) rfl) rfl (fun _ => ?_)
 refine WL.guardT rfl rfl rfl ?_
 refine WL.eff (E.call Try.call49 rfl (fun _ w s => w_check _ _ w) rfl) rfl (fun _ => ?_)
 refine WL.guardT rfl rfl rfl ?_
 refine WL.pure (Y.eql rfl rfl) rfl rfl rfl ?_
 refine WL.pure (Y.pickT rfl rfl) rfl rfl rfl ?_
 refine WL.pure (Y.move rfl) rfl rfl rfl ?_
 refine WL.known (t := 14) (r := true) rfl (by decide) ?_
 refine WL.guardT rfl rfl rfl ?_
 refine WL.eff (E.call Try.call114 rfl (fun _ w s => w_en _ _ w) rfl) rfl (fun _ => ?_)
 refine WL.guardT rfl rfl rfl ?_
 refine WL.eff (E.call Try.call49 rfl (fun _ w s => w_check _ _ w) rfl) rfl (fun _ => ?_)
 refine WL.guardT rfl rfl rfl ?_
 refine WL.pure (Y.eql rfl rfl) rfl rfl rfl ?_
 refine WL.pure (Y.pickT rfl rfl) rfl rfl rfl ?_
 refine WL.pure (Y.move rfl) rfl rfl rfl ?_
 refine WL.known (t := 19) (r := true) rfl (by decide) ?_
 refine WL.guardT rfl rfl rfl ?_
 refine WL.pure (Y.build rfl (bf_34_0_1 _ _)) rfl rfl rfl ?_
 refine WL.guardT rfl rfl rfl ?_
 refine WL.eff (E.call Try.call49 rfl (fun _ w s => w_check 2 ⟨5, 1, 0, 0, 0, 0, 0, 0⟩ w) rfl) rfl (fun _ => ?_)
 refine WL.guardT rfl rfl rfl ?_
 refine WL.pure (Y.eql rfl rfl) rfl rfl rfl ?_
 refine WL.pure (Y.pickT rfl rfl) rfl rfl rfl ?_
 refine WL.pure (Y.move rfl) rfl rfl rfl ?_
 refine WL.known (t := 24) (r := true) rfl (by decide) ?_
 refine WL.guardT rfl rfl rfl ?_
 refine WL.pure (Y.build rfl (bf_34_0_1_4 _ _ _)) rfl rfl rfl ?_
 refine WL.guardT rfl rfl rfl ?_
 refine WL.eff (E.call Try.call49 rfl (fun _ w s => w_check 2 ⟨4, 1, 0, 0, 1, 0, 0, 0⟩ w) rfl) rfl (fun _ => ?_)
 refine WL.guardT rfl rfl rfl ?_
 refine WL.pure (Y.eql rfl rfl) rfl rfl rfl ?_
 refine WL.pure (Y.pickT rfl rfl) rfl rfl rfl ?_
 refine WL.pure (Y.move rfl) rfl rfl rfl ?_
 refine WL.known (t := 29) (r := true) rfl (by decide) ?_
 refine WL.guardT rfl rfl rfl ?_
 refine WL.pure (Y.build rfl (bf_34_0_1_7 _ _ _)) rfl rfl rfl ?_
 refine WL.guardT rfl rfl rfl ?_
 refine WL.eff (E.call Try.call49 rfl (fun _ w s => w_check 2 ⟨1, 1, 0, 0, 0, 0, 0, 1⟩ w) rfl) rfl (fun _ => ?_)
 refine WL.guardT rfl rfl rfl ?_
 refine WL.pure (Y.eql rfl rfl) rfl rfl rfl ?_
 refine WL.pure (Y.pickT rfl rfl) rfl rfl rfl ?_
 refine WL.pure (Y.move rfl) rfl rfl rfl ?_
 refine WL.known (t := 34) (r := true) rfl (by decide) ?_
 refine WL.guardT rfl rfl rfl ?_
 refine WL.eff (E.call Try.call115 rfl (fun _ w s => w_bk _ _ _ _ _ _ _ w) rfl) rfl (fun _ => ?_)
 refine WL.guardT rfl rfl rfl ?_
 refine WL.eff (E.call Try.call49 rfl (fun _ w s => w_check _ _ w) rfl) rfl (fun _ => ?_)
 refine WL.guardT rfl rfl rfl ?_
 refine WL.pure (Y.eql rfl rfl) rfl rfl rfl ?_
 refine WL.pure (Y.pickT rfl rfl) rfl rfl rfl ?_
 refine WL.pure (Y.move rfl) rfl rfl rfl ?_
 refine WL.known (t := 39) (r := true) rfl (by decide) ?_
 refine WL.guardT rfl rfl rfl ?_
 refine WL.eff (E.call Try.call113 rfl (fun _ w s => w_wr _ _ _ _ _ _ w) rfl) rfl (fun _ => ?_)
 refine WL.guardT rfl rfl rfl ?_
 refine WL.eff (E.call Try.call51 rfl (fun _ w s => w_turns _ w) rfl) rfl (fun _ => ?_)
 refine WL.pure (Y.pickT rfl rfl) rfl rfl rfl ?_
 refine WL.pure (Y.move rfl) rfl rfl rfl ?_
 refine WL.known (t := 43) (r := true) rfl (by decide) ?_
 refine WL.guardT rfl rfl rfl ?_
 refine WL.eff (E.call Try.call116 rfl (fun _ w s => w_cm _ _ w) rfl) rfl (fun _ => ?_)
 refine WL.guardT rfl rfl rfl ?_
 refine WL.eff (E.call Try.call51 rfl (fun _ w s => w_turns _ w) rfl) rfl (fun _ => ?_)
 refine WL.guardT rfl rfl rfl ?_
 refine WL.pure (Y.not rfl) rfl rfl rfl ?_
 refine WL.pure (Y.pickT rfl rfl) rfl rfl rfl ?_
 refine WL.pure (Y.assign rfl) rfl rfl rfl ?_
 refine WL.nil ?_
 refine WQ.next ?_
 refine WC.ret ?_
 refine WQ.done Try.results48 (RVs.cons (RV.tmp rfl) RVs.nil) (fun a w s => ?_)
 · exact ⟨rfl, s.low⟩

theorem w_RecTells (n : Int) (r : R) (w : World) : Ret Try.prog 5 [.int .i64 n, r.val] w (.bool true) := by
 refine enter Try.func5 rfl Try.ntmps5 rfl SF.top trivial ?_
 refine WC.seq ?_
 refine WC.region ?_
 refine WL.eff (E.box rfl rfl rfl) rfl (fun b1 => ?_)
 refine WL.pure (Y.assign rfl) rfl rfl rfl ?_
 refine WL.nil ?_
 refine WQ.next ?_
 refine WC.seq ?_
 refine WC.drop [4] ?_
 refine WC.draw [(0, .q true), (1, .q false), (2, .q false), (3, .q true), (4, .q true), (5, .q false), (6, .q true), (7, .q true), (8, .q false), (9, .q false), (10, .q false), (11, .q true), (12, .q true), (13, .q true), (14, .q true), (15, .q false), (16, .q false), (17, .q false)] mixed (by kernel_rfl) ?_
 refine WDm.quiet (QS.call Try.call48 rfl (fun _ w s => w_recBegun w)) rfl rfl rfl ?_
 refine WDm.quiet (QS.pure (Y.move rfl) rfl rfl) rfl rfl rfl ?_
 refine WDm.quiet (QS.guardT rfl rfl rfl (QS.pure (Y.move rfl) rfl rfl)) rfl rfl rfl ?_
 refine WDm.quiet (QS.guardT rfl rfl rfl (QS.val (Y.loadA wd_34 rfl m0 rfl) rfl rfl)) rfl rfl rfl ?_
 refine WDm.quiet (QS.guardT rfl rfl rfl (QS.call Try.call49 rfl (fun _ w s => w_check _ _ w))) rfl rfl rfl ?_
 refine WDm.quiet (QS.guardT rfl rfl rfl (QS.pure (Y.move rfl) rfl rfl)) rfl rfl rfl ?_
 refine WDm.quiet (QS.guardT rfl rfl rfl (QS.val (Y.loadA wd_34 rfl m0 rfl) rfl rfl)) rfl rfl rfl ?_
 refine WDm.quiet (QS.guardT rfl rfl rfl (QS.call Try.call50 rfl (fun _ w s => w_recError _ _ w))) rfl rfl rfl ?_
 refine WDm.quiet (QS.guardT rfl rfl rfl (QS.pure (Y.eql rfl rfl) rfl rfl)) rfl rfl rfl ?_
 refine WDm.quiet (QS.pure (Y.pickT rfl rfl) rfl rfl) rfl rfl rfl ?_
 refine WDm.quiet (QS.pure (Y.move rfl) rfl rfl) rfl rfl rfl ?_
 refine WDm.known (t := 15) (r := true) rfl (by simp) ?_
 refine WDm.quiet (QS.guardT rfl rfl rfl (QS.val (Y.loadA wd_34 rfl m0 rfl) rfl rfl)) rfl rfl rfl ?_
 refine WDm.quiet (QS.guardT rfl rfl rfl (QS.call Try.call51 rfl (fun _ w s => w_turns _ w))) rfl rfl rfl ?_
 refine WDm.quiet (QS.guardT rfl rfl rfl (QS.val (Y.loadA wd_34 rfl m0 rfl) rfl rfl)) rfl rfl rfl ?_
 refine WDm.quiet (QS.guardT rfl rfl rfl (QS.call Try.call52 rfl (fun _ w s => w_turnsOf _ w))) rfl rfl rfl ?_
 refine WDm.quiet (QS.guardT rfl rfl rfl (QS.pure (Y.binK (v := .bool true) rfl rfl (fun w => by cases r.turns <;> kernel_rfl)) rfl rfl)) rfl rfl rfl ?_
 refine WDm.quiet (QS.pure (Y.pickT rfl rfl) rfl rfl) rfl rfl rfl ?_
 refine WDm.quiet (QS.pure (Y.assign rfl) rfl rfl) rfl rfl rfl ?_
 refine WDm.nil (WQ.and ?_)
 refine WQ.next ?_
 refine WC.ret ?_
 refine WQ.done Try.results5 (RVs.cons (RV.tmp rfl) RVs.nil) (fun a w s => ?_)
 · exact ⟨rfl, s.low⟩

theorem w_RecTrue (n m : Int) (r : R) (w : World) : Ret Try.prog 6 [.int .i64 n, .int .i64 m, r.val] w (.bool true) := by
 refine enter Try.func6 rfl Try.ntmps6 rfl SF.top trivial ?_
 refine WC.seq ?_
 refine WC.region ?_
 refine WL.eff (E.box rfl rfl rfl) rfl (fun b1 => ?_)
 refine WL.pure (Y.assign rfl) rfl rfl rfl ?_
 refine WL.nil ?_
 refine WQ.next ?_
 refine WC.seq ?_
 refine WC.seq ?_
 refine WC.region ?_
 refine WL.pure (Y.move rfl) rfl rfl rfl ?_
 refine WL.val (Y.loadA wd_34 rfl m0 rfl) rfl rfl rfl ?_
 refine WL.eff (E.call Try.call49 rfl (fun _ w s => w_check _ _ w) rfl) rfl (fun _ => ?_)
 refine WL.pure (Y.neq rfl rfl) rfl rfl rfl ?_
 refine WL.nil ?_
 refine WQ.next ?_
 refine WC.cond rfl (fun h11 => ?_) (fun h11 => ?_)
 refine WC.seq ?_
 refine WC.region ?_
 refine WL.eff (E.call Try.call48 rfl (fun _ w s => w_recBegun w) rfl) rfl (fun _ => ?_)
 refine WL.pure (Y.assign rfl) rfl rfl rfl ?_
 refine WL.nil ?_
 refine WQ.next ?_
 refine WC.ret ?_
 refine WQ.thenRet ?_
 refine WQ.done Try.results6 (RVs.cons (RV.tmp rfl) RVs.nil) (fun a w s => ?_)
 · refine ⟨?_, s.low⟩
   first | rfl | (simp at h11; simp [packed, recErr_swap n r h11])
 refine WC.skip' ?_
 refine WQ.next ?_
 refine WC.seq ?_
 refine WC.region ?_
 refine WL.val (Y.loadA wd_34 rfl m0 rfl) rfl rfl rfl ?_
 refine WL.eff (E.alloc Try.zeroValue34 rfl rfl) rfl (fun b2 => ?_)
 refine WL.eff (E.store Try.sizeOf34 rfl rfl rfl rfl rfl u0 rfl rfl) rfl (fun _ => ?_)
 refine WL.nil ?_
 refine WQ.next ?_
 refine WC.seq ?_
 refine WC.drawm (some _) [(0, .q false), (1, .q true), (2, .q false), (3, .q true), (4, .q false), (5, .s false), (6, .q false), (7, .s false)] (fun _ h => Wp.tail h) mixed (by kernel_rfl) ?_
 refine WDm.quiet (QS.pure (Y.fieldAddr fa_34_6 rfl) rfl rfl) rfl rfl rfl ?_
 refine WDm.quiet (QS.val (Y.load fl_3 rfl (by repeat (first | exact List.Mem.head _ | apply List.Mem.tail)) rfl) rfl rfl) rfl rfl rfl ?_
 refine WDm.quiet (QS.pure (Y.fieldAddr fa_34_5 rfl) rfl rfl) rfl rfl rfl ?_
 refine WDm.quiet (QS.val (Y.load fl_3 rfl (by repeat (first | exact List.Mem.head _ | apply List.Mem.tail)) rfl) rfl rfl) rfl rfl rfl ?_
 refine WDm.quiet (QS.pure (Y.fieldAddr fa_34_5 rfl) rfl rfl) rfl rfl rfl ?_
 refine WDm.spec (WS.free rfl (E.store Try.sizeOf3 rfl rfl rfl rfl rfl (by repeat (first | exact Upd.here | apply Upd.there)) rfl rfl)) (fun _ => by exact ext_tail) (fun _ => ?_) (by exact fun _ _ h => Wp.tail h)
 refine WDm.quiet (QS.pure (Y.fieldAddr fa_34_6 rfl) rfl rfl) rfl rfl rfl ?_
 refine WDm.spec (WS.free rfl (E.store Try.sizeOf3 rfl rfl rfl rfl rfl (by repeat (first | exact Upd.here | apply Upd.there)) rfl rfl)) (fun _ => by exact ext_tail) (fun _ => ?_) (by exact fun _ _ h => Wp.tail h)
 refine WDm.nil (WQ.and ?_)
 refine WQ.next ?_
 refine WC.seq ?_
 refine WC.region ?_
 refine WL.eff (E.call Try.call48 rfl (fun _ w s => w_recBegun w) rfl) rfl (fun _ => ?_)
 refine WL.pure (Y.move rfl) rfl rfl rfl ?_
 refine WL.guardT rfl rfl rfl ?_
 refine WL.pure (Y.move rfl) rfl rfl rfl ?_
 refine WL.guardT rfl rfl rfl ?_
 refine WL.pure (Y.move rfl) rfl rfl rfl ?_
 refine WL.guardT rfl rfl rfl ?_
 refine WL.pure (Y.lss rfl rfl) rfl rfl rfl ?_
 refine WL.guardT rfl rfl rfl ?_
 refine WL.pure (Y.move rfl) rfl rfl rfl ?_
 refine WL.split (t := 25) rfl (fun r h25 => ?_)
 cases r
 refine WL.guardT rfl rfl rfl ?_
 refine WL.pure (Y.move rfl) rfl rfl rfl ?_
 refine WL.guardT rfl rfl rfl ?_
 refine WL.pure (Y.gtr rfl rfl) rfl rfl rfl ?_
 refine WL.guardT rfl rfl rfl ?_
 refine WL.pure (Y.pickF rfl rfl) rfl rfl rfl ?_
 refine WL.guardT rfl rfl rfl ?_
 refine WL.pure (Y.move rfl) rfl rfl rfl ?_
 refine WL.split (t := 29) rfl (fun r h29 => ?_)
 cases r
 refine WL.guardT rfl rfl rfl ?_
 refine WL.pure (Y.move rfl) rfl rfl rfl ?_
 refine WL.guardT rfl rfl rfl ?_
 refine WL.val (Y.loadA wd_34 rfl (by repeat (first | exact List.Mem.head _ | apply List.Mem.tail)) rfl) rfl rfl rfl ?_
 refine WL.guardT rfl rfl rfl ?_
 refine WL.eff (E.call Try.call49 rfl (fun _ w s => w_check _ _ w) rfl) rfl (fun _ => ?_)
 refine WL.guardT rfl rfl rfl ?_
 refine WL.pure (Y.eql rfl rfl) rfl rfl rfl ?_
 refine WL.guardT rfl rfl rfl ?_
 refine WL.pure (Y.pickF rfl rfl) rfl rfl rfl ?_
 refine WL.pure (Y.pickT rfl rfl) rfl rfl rfl ?_
 refine WL.pure (Y.move rfl) rfl rfl rfl ?_
 refine WL.known (t := 36) (r := true) rfl (by simp at h11 h25 h29; simp [recErr_more n m r h11 (by omega) (by omega)]) ?_
 refine WL.guardT rfl rfl rfl ?_
 refine WL.pure (Y.move rfl) rfl rfl rfl ?_
 refine WL.guardT rfl rfl rfl ?_
 refine WL.val (Y.loadA wd_34 rfl (by repeat (first | exact List.Mem.head _ | apply List.Mem.tail)) rfl) rfl rfl rfl ?_
 refine WL.guardT rfl rfl rfl ?_
 refine WL.eff (E.call Try.call49 rfl (fun _ w s => w_check n ⟨r.kind, r.txn, r.prev, r.page, r.cell, r.new, r.old, r.next⟩ w) rfl) rfl (fun _ => ?_)
 refine WL.guardT rfl rfl rfl ?_
 refine WL.pure (Y.eql rfl rfl) rfl rfl rfl ?_
 refine WL.pure (Y.pickT rfl rfl) rfl rfl rfl ?_
 refine WL.pure (Y.assign rfl) rfl rfl rfl ?_
 refine WL.nil ?_
 refine WQ.next ?_
 refine WC.ret ?_
 refine WQ.done Try.results6 (RVs.cons (RV.tmp rfl) RVs.nil) (fun a w s => ?_)
 · refine ⟨?_, s.low⟩
   first | rfl | (simp at h11; simp [packed, recErr_swap n r h11])
 refine WL.guardF rfl rfl rfl rfl rfl rfl ?_
 refine WL.guardF rfl rfl rfl rfl rfl rfl ?_
 refine WL.guardF rfl rfl rfl rfl rfl rfl ?_
 refine WL.guardF rfl rfl rfl rfl rfl rfl ?_
 refine WL.guardT rfl rfl rfl ?_
 refine WL.pure (Y.pickT rfl rfl) rfl rfl rfl ?_
 refine WL.pure (Y.pickT rfl rfl) rfl rfl rfl ?_
 refine WL.pure (Y.move rfl) rfl rfl rfl ?_
 refine WL.guardT rfl rfl rfl ?_
 refine WL.pure (Y.move rfl) rfl rfl rfl ?_
 refine WL.guardT rfl rfl rfl ?_
 refine WL.val (Y.loadA wd_34 rfl (by repeat (first | exact List.Mem.head _ | apply List.Mem.tail)) rfl) rfl rfl rfl ?_
 refine WL.guardT rfl rfl rfl ?_
 refine WL.eff (E.call Try.call49 rfl (fun _ w s => w_check n ⟨r.kind, r.txn, r.prev, r.page, r.cell, r.new, r.old, r.next⟩ w) rfl) rfl (fun _ => ?_)
 refine WL.guardT rfl rfl rfl ?_
 refine WL.pure (Y.eql rfl rfl) rfl rfl rfl ?_
 refine WL.pure (Y.pickT rfl rfl) rfl rfl rfl ?_
 refine WL.pure (Y.assign rfl) rfl rfl rfl ?_
 refine WL.nil ?_
 refine WQ.next ?_
 refine WC.ret ?_
 refine WQ.done Try.results6 (RVs.cons (RV.tmp rfl) RVs.nil) (fun a w s => ?_)
 · refine ⟨?_, s.low⟩
   first | rfl | (simp at h11; simp [packed, recErr_swap n r h11])
 refine WL.guardF rfl rfl rfl rfl rfl rfl ?_
 refine WL.guardF rfl rfl rfl rfl rfl rfl ?_
 refine WL.guardT rfl rfl rfl ?_
 refine WL.pure (Y.pickT rfl rfl) rfl rfl rfl ?_
 refine WL.guardT rfl rfl rfl ?_
 refine WL.pure (Y.move rfl) rfl rfl rfl ?_
 refine WL.guardF rfl rfl rfl rfl rfl rfl ?_
 refine WL.guardF rfl rfl rfl rfl rfl rfl ?_
 refine WL.guardF rfl rfl rfl rfl rfl rfl ?_
 refine WL.guardF rfl rfl rfl rfl rfl rfl ?_
 refine WL.guardT rfl rfl rfl ?_
 refine WL.pure (Y.pickT rfl rfl) rfl rfl rfl ?_
 refine WL.pure (Y.pickT rfl rfl) rfl rfl rfl ?_
 refine WL.pure (Y.move rfl) rfl rfl rfl ?_
 refine WL.guardT rfl rfl rfl ?_
 refine WL.pure (Y.move rfl) rfl rfl rfl ?_
 refine WL.guardT rfl rfl rfl ?_
 refine WL.val (Y.loadA wd_34 rfl (by repeat (first | exact List.Mem.head _ | apply List.Mem.tail)) rfl) rfl rfl rfl ?_
 refine WL.guardT rfl rfl rfl ?_
 refine WL.eff (E.call Try.call49 rfl (fun _ w s => w_check n ⟨r.kind, r.txn, r.prev, r.page, r.cell, r.new, r.old, r.next⟩ w) rfl) rfl (fun _ => ?_)
 refine WL.guardT rfl rfl rfl ?_
 refine WL.pure (Y.eql rfl rfl) rfl rfl rfl ?_
 refine WL.pure (Y.pickT rfl rfl) rfl rfl rfl ?_
 refine WL.pure (Y.assign rfl) rfl rfl rfl ?_
 refine WL.nil ?_
 refine WQ.next ?_
 refine WC.ret ?_
 refine WQ.done Try.results6 (RVs.cons (RV.tmp rfl) RVs.nil) (fun a w s => ?_)
 · refine ⟨?_, s.low⟩
   first | rfl | (simp at h11; simp [packed, recErr_swap n r h11])
end Go.Proofs.Ytdbcimadjmdffaa
