/- Logs: what the document says of the next record, and of a log. No condition. -/
import Derived.Test.YtdbcimadjmdffaaLc
set_option maxRecDepth 100000
set_option linter.unusedVariables false
set_option linter.unusedSimpArgs false
set_option linter.unusedSectionVars false
set_option maxHeartbeats 4000000
namespace Go.Proofs.Ytdbcimadjmdffaa
open Go.RowKit Go.Joins
theorem InR.rev {l : List R} (h : InR l.reverse) : InR l := fun r hr => h r (List.mem_reverse.2 hr)
theorem up_some {h : List R} {t : Int} (hh : (((ups h t).length : Int) == 0) = false) : ∃ m us, ups h t = m :: us := by
  cases hu : ups h t with
  | nil => rw [hu] at hh; simp at hh
  | cons m us => exact ⟨m, us, rfl⟩
theorem up_top {h : List R} {t : Int} {m : Nat} {us : List Nat} (hu : ups h t = m :: us) : (ups h t).reverse[(ups h t).length - 1]? = some m := by
  rw [hu]; simp
theorem beq_cast (n m : Nat) : (((n : Nat) : Int) == ((m : Nat) : Int)) = (n == m) := by
  rw [Bool.eq_iff_iff]; simp; omega
theorem beq4 (n : Nat) : (((n : Nat) : Int) == 4) = (n == 4) := beq_cast n 4
theorem beq2 (n : Nat) : (((n : Nat) : Int) == 2) = (n == 2) := beq_cast n 2
theorem beq3 (n : Nat) : (((n : Nat) : Int) == 3) = (n == 3) := beq_cast n 3
theorem beq0 (l : List Nat) : (((l.length : Nat) : Int) == 0) = l.isEmpty := by cases l <;> simp; omega

theorem w_follows (l : List R) (A : Option Addr) (b o c : Nat) (r : R) (w : World) (hl : l.length ≤ 60) (hr : RL w A b o l) (hR : Right l.reverse) (hok : recErr ((l.length : Int) + 1) r = 0) : Ret Try.prog 122 [.slice A l.length c, r.val] w (.bool (follows l.reverse r)) := by
 have hbd := rec_bounds hok
 refine enter Try.func122 rfl Try.ntmps122 rfl SF.top trivial ?_
 refine WC.seq ?_
 refine WC.region ?_
 refine WL.eff (E.box rfl rfl rfl) rfl (fun b1 => ?_)
 refine WL.pure (Y.assign rfl) rfl rfl rfl ?_
 refine WL.nil ?_
 refine WQ.next ?_
 refine WC.seq ?_
 refine WC.region ?_
 refine WL.pure (Y.move rfl) rfl rfl rfl ?_
 refine WL.pure (Y.fieldAddr fa_34_1 rfl) rfl rfl rfl ?_
 refine WL.val (Y.load fl_3 rfl m0 rfl) rfl rfl rfl ?_
 refine WL.eff (E.call Try.call125 rfl (fun _ w s => w_state l A b o c _ w hl (hr.below s.low)) rfl) rfl (fun _ => ?_)
 refine WL.pure (Y.assign rfl) rfl rfl rfl ?_
 refine WL.nil ?_
 refine WQ.next ?_
 refine WC.seq ?_
 refine WC.seq ?_
 refine WC.draw [(0, .q false), (1, .q true), (2, .q false), (3, .q false), (4, .q true), (5, .q true), (6, .q false), (7, .q false), (8, .q false), (9, .q false), (10, .q false), (11, .q false), (12, .q false), (13, .q false), (14, .q false), (15, .q false), (16, .q true), (17, .q false), (18, .q false), (19, .q false), (20, .q false), (21, .q false), (22, .q false), (23, .q false), (24, .q false), (25, .q true), (26, .q false), (27, .q false), (28, .q false), (29, .q false), (30, .q true), (31, .q false), (32, .q false), (33, .q false)] mixed (by kernel_rfl) ?_
 refine WDm.quiet (QS.pure (Y.fieldAddr fa_34_2 rfl) rfl rfl) rfl rfl rfl ?_
 refine WDm.quiet (QS.val (Y.load fl_3 rfl m0 rfl) rfl rfl) rfl rfl rfl ?_
 refine WDm.quiet (QS.pure (Y.move rfl) rfl rfl) rfl rfl rfl ?_
 refine WDm.quiet (QS.pure (Y.fieldAddr fa_34_1 rfl) rfl rfl) rfl rfl rfl ?_
 refine WDm.quiet (QS.val (Y.load fl_3 rfl m0 rfl) rfl rfl) rfl rfl rfl ?_
 refine WDm.quiet (QS.call Try.call126 rfl (fun _ w s => w_last l A b o c _ w hl (hr.below s.low))) rfl rfl rfl ?_
 refine WDm.quiet (QS.pure (Y.neq rfl rfl) rfl rfl) rfl rfl rfl ?_
 refine WDm.quiet (QS.pure (Y.move rfl) rfl rfl) rfl rfl rfl ?_
 refine WDm.split (t := 19) rfl (fun r h19 => ?_)
 cases r
 refine WDm.quiet (QS.guardT rfl rfl rfl (QS.pure (Y.move rfl) rfl rfl)) rfl rfl rfl ?_
 refine WDm.quiet (QS.guardT rfl rfl rfl (QS.pure (Y.eql rfl rfl) rfl rfl)) rfl rfl rfl ?_
 refine WDm.quiet (QS.pure (Y.pickF rfl rfl) rfl rfl) rfl rfl rfl ?_
 refine WDm.quiet (QS.pure (Y.move rfl) rfl rfl) rfl rfl rfl ?_
 refine WDm.split (t := 23) rfl (fun r h23 => ?_)
 cases r
 refine WDm.quiet (QS.guardT rfl rfl rfl (QS.pure (Y.move rfl) rfl rfl)) rfl rfl rfl ?_
 refine WDm.quiet (QS.guardT rfl rfl rfl (QS.pure (Y.eql rfl rfl) rfl rfl)) rfl rfl rfl ?_
 refine WDm.quiet (QS.guardT rfl rfl rfl (QS.pure (Y.move rfl) rfl rfl)) rfl rfl rfl ?_
 refine WDm.split (t := 26) rfl (fun r h26 => ?_)
 cases r
 refine WDm.quiet (QS.guardF rfl rfl rfl rfl rfl) rfl rfl rfl ?_
 refine WDm.quiet (QS.guardF rfl rfl rfl rfl rfl) rfl rfl rfl ?_
 refine WDm.quiet (QS.guardF rfl rfl rfl rfl rfl) rfl rfl rfl ?_
 refine WDm.quiet (QS.guardT rfl rfl rfl (QS.pure (Y.pickF rfl rfl) rfl rfl)) rfl rfl rfl ?_
 refine WDm.quiet (QS.pure (Y.pickF rfl rfl) rfl rfl) rfl rfl rfl ?_
 refine WDm.quiet (QS.pure (Y.move rfl) rfl rfl) rfl rfl rfl ?_
 refine WDm.quiet (QS.guardT rfl rfl rfl (QS.pure (Y.move rfl) rfl rfl)) rfl rfl rfl ?_
 refine WDm.quiet (QS.guardT rfl rfl rfl (QS.pure (Y.eql rfl rfl) rfl rfl)) rfl rfl rfl ?_
 refine WDm.quiet (QS.guardT rfl rfl rfl (QS.pure (Y.move rfl) rfl rfl)) rfl rfl rfl ?_
 refine WDm.split (t := 35) rfl (fun r h35 => ?_)
 cases r
 refine WDm.quiet (QS.guardF rfl rfl rfl rfl rfl) rfl rfl rfl ?_
 refine WDm.quiet (QS.guardF rfl rfl rfl rfl rfl) rfl rfl rfl ?_
 refine WDm.quiet (QS.guardF rfl rfl rfl rfl rfl) rfl rfl rfl ?_
 refine WDm.quiet (QS.guardT rfl rfl rfl (QS.pure (Y.pickF rfl rfl) rfl rfl)) rfl rfl rfl ?_
 refine WDm.quiet (QS.guardT rfl rfl rfl (QS.pure (Y.move rfl) rfl rfl)) rfl rfl rfl ?_
 refine WDm.quiet (QS.guardF rfl rfl rfl rfl rfl) rfl rfl rfl ?_
 refine WDm.quiet (QS.guardF rfl rfl rfl rfl rfl) rfl rfl rfl ?_
 refine WDm.quiet (QS.guardF rfl rfl rfl rfl rfl) rfl rfl rfl ?_
 refine WDm.quiet (QS.guardT rfl rfl rfl (QS.pure (Y.pickF rfl rfl) rfl rfl)) rfl rfl rfl ?_
 refine WDm.quiet (QS.pure (Y.pickF rfl rfl) rfl rfl) rfl rfl rfl ?_
 refine WDm.nil (WQ.and ?_)
 refine WQ.next ?_
 refine WC.condF rfl ?_
 refine WC.skip' ?_
 refine WQ.next ?_
 refine WC.seq ?_
 refine WC.region ?_
 refine WL.pure (Y.move rfl) rfl rfl rfl ?_
 refine WL.pure (Y.fieldAddr fa_34_1 rfl) rfl rfl rfl ?_
 refine WL.val (Y.load fl_3 rfl m0 rfl) rfl rfl rfl ?_
 refine WL.eff (E.callF (fun i : Option Addr × Nat => .slice i.1 (ups l.reverse r.txn).length i.2) (fun i => SF.own w.heap.size 3 1 (.slice i.1 (ups l.reverse r.txn).length i.2) (ups l.reverse r.txn).length (nums (ups l.reverse r.txn).reverse)) Try.call153 rfl (fun _ w s => (w_stands l A b o c r.txn w hl (hr.below s.low) (hR.fit _)).mono fun e w' ⟨i, he, hb, ho⟩ => ⟨i, he, hb, ownsRow_le ho s.low.size, fun g hg => .inl (ho.lt g hg).1⟩) rfl) rfl (fun i => ?_)
 refine WL.pure (Y.assign rfl) rfl rfl rfl ?_
 refine WL.nil ?_
 refine WQ.next ?_
 refine WC.seq ?_
 refine WC.seq ?_
 refine WC.region ?_
 refine WL.pure (Y.fieldAddr fa_34_0 rfl) rfl rfl rfl ?_
 refine WL.val (Y.load fl_3 rfl m0 rfl) rfl rfl rfl ?_
 refine WL.nil ?_
 refine WQ.next ?_
 refine WC.block ?_
 refine WC.seq ?_
 refine WC.region ?_
 refine WL.pure (Y.eql rfl rfl) rfl rfl rfl ?_
 refine WL.pure (Y.assign rfl) rfl rfl rfl ?_
 refine WL.nil ?_
 refine WQ.next ?_
 refine WC.cond rfl (fun h52 => ?_) (fun h52 => ?_)
 refine WC.seq ?_
 have hk1 : r.kind = 1 := by simpa using h52
 obtain ⟨hp, hc, _⟩ := hbd.2.2.2.2.2.2.2.2.1 (by simp [R.turns, hk1])
 refine WC.drop [4] ?_
 refine WC.draw [(0, .q false), (1, .q true), (2, .q false), (3, .q true), (4, .q false), (5, .q true), (6, .q false), (7, .q false), (8, .q false), (9, .q true), (10, .q false), (11, .q false), (12, .q false), (13, .q false), (14, .q false), (15, .q true), (16, .q false), (17, .q true), (18, .q false), (19, .q true), (20, .q true), (21, .q false), (22, .q false), (23, .q false)] mixed (by kernel_rfl) ?_
 refine WDm.quiet (QS.pure (Y.fieldAddr fa_34_5 rfl) rfl rfl) rfl rfl rfl ?_
 refine WDm.quiet (QS.val (Y.load fl_3 rfl m0 rfl) rfl rfl) rfl rfl rfl ?_
 refine WDm.quiet (QS.pure (Y.move rfl) rfl rfl) rfl rfl rfl ?_
 refine WDm.quiet (QS.call Try.call123 rfl (fun _ w s => w_pages l A b o c w hl (hr.below s.low) hR.inR.rev)) rfl rfl rfl ?_
 refine WDm.quiet (QS.pure (Y.fieldAddr fa_34_3 rfl) rfl rfl) rfl rfl rfl ?_
 refine WDm.quiet (QS.val (Y.load fl_3 rfl m0 rfl) rfl rfl) rfl rfl rfl ?_
 refine WDm.quiet (QS.pure (Y.indexK rfl rfl (ix_pages _ _ hp)) rfl rfl) rfl rfl rfl ?_
 refine WDm.quiet (QS.pure (Y.fieldK rfl (fd_cells _)) rfl rfl) rfl rfl rfl ?_
 refine WDm.quiet (QS.pure (Y.fieldAddr fa_34_4 rfl) rfl rfl) rfl rfl rfl ?_
 refine WDm.quiet (QS.val (Y.load fl_3 rfl m0 rfl) rfl rfl) rfl rfl rfl ?_
 refine WDm.quiet (QS.pure (Y.indexK rfl rfl (ix_cells _ _ hc)) rfl rfl) rfl rfl rfl ?_
 refine WDm.quiet (QS.pure (Y.eql rfl rfl) rfl rfl) rfl rfl rfl ?_
 refine WDm.quiet (QS.pure (Y.move rfl) rfl rfl) rfl rfl rfl ?_
 refine WDm.split (t := 66) rfl (fun r h66 => ?_)
 cases r
 refine WDm.quiet (QS.guardF rfl rfl rfl rfl rfl) rfl rfl rfl ?_
 refine WDm.quiet (QS.guardF rfl rfl rfl rfl rfl) rfl rfl rfl ?_
 refine WDm.quiet (QS.guardF rfl rfl rfl rfl rfl) rfl rfl rfl ?_
 refine WDm.quiet (QS.guardF rfl rfl rfl rfl rfl) rfl rfl rfl ?_
 refine WDm.quiet (QS.guardF rfl rfl rfl rfl rfl) rfl rfl rfl ?_
 refine WDm.quiet (QS.guardF rfl rfl rfl rfl rfl) rfl rfl rfl ?_
 refine WDm.quiet (QS.guardF rfl rfl rfl rfl rfl) rfl rfl rfl ?_
 refine WDm.quiet (QS.guardF rfl rfl rfl rfl rfl) rfl rfl rfl ?_
 refine WDm.quiet (QS.guardF rfl rfl rfl rfl rfl) rfl rfl rfl ?_
 refine WDm.quiet (QS.pure (Y.pickF rfl rfl) rfl rfl) rfl rfl rfl ?_
 refine WDm.quiet (QS.pure (Y.assign rfl) rfl rfl) rfl rfl rfl ?_
 refine WDm.nil (WQ.and ?_)
 refine WQ.next ?_
 refine WC.ret ?_
 refine WQ.blockRet ?_
 refine WQ.thenRet ?_
 refine WQ.done Try.results122 (RVs.cons (RV.tmp rfl) RVs.nil) (fun a w s => ?_)
 · refine ⟨?_, s.low⟩
   clear s hbd
   simp only [packed]
   apply retb
   try simp only [beq4, beq3, beq2, beq0] at *
   unfold follows
   simp_all
 refine WDm.quiet (QS.guardT rfl rfl rfl (QS.pure (Y.move rfl) rfl rfl)) rfl rfl rfl ?_
 refine WDm.quiet (QS.guardT rfl rfl rfl (QS.pure (Y.fieldAddr fa_34_1 rfl) rfl rfl)) rfl rfl rfl ?_
 refine WDm.quiet (QS.guardT rfl rfl rfl (QS.val (Y.load fl_3 rfl m0 rfl) rfl rfl)) rfl rfl rfl ?_
 refine WDm.quiet (QS.guardT rfl rfl rfl (QS.pure (Y.fieldAddr fa_34_3 rfl) rfl rfl)) rfl rfl rfl ?_
 refine WDm.quiet (QS.guardT rfl rfl rfl (QS.val (Y.load fl_3 rfl m0 rfl) rfl rfl)) rfl rfl rfl ?_
 refine WDm.quiet (QS.guardT rfl rfl rfl (QS.pure (Y.fieldAddr fa_34_4 rfl) rfl rfl)) rfl rfl rfl ?_
 refine WDm.quiet (QS.guardT rfl rfl rfl (QS.val (Y.load fl_3 rfl m0 rfl) rfl rfl)) rfl rfl rfl ?_
 refine WDm.quiet (QS.guardT rfl rfl rfl (QS.call Try.call145 rfl (fun _ w s => w_taken l A b o c _ _ _ w hl (hr.below s.low) hR.fit))) rfl rfl rfl ?_
 refine WDm.quiet (QS.guardT rfl rfl rfl (QS.pure (Y.not rfl) rfl rfl)) rfl rfl rfl ?_
 refine WDm.quiet (QS.pure (Y.pickT rfl rfl) rfl rfl) rfl rfl rfl ?_
 refine WDm.quiet (QS.pure (Y.assign rfl) rfl rfl) rfl rfl rfl ?_
 refine WDm.nil (WQ.and ?_)
 refine WQ.next ?_
 refine WC.ret ?_
 refine WQ.blockRet ?_
 refine WQ.thenRet ?_
 refine WQ.done Try.results122 (RVs.cons (RV.tmp rfl) RVs.nil) (fun a w s => ?_)
 · refine ⟨?_, s.low⟩
   clear s hbd
   simp only [packed]
   apply retb
   try simp only [beq4, beq3, beq2, beq0] at *
   unfold follows
   simp_all
 refine WC.seq ?_
 refine WC.region ?_
 refine WL.pure (Y.eql rfl rfl) rfl rfl rfl ?_
 refine WL.pure (Y.assign rfl) rfl rfl rfl ?_
 refine WL.nil ?_
 refine WQ.next ?_
 refine WC.cond rfl (fun h77 => ?_) (fun h77 => ?_)
 refine WC.seq ?_
 refine WC.region ?_
 refine WL.pure (Y.assign rfl) rfl rfl rfl ?_
 refine WL.nil ?_
 refine WQ.next ?_
 refine WC.ret ?_
 refine WQ.blockRet ?_
 refine WQ.thenRet ?_
 refine WQ.done Try.results122 (RVs.cons (RV.tmp rfl) RVs.nil) (fun a w s => ?_)
 · refine ⟨?_, s.low⟩
   clear s hbd
   simp only [packed]
   apply retb
   try simp only [beq4, beq3, beq2, beq0] at *
   unfold follows
   simp_all
 refine WC.seq ?_
 refine WC.region ?_
 refine WL.pure (Y.eql rfl rfl) rfl rfl rfl ?_
 refine WL.pure (Y.assign rfl) rfl rfl rfl ?_
 refine WL.nil ?_
 refine WQ.next ?_
 refine WC.cond rfl (fun h79 => ?_) (fun h79 => ?_)
 refine WC.seq ?_
 refine WC.seq ?_
 refine WC.region ?_
 refine WL.pure (Y.move rfl) rfl rfl rfl ?_
 refine WL.pure (Y.len Try.underlying64 rfl) rfl rfl rfl ?_
 refine WL.pure (Y.eql rfl rfl) rfl rfl rfl ?_
 refine WL.nil ?_
 refine WQ.next ?_
 refine WC.cond rfl (fun h83 => ?_) (fun h83 => ?_)
 refine WC.seq ?_
 refine WC.region ?_
 refine WL.pure (Y.assign rfl) rfl rfl rfl ?_
 refine WL.nil ?_
 refine WQ.next ?_
 refine WC.ret ?_
 refine WQ.thenRet ?_
 refine WQ.blockRet ?_
 refine WQ.thenRet ?_
 refine WQ.done Try.results122 (RVs.cons (RV.tmp rfl) RVs.nil) (fun a w s => ?_)
 · refine ⟨?_, s.low⟩
   clear s hbd
   simp only [packed]
   apply retb
   try simp only [beq4, beq3, beq2, beq0] at *
   unfold follows
   simp_all
 refine WC.skip' ?_
 refine WQ.next ?_
 refine WC.seq ?_
 refine WC.region ?_
 obtain ⟨m, us, hu⟩ := up_some h83
 obtain ⟨hm1, hm2⟩ := ups_le (h := l.reverse) (t := r.txn) (n := m) (by rw [hu]; exact List.Mem.head _)
 rw [List.length_reverse] at hm2
 have hlen : 1 ≤ (ups l.reverse r.txn).length := by rw [hu]; simp
 have hule := wrs_len l.reverse r.txn
 have hul : (ups l.reverse r.txn).length ≤ l.length := by rw [ups_len]; simp at hule; omega
 have hm := up_top hu
 obtain ⟨x, hk2⟩ := get_of_lt (l := l) (k := m - 1) (by omega)
 refine WL.know (p := ∃ g, i.1 = some ⟨g, 0, none⟩) (fun a w s => by obtain ⟨g, hA, _⟩ := own_cell s.fact.2 (nums_get hm); exact ⟨g, hA⟩) (fun ⟨g, hA⟩ => ?_)
 refine WL.pure (Y.move rfl) rfl rfl rfl ?_
 refine WL.pure (Y.move rfl) rfl rfl rfl ?_
 refine WL.pure (Y.move rfl) rfl rfl rfl ?_
 refine WL.pure (Y.len Try.underlying64 rfl) rfl rfl rfl ?_
 refine WL.pure (Y.sub rfl rfl (i64_sub1 hlen (by omega))) rfl rfl rfl ?_
 refine WL.pure (Y.ixSlA Try.underlying64 Try.sizeOf3 rfl rfl hA (nat0 _) (by omega)) rfl rfl rfl ?_
 refine WL.val (Y.loadc fl_3 rfl (v := .int .i64 (m : Int)) (fun a w s => by obtain ⟨g2, hA2, hc⟩ := own_cell s.fact.2 (nums_get hm); cases hA.symm.trans hA2; simpa using hc)) rfl rfl rfl ?_
 refine WL.pure (Y.sub rfl rfl (i64_sub1 hm1 (by omega))) rfl rfl rfl ?_
 refine WL.pure (Y.ixSlA Try.underlying39 Try.sizeOf34 rfl rfl (hr.addr hk2) (nat0 _) (get_ltI hk2)) rfl rfl rfl ?_
 refine WL.val (Y.loadAc wd_34 rfl (r := x.cl) rfl (fun a w s j hj => (hr.below s.low).full hk2 j hj)) rfl rfl rfl ?_
 refine WL.eff (E.alloc Try.zeroValue34 rfl rfl) rfl (fun b2 => ?_)
 refine WL.eff (E.store Try.sizeOf34 rfl rfl rfl rfl rfl u0 rfl rfl) rfl (fun _ => ?_)
 refine WL.nil ?_
 refine WQ.next ?_
 refine WC.seq ?_
 refine WC.region ?_
 refine WL.pure (Y.fieldAddr fa_34_3 rfl) rfl rfl rfl ?_
 refine WL.val (Y.load fl_3 rfl m1 rfl) rfl rfl rfl ?_
 refine WL.pure (Y.fieldAddr fa_34_3 rfl) rfl rfl rfl ?_
 refine WL.val (Y.load fl_3 rfl m0 rfl) rfl rfl rfl ?_
 refine WL.pure (Y.eql rfl rfl) rfl rfl rfl ?_
 refine WL.pure (Y.move rfl) rfl rfl rfl ?_
 refine WL.split (t := 99) rfl (fun r h99 => ?_)
 cases r
 refine WL.guardF rfl rfl rfl rfl rfl rfl ?_
 refine WL.guardF rfl rfl rfl rfl rfl rfl ?_
 refine WL.guardF rfl rfl rfl rfl rfl rfl ?_
 refine WL.guardF rfl rfl rfl rfl rfl rfl ?_
 refine WL.guardF rfl rfl rfl rfl rfl rfl ?_
 refine WL.pure (Y.pickF rfl rfl) rfl rfl rfl ?_
 refine WL.pure (Y.move rfl) rfl rfl rfl ?_
 refine WL.guardF rfl rfl rfl rfl rfl rfl ?_
 refine WL.guardF rfl rfl rfl rfl rfl rfl ?_
 refine WL.guardF rfl rfl rfl rfl rfl rfl ?_
 refine WL.guardF rfl rfl rfl rfl rfl rfl ?_
 refine WL.guardF rfl rfl rfl rfl rfl rfl ?_
 refine WL.pure (Y.pickF rfl rfl) rfl rfl rfl ?_
 refine WL.pure (Y.move rfl) rfl rfl rfl ?_
 refine WL.guardF rfl rfl rfl rfl rfl rfl ?_
 refine WL.guardF rfl rfl rfl rfl rfl rfl ?_
 refine WL.guardF rfl rfl rfl rfl rfl rfl ?_
 refine WL.guardF rfl rfl rfl rfl rfl rfl ?_
 refine WL.guardF rfl rfl rfl rfl rfl rfl ?_
 refine WL.pure (Y.pickF rfl rfl) rfl rfl rfl ?_
 refine WL.pure (Y.move rfl) rfl rfl rfl ?_
 refine WL.guardF rfl rfl rfl rfl rfl rfl ?_
 refine WL.guardF rfl rfl rfl rfl rfl rfl ?_
 refine WL.guardF rfl rfl rfl rfl rfl rfl ?_
 refine WL.guardF rfl rfl rfl rfl rfl rfl ?_
 refine WL.guardF rfl rfl rfl rfl rfl rfl ?_
 refine WL.pure (Y.pickF rfl rfl) rfl rfl rfl ?_
 refine WL.pure (Y.assign rfl) rfl rfl rfl ?_
 refine WL.nil ?_
 refine WQ.next ?_
 refine WC.ret ?_
 refine WQ.blockRet ?_
 refine WQ.thenRet ?_
 refine WQ.done Try.results122 (RVs.cons (RV.tmp rfl) RVs.nil) (fun a w s => ?_)
 · refine ⟨?_, s.low⟩
   clear s hbd
   simp only [packed]
   apply retb
   try simp only [beq4, beq3, beq2, beq0] at *
   unfold follows
   rw [hu]
   dsimp only
   rw [recAt_rev hk2]
   simp_all
 refine WL.guardT rfl rfl rfl ?_
 refine WL.pure (Y.fieldAddr fa_34_4 rfl) rfl rfl rfl ?_
 refine WL.guardT rfl rfl rfl ?_
 refine WL.val (Y.load fl_3 rfl m1 rfl) rfl rfl rfl ?_
 refine WL.guardT rfl rfl rfl ?_
 refine WL.pure (Y.fieldAddr fa_34_4 rfl) rfl rfl rfl ?_
 refine WL.guardT rfl rfl rfl ?_
 refine WL.val (Y.load fl_3 rfl m0 rfl) rfl rfl rfl ?_
 refine WL.guardT rfl rfl rfl ?_
 refine WL.pure (Y.eql rfl rfl) rfl rfl rfl ?_
 refine WL.pure (Y.pickT rfl rfl) rfl rfl rfl ?_
 refine WL.pure (Y.move rfl) rfl rfl rfl ?_
 refine WL.split (t := 106) rfl (fun r h106 => ?_)
 cases r
 refine WL.guardF rfl rfl rfl rfl rfl rfl ?_
 refine WL.guardF rfl rfl rfl rfl rfl rfl ?_
 refine WL.guardF rfl rfl rfl rfl rfl rfl ?_
 refine WL.guardF rfl rfl rfl rfl rfl rfl ?_
 refine WL.guardF rfl rfl rfl rfl rfl rfl ?_
 refine WL.pure (Y.pickF rfl rfl) rfl rfl rfl ?_
 refine WL.pure (Y.move rfl) rfl rfl rfl ?_
 refine WL.guardF rfl rfl rfl rfl rfl rfl ?_
 refine WL.guardF rfl rfl rfl rfl rfl rfl ?_
 refine WL.guardF rfl rfl rfl rfl rfl rfl ?_
 refine WL.guardF rfl rfl rfl rfl rfl rfl ?_
 refine WL.guardF rfl rfl rfl rfl rfl rfl ?_
 refine WL.pure (Y.pickF rfl rfl) rfl rfl rfl ?_
 refine WL.pure (Y.move rfl) rfl rfl rfl ?_
 refine WL.guardF rfl rfl rfl rfl rfl rfl ?_
 refine WL.guardF rfl rfl rfl rfl rfl rfl ?_
 refine WL.guardF rfl rfl rfl rfl rfl rfl ?_
 refine WL.guardF rfl rfl rfl rfl rfl rfl ?_
 refine WL.guardF rfl rfl rfl rfl rfl rfl ?_
 refine WL.pure (Y.pickF rfl rfl) rfl rfl rfl ?_
 refine WL.pure (Y.assign rfl) rfl rfl rfl ?_
 refine WL.nil ?_
 refine WQ.next ?_
 refine WC.ret ?_
 refine WQ.blockRet ?_
 refine WQ.thenRet ?_
 refine WQ.done Try.results122 (RVs.cons (RV.tmp rfl) RVs.nil) (fun a w s => ?_)
 · refine ⟨?_, s.low⟩
   clear s hbd
   simp only [packed]
   apply retb
   try simp only [beq4, beq3, beq2, beq0] at *
   unfold follows
   rw [hu]
   dsimp only
   rw [recAt_rev hk2]
   simp_all
 refine WL.guardT rfl rfl rfl ?_
 refine WL.pure (Y.fieldAddr fa_34_5 rfl) rfl rfl rfl ?_
 refine WL.guardT rfl rfl rfl ?_
 refine WL.val (Y.load fl_3 rfl m1 rfl) rfl rfl rfl ?_
 refine WL.guardT rfl rfl rfl ?_
 refine WL.pure (Y.fieldAddr fa_34_6 rfl) rfl rfl rfl ?_
 refine WL.guardT rfl rfl rfl ?_
 refine WL.val (Y.load fl_3 rfl m0 rfl) rfl rfl rfl ?_
 refine WL.guardT rfl rfl rfl ?_
 refine WL.pure (Y.eql rfl rfl) rfl rfl rfl ?_
 refine WL.pure (Y.pickT rfl rfl) rfl rfl rfl ?_
 refine WL.pure (Y.move rfl) rfl rfl rfl ?_
 refine WL.split (t := 113) rfl (fun r h113 => ?_)
 cases r
 refine WL.guardF rfl rfl rfl rfl rfl rfl ?_
 refine WL.guardF rfl rfl rfl rfl rfl rfl ?_
 refine WL.guardF rfl rfl rfl rfl rfl rfl ?_
 refine WL.guardF rfl rfl rfl rfl rfl rfl ?_
 refine WL.guardF rfl rfl rfl rfl rfl rfl ?_
 refine WL.pure (Y.pickF rfl rfl) rfl rfl rfl ?_
 refine WL.pure (Y.move rfl) rfl rfl rfl ?_
 refine WL.guardF rfl rfl rfl rfl rfl rfl ?_
 refine WL.guardF rfl rfl rfl rfl rfl rfl ?_
 refine WL.guardF rfl rfl rfl rfl rfl rfl ?_
 refine WL.guardF rfl rfl rfl rfl rfl rfl ?_
 refine WL.guardF rfl rfl rfl rfl rfl rfl ?_
 refine WL.pure (Y.pickF rfl rfl) rfl rfl rfl ?_
 refine WL.pure (Y.assign rfl) rfl rfl rfl ?_
 refine WL.nil ?_
 refine WQ.next ?_
 refine WC.ret ?_
 refine WQ.blockRet ?_
 refine WQ.thenRet ?_
 refine WQ.done Try.results122 (RVs.cons (RV.tmp rfl) RVs.nil) (fun a w s => ?_)
 · refine ⟨?_, s.low⟩
   clear s hbd
   simp only [packed]
   apply retb
   try simp only [beq4, beq3, beq2, beq0] at *
   unfold follows
   rw [hu]
   dsimp only
   rw [recAt_rev hk2]
   simp_all
 refine WL.guardT rfl rfl rfl ?_
 refine WL.pure (Y.fieldAddr fa_34_6 rfl) rfl rfl rfl ?_
 refine WL.guardT rfl rfl rfl ?_
 refine WL.val (Y.load fl_3 rfl m1 rfl) rfl rfl rfl ?_
 refine WL.guardT rfl rfl rfl ?_
 refine WL.pure (Y.fieldAddr fa_34_5 rfl) rfl rfl rfl ?_
 refine WL.guardT rfl rfl rfl ?_
 refine WL.val (Y.load fl_3 rfl m0 rfl) rfl rfl rfl ?_
 refine WL.guardT rfl rfl rfl ?_
 refine WL.pure (Y.eql rfl rfl) rfl rfl rfl ?_
 refine WL.pure (Y.pickT rfl rfl) rfl rfl rfl ?_
 refine WL.pure (Y.move rfl) rfl rfl rfl ?_
 refine WL.split (t := 120) rfl (fun r h120 => ?_)
 cases r
 refine WL.guardF rfl rfl rfl rfl rfl rfl ?_
 refine WL.guardF rfl rfl rfl rfl rfl rfl ?_
 refine WL.guardF rfl rfl rfl rfl rfl rfl ?_
 refine WL.guardF rfl rfl rfl rfl rfl rfl ?_
 refine WL.guardF rfl rfl rfl rfl rfl rfl ?_
 refine WL.pure (Y.pickF rfl rfl) rfl rfl rfl ?_
 refine WL.pure (Y.assign rfl) rfl rfl rfl ?_
 refine WL.nil ?_
 refine WQ.next ?_
 refine WC.ret ?_
 refine WQ.blockRet ?_
 refine WQ.thenRet ?_
 refine WQ.done Try.results122 (RVs.cons (RV.tmp rfl) RVs.nil) (fun a w s => ?_)
 · refine ⟨?_, s.low⟩
   clear s hbd
   simp only [packed]
   apply retb
   try simp only [beq4, beq3, beq2, beq0] at *
   unfold follows
   rw [hu]
   dsimp only
   rw [recAt_rev hk2]
   simp_all
 refine WL.guardT rfl rfl rfl ?_
 refine WL.pure (Y.fieldAddr fa_34_7 rfl) rfl rfl rfl ?_
 refine WL.guardT rfl rfl rfl ?_
 refine WL.val (Y.load fl_3 rfl m1 rfl) rfl rfl rfl ?_
 refine WL.guardT rfl rfl rfl ?_
 refine WL.pure (Y.fieldAddr fa_34_2 rfl) rfl rfl rfl ?_
 refine WL.guardT rfl rfl rfl ?_
 refine WL.val (Y.load fl_3 rfl m0 rfl) rfl rfl rfl ?_
 refine WL.guardT rfl rfl rfl ?_
 refine WL.pure (Y.eql rfl rfl) rfl rfl rfl ?_
 refine WL.pure (Y.pickT rfl rfl) rfl rfl rfl ?_
 refine WL.pure (Y.assign rfl) rfl rfl rfl ?_
 refine WL.nil ?_
 refine WQ.next ?_
 refine WC.ret ?_
 refine WQ.blockRet ?_
 refine WQ.thenRet ?_
 refine WQ.done Try.results122 (RVs.cons (RV.tmp rfl) RVs.nil) (fun a w s => ?_)
 · refine ⟨?_, s.low⟩
   clear s hbd
   simp only [packed]
   apply retb
   try simp only [beq4, beq3, beq2, beq0] at *
   unfold follows
   rw [hu]
   dsimp only
   rw [recAt_rev hk2]
   simp_all
 refine WC.skip' ?_
 refine WQ.blockEnd ?_
 refine WQ.next ?_
 refine WC.seq ?_
 refine WC.region ?_
 refine WL.pure (Y.move rfl) rfl rfl rfl ?_
 refine WL.pure (Y.eql rfl rfl) rfl rfl rfl ?_
 refine WL.pure (Y.move rfl) rfl rfl rfl ?_
 refine WL.split (t := 129) rfl (fun r h129 => ?_)
 cases r
 refine WL.guardT rfl rfl rfl ?_
 refine WL.pure (Y.move rfl) rfl rfl rfl ?_
 refine WL.guardT rfl rfl rfl ?_
 refine WL.pure (Y.eql rfl rfl) rfl rfl rfl ?_
 refine WL.guardT rfl rfl rfl ?_
 refine WL.pure (Y.move rfl) rfl rfl rfl ?_
 refine WL.split (t := 132) rfl (fun r h132 => ?_)
 cases r
 refine WL.guardF rfl rfl rfl rfl rfl rfl ?_
 refine WL.guardF rfl rfl rfl rfl rfl rfl ?_
 refine WL.guardF rfl rfl rfl rfl rfl rfl ?_
 refine WL.guardT rfl rfl rfl ?_
 refine WL.pure (Y.pickF rfl rfl) rfl rfl rfl ?_
 refine WL.pure (Y.pickF rfl rfl) rfl rfl rfl ?_
 refine WL.pure (Y.assign rfl) rfl rfl rfl ?_
 refine WL.nil ?_
 refine WQ.next ?_
 refine WC.ret ?_
 refine WQ.done Try.results122 (RVs.cons (RV.tmp rfl) RVs.nil) (fun a w s => ?_)
 · refine ⟨?_, s.low⟩
   clear s hbd
   simp only [packed]
   apply retb
   try simp only [beq4, beq3, beq2, beq0] at *
   unfold follows
   simp_all
 refine WL.guardT rfl rfl rfl ?_
 refine WL.pure (Y.move rfl) rfl rfl rfl ?_
 refine WL.guardT rfl rfl rfl ?_
 refine WL.pure (Y.len Try.underlying64 rfl) rfl rfl rfl ?_
 refine WL.guardT rfl rfl rfl ?_
 refine WL.pure (Y.eql rfl rfl) rfl rfl rfl ?_
 refine WL.guardT rfl rfl rfl ?_
 refine WL.pure (Y.pickT rfl rfl) rfl rfl rfl ?_
 refine WL.pure (Y.pickF rfl rfl) rfl rfl rfl ?_
 refine WL.pure (Y.assign rfl) rfl rfl rfl ?_
 refine WL.nil ?_
 refine WQ.next ?_
 refine WC.ret ?_
 refine WQ.done Try.results122 (RVs.cons (RV.tmp rfl) RVs.nil) (fun a w s => ?_)
 · refine ⟨?_, s.low⟩
   clear s hbd
   simp only [packed]
   apply retb
   try simp only [beq4, beq3, beq2, beq0] at *
   unfold follows
   simp_all
 refine WL.guardF rfl rfl rfl rfl rfl rfl ?_
 refine WL.guardF rfl rfl rfl rfl rfl rfl ?_
 refine WL.guardF rfl rfl rfl rfl rfl rfl ?_
 refine WL.guardU rfl rfl rfl rfl rfl ?_
 refine WL.guardU rfl rfl rfl rfl rfl ?_
 refine WL.guardU rfl rfl rfl rfl rfl ?_
 refine WL.guardF rfl rfl rfl rfl rfl rfl ?_
 refine WL.pure (Y.pickT rfl rfl) rfl rfl rfl ?_
 refine WL.pure (Y.assign rfl) rfl rfl rfl ?_
 refine WL.nil ?_
 refine WQ.next ?_
 refine WC.ret ?_
 refine WQ.done Try.results122 (RVs.cons (RV.tmp rfl) RVs.nil) (fun a w s => ?_)
 · refine ⟨?_, s.low⟩
   clear s hbd
   simp only [packed]
   apply retb
   try simp only [beq4, beq3, beq2, beq0] at *
   unfold follows
   simp_all
 refine WDm.quiet (QS.guardT rfl rfl rfl (QS.pure (Y.fieldAddr fa_34_0 rfl) rfl rfl)) rfl rfl rfl ?_
 refine WDm.quiet (QS.guardT rfl rfl rfl (QS.val (Y.load fl_3 rfl m0 rfl) rfl rfl)) rfl rfl rfl ?_
 refine WDm.quiet (QS.guardT rfl rfl rfl (QS.pure (Y.neq rfl rfl) rfl rfl)) rfl rfl rfl ?_
 refine WDm.quiet (QS.guardT rfl rfl rfl (QS.pure (Y.pickT rfl rfl) rfl rfl)) rfl rfl rfl ?_
 refine WDm.quiet (QS.guardT rfl rfl rfl (QS.pure (Y.move rfl) rfl rfl)) rfl rfl rfl ?_
 refine WDm.split (t := 40) rfl (fun r h40 => ?_)
 cases r
 refine WDm.quiet (QS.guardF rfl rfl rfl rfl rfl) rfl rfl rfl ?_
 refine WDm.quiet (QS.guardF rfl rfl rfl rfl rfl) rfl rfl rfl ?_
 refine WDm.quiet (QS.guardF rfl rfl rfl rfl rfl) rfl rfl rfl ?_
 refine WDm.quiet (QS.guardT rfl rfl rfl (QS.pure (Y.pickF rfl rfl) rfl rfl)) rfl rfl rfl ?_
 refine WDm.quiet (QS.pure (Y.pickF rfl rfl) rfl rfl) rfl rfl rfl ?_
 refine WDm.nil (WQ.and ?_)
 refine WQ.next ?_
 refine WC.condF rfl ?_
 refine WC.skip' ?_
 refine WQ.next ?_
 refine WC.seq ?_
 refine WC.region ?_
 refine WL.pure (Y.move rfl) rfl rfl rfl ?_
 refine WL.pure (Y.fieldAddr fa_34_1 rfl) rfl rfl rfl ?_
 refine WL.val (Y.load fl_3 rfl m0 rfl) rfl rfl rfl ?_
 refine WL.eff (E.callF (fun i : Option Addr × Nat => .slice i.1 (ups l.reverse r.txn).length i.2) (fun i => SF.own w.heap.size 3 1 (.slice i.1 (ups l.reverse r.txn).length i.2) (ups l.reverse r.txn).length (nums (ups l.reverse r.txn).reverse)) Try.call153 rfl (fun _ w s => (w_stands l A b o c r.txn w hl (hr.below s.low) (hR.fit _)).mono fun e w' ⟨i, he, hb, ho⟩ => ⟨i, he, hb, ownsRow_le ho s.low.size, fun g hg => .inl (ho.lt g hg).1⟩) rfl) rfl (fun i => ?_)
 refine WL.pure (Y.assign rfl) rfl rfl rfl ?_
 refine WL.nil ?_
 refine WQ.next ?_
 refine WC.seq ?_
 refine WC.seq ?_
 refine WC.region ?_
 refine WL.pure (Y.fieldAddr fa_34_0 rfl) rfl rfl rfl ?_
 refine WL.val (Y.load fl_3 rfl m0 rfl) rfl rfl rfl ?_
 refine WL.nil ?_
 refine WQ.next ?_
 refine WC.block ?_
 refine WC.seq ?_
 refine WC.region ?_
 refine WL.pure (Y.eql rfl rfl) rfl rfl rfl ?_
 refine WL.pure (Y.assign rfl) rfl rfl rfl ?_
 refine WL.nil ?_
 refine WQ.next ?_
 refine WC.cond rfl (fun h52 => ?_) (fun h52 => ?_)
 refine WC.seq ?_
 have hk1 : r.kind = 1 := by simpa using h52
 obtain ⟨hp, hc, _⟩ := hbd.2.2.2.2.2.2.2.2.1 (by simp [R.turns, hk1])
 refine WC.drop [4] ?_
 refine WC.draw [(0, .q false), (1, .q true), (2, .q false), (3, .q true), (4, .q false), (5, .q true), (6, .q false), (7, .q false), (8, .q false), (9, .q true), (10, .q false), (11, .q false), (12, .q false), (13, .q false), (14, .q false), (15, .q true), (16, .q false), (17, .q true), (18, .q false), (19, .q true), (20, .q true), (21, .q false), (22, .q false), (23, .q false)] mixed (by kernel_rfl) ?_
 refine WDm.quiet (QS.pure (Y.fieldAddr fa_34_5 rfl) rfl rfl) rfl rfl rfl ?_
 refine WDm.quiet (QS.val (Y.load fl_3 rfl m0 rfl) rfl rfl) rfl rfl rfl ?_
 refine WDm.quiet (QS.pure (Y.move rfl) rfl rfl) rfl rfl rfl ?_
 refine WDm.quiet (QS.call Try.call123 rfl (fun _ w s => w_pages l A b o c w hl (hr.below s.low) hR.inR.rev)) rfl rfl rfl ?_
 refine WDm.quiet (QS.pure (Y.fieldAddr fa_34_3 rfl) rfl rfl) rfl rfl rfl ?_
 refine WDm.quiet (QS.val (Y.load fl_3 rfl m0 rfl) rfl rfl) rfl rfl rfl ?_
 refine WDm.quiet (QS.pure (Y.indexK rfl rfl (ix_pages _ _ hp)) rfl rfl) rfl rfl rfl ?_
 refine WDm.quiet (QS.pure (Y.fieldK rfl (fd_cells _)) rfl rfl) rfl rfl rfl ?_
 refine WDm.quiet (QS.pure (Y.fieldAddr fa_34_4 rfl) rfl rfl) rfl rfl rfl ?_
 refine WDm.quiet (QS.val (Y.load fl_3 rfl m0 rfl) rfl rfl) rfl rfl rfl ?_
 refine WDm.quiet (QS.pure (Y.indexK rfl rfl (ix_cells _ _ hc)) rfl rfl) rfl rfl rfl ?_
 refine WDm.quiet (QS.pure (Y.eql rfl rfl) rfl rfl) rfl rfl rfl ?_
 refine WDm.quiet (QS.pure (Y.move rfl) rfl rfl) rfl rfl rfl ?_
 refine WDm.split (t := 66) rfl (fun r h66 => ?_)
 cases r
 refine WDm.quiet (QS.guardF rfl rfl rfl rfl rfl) rfl rfl rfl ?_
 refine WDm.quiet (QS.guardF rfl rfl rfl rfl rfl) rfl rfl rfl ?_
 refine WDm.quiet (QS.guardF rfl rfl rfl rfl rfl) rfl rfl rfl ?_
 refine WDm.quiet (QS.guardF rfl rfl rfl rfl rfl) rfl rfl rfl ?_
 refine WDm.quiet (QS.guardF rfl rfl rfl rfl rfl) rfl rfl rfl ?_
 refine WDm.quiet (QS.guardF rfl rfl rfl rfl rfl) rfl rfl rfl ?_
 refine WDm.quiet (QS.guardF rfl rfl rfl rfl rfl) rfl rfl rfl ?_
 refine WDm.quiet (QS.guardF rfl rfl rfl rfl rfl) rfl rfl rfl ?_
 refine WDm.quiet (QS.guardF rfl rfl rfl rfl rfl) rfl rfl rfl ?_
 refine WDm.quiet (QS.pure (Y.pickF rfl rfl) rfl rfl) rfl rfl rfl ?_
 refine WDm.quiet (QS.pure (Y.assign rfl) rfl rfl) rfl rfl rfl ?_
 refine WDm.nil (WQ.and ?_)
 refine WQ.next ?_
 refine WC.ret ?_
 refine WQ.blockRet ?_
 refine WQ.thenRet ?_
 refine WQ.done Try.results122 (RVs.cons (RV.tmp rfl) RVs.nil) (fun a w s => ?_)
 · refine ⟨?_, s.low⟩
   clear s hbd
   simp only [packed]
   apply retb
   try simp only [beq4, beq3, beq2, beq0] at *
   unfold follows
   simp_all
 refine WDm.quiet (QS.guardT rfl rfl rfl (QS.pure (Y.move rfl) rfl rfl)) rfl rfl rfl ?_
 refine WDm.quiet (QS.guardT rfl rfl rfl (QS.pure (Y.fieldAddr fa_34_1 rfl) rfl rfl)) rfl rfl rfl ?_
 refine WDm.quiet (QS.guardT rfl rfl rfl (QS.val (Y.load fl_3 rfl m0 rfl) rfl rfl)) rfl rfl rfl ?_
 refine WDm.quiet (QS.guardT rfl rfl rfl (QS.pure (Y.fieldAddr fa_34_3 rfl) rfl rfl)) rfl rfl rfl ?_
 refine WDm.quiet (QS.guardT rfl rfl rfl (QS.val (Y.load fl_3 rfl m0 rfl) rfl rfl)) rfl rfl rfl ?_
 refine WDm.quiet (QS.guardT rfl rfl rfl (QS.pure (Y.fieldAddr fa_34_4 rfl) rfl rfl)) rfl rfl rfl ?_
 refine WDm.quiet (QS.guardT rfl rfl rfl (QS.val (Y.load fl_3 rfl m0 rfl) rfl rfl)) rfl rfl rfl ?_
 refine WDm.quiet (QS.guardT rfl rfl rfl (QS.call Try.call145 rfl (fun _ w s => w_taken l A b o c _ _ _ w hl (hr.below s.low) hR.fit))) rfl rfl rfl ?_
 refine WDm.quiet (QS.guardT rfl rfl rfl (QS.pure (Y.not rfl) rfl rfl)) rfl rfl rfl ?_
 refine WDm.quiet (QS.pure (Y.pickT rfl rfl) rfl rfl) rfl rfl rfl ?_
 refine WDm.quiet (QS.pure (Y.assign rfl) rfl rfl) rfl rfl rfl ?_
 refine WDm.nil (WQ.and ?_)
 refine WQ.next ?_
 refine WC.ret ?_
 refine WQ.blockRet ?_
 refine WQ.thenRet ?_
 refine WQ.done Try.results122 (RVs.cons (RV.tmp rfl) RVs.nil) (fun a w s => ?_)
 · refine ⟨?_, s.low⟩
   clear s hbd
   simp only [packed]
   apply retb
   try simp only [beq4, beq3, beq2, beq0] at *
   unfold follows
   simp_all
 refine WC.seq ?_
 refine WC.region ?_
 refine WL.pure (Y.eql rfl rfl) rfl rfl rfl ?_
 refine WL.pure (Y.assign rfl) rfl rfl rfl ?_
 refine WL.nil ?_
 refine WQ.next ?_
 refine WC.cond rfl (fun h77 => ?_) (fun h77 => ?_)
 refine WC.seq ?_
 refine WC.region ?_
 refine WL.pure (Y.assign rfl) rfl rfl rfl ?_
 refine WL.nil ?_
 refine WQ.next ?_
 refine WC.ret ?_
 refine WQ.blockRet ?_
 refine WQ.thenRet ?_
 refine WQ.done Try.results122 (RVs.cons (RV.tmp rfl) RVs.nil) (fun a w s => ?_)
 · refine ⟨?_, s.low⟩
   clear s hbd
   simp only [packed]
   apply retb
   try simp only [beq4, beq3, beq2, beq0] at *
   unfold follows
   simp_all
 refine WC.seq ?_
 refine WC.region ?_
 refine WL.pure (Y.eql rfl rfl) rfl rfl rfl ?_
 refine WL.pure (Y.assign rfl) rfl rfl rfl ?_
 refine WL.nil ?_
 refine WQ.next ?_
 refine WC.cond rfl (fun h79 => ?_) (fun h79 => ?_)
 refine WC.seq ?_
 refine WC.seq ?_
 refine WC.region ?_
 refine WL.pure (Y.move rfl) rfl rfl rfl ?_
 refine WL.pure (Y.len Try.underlying64 rfl) rfl rfl rfl ?_
 refine WL.pure (Y.eql rfl rfl) rfl rfl rfl ?_
 refine WL.nil ?_
 refine WQ.next ?_
 refine WC.cond rfl (fun h83 => ?_) (fun h83 => ?_)
 refine WC.seq ?_
 refine WC.region ?_
 refine WL.pure (Y.assign rfl) rfl rfl rfl ?_
 refine WL.nil ?_
 refine WQ.next ?_
 refine WC.ret ?_
 refine WQ.thenRet ?_
 refine WQ.blockRet ?_
 refine WQ.thenRet ?_
 refine WQ.done Try.results122 (RVs.cons (RV.tmp rfl) RVs.nil) (fun a w s => ?_)
 · refine ⟨?_, s.low⟩
   clear s hbd
   simp only [packed]
   apply retb
   try simp only [beq4, beq3, beq2, beq0] at *
   unfold follows
   simp_all
 refine WC.skip' ?_
 refine WQ.next ?_
 refine WC.seq ?_
 refine WC.region ?_
 obtain ⟨m, us, hu⟩ := up_some h83
 obtain ⟨hm1, hm2⟩ := ups_le (h := l.reverse) (t := r.txn) (n := m) (by rw [hu]; exact List.Mem.head _)
 rw [List.length_reverse] at hm2
 have hlen : 1 ≤ (ups l.reverse r.txn).length := by rw [hu]; simp
 have hule := wrs_len l.reverse r.txn
 have hul : (ups l.reverse r.txn).length ≤ l.length := by rw [ups_len]; simp at hule; omega
 have hm := up_top hu
 obtain ⟨x, hk2⟩ := get_of_lt (l := l) (k := m - 1) (by omega)
 refine WL.know (p := ∃ g, i.1 = some ⟨g, 0, none⟩) (fun a w s => by obtain ⟨g, hA, _⟩ := own_cell s.fact.2 (nums_get hm); exact ⟨g, hA⟩) (fun ⟨g, hA⟩ => ?_)
 refine WL.pure (Y.move rfl) rfl rfl rfl ?_
 refine WL.pure (Y.move rfl) rfl rfl rfl ?_
 refine WL.pure (Y.move rfl) rfl rfl rfl ?_
 refine WL.pure (Y.len Try.underlying64 rfl) rfl rfl rfl ?_
 refine WL.pure (Y.sub rfl rfl (i64_sub1 hlen (by omega))) rfl rfl rfl ?_
 refine WL.pure (Y.ixSlA Try.underlying64 Try.sizeOf3 rfl rfl hA (nat0 _) (by omega)) rfl rfl rfl ?_
 refine WL.val (Y.loadc fl_3 rfl (v := .int .i64 (m : Int)) (fun a w s => by obtain ⟨g2, hA2, hc⟩ := own_cell s.fact.2 (nums_get hm); cases hA.symm.trans hA2; simpa using hc)) rfl rfl rfl ?_
 refine WL.pure (Y.sub rfl rfl (i64_sub1 hm1 (by omega))) rfl rfl rfl ?_
 refine WL.pure (Y.ixSlA Try.underlying39 Try.sizeOf34 rfl rfl (hr.addr hk2) (nat0 _) (get_ltI hk2)) rfl rfl rfl ?_
 refine WL.val (Y.loadAc wd_34 rfl (r := x.cl) rfl (fun a w s j hj => (hr.below s.low).full hk2 j hj)) rfl rfl rfl ?_
 refine WL.eff (E.alloc Try.zeroValue34 rfl rfl) rfl (fun b3 => ?_)
 refine WL.eff (E.store Try.sizeOf34 rfl rfl rfl rfl rfl u0 rfl rfl) rfl (fun _ => ?_)
 refine WL.nil ?_
 refine WQ.next ?_
 refine WC.seq ?_
 refine WC.region ?_
 refine WL.pure (Y.fieldAddr fa_34_3 rfl) rfl rfl rfl ?_
 refine WL.val (Y.load fl_3 rfl m1 rfl) rfl rfl rfl ?_
 refine WL.pure (Y.fieldAddr fa_34_3 rfl) rfl rfl rfl ?_
 refine WL.val (Y.load fl_3 rfl m0 rfl) rfl rfl rfl ?_
 refine WL.pure (Y.eql rfl rfl) rfl rfl rfl ?_
 refine WL.pure (Y.move rfl) rfl rfl rfl ?_
 refine WL.split (t := 99) rfl (fun r h99 => ?_)
 cases r
 refine WL.guardF rfl rfl rfl rfl rfl rfl ?_
 refine WL.guardF rfl rfl rfl rfl rfl rfl ?_
 refine WL.guardF rfl rfl rfl rfl rfl rfl ?_
 refine WL.guardF rfl rfl rfl rfl rfl rfl ?_
 refine WL.guardF rfl rfl rfl rfl rfl rfl ?_
 refine WL.pure (Y.pickF rfl rfl) rfl rfl rfl ?_
 refine WL.pure (Y.move rfl) rfl rfl rfl ?_
 refine WL.guardF rfl rfl rfl rfl rfl rfl ?_
 refine WL.guardF rfl rfl rfl rfl rfl rfl ?_
 refine WL.guardF rfl rfl rfl rfl rfl rfl ?_
 refine WL.guardF rfl rfl rfl rfl rfl rfl ?_
 refine WL.guardF rfl rfl rfl rfl rfl rfl ?_
 refine WL.pure (Y.pickF rfl rfl) rfl rfl rfl ?_
 refine WL.pure (Y.move rfl) rfl rfl rfl ?_
 refine WL.guardF rfl rfl rfl rfl rfl rfl ?_
 refine WL.guardF rfl rfl rfl rfl rfl rfl ?_
 refine WL.guardF rfl rfl rfl rfl rfl rfl ?_
 refine WL.guardF rfl rfl rfl rfl rfl rfl ?_
 refine WL.guardF rfl rfl rfl rfl rfl rfl ?_
 refine WL.pure (Y.pickF rfl rfl) rfl rfl rfl ?_
 refine WL.pure (Y.move rfl) rfl rfl rfl ?_
 refine WL.guardF rfl rfl rfl rfl rfl rfl ?_
 refine WL.guardF rfl rfl rfl rfl rfl rfl ?_
 refine WL.guardF rfl rfl rfl rfl rfl rfl ?_
 refine WL.guardF rfl rfl rfl rfl rfl rfl ?_
 refine WL.guardF rfl rfl rfl rfl rfl rfl ?_
 refine WL.pure (Y.pickF rfl rfl) rfl rfl rfl ?_
 refine WL.pure (Y.assign rfl) rfl rfl rfl ?_
 refine WL.nil ?_
 refine WQ.next ?_
 refine WC.ret ?_
 refine WQ.blockRet ?_
 refine WQ.thenRet ?_
 refine WQ.done Try.results122 (RVs.cons (RV.tmp rfl) RVs.nil) (fun a w s => ?_)
 · refine ⟨?_, s.low⟩
   clear s hbd
   simp only [packed]
   apply retb
   try simp only [beq4, beq3, beq2, beq0] at *
   unfold follows
   rw [hu]
   dsimp only
   rw [recAt_rev hk2]
   simp_all
 refine WL.guardT rfl rfl rfl ?_
 refine WL.pure (Y.fieldAddr fa_34_4 rfl) rfl rfl rfl ?_
 refine WL.guardT rfl rfl rfl ?_
 refine WL.val (Y.load fl_3 rfl m1 rfl) rfl rfl rfl ?_
 refine WL.guardT rfl rfl rfl ?_
 refine WL.pure (Y.fieldAddr fa_34_4 rfl) rfl rfl rfl ?_
 refine WL.guardT rfl rfl rfl ?_
 refine WL.val (Y.load fl_3 rfl m0 rfl) rfl rfl rfl ?_
 refine WL.guardT rfl rfl rfl ?_
 refine WL.pure (Y.eql rfl rfl) rfl rfl rfl ?_
 refine WL.pure (Y.pickT rfl rfl) rfl rfl rfl ?_
 refine WL.pure (Y.move rfl) rfl rfl rfl ?_
 refine WL.split (t := 106) rfl (fun r h106 => ?_)
 cases r
 refine WL.guardF rfl rfl rfl rfl rfl rfl ?_
 refine WL.guardF rfl rfl rfl rfl rfl rfl ?_
 refine WL.guardF rfl rfl rfl rfl rfl rfl ?_
 refine WL.guardF rfl rfl rfl rfl rfl rfl ?_
 refine WL.guardF rfl rfl rfl rfl rfl rfl ?_
 refine WL.pure (Y.pickF rfl rfl) rfl rfl rfl ?_
 refine WL.pure (Y.move rfl) rfl rfl rfl ?_
 refine WL.guardF rfl rfl rfl rfl rfl rfl ?_
 refine WL.guardF rfl rfl rfl rfl rfl rfl ?_
 refine WL.guardF rfl rfl rfl rfl rfl rfl ?_
 refine WL.guardF rfl rfl rfl rfl rfl rfl ?_
 refine WL.guardF rfl rfl rfl rfl rfl rfl ?_
 refine WL.pure (Y.pickF rfl rfl) rfl rfl rfl ?_
 refine WL.pure (Y.move rfl) rfl rfl rfl ?_
 refine WL.guardF rfl rfl rfl rfl rfl rfl ?_
 refine WL.guardF rfl rfl rfl rfl rfl rfl ?_
 refine WL.guardF rfl rfl rfl rfl rfl rfl ?_
 refine WL.guardF rfl rfl rfl rfl rfl rfl ?_
 refine WL.guardF rfl rfl rfl rfl rfl rfl ?_
 refine WL.pure (Y.pickF rfl rfl) rfl rfl rfl ?_
 refine WL.pure (Y.assign rfl) rfl rfl rfl ?_
 refine WL.nil ?_
 refine WQ.next ?_
 refine WC.ret ?_
 refine WQ.blockRet ?_
 refine WQ.thenRet ?_
 refine WQ.done Try.results122 (RVs.cons (RV.tmp rfl) RVs.nil) (fun a w s => ?_)
 · refine ⟨?_, s.low⟩
   clear s hbd
   simp only [packed]
   apply retb
   try simp only [beq4, beq3, beq2, beq0] at *
   unfold follows
   rw [hu]
   dsimp only
   rw [recAt_rev hk2]
   simp_all
 refine WL.guardT rfl rfl rfl ?_
 refine WL.pure (Y.fieldAddr fa_34_5 rfl) rfl rfl rfl ?_
 refine WL.guardT rfl rfl rfl ?_
 refine WL.val (Y.load fl_3 rfl m1 rfl) rfl rfl rfl ?_
 refine WL.guardT rfl rfl rfl ?_
 refine WL.pure (Y.fieldAddr fa_34_6 rfl) rfl rfl rfl ?_
 refine WL.guardT rfl rfl rfl ?_
 refine WL.val (Y.load fl_3 rfl m0 rfl) rfl rfl rfl ?_
 refine WL.guardT rfl rfl rfl ?_
 refine WL.pure (Y.eql rfl rfl) rfl rfl rfl ?_
 refine WL.pure (Y.pickT rfl rfl) rfl rfl rfl ?_
 refine WL.pure (Y.move rfl) rfl rfl rfl ?_
 refine WL.split (t := 113) rfl (fun r h113 => ?_)
 cases r
 refine WL.guardF rfl rfl rfl rfl rfl rfl ?_
 refine WL.guardF rfl rfl rfl rfl rfl rfl ?_
 refine WL.guardF rfl rfl rfl rfl rfl rfl ?_
 refine WL.guardF rfl rfl rfl rfl rfl rfl ?_
 refine WL.guardF rfl rfl rfl rfl rfl rfl ?_
 refine WL.pure (Y.pickF rfl rfl) rfl rfl rfl ?_
 refine WL.pure (Y.move rfl) rfl rfl rfl ?_
 refine WL.guardF rfl rfl rfl rfl rfl rfl ?_
 refine WL.guardF rfl rfl rfl rfl rfl rfl ?_
 refine WL.guardF rfl rfl rfl rfl rfl rfl ?_
 refine WL.guardF rfl rfl rfl rfl rfl rfl ?_
 refine WL.guardF rfl rfl rfl rfl rfl rfl ?_
 refine WL.pure (Y.pickF rfl rfl) rfl rfl rfl ?_
 refine WL.pure (Y.assign rfl) rfl rfl rfl ?_
 refine WL.nil ?_
 refine WQ.next ?_
 refine WC.ret ?_
 refine WQ.blockRet ?_
 refine WQ.thenRet ?_
 refine WQ.done Try.results122 (RVs.cons (RV.tmp rfl) RVs.nil) (fun a w s => ?_)
 · refine ⟨?_, s.low⟩
   clear s hbd
   simp only [packed]
   apply retb
   try simp only [beq4, beq3, beq2, beq0] at *
   unfold follows
   rw [hu]
   dsimp only
   rw [recAt_rev hk2]
   simp_all
 refine WL.guardT rfl rfl rfl ?_
 refine WL.pure (Y.fieldAddr fa_34_6 rfl) rfl rfl rfl ?_
 refine WL.guardT rfl rfl rfl ?_
 refine WL.val (Y.load fl_3 rfl m1 rfl) rfl rfl rfl ?_
 refine WL.guardT rfl rfl rfl ?_
 refine WL.pure (Y.fieldAddr fa_34_5 rfl) rfl rfl rfl ?_
 refine WL.guardT rfl rfl rfl ?_
 refine WL.val (Y.load fl_3 rfl m0 rfl) rfl rfl rfl ?_
 refine WL.guardT rfl rfl rfl ?_
 refine WL.pure (Y.eql rfl rfl) rfl rfl rfl ?_
 refine WL.pure (Y.pickT rfl rfl) rfl rfl rfl ?_
 refine WL.pure (Y.move rfl) rfl rfl rfl ?_
 refine WL.split (t := 120) rfl (fun r h120 => ?_)
 cases r
 refine WL.guardF rfl rfl rfl rfl rfl rfl ?_
 refine WL.guardF rfl rfl rfl rfl rfl rfl ?_
 refine WL.guardF rfl rfl rfl rfl rfl rfl ?_
 refine WL.guardF rfl rfl rfl rfl rfl rfl ?_
 refine WL.guardF rfl rfl rfl rfl rfl rfl ?_
 refine WL.pure (Y.pickF rfl rfl) rfl rfl rfl ?_
 refine WL.pure (Y.assign rfl) rfl rfl rfl ?_
 refine WL.nil ?_
 refine WQ.next ?_
 refine WC.ret ?_
 refine WQ.blockRet ?_
 refine WQ.thenRet ?_
 refine WQ.done Try.results122 (RVs.cons (RV.tmp rfl) RVs.nil) (fun a w s => ?_)
 · refine ⟨?_, s.low⟩
   clear s hbd
   simp only [packed]
   apply retb
   try simp only [beq4, beq3, beq2, beq0] at *
   unfold follows
   rw [hu]
   dsimp only
   rw [recAt_rev hk2]
   simp_all
 refine WL.guardT rfl rfl rfl ?_
 refine WL.pure (Y.fieldAddr fa_34_7 rfl) rfl rfl rfl ?_
 refine WL.guardT rfl rfl rfl ?_
 refine WL.val (Y.load fl_3 rfl m1 rfl) rfl rfl rfl ?_
 refine WL.guardT rfl rfl rfl ?_
 refine WL.pure (Y.fieldAddr fa_34_2 rfl) rfl rfl rfl ?_
 refine WL.guardT rfl rfl rfl ?_
 refine WL.val (Y.load fl_3 rfl m0 rfl) rfl rfl rfl ?_
 refine WL.guardT rfl rfl rfl ?_
 refine WL.pure (Y.eql rfl rfl) rfl rfl rfl ?_
 refine WL.pure (Y.pickT rfl rfl) rfl rfl rfl ?_
 refine WL.pure (Y.assign rfl) rfl rfl rfl ?_
 refine WL.nil ?_
 refine WQ.next ?_
 refine WC.ret ?_
 refine WQ.blockRet ?_
 refine WQ.thenRet ?_
 refine WQ.done Try.results122 (RVs.cons (RV.tmp rfl) RVs.nil) (fun a w s => ?_)
 · refine ⟨?_, s.low⟩
   clear s hbd
   simp only [packed]
   apply retb
   try simp only [beq4, beq3, beq2, beq0] at *
   unfold follows
   rw [hu]
   dsimp only
   rw [recAt_rev hk2]
   simp_all
 refine WC.skip' ?_
 refine WQ.blockEnd ?_
 refine WQ.next ?_
 refine WC.seq ?_
 refine WC.region ?_
 refine WL.pure (Y.move rfl) rfl rfl rfl ?_
 refine WL.pure (Y.eql rfl rfl) rfl rfl rfl ?_
 refine WL.pure (Y.move rfl) rfl rfl rfl ?_
 refine WL.split (t := 129) rfl (fun r h129 => ?_)
 cases r
 refine WL.guardT rfl rfl rfl ?_
 refine WL.pure (Y.move rfl) rfl rfl rfl ?_
 refine WL.guardT rfl rfl rfl ?_
 refine WL.pure (Y.eql rfl rfl) rfl rfl rfl ?_
 refine WL.guardT rfl rfl rfl ?_
 refine WL.pure (Y.move rfl) rfl rfl rfl ?_
 refine WL.split (t := 132) rfl (fun r h132 => ?_)
 cases r
 refine WL.guardF rfl rfl rfl rfl rfl rfl ?_
 refine WL.guardF rfl rfl rfl rfl rfl rfl ?_
 refine WL.guardF rfl rfl rfl rfl rfl rfl ?_
 refine WL.guardT rfl rfl rfl ?_
 refine WL.pure (Y.pickF rfl rfl) rfl rfl rfl ?_
 refine WL.pure (Y.pickF rfl rfl) rfl rfl rfl ?_
 refine WL.pure (Y.assign rfl) rfl rfl rfl ?_
 refine WL.nil ?_
 refine WQ.next ?_
 refine WC.ret ?_
 refine WQ.done Try.results122 (RVs.cons (RV.tmp rfl) RVs.nil) (fun a w s => ?_)
 · refine ⟨?_, s.low⟩
   clear s hbd
   simp only [packed]
   apply retb
   try simp only [beq4, beq3, beq2, beq0] at *
   unfold follows
   simp_all
 refine WL.guardT rfl rfl rfl ?_
 refine WL.pure (Y.move rfl) rfl rfl rfl ?_
 refine WL.guardT rfl rfl rfl ?_
 refine WL.pure (Y.len Try.underlying64 rfl) rfl rfl rfl ?_
 refine WL.guardT rfl rfl rfl ?_
 refine WL.pure (Y.eql rfl rfl) rfl rfl rfl ?_
 refine WL.guardT rfl rfl rfl ?_
 refine WL.pure (Y.pickT rfl rfl) rfl rfl rfl ?_
 refine WL.pure (Y.pickF rfl rfl) rfl rfl rfl ?_
 refine WL.pure (Y.assign rfl) rfl rfl rfl ?_
 refine WL.nil ?_
 refine WQ.next ?_
 refine WC.ret ?_
 refine WQ.done Try.results122 (RVs.cons (RV.tmp rfl) RVs.nil) (fun a w s => ?_)
 · refine ⟨?_, s.low⟩
   clear s hbd
   simp only [packed]
   apply retb
   try simp only [beq4, beq3, beq2, beq0] at *
   unfold follows
   simp_all
 refine WL.guardF rfl rfl rfl rfl rfl rfl ?_
 refine WL.guardF rfl rfl rfl rfl rfl rfl ?_
 refine WL.guardF rfl rfl rfl rfl rfl rfl ?_
 refine WL.guardU rfl rfl rfl rfl rfl ?_
 refine WL.guardU rfl rfl rfl rfl rfl ?_
 refine WL.guardU rfl rfl rfl rfl rfl ?_
 refine WL.guardF rfl rfl rfl rfl rfl rfl ?_
 refine WL.pure (Y.pickT rfl rfl) rfl rfl rfl ?_
 refine WL.pure (Y.assign rfl) rfl rfl rfl ?_
 refine WL.nil ?_
 refine WQ.next ?_
 refine WC.ret ?_
 refine WQ.done Try.results122 (RVs.cons (RV.tmp rfl) RVs.nil) (fun a w s => ?_)
 · refine ⟨?_, s.low⟩
   clear s hbd
   simp only [packed]
   apply retb
   try simp only [beq4, beq3, beq2, beq0] at *
   unfold follows
   simp_all
 refine WDm.quiet (QS.guardT rfl rfl rfl (QS.pure (Y.fieldAddr fa_34_0 rfl) rfl rfl)) rfl rfl rfl ?_
 refine WDm.quiet (QS.guardT rfl rfl rfl (QS.val (Y.load fl_3 rfl m0 rfl) rfl rfl)) rfl rfl rfl ?_
 refine WDm.quiet (QS.guardT rfl rfl rfl (QS.pure (Y.neq rfl rfl) rfl rfl)) rfl rfl rfl ?_
 refine WDm.quiet (QS.guardT rfl rfl rfl (QS.pure (Y.pickT rfl rfl) rfl rfl)) rfl rfl rfl ?_
 refine WDm.quiet (QS.pure (Y.pickF rfl rfl) rfl rfl) rfl rfl rfl ?_
 refine WDm.nil (WQ.and ?_)
 refine WQ.next ?_
 refine WC.cond rfl (fun h45 => ?_) (fun h45 => ?_)
 refine WC.seq ?_
 refine WC.region ?_
 refine WL.pure (Y.assign rfl) rfl rfl rfl ?_
 refine WL.nil ?_
 refine WQ.next ?_
 refine WC.ret ?_
 refine WQ.thenRet ?_
 refine WQ.done Try.results122 (RVs.cons (RV.tmp rfl) RVs.nil) (fun a w s => ?_)
 · refine ⟨?_, s.low⟩
   clear s hbd
   simp only [packed]
   apply retb
   try simp only [beq4, beq3, beq2, beq0] at *
   unfold follows
   simp_all
 refine WC.skip' ?_
 refine WQ.next ?_
 refine WC.seq ?_
 refine WC.region ?_
 refine WL.pure (Y.move rfl) rfl rfl rfl ?_
 refine WL.pure (Y.fieldAddr fa_34_1 rfl) rfl rfl rfl ?_
 refine WL.val (Y.load fl_3 rfl m0 rfl) rfl rfl rfl ?_
 refine WL.eff (E.callF (fun i : Option Addr × Nat => .slice i.1 (ups l.reverse r.txn).length i.2) (fun i => SF.own w.heap.size 3 1 (.slice i.1 (ups l.reverse r.txn).length i.2) (ups l.reverse r.txn).length (nums (ups l.reverse r.txn).reverse)) Try.call153 rfl (fun _ w s => (w_stands l A b o c r.txn w hl (hr.below s.low) (hR.fit _)).mono fun e w' ⟨i, he, hb, ho⟩ => ⟨i, he, hb, ownsRow_le ho s.low.size, fun g hg => .inl (ho.lt g hg).1⟩) rfl) rfl (fun i => ?_)
 refine WL.pure (Y.assign rfl) rfl rfl rfl ?_
 refine WL.nil ?_
 refine WQ.next ?_
 refine WC.seq ?_
 refine WC.seq ?_
 refine WC.region ?_
 refine WL.pure (Y.fieldAddr fa_34_0 rfl) rfl rfl rfl ?_
 refine WL.val (Y.load fl_3 rfl m0 rfl) rfl rfl rfl ?_
 refine WL.nil ?_
 refine WQ.next ?_
 refine WC.block ?_
 refine WC.seq ?_
 refine WC.region ?_
 refine WL.pure (Y.eql rfl rfl) rfl rfl rfl ?_
 refine WL.pure (Y.assign rfl) rfl rfl rfl ?_
 refine WL.nil ?_
 refine WQ.next ?_
 refine WC.cond rfl (fun h52 => ?_) (fun h52 => ?_)
 refine WC.seq ?_
 have hk1 : r.kind = 1 := by simpa using h52
 obtain ⟨hp, hc, _⟩ := hbd.2.2.2.2.2.2.2.2.1 (by simp [R.turns, hk1])
 refine WC.drop [4] ?_
 refine WC.draw [(0, .q false), (1, .q true), (2, .q false), (3, .q true), (4, .q false), (5, .q true), (6, .q false), (7, .q false), (8, .q false), (9, .q true), (10, .q false), (11, .q false), (12, .q false), (13, .q false), (14, .q false), (15, .q true), (16, .q false), (17, .q true), (18, .q false), (19, .q true), (20, .q true), (21, .q false), (22, .q false), (23, .q false)] mixed (by kernel_rfl) ?_
 refine WDm.quiet (QS.pure (Y.fieldAddr fa_34_5 rfl) rfl rfl) rfl rfl rfl ?_
 refine WDm.quiet (QS.val (Y.load fl_3 rfl m0 rfl) rfl rfl) rfl rfl rfl ?_
 refine WDm.quiet (QS.pure (Y.move rfl) rfl rfl) rfl rfl rfl ?_
 refine WDm.quiet (QS.call Try.call123 rfl (fun _ w s => w_pages l A b o c w hl (hr.below s.low) hR.inR.rev)) rfl rfl rfl ?_
 refine WDm.quiet (QS.pure (Y.fieldAddr fa_34_3 rfl) rfl rfl) rfl rfl rfl ?_
 refine WDm.quiet (QS.val (Y.load fl_3 rfl m0 rfl) rfl rfl) rfl rfl rfl ?_
 refine WDm.quiet (QS.pure (Y.indexK rfl rfl (ix_pages _ _ hp)) rfl rfl) rfl rfl rfl ?_
 refine WDm.quiet (QS.pure (Y.fieldK rfl (fd_cells _)) rfl rfl) rfl rfl rfl ?_
 refine WDm.quiet (QS.pure (Y.fieldAddr fa_34_4 rfl) rfl rfl) rfl rfl rfl ?_
 refine WDm.quiet (QS.val (Y.load fl_3 rfl m0 rfl) rfl rfl) rfl rfl rfl ?_
 refine WDm.quiet (QS.pure (Y.indexK rfl rfl (ix_cells _ _ hc)) rfl rfl) rfl rfl rfl ?_
 refine WDm.quiet (QS.pure (Y.eql rfl rfl) rfl rfl) rfl rfl rfl ?_
 refine WDm.quiet (QS.pure (Y.move rfl) rfl rfl) rfl rfl rfl ?_
 refine WDm.split (t := 66) rfl (fun r h66 => ?_)
 cases r
 refine WDm.quiet (QS.guardF rfl rfl rfl rfl rfl) rfl rfl rfl ?_
 refine WDm.quiet (QS.guardF rfl rfl rfl rfl rfl) rfl rfl rfl ?_
 refine WDm.quiet (QS.guardF rfl rfl rfl rfl rfl) rfl rfl rfl ?_
 refine WDm.quiet (QS.guardF rfl rfl rfl rfl rfl) rfl rfl rfl ?_
 refine WDm.quiet (QS.guardF rfl rfl rfl rfl rfl) rfl rfl rfl ?_
 refine WDm.quiet (QS.guardF rfl rfl rfl rfl rfl) rfl rfl rfl ?_
 refine WDm.quiet (QS.guardF rfl rfl rfl rfl rfl) rfl rfl rfl ?_
 refine WDm.quiet (QS.guardF rfl rfl rfl rfl rfl) rfl rfl rfl ?_
 refine WDm.quiet (QS.guardF rfl rfl rfl rfl rfl) rfl rfl rfl ?_
 refine WDm.quiet (QS.pure (Y.pickF rfl rfl) rfl rfl) rfl rfl rfl ?_
 refine WDm.quiet (QS.pure (Y.assign rfl) rfl rfl) rfl rfl rfl ?_
 refine WDm.nil (WQ.and ?_)
 refine WQ.next ?_
 refine WC.ret ?_
 refine WQ.blockRet ?_
 refine WQ.thenRet ?_
 refine WQ.done Try.results122 (RVs.cons (RV.tmp rfl) RVs.nil) (fun a w s => ?_)
 · refine ⟨?_, s.low⟩
   clear s hbd
   simp only [packed]
   apply retb
   try simp only [beq4, beq3, beq2, beq0] at *
   unfold follows
   simp_all
 refine WDm.quiet (QS.guardT rfl rfl rfl (QS.pure (Y.move rfl) rfl rfl)) rfl rfl rfl ?_
 refine WDm.quiet (QS.guardT rfl rfl rfl (QS.pure (Y.fieldAddr fa_34_1 rfl) rfl rfl)) rfl rfl rfl ?_
 refine WDm.quiet (QS.guardT rfl rfl rfl (QS.val (Y.load fl_3 rfl m0 rfl) rfl rfl)) rfl rfl rfl ?_
 refine WDm.quiet (QS.guardT rfl rfl rfl (QS.pure (Y.fieldAddr fa_34_3 rfl) rfl rfl)) rfl rfl rfl ?_
 refine WDm.quiet (QS.guardT rfl rfl rfl (QS.val (Y.load fl_3 rfl m0 rfl) rfl rfl)) rfl rfl rfl ?_
 refine WDm.quiet (QS.guardT rfl rfl rfl (QS.pure (Y.fieldAddr fa_34_4 rfl) rfl rfl)) rfl rfl rfl ?_
 refine WDm.quiet (QS.guardT rfl rfl rfl (QS.val (Y.load fl_3 rfl m0 rfl) rfl rfl)) rfl rfl rfl ?_
 refine WDm.quiet (QS.guardT rfl rfl rfl (QS.call Try.call145 rfl (fun _ w s => w_taken l A b o c _ _ _ w hl (hr.below s.low) hR.fit))) rfl rfl rfl ?_
 refine WDm.quiet (QS.guardT rfl rfl rfl (QS.pure (Y.not rfl) rfl rfl)) rfl rfl rfl ?_
 refine WDm.quiet (QS.pure (Y.pickT rfl rfl) rfl rfl) rfl rfl rfl ?_
 refine WDm.quiet (QS.pure (Y.assign rfl) rfl rfl) rfl rfl rfl ?_
 refine WDm.nil (WQ.and ?_)
 refine WQ.next ?_
 refine WC.ret ?_
 refine WQ.blockRet ?_
 refine WQ.thenRet ?_
 refine WQ.done Try.results122 (RVs.cons (RV.tmp rfl) RVs.nil) (fun a w s => ?_)
 · refine ⟨?_, s.low⟩
   clear s hbd
   simp only [packed]
   apply retb
   try simp only [beq4, beq3, beq2, beq0] at *
   unfold follows
   simp_all
 refine WC.seq ?_
 refine WC.region ?_
 refine WL.pure (Y.eql rfl rfl) rfl rfl rfl ?_
 refine WL.pure (Y.assign rfl) rfl rfl rfl ?_
 refine WL.nil ?_
 refine WQ.next ?_
 refine WC.cond rfl (fun h77 => ?_) (fun h77 => ?_)
 refine WC.seq ?_
 refine WC.region ?_
 refine WL.pure (Y.assign rfl) rfl rfl rfl ?_
 refine WL.nil ?_
 refine WQ.next ?_
 refine WC.ret ?_
 refine WQ.blockRet ?_
 refine WQ.thenRet ?_
 refine WQ.done Try.results122 (RVs.cons (RV.tmp rfl) RVs.nil) (fun a w s => ?_)
 · refine ⟨?_, s.low⟩
   clear s hbd
   simp only [packed]
   apply retb
   try simp only [beq4, beq3, beq2, beq0] at *
   unfold follows
   simp_all
 refine WC.seq ?_
 refine WC.region ?_
 refine WL.pure (Y.eql rfl rfl) rfl rfl rfl ?_
 refine WL.pure (Y.assign rfl) rfl rfl rfl ?_
 refine WL.nil ?_
 refine WQ.next ?_
 refine WC.cond rfl (fun h79 => ?_) (fun h79 => ?_)
 refine WC.seq ?_
 refine WC.seq ?_
 refine WC.region ?_
 refine WL.pure (Y.move rfl) rfl rfl rfl ?_
 refine WL.pure (Y.len Try.underlying64 rfl) rfl rfl rfl ?_
 refine WL.pure (Y.eql rfl rfl) rfl rfl rfl ?_
 refine WL.nil ?_
 refine WQ.next ?_
 refine WC.cond rfl (fun h83 => ?_) (fun h83 => ?_)
 refine WC.seq ?_
 refine WC.region ?_
 refine WL.pure (Y.assign rfl) rfl rfl rfl ?_
 refine WL.nil ?_
 refine WQ.next ?_
 refine WC.ret ?_
 refine WQ.thenRet ?_
 refine WQ.blockRet ?_
 refine WQ.thenRet ?_
 refine WQ.done Try.results122 (RVs.cons (RV.tmp rfl) RVs.nil) (fun a w s => ?_)
 · refine ⟨?_, s.low⟩
   clear s hbd
   simp only [packed]
   apply retb
   try simp only [beq4, beq3, beq2, beq0] at *
   unfold follows
   simp_all
 refine WC.skip' ?_
 refine WQ.next ?_
 refine WC.seq ?_
 refine WC.region ?_
 obtain ⟨m, us, hu⟩ := up_some h83
 obtain ⟨hm1, hm2⟩ := ups_le (h := l.reverse) (t := r.txn) (n := m) (by rw [hu]; exact List.Mem.head _)
 rw [List.length_reverse] at hm2
 have hlen : 1 ≤ (ups l.reverse r.txn).length := by rw [hu]; simp
 have hule := wrs_len l.reverse r.txn
 have hul : (ups l.reverse r.txn).length ≤ l.length := by rw [ups_len]; simp at hule; omega
 have hm := up_top hu
 obtain ⟨x, hk2⟩ := get_of_lt (l := l) (k := m - 1) (by omega)
 refine WL.know (p := ∃ g, i.1 = some ⟨g, 0, none⟩) (fun a w s => by obtain ⟨g, hA, _⟩ := own_cell s.fact.2 (nums_get hm); exact ⟨g, hA⟩) (fun ⟨g, hA⟩ => ?_)
 refine WL.pure (Y.move rfl) rfl rfl rfl ?_
 refine WL.pure (Y.move rfl) rfl rfl rfl ?_
 refine WL.pure (Y.move rfl) rfl rfl rfl ?_
 refine WL.pure (Y.len Try.underlying64 rfl) rfl rfl rfl ?_
 refine WL.pure (Y.sub rfl rfl (i64_sub1 hlen (by omega))) rfl rfl rfl ?_
 refine WL.pure (Y.ixSlA Try.underlying64 Try.sizeOf3 rfl rfl hA (nat0 _) (by omega)) rfl rfl rfl ?_
 refine WL.val (Y.loadc fl_3 rfl (v := .int .i64 (m : Int)) (fun a w s => by obtain ⟨g2, hA2, hc⟩ := own_cell s.fact.2 (nums_get hm); cases hA.symm.trans hA2; simpa using hc)) rfl rfl rfl ?_
 refine WL.pure (Y.sub rfl rfl (i64_sub1 hm1 (by omega))) rfl rfl rfl ?_
 refine WL.pure (Y.ixSlA Try.underlying39 Try.sizeOf34 rfl rfl (hr.addr hk2) (nat0 _) (get_ltI hk2)) rfl rfl rfl ?_
 refine WL.val (Y.loadAc wd_34 rfl (r := x.cl) rfl (fun a w s j hj => (hr.below s.low).full hk2 j hj)) rfl rfl rfl ?_
 refine WL.eff (E.alloc Try.zeroValue34 rfl rfl) rfl (fun b4 => ?_)
 refine WL.eff (E.store Try.sizeOf34 rfl rfl rfl rfl rfl u0 rfl rfl) rfl (fun _ => ?_)
 refine WL.nil ?_
 refine WQ.next ?_
 refine WC.seq ?_
 refine WC.region ?_
 refine WL.pure (Y.fieldAddr fa_34_3 rfl) rfl rfl rfl ?_
 refine WL.val (Y.load fl_3 rfl m1 rfl) rfl rfl rfl ?_
 refine WL.pure (Y.fieldAddr fa_34_3 rfl) rfl rfl rfl ?_
 refine WL.val (Y.load fl_3 rfl m0 rfl) rfl rfl rfl ?_
 refine WL.pure (Y.eql rfl rfl) rfl rfl rfl ?_
 refine WL.pure (Y.move rfl) rfl rfl rfl ?_
 refine WL.split (t := 99) rfl (fun r h99 => ?_)
 cases r
 refine WL.guardF rfl rfl rfl rfl rfl rfl ?_
 refine WL.guardF rfl rfl rfl rfl rfl rfl ?_
 refine WL.guardF rfl rfl rfl rfl rfl rfl ?_
 refine WL.guardF rfl rfl rfl rfl rfl rfl ?_
 refine WL.guardF rfl rfl rfl rfl rfl rfl ?_
 refine WL.pure (Y.pickF rfl rfl) rfl rfl rfl ?_
 refine WL.pure (Y.move rfl) rfl rfl rfl ?_
 refine WL.guardF rfl rfl rfl rfl rfl rfl ?_
 refine WL.guardF rfl rfl rfl rfl rfl rfl ?_
 refine WL.guardF rfl rfl rfl rfl rfl rfl ?_
 refine WL.guardF rfl rfl rfl rfl rfl rfl ?_
 refine WL.guardF rfl rfl rfl rfl rfl rfl ?_
 refine WL.pure (Y.pickF rfl rfl) rfl rfl rfl ?_
 refine WL.pure (Y.move rfl) rfl rfl rfl ?_
 refine WL.guardF rfl rfl rfl rfl rfl rfl ?_
 refine WL.guardF rfl rfl rfl rfl rfl rfl ?_
 refine WL.guardF rfl rfl rfl rfl rfl rfl ?_
 refine WL.guardF rfl rfl rfl rfl rfl rfl ?_
 refine WL.guardF rfl rfl rfl rfl rfl rfl ?_
 refine WL.pure (Y.pickF rfl rfl) rfl rfl rfl ?_
 refine WL.pure (Y.move rfl) rfl rfl rfl ?_
 refine WL.guardF rfl rfl rfl rfl rfl rfl ?_
 refine WL.guardF rfl rfl rfl rfl rfl rfl ?_
 refine WL.guardF rfl rfl rfl rfl rfl rfl ?_
 refine WL.guardF rfl rfl rfl rfl rfl rfl ?_
 refine WL.guardF rfl rfl rfl rfl rfl rfl ?_
 refine WL.pure (Y.pickF rfl rfl) rfl rfl rfl ?_
 refine WL.pure (Y.assign rfl) rfl rfl rfl ?_
 refine WL.nil ?_
 refine WQ.next ?_
 refine WC.ret ?_
 refine WQ.blockRet ?_
 refine WQ.thenRet ?_
 refine WQ.done Try.results122 (RVs.cons (RV.tmp rfl) RVs.nil) (fun a w s => ?_)
 · refine ⟨?_, s.low⟩
   clear s hbd
   simp only [packed]
   apply retb
   try simp only [beq4, beq3, beq2, beq0] at *
   unfold follows
   rw [hu]
   dsimp only
   rw [recAt_rev hk2]
   simp_all
 refine WL.guardT rfl rfl rfl ?_
 refine WL.pure (Y.fieldAddr fa_34_4 rfl) rfl rfl rfl ?_
 refine WL.guardT rfl rfl rfl ?_
 refine WL.val (Y.load fl_3 rfl m1 rfl) rfl rfl rfl ?_
 refine WL.guardT rfl rfl rfl ?_
 refine WL.pure (Y.fieldAddr fa_34_4 rfl) rfl rfl rfl ?_
 refine WL.guardT rfl rfl rfl ?_
 refine WL.val (Y.load fl_3 rfl m0 rfl) rfl rfl rfl ?_
 refine WL.guardT rfl rfl rfl ?_
 refine WL.pure (Y.eql rfl rfl) rfl rfl rfl ?_
 refine WL.pure (Y.pickT rfl rfl) rfl rfl rfl ?_
 refine WL.pure (Y.move rfl) rfl rfl rfl ?_
 refine WL.split (t := 106) rfl (fun r h106 => ?_)
 cases r
 refine WL.guardF rfl rfl rfl rfl rfl rfl ?_
 refine WL.guardF rfl rfl rfl rfl rfl rfl ?_
 refine WL.guardF rfl rfl rfl rfl rfl rfl ?_
 refine WL.guardF rfl rfl rfl rfl rfl rfl ?_
 refine WL.guardF rfl rfl rfl rfl rfl rfl ?_
 refine WL.pure (Y.pickF rfl rfl) rfl rfl rfl ?_
 refine WL.pure (Y.move rfl) rfl rfl rfl ?_
 refine WL.guardF rfl rfl rfl rfl rfl rfl ?_
 refine WL.guardF rfl rfl rfl rfl rfl rfl ?_
 refine WL.guardF rfl rfl rfl rfl rfl rfl ?_
 refine WL.guardF rfl rfl rfl rfl rfl rfl ?_
 refine WL.guardF rfl rfl rfl rfl rfl rfl ?_
 refine WL.pure (Y.pickF rfl rfl) rfl rfl rfl ?_
 refine WL.pure (Y.move rfl) rfl rfl rfl ?_
 refine WL.guardF rfl rfl rfl rfl rfl rfl ?_
 refine WL.guardF rfl rfl rfl rfl rfl rfl ?_
 refine WL.guardF rfl rfl rfl rfl rfl rfl ?_
 refine WL.guardF rfl rfl rfl rfl rfl rfl ?_
 refine WL.guardF rfl rfl rfl rfl rfl rfl ?_
 refine WL.pure (Y.pickF rfl rfl) rfl rfl rfl ?_
 refine WL.pure (Y.assign rfl) rfl rfl rfl ?_
 refine WL.nil ?_
 refine WQ.next ?_
 refine WC.ret ?_
 refine WQ.blockRet ?_
 refine WQ.thenRet ?_
 refine WQ.done Try.results122 (RVs.cons (RV.tmp rfl) RVs.nil) (fun a w s => ?_)
 · refine ⟨?_, s.low⟩
   clear s hbd
   simp only [packed]
   apply retb
   try simp only [beq4, beq3, beq2, beq0] at *
   unfold follows
   rw [hu]
   dsimp only
   rw [recAt_rev hk2]
   simp_all
 refine WL.guardT rfl rfl rfl ?_
 refine WL.pure (Y.fieldAddr fa_34_5 rfl) rfl rfl rfl ?_
 refine WL.guardT rfl rfl rfl ?_
 refine WL.val (Y.load fl_3 rfl m1 rfl) rfl rfl rfl ?_
 refine WL.guardT rfl rfl rfl ?_
 refine WL.pure (Y.fieldAddr fa_34_6 rfl) rfl rfl rfl ?_
 refine WL.guardT rfl rfl rfl ?_
 refine WL.val (Y.load fl_3 rfl m0 rfl) rfl rfl rfl ?_
 refine WL.guardT rfl rfl rfl ?_
 refine WL.pure (Y.eql rfl rfl) rfl rfl rfl ?_
 refine WL.pure (Y.pickT rfl rfl) rfl rfl rfl ?_
 refine WL.pure (Y.move rfl) rfl rfl rfl ?_
 refine WL.split (t := 113) rfl (fun r h113 => ?_)
 cases r
 refine WL.guardF rfl rfl rfl rfl rfl rfl ?_
 refine WL.guardF rfl rfl rfl rfl rfl rfl ?_
 refine WL.guardF rfl rfl rfl rfl rfl rfl ?_
 refine WL.guardF rfl rfl rfl rfl rfl rfl ?_
 refine WL.guardF rfl rfl rfl rfl rfl rfl ?_
 refine WL.pure (Y.pickF rfl rfl) rfl rfl rfl ?_
 refine WL.pure (Y.move rfl) rfl rfl rfl ?_
 refine WL.guardF rfl rfl rfl rfl rfl rfl ?_
 refine WL.guardF rfl rfl rfl rfl rfl rfl ?_
 refine WL.guardF rfl rfl rfl rfl rfl rfl ?_
 refine WL.guardF rfl rfl rfl rfl rfl rfl ?_
 refine WL.guardF rfl rfl rfl rfl rfl rfl ?_
 refine WL.pure (Y.pickF rfl rfl) rfl rfl rfl ?_
 refine WL.pure (Y.assign rfl) rfl rfl rfl ?_
 refine WL.nil ?_
 refine WQ.next ?_
 refine WC.ret ?_
 refine WQ.blockRet ?_
 refine WQ.thenRet ?_
 refine WQ.done Try.results122 (RVs.cons (RV.tmp rfl) RVs.nil) (fun a w s => ?_)
 · refine ⟨?_, s.low⟩
   clear s hbd
   simp only [packed]
   apply retb
   try simp only [beq4, beq3, beq2, beq0] at *
   unfold follows
   rw [hu]
   dsimp only
   rw [recAt_rev hk2]
   simp_all
 refine WL.guardT rfl rfl rfl ?_
 refine WL.pure (Y.fieldAddr fa_34_6 rfl) rfl rfl rfl ?_
 refine WL.guardT rfl rfl rfl ?_
 refine WL.val (Y.load fl_3 rfl m1 rfl) rfl rfl rfl ?_
 refine WL.guardT rfl rfl rfl ?_
 refine WL.pure (Y.fieldAddr fa_34_5 rfl) rfl rfl rfl ?_
 refine WL.guardT rfl rfl rfl ?_
 refine WL.val (Y.load fl_3 rfl m0 rfl) rfl rfl rfl ?_
 refine WL.guardT rfl rfl rfl ?_
 refine WL.pure (Y.eql rfl rfl) rfl rfl rfl ?_
 refine WL.pure (Y.pickT rfl rfl) rfl rfl rfl ?_
 refine WL.pure (Y.move rfl) rfl rfl rfl ?_
 refine WL.split (t := 120) rfl (fun r h120 => ?_)
 cases r
 refine WL.guardF rfl rfl rfl rfl rfl rfl ?_
 refine WL.guardF rfl rfl rfl rfl rfl rfl ?_
 refine WL.guardF rfl rfl rfl rfl rfl rfl ?_
 refine WL.guardF rfl rfl rfl rfl rfl rfl ?_
 refine WL.guardF rfl rfl rfl rfl rfl rfl ?_
 refine WL.pure (Y.pickF rfl rfl) rfl rfl rfl ?_
 refine WL.pure (Y.assign rfl) rfl rfl rfl ?_
 refine WL.nil ?_
 refine WQ.next ?_
 refine WC.ret ?_
 refine WQ.blockRet ?_
 refine WQ.thenRet ?_
 refine WQ.done Try.results122 (RVs.cons (RV.tmp rfl) RVs.nil) (fun a w s => ?_)
 · refine ⟨?_, s.low⟩
   clear s hbd
   simp only [packed]
   apply retb
   try simp only [beq4, beq3, beq2, beq0] at *
   unfold follows
   rw [hu]
   dsimp only
   rw [recAt_rev hk2]
   simp_all
 refine WL.guardT rfl rfl rfl ?_
 refine WL.pure (Y.fieldAddr fa_34_7 rfl) rfl rfl rfl ?_
 refine WL.guardT rfl rfl rfl ?_
 refine WL.val (Y.load fl_3 rfl m1 rfl) rfl rfl rfl ?_
 refine WL.guardT rfl rfl rfl ?_
 refine WL.pure (Y.fieldAddr fa_34_2 rfl) rfl rfl rfl ?_
 refine WL.guardT rfl rfl rfl ?_
 refine WL.val (Y.load fl_3 rfl m0 rfl) rfl rfl rfl ?_
 refine WL.guardT rfl rfl rfl ?_
 refine WL.pure (Y.eql rfl rfl) rfl rfl rfl ?_
 refine WL.pure (Y.pickT rfl rfl) rfl rfl rfl ?_
 refine WL.pure (Y.assign rfl) rfl rfl rfl ?_
 refine WL.nil ?_
 refine WQ.next ?_
 refine WC.ret ?_
 refine WQ.blockRet ?_
 refine WQ.thenRet ?_
 refine WQ.done Try.results122 (RVs.cons (RV.tmp rfl) RVs.nil) (fun a w s => ?_)
 · refine ⟨?_, s.low⟩
   clear s hbd
   simp only [packed]
   apply retb
   try simp only [beq4, beq3, beq2, beq0] at *
   unfold follows
   rw [hu]
   dsimp only
   rw [recAt_rev hk2]
   simp_all
 refine WC.skip' ?_
 refine WQ.blockEnd ?_
 refine WQ.next ?_
 refine WC.seq ?_
 refine WC.region ?_
 refine WL.pure (Y.move rfl) rfl rfl rfl ?_
 refine WL.pure (Y.eql rfl rfl) rfl rfl rfl ?_
 refine WL.pure (Y.move rfl) rfl rfl rfl ?_
 refine WL.split (t := 129) rfl (fun r h129 => ?_)
 cases r
 refine WL.guardT rfl rfl rfl ?_
 refine WL.pure (Y.move rfl) rfl rfl rfl ?_
 refine WL.guardT rfl rfl rfl ?_
 refine WL.pure (Y.eql rfl rfl) rfl rfl rfl ?_
 refine WL.guardT rfl rfl rfl ?_
 refine WL.pure (Y.move rfl) rfl rfl rfl ?_
 refine WL.split (t := 132) rfl (fun r h132 => ?_)
 cases r
 refine WL.guardF rfl rfl rfl rfl rfl rfl ?_
 refine WL.guardF rfl rfl rfl rfl rfl rfl ?_
 refine WL.guardF rfl rfl rfl rfl rfl rfl ?_
 refine WL.guardT rfl rfl rfl ?_
 refine WL.pure (Y.pickF rfl rfl) rfl rfl rfl ?_
 refine WL.pure (Y.pickF rfl rfl) rfl rfl rfl ?_
 refine WL.pure (Y.assign rfl) rfl rfl rfl ?_
 refine WL.nil ?_
 refine WQ.next ?_
 refine WC.ret ?_
 refine WQ.done Try.results122 (RVs.cons (RV.tmp rfl) RVs.nil) (fun a w s => ?_)
 · refine ⟨?_, s.low⟩
   clear s hbd
   simp only [packed]
   apply retb
   try simp only [beq4, beq3, beq2, beq0] at *
   unfold follows
   simp_all
 refine WL.guardT rfl rfl rfl ?_
 refine WL.pure (Y.move rfl) rfl rfl rfl ?_
 refine WL.guardT rfl rfl rfl ?_
 refine WL.pure (Y.len Try.underlying64 rfl) rfl rfl rfl ?_
 refine WL.guardT rfl rfl rfl ?_
 refine WL.pure (Y.eql rfl rfl) rfl rfl rfl ?_
 refine WL.guardT rfl rfl rfl ?_
 refine WL.pure (Y.pickT rfl rfl) rfl rfl rfl ?_
 refine WL.pure (Y.pickF rfl rfl) rfl rfl rfl ?_
 refine WL.pure (Y.assign rfl) rfl rfl rfl ?_
 refine WL.nil ?_
 refine WQ.next ?_
 refine WC.ret ?_
 refine WQ.done Try.results122 (RVs.cons (RV.tmp rfl) RVs.nil) (fun a w s => ?_)
 · refine ⟨?_, s.low⟩
   clear s hbd
   simp only [packed]
   apply retb
   try simp only [beq4, beq3, beq2, beq0] at *
   unfold follows
   simp_all
 refine WL.guardF rfl rfl rfl rfl rfl rfl ?_
 refine WL.guardF rfl rfl rfl rfl rfl rfl ?_
 refine WL.guardF rfl rfl rfl rfl rfl rfl ?_
 refine WL.guardU rfl rfl rfl rfl rfl ?_
 refine WL.guardU rfl rfl rfl rfl rfl ?_
 refine WL.guardU rfl rfl rfl rfl rfl ?_
 refine WL.guardF rfl rfl rfl rfl rfl rfl ?_
 refine WL.pure (Y.pickT rfl rfl) rfl rfl rfl ?_
 refine WL.pure (Y.assign rfl) rfl rfl rfl ?_
 refine WL.nil ?_
 refine WQ.next ?_
 refine WC.ret ?_
 refine WQ.done Try.results122 (RVs.cons (RV.tmp rfl) RVs.nil) (fun a w s => ?_)
 · refine ⟨?_, s.low⟩
   clear s hbd
   simp only [packed]
   apply retb
   try simp only [beq4, beq3, beq2, beq0] at *
   unfold follows
   simp_all
 refine WDm.quiet (QS.guardT rfl rfl rfl (QS.pure (Y.fieldAddr fa_34_0 rfl) rfl rfl)) rfl rfl rfl ?_
 refine WDm.quiet (QS.guardT rfl rfl rfl (QS.val (Y.load fl_3 rfl m0 rfl) rfl rfl)) rfl rfl rfl ?_
 refine WDm.quiet (QS.guardT rfl rfl rfl (QS.pure (Y.neq rfl rfl) rfl rfl)) rfl rfl rfl ?_
 refine WDm.quiet (QS.guardT rfl rfl rfl (QS.pure (Y.pickT rfl rfl) rfl rfl)) rfl rfl rfl ?_
 refine WDm.quiet (QS.pure (Y.pickF rfl rfl) rfl rfl) rfl rfl rfl ?_
 refine WDm.quiet (QS.pure (Y.move rfl) rfl rfl) rfl rfl rfl ?_
 refine WDm.split (t := 32) rfl (fun r h32 => ?_)
 cases r
 refine WDm.quiet (QS.guardT rfl rfl rfl (QS.pure (Y.move rfl) rfl rfl)) rfl rfl rfl ?_
 refine WDm.quiet (QS.guardT rfl rfl rfl (QS.pure (Y.eql rfl rfl) rfl rfl)) rfl rfl rfl ?_
 refine WDm.quiet (QS.guardT rfl rfl rfl (QS.pure (Y.move rfl) rfl rfl)) rfl rfl rfl ?_
 refine WDm.split (t := 35) rfl (fun r h35 => ?_)
 cases r
 refine WDm.quiet (QS.guardF rfl rfl rfl rfl rfl) rfl rfl rfl ?_
 refine WDm.quiet (QS.guardF rfl rfl rfl rfl rfl) rfl rfl rfl ?_
 refine WDm.quiet (QS.guardF rfl rfl rfl rfl rfl) rfl rfl rfl ?_
 refine WDm.quiet (QS.guardT rfl rfl rfl (QS.pure (Y.pickF rfl rfl) rfl rfl)) rfl rfl rfl ?_
 refine WDm.quiet (QS.guardT rfl rfl rfl (QS.pure (Y.move rfl) rfl rfl)) rfl rfl rfl ?_
 refine WDm.quiet (QS.guardF rfl rfl rfl rfl rfl) rfl rfl rfl ?_
 refine WDm.quiet (QS.guardF rfl rfl rfl rfl rfl) rfl rfl rfl ?_
 refine WDm.quiet (QS.guardF rfl rfl rfl rfl rfl) rfl rfl rfl ?_
 refine WDm.quiet (QS.guardT rfl rfl rfl (QS.pure (Y.pickF rfl rfl) rfl rfl)) rfl rfl rfl ?_
 refine WDm.quiet (QS.pure (Y.pickF rfl rfl) rfl rfl) rfl rfl rfl ?_
 refine WDm.nil (WQ.and ?_)
 refine WQ.next ?_
 refine WC.condF rfl ?_
 refine WC.skip' ?_
 refine WQ.next ?_
 refine WC.seq ?_
 refine WC.region ?_
 refine WL.pure (Y.move rfl) rfl rfl rfl ?_
 refine WL.pure (Y.fieldAddr fa_34_1 rfl) rfl rfl rfl ?_
 refine WL.val (Y.load fl_3 rfl m0 rfl) rfl rfl rfl ?_
 refine WL.eff (E.callF (fun i : Option Addr × Nat => .slice i.1 (ups l.reverse r.txn).length i.2) (fun i => SF.own w.heap.size 3 1 (.slice i.1 (ups l.reverse r.txn).length i.2) (ups l.reverse r.txn).length (nums (ups l.reverse r.txn).reverse)) Try.call153 rfl (fun _ w s => (w_stands l A b o c r.txn w hl (hr.below s.low) (hR.fit _)).mono fun e w' ⟨i, he, hb, ho⟩ => ⟨i, he, hb, ownsRow_le ho s.low.size, fun g hg => .inl (ho.lt g hg).1⟩) rfl) rfl (fun i => ?_)
 refine WL.pure (Y.assign rfl) rfl rfl rfl ?_
 refine WL.nil ?_
 refine WQ.next ?_
 refine WC.seq ?_
 refine WC.seq ?_
 refine WC.region ?_
 refine WL.pure (Y.fieldAddr fa_34_0 rfl) rfl rfl rfl ?_
 refine WL.val (Y.load fl_3 rfl m0 rfl) rfl rfl rfl ?_
 refine WL.nil ?_
 refine WQ.next ?_
 refine WC.block ?_
 refine WC.seq ?_
 refine WC.region ?_
 refine WL.pure (Y.eql rfl rfl) rfl rfl rfl ?_
 refine WL.pure (Y.assign rfl) rfl rfl rfl ?_
 refine WL.nil ?_
 refine WQ.next ?_
 refine WC.cond rfl (fun h52 => ?_) (fun h52 => ?_)
 refine WC.seq ?_
 have hk1 : r.kind = 1 := by simpa using h52
 obtain ⟨hp, hc, _⟩ := hbd.2.2.2.2.2.2.2.2.1 (by simp [R.turns, hk1])
 refine WC.drop [4] ?_
 refine WC.draw [(0, .q false), (1, .q true), (2, .q false), (3, .q true), (4, .q false), (5, .q true), (6, .q false), (7, .q false), (8, .q false), (9, .q true), (10, .q false), (11, .q false), (12, .q false), (13, .q false), (14, .q false), (15, .q true), (16, .q false), (17, .q true), (18, .q false), (19, .q true), (20, .q true), (21, .q false), (22, .q false), (23, .q false)] mixed (by kernel_rfl) ?_
 refine WDm.quiet (QS.pure (Y.fieldAddr fa_34_5 rfl) rfl rfl) rfl rfl rfl ?_
 refine WDm.quiet (QS.val (Y.load fl_3 rfl m0 rfl) rfl rfl) rfl rfl rfl ?_
 refine WDm.quiet (QS.pure (Y.move rfl) rfl rfl) rfl rfl rfl ?_
 refine WDm.quiet (QS.call Try.call123 rfl (fun _ w s => w_pages l A b o c w hl (hr.below s.low) hR.inR.rev)) rfl rfl rfl ?_
 refine WDm.quiet (QS.pure (Y.fieldAddr fa_34_3 rfl) rfl rfl) rfl rfl rfl ?_
 refine WDm.quiet (QS.val (Y.load fl_3 rfl m0 rfl) rfl rfl) rfl rfl rfl ?_
 refine WDm.quiet (QS.pure (Y.indexK rfl rfl (ix_pages _ _ hp)) rfl rfl) rfl rfl rfl ?_
 refine WDm.quiet (QS.pure (Y.fieldK rfl (fd_cells _)) rfl rfl) rfl rfl rfl ?_
 refine WDm.quiet (QS.pure (Y.fieldAddr fa_34_4 rfl) rfl rfl) rfl rfl rfl ?_
 refine WDm.quiet (QS.val (Y.load fl_3 rfl m0 rfl) rfl rfl) rfl rfl rfl ?_
 refine WDm.quiet (QS.pure (Y.indexK rfl rfl (ix_cells _ _ hc)) rfl rfl) rfl rfl rfl ?_
 refine WDm.quiet (QS.pure (Y.eql rfl rfl) rfl rfl) rfl rfl rfl ?_
 refine WDm.quiet (QS.pure (Y.move rfl) rfl rfl) rfl rfl rfl ?_
 refine WDm.split (t := 66) rfl (fun r h66 => ?_)
 cases r
 refine WDm.quiet (QS.guardF rfl rfl rfl rfl rfl) rfl rfl rfl ?_
 refine WDm.quiet (QS.guardF rfl rfl rfl rfl rfl) rfl rfl rfl ?_
 refine WDm.quiet (QS.guardF rfl rfl rfl rfl rfl) rfl rfl rfl ?_
 refine WDm.quiet (QS.guardF rfl rfl rfl rfl rfl) rfl rfl rfl ?_
 refine WDm.quiet (QS.guardF rfl rfl rfl rfl rfl) rfl rfl rfl ?_
 refine WDm.quiet (QS.guardF rfl rfl rfl rfl rfl) rfl rfl rfl ?_
 refine WDm.quiet (QS.guardF rfl rfl rfl rfl rfl) rfl rfl rfl ?_
 refine WDm.quiet (QS.guardF rfl rfl rfl rfl rfl) rfl rfl rfl ?_
 refine WDm.quiet (QS.guardF rfl rfl rfl rfl rfl) rfl rfl rfl ?_
 refine WDm.quiet (QS.pure (Y.pickF rfl rfl) rfl rfl) rfl rfl rfl ?_
 refine WDm.quiet (QS.pure (Y.assign rfl) rfl rfl) rfl rfl rfl ?_
 refine WDm.nil (WQ.and ?_)
 refine WQ.next ?_
 refine WC.ret ?_
 refine WQ.blockRet ?_
 refine WQ.thenRet ?_
 refine WQ.done Try.results122 (RVs.cons (RV.tmp rfl) RVs.nil) (fun a w s => ?_)
 · refine ⟨?_, s.low⟩
   clear s hbd
   simp only [packed]
   apply retb
   try simp only [beq4, beq3, beq2, beq0] at *
   unfold follows
   simp_all
 refine WDm.quiet (QS.guardT rfl rfl rfl (QS.pure (Y.move rfl) rfl rfl)) rfl rfl rfl ?_
 refine WDm.quiet (QS.guardT rfl rfl rfl (QS.pure (Y.fieldAddr fa_34_1 rfl) rfl rfl)) rfl rfl rfl ?_
 refine WDm.quiet (QS.guardT rfl rfl rfl (QS.val (Y.load fl_3 rfl m0 rfl) rfl rfl)) rfl rfl rfl ?_
 refine WDm.quiet (QS.guardT rfl rfl rfl (QS.pure (Y.fieldAddr fa_34_3 rfl) rfl rfl)) rfl rfl rfl ?_
 refine WDm.quiet (QS.guardT rfl rfl rfl (QS.val (Y.load fl_3 rfl m0 rfl) rfl rfl)) rfl rfl rfl ?_
 refine WDm.quiet (QS.guardT rfl rfl rfl (QS.pure (Y.fieldAddr fa_34_4 rfl) rfl rfl)) rfl rfl rfl ?_
 refine WDm.quiet (QS.guardT rfl rfl rfl (QS.val (Y.load fl_3 rfl m0 rfl) rfl rfl)) rfl rfl rfl ?_
 refine WDm.quiet (QS.guardT rfl rfl rfl (QS.call Try.call145 rfl (fun _ w s => w_taken l A b o c _ _ _ w hl (hr.below s.low) hR.fit))) rfl rfl rfl ?_
 refine WDm.quiet (QS.guardT rfl rfl rfl (QS.pure (Y.not rfl) rfl rfl)) rfl rfl rfl ?_
 refine WDm.quiet (QS.pure (Y.pickT rfl rfl) rfl rfl) rfl rfl rfl ?_
 refine WDm.quiet (QS.pure (Y.assign rfl) rfl rfl) rfl rfl rfl ?_
 refine WDm.nil (WQ.and ?_)
 refine WQ.next ?_
 refine WC.ret ?_
 refine WQ.blockRet ?_
 refine WQ.thenRet ?_
 refine WQ.done Try.results122 (RVs.cons (RV.tmp rfl) RVs.nil) (fun a w s => ?_)
 · refine ⟨?_, s.low⟩
   clear s hbd
   simp only [packed]
   apply retb
   try simp only [beq4, beq3, beq2, beq0] at *
   unfold follows
   simp_all
 refine WC.seq ?_
 refine WC.region ?_
 refine WL.pure (Y.eql rfl rfl) rfl rfl rfl ?_
 refine WL.pure (Y.assign rfl) rfl rfl rfl ?_
 refine WL.nil ?_
 refine WQ.next ?_
 refine WC.cond rfl (fun h77 => ?_) (fun h77 => ?_)
 refine WC.seq ?_
 refine WC.region ?_
 refine WL.pure (Y.assign rfl) rfl rfl rfl ?_
 refine WL.nil ?_
 refine WQ.next ?_
 refine WC.ret ?_
 refine WQ.blockRet ?_
 refine WQ.thenRet ?_
 refine WQ.done Try.results122 (RVs.cons (RV.tmp rfl) RVs.nil) (fun a w s => ?_)
 · refine ⟨?_, s.low⟩
   clear s hbd
   simp only [packed]
   apply retb
   try simp only [beq4, beq3, beq2, beq0] at *
   unfold follows
   simp_all
 refine WC.seq ?_
 refine WC.region ?_
 refine WL.pure (Y.eql rfl rfl) rfl rfl rfl ?_
 refine WL.pure (Y.assign rfl) rfl rfl rfl ?_
 refine WL.nil ?_
 refine WQ.next ?_
 refine WC.cond rfl (fun h79 => ?_) (fun h79 => ?_)
 refine WC.seq ?_
 refine WC.seq ?_
 refine WC.region ?_
 refine WL.pure (Y.move rfl) rfl rfl rfl ?_
 refine WL.pure (Y.len Try.underlying64 rfl) rfl rfl rfl ?_
 refine WL.pure (Y.eql rfl rfl) rfl rfl rfl ?_
 refine WL.nil ?_
 refine WQ.next ?_
 refine WC.cond rfl (fun h83 => ?_) (fun h83 => ?_)
 refine WC.seq ?_
 refine WC.region ?_
 refine WL.pure (Y.assign rfl) rfl rfl rfl ?_
 refine WL.nil ?_
 refine WQ.next ?_
 refine WC.ret ?_
 refine WQ.thenRet ?_
 refine WQ.blockRet ?_
 refine WQ.thenRet ?_
 refine WQ.done Try.results122 (RVs.cons (RV.tmp rfl) RVs.nil) (fun a w s => ?_)
 · refine ⟨?_, s.low⟩
   clear s hbd
   simp only [packed]
   apply retb
   try simp only [beq4, beq3, beq2, beq0] at *
   unfold follows
   simp_all
 refine WC.skip' ?_
 refine WQ.next ?_
 refine WC.seq ?_
 refine WC.region ?_
 obtain ⟨m, us, hu⟩ := up_some h83
 obtain ⟨hm1, hm2⟩ := ups_le (h := l.reverse) (t := r.txn) (n := m) (by rw [hu]; exact List.Mem.head _)
 rw [List.length_reverse] at hm2
 have hlen : 1 ≤ (ups l.reverse r.txn).length := by rw [hu]; simp
 have hule := wrs_len l.reverse r.txn
 have hul : (ups l.reverse r.txn).length ≤ l.length := by rw [ups_len]; simp at hule; omega
 have hm := up_top hu
 obtain ⟨x, hk2⟩ := get_of_lt (l := l) (k := m - 1) (by omega)
 refine WL.know (p := ∃ g, i.1 = some ⟨g, 0, none⟩) (fun a w s => by obtain ⟨g, hA, _⟩ := own_cell s.fact.2 (nums_get hm); exact ⟨g, hA⟩) (fun ⟨g, hA⟩ => ?_)
 refine WL.pure (Y.move rfl) rfl rfl rfl ?_
 refine WL.pure (Y.move rfl) rfl rfl rfl ?_
 refine WL.pure (Y.move rfl) rfl rfl rfl ?_
 refine WL.pure (Y.len Try.underlying64 rfl) rfl rfl rfl ?_
 refine WL.pure (Y.sub rfl rfl (i64_sub1 hlen (by omega))) rfl rfl rfl ?_
 refine WL.pure (Y.ixSlA Try.underlying64 Try.sizeOf3 rfl rfl hA (nat0 _) (by omega)) rfl rfl rfl ?_
 refine WL.val (Y.loadc fl_3 rfl (v := .int .i64 (m : Int)) (fun a w s => by obtain ⟨g2, hA2, hc⟩ := own_cell s.fact.2 (nums_get hm); cases hA.symm.trans hA2; simpa using hc)) rfl rfl rfl ?_
 refine WL.pure (Y.sub rfl rfl (i64_sub1 hm1 (by omega))) rfl rfl rfl ?_
 refine WL.pure (Y.ixSlA Try.underlying39 Try.sizeOf34 rfl rfl (hr.addr hk2) (nat0 _) (get_ltI hk2)) rfl rfl rfl ?_
 refine WL.val (Y.loadAc wd_34 rfl (r := x.cl) rfl (fun a w s j hj => (hr.below s.low).full hk2 j hj)) rfl rfl rfl ?_
 refine WL.eff (E.alloc Try.zeroValue34 rfl rfl) rfl (fun b5 => ?_)
 refine WL.eff (E.store Try.sizeOf34 rfl rfl rfl rfl rfl u0 rfl rfl) rfl (fun _ => ?_)
 refine WL.nil ?_
 refine WQ.next ?_
 refine WC.seq ?_
 refine WC.region ?_
 refine WL.pure (Y.fieldAddr fa_34_3 rfl) rfl rfl rfl ?_
 refine WL.val (Y.load fl_3 rfl m1 rfl) rfl rfl rfl ?_
 refine WL.pure (Y.fieldAddr fa_34_3 rfl) rfl rfl rfl ?_
 refine WL.val (Y.load fl_3 rfl m0 rfl) rfl rfl rfl ?_
 refine WL.pure (Y.eql rfl rfl) rfl rfl rfl ?_
 refine WL.pure (Y.move rfl) rfl rfl rfl ?_
 refine WL.split (t := 99) rfl (fun r h99 => ?_)
 cases r
 refine WL.guardF rfl rfl rfl rfl rfl rfl ?_
 refine WL.guardF rfl rfl rfl rfl rfl rfl ?_
 refine WL.guardF rfl rfl rfl rfl rfl rfl ?_
 refine WL.guardF rfl rfl rfl rfl rfl rfl ?_
 refine WL.guardF rfl rfl rfl rfl rfl rfl ?_
 refine WL.pure (Y.pickF rfl rfl) rfl rfl rfl ?_
 refine WL.pure (Y.move rfl) rfl rfl rfl ?_
 refine WL.guardF rfl rfl rfl rfl rfl rfl ?_
 refine WL.guardF rfl rfl rfl rfl rfl rfl ?_
 refine WL.guardF rfl rfl rfl rfl rfl rfl ?_
 refine WL.guardF rfl rfl rfl rfl rfl rfl ?_
 refine WL.guardF rfl rfl rfl rfl rfl rfl ?_
 refine WL.pure (Y.pickF rfl rfl) rfl rfl rfl ?_
 refine WL.pure (Y.move rfl) rfl rfl rfl ?_
 refine WL.guardF rfl rfl rfl rfl rfl rfl ?_
 refine WL.guardF rfl rfl rfl rfl rfl rfl ?_
 refine WL.guardF rfl rfl rfl rfl rfl rfl ?_
 refine WL.guardF rfl rfl rfl rfl rfl rfl ?_
 refine WL.guardF rfl rfl rfl rfl rfl rfl ?_
 refine WL.pure (Y.pickF rfl rfl) rfl rfl rfl ?_
 refine WL.pure (Y.move rfl) rfl rfl rfl ?_
 refine WL.guardF rfl rfl rfl rfl rfl rfl ?_
 refine WL.guardF rfl rfl rfl rfl rfl rfl ?_
 refine WL.guardF rfl rfl rfl rfl rfl rfl ?_
 refine WL.guardF rfl rfl rfl rfl rfl rfl ?_
 refine WL.guardF rfl rfl rfl rfl rfl rfl ?_
 refine WL.pure (Y.pickF rfl rfl) rfl rfl rfl ?_
 refine WL.pure (Y.assign rfl) rfl rfl rfl ?_
 refine WL.nil ?_
 refine WQ.next ?_
 refine WC.ret ?_
 refine WQ.blockRet ?_
 refine WQ.thenRet ?_
 refine WQ.done Try.results122 (RVs.cons (RV.tmp rfl) RVs.nil) (fun a w s => ?_)
 · refine ⟨?_, s.low⟩
   clear s hbd
   simp only [packed]
   apply retb
   try simp only [beq4, beq3, beq2, beq0] at *
   unfold follows
   rw [hu]
   dsimp only
   rw [recAt_rev hk2]
   simp_all
 refine WL.guardT rfl rfl rfl ?_
 refine WL.pure (Y.fieldAddr fa_34_4 rfl) rfl rfl rfl ?_
 refine WL.guardT rfl rfl rfl ?_
 refine WL.val (Y.load fl_3 rfl m1 rfl) rfl rfl rfl ?_
 refine WL.guardT rfl rfl rfl ?_
 refine WL.pure (Y.fieldAddr fa_34_4 rfl) rfl rfl rfl ?_
 refine WL.guardT rfl rfl rfl ?_
 refine WL.val (Y.load fl_3 rfl m0 rfl) rfl rfl rfl ?_
 refine WL.guardT rfl rfl rfl ?_
 refine WL.pure (Y.eql rfl rfl) rfl rfl rfl ?_
 refine WL.pure (Y.pickT rfl rfl) rfl rfl rfl ?_
 refine WL.pure (Y.move rfl) rfl rfl rfl ?_
 refine WL.split (t := 106) rfl (fun r h106 => ?_)
 cases r
 refine WL.guardF rfl rfl rfl rfl rfl rfl ?_
 refine WL.guardF rfl rfl rfl rfl rfl rfl ?_
 refine WL.guardF rfl rfl rfl rfl rfl rfl ?_
 refine WL.guardF rfl rfl rfl rfl rfl rfl ?_
 refine WL.guardF rfl rfl rfl rfl rfl rfl ?_
 refine WL.pure (Y.pickF rfl rfl) rfl rfl rfl ?_
 refine WL.pure (Y.move rfl) rfl rfl rfl ?_
 refine WL.guardF rfl rfl rfl rfl rfl rfl ?_
 refine WL.guardF rfl rfl rfl rfl rfl rfl ?_
 refine WL.guardF rfl rfl rfl rfl rfl rfl ?_
 refine WL.guardF rfl rfl rfl rfl rfl rfl ?_
 refine WL.guardF rfl rfl rfl rfl rfl rfl ?_
 refine WL.pure (Y.pickF rfl rfl) rfl rfl rfl ?_
 refine WL.pure (Y.move rfl) rfl rfl rfl ?_
 refine WL.guardF rfl rfl rfl rfl rfl rfl ?_
 refine WL.guardF rfl rfl rfl rfl rfl rfl ?_
 refine WL.guardF rfl rfl rfl rfl rfl rfl ?_
 refine WL.guardF rfl rfl rfl rfl rfl rfl ?_
 refine WL.guardF rfl rfl rfl rfl rfl rfl ?_
 refine WL.pure (Y.pickF rfl rfl) rfl rfl rfl ?_
 refine WL.pure (Y.assign rfl) rfl rfl rfl ?_
 refine WL.nil ?_
 refine WQ.next ?_
 refine WC.ret ?_
 refine WQ.blockRet ?_
 refine WQ.thenRet ?_
 refine WQ.done Try.results122 (RVs.cons (RV.tmp rfl) RVs.nil) (fun a w s => ?_)
 · refine ⟨?_, s.low⟩
   clear s hbd
   simp only [packed]
   apply retb
   try simp only [beq4, beq3, beq2, beq0] at *
   unfold follows
   rw [hu]
   dsimp only
   rw [recAt_rev hk2]
   simp_all
 refine WL.guardT rfl rfl rfl ?_
 refine WL.pure (Y.fieldAddr fa_34_5 rfl) rfl rfl rfl ?_
 refine WL.guardT rfl rfl rfl ?_
 refine WL.val (Y.load fl_3 rfl m1 rfl) rfl rfl rfl ?_
 refine WL.guardT rfl rfl rfl ?_
 refine WL.pure (Y.fieldAddr fa_34_6 rfl) rfl rfl rfl ?_
 refine WL.guardT rfl rfl rfl ?_
 refine WL.val (Y.load fl_3 rfl m0 rfl) rfl rfl rfl ?_
 refine WL.guardT rfl rfl rfl ?_
 refine WL.pure (Y.eql rfl rfl) rfl rfl rfl ?_
 refine WL.pure (Y.pickT rfl rfl) rfl rfl rfl ?_
 refine WL.pure (Y.move rfl) rfl rfl rfl ?_
 refine WL.split (t := 113) rfl (fun r h113 => ?_)
 cases r
 refine WL.guardF rfl rfl rfl rfl rfl rfl ?_
 refine WL.guardF rfl rfl rfl rfl rfl rfl ?_
 refine WL.guardF rfl rfl rfl rfl rfl rfl ?_
 refine WL.guardF rfl rfl rfl rfl rfl rfl ?_
 refine WL.guardF rfl rfl rfl rfl rfl rfl ?_
 refine WL.pure (Y.pickF rfl rfl) rfl rfl rfl ?_
 refine WL.pure (Y.move rfl) rfl rfl rfl ?_
 refine WL.guardF rfl rfl rfl rfl rfl rfl ?_
 refine WL.guardF rfl rfl rfl rfl rfl rfl ?_
 refine WL.guardF rfl rfl rfl rfl rfl rfl ?_
 refine WL.guardF rfl rfl rfl rfl rfl rfl ?_
 refine WL.guardF rfl rfl rfl rfl rfl rfl ?_
 refine WL.pure (Y.pickF rfl rfl) rfl rfl rfl ?_
 refine WL.pure (Y.assign rfl) rfl rfl rfl ?_
 refine WL.nil ?_
 refine WQ.next ?_
 refine WC.ret ?_
 refine WQ.blockRet ?_
 refine WQ.thenRet ?_
 refine WQ.done Try.results122 (RVs.cons (RV.tmp rfl) RVs.nil) (fun a w s => ?_)
 · refine ⟨?_, s.low⟩
   clear s hbd
   simp only [packed]
   apply retb
   try simp only [beq4, beq3, beq2, beq0] at *
   unfold follows
   rw [hu]
   dsimp only
   rw [recAt_rev hk2]
   simp_all
 refine WL.guardT rfl rfl rfl ?_
 refine WL.pure (Y.fieldAddr fa_34_6 rfl) rfl rfl rfl ?_
 refine WL.guardT rfl rfl rfl ?_
 refine WL.val (Y.load fl_3 rfl m1 rfl) rfl rfl rfl ?_
 refine WL.guardT rfl rfl rfl ?_
 refine WL.pure (Y.fieldAddr fa_34_5 rfl) rfl rfl rfl ?_
 refine WL.guardT rfl rfl rfl ?_
 refine WL.val (Y.load fl_3 rfl m0 rfl) rfl rfl rfl ?_
 refine WL.guardT rfl rfl rfl ?_
 refine WL.pure (Y.eql rfl rfl) rfl rfl rfl ?_
 refine WL.pure (Y.pickT rfl rfl) rfl rfl rfl ?_
 refine WL.pure (Y.move rfl) rfl rfl rfl ?_
 refine WL.split (t := 120) rfl (fun r h120 => ?_)
 cases r
 refine WL.guardF rfl rfl rfl rfl rfl rfl ?_
 refine WL.guardF rfl rfl rfl rfl rfl rfl ?_
 refine WL.guardF rfl rfl rfl rfl rfl rfl ?_
 refine WL.guardF rfl rfl rfl rfl rfl rfl ?_
 refine WL.guardF rfl rfl rfl rfl rfl rfl ?_
 refine WL.pure (Y.pickF rfl rfl) rfl rfl rfl ?_
 refine WL.pure (Y.assign rfl) rfl rfl rfl ?_
 refine WL.nil ?_
 refine WQ.next ?_
 refine WC.ret ?_
 refine WQ.blockRet ?_
 refine WQ.thenRet ?_
 refine WQ.done Try.results122 (RVs.cons (RV.tmp rfl) RVs.nil) (fun a w s => ?_)
 · refine ⟨?_, s.low⟩
   clear s hbd
   simp only [packed]
   apply retb
   try simp only [beq4, beq3, beq2, beq0] at *
   unfold follows
   rw [hu]
   dsimp only
   rw [recAt_rev hk2]
   simp_all
 refine WL.guardT rfl rfl rfl ?_
 refine WL.pure (Y.fieldAddr fa_34_7 rfl) rfl rfl rfl ?_
 refine WL.guardT rfl rfl rfl ?_
 refine WL.val (Y.load fl_3 rfl m1 rfl) rfl rfl rfl ?_
 refine WL.guardT rfl rfl rfl ?_
 refine WL.pure (Y.fieldAddr fa_34_2 rfl) rfl rfl rfl ?_
 refine WL.guardT rfl rfl rfl ?_
 refine WL.val (Y.load fl_3 rfl m0 rfl) rfl rfl rfl ?_
 refine WL.guardT rfl rfl rfl ?_
 refine WL.pure (Y.eql rfl rfl) rfl rfl rfl ?_
 refine WL.pure (Y.pickT rfl rfl) rfl rfl rfl ?_
 refine WL.pure (Y.assign rfl) rfl rfl rfl ?_
 refine WL.nil ?_
 refine WQ.next ?_
 refine WC.ret ?_
 refine WQ.blockRet ?_
 refine WQ.thenRet ?_
 refine WQ.done Try.results122 (RVs.cons (RV.tmp rfl) RVs.nil) (fun a w s => ?_)
 · refine ⟨?_, s.low⟩
   clear s hbd
   simp only [packed]
   apply retb
   try simp only [beq4, beq3, beq2, beq0] at *
   unfold follows
   rw [hu]
   dsimp only
   rw [recAt_rev hk2]
   simp_all
 refine WC.skip' ?_
 refine WQ.blockEnd ?_
 refine WQ.next ?_
 refine WC.seq ?_
 refine WC.region ?_
 refine WL.pure (Y.move rfl) rfl rfl rfl ?_
 refine WL.pure (Y.eql rfl rfl) rfl rfl rfl ?_
 refine WL.pure (Y.move rfl) rfl rfl rfl ?_
 refine WL.split (t := 129) rfl (fun r h129 => ?_)
 cases r
 refine WL.guardT rfl rfl rfl ?_
 refine WL.pure (Y.move rfl) rfl rfl rfl ?_
 refine WL.guardT rfl rfl rfl ?_
 refine WL.pure (Y.eql rfl rfl) rfl rfl rfl ?_
 refine WL.guardT rfl rfl rfl ?_
 refine WL.pure (Y.move rfl) rfl rfl rfl ?_
 refine WL.split (t := 132) rfl (fun r h132 => ?_)
 cases r
 refine WL.guardF rfl rfl rfl rfl rfl rfl ?_
 refine WL.guardF rfl rfl rfl rfl rfl rfl ?_
 refine WL.guardF rfl rfl rfl rfl rfl rfl ?_
 refine WL.guardT rfl rfl rfl ?_
 refine WL.pure (Y.pickF rfl rfl) rfl rfl rfl ?_
 refine WL.pure (Y.pickF rfl rfl) rfl rfl rfl ?_
 refine WL.pure (Y.assign rfl) rfl rfl rfl ?_
 refine WL.nil ?_
 refine WQ.next ?_
 refine WC.ret ?_
 refine WQ.done Try.results122 (RVs.cons (RV.tmp rfl) RVs.nil) (fun a w s => ?_)
 · refine ⟨?_, s.low⟩
   clear s hbd
   simp only [packed]
   apply retb
   try simp only [beq4, beq3, beq2, beq0] at *
   unfold follows
   simp_all
 refine WL.guardT rfl rfl rfl ?_
 refine WL.pure (Y.move rfl) rfl rfl rfl ?_
 refine WL.guardT rfl rfl rfl ?_
 refine WL.pure (Y.len Try.underlying64 rfl) rfl rfl rfl ?_
 refine WL.guardT rfl rfl rfl ?_
 refine WL.pure (Y.eql rfl rfl) rfl rfl rfl ?_
 refine WL.guardT rfl rfl rfl ?_
 refine WL.pure (Y.pickT rfl rfl) rfl rfl rfl ?_
 refine WL.pure (Y.pickF rfl rfl) rfl rfl rfl ?_
 refine WL.pure (Y.assign rfl) rfl rfl rfl ?_
 refine WL.nil ?_
 refine WQ.next ?_
 refine WC.ret ?_
 refine WQ.done Try.results122 (RVs.cons (RV.tmp rfl) RVs.nil) (fun a w s => ?_)
 · refine ⟨?_, s.low⟩
   clear s hbd
   simp only [packed]
   apply retb
   try simp only [beq4, beq3, beq2, beq0] at *
   unfold follows
   simp_all
 refine WL.guardF rfl rfl rfl rfl rfl rfl ?_
 refine WL.guardF rfl rfl rfl rfl rfl rfl ?_
 refine WL.guardF rfl rfl rfl rfl rfl rfl ?_
 refine WL.guardU rfl rfl rfl rfl rfl ?_
 refine WL.guardU rfl rfl rfl rfl rfl ?_
 refine WL.guardU rfl rfl rfl rfl rfl ?_
 refine WL.guardF rfl rfl rfl rfl rfl rfl ?_
 refine WL.pure (Y.pickT rfl rfl) rfl rfl rfl ?_
 refine WL.pure (Y.assign rfl) rfl rfl rfl ?_
 refine WL.nil ?_
 refine WQ.next ?_
 refine WC.ret ?_
 refine WQ.done Try.results122 (RVs.cons (RV.tmp rfl) RVs.nil) (fun a w s => ?_)
 · refine ⟨?_, s.low⟩
   clear s hbd
   simp only [packed]
   apply retb
   try simp only [beq4, beq3, beq2, beq0] at *
   unfold follows
   simp_all
 refine WDm.quiet (QS.guardT rfl rfl rfl (QS.pure (Y.fieldAddr fa_34_0 rfl) rfl rfl)) rfl rfl rfl ?_
 refine WDm.quiet (QS.guardT rfl rfl rfl (QS.val (Y.load fl_3 rfl m0 rfl) rfl rfl)) rfl rfl rfl ?_
 refine WDm.quiet (QS.guardT rfl rfl rfl (QS.pure (Y.neq rfl rfl) rfl rfl)) rfl rfl rfl ?_
 refine WDm.quiet (QS.guardT rfl rfl rfl (QS.pure (Y.pickT rfl rfl) rfl rfl)) rfl rfl rfl ?_
 refine WDm.quiet (QS.guardT rfl rfl rfl (QS.pure (Y.move rfl) rfl rfl)) rfl rfl rfl ?_
 refine WDm.split (t := 40) rfl (fun r h40 => ?_)
 cases r
 refine WDm.quiet (QS.guardF rfl rfl rfl rfl rfl) rfl rfl rfl ?_
 refine WDm.quiet (QS.guardF rfl rfl rfl rfl rfl) rfl rfl rfl ?_
 refine WDm.quiet (QS.guardF rfl rfl rfl rfl rfl) rfl rfl rfl ?_
 refine WDm.quiet (QS.guardT rfl rfl rfl (QS.pure (Y.pickF rfl rfl) rfl rfl)) rfl rfl rfl ?_
 refine WDm.quiet (QS.pure (Y.pickF rfl rfl) rfl rfl) rfl rfl rfl ?_
 refine WDm.nil (WQ.and ?_)
 refine WQ.next ?_
 refine WC.condF rfl ?_
 refine WC.skip' ?_
 refine WQ.next ?_
 refine WC.seq ?_
 refine WC.region ?_
 refine WL.pure (Y.move rfl) rfl rfl rfl ?_
 refine WL.pure (Y.fieldAddr fa_34_1 rfl) rfl rfl rfl ?_
 refine WL.val (Y.load fl_3 rfl m0 rfl) rfl rfl rfl ?_
 refine WL.eff (E.callF (fun i : Option Addr × Nat => .slice i.1 (ups l.reverse r.txn).length i.2) (fun i => SF.own w.heap.size 3 1 (.slice i.1 (ups l.reverse r.txn).length i.2) (ups l.reverse r.txn).length (nums (ups l.reverse r.txn).reverse)) Try.call153 rfl (fun _ w s => (w_stands l A b o c r.txn w hl (hr.below s.low) (hR.fit _)).mono fun e w' ⟨i, he, hb, ho⟩ => ⟨i, he, hb, ownsRow_le ho s.low.size, fun g hg => .inl (ho.lt g hg).1⟩) rfl) rfl (fun i => ?_)
 refine WL.pure (Y.assign rfl) rfl rfl rfl ?_
 refine WL.nil ?_
 refine WQ.next ?_
 refine WC.seq ?_
 refine WC.seq ?_
 refine WC.region ?_
 refine WL.pure (Y.fieldAddr fa_34_0 rfl) rfl rfl rfl ?_
 refine WL.val (Y.load fl_3 rfl m0 rfl) rfl rfl rfl ?_
 refine WL.nil ?_
 refine WQ.next ?_
 refine WC.block ?_
 refine WC.seq ?_
 refine WC.region ?_
 refine WL.pure (Y.eql rfl rfl) rfl rfl rfl ?_
 refine WL.pure (Y.assign rfl) rfl rfl rfl ?_
 refine WL.nil ?_
 refine WQ.next ?_
 refine WC.cond rfl (fun h52 => ?_) (fun h52 => ?_)
 refine WC.seq ?_
 have hk1 : r.kind = 1 := by simpa using h52
 obtain ⟨hp, hc, _⟩ := hbd.2.2.2.2.2.2.2.2.1 (by simp [R.turns, hk1])
 refine WC.drop [4] ?_
 refine WC.draw [(0, .q false), (1, .q true), (2, .q false), (3, .q true), (4, .q false), (5, .q true), (6, .q false), (7, .q false), (8, .q false), (9, .q true), (10, .q false), (11, .q false), (12, .q false), (13, .q false), (14, .q false), (15, .q true), (16, .q false), (17, .q true), (18, .q false), (19, .q true), (20, .q true), (21, .q false), (22, .q false), (23, .q false)] mixed (by kernel_rfl) ?_
 refine WDm.quiet (QS.pure (Y.fieldAddr fa_34_5 rfl) rfl rfl) rfl rfl rfl ?_
 refine WDm.quiet (QS.val (Y.load fl_3 rfl m0 rfl) rfl rfl) rfl rfl rfl ?_
 refine WDm.quiet (QS.pure (Y.move rfl) rfl rfl) rfl rfl rfl ?_
 refine WDm.quiet (QS.call Try.call123 rfl (fun _ w s => w_pages l A b o c w hl (hr.below s.low) hR.inR.rev)) rfl rfl rfl ?_
 refine WDm.quiet (QS.pure (Y.fieldAddr fa_34_3 rfl) rfl rfl) rfl rfl rfl ?_
 refine WDm.quiet (QS.val (Y.load fl_3 rfl m0 rfl) rfl rfl) rfl rfl rfl ?_
 refine WDm.quiet (QS.pure (Y.indexK rfl rfl (ix_pages _ _ hp)) rfl rfl) rfl rfl rfl ?_
 refine WDm.quiet (QS.pure (Y.fieldK rfl (fd_cells _)) rfl rfl) rfl rfl rfl ?_
 refine WDm.quiet (QS.pure (Y.fieldAddr fa_34_4 rfl) rfl rfl) rfl rfl rfl ?_
 refine WDm.quiet (QS.val (Y.load fl_3 rfl m0 rfl) rfl rfl) rfl rfl rfl ?_
 refine WDm.quiet (QS.pure (Y.indexK rfl rfl (ix_cells _ _ hc)) rfl rfl) rfl rfl rfl ?_
 refine WDm.quiet (QS.pure (Y.eql rfl rfl) rfl rfl) rfl rfl rfl ?_
 refine WDm.quiet (QS.pure (Y.move rfl) rfl rfl) rfl rfl rfl ?_
 refine WDm.split (t := 66) rfl (fun r h66 => ?_)
 cases r
 refine WDm.quiet (QS.guardF rfl rfl rfl rfl rfl) rfl rfl rfl ?_
 refine WDm.quiet (QS.guardF rfl rfl rfl rfl rfl) rfl rfl rfl ?_
 refine WDm.quiet (QS.guardF rfl rfl rfl rfl rfl) rfl rfl rfl ?_
 refine WDm.quiet (QS.guardF rfl rfl rfl rfl rfl) rfl rfl rfl ?_
 refine WDm.quiet (QS.guardF rfl rfl rfl rfl rfl) rfl rfl rfl ?_
 refine WDm.quiet (QS.guardF rfl rfl rfl rfl rfl) rfl rfl rfl ?_
 refine WDm.quiet (QS.guardF rfl rfl rfl rfl rfl) rfl rfl rfl ?_
 refine WDm.quiet (QS.guardF rfl rfl rfl rfl rfl) rfl rfl rfl ?_
 refine WDm.quiet (QS.guardF rfl rfl rfl rfl rfl) rfl rfl rfl ?_
 refine WDm.quiet (QS.pure (Y.pickF rfl rfl) rfl rfl) rfl rfl rfl ?_
 refine WDm.quiet (QS.pure (Y.assign rfl) rfl rfl) rfl rfl rfl ?_
 refine WDm.nil (WQ.and ?_)
 refine WQ.next ?_
 refine WC.ret ?_
 refine WQ.blockRet ?_
 refine WQ.thenRet ?_
 refine WQ.done Try.results122 (RVs.cons (RV.tmp rfl) RVs.nil) (fun a w s => ?_)
 · refine ⟨?_, s.low⟩
   clear s hbd
   simp only [packed]
   apply retb
   try simp only [beq4, beq3, beq2, beq0] at *
   unfold follows
   simp_all
 refine WDm.quiet (QS.guardT rfl rfl rfl (QS.pure (Y.move rfl) rfl rfl)) rfl rfl rfl ?_
 refine WDm.quiet (QS.guardT rfl rfl rfl (QS.pure (Y.fieldAddr fa_34_1 rfl) rfl rfl)) rfl rfl rfl ?_
 refine WDm.quiet (QS.guardT rfl rfl rfl (QS.val (Y.load fl_3 rfl m0 rfl) rfl rfl)) rfl rfl rfl ?_
 refine WDm.quiet (QS.guardT rfl rfl rfl (QS.pure (Y.fieldAddr fa_34_3 rfl) rfl rfl)) rfl rfl rfl ?_
 refine WDm.quiet (QS.guardT rfl rfl rfl (QS.val (Y.load fl_3 rfl m0 rfl) rfl rfl)) rfl rfl rfl ?_
 refine WDm.quiet (QS.guardT rfl rfl rfl (QS.pure (Y.fieldAddr fa_34_4 rfl) rfl rfl)) rfl rfl rfl ?_
 refine WDm.quiet (QS.guardT rfl rfl rfl (QS.val (Y.load fl_3 rfl m0 rfl) rfl rfl)) rfl rfl rfl ?_
 refine WDm.quiet (QS.guardT rfl rfl rfl (QS.call Try.call145 rfl (fun _ w s => w_taken l A b o c _ _ _ w hl (hr.below s.low) hR.fit))) rfl rfl rfl ?_
 refine WDm.quiet (QS.guardT rfl rfl rfl (QS.pure (Y.not rfl) rfl rfl)) rfl rfl rfl ?_
 refine WDm.quiet (QS.pure (Y.pickT rfl rfl) rfl rfl) rfl rfl rfl ?_
 refine WDm.quiet (QS.pure (Y.assign rfl) rfl rfl) rfl rfl rfl ?_
 refine WDm.nil (WQ.and ?_)
 refine WQ.next ?_
 refine WC.ret ?_
 refine WQ.blockRet ?_
 refine WQ.thenRet ?_
 refine WQ.done Try.results122 (RVs.cons (RV.tmp rfl) RVs.nil) (fun a w s => ?_)
 · refine ⟨?_, s.low⟩
   clear s hbd
   simp only [packed]
   apply retb
   try simp only [beq4, beq3, beq2, beq0] at *
   unfold follows
   simp_all
 refine WC.seq ?_
 refine WC.region ?_
 refine WL.pure (Y.eql rfl rfl) rfl rfl rfl ?_
 refine WL.pure (Y.assign rfl) rfl rfl rfl ?_
 refine WL.nil ?_
 refine WQ.next ?_
 refine WC.cond rfl (fun h77 => ?_) (fun h77 => ?_)
 refine WC.seq ?_
 refine WC.region ?_
 refine WL.pure (Y.assign rfl) rfl rfl rfl ?_
 refine WL.nil ?_
 refine WQ.next ?_
 refine WC.ret ?_
 refine WQ.blockRet ?_
 refine WQ.thenRet ?_
 refine WQ.done Try.results122 (RVs.cons (RV.tmp rfl) RVs.nil) (fun a w s => ?_)
 · refine ⟨?_, s.low⟩
   clear s hbd
   simp only [packed]
   apply retb
   try simp only [beq4, beq3, beq2, beq0] at *
   unfold follows
   simp_all
 refine WC.seq ?_
 refine WC.region ?_
 refine WL.pure (Y.eql rfl rfl) rfl rfl rfl ?_
 refine WL.pure (Y.assign rfl) rfl rfl rfl ?_
 refine WL.nil ?_
 refine WQ.next ?_
 refine WC.cond rfl (fun h79 => ?_) (fun h79 => ?_)
 refine WC.seq ?_
 refine WC.seq ?_
 refine WC.region ?_
 refine WL.pure (Y.move rfl) rfl rfl rfl ?_
 refine WL.pure (Y.len Try.underlying64 rfl) rfl rfl rfl ?_
 refine WL.pure (Y.eql rfl rfl) rfl rfl rfl ?_
 refine WL.nil ?_
 refine WQ.next ?_
 refine WC.cond rfl (fun h83 => ?_) (fun h83 => ?_)
 refine WC.seq ?_
 refine WC.region ?_
 refine WL.pure (Y.assign rfl) rfl rfl rfl ?_
 refine WL.nil ?_
 refine WQ.next ?_
 refine WC.ret ?_
 refine WQ.thenRet ?_
 refine WQ.blockRet ?_
 refine WQ.thenRet ?_
 refine WQ.done Try.results122 (RVs.cons (RV.tmp rfl) RVs.nil) (fun a w s => ?_)
 · refine ⟨?_, s.low⟩
   clear s hbd
   simp only [packed]
   apply retb
   try simp only [beq4, beq3, beq2, beq0] at *
   unfold follows
   simp_all
 refine WC.skip' ?_
 refine WQ.next ?_
 refine WC.seq ?_
 refine WC.region ?_
 obtain ⟨m, us, hu⟩ := up_some h83
 obtain ⟨hm1, hm2⟩ := ups_le (h := l.reverse) (t := r.txn) (n := m) (by rw [hu]; exact List.Mem.head _)
 rw [List.length_reverse] at hm2
 have hlen : 1 ≤ (ups l.reverse r.txn).length := by rw [hu]; simp
 have hule := wrs_len l.reverse r.txn
 have hul : (ups l.reverse r.txn).length ≤ l.length := by rw [ups_len]; simp at hule; omega
 have hm := up_top hu
 obtain ⟨x, hk2⟩ := get_of_lt (l := l) (k := m - 1) (by omega)
 refine WL.know (p := ∃ g, i.1 = some ⟨g, 0, none⟩) (fun a w s => by obtain ⟨g, hA, _⟩ := own_cell s.fact.2 (nums_get hm); exact ⟨g, hA⟩) (fun ⟨g, hA⟩ => ?_)
 refine WL.pure (Y.move rfl) rfl rfl rfl ?_
 refine WL.pure (Y.move rfl) rfl rfl rfl ?_
 refine WL.pure (Y.move rfl) rfl rfl rfl ?_
 refine WL.pure (Y.len Try.underlying64 rfl) rfl rfl rfl ?_
 refine WL.pure (Y.sub rfl rfl (i64_sub1 hlen (by omega))) rfl rfl rfl ?_
 refine WL.pure (Y.ixSlA Try.underlying64 Try.sizeOf3 rfl rfl hA (nat0 _) (by omega)) rfl rfl rfl ?_
 refine WL.val (Y.loadc fl_3 rfl (v := .int .i64 (m : Int)) (fun a w s => by obtain ⟨g2, hA2, hc⟩ := own_cell s.fact.2 (nums_get hm); cases hA.symm.trans hA2; simpa using hc)) rfl rfl rfl ?_
 refine WL.pure (Y.sub rfl rfl (i64_sub1 hm1 (by omega))) rfl rfl rfl ?_
 refine WL.pure (Y.ixSlA Try.underlying39 Try.sizeOf34 rfl rfl (hr.addr hk2) (nat0 _) (get_ltI hk2)) rfl rfl rfl ?_
 refine WL.val (Y.loadAc wd_34 rfl (r := x.cl) rfl (fun a w s j hj => (hr.below s.low).full hk2 j hj)) rfl rfl rfl ?_
 refine WL.eff (E.alloc Try.zeroValue34 rfl rfl) rfl (fun b6 => ?_)
 refine WL.eff (E.store Try.sizeOf34 rfl rfl rfl rfl rfl u0 rfl rfl) rfl (fun _ => ?_)
 refine WL.nil ?_
 refine WQ.next ?_
 refine WC.seq ?_
 refine WC.region ?_
 refine WL.pure (Y.fieldAddr fa_34_3 rfl) rfl rfl rfl ?_
 refine WL.val (Y.load fl_3 rfl m1 rfl) rfl rfl rfl ?_
 refine WL.pure (Y.fieldAddr fa_34_3 rfl) rfl rfl rfl ?_
 refine WL.val (Y.load fl_3 rfl m0 rfl) rfl rfl rfl ?_
 refine WL.pure (Y.eql rfl rfl) rfl rfl rfl ?_
 refine WL.pure (Y.move rfl) rfl rfl rfl ?_
 refine WL.split (t := 99) rfl (fun r h99 => ?_)
 cases r
 refine WL.guardF rfl rfl rfl rfl rfl rfl ?_
 refine WL.guardF rfl rfl rfl rfl rfl rfl ?_
 refine WL.guardF rfl rfl rfl rfl rfl rfl ?_
 refine WL.guardF rfl rfl rfl rfl rfl rfl ?_
 refine WL.guardF rfl rfl rfl rfl rfl rfl ?_
 refine WL.pure (Y.pickF rfl rfl) rfl rfl rfl ?_
 refine WL.pure (Y.move rfl) rfl rfl rfl ?_
 refine WL.guardF rfl rfl rfl rfl rfl rfl ?_
 refine WL.guardF rfl rfl rfl rfl rfl rfl ?_
 refine WL.guardF rfl rfl rfl rfl rfl rfl ?_
 refine WL.guardF rfl rfl rfl rfl rfl rfl ?_
 refine WL.guardF rfl rfl rfl rfl rfl rfl ?_
 refine WL.pure (Y.pickF rfl rfl) rfl rfl rfl ?_
 refine WL.pure (Y.move rfl) rfl rfl rfl ?_
 refine WL.guardF rfl rfl rfl rfl rfl rfl ?_
 refine WL.guardF rfl rfl rfl rfl rfl rfl ?_
 refine WL.guardF rfl rfl rfl rfl rfl rfl ?_
 refine WL.guardF rfl rfl rfl rfl rfl rfl ?_
 refine WL.guardF rfl rfl rfl rfl rfl rfl ?_
 refine WL.pure (Y.pickF rfl rfl) rfl rfl rfl ?_
 refine WL.pure (Y.move rfl) rfl rfl rfl ?_
 refine WL.guardF rfl rfl rfl rfl rfl rfl ?_
 refine WL.guardF rfl rfl rfl rfl rfl rfl ?_
 refine WL.guardF rfl rfl rfl rfl rfl rfl ?_
 refine WL.guardF rfl rfl rfl rfl rfl rfl ?_
 refine WL.guardF rfl rfl rfl rfl rfl rfl ?_
 refine WL.pure (Y.pickF rfl rfl) rfl rfl rfl ?_
 refine WL.pure (Y.assign rfl) rfl rfl rfl ?_
 refine WL.nil ?_
 refine WQ.next ?_
 refine WC.ret ?_
 refine WQ.blockRet ?_
 refine WQ.thenRet ?_
 refine WQ.done Try.results122 (RVs.cons (RV.tmp rfl) RVs.nil) (fun a w s => ?_)
 · refine ⟨?_, s.low⟩
   clear s hbd
   simp only [packed]
   apply retb
   try simp only [beq4, beq3, beq2, beq0] at *
   unfold follows
   rw [hu]
   dsimp only
   rw [recAt_rev hk2]
   simp_all
 refine WL.guardT rfl rfl rfl ?_
 refine WL.pure (Y.fieldAddr fa_34_4 rfl) rfl rfl rfl ?_
 refine WL.guardT rfl rfl rfl ?_
 refine WL.val (Y.load fl_3 rfl m1 rfl) rfl rfl rfl ?_
 refine WL.guardT rfl rfl rfl ?_
 refine WL.pure (Y.fieldAddr fa_34_4 rfl) rfl rfl rfl ?_
 refine WL.guardT rfl rfl rfl ?_
 refine WL.val (Y.load fl_3 rfl m0 rfl) rfl rfl rfl ?_
 refine WL.guardT rfl rfl rfl ?_
 refine WL.pure (Y.eql rfl rfl) rfl rfl rfl ?_
 refine WL.pure (Y.pickT rfl rfl) rfl rfl rfl ?_
 refine WL.pure (Y.move rfl) rfl rfl rfl ?_
 refine WL.split (t := 106) rfl (fun r h106 => ?_)
 cases r
 refine WL.guardF rfl rfl rfl rfl rfl rfl ?_
 refine WL.guardF rfl rfl rfl rfl rfl rfl ?_
 refine WL.guardF rfl rfl rfl rfl rfl rfl ?_
 refine WL.guardF rfl rfl rfl rfl rfl rfl ?_
 refine WL.guardF rfl rfl rfl rfl rfl rfl ?_
 refine WL.pure (Y.pickF rfl rfl) rfl rfl rfl ?_
 refine WL.pure (Y.move rfl) rfl rfl rfl ?_
 refine WL.guardF rfl rfl rfl rfl rfl rfl ?_
 refine WL.guardF rfl rfl rfl rfl rfl rfl ?_
 refine WL.guardF rfl rfl rfl rfl rfl rfl ?_
 refine WL.guardF rfl rfl rfl rfl rfl rfl ?_
 refine WL.guardF rfl rfl rfl rfl rfl rfl ?_
 refine WL.pure (Y.pickF rfl rfl) rfl rfl rfl ?_
 refine WL.pure (Y.move rfl) rfl rfl rfl ?_
 refine WL.guardF rfl rfl rfl rfl rfl rfl ?_
 refine WL.guardF rfl rfl rfl rfl rfl rfl ?_
 refine WL.guardF rfl rfl rfl rfl rfl rfl ?_
 refine WL.guardF rfl rfl rfl rfl rfl rfl ?_
 refine WL.guardF rfl rfl rfl rfl rfl rfl ?_
 refine WL.pure (Y.pickF rfl rfl) rfl rfl rfl ?_
 refine WL.pure (Y.assign rfl) rfl rfl rfl ?_
 refine WL.nil ?_
 refine WQ.next ?_
 refine WC.ret ?_
 refine WQ.blockRet ?_
 refine WQ.thenRet ?_
 refine WQ.done Try.results122 (RVs.cons (RV.tmp rfl) RVs.nil) (fun a w s => ?_)
 · refine ⟨?_, s.low⟩
   clear s hbd
   simp only [packed]
   apply retb
   try simp only [beq4, beq3, beq2, beq0] at *
   unfold follows
   rw [hu]
   dsimp only
   rw [recAt_rev hk2]
   simp_all
 refine WL.guardT rfl rfl rfl ?_
 refine WL.pure (Y.fieldAddr fa_34_5 rfl) rfl rfl rfl ?_
 refine WL.guardT rfl rfl rfl ?_
 refine WL.val (Y.load fl_3 rfl m1 rfl) rfl rfl rfl ?_
 refine WL.guardT rfl rfl rfl ?_
 refine WL.pure (Y.fieldAddr fa_34_6 rfl) rfl rfl rfl ?_
 refine WL.guardT rfl rfl rfl ?_
 refine WL.val (Y.load fl_3 rfl m0 rfl) rfl rfl rfl ?_
 refine WL.guardT rfl rfl rfl ?_
 refine WL.pure (Y.eql rfl rfl) rfl rfl rfl ?_
 refine WL.pure (Y.pickT rfl rfl) rfl rfl rfl ?_
 refine WL.pure (Y.move rfl) rfl rfl rfl ?_
 refine WL.split (t := 113) rfl (fun r h113 => ?_)
 cases r
 refine WL.guardF rfl rfl rfl rfl rfl rfl ?_
 refine WL.guardF rfl rfl rfl rfl rfl rfl ?_
 refine WL.guardF rfl rfl rfl rfl rfl rfl ?_
 refine WL.guardF rfl rfl rfl rfl rfl rfl ?_
 refine WL.guardF rfl rfl rfl rfl rfl rfl ?_
 refine WL.pure (Y.pickF rfl rfl) rfl rfl rfl ?_
 refine WL.pure (Y.move rfl) rfl rfl rfl ?_
 refine WL.guardF rfl rfl rfl rfl rfl rfl ?_
 refine WL.guardF rfl rfl rfl rfl rfl rfl ?_
 refine WL.guardF rfl rfl rfl rfl rfl rfl ?_
 refine WL.guardF rfl rfl rfl rfl rfl rfl ?_
 refine WL.guardF rfl rfl rfl rfl rfl rfl ?_
 refine WL.pure (Y.pickF rfl rfl) rfl rfl rfl ?_
 refine WL.pure (Y.assign rfl) rfl rfl rfl ?_
 refine WL.nil ?_
 refine WQ.next ?_
 refine WC.ret ?_
 refine WQ.blockRet ?_
 refine WQ.thenRet ?_
 refine WQ.done Try.results122 (RVs.cons (RV.tmp rfl) RVs.nil) (fun a w s => ?_)
 · refine ⟨?_, s.low⟩
   clear s hbd
   simp only [packed]
   apply retb
   try simp only [beq4, beq3, beq2, beq0] at *
   unfold follows
   rw [hu]
   dsimp only
   rw [recAt_rev hk2]
   simp_all
 refine WL.guardT rfl rfl rfl ?_
 refine WL.pure (Y.fieldAddr fa_34_6 rfl) rfl rfl rfl ?_
 refine WL.guardT rfl rfl rfl ?_
 refine WL.val (Y.load fl_3 rfl m1 rfl) rfl rfl rfl ?_
 refine WL.guardT rfl rfl rfl ?_
 refine WL.pure (Y.fieldAddr fa_34_5 rfl) rfl rfl rfl ?_
 refine WL.guardT rfl rfl rfl ?_
 refine WL.val (Y.load fl_3 rfl m0 rfl) rfl rfl rfl ?_
 refine WL.guardT rfl rfl rfl ?_
 refine WL.pure (Y.eql rfl rfl) rfl rfl rfl ?_
 refine WL.pure (Y.pickT rfl rfl) rfl rfl rfl ?_
 refine WL.pure (Y.move rfl) rfl rfl rfl ?_
 refine WL.split (t := 120) rfl (fun r h120 => ?_)
 cases r
 refine WL.guardF rfl rfl rfl rfl rfl rfl ?_
 refine WL.guardF rfl rfl rfl rfl rfl rfl ?_
 refine WL.guardF rfl rfl rfl rfl rfl rfl ?_
 refine WL.guardF rfl rfl rfl rfl rfl rfl ?_
 refine WL.guardF rfl rfl rfl rfl rfl rfl ?_
 refine WL.pure (Y.pickF rfl rfl) rfl rfl rfl ?_
 refine WL.pure (Y.assign rfl) rfl rfl rfl ?_
 refine WL.nil ?_
 refine WQ.next ?_
 refine WC.ret ?_
 refine WQ.blockRet ?_
 refine WQ.thenRet ?_
 refine WQ.done Try.results122 (RVs.cons (RV.tmp rfl) RVs.nil) (fun a w s => ?_)
 · refine ⟨?_, s.low⟩
   clear s hbd
   simp only [packed]
   apply retb
   try simp only [beq4, beq3, beq2, beq0] at *
   unfold follows
   rw [hu]
   dsimp only
   rw [recAt_rev hk2]
   simp_all
 refine WL.guardT rfl rfl rfl ?_
 refine WL.pure (Y.fieldAddr fa_34_7 rfl) rfl rfl rfl ?_
 refine WL.guardT rfl rfl rfl ?_
 refine WL.val (Y.load fl_3 rfl m1 rfl) rfl rfl rfl ?_
 refine WL.guardT rfl rfl rfl ?_
 refine WL.pure (Y.fieldAddr fa_34_2 rfl) rfl rfl rfl ?_
 refine WL.guardT rfl rfl rfl ?_
 refine WL.val (Y.load fl_3 rfl m0 rfl) rfl rfl rfl ?_
 refine WL.guardT rfl rfl rfl ?_
 refine WL.pure (Y.eql rfl rfl) rfl rfl rfl ?_
 refine WL.pure (Y.pickT rfl rfl) rfl rfl rfl ?_
 refine WL.pure (Y.assign rfl) rfl rfl rfl ?_
 refine WL.nil ?_
 refine WQ.next ?_
 refine WC.ret ?_
 refine WQ.blockRet ?_
 refine WQ.thenRet ?_
 refine WQ.done Try.results122 (RVs.cons (RV.tmp rfl) RVs.nil) (fun a w s => ?_)
 · refine ⟨?_, s.low⟩
   clear s hbd
   simp only [packed]
   apply retb
   try simp only [beq4, beq3, beq2, beq0] at *
   unfold follows
   rw [hu]
   dsimp only
   rw [recAt_rev hk2]
   simp_all
 refine WC.skip' ?_
 refine WQ.blockEnd ?_
 refine WQ.next ?_
 refine WC.seq ?_
 refine WC.region ?_
 refine WL.pure (Y.move rfl) rfl rfl rfl ?_
 refine WL.pure (Y.eql rfl rfl) rfl rfl rfl ?_
 refine WL.pure (Y.move rfl) rfl rfl rfl ?_
 refine WL.split (t := 129) rfl (fun r h129 => ?_)
 cases r
 refine WL.guardT rfl rfl rfl ?_
 refine WL.pure (Y.move rfl) rfl rfl rfl ?_
 refine WL.guardT rfl rfl rfl ?_
 refine WL.pure (Y.eql rfl rfl) rfl rfl rfl ?_
 refine WL.guardT rfl rfl rfl ?_
 refine WL.pure (Y.move rfl) rfl rfl rfl ?_
 refine WL.split (t := 132) rfl (fun r h132 => ?_)
 cases r
 refine WL.guardF rfl rfl rfl rfl rfl rfl ?_
 refine WL.guardF rfl rfl rfl rfl rfl rfl ?_
 refine WL.guardF rfl rfl rfl rfl rfl rfl ?_
 refine WL.guardT rfl rfl rfl ?_
 refine WL.pure (Y.pickF rfl rfl) rfl rfl rfl ?_
 refine WL.pure (Y.pickF rfl rfl) rfl rfl rfl ?_
 refine WL.pure (Y.assign rfl) rfl rfl rfl ?_
 refine WL.nil ?_
 refine WQ.next ?_
 refine WC.ret ?_
 refine WQ.done Try.results122 (RVs.cons (RV.tmp rfl) RVs.nil) (fun a w s => ?_)
 · refine ⟨?_, s.low⟩
   clear s hbd
   simp only [packed]
   apply retb
   try simp only [beq4, beq3, beq2, beq0] at *
   unfold follows
   simp_all
 refine WL.guardT rfl rfl rfl ?_
 refine WL.pure (Y.move rfl) rfl rfl rfl ?_
 refine WL.guardT rfl rfl rfl ?_
 refine WL.pure (Y.len Try.underlying64 rfl) rfl rfl rfl ?_
 refine WL.guardT rfl rfl rfl ?_
 refine WL.pure (Y.eql rfl rfl) rfl rfl rfl ?_
 refine WL.guardT rfl rfl rfl ?_
 refine WL.pure (Y.pickT rfl rfl) rfl rfl rfl ?_
 refine WL.pure (Y.pickF rfl rfl) rfl rfl rfl ?_
 refine WL.pure (Y.assign rfl) rfl rfl rfl ?_
 refine WL.nil ?_
 refine WQ.next ?_
 refine WC.ret ?_
 refine WQ.done Try.results122 (RVs.cons (RV.tmp rfl) RVs.nil) (fun a w s => ?_)
 · refine ⟨?_, s.low⟩
   clear s hbd
   simp only [packed]
   apply retb
   try simp only [beq4, beq3, beq2, beq0] at *
   unfold follows
   simp_all
 refine WL.guardF rfl rfl rfl rfl rfl rfl ?_
 refine WL.guardF rfl rfl rfl rfl rfl rfl ?_
 refine WL.guardF rfl rfl rfl rfl rfl rfl ?_
 refine WL.guardU rfl rfl rfl rfl rfl ?_
 refine WL.guardU rfl rfl rfl rfl rfl ?_
 refine WL.guardU rfl rfl rfl rfl rfl ?_
 refine WL.guardF rfl rfl rfl rfl rfl rfl ?_
 refine WL.pure (Y.pickT rfl rfl) rfl rfl rfl ?_
 refine WL.pure (Y.assign rfl) rfl rfl rfl ?_
 refine WL.nil ?_
 refine WQ.next ?_
 refine WC.ret ?_
 refine WQ.done Try.results122 (RVs.cons (RV.tmp rfl) RVs.nil) (fun a w s => ?_)
 · refine ⟨?_, s.low⟩
   clear s hbd
   simp only [packed]
   apply retb
   try simp only [beq4, beq3, beq2, beq0] at *
   unfold follows
   simp_all
 refine WDm.quiet (QS.guardT rfl rfl rfl (QS.pure (Y.fieldAddr fa_34_0 rfl) rfl rfl)) rfl rfl rfl ?_
 refine WDm.quiet (QS.guardT rfl rfl rfl (QS.val (Y.load fl_3 rfl m0 rfl) rfl rfl)) rfl rfl rfl ?_
 refine WDm.quiet (QS.guardT rfl rfl rfl (QS.pure (Y.neq rfl rfl) rfl rfl)) rfl rfl rfl ?_
 refine WDm.quiet (QS.guardT rfl rfl rfl (QS.pure (Y.pickT rfl rfl) rfl rfl)) rfl rfl rfl ?_
 refine WDm.quiet (QS.pure (Y.pickF rfl rfl) rfl rfl) rfl rfl rfl ?_
 refine WDm.nil (WQ.and ?_)
 refine WQ.next ?_
 refine WC.cond rfl (fun h45 => ?_) (fun h45 => ?_)
 refine WC.seq ?_
 refine WC.region ?_
 refine WL.pure (Y.assign rfl) rfl rfl rfl ?_
 refine WL.nil ?_
 refine WQ.next ?_
 refine WC.ret ?_
 refine WQ.thenRet ?_
 refine WQ.done Try.results122 (RVs.cons (RV.tmp rfl) RVs.nil) (fun a w s => ?_)
 · refine ⟨?_, s.low⟩
   clear s hbd
   simp only [packed]
   apply retb
   try simp only [beq4, beq3, beq2, beq0] at *
   unfold follows
   simp_all
 refine WC.skip' ?_
 refine WQ.next ?_
 refine WC.seq ?_
 refine WC.region ?_
 refine WL.pure (Y.move rfl) rfl rfl rfl ?_
 refine WL.pure (Y.fieldAddr fa_34_1 rfl) rfl rfl rfl ?_
 refine WL.val (Y.load fl_3 rfl m0 rfl) rfl rfl rfl ?_
 refine WL.eff (E.callF (fun i : Option Addr × Nat => .slice i.1 (ups l.reverse r.txn).length i.2) (fun i => SF.own w.heap.size 3 1 (.slice i.1 (ups l.reverse r.txn).length i.2) (ups l.reverse r.txn).length (nums (ups l.reverse r.txn).reverse)) Try.call153 rfl (fun _ w s => (w_stands l A b o c r.txn w hl (hr.below s.low) (hR.fit _)).mono fun e w' ⟨i, he, hb, ho⟩ => ⟨i, he, hb, ownsRow_le ho s.low.size, fun g hg => .inl (ho.lt g hg).1⟩) rfl) rfl (fun i => ?_)
 refine WL.pure (Y.assign rfl) rfl rfl rfl ?_
 refine WL.nil ?_
 refine WQ.next ?_
 refine WC.seq ?_
 refine WC.seq ?_
 refine WC.region ?_
 refine WL.pure (Y.fieldAddr fa_34_0 rfl) rfl rfl rfl ?_
 refine WL.val (Y.load fl_3 rfl m0 rfl) rfl rfl rfl ?_
 refine WL.nil ?_
 refine WQ.next ?_
 refine WC.block ?_
 refine WC.seq ?_
 refine WC.region ?_
 refine WL.pure (Y.eql rfl rfl) rfl rfl rfl ?_
 refine WL.pure (Y.assign rfl) rfl rfl rfl ?_
 refine WL.nil ?_
 refine WQ.next ?_
 refine WC.cond rfl (fun h52 => ?_) (fun h52 => ?_)
 refine WC.seq ?_
 have hk1 : r.kind = 1 := by simpa using h52
 obtain ⟨hp, hc, _⟩ := hbd.2.2.2.2.2.2.2.2.1 (by simp [R.turns, hk1])
 refine WC.drop [4] ?_
 refine WC.draw [(0, .q false), (1, .q true), (2, .q false), (3, .q true), (4, .q false), (5, .q true), (6, .q false), (7, .q false), (8, .q false), (9, .q true), (10, .q false), (11, .q false), (12, .q false), (13, .q false), (14, .q false), (15, .q true), (16, .q false), (17, .q true), (18, .q false), (19, .q true), (20, .q true), (21, .q false), (22, .q false), (23, .q false)] mixed (by kernel_rfl) ?_
 refine WDm.quiet (QS.pure (Y.fieldAddr fa_34_5 rfl) rfl rfl) rfl rfl rfl ?_
 refine WDm.quiet (QS.val (Y.load fl_3 rfl m0 rfl) rfl rfl) rfl rfl rfl ?_
 refine WDm.quiet (QS.pure (Y.move rfl) rfl rfl) rfl rfl rfl ?_
 refine WDm.quiet (QS.call Try.call123 rfl (fun _ w s => w_pages l A b o c w hl (hr.below s.low) hR.inR.rev)) rfl rfl rfl ?_
 refine WDm.quiet (QS.pure (Y.fieldAddr fa_34_3 rfl) rfl rfl) rfl rfl rfl ?_
 refine WDm.quiet (QS.val (Y.load fl_3 rfl m0 rfl) rfl rfl) rfl rfl rfl ?_
 refine WDm.quiet (QS.pure (Y.indexK rfl rfl (ix_pages _ _ hp)) rfl rfl) rfl rfl rfl ?_
 refine WDm.quiet (QS.pure (Y.fieldK rfl (fd_cells _)) rfl rfl) rfl rfl rfl ?_
 refine WDm.quiet (QS.pure (Y.fieldAddr fa_34_4 rfl) rfl rfl) rfl rfl rfl ?_
 refine WDm.quiet (QS.val (Y.load fl_3 rfl m0 rfl) rfl rfl) rfl rfl rfl ?_
 refine WDm.quiet (QS.pure (Y.indexK rfl rfl (ix_cells _ _ hc)) rfl rfl) rfl rfl rfl ?_
 refine WDm.quiet (QS.pure (Y.eql rfl rfl) rfl rfl) rfl rfl rfl ?_
 refine WDm.quiet (QS.pure (Y.move rfl) rfl rfl) rfl rfl rfl ?_
 refine WDm.split (t := 66) rfl (fun r h66 => ?_)
 cases r
 refine WDm.quiet (QS.guardF rfl rfl rfl rfl rfl) rfl rfl rfl ?_
 refine WDm.quiet (QS.guardF rfl rfl rfl rfl rfl) rfl rfl rfl ?_
 refine WDm.quiet (QS.guardF rfl rfl rfl rfl rfl) rfl rfl rfl ?_
 refine WDm.quiet (QS.guardF rfl rfl rfl rfl rfl) rfl rfl rfl ?_
 refine WDm.quiet (QS.guardF rfl rfl rfl rfl rfl) rfl rfl rfl ?_
 refine WDm.quiet (QS.guardF rfl rfl rfl rfl rfl) rfl rfl rfl ?_
 refine WDm.quiet (QS.guardF rfl rfl rfl rfl rfl) rfl rfl rfl ?_
 refine WDm.quiet (QS.guardF rfl rfl rfl rfl rfl) rfl rfl rfl ?_
 refine WDm.quiet (QS.guardF rfl rfl rfl rfl rfl) rfl rfl rfl ?_
 refine WDm.quiet (QS.pure (Y.pickF rfl rfl) rfl rfl) rfl rfl rfl ?_
 refine WDm.quiet (QS.pure (Y.assign rfl) rfl rfl) rfl rfl rfl ?_
 refine WDm.nil (WQ.and ?_)
 refine WQ.next ?_
 refine WC.ret ?_
 refine WQ.blockRet ?_
 refine WQ.thenRet ?_
 refine WQ.done Try.results122 (RVs.cons (RV.tmp rfl) RVs.nil) (fun a w s => ?_)
 · refine ⟨?_, s.low⟩
   clear s hbd
   simp only [packed]
   apply retb
   try simp only [beq4, beq3, beq2, beq0] at *
   unfold follows
   simp_all
 refine WDm.quiet (QS.guardT rfl rfl rfl (QS.pure (Y.move rfl) rfl rfl)) rfl rfl rfl ?_
 refine WDm.quiet (QS.guardT rfl rfl rfl (QS.pure (Y.fieldAddr fa_34_1 rfl) rfl rfl)) rfl rfl rfl ?_
 refine WDm.quiet (QS.guardT rfl rfl rfl (QS.val (Y.load fl_3 rfl m0 rfl) rfl rfl)) rfl rfl rfl ?_
 refine WDm.quiet (QS.guardT rfl rfl rfl (QS.pure (Y.fieldAddr fa_34_3 rfl) rfl rfl)) rfl rfl rfl ?_
 refine WDm.quiet (QS.guardT rfl rfl rfl (QS.val (Y.load fl_3 rfl m0 rfl) rfl rfl)) rfl rfl rfl ?_
 refine WDm.quiet (QS.guardT rfl rfl rfl (QS.pure (Y.fieldAddr fa_34_4 rfl) rfl rfl)) rfl rfl rfl ?_
 refine WDm.quiet (QS.guardT rfl rfl rfl (QS.val (Y.load fl_3 rfl m0 rfl) rfl rfl)) rfl rfl rfl ?_
 refine WDm.quiet (QS.guardT rfl rfl rfl (QS.call Try.call145 rfl (fun _ w s => w_taken l A b o c _ _ _ w hl (hr.below s.low) hR.fit))) rfl rfl rfl ?_
 refine WDm.quiet (QS.guardT rfl rfl rfl (QS.pure (Y.not rfl) rfl rfl)) rfl rfl rfl ?_
 refine WDm.quiet (QS.pure (Y.pickT rfl rfl) rfl rfl) rfl rfl rfl ?_
 refine WDm.quiet (QS.pure (Y.assign rfl) rfl rfl) rfl rfl rfl ?_
 refine WDm.nil (WQ.and ?_)
 refine WQ.next ?_
 refine WC.ret ?_
 refine WQ.blockRet ?_
 refine WQ.thenRet ?_
 refine WQ.done Try.results122 (RVs.cons (RV.tmp rfl) RVs.nil) (fun a w s => ?_)
 · refine ⟨?_, s.low⟩
   clear s hbd
   simp only [packed]
   apply retb
   try simp only [beq4, beq3, beq2, beq0] at *
   unfold follows
   simp_all
 refine WC.seq ?_
 refine WC.region ?_
 refine WL.pure (Y.eql rfl rfl) rfl rfl rfl ?_
 refine WL.pure (Y.assign rfl) rfl rfl rfl ?_
 refine WL.nil ?_
 refine WQ.next ?_
 refine WC.cond rfl (fun h77 => ?_) (fun h77 => ?_)
 refine WC.seq ?_
 refine WC.region ?_
 refine WL.pure (Y.assign rfl) rfl rfl rfl ?_
 refine WL.nil ?_
 refine WQ.next ?_
 refine WC.ret ?_
 refine WQ.blockRet ?_
 refine WQ.thenRet ?_
 refine WQ.done Try.results122 (RVs.cons (RV.tmp rfl) RVs.nil) (fun a w s => ?_)
 · refine ⟨?_, s.low⟩
   clear s hbd
   simp only [packed]
   apply retb
   try simp only [beq4, beq3, beq2, beq0] at *
   unfold follows
   simp_all
 refine WC.seq ?_
 refine WC.region ?_
 refine WL.pure (Y.eql rfl rfl) rfl rfl rfl ?_
 refine WL.pure (Y.assign rfl) rfl rfl rfl ?_
 refine WL.nil ?_
 refine WQ.next ?_
 refine WC.cond rfl (fun h79 => ?_) (fun h79 => ?_)
 refine WC.seq ?_
 refine WC.seq ?_
 refine WC.region ?_
 refine WL.pure (Y.move rfl) rfl rfl rfl ?_
 refine WL.pure (Y.len Try.underlying64 rfl) rfl rfl rfl ?_
 refine WL.pure (Y.eql rfl rfl) rfl rfl rfl ?_
 refine WL.nil ?_
 refine WQ.next ?_
 refine WC.cond rfl (fun h83 => ?_) (fun h83 => ?_)
 refine WC.seq ?_
 refine WC.region ?_
 refine WL.pure (Y.assign rfl) rfl rfl rfl ?_
 refine WL.nil ?_
 refine WQ.next ?_
 refine WC.ret ?_
 refine WQ.thenRet ?_
 refine WQ.blockRet ?_
 refine WQ.thenRet ?_
 refine WQ.done Try.results122 (RVs.cons (RV.tmp rfl) RVs.nil) (fun a w s => ?_)
 · refine ⟨?_, s.low⟩
   clear s hbd
   simp only [packed]
   apply retb
   try simp only [beq4, beq3, beq2, beq0] at *
   unfold follows
   simp_all
 refine WC.skip' ?_
 refine WQ.next ?_
 refine WC.seq ?_
 refine WC.region ?_
 obtain ⟨m, us, hu⟩ := up_some h83
 obtain ⟨hm1, hm2⟩ := ups_le (h := l.reverse) (t := r.txn) (n := m) (by rw [hu]; exact List.Mem.head _)
 rw [List.length_reverse] at hm2
 have hlen : 1 ≤ (ups l.reverse r.txn).length := by rw [hu]; simp
 have hule := wrs_len l.reverse r.txn
 have hul : (ups l.reverse r.txn).length ≤ l.length := by rw [ups_len]; simp at hule; omega
 have hm := up_top hu
 obtain ⟨x, hk2⟩ := get_of_lt (l := l) (k := m - 1) (by omega)
 refine WL.know (p := ∃ g, i.1 = some ⟨g, 0, none⟩) (fun a w s => by obtain ⟨g, hA, _⟩ := own_cell s.fact.2 (nums_get hm); exact ⟨g, hA⟩) (fun ⟨g, hA⟩ => ?_)
 refine WL.pure (Y.move rfl) rfl rfl rfl ?_
 refine WL.pure (Y.move rfl) rfl rfl rfl ?_
 refine WL.pure (Y.move rfl) rfl rfl rfl ?_
 refine WL.pure (Y.len Try.underlying64 rfl) rfl rfl rfl ?_
 refine WL.pure (Y.sub rfl rfl (i64_sub1 hlen (by omega))) rfl rfl rfl ?_
 refine WL.pure (Y.ixSlA Try.underlying64 Try.sizeOf3 rfl rfl hA (nat0 _) (by omega)) rfl rfl rfl ?_
 refine WL.val (Y.loadc fl_3 rfl (v := .int .i64 (m : Int)) (fun a w s => by obtain ⟨g2, hA2, hc⟩ := own_cell s.fact.2 (nums_get hm); cases hA.symm.trans hA2; simpa using hc)) rfl rfl rfl ?_
 refine WL.pure (Y.sub rfl rfl (i64_sub1 hm1 (by omega))) rfl rfl rfl ?_
 refine WL.pure (Y.ixSlA Try.underlying39 Try.sizeOf34 rfl rfl (hr.addr hk2) (nat0 _) (get_ltI hk2)) rfl rfl rfl ?_
 refine WL.val (Y.loadAc wd_34 rfl (r := x.cl) rfl (fun a w s j hj => (hr.below s.low).full hk2 j hj)) rfl rfl rfl ?_
 refine WL.eff (E.alloc Try.zeroValue34 rfl rfl) rfl (fun b7 => ?_)
 refine WL.eff (E.store Try.sizeOf34 rfl rfl rfl rfl rfl u0 rfl rfl) rfl (fun _ => ?_)
 refine WL.nil ?_
 refine WQ.next ?_
 refine WC.seq ?_
 refine WC.region ?_
 refine WL.pure (Y.fieldAddr fa_34_3 rfl) rfl rfl rfl ?_
 refine WL.val (Y.load fl_3 rfl m1 rfl) rfl rfl rfl ?_
 refine WL.pure (Y.fieldAddr fa_34_3 rfl) rfl rfl rfl ?_
 refine WL.val (Y.load fl_3 rfl m0 rfl) rfl rfl rfl ?_
 refine WL.pure (Y.eql rfl rfl) rfl rfl rfl ?_
 refine WL.pure (Y.move rfl) rfl rfl rfl ?_
 refine WL.split (t := 99) rfl (fun r h99 => ?_)
 cases r
 refine WL.guardF rfl rfl rfl rfl rfl rfl ?_
 refine WL.guardF rfl rfl rfl rfl rfl rfl ?_
 refine WL.guardF rfl rfl rfl rfl rfl rfl ?_
 refine WL.guardF rfl rfl rfl rfl rfl rfl ?_
 refine WL.guardF rfl rfl rfl rfl rfl rfl ?_
 refine WL.pure (Y.pickF rfl rfl) rfl rfl rfl ?_
 refine WL.pure (Y.move rfl) rfl rfl rfl ?_
 refine WL.guardF rfl rfl rfl rfl rfl rfl ?_
 refine WL.guardF rfl rfl rfl rfl rfl rfl ?_
 refine WL.guardF rfl rfl rfl rfl rfl rfl ?_
 refine WL.guardF rfl rfl rfl rfl rfl rfl ?_
 refine WL.guardF rfl rfl rfl rfl rfl rfl ?_
 refine WL.pure (Y.pickF rfl rfl) rfl rfl rfl ?_
 refine WL.pure (Y.move rfl) rfl rfl rfl ?_
 refine WL.guardF rfl rfl rfl rfl rfl rfl ?_
 refine WL.guardF rfl rfl rfl rfl rfl rfl ?_
 refine WL.guardF rfl rfl rfl rfl rfl rfl ?_
 refine WL.guardF rfl rfl rfl rfl rfl rfl ?_
 refine WL.guardF rfl rfl rfl rfl rfl rfl ?_
 refine WL.pure (Y.pickF rfl rfl) rfl rfl rfl ?_
 refine WL.pure (Y.move rfl) rfl rfl rfl ?_
 refine WL.guardF rfl rfl rfl rfl rfl rfl ?_
 refine WL.guardF rfl rfl rfl rfl rfl rfl ?_
 refine WL.guardF rfl rfl rfl rfl rfl rfl ?_
 refine WL.guardF rfl rfl rfl rfl rfl rfl ?_
 refine WL.guardF rfl rfl rfl rfl rfl rfl ?_
 refine WL.pure (Y.pickF rfl rfl) rfl rfl rfl ?_
 refine WL.pure (Y.assign rfl) rfl rfl rfl ?_
 refine WL.nil ?_
 refine WQ.next ?_
 refine WC.ret ?_
 refine WQ.blockRet ?_
 refine WQ.thenRet ?_
 refine WQ.done Try.results122 (RVs.cons (RV.tmp rfl) RVs.nil) (fun a w s => ?_)
 · refine ⟨?_, s.low⟩
   clear s hbd
   simp only [packed]
   apply retb
   try simp only [beq4, beq3, beq2, beq0] at *
   unfold follows
   rw [hu]
   dsimp only
   rw [recAt_rev hk2]
   simp_all
 refine WL.guardT rfl rfl rfl ?_
 refine WL.pure (Y.fieldAddr fa_34_4 rfl) rfl rfl rfl ?_
 refine WL.guardT rfl rfl rfl ?_
 refine WL.val (Y.load fl_3 rfl m1 rfl) rfl rfl rfl ?_
 refine WL.guardT rfl rfl rfl ?_
 refine WL.pure (Y.fieldAddr fa_34_4 rfl) rfl rfl rfl ?_
 refine WL.guardT rfl rfl rfl ?_
 refine WL.val (Y.load fl_3 rfl m0 rfl) rfl rfl rfl ?_
 refine WL.guardT rfl rfl rfl ?_
 refine WL.pure (Y.eql rfl rfl) rfl rfl rfl ?_
 refine WL.pure (Y.pickT rfl rfl) rfl rfl rfl ?_
 refine WL.pure (Y.move rfl) rfl rfl rfl ?_
 refine WL.split (t := 106) rfl (fun r h106 => ?_)
 cases r
 refine WL.guardF rfl rfl rfl rfl rfl rfl ?_
 refine WL.guardF rfl rfl rfl rfl rfl rfl ?_
 refine WL.guardF rfl rfl rfl rfl rfl rfl ?_
 refine WL.guardF rfl rfl rfl rfl rfl rfl ?_
 refine WL.guardF rfl rfl rfl rfl rfl rfl ?_
 refine WL.pure (Y.pickF rfl rfl) rfl rfl rfl ?_
 refine WL.pure (Y.move rfl) rfl rfl rfl ?_
 refine WL.guardF rfl rfl rfl rfl rfl rfl ?_
 refine WL.guardF rfl rfl rfl rfl rfl rfl ?_
 refine WL.guardF rfl rfl rfl rfl rfl rfl ?_
 refine WL.guardF rfl rfl rfl rfl rfl rfl ?_
 refine WL.guardF rfl rfl rfl rfl rfl rfl ?_
 refine WL.pure (Y.pickF rfl rfl) rfl rfl rfl ?_
 refine WL.pure (Y.move rfl) rfl rfl rfl ?_
 refine WL.guardF rfl rfl rfl rfl rfl rfl ?_
 refine WL.guardF rfl rfl rfl rfl rfl rfl ?_
 refine WL.guardF rfl rfl rfl rfl rfl rfl ?_
 refine WL.guardF rfl rfl rfl rfl rfl rfl ?_
 refine WL.guardF rfl rfl rfl rfl rfl rfl ?_
 refine WL.pure (Y.pickF rfl rfl) rfl rfl rfl ?_
 refine WL.pure (Y.assign rfl) rfl rfl rfl ?_
 refine WL.nil ?_
 refine WQ.next ?_
 refine WC.ret ?_
 refine WQ.blockRet ?_
 refine WQ.thenRet ?_
 refine WQ.done Try.results122 (RVs.cons (RV.tmp rfl) RVs.nil) (fun a w s => ?_)
 · refine ⟨?_, s.low⟩
   clear s hbd
   simp only [packed]
   apply retb
   try simp only [beq4, beq3, beq2, beq0] at *
   unfold follows
   rw [hu]
   dsimp only
   rw [recAt_rev hk2]
   simp_all
 refine WL.guardT rfl rfl rfl ?_
 refine WL.pure (Y.fieldAddr fa_34_5 rfl) rfl rfl rfl ?_
 refine WL.guardT rfl rfl rfl ?_
 refine WL.val (Y.load fl_3 rfl m1 rfl) rfl rfl rfl ?_
 refine WL.guardT rfl rfl rfl ?_
 refine WL.pure (Y.fieldAddr fa_34_6 rfl) rfl rfl rfl ?_
 refine WL.guardT rfl rfl rfl ?_
 refine WL.val (Y.load fl_3 rfl m0 rfl) rfl rfl rfl ?_
 refine WL.guardT rfl rfl rfl ?_
 refine WL.pure (Y.eql rfl rfl) rfl rfl rfl ?_
 refine WL.pure (Y.pickT rfl rfl) rfl rfl rfl ?_
 refine WL.pure (Y.move rfl) rfl rfl rfl ?_
 refine WL.split (t := 113) rfl (fun r h113 => ?_)
 cases r
 refine WL.guardF rfl rfl rfl rfl rfl rfl ?_
 refine WL.guardF rfl rfl rfl rfl rfl rfl ?_
 refine WL.guardF rfl rfl rfl rfl rfl rfl ?_
 refine WL.guardF rfl rfl rfl rfl rfl rfl ?_
 refine WL.guardF rfl rfl rfl rfl rfl rfl ?_
 refine WL.pure (Y.pickF rfl rfl) rfl rfl rfl ?_
 refine WL.pure (Y.move rfl) rfl rfl rfl ?_
 refine WL.guardF rfl rfl rfl rfl rfl rfl ?_
 refine WL.guardF rfl rfl rfl rfl rfl rfl ?_
 refine WL.guardF rfl rfl rfl rfl rfl rfl ?_
 refine WL.guardF rfl rfl rfl rfl rfl rfl ?_
 refine WL.guardF rfl rfl rfl rfl rfl rfl ?_
 refine WL.pure (Y.pickF rfl rfl) rfl rfl rfl ?_
 refine WL.pure (Y.assign rfl) rfl rfl rfl ?_
 refine WL.nil ?_
 refine WQ.next ?_
 refine WC.ret ?_
 refine WQ.blockRet ?_
 refine WQ.thenRet ?_
 refine WQ.done Try.results122 (RVs.cons (RV.tmp rfl) RVs.nil) (fun a w s => ?_)
 · refine ⟨?_, s.low⟩
   clear s hbd
   simp only [packed]
   apply retb
   try simp only [beq4, beq3, beq2, beq0] at *
   unfold follows
   rw [hu]
   dsimp only
   rw [recAt_rev hk2]
   simp_all
 refine WL.guardT rfl rfl rfl ?_
 refine WL.pure (Y.fieldAddr fa_34_6 rfl) rfl rfl rfl ?_
 refine WL.guardT rfl rfl rfl ?_
 refine WL.val (Y.load fl_3 rfl m1 rfl) rfl rfl rfl ?_
 refine WL.guardT rfl rfl rfl ?_
 refine WL.pure (Y.fieldAddr fa_34_5 rfl) rfl rfl rfl ?_
 refine WL.guardT rfl rfl rfl ?_
 refine WL.val (Y.load fl_3 rfl m0 rfl) rfl rfl rfl ?_
 refine WL.guardT rfl rfl rfl ?_
 refine WL.pure (Y.eql rfl rfl) rfl rfl rfl ?_
 refine WL.pure (Y.pickT rfl rfl) rfl rfl rfl ?_
 refine WL.pure (Y.move rfl) rfl rfl rfl ?_
 refine WL.split (t := 120) rfl (fun r h120 => ?_)
 cases r
 refine WL.guardF rfl rfl rfl rfl rfl rfl ?_
 refine WL.guardF rfl rfl rfl rfl rfl rfl ?_
 refine WL.guardF rfl rfl rfl rfl rfl rfl ?_
 refine WL.guardF rfl rfl rfl rfl rfl rfl ?_
 refine WL.guardF rfl rfl rfl rfl rfl rfl ?_
 refine WL.pure (Y.pickF rfl rfl) rfl rfl rfl ?_
 refine WL.pure (Y.assign rfl) rfl rfl rfl ?_
 refine WL.nil ?_
 refine WQ.next ?_
 refine WC.ret ?_
 refine WQ.blockRet ?_
 refine WQ.thenRet ?_
 refine WQ.done Try.results122 (RVs.cons (RV.tmp rfl) RVs.nil) (fun a w s => ?_)
 · refine ⟨?_, s.low⟩
   clear s hbd
   simp only [packed]
   apply retb
   try simp only [beq4, beq3, beq2, beq0] at *
   unfold follows
   rw [hu]
   dsimp only
   rw [recAt_rev hk2]
   simp_all
 refine WL.guardT rfl rfl rfl ?_
 refine WL.pure (Y.fieldAddr fa_34_7 rfl) rfl rfl rfl ?_
 refine WL.guardT rfl rfl rfl ?_
 refine WL.val (Y.load fl_3 rfl m1 rfl) rfl rfl rfl ?_
 refine WL.guardT rfl rfl rfl ?_
 refine WL.pure (Y.fieldAddr fa_34_2 rfl) rfl rfl rfl ?_
 refine WL.guardT rfl rfl rfl ?_
 refine WL.val (Y.load fl_3 rfl m0 rfl) rfl rfl rfl ?_
 refine WL.guardT rfl rfl rfl ?_
 refine WL.pure (Y.eql rfl rfl) rfl rfl rfl ?_
 refine WL.pure (Y.pickT rfl rfl) rfl rfl rfl ?_
 refine WL.pure (Y.assign rfl) rfl rfl rfl ?_
 refine WL.nil ?_
 refine WQ.next ?_
 refine WC.ret ?_
 refine WQ.blockRet ?_
 refine WQ.thenRet ?_
 refine WQ.done Try.results122 (RVs.cons (RV.tmp rfl) RVs.nil) (fun a w s => ?_)
 · refine ⟨?_, s.low⟩
   clear s hbd
   simp only [packed]
   apply retb
   try simp only [beq4, beq3, beq2, beq0] at *
   unfold follows
   rw [hu]
   dsimp only
   rw [recAt_rev hk2]
   simp_all
 refine WC.skip' ?_
 refine WQ.blockEnd ?_
 refine WQ.next ?_
 refine WC.seq ?_
 refine WC.region ?_
 refine WL.pure (Y.move rfl) rfl rfl rfl ?_
 refine WL.pure (Y.eql rfl rfl) rfl rfl rfl ?_
 refine WL.pure (Y.move rfl) rfl rfl rfl ?_
 refine WL.split (t := 129) rfl (fun r h129 => ?_)
 cases r
 refine WL.guardT rfl rfl rfl ?_
 refine WL.pure (Y.move rfl) rfl rfl rfl ?_
 refine WL.guardT rfl rfl rfl ?_
 refine WL.pure (Y.eql rfl rfl) rfl rfl rfl ?_
 refine WL.guardT rfl rfl rfl ?_
 refine WL.pure (Y.move rfl) rfl rfl rfl ?_
 refine WL.split (t := 132) rfl (fun r h132 => ?_)
 cases r
 refine WL.guardF rfl rfl rfl rfl rfl rfl ?_
 refine WL.guardF rfl rfl rfl rfl rfl rfl ?_
 refine WL.guardF rfl rfl rfl rfl rfl rfl ?_
 refine WL.guardT rfl rfl rfl ?_
 refine WL.pure (Y.pickF rfl rfl) rfl rfl rfl ?_
 refine WL.pure (Y.pickF rfl rfl) rfl rfl rfl ?_
 refine WL.pure (Y.assign rfl) rfl rfl rfl ?_
 refine WL.nil ?_
 refine WQ.next ?_
 refine WC.ret ?_
 refine WQ.done Try.results122 (RVs.cons (RV.tmp rfl) RVs.nil) (fun a w s => ?_)
 · refine ⟨?_, s.low⟩
   clear s hbd
   simp only [packed]
   apply retb
   try simp only [beq4, beq3, beq2, beq0] at *
   unfold follows
   simp_all
 refine WL.guardT rfl rfl rfl ?_
 refine WL.pure (Y.move rfl) rfl rfl rfl ?_
 refine WL.guardT rfl rfl rfl ?_
 refine WL.pure (Y.len Try.underlying64 rfl) rfl rfl rfl ?_
 refine WL.guardT rfl rfl rfl ?_
 refine WL.pure (Y.eql rfl rfl) rfl rfl rfl ?_
 refine WL.guardT rfl rfl rfl ?_
 refine WL.pure (Y.pickT rfl rfl) rfl rfl rfl ?_
 refine WL.pure (Y.pickF rfl rfl) rfl rfl rfl ?_
 refine WL.pure (Y.assign rfl) rfl rfl rfl ?_
 refine WL.nil ?_
 refine WQ.next ?_
 refine WC.ret ?_
 refine WQ.done Try.results122 (RVs.cons (RV.tmp rfl) RVs.nil) (fun a w s => ?_)
 · refine ⟨?_, s.low⟩
   clear s hbd
   simp only [packed]
   apply retb
   try simp only [beq4, beq3, beq2, beq0] at *
   unfold follows
   simp_all
 refine WL.guardF rfl rfl rfl rfl rfl rfl ?_
 refine WL.guardF rfl rfl rfl rfl rfl rfl ?_
 refine WL.guardF rfl rfl rfl rfl rfl rfl ?_
 refine WL.guardU rfl rfl rfl rfl rfl ?_
 refine WL.guardU rfl rfl rfl rfl rfl ?_
 refine WL.guardU rfl rfl rfl rfl rfl ?_
 refine WL.guardF rfl rfl rfl rfl rfl rfl ?_
 refine WL.pure (Y.pickT rfl rfl) rfl rfl rfl ?_
 refine WL.pure (Y.assign rfl) rfl rfl rfl ?_
 refine WL.nil ?_
 refine WQ.next ?_
 refine WC.ret ?_
 refine WQ.done Try.results122 (RVs.cons (RV.tmp rfl) RVs.nil) (fun a w s => ?_)
 · refine ⟨?_, s.low⟩
   clear s hbd
   simp only [packed]
   apply retb
   try simp only [beq4, beq3, beq2, beq0] at *
   unfold follows
   simp_all
 refine WDm.quiet (QS.guardF rfl rfl rfl rfl rfl) rfl rfl rfl ?_
 refine WDm.quiet (QS.guardF rfl rfl rfl rfl rfl) rfl rfl rfl ?_
 refine WDm.quiet (QS.guardF rfl rfl rfl rfl rfl) rfl rfl rfl ?_
 refine WDm.quiet (QS.guardU rfl rfl rfl rfl) rfl rfl rfl ?_
 refine WDm.quiet (QS.guardU rfl rfl rfl rfl) rfl rfl rfl ?_
 refine WDm.quiet (QS.guardU rfl rfl rfl rfl) rfl rfl rfl ?_
 refine WDm.quiet (QS.guardF rfl rfl rfl rfl rfl) rfl rfl rfl ?_
 refine WDm.quiet (QS.guardF rfl rfl rfl rfl rfl) rfl rfl rfl ?_
 refine WDm.quiet (QS.guardU rfl rfl rfl rfl) rfl rfl rfl ?_
 refine WDm.quiet (QS.guardU rfl rfl rfl rfl) rfl rfl rfl ?_
 refine WDm.quiet (QS.guardU rfl rfl rfl rfl) rfl rfl rfl ?_
 refine WDm.quiet (QS.guardF rfl rfl rfl rfl rfl) rfl rfl rfl ?_
 refine WDm.quiet (QS.pure (Y.pickT rfl rfl) rfl rfl) rfl rfl rfl ?_
 refine WDm.nil (WQ.and ?_)
 refine WQ.next ?_
 refine WC.condT rfl ?_
 refine WC.seq ?_
 refine WC.region ?_
 refine WL.pure (Y.assign rfl) rfl rfl rfl ?_
 refine WL.nil ?_
 refine WQ.next ?_
 refine WC.ret ?_
 refine WQ.thenRet ?_
 refine WQ.done Try.results122 (RVs.cons (RV.tmp rfl) RVs.nil) (fun a w s => ?_)
 · refine ⟨?_, s.low⟩
   clear s hbd
   simp only [packed]
   apply retb
   try simp only [beq4, beq3, beq2, beq0] at *
   unfold follows
   simp_all
 refine WDm.quiet (QS.guardF rfl rfl rfl rfl rfl) rfl rfl rfl ?_
 refine WDm.quiet (QS.guardF rfl rfl rfl rfl rfl) rfl rfl rfl ?_
 refine WDm.quiet (QS.guardF rfl rfl rfl rfl rfl) rfl rfl rfl ?_
 refine WDm.quiet (QS.guardU rfl rfl rfl rfl) rfl rfl rfl ?_
 refine WDm.quiet (QS.guardU rfl rfl rfl rfl) rfl rfl rfl ?_
 refine WDm.quiet (QS.guardU rfl rfl rfl rfl) rfl rfl rfl ?_
 refine WDm.quiet (QS.guardF rfl rfl rfl rfl rfl) rfl rfl rfl ?_
 refine WDm.quiet (QS.pure (Y.pickT rfl rfl) rfl rfl) rfl rfl rfl ?_
 refine WDm.quiet (QS.pure (Y.move rfl) rfl rfl) rfl rfl rfl ?_
 refine WDm.quiet (QS.guardF rfl rfl rfl rfl rfl) rfl rfl rfl ?_
 refine WDm.quiet (QS.guardF rfl rfl rfl rfl rfl) rfl rfl rfl ?_
 refine WDm.quiet (QS.guardF rfl rfl rfl rfl rfl) rfl rfl rfl ?_
 refine WDm.quiet (QS.guardU rfl rfl rfl rfl) rfl rfl rfl ?_
 refine WDm.quiet (QS.guardU rfl rfl rfl rfl) rfl rfl rfl ?_
 refine WDm.quiet (QS.guardU rfl rfl rfl rfl) rfl rfl rfl ?_
 refine WDm.quiet (QS.guardF rfl rfl rfl rfl rfl) rfl rfl rfl ?_
 refine WDm.quiet (QS.guardF rfl rfl rfl rfl rfl) rfl rfl rfl ?_
 refine WDm.quiet (QS.guardU rfl rfl rfl rfl) rfl rfl rfl ?_
 refine WDm.quiet (QS.guardU rfl rfl rfl rfl) rfl rfl rfl ?_
 refine WDm.quiet (QS.guardU rfl rfl rfl rfl) rfl rfl rfl ?_
 refine WDm.quiet (QS.guardF rfl rfl rfl rfl rfl) rfl rfl rfl ?_
 refine WDm.quiet (QS.pure (Y.pickT rfl rfl) rfl rfl) rfl rfl rfl ?_
 refine WDm.nil (WQ.and ?_)
 refine WQ.next ?_
 refine WC.condT rfl ?_
 refine WC.seq ?_
 refine WC.region ?_
 refine WL.pure (Y.assign rfl) rfl rfl rfl ?_
 refine WL.nil ?_
 refine WQ.next ?_
 refine WC.ret ?_
 refine WQ.thenRet ?_
 refine WQ.done Try.results122 (RVs.cons (RV.tmp rfl) RVs.nil) (fun a w s => ?_)
 · refine ⟨?_, s.low⟩
   clear s hbd
   simp only [packed]
   apply retb
   try simp only [beq4, beq3, beq2, beq0] at *
   unfold follows
   simp_all
 refine WDm.quiet (QS.guardF rfl rfl rfl rfl rfl) rfl rfl rfl ?_
 refine WDm.quiet (QS.guardF rfl rfl rfl rfl rfl) rfl rfl rfl ?_
 refine WDm.quiet (QS.pure (Y.pickT rfl rfl) rfl rfl) rfl rfl rfl ?_
 refine WDm.quiet (QS.pure (Y.move rfl) rfl rfl) rfl rfl rfl ?_
 refine WDm.quiet (QS.guardF rfl rfl rfl rfl rfl) rfl rfl rfl ?_
 refine WDm.quiet (QS.guardF rfl rfl rfl rfl rfl) rfl rfl rfl ?_
 refine WDm.quiet (QS.guardF rfl rfl rfl rfl rfl) rfl rfl rfl ?_
 refine WDm.quiet (QS.guardU rfl rfl rfl rfl) rfl rfl rfl ?_
 refine WDm.quiet (QS.guardU rfl rfl rfl rfl) rfl rfl rfl ?_
 refine WDm.quiet (QS.guardU rfl rfl rfl rfl) rfl rfl rfl ?_
 refine WDm.quiet (QS.guardF rfl rfl rfl rfl rfl) rfl rfl rfl ?_
 refine WDm.quiet (QS.pure (Y.pickT rfl rfl) rfl rfl) rfl rfl rfl ?_
 refine WDm.quiet (QS.pure (Y.move rfl) rfl rfl) rfl rfl rfl ?_
 refine WDm.quiet (QS.guardF rfl rfl rfl rfl rfl) rfl rfl rfl ?_
 refine WDm.quiet (QS.guardF rfl rfl rfl rfl rfl) rfl rfl rfl ?_
 refine WDm.quiet (QS.guardF rfl rfl rfl rfl rfl) rfl rfl rfl ?_
 refine WDm.quiet (QS.guardU rfl rfl rfl rfl) rfl rfl rfl ?_
 refine WDm.quiet (QS.guardU rfl rfl rfl rfl) rfl rfl rfl ?_
 refine WDm.quiet (QS.guardU rfl rfl rfl rfl) rfl rfl rfl ?_
 refine WDm.quiet (QS.guardF rfl rfl rfl rfl rfl) rfl rfl rfl ?_
 refine WDm.quiet (QS.guardF rfl rfl rfl rfl rfl) rfl rfl rfl ?_
 refine WDm.quiet (QS.guardU rfl rfl rfl rfl) rfl rfl rfl ?_
 refine WDm.quiet (QS.guardU rfl rfl rfl rfl) rfl rfl rfl ?_
 refine WDm.quiet (QS.guardU rfl rfl rfl rfl) rfl rfl rfl ?_
 refine WDm.quiet (QS.guardF rfl rfl rfl rfl rfl) rfl rfl rfl ?_
 refine WDm.quiet (QS.pure (Y.pickT rfl rfl) rfl rfl) rfl rfl rfl ?_
 refine WDm.nil (WQ.and ?_)
 refine WQ.next ?_
 refine WC.condT rfl ?_
 refine WC.seq ?_
 refine WC.region ?_
 refine WL.pure (Y.assign rfl) rfl rfl rfl ?_
 refine WL.nil ?_
 refine WQ.next ?_
 refine WC.ret ?_
 refine WQ.thenRet ?_
 refine WQ.done Try.results122 (RVs.cons (RV.tmp rfl) RVs.nil) (fun a w s => ?_)
 · refine ⟨?_, s.low⟩
   clear s hbd
   simp only [packed]
   apply retb
   try simp only [beq4, beq3, beq2, beq0] at *
   unfold follows
   simp_all

theorem errH_take : ∀ (m k : Nat) (l : List R), l.length = k + m → errH (l.take k).reverse ≠ 0 → errH l.reverse = errH (l.take k).reverse
  | 0, k, l, hl, _ => by rw [List.take_of_length_le (by omega)]
  | m + 1, k, l, hl, he => by
    obtain ⟨r, hr⟩ := get_of_lt (l := l) (k := k) (by omega)
    have e1 : errH (l.take (k + 1)).reverse = errH (l.take k).reverse := by rw [takeS hr, errH, if_neg he]
    rw [errH_take m (k + 1) l (by omega) (by rw [e1]; exact he), e1]
theorem errH_bad {l : List R} {k : Nat} {r : R} (hk : l[k]? = some r) (hR : Right (l.take k).reverse) (he : recErr ((k : Int) + 1) r ≠ 0) : errH l.reverse = recErr ((k : Int) + 1) r := by
  have e1 : errH (l.take (k + 1)).reverse = recErr ((k : Int) + 1) r := by
    rw [takeS hk, errH, if_pos (show errH (l.take k).reverse = 0 from hR), takeL hk, if_neg he]
  have := get_lt hk
  rw [errH_take (l.length - (k + 1)) (k + 1) l (by omega) (by rw [e1]; exact he), e1]
theorem errH_form {l : List R} {k : Nat} {r : R} (hk : l[k]? = some r) (hR : Right (l.take k).reverse) (he : recErr ((k : Int) + 1) r = 0) (hf : follows (l.take k).reverse r = false) : errH l.reverse = 1 := by
  have e1 : errH (l.take (k + 1)).reverse = 1 := by
    rw [takeS hk, errH, if_pos (show errH (l.take k).reverse = 0 from hR), takeL hk, if_pos he, hf]; rfl
  have := get_lt hk
  rw [errH_take (l.length - (k + 1)) (k + 1) l (by omega) (by rw [e1]; omega), e1]
theorem right_step {l : List R} {k : Nat} {r : R} (hk : l[k]? = some r) (hR : Right (l.take k).reverse) (he : recErr ((k : Int) + 1) r = 0) (hf : follows (l.take k).reverse r = true) : Right (l.take (k + 1)).reverse := by
  rw [takeS hk]
  exact Right.mk hR (by rw [takeL hk]; exact he) hf
theorem len_takeI {l : List R} {k : Nat} (hk : k < l.length) : (k : Int) = ((l.take k).length : Int) := by simp; omega

theorem w_logError (l : List R) (A : Option Addr) (b o c : Nat) (w : World) (hm : l.length ≤ maxLen) (hcap : l.length ≤ c) (hr : RL w A b o l) : Ret Try.prog 55 [.slice A l.length c] w (.int .i64 (logErr l)) := by
 refine enter Try.func55 rfl Try.ntmps55 rfl SF.top trivial ?_
 refine WC.seq ?_
 refine WC.region ?_
 refine WL.pure (Y.assign rfl) rfl rfl rfl ?_
 refine WL.nil ?_
 refine WQ.next ?_
 refine WC.seq ?_
 refine WC.seq ?_
 refine WC.region ?_
 refine WL.pure (Y.move rfl) rfl rfl rfl ?_
 refine WL.pure (Y.len Try.underlying39 rfl) rfl rfl rfl ?_
 refine WL.pure (Y.gtr rfl rfl) rfl rfl rfl ?_
 refine WL.nil ?_
 refine WQ.next ?_
 refine WC.cond rfl (fun h7 => ?_) (fun h7 => ?_)
 refine WC.seq ?_
 refine WC.region ?_
 refine WL.pure (Y.assign rfl) rfl rfl rfl ?_
 refine WL.nil ?_
 refine WQ.next ?_
 refine WC.ret ?_
 refine WQ.thenRet ?_
 refine WQ.done Try.results55 (RVs.cons (RV.tmp rfl) RVs.nil) (fun a w s => ?_)
 · refine ⟨?_, s.low⟩
   simp only [packed]
   apply reti
   unfold logErr
   rw [if_neg (by simp at h7; omega)]
 refine WC.skip' ?_
 refine WQ.next ?_
 refine WC.seq ?_
 refine WC.seq ?_
 refine WC.region ?_
 refine WL.pure (Y.assign rfl) rfl rfl rfl ?_
 refine WL.nil ?_
 refine WQ.next ?_
 refine WC.block ?_
 have hl : l.length ≤ 60 := by simp at h7; omega
 refine WC.loop (ι := Nat) (fun k => [(0, .slice A l.length c), (3, .int .i64 k)]) (fun _ => []) (fun _ => SF.top) (fun k => k ≤ l.length ∧ Right (l.take k).reverse) (fun k => l.length - k) 0 ⟨Nat.zero_le _, rfl⟩ (fun a w s => s.weak (by repeat (first | exact sub_nil _ | refine sub_cons rfl ?_))) (fun k hk => ?_)
 obtain ⟨hk, hI⟩ := hk
 refine WC.seq ?_
 refine WC.seq ?_
 refine WC.region ?_
 refine WL.pure (Y.move rfl) rfl rfl rfl ?_
 refine WL.pure (Y.move rfl) rfl rfl rfl ?_
 refine WL.pure (Y.len Try.underlying39 rfl) rfl rfl rfl ?_
 refine WL.pure (Y.lss rfl rfl) rfl rfl rfl ?_
 refine WL.nil ?_
 refine WQ.next ?_
 refine WC.cond rfl (fun h11 => ?_) (fun h11 => ?_)
 refine WC.skip' ?_
 refine WQ.next ?_
 refine WC.seq ?_
 refine WC.block ?_
 refine WC.seq ?_
 refine WC.seq ?_
 refine WC.region ?_
 have h11 := dec_lt h11
 simp only [if_true] at h11
 obtain ⟨r, hk'⟩ := get_of_lt h11
 refine WL.pure (Y.move rfl) rfl rfl rfl ?_
 refine WL.pure (Y.add rfl rfl (i64_in (by omega) (by omega))) rfl rfl rfl ?_
 refine WL.pure (Y.move rfl) rfl rfl rfl ?_
 refine WL.pure (Y.move rfl) rfl rfl rfl ?_
 refine WL.pure (Y.ixSlA Try.underlying39 Try.sizeOf34 rfl rfl (hr.addr hk') (nat0 _) (get_ltI hk')) rfl rfl rfl ?_
 refine WL.val (Y.loadAc wd_34 rfl (r := r.cl) rfl (fun a w s j hj => (hr.below s.low).full hk' j hj)) rfl rfl rfl ?_
 refine WL.eff (E.call Try.call50 rfl (fun _ w s => w_recError _ _ w) rfl) rfl (fun _ => ?_)
 refine WL.pure (Y.assign rfl) rfl rfl rfl ?_
 refine WL.nil ?_
 refine WQ.next ?_
 refine WC.seq ?_
 refine WC.region ?_
 refine WL.pure (Y.move rfl) rfl rfl rfl ?_
 refine WL.pure (Y.neq rfl rfl) rfl rfl rfl ?_
 refine WL.nil ?_
 refine WQ.next ?_
 refine WC.cond rfl (fun h22 => ?_) (fun h22 => ?_)
 refine WC.seq ?_
 refine WC.region ?_
 refine WL.pure (Y.move rfl) rfl rfl rfl ?_
 refine WL.pure (Y.assign rfl) rfl rfl rfl ?_
 refine WL.nil ?_
 refine WQ.next ?_
 refine WC.ret ?_
 refine WQ.thenRet ?_
 refine WQ.blockRet ?_
 refine WQ.thenRet ?_
 refine WQ.thenRet ?_
 refine WQ.blockRet ?_
 refine WQ.thenRet ?_
 refine WQ.done Try.results55 (RVs.cons (RV.tmp rfl) RVs.nil) (fun a w s => ?_)
 · refine ⟨?_, s.low⟩
   simp only [packed]
   apply reti
   unfold logErr
   rw [if_pos hl]
   exact (errH_bad hk' hI (by simpa using h22)).symm
 refine WC.skip' ?_
 refine WQ.next ?_
 refine WC.seq ?_
 refine WC.draw [(0, .q false), (1, .q false), (2, .q false), (3, .q false), (4, .q false), (5, .q false), (6, .q true), (7, .q true), (8, .q false)] mixed (by kernel_rfl) ?_
 refine WDm.quiet (QS.pure (Y.move rfl) rfl rfl) rfl rfl rfl ?_
 refine WDm.quiet (QS.pure (Y.move rfl) rfl rfl) rfl rfl rfl ?_
 refine WDm.quiet (QS.pure (Y.slToN (l.take k).length (len_takeI h11) Try.underlying39 Try.sizeOf34 rfl rfl (by simp; omega)) rfl rfl) rfl rfl rfl ?_
 refine WDm.quiet (QS.pure (Y.move rfl) rfl rfl) rfl rfl rfl ?_
 refine WDm.quiet (QS.pure (Y.move rfl) rfl rfl) rfl rfl rfl ?_
 refine WDm.quiet (QS.pure (Y.ixSlA Try.underlying39 Try.sizeOf34 rfl rfl (hr.addr hk') (nat0 _) (get_ltI hk')) rfl rfl) rfl rfl rfl ?_
 refine WDm.quiet (QS.val (Y.loadAc wd_34 rfl (r := r.cl) rfl (fun a w s j hj => (hr.below s.low).full hk' j hj)) rfl rfl) rfl rfl rfl ?_
 refine WDm.quiet (QS.call Try.call122 rfl (fun _ w s => w_follows (l.take k) A b o c r w (by simp; omega) ((hr.below s.low).take k) hI (by rw [← len_takeI h11]; simpa using h22))) rfl rfl rfl ?_
 refine WDm.quiet (QS.pure (Y.not rfl) rfl rfl) rfl rfl rfl ?_
 refine WDm.nil (WQ.and ?_)
 refine WQ.next ?_
 refine WC.cond rfl (fun h32 => ?_) (fun h32 => ?_)
 refine WC.seq ?_
 refine WC.region ?_
 refine WL.pure (Y.assign rfl) rfl rfl rfl ?_
 refine WL.nil ?_
 refine WQ.next ?_
 refine WC.ret ?_
 refine WQ.blockRet ?_
 refine WQ.thenRet ?_
 refine WQ.thenRet ?_
 refine WQ.blockRet ?_
 refine WQ.thenRet ?_
 refine WQ.done Try.results55 (RVs.cons (RV.tmp rfl) RVs.nil) (fun a w s => ?_)
 · refine ⟨?_, s.low⟩
   simp only [packed]
   apply reti
   unfold logErr
   rw [if_pos hl]
   exact (errH_form hk' hI (by simpa using h22) (by simpa using h32)).symm
 refine WC.skip' ?_
 refine WQ.blockEnd ?_
 refine WQ.next ?_
 refine WC.region ?_
 refine WL.pure (Y.move rfl) rfl rfl rfl ?_
 refine WL.pure (Y.add rfl rfl (i64_in (by omega) (by omega))) rfl rfl rfl ?_
 refine WL.pure (Y.assign rfl) rfl rfl rfl ?_
 refine WL.nil ?_
 · exact fun a w s => ⟨k + 1, ⟨by omega, right_step hk' hI (by simpa using h22) (by simpa using h32)⟩, by omega, s.weak (by repeat (first | exact sub_nil _ | refine sub_cons rfl ?_))⟩
 refine WC.exit ?_
 refine WQ.thenExit ?_
 refine WQ.thenExit ?_
 refine WQ.blockExit ?_
 refine WQ.next ?_
 refine WC.seq ?_
 refine WC.region ?_
 refine WL.pure (Y.assign rfl) rfl rfl rfl ?_
 refine WL.nil ?_
 refine WQ.next ?_
 refine WC.ret ?_
 refine WQ.done Try.results55 (RVs.cons (RV.tmp rfl) RVs.nil) (fun a w s => ?_)
 · refine ⟨?_, s.low⟩
   simp only [packed]
   apply reti
   unfold logErr
   rw [if_pos hl]
   have h11 := dec_lt h11
   simp only [Bool.false_eq_true, if_false] at h11
   rw [take_len h11] at hI
   exact hI.symm
end Go.Proofs.Ytdbcimadjmdffaa
