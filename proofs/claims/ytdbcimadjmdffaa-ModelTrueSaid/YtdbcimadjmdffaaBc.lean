/- The book: what fits returns. No condition. -/
import Derived.Test.YtdbcimadjmdffaaBp
set_option maxRecDepth 100000
set_option linter.unusedVariables false
set_option linter.unusedSimpArgs false
set_option linter.unusedSectionVars false
set_option maxHeartbeats 4000000
namespace Go.Proofs.Ytdbcimadjmdffaa
open Go.RowKit Go.Joins
theorem w_fits (u : World) (B : Bk) (Hl : Hp) (G : SF) (h : List R) (r : R) (w : World) (hw : Wp u (B.hp ++ Hl) ((SF.bk u.heap.size B).sep G) w) (hB : BOk B h) (hlen : h.length ≤ 60) (hok : recErr ((h.length : Int) + 1) r = 0) : Calls Try.prog 152 [B.ptr, r.val].toArray w fun e w' => ∃ i : {i : Bk // BOk i h ∧ i.bk = B.bk}, e = .returned (.bool (fits h r)) ∧ Wp u (i.1.hp ++ Hl) ((SF.bk u.heap.size i.1).sep G) w' := by
 have hbd := rec_bounds hok
 refine enterW Try.func152 rfl Try.ntmps152 rfl hw ?_
 refine WC.seq ?_
 refine WC.region ?_
 refine WL.eff (E.box rfl rfl rfl) rfl (fun b1 => ?_)
 refine WL.pure (Y.assign rfl) rfl rfl rfl ?_
 refine WL.nil ?_
 refine WQ.next ?_
 refine WC.seq ?_
 refine WC.region ?_
 refine WL.pure (Y.move rfl) rfl rfl rfl ?_
 refine WL.pure (Y.fieldAddr fa_34_1 rfl) rfl rfl rfl ?_
 refine WL.val (Y.load fl_3 rfl m0 rfl) rfl rfl rfl ?_
 refine WL.eff (E.of [_] rfl rfl rfl rfl rfl) rfl (fun i => ?_)
 obtain ⟨⟨B1, x, K⟩, hOf, hK⟩ := i
 obtain ⟨hB1, hst, hla, hup⟩ := hB.of hOf
 obtain ⟨el, eA, ec, epg, ebk, _⟩ := of_l hOf
 dsimp only at hOf hK hB1 hst hla hup el eA ec epg ebk ⊢
 have e0 : B.ptr = B1.ptr := by unfold Bk.ptr; rw [ebk]
 rw [e0]
 have hl1 := hOf.1
 dsimp only at hl1
 refine WL.pure (Y.assign rfl) rfl rfl rfl ?_
 refine WL.nil ?_
 refine WQ.next ?_
 refine WC.seq ?_
 refine WC.seq ?_
 refine WC.draw [(0, .q false), (1, .q true), (2, .q false), (3, .q false), (4, .q false), (5, .q true), (6, .q false)] mixed (by kernel_rfl) ?_
 refine WDm.quiet (QS.pure (Y.fieldAddr fa_34_2 rfl) rfl rfl) rfl rfl rfl ?_
 refine WDm.quiet (QS.val (Y.load fl_3 rfl m0 rfl) rfl rfl) rfl rfl rfl ?_
 refine WDm.quiet (QS.pure (Y.move rfl) rfl rfl) rfl rfl rfl ?_
 refine WDm.quiet (QS.pure (Y.nilCheck rfl) rfl rfl) rfl rfl rfl ?_
 refine WDm.quiet (QS.pure (Y.fieldAddr fa_117_1 rfl) rfl rfl) rfl rfl rfl ?_
 refine WDm.quiet (QS.val (Y.load fl_3 rfl m1 rfl) rfl rfl) rfl rfl rfl ?_
 refine WDm.quiet (QS.pure (Y.neq rfl rfl) rfl rfl) rfl rfl rfl ?_
 refine WDm.nil (WQ.and ?_)
 refine WQ.next ?_
 refine WC.cond rfl (fun h17 => ?_) (fun h17 => ?_)
 refine WC.seq ?_
 refine WC.region ?_
 refine WL.pure (Y.assign rfl) rfl rfl rfl ?_
 refine WL.nil ?_
 refine WQ.next ?_
 refine WC.ret ?_
 refine WQ.thenRet ?_
 refine WQ.done Try.results152 (RVs.cons (RV.tmp rfl) RVs.nil) (fun a w s => ?_)
 · refine ⟨⟨B1, hB1, ebk⟩, ?_, s.wp.sub (rest_hp (Hx := [_]) (foc_out hK (set1_same hl1).symm _ _))⟩
   have hpg := hB1.pg
   have gt0 : ∀ l : List Nat, decide ((0 : Int) < (l.length : Int)) = !l.isEmpty := fun l => by cases l <;> simp
   clear s hbd el eA ec epg ebk e0 hK hl1 hOf hB1 hB hw
   simp only [packed]
   apply retb
   try simp only [hpg, hst, hla, hup, beq0, gt0] at *
   unfold fits
   (simp_all <;> grind)
 refine WC.skip' ?_
 refine WQ.next ?_
 refine WC.seq ?_
 refine WC.seq ?_
 refine WC.region ?_
 refine WL.pure (Y.fieldAddr fa_34_0 rfl) rfl rfl rfl ?_
 refine WL.val (Y.load fl_3 rfl m0 rfl) rfl rfl rfl ?_
 refine WL.nil ?_
 refine WQ.next ?_
 refine WC.block ?_
 refine WC.seq ?_
 refine WC.region ?_
 refine WL.pure (Y.eql rfl rfl) rfl rfl rfl ?_
 refine WL.pure (Y.assign rfl) rfl rfl rfl ?_
 refine WL.nil ?_
 refine WQ.next ?_
 refine WC.cond rfl (fun h20 => ?_) (fun h20 => ?_)
 refine WC.seq ?_
 refine WC.region ?_
 refine WL.pure (Y.move rfl) rfl rfl rfl ?_
 refine WL.pure (Y.fieldAddr fa_34_3 rfl) rfl rfl rfl ?_
 refine WL.val (Y.load fl_3 rfl m0 rfl) rfl rfl rfl ?_
 refine WL.pure (Y.fieldAddr fa_34_4 rfl) rfl rfl rfl ?_
 refine WL.val (Y.load fl_3 rfl m0 rfl) rfl rfl rfl ?_
 refine WL.eff (E.owner [_] rfl hB1 hK hl1 rfl rfl rfl rfl) rfl (fun _ => ?_)
 refine WL.pure (Y.assign rfl) rfl rfl rfl ?_
 refine WL.nil ?_
 refine WQ.next ?_
 refine WC.seq ?_
 have hk1 : r.kind = 1 := by simpa using h20
 obtain ⟨hp, hc, _⟩ := hbd.2.2.2.2.2.2.2.2.1 (by simp [R.turns, hk1])
 refine WC.drop [4] ?_
 refine WC.draw [(0, .q false), (1, .q false), (2, .q false), (3, .q true), (4, .q false), (5, .q false), (6, .q false), (7, .q true), (8, .q false), (9, .q false), (10, .q true), (11, .q false), (12, .q true), (13, .q false), (14, .q false), (15, .q false), (16, .q false), (17, .q false), (18, .q true), (19, .q false), (20, .q false), (21, .q false), (22, .q false), (23, .q false), (24, .q false), (25, .q false), (26, .q false), (27, .q true), (28, .q false), (29, .q false), (30, .q false), (31, .q false)] mixed (by kernel_rfl) ?_
 refine WDm.quiet (QS.pure (Y.move rfl) rfl rfl) rfl rfl rfl ?_
 refine WDm.quiet (QS.pure (Y.nilCheck rfl) rfl rfl) rfl rfl rfl ?_
 refine WDm.quiet (QS.pure (Y.fieldAddr fa_117_0 rfl) rfl rfl) rfl rfl rfl ?_
 refine WDm.quiet (QS.val (Y.load fl_3 rfl m1 rfl) rfl rfl) rfl rfl rfl ?_
 refine WDm.quiet (QS.pure (Y.lss rfl rfl) rfl rfl) rfl rfl rfl ?_
 refine WDm.quiet (QS.pure (Y.move rfl) rfl rfl) rfl rfl rfl ?_
 refine WDm.split (t := 33) rfl (fun r h33 => ?_)
 cases r
 refine WDm.quiet (QS.guardF rfl rfl rfl rfl rfl) rfl rfl rfl ?_
 refine WDm.quiet (QS.guardF rfl rfl rfl rfl rfl) rfl rfl rfl ?_
 refine WDm.quiet (QS.guardF rfl rfl rfl rfl rfl) rfl rfl rfl ?_
 refine WDm.quiet (QS.guardF rfl rfl rfl rfl rfl) rfl rfl rfl ?_
 refine WDm.quiet (QS.guardF rfl rfl rfl rfl rfl) rfl rfl rfl ?_
 refine WDm.quiet (QS.guardF rfl rfl rfl rfl rfl) rfl rfl rfl ?_
 refine WDm.quiet (QS.guardF rfl rfl rfl rfl rfl) rfl rfl rfl ?_
 refine WDm.quiet (QS.guardF rfl rfl rfl rfl rfl) rfl rfl rfl ?_
 refine WDm.quiet (QS.guardF rfl rfl rfl rfl rfl) rfl rfl rfl ?_
 refine WDm.quiet (QS.guardF rfl rfl rfl rfl rfl) rfl rfl rfl ?_
 refine WDm.quiet (QS.guardF rfl rfl rfl rfl rfl) rfl rfl rfl ?_
 refine WDm.quiet (QS.guardF rfl rfl rfl rfl rfl) rfl rfl rfl ?_
 refine WDm.quiet (QS.guardF rfl rfl rfl rfl rfl) rfl rfl rfl ?_
 refine WDm.quiet (QS.guardF rfl rfl rfl rfl rfl) rfl rfl rfl ?_
 refine WDm.quiet (QS.pure (Y.pickF rfl rfl) rfl rfl) rfl rfl rfl ?_
 refine WDm.quiet (QS.pure (Y.move rfl) rfl rfl) rfl rfl rfl ?_
 refine WDm.quiet (QS.guardF rfl rfl rfl rfl rfl) rfl rfl rfl ?_
 refine WDm.quiet (QS.guardF rfl rfl rfl rfl rfl) rfl rfl rfl ?_
 refine WDm.quiet (QS.guardF rfl rfl rfl rfl rfl) rfl rfl rfl ?_
 refine WDm.quiet (QS.guardU rfl rfl rfl rfl) rfl rfl rfl ?_
 refine WDm.quiet (QS.guardU rfl rfl rfl rfl) rfl rfl rfl ?_
 refine WDm.quiet (QS.guardU rfl rfl rfl rfl) rfl rfl rfl ?_
 refine WDm.quiet (QS.guardU rfl rfl rfl rfl) rfl rfl rfl ?_
 refine WDm.quiet (QS.guardF rfl rfl rfl rfl rfl) rfl rfl rfl ?_
 refine WDm.quiet (QS.pure (Y.pickF rfl rfl) rfl rfl) rfl rfl rfl ?_
 refine WDm.quiet (QS.pure (Y.assign rfl) rfl rfl) rfl rfl rfl ?_
 refine WDm.nil (WQ.and ?_)
 refine WQ.next ?_
 refine WC.ret ?_
 refine WQ.blockRet ?_
 refine WQ.thenRet ?_
 refine WQ.done Try.results152 (RVs.cons (RV.tmp rfl) RVs.nil) (fun a w s => ?_)
 · refine ⟨⟨B1, hB1, ebk⟩, ?_, s.wp.sub (rest_hp (Hx := [_]) (foc_out hK (set1_same hl1).symm _ _))⟩
   have hpg := hB1.pg
   have gt0 : ∀ l : List Nat, decide ((0 : Int) < (l.length : Int)) = !l.isEmpty := fun l => by cases l <;> simp
   clear s hbd el eA ec epg ebk e0 hK hl1 hOf hB1 hB hw
   simp only [packed]
   apply retb
   try simp only [hpg, hst, hla, hup, beq0, gt0] at *
   unfold fits
   (simp_all <;> grind)
 refine WDm.quiet (QS.guardT rfl rfl rfl (QS.pure (Y.fieldAddr fa_34_5 rfl) rfl rfl)) rfl rfl rfl ?_
 refine WDm.quiet (QS.guardT rfl rfl rfl (QS.val (Y.load fl_3 rfl m0 rfl) rfl rfl)) rfl rfl rfl ?_
 refine WDm.quiet (QS.guardT rfl rfl rfl (QS.pure (Y.move rfl) rfl rfl)) rfl rfl rfl ?_
 refine WDm.quiet (QS.guardT rfl rfl rfl (QS.pure (Y.fieldAddr fa_34_3 rfl) rfl rfl)) rfl rfl rfl ?_
 refine WDm.quiet (QS.guardT rfl rfl rfl (QS.val (Y.load fl_3 rfl m0 rfl) rfl rfl)) rfl rfl rfl ?_
 refine WDm.quiet (QS.guardT rfl rfl rfl (QS.pure (Y.fieldAddr fa_34_4 rfl) rfl rfl)) rfl rfl rfl ?_
 refine WDm.quiet (QS.guardT rfl rfl rfl (QS.val (Y.load fl_3 rfl m0 rfl) rfl rfl)) rfl rfl rfl ?_
 refine WDm.quiet (QS.guardT rfl rfl rfl (QS.pure (Y.nilCheck rfl) rfl rfl)) rfl rfl rfl ?_
 refine WDm.quiet (QS.guardT rfl rfl rfl (QS.pure (Y.fieldAddr fa_112_1 rfl) rfl rfl)) rfl rfl rfl ?_
 refine WDm.quiet (QS.guardT rfl rfl rfl (QS.pure (Y.ixArr Try.underlying42 Try.sizeOf24 rfl rfl hp.1 (by omega)) rfl rfl)) rfl rfl rfl ?_
 refine WDm.quiet (QS.guardT rfl rfl rfl (QS.pure (Y.fieldAddr fa_24_0 rfl) rfl rfl)) rfl rfl rfl ?_
 refine WDm.quiet (QS.guardT rfl rfl rfl (QS.pure (Y.ixArr Try.underlying22 Try.sizeOf3 rfl rfl hc.1 (by omega)) rfl rfl)) rfl rfl rfl ?_
 refine WDm.quiet (QS.guardT rfl rfl rfl (QS.val (Y.loadN fl_3 rfl m2 (cell_at _ _ _ hp hc)) rfl rfl)) rfl rfl rfl ?_
 refine WDm.quiet (QS.guardT rfl rfl rfl (QS.pure (Y.eql rfl rfl) rfl rfl)) rfl rfl rfl ?_
 refine WDm.quiet (QS.pure (Y.pickT rfl rfl) rfl rfl) rfl rfl rfl ?_
 refine WDm.quiet (QS.pure (Y.move rfl) rfl rfl) rfl rfl rfl ?_
 refine WDm.split (t := 49) rfl (fun r h49 => ?_)
 cases r
 refine WDm.quiet (QS.guardF rfl rfl rfl rfl rfl) rfl rfl rfl ?_
 refine WDm.quiet (QS.guardF rfl rfl rfl rfl rfl) rfl rfl rfl ?_
 refine WDm.quiet (QS.guardF rfl rfl rfl rfl rfl) rfl rfl rfl ?_
 refine WDm.quiet (QS.guardU rfl rfl rfl rfl) rfl rfl rfl ?_
 refine WDm.quiet (QS.guardU rfl rfl rfl rfl) rfl rfl rfl ?_
 refine WDm.quiet (QS.guardU rfl rfl rfl rfl) rfl rfl rfl ?_
 refine WDm.quiet (QS.guardU rfl rfl rfl rfl) rfl rfl rfl ?_
 refine WDm.quiet (QS.guardF rfl rfl rfl rfl rfl) rfl rfl rfl ?_
 refine WDm.quiet (QS.pure (Y.pickF rfl rfl) rfl rfl) rfl rfl rfl ?_
 refine WDm.quiet (QS.pure (Y.assign rfl) rfl rfl) rfl rfl rfl ?_
 refine WDm.nil (WQ.and ?_)
 refine WQ.next ?_
 refine WC.ret ?_
 refine WQ.blockRet ?_
 refine WQ.thenRet ?_
 refine WQ.done Try.results152 (RVs.cons (RV.tmp rfl) RVs.nil) (fun a w s => ?_)
 · refine ⟨⟨B1, hB1, ebk⟩, ?_, s.wp.sub (rest_hp (Hx := [_]) (foc_out hK (set1_same hl1).symm _ _))⟩
   have hpg := hB1.pg
   have gt0 : ∀ l : List Nat, decide ((0 : Int) < (l.length : Int)) = !l.isEmpty := fun l => by cases l <;> simp
   clear s hbd el eA ec epg ebk e0 hK hl1 hOf hB1 hB hw
   simp only [packed]
   apply retb
   try simp only [hpg, hst, hla, hup, beq0, gt0] at *
   unfold fits
   (simp_all <;> grind)
 refine WDm.quiet (QS.guardT rfl rfl rfl (QS.pure (Y.move rfl) rfl rfl)) rfl rfl rfl ?_
 refine WDm.quiet (QS.guardT rfl rfl rfl (QS.pure (Y.eql rfl rfl) rfl rfl)) rfl rfl rfl ?_
 refine WDm.quiet (QS.guardT rfl rfl rfl (QS.pure (Y.move rfl) rfl rfl)) rfl rfl rfl ?_
 refine WDm.split (t := 52) rfl (fun r h52 => ?_)
 cases r
 refine WDm.quiet (QS.guardT rfl rfl rfl (QS.pure (Y.move rfl) rfl rfl)) rfl rfl rfl ?_
 refine WDm.quiet (QS.guardT rfl rfl rfl (QS.pure (Y.fieldAddr fa_34_1 rfl) rfl rfl)) rfl rfl rfl ?_
 refine WDm.quiet (QS.guardT rfl rfl rfl (QS.val (Y.load fl_3 rfl m0 rfl) rfl rfl)) rfl rfl rfl ?_
 refine WDm.quiet (QS.guardT rfl rfl rfl (QS.pure (Y.eql rfl rfl) rfl rfl)) rfl rfl rfl ?_
 refine WDm.quiet (QS.guardT rfl rfl rfl (QS.pure (Y.pickF rfl rfl) rfl rfl)) rfl rfl rfl ?_
 refine WDm.quiet (QS.pure (Y.pickT rfl rfl) rfl rfl) rfl rfl rfl ?_
 refine WDm.quiet (QS.pure (Y.assign rfl) rfl rfl) rfl rfl rfl ?_
 refine WDm.nil (WQ.and ?_)
 refine WQ.next ?_
 refine WC.ret ?_
 refine WQ.blockRet ?_
 refine WQ.thenRet ?_
 refine WQ.done Try.results152 (RVs.cons (RV.tmp rfl) RVs.nil) (fun a w s => ?_)
 · refine ⟨⟨B1, hB1, ebk⟩, ?_, s.wp.sub (rest_hp (Hx := [_]) (foc_out hK (set1_same hl1).symm _ _))⟩
   have hpg := hB1.pg
   have gt0 : ∀ l : List Nat, decide ((0 : Int) < (l.length : Int)) = !l.isEmpty := fun l => by cases l <;> simp
   clear s hbd el eA ec epg ebk e0 hK hl1 hOf hB1 hB hw
   simp only [packed]
   apply retb
   try simp only [hpg, hst, hla, hup, beq0, gt0] at *
   unfold fits
   (simp_all <;> grind)
 refine WDm.quiet (QS.guardF rfl rfl rfl rfl rfl) rfl rfl rfl ?_
 refine WDm.quiet (QS.guardF rfl rfl rfl rfl rfl) rfl rfl rfl ?_
 refine WDm.quiet (QS.guardF rfl rfl rfl rfl rfl) rfl rfl rfl ?_
 refine WDm.quiet (QS.guardF rfl rfl rfl rfl rfl) rfl rfl rfl ?_
 refine WDm.quiet (QS.guardT rfl rfl rfl (QS.pure (Y.pickT rfl rfl) rfl rfl)) rfl rfl rfl ?_
 refine WDm.quiet (QS.pure (Y.pickT rfl rfl) rfl rfl) rfl rfl rfl ?_
 refine WDm.quiet (QS.pure (Y.assign rfl) rfl rfl) rfl rfl rfl ?_
 refine WDm.nil (WQ.and ?_)
 refine WQ.next ?_
 refine WC.ret ?_
 refine WQ.blockRet ?_
 refine WQ.thenRet ?_
 refine WQ.done Try.results152 (RVs.cons (RV.tmp rfl) RVs.nil) (fun a w s => ?_)
 · refine ⟨⟨B1, hB1, ebk⟩, ?_, s.wp.sub (rest_hp (Hx := [_]) (foc_out hK (set1_same hl1).symm _ _))⟩
   have hpg := hB1.pg
   have gt0 : ∀ l : List Nat, decide ((0 : Int) < (l.length : Int)) = !l.isEmpty := fun l => by cases l <;> simp
   clear s hbd el eA ec epg ebk e0 hK hl1 hOf hB1 hB hw
   simp only [packed]
   apply retb
   try simp only [hpg, hst, hla, hup, beq0, gt0] at *
   unfold fits
   (simp_all <;> grind)
 refine WC.seq ?_
 refine WC.region ?_
 refine WL.pure (Y.eql rfl rfl) rfl rfl rfl ?_
 refine WL.pure (Y.assign rfl) rfl rfl rfl ?_
 refine WL.nil ?_
 refine WQ.next ?_
 refine WC.cond rfl (fun h59 => ?_) (fun h59 => ?_)
 refine WC.seq ?_
 refine WC.region ?_
 refine WL.pure (Y.move rfl) rfl rfl rfl ?_
 refine WL.pure (Y.nilCheck rfl) rfl rfl rfl ?_
 refine WL.pure (Y.fieldAddr fa_117_0 rfl) rfl rfl rfl ?_
 refine WL.val (Y.load fl_3 rfl m1 rfl) rfl rfl rfl ?_
 refine WL.pure (Y.lss rfl rfl) rfl rfl rfl ?_
 refine WL.pure (Y.assign rfl) rfl rfl rfl ?_
 refine WL.nil ?_
 refine WQ.next ?_
 refine WC.ret ?_
 refine WQ.blockRet ?_
 refine WQ.thenRet ?_
 refine WQ.done Try.results152 (RVs.cons (RV.tmp rfl) RVs.nil) (fun a w s => ?_)
 · refine ⟨⟨B1, hB1, ebk⟩, ?_, s.wp.sub (rest_hp (Hx := [_]) (foc_out hK (set1_same hl1).symm _ _))⟩
   have hpg := hB1.pg
   have gt0 : ∀ l : List Nat, decide ((0 : Int) < (l.length : Int)) = !l.isEmpty := fun l => by cases l <;> simp
   clear s hbd el eA ec epg ebk e0 hK hl1 hOf hB1 hB hw
   simp only [packed]
   apply retb
   try simp only [hpg, hst, hla, hup, beq0, gt0] at *
   unfold fits
   (simp_all <;> grind)
 refine WC.seq ?_
 refine WC.region ?_
 refine WL.pure (Y.eql rfl rfl) rfl rfl rfl ?_
 refine WL.pure (Y.assign rfl) rfl rfl rfl ?_
 refine WL.nil ?_
 refine WQ.next ?_
 refine WC.cond rfl (fun h66 => ?_) (fun h66 => ?_)
 refine WC.seq ?_
 refine WC.drop [4] ?_
 refine WC.draw [(0, .q false), (1, .q false), (2, .q false), (3, .q true), (4, .q false), (5, .q false), (6, .q false), (7, .q false), (8, .q false), (9, .q true), (10, .q false), (11, .q false), (12, .q false), (13, .q false), (14, .q false), (15, .q false), (16, .q true), (17, .q false), (18, .q false), (19, .q false), (20, .q false), (21, .q true), (22, .q false), (23, .q false), (24, .q true), (25, .s false), (26, .q false), (27, .q false), (28, .q false)] mixed (by kernel_rfl) ?_
 refine WDm.quiet (QS.pure (Y.move rfl) rfl rfl) rfl rfl rfl ?_
 refine WDm.quiet (QS.pure (Y.nilCheck rfl) rfl rfl) rfl rfl rfl ?_
 refine WDm.quiet (QS.pure (Y.fieldAddr fa_117_0 rfl) rfl rfl) rfl rfl rfl ?_
 refine WDm.quiet (QS.val (Y.load fl_3 rfl m1 rfl) rfl rfl) rfl rfl rfl ?_
 refine WDm.quiet (QS.pure (Y.eql rfl rfl) rfl rfl) rfl rfl rfl ?_
 refine WDm.quiet (QS.pure (Y.move rfl) rfl rfl) rfl rfl rfl ?_
 refine WDm.split (t := 73) rfl (fun r h73 => ?_)
 cases r
 refine WDm.quiet (QS.guardT rfl rfl rfl (QS.pure (Y.move rfl) rfl rfl)) rfl rfl rfl ?_
 refine WDm.quiet (QS.guardT rfl rfl rfl (QS.pure (Y.nilCheck rfl) rfl rfl)) rfl rfl rfl ?_
 refine WDm.quiet (QS.guardT rfl rfl rfl (QS.pure (Y.fieldAddr fa_117_0 rfl) rfl rfl)) rfl rfl rfl ?_
 refine WDm.quiet (QS.guardT rfl rfl rfl (QS.val (Y.load fl_3 rfl m1 rfl) rfl rfl)) rfl rfl rfl ?_
 refine WDm.quiet (QS.guardT rfl rfl rfl (QS.pure (Y.eql rfl rfl) rfl rfl)) rfl rfl rfl ?_
 refine WDm.quiet (QS.pure (Y.pickF rfl rfl) rfl rfl) rfl rfl rfl ?_
 refine WDm.quiet (QS.pure (Y.move rfl) rfl rfl) rfl rfl rfl ?_
 refine WDm.split (t := 80) rfl (fun r h80 => ?_)
 cases r
 refine WDm.quiet (QS.guardF rfl rfl rfl rfl rfl) rfl rfl rfl ?_
 refine WDm.quiet (QS.guardF rfl rfl rfl rfl rfl) rfl rfl rfl ?_
 refine WDm.quiet (QS.guardF rfl rfl rfl rfl rfl) rfl rfl rfl ?_
 refine WDm.quiet (QS.guardF rfl rfl rfl rfl rfl) rfl rfl rfl ?_
 refine WDm.quiet (QS.guardF rfl rfl rfl rfl rfl) rfl rfl rfl ?_
 refine WDm.quiet (QS.guardF rfl rfl rfl rfl rfl) rfl rfl rfl ?_
 refine WDm.quiet (QS.pure (Y.pickF rfl rfl) rfl rfl) rfl rfl rfl ?_
 refine WDm.quiet (QS.pure (Y.move rfl) rfl rfl) rfl rfl rfl ?_
 refine WDm.quiet (QS.guardF rfl rfl rfl rfl rfl) rfl rfl rfl ?_
 refine WDm.quiet (QS.guardF rfl rfl rfl rfl rfl) rfl rfl rfl ?_
 refine WDm.quiet (QS.guardF rfl rfl rfl rfl rfl) rfl rfl rfl ?_
 refine WDm.quiet (QS.guardF rfl rfl rfl rfl rfl) rfl rfl rfl ?_
 refine WDm.skip (off_F rfl rfl rfl rfl) rfl rfl rfl ?_
 refine WDm.quiet (QS.guardF rfl rfl rfl rfl rfl) rfl rfl rfl ?_
 refine WDm.quiet (QS.pure (Y.pickF rfl rfl) rfl rfl) rfl rfl rfl ?_
 refine WDm.quiet (QS.pure (Y.assign rfl) rfl rfl) rfl rfl rfl ?_
 refine WDm.nil (WQ.and ?_)
 refine WQ.next ?_
 refine WC.ret ?_
 refine WQ.blockRet ?_
 refine WQ.thenRet ?_
 refine WQ.done Try.results152 (RVs.cons (RV.tmp rfl) RVs.nil) (fun a w s => ?_)
 · refine ⟨⟨B1, hB1, ebk⟩, ?_, s.wp.sub (rest_hp (Hx := [_]) (foc_out hK (set1_same hl1).symm _ _))⟩
   have hpg := hB1.pg
   have gt0 : ∀ l : List Nat, decide ((0 : Int) < (l.length : Int)) = !l.isEmpty := fun l => by cases l <;> simp
   clear s hbd el eA ec epg ebk e0 hK hl1 hOf hB1 hB hw
   simp only [packed]
   apply retb
   try simp only [hpg, hst, hla, hup, beq0, gt0] at *
   unfold fits
   generalize decide (r = undoB h r.txn) = D at *
   (simp_all <;> grind)
 refine WDm.quiet (QS.guardT rfl rfl rfl (QS.pure (Y.move rfl) rfl rfl)) rfl rfl rfl ?_
 refine WDm.quiet (QS.guardT rfl rfl rfl (QS.pure (Y.nilCheck rfl) rfl rfl)) rfl rfl rfl ?_
 refine WDm.quiet (QS.guardT rfl rfl rfl (QS.pure (Y.fieldAddr fa_117_2 rfl) rfl rfl)) rfl rfl rfl ?_
 refine WDm.quiet (QS.guardT rfl rfl rfl (QS.val (Y.load fl_64 rfl m1 rfl) rfl rfl)) rfl rfl rfl ?_
 refine WDm.quiet (QS.guardT rfl rfl rfl (QS.pure (Y.len Try.underlying64 rfl) rfl rfl)) rfl rfl rfl ?_
 refine WDm.quiet (QS.guardT rfl rfl rfl (QS.pure (Y.gtr rfl rfl) rfl rfl)) rfl rfl rfl ?_
 refine WDm.quiet (QS.pure (Y.pickT rfl rfl) rfl rfl) rfl rfl rfl ?_
 refine WDm.quiet (QS.pure (Y.move rfl) rfl rfl) rfl rfl rfl ?_
 refine WDm.split (t := 88) rfl (fun r h88 => ?_)
 cases r
 refine WDm.quiet (QS.guardF rfl rfl rfl rfl rfl) rfl rfl rfl ?_
 refine WDm.quiet (QS.guardF rfl rfl rfl rfl rfl) rfl rfl rfl ?_
 refine WDm.quiet (QS.guardF rfl rfl rfl rfl rfl) rfl rfl rfl ?_
 refine WDm.quiet (QS.guardF rfl rfl rfl rfl rfl) rfl rfl rfl ?_
 refine WDm.skip (off_F rfl rfl rfl rfl) rfl rfl rfl ?_
 refine WDm.quiet (QS.guardF rfl rfl rfl rfl rfl) rfl rfl rfl ?_
 refine WDm.quiet (QS.pure (Y.pickF rfl rfl) rfl rfl) rfl rfl rfl ?_
 refine WDm.quiet (QS.pure (Y.assign rfl) rfl rfl) rfl rfl rfl ?_
 refine WDm.nil (WQ.and ?_)
 refine WQ.next ?_
 refine WC.ret ?_
 refine WQ.blockRet ?_
 refine WQ.thenRet ?_
 refine WQ.done Try.results152 (RVs.cons (RV.tmp rfl) RVs.nil) (fun a w s => ?_)
 · refine ⟨⟨B1, hB1, ebk⟩, ?_, s.wp.sub (rest_hp (Hx := [_]) (foc_out hK (set1_same hl1).symm _ _))⟩
   have hpg := hB1.pg
   have gt0 : ∀ l : List Nat, decide ((0 : Int) < (l.length : Int)) = !l.isEmpty := fun l => by cases l <;> simp
   clear s hbd el eA ec epg ebk e0 hK hl1 hOf hB1 hB hw
   simp only [packed]
   apply retb
   try simp only [hpg, hst, hla, hup, beq0, gt0] at *
   unfold fits
   generalize decide (r = undoB h r.txn) = D at *
   (simp_all <;> grind)
 refine WDm.quiet (QS.guardT rfl rfl rfl (QS.val (Y.loadA wd_34 rfl m0 rfl) rfl rfl)) rfl rfl rfl ?_
 refine WDm.quiet (QS.guardT rfl rfl rfl (QS.pure (Y.move rfl) rfl rfl)) rfl rfl rfl ?_
 refine WDm.quiet (QS.guardT rfl rfl rfl (QS.pure (Y.fieldAddr fa_34_1 rfl) rfl rfl)) rfl rfl rfl ?_
 refine WDm.quiet (QS.guardT rfl rfl rfl (QS.val (Y.load fl_3 rfl m0 rfl) rfl rfl)) rfl rfl rfl ?_
 refine WDm.spec (WS.guardT rfl rfl rfl (E.undo [_] rfl hB1 hlen hK hl1 rfl rfl rfl rfl)) (fun _ => ext_call rfl) (fun _ => ?_)
 refine WDm.quiet (QS.guardT rfl rfl rfl (QS.pure (Y.eqlA Try.eqGuardType34 rfl rfl (weq_rec r (undoB h r.txn))) rfl rfl)) rfl rfl rfl ?_
 refine WDm.quiet (QS.pure (Y.pickT rfl rfl) rfl rfl) rfl rfl rfl ?_
 refine WDm.quiet (QS.pure (Y.assign rfl) rfl rfl) rfl rfl rfl ?_
 refine WDm.nil (WQ.and ?_)
 refine WQ.next ?_
 refine WC.ret ?_
 refine WQ.blockRet ?_
 refine WQ.thenRet ?_
 refine WQ.done Try.results152 (RVs.cons (RV.tmp rfl) RVs.nil) (fun a w s => ?_)
 · refine ⟨⟨B1, hB1, ebk⟩, ?_, s.wp.sub (rest_hp (Hx := [_]) (foc_out hK (set1_same hl1).symm _ _))⟩
   have hpg := hB1.pg
   have gt0 : ∀ l : List Nat, decide ((0 : Int) < (l.length : Int)) = !l.isEmpty := fun l => by cases l <;> simp
   clear s hbd el eA ec epg ebk e0 hK hl1 hOf hB1 hB hw
   simp only [packed]
   apply retb
   try simp only [hpg, hst, hla, hup, beq0, gt0] at *
   unfold fits
   generalize decide (r = undoB h r.txn) = D at *
   (simp_all <;> grind)
 refine WDm.quiet (QS.guardF rfl rfl rfl rfl rfl) rfl rfl rfl ?_
 refine WDm.quiet (QS.guardF rfl rfl rfl rfl rfl) rfl rfl rfl ?_
 refine WDm.quiet (QS.guardF rfl rfl rfl rfl rfl) rfl rfl rfl ?_
 refine WDm.quiet (QS.guardF rfl rfl rfl rfl rfl) rfl rfl rfl ?_
 refine WDm.quiet (QS.guardF rfl rfl rfl rfl rfl) rfl rfl rfl ?_
 refine WDm.quiet (QS.pure (Y.pickT rfl rfl) rfl rfl) rfl rfl rfl ?_
 refine WDm.quiet (QS.pure (Y.move rfl) rfl rfl) rfl rfl rfl ?_
 refine WDm.quiet (QS.guardT rfl rfl rfl (QS.pure (Y.move rfl) rfl rfl)) rfl rfl rfl ?_
 refine WDm.quiet (QS.guardT rfl rfl rfl (QS.pure (Y.nilCheck rfl) rfl rfl)) rfl rfl rfl ?_
 refine WDm.quiet (QS.guardT rfl rfl rfl (QS.pure (Y.fieldAddr fa_117_2 rfl) rfl rfl)) rfl rfl rfl ?_
 refine WDm.quiet (QS.guardT rfl rfl rfl (QS.val (Y.load fl_64 rfl m1 rfl) rfl rfl)) rfl rfl rfl ?_
 refine WDm.quiet (QS.guardT rfl rfl rfl (QS.pure (Y.len Try.underlying64 rfl) rfl rfl)) rfl rfl rfl ?_
 refine WDm.quiet (QS.guardT rfl rfl rfl (QS.pure (Y.gtr rfl rfl) rfl rfl)) rfl rfl rfl ?_
 refine WDm.quiet (QS.pure (Y.pickT rfl rfl) rfl rfl) rfl rfl rfl ?_
 refine WDm.quiet (QS.pure (Y.move rfl) rfl rfl) rfl rfl rfl ?_
 refine WDm.split (t := 88) rfl (fun r h88 => ?_)
 cases r
 refine WDm.quiet (QS.guardF rfl rfl rfl rfl rfl) rfl rfl rfl ?_
 refine WDm.quiet (QS.guardF rfl rfl rfl rfl rfl) rfl rfl rfl ?_
 refine WDm.quiet (QS.guardF rfl rfl rfl rfl rfl) rfl rfl rfl ?_
 refine WDm.quiet (QS.guardF rfl rfl rfl rfl rfl) rfl rfl rfl ?_
 refine WDm.skip (off_F rfl rfl rfl rfl) rfl rfl rfl ?_
 refine WDm.quiet (QS.guardF rfl rfl rfl rfl rfl) rfl rfl rfl ?_
 refine WDm.quiet (QS.pure (Y.pickF rfl rfl) rfl rfl) rfl rfl rfl ?_
 refine WDm.quiet (QS.pure (Y.assign rfl) rfl rfl) rfl rfl rfl ?_
 refine WDm.nil (WQ.and ?_)
 refine WQ.next ?_
 refine WC.ret ?_
 refine WQ.blockRet ?_
 refine WQ.thenRet ?_
 refine WQ.done Try.results152 (RVs.cons (RV.tmp rfl) RVs.nil) (fun a w s => ?_)
 · refine ⟨⟨B1, hB1, ebk⟩, ?_, s.wp.sub (rest_hp (Hx := [_]) (foc_out hK (set1_same hl1).symm _ _))⟩
   have hpg := hB1.pg
   have gt0 : ∀ l : List Nat, decide ((0 : Int) < (l.length : Int)) = !l.isEmpty := fun l => by cases l <;> simp
   clear s hbd el eA ec epg ebk e0 hK hl1 hOf hB1 hB hw
   simp only [packed]
   apply retb
   try simp only [hpg, hst, hla, hup, beq0, gt0] at *
   unfold fits
   generalize decide (r = undoB h r.txn) = D at *
   (simp_all <;> grind)
 refine WDm.quiet (QS.guardT rfl rfl rfl (QS.val (Y.loadA wd_34 rfl m0 rfl) rfl rfl)) rfl rfl rfl ?_
 refine WDm.quiet (QS.guardT rfl rfl rfl (QS.pure (Y.move rfl) rfl rfl)) rfl rfl rfl ?_
 refine WDm.quiet (QS.guardT rfl rfl rfl (QS.pure (Y.fieldAddr fa_34_1 rfl) rfl rfl)) rfl rfl rfl ?_
 refine WDm.quiet (QS.guardT rfl rfl rfl (QS.val (Y.load fl_3 rfl m0 rfl) rfl rfl)) rfl rfl rfl ?_
 refine WDm.spec (WS.guardT rfl rfl rfl (E.undo [_] rfl hB1 hlen hK hl1 rfl rfl rfl rfl)) (fun _ => ext_call rfl) (fun _ => ?_)
 refine WDm.quiet (QS.guardT rfl rfl rfl (QS.pure (Y.eqlA Try.eqGuardType34 rfl rfl (weq_rec r (undoB h r.txn))) rfl rfl)) rfl rfl rfl ?_
 refine WDm.quiet (QS.pure (Y.pickT rfl rfl) rfl rfl) rfl rfl rfl ?_
 refine WDm.quiet (QS.pure (Y.assign rfl) rfl rfl) rfl rfl rfl ?_
 refine WDm.nil (WQ.and ?_)
 refine WQ.next ?_
 refine WC.ret ?_
 refine WQ.blockRet ?_
 refine WQ.thenRet ?_
 refine WQ.done Try.results152 (RVs.cons (RV.tmp rfl) RVs.nil) (fun a w s => ?_)
 · refine ⟨⟨B1, hB1, ebk⟩, ?_, s.wp.sub (rest_hp (Hx := [_]) (foc_out hK (set1_same hl1).symm _ _))⟩
   have hpg := hB1.pg
   have gt0 : ∀ l : List Nat, decide ((0 : Int) < (l.length : Int)) = !l.isEmpty := fun l => by cases l <;> simp
   clear s hbd el eA ec epg ebk e0 hK hl1 hOf hB1 hB hw
   simp only [packed]
   apply retb
   try simp only [hpg, hst, hla, hup, beq0, gt0] at *
   unfold fits
   generalize decide (r = undoB h r.txn) = D at *
   (simp_all <;> grind)
 refine WC.skip' ?_
 refine WQ.blockEnd ?_
 refine WQ.next ?_
 refine WC.seq ?_
 refine WC.region ?_
 refine WL.pure (Y.move rfl) rfl rfl rfl ?_
 refine WL.pure (Y.nilCheck rfl) rfl rfl rfl ?_
 refine WL.pure (Y.fieldAddr fa_117_0 rfl) rfl rfl rfl ?_
 refine WL.val (Y.load fl_3 rfl m1 rfl) rfl rfl rfl ?_
 refine WL.pure (Y.eql rfl rfl) rfl rfl rfl ?_
 refine WL.pure (Y.move rfl) rfl rfl rfl ?_
 refine WL.split (t := 101) rfl (fun r h101 => ?_)
 cases r
 refine WL.guardT rfl rfl rfl ?_
 refine WL.pure (Y.move rfl) rfl rfl rfl ?_
 refine WL.guardT rfl rfl rfl ?_
 refine WL.pure (Y.nilCheck rfl) rfl rfl rfl ?_
 refine WL.guardT rfl rfl rfl ?_
 refine WL.pure (Y.fieldAddr fa_117_0 rfl) rfl rfl rfl ?_
 refine WL.guardT rfl rfl rfl ?_
 refine WL.val (Y.load fl_3 rfl m1 rfl) rfl rfl rfl ?_
 refine WL.guardT rfl rfl rfl ?_
 refine WL.pure (Y.eql rfl rfl) rfl rfl rfl ?_
 refine WL.guardT rfl rfl rfl ?_
 refine WL.pure (Y.move rfl) rfl rfl rfl ?_
 refine WL.split (t := 107) rfl (fun r h107 => ?_)
 cases r
 refine WL.guardF rfl rfl rfl rfl rfl rfl ?_
 refine WL.guardF rfl rfl rfl rfl rfl rfl ?_
 refine WL.guardF rfl rfl rfl rfl rfl rfl ?_
 refine WL.guardF rfl rfl rfl rfl rfl rfl ?_
 refine WL.guardF rfl rfl rfl rfl rfl rfl ?_
 refine WL.guardF rfl rfl rfl rfl rfl rfl ?_
 refine WL.guardT rfl rfl rfl ?_
 refine WL.pure (Y.pickF rfl rfl) rfl rfl rfl ?_
 refine WL.pure (Y.pickF rfl rfl) rfl rfl rfl ?_
 refine WL.pure (Y.assign rfl) rfl rfl rfl ?_
 refine WL.nil ?_
 refine WQ.next ?_
 refine WC.ret ?_
 refine WQ.done Try.results152 (RVs.cons (RV.tmp rfl) RVs.nil) (fun a w s => ?_)
 · refine ⟨⟨B1, hB1, ebk⟩, ?_, s.wp.sub (rest_hp (Hx := [_]) (foc_out hK (set1_same hl1).symm _ _))⟩
   have hpg := hB1.pg
   have gt0 : ∀ l : List Nat, decide ((0 : Int) < (l.length : Int)) = !l.isEmpty := fun l => by cases l <;> simp
   clear s hbd el eA ec epg ebk e0 hK hl1 hOf hB1 hB hw
   simp only [packed]
   apply retb
   try simp only [hpg, hst, hla, hup, beq0, gt0] at *
   unfold fits
   (simp_all <;> grind)
 refine WL.guardT rfl rfl rfl ?_
 refine WL.pure (Y.move rfl) rfl rfl rfl ?_
 refine WL.guardT rfl rfl rfl ?_
 refine WL.pure (Y.nilCheck rfl) rfl rfl rfl ?_
 refine WL.guardT rfl rfl rfl ?_
 refine WL.pure (Y.fieldAddr fa_117_2 rfl) rfl rfl rfl ?_
 refine WL.guardT rfl rfl rfl ?_
 refine WL.val (Y.load fl_64 rfl m1 rfl) rfl rfl rfl ?_
 refine WL.guardT rfl rfl rfl ?_
 refine WL.pure (Y.len Try.underlying64 rfl) rfl rfl rfl ?_
 refine WL.guardT rfl rfl rfl ?_
 refine WL.pure (Y.eql rfl rfl) rfl rfl rfl ?_
 refine WL.guardT rfl rfl rfl ?_
 refine WL.pure (Y.pickT rfl rfl) rfl rfl rfl ?_
 refine WL.pure (Y.pickF rfl rfl) rfl rfl rfl ?_
 refine WL.pure (Y.assign rfl) rfl rfl rfl ?_
 refine WL.nil ?_
 refine WQ.next ?_
 refine WC.ret ?_
 refine WQ.done Try.results152 (RVs.cons (RV.tmp rfl) RVs.nil) (fun a w s => ?_)
 · refine ⟨⟨B1, hB1, ebk⟩, ?_, s.wp.sub (rest_hp (Hx := [_]) (foc_out hK (set1_same hl1).symm _ _))⟩
   have hpg := hB1.pg
   have gt0 : ∀ l : List Nat, decide ((0 : Int) < (l.length : Int)) = !l.isEmpty := fun l => by cases l <;> simp
   clear s hbd el eA ec epg ebk e0 hK hl1 hOf hB1 hB hw
   simp only [packed]
   apply retb
   try simp only [hpg, hst, hla, hup, beq0, gt0] at *
   unfold fits
   (simp_all <;> grind)
 refine WL.guardF rfl rfl rfl rfl rfl rfl ?_
 refine WL.guardF rfl rfl rfl rfl rfl rfl ?_
 refine WL.guardF rfl rfl rfl rfl rfl rfl ?_
 refine WL.guardF rfl rfl rfl rfl rfl rfl ?_
 refine WL.guardF rfl rfl rfl rfl rfl rfl ?_
 refine WL.guardF rfl rfl rfl rfl rfl rfl ?_
 refine WL.guardU rfl rfl rfl rfl rfl ?_
 refine WL.guardU rfl rfl rfl rfl rfl ?_
 refine WL.guardU rfl rfl rfl rfl rfl ?_
 refine WL.guardU rfl rfl rfl rfl rfl ?_
 refine WL.guardU rfl rfl rfl rfl rfl ?_
 refine WL.guardU rfl rfl rfl rfl rfl ?_
 refine WL.guardF rfl rfl rfl rfl rfl rfl ?_
 refine WL.pure (Y.pickT rfl rfl) rfl rfl rfl ?_
 refine WL.pure (Y.assign rfl) rfl rfl rfl ?_
 refine WL.nil ?_
 refine WQ.next ?_
 refine WC.ret ?_
 refine WQ.done Try.results152 (RVs.cons (RV.tmp rfl) RVs.nil) (fun a w s => ?_)
 · refine ⟨⟨B1, hB1, ebk⟩, ?_, s.wp.sub (rest_hp (Hx := [_]) (foc_out hK (set1_same hl1).symm _ _))⟩
   have hpg := hB1.pg
   have gt0 : ∀ l : List Nat, decide ((0 : Int) < (l.length : Int)) = !l.isEmpty := fun l => by cases l <;> simp
   clear s hbd el eA ec epg ebk e0 hK hl1 hOf hB1 hB hw
   simp only [packed]
   apply retb
   try simp only [hpg, hst, hla, hup, beq0, gt0] at *
   unfold fits
   (simp_all <;> grind)
end Go.Proofs.Ytdbcimadjmdffaa
