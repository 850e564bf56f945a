/- Laws on logs: a log by hand. No condition. -/
import Derived.Test.YtdbcimadjmdffaaNw
import Derived.Test.YtdbcimadjmdffaaRc
set_option maxRecDepth 100000
set_option linter.unusedVariables false
set_option linter.unusedSimpArgs false
set_option linter.unusedSectionVars false
set_option maxHeartbeats 4000000
namespace Go.Proofs.Ytdbcimadjmdffaa
open Go.RowKit Go.Joins
def someL : List R := [wrR 1 0 0 0 0 5, wrR 2 0 1 1 0 6, wrR 1 1 0 1 0 7, cmR 2 2, enR 2 4, bkR 1 3 0 1 7 0 1, bkR 1 6 0 0 5 0 0, enR 1 7, wrR 3 0 0 0 0 8]
def someG : List R := [wrR 1 0 0 0 0 5, wrR 2 0 1 1 0 6, wrR 1 1 0 1 0 7, cmR 2 2, enR 2 4, bkR 1 3 0 1 7 0 1, bkR 1 6 0 0 5 0 0, enR 1 7, wrR 3 0 0 0 5 8]
def someN : List R := [wrR 1 0 0 0 0 5, wrR 2 0 1 1 0 6, wrR 1 1 0 1 0 7, cmR 2 2, enR 2 4, bkR 1 3 0 1 7 0 0, bkR 1 6 0 0 5 0 0, enR 1 7, wrR 3 0 0 0 0 8]
def someA : List R := [wrR 1 0 0 0 0 5, wrR 2 0 1 1 0 6, wrR 2 2 0 0 5 6]
def zeros : Nat → List Value
  | 0 => []
  | k + 1 => .int .i64 0 :: zeros k
def long : List R := List.replicate 61 R.zero
theorem ms_39_61 (w : World) : (Instr.makeSlice 39 (.int .i64 61) (.int .i64 61)).run Try.prog w = .ok (.slice (some ⟨w.heap.size, 0, none⟩) 61 61) (w.alloc (.cells (flat long).toArray 34)) := by kernel_rfl

theorem w_some (w : World) : Calls Try.prog 120 [].toArray w fun e w' => ∃ g : Nat, e = .returned (.slice (some ⟨g, 0, none⟩) 9 9) ∧ Below w.heap.size w w' ∧ w.heap.size ≤ g ∧ w'.heap[g]? = some (.cells (flat someL).toArray 34) := by
 refine enter Try.func120 rfl Try.ntmps120 rfl SF.top trivial ?_
 refine WC.seq ?_
 refine WC.region ?_
 refine WL.pure (Y.assign rfl) rfl rfl rfl ?_
 refine WL.nil ?_
 refine WQ.next ?_
 refine WC.seq ?_
 refine WC.region ?_
 refine WL.eff (E.call Try.call113 rfl (fun _ w s => w_wr _ _ _ _ _ _ w) rfl) rfl (fun _ => ?_)
 refine WL.eff (E.call Try.call113 rfl (fun _ w s => w_wr _ _ _ _ _ _ w) rfl) rfl (fun _ => ?_)
 refine WL.eff (E.call Try.call113 rfl (fun _ w s => w_wr _ _ _ _ _ _ w) rfl) rfl (fun _ => ?_)
 refine WL.eff (E.call Try.call116 rfl (fun _ w s => w_cm _ _ w) rfl) rfl (fun _ => ?_)
 refine WL.eff (E.call Try.call114 rfl (fun _ w s => w_en _ _ w) rfl) rfl (fun _ => ?_)
 refine WL.eff (E.call Try.call115 rfl (fun _ w s => w_bk _ _ _ _ _ _ _ w) rfl) rfl (fun _ => ?_)
 refine WL.eff (E.call Try.call115 rfl (fun _ w s => w_bk _ _ _ _ _ _ _ w) rfl) rfl (fun _ => ?_)
 refine WL.eff (E.call Try.call114 rfl (fun _ w s => w_en _ _ w) rfl) rfl (fun _ => ?_)
 refine WL.eff (E.call Try.call113 rfl (fun _ w s => w_wr _ _ _ _ _ _ w) rfl) rfl (fun _ => ?_)
 refine WL.eff (E.buildSlice (bs_39_9 _ _ _ _ _ _ _ _ _ _ _ _ _ _ _ _ _ _ _ _ _ _ _ _ _ _ _ _ _ _ _ _ _ _ _ _ _ _ _ _ _ _ _ _ _ _ _ _ _ _ _ _ _ _ _ _ _ _ _ _ _ _ _ _ _ _ _ _ _ _ _ _) rfl rfl) rfl (fun b1 => ?_)
 refine WL.pure (Y.assign rfl) rfl rfl rfl ?_
 refine WL.nil ?_
 refine WQ.next ?_
 refine WC.ret ?_
 refine WQ.done Try.results120 (RVs.cons (RV.tmp rfl) RVs.nil) (fun a w s => ?_)
 · exact ⟨b1, rfl, s.low, (s.hp.blk _ (List.Mem.head _)).2, (s.hp.blk _ (List.Mem.head _)).1⟩

theorem some_own {u w : World} (hu : u.heap.size ≤ w.heap.size) {f : FuncId} (h : Calls Try.prog f [].toArray w fun e w' => ∃ g : Nat, e = .returned (.slice (some ⟨g, 0, none⟩) 9 9) ∧ Below w.heap.size w w' ∧ w.heap.size ≤ g ∧ w'.heap[g]? = some (.cells (flat someL).toArray 34)) :
    Calls Try.prog f [].toArray w fun e w' => ∃ g : Nat, e = .returned (.slice (some ⟨g, 0, none⟩) 9 9) ∧ Below w.heap.size w w' ∧ (SF.own u.heap.size 34 8 (.slice (some ⟨g, 0, none⟩) 2 9) 2 (flat (someL.take 2))).p w' ∧ ∀ b, (SF.own u.heap.size 34 8 (.slice (some ⟨g, 0, none⟩) 2 9) 2 (flat (someL.take 2))).fp w' b → w.heap.size ≤ b :=
  h.mono fun e w' ⟨g, he, hb, hg, hc⟩ => ⟨g, he, hb, ⟨rfl, .inr ⟨g, 9, (flat someL).toArray, rfl, by omega, hc, by decide, by decide, by decide, by rfl⟩⟩, fun b hb2 => by
    have : g = b := Option.some.inj hb2
    omega⟩

theorem w_logBegun (w : World) : Ret Try.prog 53 [] w (.bool true) := by
 obtain ⟨i3, hi3, hz30, hz31, hz32⟩ := info_parts rec_info
 refine enter Try.func53 rfl Try.ntmps53 rfl SF.top trivial ?_
 refine WC.seq ?_
 refine WC.region ?_
 refine WL.pure (Y.assign rfl) rfl rfl rfl ?_
 refine WL.nil ?_
 refine WQ.next ?_
 refine WC.seq ?_
 refine WC.region ?_
 refine WL.eff (E.callB (fun g : Nat => .slice (some ⟨g, 0, none⟩) 9 9) (fun g => (g, flat someL, 34)) Try.call120 rfl (fun _ w s => w_some w) rfl) rfl (fun g21 => ?_)
 refine WL.eff (E.call Try.call56 rfl (fun _ w s => w_logPages someL _ _ 0 9 w (RL.ofH s (by repeat (first | exact List.Mem.head _ | apply List.Mem.tail)))) rfl) rfl (fun _ => ?_)
 refine WL.pure (Y.move rfl) rfl rfl rfl ?_
 refine WL.pure (Y.extract rfl rfl) rfl rfl rfl ?_
 refine WL.pure (Y.extract rfl rfl) rfl rfl rfl ?_
 refine WL.eff (E.alloc Try.zeroValue42 rfl rfl) rfl (fun b1 => ?_)
 refine WL.eff (E.store Try.sizeOf42 rfl rfl rfl rfl rfl u0 rfl rfl) rfl (fun _ => ?_)
 refine WL.pure (Y.assign rfl) rfl rfl rfl ?_
 refine WL.nil ?_
 refine WQ.next ?_
 refine WC.seq ?_
 refine WC.region ?_
 refine WL.eff (E.callB (fun g : Nat => .slice (some ⟨g, 0, none⟩) 9 9) (fun g => (g, flat someL, 34)) Try.call120 rfl (fun _ w s => w_some w) rfl) rfl (fun g26 => ?_)
 refine WL.eff (E.call Try.call58 rfl (fun _ w s => w_logState someL _ _ 0 9 1 w (RL.ofH s (by repeat (first | exact List.Mem.head _ | apply List.Mem.tail)))) rfl) rfl (fun _ => ?_)
 refine WL.pure (Y.move rfl) rfl rfl rfl ?_
 refine WL.pure (Y.extract rfl rfl) rfl rfl rfl ?_
 refine WL.pure (Y.extract rfl rfl) rfl rfl rfl ?_
 refine WL.pure (Y.extract rfl rfl) rfl rfl rfl ?_
 refine WL.pure (Y.assign rfl) rfl rfl rfl ?_
 refine WL.pure (Y.assign rfl) rfl rfl rfl ?_
 refine WL.pure (Y.assign rfl) rfl rfl rfl ?_
 refine WL.nil ?_
 refine WQ.next ?_
 refine WC.seq ?_
 refine WC.region ?_
 refine WL.eff (E.callB (fun g : Nat => .slice (some ⟨g, 0, none⟩) 9 9) (fun g => (g, flat someL, 34)) Try.call120 rfl (fun _ w s => w_some w) rfl) rfl (fun g32 => ?_)
 refine WL.eff (E.call Try.call58 rfl (fun _ w s => w_logState someL _ _ 0 9 3 w (RL.ofH s (by repeat (first | exact List.Mem.head _ | apply List.Mem.tail)))) rfl) rfl (fun _ => ?_)
 refine WL.pure (Y.move rfl) rfl rfl rfl ?_
 refine WL.pure (Y.extract rfl rfl) rfl rfl rfl ?_
 refine WL.pure (Y.extract rfl rfl) rfl rfl rfl ?_
 refine WL.pure (Y.extract rfl rfl) rfl rfl rfl ?_
 refine WL.pure (Y.assign rfl) rfl rfl rfl ?_
 refine WL.pure (Y.assign rfl) rfl rfl rfl ?_
 refine WL.pure (Y.assign rfl) rfl rfl rfl ?_
 refine WL.nil ?_
 refine WQ.next ?_
 refine WC.seq ?_
 refine WC.region ?_
 refine WL.eff (E.callB (fun g : Nat => .slice (some ⟨g, 0, none⟩) 9 9) (fun g => (g, flat someL, 34)) Try.call120 rfl (fun _ w s => w_some w) rfl) rfl (fun g38 => ?_)
 refine WL.eff (E.call Try.call58 rfl (fun _ w s => w_logState someL _ _ 0 9 10 w (RL.ofH s (by repeat (first | exact List.Mem.head _ | apply List.Mem.tail)))) rfl) rfl (fun _ => ?_)
 refine WL.pure (Y.move rfl) rfl rfl rfl ?_
 refine WL.pure (Y.extract rfl rfl) rfl rfl rfl ?_
 refine WL.pure (Y.extract rfl rfl) rfl rfl rfl ?_
 refine WL.pure (Y.extract rfl rfl) rfl rfl rfl ?_
 refine WL.pure (Y.assign rfl) rfl rfl rfl ?_
 refine WL.pure (Y.assign rfl) rfl rfl rfl ?_
 refine WL.pure (Y.assign rfl) rfl rfl rfl ?_
 refine WL.nil ?_
 refine WQ.next ?_
 refine WC.seq ?_
 refine WC.region ?_
 refine WL.eff (E.callB (fun g : Nat => .slice (some ⟨g, 0, none⟩) 9 9) (fun g => (g, flat someL, 34)) Try.call120 rfl (fun _ w s => w_some w) rfl) rfl (fun g44 => ?_)
 refine WL.pure (Y.slToN 7 rfl Try.underlying39 Try.sizeOf34 rfl rfl (by decide)) rfl rfl rfl ?_
 refine WL.eff (E.call Try.call58 rfl (fun _ w s => w_logState (someL.take 7) _ _ 0 9 1 w ((RL.ofH s (by repeat (first | exact List.Mem.head _ | apply List.Mem.tail))).take 7)) rfl) rfl (fun _ => ?_)
 refine WL.pure (Y.move rfl) rfl rfl rfl ?_
 refine WL.pure (Y.extract rfl rfl) rfl rfl rfl ?_
 refine WL.pure (Y.extract rfl rfl) rfl rfl rfl ?_
 refine WL.pure (Y.extract rfl rfl) rfl rfl rfl ?_
 refine WL.pure (Y.assign rfl) rfl rfl rfl ?_
 refine WL.pure (Y.assign rfl) rfl rfl rfl ?_
 refine WL.pure (Y.assign rfl) rfl rfl rfl ?_
 refine WL.nil ?_
 refine WQ.next ?_
 refine WC.seq ?_
 refine WC.region ?_
 refine WL.eff (E.callB (fun g : Nat => .slice (some ⟨g, 0, none⟩) 9 9) (fun g => (g, flat someL, 34)) Try.call120 rfl (fun _ w s => w_some w) rfl) rfl (fun g51 => ?_)
 refine WL.pure (Y.slToN 4 rfl Try.underlying39 Try.sizeOf34 rfl rfl (by decide)) rfl rfl rfl ?_
 refine WL.eff (E.call Try.call58 rfl (fun _ w s => w_logState (someL.take 4) _ _ 0 9 2 w ((RL.ofH s (by repeat (first | exact List.Mem.head _ | apply List.Mem.tail))).take 4)) rfl) rfl (fun _ => ?_)
 refine WL.pure (Y.move rfl) rfl rfl rfl ?_
 refine WL.pure (Y.extract rfl rfl) rfl rfl rfl ?_
 refine WL.pure (Y.extract rfl rfl) rfl rfl rfl ?_
 refine WL.pure (Y.extract rfl rfl) rfl rfl rfl ?_
 refine WL.pure (Y.assign rfl) rfl rfl rfl ?_
 refine WL.pure (Y.assign rfl) rfl rfl rfl ?_
 refine WL.pure (Y.assign rfl) rfl rfl rfl ?_
 refine WL.nil ?_
 refine WQ.next ?_
 refine WC.seq ?_
 refine WC.region ?_
 refine WL.eff (E.callB (fun g : Nat => .slice (some ⟨g, 0, none⟩) 9 9) (fun g => (g, flat someL, 34)) Try.call120 rfl (fun _ w s => w_some w) rfl) rfl (fun g57 => ?_)
 refine WL.pure (Y.assign rfl) rfl rfl rfl ?_
 refine WL.nil ?_
 refine WQ.next ?_
 refine WC.seq ?_
 refine WC.region ?_
 refine WL.pure (Y.move rfl) rfl rfl rfl ?_
 refine WL.pure (Y.ixSl Try.underlying39 Try.sizeOf34 rfl rfl (by decide) (by decide)) rfl rfl rfl ?_
 refine WL.pure (Y.fieldAddr fa_34_5 rfl) rfl rfl rfl ?_
 refine WL.eff (E.store Try.sizeOf3 rfl rfl rfl rfl rfl (by repeat (first | exact Upd.here | apply Upd.there)) rfl rfl) rfl (fun _ => ?_)
 refine WL.nil ?_
 refine WQ.next ?_
 refine WC.seq ?_
 refine WC.region ?_
 refine WL.eff (E.callB (fun g : Nat => .slice (some ⟨g, 0, none⟩) 9 9) (fun g => (g, flat someL, 34)) Try.call120 rfl (fun _ w s => w_some w) rfl) rfl (fun g61 => ?_)
 refine WL.pure (Y.assign rfl) rfl rfl rfl ?_
 refine WL.nil ?_
 refine WQ.next ?_
 refine WC.seq ?_
 refine WC.region ?_
 refine WL.pure (Y.move rfl) rfl rfl rfl ?_
 refine WL.pure (Y.ixSl Try.underlying39 Try.sizeOf34 rfl rfl (by decide) (by decide)) rfl rfl rfl ?_
 refine WL.pure (Y.fieldAddr fa_34_7 rfl) rfl rfl rfl ?_
 refine WL.eff (E.store Try.sizeOf3 rfl rfl rfl rfl rfl (by repeat (first | exact Upd.here | apply Upd.there)) rfl rfl) rfl (fun _ => ?_)
 refine WL.nil ?_
 refine WQ.next ?_
 refine WC.seq ?_
 refine WC.drop [0] ?_
 refine WC.draw [(0, .q false), (1, .q false), (2, .q false), (3, .q false), (4, .q false), (5, .q false), (6, .q false), (7, .q false), (8, .q false), (9, .q false), (10, .q false), (11, .q false), (12, .q false), (13, .q false), (14, .q false), (15, .q false), (16, .q false), (17, .q false), (18, .q false), (19, .q false), (20, .q false), (21, .q false), (22, .q false), (23, .s false), (24, .q true), (25, .q false), (26, .q false), (27, .q false), (28, .q false), (29, .q true), (30, .q false), (31, .q false), (32, .q false), (33, .q false), (34, .q true), (35, .q false), (36, .q false), (37, .q false), (38, .s false), (39, .q false), (40, .q true), (41, .s false), (42, .s true), (43, .q true), (44, .q false), (45, .q false), (46, .q false), (47, .s false), (48, .q true), (49, .q false), (50, .q false), (51, .q false), (52, .q false), (53, .q false), (54, .q false), (55, .q false), (56, .q false), (57, .q false), (58, .q false), (59, .q false), (60, .q false), (61, .q false), (62, .q false), (63, .q false), (64, .q false), (65, .q false), (66, .q false), (67, .q false), (68, .q false), (69, .q false), (70, .q false), (71, .q false), (72, .q false), (73, .q false), (74, .q false), (75, .q false), (76, .q false), (77, .q true), (78, .q false), (79, .q false), (80, .q false), (81, .q false), (82, .q false), (83, .q false), (84, .q true), (85, .q false), (86, .q false), (87, .q false), (88, .q false), (89, .q false)] mixed (by kernel_rfl) ?_
 refine WDm.quiet (QS.pure (Y.move rfl) rfl rfl) rfl rfl rfl ?_
 refine WDm.quiet (QS.pure (Y.eql rfl rfl) rfl rfl) rfl rfl rfl ?_
 refine WDm.quiet (QS.pure (Y.move rfl) rfl rfl) rfl rfl rfl ?_
 refine WDm.known (t := 67) (r := true) rfl (by decide) ?_
 refine WDm.quiet (QS.guardT rfl rfl rfl (QS.pure (Y.move rfl) rfl rfl)) rfl rfl rfl ?_
 refine WDm.quiet (QS.guardT rfl rfl rfl (QS.pure (Y.eql rfl rfl) rfl rfl)) rfl rfl rfl ?_
 refine WDm.quiet (QS.pure (Y.pickT rfl rfl) rfl rfl) rfl rfl rfl ?_
 refine WDm.quiet (QS.pure (Y.move rfl) rfl rfl) rfl rfl rfl ?_
 refine WDm.known (t := 71) (r := true) rfl (by decide) ?_
 refine WDm.quiet (QS.guardT rfl rfl rfl (QS.pure (Y.move rfl) rfl rfl)) rfl rfl rfl ?_
 refine WDm.quiet (QS.guardT rfl rfl rfl (QS.pure (Y.eql rfl rfl) rfl rfl)) rfl rfl rfl ?_
 refine WDm.quiet (QS.pure (Y.pickT rfl rfl) rfl rfl) rfl rfl rfl ?_
 refine WDm.quiet (QS.pure (Y.move rfl) rfl rfl) rfl rfl rfl ?_
 refine WDm.known (t := 75) (r := true) rfl (by decide) ?_
 refine WDm.quiet (QS.guardT rfl rfl rfl (QS.pure (Y.move rfl) rfl rfl)) rfl rfl rfl ?_
 refine WDm.quiet (QS.guardT rfl rfl rfl (QS.pure (Y.eql rfl rfl) rfl rfl)) rfl rfl rfl ?_
 refine WDm.quiet (QS.pure (Y.pickT rfl rfl) rfl rfl) rfl rfl rfl ?_
 refine WDm.quiet (QS.pure (Y.move rfl) rfl rfl) rfl rfl rfl ?_
 refine WDm.known (t := 79) (r := true) rfl (by decide) ?_
 refine WDm.quiet (QS.guardT rfl rfl rfl (QS.pure (Y.move rfl) rfl rfl)) rfl rfl rfl ?_
 refine WDm.quiet (QS.guardT rfl rfl rfl (QS.pure (Y.eql rfl rfl) rfl rfl)) rfl rfl rfl ?_
 refine WDm.quiet (QS.pure (Y.pickT rfl rfl) rfl rfl) rfl rfl rfl ?_
 refine WDm.quiet (QS.pure (Y.move rfl) rfl rfl) rfl rfl rfl ?_
 refine WDm.known (t := 83) (r := true) rfl (by decide) ?_
 refine WDm.quiet (QS.guardT rfl rfl rfl (QS.pure (Y.move rfl) rfl rfl)) rfl rfl rfl ?_
 refine WDm.quiet (QS.guardT rfl rfl rfl (QS.pure (Y.eql rfl rfl) rfl rfl)) rfl rfl rfl ?_
 refine WDm.quiet (QS.pure (Y.pickT rfl rfl) rfl rfl) rfl rfl rfl ?_
 refine WDm.quiet (QS.pure (Y.move rfl) rfl rfl) rfl rfl rfl ?_
 refine WDm.known (t := 87) (r := true) rfl (by decide) ?_
 refine WDm.spec (WS.guardT rfl rfl rfl (E.callB (fun g : Nat => .slice (some ⟨g, 0, none⟩) 9 9) (fun g => (g, flat someL, 34)) Try.call120 rfl (fun _ w s => w_some w) rfl)) (fun _ => ext_new rfl) (fun g88 => ?_)
 refine WDm.quiet (QS.guardT rfl rfl rfl (QS.call Try.call54 rfl (fun _ w s => w_logCheck someL _ _ 0 9 w (RL.ofH s (by repeat (first | exact List.Mem.head _ | apply List.Mem.tail)))))) rfl rfl rfl ?_
 refine WDm.quiet (QS.guardT rfl rfl rfl (QS.pure (Y.eql rfl rfl) rfl rfl)) rfl rfl rfl ?_
 refine WDm.quiet (QS.pure (Y.pickT rfl rfl) rfl rfl) rfl rfl rfl ?_
 refine WDm.quiet (QS.pure (Y.move rfl) rfl rfl) rfl rfl rfl ?_
 refine WDm.known (t := 92) (r := true) rfl (by decide) ?_
 refine WDm.quiet (QS.guardT rfl rfl rfl (QS.pure (Y.move rfl) rfl rfl)) rfl rfl rfl ?_
 refine WDm.quiet (QS.guardT rfl rfl rfl (QS.call Try.call54 rfl (fun _ w s => w_logCheck someG _ _ 0 9 w (RL.ofC someG s (by repeat (first | exact List.Mem.head _ | apply List.Mem.tail)) rfl)))) rfl rfl rfl ?_
 refine WDm.quiet (QS.guardT rfl rfl rfl (QS.pure (Y.eql rfl rfl) rfl rfl)) rfl rfl rfl ?_
 refine WDm.quiet (QS.pure (Y.pickT rfl rfl) rfl rfl) rfl rfl rfl ?_
 refine WDm.quiet (QS.pure (Y.move rfl) rfl rfl) rfl rfl rfl ?_
 refine WDm.known (t := 97) (r := true) rfl (by decide) ?_
 refine WDm.quiet (QS.guardT rfl rfl rfl (QS.pure (Y.move rfl) rfl rfl)) rfl rfl rfl ?_
 refine WDm.quiet (QS.guardT rfl rfl rfl (QS.call Try.call54 rfl (fun _ w s => w_logCheck someN _ _ 0 9 w (RL.ofC someN s (by repeat (first | exact List.Mem.head _ | apply List.Mem.tail)) rfl)))) rfl rfl rfl ?_
 refine WDm.quiet (QS.guardT rfl rfl rfl (QS.pure (Y.eql rfl rfl) rfl rfl)) rfl rfl rfl ?_
 refine WDm.quiet (QS.pure (Y.pickT rfl rfl) rfl rfl) rfl rfl rfl ?_
 refine WDm.quiet (QS.pure (Y.move rfl) rfl rfl) rfl rfl rfl ?_
 refine WDm.known (t := 102) (r := true) rfl (by decide) ?_
 refine WDm.spec (WS.guardT rfl rfl rfl (E.callN (fun g : Nat => .slice (some ⟨g, 0, none⟩) 9 9) (fun g => SF.own w.heap.size 34 8 (.slice (some ⟨g, 0, none⟩) 2 9) 2 (flat (someL.take 2))) Try.call120 rfl (fun _ w s => some_own s.low.size (w_some w)) rfl)) (fun _ => ext_newN rfl) (fun g103 => ?_)
 refine WDm.quiet (QS.guardT rfl rfl rfl (QS.pure (Y.slToN 2 rfl Try.underlying39 Try.sizeOf34 rfl rfl (by decide)) rfl rfl)) rfl rfl rfl ?_
 refine WDm.quiet (QS.guardT rfl rfl rfl (QS.call Try.call113 rfl (fun _ w s => w_wr _ _ _ _ _ _ w))) rfl rfl rfl ?_
 refine WDm.spec (WS.guardT rfl rfl rfl (E.buildSlice (bs_39_1 _ _ _ _ _ _ _ _) rfl rfl)) (fun _ => ext_new rfl) (fun b2 => ?_)
 refine WDm.spec (WS.guardT rfl rfl rfl (E.appendG Try.underlying39 hi3 hz30 hz31 hz32 rfl (by decide) rfl rfl rfl m0 rfl rfl (by decide) (by decide) rfl)) (fun _ => sub_push rfl) (fun i => ?_)
 refine WDm.quiet (QS.guardT rfl rfl rfl (QS.call Try.call54 rfl (fun _ w s => w_logCheck someA _ _ 0 _ w (own_RL (l := someA) s.fact.1)))) rfl rfl rfl ?_
 refine WDm.quiet (QS.guardT rfl rfl rfl (QS.pure (Y.eql rfl rfl) rfl rfl)) rfl rfl rfl ?_
 refine WDm.quiet (QS.pure (Y.pickT rfl rfl) rfl rfl) rfl rfl rfl ?_
 refine WDm.quiet (QS.pure (Y.move rfl) rfl rfl) rfl rfl rfl ?_
 refine WDm.known (t := 111) (r := true) rfl (by decide) ?_
 refine WDm.spec (WS.guardT rfl rfl rfl (E.makeSlice rfl rfl ms_39_61 rfl)) (fun _ => ext_new rfl) (fun b61 => ?_)
 refine WDm.quiet (QS.guardT rfl rfl rfl (QS.call Try.call54 rfl (fun _ w s => w_logCheck long _ _ 0 61 w (RL.ofH s (by repeat (first | exact List.Mem.head _ | apply List.Mem.tail)))))) rfl rfl rfl ?_
 refine WDm.quiet (QS.guardT rfl rfl rfl (QS.pure (Y.eql rfl rfl) rfl rfl)) rfl rfl rfl ?_
 refine WDm.quiet (QS.pure (Y.pickT rfl rfl) rfl rfl) rfl rfl rfl ?_
 refine WDm.quiet (QS.pure (Y.move rfl) rfl rfl) rfl rfl rfl ?_
 refine WDm.known (t := 116) (r := true) rfl (by decide) ?_
 refine WDm.quiet (QS.guardT rfl rfl rfl (QS.pure (Y.move rfl) rfl rfl)) rfl rfl rfl ?_
 refine WDm.quiet (QS.guardT rfl rfl rfl (QS.pure (Y.eql rfl rfl) rfl rfl)) rfl rfl rfl ?_
 refine WDm.quiet (QS.pure (Y.pickT rfl rfl) rfl rfl) rfl rfl rfl ?_
 refine WDm.quiet (QS.pure (Y.move rfl) rfl rfl) rfl rfl rfl ?_
 refine WDm.known (t := 120) (r := true) rfl (by decide) ?_
 refine WDm.quiet (QS.guardT rfl rfl rfl (QS.pure (Y.move rfl) rfl rfl)) rfl rfl rfl ?_
 refine WDm.quiet (QS.guardT rfl rfl rfl (QS.pure (Y.eql rfl rfl) rfl rfl)) rfl rfl rfl ?_
 refine WDm.quiet (QS.pure (Y.pickT rfl rfl) rfl rfl) rfl rfl rfl ?_
 refine WDm.quiet (QS.pure (Y.move rfl) rfl rfl) rfl rfl rfl ?_
 refine WDm.known (t := 124) (r := true) rfl (by decide) ?_
 refine WDm.quiet (QS.guardT rfl rfl rfl (QS.pure (Y.move rfl) rfl rfl)) rfl rfl rfl ?_
 refine WDm.quiet (QS.guardT rfl rfl rfl (QS.pure (Y.eql rfl rfl) rfl rfl)) rfl rfl rfl ?_
 refine WDm.quiet (QS.pure (Y.pickT rfl rfl) rfl rfl) rfl rfl rfl ?_
 refine WDm.quiet (QS.pure (Y.move rfl) rfl rfl) rfl rfl rfl ?_
 refine WDm.known (t := 128) (r := true) rfl (by decide) ?_
 refine WDm.quiet (QS.guardT rfl rfl rfl (QS.pure (Y.move rfl) rfl rfl)) rfl rfl rfl ?_
 refine WDm.quiet (QS.guardT rfl rfl rfl (QS.pure (Y.eql rfl rfl) rfl rfl)) rfl rfl rfl ?_
 refine WDm.quiet (QS.pure (Y.pickT rfl rfl) rfl rfl) rfl rfl rfl ?_
 refine WDm.quiet (QS.pure (Y.move rfl) rfl rfl) rfl rfl rfl ?_
 refine WDm.known (t := 132) (r := true) rfl (by decide) ?_
 refine WDm.quiet (QS.guardT rfl rfl rfl (QS.pure (Y.move rfl) rfl rfl)) rfl rfl rfl ?_
 refine WDm.quiet (QS.guardT rfl rfl rfl (QS.pure (Y.eql rfl rfl) rfl rfl)) rfl rfl rfl ?_
 refine WDm.quiet (QS.pure (Y.pickT rfl rfl) rfl rfl) rfl rfl rfl ?_
 refine WDm.quiet (QS.pure (Y.move rfl) rfl rfl) rfl rfl rfl ?_
 refine WDm.known (t := 136) (r := true) rfl (by decide) ?_
 refine WDm.quiet (QS.guardT rfl rfl rfl (QS.pure (Y.move rfl) rfl rfl)) rfl rfl rfl ?_
 refine WDm.quiet (QS.guardT rfl rfl rfl (QS.pure (Y.eql rfl rfl) rfl rfl)) rfl rfl rfl ?_
 refine WDm.quiet (QS.pure (Y.pickT rfl rfl) rfl rfl) rfl rfl rfl ?_
 refine WDm.quiet (QS.pure (Y.move rfl) rfl rfl) rfl rfl rfl ?_
 refine WDm.known (t := 140) (r := true) rfl (by decide) ?_
 refine WDm.quiet (QS.guardT rfl rfl rfl (QS.pure (Y.ixArr Try.underlying42 Try.sizeOf24 rfl rfl (by decide) (by decide)) rfl rfl)) rfl rfl rfl ?_
 refine WDm.quiet (QS.guardT rfl rfl rfl (QS.val (Y.loadAN (cs := (logPages someL).cl) (r := (logPages someL).p0.cl) wd_24 rfl (by repeat (first | exact List.Mem.head _ | apply List.Mem.tail)) rfl) rfl rfl)) rfl rfl rfl ?_
 refine WDm.quiet (QS.guardT rfl rfl rfl (QS.pure (Y.build rfl (bf_22_0_1_2 _ _ _)) rfl rfl)) rfl rfl rfl ?_
 refine WDm.quiet (QS.guardT rfl rfl rfl (QS.pure (Y.build rfl (bf_24_0_1 _ _ _ _)) rfl rfl)) rfl rfl rfl ?_
 refine WDm.quiet (QS.guardT rfl rfl rfl (QS.pure (Y.eqlA Try.eqGuardType24 rfl rfl (weq_page (logPages someL).p0 ⟨8, 0, 0, 9⟩)) rfl rfl)) rfl rfl rfl ?_
 refine WDm.quiet (QS.pure (Y.pickT rfl rfl) rfl rfl) rfl rfl rfl ?_
 refine WDm.quiet (QS.pure (Y.move rfl) rfl rfl) rfl rfl rfl ?_
 refine WDm.known (t := 147) (r := true) rfl (by decide) ?_
 refine WDm.quiet (QS.guardT rfl rfl rfl (QS.pure (Y.ixArr Try.underlying42 Try.sizeOf24 rfl rfl (by decide) (by decide)) rfl rfl)) rfl rfl rfl ?_
 refine WDm.quiet (QS.guardT rfl rfl rfl (QS.val (Y.loadAN (cs := (logPages someL).cl) (r := (logPages someL).p1.cl) wd_24 rfl (by repeat (first | exact List.Mem.head _ | apply List.Mem.tail)) rfl) rfl rfl)) rfl rfl rfl ?_
 refine WDm.quiet (QS.guardT rfl rfl rfl (QS.pure (Y.build rfl (bf_22_0_1_2 _ _ _)) rfl rfl)) rfl rfl rfl ?_
 refine WDm.quiet (QS.guardT rfl rfl rfl (QS.pure (Y.build rfl (bf_24_0_1 _ _ _ _)) rfl rfl)) rfl rfl rfl ?_
 refine WDm.quiet (QS.guardT rfl rfl rfl (QS.pure (Y.eqlA Try.eqGuardType24 rfl rfl (weq_page (logPages someL).p1 ⟨0, 6, 0, 2⟩)) rfl rfl)) rfl rfl rfl ?_
 refine WDm.quiet (QS.pure (Y.pickT rfl rfl) rfl rfl) rfl rfl rfl ?_
 refine WDm.quiet (QS.pure (Y.assign rfl) rfl rfl) rfl rfl rfl ?_
 refine WDm.nil (WQ.and ?_)
 refine WQ.next ?_
 refine WC.ret ?_
 refine WQ.done Try.results53 (RVs.cons (RV.tmp rfl) RVs.nil) (fun a w s => ?_)
 · exact ⟨rfl, s.low⟩
end Go.Proofs.Ytdbcimadjmdffaa
