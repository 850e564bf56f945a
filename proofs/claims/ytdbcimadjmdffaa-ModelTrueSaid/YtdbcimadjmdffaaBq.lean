/- The laws on the model: ModelTells, ModelMore, ModelTrue. No condition. -/
import Derived.Test.YtdbcimadjmdffaaBn
import Derived.Test.YtdbcimadjmdffaaBh
import Derived.Test.YtdbcimadjmdffaaBj
set_option maxRecDepth 100000
set_option linter.unusedVariables false
set_option linter.unusedSimpArgs false
set_option linter.unusedSectionVars false
set_option maxHeartbeats 4000000
namespace Go.Proofs.Ytdbcimadjmdffaa
open Go.RowKit Go.Joins
def one0 : List R := [R.zero]
theorem ms_39_1 (w : World) : (Instr.makeSlice 39 (.int .i64 1) (.int .i64 1)).run Try.prog w = .ok (.slice (some ⟨w.heap.size, 0, none⟩) 1 1) (w.alloc (.cells (flat one0).toArray 34)) := by kernel_rfl
theorem short_max {l : List R} (h : l.length ≤ 60) : l.length ≤ maxLen := by unfold maxLen; omega

theorem w_modelBegun (w : World) : Ret Try.prog 73 [] w (.bool true) := by
 refine enter Try.func73 rfl Try.ntmps73 rfl SF.top trivial ?_
 refine WC.seq ?_
 refine WC.region ?_
 refine WL.pure (Y.assign rfl) rfl rfl rfl ?_
 refine WL.nil ?_
 refine WQ.next ?_
 refine WC.seq ?_
 refine WC.region ?_
 refine WL.eff (E.callB (fun g : Nat => .slice (some ⟨g, 0, none⟩) 9 9) (fun g => (g, flat someL, 34)) Try.call120 rfl (fun _ w s => w_some w) rfl) rfl (fun g8 => ?_)
 refine WL.eff (E.call Try.call68 rfl (fun _ w s => w_cells someL _ _ 0 9 w (short_max (by decide)) (RL.ofH s (by repeat (first | exact List.Mem.head _ | apply List.Mem.tail)))) rfl) rfl (fun _ => ?_)
 refine WL.pure (Y.move rfl) rfl rfl rfl ?_
 refine WL.pure (Y.extract rfl rfl) rfl rfl rfl ?_
 refine WL.pure (Y.extract rfl rfl) rfl rfl rfl ?_
 refine WL.eff (E.alloc Try.zeroValue67 rfl rfl) rfl (fun b1 => ?_)
 refine WL.eff (E.store Try.sizeOf67 rfl rfl rfl rfl rfl u0 rfl rfl) rfl (fun _ => ?_)
 refine WL.pure (Y.assign rfl) rfl rfl rfl ?_
 refine WL.nil ?_
 refine WQ.next ?_
 refine WC.seq ?_
 refine WC.region ?_
 refine WL.eff (E.callB (fun g : Nat => .slice (some ⟨g, 0, none⟩) 9 9) (fun g => (g, flat someL, 34)) Try.call120 rfl (fun _ w s => w_some w) rfl) rfl (fun g13 => ?_)
 refine WL.eff (E.callF (fun i : Option Addr × Nat => .tuple #[.slice i.1 (winsOf someL).length i.2, .int .i64 (logErr someL)]) (fun i => SF.own w.heap.size 3 1 (.slice i.1 (winsOf someL).length i.2) (winsOf someL).length (ints (winsOf someL))) Try.call67 rfl (fun _ w s => (w_wins someL _ _ 0 9 w (RL.ofH s (by repeat (first | exact List.Mem.head _ | apply List.Mem.tail)))).mono fun e w' ⟨i, he, hb, ho⟩ => ⟨i, he, hb, ownsRow_le ho s.low.size, fun g hg => .inl (ho.lt g hg).1⟩) rfl) rfl (fun i => ?_)
 refine WL.pure (Y.move rfl) rfl rfl rfl ?_
 refine WL.pure (Y.extract rfl rfl) rfl rfl rfl ?_
 refine WL.pure (Y.extract rfl rfl) rfl rfl rfl ?_
 refine WL.pure (Y.assign rfl) rfl rfl rfl ?_
 refine WL.pure (Y.assign rfl) rfl rfl rfl ?_
 refine WL.nil ?_
 refine WQ.next ?_
 refine WC.seq ?_
 refine WC.region ?_
 refine WL.eff (E.makeSlice rfl rfl ms_39_1 rfl) rfl (fun b18 => ?_)
 refine WL.eff (E.call Try.call68 rfl (fun _ w s => w_cells one0 _ _ 0 1 w (short_max (by decide)) (RL.ofH s (by repeat (first | exact List.Mem.head _ | apply List.Mem.tail)))) rfl) rfl (fun _ => ?_)
 refine WL.pure (Y.move rfl) rfl rfl rfl ?_
 refine WL.pure (Y.extract rfl rfl) rfl rfl rfl ?_
 refine WL.pure (Y.extract rfl rfl) rfl rfl rfl ?_
 refine WL.eff (E.alloc Try.zeroValue67 rfl rfl) rfl (fun b2 => ?_)
 refine WL.eff (E.store Try.sizeOf67 rfl rfl rfl rfl rfl u0 rfl rfl) rfl (fun _ => ?_)
 refine WL.pure (Y.assign rfl) rfl rfl rfl ?_
 refine WL.nil ?_
 refine WQ.next ?_
 refine WC.seq ?_
 refine WC.region ?_
 refine WL.pure (Y.move rfl) rfl rfl rfl ?_
 refine WL.pure (Y.eql rfl rfl) rfl rfl rfl ?_
 refine WL.pure (Y.move rfl) rfl rfl rfl ?_
 refine WL.known (t := 24) (r := true) rfl (by decide) ?_
 refine WL.guardT rfl rfl rfl ?_
 refine WL.pure (Y.move rfl) rfl rfl rfl ?_
 refine WL.guardT rfl rfl rfl ?_
 refine WL.pure (Y.eql rfl rfl) rfl rfl rfl ?_
 refine WL.pure (Y.pickT rfl rfl) rfl rfl rfl ?_
 refine WL.pure (Y.move rfl) rfl rfl rfl ?_
 refine WL.known (t := 28) (r := true) rfl (by decide) ?_
 refine WL.guardT rfl rfl rfl ?_
 refine WL.pure (Y.move rfl) rfl rfl rfl ?_
 refine WL.guardT rfl rfl rfl ?_
 refine WL.pure (Y.eql rfl rfl) rfl rfl rfl ?_
 refine WL.pure (Y.pickT rfl rfl) rfl rfl rfl ?_
 refine WL.pure (Y.move rfl) rfl rfl rfl ?_
 refine WL.known (t := 32) (r := true) rfl (by decide) ?_
 refine WL.guardT rfl rfl rfl ?_
 refine WL.val (Y.loadAN (cs := (cellsOf someL).cl) (r := (cellsOf someL).cl) wd_67 rfl (by repeat (first | exact List.Mem.head _ | apply List.Mem.tail)) rfl) rfl rfl rfl ?_
 refine WL.guardT rfl rfl rfl ?_
 refine WL.pure (Y.build rfl (bf_22 )) rfl rfl rfl ?_
 refine WL.guardT rfl rfl rfl ?_
 refine WL.pure (Y.build rfl (bf_22_0_1_2 _ _ _)) rfl rfl rfl ?_
 refine WL.guardT rfl rfl rfl ?_
 refine WL.pure (Y.build rfl (bf_22 )) rfl rfl rfl ?_
 refine WL.guardT rfl rfl rfl ?_
 refine WL.pure (Y.build rfl (bf_67_0_1_2 _ _ _ _ _ _ _ _ _)) rfl rfl rfl ?_
 refine WL.guardT rfl rfl rfl ?_
 refine WL.pure (Y.eqlA Try.eqGuardType67 rfl rfl (weq_nine (cellsOf someL) ⟨0, 0, 0, 0, 6, 0, 0, 0, 0⟩)) rfl rfl rfl ?_
 refine WL.pure (Y.pickT rfl rfl) rfl rfl rfl ?_
 refine WL.pure (Y.move rfl) rfl rfl rfl ?_
 refine WL.known (t := 40) (r := true) rfl (by decide) ?_
 refine WL.guardT rfl rfl rfl ?_
 refine WL.pure (Y.move rfl) rfl rfl rfl ?_
 refine WL.guardT rfl rfl rfl ?_
 refine WL.eff (E.buildSlice (bs_64_1 _) rfl rfl) rfl (fun b3 => ?_)
 refine WL.guardT rfl rfl rfl ?_
 refine WL.eff (E.call Try.call74 rfl (fun _ w s => w_sameInts (winsOf someL) [2] i.1 _ (gOf i.1) _ i.2 1 w (by decide) (own_IL rfl s.fact.2) (IL.ofH [2] s (by repeat (first | exact List.Mem.head _ | apply List.Mem.tail)) rfl)) rfl) rfl (fun _ => ?_)
 refine WL.pure (Y.pickT rfl rfl) rfl rfl rfl ?_
 refine WL.pure (Y.assign rfl) rfl rfl rfl ?_
 refine WL.nil ?_
 refine WQ.next ?_
 refine WC.ret ?_
 refine WQ.done Try.results73 (RVs.cons (RV.tmp rfl) RVs.nil) (fun a w s => ?_)
 · refine ⟨?_, s.low⟩
   rfl

theorem w_ModelTells (l : List R) (A : Option Addr) (b o c : Nat) (w : World) (hm : l.length ≤ maxLen) (hcap : l.length ≤ c) (hr : RL w A b o l) : Ret Try.prog 14 [.slice A l.length c] w (.bool true) := by
 refine enter Try.func14 rfl Try.ntmps14 rfl SF.top trivial ?_
 refine WC.seq ?_
 refine WC.region ?_
 refine WL.pure (Y.assign rfl) rfl rfl rfl ?_
 refine WL.nil ?_
 refine WQ.next ?_
 refine WC.seq ?_
 refine WC.region ?_
 refine WL.pure (Y.move rfl) rfl rfl rfl ?_
 refine WL.eff (E.call Try.call68 rfl (fun _ w s => w_cells l A b o c w hm (hr.below s.low)) rfl) rfl (fun _ => ?_)
 refine WL.pure (Y.move rfl) rfl rfl rfl ?_
 refine WL.pure (Y.extract rfl rfl) rfl rfl rfl ?_
 refine WL.pure (Y.extract rfl rfl) rfl rfl rfl ?_
 refine WL.eff (E.alloc Try.zeroValue67 rfl rfl) rfl (fun b1 => ?_)
 refine WL.eff (E.store Try.sizeOf67 rfl rfl rfl rfl rfl u0 rfl rfl) rfl (fun _ => ?_)
 refine WL.pure (Y.assign rfl) rfl rfl rfl ?_
 refine WL.nil ?_
 refine WQ.next ?_
 refine WC.seq ?_
 refine WC.region ?_
 refine WL.pure (Y.move rfl) rfl rfl rfl ?_
 refine WL.eff (E.callF (fun i : Option Addr × Nat => .tuple #[.slice i.1 (winsOf l).length i.2, .int .i64 (logErr l)]) (fun i => SF.own w.heap.size 3 1 (.slice i.1 (winsOf l).length i.2) (winsOf l).length (ints (winsOf l))) Try.call67 rfl (fun _ w s => (w_wins l A b o c w (hr.below s.low)).mono fun e w' ⟨i, he, hb, ho⟩ => ⟨i, he, hb, ownsRow_le ho s.low.size, fun g hg => .inl (ho.lt g hg).1⟩) rfl) rfl (fun i => ?_)
 refine WL.pure (Y.move rfl) rfl rfl rfl ?_
 refine WL.pure (Y.extract rfl rfl) rfl rfl rfl ?_
 refine WL.pure (Y.extract rfl rfl) rfl rfl rfl ?_
 refine WL.pure (Y.assign rfl) rfl rfl rfl ?_
 refine WL.pure (Y.assign rfl) rfl rfl rfl ?_
 refine WL.nil ?_
 refine WQ.next ?_
 refine WC.seq ?_
 refine WC.region ?_
 refine WL.pure (Y.move rfl) rfl rfl rfl ?_
 refine WL.eff (E.call Try.call71 rfl (fun _ w s => w_docCells l A b o c w hm hcap (hr.below s.low)) rfl) rfl (fun _ => ?_)
 refine WL.pure (Y.move rfl) rfl rfl rfl ?_
 refine WL.pure (Y.extract rfl rfl) rfl rfl rfl ?_
 refine WL.pure (Y.extract rfl rfl) rfl rfl rfl ?_
 refine WL.eff (E.alloc Try.zeroValue67 rfl rfl) rfl (fun b2 => ?_)
 refine WL.eff (E.store Try.sizeOf67 rfl rfl rfl rfl rfl u0 rfl rfl) rfl (fun _ => ?_)
 refine WL.pure (Y.assign rfl) rfl rfl rfl ?_
 refine WL.nil ?_
 refine WQ.next ?_
 refine WC.seq ?_
 refine WC.region ?_
 refine WL.pure (Y.move rfl) rfl rfl rfl ?_
 refine WL.eff (E.callF (fun i : Option Addr × Nat => .tuple #[.slice i.1 (winsOf l).length i.2, .int .i64 (logErr l)]) (fun i => SF.own w.heap.size 3 1 (.slice i.1 (winsOf l).length i.2) (winsOf l).length (ints (winsOf l))) Try.call72 rfl (fun _ w s => (w_docWins l A b o c w hm hcap (hr.below s.low)).mono fun e w' ⟨i, he, hb, ho⟩ => ⟨i, he, hb, ownsRow_le ho s.low.size, fun g hg => .inl (ho.lt g hg).1⟩) rfl) rfl (fun j => ?_)
 refine WL.pure (Y.move rfl) rfl rfl rfl ?_
 refine WL.pure (Y.extract rfl rfl) rfl rfl rfl ?_
 refine WL.pure (Y.extract rfl rfl) rfl rfl rfl ?_
 refine WL.pure (Y.assign rfl) rfl rfl rfl ?_
 refine WL.pure (Y.assign rfl) rfl rfl rfl ?_
 refine WL.nil ?_
 refine WQ.next ?_
 refine WC.seq ?_
 have hw60 : (winsOf l).length ≤ 60 := by
   unfold winsOf
   split
   · have := winsL_len l; have := (log_right (by assumption)).1; omega
   · simp
 refine WC.region ?_
 refine WL.eff (E.call Try.call73 rfl (fun _ w s => w_modelBegun w) rfl) rfl (fun _ => ?_)
 refine WL.pure (Y.move rfl) rfl rfl rfl ?_
 refine WL.guardT rfl rfl rfl ?_
 refine WL.val (Y.loadA wd_67 rfl m1 rfl) rfl rfl rfl ?_
 refine WL.guardT rfl rfl rfl ?_
 refine WL.val (Y.loadA wd_67 rfl m0 rfl) rfl rfl rfl ?_
 refine WL.guardT rfl rfl rfl ?_
 refine WL.pure (Y.eqlA Try.eqGuardType67 rfl rfl (weq_nine (cellsOf l) (cellsOf l))) rfl rfl rfl ?_
 refine WL.pure (Y.pickT rfl rfl) rfl rfl rfl ?_
 refine WL.pure (Y.move rfl) rfl rfl rfl ?_
 refine WL.known (t := 37) (r := true) rfl (by simp) ?_
 refine WL.guardT rfl rfl rfl ?_
 refine WL.pure (Y.move rfl) rfl rfl rfl ?_
 refine WL.guardT rfl rfl rfl ?_
 refine WL.pure (Y.move rfl) rfl rfl rfl ?_
 refine WL.guardT rfl rfl rfl ?_
 refine WL.pure (Y.eql rfl rfl) rfl rfl rfl ?_
 refine WL.pure (Y.pickT rfl rfl) rfl rfl rfl ?_
 refine WL.pure (Y.move rfl) rfl rfl rfl ?_
 refine WL.known (t := 42) (r := true) rfl (by simp) ?_
 refine WL.guardT rfl rfl rfl ?_
 refine WL.pure (Y.move rfl) rfl rfl rfl ?_
 refine WL.guardT rfl rfl rfl ?_
 refine WL.pure (Y.move rfl) rfl rfl rfl ?_
 refine WL.guardT rfl rfl rfl ?_
 refine WL.eff (E.call Try.call74 rfl (fun _ w s => w_sameInts (winsOf l) (winsOf l) i.1 j.1 (gOf i.1) (gOf j.1) i.2 j.2 w hw60 (own_IL rfl s.fact.1.2) (own_IL rfl s.fact.2)) rfl) rfl (fun _ => ?_)
 refine WL.pure (Y.pickT rfl rfl) rfl rfl rfl ?_
 refine WL.pure (Y.move rfl) rfl rfl rfl ?_
 refine WL.known (t := 47) (r := true) rfl (by simp) ?_
 refine WL.guardT rfl rfl rfl ?_
 refine WL.pure (Y.move rfl) rfl rfl rfl ?_
 refine WL.guardT rfl rfl rfl ?_
 refine WL.pure (Y.move rfl) rfl rfl rfl ?_
 refine WL.guardT rfl rfl rfl ?_
 refine WL.pure (Y.eql rfl rfl) rfl rfl rfl ?_
 refine WL.pure (Y.pickT rfl rfl) rfl rfl rfl ?_
 refine WL.pure (Y.assign rfl) rfl rfl rfl ?_
 refine WL.nil ?_
 refine WQ.next ?_
 refine WC.ret ?_
 refine WQ.done Try.results14 (RVs.cons (RV.tmp rfl) RVs.nil) (fun a w s => ?_)
 · refine ⟨?_, s.low⟩
   simp [packed]

theorem wins_step {l : List R} {m : Nat} {e : R} (h0 : logErr l = 0) (he : l[m]? = some e) : winsOf (l.take (m + 1)) = winsOf (l.take m) ++ (if e.kind = 2 then [e.txn] else []) := by
  unfold winsOf
  rw [if_pos (take_right h0 _), if_pos (take_right h0 _), wins_take he]
theorem cells_step {l : List R} {m : Nat} {e : R} (h0 : logErr l = 0) (he : l[m]? = some e) (hk : e.kind ≠ 2) : cellsOf (l.take (m + 1)) = cellsOf (l.take m) := by
  have hR := (log_right (take_right h0 (m + 1))).2
  unfold cellsOf
  rw [if_pos (take_right h0 _), if_pos (take_right h0 _)]
  rw [takeS he] at hR ⊢
  exact must_same hR hk

theorem w_ModelMore (l : List R) (A : Option Addr) (b o c : Nat) (k : Int) (w : World) (hm : l.length ≤ maxLen) (hcap : l.length ≤ c) (hr : RL w A b o l) (hk : -9223372036854775808 ≤ k ∧ k ≤ 9223372036854775807) : Ret Try.prog 15 [.slice A l.length c, .int .i64 k] w (.bool true) := by
 have hl63 : (l.length : Int) ≤ 9223372036854775807 := by unfold maxLen at hm; omega
 refine enter Try.func15 rfl Try.ntmps15 rfl SF.top trivial ?_
 refine WC.seq ?_
 refine WC.region ?_
 refine WL.pure (Y.assign rfl) rfl rfl rfl ?_
 refine WL.nil ?_
 refine WQ.next ?_
 refine WC.seq ?_
 refine WC.seq ?_
 refine WC.region ?_
 refine WL.pure (Y.move rfl) rfl rfl rfl ?_
 refine WL.eff (E.call Try.call54 rfl (fun _ w s => w_logCheck l A b o c w (hr.below s.low)) rfl) rfl (fun _ => ?_)
 refine WL.pure (Y.neq rfl rfl) rfl rfl rfl ?_
 refine WL.pure (Y.move rfl) rfl rfl rfl ?_
 refine WL.split (t := 17) rfl (fun r h17 => ?_)
 cases r
 refine WL.guardT rfl rfl rfl ?_
 refine WL.pure (Y.move rfl) rfl rfl rfl ?_
 refine WL.guardT rfl rfl rfl ?_
 refine WL.pure (Y.len Try.underlying39 rfl) rfl rfl rfl ?_
 refine WL.guardT rfl rfl rfl ?_
 refine WL.pure (Y.eql rfl rfl) rfl rfl rfl ?_
 refine WL.pure (Y.pickF rfl rfl) rfl rfl rfl ?_
 refine WL.nil ?_
 refine WQ.next ?_
 refine WC.cond rfl (fun h21 => ?_) (fun h21 => ?_)
 refine WC.seq ?_
 refine WC.region ?_
 refine WL.eff (E.call Try.call73 rfl (fun _ w s => w_modelBegun w) rfl) rfl (fun _ => ?_)
 refine WL.pure (Y.assign rfl) rfl rfl rfl ?_
 refine WL.nil ?_
 refine WQ.next ?_
 refine WC.ret ?_
 refine WQ.thenRet ?_
 refine WQ.done Try.results15 (RVs.cons (RV.tmp rfl) RVs.nil) (fun a w s => ?_)
 · refine ⟨?_, s.low⟩
   first
     | rfl
     | (clear s; simp only [packed]; have h95 := h95; simp at h95; simp [x6, h95])
 refine WC.skip' ?_
 refine WQ.next ?_
 refine WC.seq ?_
 have h0 : logErr l = 0 := by simpa using h17
 obtain ⟨h60, hR⟩ := log_right h0
 have hne : 0 < l.length := by
   have h21 := h21
   simp at h21
   exact List.length_pos_iff.2 h21
 have hch := choose_bnd (c := k) (n := (l.length : Int)) (by omega)
 obtain ⟨m, hmk⟩ := Int.eq_ofNat_of_zero_le hch.1
 have hml : m < l.length := by omega
 obtain ⟨e9, he9⟩ := get_of_lt hml
 have hlm : (m : Int) = ((l.take m).length : Int) := by simp; omega
 have hlm2 : (m : Int) + 1 = ((l.take (m + 1)).length : Int) := by simp; omega
 have x1 : logErr (l.take m) = 0 := take_right h0 m
 have x2 : logErr (l.take (m + 1)) = 0 := take_right h0 (m + 1)
 have x3 := wins_step h0 he9
 have x4 : (winsOf (l.take m)).length ≤ 60 := by unfold winsOf; rw [if_pos x1]; have := winsL_len (l.take m); simp at this; omega
 have x5 : (winsOf (l.take (m + 1))).take (winsOf (l.take m)).length = (winsOf (l.take m)) := by rw [x3, List.take_left]
 have x6 : (winsOf (l.take (m + 1))).length = (winsOf (l.take m)).length + (if e9.kind = 2 then 1 else 0) := by rw [x3, List.length_append]; split <;> rfl
 refine WC.region ?_
 refine WL.pure (Y.move rfl) rfl rfl rfl ?_
 refine WL.pure (Y.move rfl) rfl rfl rfl ?_
 refine WL.pure (Y.len Try.underlying39 rfl) rfl rfl rfl ?_
 refine WL.eff (E.call Try.call60 rfl (fun _ w s => (by have h := w_choose k (l.length : Int) w hk (by omega); rw [hmk] at h; exact h)) rfl) rfl (fun _ => ?_)
 refine WL.pure (Y.assign rfl) rfl rfl rfl ?_
 refine WL.nil ?_
 refine WQ.next ?_
 refine WC.seq ?_
 refine WC.region ?_
 refine WL.pure (Y.move rfl) rfl rfl rfl ?_
 refine WL.pure (Y.move rfl) rfl rfl rfl ?_
 refine WL.pure (Y.slToN (l.take m).length hlm Try.underlying39 Try.sizeOf34 rfl rfl (by simp; omega)) rfl rfl rfl ?_
 refine WL.eff (E.call Try.call68 rfl (fun _ w s => w_cells (l.take m) A b o c w (short_max (by simp; omega)) ((hr.below s.low).take m)) rfl) rfl (fun _ => ?_)
 refine WL.pure (Y.move rfl) rfl rfl rfl ?_
 refine WL.pure (Y.extract rfl rfl) rfl rfl rfl ?_
 refine WL.pure (Y.extract rfl rfl) rfl rfl rfl ?_
 refine WL.eff (E.alloc Try.zeroValue67 rfl rfl) rfl (fun b1 => ?_)
 refine WL.eff (E.store Try.sizeOf67 rfl rfl rfl rfl rfl u0 rfl rfl) rfl (fun _ => ?_)
 refine WL.pure (Y.assign rfl) rfl rfl rfl ?_
 refine WL.nil ?_
 refine WQ.next ?_
 refine WC.seq ?_
 refine WC.region ?_
 refine WL.pure (Y.move rfl) rfl rfl rfl ?_
 refine WL.pure (Y.move rfl) rfl rfl rfl ?_
 refine WL.pure (Y.add rfl rfl (i64_in (by omega) (by omega))) rfl rfl rfl ?_
 refine WL.pure (Y.slToN (l.take (m + 1)).length hlm2 Try.underlying39 Try.sizeOf34 rfl rfl (by simp; omega)) rfl rfl rfl ?_
 refine WL.eff (E.call Try.call68 rfl (fun _ w s => w_cells (l.take (m + 1)) A b o c w (short_max (by simp; omega)) ((hr.below s.low).take (m + 1))) rfl) rfl (fun _ => ?_)
 refine WL.pure (Y.move rfl) rfl rfl rfl ?_
 refine WL.pure (Y.extract rfl rfl) rfl rfl rfl ?_
 refine WL.pure (Y.extract rfl rfl) rfl rfl rfl ?_
 refine WL.eff (E.alloc Try.zeroValue67 rfl rfl) rfl (fun b2 => ?_)
 refine WL.eff (E.store Try.sizeOf67 rfl rfl rfl rfl rfl u0 rfl rfl) rfl (fun _ => ?_)
 refine WL.pure (Y.assign rfl) rfl rfl rfl ?_
 refine WL.nil ?_
 refine WQ.next ?_
 refine WC.seq ?_
 refine WC.region ?_
 refine WL.pure (Y.move rfl) rfl rfl rfl ?_
 refine WL.pure (Y.move rfl) rfl rfl rfl ?_
 refine WL.pure (Y.slToN (l.take m).length hlm Try.underlying39 Try.sizeOf34 rfl rfl (by simp; omega)) rfl rfl rfl ?_
 refine WL.eff (E.callF (fun i : Option Addr × Nat => .tuple #[.slice i.1 (winsOf (l.take m)).length i.2, .int .i64 (logErr (l.take m))]) (fun i => SF.own w.heap.size 3 1 (.slice i.1 (winsOf (l.take m)).length i.2) (winsOf (l.take m)).length (ints (winsOf (l.take m)))) Try.call67 rfl (fun _ w s => (w_wins (l.take m) A b o c w ((hr.below s.low).take m)).mono fun e w' ⟨i, he, hb, ho⟩ => ⟨i, he, hb, ownsRow_le ho s.low.size, fun g hg => .inl (ho.lt g hg).1⟩) rfl) rfl (fun i => ?_)
 refine WL.pure (Y.move rfl) rfl rfl rfl ?_
 refine WL.pure (Y.extract rfl rfl) rfl rfl rfl ?_
 refine WL.pure (Y.extract rfl rfl) rfl rfl rfl ?_
 refine WL.pure (Y.assign rfl) rfl rfl rfl ?_
 refine WL.pure (Y.assign rfl) rfl rfl rfl ?_
 refine WL.nil ?_
 refine WQ.next ?_
 refine WC.seq ?_
 refine WC.region ?_
 refine WL.pure (Y.move rfl) rfl rfl rfl ?_
 refine WL.pure (Y.move rfl) rfl rfl rfl ?_
 refine WL.pure (Y.add rfl rfl (i64_in (by omega) (by omega))) rfl rfl rfl ?_
 refine WL.pure (Y.slToN (l.take (m + 1)).length hlm2 Try.underlying39 Try.sizeOf34 rfl rfl (by simp; omega)) rfl rfl rfl ?_
 refine WL.eff (E.callF (fun i : Option Addr × Nat => .tuple #[.slice i.1 (winsOf (l.take (m + 1))).length i.2, .int .i64 (logErr (l.take (m + 1)))]) (fun i => SF.own w.heap.size 3 1 (.slice i.1 (winsOf (l.take (m + 1))).length i.2) (winsOf (l.take (m + 1))).length (ints (winsOf (l.take (m + 1))))) Try.call67 rfl (fun _ w s => (w_wins (l.take (m + 1)) A b o c w ((hr.below s.low).take (m + 1))).mono fun e w' ⟨i, he, hb, ho⟩ => ⟨i, he, hb, ownsRow_le ho s.low.size, fun g hg => .inl (ho.lt g hg).1⟩) rfl) rfl (fun j => ?_)
 refine WL.pure (Y.move rfl) rfl rfl rfl ?_
 refine WL.pure (Y.extract rfl rfl) rfl rfl rfl ?_
 refine WL.pure (Y.extract rfl rfl) rfl rfl rfl ?_
 refine WL.pure (Y.assign rfl) rfl rfl rfl ?_
 refine WL.pure (Y.assign rfl) rfl rfl rfl ?_
 refine WL.nil ?_
 refine WQ.next ?_
 refine WC.seq ?_
 refine WC.seq ?_
 refine WC.know (p := (winsOf (l.take (m + 1))).length ≤ j.2) (fun a w s => own_le s.fact.2) (fun hcj => ?_)
 refine WC.region ?_
 refine WL.pure (Y.move rfl) rfl rfl rfl ?_
 refine WL.pure (Y.neq rfl rfl) rfl rfl rfl ?_
 refine WL.pure (Y.move rfl) rfl rfl rfl ?_
 refine WL.known (t := 59) (r := false) rfl (by rw [x1]; rfl) ?_
 refine WL.guardT rfl rfl rfl ?_
 refine WL.pure (Y.move rfl) rfl rfl rfl ?_
 refine WL.guardT rfl rfl rfl ?_
 refine WL.pure (Y.neq rfl rfl) rfl rfl rfl ?_
 refine WL.pure (Y.pickF rfl rfl) rfl rfl rfl ?_
 refine WL.pure (Y.move rfl) rfl rfl rfl ?_
 refine WL.known (t := 63) (r := false) rfl (by rw [x2]; rfl) ?_
 refine WL.guardT rfl rfl rfl ?_
 refine WL.pure (Y.move rfl) rfl rfl rfl ?_
 refine WL.guardT rfl rfl rfl ?_
 refine WL.pure (Y.neq rfl rfl) rfl rfl rfl ?_
 refine WL.pure (Y.pickF rfl rfl) rfl rfl rfl ?_
 refine WL.pure (Y.move rfl) rfl rfl rfl ?_
 refine WL.known (t := 67) (r := false) rfl (by rw [x1]; rfl) ?_
 refine WL.guardT rfl rfl rfl ?_
 refine WL.pure (Y.move rfl) rfl rfl rfl ?_
 refine WL.guardT rfl rfl rfl ?_
 refine WL.pure (Y.neq rfl rfl) rfl rfl rfl ?_
 refine WL.pure (Y.pickF rfl rfl) rfl rfl rfl ?_
 refine WL.pure (Y.move rfl) rfl rfl rfl ?_
 refine WL.known (t := 71) (r := false) rfl (by rw [x2]; rfl) ?_
 refine WL.guardT rfl rfl rfl ?_
 refine WL.pure (Y.move rfl) rfl rfl rfl ?_
 refine WL.guardT rfl rfl rfl ?_
 refine WL.pure (Y.len Try.underlying64 rfl) rfl rfl rfl ?_
 refine WL.guardT rfl rfl rfl ?_
 refine WL.pure (Y.move rfl) rfl rfl rfl ?_
 refine WL.guardT rfl rfl rfl ?_
 refine WL.pure (Y.len Try.underlying64 rfl) rfl rfl rfl ?_
 refine WL.guardT rfl rfl rfl ?_
 refine WL.pure (Y.lss rfl rfl) rfl rfl rfl ?_
 refine WL.pure (Y.pickF rfl rfl) rfl rfl rfl ?_
 refine WL.pure (Y.move rfl) rfl rfl rfl ?_
 refine WL.known (t := 78) (r := false) rfl (by rw [x6]; simp; omega) ?_
 refine WL.guardT rfl rfl rfl ?_
 refine WL.pure (Y.move rfl) rfl rfl rfl ?_
 refine WL.guardT rfl rfl rfl ?_
 refine WL.pure (Y.move rfl) rfl rfl rfl ?_
 refine WL.guardT rfl rfl rfl ?_
 refine WL.pure (Y.len Try.underlying64 rfl) rfl rfl rfl ?_
 refine WL.guardT rfl rfl rfl ?_
 refine WL.pure (Y.slToN (winsOf (l.take m)).length rfl Try.underlying64 Try.sizeOf3 rfl rfl (by rw [x6] at hcj; omega)) rfl rfl rfl ?_
 refine WL.guardT rfl rfl rfl ?_
 refine WL.pure (Y.move rfl) rfl rfl rfl ?_
 refine WL.guardT rfl rfl rfl ?_
 refine WL.eff (E.call Try.call74 rfl (fun _ w s => (by have h := w_sameInts ((winsOf (l.take (m + 1))).take (winsOf (l.take m)).length) (winsOf (l.take m)) j.1 i.1 (gOf j.1) (gOf i.1) j.2 i.2 w (by rw [x5]; exact x4) ((own_IL rfl s.fact.2).take _) (own_IL rfl s.fact.1.2); rw [x5] at h; exact h)) rfl) rfl (fun _ => ?_)
 refine WL.guardT rfl rfl rfl ?_
 refine WL.pure (Y.not rfl) rfl rfl rfl ?_
 refine WL.pure (Y.pickF rfl rfl) rfl rfl rfl ?_
 refine WL.nil ?_
 refine WQ.next ?_
 refine WC.isF rfl (by simp) ?_
 refine WC.skip' ?_
 refine WQ.next ?_
 refine WC.seq ?_
 refine WC.region ?_
 refine WL.eff (E.call Try.call73 rfl (fun _ w s => w_modelBegun w) rfl) rfl (fun _ => ?_)
 refine WL.pure (Y.move rfl) rfl rfl rfl ?_
 refine WL.guardT rfl rfl rfl ?_
 refine WL.pure (Y.move rfl) rfl rfl rfl ?_
 refine WL.guardT rfl rfl rfl ?_
 refine WL.pure (Y.move rfl) rfl rfl rfl ?_
 refine WL.guardT rfl rfl rfl ?_
 refine WL.pure (Y.ixSlA Try.underlying39 Try.sizeOf34 rfl rfl (hr.addr he9) (nat0 _) (get_ltI he9)) rfl rfl rfl ?_
 refine WL.guardT rfl rfl rfl ?_
 refine WL.pure (Y.fieldAddr fa_34_0 rfl) rfl rfl rfl ?_
 refine WL.guardT rfl rfl rfl ?_
 refine WL.val (Y.loadc fl_3 rfl (fun a w s => (hr.below s.low).cell _ _ he9 0 _ rfl)) rfl rfl rfl ?_
 refine WL.guardT rfl rfl rfl ?_
 refine WL.pure (Y.eql rfl rfl) rfl rfl rfl ?_
 refine WL.guardT rfl rfl rfl ?_
 refine WL.pure (Y.move rfl) rfl rfl rfl ?_
 refine WL.split (t := 95) rfl (fun r h95 => ?_)
 cases r
 refine WL.guardT rfl rfl rfl ?_
 refine WL.val (Y.loadA wd_67 rfl m1 rfl) rfl rfl rfl ?_
 refine WL.guardT rfl rfl rfl ?_
 refine WL.val (Y.loadA wd_67 rfl m0 rfl) rfl rfl rfl ?_
 refine WL.guardT rfl rfl rfl ?_
 refine WL.pure (Y.eqlA Try.eqGuardType67 rfl rfl (weq_nine (cellsOf (l.take m)) (cellsOf (l.take (m + 1))))) rfl rfl rfl ?_
 refine WL.guardT rfl rfl rfl ?_
 refine WL.pure (Y.move rfl) rfl rfl rfl ?_
 refine WL.known (t := 99) (r := true) rfl (by rw [cells_step h0 he9 (by simpa using h95)]; simp) ?_
 refine WL.guardT rfl rfl rfl ?_
 refine WL.pure (Y.move rfl) rfl rfl rfl ?_
 refine WL.guardT rfl rfl rfl ?_
 refine WL.pure (Y.len Try.underlying64 rfl) rfl rfl rfl ?_
 refine WL.guardT rfl rfl rfl ?_
 refine WL.pure (Y.move rfl) rfl rfl rfl ?_
 refine WL.guardT rfl rfl rfl ?_
 refine WL.pure (Y.len Try.underlying64 rfl) rfl rfl rfl ?_
 refine WL.guardT rfl rfl rfl ?_
 refine WL.pure (Y.eql rfl rfl) rfl rfl rfl ?_
 refine WL.guardT rfl rfl rfl ?_
 refine WL.pure (Y.pickT rfl rfl) rfl rfl rfl ?_
 refine WL.guardT rfl rfl rfl ?_
 refine WL.pure (Y.pickF rfl rfl) rfl rfl rfl ?_
 refine WL.pure (Y.pickT rfl rfl) rfl rfl rfl ?_
 refine WL.pure (Y.move rfl) rfl rfl rfl ?_
 refine WL.known (t := 108) (r := true) rfl (by rw [x6, if_neg (by simpa using h95)]; simp) ?_
 refine WL.guardT rfl rfl rfl ?_
 refine WL.pure (Y.move rfl) rfl rfl rfl ?_
 refine WL.guardT rfl rfl rfl ?_
 refine WL.pure (Y.move rfl) rfl rfl rfl ?_
 refine WL.guardT rfl rfl rfl ?_
 refine WL.pure (Y.ixSlA Try.underlying39 Try.sizeOf34 rfl rfl (hr.addr he9) (nat0 _) (get_ltI he9)) rfl rfl rfl ?_
 refine WL.guardT rfl rfl rfl ?_
 refine WL.pure (Y.fieldAddr fa_34_0 rfl) rfl rfl rfl ?_
 refine WL.guardT rfl rfl rfl ?_
 refine WL.val (Y.loadc fl_3 rfl (fun a w s => (hr.below s.low).cell _ _ he9 0 _ rfl)) rfl rfl rfl ?_
 refine WL.guardT rfl rfl rfl ?_
 refine WL.pure (Y.neq rfl rfl) rfl rfl rfl ?_
 refine WL.guardT rfl rfl rfl ?_
 refine WL.pure (Y.move rfl) rfl rfl rfl ?_
 refine WL.known (t := 115) (r := true) rfl (by have h95 := h95; simpa using h95) ?_
 refine WL.guardF rfl rfl rfl rfl rfl rfl ?_
 refine WL.guardF rfl rfl rfl rfl rfl rfl ?_
 refine WL.guardF rfl rfl rfl rfl rfl rfl ?_
 refine WL.guardF rfl rfl rfl rfl rfl rfl ?_
 refine WL.guardF rfl rfl rfl rfl rfl rfl ?_
 refine WL.guardF rfl rfl rfl rfl rfl rfl ?_
 refine WL.guardT rfl rfl rfl ?_
 refine WL.pure (Y.pickT rfl rfl) rfl rfl rfl ?_
 refine WL.pure (Y.pickT rfl rfl) rfl rfl rfl ?_
 refine WL.pure (Y.assign rfl) rfl rfl rfl ?_
 refine WL.nil ?_
 refine WQ.next ?_
 refine WC.ret ?_
 refine WQ.done Try.results15 (RVs.cons (RV.tmp rfl) RVs.nil) (fun a w s => ?_)
 · refine ⟨?_, s.low⟩
   first
     | rfl
     | (clear s; simp only [packed]; have h95 := h95; simp at h95; simp [x6, h95])
 refine WL.guardF rfl rfl rfl rfl rfl rfl ?_
 refine WL.guardF rfl rfl rfl rfl rfl rfl ?_
 refine WL.guardF rfl rfl rfl rfl rfl rfl ?_
 refine WL.guardF rfl rfl rfl rfl rfl rfl ?_
 refine WL.guardU rfl rfl rfl rfl rfl ?_
 refine WL.guardU rfl rfl rfl rfl rfl ?_
 refine WL.guardU rfl rfl rfl rfl rfl ?_
 refine WL.guardU rfl rfl rfl rfl rfl ?_
 refine WL.guardU rfl rfl rfl rfl rfl ?_
 refine WL.guardF rfl rfl rfl rfl rfl rfl ?_
 refine WL.guardT rfl rfl rfl ?_
 refine WL.pure (Y.pickT rfl rfl) rfl rfl rfl ?_
 refine WL.pure (Y.pickT rfl rfl) rfl rfl rfl ?_
 refine WL.pure (Y.move rfl) rfl rfl rfl ?_
 refine WL.guardT rfl rfl rfl ?_
 refine WL.pure (Y.move rfl) rfl rfl rfl ?_
 refine WL.guardT rfl rfl rfl ?_
 refine WL.pure (Y.move rfl) rfl rfl rfl ?_
 refine WL.guardT rfl rfl rfl ?_
 refine WL.pure (Y.ixSlA Try.underlying39 Try.sizeOf34 rfl rfl (hr.addr he9) (nat0 _) (get_ltI he9)) rfl rfl rfl ?_
 refine WL.guardT rfl rfl rfl ?_
 refine WL.pure (Y.fieldAddr fa_34_0 rfl) rfl rfl rfl ?_
 refine WL.guardT rfl rfl rfl ?_
 refine WL.val (Y.loadc fl_3 rfl (fun a w s => (hr.below s.low).cell _ _ he9 0 _ rfl)) rfl rfl rfl ?_
 refine WL.guardT rfl rfl rfl ?_
 refine WL.pure (Y.neq rfl rfl) rfl rfl rfl ?_
 refine WL.guardT rfl rfl rfl ?_
 refine WL.pure (Y.move rfl) rfl rfl rfl ?_
 refine WL.known (t := 115) (r := false) rfl (by have h95 := h95; simpa using h95) ?_
 refine WL.guardT rfl rfl rfl ?_
 refine WL.pure (Y.move rfl) rfl rfl rfl ?_
 refine WL.guardT rfl rfl rfl ?_
 refine WL.pure (Y.len Try.underlying64 rfl) rfl rfl rfl ?_
 refine WL.guardT rfl rfl rfl ?_
 refine WL.pure (Y.move rfl) rfl rfl rfl ?_
 refine WL.guardT rfl rfl rfl ?_
 refine WL.pure (Y.len Try.underlying64 rfl) rfl rfl rfl ?_
 refine WL.guardT rfl rfl rfl ?_
 refine WL.pure (Y.add rfl rfl (i64_in (by omega) (by omega))) rfl rfl rfl ?_
 refine WL.guardT rfl rfl rfl ?_
 refine WL.pure (Y.eql rfl rfl) rfl rfl rfl ?_
 refine WL.guardT rfl rfl rfl ?_
 refine WL.pure (Y.pickF rfl rfl) rfl rfl rfl ?_
 refine WL.pure (Y.pickT rfl rfl) rfl rfl rfl ?_
 refine WL.pure (Y.assign rfl) rfl rfl rfl ?_
 refine WL.nil ?_
 refine WQ.next ?_
 refine WC.ret ?_
 refine WQ.done Try.results15 (RVs.cons (RV.tmp rfl) RVs.nil) (fun a w s => ?_)
 · refine ⟨?_, s.low⟩
   first
     | rfl
     | (clear s; simp only [packed]; have h95 := h95; simp at h95; simp [x6, h95])
 refine WL.guardF rfl rfl rfl rfl rfl rfl ?_
 refine WL.guardF rfl rfl rfl rfl rfl rfl ?_
 refine WL.guardF rfl rfl rfl rfl rfl rfl ?_
 refine WL.pure (Y.pickT rfl rfl) rfl rfl rfl ?_
 refine WL.nil ?_
 refine WQ.next ?_
 refine WC.condT rfl ?_
 refine WC.seq ?_
 refine WC.region ?_
 refine WL.eff (E.call Try.call73 rfl (fun _ w s => w_modelBegun w) rfl) rfl (fun _ => ?_)
 refine WL.pure (Y.assign rfl) rfl rfl rfl ?_
 refine WL.nil ?_
 refine WQ.next ?_
 refine WC.ret ?_
 refine WQ.thenRet ?_
 refine WQ.done Try.results15 (RVs.cons (RV.tmp rfl) RVs.nil) (fun a w s => ?_)
 · refine ⟨?_, s.low⟩
   first
     | rfl
     | (clear s; simp only [packed]; have h95 := h95; simp at h95; simp [x6, h95])

def P3.row (p : P3) (i : Int) : List Value := [.int .i64 (p.get i).c0, .int .i64 (p.get i).c1, .int .i64 (p.get i).c2]
theorem p3_row (p : P3) (i : Int) (hi : 0 ≤ i ∧ i ≤ 2) : seg p.cl (0 + i.toNat * 4 + 0) 3 = some (p.row i) := by
  have h1 : i = 0 ∨ i = 1 ∨ i = 2 := by omega
  rcases h1 with rfl | rfl | rfl <;> rfl
def C9.row (x : C9) (i : Int) : List Value := [.int .i64 (x.at i 0), .int .i64 (x.at i 1), .int .i64 (x.at i 2)]
theorem c9_row (x : C9) (i : Int) (hi : 0 ≤ i ∧ i ≤ 2) : seg x.cl (0 + i.toNat * 3) 3 = some (x.row i) := by
  have h1 : i = 0 ∨ i = 1 ∨ i = 2 := by omega
  rcases h1 with rfl | rfl | rfl <;> rfl
theorem cells9_row (p : P3) (i : Int) (hi : 0 ≤ i ∧ i ≤ 2) : (p.get i).c0 = p.cells9.at i 0 ∧ (p.get i).c1 = p.cells9.at i 1 ∧ (p.get i).c2 = p.cells9.at i 2 := by
  have h1 : i = 0 ∨ i = 1 ∨ i = 2 := by omega
  rcases h1 with rfl | rfl | rfl <;> exact ⟨rfl, rfl, rfl⟩

theorem w_ModelTrue (l : List R) (A : Option Addr) (b o c : Nat) (w : World) (hm : l.length ≤ maxLen) (hcap : l.length ≤ c) (hr : RL w A b o l) : Ret Try.prog 17 [.slice A l.length c] w (.bool true) := by
 refine enter Try.func17 rfl Try.ntmps17 rfl SF.top trivial ?_
 refine WC.seq ?_
 refine WC.region ?_
 refine WL.pure (Y.assign rfl) rfl rfl rfl ?_
 refine WL.nil ?_
 refine WQ.next ?_
 refine WC.seq ?_
 refine WC.region ?_
 refine WL.pure (Y.move rfl) rfl rfl rfl ?_
 refine WL.eff (E.call Try.call56 rfl (fun _ w s => w_logPages l A b o c w (hr.below s.low)) rfl) rfl (fun _ => ?_)
 refine WL.pure (Y.move rfl) rfl rfl rfl ?_
 refine WL.pure (Y.extract rfl rfl) rfl rfl rfl ?_
 refine WL.pure (Y.extract rfl rfl) rfl rfl rfl ?_
 refine WL.eff (E.alloc Try.zeroValue42 rfl rfl) rfl (fun b1 => ?_)
 refine WL.eff (E.store Try.sizeOf42 rfl rfl rfl rfl rfl u0 rfl rfl) rfl (fun _ => ?_)
 refine WL.pure (Y.assign rfl) rfl rfl rfl ?_
 refine WL.nil ?_
 refine WQ.next ?_
 refine WC.seq ?_
 refine WC.region ?_
 refine WL.pure (Y.move rfl) rfl rfl rfl ?_
 refine WL.eff (E.call Try.call68 rfl (fun _ w s => w_cells l A b o c w hm (hr.below s.low)) rfl) rfl (fun _ => ?_)
 refine WL.pure (Y.move rfl) rfl rfl rfl ?_
 refine WL.pure (Y.extract rfl rfl) rfl rfl rfl ?_
 refine WL.pure (Y.extract rfl rfl) rfl rfl rfl ?_
 refine WL.eff (E.alloc Try.zeroValue67 rfl rfl) rfl (fun b2 => ?_)
 refine WL.eff (E.store Try.sizeOf67 rfl rfl rfl rfl rfl u0 rfl rfl) rfl (fun _ => ?_)
 refine WL.pure (Y.assign rfl) rfl rfl rfl ?_
 refine WL.nil ?_
 refine WQ.next ?_
 refine WC.seq ?_
 refine WC.seq ?_
 refine WC.region ?_
 refine WL.pure (Y.move rfl) rfl rfl rfl ?_
 refine WL.pure (Y.neq rfl rfl) rfl rfl rfl ?_
 refine WL.pure (Y.move rfl) rfl rfl rfl ?_
 refine WL.split (t := 24) rfl (fun r h24 => ?_)
 cases r
 refine WL.guardT rfl rfl rfl ?_
 refine WL.pure (Y.move rfl) rfl rfl rfl ?_
 refine WL.guardT rfl rfl rfl ?_
 refine WL.pure (Y.neq rfl rfl) rfl rfl rfl ?_
 refine WL.pure (Y.pickF rfl rfl) rfl rfl rfl ?_
 refine WL.nil ?_
 refine WQ.next ?_
 refine WC.cond rfl (fun h27 => ?_) (fun h27 => ?_)
 refine WC.seq ?_
 refine WC.region ?_
 refine WL.eff (E.call Try.call73 rfl (fun _ w s => w_modelBegun w) rfl) rfl (fun _ => ?_)
 refine WL.pure (Y.move rfl) rfl rfl rfl ?_
 refine WL.guardT rfl rfl rfl ?_
 refine WL.pure (Y.move rfl) rfl rfl rfl ?_
 refine WL.guardT rfl rfl rfl ?_
 refine WL.pure (Y.move rfl) rfl rfl rfl ?_
 refine WL.guardT rfl rfl rfl ?_
 refine WL.pure (Y.eql rfl rfl) rfl rfl rfl ?_
 refine WL.pure (Y.pickT rfl rfl) rfl rfl rfl ?_
 refine WL.pure (Y.assign rfl) rfl rfl rfl ?_
 refine WL.nil ?_
 refine WQ.next ?_
 refine WC.ret ?_
 refine WQ.thenRet ?_
 refine WQ.done Try.results17 (RVs.cons (RV.tmp rfl) RVs.nil) (fun a w s => ?_)
 · refine ⟨?_, s.low⟩
   first
     | rfl
     | (clear s; simp only [packed]; simp_all)
 refine WC.skip' ?_
 refine WQ.next ?_
 refine WC.seq ?_
 refine WC.seq ?_
 refine WC.region ?_
 refine WL.pure (Y.assign rfl) rfl rfl rfl ?_
 refine WL.nil ?_
 refine WQ.next ?_
 refine WC.block ?_
 have h0 : logErr l = 0 := by
   rcases (inferInstance : Decidable (logErr l = 0)) with h | h
   · exfalso; simp_all
   · exact h
 obtain ⟨h60, hR⟩ := log_right h0
 refine WC.loop (ι := Int) (fun t => [(0, .slice A l.length c), (3, .pointer (some ⟨b1, 0, none⟩)), (5, .pointer (some ⟨b2, 0, none⟩)), (7, .int .i64 t)]) (fun _ => [(b2, (cellsOf l).cl, 67), (b1, (logPages l).cl, 42)]) (fun _ => SF.top) (fun t => (1 ≤ t ∧ t ≤ 10) ∧ ∀ u, 1 ≤ u → u < t → ¬ hangs l.reverse u) (fun t => (10 - t).toNat) 1 ⟨by omega, fun u h1 h2 => absurd h2 (by omega)⟩ (fun a w s => s.weak (by repeat (first | exact sub_nil _ | refine sub_cons rfl ?_))) (fun t ht => ?_)
 obtain ⟨ht, hh⟩ := ht
 refine WC.seq ?_
 refine WC.seq ?_
 refine WC.region ?_
 refine WL.pure (Y.move rfl) rfl rfl rfl ?_
 refine WL.pure (Y.leq rfl rfl) rfl rfl rfl ?_
 refine WL.nil ?_
 refine WQ.next ?_
 refine WC.cond rfl (fun h35 => ?_) (fun h35 => ?_)
 refine WC.skip' ?_
 refine WQ.next ?_
 refine WC.seq ?_
 refine WC.block ?_
 refine WC.seq ?_
 have ht9 : 1 ≤ t ∧ t ≤ 9 := by simp at h35; omega
 have e1 := logState_ok h0 ht9
 refine WC.region ?_
 refine WL.pure (Y.move rfl) rfl rfl rfl ?_
 refine WL.pure (Y.move rfl) rfl rfl rfl ?_
 refine WL.eff (E.call Try.call58 rfl (fun _ w s => w_logState l A b o c t w (hr.below s.low)) rfl) rfl (fun _ => ?_)
 refine WL.pure (Y.move rfl) rfl rfl rfl ?_
 refine WL.pure (Y.extract rfl rfl) rfl rfl rfl ?_
 refine WL.pure (Y.extract rfl rfl) rfl rfl rfl ?_
 refine WL.pure (Y.extract rfl rfl) rfl rfl rfl ?_
 refine WL.pure (Y.assign rfl) rfl rfl rfl ?_
 refine WL.pure (Y.assign rfl) rfl rfl rfl ?_
 refine WL.pure (Y.assign rfl) rfl rfl rfl ?_
 refine WL.nil ?_
 refine WQ.next ?_
 refine WC.seq ?_
 refine WC.seq ?_
 refine WC.region ?_
 refine WL.pure (Y.move rfl) rfl rfl rfl ?_
 refine WL.pure (Y.neq rfl rfl) rfl rfl rfl ?_
 refine WL.nil ?_
 refine WQ.next ?_
 refine WC.isF rfl (by rw [e1]; rfl) ?_
 refine WC.skip' ?_
 refine WQ.next ?_
 refine WC.seq ?_
 refine WC.region ?_
 refine WL.pure (Y.move rfl) rfl rfl rfl ?_
 refine WL.pure (Y.eql rfl rfl) rfl rfl rfl ?_
 refine WL.pure (Y.move rfl) rfl rfl rfl ?_
 refine WL.split (t := 49) rfl (fun r h49 => ?_)
 cases r
 refine WL.guardT rfl rfl rfl ?_
 refine WL.pure (Y.move rfl) rfl rfl rfl ?_
 refine WL.guardT rfl rfl rfl ?_
 refine WL.pure (Y.eql rfl rfl) rfl rfl rfl ?_
 refine WL.pure (Y.pickF rfl rfl) rfl rfl rfl ?_
 refine WL.nil ?_
 refine WQ.next ?_
 refine WC.cond rfl (fun h52 => ?_) (fun h52 => ?_)
 refine WC.seq ?_
 refine WC.region ?_
 refine WL.eff (E.call Try.call73 rfl (fun _ w s => w_modelBegun w) rfl) rfl (fun _ => ?_)
 refine WL.pure (Y.assign rfl) rfl rfl rfl ?_
 refine WL.nil ?_
 refine WQ.next ?_
 refine WC.ret ?_
 refine WQ.blockRet ?_
 refine WQ.thenRet ?_
 refine WQ.thenRet ?_
 refine WQ.blockRet ?_
 refine WQ.thenRet ?_
 refine WQ.done Try.results17 (RVs.cons (RV.tmp rfl) RVs.nil) (fun a w s => ?_)
 · refine ⟨?_, s.low⟩
   first
     | rfl
     | (clear s; simp only [packed]; simp_all)
 refine WC.skip' ?_
 refine WQ.blockEnd ?_
 refine WQ.next ?_
 refine WC.region ?_
 refine WL.pure (Y.move rfl) rfl rfl rfl ?_
 refine WL.pure (Y.add rfl rfl (i64_in (by omega) (by omega))) rfl rfl rfl ?_
 refine WL.pure (Y.assign rfl) rfl rfl rfl ?_
 refine WL.nil ?_
 · refine fun a w s => ⟨t + 1, ⟨by omega, fun u h1 h2 => ?_⟩, by omega, s.weak (by repeat (first | exact sub_nil _ | refine sub_cons rfl ?_))⟩
   by_cases e : u = t
   · subst e
     rw [e1] at h49 h52
     simp at h49 h52
     intro hx
     rcases hx with hx | hx
     · exact h49 (by rw [hx]; rfl)
     · exact h52 (by rw [hx]; rfl)
   · exact hh u h1 (by omega)
 refine WL.guardF rfl rfl rfl rfl rfl rfl ?_
 refine WL.guardF rfl rfl rfl rfl rfl rfl ?_
 refine WL.pure (Y.pickT rfl rfl) rfl rfl rfl ?_
 refine WL.nil ?_
 refine WQ.next ?_
 refine WC.condT rfl ?_
 refine WC.seq ?_
 refine WC.region ?_
 refine WL.eff (E.call Try.call73 rfl (fun _ w s => w_modelBegun w) rfl) rfl (fun _ => ?_)
 refine WL.pure (Y.assign rfl) rfl rfl rfl ?_
 refine WL.nil ?_
 refine WQ.next ?_
 refine WC.ret ?_
 refine WQ.blockRet ?_
 refine WQ.thenRet ?_
 refine WQ.thenRet ?_
 refine WQ.blockRet ?_
 refine WQ.thenRet ?_
 refine WQ.done Try.results17 (RVs.cons (RV.tmp rfl) RVs.nil) (fun a w s => ?_)
 · refine ⟨?_, s.low⟩
   first
     | rfl
     | (clear s; simp only [packed]; simp_all)
 refine WC.exit ?_
 refine WQ.thenExit ?_
 refine WQ.thenExit ?_
 refine WQ.blockExit ?_
 refine WQ.next ?_
 refine WC.seq ?_
 refine WC.seq ?_
 have hx35 : t = 10 := by simp at h35; omega
 subst hx35
 have hmt := model_true hR (fun u hu => hh u hu.1 (by omega))
 refine WC.region ?_
 refine WL.pure (Y.assign rfl) rfl rfl rfl ?_
 refine WL.nil ?_
 refine WQ.next ?_
 refine WC.block ?_
 refine WC.loop (ι := Int) (fun t => [(0, .slice A l.length c), (3, .pointer (some ⟨b1, 0, none⟩)), (5, .pointer (some ⟨b2, 0, none⟩)), (11, .int .i64 t)]) (fun _ => [(b2, (cellsOf l).cl, 67), (b1, (logPages l).cl, 42)]) (fun _ => SF.top) (fun t => 0 ≤ t ∧ t ≤ 3) (fun t => (3 - t).toNat) 0 (by omega) (fun a w s => s.weak (by repeat (first | exact sub_nil _ | refine sub_cons rfl ?_))) (fun p hp => ?_)
 refine WC.seq ?_
 refine WC.seq ?_
 refine WC.region ?_
 refine WL.pure (Y.move rfl) rfl rfl rfl ?_
 refine WL.pure (Y.lss rfl rfl) rfl rfl rfl ?_
 refine WL.nil ?_
 refine WQ.next ?_
 refine WC.cond rfl (fun h55 => ?_) (fun h55 => ?_)
 refine WC.skip' ?_
 refine WQ.next ?_
 refine WC.seq ?_
 refine WC.block ?_
 refine WC.seq ?_
 have hp2 : 0 ≤ p ∧ p ≤ 2 := by simp at h55; omega
 refine WC.draw [(0, .q false), (1, .q false), (2, .q false), (3, .q true), (4, .q false), (5, .q false), (6, .q true), (7, .q false)] mixed (by kernel_rfl) ?_
 refine WDm.quiet (QS.pure (Y.move rfl) rfl rfl) rfl rfl rfl ?_
 refine WDm.quiet (QS.pure (Y.ixArr Try.underlying42 Try.sizeOf24 rfl rfl hp2.1 (by omega)) rfl rfl) rfl rfl rfl ?_
 refine WDm.quiet (QS.pure (Y.fieldAddr fa_24_0 rfl) rfl rfl) rfl rfl rfl ?_
 refine WDm.quiet (QS.val (Y.loadAN wd_22 rfl m1 (p3_row (logPages l) p hp2)) rfl rfl) rfl rfl rfl ?_
 refine WDm.quiet (QS.pure (Y.move rfl) rfl rfl) rfl rfl rfl ?_
 refine WDm.quiet (QS.pure (Y.ixArr Try.underlying67 Try.sizeOf22 rfl rfl hp2.1 (by omega)) rfl rfl) rfl rfl rfl ?_
 refine WDm.quiet (QS.val (Y.loadAN wd_22 rfl m0 (c9_row (cellsOf l) p hp2)) rfl rfl) rfl rfl rfl ?_
 refine WDm.quiet (QS.pure (Y.neqA Try.eqGuardType22 rfl rfl (weq_three _ _ _ _ _ _)) rfl rfl) rfl rfl rfl ?_
 refine WDm.nil (WQ.and ?_)
 refine WQ.next ?_
 refine WC.isF rfl (by have e := cells9_row (logPages l) p hp2; have e2 : (logPages l).cells9 = cellsOf l := (by unfold logPages cellsOf; rw [if_pos h0, if_pos h0]; exact hmt); rw [e.1, e.2.1, e.2.2, e2]; simp) ?_
 refine WC.skip' ?_
 refine WQ.blockEnd ?_
 refine WQ.next ?_
 refine WC.region ?_
 refine WL.pure (Y.move rfl) rfl rfl rfl ?_
 refine WL.pure (Y.add rfl rfl (i64_in (by omega) (by omega))) rfl rfl rfl ?_
 refine WL.pure (Y.assign rfl) rfl rfl rfl ?_
 refine WL.nil ?_
 · exact fun a w s => ⟨p + 1, by omega, by omega, s.weak (by repeat (first | exact sub_nil _ | refine sub_cons rfl ?_))⟩
 refine WC.exit ?_
 refine WQ.thenExit ?_
 refine WQ.thenExit ?_
 refine WQ.blockExit ?_
 refine WQ.next ?_
 refine WC.seq ?_
 refine WC.region ?_
 refine WL.eff (E.call Try.call73 rfl (fun _ w s => w_modelBegun w) rfl) rfl (fun _ => ?_)
 refine WL.pure (Y.assign rfl) rfl rfl rfl ?_
 refine WL.nil ?_
 refine WQ.next ?_
 refine WC.ret ?_
 refine WQ.done Try.results17 (RVs.cons (RV.tmp rfl) RVs.nil) (fun a w s => ?_)
 · refine ⟨?_, s.low⟩
   first
     | rfl
     | (clear s; simp only [packed]; simp_all)
 refine WL.guardF rfl rfl rfl rfl rfl rfl ?_
 refine WL.guardF rfl rfl rfl rfl rfl rfl ?_
 refine WL.pure (Y.pickT rfl rfl) rfl rfl rfl ?_
 refine WL.nil ?_
 refine WQ.next ?_
 refine WC.condT rfl ?_
 refine WC.seq ?_
 refine WC.region ?_
 refine WL.eff (E.call Try.call73 rfl (fun _ w s => w_modelBegun w) rfl) rfl (fun _ => ?_)
 refine WL.pure (Y.move rfl) rfl rfl rfl ?_
 refine WL.guardT rfl rfl rfl ?_
 refine WL.pure (Y.move rfl) rfl rfl rfl ?_
 refine WL.guardT rfl rfl rfl ?_
 refine WL.pure (Y.move rfl) rfl rfl rfl ?_
 refine WL.guardT rfl rfl rfl ?_
 refine WL.pure (Y.eql rfl rfl) rfl rfl rfl ?_
 refine WL.pure (Y.pickT rfl rfl) rfl rfl rfl ?_
 refine WL.pure (Y.assign rfl) rfl rfl rfl ?_
 refine WL.nil ?_
 refine WQ.next ?_
 refine WC.ret ?_
 refine WQ.thenRet ?_
 refine WQ.done Try.results17 (RVs.cons (RV.tmp rfl) RVs.nil) (fun a w s => ?_)
 · refine ⟨?_, s.low⟩
   first
     | rfl
     | (clear s; simp only [packed]; simp_all)
end Go.Proofs.Ytdbcimadjmdffaa
