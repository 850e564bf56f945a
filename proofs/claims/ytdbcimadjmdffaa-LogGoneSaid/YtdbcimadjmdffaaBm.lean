/- The law LogGone: who is over without a Commit has turned nothing. No condition. -/
import Derived.Test.YtdbcimadjmdffaaGn
import Derived.Test.YtdbcimadjmdffaaBj
import Derived.Test.YtdbcimadjmdffaaLv
set_option maxRecDepth 100000
set_option linter.unusedVariables false
set_option linter.unusedSimpArgs false
set_option linter.unusedSectionVars false
set_option maxHeartbeats 4000000
namespace Go.Proofs.Ytdbcimadjmdffaa
open Go.RowKit Go.Joins
theorem one_sub {m : Nat} (h : m ≤ 60) : IntKind.i64.wrap ((1 + (m : Int)) - 1) = (m : Int) := by
  rw [show (1 + (m : Int)) - 1 = (m : Int) by omega]
  exact i64_in (by omega) (by omega)

/-- A Write of the cell by the Txn; one by another. -/
def own1 (t p c : Int) (x : R) : Bool := x.txn == t && (x.kind == 1 && inCell p c x)
def oth1 (t p c : Int) (x : R) : Bool := x.kind == 1 && (x.txn != t && inCell p c x)
theorem take_any {l : List R} {k : Nat} {r : R} (h : l[k]? = some r) (f : R → Bool) : (l.take (k + 1)).any f = ((l.take k).any f || f r) := by
  obtain ⟨hl, he⟩ := List.getElem?_eq_some_iff.1 h
  rw [List.take_succ_eq_append_getElem hl, List.any_append, he]
  simp
theorem drop_any {l : List R} {i k : Nat} {r : R} (h : l[k]? = some r) (hi : i ≤ k) (f : R → Bool) : ((l.take (k + 1)).drop i).any f = (((l.take k).drop i).any f || f r) := by
  obtain ⟨hl, he⟩ := List.getElem?_eq_some_iff.1 h
  rw [List.take_succ_eq_append_getElem hl, List.drop_append_of_le_length (by simp; omega), List.any_append, he]
  simp

theorem seen_same {KL : List E2} {l : List R} {i : Nat} {x : R} {t : Int} (hKL : ∀ p c, look2 KL p c = if (l.take i).any (own1 t p c) then some (.bool true) else none) (hx : l[i]? = some x) (h : ∀ p c, own1 t p c x = true → (l.take i).any (own1 t p c) = true) :
    ∀ p c, look2 KL p c = if (l.take (i + 1)).any (own1 t p c) then some (.bool true) else none := fun p c => by
  rw [hKL, take_any hx]
  cases ho : own1 t p c x
  · rw [Bool.or_false]
  · rw [h p c ho, Bool.true_or]
theorem seen_more {KL : List E2} {l : List R} {i ck : Nat} {x : R} {t : Int} (hKL : ∀ p c, look2 KL p c = if (l.take i).any (own1 t p c) then some (.bool true) else none) (hx : l[i]? = some x) (h1 : x.txn = t) (h2 : x.kind = 1) :
    ∀ p c, look2 (set2 KL x.page x.cell (.bool true) ck) p c = if (l.take (i + 1)).any (own1 t p c) then some (.bool true) else none := fun p c => by
  rw [look2_set, hKL, take_any hx]
  have e : own1 t p c x = (x.page == p && x.cell == c) := by simp [own1, inCell, h1, h2]
  rw [e]
  by_cases a1 : x.page = p <;> by_cases a2 : x.cell = c <;> simp [a1, a2]

theorem p3_atm (p : P3) (i c : Int) (hi : 0 ≤ i ∧ i ≤ 2) (hc : 0 ≤ c ∧ c ≤ 2) : nth p.cl (0 + i.toNat * 4 + 0 + c.toNat * 1) = some (.int .i64 ((p.get i).cellAt c)) := by
  have h1 : i = 0 ∨ i = 1 ∨ i = 2 := by omega
  have h2 : c = 0 ∨ c = 1 ∨ c = 2 := by omega
  rcases h1 with rfl | rfl | rfl <;> rcases h2 with rfl | rfl | rfl <;> rfl
theorem gone_cell {l : List R} {m i : Nat} {e x : R} (h0 : logErr l = 0) (he : l[m]? = some e) (hx : l[i]? = some x) (hi : i < m + 1) (hk : e.kind = 4) (hs : stt (l.take m).reverse e.txn = 3) (ht : x.txn = e.txn) (hw : x.kind = 1)
    (hn : (l.take i).any (own1 e.txn x.page x.cell) = false) (ho : ((l.take (m + 1)).drop (i + 1)).any (oth1 e.txn x.page x.cell) = false) : cellOf (l.take (m + 1)).reverse x.page x.cell = x.old := by
  have hR := (log_right (take_right h0 (m + 1))).2
  have hxl := get_lt hx
  have hml := get_lt he
  have hsp : (l.take (m + 1)).reverse = ((l.take (m + 1)).drop (i + 1)).reverse ++ x :: (l.take i).reverse := by
    have e1 : l.take (m + 1) = l.take i ++ x :: (l.take (m + 1)).drop (i + 1) := by
      have e2 := (List.take_append_drop i (l.take (m + 1))).symm
      rw [List.take_take, show min i (m + 1) = i by omega] at e2
      have hl : i < (l.take (m + 1)).length := by simp; omega
      rw [List.drop_eq_getElem_cons hl] at e2
      have e3 : (l.take (m + 1))[i] = x := by
        rw [List.getElem_take]
        exact (List.getElem?_eq_some_iff.1 hx).2
      rw [e3] at e2
      exact e2
    have e4 := congrArg List.reverse e1
    simpa using e4
  have hin := (log_right h0).2.inR x (List.mem_reverse.2 (List.mem_of_getElem? hx)) (by simp [R.turns, hw])
  have hg := gone_all (h0 := (l.take i).reverse) (r := x) hw (fun y hy hc => by
    have := List.any_eq_false.1 hn y (List.mem_reverse.1 hy)
    apply this
    simp [own1, ← ht, hc.1, hc.2.1, hc.2.2]) hin.1 hin.2 ((l.take (m + 1)).drop (i + 1)).reverse (by rw [← hsp]; exact hR) (fun y hy hc => by
    have := List.any_eq_false.1 ho y (List.mem_reverse.1 hy)
    apply this
    simp [oth1, ← ht, hc.1, hc.2.1, hc.2.2])
  rw [← hsp] at hg
  have h1 := hg.1
  have hR2 := hR
  rw [takeS he] at hR2 h1
  obtain ⟨q1, q2, q3⟩ := hR2.parts
  have hup : ups (l.take m).reverse e.txn = [] := by
    have hf := q3
    unfold follows at hf
    split at hf
    · cases hf
    · rw [if_neg (by omega), if_neg (by omega)] at hf
      rw [if_neg (by omega)] at hf
      simp only [Bool.or_eq_true, Bool.and_eq_true, beq_iff_eq] at hf
      rcases hf with h2 | ⟨_, h4⟩
      · omega
      · simpa using h4
  have es : sta (e :: (l.take m).reverse) x.txn = [] := by
    rw [ht]
    have : sta (e :: (l.take m).reverse) e.txn = sta (l.take m).reverse e.txn := by simp [sta, hk]
    rw [this, sta_ups q1, hup]
    rfl
  rw [es] at h1
  rw [takeS he]
  exact h1

theorem w_LogGone (l : List R) (A : Option Addr) (b o c : Nat) (k : Int) (w : World) (hm : l.length ≤ maxLen) (hcap : l.length ≤ c) (hr : RL w A b o l) (hk : -9223372036854775808 ≤ k ∧ k ≤ 9223372036854775807) : Ret Try.prog 11 [.slice A l.length c, .int .i64 k] w (.bool true) := by
 have hl63 : (l.length : Int) ≤ 9223372036854775807 := by unfold maxLen at hm; omega
 refine enter Try.func11 rfl Try.ntmps11 rfl SF.top trivial ?_
 refine WC.seq ?_
 refine WC.region ?_
 refine WL.pure (Y.assign rfl) rfl rfl rfl ?_
 refine WL.nil ?_
 refine WQ.next ?_
 refine WC.seq ?_
 refine WC.seq ?_
 refine WC.region ?_
 refine WL.pure (Y.move rfl) rfl rfl rfl ?_
 refine WL.eff (E.call Try.call54 rfl (fun _ w s => w_logCheck l A b o c w (hr.below s.low)) rfl) rfl (fun _ => ?_)
 refine WL.pure (Y.neq rfl rfl) rfl rfl rfl ?_
 refine WL.pure (Y.move rfl) rfl rfl rfl ?_
 refine WL.split (t := 20) rfl (fun r h20 => ?_)
 cases r
 refine WL.guardT rfl rfl rfl ?_
 refine WL.pure (Y.move rfl) rfl rfl rfl ?_
 refine WL.guardT rfl rfl rfl ?_
 refine WL.pure (Y.len Try.underlying39 rfl) rfl rfl rfl ?_
 refine WL.guardT rfl rfl rfl ?_
 refine WL.pure (Y.eql rfl rfl) rfl rfl rfl ?_
 refine WL.pure (Y.pickF rfl rfl) rfl rfl rfl ?_
 refine WL.pure (Y.move rfl) rfl rfl rfl ?_
 refine WL.split (t := 25) rfl (fun r h25 => ?_)
 cases r
 refine WL.guardT rfl rfl rfl ?_
 refine WL.pure (Y.move rfl) rfl rfl rfl ?_
 refine WL.guardT rfl rfl rfl ?_
 refine WL.pure (Y.len Try.underlying39 rfl) rfl rfl rfl ?_
 refine WL.guardT rfl rfl rfl ?_
 refine WL.pure (Y.gtr rfl rfl) rfl rfl rfl ?_
 refine WL.pure (Y.pickF rfl rfl) rfl rfl rfl ?_
 refine WL.nil ?_
 refine WQ.next ?_
 refine WC.cond rfl (fun h29 => ?_) (fun h29 => ?_)
 refine WC.seq ?_
 refine WC.region ?_
 refine WL.eff (E.call Try.call53 rfl (fun _ w s => w_logBegun w) rfl) rfl (fun _ => ?_)
 refine WL.pure (Y.assign rfl) rfl rfl rfl ?_
 refine WL.nil ?_
 refine WQ.next ?_
 refine WC.ret ?_
 refine WQ.thenRet ?_
 refine WQ.done Try.results11 (RVs.cons (RV.tmp rfl) RVs.nil) (fun a w s => ?_)
 · exact ⟨rfl, s.low⟩
 refine WC.skip' ?_
 refine WQ.next ?_
 refine WC.seq ?_
 have h0 : logErr l = 0 := by simpa using h20
 obtain ⟨h60, hR⟩ := log_right h0
 have hne : 0 < l.length := by
   have h25 := h25
   simp at h25
   exact List.length_pos_iff.2 h25
 have hch := choose_bnd (c := k) (n := (l.length : Int)) (by omega)
 obtain ⟨m, hmk⟩ := Int.eq_ofNat_of_zero_le hch.1
 have hml : m < l.length := by omega
 obtain ⟨e9, he9⟩ := get_of_lt hml
 have hlm : (m : Int) = ((l.take m).length : Int) := by simp; omega
 have hlm2 : (1 : Int) + (m : Int) = ((l.take (m + 1)).length : Int) := by simp; omega
 have hR1 : Right (l.take (m + 1)).reverse := (log_right (take_right h0 (m + 1))).2
 have hR2 := hR1
 rw [takeS he9] at hR2
 obtain ⟨q1, q2, q3⟩ := hR2.parts
 have hbd := rec_bounds q2
 have e1 := logState_ok (take_right h0 m) (t := e9.txn) ⟨by omega, by omega⟩
 have e2 : logErr (l.take (m + 1)) = 0 := take_right h0 (m + 1)
 refine WC.region ?_
 refine WL.pure (Y.move rfl) rfl rfl rfl ?_
 refine WL.pure (Y.move rfl) rfl rfl rfl ?_
 refine WL.pure (Y.len Try.underlying39 rfl) rfl rfl rfl ?_
 refine WL.eff (E.call Try.call60 rfl (fun _ w s => (by have h := w_choose k (l.length : Int) w hk (by omega); rw [hmk] at h; exact h)) rfl) rfl (fun _ => ?_)
 refine WL.pure (Y.add rfl rfl (i64_in (by omega) (by omega))) rfl rfl rfl ?_
 refine WL.pure (Y.assign rfl) rfl rfl rfl ?_
 refine WL.nil ?_
 refine WQ.next ?_
 refine WC.seq ?_
 refine WC.region ?_
 refine WL.pure (Y.move rfl) rfl rfl rfl ?_
 refine WL.pure (Y.move rfl) rfl rfl rfl ?_
 refine WL.pure (Y.sub rfl rfl (one_sub (by omega))) rfl rfl rfl ?_
 refine WL.pure (Y.ixSlA Try.underlying39 Try.sizeOf34 rfl rfl (hr.addr he9) (nat0 _) (get_ltI he9)) rfl rfl rfl ?_
 refine WL.val (Y.loadAc wd_34 rfl (r := e9.cl) rfl (fun a w s j hj => (hr.below s.low).full he9 j hj)) rfl rfl rfl ?_
 refine WL.eff (E.alloc Try.zeroValue34 rfl rfl) rfl (fun b1 => ?_)
 refine WL.eff (E.store Try.sizeOf34 rfl rfl rfl rfl rfl u0 rfl rfl) rfl (fun _ => ?_)
 refine WL.nil ?_
 refine WQ.next ?_
 refine WC.seq ?_
 refine WC.draw [(0, .q false), (1, .q false), (2, .q false), (3, .q false), (4, .q false), (5, .q true), (6, .q true), (7, .q false), (8, .q false), (9, .q false), (10, .q false), (11, .q false), (12, .q false), (13, .q false)] mixed (by kernel_rfl) ?_
 refine WDm.quiet (QS.pure (Y.move rfl) rfl rfl) rfl rfl rfl ?_
 refine WDm.quiet (QS.pure (Y.move rfl) rfl rfl) rfl rfl rfl ?_
 refine WDm.quiet (QS.pure (Y.sub rfl rfl (one_sub (by omega))) rfl rfl) rfl rfl rfl ?_
 refine WDm.quiet (QS.pure (Y.slToN (l.take m).length hlm Try.underlying39 Try.sizeOf34 rfl rfl (by simp; omega)) rfl rfl) rfl rfl rfl ?_
 refine WDm.quiet (QS.pure (Y.fieldAddr fa_34_1 rfl) rfl rfl) rfl rfl rfl ?_
 refine WDm.quiet (QS.val (Y.load fl_3 rfl m0 rfl) rfl rfl) rfl rfl rfl ?_
 refine WDm.quiet (QS.call Try.call58 rfl (fun _ w s => w_logState (l.take m) A b o c e9.txn w ((hr.below s.low).take m))) rfl rfl rfl ?_
 refine WDm.quiet (QS.pure (Y.move rfl) rfl rfl) rfl rfl rfl ?_
 refine WDm.quiet (QS.pure (Y.extract rfl rfl) rfl rfl) rfl rfl rfl ?_
 refine WDm.quiet (QS.pure (Y.extract rfl rfl) rfl rfl) rfl rfl rfl ?_
 refine WDm.quiet (QS.pure (Y.extract rfl rfl) rfl rfl) rfl rfl rfl ?_
 refine WDm.quiet (QS.pure (Y.assign rfl) rfl rfl) rfl rfl rfl ?_
 refine WDm.quiet (QS.pure (Y.assign rfl) rfl rfl) rfl rfl rfl ?_
 refine WDm.quiet (QS.pure (Y.assign rfl) rfl rfl) rfl rfl rfl ?_
 refine WDm.nil (WQ.and ?_)
 refine WQ.next ?_
 refine WC.seq ?_
 refine WC.region ?_
 refine WL.pure (Y.move rfl) rfl rfl rfl ?_
 refine WL.pure (Y.move rfl) rfl rfl rfl ?_
 refine WL.pure (Y.slToN (l.take (m + 1)).length hlm2 Try.underlying39 Try.sizeOf34 rfl rfl (by simp; omega)) rfl rfl rfl ?_
 refine WL.eff (E.call Try.call56 rfl (fun _ w s => w_logPages (l.take (m + 1)) A b o c w ((hr.below s.low).take (m + 1))) rfl) rfl (fun _ => ?_)
 refine WL.pure (Y.move rfl) rfl rfl rfl ?_
 refine WL.pure (Y.extract rfl rfl) rfl rfl rfl ?_
 refine WL.pure (Y.extract rfl rfl) rfl rfl rfl ?_
 refine WL.eff (E.alloc Try.zeroValue42 rfl rfl) rfl (fun b2 => ?_)
 refine WL.eff (E.store Try.sizeOf42 rfl rfl rfl rfl rfl u0 rfl rfl) rfl (fun _ => ?_)
 refine WL.pure (Y.assign rfl) rfl rfl rfl ?_
 refine WL.nil ?_
 refine WQ.next ?_
 refine WC.seq ?_
 refine WC.seq ?_
 refine WC.region ?_
 refine WL.pure (Y.move rfl) rfl rfl rfl ?_
 refine WL.pure (Y.neq rfl rfl) rfl rfl rfl ?_
 refine WL.pure (Y.move rfl) rfl rfl rfl ?_
 refine WL.known (t := 61) (r := false) rfl (by rw [e1]; rfl) ?_
 refine WL.guardT rfl rfl rfl ?_
 refine WL.pure (Y.move rfl) rfl rfl rfl ?_
 refine WL.guardT rfl rfl rfl ?_
 refine WL.pure (Y.neq rfl rfl) rfl rfl rfl ?_
 refine WL.pure (Y.pickF rfl rfl) rfl rfl rfl ?_
 refine WL.nil ?_
 refine WQ.next ?_
 refine WC.isF rfl (by rw [e2]; rfl) ?_
 refine WC.skip' ?_
 refine WQ.next ?_
 refine WC.seq ?_
 refine WC.seq ?_
 refine WC.region ?_
 refine WL.pure (Y.fieldAddr fa_34_0 rfl) rfl rfl rfl ?_
 refine WL.val (Y.load fl_3 rfl m1 rfl) rfl rfl rfl ?_
 refine WL.pure (Y.neq rfl rfl) rfl rfl rfl ?_
 refine WL.pure (Y.move rfl) rfl rfl rfl ?_
 refine WL.split (t := 68) rfl (fun r h68 => ?_)
 cases r
 refine WL.guardT rfl rfl rfl ?_
 refine WL.pure (Y.move rfl) rfl rfl rfl ?_
 refine WL.guardT rfl rfl rfl ?_
 refine WL.pure (Y.neq rfl rfl) rfl rfl rfl ?_
 refine WL.pure (Y.pickF rfl rfl) rfl rfl rfl ?_
 refine WL.nil ?_
 refine WQ.next ?_
 refine WC.cond rfl (fun h71 => ?_) (fun h71 => ?_)
 refine WC.seq ?_
 refine WC.region ?_
 refine WL.eff (E.call Try.call53 rfl (fun _ w s => w_logBegun w) rfl) rfl (fun _ => ?_)
 refine WL.pure (Y.assign rfl) rfl rfl rfl ?_
 refine WL.nil ?_
 refine WQ.next ?_
 refine WC.ret ?_
 refine WQ.thenRet ?_
 refine WQ.done Try.results11 (RVs.cons (RV.tmp rfl) RVs.nil) (fun a w s => ?_)
 · exact ⟨rfl, s.low⟩
 refine WC.skip' ?_
 refine WQ.next ?_
 refine WC.seq ?_
 refine WC.region ?_
 refine WL.eff (E.makeMap rfl) rfl (fun mb => ?_)
 refine WL.pure (Y.assign rfl) rfl rfl rfl ?_
 refine WL.nil ?_
 refine WQ.next ?_
 refine WC.seq ?_
 refine WC.seq ?_
 refine WC.region ?_
 refine WL.pure (Y.assign rfl) rfl rfl rfl ?_
 refine WL.nil ?_
 refine WQ.next ?_
 refine WC.block ?_
 refine WC.loop (ι := Nat × List E2 × Nat) (fun q => [(0, .slice A l.length c), (5, .int .i64 (1 + (m : Int))), (6, .pointer (some ⟨b1, 0, none⟩)), (10, .pointer (some ⟨b2, 0, none⟩)), (12, .map (some mb)), (13, .int .i64 q.1)]) (fun _ => [(b2, (logPages (l.take (m + 1))).cl, 42), (b1, e9.cl, 34)]) (fun q => (SF.map w.heap.size mb (q.2.1.map E2.entry) q.2.2).sep SF.top) (fun q => q.1 ≤ m + 1 ∧ ∀ p c, look2 q.2.1 p c = if (l.take q.1).any (own1 e9.txn p c) then some (.bool true) else none) (fun q => m + 1 - q.1) (0, [], 0) ⟨Nat.zero_le _, fun _ _ => rfl⟩ (fun a w s => s.weak (by repeat (first | exact sub_nil _ | refine sub_cons rfl ?_))) (fun q hq => ?_)
 obtain ⟨i, KL, ck⟩ := q
 obtain ⟨hi, hKL⟩ := hq
 dsimp only at hi hKL ⊢
 refine WC.seq ?_
 refine WC.seq ?_
 refine WC.region ?_
 refine WL.pure (Y.move rfl) rfl rfl rfl ?_
 refine WL.pure (Y.move rfl) rfl rfl rfl ?_
 refine WL.pure (Y.lss rfl rfl) rfl rfl rfl ?_
 refine WL.nil ?_
 refine WQ.next ?_
 refine WC.cond rfl (fun h76 => ?_) (fun h76 => ?_)
 refine WC.skip' ?_
 refine WQ.next ?_
 refine WC.seq ?_
 refine WC.block ?_
 refine WC.seq ?_
 have hi2 : i < m + 1 := by simp at h76; omega
 obtain ⟨x, hx⟩ := get_of_lt (l := l) (k := i) (by omega)
 have hin := hR.inR x (List.mem_reverse.2 (List.mem_of_getElem? hx))
 refine WC.region ?_
 refine WL.pure (Y.move rfl) rfl rfl rfl ?_
 refine WL.pure (Y.move rfl) rfl rfl rfl ?_
 refine WL.pure (Y.ixSlA Try.underlying39 Try.sizeOf34 rfl rfl (hr.addr hx) (nat0 _) (get_ltI hx)) rfl rfl rfl ?_
 refine WL.val (Y.loadAc wd_34 rfl (r := x.cl) rfl (fun a w s j hj => (hr.below s.low).full hx j hj)) rfl rfl rfl ?_
 refine WL.eff (E.alloc Try.zeroValue34 rfl rfl) rfl (fun b3 => ?_)
 refine WL.eff (E.store Try.sizeOf34 rfl rfl rfl rfl rfl u0 rfl rfl) rfl (fun _ => ?_)
 refine WL.nil ?_
 refine WQ.next ?_
 refine WC.seq ?_
 refine WC.seq ?_
 refine WC.region ?_
 refine WL.pure (Y.fieldAddr fa_34_1 rfl) rfl rfl rfl ?_
 refine WL.val (Y.load fl_3 rfl m0 rfl) rfl rfl rfl ?_
 refine WL.pure (Y.fieldAddr fa_34_1 rfl) rfl rfl rfl ?_
 refine WL.val (Y.load fl_3 rfl m2 rfl) rfl rfl rfl ?_
 refine WL.pure (Y.neq rfl rfl) rfl rfl rfl ?_
 refine WL.pure (Y.move rfl) rfl rfl rfl ?_
 refine WL.split (t := 88) rfl (fun r h88 => ?_)
 cases r
 refine WL.guardT rfl rfl rfl ?_
 refine WL.pure (Y.fieldAddr fa_34_0 rfl) rfl rfl rfl ?_
 refine WL.guardT rfl rfl rfl ?_
 refine WL.val (Y.load fl_3 rfl m0 rfl) rfl rfl rfl ?_
 refine WL.guardT rfl rfl rfl ?_
 refine WL.pure (Y.neq rfl rfl) rfl rfl rfl ?_
 refine WL.pure (Y.pickF rfl rfl) rfl rfl rfl ?_
 refine WL.pure (Y.move rfl) rfl rfl rfl ?_
 refine WL.split (t := 93) rfl (fun r h93 => ?_)
 cases r
 refine WL.guardT rfl rfl rfl ?_
 refine WL.pure (Y.move rfl) rfl rfl rfl ?_
 refine WL.guardT rfl rfl rfl ?_
 refine WL.pure (Y.fieldAddr fa_34_3 rfl) rfl rfl rfl ?_
 refine WL.guardT rfl rfl rfl ?_
 refine WL.val (Y.load fl_3 rfl m0 rfl) rfl rfl rfl ?_
 refine WL.guardT rfl rfl rfl ?_
 refine WL.pure (Y.fieldAddr fa_34_4 rfl) rfl rfl rfl ?_
 refine WL.guardT rfl rfl rfl ?_
 refine WL.val (Y.load fl_3 rfl m0 rfl) rfl rfl rfl ?_
 refine WL.guardT rfl rfl rfl ?_
 refine WL.pure (Y.build rfl (bf_51_0_1 _ _)) rfl rfl rfl ?_
 refine WL.guardT rfl rfl rfl ?_
 refine WL.val (Y.lookup (v := .bool ((l.take i).any (own1 e9.txn x.page x.cell))) rfl rfl (fun a w s => s.fact.1.1) (fun w h => (run_lookup_two KL x.page x.cell Try.underlying50 Try.zeroValue4 h).trans (by rw [hKL]; split <;> simp_all))) rfl rfl rfl ?_
 refine WL.pure (Y.pickF rfl rfl) rfl rfl rfl ?_
 refine WL.pure (Y.move rfl) rfl rfl rfl ?_
 refine WL.split (t := 102) rfl (fun r h102 => ?_)
 cases r
 refine WL.guardT rfl rfl rfl ?_
 refine WL.pure (Y.fieldAddr fa_34_3 rfl) rfl rfl rfl ?_
 refine WL.guardT rfl rfl rfl ?_
 refine WL.val (Y.load fl_3 rfl m0 rfl) rfl rfl rfl ?_
 refine WL.guardT rfl rfl rfl ?_
 refine WL.pure (Y.lss rfl rfl) rfl rfl rfl ?_
 refine WL.pure (Y.pickF rfl rfl) rfl rfl rfl ?_
 refine WL.pure (Y.move rfl) rfl rfl rfl ?_
 refine WL.known (t := 107) (r := false) rfl ((by have := hin (by simp at h93; simp [R.turns, h93]); simp; omega)) ?_
 refine WL.guardT rfl rfl rfl ?_
 refine WL.pure (Y.fieldAddr fa_34_3 rfl) rfl rfl rfl ?_
 refine WL.guardT rfl rfl rfl ?_
 refine WL.val (Y.load fl_3 rfl m0 rfl) rfl rfl rfl ?_
 refine WL.guardT rfl rfl rfl ?_
 refine WL.pure (Y.geq rfl rfl) rfl rfl rfl ?_
 refine WL.pure (Y.pickF rfl rfl) rfl rfl rfl ?_
 refine WL.pure (Y.move rfl) rfl rfl rfl ?_
 refine WL.known (t := 112) (r := false) rfl ((by have := hin (by simp at h93; simp [R.turns, h93]); simp; omega)) ?_
 refine WL.guardT rfl rfl rfl ?_
 refine WL.pure (Y.fieldAddr fa_34_4 rfl) rfl rfl rfl ?_
 refine WL.guardT rfl rfl rfl ?_
 refine WL.val (Y.load fl_3 rfl m0 rfl) rfl rfl rfl ?_
 refine WL.guardT rfl rfl rfl ?_
 refine WL.pure (Y.lss rfl rfl) rfl rfl rfl ?_
 refine WL.pure (Y.pickF rfl rfl) rfl rfl rfl ?_
 refine WL.pure (Y.move rfl) rfl rfl rfl ?_
 refine WL.known (t := 117) (r := false) rfl ((by have := hin (by simp at h93; simp [R.turns, h93]); simp; omega)) ?_
 refine WL.guardT rfl rfl rfl ?_
 refine WL.pure (Y.fieldAddr fa_34_4 rfl) rfl rfl rfl ?_
 refine WL.guardT rfl rfl rfl ?_
 refine WL.val (Y.load fl_3 rfl m0 rfl) rfl rfl rfl ?_
 refine WL.guardT rfl rfl rfl ?_
 refine WL.pure (Y.geq rfl rfl) rfl rfl rfl ?_
 refine WL.pure (Y.pickF rfl rfl) rfl rfl rfl ?_
 refine WL.nil ?_
 refine WQ.next ?_
 refine WC.isF rfl ((by have := hin (by simp at h93; simp [R.turns, h93]); simp; omega)) ?_
 refine WC.skip' ?_
 refine WQ.next ?_
 refine WC.seq ?_
 have hx1 : x.txn = e9.txn := by simpa using h88
 have hx2 : x.kind = 1 := by simpa using h93
 have hns : (l.take i).any (own1 e9.txn x.page x.cell) = false := h102
 obtain ⟨hp, hc⟩ := hin (by simp [R.turns, hx2])
 refine WC.region ?_
 refine WL.pure (Y.move rfl) rfl rfl rfl ?_
 refine WL.pure (Y.fieldAddr fa_34_3 rfl) rfl rfl rfl ?_
 refine WL.val (Y.load fl_3 rfl m0 rfl) rfl rfl rfl ?_
 refine WL.pure (Y.fieldAddr fa_34_4 rfl) rfl rfl rfl ?_
 refine WL.val (Y.load fl_3 rfl m0 rfl) rfl rfl rfl ?_
 refine WL.pure (Y.build rfl (bf_51_0_1 _ _)) rfl rfl rfl ?_
 refine WL.eff (E.mapUpdate rfl rfl rfl rfl (fun w h => run_update_two KL x.page x.cell (.bool true) Try.underlying50 h)) rfl (fun _ => ?_)
 refine WL.nil ?_
 refine WQ.next ?_
 refine WC.seq ?_
 refine WC.region ?_
 refine WL.pure (Y.assign rfl) rfl rfl rfl ?_
 refine WL.nil ?_
 refine WQ.next ?_
 refine WC.seq ?_
 refine WC.seq ?_
 refine WC.region ?_
 refine WL.pure (Y.move rfl) rfl rfl rfl ?_
 refine WL.pure (Y.add rfl rfl (i64_in (by omega) (by omega))) rfl rfl rfl ?_
 refine WL.pure (Y.assign rfl) rfl rfl rfl ?_
 refine WL.nil ?_
 refine WQ.next ?_
 refine WC.block ?_
 refine WC.loop (ι := Nat) (fun j => [(0, .slice A l.length c), (5, .int .i64 (1 + (m : Int))), (6, .pointer (some ⟨b1, 0, none⟩)), (10, .pointer (some ⟨b2, 0, none⟩)), (12, .map (some mb)), (13, .int .i64 i), (14, .pointer (some ⟨b3, 0, none⟩)), (15, .bool (((l.take j).drop (i + 1)).any (oth1 e9.txn x.page x.cell))), (16, .int .i64 j)]) (fun _ => (b3, x.cl, 34) :: [(b2, (logPages (l.take (m + 1))).cl, 42), (b1, e9.cl, 34)]) (fun _ => (SF.map w.heap.size mb ((set2 KL x.page x.cell (.bool true) ck).map E2.entry) (nk KL x.page x.cell ck)).sep SF.top) (fun j => i + 1 ≤ j ∧ j ≤ m + 1) (fun j => m + 1 - j) (i + 1) ⟨by omega, by omega⟩ (fun a w s => by rw [show (l.take (i + 1)).drop (i + 1) = [] by simp]; exact s.weak (by repeat (first | exact sub_nil _ | refine sub_cons rfl ?_))) (fun j hj => ?_)
 obtain ⟨hj1, hj2⟩ := hj
 refine WC.seq ?_
 refine WC.seq ?_
 refine WC.region ?_
 refine WL.pure (Y.move rfl) rfl rfl rfl ?_
 refine WL.pure (Y.move rfl) rfl rfl rfl ?_
 refine WL.pure (Y.lss rfl rfl) rfl rfl rfl ?_
 refine WL.nil ?_
 refine WQ.next ?_
 refine WC.cond rfl (fun h132 => ?_) (fun h132 => ?_)
 refine WC.skip' ?_
 refine WQ.next ?_
 refine WC.seq ?_
 refine WC.block ?_
 have hj3 : j < m + 1 := by simp at h132; omega
 obtain ⟨y, hy⟩ := get_of_lt (l := l) (k := j) (by omega)
 refine WC.drawf none (some 39) [(0, .q false), (1, .q false), (2, .q false), (3, .q false), (4, .q false), (5, .q false), (6, .q true), (7, .q false), (8, .q false), (9, .q false), (10, .q false), (11, .q false), (12, .q false), (13, .q true), (14, .q false), (15, .q true), (16, .q false), (17, .q false), (18, .q false), (19, .q false), (20, .q false), (21, .q false), (22, .q false), (23, .q true), (24, .q false), (25, .q true), (26, .q false), (27, .q false), (28, .q false), (29, .q false), (30, .q false), (31, .q false), (32, .q false), (33, .q true), (34, .q false), (35, .q true), (36, .q false), (37, .q false), (38, .q false)] (fun _ h => h) mixed (by kernel_rfl) ?_
 refine WDm.quiet (QS.pure (Y.move rfl) rfl rfl) rfl rfl rfl ?_
 refine WDm.quiet (QS.pure (Y.move rfl) rfl rfl) rfl rfl rfl ?_
 refine WDm.split (t := 136) rfl (fun r h136 => ?_)
 cases r
 refine WDm.quiet (QS.guardT rfl rfl rfl (QS.pure (Y.move rfl) rfl rfl)) rfl rfl rfl ?_
 refine WDm.quiet (QS.guardT rfl rfl rfl (QS.pure (Y.move rfl) rfl rfl)) rfl rfl rfl ?_
 refine WDm.quiet (QS.guardT rfl rfl rfl (QS.pure (Y.ixSlA Try.underlying39 Try.sizeOf34 rfl rfl (hr.addr hy) (nat0 _) (get_ltI hy)) rfl rfl)) rfl rfl rfl ?_
 refine WDm.quiet (QS.guardT rfl rfl rfl (QS.pure (Y.fieldAddr fa_34_0 rfl) rfl rfl)) rfl rfl rfl ?_
 refine WDm.quiet (QS.guardT rfl rfl rfl (QS.val (Y.loadc fl_3 rfl (fun a w s => (hr.below s.low).cell _ _ hy 0 _ rfl)) rfl rfl)) rfl rfl rfl ?_
 refine WDm.quiet (QS.guardT rfl rfl rfl (QS.pure (Y.eql rfl rfl) rfl rfl)) rfl rfl rfl ?_
 refine WDm.quiet (QS.guardT rfl rfl rfl (QS.pure (Y.move rfl) rfl rfl)) rfl rfl rfl ?_
 refine WDm.split (t := 143) rfl (fun r h143 => ?_)
 cases r
 refine WDm.quiet (QS.guardF rfl rfl rfl rfl rfl) rfl rfl rfl ?_
 refine WDm.quiet (QS.guardF rfl rfl rfl rfl rfl) rfl rfl rfl ?_
 refine WDm.quiet (QS.guardF rfl rfl rfl rfl rfl) rfl rfl rfl ?_
 refine WDm.quiet (QS.guardF rfl rfl rfl rfl rfl) rfl rfl rfl ?_
 refine WDm.quiet (QS.guardF rfl rfl rfl rfl rfl) rfl rfl rfl ?_
 refine WDm.quiet (QS.guardF rfl rfl rfl rfl rfl) rfl rfl rfl ?_
 refine WDm.quiet (QS.guardF rfl rfl rfl rfl rfl) rfl rfl rfl ?_
 refine WDm.quiet (QS.guardF rfl rfl rfl rfl rfl) rfl rfl rfl ?_
 refine WDm.quiet (QS.guardT rfl rfl rfl (QS.pure (Y.pickF rfl rfl) rfl rfl)) rfl rfl rfl ?_
 refine WDm.quiet (QS.guardT rfl rfl rfl (QS.pure (Y.move rfl) rfl rfl)) rfl rfl rfl ?_
 refine WDm.quiet (QS.guardF rfl rfl rfl rfl rfl) rfl rfl rfl ?_
 refine WDm.quiet (QS.guardF rfl rfl rfl rfl rfl) rfl rfl rfl ?_
 refine WDm.quiet (QS.guardF rfl rfl rfl rfl rfl) rfl rfl rfl ?_
 refine WDm.quiet (QS.guardF rfl rfl rfl rfl rfl) rfl rfl rfl ?_
 refine WDm.quiet (QS.guardF rfl rfl rfl rfl rfl) rfl rfl rfl ?_
 refine WDm.quiet (QS.guardF rfl rfl rfl rfl rfl) rfl rfl rfl ?_
 refine WDm.quiet (QS.guardF rfl rfl rfl rfl rfl) rfl rfl rfl ?_
 refine WDm.quiet (QS.guardF rfl rfl rfl rfl rfl) rfl rfl rfl ?_
 refine WDm.quiet (QS.guardT rfl rfl rfl (QS.pure (Y.pickF rfl rfl) rfl rfl)) rfl rfl rfl ?_
 refine WDm.quiet (QS.guardT rfl rfl rfl (QS.pure (Y.move rfl) rfl rfl)) rfl rfl rfl ?_
 refine WDm.quiet (QS.guardF rfl rfl rfl rfl rfl) rfl rfl rfl ?_
 refine WDm.quiet (QS.guardF rfl rfl rfl rfl rfl) rfl rfl rfl ?_
 refine WDm.quiet (QS.guardF rfl rfl rfl rfl rfl) rfl rfl rfl ?_
 refine WDm.quiet (QS.guardF rfl rfl rfl rfl rfl) rfl rfl rfl ?_
 refine WDm.quiet (QS.guardF rfl rfl rfl rfl rfl) rfl rfl rfl ?_
 refine WDm.quiet (QS.guardF rfl rfl rfl rfl rfl) rfl rfl rfl ?_
 refine WDm.quiet (QS.guardF rfl rfl rfl rfl rfl) rfl rfl rfl ?_
 refine WDm.quiet (QS.guardF rfl rfl rfl rfl rfl) rfl rfl rfl ?_
 refine WDm.quiet (QS.guardT rfl rfl rfl (QS.pure (Y.pickF rfl rfl) rfl rfl)) rfl rfl rfl ?_
 refine WDm.quiet (QS.pure (Y.pickF rfl rfl) rfl rfl) rfl rfl rfl ?_
 refine WDm.last (j := 39) rfl ?_
 refine WL.pure (Y.assign rfl) rfl rfl rfl ?_
 refine WL.nil ?_
 refine WQ.and ?_
 refine WQ.blockEnd ?_
 refine WQ.next ?_
 refine WC.region ?_
 refine WL.pure (Y.move rfl) rfl rfl rfl ?_
 refine WL.pure (Y.add rfl rfl (i64_in (by omega) (by omega))) rfl rfl rfl ?_
 refine WL.pure (Y.assign rfl) rfl rfl rfl ?_
 refine WL.nil ?_
 · refine fun a w s => ⟨j + 1, ⟨by omega, by omega⟩, by omega, ?_⟩
   have e := drop_any hy (i := i + 1) (by omega) (oth1 e9.txn x.page x.cell)
   rw [e]
   have e15 : false = (((l.take j).drop (i + 1)).any (oth1 e9.txn x.page x.cell) || oth1 e9.txn x.page x.cell y) := by
     rw [h136, Bool.false_or]
     simp [oth1, inCell, ← hx1, h143]
   refine s.weak (by repeat (first | exact sub_nil _ | refine sub_cons rfl ?_ | refine sub_cons (eqb e15) ?_))
 refine WDm.quiet (QS.guardT rfl rfl rfl (QS.pure (Y.move rfl) rfl rfl)) rfl rfl rfl ?_
 refine WDm.quiet (QS.guardT rfl rfl rfl (QS.pure (Y.move rfl) rfl rfl)) rfl rfl rfl ?_
 refine WDm.quiet (QS.guardT rfl rfl rfl (QS.pure (Y.ixSlA Try.underlying39 Try.sizeOf34 rfl rfl (hr.addr hy) (nat0 _) (get_ltI hy)) rfl rfl)) rfl rfl rfl ?_
 refine WDm.quiet (QS.guardT rfl rfl rfl (QS.pure (Y.fieldAddr fa_34_1 rfl) rfl rfl)) rfl rfl rfl ?_
 refine WDm.quiet (QS.guardT rfl rfl rfl (QS.val (Y.loadc fl_3 rfl (fun a w s => (hr.below s.low).cell _ _ hy 1 _ rfl)) rfl rfl)) rfl rfl rfl ?_
 refine WDm.quiet (QS.guardT rfl rfl rfl (QS.pure (Y.fieldAddr fa_34_1 rfl) rfl rfl)) rfl rfl rfl ?_
 refine WDm.quiet (QS.guardT rfl rfl rfl (QS.val (Y.load fl_3 rfl m0 rfl) rfl rfl)) rfl rfl rfl ?_
 refine WDm.quiet (QS.guardT rfl rfl rfl (QS.pure (Y.neq rfl rfl) rfl rfl)) rfl rfl rfl ?_
 refine WDm.quiet (QS.guardT rfl rfl rfl (QS.pure (Y.pickT rfl rfl) rfl rfl)) rfl rfl rfl ?_
 refine WDm.quiet (QS.guardT rfl rfl rfl (QS.pure (Y.move rfl) rfl rfl)) rfl rfl rfl ?_
 refine WDm.split (t := 153) rfl (fun r h153 => ?_)
 cases r
 refine WDm.quiet (QS.guardF rfl rfl rfl rfl rfl) rfl rfl rfl ?_
 refine WDm.quiet (QS.guardF rfl rfl rfl rfl rfl) rfl rfl rfl ?_
 refine WDm.quiet (QS.guardF rfl rfl rfl rfl rfl) rfl rfl rfl ?_
 refine WDm.quiet (QS.guardF rfl rfl rfl rfl rfl) rfl rfl rfl ?_
 refine WDm.quiet (QS.guardF rfl rfl rfl rfl rfl) rfl rfl rfl ?_
 refine WDm.quiet (QS.guardF rfl rfl rfl rfl rfl) rfl rfl rfl ?_
 refine WDm.quiet (QS.guardF rfl rfl rfl rfl rfl) rfl rfl rfl ?_
 refine WDm.quiet (QS.guardF rfl rfl rfl rfl rfl) rfl rfl rfl ?_
 refine WDm.quiet (QS.guardT rfl rfl rfl (QS.pure (Y.pickF rfl rfl) rfl rfl)) rfl rfl rfl ?_
 refine WDm.quiet (QS.guardT rfl rfl rfl (QS.pure (Y.move rfl) rfl rfl)) rfl rfl rfl ?_
 refine WDm.quiet (QS.guardF rfl rfl rfl rfl rfl) rfl rfl rfl ?_
 refine WDm.quiet (QS.guardF rfl rfl rfl rfl rfl) rfl rfl rfl ?_
 refine WDm.quiet (QS.guardF rfl rfl rfl rfl rfl) rfl rfl rfl ?_
 refine WDm.quiet (QS.guardF rfl rfl rfl rfl rfl) rfl rfl rfl ?_
 refine WDm.quiet (QS.guardF rfl rfl rfl rfl rfl) rfl rfl rfl ?_
 refine WDm.quiet (QS.guardF rfl rfl rfl rfl rfl) rfl rfl rfl ?_
 refine WDm.quiet (QS.guardF rfl rfl rfl rfl rfl) rfl rfl rfl ?_
 refine WDm.quiet (QS.guardF rfl rfl rfl rfl rfl) rfl rfl rfl ?_
 refine WDm.quiet (QS.guardT rfl rfl rfl (QS.pure (Y.pickF rfl rfl) rfl rfl)) rfl rfl rfl ?_
 refine WDm.quiet (QS.pure (Y.pickF rfl rfl) rfl rfl) rfl rfl rfl ?_
 refine WDm.last (j := 39) rfl ?_
 refine WL.pure (Y.assign rfl) rfl rfl rfl ?_
 refine WL.nil ?_
 refine WQ.and ?_
 refine WQ.blockEnd ?_
 refine WQ.next ?_
 refine WC.region ?_
 refine WL.pure (Y.move rfl) rfl rfl rfl ?_
 refine WL.pure (Y.add rfl rfl (i64_in (by omega) (by omega))) rfl rfl rfl ?_
 refine WL.pure (Y.assign rfl) rfl rfl rfl ?_
 refine WL.nil ?_
 · refine fun a w s => ⟨j + 1, ⟨by omega, by omega⟩, by omega, ?_⟩
   have e := drop_any hy (i := i + 1) (by omega) (oth1 e9.txn x.page x.cell)
   rw [e]
   have e15 : false = (((l.take j).drop (i + 1)).any (oth1 e9.txn x.page x.cell) || oth1 e9.txn x.page x.cell y) := by
     rw [h136, Bool.false_or]
     simp [oth1, inCell, ← hx1, h143, h153]
   refine s.weak (by repeat (first | exact sub_nil _ | refine sub_cons rfl ?_ | refine sub_cons (eqb e15) ?_))
 refine WDm.quiet (QS.guardT rfl rfl rfl (QS.pure (Y.move rfl) rfl rfl)) rfl rfl rfl ?_
 refine WDm.quiet (QS.guardT rfl rfl rfl (QS.pure (Y.move rfl) rfl rfl)) rfl rfl rfl ?_
 refine WDm.quiet (QS.guardT rfl rfl rfl (QS.pure (Y.ixSlA Try.underlying39 Try.sizeOf34 rfl rfl (hr.addr hy) (nat0 _) (get_ltI hy)) rfl rfl)) rfl rfl rfl ?_
 refine WDm.quiet (QS.guardT rfl rfl rfl (QS.pure (Y.fieldAddr fa_34_3 rfl) rfl rfl)) rfl rfl rfl ?_
 refine WDm.quiet (QS.guardT rfl rfl rfl (QS.val (Y.loadc fl_3 rfl (fun a w s => (hr.below s.low).cell _ _ hy 3 _ rfl)) rfl rfl)) rfl rfl rfl ?_
 refine WDm.quiet (QS.guardT rfl rfl rfl (QS.pure (Y.fieldAddr fa_34_3 rfl) rfl rfl)) rfl rfl rfl ?_
 refine WDm.quiet (QS.guardT rfl rfl rfl (QS.val (Y.load fl_3 rfl m0 rfl) rfl rfl)) rfl rfl rfl ?_
 refine WDm.quiet (QS.guardT rfl rfl rfl (QS.pure (Y.eql rfl rfl) rfl rfl)) rfl rfl rfl ?_
 refine WDm.quiet (QS.guardT rfl rfl rfl (QS.pure (Y.pickT rfl rfl) rfl rfl)) rfl rfl rfl ?_
 refine WDm.quiet (QS.guardT rfl rfl rfl (QS.pure (Y.move rfl) rfl rfl)) rfl rfl rfl ?_
 refine WDm.split (t := 163) rfl (fun r h163 => ?_)
 cases r
 refine WDm.quiet (QS.guardF rfl rfl rfl rfl rfl) rfl rfl rfl ?_
 refine WDm.quiet (QS.guardF rfl rfl rfl rfl rfl) rfl rfl rfl ?_
 refine WDm.quiet (QS.guardF rfl rfl rfl rfl rfl) rfl rfl rfl ?_
 refine WDm.quiet (QS.guardF rfl rfl rfl rfl rfl) rfl rfl rfl ?_
 refine WDm.quiet (QS.guardF rfl rfl rfl rfl rfl) rfl rfl rfl ?_
 refine WDm.quiet (QS.guardF rfl rfl rfl rfl rfl) rfl rfl rfl ?_
 refine WDm.quiet (QS.guardF rfl rfl rfl rfl rfl) rfl rfl rfl ?_
 refine WDm.quiet (QS.guardF rfl rfl rfl rfl rfl) rfl rfl rfl ?_
 refine WDm.quiet (QS.guardT rfl rfl rfl (QS.pure (Y.pickF rfl rfl) rfl rfl)) rfl rfl rfl ?_
 refine WDm.quiet (QS.pure (Y.pickF rfl rfl) rfl rfl) rfl rfl rfl ?_
 refine WDm.last (j := 39) rfl ?_
 refine WL.pure (Y.assign rfl) rfl rfl rfl ?_
 refine WL.nil ?_
 refine WQ.and ?_
 refine WQ.blockEnd ?_
 refine WQ.next ?_
 refine WC.region ?_
 refine WL.pure (Y.move rfl) rfl rfl rfl ?_
 refine WL.pure (Y.add rfl rfl (i64_in (by omega) (by omega))) rfl rfl rfl ?_
 refine WL.pure (Y.assign rfl) rfl rfl rfl ?_
 refine WL.nil ?_
 · refine fun a w s => ⟨j + 1, ⟨by omega, by omega⟩, by omega, ?_⟩
   have e := drop_any hy (i := i + 1) (by omega) (oth1 e9.txn x.page x.cell)
   rw [e]
   have e15 : false = (((l.take j).drop (i + 1)).any (oth1 e9.txn x.page x.cell) || oth1 e9.txn x.page x.cell y) := by
     rw [h136, Bool.false_or]
     simp [oth1, inCell, ← hx1, h143, h153, h163]
   refine s.weak (by repeat (first | exact sub_nil _ | refine sub_cons rfl ?_ | refine sub_cons (eqb e15) ?_))
 refine WDm.quiet (QS.guardT rfl rfl rfl (QS.pure (Y.move rfl) rfl rfl)) rfl rfl rfl ?_
 refine WDm.quiet (QS.guardT rfl rfl rfl (QS.pure (Y.move rfl) rfl rfl)) rfl rfl rfl ?_
 refine WDm.quiet (QS.guardT rfl rfl rfl (QS.pure (Y.ixSlA Try.underlying39 Try.sizeOf34 rfl rfl (hr.addr hy) (nat0 _) (get_ltI hy)) rfl rfl)) rfl rfl rfl ?_
 refine WDm.quiet (QS.guardT rfl rfl rfl (QS.pure (Y.fieldAddr fa_34_4 rfl) rfl rfl)) rfl rfl rfl ?_
 refine WDm.quiet (QS.guardT rfl rfl rfl (QS.val (Y.loadc fl_3 rfl (fun a w s => (hr.below s.low).cell _ _ hy 4 _ rfl)) rfl rfl)) rfl rfl rfl ?_
 refine WDm.quiet (QS.guardT rfl rfl rfl (QS.pure (Y.fieldAddr fa_34_4 rfl) rfl rfl)) rfl rfl rfl ?_
 refine WDm.quiet (QS.guardT rfl rfl rfl (QS.val (Y.load fl_3 rfl m0 rfl) rfl rfl)) rfl rfl rfl ?_
 refine WDm.quiet (QS.guardT rfl rfl rfl (QS.pure (Y.eql rfl rfl) rfl rfl)) rfl rfl rfl ?_
 refine WDm.quiet (QS.guardT rfl rfl rfl (QS.pure (Y.pickT rfl rfl) rfl rfl)) rfl rfl rfl ?_
 refine WDm.quiet (QS.pure (Y.pickF rfl rfl) rfl rfl) rfl rfl rfl ?_
 refine WDm.last (j := 39) rfl ?_
 refine WL.pure (Y.assign rfl) rfl rfl rfl ?_
 refine WL.nil ?_
 refine WQ.and ?_
 refine WQ.blockEnd ?_
 refine WQ.next ?_
 refine WC.region ?_
 refine WL.pure (Y.move rfl) rfl rfl rfl ?_
 refine WL.pure (Y.add rfl rfl (i64_in (by omega) (by omega))) rfl rfl rfl ?_
 refine WL.pure (Y.assign rfl) rfl rfl rfl ?_
 refine WL.nil ?_
 · refine fun a w s => ⟨j + 1, ⟨by omega, by omega⟩, by omega, ?_⟩
   have e := drop_any hy (i := i + 1) (by omega) (oth1 e9.txn x.page x.cell)
   rw [e]
   have e15 : (y.cell == x.cell) = (((l.take j).drop (i + 1)).any (oth1 e9.txn x.page x.cell) || oth1 e9.txn x.page x.cell y) := by
     rw [h136, Bool.false_or]
     simp [oth1, inCell, ← hx1, h143, h153, h163]
   refine s.weak (by repeat (first | exact sub_nil _ | refine sub_cons rfl ?_ | refine sub_cons (eqb e15) ?_))
 refine WDm.quiet (QS.guardF rfl rfl rfl rfl rfl) rfl rfl rfl ?_
 refine WDm.quiet (QS.guardF rfl rfl rfl rfl rfl) rfl rfl rfl ?_
 refine WDm.quiet (QS.guardF rfl rfl rfl rfl rfl) rfl rfl rfl ?_
 refine WDm.quiet (QS.guardF rfl rfl rfl rfl rfl) rfl rfl rfl ?_
 refine WDm.quiet (QS.guardF rfl rfl rfl rfl rfl) rfl rfl rfl ?_
 refine WDm.quiet (QS.guardF rfl rfl rfl rfl rfl) rfl rfl rfl ?_
 refine WDm.quiet (QS.guardF rfl rfl rfl rfl rfl) rfl rfl rfl ?_
 refine WDm.quiet (QS.guardU rfl rfl rfl rfl) rfl rfl rfl ?_
 refine WDm.quiet (QS.guardU rfl rfl rfl rfl) rfl rfl rfl ?_
 refine WDm.quiet (QS.guardU rfl rfl rfl rfl) rfl rfl rfl ?_
 refine WDm.quiet (QS.guardU rfl rfl rfl rfl) rfl rfl rfl ?_
 refine WDm.quiet (QS.guardU rfl rfl rfl rfl) rfl rfl rfl ?_
 refine WDm.quiet (QS.guardU rfl rfl rfl rfl) rfl rfl rfl ?_
 refine WDm.quiet (QS.guardU rfl rfl rfl rfl) rfl rfl rfl ?_
 refine WDm.quiet (QS.guardU rfl rfl rfl rfl) rfl rfl rfl ?_
 refine WDm.quiet (QS.guardF rfl rfl rfl rfl rfl) rfl rfl rfl ?_
 refine WDm.quiet (QS.guardF rfl rfl rfl rfl rfl) rfl rfl rfl ?_
 refine WDm.quiet (QS.guardU rfl rfl rfl rfl) rfl rfl rfl ?_
 refine WDm.quiet (QS.guardU rfl rfl rfl rfl) rfl rfl rfl ?_
 refine WDm.quiet (QS.guardU rfl rfl rfl rfl) rfl rfl rfl ?_
 refine WDm.quiet (QS.guardU rfl rfl rfl rfl) rfl rfl rfl ?_
 refine WDm.quiet (QS.guardU rfl rfl rfl rfl) rfl rfl rfl ?_
 refine WDm.quiet (QS.guardU rfl rfl rfl rfl) rfl rfl rfl ?_
 refine WDm.quiet (QS.guardU rfl rfl rfl rfl) rfl rfl rfl ?_
 refine WDm.quiet (QS.guardU rfl rfl rfl rfl) rfl rfl rfl ?_
 refine WDm.quiet (QS.guardF rfl rfl rfl rfl rfl) rfl rfl rfl ?_
 refine WDm.quiet (QS.guardF rfl rfl rfl rfl rfl) rfl rfl rfl ?_
 refine WDm.quiet (QS.guardU rfl rfl rfl rfl) rfl rfl rfl ?_
 refine WDm.quiet (QS.guardU rfl rfl rfl rfl) rfl rfl rfl ?_
 refine WDm.quiet (QS.guardU rfl rfl rfl rfl) rfl rfl rfl ?_
 refine WDm.quiet (QS.guardU rfl rfl rfl rfl) rfl rfl rfl ?_
 refine WDm.quiet (QS.guardU rfl rfl rfl rfl) rfl rfl rfl ?_
 refine WDm.quiet (QS.guardU rfl rfl rfl rfl) rfl rfl rfl ?_
 refine WDm.quiet (QS.guardU rfl rfl rfl rfl) rfl rfl rfl ?_
 refine WDm.quiet (QS.guardU rfl rfl rfl rfl) rfl rfl rfl ?_
 refine WDm.quiet (QS.guardF rfl rfl rfl rfl rfl) rfl rfl rfl ?_
 refine WDm.quiet (QS.pure (Y.pickT rfl rfl) rfl rfl) rfl rfl rfl ?_
 refine WDm.last (j := 39) rfl ?_
 refine WL.pure (Y.assign rfl) rfl rfl rfl ?_
 refine WL.nil ?_
 refine WQ.and ?_
 refine WQ.blockEnd ?_
 refine WQ.next ?_
 refine WC.region ?_
 refine WL.pure (Y.move rfl) rfl rfl rfl ?_
 refine WL.pure (Y.add rfl rfl (i64_in (by omega) (by omega))) rfl rfl rfl ?_
 refine WL.pure (Y.assign rfl) rfl rfl rfl ?_
 refine WL.nil ?_
 · refine fun a w s => ⟨j + 1, ⟨by omega, by omega⟩, by omega, ?_⟩
   have e := drop_any hy (i := i + 1) (by omega) (oth1 e9.txn x.page x.cell)
   rw [e]
   have e15 : true = (((l.take j).drop (i + 1)).any (oth1 e9.txn x.page x.cell) || oth1 e9.txn x.page x.cell y) := by
     rw [h136, Bool.true_or]
   refine s.weak (by repeat (first | exact sub_nil _ | refine sub_cons rfl ?_ | refine sub_cons (eqb e15) ?_))
 refine WC.exit ?_
 refine WQ.thenExit ?_
 refine WQ.thenExit ?_
 refine WQ.blockExit ?_
 refine WQ.next ?_
 refine WC.seq ?_
 have hjm : j = m + 1 := by simp at h132; omega
 subst hjm
 refine WC.draw [(0, .q false), (1, .q false), (2, .q false), (3, .q false), (4, .q true), (5, .q false), (6, .q true), (7, .q false), (8, .q false), (9, .q false), (10, .q true), (11, .q false), (12, .q true), (13, .q false), (14, .q false)] mixed (by kernel_rfl) ?_
 refine WDm.quiet (QS.pure (Y.move rfl) rfl rfl) rfl rfl rfl ?_
 refine WDm.quiet (QS.pure (Y.not rfl) rfl rfl) rfl rfl rfl ?_
 refine WDm.quiet (QS.pure (Y.move rfl) rfl rfl) rfl rfl rfl ?_
 refine WDm.split (t := 176) rfl (fun r h176 => ?_)
 cases r
 refine WDm.quiet (QS.guardF rfl rfl rfl rfl rfl) rfl rfl rfl ?_
 refine WDm.quiet (QS.guardF rfl rfl rfl rfl rfl) rfl rfl rfl ?_
 refine WDm.quiet (QS.guardF rfl rfl rfl rfl rfl) rfl rfl rfl ?_
 refine WDm.quiet (QS.guardF rfl rfl rfl rfl rfl) rfl rfl rfl ?_
 refine WDm.quiet (QS.guardF rfl rfl rfl rfl rfl) rfl rfl rfl ?_
 refine WDm.quiet (QS.guardF rfl rfl rfl rfl rfl) rfl rfl rfl ?_
 refine WDm.quiet (QS.guardF rfl rfl rfl rfl rfl) rfl rfl rfl ?_
 refine WDm.quiet (QS.guardF rfl rfl rfl rfl rfl) rfl rfl rfl ?_
 refine WDm.quiet (QS.guardF rfl rfl rfl rfl rfl) rfl rfl rfl ?_
 refine WDm.quiet (QS.guardF rfl rfl rfl rfl rfl) rfl rfl rfl ?_
 refine WDm.quiet (QS.guardF rfl rfl rfl rfl rfl) rfl rfl rfl ?_
 refine WDm.quiet (QS.pure (Y.pickF rfl rfl) rfl rfl) rfl rfl rfl ?_
 refine WDm.nil (WQ.and ?_)
 refine WQ.next ?_
 refine WC.condF rfl ?_
 refine WC.skip' ?_
 refine WQ.blockEnd ?_
 refine WQ.next ?_
 refine WC.region ?_
 refine WL.pure (Y.move rfl) rfl rfl rfl ?_
 refine WL.pure (Y.add rfl rfl (i64_in (by omega) (by omega))) rfl rfl rfl ?_
 refine WL.pure (Y.assign rfl) rfl rfl rfl ?_
 refine WL.nil ?_
 · refine fun a w s => ⟨(i + 1, set2 KL x.page x.cell (.bool true) ck, nk KL x.page x.cell ck), ⟨by dsimp only; omega, seen_more hKL hx hx1 hx2⟩, by dsimp only; omega, ?_⟩
   exact (s.sub (Hsub.of_sub (List.sublist_cons_self _ _))).weak (by repeat (first | exact sub_nil _ | refine sub_cons rfl ?_))
 refine WDm.quiet (QS.guardT rfl rfl rfl (QS.pure (Y.fieldAddr fa_34_3 rfl) rfl rfl)) rfl rfl rfl ?_
 refine WDm.quiet (QS.guardT rfl rfl rfl (QS.val (Y.load fl_3 rfl m0 rfl) rfl rfl)) rfl rfl rfl ?_
 refine WDm.quiet (QS.guardT rfl rfl rfl (QS.pure (Y.fieldAddr fa_34_4 rfl) rfl rfl)) rfl rfl rfl ?_
 refine WDm.quiet (QS.guardT rfl rfl rfl (QS.val (Y.load fl_3 rfl m0 rfl) rfl rfl)) rfl rfl rfl ?_
 refine WDm.quiet (QS.guardT rfl rfl rfl (QS.pure (Y.ixArr Try.underlying42 Try.sizeOf24 rfl rfl hp.1 (by omega)) rfl rfl)) rfl rfl rfl ?_
 refine WDm.quiet (QS.guardT rfl rfl rfl (QS.pure (Y.fieldAddr fa_24_0 rfl) rfl rfl)) rfl rfl rfl ?_
 refine WDm.quiet (QS.guardT rfl rfl rfl (QS.pure (Y.ixArr Try.underlying22 Try.sizeOf3 rfl rfl hc.1 (by omega)) rfl rfl)) rfl rfl rfl ?_
 refine WDm.quiet (QS.guardT rfl rfl rfl (QS.val (Y.loadN (cs := (logPages (l.take (m + 1))).cl) fl_3 rfl m1 (p3_atm _ _ _ hp hc)) rfl rfl)) rfl rfl rfl ?_
 refine WDm.quiet (QS.guardT rfl rfl rfl (QS.pure (Y.fieldAddr fa_34_5 rfl) rfl rfl)) rfl rfl rfl ?_
 refine WDm.quiet (QS.guardT rfl rfl rfl (QS.val (Y.load fl_3 rfl m0 rfl) rfl rfl)) rfl rfl rfl ?_
 refine WDm.quiet (QS.guardT rfl rfl rfl (QS.pure (Y.neq rfl rfl) rfl rfl)) rfl rfl rfl ?_
 refine WDm.quiet (QS.pure (Y.pickT rfl rfl) rfl rfl) rfl rfl rfl ?_
 refine WDm.nil (WQ.and ?_)
 refine WQ.next ?_
 refine WC.isF rfl (by have hgc := gone_cell h0 he9 hx (by omega) (by simpa using h68) (by rw [e1] at h71; simp at h71; omega) hx1 hx2 hns (by simpa using h176); simp only [bne_eq_false_iff_eq]; rw [← hgc]; unfold logPages; rw [if_pos e2]; rfl) ?_
 refine WC.skip' ?_
 refine WQ.blockEnd ?_
 refine WQ.next ?_
 refine WC.region ?_
 refine WL.pure (Y.move rfl) rfl rfl rfl ?_
 refine WL.pure (Y.add rfl rfl (i64_in (by omega) (by omega))) rfl rfl rfl ?_
 refine WL.pure (Y.assign rfl) rfl rfl rfl ?_
 refine WL.nil ?_
 · refine fun a w s => ⟨(i + 1, set2 KL x.page x.cell (.bool true) ck, nk KL x.page x.cell ck), ⟨by dsimp only; omega, seen_more hKL hx hx1 hx2⟩, by dsimp only; omega, ?_⟩
   exact (s.sub (Hsub.of_sub (List.sublist_cons_self _ _))).weak (by repeat (first | exact sub_nil _ | refine sub_cons rfl ?_))
 refine WL.guardF rfl rfl rfl rfl rfl rfl ?_
 refine WL.guardF rfl rfl rfl rfl rfl rfl ?_
 refine WL.guardF rfl rfl rfl rfl rfl rfl ?_
 refine WL.pure (Y.pickT rfl rfl) rfl rfl rfl ?_
 refine WL.pure (Y.move rfl) rfl rfl rfl ?_
 refine WL.guardF rfl rfl rfl rfl rfl rfl ?_
 refine WL.guardF rfl rfl rfl rfl rfl rfl ?_
 refine WL.guardF rfl rfl rfl rfl rfl rfl ?_
 refine WL.pure (Y.pickT rfl rfl) rfl rfl rfl ?_
 refine WL.pure (Y.move rfl) rfl rfl rfl ?_
 refine WL.guardF rfl rfl rfl rfl rfl rfl ?_
 refine WL.guardF rfl rfl rfl rfl rfl rfl ?_
 refine WL.guardF rfl rfl rfl rfl rfl rfl ?_
 refine WL.pure (Y.pickT rfl rfl) rfl rfl rfl ?_
 refine WL.pure (Y.move rfl) rfl rfl rfl ?_
 refine WL.guardF rfl rfl rfl rfl rfl rfl ?_
 refine WL.guardF rfl rfl rfl rfl rfl rfl ?_
 refine WL.guardF rfl rfl rfl rfl rfl rfl ?_
 refine WL.pure (Y.pickT rfl rfl) rfl rfl rfl ?_
 refine WL.nil ?_
 refine WQ.next ?_
 refine WC.condT rfl ?_
 refine WC.exit ?_
 refine WQ.thenExit ?_
 refine WQ.blockExit ?_
 refine WQ.next ?_
 refine WC.region ?_
 refine WL.pure (Y.move rfl) rfl rfl rfl ?_
 refine WL.pure (Y.add rfl rfl (i64_in (by omega) (by omega))) rfl rfl rfl ?_
 refine WL.pure (Y.assign rfl) rfl rfl rfl ?_
 refine WL.nil ?_
 · refine fun a w s => ⟨(i + 1, KL, ck), ⟨by dsimp only; omega, seen_same hKL hx (fun p c ho => ?_)⟩, by dsimp only; omega, ?_⟩
   rotate_left
   · exact (s.sub (Hsub.of_sub (List.sublist_cons_self _ _))).weak (by repeat (first | exact sub_nil _ | refine sub_cons rfl ?_))
   simp only [own1, inCell, Bool.and_eq_true, beq_iff_eq] at ho
   obtain ⟨o1, o2, rfl, rfl⟩ := ho
   simp_all
 refine WL.guardF rfl rfl rfl rfl rfl rfl ?_
 refine WL.guardF rfl rfl rfl rfl rfl rfl ?_
 refine WL.guardF rfl rfl rfl rfl rfl rfl ?_
 refine WL.guardF rfl rfl rfl rfl rfl rfl ?_
 refine WL.guardF rfl rfl rfl rfl rfl rfl ?_
 refine WL.guardF rfl rfl rfl rfl rfl rfl ?_
 refine WL.guardF rfl rfl rfl rfl rfl rfl ?_
 refine WL.pure (Y.pickT rfl rfl) rfl rfl rfl ?_
 refine WL.pure (Y.move rfl) rfl rfl rfl ?_
 refine WL.guardF rfl rfl rfl rfl rfl rfl ?_
 refine WL.guardF rfl rfl rfl rfl rfl rfl ?_
 refine WL.guardF rfl rfl rfl rfl rfl rfl ?_
 refine WL.pure (Y.pickT rfl rfl) rfl rfl rfl ?_
 refine WL.pure (Y.move rfl) rfl rfl rfl ?_
 refine WL.guardF rfl rfl rfl rfl rfl rfl ?_
 refine WL.guardF rfl rfl rfl rfl rfl rfl ?_
 refine WL.guardF rfl rfl rfl rfl rfl rfl ?_
 refine WL.pure (Y.pickT rfl rfl) rfl rfl rfl ?_
 refine WL.pure (Y.move rfl) rfl rfl rfl ?_
 refine WL.guardF rfl rfl rfl rfl rfl rfl ?_
 refine WL.guardF rfl rfl rfl rfl rfl rfl ?_
 refine WL.guardF rfl rfl rfl rfl rfl rfl ?_
 refine WL.pure (Y.pickT rfl rfl) rfl rfl rfl ?_
 refine WL.pure (Y.move rfl) rfl rfl rfl ?_
 refine WL.guardF rfl rfl rfl rfl rfl rfl ?_
 refine WL.guardF rfl rfl rfl rfl rfl rfl ?_
 refine WL.guardF rfl rfl rfl rfl rfl rfl ?_
 refine WL.pure (Y.pickT rfl rfl) rfl rfl rfl ?_
 refine WL.nil ?_
 refine WQ.next ?_
 refine WC.condT rfl ?_
 refine WC.exit ?_
 refine WQ.thenExit ?_
 refine WQ.blockExit ?_
 refine WQ.next ?_
 refine WC.region ?_
 refine WL.pure (Y.move rfl) rfl rfl rfl ?_
 refine WL.pure (Y.add rfl rfl (i64_in (by omega) (by omega))) rfl rfl rfl ?_
 refine WL.pure (Y.assign rfl) rfl rfl rfl ?_
 refine WL.nil ?_
 · refine fun a w s => ⟨(i + 1, KL, ck), ⟨by dsimp only; omega, seen_same hKL hx (fun p c ho => ?_)⟩, by dsimp only; omega, ?_⟩
   rotate_left
   · exact (s.sub (Hsub.of_sub (List.sublist_cons_self _ _))).weak (by repeat (first | exact sub_nil _ | refine sub_cons rfl ?_))
   simp only [own1, inCell, Bool.and_eq_true, beq_iff_eq] at ho
   obtain ⟨o1, o2, rfl, rfl⟩ := ho
   simp_all
 refine WL.guardF rfl rfl rfl rfl rfl rfl ?_
 refine WL.guardF rfl rfl rfl rfl rfl rfl ?_
 refine WL.guardF rfl rfl rfl rfl rfl rfl ?_
 refine WL.pure (Y.pickT rfl rfl) rfl rfl rfl ?_
 refine WL.pure (Y.move rfl) rfl rfl rfl ?_
 refine WL.guardF rfl rfl rfl rfl rfl rfl ?_
 refine WL.guardF rfl rfl rfl rfl rfl rfl ?_
 refine WL.guardF rfl rfl rfl rfl rfl rfl ?_
 refine WL.guardF rfl rfl rfl rfl rfl rfl ?_
 refine WL.guardF rfl rfl rfl rfl rfl rfl ?_
 refine WL.guardF rfl rfl rfl rfl rfl rfl ?_
 refine WL.guardF rfl rfl rfl rfl rfl rfl ?_
 refine WL.pure (Y.pickT rfl rfl) rfl rfl rfl ?_
 refine WL.pure (Y.move rfl) rfl rfl rfl ?_
 refine WL.guardF rfl rfl rfl rfl rfl rfl ?_
 refine WL.guardF rfl rfl rfl rfl rfl rfl ?_
 refine WL.guardF rfl rfl rfl rfl rfl rfl ?_
 refine WL.pure (Y.pickT rfl rfl) rfl rfl rfl ?_
 refine WL.pure (Y.move rfl) rfl rfl rfl ?_
 refine WL.guardF rfl rfl rfl rfl rfl rfl ?_
 refine WL.guardF rfl rfl rfl rfl rfl rfl ?_
 refine WL.guardF rfl rfl rfl rfl rfl rfl ?_
 refine WL.pure (Y.pickT rfl rfl) rfl rfl rfl ?_
 refine WL.pure (Y.move rfl) rfl rfl rfl ?_
 refine WL.guardF rfl rfl rfl rfl rfl rfl ?_
 refine WL.guardF rfl rfl rfl rfl rfl rfl ?_
 refine WL.guardF rfl rfl rfl rfl rfl rfl ?_
 refine WL.pure (Y.pickT rfl rfl) rfl rfl rfl ?_
 refine WL.pure (Y.move rfl) rfl rfl rfl ?_
 refine WL.guardF rfl rfl rfl rfl rfl rfl ?_
 refine WL.guardF rfl rfl rfl rfl rfl rfl ?_
 refine WL.guardF rfl rfl rfl rfl rfl rfl ?_
 refine WL.pure (Y.pickT rfl rfl) rfl rfl rfl ?_
 refine WL.nil ?_
 refine WQ.next ?_
 refine WC.condT rfl ?_
 refine WC.exit ?_
 refine WQ.thenExit ?_
 refine WQ.blockExit ?_
 refine WQ.next ?_
 refine WC.region ?_
 refine WL.pure (Y.move rfl) rfl rfl rfl ?_
 refine WL.pure (Y.add rfl rfl (i64_in (by omega) (by omega))) rfl rfl rfl ?_
 refine WL.pure (Y.assign rfl) rfl rfl rfl ?_
 refine WL.nil ?_
 · refine fun a w s => ⟨(i + 1, KL, ck), ⟨by dsimp only; omega, seen_same hKL hx (fun p c ho => ?_)⟩, by dsimp only; omega, ?_⟩
   rotate_left
   · exact (s.sub (Hsub.of_sub (List.sublist_cons_self _ _))).weak (by repeat (first | exact sub_nil _ | refine sub_cons rfl ?_))
   simp only [own1, inCell, Bool.and_eq_true, beq_iff_eq] at ho
   obtain ⟨o1, o2, rfl, rfl⟩ := ho
   simp_all
 refine WC.exit ?_
 refine WQ.thenExit ?_
 refine WQ.thenExit ?_
 refine WQ.blockExit ?_
 refine WQ.next ?_
 refine WC.seq ?_
 refine WC.region ?_
 refine WL.eff (E.call Try.call53 rfl (fun _ w s => w_logBegun w) rfl) rfl (fun _ => ?_)
 refine WL.pure (Y.assign rfl) rfl rfl rfl ?_
 refine WL.nil ?_
 refine WQ.next ?_
 refine WC.ret ?_
 refine WQ.done Try.results11 (RVs.cons (RV.tmp rfl) RVs.nil) (fun a w s => ?_)
 · exact ⟨rfl, s.low⟩
 refine WL.guardF rfl rfl rfl rfl rfl rfl ?_
 refine WL.guardF rfl rfl rfl rfl rfl rfl ?_
 refine WL.pure (Y.pickT rfl rfl) rfl rfl rfl ?_
 refine WL.nil ?_
 refine WQ.next ?_
 refine WC.condT rfl ?_
 refine WC.seq ?_
 refine WC.region ?_
 refine WL.eff (E.call Try.call53 rfl (fun _ w s => w_logBegun w) rfl) rfl (fun _ => ?_)
 refine WL.pure (Y.assign rfl) rfl rfl rfl ?_
 refine WL.nil ?_
 refine WQ.next ?_
 refine WC.ret ?_
 refine WQ.thenRet ?_
 refine WQ.done Try.results11 (RVs.cons (RV.tmp rfl) RVs.nil) (fun a w s => ?_)
 · exact ⟨rfl, s.low⟩
 refine WL.guardF rfl rfl rfl rfl rfl rfl ?_
 refine WL.guardF rfl rfl rfl rfl rfl rfl ?_
 refine WL.guardF rfl rfl rfl rfl rfl rfl ?_
 refine WL.pure (Y.pickT rfl rfl) rfl rfl rfl ?_
 refine WL.nil ?_
 refine WQ.next ?_
 refine WC.condT rfl ?_
 refine WC.seq ?_
 refine WC.region ?_
 refine WL.eff (E.call Try.call53 rfl (fun _ w s => w_logBegun w) rfl) rfl (fun _ => ?_)
 refine WL.pure (Y.assign rfl) rfl rfl rfl ?_
 refine WL.nil ?_
 refine WQ.next ?_
 refine WC.ret ?_
 refine WQ.thenRet ?_
 refine WQ.done Try.results11 (RVs.cons (RV.tmp rfl) RVs.nil) (fun a w s => ?_)
 · exact ⟨rfl, s.low⟩
 refine WL.guardF rfl rfl rfl rfl rfl rfl ?_
 refine WL.guardF rfl rfl rfl rfl rfl rfl ?_
 refine WL.guardF rfl rfl rfl rfl rfl rfl ?_
 refine WL.pure (Y.pickT rfl rfl) rfl rfl rfl ?_
 refine WL.pure (Y.move rfl) rfl rfl rfl ?_
 refine WL.guardF rfl rfl rfl rfl rfl rfl ?_
 refine WL.guardF rfl rfl rfl rfl rfl rfl ?_
 refine WL.guardF rfl rfl rfl rfl rfl rfl ?_
 refine WL.pure (Y.pickT rfl rfl) rfl rfl rfl ?_
 refine WL.nil ?_
 refine WQ.next ?_
 refine WC.condT rfl ?_
 refine WC.seq ?_
 refine WC.region ?_
 refine WL.eff (E.call Try.call53 rfl (fun _ w s => w_logBegun w) rfl) rfl (fun _ => ?_)
 refine WL.pure (Y.assign rfl) rfl rfl rfl ?_
 refine WL.nil ?_
 refine WQ.next ?_
 refine WC.ret ?_
 refine WQ.thenRet ?_
 refine WQ.done Try.results11 (RVs.cons (RV.tmp rfl) RVs.nil) (fun a w s => ?_)
 · exact ⟨rfl, s.low⟩
end Go.Proofs.Ytdbcimadjmdffaa
