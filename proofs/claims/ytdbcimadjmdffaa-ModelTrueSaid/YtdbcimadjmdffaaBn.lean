/- The model: what Wins and Cells return, and what the document says of them. No condition. -/
import Derived.Test.YtdbcimadjmdffaaSy
import Derived.Test.YtdbcimadjmdffaaRb
import Derived.Test.YtdbcimadjmdffaaLd
set_option maxRecDepth 100000
set_option linter.unusedVariables false
set_option linter.unusedSimpArgs false
set_option linter.unusedSectionVars false
set_option maxHeartbeats 4000000
namespace Go.Proofs.Ytdbcimadjmdffaa
open Go.RowKit Go.Joins
theorem w_indexI (xs : List Int) (A : Option Addr) (b c : Nat) (v : Int) (w : World) (hl : xs.length ≤ 60) (hb : IL w A b xs) : Ret Try.prog 162 [.slice A xs.length c, .int .i64 v] w (.int .i64 (posI v 0 xs)) := by
 refine enter Try.func162 rfl Try.ntmps162 rfl SF.top trivial ?_
 refine WC.seq ?_
 refine WC.region ?_
 refine WL.pure (Y.assign rfl) rfl rfl rfl ?_
 refine WL.nil ?_
 refine WQ.next ?_
 refine WC.seq ?_
 refine WC.seq ?_
 refine WC.region ?_
 refine WL.pure (Y.move rfl) rfl rfl rfl ?_
 refine WL.pure (Y.len Try.underlying64 rfl) rfl rfl rfl ?_
 refine WL.pure (Y.move rfl) rfl rfl rfl ?_
 refine WL.nil ?_
 refine WQ.next ?_
 refine WC.block ?_
 refine WC.loop (ι := Nat) (fun k => [(0, .slice A xs.length c), (1, .int .i64 v), (7, .int .i64 xs.length), (8, .int .i64 k)]) (fun _ => []) (fun _ => SF.top) (fun k => k ≤ xs.length ∧ posI v 0 xs = posI v k (xs.drop k)) (fun k => xs.length - k) 0 ⟨Nat.zero_le _, rfl⟩ (fun a w s => s.weak (by repeat (first | exact sub_nil _ | refine sub_cons rfl ?_))) (fun k hk => ?_)
 obtain ⟨hk, hf⟩ := hk
 refine WC.seq ?_
 refine WC.region ?_
 refine WL.pure (Y.lss rfl rfl) rfl rfl rfl ?_
 refine WL.nil ?_
 refine WQ.next ?_
 refine WC.seq ?_
 refine WC.cond rfl (fun h9 => ?_) (fun h9 => ?_)
 refine WC.skip' ?_
 refine WQ.next ?_
 refine WC.seq ?_
 refine WC.block ?_
 refine WC.seq ?_
 refine WC.region ?_
 refine WL.pure (Y.move rfl) rfl rfl rfl ?_
 refine WL.pure (Y.assign rfl) rfl rfl rfl ?_
 refine WL.nil ?_
 refine WQ.next ?_
 refine WC.seq ?_
 refine WC.region ?_
 refine WL.pure (Y.move rfl) rfl rfl rfl ?_
 have h9 : k < xs.length := by simpa using h9
 obtain ⟨x, hx⟩ := get_of_lt h9
 refine WL.pure (Y.move rfl) rfl rfl rfl ?_
 refine WL.pure (Y.move rfl) rfl rfl rfl ?_
 refine WL.pure (Y.ixSlA Try.underlying64 Try.sizeOf3 rfl rfl (hb.addr hx) (nat0 _) (by omega)) rfl rfl rfl ?_
 refine WL.val (Y.loadc fl_3 rfl (v := .int .i64 x) (fun a w s => by have := (hb.below s.low).cell k x hx; simpa using this)) rfl rfl rfl ?_
 refine WL.pure (Y.eql rfl rfl) rfl rfl rfl ?_
 refine WL.nil ?_
 refine WQ.next ?_
 refine WC.cond rfl (fun h16 => ?_) (fun h16 => ?_)
 refine WC.seq ?_
 refine WC.region ?_
 refine WL.pure (Y.move rfl) rfl rfl rfl ?_
 refine WL.pure (Y.assign rfl) rfl rfl rfl ?_
 refine WL.nil ?_
 refine WQ.next ?_
 refine WC.ret ?_
 refine WQ.blockRet ?_
 refine WQ.thenRet ?_
 refine WQ.thenRet ?_
 refine WQ.blockRet ?_
 refine WQ.thenRet ?_
 refine WQ.done Try.results162 (RVs.cons (RV.tmp rfl) RVs.nil) (fun a w s => ?_)
 · refine ⟨?_, s.low⟩
   clear s
   have h9 := h9
   simp only [packed]
   first
     | (rw [hf, drop_cons hx]; simp_all [posI])
     | (rw [hf, List.drop_eq_nil_of_le (by simp at h9; omega)]; rfl)
 refine WC.skip' ?_
 refine WQ.blockEnd ?_
 refine WQ.next ?_
 refine WC.region ?_
 refine WL.pure (Y.add rfl rfl (i64_in (by omega) (by omega))) rfl rfl rfl ?_
 refine WL.pure (Y.move rfl) rfl rfl rfl ?_
 refine WL.nil ?_
 · exact fun a w s => ⟨k + 1, ⟨by omega, by rw [hf, drop_cons hx]; simp_all [posI]⟩, by omega, s.weak (by repeat (first | exact sub_nil _ | refine sub_cons rfl ?_))⟩
 refine WC.exit ?_
 refine WQ.thenExit ?_
 refine WQ.thenExit ?_
 refine WQ.blockExit ?_
 refine WQ.next ?_
 refine WC.seq ?_
 refine WC.region ?_
 refine WL.pure (Y.assign rfl) rfl rfl rfl ?_
 refine WL.nil ?_
 refine WQ.next ?_
 refine WC.ret ?_
 refine WQ.done Try.results162 (RVs.cons (RV.tmp rfl) RVs.nil) (fun a w s => ?_)
 · refine ⟨?_, s.low⟩
   clear s
   have h9 := h9
   simp only [packed]
   first
     | (rw [hf, drop_cons hx]; simp_all [posI])
     | (rw [hf, List.drop_eq_nil_of_le (by simp at h9; omega)]; rfl)

theorem w_containsI (xs : List Int) (A : Option Addr) (b c : Nat) (v : Int) (w : World) (hl : xs.length ≤ 60) (hb : IL w A b xs) : Ret Try.prog 135 [.slice A xs.length c, .int .i64 v] w (.bool (xs.contains v)) := by
 refine enter Try.func135 rfl Try.ntmps135 rfl SF.top trivial ?_
 refine WC.seq ?_
 refine WC.region ?_
 refine WL.pure (Y.assign rfl) rfl rfl rfl ?_
 refine WL.nil ?_
 refine WQ.next ?_
 refine WC.seq ?_
 refine WC.region ?_
 refine WL.pure (Y.move rfl) rfl rfl rfl ?_
 refine WL.pure (Y.move rfl) rfl rfl rfl ?_
 refine WL.eff (E.call Try.call162 rfl (fun _ w s => w_indexI xs A b c v w hl (hb.below s.low)) rfl) rfl (fun _ => ?_)
 refine WL.pure (Y.geq rfl rfl) rfl rfl rfl ?_
 refine WL.pure (Y.assign rfl) rfl rfl rfl ?_
 refine WL.nil ?_
 refine WQ.next ?_
 refine WC.ret ?_
 refine WQ.done Try.results135 (RVs.cons (RV.tmp rfl) RVs.nil) (fun a w s => ?_)
 · refine ⟨?_, s.low⟩
   simp only [packed]
   rw [posI_in]

theorem take_eqS {α : Type} {xs ys : List α} {k : Nat} {x y : α} (h : xs.take k = ys.take k) (hx : xs[k]? = some x) (hy : ys[k]? = some y) (e : x = y) : xs.take (k + 1) = ys.take (k + 1) := by
  obtain ⟨h1, e1⟩ := List.getElem?_eq_some_iff.1 hx
  obtain ⟨h2, e2⟩ := List.getElem?_eq_some_iff.1 hy
  rw [List.take_succ_eq_append_getElem h1, List.take_succ_eq_append_getElem h2, h, e1, e2, e]
theorem ne_get {α : Type} {xs ys : List α} {k : Nat} {x y : α} (hx : xs[k]? = some x) (hy : ys[k]? = some y) (e : x ≠ y) : xs ≠ ys := by
  rintro rfl
  rw [hx] at hy
  exact e (Option.some.inj hy)

theorem w_sameInts (xs ys : List Int) (A A2 : Option Addr) (b b2 c c2 : Nat) (w : World) (hl : xs.length ≤ 60) (hb : IL w A b xs) (hb2 : IL w A2 b2 ys) : Ret Try.prog 74 [.slice A xs.length c, .slice A2 ys.length c2] w (.bool (decide (xs = ys))) := by
 refine enter Try.func74 rfl Try.ntmps74 rfl SF.top trivial ?_
 refine WC.seq ?_
 refine WC.region ?_
 refine WL.pure (Y.assign rfl) rfl rfl rfl ?_
 refine WL.nil ?_
 refine WQ.next ?_
 refine WC.seq ?_
 refine WC.seq ?_
 refine WC.region ?_
 refine WL.pure (Y.move rfl) rfl rfl rfl ?_
 refine WL.pure (Y.len Try.underlying64 rfl) rfl rfl rfl ?_
 refine WL.pure (Y.move rfl) rfl rfl rfl ?_
 refine WL.pure (Y.len Try.underlying64 rfl) rfl rfl rfl ?_
 refine WL.pure (Y.neq rfl rfl) rfl rfl rfl ?_
 refine WL.nil ?_
 refine WQ.next ?_
 refine WC.cond rfl (fun h10 => ?_) (fun h10 => ?_)
 refine WC.seq ?_
 refine WC.region ?_
 refine WL.pure (Y.assign rfl) rfl rfl rfl ?_
 refine WL.nil ?_
 refine WQ.next ?_
 refine WC.ret ?_
 refine WQ.thenRet ?_
 refine WQ.done Try.results74 (RVs.cons (RV.tmp rfl) RVs.nil) (fun a w s => ?_)
 · refine ⟨?_, s.low⟩
   clear s
   simp only [packed]
   have e : xs ≠ ys := fun e => by subst e; simp at h10
   rw [decide_eq_false e]
 refine WC.skip' ?_
 refine WQ.next ?_
 refine WC.seq ?_
 refine WC.seq ?_
 refine WC.region ?_
 refine WL.pure (Y.assign rfl) rfl rfl rfl ?_
 refine WL.nil ?_
 refine WQ.next ?_
 refine WC.block ?_
 have hle : xs.length = ys.length := by simp at h10; omega
 refine WC.loop (ι := Nat) (fun k => [(0, .slice A xs.length c), (1, .slice A2 ys.length c2), (5, .int .i64 k)]) (fun _ => []) (fun _ => SF.top) (fun k => k ≤ xs.length ∧ xs.take k = ys.take k) (fun k => xs.length - k) 0 ⟨Nat.zero_le _, rfl⟩ (fun a w s => s.weak (by repeat (first | exact sub_nil _ | refine sub_cons rfl ?_))) (fun k hk => ?_)
 obtain ⟨hk, hf⟩ := hk
 refine WC.seq ?_
 refine WC.seq ?_
 refine WC.region ?_
 refine WL.pure (Y.move rfl) rfl rfl rfl ?_
 refine WL.pure (Y.move rfl) rfl rfl rfl ?_
 refine WL.pure (Y.len Try.underlying64 rfl) rfl rfl rfl ?_
 refine WL.pure (Y.lss rfl rfl) rfl rfl rfl ?_
 refine WL.nil ?_
 refine WQ.next ?_
 refine WC.cond rfl (fun h14 => ?_) (fun h14 => ?_)
 refine WC.skip' ?_
 refine WQ.next ?_
 refine WC.seq ?_
 refine WC.block ?_
 refine WC.seq ?_
 have h14 : k < xs.length := by simpa using h14
 obtain ⟨x, hx⟩ := get_of_lt h14
 obtain ⟨y, hy⟩ := get_of_lt (l := ys) (k := k) (by omega)
 refine WC.draw [(0, .q false), (1, .q false), (2, .q false), (3, .q true), (4, .q false), (5, .q false), (6, .q false), (7, .q true), (8, .q false)] mixed (by kernel_rfl) ?_
 refine WDm.quiet (QS.pure (Y.move rfl) rfl rfl) rfl rfl rfl ?_
 refine WDm.quiet (QS.pure (Y.move rfl) rfl rfl) rfl rfl rfl ?_
 refine WDm.quiet (QS.pure (Y.ixSlA Try.underlying64 Try.sizeOf3 rfl rfl (hb.addr hx) (nat0 _) (by omega)) rfl rfl) rfl rfl rfl ?_
 refine WDm.quiet (QS.val (Y.loadc fl_3 rfl (v := .int .i64 x) (fun a w s => by have := (hb.below s.low).cell k x hx; simpa using this)) rfl rfl) rfl rfl rfl ?_
 refine WDm.quiet (QS.pure (Y.move rfl) rfl rfl) rfl rfl rfl ?_
 refine WDm.quiet (QS.pure (Y.move rfl) rfl rfl) rfl rfl rfl ?_
 refine WDm.quiet (QS.pure (Y.ixSlA Try.underlying64 Try.sizeOf3 rfl rfl (hb2.addr hy) (nat0 _) (by omega)) rfl rfl) rfl rfl rfl ?_
 refine WDm.quiet (QS.val (Y.loadc fl_3 rfl (v := .int .i64 y) (fun a w s => by have := (hb2.below s.low).cell k y hy; simpa using this)) rfl rfl) rfl rfl rfl ?_
 refine WDm.quiet (QS.pure (Y.neq rfl rfl) rfl rfl) rfl rfl rfl ?_
 refine WDm.nil (WQ.and ?_)
 refine WQ.next ?_
 refine WC.cond rfl (fun h25 => ?_) (fun h25 => ?_)
 refine WC.seq ?_
 refine WC.region ?_
 refine WL.pure (Y.assign rfl) rfl rfl rfl ?_
 refine WL.nil ?_
 refine WQ.next ?_
 refine WC.ret ?_
 refine WQ.blockRet ?_
 refine WQ.thenRet ?_
 refine WQ.thenRet ?_
 refine WQ.blockRet ?_
 refine WQ.thenRet ?_
 refine WQ.done Try.results74 (RVs.cons (RV.tmp rfl) RVs.nil) (fun a w s => ?_)
 · refine ⟨?_, s.low⟩
   clear s
   simp only [packed]
   have := ne_get hx hy (by simpa using h25)
   rw [decide_eq_false this]
 refine WC.skip' ?_
 refine WQ.blockEnd ?_
 refine WQ.next ?_
 refine WC.region ?_
 refine WL.pure (Y.move rfl) rfl rfl rfl ?_
 refine WL.pure (Y.add rfl rfl (i64_in (by omega) (by omega))) rfl rfl rfl ?_
 refine WL.pure (Y.assign rfl) rfl rfl rfl ?_
 refine WL.nil ?_
 · exact fun a w s => ⟨k + 1, ⟨by omega, take_eqS hf hx hy (by simpa using h25)⟩, by omega, s.weak (by repeat (first | exact sub_nil _ | refine sub_cons rfl ?_))⟩
 refine WC.exit ?_
 refine WQ.thenExit ?_
 refine WQ.thenExit ?_
 refine WQ.blockExit ?_
 refine WQ.next ?_
 refine WC.seq ?_
 refine WC.region ?_
 refine WL.pure (Y.assign rfl) rfl rfl rfl ?_
 refine WL.nil ?_
 refine WQ.next ?_
 refine WC.ret ?_
 refine WQ.done Try.results74 (RVs.cons (RV.tmp rfl) RVs.nil) (fun a w s => ?_)
 · refine ⟨?_, s.low⟩
   clear s
   simp only [packed]
   have h14 := h14
   simp at h14
   rw [List.take_of_length_le h14, List.take_of_length_le (by omega)] at hf
   rw [decide_eq_true hf]

theorem w_wins (l : List R) (A : Option Addr) (b o c : Nat) (w : World) (hr : RL w A b o l) : Calls Try.prog 67 [.slice A l.length c].toArray w fun e w' => ∃ i : Option Addr × Nat, e = .returned (.tuple #[.slice i.1 (winsOf l).length i.2, .int .i64 (logErr l)]) ∧ Below w.heap.size w w' ∧ w'.ownsRow w.heap.size 3 1 (.slice i.1 (winsOf l).length i.2) (winsOf l).length (ints (winsOf l)) := by
 obtain ⟨i0, hi0, hz0, hz1, hz2⟩ := info_parts int_info
 refine enter Try.func67 rfl Try.ntmps67 rfl SF.top trivial ?_
 refine WC.seq ?_
 refine WC.region ?_
 refine WL.pure (Y.assign rfl) rfl rfl rfl ?_
 refine WL.pure (Y.assign rfl) rfl rfl rfl ?_
 refine WL.nil ?_
 refine WQ.next ?_
 refine WC.seq ?_
 refine WC.seq ?_
 refine WC.region ?_
 refine WL.pure (Y.move rfl) rfl rfl rfl ?_
 refine WL.eff (E.call Try.call54 rfl (fun _ w s => w_logCheck l A b o c w (hr.below s.low)) rfl) rfl (fun _ => ?_)
 refine WL.pure (Y.assign rfl) rfl rfl rfl ?_
 refine WL.nil ?_
 refine WQ.next ?_
 refine WC.seq ?_
 refine WC.region ?_
 refine WL.pure (Y.move rfl) rfl rfl rfl ?_
 refine WL.pure (Y.neq rfl rfl) rfl rfl rfl ?_
 refine WL.nil ?_
 refine WQ.next ?_
 refine WC.cond rfl (fun h11 => ?_) (fun h11 => ?_)
 refine WC.seq ?_
 refine WC.region ?_
 refine WL.pure (Y.move rfl) rfl rfl rfl ?_
 refine WL.pure (Y.assign rfl) rfl rfl rfl ?_
 refine WL.pure (Y.assign rfl) rfl rfl rfl ?_
 refine WL.nil ?_
 refine WQ.next ?_
 refine WC.ret ?_
 refine WQ.thenRet ?_
 refine WQ.done Try.results67 (RVs.cons (RV.tmp rfl) (RVs.cons (RV.tmp rfl) RVs.nil)) (fun a w s => ?_)
 · have e : winsOf l = [] := by unfold winsOf; rw [if_neg (by simpa using h11)]
   refine ⟨(none, 0), ?_, s.low, by rw [e]; exact own_nil _ _ _ _⟩
   rw [e]
   rfl
 refine WC.skip' ?_
 refine WQ.next ?_
 refine WC.seq ?_
 have h0 : logErr l = 0 := by simpa using h11
 have h60 := (log_right h0).1
 refine WC.region ?_
 refine WL.pure (Y.assign rfl) rfl rfl rfl ?_
 refine WL.nil ?_
 refine WQ.next ?_
 refine WC.seq ?_
 refine WC.seq ?_
 refine WC.region ?_
 refine WL.pure (Y.move rfl) rfl rfl rfl ?_
 refine WL.pure (Y.len Try.underlying39 rfl) rfl rfl rfl ?_
 refine WL.pure (Y.move rfl) rfl rfl rfl ?_
 refine WL.nil ?_
 refine WQ.next ?_
 refine WC.block ?_
 refine WC.fact (SF.own w.heap.size 3 1 (.slice none 0 0) 0 []) (fun a w s => ⟨own_nil _ _ _ _, fun _ _ h => by cases h⟩) ?_
 refine WC.loop (ι := Nat × Option Addr × Nat) (fun k => [(0, .slice A l.length c), (5, .slice k.2.1 (winsL (l.take k.1)).length k.2.2), (13, .slice A l.length c), (14, .int .i64 l.length), (15, .int .i64 k.1)]) (fun _ => []) (fun k => SF.own w.heap.size 3 1 (.slice k.2.1 (winsL (l.take k.1)).length k.2.2) (winsL (l.take k.1)).length (ints (winsL (l.take k.1)))) (fun k => k.1 ≤ l.length) (fun k => l.length - k.1) (0, none, 0) (Nat.zero_le _) (fun a w s => s.weak (by repeat (first | exact sub_nil _ | refine sub_cons rfl ?_))) (fun k hk => ?_)
 obtain ⟨k, A5, c5⟩ := k
 dsimp only at hk ⊢
 have hsl := winsL_len (l.take k)
 simp only [List.length_take] at hsl
 refine WC.seq ?_
 refine WC.region ?_
 refine WL.pure (Y.lss rfl rfl) rfl rfl rfl ?_
 refine WL.nil ?_
 refine WQ.next ?_
 refine WC.seq ?_
 refine WC.cond rfl (fun h16 => ?_) (fun h16 => ?_)
 refine WC.skip' ?_
 refine WQ.next ?_
 refine WC.seq ?_
 refine WC.block ?_
 refine WC.seq ?_
 refine WC.region ?_
 have h16 := dec_lt h16
 simp only [if_true] at h16
 obtain ⟨r, hk'⟩ := get_of_lt h16
 refine WL.pure (Y.ixSlA Try.underlying39 Try.sizeOf34 rfl rfl (hr.addr hk') (nat0 _) (get_ltI hk')) rfl rfl rfl ?_
 refine WL.val (Y.loadAc wd_34 rfl (r := r.cl) rfl (fun a w s j hj => (hr.below s.low).full hk' j hj)) rfl rfl rfl ?_
 refine WL.eff (E.alloc Try.zeroValue34 rfl rfl) rfl (fun b1 => ?_)
 refine WL.eff (E.store Try.sizeOf34 rfl rfl rfl rfl rfl (by repeat (first | exact Upd.here | apply Upd.there)) rfl rfl) rfl (fun _ => ?_)
 refine WL.nil ?_
 refine WQ.next ?_
 refine WC.seq ?_
 refine WC.region ?_
 refine WL.pure (Y.fieldAddr fa_34_0 rfl) rfl rfl rfl ?_
 refine WL.val (Y.load fl_3 rfl (by repeat (first | exact List.Mem.head _ | apply List.Mem.tail)) rfl) rfl rfl rfl ?_
 refine WL.pure (Y.eql rfl rfl) rfl rfl rfl ?_
 refine WL.nil ?_
 refine WQ.next ?_
 refine WC.cond rfl (fun h21 => ?_) (fun h21 => ?_)
 refine WC.region ?_
 refine WL.pure (Y.move rfl) rfl rfl rfl ?_
 refine WL.pure (Y.fieldAddr fa_34_1 rfl) rfl rfl rfl ?_
 refine WL.val (Y.load fl_3 rfl (by repeat (first | exact List.Mem.head _ | apply List.Mem.tail)) rfl) rfl rfl rfl ?_
 refine WL.eff (E.buildSlice (bs_64_1 _) rfl rfl) rfl (fun b2 => ?_)
 refine WL.eff (E.append Try.underlying64 hi0 hz0 hz1 hz2 rfl (by decide) rfl rfl rfl m0 rfl rfl (by unfold maxLen; omega) (by omega) rfl) rfl (fun i => ?_)
 refine WL.pure (Y.assign rfl) rfl rfl rfl ?_
 refine WL.nil ?_
 refine WQ.blockEnd ?_
 refine WQ.next ?_
 refine WC.region ?_
 refine WL.pure (Y.add rfl rfl (i64_in (by omega) (by omega))) rfl rfl rfl ?_
 refine WL.pure (Y.move rfl) rfl rfl rfl ?_
 refine WL.nil ?_
 · have e1 := wins_take hk'
   rw [if_pos (by simpa using h21)] at e1
   have e3 : (winsL (l.take (k + 1))).length = (winsL (l.take k)).length + 1 := by rw [e1]; simp
   refine fun a w s => ⟨(k + 1, i.1, i.2), by dsimp only; omega, by dsimp only; omega, ?_⟩
   try dsimp only
   rw [e3, e1, ints, List.map_append]
   exact s.noH.weak (by repeat (first | exact sub_nil _ | refine sub_cons rfl ?_))
 refine WC.skip' ?_
 refine WQ.blockEnd ?_
 refine WQ.next ?_
 refine WC.region ?_
 refine WL.pure (Y.add rfl rfl (i64_in (by omega) (by omega))) rfl rfl rfl ?_
 refine WL.pure (Y.move rfl) rfl rfl rfl ?_
 refine WL.nil ?_
 · have e1 := wins_take hk'
   rw [if_neg (by simpa using h21), List.append_nil] at e1
   refine fun a w s => ⟨(k + 1, A5, c5), by dsimp only; omega, by dsimp only; omega, ?_⟩
   try dsimp only
   rw [e1]
   exact s.noH.weak (by repeat (first | exact sub_nil _ | refine sub_cons rfl ?_))
 refine WC.exit ?_
 refine WQ.thenExit ?_
 refine WQ.thenExit ?_
 refine WQ.blockExit ?_
 refine WQ.next ?_
 refine WC.seq ?_
 refine WC.region ?_
 refine WL.pure (Y.move rfl) rfl rfl rfl ?_
 refine WL.pure (Y.assign rfl) rfl rfl rfl ?_
 refine WL.pure (Y.assign rfl) rfl rfl rfl ?_
 refine WL.nil ?_
 refine WQ.next ?_
 refine WC.ret ?_
 refine WQ.done Try.results67 (RVs.cons (RV.tmp rfl) (RVs.cons (RV.tmp rfl) RVs.nil)) (fun a w s => ?_)
 · have h16 := dec_lt h16
   simp only [Bool.false_eq_true, if_false] at h16
   rw [List.take_of_length_le h16] at s
   have e : winsOf l = winsL l := by unfold winsOf; rw [if_pos h0]
   refine ⟨(A5, c5), ?_, s.low, by rw [e]; exact s.fact⟩
   simp only [packed]
   rw [e, h0, List.take_of_length_le h16]

theorem w_docWins (l : List R) (A : Option Addr) (b o c : Nat) (w : World) (hm : l.length ≤ maxLen) (hcap : l.length ≤ c) (hr : RL w A b o l) : Calls Try.prog 72 [.slice A l.length c].toArray w fun e w' => ∃ i : Option Addr × Nat, e = .returned (.tuple #[.slice i.1 (winsOf l).length i.2, .int .i64 (logErr l)]) ∧ Below w.heap.size w w' ∧ w'.ownsRow w.heap.size 3 1 (.slice i.1 (winsOf l).length i.2) (winsOf l).length (ints (winsOf l)) := by
 obtain ⟨i0, hi0, hz0, hz1, hz2⟩ := info_parts int_info
 refine enter Try.func72 rfl Try.ntmps72 rfl SF.top trivial ?_
 refine WC.seq ?_
 refine WC.region ?_
 refine WL.pure (Y.assign rfl) rfl rfl rfl ?_
 refine WL.pure (Y.assign rfl) rfl rfl rfl ?_
 refine WL.nil ?_
 refine WQ.next ?_
 refine WC.seq ?_
 refine WC.seq ?_
 refine WC.region ?_
 refine WL.pure (Y.move rfl) rfl rfl rfl ?_
 refine WL.eff (E.call Try.call55 rfl (fun _ w s => w_logError l A b o c w hm hcap (hr.below s.low)) rfl) rfl (fun _ => ?_)
 refine WL.pure (Y.assign rfl) rfl rfl rfl ?_
 refine WL.nil ?_
 refine WQ.next ?_
 refine WC.seq ?_
 refine WC.region ?_
 refine WL.pure (Y.move rfl) rfl rfl rfl ?_
 refine WL.pure (Y.neq rfl rfl) rfl rfl rfl ?_
 refine WL.nil ?_
 refine WQ.next ?_
 refine WC.cond rfl (fun h10 => ?_) (fun h10 => ?_)
 refine WC.seq ?_
 refine WC.region ?_
 refine WL.pure (Y.move rfl) rfl rfl rfl ?_
 refine WL.pure (Y.assign rfl) rfl rfl rfl ?_
 refine WL.pure (Y.assign rfl) rfl rfl rfl ?_
 refine WL.nil ?_
 refine WQ.next ?_
 refine WC.ret ?_
 refine WQ.thenRet ?_
 refine WQ.done Try.results72 (RVs.cons (RV.tmp rfl) (RVs.cons (RV.tmp rfl) RVs.nil)) (fun a w s => ?_)
 · have e : winsOf l = [] := by unfold winsOf; rw [if_neg (by simpa using h10)]
   refine ⟨(none, 0), ?_, s.low, by rw [e]; exact own_nil _ _ _ _⟩
   rw [e]
   rfl
 refine WC.skip' ?_
 refine WQ.next ?_
 refine WC.seq ?_
 have h0 : logErr l = 0 := by simpa using h10
 have h60 := (log_right h0).1
 refine WC.region ?_
 refine WL.pure (Y.assign rfl) rfl rfl rfl ?_
 refine WL.nil ?_
 refine WQ.next ?_
 refine WC.seq ?_
 refine WC.seq ?_
 refine WC.region ?_
 refine WL.pure (Y.assign rfl) rfl rfl rfl ?_
 refine WL.nil ?_
 refine WQ.next ?_
 refine WC.block ?_
 refine WC.fact (SF.own w.heap.size 3 1 (.slice none 0 0) 0 []) (fun a w s => ⟨own_nil _ _ _ _, fun _ _ h => by cases h⟩) ?_
 refine WC.loop (ι := Nat × Option Addr × Nat) (fun k => [(0, .slice A l.length c), (5, .slice k.2.1 (winsL (l.take k.1)).length k.2.2), (6, .int .i64 k.1)]) (fun _ => []) (fun k => SF.own w.heap.size 3 1 (.slice k.2.1 (winsL (l.take k.1)).length k.2.2) (winsL (l.take k.1)).length (ints (winsL (l.take k.1)))) (fun k => k.1 ≤ l.length) (fun k => l.length - k.1) (0, none, 0) (Nat.zero_le _) (fun a w s => s.weak (by repeat (first | exact sub_nil _ | refine sub_cons rfl ?_))) (fun k hk => ?_)
 obtain ⟨k, A5, c5⟩ := k
 dsimp only at hk ⊢
 have hsl := winsL_len (l.take k)
 simp only [List.length_take] at hsl
 refine WC.seq ?_
 refine WC.seq ?_
 refine WC.region ?_
 refine WL.pure (Y.move rfl) rfl rfl rfl ?_
 refine WL.pure (Y.move rfl) rfl rfl rfl ?_
 refine WL.pure (Y.len Try.underlying39 rfl) rfl rfl rfl ?_
 refine WL.pure (Y.lss rfl rfl) rfl rfl rfl ?_
 refine WL.nil ?_
 refine WQ.next ?_
 refine WC.cond rfl (fun h15 => ?_) (fun h15 => ?_)
 refine WC.skip' ?_
 refine WQ.next ?_
 refine WC.seq ?_
 refine WC.block ?_
 refine WC.seq ?_
 refine WC.region ?_
 have h15 := dec_lt h15
 simp only [if_true] at h15
 obtain ⟨r, hk'⟩ := get_of_lt h15
 refine WL.pure (Y.move rfl) rfl rfl rfl ?_
 refine WL.pure (Y.move rfl) rfl rfl rfl ?_
 refine WL.pure (Y.ixSlA Try.underlying39 Try.sizeOf34 rfl rfl (hr.addr hk') (nat0 _) (get_ltI hk')) rfl rfl rfl ?_
 refine WL.pure (Y.fieldAddr fa_34_0 rfl) rfl rfl rfl ?_
 refine WL.val (Y.loadc fl_3 rfl (fun a w s => (hr.below s.low).cell _ _ hk' 0 _ rfl)) rfl rfl rfl ?_
 refine WL.pure (Y.eql rfl rfl) rfl rfl rfl ?_
 refine WL.nil ?_
 refine WQ.next ?_
 refine WC.cond rfl (fun h23 => ?_) (fun h23 => ?_)
 refine WC.region ?_
 refine WL.pure (Y.move rfl) rfl rfl rfl ?_
 refine WL.pure (Y.move rfl) rfl rfl rfl ?_
 refine WL.pure (Y.move rfl) rfl rfl rfl ?_
 refine WL.pure (Y.ixSlA Try.underlying39 Try.sizeOf34 rfl rfl (hr.addr hk') (nat0 _) (get_ltI hk')) rfl rfl rfl ?_
 refine WL.pure (Y.fieldAddr fa_34_1 rfl) rfl rfl rfl ?_
 refine WL.val (Y.loadc fl_3 rfl (fun a w s => (hr.below s.low).cell _ _ hk' 1 _ rfl)) rfl rfl rfl ?_
 refine WL.eff (E.buildSlice (bs_64_1 _) rfl rfl) rfl (fun b1 => ?_)
 refine WL.eff (E.append Try.underlying64 hi0 hz0 hz1 hz2 rfl (by decide) rfl rfl rfl m0 rfl rfl (by unfold maxLen; omega) (by omega) rfl) rfl (fun i => ?_)
 refine WL.pure (Y.assign rfl) rfl rfl rfl ?_
 refine WL.nil ?_
 refine WQ.blockEnd ?_
 refine WQ.next ?_
 refine WC.region ?_
 refine WL.pure (Y.move rfl) rfl rfl rfl ?_
 refine WL.pure (Y.add rfl rfl (i64_in (by omega) (by omega))) rfl rfl rfl ?_
 refine WL.pure (Y.assign rfl) rfl rfl rfl ?_
 refine WL.nil ?_
 · have e1 := wins_take hk'
   rw [if_pos (by simpa using h23)] at e1
   have e3 : (winsL (l.take (k + 1))).length = (winsL (l.take k)).length + 1 := by rw [e1]; simp
   refine fun a w s => ⟨(k + 1, i.1, i.2), by dsimp only; omega, by dsimp only; omega, ?_⟩
   try dsimp only
   rw [e3, e1, ints, List.map_append]
   exact s.noH.weak (by repeat (first | exact sub_nil _ | refine sub_cons rfl ?_))
 refine WC.skip' ?_
 refine WQ.blockEnd ?_
 refine WQ.next ?_
 refine WC.region ?_
 refine WL.pure (Y.move rfl) rfl rfl rfl ?_
 refine WL.pure (Y.add rfl rfl (i64_in (by omega) (by omega))) rfl rfl rfl ?_
 refine WL.pure (Y.assign rfl) rfl rfl rfl ?_
 refine WL.nil ?_
 · have e1 := wins_take hk'
   rw [if_neg (by simpa using h23), List.append_nil] at e1
   refine fun a w s => ⟨(k + 1, A5, c5), by dsimp only; omega, by dsimp only; omega, ?_⟩
   try dsimp only
   rw [e1]
   exact s.noH.weak (by repeat (first | exact sub_nil _ | refine sub_cons rfl ?_))
 refine WC.exit ?_
 refine WQ.thenExit ?_
 refine WQ.thenExit ?_
 refine WQ.blockExit ?_
 refine WQ.next ?_
 refine WC.seq ?_
 refine WC.region ?_
 refine WL.pure (Y.move rfl) rfl rfl rfl ?_
 refine WL.pure (Y.assign rfl) rfl rfl rfl ?_
 refine WL.pure (Y.assign rfl) rfl rfl rfl ?_
 refine WL.nil ?_
 refine WQ.next ?_
 refine WC.ret ?_
 refine WQ.done Try.results72 (RVs.cons (RV.tmp rfl) (RVs.cons (RV.tmp rfl) RVs.nil)) (fun a w s => ?_)
 · have h15 := dec_lt h15
   simp only [Bool.false_eq_true, if_false] at h15
   rw [List.take_of_length_le h15] at s
   have e : winsOf l = winsL l := by unfold winsOf; rw [if_pos h0]
   refine ⟨(A5, c5), ?_, s.low, by rw [e]; exact s.fact⟩
   simp only [packed]
   rw [e, h0, List.take_of_length_le h15]

theorem cw0 (l : List R) (f : Int → Bool) : (if logErr l = 0 then cellsW f (l.take 0).reverse else C9.zero) = C9.zero := by split <;> rfl

theorem w_cells (l : List R) (A : Option Addr) (b o c : Nat) (w : World) (hm : l.length ≤ maxLen) (hr : RL w A b o l) : Ret Try.prog 68 [.slice A l.length c] w (.tuple #[(cellsOf l).val, .int .i64 (logErr l)]) := by
 have hl63 : (l.length : Int) ≤ 9223372036854775807 := by unfold maxLen at hm; omega
 refine enter Try.func68 rfl Try.ntmps68 rfl SF.top trivial ?_
 refine WC.seq ?_
 refine WC.region ?_
 refine WL.eff (E.alloc Try.zeroValue67 rfl rfl) rfl (fun b1 => ?_)
 refine WL.pure (Y.assign rfl) rfl rfl rfl ?_
 refine WL.nil ?_
 refine WQ.next ?_
 refine WC.seq ?_
 refine WC.region ?_
 refine WL.pure (Y.move rfl) rfl rfl rfl ?_
 refine WL.eff (E.callF (fun i : Option Addr × Nat => .tuple #[.slice i.1 (winsOf l).length i.2, .int .i64 (logErr l)]) (fun i => SF.own w.heap.size 3 1 (.slice i.1 (winsOf l).length i.2) (winsOf l).length (ints (winsOf l))) Try.call67 rfl (fun _ w s => (w_wins l A b o c w (hr.below s.low)).mono fun e w' ⟨i, he, hb, ho⟩ => ⟨i, he, hb, ownsRow_le ho s.low.size, fun g hg => .inl (ho.lt g hg).1⟩) rfl) rfl (fun i => ?_)
 refine WL.pure (Y.move rfl) rfl rfl rfl ?_
 refine WL.pure (Y.extract rfl rfl) rfl rfl rfl ?_
 refine WL.pure (Y.extract rfl rfl) rfl rfl rfl ?_
 refine WL.pure (Y.assign rfl) rfl rfl rfl ?_
 refine WL.pure (Y.assign rfl) rfl rfl rfl ?_
 refine WL.nil ?_
 refine WQ.next ?_
 refine WC.seq ?_
 refine WC.seq ?_
 refine WC.region ?_
 refine WL.pure (Y.move rfl) rfl rfl rfl ?_
 refine WL.pure (Y.len Try.underlying39 rfl) rfl rfl rfl ?_
 refine WL.pure (Y.move rfl) rfl rfl rfl ?_
 refine WL.nil ?_
 refine WQ.next ?_
 refine WC.block ?_
 refine WC.loop (ι := Nat) (fun k => [(0, .slice A l.length c), (2, .pointer (some ⟨b1, 0, none⟩)), (3, .int .i64 (logErr l)), (4, .slice i.1 (winsOf l).length i.2), (12, .slice A l.length c), (13, .int .i64 l.length), (14, .int .i64 k)]) (fun k => [(b1, (if logErr l = 0 then cellsW (won l.reverse) (l.take k).reverse else C9.zero).cl, 67)]) (fun _ => SF.top.and (SF.own w.heap.size 3 1 (.slice i.1 (winsOf l).length i.2) (winsOf l).length (ints (winsOf l)))) (fun k => k ≤ l.length) (fun k => l.length - k) 0 (Nat.zero_le _) (fun a w s => by dsimp only; rw [cw0]; exact s.weak (by repeat (first | exact sub_nil _ | refine sub_cons rfl ?_))) (fun k hk => ?_)
 refine WC.seq ?_
 refine WC.region ?_
 refine WL.pure (Y.lss rfl rfl) rfl rfl rfl ?_
 refine WL.nil ?_
 refine WQ.next ?_
 refine WC.seq ?_
 refine WC.cond rfl (fun h15 => ?_) (fun h15 => ?_)
 refine WC.skip' ?_
 refine WQ.next ?_
 refine WC.seq ?_
 refine WC.block ?_
 refine WC.seq ?_
 refine WC.region ?_
 have h15 := dec_lt h15
 simp only [if_true] at h15
 obtain ⟨r, hk'⟩ := get_of_lt h15
 refine WL.pure (Y.ixSlA Try.underlying39 Try.sizeOf34 rfl rfl (hr.addr hk') (nat0 _) (get_ltI hk')) rfl rfl rfl ?_
 refine WL.val (Y.loadAc wd_34 rfl (r := r.cl) rfl (fun a w s j hj => (hr.below s.low).full hk' j hj)) rfl rfl rfl ?_
 refine WL.eff (E.alloc Try.zeroValue34 rfl rfl) rfl (fun b2 => ?_)
 refine WL.eff (E.store Try.sizeOf34 rfl rfl rfl rfl rfl u0 rfl rfl) rfl (fun _ => ?_)
 refine WL.nil ?_
 refine WQ.next ?_
 refine WC.seq ?_
 refine WC.region ?_
 refine WL.pure (Y.move rfl) rfl rfl rfl ?_
 refine WL.pure (Y.eql rfl rfl) rfl rfl rfl ?_
 refine WL.pure (Y.move rfl) rfl rfl rfl ?_
 refine WL.split (t := 20) rfl (fun r h20 => ?_)
 cases r
 refine WL.guardF rfl rfl rfl rfl rfl rfl ?_
 refine WL.guardF rfl rfl rfl rfl rfl rfl ?_
 refine WL.guardF rfl rfl rfl rfl rfl rfl ?_
 refine WL.pure (Y.pickF rfl rfl) rfl rfl rfl ?_
 refine WL.pure (Y.move rfl) rfl rfl rfl ?_
 refine WL.guardF rfl rfl rfl rfl rfl rfl ?_
 refine WL.guardF rfl rfl rfl rfl rfl rfl ?_
 refine WL.guardF rfl rfl rfl rfl rfl rfl ?_
 refine WL.guardF rfl rfl rfl rfl rfl rfl ?_
 refine WL.pure (Y.pickF rfl rfl) rfl rfl rfl ?_
 refine WL.nil ?_
 refine WQ.next ?_
 refine WC.condF rfl ?_
 refine WC.skip' ?_
 refine WQ.blockEnd ?_
 refine WQ.next ?_
 refine WC.region ?_
 refine WL.pure (Y.add rfl rfl (i64_in (by omega) (by omega))) rfl rfl rfl ?_
 refine WL.pure (Y.move rfl) rfl rfl rfl ?_
 refine WL.nil ?_
 · have e1 := cells_take (won l.reverse) hk'
   have e : (if logErr l = 0 then cellsW (won l.reverse) (l.take (k + 1)).reverse else C9.zero) = (if logErr l = 0 then cellsW (won l.reverse) (l.take k).reverse else C9.zero) := by
     rw [if_neg (by simpa using h20), if_neg (by simpa using h20)]
   refine fun a w s => ⟨k + 1, by omega, by omega, ?_⟩
   try dsimp only
   rw [e]
   exact (s.sub (Hsub.of_sub (List.sublist_cons_self _ _))).weak (by repeat (first | exact sub_nil _ | refine sub_cons rfl ?_))
 refine WL.guardT rfl rfl rfl ?_
 refine WL.pure (Y.fieldAddr fa_34_0 rfl) rfl rfl rfl ?_
 refine WL.guardT rfl rfl rfl ?_
 refine WL.val (Y.load fl_3 rfl m0 rfl) rfl rfl rfl ?_
 refine WL.guardT rfl rfl rfl ?_
 refine WL.pure (Y.eql rfl rfl) rfl rfl rfl ?_
 refine WL.pure (Y.pickT rfl rfl) rfl rfl rfl ?_
 refine WL.pure (Y.move rfl) rfl rfl rfl ?_
 refine WL.split (t := 25) rfl (fun r h25 => ?_)
 cases r
 refine WL.guardF rfl rfl rfl rfl rfl rfl ?_
 refine WL.guardF rfl rfl rfl rfl rfl rfl ?_
 refine WL.guardF rfl rfl rfl rfl rfl rfl ?_
 refine WL.guardF rfl rfl rfl rfl rfl rfl ?_
 refine WL.pure (Y.pickF rfl rfl) rfl rfl rfl ?_
 refine WL.nil ?_
 refine WQ.next ?_
 refine WC.condF rfl ?_
 refine WC.skip' ?_
 refine WQ.blockEnd ?_
 refine WQ.next ?_
 refine WC.region ?_
 refine WL.pure (Y.add rfl rfl (i64_in (by omega) (by omega))) rfl rfl rfl ?_
 refine WL.pure (Y.move rfl) rfl rfl rfl ?_
 refine WL.nil ?_
 · have e1 := cells_take (won l.reverse) hk'
   have e : (if logErr l = 0 then cellsW (won l.reverse) (l.take (k + 1)).reverse else C9.zero) = (if logErr l = 0 then cellsW (won l.reverse) (l.take k).reverse else C9.zero) := by
     rw [if_pos (by simpa using h20), if_pos (by simpa using h20), e1, if_neg (fun h => by simp [h.1] at h25)]
   refine fun a w s => ⟨k + 1, by omega, by omega, ?_⟩
   try dsimp only
   rw [e]
   exact (s.sub (Hsub.of_sub (List.sublist_cons_self _ _))).weak (by repeat (first | exact sub_nil _ | refine sub_cons rfl ?_))
 refine WL.guardT rfl rfl rfl ?_
 refine WL.pure (Y.move rfl) rfl rfl rfl ?_
 refine WL.guardT rfl rfl rfl ?_
 refine WL.pure (Y.fieldAddr fa_34_1 rfl) rfl rfl rfl ?_
 refine WL.guardT rfl rfl rfl ?_
 refine WL.val (Y.load fl_3 rfl m0 rfl) rfl rfl rfl ?_
 have h0 : logErr l = 0 := by simpa using h20
 have h60 := (log_right h0).1
 have hwl := winsL_len l
 have ewo : winsOf l = winsL l := by unfold winsOf; rw [if_pos h0]
 have hcon : (winsOf l).contains r.txn = won l.reverse r.txn := by rw [ewo, winsL_has]
 refine WL.guardT rfl rfl rfl ?_
 refine WL.eff (E.call Try.call135 rfl (fun _ w s => w_containsI (winsOf l) i.1 (gOf i.1) i.2 r.txn w (by rw [ewo]; omega) (own_IL rfl s.fact.2)) rfl) rfl (fun _ => ?_)
 refine WL.pure (Y.pickT rfl rfl) rfl rfl rfl ?_
 refine WL.nil ?_
 refine WQ.next ?_
 refine WC.cond rfl (fun h30 => ?_) (fun h30 => ?_)
 obtain ⟨hp, hc⟩ := (log_right h0).2.inR r (List.mem_reverse.2 (List.mem_of_getElem? hk')) (by simp at h25; simp [R.turns, h25])
 rw [if_pos h0]
 refine WC.draw [(0, .q false), (1, .q true), (2, .q false), (3, .q true), (4, .q false), (5, .q true), (6, .q false), (7, .q false), (8, .s true)] mixed (by kernel_rfl) ?_
 refine WDm.quiet (QS.pure (Y.fieldAddr fa_34_3 rfl) rfl rfl) rfl rfl rfl ?_
 refine WDm.quiet (QS.val (Y.load fl_3 rfl m0 rfl) rfl rfl) rfl rfl rfl ?_
 refine WDm.quiet (QS.pure (Y.fieldAddr fa_34_4 rfl) rfl rfl) rfl rfl rfl ?_
 refine WDm.quiet (QS.val (Y.load fl_3 rfl m0 rfl) rfl rfl) rfl rfl rfl ?_
 refine WDm.quiet (QS.pure (Y.fieldAddr fa_34_6 rfl) rfl rfl) rfl rfl rfl ?_
 refine WDm.quiet (QS.val (Y.load fl_3 rfl m0 rfl) rfl rfl) rfl rfl rfl ?_
 refine WDm.quiet (QS.pure (Y.ixArr Try.underlying67 Try.sizeOf22 rfl rfl hp.1 (by omega)) rfl rfl) rfl rfl rfl ?_
 refine WDm.quiet (QS.pure (Y.ixArr Try.underlying22 Try.sizeOf3 rfl rfl hc.1 (by omega)) rfl rfl) rfl rfl rfl ?_
 refine WDm.spec (WS.free rfl (E.storeP Try.sizeOf3 rfl rfl rfl rfl rfl u1 (by rw [nine_len]; omega) (put_nine _ _ _ _ hp hc))) (fun _ => sub_refl _) (fun _ => ?_)
 refine WDm.nil (WQ.and ?_)
 refine WQ.blockEnd ?_
 refine WQ.next ?_
 refine WC.region ?_
 refine WL.pure (Y.add rfl rfl (i64_in (by omega) (by omega))) rfl rfl rfl ?_
 refine WL.pure (Y.move rfl) rfl rfl rfl ?_
 refine WL.nil ?_
 · have e1 := cells_take (won l.reverse) hk'
   have e : (if logErr l = 0 then cellsW (won l.reverse) (l.take (k + 1)).reverse else C9.zero) = ((cellsW (won l.reverse) (l.take k).reverse).set r.page r.cell r.new) := by
     rw [if_pos h0, e1, if_pos ⟨by simpa using h25, hcon.symm.trans h30⟩]
   refine fun a w s => ⟨k + 1, by omega, by omega, ?_⟩
   try dsimp only
   rw [e]
   exact (s.sub (Hsub.of_sub (List.sublist_cons_self _ _))).weak (by repeat (first | exact sub_nil _ | refine sub_cons rfl ?_))
 refine WC.skip' ?_
 refine WQ.blockEnd ?_
 refine WQ.next ?_
 refine WC.region ?_
 refine WL.pure (Y.add rfl rfl (i64_in (by omega) (by omega))) rfl rfl rfl ?_
 refine WL.pure (Y.move rfl) rfl rfl rfl ?_
 refine WL.nil ?_
 · have e1 := cells_take (won l.reverse) hk'
   have e : (if logErr l = 0 then cellsW (won l.reverse) (l.take (k + 1)).reverse else C9.zero) = (if logErr l = 0 then cellsW (won l.reverse) (l.take k).reverse else C9.zero) := by
     rw [if_pos h0, if_pos h0, e1, if_neg (fun h => by rw [hcon, h.2] at h30; cases h30)]
   refine fun a w s => ⟨k + 1, by omega, by omega, ?_⟩
   try dsimp only
   rw [e]
   exact (s.sub (Hsub.of_sub (List.sublist_cons_self _ _))).weak (by repeat (first | exact sub_nil _ | refine sub_cons rfl ?_))
 refine WC.exit ?_
 refine WQ.thenExit ?_
 refine WQ.thenExit ?_
 refine WQ.blockExit ?_
 refine WQ.next ?_
 refine WC.seq ?_
 refine WC.region ?_
 refine WL.val (Y.loadAN wd_67 rfl m0 (r := ((if logErr l = 0 then cellsW (won l.reverse) (l.take k).reverse else C9.zero)).cl) rfl) rfl rfl rfl ?_
 refine WL.pure (Y.move rfl) rfl rfl rfl ?_
 refine WL.eff (E.store Try.sizeOf67 rfl rfl rfl rfl rfl u0 rfl rfl) rfl (fun _ => ?_)
 refine WL.pure (Y.assign rfl) rfl rfl rfl ?_
 refine WL.nil ?_
 refine WQ.next ?_
 refine WC.ret ?_
 refine WQ.done Try.results68 (RVs.cons (RV.cell wd_67 rfl m0 rfl) (RVs.cons (RV.tmp rfl) RVs.nil)) (fun a w s => ?_)
 · have h15 := dec_lt h15
   simp only [Bool.false_eq_true, if_false] at h15
   refine ⟨?_, s.low⟩
   clear s
   rw [List.take_of_length_le h15]
   rfl

theorem w_docCells (l : List R) (A : Option Addr) (b o c : Nat) (w : World) (hm : l.length ≤ maxLen) (hcap : l.length ≤ c) (hr : RL w A b o l) : Ret Try.prog 71 [.slice A l.length c] w (.tuple #[(cellsOf l).val, .int .i64 (logErr l)]) := by
 refine enter Try.func71 rfl Try.ntmps71 rfl SF.top trivial ?_
 refine WC.seq ?_
 refine WC.region ?_
 refine WL.eff (E.alloc Try.zeroValue67 rfl rfl) rfl (fun b1 => ?_)
 refine WL.pure (Y.assign rfl) rfl rfl rfl ?_
 refine WL.nil ?_
 refine WQ.next ?_
 refine WC.seq ?_
 refine WC.region ?_
 refine WL.eff (E.alloc Try.zeroValue67 rfl rfl) rfl (fun b2 => ?_)
 refine WL.nil ?_
 refine WQ.next ?_
 refine WC.seq ?_
 refine WC.seq ?_
 refine WC.region ?_
 refine WL.pure (Y.move rfl) rfl rfl rfl ?_
 refine WL.eff (E.call Try.call55 rfl (fun _ w s => w_logError l A b o c w hm hcap (hr.below s.low)) rfl) rfl (fun _ => ?_)
 refine WL.pure (Y.assign rfl) rfl rfl rfl ?_
 refine WL.nil ?_
 refine WQ.next ?_
 refine WC.seq ?_
 refine WC.region ?_
 refine WL.pure (Y.move rfl) rfl rfl rfl ?_
 refine WL.pure (Y.neq rfl rfl) rfl rfl rfl ?_
 refine WL.nil ?_
 refine WQ.next ?_
 refine WC.cond rfl (fun h10 => ?_) (fun h10 => ?_)
 refine WC.seq ?_
 refine WC.region ?_
 refine WL.val (Y.loadA wd_67 rfl m0 rfl) rfl rfl rfl ?_
 refine WL.pure (Y.move rfl) rfl rfl rfl ?_
 refine WL.eff (E.store Try.sizeOf67 rfl rfl rfl rfl rfl (by repeat (first | exact Upd.here | apply Upd.there)) rfl rfl) rfl (fun _ => ?_)
 refine WL.pure (Y.assign rfl) rfl rfl rfl ?_
 refine WL.nil ?_
 refine WQ.next ?_
 refine WC.ret ?_
 refine WQ.thenRet ?_
 refine WQ.done Try.results71 (RVs.cons (RV.cell wd_67 rfl m1 rfl) (RVs.cons (RV.tmp rfl) RVs.nil)) (fun a w s => ?_)
 · refine ⟨?_, s.low⟩
   clear s
   have e : cellsOf l = C9.zero := by unfold cellsOf; rw [if_neg (by simpa using h10)]
   rw [e]
   rfl
 refine WC.skip' ?_
 refine WQ.next ?_
 refine WC.seq ?_
 refine WC.seq ?_
 have h0 : logErr l = 0 := by simpa using h10
 obtain ⟨h60, hR⟩ := log_right h0
 refine WC.region ?_
 refine WL.pure (Y.assign rfl) rfl rfl rfl ?_
 refine WL.nil ?_
 refine WQ.next ?_
 refine WC.block ?_
 refine WC.loop (ι := Nat) (fun k => [(0, .slice A l.length c), (2, .pointer (some ⟨b1, 0, none⟩)), (4, .pointer (some ⟨b2, 0, none⟩)), (6, .int .i64 k)]) (fun k => [(b2, (cellsW (won l.reverse) (l.take k).reverse).cl, 67), (b1, C9.zero.cl, 67)]) (fun _ => SF.top) (fun k => k ≤ l.length) (fun k => l.length - k) 0 (Nat.zero_le _) (fun a w s => s.weak (by repeat (first | exact sub_nil _ | refine sub_cons rfl ?_))) (fun k hk => ?_)
 refine WC.seq ?_
 refine WC.seq ?_
 refine WC.region ?_
 refine WL.pure (Y.move rfl) rfl rfl rfl ?_
 refine WL.pure (Y.move rfl) rfl rfl rfl ?_
 refine WL.pure (Y.len Try.underlying39 rfl) rfl rfl rfl ?_
 refine WL.pure (Y.lss rfl rfl) rfl rfl rfl ?_
 refine WL.nil ?_
 refine WQ.next ?_
 refine WC.cond rfl (fun h16 => ?_) (fun h16 => ?_)
 refine WC.skip' ?_
 refine WQ.next ?_
 refine WC.seq ?_
 refine WC.block ?_
 refine WC.seq ?_
 refine WC.region ?_
 refine WL.pure (Y.move rfl) rfl rfl rfl ?_
 refine WL.pure (Y.move rfl) rfl rfl rfl ?_
 have h16 := dec_lt h16
 simp only [if_true] at h16
 obtain ⟨r, hk'⟩ := get_of_lt h16
 refine WL.pure (Y.ixSlA Try.underlying39 Try.sizeOf34 rfl rfl (hr.addr hk') (nat0 _) (get_ltI hk')) rfl rfl rfl ?_
 refine WL.pure (Y.fieldAddr fa_34_0 rfl) rfl rfl rfl ?_
 refine WL.val (Y.loadc fl_3 rfl (fun a w s => (hr.below s.low).cell _ _ hk' 0 _ rfl)) rfl rfl rfl ?_
 refine WL.pure (Y.eql rfl rfl) rfl rfl rfl ?_
 refine WL.pure (Y.move rfl) rfl rfl rfl ?_
 refine WL.split (t := 25) rfl (fun r h25 => ?_)
 cases r
 refine WL.guardF rfl rfl rfl rfl rfl rfl ?_
 refine WL.guardF rfl rfl rfl rfl rfl rfl ?_
 refine WL.guardF rfl rfl rfl rfl rfl rfl ?_
 refine WL.guardF rfl rfl rfl rfl rfl rfl ?_
 refine WL.guardF rfl rfl rfl rfl rfl rfl ?_
 refine WL.guardF rfl rfl rfl rfl rfl rfl ?_
 refine WL.guardF rfl rfl rfl rfl rfl rfl ?_
 refine WL.guardF rfl rfl rfl rfl rfl rfl ?_
 refine WL.pure (Y.pickF rfl rfl) rfl rfl rfl ?_
 have hw34 : decide ((0 : Int) < (cnt l.reverse r.txn 2 : Nat)) = won l.reverse r.txn := by unfold won; congr 1; simp
 refine WL.nil ?_
 refine WQ.next ?_
 refine WC.condF rfl ?_
 refine WC.skip' ?_
 refine WQ.blockEnd ?_
 refine WQ.next ?_
 refine WC.region ?_
 refine WL.pure (Y.move rfl) rfl rfl rfl ?_
 refine WL.pure (Y.add rfl rfl (i64_in (by omega) (by omega))) rfl rfl rfl ?_
 refine WL.pure (Y.assign rfl) rfl rfl rfl ?_
 refine WL.nil ?_
 · have e1 := cells_take (won l.reverse) hk'
   rw [if_neg (fun h => by simp [h.1] at h25)] at e1
   refine fun a w s => ⟨k + 1, by omega, by omega, ?_⟩
   try dsimp only
   rw [e1]
   exact s.weak (by repeat (first | exact sub_nil _ | refine sub_cons rfl ?_))
 refine WL.guardT rfl rfl rfl ?_
 refine WL.pure (Y.move rfl) rfl rfl rfl ?_
 refine WL.guardT rfl rfl rfl ?_
 refine WL.pure (Y.move rfl) rfl rfl rfl ?_
 refine WL.guardT rfl rfl rfl ?_
 refine WL.pure (Y.move rfl) rfl rfl rfl ?_
 refine WL.guardT rfl rfl rfl ?_
 refine WL.pure (Y.ixSlA Try.underlying39 Try.sizeOf34 rfl rfl (hr.addr hk') (nat0 _) (get_ltI hk')) rfl rfl rfl ?_
 refine WL.guardT rfl rfl rfl ?_
 refine WL.pure (Y.fieldAddr fa_34_1 rfl) rfl rfl rfl ?_
 refine WL.guardT rfl rfl rfl ?_
 refine WL.val (Y.loadc fl_3 rfl (fun a w s => (hr.below s.low).cell _ _ hk' 1 _ rfl)) rfl rfl rfl ?_
 refine WL.guardT rfl rfl rfl ?_
 refine WL.eff (E.call Try.call137 rfl (fun _ w s => w_count l A b o c r.txn 2 w h60 (hr.below s.low)) rfl) rfl (fun _ => ?_)
 refine WL.guardT rfl rfl rfl ?_
 refine WL.pure (Y.gtr rfl rfl) rfl rfl rfl ?_
 refine WL.pure (Y.pickT rfl rfl) rfl rfl rfl ?_
 have hw34 : decide ((0 : Int) < (cnt l.reverse r.txn 2 : Nat)) = won l.reverse r.txn := by unfold won; congr 1; simp
 refine WL.nil ?_
 refine WQ.next ?_
 refine WC.cond rfl (fun h34 => ?_) (fun h34 => ?_)
 obtain ⟨hp, hc⟩ := hR.inR r (List.mem_reverse.2 (List.mem_of_getElem? hk')) (by simp at h25; simp [R.turns, h25])
 refine WC.draw [(0, .q false), (1, .q false), (2, .q false), (3, .q false), (4, .q true), (5, .q false), (6, .q false), (7, .q false), (8, .q false), (9, .q true), (10, .q false), (11, .q false), (12, .q false), (13, .q false), (14, .q true), (15, .q false), (16, .q false), (17, .s true)] mixed (by kernel_rfl) ?_
 refine WDm.quiet (QS.pure (Y.move rfl) rfl rfl) rfl rfl rfl ?_
 refine WDm.quiet (QS.pure (Y.move rfl) rfl rfl) rfl rfl rfl ?_
 refine WDm.quiet (QS.pure (Y.ixSlA Try.underlying39 Try.sizeOf34 rfl rfl (hr.addr hk') (nat0 _) (get_ltI hk')) rfl rfl) rfl rfl rfl ?_
 refine WDm.quiet (QS.pure (Y.fieldAddr fa_34_3 rfl) rfl rfl) rfl rfl rfl ?_
 refine WDm.quiet (QS.val (Y.loadc fl_3 rfl (fun a w s => (hr.below s.low).cell _ _ hk' 3 _ rfl)) rfl rfl) rfl rfl rfl ?_
 refine WDm.quiet (QS.pure (Y.move rfl) rfl rfl) rfl rfl rfl ?_
 refine WDm.quiet (QS.pure (Y.move rfl) rfl rfl) rfl rfl rfl ?_
 refine WDm.quiet (QS.pure (Y.ixSlA Try.underlying39 Try.sizeOf34 rfl rfl (hr.addr hk') (nat0 _) (get_ltI hk')) rfl rfl) rfl rfl rfl ?_
 refine WDm.quiet (QS.pure (Y.fieldAddr fa_34_4 rfl) rfl rfl) rfl rfl rfl ?_
 refine WDm.quiet (QS.val (Y.loadc fl_3 rfl (fun a w s => (hr.below s.low).cell _ _ hk' 4 _ rfl)) rfl rfl) rfl rfl rfl ?_
 refine WDm.quiet (QS.pure (Y.move rfl) rfl rfl) rfl rfl rfl ?_
 refine WDm.quiet (QS.pure (Y.move rfl) rfl rfl) rfl rfl rfl ?_
 refine WDm.quiet (QS.pure (Y.ixSlA Try.underlying39 Try.sizeOf34 rfl rfl (hr.addr hk') (nat0 _) (get_ltI hk')) rfl rfl) rfl rfl rfl ?_
 refine WDm.quiet (QS.pure (Y.fieldAddr fa_34_6 rfl) rfl rfl) rfl rfl rfl ?_
 refine WDm.quiet (QS.val (Y.loadc fl_3 rfl (fun a w s => (hr.below s.low).cell _ _ hk' 6 _ rfl)) rfl rfl) rfl rfl rfl ?_
 refine WDm.quiet (QS.pure (Y.ixArr Try.underlying67 Try.sizeOf22 rfl rfl hp.1 (by omega)) rfl rfl) rfl rfl rfl ?_
 refine WDm.quiet (QS.pure (Y.ixArr Try.underlying22 Try.sizeOf3 rfl rfl hc.1 (by omega)) rfl rfl) rfl rfl rfl ?_
 refine WDm.spec (WS.free rfl (E.storeP Try.sizeOf3 rfl rfl rfl rfl rfl u0 (by rw [nine_len]; omega) (put_nine _ _ _ _ hp hc))) (fun _ => sub_refl _) (fun _ => ?_)
 refine WDm.nil (WQ.and ?_)
 refine WQ.blockEnd ?_
 refine WQ.next ?_
 refine WC.region ?_
 refine WL.pure (Y.move rfl) rfl rfl rfl ?_
 refine WL.pure (Y.add rfl rfl (i64_in (by omega) (by omega))) rfl rfl rfl ?_
 refine WL.pure (Y.assign rfl) rfl rfl rfl ?_
 refine WL.nil ?_
 · have e1 := cells_take (won l.reverse) hk'
   rw [if_pos ⟨by simpa using h25, by simpa [won] using h34⟩] at e1
   refine fun a w s => ⟨k + 1, by omega, by omega, ?_⟩
   try dsimp only
   rw [e1]
   exact s.weak (by repeat (first | exact sub_nil _ | refine sub_cons rfl ?_))
 refine WC.skip' ?_
 refine WQ.blockEnd ?_
 refine WQ.next ?_
 refine WC.region ?_
 refine WL.pure (Y.move rfl) rfl rfl rfl ?_
 refine WL.pure (Y.add rfl rfl (i64_in (by omega) (by omega))) rfl rfl rfl ?_
 refine WL.pure (Y.assign rfl) rfl rfl rfl ?_
 refine WL.nil ?_
 · have e1 := cells_take (won l.reverse) hk'
   rw [if_neg (fun h => by rw [h34] at hw34; rw [h.2] at hw34; cases hw34)] at e1
   refine fun a w s => ⟨k + 1, by omega, by omega, ?_⟩
   try dsimp only
   rw [e1]
   exact s.weak (by repeat (first | exact sub_nil _ | refine sub_cons rfl ?_))
 refine WC.exit ?_
 refine WQ.thenExit ?_
 refine WQ.thenExit ?_
 refine WQ.blockExit ?_
 refine WQ.next ?_
 refine WC.seq ?_
 refine WC.region ?_
 refine WL.val (Y.loadAN wd_67 rfl m0 (r := (cellsW (won l.reverse) (l.take k).reverse).cl) rfl) rfl rfl rfl ?_
 refine WL.eff (E.store Try.sizeOf67 rfl rfl rfl rfl rfl (by repeat (first | exact Upd.here | apply Upd.there)) rfl rfl) rfl (fun _ => ?_)
 refine WL.pure (Y.assign rfl) rfl rfl rfl ?_
 refine WL.nil ?_
 refine WQ.next ?_
 refine WC.ret ?_
 refine WQ.done Try.results71 (RVs.cons (RV.cell wd_67 rfl m1 rfl) (RVs.cons (RV.tmp rfl) RVs.nil)) (fun a w s => ?_)
 · refine ⟨?_, s.low⟩
   clear s
   have h16 := dec_lt h16
   simp only [Bool.false_eq_true, if_false] at h16
   have e : cellsOf l = cellsH l.reverse := by unfold cellsOf; rw [if_pos h0]
   rw [List.take_of_length_le h16, e, h0]
   rfl
end Go.Proofs.Ytdbcimadjmdffaa
