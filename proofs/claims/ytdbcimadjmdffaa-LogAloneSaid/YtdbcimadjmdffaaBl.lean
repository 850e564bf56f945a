/- The law LogAlone: no two Txns that are not over have Writes of one cell that stand. No condition. -/
import Derived.Test.YtdbcimadjmdffaaCh
import Derived.Test.YtdbcimadjmdffaaBj
set_option maxRecDepth 100000
set_option linter.unusedVariables false
set_option linter.unusedSimpArgs false
set_option linter.unusedSectionVars false
set_option maxHeartbeats 4000000
namespace Go.Proofs.Ytdbcimadjmdffaa
open Go.RowKit Go.Joins
theorem flat_take : ∀ (l : List R) (j : Nat), (flat l).take (j * 8) = flat (l.take j)
  | [], j => by simp [flat]
  | r :: l, 0 => by simp [flat]
  | r :: l, j + 1 => by
    have ih := flat_take l j
    have e : flat (r :: l) = r.cl ++ flat l := by simp [flat]
    have e2 : flat ((r :: l).take (j + 1)) = r.cl ++ flat (l.take j) := by simp [flat]
    rw [e, e2, List.take_append, ← ih]
    have : r.cl.length = 8 := rfl
    rw [this, List.take_of_length_le (by rw [this]; omega)]
    congr 2
    omega
theorem own_cut_le (base : Nat) (A : Option Addr) (c : Nat) (S : List R) : (SF.own base 34 8 (.slice A S.length c) S.length (flat S.reverse)).le (SF.own base 34 8 (.slice A S.tail.length c) S.tail.length (flat S.tail.reverse)) := fun w h => by
  have h1 := own_cut (show w.ownsRow base 34 8 (.slice A S.length c) S.length (flat S.reverse) from h) (j := S.length - 1) (by omega)
  have e : S.tail.length = S.length - 1 := List.length_tail
  have e2 : flat S.tail.reverse = (flat S.reverse).take ((S.length - 1) * 8) := by
    rw [flat_take]
    congr 1
    cases S with
    | nil => rfl
    | cons a S => simp
  refine ⟨?_, fun b hb => own_blk2 (A := A) hb⟩
  show w.ownsRow base 34 8 (.slice A S.tail.length c) S.tail.length (flat S.tail.reverse)
  rw [e, e2]
  exact h1
theorem sta_len : ∀ (h : List R) (t : Int), (sta h t).length ≤ h.length
  | [], _ => by simp [sta]
  | r :: h, t => by
    have ih := sta_len h t
    unfold sta
    split
    · split
      · simp; omega
      · split
        · simp; omega
        · simp; omega
    · simp; omega

theorem w_standing (l : List R) (A : Option Addr) (b o c : Nat) (t : Int) (w : World) (hl : l.length ≤ 60) (hr : RL w A b o l) : Calls Try.prog 61 [.slice A l.length c, .int .i64 t].toArray w fun e w' => ∃ i : Option Addr × Nat, e = .returned (.slice i.1 (sta l.reverse t).length i.2) ∧ Below w.heap.size w w' ∧ w'.ownsRow w.heap.size 34 8 (.slice i.1 (sta l.reverse t).length i.2) (sta l.reverse t).length (flat (sta l.reverse t).reverse) := by
 obtain ⟨i3, hi3, hz30, hz31, hz32⟩ := info_parts rec_info
 refine enter Try.func61 rfl Try.ntmps61 rfl SF.top trivial ?_
 refine WC.seq ?_
 refine WC.region ?_
 refine WL.pure (Y.assign rfl) rfl rfl rfl ?_
 refine WL.nil ?_
 refine WQ.next ?_
 refine WC.seq ?_
 refine WC.region ?_
 refine WL.pure (Y.assign rfl) rfl rfl rfl ?_
 refine WL.nil ?_
 refine WQ.next ?_
 refine WC.seq ?_
 refine WC.seq ?_
 refine WC.region ?_
 refine WL.pure (Y.assign rfl) rfl rfl rfl ?_
 refine WL.nil ?_
 refine WQ.next ?_
 refine WC.block ?_
 refine WC.fact (SF.own w.heap.size 34 8 (.slice none 0 0) 0 []) (fun a w s => ⟨own_nil _ _ _ _, fun _ _ h => by cases h⟩) ?_
 refine WC.loop (ι := Nat × Option Addr × Nat) (fun k => [(0, .slice A l.length c), (1, .int .i64 t), (5, .slice k.2.1 (sta (l.take k.1).reverse t).length k.2.2), (6, .int .i64 k.1)]) (fun _ => []) (fun k => SF.own w.heap.size 34 8 (.slice k.2.1 (sta (l.take k.1).reverse t).length k.2.2) (sta (l.take k.1).reverse t).length (flat (sta (l.take k.1).reverse t).reverse)) (fun k => k.1 ≤ l.length) (fun k => l.length - k.1) (0, none, 0) (Nat.zero_le _) (fun a w s => s.weak (by repeat (first | exact sub_nil _ | refine sub_cons rfl ?_))) (fun k hk => ?_)
 obtain ⟨k, A5, c5⟩ := k
 dsimp only at hk ⊢
 have hsl := sta_len (l.take k).reverse t
 simp only [List.length_reverse, List.length_take] at hsl
 refine WC.seq ?_
 refine WC.seq ?_
 refine WC.region ?_
 refine WL.pure (Y.move rfl) rfl rfl rfl ?_
 refine WL.pure (Y.move rfl) rfl rfl rfl ?_
 refine WL.pure (Y.len Try.underlying39 rfl) rfl rfl rfl ?_
 refine WL.pure (Y.lss rfl rfl) rfl rfl rfl ?_
 refine WL.nil ?_
 refine WQ.next ?_
 refine WC.cond rfl (fun h10 => ?_) (fun h10 => ?_)
 refine WC.skip' ?_
 refine WQ.next ?_
 refine WC.seq ?_
 refine WC.block ?_
 refine WC.block ?_
 refine WC.seq ?_
 refine WC.region ?_
 have h10 := dec_lt h10
 simp only [if_true] at h10
 obtain ⟨r, hk'⟩ := get_of_lt h10
 refine WL.pure (Y.move rfl) rfl rfl rfl ?_
 refine WL.pure (Y.move rfl) rfl rfl rfl ?_
 refine WL.pure (Y.ixSlA Try.underlying39 Try.sizeOf34 rfl rfl (hr.addr hk') (nat0 _) (get_ltI hk')) rfl rfl rfl ?_
 refine WL.pure (Y.fieldAddr fa_34_1 rfl) rfl rfl rfl ?_
 refine WL.val (Y.loadc fl_3 rfl (fun a w s => (hr.below s.low).cell _ _ hk' 1 _ rfl)) rfl rfl rfl ?_
 refine WL.pure (Y.move rfl) rfl rfl rfl ?_
 refine WL.pure (Y.neq rfl rfl) rfl rfl rfl ?_
 refine WL.pure (Y.assign rfl) rfl rfl rfl ?_
 refine WL.nil ?_
 refine WQ.next ?_
 refine WC.cond rfl (fun h13 => ?_) (fun h13 => ?_)
 refine WC.skip' ?_
 refine WQ.blockEnd ?_
 refine WQ.blockEnd ?_
 refine WQ.next ?_
 refine WC.region ?_
 refine WL.pure (Y.move rfl) rfl rfl rfl ?_
 refine WL.pure (Y.add rfl rfl (i64_in (by omega) (by omega))) rfl rfl rfl ?_
 refine WL.pure (Y.assign rfl) rfl rfl rfl ?_
 refine WL.nil ?_
 · have e1 := takeS hk'
   have e2 : sta (l.take (k + 1)).reverse t = (sta (l.take k).reverse t) := by
     rw [e1, sta]
     simp at h13
     first
       | (rw [if_neg h13]; done)
       | (simp at h21 h42; rw [if_pos h13, if_neg h21, if_neg h42]; done)
       | (simp at h21 h42 h35; rw [if_pos h13, if_neg h21, if_pos h42, h35]; rfl)
   refine fun a w s => ⟨(k + 1, A5, c5), by dsimp only; omega, by dsimp only; omega, ?_⟩
   try dsimp only
   rw [e2]
   exact s.weak (by repeat (first | exact sub_nil _ | refine sub_cons rfl ?_))
 refine WC.seq ?_
 refine WC.region ?_
 refine WL.pure (Y.move rfl) rfl rfl rfl ?_
 refine WL.pure (Y.move rfl) rfl rfl rfl ?_
 refine WL.pure (Y.ixSlA Try.underlying39 Try.sizeOf34 rfl rfl (hr.addr hk') (nat0 _) (get_ltI hk')) rfl rfl rfl ?_
 refine WL.pure (Y.fieldAddr fa_34_0 rfl) rfl rfl rfl ?_
 refine WL.val (Y.loadc fl_3 rfl (fun a w s => (hr.below s.low).cell _ _ hk' 0 _ rfl)) rfl rfl rfl ?_
 refine WL.pure (Y.eql rfl rfl) rfl rfl rfl ?_
 refine WL.pure (Y.assign rfl) rfl rfl rfl ?_
 refine WL.nil ?_
 refine WQ.next ?_
 refine WC.cond rfl (fun h21 => ?_) (fun h21 => ?_)
 refine WC.region ?_
 refine WL.pure (Y.move rfl) rfl rfl rfl ?_
 refine WL.pure (Y.move rfl) rfl rfl rfl ?_
 refine WL.pure (Y.move rfl) rfl rfl rfl ?_
 refine WL.pure (Y.ixSlA Try.underlying39 Try.sizeOf34 rfl rfl (hr.addr hk') (nat0 _) (get_ltI hk')) rfl rfl rfl ?_
 refine WL.val (Y.loadAc wd_34 rfl (r := r.cl) rfl (fun a w s j hj => (hr.below s.low).full hk' j hj)) rfl rfl rfl ?_
 refine WL.eff (E.buildSlice (bs_39_1 _ _ _ _ _ _ _ _) rfl rfl) rfl (fun b1 => ?_)
 refine WL.eff (E.append Try.underlying39 hi3 hz30 hz31 hz32 rfl (by decide) rfl rfl rfl m0 rfl rfl (by unfold maxLen; omega) (by omega) rfl) rfl (fun i => ?_)
 refine WL.pure (Y.assign rfl) rfl rfl rfl ?_
 refine WL.nil ?_
 refine WQ.blockEnd ?_
 refine WQ.blockEnd ?_
 refine WQ.next ?_
 refine WC.region ?_
 refine WL.pure (Y.move rfl) rfl rfl rfl ?_
 refine WL.pure (Y.add rfl rfl (i64_in (by omega) (by omega))) rfl rfl rfl ?_
 refine WL.pure (Y.assign rfl) rfl rfl rfl ?_
 refine WL.nil ?_
 · have e1 := takeS hk'
   have e2 : sta (l.take (k + 1)).reverse t = r :: (sta (l.take k).reverse t) := by simp at h13 h21; rw [e1, sta, if_pos h13, if_pos h21]
   have e3 : (sta (l.take (k + 1)).reverse t).length = (sta (l.take k).reverse t).length + 1 := by rw [e2]; rfl
   have e4 : flat (sta (l.take (k + 1)).reverse t).reverse = flat (sta (l.take k).reverse t).reverse ++ r.cl := by rw [e2, List.reverse_cons, flat_app]
   refine fun a w s => ⟨(k + 1, i.1, i.2), by dsimp only; omega, by dsimp only; omega, ?_⟩
   try dsimp only
   rw [e3, e4]
   exact s.noH.weak (by repeat (first | exact sub_nil _ | refine sub_cons rfl ?_))
 refine WC.seq ?_
 refine WC.region ?_
 refine WL.pure (Y.move rfl) rfl rfl rfl ?_
 refine WL.pure (Y.move rfl) rfl rfl rfl ?_
 refine WL.pure (Y.ixSlA Try.underlying39 Try.sizeOf34 rfl rfl (hr.addr hk') (nat0 _) (get_ltI hk')) rfl rfl rfl ?_
 refine WL.pure (Y.fieldAddr fa_34_0 rfl) rfl rfl rfl ?_
 refine WL.val (Y.loadc fl_3 rfl (fun a w s => (hr.below s.low).cell _ _ hk' 0 _ rfl)) rfl rfl rfl ?_
 refine WL.pure (Y.eql rfl rfl) rfl rfl rfl ?_
 refine WL.pure (Y.move rfl) rfl rfl rfl ?_
 refine WL.split (t := 42) rfl (fun r h42 => ?_)
 cases r
 refine WL.guardF rfl rfl rfl rfl rfl rfl ?_
 refine WL.guardF rfl rfl rfl rfl rfl rfl ?_
 refine WL.guardF rfl rfl rfl rfl rfl rfl ?_
 refine WL.pure (Y.pickF rfl rfl) rfl rfl rfl ?_
 refine WL.pure (Y.assign rfl) rfl rfl rfl ?_
 refine WL.nil ?_
 refine WQ.next ?_
 refine WC.condF rfl ?_
 refine WC.skip' ?_
 refine WQ.blockEnd ?_
 refine WQ.blockEnd ?_
 refine WQ.next ?_
 refine WC.region ?_
 refine WL.pure (Y.move rfl) rfl rfl rfl ?_
 refine WL.pure (Y.add rfl rfl (i64_in (by omega) (by omega))) rfl rfl rfl ?_
 refine WL.pure (Y.assign rfl) rfl rfl rfl ?_
 refine WL.nil ?_
 · have e1 := takeS hk'
   have e2 : sta (l.take (k + 1)).reverse t = (sta (l.take k).reverse t) := by
     rw [e1, sta]
     simp at h13
     first
       | (rw [if_neg h13]; done)
       | (simp at h21 h42; rw [if_pos h13, if_neg h21, if_neg h42]; done)
       | (simp at h21 h42 h35; rw [if_pos h13, if_neg h21, if_pos h42, h35]; rfl)
   refine fun a w s => ⟨(k + 1, A5, c5), by dsimp only; omega, by dsimp only; omega, ?_⟩
   try dsimp only
   rw [e2]
   exact s.weak (by repeat (first | exact sub_nil _ | refine sub_cons rfl ?_))
 refine WL.guardT rfl rfl rfl ?_
 refine WL.pure (Y.move rfl) rfl rfl rfl ?_
 refine WL.guardT rfl rfl rfl ?_
 refine WL.pure (Y.len Try.underlying39 rfl) rfl rfl rfl ?_
 refine WL.guardT rfl rfl rfl ?_
 refine WL.pure (Y.gtr rfl rfl) rfl rfl rfl ?_
 refine WL.pure (Y.pickT rfl rfl) rfl rfl rfl ?_
 refine WL.pure (Y.assign rfl) rfl rfl rfl ?_
 refine WL.nil ?_
 refine WQ.next ?_
 refine WC.cond rfl (fun h35 => ?_) (fun h35 => ?_)
 have hS : 1 ≤ (sta (l.take k).reverse t).length := by simp at h35; omega
 refine WC.know (p := (sta (l.take k).reverse t).length ≤ c5) (fun a w s => own_le s.fact) (fun hcap => ?_)
 refine WC.region ?_
 refine WL.pure (Y.move rfl) rfl rfl rfl ?_
 refine WL.pure (Y.move rfl) rfl rfl rfl ?_
 refine WL.pure (Y.len Try.underlying39 rfl) rfl rfl rfl ?_
 refine WL.pure (Y.sub rfl rfl (i64_sub1 hS (by omega))) rfl rfl rfl ?_
 refine WL.pure (Y.slToN ((sta (l.take k).reverse t).length - 1) rfl Try.underlying39 Try.sizeOf34 rfl rfl (by omega)) rfl rfl rfl ?_
 refine WL.pure (Y.assign rfl) rfl rfl rfl ?_
 refine WL.nil ?_
 refine WQ.blockEnd ?_
 refine WQ.blockEnd ?_
 refine WQ.next ?_
 refine WC.region ?_
 refine WL.pure (Y.move rfl) rfl rfl rfl ?_
 refine WL.pure (Y.add rfl rfl (i64_in (by omega) (by omega))) rfl rfl rfl ?_
 refine WL.pure (Y.assign rfl) rfl rfl rfl ?_
 refine WL.nil ?_
 · have e1 := takeS hk'
   have e2 : sta (l.take (k + 1)).reverse t = (sta (l.take k).reverse t).tail := by simp at h13 h21 h42; rw [e1, sta, if_pos h13, if_neg h21, if_pos h42]
   have e3 : (sta (l.take k).reverse t).length - 1 = (sta (l.take k).reverse t).tail.length := List.length_tail.symm
   refine fun a w s => ⟨(k + 1, A5, c5), by dsimp only; omega, by dsimp only; omega, ?_⟩
   try dsimp only
   rw [e2, ← e3]
   have s2 := s.le (own_cut_le _ A5 c5 (sta (l.take k).reverse t))
   rw [← e3] at s2
   exact s2.weak (by repeat (first | exact sub_nil _ | refine sub_cons rfl ?_))
 refine WC.skip' ?_
 refine WQ.blockEnd ?_
 refine WQ.blockEnd ?_
 refine WQ.next ?_
 refine WC.region ?_
 refine WL.pure (Y.move rfl) rfl rfl rfl ?_
 refine WL.pure (Y.add rfl rfl (i64_in (by omega) (by omega))) rfl rfl rfl ?_
 refine WL.pure (Y.assign rfl) rfl rfl rfl ?_
 refine WL.nil ?_
 · have e1 := takeS hk'
   have e2 : sta (l.take (k + 1)).reverse t = (sta (l.take k).reverse t) := by
     rw [e1, sta]
     simp at h13
     first
       | (rw [if_neg h13]; done)
       | (simp at h21 h42; rw [if_pos h13, if_neg h21, if_neg h42]; done)
       | (simp at h21 h42 h35; rw [if_pos h13, if_neg h21, if_pos h42, h35]; rfl)
   refine fun a w s => ⟨(k + 1, A5, c5), by dsimp only; omega, by dsimp only; omega, ?_⟩
   try dsimp only
   rw [e2]
   exact s.weak (by repeat (first | exact sub_nil _ | refine sub_cons rfl ?_))
 refine WC.exit ?_
 refine WQ.thenExit ?_
 refine WQ.thenExit ?_
 refine WQ.blockExit ?_
 refine WQ.next ?_
 refine WC.seq ?_
 refine WC.region ?_
 refine WL.pure (Y.move rfl) rfl rfl rfl ?_
 refine WL.pure (Y.assign rfl) rfl rfl rfl ?_
 refine WL.nil ?_
 refine WQ.next ?_
 refine WC.ret ?_
 refine WQ.done Try.results61 (RVs.cons (RV.tmp rfl) RVs.nil) (fun a w s => ?_)
 · have h10 := dec_lt h10
   simp only [Bool.false_eq_true, if_false] at h10
   have e : l.take k = l := by rw [List.take_of_length_le h10]
   rw [e] at s
   refine ⟨(A5, c5), ?_, s.low, s.fact⟩
   simp only [packed]
   rw [e]

theorem alone_f {h : List R} (hr : Right h) {t u s1 s2 : Int} (e1 : s1 = stt h t) (e2 : s2 = stt h u) {x y : R} (hx : x ∈ sta h t) (hy : y ∈ sta h u) (h86 : (t != u) = true) (h90 : (s1 != 4) = true) (h94 : (s2 != 4) = true) (h107 : (x.page == y.page) = true) : (x.cell == y.cell) = false := by
  cases hcc : (x.cell == y.cell)
  · rfl
  · exfalso
    simp at h86 h90 h94 h107 hcc
    exact h86 (alone hr (by omega) (by omega) hx hy h107 hcc)

theorem own_RLr {w : World} {base c : Nat} {A : Option Addr} {S : List R} (h : w.ownsRow base 34 8 (.slice A S.length c) S.length (flat S.reverse)) : RL w A (gOf A) 0 S.reverse := by
  have e : S.length = S.reverse.length := List.length_reverse.symm
  rw [e] at h
  exact own_RL h
theorem p3_at (p : P3) (i c : Int) (hi : 0 ≤ i ∧ i ≤ 2) (hc : 0 ≤ c ∧ c ≤ 2) : nth p.cl (0 + i.toNat * 4 + 0 + c.toNat * 1) = some (.int .i64 ((p.get i).cellAt c)) := by
  have h1 : i = 0 ∨ i = 1 ∨ i = 2 := by omega
  have h2 : c = 0 ∨ c = 1 ∨ c = 2 := by omega
  rcases h1 with rfl | rfl | rfl <;> rcases h2 with rfl | rfl | rfl <;> rfl
theorem last_rev {S : List R} (h : 1 ≤ S.length) : ∃ x xs, S = x :: xs ∧ S.reverse[S.length - 1]? = some x := by
  cases S with
  | nil => simp at h
  | cons x xs => exact ⟨x, xs, rfl, by simp⟩

theorem w_LogAlone (l : List R) (A : Option Addr) (b o c : Nat) (a e : Int) (w : World) (hm : l.length ≤ maxLen) (hcap : l.length ≤ c) (hr : RL w A b o l) (ha : -9223372036854775808 ≤ a ∧ a ≤ 9223372036854775807) (he : -9223372036854775808 ≤ e ∧ e ≤ 9223372036854775807) : Ret Try.prog 12 [.slice A l.length c, .int .i64 a, .int .i64 e] w (.bool true) := by
 have hca := choose_bnd (c := a) (n := 9) (by omega)
 have hce := choose_bnd (c := e) (n := 9) (by omega)
 have hta : 1 ≤ (1 + chooseI a 9) ∧ (1 + chooseI a 9) ≤ 9 := by omega
 have hte : 1 ≤ (1 + chooseI e 9) ∧ (1 + chooseI e 9) ≤ 9 := by omega
 refine enter Try.func12 rfl Try.ntmps12 rfl SF.top trivial ?_
 refine WC.seq ?_
 refine WC.region ?_
 refine WL.pure (Y.assign rfl) rfl rfl rfl ?_
 refine WL.nil ?_
 refine WQ.next ?_
 refine WC.seq ?_
 refine WC.region ?_
 refine WL.pure (Y.move rfl) rfl rfl rfl ?_
 refine WL.eff (E.call Try.call56 rfl (fun _ w s => w_logPages l A b o c w (hr.below s.low)) rfl) rfl (fun _ => ?_)
 refine WL.pure (Y.move rfl) rfl rfl rfl ?_
 refine WL.pure (Y.extract rfl rfl) rfl rfl rfl ?_
 refine WL.pure (Y.extract rfl rfl) rfl rfl rfl ?_
 refine WL.eff (E.alloc Try.zeroValue42 rfl rfl) rfl (fun b1 => ?_)
 refine WL.eff (E.store Try.sizeOf42 rfl rfl rfl rfl rfl u0 rfl rfl) rfl (fun _ => ?_)
 refine WL.pure (Y.assign rfl) rfl rfl rfl ?_
 refine WL.nil ?_
 refine WQ.next ?_
 refine WC.seq ?_
 refine WC.seq ?_
 refine WC.region ?_
 refine WL.pure (Y.move rfl) rfl rfl rfl ?_
 refine WL.pure (Y.neq rfl rfl) rfl rfl rfl ?_
 refine WL.pure (Y.move rfl) rfl rfl rfl ?_
 refine WL.split (t := 29) rfl (fun r h29 => ?_)
 cases r
 refine WL.guardT rfl rfl rfl ?_
 refine WL.pure (Y.move rfl) rfl rfl rfl ?_
 refine WL.guardT rfl rfl rfl ?_
 refine WL.eff (E.call Try.call55 rfl (fun _ w s => w_logError l A b o c w hm hcap (hr.below s.low)) rfl) rfl (fun _ => ?_)
 refine WL.guardT rfl rfl rfl ?_
 refine WL.pure (Y.neq rfl rfl) rfl rfl rfl ?_
 refine WL.pure (Y.pickF rfl rfl) rfl rfl rfl ?_
 refine WL.nil ?_
 refine WQ.next ?_
 refine WC.cond rfl (fun h33 => ?_) (fun h33 => ?_)
 refine WC.seq ?_
 refine WC.region ?_
 refine WL.eff (E.call Try.call53 rfl (fun _ w s => w_logBegun w) rfl) rfl (fun _ => ?_)
 refine WL.pure (Y.move rfl) rfl rfl rfl ?_
 refine WL.guardT rfl rfl rfl ?_
 refine WL.pure (Y.move rfl) rfl rfl rfl ?_
 refine WL.guardT rfl rfl rfl ?_
 refine WL.pure (Y.neq rfl rfl) rfl rfl rfl ?_
 refine WL.pure (Y.pickT rfl rfl) rfl rfl rfl ?_
 refine WL.pure (Y.assign rfl) rfl rfl rfl ?_
 refine WL.nil ?_
 refine WQ.next ?_
 refine WC.ret ?_
 refine WQ.thenRet ?_
 refine WQ.done Try.results12 (RVs.cons (RV.tmp rfl) RVs.nil) (fun a w s => ?_)
 · refine ⟨?_, s.low⟩
   clear s
   simp only [packed]
   simp_all
 refine WC.skip' ?_
 refine WQ.next ?_
 refine WC.seq ?_
 have h0 : logErr l = 0 := by simpa using h33
 have h60 := (log_right h0).1
 have hR := (log_right h0).2
 have e1 := logState_ok h0 hta
 have e2 := logState_ok h0 hte
 refine WC.region ?_
 refine WL.pure (Y.move rfl) rfl rfl rfl ?_
 refine WL.eff (E.call Try.call60 rfl (fun _ w s => w_choose a 9 w ha (by omega)) rfl) rfl (fun _ => ?_)
 refine WL.pure (Y.add rfl rfl (i64_in (by omega) (by omega))) rfl rfl rfl ?_
 refine WL.pure (Y.move rfl) rfl rfl rfl ?_
 refine WL.eff (E.call Try.call60 rfl (fun _ w s => w_choose e 9 w he (by omega)) rfl) rfl (fun _ => ?_)
 refine WL.pure (Y.add rfl rfl (i64_in (by omega) (by omega))) rfl rfl rfl ?_
 refine WL.pure (Y.assign rfl) rfl rfl rfl ?_
 refine WL.pure (Y.assign rfl) rfl rfl rfl ?_
 refine WL.nil ?_
 refine WQ.next ?_
 refine WC.seq ?_
 refine WC.region ?_
 refine WL.pure (Y.move rfl) rfl rfl rfl ?_
 refine WL.pure (Y.move rfl) rfl rfl rfl ?_
 refine WL.eff (E.call Try.call58 rfl (fun _ w s => w_logState l A b o c (1 + chooseI a 9) w (hr.below s.low)) rfl) rfl (fun _ => ?_)
 refine WL.pure (Y.move rfl) rfl rfl rfl ?_
 refine WL.pure (Y.extract rfl rfl) rfl rfl rfl ?_
 refine WL.pure (Y.extract rfl rfl) rfl rfl rfl ?_
 refine WL.pure (Y.extract rfl rfl) rfl rfl rfl ?_
 refine WL.pure (Y.assign rfl) rfl rfl rfl ?_
 refine WL.pure (Y.assign rfl) rfl rfl rfl ?_
 refine WL.pure (Y.assign rfl) rfl rfl rfl ?_
 refine WL.nil ?_
 refine WQ.next ?_
 refine WC.seq ?_
 refine WC.region ?_
 refine WL.pure (Y.move rfl) rfl rfl rfl ?_
 refine WL.pure (Y.move rfl) rfl rfl rfl ?_
 refine WL.eff (E.call Try.call58 rfl (fun _ w s => w_logState l A b o c (1 + chooseI e 9) w (hr.below s.low)) rfl) rfl (fun _ => ?_)
 refine WL.pure (Y.move rfl) rfl rfl rfl ?_
 refine WL.pure (Y.extract rfl rfl) rfl rfl rfl ?_
 refine WL.pure (Y.extract rfl rfl) rfl rfl rfl ?_
 refine WL.pure (Y.extract rfl rfl) rfl rfl rfl ?_
 refine WL.pure (Y.assign rfl) rfl rfl rfl ?_
 refine WL.pure (Y.assign rfl) rfl rfl rfl ?_
 refine WL.pure (Y.assign rfl) rfl rfl rfl ?_
 refine WL.nil ?_
 refine WQ.next ?_
 refine WC.seq ?_
 refine WC.seq ?_
 refine WC.region ?_
 refine WL.pure (Y.move rfl) rfl rfl rfl ?_
 refine WL.pure (Y.neq rfl rfl) rfl rfl rfl ?_
 refine WL.pure (Y.move rfl) rfl rfl rfl ?_
 refine WL.known (t := 61) (r := false) rfl (by rw [e1]; rfl) ?_
 refine WL.guardT rfl rfl rfl ?_
 refine WL.pure (Y.move rfl) rfl rfl rfl ?_
 refine WL.guardT rfl rfl rfl ?_
 refine WL.pure (Y.neq rfl rfl) rfl rfl rfl ?_
 refine WL.pure (Y.pickF rfl rfl) rfl rfl rfl ?_
 refine WL.nil ?_
 refine WQ.next ?_
 refine WC.isF rfl (by rw [e2]; rfl) ?_
 refine WC.skip' ?_
 refine WQ.next ?_
 refine WC.seq ?_
 refine WC.region ?_
 refine WL.pure (Y.move rfl) rfl rfl rfl ?_
 refine WL.pure (Y.move rfl) rfl rfl rfl ?_
 refine WL.eff (E.callF (fun i : Option Addr × Nat => .slice i.1 (sta l.reverse (1 + chooseI a 9)).length i.2) (fun i => SF.own w.heap.size 34 8 (.slice i.1 (sta l.reverse (1 + chooseI a 9)).length i.2) (sta l.reverse (1 + chooseI a 9)).length (flat (sta l.reverse (1 + chooseI a 9)).reverse)) Try.call61 rfl (fun _ w s => (w_standing l A b o c (1 + chooseI a 9) w h60 (hr.below s.low)).mono fun e w' ⟨i, he, hb, ho⟩ => ⟨i, he, hb, ownsRow_le ho s.low.size, fun g hg => .inl (ho.lt g hg).1⟩) rfl) rfl (fun i => ?_)
 refine WL.pure (Y.move rfl) rfl rfl rfl ?_
 refine WL.pure (Y.move rfl) rfl rfl rfl ?_
 refine WL.eff (E.callF (fun i : Option Addr × Nat => .slice i.1 (sta l.reverse (1 + chooseI e 9)).length i.2) (fun i => SF.own w.heap.size 34 8 (.slice i.1 (sta l.reverse (1 + chooseI e 9)).length i.2) (sta l.reverse (1 + chooseI e 9)).length (flat (sta l.reverse (1 + chooseI e 9)).reverse)) Try.call61 rfl (fun _ w s => (w_standing l A b o c (1 + chooseI e 9) w h60 (hr.below s.low)).mono fun e w' ⟨i, he, hb, ho⟩ => ⟨i, he, hb, ownsRow_le ho s.low.size, fun g hg => .inl (ho.lt g hg).1⟩) rfl) rfl (fun j => ?_)
 refine WL.pure (Y.assign rfl) rfl rfl rfl ?_
 refine WL.pure (Y.assign rfl) rfl rfl rfl ?_
 refine WL.nil ?_
 refine WQ.next ?_
 refine WC.seq ?_
 refine WC.seq ?_
 refine WC.region ?_
 refine WL.pure (Y.assign rfl) rfl rfl rfl ?_
 refine WL.nil ?_
 refine WQ.next ?_
 refine WC.block ?_
 have hla := sta_len l.reverse (1 + chooseI a 9)
 have hlb := sta_len l.reverse (1 + chooseI e 9)
 simp only [List.length_reverse] at hla hlb
 refine WC.loop (ι := Nat) (fun p => [(0, .slice A l.length c), (7, .pointer (some ⟨b1, 0, none⟩)), (9, .int .i64 (1 + chooseI a 9)), (10, .int .i64 (1 + chooseI e 9)), (11, .int .i64 (logState l (1 + chooseI a 9)).1), (14, .int .i64 (logState l (1 + chooseI e 9)).1), (17, .slice i.1 (sta l.reverse (1 + chooseI a 9)).length i.2), (18, .slice j.1 (sta l.reverse (1 + chooseI e 9)).length j.2), (19, .int .i64 p)]) (fun _ => [(b1, (logPages l).cl, 42)]) (fun _ => ((SF.top.and (SF.own w.heap.size 34 8 (.slice i.1 (sta l.reverse (1 + chooseI a 9)).length i.2) (sta l.reverse (1 + chooseI a 9)).length (flat (sta l.reverse (1 + chooseI a 9)).reverse))).and (SF.own w.heap.size 34 8 (.slice j.1 (sta l.reverse (1 + chooseI e 9)).length j.2) (sta l.reverse (1 + chooseI e 9)).length (flat (sta l.reverse (1 + chooseI e 9)).reverse)))) (fun p => p ≤ (sta l.reverse (1 + chooseI a 9)).length) (fun p => (sta l.reverse (1 + chooseI a 9)).length - p) 0 (Nat.zero_le _) (fun a w s => s.weak (by repeat (first | exact sub_nil _ | refine sub_cons rfl ?_))) (fun p hp => ?_)
 refine WC.seq ?_
 refine WC.seq ?_
 refine WC.region ?_
 refine WL.pure (Y.move rfl) rfl rfl rfl ?_
 refine WL.pure (Y.move rfl) rfl rfl rfl ?_
 refine WL.pure (Y.len Try.underlying39 rfl) rfl rfl rfl ?_
 refine WL.pure (Y.lss rfl rfl) rfl rfl rfl ?_
 refine WL.nil ?_
 refine WQ.next ?_
 refine WC.cond rfl (fun h74 => ?_) (fun h74 => ?_)
 refine WC.skip' ?_
 refine WQ.next ?_
 refine WC.seq ?_
 refine WC.block ?_
 refine WC.seq ?_
 have h74 := dec_lt h74
 simp only [if_true] at h74
 obtain ⟨x, hx⟩ := get_of_lt (l := (sta l.reverse (1 + chooseI a 9)).reverse) (k := p) (by simpa using h74)
 refine WC.know (p := i.1 = some ⟨gOf i.1, 0, none⟩) (fun a w s => (own_RLr s.fact.1.2).addr hx) (fun hA1 => ?_)
 refine WC.region ?_
 refine WL.pure (Y.assign rfl) rfl rfl rfl ?_
 refine WL.nil ?_
 refine WQ.next ?_
 refine WC.block ?_
 refine WC.loop (ι := Nat) (fun q => [(0, .slice A l.length c), (7, .pointer (some ⟨b1, 0, none⟩)), (9, .int .i64 (1 + chooseI a 9)), (10, .int .i64 (1 + chooseI e 9)), (11, .int .i64 (logState l (1 + chooseI a 9)).1), (14, .int .i64 (logState l (1 + chooseI e 9)).1), (17, .slice i.1 (sta l.reverse (1 + chooseI a 9)).length i.2), (18, .slice j.1 (sta l.reverse (1 + chooseI e 9)).length j.2), (19, .int .i64 p), (20, .int .i64 q)]) (fun _ => [(b1, (logPages l).cl, 42)]) (fun _ => ((SF.top.and (SF.own w.heap.size 34 8 (.slice i.1 (sta l.reverse (1 + chooseI a 9)).length i.2) (sta l.reverse (1 + chooseI a 9)).length (flat (sta l.reverse (1 + chooseI a 9)).reverse))).and (SF.own w.heap.size 34 8 (.slice j.1 (sta l.reverse (1 + chooseI e 9)).length j.2) (sta l.reverse (1 + chooseI e 9)).length (flat (sta l.reverse (1 + chooseI e 9)).reverse)))) (fun q => q ≤ (sta l.reverse (1 + chooseI e 9)).length) (fun q => (sta l.reverse (1 + chooseI e 9)).length - q) 0 (Nat.zero_le _) (fun a w s => s.weak (by repeat (first | exact sub_nil _ | refine sub_cons rfl ?_))) (fun q hq => ?_)
 refine WC.seq ?_
 refine WC.seq ?_
 refine WC.region ?_
 refine WL.pure (Y.move rfl) rfl rfl rfl ?_
 refine WL.pure (Y.move rfl) rfl rfl rfl ?_
 refine WL.pure (Y.len Try.underlying39 rfl) rfl rfl rfl ?_
 refine WL.pure (Y.lss rfl rfl) rfl rfl rfl ?_
 refine WL.nil ?_
 refine WQ.next ?_
 refine WC.cond rfl (fun h80 => ?_) (fun h80 => ?_)
 refine WC.skip' ?_
 refine WQ.next ?_
 refine WC.seq ?_
 refine WC.block ?_
 refine WC.seq ?_
 have h80 := dec_lt h80
 simp only [if_true] at h80
 obtain ⟨y, hy⟩ := get_of_lt (l := (sta l.reverse (1 + chooseI e 9)).reverse) (k := q) (by simpa using h80)
 refine WC.know (p := j.1 = some ⟨gOf j.1, 0, none⟩) (fun a w s => (own_RLr s.fact.2).addr hy) (fun hA2 => ?_)
 refine WC.draw [(0, .q false), (1, .q false), (2, .q false), (3, .q false), (4, .q false), (5, .q false), (6, .q false), (7, .q false), (8, .q false), (9, .q false), (10, .q false), (11, .q false), (12, .q false), (13, .q false), (14, .q false), (15, .q false), (16, .q true), (17, .q false), (18, .q false), (19, .q false), (20, .q false), (21, .q true), (22, .q false), (23, .q false), (24, .q false), (25, .q false), (26, .q false), (27, .q false), (28, .q false), (29, .q true), (30, .q false), (31, .q false), (32, .q false), (33, .q false), (34, .q true), (35, .q false), (36, .q false)] mixed (by kernel_rfl) ?_
 refine WDm.quiet (QS.pure (Y.move rfl) rfl rfl) rfl rfl rfl ?_
 refine WDm.quiet (QS.pure (Y.move rfl) rfl rfl) rfl rfl rfl ?_
 refine WDm.quiet (QS.pure (Y.neq rfl rfl) rfl rfl) rfl rfl rfl ?_
 refine WDm.quiet (QS.pure (Y.move rfl) rfl rfl) rfl rfl rfl ?_
 refine WDm.split (t := 86) rfl (fun r h86 => ?_)
 cases r
 refine WDm.quiet (QS.guardF rfl rfl rfl rfl rfl) rfl rfl rfl ?_
 refine WDm.quiet (QS.guardF rfl rfl rfl rfl rfl) rfl rfl rfl ?_
 refine WDm.quiet (QS.pure (Y.pickF rfl rfl) rfl rfl) rfl rfl rfl ?_
 refine WDm.quiet (QS.pure (Y.move rfl) rfl rfl) rfl rfl rfl ?_
 refine WDm.quiet (QS.guardF rfl rfl rfl rfl rfl) rfl rfl rfl ?_
 refine WDm.quiet (QS.guardF rfl rfl rfl rfl rfl) rfl rfl rfl ?_
 refine WDm.quiet (QS.pure (Y.pickF rfl rfl) rfl rfl) rfl rfl rfl ?_
 refine WDm.quiet (QS.pure (Y.move rfl) rfl rfl) rfl rfl rfl ?_
 refine WDm.quiet (QS.guardF rfl rfl rfl rfl rfl) rfl rfl rfl ?_
 refine WDm.quiet (QS.guardF rfl rfl rfl rfl rfl) rfl rfl rfl ?_
 refine WDm.quiet (QS.guardF rfl rfl rfl rfl rfl) rfl rfl rfl ?_
 refine WDm.quiet (QS.guardF rfl rfl rfl rfl rfl) rfl rfl rfl ?_
 refine WDm.quiet (QS.guardF rfl rfl rfl rfl rfl) rfl rfl rfl ?_
 refine WDm.quiet (QS.guardF rfl rfl rfl rfl rfl) rfl rfl rfl ?_
 refine WDm.quiet (QS.guardF rfl rfl rfl rfl rfl) rfl rfl rfl ?_
 refine WDm.quiet (QS.guardF rfl rfl rfl rfl rfl) rfl rfl rfl ?_
 refine WDm.quiet (QS.guardF rfl rfl rfl rfl rfl) rfl rfl rfl ?_
 refine WDm.quiet (QS.guardF rfl rfl rfl rfl rfl) rfl rfl rfl ?_
 refine WDm.quiet (QS.guardF rfl rfl rfl rfl rfl) rfl rfl rfl ?_
 refine WDm.quiet (QS.pure (Y.pickF rfl rfl) rfl rfl) rfl rfl rfl ?_
 refine WDm.quiet (QS.pure (Y.move rfl) rfl rfl) rfl rfl rfl ?_
 refine WDm.quiet (QS.guardF rfl rfl rfl rfl rfl) rfl rfl rfl ?_
 refine WDm.quiet (QS.guardF rfl rfl rfl rfl rfl) rfl rfl rfl ?_
 refine WDm.quiet (QS.guardF rfl rfl rfl rfl rfl) rfl rfl rfl ?_
 refine WDm.quiet (QS.guardF rfl rfl rfl rfl rfl) rfl rfl rfl ?_
 refine WDm.quiet (QS.guardF rfl rfl rfl rfl rfl) rfl rfl rfl ?_
 refine WDm.quiet (QS.guardF rfl rfl rfl rfl rfl) rfl rfl rfl ?_
 refine WDm.quiet (QS.guardF rfl rfl rfl rfl rfl) rfl rfl rfl ?_
 refine WDm.quiet (QS.guardF rfl rfl rfl rfl rfl) rfl rfl rfl ?_
 refine WDm.quiet (QS.guardF rfl rfl rfl rfl rfl) rfl rfl rfl ?_
 refine WDm.quiet (QS.guardF rfl rfl rfl rfl rfl) rfl rfl rfl ?_
 refine WDm.quiet (QS.guardF rfl rfl rfl rfl rfl) rfl rfl rfl ?_
 refine WDm.quiet (QS.pure (Y.pickF rfl rfl) rfl rfl) rfl rfl rfl ?_
 refine WDm.nil (WQ.and ?_)
 refine WQ.next ?_
 refine WC.condF rfl ?_
 refine WC.skip' ?_
 refine WQ.blockEnd ?_
 refine WQ.next ?_
 refine WC.region ?_
 refine WL.pure (Y.move rfl) rfl rfl rfl ?_
 refine WL.pure (Y.add rfl rfl (i64_in (by omega) (by omega))) rfl rfl rfl ?_
 refine WL.pure (Y.assign rfl) rfl rfl rfl ?_
 refine WL.nil ?_
 · exact fun a w s => ⟨q + 1, by omega, by omega, s.weak (by repeat (first | exact sub_nil _ | refine sub_cons rfl ?_))⟩
 refine WDm.quiet (QS.guardT rfl rfl rfl (QS.pure (Y.move rfl) rfl rfl)) rfl rfl rfl ?_
 refine WDm.quiet (QS.guardT rfl rfl rfl (QS.pure (Y.neq rfl rfl) rfl rfl)) rfl rfl rfl ?_
 refine WDm.quiet (QS.pure (Y.pickT rfl rfl) rfl rfl) rfl rfl rfl ?_
 refine WDm.quiet (QS.pure (Y.move rfl) rfl rfl) rfl rfl rfl ?_
 refine WDm.split (t := 90) rfl (fun r h90 => ?_)
 cases r
 refine WDm.quiet (QS.guardF rfl rfl rfl rfl rfl) rfl rfl rfl ?_
 refine WDm.quiet (QS.guardF rfl rfl rfl rfl rfl) rfl rfl rfl ?_
 refine WDm.quiet (QS.pure (Y.pickF rfl rfl) rfl rfl) rfl rfl rfl ?_
 refine WDm.quiet (QS.pure (Y.move rfl) rfl rfl) rfl rfl rfl ?_
 refine WDm.quiet (QS.guardF rfl rfl rfl rfl rfl) rfl rfl rfl ?_
 refine WDm.quiet (QS.guardF rfl rfl rfl rfl rfl) rfl rfl rfl ?_
 refine WDm.quiet (QS.guardF rfl rfl rfl rfl rfl) rfl rfl rfl ?_
 refine WDm.quiet (QS.guardF rfl rfl rfl rfl rfl) rfl rfl rfl ?_
 refine WDm.quiet (QS.guardF rfl rfl rfl rfl rfl) rfl rfl rfl ?_
 refine WDm.quiet (QS.guardF rfl rfl rfl rfl rfl) rfl rfl rfl ?_
 refine WDm.quiet (QS.guardF rfl rfl rfl rfl rfl) rfl rfl rfl ?_
 refine WDm.quiet (QS.guardF rfl rfl rfl rfl rfl) rfl rfl rfl ?_
 refine WDm.quiet (QS.guardF rfl rfl rfl rfl rfl) rfl rfl rfl ?_
 refine WDm.quiet (QS.guardF rfl rfl rfl rfl rfl) rfl rfl rfl ?_
 refine WDm.quiet (QS.guardF rfl rfl rfl rfl rfl) rfl rfl rfl ?_
 refine WDm.quiet (QS.pure (Y.pickF rfl rfl) rfl rfl) rfl rfl rfl ?_
 refine WDm.quiet (QS.pure (Y.move rfl) rfl rfl) rfl rfl rfl ?_
 refine WDm.quiet (QS.guardF rfl rfl rfl rfl rfl) rfl rfl rfl ?_
 refine WDm.quiet (QS.guardF rfl rfl rfl rfl rfl) rfl rfl rfl ?_
 refine WDm.quiet (QS.guardF rfl rfl rfl rfl rfl) rfl rfl rfl ?_
 refine WDm.quiet (QS.guardF rfl rfl rfl rfl rfl) rfl rfl rfl ?_
 refine WDm.quiet (QS.guardF rfl rfl rfl rfl rfl) rfl rfl rfl ?_
 refine WDm.quiet (QS.guardF rfl rfl rfl rfl rfl) rfl rfl rfl ?_
 refine WDm.quiet (QS.guardF rfl rfl rfl rfl rfl) rfl rfl rfl ?_
 refine WDm.quiet (QS.guardF rfl rfl rfl rfl rfl) rfl rfl rfl ?_
 refine WDm.quiet (QS.guardF rfl rfl rfl rfl rfl) rfl rfl rfl ?_
 refine WDm.quiet (QS.guardF rfl rfl rfl rfl rfl) rfl rfl rfl ?_
 refine WDm.quiet (QS.guardF rfl rfl rfl rfl rfl) rfl rfl rfl ?_
 refine WDm.quiet (QS.pure (Y.pickF rfl rfl) rfl rfl) rfl rfl rfl ?_
 refine WDm.nil (WQ.and ?_)
 refine WQ.next ?_
 refine WC.condF rfl ?_
 refine WC.skip' ?_
 refine WQ.blockEnd ?_
 refine WQ.next ?_
 refine WC.region ?_
 refine WL.pure (Y.move rfl) rfl rfl rfl ?_
 refine WL.pure (Y.add rfl rfl (i64_in (by omega) (by omega))) rfl rfl rfl ?_
 refine WL.pure (Y.assign rfl) rfl rfl rfl ?_
 refine WL.nil ?_
 · exact fun a w s => ⟨q + 1, by omega, by omega, s.weak (by repeat (first | exact sub_nil _ | refine sub_cons rfl ?_))⟩
 refine WDm.quiet (QS.guardT rfl rfl rfl (QS.pure (Y.move rfl) rfl rfl)) rfl rfl rfl ?_
 refine WDm.quiet (QS.guardT rfl rfl rfl (QS.pure (Y.neq rfl rfl) rfl rfl)) rfl rfl rfl ?_
 refine WDm.quiet (QS.pure (Y.pickT rfl rfl) rfl rfl) rfl rfl rfl ?_
 refine WDm.quiet (QS.pure (Y.move rfl) rfl rfl) rfl rfl rfl ?_
 refine WDm.split (t := 94) rfl (fun r h94 => ?_)
 cases r
 refine WDm.quiet (QS.guardF rfl rfl rfl rfl rfl) rfl rfl rfl ?_
 refine WDm.quiet (QS.guardF rfl rfl rfl rfl rfl) rfl rfl rfl ?_
 refine WDm.quiet (QS.guardF rfl rfl rfl rfl rfl) rfl rfl rfl ?_
 refine WDm.quiet (QS.guardF rfl rfl rfl rfl rfl) rfl rfl rfl ?_
 refine WDm.quiet (QS.guardF rfl rfl rfl rfl rfl) rfl rfl rfl ?_
 refine WDm.quiet (QS.guardF rfl rfl rfl rfl rfl) rfl rfl rfl ?_
 refine WDm.quiet (QS.guardF rfl rfl rfl rfl rfl) rfl rfl rfl ?_
 refine WDm.quiet (QS.guardF rfl rfl rfl rfl rfl) rfl rfl rfl ?_
 refine WDm.quiet (QS.guardF rfl rfl rfl rfl rfl) rfl rfl rfl ?_
 refine WDm.quiet (QS.guardF rfl rfl rfl rfl rfl) rfl rfl rfl ?_
 refine WDm.quiet (QS.guardF rfl rfl rfl rfl rfl) rfl rfl rfl ?_
 refine WDm.quiet (QS.pure (Y.pickF rfl rfl) rfl rfl) rfl rfl rfl ?_
 refine WDm.quiet (QS.pure (Y.move rfl) rfl rfl) rfl rfl rfl ?_
 refine WDm.quiet (QS.guardF rfl rfl rfl rfl rfl) rfl rfl rfl ?_
 refine WDm.quiet (QS.guardF rfl rfl rfl rfl rfl) rfl rfl rfl ?_
 refine WDm.quiet (QS.guardF rfl rfl rfl rfl rfl) rfl rfl rfl ?_
 refine WDm.quiet (QS.guardF rfl rfl rfl rfl rfl) rfl rfl rfl ?_
 refine WDm.quiet (QS.guardF rfl rfl rfl rfl rfl) rfl rfl rfl ?_
 refine WDm.quiet (QS.guardF rfl rfl rfl rfl rfl) rfl rfl rfl ?_
 refine WDm.quiet (QS.guardF rfl rfl rfl rfl rfl) rfl rfl rfl ?_
 refine WDm.quiet (QS.guardF rfl rfl rfl rfl rfl) rfl rfl rfl ?_
 refine WDm.quiet (QS.guardF rfl rfl rfl rfl rfl) rfl rfl rfl ?_
 refine WDm.quiet (QS.guardF rfl rfl rfl rfl rfl) rfl rfl rfl ?_
 refine WDm.quiet (QS.guardF rfl rfl rfl rfl rfl) rfl rfl rfl ?_
 refine WDm.quiet (QS.pure (Y.pickF rfl rfl) rfl rfl) rfl rfl rfl ?_
 refine WDm.nil (WQ.and ?_)
 refine WQ.next ?_
 refine WC.condF rfl ?_
 refine WC.skip' ?_
 refine WQ.blockEnd ?_
 refine WQ.next ?_
 refine WC.region ?_
 refine WL.pure (Y.move rfl) rfl rfl rfl ?_
 refine WL.pure (Y.add rfl rfl (i64_in (by omega) (by omega))) rfl rfl rfl ?_
 refine WL.pure (Y.assign rfl) rfl rfl rfl ?_
 refine WL.nil ?_
 · exact fun a w s => ⟨q + 1, by omega, by omega, s.weak (by repeat (first | exact sub_nil _ | refine sub_cons rfl ?_))⟩
 refine WDm.quiet (QS.guardT rfl rfl rfl (QS.pure (Y.move rfl) rfl rfl)) rfl rfl rfl ?_
 refine WDm.quiet (QS.guardT rfl rfl rfl (QS.pure (Y.move rfl) rfl rfl)) rfl rfl rfl ?_
 refine WDm.quiet (QS.guardT rfl rfl rfl (QS.pure (Y.ixSlA Try.underlying39 Try.sizeOf34 rfl rfl hA1 (nat0 _) (by omega)) rfl rfl)) rfl rfl rfl ?_
 refine WDm.quiet (QS.guardT rfl rfl rfl (QS.pure (Y.fieldAddr fa_34_3 rfl) rfl rfl)) rfl rfl rfl ?_
 refine WDm.quiet (QS.guardT rfl rfl rfl (QS.val (Y.loadc fl_3 rfl (fun a w s => ((own_RLr s.fact.1.2)).cell _ _ hx 3 _ rfl)) rfl rfl)) rfl rfl rfl ?_
 refine WDm.quiet (QS.guardT rfl rfl rfl (QS.pure (Y.move rfl) rfl rfl)) rfl rfl rfl ?_
 refine WDm.quiet (QS.guardT rfl rfl rfl (QS.pure (Y.move rfl) rfl rfl)) rfl rfl rfl ?_
 refine WDm.quiet (QS.guardT rfl rfl rfl (QS.pure (Y.ixSlA Try.underlying39 Try.sizeOf34 rfl rfl hA2 (nat0 _) (by omega)) rfl rfl)) rfl rfl rfl ?_
 refine WDm.quiet (QS.guardT rfl rfl rfl (QS.pure (Y.fieldAddr fa_34_3 rfl) rfl rfl)) rfl rfl rfl ?_
 refine WDm.quiet (QS.guardT rfl rfl rfl (QS.val (Y.loadc fl_3 rfl (fun a w s => ((own_RLr s.fact.2)).cell _ _ hy 3 _ rfl)) rfl rfl)) rfl rfl rfl ?_
 refine WDm.quiet (QS.guardT rfl rfl rfl (QS.pure (Y.eql rfl rfl) rfl rfl)) rfl rfl rfl ?_
 refine WDm.quiet (QS.pure (Y.pickT rfl rfl) rfl rfl) rfl rfl rfl ?_
 refine WDm.quiet (QS.pure (Y.move rfl) rfl rfl) rfl rfl rfl ?_
 refine WDm.split (t := 107) rfl (fun r h107 => ?_)
 cases r
 refine WDm.quiet (QS.guardF rfl rfl rfl rfl rfl) rfl rfl rfl ?_
 refine WDm.quiet (QS.guardF rfl rfl rfl rfl rfl) rfl rfl rfl ?_
 refine WDm.quiet (QS.guardF rfl rfl rfl rfl rfl) rfl rfl rfl ?_
 refine WDm.quiet (QS.guardF rfl rfl rfl rfl rfl) rfl rfl rfl ?_
 refine WDm.quiet (QS.guardF rfl rfl rfl rfl rfl) rfl rfl rfl ?_
 refine WDm.quiet (QS.guardF rfl rfl rfl rfl rfl) rfl rfl rfl ?_
 refine WDm.quiet (QS.guardF rfl rfl rfl rfl rfl) rfl rfl rfl ?_
 refine WDm.quiet (QS.guardF rfl rfl rfl rfl rfl) rfl rfl rfl ?_
 refine WDm.quiet (QS.guardF rfl rfl rfl rfl rfl) rfl rfl rfl ?_
 refine WDm.quiet (QS.guardF rfl rfl rfl rfl rfl) rfl rfl rfl ?_
 refine WDm.quiet (QS.guardF rfl rfl rfl rfl rfl) rfl rfl rfl ?_
 refine WDm.quiet (QS.pure (Y.pickF rfl rfl) rfl rfl) rfl rfl rfl ?_
 refine WDm.nil (WQ.and ?_)
 refine WQ.next ?_
 refine WC.condF rfl ?_
 refine WC.skip' ?_
 refine WQ.blockEnd ?_
 refine WQ.next ?_
 refine WC.region ?_
 refine WL.pure (Y.move rfl) rfl rfl rfl ?_
 refine WL.pure (Y.add rfl rfl (i64_in (by omega) (by omega))) rfl rfl rfl ?_
 refine WL.pure (Y.assign rfl) rfl rfl rfl ?_
 refine WL.nil ?_
 · exact fun a w s => ⟨q + 1, by omega, by omega, s.weak (by repeat (first | exact sub_nil _ | refine sub_cons rfl ?_))⟩
 refine WDm.quiet (QS.guardT rfl rfl rfl (QS.pure (Y.move rfl) rfl rfl)) rfl rfl rfl ?_
 refine WDm.quiet (QS.guardT rfl rfl rfl (QS.pure (Y.move rfl) rfl rfl)) rfl rfl rfl ?_
 refine WDm.quiet (QS.guardT rfl rfl rfl (QS.pure (Y.ixSlA Try.underlying39 Try.sizeOf34 rfl rfl hA1 (nat0 _) (by omega)) rfl rfl)) rfl rfl rfl ?_
 refine WDm.quiet (QS.guardT rfl rfl rfl (QS.pure (Y.fieldAddr fa_34_4 rfl) rfl rfl)) rfl rfl rfl ?_
 refine WDm.quiet (QS.guardT rfl rfl rfl (QS.val (Y.loadc fl_3 rfl (fun a w s => ((own_RLr s.fact.1.2)).cell _ _ hx 4 _ rfl)) rfl rfl)) rfl rfl rfl ?_
 refine WDm.quiet (QS.guardT rfl rfl rfl (QS.pure (Y.move rfl) rfl rfl)) rfl rfl rfl ?_
 refine WDm.quiet (QS.guardT rfl rfl rfl (QS.pure (Y.move rfl) rfl rfl)) rfl rfl rfl ?_
 refine WDm.quiet (QS.guardT rfl rfl rfl (QS.pure (Y.ixSlA Try.underlying39 Try.sizeOf34 rfl rfl hA2 (nat0 _) (by omega)) rfl rfl)) rfl rfl rfl ?_
 refine WDm.quiet (QS.guardT rfl rfl rfl (QS.pure (Y.fieldAddr fa_34_4 rfl) rfl rfl)) rfl rfl rfl ?_
 refine WDm.quiet (QS.guardT rfl rfl rfl (QS.val (Y.loadc fl_3 rfl (fun a w s => ((own_RLr s.fact.2)).cell _ _ hy 4 _ rfl)) rfl rfl)) rfl rfl rfl ?_
 refine WDm.quiet (QS.guardT rfl rfl rfl (QS.pure (Y.eql rfl rfl) rfl rfl)) rfl rfl rfl ?_
 refine WDm.quiet (QS.pure (Y.pickT rfl rfl) rfl rfl) rfl rfl rfl ?_
 refine WDm.nil (WQ.and ?_)
 refine WQ.next ?_
 refine WC.isF rfl (alone_f hR (by rw [e1]) (by rw [e2]) (List.mem_reverse.1 (List.mem_of_getElem? hx)) (List.mem_reverse.1 (List.mem_of_getElem? hy)) h86 h90 h94 h107) ?_
 refine WC.skip' ?_
 refine WQ.blockEnd ?_
 refine WQ.next ?_
 refine WC.region ?_
 refine WL.pure (Y.move rfl) rfl rfl rfl ?_
 refine WL.pure (Y.add rfl rfl (i64_in (by omega) (by omega))) rfl rfl rfl ?_
 refine WL.pure (Y.assign rfl) rfl rfl rfl ?_
 refine WL.nil ?_
 · exact fun a w s => ⟨q + 1, by omega, by omega, s.weak (by repeat (first | exact sub_nil _ | refine sub_cons rfl ?_))⟩
 refine WC.exit ?_
 refine WQ.thenExit ?_
 refine WQ.thenExit ?_
 refine WQ.blockExit ?_
 refine WQ.blockEnd ?_
 refine WQ.next ?_
 refine WC.region ?_
 refine WL.pure (Y.move rfl) rfl rfl rfl ?_
 refine WL.pure (Y.add rfl rfl (i64_in (by omega) (by omega))) rfl rfl rfl ?_
 refine WL.pure (Y.assign rfl) rfl rfl rfl ?_
 refine WL.nil ?_
 · exact fun a w s => ⟨p + 1, by omega, by omega, s.weak (by repeat (first | exact sub_nil _ | refine sub_cons rfl ?_))⟩
 refine WC.exit ?_
 refine WQ.thenExit ?_
 refine WQ.thenExit ?_
 refine WQ.blockExit ?_
 refine WQ.next ?_
 refine WC.seq ?_
 refine WC.seq ?_
 refine WC.region ?_
 refine WL.pure (Y.move rfl) rfl rfl rfl ?_
 refine WL.pure (Y.eql rfl rfl) rfl rfl rfl ?_
 refine WL.pure (Y.move rfl) rfl rfl rfl ?_
 refine WL.split (t := 122) rfl (fun r h122 => ?_)
 cases r
 refine WL.guardT rfl rfl rfl ?_
 refine WL.pure (Y.move rfl) rfl rfl rfl ?_
 refine WL.guardT rfl rfl rfl ?_
 refine WL.pure (Y.len Try.underlying39 rfl) rfl rfl rfl ?_
 refine WL.guardT rfl rfl rfl ?_
 refine WL.pure (Y.eql rfl rfl) rfl rfl rfl ?_
 refine WL.pure (Y.pickF rfl rfl) rfl rfl rfl ?_
 refine WL.nil ?_
 refine WQ.next ?_
 refine WC.cond rfl (fun h126 => ?_) (fun h126 => ?_)
 refine WC.seq ?_
 refine WC.region ?_
 refine WL.eff (E.call Try.call53 rfl (fun _ w s => w_logBegun w) rfl) rfl (fun _ => ?_)
 refine WL.pure (Y.assign rfl) rfl rfl rfl ?_
 refine WL.nil ?_
 refine WQ.next ?_
 refine WC.ret ?_
 refine WQ.thenRet ?_
 refine WQ.done Try.results12 (RVs.cons (RV.tmp rfl) RVs.nil) (fun a w s => ?_)
 · refine ⟨?_, s.low⟩
   clear s
   rfl
 refine WC.skip' ?_
 refine WQ.next ?_
 refine WC.seq ?_
 have hS : 1 ≤ (sta l.reverse (1 + chooseI a 9)).length := List.length_pos_iff.2 (by simpa using h126)
 have h4 : stt l.reverse (1 + chooseI a 9) ≠ 4 := by rw [e1] at h122; simp at h122; omega
 obtain ⟨x, xs, hxs, hx⟩ := last_rev hS
 refine WC.know (p := i.1 = some ⟨gOf i.1, 0, none⟩) (fun a w s => (own_RLr s.fact.1.2).addr hx) (fun hA1 => ?_)
 obtain ⟨hp1, hp2, hc1, hc2⟩ := sta_bnd hR (t := (1 + chooseI a 9)) (x := x) (by rw [hxs]; exact List.Mem.head _)
 refine WC.region ?_
 refine WL.pure (Y.move rfl) rfl rfl rfl ?_
 refine WL.pure (Y.move rfl) rfl rfl rfl ?_
 refine WL.pure (Y.len Try.underlying39 rfl) rfl rfl rfl ?_
 refine WL.pure (Y.sub rfl rfl (i64_sub1 hS (by omega))) rfl rfl rfl ?_
 refine WL.pure (Y.ixSlA Try.underlying39 Try.sizeOf34 rfl rfl hA1 (nat0 _) (by omega)) rfl rfl rfl ?_
 refine WL.val (Y.loadAc wd_34 rfl (r := x.cl) rfl (fun a w s j hj => ((own_RLr s.fact.1.2)).full hx j hj)) rfl rfl rfl ?_
 refine WL.eff (E.alloc Try.zeroValue34 rfl rfl) rfl (fun b2 => ?_)
 refine WL.eff (E.store Try.sizeOf34 rfl rfl rfl rfl rfl u0 rfl rfl) rfl (fun _ => ?_)
 refine WL.nil ?_
 refine WQ.next ?_
 refine WC.seq ?_
 refine WC.draw [(0, .q true), (1, .q false), (2, .q false), (3, .q true), (4, .q false), (5, .q true), (6, .q false), (7, .q false), (8, .q false), (9, .q true), (10, .q false), (11, .q true), (12, .q false), (13, .q false), (14, .q false)] mixed (by kernel_rfl) ?_
 refine WDm.quiet (QS.call Try.call53 rfl (fun _ w s => w_logBegun w)) rfl rfl rfl ?_
 refine WDm.quiet (QS.pure (Y.move rfl) rfl rfl) rfl rfl rfl ?_
 refine WDm.quiet (QS.guardT rfl rfl rfl (QS.pure (Y.fieldAddr fa_34_3 rfl) rfl rfl)) rfl rfl rfl ?_
 refine WDm.quiet (QS.guardT rfl rfl rfl (QS.val (Y.load fl_3 rfl m0 rfl) rfl rfl)) rfl rfl rfl ?_
 refine WDm.quiet (QS.guardT rfl rfl rfl (QS.pure (Y.fieldAddr fa_34_4 rfl) rfl rfl)) rfl rfl rfl ?_
 refine WDm.quiet (QS.guardT rfl rfl rfl (QS.val (Y.load fl_3 rfl m0 rfl) rfl rfl)) rfl rfl rfl ?_
 refine WDm.quiet (QS.guardT rfl rfl rfl (QS.pure (Y.ixArr Try.underlying42 Try.sizeOf24 rfl rfl hp1 (by omega)) rfl rfl)) rfl rfl rfl ?_
 refine WDm.quiet (QS.guardT rfl rfl rfl (QS.pure (Y.fieldAddr fa_24_0 rfl) rfl rfl)) rfl rfl rfl ?_
 refine WDm.quiet (QS.guardT rfl rfl rfl (QS.pure (Y.ixArr Try.underlying22 Try.sizeOf3 rfl rfl hc1 (by omega)) rfl rfl)) rfl rfl rfl ?_
 refine WDm.quiet (QS.guardT rfl rfl rfl (QS.val (Y.loadN (cs := (logPages l).cl) fl_3 rfl m1 (p3_at _ _ _ ⟨hp1, hp2⟩ ⟨hc1, hc2⟩)) rfl rfl)) rfl rfl rfl ?_
 refine WDm.quiet (QS.guardT rfl rfl rfl (QS.pure (Y.fieldAddr fa_34_6 rfl) rfl rfl)) rfl rfl rfl ?_
 refine WDm.quiet (QS.guardT rfl rfl rfl (QS.val (Y.load fl_3 rfl m0 rfl) rfl rfl)) rfl rfl rfl ?_
 refine WDm.quiet (QS.guardT rfl rfl rfl (QS.pure (Y.eql rfl rfl) rfl rfl)) rfl rfl rfl ?_
 refine WDm.quiet (QS.pure (Y.pickT rfl rfl) rfl rfl) rfl rfl rfl ?_
 refine WDm.quiet (QS.pure (Y.assign rfl) rfl rfl) rfl rfl rfl ?_
 refine WDm.nil (WQ.and ?_)
 refine WQ.next ?_
 refine WC.ret ?_
 refine WQ.done Try.results12 (RVs.cons (RV.tmp rfl) RVs.nil) (fun a w s => ?_)
 · refine ⟨?_, s.low⟩
   clear s
   have ht := top_is hR h4 hxs
   have e3 : logPages l = pagesOf l.reverse := by unfold logPages; rw [if_pos h0]
   unfold cellOf at ht
   simp only [packed]
   rw [e3, ht]
   simp
 refine WL.guardF rfl rfl rfl rfl rfl rfl ?_
 refine WL.guardF rfl rfl rfl rfl rfl rfl ?_
 refine WL.guardF rfl rfl rfl rfl rfl rfl ?_
 refine WL.pure (Y.pickT rfl rfl) rfl rfl rfl ?_
 refine WL.nil ?_
 refine WQ.next ?_
 refine WC.condT rfl ?_
 refine WC.seq ?_
 refine WC.region ?_
 refine WL.eff (E.call Try.call53 rfl (fun _ w s => w_logBegun w) rfl) rfl (fun _ => ?_)
 refine WL.pure (Y.assign rfl) rfl rfl rfl ?_
 refine WL.nil ?_
 refine WQ.next ?_
 refine WC.ret ?_
 refine WQ.thenRet ?_
 refine WQ.done Try.results12 (RVs.cons (RV.tmp rfl) RVs.nil) (fun a w s => ?_)
 · refine ⟨?_, s.low⟩
   clear s
   rfl
 refine WL.guardF rfl rfl rfl rfl rfl rfl ?_
 refine WL.guardF rfl rfl rfl rfl rfl rfl ?_
 refine WL.guardF rfl rfl rfl rfl rfl rfl ?_
 refine WL.pure (Y.pickT rfl rfl) rfl rfl rfl ?_
 refine WL.nil ?_
 refine WQ.next ?_
 refine WC.condT rfl ?_
 refine WC.seq ?_
 refine WC.region ?_
 refine WL.eff (E.call Try.call53 rfl (fun _ w s => w_logBegun w) rfl) rfl (fun _ => ?_)
 refine WL.pure (Y.move rfl) rfl rfl rfl ?_
 refine WL.guardT rfl rfl rfl ?_
 refine WL.pure (Y.move rfl) rfl rfl rfl ?_
 refine WL.guardT rfl rfl rfl ?_
 refine WL.pure (Y.neq rfl rfl) rfl rfl rfl ?_
 refine WL.pure (Y.pickT rfl rfl) rfl rfl rfl ?_
 refine WL.pure (Y.assign rfl) rfl rfl rfl ?_
 refine WL.nil ?_
 refine WQ.next ?_
 refine WC.ret ?_
 refine WQ.thenRet ?_
 refine WQ.done Try.results12 (RVs.cons (RV.tmp rfl) RVs.nil) (fun a w s => ?_)
 · refine ⟨?_, s.low⟩
   clear s
   simp only [packed]
   simp_all
end Go.Proofs.Ytdbcimadjmdffaa
