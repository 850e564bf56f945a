/- The model; worlds as plain Lean; a log by hand; how a law follows. No condition. -/
import Derived.Test.YtmfjhacgpopijaaP3
import Derived.Test.YtmfjhacgpopijaaP1
import Derived.Test.YtmfjhacgpopijaaP2
import Derived.Test.YtmfjhacgpopijaaIni
import Derived.ProofKit
import Derived.OpenShut
import Derived.JoinedOf
import Derived.Test.YtmfjhacgpopijaaRows
import Derived.Deep.Slices
import Derived.Deep.Fields
import Derived.ChangeSame
section
set_option linter.unusedVariables false
set_option linter.unusedSimpArgs false
set_option linter.unusedSectionVars false
namespace Go.Proofs.Ytmfjhacgpopijaa
open Go.RowKit
section
variable [Inhabited DSx] {P : Program} {E : Env} {n : Nat} {d : Option Nat} {x y : Operand} {T T' T2 : TypeId} {p : String} {af : Array Edge} {k : IntKind} {i j r : Int}
theorem Y.neg (hx : ev E x = some (.int k i)) (hr : k.wrap (-i) = r) : Yp P E n ⟨d, .unOp .neg T x, T', p, af, none⟩ (.int k r) := fun a w s => by
  simp [execOp, s.eval hx, Op.unary, Op.intArith, hr]
theorem Y.rem (hx : ev E x = some (.int k i)) (hy : ev E y = some (.int k j)) (h0 : j ≠ 0) (hr : i.tmod j = r) : Yp P E n ⟨d, .binOp .rem T x y T2, T', p, af, none⟩ (.int k r) := fun a w s => by
  simp [execOp, s.eval hx, s.eval hy, eqGuard, binOp, Op.intArith, Op.intDiv, h0, hr]
end
/-- The number from 0 to n - 1 that c tells. -/
def chooseI (c n : Int) : Int := (if c < 0 then -(c + 1) else c).tmod n
theorem choose_bnd {c n : Int} (hn : 0 < n) : 0 ≤ chooseI c n ∧ chooseI c n < n := by
  unfold chooseI
  have h : 0 ≤ (if c < 0 then -(c + 1) else c) := by split <;> omega
  generalize (if c < 0 then -(c + 1) else c) = m at *
  refine ⟨Int.tmod_nonneg n h, ?_⟩
  exact Int.tmod_lt_of_pos m hn
theorem wf_i64 {a : Int} (h : (Lit.int .i64 a).wf = true) : -9223372036854775808 ≤ a ∧ a ≤ 9223372036854775807 := by
  simp [Lit.wf] at h
  first | exact h | (constructor <;> omega) | (simp [IntKind.min, IntKind.max] at h; omega)
/-! ### A Txn's state never goes back -/
theorem stt_le4 (h : List R) (t : Int) : stt h t ≤ 4 := by
  unfold stt
  repeat' split
  all_goals omega
theorem stt_step {h : List R} {r : R} (hr : Right (r :: h)) (t : Int) : stt h t ≤ stt (r :: h) t ∧ (stt h t = 2 → stt (r :: h) t = 2 ∨ stt (r :: h) t = 4) := by
  obtain ⟨h1, h2, h3⟩ := hr.parts
  have e1 := h1.st t
  have e2 := hr.st t
  have hb := rec_bounds h2
  by_cases ht : r.txn = t
  · subst ht
    obtain ⟨_, f1, f2, f3⟩ := follows_st h3
    have e3 := stt_cons hr
    have := stt_le4 h r.txn
    refine ⟨?_, fun h => ?_⟩
    · by_cases a2 : stt h r.txn = 2
      · have := f2 a2; omega
      · by_cases a3 : stt h r.txn = 3
        · have := f3 a3; omega
        · omega
    · have := f2 h; omega
  · have e3 : stB (r :: h) t = stB h t := by simp [stB, ht]
    rw [e3, e1] at e2
    have e4 : stt (r :: h) t = stt h t := by omega
    rw [e4]
    exact ⟨Nat.le_refl _, fun h => .inl h⟩
theorem stt_drop : ∀ {h : List R} (k : Nat), Right h → ∀ t, stt (h.drop k) t ≤ stt h t ∧ (stt (h.drop k) t = 2 → stt h t = 2 ∨ stt h t = 4)
  | [], k, _, t => by simp; intro h; exact .inl h
  | r :: h, 0, hr, t => ⟨Nat.le_refl _, fun h => .inl h⟩
  | r :: h, k + 1, hr, t => by
    have ih := stt_drop k hr.parts.1 t
    have st := stt_step hr t
    have := stt_le4 (r :: h) t
    simp only [List.drop_succ_cons]
    refine ⟨by omega, fun h2 => ?_⟩
    rcases ih.2 h2 with h3 | h3
    · exact st.2 h3
    · right; omega
theorem last_len : ∀ (h : List R) (t : Int), lastN h t ≤ h.length
  | [], _ => by simp [lastN]
  | r :: h, t => by
    have := last_len h t
    unfold lastN
    split <;> simp <;> omega
theorem last_drop : ∀ {h : List R} (k : Nat) (t : Int), lastN (h.drop k) t ≤ lastN h t
  | [], k, t => by simp
  | r :: h, 0, t => Nat.le_refl _
  | r :: h, k + 1, t => by
    have ih := last_drop (h := h) k t
    have h1 := last_len h t
    have h2 : lastN (r :: h) t = if r.txn = t then h.length + 1 else lastN h t := rfl
    show lastN (h.drop k) t ≤ lastN (r :: h) t
    rw [h2]
    split <;> omega
theorem take_rev {α : Type} (l : List α) (m : Nat) : (l.take m).reverse = l.reverse.drop (l.length - m) := by
  rw [List.reverse_take]
theorem take_right {l : List R} (h : logErr l = 0) (m : Nat) : logErr (l.take m) = 0 := by
  obtain ⟨h1, h2⟩ := log_right h
  unfold logErr
  rw [if_pos (by simp; omega), take_rev]
  exact h2.drop _
theorem logState_ok {l : List R} {t : Int} (h : logErr l = 0) (ht : 1 ≤ t ∧ t ≤ 9) : logState l t = ((stt l.reverse t : Int), (lastN l.reverse t : Int), 0) := by
  unfold logState
  rw [if_pos h, if_pos (wi_iff.2 ht)]
end Go.Proofs.Ytmfjhacgpopijaa
end
section
set_option linter.unusedVariables false
set_option linter.unusedSimpArgs false
set_option linter.unusedSectionVars false
namespace Go.Proofs.Ytmfjhacgpopijaa
/-- From the value v, Write by Write, back to b. -/
def chain (v : Int) : List R → Int → Prop
  | [], b => v = b
  | x :: xs, b => x.new = v ∧ chain x.old xs b
/-- The Writes of a Txn that stand, the newest first. -/
def sta : List R → Int → List R
  | [], _ => []
  | r :: h, t => if r.txn = t then (if r.kind = 1 then r :: sta h t else if r.kind = 3 then (sta h t).tail else sta h t) else sta h t
def inCell (p c : Int) (x : R) : Bool := x.page == p && x.cell == c
def cellOf (h : List R) (p c : Int) : Int := ((pagesOf h).get p).cellAt c
theorem sta_ups : ∀ {h : List R}, Right h → ∀ t, sta h t = (ups h t).map (recAt h)
  | [], _, t => rfl
  | r :: h, hr, t => by
    obtain ⟨h1, h2, h3⟩ := hr.parts
    have ih := sta_ups h1 t
    have hb := rec_bounds h2
    have old : ∀ l : List Nat, (∀ n ∈ l, n ∈ ups h t) → l.map (recAt (r :: h)) = l.map (recAt h) := fun l hl =>
      List.map_congr_left fun n hn => recAt_old (ups_le (hl n hn)).1 (ups_le (hl n hn)).2
    by_cases ht : r.txn = t
    · subst ht
      obtain ⟨_, f1, f2, f3⟩ := follows_st h3
      obtain ⟨c1, c2, c3⟩ := stt_cnt (h := h) (t := r.txn)
      have hk : r.kind = 1 ∨ r.kind = 2 ∨ r.kind = 3 ∨ r.kind = 4 := by omega
      rcases hk with hk | hk | hk | hk
      · have e3 := c3 f1 (fun h => by have := f2 h; omega) (fun h => by have := f3 h; omega)
        have e : ups (r :: h) r.txn = (h.length + 1) :: ups h r.txn := by simp [ups, wrs, cnt, hk, e3]
        rw [e, List.map_cons, recAt_new, old _ (fun n hn => hn), ← ih]
        simp [sta, hk]
      · have e : ups (r :: h) r.txn = ups h r.txn := by simp [ups, wrs, cnt, hk]
        rw [e, old _ (fun n hn => hn), ← ih]
        simp [sta, hk]
      · have e : ups (r :: h) r.txn = (ups h r.txn).tail := by simp [ups, wrs, cnt, hk, Nat.add_comm]
        rw [e, old _ (fun n hn => List.mem_of_mem_tail hn), List.map_tail, ← ih]
        simp [sta, hk]
      · have e : ups (r :: h) r.txn = ups h r.txn := by simp [ups, wrs, cnt, hk]
        rw [e, old _ (fun n hn => hn), ← ih]
        simp [sta, hk]
    · have e : ups (r :: h) t = ups h t := by simp [ups, wrs, cnt, ht]
      rw [e, old _ (fun n hn => hn), ← ih]
      simp [sta, ht]
theorem sta_bnd {h : List R} (hr : Right h) {t : Int} {x : R} (hx : x ∈ sta h t) : 0 ≤ x.page ∧ x.page ≤ 2 ∧ 0 ≤ x.cell ∧ x.cell ≤ 2 := by
  induction h generalizing t with
  | nil => cases hx
  | cons r h ih =>
    obtain ⟨h1, h2, h3⟩ := hr.parts
    unfold sta at hx
    split at hx
    · split at hx
      · rename_i hk
        rcases List.mem_cons.1 hx with rfl | hx
        · have := (rec_bounds h2).2.2.2.2.2.2.2.2.1 (by simp [R.turns, hk])
          omega
        · exact ih h1 hx
      · split at hx
        · exact ih h1 (List.mem_of_mem_tail hx)
        · exact ih h1 hx
    · exact ih h1 hx
/-- A page with one cell set: that cell, and another. -/
theorem get_set (P : P3) {i : Int} (hi : 0 ≤ i ∧ i ≤ 2) (x : Pg) {j : Int} (hj : 0 ≤ j ∧ j ≤ 2) : (P.set i x).get j = if j = i then x else P.get j := by
  have h1 : i = 0 ∨ i = 1 ∨ i = 2 := by omega
  have h2 : j = 0 ∨ j = 1 ∨ j = 2 := by omega
  rcases h1 with rfl | rfl | rfl <;> rcases h2 with rfl | rfl | rfl <;> rfl
theorem put_at2 (x : Pg) {c : Int} (hc : 0 ≤ c ∧ c ≤ 2) (v n : Int) {d : Int} (hd : 0 ≤ d ∧ d ≤ 2) : (x.put c v n).cellAt d = if d = c then v else x.cellAt d := by
  have h1 : c = 0 ∨ c = 1 ∨ c = 2 := by omega
  have h2 : d = 0 ∨ d = 1 ∨ d = 2 := by omega
  rcases h1 with rfl | rfl | rfl <;> rcases h2 with rfl | rfl | rfl <;> rfl
theorem cell_turn {h : List R} {r : R} (ht : r.turns = true) (hp : 0 ≤ r.page ∧ r.page ≤ 2) (hc : 0 ≤ r.cell ∧ r.cell ≤ 2) {p c : Int} (hp2 : 0 ≤ p ∧ p ≤ 2) (hc2 : 0 ≤ c ∧ c ≤ 2) : cellOf (r :: h) p c = if inCell p c r then r.new else cellOf h p c := by
  unfold cellOf inCell
  simp only [pagesOf, ht, if_true]
  rw [get_set _ hp _ hp2]
  by_cases e : p = r.page
  · subst e
    rw [if_pos rfl, put_at2 _ hc _ _ hc2]
    by_cases e2 : c = r.cell
    · subst e2; simp
    · have : ¬ r.cell = c := fun e => e2 e.symm
      simp [e2, this]
  · have : ¬ r.page = p := fun x => e x.symm
    simp [e, this]
theorem cell_stay {h : List R} {r : R} (ht : r.turns = false) (p c : Int) : cellOf (r :: h) p c = cellOf h p c := by
  unfold cellOf
  simp only [pagesOf, ht, Bool.false_eq_true, if_false]
/-- The Write that is taken back. -/
theorem back_top {h : List R} {r : R} (hr : Right (r :: h)) (hk : r.kind = 3) : ∃ x xs, sta h r.txn = x :: xs ∧ r.page = x.page ∧ r.cell = x.cell ∧ r.new = x.old ∧ r.old = x.new := by
  obtain ⟨h1, h2, h3⟩ := hr.parts
  obtain ⟨n, us, hu, e1, e2, e3, e4, _⟩ := follows_back h3 hk
  exact ⟨recAt h n, us.map (recAt h), by rw [sta_ups h1, hu]; rfl, e1, e2, e4, e3⟩
theorem holds_sta {h : List R} (hr : Right h) {t p c : Int} (h4 : stt h t ≠ 4) : (upB h t).any (hasCell h p c) = (sta h t).any (inCell p c) := by
  rw [hr.up, if_neg h4, sta_ups hr, List.any_map]
  rfl
theorem write_fit {h : List R} {r : R} (hf : follows h r = true) (hk : r.kind = 1) : r.old = cellOf h r.page r.cell ∧ taken h r.txn r.page r.cell = false := by
  unfold follows at hf
  split at hf
  · cases hf
  · try rw [if_pos hk] at hf
    simp at hf
    exact hf
/-- What the cell is, is what the newest Write of it that stands made it; and so on, back. -/
theorem chain_all : ∀ {h : List R}, Right h → ∀ t, stt h t ≠ 4 → ∀ p c, 0 ≤ p ∧ p ≤ 2 → 0 ≤ c ∧ c ≤ 2 → (sta h t).any (inCell p c) = true → ∃ b, chain (cellOf h p c) ((sta h t).filter (inCell p c)) b
  | [], _, t, _, p, c, _, _, ha => by simp [sta] at ha
  | r :: h, hr, t, h4, p, c, hp, hc, ha => by
    obtain ⟨h1, h2, h3⟩ := hr.parts
    have hb := rec_bounds h2
    have ih := chain_all h1 t
    have hk : r.kind = 1 ∨ r.kind = 2 ∨ r.kind = 3 ∨ r.kind = 4 := by omega
    have h4' : stt h t ≠ 4 := fun e => by have := (stt_step hr t).1; have := stt_le4 (r :: h) t; omega
    obtain ⟨_, f1, f2, f3⟩ := follows_st h3
    by_cases ht : r.txn = t
    · subst ht
      rcases hk with hk | hk | hk | hk
      · have htu : r.turns = true := by simp [R.turns, hk]
        obtain ⟨b1, b2, b3, b4⟩ := hb.2.2.2.2.2.2.2.2.1 htu
        have es : sta (r :: h) r.txn = r :: sta h r.txn := by simp [sta, hk]
        rw [cell_turn htu b1 b2 hp hc]
        rw [es] at ha ⊢
        obtain ⟨w1, w2⟩ := write_fit h3 hk
        cases hin : inCell p c r
        · simp only [List.any_cons, hin, Bool.false_or] at ha
          rw [List.filter_cons]
          simp only [hin, Bool.false_eq_true, if_false]
          exact ih h4' p c hp hc ha
        · rw [List.filter_cons]
          simp only [hin, if_true]
          have hpc : r.page = p ∧ r.cell = c := by simpa [inCell] using hin
          obtain ⟨rfl, rfl⟩ := hpc
          cases hany : (sta h r.txn).any (inCell r.page r.cell)
          · refine ⟨r.old, rfl, ?_⟩
            have : (sta h r.txn).filter (inCell r.page r.cell) = [] := List.filter_eq_nil_iff.2 fun x hx => by
              have := List.any_eq_false.1 hany x hx
              simpa using this
            rw [this]
            rfl
          · obtain ⟨b, hch⟩ := ih h4' r.page r.cell hp hc hany
            exact ⟨b, rfl, by rw [w1]; exact hch⟩
      · have htu : r.turns = false := by simp [R.turns, hk]
        have es : sta (r :: h) r.txn = sta h r.txn := by simp [sta, hk]
        rw [cell_stay htu]
        rw [es] at ha ⊢
        exact ih h4' p c hp hc ha
      · have htu : r.turns = true := by simp [R.turns, hk]
        obtain ⟨b1, b2, b3, b4⟩ := hb.2.2.2.2.2.2.2.2.1 htu
        obtain ⟨x, xs, hx, e1, e2, e3, e4⟩ := back_top hr hk
        have es : sta (r :: h) r.txn = xs := by simp [sta, hk, hx]
        rw [cell_turn htu b1 b2 hp hc]
        rw [es] at ha ⊢
        have hin : inCell p c r = inCell p c x := by simp [inCell, e1, e2]
        have ha2 : (sta h r.txn).any (inCell p c) = true := by rw [hx, List.any_cons, ha, Bool.or_true]
        obtain ⟨b, hch⟩ := ih h4' p c hp hc ha2
        rw [hx, List.filter_cons] at hch
        rw [hin]
        cases hxc : inCell p c x
        · rw [hxc] at hch
          exact ⟨b, hch⟩
        · rw [hxc] at hch
          refine ⟨b, ?_⟩
          simp only [if_true]
          rw [e3]
          exact hch.2
      · have := stt_cons hr
        omega
    · have es : sta (r :: h) t = sta h t := by simp [sta, ht]
      rw [es] at ha ⊢
      cases htu : r.turns
      · rw [cell_stay htu]
        exact ih h4' p c hp hc ha
      · obtain ⟨b1, b2, b3, b4⟩ := hb.2.2.2.2.2.2.2.2.1 htu
        rw [cell_turn htu b1 b2 hp hc]
        have hne : inCell p c r = false := by
          cases hin : inCell p c r
          · rfl
          · exfalso
            have hpc : r.page = p ∧ r.cell = c := by simpa [inCell] using hin
            obtain ⟨rfl, rfl⟩ := hpc
            have o1 := (h1.own r.page r.cell).2 t
            rw [holds_sta h1 h4'] at o1
            obtain ⟨o2, o3⟩ := o1.1 ha
            have hk13 : r.kind = 1 ∨ r.kind = 3 := by simpa [R.turns] using htu
            rcases hk13 with hk | hk
            · have hfree := (write_fit h3 hk).2
              have := own_free h1 (t := r.txn) (p := r.page) (c := r.cell) ⟨by omega, by omega⟩
              rw [hfree, o2] at this
              simp at this
              rcases this with h | h
              · exact o3 h
              · exact ht h.symm
            · obtain ⟨x, xs, hx, e1, e2, _⟩ := back_top hr hk
              have o4 := (h1.own r.page r.cell).2 r.txn
              rw [holds_sta h1 f1] at o4
              have : (sta h r.txn).any (inCell r.page r.cell) = true := by rw [hx, List.any_cons]; simp [inCell, e1, e2]
              have := (o4.1 this).1
              omega
        rw [hne]
        exact ih h4' p c hp hc ha
theorem top_is {h : List R} (hr : Right h) {t : Int} (h4 : stt h t ≠ 4) {x : R} {xs : List R} (hx : sta h t = x :: xs) : cellOf h x.page x.cell = x.new := by
  have hb := sta_bnd hr (t := t) (x := x) (by rw [hx]; exact List.Mem.head _)
  have hin : inCell x.page x.cell x = true := by simp [inCell]
  obtain ⟨b, hch⟩ := chain_all hr t h4 x.page x.cell ⟨hb.1, hb.2.1⟩ hb.2.2 (by rw [hx, List.any_cons, hin]; rfl)
  rw [hx, List.filter_cons, hin] at hch
  exact hch.1.symm
theorem alone {h : List R} (hr : Right h) {t u : Int} (ht : stt h t ≠ 4) (hu : stt h u ≠ 4) {x y : R} (hx : x ∈ sta h t) (hy : y ∈ sta h u) (hp : x.page = y.page) (hc : x.cell = y.cell) : t = u := by
  have o1 := (hr.own x.page x.cell).2 t
  have o2 := (hr.own x.page x.cell).2 u
  rw [holds_sta hr ht] at o1
  rw [holds_sta hr hu] at o2
  have h1 := (o1.1 (List.any_eq_true.2 ⟨x, hx, by simp [inCell]⟩)).1
  have h2 := (o2.1 (List.any_eq_true.2 ⟨y, hy, by simp [inCell, hp, hc]⟩)).1
  omega
end Go.Proofs.Ytmfjhacgpopijaa
end
section
set_option linter.unusedVariables false
set_option linter.unusedSimpArgs false
set_option linter.unusedSectionVars false
namespace Go.Proofs.Ytmfjhacgpopijaa
theorem sta_mem : ∀ {h : List R} {t : Int} {x : R}, x ∈ sta h t → x ∈ h ∧ x.txn = t ∧ x.kind = 1
  | [], _, _, hx => by cases hx
  | r :: h, t, x, hx => by
    have key : ∀ {x : R}, x ∈ sta h t → x ∈ r :: h ∧ x.txn = t ∧ x.kind = 1 := fun hx => by
      obtain ⟨h1, h2⟩ := sta_mem hx
      exact ⟨List.mem_cons_of_mem _ h1, h2⟩
    unfold sta at hx
    split at hx
    · rename_i ht
      split at hx
      · rename_i hk
        rcases List.mem_cons.1 hx with rfl | hx
        · exact ⟨List.Mem.head _, ht, hk⟩
        · exact key hx
      · split at hx
        · exact key (List.mem_of_mem_tail hx)
        · exact key hx
    · exact key hx
/-- Nobody else holds the cell. -/
def NoOther (h : List R) (t p c : Int) : Prop := ∀ u, u ≠ t → (upB h u).any (hasCell h p c) = false
theorem gone_base {h : List R} {r : R} (hr : Right (r :: h)) (hk : r.kind = 1) (hf : ∀ x ∈ h, ¬(x.txn = r.txn ∧ x.kind = 1 ∧ inCell r.page r.cell x = true)) :
    chain (cellOf (r :: h) r.page r.cell) ((sta (r :: h) r.txn).filter (inCell r.page r.cell)) r.old ∧ NoOther (r :: h) r.txn r.page r.cell := by
  obtain ⟨h1, h2, h3⟩ := hr.parts
  have hb := rec_bounds h2
  have htu : r.turns = true := by simp [R.turns, hk]
  obtain ⟨b1, b2, b3, b4⟩ := hb.2.2.2.2.2.2.2.2.1 htu
  have hin : inCell r.page r.cell r = true := by simp [inCell]
  constructor
  · have es : sta (r :: h) r.txn = r :: sta h r.txn := by simp [sta, hk]
    have e0 : (sta h r.txn).filter (inCell r.page r.cell) = [] := List.filter_eq_nil_iff.2 fun x hx hc => by
      obtain ⟨m1, m2, m3⟩ := sta_mem hx
      exact hf x m1 ⟨m2, m3, hc⟩
    rw [es, List.filter_cons, hin, cell_turn htu b1 b2 b1 b2, hin]
    simp only [if_true]
    rw [e0]
    exact ⟨rfl, rfl⟩
  · intro u hu
    have hne : ¬ r.txn = u := fun e => hu e.symm
    have e : upB (r :: h) u = upB h u := by simp [upB, hne]
    rw [e, any_old (fun n hn => hn)]
    cases ha : (upB h u).any (hasCell h r.page r.cell)
    · rfl
    · exfalso
      obtain ⟨o1, o2⟩ := ((h1.own r.page r.cell).2 u).1 ha
      have := own_free h1 (t := r.txn) (p := r.page) (c := r.cell) ⟨by omega, by omega⟩
      rw [(write_fit h3 hk).2, o1] at this
      simp at this
      rcases this with h | h
      · exact o2 h
      · exact hu h
theorem gone_step {h : List R} {x : R} {t p c b : Int} (hr : Right (x :: h)) (hp : 0 ≤ p ∧ p ≤ 2) (hc : 0 ≤ c ∧ c ≤ 2) (hx : ¬(x.kind = 1 ∧ x.txn ≠ t ∧ inCell p c x = true))
    (ih : chain (cellOf h p c) ((sta h t).filter (inCell p c)) b ∧ NoOther h t p c) : chain (cellOf (x :: h) p c) ((sta (x :: h) t).filter (inCell p c)) b ∧ NoOther (x :: h) t p c := by
  obtain ⟨h1, h2, h3⟩ := hr.parts
  have hb := rec_bounds h2
  have hk : x.kind = 1 ∨ x.kind = 2 ∨ x.kind = 3 ∨ x.kind = 4 := by omega
  obtain ⟨i1, i2⟩ := ih
  obtain ⟨_, f1, f2, f3⟩ := follows_st h3
  have cellx : cellOf (x :: h) p c = if x.turns && inCell p c x then x.new else cellOf h p c := by
    cases htu : x.turns
    · rw [cell_stay htu]; simp
    · obtain ⟨b1, b2, _, _⟩ := hb.2.2.2.2.2.2.2.2.1 htu
      rw [cell_turn htu b1 b2 hp hc]; simp
  constructor
  · rw [cellx]
    by_cases ht : x.txn = t
    · subst ht
      rcases hk with hk | hk | hk | hk
      · have es : sta (x :: h) x.txn = x :: sta h x.txn := by simp [sta, hk]
        have htu : x.turns = true := by simp [R.turns, hk]
        rw [es, List.filter_cons, htu]
        cases hin : inCell p c x
        · simpa using i1
        · have hpc : x.page = p ∧ x.cell = c := by simpa [inCell] using hin
          obtain ⟨rfl, rfl⟩ := hpc
          simp only [Bool.and_self, if_true]
          exact ⟨rfl, by rw [(write_fit h3 hk).1]; exact i1⟩
      · have es : sta (x :: h) x.txn = sta h x.txn := by simp [sta, hk]
        have htu : x.turns = false := by simp [R.turns, hk]
        rw [es, htu]
        simpa using i1
      · obtain ⟨y, ys, hy, e1, e2, e3, e4⟩ := back_top hr hk
        have es : sta (x :: h) x.txn = ys := by simp [sta, hk, hy]
        have htu : x.turns = true := by simp [R.turns, hk]
        have hin : inCell p c x = inCell p c y := by simp [inCell, e1, e2]
        rw [hy, List.filter_cons] at i1
        rw [es, htu, hin]
        cases hyc : inCell p c y
        · rw [hyc] at i1
          simpa using i1
        · rw [hyc] at i1
          simp only [Bool.and_self, if_true]
          rw [e3]
          exact i1.2
      · have es : sta (x :: h) x.txn = sta h x.txn := by simp [sta, hk]
        have htu : x.turns = false := by simp [R.turns, hk]
        rw [es, htu]
        simpa using i1
    · have es : sta (x :: h) t = sta h t := by simp [sta, ht]
      rw [es]
      have hne : (x.turns && inCell p c x) = false := by
        cases hti : (x.turns && inCell p c x)
        · rfl
        · exfalso
          simp only [Bool.and_eq_true] at hti
          obtain ⟨htu, hin⟩ := hti
          have hk13 : x.kind = 1 ∨ x.kind = 3 := by simpa [R.turns] using htu
          rcases hk13 with hk | hk
          · exact hx ⟨hk, ht, hin⟩
          · obtain ⟨y, ys, hy, e1, e2, _⟩ := back_top hr hk
            have n1 := i2 x.txn ht
            rw [holds_sta h1 f1, hy, List.any_cons] at n1
            have : inCell p c y = true := by simpa [inCell, e1, e2] using hin
            rw [this] at n1
            simp at n1
      rw [hne]
      simpa using i1
  · intro u hu
    by_cases hxu : x.txn = u
    · subst hxu
      have n1 := i2 x.txn hu
      rcases hk with hk | hk | hk | hk
      · have e : upB (x :: h) x.txn = (h.length + 1) :: upB h x.txn := by simp [upB, hk]
        rw [e, List.any_cons, any_old (fun n hn => hn), n1]
        unfold hasCell
        rw [recAt_new]
        cases hin : inCell p c x
        · simpa [inCell] using hin
        · exact absurd ⟨hk, hu, hin⟩ hx
      · have e : upB (x :: h) x.txn = upB h x.txn := by simp [upB, hk]
        rw [e, any_old (fun n hn => hn), n1]
      · have e : upB (x :: h) x.txn = (upB h x.txn).tail := by simp [upB, hk]
        rw [e, any_old (fun n hn => List.mem_of_mem_tail hn)]
        cases hl : upB h x.txn with
        | nil => rfl
        | cons m ms =>
          rw [hl, List.any_cons, Bool.or_eq_false_iff] at n1
          exact n1.2
      · have e : upB (x :: h) x.txn = [] := by simp [upB, hk]
        rw [e]
        rfl
    · have e : upB (x :: h) u = upB h u := by simp [upB, hxu]
      rw [e, any_old (fun n hn => hn)]
      exact i2 u hu
/-- From the first Write of the cell on. -/
theorem gone_all {h0 : List R} {r : R} (hk : r.kind = 1) (hf : ∀ x ∈ h0, ¬(x.txn = r.txn ∧ x.kind = 1 ∧ inCell r.page r.cell x = true)) (hp : 0 ≤ r.page ∧ r.page ≤ 2) (hc : 0 ≤ r.cell ∧ r.cell ≤ 2) :
    ∀ (g : List R), Right (g ++ r :: h0) → (∀ x ∈ g, ¬(x.kind = 1 ∧ x.txn ≠ r.txn ∧ inCell r.page r.cell x = true)) →
      chain (cellOf (g ++ r :: h0) r.page r.cell) ((sta (g ++ r :: h0) r.txn).filter (inCell r.page r.cell)) r.old ∧ NoOther (g ++ r :: h0) r.txn r.page r.cell
  | [], hr, _ => gone_base hr hk hf
  | x :: g, hr, hg => gone_step hr hp hc (hg x (List.Mem.head _)) (gone_all hk hf hp hc g hr.parts.1 fun y hy => hg y (List.Mem.tail _ hy))
end Go.Proofs.Ytmfjhacgpopijaa
end
section
set_option linter.unusedVariables false
set_option linter.unusedSimpArgs false
set_option linter.unusedSectionVars false
namespace Go.Proofs.Ytmfjhacgpopijaa
/-- Those who have a Commit, the newest first. -/
def winsH : List R → List Int
  | [] => []
  | r :: h => if r.kind = 2 then r.txn :: winsH h else winsH h
def won (h : List R) (t : Int) : Bool := decide (0 < cnt h t 2)
theorem wins_mem : ∀ (h : List R) (t : Int), (winsH h).contains t = won h t
  | [], t => rfl
  | r :: h, t => by
    have ih := wins_mem h t
    unfold won at *
    simp only [winsH, cnt]
    by_cases hk : r.kind = 2
    · rw [if_pos hk]
      by_cases ht : r.txn = t
      · subst ht; simp [hk]; omega
      · have h1 : ¬ t = r.txn := fun e => ht e.symm
        simp only [List.contains_cons, hk, and_true, ht, if_false, Nat.zero_add, ih]
        simp [h1]
    · rw [if_neg hk]
      simp only [hk, and_false, if_false, Nat.zero_add]
      exact ih
theorem won_cons {r : R} {h : List R} (t : Int) : won (r :: h) t = ((r.txn == t && r.kind == 2) || won h t) := by
  unfold won
  simp only [cnt]
  by_cases hk : r.kind = 2 <;> by_cases ht : r.txn = t <;> simp [hk, ht]
  omega
def C9.set (x : C9) (p c v : Int) : C9 :=
  if p = 0 then (if c = 0 then { x with a0 := v } else if c = 1 then { x with a1 := v } else { x with a2 := v })
  else if p = 1 then (if c = 0 then { x with b0 := v } else if c = 1 then { x with b1 := v } else { x with b2 := v })
  else (if c = 0 then { x with c0 := v } else if c = 1 then { x with c1 := v } else { x with c2 := v })
def C9.at (x : C9) (p c : Int) : Int :=
  if p = 0 then (if c = 0 then x.a0 else if c = 1 then x.a1 else x.a2)
  else if p = 1 then (if c = 0 then x.b0 else if c = 1 then x.b1 else x.b2)
  else (if c = 0 then x.c0 else if c = 1 then x.c1 else x.c2)
theorem C9.at_set (x : C9) {p c : Int} (hp : 0 ≤ p ∧ p ≤ 2) (hc : 0 ≤ c ∧ c ≤ 2) (v : Int) {p' c' : Int} (hp' : 0 ≤ p' ∧ p' ≤ 2) (hc' : 0 ≤ c' ∧ c' ≤ 2) : (x.set p c v).at p' c' = if p' = p ∧ c' = c then v else x.at p' c' := by
  have h1 : p = 0 ∨ p = 1 ∨ p = 2 := by omega
  have h2 : c = 0 ∨ c = 1 ∨ c = 2 := by omega
  have h3 : p' = 0 ∨ p' = 1 ∨ p' = 2 := by omega
  have h4 : c' = 0 ∨ c' = 1 ∨ c' = 2 := by omega
  rcases h1 with rfl | rfl | rfl <;> rcases h2 with rfl | rfl | rfl <;> rcases h3 with rfl | rfl | rfl <;> rcases h4 with rfl | rfl | rfl <;> rfl
theorem C9.ext_at {x y : C9} (h : ∀ p c, 0 ≤ p ∧ p ≤ 2 → 0 ≤ c ∧ c ≤ 2 → x.at p c = y.at p c) : x = y := by
  obtain ⟨x0, x1, x2, x3, x4, x5, x6, x7, x8⟩ := x
  obtain ⟨y0, y1, y2, y3, y4, y5, y6, y7, y8⟩ := y
  have h00 : x0 = y0 := h 0 0 (by omega) (by omega)
  have h01 : x1 = y1 := h 0 1 (by omega) (by omega)
  have h02 : x2 = y2 := h 0 2 (by omega) (by omega)
  have h10 : x3 = y3 := h 1 0 (by omega) (by omega)
  have h11 : x4 = y4 := h 1 1 (by omega) (by omega)
  have h12 : x5 = y5 := h 1 2 (by omega) (by omega)
  have h20 : x6 = y6 := h 2 0 (by omega) (by omega)
  have h21 : x7 = y7 := h 2 1 (by omega) (by omega)
  have h22 : x8 = y8 := h 2 2 (by omega) (by omega)
  subst h00 h01 h02 h10 h11 h12 h20 h21 h22
  rfl
/-- The cells that those who are f have written. -/
def cellsW (f : Int → Bool) : List R → C9
  | [] => C9.zero
  | r :: h => if r.kind = 1 ∧ f r.txn = true then (cellsW f h).set r.page r.cell r.new else cellsW f h
/-- What must be. -/
def cellsH (h : List R) : C9 := cellsW (won h) h
theorem cellsW_congr {f g : Int → Bool} : ∀ {h : List R}, (∀ r ∈ h, r.kind = 1 → f r.txn = g r.txn) → cellsW f h = cellsW g h
  | [], _ => rfl
  | r :: h, hh => by
    have ih := cellsW_congr (f := f) (g := g) (h := h) fun x hx => hh x (List.mem_cons_of_mem _ hx)
    simp only [cellsW, ih]
    by_cases hk : r.kind = 1
    · rw [hh r (List.Mem.head _) hk]
    · simp [hk]
theorem must_cons {h : List R} {r : R} (hk : r.kind ≠ 1) (hk2 : r.kind ≠ 2) : cellsH (r :: h) = cellsH h := by
  unfold cellsH
  have e : won (r :: h) = won h := funext fun t => by rw [won_cons]; simp [hk2]
  rw [e]
  simp [cellsW, hk]
theorem write_open {h : List R} {r : R} (hr : Right (r :: h)) (hk : r.kind = 1) : won h r.txn = false ∧ (stt h r.txn = 0 ∨ stt h r.txn = 1) := by
  obtain ⟨h1, h2, h3⟩ := hr.parts
  obtain ⟨_, f1, f2, f3⟩ := follows_st h3
  obtain ⟨c1, c2, c3⟩ := stt_cnt (h := h) (t := r.txn)
  have n2 : stt h r.txn ≠ 2 := fun e => by have := f2 e; omega
  have n3 : stt h r.txn ≠ 3 := fun e => by have := f3 e; omega
  have := stt_le4 h r.txn
  refine ⟨?_, by omega⟩
  unfold won
  rw [c2 f1 n2]
  rfl
theorem must_write {h : List R} {r : R} (hr : Right (r :: h)) (hk : r.kind = 1) : cellsH (r :: h) = cellsH h := by
  have hw := (write_open hr hk).1
  unfold cellsH
  have e : won (r :: h) = won h := funext fun t => by rw [won_cons]; simp [hk]
  rw [e]
  simp [cellsW, hw]
/-- Only a Commit turns what must be. -/
theorem must_same {h : List R} {r : R} (hr : Right (r :: h)) (hk : r.kind ≠ 2) : cellsH (r :: h) = cellsH h := by
  by_cases h1 : r.kind = 1
  · exact must_write hr h1
  · exact must_cons h1 hk
theorem wins_same {h : List R} {r : R} (hk : r.kind ≠ 2) : winsH (r :: h) = winsH h := by simp [winsH, hk]
/-! ### The newest Write of a cell -/
def isW (p c : Int) (x : R) : Bool := x.kind == 1 && inCell p c x
theorem newest_hold : ∀ {h : List R}, Right h → ∀ {t p c : Int}, stt h t ≠ 4 → (sta h t).any (inCell p c) = true → ∃ x, h.find? (isW p c) = some x ∧ x.txn = t
  | [], _, t, p, c, _, ha => by simp [sta] at ha
  | r :: h, hr, t, p, c, h4, ha => by
    obtain ⟨h1, h2, h3⟩ := hr.parts
    have hb := rec_bounds h2
    have h4' : stt h t ≠ 4 := fun e => by have := (stt_step hr t).1; have := stt_le4 (r :: h) t; omega
    have ih := newest_hold h1 (t := t) (p := p) (c := c) h4'
    rw [List.find?_cons]
    cases hw : isW p c r
    · simp only
      refine ih ?_
      by_cases ht : r.txn = t
      · by_cases hk : r.kind = 1
        · simp only [sta, ht, hk, if_true, List.any_cons] at ha
          have : inCell p c r = false := by simpa [isW, hk] using hw
          rw [this] at ha
          simpa using ha
        · simp only [sta, ht, hk, if_true, if_false] at ha
          split at ha
          · obtain ⟨x, hx, hc⟩ := List.any_eq_true.1 ha
            exact List.any_eq_true.2 ⟨x, List.mem_of_mem_tail hx, hc⟩
          · exact ha
      · simpa [sta, ht] using ha
    · refine ⟨r, rfl, ?_⟩
      by_cases ht : r.txn = t
      · exact ht
      · exfalso
        have hk : r.kind = 1 ∧ inCell p c r = true := by simpa [isW] using hw
        obtain ⟨hk, hin⟩ := hk
        have hpc : r.page = p ∧ r.cell = c := by simpa [inCell] using hin
        obtain ⟨rfl, rfl⟩ := hpc
        have ha' : (sta h t).any (inCell r.page r.cell) = true := by simpa [sta, ht] using ha
        have o1 := (h1.own r.page r.cell).2 t
        rw [holds_sta h1 h4'] at o1
        obtain ⟨o2, o3⟩ := o1.1 ha'
        have := own_free h1 (t := r.txn) (p := r.page) (c := r.cell) ⟨by omega, by omega⟩
        rw [(write_fit h3 hk).2, o2] at this
        simp at this
        rcases this with h | h
        · exact o3 h
        · exact ht h.symm
theorem cellsW_newest {f : Int → Bool} : ∀ {h : List R}, InR h → ∀ {p c : Int} {x : R}, 0 ≤ p ∧ p ≤ 2 → 0 ≤ c ∧ c ≤ 2 → h.find? (isW p c) = some x → f x.txn = true → (cellsW f h).at p c = x.new
  | [], _, _, _, _, _, _, hx, _ => by cases hx
  | r :: h, hin, p, c, x, hp, hc, hx, hf => by
    have ih := cellsW_newest (f := f) (h := h) (fun y hy => hin y (List.mem_cons_of_mem _ hy)) (p := p) (c := c) (x := x) hp hc
    rw [List.find?_cons] at hx
    cases hw : isW p c r
    · rw [hw] at hx
      have ih := ih hx hf
      simp only [cellsW]
      split
      · rename_i hk
        obtain ⟨b1, b2⟩ := hin r (List.Mem.head _) (by simp [R.turns, hk.1])
        rw [C9.at_set _ b1 b2 _ hp hc, if_neg, ih]
        rintro ⟨rfl, rfl⟩
        simp [isW, inCell, hk.1] at hw
      · exact ih
    · rw [hw] at hx
      obtain rfl := Option.some.inj hx
      have hk : r.kind = 1 ∧ inCell p c r = true := by simpa [isW] using hw
      obtain ⟨hk, hic⟩ := hk
      have hpc : r.page = p ∧ r.cell = c := by simpa [inCell] using hic
      obtain ⟨rfl, rfl⟩ := hpc
      simp only [cellsW, hk, hf, and_self, if_true]
      rw [C9.at_set _ hp hc _ hp hc, if_pos ⟨rfl, rfl⟩]
theorem cellsW_none {f g : Int → Bool} {t : Int} (hfg : ∀ u, u ≠ t → f u = g u) : ∀ {h : List R}, InR h → ∀ {p c : Int}, 0 ≤ p ∧ p ≤ 2 → 0 ≤ c ∧ c ≤ 2 → (∀ x ∈ h, x.txn = t → x.kind = 1 → inCell p c x = false) → (cellsW f h).at p c = (cellsW g h).at p c
  | [], _, _, _, _, _, _ => rfl
  | r :: h, hin, p, c, hp, hc, hn => by
    have ih := cellsW_none hfg (h := h) (fun y hy => hin y (List.mem_cons_of_mem _ hy)) hp hc (fun x hx => hn x (List.mem_cons_of_mem _ hx))
    by_cases hk : r.kind = 1
    · obtain ⟨b1, b2⟩ := hin r (List.Mem.head _) (by simp [R.turns, hk])
      have key : ∀ k : Int → Bool, (cellsW k (r :: h)).at p c = if k r.txn = true ∧ inCell p c r = true then r.new else (cellsW k h).at p c := fun k => by
        simp only [cellsW, hk, true_and]
        by_cases hkk : k r.txn = true
        · rw [if_pos hkk, C9.at_set _ b1 b2 _ hp hc]
          by_cases he : inCell p c r = true
          · have : r.page = p ∧ r.cell = c := by simpa [inCell] using he
            rw [if_pos ⟨this.1.symm, this.2.symm⟩, if_pos ⟨hkk, he⟩]
          · rw [if_neg (fun e => he (by simp [inCell, e.1, e.2])), if_neg (fun e => he e.2)]
        · rw [if_neg hkk, if_neg (fun e => hkk e.1)]
      rw [key f, key g, ih]
      by_cases ht : r.txn = t
      · have := hn r (List.Mem.head _) ht hk
        simp [this]
      · rw [hfg _ ht]
    · simp only [cellsW, hk, false_and, if_false]
      exact ih
/-- While a Txn has taken nothing back, all that it has written stands. -/
theorem sta_all : ∀ {h : List R} {t : Int}, cnt h t 3 = 0 → ∀ x ∈ h, x.txn = t → x.kind = 1 → x ∈ sta h t
  | [], _, _, x, hx, _, _ => by cases hx
  | r :: h, t, h0, x, hx, ht, hk => by
    have h3 : ¬(r.txn = t ∧ r.kind = 3) ∧ cnt h t 3 = 0 := by
      simp only [cnt] at h0
      split at h0
      · omega
      · exact ⟨by assumption, by omega⟩
    rcases List.mem_cons.1 hx with rfl | hx
    · simp [sta, ht, hk]
    · have ih := sta_all h3.2 x hx ht hk
      simp only [sta]
      split
      · rename_i hrt
        split
        · exact List.mem_cons_of_mem _ ih
        · rw [if_neg (fun e => h3.1 ⟨hrt, e⟩)]
          exact ih
      · exact ih
/-! ### The pages and what must be -/
def hangs (h : List R) (t : Int) : Prop := stt h t = 1 ∨ stt h t = 3
/-- The cell is what must be; or one that hangs holds it, and its Writes lead back to what must be. -/
structure Cur (h : List R) (p c : Int) : Prop where
  held : ∀ t, hangs h t → (sta h t).any (inCell p c) = true → chain (cellOf h p c) ((sta h t).filter (inCell p c)) ((cellsH h).at p c)
  free : (∀ t, hangs h t → (sta h t).any (inCell p c) = false) → cellOf h p c = (cellsH h).at p c
theorem hangs4 {h : List R} {t : Int} (x : hangs h t) : stt h t ≠ 4 := by rcases x with x | x <;> omega
theorem stt_other {h : List R} {r : R} {t : Int} (ht : r.txn ≠ t) : stt (r :: h) t = stt h t := by
  have e1 : lastN (r :: h) t = lastN h t := by simp [lastN, ht]
  have e2 : ∀ k, cnt (r :: h) t k = cnt h t k := fun k => by simp [cnt, ht]
  unfold stt
  rw [e1, e2, e2, e2]
theorem sta_other {h : List R} {r : R} {t : Int} (ht : r.txn ≠ t) : sta (r :: h) t = sta h t := by simp [sta, ht]
theorem filter_none {l : List R} {p c : Int} (h : l.any (inCell p c) = false) : l.filter (inCell p c) = [] := List.filter_eq_nil_iff.2 fun x hx => by
  have := List.any_eq_false.1 h x hx
  simpa using this
theorem cell_out {h : List R} {r : R} (hr : Right (r :: h)) {p c : Int} (hp : 0 ≤ p ∧ p ≤ 2) (hc : 0 ≤ c ∧ c ≤ 2) (hn : r.turns = true → inCell p c r = false) : cellOf (r :: h) p c = cellOf h p c := by
  cases ht : r.turns
  · exact cell_stay ht p c
  · obtain ⟨b1, b2, _, _⟩ := (rec_bounds hr.parts.2.1).2.2.2.2.2.2.2.2.1 ht
    rw [cell_turn ht b1 b2 hp hc, hn ht]
    rfl
theorem alone_in {h : List R} (hr : Right h) {t u : Int} (ht : stt h t ≠ 4) (hu : stt h u ≠ 4) {p c : Int} (h1 : (sta h t).any (inCell p c) = true) (h2 : (sta h u).any (inCell p c) = true) : t = u := by
  obtain ⟨x, hx, e1⟩ := List.any_eq_true.1 h1
  obtain ⟨y, hy, e2⟩ := List.any_eq_true.1 h2
  simp [inCell] at e1 e2
  exact alone hr ht hu hx hy (e1.1.trans e2.1.symm) (e1.2.trans e2.2.symm)
theorem cur_all : ∀ {h : List R}, Right h → ∀ {p c : Int}, 0 ≤ p ∧ p ≤ 2 → 0 ≤ c ∧ c ≤ 2 → Cur h p c
  | [], _, p, c, hp, hc => by
    refine ⟨fun t h => by rcases h with h | h <;> simp [stt, lastN] at h, fun _ => ?_⟩
    have h1 : p = 0 ∨ p = 1 ∨ p = 2 := by omega
    have h2 : c = 0 ∨ c = 1 ∨ c = 2 := by omega
    rcases h1 with rfl | rfl | rfl <;> rcases h2 with rfl | rfl | rfl <;> rfl
  | r :: h, hr, p, c, hp, hc => by
    obtain ⟨h1, h2, h3⟩ := hr.parts
    have hb := rec_bounds h2
    have ih := cur_all h1 hp hc
    have hk : r.kind = 1 ∨ r.kind = 2 ∨ r.kind = 3 ∨ r.kind = 4 := by omega
    obtain ⟨_, f1, f2, f3⟩ := follows_st h3
    have hsc := stt_cons hr
    have hle := stt_le4 h r.txn
    rcases hk with hk | hk | hk | hk
    · -- Write
      have hm := must_write hr hk
      obtain ⟨_, hs⟩ := write_open hr hk
      have htu : r.turns = true := by simp [R.turns, hk]
      obtain ⟨b1, b2, _, _⟩ := hb.2.2.2.2.2.2.2.2.1 htu
      have es : sta (r :: h) r.txn = r :: sta h r.txn := by simp [sta, hk]
      have hs1 : stt (r :: h) r.txn = 1 := by omega
      have ho : ∀ t, r.txn ≠ t → (hangs (r :: h) t ↔ hangs h t) := fun t ht => by unfold hangs; rw [stt_other ht]
      cases hin : inCell p c r
      · have hcell := cell_out hr hp hc (fun _ => hin)
        have hsta : ∀ t, (sta (r :: h) t).any (inCell p c) = (sta h t).any (inCell p c) ∧ (sta (r :: h) t).filter (inCell p c) = (sta h t).filter (inCell p c) := fun t => by
          by_cases ht : r.txn = t
          · subst ht; rw [es]; simp [hin]
          · rw [sta_other ht]; exact ⟨rfl, rfl⟩
        have hs0 : stt h r.txn = 0 → sta h r.txn = [] := fun e => by rw [sta_ups h1, ups_none e]; rfl
        refine ⟨fun t ht ha => ?_, fun hf => ?_⟩
        · rw [(hsta t).1] at ha
          rw [(hsta t).2, hcell, hm]
          by_cases et : r.txn = t
          · subst et
            rcases hs with hs | hs
            · rw [hs0 hs] at ha; simp at ha
            · exact ih.held _ (.inl hs) ha
          · exact ih.held t ((ho t et).1 ht) ha
        · rw [hcell, hm]
          refine ih.free fun t ht => ?_
          rw [← (hsta t).1]
          by_cases et : r.txn = t
          · subst et; exact hf _ (.inl hs1)
          · exact hf t ((ho t et).2 ht)
      · have hpc : r.page = p ∧ r.cell = c := by simpa [inCell] using hin
        obtain ⟨rfl, rfl⟩ := hpc
        obtain ⟨w1, w2⟩ := write_fit h3 hk
        have hother : ∀ u, u ≠ r.txn → stt h u ≠ 4 → (sta h u).any (inCell r.page r.cell) = false := fun u hu h4 => by
          cases ha : (sta h u).any (inCell r.page r.cell)
          · rfl
          · exfalso
            have o1 := (h1.own r.page r.cell).2 u
            rw [holds_sta h1 h4] at o1
            obtain ⟨o2, o3⟩ := o1.1 ha
            have := own_free h1 (t := r.txn) (p := r.page) (c := r.cell) ⟨by omega, by omega⟩
            rw [w2, o2] at this
            simp at this
            rcases this with h | h
            · exact o3 h
            · exact hu h
        have hnew : cellOf (r :: h) r.page r.cell = r.new := by rw [cell_turn htu b1 b2 hp hc, hin]; rfl
        have hself : chain (cellOf (r :: h) r.page r.cell) ((sta (r :: h) r.txn).filter (inCell r.page r.cell)) ((cellsH (r :: h)).at r.page r.cell) := by
          rw [hnew, hm, es, List.filter_cons, hin]
          refine ⟨rfl, ?_⟩
          rw [w1]
          have hfree : (sta h r.txn).any (inCell r.page r.cell) = false → chain (cellOf h r.page r.cell) ((sta h r.txn).filter (inCell r.page r.cell)) ((cellsH h).at r.page r.cell) := fun ha => by
            rw [filter_none ha]
            refine ih.free fun t ht => ?_
            by_cases et : r.txn = t
            · subst et; exact ha
            · exact hother t (fun e => et e.symm) (hangs4 ht)
          cases ha : (sta h r.txn).any (inCell r.page r.cell)
          · exact hfree ha
          · rcases hs with hs | hs
            · exfalso
              rw [sta_ups h1, ups_none hs] at ha
              simp at ha
            · exact ih.held _ (.inl hs) ha
        refine ⟨fun t ht ha => ?_, fun hf => ?_⟩
        · by_cases et : r.txn = t
          · subst et; exact hself
          · exfalso
            rw [sta_other et, hother t (fun e => et e.symm) (hangs4 ((ho t et).1 ht))] at ha
            cases ha
        · have := hf r.txn (.inl hs1)
          rw [es, List.any_cons, hin] at this
          simp at this
    · -- Commit
      have htu : r.turns = false := by simp [R.turns, hk]
      have es : ∀ t, sta (r :: h) t = sta h t := fun t => by simp [sta, hk]
      have hs : stt h r.txn = 1 ∨ stt h r.txn = 0 := by
        have n2 : stt h r.txn ≠ 2 := fun e => by have := f2 e; omega
        have n3 : stt h r.txn ≠ 3 := fun e => by have := f3 e; omega
        omega
      have hs2 : stt (r :: h) r.txn = 2 := by omega
      have c3 : cnt h r.txn 3 = 0 := (stt_cnt (h := h) (t := r.txn)).2.2 f1 (by omega) (by omega)
      have ho : ∀ t, r.txn ≠ t → (hangs (r :: h) t ↔ hangs h t) := fun t ht => by unfold hangs; rw [stt_other ht]
      have hcell := cell_stay (h := h) htu p c
      have hcw : cellsH (r :: h) = cellsW (won (r :: h)) h := by unfold cellsH; simp [cellsW, hk]
      have hwo : ∀ u, u ≠ r.txn → won (r :: h) u = won h u := fun u hu => by
        rw [won_cons]
        have : ¬ r.txn = u := fun e => hu e.symm
        simp [this]
      have hwt : won (r :: h) r.txn = true := by rw [won_cons]; simp [hk]
      cases ha : (sta h r.txn).any (inCell p c)
      · have hm : (cellsH (r :: h)).at p c = (cellsH h).at p c := by
          rw [hcw]
          refine cellsW_none hwo h1.inR hp hc fun x hx e1 e2 => ?_
          have := List.any_eq_false.1 ha x (sta_all c3 x hx e1 e2)
          simpa using this
        refine ⟨fun t ht hat => ?_, fun hf => ?_⟩
        · rw [es] at hat
          rw [es, hcell, hm]
          by_cases et : r.txn = t
          · subst et; rw [ha] at hat; cases hat
          · exact ih.held t ((ho t et).1 ht) hat
        · rw [hcell, hm]
          refine ih.free fun t ht => ?_
          by_cases et : r.txn = t
          · subst et; exact ha
          · rw [← es]; exact hf t ((ho t et).2 ht)
      · have hs1 : stt h r.txn = 1 := by
          rcases hs with hs | hs
          · exact hs
          · rw [sta_ups h1, ups_none hs] at ha; simp at ha
        obtain ⟨x, hx, hxt⟩ := newest_hold h1 f1 ha
        have hch := ih.held r.txn (.inl hs1) ha
        have hm : (cellsH (r :: h)).at p c = x.new := by
          rw [hcw]
          exact cellsW_newest h1.inR hp hc hx (by rw [hxt]; exact hwt)
        have htop : cellOf h p c = x.new := by
          obtain ⟨y, ys, hy⟩ : ∃ y ys, (sta h r.txn).filter (inCell p c) = y :: ys := by
            cases hfl : (sta h r.txn).filter (inCell p c) with
            | nil =>
              obtain ⟨z, hz, hzc⟩ := List.any_eq_true.1 ha
              exact absurd (List.mem_filter.2 ⟨hz, hzc⟩) (by rw [hfl]; simp)
            | cons y ys => exact ⟨y, ys, rfl⟩
          rw [hy] at hch
          have key : ∀ {h : List R} {x : R}, cnt h r.txn 3 = 0 → h.find? (isW p c) = some x → x.txn = r.txn → ∃ zs, (sta h r.txn).filter (inCell p c) = x :: zs := by
            intro h
            induction h with
            | nil => intro x _ hx _; cases hx
            | cons z h ihh =>
              intro x h0 hx ht
              have h3 : ¬(z.txn = r.txn ∧ z.kind = 3) ∧ cnt h r.txn 3 = 0 := by
                simp only [cnt] at h0
                split at h0
                · omega
                · exact ⟨by assumption, by omega⟩
              rw [List.find?_cons] at hx
              cases hw : isW p c z
              · rw [hw] at hx
                obtain ⟨zs, hzs⟩ := ihh h3.2 hx ht
                refine ⟨zs, ?_⟩
                simp only [sta]
                split
                · rename_i hzt
                  split
                  · rename_i hzk
                    have : inCell p c z = false := by simpa [isW, hzk] using hw
                    rw [List.filter_cons, this]
                    exact hzs
                  · rw [if_neg (fun e => h3.1 ⟨hzt, e⟩)]
                    exact hzs
                · exact hzs
              · rw [hw] at hx
                obtain rfl := Option.some.inj hx
                have hzk : z.kind = 1 ∧ inCell p c z = true := by simpa [isW] using hw
                refine ⟨(sta h r.txn).filter (inCell p c), ?_⟩
                simp only [sta, ht, hzk.1, if_true, List.filter_cons, hzk.2]
          obtain ⟨zs, hzs⟩ := key c3 hx hxt
          rw [hy] at hzs
          injection hzs with e1 e2
          rw [← e1]
          exact hch.1.symm
        refine ⟨fun t ht hat => ?_, fun hf => ?_⟩
        · exfalso
          rw [es] at hat
          have et : r.txn ≠ t := fun e => by
            subst e
            rcases ht with ht | ht <;> omega
          exact et (alone_in h1 f1 (hangs4 ((ho t et).1 ht)) ha hat)
        · rw [hcell, hm, htop]
    · -- Back
      have hm := must_cons (h := h) (r := r) (by omega) (by omega)
      have htu : r.turns = true := by simp [R.turns, hk]
      obtain ⟨b1, b2, _, _⟩ := hb.2.2.2.2.2.2.2.2.1 htu
      obtain ⟨y, ys, hy, e1, e2, e3, e4⟩ := back_top hr hk
      have es : sta (r :: h) r.txn = ys := by simp [sta, hk, hy]
      have hs3 : stt (r :: h) r.txn = 3 := by omega
      have hsh : hangs h r.txn := by
        have n2 : stt h r.txn ≠ 2 := fun e => by have := f2 e; omega
        have n0 : stt h r.txn ≠ 0 := fun e => by rw [sta_ups h1, ups_none e] at hy; simp at hy
        unfold hangs
        omega
      have ho : ∀ t, r.txn ≠ t → (hangs (r :: h) t ↔ hangs h t) := fun t ht => by unfold hangs; rw [stt_other ht]
      have hic : inCell p c r = inCell p c y := by simp [inCell, e1, e2]
      cases hin : inCell p c r
      · have hcell := cell_out hr hp hc (fun _ => hin)
        rw [hin] at hic
        have hsta : ∀ t, (sta (r :: h) t).any (inCell p c) = (sta h t).any (inCell p c) ∧ (sta (r :: h) t).filter (inCell p c) = (sta h t).filter (inCell p c) := fun t => by
          by_cases ht : r.txn = t
          · subst ht; rw [es, hy, List.any_cons, List.filter_cons, ← hic]; simp
          · rw [sta_other ht]; exact ⟨rfl, rfl⟩
        refine ⟨fun t ht ha => ?_, fun hf => ?_⟩
        · rw [(hsta t).1] at ha
          rw [(hsta t).2, hcell, hm]
          by_cases et : r.txn = t
          · subst et; exact ih.held _ hsh ha
          · exact ih.held t ((ho t et).1 ht) ha
        · rw [hcell, hm]
          refine ih.free fun t ht => ?_
          rw [← (hsta t).1]
          by_cases et : r.txn = t
          · subst et; exact hf _ (.inr hs3)
          · exact hf t ((ho t et).2 ht)
      · rw [hin] at hic
        have ha : (sta h r.txn).any (inCell p c) = true := by rw [hy, List.any_cons, ← hic]; rfl
        have hch := ih.held r.txn hsh ha
        rw [hy, List.filter_cons, ← hic] at hch
        have hnew : cellOf (r :: h) p c = r.new := by rw [cell_turn htu b1 b2 hp hc, hin]; rfl
        have hself : chain (cellOf (r :: h) p c) (ys.filter (inCell p c)) ((cellsH (r :: h)).at p c) := by
          rw [hnew, hm, e3]
          exact hch.2
        refine ⟨fun t ht hat => ?_, fun hf => ?_⟩
        · by_cases et : r.txn = t
          · subst et; rw [es]; exact hself
          · exfalso
            rw [sta_other et] at hat
            exact et (alone_in h1 f1 (hangs4 ((ho t et).1 ht)) ha hat)
        · have := hf r.txn (.inr hs3)
          rw [es] at this
          rw [filter_none this] at hself
          exact hself
    · -- End
      have hm := must_cons (h := h) (r := r) (by omega) (by omega)
      have htu : r.turns = false := by simp [R.turns, hk]
      have es : ∀ t, sta (r :: h) t = sta h t := fun t => by simp [sta, hk]
      have hcell := cell_stay (h := h) htu p c
      have ho : ∀ t, r.txn ≠ t → (hangs (r :: h) t ↔ hangs h t) := fun t ht => by unfold hangs; rw [stt_other ht]
      have hs4 : stt (r :: h) r.txn = 4 := by omega
      have hnone : hangs h r.txn → (sta h r.txn).any (inCell p c) = false := fun hh => by
        have hfo := h3
        unfold follows at hfo
        split at hfo
        · cases hfo
        · rw [if_neg (by omega), if_neg (by omega)] at hfo
          rw [if_neg (by omega)] at hfo
          simp only [Bool.or_eq_true, Bool.and_eq_true, beq_iff_eq] at hfo
          rcases hfo with h2 | ⟨h3, h4⟩
          · unfold hangs at hh; omega
          · have : ups h r.txn = [] := by simpa using h4
            rw [sta_ups h1, this]
            rfl
      refine ⟨fun t ht ha => ?_, fun hf => ?_⟩
      · rw [es] at ha
        rw [es, hcell, hm]
        by_cases et : r.txn = t
        · subst et; unfold hangs at ht; omega
        · exact ih.held t ((ho t et).1 ht) ha
      · rw [hcell, hm]
        refine ih.free fun t ht => ?_
        by_cases et : r.txn = t
        · subst et; exact hnone ht
        · rw [← es]; exact hf t ((ho t et).2 ht)
def P3.cells9 (p : P3) : C9 := ⟨p.p0.c0, p.p0.c1, p.p0.c2, p.p1.c0, p.p1.c1, p.p1.c2, p.p2.c0, p.p2.c1, p.p2.c2⟩
theorem cells9_at (h : List R) {p c : Int} (hp : 0 ≤ p ∧ p ≤ 2) (hc : 0 ≤ c ∧ c ≤ 2) : (pagesOf h).cells9.at p c = cellOf h p c := by
  have h1 : p = 0 ∨ p = 1 ∨ p = 2 := by omega
  have h2 : c = 0 ∨ c = 1 ∨ c = 2 := by omega
  rcases h1 with rfl | rfl | rfl <;> rcases h2 with rfl | rfl | rfl <;> rfl
theorem stt_out {h : List R} (hr : Right h) {t : Int} (ht : ¬ (1 ≤ t ∧ t ≤ 9)) : stt h t = 0 := by
  have : lastN h t = 0 := by
    induction h with
    | nil => rfl
    | cons r h ih =>
      obtain ⟨h1, h2, _⟩ := hr.parts
      have hb := rec_bounds h2
      have : r.txn ≠ t := fun e => by omega
      simp only [lastN, this, if_false]
      exact ih h1
  simp [stt, this]
/-- If no Txn hangs, the pages are what must be. -/
theorem model_true {h : List R} (hr : Right h) (hn : ∀ t, 1 ≤ t ∧ t ≤ 9 → ¬ hangs h t) : (pagesOf h).cells9 = cellsH h := by
  refine C9.ext_at fun p c hp hc => ?_
  rw [cells9_at h hp hc]
  refine (cur_all hr hp hc).free fun t ht => ?_
  by_cases h9 : 1 ≤ t ∧ t ≤ 9
  · exact absurd ht (hn t h9)
  · have := stt_out hr h9
    rcases ht with ht | ht <;> omega
end Go.Proofs.Ytmfjhacgpopijaa
end
section
set_option maxRecDepth 100000
set_option linter.unusedVariables false
set_option linter.unusedSimpArgs false
set_option linter.unusedSectionVars false
set_option maxHeartbeats 4000000
namespace Go.Proofs.Ytmfjhacgpopijaa
open Go.RowKit Go.Joins
def someL : List R := [wrR 1 0 0 0 0 5, wrR 2 0 1 1 0 6, wrR 1 1 0 1 0 7, cmR 2 2, enR 2 4, bkR 1 3 0 1 7 0 1, bkR 1 6 0 0 5 0 0, enR 1 7, wrR 3 0 0 0 0 8]
def someG : List R := [wrR 1 0 0 0 0 5, wrR 2 0 1 1 0 6, wrR 1 1 0 1 0 7, cmR 2 2, enR 2 4, bkR 1 3 0 1 7 0 1, bkR 1 6 0 0 5 0 0, enR 1 7, wrR 3 0 0 0 5 8]
def someN : List R := [wrR 1 0 0 0 0 5, wrR 2 0 1 1 0 6, wrR 1 1 0 1 0 7, cmR 2 2, enR 2 4, bkR 1 3 0 1 7 0 0, bkR 1 6 0 0 5 0 0, enR 1 7, wrR 3 0 0 0 0 8]
def someA : List R := [wrR 1 0 0 0 0 5, wrR 2 0 1 1 0 6, wrR 2 2 0 0 5 6]
def zeros : Nat → List Value
  | 0 => []
  | k + 1 => .int .i64 0 :: zeros k
def long : List R := List.replicate 61 R.zero
theorem ms_26_61 (w : World) : (Instr.makeSlice 26 (.int .i64 61) (.int .i64 61)).run Try.prog w = .ok (.slice (some ⟨w.heap.size, 0, none⟩) 61 61) (w.alloc (.cells (flat long).toArray 48)) := by kernel_rfl

theorem w_some (w : World) : Calls Try.prog 27 [].toArray w fun e w' => ∃ g : Nat, e = .returned (.slice (some ⟨g, 0, none⟩) 9 9) ∧ Below w.heap.size w w' ∧ w.heap.size ≤ g ∧ w'.heap[g]? = some (.cells (flat someL).toArray 48) := by
 refine enter Try.func27 rfl Try.ntmps27 rfl SF.top trivial ?_
 refine sR ?_
 refine pA rfl rfl ?_
 refine nN ?_
 refine sR ?_
 refine WL.eff (E.call Try.call33 rfl (fun _ w s => w_wr _ _ _ _ _ _ w) rfl) rfl (fun _ => ?_)
 refine WL.eff (E.call Try.call33 rfl (fun _ w s => w_wr _ _ _ _ _ _ w) rfl) rfl (fun _ => ?_)
 refine WL.eff (E.call Try.call33 rfl (fun _ w s => w_wr _ _ _ _ _ _ w) rfl) rfl (fun _ => ?_)
 refine WL.eff (E.call Try.call34 rfl (fun _ w s => w_cm _ _ w) rfl) rfl (fun _ => ?_)
 refine WL.eff (E.call Try.call35 rfl (fun _ w s => w_en _ _ w) rfl) rfl (fun _ => ?_)
 refine WL.eff (E.call Try.call36 rfl (fun _ w s => w_bk _ _ _ _ _ _ _ w) rfl) rfl (fun _ => ?_)
 refine WL.eff (E.call Try.call36 rfl (fun _ w s => w_bk _ _ _ _ _ _ _ w) rfl) rfl (fun _ => ?_)
 refine WL.eff (E.call Try.call35 rfl (fun _ w s => w_en _ _ w) rfl) rfl (fun _ => ?_)
 refine WL.eff (E.call Try.call33 rfl (fun _ w s => w_wr _ _ _ _ _ _ w) rfl) rfl (fun _ => ?_)
 refine WL.eff (E.buildSlice (bs_26_9 _ _ _ _ _ _ _ _ _ _ _ _ _ _ _ _ _ _ _ _ _ _ _ _ _ _ _ _ _ _ _ _ _ _ _ _ _ _ _ _ _ _ _ _ _ _ _ _ _ _ _ _ _ _ _ _ _ _ _ _ _ _ _ _ _ _ _ _ _ _ _ _) rfl rfl) rfl (fun b1 => ?_)
 refine pA rfl rfl ?_
 refine nN ?_
 refine WC.ret ?_
 refine dn1 Try.results27 rfl (fun a w s => ?_)
 · exact ⟨b1, rfl, s.low, (s.hp.blk _ (List.Mem.head _)).2, (s.hp.blk _ (List.Mem.head _)).1⟩

theorem some_own {u w : World} (hu : u.heap.size ≤ w.heap.size) {f : FuncId} (h : Calls Try.prog f [].toArray w fun e w' => ∃ g : Nat, e = .returned (.slice (some ⟨g, 0, none⟩) 9 9) ∧ Below w.heap.size w w' ∧ w.heap.size ≤ g ∧ w'.heap[g]? = some (.cells (flat someL).toArray 48)) :
    Calls Try.prog f [].toArray w fun e w' => ∃ g : Nat, e = .returned (.slice (some ⟨g, 0, none⟩) 9 9) ∧ Below w.heap.size w w' ∧ (SF.own u.heap.size 48 8 (.slice (some ⟨g, 0, none⟩) 2 9) 2 (flat (someL.take 2))).p w' ∧ ∀ b, (SF.own u.heap.size 48 8 (.slice (some ⟨g, 0, none⟩) 2 9) 2 (flat (someL.take 2))).fp w' b → w.heap.size ≤ b :=
  h.mono fun e w' ⟨g, he, hb, hg, hc⟩ => ⟨g, he, hb, ⟨rfl, .inr ⟨g, 9, (flat someL).toArray, rfl, by omega, hc, by decide, by decide, by decide, by rfl⟩⟩, fun b hb2 => by
    have : g = b := Option.some.inj hb2
    omega⟩
end Go.Proofs.Ytmfjhacgpopijaa
end
section
set_option maxRecDepth 100000
set_option linter.unusedVariables false
set_option linter.unusedSimpArgs false
set_option linter.unusedSectionVars false
set_option maxHeartbeats 4000000
namespace Go.Proofs.Ytmfjhacgpopijaa
open Go.RowKit Go.Joins
theorem flat_take : ∀ (l : List R) (j : Nat), (flat l).take (j * 8) = flat (l.take j)
  | [], j => by simp [flat]
  | r :: l, 0 => by simp [flat]
  | r :: l, j + 1 => by
    have ih := flat_take l j
    have e : flat (r :: l) = r.cl ++ flat l := by simp [flat]
    have e2 : flat ((r :: l).take (j + 1)) = r.cl ++ flat (l.take j) := by simp [flat]
    rw [e, e2, List.take_append, ← ih]
    have : r.cl.length = 8 := rfl
    rw [this, List.take_of_length_le (by rw [this]; omega)]
    congr 2
    omega
theorem own_cut_le (base : Nat) (A : Option Addr) (c : Nat) (S : List R) : (SF.own base 48 8 (.slice A S.length c) S.length (flat S.reverse)).le (SF.own base 48 8 (.slice A S.tail.length c) S.tail.length (flat S.tail.reverse)) := fun w h => by
  have h1 := own_cut (show w.ownsRow base 48 8 (.slice A S.length c) S.length (flat S.reverse) from h) (j := S.length - 1) (by omega)
  have e : S.tail.length = S.length - 1 := List.length_tail
  have e2 : flat S.tail.reverse = (flat S.reverse).take ((S.length - 1) * 8) := by
    rw [flat_take]
    congr 1
    cases S with
    | nil => rfl
    | cons a S => simp
  refine ⟨?_, fun b hb => own_blk2 (A := A) hb⟩
  show w.ownsRow base 48 8 (.slice A S.tail.length c) S.tail.length (flat S.tail.reverse)
  rw [e, e2]
  exact h1
theorem sta_len : ∀ (h : List R) (t : Int), (sta h t).length ≤ h.length
  | [], _ => by simp [sta]
  | r :: h, t => by
    have ih := sta_len h t
    unfold sta
    split
    · split
      · simp; omega
      · split
        · simp; omega
        · simp; omega
    · simp; omega

theorem own_RLr {w : World} {base c : Nat} {A : Option Addr} {S : List R} (h : w.ownsRow base 48 8 (.slice A S.length c) S.length (flat S.reverse)) : RL w A (gOf A) 0 S.reverse := by
  have e : S.length = S.reverse.length := List.length_reverse.symm
  rw [e] at h
  exact own_RL h
theorem p3_at (p : P3) (i c : Int) (hi : 0 ≤ i ∧ i ≤ 2) (hc : 0 ≤ c ∧ c ≤ 2) : nth p.cl (0 + i.toNat * 4 + 0 + c.toNat * 1) = some (.int .i64 ((p.get i).cellAt c)) := by
  have h1 : i = 0 ∨ i = 1 ∨ i = 2 := by omega
  have h2 : c = 0 ∨ c = 1 ∨ c = 2 := by omega
  rcases h1 with rfl | rfl | rfl <;> rcases h2 with rfl | rfl | rfl <;> rfl
end Go.Proofs.Ytmfjhacgpopijaa
end
section
set_option linter.unusedVariables false
set_option linter.unusedSimpArgs false
set_option linter.unusedSectionVars false
set_option maxRecDepth 100000
namespace Go.Proofs.Ytmfjhacgpopijaa
open Go.RowKit Go.Joins
def ints (l : List Int) : List Value := l.map fun (n : Int) => Value.int .i64 n
/-- The slice at A, whose cells lie in block b, reads as the numbers l. -/
structure IL (w : World) (A : Option Addr) (b : Nat) (l : List Int) : Prop where
  at_ : l ≠ [] → A = some ⟨b, 0, none⟩ ∧ b < w.heap.size
  cell : ∀ i x, l[i]? = some x → w.cell? ⟨b, i, none⟩ = some (.int .i64 x)
theorem IL.addr {w : World} {A : Option Addr} {b : Nat} {l : List Int} (h : IL w A b l) {i : Nat} {x : Int} (hi : l[i]? = some x) : A = some ⟨b, 0, none⟩ := (h.at_ (ne_of_get hi)).1
theorem IL.below {w w' : World} {A : Option Addr} {b : Nat} {l : List Int} (h : IL w A b l) (hb : Below w.heap.size w w') : IL w' A b l :=
  ⟨fun hn => ⟨(h.at_ hn).1, Nat.lt_of_lt_of_le (h.at_ hn).2 hb.size⟩, fun i x hi => (hb.cell (p := ⟨b, i, none⟩) (h.at_ (ne_of_get hi)).2).trans (h.cell i x hi)⟩
theorem IL.take {w : World} {A : Option Addr} {b : Nat} {l : List Int} (h : IL w A b l) (k : Nat) : IL w A b (l.take k) :=
  ⟨fun hn => h.at_ (fun e => hn (by simp [e])), fun i r hi => h.cell i r (by
    rw [List.getElem?_take] at hi
    split at hi
    · exact hi
    · cases hi)⟩
theorem ints_get {l : List Int} {i : Nat} {x : Int} (h : l[i]? = some x) : (ints l)[i]? = some (.int .i64 x) := by simp [ints, h]
theorem own_IL {w : World} {base c n : Nat} {A : Option Addr} {l : List Int} (hn : n = l.length) (h : w.ownsRow base 3 1 (.slice A n c) n (ints l)) : IL w A (gOf A) l := by
  subst hn
  refine ⟨fun hn => ?_, fun i x hi => ?_⟩
  · have hl : 0 < l.length := List.length_pos_iff.2 hn
    rcases h.2 with ⟨hv, hk⟩ | ⟨g, cap, cur, hv, h1, h2, _⟩
    · omega
    · injection hv with e1 e2 e3
      subst e1
      exact ⟨rfl, blk_lt h2⟩
  · obtain ⟨g, rfl, hc⟩ := own_cell h (ints_get hi)
    exact hc
theorem IL.ofH [Inhabited DSx] {E : Env} {n : Nat} {H : Hp} {F : SF} {w0 w : World} {a : Act} {g : Nat} {cs : List Value} (l : List Int) {T : TypeId} (s : St E n H F w0 a w) (hm : (g, cs, T) ∈ H) (hc : ints l = cs) : IL w (some ⟨g, 0, none⟩) g l := by
  subst hc
  exact ⟨fun _ => ⟨rfl, s.hp.lt hm⟩, fun i x hi => by
    rw [s.hp.cell hm]
    exact ints_get hi⟩
/-- The place of x, from k on. -/
def posI (x : Int) : Nat → List Int → Int
  | _, [] => -1
  | k, y :: l => if x = y then k else posI x (k + 1) l
theorem posI_in (x : Int) : ∀ (l : List Int) (k : Nat), decide (0 ≤ posI x k l) = l.contains x
  | [], _ => rfl
  | y :: l, k => by
    have ih := posI_in x l (k + 1)
    unfold posI
    by_cases h : x = y
    · subst h; simp
    · rw [if_neg h, ih]; simp [h]
/-! ### Who has won -/
def winsL (l : List R) : List Int := (winsH l.reverse).reverse
def winsOf (l : List R) : List Int := if logErr l = 0 then winsL l else []
def cellsOf (l : List R) : C9 := if logErr l = 0 then cellsH l.reverse else C9.zero
theorem wins_take {l : List R} {k : Nat} {r : R} (h : l[k]? = some r) : winsL (l.take (k + 1)) = winsL (l.take k) ++ (if r.kind = 2 then [r.txn] else []) := by
  unfold winsL
  rw [takeS h, winsH]
  split <;> simp
theorem wins_len : ∀ (h : List R), (winsH h).length ≤ h.length
  | [] => Nat.le_refl _
  | r :: h => by
    have ih := wins_len h
    unfold winsH
    split <;> simp <;> omega
theorem winsL_len (l : List R) : (winsL l).length ≤ l.length := by
  have := wins_len l.reverse
  unfold winsL
  simpa using this
theorem winsL_has (l : List R) (t : Int) : (winsL l).contains t = won l.reverse t := by
  rw [← wins_mem]
  unfold winsL
  simp
theorem cells_take {l : List R} {k : Nat} {r : R} (f : Int → Bool) (h : l[k]? = some r) : cellsW f (l.take (k + 1)).reverse = if r.kind = 1 ∧ f r.txn = true then (cellsW f (l.take k).reverse).set r.page r.cell r.new else cellsW f (l.take k).reverse := by
  rw [takeS h, cellsW]
def C9.cl (c : C9) : List Value := [.int .i64 c.a0, .int .i64 c.a1, .int .i64 c.a2, .int .i64 c.b0, .int .i64 c.b1, .int .i64 c.b2, .int .i64 c.c0, .int .i64 c.c1, .int .i64 c.c2]
theorem put_nine (x : C9) (p c v : Int) (hp : 0 ≤ p ∧ p ≤ 2) (hc : 0 ≤ c ∧ c ≤ 2) : put x.cl (0 + p.toNat * 3 + c.toNat * 1) [.int .i64 v] = (x.set p c v).cl := by
  have h1 : p = 0 ∨ p = 1 ∨ p = 2 := by omega
  have h2 : c = 0 ∨ c = 1 ∨ c = 2 := by omega
  rcases h1 with rfl | rfl | rfl <;> rcases h2 with rfl | rfl | rfl <;> rfl
theorem nine_len (x : C9) : x.cl.length = 9 := rfl
theorem dec_eqL {l : List R} {k : Nat} {r : R} (h : l[k]? = some r) : (k : Int) < (l.length : Int) := get_ltI h
end Go.Proofs.Ytmfjhacgpopijaa
end
section
set_option maxRecDepth 100000
set_option linter.unusedVariables false
set_option linter.unusedSimpArgs false
set_option linter.unusedSectionVars false
set_option maxHeartbeats 4000000
namespace Go.Proofs.Ytmfjhacgpopijaa
open Go.RowKit Go.Joins
theorem take_eqS {α : Type} {xs ys : List α} {k : Nat} {x y : α} (h : xs.take k = ys.take k) (hx : xs[k]? = some x) (hy : ys[k]? = some y) (e : x = y) : xs.take (k + 1) = ys.take (k + 1) := by
  obtain ⟨h1, e1⟩ := List.getElem?_eq_some_iff.1 hx
  obtain ⟨h2, e2⟩ := List.getElem?_eq_some_iff.1 hy
  rw [List.take_succ_eq_append_getElem h1, List.take_succ_eq_append_getElem h2, h, e1, e2, e]
theorem ne_get {α : Type} {xs ys : List α} {k : Nat} {x y : α} (hx : xs[k]? = some x) (hy : ys[k]? = some y) (e : x ≠ y) : xs ≠ ys := by
  rintro rfl
  rw [hx] at hy
  exact e (Option.some.inj hy)

theorem cw0 (l : List R) (f : Int → Bool) : (if logErr l = 0 then cellsW f (l.take 0).reverse else C9.zero) = C9.zero := by split <;> rfl

end Go.Proofs.Ytmfjhacgpopijaa
end
section
set_option linter.unusedVariables false
set_option linter.unusedSimpArgs false
set_option linter.unusedSectionVars false
namespace Go.Proofs.Ytmfjhacgpopijaa
structure Wd where
  disk : P3
  log : List R
  safe : Int
  deriving DecidableEq
def Wd.zero : Wd := ⟨P3.zero, [], 0⟩
def Wd.h (x : Wd) : List R := x.log.reverse
def diskOk (x : Wd) (p : Int) : Bool := wi (x.disk.get p).last 0 x.safe && decide ((pagesOf (x.log.take (x.disk.get p).last.toNat).reverse).get p = x.disk.get p)
/-- The error of a world. -/
def worldErr (x : Wd) : Int := if logErr x.log = 0 then (if wi x.safe 0 x.log.length then (if diskOk x 0 && (diskOk x 1 && diskOk x 2) then 0 else 1) else 3) else logErr x.log
def nowOf (x : Wd) : P3 × Int := if worldErr x = 0 then (pagesOf x.h, 0) else (P3.zero, worldErr x)
def Wd.more (x : Wd) (r : R) : Wd := { x with log := x.log ++ [r] }
def writeTo (x : Wd) (t p c v : Int) : Wd × Int :=
  if worldErr x = 0 then
    if wi t 1 9 && (wi p 0 2 && (wi c 0 2 && wi v 0 99)) then
      if 1 < stt x.h t then (Wd.zero, 6)
      else if taken x.h t p c then (Wd.zero, 5)
      else if x.log.length = 60 then (Wd.zero, 2)
      else (x.more (wrR t (lastN x.h t) p c (cellOf x.h p c) v), 0)
    else (Wd.zero, 3)
  else (Wd.zero, worldErr x)
def commitOf (x : Wd) (t : Int) : Wd × Int :=
  if worldErr x = 0 then
    if wi t 1 9 then
      if stt x.h t = 0 then (Wd.zero, 7)
      else if 1 < stt x.h t then (Wd.zero, 6)
      else if 58 < x.log.length then (Wd.zero, 2)
      else (⟨x.disk, x.log ++ [cmR t (lastN x.h t), enR t ((x.log.length : Int) + 1)], (x.log.length : Int) + 1⟩, 0)
    else (Wd.zero, 3)
  else (Wd.zero, worldErr x)
def rollOf (l : List R) (t : Int) : R × Int :=
  if logErr l = 0 then
    if wi t 1 9 then
      if stt l.reverse t = 0 then (R.zero, 7)
      else if stt l.reverse t = 2 ∨ stt l.reverse t = 4 then (R.zero, 6)
      else (undoB l.reverse t, 0)
    else (R.zero, 3)
  else (R.zero, logErr l)
/-- Taken back till it is over; none: there is no room. -/
def abortH : Nat → List R → Int → Option (List R)
  | 0, _, _ => none
  | f + 1, h, t => if stt h t = 4 then some h else abortH f (undoB h t :: h) t
def abortOf (x : Wd) (t : Int) : Wd × Int :=
  if worldErr x = 0 then
    if (rollOf x.log t).2 = 0 then
      match abortH (61 - x.log.length) x.h t with
      | none => (Wd.zero, 2)
      | some h => ({ x with log := h.reverse }, 0)
    else (Wd.zero, (rollOf x.log t).2)
  else (Wd.zero, worldErr x)
def syncOf (x : Wd) (n : Int) : Wd × Int :=
  if worldErr x = 0 then
    if wi n 0 x.log.length then ({ x with safe := max x.safe n }, 0) else (Wd.zero, 3)
  else (Wd.zero, worldErr x)
/-- A page is laid, and what of the log it asks for. -/
def Wd.lay (x : Wd) (p : Int) : Wd := { x with disk := x.disk.set p ((pagesOf x.h).get p), safe := max x.safe ((pagesOf x.h).get p).last }
def flushOf (x : Wd) (p : Int) : Wd × Int :=
  if worldErr x = 0 then
    if wi p 0 2 then (x.lay p, 0) else (Wd.zero, 3)
  else (Wd.zero, worldErr x)
def Wd.cut (x : Wd) : Wd := { x with log := x.log.take x.safe.toNat }
def crashOf (x : Wd) : Wd × Int := if worldErr x = 0 then (x.cut, 0) else (Wd.zero, worldErr x)
def nine : List Int := [1, 2, 3, 4, 5, 6, 7, 8, 9]
def losersH (h : List R) : List Int := nine.filter fun t => stt h t == 1 || stt h t == 3
/-- What the disk lacks is done again. -/
def redoH (q : P3) : List R → P3 × Nat
  | [] => (q, 0)
  | r :: h => if r.turns = true ∧ ((redoH q h).1.get r.page).last < h.length + 1 then ((redoH q h).1.set r.page (((redoH q h).1.get r.page).put r.cell r.new (h.length + 1)), (redoH q h).2 + 1) else redoH q h
def redoOf (x : Wd) : P3 × Int × Int :=
  if worldErr x = 0 then
    if x.safe = x.log.length then ((redoH x.disk x.h).1, (redoH x.disk x.h).2, 0) else (P3.zero, 0, 1)
  else (P3.zero, 0, worldErr x)
def bestGo (h : List R) : List Int → Int → Int
  | [], b => b
  | t :: l, b => bestGo h l (if (stt h t = 1 ∨ stt h t = 3) ∧ (b = 0 ∨ lastN h b < lastN h t) then t else b)
def bestH (h : List R) : Int := bestGo h nine 0
/-- The record that mending puts next. -/
def nextH (h : List R) : Option R :=
  match nine.find? (fun t => stt h t == 2) with
  | some t => some (enR t (lastN h t))
  | none => if bestH h = 0 then none else some (undoB h (bestH h))
def mendGo : Nat → Int → Nat → List R → Option (List R × Nat)
  | 0, _, _, _ => none
  | f + 1, s, n, h => if (n : Int) = s then some (h, n) else match nextH h with
    | none => some (h, n)
    | some r => mendGo f s (n + 1) (r :: h)
def layIf (b : Bool) (q : P3) (d : P3) (p : Int) : P3 := if b then d.set p (q.get p) else d
def mendOf (x : Wd) (steps : Int) (a b c : Bool) : Wd × Int × Int :=
  if worldErr x = 0 then
    match mendGo (61 - x.cut.log.length) steps 0 x.cut.h with
    | none => (Wd.zero, 0, 2)
    | some (h, n) => (⟨layIf c (pagesOf h) (layIf b (pagesOf h) (layIf a (pagesOf h) x.disk 0) 1) 2, h.reverse, h.length⟩, n, 0)
  else (Wd.zero, 0, worldErr x)
def halfOf (x : Wd) (steps : Int) (l : List Bool) : Wd × Int :=
  if worldErr x = 0 then
    if steps < 0 then (Wd.zero, 3)
    else match l with
      | [a, b, c] => ((mendOf x steps a b c).1, (mendOf x steps a b c).2.2)
      | _ => (Wd.zero, 1)
  else (Wd.zero, worldErr x)
structure Ac where
  kind : Int
  txn : Int
  page : Int
  cell : Int
  val : Int
  deriving DecidableEq
def doOf (x : Wd) (a : Ac) : Wd × Int :=
  if a.kind = 1 then writeTo x a.txn a.page a.cell a.val
  else if a.kind = 2 then commitOf x a.txn
  else if a.kind = 3 then abortOf x a.txn
  else if a.kind = 4 then syncOf x a.val
  else if a.kind = 5 then flushOf x a.page
  else if a.kind = 6 then ((mendOf x (-1) true true true).1, (mendOf x (-1) true true true).2.2)
  else (Wd.zero, 4)
def doneGo : List Ac → Wd → Nat → Wd × Nat
  | [], w, n => (w, n)
  | a :: l, w, n => if (doOf w a).2 = 0 then doneGo l (doOf w a).1 (n + 1) else doneGo l w n
def doneOf (l : List Ac) : Wd × Int × Int := if l.length ≤ 60 then ((doneGo l Wd.zero 0).1, (doneGo l Wd.zero 0).2, 0) else (Wd.zero, 0, 2)
/-! ### Right worlds -/
theorem world_right {x : Wd} (h : worldErr x = 0) : logErr x.log = 0 ∧ x.log.length ≤ 60 ∧ Right x.h ∧ (0 ≤ x.safe ∧ x.safe ≤ x.log.length) ∧ diskOk x 0 = true ∧ diskOk x 1 = true ∧ diskOk x 2 = true := by
  unfold worldErr at h
  split at h
  rotate_left
  · omega
  rename_i h0
  split at h
  rotate_left
  · omega
  rename_i h1
  split at h
  rotate_left
  · omega
  rename_i h2
  simp only [Bool.and_eq_true] at h2
  obtain ⟨a, b⟩ := log_right h0
  exact ⟨h0, a, b, wi_iff.1 h1, h2.1, h2.2.1, h2.2.2⟩
theorem world_mk {x : Wd} (h0 : logErr x.log = 0) (h1 : 0 ≤ x.safe ∧ x.safe ≤ x.log.length) (h2 : ∀ p, 0 ≤ p ∧ p ≤ 2 → diskOk x p = true) : worldErr x = 0 := by
  unfold worldErr
  rw [if_pos h0, if_pos (wi_iff.2 h1), h2 0 (by omega), h2 1 (by omega), h2 2 (by omega)]
  rfl
theorem disk_ok {x : Wd} (h : worldErr x = 0) {p : Int} (hp : 0 ≤ p ∧ p ≤ 2) : diskOk x p = true := by
  obtain ⟨_, _, _, _, a, b, c⟩ := world_right h
  have h1 : p = 0 ∨ p = 1 ∨ p = 2 := by omega
  rcases h1 with rfl | rfl | rfl <;> assumption
theorem diskOk_iff {x : Wd} {p : Int} : diskOk x p = true ↔ (0 ≤ (x.disk.get p).last ∧ (x.disk.get p).last ≤ x.safe) ∧ (pagesOf (x.log.take (x.disk.get p).last.toNat).reverse).get p = x.disk.get p := by
  unfold diskOk
  rw [Bool.and_eq_true, wi_iff, decide_eq_true_eq]
theorem h_more (x : Wd) (r : R) : (x.more r).h = r :: x.h := by simp [Wd.more, Wd.h]
theorem right_log {h : List R} (hr : Right h) (hl : h.length ≤ 60) : logErr h.reverse = 0 := by
  unfold logErr
  rw [if_pos (by simpa using hl), List.reverse_reverse]
  exact hr
/-- What is put behind leaves what lies on the disk right. -/
theorem world_app {x : Wd} (hw : worldErr x = 0) {g : List R} (hr : Right (g ++ x.h)) (hl : (g ++ x.h).length ≤ 60) {s : Int} (hs : x.safe ≤ s ∧ s ≤ ((g ++ x.h).length : Int)) : worldErr ⟨x.disk, (g ++ x.h).reverse, s⟩ = 0 := by
  obtain ⟨h0, h1, h2, h3, _⟩ := world_right hw
  refine world_mk (right_log hr hl) (by simp at hs ⊢; omega) fun p hp => ?_
  obtain ⟨d1, d2⟩ := diskOk_iff.1 (disk_ok hw hp)
  refine diskOk_iff.2 ⟨by dsimp only; omega, ?_⟩
  dsimp only
  rw [List.reverse_append]
  unfold Wd.h
  rw [List.reverse_reverse, List.take_append_of_le_length (by omega)]
  exact d2
theorem world_more {x : Wd} (hw : worldErr x = 0) {r : R} (hr : Right (r :: x.h)) (hl : x.log.length < 60) : worldErr (x.more r) = 0 := by
  obtain ⟨h0, h1, h2, h3, _⟩ := world_right hw
  have := world_app hw (g := [r]) hr (by simp [Wd.h]; omega) (s := x.safe) (by simp [Wd.h]; omega)
  have e : ([r] ++ x.h).reverse = x.log ++ [r] := by simp [Wd.h]
  rw [e] at this
  exact this
/-! ### Records that may be put -/
theorem cell_bnd {h : List R} (hr : Right h) {p c : Int} (hp : 0 ≤ p ∧ p ≤ 2) (hc : 0 ≤ c ∧ c ≤ 2) : 0 ≤ cellOf h p c ∧ cellOf h p c ≤ 99 := by
  have h1 := P3.ok_get hr.pok p
  unfold Pg.ok cellsB at h1
  simp only [Bool.and_eq_true, wi_iff] at h1
  unfold cellOf Pg.cellAt
  split
  · omega
  · split <;> omega
theorem page_last {h : List R} (hr : Right h) : ∀ p, 0 ≤ ((pagesOf h).get p).last ∧ ((pagesOf h).get p).last ≤ h.length := by
  induction h with
  | nil =>
    intro p
    unfold pagesOf P3.get P3.zero Pg.zero
    repeat' split
    all_goals simp
  | cons r h ih =>
    intro p
    obtain ⟨h1, h2, _⟩ := hr.parts
    have ih := ih h1
    simp only [pagesOf]
    cases ht : r.turns
    · simp only [Bool.false_eq_true, if_false, List.length_cons]
      have := ih p
      omega
    · simp only [if_true, List.length_cons]
      have key : ∀ x : Pg, (x.put r.cell r.new (h.length + 1)).last = h.length + 1 := fun x => by
        unfold Pg.put
        repeat' split
        all_goals rfl
      have k2 : ∀ (P : P3) (x : Pg) (i j : Int), (P.set i x).get j = x ∨ (P.set i x).get j = P.get j := fun P x i j => by
        unfold P3.set P3.get
        repeat' split
        all_goals simp_all
      rcases k2 (pagesOf h) (((pagesOf h).get r.page).put r.cell r.new (h.length + 1)) r.page p with e | e
      · rw [e, key]; omega
      · rw [e]; have := ih p; omega
theorem right_write {h : List R} (hr : Right h) (hl : h.length < 60) {t p c v : Int} (ht : 1 ≤ t ∧ t ≤ 9) (hp : 0 ≤ p ∧ p ≤ 2) (hc : 0 ≤ c ∧ c ≤ 2) (hv : 0 ≤ v ∧ v ≤ 99) (hs : stt h t ≤ 1) (hf : taken h t p c = false) :
    Right (wrR t (lastN h t) p c (cellOf h p c) v :: h) := by
  have h1 := last_len h t
  have h2 := cell_bnd hr hp hc
  refine Right.mk hr ?_ ?_
  · unfold recErr wrR R.turns R.inner
    simp [wi]
    omega
  · unfold follows wrR
    simp [hf]
    have e : cellOf h p c = ((pagesOf h).get p).cellAt c := rfl
    rw [e]
    simp
    omega
theorem right_commit {h : List R} (hr : Right h) (hl : h.length < 60) {t : Int} (ht : 1 ≤ t ∧ t ≤ 9) (hs : stt h t ≤ 1) : Right (cmR t (lastN h t) :: h) := by
  have h1 := last_len h t
  refine Right.mk hr ?_ ?_
  · unfold recErr cmR R.turns R.bare
    simp [wi]
    omega
  · unfold follows cmR
    simp
    omega
theorem right_end {h : List R} (hr : Right h) (hl : h.length < 60) {t : Int} (ht : 1 ≤ t ∧ t ≤ 9) (hs : stt h t = 2 ∨ (stt h t = 3 ∧ ups h t = [])) : Right (enR t (lastN h t) :: h) := by
  have h1 := last_len h t
  refine Right.mk hr ?_ ?_
  · unfold recErr enR R.turns R.bare
    simp [wi]
    omega
  · unfold follows enR
    rcases hs with hs | ⟨hs, hu⟩
    · simp [hs]
    · simp [hs, hu]
theorem up_one : ∀ {h : List R} {t : Int}, stB h t = 1 → ∃ n us, upB h t = n :: us
  | [], _, h => by simp [stB] at h
  | r :: h, t, hs => by
    unfold stB at hs
    unfold upB
    split at hs
    · rename_i ht
      rw [if_pos ht, if_pos hs]
      exact ⟨_, _, rfl⟩
    · rename_i ht
      rw [if_neg ht]
      exact up_one hs
theorem mem_rec : ∀ {h : List R}, Right h → ∀ {x : R}, x ∈ h → ∃ n : Nat, n ≤ h.length ∧ recErr n x = 0
  | [], _, x, hx => by cases hx
  | r :: h, hr, x, hx => by
    obtain ⟨h1, h2, _⟩ := hr.parts
    rcases List.mem_cons.1 hx with rfl | hx
    · exact ⟨h.length + 1, Nat.le_refl _, h2⟩
    · obtain ⟨n, hn, he⟩ := mem_rec h1 hx
      exact ⟨n, by simp; omega, he⟩
theorem right_undo {h : List R} (hr : Right h) (hl : h.length < 60) {t : Int} (ht : 1 ≤ t ∧ t ≤ 9) (hs : stt h t = 1 ∨ stt h t = 3) : Right (undoB h t :: h) := by
  have h1 := last_len h t
  have e1 := hr.up t
  rw [if_neg (by omega)] at e1
  unfold undoB
  cases hu : upB h t with
  | nil =>
    have hs3 : stt h t = 3 := by
      rcases hs with hs | hs
      · exfalso
        obtain ⟨n, us, h2⟩ := up_one (h := h) (t := t) (by rw [hr.st]; omega)
        rw [hu] at h2; cases h2
      · exact hs
    exact right_end hr hl ht (.inr ⟨hs3, by rw [← e1, hu]⟩)
  | cons n us =>
    simp only
    rw [hu] at e1
    have hx : recAt h n ∈ sta h t := by rw [sta_ups hr, ← e1]; exact List.mem_cons_self
    obtain ⟨m1, m2, m3⟩ := sta_mem hx
    obtain ⟨k, hk, he⟩ := mem_rec hr m1
    have hb := rec_bounds he
    have hti := hb.2.2.2.2.2.2.2.2.1 (by simp [R.turns, m3])
    refine Right.mk hr ?_ ?_
    · unfold recErr backOf R.turns R.inner
      simp [wi]
      omega
    · unfold follows backOf
      rw [← e1]
      simp
      omega
theorem undo_txn (h : List R) (t : Int) : (undoB h t).txn = t ∧ ((undoB h t).kind = 3 ∨ (undoB h t).kind = 4) := by
  unfold undoB
  cases upB h t <;> simp [backOf]
/-- No record but a Back or an End comes while something is taken back. -/
theorem stt_undo {h : List R} {t : Int} (hr : Right (undoB h t :: h)) : stt (undoB h t :: h) t = 3 ∨ stt (undoB h t :: h) t = 4 := by
  have := stt_cons hr
  have h2 := undo_txn h t
  rw [h2.1] at this
  omega
end Go.Proofs.Ytmfjhacgpopijaa
end
section
namespace Go.Proofs.Ytmfjhacgpopijaa
open Go.ChangeShapes Go.WideShapes Go.ChangeAt Go.RowKit
theorem own : ownKnob Try.prog.godebug = none := by kernel_rfl
theorem trodAll_len {H : Type} {enc : TypeId × Value → H} {P : Program} {w : World} {base : Nat} {spare : Nat → Bool} {held : Bool} : ∀ (ts : List TypeId) (vs : List Value) (ds : List (DataW H)) (ps : List MemPlace),
    DataW.TrodAll enc P w base spare held ts vs ds ps → ds.length = ts.length
  | [], [], [], _, _ => rfl
  | _ :: ts, _ :: vs, _ :: ds, _, h => by
    obtain ⟨p, q, _, h2, _⟩ := h
    simp [trodAll_len ts vs ds q h2]
  | [], _ :: _, _, _, h => h.elim
  | [], [], _ :: _, _, h => h.elim
  | _ :: _, [], _, _, h => h.elim
  | _ :: _, _ :: _, [], _, h => h.elim
theorem trodAll_stays {H : Type} {enc : TypeId × Value → H} {P : Program} (hl : laidOutB P = true) {W W' : World} {sp : Nat → Bool} : ∀ (ts : List TypeId) (vs : List Value) (ds : List (DataW H)) (ps : List MemPlace),
    (ts.all fun t => P.readableRec t && decide (t < P.types.size)) = true → DataW.TrodAll enc P W 0 (fun _ => true) true ts vs ds ps →
    (∀ x ∈ ps, W.sameAt W' x) → (∀ x ∈ ps, sp x.block = true) → DataW.TrodAll enc P W' 0 sp true ts vs ds ps
  | [], [], [], _, _, h, _, _ => h
  | t :: ts, _ :: vs, _ :: ds, _, hr, h, hs, hp => by
    obtain ⟨p, q, h1, h2, rfl⟩ := h
    simp only [List.all_cons, Bool.and_eq_true, decide_eq_true_eq] at hr
    refine ⟨p, q, WideElems.Trod_stays hl hr.1.1 hr.1.2 h1 (fun x hx => hs x (List.mem_append_left _ hx)) (fun x hx => hp x (List.mem_append_left _ hx)), ?_, rfl⟩
    exact trodAll_stays hl ts vs ds q (by simpa using hr.2) h2 (fun x hx => hs x (List.mem_append_right _ hx)) (fun x hx => hp x (List.mem_append_right _ hx))
  | [], _ :: _, _, _, _, h, _, _ => h.elim
  | [], [], _ :: _, _, _, h, _, _ => h.elim
  | _ :: _, [], _, _, _, h, _, _ => h.elim
  | _ :: _, _ :: _, [], _, _, h, _, _ => h.elim
/-- What a law's statement asks of its call: what comes, and what is then there. -/
theorem law_post {H : Type} {enc : TypeId × Value → H} {P : Program} {f : Func} {s : ChangeSpec} {tb : TypeId} {W W' : World} {args : Array Value} {ds gs : List (DataW H)} {before : List MemPlace}
    (hl : laidOutB P = true) (htb : P.underlying tb = some .bool) (hv : s.vars = []) (hres : f.resultTypes = #[tb])
    (hfn : ∀ ds : List (DataW H), ds.length = f.params.toList.length → s.fn H ds = { results := [.lit (.bool true)], args := ds })
    (hread : (f.params.toList.all fun t => P.readableRec t && decide (t < P.types.size)) = true)
    (hW : DataW.Whole enc P f.params.toList s.vars false W args.toList ds gs before) (hb : Below W.heap.size W W') :
    s.post enc P f false true false false W args (.bool true) W' := by
  have hW' := hW
  have hlt : ∀ p ∈ before, p.block < W.heap.size := fun p hp => hW.lt p hp
  obtain ⟨p, q, hA, hV, rfl, hfz, hnd⟩ := hW
  rw [hv] at hV
  obtain ⟨rfl, rfl⟩ := trodVars_none hV
  have hf := hfn ds (trodAll_len _ _ _ _ hA)
  refine ⟨ds, [], p ++ [], [], p, [], hW', ?_, ?_, ?_, hb.frame _, fun h => by cases h⟩
  · rw [List.append_nil, hf, hres]
    exact trodAll_cons_mk (shut_bool htb true) trodAll_mk0
  · rw [List.append_nil, hf]
    exact trodAll_stays hl _ _ _ _ hread hA (fun x hx => hb.same (hlt x (by simpa using hx))) (fun x hx => by simpa using hlt x (by simpa using hx))
  · rw [List.append_nil, hf, hv]
    exact rfl
set_option maxRecDepth 100000 in
theorem lifted_of {k : FuncId} {fn : Func} {spec : ChangeSpec} (hk : Try.prog.funcs[k]? = some fn) (hni : Try.prog.inits.idxOf? k = none) (hv : spec.vars = []) (hres : fn.resultTypes = #[4])
    (hfn : ∀ (H : Type) (ds : List (DataW H)), ds.length = fn.params.toList.length → spec.fn H ds = { results := [.lit (.bool true)], args := ds })
    (hread : (fn.params.toList.all fun t => Try.prog.readableRec t && decide (t < Try.prog.types.size)) = true)
    (os : Os) (started : os.Started) (H : Type) (enc : TypeId × Value → H)
    (witness : ∃ (w : World) (tape : Tape) (i : Input), w.os = os ∧ (w.forCall tape i).Shaped Try.checked.prog ∧ i.vars = [] ∧ Input.okWide Try.checked.prog (w.forCall tape i) .any w.heap.size k i ∧
      spec.pre6 enc Try.checked.prog fn [] false (w.forCall tape i).memory i.args ∧ ({} : Assume).holds Try.checked.prog (lone (Frame.enter Try.checked.prog k i.args .normal) [] (w.forCall tape i)))
    (contract : ∀ (W : World) (base : Nat) (args : Array Value) (ds : List (DataW H)) (p : List MemPlace),
      (∀ (j : Nat) t v, fn.params[j]? = some t → args[j]? = some v → Value.okWide Try.prog W .any base t v) →
      DataW.TrodAll enc Try.prog W 0 (fun _ => true) true fn.params.toList args.toList ds p →
      Calls Try.prog k args W fun e W' => e = .returned (.bool true) ∧ Below W.heap.size W W') :
    ReturnsInHanded {} Try.checked os k .any (spec.pre6 enc Try.checked.prog fn [] false) (spec.post enc Try.checked.prog fn false true false false) := by
  refine returnsInHanded_of_change (C := Try.checked) own started hni hk witness ?_
  intro W base args ds gs before hval hW hcnd _
  obtain ⟨p, q, hA, hV, hpq, hfz, hnd⟩ := id hW
  refine (contract W base args ds p hval hA).mono fun e W' ⟨he, hb⟩ => ⟨.bool true, he, ?_⟩
  exact law_post ini.laidOut Try.underlying4 hv hres (hfn H) hread hW hb
end Go.Proofs.Ytmfjhacgpopijaa
end
section
namespace Go.Proofs.Ytmfjhacgpopijaa
open Go.ChangeShapes Go.WideShapes Go.ChangeAt Go.RowKit Go.Deep
section
variable {H : Type} {enc : TypeId × Value → H} {w : World} {base : Nat} {spare : Nat → Bool} {held : Bool}
theorem cells_pg : Try.prog.cellsOf 24 = 4 := by kernel_rfl
theorem trod_three {fuel : Nat} {a b c : Value} {x : DataW H × List MemPlace} (h : DataW.trod enc Try.prog w base spare held fuel 22 [a, b, c] = some x) :
    ∃ i j k : Int, a = .int .i64 i ∧ b = .int .i64 j ∧ c = .int .i64 k := by
  obtain ⟨xs, m, _, _, _, hl, hf⟩ := DataW.trod_array Try.underlying22 h
  have hc : Try.prog.cellsOf 3 = 1 := by kernel_rfl
  rw [hc] at hf
  have get : ∀ i (hi : i < 3), ∃ y, xs[i]? = some y := fun i hi => ⟨_, List.getElem?_eq_getElem (by omega)⟩
  obtain ⟨y0, e0⟩ := get 0 (by omega)
  obtain ⟨y1, e1⟩ := get 1 (by omega)
  obtain ⟨y2, e2⟩ := get 2 (by omega)
  obtain ⟨i, hi, _⟩ := DataW.trod_int Try.underlying3 ((hf 0 (by omega)).trans e0)
  obtain ⟨j, hj, _⟩ := DataW.trod_int Try.underlying3 ((hf 1 (by omega)).trans e1)
  obtain ⟨k, hk, _⟩ := DataW.trod_int Try.underlying3 ((hf 2 (by omega)).trans e2)
  simp at hi hj hk
  exact ⟨i, j, k, hi, hj, hk⟩
theorem trod_page {fuel : Nat} {a b c d : Value} {x : DataW H × List MemPlace} (h : DataW.trod enc Try.prog w base spare held fuel 24 [a, b, c, d] = some x) :
    ∃ p : Pg, a = .int .i64 p.c0 ∧ b = .int .i64 p.c1 ∧ c = .int .i64 p.c2 ∧ d = .int .i64 p.last := by
  obtain ⟨xs, m, _, _, _, hl, hf⟩ := DataW.trod_struct Try.underlying24 h
  have hc : Try.prog.cellsOf 3 = 1 := by kernel_rfl
  have hc3 : Try.prog.cellsOf 22 = 3 := by kernel_rfl
  simp at hl
  have get : ∀ i (hi : i < 2), ∃ y, xs[i]? = some y := fun i hi => ⟨_, List.getElem?_eq_getElem (by omega)⟩
  obtain ⟨y0, e0⟩ := get 0 (by omega)
  obtain ⟨y1, e1⟩ := get 1 (by omega)
  have h0 : DataW.trod enc Try.prog w base spare held m 22 (([a, b, c, d].drop 0).take (Try.prog.cellsOf 22)) = some y0 := (hf 0 _ rfl).trans e0
  have h1 : DataW.trod enc Try.prog w base spare held m 3 (([a, b, c, d].drop 3).take (Try.prog.cellsOf 3)) = some y1 := (hf 1 _ rfl).trans e1
  rw [hc3] at h0
  rw [hc] at h1
  obtain ⟨i, j, k, rfl, rfl, rfl⟩ := trod_three (a := a) (b := b) (c := c) h0
  obtain ⟨l, hl, _⟩ := DataW.trod_int Try.underlying3 h1
  simp at hl
  exact ⟨⟨i, j, k, l⟩, rfl, rfl, rfl, hl⟩
set_option maxRecDepth 100000 in
theorem open_page {r : Reach} {b0 : Nat} {v : Value} {d : DataW H} {p : List MemPlace} (hv : Value.okWide Try.prog w r b0 24 v) (h : DataW.Trod enc Try.prog w base spare held 24 v d p) : ∃ q : Pg, v = q.val := by
  obtain ⟨cs, rfl, hsz⟩ := okWide_struct Try.underlying24 hv
  rw [cells_pg] at hsz
  obtain ⟨l⟩ := cs
  match l, hsz with
  | [a, b, c, e], _ =>
    obtain ⟨fuel, hf⟩ := h
    obtain ⟨q, rfl, rfl, rfl, rfl⟩ := trod_page hf
    exact ⟨q, rfl⟩
end
end Go.Proofs.Ytmfjhacgpopijaa
end
section
namespace Go.Proofs.Ytmfjhacgpopijaa
open Go.ChangeShapes Go.WideShapes Go.ChangeAt Go.RowKit Go.Deep
section
variable {H : Type} {enc : TypeId × Value → H} {w : World} {base : Nat} {spare : Nat → Bool} {held : Bool}
theorem int_field {fuel : Nat} {l : List Value} {o : Nat} {y : DataW H × List MemPlace} (h : DataW.trod enc Try.prog w base spare held fuel 3 ((l.drop o).take (Try.prog.cellsOf 3)) = some y) : ∃ i : Int, l[o]? = some (.int .i64 i) := by
  have hc : Try.prog.cellsOf 3 = 1 := by kernel_rfl
  rw [hc] at h
  obtain ⟨i, hi, _⟩ := DataW.trod_int Try.underlying3 h
  refine ⟨i, ?_⟩
  cases hd : l.drop o with
  | nil => rw [hd] at hi; simp at hi
  | cons v r =>
    rw [hd] at hi
    simp at hi
    subst hi
    have : (l.drop o)[0]? = some (.int .i64 i) := by rw [hd]; rfl
    simpa using this
theorem trod_rec {fuel : Nat} {l : List Value} {x : DataW H × List MemPlace} (h : DataW.trod enc Try.prog w base spare held fuel 48 l = some x) : ∃ r : R, ∀ j, j < 8 → l[j]? = r.val.cells[j]? := by
  obtain ⟨xs, m, _, _, _, hl, hf⟩ := DataW.trod_struct Try.underlying48 h
  simp at hl
  have get : ∀ i (hi : i < 8), ∃ y, xs[i]? = some y := fun i hi => ⟨_, List.getElem?_eq_getElem (by omega)⟩
  obtain ⟨y0, e0⟩ := get 0 (by omega)
  obtain ⟨y1, e1⟩ := get 1 (by omega)
  obtain ⟨y2, e2⟩ := get 2 (by omega)
  obtain ⟨y3, e3⟩ := get 3 (by omega)
  obtain ⟨y4, e4⟩ := get 4 (by omega)
  obtain ⟨y5, e5⟩ := get 5 (by omega)
  obtain ⟨y6, e6⟩ := get 6 (by omega)
  obtain ⟨y7, e7⟩ := get 7 (by omega)
  obtain ⟨i0, h0⟩ := int_field ((hf 0 _ rfl).trans e0)
  obtain ⟨i1, h1⟩ := int_field ((hf 1 _ rfl).trans e1)
  obtain ⟨i2, h2⟩ := int_field ((hf 2 _ rfl).trans e2)
  obtain ⟨i3, h3⟩ := int_field ((hf 3 _ rfl).trans e3)
  obtain ⟨i4, h4⟩ := int_field ((hf 4 _ rfl).trans e4)
  obtain ⟨i5, h5⟩ := int_field ((hf 5 _ rfl).trans e5)
  obtain ⟨i6, h6⟩ := int_field ((hf 6 _ rfl).trans e6)
  obtain ⟨i7, h7⟩ := int_field ((hf 7 _ rfl).trans e7)
  refine ⟨⟨i0, i1, i2, i3, i4, i5, i6, i7⟩, fun j hj => ?_⟩
  have : j = 0 ∨ j = 1 ∨ j = 2 ∨ j = 3 ∨ j = 4 ∨ j = 5 ∨ j = 6 ∨ j = 7 := by omega
  rcases this with rfl | rfl | rfl | rfl | rfl | rfl | rfl | rfl <;> assumption
theorem cells_rec : Try.prog.cellsOf 48 = 8 := by kernel_rfl
set_option maxRecDepth 100000 in
theorem open_rec {r : Reach} {b0 : Nat} {v : Value} {d : DataW H} {p : List MemPlace} (hv : Value.okWide Try.prog w r b0 48 v) (h : DataW.Trod enc Try.prog w base spare held 48 v d p) : ∃ q : R, v = q.val := by
  obtain ⟨cs, rfl, hsz⟩ := okWide_struct Try.underlying48 hv
  rw [cells_rec] at hsz
  obtain ⟨fuel, hf⟩ := h
  obtain ⟨q, hq⟩ := trod_rec hf
  refine ⟨q, ?_⟩
  unfold R.val
  congr 1
  apply Array.ext_getElem?
  intro i
  rcases Nat.lt_or_ge i 8 with hi | hi
  · have := hq i hi
    simpa [Value.cells, R.val] using this
  · rw [Array.getElem?_eq_none (by omega), Array.getElem?_eq_none (by simpa using hi)]
end
end Go.Proofs.Ytmfjhacgpopijaa
end
section
set_option linter.unusedVariables false
set_option linter.unusedSimpArgs false
set_option linter.unusedSectionVars false
namespace Go.Proofs.Ytmfjhacgpopijaa
open Go.ChangeShapes Go.WideShapes Go.ChangeAt Go.RowKit Go.Deep
section
variable {H : Type} {enc : TypeId × Value → H} {w : World} {base : Nat} {spare : Nat → Bool} {held : Bool}
theorem cells_spot {w : World} {base : Nat} {a : Addr} {n : Nat} {cs : List Value} (h : w.cells? base a (n + 1) = some cs) : a.spot = none ∧ a.block < w.heap.size := by
  obtain ⟨_, hl, hc⟩ := World.cells?_some h
  have h0 := hc 0 (by omega)
  rw [List.getElem?_eq_getElem (by omega)] at h0
  have e : a.add 0 = a := by simp [Addr.add]
  rw [e] at h0
  unfold World.cell? at h0
  split at h0
  · rename_i hb
    refine ⟨?_, blk_lt hb⟩
    cases hs : a.spot with
    | none => rfl
    | some x => rw [hs] at h0; simp at h0
  · cases h0
theorem add_none {b o k : Nat} : (⟨b, o, none⟩ : Addr).add k = ⟨b, o + k, none⟩ := by
  unfold Addr.add
  split <;> simp_all
set_option maxRecDepth 100000 in
theorem open_recs {r : Reach} {b0 : Nat} {v : Value} {d : DataW H} {p : List MemPlace} (hv : Value.okWide Try.prog w r b0 26 v) (h : DataW.Trod enc Try.prog w base spare held 26 v d p) :
    ∃ (l : List R) (A : Option Addr) (b o c : Nat), v = .slice A l.length c ∧ l.length ≤ maxLen ∧ l.length ≤ c ∧ c ≤ maxLen ∧ RL w A b o l := by
  obtain ⟨a0, len, cap, rfl⟩ := okWide_slice Try.underlying26 hv
  obtain ⟨fuel, hf⟩ := h
  rcases open_slice Try.underlying26 hf with ⟨hcs, _⟩ | ⟨a, len', cap', m, n, D, Pl, hcs, hb, hl, hm, hmm, hx, hel⟩
  · simp [Value.cells] at hcs
    obtain ⟨rfl, rfl, rfl⟩ := hcs
    exact ⟨[], none, 0, 0, 0, rfl, (by rw [List.length_nil]; exact Nat.zero_le _), (by rw [List.length_nil]; exact Nat.zero_le _), (by exact Nat.zero_le _), ⟨fun hn => absurd rfl hn, fun i r hi => by simp at hi⟩⟩
  · simp [Value.cells] at hcs
    obtain ⟨rfl, rfl, rfl⟩ := hcs
    have hlm : len ≤ m := by rw [hmm]; split <;> omega
    haveI : Inhabited R := ⟨R.zero⟩
    obtain ⟨f, hfx⟩ := choose_lt (α := R) (n := len) (p := fun i q => ∀ j, j < 8 → w.cell? (a.add (i * 8 + j)) = q.cl[j]?) (fun i hi => by
      obtain ⟨cs', h1, h2⟩ := hel i (by omega)
      rw [cells_rec] at h1
      obtain ⟨q, hq⟩ := trod_rec h2
      refine ⟨q, fun j hj => ?_⟩
      have h3 := (World.cells?_some h1).2.2 j hj
      rw [add_add] at h3
      rw [h3, hq j hj]
      simp [R.val, Value.cells, R.cl])
    have hsp : 0 < len → a = ⟨a.block, a.off, none⟩ ∧ a.block < w.heap.size := fun h0 => by
      obtain ⟨cs', h1, h2⟩ := hel 0 (by omega)
      rw [cells_rec, Nat.zero_mul] at h1
      have e : a.add 0 = a := by simp [Addr.add]
      rw [e] at h1
      obtain ⟨h3, h4⟩ := cells_spot h1
      exact ⟨by cases a; simp_all, h4⟩
    refine ⟨(List.range len).map f, some a, a.block, a.off, cap, by simp, (by rw [List.length_map, List.length_range]; omega), (by rw [List.length_map, List.length_range]; exact hl), hm, ⟨fun hn => ?_, fun i r hi j u hu => ?_⟩⟩
    · have h0 : 0 < len := by
        rcases Nat.eq_zero_or_pos len with h | h
        · subst h; exact absurd rfl hn
        · exact h
      exact ⟨by rw [(hsp h0).1], (hsp h0).2⟩
    · have hi2 := get_lt hi
      simp at hi2
      have e : r = f i := by
        rw [List.getElem?_map, List.getElem?_range hi2] at hi
        exact (Option.some.inj hi).symm
      have := hfx i hi2 j (cl_lt hu)
      rw [(hsp (by omega)).1, add_none] at this
      rw [Nat.add_assoc, this, ← e]
      exact hu
end
end Go.Proofs.Ytmfjhacgpopijaa
end
