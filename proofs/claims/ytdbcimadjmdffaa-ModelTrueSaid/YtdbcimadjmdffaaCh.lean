/- Logs as plain Lean: the standing Writes of a cell lead back, one to the next. No condition. -/
import Derived.Test.YtdbcimadjmdffaaAr
set_option linter.unusedVariables false
set_option linter.unusedSimpArgs false
set_option linter.unusedSectionVars false
namespace Go.Proofs.Ytdbcimadjmdffaa
/-- From the value v, Write by Write, back to b. -/
def chain (v : Int) : List R → Int → Prop
  | [], b => v = b
  | x :: xs, b => x.new = v ∧ chain x.old xs b
/-- The Writes of a Txn that stand, the newest first. -/
def sta : List R → Int → List R
  | [], _ => []
  | r :: h, t => if r.txn = t then (if r.kind = 1 then r :: sta h t else if r.kind = 3 then (sta h t).tail else sta h t) else sta h t
def inCell (p c : Int) (x : R) : Bool := x.page == p && x.cell == c
def cellOf (h : List R) (p c : Int) : Int := ((pagesOf h).get p).cellAt c
theorem sta_ups : ∀ {h : List R}, Right h → ∀ t, sta h t = (ups h t).map (recAt h)
  | [], _, t => rfl
  | r :: h, hr, t => by
    obtain ⟨h1, h2, h3⟩ := hr.parts
    have ih := sta_ups h1 t
    have hb := rec_bounds h2
    have old : ∀ l : List Nat, (∀ n ∈ l, n ∈ ups h t) → l.map (recAt (r :: h)) = l.map (recAt h) := fun l hl =>
      List.map_congr_left fun n hn => recAt_old (ups_le (hl n hn)).1 (ups_le (hl n hn)).2
    by_cases ht : r.txn = t
    · subst ht
      obtain ⟨_, f1, f2, f3⟩ := follows_st h3
      obtain ⟨c1, c2, c3⟩ := stt_cnt (h := h) (t := r.txn)
      have hk : r.kind = 1 ∨ r.kind = 2 ∨ r.kind = 3 ∨ r.kind = 4 := by omega
      rcases hk with hk | hk | hk | hk
      · have e3 := c3 f1 (fun h => by have := f2 h; omega) (fun h => by have := f3 h; omega)
        have e : ups (r :: h) r.txn = (h.length + 1) :: ups h r.txn := by simp [ups, wrs, cnt, hk, e3]
        rw [e, List.map_cons, recAt_new, old _ (fun n hn => hn), ← ih]
        simp [sta, hk]
      · have e : ups (r :: h) r.txn = ups h r.txn := by simp [ups, wrs, cnt, hk]
        rw [e, old _ (fun n hn => hn), ← ih]
        simp [sta, hk]
      · have e : ups (r :: h) r.txn = (ups h r.txn).tail := by simp [ups, wrs, cnt, hk, Nat.add_comm]
        rw [e, old _ (fun n hn => List.mem_of_mem_tail hn), List.map_tail, ← ih]
        simp [sta, hk]
      · have e : ups (r :: h) r.txn = ups h r.txn := by simp [ups, wrs, cnt, hk]
        rw [e, old _ (fun n hn => hn), ← ih]
        simp [sta, hk]
    · have e : ups (r :: h) t = ups h t := by simp [ups, wrs, cnt, ht]
      rw [e, old _ (fun n hn => hn), ← ih]
      simp [sta, ht]
theorem sta_bnd {h : List R} (hr : Right h) {t : Int} {x : R} (hx : x ∈ sta h t) : 0 ≤ x.page ∧ x.page ≤ 2 ∧ 0 ≤ x.cell ∧ x.cell ≤ 2 := by
  induction h generalizing t with
  | nil => cases hx
  | cons r h ih =>
    obtain ⟨h1, h2, h3⟩ := hr.parts
    unfold sta at hx
    split at hx
    · split at hx
      · rename_i hk
        rcases List.mem_cons.1 hx with rfl | hx
        · have := (rec_bounds h2).2.2.2.2.2.2.2.2.1 (by simp [R.turns, hk])
          omega
        · exact ih h1 hx
      · split at hx
        · exact ih h1 (List.mem_of_mem_tail hx)
        · exact ih h1 hx
    · exact ih h1 hx
/-- A page with one cell set: that cell, and another. -/
theorem get_set (P : P3) {i : Int} (hi : 0 ≤ i ∧ i ≤ 2) (x : Pg) {j : Int} (hj : 0 ≤ j ∧ j ≤ 2) : (P.set i x).get j = if j = i then x else P.get j := by
  have h1 : i = 0 ∨ i = 1 ∨ i = 2 := by omega
  have h2 : j = 0 ∨ j = 1 ∨ j = 2 := by omega
  rcases h1 with rfl | rfl | rfl <;> rcases h2 with rfl | rfl | rfl <;> rfl
theorem put_at2 (x : Pg) {c : Int} (hc : 0 ≤ c ∧ c ≤ 2) (v n : Int) {d : Int} (hd : 0 ≤ d ∧ d ≤ 2) : (x.put c v n).cellAt d = if d = c then v else x.cellAt d := by
  have h1 : c = 0 ∨ c = 1 ∨ c = 2 := by omega
  have h2 : d = 0 ∨ d = 1 ∨ d = 2 := by omega
  rcases h1 with rfl | rfl | rfl <;> rcases h2 with rfl | rfl | rfl <;> rfl
theorem cell_turn {h : List R} {r : R} (ht : r.turns = true) (hp : 0 ≤ r.page ∧ r.page ≤ 2) (hc : 0 ≤ r.cell ∧ r.cell ≤ 2) {p c : Int} (hp2 : 0 ≤ p ∧ p ≤ 2) (hc2 : 0 ≤ c ∧ c ≤ 2) : cellOf (r :: h) p c = if inCell p c r then r.new else cellOf h p c := by
  unfold cellOf inCell
  simp only [pagesOf, ht, if_true]
  rw [get_set _ hp _ hp2]
  by_cases e : p = r.page
  · subst e
    rw [if_pos rfl, put_at2 _ hc _ _ hc2]
    by_cases e2 : c = r.cell
    · subst e2; simp
    · have : ¬ r.cell = c := fun e => e2 e.symm
      simp [e2, this]
  · have : ¬ r.page = p := fun x => e x.symm
    simp [e, this]
theorem cell_stay {h : List R} {r : R} (ht : r.turns = false) (p c : Int) : cellOf (r :: h) p c = cellOf h p c := by
  unfold cellOf
  simp only [pagesOf, ht, Bool.false_eq_true, if_false]
/-- The Write that is taken back. -/
theorem back_top {h : List R} {r : R} (hr : Right (r :: h)) (hk : r.kind = 3) : ∃ x xs, sta h r.txn = x :: xs ∧ r.page = x.page ∧ r.cell = x.cell ∧ r.new = x.old ∧ r.old = x.new := by
  obtain ⟨h1, h2, h3⟩ := hr.parts
  obtain ⟨n, us, hu, e1, e2, e3, e4, _⟩ := follows_back h3 hk
  exact ⟨recAt h n, us.map (recAt h), by rw [sta_ups h1, hu]; rfl, e1, e2, e4, e3⟩
theorem holds_sta {h : List R} (hr : Right h) {t p c : Int} (h4 : stt h t ≠ 4) : (upB h t).any (hasCell h p c) = (sta h t).any (inCell p c) := by
  rw [hr.up, if_neg h4, sta_ups hr, List.any_map]
  rfl
theorem write_fit {h : List R} {r : R} (hf : follows h r = true) (hk : r.kind = 1) : r.old = cellOf h r.page r.cell ∧ taken h r.txn r.page r.cell = false := by
  unfold follows at hf
  split at hf
  · cases hf
  · try rw [if_pos hk] at hf
    simp at hf
    exact hf
/-- What the cell is, is what the newest Write of it that stands made it; and so on, back. -/
theorem chain_all : ∀ {h : List R}, Right h → ∀ t, stt h t ≠ 4 → ∀ p c, 0 ≤ p ∧ p ≤ 2 → 0 ≤ c ∧ c ≤ 2 → (sta h t).any (inCell p c) = true → ∃ b, chain (cellOf h p c) ((sta h t).filter (inCell p c)) b
  | [], _, t, _, p, c, _, _, ha => by simp [sta] at ha
  | r :: h, hr, t, h4, p, c, hp, hc, ha => by
    obtain ⟨h1, h2, h3⟩ := hr.parts
    have hb := rec_bounds h2
    have ih := chain_all h1 t
    have hk : r.kind = 1 ∨ r.kind = 2 ∨ r.kind = 3 ∨ r.kind = 4 := by omega
    have h4' : stt h t ≠ 4 := fun e => by have := (stt_step hr t).1; have := stt_le4 (r :: h) t; omega
    obtain ⟨_, f1, f2, f3⟩ := follows_st h3
    by_cases ht : r.txn = t
    · subst ht
      rcases hk with hk | hk | hk | hk
      · have htu : r.turns = true := by simp [R.turns, hk]
        obtain ⟨b1, b2, b3, b4⟩ := hb.2.2.2.2.2.2.2.2.1 htu
        have es : sta (r :: h) r.txn = r :: sta h r.txn := by simp [sta, hk]
        rw [cell_turn htu b1 b2 hp hc]
        rw [es] at ha ⊢
        obtain ⟨w1, w2⟩ := write_fit h3 hk
        cases hin : inCell p c r
        · simp only [List.any_cons, hin, Bool.false_or] at ha
          rw [List.filter_cons]
          simp only [hin, Bool.false_eq_true, if_false]
          exact ih h4' p c hp hc ha
        · rw [List.filter_cons]
          simp only [hin, if_true]
          have hpc : r.page = p ∧ r.cell = c := by simpa [inCell] using hin
          obtain ⟨rfl, rfl⟩ := hpc
          cases hany : (sta h r.txn).any (inCell r.page r.cell)
          · refine ⟨r.old, rfl, ?_⟩
            have : (sta h r.txn).filter (inCell r.page r.cell) = [] := List.filter_eq_nil_iff.2 fun x hx => by
              have := List.any_eq_false.1 hany x hx
              simpa using this
            rw [this]
            rfl
          · obtain ⟨b, hch⟩ := ih h4' r.page r.cell hp hc hany
            exact ⟨b, rfl, by rw [w1]; exact hch⟩
      · have htu : r.turns = false := by simp [R.turns, hk]
        have es : sta (r :: h) r.txn = sta h r.txn := by simp [sta, hk]
        rw [cell_stay htu]
        rw [es] at ha ⊢
        exact ih h4' p c hp hc ha
      · have htu : r.turns = true := by simp [R.turns, hk]
        obtain ⟨b1, b2, b3, b4⟩ := hb.2.2.2.2.2.2.2.2.1 htu
        obtain ⟨x, xs, hx, e1, e2, e3, e4⟩ := back_top hr hk
        have es : sta (r :: h) r.txn = xs := by simp [sta, hk, hx]
        rw [cell_turn htu b1 b2 hp hc]
        rw [es] at ha ⊢
        have hin : inCell p c r = inCell p c x := by simp [inCell, e1, e2]
        have ha2 : (sta h r.txn).any (inCell p c) = true := by rw [hx, List.any_cons, ha, Bool.or_true]
        obtain ⟨b, hch⟩ := ih h4' p c hp hc ha2
        rw [hx, List.filter_cons] at hch
        rw [hin]
        cases hxc : inCell p c x
        · rw [hxc] at hch
          exact ⟨b, hch⟩
        · rw [hxc] at hch
          refine ⟨b, ?_⟩
          simp only [if_true]
          rw [e3]
          exact hch.2
      · have := stt_cons hr
        omega
    · have es : sta (r :: h) t = sta h t := by simp [sta, ht]
      rw [es] at ha ⊢
      cases htu : r.turns
      · rw [cell_stay htu]
        exact ih h4' p c hp hc ha
      · obtain ⟨b1, b2, b3, b4⟩ := hb.2.2.2.2.2.2.2.2.1 htu
        rw [cell_turn htu b1 b2 hp hc]
        have hne : inCell p c r = false := by
          cases hin : inCell p c r
          · rfl
          · exfalso
            have hpc : r.page = p ∧ r.cell = c := by simpa [inCell] using hin
            obtain ⟨rfl, rfl⟩ := hpc
            have o1 := (h1.own r.page r.cell).2 t
            rw [holds_sta h1 h4'] at o1
            obtain ⟨o2, o3⟩ := o1.1 ha
            have hk13 : r.kind = 1 ∨ r.kind = 3 := by simpa [R.turns] using htu
            rcases hk13 with hk | hk
            · have hfree := (write_fit h3 hk).2
              have := own_free h1 (t := r.txn) (p := r.page) (c := r.cell) ⟨by omega, by omega⟩
              rw [hfree, o2] at this
              simp at this
              rcases this with h | h
              · exact o3 h
              · exact ht h.symm
            · obtain ⟨x, xs, hx, e1, e2, _⟩ := back_top hr hk
              have o4 := (h1.own r.page r.cell).2 r.txn
              rw [holds_sta h1 f1] at o4
              have : (sta h r.txn).any (inCell r.page r.cell) = true := by rw [hx, List.any_cons]; simp [inCell, e1, e2]
              have := (o4.1 this).1
              omega
        rw [hne]
        exact ih h4' p c hp hc ha
theorem top_is {h : List R} (hr : Right h) {t : Int} (h4 : stt h t ≠ 4) {x : R} {xs : List R} (hx : sta h t = x :: xs) : cellOf h x.page x.cell = x.new := by
  have hb := sta_bnd hr (t := t) (x := x) (by rw [hx]; exact List.Mem.head _)
  have hin : inCell x.page x.cell x = true := by simp [inCell]
  obtain ⟨b, hch⟩ := chain_all hr t h4 x.page x.cell ⟨hb.1, hb.2.1⟩ hb.2.2 (by rw [hx, List.any_cons, hin]; rfl)
  rw [hx, List.filter_cons, hin] at hch
  exact hch.1.symm
theorem alone {h : List R} (hr : Right h) {t u : Int} (ht : stt h t ≠ 4) (hu : stt h u ≠ 4) {x y : R} (hx : x ∈ sta h t) (hy : y ∈ sta h u) (hp : x.page = y.page) (hc : x.cell = y.cell) : t = u := by
  have o1 := (hr.own x.page x.cell).2 t
  have o2 := (hr.own x.page x.cell).2 u
  rw [holds_sta hr ht] at o1
  rw [holds_sta hr hu] at o2
  have h1 := (o1.1 (List.any_eq_true.2 ⟨x, hx, by simp [inCell]⟩)).1
  have h2 := (o2.1 (List.any_eq_true.2 ⟨y, hy, by simp [inCell, hp, hc]⟩)).1
  omega
end Go.Proofs.Ytdbcimadjmdffaa
