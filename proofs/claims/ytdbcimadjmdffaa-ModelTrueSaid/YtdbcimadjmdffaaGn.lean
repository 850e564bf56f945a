/- Logs as plain Lean: who is over without a Commit has turned nothing. No condition. -/
import Derived.Test.YtdbcimadjmdffaaCh
set_option linter.unusedVariables false
set_option linter.unusedSimpArgs false
set_option linter.unusedSectionVars false
namespace Go.Proofs.Ytdbcimadjmdffaa
theorem sta_mem : ∀ {h : List R} {t : Int} {x : R}, x ∈ sta h t → x ∈ h ∧ x.txn = t ∧ x.kind = 1
  | [], _, _, hx => by cases hx
  | r :: h, t, x, hx => by
    have key : ∀ {x : R}, x ∈ sta h t → x ∈ r :: h ∧ x.txn = t ∧ x.kind = 1 := fun hx => by
      obtain ⟨h1, h2⟩ := sta_mem hx
      exact ⟨List.mem_cons_of_mem _ h1, h2⟩
    unfold sta at hx
    split at hx
    · rename_i ht
      split at hx
      · rename_i hk
        rcases List.mem_cons.1 hx with rfl | hx
        · exact ⟨List.Mem.head _, ht, hk⟩
        · exact key hx
      · split at hx
        · exact key (List.mem_of_mem_tail hx)
        · exact key hx
    · exact key hx
/-- Nobody else holds the cell. -/
def NoOther (h : List R) (t p c : Int) : Prop := ∀ u, u ≠ t → (upB h u).any (hasCell h p c) = false
theorem gone_base {h : List R} {r : R} (hr : Right (r :: h)) (hk : r.kind = 1) (hf : ∀ x ∈ h, ¬(x.txn = r.txn ∧ x.kind = 1 ∧ inCell r.page r.cell x = true)) :
    chain (cellOf (r :: h) r.page r.cell) ((sta (r :: h) r.txn).filter (inCell r.page r.cell)) r.old ∧ NoOther (r :: h) r.txn r.page r.cell := by
  obtain ⟨h1, h2, h3⟩ := hr.parts
  have hb := rec_bounds h2
  have htu : r.turns = true := by simp [R.turns, hk]
  obtain ⟨b1, b2, b3, b4⟩ := hb.2.2.2.2.2.2.2.2.1 htu
  have hin : inCell r.page r.cell r = true := by simp [inCell]
  constructor
  · have es : sta (r :: h) r.txn = r :: sta h r.txn := by simp [sta, hk]
    have e0 : (sta h r.txn).filter (inCell r.page r.cell) = [] := List.filter_eq_nil_iff.2 fun x hx hc => by
      obtain ⟨m1, m2, m3⟩ := sta_mem hx
      exact hf x m1 ⟨m2, m3, hc⟩
    rw [es, List.filter_cons, hin, cell_turn htu b1 b2 b1 b2, hin]
    simp only [if_true]
    rw [e0]
    exact ⟨rfl, rfl⟩
  · intro u hu
    have hne : ¬ r.txn = u := fun e => hu e.symm
    have e : upB (r :: h) u = upB h u := by simp [upB, hne]
    rw [e, any_old (fun n hn => hn)]
    cases ha : (upB h u).any (hasCell h r.page r.cell)
    · rfl
    · exfalso
      obtain ⟨o1, o2⟩ := ((h1.own r.page r.cell).2 u).1 ha
      have := own_free h1 (t := r.txn) (p := r.page) (c := r.cell) ⟨by omega, by omega⟩
      rw [(write_fit h3 hk).2, o1] at this
      simp at this
      rcases this with h | h
      · exact o2 h
      · exact hu h
theorem gone_step {h : List R} {x : R} {t p c b : Int} (hr : Right (x :: h)) (hp : 0 ≤ p ∧ p ≤ 2) (hc : 0 ≤ c ∧ c ≤ 2) (hx : ¬(x.kind = 1 ∧ x.txn ≠ t ∧ inCell p c x = true))
    (ih : chain (cellOf h p c) ((sta h t).filter (inCell p c)) b ∧ NoOther h t p c) : chain (cellOf (x :: h) p c) ((sta (x :: h) t).filter (inCell p c)) b ∧ NoOther (x :: h) t p c := by
  obtain ⟨h1, h2, h3⟩ := hr.parts
  have hb := rec_bounds h2
  have hk : x.kind = 1 ∨ x.kind = 2 ∨ x.kind = 3 ∨ x.kind = 4 := by omega
  obtain ⟨i1, i2⟩ := ih
  obtain ⟨_, f1, f2, f3⟩ := follows_st h3
  have cellx : cellOf (x :: h) p c = if x.turns && inCell p c x then x.new else cellOf h p c := by
    cases htu : x.turns
    · rw [cell_stay htu]; simp
    · obtain ⟨b1, b2, _, _⟩ := hb.2.2.2.2.2.2.2.2.1 htu
      rw [cell_turn htu b1 b2 hp hc]; simp
  constructor
  · rw [cellx]
    by_cases ht : x.txn = t
    · subst ht
      rcases hk with hk | hk | hk | hk
      · have es : sta (x :: h) x.txn = x :: sta h x.txn := by simp [sta, hk]
        have htu : x.turns = true := by simp [R.turns, hk]
        rw [es, List.filter_cons, htu]
        cases hin : inCell p c x
        · simpa using i1
        · have hpc : x.page = p ∧ x.cell = c := by simpa [inCell] using hin
          obtain ⟨rfl, rfl⟩ := hpc
          simp only [Bool.and_self, if_true]
          exact ⟨rfl, by rw [(write_fit h3 hk).1]; exact i1⟩
      · have es : sta (x :: h) x.txn = sta h x.txn := by simp [sta, hk]
        have htu : x.turns = false := by simp [R.turns, hk]
        rw [es, htu]
        simpa using i1
      · obtain ⟨y, ys, hy, e1, e2, e3, e4⟩ := back_top hr hk
        have es : sta (x :: h) x.txn = ys := by simp [sta, hk, hy]
        have htu : x.turns = true := by simp [R.turns, hk]
        have hin : inCell p c x = inCell p c y := by simp [inCell, e1, e2]
        rw [hy, List.filter_cons] at i1
        rw [es, htu, hin]
        cases hyc : inCell p c y
        · rw [hyc] at i1
          simpa using i1
        · rw [hyc] at i1
          simp only [Bool.and_self, if_true]
          rw [e3]
          exact i1.2
      · have es : sta (x :: h) x.txn = sta h x.txn := by simp [sta, hk]
        have htu : x.turns = false := by simp [R.turns, hk]
        rw [es, htu]
        simpa using i1
    · have es : sta (x :: h) t = sta h t := by simp [sta, ht]
      rw [es]
      have hne : (x.turns && inCell p c x) = false := by
        cases hti : (x.turns && inCell p c x)
        · rfl
        · exfalso
          simp only [Bool.and_eq_true] at hti
          obtain ⟨htu, hin⟩ := hti
          have hk13 : x.kind = 1 ∨ x.kind = 3 := by simpa [R.turns] using htu
          rcases hk13 with hk | hk
          · exact hx ⟨hk, ht, hin⟩
          · obtain ⟨y, ys, hy, e1, e2, _⟩ := back_top hr hk
            have n1 := i2 x.txn ht
            rw [holds_sta h1 f1, hy, List.any_cons] at n1
            have : inCell p c y = true := by simpa [inCell, e1, e2] using hin
            rw [this] at n1
            simp at n1
      rw [hne]
      simpa using i1
  · intro u hu
    by_cases hxu : x.txn = u
    · subst hxu
      have n1 := i2 x.txn hu
      rcases hk with hk | hk | hk | hk
      · have e : upB (x :: h) x.txn = (h.length + 1) :: upB h x.txn := by simp [upB, hk]
        rw [e, List.any_cons, any_old (fun n hn => hn), n1]
        unfold hasCell
        rw [recAt_new]
        cases hin : inCell p c x
        · simpa [inCell] using hin
        · exact absurd ⟨hk, hu, hin⟩ hx
      · have e : upB (x :: h) x.txn = upB h x.txn := by simp [upB, hk]
        rw [e, any_old (fun n hn => hn), n1]
      · have e : upB (x :: h) x.txn = (upB h x.txn).tail := by simp [upB, hk]
        rw [e, any_old (fun n hn => List.mem_of_mem_tail hn)]
        cases hl : upB h x.txn with
        | nil => rfl
        | cons m ms =>
          rw [hl, List.any_cons, Bool.or_eq_false_iff] at n1
          exact n1.2
      · have e : upB (x :: h) x.txn = [] := by simp [upB, hk]
        rw [e]
        rfl
    · have e : upB (x :: h) u = upB h u := by simp [upB, hxu]
      rw [e, any_old (fun n hn => hn)]
      exact i2 u hu
/-- From the first Write of the cell on. -/
theorem gone_all {h0 : List R} {r : R} (hk : r.kind = 1) (hf : ∀ x ∈ h0, ¬(x.txn = r.txn ∧ x.kind = 1 ∧ inCell r.page r.cell x = true)) (hp : 0 ≤ r.page ∧ r.page ≤ 2) (hc : 0 ≤ r.cell ∧ r.cell ≤ 2) :
    ∀ (g : List R), Right (g ++ r :: h0) → (∀ x ∈ g, ¬(x.kind = 1 ∧ x.txn ≠ r.txn ∧ inCell r.page r.cell x = true)) →
      chain (cellOf (g ++ r :: h0) r.page r.cell) ((sta (g ++ r :: h0) r.txn).filter (inCell r.page r.cell)) r.old ∧ NoOther (g ++ r :: h0) r.txn r.page r.cell
  | [], hr, _ => gone_base hr hk hf
  | x :: g, hr, hg => gone_step hr hp hc (hg x (List.Mem.head _)) (gone_all hk hf hp hc g hr.parts.1 fun y hy => hg y (List.Mem.tail _ hy))
end Go.Proofs.Ytdbcimadjmdffaa
