/- Logs as plain Lean: the book's words say what the document's say. No condition. -/
import Derived.Test.YtdbcimadjmdffaaLm
set_option linter.unusedVariables false
set_option linter.unusedSimpArgs false
set_option linter.unusedSectionVars false
namespace Go.Proofs.Ytdbcimadjmdffaa
theorem cnt_last : ∀ {h : List R} {t : Int}, lastN h t = 0 → ∀ k, cnt h t k = 0
  | [], _, _, _ => rfl
  | r :: h, t, hn, k => by
    unfold lastN at hn
    split at hn
    · omega
    · rename_i hne
      simp [cnt, hne, cnt_last hn k]
theorem wrs_last : ∀ {h : List R} {t : Int}, lastN h t = 0 → wrs h t = []
  | [], _, _ => rfl
  | r :: h, t, hn => by
    unfold lastN at hn
    split at hn
    · omega
    · rename_i hne
      simp [wrs, hne, wrs_last hn]
theorem stt_cnt {h : List R} {t : Int} : (stt h t ≠ 4 → cnt h t 4 = 0) ∧ (stt h t ≠ 4 → stt h t ≠ 2 → cnt h t 2 = 0) ∧ (stt h t ≠ 4 → stt h t ≠ 2 → stt h t ≠ 3 → cnt h t 3 = 0) := by
  unfold stt
  split
  · rename_i h0
    have := cnt_last h0
    simp [this]
  · split
    · simp
    · split
      · simp; omega
      · split
        · simp; omega
        · simp; omega
/-- What a right record may be, told by how far its Txn is. -/
theorem follows_st {h : List R} {r : R} (hf : follows h r = true) : r.prev = lastN h r.txn ∧ stt h r.txn ≠ 4 ∧ (stt h r.txn = 2 → r.kind = 4) ∧ (stt h r.txn = 3 → r.kind = 3 ∨ r.kind = 4) := by
  unfold follows at hf
  split at hf
  · cases hf
  · rename_i hc
    simp only [Bool.or_eq_true, Bool.and_eq_true, bne_iff_ne, beq_iff_eq, ne_eq, not_or, not_and, Decidable.not_not] at hc
    refine ⟨hc.1, hc.2.1, fun h2 => hc.2.2.1 h2, fun h3 => ?_⟩
    by_cases h4 : r.kind = 3
    · exact .inl h4
    · exact .inr (hc.2.2.2 h3 h4)
theorem Right.st : ∀ {h : List R}, Right h → ∀ t, stB h t = (stt h t : Int)
  | [], _, t => rfl
  | r :: h, hr, t => by
    obtain ⟨h1, h2, h3⟩ := hr.parts
    have ih := h1.st t
    have hb := rec_bounds h2
    by_cases ht : r.txn = t
    · subst ht
      obtain ⟨_, f1, f2, f3⟩ := follows_st h3
      obtain ⟨c1, c2, c3⟩ := stt_cnt (h := h) (t := r.txn)
      have hk : r.kind = 1 ∨ r.kind = 2 ∨ r.kind = 3 ∨ r.kind = 4 := by omega
      have e4 := c1 f1
      unfold stB stt
      simp only [lastN, cnt, if_true, true_and]
      rw [if_neg (by omega)]
      rcases hk with hk | hk | hk | hk
      · have e2 := c2 f1 (fun h => by have := f2 h; omega)
        have e3 := c3 f1 (fun h => by have := f2 h; omega) (fun h => by have := f3 h; omega)
        simp [hk, e4, e2, e3]
      · simp [hk, e4, Nat.add_pos_left]
      · have e2 := c2 f1 (fun h => by have := f2 h; omega)
        simp [hk, e4, e2, Nat.add_pos_left]
      · simp [hk, Nat.add_pos_left]
    · have e : stt (r :: h) t = stt h t := by
        unfold stt
        simp only [lastN, cnt, if_neg ht, ht, false_and, if_false, Nat.zero_add]
      rw [e, ← ih]
      simp [stB, ht]
theorem stt_cons {h : List R} {r : R} (hr : Right (r :: h)) : (stt (r :: h) r.txn : Int) = r.kind := by
  rw [← hr.st]; simp [stB]
theorem Right.up : ∀ {h : List R}, Right h → ∀ t, upB h t = if stt h t = 4 then [] else ups h t
  | [], _, t => by simp [upB, stt, ups, wrs]
  | r :: h, hr, t => by
    obtain ⟨h1, h2, h3⟩ := hr.parts
    have ih := h1.up t
    have hb := rec_bounds h2
    by_cases ht : r.txn = t
    · subst ht
      have hst := stt_cons hr
      obtain ⟨_, f1, f2, f3⟩ := follows_st h3
      obtain ⟨c1, c2, c3⟩ := stt_cnt (h := h) (t := r.txn)
      rw [if_neg f1] at ih
      have hk : r.kind = 1 ∨ r.kind = 2 ∨ r.kind = 3 ∨ r.kind = 4 := by omega
      rcases hk with hk | hk | hk | hk
      · have e3 := c3 f1 (fun h => by have := f2 h; omega) (fun h => by have := f3 h; omega)
        have hne : stt (r :: h) r.txn ≠ 4 := by omega
        rw [if_neg hne]
        simp only [upB, ups, wrs, cnt, hk, and_self, if_true, ih, e3]
        simp
      · have hne : stt (r :: h) r.txn ≠ 4 := by omega
        rw [if_neg hne]
        simp [upB, ups, wrs, cnt, hk, ih]
      · have hne : stt (r :: h) r.txn ≠ 4 := by omega
        rw [if_neg hne]
        simp [upB, ups, wrs, cnt, hk, ih, Nat.add_comm]
      · have he : stt (r :: h) r.txn = 4 := by omega
        rw [if_pos he]
        simp [upB, hk]
    · have e : stt (r :: h) t = stt h t := by
        unfold stt
        simp only [lastN, cnt, if_neg ht, ht, false_and, if_false, Nat.zero_add]
      rw [e]
      simp [upB, ht, ih, ups, wrs, cnt]
theorem recAt_old {h : List R} {r : R} {n : Nat} (h1 : 1 ≤ n) (hn : n ≤ h.length) : recAt (r :: h) n = recAt h n := by
  unfold recAt
  rw [List.reverse_cons, List.getElem?_append_left (by simp; omega)]
theorem recAt_new (h : List R) (r : R) : recAt (r :: h) (h.length + 1) = r := by
  unfold recAt
  simp
theorem hasCell_old {h : List R} {r : R} {n : Nat} (h1 : 1 ≤ n) (hn : n ≤ h.length) (p c : Int) : hasCell (r :: h) p c n = hasCell h p c n := by
  unfold hasCell; rw [recAt_old h1 hn]
theorem upB_bnd : ∀ {h : List R} {t : Int} {n : Nat}, n ∈ upB h t → 1 ≤ n ∧ n ≤ h.length
  | [], _, _, hn => by cases hn
  | r :: h, t, n, hn => by
    unfold upB at hn
    have key : ∀ n ∈ upB h t, 1 ≤ n ∧ n ≤ (r :: h).length := fun n hn => by have := upB_bnd hn; simp; omega
    split at hn
    · split at hn
      · rcases List.mem_cons.1 hn with rfl | hn
        · simp
        · exact key n hn
      · split at hn
        · exact key n (List.mem_of_mem_tail hn)
        · split at hn
          · cases hn
          · exact key n hn
    · exact key n hn
theorem any_congr {α : Type} {f g : α → Bool} : ∀ {l : List α}, (∀ x ∈ l, f x = g x) → l.any f = l.any g
  | [], _ => rfl
  | x :: l, h => by
    rw [List.any_cons, List.any_cons, h x (List.Mem.head _), any_congr fun y hy => h y (List.Mem.tail _ hy)]
theorem any_old {h : List R} {r : R} {l : List Nat} {t : Int} (hs : ∀ n ∈ l, n ∈ upB h t) (p c : Int) : l.any (hasCell (r :: h) p c) = l.any (hasCell h p c) :=
  any_congr fun n hn => hasCell_old (upB_bnd (hs n hn)).1 (upB_bnd (hs n hn)).2 p c
theorem holds_up {h : List R} (hr : Right h) (p c t : Int) : holdsCell h p c t = (upB h t).any (hasCell h p c) := by
  unfold holdsCell
  rw [hr.up t]
  by_cases h4 : stt h t = 4 <;> simp [h4]
theorem taken_iff {h : List R} (hr : Right h) {t p c : Int} : taken h t p c = true ↔ ∃ u, 1 ≤ u ∧ u ≤ 9 ∧ u ≠ t ∧ (upB h u).any (hasCell h p c) = true := by
  unfold taken
  rw [List.any_eq_true]
  constructor
  · rintro ⟨u, hu, h1⟩
    rw [Bool.and_eq_true, bne_iff_ne, holds_up hr] at h1
    refine ⟨u, ?_, ?_, h1.1, h1.2⟩ <;> · simp at hu; omega
  · rintro ⟨u, h1, h2, h3, h4⟩
    refine ⟨u, ?_, ?_⟩
    · have : u = 1 ∨ u = 2 ∨ u = 3 ∨ u = 4 ∨ u = 5 ∨ u = 6 ∨ u = 7 ∨ u = 8 ∨ u = 9 := by omega
      simpa using this
    · rw [Bool.and_eq_true, bne_iff_ne, holds_up hr]
      exact ⟨h3, h4⟩
theorem Right.own : ∀ {h : List R}, Right h → ∀ p c, (ownB h p c = 0 ∨ (1 ≤ ownB h p c ∧ ownB h p c ≤ 9)) ∧ ∀ u, (upB h u).any (hasCell h p c) = true ↔ (ownB h p c = u ∧ u ≠ 0)
  | [], _, p, c => by simp [ownB, upB]
  | r :: h, hr, p, c => by
    obtain ⟨h1, h2, h3⟩ := hr.parts
    obtain ⟨i1, i2⟩ := h1.own p c
    have hb := rec_bounds h2
    have hk : r.kind = 1 ∨ r.kind = 2 ∨ r.kind = 3 ∨ r.kind = 4 := by omega
    have other : ∀ u, r.txn ≠ u → (upB (r :: h) u).any (hasCell (r :: h) p c) = (upB h u).any (hasCell h p c) := fun u hu => by
      have e : upB (r :: h) u = upB h u := by simp [upB, hu]
      rw [e]
      exact any_old (fun n hn => hn) p c
    rcases hk with hk | hk | hk | hk
    · -- Write
      have eo : ownB (r :: h) p c = if r.page = p ∧ r.cell = c then r.txn else ownB h p c := by simp [ownB, hk]
      have eu : (upB (r :: h) r.txn).any (hasCell (r :: h) p c) = ((r.page == p && r.cell == c) || (upB h r.txn).any (hasCell h p c)) := by
        have e : upB (r :: h) r.txn = (h.length + 1) :: upB h r.txn := by simp [upB, hk]
        rw [e, List.any_cons, any_old (fun n hn => hn) p c]
        unfold hasCell
        rw [recAt_new]
      rw [eo]
      refine ⟨?_, fun u => ?_⟩
      · split
        · right; omega
        · exact i1
      · by_cases hu : r.txn = u
        · subst hu
          rw [eu]
          by_cases hc : r.page = p ∧ r.cell = c
          · obtain ⟨rfl, rfl⟩ := hc
            simp; omega
          · rw [if_neg hc]
            have : (r.page == p && r.cell == c) = false := by
              cases hx : (r.page == p && r.cell == c)
              · rfl
              · simp at hx; exact absurd hx hc
            rw [this, Bool.false_or]
            exact i2 _
        · rw [other u hu]
          by_cases hc : r.page = p ∧ r.cell = c
          · obtain ⟨rfl, rfl⟩ := hc
            rw [if_pos ⟨rfl, rfl⟩]
            have hnt : taken h r.txn r.page r.cell = false := by
              have hf := h3
              unfold follows at hf
              split at hf
              · cases hf
              · try rw [if_pos hk] at hf
                simp at hf
                exact hf.2
            constructor
            · intro ha
              obtain ⟨h5, h6⟩ := (i2 u).1 ha
              have : taken h r.txn r.page r.cell = true := (taken_iff h1).2 ⟨u, by omega, by omega, fun e => hu e.symm, ha⟩
              rw [hnt] at this; cases this
            · rintro ⟨e, _⟩
              exact absurd e hu
          · rw [if_neg hc]
            exact i2 u
    · -- Commit
      have eo : ownB (r :: h) p c = ownB h p c := by simp [ownB, hk]
      rw [eo]
      refine ⟨i1, fun u => ?_⟩
      by_cases hu : r.txn = u
      · subst hu
        have e : upB (r :: h) r.txn = upB h r.txn := by simp [upB, hk]
        rw [e, any_old (fun n hn => hn) p c]
        exact i2 _
      · rw [other u hu]; exact i2 u
    · have eo : ownB (r :: h) p c = if ownB h p c = r.txn ∧ (upB (r :: h) r.txn).any (hasCell (r :: h) p c) = false then 0 else ownB h p c := by simp [ownB, hk]
      have es : ∀ n ∈ upB (r :: h) r.txn, n ∈ upB h r.txn := fun n hn => by
        have e : upB (r :: h) r.txn = (upB h r.txn).tail := by simp [upB, hk]
        rw [e] at hn
        exact List.mem_of_mem_tail hn
      exact back i1 i2 other eo es (by omega)
    · have eo : ownB (r :: h) p c = if ownB h p c = r.txn ∧ (upB (r :: h) r.txn).any (hasCell (r :: h) p c) = false then 0 else ownB h p c := by simp [ownB, hk]
      have es : ∀ n ∈ upB (r :: h) r.txn, n ∈ upB h r.txn := fun n hn => by
        have e : upB (r :: h) r.txn = [] := by simp [upB, hk]
        rw [e] at hn
        cases hn
      exact back i1 i2 other eo es (by omega)
  where
  back {r : R} {h : List R} {p c : Int} (i1 : ownB h p c = 0 ∨ (1 ≤ ownB h p c ∧ ownB h p c ≤ 9)) (i2 : ∀ u, (upB h u).any (hasCell h p c) = true ↔ (ownB h p c = u ∧ u ≠ 0))
      (other : ∀ u, r.txn ≠ u → (upB (r :: h) u).any (hasCell (r :: h) p c) = (upB h u).any (hasCell h p c))
      (eo : ownB (r :: h) p c = if ownB h p c = r.txn ∧ (upB (r :: h) r.txn).any (hasCell (r :: h) p c) = false then 0 else ownB h p c)
      (es : ∀ n ∈ upB (r :: h) r.txn, n ∈ upB h r.txn) (ht : r.txn ≠ 0) : (ownB (r :: h) p c = 0 ∨ (1 ≤ ownB (r :: h) p c ∧ ownB (r :: h) p c ≤ 9)) ∧ ∀ u, (upB (r :: h) u).any (hasCell (r :: h) p c) = true ↔ (ownB (r :: h) p c = u ∧ u ≠ 0) := by
    rw [eo]
    refine ⟨by split <;> omega, fun u => ?_⟩
    by_cases hu : r.txn = u
    · subst hu
      cases ha : (upB (r :: h) r.txn).any (hasCell (r :: h) p c)
      · simp only [and_true]
        constructor
        · intro h; cases h
        · rintro ⟨h1, h2⟩
          split at h1
          · omega
          · rename_i hne; exact absurd h1 hne
      · simp only [Bool.true_eq_false, and_false, if_false, true_iff]
        rw [any_old es p c] at ha
        obtain ⟨n, hn, hc⟩ := List.any_eq_true.1 ha
        exact (i2 _).1 (List.any_eq_true.2 ⟨n, es n hn, hc⟩)
    · rw [other u hu, i2 u]
      constructor
      · rintro ⟨rfl, h2⟩
        rw [if_neg (fun h => hu h.1.symm)]
        exact ⟨rfl, h2⟩
      · rintro ⟨h1, h2⟩
        split at h1
        · omega
        · exact ⟨h1, h2⟩
theorem own_free {h : List R} (hr : Right h) {t p c : Int} (ht : 1 ≤ t ∧ t ≤ 9) : (ownB h p c == 0 || ownB h p c == t) = !taken h t p c := by
  obtain ⟨i1, i2⟩ := hr.own p c
  cases hk : taken h t p c
  · have hn : ¬ ∃ u, 1 ≤ u ∧ u ≤ 9 ∧ u ≠ t ∧ (upB h u).any (hasCell h p c) = true := fun hx => by rw [(taken_iff hr).2 hx] at hk; cases hk
    have : ownB h p c = 0 ∨ ownB h p c = t := by
      by_cases h0 : ownB h p c = 0
      · exact .inl h0
      · by_cases h1 : ownB h p c = t
        · exact .inr h1
        · exact absurd ⟨ownB h p c, by omega, by omega, h1, (i2 _).2 ⟨rfl, h0⟩⟩ hn
    simpa using this
  · obtain ⟨u, h1, h2, h3, h4⟩ := (taken_iff hr).1 hk
    obtain ⟨e, _⟩ := (i2 u).1 h4
    rw [e]
    simp; omega
theorem ups_none {h : List R} {t : Int} (h0 : stt h t = 0) : ups h t = [] := by
  have : lastN h t = 0 := by
    unfold stt at h0
    split at h0
    · assumption
    · repeat' split at h0
      all_goals omega
  simp [ups, wrs_last this]
/-- The program's test is the document's. -/
theorem Right.fits {h : List R} {r : R} (hr : Right h) (he : recErr (h.length + 1) r = 0) : fits h r = follows h r := by
  have hb := rec_bounds he
  have hk : r.kind = 1 ∨ r.kind = 2 ∨ r.kind = 3 ∨ r.kind = 4 := by omega
  have hs := hr.st r.txn
  have hu := hr.up r.txn
  have hs4 : stt h r.txn ≤ 4 := by
    unfold stt
    repeat' split
    all_goals omega
  unfold Proofs.Ytdbcimadjmdffaa.fits follows
  by_cases hp : r.prev = lastN h r.txn
  rotate_left
  · simp [hp]
  simp only [hp, bne_self_eq_false, Bool.false_eq_true, if_false, Bool.false_or]
  rw [hs]
  generalize hS : stt h r.txn = S at *
  rcases hk with hk | hk | hk | hk
  · simp only [hk]
    rw [own_free hr ⟨by omega, by omega⟩]
    have : S = 0 ∨ S = 1 ∨ S = 2 ∨ S = 3 ∨ S = 4 := by omega
    rcases this with rfl | rfl | rfl | rfl | rfl <;> simp
  · simp only [hk]
    have : S = 0 ∨ S = 1 ∨ S = 2 ∨ S = 3 ∨ S = 4 := by omega
    rcases this with rfl | rfl | rfl | rfl | rfl <;> simp
  · simp only [hk]
    have : S = 0 ∨ S = 1 ∨ S = 2 ∨ S = 3 ∨ S = 4 := by omega
    have key : S ≠ 4 → (!(upB h r.txn).isEmpty && decide (r = undoB h r.txn)) = (match ups h r.txn with
        | [] => false
        | n :: _ => r.page == (recAt h n).page && (r.cell == (recAt h n).cell && (r.old == (recAt h n).new && (r.new == (recAt h n).old && r.next == (recAt h n).prev)))) := by
      intro h4
      rw [if_neg h4] at hu
      unfold undoB
      rw [hu]
      cases ups h r.txn with
      | nil => rfl
      | cons n l =>
        simp only [List.isEmpty_cons, Bool.not_false, Bool.true_and]
        obtain ⟨k, t, p, pg, c, o, nw, nx⟩ := r
        simp only at hk hp
        subst hk
        unfold backOf
        simp only [R.mk.injEq, true_and, hp]
        by_cases e1 : pg = (recAt h n).page <;> by_cases e2 : c = (recAt h n).cell <;> by_cases e3 : o = (recAt h n).new <;> by_cases e4 : nw = (recAt h n).old <;> by_cases e5 : nx = (recAt h n).prev <;> simp [e1, e2, e3, e4, e5]
    rcases this with rfl | rfl | rfl | rfl | rfl
    · have := key (by omega)
      rw [ups_none hS] at this
      simp [this, ups_none hS]
    · have := key (by omega)
      simp [this]
      cases ups h r.txn <;> rfl
    · simp
    · have := key (by omega)
      simp [this]
      cases ups h r.txn <;> rfl
    · simp
  · simp only [hk]
    have : S = 0 ∨ S = 1 ∨ S = 2 ∨ S = 3 ∨ S = 4 := by omega
    rcases this with rfl | rfl | rfl | rfl | rfl <;> simp_all
/-! ### Pages -/
def P3.ok (p : P3) : Bool := p.p0.ok && (p.p1.ok && p.p2.ok)
theorem P3.ok_get {p : P3} (h : p.ok = true) (i : Int) : (p.get i).ok = true := by
  simp only [P3.ok, Bool.and_eq_true] at h
  unfold P3.get
  split
  · exact h.1
  · split
    · exact h.2.1
    · exact h.2.2
theorem P3.ok_set {p : P3} (h : p.ok = true) (i : Int) {x : Pg} (hx : x.ok = true) : (p.set i x).ok = true := by
  simp only [P3.ok, Bool.and_eq_true] at h ⊢
  unfold P3.set
  split
  · exact ⟨hx, h.2⟩
  · split
    · exact ⟨h.1, hx, h.2.2⟩
    · exact ⟨h.1, h.2.1, hx⟩
theorem Pg.ok_put {p : Pg} (h : p.ok = true) {c v n : Int} (hv : 0 ≤ v ∧ v ≤ 99) (hn : 0 ≤ n ∧ n ≤ 60) : (p.put c v n).ok = true := by
  simp only [Pg.ok, cellsB, Bool.and_eq_true, wi_iff] at h ⊢
  unfold Pg.put
  split
  · exact ⟨⟨hv, h.1.2⟩, hn⟩
  · split
    · exact ⟨⟨h.1.1, hv, h.1.2.2⟩, hn⟩
    · exact ⟨⟨h.1.1, h.1.2.1, hv⟩, hn⟩
theorem Right.pok : ∀ {h : List R}, Right h → (pagesOf h).ok = true
  | [], _ => rfl
  | r :: h, hr => by
    obtain ⟨h1, h2, _⟩ := hr.parts
    have ih := h1.pok
    have hb := rec_bounds h2
    unfold pagesOf
    split
    · rename_i ht
      have := hb.2.2.2.2.2.2.2.2.1 ht
      exact P3.ok_set ih _ (Pg.ok_put (P3.ok_get ih _) this.2.2.2 (by omega))
    · exact ih
end Go.Proofs.Ytdbcimadjmdffaa
