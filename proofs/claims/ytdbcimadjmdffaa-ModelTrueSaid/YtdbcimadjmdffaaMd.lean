/- Logs as plain Lean: who has won, what must be; if no Txn hangs, the pages are what must be. No condition. -/
import Derived.Test.YtdbcimadjmdffaaGn
set_option linter.unusedVariables false
set_option linter.unusedSimpArgs false
set_option linter.unusedSectionVars false
namespace Go.Proofs.Ytdbcimadjmdffaa
/-- Those who have a Commit, the newest first. -/
def winsH : List R → List Int
  | [] => []
  | r :: h => if r.kind = 2 then r.txn :: winsH h else winsH h
def won (h : List R) (t : Int) : Bool := decide (0 < cnt h t 2)
theorem wins_mem : ∀ (h : List R) (t : Int), (winsH h).contains t = won h t
  | [], t => rfl
  | r :: h, t => by
    have ih := wins_mem h t
    unfold won at *
    simp only [winsH, cnt]
    by_cases hk : r.kind = 2
    · rw [if_pos hk]
      by_cases ht : r.txn = t
      · subst ht; simp [hk]; omega
      · have h1 : ¬ t = r.txn := fun e => ht e.symm
        simp only [List.contains_cons, hk, and_true, ht, if_false, Nat.zero_add, ih]
        simp [h1]
    · rw [if_neg hk]
      simp only [hk, and_false, if_false, Nat.zero_add]
      exact ih
theorem won_cons {r : R} {h : List R} (t : Int) : won (r :: h) t = ((r.txn == t && r.kind == 2) || won h t) := by
  unfold won
  simp only [cnt]
  by_cases hk : r.kind = 2 <;> by_cases ht : r.txn = t <;> simp [hk, ht]
  omega
def C9.set (x : C9) (p c v : Int) : C9 :=
  if p = 0 then (if c = 0 then { x with a0 := v } else if c = 1 then { x with a1 := v } else { x with a2 := v })
  else if p = 1 then (if c = 0 then { x with b0 := v } else if c = 1 then { x with b1 := v } else { x with b2 := v })
  else (if c = 0 then { x with c0 := v } else if c = 1 then { x with c1 := v } else { x with c2 := v })
def C9.at (x : C9) (p c : Int) : Int :=
  if p = 0 then (if c = 0 then x.a0 else if c = 1 then x.a1 else x.a2)
  else if p = 1 then (if c = 0 then x.b0 else if c = 1 then x.b1 else x.b2)
  else (if c = 0 then x.c0 else if c = 1 then x.c1 else x.c2)
theorem C9.at_set (x : C9) {p c : Int} (hp : 0 ≤ p ∧ p ≤ 2) (hc : 0 ≤ c ∧ c ≤ 2) (v : Int) {p' c' : Int} (hp' : 0 ≤ p' ∧ p' ≤ 2) (hc' : 0 ≤ c' ∧ c' ≤ 2) : (x.set p c v).at p' c' = if p' = p ∧ c' = c then v else x.at p' c' := by
  have h1 : p = 0 ∨ p = 1 ∨ p = 2 := by omega
  have h2 : c = 0 ∨ c = 1 ∨ c = 2 := by omega
  have h3 : p' = 0 ∨ p' = 1 ∨ p' = 2 := by omega
  have h4 : c' = 0 ∨ c' = 1 ∨ c' = 2 := by omega
  rcases h1 with rfl | rfl | rfl <;> rcases h2 with rfl | rfl | rfl <;> rcases h3 with rfl | rfl | rfl <;> rcases h4 with rfl | rfl | rfl <;> rfl
theorem C9.ext_at {x y : C9} (h : ∀ p c, 0 ≤ p ∧ p ≤ 2 → 0 ≤ c ∧ c ≤ 2 → x.at p c = y.at p c) : x = y := by
  obtain ⟨x0, x1, x2, x3, x4, x5, x6, x7, x8⟩ := x
  obtain ⟨y0, y1, y2, y3, y4, y5, y6, y7, y8⟩ := y
  have h00 : x0 = y0 := h 0 0 (by omega) (by omega)
  have h01 : x1 = y1 := h 0 1 (by omega) (by omega)
  have h02 : x2 = y2 := h 0 2 (by omega) (by omega)
  have h10 : x3 = y3 := h 1 0 (by omega) (by omega)
  have h11 : x4 = y4 := h 1 1 (by omega) (by omega)
  have h12 : x5 = y5 := h 1 2 (by omega) (by omega)
  have h20 : x6 = y6 := h 2 0 (by omega) (by omega)
  have h21 : x7 = y7 := h 2 1 (by omega) (by omega)
  have h22 : x8 = y8 := h 2 2 (by omega) (by omega)
  subst h00 h01 h02 h10 h11 h12 h20 h21 h22
  rfl
/-- The cells that those who are f have written. -/
def cellsW (f : Int → Bool) : List R → C9
  | [] => C9.zero
  | r :: h => if r.kind = 1 ∧ f r.txn = true then (cellsW f h).set r.page r.cell r.new else cellsW f h
/-- What must be. -/
def cellsH (h : List R) : C9 := cellsW (won h) h
theorem cellsW_congr {f g : Int → Bool} : ∀ {h : List R}, (∀ r ∈ h, r.kind = 1 → f r.txn = g r.txn) → cellsW f h = cellsW g h
  | [], _ => rfl
  | r :: h, hh => by
    have ih := cellsW_congr (f := f) (g := g) (h := h) fun x hx => hh x (List.mem_cons_of_mem _ hx)
    simp only [cellsW, ih]
    by_cases hk : r.kind = 1
    · rw [hh r (List.Mem.head _) hk]
    · simp [hk]
theorem must_cons {h : List R} {r : R} (hk : r.kind ≠ 1) (hk2 : r.kind ≠ 2) : cellsH (r :: h) = cellsH h := by
  unfold cellsH
  have e : won (r :: h) = won h := funext fun t => by rw [won_cons]; simp [hk2]
  rw [e]
  simp [cellsW, hk]
theorem write_open {h : List R} {r : R} (hr : Right (r :: h)) (hk : r.kind = 1) : won h r.txn = false ∧ (stt h r.txn = 0 ∨ stt h r.txn = 1) := by
  obtain ⟨h1, h2, h3⟩ := hr.parts
  obtain ⟨_, f1, f2, f3⟩ := follows_st h3
  obtain ⟨c1, c2, c3⟩ := stt_cnt (h := h) (t := r.txn)
  have n2 : stt h r.txn ≠ 2 := fun e => by have := f2 e; omega
  have n3 : stt h r.txn ≠ 3 := fun e => by have := f3 e; omega
  have := stt_le4 h r.txn
  refine ⟨?_, by omega⟩
  unfold won
  rw [c2 f1 n2]
  rfl
theorem must_write {h : List R} {r : R} (hr : Right (r :: h)) (hk : r.kind = 1) : cellsH (r :: h) = cellsH h := by
  have hw := (write_open hr hk).1
  unfold cellsH
  have e : won (r :: h) = won h := funext fun t => by rw [won_cons]; simp [hk]
  rw [e]
  simp [cellsW, hw]
/-- Only a Commit turns what must be. -/
theorem must_same {h : List R} {r : R} (hr : Right (r :: h)) (hk : r.kind ≠ 2) : cellsH (r :: h) = cellsH h := by
  by_cases h1 : r.kind = 1
  · exact must_write hr h1
  · exact must_cons h1 hk
theorem wins_same {h : List R} {r : R} (hk : r.kind ≠ 2) : winsH (r :: h) = winsH h := by simp [winsH, hk]
/-! ### The newest Write of a cell -/
def isW (p c : Int) (x : R) : Bool := x.kind == 1 && inCell p c x
theorem newest_hold : ∀ {h : List R}, Right h → ∀ {t p c : Int}, stt h t ≠ 4 → (sta h t).any (inCell p c) = true → ∃ x, h.find? (isW p c) = some x ∧ x.txn = t
  | [], _, t, p, c, _, ha => by simp [sta] at ha
  | r :: h, hr, t, p, c, h4, ha => by
    obtain ⟨h1, h2, h3⟩ := hr.parts
    have hb := rec_bounds h2
    have h4' : stt h t ≠ 4 := fun e => by have := (stt_step hr t).1; have := stt_le4 (r :: h) t; omega
    have ih := newest_hold h1 (t := t) (p := p) (c := c) h4'
    rw [List.find?_cons]
    cases hw : isW p c r
    · simp only
      refine ih ?_
      by_cases ht : r.txn = t
      · by_cases hk : r.kind = 1
        · simp only [sta, ht, hk, if_true, List.any_cons] at ha
          have : inCell p c r = false := by simpa [isW, hk] using hw
          rw [this] at ha
          simpa using ha
        · simp only [sta, ht, hk, if_true, if_false] at ha
          split at ha
          · obtain ⟨x, hx, hc⟩ := List.any_eq_true.1 ha
            exact List.any_eq_true.2 ⟨x, List.mem_of_mem_tail hx, hc⟩
          · exact ha
      · simpa [sta, ht] using ha
    · refine ⟨r, rfl, ?_⟩
      by_cases ht : r.txn = t
      · exact ht
      · exfalso
        have hk : r.kind = 1 ∧ inCell p c r = true := by simpa [isW] using hw
        obtain ⟨hk, hin⟩ := hk
        have hpc : r.page = p ∧ r.cell = c := by simpa [inCell] using hin
        obtain ⟨rfl, rfl⟩ := hpc
        have ha' : (sta h t).any (inCell r.page r.cell) = true := by simpa [sta, ht] using ha
        have o1 := (h1.own r.page r.cell).2 t
        rw [holds_sta h1 h4'] at o1
        obtain ⟨o2, o3⟩ := o1.1 ha'
        have := own_free h1 (t := r.txn) (p := r.page) (c := r.cell) ⟨by omega, by omega⟩
        rw [(write_fit h3 hk).2, o2] at this
        simp at this
        rcases this with h | h
        · exact o3 h
        · exact ht h.symm
theorem cellsW_newest {f : Int → Bool} : ∀ {h : List R}, InR h → ∀ {p c : Int} {x : R}, 0 ≤ p ∧ p ≤ 2 → 0 ≤ c ∧ c ≤ 2 → h.find? (isW p c) = some x → f x.txn = true → (cellsW f h).at p c = x.new
  | [], _, _, _, _, _, _, hx, _ => by cases hx
  | r :: h, hin, p, c, x, hp, hc, hx, hf => by
    have ih := cellsW_newest (f := f) (h := h) (fun y hy => hin y (List.mem_cons_of_mem _ hy)) (p := p) (c := c) (x := x) hp hc
    rw [List.find?_cons] at hx
    cases hw : isW p c r
    · rw [hw] at hx
      have ih := ih hx hf
      simp only [cellsW]
      split
      · rename_i hk
        obtain ⟨b1, b2⟩ := hin r (List.Mem.head _) (by simp [R.turns, hk.1])
        rw [C9.at_set _ b1 b2 _ hp hc, if_neg, ih]
        rintro ⟨rfl, rfl⟩
        simp [isW, inCell, hk.1] at hw
      · exact ih
    · rw [hw] at hx
      obtain rfl := Option.some.inj hx
      have hk : r.kind = 1 ∧ inCell p c r = true := by simpa [isW] using hw
      obtain ⟨hk, hic⟩ := hk
      have hpc : r.page = p ∧ r.cell = c := by simpa [inCell] using hic
      obtain ⟨rfl, rfl⟩ := hpc
      simp only [cellsW, hk, hf, and_self, if_true]
      rw [C9.at_set _ hp hc _ hp hc, if_pos ⟨rfl, rfl⟩]
theorem cellsW_none {f g : Int → Bool} {t : Int} (hfg : ∀ u, u ≠ t → f u = g u) : ∀ {h : List R}, InR h → ∀ {p c : Int}, 0 ≤ p ∧ p ≤ 2 → 0 ≤ c ∧ c ≤ 2 → (∀ x ∈ h, x.txn = t → x.kind = 1 → inCell p c x = false) → (cellsW f h).at p c = (cellsW g h).at p c
  | [], _, _, _, _, _, _ => rfl
  | r :: h, hin, p, c, hp, hc, hn => by
    have ih := cellsW_none hfg (h := h) (fun y hy => hin y (List.mem_cons_of_mem _ hy)) hp hc (fun x hx => hn x (List.mem_cons_of_mem _ hx))
    by_cases hk : r.kind = 1
    · obtain ⟨b1, b2⟩ := hin r (List.Mem.head _) (by simp [R.turns, hk])
      have key : ∀ k : Int → Bool, (cellsW k (r :: h)).at p c = if k r.txn = true ∧ inCell p c r = true then r.new else (cellsW k h).at p c := fun k => by
        simp only [cellsW, hk, true_and]
        by_cases hkk : k r.txn = true
        · rw [if_pos hkk, C9.at_set _ b1 b2 _ hp hc]
          by_cases he : inCell p c r = true
          · have : r.page = p ∧ r.cell = c := by simpa [inCell] using he
            rw [if_pos ⟨this.1.symm, this.2.symm⟩, if_pos ⟨hkk, he⟩]
          · rw [if_neg (fun e => he (by simp [inCell, e.1, e.2])), if_neg (fun e => he e.2)]
        · rw [if_neg hkk, if_neg (fun e => hkk e.1)]
      rw [key f, key g, ih]
      by_cases ht : r.txn = t
      · have := hn r (List.Mem.head _) ht hk
        simp [this]
      · rw [hfg _ ht]
    · simp only [cellsW, hk, false_and, if_false]
      exact ih
/-- While a Txn has taken nothing back, all that it has written stands. -/
theorem sta_all : ∀ {h : List R} {t : Int}, cnt h t 3 = 0 → ∀ x ∈ h, x.txn = t → x.kind = 1 → x ∈ sta h t
  | [], _, _, x, hx, _, _ => by cases hx
  | r :: h, t, h0, x, hx, ht, hk => by
    have h3 : ¬(r.txn = t ∧ r.kind = 3) ∧ cnt h t 3 = 0 := by
      simp only [cnt] at h0
      split at h0
      · omega
      · exact ⟨by assumption, by omega⟩
    rcases List.mem_cons.1 hx with rfl | hx
    · simp [sta, ht, hk]
    · have ih := sta_all h3.2 x hx ht hk
      simp only [sta]
      split
      · rename_i hrt
        split
        · exact List.mem_cons_of_mem _ ih
        · rw [if_neg (fun e => h3.1 ⟨hrt, e⟩)]
          exact ih
      · exact ih
/-! ### The pages and what must be -/
def hangs (h : List R) (t : Int) : Prop := stt h t = 1 ∨ stt h t = 3
/-- The cell is what must be; or one that hangs holds it, and its Writes lead back to what must be. -/
structure Cur (h : List R) (p c : Int) : Prop where
  held : ∀ t, hangs h t → (sta h t).any (inCell p c) = true → chain (cellOf h p c) ((sta h t).filter (inCell p c)) ((cellsH h).at p c)
  free : (∀ t, hangs h t → (sta h t).any (inCell p c) = false) → cellOf h p c = (cellsH h).at p c
theorem hangs4 {h : List R} {t : Int} (x : hangs h t) : stt h t ≠ 4 := by rcases x with x | x <;> omega
theorem stt_other {h : List R} {r : R} {t : Int} (ht : r.txn ≠ t) : stt (r :: h) t = stt h t := by
  have e1 : lastN (r :: h) t = lastN h t := by simp [lastN, ht]
  have e2 : ∀ k, cnt (r :: h) t k = cnt h t k := fun k => by simp [cnt, ht]
  unfold stt
  rw [e1, e2, e2, e2]
theorem sta_other {h : List R} {r : R} {t : Int} (ht : r.txn ≠ t) : sta (r :: h) t = sta h t := by simp [sta, ht]
theorem filter_none {l : List R} {p c : Int} (h : l.any (inCell p c) = false) : l.filter (inCell p c) = [] := List.filter_eq_nil_iff.2 fun x hx => by
  have := List.any_eq_false.1 h x hx
  simpa using this
theorem cell_out {h : List R} {r : R} (hr : Right (r :: h)) {p c : Int} (hp : 0 ≤ p ∧ p ≤ 2) (hc : 0 ≤ c ∧ c ≤ 2) (hn : r.turns = true → inCell p c r = false) : cellOf (r :: h) p c = cellOf h p c := by
  cases ht : r.turns
  · exact cell_stay ht p c
  · obtain ⟨b1, b2, _, _⟩ := (rec_bounds hr.parts.2.1).2.2.2.2.2.2.2.2.1 ht
    rw [cell_turn ht b1 b2 hp hc, hn ht]
    rfl
theorem alone_in {h : List R} (hr : Right h) {t u : Int} (ht : stt h t ≠ 4) (hu : stt h u ≠ 4) {p c : Int} (h1 : (sta h t).any (inCell p c) = true) (h2 : (sta h u).any (inCell p c) = true) : t = u := by
  obtain ⟨x, hx, e1⟩ := List.any_eq_true.1 h1
  obtain ⟨y, hy, e2⟩ := List.any_eq_true.1 h2
  simp [inCell] at e1 e2
  exact alone hr ht hu hx hy (e1.1.trans e2.1.symm) (e1.2.trans e2.2.symm)
theorem cur_all : ∀ {h : List R}, Right h → ∀ {p c : Int}, 0 ≤ p ∧ p ≤ 2 → 0 ≤ c ∧ c ≤ 2 → Cur h p c
  | [], _, p, c, hp, hc => by
    refine ⟨fun t h => by rcases h with h | h <;> simp [stt, lastN] at h, fun _ => ?_⟩
    have h1 : p = 0 ∨ p = 1 ∨ p = 2 := by omega
    have h2 : c = 0 ∨ c = 1 ∨ c = 2 := by omega
    rcases h1 with rfl | rfl | rfl <;> rcases h2 with rfl | rfl | rfl <;> rfl
  | r :: h, hr, p, c, hp, hc => by
    obtain ⟨h1, h2, h3⟩ := hr.parts
    have hb := rec_bounds h2
    have ih := cur_all h1 hp hc
    have hk : r.kind = 1 ∨ r.kind = 2 ∨ r.kind = 3 ∨ r.kind = 4 := by omega
    obtain ⟨_, f1, f2, f3⟩ := follows_st h3
    have hsc := stt_cons hr
    have hle := stt_le4 h r.txn
    rcases hk with hk | hk | hk | hk
    · -- Write
      have hm := must_write hr hk
      obtain ⟨_, hs⟩ := write_open hr hk
      have htu : r.turns = true := by simp [R.turns, hk]
      obtain ⟨b1, b2, _, _⟩ := hb.2.2.2.2.2.2.2.2.1 htu
      have es : sta (r :: h) r.txn = r :: sta h r.txn := by simp [sta, hk]
      have hs1 : stt (r :: h) r.txn = 1 := by omega
      have ho : ∀ t, r.txn ≠ t → (hangs (r :: h) t ↔ hangs h t) := fun t ht => by unfold hangs; rw [stt_other ht]
      cases hin : inCell p c r
      · have hcell := cell_out hr hp hc (fun _ => hin)
        have hsta : ∀ t, (sta (r :: h) t).any (inCell p c) = (sta h t).any (inCell p c) ∧ (sta (r :: h) t).filter (inCell p c) = (sta h t).filter (inCell p c) := fun t => by
          by_cases ht : r.txn = t
          · subst ht; rw [es]; simp [hin]
          · rw [sta_other ht]; exact ⟨rfl, rfl⟩
        have hs0 : stt h r.txn = 0 → sta h r.txn = [] := fun e => by rw [sta_ups h1, ups_none e]; rfl
        refine ⟨fun t ht ha => ?_, fun hf => ?_⟩
        · rw [(hsta t).1] at ha
          rw [(hsta t).2, hcell, hm]
          by_cases et : r.txn = t
          · subst et
            rcases hs with hs | hs
            · rw [hs0 hs] at ha; simp at ha
            · exact ih.held _ (.inl hs) ha
          · exact ih.held t ((ho t et).1 ht) ha
        · rw [hcell, hm]
          refine ih.free fun t ht => ?_
          rw [← (hsta t).1]
          by_cases et : r.txn = t
          · subst et; exact hf _ (.inl hs1)
          · exact hf t ((ho t et).2 ht)
      · have hpc : r.page = p ∧ r.cell = c := by simpa [inCell] using hin
        obtain ⟨rfl, rfl⟩ := hpc
        obtain ⟨w1, w2⟩ := write_fit h3 hk
        have hother : ∀ u, u ≠ r.txn → stt h u ≠ 4 → (sta h u).any (inCell r.page r.cell) = false := fun u hu h4 => by
          cases ha : (sta h u).any (inCell r.page r.cell)
          · rfl
          · exfalso
            have o1 := (h1.own r.page r.cell).2 u
            rw [holds_sta h1 h4] at o1
            obtain ⟨o2, o3⟩ := o1.1 ha
            have := own_free h1 (t := r.txn) (p := r.page) (c := r.cell) ⟨by omega, by omega⟩
            rw [w2, o2] at this
            simp at this
            rcases this with h | h
            · exact o3 h
            · exact hu h
        have hnew : cellOf (r :: h) r.page r.cell = r.new := by rw [cell_turn htu b1 b2 hp hc, hin]; rfl
        have hself : chain (cellOf (r :: h) r.page r.cell) ((sta (r :: h) r.txn).filter (inCell r.page r.cell)) ((cellsH (r :: h)).at r.page r.cell) := by
          rw [hnew, hm, es, List.filter_cons, hin]
          refine ⟨rfl, ?_⟩
          rw [w1]
          have hfree : (sta h r.txn).any (inCell r.page r.cell) = false → chain (cellOf h r.page r.cell) ((sta h r.txn).filter (inCell r.page r.cell)) ((cellsH h).at r.page r.cell) := fun ha => by
            rw [filter_none ha]
            refine ih.free fun t ht => ?_
            by_cases et : r.txn = t
            · subst et; exact ha
            · exact hother t (fun e => et e.symm) (hangs4 ht)
          cases ha : (sta h r.txn).any (inCell r.page r.cell)
          · exact hfree ha
          · rcases hs with hs | hs
            · exfalso
              rw [sta_ups h1, ups_none hs] at ha
              simp at ha
            · exact ih.held _ (.inl hs) ha
        refine ⟨fun t ht ha => ?_, fun hf => ?_⟩
        · by_cases et : r.txn = t
          · subst et; exact hself
          · exfalso
            rw [sta_other et, hother t (fun e => et e.symm) (hangs4 ((ho t et).1 ht))] at ha
            cases ha
        · have := hf r.txn (.inl hs1)
          rw [es, List.any_cons, hin] at this
          simp at this
    · -- Commit
      have htu : r.turns = false := by simp [R.turns, hk]
      have es : ∀ t, sta (r :: h) t = sta h t := fun t => by simp [sta, hk]
      have hs : stt h r.txn = 1 ∨ stt h r.txn = 0 := by
        have n2 : stt h r.txn ≠ 2 := fun e => by have := f2 e; omega
        have n3 : stt h r.txn ≠ 3 := fun e => by have := f3 e; omega
        omega
      have hs2 : stt (r :: h) r.txn = 2 := by omega
      have c3 : cnt h r.txn 3 = 0 := (stt_cnt (h := h) (t := r.txn)).2.2 f1 (by omega) (by omega)
      have ho : ∀ t, r.txn ≠ t → (hangs (r :: h) t ↔ hangs h t) := fun t ht => by unfold hangs; rw [stt_other ht]
      have hcell := cell_stay (h := h) htu p c
      have hcw : cellsH (r :: h) = cellsW (won (r :: h)) h := by unfold cellsH; simp [cellsW, hk]
      have hwo : ∀ u, u ≠ r.txn → won (r :: h) u = won h u := fun u hu => by
        rw [won_cons]
        have : ¬ r.txn = u := fun e => hu e.symm
        simp [this]
      have hwt : won (r :: h) r.txn = true := by rw [won_cons]; simp [hk]
      cases ha : (sta h r.txn).any (inCell p c)
      · have hm : (cellsH (r :: h)).at p c = (cellsH h).at p c := by
          rw [hcw]
          refine cellsW_none hwo h1.inR hp hc fun x hx e1 e2 => ?_
          have := List.any_eq_false.1 ha x (sta_all c3 x hx e1 e2)
          simpa using this
        refine ⟨fun t ht hat => ?_, fun hf => ?_⟩
        · rw [es] at hat
          rw [es, hcell, hm]
          by_cases et : r.txn = t
          · subst et; rw [ha] at hat; cases hat
          · exact ih.held t ((ho t et).1 ht) hat
        · rw [hcell, hm]
          refine ih.free fun t ht => ?_
          by_cases et : r.txn = t
          · subst et; exact ha
          · rw [← es]; exact hf t ((ho t et).2 ht)
      · have hs1 : stt h r.txn = 1 := by
          rcases hs with hs | hs
          · exact hs
          · rw [sta_ups h1, ups_none hs] at ha; simp at ha
        obtain ⟨x, hx, hxt⟩ := newest_hold h1 f1 ha
        have hch := ih.held r.txn (.inl hs1) ha
        have hm : (cellsH (r :: h)).at p c = x.new := by
          rw [hcw]
          exact cellsW_newest h1.inR hp hc hx (by rw [hxt]; exact hwt)
        have htop : cellOf h p c = x.new := by
          obtain ⟨y, ys, hy⟩ : ∃ y ys, (sta h r.txn).filter (inCell p c) = y :: ys := by
            cases hfl : (sta h r.txn).filter (inCell p c) with
            | nil =>
              obtain ⟨z, hz, hzc⟩ := List.any_eq_true.1 ha
              exact absurd (List.mem_filter.2 ⟨hz, hzc⟩) (by rw [hfl]; simp)
            | cons y ys => exact ⟨y, ys, rfl⟩
          rw [hy] at hch
          have key : ∀ {h : List R} {x : R}, cnt h r.txn 3 = 0 → h.find? (isW p c) = some x → x.txn = r.txn → ∃ zs, (sta h r.txn).filter (inCell p c) = x :: zs := by
            intro h
            induction h with
            | nil => intro x _ hx _; cases hx
            | cons z h ihh =>
              intro x h0 hx ht
              have h3 : ¬(z.txn = r.txn ∧ z.kind = 3) ∧ cnt h r.txn 3 = 0 := by
                simp only [cnt] at h0
                split at h0
                · omega
                · exact ⟨by assumption, by omega⟩
              rw [List.find?_cons] at hx
              cases hw : isW p c z
              · rw [hw] at hx
                obtain ⟨zs, hzs⟩ := ihh h3.2 hx ht
                refine ⟨zs, ?_⟩
                simp only [sta]
                split
                · rename_i hzt
                  split
                  · rename_i hzk
                    have : inCell p c z = false := by simpa [isW, hzk] using hw
                    rw [List.filter_cons, this]
                    exact hzs
                  · rw [if_neg (fun e => h3.1 ⟨hzt, e⟩)]
                    exact hzs
                · exact hzs
              · rw [hw] at hx
                obtain rfl := Option.some.inj hx
                have hzk : z.kind = 1 ∧ inCell p c z = true := by simpa [isW] using hw
                refine ⟨(sta h r.txn).filter (inCell p c), ?_⟩
                simp only [sta, ht, hzk.1, if_true, List.filter_cons, hzk.2]
          obtain ⟨zs, hzs⟩ := key c3 hx hxt
          rw [hy] at hzs
          injection hzs with e1 e2
          rw [← e1]
          exact hch.1.symm
        refine ⟨fun t ht hat => ?_, fun hf => ?_⟩
        · exfalso
          rw [es] at hat
          have et : r.txn ≠ t := fun e => by
            subst e
            rcases ht with ht | ht <;> omega
          exact et (alone_in h1 f1 (hangs4 ((ho t et).1 ht)) ha hat)
        · rw [hcell, hm, htop]
    · -- Back
      have hm := must_cons (h := h) (r := r) (by omega) (by omega)
      have htu : r.turns = true := by simp [R.turns, hk]
      obtain ⟨b1, b2, _, _⟩ := hb.2.2.2.2.2.2.2.2.1 htu
      obtain ⟨y, ys, hy, e1, e2, e3, e4⟩ := back_top hr hk
      have es : sta (r :: h) r.txn = ys := by simp [sta, hk, hy]
      have hs3 : stt (r :: h) r.txn = 3 := by omega
      have hsh : hangs h r.txn := by
        have n2 : stt h r.txn ≠ 2 := fun e => by have := f2 e; omega
        have n0 : stt h r.txn ≠ 0 := fun e => by rw [sta_ups h1, ups_none e] at hy; simp at hy
        unfold hangs
        omega
      have ho : ∀ t, r.txn ≠ t → (hangs (r :: h) t ↔ hangs h t) := fun t ht => by unfold hangs; rw [stt_other ht]
      have hic : inCell p c r = inCell p c y := by simp [inCell, e1, e2]
      cases hin : inCell p c r
      · have hcell := cell_out hr hp hc (fun _ => hin)
        rw [hin] at hic
        have hsta : ∀ t, (sta (r :: h) t).any (inCell p c) = (sta h t).any (inCell p c) ∧ (sta (r :: h) t).filter (inCell p c) = (sta h t).filter (inCell p c) := fun t => by
          by_cases ht : r.txn = t
          · subst ht; rw [es, hy, List.any_cons, List.filter_cons, ← hic]; simp
          · rw [sta_other ht]; exact ⟨rfl, rfl⟩
        refine ⟨fun t ht ha => ?_, fun hf => ?_⟩
        · rw [(hsta t).1] at ha
          rw [(hsta t).2, hcell, hm]
          by_cases et : r.txn = t
          · subst et; exact ih.held _ hsh ha
          · exact ih.held t ((ho t et).1 ht) ha
        · rw [hcell, hm]
          refine ih.free fun t ht => ?_
          rw [← (hsta t).1]
          by_cases et : r.txn = t
          · subst et; exact hf _ (.inr hs3)
          · exact hf t ((ho t et).2 ht)
      · rw [hin] at hic
        have ha : (sta h r.txn).any (inCell p c) = true := by rw [hy, List.any_cons, ← hic]; rfl
        have hch := ih.held r.txn hsh ha
        rw [hy, List.filter_cons, ← hic] at hch
        have hnew : cellOf (r :: h) p c = r.new := by rw [cell_turn htu b1 b2 hp hc, hin]; rfl
        have hself : chain (cellOf (r :: h) p c) (ys.filter (inCell p c)) ((cellsH (r :: h)).at p c) := by
          rw [hnew, hm, e3]
          exact hch.2
        refine ⟨fun t ht hat => ?_, fun hf => ?_⟩
        · by_cases et : r.txn = t
          · subst et; rw [es]; exact hself
          · exfalso
            rw [sta_other et] at hat
            exact et (alone_in h1 f1 (hangs4 ((ho t et).1 ht)) ha hat)
        · have := hf r.txn (.inr hs3)
          rw [es] at this
          rw [filter_none this] at hself
          exact hself
    · -- End
      have hm := must_cons (h := h) (r := r) (by omega) (by omega)
      have htu : r.turns = false := by simp [R.turns, hk]
      have es : ∀ t, sta (r :: h) t = sta h t := fun t => by simp [sta, hk]
      have hcell := cell_stay (h := h) htu p c
      have ho : ∀ t, r.txn ≠ t → (hangs (r :: h) t ↔ hangs h t) := fun t ht => by unfold hangs; rw [stt_other ht]
      have hs4 : stt (r :: h) r.txn = 4 := by omega
      have hnone : hangs h r.txn → (sta h r.txn).any (inCell p c) = false := fun hh => by
        have hfo := h3
        unfold follows at hfo
        split at hfo
        · cases hfo
        · rw [if_neg (by omega), if_neg (by omega)] at hfo
          rw [if_neg (by omega)] at hfo
          simp only [Bool.or_eq_true, Bool.and_eq_true, beq_iff_eq] at hfo
          rcases hfo with h2 | ⟨h3, h4⟩
          · unfold hangs at hh; omega
          · have : ups h r.txn = [] := by simpa using h4
            rw [sta_ups h1, this]
            rfl
      refine ⟨fun t ht ha => ?_, fun hf => ?_⟩
      · rw [es] at ha
        rw [es, hcell, hm]
        by_cases et : r.txn = t
        · subst et; unfold hangs at ht; omega
        · exact ih.held t ((ho t et).1 ht) ha
      · rw [hcell, hm]
        refine ih.free fun t ht => ?_
        by_cases et : r.txn = t
        · subst et; exact hnone ht
        · rw [← es]; exact hf t ((ho t et).2 ht)
def P3.cells9 (p : P3) : C9 := ⟨p.p0.c0, p.p0.c1, p.p0.c2, p.p1.c0, p.p1.c1, p.p1.c2, p.p2.c0, p.p2.c1, p.p2.c2⟩
theorem cells9_at (h : List R) {p c : Int} (hp : 0 ≤ p ∧ p ≤ 2) (hc : 0 ≤ c ∧ c ≤ 2) : (pagesOf h).cells9.at p c = cellOf h p c := by
  have h1 : p = 0 ∨ p = 1 ∨ p = 2 := by omega
  have h2 : c = 0 ∨ c = 1 ∨ c = 2 := by omega
  rcases h1 with rfl | rfl | rfl <;> rcases h2 with rfl | rfl | rfl <;> rfl
theorem stt_out {h : List R} (hr : Right h) {t : Int} (ht : ¬ (1 ≤ t ∧ t ≤ 9)) : stt h t = 0 := by
  have : lastN h t = 0 := by
    induction h with
    | nil => rfl
    | cons r h ih =>
      obtain ⟨h1, h2, _⟩ := hr.parts
      have hb := rec_bounds h2
      have : r.txn ≠ t := fun e => by omega
      simp only [lastN, this, if_false]
      exact ih h1
  simp [stt, this]
/-- If no Txn hangs, the pages are what must be. -/
theorem model_true {h : List R} (hr : Right h) (hn : ∀ t, 1 ≤ t ∧ t ≤ 9 → ¬ hangs h t) : (pagesOf h).cells9 = cellsH h := by
  refine C9.ext_at fun p c hp hc => ?_
  rw [cells9_at h hp hc]
  refine (cur_all hr hp hc).free fun t ht => ?_
  by_cases h9 : 1 ≤ t ∧ t ≤ 9
  · exact absurd ht (hn t h9)
  · have := stt_out hr h9
    rcases ht with ht | ht <;> omega
end Go.Proofs.Ytdbcimadjmdffaa
