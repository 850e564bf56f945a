/- Mending as plain Lean: half of it and then all; how many records it puts; what it leaves. No condition. -/
import Derived.Test.YtdbcimadjmdffaaMe
set_option linter.unusedVariables false
set_option linter.unusedSimpArgs false
set_option linter.unusedSectionVars false
namespace Go.Proofs.Ytdbcimadjmdffaa
/-- So many records are put. -/
def mendN : Nat → List R → Option (List R)
  | 0, h => some h
  | k + 1, h => match nextH h with
    | none => none
    | some r => mendN k (r :: h)
theorem mendN_one {k : Nat} {h h' : List R} (e : mendN (k + 1) h = some h') : ∃ r, nextH h = some r ∧ mendN k (r :: h) = some h' := by
  unfold mendN at e
  split at e
  · cases e
  · rename_i r hr; exact ⟨r, hr, e⟩
theorem mendN_split : ∀ {a b : Nat} {h h2 : List R}, mendN (a + b) h = some h2 → ∃ h1, mendN a h = some h1 ∧ mendN b h1 = some h2
  | 0, b, h, h2, e => ⟨h, rfl, by rwa [Nat.zero_add] at e⟩
  | a + 1, b, h, h2, e => by
    rw [show a + 1 + b = (a + b) + 1 by omega] at e
    obtain ⟨r, hr, e⟩ := mendN_one e
    obtain ⟨h1, e1, e2⟩ := mendN_split e
    exact ⟨h1, by unfold mendN; rw [hr]; exact e1, e2⟩
theorem mendN_app : ∀ {a b : Nat} {h h1 h2 : List R}, mendN a h = some h1 → mendN b h1 = some h2 → mendN (a + b) h = some h2
  | 0, b, h, h1, h2, e1, e2 => by
    obtain rfl := Option.some.inj e1
    rwa [Nat.zero_add]
  | a + 1, b, h, h1, h2, e1, e2 => by
    obtain ⟨r, hr, e1⟩ := mendN_one e1
    rw [show a + 1 + b = (a + b) + 1 by omega]
    unfold mendN
    rw [hr]
    exact mendN_app e1 e2
theorem half_all {a b : Nat} {h h1 h2 : List R} (e1 : mendN a h = some h1) (e2 : mendN b h = some h2) (hn : nextH h2 = none) : a ≤ b ∧ mendN (b - a) h1 = some h2 := by
  rcases Nat.lt_or_ge b a with hl | hl
  · exfalso
    obtain ⟨c, rfl⟩ : ∃ c, a = b + (c + 1) := ⟨a - b - 1, by omega⟩
    obtain ⟨h3, f1, f2⟩ := mendN_split e1
    obtain rfl := Option.some.inj (f1.symm.trans e2)
    obtain ⟨r, hr, _⟩ := mendN_one f2
    rw [hn] at hr
    cases hr
  · refine ⟨hl, ?_⟩
    rw [show b = a + (b - a) by omega] at e2
    obtain ⟨h3, f1, f2⟩ := mendN_split e2
    obtain rfl := Option.some.inj (f1.symm.trans e1)
    exact f2
theorem mendGo_some : ∀ {f : Nat} {s : Int} {n : Nat} {h h' : List R} {m : Nat}, mendGo f s n h = some (h', m) → ∃ k, m = n + k ∧ mendN k h = some h' ∧ k < f ∧ ((m : Int) = s ∨ nextH h' = none)
  | 0, s, n, h, h', m, e => by cases e
  | f + 1, s, n, h, h', m, e => by
    unfold mendGo at e
    split at e
    · rename_i hs
      obtain ⟨rfl, rfl⟩ := Prod.mk.inj (Option.some.inj e)
      exact ⟨0, rfl, rfl, by omega, .inl hs⟩
    · split at e
      · rename_i hn
        obtain ⟨rfl, rfl⟩ := Prod.mk.inj (Option.some.inj e)
        exact ⟨0, rfl, rfl, by omega, .inr hn⟩
      · rename_i r hr
        obtain ⟨k, e1, e2, e3, e4⟩ := mendGo_some e
        exact ⟨k + 1, by omega, by unfold mendN; rw [hr]; exact e2, by omega, e4⟩
theorem mendGo_of : ∀ {k f : Nat} {s : Int} {n : Nat} {h h' : List R}, mendN k h = some h' → k < f → (∀ j, j < k → ((n + j : Nat) : Int) ≠ s) → (((n + k : Nat) : Int) = s ∨ nextH h' = none) → mendGo f s n h = some (h', n + k)
  | 0, f + 1, s, n, h, h', e, hf, hj, hs => by
    obtain rfl := Option.some.inj e
    exact mendGo_stop hs
  | k + 1, f + 1, s, n, h, h', e, hf, hj, hs => by
    obtain ⟨r, hr, e⟩ := mendN_one e
    rw [mendGo_step (f := f) (s := s) (n := n) (h := h) (by have := hj 0 (by omega); simpa using this) hr, mendGo_of (n := n + 1) e (by omega) (fun j hjk => by have := hj (j + 1) (by omega); rw [show n + 1 + j = n + (j + 1) by omega]; exact this) (by rw [show n + 1 + k = n + (k + 1) by omega]; exact hs)]
    congr 2
    omega
theorem next_kind {h : List R} {r : R} (hn : nextH h = some r) : r.kind = 3 ∨ r.kind = 4 := by
  unfold nextH at hn
  split at hn
  · obtain rfl := Option.some.inj hn
    exact .inr rfl
  · split at hn
    · cases hn
    · obtain rfl := Option.some.inj hn
      exact (undo_txn h _).2
theorem mendN_right : ∀ {k : Nat} {h h' : List R}, mendN k h = some h' → Right h → h.length + k ≤ 60 → Right h' ∧ h'.length = h.length + k ∧ cellsH h' = cellsH h ∧ winsH h' = winsH h ∧ ∃ g, h' = g ++ h
  | 0, h, h', e, hR, hl => by
    obtain rfl := Option.some.inj e
    exact ⟨hR, rfl, rfl, rfl, [], rfl⟩
  | k + 1, h, h', e, hR, hl => by
    obtain ⟨r, hr, e⟩ := mendN_one e
    obtain ⟨a, b, c, d, g, f⟩ := mendN_right e (next_right hR (by omega) hr) (by simp; omega)
    have hk := next_kind hr
    refine ⟨a, by rw [b]; simp; omega, c.trans (must_cons (by omega) (by omega)), d.trans (wins_same (by omega)), g ++ [r], by rw [f]; simp⟩
/-! ### How many -/
def hangW (h : List R) (t : Int) : Nat := if stt h t = 2 then 1 else if stt h t = 1 ∨ stt h t = 3 then (sta h t).length + 1 else 0
def hangN (h : List R) : Nat := (nine.map (hangW h)).sum
theorem sum_same {f g : Int → Nat} : ∀ {l : List Int}, (∀ u ∈ l, f u = g u) → (l.map f).sum = (l.map g).sum
  | [], _ => rfl
  | u :: l, h => by
    simp only [List.map_cons, List.sum_cons]
    rw [h u (List.Mem.head _), sum_same fun v hv => h v (List.mem_cons_of_mem _ hv)]
theorem sum_less {f g : Int → Nat} {t : Int} : ∀ {l : List Int}, l.Nodup → t ∈ l → (∀ u, u ≠ t → f u = g u) → f t = g t + 1 → (l.map f).sum = (l.map g).sum + 1
  | [], _, ht, _, _ => by cases ht
  | u :: l, hd, ht, ho, he => by
    obtain ⟨hd1, hd2⟩ := List.nodup_cons.1 hd
    simp only [List.map_cons, List.sum_cons]
    by_cases hu : u = t
    · subst hu
      rw [he, sum_same (f := f) (g := g) fun v hv => ho v fun e => hd1 (e ▸ hv)]
      omega
    · have hm : t ∈ l := (List.mem_cons.1 ht).resolve_left fun e => hu e.symm
      rw [ho u hu, sum_less hd2 hm ho he]
      omega
theorem nine_mem {t : Int} (ht : 1 ≤ t ∧ t ≤ 9) : t ∈ nine := by
  have : t = 1 ∨ t = 2 ∨ t = 3 ∨ t = 4 ∨ t = 5 ∨ t = 6 ∨ t = 7 ∨ t = 8 ∨ t = 9 := by omega
  unfold nine
  simp only [List.mem_cons, List.not_mem_nil, or_false]
  exact this
theorem nine_bnd {t : Int} (ht : t ∈ nine) : 1 ≤ t ∧ t ≤ 9 := by
  unfold nine at ht
  simp only [List.mem_cons, List.not_mem_nil, or_false] at ht
  omega
theorem next_less {h : List R} {r : R} (hR : Right h) (hl : h.length < 60) (hn : nextH h = some r) : hangN h = hangN (r :: h) + 1 := by
  have hr := next_right hR hl hn
  have key : ∀ t, r.txn = t → (1 ≤ t ∧ t ≤ 9) → hangW h t = hangW (r :: h) t + 1 → hangN h = hangN (r :: h) + 1 := fun t ht hb he =>
    sum_less (t := t) (by decide) (nine_mem hb) (fun u hu => by
      have hru : r.txn ≠ u := fun e => hu (e.symm.trans ht)
      unfold hangW
      rw [stt_other hru, sta_other hru]) he
  unfold nextH at hn
  split at hn
  · rename_i t ht
    obtain rfl := Option.some.inj hn
    have h2 : stt h t = 2 := by simpa using List.find?_some ht
    have hs := stt_cons hr
    simp only [enR] at hs
    refine key t rfl (nine_bnd (List.mem_of_find?_eq_some ht)) ?_
    unfold hangW
    rw [if_pos h2]
    have h4 : stt (enR t (lastN h t) :: h) t = 4 := by simp only [enR]; omega
    rw [h4]
    rfl
  · split at hn
    · cases hn
    · rename_i hb
      obtain rfl := Option.some.inj hn
      have hs := best_state hb
      have hbd := stt_bnd hR (t := bestH h) (by omega)
      obtain ⟨e1, e2⟩ := undo_txn h (bestH h)
      have hc := stt_cons hr
      rw [e1] at hc
      refine key (bestH h) e1 hbd ?_
      have ew : hangW h (bestH h) = (sta h (bestH h)).length + 1 := by
        unfold hangW
        rw [if_neg (by omega), if_pos hs]
      rw [ew]
      rcases e2 with e2 | e2
      · obtain ⟨x, xs, e3, _⟩ := back_top hr e2
        rw [e1] at e3
        have e4 : sta (undoB h (bestH h) :: h) (bestH h) = xs := by
          simp only [sta, e1, if_true, e2]
          rw [e3]
          rfl
        unfold hangW
        rw [if_neg (by omega), if_pos (by omega), e4, e3]
        rfl
      · have hu : sta h (bestH h) = [] := by
          have e5 := hR.up (bestH h)
          rw [if_neg (by omega)] at e5
          rw [sta_ups hR, ← e5]
          unfold undoB at e2
          cases hu : upB h (bestH h) with
          | nil => rfl
          | cons n us => rw [hu] at e2; simp [backOf] at e2
        unfold hangW
        rw [if_neg (by omega), if_neg (by omega), hu]
        rfl
theorem best_zero {h : List R} : ∀ {l : List Int} {b : Int}, (∀ t ∈ l, t ≠ 0) → bestGo h l b = 0 → b = 0 ∧ ∀ t ∈ l, ¬ hangs h t
  | [], b, _, e => ⟨e, fun t ht => by cases ht⟩
  | t :: l, b, h0, e => by
    simp only [bestGo] at e
    obtain ⟨e1, e2⟩ := best_zero (fun u hu => h0 u (List.mem_cons_of_mem _ hu)) e
    have ht := h0 t (List.Mem.head _)
    split at e1
    · exact absurd e1 ht
    · rename_i hh
      refine ⟨e1, fun u hu => ?_⟩
      rcases List.mem_cons.1 hu with rfl | hu
      · exact fun hx => hh ⟨hx, .inl e1⟩
      · exact e2 u hu
theorem next_none {h : List R} (hn : nextH h = none) : (∀ t, 1 ≤ t ∧ t ≤ 9 → ¬ hangs h t ∧ stt h t ≠ 2) ∧ hangN h = 0 ∧ losersH h = [] := by
  have key : ∀ t, 1 ≤ t ∧ t ≤ 9 → ¬ hangs h t ∧ stt h t ≠ 2 := by
    unfold nextH at hn
    split at hn
    · cases hn
    · rename_i hf
      split at hn
      · rename_i hb
        intro t ht
        have h1 := (best_zero (h := h) (l := nine) (b := 0) (by decide) hb).2 t (nine_mem ht)
        have h2 := List.find?_eq_none.1 hf t (nine_mem ht)
        exact ⟨h1, by simpa using h2⟩
      · cases hn
  refine ⟨key, ?_, ?_⟩
  · have : ∀ l : List Int, (∀ t ∈ l, t ∈ nine) → (l.map (hangW h)).sum = 0 := by
      intro l
      induction l with
      | nil => intro _; rfl
      | cons t l ih =>
        intro hl
        obtain ⟨k1, k2⟩ := key t (nine_bnd (hl t (List.Mem.head _)))
        simp only [List.map_cons, List.sum_cons]
        rw [ih fun u hu => hl u (List.mem_cons_of_mem _ hu)]
        unfold hangW
        rw [if_neg k2, if_neg (show ¬ (stt h t = 1 ∨ stt h t = 3) from k1)]
    exact this nine fun _ h => h
  · refine List.filter_eq_nil_iff.2 fun t ht => ?_
    have := (key t (nine_bnd ht)).1
    unfold hangs at this
    simp
    omega
theorem mendN_count : ∀ {k : Nat} {h h' : List R}, mendN k h = some h' → Right h → h.length + k ≤ 60 → hangN h = hangN h' + k
  | 0, h, h', e, hR, hl => by
    obtain rfl := Option.some.inj e
    rfl
  | k + 1, h, h', e, hR, hl => by
    obtain ⟨r, hr, e⟩ := mendN_one e
    have := mendN_count e (next_right hR (by omega) hr) (by simp; omega)
    have := next_less hR (by omega) hr
    omega
/-! ### Worlds -/
/-- What mending to this history leaves, these pages laid. -/
def Wd.mended (x : Wd) (a b c : Bool) (h : List R) : Wd := ⟨layIf c (pagesOf h) (layIf b (pagesOf h) (layIf a (pagesOf h) x.disk 0) 1) 2, h.reverse, h.length⟩
theorem mend_ok {x : Wd} {s : Int} {a b c : Bool} (h : (mendOf x s a b c).2.2 = 0) : worldErr x = 0 ∧ ∃ k h', mendN k x.cut.h = some h' ∧ x.cut.h.length + k ≤ 60 ∧ ((k : Int) = s ∨ nextH h' = none) ∧ mendOf x s a b c = (x.mended a b c h', (k : Int), 0) := by
  have e : mendOf x s a b c = mendOf x s a b c := rfl
  rw [mendOf] at h
  conv at e => rhs; rw [mendOf]
  split at h
  · rename_i h0
    rw [if_pos h0] at e
    refine ⟨h0, ?_⟩
    cases hm : mendGo (61 - x.cut.log.length) s 0 x.cut.h with
    | none => rw [hm] at h; simp at h
    | some p =>
      obtain ⟨h', m⟩ := p
      rw [hm] at e
      obtain ⟨k, e1, e2, e3, e4⟩ := mendGo_some hm
      rw [Nat.zero_add] at e1
      subst e1
      refine ⟨m, h', e2, by rw [hlen]; omega, e4, e⟩
  · rename_i h0
    exact absurd h h0
theorem cut_h_right {x : Wd} (h : worldErr x = 0) : Right x.cut.h ∧ x.cut.h.length ≤ 60 ∧ (x.cut.h.length : Int) = x.safe := by
  obtain ⟨_, h60, hR, _⟩ := world_right (cut_right h)
  exact ⟨hR, by rw [hlen]; exact h60, by rw [hlen]; exact cut_len h⟩
theorem mend_of {x : Wd} {s : Int} {a b c : Bool} {k : Nat} {h' : List R} (h : worldErr x = 0) (e : mendN k x.cut.h = some h') (hl : x.cut.h.length + k ≤ 60) (hj : ∀ j, j < k → (j : Int) ≠ s) (hs : (k : Int) = s ∨ nextH h' = none) : mendOf x s a b c = (x.mended a b c h', (k : Int), 0) := by
  have hg := mendGo_of (f := 61 - x.cut.log.length) (s := s) (n := 0) e (by rw [hlen] at hl; omega) (fun j hjk => by rw [Nat.zero_add]; exact hj j hjk) (by rw [Nat.zero_add]; exact hs)
  rw [Nat.zero_add] at hg
  unfold mendOf
  rw [if_pos h, hg]
  rfl
/-- A world at the end of its mending, its log safe, its pages not yet laid. -/
theorem mended_base {x : Wd} {k : Nat} {h' : List R} (h : worldErr x = 0) (e : mendN k x.cut.h = some h') (hl : x.cut.h.length + k ≤ 60) : worldErr ⟨x.disk, h'.reverse, h'.length⟩ = 0 := by
  obtain ⟨hR, _, hsf⟩ := cut_h_right h
  obtain ⟨a, b, _, _, g, f⟩ := mendN_right e hR hl
  have := world_app (cut_right h) (g := g) (by rw [← f]; exact a) (by rw [← f, b]; exact hl) (s := h'.length) ⟨by show x.safe ≤ _; rw [← hsf, b]; omega, by rw [← f]; exact Int.le_refl _⟩
  rw [← f] at this
  exact this
theorem lay_safe {x : Wd} (h : worldErr x = 0) (hs : x.safe = (x.log.length : Int)) (b : Bool) (p : Int) (hp : 0 ≤ p ∧ p ≤ 2) : worldErr ⟨layIf b (pagesOf x.h) x.disk p, x.log, x.safe⟩ = 0 := by
  cases b with
  | false => exact h
  | true =>
    have hR := (world_right h).2.2.1
    have hl := page_last hR p
    rw [hlen] at hl
    have := world_lay h hp
    unfold Wd.lay at this
    rw [show max x.safe ((pagesOf x.h).get p).last = x.safe by rw [Int.max_eq_left]; omega] at this
    exact this
theorem mended_right {x : Wd} {a b c : Bool} {k : Nat} {h' : List R} (h : worldErr x = 0) (e : mendN k x.cut.h = some h') (hl : x.cut.h.length + k ≤ 60) : worldErr (x.mended a b c h') = 0 := by
  have hh : ∀ (d : P3) (s : Int), (⟨d, h'.reverse, s⟩ : Wd).h = h' := fun d s => by simp [Wd.h]
  have h0 := mended_base h e hl
  have h1 := lay_safe h0 (by simp) a 0 (by omega)
  rw [hh] at h1
  have h2 := lay_safe h1 (by simp) b 1 (by omega)
  rw [hh] at h2
  have h3 := lay_safe h2 (by simp) c 2 (by omega)
  rw [hh] at h3
  exact h3
theorem mended_h (x : Wd) (a b c : Bool) (h : List R) : (x.mended a b c h).h = h := by simp [Wd.mended, Wd.h]
theorem mended_cut (x : Wd) (a b c : Bool) (h : List R) : (x.mended a b c h).cut = x.mended a b c h := by
  have e : h.reverse.take ((h.length : Int)).toNat = h.reverse := List.take_of_length_le (by simp)
  unfold Wd.cut Wd.mended
  dsimp only
  rw [e]
theorem lay_all (q d : P3) : layIf true q (layIf true q (layIf true q d 0) 1) 2 = q := by
  cases q; cases d
  rfl
theorem mended_all (x y : Wd) (h : List R) : x.mended true true true h = y.mended true true true h := by
  unfold Wd.mended
  rw [lay_all, lay_all]
/-- Half of it, and then all. -/
theorem mend_once {x : Wd} {s : Int} {a b c : Bool} (h1 : (mendOf x s a b c).2.2 = 0) (h2 : (mendOf x (-1) true true true).2.2 = 0) :
    worldErr (mendOf x s a b c).1 = 0 ∧ (mendOf (mendOf x s a b c).1 (-1) true true true).1 = (mendOf x (-1) true true true).1 ∧ (mendOf (mendOf x s a b c).1 (-1) true true true).2.2 = 0 ∧ (mendOf (mendOf x s a b c).1 (-1) true true true).2.1 ≤ (mendOf x (-1) true true true).2.1 := by
  obtain ⟨h0, k1, g1, e1, l1, s1, f1⟩ := mend_ok h1
  obtain ⟨_, k2, g2, e2, l2, s2, f2⟩ := mend_ok h2
  have hn : nextH g2 = none := s2.resolve_left (by omega)
  obtain ⟨hle, e3⟩ := half_all e1 e2 hn
  have hw := mended_right (a := a) (b := b) (c := c) h0 e1 l1
  have hlen1 := (mendN_right e1 (cut_h_right h0).1 l1).2.1
  rw [f1, f2]
  refine ⟨hw, ?_⟩
  have ec : (x.mended a b c g1).cut.h = g1 := by rw [mended_cut, mended_h]
  have := mend_of (s := -1) (a := true) (b := true) (c := true) hw (k := k2 - k1) (h' := g2) (by rw [ec]; exact e3) (by rw [ec, hlen1]; omega) (fun j _ => by omega) (.inr hn)
  rw [this]
  exact ⟨mended_all _ _ _, rfl, by dsimp only; omega⟩
/-- Where all of it can be mended, half of it can. -/
theorem mend_some {x : Wd} {s : Int} {a b c : Bool} (hs : 0 ≤ s) (h2 : (mendOf x (-1) true true true).2.2 = 0) : (mendOf x s a b c).2.2 = 0 := by
  obtain ⟨h0, k2, g2, e2, l2, s2, f2⟩ := mend_ok h2
  have hn : nextH g2 = none := s2.resolve_left (by omega)
  rcases Nat.lt_or_ge s.toNat k2 with hl | hl
  · rw [show k2 = s.toNat + (k2 - s.toNat) by omega] at e2
    obtain ⟨g1, e1, _⟩ := mendN_split e2
    rw [mend_of h0 e1 (by omega) (fun j hj => by omega) (.inl (by omega))]
  · rw [mend_of h0 e2 l2 (fun j hj => by omega) (.inr hn)]
/-- What it leaves. -/
theorem mend_true {x : Wd} (h : (mendOf x (-1) true true true).2.2 = 0) : worldErr x = 0 ∧ ∃ g, Right g ∧ g.length ≤ 60 ∧ nextH g = none ∧ (∃ k : Nat, (k : Int) = (mendOf x (-1) true true true).2.1 ∧ k = hangN x.cut.h ∧ (g.length : Int) = x.safe + k) ∧
    (mendOf x (-1) true true true).1 = ⟨pagesOf g, g.reverse, g.length⟩ ∧ worldErr ⟨pagesOf g, g.reverse, g.length⟩ = 0 ∧ (pagesOf g).cells9 = cellsH x.cut.h ∧ winsH g = winsH x.cut.h ∧ losersH g = [] ∧ mendOf ⟨pagesOf g, g.reverse, g.length⟩ (-1) true true true = (⟨pagesOf g, g.reverse, g.length⟩, 0, 0) ∧ ∃ g', g = g' ++ x.cut.h := by
  obtain ⟨h0, k, g, e, l, s, f⟩ := mend_ok h
  have hn : nextH g = none := s.resolve_left (by omega)
  obtain ⟨hR, h60, hsf⟩ := cut_h_right h0
  obtain ⟨a, b, c, d, g', eg⟩ := mendN_right e hR l
  obtain ⟨n1, n2, n3⟩ := next_none hn
  have hc := mendN_count e hR l
  have em : x.mended true true true g = ⟨pagesOf g, g.reverse, g.length⟩ := by unfold Wd.mended; rw [lay_all]
  have hw := mended_right (a := true) (b := true) (c := true) h0 e l
  rw [em] at hw
  have hcut : (⟨pagesOf g, g.reverse, g.length⟩ : Wd).cut.h = g := by rw [← em, mended_cut, mended_h]
  refine ⟨h0, g, a, by omega, hn, ⟨k, by rw [f], by omega, by rw [b]; omega⟩, by rw [f]; exact em, hw, ?_, d, n3, ?_, g', eg⟩
  · rw [model_true a fun t ht => (n1 t ht).1, c]
  · rw [mend_of hw (k := 0) (h' := g) (by rw [hcut]; rfl) (by rw [hcut]; omega) (fun j hj => by omega) (.inr hn)]
    rw [mended_all _ x, em]
    rfl
end Go.Proofs.Ytdbcimadjmdffaa
