/- Mending as plain Lean: half of it and then all; how many records it puts; what it leaves. No condition. -/
import Derived.Test.YtapkelocligmdaaGreatDoorCs
import Derived.Test.YtapkelocligmdaaGreatDoorSc
import Derived.Test.YtapkelocligmdaaGreatDoorCa
section
set_option linter.unusedVariables false
set_option linter.unusedSimpArgs false
set_option linter.unusedSectionVars false
namespace Go.Proofs.YtapkelocligmdaaGreatDoor
theorem stt_bnd {h : List R} (hR : Right h) {t : Int} (hs : stt h t ≠ 0) : 1 ≤ t ∧ t ≤ 9 := by
  by_cases ht : 1 ≤ t ∧ t ≤ 9
  · exact ht
  · exact absurd (stt_out hR ht) hs
theorem best_state {h : List R} (hb : bestH h ≠ 0) : stt h (bestH h) = 1 ∨ stt h (bestH h) = 3 :=
  (bestGo_hangs h nine 0 (.inl rfl)).resolve_left hb
theorem next_right {h : List R} (hR : Right h) (hl : h.length < 60) {r : R} (hn : nextH h = some r) : Right (r :: h) := by
  unfold nextH at hn
  split at hn
  · rename_i t ht
    obtain rfl := Option.some.inj hn
    have h2 : stt h t = 2 := by simpa using List.find?_some ht
    exact right_end hR hl (stt_bnd hR (by omega)) (.inl h2)
  · split at hn
    · cases hn
    · rename_i hb
      obtain rfl := Option.some.inj hn
      have hs := best_state hb
      exact right_undo hR hl (stt_bnd hR (by omega)) hs
theorem nextR_some {h : List R} (hn : (nextR h).2 = true) : nextH h = some (nextR h).1 := by
  unfold nextR at hn ⊢
  split at hn
  · rename_i r hr; rw [hr]
  · cases hn
theorem nextR_none {h : List R} (hn : (nextR h).2 = false) : nextH h = none := by
  unfold nextR at hn
  split at hn
  · cases hn
  · assumption
theorem mendGo_stop {f : Nat} {s : Int} {n : Nat} {h : List R} (hs : (n : Int) = s ∨ nextH h = none) : mendGo (f + 1) s n h = some (h, n) := by
  unfold mendGo
  by_cases e : (n : Int) = s
  · rw [if_pos e]
  · rw [if_neg e, hs.resolve_left e]
theorem mendGo_step {f : Nat} {s : Int} {n : Nat} {h : List R} {r : R} (hs : (n : Int) ≠ s) (hn : nextH h = some r) : mendGo (f + 1) s n h = mendGo f s (n + 1) (r :: h) := by
  rw [mendGo, if_neg hs, hn]
/-- What mending so many steps, and laying these pages, leaves. -/
def mendX (x : Wd) (steps : Int) (xs : List Int) : Wd × Int × Int :=
  if worldErr x = 0 then
    match mendGo (61 - x.cut.log.length) steps 0 x.cut.h with
    | none => (Wd.zero, 0, 2)
    | some (h, n) => (layL (pagesOf h) xs ⟨x.disk, h.reverse, h.length⟩, n, 0)
  else (Wd.zero, 0, worldErr x)
end Go.Proofs.YtapkelocligmdaaGreatDoor
end
section
set_option linter.unusedVariables false
set_option linter.unusedSimpArgs false
set_option linter.unusedSectionVars false
namespace Go.Proofs.YtapkelocligmdaaGreatDoor
/-- So many records are put. -/
def mendN : Nat → List R → Option (List R)
  | 0, h => some h
  | k + 1, h => match nextH h with
    | none => none
    | some r => mendN k (r :: h)
theorem mendN_one {k : Nat} {h h' : List R} (e : mendN (k + 1) h = some h') : ∃ r, nextH h = some r ∧ mendN k (r :: h) = some h' := by
  unfold mendN at e
  split at e
  · cases e
  · rename_i r hr; exact ⟨r, hr, e⟩
theorem mendGo_some : ∀ {f : Nat} {s : Int} {n : Nat} {h h' : List R} {m : Nat}, mendGo f s n h = some (h', m) → ∃ k, m = n + k ∧ mendN k h = some h' ∧ k < f ∧ ((m : Int) = s ∨ nextH h' = none)
  | 0, s, n, h, h', m, e => by cases e
  | f + 1, s, n, h, h', m, e => by
    unfold mendGo at e
    split at e
    · rename_i hs
      obtain ⟨rfl, rfl⟩ := Prod.mk.inj (Option.some.inj e)
      exact ⟨0, rfl, rfl, by omega, .inl hs⟩
    · split at e
      · rename_i hn
        obtain ⟨rfl, rfl⟩ := Prod.mk.inj (Option.some.inj e)
        exact ⟨0, rfl, rfl, by omega, .inr hn⟩
      · rename_i r hr
        obtain ⟨k, e1, e2, e3, e4⟩ := mendGo_some e
        exact ⟨k + 1, by omega, by unfold mendN; rw [hr]; exact e2, by omega, e4⟩
theorem next_kind {h : List R} {r : R} (hn : nextH h = some r) : r.kind = 3 ∨ r.kind = 4 := by
  unfold nextH at hn
  split at hn
  · obtain rfl := Option.some.inj hn
    exact .inr rfl
  · split at hn
    · cases hn
    · obtain rfl := Option.some.inj hn
      exact (undo_txn h _).2
theorem mendN_right : ∀ {k : Nat} {h h' : List R}, mendN k h = some h' → Right h → h.length + k ≤ 60 → Right h' ∧ h'.length = h.length + k ∧ cellsH h' = cellsH h ∧ winsH h' = winsH h ∧ ∃ g, h' = g ++ h
  | 0, h, h', e, hR, hl => by
    obtain rfl := Option.some.inj e
    exact ⟨hR, rfl, rfl, rfl, [], rfl⟩
  | k + 1, h, h', e, hR, hl => by
    obtain ⟨r, hr, e⟩ := mendN_one e
    obtain ⟨a, b, c, d, g, f⟩ := mendN_right e (next_right hR (by omega) hr) (by simp; omega)
    have hk := next_kind hr
    refine ⟨a, by rw [b]; simp; omega, c.trans (must_cons (by omega) (by omega)), d.trans (wins_same (by omega)), g ++ [r], by rw [f]; simp⟩
/-! ### How many -/
def hangW (h : List R) (t : Int) : Nat := if stt h t = 2 then 1 else if stt h t = 1 ∨ stt h t = 3 then (sta h t).length + 1 else 0
def hangN (h : List R) : Nat := (nine.map (hangW h)).sum
/-! ### Worlds -/
/-- What mending to this history leaves, these pages laid. -/
def Wd.mended (x : Wd) (a b c : Bool) (h : List R) : Wd := ⟨layIf c (pagesOf h) (layIf b (pagesOf h) (layIf a (pagesOf h) x.disk 0) 1) 2, h.reverse, h.length⟩
theorem mend_ok {x : Wd} {s : Int} {a b c : Bool} (h : (mendOf x s a b c).2.2 = 0) : worldErr x = 0 ∧ ∃ k h', mendN k x.cut.h = some h' ∧ x.cut.h.length + k ≤ 60 ∧ ((k : Int) = s ∨ nextH h' = none) ∧ mendOf x s a b c = (x.mended a b c h', (k : Int), 0) := by
  have e : mendOf x s a b c = mendOf x s a b c := rfl
  rw [mendOf] at h
  conv at e => rhs; rw [mendOf]
  split at h
  · rename_i h0
    rw [if_pos h0] at e
    refine ⟨h0, ?_⟩
    cases hm : mendGo (61 - x.cut.log.length) s 0 x.cut.h with
    | none => rw [hm] at h; simp at h
    | some p =>
      obtain ⟨h', m⟩ := p
      rw [hm] at e
      obtain ⟨k, e1, e2, e3, e4⟩ := mendGo_some hm
      rw [Nat.zero_add] at e1
      subst e1
      refine ⟨m, h', e2, by rw [hlen]; omega, e4, e⟩
  · rename_i h0
    exact absurd h h0
theorem cut_h_right {x : Wd} (h : worldErr x = 0) : Right x.cut.h ∧ x.cut.h.length ≤ 60 ∧ (x.cut.h.length : Int) = x.safe := by
  obtain ⟨_, h60, hR, _⟩ := world_right (cut_right h)
  exact ⟨hR, by rw [hlen]; exact h60, by rw [hlen]; exact cut_len h⟩
/-- A world at the end of its mending, its log safe, its pages not yet laid. -/
theorem mended_base {x : Wd} {k : Nat} {h' : List R} (h : worldErr x = 0) (e : mendN k x.cut.h = some h') (hl : x.cut.h.length + k ≤ 60) : worldErr ⟨x.disk, h'.reverse, h'.length⟩ = 0 := by
  obtain ⟨hR, _, hsf⟩ := cut_h_right h
  obtain ⟨a, b, _, _, g, f⟩ := mendN_right e hR hl
  have := world_app (cut_right h) (g := g) (by rw [← f]; exact a) (by rw [← f, b]; exact hl) (s := h'.length) ⟨by show x.safe ≤ _; rw [← hsf, b]; omega, by rw [← f]; exact Int.le_refl _⟩
  rw [← f] at this
  exact this
theorem lay_safe {x : Wd} (h : worldErr x = 0) (hs : x.safe = (x.log.length : Int)) (b : Bool) (p : Int) (hp : 0 ≤ p ∧ p ≤ 2) : worldErr ⟨layIf b (pagesOf x.h) x.disk p, x.log, x.safe⟩ = 0 := by
  cases b with
  | false => exact h
  | true =>
    have hR := (world_right h).2.2.1
    have hl := page_last hR p
    rw [hlen] at hl
    have := world_lay h hp
    unfold Wd.lay at this
    rw [show max x.safe ((pagesOf x.h).get p).last = x.safe by rw [Int.max_eq_left]; omega] at this
    exact this
theorem mended_right {x : Wd} {a b c : Bool} {k : Nat} {h' : List R} (h : worldErr x = 0) (e : mendN k x.cut.h = some h') (hl : x.cut.h.length + k ≤ 60) : worldErr (x.mended a b c h') = 0 := by
  have hh : ∀ (d : P3) (s : Int), (⟨d, h'.reverse, s⟩ : Wd).h = h' := fun d s => by simp [Wd.h]
  have h0 := mended_base h e hl
  have h1 := lay_safe h0 (by simp) a 0 (by omega)
  rw [hh] at h1
  have h2 := lay_safe h1 (by simp) b 1 (by omega)
  rw [hh] at h2
  have h3 := lay_safe h2 (by simp) c 2 (by omega)
  rw [hh] at h3
  exact h3
end Go.Proofs.YtapkelocligmdaaGreatDoor
end
