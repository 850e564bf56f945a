/- Worlds as plain Lean: what comes of Write, Commit, Abort, Sync, Page is right. No condition. -/
import Derived.Test.YtdbcimadjmdffaaBz
set_option linter.unusedVariables false
set_option linter.unusedSimpArgs false
set_option linter.unusedSectionVars false
namespace Go.Proofs.Ytdbcimadjmdffaa
theorem now_ok {x : Wd} (h : worldErr x = 0) : nowOf x = (pagesOf x.h, 0) := by unfold nowOf; rw [if_pos h]
theorem cells_ok {x : Wd} (h : worldErr x = 0) : cellsOf x.log = cellsH x.h := by unfold cellsOf; rw [if_pos (world_right h).1]; rfl
theorem wins_ok {l : List R} (h : logErr l = 0) : winsOf l = winsL l := by unfold winsOf; rw [if_pos h]
theorem hrev (x : Wd) : x.h.reverse = x.log := by simp [Wd.h]
theorem hlen (x : Wd) : x.h.length = x.log.length := by simp [Wd.h]
theorem at_h (x : Wd) (h : List R) : (x.at h).h = h := by simp [Wd.at, Wd.h]
theorem at_self (x : Wd) : x.at x.h = x := by simp [Wd.at, Wd.h]
theorem world_safe {x : Wd} (hw : worldErr x = 0) {s : Int} (h1 : x.safe ≤ s) (h2 : s ≤ x.log.length) : worldErr { x with safe := s } = 0 := by
  obtain ⟨h0, h60, hR, hs, _⟩ := world_right hw
  have := world_app hw (g := []) (by simpa using hR) (by simp [Wd.h]; omega) (s := s) (by simp [Wd.h]; omega)
  rw [List.nil_append, hrev] at this
  exact this
/-- A page is as its last record left it. -/
theorem page_then : ∀ {h : List R}, Right h → ∀ {p : Int}, 0 ≤ p ∧ p ≤ 2 → (pagesOf (h.drop (h.length - ((pagesOf h).get p).last.toNat))).get p = (pagesOf h).get p
  | [], _, p, hp => by simp
  | r :: h, hr, p, hp => by
    obtain ⟨h1, h2, h3⟩ := hr.parts
    have ih := page_then h1 hp
    have hl := page_last h1 p
    cases ht : r.turns
    · have e : pagesOf (r :: h) = pagesOf h := pages_stay ht
      rw [e]
      have e2 : (r :: h).length - ((pagesOf h).get p).last.toNat = (h.length - ((pagesOf h).get p).last.toNat) + 1 := by simp; omega
      rw [e2, List.drop_succ_cons]
      exact ih
    · obtain ⟨b1, b2, _⟩ := (rec_bounds h2).2.2.2.2.2.2.2.2.1 ht
      have e : pagesOf (r :: h) = _ := pages_turn ht
      by_cases hpp : p = r.page
      · have e2 : ((pagesOf (r :: h)).get p).last = (h.length + 1 : Nat) := by
          rw [e, get_set _ b1 _ hp, if_pos hpp]
          unfold Pg.put
          repeat' split
          all_goals rfl
        rw [e2]
        have e3 : (r :: h).length - ((h.length + 1 : Nat) : Int).toNat = 0 := by simp
        rw [e3]
        rfl
      · have e2 : (pagesOf (r :: h)).get p = (pagesOf h).get p := by rw [e, get_set _ b1 _ hp, if_neg hpp]
        rw [e2]
        have e3 : (r :: h).length - ((pagesOf h).get p).last.toNat = (h.length - ((pagesOf h).get p).last.toNat) + 1 := by simp; omega
        rw [e3, List.drop_succ_cons]
        exact ih
theorem world_lay {x : Wd} (hw : worldErr x = 0) {p : Int} (hp : 0 ≤ p ∧ p ≤ 2) : worldErr (x.lay p) = 0 := by
  obtain ⟨h0, h60, hR, hs, _⟩ := world_right hw
  have hl := page_last hR p
  rw [hlen] at hl
  refine world_mk h0 ?_ fun q hq => ?_
  · show 0 ≤ max x.safe _ ∧ max x.safe _ ≤ _
    have := Int.le_max_left x.safe ((pagesOf x.h).get p).last
    refine ⟨by omega, ?_⟩
    exact Int.max_le.2 ⟨hs.2, hl.2⟩
  · have e : (x.lay p).disk.get q = if q = p then (pagesOf x.h).get p else x.disk.get q := get_set _ hp _ hq
    have hm1 := Int.le_max_left x.safe ((pagesOf x.h).get p).last
    have hm2 := Int.le_max_right x.safe ((pagesOf x.h).get p).last
    refine diskOk_iff.2 ?_
    rw [e]
    by_cases hqp : q = p
    · subst hqp
      rw [if_pos rfl]
      refine ⟨⟨hl.1, hm2⟩, ?_⟩
      have := page_then hR hq
      rw [hlen] at this
      show (pagesOf (x.log.take _).reverse).get q = _
      rw [take_rev]
      exact this
    · rw [if_neg hqp]
      obtain ⟨d1, d2⟩ := diskOk_iff.1 (disk_ok hw hq)
      exact ⟨⟨d1.1, Int.le_trans d1.2 hm1⟩, d2⟩
theorem sync_ok {x : Wd} {n : Int} (h : (syncOf x n).2 = 0) : worldErr x = 0 ∧ (0 ≤ n ∧ n ≤ x.log.length) ∧ syncOf x n = ({ x with safe := max x.safe n }, 0) ∧ worldErr ({ x with safe := max x.safe n } : Wd) = 0 := by
  have e : syncOf x n = _ := rfl
  unfold syncOf at h e
  split at h
  · rename_i h0
    split at h
    · rename_i h1
      have h1 := wi_iff.1 h1
      have hs := (world_right h0).2.2.2.1
      refine ⟨h0, h1, ?_, world_safe h0 (Int.le_max_left _ _) (Int.max_le.2 ⟨hs.2, h1.2⟩)⟩
      unfold syncOf
      rw [if_pos h0, if_pos (wi_iff.2 h1)]
    · simp at h
  · rename_i h0; exact absurd h h0
theorem flush_ok {x : Wd} (h : worldErr x = 0) {p : Int} (hp : 0 ≤ p ∧ p ≤ 2) : flushOf x p = (x.lay p, 0) := by
  unfold flushOf
  rw [if_pos h, if_pos (wi_iff.2 hp)]
/-- The record that Write puts. -/
def wrOf (x : Wd) (t p q v : Int) : R := wrR t (lastN x.h t) p q (cellOf x.h p q) v
theorem write_ok {x : Wd} {t p q v : Int} (h : (writeTo x t p q v).2 = 0) : worldErr x = 0 ∧ ((1 ≤ t ∧ t ≤ 9) ∧ (0 ≤ p ∧ p ≤ 2) ∧ (0 ≤ q ∧ q ≤ 2) ∧ (0 ≤ v ∧ v ≤ 99)) ∧ stt x.h t ≤ 1 ∧ taken x.h t p q = false ∧ x.log.length < 60 ∧
    writeTo x t p q v = (x.more (wrOf x t p q v), 0) ∧ Right (wrOf x t p q v :: x.h) ∧ worldErr (x.more (wrOf x t p q v)) = 0 := by
  have hh := h
  unfold writeTo at h
  split at h
  rotate_left
  · rename_i h0; exact absurd h h0
  rename_i h0
  split at h
  rotate_left
  · simp at h
  rename_i h1
  split at h
  · simp at h
  rename_i h2
  split at h
  · simp at h
  rename_i h3
  split at h
  · simp at h
  rename_i h4
  obtain ⟨_, h60, hR, _⟩ := world_right h0
  have hb : (1 ≤ t ∧ t ≤ 9) ∧ (0 ≤ p ∧ p ≤ 2) ∧ (0 ≤ q ∧ q ≤ 2) ∧ (0 ≤ v ∧ v ≤ 99) := by simpa [wi] using h1
  have h3' : taken x.h t p q = false := by simpa using h3
  have hRr : Right (wrOf x t p q v :: x.h) := right_write hR (by rw [hlen]; omega) hb.1 hb.2.1 hb.2.2.1 hb.2.2.2 (by omega) h3'
  refine ⟨h0, hb, by omega, h3', by omega, ?_, hRr, world_more h0 hRr (by omega)⟩
  unfold writeTo
  rw [if_pos h0, if_pos h1, if_neg h2, if_neg h3, if_neg h4]
  rfl
/-- What Commit leaves. -/
def Wd.com (x : Wd) (t : Int) : Wd := ⟨x.disk, x.log ++ [cmR t (lastN x.h t), enR t ((x.log.length : Int) + 1)], (x.log.length : Int) + 1⟩
theorem com_h (x : Wd) (t : Int) : (x.com t).h = enR t ((x.log.length : Int) + 1) :: cmR t (lastN x.h t) :: x.h := by simp [Wd.com, Wd.h]
theorem commit_ok {x : Wd} {t : Int} (h : (commitOf x t).2 = 0) : worldErr x = 0 ∧ (1 ≤ t ∧ t ≤ 9) ∧ stt x.h t = 1 ∧ x.log.length ≤ 58 ∧ commitOf x t = (x.com t, 0) ∧ Right (cmR t (lastN x.h t) :: x.h) ∧ Right (x.com t).h ∧ worldErr (x.com t) = 0 := by
  have hh := h
  unfold commitOf at h
  split at h
  rotate_left
  · rename_i h0; exact absurd h h0
  rename_i h0
  split at h
  rotate_left
  · simp at h
  rename_i h1
  split at h
  · simp at h
  rename_i h2
  split at h
  · simp at h
  rename_i h3
  split at h
  · simp at h
  rename_i h4
  obtain ⟨_, h60, hR, hs, _⟩ := world_right h0
  have ht := wi_iff.1 h1
  have hRc : Right (cmR t (lastN x.h t) :: x.h) := right_commit hR (by rw [hlen]; omega) ht (by omega)
  have hst : stt (cmR t (lastN x.h t) :: x.h) t = 2 := by
    have := stt_cons hRc
    simp [cmR] at this
    simp [cmR]
    omega
  have hla : lastN (cmR t (lastN x.h t) :: x.h) t = x.log.length + 1 := by rw [commit_last, hlen]
  have hRe : Right (x.com t).h := by
    have := right_end hRc (t := t) (by simp [hlen]; omega) ht (.inl hst)
    rw [hla] at this
    rw [com_h]
    exact this
  refine ⟨h0, ht, by omega, by omega, ?_, hRc, hRe, ?_⟩
  · unfold commitOf
    rw [if_pos h0, if_pos h1, if_neg h2, if_neg h3, if_neg h4]
    rfl
  · have := world_app h0 (g := [enR t ((x.log.length : Int) + 1), cmR t (lastN x.h t)]) (by rw [com_h] at hRe; exact hRe) (by simp [Wd.h]; omega) (s := (x.log.length : Int) + 1) (by simp [Wd.h]; omega)
    have e : (⟨x.disk, ([enR t ((x.log.length : Int) + 1), cmR t (lastN x.h t)] ++ x.h).reverse, (x.log.length : Int) + 1⟩ : Wd) = x.com t := by simp [Wd.com, Wd.h]
    rw [e] at this
    exact this
/-- Records of a Txn by which something is taken back, or it is over. -/
def Undos (t : Int) (g : List R) : Prop := ∀ r ∈ g, r.txn = t ∧ (r.kind = 3 ∨ r.kind = 4)
theorem abort_spec : ∀ {f : Nat} {h h' : List R} {t : Int}, abortH f h t = some h' → Right h → (stt h t = 1 ∨ stt h t = 3 ∨ stt h t = 4) → (1 ≤ t ∧ t ≤ 9) → h.length + f ≤ 61 → 1 ≤ f → Right h' ∧ h'.length ≤ 60 ∧ stt h' t = 4 ∧ ∃ g, h' = g ++ h ∧ Undos t g
  | 0, h, h', t, he, _, _, _, _, h1 => by omega
  | f + 1, h, h', t, he, hR, hs, ht, hl, _ => by
    unfold abortH at he
    by_cases h4 : stt h t = 4
    · rw [if_pos h4] at he
      obtain rfl := Option.some.inj he
      exact ⟨hR, by omega, h4, [], rfl, fun r hr => by cases hr⟩
    · rw [if_neg h4] at he
      rcases Nat.eq_zero_or_pos f with hf | hf
      · subst hf; cases he
      · have hRu := right_undo hR (by omega) ht (by omega)
        have hsu := stt_undo hRu
        obtain ⟨a, b, c, g, e, hg⟩ := abort_spec he hRu (by omega) ht (by simp; omega) hf
        refine ⟨a, b, c, g ++ [undoB h t], by rw [e]; simp, fun r hr => ?_⟩
        rcases List.mem_append.1 hr with hr | hr
        · exact hg r hr
        · rw [List.mem_singleton.1 hr]
          exact undo_txn h t
theorem abort_ok {x : Wd} {t : Int} (h : (abortOf x t).2 = 0) : worldErr x = 0 ∧ (1 ≤ t ∧ t ≤ 9) ∧ (stt x.h t = 1 ∨ stt x.h t = 3) ∧ ∃ g, abortOf x t = (x.at (g ++ x.h), 0) ∧ Right (g ++ x.h) ∧ (g ++ x.h).length ≤ 60 ∧ stt (g ++ x.h) t = 4 ∧ Undos t g ∧ worldErr (x.at (g ++ x.h)) = 0 := by
  have hh := h
  unfold abortOf at h
  split at h
  rotate_left
  · rename_i h0; exact absurd h h0
  rename_i h0
  split at h
  rotate_left
  · rename_i h1; exact absurd h h1
  rename_i h1
  obtain ⟨ht, hs⟩ := roll_ok h1
  have hs : stt x.h t = 1 ∨ stt x.h t = 3 := hs
  obtain ⟨_, h60, hR, hsf, _⟩ := world_right h0
  cases ha : abortH (61 - x.log.length) x.h t with
  | none => rw [ha] at h; simp at h
  | some h' =>
    obtain ⟨a, b, c, g, e, hg⟩ := abort_spec ha hR (by omega) ht (by rw [hlen]; omega) (by omega)
    subst e
    refine ⟨h0, ht, hs, g, ?_, a, b, c, hg, world_app h0 a b (s := x.safe) ⟨Int.le_refl _, by have := hlen x; simp at *; omega⟩⟩
    unfold abortOf
    rw [if_pos h0, if_pos h1, ha]
    rfl
/-! ### What others are -/
theorem last_other {h : List R} {r : R} {t : Int} (ht : r.txn ≠ t) : lastN (r :: h) t = lastN h t := by simp [lastN, ht]
theorem others {t u : Int} (hu : u ≠ t) : ∀ {g : List R} {h : List R}, (∀ r ∈ g, r.txn = t) → stt (g ++ h) u = stt h u ∧ lastN (g ++ h) u = lastN h u
  | [], h, _ => ⟨rfl, rfl⟩
  | r :: g, h, hg => by
    have ih := others hu (g := g) (h := h) fun x hx => hg x (List.mem_cons_of_mem _ hx)
    have hr : r.txn ≠ u := fun e => hu (e.symm.trans (hg r (List.Mem.head _)))
    simp only [List.cons_append]
    rw [stt_other hr, last_other hr]
    exact ih
theorem state_same {l l' : List R} {g : List R} {t u : Int} (h0 : logErr l = 0) (h1 : logErr l' = 0) (he : l'.reverse = g ++ l.reverse) (hg : ∀ r ∈ g, r.txn = t) (hu : u ≠ t) : logState l' u = logState l u := by
  unfold logState
  rw [if_pos h0, if_pos h1, he, (others hu hg).1, (others hu hg).2]
theorem must_undos {t : Int} : ∀ {g : List R} {h : List R}, Undos t g → cellsH (g ++ h) = cellsH h ∧ winsH (g ++ h) = winsH h
  | [], h, _ => ⟨rfl, rfl⟩
  | r :: g, h, hg => by
    have ih := must_undos (g := g) (h := h) fun x hx => hg x (List.mem_cons_of_mem _ hx)
    have hr := (hg r (List.Mem.head _)).2
    simp only [List.cons_append]
    rw [must_cons (by omega) (by omega), wins_same (by omega)]
    exact ih
end Go.Proofs.Ytdbcimadjmdffaa
