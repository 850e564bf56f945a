/- Worlds as bytes, in plain Lean: what is written, what is read. No condition. -/
import Derived.Test.YtmfjhacgpopijaaP4
set_option linter.unusedVariables false
set_option linter.unusedSimpArgs false
set_option linter.unusedSectionVars false
namespace Go.Proofs.Ytmfjhacgpopijaa
def R.nums (r : R) : List Int := [r.kind, r.txn, r.prev] ++ ((if r.turns then [r.page, r.cell, r.old, r.new] else []) ++ (if r.kind = 3 then [r.next] else []))
def Pg.nums (p : Pg) : List Int := [p.c0, p.c1, p.c2, p.last]
def logNums : List R → List Int
  | [] => []
  | r :: l => r.nums ++ logNums l
def Wd.nums (x : Wd) : List Int := x.disk.p0.nums ++ (x.disk.p1.nums ++ (x.disk.p2.nums ++ ([x.safe] ++ logNums x.log)))
/-- What is not there is 0. -/
def at0 (b : List Int) (i : Nat) : Int := (b[i]?).getD 0
def kT (k : Int) : Bool := k == 1 || k == 3
def recLen (b : List Int) : Nat := 3 + ((if kT (at0 b 0) then 4 else 0) + (if at0 b 0 = 3 then 1 else 0))
def recRd (b : List Int) : R :=
  ⟨at0 b 0, at0 b 1, at0 b 2, if kT (at0 b 0) then at0 b 3 else 0, if kT (at0 b 0) then at0 b 4 else 0, if kT (at0 b 0) then at0 b 5 else 0, if kT (at0 b 0) then at0 b 6 else 0, if at0 b 0 = 3 then at0 b 7 else 0⟩
theorem recRd_nums (b : List Int) : (recRd b).nums = (List.range (recLen b)).map (at0 b) := by
  by_cases h1 : at0 b 0 = 1
  · simp [R.nums, recRd, recLen, R.turns, kT, h1, List.range_succ]
  · by_cases h3 : at0 b 0 = 3
    · simp [R.nums, recRd, recLen, R.turns, kT, h3, List.range_succ]
    · simp [R.nums, recRd, recLen, R.turns, kT, h1, h3, List.range_succ]
theorem map_at0 (b : List Int) (n : Nat) (h : n ≤ b.length) : (List.range n).map (at0 b) = b.take n := by
  apply List.ext_getElem
  · simp; omega
  · intro i h1 h2
    simp only [List.length_map, List.length_range] at h1
    have : i < b.length := by omega
    simp [at0, this]
theorem rec_back {b : List Int} (h : recLen b ≤ b.length) : (recRd b).nums ++ b.drop (recLen b) = b := by
  rw [recRd_nums, map_at0 _ _ h, List.take_append_drop]
theorem recRd_len (b : List Int) : (recRd b).nums.length = recLen b := by rw [recRd_nums]; simp
theorem recLen_pos (b : List Int) : 3 ≤ recLen b := by unfold recLen; omega
def logRd : Nat → List Int → List R
  | 0, _ => []
  | n + 1, b => if b = [] then [] else recRd b :: logRd n (b.drop (recLen b))
def logFit : Nat → List Int → Bool
  | 0, _ => true
  | n + 1, b => if b = [] then true else decide (recLen b ≤ b.length) && logFit n (b.drop (recLen b))
theorem log_fuel : ∀ (n m : Nat) (b : List Int), b.length ≤ n → b.length ≤ m → logRd n b = logRd m b ∧ logFit n b = logFit m b
  | 0, m, b, h, _ => by
    obtain rfl := List.eq_nil_of_length_eq_zero (by omega : b.length = 0)
    cases m <;> simp [logRd, logFit]
  | n + 1, 0, b, _, h => by
    obtain rfl := List.eq_nil_of_length_eq_zero (by omega : b.length = 0)
    simp [logRd, logFit]
  | n + 1, m + 1, b, h, k => by
    have hp := recLen_pos b
    by_cases hb : b = []
    · simp [logRd, logFit, hb]
    · have h0 : 0 < b.length := List.length_pos_iff.2 hb
      obtain ⟨e1, e2⟩ := log_fuel n m (b.drop (recLen b)) (by rw [List.length_drop]; omega) (by rw [List.length_drop]; omega)
      simp [logRd, logFit, hb, e1, e2]
/-- The log that is read. -/
def logR (b : List Int) : List R := logRd b.length b
def logF (b : List Int) : Bool := logFit b.length b
theorem logR_nil : logR [] = [] := rfl
theorem logF_nil : logF [] = true := rfl
theorem log_cons {b : List Int} (hb : b ≠ []) : logR b = recRd b :: logR (b.drop (recLen b)) ∧ logF b = (decide (recLen b ≤ b.length) && logF (b.drop (recLen b))) := by
  have hp := recLen_pos b
  obtain ⟨n, hn⟩ : ∃ n, b.length = n + 1 := ⟨b.length - 1, by have := List.length_pos_iff.2 hb; omega⟩
  obtain ⟨e1, e2⟩ := log_fuel n (b.drop (recLen b)).length (b.drop (recLen b)) (by rw [List.length_drop]; omega) (Nat.le_refl _)
  unfold logR logF
  rw [hn]
  simp [logRd, logFit, hb, e1, e2, hn]
theorem log_both : ∀ (n : Nat) (b : List Int), b.length ≤ n → (logF b = true → logNums (logR b) = b) ∧ (logF b = false → b.length < (logNums (logR b)).length)
  | 0, b, h => by
    obtain rfl := List.eq_nil_of_length_eq_zero (by omega : b.length = 0)
    exact ⟨fun _ => rfl, fun h => absurd h (by simp [logF_nil])⟩
  | n + 1, b, h => by
    by_cases hb : b = []
    · subst hb
      exact ⟨fun _ => rfl, fun h => absurd h (by simp [logF_nil])⟩
    · have hp := recLen_pos b
      have h0 : 0 < b.length := List.length_pos_iff.2 hb
      obtain ⟨e1, e2⟩ := log_cons hb
      obtain ⟨i1, i2⟩ := log_both n (b.drop (recLen b)) (by rw [List.length_drop]; omega)
      rw [e1, e2]
      refine ⟨fun hf => ?_, fun hf => ?_⟩
      · rw [Bool.and_eq_true, decide_eq_true_eq] at hf
        show (recRd b).nums ++ logNums _ = b
        rw [i1 hf.2, rec_back hf.1]
      · show _ < ((recRd b).nums ++ logNums _).length
        rw [List.length_append, recRd_len]
        by_cases hl : recLen b ≤ b.length
        · have h2 : logF (b.drop (recLen b)) = false := by simpa [hl] using hf
          have := i2 h2
          rw [List.length_drop] at this
          omega
        · omega
theorem log_back {b : List Int} (h : logF b = true) : logNums (logR b) = b := (log_both b.length b (Nat.le_refl _)).1 h
theorem log_more {b : List Int} (h : logF b = false) : b.length < (logNums (logR b)).length := (log_both b.length b (Nat.le_refl _)).2 h
/-! ### Worlds -/
def pgRd (b : List Int) (i : Nat) : Pg := ⟨at0 b i, at0 b (i + 1), at0 b (i + 2), at0 b (i + 3)⟩
def wdRd (b : List Int) : Wd := ⟨⟨pgRd b 0, pgRd b 4, pgRd b 8⟩, logR (b.drop 13), at0 b 12⟩
def wdFit (b : List Int) : Bool := decide (13 ≤ b.length) && logF (b.drop 13)
theorem wd_nums (b : List Int) : (wdRd b).nums = (List.range 13).map (at0 b) ++ logNums (logR (b.drop 13)) := by
  simp [List.range_succ, Wd.nums, wdRd, Pg.nums, pgRd]
theorem wd_fit (b : List Int) : (wdRd b).nums = b ↔ wdFit b = true := by
  rw [wd_nums]
  unfold wdFit
  by_cases hl : 13 ≤ b.length
  · rw [map_at0 _ _ hl]
    cases hf : logF (b.drop 13)
    · have h1 := log_more hf
      rw [List.length_drop] at h1
      refine ⟨fun e => ?_, fun h => absurd h (by simp)⟩
      have h2 := congrArg List.length e
      rw [List.length_append, List.length_take] at h2
      omega
    · rw [log_back hf, List.take_append_drop]
      simp [hl]
  · refine ⟨fun e => ?_, fun h => absurd h (by simp [hl])⟩
    have h2 := congrArg List.length e
    rw [List.length_append, List.length_map, List.length_range] at h2
    omega
/-- What Read answers. -/
def readOf (b : List Int) : Wd × Int := if b.length ≤ 4096 then (if wdFit b = true ∧ worldErr (wdRd b) = 0 then (wdRd b, 0) else (Wd.zero, 1)) else (Wd.zero, 2)
/-- What the document's reading answers. -/
def fromOf (b : List Int) : Wd × Bool := if worldErr (wdRd b) = 0 ∧ (wdRd b).nums = b then (wdRd b, true) else (Wd.zero, false)
theorem read_from (b : List Int) (h : b.length ≤ 4096) : readOf b = ((fromOf b).1, if (fromOf b).2 then 0 else 1) := by
  unfold readOf fromOf
  rw [if_pos h]
  by_cases h1 : worldErr (wdRd b) = 0 <;> by_cases h2 : wdFit b = true
  · rw [if_pos ⟨h2, h1⟩, if_pos ⟨h1, (wd_fit b).2 h2⟩]; rfl
  · rw [if_neg fun k => h2 k.1, if_neg fun k => h2 ((wd_fit b).1 k.2)]; rfl
  · rw [if_neg fun k => h1 k.2, if_neg fun k => h1 k.1]; rfl
  · rw [if_neg fun k => h1 k.2, if_neg fun k => h1 k.1]; rfl
/-! ### Right worlds -/
def Bytes (l : List Int) : Prop := ∀ x ∈ l, 0 ≤ x ∧ x < 256
theorem Bytes.app {a b : List Int} (ha : Bytes a) (hb : Bytes b) : Bytes (a ++ b) := fun x hx => (List.mem_append.1 hx).elim (ha x) (hb x)
theorem Bytes.drop {a : List Int} (n : Nat) (ha : Bytes a) : Bytes (a.drop n) := fun x hx => ha x (List.mem_of_mem_drop hx)
structure Clean (r : R) : Prop where
  bytes : Bytes r.nums
  bare : r.turns = false → r.page = 0 ∧ r.cell = 0 ∧ r.old = 0 ∧ r.new = 0
  next : r.kind ≠ 3 → r.next = 0
theorem Clean.of {n : Int} {r : R} (h : recErr n r = 0) : Clean r := by
  unfold recErr at h
  split at h
  · rename_i h1
    split at h
    · rename_i h2
      split at h
      · rename_i h3
        split at h
        · rename_i h4
          split at h
          · rename_i h5
            split at h
            · rename_i h6
              rw [wi_iff] at h1 h2
              rw [Bool.and_eq_true, wi_iff, wi_iff] at h3
              simp only [Bool.and_eq_true, Bool.or_eq_true, beq_iff_eq] at h6
              refine ⟨fun x hx => ?_, fun ht => ?_, fun hk => ?_⟩
              · simp only [R.nums, List.mem_append, List.mem_cons, List.not_mem_nil, or_false] at hx
                rcases hx with (rfl | rfl | rfl) | hx | hx
                · omega
                · omega
                · omega
                · split at hx
                  · rename_i ht
                    have h7 : r.inner = true := by simpa [ht] using h4
                    simp only [R.inner, Bool.and_eq_true, wi_iff] at h7
                    simp only [List.mem_cons, List.not_mem_nil, or_false] at hx
                    rcases hx with rfl | rfl | rfl | rfl <;> omega
                  · cases hx
                · split at hx
                  · rename_i hk
                    have h7 : wi r.next 0 (n - 1) = true := by simpa [hk] using h5
                    rw [wi_iff] at h7
                    simp only [List.mem_cons, List.not_mem_nil, or_false] at hx
                    subst hx
                    omega
                  · cases hx
              · have h7 : r.bare = true := by simpa [ht] using h6.1
                simpa [R.bare] using h7
              · simpa [hk] using h6.2
            · cases h
          · cases h
        · cases h
      · cases h
    · cases h
  · cases h
theorem Right.clean : ∀ {h : List R}, Right h → ∀ r ∈ h, Clean r
  | [], _, _, hr => by cases hr
  | r :: h, hR, x, hx => by
    obtain ⟨h1, h2, _⟩ := hR.parts
    rcases List.mem_cons.1 hx with rfl | hx
    · exact Clean.of h2
    · exact h1.clean x hx
theorem recRd_app {r : R} (h : Clean r) (t : List Int) : recRd (r.nums ++ t) = r ∧ recLen (r.nums ++ t) = r.nums.length := by
  obtain ⟨k, a, p, pg, c, o, n, x⟩ := r
  have hb := h.bare
  have hn := h.next
  dsimp only [R.turns] at hb hn
  by_cases h1 : k = 1
  · subst h1
    obtain rfl := hn (by decide)
    exact ⟨by simp [R.nums, recRd, R.turns, kT, at0], by simp [R.nums, recLen, R.turns, kT, at0]⟩
  · by_cases h3 : k = 3
    · subst h3
      exact ⟨by simp [R.nums, recRd, R.turns, kT, at0], by simp [R.nums, recLen, R.turns, kT, at0]⟩
    · obtain ⟨rfl, rfl, rfl, rfl⟩ := hb (by simp [h1, h3])
      obtain rfl := hn h3
      exact ⟨by simp [R.nums, recRd, R.turns, kT, at0, h1, h3], by simp [R.nums, recLen, R.turns, kT, at0, h1, h3]⟩
theorem logR_nums : ∀ (l : List R), (∀ r ∈ l, Clean r) → logR (logNums l) = l
  | [], _ => rfl
  | r :: l, h => by
    have hr := h r (List.mem_cons_self ..)
    obtain ⟨e1, e2⟩ := recRd_app hr (logNums l)
    have hne : logNums (r :: l) ≠ [] := by simp [logNums, R.nums]
    rw [(log_cons hne).1]
    show recRd (r.nums ++ logNums l) :: logR ((r.nums ++ logNums l).drop (recLen (r.nums ++ logNums l))) = r :: l
    rw [e1, e2, List.drop_left, logR_nums l fun x hx => h x (List.mem_cons_of_mem _ hx)]
theorem world_parts {x : Wd} (h : worldErr x = 0) : Right x.log.reverse ∧ x.log.length ≤ 60 ∧ (0 ≤ x.safe ∧ x.safe ≤ x.log.length) ∧ x.disk.p0.ok = true ∧ x.disk.p1.ok = true ∧ x.disk.p2.ok = true := by
  unfold worldErr at h
  split at h
  · rename_i hl
    split at h
    · rename_i hs
      split at h
      · rename_i hd
        rw [wi_iff] at hs
        have hlen : x.log.length ≤ 60 := by
          unfold logErr at hl
          split at hl
          · assumption
          · cases hl
        have hR : Right x.log.reverse := by
          unfold logErr at hl
          rw [if_pos hlen] at hl
          exact hl
        have key : ∀ p : Int, diskOk x p = true → (x.disk.get p).ok = true := fun p hp => by
          simp only [diskOk, Bool.and_eq_true, decide_eq_true_eq] at hp
          rw [← hp.2]
          rw [List.reverse_take]
          exact P3.ok_get (hR.drop _).pok p
        simp only [Bool.and_eq_true] at hd
        exact ⟨hR, hlen, hs, key 0 hd.1, key 1 hd.2.1, key 2 hd.2.2⟩
      · cases h
    · cases h
  · exact absurd h (by assumption)
theorem Pg.nums_bytes {p : Pg} (h : p.ok = true) : Bytes p.nums := fun x hx => by
  simp only [Pg.ok, cellsB, Bool.and_eq_true, wi_iff] at h
  simp only [Pg.nums, List.mem_cons, List.not_mem_nil, or_false] at hx
  rcases hx with rfl | rfl | rfl | rfl <;> omega
theorem logNums_bytes : ∀ (l : List R), (∀ r ∈ l, Clean r) → Bytes (logNums l)
  | [], _ => fun _ h => by cases h
  | r :: l, h => (h r (List.mem_cons_self ..)).bytes.app (logNums_bytes l fun x hx => h x (List.mem_cons_of_mem _ hx))
theorem recNums_le (r : R) : r.nums.length ≤ 8 := by
  unfold R.nums
  split <;> split <;> simp
theorem logNums_le : ∀ l : List R, (logNums l).length ≤ 8 * l.length
  | [] => Nat.le_refl _
  | r :: l => by
    have h1 := recNums_le r
    have h2 := logNums_le l
    simp only [logNums, List.length_append, List.length_cons]
    omega
theorem wd_rd {x : Wd} (h : worldErr x = 0) : wdRd x.nums = x ∧ Bytes x.nums ∧ x.nums.length ≤ 4096 := by
  obtain ⟨hR, hl, hs, h0, h1, h2⟩ := world_parts h
  have hc : ∀ r ∈ x.log, Clean r := fun r hr => hR.clean r (List.mem_reverse.2 hr)
  refine ⟨?_, (Pg.nums_bytes h0).app ((Pg.nums_bytes h1).app ((Pg.nums_bytes h2).app (Bytes.app (fun y hy => ?_) (logNums_bytes _ hc)))), ?_⟩
  · have e : x.nums.drop 13 = logNums x.log := by simp [Wd.nums, Pg.nums]
    have e2 := logR_nums x.log hc
    obtain ⟨⟨p0, p1, p2⟩, l, s⟩ := x
    unfold wdRd
    rw [e, e2]
    simp [pgRd, at0, Wd.nums, Pg.nums]
  · simp only [List.mem_cons, List.not_mem_nil, or_false] at hy
    subst hy
    omega
  · have := logNums_le x.log
    simp [Wd.nums, Pg.nums]
    omega
theorem read_nums {x : Wd} (h : worldErr x = 0) : readOf x.nums = (x, 0) := by
  obtain ⟨h1, _, h3⟩ := wd_rd h
  have h4 := (wd_fit x.nums).1 (by rw [h1])
  unfold readOf
  rw [if_pos h3, h1, if_pos ⟨h4, h⟩]
theorem read_back {b : List Int} (h : (readOf b).2 = 0) : worldErr (readOf b).1 = 0 ∧ (readOf b).1.nums = b := by
  unfold readOf at h ⊢
  split at h
  · rename_i hl
    rw [if_pos hl]
    split at h
    · rename_i hk
      rw [if_pos hk]
      exact ⟨hk.2, (wd_fit b).2 hk.1⟩
    · cases h
  · cases h
end Go.Proofs.Ytmfjhacgpopijaa
