/- Worlds as bytes, in plain Lean: what is written, what is read. No condition. -/
import Derived.Test.YtapkelocligmdaaGreatDoorP4
set_option linter.unusedVariables false
set_option linter.unusedSimpArgs false
set_option linter.unusedSectionVars false
namespace Go.Proofs.YtapkelocligmdaaGreatDoor
def R.nums (r : R) : List Int := [r.kind, r.txn, r.prev] ++ ((if r.turns then [r.page, r.cell, r.old, r.new] else []) ++ (if r.kind = 3 then [r.next] else []))
def Pg.nums (p : Pg) : List Int := [p.c0, p.c1, p.c2, p.last]
def logNums : List R → List Int
  | [] => []
  | r :: l => r.nums ++ logNums l
def Wd.nums (x : Wd) : List Int := x.disk.p0.nums ++ (x.disk.p1.nums ++ (x.disk.p2.nums ++ ([x.safe] ++ logNums x.log)))
/-- What is not there is 0. -/
def at0 (b : List Int) (i : Nat) : Int := (b[i]?).getD 0
def kT (k : Int) : Bool := k == 1 || k == 3
def recLen (b : List Int) : Nat := 3 + ((if kT (at0 b 0) then 4 else 0) + (if at0 b 0 = 3 then 1 else 0))
def recRd (b : List Int) : R :=
  ⟨at0 b 0, at0 b 1, at0 b 2, if kT (at0 b 0) then at0 b 3 else 0, if kT (at0 b 0) then at0 b 4 else 0, if kT (at0 b 0) then at0 b 5 else 0, if kT (at0 b 0) then at0 b 6 else 0, if at0 b 0 = 3 then at0 b 7 else 0⟩
def logRd : Nat → List Int → List R
  | 0, _ => []
  | n + 1, b => if b = [] then [] else recRd b :: logRd n (b.drop (recLen b))
def logFit : Nat → List Int → Bool
  | 0, _ => true
  | n + 1, b => if b = [] then true else decide (recLen b ≤ b.length) && logFit n (b.drop (recLen b))
/-- The log that is read. -/
def logR (b : List Int) : List R := logRd b.length b
def logF (b : List Int) : Bool := logFit b.length b
/-! ### Worlds -/
def pgRd (b : List Int) (i : Nat) : Pg := ⟨at0 b i, at0 b (i + 1), at0 b (i + 2), at0 b (i + 3)⟩
def wdRd (b : List Int) : Wd := ⟨⟨pgRd b 0, pgRd b 4, pgRd b 8⟩, logR (b.drop 13), at0 b 12⟩
def wdFit (b : List Int) : Bool := decide (13 ≤ b.length) && logF (b.drop 13)
/-- What Read answers. -/
def readOf (b : List Int) : Wd × Int := if b.length ≤ 4096 then (if wdFit b = true ∧ worldErr (wdRd b) = 0 then (wdRd b, 0) else (Wd.zero, 1)) else (Wd.zero, 2)
/-- What the document's reading answers. -/
def fromOf (b : List Int) : Wd × Bool := if worldErr (wdRd b) = 0 ∧ (wdRd b).nums = b then (wdRd b, true) else (Wd.zero, false)
/-! ### Right worlds -/
def Bytes (l : List Int) : Prop := ∀ x ∈ l, 0 ≤ x ∧ x < 256
theorem Bytes.drop {a : List Int} (n : Nat) (ha : Bytes a) : Bytes (a.drop n) := fun x hx => ha x (List.mem_of_mem_drop hx)
structure Clean (r : R) : Prop where
  bytes : Bytes r.nums
  bare : r.turns = false → r.page = 0 ∧ r.cell = 0 ∧ r.old = 0 ∧ r.new = 0
  next : r.kind ≠ 3 → r.next = 0
theorem Clean.of {n : Int} {r : R} (h : recErr n r = 0) : Clean r := by
  unfold recErr at h
  split at h
  · rename_i h1
    split at h
    · rename_i h2
      split at h
      · rename_i h3
        split at h
        · rename_i h4
          split at h
          · rename_i h5
            split at h
            · rename_i h6
              rw [wi_iff] at h1 h2
              rw [Bool.and_eq_true, wi_iff, wi_iff] at h3
              simp only [Bool.and_eq_true, Bool.or_eq_true, beq_iff_eq] at h6
              refine ⟨fun x hx => ?_, fun ht => ?_, fun hk => ?_⟩
              · simp only [R.nums, List.mem_append, List.mem_cons, List.not_mem_nil, or_false] at hx
                rcases hx with (rfl | rfl | rfl) | hx | hx
                · omega
                · omega
                · omega
                · split at hx
                  · rename_i ht
                    have h7 : r.inner = true := by simpa [ht] using h4
                    simp only [R.inner, Bool.and_eq_true, wi_iff] at h7
                    simp only [List.mem_cons, List.not_mem_nil, or_false] at hx
                    rcases hx with rfl | rfl | rfl | rfl <;> omega
                  · cases hx
                · split at hx
                  · rename_i hk
                    have h7 : wi r.next 0 (n - 1) = true := by simpa [hk] using h5
                    rw [wi_iff] at h7
                    simp only [List.mem_cons, List.not_mem_nil, or_false] at hx
                    subst hx
                    omega
                  · cases hx
              · have h7 : r.bare = true := by simpa [ht] using h6.1
                simpa [R.bare] using h7
              · simpa [hk] using h6.2
            · cases h
          · cases h
        · cases h
      · cases h
    · cases h
  · cases h
theorem world_parts {x : Wd} (h : worldErr x = 0) : Right x.log.reverse ∧ x.log.length ≤ 60 ∧ (0 ≤ x.safe ∧ x.safe ≤ x.log.length) ∧ x.disk.p0.ok = true ∧ x.disk.p1.ok = true ∧ x.disk.p2.ok = true := by
  unfold worldErr at h
  split at h
  · rename_i hl
    split at h
    · rename_i hs
      split at h
      · rename_i hd
        rw [wi_iff] at hs
        have hlen : x.log.length ≤ 60 := by
          unfold logErr at hl
          split at hl
          · assumption
          · cases hl
        have hR : Right x.log.reverse := by
          unfold logErr at hl
          rw [if_pos hlen] at hl
          exact hl
        have key : ∀ p : Int, diskOk x p = true → (x.disk.get p).ok = true := fun p hp => by
          simp only [diskOk, Bool.and_eq_true, decide_eq_true_eq] at hp
          rw [← hp.2]
          rw [List.reverse_take]
          exact P3.ok_get (hR.drop _).pok p
        simp only [Bool.and_eq_true] at hd
        exact ⟨hR, hlen, hs, key 0 hd.1, key 1 hd.2.1, key 2 hd.2.2⟩
      · cases h
    · cases h
  · exact absurd h (by assumption)
end Go.Proofs.YtapkelocligmdaaGreatDoor
