/- Scripts, in plain Lean. No condition. -/
import Derived.Test.YtapkelocligmdaaGreatDoorSu
import Derived.Lib.ItoaNum
import Derived.Lib.AtoiAll
set_option linter.unusedVariables false
set_option linter.unusedSimpArgs false
set_option linter.unusedSectionVars false
namespace Go.Proofs.YtapkelocligmdaaGreatDoor
/-- A number's digits. -/
def dg : Nat → Nat → Str
  | 0, _ => []
  | f + 1, n => if n < 10 then [UInt8.ofNat (48 + n)] else dg f (n / 10) ++ [UInt8.ofNat (48 + n % 10)]
def digs (n : Nat) : Str := dg (n + 1) n
theorem dg_fuel : ∀ (f g n : Nat), n < f → n < g → dg f n = dg g n
  | 0, _, _, h, _ => absurd h (Nat.not_lt_zero _)
  | _ + 1, 0, _, _, h => absurd h (Nat.not_lt_zero _)
  | f + 1, g + 1, n, h, k => by
    unfold dg
    split
    · rfl
    · rw [dg_fuel f g (n / 10) (by omega) (by omega)]
theorem digs_small {n : Nat} (h : n < 10) : digs n = [UInt8.ofNat (48 + n)] := by
  unfold digs dg
  rw [if_pos h]
theorem digs_big {n : Nat} (h : ¬ n < 10) : digs n = digs (n / 10) ++ [UInt8.ofNat (48 + n % 10)] := by
  unfold digs
  rw [dg, if_neg h, dg_fuel n (n / 10 + 1) (n / 10) (by omega) (by omega)]
theorem digs_dec (n : Nat) : digs n = Lib.decDigits n := by
  induction n using Nat.strongRecOn with
  | _ n ih =>
    by_cases h : n < 10
    · rw [digs_small h, Lib.decDigits, dif_pos h]
    · rw [digs_big h, ih (n / 10) (by omega), Lib.decDigits.eq_1 n, dif_neg h]
theorem digs_len : ∀ n : Nat, (digs n).length ≤ n + 1 := fun n => by
  induction n using Nat.strongRecOn with
  | _ n ih =>
    by_cases h : n < 10
    · rw [digs_small h]; simp
    · rw [digs_big h, List.length_append]
      have := ih (n / 10) (by omega)
      simp
      omega
def isDig (c : UInt8) : Bool := decide (48 ≤ c.toNat) && decide (c.toNat ≤ 57)
def val (l : Str) : Nat := l.foldl (fun n c => 10 * n + (c.toNat - 48)) 0
/-- What digits say; -1: nothing. -/
def numOf (s : Str) : Int := if 1 ≤ s.length ∧ s.length ≤ 6 ∧ s.all isDig = true ∧ digs (val s) = s then (val s : Int) else -1
theorem val_snoc (l : Str) (c : UInt8) : val (l ++ [c]) = 10 * val l + (c.toNat - 48) := by simp [val]
theorem val_take {s : Str} {k : Nat} {c : UInt8} (h : s[k]? = some c) : val (s.take (k + 1)) = 10 * val (s.take k) + (c.toNat - 48) := by
  rw [List.take_add_one, h]
  exact val_snoc _ _
theorem all_take {s : Str} {k : Nat} {c : UInt8} (h : s[k]? = some c) (ha : (s.take k).all isDig = true) (hc : isDig c = true) : (s.take (k + 1)).all isDig = true := by
  rw [List.take_add_one, h, List.all_append, ha]
  simp [hc]
theorem val_lt : ∀ (k : Nat) (s : Str), s.length = k → s.all isDig = true → val s < 10 ^ k
  | 0, s, h, _ => by
    obtain rfl := List.eq_nil_of_length_eq_zero h
    simp [val]
  | k + 1, s, h, ha => by
    have hs : s ≠ [] := fun e => by subst e; simp at h
    obtain ⟨c, hc⟩ : ∃ c, s.getLast hs = c := ⟨_, rfl⟩
    have e := List.dropLast_concat_getLast hs
    rw [hc] at e
    rw [← e] at ha ⊢
    rw [List.all_append] at ha
    simp at ha
    have ih := val_lt k s.dropLast (by simp [h]) (by simpa using ha.1)
    have hd := ha.2
    simp [isDig] at hd
    rw [val_snoc, Nat.pow_succ]
    omega
/-- A text cut at blanks. -/
def cutAt (c : UInt8) : Str → List Str
  | [] => [[]]
  | x :: s => if x = c then [] :: cutAt c s else match cutAt c s with
    | [] => [[x]]
    | l :: r => (x :: l) :: r
theorem cutAt_ne (c : UInt8) : ∀ s, cutAt c s ≠ []
  | [] => by simp [cutAt]
  | x :: s => by
    unfold cutAt
    split
    · simp
    · split <;> simp
theorem cut_no (c : UInt8) : ∀ (p : Str), (∀ x ∈ p, x ≠ c) → cutAt c p = [p]
  | [], _ => rfl
  | x :: p, h => by
    unfold cutAt
    rw [if_neg (h x (List.mem_cons_self ..)), cut_no c p fun y hy => h y (List.mem_cons_of_mem _ hy)]
theorem cut_yes (c : UInt8) : ∀ (p s : Str), (∀ x ∈ p, x ≠ c) → cutAt c (p ++ c :: s) = p :: cutAt c s
  | [], s, _ => by simp [cutAt]
  | x :: p, s, h => by
    show (if x = c then [] :: cutAt c (p ++ c :: s) else match cutAt c (p ++ c :: s) with
      | [] => [[x]]
      | l :: r => (x :: l) :: r) = (x :: p) :: cutAt c s
    rw [if_neg (h x (List.mem_cons_self ..)), cut_yes c p s fun y hy => h y (List.mem_cons_of_mem _ hy)]
theorem cutAt_len (c : UInt8) : ∀ s : Str, (cutAt c s).length ≤ s.length + 1
  | [] => by simp [cutAt]
  | x :: s => by
    have ih := cutAt_len c s
    unfold cutAt
    split
    · simp; omega
    · split
      · simp
      · rename_i l r e
        rw [e] at ih
        simp at ih ⊢
        omega
/-- Numbers, a blank ahead of each. -/
def spaced (l : List Nat) : Str := (l.map fun n => (32 : UInt8) :: digs n).flatten
def listedOf (l : List Nat) : Str := (spaced l).drop 1
theorem spaced_app (a b : List Nat) : spaced (a ++ b) = spaced a ++ spaced b := by simp [spaced]
def C9.nat (c : C9) : List Nat := [c.a0.toNat, c.a1.toNat, c.a2.toNat, c.b0.toNat, c.b1.toNat, c.b2.toNat, c.c0.toNat, c.c1.toNat, c.c2.toNat]
def C9.ok (c : C9) : Prop := ∀ x ∈ [c.a0, c.a1, c.a2, c.b0, c.b1, c.b2, c.c0, c.c1, c.c2], 0 ≤ x ∧ x ≤ 99
theorem C9.cl_nat {c : C9} (h : c.ok) : ∀ k : Nat, k < 9 → c.cl[k]? = some (.int .i64 (((c.nat[k]?).getD 0 : Nat) : Int)) ∧ (c.nat[k]?).getD 0 ≤ 99 := by
  obtain ⟨a0, a1, a2, b0, b1, b2, c0, c1, c2⟩ := c
  simp only [C9.ok, List.mem_cons, List.not_mem_nil, or_false] at h
  have h0 := h a0 (by simp); have h1 := h a1 (by simp); have h2 := h a2 (by simp)
  have h3 := h b0 (by simp); have h4 := h b1 (by simp); have h5 := h b2 (by simp)
  have h6 := h c0 (by simp); have h7 := h c1 (by simp); have h8 := h c2 (by simp)
  intro k hk
  match k, hk with
  | 0, _ => exact ⟨by simp [C9.cl, C9.nat]; omega, by simp [C9.nat]; omega⟩
  | 1, _ => exact ⟨by simp [C9.cl, C9.nat]; omega, by simp [C9.nat]; omega⟩
  | 2, _ => exact ⟨by simp [C9.cl, C9.nat]; omega, by simp [C9.nat]; omega⟩
  | 3, _ => exact ⟨by simp [C9.cl, C9.nat]; omega, by simp [C9.nat]; omega⟩
  | 4, _ => exact ⟨by simp [C9.cl, C9.nat]; omega, by simp [C9.nat]; omega⟩
  | 5, _ => exact ⟨by simp [C9.cl, C9.nat]; omega, by simp [C9.nat]; omega⟩
  | 6, _ => exact ⟨by simp [C9.cl, C9.nat]; omega, by simp [C9.nat]; omega⟩
  | 7, _ => exact ⟨by simp [C9.cl, C9.nat]; omega, by simp [C9.nat]; omega⟩
  | 8, _ => exact ⟨by simp [C9.cl, C9.nat]; omega, by simp [C9.nat]; omega⟩
  | n + 9, h => omega
theorem nat_take {l : List Nat} {k : Nat} (h : k < l.length) : l.take (k + 1) = l.take k ++ [(l[k]?).getD 0] := by
  rw [List.take_add_one]
  simp [List.getElem?_eq_getElem h]
theorem spaced_one (n : Nat) : spaced [n] = (32 : UInt8) :: digs n := by simp [spaced]
theorem spaced_len : ∀ (l : List Nat), (∀ n ∈ l, n ≤ 99) → (spaced l).length ≤ 101 * l.length
  | [], _ => by simp [spaced]
  | n :: l, h => by
    have h1 := digs_len n
    have h2 := h n (List.mem_cons_self ..)
    have ih := spaced_len l fun y hy => h y (List.mem_cons_of_mem _ hy)
    have e : spaced (n :: l) = ((32 : UInt8) :: digs n) ++ spaced l := by simp [spaced]
    rw [e, List.length_append]
    simp
    omega
theorem spaced_pos {l : List Nat} (h : l ≠ []) : 1 ≤ (spaced l).length := by
  cases l with
  | nil => exact absurd rfl h
  | cons n l => simp [spaced]
end Go.Proofs.YtapkelocligmdaaGreatDoor
