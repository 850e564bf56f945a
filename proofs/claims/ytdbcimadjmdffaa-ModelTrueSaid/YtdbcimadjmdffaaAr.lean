/- More operations on numbers; what 'choose' returns. No condition. -/
import Derived.Test.YtdbcimadjmdffaaBi
set_option linter.unusedVariables false
set_option linter.unusedSimpArgs false
set_option linter.unusedSectionVars false
namespace Go.Proofs.Ytdbcimadjmdffaa
open Go.RowKit
section
variable [Inhabited DSx] {P : Program} {E : Env} {n : Nat} {d : Option Nat} {x y : Operand} {T T' T2 : TypeId} {p : String} {af : Array Edge} {k : IntKind} {i j r : Int}
theorem Y.neg (hx : ev E x = some (.int k i)) (hr : k.wrap (-i) = r) : Yp P E n ⟨d, .unOp .neg T x, T', p, af, none⟩ (.int k r) := fun a w s => by
  simp [execOp, s.eval hx, Op.unary, Op.intArith, hr]
theorem Y.rem (hx : ev E x = some (.int k i)) (hy : ev E y = some (.int k j)) (h0 : j ≠ 0) (hr : i.tmod j = r) : Yp P E n ⟨d, .binOp .rem T x y T2, T', p, af, none⟩ (.int k r) := fun a w s => by
  simp [execOp, s.eval hx, s.eval hy, eqGuard, binOp, Op.intArith, Op.intDiv, h0, hr]
end
/-- The number from 0 to n - 1 that c tells. -/
def chooseI (c n : Int) : Int := (if c < 0 then -(c + 1) else c).tmod n
theorem choose_bnd {c n : Int} (hn : 0 < n) : 0 ≤ chooseI c n ∧ chooseI c n < n := by
  unfold chooseI
  have h : 0 ≤ (if c < 0 then -(c + 1) else c) := by split <;> omega
  generalize (if c < 0 then -(c + 1) else c) = m at *
  refine ⟨Int.tmod_nonneg n h, ?_⟩
  exact Int.tmod_lt_of_pos m hn
theorem wf_i64 {a : Int} (h : (Lit.int .i64 a).wf = true) : -9223372036854775808 ≤ a ∧ a ≤ 9223372036854775807 := by
  simp [Lit.wf] at h
  first | exact h | (constructor <;> omega) | (simp [IntKind.min, IntKind.max] at h; omega)
/-! ### A Txn's state never goes back -/
theorem stt_le4 (h : List R) (t : Int) : stt h t ≤ 4 := by
  unfold stt
  repeat' split
  all_goals omega
theorem stt_step {h : List R} {r : R} (hr : Right (r :: h)) (t : Int) : stt h t ≤ stt (r :: h) t ∧ (stt h t = 2 → stt (r :: h) t = 2 ∨ stt (r :: h) t = 4) := by
  obtain ⟨h1, h2, h3⟩ := hr.parts
  have e1 := h1.st t
  have e2 := hr.st t
  have hb := rec_bounds h2
  by_cases ht : r.txn = t
  · subst ht
    obtain ⟨_, f1, f2, f3⟩ := follows_st h3
    have e3 := stt_cons hr
    have := stt_le4 h r.txn
    refine ⟨?_, fun h => ?_⟩
    · by_cases a2 : stt h r.txn = 2
      · have := f2 a2; omega
      · by_cases a3 : stt h r.txn = 3
        · have := f3 a3; omega
        · omega
    · have := f2 h; omega
  · have e3 : stB (r :: h) t = stB h t := by simp [stB, ht]
    rw [e3, e1] at e2
    have e4 : stt (r :: h) t = stt h t := by omega
    rw [e4]
    exact ⟨Nat.le_refl _, fun h => .inl h⟩
theorem stt_drop : ∀ {h : List R} (k : Nat), Right h → ∀ t, stt (h.drop k) t ≤ stt h t ∧ (stt (h.drop k) t = 2 → stt h t = 2 ∨ stt h t = 4)
  | [], k, _, t => by simp; intro h; exact .inl h
  | r :: h, 0, hr, t => ⟨Nat.le_refl _, fun h => .inl h⟩
  | r :: h, k + 1, hr, t => by
    have ih := stt_drop k hr.parts.1 t
    have st := stt_step hr t
    have := stt_le4 (r :: h) t
    simp only [List.drop_succ_cons]
    refine ⟨by omega, fun h2 => ?_⟩
    rcases ih.2 h2 with h3 | h3
    · exact st.2 h3
    · right; omega
theorem last_len : ∀ (h : List R) (t : Int), lastN h t ≤ h.length
  | [], _ => by simp [lastN]
  | r :: h, t => by
    have := last_len h t
    unfold lastN
    split <;> simp <;> omega
theorem last_drop : ∀ {h : List R} (k : Nat) (t : Int), lastN (h.drop k) t ≤ lastN h t
  | [], k, t => by simp
  | r :: h, 0, t => Nat.le_refl _
  | r :: h, k + 1, t => by
    have ih := last_drop (h := h) k t
    have h1 := last_len h t
    have h2 : lastN (r :: h) t = if r.txn = t then h.length + 1 else lastN h t := rfl
    show lastN (h.drop k) t ≤ lastN (r :: h) t
    rw [h2]
    split <;> omega
theorem take_rev {α : Type} (l : List α) (m : Nat) : (l.take m).reverse = l.reverse.drop (l.length - m) := by
  rw [List.reverse_take]
theorem take_right {l : List R} (h : logErr l = 0) (m : Nat) : logErr (l.take m) = 0 := by
  obtain ⟨h1, h2⟩ := log_right h
  unfold logErr
  rw [if_pos (by simp; omega), take_rev]
  exact h2.drop _
theorem logState_ok {l : List R} {t : Int} (h : logErr l = 0) (ht : 1 ≤ t ∧ t ≤ 9) : logState l t = ((stt l.reverse t : Int), (lastN l.reverse t : Int), 0) := by
  unfold logState
  rw [if_pos h, if_pos (wi_iff.2 ht)]
end Go.Proofs.Ytdbcimadjmdffaa
