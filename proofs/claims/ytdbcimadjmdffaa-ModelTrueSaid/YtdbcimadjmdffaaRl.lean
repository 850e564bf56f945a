/- Slices that read as records, or as numbers. No condition. -/
import Derived.Test.YtdbcimadjmdffaaFc
import Derived.Test.YtdbcimadjmdffaaLogM
import Derived.Test.YtdbcimadjmdffaaEqs
set_option linter.unusedVariables false
set_option linter.unusedSimpArgs false
set_option linter.unusedSectionVars false
namespace Go.Proofs.Ytdbcimadjmdffaa
open Go.RowKit
def R.cl (r : R) : List Value := [.int .i64 r.kind, .int .i64 r.txn, .int .i64 r.prev, .int .i64 r.page, .int .i64 r.cell, .int .i64 r.old, .int .i64 r.new, .int .i64 r.next]
/-- The slice at A, whose cells lie in block b from o on, reads as l. -/
structure RL (w : World) (A : Option Addr) (b o : Nat) (l : List R) : Prop where
  at_ : l ≠ [] → A = some ⟨b, o, none⟩ ∧ b < w.heap.size
  cell : ∀ i r, l[i]? = some r → ∀ j v, r.cl[j]? = some v → w.cell? ⟨b, o + i * 8 + j, none⟩ = some v
theorem ne_of_get {α : Type} {l : List α} {i : Nat} {r : α} (h : l[i]? = some r) : l ≠ [] := by
  rintro rfl
  simp at h
theorem RL.addr {w : World} {A : Option Addr} {b o : Nat} {l : List R} (h : RL w A b o l) {i : Nat} {r : R} (hi : l[i]? = some r) : A = some ⟨b, o, none⟩ := (h.at_ (ne_of_get hi)).1
theorem get_lt {α : Type} {l : List α} {i : Nat} {r : α} (hi : l[i]? = some r) : i < l.length := (List.getElem?_eq_some_iff.1 hi).1
theorem get_ltI {α : Type} {l : List α} {i : Nat} {r : α} (hi : l[i]? = some r) : (i : Int) < (l.length : Int) := by have := get_lt hi; omega
theorem nat0 (k : Nat) : (0 : Int) ≤ (k : Int) := by omega
theorem RL.below {w w' : World} {A : Option Addr} {b o : Nat} {l : List R} (h : RL w A b o l) (hb : Below w.heap.size w w') : RL w' A b o l :=
  ⟨fun hn => ⟨(h.at_ hn).1, Nat.lt_of_lt_of_le (h.at_ hn).2 hb.size⟩, fun i r hi j v hv => (hb.cell (p := ⟨b, o + i * 8 + j, none⟩) (h.at_ (ne_of_get hi)).2).trans (h.cell i r hi j v hv)⟩
theorem RL.below' {w w' : World} {A : Option Addr} {b o B : Nat} {l : List R} (h : RL w A b o l) (hB : b < B) (hb : Below B w w') : RL w' A b o l :=
  ⟨fun hn => ⟨(h.at_ hn).1, Nat.lt_of_lt_of_le (h.at_ hn).2 hb.size⟩, fun i r hi j v hv => (hb.cell (p := ⟨b, o + i * 8 + j, none⟩) hB).trans (h.cell i r hi j v hv)⟩
theorem RL.take {w : World} {A : Option Addr} {b o : Nat} {l : List R} (h : RL w A b o l) (k : Nat) : RL w A b o (l.take k) :=
  ⟨fun hn => h.at_ (fun e => hn (by simp [e])), fun i r hi => h.cell i r (by
    rw [List.getElem?_take] at hi
    split at hi
    · exact hi
    · cases hi)⟩
theorem cl_lt {r : R} {j : Nat} {v : Value} (h : r.cl[j]? = some v) : j < 8 := by
  have := (List.getElem?_eq_some_iff.1 h).1
  simpa [R.cl] using this
theorem RL.full {w : World} {A : Option Addr} {b o : Nat} {l : List R} (h : RL w A b o l) {i : Nat} {r : R} (hi : l[i]? = some r) (j : Nat) (hj : j < 8) : w.cell? ⟨b, o + i * 8 + j, none⟩ = r.cl[j]? := by
  have hl : j < r.cl.length := by simpa [R.cl] using hj
  rw [List.getElem?_eq_getElem hl]
  exact h.cell i r hi j _ (List.getElem?_eq_getElem hl)
/-- A record put behind those ahead. -/
theorem takeS {l : List R} {k : Nat} {r : R} (h : l[k]? = some r) : (l.take (k + 1)).reverse = r :: (l.take k).reverse := by
  obtain ⟨hl, he⟩ := List.getElem?_eq_some_iff.1 h
  rw [List.take_succ_eq_append_getElem hl, List.reverse_append, he]
  rfl
theorem takeL {l : List R} {k : Nat} {r : R} (h : l[k]? = some r) : (l.take k).reverse.length = k := by
  have := get_lt h
  simp
  omega
theorem eqi {k : IntKind} {i j : Int} (h : i = j) : some (Value.int k i) = some (.int k j) := by rw [h]
theorem eqb {i j : Bool} (h : i = j) : some (Value.bool i) = some (.bool j) := by rw [h]
section
variable [Inhabited DSx] {P : Program} {E : Env} {n : Nat} {H : Hp} {F : SF} {w0 : World} {d : Option Nat} {x y : Operand} {T T' : TypeId} {p : String} {af : Array Edge} {i : Int}
/-- An index into a slice whose place is known apart. -/
theorem Y.ixSlA {A : Option Addr} {b o len cap e sz : Nat} (hu : P.underlying T = some (.slice e)) (hs : ∀ w, (sizeOf e).run P w = .ok sz w) (hx : ev E x = some (.slice A len cap)) (hy : ev E y = some (.int .i64 i)) (hA : A = some ⟨b, o, none⟩) (h0 : 0 ≤ i) (h1 : i < len) :
    Yp P E n ⟨d, .indexAddr T x y, T', p, af, none⟩ (.pointer (some ⟨b, o + i.toNat * sz, none⟩)) := by
  subst hA
  exact Y.ixSl hu hs hx hy h0 h1
end
end Go.Proofs.Ytdbcimadjmdffaa
