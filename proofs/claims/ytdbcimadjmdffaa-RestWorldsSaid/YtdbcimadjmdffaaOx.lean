/- Arguments opened: slices of bools, of numbers, of acts; acts. No condition. -/
import Derived.Test.YtdbcimadjmdffaaOw
set_option linter.unusedVariables false
set_option linter.unusedSimpArgs false
set_option linter.unusedSectionVars false
set_option maxRecDepth 100000
namespace Go.Proofs.Ytdbcimadjmdffaa
open Go.ChangeShapes Go.WideShapes Go.ChangeAt Go.RowKit Go.Deep
/-- A row of things of so many cells each. -/
structure XL {α : Type} (cl : α → List Value) (sz : Nat) (w : World) (A : Option Addr) (b o : Nat) (l : List α) : Prop where
  at_ : l ≠ [] → A = some ⟨b, o, none⟩ ∧ b < w.heap.size
  cell : ∀ i r, l[i]? = some r → ∀ j v, (cl r)[j]? = some v → w.cell? ⟨b, o + i * sz + j, none⟩ = some v
theorem XL.addr {α : Type} {cl : α → List Value} {sz : Nat} {w : World} {A : Option Addr} {b o : Nat} {l : List α} (h : XL cl sz w A b o l) {i : Nat} {r : α} (hi : l[i]? = some r) : A = some ⟨b, o, none⟩ := (h.at_ (ne_of_get hi)).1
theorem XL.below {α : Type} {cl : α → List Value} {sz : Nat} {w w' : World} {A : Option Addr} {b o : Nat} {l : List α} (h : XL cl sz w A b o l) (hb : Below w.heap.size w w') : XL cl sz w' A b o l :=
  ⟨fun hn => ⟨(h.at_ hn).1, by have := (h.at_ hn).2; have := hb.size; omega⟩, fun i r hi j v hv => by
    have h1 := (h.at_ (ne_of_get hi)).2
    have h2 := h.cell i r hi j v hv
    unfold World.cell? at h2 ⊢
    dsimp only at h2 ⊢
    rw [hb.block b h1]
    exact h2⟩
theorem XL.full {α : Type} {cl : α → List Value} {sz : Nat} {w : World} {A : Option Addr} {b o : Nat} {l : List α} (h : XL cl sz w A b o l) (hs : ∀ r, (cl r).length = sz) {i : Nat} {r : α} (hi : l[i]? = some r) (j : Nat) (hj : j < sz) : w.cell? ⟨b, o + i * sz + j, none⟩ = (cl r)[j]? := by
  have h1 : j < (cl r).length := by rw [hs]; exact hj
  rw [List.getElem?_eq_getElem h1]
  exact h.cell i r hi j _ (List.getElem?_eq_getElem h1)
def boolC (b : Bool) : List Value := [.bool b]
def intC (n : Int) : List Value := [.int .i64 n]
def Ac.cl (a : Ac) : List Value := [.int .i64 a.kind, .int .i64 a.txn, .int .i64 a.page, .int .i64 a.cell, .int .i64 a.val]
def Ac.v (a : Ac) : Value := .agg a.cl.toArray
abbrev BL := XL boolC 1
abbrev NL := XL intC 1
abbrev AL := XL Ac.cl 5
section
variable {H : Type} {enc : TypeId × Value → H} {w : World} {base : Nat} {spare : Nat → Bool} {held : Bool}
theorem open_rows {α : Type} [Inhabited α] (cl : α → List Value) (sz : Nat) (p : α → Prop) {T e : TypeId} (hu : Try.prog.underlying T = some (.slice e)) (hce : Try.prog.cellsOf e = sz + 1) (hs : ∀ q, (cl q).length = sz + 1)
    (hq : ∀ {fuel : Nat} {l : List Value} {x : DataW H × List MemPlace}, DataW.trod enc Try.prog w base spare held fuel e l = some x → ∃ q : α, p q ∧ ∀ j, j < sz + 1 → l[j]? = (cl q)[j]?)
    {r : Reach} {b0 : Nat} {v : Value} {d : DataW H} {pl : List MemPlace} (hv : Value.okWide Try.prog w r b0 T v) (h : DataW.Trod enc Try.prog w base spare held T v d pl) :
    ∃ (l : List α) (A : Option Addr) (b o c : Nat), v = .slice A l.length c ∧ l.length ≤ maxLen ∧ l.length ≤ c ∧ (∀ q ∈ l, p q) ∧ XL cl (sz + 1) w A b o l := by
  obtain ⟨a0, len, cap, rfl⟩ := okWide_slice hu hv
  obtain ⟨fuel, hf⟩ := h
  rcases open_slice hu hf with ⟨hcs, _⟩ | ⟨a, len', cap', m, n, D, Pl, hcs, hb, hl, hm, hmm, hx, hel⟩
  · simp [Value.cells] at hcs
    obtain ⟨rfl, rfl, rfl⟩ := hcs
    exact ⟨[], none, 0, 0, 0, rfl, (by rw [List.length_nil]; exact Nat.zero_le _), (by rw [List.length_nil]; exact Nat.zero_le _), (fun q hq => by cases hq), ⟨fun hn => absurd rfl hn, fun i r hi => by simp at hi⟩⟩
  · simp [Value.cells] at hcs
    obtain ⟨rfl, rfl, rfl⟩ := hcs
    have hlm : len ≤ m := by rw [hmm]; split <;> omega
    obtain ⟨f, hfx⟩ := choose_lt (α := α) (n := len) (p := fun i q => p q ∧ ∀ j, j < sz + 1 → w.cell? (a.add (i * (sz + 1) + j)) = (cl q)[j]?) (fun i hi => by
      obtain ⟨cs', h1, h2⟩ := hel i (by omega)
      rw [hce] at h1
      obtain ⟨q, hp, hq⟩ := hq h2
      refine ⟨q, hp, fun j hj => ?_⟩
      have h3 := (World.cells?_some h1).2.2 j hj
      rw [add_add] at h3
      rw [h3, hq j hj])
    have hsp : 0 < len → a = ⟨a.block, a.off, none⟩ ∧ a.block < w.heap.size := fun h0 => by
      obtain ⟨cs', h1, h2⟩ := hel 0 (by omega)
      rw [hce, Nat.zero_mul] at h1
      have e : a.add 0 = a := by simp [Addr.add]
      rw [e] at h1
      obtain ⟨h3, h4⟩ := cells_spot h1
      exact ⟨by cases a; simp_all, h4⟩
    refine ⟨(List.range len).map f, some a, a.block, a.off, cap, by simp, (by rw [List.length_map, List.length_range]; omega), (by rw [List.length_map, List.length_range]; exact hl), (fun q hq => ?_), ⟨fun hn => ?_, fun i r hi j u hu => ?_⟩⟩
    · obtain ⟨i, hi, rfl⟩ := List.mem_map.1 hq
      exact (hfx i (List.mem_range.1 hi)).1
    · have h0 : 0 < len := by
        rcases Nat.eq_zero_or_pos len with h | h
        · subst h; exact absurd rfl hn
        · exact h
      exact ⟨by rw [(hsp h0).1], (hsp h0).2⟩
    · have hi2 := get_lt hi
      simp at hi2
      have e : r = f i := by
        rw [List.getElem?_map, List.getElem?_range hi2] at hi
        exact (Option.some.inj hi).symm
      have := (hfx i hi2).2 j (by rw [← hs r]; exact (List.getElem?_eq_some_iff.1 hu).1)
      rw [(hsp (by omega)).1, add_none] at this
      rw [Nat.add_assoc, this, ← e]
      exact hu
theorem trod_act {fuel : Nat} {l : List Value} {x : DataW H × List MemPlace} (h : DataW.trod enc Try.prog w base spare held fuel 61 l = some x) : ∃ r : Ac, True ∧ ∀ j, j < 4 + 1 → l[j]? = r.cl[j]? := by
  obtain ⟨xs, m, _, _, _, hl, hf⟩ := DataW.trod_struct Try.underlying61 h
  simp at hl
  have get : ∀ i (hi : i < 5), ∃ y, xs[i]? = some y := fun i hi => ⟨_, List.getElem?_eq_getElem (by omega)⟩
  obtain ⟨y0, e0⟩ := get 0 (by omega)
  obtain ⟨y1, e1⟩ := get 1 (by omega)
  obtain ⟨y2, e2⟩ := get 2 (by omega)
  obtain ⟨y3, e3⟩ := get 3 (by omega)
  obtain ⟨y4, e4⟩ := get 4 (by omega)
  obtain ⟨i0, h0⟩ := int_field ((hf 0 _ rfl).trans e0)
  obtain ⟨i1, h1⟩ := int_field ((hf 1 _ rfl).trans e1)
  obtain ⟨i2, h2⟩ := int_field ((hf 2 _ rfl).trans e2)
  obtain ⟨i3, h3⟩ := int_field ((hf 3 _ rfl).trans e3)
  obtain ⟨i4, h4⟩ := int_field ((hf 4 _ rfl).trans e4)
  refine ⟨⟨i0, i1, i2, i3, i4⟩, trivial, fun j hj => ?_⟩
  have : j = 0 ∨ j = 1 ∨ j = 2 ∨ j = 3 ∨ j = 4 := by omega
  rcases this with rfl | rfl | rfl | rfl | rfl <;> assumption
theorem cells_act : Try.prog.cellsOf 61 = 4 + 1 := by kernel_rfl
theorem cells_bool : Try.prog.cellsOf 4 = 0 + 1 := by kernel_rfl
theorem cells_int1 : Try.prog.cellsOf 3 = 0 + 1 := by kernel_rfl
theorem open_act {r : Reach} {b0 : Nat} {v : Value} {d : DataW H} {p : List MemPlace} (hv : Value.okWide Try.prog w r b0 61 v) (h : DataW.Trod enc Try.prog w base spare held 61 v d p) : ∃ q : Ac, v = q.v := by
  obtain ⟨cs, rfl, hsz⟩ := okWide_struct Try.underlying61 hv
  rw [cells_act] at hsz
  obtain ⟨fuel, hf⟩ := h
  obtain ⟨q, _, hq⟩ := trod_act hf
  refine ⟨q, ?_⟩
  unfold Ac.v
  congr 1
  apply Array.ext_getElem?
  intro i
  rcases Nat.lt_or_ge i 5 with hi | hi
  · have := hq i hi
    simpa [Value.cells] using this
  · rw [Array.getElem?_eq_none (by omega), Array.getElem?_eq_none (by simpa [Ac.cl] using hi)]
theorem open_acts {r : Reach} {b0 : Nat} {v : Value} {d : DataW H} {p : List MemPlace} (hv : Value.okWide Try.prog w r b0 55 v) (h : DataW.Trod enc Try.prog w base spare held 55 v d p) :
    ∃ (l : List Ac) (A : Option Addr) (b o c : Nat), v = .slice A l.length c ∧ l.length ≤ maxLen ∧ l.length ≤ c ∧ (∀ q ∈ l, True) ∧ AL w A b o l := by
  haveI : Inhabited Ac := ⟨⟨0, 0, 0, 0, 0⟩⟩
  exact open_rows Ac.cl 4 (fun _ => True) Try.underlying55 cells_act (fun _ => rfl) trod_act hv h
theorem open_bools {r : Reach} {b0 : Nat} {v : Value} {d : DataW H} {p : List MemPlace} (hv : Value.okWide Try.prog w r b0 89 v) (h : DataW.Trod enc Try.prog w base spare held 89 v d p) :
    ∃ (l : List Bool) (A : Option Addr) (b o c : Nat), v = .slice A l.length c ∧ l.length ≤ maxLen ∧ l.length ≤ c ∧ (∀ q ∈ l, True) ∧ BL w A b o l :=
  open_rows boolC 0 (fun _ => True) Try.underlying89 cells_bool (fun _ => rfl) (fun {fuel l x} hf => by
    obtain ⟨b, hb, _⟩ := DataW.trod_bool Try.underlying4 hf
    subst hb
    exact ⟨b, trivial, fun j hj => rfl⟩) hv h
def I64 (n : Int) : Prop := -9223372036854775808 ≤ n ∧ n ≤ 9223372036854775807
theorem open_ints {r : Reach} {b0 : Nat} {v : Value} {d : DataW H} {p : List MemPlace} (hv : Value.okWide Try.prog w r b0 64 v) (h : DataW.Trod enc Try.prog w base spare held 64 v d p) :
    ∃ (l : List Int) (A : Option Addr) (b o c : Nat), v = .slice A l.length c ∧ l.length ≤ maxLen ∧ l.length ≤ c ∧ (∀ q ∈ l, I64 q) ∧ NL w A b o l :=
  open_rows intC 0 I64 Try.underlying64 cells_int1 (fun _ => rfl) (fun {fuel l x} hf => by
    obtain ⟨b, hb, _, hw⟩ := DataW.trod_int Try.underlying3 hf
    subst hb
    exact ⟨b, wf_i64 hw, fun j hj => rfl⟩) hv h
end
theorem BL.ofW {u w : World} {H : Hp} {F : SF} {g : Nat} {cs : List Value} (l : List Bool) {T : TypeId} (hw : Wp u H F w) (hm : (g, cs, T) ∈ H) (hc : l.map Value.bool = cs) : BL w (some ⟨g, 0, none⟩) g 0 l := by
  subst hc
  refine ⟨fun _ => ⟨rfl, hw.1.lt hm⟩, fun i x hi j v hv => ?_⟩
  have hj : j = 0 := by
    have := (List.getElem?_eq_some_iff.1 hv).1
    simp [boolC] at this
    omega
  subst hj
  rw [hw.1.cell hm]
  simp only [boolC, List.getElem?_cons_zero] at hv
  rw [← hv]
  simp [hi]
end Go.Proofs.Ytdbcimadjmdffaa
