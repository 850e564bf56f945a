/- Arguments opened: records, acts. No condition. -/
import Derived.Test.YtdbcimadjmdffaaOpen
namespace Go.Proofs.Ytdbcimadjmdffaa
open Go.ChangeShapes Go.WideShapes Go.ChangeAt Go.RowKit Go.Deep
section
variable {H : Type} {enc : TypeId × Value → H} {w : World} {base : Nat} {spare : Nat → Bool} {held : Bool}
theorem int_field {fuel : Nat} {l : List Value} {o : Nat} {y : DataW H × List MemPlace} (h : DataW.trod enc Try.prog w base spare held fuel 3 ((l.drop o).take (Try.prog.cellsOf 3)) = some y) : ∃ i : Int, l[o]? = some (.int .i64 i) := by
  have hc : Try.prog.cellsOf 3 = 1 := by kernel_rfl
  rw [hc] at h
  obtain ⟨i, hi, _⟩ := DataW.trod_int Try.underlying3 h
  refine ⟨i, ?_⟩
  cases hd : l.drop o with
  | nil => rw [hd] at hi; simp at hi
  | cons v r =>
    rw [hd] at hi
    simp at hi
    subst hi
    have : (l.drop o)[0]? = some (.int .i64 i) := by rw [hd]; rfl
    simpa using this
theorem trod_rec {fuel : Nat} {l : List Value} {x : DataW H × List MemPlace} (h : DataW.trod enc Try.prog w base spare held fuel 34 l = some x) : ∃ r : R, ∀ j, j < 8 → l[j]? = r.val.cells[j]? := by
  obtain ⟨xs, m, _, _, _, hl, hf⟩ := DataW.trod_struct Try.underlying34 h
  simp at hl
  have get : ∀ i (hi : i < 8), ∃ y, xs[i]? = some y := fun i hi => ⟨_, List.getElem?_eq_getElem (by omega)⟩
  obtain ⟨y0, e0⟩ := get 0 (by omega)
  obtain ⟨y1, e1⟩ := get 1 (by omega)
  obtain ⟨y2, e2⟩ := get 2 (by omega)
  obtain ⟨y3, e3⟩ := get 3 (by omega)
  obtain ⟨y4, e4⟩ := get 4 (by omega)
  obtain ⟨y5, e5⟩ := get 5 (by omega)
  obtain ⟨y6, e6⟩ := get 6 (by omega)
  obtain ⟨y7, e7⟩ := get 7 (by omega)
  obtain ⟨i0, h0⟩ := int_field ((hf 0 _ rfl).trans e0)
  obtain ⟨i1, h1⟩ := int_field ((hf 1 _ rfl).trans e1)
  obtain ⟨i2, h2⟩ := int_field ((hf 2 _ rfl).trans e2)
  obtain ⟨i3, h3⟩ := int_field ((hf 3 _ rfl).trans e3)
  obtain ⟨i4, h4⟩ := int_field ((hf 4 _ rfl).trans e4)
  obtain ⟨i5, h5⟩ := int_field ((hf 5 _ rfl).trans e5)
  obtain ⟨i6, h6⟩ := int_field ((hf 6 _ rfl).trans e6)
  obtain ⟨i7, h7⟩ := int_field ((hf 7 _ rfl).trans e7)
  refine ⟨⟨i0, i1, i2, i3, i4, i5, i6, i7⟩, fun j hj => ?_⟩
  have : j = 0 ∨ j = 1 ∨ j = 2 ∨ j = 3 ∨ j = 4 ∨ j = 5 ∨ j = 6 ∨ j = 7 := by omega
  rcases this with rfl | rfl | rfl | rfl | rfl | rfl | rfl | rfl <;> assumption
theorem cells_rec : Try.prog.cellsOf 34 = 8 := by kernel_rfl
set_option maxRecDepth 100000 in
theorem open_rec {r : Reach} {b0 : Nat} {v : Value} {d : DataW H} {p : List MemPlace} (hv : Value.okWide Try.prog w r b0 34 v) (h : DataW.Trod enc Try.prog w base spare held 34 v d p) : ∃ q : R, v = q.val := by
  obtain ⟨cs, rfl, hsz⟩ := okWide_struct Try.underlying34 hv
  rw [cells_rec] at hsz
  obtain ⟨fuel, hf⟩ := h
  obtain ⟨q, hq⟩ := trod_rec hf
  refine ⟨q, ?_⟩
  unfold R.val
  congr 1
  apply Array.ext_getElem?
  intro i
  rcases Nat.lt_or_ge i 8 with hi | hi
  · have := hq i hi
    simpa [Value.cells, R.val] using this
  · rw [Array.getElem?_eq_none (by omega), Array.getElem?_eq_none (by simpa using hi)]
end
end Go.Proofs.Ytdbcimadjmdffaa
