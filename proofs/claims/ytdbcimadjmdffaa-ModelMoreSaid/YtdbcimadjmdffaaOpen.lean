/- Arguments opened: what a value of each of croft's types reads as. No condition. -/
import Derived.Test.YtdbcimadjmdffaaRows
import Derived.Test.YtdbcimadjmdffaaModel
import Derived.Test.YtdbcimadjmdffaaKit
import Derived.ProofKit
import Derived.OpenShut
import Derived.Deep.Slices
import Derived.Deep.Fields
import Derived.ChangeSame
namespace Go.Proofs.Ytdbcimadjmdffaa
open Go.ChangeShapes Go.WideShapes Go.ChangeAt Go.RowKit Go.Deep
section
variable {H : Type} {enc : TypeId × Value → H} {w : World} {base : Nat} {spare : Nat → Bool} {held : Bool}
theorem cells_page : Try.prog.cellsOf 24 = 4 := by kernel_rfl
theorem trod_three {fuel : Nat} {a b c : Value} {x : DataW H × List MemPlace} (h : DataW.trod enc Try.prog w base spare held fuel 22 [a, b, c] = some x) :
    ∃ i j k : Int, a = .int .i64 i ∧ b = .int .i64 j ∧ c = .int .i64 k := by
  obtain ⟨xs, m, _, _, _, hl, hf⟩ := DataW.trod_array Try.underlying22 h
  have hc : Try.prog.cellsOf 3 = 1 := by kernel_rfl
  rw [hc] at hf
  have get : ∀ i (hi : i < 3), ∃ y, xs[i]? = some y := fun i hi => ⟨_, List.getElem?_eq_getElem (by omega)⟩
  obtain ⟨y0, e0⟩ := get 0 (by omega)
  obtain ⟨y1, e1⟩ := get 1 (by omega)
  obtain ⟨y2, e2⟩ := get 2 (by omega)
  obtain ⟨i, hi, _⟩ := DataW.trod_int Try.underlying3 ((hf 0 (by omega)).trans e0)
  obtain ⟨j, hj, _⟩ := DataW.trod_int Try.underlying3 ((hf 1 (by omega)).trans e1)
  obtain ⟨k, hk, _⟩ := DataW.trod_int Try.underlying3 ((hf 2 (by omega)).trans e2)
  simp at hi hj hk
  exact ⟨i, j, k, hi, hj, hk⟩
theorem trod_page {fuel : Nat} {a b c d : Value} {x : DataW H × List MemPlace} (h : DataW.trod enc Try.prog w base spare held fuel 24 [a, b, c, d] = some x) :
    ∃ p : Pg, a = .int .i64 p.c0 ∧ b = .int .i64 p.c1 ∧ c = .int .i64 p.c2 ∧ d = .int .i64 p.last := by
  obtain ⟨xs, m, _, _, _, hl, hf⟩ := DataW.trod_struct Try.underlying24 h
  have hc : Try.prog.cellsOf 3 = 1 := by kernel_rfl
  have hc3 : Try.prog.cellsOf 22 = 3 := by kernel_rfl
  simp at hl
  have get : ∀ i (hi : i < 2), ∃ y, xs[i]? = some y := fun i hi => ⟨_, List.getElem?_eq_getElem (by omega)⟩
  obtain ⟨y0, e0⟩ := get 0 (by omega)
  obtain ⟨y1, e1⟩ := get 1 (by omega)
  have h0 : DataW.trod enc Try.prog w base spare held m 22 (([a, b, c, d].drop 0).take (Try.prog.cellsOf 22)) = some y0 := (hf 0 _ rfl).trans e0
  have h1 : DataW.trod enc Try.prog w base spare held m 3 (([a, b, c, d].drop 3).take (Try.prog.cellsOf 3)) = some y1 := (hf 1 _ rfl).trans e1
  rw [hc3] at h0
  rw [hc] at h1
  obtain ⟨i, j, k, rfl, rfl, rfl⟩ := trod_three (a := a) (b := b) (c := c) h0
  obtain ⟨l, hl, _⟩ := DataW.trod_int Try.underlying3 h1
  simp at hl
  exact ⟨⟨i, j, k, l⟩, rfl, rfl, rfl, hl⟩
set_option maxRecDepth 100000 in
theorem open_page {r : Reach} {b0 : Nat} {v : Value} {d : DataW H} {p : List MemPlace} (hv : Value.okWide Try.prog w r b0 24 v) (h : DataW.Trod enc Try.prog w base spare held 24 v d p) : ∃ q : Pg, v = q.val := by
  obtain ⟨cs, rfl, hsz⟩ := okWide_struct Try.underlying24 hv
  rw [cells_page] at hsz
  obtain ⟨l⟩ := cs
  match l, hsz with
  | [a, b, c, e], _ =>
    obtain ⟨fuel, hf⟩ := h
    obtain ⟨q, rfl, rfl, rfl, rfl⟩ := trod_page hf
    exact ⟨q, rfl⟩
end
end Go.Proofs.Ytdbcimadjmdffaa
