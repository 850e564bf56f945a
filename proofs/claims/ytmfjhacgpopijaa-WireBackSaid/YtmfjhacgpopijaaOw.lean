/- Arguments opened: worlds; acts; lists of numbers, of bools, of acts. No condition. -/
import Derived.Test.YtmfjhacgpopijaaBu
set_option linter.unusedVariables false
set_option linter.unusedSimpArgs false
set_option linter.unusedSectionVars false
set_option maxRecDepth 100000
namespace Go.Proofs.Ytmfjhacgpopijaa
open Go.ChangeShapes Go.WideShapes Go.ChangeAt Go.RowKit Go.Deep
section
variable {H : Type} {enc : TypeId × Value → H} {w : World} {base : Nat} {spare : Nat → Bool} {held : Bool}
theorem trod_recs {fuel : Nat} {cs : List Value} {x : DataW H × List MemPlace} (hf : DataW.trod enc Try.prog w base spare held fuel 26 cs = some x) :
    ∃ (l : List R) (A : Option Addr) (b o c : Nat), cs = [.slice A l.length c] ∧ l.length ≤ maxLen ∧ l.length ≤ c ∧ RL w A b o l := by
  rcases open_slice Try.underlying26 hf with ⟨hcs, _⟩ | ⟨a, len, cap, m, n, D, Pl, hcs, hb, hl, hm, hmm, hx, hel⟩
  · exact ⟨[], none, 0, 0, 0, hcs, (by rw [List.length_nil]; exact Nat.zero_le _), (by rw [List.length_nil]; exact Nat.zero_le _), ⟨fun hn => absurd rfl hn, fun i r hi => by simp at hi⟩⟩
  · subst hcs
    have hlm : len ≤ m := by rw [hmm]; split <;> omega
    haveI : Inhabited R := ⟨R.zero⟩
    obtain ⟨f, hfx⟩ := choose_lt (α := R) (n := len) (p := fun i q => ∀ j, j < 8 → w.cell? (a.add (i * 8 + j)) = q.cl[j]?) (fun i hi => by
      obtain ⟨cs', h1, h2⟩ := hel i (by omega)
      rw [cells_rec] at h1
      obtain ⟨q, hq⟩ := trod_rec h2
      refine ⟨q, fun j hj => ?_⟩
      have h3 := (World.cells?_some h1).2.2 j hj
      rw [add_add] at h3
      rw [h3, hq j hj]
      simp [R.val, Value.cells, R.cl])
    have hsp : 0 < len → a = ⟨a.block, a.off, none⟩ ∧ a.block < w.heap.size := fun h0 => by
      obtain ⟨cs', h1, h2⟩ := hel 0 (by omega)
      rw [cells_rec, Nat.zero_mul] at h1
      have e : a.add 0 = a := by simp [Addr.add]
      rw [e] at h1
      obtain ⟨h3, h4⟩ := cells_spot h1
      exact ⟨by cases a; simp_all, h4⟩
    refine ⟨(List.range len).map f, some a, a.block, a.off, cap, by simp, (by rw [List.length_map, List.length_range]; omega), (by rw [List.length_map, List.length_range]; exact hl), ⟨fun hn => ?_, fun i r hi j u hu => ?_⟩⟩
    · have h0 : 0 < len := by
        rcases Nat.eq_zero_or_pos len with h | h
        · subst h; exact absurd rfl hn
        · exact h
      exact ⟨by rw [(hsp h0).1], (hsp h0).2⟩
    · have hi2 := get_lt hi
      simp at hi2
      have e : r = f i := by
        rw [List.getElem?_map, List.getElem?_range hi2] at hi
        exact (Option.some.inj hi).symm
      have := hfx i hi2 j (cl_lt hu)
      rw [(hsp (by omega)).1, add_none] at this
      rw [Nat.add_assoc, this, ← e]
      exact hu
theorem cells_world : Try.prog.cellsOf 28 = 14 := by kernel_rfl
theorem cells_pages : Try.prog.cellsOf 25 = 12 := by kernel_rfl
theorem cells_rl : Try.prog.cellsOf 26 = 1 := by kernel_rfl
theorem trod_pages {fuel : Nat} {a0 a1 a2 a3 b0 b1 b2 b3 c0 c1 c2 c3 : Value} {x : DataW H × List MemPlace} (h : DataW.trod enc Try.prog w base spare held fuel 25 [a0, a1, a2, a3, b0, b1, b2, b3, c0, c1, c2, c3] = some x) :
    ∃ p : P3, [a0, a1, a2, a3, b0, b1, b2, b3, c0, c1, c2, c3] = p.cl := by
  obtain ⟨xs, m, _, _, _, hl, hf⟩ := DataW.trod_array Try.underlying25 h
  rw [cells_pg] at hf
  have get : ∀ i (hi : i < 3), ∃ y, xs[i]? = some y := fun i hi => ⟨_, List.getElem?_eq_getElem (by omega)⟩
  obtain ⟨y0, e0⟩ := get 0 (by omega)
  obtain ⟨y1, e1⟩ := get 1 (by omega)
  obtain ⟨y2, e2⟩ := get 2 (by omega)
  have h0 : DataW.trod enc Try.prog w base spare held m 24 [a0, a1, a2, a3] = some y0 := (hf 0 (by omega)).trans e0
  have h1 : DataW.trod enc Try.prog w base spare held m 24 [b0, b1, b2, b3] = some y1 := (hf 1 (by omega)).trans e1
  have h2 : DataW.trod enc Try.prog w base spare held m 24 [c0, c1, c2, c3] = some y2 := (hf 2 (by omega)).trans e2
  obtain ⟨p0, rfl, rfl, rfl, rfl⟩ := trod_page h0
  obtain ⟨p1, rfl, rfl, rfl, rfl⟩ := trod_page h1
  obtain ⟨p2, rfl, rfl, rfl, rfl⟩ := trod_page h2
  exact ⟨⟨p0, p1, p2⟩, rfl⟩
theorem open_world {r : Reach} {b0 : Nat} {v : Value} {d : DataW H} {p : List MemPlace} (hv : Value.okWide Try.prog w r b0 28 v) (h : DataW.Trod enc Try.prog w base spare held 28 v d p) :
    ∃ (x : Wd) (A : Option Addr) (b o c : Nat), v = x.val A c ∧ x.log.length ≤ maxLen ∧ x.log.length ≤ c ∧ RL w A b o x.log := by
  obtain ⟨cs, rfl, hsz⟩ := okWide_struct Try.underlying28 hv
  rw [cells_world] at hsz
  obtain ⟨l⟩ := cs
  match l, hsz with
  | [a0, a1, a2, a3, b0, b1, b2, b3, c0, c1, c2, c3, s, n], _ =>
    obtain ⟨fuel, hf⟩ := h
    obtain ⟨xs, m, _, _, _, hl, hf⟩ := DataW.trod_struct Try.underlying28 hf
    simp at hl
    have get : ∀ i (hi : i < 3), ∃ y, xs[i]? = some y := fun i hi => ⟨_, List.getElem?_eq_getElem (by omega)⟩
    obtain ⟨y0, e0⟩ := get 0 (by omega)
    obtain ⟨y1, e1⟩ := get 1 (by omega)
    obtain ⟨y2, e2⟩ := get 2 (by omega)
    have h0 := (hf 0 _ rfl).trans e0
    have h1 := (hf 1 _ rfl).trans e1
    have h2 : DataW.trod enc Try.prog w base spare held m 3 (([a0, a1, a2, a3, b0, b1, b2, b3, c0, c1, c2, c3, s, n].drop 13).take (Try.prog.cellsOf 3)) = some y2 := (hf 2 _ rfl).trans e2
    have h0' : DataW.trod enc Try.prog w base spare held m 25 [a0, a1, a2, a3, b0, b1, b2, b3, c0, c1, c2, c3] = some y0 := by
      have : DataW.trod enc Try.prog w base spare held m 25 (([a0, a1, a2, a3, b0, b1, b2, b3, c0, c1, c2, c3, s, n].drop 0).take (Try.prog.cellsOf 25)) = some y0 := h0
      rw [cells_pages] at this
      exact this
    have h1' : DataW.trod enc Try.prog w base spare held m 26 [s] = some y1 := by
      have : DataW.trod enc Try.prog w base spare held m 26 (([a0, a1, a2, a3, b0, b1, b2, b3, c0, c1, c2, c3, s, n].drop 12).take (Try.prog.cellsOf 26)) = some y1 := h1
      rw [cells_rl] at this
      exact this
    obtain ⟨q, hq⟩ := trod_pages h0'
    obtain ⟨l, A, b, o, c, hs, hm, hc, hr⟩ := trod_recs h1'
    obtain ⟨i, hi⟩ := int_field h2
    simp at hi
    injection hs with hs
    subst hs hi
    simp only [P3.cl, List.cons.injEq, and_true] at hq
    obtain ⟨rfl, rfl, rfl, rfl, rfl, rfl, rfl, rfl, rfl, rfl, rfl, rfl⟩ := hq
    exact ⟨⟨q, l, i⟩, A, b, o, c, rfl, hm, hc, hr⟩
end
end Go.Proofs.Ytmfjhacgpopijaa
