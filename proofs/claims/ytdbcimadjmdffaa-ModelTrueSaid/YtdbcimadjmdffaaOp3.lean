/- Arguments opened: slices of records. No condition. -/
import Derived.Test.YtdbcimadjmdffaaOp2
import Derived.Test.YtdbcimadjmdffaaRl
import Derived.Deep.Slices
set_option linter.unusedVariables false
set_option linter.unusedSimpArgs false
set_option linter.unusedSectionVars false
namespace Go.Proofs.Ytdbcimadjmdffaa
open Go.ChangeShapes Go.WideShapes Go.ChangeAt Go.RowKit Go.Deep
section
variable {H : Type} {enc : TypeId × Value → H} {w : World} {base : Nat} {spare : Nat → Bool} {held : Bool}
theorem cells_spot {w : World} {base : Nat} {a : Addr} {n : Nat} {cs : List Value} (h : w.cells? base a (n + 1) = some cs) : a.spot = none ∧ a.block < w.heap.size := by
  obtain ⟨_, hl, hc⟩ := World.cells?_some h
  have h0 := hc 0 (by omega)
  rw [List.getElem?_eq_getElem (by omega)] at h0
  have e : a.add 0 = a := by simp [Addr.add]
  rw [e] at h0
  unfold World.cell? at h0
  split at h0
  · rename_i hb
    refine ⟨?_, blk_lt hb⟩
    cases hs : a.spot with
    | none => rfl
    | some x => rw [hs] at h0; simp at h0
  · cases h0
theorem add_none {b o k : Nat} : (⟨b, o, none⟩ : Addr).add k = ⟨b, o + k, none⟩ := by
  unfold Addr.add
  split <;> simp_all
set_option maxRecDepth 100000 in
theorem open_recs {r : Reach} {b0 : Nat} {v : Value} {d : DataW H} {p : List MemPlace} (hv : Value.okWide Try.prog w r b0 39 v) (h : DataW.Trod enc Try.prog w base spare held 39 v d p) :
    ∃ (l : List R) (A : Option Addr) (b o c : Nat), v = .slice A l.length c ∧ l.length ≤ maxLen ∧ l.length ≤ c ∧ c ≤ maxLen ∧ RL w A b o l := by
  obtain ⟨a0, len, cap, rfl⟩ := okWide_slice Try.underlying39 hv
  obtain ⟨fuel, hf⟩ := h
  rcases open_slice Try.underlying39 hf with ⟨hcs, _⟩ | ⟨a, len', cap', m, n, D, Pl, hcs, hb, hl, hm, hmm, hx, hel⟩
  · simp [Value.cells] at hcs
    obtain ⟨rfl, rfl, rfl⟩ := hcs
    exact ⟨[], none, 0, 0, 0, rfl, (by rw [List.length_nil]; exact Nat.zero_le _), (by rw [List.length_nil]; exact Nat.zero_le _), (by exact Nat.zero_le _), ⟨fun hn => absurd rfl hn, fun i r hi => by simp at hi⟩⟩
  · simp [Value.cells] at hcs
    obtain ⟨rfl, rfl, rfl⟩ := hcs
    have hlm : len ≤ m := by rw [hmm]; split <;> omega
    haveI : Inhabited R := ⟨R.zero⟩
    obtain ⟨f, hfx⟩ := choose_lt (α := R) (n := len) (p := fun i q => ∀ j, j < 8 → w.cell? (a.add (i * 8 + j)) = q.cl[j]?) (fun i hi => by
      obtain ⟨cs', h1, h2⟩ := hel i (by omega)
      rw [cells_rec] at h1
      obtain ⟨q, hq⟩ := trod_rec h2
      refine ⟨q, fun j hj => ?_⟩
      have h3 := (World.cells?_some h1).2.2 j hj
      rw [add_add] at h3
      rw [h3, hq j hj]
      simp [R.val, Value.cells, R.cl])
    have hsp : 0 < len → a = ⟨a.block, a.off, none⟩ ∧ a.block < w.heap.size := fun h0 => by
      obtain ⟨cs', h1, h2⟩ := hel 0 (by omega)
      rw [cells_rec, Nat.zero_mul] at h1
      have e : a.add 0 = a := by simp [Addr.add]
      rw [e] at h1
      obtain ⟨h3, h4⟩ := cells_spot h1
      exact ⟨by cases a; simp_all, h4⟩
    refine ⟨(List.range len).map f, some a, a.block, a.off, cap, by simp, (by rw [List.length_map, List.length_range]; omega), (by rw [List.length_map, List.length_range]; exact hl), hm, ⟨fun hn => ?_, fun i r hi j u hu => ?_⟩⟩
    · have h0 : 0 < len := by
        rcases Nat.eq_zero_or_pos len with h | h
        · subst h; exact absurd rfl hn
        · exact h
      exact ⟨by rw [(hsp h0).1], (hsp h0).2⟩
    · have hi2 := get_lt hi
      simp at hi2
      have e : r = f i := by
        rw [List.getElem?_map, List.getElem?_range hi2] at hi
        exact (Option.some.inj hi).symm
      have := hfx i hi2 j (cl_lt hu)
      rw [(hsp (by omega)).1, add_none] at this
      rw [Nat.add_assoc, this, ← e]
      exact hu
end
end Go.Proofs.Ytdbcimadjmdffaa
