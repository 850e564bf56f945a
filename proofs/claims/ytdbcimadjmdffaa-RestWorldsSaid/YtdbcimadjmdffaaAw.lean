/- Stores into slices that the call owns. No condition. -/
import Derived.Test.YtdbcimadjmdffaaWn
set_option linter.unusedVariables false
set_option linter.unusedSimpArgs false
set_option linter.unusedSectionVars false
namespace Go.Proofs.Ytdbcimadjmdffaa
open Go.RowKit Go.Joins
theorem put_len : ∀ (l : List Value) (i : Nat) (vs : List Value), (Proofs.Ytdbcimadjmdffaa.put l i vs).length = l.length
  | l, i, [] => by rw [put_nil]
  | [], i, v :: vs => by cases i <;> rfl
  | x :: l, 0, v :: vs => by simp [Proofs.Ytdbcimadjmdffaa.put, put_len l 0 vs]
  | x :: l, i + 1, v :: vs => by simp [Proofs.Ytdbcimadjmdffaa.put, put_len l i (v :: vs)]
section
variable [Inhabited DSx] {P : Program} {E : Env} {n : Nat} {H : Hp} {F G : SF} {w0 : World}
/-- A slice of the call's own becomes a block. -/
theorem St.ofOwn {a : Act} {w : World} {g k c size : Nat} {xs : List Value} {T : TypeId} (s : St E n H ((SF.own w0.heap.size T size (.slice (some ⟨g, 0, none⟩) k c) k xs).sep G) w0 a w) :
    ∃ cs : List Value, k ≤ c ∧ c ≤ maxLen ∧ cs.length = c * size ∧ St E n ((g, cs, T) :: H) G w0 a w := by
  obtain ⟨h, hG, hd⟩ := s.fact
  rcases h.2 with ⟨hv, _⟩ | ⟨g', cap, cur, hv, h1, h2, h3, h4, h5, h6⟩
  · simp at hv
  · simp only [Value.slice.injEq, Option.some.injEq, Addr.mk.injEq] at hv
    obtain ⟨⟨rfl, _⟩, _, rfl⟩ := hv
    refine ⟨cur.toList, h3, h4, by simpa using h5, s.env, ⟨fun x hx => ?_, List.pairwise_cons.2 ⟨fun y hy e => ?_, s.hp.nd⟩⟩, hG, fun x hx hk => ?_, s.low⟩
    · rcases List.mem_cons.1 hx with rfl | hx
      · exact ⟨by simpa using h2, h1⟩
      · exact s.hp.blk x hx
    · exact s.sep y hy (.inl (by rw [← e]; rfl))
    · rcases List.mem_cons.1 hx with rfl | hx
      · exact hd g rfl hk
      · exact s.sep x hx (.inr hk)
/-- A store into a slice of the call's own: it stays one, with some cells. -/
theorem E.storeOwn {x y : Operand} {T T' T2 : TypeId} {p : String} {af : Array Edge} {A : Option Addr} {g o k c size kk : Nat} {v : Value} {vs xs : List Value} (hs : ∀ w, (sizeOf T).run P w = .ok kk w)
    (hF : F = (SF.own w0.heap.size T2 size (.slice A k c) k xs).sep G) (hA : A = some ⟨g, 0, none⟩) (hx : ev E x = some (.pointer (some ⟨g, o, none⟩))) (hy : ev E y = some v)
    (hv : v.cells = vs.toArray) (hk : vs.length = kk) (h1 : (vs.all Value.oneCell') = true) (hl : o + kk ≤ k * size) :
    Eff P E n H F w0 ⟨none, .store T x y, T', p, af, none⟩ (fun _ : List Value => E) (fun _ => H) (fun xs' => (SF.own w0.heap.size T2 size (.slice A k c) k xs').sep G) := fun a w s Q K hK => by
  subst hF
  subst hA
  obtain ⟨cs, hkc, hcm, hc, s'⟩ := s.ofOwn
  have hle : k * size ≤ c * size := Nat.mul_le_mul_right _ hkc
  refine Proofs.Ytdbcimadjmdffaa.E.storeP (cs' := Proofs.Ytdbcimadjmdffaa.put cs o vs) hs hx hy hv hk h1 u0 (by omega) rfl a w s' Q K (fun _ a' w' hsz s2 => hK ((Proofs.Ytdbcimadjmdffaa.put cs o vs).take (k * size)) a' w' hsz (s2.toOwn ?_ hkc hcm ?_ rfl))
  · rw [List.length_take, put_len]; omega
  · rw [put_len]; exact hc
end
end Go.Proofs.Ytdbcimadjmdffaa
