/- More operations: append of what is handed in, the greater of two; a block that becomes a slice of the call's own. No condition. -/
import Derived.Test.YtmfjhacgpopijaaP4
set_option linter.unusedVariables false
set_option linter.unusedSimpArgs false
set_option linter.unusedSectionVars false
set_option maxRecDepth 100000
namespace Go.Proofs.Ytmfjhacgpopijaa
open Go.RowKit Go.Joins
section
variable {P : Program}
/-- append of nothing. -/
theorem run_append_own0 {w : World} {base T ty e size k c m : Nat} {i : TypeInfo} {A A2 : Option Addr} {xs : List Value} (ht : P.underlying T = some (.slice e)) (hi : P.info? e = some i) (hsize : i.size = size)
    (h : w.ownsRow base e size (.slice A k c) k xs) : (Builtin.append_ #[T, T] ty #[.slice A k c, .slice A2 0 m]).run P w = .ok (.slice A k c) w := by
  have hle := own_le h
  have hz : (Builtin.firstCells i.size 0 (.slice A2 0 m)).run P w = .ok #[] w := by
    cases A2 <;> simp [Builtin.firstCells, loadCells, loadCellsFrom]
  cases A with
  | none => simp [Builtin.append_, run_underlying ht, sizeOf, typeInfo, hi, Builtin.lenOf, hle, hz]
  | some a => simp [Builtin.append_, run_underlying ht, sizeOf, typeInfo, hi, Builtin.lenOf, hle, hz, storeCells]
end
section
variable [Inhabited DSx] {P : Program} {ops : Array Oper} {Q : Exit → Act → World → Prop} {E : Env} {n : Nat} {H : Hp} {F G : SF} {w0 : World}
theorem Y.max {d : Option Nat} {x y : Operand} {T' T1 T2 : TypeId} {p : String} {af : Array Edge} {k : IntKind} {i j : Int} (hx : ev E x = some (.int k i)) (hy : ev E y = some (.int k j)) : Yp P E n ⟨d, .call { callee := .builtin .max, args := #[x, y], argTypes := #[T1, T2] }, T', p, af, none⟩ (.int k (Max.max i j)) := fun a w s => by
  have e : (if j > i then j else i) = Max.max i j := by
    rw [Int.max_def]
    split <;> split <;> omega
  simp [execOp, resolve, invoke, builtin, s.eval hx, s.eval hy, Builtin.max_, Builtin.max2, e]
/-- append of records that lie somewhere else. -/
theorem E.appendRL {d : Nat} {x y : Operand} {T' k c c0 b o : Nat} {A A0 : Option Addr} {p : String} {af : Array Edge} {l : List R} {xs : List Value} (hF : F = (SF.own w0.heap.size 48 8 (.slice A0 k c0) k xs).sep G)
    (hx : ev E x = some (.slice A0 k c0)) (hy : ev E y = some (.slice A l.length c)) (hr : ∀ w, Wp w0 H F w → RL w A b o l) (h63 : k + l.length ≤ 1000000) (hn : Nat.blt d n = true) :
    Eff Try.prog E n H F w0 ⟨some d, .call { callee := .builtin .append, args := #[x, y], argTypes := #[26, 26] }, T', p, af, none⟩ (fun i : Option Addr × Nat => (d, .slice i.1 (k + l.length) i.2) :: E) (fun _ => H) (fun i => (SF.own w0.heap.size 48 8 (.slice i.1 (k + l.length) i.2) (k + l.length) (xs ++ flat l)).sep G) := fun a w s Q K hK => by
  obtain ⟨i3, hi3, hz30, hz31, hz32⟩ := info_parts rec_info
  have hrl := hr w s.wp
  subst hF
  have hown : w.ownsRow w0.heap.size 48 8 (.slice A0 k c0) k xs := s.fact.1
  rcases List.eq_nil_or_concat l with h0 | ⟨l', x', h0⟩
  · subst h0
    have hrun := run_append_own0 (P := Try.prog) (ty := T') (A2 := A) (m := c) Try.underlying26 hi3 hz31 hown
    unfold Oper.wp
    have h6 : (execOp a.eval ⟨some d, .call { callee := .builtin .append, args := #[x, y], argTypes := #[26, 26] }, T', p, af, none⟩).run Try.prog w = .ok (.value (.slice A0 k c0)) w := by
      have hy' : ev E y = some (.slice A 0 c) := hy
      simp only [execOp, resolve, invoke, builtin, Sem.run_bind, Sem.run_pure, Result.andThen_ok, List.map_toArray, List.map_cons, List.map_nil, s.env.eval hx, s.env.eval hy', hrun]
    rw [h6, Oper.upon_value]
    refine hK (A0, c0) _ _ (put_size _ _ _) ?_
    simp only [List.length_nil, Nat.add_zero]
    have e : xs ++ flat [] = xs := by simp [flat]
    rw [e]
    exact s.put hn
  · have hA := (hrl.at_ (by rw [h0]; simp)).1
    subst hA
    obtain ⟨v', w', hrun, h2, h3, _, h5⟩ := run_append_own_at (P := Try.prog) w w0.heap.size 26 T' 48 i3 _ 8 64 Try.underlying26 hi3 hz30 hz31 hz32 rfl (by decide) _ k xs hown ⟨b, o, none⟩ l.length c (flat l) (flat_len l)
      (fun j u hj => by
        have e1 : (⟨b, o, none⟩ : Addr).add j = ⟨b, o + j, none⟩ := by unfold Addr.add; split <;> simp_all
        have hjl : j < l.length * 8 := by rw [← flat_len]; exact (List.getElem?_eq_some_iff.1 hj).1
        obtain ⟨r, hr1⟩ := get_of_lt (l := l) (k := j / 8) (by omega)
        have hm : j % 8 < 8 := Nat.mod_lt _ (by omega)
        have h7 := hrl.full hr1 (j % 8) hm
        have e2 : j / 8 * 8 + j % 8 = j := by omega
        rw [e1, ← e2, ← Nat.add_assoc, h7]
        have h8 : (j % 8) < r.cl.length := by simpa [R.cl] using hm
        rw [List.getElem?_eq_getElem h8]
        have h9 := flat_get hr1 (List.getElem?_eq_getElem h8)
        rw [e2, hj] at h9
        exact h9.symm) (fun u hu => by
        obtain ⟨r, hr1, hr2⟩ := List.mem_flatMap.1 hu
        simp only [R.cl, List.mem_cons, List.not_mem_nil, or_false] at hr2
        rcases hr2 with rfl | rfl | rfl | rfl | rfl | rfl | rfl | rfl <;> rfl) (by unfold maxLen; omega) (by omega) s.low.size
    obtain ⟨A', c', rfl⟩ := own_val h2
    have hrow : ∀ g, Value.ownBlock (.slice A0 k c0) = some g → w0.heap.size ≤ g ∧ g < w.heap.size := fun g hg => hown.lt g hg
    have hlow : Below w0.heap.size w0 w' := s.low.grown h3 s.low.size (fun g hg => (hrow g hg).1)
    have hHp : HpOf w0.heap.size H w' := ⟨fun x hx => by
      have hb := s.hp.blk x hx
      refine ⟨?_, hb.2⟩
      rw [h3.block x.1 (s.hp.lt hx) (fun e => s.sep x hx (.inl e.symm))]
      exact hb.1, s.hp.nd⟩
    have hG := G.st w w' s.fact.2.1 fun x hx => h3.block x (G.lt w x s.fact.2.1 hx) (fun e => s.fact.2.2 x e.symm hx)
    have hsep : ∀ x, Value.ownBlock (.slice A' (k + l.length) c') = some x → x < w.heap.size → Value.ownBlock (.slice A0 k c0) = some x := fun x hk hlt => by
      rcases h5 with h5 | h5
      · exact h5.symm.trans hk
      · have := h5.symm.trans hk
        simp at this
        omega
    unfold Oper.wp
    have h6 : (execOp a.eval ⟨some d, .call { callee := .builtin .append, args := #[x, y], argTypes := #[26, 26] }, T', p, af, none⟩).run Try.prog w = .ok (.value (.slice A' (k + l.length) c')) w' := by
      simp only [execOp, resolve, invoke, builtin, Sem.run_bind, Sem.run_pure, Result.andThen_ok, List.map_toArray, List.map_cons, List.map_nil, s.env.eval hx, s.env.eval hy, hrun]
    rw [h6, Oper.upon_value]
    refine hK (A', c') _ _ (put_size _ _ _) (St.put ⟨s.env, hHp, ⟨h2, hG.1, fun x hx hg => s.fact.2.2 x (hsep x hx (G.lt w x s.fact.2.1 (hG.2 x hg))) (hG.2 x hg)⟩, fun x hx hk => ?_, hlow⟩ hn)
    rcases hk with hk | hk
    · exact s.sep x hx (.inl (hsep _ hk (s.hp.lt hx)))
    · exact s.sep x hx (.inr (hG.2 _ hk))
/-- A block becomes a slice of the call's own. -/
theorem St.toOwn {a : Act} {w : World} {g k c size : Nat} {cs xs : List Value} {T : TypeId} (s : St E n ((g, cs, T) :: H) F w0 a w) (h1 : xs.length = k * size) (h2 : k ≤ c) (h3 : c ≤ maxLen) (h4 : cs.length = c * size) (h5 : cs.take (k * size) = xs) :
    St E n H ((SF.own w0.heap.size T size (.slice (some ⟨g, 0, none⟩) k c) k xs).sep F) w0 a w := by
  have hb := s.hp.blk _ (List.Mem.head _)
  refine ⟨s.env, ⟨fun y hy => s.hp.blk y (List.Mem.tail _ hy), (List.pairwise_cons.1 s.hp.nd).2⟩, ⟨⟨h1, .inr ⟨g, c, cs.toArray, rfl, hb.2, hb.1, h2, h3, by simpa using h4, by simpa using h5⟩⟩, s.fact, fun x hx hf => ?_⟩, fun y hy hk => ?_, s.low⟩
  · have e : g = x := Option.some.inj hx
    subst e
    exact s.sep _ (List.Mem.head _) hf
  · rcases hk with hk | hk
    · have e : g = y.1 := Option.some.inj hk
      exact (List.pairwise_cons.1 s.hp.nd).1 y hy e
    · exact s.sep y (List.Mem.tail _ hy) hk
theorem WL.toOwn {l : List Oper} {g : Nat} {cs : List Value} {T : TypeId} (k c size : Nat) (xs : List Value) (h1 : xs.length = k * size) (h2 : k ≤ c) (h3 : c ≤ maxLen) (h4 : cs.length = c * size) (h5 : cs.take (k * size) = xs)
    (h : WL P ops Q l E n H ((SF.own w0.heap.size T size (.slice (some ⟨g, 0, none⟩) k c) k xs).sep F) w0) : WL P ops Q l E n ((g, cs, T) :: H) F w0 := fun a w s => h a w (s.toOwn h1 h2 h3 h4 h5)
end
end Go.Proofs.Ytmfjhacgpopijaa
