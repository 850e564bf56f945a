/- Slices of the call's own: append, cut, read. No condition. -/
import Derived.Test.YtdbcimadjmdffaaRl
import Derived.Maps.AppendAt
import Derived.Lib.SmallJoins
set_option linter.unusedVariables false
set_option linter.unusedSimpArgs false
set_option linter.unusedSectionVars false
namespace Go.Proofs.Ytdbcimadjmdffaa
open Go.RowKit
/-- The slice v of n elements, of the call's own. -/
def SF.own (base : Nat) (e : TypeId) (size : Nat) (v : Value) (n : Nat) (xs : List Value) : SF where
  p w := w.ownsRow base e size v n xs
  fp _ b := v.ownBlock = some b
  lt w b h k := (h.lt b k).2
  st w w' h k := by
    refine ⟨⟨h.1, ?_⟩, fun _ h => h⟩
    rcases h.2 with h2 | ⟨g, cap, cur, hv, h3, h4, h5⟩
    · exact .inl h2
    · refine .inr ⟨g, cap, cur, hv, h3, ?_, h5⟩
      rw [k g (by rw [hv]; rfl)]
      exact h4
section
variable [Inhabited DSx] {P : Program} {Q : Exit → Act → World → Prop} {E : Env} {n : Nat} {H : Hp} {F : SF} {w0 : World}
theorem Y.slTo {d : Option Nat} {x y : Operand} {T T' : TypeId} {p : String} {af : Array Edge} {A : Option Addr} {len cap e sz : Nat} {i : Int} (hu : P.underlying T = some (.slice e)) (hs : ∀ w, (sizeOf e).run P w = .ok sz w) (hx : ev E x = some (.slice A len cap)) (hy : ev E y = some (.int .i64 i)) (h0 : 0 ≤ i) (h1 : i ≤ cap) :
    Yp P E n ⟨d, .slice T x none (some y) none, T', p, af, none⟩ (.slice A i.toNat cap) := fun a w s => by
  have e1 : A.map (fun a => a.add 0) = A := by cases A <;> simp [Addr.add]
  simp [execOp, s.eval hx, s.eval hy, Instr.sliceAt, Instr.slice, run_underlying hu, Instr.sliceBounds, Instr.sliceBound, asIntOf, h0, h1, hs w, e1]
theorem Y.slToN {d : Option Nat} {x y : Operand} {T T' : TypeId} {p : String} {af : Array Edge} {A : Option Addr} {len cap e sz : Nat} {i : Int} (m : Nat) (hm : i = (m : Int)) (hu : P.underlying T = some (.slice e)) (hs : ∀ w, (sizeOf e).run P w = .ok sz w) (hx : ev E x = some (.slice A len cap)) (hy : ev E y = some (.int .i64 i)) (h1 : m ≤ cap) :
    Yp P E n ⟨d, .slice T x none (some y) none, T', p, af, none⟩ (.slice A m cap) := by
  have h := Y.slTo (P := P) (E := E) (n := n) (d := d) (T := T) (T' := T') (p := p) (af := af) hu hs hx hy (by omega) (by omega)
  rwa [hm, Int.toNat_natCast] at h
theorem Y.indexK {d : Option Nat} {x y : Operand} {T T' : TypeId} {p : String} {af : Array Edge} {vx vy v : Value} (hx : ev E x = some vx) (hy : ev E y = some vy) (hb : ∀ w, (Instr.index T vx vy).run P w = .ok v w) : Yp P E n ⟨d, .index T x y, T', p, af, none⟩ v := fun a w s => by
  show (do let u ← Instr.index T (a.eval x) (a.eval y); pure (Next.value u)).run P w = _
  rw [s.eval hx, s.eval hy, Sem.run_bind, hb w]
  rfl
theorem Y.fieldK {d : Option Nat} {x : Operand} {T T' f : Nat} {p : String} {af : Array Edge} {vx v : Value} (hx : ev E x = some vx) (hb : ∀ w, (Instr.field T vx f).run P w = .ok v w) : Yp P E n ⟨d, .field T x f, T', p, af, none⟩ v := fun a w s => by
  show (do let u ← Instr.field T (a.eval x) f; pure (Next.value u)).run P w = _
  rw [s.eval hx, Sem.run_bind, hb w]
  rfl
/-- Another fact on memory. -/
theorem WC.fact {c : Code} (G : SF) (h : ∀ a w, St E n H F w0 a w → G.p w ∧ ∀ x ∈ H, ¬ G.fp w x.1) (k : WC P c Q E n H G w0) : WC P c Q E n H F w0 := fun a w s => k a w ⟨s.env, s.hp, (h a w s).1, (h a w s).2, s.low⟩
theorem St.fst {G : SF} {a : Act} {w : World} (s : St E n H (F.and G) w0 a w) : St E n H F w0 a w := ⟨s.env, s.hp, s.fact.1, fun x hx h => s.sep x hx (.inl h), s.low⟩
theorem St.noH {a : Act} {w : World} (s : St E n H F w0 a w) : St E n [] F w0 a w := ⟨s.env, HpOf.nil _ _, s.fact, fun _ h => (by cases h), s.low⟩
theorem own_nil (w : World) (base e size : Nat) : (SF.own base e size (.slice none 0 0) 0 []).p w := World.ownsRow_nil w base e size
theorem own_val {w : World} {base e size n : Nat} {v : Value} {xs : List Value} (h : w.ownsRow base e size v n xs) : ∃ A c, v = .slice A n c := by
  rcases h.2 with ⟨rfl, rfl⟩ | ⟨g, cap, cur, rfl, _⟩
  · exact ⟨_, _, rfl⟩
  · exact ⟨_, _, rfl⟩
theorem own_blk {g n c : Nat} {A : Option Addr} (h : Value.ownBlock (.slice A n c) = some g) : ∃ a, A = some a ∧ a.block = g := by
  cases A with
  | none => cases h
  | some a => exact ⟨a, rfl, Option.some.inj h⟩
/-- append: the row as a whole is known. -/
theorem E.append {d : Nat} {x y : Operand} {T T' e : TypeId} {p : String} {af : Array Edge} {i : TypeInfo} {z : Value} {size bytes m c k A0 : Nat} {A : Option Addr} {b : Nat} {cs xs : List Value} {T2 : TypeId}
    (hu : P.underlying T = some (.slice e)) (hi : P.info? e = some i) (hz : i.zero = some z) (hsize : i.size = size) (hby : i.bytes = bytes) (hzs : z.cells.size = size) (hsz : 0 < size)
    (hF : F = SF.own w0.heap.size e size (.slice A k A0) k xs) (hx : ev E x = some (.slice A k A0)) (hy : ev E y = some (.slice (some ⟨b, 0, none⟩) m c)) (hm : (b, cs, T2) ∈ H) (hl : cs.length = m * size) (h1 : (cs.all Value.oneCell') = true)
    (h63 : k + m ≤ maxLen) (hbytes : (k + m) * bytes ≤ 140737488355328) (hn : Nat.blt d n = true) :
    Eff P E n H F w0 ⟨some d, .call { callee := .builtin .append, args := #[x, y], argTypes := #[T, T] }, T', p, af, none⟩ (fun i : Option Addr × Nat => (d, .slice i.1 (k + m) i.2) :: E) (fun _ => H) (fun i => SF.own w0.heap.size e size (.slice i.1 (k + m) i.2) (k + m) (xs ++ cs)) := fun a w s Q K hK => by
  subst hF
  have hown : w.ownsRow w0.heap.size e size (.slice A k A0) k xs := s.fact
  obtain ⟨v', w', hrun, h2, h3, _, h5⟩ := run_append_own_at (P := P) w w0.heap.size T T' e i z size bytes hu hi hz hsize hby hzs hsz _ k xs hown ⟨b, 0, none⟩ m c cs hl
    (fun j u hj => by
      have e1 : (⟨b, 0, none⟩ : Addr).add j = ⟨b, j, none⟩ := by unfold Addr.add; split <;> simp_all
      rw [e1, s.hp.cell hm, hj]) (fun u hu => List.all_eq_true.1 h1 u hu) h63 hbytes s.low.size
  obtain ⟨A', c', rfl⟩ := own_val h2
  have hrow : ∀ g, Value.ownBlock (.slice A k A0) = some g → w0.heap.size ≤ g ∧ g < w.heap.size := fun g hg => hown.lt g hg
  have hlow : Below w0.heap.size w0 w' := s.low.grown h3 s.low.size (fun g hg => (hrow g hg).1)
  have hHp : HpOf w0.heap.size H w' := ⟨fun x hx => by
    have hb := s.hp.blk x hx
    refine ⟨?_, hb.2⟩
    rw [h3.block x.1 (s.hp.lt hx) (fun e => s.sep x hx e.symm)]
    exact hb.1, s.hp.nd⟩
  have hsep : ∀ x ∈ H, ¬ (SF.own w0.heap.size e size (.slice A' (k + m) c') (k + m) (xs ++ cs)).fp w' x.1 := fun x hx hk => by
    have hlt := s.hp.lt hx
    have hk' : Value.ownBlock (.slice A' (k + m) c') = some x.1 := hk
    rcases h5 with h5 | h5
    · exact s.sep x hx (h5.symm.trans hk')
    · have := h5.symm.trans hk'
      simp at this
      omega
  unfold Oper.wp
  have h6 : (execOp a.eval ⟨some d, .call { callee := .builtin .append, args := #[x, y], argTypes := #[T, T] }, T', p, af, none⟩).run P w = .ok (.value (.slice A' (k + m) c')) w' := by
    simp only [execOp, resolve, invoke, builtin, Sem.run_bind, Sem.run_pure, Result.andThen_ok, List.map_toArray, List.map_cons, List.map_nil, s.env.eval hx, s.env.eval hy, hrun]
  rw [h6, Oper.upon_value]
  exact hK (A', c') _ _ (put_size _ _ _) (St.put ⟨s.env, hHp, h2, hsep, hlow⟩ hn)
/-- A cell of a row of one's own. -/
theorem own_cell {w : World} {base e size k c : Nat} {A : Option Addr} {xs : List Value} (h : w.ownsRow base e size (.slice A k c) k xs) {j : Nat} {v : Value} (hj : xs[j]? = some v) : ∃ g, A = some ⟨g, 0, none⟩ ∧ w.cell? ⟨g, j, none⟩ = some v := by
  have hl := (List.getElem?_eq_some_iff.1 hj).1
  rcases h.2 with ⟨hv, hk⟩ | ⟨g, cap, cur, hv, _⟩
  · rw [h.1, hk] at hl; omega
  · have hA : A = some ⟨g, 0, none⟩ ∧ c = cap := by injection hv with h1 _ h2; exact ⟨h1, h2⟩
    obtain ⟨rfl, rfl⟩ := hA
    refine ⟨g, rfl, ?_⟩
    rw [h.cellAt j (by rw [← h.1]; exact hl), hj]
theorem own_le {w : World} {base e size k c : Nat} {A : Option Addr} {xs : List Value} (h : w.ownsRow base e size (.slice A k c) k xs) : k ≤ c := by
  rcases h.2 with ⟨hv, hk⟩ | ⟨g, cap, cur, hv, h1, h2, h3, h4, h5, h6⟩
  · omega
  · injection hv with e1 e2 e3; omega
/-- Fewer of them. -/
theorem own_cut {w : World} {base e size k c : Nat} {A : Option Addr} {xs : List Value} (h : w.ownsRow base e size (.slice A k c) k xs) {j : Nat} (hj : j ≤ k) : w.ownsRow base e size (.slice A j c) j (xs.take (j * size)) := by
  have hle : j * size ≤ k * size := Nat.mul_le_mul_right _ hj
  refine ⟨by rw [List.length_take, h.1]; omega, ?_⟩
  rcases h.2 with ⟨hv, hk⟩ | ⟨g, cap, cur, hv, h1, h2, h3, h4, h5, h6⟩
  · have : j = 0 := by omega
    subst this
    injection hv with e1 e2 e3
    subst e1
    subst e3
    exact .inl ⟨rfl, rfl⟩
  · injection hv with e1 e2 e3
    subst e1
    subst e3
    refine .inr ⟨g, c, cur, rfl, h1, h2, by omega, h4, h5, ?_⟩
    rw [← h6, List.take_take]
    congr 1
    omega
end
theorem ix_pages0 (p : P3) (w : World) : (Instr.index 42 p.val (.int .i64 0)).run Try.prog w = .ok (p.get 0).val w := by kernel_rfl
theorem ix_pages1 (p : P3) (w : World) : (Instr.index 42 p.val (.int .i64 1)).run Try.prog w = .ok (p.get 1).val w := by kernel_rfl
theorem ix_pages2 (p : P3) (w : World) : (Instr.index 42 p.val (.int .i64 2)).run Try.prog w = .ok (p.get 2).val w := by kernel_rfl
theorem ix_pages (p : P3) (i : Int) (hi : 0 ≤ i ∧ i ≤ 2) (w : World) : (Instr.index 42 p.val (.int .i64 i)).run Try.prog w = .ok (p.get i).val w := by
  have h1 : i = 0 ∨ i = 1 ∨ i = 2 := by omega
  rcases h1 with rfl | rfl | rfl
  · exact ix_pages0 p w
  · exact ix_pages1 p w
  · exact ix_pages2 p w
theorem fd_cells (q : Pg) (w : World) : (Instr.field 24 q.val 0).run Try.prog w = .ok (.agg #[.int .i64 q.c0, .int .i64 q.c1, .int .i64 q.c2]) w := by kernel_rfl
theorem ix_cells0 (q : Pg) (w : World) : (Instr.index 22 (.agg #[.int .i64 q.c0, .int .i64 q.c1, .int .i64 q.c2]) (.int .i64 0)).run Try.prog w = .ok (.int .i64 (q.cellAt 0)) w := by kernel_rfl
theorem ix_cells1 (q : Pg) (w : World) : (Instr.index 22 (.agg #[.int .i64 q.c0, .int .i64 q.c1, .int .i64 q.c2]) (.int .i64 1)).run Try.prog w = .ok (.int .i64 (q.cellAt 1)) w := by kernel_rfl
theorem ix_cells2 (q : Pg) (w : World) : (Instr.index 22 (.agg #[.int .i64 q.c0, .int .i64 q.c1, .int .i64 q.c2]) (.int .i64 2)).run Try.prog w = .ok (.int .i64 (q.cellAt 2)) w := by kernel_rfl
theorem ix_cells (q : Pg) (i : Int) (hi : 0 ≤ i ∧ i ≤ 2) (w : World) : (Instr.index 22 (.agg #[.int .i64 q.c0, .int .i64 q.c1, .int .i64 q.c2]) (.int .i64 i)).run Try.prog w = .ok (.int .i64 (q.cellAt i)) w := by
  have h1 : i = 0 ∨ i = 1 ∨ i = 2 := by omega
  rcases h1 with rfl | rfl | rfl
  · exact ix_cells0 q w
  · exact ix_cells1 q w
  · exact ix_cells2 q w
theorem int_info : (Try.prog.info? 3).map (fun i => (i.zero, i.size, i.bytes)) = some (some (.int .i64 0), 1, 8) := by kernel_rfl
end Go.Proofs.Ytdbcimadjmdffaa
