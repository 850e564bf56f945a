/- Calls that yield new memory: blocks of their own, or facts of their own; slices made. No condition. -/
import Derived.Test.YtdbcimadjmdffaaBg
set_option linter.unusedVariables false
set_option linter.unusedSimpArgs false
set_option linter.unusedSectionVars false
set_option maxRecDepth 100000
namespace Go.Proofs.Ytdbcimadjmdffaa
open Go.RowKit Go.Joins
section
variable [Inhabited DSx] {P : Program} {Q : Exit → Act → World → Prop} {E : Env} {n : Nat} {H : Hp} {F G : SF} {w0 : World}
/-- A call that yields a value with a new block of known cells. -/
theorem E.callB {ι : Type} {f : FuncId} {args : Array Operand} {ts : Array TypeId} {d : Nat} {T' : TypeId} {p : String} {af : Array Edge} {vs : List Value} (val : ι → Value) (blk : ι → Nat × List Value × TypeId) (hf : ∀ (args : Array Value) (w : World), (callFunc f args).run P w = .ok (.enter f args) w)
    (hx : evs E args.toList = some vs) (hc : ∀ a w, St E n H F w0 a w → Calls P f vs.toArray w fun e w' => ∃ i, e = .returned (val i) ∧ Below w.heap.size w w' ∧ w.heap.size ≤ (blk i).1 ∧ w'.heap[(blk i).1]? = some (.cells (blk i).2.1.toArray (blk i).2.2)) (hn : Nat.blt d n = true) :
    Eff P E n H F w0 ⟨some d, .call { callee := .value (.func f), args := args, argTypes := ts }, T', p, af, none⟩ (fun i => (d, val i) :: E) (fun i => blk i :: H) (fun _ => F) := fun a w s Q K hK => by
  unfold Oper.wp
  rw [run_call hf s.env hx, Oper.upon_enter]
  refine (hc a w s).mono fun e w' ⟨i, he, hb, hlt, hblk⟩ => ?_
  subst he
  have g := s.grow hb
  have hfp := (F.st w w' s.fact fun b h => hb.block b (F.lt w b s.fact h)).2
  refine hK i _ _ (put_size _ _ _) (St.put ⟨g.env, ⟨fun x hx => ?_, List.pairwise_cons.2 ⟨fun y hy e => ?_, g.hp.nd⟩⟩, g.fact, fun x hx hk => ?_, g.low⟩ hn)
  · rcases List.mem_cons.1 hx with rfl | hx
    · exact ⟨hblk, Nat.le_trans s.low.size hlt⟩
    · exact g.hp.blk x hx
  · have := s.hp.lt hy
    omega
  · rcases List.mem_cons.1 hx with rfl | hx
    · have := F.lt w _ s.fact (hfp _ hk)
      omega
    · exact g.sep x hx hk
/-- A call that yields a value with facts of its own on new memory. -/
theorem E.callN {ι : Type} {f : FuncId} {args : Array Operand} {ts : Array TypeId} {d : Nat} {T' : TypeId} {p : String} {af : Array Edge} {vs : List Value} (val : ι → Value) (J : ι → SF) (hf : ∀ (args : Array Value) (w : World), (callFunc f args).run P w = .ok (.enter f args) w)
    (hx : evs E args.toList = some vs) (hc : ∀ a w, St E n H F w0 a w → Calls P f vs.toArray w fun e w' => ∃ i, e = .returned (val i) ∧ Below w.heap.size w w' ∧ (J i).p w' ∧ ∀ b, (J i).fp w' b → w.heap.size ≤ b) (hn : Nat.blt d n = true) :
    Eff P E n H F w0 ⟨some d, .call { callee := .value (.func f), args := args, argTypes := ts }, T', p, af, none⟩ (fun i => (d, val i) :: E) (fun _ => H) (fun i => (J i).sep F) := fun a w s Q K hK => by
  unfold Oper.wp
  rw [run_call hf s.env hx, Oper.upon_enter]
  refine (hc a w s).mono fun e w' ⟨i, he, hb, hj, hfj⟩ => ?_
  subst he
  have g := s.grow hb
  have hfp := (F.st w w' s.fact fun b h => hb.block b (F.lt w b s.fact h)).2
  refine hK i _ _ (put_size _ _ _) (St.put ⟨g.env, g.hp, ⟨hj, g.fact, fun b hk hf => ?_⟩, fun x hx hk => ?_, g.low⟩ hn)
  · have h1 := hfj b hk
    have h2 := F.lt w _ s.fact (hfp _ hf)
    omega
  · rcases hk with hk | hk
    · have h1 := hfj _ hk
      have h2 := s.hp.lt hx
      omega
    · exact g.sep x hx hk
theorem E.makeSlice {d : Nat} {x y : Operand} {T T' : Nat} {p : String} {af : Array Edge} {vx vy : Value} {k c : Nat} {cs : List Value} {T2 : TypeId} (hx : ev E x = some vx) (hy : ev E y = some vy)
    (hb : ∀ w, (Instr.makeSlice T vx vy).run P w = .ok (.slice (some ⟨w.heap.size, 0, none⟩) k c) (w.alloc (.cells cs.toArray T2))) (hn : Nat.blt d n = true) :
    Eff P E n H F w0 ⟨some d, .makeSlice T x y, T', p, af, none⟩ (fun b : Nat => (d, .slice (some ⟨b, 0, none⟩) k c) :: E) (fun b => (b, cs, T2) :: H) (fun _ => F) := fun a w s Q K hK => by
  have h3 : (execOp a.eval ⟨some d, .makeSlice T x y, T', p, af, none⟩).run P w = .ok (.value (.slice (some ⟨w.heap.size, 0, none⟩) k c)) (w.alloc (.cells cs.toArray T2)) := by
    show (do let v ← Instr.makeSlice T (a.eval x) (a.eval y); pure (Next.value v)).run P w = _
    rw [s.env.eval hx, s.env.eval hy, Sem.run_bind, hb w]
    rfl
  unfold Oper.wp
  rw [h3, Oper.upon_value]
  exact hK _ _ _ (put_size _ _ _) (s.new.put hn)
end
section
variable [Inhabited DSx] {E : Env} {n : Nat} {H : Hp} {F : SF} {w0 : World}
theorem ext_newN {d : Nat} {v : Value} {J : SF} (hl : look E d = none) : if false = true then sub E ((d, v) :: E) else ∀ a w, St ((d, v) :: E) n H (J.sep F) w0 a w → St E n H F w0 a w := by
  simp only [Bool.false_eq_true, if_false]
  exact fun a w s => (s.weak (sub_push hl)).le (SF.sep_snd _ _)
end
/-- A block of one's own reads as records. -/
theorem RL.ofH {E : Env} {n : Nat} {H : Hp} {F : SF} {w0 w : World} {a : Act} {g : Nat} {l : List R} {T : TypeId} (s : St E n H F w0 a w) (hm : (g, flat l, T) ∈ H) : RL w (some ⟨g, 0, none⟩) g 0 l :=
  ⟨fun _ => ⟨rfl, s.hp.lt hm⟩, fun i r hi j v hv => by
    rw [Nat.zero_add, s.hp.cell hm]
    exact flat_get hi hv⟩
theorem RL.ofC {E : Env} {n : Nat} {H : Hp} {F : SF} {w0 w : World} {a : Act} {g : Nat} {cs : List Value} (l : List R) {T : TypeId} (s : St E n H F w0 a w) (hm : (g, cs, T) ∈ H) (hc : flat l = cs) : RL w (some ⟨g, 0, none⟩) g 0 l := by
  subst hc
  exact RL.ofH s hm
end Go.Proofs.Ytdbcimadjmdffaa
