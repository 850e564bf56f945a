/- Panics, deferred closures, recover; strings of bytes: in the logic of Sx. No condition. -/
import Derived.Test.YtapkelocligmdaaGreatDoorWi
import Derived.Recover
import Derived.WalkSmall
import Derived.Laws.BytesArg
import Derived.Laws.Strings3
import Derived.Laws.Concat
set_option linter.unusedVariables false
set_option linter.unusedSimpArgs false
set_option linter.unusedSectionVars false
namespace Go.Proofs.YtapkelocligmdaaGreatDoor
open Go.RowKit
section
variable [Inhabited DSx] {P : Program} {ops : Array Oper} {Q : Exit → Act → World → Prop} {rest : List Oper} {E : Env} {n : Nat} {H : Hp} {F G : SF} {w0 : World}
theorem Y.iface {d : Option Nat} {x : Operand} {T T' : TypeId} {p : String} {af : Array Edge} {v : Value} (hT : ∀ w, (Instr.makeInterface T v).run P w = .ok (.iface T v) w) (hx : ev E x = some v) : Yp P E n ⟨d, .makeInterface T x, T', p, af, none⟩ (.iface T v) := fun a w s => by
  show (do let u ← Instr.makeInterface T (a.eval x); pure (Next.value u)).run P w = _
  rw [s.eval hx, Sem.run_bind, hT w]
  rfl
theorem Y.makeFn {d : Option Nat} {fn : Fn} {xs ys : Array Operand} {T' : TypeId} {p : String} {af : Array Edge} {vs us : List Value} (hx : evs E xs.toList = some vs) (hy : evs E ys.toList = some us) : Yp P E n ⟨d, .makeFunc fn xs ys, T', p, af, none⟩ (.func fn vs.toArray us.toArray) := fun a w s => by
  have h1 : xs.map a.eval = vs.toArray := by
    apply Array.toList_inj.1
    simpa using s.evals _ _ hx
  have h2 : ys.map a.eval = us.toArray := by
    apply Array.toList_inj.1
    simpa using s.evals _ _ hy
  show (do let u ← Instr.makeFunc fn (xs.map a.eval) (ys.map a.eval); pure (Next.value u)).run P w = _
  rw [h1, h2]
  rfl
/-- The text's own panic. -/
theorem WL.panic {d : Option Nat} {x : Operand} {T T2 : TypeId} {p : String} {af : Array Edge} {v : Value} (hx : ev E x = some (.iface T2 v)) (h : WQ Q (.panic [{ v := .iface T2 v, recovered := false }]) E n H F w0) :
    WL P ops Q (⟨d, .panic x, T, p, af, none⟩ :: rest) E n H F w0 := fun a w s =>
  wpList_plain rfl fun K hK => by
    have h1 : (execOp a.eval ⟨d, .panic x, T, p, af, none⟩).run P w = .halt (.panic (.iface T2 v)) w := by
      show (do let u ← Instr.panic (a.eval x); return (Next.value u)).run P w = _
      rw [s.env.eval hx, Sem.run_bind, run_panic_iface]
      rfl
    unfold Oper.wp
    rw [h1, Oper.upon_panic]
    exact h a w s
theorem WQ.thenPanic {K : Act → World → Prop} {c : List PanicEntry} (h : WQ Q (.panic c) E n H F w0) : WQ (Exit.then K Q) (.panic c) E n H F w0 := fun a w s => h a w s
theorem WQ.blockPanic {id : Nat} {c : List PanicEntry} (h : WQ Q (.panic c) E n H F w0) : WQ (Exit.inBlock id Q) (.panic c) E n H F w0 := fun a w s => h a w s
/-- A panic that leaves the function. -/
theorem WQ.raised {fn : Func} {R : Ending → World → Prop} {c : List PanicEntry} (hd : (default : DSx).ds = []) (hR : ∀ w, Wp w0 H F w → R (.panicked c) w) : WQ (bodyPost P fn R) (.panic c) E n H F w0 := fun a w s =>
  ⟨s.env.defers.trans hd, hR w s.wp⟩
/-! A deferred closure. -/
omit [Inhabited DSx] in
theorem WL.defer [i1 : Inhabited DSx] {f : FuncId} {g : Nat} {T' : TypeId} {p : String} {af : Array Edge} {caps : Array Value} {ts : Array TypeId} (hg : look E g = some (.func (.func f) #[] caps))
    (h : ∀ i2 : Inhabited DSx, (@default DSx i2).ds = { target := .fn (.func f) caps, args := #[] } :: (@default DSx i1).ds → @WL i2 P ops Q rest E n H F w0) :
    @WL i1 P ops Q (⟨none, .defer { callee := .value (.tmp g), args := #[], argTypes := ts }, T', p, af, none⟩ :: rest) E n H F w0 := fun a w s =>
  wpList_plain rfl fun K hK => by
    have h3 : a.eval (.tmp g) = .func (.func f) #[] caps := s.env.eval (x := .tmp g) hg
    have h1 : (execOp a.eval ⟨none, .defer { callee := .value (.tmp g), args := #[], argTypes := ts }, T', p, af, none⟩).run P w = .ok (.defer { target := .fn (.func f) caps, args := #[] }) w := by
      simp [execOp, resolve, h3, Deferred.ofValue]
    unfold Oper.wp
    rw [h1, Oper.upon_defer]
    refine hK _ _ (h ⟨⟨{ target := .fn (.func f) caps, args := #[] } :: (@default DSx i1).ds⟩⟩ rfl _ _ ?_)
    exact @St.mk ⟨⟨{ target := .fn (.func f) caps, args := #[] } :: (@default DSx i1).ds⟩⟩ _ _ _ _ _ _ _ (@EnvOf.mk ⟨⟨{ target := .fn (.func f) caps, args := #[] } :: (@default DSx i1).ds⟩⟩ _ _ _ s.env.size s.env.at_ (by show _ :: a.defers = _; rw [s.env.defers]; rfl)) s.hp s.fact s.sep s.low
end
section
variable {P : Program} {Q : Exit → Act → World → Prop} {E : Env} {n : Nat} {H : Hp} {F G : SF} {w0 : World}
theorem enterD {f : FuncId} {fn : Func} {c : Code} {vs : List Value} {w : World} {R : Ending → World → Prop} (hf : P.funcs[f]? = some fn) (hb : fn.body = some c) (hn : fn.ntmps = n) (hl : Nat.ble vs.length n = true) (hw : Wp w0 H F w)
    (h : WC P c (bodyPostD P fn R) (ents 0 vs) n H F w0) : Calls P f vs.toArray w R := by
  refine calls_of_wp_defers hf hb (h _ _ ⟨⟨?_, fun t v ht => ?_, rfl⟩, hw.1, hw.2.1, hw.2.2.1, hw.2.2.2⟩)
  · have := Nat.le_of_ble_eq_true hl
    simp [hn]; omega
  · obtain ⟨j, rfl, hj⟩ := look_ents _ _ _ _ ht
    have hlt : j < vs.length := (List.getElem?_eq_some_iff.1 hj).1
    simp only [Nat.zero_add]
    rw [Array.getElem?_append_left (by simpa using hlt)]
    simpa using hj
end
section
variable [Inhabited DSx] {P : Program} {ops : Array Oper} {Q : Exit → Act → World → Prop} {rest : List Oper} {E : Env} {n : Nat} {H : Hp} {F G : SF} {w0 : World}
/-- What a deferred closure does, in this mode of the frame below. -/
def Shuts (P : Program) (f : FuncId) (args : Array Value) (u u' : FrameMode) (w : World) (R : World → Prop) : Prop := CallsD P f args u w fun e v w' => v = u' ∧ (∃ x, e = .returned x) ∧ R w'
/-- The door, by a return. -/
theorem WQ.doorD {fn : Func} {R : Ending → World → Prop} {f : FuncId} {caps : Array Value} {rs : List ResultVar} {vs : List Value} {e : Exit} {H' : Hp} {F' : SF} (he : e = .ret ∨ e = .normal) (hds : (default : DSx).ds = [{ target := .fn (.func f) caps, args := #[] }])
    (ef : ∀ (args : Array Value) (w : World), (callFunc f args).run P w = .ok (.enter f args) w) (hc : ∀ w, Wp w0 H F w → Shuts P f caps .returning .returning w (Wp w0 H' F')) (hr : fn.results = rs.toArray)
    (h : RVs P E H' rs vs) (hR : ∀ w, Wp w0 H' F' w → R (.returned (packed vs)) w) : WQ (bodyPostD P fn R) e E n H F w0 := fun a w s => by
  have h2 : Leaves P fn a.tmps R a.defers .returning w := by
    rw [s.env.defers, hds]
    refine leaves_cons (f := f) (args := caps) (by simp) (by simp [invoke, ef]) ((hc w s.wp).mono fun e v w' hh => ?_)
    obtain ⟨rfl, ⟨x, rfl⟩, hw⟩ := hh
    exact ⟨_, run_results (a := a) hr h ⟨s.env, hw.1, hw.2.1, hw.2.2.1, hw.2.2.2⟩, hR w' hw⟩
  rcases he with rfl | rfl <;> exact h2
/-- The door, by a panic: it is caught. -/
theorem WQ.doorP {fn : Func} {R : Ending → World → Prop} {f : FuncId} {caps : Array Value} {rs : List ResultVar} {vs : List Value} {x : Value} {H' : Hp} {F' : SF} (hds : (default : DSx).ds = [{ target := .fn (.func f) caps, args := #[] }])
    (ef : ∀ (args : Array Value) (w : World), (callFunc f args).run P w = .ok (.enter f args) w) (hc : ∀ w, Wp w0 H F w → Shuts P f caps (.panicking [{ v := x, recovered := false }]) (.panicking [{ v := x, recovered := true }]) w (Wp w0 H' F')) (hr : fn.results = rs.toArray)
    (h : RVs P E H' rs vs) (hR : ∀ w, Wp w0 H' F' w → R (.returned (packed vs)) w) : WQ (bodyPostD P fn R) (.panic [{ v := x, recovered := false }]) E n H F w0 := fun a w s => by
  have h2 : Leaves P fn a.tmps R a.defers (.panicking [{ v := x, recovered := false }]) w := by
    rw [s.env.defers, hds]
    refine leaves_cons (f := f) (args := caps) (by simp) (by simp [invoke, ef]) ((hc w s.wp).mono fun e v w' hh => ?_)
    obtain ⟨rfl, ⟨x, rfl⟩, hw⟩ := hh
    exact ⟨_, run_results (a := a) hr h ⟨s.env, hw.1, hw.2.1, hw.2.2.1, hw.2.2.2⟩, hR w' hw⟩
  exact h2
end
/-! ### Strings of bytes -/
def sv (l : List Int) : Value := .string (strOfNums l)
section
variable {P : Program} {E : Env} {n : Nat} {d : Option Nat} {x y : Operand} {T T' T2 : TypeId} {p : String} {af : Array Edge}
end
end Go.Proofs.YtapkelocligmdaaGreatDoor
