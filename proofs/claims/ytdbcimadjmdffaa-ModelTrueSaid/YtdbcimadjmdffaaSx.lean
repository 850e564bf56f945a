/- A logic for walks: what is known of the slots (a list), of the call's own blocks (a list), and of the rest of memory (a fact with a footprint). No condition. -/
import Derived.Test.YtdbcimadjmdffaaKit
set_option linter.unusedVariables false
set_option linter.unusedSimpArgs false
set_option linter.unusedSectionVars false
namespace Go.Proofs.Ytdbcimadjmdffaa
open Go.RowKit
/-! ### Slots -/
abbrev Env := List (Nat × Value)
def look : Env → Nat → Option Value
  | [], _ => none
  | (k, v) :: E, t => cond (Nat.beq k t) (some v) (look E t)
def ev (E : Env) : Operand → Option Value
  | .tmp t => look E t
  | .const v => some v
  | .global g => some (.pointer (some ⟨g, 0, none⟩))
  | .func f => some (.func (.func f) #[] #[])
def evs (E : Env) : List Operand → Option (List Value)
  | [] => some []
  | x :: xs => match ev E x with
    | none => none
    | some v => match evs E xs with
      | none => none
      | some vs => some (v :: vs)
/-- The deferred calls that an activation holds: none, where nothing else is said. -/
structure DSx where
  ds : List Deferred
instance : Inhabited DSx := ⟨⟨[]⟩⟩
section
variable [Inhabited DSx]
structure EnvOf (E : Env) (n : Nat) (a : Act) : Prop where
  size : a.tmps.size = n
  at_ : ∀ t v, look E t = some v → a.tmps[t]? = some v
  defers : a.defers = (default : DSx).ds
theorem EnvOf.eval {E : Env} {n : Nat} {a : Act} {x : Operand} {v : Value} (h : EnvOf E n a) (hx : ev E x = some v) : a.eval x = v := by
  cases x with
  | tmp t =>
    have := h.at_ t v hx
    simp [Act.eval, this]
  | const u => simpa [ev, Act.eval] using hx
  | global g => simpa [ev, Act.eval] using hx
  | func f => simpa [ev, Act.eval] using hx
theorem EnvOf.evals {E : Env} {n : Nat} {a : Act} (h : EnvOf E n a) : ∀ (xs : List Operand) (vs : List Value), evs E xs = some vs → xs.map a.eval = vs
  | [], vs, hx => by simpa [evs] using hx
  | x :: xs, vs, hx => by
    unfold evs at hx
    split at hx
    · cases hx
    · rename_i v hv
      split at hx
      · cases hx
      · rename_i us hu
        obtain rfl := Option.some.inj hx
        simp [h.eval hv, h.evals xs us hu]
theorem EnvOf.put {E : Env} {n : Nat} {a : Act} {d : Nat} {v : Value} (h : EnvOf E n a) (hd : Nat.blt d n = true) : EnvOf ((d, v) :: E) n (a.put (some d) v) := by
  have hdn : d < n := by simpa [Nat.blt_eq] using hd
  refine ⟨by simp [Act.put, h.size], fun t u ht => ?_, h.defers⟩
  simp only [look] at ht
  by_cases e : d = t
  · subst e
    have : Nat.beq d d = true := by simp
    rw [this] at ht
    simp only [cond_true, Option.some.injEq] at ht
    subst ht
    simp [Act.put, h.size, hdn]
  · have : Nat.beq d t = false := by
      cases hb : Nat.beq d t
      · rfl
      · exact absurd (Nat.eq_of_beq_eq_true hb) e
    rw [this] at ht
    simp only [cond_false] at ht
    simp only [Act.put]
    rw [Array.getElem?_setIfInBounds_ne e]
    exact h.at_ t u ht
theorem EnvOf.put_none {E : Env} {n : Nat} {a : Act} {v : Value} (h : EnvOf E n a) : EnvOf E n (a.put none v) := h
/-- Fewer slots are known. -/
def sub (E' E : Env) : Prop := ∀ t v, look E' t = some v → look E t = some v
theorem sub_nil (E : Env) : sub [] E := fun _ _ h => by cases h
theorem sub_cons {t : Nat} {v : Value} {E' E : Env} (h : look E t = some v) (k : sub E' E) : sub ((t, v) :: E') E := fun s u hs => by
  simp only [look] at hs
  cases hb : Nat.beq t s
  · rw [hb] at hs; exact k s u hs
  · rw [hb] at hs
    obtain rfl := Nat.eq_of_beq_eq_true hb
    simp only [cond_true, Option.some.injEq] at hs
    subst hs
    exact h
theorem EnvOf.weak {E E' : Env} {n : Nat} {a : Act} (h : EnvOf E n a) (k : sub E' E) : EnvOf E' n a := ⟨h.size, fun t v ht => h.at_ t v (k t v ht), h.defers⟩
/-! ### Own blocks -/
abbrev Hp := List (Nat × List Value × TypeId)
structure HpOf (B : Nat) (H : Hp) (w : World) : Prop where
  blk : ∀ x ∈ H, w.heap[x.1]? = some (.cells x.2.1.toArray x.2.2) ∧ B ≤ x.1
  nd : H.Pairwise fun x y => x.1 ≠ y.1
theorem HpOf.lt {B : Nat} {H : Hp} {w : World} (h : HpOf B H w) {x : Nat × List Value × TypeId} (hx : x ∈ H) : x.1 < w.heap.size := blk_lt (h.blk x hx).1
theorem HpOf.nil (B : Nat) (w : World) : HpOf B [] w := ⟨fun _ h => (by cases h), List.Pairwise.nil⟩
/-- A fact on memory, with the blocks on which it leans. -/
structure SF where
  p : World → Prop
  fp : World → Nat → Prop
  lt : ∀ w b, p w → fp w b → b < w.heap.size
  st : ∀ w w', p w → (∀ b, fp w b → w'.heap[b]? = w.heap[b]?) → p w' ∧ ∀ b, fp w' b → fp w b
def SF.top : SF := ⟨fun _ => True, fun _ _ => False, fun _ _ _ h => h.elim, fun _ _ _ _ => ⟨trivial, fun _ h => h⟩⟩
def SF.and (F G : SF) : SF := ⟨fun w => F.p w ∧ G.p w, fun w b => F.fp w b ∨ G.fp w b,
  fun w b h k => k.elim (F.lt w b h.1) (G.lt w b h.2),
  fun w w' h k => ⟨⟨(F.st w w' h.1 fun b hb => k b (.inl hb)).1, (G.st w w' h.2 fun b hb => k b (.inr hb)).1⟩,
    fun b hb => hb.imp ((F.st w w' h.1 fun b hb => k b (.inl hb)).2 b) ((G.st w w' h.2 fun b hb => k b (.inr hb)).2 b)⟩⟩
structure St (E : Env) (n : Nat) (H : Hp) (F : SF) (w0 : World) (a : Act) (w : World) : Prop where
  env : EnvOf E n a
  hp : HpOf w0.heap.size H w
  fact : F.p w
  sep : ∀ x ∈ H, ¬ F.fp w x.1
  low : Below w0.heap.size w0 w
end
section
variable [Inhabited DSx] {P : Program} {ops : Array Oper} {Q : Exit → Act → World → Prop} {rest : List Oper} {E : Env} {n : Nat} {H : Hp} {F : SF} {w0 : World}
theorem St.grow {a : Act} {w w' : World} (s : St E n H F w0 a w) (hb : Below w.heap.size w w') : St E n H F w0 a w' := by
  have hf := F.st w w' s.fact fun b h => hb.block b (F.lt w b s.fact h)
  refine ⟨s.env, ⟨fun x hx => ⟨below_get' hb (s.hp.blk x hx).1, (s.hp.blk x hx).2⟩, s.hp.nd⟩, hf.1, fun x hx h => s.sep x hx (hf.2 _ h), below_trans s.low hb⟩
theorem St.put {a : Act} {w : World} {d : Nat} {v : Value} (s : St E n H F w0 a w) (hd : Nat.blt d n = true) : St ((d, v) :: E) n H F w0 (a.put (some d) v) w :=
  ⟨s.env.put hd, s.hp, s.fact, s.sep, s.low⟩
theorem St.weak {a : Act} {w : World} {E' : Env} (s : St E n H F w0 a w) (k : sub E' E) : St E' n H F w0 a w := ⟨s.env.weak k, s.hp, s.fact, s.sep, s.low⟩
/-- A new block. -/
theorem St.new {a : Act} {w : World} {cs : List Value} {T : TypeId} (s : St E n H F w0 a w) : St E n ((w.heap.size, cs, T) :: H) F w0 a (w.alloc (.cells cs.toArray T)) := by
  have hb : Below w.heap.size w (w.alloc (.cells cs.toArray T)) := (Below.refl _ _).alloc (Nat.le_refl _) _
  have g := s.grow hb
  refine ⟨g.env, ⟨fun x hx => ?_, ?_⟩, g.fact, fun x hx => ?_, g.low⟩
  · rcases List.mem_cons.1 hx with rfl | hx
    · exact ⟨alloc_new w _, s.low.size⟩
    · exact g.hp.blk x hx
  · refine List.pairwise_cons.2 ⟨fun y hy => ?_, g.hp.nd⟩
    have := s.hp.lt hy
    show w.heap.size ≠ y.1
    omega
  · rcases List.mem_cons.1 hx with rfl | hx
    · intro h
      have h1 := (F.st w _ s.fact fun b h => hb.block b (F.lt w b s.fact h)).2 _ h
      have := F.lt w _ s.fact h1
      exact absurd this (Nat.lt_irrefl _)
    · exact g.sep x hx
/-! ### Goals -/
def WL (P : Program) (ops : Array Oper) (Q : Exit → Act → World → Prop) (l : List Oper) (E : Env) (n : Nat) (H : Hp) (F : SF) (w0 : World) : Prop :=
  ∀ a w, St E n H F w0 a w → wpList P ops Q l a w
def WC (P : Program) (c : Code) (Q : Exit → Act → World → Prop) (E : Env) (n : Nat) (H : Hp) (F : SF) (w0 : World) : Prop :=
  ∀ a w, St E n H F w0 a w → c.wp P Q a w
/-- An operation that yields v and leaves memory alone. -/
def Yv (P : Program) (E : Env) (n : Nat) (H : Hp) (F : SF) (w0 : World) (o : Oper) (v : Value) : Prop :=
  ∀ a w, St E n H F w0 a w → (execOp a.eval o).run P w = .ok (.value v) w
/-- .. whatever memory is. -/
def Yp (P : Program) (E : Env) (n : Nat) (o : Oper) (v : Value) : Prop := ∀ a w, EnvOf E n a → (execOp a.eval o).run P w = .ok (.value v) w
theorem Yp.v {o : Oper} {v : Value} (h : Yp P E n o v) : Yv P E n H F w0 o v := fun a w s => h a w s.env
theorem WL.weak {l : List Oper} {E' : Env} (k : sub E' E) (h : WL P ops Q l E' n H F w0) : WL P ops Q l E n H F w0 := fun a w s => h a w (s.weak k)
theorem WC.weak {c : Code} {E' : Env} (k : sub E' E) (h : WC P c Q E' n H F w0) : WC P c Q E n H F w0 := fun a w s => h a w (s.weak k)
theorem WL.val {o : Oper} {d : Nat} {v : Value} (hy : Yv P E n H F w0 o v) (hg : o.guard = none) (hd : o.dst = some d) (hn : Nat.blt d n = true) (h : WL P ops Q rest ((d, v) :: E) n H F w0) : WL P ops Q (o :: rest) E n H F w0 := fun a w s =>
  wpList_plain hg fun K hK => by
    unfold Oper.wp
    rw [hy a w s, Oper.upon_value, hd]
    exact hK _ _ (h _ _ (s.put hn))
theorem WL.pure {o : Oper} {d : Nat} {v : Value} (hy : Yp P E n o v) (hg : o.guard = none) (hd : o.dst = some d) (hn : Nat.blt d n = true) (h : WL P ops Q rest ((d, v) :: E) n H F w0) : WL P ops Q (o :: rest) E n H F w0 := WL.val hy.v hg hd hn h
/-- What the state tells, kept. -/
theorem WL.know {l : List Oper} {p : Prop} (h : ∀ a w, St E n H F w0 a w → p) (k : p → WL P ops Q l E n H F w0) : WL P ops Q l E n H F w0 := fun a w s => k (h a w s) a w s
theorem WC.know {c : Code} {p : Prop} (h : ∀ a w, St E n H F w0 a w → p) (k : p → WC P c Q E n H F w0) : WC P c Q E n H F w0 := fun a w s => k (h a w s) a w s
theorem WL.guardT {o : Oper} {g : Nat} {b : Bool} {dg : Nat} (hg : o.guard = some (g, b)) (hd : (ops[g]?).bind (·.dst) = some dg) (hb : look E dg = some (.bool b))
    (h : WL P ops Q ({ o with guard := none } :: rest) E n H F w0) : WL P ops Q (o :: rest) E n H F w0 := fun a w s => by
  have hy : yielded ops a.tmps g = some b := by simp [yielded, hd, s.env.at_ _ _ hb]
  have h1 := h a w s
  unfold wpList at h1 ⊢
  have hw : Region.wanted o (yielded ops a.tmps) = true := by simp [Region.wanted, hg, hy]
  rw [if_pos hw]
  rw [if_pos (by simp [Region.wanted])] at h1
  exact h1
theorem WL.guardF {o : Oper} {g : Nat} {b c : Bool} {dg d : Nat} (hg : o.guard = some (g, b)) (hd : (ops[g]?).bind (·.dst) = some dg) (hb : look E dg = some (.bool c)) (hne : (c == b) = false) (hdst : o.dst = some d) (hn : Nat.blt d n = true)
    (h : WL P ops Q rest ((d, undef) :: E) n H F w0) : WL P ops Q (o :: rest) E n H F w0 := fun a w s => by
  have hy : yielded ops a.tmps g = some c := by simp [yielded, hd, s.env.at_ _ _ hb]
  unfold wpList
  have hw : Region.wanted o (yielded ops a.tmps) = false := by
    cases c <;> cases b <;> simp_all [Region.wanted]
  rw [if_neg (by simp [hw]), hdst]
  exact h _ _ (s.put hn)
/-- An operation that is skipped because the operation that guards it was itself skipped. -/
theorem WL.guardU {o : Oper} {g : Nat} {b : Bool} {dg d : Nat} (hg : o.guard = some (g, b)) (hd : (ops[g]?).bind (·.dst) = some dg) (hb : look E dg = some undef) (hdst : o.dst = some d) (hn : Nat.blt d n = true)
    (h : WL P ops Q rest ((d, undef) :: E) n H F w0) : WL P ops Q (o :: rest) E n H F w0 := fun a w s => by
  have hy : yielded ops a.tmps g = none := by simp [yielded, hd, s.env.at_ _ _ hb, undef]
  unfold wpList
  have hw : Region.wanted o (yielded ops a.tmps) = false := by simp [Region.wanted, hg, hy]
  rw [if_neg (by simp [hw]), hdst]
  exact h _ _ (s.put hn)
/-! ### Operations that leave memory alone -/
theorem Y.move {d : Option Nat} {x : Operand} {T : TypeId} {p : String} {af : Array Edge} {v : Value} (hx : ev E x = some v) : Yp P E n ⟨d, .move x, T, p, af, none⟩ v := fun a w s => by
  simp [execOp, s.eval hx]
theorem Y.assign {d : Option Nat} {x : Operand} {T : TypeId} {p : String} {af : Array Edge} {v : Value} (hx : ev E x = some v) : Yp P E n ⟨d, .assign x, T, p, af, none⟩ v := fun a w s => by
  simp [execOp, s.eval hx]
theorem Y.pickT {d : Option Nat} {c x y : Operand} {T : TypeId} {p : String} {af : Array Edge} {v : Value} (hc : ev E c = some (.bool true)) (hx : ev E x = some v) : Yp P E n ⟨d, .pick c x y, T, p, af, none⟩ v := fun a w s => by
  simp [execOp, s.eval hc, s.eval hx, asBool]
theorem Y.pickF {d : Option Nat} {c x y : Operand} {T : TypeId} {p : String} {af : Array Edge} {v : Value} (hc : ev E c = some (.bool false)) (hx : ev E y = some v) : Yp P E n ⟨d, .pick c x y, T, p, af, none⟩ v := fun a w s => by
  simp [execOp, s.eval hc, s.eval hx, asBool]
theorem Y.nilCheck {d : Option Nat} {x : Operand} {T : TypeId} {p : String} {af : Array Edge} {q : Addr} (hx : ev E x = some (.pointer (some q))) : Yp P E n ⟨d, .nilCheck x, T, p, af, none⟩ (.pointer (some q)) := fun a w s => by
  simp [execOp, s.eval hx]
/-- Field number f of the struct type s lies at offset k, and is not of size 0. -/
def FieldAt (P : Program) (s f k : Nat) : Prop := ∀ (b o : Nat) (w : World), (Instr.fieldAt s (.pointer (some ⟨b, o, none⟩)) f).run P w = .ok (.pointer (some ⟨b, o + k, none⟩)) w
theorem Y.fieldAddr {d : Option Nat} {x : Operand} {s f k : Nat} {T : TypeId} {p : String} {af : Array Edge} {b o : Nat} (hf : FieldAt P s f k) (hx : ev E x = some (.pointer (some ⟨b, o, none⟩))) : Yp P E n ⟨d, .fieldAddr s x f, T, p, af, none⟩ (.pointer (some ⟨b, o + k, none⟩)) := fun a w st => by
  simp [execOp, st.eval hx, hf b o w]
theorem Y.extract {d : Option Nat} {x : Operand} {i : Nat} {T : TypeId} {p : String} {af : Array Edge} {vs : List Value} {v : Value} (hx : ev E x = some (.tuple vs.toArray)) (hi : vs[i]? = some v) : Yp P E n ⟨d, .extract x i, T, p, af, none⟩ v := fun a w s => by
  simp [execOp, s.eval hx, Instr.extract, hi]
theorem Y.not {d : Option Nat} {x : Operand} {T T' : TypeId} {p : String} {af : Array Edge} {b : Bool} (hx : ev E x = some (.bool b)) : Yp P E n ⟨d, .unOp .not T' x, T, p, af, none⟩ (.bool (!b)) := fun a w s => by
  simp [execOp, s.eval hx, Op.unary]
/-! Reading memory. -/
def nth : List Value → Nat → Option Value
  | [], _ => none
  | v :: _, 0 => some v
  | _ :: l, i + 1 => nth l i
theorem nth_eq : ∀ (l : List Value) (i : Nat), nth l i = l[i]?
  | [], _ => rfl
  | _ :: _, 0 => rfl
  | _ :: l, i + 1 => by simp [nth, nth_eq l i]
/-- The cells from i on, k of them. -/
def seg : List Value → Nat → Nat → Option (List Value)
  | _, _, 0 => some []
  | [], _, _ + 1 => none
  | v :: l, 0, k + 1 => match seg l 0 k with
    | none => none
    | some r => some (v :: r)
  | _ :: l, i + 1, k => seg l i k
theorem seg_at : ∀ (l : List Value) (i k : Nat) (r : List Value), seg l i k = some r → r.length = k ∧ ∀ j, j < k → l[i + j]? = r[j]?
  | l, i, 0, r, h => by
    have : r = [] := by cases l <;> simpa [seg, eq_comm] using h
    subst this
    exact ⟨rfl, fun j hj => absurd hj (by omega)⟩
  | [], i, k + 1, r, h => by simp [seg] at h
  | v :: l, 0, k + 1, r, h => by
    simp only [seg] at h
    split at h
    · cases h
    · rename_i r' hr
      obtain rfl := Option.some.inj h
      obtain ⟨h1, h2⟩ := seg_at l 0 k r' hr
      refine ⟨by simp [h1], fun j hj => ?_⟩
      cases j with
      | zero => rfl
      | succ j =>
        have := h2 j (by omega)
        simp only [Nat.zero_add] at this ⊢
        simpa using this
  | v :: l, i + 1, k + 1, r, h => by
    simp only [seg] at h
    obtain ⟨h1, h2⟩ := seg_at l i (k + 1) r h
    refine ⟨h1, fun j hj => ?_⟩
    have := h2 j hj
    rw [show i + 1 + j = (i + j) + 1 by omega]
    simpa using this
/-- A type whose variables are one cell. -/
def Flat (P : Program) (T : TypeId) : Prop := ∀ w, (isAgg T).run P w = .ok false w
/-- A type whose variables are k cells, a struct or an array. -/
def Wide (P : Program) (T k : Nat) : Prop := (∀ w, (isAgg T).run P w = .ok true w) ∧ ∀ w, (sizeOf T).run P w = .ok k w
theorem HpOf.cell {B : Nat} {w : World} {b o : Nat} {cs : List Value} {T : TypeId} (h : HpOf B H w) (hm : (b, cs, T) ∈ H) : w.cell? ⟨b, o, none⟩ = cs[o]? := by
  have := (h.blk _ hm).1
  simp at this
  simp [World.cell?, this]
theorem run_load_cell {w : World} {a : Addr} {v : Value} (h : w.cell? a = some v) : (load a).run P w = .ok v w := by simp [load, Sem.run, h]
theorem Y.loadc {d : Option Nat} {x : Operand} {T T' : TypeId} {p : String} {af : Array Edge} {q : Addr} {v : Value} (hT : Flat P T) (hx : ev E x = some (.pointer (some q))) (hc : ∀ a w, St E n H F w0 a w → w.cell? q = some v) :
    Yv P E n H F w0 ⟨d, .load T x, T', p, af, none⟩ v := fun a w s => by
  have hq := run_load_cell (P := P) (hc a w s)
  simp only [execOp, s.env.eval hx, Instr.loadAt, Instr.sureAddr, loadVar, Sem.run_bind, hT w, Result.andThen_ok, pure_bind, Bool.false_eq_true, if_false, hq, Sem.run_pure]
theorem Y.load {d : Option Nat} {x : Operand} {T T' : TypeId} {p : String} {af : Array Edge} {b o : Nat} {v : Value} {cs : List Value} {T2 : TypeId} (hT : Flat P T) (hx : ev E x = some (.pointer (some ⟨b, o, none⟩))) (hm : (b, cs, T2) ∈ H) (hc : nth cs o = some v) :
    Yv P E n H F w0 ⟨d, .load T x, T', p, af, none⟩ v :=
  Y.loadc hT hx fun a w s => by rw [s.hp.cell hm, ← nth_eq, hc]
theorem run_loadCellsFrom {w : World} {b o : Nat} : ∀ (k i : Nat) (acc : Array Value) (r : List Value), r.length = k → (∀ j, j < k → w.cell? ⟨b, o + i + j, none⟩ = r[j]?) →
    (loadCellsFrom ⟨b, o, none⟩ i k acc).run P w = .ok (acc ++ r.toArray) w
  | 0, i, acc, r, hl, _ => by
    obtain rfl := List.eq_nil_of_length_eq_zero hl
    simp [loadCellsFrom]
  | k + 1, i, acc, [], hl, _ => by simp at hl
  | k + 1, i, acc, v :: r, hl, h => by
    have h0 := h 0 (by omega)
    simp only [Nat.add_zero, List.getElem?_cons_zero] at h0
    unfold loadCellsFrom
    have e : (⟨b, o, none⟩ : Addr).add i = ⟨b, o + i, none⟩ := by unfold Addr.add; split <;> simp_all
    rw [Sem.run_bind, e, run_load_cell h0]
    simp only [Result.andThen_ok]
    rw [run_loadCellsFrom k (i + 1) (acc.push v) r (by simpa using hl) (fun j hj => by
      have := h (j + 1) (by omega)
      rw [show o + (i + 1) + j = o + i + (j + 1) by omega, this]
      simp)]
    simp
theorem Y.loadAc {d : Option Nat} {x : Operand} {T T' : TypeId} {p : String} {af : Array Edge} {b o k : Nat} {r : List Value} (hT : Wide P T k) (hx : ev E x = some (.pointer (some ⟨b, o, none⟩))) (hl : r.length = k)
    (hc : ∀ a w, St E n H F w0 a w → ∀ j, j < k → w.cell? ⟨b, o + j, none⟩ = r[j]?) : Yv P E n H F w0 ⟨d, .load T x, T', p, af, none⟩ (.agg r.toArray) := fun a w s => by
  have h := run_loadCellsFrom (P := P) (w := w) (b := b) (o := o) k 0 #[] r hl (fun j hj => by simpa using hc a w s j hj)
  simp [execOp, s.env.eval hx, Instr.loadAt, Instr.sureAddr, loadVar, hT.1 w, hT.2 w, loadCells, h]
theorem Y.loadA {d : Option Nat} {x : Operand} {T T' : TypeId} {p : String} {af : Array Edge} {b o k : Nat} {r cs : List Value} {T2 : TypeId} (hT : Wide P T k) (hx : ev E x = some (.pointer (some ⟨b, o, none⟩))) (hm : (b, cs, T2) ∈ H) (hc : seg cs o k = some r) :
    Yv P E n H F w0 ⟨d, .load T x, T', p, af, none⟩ (.agg r.toArray) :=
  Y.loadAc hT hx (seg_at _ _ _ _ hc).1 fun a w s j hj => by rw [s.hp.cell hm]; exact (seg_at _ _ _ _ hc).2 j hj
/-! Numbers. -/
section
variable {d : Option Nat} {x y : Operand} {T T' T2 : TypeId} {p : String} {af : Array Edge} {k : IntKind} {i j r : Int}
theorem Y.eql (hx : ev E x = some (.int k i)) (hy : ev E y = some (.int k j)) : Yp P E n ⟨d, .binOp .eql T x y T2, T', p, af, none⟩ (.bool (i == j)) := fun a w s => by
  simp [execOp, s.eval hx, s.eval hy, eqGuard, binOp, Op.intCmp]
theorem Y.neq (hx : ev E x = some (.int k i)) (hy : ev E y = some (.int k j)) : Yp P E n ⟨d, .binOp .neq T x y T2, T', p, af, none⟩ (.bool (i != j)) := fun a w s => by
  simp [execOp, s.eval hx, s.eval hy, eqGuard, binOp, Op.intCmp]
theorem Y.lss (hx : ev E x = some (.int k i)) (hy : ev E y = some (.int k j)) : Yp P E n ⟨d, .binOp .lss T x y T2, T', p, af, none⟩ (.bool (decide (i < j))) := fun a w s => by
  simp [execOp, s.eval hx, s.eval hy, eqGuard, binOp, Op.intCmp]
theorem Y.leq (hx : ev E x = some (.int k i)) (hy : ev E y = some (.int k j)) : Yp P E n ⟨d, .binOp .leq T x y T2, T', p, af, none⟩ (.bool (decide (i ≤ j))) := fun a w s => by
  simp [execOp, s.eval hx, s.eval hy, eqGuard, binOp, Op.intCmp]
theorem Y.gtr (hx : ev E x = some (.int k i)) (hy : ev E y = some (.int k j)) : Yp P E n ⟨d, .binOp .gtr T x y T2, T', p, af, none⟩ (.bool (decide (j < i))) := fun a w s => by
  simp [execOp, s.eval hx, s.eval hy, eqGuard, binOp, Op.intCmp]
theorem Y.geq (hx : ev E x = some (.int k i)) (hy : ev E y = some (.int k j)) : Yp P E n ⟨d, .binOp .geq T x y T2, T', p, af, none⟩ (.bool (decide (j ≤ i))) := fun a w s => by
  simp [execOp, s.eval hx, s.eval hy, eqGuard, binOp, Op.intCmp]
theorem Y.add (hx : ev E x = some (.int k i)) (hy : ev E y = some (.int k j)) (hr : k.wrap (i + j) = r) : Yp P E n ⟨d, .binOp .add T x y T2, T', p, af, none⟩ (.int k r) := fun a w s => by
  simp [execOp, s.eval hx, s.eval hy, eqGuard, binOp, Op.intArith, hr]
theorem Y.sub (hx : ev E x = some (.int k i)) (hy : ev E y = some (.int k j)) (hr : k.wrap (i - j) = r) : Yp P E n ⟨d, .binOp .sub T x y T2, T', p, af, none⟩ (.int k r) := fun a w s => by
  simp [execOp, s.eval hx, s.eval hy, eqGuard, binOp, Op.intArith, hr]
/-- '==' on structs or arrays, by its own law. -/
theorem Y.eqlA {xs ys : List Value} {b : Bool} (hg : P.eqGuardType P.depth T = false) (hx : ev E x = some (.agg xs.toArray)) (hy : ev E y = some (.agg ys.toArray)) (he : ∀ w, (Op.equalIn 10000 T (.agg xs.toArray) (.agg ys.toArray)).run P w = .ok b w) :
    Yp P E n ⟨d, .binOp .eql T x y T2, T', p, af, none⟩ (.bool b) := fun a w s => by
  have h := run_eqGuard_agg (P := P) w .eql T x y xs.toArray ys.toArray hg
  simp [execOp, s.eval hx, s.eval hy, h, binOp, Op.equal, Op.maxDepth, he w]
theorem Y.neqA {xs ys : List Value} {b : Bool} (hg : P.eqGuardType P.depth T = false) (hx : ev E x = some (.agg xs.toArray)) (hy : ev E y = some (.agg ys.toArray)) (he : ∀ w, (Op.equalIn 10000 T (.agg xs.toArray) (.agg ys.toArray)).run P w = .ok b w) :
    Yp P E n ⟨d, .binOp .neq T x y T2, T', p, af, none⟩ (.bool (!b)) := fun a w s => by
  have h := run_eqGuard_agg (P := P) w .neq T x y xs.toArray ys.toArray hg
  simp [execOp, s.eval hx, s.eval hy, h, binOp, Op.equal, Op.maxDepth, he w]
/-- An index into an array behind a pointer. -/
theorem Y.ixArr {b o len e sz : Nat} (hu : P.underlying T = some (.array len e)) (hs : ∀ w, (sizeOf e).run P w = .ok sz w) (hx : ev E x = some (.pointer (some ⟨b, o, none⟩))) (hy : ev E y = some (.int .i64 i)) (h0 : 0 ≤ i) (h1 : i < len) :
    Yp P E n ⟨d, .indexAddr T x y, T', p, af, none⟩ (.pointer (some ⟨b, o + i.toNat * sz, none⟩)) := fun a w s => by
  have e : (⟨b, o, none⟩ : Addr).add (i.toNat * sz) = ⟨b, o + i.toNat * sz, none⟩ := by unfold Addr.add; split <;> simp_all
  simp [execOp, s.eval hx, s.eval hy, Instr.indexAt, asIntOf, run_underlying hu, Instr.sureAddr, h0, h1, hs w, e]
/-- An index into a slice. -/
theorem Y.ixSl {b o len cap e sz : Nat} (hu : P.underlying T = some (.slice e)) (hs : ∀ w, (sizeOf e).run P w = .ok sz w) (hx : ev E x = some (.slice (some ⟨b, o, none⟩) len cap)) (hy : ev E y = some (.int .i64 i)) (h0 : 0 ≤ i) (h1 : i < len) :
    Yp P E n ⟨d, .indexAddr T x y, T', p, af, none⟩ (.pointer (some ⟨b, o + i.toNat * sz, none⟩)) := fun a w s => by
  have e : (⟨b, o, none⟩ : Addr).add (i.toNat * sz) = ⟨b, o + i.toNat * sz, none⟩ := by unfold Addr.add; split <;> simp_all
  simp [execOp, s.eval hx, s.eval hy, Instr.indexAt, asIntOf, run_underlying hu, h0, h1, hs w, e]
theorem Y.len {A : Option Addr} {len cap : Nat} {T3 e : TypeId} (hu : P.underlying T3 = some (.slice e)) (hx : ev E x = some (.slice A len cap)) : Yp P E n ⟨d, .call { callee := .builtin .len, args := #[x], argTypes := #[T3] }, T', p, af, none⟩ (.int .i64 len) := fun a w s => by
  simp [execOp, resolve, invoke, builtin, s.eval hx, Builtin.len_, run_underlying hu, goInt]
end
/-- A comparison or sum by a closed fact of its own. -/
theorem Y.binK {d : Option Nat} {op : BinOp} {x y : Operand} {T T' T2 : TypeId} {p : String} {af : Array Edge} {vx vy v : Value} (hx : ev E x = some vx) (hy : ev E y = some vy) (hb : ∀ w, (do eqGuard op T x y vx vy; binOp op T vx vy : Sem Value).run P w = .ok v w) :
    Yp P E n ⟨d, .binOp op T x y T2, T', p, af, none⟩ v := fun a w s => by
  show (do let u ← (do eqGuard op T x y (a.eval x) (a.eval y); binOp op T (a.eval x) (a.eval y) : Sem Value); pure (Next.value u)).run P w = _
  rw [s.eval hx, s.eval hy, Sem.run_bind, hb w]
  rfl
def evp (E : Env) : List (Nat × Operand) → Option (List (Nat × Value))
  | [] => some []
  | x :: xs => match ev E x.2 with
    | none => none
    | some v => match evp E xs with
      | none => none
      | some vs => some ((x.1, v) :: vs)
theorem EnvOf.evps {a : Act} (h : EnvOf E n a) : ∀ (xs : List (Nat × Operand)) (vs : List (Nat × Value)), evp E xs = some vs → xs.map (fun x : Nat × Operand => (x.1, a.eval x.2)) = vs
  | [], vs, hx => by simpa [evp] using hx
  | x :: xs, vs, hx => by
    unfold evp at hx
    split at hx
    · cases hx
    · rename_i v hv
      split at hx
      · cases hx
      · rename_i us hu
        obtain rfl := Option.some.inj hx
        simp [h.eval hv, h.evps xs us hu]
theorem Y.build {d : Option Nat} {T T' : TypeId} {p : String} {af : Array Edge} {parts : Array (Nat × Operand)} {vs : List (Nat × Value)} {v : Value} (hp : evp E parts.toList = some vs) (hb : ∀ w, (Instr.build T vs.toArray).run P w = .ok v w) :
    Yp P E n ⟨d, .build T parts, T', p, af, none⟩ v := fun a w s => by
  have h := s.evps _ _ hp
  have h2 : parts.map (fun x : Nat × Operand => (x.1, a.eval x.2)) = vs.toArray := by
    apply Array.toList_inj.1
    simpa using h
  simp only [execOp]
  show (do let v ← Instr.build T (parts.map fun x : Nat × Operand => (x.1, a.eval x.2)); pure (Next.value v)).run P w = _
  rw [h2, Sem.run_bind, hb w]
  rfl
theorem Y.slAll {d : Option Nat} {x : Operand} {T T' : TypeId} {p : String} {af : Array Edge} {v u : Value} (hx : ev E x = some v) (hs : ∀ w, (Instr.sliceAt T v none none none).run P w = .ok u w) :
    Yp P E n ⟨d, .slice T x none none none, T', p, af, none⟩ u := fun a w s => by
  show (do let u ← Instr.sliceAt T (a.eval x) none none none; pure (Next.value u)).run P w = _
  rw [s.eval hx, Sem.run_bind, hs w]
  rfl
theorem i64_in {i : Int} (h0 : -9223372036854775808 ≤ i) (h1 : i ≤ 9223372036854775807) : IntKind.i64.wrap i = i := IntWalk.i64_in i ⟨h0, h1⟩
/-- What is known of a bool in a slot, written out. -/
theorem known_env {a : Act} {t : Nat} {b r : Bool} (s : EnvOf E n a) (hl : look E t = some (.bool b)) (hr : b = r) : EnvOf ((t, .bool r) :: E) n a := ⟨s.size, fun t' v ht => by
  subst hr
  simp only [look] at ht
  cases hb : Nat.beq t t'
  · rw [hb] at ht; exact s.at_ t' v ht
  · rw [hb] at ht
    obtain rfl := Nat.eq_of_beq_eq_true hb
    exact s.at_ t v (hl.trans ht), s.defers⟩
theorem St.known {a : Act} {w : World} {t : Nat} {b r : Bool} (s : St E n H F w0 a w) (hl : look E t = some (.bool b)) (hr : b = r) : St ((t, .bool r) :: E) n H F w0 a w := ⟨known_env s.env hl hr, s.hp, s.fact, s.sep, s.low⟩
theorem WL.known {l : List Oper} {t : Nat} {b r : Bool} (hl : look E t = some (.bool b)) (hr : b = r) (h : WL P ops Q l ((t, .bool r) :: E) n H F w0) : WL P ops Q l E n H F w0 := fun a w s => h a w (s.known hl hr)
theorem WL.split {l : List Oper} {t : Nat} {b : Bool} (hl : look E t = some (.bool b)) (h : ∀ r, b = r → WL P ops Q l ((t, .bool r) :: E) n H F w0) : WL P ops Q l E n H F w0 := WL.known hl rfl (h b rfl)
/-! ### Operations that turn memory -/
/-- A step with its own effect. -/
theorem WL.step {o : Oper} (hg : o.guard = none) (h : ∀ a w, St E n H F w0 a w → o.wp P a w (fun a' w' => wpList P ops Q rest a' w') Q) : WL P ops Q (o :: rest) E n H F w0 := fun a w s => by
  unfold wpList
  rw [if_pos (by simp [Region.wanted, hg])]
  exact .inl (h a w s)
theorem run_newVar {w : World} {T : TypeId} {v : Value} : (newVar T v).run P w = .ok ⟨w.heap.size, 0, none⟩ (w.alloc (.cells v.cells T)) := by
  rfl
/-- What an operation does: the state behind it is one of those that i tells. -/
def Eff (P : Program) (E : Env) (n : Nat) (H : Hp) (F : SF) (w0 : World) (o : Oper) {ι : Type} (Ei : ι → Env) (Hi : ι → Hp) (Fi : ι → SF) : Prop :=
  ∀ a w, St E n H F w0 a w → ∀ (Q : Exit → Act → World → Prop) (K : Act → World → Prop), (∀ i a' w', a'.tmps.size = a.tmps.size → St (Ei i) n (Hi i) (Fi i) w0 a' w' → K a' w') → o.wp P a w K Q
theorem WL.eff {o : Oper} {ι : Type} {Ei : ι → Env} {Hi : ι → Hp} {Fi : ι → SF} (he : Eff P E n H F w0 o Ei Hi Fi) (hg : o.guard = none) (h : ∀ i, WL P ops Q rest (Ei i) n (Hi i) (Fi i) w0) : WL P ops Q (o :: rest) E n H F w0 :=
  WL.step hg fun a w s => he a w s Q _ fun i a' w' _ s' => h i a' w' s'
theorem put_size (a : Act) (d : Option Nat) (v : Value) : (a.put d v).tmps.size = a.tmps.size := by cases d <;> simp [Act.put]
theorem E.box {d : Nat} {x : Operand} {T T' : TypeId} {p : String} {af : Array Edge} {v : Value} {cs : List Value} (hx : ev E x = some v) (hv : v.cells = cs.toArray) (hn : Nat.blt d n = true) :
    Eff P E n H F w0 ⟨some d, .box T x, T', p, af, none⟩ (fun b : Nat => (d, .pointer (some ⟨b, 0, none⟩)) :: E) (fun b => (b, cs, T) :: H) (fun _ => F) := fun a w s Q K hK => by
  unfold Oper.wp
  simp only [execOp, s.env.eval hx, Instr.box, Sem.run_bind, run_newVar, Result.andThen_ok, Sem.run_pure, hv, Oper.upon_value]
  exact hK _ _ _ (put_size _ _ _) (s.new.put hn)
theorem E.alloc {d : Nat} {T T' : TypeId} {p : String} {af : Array Edge} {v : Value} {cs : List Value} (hz : ∀ w, (zeroValue T).run P w = .ok v w) (hv : v.cells = cs.toArray) (hn : Nat.blt d n = true) :
    Eff P E n H F w0 ⟨some d, .alloc T, T', p, af, none⟩ (fun b : Nat => (d, .pointer (some ⟨b, 0, none⟩)) :: E) (fun b => (b, cs, T) :: H) (fun _ => F) := fun a w s Q K hK => by
  unfold Oper.wp
  simp only [execOp, Instr.alloc, Sem.run_bind, hz w, run_newVar, Result.andThen_ok, Sem.run_pure, hv, Oper.upon_value]
  exact hK _ _ _ (put_size _ _ _) (s.new.put hn)
/-- Another list of cells in block b. -/
def Upd (b : Nat) (T : TypeId) (cs cs' : List Value) : Hp → Hp → Prop
  | [], _ => False
  | x :: H, H' => (x = (b, cs, T) ∧ H' = (b, cs', T) :: H) ∨ ∃ K, H' = x :: K ∧ Upd b T cs cs' H K
theorem Upd.here {b : Nat} {T : TypeId} {cs cs' : List Value} {H : Hp} : Upd b T cs cs' ((b, cs, T) :: H) ((b, cs', T) :: H) := .inl ⟨rfl, rfl⟩
theorem Upd.there {b : Nat} {T : TypeId} {x : Nat × List Value × TypeId} {cs cs' : List Value} {H H' : Hp} (h : Upd b T cs cs' H H') : Upd b T cs cs' (x :: H) (x :: H') := .inr ⟨H', rfl, h⟩
theorem m0 {x : Nat × List Value × TypeId} {l : Hp} : x ∈ x :: l := by simp
theorem u0 {b : Nat} {T : TypeId} {cs cs' : List Value} {l : Hp} : Upd b T cs cs' ((b, cs, T) :: l) ((b, cs', T) :: l) := Upd.here
theorem m1 {x : Nat × List Value × TypeId} {y0 : Nat × List Value × TypeId} {l : Hp} : x ∈ y0 :: x :: l := by simp
theorem u1 {b : Nat} {T : TypeId} {cs cs' : List Value} {y0 : Nat × List Value × TypeId} {l : Hp} : Upd b T cs cs' (y0 :: (b, cs, T) :: l) (y0 :: (b, cs', T) :: l) := Upd.there (Upd.here)
theorem m2 {x : Nat × List Value × TypeId} {y0 y1 : Nat × List Value × TypeId} {l : Hp} : x ∈ y0 :: y1 :: x :: l := by simp
theorem u2 {b : Nat} {T : TypeId} {cs cs' : List Value} {y0 y1 : Nat × List Value × TypeId} {l : Hp} : Upd b T cs cs' (y0 :: y1 :: (b, cs, T) :: l) (y0 :: y1 :: (b, cs', T) :: l) := Upd.there (Upd.there (Upd.here))
theorem m3 {x : Nat × List Value × TypeId} {y0 y1 y2 : Nat × List Value × TypeId} {l : Hp} : x ∈ y0 :: y1 :: y2 :: x :: l := by simp
theorem u3 {b : Nat} {T : TypeId} {cs cs' : List Value} {y0 y1 y2 : Nat × List Value × TypeId} {l : Hp} : Upd b T cs cs' (y0 :: y1 :: y2 :: (b, cs, T) :: l) (y0 :: y1 :: y2 :: (b, cs', T) :: l) := Upd.there (Upd.there (Upd.there (Upd.here)))
theorem m4 {x : Nat × List Value × TypeId} {y0 y1 y2 y3 : Nat × List Value × TypeId} {l : Hp} : x ∈ y0 :: y1 :: y2 :: y3 :: x :: l := by simp
theorem u4 {b : Nat} {T : TypeId} {cs cs' : List Value} {y0 y1 y2 y3 : Nat × List Value × TypeId} {l : Hp} : Upd b T cs cs' (y0 :: y1 :: y2 :: y3 :: (b, cs, T) :: l) (y0 :: y1 :: y2 :: y3 :: (b, cs', T) :: l) := Upd.there (Upd.there (Upd.there (Upd.there (Upd.here))))
theorem m5 {x : Nat × List Value × TypeId} {y0 y1 y2 y3 y4 : Nat × List Value × TypeId} {l : Hp} : x ∈ y0 :: y1 :: y2 :: y3 :: y4 :: x :: l := by simp
theorem u5 {b : Nat} {T : TypeId} {cs cs' : List Value} {y0 y1 y2 y3 y4 : Nat × List Value × TypeId} {l : Hp} : Upd b T cs cs' (y0 :: y1 :: y2 :: y3 :: y4 :: (b, cs, T) :: l) (y0 :: y1 :: y2 :: y3 :: y4 :: (b, cs', T) :: l) := Upd.there (Upd.there (Upd.there (Upd.there (Upd.there (Upd.here)))))
theorem m6 {x : Nat × List Value × TypeId} {y0 y1 y2 y3 y4 y5 : Nat × List Value × TypeId} {l : Hp} : x ∈ y0 :: y1 :: y2 :: y3 :: y4 :: y5 :: x :: l := by simp
theorem u6 {b : Nat} {T : TypeId} {cs cs' : List Value} {y0 y1 y2 y3 y4 y5 : Nat × List Value × TypeId} {l : Hp} : Upd b T cs cs' (y0 :: y1 :: y2 :: y3 :: y4 :: y5 :: (b, cs, T) :: l) (y0 :: y1 :: y2 :: y3 :: y4 :: y5 :: (b, cs', T) :: l) := Upd.there (Upd.there (Upd.there (Upd.there (Upd.there (Upd.there (Upd.here))))))
theorem m7 {x : Nat × List Value × TypeId} {y0 y1 y2 y3 y4 y5 y6 : Nat × List Value × TypeId} {l : Hp} : x ∈ y0 :: y1 :: y2 :: y3 :: y4 :: y5 :: y6 :: x :: l := by simp
theorem u7 {b : Nat} {T : TypeId} {cs cs' : List Value} {y0 y1 y2 y3 y4 y5 y6 : Nat × List Value × TypeId} {l : Hp} : Upd b T cs cs' (y0 :: y1 :: y2 :: y3 :: y4 :: y5 :: y6 :: (b, cs, T) :: l) (y0 :: y1 :: y2 :: y3 :: y4 :: y5 :: y6 :: (b, cs', T) :: l) := Upd.there (Upd.there (Upd.there (Upd.there (Upd.there (Upd.there (Upd.there (Upd.here)))))))
theorem Upd.mem {b : Nat} {T : TypeId} {cs cs' : List Value} : ∀ {H H' : Hp}, Upd b T cs cs' H H' → (b, cs, T) ∈ H
  | [], _, h => h.elim
  | x :: H, H', h => by
    rcases h with ⟨rfl, _⟩ | ⟨K, _, h⟩
    · exact List.Mem.head _
    · exact List.Mem.tail _ h.mem
theorem Upd.ids {b : Nat} {T : TypeId} {cs cs' : List Value} : ∀ {H H' : Hp}, Upd b T cs cs' H H' → H'.map (·.1) = H.map (·.1)
  | [], _, h => h.elim
  | x :: H, H', h => by
    rcases h with ⟨rfl, rfl⟩ | ⟨K, rfl, h⟩
    · rfl
    · simp [h.ids]
theorem Upd.of {b : Nat} {T : TypeId} {cs cs' : List Value} : ∀ {H H' : Hp}, Upd b T cs cs' H H' → (H.Pairwise fun x y => x.1 ≠ y.1) → ∀ y ∈ H', y = (b, cs', T) ∨ (y ∈ H ∧ y.1 ≠ b)
  | [], _, h, _ => h.elim
  | x :: H, H', h, hn => by
    intro y hy
    rcases h with ⟨rfl, rfl⟩ | ⟨K, rfl, h⟩
    · rcases List.mem_cons.1 hy with rfl | hy
      · exact .inl rfl
      · exact .inr ⟨List.Mem.tail _ hy, fun e => (List.pairwise_cons.1 hn).1 y hy e.symm⟩
    · rcases List.mem_cons.1 hy with rfl | hy
      · exact .inr ⟨List.Mem.head _, fun e => (List.pairwise_cons.1 hn).1 _ h.mem e⟩
      · rcases h.of (List.pairwise_cons.1 hn).2 y hy with e | ⟨h1, h2⟩
        · exact .inl e
        · exact .inr ⟨List.Mem.tail _ h1, h2⟩
/-- Block b alone has turned. -/
structure One (b : Nat) (T : TypeId) (cs : List Value) (w w' : World) : Prop where
  os : w'.os = w.os
  tape : w'.tape = w.tape
  output : w'.output = w.output
  size : w'.heap.size = w.heap.size
  far : ∀ k, k ≠ b → w'.heap[k]? = w.heap[k]?
  at_ : w'.heap[b]? = some (.cells cs.toArray T)
theorem St.one {a : Act} {w w' : World} {b : Nat} {T : TypeId} {cs cs' : List Value} {H' : Hp} (s : St E n H F w0 a w) (u : Upd b T cs cs' H H') (h : One b T cs' w w') : St E n H' F w0 a w' := by
  have hm := u.mem
  have hb := s.hp.blk _ hm
  have hsep : ∀ k, F.fp w k → w'.heap[k]? = w.heap[k]? := fun k hk => h.far k fun e => by subst e; exact s.sep _ hm hk
  have hf := F.st w w' s.fact hsep
  have hids : H'.map (·.1) = H.map (·.1) := u.ids
  refine ⟨s.env, ⟨fun x hx => ?_, ?_⟩, hf.1, fun x hx hk => ?_, ⟨h.os.trans s.low.os, h.tape.trans s.low.tape, h.output.trans s.low.output, by rw [h.size]; exact s.low.size, fun k hk => ?_⟩⟩
  · rcases u.of s.hp.nd x hx with rfl | ⟨h1, h2⟩
    · exact ⟨h.at_, hb.2⟩
    · exact ⟨(h.far _ h2).trans (s.hp.blk x h1).1, (s.hp.blk x h1).2⟩
  · have h1 : (H.map (·.1)).Pairwise (· ≠ ·) := List.pairwise_map.2 s.hp.nd
    rw [← hids] at h1
    exact List.pairwise_map.1 h1
  · have h2 : x.1 ∈ H.map (·.1) := by rw [← hids]; exact List.mem_map_of_mem hx
    obtain ⟨y, hy, he⟩ := List.mem_map.1 h2
    exact s.sep y hy (by rw [he]; exact hf.2 _ hk)
  · have : k ≠ b := by have := hb.2; simp at this; omega
    rw [h.far k this]
    exact s.low.block k hk
theorem setCell_one {w : World} {b o : Nat} {T : TypeId} {cs : List Value} {v : Value} (h : w.heap[b]? = some (.cells cs.toArray T)) : One b T (cs.set o v) w (w.setCell ⟨b, o, none⟩ v) := by
  refine ⟨rfl, rfl, rfl, by simp [World.setCell], fun k hk => Below.heap_setCell w ⟨b, o, none⟩ v k hk, ?_⟩
  simp [World.setCell, Array.getElem?_modify, h]
theorem One.trans {b : Nat} {T : TypeId} {cs cs' : List Value} {w w' w'' : World} (h : One b T cs w w') (k : One b T cs' w' w'') : One b T cs' w w'' :=
  ⟨k.os.trans h.os, k.tape.trans h.tape, k.output.trans h.output, k.size.trans h.size, fun i hi => (k.far i hi).trans (h.far i hi), k.at_⟩
/-- The cells with others from i on. -/
def put : List Value → Nat → List Value → List Value
  | l, _, [] => l
  | [], _, _ :: _ => []
  | _ :: l, 0, v :: vs => v :: put l 0 vs
  | x :: l, i + 1, v :: vs => x :: put l i (v :: vs)
theorem put_nil (l : List Value) (i : Nat) : put l i [] = l := by cases l <;> cases i <;> rfl
theorem put_cons : ∀ (l : List Value) (i : Nat) (v : Value) (vs : List Value), put l i (v :: vs) = put (l.set i v) (i + 1) vs
  | [], i, v, vs => by cases vs <;> simp [put]
  | x :: l, 0, v, vs => by
    cases vs with
    | nil => simp [put, put_nil]
    | cons u us => simp [put]
  | x :: l, i + 1, v, vs => by
    cases vs with
    | nil =>
      show x :: put l i [v] = _
      rw [put_cons l i v [], put_nil, put_nil]; rfl
    | cons u us =>
      show x :: put l i (v :: u :: us) = _
      rw [put_cons l i v (u :: us)]; rfl
theorem run_store_cell {w : World} {b o : Nat} {T : TypeId} {cs : List Value} {v : Value} (h : w.heap[b]? = some (.cells cs.toArray T)) (ho : o < cs.length) (hv : v.oneCell' = true) :
    (store ⟨b, o, none⟩ v).run P w = .ok () (w.setCell ⟨b, o, none⟩ v) := by
  have hc : w.cell? ⟨b, o, none⟩ = some cs[o] := by simp [World.cell?, h, ho]
  have hf : w.frozen? ⟨b, o, none⟩ = false := by simp [World.frozen?, h]
  cases v <;> simp [Value.oneCell'] at hv <;> simp [store, Sem.run, hc, hf]
theorem run_storeCells {b o : Nat} {T : TypeId} : ∀ (vs : List Value) (i : Nat) (cs : List Value) (w : World), w.heap[b]? = some (.cells cs.toArray T) → o + i + vs.length ≤ cs.length → (∀ v ∈ vs, v.oneCell' = true) →
    ∃ w', (storeCells ⟨b, o, none⟩ vs i).run P w = .ok () w' ∧ One b T (put cs (o + i) vs) w w'
  | [], i, cs, w, h, _, _ => ⟨w, by simp [storeCells], by rw [put_nil]; exact ⟨rfl, rfl, rfl, rfl, fun _ _ => rfl, h⟩⟩
  | v :: vs, i, cs, w, h, hl, h1 => by
    simp only [List.length_cons] at hl
    have e : (⟨b, o, none⟩ : Addr).add i = ⟨b, o + i, none⟩ := by unfold Addr.add; split <;> simp_all
    have h2 := setCell_one (o := o + i) (v := v) h
    obtain ⟨w', hr, ho⟩ := run_storeCells (b := b) (o := o) (T := T) vs (i + 1) (cs.set (o + i) v) _ h2.at_ (by simp; omega) (fun u hu => h1 u (List.Mem.tail _ hu))
    refine ⟨w', ?_, ?_⟩
    · unfold storeCells
      rw [Sem.run_bind, e, run_store_cell (o := o + i) h (by omega) (h1 v (List.Mem.head _))]
      exact hr
    · rw [put_cons]
      exact h2.trans ho
theorem E.store {x y : Operand} {T T' T2 : TypeId} {p : String} {af : Array Edge} {b o k : Nat} {v : Value} {cs vs cs' : List Value} {H' : Hp} (hs : ∀ w, (sizeOf T).run P w = .ok k w) (hx : ev E x = some (.pointer (some ⟨b, o, none⟩))) (hy : ev E y = some v)
    (hv : v.cells = vs.toArray) (hk : vs.length = k) (h1 : (vs.all Value.oneCell') = true) (hu : Upd b T2 cs cs' H H') (hl : Nat.ble (o + k) cs.length = true) (he : Proofs.Ytdbcimadjmdffaa.put cs o vs = cs') :
    Eff P E n H F w0 ⟨none, .store T x y, T', p, af, none⟩ (fun _ : Unit => E) (fun _ => H') (fun _ => F) := fun a w s Q K hK => by
  obtain ⟨w', hr, ho⟩ := run_storeCells (P := P) (b := b) (o := o) (T := T2) vs 0 cs w (s.hp.blk _ hu.mem).1 (by have := Nat.le_of_ble_eq_true hl; omega) (fun v hv => List.all_eq_true.1 h1 v hv)
  rw [Nat.add_zero, he] at ho
  unfold Oper.wp
  have hsz : vs.toArray.size = k := by simpa using hk
  simp only [execOp, s.env.eval hx, s.env.eval hy, Instr.storeAt, Instr.sureAddr, storeVar, Sem.run_bind, hs w, Result.andThen_ok, Sem.run_pure, hv, hsz, ne_eq, not_true_eq_false, if_false, hr, Oper.upon_skip]
  exact hK () _ _ rfl (s.one hu ho)
theorem E.storeP {x y : Operand} {T T' T2 : TypeId} {p : String} {af : Array Edge} {b o k : Nat} {v : Value} {cs vs cs' : List Value} {H' : Hp} (hs : ∀ w, (sizeOf T).run P w = .ok k w) (hx : ev E x = some (.pointer (some ⟨b, o, none⟩))) (hy : ev E y = some v)
    (hv : v.cells = vs.toArray) (hk : vs.length = k) (h1 : (vs.all Value.oneCell') = true) (hu : Upd b T2 cs cs' H H') (hl : o + k ≤ cs.length) (he : Proofs.Ytdbcimadjmdffaa.put cs o vs = cs') :
    Eff P E n H F w0 ⟨none, .store T x y, T', p, af, none⟩ (fun _ : Unit => E) (fun _ => H') (fun _ => F) := fun a w s Q K hK => by
  obtain ⟨w', hr, ho⟩ := run_storeCells (P := P) (b := b) (o := o) (T := T2) vs 0 cs w (s.hp.blk _ hu.mem).1 (by omega) (fun v hv => List.all_eq_true.1 h1 v hv)
  rw [Nat.add_zero, he] at ho
  unfold Oper.wp
  have hsz : vs.toArray.size = k := by simpa using hk
  simp only [execOp, s.env.eval hx, s.env.eval hy, Instr.storeAt, Instr.sureAddr, storeVar, Sem.run_bind, hs w, Result.andThen_ok, Sem.run_pure, hv, hsz, ne_eq, not_true_eq_false, if_false, hr, Oper.upon_skip]
  exact hK () _ _ rfl (s.one hu ho)
theorem E.buildSlice {d : Nat} {T T' k : Nat} {p : String} {af : Array Edge} {parts : Array (Nat × Operand)} {vs : List (Nat × Value)} {cs : List Value} {T2 : TypeId}
    (hb : ∀ w, (Instr.buildSlice T k vs.toArray).run P w = .ok (.slice (some ⟨w.heap.size, 0, none⟩) k k) (w.alloc (.cells cs.toArray T2))) (hp : evp E parts.toList = some vs) (hn : Nat.blt d n = true) :
    Eff P E n H F w0 ⟨some d, .buildSlice T k parts, T', p, af, none⟩ (fun b : Nat => (d, .slice (some ⟨b, 0, none⟩) k k) :: E) (fun b => (b, cs, T2) :: H) (fun _ => F) := fun a w s Q K hK => by
  have h := s.env.evps _ _ hp
  have h2 : parts.map (fun x : Nat × Operand => (x.1, a.eval x.2)) = vs.toArray := by
    apply Array.toList_inj.1
    simpa using h
  have h3 : (execOp a.eval ⟨some d, .buildSlice T k parts, T', p, af, none⟩).run P w = .ok (.value (.slice (some ⟨w.heap.size, 0, none⟩) k k)) (w.alloc (.cells cs.toArray T2)) := by
    show (do let v ← Instr.buildSlice T k (parts.map fun x : Nat × Operand => (x.1, a.eval x.2)); pure (Next.value v)).run P w = _
    rw [h2, Sem.run_bind, hb w]
    rfl
  unfold Oper.wp
  rw [h3, Oper.upon_value]
  exact hK _ _ _ (put_size _ _ _) (s.new.put hn)
/-! Calls. -/
theorem run_call {f : FuncId} {a : Act} {w : World} {args : Array Operand} {ts : Array TypeId} {d : Option Nat} {T' : TypeId} {p : String} {af : Array Edge} {vs : List Value} (hf : ∀ (args : Array Value) (w : World), (callFunc f args).run P w = .ok (.enter f args) w)
    (he : EnvOf E n a) (hx : evs E args.toList = some vs) : (execOp a.eval ⟨d, .call { callee := .value (.func f), args := args, argTypes := ts }, T', p, af, none⟩).run P w = .ok (.enter f vs.toArray) w := by
  have h := he.evals _ _ hx
  have h2 : args.map a.eval = vs.toArray := by
    apply Array.toList_inj.1
    simpa using h
  have h3 : a.eval (.func f) = .func (.func f) #[] #[] := rfl
  simp only [execOp, resolve, h2, h3, Deferred.ofValue, Sem.run_bind, Sem.run_pure, Result.andThen_ok, invoke]
  simp [hf]
/-- A call that returns v and only makes new blocks. -/
def Ret (P : Program) (f : FuncId) (vs : List Value) (w : World) (v : Value) : Prop := Calls P f vs.toArray w fun e w' => e = .returned v ∧ Below w.heap.size w w'
theorem E.call {f : FuncId} {args : Array Operand} {ts : Array TypeId} {d : Nat} {T' : TypeId} {p : String} {af : Array Edge} {vs : List Value} {v : Value} (hf : ∀ (args : Array Value) (w : World), (callFunc f args).run P w = .ok (.enter f args) w)
    (hx : evs E args.toList = some vs) (hc : ∀ a w, St E n H F w0 a w → Ret P f vs w v) (hn : Nat.blt d n = true) :
    Eff P E n H F w0 ⟨some d, .call { callee := .value (.func f), args := args, argTypes := ts }, T', p, af, none⟩ (fun _ : Unit => (d, v) :: E) (fun _ => H) (fun _ => F) := fun a w s Q K hK => by
  unfold Oper.wp
  rw [run_call hf s.env hx, Oper.upon_enter]
  exact (hc a w s).mono fun e w' ⟨he, hb⟩ => by subst he; exact hK () _ _ (put_size _ _ _) ((s.grow hb).put hn)
/-- A call that returns one of many values, with a fact on it: blocks that are new, or older than the call's own. -/
theorem E.callF {ι : Type} {f : FuncId} {args : Array Operand} {ts : Array TypeId} {d : Nat} {T' : TypeId} {p : String} {af : Array Edge} {vs : List Value} (val : ι → Value) (G : ι → SF) (hf : ∀ (args : Array Value) (w : World), (callFunc f args).run P w = .ok (.enter f args) w)
    (hx : evs E args.toList = some vs) (hc : ∀ a w, St E n H F w0 a w → Calls P f vs.toArray w fun e w' => ∃ i, e = .returned (val i) ∧ Below w.heap.size w w' ∧ (G i).p w' ∧ ∀ b, (G i).fp w' b → w.heap.size ≤ b ∨ b < w0.heap.size) (hn : Nat.blt d n = true) :
    Eff P E n H F w0 ⟨some d, .call { callee := .value (.func f), args := args, argTypes := ts }, T', p, af, none⟩ (fun i => (d, val i) :: E) (fun _ => H) (fun i => F.and (G i)) := fun a w s Q K hK => by
  unfold Oper.wp
  rw [run_call hf s.env hx, Oper.upon_enter]
  refine (hc a w s).mono fun e w' ⟨i, he, hb, hg, hfp⟩ => ?_
  subst he
  have g := s.grow hb
  refine hK i _ _ (put_size _ _ _) (St.put ⟨g.env, g.hp, ⟨g.fact, hg⟩, fun x hx hk => ?_, g.low⟩ hn)
  rcases hk with hk | hk
  · exact g.sep x hx hk
  · have h1 := s.hp.lt hx
    have h2 := (s.hp.blk x hx).2
    rcases hfp _ hk with h3 | h3 <;> omega
theorem run_callV {f : FuncId} {g : Nat} {a : Act} {w : World} {args : Array Operand} {ts : Array TypeId} {d : Option Nat} {T' : TypeId} {p : String} {af : Array Edge} {vs : List Value} (hf : ∀ (args : Array Value) (w : World), (callFunc f args).run P w = .ok (.enter f args) w)
    (he : EnvOf E n a) (hg : look E g = some (.func (.func f) #[] #[])) (hx : evs E args.toList = some vs) : (execOp a.eval ⟨d, .call { callee := .value (.tmp g), args := args, argTypes := ts }, T', p, af, none⟩).run P w = .ok (.enter f vs.toArray) w := by
  have h := he.evals _ _ hx
  have h2 : args.map a.eval = vs.toArray := by
    apply Array.toList_inj.1
    simpa using h
  have h3 : a.eval (.tmp g) = .func (.func f) #[] #[] := he.eval (x := .tmp g) hg
  simp only [execOp, resolve, h2, h3, Deferred.ofValue, Sem.run_bind, Sem.run_pure, Result.andThen_ok, invoke]
  simp [hf]
/-- A call of a function value. -/
theorem E.callV {f : FuncId} {g : Nat} {args : Array Operand} {ts : Array TypeId} {d : Nat} {T' : TypeId} {p : String} {af : Array Edge} {vs : List Value} {v : Value} (hf : ∀ (args : Array Value) (w : World), (callFunc f args).run P w = .ok (.enter f args) w)
    (hg : look E g = some (.func (.func f) #[] #[])) (hx : evs E args.toList = some vs) (hc : ∀ a w, St E n H F w0 a w → Ret P f vs w v) (hn : Nat.blt d n = true) :
    Eff P E n H F w0 ⟨some d, .call { callee := .value (.tmp g), args := args, argTypes := ts }, T', p, af, none⟩ (fun _ : Unit => (d, v) :: E) (fun _ => H) (fun _ => F) := fun a w s Q K hK => by
  unfold Oper.wp
  rw [run_callV hf s.env hg hx, Oper.upon_enter]
  exact (hc a w s).mono fun e w' ⟨he, hb⟩ => by subst he; exact hK () _ _ (put_size _ _ _) ((s.grow hb).put hn)
/-! ### Code -/
/-- What is next. -/
def WQ (Q : Exit → Act → World → Prop) (e : Exit) (E : Env) (n : Nat) (H : Hp) (F : SF) (w0 : World) : Prop := ∀ a w, St E n H F w0 a w → Q e a w
theorem WC.seq {x y : Code} (h : WC P x (Exit.then (fun a w => y.wp P Q a w) Q) E n H F w0) : WC P (.seq x y) Q E n H F w0 := fun a w s => wp_seq (h a w s)
theorem WC.skip (h : ∀ a w, St E n H F w0 a w → Q .normal a w) : WC P .skip Q E n H F w0 := fun a w s => wp_skip (h a w s)
theorem WC.region {id : Nat} {l : List Oper} (h : WL P l.toArray Q l E n H F w0) : WC P (.region id l.toArray false) Q E n H F w0 := fun a w s => wp_region_lit (h a w s)
theorem WC.cond {c : Operand} {x y : Code} {b : Bool} (hc : ev E c = some (.bool b)) (ht : b = true → WC P x Q E n H F w0) (hf : b = false → WC P y Q E n H F w0) : WC P (.cond c x y) Q E n H F w0 := fun a w s =>
  wp_cond_split (s.env.eval hc) (fun hb => ht hb a w s) (fun hb => hf hb a w s)
theorem WC.condT {c : Operand} {x y : Code} (hc : ev E c = some (.bool true)) (ht : WC P x Q E n H F w0) : WC P (.cond c x y) Q E n H F w0 := fun a w s => wp_cond_true (s.env.eval hc) (ht a w s)
theorem WC.condF {c : Operand} {x y : Code} (hc : ev E c = some (.bool false)) (hf : WC P y Q E n H F w0) : WC P (.cond c x y) Q E n H F w0 := fun a w s => wp_cond_false (s.env.eval hc) (hf a w s)
theorem WC.isT {c : Operand} {x y : Code} {b : Bool} (hc : ev E c = some (.bool b)) (hb : b = true) (ht : WC P x Q E n H F w0) : WC P (.cond c x y) Q E n H F w0 := by subst hb; exact WC.condT hc ht
theorem WC.isF {c : Operand} {x y : Code} {b : Bool} (hc : ev E c = some (.bool b)) (hb : b = false) (ht : WC P y Q E n H F w0) : WC P (.cond c x y) Q E n H F w0 := by subst hb; exact WC.condF hc ht
/-- Some slots are forgotten. -/
def dropE (ds : List Nat) : Env → Env
  | [] => []
  | (k, v) :: E => cond (ds.any (Nat.beq k)) (dropE ds E) ((k, v) :: dropE ds E)
theorem sub_drop (ds : List Nat) : ∀ E : Env, sub (dropE ds E) E
  | [] => sub_nil _
  | e :: E => fun t v h => by
    simp only [dropE] at h
    have ih := sub_drop ds E t v
    cases hc : ds.any (Nat.beq e.1) <;> simp only [hc, cond_true, cond_false] at h
    · simp only [look] at h ⊢
      cases hb : Nat.beq e.1 t <;> simp only [hb, cond_true, cond_false] at h ⊢
      · exact ih h
      · exact h
    · simp only [look]
      cases hb : Nat.beq e.1 t
      · exact ih h
      · exfalso
        obtain rfl := Nat.eq_of_beq_eq_true hb
        exact absurd h (by
          have key : ∀ E : Env, look (dropE ds E) e.1 = none := by
            intro E
            induction E with
            | nil => rfl
            | cons x E ih =>
              simp only [dropE]
              cases hx : ds.any (Nat.beq x.1)
              · simp only [cond_false, look]
                cases hy : Nat.beq x.1 e.1
                · exact ih
                · obtain h3 := Nat.eq_of_beq_eq_true hy
                  rw [h3] at hx; rw [hx] at hc; cases hc
              · exact ih
          rw [key E]
          simp)
theorem WC.drop {c : Code} (ds : List Nat) (h : WC P c Q (dropE ds E) n H F w0) : WC P c Q E n H F w0 := WC.weak (sub_drop ds E) h
theorem WQ.and {e : Exit} (h : WQ Q e E n H F w0) : WQ (fun e' a w => e' = e ∧ Q e' a w) e E n H F w0 := fun a w s => ⟨rfl, h a w s⟩
theorem WC.block {id : Nat} {c : Code} (h : WC P c (Exit.inBlock id Q) E n H F w0) : WC P (.block id c) Q E n H F w0 := fun a w s => wp_block (h a w s)
theorem WL.nil (h : WQ Q .normal E n H F w0) : WL P ops Q [] E n H F w0 := fun a w s => wpList_nil (h a w s)
theorem WC.skip' (h : WQ Q .normal E n H F w0) : WC P .skip Q E n H F w0 := fun a w s => wp_skip (h a w s)
theorem WC.ret (h : WQ Q .ret E n H F w0) : WC P .ret Q E n H F w0 := fun a w s => wp_ret (h a w s)
theorem WC.exit {id : Nat} (h : WQ Q (.exit id) E n H F w0) : WC P (.exit id) Q E n H F w0 := fun a w s => wp_exit (h a w s)
theorem WQ.next {y : Code} (h : WC P y Q E n H F w0) : WQ (Exit.then (fun a w => y.wp P Q a w) Q) .normal E n H F w0 := fun a w s => h a w s
theorem WQ.thenRet {K : Act → World → Prop} (h : WQ Q .ret E n H F w0) : WQ (Exit.then K Q) .ret E n H F w0 := fun a w s => h a w s
theorem WQ.thenExit {K : Act → World → Prop} {id : Nat} (h : WQ Q (.exit id) E n H F w0) : WQ (Exit.then K Q) (.exit id) E n H F w0 := fun a w s => h a w s
theorem WQ.blockRet {id : Nat} (h : WQ Q .ret E n H F w0) : WQ (Exit.inBlock id Q) .ret E n H F w0 := fun a w s => h a w s
theorem WQ.blockEnd {id : Nat} (h : WQ Q .normal E n H F w0) : WQ (Exit.inBlock id Q) .normal E n H F w0 := fun a w s => h a w s
theorem WQ.blockExit {id : Nat} (h : WQ Q .normal E n H F w0) : WQ (Exit.inBlock id Q) (.exit id) E n H F w0 := fun a w s => by
  simp only [Exit.inBlock, if_true]; exact h a w s
theorem WQ.blockPass {id id' : Nat} (hne : Nat.beq id' id = false) (h : WQ Q (.exit id') E n H F w0) : WQ (Exit.inBlock id Q) (.exit id') E n H F w0 := fun a w s => by
  simp only [Exit.inBlock]
  rw [if_neg (fun e => by subst e; simp at hne)]
  exact h a w s
/-- A loop: i tells how far it is. -/
theorem WC.loop {ι : Type} {c : Code} (Ei : ι → Env) (Hi : ι → Hp) (Fi : ι → SF) (I : ι → Prop) (μ : ι → Nat) (i0 : ι) (h0 : I i0) (hE : WQ (fun _ a w => St (Ei i0) n (Hi i0) (Fi i0) w0 a w) .normal E n H F w0)
    (round : ∀ i, I i → WC P c (Exit.then (fun a w => ∃ j, I j ∧ μ j < μ i ∧ St (Ei j) n (Hi j) (Fi j) w0 a w) Q) (Ei i) n (Hi i) (Fi i) w0) : WC P (.loop c) Q E n H F w0 := fun a w s => by
  intro b k cs
  have key : ∀ m i, μ i = m → I i → ∀ a w, St (Ei i) n (Hi i) (Fi i) w0 a w → ∃ e a' w', Q e a' w' ∧ Arrives P (lone (b.at a (.code c :: .inLoop c :: k)) cs w) b k cs e a' w' := by
    intro m
    induction m using Nat.strongRecOn with
    | _ m ih =>
      intro i hm hi a w s
      obtain ⟨e, a₁, w₁, hq, harr⟩ := round i hi a w s b (.inLoop c :: k) cs
      cases e with
      | normal =>
        obtain ⟨j, hj, hlt, hs⟩ := hq
        obtain ⟨e₂, a₂, w₂, hq₂, harr₂⟩ := ih (μ j) (by omega) j rfl hj a₁ w₁ hs
        exact ⟨e₂, a₂, w₂, hq₂, .of_steps (Steps.trans harr (.one step_inLoop)) harr₂⟩
      | exit id => exact ⟨_, a₁, w₁, hq, .pass (x := .inLoop c) rfl (fun _ _ => .inl (by simp)) harr⟩
      | goto l => exact ⟨_, a₁, w₁, hq, .pass (x := .inLoop c) rfl (fun _ _ => .inl (by simp)) harr⟩
      | ret => exact ⟨_, a₁, w₁, hq, .pass (x := .inLoop c) rfl (fun _ _ => .inl (by simp)) harr⟩
      | panic ch => exact ⟨_, a₁, w₁, hq, .pass (x := .inLoop c) rfl (fun _ _ => .inl (by simp)) harr⟩
      | outgrown => exact ⟨_, a₁, w₁, hq, .pass (x := .inLoop c) rfl (fun _ _ => .inl (by simp)) harr⟩
  obtain ⟨e, a', w', hq, harr⟩ := key _ i0 rfl h0 a w (hE a w s)
  exact ⟨e, a', w', hq, .of_steps (.one step_loop) harr⟩
/-! ### A function -/
def ents : Nat → List Value → Env
  | _, [] => []
  | k, v :: vs => (k, v) :: ents (k + 1) vs
theorem look_ents : ∀ (vs : List Value) (k t : Nat) (v : Value), look (ents k vs) t = some v → ∃ j, t = k + j ∧ vs[j]? = some v
  | [], k, t, v, h => by simp [ents, look] at h
  | u :: us, k, t, v, h => by
    simp only [ents, look] at h
    cases hb : Nat.beq k t
    · rw [hb] at h
      obtain ⟨j, h1, h2⟩ := look_ents us (k + 1) t v h
      exact ⟨j + 1, by omega, by simpa using h2⟩
    · rw [hb] at h
      obtain rfl := Nat.eq_of_beq_eq_true hb
      exact ⟨0, rfl, by simpa using h⟩
end
section
variable {P : Program} {ops : Array Oper} {Q : Exit → Act → World → Prop} {rest : List Oper} {E : Env} {n : Nat} {H : Hp} {F : SF} {w0 : World}
theorem enter {f : FuncId} {fn : Func} {c : Code} {vs : List Value} {w : World} {R : Ending → World → Prop} (hf : P.funcs[f]? = some fn) (hb : fn.body = some c) (hn : fn.ntmps = n) (hl : Nat.ble vs.length n = true) (F : SF) (hF : F.p w)
    (h : WC P c (bodyPost P fn R) (ents 0 vs) n [] F w) : Calls P f vs.toArray w R := by
  refine calls_of_wp hf hb (h _ _ ⟨⟨?_, fun t v ht => ?_, rfl⟩, HpOf.nil _ _, hF, fun _ h => (by cases h), Below.refl _ _⟩)
  · have := Nat.le_of_ble_eq_true hl
    simp [hn]; omega
  · obtain ⟨j, rfl, hj⟩ := look_ents _ _ _ _ ht
    have hlt : j < vs.length := (List.getElem?_eq_some_iff.1 hj).1
    simp only [Nat.zero_add]
    rw [Array.getElem?_append_left (by simpa using hlt)]
    simpa using hj
end
section
variable [Inhabited DSx] {P : Program} {ops : Array Oper} {Q : Exit → Act → World → Prop} {rest : List Oper} {E : Env} {n : Nat} {H : Hp} {F : SF} {w0 : World}
/-- What a result is. -/
def RV (P : Program) (E : Env) (H : Hp) (r : ResultVar) (v : Value) : Prop :=
  (∃ t, r = .tmp t ∧ look E t = some v) ∨
  (∃ (t b o k T : Nat) (T2 : TypeId) (cs l : List Value), r = .cell t T ∧ v = .agg l.toArray ∧ Wide P T k ∧ look E t = some (.pointer (some ⟨b, o, none⟩)) ∧ (b, cs, T2) ∈ H ∧ seg cs o k = some l) ∨
  (∃ (t b o T : Nat) (T2 : TypeId) (cs : List Value), r = .cell t T ∧ Flat P T ∧ look E t = some (.pointer (some ⟨b, o, none⟩)) ∧ (b, cs, T2) ∈ H ∧ nth cs o = some v)
theorem RV.tmp {t : Tmp} {v : Value} (h : look E t = some v) : RV P E H (.tmp t) v := .inl ⟨t, rfl, h⟩
theorem RV.cell {t b o k : Nat} {T T2 : TypeId} {cs r : List Value} (hT : Wide P T k) (h : look E t = some (.pointer (some ⟨b, o, none⟩))) (hm : (b, cs, T2) ∈ H) (hs : seg cs o k = some r) : RV P E H (.cell t T) (.agg r.toArray) :=
  .inr (.inl ⟨t, b, o, k, T, T2, cs, r, rfl, rfl, hT, h, hm, hs⟩)
theorem RV.flat {t b o : Nat} {T T2 : TypeId} {cs : List Value} {v : Value} (hT : Flat P T) (h : look E t = some (.pointer (some ⟨b, o, none⟩))) (hm : (b, cs, T2) ∈ H) (hs : nth cs o = some v) : RV P E H (.cell t T) v :=
  .inr (.inr ⟨t, b, o, T, T2, cs, rfl, hT, h, hm, hs⟩)
def RVs (P : Program) (E : Env) (H : Hp) : List ResultVar → List Value → Prop
  | [], [] => True
  | r :: rs, v :: vs => RV P E H r v ∧ RVs P E H rs vs
  | _, _ => False
theorem RVs.nil : RVs P E H [] [] := trivial
theorem RVs.cons {r : ResultVar} {v : Value} {rs : List ResultVar} {vs : List Value} (h : RV P E H r v) (k : RVs P E H rs vs) : RVs P E H (r :: rs) (v :: vs) := ⟨h, k⟩
def All2 {α β : Type} (p : α → β → Prop) : List α → List β → Prop
  | [], [] => True
  | x :: xs, y :: ys => p x y ∧ All2 p xs ys
  | _, _ => False
def resOf (tmps : Array Value) : ResultVar → Sem Value
  | .tmp t => pure (tmps.getD t undef)
  | .cell a t => do loadVar t (← asAddr (tmps.getD a undef))
theorem RV.run {r : ResultVar} {v : Value} {a : Act} {w : World} (h : RV P E H r v) (s : St E n H F w0 a w) : (resOf a.tmps r).run P w = .ok v w := by
  rcases h with ⟨t, rfl, h⟩ | ⟨t, b, o, k, T, T2, cs, l, rfl, rfl, hT, h, hm, hs⟩ | ⟨t, b, o, T, T2, cs, rfl, hT, h, hm, hs⟩
  · simp [resOf, s.env.at_ _ _ h]
  · have h1 := run_loadCellsFrom (P := P) (w := w) (b := b) (o := o) k 0 #[] l (seg_at _ _ _ _ hs).1 (fun j hj => by rw [Nat.add_zero, s.hp.cell hm]; exact (seg_at _ _ _ _ hs).2 j hj)
    simp [resOf, s.env.at_ _ _ h, asAddr, loadVar, hT.1 w, hT.2 w, loadCells, h1]
  · have hq := run_load_cell (P := P) (w := w) (a := ⟨b, o, none⟩) (v := v) (by rw [s.hp.cell hm, ← nth_eq, hs])
    have h0 := s.env.at_ _ _ h
    simp only [resOf, Array.getD_eq_getD_getElem?, h0, Option.getD_some, asAddr, loadVar, Sem.run_bind, Sem.run_pure, Result.andThen_ok, hT w, Bool.false_eq_true, if_false, hq]
theorem run_mapM {w : World} (f : ResultVar → Sem Value) : ∀ (rs : List ResultVar) (vs : List Value), All2 (fun r v => (f r).run P w = .ok v w) rs vs → (rs.mapM f).run P w = .ok vs w
  | [], [], _ => by simp
  | [], _ :: _, h => h.elim
  | _ :: _, [], h => h.elim
  | _ :: _, _ :: _, ⟨h, k⟩ => by
    rw [List.mapM_cons]
    simp only [Sem.run_bind, h, Result.andThen_ok, run_mapM f _ _ k, Sem.run_pure]
theorem RVs.run {a : Act} {w : World} (s : St E n H F w0 a w) : ∀ {rs : List ResultVar} {vs : List Value}, RVs P E H rs vs → All2 (fun r v => (resOf a.tmps r).run P w = .ok v w) rs vs
  | [], [], _ => trivial
  | [], _ :: _, h => h.elim
  | _ :: _, [], h => h.elim
  | _ :: _, _ :: _, ⟨h, k⟩ => ⟨h.run s, RVs.run s k⟩
/-- The value that a call returns. -/
def packed : List Value → Value
  | [v] => v
  | vs => .tuple vs.toArray
theorem run_results {fn : Func} {rs : List ResultVar} {vs : List Value} {a : Act} {w : World} (hr : fn.results = rs.toArray) (h : RVs P E H rs vs) (s : St E n H F w0 a w) : (results fn a.tmps).run P w = .ok (packed vs) w := by
  have h1 := run_mapM (P := P) (w := w) (resOf a.tmps) rs vs (RVs.run s h)
  have e : results fn a.tmps = (do
      let us ← fn.results.mapM (resOf a.tmps)
      pure (if h : us.size = 1 then us[0] else .tuple us)) := by
    unfold results
    congr 1
  rw [e, hr, List.mapM_toArray]
  simp only [Sem.run_bind, Sem.run_map, h1, Result.andThen_ok]
  match vs with
  | [] => rfl
  | [v] => rfl
  | v :: u :: us => simp [packed]
end
section
variable {P : Program} {ops : Array Oper} {Q : Exit → Act → World → Prop} {rest : List Oper} {E : Env} {n : Nat} {H : Hp} {F : SF} {w0 : World}
theorem WQ.done {fn : Func} {R : Ending → World → Prop} {rs : List ResultVar} {vs : List Value} (hr : fn.results = rs.toArray) (h : RVs P E H rs vs) (hR : ∀ a w, St E n H F w0 a w → R (.returned (packed vs)) w) : WQ (bodyPost P fn R) .ret E n H F w0 := fun a w s =>
  bodyPost_ret (run_results hr h s) s.env.defers (hR a w s)
theorem WQ.over {fn : Func} {R : Ending → World → Prop} {rs : List ResultVar} {vs : List Value} (hr : fn.results = rs.toArray) (h : RVs P E H rs vs) (hR : ∀ a w, St E n H F w0 a w → R (.returned (packed vs)) w) : WQ (bodyPost P fn R) .normal E n H F w0 := fun a w s =>
  bodyPost_end (run_results hr h s) s.env.defers (hR a w s)
end
end Go.Proofs.Ytdbcimadjmdffaa
