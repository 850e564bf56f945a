/- The logic of Sx and Sd once more, for code in whatever frame: a round of a range over a function, too; operations that call yield, too. No condition. -/
import Derived.Test.YtdbcimadjmdffaaP4
import Derived.RangeFuncIn
import Derived.RangeFuncLeaves
import Derived.OrdersIn
import Derived.TacticsIn
import Derived.ControlIn
set_option linter.unusedVariables false
set_option linter.unusedSimpArgs false
set_option linter.unusedSectionVars false
namespace Go.Proofs.Ytdbcimadjmdffaa
open Go.RowKit
/-- Of which make the frame is: a round of a loop, or a function's own. -/
structure Rdx where
  r : Option Nat
namespace R
section
variable [Inhabited Rdx]
def fr : Fence := { fn := fun _ => True, depth := none, alive := false, round := (default : Rdx).r }
variable {P : Program} {ops : Array Oper} {md : Region.Mode} {Q : Exit → Act → World → Prop} {brk : Nat → Bool} {G : World → World → Prop}
theorem room_fr (k : Nat) : fr.room k := fun _ h => by cases h
theorem calls_in {f : FuncId} {args : Array Value} {w : World} {R : Ending → World → Prop} {k : Nat} (h : Calls P f args w R) : CallsIn fr k P f args w R :=
  show CallsIn Fence.wide k P f args w R from callsIn_wide.2 h
theorem op_mono {o : Oper} {a : Act} {w : World} {K K' : Act → World → Prop} {Q' : Exit → Act → World → Prop} (hK : ∀ a w, K a w → K' a w) (hQ : ∀ e a w, Q e a w → Q' e a w) (h : o.wpIn fr 0 P a w K Q) : o.wpIn fr 0 P a w K' Q' := by
  refine ⟨h.1, ?_⟩
  have hh := h.2
  have hl : LetsOut Q → LetsOut Q' := fun ⟨a, w, h⟩ => ⟨a, w, hQ _ _ _ h⟩
  generalize (o.semAt fr.round a.eval).run P w = r at *
  cases r with
  | ok x w' =>
    cases x <;> simp only [Oper.uponIn] at hh ⊢ <;>
      first
        | exact hK _ _ hh
        | exact ⟨hh.1, CallsIn.mono hh.2 (fun e w'' he => by cases e <;> first | exact hK _ _ he | exact hQ _ _ _ he | exact hl he)⟩
        | exact ⟨hh.1, RowsIn.mono hh.2 (fun _ _ he => hK _ _ he)⟩
        | exact ⟨hh.1, RoundIn.mono hh.2 (fun e w'' he => by cases e <;> first | exact hK _ _ he | exact hQ _ _ _ he | exact hl he)⟩
  | halt x w' => cases x <;> simp only [Oper.uponIn] at hh ⊢ <;> exact hQ _ _ _ hh
/-- What holds of an operation in a function's own frame holds in a round, too, if it is no defer. -/
theorem op_in {o : Oper} {a : Act} {w : World} {K : Act → World → Prop} (h : o.wp P a w (fun a' w' => a'.defers = a.defers ∧ K a' w') (fun _ _ _ => False)) : o.wpIn fr 0 P a w K Q := by
  have put_d : ∀ (x : Act) (d : Option Nat) (v : Value), (x.put d v).defers = x.defers := fun x d v => by cases d <;> rfl
  have key : ∀ (d : Deferred) (v : Value), ({ a with defers := d :: a.defers }.put o.dst v).defers ≠ a.defers := fun d v e => by
    rw [put_d] at e
    have := congrArg List.length e
    simp at this
  refine ⟨fun _ _ => trivial, ?_⟩
  unfold Oper.wp at h
  have hs : o.semAt fr.round a.eval = execOp a.eval o := by
    refine Oper.semAt_eq _ _ _ fun c hc => ?_
    unfold execOp at h
    rw [hc] at h
    simp only [Sem.run_bind] at h
    cases hr : (resolve a.eval c o.type).run P w with
    | ok d w' =>
      rw [hr] at h
      simp only [Result.andThen_ok, Sem.run_pure, Oper.upon] at h
      exact key d undef h.1
    | halt x w' =>
      rw [hr] at h
      cases x <;> exact h
  rw [hs]
  generalize (execOp a.eval o).run P w = r at h
  cases r with
  | ok x w' =>
    cases x <;> simp only [Oper.upon] at h <;> simp only [Oper.uponIn]
    case value v => exact h.2
    case skip => exact h.2
    case defer d => exact absurd h.1 (key d undef)
    case enter f args =>
      refine ⟨fun hx => absurd hx (by simp [fr]), calls_in (Calls.mono h fun e w'' he => ?_)⟩
      cases e with
      | returned v => exact he.2
      | panicked c => exact he.elim
      | outgrown => obtain ⟨_, _, h⟩ := he; exact h.elim
    case row row args =>
      exact ⟨fun hx => absurd hx (by simp [fr]), fun c cs _ => let ⟨v, w'', r, s⟩ := h c cs; ⟨v, w'', r.2, stepsIn_wide.2 s⟩⟩
  | halt x w' => cases x <;> exact h.elim
variable [Inhabited DSx] {n : Nat} {w0 : World} {E : Env} {H : Hp} {F : SF} {rest : List Oper}
def EffI (P : Program) (E : Env) (n : Nat) (H : Hp) (F : SF) (w0 : World) (o : Oper) {ι : Type} (Ei : ι → Env) (Hi : ι → Hp) (Fi : ι → SF) : Prop :=
  ∀ a w, St E n H F w0 a w → ∀ (Q : Exit → Act → World → Prop) (K : Act → World → Prop), (∀ i a' w', a'.tmps.size = a.tmps.size → St (Ei i) n (Hi i) (Fi i) w0 a' w' → K a' w') → o.wpIn fr 0 P a w K Q
theorem eff_i {o : Oper} {ι : Type} {Ei : ι → Env} {Hi : ι → Hp} {Fi : ι → SF} (h : Eff P E n H F w0 o Ei Hi Fi) : EffI P E n H F w0 o Ei Hi Fi := fun a w s Q K hK =>
  op_in (h a w s _ _ fun i a' w' hz s' => ⟨s'.env.defers.trans s.env.defers.symm, hK i a' w' hz s'⟩)
def WL (P : Program) (ops : Array Oper) (Q : Exit → Act → World → Prop) (l : List Oper) (E : Env) (n : Nat) (H : Hp) (F : SF) (w0 : World) : Prop :=
  ∀ a w, St E n H F w0 a w → wpListIn fr 0 P ops Q l a w
def WC (P : Program) (c : Code) (Q : Exit → Act → World → Prop) (E : Env) (n : Nat) (H : Hp) (F : SF) (w0 : World) : Prop :=
  ∀ a w, St E n H F w0 a w → c.wpIn fr 0 P Q a w
theorem WC.weak {c : Code} {E' : Env} (k : sub E' E) (h : WC P c Q E' n H F w0) : WC P c Q E n H F w0 := fun a w s => h a w (s.weak k)
theorem WC.drop {c : Code} (ds : List Nat) (h : WC P c Q (dropE ds E) n H F w0) : WC P c Q E n H F w0 := WC.weak (sub_drop ds E) h
theorem WC.know {c : Code} {p : Prop} (h : ∀ a w, St E n H F w0 a w → p) (k : p → WC P c Q E n H F w0) : WC P c Q E n H F w0 := fun a w s => k (h a w s) a w s
theorem WC.sub {c : Code} {H' : Hp} (h : Hsub H' H) (k : WC P c Q E n H' F w0) : WC P c Q E n H F w0 := fun a w s => k a w (s.sub h)
theorem WL.effI {o : Oper} {ι : Type} {Ei : ι → Env} {Hi : ι → Hp} {Fi : ι → SF} (he : EffI P E n H F w0 o Ei Hi Fi) (hg : o.guard = none) (h : ∀ i, WL P ops Q rest (Ei i) n (Hi i) (Fi i) w0) : WL P ops Q (o :: rest) E n H F w0 := fun a w s =>
  wpListIn_plain hg fun K hK => he a w s Q K fun i a' w' _ s' => hK _ _ (h i a' w' s')
theorem WL.eff {o : Oper} {ι : Type} {Ei : ι → Env} {Hi : ι → Hp} {Fi : ι → SF} (he : Eff P E n H F w0 o Ei Hi Fi) (hg : o.guard = none) (h : ∀ i, WL P ops Q rest (Ei i) n (Hi i) (Fi i) w0) : WL P ops Q (o :: rest) E n H F w0 := WL.effI (eff_i he) hg h
theorem WL.val {o : Oper} {d : Nat} {v : Value} (hy : Yv P E n H F w0 o v) (hg : o.guard = none) (hd : o.dst = some d) (hn : Nat.blt d n = true) (h : WL P ops Q rest ((d, v) :: E) n H F w0) : WL P ops Q (o :: rest) E n H F w0 := fun a w s =>
  wpListIn_plain hg fun K hK => op_in (by
    unfold Oper.wp
    rw [hy a w s, Oper.upon_value, hd]
    exact ⟨rfl, hK _ _ (h _ _ (s.put hn))⟩)
theorem WL.pure {o : Oper} {d : Nat} {v : Value} (hy : Yp P E n o v) (hg : o.guard = none) (hd : o.dst = some d) (hn : Nat.blt d n = true) (h : WL P ops Q rest ((d, v) :: E) n H F w0) : WL P ops Q (o :: rest) E n H F w0 := WL.val hy.v hg hd hn h
theorem WL.known {l : List Oper} {t : Nat} {b r : Bool} (hl : look E t = some (.bool b)) (hr : b = r) (h : WL P ops Q l ((t, .bool r) :: E) n H F w0) : WL P ops Q l E n H F w0 := fun a w s => h a w (s.known hl hr)
theorem WL.split {l : List Oper} {t : Nat} {b : Bool} (hl : look E t = some (.bool b)) (h : ∀ r, b = r → WL P ops Q l ((t, .bool r) :: E) n H F w0) : WL P ops Q l E n H F w0 := WL.known hl rfl (h b rfl)
theorem gF {o : Oper} {d : Nat} (hf : gfB ops E n o = some d) (h : WL P ops Q rest ((d, undef) :: E) n H F w0) : WL P ops Q (o :: rest) E n H F w0 := fun a w s => by
  obtain ⟨hd, hn, hw⟩ := gfB_at hf
  unfold wpListIn
  rw [if_neg (by simp [hw s.env]), hd]
  exact ⟨fun _ _ => trivial, h _ _ (s.put hn)⟩
theorem gT {o : Oper} (ht : gtB ops E o = true) (h : WL P ops Q ({ o with guard := none } :: rest) E n H F w0) : WL P ops Q (o :: rest) E n H F w0 := fun a w s => by
  obtain ⟨g, b, hg, hy⟩ := gtB_at ht s.env
  have h1 := h a w s
  unfold wpListIn at h1 ⊢
  have hw : Region.wanted o (yielded ops a.tmps) = true := by simp [Region.wanted, hg, hy]
  rw [if_pos hw]
  rw [if_pos (by simp [Region.wanted])] at h1
  exact h1
theorem WC.seq {x y : Code} (h : WC P x (Exit.then (fun a w => y.wpIn fr 0 P Q a w) Q) E n H F w0) : WC P (.seq x y) Q E n H F w0 := fun a w s => wpIn_seq (h a w s)
theorem WC.region {id : Nat} {l : List Oper} (h : WL P l.toArray Q l E n H F w0) : WC P (.region id l.toArray false) Q E n H F w0 := fun a w s => wpIn_region_lit (h a w s)
theorem WC.cond {c : Operand} {x y : Code} {b : Bool} (hc : ev E c = some (.bool b)) (ht : b = true → WC P x Q E n H F w0) (hf : b = false → WC P y Q E n H F w0) : WC P (.cond c x y) Q E n H F w0 := fun a w s =>
  wpIn_cond_split (s.env.eval hc) (fun hb => ht hb a w s) (fun hb => hf hb a w s)
theorem WC.condT {c : Operand} {x y : Code} (hc : ev E c = some (.bool true)) (ht : WC P x Q E n H F w0) : WC P (.cond c x y) Q E n H F w0 := fun a w s => wpIn_cond_true (s.env.eval hc) (ht a w s)
theorem WC.condF {c : Operand} {x y : Code} (hc : ev E c = some (.bool false)) (hf : WC P y Q E n H F w0) : WC P (.cond c x y) Q E n H F w0 := fun a w s => wpIn_cond_false (s.env.eval hc) (hf a w s)
theorem WC.isT {c : Operand} {x y : Code} {b : Bool} (hc : ev E c = some (.bool b)) (hb : b = true) (ht : WC P x Q E n H F w0) : WC P (.cond c x y) Q E n H F w0 := by subst hb; exact WC.condT hc ht
theorem WC.isF {c : Operand} {x y : Code} {b : Bool} (hc : ev E c = some (.bool b)) (hb : b = false) (ht : WC P y Q E n H F w0) : WC P (.cond c x y) Q E n H F w0 := by subst hb; exact WC.condF hc ht
theorem WC.block {id : Nat} {c : Code} (h : WC P c (Exit.inBlock id Q) E n H F w0) : WC P (.block id c) Q E n H F w0 := fun a w s => wpIn_block (h a w s)
theorem WL.nil (h : WQ Q .normal E n H F w0) : WL P ops Q [] E n H F w0 := fun a w s => wpListIn_nil (h a w s)
theorem WC.skip' (h : WQ Q .normal E n H F w0) : WC P .skip Q E n H F w0 := fun a w s => wpIn_skip (h a w s)
theorem WC.ret (h : WQ Q .ret E n H F w0) : WC P .ret Q E n H F w0 := fun a w s => wpIn_ret (h a w s)
theorem WC.exit {id : Nat} (h : WQ Q (.exit id) E n H F w0) : WC P (.exit id) Q E n H F w0 := fun a w s => wpIn_exit (h a w s)
theorem WQ.next {y : Code} (h : WC P y Q E n H F w0) : WQ (Exit.then (fun a w => y.wpIn fr 0 P Q a w) Q) .normal E n H F w0 := fun a w s => h a w s
/-- A loop: i tells how far it is. -/
theorem WC.loop {ι : Type} {c : Code} (Ei : ι → Env) (Hi : ι → Hp) (Fi : ι → SF) (I : ι → Prop) (μ : ι → Nat) (i0 : ι) (h0 : I i0) (hE : WQ (fun _ a w => St (Ei i0) n (Hi i0) (Fi i0) w0 a w) .normal E n H F w0)
    (round : ∀ i, I i → WC P c (Exit.then (fun a w => ∃ j, I j ∧ μ j < μ i ∧ St (Ei j) n (Hi j) (Fi j) w0 a w) Q) (Ei i) n (Hi i) (Fi i) w0) : WC P (.loop c) Q E n H F w0 := fun a w s => by
  intro b k cs hro hb hr
  have key : ∀ m i, μ i = m → I i → ∀ a w, St (Ei i) n (Hi i) (Fi i) w0 a w → ∃ e a' w', Q e a' w' ∧ ArrivesIn (Machine.fenced P fr) P (lone (b.atR a (.code c :: .inLoop c :: k)) cs w) b k cs e a' w' := by
    intro m
    induction m using Nat.strongRecOn with
    | _ m ih =>
      intro i hm hi a w s
      obtain ⟨e, a₁, w₁, hq, harr⟩ := round i hi a w s b (.inLoop c :: k) cs hro hb hr
      cases e with
      | normal =>
        obtain ⟨j, hj, hlt, hs⟩ := hq
        obtain ⟨e₂, a₂, w₂, hq₂, harr₂⟩ := ih (μ j) (by omega) j rfl hj a₁ w₁ hs
        exact ⟨e₂, a₂, w₂, hq₂, .of_steps (StepsIn.trans harr (.one (fenced_calm hb hr rfl) stepR_inLoop)) harr₂⟩
      | exit id => exact ⟨_, a₁, w₁, hq, .pass (x := .inLoop c) rfl (fun _ _ => .inl (by simp)) harr⟩
      | goto l => exact ⟨_, a₁, w₁, hq, .pass (x := .inLoop c) rfl (fun _ _ => .inl (by simp)) harr⟩
      | ret => exact ⟨_, a₁, w₁, hq, .pass (x := .inLoop c) rfl (fun _ _ => .inl (by simp)) harr⟩
      | panic ch => exact ⟨_, a₁, w₁, hq, .pass (x := .inLoop c) rfl (fun _ _ => .inl (by simp)) harr⟩
      | outgrown => exact ⟨_, a₁, w₁, hq, .pass (x := .inLoop c) rfl (fun _ _ => .inl (by simp)) harr⟩
  obtain ⟨e, a', w', hq, harr⟩ := key _ i0 rfl h0 a w (hE a w s)
  exact ⟨e, a', w', hq, .of_steps (.one (fenced_calm hb hr rfl) stepR_loop) harr⟩
theorem pP {op : Op} {d : Nat} {T : TypeId} {p : String} {af : Array Edge} {v : Value} (hy : Yp P E n ⟨some d, op, T, p, af, none⟩ v) (hn : Nat.blt d n = true) (h : WL P ops Q rest ((d, v) :: E) n H F w0) : WL P ops Q (⟨some d, op, T, p, af, none⟩ :: rest) E n H F w0 := WL.pure hy rfl rfl hn h
theorem pM {x : Operand} {d : Nat} {T : TypeId} {p : String} {af : Array Edge} {v : Value} (hx : ev E x = some v) (hn : Nat.blt d n = true) (h : WL P ops Q rest ((d, v) :: E) n H F w0) : WL P ops Q (⟨some d, .move x, T, p, af, none⟩ :: rest) E n H F w0 := pP (Y.move hx) hn h
theorem pA {x : Operand} {d : Nat} {T : TypeId} {p : String} {af : Array Edge} {v : Value} (hx : ev E x = some v) (hn : Nat.blt d n = true) (h : WL P ops Q rest ((d, v) :: E) n H F w0) : WL P ops Q (⟨some d, .assign x, T, p, af, none⟩ :: rest) E n H F w0 := pP (Y.assign hx) hn h
theorem pV {op : Op} {d : Nat} {T : TypeId} {p : String} {af : Array Edge} {v : Value} (hy : Yv P E n H F w0 ⟨some d, op, T, p, af, none⟩ v) (hn : Nat.blt d n = true) (h : WL P ops Q rest ((d, v) :: E) n H F w0) : WL P ops Q (⟨some d, op, T, p, af, none⟩ :: rest) E n H F w0 := WL.val hy rfl rfl hn h
theorem sR {id : Nat} {l : List Oper} {y : Code} (h : WL P l.toArray (Exit.then (fun a w => y.wpIn fr 0 P Q a w) Q) l E n H F w0) : WC P (.seq (.region id l.toArray false) y) Q E n H F w0 := WC.seq (WC.region h)
theorem nN {y : Code} (h : WC P y Q E n H F w0) : WL P ops (Exit.then (fun a w => y.wpIn fr 0 P Q a w) Q) [] E n H F w0 := WL.nil (WQ.next h)
/-! ### Regions that draw their order -/
theorem semAt_put {r : Option Nat} (o : Oper) (hs : ∀ cs b, o.op ≠ .select cs b) (a : Act) (dst : Option Tmp) (v : Value) (h : ∀ d, dst = some d → d ∉ o.looksAt ops) : o.semAt r (a.put dst v).eval = o.semAt r a.eval := by
  have hx : ∀ x ∈ o.op.operands, (a.put dst v).eval x = a.eval x := fun x hx => Act.eval_put fun d hd hxd => h d hd (by
    subst hxd
    exact List.mem_append_left _ (List.mem_filterMap.2 ⟨.tmp d, by simpa using hx, rfl⟩))
  cases r with
  | none => rw [Oper.semAt_none, Oper.semAt_none, execOp_put o hs a dst v h]
  | some l =>
    by_cases hd : ∃ c, o.op = .defer c
    · obtain ⟨c, hc⟩ := hd
      unfold Oper.semAt
      rw [hc]
      have e := resolve_congr (ρ := (a.put dst v).eval) (ρ' := a.eval) c o.type (fun x hx2 => hx x (by rw [hc]; simpa [Op.operands] using hx2))
      simp only [e]
    · rw [Oper.semAt_eq _ _ _ (fun c hc => hd ⟨c, hc⟩), Oper.semAt_eq _ _ _ (fun c hc => hd ⟨c, hc⟩), execOp_put o hs a dst v h]
theorem wpOp_swap {j : Nat} {oi oj : Oper} {v : Value} (hj : ops[j]? = some oj) (hap : oi.apart ops oj = true)
    (hsj : ∀ cs b, oj.op ≠ .select cs b) (hQ : ∀ c a w, ¬ Q (.panic c) a w) {K : Act → World → Prop} {a : Act} {w : World}
    (h : wpOpIn fr 0 P ops Q j K (a.put oi.dst v) w) : wpOpIn fr 0 P ops Q j (fun a' w' => K (a'.put oi.dst v) w') a w := by
  obtain ⟨h1, h2, h3⟩ := Oper.apart_spec hap
  unfold wpOpIn at *
  simp only [hj] at *
  rw [wanted_put oj a oi.dst v h1] at h
  split
  · rename_i hw
    simp only [hw, if_true] at h
    refine ⟨fun _ _ => trivial, ?_⟩
    have h := h.2
    rw [semAt_put oj hsj a oi.dst v h1] at h
    generalize (oj.semAt fr.round a.eval).run P w = r at *
    cases r with
    | ok n w' =>
      cases n <;> simp only [Oper.uponIn] at h ⊢
      case value u => rw [← Act.put_comm a v u h2]; exact h
      case skip => rw [← Act.put_comm a v undef h2]; exact h
      case defer d =>
        rw [← Act.put_comm _ v undef h2, ← Act.put_defers]
        exact h
      case enter f args =>
        refine ⟨h.1, CallsIn.mono h.2 fun e w'' he => ?_⟩
        cases e with
        | returned u =>
          show K _ _
          rw [← Act.put_comm a v u h2]; exact he
        | panicked c => exact absurd he (hQ _ _ _)
        | outgrown => exact he
      case row row args => exact ⟨h.1, RowsIn.mono h.2 fun u w'' he => (by rw [← Act.put_comm a v u h2]; exact he)⟩
      case round l f tmps assign body =>
        refine ⟨h.1, RoundIn.mono h.2 fun e w'' he => ?_⟩
        cases e with
        | returned u =>
          show K _ _
          rw [← Act.put_comm a v u h2]; exact he
        | panicked c => exact absurd he (hQ _ _ _)
        | outgrown => exact he
    | halt x w' =>
      cases x <;> simp only [Oper.uponIn] at h ⊢
      case panic u => exact absurd h (hQ _ _ _)
  · rename_i hw
    simp only [hw] at h
    refine ⟨fun _ _ => trivial, ?_⟩
    rw [← Act.put_comm a v undef h2]; exact h.2
def Ax (G : World → World → Prop) (P : Program) (md : Region.Mode) (ops : Array Oper) (Q : Exit → Act → World → Prop) (brk : Nat → Bool) (fin : Option Nat) : Nat → Array Bool → SS → Prop
  | 0, listed, S => Region.ready md ops listed = fin.toList ∧ ∀ a w, S a w → (match fin with | none => Q .normal a w | some j => wpOpIn fr 0 P ops Q j (fun a' w' => Region.ready md ops (listed.setIfInBounds j true) = [] ∧ Q .normal a' w') a w)
  | f + 1, listed, S => (Region.ready md ops listed = [] → ∀ a w, S a w → Q .normal a w) ∧ ∀ j ∈ Region.ready md ops listed, ∀ a w, S a w →
      wpOpIn fr 0 P ops Q j (fun a' w' => ∃ S' : SS, S' a' w' ∧ Gr S' ∧ Ext G (brk j) S S' ∧ Ax G P md ops Q brk fin f (listed.setIfInBounds j true) S') a w
theorem Ax.sound {fin : Option Nat} : ∀ (f : Nat) (listed : Array Bool) (S : SS) (a : Act) (w : World), Ax G P md ops Q brk fin f listed S → S a w → wpAnyIn fr 0 P md ops Q (f + fin.toList.length) listed a w
  | 0, listed, S, a, w, h, hs => by
    have h2 := h.2 a w hs
    cases fin with
    | none => exact ⟨h.1, h2⟩
    | some j =>
      refine ⟨fun h0 => absurd (h.1.symm.trans h0) (by simp), fun k hk => ?_⟩
      rw [h.1] at hk
      obtain rfl := List.mem_singleton.1 (show k ∈ [j] from hk)
      exact wpOpIn_mono (fun a' w' h3 => ⟨h3.1, h3.2⟩) h2
  | f + 1, listed, S, a, w, h, hs => by
    rw [show f + 1 + fin.toList.length = (f + fin.toList.length) + 1 by omega]
    exact ⟨fun h0 => h.1 h0 a w hs, fun j hj => wpOpIn_mono (fun a' w' ⟨_, h1, _, _, h4⟩ => Ax.sound f _ _ a' w' h4 h1) (h.2 j hj a w hs)⟩
/-- i yields v in the states of S, and makes new blocks at most. -/
def QY (G : World → World → Prop) (P : Program) (ops : Array Oper) (Q : Exit → Act → World → Prop) (imp : Bool) (i d : Nat) (v : Value) (S : SS) : Prop :=
  ∀ a w, (∃ w1, S a w1 ∧ (imp = true → G w1 w)) → ∀ K : Act → World → Prop, (∀ w', Below w.heap.size w w' → K (a.put (some d) v) w') → wpOpIn fr 0 P ops Q i K a w
theorem Ax.first {i d : Nat} {oi : Oper} {v : Value} {imp : Bool} {fin : Option Nat} (hfin : ∀ j, fin = some j → ∃ c, i ∈ ancs md ops c [j]) (hi : ops[i]? = some oi) (hd : oi.dst = some d) (hsel : ∀ (j : Nat) (o : Oper) cs b, ops[j]? = some o → o.op ≠ .select cs b) (hQ : ∀ c a w, ¬ Q (.panic c) a w)
    (hG : ∀ w, G w w) (hG2 : ∀ a b c, G a b → G b c → G a c) (hbi : brk i = false) :
    ∀ (f : Nat) (listed : Array Bool) (S : SS), (∀ j oj, ops[j]? = some oj → j ≠ i → listed.getD j true = false → (∀ e ∈ oj.after, Region.binds md e = true → e.on ≠ i) → oi.apart ops oj = true) →
      i ∈ Region.ready md ops listed → DC md ops listed → (imp = true → ∀ j oj, brk j = true → ops[j]? = some oj → listed.getD j true = false → ∃ c, i ∈ ancs md ops c [j]) → (∀ a w u, S (a.put (some d) u) w ↔ S a w) → (∀ a w, S a w → d < a.tmps.size) → Gr S → QY G P ops Q imp i d v S →
      Ax G P md ops Q brk fin f (listed.setIfInBounds i true) (fun a w => S a w ∧ a.tmps[d]? = some v) → Ax G P md ops Q brk fin (f + 1) listed S := by
  intro f
  have self : ∀ (f : Nat) (listed : Array Bool) (S : SS), (∀ a w u, S (a.put (some d) u) w ↔ S a w) → (∀ a w, S a w → d < a.tmps.size) → Gr S → QY G P ops Q imp i d v S →
      Ax G P md ops Q brk fin f (listed.setIfInBounds i true) (fun a w => S a w ∧ a.tmps[d]? = some v) → ∀ a w, S a w →
      wpOpIn fr 0 P ops Q i (fun a' w' => ∃ S' : SS, S' a' w' ∧ Gr S' ∧ Ext G (brk i) S S' ∧ Ax G P md ops Q brk fin f (listed.setIfInBounds i true) S') a w := by
    intro f listed S hins hsz hgr hq H a w hs
    refine hq a w ⟨w, hs, fun _ => hG w⟩ _ fun w' hb => ⟨_, ⟨(hins a w' v).2 (hgr a w w' hs hb), put_at (hsz a w hs)⟩, fun a w w' h k => ⟨hgr a w w' h.1 k, h.2⟩, ?_, H⟩
    exact fun a w h => ⟨w, h.1, fun _ => hG w⟩
  induction f with
  | zero =>
    intro listed S _ hr hdc hbr hins hsz hgr hq H
    refine ⟨fun h => (by rw [h] at hr; cases hr), fun j hj a w hs => ?_⟩
    by_cases hji : j = i
    · subst hji; exact self 0 listed S hins hsz hgr hq H a w hs
    · have hm := ready_mono hj hji
      rw [H.1] at hm
      cases fin with
      | none => cases hm
      | some j' =>
        obtain rfl := List.mem_singleton.1 (show j ∈ [j'] from hm)
        obtain ⟨c, hc⟩ := hfin j rfl
        obtain ⟨_, oj, hoj, hall⟩ := mem_ready.1 hj
        have h6 := (anc_listed hdc hoj hall c [j] (fun s hs => .inl (List.mem_singleton.1 hs)) i hc).resolve_left (Ne.symm hji)
        have h0 := (mem_ready.1 hr).1
        exfalso
        rcases Nat.lt_or_ge i listed.size with h' | h'
        · simp [h'] at h0 h6; rw [h0] at h6; cases h6
        · simp [Array.getElem?_eq_none h'] at h6
  | succ f ih =>
    intro listed S hfree hr hdc hbr hins hsz hgr hq H
    refine ⟨fun h => (by rw [h] at hr; cases hr), fun j hj a w hs => ?_⟩
    by_cases hji : j = i
    · subst hji; exact self _ listed S hins hsz hgr hq H a w hs
    · obtain ⟨hjun, oj, hoj, hall⟩ := mem_ready.1 hj
      have hnot : ∀ e ∈ oj.after, Region.binds md e = true → e.on ≠ i := fun e he hb heq => by
        have h1 := hall e he hb
        have h0 := (mem_ready.1 hr).1
        rw [heq] at h1
        rcases Nat.lt_or_ge i listed.size with h' | h'
        · simp [h'] at h0 h1; rw [h0] at h1; cases h1
        · simp [Array.getElem?_eq_none h'] at h1
      have h1 := H.2 j (ready_mono hj hji) (a.put (some d) v) w ⟨(hins a w v).2 hs, put_at (hsz a w hs)⟩
      rw [← hd] at h1
      refine wpOpIn_mono ?_ (wpOp_swap hoj (hfree j oj hoj hji hjun hnot) (fun cs b => hsel j oj cs b hoj) hQ h1)
      rintro a' w' ⟨S', hS', hgr', hext, hA⟩
      rw [hd] at hS'
      have hin : ∀ x y, S' x y → x.tmps[d]? = some v ∧ ∃ y1, S x y1 ∧ (brk j = false → G y1 y) := by
        intro x y hx
        obtain ⟨y1, h2, h3⟩ := hext x y hx
        exact ⟨h2.2, y1, h2.1, h3⟩
      have hback : ∀ x y, S' (x.put (some d) v) y → ∃ y1, S x y1 ∧ (brk j = false → G y1 y) := fun x y hx => by
        obtain ⟨_, y1, h2, h3⟩ := hin _ _ hx
        exact ⟨y1, (hins x y1 v).1 h2, h3⟩
      refine ⟨fun x y => S' (x.put (some d) v) y, hS', fun x y y' h k => hgr' _ _ _ h k, ?_, ?_⟩
      · exact fun x y hx => hback x y hx
      · refine ih (listed.setIfInBounds j true) _ (fun k ok hk hki hun hno => hfree k ok hk hki ?_ hno) (ready_mono hr (Ne.symm hji)) (hdc.step hj) (fun himp k ok hb hk hun => hbr himp k ok hb hk (unl hun)) (fun x y u => by rw [put_put]) (fun x y hx => ?_) (fun x y y' h k => hgr' _ _ _ h k) ?_ ?_
        · by_cases hjk : j = k
          · subst hjk; exact hjun
          · rw [getD_set_ne true hjk] at hun; exact hun
        · obtain ⟨y1, h2, _⟩ := hback x y hx
          exact hsz _ _ h2
        · intro x y hx K hK
          refine hq x y ?_ K hK
          obtain ⟨y1, h2, h3⟩ := hx
          obtain ⟨y2, h4, h5⟩ := hback x y1 h2
          refine ⟨y2, h4, fun himp => hG2 _ _ _ (h5 ?_) (h3 himp)⟩
          cases hbj : brk j
          · rfl
          · obtain ⟨c, hc⟩ := hbr himp j oj hbj hoj hjun
            have h6 := (anc_listed hdc hoj hall c [j] (fun s hs => .inl (List.mem_singleton.1 hs)) i hc).resolve_left (Ne.symm hji)
            have h0 := (mem_ready.1 hr).1
            rcases Nat.lt_or_ge i listed.size with h' | h'
            · simp [h'] at h0 h6; rw [h0] at h6; cases h6
            · simp [Array.getElem?_eq_none h'] at h6
        · have e : (fun x y => S' (x.put (some d) v) y ∧ x.tmps[d]? = some v) = S' := by
            funext x y
            refine propext ⟨fun ⟨h2, h3⟩ => by rw [put_self h3] at h2; exact h2, fun h2 => ?_⟩
            have h3 := (hin x y h2).1
            exact ⟨by rw [put_self h3]; exact h2, h3⟩
          rw [e, Array.setIfInBounds_comm _ _ hji]
          exact hA
/-- An operation that is carried out, by itself. -/
def WS (P : Program) (ops : Array Oper) (o : Oper) (E : Env) (n : Nat) (H : Hp) (F : SF) (w0 : World) {ι : Type} (Ei : ι → Env) (Hi : ι → Hp) (Fi : ι → SF) : Prop :=
  (∀ a, EnvOf E n a → Region.wanted o (yielded ops a.tmps) = true) ∧ EffI P E n H F w0 o Ei Hi Fi
theorem WS.freeI {o : Oper} {ι : Type} {Ei : ι → Env} {Hi : ι → Hp} {Fi : ι → SF} (hg : o.guard = none) (h : EffI P E n H F w0 o Ei Hi Fi) : WS P ops o E n H F w0 Ei Hi Fi := ⟨fun a _ => by simp [Region.wanted, hg], h⟩
theorem WS.free {o : Oper} {ι : Type} {Ei : ι → Env} {Hi : ι → Hp} {Fi : ι → SF} (hg : o.guard = none) (h : Eff P E n H F w0 o Ei Hi Fi) : WS P ops o E n H F w0 Ei Hi Fi := WS.freeI hg (eff_i h)
theorem WS.guardTI {o : Oper} {ι : Type} {Ei : ι → Env} {Hi : ι → Hp} {Fi : ι → SF} {g dg : Nat} {b : Bool} (hg : o.guard = some (g, b)) (hd : (ops[g]?).bind (·.dst) = some dg) (hb : look E dg = some (.bool b))
    (h : EffI P E n H F w0 { o with guard := none } Ei Hi Fi) : WS P ops o E n H F w0 Ei Hi Fi := by
  refine ⟨fun a s => ?_, h⟩
  have hy : yielded ops a.tmps g = some b := by simp [yielded, hd, s.at_ _ _ hb]
  simp [Region.wanted, hg, hy]
theorem WS.guardT {o : Oper} {ι : Type} {Ei : ι → Env} {Hi : ι → Hp} {Fi : ι → SF} {g dg : Nat} {b : Bool} (hg : o.guard = some (g, b)) (hd : (ops[g]?).bind (·.dst) = some dg) (hb : look E dg = some (.bool b))
    (h : Eff P E n H F w0 { o with guard := none } Ei Hi Fi) : WS P ops o E n H F w0 Ei Hi Fi := WS.guardTI hg hd hb (eff_i h)
section
variable {m : Option Hp} {fin : Option Nat}
/-- What is left behind the plan. -/
def WN (P : Program) (ops : Array Oper) (Q : Exit → Act → World → Prop) (fin : Option Nat) (E : Env) (n : Nat) (H : Hp) (F : SF) (w0 : World) : Prop := match fin with
  | none => WQ Q .normal E n H F w0
  | some j => ∃ o, ops[j]? = some o ∧ WL P ops Q [o] E n H F w0
structure WDc (m : Option Hp) (fin : Option Nat) (P : Program) (ops : Array Oper) (Q : Exit → Act → World → Prop) (n : Nat) (w0 : World) (X : List (Oper × K4) → Env → Hp → SF → Prop) : Prop where
  nil : ∀ {E : Env} {H : Hp} {F : SF}, WN P ops Q fin E n H F w0 → X [] E H F
  quiet : ∀ {o : Oper} {d : Nat} {v : Value} {imp : Bool} {rest : List (Oper × K4)} {E : Env} {H : Hp} {F : SF}, QS P ops imp o d v E n (wkH m H) (wkF m F) w0 → o.dst = some d → Nat.blt d n = true → look E d = none →
      X rest ((d, v) :: E) H F → X ((o, .q imp) :: rest) E H F
  known : ∀ {t : Nat} {b r : Bool} {l : List (Oper × K4)} {E : Env} {H : Hp} {F : SF}, look E t = some (.bool b) → b = r → X l ((t, .bool r) :: E) H F → X l E H F
  skip : ∀ {o : Oper} {br : Bool} {d : Nat} {rest : List (Oper × K4)} {E : Env} {H : Hp} {F : SF}, (∀ a, EnvOf E n a → Region.wanted o (yielded ops a.tmps) = false) → o.dst = some d → Nat.blt d n = true → look E d = none →
      X rest ((d, undef) :: E) H F → X ((o, .s br) :: rest) E H F
  spec : ∀ {o : Oper} {br : Bool} {rest : List (Oper × K4)} {E : Env} {H : Hp} {F : SF} {ι : Type} {Ei : ι → Env} {Hi : ι → Hp} {Fi : ι → SF}, WS P ops o E n H F w0 Ei Hi Fi →
      (∀ i, if br = true then sub E (Ei i) else ∀ a w, St (Ei i) n (Hi i) (Fi i) w0 a w → St E n (wkH m H) (wkF m F) w0 a w) → (∀ i, X rest (Ei i) (Hi i) (Fi i)) → (∀ i w, Wp w0 (Hi i) (Fi i) w → Wp w0 (wkH m (Hi i)) (wkF m (Fi i)) w) → X ((o, .s br) :: rest) E H F
def WDm (m : Option Hp) (fin : Option Nat) (P : Program) (ops : Array Oper) (Q : Exit → Act → World → Prop) (n : Nat) (w0 : World) (L : List (Oper × K4)) (E : Env) (H : Hp) (F : SF) : Prop :=
  ∀ X : List (Oper × K4) → Env → Hp → SF → Prop, WDc m fin P ops Q n w0 X → X L E H F
theorem WDm.nil (h : WQ Q .normal E n H F w0) : WDm m none P ops Q n w0 [] E H F := fun _ c => c.nil h
theorem WDm.last {j : Nat} {o : Oper} (ho : ops[j]? = some o) (h : WL P ops Q [o] E n H F w0) : WDm m (some j) P ops Q n w0 [] E H F := fun _ c => c.nil ⟨o, ho, h⟩
theorem WDm.quiet {o : Oper} {d : Nat} {v : Value} {imp : Bool} {rest : List (Oper × K4)} (hq : QS P ops imp o d v E n (wkH m H) (wkF m F) w0) (hd : o.dst = some d) (hn : Nat.blt d n = true) (hl : look E d = none)
      (h : WDm m fin P ops Q n w0 rest ((d, v) :: E) H F) : WDm m fin P ops Q n w0 ((o, .q imp) :: rest) E H F := fun X c => c.quiet hq hd hn hl (h X c)
theorem WDm.known {t : Nat} {b r : Bool} {l : List (Oper × K4)} (hl : look E t = some (.bool b)) (hr : b = r) (h : WDm m fin P ops Q n w0 l ((t, .bool r) :: E) H F) : WDm m fin P ops Q n w0 l E H F := fun X c => c.known hl hr (h X c)
theorem WDm.skip {o : Oper} {br : Bool} {d : Nat} {rest : List (Oper × K4)} (hw : ∀ a, EnvOf E n a → Region.wanted o (yielded ops a.tmps) = false) (hd : o.dst = some d) (hn : Nat.blt d n = true) (hl : look E d = none)
      (h : WDm m fin P ops Q n w0 rest ((d, undef) :: E) H F) : WDm m fin P ops Q n w0 ((o, .s br) :: rest) E H F := fun X c => c.skip hw hd hn hl (h X c)
theorem WDm.spec {o : Oper} {br : Bool} {rest : List (Oper × K4)} {ι : Type} {Ei : ι → Env} {Hi : ι → Hp} {Fi : ι → SF} (hs : WS P ops o E n H F w0 Ei Hi Fi)
      (hx : ∀ i, if br = true then sub E (Ei i) else ∀ a w, St (Ei i) n (Hi i) (Fi i) w0 a w → St E n (wkH m H) (wkF m F) w0 a w) (h : ∀ i, WDm m fin P ops Q n w0 rest (Ei i) (Hi i) (Fi i)) (hk : ∀ i w, Wp w0 (Hi i) (Fi i) w → Wp w0 (wkH m (Hi i)) (wkF m (Fi i)) w := by exact fun _ _ h => h) : WDm m fin P ops Q n w0 ((o, .s br) :: rest) E H F :=
  fun X c => c.spec hs hx (fun i => h i X c) hk
end
theorem WDm.sound {m : Option Hp} {fin : Option Nat} {l : List Oper} {all : List (Nat × K4)} (hsel : Region.noSelect l.toArray = true) (hfin : finB l.toArray fin all = true) (hQ : ∀ c a w, ¬ Q (.panic c) a w) {L : List (Oper × K4)} (h : WDm m fin P l.toArray Q n w0 L E H F) :
    (∀ w, Wp w0 H F w → Wp w0 (wkH m H) (wkF m F) w) → ∀ (plan : List (Nat × K4)) (listed : Array Bool), planOps l plan = L → (∀ x ∈ plan, x ∈ all) → planB l.toArray fin all plan listed = true → DC .any l.toArray listed → (∃ seen, waitB l.toArray seen plan = true) → (∀ y ∈ all, listed.getD y.1 true = true ∨ y ∈ plan) →
      Ax (wkG m w0) P .any l.toArray Q (brks all) fin plan.length listed (St E n H F w0) := by
  refine h (fun L E H F => (∀ w, Wp w0 H F w → Wp w0 (wkH m H) (wkF m F) w) → ∀ (plan : List (Nat × K4)) (listed : Array Bool), planOps l plan = L → (∀ x ∈ plan, x ∈ all) → planB l.toArray fin all plan listed = true → DC .any l.toArray listed → (∃ seen, waitB l.toArray seen plan = true) → (∀ y ∈ all, listed.getD y.1 true = true ∨ y ∈ plan) →
      Ax (wkG m w0) P .any l.toArray Q (brks all) fin plan.length listed (St E n H F w0)) ⟨?_, ?_, ?_, ?_, ?_⟩
  · intro E H F h
    intro hwk plan listed hL hmem hp hdc hwt hcov
    match plan, hL, hp with
    | [], _, hp =>
      simp only [planB, Bool.and_eq_true, beq_iff_eq] at hp
      refine ⟨hp.1, fun a w hs => ?_⟩
      cases fin with
      | none => exact h a w hs
      | some j =>
        obtain ⟨o, ho, hw⟩ := h
        have h1 := hw a w hs
        have h2 := hp.2
        simp only [List.isEmpty_iff] at h2
        unfold wpListIn at h1
        unfold wpOpIn
        simp only [ho]
        split
        · rename_i hwt2
          rw [if_pos hwt2] at h1
          exact Oper.wpIn_mono (fun a' w' h3 => ⟨h2, h3⟩) h1
        · rename_i hwt2
          rw [if_neg hwt2] at h1
          exact ⟨h1.1, h2, h1.2⟩
    | (i, k) :: rest, hL, hp =>
      obtain ⟨oi, _, hn⟩ := planB_head hp
      simp only [planOps, hn] at hL
      cases hL
  · intro o d v imp rest' E H F hq hd hn hl ih
    intro hwk plan listed hL hmem hp hdc hwt hcov
    match plan, hL, hp with
    | [], hL, _ => simp only [planOps] at hL; cases hL
    | (i, k) :: rest, hL, hp =>
      obtain ⟨oi, hoi, hni⟩ := planB_head hp
      simp only [planOps, hni] at hL
      injection hL with hL1 hL2
      injection hL1 with hL3 hL4
      subst hL3
      subst hL4
      obtain ⟨⟨hr, hf, hb⟩, hrest⟩ := planB_q hp
      refine Ax.first (fin := fin) (fin_in hfin (hmem _ (List.Mem.head _))) (i := i) (d := d) (v := v) hoi hd (Region.noSelect_spec hsel) hQ (wkG_refl m w0) (wkG_trans m w0) hb rest.length listed _ (Region.free_spec hoi hf) hr hdc ?_ (fun a w u => St.ins hl) (fun a w s => by rw [s.env.size]; simpa [Nat.blt_eq] using hn) Gr_St (imp := imp) ?_ ?_
      · intro himp j oj hbj hoj hun
        subst himp
        unfold brks at hbj
        obtain ⟨y, hy, hy2⟩ := List.any_eq_true.1 hbj
        rw [Bool.and_eq_true] at hy2
        obtain ⟨hy3, hy4⟩ := hy2
        obtain rfl := Nat.eq_of_beq_eq_true hy3
        obtain ⟨seen, hw⟩ := hwt
        rcases hcov y hy with h1 | h1
        · rw [hun] at h1; cases h1
        · rcases List.mem_cons.1 h1 with e | h1
          · exfalso
            rw [e] at hy4
            cases hy4
          · exact wait_in (wait_tail hw) (List.Mem.head _) h1 rfl hy4
      · intro a w s K hK
        unfold wpOpIn
        simp only [hoi]
        have h3 := hq a w (wk_state hwk s) (fun _ _ _ => False) (fun a' w' => a'.defers = a.defers ∧ K a' w') (fun w' hb => ⟨rfl, hK w' hb⟩)
        split
        · rename_i hwt; rw [if_pos hwt] at h3; exact op_in h3
        · rename_i hwt; rw [if_neg hwt] at h3; exact ⟨fun _ _ => trivial, h3.2⟩
      · have e : (fun a w => St E n H F w0 a w ∧ a.tmps[d]? = some v) = St ((d, v) :: E) n H F w0 := funext fun a => funext fun w => propext (St.push_iff hl).symm
        rw [e]
        exact ih hwk rest _ hL2 (fun x hx => hmem x (List.Mem.tail _ hx)) hrest (hdc.step hr) (hwt.elim fun _ h => ⟨_, wait_tail h⟩) (cov_step hcov)
  · intro t b r l' E H F hl hr ih
    intro hwk plan listed hL hmem hp hdc hwt hcov
    have h1 := ih hwk plan listed hL hmem hp hdc hwt hcov
    have e : St E n H F w0 = St ((t, .bool r) :: E) n H F w0 := funext fun a => funext fun w => propext (St.known_iff (n := n) (w0 := w0) hl hr)
    rw [e]
    exact h1
  · intro o br d rest' E H F hw hd hn hl ih
    intro hwk plan listed hL hmem hp hdc hwt hcov
    match plan, hL, hp with
    | [], hL, _ => simp only [planOps] at hL; cases hL
    | (i, k) :: rest, hL, hp =>
      obtain ⟨oi, hoi, hni⟩ := planB_head hp
      simp only [planOps, hni] at hL
      injection hL with hL1 hL2
      injection hL1 with hL3 hL4
      subst hL3
      subst hL4
      obtain ⟨hr, hrest⟩ := planB_s hp
      refine ⟨fun h0 => absurd (hr.symm.trans h0) (by simp), fun j hj a w s => ?_⟩
      rw [hr] at hj
      obtain rfl := List.mem_singleton.1 hj
      unfold wpOpIn
      simp only [hoi]
      rw [if_neg (by simp [hw a s.env]), hd]
      refine ⟨fun _ _ => trivial, _, s.put hn, Gr_St, ?_, ih hwk rest _ hL2 (fun x hx => hmem x (List.Mem.tail _ hx)) hrest (hdc.step (by rw [hr]; exact List.Mem.head _)) (hwt.elim fun _ h => ⟨_, wait_tail h⟩) (cov_step hcov)⟩
      cases hb : brks all j
      · exact fun a w s => ⟨w, s.weak (sub_push hl), fun _ => wkG_refl m w0 w⟩
      · exact fun a w s => ⟨w, s.weak (sub_push hl), fun h => by cases h⟩
  · intro o br rest' E H F ι Ei Hi Fi hs hx ih hk
    intro hwk plan listed hL hmem hp hdc hwt hcov
    match plan, hL, hp with
    | [], hL, _ => simp only [planOps] at hL; cases hL
    | (i, k) :: rest, hL, hp =>
      obtain ⟨oi, hoi, hni⟩ := planB_head hp
      simp only [planOps, hni] at hL
      injection hL with hL1 hL2
      injection hL1 with hL3 hL4
      subst hL3
      subst hL4
      obtain ⟨hr, hrest⟩ := planB_s hp
      refine ⟨fun h0 => absurd (hr.symm.trans h0) (by simp), fun j hj a w s => ?_⟩
      rw [hr] at hj
      obtain rfl := List.mem_singleton.1 hj
      unfold wpOpIn
      simp only [hoi]
      rw [if_pos (hs.1 a s.env)]
      refine (hs.2 a w s Q _ fun k a' w' _ s' => ⟨_, s', Gr_St, ?_, ih k (hk k) rest _ hL2 (fun x hx => hmem x (List.Mem.tail _ hx)) hrest (hdc.step (by rw [hr]; exact List.Mem.head _)) (hwt.elim fun _ h => ⟨_, wait_tail h⟩) (cov_step hcov)⟩)
      have hxk := hx k
      cases hbr : br
      · rw [hbr] at hxk
        simp only [Bool.false_eq_true, if_false] at hxk
        have h1 : ∀ a2 w2, St (Ei k) n (Hi k) (Fi k) w0 a2 w2 → ∃ w1, St E n H F w0 a2 w1 ∧ wkG m w0 w1 w2 := fun a2 w2 s2 => by
          have s3 := hxk a2 w2 s2
          cases m with
          | none => exact ⟨w2, s3, rfl⟩
          | some K => exact ⟨w, ⟨s3.env, s.hp, s.fact, s.sep, s.low⟩, fun _ => s3.wp⟩
        exact fun a2 w2 s2 => (h1 a2 w2 s2).imp fun _ h => ⟨h.1, fun _ => h.2⟩
      · rw [hbr] at hxk
        simp only [if_true] at hxk
        have hb : brks all j = true := by
          unfold brks
          exact List.any_eq_true.2 ⟨(j, .s br), hmem _ (List.Mem.head _), by simp [hbr]⟩
        rw [hb]
        exact fun a2 w2 s2 => ⟨w, ⟨s2.env.weak hxk, s.hp, s.fact, s.sep, s.low⟩, fun h => by cases h⟩
theorem WDm.split {m : Option Hp} {fin : Option Nat} {l : List (Oper × K4)} {t : Nat} {b : Bool} (hl : look E t = some (.bool b)) (h : ∀ r, b = r → WDm m fin P ops Q n w0 l ((t, .bool r) :: E) H F) : WDm m fin P ops Q n w0 l E H F := WDm.known hl rfl (h b rfl)
theorem WC.drawf {id : Nat} {l : List Oper} (m : Option Hp) (fin : Option Nat) (plan : List (Nat × K4)) (hwk : ∀ w, Wp w0 H F w → Wp w0 (wkH m H) (wkF m F) w) (hm : P.follows .mixedOrders = true) (hp : planOkF l fin plan = true)
    (h : WDm m fin P l.toArray (fun e a w => e = .normal ∧ Q e a w) n w0 (planOps l plan) E H F) : WC P (.region id l.toArray true) Q E n H F w0 := fun a w s => by
  unfold planOkF at hp
  simp only [Bool.and_eq_true] at hp
  obtain ⟨⟨⟨hlen, hsel⟩, hw⟩, hfin, hpl⟩ := hp
  have hA := WDm.sound hsel hfin (fun c a w h => by cases h.1) h hwk plan _ rfl (fun _ h => h) hpl (fun j o ho hk => by exfalso; simp [Array.getElem?_replicate] at hk; split at hk <;> simp at hk) ⟨[], hw⟩ (fun y hy => .inr hy)
  have hl := Nat.eq_of_beq_eq_true hlen
  refine Go.wpIn_mono (wpIn_region_any (Q := fun e a w => e = .normal ∧ Q e a w) hm ?_) (fun e a w h => h.2)
  have s' : St E n H F w0 a w.drew := s.grow ((Below.refl _ _).drew)
  have hs := Ax.sound _ _ _ a w.drew hA s'
  rw [hl] at hs
  simpa using hs
theorem WC.drawm {id : Nat} {l : List Oper} (m : Option Hp) (plan : List (Nat × K4)) (hwk : ∀ w, Wp w0 H F w → Wp w0 (wkH m H) (wkF m F) w) (hm : P.follows .mixedOrders = true) (hp : planOk l plan = true)
    (h : WDm m none P l.toArray (fun e a w => e = .normal ∧ Q e a w) n w0 (planOps l plan) E H F) : WC P (.region id l.toArray true) Q E n H F w0 := WC.drawf m none plan hwk hm hp h
/-- A drawn region: the operations in the order of 'plan'. -/
theorem WC.draw {id : Nat} {l : List Oper} (plan : List (Nat × K4)) (hm : P.follows .mixedOrders = true) (hp : planOk l plan = true)
    (h : WDm none none P l.toArray (fun e a w => e = .normal ∧ Q e a w) n w0 (planOps l plan) E H F) : WC P (.region id l.toArray true) Q E n H F w0 :=
  WC.drawm none plan (fun _ h => h) hm hp h
theorem dP {m : Option Hp} {fin : Option Nat} {rest : List (Oper × K4)} {op : Op} {d : Nat} {T : TypeId} {p : String} {af : Array Edge} {v : Value} {imp : Bool} (hy : Yp P E n ⟨some d, op, T, p, af, none⟩ v) (hn : Nat.blt d n = true) (hl : look E d = none) (h : WDm m fin P ops Q n w0 rest ((d, v) :: E) H F) :
    WDm m fin P ops Q n w0 ((⟨some d, op, T, p, af, none⟩, .q imp) :: rest) E H F := WDm.quiet (QS.pure hy rfl rfl) rfl hn hl h
theorem dV {m : Option Hp} {fin : Option Nat} {rest : List (Oper × K4)} {op : Op} {d : Nat} {T : TypeId} {p : String} {af : Array Edge} {v : Value} (hy : Yv P E n (wkH m H) (wkF m F) w0 ⟨some d, op, T, p, af, none⟩ v) (hn : Nat.blt d n = true) (hl : look E d = none) (h : WDm m fin P ops Q n w0 rest ((d, v) :: E) H F) :
    WDm m fin P ops Q n w0 ((⟨some d, op, T, p, af, none⟩, .q true) :: rest) E H F := WDm.quiet (QS.val hy rfl rfl) rfl hn hl h
theorem dPg {m : Option Hp} {fin : Option Nat} {rest : List (Oper × K4)} {o : Oper} {d : Nat} {v : Value} {imp : Bool} (ht : gtB ops E o = true) (hy : Yp P E n { o with guard := none } v) (hd : o.dst = some d) (hn : Nat.blt d n = true) (hl : look E d = none) (h : WDm m fin P ops Q n w0 rest ((d, v) :: E) H F) :
    WDm m fin P ops Q n w0 ((o, .q imp) :: rest) E H F := WDm.quiet (QS.gT ht (QS.pure hy rfl hd)) hd hn hl h
theorem dVg {m : Option Hp} {fin : Option Nat} {rest : List (Oper × K4)} {o : Oper} {d : Nat} {v : Value} (ht : gtB ops E o = true) (hy : Yv P E n (wkH m H) (wkF m F) w0 { o with guard := none } v) (hd : o.dst = some d) (hn : Nat.blt d n = true) (hl : look E d = none) (h : WDm m fin P ops Q n w0 rest ((d, v) :: E) H F) :
    WDm m fin P ops Q n w0 ((o, .q true) :: rest) E H F := WDm.quiet (QS.gT ht (QS.val hy rfl hd)) hd hn hl h
theorem dF {m : Option Hp} {fin : Option Nat} {rest : List (Oper × K4)} {o : Oper} {d : Nat} {imp : Bool} (hf : gfB ops E n o = some d) (hl : look E d = none) (h : WDm m fin P ops Q n w0 rest ((d, undef) :: E) H F) :
    WDm m fin P ops Q n w0 ((o, .q imp) :: rest) E H F := by
  obtain ⟨hd, hn, hw⟩ := gfB_at hf
  refine WDm.quiet (v := undef) (fun a w s Q K hK => ?_) hd hn hl h
  rw [if_neg (by simp [hw (imp_env s)]), hd]
  exact hK _ (Below.refl _ _)
end
end R
end Go.Proofs.Ytdbcimadjmdffaa
