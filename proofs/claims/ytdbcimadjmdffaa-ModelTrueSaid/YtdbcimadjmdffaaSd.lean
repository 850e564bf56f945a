/- Regions that draw their order, in the logic of Sx: what is quiet may be taken first; the rest one at a time. No condition. -/
import Derived.Test.YtdbcimadjmdffaaSx
set_option linter.unusedVariables false
set_option linter.unusedSimpArgs false
set_option linter.unusedSectionVars false
namespace Go.Proofs.Ytdbcimadjmdffaa
open Go.RowKit
abbrev SS := Act → World → Prop
/-- S' knows all that S knows, up to G in memory; or (br) of the slots alone. -/
def Ext (G : World → World → Prop) (br : Bool) (S S' : SS) : Prop := ∀ a w, S' a w → ∃ w1, S a w1 ∧ (br = false → G w1 w)
def Gr (S : SS) : Prop := ∀ a w w', S a w → Below w.heap.size w w' → S a w'
section
variable [Inhabited DSx] {P : Program} {ops : Array Oper} {md : Region.Mode} {Q : Exit → Act → World → Prop} {brk : Nat → Bool} {G : World → World → Prop}
/-- Those that must come ahead of one of S, among the candidates. -/
def ancs (md : Region.Mode) (ops : Array Oper) : List Nat → List Nat → List Nat
  | [], S => S
  | x :: xs, S => ancs md ops xs (cond (S.any fun j => match ops[j]? with | some o => o.after.any fun e => Region.binds md e && Nat.beq e.on x | none => false) (x :: S) S)
/-- Who is done waits for no one. -/
def DC (md : Region.Mode) (ops : Array Oper) (listed : Array Bool) : Prop := ∀ j o, ops[j]? = some o → listed.getD j false = true → ∀ e ∈ o.after, Region.binds md e = true → listed.getD e.on false = true
theorem DC.step {md : Region.Mode} {ops : Array Oper} {listed : Array Bool} {j : Nat} (h : DC md ops listed) (hj : j ∈ Region.ready md ops listed) : DC md ops (listed.setIfInBounds j true) := by
  obtain ⟨_, oj, hoj, hall⟩ := mem_ready.1 hj
  intro k o ho hk e he hb
  by_cases hjk : j = k
  · subst hjk
    rw [hoj] at ho
    obtain rfl := Option.some.inj ho
    exact getD_set_true (hall e he hb)
  · rw [getD_set_ne false hjk] at hk
    exact getD_set_true (h k o ho hk e he hb)
theorem anc_listed {md : Region.Mode} {ops : Array Oper} {listed : Array Bool} {j : Nat} {oj : Oper} (h : DC md ops listed) (hoj : ops[j]? = some oj) (hall : ∀ e ∈ oj.after, Region.binds md e = true → listed.getD e.on false = true) :
    ∀ (cands S : List Nat), (∀ s ∈ S, s = j ∨ listed.getD s false = true) → ∀ x ∈ ancs md ops cands S, x = j ∨ listed.getD x false = true
  | [], S, hS, x, hx => hS x hx
  | y :: ys, S, hS, x, hx => by
    unfold ancs at hx
    cases hc : (S.any fun j => match ops[j]? with | some o => o.after.any fun e => Region.binds md e && Nat.beq e.on y | none => false)
    · rw [hc] at hx
      exact anc_listed h hoj hall ys S hS x hx
    · rw [hc] at hx
      refine anc_listed h hoj hall ys (y :: S) (fun s hs => ?_) x hx
      rcases List.mem_cons.1 hs with rfl | hs
      · obtain ⟨k, hk, h1⟩ := List.any_eq_true.1 hc
        cases ho : ops[k]? with
        | none => rw [ho] at h1; cases h1
        | some o =>
          rw [ho] at h1
          obtain ⟨e, he, h3⟩ := Array.any_eq_true'.1 h1
          simp only [Bool.and_eq_true] at h3
          have he2 := Nat.eq_of_beq_eq_true h3.2
          right
          rw [← he2]
          rcases hS k hk with rfl | hl
          · rw [hoj] at ho
            obtain rfl := Option.some.inj ho
            exact hall e he h3.1
          · exact h k o ho hl e he h3.1
      · exact hS s hs
def Ax (G : World → World → Prop) (P : Program) (md : Region.Mode) (ops : Array Oper) (Q : Exit → Act → World → Prop) (brk : Nat → Bool) (fin : Option Nat) : Nat → Array Bool → SS → Prop
  | 0, listed, S => Region.ready md ops listed = fin.toList ∧ ∀ a w, S a w → (match fin with | none => Q .normal a w | some j => wpOp P ops Q j (fun a' w' => Region.ready md ops (listed.setIfInBounds j true) = [] ∧ Q .normal a' w') a w)
  | f + 1, listed, S => (Region.ready md ops listed = [] → ∀ a w, S a w → Q .normal a w) ∧ ∀ j ∈ Region.ready md ops listed, ∀ a w, S a w →
      wpOp P ops Q j (fun a' w' => ∃ S' : SS, S' a' w' ∧ Gr S' ∧ Ext G (brk j) S S' ∧ Ax G P md ops Q brk fin f (listed.setIfInBounds j true) S') a w
theorem Ax.sound {fin : Option Nat} : ∀ (f : Nat) (listed : Array Bool) (S : SS) (a : Act) (w : World), Ax G P md ops Q brk fin f listed S → S a w → wpAny P md ops Q (f + fin.toList.length) listed a w
  | 0, listed, S, a, w, h, hs => by
    have h2 := h.2 a w hs
    cases fin with
    | none => exact ⟨h.1, h2⟩
    | some j =>
      refine ⟨fun h0 => absurd (h.1.symm.trans h0) (by simp), fun k hk => ?_⟩
      rw [h.1] at hk
      obtain rfl := List.mem_singleton.1 (show k ∈ [j] from hk)
      exact wpOp_mono (fun a' w' h3 => ⟨h3.1, h3.2⟩) h2
  | f + 1, listed, S, a, w, h, hs => by
    rw [show f + 1 + fin.toList.length = (f + fin.toList.length) + 1 by omega]
    exact ⟨fun h0 => h.1 h0 a w hs, fun j hj => wpOp_mono (fun a' w' ⟨_, h1, _, _, h4⟩ => Ax.sound f _ _ a' w' h4 h1) (h.2 j hj a w hs)⟩
theorem wpOp_swap {j : Nat} {oi oj : Oper} {v : Value} (hj : ops[j]? = some oj) (hap : oi.apart ops oj = true)
    (hsj : ∀ cs b, oj.op ≠ .select cs b) (hQ : ∀ c a w, ¬ Q (.panic c) a w) {K : Act → World → Prop} {a : Act} {w : World}
    (h : wpOp P ops Q j K (a.put oi.dst v) w) : wpOp P ops Q j (fun a' w' => K (a'.put oi.dst v) w') a w := by
  obtain ⟨h1, h2, h3⟩ := Oper.apart_spec hap
  unfold wpOp at *
  simp only [hj] at *
  rw [wanted_put oj a oi.dst v h1] at h
  split
  · rename_i hw
    simp only [hw, if_true] at h
    rcases h with h | ⟨hasks, hlets⟩
    case inr => exact .inr ⟨by unfold Oper.asks at *; rw [execOp_put oj hsj a oi.dst v h1] at hasks; exact hasks, hlets⟩
    refine .inl ?_
    unfold Oper.wp at *
    rw [execOp_put oj hsj a oi.dst v h1] at h
    generalize (execOp a.eval oj).run P w = r at *
    cases r with
    | ok n w' =>
      cases n <;> simp only [Oper.upon] at h ⊢
      case value u => rw [← Act.put_comm a v u h2]; exact h
      case skip => rw [← Act.put_comm a v undef h2]; exact h
      case defer d =>
        rw [← Act.put_comm _ v undef h2, ← Act.put_defers]
        exact h
      case enter f args =>
        refine Calls.mono h fun e w'' he => ?_
        cases e with
        | returned u =>
          show K _ _
          rw [← Act.put_comm a v u h2]; exact he
        | panicked c => exact absurd he (hQ _ _ _)
        | outgrown => exact he
      case row row args => exact Rows.mono h fun u w'' he => (by rw [← Act.put_comm a v u h2]; exact he)
    | halt x w' =>
      cases x <;> simp only [Oper.upon] at h ⊢
      case panic u => exact absurd h (hQ _ _ _)
  · rename_i hw
    simp only [hw] at h
    rw [← Act.put_comm a v undef h2]; exact h
/-- i yields v in the states of S, and makes new blocks at most. -/
def QY (G : World → World → Prop) (P : Program) (ops : Array Oper) (Q : Exit → Act → World → Prop) (imp : Bool) (i d : Nat) (v : Value) (S : SS) : Prop :=
  ∀ a w, (∃ w1, S a w1 ∧ (imp = true → G w1 w)) → ∀ K : Act → World → Prop, (∀ w', Below w.heap.size w w' → K (a.put (some d) v) w') → wpOp P ops Q i K a w
theorem put_put (a : Act) (d : Nat) (u v : Value) : (a.put (some d) u).put (some d) v = a.put (some d) v := by
  simp [Act.put]
theorem put_self {a : Act} {d : Nat} {v : Value} (h : a.tmps[d]? = some v) : a.put (some d) v = a := by
  have e : a.tmps.setIfInBounds d v = a.tmps := by
    apply Array.ext_getElem?
    intro i
    rw [Array.getElem?_setIfInBounds]
    split
    · rename_i hi
      subst hi
      obtain ⟨hl, _⟩ := Array.getElem?_eq_some_iff.1 h
      rw [if_pos hl, h]
    · rfl
  simp only [Act.put, e]
theorem put_at {a : Act} {d : Nat} {v : Value} (h : d < a.tmps.size) : (a.put (some d) v).tmps[d]? = some v := by simp [Act.put, h]
theorem unl {listed : Array Bool} {j k : Nat} (h : (listed.setIfInBounds j true).getD k true = false) : listed.getD k true = false := by
  by_cases hjk : j = k
  · subst hjk
    rcases Nat.lt_or_ge j listed.size with h' | h'
    · simp [h'] at h
    · simp at h
  · rw [getD_set_ne true hjk] at h; exact h
theorem Ax.first {i d : Nat} {oi : Oper} {v : Value} {imp : Bool} {fin : Option Nat} (hfin : ∀ j, fin = some j → ∃ c, i ∈ ancs md ops c [j]) (hi : ops[i]? = some oi) (hd : oi.dst = some d) (hsel : ∀ (j : Nat) (o : Oper) cs b, ops[j]? = some o → o.op ≠ .select cs b) (hQ : ∀ c a w, ¬ Q (.panic c) a w)
    (hG : ∀ w, G w w) (hG2 : ∀ a b c, G a b → G b c → G a c) (hbi : brk i = false) :
    ∀ (f : Nat) (listed : Array Bool) (S : SS), (∀ j oj, ops[j]? = some oj → j ≠ i → listed.getD j true = false → (∀ e ∈ oj.after, Region.binds md e = true → e.on ≠ i) → oi.apart ops oj = true) →
      i ∈ Region.ready md ops listed → DC md ops listed → (imp = true → ∀ j oj, brk j = true → ops[j]? = some oj → listed.getD j true = false → ∃ c, i ∈ ancs md ops c [j]) → (∀ a w u, S (a.put (some d) u) w ↔ S a w) → (∀ a w, S a w → d < a.tmps.size) → Gr S → QY G P ops Q imp i d v S →
      Ax G P md ops Q brk fin f (listed.setIfInBounds i true) (fun a w => S a w ∧ a.tmps[d]? = some v) → Ax G P md ops Q brk fin (f + 1) listed S := by
  intro f
  have self : ∀ (f : Nat) (listed : Array Bool) (S : SS), (∀ a w u, S (a.put (some d) u) w ↔ S a w) → (∀ a w, S a w → d < a.tmps.size) → Gr S → QY G P ops Q imp i d v S →
      Ax G P md ops Q brk fin f (listed.setIfInBounds i true) (fun a w => S a w ∧ a.tmps[d]? = some v) → ∀ a w, S a w →
      wpOp P ops Q i (fun a' w' => ∃ S' : SS, S' a' w' ∧ Gr S' ∧ Ext G (brk i) S S' ∧ Ax G P md ops Q brk fin f (listed.setIfInBounds i true) S') a w := by
    intro f listed S hins hsz hgr hq H a w hs
    refine hq a w ⟨w, hs, fun _ => hG w⟩ _ fun w' hb => ⟨_, ⟨(hins a w' v).2 (hgr a w w' hs hb), put_at (hsz a w hs)⟩, fun a w w' h k => ⟨hgr a w w' h.1 k, h.2⟩, ?_, H⟩
    exact fun a w h => ⟨w, h.1, fun _ => hG w⟩
  induction f with
  | zero =>
    intro listed S _ hr hdc hbr hins hsz hgr hq H
    refine ⟨fun h => (by rw [h] at hr; cases hr), fun j hj a w hs => ?_⟩
    by_cases hji : j = i
    · subst hji; exact self 0 listed S hins hsz hgr hq H a w hs
    · have hm := ready_mono hj hji
      rw [H.1] at hm
      cases fin with
      | none => cases hm
      | some j' =>
        obtain rfl := List.mem_singleton.1 (show j ∈ [j'] from hm)
        obtain ⟨c, hc⟩ := hfin j rfl
        obtain ⟨_, oj, hoj, hall⟩ := mem_ready.1 hj
        have h6 := (anc_listed hdc hoj hall c [j] (fun s hs => .inl (List.mem_singleton.1 hs)) i hc).resolve_left (Ne.symm hji)
        have h0 := (mem_ready.1 hr).1
        exfalso
        rcases Nat.lt_or_ge i listed.size with h' | h'
        · simp [h'] at h0 h6; rw [h0] at h6; cases h6
        · simp [Array.getElem?_eq_none h'] at h6
  | succ f ih =>
    intro listed S hfree hr hdc hbr hins hsz hgr hq H
    refine ⟨fun h => (by rw [h] at hr; cases hr), fun j hj a w hs => ?_⟩
    by_cases hji : j = i
    · subst hji; exact self _ listed S hins hsz hgr hq H a w hs
    · obtain ⟨hjun, oj, hoj, hall⟩ := mem_ready.1 hj
      have hnot : ∀ e ∈ oj.after, Region.binds md e = true → e.on ≠ i := fun e he hb heq => by
        have h1 := hall e he hb
        have h0 := (mem_ready.1 hr).1
        rw [heq] at h1
        rcases Nat.lt_or_ge i listed.size with h' | h'
        · simp [h'] at h0 h1; rw [h0] at h1; cases h1
        · simp [Array.getElem?_eq_none h'] at h1
      have h1 := H.2 j (ready_mono hj hji) (a.put (some d) v) w ⟨(hins a w v).2 hs, put_at (hsz a w hs)⟩
      rw [← hd] at h1
      refine wpOp_mono ?_ (wpOp_swap hoj (hfree j oj hoj hji hjun hnot) (fun cs b => hsel j oj cs b hoj) hQ h1)
      rintro a' w' ⟨S', hS', hgr', hext, hA⟩
      rw [hd] at hS'
      have hin : ∀ x y, S' x y → x.tmps[d]? = some v ∧ ∃ y1, S x y1 ∧ (brk j = false → G y1 y) := by
        intro x y hx
        obtain ⟨y1, h2, h3⟩ := hext x y hx
        exact ⟨h2.2, y1, h2.1, h3⟩
      have hback : ∀ x y, S' (x.put (some d) v) y → ∃ y1, S x y1 ∧ (brk j = false → G y1 y) := fun x y hx => by
        obtain ⟨_, y1, h2, h3⟩ := hin _ _ hx
        exact ⟨y1, (hins x y1 v).1 h2, h3⟩
      refine ⟨fun x y => S' (x.put (some d) v) y, hS', fun x y y' h k => hgr' _ _ _ h k, ?_, ?_⟩
      · exact fun x y hx => hback x y hx
      · refine ih (listed.setIfInBounds j true) _ (fun k ok hk hki hun hno => hfree k ok hk hki ?_ hno) (ready_mono hr (Ne.symm hji)) (hdc.step hj) (fun himp k ok hb hk hun => hbr himp k ok hb hk (unl hun)) (fun x y u => by rw [put_put]) (fun x y hx => ?_) (fun x y y' h k => hgr' _ _ _ h k) ?_ ?_
        · by_cases hjk : j = k
          · subst hjk; exact hjun
          · rw [getD_set_ne true hjk] at hun; exact hun
        · obtain ⟨y1, h2, _⟩ := hback x y hx
          exact hsz _ _ h2
        · intro x y hx K hK
          refine hq x y ?_ K hK
          obtain ⟨y1, h2, h3⟩ := hx
          obtain ⟨y2, h4, h5⟩ := hback x y1 h2
          refine ⟨y2, h4, fun himp => hG2 _ _ _ (h5 ?_) (h3 himp)⟩
          cases hbj : brk j
          · rfl
          · obtain ⟨c, hc⟩ := hbr himp j oj hbj hoj hjun
            have h6 := (anc_listed hdc hoj hall c [j] (fun s hs => .inl (List.mem_singleton.1 hs)) i hc).resolve_left (Ne.symm hji)
            have h0 := (mem_ready.1 hr).1
            rcases Nat.lt_or_ge i listed.size with h' | h'
            · simp [h'] at h0 h6; rw [h0] at h6; cases h6
            · simp [Array.getElem?_eq_none h'] at h6
        · have e : (fun x y => S' (x.put (some d) v) y ∧ x.tmps[d]? = some v) = S' := by
            funext x y
            refine propext ⟨fun ⟨h2, h3⟩ => by rw [put_self h3] at h2; exact h2, fun h2 => ?_⟩
            have h3 := (hin x y h2).1
            exact ⟨by rw [put_self h3]; exact h2, h3⟩
          rw [e, Array.setIfInBounds_comm _ _ hji]
          exact hA
/-! ### The walk -/
/-- How an operation is taken: quiet (it reads memory, or not); or by itself (it writes what others know, or not). -/
structure K4 where
  special : Bool
  flag : Bool
abbrev K4.q (imp : Bool) : K4 := ⟨false, imp⟩
abbrev K4.s (br : Bool) : K4 := ⟨true, br⟩
variable {n : Nat} {w0 : World} {E : Env} {H : Hp} {F : SF}
def QS (P : Program) (ops : Array Oper) (imp : Bool) (o : Oper) (d : Nat) (v : Value) (E : Env) (n : Nat) (H : Hp) (F : SF) (w0 : World) : Prop :=
  ∀ a w, (if imp then St E n H F w0 a w else ∃ w1, St E n H F w0 a w1) → ∀ (Q : Exit → Act → World → Prop) (K : Act → World → Prop), (∀ w', Below w.heap.size w w' → K (a.put (some d) v) w') →
    if Region.wanted o (yielded ops a.tmps) = true then o.wp P a w K Q else K (a.put o.dst undef) w
theorem QS.pure {o : Oper} {d : Nat} {v : Value} {imp : Bool} (hy : Yp P E n o v) (hg : o.guard = none) (hd : o.dst = some d) : QS P ops imp o d v E n H F w0 := fun a w s Q K hK => by
  rw [if_pos (by simp [Region.wanted, hg])]
  unfold Oper.wp
  have he : EnvOf E n a := by
    cases imp
    · obtain ⟨_, s⟩ := s; exact s.env
    · exact s.env
  rw [hy a w he, Oper.upon_value, hd]
  exact hK _ (Below.refl _ _)
theorem QS.val {o : Oper} {d : Nat} {v : Value} (hy : Yv P E n H F w0 o v) (hg : o.guard = none) (hd : o.dst = some d) : QS P ops true o d v E n H F w0 := fun a w s Q K hK => by
  rw [if_pos (by simp [Region.wanted, hg])]
  unfold Oper.wp
  rw [hy a w s, Oper.upon_value, hd]
  exact hK _ (Below.refl _ _)
theorem QS.call {f : FuncId} {args : Array Operand} {ts : Array TypeId} {d : Nat} {T' : TypeId} {p : String} {af : Array Edge} {vs : List Value} {v : Value} (hf : ∀ (args : Array Value) (w : World), (callFunc f args).run P w = .ok (.enter f args) w)
    (hx : evs E args.toList = some vs) (hc : ∀ a w, St E n H F w0 a w → Ret P f vs w v) :
    QS P ops true ⟨some d, .call { callee := .value (.func f), args := args, argTypes := ts }, T', p, af, none⟩ d v E n H F w0 := fun a w s Q K hK => by
  rw [if_pos (by simp [Region.wanted])]
  unfold Oper.wp
  rw [run_call hf s.env hx, Oper.upon_enter]
  exact (hc a w s).mono fun e w' ⟨he, hb⟩ => by subst he; exact hK _ hb
theorem QS.callV {f : FuncId} {g : Nat} {args : Array Operand} {ts : Array TypeId} {d : Nat} {T' : TypeId} {p : String} {af : Array Edge} {vs : List Value} {v : Value} (hf : ∀ (args : Array Value) (w : World), (callFunc f args).run P w = .ok (.enter f args) w)
    (hg : look E g = some (.func (.func f) #[] #[])) (hx : evs E args.toList = some vs) (hc : ∀ a w, St E n H F w0 a w → Ret P f vs w v) :
    QS P ops true ⟨some d, .call { callee := .value (.tmp g), args := args, argTypes := ts }, T', p, af, none⟩ d v E n H F w0 := fun a w s Q K hK => by
  rw [if_pos (by simp [Region.wanted])]
  unfold Oper.wp
  rw [run_callV hf s.env hg hx, Oper.upon_enter]
  exact (hc a w s).mono fun e w' ⟨he, hb⟩ => by subst he; exact hK _ hb
theorem imp_env {imp : Bool} {a : Act} {w : World} (s : if imp = true then St E n H F w0 a w else ∃ w1, St E n H F w0 a w1) : EnvOf E n a := by
  cases imp
  · obtain ⟨_, s⟩ := s; exact s.env
  · exact s.env
theorem QS.guardT {o : Oper} {g d dg : Nat} {b imp : Bool} {v : Value} (hg : o.guard = some (g, b)) (hd : (ops[g]?).bind (·.dst) = some dg) (hb : look E dg = some (.bool b))
    (h : QS P ops imp { o with guard := none } d v E n H F w0) : QS P ops imp o d v E n H F w0 := fun a w s Q K hK => by
  have hy : yielded ops a.tmps g = some b := by simp [yielded, hd, (imp_env s).at_ _ _ hb]
  rw [if_pos (by simp [Region.wanted, hg, hy])]
  have h1 := h a w s Q K hK
  rw [if_pos (by simp [Region.wanted])] at h1
  exact h1
theorem QS.guardF {o : Oper} {g d dg : Nat} {b c imp : Bool} (hg : o.guard = some (g, b)) (hd : (ops[g]?).bind (·.dst) = some dg) (hb : look E dg = some (.bool c)) (hne : (c == b) = false) (hdst : o.dst = some d) :
    QS P ops imp o d undef E n H F w0 := fun a w s Q K hK => by
  have hy : yielded ops a.tmps g = some c := by simp [yielded, hd, (imp_env s).at_ _ _ hb]
  have hw : Region.wanted o (yielded ops a.tmps) = false := by
    cases c <;> cases b <;> simp_all [Region.wanted]
  rw [if_neg (by simp [hw]), hdst]
  exact hK _ (Below.refl _ _)
theorem QS.guardU {o : Oper} {g d dg : Nat} {b imp : Bool} (hg : o.guard = some (g, b)) (hd : (ops[g]?).bind (·.dst) = some dg) (hb : look E dg = some undef) (hdst : o.dst = some d) :
    QS P ops imp o d undef E n H F w0 := fun a w s Q K hK => by
  have hy : yielded ops a.tmps g = none := by simp [yielded, hd, (imp_env s).at_ _ _ hb, undef]
  rw [if_neg (by simp [Region.wanted, hg, hy]), hdst]
  exact hK _ (Below.refl _ _)
/-- An operation that is carried out, by itself. -/
def WS (P : Program) (ops : Array Oper) (o : Oper) (E : Env) (n : Nat) (H : Hp) (F : SF) (w0 : World) {ι : Type} (Ei : ι → Env) (Hi : ι → Hp) (Fi : ι → SF) : Prop :=
  (∀ a, EnvOf E n a → Region.wanted o (yielded ops a.tmps) = true) ∧ Eff P E n H F w0 o Ei Hi Fi
theorem WS.free {o : Oper} {ι : Type} {Ei : ι → Env} {Hi : ι → Hp} {Fi : ι → SF} (hg : o.guard = none) (h : Eff P E n H F w0 o Ei Hi Fi) : WS P ops o E n H F w0 Ei Hi Fi := ⟨fun a _ => by simp [Region.wanted, hg], h⟩
theorem WS.guardT {o : Oper} {ι : Type} {Ei : ι → Env} {Hi : ι → Hp} {Fi : ι → SF} {g dg : Nat} {b : Bool} (hg : o.guard = some (g, b)) (hd : (ops[g]?).bind (·.dst) = some dg) (hb : look E dg = some (.bool b))
    (h : Eff P E n H F w0 { o with guard := none } Ei Hi Fi) : WS P ops o E n H F w0 Ei Hi Fi := by
  refine ⟨fun a s => ?_, h⟩
  have hy : yielded ops a.tmps g = some b := by simp [yielded, hd, s.at_ _ _ hb]
  simp [Region.wanted, hg, hy]
/-- What the quiet ones may know: all that is known; or (some) these blocks alone. -/
def wkH : Option Hp → Hp → Hp
  | none, H => H
  | some K, _ => K
def wkF : Option Hp → SF → SF
  | none, F => F
  | some _, _ => SF.top
/-- What a state knows of memory. -/
def Wp (w0 : World) (H : Hp) (F : SF) (w : World) : Prop := HpOf w0.heap.size H w ∧ F.p w ∧ (∀ x ∈ H, ¬ F.fp w x.1) ∧ Below w0.heap.size w0 w
theorem St.wp {a : Act} {w : World} (s : St E n H F w0 a w) : Wp w0 H F w := ⟨s.hp, s.fact, s.sep, s.low⟩
def wkG (m : Option Hp) (w0 : World) : World → World → Prop := match m with
  | none => Eq
  | some K => fun w1 w => Wp w0 K SF.top w1 → Wp w0 K SF.top w
/-- What is left behind the plan. -/
def WN (P : Program) (ops : Array Oper) (Q : Exit → Act → World → Prop) (fin : Option Nat) (E : Env) (n : Nat) (H : Hp) (F : SF) (w0 : World) : Prop := match fin with
  | none => WQ Q .normal E n H F w0
  | some j => ∃ o, ops[j]? = some o ∧ WL P ops Q [o] E n H F w0
structure WDc (m : Option Hp) (fin : Option Nat) (P : Program) (ops : Array Oper) (Q : Exit → Act → World → Prop) (n : Nat) (w0 : World) (X : List (Oper × K4) → Env → Hp → SF → Prop) : Prop where
  nil : ∀ {E : Env} {H : Hp} {F : SF}, WN P ops Q fin E n H F w0 → X [] E H F
  quiet : ∀ {o : Oper} {d : Nat} {v : Value} {imp : Bool} {rest : List (Oper × K4)} {E : Env} {H : Hp} {F : SF}, QS P ops imp o d v E n (wkH m H) (wkF m F) w0 → o.dst = some d → Nat.blt d n = true → look E d = none →
      X rest ((d, v) :: E) H F → X ((o, .q imp) :: rest) E H F
  known : ∀ {t : Nat} {b r : Bool} {l : List (Oper × K4)} {E : Env} {H : Hp} {F : SF}, look E t = some (.bool b) → b = r → X l ((t, .bool r) :: E) H F → X l E H F
  skip : ∀ {o : Oper} {br : Bool} {d : Nat} {rest : List (Oper × K4)} {E : Env} {H : Hp} {F : SF}, (∀ a, EnvOf E n a → Region.wanted o (yielded ops a.tmps) = false) → o.dst = some d → Nat.blt d n = true → look E d = none →
      X rest ((d, undef) :: E) H F → X ((o, .s br) :: rest) E H F
  spec : ∀ {o : Oper} {br : Bool} {rest : List (Oper × K4)} {E : Env} {H : Hp} {F : SF} {ι : Type} {Ei : ι → Env} {Hi : ι → Hp} {Fi : ι → SF}, WS P ops o E n H F w0 Ei Hi Fi →
      (∀ i, if br = true then sub E (Ei i) else ∀ a w, St (Ei i) n (Hi i) (Fi i) w0 a w → St E n (wkH m H) (wkF m F) w0 a w) → (∀ i, X rest (Ei i) (Hi i) (Fi i)) → (∀ i w, Wp w0 (Hi i) (Fi i) w → Wp w0 (wkH m (Hi i)) (wkF m (Fi i)) w) → X ((o, .s br) :: rest) E H F
def WDm (m : Option Hp) (fin : Option Nat) (P : Program) (ops : Array Oper) (Q : Exit → Act → World → Prop) (n : Nat) (w0 : World) (L : List (Oper × K4)) (E : Env) (H : Hp) (F : SF) : Prop :=
  ∀ X : List (Oper × K4) → Env → Hp → SF → Prop, WDc m fin P ops Q n w0 X → X L E H F
section
variable {m : Option Hp} {fin : Option Nat}
theorem WDm.nil (h : WQ Q .normal E n H F w0) : WDm m none P ops Q n w0 [] E H F := fun _ c => c.nil h
theorem WDm.last {j : Nat} {o : Oper} (ho : ops[j]? = some o) (h : WL P ops Q [o] E n H F w0) : WDm m (some j) P ops Q n w0 [] E H F := fun _ c => c.nil ⟨o, ho, h⟩
theorem WDm.quiet {o : Oper} {d : Nat} {v : Value} {imp : Bool} {rest : List (Oper × K4)} (hq : QS P ops imp o d v E n (wkH m H) (wkF m F) w0) (hd : o.dst = some d) (hn : Nat.blt d n = true) (hl : look E d = none)
      (h : WDm m fin P ops Q n w0 rest ((d, v) :: E) H F) : WDm m fin P ops Q n w0 ((o, .q imp) :: rest) E H F := fun X c => c.quiet hq hd hn hl (h X c)
theorem WDm.known {t : Nat} {b r : Bool} {l : List (Oper × K4)} (hl : look E t = some (.bool b)) (hr : b = r) (h : WDm m fin P ops Q n w0 l ((t, .bool r) :: E) H F) : WDm m fin P ops Q n w0 l E H F := fun X c => c.known hl hr (h X c)
theorem WDm.skip {o : Oper} {br : Bool} {d : Nat} {rest : List (Oper × K4)} (hw : ∀ a, EnvOf E n a → Region.wanted o (yielded ops a.tmps) = false) (hd : o.dst = some d) (hn : Nat.blt d n = true) (hl : look E d = none)
      (h : WDm m fin P ops Q n w0 rest ((d, undef) :: E) H F) : WDm m fin P ops Q n w0 ((o, .s br) :: rest) E H F := fun X c => c.skip hw hd hn hl (h X c)
theorem WDm.spec {o : Oper} {br : Bool} {rest : List (Oper × K4)} {ι : Type} {Ei : ι → Env} {Hi : ι → Hp} {Fi : ι → SF} (hs : WS P ops o E n H F w0 Ei Hi Fi)
      (hx : ∀ i, if br = true then sub E (Ei i) else ∀ a w, St (Ei i) n (Hi i) (Fi i) w0 a w → St E n (wkH m H) (wkF m F) w0 a w) (h : ∀ i, WDm m fin P ops Q n w0 rest (Ei i) (Hi i) (Fi i)) (hk : ∀ i w, Wp w0 (Hi i) (Fi i) w → Wp w0 (wkH m (Hi i)) (wkF m (Fi i)) w := by exact fun _ _ h => h) : WDm m fin P ops Q n w0 ((o, .s br) :: rest) E H F :=
  fun X c => c.spec hs hx (fun i => h i X c) hk
end
abbrev WD := WDm none none
def nthO : List Oper → Nat → Option Oper
  | [], _ => none
  | o :: _, 0 => some o
  | _ :: l, i + 1 => nthO l i
theorem nthO_eq : ∀ (l : List Oper) (i : Nat), nthO l i = l[i]?
  | [], _ => rfl
  | _ :: _, 0 => rfl
  | _ :: l, i + 1 => by simp [nthO, nthO_eq l i]
def planOps (l : List Oper) : List (Nat × K4) → List (Oper × K4)
  | [] => []
  | (i, k) :: r => match nthO l i with
    | some o => (o, k) :: planOps l r
    | none => []
def brks (plan : List (Nat × K4)) (j : Nat) : Bool := plan.any fun x => Nat.beq x.1 j && (x.2.special && x.2.flag)
def planB (ops : Array Oper) (fin : Option Nat) (all : List (Nat × K4)) : List (Nat × K4) → Array Bool → Bool
  | [], listed => (Region.ready .any ops listed == fin.toList) && (match fin with | none => true | some j => (Region.ready .any ops (listed.setIfInBounds j true)).isEmpty)
  | (i, k) :: rest, listed => (if k.special then (Region.ready .any ops listed == [i]) else (Region.ready .any ops listed).contains i && Region.free .any ops listed i && !brks all i) && planB ops fin all rest (listed.setIfInBounds i true)
/-- Whoever writes what others know waits for all who read ahead of it. -/
def waitB (ops : Array Oper) : List (Nat × K4) → List (Nat × K4) → Bool
  | _, [] => true
  | seen, y :: rest => cond (y.2.special && y.2.flag) ((fun S => seen.all fun x => !(!x.2.special && x.2.flag) || S.any (Nat.beq x.1)) (ancs .any ops (seen.map (·.1)) [y.1])) true && waitB ops (y :: seen) rest
theorem wait_in {ops : Array Oper} : ∀ {plan seen : List (Nat × K4)}, waitB ops seen plan = true → ∀ {x y : Nat × K4}, x ∈ seen → y ∈ plan → (!x.2.special && x.2.flag) = true → (y.2.special && y.2.flag) = true → ∃ c, x.1 ∈ ancs .any ops c [y.1]
  | z :: rest, seen, h, x, y, hx, hy, hxf, hyf => by
    unfold waitB at h
    rw [Bool.and_eq_true] at h
    rcases List.mem_cons.1 hy with rfl | hy
    · have h1 := h.1
      rw [hyf, cond_true] at h1
      have h2 := List.all_eq_true.1 h1 x hx
      rw [hxf] at h2
      simp only [Bool.not_true, Bool.false_or] at h2
      obtain ⟨s, hs, he⟩ := List.any_eq_true.1 h2
      exact ⟨_, by rw [Nat.eq_of_beq_eq_true he]; exact hs⟩
    · exact wait_in h.2 (List.mem_cons_of_mem _ hx) hy hxf hyf
theorem wait_tail {ops : Array Oper} {y : Nat × K4} {plan seen : List (Nat × K4)} (h : waitB ops seen (y :: plan) = true) : waitB ops (y :: seen) plan = true := by
  unfold waitB at h
  rw [Bool.and_eq_true] at h
  exact h.2
/-- The last operation waits for all. -/
def finB (ops : Array Oper) (fin : Option Nat) (plan : List (Nat × K4)) : Bool := match fin with
  | none => true
  | some j => (fun S => plan.all fun x => S.any (Nat.beq x.1)) (ancs .any ops (plan.reverse.map (·.1)) [j])
theorem fin_in {ops : Array Oper} {fin : Option Nat} {plan : List (Nat × K4)} (h : finB ops fin plan = true) {x : Nat × K4} (hx : x ∈ plan) : ∀ j, fin = some j → ∃ c, x.1 ∈ ancs .any ops c [j] := fun j hj => by
  subst hj
  obtain ⟨s, hs, he⟩ := List.any_eq_true.1 (List.all_eq_true.1 h x hx)
  exact ⟨_, by rw [Nat.eq_of_beq_eq_true he]; exact hs⟩
def planOkF (l : List Oper) (fin : Option Nat) (plan : List (Nat × K4)) : Bool := Nat.beq (plan.length + fin.toList.length) l.length && Region.noSelect l.toArray && waitB l.toArray [] plan && (finB l.toArray fin plan && planB l.toArray fin plan plan (Array.replicate l.length false))
def planOk (l : List Oper) (plan : List (Nat × K4)) : Bool := planOkF l none plan
theorem St.ins {d : Nat} {a : Act} {w : World} {u : Value} (hl : look E d = none) : St E n H F w0 (a.put (some d) u) w ↔ St E n H F w0 a w := by
  have key : ∀ t v, look E t = some v → (a.put (some d) u).tmps[t]? = a.tmps[t]? := fun t v ht => by
    have hne : d ≠ t := fun e => by subst e; rw [hl] at ht; cases ht
    simp [Act.put, Array.getElem?_setIfInBounds_ne hne]
  constructor
  · rintro ⟨⟨h1, h2, h3⟩, h4, h5, h6, h7⟩
    exact ⟨⟨by simpa [Act.put] using h1, fun t v ht => by rw [← key t v ht]; exact h2 t v ht, h3⟩, h4, h5, h6, h7⟩
  · rintro ⟨⟨h1, h2, h3⟩, h4, h5, h6, h7⟩
    exact ⟨⟨by simpa [Act.put] using h1, fun t v ht => by rw [key t v ht]; exact h2 t v ht, h3⟩, h4, h5, h6, h7⟩
theorem look_cons {E : Env} {d t : Nat} {v : Value} : look ((d, v) :: E) t = if d = t then some v else look E t := by
  simp only [look]
  by_cases h : d = t
  · subst h; simp
  · have : Nat.beq d t = false := by
      cases hb : Nat.beq d t
      · rfl
      · exact absurd (Nat.eq_of_beq_eq_true hb) h
    rw [this, if_neg h]; rfl
theorem sub_push {d : Nat} {v : Value} (hl : look E d = none) : sub E ((d, v) :: E) := fun t u ht => by
  rw [look_cons, if_neg]
  · exact ht
  · rintro rfl
    rw [hl] at ht
    cases ht
theorem St.push_iff {d : Nat} {v : Value} {a : Act} {w : World} (hl : look E d = none) : St ((d, v) :: E) n H F w0 a w ↔ (St E n H F w0 a w ∧ a.tmps[d]? = some v) := by
  constructor
  · intro s
    exact ⟨s.weak (sub_push hl), s.env.at_ d v (by rw [look_cons, if_pos rfl])⟩
  · rintro ⟨s, h⟩
    refine ⟨⟨s.env.size, fun t u ht => ?_, s.env.defers⟩, s.hp, s.fact, s.sep, s.low⟩
    rw [look_cons] at ht
    split at ht
    · rename_i e; subst e; rw [← ht]; exact h
    · exact s.env.at_ t u ht
theorem Gr_St : Gr (St E n H F w0) := fun _ _ _ s hb => s.grow hb
theorem planB_q {fin : Option Nat} {l : List Oper} {all rest : List (Nat × K4)} {i : Nat} {imp : Bool} {listed : Array Bool} (hp : planB l.toArray fin all ((i, .q imp) :: rest) listed = true) :
    (i ∈ Region.ready .any l.toArray listed ∧ Region.free .any l.toArray listed i = true ∧ brks all i = false) ∧ planB l.toArray fin all rest (listed.setIfInBounds i true) = true := by
  simp only [planB, Bool.and_eq_true, Bool.false_eq_true, if_false, Bool.not_eq_true', List.contains_iff_mem] at hp
  exact ⟨⟨hp.1.1.1, hp.1.1.2, hp.1.2⟩, hp.2⟩
theorem planB_s {fin : Option Nat} {l : List Oper} {all rest : List (Nat × K4)} {i : Nat} {br : Bool} {listed : Array Bool} (hp : planB l.toArray fin all ((i, .s br) :: rest) listed = true) :
    Region.ready .any l.toArray listed = [i] ∧ planB l.toArray fin all rest (listed.setIfInBounds i true) = true := by
  simp only [planB, Bool.and_eq_true, if_true, beq_iff_eq] at hp
  exact hp
theorem planB_head {fin : Option Nat} {l : List Oper} {all rest : List (Nat × K4)} {i : Nat} {k : K4} {listed : Array Bool} (hp : planB l.toArray fin all ((i, k) :: rest) listed = true) : ∃ oi, l.toArray[i]? = some oi ∧ nthO l i = some oi := by
  have hr : i ∈ Region.ready .any l.toArray listed := by
    obtain ⟨sp, fl⟩ := k
    cases sp
    · exact (planB_q hp).1.1
    · rw [(planB_s hp).1]
      exact List.Mem.head _
  obtain ⟨_, oi, hoi, _⟩ := mem_ready.1 hr
  exact ⟨oi, hoi, by rw [nthO_eq]; simpa using hoi⟩
theorem St.known_iff {a : Act} {w : World} {t : Nat} {b r : Bool} (hl : look E t = some (.bool b)) (hr : b = r) : St E n H F w0 a w ↔ St ((t, .bool r) :: E) n H F w0 a w := by
  refine ⟨fun s => s.known hl hr, fun s => s.weak fun u v hu => ?_⟩
  rw [look_cons]
  split
  · rename_i e
    subst e
    subst hr
    rw [hl] at hu
    exact hu
  · exact hu
theorem wkG_refl (m : Option Hp) (w0 w : World) : wkG m w0 w w := by
  cases m with
  | none => rfl
  | some K => exact id
theorem wkG_trans (m : Option Hp) (w0 a b c : World) (h : wkG m w0 a b) (k : wkG m w0 b c) : wkG m w0 a c := by
  cases m with
  | none => exact h.trans k
  | some K => exact fun x => k (h x)
theorem wk_state {m : Option Hp} {imp : Bool} {a : Act} {w : World} (hwk : ∀ w, Wp w0 H F w → Wp w0 (wkH m H) (wkF m F) w) (s : ∃ w1, St E n H F w0 a w1 ∧ (imp = true → wkG m w0 w1 w)) :
    if imp = true then St E n (wkH m H) (wkF m F) w0 a w else ∃ w1, St E n (wkH m H) (wkF m F) w0 a w1 := by
  obtain ⟨w1, s, hg⟩ := s
  have h1 := hwk w1 s.wp
  cases imp
  · exact ⟨w1, s.env, h1.1, h1.2.1, h1.2.2.1, h1.2.2.2⟩
  · have h2 := hg rfl
    simp only [if_true]
    cases m with
    | none => cases h2; exact s
    | some K =>
      have h3 := h2 h1
      exact ⟨s.env, h3.1, h3.2.1, h3.2.2.1, h3.2.2.2⟩
theorem cov_step {all rest : List (Nat × K4)} {i : Nat} {k : K4} {listed : Array Bool} (h : ∀ y ∈ all, listed.getD y.1 true = true ∨ y ∈ (i, k) :: rest) : ∀ y ∈ all, (listed.setIfInBounds i true).getD y.1 true = true ∨ y ∈ rest := fun y hy => by
  have key : ∀ n, listed.getD n true = true → (listed.setIfInBounds i true).getD n true = true := fun n hn => by
    cases hc : (listed.setIfInBounds i true).getD n true
    · rw [unl hc] at hn; cases hn
    · rfl
  rcases h y hy with h1 | h1
  · exact .inl (key _ h1)
  · rcases List.mem_cons.1 h1 with rfl | h1
    · left
      cases hc : (listed.setIfInBounds i true).getD i true
      · exfalso
        rcases Nat.lt_or_ge i listed.size with h' | h'
        · simp [h'] at hc
        · simp at hc
      · rfl
    · exact .inr h1
theorem WDm.sound {m : Option Hp} {fin : Option Nat} {l : List Oper} {all : List (Nat × K4)} (hsel : Region.noSelect l.toArray = true) (hfin : finB l.toArray fin all = true) (hQ : ∀ c a w, ¬ Q (.panic c) a w) {L : List (Oper × K4)} (h : WDm m fin P l.toArray Q n w0 L E H F) :
    (∀ w, Wp w0 H F w → Wp w0 (wkH m H) (wkF m F) w) → ∀ (plan : List (Nat × K4)) (listed : Array Bool), planOps l plan = L → (∀ x ∈ plan, x ∈ all) → planB l.toArray fin all plan listed = true → DC .any l.toArray listed → (∃ seen, waitB l.toArray seen plan = true) → (∀ y ∈ all, listed.getD y.1 true = true ∨ y ∈ plan) →
      Ax (wkG m w0) P .any l.toArray Q (brks all) fin plan.length listed (St E n H F w0) := by
  refine h (fun L E H F => (∀ w, Wp w0 H F w → Wp w0 (wkH m H) (wkF m F) w) → ∀ (plan : List (Nat × K4)) (listed : Array Bool), planOps l plan = L → (∀ x ∈ plan, x ∈ all) → planB l.toArray fin all plan listed = true → DC .any l.toArray listed → (∃ seen, waitB l.toArray seen plan = true) → (∀ y ∈ all, listed.getD y.1 true = true ∨ y ∈ plan) →
      Ax (wkG m w0) P .any l.toArray Q (brks all) fin plan.length listed (St E n H F w0)) ⟨?_, ?_, ?_, ?_, ?_⟩
  · intro E H F h
    intro hwk plan listed hL hmem hp hdc hwt hcov
    match plan, hL, hp with
    | [], _, hp =>
      simp only [planB, Bool.and_eq_true, beq_iff_eq] at hp
      refine ⟨hp.1, fun a w hs => ?_⟩
      cases fin with
      | none => exact h a w hs
      | some j =>
        obtain ⟨o, ho, hw⟩ := h
        have h1 := hw a w hs
        have h2 := hp.2
        simp only [List.isEmpty_iff] at h2
        unfold wpList at h1
        unfold wpOp
        simp only [ho]
        split
        · rename_i hwt2
          rw [if_pos hwt2] at h1
          exact h1.imp (fun h4 => Oper.wp_mono (fun a' w' h3 => ⟨h2, h3⟩) h4) id
        · rename_i hwt2
          rw [if_neg hwt2] at h1
          exact ⟨h2, h1⟩
    | (i, k) :: rest, hL, hp =>
      obtain ⟨oi, _, hn⟩ := planB_head hp
      simp only [planOps, hn] at hL
      cases hL
  · intro o d v imp rest' E H F hq hd hn hl ih
    intro hwk plan listed hL hmem hp hdc hwt hcov
    match plan, hL, hp with
    | [], hL, _ => simp only [planOps] at hL; cases hL
    | (i, k) :: rest, hL, hp =>
      obtain ⟨oi, hoi, hni⟩ := planB_head hp
      simp only [planOps, hni] at hL
      injection hL with hL1 hL2
      injection hL1 with hL3 hL4
      subst hL3
      subst hL4
      obtain ⟨⟨hr, hf, hb⟩, hrest⟩ := planB_q hp
      refine Ax.first (fin := fin) (fin_in hfin (hmem _ (List.Mem.head _))) (i := i) (d := d) (v := v) hoi hd (Region.noSelect_spec hsel) hQ (wkG_refl m w0) (wkG_trans m w0) hb rest.length listed _ (Region.free_spec hoi hf) hr hdc ?_ (fun a w u => St.ins hl) (fun a w s => by rw [s.env.size]; simpa [Nat.blt_eq] using hn) Gr_St (imp := imp) ?_ ?_
      · intro himp j oj hbj hoj hun
        subst himp
        unfold brks at hbj
        obtain ⟨y, hy, hy2⟩ := List.any_eq_true.1 hbj
        rw [Bool.and_eq_true] at hy2
        obtain ⟨hy3, hy4⟩ := hy2
        obtain rfl := Nat.eq_of_beq_eq_true hy3
        obtain ⟨seen, hw⟩ := hwt
        rcases hcov y hy with h1 | h1
        · rw [hun] at h1; cases h1
        · rcases List.mem_cons.1 h1 with e | h1
          · exfalso
            rw [e] at hy4
            cases hy4
          · exact wait_in (wait_tail hw) (List.Mem.head _) h1 rfl hy4
      · intro a w s K hK
        unfold wpOp
        simp only [hoi]
        have h3 := hq a w (wk_state hwk s) Q K hK
        split
        · rename_i hwt; rw [if_pos hwt] at h3; exact .inl h3
        · rename_i hwt; rw [if_neg hwt] at h3; exact h3
      · have e : (fun a w => St E n H F w0 a w ∧ a.tmps[d]? = some v) = St ((d, v) :: E) n H F w0 := funext fun a => funext fun w => propext (St.push_iff hl).symm
        rw [e]
        exact ih hwk rest _ hL2 (fun x hx => hmem x (List.Mem.tail _ hx)) hrest (hdc.step hr) (hwt.elim fun _ h => ⟨_, wait_tail h⟩) (cov_step hcov)
  · intro t b r l' E H F hl hr ih
    intro hwk plan listed hL hmem hp hdc hwt hcov
    have h1 := ih hwk plan listed hL hmem hp hdc hwt hcov
    have e : St E n H F w0 = St ((t, .bool r) :: E) n H F w0 := funext fun a => funext fun w => propext (St.known_iff (n := n) (w0 := w0) hl hr)
    rw [e]
    exact h1
  · intro o br d rest' E H F hw hd hn hl ih
    intro hwk plan listed hL hmem hp hdc hwt hcov
    match plan, hL, hp with
    | [], hL, _ => simp only [planOps] at hL; cases hL
    | (i, k) :: rest, hL, hp =>
      obtain ⟨oi, hoi, hni⟩ := planB_head hp
      simp only [planOps, hni] at hL
      injection hL with hL1 hL2
      injection hL1 with hL3 hL4
      subst hL3
      subst hL4
      obtain ⟨hr, hrest⟩ := planB_s hp
      refine ⟨fun h0 => absurd (hr.symm.trans h0) (by simp), fun j hj a w s => ?_⟩
      rw [hr] at hj
      obtain rfl := List.mem_singleton.1 hj
      unfold wpOp
      simp only [hoi]
      rw [if_neg (by simp [hw a s.env]), hd]
      refine ⟨_, s.put hn, Gr_St, ?_, ih hwk rest _ hL2 (fun x hx => hmem x (List.Mem.tail _ hx)) hrest (hdc.step (by rw [hr]; exact List.Mem.head _)) (hwt.elim fun _ h => ⟨_, wait_tail h⟩) (cov_step hcov)⟩
      cases hb : brks all j
      · exact fun a w s => ⟨w, s.weak (sub_push hl), fun _ => wkG_refl m w0 w⟩
      · exact fun a w s => ⟨w, s.weak (sub_push hl), fun h => by cases h⟩
  · intro o br rest' E H F ι Ei Hi Fi hs hx ih hk
    intro hwk plan listed hL hmem hp hdc hwt hcov
    match plan, hL, hp with
    | [], hL, _ => simp only [planOps] at hL; cases hL
    | (i, k) :: rest, hL, hp =>
      obtain ⟨oi, hoi, hni⟩ := planB_head hp
      simp only [planOps, hni] at hL
      injection hL with hL1 hL2
      injection hL1 with hL3 hL4
      subst hL3
      subst hL4
      obtain ⟨hr, hrest⟩ := planB_s hp
      refine ⟨fun h0 => absurd (hr.symm.trans h0) (by simp), fun j hj a w s => ?_⟩
      rw [hr] at hj
      obtain rfl := List.mem_singleton.1 hj
      unfold wpOp
      simp only [hoi]
      rw [if_pos (hs.1 a s.env)]
      refine .inl (hs.2 a w s Q _ fun k a' w' _ s' => ⟨_, s', Gr_St, ?_, ih k (hk k) rest _ hL2 (fun x hx => hmem x (List.Mem.tail _ hx)) hrest (hdc.step (by rw [hr]; exact List.Mem.head _)) (hwt.elim fun _ h => ⟨_, wait_tail h⟩) (cov_step hcov)⟩)
      have hxk := hx k
      cases hbr : br
      · rw [hbr] at hxk
        simp only [Bool.false_eq_true, if_false] at hxk
        have h1 : ∀ a2 w2, St (Ei k) n (Hi k) (Fi k) w0 a2 w2 → ∃ w1, St E n H F w0 a2 w1 ∧ wkG m w0 w1 w2 := fun a2 w2 s2 => by
          have s3 := hxk a2 w2 s2
          cases m with
          | none => exact ⟨w2, s3, rfl⟩
          | some K => exact ⟨w, ⟨s3.env, s.hp, s.fact, s.sep, s.low⟩, fun _ => s3.wp⟩
        exact fun a2 w2 s2 => (h1 a2 w2 s2).imp fun _ h => ⟨h.1, fun _ => h.2⟩
      · rw [hbr] at hxk
        simp only [if_true] at hxk
        have hb : brks all j = true := by
          unfold brks
          exact List.any_eq_true.2 ⟨(j, .s br), hmem _ (List.Mem.head _), by simp [hbr]⟩
        rw [hb]
        exact fun a2 w2 s2 => ⟨w, ⟨s2.env.weak hxk, s.hp, s.fact, s.sep, s.low⟩, fun h => by cases h⟩
theorem WDm.split {m : Option Hp} {fin : Option Nat} {l : List (Oper × K4)} {t : Nat} {b : Bool} (hl : look E t = some (.bool b)) (h : ∀ r, b = r → WDm m fin P ops Q n w0 l ((t, .bool r) :: E) H F) : WDm m fin P ops Q n w0 l E H F := WDm.known hl rfl (h b rfl)
theorem WC.drawf {id : Nat} {l : List Oper} (m : Option Hp) (fin : Option Nat) (plan : List (Nat × K4)) (hwk : ∀ w, Wp w0 H F w → Wp w0 (wkH m H) (wkF m F) w) (hm : P.follows .mixedOrders = true) (hp : planOkF l fin plan = true)
    (h : WDm m fin P l.toArray (fun e a w => e = .normal ∧ Q e a w) n w0 (planOps l plan) E H F) : WC P (.region id l.toArray true) Q E n H F w0 := fun a w s => by
  unfold planOkF at hp
  simp only [Bool.and_eq_true] at hp
  obtain ⟨⟨⟨hlen, hsel⟩, hw⟩, hfin, hpl⟩ := hp
  have hA := WDm.sound hsel hfin (fun c a w h => by cases h.1) h hwk plan _ rfl (fun _ h => h) hpl (fun j o ho hk => by exfalso; simp [Array.getElem?_replicate] at hk; split at hk <;> simp at hk) ⟨[], hw⟩ (fun y hy => .inr hy)
  have hl := Nat.eq_of_beq_eq_true hlen
  refine Code.wp_mono (fun e a w h => h.2) (wp_region_any (Q := fun e a w => e = .normal ∧ Q e a w) hm ?_)
  have s' : St E n H F w0 a w.drew := s.grow ((Below.refl _ _).drew)
  have hs := Ax.sound _ _ _ a w.drew hA s'
  rw [hl] at hs
  simpa using hs
theorem WC.drawm {id : Nat} {l : List Oper} (m : Option Hp) (plan : List (Nat × K4)) (hwk : ∀ w, Wp w0 H F w → Wp w0 (wkH m H) (wkF m F) w) (hm : P.follows .mixedOrders = true) (hp : planOk l plan = true)
    (h : WDm m none P l.toArray (fun e a w => e = .normal ∧ Q e a w) n w0 (planOps l plan) E H F) : WC P (.region id l.toArray true) Q E n H F w0 := WC.drawf m none plan hwk hm hp h
/-- A drawn region: the operations in the order of 'plan'. -/
theorem WC.draw {id : Nat} {l : List Oper} (plan : List (Nat × K4)) (hm : P.follows .mixedOrders = true) (hp : planOk l plan = true)
    (h : WD P l.toArray (fun e a w => e = .normal ∧ Q e a w) n w0 (planOps l plan) E H F) : WC P (.region id l.toArray true) Q E n H F w0 :=
  WC.drawm none plan (fun _ h => h) hm hp h
theorem Wp.tail {x : Nat × List Value × TypeId} {w : World} (h : Wp w0 (x :: H) F w) : Wp w0 H SF.top w :=
  ⟨⟨fun y hy => h.1.blk y (List.Mem.tail _ hy), (List.pairwise_cons.1 h.1.nd).2⟩, trivial, fun _ _ h => h, h.2.2.2⟩
theorem ext_tail {x : Nat × List Value × TypeId} : if false = true then sub E E else ∀ a w, St E n (x :: H) F w0 a w → St E n H SF.top w0 a w := by
  simp only [Bool.false_eq_true, if_false]
  exact fun a w s => have h := Wp.tail s.wp; ⟨s.env, h.1, h.2.1, h.2.2.1, h.2.2.2⟩
theorem QS.known {imp : Bool} {o : Oper} {d t : Nat} {v : Value} {b r : Bool} (hl : look E t = some (.bool b)) (hr : b = r) (h : QS P ops imp o d v ((t, .bool r) :: E) n H F w0) : QS P ops imp o d v E n H F w0 := fun a w s Q K hK => by
  refine h a w ?_ Q K hK
  cases imp
  · obtain ⟨w1, s⟩ := s; exact ⟨w1, s.known hl hr⟩
  · exact s.known hl hr
theorem off_F {o : Oper} {g dg : Nat} {b c : Bool} (hg : o.guard = some (g, b)) (hd : (ops[g]?).bind (·.dst) = some dg) (hb : look E dg = some (.bool c)) (hne : (c == b) = false) : ∀ a, EnvOf E n a → Region.wanted o (yielded ops a.tmps) = false := fun a s => by
  have hy : yielded ops a.tmps g = some c := by simp [yielded, hd, s.at_ _ _ hb]
  cases c <;> cases b <;> simp_all [Region.wanted]
theorem off_U {o : Oper} {g dg : Nat} {b : Bool} (hg : o.guard = some (g, b)) (hd : (ops[g]?).bind (·.dst) = some dg) (hb : look E dg = some undef) : ∀ a, EnvOf E n a → Region.wanted o (yielded ops a.tmps) = false := fun a s => by
  have hy : yielded ops a.tmps g = none := by simp [yielded, hd, s.at_ _ _ hb, undef]
  simp [Region.wanted, hg, hy]
theorem sub_refl (E : Env) : sub E E := fun _ _ h => h
theorem ext_call {d : Nat} {v : Value} (hl : look E d = none) : if false = true then sub E ((d, v) :: E) else ∀ a w, St ((d, v) :: E) n H F w0 a w → St E n H F w0 a w := by
  simp only [Bool.false_eq_true, if_false]
  exact fun a w s => s.weak (sub_push hl)
theorem ext_callF {d : Nat} {v : Value} {G : SF} (hl : look E d = none) : if false = true then sub E ((d, v) :: E) else ∀ a w, St ((d, v) :: E) n H (F.and G) w0 a w → St E n H F w0 a w := by
  simp only [Bool.false_eq_true, if_false]
  exact fun a w s => ⟨s.env.weak (sub_push hl), s.hp, s.fact.1, fun x hx h => s.sep x hx (.inl h), s.low⟩
theorem ext_new {d : Nat} {v : Value} {x : Nat × List Value × TypeId} (hl : look E d = none) : if false = true then sub E ((d, v) :: E) else ∀ a w, St ((d, v) :: E) n (x :: H) F w0 a w → St E n H F w0 a w := by
  simp only [Bool.false_eq_true, if_false]
  exact fun a w s => ⟨s.env.weak (sub_push hl), ⟨fun y hy => s.hp.blk y (List.Mem.tail _ hy), (List.pairwise_cons.1 s.hp.nd).2⟩, s.fact, fun y hy h => s.sep y (List.Mem.tail _ hy) h, s.low⟩
end
end Go.Proofs.Ytdbcimadjmdffaa
