/- Panics, deferred closures, recover; strings of bytes: in the logic of Sx. No condition. -/
import Derived.Test.YtmfjhacgpopijaaWi
import Derived.Recover
import Derived.WalkSmall
import Derived.Laws.BytesArg
import Derived.Laws.Strings3
import Derived.Laws.Concat
set_option linter.unusedVariables false
set_option linter.unusedSimpArgs false
set_option linter.unusedSectionVars false
namespace Go.Proofs.Ytmfjhacgpopijaa
open Go.RowKit
section
variable [Inhabited DSx] {P : Program} {ops : Array Oper} {Q : Exit → Act → World → Prop} {rest : List Oper} {E : Env} {n : Nat} {H : Hp} {F G : SF} {w0 : World}
theorem Y.iface {d : Option Nat} {x : Operand} {T T' : TypeId} {p : String} {af : Array Edge} {v : Value} (hT : ∀ w, (Instr.makeInterface T v).run P w = .ok (.iface T v) w) (hx : ev E x = some v) : Yp P E n ⟨d, .makeInterface T x, T', p, af, none⟩ (.iface T v) := fun a w s => by
  show (do let u ← Instr.makeInterface T (a.eval x); pure (Next.value u)).run P w = _
  rw [s.eval hx, Sem.run_bind, hT w]
  rfl
theorem Y.makeFunc {d : Option Nat} {fn : Fn} {xs ys : Array Operand} {T' : TypeId} {p : String} {af : Array Edge} {vs us : List Value} (hx : evs E xs.toList = some vs) (hy : evs E ys.toList = some us) : Yp P E n ⟨d, .makeFunc fn xs ys, T', p, af, none⟩ (.func fn vs.toArray us.toArray) := fun a w s => by
  have h1 : xs.map a.eval = vs.toArray := by
    apply Array.toList_inj.1
    simpa using s.evals _ _ hx
  have h2 : ys.map a.eval = us.toArray := by
    apply Array.toList_inj.1
    simpa using s.evals _ _ hy
  show (do let u ← Instr.makeFunc fn (xs.map a.eval) (ys.map a.eval); pure (Next.value u)).run P w = _
  rw [h1, h2]
  rfl
/-- The text's own panic. -/
theorem WL.panic {d : Option Nat} {x : Operand} {T T2 : TypeId} {p : String} {af : Array Edge} {v : Value} (hx : ev E x = some (.iface T2 v)) (h : WQ Q (.panic [{ v := .iface T2 v, recovered := false }]) E n H F w0) :
    WL P ops Q (⟨d, .panic x, T, p, af, none⟩ :: rest) E n H F w0 := fun a w s =>
  wpList_plain rfl fun K hK => by
    have h1 : (execOp a.eval ⟨d, .panic x, T, p, af, none⟩).run P w = .halt (.panic (.iface T2 v)) w := by
      show (do let u ← Instr.panic (a.eval x); return (Next.value u)).run P w = _
      rw [s.env.eval hx, Sem.run_bind, run_panic_iface]
      rfl
    unfold Oper.wp
    rw [h1, Oper.upon_panic]
    exact h a w s
/-- A call that turns memory, and may panic. -/
theorem WL.callP {ι κ : Type} {f : FuncId} {args : Array Operand} {ts : Array TypeId} {d : Nat} {T' : TypeId} {p : String} {af : Array Edge} {vs : List Value} (val : ι → Value) (Hi : ι → Hp) (Fi : ι → SF) (ch : κ → List PanicEntry) (Hk : κ → Hp) (Fk : κ → SF)
    (hf : ∀ (args : Array Value) (w : World), (callFunc f args).run P w = .ok (.enter f args) w) (hx : evs E args.toList = some vs)
    (hc : ∀ w, Wp w0 H F w → Calls P f vs.toArray w fun e w' => (∃ i, e = .returned (val i) ∧ Wp w0 (Hi i) (Fi i) w') ∨ (∃ k, e = .panicked (ch k) ∧ Wp w0 (Hk k) (Fk k) w')) (hn : Nat.blt d n = true)
    (hq : ∀ k, WQ Q (.panic (ch k)) E n (Hk k) (Fk k) w0) (h : ∀ i, WL P ops Q rest ((d, val i) :: E) n (Hi i) (Fi i) w0) :
    WL P ops Q (⟨some d, .call { callee := .value (.func f), args := args, argTypes := ts }, T', p, af, none⟩ :: rest) E n H F w0 := fun a w s =>
  wpList_plain rfl fun K hK => by
    unfold Oper.wp
    rw [run_call hf s.env hx, Oper.upon_enter]
    refine (hc w s.wp).mono fun e w' hw => ?_
    rcases hw with ⟨i, rfl, hw⟩ | ⟨k, rfl, hw⟩
    · exact hK _ _ (h i _ _ (St.put ⟨s.env, hw.1, hw.2.1, hw.2.2.1, hw.2.2.2⟩ hn))
    · exact hq k a w' ⟨s.env, hw.1, hw.2.1, hw.2.2.1, hw.2.2.2⟩
theorem WQ.thenPanic {K : Act → World → Prop} {c : List PanicEntry} (h : WQ Q (.panic c) E n H F w0) : WQ (Exit.then K Q) (.panic c) E n H F w0 := fun a w s => h a w s
theorem WQ.blockPanic {id : Nat} {c : List PanicEntry} (h : WQ Q (.panic c) E n H F w0) : WQ (Exit.inBlock id Q) (.panic c) E n H F w0 := fun a w s => h a w s
/-- A panic that leaves the function. -/
theorem WQ.raised {fn : Func} {R : Ending → World → Prop} {c : List PanicEntry} (hd : (default : DSx).ds = []) (hR : ∀ w, Wp w0 H F w → R (.panicked c) w) : WQ (bodyPost P fn R) (.panic c) E n H F w0 := fun a w s =>
  ⟨s.env.defers.trans hd, hR w s.wp⟩
/-! A deferred closure. -/
omit [Inhabited DSx] in
theorem WL.defer [i1 : Inhabited DSx] {f : FuncId} {g : Nat} {T' : TypeId} {p : String} {af : Array Edge} {caps : Array Value} {ts : Array TypeId} (hg : look E g = some (.func (.func f) #[] caps))
    (h : ∀ i2 : Inhabited DSx, (@default DSx i2).ds = { target := .fn (.func f) caps, args := #[] } :: (@default DSx i1).ds → @WL i2 P ops Q rest E n H F w0) :
    @WL i1 P ops Q (⟨none, .defer { callee := .value (.tmp g), args := #[], argTypes := ts }, T', p, af, none⟩ :: rest) E n H F w0 := fun a w s =>
  wpList_plain rfl fun K hK => by
    have h3 : a.eval (.tmp g) = .func (.func f) #[] caps := s.env.eval (x := .tmp g) hg
    have h1 : (execOp a.eval ⟨none, .defer { callee := .value (.tmp g), args := #[], argTypes := ts }, T', p, af, none⟩).run P w = .ok (.defer { target := .fn (.func f) caps, args := #[] }) w := by
      simp [execOp, resolve, h3, Deferred.ofValue]
    unfold Oper.wp
    rw [h1, Oper.upon_defer]
    refine hK _ _ (h ⟨⟨{ target := .fn (.func f) caps, args := #[] } :: (@default DSx i1).ds⟩⟩ rfl _ _ ?_)
    exact @St.mk ⟨⟨{ target := .fn (.func f) caps, args := #[] } :: (@default DSx i1).ds⟩⟩ _ _ _ _ _ _ _ (@EnvOf.mk ⟨⟨{ target := .fn (.func f) caps, args := #[] } :: (@default DSx i1).ds⟩⟩ _ _ _ s.env.size s.env.at_ (by show _ :: a.defers = _; rw [s.env.defers]; rfl)) s.hp s.fact s.sep s.low
end
section
variable {P : Program} {Q : Exit → Act → World → Prop} {E : Env} {n : Nat} {H : Hp} {F G : SF} {w0 : World}
theorem enterD {f : FuncId} {fn : Func} {c : Code} {vs : List Value} {w : World} {R : Ending → World → Prop} (hf : P.funcs[f]? = some fn) (hb : fn.body = some c) (hn : fn.ntmps = n) (hl : Nat.ble vs.length n = true) (hw : Wp w0 H F w)
    (h : WC P c (bodyPostD P fn R) (ents 0 vs) n H F w0) : Calls P f vs.toArray w R := by
  refine calls_of_wp_defers hf hb (h _ _ ⟨⟨?_, fun t v ht => ?_, rfl⟩, hw.1, hw.2.1, hw.2.2.1, hw.2.2.2⟩)
  · have := Nat.le_of_ble_eq_true hl
    simp [hn]; omega
  · obtain ⟨j, rfl, hj⟩ := look_ents _ _ _ _ ht
    have hlt : j < vs.length := (List.getElem?_eq_some_iff.1 hj).1
    simp only [Nat.zero_add]
    rw [Array.getElem?_append_left (by simpa using hlt)]
    simpa using hj
end
section
variable [Inhabited DSx] {P : Program} {ops : Array Oper} {Q : Exit → Act → World → Prop} {rest : List Oper} {E : Env} {n : Nat} {H : Hp} {F G : SF} {w0 : World}
/-- What a deferred closure does, in this mode of the frame below. -/
def Shuts (P : Program) (f : FuncId) (args : Array Value) (u u' : FrameMode) (w : World) (R : World → Prop) : Prop := CallsD P f args u w fun e v w' => v = u' ∧ (∃ x, e = .returned x) ∧ R w'
/-- The door, where nothing has been deferred. -/
theorem WQ.door0 {fn : Func} {R : Ending → World → Prop} {rs : List ResultVar} {vs : List Value} {e : Exit} (he : e = .ret ∨ e = .normal) (hds : (default : DSx).ds = []) (hr : fn.results = rs.toArray)
    (h : RVs P E H rs vs) (hR : ∀ w, Wp w0 H F w → R (.returned (packed vs)) w) : WQ (bodyPostD P fn R) e E n H F w0 := fun a w s => by
  have h2 : Leaves P fn a.tmps R a.defers .returning w := by
    rw [s.env.defers, hds]
    exact ⟨_, run_results hr h s, hR w s.wp⟩
  rcases he with rfl | rfl <;> exact h2
/-- The door, by a return. -/
theorem WQ.doorD {fn : Func} {R : Ending → World → Prop} {f : FuncId} {caps : Array Value} {rs : List ResultVar} {vs : List Value} {e : Exit} {H' : Hp} {F' : SF} (he : e = .ret ∨ e = .normal) (hds : (default : DSx).ds = [{ target := .fn (.func f) caps, args := #[] }])
    (ef : ∀ (args : Array Value) (w : World), (callFunc f args).run P w = .ok (.enter f args) w) (hc : ∀ w, Wp w0 H F w → Shuts P f caps .returning .returning w (Wp w0 H' F')) (hr : fn.results = rs.toArray)
    (h : RVs P E H' rs vs) (hR : ∀ w, Wp w0 H' F' w → R (.returned (packed vs)) w) : WQ (bodyPostD P fn R) e E n H F w0 := fun a w s => by
  have h2 : Leaves P fn a.tmps R a.defers .returning w := by
    rw [s.env.defers, hds]
    refine leaves_cons (f := f) (args := caps) (by simp) (by simp [invoke, ef]) ((hc w s.wp).mono fun e v w' hh => ?_)
    obtain ⟨rfl, ⟨x, rfl⟩, hw⟩ := hh
    exact ⟨_, run_results (a := a) hr h ⟨s.env, hw.1, hw.2.1, hw.2.2.1, hw.2.2.2⟩, hR w' hw⟩
  rcases he with rfl | rfl <;> exact h2
/-- The door, by a panic: it is caught. -/
theorem WQ.doorP {fn : Func} {R : Ending → World → Prop} {f : FuncId} {caps : Array Value} {rs : List ResultVar} {vs : List Value} {x : Value} {H' : Hp} {F' : SF} (hds : (default : DSx).ds = [{ target := .fn (.func f) caps, args := #[] }])
    (ef : ∀ (args : Array Value) (w : World), (callFunc f args).run P w = .ok (.enter f args) w) (hc : ∀ w, Wp w0 H F w → Shuts P f caps (.panicking [{ v := x, recovered := false }]) (.panicking [{ v := x, recovered := true }]) w (Wp w0 H' F')) (hr : fn.results = rs.toArray)
    (h : RVs P E H' rs vs) (hR : ∀ w, Wp w0 H' F' w → R (.returned (packed vs)) w) : WQ (bodyPostD P fn R) (.panic [{ v := x, recovered := false }]) E n H F w0 := fun a w s => by
  have h2 : Leaves P fn a.tmps R a.defers (.panicking [{ v := x, recovered := false }]) w := by
    rw [s.env.defers, hds]
    refine leaves_cons (f := f) (args := caps) (by simp) (by simp [invoke, ef]) ((hc w s.wp).mono fun e v w' hh => ?_)
    obtain ⟨rfl, ⟨x, rfl⟩, hw⟩ := hh
    exact ⟨_, run_results (a := a) hr h ⟨s.env, hw.1, hw.2.1, hw.2.2.1, hw.2.2.2⟩, hR w' hw⟩
  exact h2
end
/-! ### Strings of bytes -/
def sv (l : List Int) : Value := .string (strOfNums l)
theorem strOfNums_nil : strOfNums [] = ByteArray.empty := rfl
section
variable {P : Program} {E : Env} {n : Nat} {d : Option Nat} {x y : Operand} {T T' T2 : TypeId} {p : String} {af : Array Edge}
theorem Y.strLen {l : List Int} (hu : P.underlying T2 = some .string) (hx : ev E x = some (sv l)) : Yp P E n ⟨d, .call { callee := .builtin .len, args := #[x], argTypes := #[T2] }, T', p, af, none⟩ (.int .i64 l.length) := fun a w s => by
  simp [execOp, resolve, invoke, builtin, s.eval hx, Builtin.len_, run_underlying hu, goInt, sv, strOfNums_size]
theorem u8_byte {c : Int} (h0 : 0 ≤ c) (h1 : c < 256) : ((UInt8.ofNat c.toNat).toNat : Int) = c := by
  have h2 : c.toNat < 256 := by omega
  simp [Nat.mod_eq_of_lt h2]
  omega
theorem Y.strIx0 {k : IntKind} {c : Int} {l : List Int} (hu : P.underlying T = some .string) (h0 : 0 ≤ c) (h1 : c < 256) (hx : ev E x = some (sv (c :: l))) (hy : ev E y = some (.int k 0)) : Yp P E n ⟨d, .index T x y, T', p, af, none⟩ (.int .u8 c) := fun a w s => by
  have e : (Instr.index T (sv (c :: l)) (.int k 0)).run P w = .ok (.int .u8 c) w := by
    unfold sv
    rw [run_index_string w T _ k 0 hu]
    have hs : (strOfNums (c :: l)).size = l.length + 1 := by rw [strOfNums_size]; rfl
    rw [dif_pos ⟨Int.le_refl 0, by rw [hs]; omega⟩]
    congr 2
    show ((((strOfNums (c :: l)).data)[(0 : Int).toNat]'(by simp [strOfNums])).toNat : Int) = c
    simp only [strOfNums]
    simpa using u8_byte h0 h1
  show (do let u ← Instr.index T (a.eval x) (a.eval y); pure (Next.value u)).run P w = _
  rw [s.eval hx, s.eval hy, Sem.run_bind, e]
  rfl
theorem strOfNums_tail (c : Int) (l : List Int) : (strOfNums (c :: l)).extract 1 (strOfNums (c :: l)).size = strOfNums l := by
  rw [strOfNums_size]
  unfold strOfNums
  rw [ByteArray.extract_mk]
  simp
  rw [List.take_of_length_le (by simp)]
theorem Y.strTail {k : IntKind} {c : Int} {l : List Int} (hu : P.underlying T = some .string) (hx : ev E x = some (sv (c :: l))) (hy : ev E y = some (.int k 1)) : Yp P E n ⟨d, .slice T x (some y) none none, T', p, af, none⟩ (sv l) := fun a w s => by
  have e : (Instr.slice T (sv (c :: l)) (some (.int k 1)) none none).run P w = .ok (sv l) w := by
    unfold sv
    rw [run_slice_string_from_if w T _ k 1 hu, if_pos ⟨by decide, by rw [strOfNums_size]; simp; omega⟩]
    rw [show (1 : Int).toNat = 1 from rfl, strOfNums_tail]
  show (do let u ← Instr.sliceAt T (a.eval x) (some (a.eval y)) none none; pure (Next.value u)).run P w = _
  rw [s.eval hx, s.eval hy, Sem.run_bind]
  have e2 : (Instr.sliceAt T (sv (c :: l)) (some (.int k 1)) none none).run P w = .ok (sv l) w := by
    unfold Instr.sliceAt
    rw [Sem.run_bind, run_underlying hu]
    exact e
  rw [e2]
  rfl
theorem bytes_inj : ∀ {a b : List Int}, Bytes a → Bytes b → (a.map fun n => UInt8.ofNat n.toNat) = (b.map fun n => UInt8.ofNat n.toNat) → a = b
  | [], [], _, _, _ => rfl
  | [], _ :: _, _, _, h => by simp at h
  | _ :: _, [], _, _, h => by simp at h
  | x :: a, y :: b, ha, hb, h => by
    simp only [List.map_cons, List.cons.injEq] at h
    have h1 := ha x (List.mem_cons_self ..)
    have h2 := hb y (List.mem_cons_self ..)
    have h3 : x = y := by
      have e := congrArg (fun u : UInt8 => (u.toNat : Int)) h.1
      simp only [u8_byte h1.1 h1.2, u8_byte h2.1 h2.2] at e
      exact e
    rw [h3, bytes_inj (fun z hz => ha z (List.mem_cons_of_mem _ hz)) (fun z hz => hb z (List.mem_cons_of_mem _ hz)) h.2]
theorem strOfNums_list (l : List Int) : (strOfNums l).toList = l.map fun n => UInt8.ofNat n.toNat := by
  unfold strOfNums
  rw [ByteArray.toList_mk]
theorem str_eq {a b : List Int} (ha : Bytes a) (hb : Bytes b) : ((strOfNums a).toList == (strOfNums b).toList) = decide (a = b) := by
  rw [strOfNums_list, strOfNums_list]
  by_cases h : a = b
  · subst h; simp
  · have : ¬ (a.map fun n => UInt8.ofNat n.toNat) = (b.map fun n => UInt8.ofNat n.toNat) := fun e => h (bytes_inj ha hb e)
    simp [h, this]
/-- What a string holds. -/
theorem str_nums (s : ByteArray) : ∃ l, Bytes l ∧ s = strOfNums l := by
  refine ⟨s.data.toList.map fun u => (u.toNat : Int), fun x hx => ?_, ?_⟩
  · obtain ⟨u, _, rfl⟩ := List.mem_map.1 hx
    have := u.toNat_lt
    omega
  · obtain ⟨a⟩ := s
    unfold strOfNums
    simp [Function.comp_def]
end
end Go.Proofs.Ytmfjhacgpopijaa
