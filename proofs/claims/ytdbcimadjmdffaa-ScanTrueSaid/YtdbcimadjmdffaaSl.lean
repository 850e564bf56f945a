/- A range over a function, in the logic of Sx: the statement; a round; a function that holds such a loop. No condition. -/
import Derived.Test.YtdbcimadjmdffaaSr
import Derived.RangeFuncRecord
set_option linter.unusedVariables false
set_option linter.unusedSimpArgs false
set_option linter.unusedSectionVars false
namespace Go.Proofs.Ytdbcimadjmdffaa
open Go.RowKit
/-- Block b, the call's own, is this object. -/
def SF.obj (base b : Nat) (o : Obj) : SF := ⟨fun w => base ≤ b ∧ w.heap[b]? = some o, fun _ k => k = b, fun w k h e => by subst e; exact blk_lt h.2, fun w w' h k => ⟨⟨h.1, (k b rfl).trans h.2⟩, fun _ e => e⟩⟩
/-- A loop's record. -/
def recO (st : LoopState) (pend : Option Code) (fn : FuncId) (tmps : Array Value) (ps : Array Tmp) (assign body : Code) (D : Nat) : Loop := { state := st, pending := pend, fn := fn, tmps := tmps, params := ps, assign := assign, body := body, defers := D }
section
variable {P : Program} {E : Env} {n : Nat} {H : Hp} {F G : SF} {u : World}
theorem put_obj_far {w : World} {r k : Nat} {o : Obj} (h : k ≠ r) : (w.putObj r o).heap[k]? = w.heap[k]? := World.putObj_heap_other h
theorem Wp.setObj {w : World} {b : Nat} {o : Obj} (o' : Obj) (h : Wp u H ((SF.obj u.heap.size b o).sep F) w) : Wp u H ((SF.obj u.heap.size b o').sep F) (w.putObj b o') := by
  obtain ⟨hp, ⟨⟨hb, ho⟩, hF, hd⟩, hs, hl⟩ := h
  have hne : ∀ x ∈ H, x.1 ≠ b := fun x hx e => hs x hx (.inl e)
  have hf := F.st w (w.putObj b o') hF fun k hk => put_obj_far fun e => hd b rfl (by rw [← e]; exact hk)
  refine ⟨⟨fun x hx => ⟨(put_obj_far (hne x hx)).trans (hp.blk x hx).1, (hp.blk x hx).2⟩, hp.nd⟩, ⟨⟨hb, World.putObj_heap_same (blk_lt ho)⟩, hf.1, fun k e hk => hd k e (hf.2 k hk)⟩, fun x hx hk => ?_, ⟨hl.os, hl.tape, hl.output, by rw [World.putObj_size]; exact hl.size, fun k hk => (put_obj_far (by omega)).trans (hl.block k hk)⟩⟩
  rcases hk with e | hk
  · exact hne x hx e
  · exact hs x hx (.inr (hf.2 _ hk))
theorem Wp.newObj {w : World} (o : Obj) (h : Wp u H F w) : Wp u H ((SF.obj u.heap.size w.heap.size o).sep F) (w.alloc o) := by
  obtain ⟨hp, hF, hs, hl⟩ := h
  have hb : Below w.heap.size w (w.alloc o) := (Below.refl _ _).alloc (Nat.le_refl _) _
  have hf := F.st w (w.alloc o) hF fun k hk => hb.block k (F.lt w k hF hk)
  refine ⟨⟨fun x hx => ⟨below_get' hb (hp.blk x hx).1, (hp.blk x hx).2⟩, hp.nd⟩, ⟨⟨hl.size, alloc_new w o⟩, hf.1, fun k e hk => ?_⟩, fun x hx hk => ?_, below_trans hl hb⟩
  · have h1 := F.lt w k hF (hf.2 k hk)
    rw [show k = w.heap.size from e] at h1
    exact absurd h1 (Nat.lt_irrefl _)
  · rcases hk with e | hk
    · have h1 := hp.lt hx
      rw [show x.1 = w.heap.size from e] at h1
      exact absurd h1 (Nat.lt_irrefl _)
    · exact hs x hx (hf.2 _ hk)
end
/-- A call of yield, with x, in this world. -/
def YieldsAt (P : Program) (l : Nat) (x : Value) (W : World) (R : Ending → World → Prop) : Prop :=
  ∃ fn tmps assign body, (Instr.yield l #[x]).run P W = .ok (.round l fn tmps assign body) W ∧ RoundIn Fence.wide 0 P l fn tmps assign body W R
section
variable {P : Program} {E E1 : Env} {n : Nat} {H : Hp} {F G : SF} {u : World}
/-- One round: the assignment, the body. -/
theorem round_at {l D t : Nat} (d : Nat) {fn : FuncId} {tmps : Array Value} {assign body : Code} {x : Value} {W : World} {RR : Ending → World → Prop} (hW : Wp u H ((SF.obj u.heap.size l (.loop (recO .ready none fn tmps #[t] assign body D))).sep F) W)
    (hE : ∀ t v, look E t = some v → tmps[t]? = some v) (hn : tmps.size = n) (ht : Nat.blt t n = true)
    (hA : ∀ (i0 : Inhabited DSx) (iR : Inhabited Rdx), (@default DSx i0).ds = [] → R.WC P assign (fun e a w => e = .normal ∧ St ((d, x) :: (t, x) :: E) n H ((SF.obj u.heap.size l (.loop (recO .ready none fn tmps #[t] assign body D))).sep F) u a w) ((t, x) :: E) n H ((SF.obj u.heap.size l (.loop (recO .ready none fn tmps #[t] assign body D))).sep F) u)
    (hB : ∀ (i0 : Inhabited DSx) (iR : Inhabited Rdx), (@default DSx i0).ds = [] → R.WC P body (roundPost P l RR) ((d, x) :: (t, x) :: E) n H ((SF.obj u.heap.size l (.loop (recO .busy none fn tmps #[t] assign body D))).sep F) u) : YieldsAt P l x W RR := by
  have hl := hW.2.1.1.2
  have htn : t < n := by simpa [Nat.blt_eq] using ht
  refine ⟨fn, tmps.setIfInBounds t x, assign, body, (run_yield (args := #[x]) hl rfl).trans (by simp [recO]), ?_⟩
  let i0 : Inhabited DSx := ⟨⟨[]⟩⟩
  let iR : Inhabited Rdx := ⟨⟨some l⟩⟩
  have s0 : St ((t, x) :: E) n H ((SF.obj u.heap.size l (.loop (recO .ready none fn tmps #[t] assign body D))).sep F) u ({ tmps := tmps.setIfInBounds t x, defers := [] } : Act) W := by
    refine ⟨⟨by simp [hn], fun k v hk => ?_, rfl⟩, hW.1, hW.2.1, hW.2.2.1, hW.2.2.2⟩
    rw [look_cons] at hk
    split at hk
    · rename_i e
      subst e
      obtain rfl := Option.some.inj hk
      show (tmps.setIfInBounds t x)[t]? = some x
      simp [hn, htn]
    · rename_i e
      show (tmps.setIfInBounds t x)[k]? = some v
      rw [Array.getElem?_setIfInBounds_ne e]
      exact hE k v hk
  have h1 := hA i0 iR rfl _ _ s0
  refine roundIn_of_wpIn trivial (Go.wpIn_mono (F := Fence.wide.inRound l) (n := 0) h1 fun e a w h => ?_)
  obtain ⟨rfl, s1⟩ := h
  have hl1 := s1.fact.1.2
  refine ⟨_, run_beginRound hl1 rfl, ?_⟩
  have hw2 := s1.wp.setObj (.loop (recO .busy none fn tmps #[t] assign body D))
  exact hB i0 iR rfl a _ ⟨s1.env, hw2.1, hw2.2.1, hw2.2.2.1, hw2.2.2.2⟩
section
variable [Inhabited DSx]
theorem WQ.again {l D : Nat} {fn : FuncId} {tmps : Array Value} {ps : Array Tmp} {assign body : Code} {R : Ending → World → Prop}
    (h : ∀ w, Wp u H ((SF.obj u.heap.size l (.loop (recO .ready none fn tmps ps assign body D))).sep F) w → R (.returned (.bool true)) w) : WQ (roundPost P l R) .normal E n H ((SF.obj u.heap.size l (.loop (recO .busy none fn tmps ps assign body D))).sep F) u := fun a w s =>
  ⟨_, _, run_endRound none s.fact.1.2, h _ (s.wp.setObj _)⟩
theorem WQ.leave {l D : Nat} {fn : FuncId} {tmps : Array Value} {ps : Array Tmp} {assign body : Code} {R : Ending → World → Prop}
    (h : ∀ w, Wp u H ((SF.obj u.heap.size l (.loop (recO .done (some .ret) fn tmps ps assign body D))).sep F) w → R (.returned (.bool false)) w) : WQ (roundPost P l R) .ret E n H ((SF.obj u.heap.size l (.loop (recO .busy none fn tmps ps assign body D))).sep F) u := fun a w s =>
  ⟨_, _, run_endRound (some .ret) s.fact.1.2, h _ (s.wp.setObj _)⟩
/-- The mark that a loop puts on the activation. -/
def mark (D : Nat) : Deferred := { target := .collected D, args := #[] }
variable {Q : Exit → Act → World → Prop}
omit [Inhabited DSx] in
/-- **THE STATEMENT.** hc: the iterator's contract: all has come, the loop's record ready; or a round has left by a return. -/
theorem WC.rangeFunc [i1 : Inhabited DSx] {g : Operand} {t : Nat} {assign body : Code} {f : FuncId} {caps : Array Value} {ι κ : Type} (Hi : ι → Hp) (Fi : ι → SF) (Hx : κ → Hp) (Fx : κ → SF) (hg : ev E g = some (.func (.func f) #[] caps))
    (ef : ∀ args w, (callFunc f args).run P w = .ok (.enter f args) w)
    (hc : ∀ (fn : FuncId) (tmps : Array Value) (D : Nat) (W : World), (∀ t v, look E t = some v → tmps[t]? = some v) → tmps.size = n →
      Wp u H ((SF.obj u.heap.size (D + 1) (.loop (recO .ready none fn tmps #[t] assign body D))).sep ((SF.obj u.heap.size D (.deferred (some []))).sep F)) W →
      Calls P f (#[.func (.yield (D + 1)) #[] #[]] ++ caps) W fun e w' => (∃ v, e = .returned v) ∧
        ((∃ i, Wp u (Hi i) ((SF.obj u.heap.size (D + 1) (.loop (recO .ready none fn tmps #[t] assign body D))).sep ((SF.obj u.heap.size D (.deferred (some []))).sep (Fi i))) w') ∨
         (∃ k, Wp u (Hx k) ((SF.obj u.heap.size (D + 1) (.loop (recO .done (some .ret) fn tmps #[t] assign body D))).sep ((SF.obj u.heap.size D (.deferred (some []))).sep (Fx k))) w')))
    (hdone : ∀ (D : Nat) (i2 : Inhabited DSx), (@default DSx i2).ds = mark D :: (@default DSx i1).ds → ∀ i, @WQ i2 Q .normal E n (Hi i) ((SF.obj u.heap.size D (.deferred (some []))).sep (Fi i)) u)
    (hret : ∀ (D : Nat) (i2 : Inhabited DSx), (@default DSx i2).ds = mark D :: (@default DSx i1).ds → ∀ k, @WQ i2 Q .ret E n (Hx k) ((SF.obj u.heap.size D (.deferred (some []))).sep (Fx k)) u) :
    WC P (.rangeFunc g #[t] assign body) Q E n H F u := fun a w s => by
  refine (wpIn_wide (n := 0)).1 (wpIn_rangeFunc fun fn _ => ?_)
  obtain ⟨W1, hW1⟩ : ∃ W1, (w.alloc (.deferred (some []))).alloc (.loop (recO .ready none fn a.tmps #[t] assign body w.heap.size)) = W1 := ⟨_, rfl⟩
  have hg' := s.env.eval hg
  refine ⟨w.heap.size + 1, [mark w.heap.size], W1, { target := .fn (.func f) caps, args := #[.func (.yield (w.heap.size + 1)) #[] #[]] }, W1, f, #[.func (.yield (w.heap.size + 1)) #[] #[]] ++ caps, W1, ?_, ?_, fun _ _ => trivial, ?_, fun h => absurd h (by simp [Fence.wide]), ?_⟩
  · rw [← hW1]; exact run_enterLoop_outer _ _ _ _ _
  · simp only [resolve, hg']
    simp [go_sem]
  · simp [invoke, go_sem, ef]
  · have w1 := s.wp.newObj (.deferred (some []))
    have w2 := w1.newObj (.loop (recO .ready none fn a.tmps #[t] assign body w.heap.size))
    rw [World.size_alloc, hW1] at w2
    refine callsIn_wide.2 ((hc fn a.tmps w.heap.size W1 s.env.at_ s.env.size w2).mono fun e w' h => ?_)
    obtain ⟨⟨v, rfl⟩, h⟩ := h
    have fin : ∀ {H' : Hp} {F' : SF} {st : LoopState} {pe : Option Code}, Wp u H' ((SF.obj u.heap.size (w.heap.size + 1) (.loop (recO st pe fn a.tmps #[t] assign body w.heap.size))).sep ((SF.obj u.heap.size w.heap.size (.deferred (some []))).sep F')) w' →
        @St ⟨⟨mark w.heap.size :: (@default DSx i1).ds⟩⟩ E n H' ((SF.obj u.heap.size w.heap.size (.deferred (some []))).sep F') u { a with defers := [mark w.heap.size] ++ a.defers } (w'.putObj (w.heap.size + 1) (.loop (recO .exhausted pe fn a.tmps #[t] assign body w.heap.size))) := fun {H' F' st pe} h => by
      have h2 := (h.setObj (.loop (recO .exhausted pe fn a.tmps #[t] assign body w.heap.size))).le (SF.sep_snd _ _)
      exact @St.mk ⟨⟨mark w.heap.size :: (@default DSx i1).ds⟩⟩ _ _ _ _ _ _ _ (@EnvOf.mk ⟨⟨mark w.heap.size :: (@default DSx i1).ds⟩⟩ _ _ _ s.env.size s.env.at_ (by show [mark w.heap.size] ++ a.defers = _; rw [s.env.defers]; rfl)) h2.1 h2.2.1 h2.2.2.1 h2.2.2.2
    rcases h with ⟨i, h⟩ | ⟨k, h⟩
    · exact ⟨_, _, run_endLoop h.2.1.1.2 (by simp [recO]), hdone w.heap.size ⟨⟨mark w.heap.size :: (@default DSx i1).ds⟩⟩ rfl i _ _ (fin h)⟩
    · exact ⟨_, _, run_endLoop h.2.1.1.2 (by simp [recO]), wpIn_ret (hret w.heap.size ⟨⟨mark w.heap.size :: (@default DSx i1).ds⟩⟩ rfl k _ _ (fin h))⟩
omit [Inhabited DSx] in
/-- .. the code under names of its own. -/
theorem WC.rangeFuncC [i1 : Inhabited DSx] {g : Operand} {t : Nat} {assign body : Code} {f : FuncId} {caps : Array Value} {ι κ : Type} (Hi : ι → Hp) (Fi : ι → SF) (Hx : κ → Hp) (Fx : κ → SF) (hg : ev E g = some (.func (.func f) #[] caps))
    (ef : ∀ args w, (callFunc f args).run P w = .ok (.enter f args) w)
    (hc : ∀ (cA cB : Code), cA = assign → cB = body → ∀ (fn : FuncId) (tmps : Array Value) (D : Nat) (W : World), (∀ t v, look E t = some v → tmps[t]? = some v) → tmps.size = n →
      Wp u H ((SF.obj u.heap.size (D + 1) (.loop (recO .ready none fn tmps #[t] cA cB D))).sep ((SF.obj u.heap.size D (.deferred (some []))).sep F)) W →
      Calls P f (#[.func (.yield (D + 1)) #[] #[]] ++ caps) W fun e w' => (∃ v, e = .returned v) ∧
        ((∃ i, Wp u (Hi i) ((SF.obj u.heap.size (D + 1) (.loop (recO .ready none fn tmps #[t] cA cB D))).sep ((SF.obj u.heap.size D (.deferred (some []))).sep (Fi i))) w') ∨
         (∃ k, Wp u (Hx k) ((SF.obj u.heap.size (D + 1) (.loop (recO .done (some .ret) fn tmps #[t] cA cB D))).sep ((SF.obj u.heap.size D (.deferred (some []))).sep (Fx k))) w')))
    (hdone : ∀ (D : Nat) (i2 : Inhabited DSx), (@default DSx i2).ds = mark D :: (@default DSx i1).ds → ∀ i, @WQ i2 Q .normal E n (Hi i) ((SF.obj u.heap.size D (.deferred (some []))).sep (Fi i)) u)
    (hret : ∀ (D : Nat) (i2 : Inhabited DSx), (@default DSx i2).ds = mark D :: (@default DSx i1).ds → ∀ k, @WQ i2 Q .ret E n (Hx k) ((SF.obj u.heap.size D (.deferred (some []))).sep (Fx k)) u) :
    WC P (.rangeFunc g #[t] assign body) Q E n H F u :=
  WC.rangeFunc Hi Fi Hx Fx hg ef (fun fn tmps D W hE hn hW => hc assign body rfl rfl fn tmps D W hE hn hW) hdone hret
end
/-! ### A function that holds such loops -/
theorem enterM {f : FuncId} {fn : Func} {c : Code} {vs : List Value} {w : World} {R : Ending → World → Prop} (hf : P.funcs[f]? = some fn) (hb : fn.body = some c) (hn : fn.ntmps = n) (hl : Nat.ble vs.length n = true) (hw : Wp u H F w)
    (h : WC P c (bodyPostM Fence.wide 0 P fn R) (ents 0 vs) n H F u) : Calls P f vs.toArray w R := by
  refine (callsIn_wide (n := 0)).1 (callsIn_of_wp_marks hf hb trivial (wpIn_wide.2 (h _ _ ⟨⟨?_, fun t v ht => ?_, rfl⟩, hw.1, hw.2.1, hw.2.2.1, hw.2.2.2⟩)) rfl)
  · have := Nat.le_of_ble_eq_true hl
    simp [hn]; omega
  · obtain ⟨j, rfl, hj⟩ := look_ents _ _ _ _ ht
    have hlt : j < vs.length := (List.getElem?_eq_some_iff.1 hj).1
    simp only [Nat.zero_add]
    rw [Array.getElem?_append_left (by simpa using hlt)]
    simpa using hj
theorem enterR {f : FuncId} {fn : Func} {c : Code} {vs : List Value} {w : World} {RR : Ending → World → Prop} (hf : P.funcs[f]? = some fn) (hb : fn.body = some c) (hn : fn.ntmps = n) (hl : Nat.ble vs.length n = true) (hw : Wp u H F w)
    (h : ∀ (iR : Inhabited Rdx), (@default Rdx iR).r = none → R.WC P c (bodyPostM Fence.wide 0 P fn RR) (ents 0 vs) n H F u) : Calls P f vs.toArray w RR := by
  refine (callsIn_wide (n := 0)).1 (callsIn_of_wp_marks hf hb trivial (h ⟨⟨none⟩⟩ rfl _ _ ⟨⟨?_, fun t v ht => ?_, rfl⟩, hw.1, hw.2.1, hw.2.2.1, hw.2.2.2⟩) rfl)
  · have := Nat.le_of_ble_eq_true hl
    simp [hn]; omega
  · obtain ⟨j, rfl, hj⟩ := look_ents _ _ _ _ ht
    have hlt : j < vs.length := (List.getElem?_eq_some_iff.1 hj).1
    simp only [Nat.zero_add]
    rw [Array.getElem?_append_left (by simpa using hlt)]
    simpa using hj
section
variable [Inhabited DSx] {fn : Func} {R : Ending → World → Prop} {rs : List ResultVar} {vs : List Value}
theorem doneM0 {e : Exit} (he : e = .ret ∨ e = .normal) (hds : (default : DSx).ds = []) (hr : fn.results = rs.toArray) (h : RVs P E H rs vs) (hR : ∀ w, Wp u H F w → R (.returned (packed vs)) w) : WQ (bodyPostM Fence.wide 0 P fn R) e E n H F u := fun a w s => by
  have h2 : LeavesInM Fence.wide 0 P fn a.tmps R a.defers .returning w := by
    rw [s.env.defers, hds]
    exact ⟨_, run_results hr h s, hR w s.wp⟩
  rcases he with rfl | rfl <;> exact h2
theorem doneM1 {e : Exit} {D : Nat} (he : e = .ret ∨ e = .normal) (hds : (default : DSx).ds = [mark D]) (hr : fn.results = rs.toArray) (h : RVs P E H rs vs) (hR : ∀ w, Wp u H F w → R (.returned (packed vs)) w) :
    WQ (bodyPostM Fence.wide 0 P fn R) e E n H ((SF.obj u.heap.size D (.deferred (some []))).sep F) u := fun a w s => by
  have h2 : LeavesInM Fence.wide 0 P fn a.tmps R a.defers .returning w := by
    rw [s.env.defers, hds]
    have hw := s.wp.setObj (.deferred none)
    refine ⟨by simp, .inl ⟨D, _, rfl, run_takeDeferred s.fact.1.2, _, run_results (a := a) (F := _) hr h ⟨s.env, hw.1, hw.2.1, hw.2.2.1, hw.2.2.2⟩, hR _ (hw.le (SF.sep_snd _ _))⟩⟩
  rcases he with rfl | rfl <;> exact h2
theorem doneM2 {e : Exit} {D D' : Nat} (he : e = .ret ∨ e = .normal) (hds : (default : DSx).ds = [mark D', mark D]) (hr : fn.results = rs.toArray) (h : RVs P E H rs vs) (hR : ∀ w, Wp u H F w → R (.returned (packed vs)) w) :
    WQ (bodyPostM Fence.wide 0 P fn R) e E n H ((SF.obj u.heap.size D' (.deferred (some []))).sep ((SF.obj u.heap.size D (.deferred (some []))).sep F)) u := fun a w s => by
  have h2 : LeavesInM Fence.wide 0 P fn a.tmps R a.defers .returning w := by
    rw [s.env.defers, hds]
    have hw := (s.wp.setObj (.deferred none)).le (SF.sep_snd _ _)
    have hw2 := hw.setObj (.deferred none)
    refine ⟨by simp, .inl ⟨D', _, rfl, run_takeDeferred s.fact.1.2, ⟨by simp, .inl ⟨D, _, rfl, run_takeDeferred hw.2.1.1.2, _, run_results (a := a) (F := _) hr h ⟨s.env, hw2.1, hw2.2.1, hw2.2.2.1, hw2.2.2.2⟩, hR _ (hw2.le (SF.sep_snd _ _))⟩⟩⟩⟩
  rcases he with rfl | rfl <;> exact h2
end
end
namespace R
section
variable [Inhabited DSx] [Inhabited Rdx] {P : Program} {E : Env} {n : Nat} {H : Hp} {F : SF} {u : World}
/-- A call of yield: it goes on, or it leaves. -/
theorem E.yield {g d l : Nat} {x : Operand} {v : Value} {ts : Array TypeId} {T' : TypeId} {p : String} {af : Array Edge} {ι κ : Type} (Hi : ι → Hp) (Fi : ι → SF) (Hx : κ → Hp) (Fx : κ → SF) (hg : look E g = some (.func (.yield l) #[] #[])) (hx : ev E x = some v) (hn : Nat.blt d n = true)
    (hc : ∀ W, Wp u H F W → YieldsAt P l v W fun e w' => (e = .returned (.bool true) ∧ ∃ i, Wp u (Hi i) (Fi i) w') ∨ (e = .returned (.bool false) ∧ ∃ k, Wp u (Hx k) (Fx k) w')) :
    EffI P E n H F u ⟨some d, .call { callee := .value (.tmp g), args := #[x], argTypes := ts }, T', p, af, none⟩ (fun i : ι ⊕ κ => (d, .bool (match i with | .inl _ => true | .inr _ => false)) :: E) (fun i => match i with | .inl i => Hi i | .inr k => Hx k) (fun i => match i with | .inl i => Fi i | .inr k => Fx k) := fun a w s Q K hK => by
  obtain ⟨fn, tmps, assign, body, hy, hR⟩ := hc w s.wp
  have h3 : a.eval (.tmp g) = .func (.yield l) #[] #[] := s.env.eval (x := .tmp g) hg
  have h4 := s.env.eval hx
  refine ⟨fun _ _ => trivial, ?_⟩
  rw [Oper.semAt_eq _ _ _ (fun c h => by cases h)]
  have h6 : (execOp a.eval ⟨some d, .call { callee := .value (.tmp g), args := #[x], argTypes := ts }, T', p, af, none⟩).run P w = .ok (.round l fn tmps assign body) w := by
    simp only [execOp, resolve, List.map_toArray, List.map_cons, List.map_nil, h3, h4, Deferred.ofValue, Sem.run_bind, Sem.run_pure, Result.andThen_ok, invoke]
    simpa using hy
  rw [h6, Oper.uponIn_round]
  refine ⟨fun h => absurd h (by simp [fr]), show RoundIn Fence.wide _ P l fn tmps assign body w _ from hR.mono fun e w' h => ?_⟩
  have put : ∀ {H' : Hp} {F' : SF} (b : Bool), Wp u H' F' w' → St ((d, .bool b) :: E) n H' F' u (a.put (some d) (.bool b)) w' := fun b h =>
    St.put ⟨s.env, h.1, h.2.1, h.2.2.1, h.2.2.2⟩ hn
  rcases h with ⟨rfl, i, h⟩ | ⟨rfl, k, h⟩
  · exact hK (.inl i) _ _ (put_size _ _ _) (put true h)
  · exact hK (.inr k) _ _ (put_size _ _ _) (put false h)
end
end R
end Go.Proofs.Ytdbcimadjmdffaa
