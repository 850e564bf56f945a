/- Scripts: calls of the functions of words. No condition. -/
import Derived.Test.YtapkelocligmdaaGreatDoorGi
import Derived.Test.YtapkelocligmdaaGreatDoorSp
import Derived.Test.YtapkelocligmdaaGreatDoorQ6
set_option maxRecDepth 100000
set_option linter.unusedVariables false
set_option linter.unusedSimpArgs false
set_option linter.unusedSectionVars false
set_option maxHeartbeats 4000000
namespace Go.Proofs.YtapkelocligmdaaGreatDoor
open Go.RowKit Go.Joins
theorem orDie {p G : Prop} (h1 : ¬ p → G) (h2 : p → G) : G := noDie h1 h2
section
variable [Inhabited DSx] {P : Program} {ops : Array Oper} {Q : Exit → Act → World → Prop} {rest : List Oper} {E : Env} {n : Nat} {H : Hp} {F G : SF} {w0 : World}
theorem run_callC {f : FuncId} {g : Nat} {a : Act} {w : World} {args : Array Operand} {ts : Array TypeId} {d : Option Nat} {T' : TypeId} {p : String} {af : Array Edge} {vs bs cs : List Value} (hf : ∀ (args : Array Value) (w : World), (callFunc f args).run P w = .ok (.enter f args) w)
    (he : EnvOf E n a) (hg : look E g = some (.func (.func f) bs.toArray cs.toArray)) (hx : evs E args.toList = some vs) : (execOp a.eval ⟨d, .call { callee := .value (.tmp g), args := args, argTypes := ts }, T', p, af, none⟩).run P w = .ok (.enter f (bs ++ vs ++ cs).toArray) w := by
  have h := he.evals _ _ hx
  have h2 : args.map a.eval = vs.toArray := by
    apply Array.toList_inj.1
    simpa using h
  have h3 : a.eval (.tmp g) = .func (.func f) bs.toArray cs.toArray := he.eval (x := .tmp g) hg
  simp only [execOp, resolve, h2, h3, Deferred.ofValue, Sem.run_bind, Sem.run_pure, Result.andThen_ok, invoke]
  simp [hf]
/-- A call of a function value that turns memory. -/
theorem E.callMC {ι : Type} {f : FuncId} {g : Nat} {args : Array Operand} {ts : Array TypeId} {d : Nat} {T' : TypeId} {p : String} {af : Array Edge} {vs bs cs : List Value} (val : ι → Value) (Hi : ι → Hp) (Fi : ι → SF) (hf : ∀ (args : Array Value) (w : World), (callFunc f args).run P w = .ok (.enter f args) w)
    (hg : look E g = some (.func (.func f) bs.toArray cs.toArray)) (hx : evs E args.toList = some vs) (hc : ∀ w, Wp w0 H F w → Calls P f (bs ++ vs ++ cs).toArray w fun e w' => ∃ i, e = .returned (val i) ∧ Wp w0 (Hi i) (Fi i) w') (hn : Nat.blt d n = true) :
    Eff P E n H F w0 ⟨some d, .call { callee := .value (.tmp g), args := args, argTypes := ts }, T', p, af, none⟩ (fun i => (d, val i) :: E) Hi Fi := fun a w s Q K hK => by
  unfold Oper.wp
  rw [run_callC hf s.env hg hx, Oper.upon_enter]
  refine (hc w s.wp).mono fun e w' ⟨i, he, hw⟩ => ?_
  subst he
  exact hK i _ _ (put_size _ _ _) (St.put ⟨s.env, hw.1, hw.2.1, hw.2.2.1, hw.2.2.2⟩ hn)
theorem WL.deadMC {κ : Type} {f : FuncId} {g : Nat} {args : Array Operand} {ts : Array TypeId} {d : Option Nat} {T' : TypeId} {p : String} {af : Array Edge} {vs bs cs : List Value} {m : Int} (Hk : κ → Hp) (Fk : κ → SF) (hf : ∀ (args : Array Value) (w : World), (callFunc f args).run P w = .ok (.enter f args) w)
    (hg : look E g = some (.func (.func f) bs.toArray cs.toArray)) (hx : evs E args.toList = some vs) (hc : ∀ w, Wp w0 H F w → Calls P f (bs ++ vs ++ cs).toArray w fun e w' => ∃ k, e = .panicked (refP m) ∧ Wp w0 (Hk k) (Fk k) w') (hq : ∀ k, WQ Q (.panic (refP m)) E n (Hk k) (Fk k) w0) :
    WL P ops Q (⟨d, .call { callee := .value (.tmp g), args := args, argTypes := ts }, T', p, af, none⟩ :: rest) E n H F w0 := fun a w s =>
  wpList_plain rfl fun K hK => by
    unfold Oper.wp
    rw [run_callC hf s.env hg hx, Oper.upon_enter]
    refine (hc w s.wp).mono fun e w' ⟨k, he, hw⟩ => ?_
    subst he
    exact hq k a w' ⟨s.env, hw.1, hw.2.1, hw.2.2.1, hw.2.2.2⟩
end
theorem wFn_ef (k : Nat) (hk : k < 6) (args : Array Value) (w : World) : (callFunc (wFn k) args).run Tryz.prog w = .ok (.enter (wFn k) args) w := by
  match k, hk with
  | 0, _ => exact Tryz.call56 args w
  | 1, _ => exact Tryz.call58 args w
  | 2, _ => exact Tryz.call60 args w
  | 3, _ => exact Tryz.call62 args w
  | 4, _ => exact Tryz.call64 args w
  | 5, _ => exact Tryz.call66 args w
  | n + 6, h => omega
def doK (x : Wd) (ns : List Int) : Nat → Ans
  | 0 => ((writeTo x (nth0 ns 0) (nth0 ns 1) (nth0 ns 2) (nth0 ns 3)).1, sOk, (writeTo x (nth0 ns 0) (nth0 ns 1) (nth0 ns 2) (nth0 ns 3)).2)
  | 1 => ((commitOf x (nth0 ns 0)).1, sOk, (commitOf x (nth0 ns 0)).2)
  | 2 => ((abortOf x (nth0 ns 0)).1, sOk, (abortOf x (nth0 ns 0)).2)
  | 3 => ((syncOf x (nth0 ns 0)).1, sOk, (syncOf x (nth0 ns 0)).2)
  | 4 => ((flushOf x (nth0 ns 0)).1, sOk, (flushOf x (nth0 ns 0)).2)
  | _ => (x, digs (logState x.log (nth0 ns 0)).1.toNat, (logState x.log (nth0 ns 0)).2.2)
theorem ws_ne : ∀ j, j < 6 → ∀ k, k < 6 → j ≠ k → wS j ≠ wS k := by decide +kernel
theorem doW_at (x : Wd) (ns : List Int) : ∀ (k : Nat), k < 6 → ns.length = wN k → doWord x (wS k) ns = doK x ns k
  | 0, _, hn => by unfold doWord; rw [if_pos ⟨rfl, hn⟩]; rfl
  | 1, _, hn => by unfold doWord; rw [if_neg (fun h => ws_ne 1 (by decide) 0 (by decide) (by decide) h.1), if_pos ⟨rfl, hn⟩]; rfl
  | 2, _, hn => by unfold doWord; rw [if_neg (fun h => ws_ne 2 (by decide) 0 (by decide) (by decide) h.1), if_neg (fun h => ws_ne 2 (by decide) 1 (by decide) (by decide) h.1), if_pos ⟨rfl, hn⟩]; rfl
  | 3, _, hn => by unfold doWord; rw [if_neg (fun h => ws_ne 3 (by decide) 0 (by decide) (by decide) h.1), if_neg (fun h => ws_ne 3 (by decide) 1 (by decide) (by decide) h.1), if_neg (fun h => ws_ne 3 (by decide) 2 (by decide) (by decide) h.1), if_pos ⟨rfl, hn⟩]; rfl
  | 4, _, hn => by unfold doWord; rw [if_neg (fun h => ws_ne 4 (by decide) 0 (by decide) (by decide) h.1), if_neg (fun h => ws_ne 4 (by decide) 1 (by decide) (by decide) h.1), if_neg (fun h => ws_ne 4 (by decide) 2 (by decide) (by decide) h.1), if_neg (fun h => ws_ne 4 (by decide) 3 (by decide) (by decide) h.1), if_pos ⟨rfl, hn⟩]; rfl
  | 5, _, hn => by unfold doWord; rw [if_neg (fun h => ws_ne 5 (by decide) 0 (by decide) (by decide) h.1), if_neg (fun h => ws_ne 5 (by decide) 1 (by decide) (by decide) h.1), if_neg (fun h => ws_ne 5 (by decide) 2 (by decide) (by decide) h.1), if_neg (fun h => ws_ne 5 (by decide) 3 (by decide) (by decide) h.1), if_neg (fun h => ws_ne 5 (by decide) 4 (by decide) (by decide) h.1), if_pos ⟨rfl, hn⟩]; rfl
  | n + 6, h, _ => by omega
theorem doW_off {x : Wd} {ns : List Int} : ∀ {k : Nat}, k < 6 → ns.length ≠ wN k → doWord x (wS k) ns = (x, [], 1)
  | 0, _, hn => by unfold doWord; rw [if_neg (fun h => hn h.2), if_neg (fun h => ws_ne 0 (by decide) 1 (by decide) (by decide) h.1), if_neg (fun h => ws_ne 0 (by decide) 2 (by decide) (by decide) h.1), if_neg (fun h => ws_ne 0 (by decide) 3 (by decide) (by decide) h.1), if_neg (fun h => ws_ne 0 (by decide) 4 (by decide) (by decide) h.1), if_neg (fun h => ws_ne 0 (by decide) 5 (by decide) (by decide) h.1)]
  | 1, _, hn => by unfold doWord; rw [if_neg (fun h => ws_ne 1 (by decide) 0 (by decide) (by decide) h.1), if_neg (fun h => hn h.2), if_neg (fun h => ws_ne 1 (by decide) 2 (by decide) (by decide) h.1), if_neg (fun h => ws_ne 1 (by decide) 3 (by decide) (by decide) h.1), if_neg (fun h => ws_ne 1 (by decide) 4 (by decide) (by decide) h.1), if_neg (fun h => ws_ne 1 (by decide) 5 (by decide) (by decide) h.1)]
  | 2, _, hn => by unfold doWord; rw [if_neg (fun h => ws_ne 2 (by decide) 0 (by decide) (by decide) h.1), if_neg (fun h => ws_ne 2 (by decide) 1 (by decide) (by decide) h.1), if_neg (fun h => hn h.2), if_neg (fun h => ws_ne 2 (by decide) 3 (by decide) (by decide) h.1), if_neg (fun h => ws_ne 2 (by decide) 4 (by decide) (by decide) h.1), if_neg (fun h => ws_ne 2 (by decide) 5 (by decide) (by decide) h.1)]
  | 3, _, hn => by unfold doWord; rw [if_neg (fun h => ws_ne 3 (by decide) 0 (by decide) (by decide) h.1), if_neg (fun h => ws_ne 3 (by decide) 1 (by decide) (by decide) h.1), if_neg (fun h => ws_ne 3 (by decide) 2 (by decide) (by decide) h.1), if_neg (fun h => hn h.2), if_neg (fun h => ws_ne 3 (by decide) 4 (by decide) (by decide) h.1), if_neg (fun h => ws_ne 3 (by decide) 5 (by decide) (by decide) h.1)]
  | 4, _, hn => by unfold doWord; rw [if_neg (fun h => ws_ne 4 (by decide) 0 (by decide) (by decide) h.1), if_neg (fun h => ws_ne 4 (by decide) 1 (by decide) (by decide) h.1), if_neg (fun h => ws_ne 4 (by decide) 2 (by decide) (by decide) h.1), if_neg (fun h => ws_ne 4 (by decide) 3 (by decide) (by decide) h.1), if_neg (fun h => hn h.2), if_neg (fun h => ws_ne 4 (by decide) 5 (by decide) (by decide) h.1)]
  | 5, _, hn => by unfold doWord; rw [if_neg (fun h => ws_ne 5 (by decide) 0 (by decide) (by decide) h.1), if_neg (fun h => ws_ne 5 (by decide) 1 (by decide) (by decide) h.1), if_neg (fun h => ws_ne 5 (by decide) 2 (by decide) (by decide) h.1), if_neg (fun h => ws_ne 5 (by decide) 3 (by decide) (by decide) h.1), if_neg (fun h => ws_ne 5 (by decide) 4 (by decide) (by decide) h.1), if_neg (fun h => hn h.2)]
  | n + 6, h, _ => by omega
theorem doW_none {x : Wd} {hd : Str} {ns : List Int} (h : ∀ k, k < 6 → hd ≠ wS k) : doWord x hd ns = (x, [], 1) := by
  have h0 := h 0 (by decide); have h1 := h 1 (by decide); have h2 := h 2 (by decide)
  have h3 := h 3 (by decide); have h4 := h 4 (by decide); have h5 := h 5 (by decide)
  unfold doWord
  rw [if_neg (fun h => h0 h.1), if_neg (fun h => h1 h.1), if_neg (fun h => h2 h.1), if_neg (fun h => h3 h.1), if_neg (fun h => h4 h.1), if_neg (fun h => h5 h.1)]
theorem look_at (g bx : Nat) : ∀ k, k < 6 → lookS (wordL g bx) (wS k) = some (wordV (wN k) (wF g bx k))
  | 0, _ => rfl
  | 1, _ => rfl
  | 2, _ => rfl
  | 3, _ => rfl
  | 4, _ => rfl
  | 5, _ => rfl
  | n + 6, h => by omega
theorem look_none {g bx : Nat} {hd : Str} (h : ∀ k, k < 6 → hd ≠ wS k) : lookS (wordL g bx) hd = none := by
  have h0 := (h 0 (by decide)).symm; have h1 := (h 1 (by decide)).symm; have h2 := (h 2 (by decide)).symm
  have h3 := (h 3 (by decide)).symm; have h4 := (h 4 (by decide)).symm; have h5 := (h 5 (by decide)).symm
  unfold wordL
  simp only [lookS]
  rw [if_neg h0, if_neg h1, if_neg h2, if_neg h3, if_neg h4, if_neg h5]
theorem word_or (hd : Str) : (∃ k, k < 6 ∧ hd = wS k) ∨ ∀ k, k < 6 → hd ≠ wS k := by
  by_cases h : ∃ k, k < 6 ∧ hd = wS k
  · exact .inl h
  · exact .inr fun k hk e => h ⟨k, hk, e⟩

theorem w_doOk (u : World) (Hl : Hp) (G : SF) (g bx : Nat) (x : Wd) (A : Option Addr) (c : Nat) (ns : List Int) (A2 : Option Addr) (b2 c2 : Nat) (k : Nat) (hk : k < 6) (w : World) (hw : Wp u ((bx, [.pointer (some ⟨g, 0, none⟩)], 29) :: (g, x.cl A c, 39) :: Hl) ((ROW u x A c).sep G) w) (hn : ns.length = wN k) (hil : ∀ w, G.p w → IL w A2 b2 ns) (hw0 : worldErr x = 0) (h0 : (doWord x (wS k) ns).2.2 = 0) : Calls Tryz.prog (wFn k) (wB g k ++ [Value.slice A2 ns.length c2] ++ wC bx k).toArray w fun e w' => ∃ i : Option Addr × Nat, e = .returned (su (doWord x (wS k) ns).2.1) ∧ Wp u ((g, (doWord x (wS k) ns).1.cl i.1 i.2, 39) :: Hl) ((ROW u (doWord x (wS k) ns).1 i.1 i.2).sep G) w' := by
  match k, hk with
  | 0, hk =>
    rw [doW_at x ns 0 hk hn] at h0 ⊢
    exact (w_word1Ok u Hl G g bx x A c ns A2 b2 c2 w hw hn hil h0).mono fun e w' ⟨i, he, hw'⟩ => ⟨i, he, hw'.sub (Hsub.of_sub (by repeat (first | exact List.Sublist.refl _ | apply List.Sublist.cons_cons | apply List.Sublist.cons)))⟩
  | 1, hk =>
    rw [doW_at x ns 1 hk hn] at h0 ⊢
    exact (w_word2Ok u Hl G g bx x A c ns A2 b2 c2 w hw hn hil h0).mono fun e w' ⟨i, he, hw'⟩ => ⟨i, he, hw'.sub (Hsub.of_sub (by repeat (first | exact List.Sublist.refl _ | apply List.Sublist.cons_cons | apply List.Sublist.cons)))⟩
  | 2, hk =>
    rw [doW_at x ns 2 hk hn] at h0 ⊢
    exact (w_word3Ok u Hl G g bx x A c ns A2 b2 c2 w hw hn hil h0).mono fun e w' ⟨i, he, hw'⟩ => ⟨i, he, hw'.sub (Hsub.of_sub (by repeat (first | exact List.Sublist.refl _ | apply List.Sublist.cons_cons | apply List.Sublist.cons)))⟩
  | 3, hk =>
    rw [doW_at x ns 3 hk hn] at h0 ⊢
    exact (w_word4Ok u Hl G g bx x A c ns A2 b2 c2 w hw hn hil h0).mono fun e w' ⟨i, he, hw'⟩ => ⟨i, he, hw'.sub (Hsub.of_sub (by repeat (first | exact List.Sublist.refl _ | apply List.Sublist.cons_cons | apply List.Sublist.cons)))⟩
  | 4, hk =>
    rw [doW_at x ns 4 hk hn] at h0 ⊢
    exact (w_word5Ok u Hl G g bx x A c ns A2 b2 c2 w hw hn hil h0).mono fun e w' ⟨i, he, hw'⟩ => ⟨i, he, hw'.sub (Hsub.of_sub (by repeat (first | exact List.Sublist.refl _ | apply List.Sublist.cons_cons | apply List.Sublist.cons)))⟩
  | 5, hk =>
    rw [doW_at x ns 5 hk hn] at h0 ⊢
    exact (w_stateOk u Hl G g x A c ns A2 b2 c2 w (hw.sub (Hsub.of_sub (by repeat (first | exact List.Sublist.refl _ | apply List.Sublist.cons_cons | apply List.Sublist.cons)))) hn hil hw0 h0).mono fun e w' ⟨i, he, hw'⟩ => ⟨(A, c), he, hw'.sub (Hsub.of_sub (by repeat (first | exact List.Sublist.refl _ | apply List.Sublist.cons_cons | apply List.Sublist.cons)))⟩
  | n + 6, h => omega
theorem w_doDie (u : World) (Hl : Hp) (G : SF) (g bx : Nat) (x : Wd) (A : Option Addr) (c : Nat) (ns : List Int) (A2 : Option Addr) (b2 c2 : Nat) (k : Nat) (hk : k < 6) (w : World) (hw : Wp u ((bx, [.pointer (some ⟨g, 0, none⟩)], 29) :: (g, x.cl A c, 39) :: Hl) ((ROW u x A c).sep G) w) (hn : ns.length = wN k) (hil : ∀ w, G.p w → IL w A2 b2 ns) (hw0 : worldErr x = 0) (h0 : (doWord x (wS k) ns).2.2 ≠ 0) : Calls Tryz.prog (wFn k) (wB g k ++ [Value.slice A2 ns.length c2] ++ wC bx k).toArray w fun e w' => ∃ i : Unit, e = .panicked (refP (doWord x (wS k) ns).2.2) ∧ Wp u ((g, x.cl A c, 39) :: Hl) ((ROW u x A c).sep G) w' := by
  match k, hk with
  | 0, hk =>
    rw [doW_at x ns 0 hk hn] at h0 ⊢
    exact (w_word1Die u Hl G g bx x A c ns A2 b2 c2 w hw hn hil h0).mono fun e w' ⟨i, he, hw'⟩ => ⟨i, he, hw'⟩
  | 1, hk =>
    rw [doW_at x ns 1 hk hn] at h0 ⊢
    exact (w_word2Die u Hl G g bx x A c ns A2 b2 c2 w hw hn hil h0).mono fun e w' ⟨i, he, hw'⟩ => ⟨i, he, hw'⟩
  | 2, hk =>
    rw [doW_at x ns 2 hk hn] at h0 ⊢
    exact (w_word3Die u Hl G g bx x A c ns A2 b2 c2 w hw hn hil h0).mono fun e w' ⟨i, he, hw'⟩ => ⟨i, he, hw'⟩
  | 3, hk =>
    rw [doW_at x ns 3 hk hn] at h0 ⊢
    exact (w_word4Die u Hl G g bx x A c ns A2 b2 c2 w hw hn hil h0).mono fun e w' ⟨i, he, hw'⟩ => ⟨i, he, hw'⟩
  | 4, hk =>
    rw [doW_at x ns 4 hk hn] at h0 ⊢
    exact (w_word5Die u Hl G g bx x A c ns A2 b2 c2 w hw hn hil h0).mono fun e w' ⟨i, he, hw'⟩ => ⟨i, he, hw'⟩
  | 5, hk =>
    rw [doW_at x ns 5 hk hn] at h0 ⊢
    exact (w_stateDie u Hl G g x A c ns A2 b2 c2 w (hw.sub (Hsub.of_sub (by repeat (first | exact List.Sublist.refl _ | apply List.Sublist.cons_cons | apply List.Sublist.cons)))) hn hil hw0 h0).mono fun e w' ⟨i, he, hw'⟩ => ⟨i, he, hw'⟩
  | n + 6, h => omega

section
variable [Inhabited DSx] {E : Env} {n : Nat} {H : Hp} {F G : SF} {u : World}
theorem E.words {args : Array Operand} {ts : Array TypeId} {d : Nat} {T' : TypeId} {p : String} {af : Array Edge} (g : Nat) (hx : evs E args.toList = some [.pointer (some ⟨g, 0, none⟩)]) (hd : Nat.blt d n = true) :
    Eff Tryz.prog E n H F u ⟨some d, .call { callee := .value (.func 28), args := args, argTypes := ts }, T', p, af, none⟩ (fun i : Nat × Nat => (d, .map (some i.1)) :: E) (fun i => (i.2, [.pointer (some ⟨g, 0, none⟩)], 29) :: H)
      (fun i => (SF.map u.heap.size i.1 ((wordL g i.2).map SE.entry) 6).sep F) :=
  Proofs.YtapkelocligmdaaGreatDoor.E.callM (fun i : Nat × Nat => .map (some i.1)) _ _ Tryz.call28 hx (fun w hw => (w_words g w).mono fun e w' ⟨i, he, hb, hm, hx, h1, h2, h3⟩ => by
    refine ⟨i, he, ⟨fun y hy => ?_, List.pairwise_cons.2 ⟨fun y hy => ?_, hw.1.nd⟩⟩, ?_, fun y hy hk => ?_, below_trans hw.2.2.2 hb⟩
    · rcases List.mem_cons.1 hy with rfl | hy
      · exact ⟨hx, Nat.le_trans hw.2.2.2.size h2⟩
      · exact ⟨below_get' hb (hw.1.blk y hy).1, (hw.1.blk y hy).2⟩
    · have := hw.1.lt hy
      show i.2 ≠ y.1
      omega
    · have hfs := F.st w w' hw.2.1 fun b h => hb.block b (F.lt w b hw.2.1 h)
      refine ⟨⟨hm, Nat.le_trans hw.2.2.2.size h1⟩, hfs.1, fun b hbm hbf => ?_⟩
      have e1 : b = i.1 := hbm
      have := F.lt w b hw.2.1 (hfs.2 b hbf)
      omega
    · have hfs := F.st w w' hw.2.1 fun b h => hb.block b (F.lt w b hw.2.1 h)
      rcases List.mem_cons.1 hy with rfl | hy
      · rcases hk with hk | hk
        · have e1 : i.2 = i.1 := hk
          exact h3 e1
        · have := F.lt w _ hw.2.1 (hfs.2 _ hk)
          have e2 : w.heap.size ≤ i.2 := h2
          omega
      · rcases hk with hk | hk
        · have e1 : y.1 = i.1 := hk
          have := hw.1.lt hy
          omega
        · exact hw.2.2.1 y hy (hfs.2 _ hk)) hd
theorem ext_words {d : Nat} {v : Value} {J : SF} {blk : Nat × List Value × TypeId} (hl : look E d = none) : if false = true then sub E ((d, v) :: E) else ∀ a w, St ((d, v) :: E) n (blk :: H) (J.sep F) u a w → St E n H F u a w := by
  simp only [Bool.false_eq_true, if_false]
  exact fun a w s => ((s.sub (Hsub.of_sub (List.sublist_cons_self _ _))).le (SF.sep_snd _ _)).weak (sub_push hl)
theorem Y.slFromN {d : Option Nat} {x y : Operand} {T T' : TypeId} {p : String} {af : Array Edge} {b o len cap : Nat} (hu : Tryz.prog.underlying T = some (.slice 9)) (h1 : 1 ≤ len) (h2 : len ≤ cap) (hx : ev E x = some (.slice (some ⟨b, o, none⟩) len cap)) (hy : ev E y = some (.int .i64 1)) :
    Yp Tryz.prog E n ⟨d, .slice T x (some y) none none, T', p, af, none⟩ (.slice (if cap = 1 then some ⟨b, o, none⟩ else some ⟨b, o + 1, none⟩) (len - 1) (cap - 1)) := fun a w s => by
  have e1 : (⟨b, o, none⟩ : Addr).add 1 = ⟨b, o + 1, none⟩ := by unfold Addr.add; split <;> simp_all
  have h3 : (1 : Int) ≤ len := by omega
  have e : (Instr.slice T (.slice (some ⟨b, o, none⟩) len cap) (some (.int .i64 1)) none none).run Tryz.prog w = .ok (.slice (if cap = 1 then some ⟨b, o, none⟩ else some ⟨b, o + 1, none⟩) (len - 1) (cap - 1)) w := by
    unfold Instr.slice
    rw [Sem.run_bind, run_underlying hu]
    have hb : (Instr.sliceBounds true len cap (some (.int .i64 1)) none none).run Tryz.prog w = .ok (1, len, cap) w := by
      simp [Instr.sliceBounds, Instr.sliceBound, asIntOf, h3]
    simp only [Result.andThen_ok, Sem.run_bind, hb, size9 w, Sem.run_pure, Option.map, Nat.one_mul, e1]
  have e2 : (Instr.sliceAt T (.slice (some ⟨b, o, none⟩) len cap) (some (.int .i64 1)) none none).run Tryz.prog w = .ok (.slice (if cap = 1 then some ⟨b, o, none⟩ else some ⟨b, o + 1, none⟩) (len - 1) (cap - 1)) w := by
    unfold Instr.sliceAt
    rw [Sem.run_bind, run_underlying hu]
    exact e
  show (do let u ← Instr.sliceAt T (a.eval x) (some (a.eval y)) none none; pure (Next.value u)).run Tryz.prog w = _
  rw [s.eval hx, s.eval hy, Sem.run_bind, e2]
  rfl
end
end Go.Proofs.YtapkelocligmdaaGreatDoor
