/- Acts: Do. No condition. -/
import Derived.Test.YtdbcimadjmdffaaCu
import Derived.Test.YtdbcimadjmdffaaOx
set_option maxRecDepth 100000
set_option linter.unusedVariables false
set_option linter.unusedSimpArgs false
set_option linter.unusedSectionVars false
set_option maxHeartbeats 4000000
namespace Go.Proofs.Ytdbcimadjmdffaa
open Go.RowKit Go.Joins
/-- An entry of a map from numbers. -/
structure IE where
  key : Int
  v : Value
  born : Nat
def IE.entry (x : IE) : MapEntry := ⟨.int .i64 x.key, x.v, x.born⟩
def findE : List IE → Int → Nat → Option (Nat × Value)
  | [], _, _ => none
  | x :: l, t, i => if x.key = t then some (i, x.v) else findE l t (i + 1)
def lookE : List IE → Int → Option Value
  | [], _ => none
  | x :: l, t => if x.key = t then some x.v else lookE l t
theorem findNow_ie (t : Int) : ∀ (l : List IE) (i : Nat), Instr.findNow (.int .i64) (.int .i64 t) (l.map IE.entry) i = some (findE l t i)
  | [], _ => rfl
  | x :: l, i => by
    simp only [List.map_cons, Instr.findNow, IE.entry, Instr.sameNow, if_true, findE]
    by_cases h : x.key = t
    · subst h; simp
    · have h' : (t == x.key) = false := by simpa using fun e : t = x.key => h e.symm
      rw [h', if_neg h]
      exact findNow_ie t l (i + 1)
theorem findE_look : ∀ (l : List IE) (t : Int) (i : Nat), (findE l t i).map (·.2) = lookE l t
  | [], _, _ => rfl
  | x :: l, t, i => by
    unfold findE lookE
    split
    · rfl
    · exact findE_look l t (i + 1)
theorem findE_none : ∀ (l : List IE) (t : Int) (i : Nat), lookE l t = none → findE l t i = none
  | [], _, _, _ => rfl
  | x :: l, t, i, h => by
    unfold lookE at h
    unfold findE
    split at h
    · cases h
    · rename_i hn
      rw [if_neg hn]
      exact findE_none l t (i + 1) h
theorem find_ie {w : World} (l : List IE) (t : Int) : (Instr.findKey 3 (.int .i64 t) (l.map IE.entry)).run Try.prog w = .ok (findE l t 0) w := by
  unfold Instr.findKey
  simp only [Sem.run_bind, run_underlying Try.underlying3, Result.andThen_ok, findNow_ie, Sem.run_pure]
theorem run_lookup_ie {w : World} {b k T e : Nat} {z : Value} (l : List IE) (t : Int) (hu : Try.prog.underlying T = some (.map 3 e)) (hz : ∀ w, (zeroValue e).run Try.prog w = .ok z w) (h : w.heap[b]? = some (.map (l.map IE.entry).toArray k)) :
    (Instr.lookup T (.map (some b)) (.int .i64 t) false).run Try.prog w = .ok ((lookE l t).getD z) w := by
  unfold Instr.lookup
  have hl := findE_look l t 0
  simp only [Sem.run_bind, run_underlying hu, Result.andThen_ok, run_getObj h, Sem.run_pure, check_int, find_ie]
  cases hf : findE l t 0 with
  | none =>
    rw [hf] at hl
    simp only [Option.map_none] at hl
    rw [← hl]
    simp only [hz w, Sem.run_bind, Result.andThen_ok, Sem.run_pure]
    rfl
  | some x =>
    rw [hf] at hl
    simp only [Option.map_some] at hl
    rw [← hl]
    rfl
theorem run_update_ie {w : World} {b k T e : Nat} (l : List IE) (t : Int) (v : Value) (hu : Try.prog.underlying T = some (.map 3 e)) (hn : lookE l t = none) (h : w.heap[b]? = some (.map (l.map IE.entry).toArray k)) :
    (Instr.mapUpdate T (.map (some b)) (.int .i64 t) v).run Try.prog w = .ok () (putMap w b (l.map IE.entry ++ [⟨.int .i64 t, v, k⟩]) (k + 1)) := by
  unfold Instr.mapUpdate
  simp only [Sem.run_bind, run_underlying hu, Result.andThen_ok, run_getObj h, check_int, find_ie, findE_none l t 0 hn]
  have e : ((l.map IE.entry).toArray).push (⟨.int .i64 t, v, k⟩ : MapEntry) = (l.map IE.entry ++ [(⟨.int .i64 t, v, k⟩ : MapEntry)]).toArray := by simp
  rw [e]
  exact run_setObj h
section
variable [Inhabited DSx] {P : Program} {E : Env} {n : Nat} {H : Hp} {F G : SF} {w0 : World}
theorem E.insert {x y z : Operand} {T T' : TypeId} {p : String} {af : Array Edge} {b : Nat} {es es' : List MapEntry} {k k' : Nat} {vk vv : Value} (hF : F = (SF.map w0.heap.size b es k).sep G) (hx : ev E x = some (.map (some b))) (hy : ev E y = some vk) (hz : ev E z = some vv)
    (hr : ∀ w, w.heap[b]? = some (.map es.toArray k) → (Instr.mapUpdate T (.map (some b)) vk vv).run P w = .ok () (Proofs.Ytdbcimadjmdffaa.putMap w b es' k')) :
    Eff P E n H F w0 ⟨none, .insert T x y z, T', p, af, none⟩ (fun _ : Unit => E) (fun _ => H) (fun _ => (SF.map w0.heap.size b es' k').sep G) := fun a w s Q K hK => by
  subst hF
  have h : (execOp a.eval ⟨none, .insert T x y z, T', p, af, none⟩).run P w = .ok .skip (Proofs.Ytdbcimadjmdffaa.putMap w b es' k') := by
    show (do Instr.mapUpdate T (a.eval x) (a.eval y) (a.eval z); pure Next.skip).run P w = _
    rw [s.env.eval hx, s.env.eval hy, s.env.eval hz, Sem.run_bind, hr w s.fact.1.1]
    rfl
  unfold Oper.wp
  rw [h, Oper.upon_skip]
  exact hK () _ _ rfl s.putMap
/-- A call of a function value that yields things in new memory. -/
theorem E.callNV {ι : Type} {f : FuncId} {g : Nat} {args : Array Operand} {ts : Array TypeId} {d : Nat} {T' : TypeId} {p : String} {af : Array Edge} {vs : List Value} (val : ι → Value) (J : ι → SF) (hf : ∀ (args : Array Value) (w : World), (callFunc f args).run P w = .ok (.enter f args) w)
    (hg : look E g = some (.func (.func f) #[] #[])) (hx : evs E args.toList = some vs) (hc : ∀ a w, St E n H F w0 a w → Calls P f vs.toArray w fun e w' => ∃ i, e = .returned (val i) ∧ Below w.heap.size w w' ∧ (J i).p w' ∧ ∀ b, (J i).fp w' b → w.heap.size ≤ b) (hn : Nat.blt d n = true) :
    Eff P E n H F w0 ⟨some d, .call { callee := .value (.tmp g), args := args, argTypes := ts }, T', p, af, none⟩ (fun i => (d, val i) :: E) (fun _ => H) (fun i => (J i).sep F) := fun a w s Q K hK => by
  unfold Oper.wp
  rw [run_callV hf s.env hg hx, Oper.upon_enter]
  refine (hc a w s).mono fun e w' ⟨i, he, hb, hj, hfj⟩ => ?_
  subst he
  have g := s.grow hb
  have hfp := (F.st w w' s.fact fun b h => hb.block b (F.lt w b s.fact h)).2
  refine hK i _ _ (put_size _ _ _) (St.put ⟨g.env, g.hp, ⟨hj, g.fact, fun b hk hf => ?_⟩, fun x hx hk => ?_, g.low⟩ hn)
  · have h1 := hfj b hk
    have h2 := F.lt w _ s.fact (hfp _ hf)
    omega
  · rcases hk with hk | hk
    · have h1 := hfj _ hk
      have h2 := s.hp.lt hx
      omega
    · exact g.sep x hx hk
theorem E.retWV {f : FuncId} {g : Nat} {args : Array Operand} {ts : Array TypeId} {d : Nat} {T' : TypeId} {p : String} {af : Array Edge} {vs : List Value} (y : Wd) (more : List Value) (hf : ∀ (args : Array Value) (w : World), (callFunc f args).run Try.prog w = .ok (.enter f args) w)
    (hg : look E g = some (.func (.func f) #[] #[])) (hx : evs E args.toList = some vs) (hc : ∀ a w, St E n H F w0 a w → RetW Try.prog f vs w y more) (hn : Nat.blt d n = true) :
    Eff Try.prog E n H F w0 ⟨some d, .call { callee := .value (.tmp g), args := args, argTypes := ts }, T', p, af, none⟩ (fun i : Option Addr × Nat => (d, packed (y.val i.1 i.2 :: more)) :: E) (fun _ => H) (fun i => (SF.own w0.heap.size 34 8 (.slice i.1 y.log.length i.2) y.log.length (flat y.log)).sep F) :=
  Proofs.Ytdbcimadjmdffaa.E.callNV _ _ hf hg hx (fun a w s => (hc a w s).mono fun e w' ⟨i, he, hb, ho⟩ => ⟨i, he, hb, ownsRow_le ho s.low.size, fun g hg => (ho.lt g hg).1⟩) hn
end
def doerF (f : Nat) : Value := .func (.func f) #[] #[]
def doerL : List IE := [⟨1, doerF 155, 0⟩, ⟨2, doerF 156, 1⟩, ⟨3, doerF 157, 2⟩, ⟨4, doerF 158, 3⟩, ⟨5, doerF 159, 4⟩, ⟨6, doerF 160, 5⟩]

theorem w_doers (w : World) : Calls Try.prog 133 [].toArray w fun e w' => ∃ b : Nat, e = .returned (.map (some b)) ∧ Below w.heap.size w w' ∧ w'.heap[b]? = some (.map (doerL.map IE.entry).toArray 6) ∧ w.heap.size ≤ b := by
 refine enter Try.func133 rfl Try.ntmps133 rfl SF.top trivial ?_
 refine sR ?_
 refine pA rfl rfl ?_
 refine nN ?_
 refine sR ?_
 refine WL.eff (E.makeMap rfl) rfl (fun bm => ?_)
 refine WL.eff (E.insert (es := (doerL.take 0).map IE.entry) (es' := (doerL.take 1).map IE.entry) (k := 0) (k' := 1) rfl rfl rfl rfl (fun w h => run_update_ie (doerL.take 0) 1 (doerF 155) Try.underlying127 rfl h)) rfl (fun _ => ?_)
 refine WL.eff (E.insert (es := (doerL.take 1).map IE.entry) (es' := (doerL.take 2).map IE.entry) (k := 1) (k' := 2) rfl rfl rfl rfl (fun w h => run_update_ie (doerL.take 1) 2 (doerF 156) Try.underlying127 rfl h)) rfl (fun _ => ?_)
 refine WL.eff (E.insert (es := (doerL.take 2).map IE.entry) (es' := (doerL.take 3).map IE.entry) (k := 2) (k' := 3) rfl rfl rfl rfl (fun w h => run_update_ie (doerL.take 2) 3 (doerF 157) Try.underlying127 rfl h)) rfl (fun _ => ?_)
 refine WL.eff (E.insert (es := (doerL.take 3).map IE.entry) (es' := (doerL.take 4).map IE.entry) (k := 3) (k' := 4) rfl rfl rfl rfl (fun w h => run_update_ie (doerL.take 3) 4 (doerF 158) Try.underlying127 rfl h)) rfl (fun _ => ?_)
 refine WL.eff (E.insert (es := (doerL.take 4).map IE.entry) (es' := (doerL.take 5).map IE.entry) (k := 4) (k' := 5) rfl rfl rfl rfl (fun w h => run_update_ie (doerL.take 4) 5 (doerF 159) Try.underlying127 rfl h)) rfl (fun _ => ?_)
 refine WL.eff (E.insert (es := (doerL.take 5).map IE.entry) (es' := (doerL.take 6).map IE.entry) (k := 5) (k' := 6) rfl rfl rfl rfl (fun w h => run_update_ie (doerL.take 5) 6 (doerF 160) Try.underlying127 rfl h)) rfl (fun _ => ?_)
 refine pM rfl rfl ?_
 refine pA rfl rfl ?_
 refine nN ?_
 refine WC.ret ?_
 refine dn1 Try.results133 rfl (fun a w s => ?_)
 · exact ⟨bm, rfl, s.low, s.fact.1.1, s.fact.1.2⟩

theorem w_doer1 (x : Wd) (A : Option Addr) (b o c : Nat) (txn page cell val : Int) (w : World) (hm : x.log.length ≤ maxLen) (hcap : x.log.length ≤ c) (hr : RL w A b o x.log) : RetW Try.prog 155 [x.val A c, (Ac.v ⟨1, txn, page, cell, val⟩)] w (writeTo x txn page cell val).1 [.int .i64 (writeTo x txn page cell val).2] := by
 refine enter Try.func155 rfl Try.ntmps155 rfl SF.top trivial ?_
 refine sR ?_
 refine WL.eff (E.box rfl rfl rfl) rfl (fun b1 => ?_)
 refine WL.eff (E.box rfl rfl rfl) rfl (fun b2 => ?_)
 refine WL.eff (E.alloc Try.zeroValue54 rfl rfl) rfl (fun b3 => ?_)
 refine pA rfl rfl ?_
 refine nN ?_
 refine sR ?_
 refine pV (Y.loadAN wd_54 rfl m2 (r := x.cl A c) rfl) rfl ?_
 refine pP (Y.fieldAddr fa_61_1 rfl) rfl ?_
 refine pV (Y.load fl_3 rfl m1 rfl) rfl ?_
 refine pP (Y.fieldAddr fa_61_2 rfl) rfl ?_
 refine pV (Y.load fl_3 rfl m1 rfl) rfl ?_
 refine pP (Y.fieldAddr fa_61_3 rfl) rfl ?_
 refine pV (Y.load fl_3 rfl m1 rfl) rfl ?_
 refine pP (Y.fieldAddr fa_61_4 rfl) rfl ?_
 refine pV (Y.load fl_3 rfl m1 rfl) rfl ?_
 refine WL.eff (E.retW ((writeTo x txn page cell val).1) [.int .i64 (writeTo x txn page cell val).2] Try.call90 rfl (fun _ w s => w_workWrite x A b o c txn page cell val w hm hcap (hr.below s.low)) rfl) rfl (fun i => ?_)
 refine pP (Y.extract rfl rfl) rfl ?_
 refine pP (Y.extract rfl rfl) rfl ?_
 refine WL.eff (E.store Try.sizeOf54 rfl rfl rfl rfl rfl u0 rfl rfl) rfl (fun _ => ?_)
 refine pA rfl rfl ?_
 refine nN ?_
 refine WC.ret ?_
 refine WQ.done Try.results155 (RVs.cons (RV.cell wd_54 rfl m0 rfl) (RVs.cons (RV.tmp rfl) RVs.nil)) (fun a w s => ?_)
 · exact ⟨i, rfl, s.low, s.fact.1⟩

theorem w_doer2 (x : Wd) (A : Option Addr) (b o c : Nat) (txn page cell val : Int) (w : World) (hm : x.log.length ≤ maxLen) (hcap : x.log.length ≤ c) (hr : RL w A b o x.log) : RetW Try.prog 156 [x.val A c, (Ac.v ⟨2, txn, page, cell, val⟩)] w (commitOf x txn).1 [.int .i64 (commitOf x txn).2] := by
 refine enter Try.func156 rfl Try.ntmps156 rfl SF.top trivial ?_
 refine sR ?_
 refine WL.eff (E.box rfl rfl rfl) rfl (fun b1 => ?_)
 refine WL.eff (E.box rfl rfl rfl) rfl (fun b2 => ?_)
 refine WL.eff (E.alloc Try.zeroValue54 rfl rfl) rfl (fun b3 => ?_)
 refine pA rfl rfl ?_
 refine nN ?_
 refine sR ?_
 refine pV (Y.loadAN wd_54 rfl m2 (r := x.cl A c) rfl) rfl ?_
 refine pP (Y.fieldAddr fa_61_1 rfl) rfl ?_
 refine pV (Y.load fl_3 rfl m1 rfl) rfl ?_
 refine WL.eff (E.retW ((commitOf x txn).1) [.int .i64 (commitOf x txn).2] Try.call62 rfl (fun _ w s => w_workCommit x A b o c txn w hm hcap (hr.below s.low)) rfl) rfl (fun i => ?_)
 refine pP (Y.extract rfl rfl) rfl ?_
 refine pP (Y.extract rfl rfl) rfl ?_
 refine WL.eff (E.store Try.sizeOf54 rfl rfl rfl rfl rfl u0 rfl rfl) rfl (fun _ => ?_)
 refine pA rfl rfl ?_
 refine nN ?_
 refine WC.ret ?_
 refine WQ.done Try.results156 (RVs.cons (RV.cell wd_54 rfl m0 rfl) (RVs.cons (RV.tmp rfl) RVs.nil)) (fun a w s => ?_)
 · exact ⟨i, rfl, s.low, s.fact.1⟩

theorem w_doer3 (x : Wd) (A : Option Addr) (b o c : Nat) (txn page cell val : Int) (w : World) (hm : x.log.length ≤ maxLen) (hcap : x.log.length ≤ c) (hr : RL w A b o x.log) : RetW Try.prog 157 [x.val A c, (Ac.v ⟨3, txn, page, cell, val⟩)] w (abortOf x txn).1 [.int .i64 (abortOf x txn).2] := by
 refine enter Try.func157 rfl Try.ntmps157 rfl SF.top trivial ?_
 refine sR ?_
 refine WL.eff (E.box rfl rfl rfl) rfl (fun b1 => ?_)
 refine WL.eff (E.box rfl rfl rfl) rfl (fun b2 => ?_)
 refine WL.eff (E.alloc Try.zeroValue54 rfl rfl) rfl (fun b3 => ?_)
 refine pA rfl rfl ?_
 refine nN ?_
 refine sR ?_
 refine pV (Y.loadAN wd_54 rfl m2 (r := x.cl A c) rfl) rfl ?_
 refine pP (Y.fieldAddr fa_61_1 rfl) rfl ?_
 refine pV (Y.load fl_3 rfl m1 rfl) rfl ?_
 refine WL.eff (E.retW ((abortOf x txn).1) [.int .i64 (abortOf x txn).2] Try.call88 rfl (fun _ w s => w_rollAbort x A b o c txn w hm hcap (hr.below s.low)) rfl) rfl (fun i => ?_)
 refine pP (Y.extract rfl rfl) rfl ?_
 refine pP (Y.extract rfl rfl) rfl ?_
 refine WL.eff (E.store Try.sizeOf54 rfl rfl rfl rfl rfl u0 rfl rfl) rfl (fun _ => ?_)
 refine pA rfl rfl ?_
 refine nN ?_
 refine WC.ret ?_
 refine WQ.done Try.results157 (RVs.cons (RV.cell wd_54 rfl m0 rfl) (RVs.cons (RV.tmp rfl) RVs.nil)) (fun a w s => ?_)
 · exact ⟨i, rfl, s.low, s.fact.1⟩

theorem w_doer4 (x : Wd) (A : Option Addr) (b o c : Nat) (txn page cell val : Int) (w : World) (hm : x.log.length ≤ maxLen) (hcap : x.log.length ≤ c) (hr : RL w A b o x.log) : RetW Try.prog 158 [x.val A c, (Ac.v ⟨4, txn, page, cell, val⟩)] w (syncOf x val).1 [.int .i64 (syncOf x val).2] := by
 refine enter Try.func158 rfl Try.ntmps158 rfl SF.top trivial ?_
 refine sR ?_
 refine WL.eff (E.box rfl rfl rfl) rfl (fun b1 => ?_)
 refine WL.eff (E.box rfl rfl rfl) rfl (fun b2 => ?_)
 refine WL.eff (E.alloc Try.zeroValue54 rfl rfl) rfl (fun b3 => ?_)
 refine pA rfl rfl ?_
 refine nN ?_
 refine sR ?_
 refine pV (Y.loadAN wd_54 rfl m2 (r := x.cl A c) rfl) rfl ?_
 refine pP (Y.fieldAddr fa_61_4 rfl) rfl ?_
 refine pV (Y.load fl_3 rfl m1 rfl) rfl ?_
 refine WL.eff (E.retW ((syncOf x val).1) [.int .i64 (syncOf x val).2] Try.call78 rfl (fun _ w s => w_flushSync x A b o c val w hm hcap (hr.below s.low)) rfl) rfl (fun i => ?_)
 refine pP (Y.extract rfl rfl) rfl ?_
 refine pP (Y.extract rfl rfl) rfl ?_
 refine WL.eff (E.store Try.sizeOf54 rfl rfl rfl rfl rfl u0 rfl rfl) rfl (fun _ => ?_)
 refine pA rfl rfl ?_
 refine nN ?_
 refine WC.ret ?_
 refine WQ.done Try.results158 (RVs.cons (RV.cell wd_54 rfl m0 rfl) (RVs.cons (RV.tmp rfl) RVs.nil)) (fun a w s => ?_)
 · exact ⟨i, rfl, s.low, s.fact.1⟩

theorem w_doer5 (x : Wd) (A : Option Addr) (b o c : Nat) (txn page cell val : Int) (w : World) (hm : x.log.length ≤ maxLen) (hcap : x.log.length ≤ c) (hr : RL w A b o x.log) : RetW Try.prog 159 [x.val A c, (Ac.v ⟨5, txn, page, cell, val⟩)] w (flushOf x page).1 [.int .i64 (flushOf x page).2] := by
 refine enter Try.func159 rfl Try.ntmps159 rfl SF.top trivial ?_
 refine sR ?_
 refine WL.eff (E.box rfl rfl rfl) rfl (fun b1 => ?_)
 refine WL.eff (E.box rfl rfl rfl) rfl (fun b2 => ?_)
 refine WL.eff (E.alloc Try.zeroValue54 rfl rfl) rfl (fun b3 => ?_)
 refine pA rfl rfl ?_
 refine nN ?_
 refine sR ?_
 refine pV (Y.loadAN wd_54 rfl m2 (r := x.cl A c) rfl) rfl ?_
 refine pP (Y.fieldAddr fa_61_2 rfl) rfl ?_
 refine pV (Y.load fl_3 rfl m1 rfl) rfl ?_
 refine WL.eff (E.retW ((flushOf x page).1) [.int .i64 (flushOf x page).2] Try.call79 rfl (fun _ w s => w_flushPage x A b o c page w hm hcap (hr.below s.low)) rfl) rfl (fun i => ?_)
 refine pP (Y.extract rfl rfl) rfl ?_
 refine pP (Y.extract rfl rfl) rfl ?_
 refine WL.eff (E.store Try.sizeOf54 rfl rfl rfl rfl rfl u0 rfl rfl) rfl (fun _ => ?_)
 refine pA rfl rfl ?_
 refine nN ?_
 refine WC.ret ?_
 refine WQ.done Try.results159 (RVs.cons (RV.cell wd_54 rfl m0 rfl) (RVs.cons (RV.tmp rfl) RVs.nil)) (fun a w s => ?_)
 · exact ⟨i, rfl, s.low, s.fact.1⟩

theorem w_doer6 (x : Wd) (A : Option Addr) (b o c : Nat) (txn page cell val : Int) (w : World) (hm : x.log.length ≤ maxLen) (hcap : x.log.length ≤ c) (hr : RL w A b o x.log) : RetW Try.prog 160 [x.val A c, (Ac.v ⟨6, txn, page, cell, val⟩)] w (mendOf x (-1) true true true).1 [.int .i64 (mendOf x (-1) true true true).2.2] := by
 refine enter Try.func160 rfl Try.ntmps160 rfl SF.top trivial ?_
 refine sR ?_
 refine WL.eff (E.box rfl rfl rfl) rfl (fun b1 => ?_)
 refine WL.eff (E.box rfl rfl rfl) rfl (fun b2 => ?_)
 refine WL.eff (E.alloc Try.zeroValue54 rfl rfl) rfl (fun b3 => ?_)
 refine pA rfl rfl ?_
 refine nN ?_
 refine sR ?_
 refine pV (Y.loadAN wd_54 rfl m2 (r := x.cl A c) rfl) rfl ?_
 refine WL.eff (E.retW ((mendOf x (-1) true true true).1) [.int .i64 (mendOf x (-1) true true true).2.1, .int .i64 (mendOf x (-1) true true true).2.2] Try.call66 rfl (fun _ w s => w_mendAll x A b o c w hm hcap (hr.below s.low)) rfl) rfl (fun i => ?_)
 refine pM rfl rfl ?_
 refine pP (Y.extract rfl rfl) rfl ?_
 refine pP (Y.extract rfl rfl) rfl ?_
 refine pP (Y.extract rfl rfl) rfl ?_
 refine WL.eff (E.alloc Try.zeroValue54 rfl rfl) rfl (fun b4 => ?_)
 refine WL.eff (E.store Try.sizeOf54 rfl rfl rfl rfl rfl u0 rfl rfl) rfl (fun _ => ?_)
 refine pA rfl rfl ?_
 refine pA rfl rfl ?_
 refine nN ?_
 refine sR ?_
 refine pV (Y.loadAN wd_54 rfl m0 (r := (mendOf x (-1) true true true).1.cl i.1 i.2) rfl) rfl ?_
 refine pM rfl rfl ?_
 refine WL.eff (E.store Try.sizeOf54 rfl rfl rfl rfl rfl u1 rfl rfl) rfl (fun _ => ?_)
 refine pA rfl rfl ?_
 refine nN ?_
 refine WC.ret ?_
 refine WQ.done Try.results160 (RVs.cons (RV.cell wd_54 rfl m1 rfl) (RVs.cons (RV.tmp rfl) RVs.nil)) (fun a w s => ?_)
 · exact ⟨i, rfl, s.low, s.fact.1⟩

theorem w_actDo1 (x : Wd) (A : Option Addr) (b o c : Nat) (txn page cell val : Int) (w : World) (hm : x.log.length ≤ maxLen) (hcap : x.log.length ≤ c) (hr : RL w A b o x.log) : RetW Try.prog 65 [x.val A c, Ac.v (⟨1, txn, page, cell, val⟩ : Ac)] w (doOf x (⟨1, txn, page, cell, val⟩ : Ac)).1 [.int .i64 (doOf x (⟨1, txn, page, cell, val⟩ : Ac)).2] := by
 refine enter Try.func65 rfl Try.ntmps65 rfl SF.top trivial ?_
 refine sR ?_
 refine WL.eff (E.box rfl rfl rfl) rfl (fun b1 => ?_)
 refine WL.eff (E.box rfl rfl rfl) rfl (fun b2 => ?_)
 refine WL.eff (E.alloc Try.zeroValue54 rfl rfl) rfl (fun b3 => ?_)
 refine pA rfl rfl ?_
 refine nN ?_
 refine WC.seq ?_
 refine WC.draw [(1, .q false), (2, .q true), (0, .s false), (3, .q true), (4, .q false)] mixed (by kernel_rfl) ?_
 refine dP (Y.fieldAddr fa_61_0 rfl) rfl rfl ?_
 refine dV (Y.load (cs := Ac.cl (⟨1, txn, page, cell, val⟩ : Ac)) (v := .int .i64 1) fl_3 rfl m1 rfl) rfl rfl ?_
 refine WDm.spec (WS.free rfl (E.callN (fun b : Nat => .map (some b)) (fun b => SF.map w.heap.size b (doerL.map IE.entry) 6) Try.call133 rfl (fun _ w s => (w_doers w).mono fun e w' ⟨b, he, hb, hm, hl⟩ => ⟨b, he, hb, ⟨hm, Nat.le_trans s.low.size hl⟩, fun x hx => by have e : x = b := hx; rw [e]; exact hl⟩) rfl)) (fun _ => ext_newN rfl) (fun bm => ?_)
 refine dV (Y.lookup rfl rfl (fun a w s => s.fact.1.1) (fun w h => run_lookup_ie doerL 1 Try.underlying127 Try.zeroValue126 h)) rfl rfl ?_
 refine dP (Y.assign rfl) rfl rfl ?_
 refine WDm.nil (WQ.and ?_)
 refine WQ.next ?_
 refine WC.seq ?_
 refine sR ?_
 refine pM rfl rfl ?_
 refine pP (Y.binK (vx := doerF 155) (v := .bool false) rfl rfl (fun w => by kernel_rfl)) rfl ?_
 refine nN ?_
 refine WC.isF rfl (rfl) ?_
 refine WC.skip' ?_
 refine WQ.next ?_
 refine sR ?_
 refine pM rfl rfl ?_
 refine pV (Y.loadAN wd_54 rfl m2 (r := x.cl A c) rfl) rfl ?_
 refine pV (Y.loadAN wd_61 rfl m1 (r := Ac.cl (⟨1, txn, page, cell, val⟩ : Ac)) rfl) rfl ?_
 refine WL.eff (E.retWV (f := 155) (doOf x (⟨1, txn, page, cell, val⟩ : Ac)).1 [.int .i64 (doOf x (⟨1, txn, page, cell, val⟩ : Ac)).2] Try.call155 rfl rfl (fun _ w s => w_doer1 x A b o c txn page cell val w hm hcap (hr.below s.low)) rfl) rfl (fun i => ?_)
 refine pP (Y.extract rfl rfl) rfl ?_
 refine pP (Y.extract rfl rfl) rfl ?_
 refine WL.eff (E.store Try.sizeOf54 rfl rfl rfl rfl rfl u0 rfl rfl) rfl (fun _ => ?_)
 refine pA rfl rfl ?_
 refine nN ?_
 refine WC.ret ?_
 refine WQ.done Try.results65 (RVs.cons (RV.cell wd_54 rfl m0 rfl) (RVs.cons (RV.tmp rfl) RVs.nil)) (fun a w s => ?_)
 · exact ⟨i, rfl, s.low, s.fact.1⟩

theorem w_actDo2 (x : Wd) (A : Option Addr) (b o c : Nat) (txn page cell val : Int) (w : World) (hm : x.log.length ≤ maxLen) (hcap : x.log.length ≤ c) (hr : RL w A b o x.log) : RetW Try.prog 65 [x.val A c, Ac.v (⟨2, txn, page, cell, val⟩ : Ac)] w (doOf x (⟨2, txn, page, cell, val⟩ : Ac)).1 [.int .i64 (doOf x (⟨2, txn, page, cell, val⟩ : Ac)).2] := by
 refine enter Try.func65 rfl Try.ntmps65 rfl SF.top trivial ?_
 refine sR ?_
 refine WL.eff (E.box rfl rfl rfl) rfl (fun b1 => ?_)
 refine WL.eff (E.box rfl rfl rfl) rfl (fun b2 => ?_)
 refine WL.eff (E.alloc Try.zeroValue54 rfl rfl) rfl (fun b3 => ?_)
 refine pA rfl rfl ?_
 refine nN ?_
 refine WC.seq ?_
 refine WC.draw [(1, .q false), (2, .q true), (0, .s false), (3, .q true), (4, .q false)] mixed (by kernel_rfl) ?_
 refine dP (Y.fieldAddr fa_61_0 rfl) rfl rfl ?_
 refine dV (Y.load (cs := Ac.cl (⟨2, txn, page, cell, val⟩ : Ac)) (v := .int .i64 2) fl_3 rfl m1 rfl) rfl rfl ?_
 refine WDm.spec (WS.free rfl (E.callN (fun b : Nat => .map (some b)) (fun b => SF.map w.heap.size b (doerL.map IE.entry) 6) Try.call133 rfl (fun _ w s => (w_doers w).mono fun e w' ⟨b, he, hb, hm, hl⟩ => ⟨b, he, hb, ⟨hm, Nat.le_trans s.low.size hl⟩, fun x hx => by have e : x = b := hx; rw [e]; exact hl⟩) rfl)) (fun _ => ext_newN rfl) (fun bm => ?_)
 refine dV (Y.lookup rfl rfl (fun a w s => s.fact.1.1) (fun w h => run_lookup_ie doerL 2 Try.underlying127 Try.zeroValue126 h)) rfl rfl ?_
 refine dP (Y.assign rfl) rfl rfl ?_
 refine WDm.nil (WQ.and ?_)
 refine WQ.next ?_
 refine WC.seq ?_
 refine sR ?_
 refine pM rfl rfl ?_
 refine pP (Y.binK (vx := doerF 156) (v := .bool false) rfl rfl (fun w => by kernel_rfl)) rfl ?_
 refine nN ?_
 refine WC.isF rfl (rfl) ?_
 refine WC.skip' ?_
 refine WQ.next ?_
 refine sR ?_
 refine pM rfl rfl ?_
 refine pV (Y.loadAN wd_54 rfl m2 (r := x.cl A c) rfl) rfl ?_
 refine pV (Y.loadAN wd_61 rfl m1 (r := Ac.cl (⟨2, txn, page, cell, val⟩ : Ac)) rfl) rfl ?_
 refine WL.eff (E.retWV (f := 156) (doOf x (⟨2, txn, page, cell, val⟩ : Ac)).1 [.int .i64 (doOf x (⟨2, txn, page, cell, val⟩ : Ac)).2] Try.call156 rfl rfl (fun _ w s => w_doer2 x A b o c txn page cell val w hm hcap (hr.below s.low)) rfl) rfl (fun i => ?_)
 refine pP (Y.extract rfl rfl) rfl ?_
 refine pP (Y.extract rfl rfl) rfl ?_
 refine WL.eff (E.store Try.sizeOf54 rfl rfl rfl rfl rfl u0 rfl rfl) rfl (fun _ => ?_)
 refine pA rfl rfl ?_
 refine nN ?_
 refine WC.ret ?_
 refine WQ.done Try.results65 (RVs.cons (RV.cell wd_54 rfl m0 rfl) (RVs.cons (RV.tmp rfl) RVs.nil)) (fun a w s => ?_)
 · exact ⟨i, rfl, s.low, s.fact.1⟩

theorem w_actDo3 (x : Wd) (A : Option Addr) (b o c : Nat) (txn page cell val : Int) (w : World) (hm : x.log.length ≤ maxLen) (hcap : x.log.length ≤ c) (hr : RL w A b o x.log) : RetW Try.prog 65 [x.val A c, Ac.v (⟨3, txn, page, cell, val⟩ : Ac)] w (doOf x (⟨3, txn, page, cell, val⟩ : Ac)).1 [.int .i64 (doOf x (⟨3, txn, page, cell, val⟩ : Ac)).2] := by
 refine enter Try.func65 rfl Try.ntmps65 rfl SF.top trivial ?_
 refine sR ?_
 refine WL.eff (E.box rfl rfl rfl) rfl (fun b1 => ?_)
 refine WL.eff (E.box rfl rfl rfl) rfl (fun b2 => ?_)
 refine WL.eff (E.alloc Try.zeroValue54 rfl rfl) rfl (fun b3 => ?_)
 refine pA rfl rfl ?_
 refine nN ?_
 refine WC.seq ?_
 refine WC.draw [(1, .q false), (2, .q true), (0, .s false), (3, .q true), (4, .q false)] mixed (by kernel_rfl) ?_
 refine dP (Y.fieldAddr fa_61_0 rfl) rfl rfl ?_
 refine dV (Y.load (cs := Ac.cl (⟨3, txn, page, cell, val⟩ : Ac)) (v := .int .i64 3) fl_3 rfl m1 rfl) rfl rfl ?_
 refine WDm.spec (WS.free rfl (E.callN (fun b : Nat => .map (some b)) (fun b => SF.map w.heap.size b (doerL.map IE.entry) 6) Try.call133 rfl (fun _ w s => (w_doers w).mono fun e w' ⟨b, he, hb, hm, hl⟩ => ⟨b, he, hb, ⟨hm, Nat.le_trans s.low.size hl⟩, fun x hx => by have e : x = b := hx; rw [e]; exact hl⟩) rfl)) (fun _ => ext_newN rfl) (fun bm => ?_)
 refine dV (Y.lookup rfl rfl (fun a w s => s.fact.1.1) (fun w h => run_lookup_ie doerL 3 Try.underlying127 Try.zeroValue126 h)) rfl rfl ?_
 refine dP (Y.assign rfl) rfl rfl ?_
 refine WDm.nil (WQ.and ?_)
 refine WQ.next ?_
 refine WC.seq ?_
 refine sR ?_
 refine pM rfl rfl ?_
 refine pP (Y.binK (vx := doerF 157) (v := .bool false) rfl rfl (fun w => by kernel_rfl)) rfl ?_
 refine nN ?_
 refine WC.isF rfl (rfl) ?_
 refine WC.skip' ?_
 refine WQ.next ?_
 refine sR ?_
 refine pM rfl rfl ?_
 refine pV (Y.loadAN wd_54 rfl m2 (r := x.cl A c) rfl) rfl ?_
 refine pV (Y.loadAN wd_61 rfl m1 (r := Ac.cl (⟨3, txn, page, cell, val⟩ : Ac)) rfl) rfl ?_
 refine WL.eff (E.retWV (f := 157) (doOf x (⟨3, txn, page, cell, val⟩ : Ac)).1 [.int .i64 (doOf x (⟨3, txn, page, cell, val⟩ : Ac)).2] Try.call157 rfl rfl (fun _ w s => w_doer3 x A b o c txn page cell val w hm hcap (hr.below s.low)) rfl) rfl (fun i => ?_)
 refine pP (Y.extract rfl rfl) rfl ?_
 refine pP (Y.extract rfl rfl) rfl ?_
 refine WL.eff (E.store Try.sizeOf54 rfl rfl rfl rfl rfl u0 rfl rfl) rfl (fun _ => ?_)
 refine pA rfl rfl ?_
 refine nN ?_
 refine WC.ret ?_
 refine WQ.done Try.results65 (RVs.cons (RV.cell wd_54 rfl m0 rfl) (RVs.cons (RV.tmp rfl) RVs.nil)) (fun a w s => ?_)
 · exact ⟨i, rfl, s.low, s.fact.1⟩

theorem w_actDo4 (x : Wd) (A : Option Addr) (b o c : Nat) (txn page cell val : Int) (w : World) (hm : x.log.length ≤ maxLen) (hcap : x.log.length ≤ c) (hr : RL w A b o x.log) : RetW Try.prog 65 [x.val A c, Ac.v (⟨4, txn, page, cell, val⟩ : Ac)] w (doOf x (⟨4, txn, page, cell, val⟩ : Ac)).1 [.int .i64 (doOf x (⟨4, txn, page, cell, val⟩ : Ac)).2] := by
 refine enter Try.func65 rfl Try.ntmps65 rfl SF.top trivial ?_
 refine sR ?_
 refine WL.eff (E.box rfl rfl rfl) rfl (fun b1 => ?_)
 refine WL.eff (E.box rfl rfl rfl) rfl (fun b2 => ?_)
 refine WL.eff (E.alloc Try.zeroValue54 rfl rfl) rfl (fun b3 => ?_)
 refine pA rfl rfl ?_
 refine nN ?_
 refine WC.seq ?_
 refine WC.draw [(1, .q false), (2, .q true), (0, .s false), (3, .q true), (4, .q false)] mixed (by kernel_rfl) ?_
 refine dP (Y.fieldAddr fa_61_0 rfl) rfl rfl ?_
 refine dV (Y.load (cs := Ac.cl (⟨4, txn, page, cell, val⟩ : Ac)) (v := .int .i64 4) fl_3 rfl m1 rfl) rfl rfl ?_
 refine WDm.spec (WS.free rfl (E.callN (fun b : Nat => .map (some b)) (fun b => SF.map w.heap.size b (doerL.map IE.entry) 6) Try.call133 rfl (fun _ w s => (w_doers w).mono fun e w' ⟨b, he, hb, hm, hl⟩ => ⟨b, he, hb, ⟨hm, Nat.le_trans s.low.size hl⟩, fun x hx => by have e : x = b := hx; rw [e]; exact hl⟩) rfl)) (fun _ => ext_newN rfl) (fun bm => ?_)
 refine dV (Y.lookup rfl rfl (fun a w s => s.fact.1.1) (fun w h => run_lookup_ie doerL 4 Try.underlying127 Try.zeroValue126 h)) rfl rfl ?_
 refine dP (Y.assign rfl) rfl rfl ?_
 refine WDm.nil (WQ.and ?_)
 refine WQ.next ?_
 refine WC.seq ?_
 refine sR ?_
 refine pM rfl rfl ?_
 refine pP (Y.binK (vx := doerF 158) (v := .bool false) rfl rfl (fun w => by kernel_rfl)) rfl ?_
 refine nN ?_
 refine WC.isF rfl (rfl) ?_
 refine WC.skip' ?_
 refine WQ.next ?_
 refine sR ?_
 refine pM rfl rfl ?_
 refine pV (Y.loadAN wd_54 rfl m2 (r := x.cl A c) rfl) rfl ?_
 refine pV (Y.loadAN wd_61 rfl m1 (r := Ac.cl (⟨4, txn, page, cell, val⟩ : Ac)) rfl) rfl ?_
 refine WL.eff (E.retWV (f := 158) (doOf x (⟨4, txn, page, cell, val⟩ : Ac)).1 [.int .i64 (doOf x (⟨4, txn, page, cell, val⟩ : Ac)).2] Try.call158 rfl rfl (fun _ w s => w_doer4 x A b o c txn page cell val w hm hcap (hr.below s.low)) rfl) rfl (fun i => ?_)
 refine pP (Y.extract rfl rfl) rfl ?_
 refine pP (Y.extract rfl rfl) rfl ?_
 refine WL.eff (E.store Try.sizeOf54 rfl rfl rfl rfl rfl u0 rfl rfl) rfl (fun _ => ?_)
 refine pA rfl rfl ?_
 refine nN ?_
 refine WC.ret ?_
 refine WQ.done Try.results65 (RVs.cons (RV.cell wd_54 rfl m0 rfl) (RVs.cons (RV.tmp rfl) RVs.nil)) (fun a w s => ?_)
 · exact ⟨i, rfl, s.low, s.fact.1⟩

theorem w_actDo5 (x : Wd) (A : Option Addr) (b o c : Nat) (txn page cell val : Int) (w : World) (hm : x.log.length ≤ maxLen) (hcap : x.log.length ≤ c) (hr : RL w A b o x.log) : RetW Try.prog 65 [x.val A c, Ac.v (⟨5, txn, page, cell, val⟩ : Ac)] w (doOf x (⟨5, txn, page, cell, val⟩ : Ac)).1 [.int .i64 (doOf x (⟨5, txn, page, cell, val⟩ : Ac)).2] := by
 refine enter Try.func65 rfl Try.ntmps65 rfl SF.top trivial ?_
 refine sR ?_
 refine WL.eff (E.box rfl rfl rfl) rfl (fun b1 => ?_)
 refine WL.eff (E.box rfl rfl rfl) rfl (fun b2 => ?_)
 refine WL.eff (E.alloc Try.zeroValue54 rfl rfl) rfl (fun b3 => ?_)
 refine pA rfl rfl ?_
 refine nN ?_
 refine WC.seq ?_
 refine WC.draw [(1, .q false), (2, .q true), (0, .s false), (3, .q true), (4, .q false)] mixed (by kernel_rfl) ?_
 refine dP (Y.fieldAddr fa_61_0 rfl) rfl rfl ?_
 refine dV (Y.load (cs := Ac.cl (⟨5, txn, page, cell, val⟩ : Ac)) (v := .int .i64 5) fl_3 rfl m1 rfl) rfl rfl ?_
 refine WDm.spec (WS.free rfl (E.callN (fun b : Nat => .map (some b)) (fun b => SF.map w.heap.size b (doerL.map IE.entry) 6) Try.call133 rfl (fun _ w s => (w_doers w).mono fun e w' ⟨b, he, hb, hm, hl⟩ => ⟨b, he, hb, ⟨hm, Nat.le_trans s.low.size hl⟩, fun x hx => by have e : x = b := hx; rw [e]; exact hl⟩) rfl)) (fun _ => ext_newN rfl) (fun bm => ?_)
 refine dV (Y.lookup rfl rfl (fun a w s => s.fact.1.1) (fun w h => run_lookup_ie doerL 5 Try.underlying127 Try.zeroValue126 h)) rfl rfl ?_
 refine dP (Y.assign rfl) rfl rfl ?_
 refine WDm.nil (WQ.and ?_)
 refine WQ.next ?_
 refine WC.seq ?_
 refine sR ?_
 refine pM rfl rfl ?_
 refine pP (Y.binK (vx := doerF 159) (v := .bool false) rfl rfl (fun w => by kernel_rfl)) rfl ?_
 refine nN ?_
 refine WC.isF rfl (rfl) ?_
 refine WC.skip' ?_
 refine WQ.next ?_
 refine sR ?_
 refine pM rfl rfl ?_
 refine pV (Y.loadAN wd_54 rfl m2 (r := x.cl A c) rfl) rfl ?_
 refine pV (Y.loadAN wd_61 rfl m1 (r := Ac.cl (⟨5, txn, page, cell, val⟩ : Ac)) rfl) rfl ?_
 refine WL.eff (E.retWV (f := 159) (doOf x (⟨5, txn, page, cell, val⟩ : Ac)).1 [.int .i64 (doOf x (⟨5, txn, page, cell, val⟩ : Ac)).2] Try.call159 rfl rfl (fun _ w s => w_doer5 x A b o c txn page cell val w hm hcap (hr.below s.low)) rfl) rfl (fun i => ?_)
 refine pP (Y.extract rfl rfl) rfl ?_
 refine pP (Y.extract rfl rfl) rfl ?_
 refine WL.eff (E.store Try.sizeOf54 rfl rfl rfl rfl rfl u0 rfl rfl) rfl (fun _ => ?_)
 refine pA rfl rfl ?_
 refine nN ?_
 refine WC.ret ?_
 refine WQ.done Try.results65 (RVs.cons (RV.cell wd_54 rfl m0 rfl) (RVs.cons (RV.tmp rfl) RVs.nil)) (fun a w s => ?_)
 · exact ⟨i, rfl, s.low, s.fact.1⟩

theorem w_actDo6 (x : Wd) (A : Option Addr) (b o c : Nat) (txn page cell val : Int) (w : World) (hm : x.log.length ≤ maxLen) (hcap : x.log.length ≤ c) (hr : RL w A b o x.log) : RetW Try.prog 65 [x.val A c, Ac.v (⟨6, txn, page, cell, val⟩ : Ac)] w (doOf x (⟨6, txn, page, cell, val⟩ : Ac)).1 [.int .i64 (doOf x (⟨6, txn, page, cell, val⟩ : Ac)).2] := by
 refine enter Try.func65 rfl Try.ntmps65 rfl SF.top trivial ?_
 refine sR ?_
 refine WL.eff (E.box rfl rfl rfl) rfl (fun b1 => ?_)
 refine WL.eff (E.box rfl rfl rfl) rfl (fun b2 => ?_)
 refine WL.eff (E.alloc Try.zeroValue54 rfl rfl) rfl (fun b3 => ?_)
 refine pA rfl rfl ?_
 refine nN ?_
 refine WC.seq ?_
 refine WC.draw [(1, .q false), (2, .q true), (0, .s false), (3, .q true), (4, .q false)] mixed (by kernel_rfl) ?_
 refine dP (Y.fieldAddr fa_61_0 rfl) rfl rfl ?_
 refine dV (Y.load (cs := Ac.cl (⟨6, txn, page, cell, val⟩ : Ac)) (v := .int .i64 6) fl_3 rfl m1 rfl) rfl rfl ?_
 refine WDm.spec (WS.free rfl (E.callN (fun b : Nat => .map (some b)) (fun b => SF.map w.heap.size b (doerL.map IE.entry) 6) Try.call133 rfl (fun _ w s => (w_doers w).mono fun e w' ⟨b, he, hb, hm, hl⟩ => ⟨b, he, hb, ⟨hm, Nat.le_trans s.low.size hl⟩, fun x hx => by have e : x = b := hx; rw [e]; exact hl⟩) rfl)) (fun _ => ext_newN rfl) (fun bm => ?_)
 refine dV (Y.lookup rfl rfl (fun a w s => s.fact.1.1) (fun w h => run_lookup_ie doerL 6 Try.underlying127 Try.zeroValue126 h)) rfl rfl ?_
 refine dP (Y.assign rfl) rfl rfl ?_
 refine WDm.nil (WQ.and ?_)
 refine WQ.next ?_
 refine WC.seq ?_
 refine sR ?_
 refine pM rfl rfl ?_
 refine pP (Y.binK (vx := doerF 160) (v := .bool false) rfl rfl (fun w => by kernel_rfl)) rfl ?_
 refine nN ?_
 refine WC.isF rfl (rfl) ?_
 refine WC.skip' ?_
 refine WQ.next ?_
 refine sR ?_
 refine pM rfl rfl ?_
 refine pV (Y.loadAN wd_54 rfl m2 (r := x.cl A c) rfl) rfl ?_
 refine pV (Y.loadAN wd_61 rfl m1 (r := Ac.cl (⟨6, txn, page, cell, val⟩ : Ac)) rfl) rfl ?_
 refine WL.eff (E.retWV (f := 160) (doOf x (⟨6, txn, page, cell, val⟩ : Ac)).1 [.int .i64 (doOf x (⟨6, txn, page, cell, val⟩ : Ac)).2] Try.call160 rfl rfl (fun _ w s => w_doer6 x A b o c txn page cell val w hm hcap (hr.below s.low)) rfl) rfl (fun i => ?_)
 refine pP (Y.extract rfl rfl) rfl ?_
 refine pP (Y.extract rfl rfl) rfl ?_
 refine WL.eff (E.store Try.sizeOf54 rfl rfl rfl rfl rfl u0 rfl rfl) rfl (fun _ => ?_)
 refine pA rfl rfl ?_
 refine nN ?_
 refine WC.ret ?_
 refine WQ.done Try.results65 (RVs.cons (RV.cell wd_54 rfl m0 rfl) (RVs.cons (RV.tmp rfl) RVs.nil)) (fun a w s => ?_)
 · exact ⟨i, rfl, s.low, s.fact.1⟩

theorem w_actDo0 (x : Wd) (A : Option Addr) (b o c : Nat) (kind txn page cell val : Int) (w : World) (hm : x.log.length ≤ maxLen) (hcap : x.log.length ≤ c) (hr : RL w A b o x.log) (hk : kind ≠ 1 ∧ kind ≠ 2 ∧ kind ≠ 3 ∧ kind ≠ 4 ∧ kind ≠ 5 ∧ kind ≠ 6) : RetW Try.prog 65 [x.val A c, Ac.v (⟨kind, txn, page, cell, val⟩ : Ac)] w (doOf x (⟨kind, txn, page, cell, val⟩ : Ac)).1 [.int .i64 (doOf x (⟨kind, txn, page, cell, val⟩ : Ac)).2] := by
 have hno : lookE doerL kind = none := by
   obtain ⟨k1, k2, k3, k4, k5, k6⟩ := hk
   simp [lookE, doerL, k1.symm, k2.symm, k3.symm, k4.symm, k5.symm, k6.symm]
 refine enter Try.func65 rfl Try.ntmps65 rfl SF.top trivial ?_
 refine sR ?_
 refine WL.eff (E.box rfl rfl rfl) rfl (fun b1 => ?_)
 refine WL.eff (E.box rfl rfl rfl) rfl (fun b2 => ?_)
 refine WL.eff (E.alloc Try.zeroValue54 rfl rfl) rfl (fun b3 => ?_)
 refine pA rfl rfl ?_
 refine nN ?_
 refine WC.seq ?_
 refine WC.draw [(1, .q false), (2, .q true), (0, .s false), (3, .q true), (4, .q false)] mixed (by kernel_rfl) ?_
 refine dP (Y.fieldAddr fa_61_0 rfl) rfl rfl ?_
 refine dV (Y.load (cs := Ac.cl (⟨kind, txn, page, cell, val⟩ : Ac)) (v := .int .i64 kind) fl_3 rfl m1 rfl) rfl rfl ?_
 refine WDm.spec (WS.free rfl (E.callN (fun b : Nat => .map (some b)) (fun b => SF.map w.heap.size b (doerL.map IE.entry) 6) Try.call133 rfl (fun _ w s => (w_doers w).mono fun e w' ⟨b, he, hb, hm, hl⟩ => ⟨b, he, hb, ⟨hm, Nat.le_trans s.low.size hl⟩, fun x hx => by have e : x = b := hx; rw [e]; exact hl⟩) rfl)) (fun _ => ext_newN rfl) (fun bm => ?_)
 refine dV (Y.lookup rfl rfl (fun a w s => s.fact.1.1) (fun w h => run_lookup_ie doerL kind Try.underlying127 Try.zeroValue126 h)) rfl rfl ?_
 refine dP (Y.assign rfl) rfl rfl ?_
 refine WDm.nil (WQ.and ?_)
 refine WQ.next ?_
 refine WC.seq ?_
 refine sR ?_
 rw [hno]
 try dsimp only
 refine pM rfl rfl ?_
 refine pP (Y.binK (vx := .nilFunc) (v := .bool true) rfl rfl (fun w => by kernel_rfl)) rfl ?_
 refine nN ?_
 refine WC.isT rfl (rfl) ?_
 refine sR ?_
 refine pP (Y.build rfl (bf_54 )) rfl ?_
 refine WL.eff (E.store Try.sizeOf54 rfl rfl rfl rfl rfl u0 rfl rfl) rfl (fun _ => ?_)
 refine pA rfl rfl ?_
 refine nN ?_
 refine WC.ret ?_
 refine WQ.thenRet ?_
 refine WQ.done Try.results65 (RVs.cons (RV.cell wd_54 rfl m0 rfl) (RVs.cons (RV.tmp rfl) RVs.nil)) (fun a w s => ?_)
 · have e : doOf x (⟨kind, txn, page, cell, val⟩ : Ac) = (Wd.zero, 4) := by
     obtain ⟨k1, k2, k3, k4, k5, k6⟩ := hk
     simp [doOf, k1, k2, k3, k4, k5, k6]
   rw [e]
   exact ⟨(none, 0), rfl, s.low, own_nil _ _ _ _⟩

theorem w_actDo (x : Wd) (A : Option Addr) (b o c : Nat) (a : Ac) (w : World) (hm : x.log.length ≤ maxLen) (hcap : x.log.length ≤ c) (hr : RL w A b o x.log) : RetW Try.prog 65 [x.val A c, a.v] w (doOf x a).1 [.int .i64 (doOf x a).2] := by
  obtain ⟨k, t, p, q, v⟩ := a
  by_cases h1 : k = 1
  · subst h1; exact w_actDo1 x A b o c t p q v w hm hcap hr
  by_cases h2 : k = 2
  · subst h2; exact w_actDo2 x A b o c t p q v w hm hcap hr
  by_cases h3 : k = 3
  · subst h3; exact w_actDo3 x A b o c t p q v w hm hcap hr
  by_cases h4 : k = 4
  · subst h4; exact w_actDo4 x A b o c t p q v w hm hcap hr
  by_cases h5 : k = 5
  · subst h5; exact w_actDo5 x A b o c t p q v w hm hcap hr
  by_cases h6 : k = 6
  · subst h6; exact w_actDo6 x A b o c t p q v w hm hcap hr
  exact w_actDo0 x A b o c k t p q v w hm hcap hr ⟨h1, h2, h3, h4, h5, h6⟩
end Go.Proofs.Ytdbcimadjmdffaa
