/- The book in memory: what its blocks hold; looks into its maps. No condition. -/
import Derived.Test.YtdbcimadjmdffaaMp
import Derived.Test.YtdbcimadjmdffaaLb
set_option linter.unusedVariables false
set_option linter.unusedSimpArgs false
set_option linter.unusedSectionVars false
set_option maxRecDepth 100000
namespace Go.Proofs.Ytdbcimadjmdffaa
open Go.RowKit
/-- An entry of the map of Txns, and its Txn. -/
structure TxE where
  key : Int
  blk : Nat
  born : Nat
  st : Int
  last : Int
  A : Option Addr
  c : Nat
  up : List Nat
def TxE.cells (x : TxE) : List Value := [.int .i64 x.st, .int .i64 x.last, .slice x.A x.up.length x.c]
def TxE.ptr (x : TxE) : Value := .pointer (some ⟨x.blk, 0, none⟩)
def TxE.entry (x : TxE) : MapEntry := ⟨.int .i64 x.key, x.ptr, x.born⟩
def TxE.row (base : Nat) (x : TxE) : SF := SF.own base 3 1 (.slice x.A x.up.length x.c) x.up.length (nums x.up.reverse)
def TxE.blkc (x : TxE) : Nat × List Value × TypeId := (x.blk, x.cells, 117)
/-- An entry of a map whose keys are cells. -/
structure E2 where
  p : Int
  c : Int
  v : Value
  born : Nat
def key2 (p c : Int) : Value := .agg #[.int .i64 p, .int .i64 c]
def E2.entry (e : E2) : MapEntry := ⟨key2 e.p e.c, e.v, e.born⟩
def look2 : List E2 → Int → Int → Option Value
  | [], _, _ => none
  | e :: l, p, c => if e.p = p ∧ e.c = c then some e.v else look2 l p c
def look1 : List TxE → Int → Option TxE
  | [], _ => none
  | x :: l, t => if x.key = t then some x else look1 l t
structure Bk where
  bk : Nat
  mt : Nat
  mo : Nat
  A : Option Addr
  c : Nat
  l : List R
  pg : P3
  tx : List TxE
  k1 : Nat
  ow : List E2
  k2 : Nat
def flat (l : List R) : List Value := l.flatMap R.cl
def Bk.cells (B : Bk) : List Value := [.slice B.A B.l.length B.c, .int .i64 B.pg.p0.c0, .int .i64 B.pg.p0.c1, .int .i64 B.pg.p0.c2, .int .i64 B.pg.p0.last, .int .i64 B.pg.p1.c0, .int .i64 B.pg.p1.c1, .int .i64 B.pg.p1.c2, .int .i64 B.pg.p1.last, .int .i64 B.pg.p2.c0, .int .i64 B.pg.p2.c1, .int .i64 B.pg.p2.c2, .int .i64 B.pg.p2.last, .map (some B.mt), .map (some B.mo)]
def Bk.hp (B : Bk) : Hp := (B.bk, B.cells, 112) :: B.tx.map TxE.blkc
def SF.ups (base : Nat) : List TxE → SF
  | [] => SF.top
  | x :: l => (x.row base).sep (SF.ups base l)
def SF.bk (base : Nat) (B : Bk) : SF := (SF.map base B.mt (B.tx.map TxE.entry) B.k1).sep ((SF.map base B.mo (B.ow.map E2.entry) B.k2).sep ((SF.own base 34 8 (.slice B.A B.l.length B.c) B.l.length (flat B.l)).sep (SF.ups base B.tx)))
def Bk.ptr (B : Bk) : Value := .pointer (some ⟨B.bk, 0, none⟩)
/-! ### Looks into maps -/
def find1 : List TxE → Int → Nat → Option (Nat × Value)
  | [], _, _ => none
  | x :: l, t, i => if x.key = t then some (i, x.ptr) else find1 l t (i + 1)
theorem findNow_int (t : Int) : ∀ (l : List TxE) (i : Nat), Instr.findNow (.int .i64) (.int .i64 t) (l.map TxE.entry) i = some (find1 l t i)
  | [], _ => rfl
  | x :: l, i => by
    simp only [List.map_cons, Instr.findNow, TxE.entry, Instr.sameNow, if_true, find1]
    by_cases h : x.key = t
    · subst h; simp
    · have h' : (t == x.key) = false := by simpa using fun e : t = x.key => h e.symm
      rw [h', if_neg h]
      exact findNow_int t l (i + 1)
theorem find1_look : ∀ (l : List TxE) (t : Int) (i : Nat), (find1 l t i).map (·.2) = (look1 l t).map TxE.ptr
  | [], _, _ => rfl
  | x :: l, t, i => by
    unfold find1 look1
    split
    · rfl
    · exact find1_look l t (i + 1)
theorem check_int (e : Bool) (t : Int) (w : World) : (Instr.checkKey e 10000 3 (.int .i64 t)).run Try.prog w = .ok () w := by kernel_rfl
theorem check_two (e : Bool) (p c : Int) (w : World) : (Instr.checkKey e 10000 51 (.agg #[.int .i64 p, .int .i64 c])).run Try.prog w = .ok () w := by kernel_rfl
theorem run_getObj {P : Program} {w : World} {b : Nat} {es : List MapEntry} {k : Nat} (h : w.heap[b]? = some (.map es.toArray k)) : (getObj b).run P w = .ok (.map es.toArray k) w := by
  simp [getObj, Sem.run, h]
theorem run_setObj {P : Program} {w : World} {b : Nat} {es es' : List MapEntry} {k k' : Nat} (h : w.heap[b]? = some (.map es.toArray k)) : (setObj b (.map es'.toArray k')).run P w = .ok () (putMap w b es' k') := by
  simp [setObj, Sem.run, h, putMap]
theorem find_int {w : World} (l : List TxE) (t : Int) : (Instr.findKey 3 (.int .i64 t) (l.map TxE.entry)).run Try.prog w = .ok (find1 l t 0) w := by
  unfold Instr.findKey
  simp only [Sem.run_bind, run_underlying Try.underlying3, Result.andThen_ok, findNow_int, Sem.run_pure]
theorem run_lookup_tx {w : World} {b k : Nat} (l : List TxE) (t : Int) (h : w.heap[b]? = some (.map (l.map TxE.entry).toArray k)) :
    (Instr.lookup 109 (.map (some b)) (.int .i64 t) false).run Try.prog w = .ok (((look1 l t).map TxE.ptr).getD (.pointer none)) w := by
  unfold Instr.lookup
  have hz : (zeroValue 114).run Try.prog w = .ok (.pointer none) w := Try.zeroValue114 w
  have hl := find1_look l t 0
  simp only [Sem.run_bind, run_underlying Try.underlying109, Result.andThen_ok, run_getObj h, Sem.run_pure, check_int, find_int]
  cases hf : find1 l t 0 with
  | none =>
    rw [hf] at hl
    simp only [Option.map_none] at hl
    rw [← hl]
    simp only [hz, Sem.run_bind, Result.andThen_ok, Sem.run_pure]
    rfl
  | some x =>
    rw [hf] at hl
    simp only [Option.map_some] at hl
    rw [← hl]
    rfl
theorem find1_none : ∀ (l : List TxE) (t : Int) (i : Nat), look1 l t = none → find1 l t i = none
  | [], _, _, _ => rfl
  | x :: l, t, i, h => by
    unfold look1 at h
    unfold find1
    split at h
    · cases h
    · rename_i hn
      rw [if_neg hn]
      exact find1_none l t (i + 1) h
theorem run_update_tx {w : World} {b k : Nat} (l : List TxE) (t : Int) (v : Value) (h : w.heap[b]? = some (.map (l.map TxE.entry).toArray k)) (hn : look1 l t = none) :
    (Instr.mapUpdate 109 (.map (some b)) (.int .i64 t) v).run Try.prog w = .ok () (putMap w b (l.map TxE.entry ++ [⟨.int .i64 t, v, k⟩]) (k + 1)) := by
  unfold Instr.mapUpdate
  simp only [Sem.run_bind, run_underlying Try.underlying109, Result.andThen_ok, run_getObj h, check_int, find_int, find1_none l t 0 hn]
  have e : ((l.map TxE.entry).toArray).push (⟨.int .i64 t, v, k⟩ : MapEntry) = (l.map TxE.entry ++ [(⟨.int .i64 t, v, k⟩ : MapEntry)]).toArray := by simp
  rw [e]
  exact run_setObj h
/-! Keys that are cells. -/
theorem eq_two (p c p' c' : Int) (w : World) : (Op.equal 51 (.agg #[.int .i64 p, .int .i64 c]) (.agg #[.int .i64 p', .int .i64 c'])).run Try.prog w = .ok (p == p' && c == c') w := by
  obtain ⟨i, hi⟩ := Option.isSome_iff_exists.1 has_int
  unfold Op.equal Op.maxDepth
  rw [run_equalIn_array w 9999 _ _ Try.underlying51 hi, cells_int]
  simp only [List.range, List.range.loop, Op.eqItems]
  simp [go_sem]
  by_cases h1 : p = p' <;> by_cases h2 : c = c' <;> simp [h1, h2]
def find2 : List E2 → Int → Int → Nat → Option (Nat × Value)
  | [], _, _, _ => none
  | e :: l, p, c, i => if e.p = p ∧ e.c = c then some (i, e.v) else find2 l p c (i + 1)
theorem findAsking_two (p c : Int) (w : World) : ∀ (l : List E2) (i : Nat), (Instr.findAsking 51 (key2 p c) (l.map E2.entry) i).run Try.prog w = .ok (find2 l p c i) w
  | [], _ => rfl
  | e :: l, i => by
    simp only [List.map_cons, Instr.findAsking, Sem.run_bind, E2.entry]
    unfold key2
    rw [eq_two]
    simp only [Result.andThen_ok, find2]
    by_cases h : e.p = p ∧ e.c = c
    · obtain ⟨rfl, rfl⟩ := h
      simp
    · have h' : (p == e.p && c == e.c) = false := by
        cases hb : (p == e.p && c == e.c)
        · rfl
        · simp at hb; exact absurd ⟨hb.1.symm, hb.2.symm⟩ h
      rw [h', if_neg h]
      exact findAsking_two p c w l (i + 1)
theorem find_two {w : World} (l : List E2) (p c : Int) : (Instr.findKey 51 (key2 p c) (l.map E2.entry)).run Try.prog w = .ok (find2 l p c 0) w := by
  unfold Instr.findKey
  simp only [Sem.run_bind, run_underlying Try.underlying51, Result.andThen_ok]
  cases l with
  | nil => rfl
  | cons e l =>
    have : Instr.findNow (.array 2 3) (key2 p c) ((e :: l).map E2.entry) 0 = none := rfl
    rw [this]
    exact findAsking_two p c w (e :: l) 0
theorem find2_look : ∀ (l : List E2) (p c : Int) (i : Nat), (find2 l p c i).map (·.2) = look2 l p c
  | [], _, _, _ => rfl
  | e :: l, p, c, i => by
    unfold find2 look2
    split
    · rfl
    · exact find2_look l p c (i + 1)
theorem run_lookup_two {w : World} {b k T e : Nat} {z : Value} (l : List E2) (p c : Int) (hu : Try.prog.underlying T = some (.map 51 e)) (hz : ∀ w, (zeroValue e).run Try.prog w = .ok z w) (h : w.heap[b]? = some (.map (l.map E2.entry).toArray k)) :
    (Instr.lookup T (.map (some b)) (key2 p c) false).run Try.prog w = .ok ((look2 l p c).getD z) w := by
  unfold Instr.lookup
  have hl := find2_look l p c 0
  have hc := check_two (l.map E2.entry).toArray.isEmpty p c w
  simp only [Sem.run_bind, run_underlying hu, Result.andThen_ok, run_getObj h, Sem.run_pure]
  rw [show (Instr.checkKey (l.map E2.entry).toArray.isEmpty 10000 51 (key2 p c)).run Try.prog w = .ok () w from hc]
  simp only [Result.andThen_ok, find_two]
  cases hf : find2 l p c 0 with
  | none =>
    rw [hf] at hl
    simp only [Option.map_none] at hl
    rw [← hl]
    simp only [hz, Sem.run_bind, Result.andThen_ok, Sem.run_pure]
    rfl
  | some x =>
    rw [hf] at hl
    simp only [Option.map_some] at hl
    rw [← hl]
    rfl
/-- A map with one key set. -/
def set2 : List E2 → Int → Int → Value → Nat → List E2
  | [], p, c, v, k => [⟨p, c, v, k⟩]
  | e :: l, p, c, v, k => if e.p = p ∧ e.c = c then { e with v := v } :: l else e :: set2 l p c v k
def has2 (l : List E2) (p c : Int) : Bool := (look2 l p c).isSome
theorem find2_some : ∀ (l : List E2) (p c : Int) (i j : Nat) (v : Value), find2 l p c i = some (j, v) → ∃ l1 e l2, l = l1 ++ e :: l2 ∧ j = i + l1.length ∧ e.p = p ∧ e.c = c ∧ e.v = v ∧ ∀ v' k, set2 l p c v' k = l1 ++ { e with v := v' } :: l2
  | [], _, _, _, _, _, h => by cases h
  | e :: l, p, c, i, j, v, h => by
    unfold find2 at h
    split at h
    · rename_i hk
      injection h with h
      injection h with h1 h2
      exact ⟨[], e, l, rfl, by simp [h1], hk.1, hk.2, h2, fun v' k => by simp [set2, hk]⟩
    · rename_i hk
      obtain ⟨l1, e', l2, rfl, h2, h3, h4, h5, h6⟩ := find2_some l p c (i + 1) j v h
      exact ⟨e :: l1, e', l2, rfl, by simp; omega, h3, h4, h5, fun v' k => by simp [set2, hk, h6]⟩
theorem find2_none : ∀ (l : List E2) (p c : Int) (i : Nat), find2 l p c i = none → ∀ v k, set2 l p c v k = l ++ [⟨p, c, v, k⟩]
  | [], _, _, _, _ => fun _ _ => rfl
  | e :: l, p, c, i, h => fun v k => by
    unfold find2 at h
    split at h
    · cases h
    · rename_i hk
      simp [set2, hk, find2_none l p c (i + 1) h v k]
theorem look2_set : ∀ (l : List E2) (p c : Int) (v : Value) (k : Nat) (p' c' : Int), look2 (set2 l p c v k) p' c' = if p = p' ∧ c = c' then some v else look2 l p' c'
  | [], p, c, v, k, p', c' => by simp [set2, look2]
  | e :: l, p, c, v, k, p', c' => by
    have ih := look2_set l p c v k p' c'
    unfold set2
    split
    · rename_i h
      obtain ⟨rfl, rfl⟩ := h
      simp only [look2]
      split <;> simp_all
    · rename_i h
      simp only [look2, ih]
      by_cases h1 : e.p = p' ∧ e.c = c'
      · obtain ⟨rfl, rfl⟩ := h1
        simp
        intro h2 h3
        exact absurd ⟨h2.symm, h3.symm⟩ h
      · simp [h1]
def nk (l : List E2) (p c : Int) (k : Nat) : Nat := if has2 l p c then k else k + 1
theorem modify_mid {α : Type} : ∀ (l1 : List α) (x : α) (l2 : List α) (f : α → α), (l1 ++ x :: l2).modify l1.length f = l1 ++ f x :: l2
  | [], x, l2, f => rfl
  | a :: l1, x, l2, f => by
    have := modify_mid l1 x l2 f
    simpa using this
theorem same_two (p c : Int) : Instr.sameBits 10000 (key2 p c) (key2 p c) = true := by
  show ((2 : Nat) == 2 && _) = true
  simp [Instr.sameBits]
theorem run_update_two {w : World} {b k T e : Nat} (l : List E2) (p c : Int) (v : Value) (hu : Try.prog.underlying T = some (.map 51 e)) (h : w.heap[b]? = some (.map (l.map E2.entry).toArray k)) :
    (Instr.mapUpdate T (.map (some b)) (key2 p c) v).run Try.prog w = .ok () (putMap w b ((set2 l p c v k).map E2.entry) (nk l p c k)) := by
  unfold Instr.mapUpdate
  have hl := find2_look l p c 0
  simp only [Sem.run_bind, run_underlying hu, Result.andThen_ok, run_getObj h]
  rw [show (Instr.checkKey false 10000 51 (key2 p c)).run Try.prog w = .ok () w from check_two false p c w]
  simp only [Result.andThen_ok, find_two]
  cases hf : find2 l p c 0 with
  | none =>
    rw [hf] at hl
    have hn : nk l p c k = k + 1 := by simp [nk, has2, ← hl]
    have e1 : ((l.map E2.entry).toArray).push (⟨key2 p c, v, k⟩ : MapEntry) = ((set2 l p c v k).map E2.entry).toArray := by
      rw [find2_none l p c 0 hf v k]; simp [E2.entry]
    simp only [hn]
    rw [e1]
    exact run_setObj h
  | some x =>
    obtain ⟨j, v0⟩ := x
    rw [hf] at hl
    have hn : nk l p c k = k := by simp [nk, has2, ← hl]
    obtain ⟨l1, e0, l2, rfl, rfl, rfl, rfl, rfl, h6⟩ := find2_some l p c 0 j v0 hf
    have hk : (Instr.keyThatStays ((((((l1 ++ e0 :: l2).map E2.entry).toArray)[0 + l1.length]?).map (·.key)).getD (key2 e0.p e0.c)) (key2 e0.p e0.c)).run Try.prog w = .ok (key2 e0.p e0.c) w := by
      have : (((((l1 ++ e0 :: l2).map E2.entry).toArray)[0 + l1.length]?).map (·.key)).getD (key2 e0.p e0.c) = key2 e0.p e0.c := by
        simp [E2.entry]
      rw [this]
      unfold Instr.keyThatStays
      rw [same_two]
      rfl
    simp only [Sem.run_bind, hk, Result.andThen_ok]
    have e1 : (((l1 ++ e0 :: l2).map E2.entry).toArray).modify (0 + l1.length) (fun e => { e with key := key2 e0.p e0.c, val := v }) = ((set2 (l1 ++ e0 :: l2) e0.p e0.c v k).map E2.entry).toArray := by
      rw [h6 v k]
      apply Array.toList_inj.1
      have := modify_mid (l1.map E2.entry) (E2.entry e0) (l2.map E2.entry) (fun e => { e with key := key2 e0.p e0.c, val := v })
      simp only [List.length_map] at this
      simpa [E2.entry] using this
    rw [e1, hn]
    exact run_setObj h
def del2 : List E2 → Int → Int → List E2
  | [], _, _ => []
  | e :: l, p, c => if e.p = p ∧ e.c = c then l else e :: del2 l p c
theorem find2_del : ∀ (l : List E2) (p c : Int) (i : Nat), (match find2 l p c i with | some (j, _) => l.eraseIdx (j - i) | none => l) = del2 l p c ∧ ∀ j v, find2 l p c i = some (j, v) → i ≤ j
  | [], _, _, _ => ⟨rfl, fun _ _ h => by cases h⟩
  | e :: l, p, c, i => by
    obtain ⟨h1, h2⟩ := find2_del l p c (i + 1)
    by_cases hk : e.p = p ∧ e.c = c
    · have e1 : find2 (e :: l) p c i = some (i, e.v) := by simp only [find2, if_pos hk]
      have e2 : del2 (e :: l) p c = l := by simp only [del2, if_pos hk]
      rw [e1, e2]
      refine ⟨by simp, fun j v h => ?_⟩
      injection h with h
      injection h with h _
      omega
    · have e1 : find2 (e :: l) p c i = find2 l p c (i + 1) := by simp only [find2, if_neg hk]
      have e2 : del2 (e :: l) p c = e :: del2 l p c := by simp only [del2, if_neg hk]
      rw [e1, e2]
      refine ⟨?_, fun j v h => by have := h2 j v h; omega⟩
      cases hf : find2 l p c (i + 1) with
      | none => rw [hf] at h1; simp only at h1 ⊢; rw [← h1]
      | some x =>
        obtain ⟨j, v⟩ := x
        rw [hf] at h1
        have := h2 j v hf
        simp only at h1 ⊢
        rw [← h1, show j - i = (j - (i + 1)) + 1 by omega]
        rfl
theorem erase_map {α β : Type} (f : α → β) : ∀ (l : List α) (j : Nat), (l.map f).eraseIdx j = (l.eraseIdx j).map f
  | [], _ => rfl
  | _ :: _, 0 => rfl
  | x :: l, j + 1 => by simpa using erase_map f l j
theorem run_delete_two {w : World} {b k T e T2 T' : Nat} (l : List E2) (p c : Int) (hu : Try.prog.underlying T = some (.map 51 e)) (h : w.heap[b]? = some (.map (l.map E2.entry).toArray k)) :
    (Builtin.delete_ #[T, T2] T' #[.map (some b), key2 p c]).run Try.prog w = .ok (.tuple #[]) (putMap w b ((del2 l p c).map E2.entry) k) := by
  unfold Builtin.delete_
  have hl := (find2_del l p c 0).1
  have hc := check_two (l.map E2.entry).toArray.isEmpty p c w
  simp only [List.getElem?_toArray, List.getElem?_cons_zero, List.getElem?_cons_succ, Sem.run_bind, run_underlying hu, Result.andThen_ok, run_getObj h]
  rw [show (Instr.checkKey (l.map E2.entry).toArray.isEmpty 10000 51 (key2 p c)).run Try.prog w = .ok () w from hc]
  simp only [Result.andThen_ok, find_two]
  cases hf : find2 l p c 0 with
  | none =>
    rw [hf] at hl
    simp only at hl
    rw [← hl]
    simp only [Sem.run_bind, run_setObj h, Result.andThen_ok, Sem.run_pure]
  | some x =>
    obtain ⟨j, v⟩ := x
    rw [hf] at hl
    simp only [Nat.sub_zero] at hl
    have e1 : ((l.map E2.entry).toArray).eraseIdxIfInBounds j = ((del2 l p c).map E2.entry).toArray := by
      rw [← hl]
      apply Array.toList_inj.1
      simpa using erase_map E2.entry l j
    simp only [e1, Sem.run_bind, run_setObj h, Result.andThen_ok, Sem.run_pure]
/-! ### States of the book -/
def Bk.add (B : Bk) (x : TxE) : Bk := { B with tx := B.tx ++ [x], k1 := B.k1 + 1 }
def tx0 (t : Int) (b k : Nat) : TxE := ⟨t, b, k, 0, 0, none, 0, []⟩
/-- What Of leaves: the Txn is there. -/
def OfB (B : Bk) (t : Int) (i : Bk × TxE) : Prop := look1 i.1.tx t = some i.2 ∧ ((i.1 = B ∧ look1 B.tx t = some i.2) ∨ (look1 B.tx t = none ∧ i.2 = tx0 t i.2.blk B.k1 ∧ i.1 = B.add i.2))
theorem look1_key : ∀ {l : List TxE} {t : Int} {x : TxE}, look1 l t = some x → x.key = t ∧ ∃ l1 l2, l = l1 ++ x :: l2 ∧ look1 l1 t = none
  | [], _, _, h => by cases h
  | y :: l, t, x, h => by
    unfold look1 at h
    split at h
    · rename_i hk
      injection h with h
      subst h
      exact ⟨hk, [], l, rfl, rfl⟩
    · rename_i hk
      obtain ⟨h1, l1, l2, rfl, h2⟩ := look1_key h
      exact ⟨h1, y :: l1, l2, rfl, by simp [look1, hk, h2]⟩
theorem look1_add {l : List TxE} {t : Int} {x : TxE} (h : look1 l t = none) (hx : x.key = t) : look1 (l ++ [x]) t = some x := by
  induction l with
  | nil => simp [look1, hx]
  | cons y l ih =>
    unfold look1 at h
    split at h
    · cases h
    · rename_i hk
      simp [look1, hk, ih h]
theorem ups_app (base : Nat) : ∀ (l : List TxE) (x : TxE), ((x.row base).sep (SF.ups base l)).le (SF.ups base (l ++ [x]))
  | [], x => SF.le_refl _
  | y :: l, x => SF.le_trans (SF.sep_rot _ _ _) (SF.sep_mono (SF.le_refl _) (ups_app base l x))
theorem row_new (base : Nat) (t : Int) (b k : Nat) (F : SF) : F.le (((tx0 t b k).row base).sep F) := fun w h => ⟨⟨World.ownsRow_nil w base _ _, h, fun x hx => by cases hx⟩, fun x hx => hx.elim (fun h => by cases h) id⟩
theorem hp_add (B : Bk) (x : TxE) (Hl : Hp) : Hsub ((B.add x).hp ++ Hl) (x.blkc :: (B.hp ++ Hl)) := by
  refine Hsub.of_perm ?_
  show List.Perm ((B.bk, B.cells, _) :: ((B.tx ++ [x]).map TxE.blkc) ++ Hl) _
  rw [List.map_append]
  simp only [List.map_cons, List.map_nil, List.cons_append, List.append_assoc, List.nil_append, Bk.hp]
  exact ((List.perm_middle (l₁ := B.tx.map TxE.blkc) (a := x.blkc) (l₂ := Hl)).cons _).trans (List.Perm.swap _ _ _)
theorem bk_map (base : Nat) (B : Bk) (G : SF) : ((SF.bk base B).sep G).le ((SF.map base B.mt (B.tx.map TxE.entry) B.k1).sep (((SF.map base B.mo (B.ow.map E2.entry) B.k2).sep ((SF.own base 34 8 (.slice B.A B.l.length B.c) B.l.length (flat B.l)).sep (SF.ups base B.tx))).sep G)) := SF.sep_assoc _ _ _
theorem bk_map' (base : Nat) (B : Bk) (G : SF) : ((SF.map base B.mt (B.tx.map TxE.entry) B.k1).sep (((SF.map base B.mo (B.ow.map E2.entry) B.k2).sep ((SF.own base 34 8 (.slice B.A B.l.length B.c) B.l.length (flat B.l)).sep (SF.ups base B.tx))).sep G)).le ((SF.bk base B).sep G) := SF.sep_assoc' _ _ _
theorem bk_add (base : Nat) (B : Bk) (G : SF) (t : Int) (b : Nat) :
    ((SF.map base B.mt (B.tx.map TxE.entry ++ [⟨.int .i64 t, .pointer (some ⟨b, 0, none⟩), B.k1⟩]) (B.k1 + 1)).sep (((SF.map base B.mo (B.ow.map E2.entry) B.k2).sep ((SF.own base 34 8 (.slice B.A B.l.length B.c) B.l.length (flat B.l)).sep (SF.ups base B.tx))).sep G)).le ((SF.bk base (B.add (tx0 t b B.k1))).sep G) := by
  have e : (B.add (tx0 t b B.k1)).tx.map TxE.entry = B.tx.map TxE.entry ++ [⟨.int .i64 t, .pointer (some ⟨b, 0, none⟩), B.k1⟩] := by simp [Bk.add, TxE.entry, tx0, TxE.ptr]
  refine SF.le_trans ?_ (bk_map' base _ G)
  rw [e]
  refine SF.sep_mono (SF.le_refl _) (SF.sep_mono (SF.sep_mono (SF.le_refl _) (SF.sep_mono (SF.le_refl _) ?_)) (SF.le_refl _))
  exact SF.le_trans (row_new base t b B.k1 _) (ups_app base B.tx _)
end Go.Proofs.Ytdbcimadjmdffaa
