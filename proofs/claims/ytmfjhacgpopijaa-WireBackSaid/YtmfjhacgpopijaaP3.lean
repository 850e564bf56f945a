/- The book in memory, and what its functions do. No condition. -/
import Derived.Test.YtmfjhacgpopijaaP2
import Derived.Test.YtmfjhacgpopijaaP1
section
set_option linter.unusedVariables false
set_option linter.unusedSimpArgs false
set_option linter.unusedSectionVars false
set_option maxRecDepth 100000
namespace Go.Proofs.Ytmfjhacgpopijaa
open Go.RowKit
/-- An entry of the map of Txns, and its Txn. -/
structure TxE where
  key : Int
  blk : Nat
  born : Nat
  st : Int
  last : Int
  A : Option Addr
  c : Nat
  up : List Nat
def TxE.cells (x : TxE) : List Value := [.int .i64 x.st, .int .i64 x.last, .slice x.A x.up.length x.c]
def TxE.ptr (x : TxE) : Value := .pointer (some ⟨x.blk, 0, none⟩)
def TxE.entry (x : TxE) : MapEntry := ⟨.int .i64 x.key, x.ptr, x.born⟩
def TxE.row (base : Nat) (x : TxE) : SF := SF.own base 3 1 (.slice x.A x.up.length x.c) x.up.length (nums x.up.reverse)
def TxE.blkc (x : TxE) : Nat × List Value × TypeId := (x.blk, x.cells, 92)
/-- An entry of a map whose keys are cells. -/
structure E2 where
  p : Int
  c : Int
  v : Value
  born : Nat
def key2 (p c : Int) : Value := .agg #[.int .i64 p, .int .i64 c]
def E2.entry (e : E2) : MapEntry := ⟨key2 e.p e.c, e.v, e.born⟩
def look2 : List E2 → Int → Int → Option Value
  | [], _, _ => none
  | e :: l, p, c => if e.p = p ∧ e.c = c then some e.v else look2 l p c
def look1 : List TxE → Int → Option TxE
  | [], _ => none
  | x :: l, t => if x.key = t then some x else look1 l t
structure Bk where
  bk : Nat
  mt : Nat
  mo : Nat
  A : Option Addr
  c : Nat
  l : List R
  pg : P3
  tx : List TxE
  k1 : Nat
  ow : List E2
  k2 : Nat
def flat (l : List R) : List Value := l.flatMap R.cl
def Bk.cells (B : Bk) : List Value := [.slice B.A B.l.length B.c, .int .i64 B.pg.p0.c0, .int .i64 B.pg.p0.c1, .int .i64 B.pg.p0.c2, .int .i64 B.pg.p0.last, .int .i64 B.pg.p1.c0, .int .i64 B.pg.p1.c1, .int .i64 B.pg.p1.c2, .int .i64 B.pg.p1.last, .int .i64 B.pg.p2.c0, .int .i64 B.pg.p2.c1, .int .i64 B.pg.p2.c2, .int .i64 B.pg.p2.last, .map (some B.mt), .map (some B.mo)]
def Bk.hp (B : Bk) : Hp := (B.bk, B.cells, 78) :: B.tx.map TxE.blkc
def SF.ups (base : Nat) : List TxE → SF
  | [] => SF.top
  | x :: l => (x.row base).sep (SF.ups base l)
def SF.bk (base : Nat) (B : Bk) : SF := (SF.map base B.mt (B.tx.map TxE.entry) B.k1).sep ((SF.map base B.mo (B.ow.map E2.entry) B.k2).sep ((SF.own base 48 8 (.slice B.A B.l.length B.c) B.l.length (flat B.l)).sep (SF.ups base B.tx)))
def Bk.ptr (B : Bk) : Value := .pointer (some ⟨B.bk, 0, none⟩)
/-! ### Looks into maps -/
def find1 : List TxE → Int → Nat → Option (Nat × Value)
  | [], _, _ => none
  | x :: l, t, i => if x.key = t then some (i, x.ptr) else find1 l t (i + 1)
theorem findNow_int (t : Int) : ∀ (l : List TxE) (i : Nat), Instr.findNow (.int .i64) (.int .i64 t) (l.map TxE.entry) i = some (find1 l t i)
  | [], _ => rfl
  | x :: l, i => by
    simp only [List.map_cons, Instr.findNow, TxE.entry, Instr.sameNow, if_true, find1]
    by_cases h : x.key = t
    · subst h; simp
    · have h' : (t == x.key) = false := by simpa using fun e : t = x.key => h e.symm
      rw [h', if_neg h]
      exact findNow_int t l (i + 1)
theorem find1_look : ∀ (l : List TxE) (t : Int) (i : Nat), (find1 l t i).map (·.2) = (look1 l t).map TxE.ptr
  | [], _, _ => rfl
  | x :: l, t, i => by
    unfold find1 look1
    split
    · rfl
    · exact find1_look l t (i + 1)
theorem check_int (e : Bool) (t : Int) (w : World) : (Instr.checkKey e 10000 3 (.int .i64 t)).run Try.prog w = .ok () w := by kernel_rfl
theorem check_two (e : Bool) (p c : Int) (w : World) : (Instr.checkKey e 10000 97 (.agg #[.int .i64 p, .int .i64 c])).run Try.prog w = .ok () w := by kernel_rfl
theorem run_getObj {P : Program} {w : World} {b : Nat} {es : List MapEntry} {k : Nat} (h : w.heap[b]? = some (.map es.toArray k)) : (getObj b).run P w = .ok (.map es.toArray k) w := by
  simp [getObj, Sem.run, h]
theorem run_setObj {P : Program} {w : World} {b : Nat} {es es' : List MapEntry} {k k' : Nat} (h : w.heap[b]? = some (.map es.toArray k)) : (setObj b (.map es'.toArray k')).run P w = .ok () (putMap w b es' k') := by
  simp [setObj, Sem.run, h, putMap]
theorem find_int {w : World} (l : List TxE) (t : Int) : (Instr.findKey 3 (.int .i64 t) (l.map TxE.entry)).run Try.prog w = .ok (find1 l t 0) w := by
  unfold Instr.findKey
  simp only [Sem.run_bind, run_underlying Try.underlying3, Result.andThen_ok, findNow_int, Sem.run_pure]
theorem run_lookup_tx {w : World} {b k : Nat} (l : List TxE) (t : Int) (h : w.heap[b]? = some (.map (l.map TxE.entry).toArray k)) :
    (Instr.lookup 75 (.map (some b)) (.int .i64 t) false).run Try.prog w = .ok (((look1 l t).map TxE.ptr).getD (.pointer none)) w := by
  unfold Instr.lookup
  have hz : (zeroValue 89).run Try.prog w = .ok (.pointer none) w := Try.zeroValue89 w
  have hl := find1_look l t 0
  simp only [Sem.run_bind, run_underlying Try.underlying75, Result.andThen_ok, run_getObj h, Sem.run_pure, check_int, find_int]
  cases hf : find1 l t 0 with
  | none =>
    rw [hf] at hl
    simp only [Option.map_none] at hl
    rw [← hl]
    simp only [hz, Sem.run_bind, Result.andThen_ok, Sem.run_pure]
    rfl
  | some x =>
    rw [hf] at hl
    simp only [Option.map_some] at hl
    rw [← hl]
    rfl
theorem find1_none : ∀ (l : List TxE) (t : Int) (i : Nat), look1 l t = none → find1 l t i = none
  | [], _, _, _ => rfl
  | x :: l, t, i, h => by
    unfold look1 at h
    unfold find1
    split at h
    · cases h
    · rename_i hn
      rw [if_neg hn]
      exact find1_none l t (i + 1) h
theorem run_update_tx {w : World} {b k : Nat} (l : List TxE) (t : Int) (v : Value) (h : w.heap[b]? = some (.map (l.map TxE.entry).toArray k)) (hn : look1 l t = none) :
    (Instr.mapUpdate 75 (.map (some b)) (.int .i64 t) v).run Try.prog w = .ok () (putMap w b (l.map TxE.entry ++ [⟨.int .i64 t, v, k⟩]) (k + 1)) := by
  unfold Instr.mapUpdate
  simp only [Sem.run_bind, run_underlying Try.underlying75, Result.andThen_ok, run_getObj h, check_int, find_int, find1_none l t 0 hn]
  have e : ((l.map TxE.entry).toArray).push (⟨.int .i64 t, v, k⟩ : MapEntry) = (l.map TxE.entry ++ [(⟨.int .i64 t, v, k⟩ : MapEntry)]).toArray := by simp
  rw [e]
  exact run_setObj h
/-! Keys that are cells. -/
theorem eq_two (p c p' c' : Int) (w : World) : (Op.equal 97 (.agg #[.int .i64 p, .int .i64 c]) (.agg #[.int .i64 p', .int .i64 c'])).run Try.prog w = .ok (p == p' && c == c') w := by
  obtain ⟨i, hi⟩ := Option.isSome_iff_exists.1 has_int
  unfold Op.equal Op.maxDepth
  rw [run_equalIn_array w 9999 _ _ Try.underlying97 hi, cells_int]
  simp only [List.range, List.range.loop, Op.eqItems]
  simp [go_sem]
  by_cases h1 : p = p' <;> by_cases h2 : c = c' <;> simp [h1, h2]
def find2 : List E2 → Int → Int → Nat → Option (Nat × Value)
  | [], _, _, _ => none
  | e :: l, p, c, i => if e.p = p ∧ e.c = c then some (i, e.v) else find2 l p c (i + 1)
theorem findAsking_two (p c : Int) (w : World) : ∀ (l : List E2) (i : Nat), (Instr.findAsking 97 (key2 p c) (l.map E2.entry) i).run Try.prog w = .ok (find2 l p c i) w
  | [], _ => rfl
  | e :: l, i => by
    simp only [List.map_cons, Instr.findAsking, Sem.run_bind, E2.entry]
    unfold key2
    rw [eq_two]
    simp only [Result.andThen_ok, find2]
    by_cases h : e.p = p ∧ e.c = c
    · obtain ⟨rfl, rfl⟩ := h
      simp
    · have h' : (p == e.p && c == e.c) = false := by
        cases hb : (p == e.p && c == e.c)
        · rfl
        · simp at hb; exact absurd ⟨hb.1.symm, hb.2.symm⟩ h
      rw [h', if_neg h]
      exact findAsking_two p c w l (i + 1)
theorem find_two {w : World} (l : List E2) (p c : Int) : (Instr.findKey 97 (key2 p c) (l.map E2.entry)).run Try.prog w = .ok (find2 l p c 0) w := by
  unfold Instr.findKey
  simp only [Sem.run_bind, run_underlying Try.underlying97, Result.andThen_ok]
  cases l with
  | nil => rfl
  | cons e l =>
    have : Instr.findNow (.array 2 3) (key2 p c) ((e :: l).map E2.entry) 0 = none := rfl
    rw [this]
    exact findAsking_two p c w (e :: l) 0
theorem find2_look : ∀ (l : List E2) (p c : Int) (i : Nat), (find2 l p c i).map (·.2) = look2 l p c
  | [], _, _, _ => rfl
  | e :: l, p, c, i => by
    unfold find2 look2
    split
    · rfl
    · exact find2_look l p c (i + 1)
theorem run_lookup_two {w : World} {b k T e : Nat} {z : Value} (l : List E2) (p c : Int) (hu : Try.prog.underlying T = some (.map 97 e)) (hz : ∀ w, (zeroValue e).run Try.prog w = .ok z w) (h : w.heap[b]? = some (.map (l.map E2.entry).toArray k)) :
    (Instr.lookup T (.map (some b)) (key2 p c) false).run Try.prog w = .ok ((look2 l p c).getD z) w := by
  unfold Instr.lookup
  have hl := find2_look l p c 0
  have hc := check_two (l.map E2.entry).toArray.isEmpty p c w
  simp only [Sem.run_bind, run_underlying hu, Result.andThen_ok, run_getObj h, Sem.run_pure]
  rw [show (Instr.checkKey (l.map E2.entry).toArray.isEmpty 10000 97 (key2 p c)).run Try.prog w = .ok () w from hc]
  simp only [Result.andThen_ok, find_two]
  cases hf : find2 l p c 0 with
  | none =>
    rw [hf] at hl
    simp only [Option.map_none] at hl
    rw [← hl]
    simp only [hz, Sem.run_bind, Result.andThen_ok, Sem.run_pure]
    rfl
  | some x =>
    rw [hf] at hl
    simp only [Option.map_some] at hl
    rw [← hl]
    rfl
/-- A map with one key set. -/
def set2 : List E2 → Int → Int → Value → Nat → List E2
  | [], p, c, v, k => [⟨p, c, v, k⟩]
  | e :: l, p, c, v, k => if e.p = p ∧ e.c = c then { e with v := v } :: l else e :: set2 l p c v k
def has2 (l : List E2) (p c : Int) : Bool := (look2 l p c).isSome
theorem find2_some : ∀ (l : List E2) (p c : Int) (i j : Nat) (v : Value), find2 l p c i = some (j, v) → ∃ l1 e l2, l = l1 ++ e :: l2 ∧ j = i + l1.length ∧ e.p = p ∧ e.c = c ∧ e.v = v ∧ ∀ v' k, set2 l p c v' k = l1 ++ { e with v := v' } :: l2
  | [], _, _, _, _, _, h => by cases h
  | e :: l, p, c, i, j, v, h => by
    unfold find2 at h
    split at h
    · rename_i hk
      injection h with h
      injection h with h1 h2
      exact ⟨[], e, l, rfl, by simp [h1], hk.1, hk.2, h2, fun v' k => by simp [set2, hk]⟩
    · rename_i hk
      obtain ⟨l1, e', l2, rfl, h2, h3, h4, h5, h6⟩ := find2_some l p c (i + 1) j v h
      exact ⟨e :: l1, e', l2, rfl, by simp; omega, h3, h4, h5, fun v' k => by simp [set2, hk, h6]⟩
theorem find2_none : ∀ (l : List E2) (p c : Int) (i : Nat), find2 l p c i = none → ∀ v k, set2 l p c v k = l ++ [⟨p, c, v, k⟩]
  | [], _, _, _, _ => fun _ _ => rfl
  | e :: l, p, c, i, h => fun v k => by
    unfold find2 at h
    split at h
    · cases h
    · rename_i hk
      simp [set2, hk, find2_none l p c (i + 1) h v k]
theorem look2_set : ∀ (l : List E2) (p c : Int) (v : Value) (k : Nat) (p' c' : Int), look2 (set2 l p c v k) p' c' = if p = p' ∧ c = c' then some v else look2 l p' c'
  | [], p, c, v, k, p', c' => by simp [set2, look2]
  | e :: l, p, c, v, k, p', c' => by
    have ih := look2_set l p c v k p' c'
    unfold set2
    split
    · rename_i h
      obtain ⟨rfl, rfl⟩ := h
      simp only [look2]
      split <;> simp_all
    · rename_i h
      simp only [look2, ih]
      by_cases h1 : e.p = p' ∧ e.c = c'
      · obtain ⟨rfl, rfl⟩ := h1
        simp
        intro h2 h3
        exact absurd ⟨h2.symm, h3.symm⟩ h
      · simp [h1]
def nk (l : List E2) (p c : Int) (k : Nat) : Nat := if has2 l p c then k else k + 1
theorem modify_mid {α : Type} : ∀ (l1 : List α) (x : α) (l2 : List α) (f : α → α), (l1 ++ x :: l2).modify l1.length f = l1 ++ f x :: l2
  | [], x, l2, f => rfl
  | a :: l1, x, l2, f => by
    have := modify_mid l1 x l2 f
    simpa using this
theorem same_two (p c : Int) : Instr.sameBits 10000 (key2 p c) (key2 p c) = true := by
  show ((2 : Nat) == 2 && _) = true
  simp [Instr.sameBits]
theorem run_update_two {w : World} {b k T e : Nat} (l : List E2) (p c : Int) (v : Value) (hu : Try.prog.underlying T = some (.map 97 e)) (h : w.heap[b]? = some (.map (l.map E2.entry).toArray k)) :
    (Instr.mapUpdate T (.map (some b)) (key2 p c) v).run Try.prog w = .ok () (putMap w b ((set2 l p c v k).map E2.entry) (nk l p c k)) := by
  unfold Instr.mapUpdate
  have hl := find2_look l p c 0
  simp only [Sem.run_bind, run_underlying hu, Result.andThen_ok, run_getObj h]
  rw [show (Instr.checkKey false 10000 97 (key2 p c)).run Try.prog w = .ok () w from check_two false p c w]
  simp only [Result.andThen_ok, find_two]
  cases hf : find2 l p c 0 with
  | none =>
    rw [hf] at hl
    have hn : nk l p c k = k + 1 := by simp [nk, has2, ← hl]
    have e1 : ((l.map E2.entry).toArray).push (⟨key2 p c, v, k⟩ : MapEntry) = ((set2 l p c v k).map E2.entry).toArray := by
      rw [find2_none l p c 0 hf v k]; simp [E2.entry]
    simp only [hn]
    rw [e1]
    exact run_setObj h
  | some x =>
    obtain ⟨j, v0⟩ := x
    rw [hf] at hl
    have hn : nk l p c k = k := by simp [nk, has2, ← hl]
    obtain ⟨l1, e0, l2, rfl, rfl, rfl, rfl, rfl, h6⟩ := find2_some l p c 0 j v0 hf
    have hk : (Instr.keyThatStays ((((((l1 ++ e0 :: l2).map E2.entry).toArray)[0 + l1.length]?).map (·.key)).getD (key2 e0.p e0.c)) (key2 e0.p e0.c)).run Try.prog w = .ok (key2 e0.p e0.c) w := by
      have : (((((l1 ++ e0 :: l2).map E2.entry).toArray)[0 + l1.length]?).map (·.key)).getD (key2 e0.p e0.c) = key2 e0.p e0.c := by
        simp [E2.entry]
      rw [this]
      unfold Instr.keyThatStays
      rw [same_two]
      rfl
    simp only [Sem.run_bind, hk, Result.andThen_ok]
    have e1 : (((l1 ++ e0 :: l2).map E2.entry).toArray).modify (0 + l1.length) (fun e => { e with key := key2 e0.p e0.c, val := v }) = ((set2 (l1 ++ e0 :: l2) e0.p e0.c v k).map E2.entry).toArray := by
      rw [h6 v k]
      apply Array.toList_inj.1
      have := modify_mid (l1.map E2.entry) (E2.entry e0) (l2.map E2.entry) (fun e => { e with key := key2 e0.p e0.c, val := v })
      simp only [List.length_map] at this
      simpa [E2.entry] using this
    rw [e1, hn]
    exact run_setObj h
def del2 : List E2 → Int → Int → List E2
  | [], _, _ => []
  | e :: l, p, c => if e.p = p ∧ e.c = c then l else e :: del2 l p c
theorem find2_del : ∀ (l : List E2) (p c : Int) (i : Nat), (match find2 l p c i with | some (j, _) => l.eraseIdx (j - i) | none => l) = del2 l p c ∧ ∀ j v, find2 l p c i = some (j, v) → i ≤ j
  | [], _, _, _ => ⟨rfl, fun _ _ h => by cases h⟩
  | e :: l, p, c, i => by
    obtain ⟨h1, h2⟩ := find2_del l p c (i + 1)
    by_cases hk : e.p = p ∧ e.c = c
    · have e1 : find2 (e :: l) p c i = some (i, e.v) := by simp only [find2, if_pos hk]
      have e2 : del2 (e :: l) p c = l := by simp only [del2, if_pos hk]
      rw [e1, e2]
      refine ⟨by simp, fun j v h => ?_⟩
      injection h with h
      injection h with h _
      omega
    · have e1 : find2 (e :: l) p c i = find2 l p c (i + 1) := by simp only [find2, if_neg hk]
      have e2 : del2 (e :: l) p c = e :: del2 l p c := by simp only [del2, if_neg hk]
      rw [e1, e2]
      refine ⟨?_, fun j v h => by have := h2 j v h; omega⟩
      cases hf : find2 l p c (i + 1) with
      | none => rw [hf] at h1; simp only at h1 ⊢; rw [← h1]
      | some x =>
        obtain ⟨j, v⟩ := x
        rw [hf] at h1
        have := h2 j v hf
        simp only at h1 ⊢
        rw [← h1, show j - i = (j - (i + 1)) + 1 by omega]
        rfl
theorem erase_map {α β : Type} (f : α → β) : ∀ (l : List α) (j : Nat), (l.map f).eraseIdx j = (l.eraseIdx j).map f
  | [], _ => rfl
  | _ :: _, 0 => rfl
  | x :: l, j + 1 => by simpa using erase_map f l j
theorem run_delete_two {w : World} {b k T e T2 T' : Nat} (l : List E2) (p c : Int) (hu : Try.prog.underlying T = some (.map 97 e)) (h : w.heap[b]? = some (.map (l.map E2.entry).toArray k)) :
    (Builtin.delete_ #[T, T2] T' #[.map (some b), key2 p c]).run Try.prog w = .ok (.tuple #[]) (putMap w b ((del2 l p c).map E2.entry) k) := by
  unfold Builtin.delete_
  have hl := (find2_del l p c 0).1
  have hc := check_two (l.map E2.entry).toArray.isEmpty p c w
  simp only [List.getElem?_toArray, List.getElem?_cons_zero, List.getElem?_cons_succ, Sem.run_bind, run_underlying hu, Result.andThen_ok, run_getObj h]
  rw [show (Instr.checkKey (l.map E2.entry).toArray.isEmpty 10000 97 (key2 p c)).run Try.prog w = .ok () w from hc]
  simp only [Result.andThen_ok, find_two]
  cases hf : find2 l p c 0 with
  | none =>
    rw [hf] at hl
    simp only at hl
    rw [← hl]
    simp only [Sem.run_bind, run_setObj h, Result.andThen_ok, Sem.run_pure]
  | some x =>
    obtain ⟨j, v⟩ := x
    rw [hf] at hl
    simp only [Nat.sub_zero] at hl
    have e1 : ((l.map E2.entry).toArray).eraseIdxIfInBounds j = ((del2 l p c).map E2.entry).toArray := by
      rw [← hl]
      apply Array.toList_inj.1
      simpa using erase_map E2.entry l j
    simp only [e1, Sem.run_bind, run_setObj h, Result.andThen_ok, Sem.run_pure]
/-! ### States of the book -/
def Bk.add (B : Bk) (x : TxE) : Bk := { B with tx := B.tx ++ [x], k1 := B.k1 + 1 }
def tx0 (t : Int) (b k : Nat) : TxE := ⟨t, b, k, 0, 0, none, 0, []⟩
/-- What Of leaves: the Txn is there. -/
def OfB (B : Bk) (t : Int) (i : Bk × TxE) : Prop := look1 i.1.tx t = some i.2 ∧ ((i.1 = B ∧ look1 B.tx t = some i.2) ∨ (look1 B.tx t = none ∧ i.2 = tx0 t i.2.blk B.k1 ∧ i.1 = B.add i.2))
theorem look1_key : ∀ {l : List TxE} {t : Int} {x : TxE}, look1 l t = some x → x.key = t ∧ ∃ l1 l2, l = l1 ++ x :: l2 ∧ look1 l1 t = none
  | [], _, _, h => by cases h
  | y :: l, t, x, h => by
    unfold look1 at h
    split at h
    · rename_i hk
      injection h with h
      subst h
      exact ⟨hk, [], l, rfl, rfl⟩
    · rename_i hk
      obtain ⟨h1, l1, l2, rfl, h2⟩ := look1_key h
      exact ⟨h1, y :: l1, l2, rfl, by simp [look1, hk, h2]⟩
theorem look1_add {l : List TxE} {t : Int} {x : TxE} (h : look1 l t = none) (hx : x.key = t) : look1 (l ++ [x]) t = some x := by
  induction l with
  | nil => simp [look1, hx]
  | cons y l ih =>
    unfold look1 at h
    split at h
    · cases h
    · rename_i hk
      simp [look1, hk, ih h]
theorem ups_app (base : Nat) : ∀ (l : List TxE) (x : TxE), ((x.row base).sep (SF.ups base l)).le (SF.ups base (l ++ [x]))
  | [], x => SF.le_refl _
  | y :: l, x => SF.le_trans (SF.sep_rot _ _ _) (SF.sep_mono (SF.le_refl _) (ups_app base l x))
theorem row_new (base : Nat) (t : Int) (b k : Nat) (F : SF) : F.le (((tx0 t b k).row base).sep F) := fun w h => ⟨⟨World.ownsRow_nil w base _ _, h, fun x hx => by cases hx⟩, fun x hx => hx.elim (fun h => by cases h) id⟩
theorem hp_add (B : Bk) (x : TxE) (Hl : Hp) : Hsub ((B.add x).hp ++ Hl) (x.blkc :: (B.hp ++ Hl)) := by
  refine Hsub.of_perm ?_
  show List.Perm ((B.bk, B.cells, _) :: ((B.tx ++ [x]).map TxE.blkc) ++ Hl) _
  rw [List.map_append]
  simp only [List.map_cons, List.map_nil, List.cons_append, List.append_assoc, List.nil_append, Bk.hp]
  exact ((List.perm_middle (l₁ := B.tx.map TxE.blkc) (a := x.blkc) (l₂ := Hl)).cons _).trans (List.Perm.swap _ _ _)
theorem bk_map (base : Nat) (B : Bk) (G : SF) : ((SF.bk base B).sep G).le ((SF.map base B.mt (B.tx.map TxE.entry) B.k1).sep (((SF.map base B.mo (B.ow.map E2.entry) B.k2).sep ((SF.own base 48 8 (.slice B.A B.l.length B.c) B.l.length (flat B.l)).sep (SF.ups base B.tx))).sep G)) := SF.sep_assoc _ _ _
theorem bk_map' (base : Nat) (B : Bk) (G : SF) : ((SF.map base B.mt (B.tx.map TxE.entry) B.k1).sep (((SF.map base B.mo (B.ow.map E2.entry) B.k2).sep ((SF.own base 48 8 (.slice B.A B.l.length B.c) B.l.length (flat B.l)).sep (SF.ups base B.tx))).sep G)).le ((SF.bk base B).sep G) := SF.sep_assoc' _ _ _
theorem bk_add (base : Nat) (B : Bk) (G : SF) (t : Int) (b : Nat) :
    ((SF.map base B.mt (B.tx.map TxE.entry ++ [⟨.int .i64 t, .pointer (some ⟨b, 0, none⟩), B.k1⟩]) (B.k1 + 1)).sep (((SF.map base B.mo (B.ow.map E2.entry) B.k2).sep ((SF.own base 48 8 (.slice B.A B.l.length B.c) B.l.length (flat B.l)).sep (SF.ups base B.tx))).sep G)).le ((SF.bk base (B.add (tx0 t b B.k1))).sep G) := by
  have e : (B.add (tx0 t b B.k1)).tx.map TxE.entry = B.tx.map TxE.entry ++ [⟨.int .i64 t, .pointer (some ⟨b, 0, none⟩), B.k1⟩] := by simp [Bk.add, TxE.entry, tx0, TxE.ptr]
  refine SF.le_trans ?_ (bk_map' base _ G)
  rw [e]
  refine SF.sep_mono (SF.le_refl _) (SF.sep_mono (SF.sep_mono (SF.le_refl _) (SF.sep_mono (SF.le_refl _) ?_)) (SF.le_refl _))
  exact SF.le_trans (row_new base t b B.k1 _) (ups_app base B.tx _)
end Go.Proofs.Ytmfjhacgpopijaa
end
section
set_option maxRecDepth 100000
set_option linter.unusedVariables false
set_option linter.unusedSimpArgs false
set_option linter.unusedSectionVars false
set_option maxHeartbeats 4000000
namespace Go.Proofs.Ytmfjhacgpopijaa
open Go.RowKit Go.Joins
theorem nil_ptr (b : Nat) (w : World) : (do eqGuard .eql 89 (.tmp 10) (.const (.pointer none)) (.pointer (some ⟨b, 0, none⟩)) (.pointer none); binOp .eql 89 (.pointer (some ⟨b, 0, none⟩)) (.pointer none) : Sem Value).run Try.prog w = .ok (.bool false) w := by kernel_rfl
theorem nil_nil (w : World) : (do eqGuard .eql 89 (.tmp 10) (.const (.pointer none)) (.pointer none) (.pointer none); binOp .eql 89 (.pointer none) (.pointer none) : Sem Value).run Try.prog w = .ok (.bool true) w := by kernel_rfl

theorem w_of_yes (u : World) (B : Bk) (Hl : Hp) (G : SF) (t : Int) (w : World) (hw : Wp u (B.hp ++ Hl) ((SF.bk u.heap.size B).sep G) w) (x : TxE) (hx : look1 B.tx t = some x) : Calls Try.prog 44 [B.ptr, .int .i64 t].toArray w fun e w' => ∃ i : {i : Bk × TxE // OfB B t i}, e = .returned i.1.2.ptr ∧ Wp u (i.1.1.hp ++ Hl) ((SF.bk u.heap.size i.1.1).sep G) w' := by
 refine enterW Try.func44 rfl Try.ntmps44 rfl hw ?_
 refine WC.seq ?_
 refine WC.region ?_
 refine WL.pure (Y.assign rfl) rfl rfl rfl ?_
 refine WL.nil ?_
 refine WQ.next ?_
 refine WC.seq ?_
 refine WC.seq ?_
 refine WC.region ?_
 refine WL.pure (Y.move rfl) rfl rfl rfl ?_
 refine WL.pure (Y.nilCheck rfl) rfl rfl rfl ?_
 refine WL.pure (Y.fieldAddr fa_78_2 rfl) rfl rfl rfl ?_
 refine WL.val (Y.load fl_75 rfl m0 rfl) rfl rfl rfl ?_
 refine WL.pure (Y.move rfl) rfl rfl rfl ?_
 refine WL.val (Y.lookup (v := x.ptr) rfl rfl (fun a w s => s.fact.1.1.1) (fun w h => by rw [run_lookup_tx _ _ h, hx]; rfl)) rfl rfl rfl ?_
 refine WL.pure (Y.binK (v := .bool false) rfl rfl (fun w => nil_ptr x.blk w)) rfl rfl rfl ?_
 refine WL.nil ?_
 refine WQ.next ?_
 refine WC.condF rfl ?_
 refine WC.skip' ?_
 refine WQ.next ?_
 refine WC.seq ?_
 refine WC.region ?_
 refine WL.pure (Y.move rfl) rfl rfl rfl ?_
 refine WL.pure (Y.nilCheck rfl) rfl rfl rfl ?_
 refine WL.pure (Y.fieldAddr fa_78_2 rfl) rfl rfl rfl ?_
 refine WL.val (Y.load fl_75 rfl m0 rfl) rfl rfl rfl ?_
 refine WL.pure (Y.move rfl) rfl rfl rfl ?_
 refine WL.val (Y.lookup (v := x.ptr) rfl rfl (fun a w s => s.fact.1.1.1) (fun w h => by rw [run_lookup_tx _ _ h, hx]; rfl)) rfl rfl rfl ?_
 refine WL.pure (Y.assign rfl) rfl rfl rfl ?_
 refine WL.nil ?_
 refine WQ.next ?_
 refine WC.ret ?_
 refine WQ.done Try.results44 (RVs.cons (RV.tmp rfl) RVs.nil) (fun a w s => ?_)
 · exact ⟨⟨(B, x), hx, .inl ⟨rfl, hx⟩⟩, rfl, s.wp⟩

theorem w_of_no (u : World) (B : Bk) (Hl : Hp) (G : SF) (t : Int) (w : World) (hw : Wp u (B.hp ++ Hl) ((SF.bk u.heap.size B).sep G) w) (hx : look1 B.tx t = none) : Calls Try.prog 44 [B.ptr, .int .i64 t].toArray w fun e w' => ∃ i : {i : Bk × TxE // OfB B t i}, e = .returned i.1.2.ptr ∧ Wp u (i.1.1.hp ++ Hl) ((SF.bk u.heap.size i.1.1).sep G) w' := by
 refine enterW Try.func44 rfl Try.ntmps44 rfl hw ?_
 refine WC.seq ?_
 refine WC.region ?_
 refine WL.pure (Y.assign rfl) rfl rfl rfl ?_
 refine WL.nil ?_
 refine WQ.next ?_
 refine WC.seq ?_
 refine WC.seq ?_
 refine WC.region ?_
 refine WL.pure (Y.move rfl) rfl rfl rfl ?_
 refine WL.pure (Y.nilCheck rfl) rfl rfl rfl ?_
 refine WL.pure (Y.fieldAddr fa_78_2 rfl) rfl rfl rfl ?_
 refine WL.val (Y.load fl_75 rfl m0 rfl) rfl rfl rfl ?_
 refine WL.pure (Y.move rfl) rfl rfl rfl ?_
 refine WL.val (Y.lookup (v := .pointer none) rfl rfl (fun a w s => s.fact.1.1.1) (fun w h => by rw [run_lookup_tx _ _ h, hx]; rfl)) rfl rfl rfl ?_
 refine WL.pure (Y.binK (v := .bool true) rfl rfl (fun w => nil_nil w)) rfl rfl rfl ?_
 refine WL.nil ?_
 refine WQ.next ?_
 refine WC.condT rfl ?_
 refine WC.le (bk_map _ _ _) ?_
 refine WC.region ?_
 refine WL.pure (Y.move rfl) rfl rfl rfl ?_
 refine WL.pure (Y.nilCheck rfl) rfl rfl rfl ?_
 refine WL.pure (Y.fieldAddr fa_78_2 rfl) rfl rfl rfl ?_
 refine WL.val (Y.load fl_75 rfl m0 rfl) rfl rfl rfl ?_
 refine WL.pure (Y.move rfl) rfl rfl rfl ?_
 refine WL.pure (Y.build rfl (bf_92 )) rfl rfl rfl ?_
 refine WL.eff (E.box rfl rfl rfl) rfl (fun b1 => ?_)
 refine WL.eff (E.mapUpdate rfl rfl rfl rfl (fun w h => run_update_tx B.tx t _ h hx)) rfl (fun _ => ?_)
 refine WL.nil ?_
 refine WQ.next ?_
 refine WC.seq ?_
 refine WC.le (bk_add _ _ _ _ _) ?_
 refine WC.sub (hp_add B (tx0 t b1 B.k1) Hl) ?_
 refine WC.region ?_
 refine WL.pure (Y.move rfl) rfl rfl rfl ?_
 refine WL.pure (Y.nilCheck rfl) rfl rfl rfl ?_
 refine WL.pure (Y.fieldAddr fa_78_2 rfl) rfl rfl rfl ?_
 refine WL.val (Y.load fl_75 rfl m0 rfl) rfl rfl rfl ?_
 refine WL.pure (Y.move rfl) rfl rfl rfl ?_
 refine WL.val (Y.lookup (v := (tx0 t b1 B.k1).ptr) rfl rfl (fun a w s => s.fact.1.1.1) (fun w h => by rw [run_lookup_tx _ _ h, show look1 (B.add (tx0 t b1 B.k1)).tx t = some (tx0 t b1 B.k1) from look1_add hx rfl]; rfl)) rfl rfl rfl ?_
 refine WL.pure (Y.assign rfl) rfl rfl rfl ?_
 refine WL.nil ?_
 refine WQ.next ?_
 refine WC.ret ?_
 refine WQ.done Try.results44 (RVs.cons (RV.tmp rfl) RVs.nil) (fun a w s => ?_)
 · exact ⟨⟨(B.add (tx0 t b1 B.k1), tx0 t b1 B.k1), look1_add hx rfl, .inr ⟨hx, rfl, rfl⟩⟩, rfl, s.wp⟩

theorem w_of (u : World) (B : Bk) (Hl : Hp) (G : SF) (t : Int) (w : World) (hw : Wp u (B.hp ++ Hl) ((SF.bk u.heap.size B).sep G) w) : Calls Try.prog 44 [B.ptr, .int .i64 t].toArray w fun e w' => ∃ i : {i : Bk × TxE // OfB B t i}, e = .returned i.1.2.ptr ∧ Wp u (i.1.1.hp ++ Hl) ((SF.bk u.heap.size i.1.1).sep G) w' := by
  cases hx : look1 B.tx t with
  | none => exact w_of_no u B Hl G t w hw hx
  | some x => exact w_of_yes u B Hl G t w hw x hx

theorem w_owner (u : World) (B : Bk) (Hl : Hp) (G : SF) (p c : Int) (w : World) (hw : Wp u (B.hp ++ Hl) ((SF.bk u.heap.size B).sep G) w) : Calls Try.prog 45 [B.ptr, .int .i64 p, .int .i64 c].toArray w fun e w' => ∃ i : Unit, e = .returned ((look2 B.ow p c).getD (.int .i64 0)) ∧ Wp u (B.hp ++ Hl) ((SF.bk u.heap.size B).sep G) w' := by
 refine enterW Try.func45 rfl Try.ntmps45 rfl hw ?_
 refine WC.seq ?_
 refine WC.region ?_
 refine WL.pure (Y.assign rfl) rfl rfl rfl ?_
 refine WL.nil ?_
 refine WQ.next ?_
 refine WC.seq ?_
 refine WC.region ?_
 refine WL.pure (Y.move rfl) rfl rfl rfl ?_
 refine WL.pure (Y.nilCheck rfl) rfl rfl rfl ?_
 refine WL.pure (Y.fieldAddr fa_78_3 rfl) rfl rfl rfl ?_
 refine WL.val (Y.load fl_76 rfl m0 rfl) rfl rfl rfl ?_
 refine WL.pure (Y.move rfl) rfl rfl rfl ?_
 refine WL.pure (Y.move rfl) rfl rfl rfl ?_
 refine WL.pure (Y.build rfl (bf_97_0_1 _ _)) rfl rfl rfl ?_
 refine WL.val (Y.lookup rfl rfl (fun a w s => s.fact.1.2.1.1.1) (fun w h => run_lookup_two _ _ _ Try.underlying76 Try.zeroValue3 h)) rfl rfl rfl ?_
 refine WL.pure (Y.assign rfl) rfl rfl rfl ?_
 refine WL.nil ?_
 refine WQ.next ?_
 refine WC.ret ?_
 refine WQ.done Try.results45 (RVs.cons (RV.tmp rfl) RVs.nil) (fun a w s => ?_)
 · exact ⟨(), rfl, s.wp⟩
end Go.Proofs.Ytmfjhacgpopijaa
end
section
set_option linter.unusedVariables false
set_option linter.unusedSimpArgs false
set_option linter.unusedSectionVars false
set_option maxRecDepth 100000
namespace Go.Proofs.Ytmfjhacgpopijaa
open Go.RowKit Go.Joins
def set1 : List TxE → Int → TxE → List TxE
  | [], _, _ => []
  | y :: l, t, x => if y.key = t then x :: l else y :: set1 l t x
theorem set1_mid : ∀ {l1 l2 : List TxE} {t : Int} {x y : TxE}, look1 l1 t = none → x.key = t → set1 (l1 ++ x :: l2) t y = l1 ++ y :: l2
  | [], _, _, _, _, _, hx => by simp [set1, hx]
  | z :: l1, l2, t, x, y, h, hx => by
    unfold look1 at h
    split at h
    · cases h
    · rename_i hk
      simp [set1, hk, set1_mid h hx]
def Bk.own1 (B : Bk) : Nat × List Value × TypeId := (B.bk, B.cells, 78)
/-- The Txn x of the book B in front; K: the others. -/
def Foc (B : Bk) (t : Int) (x : TxE) (K : Hp) : Prop := (x.blkc :: B.own1 :: K).Perm B.hp ∧ ∀ (B' : Bk) (y : TxE), B'.tx = set1 B.tx t y → (y.blkc :: B'.own1 :: K).Perm B'.hp
theorem foc_of {B : Bk} {t : Int} {x : TxE} (h : look1 B.tx t = some x) : ∃ K, Foc B t x K := by
  obtain ⟨hk, l1, l2, e, hn⟩ := look1_key h
  have key : ∀ (B' : Bk) (y : TxE), B'.tx = l1 ++ y :: l2 → (y.blkc :: B'.own1 :: (l1 ++ l2).map TxE.blkc).Perm B'.hp := by
    intro B' y hy
    unfold Bk.hp
    rw [hy]
    simp only [List.map_append, List.map_cons]
    refine (List.Perm.swap _ _ _).trans ?_
    exact ((List.perm_middle (l₁ := l1.map TxE.blkc) (a := y.blkc) (l₂ := l2.map TxE.blkc)).symm).cons _
  refine ⟨(l1 ++ l2).map TxE.blkc, key B x e, fun B' y hy => key B' y ?_⟩
  rw [hy, e, set1_mid hn hk]
theorem foc_in {B : Bk} {t : Int} {x : TxE} {K : Hp} (h : Foc B t x K) (Hx Hl : Hp) : Hsub (Hx ++ (x.blkc :: B.own1 :: (K ++ Hl))) (B.hp ++ (Hx ++ Hl)) := by
  refine Hsub.of_perm ?_
  have h1 : (x.blkc :: B.own1 :: (K ++ Hl)).Perm (B.hp ++ Hl) := by
    have := h.1.append_right Hl
    simpa using this
  refine (h1.append_left Hx).trans ?_
  rw [← List.append_assoc, ← List.append_assoc]
  exact List.perm_append_comm.append_right Hl
theorem foc_out {B B' : Bk} {t : Int} {x y : TxE} {K : Hp} (h : Foc B t x K) (hy : B'.tx = set1 B.tx t y) (Hx Hl : Hp) : Hsub (B'.hp ++ (Hx ++ Hl)) (Hx ++ (y.blkc :: B'.own1 :: (K ++ Hl))) := by
  refine Hsub.of_perm ?_
  have h1 : (y.blkc :: B'.own1 :: (K ++ Hl)).Perm (B'.hp ++ Hl) := by
    have := (h.2 B' y hy).append_right Hl
    simpa using this
  refine List.Perm.symm ((h1.append_left Hx).trans ?_)
  rw [← List.append_assoc, ← List.append_assoc]
  exact List.perm_append_comm.append_right Hl
theorem hp_move (B : Bk) (Hx Hl : Hp) : Hsub (B.hp ++ (Hx ++ Hl)) (Hx ++ (B.hp ++ Hl)) := by
  refine Hsub.of_perm ?_
  rw [← List.append_assoc, ← List.append_assoc]
  exact List.perm_append_comm.append_right Hl
theorem set1_same : ∀ {l : List TxE} {t : Int} {x : TxE}, look1 l t = some x → set1 l t x = l
  | [], _, _, h => by cases h
  | y :: l, t, x, h => by
    unfold look1 at h
    unfold set1
    split at h
    · rename_i hk
      injection h with h
      subst h
      rw [if_pos hk]
    · rename_i hk
      rw [if_neg hk, set1_same h]
section
variable [Inhabited DSx] {Q : Exit → Act → World → Prop} {E : Env} {n : Nat} {H : Hp} {F G : SF} {u : World}
/-- A call of Of: behind it the Txn is in front. -/
theorem E.of {f : FuncId} {args : Array Operand} {ts : Array TypeId} {d : Nat} {T' : TypeId} {p : String} {af : Array Edge} {B : Bk} {t : Int} (Hx : Hp) {Hl : Hp} (hf : f = 44) (hH : H = Hx ++ (B.hp ++ Hl)) (hF : F = (SF.bk u.heap.size B).sep G)
    (hx : evs E args.toList = some [B.ptr, .int .i64 t]) (hn : Nat.blt d n = true) :
    Eff Try.prog E n H F u ⟨some d, .call { callee := .value (.func f), args := args, argTypes := ts }, T', p, af, none⟩ (fun i : {i : Bk × TxE × Hp // OfB B t (i.1, i.2.1) ∧ Foc i.1 t i.2.1 i.2.2} => (d, i.1.2.1.ptr) :: E)
      (fun i => Hx ++ (i.1.2.1.blkc :: i.1.1.own1 :: (i.1.2.2 ++ Hl))) (fun i => (SF.bk u.heap.size i.1.1).sep G) := by
  subst hf hH hF
  refine Proofs.Ytmfjhacgpopijaa.E.callM _ _ _ Try.call44 hx (fun w hw => ?_) hn
  refine (w_of u B (Hx ++ Hl) G t w (hw.sub (hp_move B Hx Hl))).mono fun e w' ⟨i, he, hw'⟩ => ?_
  obtain ⟨⟨B', x⟩, hi⟩ := i
  obtain ⟨K, hK⟩ := foc_of hi.1
  exact ⟨⟨(B', x, K), hi, hK⟩, he, hw'.sub (foc_in hK Hx Hl)⟩
/-- The same where another Txn may be in front. -/
theorem E.of2 {f : FuncId} {args : Array Operand} {ts : Array TypeId} {d : Nat} {T' : TypeId} {p : String} {af : Array Edge} {B : Bk} {t : Int} (Hx : Hp) {Hl : Hp} (hf : f = 44) (hH : Hsub (B.hp ++ (Hx ++ Hl)) H) (hF : F = (SF.bk u.heap.size B).sep G)
    (hx : evs E args.toList = some [B.ptr, .int .i64 t]) (hn : Nat.blt d n = true) :
    Eff Try.prog E n H F u ⟨some d, .call { callee := .value (.func f), args := args, argTypes := ts }, T', p, af, none⟩ (fun i : {i : Bk × TxE × Hp // OfB B t (i.1, i.2.1) ∧ Foc i.1 t i.2.1 i.2.2} => (d, i.1.2.1.ptr) :: E)
      (fun i => Hx ++ (i.1.2.1.blkc :: i.1.1.own1 :: (i.1.2.2 ++ Hl))) (fun i => (SF.bk u.heap.size i.1.1).sep G) := by
  subst hf hF
  refine Proofs.Ytmfjhacgpopijaa.E.callM _ _ _ Try.call44 hx (fun w hw => ?_) hn
  refine (w_of u B (Hx ++ Hl) G t w (hw.sub hH)).mono fun e w' ⟨i, he, hw'⟩ => ?_
  obtain ⟨⟨B', x⟩, hi⟩ := i
  obtain ⟨K, hK⟩ := foc_of hi.1
  exact ⟨⟨(B', x, K), hi, hK⟩, he, hw'.sub (foc_in hK Hx Hl)⟩
end
/-! ### Rows -/
def gOf (A : Option Addr) : Nat := match A with | some a => a.block | none => 0
theorem flat_len (l : List R) : (flat l).length = l.length * 8 := by
  induction l with
  | nil => rfl
  | cons r l ih => simp only [flat, List.flatMap_cons, List.length_append] at *; simp [R.cl, ih]; omega
theorem flat_get : ∀ {l : List R} {i : Nat} {r : R} {j : Nat} {v : Value}, l[i]? = some r → r.cl[j]? = some v → (flat l)[i * 8 + j]? = some v
  | [], _, _, _, _, h, _ => by simp at h
  | x :: l, 0, r, j, v, h, hv => by
    simp at h
    subst h
    have hj := cl_lt hv
    simp only [flat, List.flatMap_cons]
    rw [List.getElem?_append_left (by simp [R.cl]; omega)]
    simpa using hv
  | x :: l, i + 1, r, j, v, h, hv => by
    have ih := flat_get (l := l) (i := i) (r := r) (j := j) (v := v) (by simpa using h) hv
    simp only [flat, List.flatMap_cons] at ih ⊢
    rw [List.getElem?_append_right (by simp [R.cl]; omega)]
    have : (i + 1) * 8 + j - x.cl.length = i * 8 + j := by simp [R.cl]; omega
    rw [this]
    exact ih
theorem own_RL {w : World} {base c : Nat} {A : Option Addr} {l : List R} (h : w.ownsRow base 48 8 (.slice A l.length c) l.length (flat l)) : RL w A (gOf A) 0 l := by
  have hA : l ≠ [] → ∃ g, A = some ⟨g, 0, none⟩ ∧ g < w.heap.size := fun hn => by
    have hl : 0 < l.length := List.length_pos_iff.2 hn
    rcases h.2 with ⟨hv, hk⟩ | ⟨g, cap, cur, hv, h1, h2, _⟩
    · omega
    · injection hv with e1 e2 e3
      exact ⟨g, e1, blk_lt h2⟩
  refine ⟨fun hn => ?_, fun i r hi j v hv => ?_⟩
  · obtain ⟨g, rfl, hg⟩ := hA hn
    exact ⟨rfl, hg⟩
  · obtain ⟨g, rfl, hg⟩ := hA (ne_of_get hi)
    obtain ⟨g2, e, hc⟩ := own_cell h (flat_get hi hv)
    injection e with e
    injection e with e
    subst e
    rw [Nat.zero_add]
    exact hc
theorem bk_RL {w : World} {base : Nat} {B : Bk} (h : (SF.bk base B).p w) : RL w B.A (gOf B.A) 0 B.l := own_RL h.2.1.2.1.1
theorem ups_row {base : Nat} : ∀ {l : List TxE} {t : Int} {x : TxE} {w : World}, look1 l t = some x → (SF.ups base l).p w → (x.row base).p w
  | [], _, _, _, h, _ => by cases h
  | y :: l, t, x, w, h, hp => by
    unfold look1 at h
    split at h
    · injection h with h
      subst h
      exact hp.1
    · exact ups_row h hp.2.1
theorem bk_row {base : Nat} {B : Bk} {t : Int} {x : TxE} {w : World} (hx : look1 B.tx t = some x) (h : (SF.bk base B).p w) : (x.row base).p w := ups_row hx h.2.1.2.1.2.1
theorem bk_cap {base : Nat} {B : Bk} {w : World} (h : (SF.bk base B).p w) : B.l.length ≤ B.c := own_le h.2.1.2.1.1
/-- The record by which the last Write that stands is taken back, or the End. -/
def undoR (l : List R) (t : Int) (x : TxE) : R :=
  match x.up with
  | [] => ⟨4, t, x.last, 0, 0, 0, 0, 0⟩
  | m :: _ => ⟨3, t, x.last, (l[m - 1]?.getD R.zero).page, (l[m - 1]?.getD R.zero).cell, (l[m - 1]?.getD R.zero).new, (l[m - 1]?.getD R.zero).old, (l[m - 1]?.getD R.zero).prev⟩
def UpOk (B : Bk) : Prop := B.l.length ≤ 60 ∧ ∀ t x, look1 B.tx t = some x → x.up.length ≤ 60 ∧ ∀ m ∈ x.up, 1 ≤ m ∧ m ≤ B.l.length
theorem of_l {B : Bk} {t : Int} {i : Bk × TxE} (h : OfB B t i) : i.1.l = B.l ∧ i.1.A = B.A ∧ i.1.c = B.c ∧ i.1.pg = B.pg ∧ i.1.bk = B.bk ∧ i.1.mt = B.mt ∧ i.1.mo = B.mo ∧ i.1.ow = B.ow ∧ i.1.k2 = B.k2 := by
  rcases h.2 with ⟨rfl, _⟩ | ⟨_, _, e⟩
  · simp
  · rw [e]; simp [Bk.add]
theorem of_up {B : Bk} {t : Int} {i : Bk × TxE} (h : OfB B t i) (hB : UpOk B) : i.2.up.length ≤ 60 ∧ ∀ m ∈ i.2.up, 1 ≤ m ∧ m ≤ i.1.l.length := by
  rw [(of_l h).1]
  rcases h.2 with ⟨_, h2⟩ | ⟨_, h2, _⟩
  · exact hB.2 t _ h2
  · rw [h2]; simp [tx0]
end Go.Proofs.Ytmfjhacgpopijaa
end
section
set_option maxRecDepth 100000
set_option linter.unusedVariables false
set_option linter.unusedSimpArgs false
set_option linter.unusedSectionVars false
set_option maxHeartbeats 4000000
namespace Go.Proofs.Ytmfjhacgpopijaa
open Go.RowKit Go.Joins
theorem rest_hp {Hx Hl H : Hp} {B : Bk} (h : Hsub (B.hp ++ (Hx ++ Hl)) H) : Hsub (B.hp ++ Hl) H := by
  obtain ⟨K, hp, hs⟩ := h
  have h1 : List.Sublist (B.hp ++ Hl) (B.hp ++ (Hx ++ Hl)) := List.Sublist.append (List.Sublist.refl _) (List.sublist_append_right _ _)
  obtain ⟨K2, hp2, hs2⟩ := List.exists_perm_sublist h1 hp.symm
  exact ⟨K2, hp2, hs2.trans hs⟩

theorem w_undo (u : World) (B : Bk) (Hl : Hp) (G : SF) (t : Int) (w : World) (hw : Wp u (B.hp ++ Hl) ((SF.bk u.heap.size B).sep G) w) (hB : UpOk B) : Calls Try.prog 46 [B.ptr, .int .i64 t].toArray w fun e w' => ∃ i : {i : Bk × TxE // OfB B t i}, e = .returned (undoR B.l t i.1.2).val ∧ Wp u (i.1.1.hp ++ Hl) ((SF.bk u.heap.size i.1.1).sep G) w' := by
 refine enterW Try.func46 rfl Try.ntmps46 rfl hw ?_
 refine WC.seq ?_
 refine WC.region ?_
 refine WL.eff (E.alloc Try.zeroValue48 rfl rfl) rfl (fun b1 => ?_)
 refine WL.nil ?_
 refine WQ.next ?_
 refine WC.seq ?_
 refine WC.region ?_
 refine WL.pure (Y.move rfl) rfl rfl rfl ?_
 refine WL.pure (Y.move rfl) rfl rfl rfl ?_
 refine WL.eff (E.of [_] rfl rfl rfl rfl rfl) rfl (fun i => ?_)
 obtain ⟨⟨B1, x, K⟩, hOf, hK⟩ := i
 have hu := of_up hOf hB
 obtain ⟨el, eA, ec, _, ebk, _⟩ := of_l hOf
 have hBl := hB.1
 dsimp only at hu el eA ec ebk hOf hK ⊢
 rw [← el] at hBl
 have e0 : B.ptr = B1.ptr := by unfold Bk.ptr; rw [ebk]
 rw [e0]
 refine WL.pure (Y.assign rfl) rfl rfl rfl ?_
 refine WL.nil ?_
 refine WQ.next ?_
 refine WC.seq ?_
 refine WC.seq ?_
 refine WC.region ?_
 refine WL.pure (Y.move rfl) rfl rfl rfl ?_
 refine WL.pure (Y.nilCheck rfl) rfl rfl rfl ?_
 refine WL.pure (Y.fieldAddr fa_92_2 rfl) rfl rfl rfl ?_
 refine WL.val (Y.load fl_46 rfl m1 rfl) rfl rfl rfl ?_
 refine WL.pure (Y.len Try.underlying46 rfl) rfl rfl rfl ?_
 refine WL.pure (Y.eql rfl rfl) rfl rfl rfl ?_
 refine WL.nil ?_
 refine WQ.next ?_
 refine WC.cond rfl (fun h15 => ?_) (fun h15 => ?_)
 refine WC.seq ?_
 have hux : x.up = [] := by simpa using h15
 refine WC.region ?_
 refine WL.pure (Y.move rfl) rfl rfl rfl ?_
 refine WL.pure (Y.move rfl) rfl rfl rfl ?_
 refine WL.pure (Y.nilCheck rfl) rfl rfl rfl ?_
 refine WL.pure (Y.fieldAddr fa_92_1 rfl) rfl rfl rfl ?_
 refine WL.val (Y.load fl_3 rfl m1 rfl) rfl rfl rfl ?_
 refine WL.pure (Y.build rfl (bf_48_0_1_2 _ _ _)) rfl rfl rfl ?_
 refine WL.eff (E.store Try.sizeOf48 rfl rfl rfl rfl rfl u0 rfl rfl) rfl (fun _ => ?_)
 refine WL.nil ?_
 refine WQ.next ?_
 refine WC.ret ?_
 refine WQ.thenRet ?_
 refine WQ.done Try.results46 (RVs.cons (RV.cell wd_48 rfl m0 rfl) RVs.nil) (fun a w s => ?_)
 · refine ⟨⟨(B1, x), hOf⟩, ?_, s.wp.sub (rest_hp (Hx := [_]) (foc_out hK (set1_same hOf.1).symm _ _))⟩
   simp only [packed, undoR, hux, ← el]
   rfl
 refine WC.skip' ?_
 refine WQ.next ?_
 refine WC.seq ?_
 obtain ⟨m, us, hux⟩ : ∃ m us, x.up = m :: us := by
   cases hc : x.up with
   | nil => rw [hc] at h15; simp at h15
   | cons m us => exact ⟨m, us, rfl⟩
 have hm := hu.2 m (by rw [hux]; exact List.Mem.head _)
 have hlen : 1 ≤ x.up.length := by rw [hux]; simp
 have hul := hu.1
 have hmt : x.up.reverse[x.up.length - 1]? = some m := by rw [hux]; simp
 obtain ⟨r, hk2⟩ := get_of_lt (l := B1.l) (k := m - 1) (by omega)
 refine WC.know (p := ∃ g, x.A = some ⟨g, 0, none⟩) (fun a w s => by obtain ⟨g, hA, _⟩ := own_cell (bk_row hOf.1 s.fact.1) (nums_get hmt); exact ⟨g, hA⟩) (fun ⟨g, hA⟩ => ?_)
 refine WC.know (p := B1.A = some ⟨gOf B1.A, 0, none⟩) (fun a w s => (bk_RL s.fact.1).addr hk2) (fun hA2 => ?_)
 refine WC.draw [(0, .q false), (1, .q false), (2, .q false), (3, .q true), (4, .q false), (5, .q false), (6, .q false), (7, .q true), (8, .q false), (9, .q false), (10, .q false), (11, .q true), (12, .q false), (13, .q false), (14, .q false), (15, .q true), (16, .q false), (17, .q false), (18, .q true), (19, .s false), (20, .s true)] mixed (by kernel_rfl) ?_
 refine WDm.quiet (QS.pure (Y.move rfl) rfl rfl) rfl rfl rfl ?_
 refine WDm.quiet (QS.pure (Y.nilCheck rfl) rfl rfl) rfl rfl rfl ?_
 refine WDm.quiet (QS.pure (Y.fieldAddr fa_78_0 rfl) rfl rfl) rfl rfl rfl ?_
 refine WDm.quiet (QS.val (Y.load fl_26 rfl m2 rfl) rfl rfl) rfl rfl rfl ?_
 refine WDm.quiet (QS.pure (Y.move rfl) rfl rfl) rfl rfl rfl ?_
 refine WDm.quiet (QS.pure (Y.nilCheck rfl) rfl rfl) rfl rfl rfl ?_
 refine WDm.quiet (QS.pure (Y.fieldAddr fa_92_2 rfl) rfl rfl) rfl rfl rfl ?_
 refine WDm.quiet (QS.val (Y.load fl_46 rfl m1 rfl) rfl rfl) rfl rfl rfl ?_
 refine WDm.quiet (QS.pure (Y.move rfl) rfl rfl) rfl rfl rfl ?_
 refine WDm.quiet (QS.pure (Y.nilCheck rfl) rfl rfl) rfl rfl rfl ?_
 refine WDm.quiet (QS.pure (Y.fieldAddr fa_92_2 rfl) rfl rfl) rfl rfl rfl ?_
 refine WDm.quiet (QS.val (Y.load fl_46 rfl m1 rfl) rfl rfl) rfl rfl rfl ?_
 refine WDm.quiet (QS.pure (Y.len Try.underlying46 rfl) rfl rfl) rfl rfl rfl ?_
 refine WDm.quiet (QS.pure (Y.sub rfl rfl (i64_sub1 hlen (by omega))) rfl rfl) rfl rfl rfl ?_
 refine WDm.quiet (QS.pure (Y.ixSlA Try.underlying46 Try.sizeOf3 rfl rfl hA (nat0 _) (by omega)) rfl rfl) rfl rfl rfl ?_
 refine WDm.quiet (QS.val (Y.loadc fl_3 rfl (v := .int .i64 (m : Int)) (fun a w s => by obtain ⟨g2, hA3, hc⟩ := own_cell (bk_row hOf.1 s.fact.1) (nums_get hmt); cases hA.symm.trans hA3; simpa using hc)) rfl rfl) rfl rfl rfl ?_
 refine WDm.quiet (QS.pure (Y.sub rfl rfl (i64_sub1 hm.1 (by omega))) rfl rfl) rfl rfl rfl ?_
 refine WDm.quiet (QS.pure (Y.ixSlA Try.underlying26 Try.sizeOf48 rfl rfl hA2 (nat0 _) (by omega)) rfl rfl) rfl rfl rfl ?_
 refine WDm.quiet (QS.val (Y.loadAc wd_48 rfl (r := r.cl) rfl (fun a w s j hj => (bk_RL s.fact.1).full hk2 j hj)) rfl rfl) rfl rfl rfl ?_
 refine WDm.spec (WS.free rfl (E.alloc Try.zeroValue48 rfl rfl)) (fun _ => ext_new rfl) (fun b2 => ?_)
 refine WDm.spec (WS.free rfl (E.store Try.sizeOf48 rfl rfl rfl rfl rfl u0 rfl rfl)) (fun _ => sub_refl _) (fun _ => ?_)
 refine WDm.nil (WQ.and ?_)
 refine WQ.next ?_
 refine WC.seq ?_
 refine WC.draw [(0, .q false), (1, .q false), (2, .q false), (3, .q false), (4, .q true), (5, .q false), (6, .q true), (7, .q false), (8, .q true), (9, .q false), (10, .q true), (11, .q false), (12, .q true), (13, .q false), (14, .q true), (15, .q false), (16, .s true)] mixed (by kernel_rfl) ?_
 refine WDm.quiet (QS.pure (Y.move rfl) rfl rfl) rfl rfl rfl ?_
 refine WDm.quiet (QS.pure (Y.move rfl) rfl rfl) rfl rfl rfl ?_
 refine WDm.quiet (QS.pure (Y.nilCheck rfl) rfl rfl) rfl rfl rfl ?_
 refine WDm.quiet (QS.pure (Y.fieldAddr fa_92_1 rfl) rfl rfl) rfl rfl rfl ?_
 refine WDm.quiet (QS.val (Y.load fl_3 rfl m2 rfl) rfl rfl) rfl rfl rfl ?_
 refine WDm.quiet (QS.pure (Y.fieldAddr fa_48_3 rfl) rfl rfl) rfl rfl rfl ?_
 refine WDm.quiet (QS.val (Y.load fl_3 rfl m0 rfl) rfl rfl) rfl rfl rfl ?_
 refine WDm.quiet (QS.pure (Y.fieldAddr fa_48_4 rfl) rfl rfl) rfl rfl rfl ?_
 refine WDm.quiet (QS.val (Y.load fl_3 rfl m0 rfl) rfl rfl) rfl rfl rfl ?_
 refine WDm.quiet (QS.pure (Y.fieldAddr fa_48_6 rfl) rfl rfl) rfl rfl rfl ?_
 refine WDm.quiet (QS.val (Y.load fl_3 rfl m0 rfl) rfl rfl) rfl rfl rfl ?_
 refine WDm.quiet (QS.pure (Y.fieldAddr fa_48_5 rfl) rfl rfl) rfl rfl rfl ?_
 refine WDm.quiet (QS.val (Y.load fl_3 rfl m0 rfl) rfl rfl) rfl rfl rfl ?_
 refine WDm.quiet (QS.pure (Y.fieldAddr fa_48_2 rfl) rfl rfl) rfl rfl rfl ?_
 refine WDm.quiet (QS.val (Y.load fl_3 rfl m0 rfl) rfl rfl) rfl rfl rfl ?_
 refine WDm.quiet (QS.pure (Y.build rfl (bf_48_0_1_2_3_4_5_6_7 _ _ _ _ _ _ _ _)) rfl rfl) rfl rfl rfl ?_
 refine WDm.spec (WS.free rfl (E.store Try.sizeOf48 rfl rfl rfl rfl rfl u1 rfl rfl)) (fun _ => sub_refl _) (fun _ => ?_)
 refine WDm.nil (WQ.and ?_)
 refine WQ.next ?_
 refine WC.ret ?_
 refine WQ.done Try.results46 (RVs.cons (RV.cell wd_48 rfl m1 rfl) RVs.nil) (fun a w s => ?_)
 · refine ⟨⟨(B1, x), hOf⟩, ?_, s.wp.sub (rest_hp (Hx := [_, _]) (foc_out hK (set1_same hOf.1).symm _ _))⟩
   simp only [packed, undoR, hux, ← el]
   rw [hk2]; rfl
end Go.Proofs.Ytmfjhacgpopijaa
end
section
set_option linter.unusedVariables false
set_option linter.unusedSimpArgs false
set_option linter.unusedSectionVars false
set_option maxRecDepth 100000
namespace Go.Proofs.Ytmfjhacgpopijaa
open Go.RowKit Go.Joins
/-- The book B tells of the history h. -/
structure BOk (B : Bk) (h : List R) : Prop where
  l : B.l = h.reverse
  pg : B.pg = pagesOf h
  tx : ∀ t x, look1 B.tx t = some x → x.st = stB h t ∧ x.last = lastN h t ∧ x.up = upB h t
  no : ∀ t, look1 B.tx t = none → stB h t = 0 ∧ lastN h t = 0 ∧ upB h t = []
  ow : ∀ p c, look2 B.ow p c = if ownB h p c = 0 then none else some (.int .i64 (ownB h p c))
  borns : B.ow.Pairwise fun a b => a.born ≠ b.born
  keys : B.ow.Pairwise fun a b => ¬(a.p = b.p ∧ a.c = b.c)
  lt : ∀ e ∈ B.ow, e.born < B.k2
theorem look1_app {l : List TxE} {t : Int} {x : TxE} : ∀ {t' : Int}, look1 l t = none → x.key = t → look1 (l ++ [x]) t' = if t' = t then some x else look1 l t' := by
  intro t' hn hx
  induction l with
  | nil => subst hx; simp [look1, eq_comm]
  | cons y l ih =>
    unfold look1 at hn
    split at hn
    · cases hn
    · rename_i hk
      simp only [List.cons_append, look1]
      by_cases h1 : y.key = t'
      · subst h1
        simp [hk]
      · simp only [h1, if_false]
        exact ih hn
theorem BOk.of {B : Bk} {h : List R} {t : Int} {i : Bk × TxE} (hB : BOk B h) (ho : OfB B t i) : BOk i.1 h ∧ i.2.st = stB h t ∧ i.2.last = lastN h t ∧ i.2.up = upB h t := by
  rcases ho.2 with ⟨e, h2⟩ | ⟨h2, h3, e⟩
  · rw [e]
    exact ⟨hB, hB.tx t _ h2⟩
  · have hn := hB.no t h2
    have hx : i.2.st = stB h t ∧ i.2.last = lastN h t ∧ i.2.up = upB h t := by
      rw [h3, hn.1, hn.2.1, hn.2.2]
      exact ⟨rfl, rfl, rfl⟩
    have hkey : i.2.key = t := by rw [h3]; rfl
    refine ⟨?_, hx⟩
    rw [e]
    refine ⟨hB.l, hB.pg, fun t' x hl => ?_, fun t' hl => ?_, hB.ow, hB.borns, hB.keys, hB.lt⟩
    · have hl' : look1 (B.tx ++ [i.2]) t' = some x := hl
      rw [look1_app h2 hkey] at hl'
      split at hl'
      · rename_i et
        injection hl' with hl'
        subst hl' et
        exact hx
      · exact hB.tx t' x hl'
    · have hl' : look1 (B.tx ++ [i.2]) t' = none := hl
      rw [look1_app h2 hkey] at hl'
      split at hl'
      · cases hl'
      · exact hB.no t' hl'
theorem upB_le : ∀ {h : List R} {t : Int} {n : Nat}, n ∈ upB h t → 1 ≤ n ∧ n ≤ h.length
  | [], _, _, hn => by cases hn
  | r :: h, t, n, hn => by
    unfold upB at hn
    have key : ∀ n ∈ upB h t, 1 ≤ n ∧ n ≤ (r :: h).length := fun n hn => by have := upB_le hn; simp; omega
    split at hn
    · split at hn
      · rcases List.mem_cons.1 hn with rfl | hn
        · simp
        · exact key n hn
      · split at hn
        · exact key n (List.mem_of_mem_tail hn)
        · split at hn
          · cases hn
          · exact key n hn
    · exact key n hn
theorem upB_len : ∀ (h : List R) (t : Int), (upB h t).length ≤ h.length
  | [], _ => by simp [upB]
  | r :: h, t => by
    have ih := upB_len h t
    unfold upB
    split
    · split
      · simp; omega
      · split
        · simp; omega
        · split
          · simp
          · simp; omega
    · simp; omega
theorem BOk.up {B : Bk} {h : List R} (hB : BOk B h) (hl : h.length ≤ 60) : UpOk B := by
  have e : B.l.length = h.length := by rw [hB.l]; simp
  refine ⟨by omega, fun t x hx => ?_⟩
  rw [(hB.tx t x hx).2.2, e]
  exact ⟨Nat.le_trans (upB_len h t) hl, fun m hm => upB_le hm⟩
theorem BOk.own {B : Bk} {h : List R} (hB : BOk B h) (p c : Int) : (look2 B.ow p c).getD (.int .i64 0) = .int .i64 (ownB h p c) := by
  rw [hB.ow]
  split
  · rename_i h0; rw [h0]; rfl
  · rfl
theorem undoR_B {B : Bk} {h : List R} {t : Int} {x : TxE} (hl : B.l = h.reverse) (h1 : x.last = lastN h t) (h2 : x.up = upB h t) : undoR B.l t x = undoB h t := by
  unfold undoR undoB
  rw [h2, h1, hl]
  cases upB h t with
  | nil => rfl
  | cons m us => rfl
section
variable [Inhabited DSx] {Q : Exit → Act → World → Prop} {E : Env} {n : Nat} {H : Hp} {F G : SF} {u : World}
theorem E.owner {f : FuncId} {args : Array Operand} {ts : Array TypeId} {d : Nat} {T' : TypeId} {p : String} {af : Array Edge} {B : Bk} {h : List R} {t p' c : Int} {x : TxE} {K Hl : Hp} (Hx : Hp) (hf : f = 45) (hB : BOk B h) (hK : Foc B t x K) (hl : look1 B.tx t = some x)
    (hH : H = Hx ++ (x.blkc :: B.own1 :: (K ++ Hl))) (hF : F = (SF.bk u.heap.size B).sep G)
    (hx : evs E args.toList = some [B.ptr, .int .i64 p', .int .i64 c]) (hn : Nat.blt d n = true) :
    Eff Try.prog E n H F u ⟨some d, .call { callee := .value (.func f), args := args, argTypes := ts }, T', p, af, none⟩ (fun _ : Unit => (d, .int .i64 (ownB h p' c)) :: E) (fun _ => H) (fun _ => F) := by
  subst hf hF
  refine Proofs.Ytmfjhacgpopijaa.E.callM _ _ _ Try.call45 hx (fun w hw => ?_) hn
  rw [hH] at hw ⊢
  refine (w_owner u B (Hx ++ Hl) G p' c w (hw.sub (foc_out hK (set1_same hl).symm Hx Hl))).mono fun e w' ⟨_, he, hw'⟩ => ?_
  rw [hB.own] at he
  exact ⟨(), he, hw'.sub (foc_in hK Hx Hl)⟩
theorem of_same {B : Bk} {t : Int} {x : TxE} {i : Bk × TxE} (h : OfB B t i) (hl : look1 B.tx t = some x) : i.1 = B ∧ i.2 = x := by
  rcases h.2 with ⟨e, h2⟩ | ⟨h2, _⟩
  · rw [hl] at h2
    exact ⟨e, (Option.some.inj h2).symm⟩
  · rw [hl] at h2; cases h2
theorem E.undo {f : FuncId} {args : Array Operand} {ts : Array TypeId} {d : Nat} {T' : TypeId} {p : String} {af : Array Edge} {B : Bk} {h : List R} {t : Int} {x : TxE} {K Hl : Hp} (Hx : Hp) (hf : f = 46) (hB : BOk B h) (hlen : h.length ≤ 60) (hK : Foc B t x K) (hl : look1 B.tx t = some x)
    (hH : H = Hx ++ (x.blkc :: B.own1 :: (K ++ Hl))) (hF : F = (SF.bk u.heap.size B).sep G)
    (hx : evs E args.toList = some [B.ptr, .int .i64 t]) (hn : Nat.blt d n = true) :
    Eff Try.prog E n H F u ⟨some d, .call { callee := .value (.func f), args := args, argTypes := ts }, T', p, af, none⟩ (fun _ : Unit => (d, (undoB h t).val) :: E) (fun _ => H) (fun _ => F) := by
  subst hf hF
  refine Proofs.Ytmfjhacgpopijaa.E.callM _ _ _ Try.call46 hx (fun w hw => ?_) hn
  rw [hH] at hw ⊢
  refine (w_undo u B (Hx ++ Hl) G t w (hw.sub (foc_out hK (set1_same hl).symm Hx Hl)) (hB.up hlen)).mono fun e w' ⟨i, he, hw'⟩ => ?_
  obtain ⟨⟨B', x'⟩, hi⟩ := i
  obtain ⟨e1, e2⟩ := of_same hi hl
  dsimp only at e1 e2 he hw'
  subst e1 e2
  have h3 := hB.tx t x' hl
  rw [undoR_B hB.l h3.2.1 h3.2.2] at he
  exact ⟨(), he, hw'.sub (foc_in hK Hx Hl)⟩
theorem Y.loadN {P : Program} {d : Option Nat} {x : Operand} {T T' : TypeId} {p : String} {af : Array Edge} {b o : Nat} {v : Value} {cs : List Value} {T2 : TypeId} (hT : Flat P T) (hx : ev E x = some (.pointer (some ⟨b, o, none⟩))) (hm : (b, cs, T2) ∈ H) (hc : nth cs o = some v) :
    Yv P E n H F u ⟨d, .load T x, T', p, af, none⟩ v := Y.load hT hx hm hc
end
theorem cell_at (B : Bk) (i c : Int) (hi : 0 ≤ i ∧ i ≤ 2) (hc : 0 ≤ c ∧ c ≤ 2) : nth B.cells (0 + 1 + i.toNat * 4 + 0 + c.toNat * 1) = some (.int .i64 ((B.pg.get i).cellAt c)) := by
  have h1 : i = 0 ∨ i = 1 ∨ i = 2 := by omega
  have h2 : c = 0 ∨ c = 1 ∨ c = 2 := by omega
  rcases h1 with rfl | rfl | rfl <;> rcases h2 with rfl | rfl | rfl <;> rfl
end Go.Proofs.Ytmfjhacgpopijaa
end
section
set_option maxRecDepth 100000
set_option linter.unusedVariables false
set_option linter.unusedSimpArgs false
set_option linter.unusedSectionVars false
set_option maxHeartbeats 4000000
namespace Go.Proofs.Ytmfjhacgpopijaa
open Go.RowKit Go.Joins
theorem w_fits (u : World) (B : Bk) (Hl : Hp) (G : SF) (h : List R) (r : R) (w : World) (hw : Wp u (B.hp ++ Hl) ((SF.bk u.heap.size B).sep G) w) (hB : BOk B h) (hlen : h.length ≤ 60) (hok : recErr ((h.length : Int) + 1) r = 0) : Calls Try.prog 38 [B.ptr, r.val].toArray w fun e w' => ∃ i : {i : Bk // BOk i h ∧ i.bk = B.bk}, e = .returned (.bool (fits h r)) ∧ Wp u (i.1.hp ++ Hl) ((SF.bk u.heap.size i.1).sep G) w' := by
 have hbd := rec_bounds hok
 refine enterW Try.func38 rfl Try.ntmps38 rfl hw ?_
 refine sR ?_
 refine WL.eff (E.box rfl rfl rfl) rfl (fun b1 => ?_)
 refine pA rfl rfl ?_
 refine nN ?_
 refine sR ?_
 refine pM rfl rfl ?_
 refine pP (Y.fieldAddr fa_48_1 rfl) rfl ?_
 refine pV (Y.load fl_3 rfl m0 rfl) rfl ?_
 refine WL.eff (E.of [_] rfl rfl rfl rfl rfl) rfl (fun i => ?_)
 obtain ⟨⟨B1, x, K⟩, hOf, hK⟩ := i
 obtain ⟨hB1, hst, hla, hup⟩ := hB.of hOf
 obtain ⟨el, eA, ec, epg, ebk, _⟩ := of_l hOf
 dsimp only at hOf hK hB1 hst hla hup el eA ec epg ebk ⊢
 have e0 : B.ptr = B1.ptr := by unfold Bk.ptr; rw [ebk]
 rw [e0]
 have hl1 := hOf.1
 dsimp only at hl1
 refine pA rfl rfl ?_
 refine nN ?_
 refine WC.seq ?_
 refine WC.seq ?_
 refine WC.draw [(0, .q false), (1, .q true), (2, .q false), (3, .q false), (4, .q false), (5, .q true), (6, .q false)] mixed (by kernel_rfl) ?_
 refine dP (Y.fieldAddr fa_48_2 rfl) rfl rfl ?_
 refine dV (Y.load fl_3 rfl m0 rfl) rfl rfl ?_
 refine dP (Y.move rfl) rfl rfl ?_
 refine dP (Y.nilCheck rfl) rfl rfl ?_
 refine dP (Y.fieldAddr fa_92_1 rfl) rfl rfl ?_
 refine dV (Y.load fl_3 rfl m1 rfl) rfl rfl ?_
 refine dP (Y.neq rfl rfl) rfl rfl ?_
 refine WDm.nil (WQ.and ?_)
 refine WQ.next ?_
 refine WC.cond rfl (fun h17 => ?_) (fun h17 => ?_)
 refine sR ?_
 refine pA rfl rfl ?_
 refine nN ?_
 refine WC.ret ?_
 refine WQ.thenRet ?_
 refine dn1 Try.results38 rfl (fun a w s => ?_)
 · refine ⟨⟨B1, hB1, ebk⟩, ?_, s.wp.sub (rest_hp (Hx := [_]) (foc_out hK (set1_same hl1).symm _ _))⟩
   have hpg := hB1.pg
   have gt0 : ∀ l : List Nat, decide ((0 : Int) < (l.length : Int)) = !l.isEmpty := fun l => by cases l <;> simp
   clear s hbd el eA ec epg ebk e0 hK hl1 hOf hB1 hB hw
   simp only [packed]
   apply retb
   try simp only [hpg, hst, hla, hup, beq0, gt0] at *
   unfold fits
   (simp_all <;> grind)
 refine WC.skip' ?_
 refine WQ.next ?_
 refine WC.seq ?_
 refine sR ?_
 refine pP (Y.fieldAddr fa_48_0 rfl) rfl ?_
 refine pV (Y.load fl_3 rfl m0 rfl) rfl ?_
 refine nN ?_
 refine WC.block ?_
 refine sR ?_
 refine pP (Y.eql rfl rfl) rfl ?_
 refine pA rfl rfl ?_
 refine nN ?_
 refine WC.cond rfl (fun h20 => ?_) (fun h20 => ?_)
 refine sR ?_
 refine pM rfl rfl ?_
 refine pP (Y.fieldAddr fa_48_3 rfl) rfl ?_
 refine pV (Y.load fl_3 rfl m0 rfl) rfl ?_
 refine pP (Y.fieldAddr fa_48_4 rfl) rfl ?_
 refine pV (Y.load fl_3 rfl m0 rfl) rfl ?_
 refine WL.eff (E.owner [_] rfl hB1 hK hl1 rfl rfl rfl rfl) rfl (fun _ => ?_)
 refine pA rfl rfl ?_
 refine nN ?_
 refine WC.seq ?_
 have hk1 : r.kind = 1 := by simpa using h20
 obtain ⟨hp, hc, _⟩ := hbd.2.2.2.2.2.2.2.2.1 (by simp [R.turns, hk1])
 refine WC.drop [4] ?_
 refine WC.draw [(0, .q false), (1, .q false), (2, .q false), (3, .q true), (4, .q false), (5, .q false), (6, .q false), (7, .q true), (8, .q false), (9, .q false), (10, .q true), (11, .q false), (12, .q true), (13, .q false), (14, .q false), (15, .q false), (16, .q false), (17, .q false), (18, .q true), (19, .q false), (20, .q false), (21, .q false), (22, .q false), (23, .q false), (24, .q false), (25, .q false), (26, .q false), (27, .q true), (28, .q false), (29, .q false), (30, .q false), (31, .q false)] mixed (by kernel_rfl) ?_
 refine dP (Y.move rfl) rfl rfl ?_
 refine dP (Y.nilCheck rfl) rfl rfl ?_
 refine dP (Y.fieldAddr fa_92_0 rfl) rfl rfl ?_
 refine dV (Y.load fl_3 rfl m1 rfl) rfl rfl ?_
 refine dP (Y.lss rfl rfl) rfl rfl ?_
 refine dP (Y.move rfl) rfl rfl ?_
 refine WDm.split (t := 33) rfl (fun r h33 => ?_)
 cases r
 refine dF rfl rfl ?_
 refine dF rfl rfl ?_
 refine dF rfl rfl ?_
 refine dF rfl rfl ?_
 refine dF rfl rfl ?_
 refine dF rfl rfl ?_
 refine dF rfl rfl ?_
 refine dF rfl rfl ?_
 refine dF rfl rfl ?_
 refine dF rfl rfl ?_
 refine dF rfl rfl ?_
 refine dF rfl rfl ?_
 refine dF rfl rfl ?_
 refine dF rfl rfl ?_
 refine dP (Y.pickF rfl rfl) rfl rfl ?_
 refine dP (Y.move rfl) rfl rfl ?_
 refine dF rfl rfl ?_
 refine dF rfl rfl ?_
 refine dF rfl rfl ?_
 refine dF rfl rfl ?_
 refine dF rfl rfl ?_
 refine dF rfl rfl ?_
 refine dF rfl rfl ?_
 refine dF rfl rfl ?_
 refine dP (Y.pickF rfl rfl) rfl rfl ?_
 refine dP (Y.assign rfl) rfl rfl ?_
 refine WDm.nil (WQ.and ?_)
 refine WQ.next ?_
 refine WC.ret ?_
 refine WQ.blockRet ?_
 refine WQ.thenRet ?_
 refine dn1 Try.results38 rfl (fun a w s => ?_)
 · refine ⟨⟨B1, hB1, ebk⟩, ?_, s.wp.sub (rest_hp (Hx := [_]) (foc_out hK (set1_same hl1).symm _ _))⟩
   have hpg := hB1.pg
   have gt0 : ∀ l : List Nat, decide ((0 : Int) < (l.length : Int)) = !l.isEmpty := fun l => by cases l <;> simp
   clear s hbd el eA ec epg ebk e0 hK hl1 hOf hB1 hB hw
   simp only [packed]
   apply retb
   try simp only [hpg, hst, hla, hup, beq0, gt0] at *
   unfold fits
   (simp_all <;> grind)
 refine dPg rfl (Y.fieldAddr fa_48_5 rfl) rfl rfl rfl ?_
 refine dVg rfl (Y.load fl_3 rfl m0 rfl) rfl rfl rfl ?_
 refine dPg rfl (Y.move rfl) rfl rfl rfl ?_
 refine dPg rfl (Y.fieldAddr fa_48_3 rfl) rfl rfl rfl ?_
 refine dVg rfl (Y.load fl_3 rfl m0 rfl) rfl rfl rfl ?_
 refine dPg rfl (Y.fieldAddr fa_48_4 rfl) rfl rfl rfl ?_
 refine dVg rfl (Y.load fl_3 rfl m0 rfl) rfl rfl rfl ?_
 refine dPg rfl (Y.nilCheck rfl) rfl rfl rfl ?_
 refine dPg rfl (Y.fieldAddr fa_78_1 rfl) rfl rfl rfl ?_
 refine dPg rfl (Y.ixArr Try.underlying25 Try.sizeOf24 rfl rfl hp.1 (by omega)) rfl rfl rfl ?_
 refine dPg rfl (Y.fieldAddr fa_24_0 rfl) rfl rfl rfl ?_
 refine dPg rfl (Y.ixArr Try.underlying22 Try.sizeOf3 rfl rfl hc.1 (by omega)) rfl rfl rfl ?_
 refine dVg rfl (Y.loadN fl_3 rfl m2 (cell_at _ _ _ hp hc)) rfl rfl rfl ?_
 refine dPg rfl (Y.eql rfl rfl) rfl rfl rfl ?_
 refine dP (Y.pickT rfl rfl) rfl rfl ?_
 refine dP (Y.move rfl) rfl rfl ?_
 refine WDm.split (t := 49) rfl (fun r h49 => ?_)
 cases r
 refine dF rfl rfl ?_
 refine dF rfl rfl ?_
 refine dF rfl rfl ?_
 refine dF rfl rfl ?_
 refine dF rfl rfl ?_
 refine dF rfl rfl ?_
 refine dF rfl rfl ?_
 refine dF rfl rfl ?_
 refine dP (Y.pickF rfl rfl) rfl rfl ?_
 refine dP (Y.assign rfl) rfl rfl ?_
 refine WDm.nil (WQ.and ?_)
 refine WQ.next ?_
 refine WC.ret ?_
 refine WQ.blockRet ?_
 refine WQ.thenRet ?_
 refine dn1 Try.results38 rfl (fun a w s => ?_)
 · refine ⟨⟨B1, hB1, ebk⟩, ?_, s.wp.sub (rest_hp (Hx := [_]) (foc_out hK (set1_same hl1).symm _ _))⟩
   have hpg := hB1.pg
   have gt0 : ∀ l : List Nat, decide ((0 : Int) < (l.length : Int)) = !l.isEmpty := fun l => by cases l <;> simp
   clear s hbd el eA ec epg ebk e0 hK hl1 hOf hB1 hB hw
   simp only [packed]
   apply retb
   try simp only [hpg, hst, hla, hup, beq0, gt0] at *
   unfold fits
   (simp_all <;> grind)
 refine dPg rfl (Y.move rfl) rfl rfl rfl ?_
 refine dPg rfl (Y.eql rfl rfl) rfl rfl rfl ?_
 refine dPg rfl (Y.move rfl) rfl rfl rfl ?_
 refine WDm.split (t := 52) rfl (fun r h52 => ?_)
 cases r
 refine dPg rfl (Y.move rfl) rfl rfl rfl ?_
 refine dPg rfl (Y.fieldAddr fa_48_1 rfl) rfl rfl rfl ?_
 refine dVg rfl (Y.load fl_3 rfl m0 rfl) rfl rfl rfl ?_
 refine dPg rfl (Y.eql rfl rfl) rfl rfl rfl ?_
 refine dPg rfl (Y.pickF rfl rfl) rfl rfl rfl ?_
 refine dP (Y.pickT rfl rfl) rfl rfl ?_
 refine dP (Y.assign rfl) rfl rfl ?_
 refine WDm.nil (WQ.and ?_)
 refine WQ.next ?_
 refine WC.ret ?_
 refine WQ.blockRet ?_
 refine WQ.thenRet ?_
 refine dn1 Try.results38 rfl (fun a w s => ?_)
 · refine ⟨⟨B1, hB1, ebk⟩, ?_, s.wp.sub (rest_hp (Hx := [_]) (foc_out hK (set1_same hl1).symm _ _))⟩
   have hpg := hB1.pg
   have gt0 : ∀ l : List Nat, decide ((0 : Int) < (l.length : Int)) = !l.isEmpty := fun l => by cases l <;> simp
   clear s hbd el eA ec epg ebk e0 hK hl1 hOf hB1 hB hw
   simp only [packed]
   apply retb
   try simp only [hpg, hst, hla, hup, beq0, gt0] at *
   unfold fits
   (simp_all <;> grind)
 refine dF rfl rfl ?_
 refine dF rfl rfl ?_
 refine dF rfl rfl ?_
 refine dF rfl rfl ?_
 refine dPg rfl (Y.pickT rfl rfl) rfl rfl rfl ?_
 refine dP (Y.pickT rfl rfl) rfl rfl ?_
 refine dP (Y.assign rfl) rfl rfl ?_
 refine WDm.nil (WQ.and ?_)
 refine WQ.next ?_
 refine WC.ret ?_
 refine WQ.blockRet ?_
 refine WQ.thenRet ?_
 refine dn1 Try.results38 rfl (fun a w s => ?_)
 · refine ⟨⟨B1, hB1, ebk⟩, ?_, s.wp.sub (rest_hp (Hx := [_]) (foc_out hK (set1_same hl1).symm _ _))⟩
   have hpg := hB1.pg
   have gt0 : ∀ l : List Nat, decide ((0 : Int) < (l.length : Int)) = !l.isEmpty := fun l => by cases l <;> simp
   clear s hbd el eA ec epg ebk e0 hK hl1 hOf hB1 hB hw
   simp only [packed]
   apply retb
   try simp only [hpg, hst, hla, hup, beq0, gt0] at *
   unfold fits
   (simp_all <;> grind)
 refine sR ?_
 refine pP (Y.eql rfl rfl) rfl ?_
 refine pA rfl rfl ?_
 refine nN ?_
 refine WC.cond rfl (fun h59 => ?_) (fun h59 => ?_)
 refine sR ?_
 refine pM rfl rfl ?_
 refine pP (Y.nilCheck rfl) rfl ?_
 refine pP (Y.fieldAddr fa_92_0 rfl) rfl ?_
 refine pV (Y.load fl_3 rfl m1 rfl) rfl ?_
 refine pP (Y.lss rfl rfl) rfl ?_
 refine pA rfl rfl ?_
 refine nN ?_
 refine WC.ret ?_
 refine WQ.blockRet ?_
 refine WQ.thenRet ?_
 refine dn1 Try.results38 rfl (fun a w s => ?_)
 · refine ⟨⟨B1, hB1, ebk⟩, ?_, s.wp.sub (rest_hp (Hx := [_]) (foc_out hK (set1_same hl1).symm _ _))⟩
   have hpg := hB1.pg
   have gt0 : ∀ l : List Nat, decide ((0 : Int) < (l.length : Int)) = !l.isEmpty := fun l => by cases l <;> simp
   clear s hbd el eA ec epg ebk e0 hK hl1 hOf hB1 hB hw
   simp only [packed]
   apply retb
   try simp only [hpg, hst, hla, hup, beq0, gt0] at *
   unfold fits
   (simp_all <;> grind)
 refine sR ?_
 refine pP (Y.eql rfl rfl) rfl ?_
 refine pA rfl rfl ?_
 refine nN ?_
 refine WC.cond rfl (fun h66 => ?_) (fun h66 => ?_)
 refine WC.seq ?_
 refine WC.drop [4] ?_
 refine WC.draw [(0, .q false), (1, .q false), (2, .q false), (3, .q true), (4, .q false), (5, .q false), (6, .q false), (7, .q false), (8, .q false), (9, .q true), (10, .q false), (11, .q false), (12, .q false), (13, .q false), (14, .q false), (15, .q false), (16, .q true), (17, .q false), (18, .q false), (19, .q false), (20, .q false), (21, .q true), (22, .q false), (23, .q false), (24, .q true), (25, .s false), (26, .q false), (27, .q false), (28, .q false)] mixed (by kernel_rfl) ?_
 refine dP (Y.move rfl) rfl rfl ?_
 refine dP (Y.nilCheck rfl) rfl rfl ?_
 refine dP (Y.fieldAddr fa_92_0 rfl) rfl rfl ?_
 refine dV (Y.load fl_3 rfl m1 rfl) rfl rfl ?_
 refine dP (Y.eql rfl rfl) rfl rfl ?_
 refine dP (Y.move rfl) rfl rfl ?_
 refine WDm.split (t := 73) rfl (fun r h73 => ?_)
 cases r
 refine dPg rfl (Y.move rfl) rfl rfl rfl ?_
 refine dPg rfl (Y.nilCheck rfl) rfl rfl rfl ?_
 refine dPg rfl (Y.fieldAddr fa_92_0 rfl) rfl rfl rfl ?_
 refine dVg rfl (Y.load fl_3 rfl m1 rfl) rfl rfl rfl ?_
 refine dPg rfl (Y.eql rfl rfl) rfl rfl rfl ?_
 refine dP (Y.pickF rfl rfl) rfl rfl ?_
 refine dP (Y.move rfl) rfl rfl ?_
 refine WDm.split (t := 80) rfl (fun r h80 => ?_)
 cases r
 refine dF rfl rfl ?_
 refine dF rfl rfl ?_
 refine dF rfl rfl ?_
 refine dF rfl rfl ?_
 refine dF rfl rfl ?_
 refine dF rfl rfl ?_
 refine dP (Y.pickF rfl rfl) rfl rfl ?_
 refine dP (Y.move rfl) rfl rfl ?_
 refine dF rfl rfl ?_
 refine dF rfl rfl ?_
 refine dF rfl rfl ?_
 refine dF rfl rfl ?_
 refine WDm.skip (off_F rfl rfl rfl rfl) rfl rfl rfl ?_
 refine dF rfl rfl ?_
 refine dP (Y.pickF rfl rfl) rfl rfl ?_
 refine dP (Y.assign rfl) rfl rfl ?_
 refine WDm.nil (WQ.and ?_)
 refine WQ.next ?_
 refine WC.ret ?_
 refine WQ.blockRet ?_
 refine WQ.thenRet ?_
 refine dn1 Try.results38 rfl (fun a w s => ?_)
 · refine ⟨⟨B1, hB1, ebk⟩, ?_, s.wp.sub (rest_hp (Hx := [_]) (foc_out hK (set1_same hl1).symm _ _))⟩
   have hpg := hB1.pg
   have gt0 : ∀ l : List Nat, decide ((0 : Int) < (l.length : Int)) = !l.isEmpty := fun l => by cases l <;> simp
   clear s hbd el eA ec epg ebk e0 hK hl1 hOf hB1 hB hw
   simp only [packed]
   apply retb
   try simp only [hpg, hst, hla, hup, beq0, gt0] at *
   unfold fits
   generalize decide (r = undoB h r.txn) = D at *
   (simp_all <;> grind)
 refine dPg rfl (Y.move rfl) rfl rfl rfl ?_
 refine dPg rfl (Y.nilCheck rfl) rfl rfl rfl ?_
 refine dPg rfl (Y.fieldAddr fa_92_2 rfl) rfl rfl rfl ?_
 refine dVg rfl (Y.load fl_46 rfl m1 rfl) rfl rfl rfl ?_
 refine dPg rfl (Y.len Try.underlying46 rfl) rfl rfl rfl ?_
 refine dPg rfl (Y.gtr rfl rfl) rfl rfl rfl ?_
 refine dP (Y.pickT rfl rfl) rfl rfl ?_
 refine dP (Y.move rfl) rfl rfl ?_
 refine WDm.split (t := 88) rfl (fun r h88 => ?_)
 cases r
 refine dF rfl rfl ?_
 refine dF rfl rfl ?_
 refine dF rfl rfl ?_
 refine dF rfl rfl ?_
 refine WDm.skip (off_F rfl rfl rfl rfl) rfl rfl rfl ?_
 refine dF rfl rfl ?_
 refine dP (Y.pickF rfl rfl) rfl rfl ?_
 refine dP (Y.assign rfl) rfl rfl ?_
 refine WDm.nil (WQ.and ?_)
 refine WQ.next ?_
 refine WC.ret ?_
 refine WQ.blockRet ?_
 refine WQ.thenRet ?_
 refine dn1 Try.results38 rfl (fun a w s => ?_)
 · refine ⟨⟨B1, hB1, ebk⟩, ?_, s.wp.sub (rest_hp (Hx := [_]) (foc_out hK (set1_same hl1).symm _ _))⟩
   have hpg := hB1.pg
   have gt0 : ∀ l : List Nat, decide ((0 : Int) < (l.length : Int)) = !l.isEmpty := fun l => by cases l <;> simp
   clear s hbd el eA ec epg ebk e0 hK hl1 hOf hB1 hB hw
   simp only [packed]
   apply retb
   try simp only [hpg, hst, hla, hup, beq0, gt0] at *
   unfold fits
   generalize decide (r = undoB h r.txn) = D at *
   (simp_all <;> grind)
 refine dVg rfl (Y.loadA wd_48 rfl m0 rfl) rfl rfl rfl ?_
 refine dPg rfl (Y.move rfl) rfl rfl rfl ?_
 refine dPg rfl (Y.fieldAddr fa_48_1 rfl) rfl rfl rfl ?_
 refine dVg rfl (Y.load fl_3 rfl m0 rfl) rfl rfl rfl ?_
 refine WDm.spec (WS.guardT rfl rfl rfl (E.undo [_] rfl hB1 hlen hK hl1 rfl rfl rfl rfl)) (fun _ => ext_call rfl) (fun _ => ?_)
 refine dPg rfl (Y.eqlA Try.eqGuardType48 rfl rfl (weq_rec r (undoB h r.txn))) rfl rfl rfl ?_
 refine dP (Y.pickT rfl rfl) rfl rfl ?_
 refine dP (Y.assign rfl) rfl rfl ?_
 refine WDm.nil (WQ.and ?_)
 refine WQ.next ?_
 refine WC.ret ?_
 refine WQ.blockRet ?_
 refine WQ.thenRet ?_
 refine dn1 Try.results38 rfl (fun a w s => ?_)
 · refine ⟨⟨B1, hB1, ebk⟩, ?_, s.wp.sub (rest_hp (Hx := [_]) (foc_out hK (set1_same hl1).symm _ _))⟩
   have hpg := hB1.pg
   have gt0 : ∀ l : List Nat, decide ((0 : Int) < (l.length : Int)) = !l.isEmpty := fun l => by cases l <;> simp
   clear s hbd el eA ec epg ebk e0 hK hl1 hOf hB1 hB hw
   simp only [packed]
   apply retb
   try simp only [hpg, hst, hla, hup, beq0, gt0] at *
   unfold fits
   generalize decide (r = undoB h r.txn) = D at *
   (simp_all <;> grind)
 refine dF rfl rfl ?_
 refine dF rfl rfl ?_
 refine dF rfl rfl ?_
 refine dF rfl rfl ?_
 refine dF rfl rfl ?_
 refine dP (Y.pickT rfl rfl) rfl rfl ?_
 refine dP (Y.move rfl) rfl rfl ?_
 refine dPg rfl (Y.move rfl) rfl rfl rfl ?_
 refine dPg rfl (Y.nilCheck rfl) rfl rfl rfl ?_
 refine dPg rfl (Y.fieldAddr fa_92_2 rfl) rfl rfl rfl ?_
 refine dVg rfl (Y.load fl_46 rfl m1 rfl) rfl rfl rfl ?_
 refine dPg rfl (Y.len Try.underlying46 rfl) rfl rfl rfl ?_
 refine dPg rfl (Y.gtr rfl rfl) rfl rfl rfl ?_
 refine dP (Y.pickT rfl rfl) rfl rfl ?_
 refine dP (Y.move rfl) rfl rfl ?_
 refine WDm.split (t := 88) rfl (fun r h88 => ?_)
 cases r
 refine dF rfl rfl ?_
 refine dF rfl rfl ?_
 refine dF rfl rfl ?_
 refine dF rfl rfl ?_
 refine WDm.skip (off_F rfl rfl rfl rfl) rfl rfl rfl ?_
 refine dF rfl rfl ?_
 refine dP (Y.pickF rfl rfl) rfl rfl ?_
 refine dP (Y.assign rfl) rfl rfl ?_
 refine WDm.nil (WQ.and ?_)
 refine WQ.next ?_
 refine WC.ret ?_
 refine WQ.blockRet ?_
 refine WQ.thenRet ?_
 refine dn1 Try.results38 rfl (fun a w s => ?_)
 · refine ⟨⟨B1, hB1, ebk⟩, ?_, s.wp.sub (rest_hp (Hx := [_]) (foc_out hK (set1_same hl1).symm _ _))⟩
   have hpg := hB1.pg
   have gt0 : ∀ l : List Nat, decide ((0 : Int) < (l.length : Int)) = !l.isEmpty := fun l => by cases l <;> simp
   clear s hbd el eA ec epg ebk e0 hK hl1 hOf hB1 hB hw
   simp only [packed]
   apply retb
   try simp only [hpg, hst, hla, hup, beq0, gt0] at *
   unfold fits
   generalize decide (r = undoB h r.txn) = D at *
   (simp_all <;> grind)
 refine dVg rfl (Y.loadA wd_48 rfl m0 rfl) rfl rfl rfl ?_
 refine dPg rfl (Y.move rfl) rfl rfl rfl ?_
 refine dPg rfl (Y.fieldAddr fa_48_1 rfl) rfl rfl rfl ?_
 refine dVg rfl (Y.load fl_3 rfl m0 rfl) rfl rfl rfl ?_
 refine WDm.spec (WS.guardT rfl rfl rfl (E.undo [_] rfl hB1 hlen hK hl1 rfl rfl rfl rfl)) (fun _ => ext_call rfl) (fun _ => ?_)
 refine dPg rfl (Y.eqlA Try.eqGuardType48 rfl rfl (weq_rec r (undoB h r.txn))) rfl rfl rfl ?_
 refine dP (Y.pickT rfl rfl) rfl rfl ?_
 refine dP (Y.assign rfl) rfl rfl ?_
 refine WDm.nil (WQ.and ?_)
 refine WQ.next ?_
 refine WC.ret ?_
 refine WQ.blockRet ?_
 refine WQ.thenRet ?_
 refine dn1 Try.results38 rfl (fun a w s => ?_)
 · refine ⟨⟨B1, hB1, ebk⟩, ?_, s.wp.sub (rest_hp (Hx := [_]) (foc_out hK (set1_same hl1).symm _ _))⟩
   have hpg := hB1.pg
   have gt0 : ∀ l : List Nat, decide ((0 : Int) < (l.length : Int)) = !l.isEmpty := fun l => by cases l <;> simp
   clear s hbd el eA ec epg ebk e0 hK hl1 hOf hB1 hB hw
   simp only [packed]
   apply retb
   try simp only [hpg, hst, hla, hup, beq0, gt0] at *
   unfold fits
   generalize decide (r = undoB h r.txn) = D at *
   (simp_all <;> grind)
 refine WC.skip' ?_
 refine WQ.blockEnd ?_
 refine WQ.next ?_
 refine sR ?_
 refine pM rfl rfl ?_
 refine pP (Y.nilCheck rfl) rfl ?_
 refine pP (Y.fieldAddr fa_92_0 rfl) rfl ?_
 refine pV (Y.load fl_3 rfl m1 rfl) rfl ?_
 refine pP (Y.eql rfl rfl) rfl ?_
 refine pM rfl rfl ?_
 refine WL.split (t := 101) rfl (fun r h101 => ?_)
 cases r
 refine gT rfl ?_
 refine pM rfl rfl ?_
 refine gT rfl ?_
 refine pP (Y.nilCheck rfl) rfl ?_
 refine gT rfl ?_
 refine pP (Y.fieldAddr fa_92_0 rfl) rfl ?_
 refine gT rfl ?_
 refine pV (Y.load fl_3 rfl m1 rfl) rfl ?_
 refine gT rfl ?_
 refine pP (Y.eql rfl rfl) rfl ?_
 refine gT rfl ?_
 refine pM rfl rfl ?_
 refine WL.split (t := 107) rfl (fun r h107 => ?_)
 cases r
 refine gF rfl ?_
 refine gF rfl ?_
 refine gF rfl ?_
 refine gF rfl ?_
 refine gF rfl ?_
 refine gF rfl ?_
 refine gT rfl ?_
 refine pP (Y.pickF rfl rfl) rfl ?_
 refine pP (Y.pickF rfl rfl) rfl ?_
 refine pA rfl rfl ?_
 refine nN ?_
 refine WC.ret ?_
 refine dn1 Try.results38 rfl (fun a w s => ?_)
 · refine ⟨⟨B1, hB1, ebk⟩, ?_, s.wp.sub (rest_hp (Hx := [_]) (foc_out hK (set1_same hl1).symm _ _))⟩
   have hpg := hB1.pg
   have gt0 : ∀ l : List Nat, decide ((0 : Int) < (l.length : Int)) = !l.isEmpty := fun l => by cases l <;> simp
   clear s hbd el eA ec epg ebk e0 hK hl1 hOf hB1 hB hw
   simp only [packed]
   apply retb
   try simp only [hpg, hst, hla, hup, beq0, gt0] at *
   unfold fits
   (simp_all <;> grind)
 refine gT rfl ?_
 refine pM rfl rfl ?_
 refine gT rfl ?_
 refine pP (Y.nilCheck rfl) rfl ?_
 refine gT rfl ?_
 refine pP (Y.fieldAddr fa_92_2 rfl) rfl ?_
 refine gT rfl ?_
 refine pV (Y.load fl_46 rfl m1 rfl) rfl ?_
 refine gT rfl ?_
 refine pP (Y.len Try.underlying46 rfl) rfl ?_
 refine gT rfl ?_
 refine pP (Y.eql rfl rfl) rfl ?_
 refine gT rfl ?_
 refine pP (Y.pickT rfl rfl) rfl ?_
 refine pP (Y.pickF rfl rfl) rfl ?_
 refine pA rfl rfl ?_
 refine nN ?_
 refine WC.ret ?_
 refine dn1 Try.results38 rfl (fun a w s => ?_)
 · refine ⟨⟨B1, hB1, ebk⟩, ?_, s.wp.sub (rest_hp (Hx := [_]) (foc_out hK (set1_same hl1).symm _ _))⟩
   have hpg := hB1.pg
   have gt0 : ∀ l : List Nat, decide ((0 : Int) < (l.length : Int)) = !l.isEmpty := fun l => by cases l <;> simp
   clear s hbd el eA ec epg ebk e0 hK hl1 hOf hB1 hB hw
   simp only [packed]
   apply retb
   try simp only [hpg, hst, hla, hup, beq0, gt0] at *
   unfold fits
   (simp_all <;> grind)
 refine gF rfl ?_
 refine gF rfl ?_
 refine gF rfl ?_
 refine gF rfl ?_
 refine gF rfl ?_
 refine gF rfl ?_
 refine gF rfl ?_
 refine gF rfl ?_
 refine gF rfl ?_
 refine gF rfl ?_
 refine gF rfl ?_
 refine gF rfl ?_
 refine gF rfl ?_
 refine pP (Y.pickT rfl rfl) rfl ?_
 refine pA rfl rfl ?_
 refine nN ?_
 refine WC.ret ?_
 refine dn1 Try.results38 rfl (fun a w s => ?_)
 · refine ⟨⟨B1, hB1, ebk⟩, ?_, s.wp.sub (rest_hp (Hx := [_]) (foc_out hK (set1_same hl1).symm _ _))⟩
   have hpg := hB1.pg
   have gt0 : ∀ l : List Nat, decide ((0 : Int) < (l.length : Int)) = !l.isEmpty := fun l => by cases l <;> simp
   clear s hbd el eA ec epg ebk e0 hK hl1 hOf hB1 hB hw
   simp only [packed]
   apply retb
   try simp only [hpg, hst, hla, hup, beq0, gt0] at *
   unfold fits
   (simp_all <;> grind)
end Go.Proofs.Ytmfjhacgpopijaa
end
section
set_option linter.unusedVariables false
set_option linter.unusedSimpArgs false
set_option linter.unusedSectionVars false
set_option maxRecDepth 100000
namespace Go.Proofs.Ytmfjhacgpopijaa
open Go.RowKit Go.Joins
/-- An iterator over the map in block m lies in block b. -/
def SF.iter (base b m since : Nat) (seen : List Nat) (last : Nat) : SF where
  p w := w.heap[b]? = some (.mapIter (some m) since seen.toArray last) ∧ base ≤ b
  fp _ x := x = b
  lt w x h e := by subst e; exact blk_lt h.1
  st w w' h k := ⟨⟨(k b rfl).trans h.1, h.2⟩, fun _ h => h⟩
section
variable [Inhabited DSx] {P : Program} {Q : Exit → Act → World → Prop} {E : Env} {n : Nat} {H : Hp} {F G : SF} {w0 : World}
theorem St.newObj {a : Act} {w : World} (o : Obj) (J : Nat → SF) (hJ : ∀ b w', w'.heap[b]? = some o → w0.heap.size ≤ b → (J b).p w') (hf : ∀ b w' x, (J b).fp w' x → x = b) (s : St E n H F w0 a w) : St E n H ((J w.heap.size).sep F) w0 a (w.alloc o) := by
  have hb : Below w.heap.size w (w.alloc o) := (Below.refl _ _).alloc (Nat.le_refl _) _
  have g := s.grow hb
  have hfp := (F.st w _ s.fact fun b h => hb.block b (F.lt w b s.fact h)).2
  refine ⟨g.env, g.hp, ⟨hJ _ _ (alloc_new w _) s.low.size, g.fact, fun x hx hk => ?_⟩, fun x hx hk => ?_, g.low⟩
  · have h1 := F.lt w _ s.fact (hfp _ hk)
    have h2 := hf _ _ _ hx
    omega
  · rcases hk with hk | hk
    · have h1 := s.hp.lt hx
      have h2 := hf _ _ _ hk
      omega
    · exact g.sep x hx hk
/-- range over a map. -/
theorem E.range {d : Nat} {x : Operand} {T T' k e : TypeId} {p : String} {af : Array Edge} {m c : Nat} {es : List MapEntry} (hu : P.underlying T = some (.map k e)) (hx : ev E x = some (.map (some m))) (hm : ∀ a w, St E n H F w0 a w → w.heap[m]? = some (.map es.toArray c)) (hn : Nat.blt d n = true) :
    Eff P E n H F w0 ⟨some d, .range T x, T', p, af, none⟩ (fun b : Nat => (d, .pointer (some ⟨b, 0, none⟩)) :: E) (fun _ => H) (fun b => (SF.iter w0.heap.size b m c [] c).sep F) := fun a w s Q K hK => by
  have h : (execOp a.eval ⟨some d, .range T x, T', p, af, none⟩).run P w = .ok (.value (.pointer (some ⟨w.heap.size, 0, none⟩))) (w.alloc (.mapIter (some m) c #[] c)) := by
    show (do let u ← Instr.range T (a.eval x); pure (Next.value u)).run P w = _
    rw [s.env.eval hx]
    unfold Instr.range
    simp only [Sem.run_bind, run_underlying hu, Result.andThen_ok, run_getObj (hm a w s), Sem.run_pure]
    rfl
  unfold Oper.wp
  rw [h, Oper.upon_value]
  exact hK _ _ _ (put_size _ _ _) ((s.newObj _ (fun b => SF.iter w0.heap.size b m c [] c) (fun b w' h1 h2 => ⟨h1, h2⟩) (fun _ _ _ h => h)).put hn)
/-- Memory with another iterator in block b, and perhaps a draw. -/
theorem St.putIter {a : Act} {w w' : World} {b m since last last' : Nat} {seen seen' : List Nat} (s : St E n H ((SF.iter w0.heap.size b m since seen last).sep G) w0 a w) (hh : w'.heap = w.heap.setIfInBounds b (.mapIter (some m) since seen'.toArray last')) (ho : w'.os = w.os) (ht : w'.tape = w.tape) (hu : w'.output = w.output) :
    St E n H ((SF.iter w0.heap.size b m since seen' last').sep G) w0 a w' := by
  have hm := s.fact.1.1
  have hb := s.fact.1.2
  have far : ∀ x, x ≠ b → w'.heap[x]? = w.heap[x]? := fun x hx => by rw [hh, Array.getElem?_setIfInBounds_ne (Ne.symm hx)]
  have hat : w'.heap[b]? = some (.mapIter (some m) since seen'.toArray last') := by
    have := blk_lt hm
    rw [hh]; simp [this]
  have hG := G.st w w' s.fact.2.1 fun x hx => far x (fun e => s.fact.2.2 b rfl (by rw [← e]; exact hx))
  refine ⟨s.env, ⟨fun x hx => ⟨?_, (s.hp.blk x hx).2⟩, s.hp.nd⟩, ⟨⟨hat, hb⟩, hG.1, fun x hx hg => s.fact.2.2 x hx (hG.2 x hg)⟩, fun x hx hk => ?_, ⟨ho.trans s.low.os, ht.trans s.low.tape, hu.trans s.low.output, by rw [hh]; simpa using s.low.size, fun x hx => ?_⟩⟩
  · rw [far x.1 (fun e => s.sep x hx (.inl e))]
    exact (s.hp.blk x hx).1
  · exact s.sep x hx (hk.imp id (hG.2 _))
  · rw [far x (by omega)]
    exact s.low.block x hx
theorem all_old {L : List E2} {c : Nat} (h : ∀ e ∈ L, e.born < c) (hn : L ≠ []) : (L.map E2.entry).toArray.all (fun e => decide (e.born ≥ c)) = false := by
  cases L with
  | nil => exact absurd rfl hn
  | cons e l =>
    have := h e (List.Mem.head _)
    simp [E2.entry]
    intro h1
    omega
theorem run_mapNext {w : World} {n : Nat} (hn : 1 ≤ n) : ∃ i w1, (choose (.mapNext n)).run P w = .ok i w1 ∧ i < n ∧ w1.heap = w.heap ∧ w1.os = w.os ∧ w1.tape = w.tape ∧ w1.output = w.output := by
  unfold choose
  by_cases h : n ≤ 1
  · exact ⟨0, w, by simp [Sem.run, Question.forced, h], by omega, rfl, rfl, rfl, rfl⟩
  · refine ⟨_, { w with drawn := w.drawn + 1 }, by simp only [Sem.run, Question.forced, decide_eq_true_eq, h, if_false]; rfl, ?_, rfl, rfl, rfl, rfl⟩
    exact Nat.mod_lt _ (by omega)
theorem find_born : ∀ (L : List E2) (e : E2), e ∈ L → (L.Pairwise fun a b => a.born ≠ b.born) → (L.map E2.entry).find? (fun x => x.born == e.born) = some e.entry
  | [], _, h, _ => by cases h
  | y :: L, e, he, hp => by
    obtain ⟨h1, h2⟩ := List.pairwise_cons.1 hp
    rcases List.mem_cons.1 he with rfl | he
    · simp [E2.entry]
    · have hne : y.born ≠ e.born := h1 e he
      have ih := find_born L e he h2
      simp only [List.map_cons, List.find?_cons]
      have : (y.entry.born == e.born) = false := by simpa [E2.entry] using hne
      rw [this]
      exact ih
/-- The next entry: one that was not met, or none is left. -/
theorem E.next {d : Nat} {x : Operand} {T' : TypeId} {p : String} {af : Array Edge} {b m c : Nat} {L : List E2} {seen : List Nat} (hF : F = (SF.iter w0.heap.size b m c seen c).sep G) (hx : ev E x = some (.pointer (some ⟨b, 0, none⟩))) (hm : ∀ a w, St E n H F w0 a w → w.heap[m]? = some (.map (L.map E2.entry).toArray c))
    (hc : ∀ e ∈ L, e.born < c) (hn : Nat.blt d n = true) :
    Eff P E n H F w0 ⟨some d, .next x false, T', p, af, none⟩ (fun i : {i : Option E2 // (∀ e, i = some e → e ∈ L ∧ e.born ∉ seen) ∧ (i = none → ∀ e ∈ L, e.born ∈ seen)} => (d, match i.1 with | some e => .tuple #[.bool true, key2 e.p e.c, e.v] | none => .tuple #[.bool false]) :: E) (fun _ => H)
      (fun i => (SF.iter w0.heap.size b m c (match i.1 with | some e => seen ++ [e.born] | none => seen) c).sep G) := fun a w s Q K hK => by
  subst hF
  have hit := s.fact.1.1
  have hmap := hm a w s
  have g1 : (getObj b).run P w = .ok (.mapIter (some m) c seen.toArray c) w := by simp [getObj, Sem.run, hit]
  have g2 := run_getObj (P := P) hmap
  have hcond : (!seen.toArray.isEmpty && !(L.map E2.entry).toArray.isEmpty && (L.map E2.entry).toArray.all fun e => decide (e.born ≥ c)) = false := by
    cases L with
    | nil => simp
    | cons e l => rw [all_old hc (by simp)]; simp
  have hleft : (L.map E2.entry).toArray.filter (fun e => !seen.toArray.contains e.born) = ((L.filter fun e => !seen.contains e.born).map E2.entry).toArray := by
    simp [List.filter_map, Function.comp_def, E2.entry]
    rfl
  have hold : (((L.filter fun e => !seen.contains e.born).map E2.entry).toArray).filter (fun e => decide (e.born < c)) = ((L.filter fun e => !seen.contains e.born).map E2.entry).toArray := by
    apply Array.toList_inj.1
    simp only [List.filter_toArray]
    refine List.filter_eq_self.2 fun e he => ?_
    obtain ⟨x, hx, rfl⟩ := List.mem_map.1 he
    exact decide_eq_true (hc x (List.mem_filter.1 hx).1)
  have hnew : (((L.filter fun e => !seen.contains e.born).map E2.entry).toArray).filter (fun e => decide (e.born ≥ c)) = #[] := by
    apply Array.toList_inj.1
    simp only [List.filter_toArray]
    refine List.filter_eq_nil_iff.2 fun e he => ?_
    obtain ⟨x, hx, rfl⟩ := List.mem_map.1 he
    have := hc x (List.mem_filter.1 hx).1
    simp [E2.entry]; omega
  generalize hl : (L.filter fun e => !seen.contains e.born) = left at hleft hold hnew
  have hop : (execOp a.eval ⟨some d, .next x false, T', p, af, none⟩).run P w = (do let u ← Instr.next (.pointer (some ⟨b, 0, none⟩)) false T'; pure (Next.value u)).run P w := by
    show (do let u ← Instr.next (a.eval x) false T'; pure (Next.value u)).run P w = _
    rw [s.env.eval hx]
  have hmem : ∀ e ∈ left, e ∈ L ∧ e.born ∉ seen := fun e he => by
    rw [← hl] at he
    have := List.mem_filter.1 he
    exact ⟨this.1, by simpa using this.2⟩
  obtain ⟨i, w1, hch, hlt, h1, h2, h3, h4⟩ := run_mapNext (P := P) (w := w) (n := if left.isEmpty then 1 else left.length) (by cases left <;> simp)
  have hrun : (Instr.next (.pointer (some ⟨b, 0, none⟩)) false T').run P w = match left[i]? with
      | some e => .ok (.tuple #[.bool true, key2 e.p e.c, e.v]) { w1 with heap := w1.heap.setIfInBounds b (.mapIter (some m) c (seen.toArray.push e.born) c) }
      | none => .ok (.tuple #[.bool false]) w1 := by
    unfold Instr.next
    simp only [Sem.run_bind, g1, g2, Result.andThen_ok, hcond, Bool.false_eq_true, if_false, hleft, hold, hnew]
    cases left with
    | nil =>
      simp only [List.isEmpty_nil, if_true] at hch hlt
      have hi : i = 0 := by omega
      subst hi
      have e0 : ((if (([] : List E2).map E2.entry).toArray.isEmpty = true then #[none] else #[]) ++ Array.map some ((([] : List E2).map E2.entry).toArray ++ #[])) = (#[none] : Array (Option MapEntry)) := by simp
      rw [e0]
      simp only [List.size_toArray, List.length_cons, List.length_nil, Nat.zero_add, hch, Result.andThen_ok]
      rfl
    | cons e0 r =>
      simp only [List.isEmpty_cons, Bool.false_eq_true, if_false] at hch hlt
      have e1 : ((if ((e0 :: r).map E2.entry).toArray.isEmpty = true then #[none] else #[]) ++ Array.map some (((e0 :: r).map E2.entry).toArray ++ #[])) = (((e0 :: r).map fun e => some e.entry).toArray : Array (Option MapEntry)) := by
        apply Array.toList_inj.1
        simp
      rw [e1]
      have e2 : (((e0 :: r).map fun e => some e.entry).toArray).size = (e0 :: r).length := by simp
      rw [e2, hch]
      obtain ⟨e, he⟩ := get_of_lt (l := e0 :: r) (k := i) hlt
      rw [he]
      have e3 : (((e0 :: r).map fun e => some e.entry).toArray)[i]? = some (some e.entry) := by simp only [List.getElem?_toArray, List.getElem?_map, he, Option.map_some]
      simp only [Result.andThen_ok, e3]
      have hit1 : w1.heap[b]? = some (.mapIter (some m) c seen.toArray c) := by rw [h1]; exact hit
      simp [setObj, Sem.run, hit1, E2.entry]
  unfold Oper.wp
  rw [hop, Sem.run_bind, hrun]
  cases hg : left[i]? with
  | none =>
    have hnil : left = [] := by
      cases left with
      | nil => rfl
      | cons e0 r =>
        simp only [List.isEmpty_cons, Bool.false_eq_true, if_false] at hlt
        rw [List.getElem?_eq_getElem hlt] at hg
        cases hg
    simp only [Result.andThen_ok, Sem.run_pure, Oper.upon_value]
    refine hK ⟨none, ⟨fun e h => (by cases h), fun _ e he => ?_⟩⟩ _ _ (put_size _ _ _) (St.put ?_ hn)
    · rw [hnil] at hl
      have := List.filter_eq_nil_iff.1 hl e he
      simpa using this
    · have hb : Below w.heap.size w w1 := ⟨h2, h3, h4, by rw [h1]; exact Nat.le_refl _, fun k _ => by rw [h1]⟩
      exact s.grow hb
  | some e =>
    have hm2 := hmem e (List.mem_of_getElem? hg)
    simp only [Result.andThen_ok, Sem.run_pure, Oper.upon_value]
    refine hK ⟨some e, ⟨fun e' h => (by injection h with h; subst h; exact hm2), fun h => (by cases h)⟩⟩ _ _ (put_size _ _ _) (St.put ?_ hn)
    exact s.putIter (by rw [h1]; simp) h2 h3 h4
/-- The entry that was met last. -/
theorem Y.entry {d : Option Nat} {x : Operand} {T' : TypeId} {p : String} {af : Array Edge} {b m c : Nat} {L : List E2} {seen : List Nat} {e : E2} (hx : ev E x = some (.pointer (some ⟨b, 0, none⟩))) (hi : ∀ a w, St E n H F w0 a w → w.heap[b]? = some (.mapIter (some m) c (seen ++ [e.born]).toArray c))
    (hm : ∀ a w, St E n H F w0 a w → w.heap[m]? = some (.map (L.map E2.entry).toArray c)) (he : e ∈ L) (hb : L.Pairwise fun a b => a.born ≠ b.born) :
    Yv P E n H F w0 ⟨d, .entry x, T', p, af, none⟩ (.tuple #[key2 e.p e.c, e.v]) := fun a w s => by
  have g1 : (getObj b).run P w = .ok (.mapIter (some m) c (seen ++ [e.born]).toArray c) w := by simp [getObj, Sem.run, hi a w s]
  have g2 := run_getObj (P := P) (hm a w s)
  have hf : (L.map E2.entry).toArray.find? (fun x => x.born == e.born) = some e.entry := by
    rw [List.find?_toArray]
    exact find_born L e he hb
  show (do let u ← Instr.entry (a.eval x); pure (Next.value u)).run P w = _
  rw [s.env.eval hx]
  unfold Instr.entry
  have hback : (seen ++ [e.born]).toArray.back? = some e.born := by simp
  simp only [Sem.run_bind, g1, g2, Result.andThen_ok, hback, bne_self_eq_false, Bool.false_eq_true, if_false, hf, Sem.run_pure]
  rfl
end
/-! What 'leave' leaves. -/
def cellIs (l : List R) (p c : Int) (m : Nat) : Bool := (l[m - 1]?.getD R.zero).page == p && (l[m - 1]?.getD R.zero).cell == c
def keepE (l : List R) (t : Int) (up : List Nat) (e : E2) : Bool := (match e.v with | .int _ o => o != t | _ => true) || up.any (cellIs l e.p e.c)
/-- The entries, when those of 'seen' were met. -/
def metE (l : List R) (t : Int) (up : List Nat) (seen : List Nat) (L0 : List E2) : List E2 := L0.filter fun e => !seen.contains e.born || keepE l t up e
theorem metE_nil (l : List R) (t : Int) (up : List Nat) (L0 : List E2) : metE l t up [] L0 = L0 := by
  unfold metE
  refine List.filter_eq_self.2 fun e _ => by simp
theorem metE_end {l : List R} {t : Int} {up seen : List Nat} {L0 : List E2} (h : ∀ e ∈ metE l t up seen L0, e.born ∈ seen) : metE l t up seen L0 = L0.filter (keepE l t up) := by
  unfold metE at h ⊢
  apply List.filter_congr
  intro e he
  by_cases hs : e.born ∈ seen
  · simp [hs]
  · exact absurd (h e (List.mem_filter.2 ⟨he, by simp [hs]⟩)) hs
theorem metE_keep {l : List R} {t : Int} {up seen : List Nat} {L0 : List E2} {e : E2} (he : e ∈ metE l t up seen L0) (hp : L0.Pairwise fun a b => a.born ≠ b.born) (hk : keepE l t up e = true) : metE l t up (seen ++ [e.born]) L0 = metE l t up seen L0 := by
  unfold metE at he ⊢
  apply List.filter_congr
  intro x hx
  have he' := (List.mem_filter.1 he).1
  by_cases hb : x.born = e.born
  · have : x = e := born_inj hp hx he' hb
    subst this
    simp [hk]
  · simp [hb]
  where
  born_inj {L : List E2} {x y : E2} (hp : L.Pairwise fun a b => a.born ≠ b.born) (hx : x ∈ L) (hy : y ∈ L) (h : x.born = y.born) : x = y := by
    induction L with
    | nil => cases hx
    | cons z L ih =>
      obtain ⟨h1, h2⟩ := List.pairwise_cons.1 hp
      rcases List.mem_cons.1 hx with e1 | hx1
      · rcases List.mem_cons.1 hy with e2 | hy1
        · rw [e1, e2]
        · rw [e1] at h
          exact absurd h (h1 y hy1)
      · rcases List.mem_cons.1 hy with e2 | hy1
        · rw [e2] at h
          exact absurd h.symm (h1 x hx1)
        · exact ih h2 hx1 hy1
theorem del2_filter : ∀ {L : List E2} {e : E2}, e ∈ L → (L.Pairwise fun a b => ¬(a.p = b.p ∧ a.c = b.c)) → (L.Pairwise fun a b => a.born ≠ b.born) → del2 L e.p e.c = L.filter fun x => x.born != e.born
  | [], _, h, _, _ => by cases h
  | y :: L, e, he, hk, hb => by
    obtain ⟨k1, k2⟩ := List.pairwise_cons.1 hk
    obtain ⟨b1, b2⟩ := List.pairwise_cons.1 hb
    unfold del2
    rcases List.mem_cons.1 he with rfl | he
    · simp only [and_self, if_true]
      rw [List.filter_cons]
      simp only [bne_self_eq_false, Bool.false_eq_true, if_false]
      exact (List.filter_eq_self.2 fun x hx => by simpa using fun e => b1 x hx e.symm).symm
    · have hne : ¬(y.p = e.p ∧ y.c = e.c) := k1 e he
      rw [if_neg hne, List.filter_cons]
      have : (y.born != e.born) = true := by simpa using b1 e he
      rw [if_pos this, del2_filter he k2 b2]
theorem metE_del {l : List R} {t : Int} {up seen : List Nat} {L0 : List E2} {e : E2} (he : e ∈ metE l t up seen L0) (hs : e.born ∉ seen) (hp : L0.Pairwise fun a b => a.born ≠ b.born) (hq : L0.Pairwise fun a b => ¬(a.p = b.p ∧ a.c = b.c)) (hk : keepE l t up e = false) :
    del2 (metE l t up seen L0) e.p e.c = metE l t up (seen ++ [e.born]) L0 := by
  have hsub : List.Sublist (metE l t up seen L0) L0 := List.filter_sublist
  rw [del2_filter he (hq.sublist hsub) (hp.sublist hsub)]
  have he' := (List.mem_filter.1 he).1
  unfold metE
  rw [List.filter_filter]
  apply List.filter_congr
  intro x hx
  by_cases hb : x.born = e.born
  · have : x = e := metE_keep.born_inj hp hx he' hb
    subst this
    simp [hk]
  · simp [hb]
/-- How many are still to come. -/
def toCome (seen : List Nat) (L0 : List E2) : Nat := (L0.filter fun e => !seen.contains e.born).length
theorem toCome_lt {seen : List Nat} {L0 : List E2} {e : E2} (he : e ∈ L0) (hs : e.born ∉ seen) : toCome (seen ++ [e.born]) L0 < toCome seen L0 := by
  unfold toCome
  induction L0 with
  | nil => cases he
  | cons y L ih =>
    have hle : ∀ L : List E2, (L.filter fun x => !(seen ++ [e.born]).contains x.born).length ≤ (L.filter fun x => !seen.contains x.born).length := by
      intro L
      induction L with
      | nil => simp
      | cons z L ih =>
        simp only [List.filter_cons]
        by_cases h1 : z.born ∈ seen
        · simp [h1]; simpa using ih
        · by_cases h2 : z.born = e.born
          · have h3 : e.born ∉ seen := h2 ▸ h1
            simp [h2, h3]; simp at ih; omega
          · simp [h1, h2]; simpa using ih
    simp only [List.filter_cons]
    rcases List.mem_cons.1 he with rfl | he
    · have := hle L
      simp [hs]
      simp at this
      omega
    · have := ih he
      by_cases h1 : y.born ∈ seen
      · simp [h1]; simpa using this
      · by_cases h2 : y.born = e.born
        · have h3 : e.born ∉ seen := h2 ▸ h1
          simp [h2, h3]; simp at this; omega
        · simp [h1, h2]; simpa using this
end Go.Proofs.Ytmfjhacgpopijaa
end
section
set_option maxRecDepth 100000
set_option linter.unusedVariables false
set_option linter.unusedSimpArgs false
set_option linter.unusedSectionVars false
set_option maxHeartbeats 4000000
namespace Go.Proofs.Ytmfjhacgpopijaa
open Go.RowKit Go.Joins
def Bk.left (B : Bk) (t : Int) (x : TxE) : Bk := { B with ow := B.ow.filter (keepE B.l t x.up) }
def SF.bkr (base : Nat) (B : Bk) : SF := (SF.map base B.mt (B.tx.map TxE.entry) B.k1).sep ((SF.own base 48 8 (.slice B.A B.l.length B.c) B.l.length (flat B.l)).sep (SF.ups base B.tx))
theorem bk_mo (base : Nat) (B : Bk) (G : SF) : ((SF.bk base B).sep G).le ((SF.map base B.mo (B.ow.map E2.entry) B.k2).sep ((SF.bkr base B).sep G)) :=
  SF.le_trans (SF.sep_mono (SF.sep_rot _ _ _) (SF.le_refl _)) (SF.sep_assoc _ _ _)
theorem bk_mo' (base : Nat) (B : Bk) (G : SF) : ((SF.map base B.mo (B.ow.map E2.entry) B.k2).sep ((SF.bkr base B).sep G)).le ((SF.bk base B).sep G) :=
  SF.le_trans (SF.sep_assoc' _ _ _) (SF.sep_mono (SF.sep_rot _ _ _) (SF.le_refl _))
theorem bk_kb (base : Nat) (B : Bk) (X G : SF) : (X.sep ((SF.bk base B).sep G)).le ((SF.map base B.mo (B.ow.map E2.entry) B.k2).sep (X.sep ((SF.bkr base B).sep G))) :=
  SF.le_trans (SF.sep_mono (SF.le_refl _) (bk_mo base B G)) (SF.sep_rot _ _ _)
theorem getD_keep {KL : List E2} {l : List R} {up : List Nat} (h : ∀ p c, look2 KL p c = if up.any (cellIs l p c) then some (.bool true) else none) (p c : Int) : (look2 KL p c).getD (.bool false) = .bool (up.any (cellIs l p c)) := by
  rw [h]; cases up.any (cellIs l p c) <;> rfl
theorem keep_step {KL : List E2} {l : List R} {up : List Nat} {k m ck : Nat} {r : R} (h : ∀ p c, look2 KL p c = if (up.take k).any (cellIs l p c) then some (.bool true) else none) (hm : up[k]? = some m) (hr : l[m - 1]? = some r) (p c : Int) :
    look2 (set2 KL r.page r.cell (.bool true) ck) p c = if (up.take (k + 1)).any (cellIs l p c) then some (.bool true) else none := by
  obtain ⟨hl, he⟩ := List.getElem?_eq_some_iff.1 hm
  rw [look2_set, h, List.take_succ_eq_append_getElem hl, List.any_append, he]
  have e : cellIs l p c m = (r.page == p && r.cell == c) := by unfold cellIs; rw [hr]; rfl
  simp only [List.any_cons, List.any_nil, Bool.or_false, e]
  by_cases h1 : r.page = p <;> by_cases h2 : r.cell = c <;> simp [h1, h2]

theorem w_leave (u : World) (B : Bk) (Hl : Hp) (G : SF) (t : Int) (x : TxE) (w : World) (hw : Wp u (B.hp ++ Hl) ((SF.bk u.heap.size B).sep G) w) (hl1 : look1 B.tx t = some x) (hB : UpOk B) (hv : ∀ e ∈ B.ow, ∃ o, e.v = .int .i64 o) (hbn : B.ow.Pairwise fun a b => a.born ≠ b.born) (hkk : B.ow.Pairwise fun a b => ¬(a.p = b.p ∧ a.c = b.c)) (hlt : ∀ e ∈ B.ow, e.born < B.k2) :
    Calls Try.prog 48 [B.ptr, .int .i64 t].toArray w fun e w' => e = .returned (packed []) ∧ Wp u ((B.left t x).hp ++ Hl) ((SF.bk u.heap.size (B.left t x)).sep G) w' := by
 refine enterW Try.func48 rfl Try.ntmps48 rfl hw ?_
 refine sR ?_
 refine WL.eff (E.makeMap rfl) rfl (fun kb => ?_)
 refine pA rfl rfl ?_
 refine nN ?_
 refine WC.seq ?_
 refine WC.seq ?_
 refine WC.le (SF.sep_rot _ _ _) ?_
 refine WC.region ?_
 refine pM rfl rfl ?_
 refine pM rfl rfl ?_
 refine WL.eff (E.of [] rfl rfl rfl rfl rfl) rfl (fun i => ?_)
 obtain ⟨⟨B1, x1, K⟩, hOf, hK⟩ := i
 obtain ⟨e1, e2⟩ := of_same hOf hl1
 dsimp only at e1 e2 hOf hK ⊢
 obtain rfl : B = B1 := e1.symm
 obtain rfl : x = x1 := e2.symm
 refine pP (Y.nilCheck rfl) rfl ?_
 refine pP (Y.fieldAddr fa_92_2 rfl) rfl ?_
 refine pV (Y.load fl_46 rfl m0 rfl) rfl ?_
 refine pP (Y.len Try.underlying46 rfl) rfl ?_
 refine pM rfl rfl ?_
 refine nN ?_
 refine WC.block ?_
 refine WC.le (SF.sep_rot _ _ _) ?_
 refine WC.loop (ι := Nat × List E2 × Nat) (fun k => [(0, B.ptr), (1, .int .i64 t), (4, .map (some kb)), (15, .slice x.A x.up.length x.c), (16, .int .i64 x.up.length), (17, .int .i64 k.1)]) (fun _ => x.blkc :: B.own1 :: (K ++ Hl)) (fun k => (SF.map u.heap.size kb (k.2.1.map E2.entry) k.2.2).sep ((SF.bk u.heap.size B).sep G)) (fun k => k.1 ≤ x.up.length ∧ ∀ p c, look2 k.2.1 p c = if (x.up.reverse.take k.1).any (cellIs B.l p c) then some (.bool true) else none) (fun k => x.up.length - k.1) (0, [], 0) ⟨Nat.zero_le _, fun _ _ => rfl⟩ (fun a w s => s.weak (by repeat (first | exact sub_nil _ | refine sub_cons rfl ?_))) (fun k hk => ?_)
 obtain ⟨k, KL, ck⟩ := k
 obtain ⟨hk, hKL⟩ := hk
 dsimp only at hk hKL ⊢
 refine sR ?_
 refine pP (Y.lss rfl rfl) rfl ?_
 refine nN ?_
 refine WC.seq ?_
 refine WC.cond rfl (fun h18 => ?_) (fun h18 => ?_)
 refine WC.skip' ?_
 refine WQ.next ?_
 refine WC.seq ?_
 refine WC.block ?_
 refine WC.seq ?_
 have h18 := dec_lt h18
 simp only [if_true] at h18
 obtain ⟨m, hmt⟩ := get_of_lt (l := x.up.reverse) (k := k) (by simpa using h18)
 have hm := (hB.2 t x hl1).2 m (List.mem_reverse.1 (List.mem_of_getElem? hmt))
 have hBl := hB.1
 have hul := (hB.2 t x hl1).1
 obtain ⟨r, hk2⟩ := get_of_lt (l := B.l) (k := m - 1) (by omega)
 refine WC.know (p := ∃ g, x.A = some ⟨g, 0, none⟩) (fun a w s => by obtain ⟨g, hA, _⟩ := own_cell (bk_row hl1 s.fact.2.1.1) (nums_get hmt); exact ⟨g, hA⟩) (fun ⟨g, hA⟩ => ?_)
 refine WC.know (p := B.A = some ⟨gOf B.A, 0, none⟩) (fun a w s => (bk_RL s.fact.2.1.1).addr hk2) (fun hA2 => ?_)
 refine WC.region ?_
 refine pP (Y.ixSlA Try.underlying46 Try.sizeOf3 rfl rfl hA (nat0 _) (by omega)) rfl ?_
 refine pV (Y.loadc fl_3 rfl (v := .int .i64 (m : Int)) (fun a w s => by obtain ⟨g2, hA3, hc⟩ := own_cell (bk_row hl1 s.fact.2.1.1) (nums_get hmt); cases hA.symm.trans hA3; simpa using hc)) rfl ?_
 refine pA rfl rfl ?_
 refine nN ?_
 refine WC.draw [(0, .q false), (1, .q false), (2, .q false), (3, .q false), (4, .q true), (5, .q false), (6, .q false), (7, .q false), (8, .q false), (9, .q true), (10, .q false), (11, .q false), (12, .q false), (13, .q true), (14, .q false), (15, .q false), (16, .q false), (17, .q false), (18, .q true), (19, .q false), (20, .s true)] mixed (by kernel_rfl) ?_
 refine dP (Y.move rfl) rfl rfl ?_
 refine dP (Y.move rfl) rfl rfl ?_
 refine dP (Y.nilCheck rfl) rfl rfl ?_
 refine dP (Y.fieldAddr fa_78_0 rfl) rfl rfl ?_
 refine dV (Y.load fl_26 rfl m1 rfl) rfl rfl ?_
 refine dP (Y.move rfl) rfl rfl ?_
 refine dP (Y.sub rfl rfl (i64_sub1 hm.1 (by omega))) rfl rfl ?_
 refine dP (Y.ixSlA Try.underlying26 Try.sizeOf48 rfl rfl hA2 (nat0 _) (by omega)) rfl rfl ?_
 refine dP (Y.fieldAddr fa_48_3 rfl) rfl rfl ?_
 refine dV (Y.loadc fl_3 rfl (fun a w s => ((bk_RL s.fact.2.1.1)).cell _ _ hk2 3 _ rfl)) rfl rfl ?_
 refine dP (Y.move rfl) rfl rfl ?_
 refine dP (Y.nilCheck rfl) rfl rfl ?_
 refine dP (Y.fieldAddr fa_78_0 rfl) rfl rfl ?_
 refine dV (Y.load fl_26 rfl m1 rfl) rfl rfl ?_
 refine dP (Y.move rfl) rfl rfl ?_
 refine dP (Y.sub rfl rfl (i64_sub1 hm.1 (by omega))) rfl rfl ?_
 refine dP (Y.ixSlA Try.underlying26 Try.sizeOf48 rfl rfl hA2 (nat0 _) (by omega)) rfl rfl ?_
 refine dP (Y.fieldAddr fa_48_4 rfl) rfl rfl ?_
 refine dV (Y.loadc fl_3 rfl (fun a w s => ((bk_RL s.fact.2.1.1)).cell _ _ hk2 4 _ rfl)) rfl rfl ?_
 refine dP (Y.build rfl (bf_97_0_1 _ _)) rfl rfl ?_
 refine WDm.spec (WS.free rfl (E.mapUpdate rfl rfl rfl rfl (fun w h => run_update_two KL r.page r.cell (.bool true) Try.underlying102 h))) (fun _ => sub_refl _) (fun _ => ?_)
 refine WDm.nil (WQ.and ?_)
 refine WQ.blockEnd ?_
 refine WQ.next ?_
 refine WC.region ?_
 refine pP (Y.add rfl rfl (i64_in (by omega) (by omega))) rfl ?_
 refine pM rfl rfl ?_
 refine WL.nil ?_
 · refine fun a w s => ⟨(k + 1, set2 KL r.page r.cell (.bool true) ck, nk KL r.page r.cell ck), ⟨by dsimp only; omega, keep_step hKL hmt hk2⟩, by dsimp only; omega, ?_⟩
   exact s.weak (by repeat (first | exact sub_nil _ | refine sub_cons rfl ?_))
 refine WC.exit ?_
 refine WQ.thenExit ?_
 refine WQ.thenExit ?_
 refine WQ.blockExit ?_
 refine WQ.next ?_
 refine WC.seq ?_
 have h18 := dec_lt h18
 simp only [Bool.false_eq_true, if_false] at h18
 have hkl : k = x.up.length := by omega
 subst hkl
 have hKL2 : ∀ p c, look2 KL p c = if x.up.any (cellIs B.l p c) then some (.bool true) else none := fun p c => by
   rw [hKL, List.take_of_length_le (by simp), List.any_reverse]
 clear hKL
 refine WC.le (bk_kb _ _ _ _) ?_
 refine WC.region ?_
 refine pM rfl rfl ?_
 refine pP (Y.nilCheck rfl) rfl ?_
 refine pP (Y.fieldAddr fa_78_3 rfl) rfl ?_
 refine pV (Y.load fl_76 rfl m1 rfl) rfl ?_
 refine WL.eff (E.range Try.underlying76 rfl (fun a w s => s.fact.1.1) rfl) rfl (fun ib => ?_)
 refine nN ?_
 refine WC.block ?_
 refine WC.loop (ι := List Nat) (fun _ => [(0, B.ptr), (1, .int .i64 t), (4, .map (some kb)), (46, .pointer (some ⟨ib, 0, none⟩))]) (fun _ => x.blkc :: B.own1 :: (K ++ Hl)) (fun seen => (SF.iter u.heap.size ib B.mo B.k2 seen B.k2).sep ((SF.map u.heap.size B.mo ((metE B.l t x.up seen B.ow).map E2.entry) B.k2).sep ((SF.map u.heap.size kb (KL.map E2.entry) ck).sep ((SF.bkr u.heap.size B).sep G)))) (fun _ => True) (fun seen => toCome seen B.ow) [] trivial (fun a w s => by rw [metE_nil]; exact s.weak (by repeat (first | exact sub_nil _ | refine sub_cons rfl ?_))) (fun seen _ => ?_)
 have hsubl : List.Sublist (metE B.l t x.up seen B.ow) B.ow := List.filter_sublist
 refine sR ?_
 refine WL.eff (E.next rfl rfl (fun a w s => s.fact.2.1.1.1) (fun e he => hlt e (hsubl.subset he)) rfl) rfl (fun i => ?_)
 obtain ⟨_ | ⟨p, c, v, bn⟩, hi1, hi2⟩ := i
 dsimp only
 refine pP (Y.extract rfl rfl) rfl ?_
 refine nN ?_
 refine WC.seq ?_
 refine WC.condF rfl ?_
 refine WC.exit ?_
 refine WQ.thenExit ?_
 refine WQ.thenExit ?_
 refine WQ.blockExit ?_
 refine WQ.over Try.results48 RVs.nil (fun a w s => ?_)
 · have he := metE_end (hi2 rfl)
   refine ⟨rfl, Wp.le (s.wp.sub (foc_out hK (B' := B.left t x) (set1_same hl1).symm [] Hl)) ?_⟩
   rw [he]
   exact SF.le_trans (SF.sep_snd _ _) (SF.le_trans (SF.sep_mono (SF.le_refl _) (SF.sep_snd _ _)) (bk_mo' _ (B.left t x) G))
 obtain ⟨hel, hns⟩ := hi1 _ rfl
 have hel' := hsubl.subset hel
 obtain ⟨o, rfl⟩ : ∃ o, v = .int .i64 o := hv _ hel'
 dsimp only
 refine pP (Y.extract rfl rfl) rfl ?_
 refine nN ?_
 refine WC.seq ?_
 refine WC.condT rfl ?_
 refine WC.skip' ?_
 refine WQ.next ?_
 refine WC.block ?_
 refine sR ?_
 refine pV (Y.entry rfl (fun a w s => s.fact.1.1) (fun a w s => s.fact.2.1.1.1) hel (hbn.sublist hsubl)) rfl ?_
 refine pP (Y.extract rfl rfl) rfl ?_
 refine pP (Y.extract rfl rfl) rfl ?_
 refine WL.eff (E.alloc Try.zeroValue97 rfl rfl) rfl (fun b1 => ?_)
 refine WL.eff (E.store Try.sizeOf97 rfl rfl rfl rfl rfl u0 rfl rfl) rfl (fun _ => ?_)
 refine pA rfl rfl ?_
 refine nN ?_
 refine sR ?_
 refine pM rfl rfl ?_
 refine pM rfl rfl ?_
 refine pP (Y.eql rfl rfl) rfl ?_
 refine pM rfl rfl ?_
 refine WL.split (t := 55) rfl (fun r h55 => ?_)
 cases r
 refine gF rfl ?_
 refine gF rfl ?_
 refine gF rfl ?_
 refine gF rfl ?_
 refine pP (Y.pickF rfl rfl) rfl ?_
 refine nN ?_
 refine WC.condF rfl ?_
 refine WC.skip' ?_
 refine WQ.blockEnd ?_
 · refine fun a w s => ⟨seen ++ [bn], trivial, toCome_lt (e := ⟨p, c, .int .i64 o, bn⟩) hel' hns, ?_⟩
   try dsimp only
   rw [metE_keep hel hbn (by simp [keepE]; simp_all)]
   exact (s.sub (Hsub.of_sub (List.sublist_cons_self _ _))).weak (by repeat (first | exact sub_nil _ | refine sub_cons rfl ?_))
 refine gT rfl ?_
 refine pM rfl rfl ?_
 refine gT rfl ?_
 refine pV (Y.loadA wd_97 rfl m0 rfl) rfl ?_
 refine gT rfl ?_
 refine pV (Y.lookup (v := .bool (x.up.any (cellIs B.l p c))) rfl rfl (fun a w s => s.fact.2.1.2.1.1.1) (fun w h => (run_lookup_two KL p c Try.underlying102 Try.zeroValue4 h).trans (by rw [getD_keep hKL2]))) rfl ?_
 refine gT rfl ?_
 refine pP (Y.not rfl) rfl ?_
 refine pP (Y.pickT rfl rfl) rfl ?_
 refine nN ?_
 refine WC.cond rfl (fun h60 => ?_) (fun h60 => ?_)
 refine WC.le (SF.sep_rot _ _ _) ?_
 refine WC.draw [(0, .q false), (1, .q false), (2, .q false), (3, .q true), (4, .q true), (5, .s true)] mixed (by kernel_rfl) ?_
 refine dP (Y.move rfl) rfl rfl ?_
 refine dP (Y.nilCheck rfl) rfl rfl ?_
 refine dP (Y.fieldAddr fa_78_3 rfl) rfl rfl ?_
 refine dV (Y.load fl_76 rfl m2 rfl) rfl rfl ?_
 refine dV (Y.loadA wd_97 rfl m0 rfl) rfl rfl ?_
 refine WDm.spec (WS.free rfl (E.delete rfl rfl rfl (fun w h => run_delete_two (metE B.l t x.up seen B.ow) p c Try.underlying76 h))) (fun _ => sub_refl _) (fun _ => ?_)
 refine WDm.nil (WQ.and ?_)
 refine WQ.blockEnd ?_
 · refine fun a w s => ⟨seen ++ [bn], trivial, toCome_lt (e := ⟨p, c, .int .i64 o, bn⟩) hel' hns, ?_⟩
   try dsimp only
   rw [← metE_del hel hns hbn hkk (by simp [keepE]; simp_all)]
   exact ((s.le (SF.sep_rot _ _ _)).sub (Hsub.of_sub (List.sublist_cons_self _ _))).weak (by repeat (first | exact sub_nil _ | refine sub_cons rfl ?_))
 refine WC.skip' ?_
 refine WQ.blockEnd ?_
 · refine fun a w s => ⟨seen ++ [bn], trivial, toCome_lt (e := ⟨p, c, .int .i64 o, bn⟩) hel' hns, ?_⟩
   try dsimp only
   rw [metE_keep hel hbn (by simp [keepE]; simp_all)]
   exact (s.sub (Hsub.of_sub (List.sublist_cons_self _ _))).weak (by repeat (first | exact sub_nil _ | refine sub_cons rfl ?_))
end Go.Proofs.Ytmfjhacgpopijaa
end
section
set_option linter.unusedVariables false
set_option linter.unusedSimpArgs false
set_option linter.unusedSectionVars false
set_option maxRecDepth 100000
namespace Go.Proofs.Ytmfjhacgpopijaa
open Go.RowKit Go.Joins
theorem rec_info : (Try.prog.info? 48).map (fun i => (i.zero, i.size, i.bytes)) = some (some (.agg #[.int .i64 0, .int .i64 0, .int .i64 0, .int .i64 0, .int .i64 0, .int .i64 0, .int .i64 0, .int .i64 0]), 8, 64) := by kernel_rfl
/-! ### The row of records in front -/
def SF.bkl (base : Nat) (B : Bk) : SF := (SF.map base B.mt (B.tx.map TxE.entry) B.k1).sep ((SF.map base B.mo (B.ow.map E2.entry) B.k2).sep (SF.ups base B.tx))
theorem bk_rl (base : Nat) (B : Bk) (G : SF) : ((SF.bk base B).sep G).le ((SF.own base 48 8 (.slice B.A B.l.length B.c) B.l.length (flat B.l)).sep ((SF.bkl base B).sep G)) :=
  SF.le_trans (SF.sep_mono (SF.le_trans (SF.sep_mono (SF.le_refl _) (SF.sep_rot _ _ _)) (SF.sep_rot _ _ _)) (SF.le_refl _)) (SF.sep_assoc _ _ _)
theorem bk_rl' (base : Nat) (B : Bk) (G : SF) : ((SF.own base 48 8 (.slice B.A B.l.length B.c) B.l.length (flat B.l)).sep ((SF.bkl base B).sep G)).le ((SF.bk base B).sep G) :=
  SF.le_trans (SF.sep_assoc' _ _ _) (SF.sep_mono (SF.le_trans (SF.sep_rot _ _ _) (SF.sep_mono (SF.le_refl _) (SF.sep_rot _ _ _))) (SF.le_refl _))
/-- The book with one record more in its row. -/
def Bk.more (B : Bk) (A : Option Addr) (c : Nat) (r : R) : Bk := { B with A := A, c := c, l := B.l ++ [r] }
theorem flat_app (l : List R) (r : R) : flat (l ++ [r]) = flat l ++ r.cl := by simp [flat]
theorem bk_more (base : Nat) (B : Bk) (A : Option Addr) (c : Nat) (r : R) (G : SF) : ((SF.own base 48 8 (.slice A (B.l.length + 1) c) (B.l.length + 1) (flat B.l ++ r.cl)).sep ((SF.bkl base B).sep G)).le ((SF.bk base (B.more A c r)).sep G) := by
  have h := bk_rl' base (B.more A c r) G
  have e : (B.more A c r).l.length = B.l.length + 1 := by simp [Bk.more]
  have e2 : flat (B.more A c r).l = flat B.l ++ r.cl := flat_app _ _
  rw [e, e2] at h
  exact h
theorem more_cells (B : Bk) (A : Option Addr) (c : Nat) (r : R) : put B.cells (0 + 0) [.slice A (B.l.length + 1) c] = (B.more A c r).cells := by
  have e : (B.more A c r).l.length = B.l.length + 1 := by simp [Bk.more]
  unfold Bk.cells
  rw [e]
  rfl
/-! ### The row of a Txn in front -/
theorem ups_foc (base : Nat) : ∀ {l : List TxE} {t : Int} {x : TxE}, look1 l t = some x → ∃ U : SF, (SF.ups base l).le ((x.row base).sep U) ∧ ∀ y : TxE, ((y.row base).sep U).le (SF.ups base (set1 l t y))
  | [], _, _, h => by cases h
  | z :: l, t, x, h => by
    unfold look1 at h
    split at h
    · rename_i hk
      injection h with h
      subst h
      exact ⟨SF.ups base l, SF.le_refl _, fun y => by simp only [set1, if_pos hk]; exact SF.le_refl _⟩
    · rename_i hk
      obtain ⟨U, h1, h2⟩ := ups_foc base h
      exact ⟨(z.row base).sep U, SF.le_trans (SF.sep_mono (SF.le_refl _) h1) (SF.sep_rot _ _ _), fun y => by
        simp only [set1, if_neg hk]
        exact SF.le_trans (SF.sep_rot _ _ _) (SF.sep_mono (SF.le_refl _) (h2 y))⟩
theorem ents_set : ∀ {l : List TxE} {t : Int} {x y : TxE}, look1 l t = some x → y.entry = x.entry → (set1 l t y).map TxE.entry = l.map TxE.entry
  | [], _, _, _, h, _ => by cases h
  | z :: l, t, x, y, h, e => by
    unfold look1 at h
    split at h
    · rename_i hk
      injection h with h
      subst h
      simp only [set1, if_pos hk, List.map_cons, e]
    · rename_i hk
      simp only [set1, if_neg hk, List.map_cons, ents_set h e]
def Bk.setT (B : Bk) (t : Int) (y : TxE) : Bk := { B with tx := set1 B.tx t y }
theorem bk_foc (base : Nat) {B : Bk} {t : Int} {x : TxE} (G : SF) (h : look1 B.tx t = some x) : ∃ V : SF, ((SF.bk base B).sep G).le ((x.row base).sep V) ∧ ∀ (y : TxE) (pg : P3), y.entry = x.entry → ((y.row base).sep V).le ((SF.bk base { B.setT t y with pg := pg }).sep G) := by
  obtain ⟨U, h1, h2⟩ := ups_foc base h
  refine ⟨((SF.map base B.mt (B.tx.map TxE.entry) B.k1).sep ((SF.map base B.mo (B.ow.map E2.entry) B.k2).sep ((SF.own base 48 8 (.slice B.A B.l.length B.c) B.l.length (flat B.l)).sep U))).sep G, ?_, fun y pg e => ?_⟩
  · refine SF.le_trans (SF.sep_mono ?_ (SF.le_refl _)) (SF.sep_assoc _ _ _)
    refine SF.le_trans (SF.sep_mono (SF.le_refl _) ?_) (SF.sep_rot _ _ _)
    refine SF.le_trans (SF.sep_mono (SF.le_refl _) ?_) (SF.sep_rot _ _ _)
    exact SF.le_trans (SF.sep_mono (SF.le_refl _) h1) (SF.sep_rot _ _ _)
  · refine SF.le_trans (SF.sep_assoc' _ _ _) (SF.sep_mono ?_ (SF.le_refl _))
    have e2 : ({ B.setT t y with pg := pg } : Bk).tx.map TxE.entry = B.tx.map TxE.entry := ents_set h e
    unfold SF.bk
    rw [e2]
    refine SF.le_trans (SF.sep_rot _ _ _) (SF.sep_mono (SF.le_refl _) ?_)
    refine SF.le_trans (SF.sep_rot _ _ _) (SF.sep_mono (SF.le_refl _) ?_)
    exact SF.le_trans (SF.sep_rot _ _ _) (SF.sep_mono (SF.le_refl _) (h2 y))
/-! ### A page -/
def Pg.cl4 (p : Pg) : List Value := p.cl
theorem page_at (B : Bk) (i : Int) (hi : 0 ≤ i ∧ i ≤ 2) : seg B.cells (0 + 1 + i.toNat * 4) 4 = some (B.pg.get i).cl := by
  have h1 : i = 0 ∨ i = 1 ∨ i = 2 := by omega
  rcases h1 with rfl | rfl | rfl <;> rfl
theorem page_put (B : Bk) (i : Int) (x : Pg) (hi : 0 ≤ i ∧ i ≤ 2) : put B.cells (0 + 1 + i.toNat * 4) x.cl = ({ B with pg := B.pg.set i x } : Bk).cells := by
  have h1 : i = 0 ∨ i = 1 ∨ i = 2 := by omega
  rcases h1 with rfl | rfl | rfl <;> rfl
theorem cells_len (B : Bk) : B.cells.length = 15 := rfl
section
variable [Inhabited DSx] {Q : Exit → Act → World → Prop} {E : Env} {n : Nat} {H : Hp} {F G : SF} {u : World}
theorem Y.loadAN {P : Program} {d : Option Nat} {x : Operand} {T T' : TypeId} {p : String} {af : Array Edge} {b o k : Nat} {r cs : List Value} {T2 : TypeId} (hT : Wide P T k) (hx : ev E x = some (.pointer (some ⟨b, o, none⟩))) (hm : (b, cs, T2) ∈ H) (hc : seg cs o k = some r) :
    Yv P E n H F u ⟨d, .load T x, T', p, af, none⟩ (.agg r.toArray) := Y.loadA hT hx hm hc
/-- A call of leave, where a Txn is in front. -/
theorem E.leave {f : FuncId} {args : Array Operand} {ts : Array TypeId} {d : Nat} {T' : TypeId} {p : String} {af : Array Edge} (B B3 : Bk) {t : Int} (x y : TxE) {K Hl : Hp} (Hx : Hp) (hf : f = 48) (hK : Foc B t x K) (htx : B3.tx = set1 B.tx t y) (hl1 : look1 B3.tx t = some y) (hU : UpOk B3)
    (hv : ∀ e ∈ B3.ow, ∃ o, e.v = .int .i64 o) (hbn : B3.ow.Pairwise fun a b => a.born ≠ b.born) (hkk : B3.ow.Pairwise fun a b => ¬(a.p = b.p ∧ a.c = b.c)) (hlt : ∀ e ∈ B3.ow, e.born < B3.k2)
    (hH : H = Hx ++ (y.blkc :: B3.own1 :: (K ++ Hl))) (hF : F = (SF.bk u.heap.size B3).sep G)
    (hx : evs E args.toList = some [B3.ptr, .int .i64 t]) (hn : Nat.blt d n = true) :
    Eff Try.prog E n H F u ⟨some d, .call { callee := .value (.func f), args := args, argTypes := ts }, T', p, af, none⟩ (fun _ : Unit => (d, packed []) :: E) (fun _ => (B3.left t y).hp ++ (Hx ++ Hl)) (fun _ => (SF.bk u.heap.size (B3.left t y)).sep G) := by
  subst hf hF
  refine Proofs.Ytmfjhacgpopijaa.E.callM (fun _ => packed []) _ _ Try.call48 hx (fun w hw => ?_) hn
  rw [hH] at hw
  refine (w_leave u B3 (Hx ++ Hl) G t y w (hw.sub (foc_out hK htx Hx Hl)) hl1 hU hv hbn hkk hlt).mono fun e w' ⟨he, hw'⟩ => ?_
  exact ⟨(), he, hw'⟩
end
/-! ### The histories -/
theorem look1_set : ∀ {l : List TxE} {t : Int} {x y : TxE}, look1 l t = some x → y.key = t → ∀ t', look1 (set1 l t y) t' = if t' = t then some y else look1 l t'
  | [], _, _, _, h, _ => by cases h
  | z :: l, t, x, y, h, hy => fun t' => by
    unfold look1 at h
    split at h
    · rename_i hk
      have e : set1 (z :: l) t y = y :: l := by simp only [set1, if_pos hk]
      rw [e]
      by_cases h1 : t' = t
      · subst h1; simp [look1, hy]
      · have h2 : ¬ t = t' := fun e => h1 e.symm
        simp [look1, hy, hk, h1, h2]
    · rename_i hk
      have ih := look1_set h hy t'
      have e : set1 (z :: l) t y = z :: set1 l t y := by simp only [set1, if_neg hk]
      rw [e]
      by_cases h1 : t' = t
      · subst h1; simp [look1, hk, ih]
      · simp [look1, h1, ih]
/-- The book behind the row's growth: B1, whose Txns are as before. -/
theorem of_more {B : Bk} {h : List R} {A : Option Addr} {c : Nat} {r : R} {t : Int} {i : Bk × TxE} (hB : BOk B h) (ho : OfB (B.more A c r) t i) : BOk { i.1 with l := B.l } h ∧ i.2.st = stB h t ∧ i.2.last = lastN h t ∧ i.2.up = upB h t := by
  have hB' : BOk { B with A := A, c := c } h := ⟨hB.l, hB.pg, hB.tx, hB.no, hB.ow, hB.borns, hB.keys, hB.lt⟩
  refine hB'.of (i := ({ i.1 with l := B.l }, i.2)) ⟨ho.1, ?_⟩
  rcases ho.2 with ⟨e, h2⟩ | ⟨h2, h3, e⟩
  · refine .inl ⟨?_, h2⟩
    dsimp only
    rw [e]
    rfl
  · refine .inr ⟨h2, h3, ?_⟩
    dsimp only
    rw [e]
    rfl
/-- The numbers of the newer history, for the Txns that are not of the record. -/
theorem put_tx {B : Bk} {h : List R} {r : R} {x y : TxE} (hB : BOk B h) (hl : look1 B.tx r.txn = some x) (hk : y.key = r.txn) (h1 : y.st = r.kind) (h2 : y.last = (h.length + 1 : Nat)) (h3 : y.up = upB (r :: h) r.txn) :
    (∀ t z, look1 (set1 B.tx r.txn y) t = some z → z.st = stB (r :: h) t ∧ z.last = lastN (r :: h) t ∧ z.up = upB (r :: h) t) ∧ (∀ t, look1 (set1 B.tx r.txn y) t = none → stB (r :: h) t = 0 ∧ lastN (r :: h) t = 0 ∧ upB (r :: h) t = []) := by
  refine ⟨fun t z hz => ?_, fun t hz => ?_⟩
  · rw [look1_set hl hk] at hz
    split at hz
    · rename_i e
      subst e
      injection hz with hz
      subst hz
      exact ⟨by simp [stB, h1], by simp [lastN, h2], h3⟩
    · rename_i e
      have e' : ¬ r.txn = t := fun x => e x.symm
      have := hB.tx t z hz
      simpa [stB, lastN, upB, e'] using this
  · rw [look1_set hl hk] at hz
    split at hz
    · cases hz
    · rename_i e
      have e' : ¬ r.txn = t := fun x => e x.symm
      have := hB.no t hz
      simpa [stB, lastN, upB, e'] using this
theorem look2_mem : ∀ {l : List E2} {e : E2}, e ∈ l → (l.Pairwise fun a b => ¬(a.p = b.p ∧ a.c = b.c)) → look2 l e.p e.c = some e.v
  | [], _, h, _ => by cases h
  | z :: l, e, h, hk => by
    obtain ⟨k1, k2⟩ := List.pairwise_cons.1 hk
    unfold look2
    rcases List.mem_cons.1 h with rfl | h
    · simp
    · rw [if_neg (k1 e h)]
      exact look2_mem h k2
theorem BOk.vals {B : Bk} {h : List R} (hB : BOk B h) : ∀ e ∈ B.ow, ∃ o, e.v = .int .i64 o := fun e he => by
  have h1 := look2_mem he hB.keys
  rw [hB.ow] at h1
  split at h1
  · cases h1
  · exact ⟨_, (Option.some.inj h1).symm⟩
theorem look2_filter (f : E2 → Bool) : ∀ {l : List E2} {p c : Int}, (l.Pairwise fun a b => ¬(a.p = b.p ∧ a.c = b.c)) → ∀ {v : Value}, look2 l p c = some v → ∃ e ∈ l, e.p = p ∧ e.c = c ∧ e.v = v ∧ look2 (l.filter f) p c = if f e then some v else none
  | [], _, _, _, _, h => by cases h
  | z :: l, p, c, hk, v, h => by
    obtain ⟨k1, k2⟩ := List.pairwise_cons.1 hk
    unfold look2 at h
    split at h
    · rename_i hc
      injection h with h
      refine ⟨z, List.Mem.head _, hc.1, hc.2, h, ?_⟩
      rw [List.filter_cons]
      cases hf : f z
      · simp only [Bool.false_eq_true, if_false]
        have key : ∀ l : List E2, (∀ e ∈ l, ¬(z.p = e.p ∧ z.c = e.c)) → look2 (l.filter f) p c = none := by
          intro l hl
          induction l with
          | nil => rfl
          | cons y l ih =>
            have i1 := ih fun e he => hl e (List.Mem.tail _ he)
            have i2 := hl y (List.Mem.head _)
            rw [List.filter_cons]
            split
            · simp only [look2]
              rw [if_neg (fun e => i2 ⟨hc.1.trans e.1.symm, hc.2.trans e.2.symm⟩), i1]
            · exact i1
        exact key l k1
      · simp only [if_true, look2, if_pos hc, h]
    · rename_i hc
      obtain ⟨e, he, h1, h2, h3, h4⟩ := look2_filter f k2 h
      refine ⟨e, List.Mem.tail _ he, h1, h2, h3, ?_⟩
      rw [List.filter_cons]
      split
      · simp only [look2, if_neg hc]
        exact h4
      · exact h4
theorem look2_filter_none (f : E2 → Bool) : ∀ {l : List E2} {p c : Int}, look2 l p c = none → look2 (l.filter f) p c = none
  | [], _, _, _ => rfl
  | z :: l, p, c, h => by
    unfold look2 at h
    split at h
    · cases h
    · rename_i hc
      rw [List.filter_cons]
      split
      · simp only [look2, if_neg hc]
        exact look2_filter_none f h
      · exact look2_filter_none f h
/-- What leave leaves of the owners. -/
theorem own_left {ow : List E2} {h : List R} {r : R} {l : List R} {up : List Nat} (hk : ow.Pairwise fun a b => ¬(a.p = b.p ∧ a.c = b.c)) (ho : ∀ p c, look2 ow p c = if ownB h p c = 0 then none else some (.int .i64 (ownB h p c))) (hl : l = (r :: h).reverse) (hu : up = upB (r :: h) r.txn) (h1 : r.kind ≠ 1) (h2 : r.kind ≠ 2) (p c : Int) :
    look2 (ow.filter (keepE l r.txn up)) p c = if ownB (r :: h) p c = 0 then none else some (.int .i64 (ownB (r :: h) p c)) := by
  have e : ownB (r :: h) p c = if ownB h p c = r.txn ∧ (upB (r :: h) r.txn).any (hasCell (r :: h) p c) = false then 0 else ownB h p c := by simp [ownB, h1, h2]
  by_cases h0 : ownB h p c = 0
  · have h3 := ho p c
    rw [if_pos h0] at h3
    rw [look2_filter_none _ h3, e]
    have : (if ownB h p c = r.txn ∧ (upB (r :: h) r.txn).any (hasCell (r :: h) p c) = false then 0 else ownB h p c) = 0 := by split <;> simp [h0]
    rw [if_pos this]
  · have h3 := ho p c
    rw [if_neg h0] at h3
    obtain ⟨x, _, rfl, rfl, hv, h4⟩ := look2_filter (keepE l r.txn up) hk h3
    rw [h4]
    have hany : up.any (cellIs l x.p x.c) = (upB (r :: h) r.txn).any (hasCell (r :: h) x.p x.c) := by
      rw [hl, hu]; rfl
    have hkp : keepE l r.txn up x = !(decide (ownB h x.p x.c = r.txn ∧ (upB (r :: h) r.txn).any (hasCell (r :: h) x.p x.c) = false)) := by
      unfold keepE
      rw [hv, hany]
      by_cases e1 : ownB h x.p x.c = r.txn <;> cases (upB (r :: h) r.txn).any (hasCell (r :: h) x.p x.c) <;> simp [e1]
    rw [hkp, e]
    by_cases hd : ownB h x.p x.c = r.txn ∧ (upB (r :: h) r.txn).any (hasCell (r :: h) x.p x.c) = false
    · simp [hd]
    · rw [if_neg hd, if_neg h0]
      simp only [hd, decide_false, Bool.not_false, if_true]
theorem set2_mem : ∀ {l : List E2} {p c : Int} {v : Value} {k : Nat} {e : E2}, e ∈ set2 l p c v k → (∃ x ∈ l, x.born = e.born ∧ x.p = e.p ∧ x.c = e.c) ∨ (has2 l p c = false ∧ e = ⟨p, c, v, k⟩)
  | [], p, c, v, k, e, h => by
    simp [set2] at h
    exact .inr ⟨rfl, h⟩
  | z :: l, p, c, v, k, e, h => by
    unfold set2 at h
    split at h
    · rename_i hc
      rcases List.mem_cons.1 h with rfl | h
      · exact .inl ⟨z, List.Mem.head _, rfl, rfl, rfl⟩
      · exact .inl ⟨e, List.Mem.tail _ h, rfl, rfl, rfl⟩
    · rename_i hc
      rcases List.mem_cons.1 h with rfl | h
      · exact .inl ⟨e, List.Mem.head _, rfl, rfl, rfl⟩
      · rcases set2_mem h with ⟨x, hx, h1⟩ | ⟨h1, h2⟩
        · exact .inl ⟨x, List.Mem.tail _ hx, h1⟩
        · refine .inr ⟨?_, h2⟩
          unfold has2 at h1 ⊢
          simp only [look2, if_neg hc]
          exact h1
theorem set2_borns : ∀ {l : List E2} {p c : Int} {v : Value} {k : Nat}, (l.Pairwise fun a b => a.born ≠ b.born) → (∀ e ∈ l, e.born < k) → (set2 l p c v k).Pairwise fun a b => a.born ≠ b.born
  | [], _, _, _, _, _, _ => by simp [set2]
  | z :: l, p, c, v, k, hp, hk => by
    obtain ⟨h1, h2⟩ := List.pairwise_cons.1 hp
    unfold set2
    split
    · exact List.pairwise_cons.2 ⟨h1, h2⟩
    · refine List.pairwise_cons.2 ⟨fun e he => ?_, set2_borns h2 fun e he => hk e (List.Mem.tail _ he)⟩
      rcases set2_mem he with ⟨x, hx, e1, _⟩ | ⟨_, rfl⟩
      · rw [← e1]; exact h1 x hx
      · have := hk z (List.Mem.head _)
        simp only; omega
theorem set2_keys : ∀ {l : List E2} {p c : Int} {v : Value} {k : Nat}, (l.Pairwise fun a b => ¬(a.p = b.p ∧ a.c = b.c)) → (set2 l p c v k).Pairwise fun a b => ¬(a.p = b.p ∧ a.c = b.c)
  | [], _, _, _, _, _ => by simp [set2]
  | z :: l, p, c, v, k, hp => by
    obtain ⟨h1, h2⟩ := List.pairwise_cons.1 hp
    unfold set2
    split
    · exact List.pairwise_cons.2 ⟨h1, h2⟩
    · rename_i hc
      refine List.pairwise_cons.2 ⟨fun e he => ?_, set2_keys h2⟩
      rcases set2_mem he with ⟨x, hx, _, e1, e2⟩ | ⟨_, rfl⟩
      · rw [← e1, ← e2]; exact h1 x hx
      · exact hc
theorem set2_lt {l : List E2} {p c : Int} {v : Value} {k : Nat} (hk : ∀ e ∈ l, e.born < k) : ∀ e ∈ set2 l p c v k, e.born < nk l p c k := fun e he => by
  unfold nk
  rcases set2_mem he with ⟨x, hx, e1, _⟩ | ⟨h1, rfl⟩
  · have := hk x hx
    split <;> omega
  · rw [h1]; simp
/-! ### The Txn behind a record -/
def TxE.push (x : TxE) (A : Option Addr) (c n : Nat) : TxE := { x with st := 1, last := (n : Nat), A := A, c := c, up := n :: x.up }
def TxE.over (x : TxE) (n : Nat) : TxE := { x with st := 2, last := (n : Nat) }
def TxE.back (x : TxE) (n : Nat) : TxE := { x with st := 3, last := (n : Nat), up := x.up.tail }
def TxE.end (x : TxE) (n : Nat) : TxE := { x with st := 4, last := (n : Nat), A := none, c := 0, up := [] }
theorem row_push (base : Nat) (x : TxE) (A : Option Addr) (c n : Nat) : (SF.own base 3 1 (.slice A (x.up.length + 1) c) (x.up.length + 1) (nums x.up.reverse ++ [.int .i64 (n : Int)])).le ((x.push A c n).row base) := by
  have e : nums (x.push A c n).up.reverse = nums x.up.reverse ++ [.int .i64 (n : Int)] := by simp [nums, TxE.push]
  unfold TxE.row
  rw [e]
  exact SF.le_refl _
theorem own_blk2 {g n m c : Nat} {A : Option Addr} (h : Value.ownBlock (.slice A n c) = some g) : Value.ownBlock (.slice A m c) = some g := by
  cases A with
  | none => cases h
  | some a => exact h
theorem row_back (base : Nat) (x : TxE) (n : Nat) : (x.row base).le ((x.back n).row base) := fun w h => by
  have h1 := own_cut (show w.ownsRow base 3 1 (.slice x.A x.up.length x.c) x.up.length (nums x.up.reverse) from h) (j := x.up.length - 1) (by omega)
  refine ⟨?_, fun b hb => own_blk2 (A := x.A) hb⟩
  have e : nums (x.back n).up.reverse = (nums x.up.reverse).take ((x.up.length - 1) * 1) := by
    unfold TxE.back nums
    rw [← List.map_take]
    congr 1
    cases x.up with
    | nil => rfl
    | cons a l => simp
  have e2 : (x.back n).up.length = x.up.length - 1 := by simp [TxE.back]
  show w.ownsRow base 3 1 (.slice x.A (x.back n).up.length x.c) (x.back n).up.length (nums (x.back n).up.reverse)
  rw [e, e2]
  exact h1
theorem row_end (base : Nat) (x : TxE) (n : Nat) : (x.row base).le ((x.end n).row base) := fun w _ => ⟨own_nil _ _ _ _, fun b hb => by cases hb⟩
def Bk.nx (B : Bk) (t : Int) (y : TxE) (pg : P3) : Bk := { B.setT t y with pg := pg }
/-- The book tells of the longer history. -/
theorem BOk.next {B2 B' : Bk} {h : List R} {r : R} {x y : TxE} {l0 : List R} (hB2 : BOk { B2 with l := l0 } h) (hl1 : look1 B2.tx r.txn = some x) (e1 : B'.l = h.reverse ++ [r]) (e2 : B'.pg = pagesOf (r :: h)) (e3 : B'.tx = set1 B2.tx r.txn y) (hy : y.key = x.key)
    (h1 : y.st = r.kind) (h2 : y.last = (h.length + 1 : Nat)) (h3 : y.up = upB (r :: h) r.txn)
    (how : ∀ p c, look2 B'.ow p c = if ownB (r :: h) p c = 0 then none else some (.int .i64 (ownB (r :: h) p c))) (hbn : B'.ow.Pairwise fun a b => a.born ≠ b.born) (hkk : B'.ow.Pairwise fun a b => ¬(a.p = b.p ∧ a.c = b.c)) (hlt : ∀ e ∈ B'.ow, e.born < B'.k2) : BOk B' (r :: h) := by
  have hk : y.key = r.txn := hy.trans (look1_key hl1).1
  have ht := put_tx (B := { B2 with l := l0 }) hB2 hl1 hk h1 h2 h3
  exact ⟨by rw [e1, List.reverse_cons], e2, by rw [e3]; exact ht.1, by rw [e3]; exact ht.2, how, hbn, hkk, hlt⟩
theorem ups_next {B2 : Bk} {h : List R} {r : R} {x y : TxE} {l0 : List R} {pg : P3} (hB2 : BOk { B2 with l := l0 } h) (hl1 : look1 B2.tx r.txn = some x) (hlen : h.length + 1 ≤ 60) (e1 : B2.l.length = h.length + 1) (hy : y.key = x.key)
    (h1 : y.st = r.kind) (h2 : y.last = (h.length + 1 : Nat)) (h3 : y.up = upB (r :: h) r.txn) : UpOk (B2.nx r.txn y pg) := by
  have hk : y.key = r.txn := hy.trans (look1_key hl1).1
  have ht := put_tx (B := { B2 with l := l0 }) hB2 hl1 hk h1 h2 h3
  refine ⟨by show B2.l.length ≤ 60; omega, fun t z hz => ?_⟩
  have := (ht.1 t z hz).2.2
  rw [this]
  refine ⟨Nat.le_trans (upB_len _ _) (by simp; omega), fun m hm => ?_⟩
  have h5 := upB_le hm
  refine ⟨h5.1, ?_⟩
  show m ≤ B2.l.length
  rw [e1]
  simpa using h5.2
theorem look_next {B2 : Bk} {r : R} {x y : TxE} {pg : P3} (hl1 : look1 B2.tx r.txn = some x) (hy : y.key = x.key) : look1 (B2.nx r.txn y pg).tx r.txn = some y := by
  have hk : y.key = r.txn := hy.trans (look1_key hl1).1
  show look1 (set1 B2.tx r.txn y) r.txn = some y
  rw [look1_set hl1 hk, if_pos rfl]
theorem own_next {ow : List E2} {h : List R} {r : R} {k : Nat} (ho : ∀ p c, look2 ow p c = if ownB h p c = 0 then none else some (.int .i64 (ownB h p c))) (h1 : r.kind = 1) (ht : r.txn ≠ 0) (p c : Int) :
    look2 (set2 ow r.page r.cell (.int .i64 r.txn) k) p c = if ownB (r :: h) p c = 0 then none else some (.int .i64 (ownB (r :: h) p c)) := by
  have e : ownB (r :: h) p c = if r.page = p ∧ r.cell = c then r.txn else ownB h p c := by simp [ownB, h1]
  rw [look2_set, e]
  by_cases hc : r.page = p ∧ r.cell = c
  · simp [hc, ht]
  · rw [if_neg hc, if_neg hc, ho]
theorem own_same {ow : List E2} {h : List R} {r : R} (ho : ∀ p c, look2 ow p c = if ownB h p c = 0 then none else some (.int .i64 (ownB h p c))) (h2 : r.kind = 2) (p c : Int) :
    look2 ow p c = if ownB (r :: h) p c = 0 then none else some (.int .i64 (ownB (r :: h) p c)) := by
  have e : ownB (r :: h) p c = ownB h p c := by simp [ownB, h2]
  rw [e, ho]
theorem filter_pair {α : Type} {p : α → α → Prop} {f : α → Bool} {l : List α} (h : l.Pairwise p) : (l.filter f).Pairwise p := h.sublist List.filter_sublist
/-- Each Txn that was there lies where it lay. -/
def Keeps (B B' : Bk) : Prop := ∀ t x, look1 B.tx t = some x → ∃ y, look1 B'.tx t = some y ∧ y.blk = x.blk
theorem Keeps.refl (B : Bk) : Keeps B B := fun _ x h => ⟨x, h, rfl⟩
theorem Keeps.trans {B B' B'' : Bk} (h : Keeps B B') (k : Keeps B' B'') : Keeps B B'' := fun t x hx => by
  obtain ⟨y, hy, e⟩ := h t x hx
  obtain ⟨z, hz, e2⟩ := k t y hy
  exact ⟨z, hz, e2.trans e⟩
theorem of_keeps {B : Bk} {t : Int} {i : Bk × TxE} (h : OfB B t i) : Keeps B i.1 := fun t' x' hx => by
  rcases h.2 with ⟨e, _⟩ | ⟨hn, h3, e⟩
  · rw [e]; exact ⟨x', hx, rfl⟩
  · rw [e]
    refine ⟨x', ?_, rfl⟩
    show look1 (B.tx ++ [i.2]) t' = some x'
    rw [look1_app hn (by rw [h3]; rfl), if_neg (fun e => by rw [e, hn] at hx; cases hx)]
    exact hx
theorem keep_put {B B2 B' : Bk} {A : Option Addr} {c : Nat} {r : R} {t : Int} {x y : TxE} (ho : OfB (B.more A c r) t (B2, x)) (htx : B'.tx = set1 B2.tx t y) (hy : y.blk = x.blk) (hk : y.key = x.key) : Keeps B B' := fun t' x' hx => by
  obtain ⟨z, hz, e⟩ := of_keeps ho t' x' hx
  have hl : look1 B2.tx t = some x := ho.1
  rw [htx, look1_set hl (hk.trans (look1_key hl).1)]
  by_cases h : t' = t
  · subst h
    rw [if_pos rfl]
    have hz : look1 B2.tx t' = some z := hz
    rw [hl] at hz
    obtain rfl := Option.some.inj hz
    exact ⟨y, rfl, hy.trans e⟩
  · rw [if_neg h]
    exact ⟨z, hz, e⟩
theorem back_up {h : List R} {r : R} (hr : Right (r :: h)) (hk : r.kind = 3) : ∃ n l, upB h r.txn = n :: l := by
  obtain ⟨h1, h2, h3⟩ := hr.parts
  obtain ⟨n, l, hu, _⟩ := follows_back h3 hk
  refine ⟨n, l, ?_⟩
  rw [h1.up, if_neg (follows_st h3).2.1, hu]
theorem w_setOk (p : Pg) (cell v n : Int) (w : World) (hp : p.ok = true) (ha : setArgs cell v n = true) : Ret Try.prog 47 [p.val, .int .i64 cell, .int .i64 v, .int .i64 n] w (.tuple #[(p.put cell v n).val, .int .i64 0]) := by
  have h := w_set p cell v n w
  rwa [show setOf p cell v n = (p.put cell v n, 0) by simp [setOf, hp, ha]] at h
theorem pages_turn {h : List R} {r : R} (ht : r.turns = true) : pagesOf (r :: h) = (pagesOf h).set r.page (((pagesOf h).get r.page).put r.cell r.new (h.length + 1 : Nat)) := by
  simp only [pagesOf, if_pos ht]
  rfl
theorem pages_stay {h : List R} {r : R} (ht : r.turns = false) : pagesOf (r :: h) = pagesOf h := by
  simp [pagesOf, ht]
end Go.Proofs.Ytmfjhacgpopijaa
end
section
set_option maxRecDepth 100000
set_option linter.unusedVariables false
set_option linter.unusedSimpArgs false
set_option linter.unusedSectionVars false
set_option maxHeartbeats 4000000
namespace Go.Proofs.Ytmfjhacgpopijaa
open Go.RowKit Go.Joins
theorem w_put1 (u : World) (B : Bk) (Hl : Hp) (G : SF) (h : List R) (r : R) (w : World) (hw : Wp u (B.hp ++ Hl) ((SF.bk u.heap.size B).sep G) w) (hB : BOk B h) (hr : Right (r :: h)) (hk : r.kind = 1) : Calls Try.prog 39 [B.ptr, r.val].toArray w fun e w' => ∃ i : {B' : Bk // BOk B' (r :: h) ∧ B'.bk = B.bk ∧ Keeps B B'}, e = .returned (packed []) ∧ Wp u (i.1.hp ++ Hl) ((SF.bk u.heap.size i.1).sep G) w' := by
 obtain ⟨hr1, hr2, hr3⟩ := hr.parts
 have hbd := rec_bounds hr2
 have hBl : B.l.length = h.length := by rw [hB.l]; simp
 have ht : r.turns = true := by simp [R.turns, hk]
 obtain ⟨i3, hi3, hz30, hz31, hz32⟩ := info_parts rec_info
 obtain ⟨i0, hi0, hz0, hz1, hz2⟩ := info_parts int_info
 obtain ⟨hp, hc, _, hnew⟩ := hbd.2.2.2.2.2.2.2.2.1 ht
 refine enterW Try.func39 rfl Try.ntmps39 rfl hw ?_
 refine sR ?_
 refine WL.eff (E.box rfl rfl rfl) rfl (fun b1 => ?_)
 refine nN ?_
 refine WC.seq ?_
 refine WC.le (bk_rl _ _ _) ?_
 refine WC.draw [(0, .q false), (1, .q false), (2, .q false), (3, .q false), (4, .q true), (5, .q true), (6, .s false), (7, .s true), (8, .q false), (9, .q false), (10, .s true)] mixed (by kernel_rfl) ?_
 refine dP (Y.move rfl) rfl rfl ?_
 refine dP (Y.move rfl) rfl rfl ?_
 refine dP (Y.nilCheck rfl) rfl rfl ?_
 refine dP (Y.fieldAddr fa_78_0 rfl) rfl rfl ?_
 refine dV (Y.load fl_26 rfl m1 rfl) rfl rfl ?_
 refine dV (Y.loadA wd_48 rfl m0 rfl) rfl rfl ?_
 refine WDm.spec (WS.free rfl (E.buildSlice (bs_26_1 _ _ _ _ _ _ _ _) rfl rfl)) (fun _ => ext_new rfl) (fun b2 => ?_)
 refine WDm.spec (WS.free rfl (E.appendG Try.underlying26 hi3 hz30 hz31 hz32 rfl (by decide) rfl rfl rfl m0 rfl rfl (by unfold maxLen; omega) (by omega) rfl)) (fun _ => sub_push rfl) (fun i => ?_)
 refine dP (Y.nilCheck rfl) rfl rfl ?_
 refine dP (Y.fieldAddr fa_78_0 rfl) rfl rfl ?_
 refine WDm.spec (WS.free rfl (E.storeP Try.sizeOf26 rfl rfl rfl rfl rfl u2 (by rw [cells_len]; omega) (more_cells B i.1 i.2 r))) (fun _ => sub_refl _) (fun _ => ?_)
 refine WDm.nil (WQ.and ?_)
 refine WQ.next ?_
 refine WC.seq ?_
 obtain ⟨A1, c1⟩ := i
 dsimp only
 refine WC.le (bk_more _ B A1 c1 r G) ?_
 have en : (B.more A1 c1 r).l.length = h.length + 1 := by simp [Bk.more, hBl]
 refine WC.region ?_
 refine pM rfl rfl ?_
 refine pP (Y.nilCheck rfl) rfl ?_
 refine pP (Y.fieldAddr fa_78_0 rfl) rfl ?_
 refine pV (Y.load (v := .slice A1 (h.length + 1) c1) fl_26 rfl m2 (congrArg (fun k => some (Value.slice A1 k c1)) en)) rfl ?_
 refine pP (Y.len Try.underlying26 rfl) rfl ?_
 refine pA rfl rfl ?_
 refine nN ?_
 refine sR ?_
 refine pM rfl rfl ?_
 refine pP (Y.fieldAddr fa_48_1 rfl) rfl ?_
 refine pV (Y.load fl_3 rfl m1 rfl) rfl ?_
 refine WL.eff (E.of [_, _] rfl rfl rfl rfl rfl) rfl (fun i => ?_)
 obtain ⟨⟨B2, x, K⟩, hOf, hK⟩ := i
 obtain ⟨hB2, hst, hla, hup⟩ := of_more hB hOf
 obtain ⟨el, _, _, epg, ebk, _⟩ := of_l hOf
 dsimp only at hOf hK hB2 hst hla hup el epg ebk ⊢
 have e0 : B.ptr = B2.ptr := by unfold Bk.ptr; rw [ebk]; rfl
 rw [e0]
 have hl1 := hOf.1
 dsimp only at hl1
 have hl2 : B2.l = h.reverse ++ [r] := by rw [el, ← hB.l]; rfl
 have e2l : B2.l.length = h.length + 1 := by rw [hl2]; simp
 have hpg : B2.pg = pagesOf h := hB2.pg
 have hul := upB_len h r.txn
 rw [← hup] at hul
 obtain ⟨V, hV1, hV2⟩ := bk_foc u.heap.size G hl1
 refine pA rfl rfl ?_
 refine nN ?_
 refine sR ?_
 refine pM rfl rfl ?_
 refine pM rfl rfl ?_
 refine pP (Y.nilCheck rfl) rfl ?_
 refine pP (Y.fieldAddr fa_92_1 rfl) rfl ?_
 refine WL.eff (E.store Try.sizeOf3 rfl rfl rfl rfl rfl u2 rfl rfl) rfl (fun _ => ?_)
 refine nN ?_
 refine WC.seq ?_
 refine sR ?_
 refine pV (Y.loadA wd_48 rfl m1 rfl) rfl ?_
 refine WL.eff (E.call Try.call14 rfl (fun _ w s => w_turns r w) rfl) rfl (fun _ => ?_)
 refine nN ?_
 refine WC.isT rfl (ht) ?_
 refine WC.draw [(0, .q false), (1, .q false), (2, .q true), (3, .q false), (4, .q false), (5, .q true), (6, .q false), (7, .q false), (8, .q false), (9, .q true), (10, .q false), (11, .q true), (12, .q false), (13, .q true), (14, .q false), (15, .q true), (16, .q false), (17, .q false), (18, .q false), (19, .q false), (20, .q false), (21, .q false), (22, .s true)] mixed (by kernel_rfl) ?_
 refine dP (Y.move rfl) rfl rfl ?_
 refine dP (Y.fieldAddr fa_48_3 rfl) rfl rfl ?_
 refine dV (Y.load fl_3 rfl m1 rfl) rfl rfl ?_
 refine dP (Y.move rfl) rfl rfl ?_
 refine dP (Y.fieldAddr fa_48_3 rfl) rfl rfl ?_
 refine dV (Y.load fl_3 rfl m1 rfl) rfl rfl ?_
 refine dP (Y.nilCheck rfl) rfl rfl ?_
 refine dP (Y.fieldAddr fa_78_1 rfl) rfl rfl ?_
 refine dP (Y.ixArr Try.underlying25 Try.sizeOf24 rfl rfl hp.1 (by omega)) rfl rfl ?_
 refine dV (Y.loadAN wd_24 rfl m3 (page_at B2 r.page hp)) rfl rfl ?_
 refine dP (Y.fieldAddr fa_48_4 rfl) rfl rfl ?_
 refine dV (Y.load fl_3 rfl m1 rfl) rfl rfl ?_
 refine dP (Y.fieldAddr fa_48_6 rfl) rfl rfl ?_
 refine dV (Y.load fl_3 rfl m1 rfl) rfl rfl ?_
 refine dP (Y.move rfl) rfl rfl ?_
 refine WDm.quiet (QS.call Try.call47 rfl (fun _ w s => w_setOk (B2.pg.get r.page) r.cell r.new (h.length + 1 : Nat) w (by rw [hpg]; exact P3.ok_get hr1.pok _) (by simp [setArgs, wi]; omega))) rfl rfl rfl ?_
 refine dP (Y.move rfl) rfl rfl ?_
 refine dP (Y.extract rfl rfl) rfl rfl ?_
 refine dP (Y.extract rfl rfl) rfl rfl ?_
 refine dP (Y.nilCheck rfl) rfl rfl ?_
 refine dP (Y.fieldAddr fa_78_1 rfl) rfl rfl ?_
 refine dP (Y.ixArr Try.underlying25 Try.sizeOf24 rfl rfl (by omega) (by omega)) rfl rfl ?_
 refine WDm.spec (WS.free rfl (E.storeP Try.sizeOf24 rfl rfl rfl rfl rfl u3 (by rw [cells_len]; omega) (page_put B2 r.page _ hp))) (fun _ => sub_refl _) (fun _ => ?_)
 refine WDm.nil (WQ.and ?_)
 refine WQ.next ?_
 refine WC.seq ?_
 refine sR ?_
 refine pP (Y.fieldAddr fa_48_0 rfl) rfl ?_
 refine pV (Y.load fl_3 rfl m1 rfl) rfl ?_
 refine nN ?_
 refine WC.block ?_
 refine sR ?_
 refine pP (Y.eql rfl rfl) rfl ?_
 refine pA rfl rfl ?_
 refine nN ?_
 refine WC.isT rfl (by simp [hk]) ?_
 refine WC.seq ?_
 refine WC.le hV1 ?_
 refine WC.region ?_
 refine pM rfl rfl ?_
 refine pM rfl rfl ?_
 refine pM rfl rfl ?_
 refine pP (Y.nilCheck rfl) rfl ?_
 refine pP (Y.fieldAddr fa_92_2 rfl) rfl ?_
 refine pV (Y.load fl_46 rfl m2 rfl) rfl ?_
 refine pM rfl rfl ?_
 refine WL.eff (E.buildSlice (bs_46_1 _) rfl rfl) rfl (fun b3 => ?_)
 refine WL.eff (E.appendG Try.underlying46 hi0 hz0 hz1 hz2 rfl (by decide) rfl rfl rfl m0 rfl rfl (by unfold maxLen; omega) (by omega) rfl) rfl (fun j => ?_)
 refine pP (Y.nilCheck rfl) rfl ?_
 refine pP (Y.fieldAddr fa_92_0 rfl) rfl ?_
 refine WL.eff (E.store Try.sizeOf3 rfl rfl rfl rfl rfl u3 rfl rfl) rfl (fun _ => ?_)
 refine pP (Y.nilCheck rfl) rfl ?_
 refine pP (Y.fieldAddr fa_92_2 rfl) rfl ?_
 refine WL.eff (E.store Try.sizeOf46 rfl rfl rfl rfl rfl u3 rfl rfl) rfl (fun _ => ?_)
 refine nN ?_
 refine WC.seq ?_
 obtain ⟨A3, c3⟩ := j
 dsimp only
 refine WC.le (SF.le_trans (SF.sep_mono (row_push _ x A3 c3 (h.length + 1)) (SF.le_refl _)) (SF.le_trans (hV2 (x.push A3 c3 (h.length + 1)) (B2.pg.set r.page ((B2.pg.get r.page).put r.cell r.new (h.length + 1 : Nat))) rfl) (bk_mo _ (B2.nx r.txn (x.push A3 c3 (h.length + 1)) (B2.pg.set r.page ((B2.pg.get r.page).put r.cell r.new (h.length + 1 : Nat)))) G))) ?_
 refine WC.draw [(0, .q false), (1, .q false), (2, .q false), (3, .q true), (4, .q false), (5, .q true), (6, .q false), (7, .q true), (8, .q false), (9, .q false), (10, .q true), (11, .s true)] mixed (by kernel_rfl) ?_
 refine dP (Y.move rfl) rfl rfl ?_
 refine dP (Y.nilCheck rfl) rfl rfl ?_
 refine dP (Y.fieldAddr fa_78_3 rfl) rfl rfl ?_
 refine dV (Y.load fl_76 rfl m4 rfl) rfl rfl ?_
 refine dP (Y.fieldAddr fa_48_3 rfl) rfl rfl ?_
 refine dV (Y.load fl_3 rfl m2 rfl) rfl rfl ?_
 refine dP (Y.fieldAddr fa_48_4 rfl) rfl rfl ?_
 refine dV (Y.load fl_3 rfl m2 rfl) rfl rfl ?_
 refine dP (Y.build rfl (bf_97_0_1 _ _)) rfl rfl ?_
 refine dP (Y.fieldAddr fa_48_1 rfl) rfl rfl ?_
 refine dV (Y.load fl_3 rfl m2 rfl) rfl rfl ?_
 refine WDm.spec (WS.free rfl (E.mapUpdate rfl rfl rfl rfl (fun w h => run_update_two B2.ow r.page r.cell (.int .i64 r.txn) Try.underlying76 h))) (fun _ => sub_refl _) (fun _ => ?_)
 refine WDm.nil (WQ.and ?_)
 refine WQ.next ?_
 refine WC.ret ?_
 refine WQ.blockRet ?_
 refine WQ.thenRet ?_
 refine WQ.done Try.results39 RVs.nil (fun a w s => ?_)
 · refine ⟨⟨{ (B2.nx r.txn (x.push A3 c3 (h.length + 1)) (B2.pg.set r.page ((B2.pg.get r.page).put r.cell r.new (h.length + 1 : Nat)))) with ow := set2 B2.ow r.page r.cell (.int .i64 r.txn) B2.k2, k2 := nk B2.ow r.page r.cell B2.k2 }, ?_, ?_, ?_⟩, rfl, Wp.le (s.wp.sub (rest_hp (Hx := [_, _, _]) (foc_out hK (B' := { (B2.nx r.txn (x.push A3 c3 (h.length + 1)) (B2.pg.set r.page ((B2.pg.get r.page).put r.cell r.new (h.length + 1 : Nat)))) with ow := set2 B2.ow r.page r.cell (.int .i64 r.txn) B2.k2, k2 := nk B2.ow r.page r.cell B2.k2 }) (y := (x.push A3 c3 (h.length + 1))) rfl _ _))) (bk_mo' _ { (B2.nx r.txn (x.push A3 c3 (h.length + 1)) (B2.pg.set r.page ((B2.pg.get r.page).put r.cell r.new (h.length + 1 : Nat)))) with ow := set2 B2.ow r.page r.cell (.int .i64 r.txn) B2.k2, k2 := nk B2.ow r.page r.cell B2.k2 } G)⟩
   · exact BOk.next hB2 hl1 (y := (x.push A3 c3 (h.length + 1))) hl2 ((by rw [pages_turn ht, hpg]; rfl)) rfl rfl (hk.symm) rfl (by simp [TxE.push, upB, hk, hup]) (own_next hB2.ow hk (by omega)) (set2_borns hB2.borns hB2.lt) (set2_keys hB2.keys) (set2_lt hB2.lt)
   · exact ebk
   · exact keep_put hOf rfl rfl rfl

theorem w_put2 (u : World) (B : Bk) (Hl : Hp) (G : SF) (h : List R) (r : R) (w : World) (hw : Wp u (B.hp ++ Hl) ((SF.bk u.heap.size B).sep G) w) (hB : BOk B h) (hr : Right (r :: h)) (hk : r.kind = 2) : Calls Try.prog 39 [B.ptr, r.val].toArray w fun e w' => ∃ i : {B' : Bk // BOk B' (r :: h) ∧ B'.bk = B.bk ∧ Keeps B B'}, e = .returned (packed []) ∧ Wp u (i.1.hp ++ Hl) ((SF.bk u.heap.size i.1).sep G) w' := by
 obtain ⟨hr1, hr2, hr3⟩ := hr.parts
 have hbd := rec_bounds hr2
 have hBl : B.l.length = h.length := by rw [hB.l]; simp
 have ht : r.turns = false := by simp [R.turns, hk]
 obtain ⟨i3, hi3, hz30, hz31, hz32⟩ := info_parts rec_info
 obtain ⟨i0, hi0, hz0, hz1, hz2⟩ := info_parts int_info
 refine enterW Try.func39 rfl Try.ntmps39 rfl hw ?_
 refine sR ?_
 refine WL.eff (E.box rfl rfl rfl) rfl (fun b1 => ?_)
 refine nN ?_
 refine WC.seq ?_
 refine WC.le (bk_rl _ _ _) ?_
 refine WC.draw [(0, .q false), (1, .q false), (2, .q false), (3, .q false), (4, .q true), (5, .q true), (6, .s false), (7, .s true), (8, .q false), (9, .q false), (10, .s true)] mixed (by kernel_rfl) ?_
 refine dP (Y.move rfl) rfl rfl ?_
 refine dP (Y.move rfl) rfl rfl ?_
 refine dP (Y.nilCheck rfl) rfl rfl ?_
 refine dP (Y.fieldAddr fa_78_0 rfl) rfl rfl ?_
 refine dV (Y.load fl_26 rfl m1 rfl) rfl rfl ?_
 refine dV (Y.loadA wd_48 rfl m0 rfl) rfl rfl ?_
 refine WDm.spec (WS.free rfl (E.buildSlice (bs_26_1 _ _ _ _ _ _ _ _) rfl rfl)) (fun _ => ext_new rfl) (fun b2 => ?_)
 refine WDm.spec (WS.free rfl (E.appendG Try.underlying26 hi3 hz30 hz31 hz32 rfl (by decide) rfl rfl rfl m0 rfl rfl (by unfold maxLen; omega) (by omega) rfl)) (fun _ => sub_push rfl) (fun i => ?_)
 refine dP (Y.nilCheck rfl) rfl rfl ?_
 refine dP (Y.fieldAddr fa_78_0 rfl) rfl rfl ?_
 refine WDm.spec (WS.free rfl (E.storeP Try.sizeOf26 rfl rfl rfl rfl rfl u2 (by rw [cells_len]; omega) (more_cells B i.1 i.2 r))) (fun _ => sub_refl _) (fun _ => ?_)
 refine WDm.nil (WQ.and ?_)
 refine WQ.next ?_
 refine WC.seq ?_
 obtain ⟨A1, c1⟩ := i
 dsimp only
 refine WC.le (bk_more _ B A1 c1 r G) ?_
 have en : (B.more A1 c1 r).l.length = h.length + 1 := by simp [Bk.more, hBl]
 refine WC.region ?_
 refine pM rfl rfl ?_
 refine pP (Y.nilCheck rfl) rfl ?_
 refine pP (Y.fieldAddr fa_78_0 rfl) rfl ?_
 refine pV (Y.load (v := .slice A1 (h.length + 1) c1) fl_26 rfl m2 (congrArg (fun k => some (Value.slice A1 k c1)) en)) rfl ?_
 refine pP (Y.len Try.underlying26 rfl) rfl ?_
 refine pA rfl rfl ?_
 refine nN ?_
 refine sR ?_
 refine pM rfl rfl ?_
 refine pP (Y.fieldAddr fa_48_1 rfl) rfl ?_
 refine pV (Y.load fl_3 rfl m1 rfl) rfl ?_
 refine WL.eff (E.of [_, _] rfl rfl rfl rfl rfl) rfl (fun i => ?_)
 obtain ⟨⟨B2, x, K⟩, hOf, hK⟩ := i
 obtain ⟨hB2, hst, hla, hup⟩ := of_more hB hOf
 obtain ⟨el, _, _, epg, ebk, _⟩ := of_l hOf
 dsimp only at hOf hK hB2 hst hla hup el epg ebk ⊢
 have e0 : B.ptr = B2.ptr := by unfold Bk.ptr; rw [ebk]; rfl
 rw [e0]
 have hl1 := hOf.1
 dsimp only at hl1
 have hl2 : B2.l = h.reverse ++ [r] := by rw [el, ← hB.l]; rfl
 have e2l : B2.l.length = h.length + 1 := by rw [hl2]; simp
 have hpg : B2.pg = pagesOf h := hB2.pg
 have hul := upB_len h r.txn
 rw [← hup] at hul
 obtain ⟨V, hV1, hV2⟩ := bk_foc u.heap.size G hl1
 refine pA rfl rfl ?_
 refine nN ?_
 refine sR ?_
 refine pM rfl rfl ?_
 refine pM rfl rfl ?_
 refine pP (Y.nilCheck rfl) rfl ?_
 refine pP (Y.fieldAddr fa_92_1 rfl) rfl ?_
 refine WL.eff (E.store Try.sizeOf3 rfl rfl rfl rfl rfl u2 rfl rfl) rfl (fun _ => ?_)
 refine nN ?_
 refine WC.seq ?_
 refine sR ?_
 refine pV (Y.loadA wd_48 rfl m1 rfl) rfl ?_
 refine WL.eff (E.call Try.call14 rfl (fun _ w s => w_turns r w) rfl) rfl (fun _ => ?_)
 refine nN ?_
 refine WC.isF rfl (ht) ?_
 refine WC.skip' ?_
 refine WQ.next ?_
 refine WC.seq ?_
 refine sR ?_
 refine pP (Y.fieldAddr fa_48_0 rfl) rfl ?_
 refine pV (Y.load fl_3 rfl m1 rfl) rfl ?_
 refine nN ?_
 refine WC.block ?_
 refine sR ?_
 refine pP (Y.eql rfl rfl) rfl ?_
 refine pA rfl rfl ?_
 refine nN ?_
 refine WC.isF rfl (by simp [hk]) ?_
 refine sR ?_
 refine pP (Y.eql rfl rfl) rfl ?_
 refine pA rfl rfl ?_
 refine nN ?_
 refine WC.isT rfl (by simp [hk]) ?_
 refine sR ?_
 refine pM rfl rfl ?_
 refine pP (Y.nilCheck rfl) rfl ?_
 refine pP (Y.fieldAddr fa_92_0 rfl) rfl ?_
 refine WL.eff (E.store Try.sizeOf3 rfl rfl rfl rfl rfl u2 rfl rfl) rfl (fun _ => ?_)
 refine nN ?_
 refine WC.ret ?_
 refine WQ.blockRet ?_
 refine WQ.thenRet ?_
 refine WQ.done Try.results39 RVs.nil (fun a w s => ?_)
 · refine ⟨⟨(B2.nx r.txn (x.over (h.length + 1)) B2.pg), ?_, ?_, ?_⟩, rfl, Wp.le (s.wp.sub (rest_hp (Hx := [_, _]) (foc_out hK (B' := (B2.nx r.txn (x.over (h.length + 1)) B2.pg)) (y := (x.over (h.length + 1))) rfl _ _))) (SF.le_trans hV1 (hV2 (x.over (h.length + 1)) B2.pg rfl))⟩
   · exact BOk.next hB2 hl1 (y := (x.over (h.length + 1))) hl2 ((by rw [pages_stay ht]; exact hpg)) rfl rfl (hk.symm) rfl (by simp [TxE.over, upB, hk, hup]) (own_same hB2.ow hk) hB2.borns hB2.keys hB2.lt
   · exact ebk
   · exact keep_put hOf rfl rfl rfl

theorem w_put3 (u : World) (B : Bk) (Hl : Hp) (G : SF) (h : List R) (r : R) (w : World) (hw : Wp u (B.hp ++ Hl) ((SF.bk u.heap.size B).sep G) w) (hB : BOk B h) (hr : Right (r :: h)) (hk : r.kind = 3) : Calls Try.prog 39 [B.ptr, r.val].toArray w fun e w' => ∃ i : {B' : Bk // BOk B' (r :: h) ∧ B'.bk = B.bk ∧ Keeps B B'}, e = .returned (packed []) ∧ Wp u (i.1.hp ++ Hl) ((SF.bk u.heap.size i.1).sep G) w' := by
 obtain ⟨hr1, hr2, hr3⟩ := hr.parts
 have hbd := rec_bounds hr2
 have hBl : B.l.length = h.length := by rw [hB.l]; simp
 have ht : r.turns = true := by simp [R.turns, hk]
 obtain ⟨i3, hi3, hz30, hz31, hz32⟩ := info_parts rec_info
 obtain ⟨i0, hi0, hz0, hz1, hz2⟩ := info_parts int_info
 obtain ⟨hp, hc, _, hnew⟩ := hbd.2.2.2.2.2.2.2.2.1 ht
 refine enterW Try.func39 rfl Try.ntmps39 rfl hw ?_
 refine sR ?_
 refine WL.eff (E.box rfl rfl rfl) rfl (fun b1 => ?_)
 refine nN ?_
 refine WC.seq ?_
 refine WC.le (bk_rl _ _ _) ?_
 refine WC.draw [(0, .q false), (1, .q false), (2, .q false), (3, .q false), (4, .q true), (5, .q true), (6, .s false), (7, .s true), (8, .q false), (9, .q false), (10, .s true)] mixed (by kernel_rfl) ?_
 refine dP (Y.move rfl) rfl rfl ?_
 refine dP (Y.move rfl) rfl rfl ?_
 refine dP (Y.nilCheck rfl) rfl rfl ?_
 refine dP (Y.fieldAddr fa_78_0 rfl) rfl rfl ?_
 refine dV (Y.load fl_26 rfl m1 rfl) rfl rfl ?_
 refine dV (Y.loadA wd_48 rfl m0 rfl) rfl rfl ?_
 refine WDm.spec (WS.free rfl (E.buildSlice (bs_26_1 _ _ _ _ _ _ _ _) rfl rfl)) (fun _ => ext_new rfl) (fun b2 => ?_)
 refine WDm.spec (WS.free rfl (E.appendG Try.underlying26 hi3 hz30 hz31 hz32 rfl (by decide) rfl rfl rfl m0 rfl rfl (by unfold maxLen; omega) (by omega) rfl)) (fun _ => sub_push rfl) (fun i => ?_)
 refine dP (Y.nilCheck rfl) rfl rfl ?_
 refine dP (Y.fieldAddr fa_78_0 rfl) rfl rfl ?_
 refine WDm.spec (WS.free rfl (E.storeP Try.sizeOf26 rfl rfl rfl rfl rfl u2 (by rw [cells_len]; omega) (more_cells B i.1 i.2 r))) (fun _ => sub_refl _) (fun _ => ?_)
 refine WDm.nil (WQ.and ?_)
 refine WQ.next ?_
 refine WC.seq ?_
 obtain ⟨A1, c1⟩ := i
 dsimp only
 refine WC.le (bk_more _ B A1 c1 r G) ?_
 have en : (B.more A1 c1 r).l.length = h.length + 1 := by simp [Bk.more, hBl]
 refine WC.region ?_
 refine pM rfl rfl ?_
 refine pP (Y.nilCheck rfl) rfl ?_
 refine pP (Y.fieldAddr fa_78_0 rfl) rfl ?_
 refine pV (Y.load (v := .slice A1 (h.length + 1) c1) fl_26 rfl m2 (congrArg (fun k => some (Value.slice A1 k c1)) en)) rfl ?_
 refine pP (Y.len Try.underlying26 rfl) rfl ?_
 refine pA rfl rfl ?_
 refine nN ?_
 refine sR ?_
 refine pM rfl rfl ?_
 refine pP (Y.fieldAddr fa_48_1 rfl) rfl ?_
 refine pV (Y.load fl_3 rfl m1 rfl) rfl ?_
 refine WL.eff (E.of [_, _] rfl rfl rfl rfl rfl) rfl (fun i => ?_)
 obtain ⟨⟨B2, x, K⟩, hOf, hK⟩ := i
 obtain ⟨hB2, hst, hla, hup⟩ := of_more hB hOf
 obtain ⟨el, _, _, epg, ebk, _⟩ := of_l hOf
 dsimp only at hOf hK hB2 hst hla hup el epg ebk ⊢
 have e0 : B.ptr = B2.ptr := by unfold Bk.ptr; rw [ebk]; rfl
 rw [e0]
 have hl1 := hOf.1
 dsimp only at hl1
 have hl2 : B2.l = h.reverse ++ [r] := by rw [el, ← hB.l]; rfl
 have e2l : B2.l.length = h.length + 1 := by rw [hl2]; simp
 have hpg : B2.pg = pagesOf h := hB2.pg
 have hul := upB_len h r.txn
 rw [← hup] at hul
 obtain ⟨V, hV1, hV2⟩ := bk_foc u.heap.size G hl1
 refine pA rfl rfl ?_
 refine nN ?_
 refine sR ?_
 refine pM rfl rfl ?_
 refine pM rfl rfl ?_
 refine pP (Y.nilCheck rfl) rfl ?_
 refine pP (Y.fieldAddr fa_92_1 rfl) rfl ?_
 refine WL.eff (E.store Try.sizeOf3 rfl rfl rfl rfl rfl u2 rfl rfl) rfl (fun _ => ?_)
 refine nN ?_
 refine WC.seq ?_
 refine sR ?_
 refine pV (Y.loadA wd_48 rfl m1 rfl) rfl ?_
 refine WL.eff (E.call Try.call14 rfl (fun _ w s => w_turns r w) rfl) rfl (fun _ => ?_)
 refine nN ?_
 refine WC.isT rfl (ht) ?_
 refine WC.draw [(0, .q false), (1, .q false), (2, .q true), (3, .q false), (4, .q false), (5, .q true), (6, .q false), (7, .q false), (8, .q false), (9, .q true), (10, .q false), (11, .q true), (12, .q false), (13, .q true), (14, .q false), (15, .q true), (16, .q false), (17, .q false), (18, .q false), (19, .q false), (20, .q false), (21, .q false), (22, .s true)] mixed (by kernel_rfl) ?_
 refine dP (Y.move rfl) rfl rfl ?_
 refine dP (Y.fieldAddr fa_48_3 rfl) rfl rfl ?_
 refine dV (Y.load fl_3 rfl m1 rfl) rfl rfl ?_
 refine dP (Y.move rfl) rfl rfl ?_
 refine dP (Y.fieldAddr fa_48_3 rfl) rfl rfl ?_
 refine dV (Y.load fl_3 rfl m1 rfl) rfl rfl ?_
 refine dP (Y.nilCheck rfl) rfl rfl ?_
 refine dP (Y.fieldAddr fa_78_1 rfl) rfl rfl ?_
 refine dP (Y.ixArr Try.underlying25 Try.sizeOf24 rfl rfl hp.1 (by omega)) rfl rfl ?_
 refine dV (Y.loadAN wd_24 rfl m3 (page_at B2 r.page hp)) rfl rfl ?_
 refine dP (Y.fieldAddr fa_48_4 rfl) rfl rfl ?_
 refine dV (Y.load fl_3 rfl m1 rfl) rfl rfl ?_
 refine dP (Y.fieldAddr fa_48_6 rfl) rfl rfl ?_
 refine dV (Y.load fl_3 rfl m1 rfl) rfl rfl ?_
 refine dP (Y.move rfl) rfl rfl ?_
 refine WDm.quiet (QS.call Try.call47 rfl (fun _ w s => w_setOk (B2.pg.get r.page) r.cell r.new (h.length + 1 : Nat) w (by rw [hpg]; exact P3.ok_get hr1.pok _) (by simp [setArgs, wi]; omega))) rfl rfl rfl ?_
 refine dP (Y.move rfl) rfl rfl ?_
 refine dP (Y.extract rfl rfl) rfl rfl ?_
 refine dP (Y.extract rfl rfl) rfl rfl ?_
 refine dP (Y.nilCheck rfl) rfl rfl ?_
 refine dP (Y.fieldAddr fa_78_1 rfl) rfl rfl ?_
 refine dP (Y.ixArr Try.underlying25 Try.sizeOf24 rfl rfl (by omega) (by omega)) rfl rfl ?_
 refine WDm.spec (WS.free rfl (E.storeP Try.sizeOf24 rfl rfl rfl rfl rfl u3 (by rw [cells_len]; omega) (page_put B2 r.page _ hp))) (fun _ => sub_refl _) (fun _ => ?_)
 refine WDm.nil (WQ.and ?_)
 refine WQ.next ?_
 refine WC.seq ?_
 refine sR ?_
 refine pP (Y.fieldAddr fa_48_0 rfl) rfl ?_
 refine pV (Y.load fl_3 rfl m1 rfl) rfl ?_
 refine nN ?_
 refine WC.block ?_
 refine sR ?_
 refine pP (Y.eql rfl rfl) rfl ?_
 refine pA rfl rfl ?_
 refine nN ?_
 refine WC.isF rfl (by simp [hk]) ?_
 refine sR ?_
 refine pP (Y.eql rfl rfl) rfl ?_
 refine pA rfl rfl ?_
 refine nN ?_
 refine WC.isF rfl (by simp [hk]) ?_
 refine sR ?_
 refine pP (Y.eql rfl rfl) rfl ?_
 refine pA rfl rfl ?_
 refine nN ?_
 refine WC.isT rfl (by simp [hk]) ?_
 obtain ⟨n0, us, hux⟩ := back_up hr hk
 rw [← hup] at hux
 have hul1 : 1 ≤ x.up.length := by rw [hux]; simp
 refine WC.know (p := x.up.length ≤ x.c) (fun a w s => own_le (bk_row hl1 s.fact.1)) (fun hcap => ?_)
 refine WC.draw [(0, .q false), (1, .q false), (2, .q false), (3, .q false), (4, .q false), (5, .q true), (6, .q false), (7, .q false), (8, .q false), (9, .q true), (10, .q false), (11, .q false), (12, .q false), (13, .q false), (14, .q false), (15, .s true), (16, .q false), (17, .q false), (18, .s true)] mixed (by kernel_rfl) ?_
 refine dP (Y.move rfl) rfl rfl ?_
 refine dP (Y.move rfl) rfl rfl ?_
 refine dP (Y.move rfl) rfl rfl ?_
 refine dP (Y.nilCheck rfl) rfl rfl ?_
 refine dP (Y.fieldAddr fa_92_2 rfl) rfl rfl ?_
 refine dV (Y.load fl_46 rfl m2 rfl) rfl rfl ?_
 refine dP (Y.move rfl) rfl rfl ?_
 refine dP (Y.nilCheck rfl) rfl rfl ?_
 refine dP (Y.fieldAddr fa_92_2 rfl) rfl rfl ?_
 refine dV (Y.load fl_46 rfl m2 rfl) rfl rfl ?_
 refine dP (Y.len Try.underlying46 rfl) rfl rfl ?_
 refine dP (Y.sub rfl rfl (i64_sub1 hul1 (by omega))) rfl rfl ?_
 refine dP (Y.slToN (x.up.length - 1) rfl Try.underlying46 Try.sizeOf3 rfl rfl (by omega)) rfl rfl ?_
 refine dP (Y.nilCheck rfl) rfl rfl ?_
 refine dP (Y.fieldAddr fa_92_0 rfl) rfl rfl ?_
 refine WDm.spec (WS.free rfl (E.store Try.sizeOf3 rfl rfl rfl rfl rfl u2 rfl rfl)) (fun _ => sub_refl _) (fun _ => ?_)
 refine dP (Y.nilCheck rfl) rfl rfl ?_
 refine dP (Y.fieldAddr fa_92_2 rfl) rfl rfl ?_
 refine WDm.spec (WS.free rfl (E.storeP (cs' := (x.back (h.length + 1)).cells) Try.sizeOf46 rfl rfl rfl rfl rfl u2 (by show 2 + 1 ≤ 3; omega) (by simp [put, TxE.cells, TxE.back]))) (fun _ => sub_refl _) (fun _ => ?_)
 refine WDm.nil (WQ.and ?_)
 refine WQ.blockEnd ?_
 refine WQ.next ?_
 have hl3 := look_next (B2 := B2) (r := r) (x := x) (y := (x.back (h.length + 1))) (pg := (B2.pg.set r.page ((B2.pg.get r.page).put r.cell r.new (h.length + 1 : Nat)))) hl1 rfl
 have hU := ups_next (pg := (B2.pg.set r.page ((B2.pg.get r.page).put r.cell r.new (h.length + 1 : Nat)))) hB2 hl1 (y := (x.back (h.length + 1))) (by omega) e2l rfl hk.symm rfl (by simp [TxE.back, upB, hk, hup])
 refine WC.le (SF.le_trans hV1 (SF.le_trans (SF.sep_mono (row_back _ x (h.length + 1)) (SF.le_refl _)) (hV2 (x.back (h.length + 1)) (B2.pg.set r.page ((B2.pg.get r.page).put r.cell r.new (h.length + 1 : Nat))) rfl))) ?_
 refine WC.region ?_
 refine pM rfl rfl ?_
 refine pP (Y.fieldAddr fa_48_1 rfl) rfl ?_
 refine pV (Y.load fl_3 rfl m1 rfl) rfl ?_
 refine WL.eff (E.leave B2 (B2.nx r.txn (x.back (h.length + 1)) (B2.pg.set r.page ((B2.pg.get r.page).put r.cell r.new (h.length + 1 : Nat)))) x (x.back (h.length + 1)) [_, _] rfl hK rfl hl3 hU hB2.vals hB2.borns hB2.keys hB2.lt rfl rfl rfl rfl) rfl (fun _ => ?_)
 refine WL.nil ?_
 refine WQ.over Try.results39 RVs.nil (fun a w s => ?_)
 · refine ⟨⟨(Bk.left (B2.nx r.txn (x.back (h.length + 1)) (B2.pg.set r.page ((B2.pg.get r.page).put r.cell r.new (h.length + 1 : Nat)))) r.txn (x.back (h.length + 1))), ?_, ?_, ?_⟩, rfl, s.wp.sub (rest_hp (Hx := [_, _]) (Hsub.refl _))⟩
   · exact BOk.next hB2 hl1 (y := (x.back (h.length + 1))) hl2 ((by rw [pages_turn ht, hpg]; rfl)) rfl rfl (hk.symm) rfl (by simp [TxE.back, upB, hk, hup]) (own_left hB2.keys hB2.ow (by show B2.l = _; rw [hl2, List.reverse_cons]) (by simp [TxE.back, upB, hk, hup]) (by omega) (by omega)) (filter_pair hB2.borns) (filter_pair hB2.keys) (fun e he => hB2.lt e (List.mem_filter.1 he).1)
   · exact ebk
   · exact keep_put hOf rfl rfl rfl

theorem w_put4 (u : World) (B : Bk) (Hl : Hp) (G : SF) (h : List R) (r : R) (w : World) (hw : Wp u (B.hp ++ Hl) ((SF.bk u.heap.size B).sep G) w) (hB : BOk B h) (hr : Right (r :: h)) (hk : r.kind = 4) : Calls Try.prog 39 [B.ptr, r.val].toArray w fun e w' => ∃ i : {B' : Bk // BOk B' (r :: h) ∧ B'.bk = B.bk ∧ Keeps B B'}, e = .returned (packed []) ∧ Wp u (i.1.hp ++ Hl) ((SF.bk u.heap.size i.1).sep G) w' := by
 obtain ⟨hr1, hr2, hr3⟩ := hr.parts
 have hbd := rec_bounds hr2
 have hBl : B.l.length = h.length := by rw [hB.l]; simp
 have ht : r.turns = false := by simp [R.turns, hk]
 obtain ⟨i3, hi3, hz30, hz31, hz32⟩ := info_parts rec_info
 obtain ⟨i0, hi0, hz0, hz1, hz2⟩ := info_parts int_info
 refine enterW Try.func39 rfl Try.ntmps39 rfl hw ?_
 refine sR ?_
 refine WL.eff (E.box rfl rfl rfl) rfl (fun b1 => ?_)
 refine nN ?_
 refine WC.seq ?_
 refine WC.le (bk_rl _ _ _) ?_
 refine WC.draw [(0, .q false), (1, .q false), (2, .q false), (3, .q false), (4, .q true), (5, .q true), (6, .s false), (7, .s true), (8, .q false), (9, .q false), (10, .s true)] mixed (by kernel_rfl) ?_
 refine dP (Y.move rfl) rfl rfl ?_
 refine dP (Y.move rfl) rfl rfl ?_
 refine dP (Y.nilCheck rfl) rfl rfl ?_
 refine dP (Y.fieldAddr fa_78_0 rfl) rfl rfl ?_
 refine dV (Y.load fl_26 rfl m1 rfl) rfl rfl ?_
 refine dV (Y.loadA wd_48 rfl m0 rfl) rfl rfl ?_
 refine WDm.spec (WS.free rfl (E.buildSlice (bs_26_1 _ _ _ _ _ _ _ _) rfl rfl)) (fun _ => ext_new rfl) (fun b2 => ?_)
 refine WDm.spec (WS.free rfl (E.appendG Try.underlying26 hi3 hz30 hz31 hz32 rfl (by decide) rfl rfl rfl m0 rfl rfl (by unfold maxLen; omega) (by omega) rfl)) (fun _ => sub_push rfl) (fun i => ?_)
 refine dP (Y.nilCheck rfl) rfl rfl ?_
 refine dP (Y.fieldAddr fa_78_0 rfl) rfl rfl ?_
 refine WDm.spec (WS.free rfl (E.storeP Try.sizeOf26 rfl rfl rfl rfl rfl u2 (by rw [cells_len]; omega) (more_cells B i.1 i.2 r))) (fun _ => sub_refl _) (fun _ => ?_)
 refine WDm.nil (WQ.and ?_)
 refine WQ.next ?_
 refine WC.seq ?_
 obtain ⟨A1, c1⟩ := i
 dsimp only
 refine WC.le (bk_more _ B A1 c1 r G) ?_
 have en : (B.more A1 c1 r).l.length = h.length + 1 := by simp [Bk.more, hBl]
 refine WC.region ?_
 refine pM rfl rfl ?_
 refine pP (Y.nilCheck rfl) rfl ?_
 refine pP (Y.fieldAddr fa_78_0 rfl) rfl ?_
 refine pV (Y.load (v := .slice A1 (h.length + 1) c1) fl_26 rfl m2 (congrArg (fun k => some (Value.slice A1 k c1)) en)) rfl ?_
 refine pP (Y.len Try.underlying26 rfl) rfl ?_
 refine pA rfl rfl ?_
 refine nN ?_
 refine sR ?_
 refine pM rfl rfl ?_
 refine pP (Y.fieldAddr fa_48_1 rfl) rfl ?_
 refine pV (Y.load fl_3 rfl m1 rfl) rfl ?_
 refine WL.eff (E.of [_, _] rfl rfl rfl rfl rfl) rfl (fun i => ?_)
 obtain ⟨⟨B2, x, K⟩, hOf, hK⟩ := i
 obtain ⟨hB2, hst, hla, hup⟩ := of_more hB hOf
 obtain ⟨el, _, _, epg, ebk, _⟩ := of_l hOf
 dsimp only at hOf hK hB2 hst hla hup el epg ebk ⊢
 have e0 : B.ptr = B2.ptr := by unfold Bk.ptr; rw [ebk]; rfl
 rw [e0]
 have hl1 := hOf.1
 dsimp only at hl1
 have hl2 : B2.l = h.reverse ++ [r] := by rw [el, ← hB.l]; rfl
 have e2l : B2.l.length = h.length + 1 := by rw [hl2]; simp
 have hpg : B2.pg = pagesOf h := hB2.pg
 have hul := upB_len h r.txn
 rw [← hup] at hul
 obtain ⟨V, hV1, hV2⟩ := bk_foc u.heap.size G hl1
 refine pA rfl rfl ?_
 refine nN ?_
 refine sR ?_
 refine pM rfl rfl ?_
 refine pM rfl rfl ?_
 refine pP (Y.nilCheck rfl) rfl ?_
 refine pP (Y.fieldAddr fa_92_1 rfl) rfl ?_
 refine WL.eff (E.store Try.sizeOf3 rfl rfl rfl rfl rfl u2 rfl rfl) rfl (fun _ => ?_)
 refine nN ?_
 refine WC.seq ?_
 refine sR ?_
 refine pV (Y.loadA wd_48 rfl m1 rfl) rfl ?_
 refine WL.eff (E.call Try.call14 rfl (fun _ w s => w_turns r w) rfl) rfl (fun _ => ?_)
 refine nN ?_
 refine WC.isF rfl (ht) ?_
 refine WC.skip' ?_
 refine WQ.next ?_
 refine WC.seq ?_
 refine sR ?_
 refine pP (Y.fieldAddr fa_48_0 rfl) rfl ?_
 refine pV (Y.load fl_3 rfl m1 rfl) rfl ?_
 refine nN ?_
 refine WC.block ?_
 refine sR ?_
 refine pP (Y.eql rfl rfl) rfl ?_
 refine pA rfl rfl ?_
 refine nN ?_
 refine WC.isF rfl (by simp [hk]) ?_
 refine sR ?_
 refine pP (Y.eql rfl rfl) rfl ?_
 refine pA rfl rfl ?_
 refine nN ?_
 refine WC.isF rfl (by simp [hk]) ?_
 refine sR ?_
 refine pP (Y.eql rfl rfl) rfl ?_
 refine pA rfl rfl ?_
 refine nN ?_
 refine WC.isF rfl (by simp [hk]) ?_
 refine sR ?_
 refine pP (Y.eql rfl rfl) rfl ?_
 refine pA rfl rfl ?_
 refine nN ?_
 refine WC.isT rfl (by simp [hk]) ?_
 refine WC.region ?_
 refine pM rfl rfl ?_
 refine pM rfl rfl ?_
 refine pP (Y.nilCheck rfl) rfl ?_
 refine pP (Y.fieldAddr fa_92_0 rfl) rfl ?_
 refine WL.eff (E.store Try.sizeOf3 rfl rfl rfl rfl rfl u2 rfl rfl) rfl (fun _ => ?_)
 refine pP (Y.nilCheck rfl) rfl ?_
 refine pP (Y.fieldAddr fa_92_2 rfl) rfl ?_
 refine WL.eff (E.store Try.sizeOf46 rfl rfl rfl rfl rfl u2 rfl rfl) rfl (fun _ => ?_)
 refine WL.nil ?_
 refine WQ.blockEnd ?_
 refine WQ.next ?_
 have hl3 := look_next (B2 := B2) (r := r) (x := x) (y := (x.end (h.length + 1))) (pg := B2.pg) hl1 rfl
 have hU := ups_next (pg := B2.pg) hB2 hl1 (y := (x.end (h.length + 1))) (by omega) e2l rfl hk.symm rfl (by simp [TxE.end, upB, hk])
 refine WC.le (SF.le_trans hV1 (SF.le_trans (SF.sep_mono (row_end _ x (h.length + 1)) (SF.le_refl _)) (hV2 (x.end (h.length + 1)) B2.pg rfl))) ?_
 refine WC.region ?_
 refine pM rfl rfl ?_
 refine pP (Y.fieldAddr fa_48_1 rfl) rfl ?_
 refine pV (Y.load fl_3 rfl m1 rfl) rfl ?_
 refine WL.eff (E.leave B2 (B2.nx r.txn (x.end (h.length + 1)) B2.pg) x (x.end (h.length + 1)) [_, _] rfl hK rfl hl3 hU hB2.vals hB2.borns hB2.keys hB2.lt rfl rfl rfl rfl) rfl (fun _ => ?_)
 refine WL.nil ?_
 refine WQ.over Try.results39 RVs.nil (fun a w s => ?_)
 · refine ⟨⟨(Bk.left (B2.nx r.txn (x.end (h.length + 1)) B2.pg) r.txn (x.end (h.length + 1))), ?_, ?_, ?_⟩, rfl, s.wp.sub (rest_hp (Hx := [_, _]) (Hsub.refl _))⟩
   · exact BOk.next hB2 hl1 (y := (x.end (h.length + 1))) hl2 ((by rw [pages_stay ht]; exact hpg)) rfl rfl (hk.symm) rfl (by simp [TxE.end, upB, hk]) (own_left hB2.keys hB2.ow (by show B2.l = _; rw [hl2, List.reverse_cons]) (by simp [TxE.end, upB, hk]) (by omega) (by omega)) (filter_pair hB2.borns) (filter_pair hB2.keys) (fun e he => hB2.lt e (List.mem_filter.1 he).1)
   · exact ebk
   · exact keep_put hOf rfl rfl rfl

theorem w_put (u : World) (B : Bk) (Hl : Hp) (G : SF) (h : List R) (r : R) (w : World) (hw : Wp u (B.hp ++ Hl) ((SF.bk u.heap.size B).sep G) w) (hB : BOk B h) (hr : Right (r :: h)) : Calls Try.prog 39 [B.ptr, r.val].toArray w fun e w' => ∃ i : {B' : Bk // BOk B' (r :: h) ∧ B'.bk = B.bk ∧ Keeps B B'}, e = .returned (packed []) ∧ Wp u (i.1.hp ++ Hl) ((SF.bk u.heap.size i.1).sep G) w' := by
  have hb := rec_bounds hr.parts.2.1
  have hk : r.kind = 1 ∨ r.kind = 2 ∨ r.kind = 3 ∨ r.kind = 4 := by omega
  rcases hk with hk | hk | hk | hk
  · exact w_put1 u B Hl G h r w hw hB hr hk
  · exact w_put2 u B Hl G h r w hw hB hr hk
  · exact w_put3 u B Hl G h r w hw hB hr hk
  · exact w_put4 u B Hl G h r w hw hB hr hk
end Go.Proofs.Ytmfjhacgpopijaa
end
section
set_option linter.unusedVariables false
set_option linter.unusedSimpArgs false
set_option linter.unusedSectionVars false
set_option maxRecDepth 100000
namespace Go.Proofs.Ytmfjhacgpopijaa
open Go.RowKit Go.Joins
section
variable [Inhabited DSx] {Q : Exit → Act → World → Prop} {E : Env} {n : Nat} {H : Hp} {F G : SF} {u : World}
theorem E.fits {f : FuncId} {args : Array Operand} {ts : Array TypeId} {d : Nat} {T' : TypeId} {p : String} {af : Array Edge} {B : Bk} {Hl : Hp} (Hx : Hp) (h : List R) (r : R) (hf : f = 38) (hB : BOk B h) (hlen : h.length ≤ 60) (hok : recErr ((h.length : Int) + 1) r = 0)
    (hH : H = Hx ++ (B.hp ++ Hl)) (hF : F = (SF.bk u.heap.size B).sep G) (hx : evs E args.toList = some [B.ptr, r.val]) (hn : Nat.blt d n = true) :
    Eff Try.prog E n H F u ⟨some d, .call { callee := .value (.func f), args := args, argTypes := ts }, T', p, af, none⟩ (fun _ : {i : Bk // BOk i h ∧ i.bk = B.bk} => (d, .bool (fits h r)) :: E) (fun i => Hx ++ (i.1.hp ++ Hl)) (fun i => (SF.bk u.heap.size i.1).sep G) := by
  subst hf hF
  refine Proofs.Ytmfjhacgpopijaa.E.callM (fun _ => .bool (fits h r)) _ _ Try.call38 hx (fun w hw => ?_) hn
  rw [hH] at hw
  refine (w_fits u B (Hx ++ Hl) G h r w (hw.sub (hp_move B Hx Hl)) hB hlen hok).mono fun e w' ⟨i, he, hw'⟩ => ⟨i, he, hw'.sub ?_⟩
  refine Hsub.of_perm ?_
  rw [← List.append_assoc, ← List.append_assoc]
  exact List.perm_append_comm.append_right Hl
theorem E.put {f : FuncId} {args : Array Operand} {ts : Array TypeId} {d : Nat} {T' : TypeId} {p : String} {af : Array Edge} {B : Bk} {Hl : Hp} (Hx : Hp) (h : List R) (r : R) (hf : f = 39) (hB : BOk B h) (hr : Right (r :: h))
    (hH : H = Hx ++ (B.hp ++ Hl)) (hF : F = (SF.bk u.heap.size B).sep G) (hx : evs E args.toList = some [B.ptr, r.val]) (hn : Nat.blt d n = true) :
    Eff Try.prog E n H F u ⟨some d, .call { callee := .value (.func f), args := args, argTypes := ts }, T', p, af, none⟩ (fun _ : {i : Bk // BOk i (r :: h) ∧ i.bk = B.bk ∧ Keeps B i} => (d, packed []) :: E) (fun i => Hx ++ (i.1.hp ++ Hl)) (fun i => (SF.bk u.heap.size i.1).sep G) := by
  subst hf hF
  refine Proofs.Ytmfjhacgpopijaa.E.callM (fun _ => packed []) _ _ Try.call39 hx (fun w hw => ?_) hn
  rw [hH] at hw
  refine (w_put u B (Hx ++ Hl) G h r w (hw.sub (hp_move B Hx Hl)) hB hr).mono fun e w' ⟨i, he, hw'⟩ => ⟨i, he, hw'.sub ?_⟩
  refine Hsub.of_perm ?_
  rw [← List.append_assoc, ← List.append_assoc]
  exact List.perm_append_comm.append_right Hl
/-- Put, while the Txn is in focus. -/
theorem E.putF {f : FuncId} {args : Array Operand} {ts : Array TypeId} {d : Nat} {T' : TypeId} {p : String} {af : Array Edge} {B : Bk} {t : Int} {x : TxE} {K Hl : Hp} (Hx : Hp) (h : List R) (r : R) (hf : f = 39) (hB : BOk B h) (hr : Right (r :: h)) (hK : Foc B t x K) (hl : look1 B.tx t = some x)
    (hH : H = Hx ++ (x.blkc :: B.own1 :: (K ++ Hl))) (hF : F = (SF.bk u.heap.size B).sep G) (hx : evs E args.toList = some [B.ptr, r.val]) (hn : Nat.blt d n = true) :
    Eff Try.prog E n H F u ⟨some d, .call { callee := .value (.func f), args := args, argTypes := ts }, T', p, af, none⟩ (fun _ : {i : Bk // BOk i (r :: h) ∧ i.bk = B.bk ∧ Keeps B i} => (d, packed []) :: E) (fun i => Hx ++ (i.1.hp ++ Hl)) (fun i => (SF.bk u.heap.size i.1).sep G) := by
  subst hf hF
  refine Proofs.Ytmfjhacgpopijaa.E.callM (fun _ => packed []) _ _ Try.call39 hx (fun w hw => ?_) hn
  rw [hH] at hw
  refine (w_put u B (Hx ++ Hl) G h r w (hw.sub (foc_out hK (set1_same hl).symm Hx Hl)) hB hr).mono fun e w' ⟨i, he, hw'⟩ => ⟨i, he, hw'.sub ?_⟩
  refine Hsub.of_perm ?_
  rw [← List.append_assoc, ← List.append_assoc]
  exact List.perm_append_comm.append_right Hl
end
def bk0 (b m1 m2 : Nat) : Bk := ⟨b, m1, m2, none, 0, [], P3.zero, [], 0, [], 0⟩
theorem bk_new (base b m1 m2 : Nat) (G : SF) : ((SF.map base m2 [] 0).sep ((SF.map base m1 [] 0).sep G)).le ((SF.bk base (bk0 b m1 m2)).sep G) := by
  have h0 : G.le (((SF.own base 48 8 (.slice none 0 0) 0 []).sep SF.top).sep G) := fun w h =>
    ⟨⟨⟨own_nil _ _ _ _, trivial, fun b hb hk => hk⟩, h, fun b hb => by rcases hb with hb | hb; (· cases hb); exact hb.elim⟩, fun b hb => by
      rcases hb with (hb | hb) | hb
      · cases hb
      · exact hb.elim
      · exact hb⟩
  refine SF.le_trans (SF.sep_rot _ _ _) ?_
  refine SF.le_trans (SF.sep_mono (SF.le_refl _) (SF.sep_mono (SF.le_refl _) h0)) ?_
  exact SF.le_trans (SF.sep_mono (SF.le_refl _) (SF.sep_assoc' _ _ _)) (SF.sep_assoc' _ _ _)
theorem bok0 (b m1 m2 : Nat) : BOk (bk0 b m1 m2) [] := ⟨rfl, rfl, fun t x h => (by cases h), fun t _ => ⟨rfl, rfl, rfl⟩, fun p c => rfl, List.Pairwise.nil, List.Pairwise.nil, fun e h => (by cases h)⟩
end Go.Proofs.Ytmfjhacgpopijaa
end
section
set_option maxRecDepth 100000
set_option linter.unusedVariables false
set_option linter.unusedSimpArgs false
set_option linter.unusedSectionVars false
set_option maxHeartbeats 4000000
namespace Go.Proofs.Ytmfjhacgpopijaa
open Go.RowKit Go.Joins
theorem ret_log {l : List R} {x : Int} {p : Value} (e : logErr l = x) : Ending.returned (packed [p, .int .i64 x]) = .returned (.tuple #[p, .int .i64 (logErr l)]) := by rw [e]; rfl

theorem len_takeI2 {l : List R} {k : Nat} (hk : k < l.length) : (k : Int) = (((l.take k).reverse).length : Int) := by simp; omega

theorem w_read (u : World) (Hl : Hp) (G : SF) (l : List R) (A : Option Addr) (b o c : Nat) (w : World) (hw : Wp u Hl G w) (hr : ∀ w, Wp u Hl G w → RL w A b o l) : Calls Try.prog 28 [.slice A l.length c].toArray w fun e w' => ∃ i : {B : Bk // logErr l = 0 → BOk B l.reverse}, e = .returned (.tuple #[i.1.ptr, .int .i64 (logErr l)]) ∧ Wp u (i.1.hp ++ Hl) ((SF.bk u.heap.size i.1).sep G) w' := by
 refine enterW Try.func28 rfl Try.ntmps28 rfl hw ?_
 refine sR ?_
 refine pA rfl rfl ?_
 refine pA rfl rfl ?_
 refine nN ?_
 refine sR ?_
 refine WL.eff (E.makeMap rfl) rfl (fun m1 => ?_)
 refine WL.eff (E.makeMap rfl) rfl (fun m2 => ?_)
 refine pP (Y.build rfl (bf_78_2_3 _ _)) rfl ?_
 refine WL.eff (E.box rfl rfl rfl) rfl (fun b1 => ?_)
 refine pA rfl rfl ?_
 refine nN ?_
 refine WC.seq ?_
 refine WC.seq ?_
 refine WC.le (bk_new u.heap.size b1 m1 m2 G) ?_
 refine WC.region ?_
 refine pM rfl rfl ?_
 refine pP (Y.len Try.underlying26 rfl) rfl ?_
 refine pP (Y.gtr rfl rfl) rfl ?_
 refine nN ?_
 refine WC.cond rfl (fun h14 => ?_) (fun h14 => ?_)
 refine sR ?_
 refine pM rfl rfl ?_
 refine pA rfl rfl ?_
 refine pA rfl rfl ?_
 refine nN ?_
 refine WC.ret ?_
 refine WQ.thenRet ?_
 refine WQ.done Try.results28 (RVs.cons (RV.tmp rfl) (RVs.cons (RV.tmp rfl) RVs.nil)) (fun a w s => ?_)
 · have e : logErr l = 2 := by unfold logErr; rw [if_neg (by simp at h14; omega)]
   refine ⟨⟨bk0 b1 m1 m2, fun h0 => by rw [e] at h0; cases h0⟩, ret_log e, s.wp⟩
 refine WC.skip' ?_
 refine WQ.next ?_
 refine WC.seq ?_
 refine sR ?_
 refine pM rfl rfl ?_
 refine pP (Y.len Try.underlying26 rfl) rfl ?_
 refine pM rfl rfl ?_
 refine nN ?_
 refine WC.block ?_
 have hl : l.length ≤ 60 := by simp at h14; omega
 refine WC.loop (ι := Nat × Bk) (fun k => [(0, .slice A l.length c), (4, k.2.ptr), (16, .slice A l.length c), (17, .int .i64 l.length), (18, .int .i64 k.1)]) (fun k => k.2.hp ++ Hl) (fun k => (SF.bk u.heap.size k.2).sep G) (fun k => k.1 ≤ l.length ∧ Right (l.take k.1).reverse ∧ BOk k.2 (l.take k.1).reverse) (fun k => l.length - k.1) (0, bk0 b1 m1 m2) ⟨Nat.zero_le _, rfl, bok0 _ _ _⟩ (fun a w s => s.weak (by repeat (first | exact sub_nil _ | refine sub_cons rfl ?_))) (fun k hk => ?_)
 obtain ⟨k, B⟩ := k
 obtain ⟨hk, hI, hB⟩ := hk
 dsimp only at hk hI hB ⊢
 refine sR ?_
 refine pP (Y.lss rfl rfl) rfl ?_
 refine nN ?_
 refine WC.seq ?_
 refine WC.cond rfl (fun h19 => ?_) (fun h19 => ?_)
 refine WC.skip' ?_
 refine WQ.next ?_
 refine WC.seq ?_
 refine WC.block ?_
 refine WC.seq ?_
 have h19 := dec_lt h19
 simp only [if_true] at h19
 obtain ⟨r, hk'⟩ := get_of_lt h19
 refine WC.know (p := A = some ⟨b, o, none⟩) (fun a w s => (hr _ ((s.wp.sub (Hsub.of_sub (List.sublist_append_right _ _))).le (SF.sep_snd _ _))).addr hk') (fun hA => ?_)
 refine WC.region ?_
 refine pM rfl rfl ?_
 refine pP (Y.ixSlA Try.underlying26 Try.sizeOf48 rfl rfl hA (nat0 _) (get_ltI hk')) rfl ?_
 refine pV (Y.loadAc wd_48 rfl (r := r.cl) rfl (fun a w s j hj => ((hr _ ((s.wp.sub (Hsub.of_sub (List.sublist_append_right _ _))).le (SF.sep_snd _ _)))).full hk' j hj)) rfl ?_
 refine WL.eff (E.alloc Try.zeroValue48 rfl rfl) rfl (fun b2 => ?_)
 refine pA rfl rfl ?_
 refine WL.eff (E.store Try.sizeOf48 rfl rfl rfl rfl rfl u0 rfl rfl) rfl (fun _ => ?_)
 refine nN ?_
 refine WC.seq ?_
 refine sR ?_
 refine pM rfl rfl ?_
 refine pP (Y.add rfl rfl (i64_in (by omega) (by omega))) rfl ?_
 refine pV (Y.loadA wd_48 rfl m0 rfl) rfl ?_
 refine WL.eff (E.call Try.call37 rfl (fun _ w s => w_check _ _ w) rfl) rfl (fun _ => ?_)
 refine pA rfl rfl ?_
 refine nN ?_
 refine sR ?_
 refine pM rfl rfl ?_
 refine pP (Y.neq rfl rfl) rfl ?_
 refine nN ?_
 refine WC.cond rfl (fun h28 => ?_) (fun h28 => ?_)
 refine sR ?_
 refine pM rfl rfl ?_
 refine pM rfl rfl ?_
 refine pA rfl rfl ?_
 refine pA rfl rfl ?_
 refine nN ?_
 refine WC.ret ?_
 refine WQ.thenRet ?_
 refine WQ.blockRet ?_
 refine WQ.thenRet ?_
 refine WQ.thenRet ?_
 refine WQ.blockRet ?_
 refine WQ.thenRet ?_
 refine WQ.done Try.results28 (RVs.cons (RV.tmp rfl) (RVs.cons (RV.tmp rfl) RVs.nil)) (fun a w s => ?_)
 · have e : logErr l = recErr ((k : Int) + 1) r := by unfold logErr; rw [if_pos hl]; exact errH_bad hk' hI (by simpa using h28)
   refine ⟨⟨B, fun h0 => by rw [e] at h0; exact absurd h0 (by simpa using h28)⟩, ret_log e, s.wp.sub (Hsub.of_sub (List.sublist_cons_self _ _))⟩
 refine WC.skip' ?_
 refine WQ.next ?_
 refine WC.seq ?_
 refine WC.seq ?_
 have hlt : (l.take k).reverse.length ≤ 60 := by simp; omega
 have hok : recErr (((l.take k).reverse.length : Int) + 1) r = 0 := by rw [← len_takeI2 h19]; simpa using h28
 refine WC.region ?_
 refine pM rfl rfl ?_
 refine pV (Y.loadA wd_48 rfl m0 rfl) rfl ?_
 refine WL.eff (E.fits [_] (l.take k).reverse r rfl hB hlt hok rfl rfl rfl rfl) rfl (fun i => ?_)
 obtain ⟨B1, hB1, eb1⟩ := i
 dsimp only
 have e0 : B.ptr = B1.ptr := by unfold Bk.ptr; rw [eb1]
 rw [e0]
 refine pP (Y.not rfl) rfl ?_
 refine nN ?_
 refine WC.cond rfl (fun h34 => ?_) (fun h34 => ?_)
 refine sR ?_
 refine pM rfl rfl ?_
 refine pA rfl rfl ?_
 refine pA rfl rfl ?_
 refine nN ?_
 refine WC.ret ?_
 refine WQ.thenRet ?_
 refine WQ.blockRet ?_
 refine WQ.thenRet ?_
 refine WQ.thenRet ?_
 refine WQ.blockRet ?_
 refine WQ.thenRet ?_
 refine WQ.done Try.results28 (RVs.cons (RV.tmp rfl) (RVs.cons (RV.tmp rfl) RVs.nil)) (fun a w s => ?_)
 · have e : logErr l = 1 := by unfold logErr; rw [if_pos hl]; exact errH_form hk' hI (by simpa using h28) (by rw [← hI.fits (by rw [← len_takeI2 h19]; simpa using h28)]; simpa using h34)
   refine ⟨⟨B1, fun h0 => by rw [e] at h0; cases h0⟩, ret_log e, s.wp.sub (Hsub.of_sub (List.sublist_cons_self _ _))⟩
 refine WC.skip' ?_
 refine WQ.next ?_
 have hff : follows (l.take k).reverse r = true := by rw [← hI.fits hok]; simpa using h34
 have hR : Right (l.take (k + 1)).reverse := right_step hk' hI (by simpa using h28) hff
 refine WC.region ?_
 refine pM rfl rfl ?_
 refine pV (Y.loadA wd_48 rfl m0 rfl) rfl ?_
 refine WL.eff (E.put [_] (l.take k).reverse r rfl hB1 (by rw [← takeS hk']; exact hR) rfl rfl rfl rfl) rfl (fun i => ?_)
 obtain ⟨B2, hB2, eb2, _⟩ := i
 dsimp only
 have e02 : B1.ptr = B2.ptr := by unfold Bk.ptr; rw [eb2]
 rw [e02]
 refine WL.nil ?_
 refine WQ.blockEnd ?_
 refine WQ.next ?_
 refine WC.region ?_
 refine pP (Y.add rfl rfl (i64_in (by omega) (by omega))) rfl ?_
 refine pM rfl rfl ?_
 refine WL.nil ?_
 · exact fun a w s => ⟨(k + 1, B2), ⟨by dsimp only; omega, hR, by rw [takeS hk']; exact hB2⟩, by dsimp only; omega, (s.sub (Hsub.of_sub (List.sublist_cons_self _ _))).weak (by repeat (first | exact sub_nil _ | refine sub_cons rfl ?_))⟩
 refine WC.exit ?_
 refine WQ.thenExit ?_
 refine WQ.thenExit ?_
 refine WQ.blockExit ?_
 refine WQ.next ?_
 refine sR ?_
 refine pM rfl rfl ?_
 refine pA rfl rfl ?_
 refine pA rfl rfl ?_
 refine nN ?_
 refine WC.ret ?_
 refine WQ.done Try.results28 (RVs.cons (RV.tmp rfl) (RVs.cons (RV.tmp rfl) RVs.nil)) (fun a w s => ?_)
 · have h19 := dec_lt h19
   simp only [Bool.false_eq_true, if_false] at h19
   rw [take_len h19] at hI hB
   have e : logErr l = 0 := by unfold logErr; rw [if_pos hl]; exact hI
   exact ⟨⟨B, fun _ => hB⟩, ret_log e, s.wp⟩
end Go.Proofs.Ytmfjhacgpopijaa
end
section
set_option maxRecDepth 100000
set_option linter.unusedVariables false
set_option linter.unusedSimpArgs false
set_option linter.unusedSectionVars false
set_option maxHeartbeats 4000000
namespace Go.Proofs.Ytmfjhacgpopijaa
open Go.RowKit Go.Joins
def logPages (l : List R) : P3 := if logErr l = 0 then pagesOf l.reverse else P3.zero
def logState (l : List R) (t : Int) : Int × Int × Int := if logErr l = 0 then (if wi t 1 9 then ((stt l.reverse t : Int), (lastN l.reverse t : Int), 0) else (0, 0, 3)) else (0, 0, logErr l)
theorem log_right {l : List R} (h : logErr l = 0) : l.length ≤ 60 ∧ Right l.reverse := by
  unfold logErr at h
  split at h
  · exact ⟨by assumption, h⟩
  · omega
section
variable [Inhabited DSx] {Q : Exit → Act → World → Prop} {E : Env} {n : Nat} {H : Hp} {F G : SF} {u : World}
theorem E.read {f : FuncId} {args : Array Operand} {ts : Array TypeId} {d : Nat} {T' : TypeId} {p : String} {af : Array Edge} {Hl : Hp} (Hx : Hp) (l : List R) (A : Option Addr) (b o c : Nat) (hf : f = 28) (hr : ∀ w, Wp u H F w → RL w A b o l) (hH : H = Hx ++ Hl)
    (hx : evs E args.toList = some [.slice A l.length c]) (hn : Nat.blt d n = true) :
    Eff Try.prog E n H F u ⟨some d, .call { callee := .value (.func f), args := args, argTypes := ts }, T', p, af, none⟩ (fun i : {B : Bk // logErr l = 0 → BOk B l.reverse} => (d, .tuple #[i.1.ptr, .int .i64 (logErr l)]) :: E) (fun i => Hx ++ (i.1.hp ++ Hl)) (fun i => (SF.bk u.heap.size i.1).sep F) := by
  subst hf
  refine Proofs.Ytmfjhacgpopijaa.E.callM _ _ _ Try.call28 hx (fun w hw => ?_) hn
  refine (w_read u H F l A b o c w hw hr).mono fun e w' ⟨i, he, hw'⟩ => ⟨i, he, hw'.sub ?_⟩
  rw [hH]
  refine Hsub.of_perm ?_
  rw [← List.append_assoc, ← List.append_assoc]
  exact List.perm_append_comm.append_right Hl
end

end Go.Proofs.Ytmfjhacgpopijaa
end
section
set_option linter.unusedVariables false
set_option linter.unusedSimpArgs false
set_option linter.unusedSectionVars false
set_option maxRecDepth 100000
namespace Go.Proofs.Ytmfjhacgpopijaa
open Go.RowKit Go.Joins
section
variable [Inhabited DSx] {P : Program} {Q : Exit → Act → World → Prop} {E : Env} {n : Nat} {H : Hp} {F G : SF} {w0 : World}
/-- A call that yields a value with a new block of known cells. -/
theorem E.callB {ι : Type} {f : FuncId} {args : Array Operand} {ts : Array TypeId} {d : Nat} {T' : TypeId} {p : String} {af : Array Edge} {vs : List Value} (val : ι → Value) (blk : ι → Nat × List Value × TypeId) (hf : ∀ (args : Array Value) (w : World), (callFunc f args).run P w = .ok (.enter f args) w)
    (hx : evs E args.toList = some vs) (hc : ∀ a w, St E n H F w0 a w → Calls P f vs.toArray w fun e w' => ∃ i, e = .returned (val i) ∧ Below w.heap.size w w' ∧ w.heap.size ≤ (blk i).1 ∧ w'.heap[(blk i).1]? = some (.cells (blk i).2.1.toArray (blk i).2.2)) (hn : Nat.blt d n = true) :
    Eff P E n H F w0 ⟨some d, .call { callee := .value (.func f), args := args, argTypes := ts }, T', p, af, none⟩ (fun i => (d, val i) :: E) (fun i => blk i :: H) (fun _ => F) := fun a w s Q K hK => by
  unfold Oper.wp
  rw [run_call hf s.env hx, Oper.upon_enter]
  refine (hc a w s).mono fun e w' ⟨i, he, hb, hlt, hblk⟩ => ?_
  subst he
  have g := s.grow hb
  have hfp := (F.st w w' s.fact fun b h => hb.block b (F.lt w b s.fact h)).2
  refine hK i _ _ (put_size _ _ _) (St.put ⟨g.env, ⟨fun x hx => ?_, List.pairwise_cons.2 ⟨fun y hy e => ?_, g.hp.nd⟩⟩, g.fact, fun x hx hk => ?_, g.low⟩ hn)
  · rcases List.mem_cons.1 hx with rfl | hx
    · exact ⟨hblk, Nat.le_trans s.low.size hlt⟩
    · exact g.hp.blk x hx
  · have := s.hp.lt hy
    omega
  · rcases List.mem_cons.1 hx with rfl | hx
    · have := F.lt w _ s.fact (hfp _ hk)
      omega
    · exact g.sep x hx hk
/-- A call that yields a value with facts of its own on new memory. -/
theorem E.callN {ι : Type} {f : FuncId} {args : Array Operand} {ts : Array TypeId} {d : Nat} {T' : TypeId} {p : String} {af : Array Edge} {vs : List Value} (val : ι → Value) (J : ι → SF) (hf : ∀ (args : Array Value) (w : World), (callFunc f args).run P w = .ok (.enter f args) w)
    (hx : evs E args.toList = some vs) (hc : ∀ a w, St E n H F w0 a w → Calls P f vs.toArray w fun e w' => ∃ i, e = .returned (val i) ∧ Below w.heap.size w w' ∧ (J i).p w' ∧ ∀ b, (J i).fp w' b → w.heap.size ≤ b) (hn : Nat.blt d n = true) :
    Eff P E n H F w0 ⟨some d, .call { callee := .value (.func f), args := args, argTypes := ts }, T', p, af, none⟩ (fun i => (d, val i) :: E) (fun _ => H) (fun i => (J i).sep F) := fun a w s Q K hK => by
  unfold Oper.wp
  rw [run_call hf s.env hx, Oper.upon_enter]
  refine (hc a w s).mono fun e w' ⟨i, he, hb, hj, hfj⟩ => ?_
  subst he
  have g := s.grow hb
  have hfp := (F.st w w' s.fact fun b h => hb.block b (F.lt w b s.fact h)).2
  refine hK i _ _ (put_size _ _ _) (St.put ⟨g.env, g.hp, ⟨hj, g.fact, fun b hk hf => ?_⟩, fun x hx hk => ?_, g.low⟩ hn)
  · have h1 := hfj b hk
    have h2 := F.lt w _ s.fact (hfp _ hf)
    omega
  · rcases hk with hk | hk
    · have h1 := hfj _ hk
      have h2 := s.hp.lt hx
      omega
    · exact g.sep x hx hk
theorem E.makeSlice {d : Nat} {x y : Operand} {T T' : Nat} {p : String} {af : Array Edge} {vx vy : Value} {k c : Nat} {cs : List Value} {T2 : TypeId} (hx : ev E x = some vx) (hy : ev E y = some vy)
    (hb : ∀ w, (Instr.makeSlice T vx vy).run P w = .ok (.slice (some ⟨w.heap.size, 0, none⟩) k c) (w.alloc (.cells cs.toArray T2))) (hn : Nat.blt d n = true) :
    Eff P E n H F w0 ⟨some d, .makeSlice T x y, T', p, af, none⟩ (fun b : Nat => (d, .slice (some ⟨b, 0, none⟩) k c) :: E) (fun b => (b, cs, T2) :: H) (fun _ => F) := fun a w s Q K hK => by
  have h3 : (execOp a.eval ⟨some d, .makeSlice T x y, T', p, af, none⟩).run P w = .ok (.value (.slice (some ⟨w.heap.size, 0, none⟩) k c)) (w.alloc (.cells cs.toArray T2)) := by
    show (do let v ← Instr.makeSlice T (a.eval x) (a.eval y); pure (Next.value v)).run P w = _
    rw [s.env.eval hx, s.env.eval hy, Sem.run_bind, hb w]
    rfl
  unfold Oper.wp
  rw [h3, Oper.upon_value]
  exact hK _ _ _ (put_size _ _ _) (s.new.put hn)
end
section
variable [Inhabited DSx] {E : Env} {n : Nat} {H : Hp} {F : SF} {w0 : World}
theorem ext_newN {d : Nat} {v : Value} {J : SF} (hl : look E d = none) : if false = true then sub E ((d, v) :: E) else ∀ a w, St ((d, v) :: E) n H (J.sep F) w0 a w → St E n H F w0 a w := by
  simp only [Bool.false_eq_true, if_false]
  exact fun a w s => (s.weak (sub_push hl)).le (SF.sep_snd _ _)
end
/-- A block of one's own reads as records. -/
theorem RL.ofH {E : Env} {n : Nat} {H : Hp} {F : SF} {w0 w : World} {a : Act} {g : Nat} {l : List R} {T : TypeId} (s : St E n H F w0 a w) (hm : (g, flat l, T) ∈ H) : RL w (some ⟨g, 0, none⟩) g 0 l :=
  ⟨fun _ => ⟨rfl, s.hp.lt hm⟩, fun i r hi j v hv => by
    rw [Nat.zero_add, s.hp.cell hm]
    exact flat_get hi hv⟩
theorem RL.ofC {E : Env} {n : Nat} {H : Hp} {F : SF} {w0 w : World} {a : Act} {g : Nat} {cs : List Value} (l : List R) {T : TypeId} (s : St E n H F w0 a w) (hm : (g, cs, T) ∈ H) (hc : flat l = cs) : RL w (some ⟨g, 0, none⟩) g 0 l := by
  subst hc
  exact RL.ofH s hm
end Go.Proofs.Ytmfjhacgpopijaa
end
