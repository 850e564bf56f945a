/- Lists, maps, slices: a logic for walks; the small functions of records. No condition. -/
import Derived.Below
import Derived.WalkKit
import Derived.BigQuiet
import Derived.Deep.Draws
import Derived.Deep.Cut
import Derived.Lib.Hide
import Derived.Test.YtmfjhacgpopijaaRows
import Derived.ChangeKeysEq
section
namespace Go.Proofs.Ytmfjhacgpopijaa
/-- Is n from lo to hi? -/
def wi (n lo hi : Int) : Bool := decide (lo ≤ n) && decide (n ≤ hi)
theorem wi_iff {n lo hi : Int} : wi n lo hi = true ↔ lo ≤ n ∧ n ≤ hi := by simp [wi]
theorem wi_not {n lo hi : Int} : wi n lo hi = false ↔ ¬ (lo ≤ n ∧ n ≤ hi) := by
  rw [← wi_iff]; cases wi n lo hi <;> simp
/-- A page. -/
structure Pg where
  c0 : Int
  c1 : Int
  c2 : Int
  last : Int
  deriving DecidableEq
def Pg.zero : Pg := ⟨0, 0, 0, 0⟩
def Pg.val (p : Pg) : Value := .agg #[.int .i64 p.c0, .int .i64 p.c1, .int .i64 p.c2, .int .i64 p.last]
/-- The cells are right. -/
def cellsB (a b c : Int) : Bool := wi a 0 99 && (wi b 0 99 && wi c 0 99)
def Pg.ok (p : Pg) : Bool := cellsB p.c0 p.c1 p.c2 && wi p.last 0 60
/-- The error of a page. -/
def Pg.err (p : Pg) : Int := if p.ok then 0 else 3
def setArgs (cell val rec : Int) : Bool := wi cell 0 2 && (wi val 0 99 && wi rec 1 60)
/-- A page with one cell set. -/
def Pg.put (p : Pg) (cell val rec : Int) : Pg :=
  if cell = 0 then { p with c0 := val, last := rec } else if cell = 1 then { p with c1 := val, last := rec } else { p with c2 := val, last := rec }
def setOf (p : Pg) (cell val rec : Int) : Pg × Int :=
  if p.ok && setArgs cell val rec then (p.put cell val rec, 0) else (Pg.zero, 3)
def Pg.same (p q : Pg) : Bool := p.c0 == q.c0 && (p.c1 == q.c1 && p.c2 == q.c2)
/-- The pages of a world. -/
structure P3 where
  p0 : Pg
  p1 : Pg
  p2 : Pg
  deriving DecidableEq
def P3.zero : P3 := ⟨Pg.zero, Pg.zero, Pg.zero⟩
def P3.vals (p : P3) : Array Value := #[.int .i64 p.p0.c0, .int .i64 p.p0.c1, .int .i64 p.p0.c2, .int .i64 p.p0.last, .int .i64 p.p1.c0, .int .i64 p.p1.c1, .int .i64 p.p1.c2, .int .i64 p.p1.last, .int .i64 p.p2.c0, .int .i64 p.p2.c1, .int .i64 p.p2.c2, .int .i64 p.p2.last]
def P3.val (p : P3) : Value := .agg p.vals
def P3.get (p : P3) (i : Int) : Pg := if i = 0 then p.p0 else if i = 1 then p.p1 else p.p2
def P3.set (p : P3) (i : Int) (x : Pg) : P3 := if i = 0 then { p with p0 := x } else if i = 1 then { p with p1 := x } else { p with p2 := x }
/-- Cells, page by page. -/
structure C9 where
  a0 : Int
  a1 : Int
  a2 : Int
  b0 : Int
  b1 : Int
  b2 : Int
  c0 : Int
  c1 : Int
  c2 : Int
  deriving DecidableEq
def C9.zero : C9 := ⟨0, 0, 0, 0, 0, 0, 0, 0, 0⟩
def C9.val (c : C9) : Value := .agg #[.int .i64 c.a0, .int .i64 c.a1, .int .i64 c.a2, .int .i64 c.b0, .int .i64 c.b1, .int .i64 c.b2, .int .i64 c.c0, .int .i64 c.c1, .int .i64 c.c2]
/-- A record. -/
structure R where
  kind : Int
  txn : Int
  prev : Int
  page : Int
  cell : Int
  old : Int
  new : Int
  next : Int
  deriving DecidableEq
def R.zero : R := ⟨0, 0, 0, 0, 0, 0, 0, 0⟩
def R.val (r : R) : Value := .agg #[.int .i64 r.kind, .int .i64 r.txn, .int .i64 r.prev, .int .i64 r.page, .int .i64 r.cell, .int .i64 r.old, .int .i64 r.new, .int .i64 r.next]
end Go.Proofs.Ytmfjhacgpopijaa
end
section
namespace Go.Proofs.Ytmfjhacgpopijaa
open Go.RowKit
theorem retb {a b : Bool} (h : a = b) : Ending.returned (.bool a) = .returned (.bool b) := by rw [h]
theorem reti {k : IntKind} {a b : Int} (h : a = b) : Ending.returned (.int k a) = .returned (.int k b) := by rw [h]
theorem bcell {W w1 : World} (hb : Below W.heap.size W w1) : (∀ b o, b < W.heap.size → w1.cell? ⟨b, o, none⟩ = W.cell? ⟨b, o, none⟩) ∧ (∀ b o, b < W.heap.size → w1.frozen? ⟨b, o, none⟩ = W.frozen? ⟨b, o, none⟩) :=
  ⟨fun b o h => hb.cell (p := ⟨b, o, none⟩) h, fun b o h => hb.frozen (p := ⟨b, o, none⟩) h⟩
theorem below_trans {W a b : World} (h : Below W.heap.size W a) (k : Below a.heap.size a b) : Below W.heap.size W b := h.trans (k.mono h.size)
theorem blk_lt {w : World} {b : Nat} {x : Obj} (h : w.heap[b]? = some x) : b < w.heap.size := lt_of_block h
/-- A block that was there is there behind a call that only makes new ones. -/
theorem below_get {B : Nat} {W w1 : World} (hb : Below B W w1) {b : Nat} {x : Obj} (h : W.heap[b]? = some x) (hl : b < B) : w1.heap[b]? = some x := (hb.block b hl).trans h
theorem below_get' {W w1 : World} (hb : Below W.heap.size W w1) {b : Nat} {x : Obj} (h : W.heap[b]? = some x) : w1.heap[b]? = some x := below_get hb h (blk_lt h)
theorem blk_cell {w : World} {b : Nat} {c : Array Value} {t : TypeId} (h : w.heap[b]? = some (.cells c t)) (o : Nat) : w.cell? ⟨b, o, none⟩ = c[o]? := by simp [World.cell?, h]
theorem blk_free {w : World} {b : Nat} {c : Array Value} {t : TypeId} (h : w.heap[b]? = some (.cells c t)) (o : Nat) : w.frozen? ⟨b, o, none⟩ = false := by simp [World.frozen?, h]
theorem alloc_new (w : World) (x : Obj) : (w.alloc x).heap[w.heap.size]? = some x := (MapKept.heap_alloc w _).1
theorem alloc_old {w : World} {b : Nat} {y : Obj} (x : Obj) (h : w.heap[b]? = some y) : (w.alloc x).heap[b]? = some y := by
  exact (Below.heap_alloc w x b (blk_lt h)).trans h
/-! ### Worlds that have grown: regions whose operations only read, and whose calls only make new blocks -/
open Classical in
/-- w with new blocks (and draws) behind it: those that g has, if g is such a world. -/
noncomputable def grow (w g : World) : World := if Below w.heap.size w g then g else w
theorem grow_below (w g : World) : Below w.heap.size w (grow w g) := by
  unfold grow
  split
  · assumption
  · exact Below.refl _ _
theorem grows_of {w w' : World} (h : Below w.heap.size w w') : ∃ g, w' = grow w g := ⟨w', by unfold grow; rw [if_pos h]⟩
theorem grow_get {w : World} {b : Nat} {x : Obj} (h : w.heap[b]? = some x) (g : World) : (grow w g).heap[b]? = some x := below_get' (grow_below w g) h
theorem grow_cell {w : World} {b : Nat} {c : Array Value} {t : TypeId} (h : w.heap[b]? = some (.cells c t)) (g : World) (o : Nat) : (grow w g).cell? ⟨b, o, none⟩ = c[o]? := blk_cell (grow_get h g) o
/-- A call's contract, met in a world that has grown. -/
theorem quiet_grow {P : Program} {f : FuncId} {args : Array Value} {w g : World} {v : Value}
    (h : Calls P f args (grow w g) fun e w' => e = .returned v ∧ Below (grow w g).heap.size (grow w g) w') : Calls P f args (grow w g) fun e w'' => e = .returned v ∧ ∃ g', w'' = grow w g' :=
  h.mono fun _ _ ⟨he, hb⟩ => ⟨he, grows_of (below_trans (grow_below w g) hb)⟩
theorem quiet_same {P : Program} {f : FuncId} {args : Array Value} {w g : World} {v : Value}
    (h : Calls P f args (grow w g) fun e w' => e = .returned v ∧ grow w g = w') : Calls P f args (grow w g) fun e w'' => e = .returned v ∧ ∃ g', w'' = grow w g' :=
  h.mono fun _ _ ⟨he, hb⟩ => ⟨he, g, hb.symm⟩
/-! 'Below' of a world that has only grown: its steps. -/
theorem bg_trans {w a b : World} (h : Below w.heap.size w a) (k : Below a.heap.size a b) : Below w.heap.size w b := below_trans h k
theorem bg_alloc {w a : World} (h : Below w.heap.size w a) (o : Obj) : Below w.heap.size w (a.alloc o) := h.alloc h.size o
theorem bg_grow {w a : World} (h : Below w.heap.size w a) (g : World) : Below w.heap.size w (grow a g) := below_trans h (grow_below a g)
theorem bg_drew {w a : World} (h : Below w.heap.size w a) : Below w.heap.size w a.drew := h.drew
theorem bg_drewN {w a : World} (h : Below w.heap.size w a) (n : Nat) : Below w.heap.size w (a.drewN n) := ⟨h.os, h.tape, h.output, h.size, h.block⟩
theorem bg_set {w a : World} (h : Below w.heap.size w a) {p : Addr} (hp : w.heap.size ≤ p.block) (u : Value) : Below w.heap.size w (a.setCell p u) := h.setCell hp u
theorem wp_region_grow {P : Program} {id : Nat} {Q : Exit → Act → World → Prop} {a : Act} {w : World} {l : List Oper} (hm : P.follows .mixedOrders = true) (hB : Region.lexB .any l.toArray = true)
    (h : wpQuiet P l.toArray (fun w' => ∃ g, w' = grow w g) (fun a' => ∀ w', (∃ g, w' = grow w g) → Q .normal a' w') l a) : (Code.region id l.toArray true).wp P Q a w :=
  wp_region_quiet (C := fun w' => ∃ g, w' = grow w g) hm hB (grows_of (w := w) ⟨rfl, rfl, rfl, Nat.le_refl _, fun _ _ => rfl⟩) (by simpa using h)
theorem wpList_of_quiet {P : Program} {ops : Array Oper} {C : World → Prop} {Q : Exit → Act → World → Prop} : ∀ (l : List Oper) (a : Act) (w : World), C w →
    wpQuiet P ops C (fun a' => ∀ w', C w' → Q .normal a' w') l a → wpList P ops Q l a w
  | [], _, w, hw, h => h w hw
  | o :: rest, a, w, hw, h => by
    unfold wpQuiet at h
    unfold wpList
    split
    · rename_i hwt
      rw [if_pos hwt] at h
      exact .inl (Oper.wp_of_quiet hw (fun a' w' hw' h' => wpList_of_quiet rest a' w' hw' h') h)
    · rename_i hwt
      rw [if_neg hwt] at h
      exact wpList_of_quiet rest _ w hw h
theorem wp_region_grow_plain {P : Program} {id : Nat} {Q : Exit → Act → World → Prop} {a : Act} {w : World} {l : List Oper}
    (h : wpQuiet P l.toArray (fun w' => ∃ g, w' = grow w g) (fun a' => ∀ w', (∃ g, w' = grow w g) → Q .normal a' w') l a) : (Code.region id l.toArray false).wp P Q a w :=
  wp_region_lit (wpList_of_quiet (C := fun w' => ∃ g, w' = grow w g) l a w (grows_of (Below.refl _ _)) h)
end Go.Proofs.Ytmfjhacgpopijaa
end
section
namespace Go.Proofs.Ytmfjhacgpopijaa
/-! ### The document's words -/
def R.turns (r : R) : Bool := r.kind == 1 || r.kind == 3
def R.bare (r : R) : Bool := r.page == 0 && (r.cell == 0 && (r.old == 0 && r.new == 0))
def R.inner (r : R) : Bool := wi r.page 0 2 && (wi r.cell 0 2 && (wi r.old 0 99 && wi r.new 0 99))
/-- The error of the record n. -/
def recErr (n : Int) (r : R) : Int :=
  if wi n 1 60 then
    if wi r.kind 1 4 then
      if wi r.txn 1 9 && wi r.prev 0 (n - 1) then
        if !r.turns || r.inner then
          if r.kind != 3 || wi r.next 0 (n - 1) then
            if (r.turns || r.bare) && (r.kind == 3 || r.next == 0) then 0 else 1
          else 3
        else 3
      else 3
    else 4
  else 3
/-- The number of the last record of a Txn; 0: none. -/
def lastN : List R → Int → Nat
  | [], _ => 0
  | r :: h, t => if r.txn = t then h.length + 1 else lastN h t
def cnt : List R → Int → Int → Nat
  | [], _, _ => 0
  | r :: h, t, k => (if r.txn = t ∧ r.kind = k then 1 else 0) + cnt h t k
/-- How far a Txn is. -/
def stt (h : List R) (t : Int) : Nat :=
  if lastN h t = 0 then 0 else if 0 < cnt h t 4 then 4 else if 0 < cnt h t 2 then 2 else if 0 < cnt h t 3 then 3 else 1
/-- The numbers of the Writes of a Txn, the newest first. -/
def wrs : List R → Int → List Nat
  | [], _ => []
  | r :: h, t => if r.txn = t ∧ r.kind = 1 then (h.length + 1) :: wrs h t else wrs h t
/-- Those that were not taken back, the newest first. -/
def ups (h : List R) (t : Int) : List Nat := (wrs h t).drop (cnt h t 3)
/-- The record of a number. -/
def recAt (h : List R) (n : Nat) : R := (h.reverse[n - 1]?).getD R.zero
def hasCell (h : List R) (p c : Int) (n : Nat) : Bool := (recAt h n).page == p && (recAt h n).cell == c
/-- Has that Txn, that is not over, a Write of that cell that stands? -/
def holdsCell (h : List R) (p c t : Int) : Bool := stt h t != 4 && (ups h t).any (hasCell h p c)
/-- Has another one? -/
def taken (h : List R) (t p c : Int) : Bool := [1, 2, 3, 4, 5, 6, 7, 8, 9].any fun u => u != t && holdsCell h p c u
def Pg.cellAt (p : Pg) (c : Int) : Int := if c = 0 then p.c0 else if c = 1 then p.c1 else p.c2
def pagesOf : List R → P3
  | [] => P3.zero
  | r :: h => if r.turns then (pagesOf h).set r.page (((pagesOf h).get r.page).put r.cell r.new (h.length + 1)) else pagesOf h
/-- The record by which the Write n is taken back. -/
def backOf (h : List R) (t : Int) (n : Nat) : R :=
  ⟨3, t, lastN h t, (recAt h n).page, (recAt h n).cell, (recAt h n).new, (recAt h n).old, (recAt h n).prev⟩
/-- May a right record stand behind a right log? -/
def follows (h : List R) (r : R) : Bool :=
  if r.prev != lastN h r.txn || (stt h r.txn == 4 || ((stt h r.txn == 2 && r.kind != 4) || (stt h r.txn == 3 && (r.kind != 3 && r.kind != 4)))) then false
  else if r.kind = 1 then r.old == ((pagesOf h).get r.page).cellAt r.cell && !taken h r.txn r.page r.cell
  else if r.kind = 2 then true
  else if r.kind = 3 then
    match ups h r.txn with
    | [] => false
    | n :: _ => r.page == (recAt h n).page && (r.cell == (recAt h n).cell && (r.old == (recAt h n).new && (r.new == (recAt h n).old && r.next == (recAt h n).prev)))
  else stt h r.txn == 2 || (stt h r.txn == 3 && (ups h r.txn).isEmpty)
/-- The error of a history, of the document. -/
def errH : List R → Int
  | [] => 0
  | r :: h => if errH h = 0 then (if recErr (h.length + 1) r = 0 then (if follows h r then 0 else 1) else recErr (h.length + 1) r) else errH h
def Right (h : List R) : Prop := errH h = 0
/-- The error of a log. -/
def logErr (l : List R) : Int := if l.length ≤ 60 then errH l.reverse else 2
/-! ### The program's words -/
def stB : List R → Int → Int
  | [], _ => 0
  | r :: h, t => if r.txn = t then r.kind else stB h t
def stP (k : Int) : Int := k
def upB : List R → Int → List Nat
  | [], _ => []
  | r :: h, t =>
    if r.txn = t then
      if r.kind = 1 then (h.length + 1) :: upB h t else if r.kind = 3 then (upB h t).tail else if r.kind = 4 then [] else upB h t
    else upB h t
def ownB : List R → Int → Int → Int
  | [], _, _ => 0
  | r :: h, p, c =>
    if r.kind = 1 then (if r.page = p ∧ r.cell = c then r.txn else ownB h p c)
    else if r.kind = 2 then ownB h p c
    else if ownB h p c = r.txn ∧ (upB (r :: h) r.txn).any (hasCell (r :: h) p c) = false then 0 else ownB h p c
def undoB (h : List R) (t : Int) : R :=
  match upB h t with
  | [] => ⟨4, t, lastN h t, 0, 0, 0, 0, 0⟩
  | n :: _ => backOf h t n
def fits (h : List R) (r : R) : Bool :=
  if r.prev != lastN h r.txn then false
  else if r.kind = 1 then decide (stB h r.txn < 2) && (r.old == ((pagesOf h).get r.page).cellAt r.cell && (ownB h r.page r.cell == 0 || ownB h r.page r.cell == r.txn))
  else if r.kind = 2 then decide (stB h r.txn < 2)
  else if r.kind = 3 then (stB h r.txn == 1 || stB h r.txn == 3) && (!(upB h r.txn).isEmpty && decide (r = undoB h r.txn))
  else stB h r.txn == 2 || (stB h r.txn == 3 && (upB h r.txn).isEmpty)
end Go.Proofs.Ytmfjhacgpopijaa
end
section
set_option linter.unusedSimpArgs false
namespace Go.Proofs.Ytmfjhacgpopijaa
theorem has_int : (Try.prog.info? 3).isSome = true := by kernel_rfl
theorem has_page : (Try.prog.info? 24).isSome = true := by kernel_rfl
theorem has_three : (Try.prog.info? 22).isSome = true := by kernel_rfl
theorem cells_int : Try.prog.cellsOf 3 = 1 := by kernel_rfl
theorem cells_page : Try.prog.cellsOf 24 = 4 := by kernel_rfl
theorem cells_three : Try.prog.cellsOf 22 = 3 := by kernel_rfl
/-- '==' on [3]int. -/
theorem eq_three (d : Nat) (a b c a' b' c' : Int) (w : World) :
    (Op.equalIn (d + 2) 22 (.agg #[.int .i64 a, .int .i64 b, .int .i64 c]) (.agg #[.int .i64 a', .int .i64 b', .int .i64 c'])).run Try.prog w = .ok (a == a' && (b == b' && c == c')) w := by
  obtain ⟨i, hi⟩ := Option.isSome_iff_exists.1 has_int
  rw [run_equalIn_array w (d + 1) _ _ Try.underlying22 hi, cells_int]
  simp only [List.range, List.range.loop, Op.eqItems]
  simp [go_sem]
  by_cases h1 : a = a' <;> by_cases h2 : b = b' <;> by_cases h3 : c = c' <;> simp [h1, h2, h3]
theorem page_ext (p q : Pg) : (p = q) ↔ (p.c0 = q.c0 ∧ p.c1 = q.c1 ∧ p.c2 = q.c2 ∧ p.last = q.last) := by
  cases p; cases q; simp
/-- '==' on pages. -/
theorem eq_page (d : Nat) (p q : Pg) (w : World) :
    (Op.equalIn (d + 3) 24 p.val q.val).run Try.prog w = .ok (decide (p = q)) w := by
  obtain ⟨a, b, c, n⟩ := p
  obtain ⟨a', b', c', n'⟩ := q
  unfold Pg.val
  simp [go_sem, Op.eqFields, eq_three]
  by_cases h1 : a = a' <;> by_cases h2 : b = b' <;> by_cases h3 : c = c' <;> by_cases h4 : n = n' <;> simp [h1, h2, h3, h4]
theorem p3_ext (p q : P3) : (p = q) ↔ (p.p0 = q.p0 ∧ p.p1 = q.p1 ∧ p.p2 = q.p2) := by
  cases p; cases q; simp
/-- '==' on the pages of a world. -/
theorem eq_pages (d : Nat) (p q : P3) (w : World) :
    (Op.equalIn (d + 4) 25 p.val q.val).run Try.prog w = .ok (decide (p = q)) w := by
  have h : ∀ x y : Pg, ∀ W : World, (Op.equalIn (d + 3) 24 (.agg #[.int .i64 x.c0, .int .i64 x.c1, .int .i64 x.c2, .int .i64 x.last]) (.agg #[.int .i64 y.c0, .int .i64 y.c1, .int .i64 y.c2, .int .i64 y.last])).run Try.prog W = .ok (decide (x = y)) W := fun x y W => eq_page d x y W
  obtain ⟨i, hi⟩ := Option.isSome_iff_exists.1 has_page
  unfold P3.val P3.vals
  rw [run_equalIn_array w (d + 3) _ _ Try.underlying25 hi, cells_page]
  simp only [List.range, List.range.loop, Op.eqItems]
  simp [go_sem, h]
  by_cases h1 : p.p0 = q.p0 <;> by_cases h2 : p.p1 = q.p1 <;> by_cases h3 : p.p2 = q.p2 <;> simp [h1, h2, h3, p3_ext]
theorem c9_ext (p q : C9) : (p = q) ↔ ((p.a0 = q.a0 ∧ p.a1 = q.a1 ∧ p.a2 = q.a2) ∧ (p.b0 = q.b0 ∧ p.b1 = q.b1 ∧ p.b2 = q.b2) ∧ (p.c0 = q.c0 ∧ p.c1 = q.c1 ∧ p.c2 = q.c2)) := by
  cases p; cases q; simp [and_assoc]
theorem r_ext (p q : R) : (p = q) ↔ (p.kind = q.kind ∧ p.txn = q.txn ∧ p.prev = q.prev ∧ p.page = q.page ∧ p.cell = q.cell ∧ p.old = q.old ∧ p.new = q.new ∧ p.next = q.next) := by
  cases p; cases q; simp
/-- '==' on records. -/
theorem eq_rec (d : Nat) (p q : R) (w : World) :
    (Op.equalIn (d + 2) 48 p.val q.val).run Try.prog w = .ok (decide (p = q)) w := by
  unfold R.val
  simp [go_sem, Op.eqFields]
  simp only [r_ext]
  by_cases h1 : p.kind = q.kind <;> simp [h1]
  by_cases h2 : p.txn = q.txn <;> simp [h2]
  by_cases h3 : p.prev = q.prev <;> simp [h3]
  by_cases h4 : p.page = q.page <;> simp [h4]
  by_cases h5 : p.cell = q.cell <;> simp [h5]
  by_cases h6 : p.old = q.old <;> simp [h6]
  by_cases h7 : p.new = q.new <;> simp [h7]
  by_cases h8 : p.next = q.next <;> simp [h8]
/-! The same at the depth that a walk asks. -/
theorem weq_three (a b c a' b' c' : Int) (w : World) : (Op.equalIn 10000 22 (.agg #[.int .i64 a, .int .i64 b, .int .i64 c]) (.agg #[.int .i64 a', .int .i64 b', .int .i64 c'])).run Try.prog w = .ok (a == a' && (b == b' && c == c')) w := eq_three 9998 a b c a' b' c' w
theorem weq_page (p q : Pg) (w : World) : (Op.equalIn 10000 24 p.val q.val).run Try.prog w = .ok (decide (p = q)) w := eq_page 9997 p q w
theorem weq_pages (p q : P3) (w : World) : (Op.equalIn 10000 25 p.val q.val).run Try.prog w = .ok (decide (p = q)) w := eq_pages 9996 p q w
theorem weq_rec (p q : R) (w : World) : (Op.equalIn 10000 48 p.val q.val).run Try.prog w = .ok (decide (p = q)) w := eq_rec 9998 p q w
end Go.Proofs.Ytmfjhacgpopijaa
end
section
set_option linter.unusedVariables false
set_option linter.unusedSimpArgs false
set_option linter.unusedSectionVars false
namespace Go.Proofs.Ytmfjhacgpopijaa
open Go.RowKit
/-! ### Slots -/
theorem eqb {i j : Bool} (h : i = j) : some (Value.bool i) = some (.bool j) := by rw [h]
abbrev Env := List (Nat × Value)
def look : Env → Nat → Option Value
  | [], _ => none
  | (k, v) :: E, t => cond (Nat.beq k t) (some v) (look E t)
def ev (E : Env) : Operand → Option Value
  | .tmp t => look E t
  | .const v => some v
  | .global g => some (.pointer (some ⟨g, 0, none⟩))
  | .func f => some (.func (.func f) #[] #[])
def evs (E : Env) : List Operand → Option (List Value)
  | [] => some []
  | x :: xs => match ev E x with
    | none => none
    | some v => match evs E xs with
      | none => none
      | some vs => some (v :: vs)
/-- The deferred calls that an activation holds: none, where nothing else is said. -/
structure DSx where
  ds : List Deferred
instance : Inhabited DSx := ⟨⟨[]⟩⟩
section
variable [Inhabited DSx]
structure EnvOf (E : Env) (n : Nat) (a : Act) : Prop where
  size : a.tmps.size = n
  at_ : ∀ t v, look E t = some v → a.tmps[t]? = some v
  defers : a.defers = (default : DSx).ds
theorem EnvOf.eval {E : Env} {n : Nat} {a : Act} {x : Operand} {v : Value} (h : EnvOf E n a) (hx : ev E x = some v) : a.eval x = v := by
  cases x with
  | tmp t =>
    have := h.at_ t v hx
    simp [Act.eval, this]
  | const u => simpa [ev, Act.eval] using hx
  | global g => simpa [ev, Act.eval] using hx
  | func f => simpa [ev, Act.eval] using hx
theorem EnvOf.evals {E : Env} {n : Nat} {a : Act} (h : EnvOf E n a) : ∀ (xs : List Operand) (vs : List Value), evs E xs = some vs → xs.map a.eval = vs
  | [], vs, hx => by simpa [evs] using hx
  | x :: xs, vs, hx => by
    unfold evs at hx
    split at hx
    · cases hx
    · rename_i v hv
      split at hx
      · cases hx
      · rename_i us hu
        obtain rfl := Option.some.inj hx
        simp [h.eval hv, h.evals xs us hu]
theorem EnvOf.put {E : Env} {n : Nat} {a : Act} {d : Nat} {v : Value} (h : EnvOf E n a) (hd : Nat.blt d n = true) : EnvOf ((d, v) :: E) n (a.put (some d) v) := by
  have hdn : d < n := by simpa [Nat.blt_eq] using hd
  refine ⟨by simp [Act.put, h.size], fun t u ht => ?_, h.defers⟩
  simp only [look] at ht
  by_cases e : d = t
  · subst e
    have : Nat.beq d d = true := by simp
    rw [this] at ht
    simp only [cond_true, Option.some.injEq] at ht
    subst ht
    simp [Act.put, h.size, hdn]
  · have : Nat.beq d t = false := by
      cases hb : Nat.beq d t
      · rfl
      · exact absurd (Nat.eq_of_beq_eq_true hb) e
    rw [this] at ht
    simp only [cond_false] at ht
    simp only [Act.put]
    rw [Array.getElem?_setIfInBounds_ne e]
    exact h.at_ t u ht
theorem EnvOf.put_none {E : Env} {n : Nat} {a : Act} {v : Value} (h : EnvOf E n a) : EnvOf E n (a.put none v) := h
/-- Fewer slots are known. -/
def sub (E' E : Env) : Prop := ∀ t v, look E' t = some v → look E t = some v
theorem sub_nil (E : Env) : sub [] E := fun _ _ h => by cases h
theorem sub_cons {t : Nat} {v : Value} {E' E : Env} (h : look E t = some v) (k : sub E' E) : sub ((t, v) :: E') E := fun s u hs => by
  simp only [look] at hs
  cases hb : Nat.beq t s
  · rw [hb] at hs; exact k s u hs
  · rw [hb] at hs
    obtain rfl := Nat.eq_of_beq_eq_true hb
    simp only [cond_true, Option.some.injEq] at hs
    subst hs
    exact h
theorem EnvOf.weak {E E' : Env} {n : Nat} {a : Act} (h : EnvOf E n a) (k : sub E' E) : EnvOf E' n a := ⟨h.size, fun t v ht => h.at_ t v (k t v ht), h.defers⟩
/-! ### Own blocks -/
abbrev Hp := List (Nat × List Value × TypeId)
structure HpOf (B : Nat) (H : Hp) (w : World) : Prop where
  blk : ∀ x ∈ H, w.heap[x.1]? = some (.cells x.2.1.toArray x.2.2) ∧ B ≤ x.1
  nd : H.Pairwise fun x y => x.1 ≠ y.1
theorem HpOf.lt {B : Nat} {H : Hp} {w : World} (h : HpOf B H w) {x : Nat × List Value × TypeId} (hx : x ∈ H) : x.1 < w.heap.size := blk_lt (h.blk x hx).1
theorem HpOf.nil (B : Nat) (w : World) : HpOf B [] w := ⟨fun _ h => (by cases h), List.Pairwise.nil⟩
/-- A fact on memory, with the blocks on which it leans. -/
structure SF where
  p : World → Prop
  fp : World → Nat → Prop
  lt : ∀ w b, p w → fp w b → b < w.heap.size
  st : ∀ w w', p w → (∀ b, fp w b → w'.heap[b]? = w.heap[b]?) → p w' ∧ ∀ b, fp w' b → fp w b
def SF.top : SF := ⟨fun _ => True, fun _ _ => False, fun _ _ _ h => h.elim, fun _ _ _ _ => ⟨trivial, fun _ h => h⟩⟩
def SF.and (F G : SF) : SF := ⟨fun w => F.p w ∧ G.p w, fun w b => F.fp w b ∨ G.fp w b,
  fun w b h k => k.elim (F.lt w b h.1) (G.lt w b h.2),
  fun w w' h k => ⟨⟨(F.st w w' h.1 fun b hb => k b (.inl hb)).1, (G.st w w' h.2 fun b hb => k b (.inr hb)).1⟩,
    fun b hb => hb.imp ((F.st w w' h.1 fun b hb => k b (.inl hb)).2 b) ((G.st w w' h.2 fun b hb => k b (.inr hb)).2 b)⟩⟩
structure St (E : Env) (n : Nat) (H : Hp) (F : SF) (w0 : World) (a : Act) (w : World) : Prop where
  env : EnvOf E n a
  hp : HpOf w0.heap.size H w
  fact : F.p w
  sep : ∀ x ∈ H, ¬ F.fp w x.1
  low : Below w0.heap.size w0 w
end
section
variable [Inhabited DSx] {P : Program} {ops : Array Oper} {Q : Exit → Act → World → Prop} {rest : List Oper} {E : Env} {n : Nat} {H : Hp} {F : SF} {w0 : World}
theorem St.grow {a : Act} {w w' : World} (s : St E n H F w0 a w) (hb : Below w.heap.size w w') : St E n H F w0 a w' := by
  have hf := F.st w w' s.fact fun b h => hb.block b (F.lt w b s.fact h)
  refine ⟨s.env, ⟨fun x hx => ⟨below_get' hb (s.hp.blk x hx).1, (s.hp.blk x hx).2⟩, s.hp.nd⟩, hf.1, fun x hx h => s.sep x hx (hf.2 _ h), below_trans s.low hb⟩
theorem St.put {a : Act} {w : World} {d : Nat} {v : Value} (s : St E n H F w0 a w) (hd : Nat.blt d n = true) : St ((d, v) :: E) n H F w0 (a.put (some d) v) w :=
  ⟨s.env.put hd, s.hp, s.fact, s.sep, s.low⟩
theorem St.weak {a : Act} {w : World} {E' : Env} (s : St E n H F w0 a w) (k : sub E' E) : St E' n H F w0 a w := ⟨s.env.weak k, s.hp, s.fact, s.sep, s.low⟩
/-- A new block. -/
theorem St.new {a : Act} {w : World} {cs : List Value} {T : TypeId} (s : St E n H F w0 a w) : St E n ((w.heap.size, cs, T) :: H) F w0 a (w.alloc (.cells cs.toArray T)) := by
  have hb : Below w.heap.size w (w.alloc (.cells cs.toArray T)) := (Below.refl _ _).alloc (Nat.le_refl _) _
  have g := s.grow hb
  refine ⟨g.env, ⟨fun x hx => ?_, ?_⟩, g.fact, fun x hx => ?_, g.low⟩
  · rcases List.mem_cons.1 hx with rfl | hx
    · exact ⟨alloc_new w _, s.low.size⟩
    · exact g.hp.blk x hx
  · refine List.pairwise_cons.2 ⟨fun y hy => ?_, g.hp.nd⟩
    have := s.hp.lt hy
    show w.heap.size ≠ y.1
    omega
  · rcases List.mem_cons.1 hx with rfl | hx
    · intro h
      have h1 := (F.st w _ s.fact fun b h => hb.block b (F.lt w b s.fact h)).2 _ h
      have := F.lt w _ s.fact h1
      exact absurd this (Nat.lt_irrefl _)
    · exact g.sep x hx
/-! ### Goals -/
def WL (P : Program) (ops : Array Oper) (Q : Exit → Act → World → Prop) (l : List Oper) (E : Env) (n : Nat) (H : Hp) (F : SF) (w0 : World) : Prop :=
  ∀ a w, St E n H F w0 a w → wpList P ops Q l a w
def WC (P : Program) (c : Code) (Q : Exit → Act → World → Prop) (E : Env) (n : Nat) (H : Hp) (F : SF) (w0 : World) : Prop :=
  ∀ a w, St E n H F w0 a w → c.wp P Q a w
/-- An operation that yields v and leaves memory alone. -/
def Yv (P : Program) (E : Env) (n : Nat) (H : Hp) (F : SF) (w0 : World) (o : Oper) (v : Value) : Prop :=
  ∀ a w, St E n H F w0 a w → (execOp a.eval o).run P w = .ok (.value v) w
/-- .. whatever memory is. -/
def Yp (P : Program) (E : Env) (n : Nat) (o : Oper) (v : Value) : Prop := ∀ a w, EnvOf E n a → (execOp a.eval o).run P w = .ok (.value v) w
theorem Yp.v {o : Oper} {v : Value} (h : Yp P E n o v) : Yv P E n H F w0 o v := fun a w s => h a w s.env
theorem WL.weak {l : List Oper} {E' : Env} (k : sub E' E) (h : WL P ops Q l E' n H F w0) : WL P ops Q l E n H F w0 := fun a w s => h a w (s.weak k)
theorem WC.weak {c : Code} {E' : Env} (k : sub E' E) (h : WC P c Q E' n H F w0) : WC P c Q E n H F w0 := fun a w s => h a w (s.weak k)
theorem WL.val {o : Oper} {d : Nat} {v : Value} (hy : Yv P E n H F w0 o v) (hg : o.guard = none) (hd : o.dst = some d) (hn : Nat.blt d n = true) (h : WL P ops Q rest ((d, v) :: E) n H F w0) : WL P ops Q (o :: rest) E n H F w0 := fun a w s =>
  wpList_plain hg fun K hK => by
    unfold Oper.wp
    rw [hy a w s, Oper.upon_value, hd]
    exact hK _ _ (h _ _ (s.put hn))
theorem WL.pure {o : Oper} {d : Nat} {v : Value} (hy : Yp P E n o v) (hg : o.guard = none) (hd : o.dst = some d) (hn : Nat.blt d n = true) (h : WL P ops Q rest ((d, v) :: E) n H F w0) : WL P ops Q (o :: rest) E n H F w0 := WL.val hy.v hg hd hn h
/-- What the state tells, kept. -/
theorem WL.know {l : List Oper} {p : Prop} (h : ∀ a w, St E n H F w0 a w → p) (k : p → WL P ops Q l E n H F w0) : WL P ops Q l E n H F w0 := fun a w s => k (h a w s) a w s
theorem WC.know {c : Code} {p : Prop} (h : ∀ a w, St E n H F w0 a w → p) (k : p → WC P c Q E n H F w0) : WC P c Q E n H F w0 := fun a w s => k (h a w s) a w s
theorem WL.guardT {o : Oper} {g : Nat} {b : Bool} {dg : Nat} (hg : o.guard = some (g, b)) (hd : (ops[g]?).bind (·.dst) = some dg) (hb : look E dg = some (.bool b))
    (h : WL P ops Q ({ o with guard := none } :: rest) E n H F w0) : WL P ops Q (o :: rest) E n H F w0 := fun a w s => by
  have hy : yielded ops a.tmps g = some b := by simp [yielded, hd, s.env.at_ _ _ hb]
  have h1 := h a w s
  unfold wpList at h1 ⊢
  have hw : Region.wanted o (yielded ops a.tmps) = true := by simp [Region.wanted, hg, hy]
  rw [if_pos hw]
  rw [if_pos (by simp [Region.wanted])] at h1
  exact h1
theorem WL.guardF {o : Oper} {g : Nat} {b c : Bool} {dg d : Nat} (hg : o.guard = some (g, b)) (hd : (ops[g]?).bind (·.dst) = some dg) (hb : look E dg = some (.bool c)) (hne : (c == b) = false) (hdst : o.dst = some d) (hn : Nat.blt d n = true)
    (h : WL P ops Q rest ((d, undef) :: E) n H F w0) : WL P ops Q (o :: rest) E n H F w0 := fun a w s => by
  have hy : yielded ops a.tmps g = some c := by simp [yielded, hd, s.env.at_ _ _ hb]
  unfold wpList
  have hw : Region.wanted o (yielded ops a.tmps) = false := by
    cases c <;> cases b <;> simp_all [Region.wanted]
  rw [if_neg (by simp [hw]), hdst]
  exact h _ _ (s.put hn)
/-- An operation that is skipped because the operation that guards it was itself skipped. -/
theorem WL.guardU {o : Oper} {g : Nat} {b : Bool} {dg d : Nat} (hg : o.guard = some (g, b)) (hd : (ops[g]?).bind (·.dst) = some dg) (hb : look E dg = some undef) (hdst : o.dst = some d) (hn : Nat.blt d n = true)
    (h : WL P ops Q rest ((d, undef) :: E) n H F w0) : WL P ops Q (o :: rest) E n H F w0 := fun a w s => by
  have hy : yielded ops a.tmps g = none := by simp [yielded, hd, s.env.at_ _ _ hb, undef]
  unfold wpList
  have hw : Region.wanted o (yielded ops a.tmps) = false := by simp [Region.wanted, hg, hy]
  rw [if_neg (by simp [hw]), hdst]
  exact h _ _ (s.put hn)
/-! ### Operations that leave memory alone -/
theorem Y.move {d : Option Nat} {x : Operand} {T : TypeId} {p : String} {af : Array Edge} {v : Value} (hx : ev E x = some v) : Yp P E n ⟨d, .move x, T, p, af, none⟩ v := fun a w s => by
  simp [execOp, s.eval hx]
theorem Y.assign {d : Option Nat} {x : Operand} {T : TypeId} {p : String} {af : Array Edge} {v : Value} (hx : ev E x = some v) : Yp P E n ⟨d, .assign x, T, p, af, none⟩ v := fun a w s => by
  simp [execOp, s.eval hx]
theorem Y.pickT {d : Option Nat} {c x y : Operand} {T : TypeId} {p : String} {af : Array Edge} {v : Value} (hc : ev E c = some (.bool true)) (hx : ev E x = some v) : Yp P E n ⟨d, .pick c x y, T, p, af, none⟩ v := fun a w s => by
  simp [execOp, s.eval hc, s.eval hx, asBool]
theorem Y.pickF {d : Option Nat} {c x y : Operand} {T : TypeId} {p : String} {af : Array Edge} {v : Value} (hc : ev E c = some (.bool false)) (hx : ev E y = some v) : Yp P E n ⟨d, .pick c x y, T, p, af, none⟩ v := fun a w s => by
  simp [execOp, s.eval hc, s.eval hx, asBool]
theorem Y.nilCheck {d : Option Nat} {x : Operand} {T : TypeId} {p : String} {af : Array Edge} {q : Addr} (hx : ev E x = some (.pointer (some q))) : Yp P E n ⟨d, .nilCheck x, T, p, af, none⟩ (.pointer (some q)) := fun a w s => by
  simp [execOp, s.eval hx]
/-- Field number f of the struct type s lies at offset k, and is not of size 0. -/
def FieldAt (P : Program) (s f k : Nat) : Prop := ∀ (b o : Nat) (w : World), (Instr.fieldAt s (.pointer (some ⟨b, o, none⟩)) f).run P w = .ok (.pointer (some ⟨b, o + k, none⟩)) w
theorem Y.fieldAddr {d : Option Nat} {x : Operand} {s f k : Nat} {T : TypeId} {p : String} {af : Array Edge} {b o : Nat} (hf : FieldAt P s f k) (hx : ev E x = some (.pointer (some ⟨b, o, none⟩))) : Yp P E n ⟨d, .fieldAddr s x f, T, p, af, none⟩ (.pointer (some ⟨b, o + k, none⟩)) := fun a w st => by
  simp [execOp, st.eval hx, hf b o w]
theorem Y.extract {d : Option Nat} {x : Operand} {i : Nat} {T : TypeId} {p : String} {af : Array Edge} {vs : List Value} {v : Value} (hx : ev E x = some (.tuple vs.toArray)) (hi : vs[i]? = some v) : Yp P E n ⟨d, .extract x i, T, p, af, none⟩ v := fun a w s => by
  simp [execOp, s.eval hx, Instr.extract, hi]
theorem Y.not {d : Option Nat} {x : Operand} {T T' : TypeId} {p : String} {af : Array Edge} {b : Bool} (hx : ev E x = some (.bool b)) : Yp P E n ⟨d, .unOp .not T' x, T, p, af, none⟩ (.bool (!b)) := fun a w s => by
  simp [execOp, s.eval hx, Op.unary]
/-! Reading memory. -/
def nth : List Value → Nat → Option Value
  | [], _ => none
  | v :: _, 0 => some v
  | _ :: l, i + 1 => nth l i
theorem nth_eq : ∀ (l : List Value) (i : Nat), nth l i = l[i]?
  | [], _ => rfl
  | _ :: _, 0 => rfl
  | _ :: l, i + 1 => by simp [nth, nth_eq l i]
/-- The cells from i on, k of them. -/
def seg : List Value → Nat → Nat → Option (List Value)
  | _, _, 0 => some []
  | [], _, _ + 1 => none
  | v :: l, 0, k + 1 => match seg l 0 k with
    | none => none
    | some r => some (v :: r)
  | _ :: l, i + 1, k => seg l i k
theorem seg_at : ∀ (l : List Value) (i k : Nat) (r : List Value), seg l i k = some r → r.length = k ∧ ∀ j, j < k → l[i + j]? = r[j]?
  | l, i, 0, r, h => by
    have : r = [] := by cases l <;> simpa [seg, eq_comm] using h
    subst this
    exact ⟨rfl, fun j hj => absurd hj (by omega)⟩
  | [], i, k + 1, r, h => by simp [seg] at h
  | v :: l, 0, k + 1, r, h => by
    simp only [seg] at h
    split at h
    · cases h
    · rename_i r' hr
      obtain rfl := Option.some.inj h
      obtain ⟨h1, h2⟩ := seg_at l 0 k r' hr
      refine ⟨by simp [h1], fun j hj => ?_⟩
      cases j with
      | zero => rfl
      | succ j =>
        have := h2 j (by omega)
        simp only [Nat.zero_add] at this ⊢
        simpa using this
  | v :: l, i + 1, k + 1, r, h => by
    simp only [seg] at h
    obtain ⟨h1, h2⟩ := seg_at l i (k + 1) r h
    refine ⟨h1, fun j hj => ?_⟩
    have := h2 j hj
    rw [show i + 1 + j = (i + j) + 1 by omega]
    simpa using this
/-- A type whose variables are one cell. -/
def Flat (P : Program) (T : TypeId) : Prop := ∀ w, (isAgg T).run P w = .ok false w
/-- A type whose variables are k cells, a struct or an array. -/
def Wide (P : Program) (T k : Nat) : Prop := (∀ w, (isAgg T).run P w = .ok true w) ∧ ∀ w, (sizeOf T).run P w = .ok k w
theorem HpOf.cell {B : Nat} {w : World} {b o : Nat} {cs : List Value} {T : TypeId} (h : HpOf B H w) (hm : (b, cs, T) ∈ H) : w.cell? ⟨b, o, none⟩ = cs[o]? := by
  have := (h.blk _ hm).1
  simp at this
  simp [World.cell?, this]
theorem run_load_cell {w : World} {a : Addr} {v : Value} (h : w.cell? a = some v) : (load a).run P w = .ok v w := by simp [load, Sem.run, h]
theorem Y.loadc {d : Option Nat} {x : Operand} {T T' : TypeId} {p : String} {af : Array Edge} {q : Addr} {v : Value} (hT : Flat P T) (hx : ev E x = some (.pointer (some q))) (hc : ∀ a w, St E n H F w0 a w → w.cell? q = some v) :
    Yv P E n H F w0 ⟨d, .load T x, T', p, af, none⟩ v := fun a w s => by
  have hq := run_load_cell (P := P) (hc a w s)
  simp only [execOp, s.env.eval hx, Instr.loadAt, Instr.sureAddr, loadVar, Sem.run_bind, hT w, Result.andThen_ok, pure_bind, Bool.false_eq_true, if_false, hq, Sem.run_pure]
theorem Y.load {d : Option Nat} {x : Operand} {T T' : TypeId} {p : String} {af : Array Edge} {b o : Nat} {v : Value} {cs : List Value} {T2 : TypeId} (hT : Flat P T) (hx : ev E x = some (.pointer (some ⟨b, o, none⟩))) (hm : (b, cs, T2) ∈ H) (hc : nth cs o = some v) :
    Yv P E n H F w0 ⟨d, .load T x, T', p, af, none⟩ v :=
  Y.loadc hT hx fun a w s => by rw [s.hp.cell hm, ← nth_eq, hc]
theorem run_loadCellsFrom {w : World} {b o : Nat} : ∀ (k i : Nat) (acc : Array Value) (r : List Value), r.length = k → (∀ j, j < k → w.cell? ⟨b, o + i + j, none⟩ = r[j]?) →
    (loadCellsFrom ⟨b, o, none⟩ i k acc).run P w = .ok (acc ++ r.toArray) w
  | 0, i, acc, r, hl, _ => by
    obtain rfl := List.eq_nil_of_length_eq_zero hl
    simp [loadCellsFrom]
  | k + 1, i, acc, [], hl, _ => by simp at hl
  | k + 1, i, acc, v :: r, hl, h => by
    have h0 := h 0 (by omega)
    simp only [Nat.add_zero, List.getElem?_cons_zero] at h0
    unfold loadCellsFrom
    have e : (⟨b, o, none⟩ : Addr).add i = ⟨b, o + i, none⟩ := by unfold Addr.add; split <;> simp_all
    rw [Sem.run_bind, e, run_load_cell h0]
    simp only [Result.andThen_ok]
    rw [run_loadCellsFrom k (i + 1) (acc.push v) r (by simpa using hl) (fun j hj => by
      have := h (j + 1) (by omega)
      rw [show o + (i + 1) + j = o + i + (j + 1) by omega, this]
      simp)]
    simp
theorem Y.loadAc {d : Option Nat} {x : Operand} {T T' : TypeId} {p : String} {af : Array Edge} {b o k : Nat} {r : List Value} (hT : Wide P T k) (hx : ev E x = some (.pointer (some ⟨b, o, none⟩))) (hl : r.length = k)
    (hc : ∀ a w, St E n H F w0 a w → ∀ j, j < k → w.cell? ⟨b, o + j, none⟩ = r[j]?) : Yv P E n H F w0 ⟨d, .load T x, T', p, af, none⟩ (.agg r.toArray) := fun a w s => by
  have h := run_loadCellsFrom (P := P) (w := w) (b := b) (o := o) k 0 #[] r hl (fun j hj => by simpa using hc a w s j hj)
  simp [execOp, s.env.eval hx, Instr.loadAt, Instr.sureAddr, loadVar, hT.1 w, hT.2 w, loadCells, h]
theorem Y.loadA {d : Option Nat} {x : Operand} {T T' : TypeId} {p : String} {af : Array Edge} {b o k : Nat} {r cs : List Value} {T2 : TypeId} (hT : Wide P T k) (hx : ev E x = some (.pointer (some ⟨b, o, none⟩))) (hm : (b, cs, T2) ∈ H) (hc : seg cs o k = some r) :
    Yv P E n H F w0 ⟨d, .load T x, T', p, af, none⟩ (.agg r.toArray) :=
  Y.loadAc hT hx (seg_at _ _ _ _ hc).1 fun a w s j hj => by rw [s.hp.cell hm]; exact (seg_at _ _ _ _ hc).2 j hj
/-! Numbers. -/
section
variable {d : Option Nat} {x y : Operand} {T T' T2 : TypeId} {p : String} {af : Array Edge} {k : IntKind} {i j r : Int}
theorem Y.eql (hx : ev E x = some (.int k i)) (hy : ev E y = some (.int k j)) : Yp P E n ⟨d, .binOp .eql T x y T2, T', p, af, none⟩ (.bool (i == j)) := fun a w s => by
  simp [execOp, s.eval hx, s.eval hy, eqGuard, binOp, Op.intCmp]
theorem Y.neq (hx : ev E x = some (.int k i)) (hy : ev E y = some (.int k j)) : Yp P E n ⟨d, .binOp .neq T x y T2, T', p, af, none⟩ (.bool (i != j)) := fun a w s => by
  simp [execOp, s.eval hx, s.eval hy, eqGuard, binOp, Op.intCmp]
theorem Y.lss (hx : ev E x = some (.int k i)) (hy : ev E y = some (.int k j)) : Yp P E n ⟨d, .binOp .lss T x y T2, T', p, af, none⟩ (.bool (decide (i < j))) := fun a w s => by
  simp [execOp, s.eval hx, s.eval hy, eqGuard, binOp, Op.intCmp]
theorem Y.leq (hx : ev E x = some (.int k i)) (hy : ev E y = some (.int k j)) : Yp P E n ⟨d, .binOp .leq T x y T2, T', p, af, none⟩ (.bool (decide (i ≤ j))) := fun a w s => by
  simp [execOp, s.eval hx, s.eval hy, eqGuard, binOp, Op.intCmp]
theorem Y.gtr (hx : ev E x = some (.int k i)) (hy : ev E y = some (.int k j)) : Yp P E n ⟨d, .binOp .gtr T x y T2, T', p, af, none⟩ (.bool (decide (j < i))) := fun a w s => by
  simp [execOp, s.eval hx, s.eval hy, eqGuard, binOp, Op.intCmp]
theorem Y.geq (hx : ev E x = some (.int k i)) (hy : ev E y = some (.int k j)) : Yp P E n ⟨d, .binOp .geq T x y T2, T', p, af, none⟩ (.bool (decide (j ≤ i))) := fun a w s => by
  simp [execOp, s.eval hx, s.eval hy, eqGuard, binOp, Op.intCmp]
theorem Y.add (hx : ev E x = some (.int k i)) (hy : ev E y = some (.int k j)) (hr : k.wrap (i + j) = r) : Yp P E n ⟨d, .binOp .add T x y T2, T', p, af, none⟩ (.int k r) := fun a w s => by
  simp [execOp, s.eval hx, s.eval hy, eqGuard, binOp, Op.intArith, hr]
theorem Y.sub (hx : ev E x = some (.int k i)) (hy : ev E y = some (.int k j)) (hr : k.wrap (i - j) = r) : Yp P E n ⟨d, .binOp .sub T x y T2, T', p, af, none⟩ (.int k r) := fun a w s => by
  simp [execOp, s.eval hx, s.eval hy, eqGuard, binOp, Op.intArith, hr]
/-- '==' on structs or arrays, by its own law. -/
theorem Y.eqlA {xs ys : List Value} {b : Bool} (hg : P.eqGuardType P.depth T = false) (hx : ev E x = some (.agg xs.toArray)) (hy : ev E y = some (.agg ys.toArray)) (he : ∀ w, (Op.equalIn 10000 T (.agg xs.toArray) (.agg ys.toArray)).run P w = .ok b w) :
    Yp P E n ⟨d, .binOp .eql T x y T2, T', p, af, none⟩ (.bool b) := fun a w s => by
  have h := run_eqGuard_agg (P := P) w .eql T x y xs.toArray ys.toArray hg
  simp [execOp, s.eval hx, s.eval hy, h, binOp, Op.equal, Op.maxDepth, he w]
theorem Y.neqA {xs ys : List Value} {b : Bool} (hg : P.eqGuardType P.depth T = false) (hx : ev E x = some (.agg xs.toArray)) (hy : ev E y = some (.agg ys.toArray)) (he : ∀ w, (Op.equalIn 10000 T (.agg xs.toArray) (.agg ys.toArray)).run P w = .ok b w) :
    Yp P E n ⟨d, .binOp .neq T x y T2, T', p, af, none⟩ (.bool (!b)) := fun a w s => by
  have h := run_eqGuard_agg (P := P) w .neq T x y xs.toArray ys.toArray hg
  simp [execOp, s.eval hx, s.eval hy, h, binOp, Op.equal, Op.maxDepth, he w]
/-- An index into an array behind a pointer. -/
theorem Y.ixArr {b o len e sz : Nat} (hu : P.underlying T = some (.array len e)) (hs : ∀ w, (sizeOf e).run P w = .ok sz w) (hx : ev E x = some (.pointer (some ⟨b, o, none⟩))) (hy : ev E y = some (.int .i64 i)) (h0 : 0 ≤ i) (h1 : i < len) :
    Yp P E n ⟨d, .indexAddr T x y, T', p, af, none⟩ (.pointer (some ⟨b, o + i.toNat * sz, none⟩)) := fun a w s => by
  have e : (⟨b, o, none⟩ : Addr).add (i.toNat * sz) = ⟨b, o + i.toNat * sz, none⟩ := by unfold Addr.add; split <;> simp_all
  simp [execOp, s.eval hx, s.eval hy, Instr.indexAt, asIntOf, run_underlying hu, Instr.sureAddr, h0, h1, hs w, e]
/-- An index into a slice. -/
theorem Y.ixSl {b o len cap e sz : Nat} (hu : P.underlying T = some (.slice e)) (hs : ∀ w, (sizeOf e).run P w = .ok sz w) (hx : ev E x = some (.slice (some ⟨b, o, none⟩) len cap)) (hy : ev E y = some (.int .i64 i)) (h0 : 0 ≤ i) (h1 : i < len) :
    Yp P E n ⟨d, .indexAddr T x y, T', p, af, none⟩ (.pointer (some ⟨b, o + i.toNat * sz, none⟩)) := fun a w s => by
  have e : (⟨b, o, none⟩ : Addr).add (i.toNat * sz) = ⟨b, o + i.toNat * sz, none⟩ := by unfold Addr.add; split <;> simp_all
  simp [execOp, s.eval hx, s.eval hy, Instr.indexAt, asIntOf, run_underlying hu, h0, h1, hs w, e]
theorem Y.len {A : Option Addr} {len cap : Nat} {T3 e : TypeId} (hu : P.underlying T3 = some (.slice e)) (hx : ev E x = some (.slice A len cap)) : Yp P E n ⟨d, .call { callee := .builtin .len, args := #[x], argTypes := #[T3] }, T', p, af, none⟩ (.int .i64 len) := fun a w s => by
  simp [execOp, resolve, invoke, builtin, s.eval hx, Builtin.len_, run_underlying hu, goInt]
end
/-- A comparison or sum by a closed fact of its own. -/
theorem Y.binK {d : Option Nat} {op : BinOp} {x y : Operand} {T T' T2 : TypeId} {p : String} {af : Array Edge} {vx vy v : Value} (hx : ev E x = some vx) (hy : ev E y = some vy) (hb : ∀ w, (do eqGuard op T x y vx vy; binOp op T vx vy : Sem Value).run P w = .ok v w) :
    Yp P E n ⟨d, .binOp op T x y T2, T', p, af, none⟩ v := fun a w s => by
  show (do let u ← (do eqGuard op T x y (a.eval x) (a.eval y); binOp op T (a.eval x) (a.eval y) : Sem Value); pure (Next.value u)).run P w = _
  rw [s.eval hx, s.eval hy, Sem.run_bind, hb w]
  rfl
def evp (E : Env) : List (Nat × Operand) → Option (List (Nat × Value))
  | [] => some []
  | x :: xs => match ev E x.2 with
    | none => none
    | some v => match evp E xs with
      | none => none
      | some vs => some ((x.1, v) :: vs)
theorem EnvOf.evps {a : Act} (h : EnvOf E n a) : ∀ (xs : List (Nat × Operand)) (vs : List (Nat × Value)), evp E xs = some vs → xs.map (fun x : Nat × Operand => (x.1, a.eval x.2)) = vs
  | [], vs, hx => by simpa [evp] using hx
  | x :: xs, vs, hx => by
    unfold evp at hx
    split at hx
    · cases hx
    · rename_i v hv
      split at hx
      · cases hx
      · rename_i us hu
        obtain rfl := Option.some.inj hx
        simp [h.eval hv, h.evps xs us hu]
theorem Y.build {d : Option Nat} {T T' : TypeId} {p : String} {af : Array Edge} {parts : Array (Nat × Operand)} {vs : List (Nat × Value)} {v : Value} (hp : evp E parts.toList = some vs) (hb : ∀ w, (Instr.build T vs.toArray).run P w = .ok v w) :
    Yp P E n ⟨d, .build T parts, T', p, af, none⟩ v := fun a w s => by
  have h := s.evps _ _ hp
  have h2 : parts.map (fun x : Nat × Operand => (x.1, a.eval x.2)) = vs.toArray := by
    apply Array.toList_inj.1
    simpa using h
  simp only [execOp]
  show (do let v ← Instr.build T (parts.map fun x : Nat × Operand => (x.1, a.eval x.2)); pure (Next.value v)).run P w = _
  rw [h2, Sem.run_bind, hb w]
  rfl
theorem Y.slAll {d : Option Nat} {x : Operand} {T T' : TypeId} {p : String} {af : Array Edge} {v u : Value} (hx : ev E x = some v) (hs : ∀ w, (Instr.sliceAt T v none none none).run P w = .ok u w) :
    Yp P E n ⟨d, .slice T x none none none, T', p, af, none⟩ u := fun a w s => by
  show (do let u ← Instr.sliceAt T (a.eval x) none none none; pure (Next.value u)).run P w = _
  rw [s.eval hx, Sem.run_bind, hs w]
  rfl
theorem i64_in {i : Int} (h0 : -9223372036854775808 ≤ i) (h1 : i ≤ 9223372036854775807) : IntKind.i64.wrap i = i := IntWalk.i64_in i ⟨h0, h1⟩
/-- What is known of a bool in a slot, written out. -/
theorem known_env {a : Act} {t : Nat} {b r : Bool} (s : EnvOf E n a) (hl : look E t = some (.bool b)) (hr : b = r) : EnvOf ((t, .bool r) :: E) n a := ⟨s.size, fun t' v ht => by
  subst hr
  simp only [look] at ht
  cases hb : Nat.beq t t'
  · rw [hb] at ht; exact s.at_ t' v ht
  · rw [hb] at ht
    obtain rfl := Nat.eq_of_beq_eq_true hb
    exact s.at_ t v (hl.trans ht), s.defers⟩
theorem St.known {a : Act} {w : World} {t : Nat} {b r : Bool} (s : St E n H F w0 a w) (hl : look E t = some (.bool b)) (hr : b = r) : St ((t, .bool r) :: E) n H F w0 a w := ⟨known_env s.env hl hr, s.hp, s.fact, s.sep, s.low⟩
theorem WL.known {l : List Oper} {t : Nat} {b r : Bool} (hl : look E t = some (.bool b)) (hr : b = r) (h : WL P ops Q l ((t, .bool r) :: E) n H F w0) : WL P ops Q l E n H F w0 := fun a w s => h a w (s.known hl hr)
theorem WL.split {l : List Oper} {t : Nat} {b : Bool} (hl : look E t = some (.bool b)) (h : ∀ r, b = r → WL P ops Q l ((t, .bool r) :: E) n H F w0) : WL P ops Q l E n H F w0 := WL.known hl rfl (h b rfl)
/-! ### Operations that turn memory -/
/-- A step with its own effect. -/
theorem WL.step {o : Oper} (hg : o.guard = none) (h : ∀ a w, St E n H F w0 a w → o.wp P a w (fun a' w' => wpList P ops Q rest a' w') Q) : WL P ops Q (o :: rest) E n H F w0 := fun a w s => by
  unfold wpList
  rw [if_pos (by simp [Region.wanted, hg])]
  exact .inl (h a w s)
theorem run_newVar {w : World} {T : TypeId} {v : Value} : (newVar T v).run P w = .ok ⟨w.heap.size, 0, none⟩ (w.alloc (.cells v.cells T)) := by
  rfl
/-- What an operation does: the state behind it is one of those that i tells. -/
def Eff (P : Program) (E : Env) (n : Nat) (H : Hp) (F : SF) (w0 : World) (o : Oper) {ι : Type} (Ei : ι → Env) (Hi : ι → Hp) (Fi : ι → SF) : Prop :=
  ∀ a w, St E n H F w0 a w → ∀ (Q : Exit → Act → World → Prop) (K : Act → World → Prop), (∀ i a' w', a'.tmps.size = a.tmps.size → St (Ei i) n (Hi i) (Fi i) w0 a' w' → K a' w') → o.wp P a w K Q
theorem WL.eff {o : Oper} {ι : Type} {Ei : ι → Env} {Hi : ι → Hp} {Fi : ι → SF} (he : Eff P E n H F w0 o Ei Hi Fi) (hg : o.guard = none) (h : ∀ i, WL P ops Q rest (Ei i) n (Hi i) (Fi i) w0) : WL P ops Q (o :: rest) E n H F w0 :=
  WL.step hg fun a w s => he a w s Q _ fun i a' w' _ s' => h i a' w' s'
theorem put_size (a : Act) (d : Option Nat) (v : Value) : (a.put d v).tmps.size = a.tmps.size := by cases d <;> simp [Act.put]
theorem E.box {d : Nat} {x : Operand} {T T' : TypeId} {p : String} {af : Array Edge} {v : Value} {cs : List Value} (hx : ev E x = some v) (hv : v.cells = cs.toArray) (hn : Nat.blt d n = true) :
    Eff P E n H F w0 ⟨some d, .box T x, T', p, af, none⟩ (fun b : Nat => (d, .pointer (some ⟨b, 0, none⟩)) :: E) (fun b => (b, cs, T) :: H) (fun _ => F) := fun a w s Q K hK => by
  unfold Oper.wp
  simp only [execOp, s.env.eval hx, Instr.box, Sem.run_bind, run_newVar, Result.andThen_ok, Sem.run_pure, hv, Oper.upon_value]
  exact hK _ _ _ (put_size _ _ _) (s.new.put hn)
theorem E.alloc {d : Nat} {T T' : TypeId} {p : String} {af : Array Edge} {v : Value} {cs : List Value} (hz : ∀ w, (zeroValue T).run P w = .ok v w) (hv : v.cells = cs.toArray) (hn : Nat.blt d n = true) :
    Eff P E n H F w0 ⟨some d, .alloc T, T', p, af, none⟩ (fun b : Nat => (d, .pointer (some ⟨b, 0, none⟩)) :: E) (fun b => (b, cs, T) :: H) (fun _ => F) := fun a w s Q K hK => by
  unfold Oper.wp
  simp only [execOp, Instr.alloc, Sem.run_bind, hz w, run_newVar, Result.andThen_ok, Sem.run_pure, hv, Oper.upon_value]
  exact hK _ _ _ (put_size _ _ _) (s.new.put hn)
/-- Another list of cells in block b. -/
def Upd (b : Nat) (T : TypeId) (cs cs' : List Value) : Hp → Hp → Prop
  | [], _ => False
  | x :: H, H' => (x = (b, cs, T) ∧ H' = (b, cs', T) :: H) ∨ ∃ K, H' = x :: K ∧ Upd b T cs cs' H K
theorem Upd.here {b : Nat} {T : TypeId} {cs cs' : List Value} {H : Hp} : Upd b T cs cs' ((b, cs, T) :: H) ((b, cs', T) :: H) := .inl ⟨rfl, rfl⟩
theorem Upd.there {b : Nat} {T : TypeId} {x : Nat × List Value × TypeId} {cs cs' : List Value} {H H' : Hp} (h : Upd b T cs cs' H H') : Upd b T cs cs' (x :: H) (x :: H') := .inr ⟨H', rfl, h⟩
theorem m0 {x : Nat × List Value × TypeId} {l : Hp} : x ∈ x :: l := by simp
theorem u0 {b : Nat} {T : TypeId} {cs cs' : List Value} {l : Hp} : Upd b T cs cs' ((b, cs, T) :: l) ((b, cs', T) :: l) := Upd.here
theorem m1 {x : Nat × List Value × TypeId} {y0 : Nat × List Value × TypeId} {l : Hp} : x ∈ y0 :: x :: l := by simp
theorem u1 {b : Nat} {T : TypeId} {cs cs' : List Value} {y0 : Nat × List Value × TypeId} {l : Hp} : Upd b T cs cs' (y0 :: (b, cs, T) :: l) (y0 :: (b, cs', T) :: l) := Upd.there (Upd.here)
theorem m2 {x : Nat × List Value × TypeId} {y0 y1 : Nat × List Value × TypeId} {l : Hp} : x ∈ y0 :: y1 :: x :: l := by simp
theorem u2 {b : Nat} {T : TypeId} {cs cs' : List Value} {y0 y1 : Nat × List Value × TypeId} {l : Hp} : Upd b T cs cs' (y0 :: y1 :: (b, cs, T) :: l) (y0 :: y1 :: (b, cs', T) :: l) := Upd.there (Upd.there (Upd.here))
theorem m3 {x : Nat × List Value × TypeId} {y0 y1 y2 : Nat × List Value × TypeId} {l : Hp} : x ∈ y0 :: y1 :: y2 :: x :: l := by simp
theorem u3 {b : Nat} {T : TypeId} {cs cs' : List Value} {y0 y1 y2 : Nat × List Value × TypeId} {l : Hp} : Upd b T cs cs' (y0 :: y1 :: y2 :: (b, cs, T) :: l) (y0 :: y1 :: y2 :: (b, cs', T) :: l) := Upd.there (Upd.there (Upd.there (Upd.here)))
theorem m4 {x : Nat × List Value × TypeId} {y0 y1 y2 y3 : Nat × List Value × TypeId} {l : Hp} : x ∈ y0 :: y1 :: y2 :: y3 :: x :: l := by simp
theorem u4 {b : Nat} {T : TypeId} {cs cs' : List Value} {y0 y1 y2 y3 : Nat × List Value × TypeId} {l : Hp} : Upd b T cs cs' (y0 :: y1 :: y2 :: y3 :: (b, cs, T) :: l) (y0 :: y1 :: y2 :: y3 :: (b, cs', T) :: l) := Upd.there (Upd.there (Upd.there (Upd.there (Upd.here))))
theorem m5 {x : Nat × List Value × TypeId} {y0 y1 y2 y3 y4 : Nat × List Value × TypeId} {l : Hp} : x ∈ y0 :: y1 :: y2 :: y3 :: y4 :: x :: l := by simp
theorem u5 {b : Nat} {T : TypeId} {cs cs' : List Value} {y0 y1 y2 y3 y4 : Nat × List Value × TypeId} {l : Hp} : Upd b T cs cs' (y0 :: y1 :: y2 :: y3 :: y4 :: (b, cs, T) :: l) (y0 :: y1 :: y2 :: y3 :: y4 :: (b, cs', T) :: l) := Upd.there (Upd.there (Upd.there (Upd.there (Upd.there (Upd.here)))))
theorem m6 {x : Nat × List Value × TypeId} {y0 y1 y2 y3 y4 y5 : Nat × List Value × TypeId} {l : Hp} : x ∈ y0 :: y1 :: y2 :: y3 :: y4 :: y5 :: x :: l := by simp
theorem u6 {b : Nat} {T : TypeId} {cs cs' : List Value} {y0 y1 y2 y3 y4 y5 : Nat × List Value × TypeId} {l : Hp} : Upd b T cs cs' (y0 :: y1 :: y2 :: y3 :: y4 :: y5 :: (b, cs, T) :: l) (y0 :: y1 :: y2 :: y3 :: y4 :: y5 :: (b, cs', T) :: l) := Upd.there (Upd.there (Upd.there (Upd.there (Upd.there (Upd.there (Upd.here))))))
theorem m7 {x : Nat × List Value × TypeId} {y0 y1 y2 y3 y4 y5 y6 : Nat × List Value × TypeId} {l : Hp} : x ∈ y0 :: y1 :: y2 :: y3 :: y4 :: y5 :: y6 :: x :: l := by simp
theorem u7 {b : Nat} {T : TypeId} {cs cs' : List Value} {y0 y1 y2 y3 y4 y5 y6 : Nat × List Value × TypeId} {l : Hp} : Upd b T cs cs' (y0 :: y1 :: y2 :: y3 :: y4 :: y5 :: y6 :: (b, cs, T) :: l) (y0 :: y1 :: y2 :: y3 :: y4 :: y5 :: y6 :: (b, cs', T) :: l) := Upd.there (Upd.there (Upd.there (Upd.there (Upd.there (Upd.there (Upd.there (Upd.here)))))))
theorem Upd.mem {b : Nat} {T : TypeId} {cs cs' : List Value} : ∀ {H H' : Hp}, Upd b T cs cs' H H' → (b, cs, T) ∈ H
  | [], _, h => h.elim
  | x :: H, H', h => by
    rcases h with ⟨rfl, _⟩ | ⟨K, _, h⟩
    · exact List.Mem.head _
    · exact List.Mem.tail _ h.mem
theorem Upd.ids {b : Nat} {T : TypeId} {cs cs' : List Value} : ∀ {H H' : Hp}, Upd b T cs cs' H H' → H'.map (·.1) = H.map (·.1)
  | [], _, h => h.elim
  | x :: H, H', h => by
    rcases h with ⟨rfl, rfl⟩ | ⟨K, rfl, h⟩
    · rfl
    · simp [h.ids]
theorem Upd.of {b : Nat} {T : TypeId} {cs cs' : List Value} : ∀ {H H' : Hp}, Upd b T cs cs' H H' → (H.Pairwise fun x y => x.1 ≠ y.1) → ∀ y ∈ H', y = (b, cs', T) ∨ (y ∈ H ∧ y.1 ≠ b)
  | [], _, h, _ => h.elim
  | x :: H, H', h, hn => by
    intro y hy
    rcases h with ⟨rfl, rfl⟩ | ⟨K, rfl, h⟩
    · rcases List.mem_cons.1 hy with rfl | hy
      · exact .inl rfl
      · exact .inr ⟨List.Mem.tail _ hy, fun e => (List.pairwise_cons.1 hn).1 y hy e.symm⟩
    · rcases List.mem_cons.1 hy with rfl | hy
      · exact .inr ⟨List.Mem.head _, fun e => (List.pairwise_cons.1 hn).1 _ h.mem e⟩
      · rcases h.of (List.pairwise_cons.1 hn).2 y hy with e | ⟨h1, h2⟩
        · exact .inl e
        · exact .inr ⟨List.Mem.tail _ h1, h2⟩
/-- Block b alone has turned. -/
structure One (b : Nat) (T : TypeId) (cs : List Value) (w w' : World) : Prop where
  os : w'.os = w.os
  tape : w'.tape = w.tape
  output : w'.output = w.output
  size : w'.heap.size = w.heap.size
  far : ∀ k, k ≠ b → w'.heap[k]? = w.heap[k]?
  at_ : w'.heap[b]? = some (.cells cs.toArray T)
theorem St.one {a : Act} {w w' : World} {b : Nat} {T : TypeId} {cs cs' : List Value} {H' : Hp} (s : St E n H F w0 a w) (u : Upd b T cs cs' H H') (h : One b T cs' w w') : St E n H' F w0 a w' := by
  have hm := u.mem
  have hb := s.hp.blk _ hm
  have hsep : ∀ k, F.fp w k → w'.heap[k]? = w.heap[k]? := fun k hk => h.far k fun e => by subst e; exact s.sep _ hm hk
  have hf := F.st w w' s.fact hsep
  have hids : H'.map (·.1) = H.map (·.1) := u.ids
  refine ⟨s.env, ⟨fun x hx => ?_, ?_⟩, hf.1, fun x hx hk => ?_, ⟨h.os.trans s.low.os, h.tape.trans s.low.tape, h.output.trans s.low.output, by rw [h.size]; exact s.low.size, fun k hk => ?_⟩⟩
  · rcases u.of s.hp.nd x hx with rfl | ⟨h1, h2⟩
    · exact ⟨h.at_, hb.2⟩
    · exact ⟨(h.far _ h2).trans (s.hp.blk x h1).1, (s.hp.blk x h1).2⟩
  · have h1 : (H.map (·.1)).Pairwise (· ≠ ·) := List.pairwise_map.2 s.hp.nd
    rw [← hids] at h1
    exact List.pairwise_map.1 h1
  · have h2 : x.1 ∈ H.map (·.1) := by rw [← hids]; exact List.mem_map_of_mem hx
    obtain ⟨y, hy, he⟩ := List.mem_map.1 h2
    exact s.sep y hy (by rw [he]; exact hf.2 _ hk)
  · have : k ≠ b := by have := hb.2; simp at this; omega
    rw [h.far k this]
    exact s.low.block k hk
theorem setCell_one {w : World} {b o : Nat} {T : TypeId} {cs : List Value} {v : Value} (h : w.heap[b]? = some (.cells cs.toArray T)) : One b T (cs.set o v) w (w.setCell ⟨b, o, none⟩ v) := by
  refine ⟨rfl, rfl, rfl, by simp [World.setCell], fun k hk => Below.heap_setCell w ⟨b, o, none⟩ v k hk, ?_⟩
  simp [World.setCell, Array.getElem?_modify, h]
theorem One.trans {b : Nat} {T : TypeId} {cs cs' : List Value} {w w' w'' : World} (h : One b T cs w w') (k : One b T cs' w' w'') : One b T cs' w w'' :=
  ⟨k.os.trans h.os, k.tape.trans h.tape, k.output.trans h.output, k.size.trans h.size, fun i hi => (k.far i hi).trans (h.far i hi), k.at_⟩
/-- The cells with others from i on. -/
def put : List Value → Nat → List Value → List Value
  | l, _, [] => l
  | [], _, _ :: _ => []
  | _ :: l, 0, v :: vs => v :: put l 0 vs
  | x :: l, i + 1, v :: vs => x :: put l i (v :: vs)
theorem put_nil (l : List Value) (i : Nat) : put l i [] = l := by cases l <;> cases i <;> rfl
theorem put_cons : ∀ (l : List Value) (i : Nat) (v : Value) (vs : List Value), put l i (v :: vs) = put (l.set i v) (i + 1) vs
  | [], i, v, vs => by cases vs <;> simp [put]
  | x :: l, 0, v, vs => by
    cases vs with
    | nil => simp [put, put_nil]
    | cons u us => simp [put]
  | x :: l, i + 1, v, vs => by
    cases vs with
    | nil =>
      show x :: put l i [v] = _
      rw [put_cons l i v [], put_nil, put_nil]; rfl
    | cons u us =>
      show x :: put l i (v :: u :: us) = _
      rw [put_cons l i v (u :: us)]; rfl
theorem run_store_cell {w : World} {b o : Nat} {T : TypeId} {cs : List Value} {v : Value} (h : w.heap[b]? = some (.cells cs.toArray T)) (ho : o < cs.length) (hv : v.oneCell' = true) :
    (store ⟨b, o, none⟩ v).run P w = .ok () (w.setCell ⟨b, o, none⟩ v) := by
  have hc : w.cell? ⟨b, o, none⟩ = some cs[o] := by simp [World.cell?, h, ho]
  have hf : w.frozen? ⟨b, o, none⟩ = false := by simp [World.frozen?, h]
  cases v <;> simp [Value.oneCell'] at hv <;> simp [store, Sem.run, hc, hf]
theorem run_storeCells {b o : Nat} {T : TypeId} : ∀ (vs : List Value) (i : Nat) (cs : List Value) (w : World), w.heap[b]? = some (.cells cs.toArray T) → o + i + vs.length ≤ cs.length → (∀ v ∈ vs, v.oneCell' = true) →
    ∃ w', (storeCells ⟨b, o, none⟩ vs i).run P w = .ok () w' ∧ One b T (put cs (o + i) vs) w w'
  | [], i, cs, w, h, _, _ => ⟨w, by simp [storeCells], by rw [put_nil]; exact ⟨rfl, rfl, rfl, rfl, fun _ _ => rfl, h⟩⟩
  | v :: vs, i, cs, w, h, hl, h1 => by
    simp only [List.length_cons] at hl
    have e : (⟨b, o, none⟩ : Addr).add i = ⟨b, o + i, none⟩ := by unfold Addr.add; split <;> simp_all
    have h2 := setCell_one (o := o + i) (v := v) h
    obtain ⟨w', hr, ho⟩ := run_storeCells (b := b) (o := o) (T := T) vs (i + 1) (cs.set (o + i) v) _ h2.at_ (by simp; omega) (fun u hu => h1 u (List.Mem.tail _ hu))
    refine ⟨w', ?_, ?_⟩
    · unfold storeCells
      rw [Sem.run_bind, e, run_store_cell (o := o + i) h (by omega) (h1 v (List.Mem.head _))]
      exact hr
    · rw [put_cons]
      exact h2.trans ho
theorem E.store {x y : Operand} {T T' T2 : TypeId} {p : String} {af : Array Edge} {b o k : Nat} {v : Value} {cs vs cs' : List Value} {H' : Hp} (hs : ∀ w, (sizeOf T).run P w = .ok k w) (hx : ev E x = some (.pointer (some ⟨b, o, none⟩))) (hy : ev E y = some v)
    (hv : v.cells = vs.toArray) (hk : vs.length = k) (h1 : (vs.all Value.oneCell') = true) (hu : Upd b T2 cs cs' H H') (hl : Nat.ble (o + k) cs.length = true) (he : Proofs.Ytmfjhacgpopijaa.put cs o vs = cs') :
    Eff P E n H F w0 ⟨none, .store T x y, T', p, af, none⟩ (fun _ : Unit => E) (fun _ => H') (fun _ => F) := fun a w s Q K hK => by
  obtain ⟨w', hr, ho⟩ := run_storeCells (P := P) (b := b) (o := o) (T := T2) vs 0 cs w (s.hp.blk _ hu.mem).1 (by have := Nat.le_of_ble_eq_true hl; omega) (fun v hv => List.all_eq_true.1 h1 v hv)
  rw [Nat.add_zero, he] at ho
  unfold Oper.wp
  have hsz : vs.toArray.size = k := by simpa using hk
  simp only [execOp, s.env.eval hx, s.env.eval hy, Instr.storeAt, Instr.sureAddr, storeVar, Sem.run_bind, hs w, Result.andThen_ok, Sem.run_pure, hv, hsz, ne_eq, not_true_eq_false, if_false, hr, Oper.upon_skip]
  exact hK () _ _ rfl (s.one hu ho)
theorem E.storeP {x y : Operand} {T T' T2 : TypeId} {p : String} {af : Array Edge} {b o k : Nat} {v : Value} {cs vs cs' : List Value} {H' : Hp} (hs : ∀ w, (sizeOf T).run P w = .ok k w) (hx : ev E x = some (.pointer (some ⟨b, o, none⟩))) (hy : ev E y = some v)
    (hv : v.cells = vs.toArray) (hk : vs.length = k) (h1 : (vs.all Value.oneCell') = true) (hu : Upd b T2 cs cs' H H') (hl : o + k ≤ cs.length) (he : Proofs.Ytmfjhacgpopijaa.put cs o vs = cs') :
    Eff P E n H F w0 ⟨none, .store T x y, T', p, af, none⟩ (fun _ : Unit => E) (fun _ => H') (fun _ => F) := fun a w s Q K hK => by
  obtain ⟨w', hr, ho⟩ := run_storeCells (P := P) (b := b) (o := o) (T := T2) vs 0 cs w (s.hp.blk _ hu.mem).1 (by omega) (fun v hv => List.all_eq_true.1 h1 v hv)
  rw [Nat.add_zero, he] at ho
  unfold Oper.wp
  have hsz : vs.toArray.size = k := by simpa using hk
  simp only [execOp, s.env.eval hx, s.env.eval hy, Instr.storeAt, Instr.sureAddr, storeVar, Sem.run_bind, hs w, Result.andThen_ok, Sem.run_pure, hv, hsz, ne_eq, not_true_eq_false, if_false, hr, Oper.upon_skip]
  exact hK () _ _ rfl (s.one hu ho)
theorem E.buildSlice {d : Nat} {T T' k : Nat} {p : String} {af : Array Edge} {parts : Array (Nat × Operand)} {vs : List (Nat × Value)} {cs : List Value} {T2 : TypeId}
    (hb : ∀ w, (Instr.buildSlice T k vs.toArray).run P w = .ok (.slice (some ⟨w.heap.size, 0, none⟩) k k) (w.alloc (.cells cs.toArray T2))) (hp : evp E parts.toList = some vs) (hn : Nat.blt d n = true) :
    Eff P E n H F w0 ⟨some d, .buildSlice T k parts, T', p, af, none⟩ (fun b : Nat => (d, .slice (some ⟨b, 0, none⟩) k k) :: E) (fun b => (b, cs, T2) :: H) (fun _ => F) := fun a w s Q K hK => by
  have h := s.env.evps _ _ hp
  have h2 : parts.map (fun x : Nat × Operand => (x.1, a.eval x.2)) = vs.toArray := by
    apply Array.toList_inj.1
    simpa using h
  have h3 : (execOp a.eval ⟨some d, .buildSlice T k parts, T', p, af, none⟩).run P w = .ok (.value (.slice (some ⟨w.heap.size, 0, none⟩) k k)) (w.alloc (.cells cs.toArray T2)) := by
    show (do let v ← Instr.buildSlice T k (parts.map fun x : Nat × Operand => (x.1, a.eval x.2)); pure (Next.value v)).run P w = _
    rw [h2, Sem.run_bind, hb w]
    rfl
  unfold Oper.wp
  rw [h3, Oper.upon_value]
  exact hK _ _ _ (put_size _ _ _) (s.new.put hn)
/-! Calls. -/
theorem run_call {f : FuncId} {a : Act} {w : World} {args : Array Operand} {ts : Array TypeId} {d : Option Nat} {T' : TypeId} {p : String} {af : Array Edge} {vs : List Value} (hf : ∀ (args : Array Value) (w : World), (callFunc f args).run P w = .ok (.enter f args) w)
    (he : EnvOf E n a) (hx : evs E args.toList = some vs) : (execOp a.eval ⟨d, .call { callee := .value (.func f), args := args, argTypes := ts }, T', p, af, none⟩).run P w = .ok (.enter f vs.toArray) w := by
  have h := he.evals _ _ hx
  have h2 : args.map a.eval = vs.toArray := by
    apply Array.toList_inj.1
    simpa using h
  have h3 : a.eval (.func f) = .func (.func f) #[] #[] := rfl
  simp only [execOp, resolve, h2, h3, Deferred.ofValue, Sem.run_bind, Sem.run_pure, Result.andThen_ok, invoke]
  simp [hf]
/-- A call that returns v and only makes new blocks. -/
def Ret (P : Program) (f : FuncId) (vs : List Value) (w : World) (v : Value) : Prop := Calls P f vs.toArray w fun e w' => e = .returned v ∧ Below w.heap.size w w'
theorem E.call {f : FuncId} {args : Array Operand} {ts : Array TypeId} {d : Nat} {T' : TypeId} {p : String} {af : Array Edge} {vs : List Value} {v : Value} (hf : ∀ (args : Array Value) (w : World), (callFunc f args).run P w = .ok (.enter f args) w)
    (hx : evs E args.toList = some vs) (hc : ∀ a w, St E n H F w0 a w → Ret P f vs w v) (hn : Nat.blt d n = true) :
    Eff P E n H F w0 ⟨some d, .call { callee := .value (.func f), args := args, argTypes := ts }, T', p, af, none⟩ (fun _ : Unit => (d, v) :: E) (fun _ => H) (fun _ => F) := fun a w s Q K hK => by
  unfold Oper.wp
  rw [run_call hf s.env hx, Oper.upon_enter]
  exact (hc a w s).mono fun e w' ⟨he, hb⟩ => by subst he; exact hK () _ _ (put_size _ _ _) ((s.grow hb).put hn)
/-- A call that returns one of many values, with a fact on it: blocks that are new, or older than the call's own. -/
theorem E.callF {ι : Type} {f : FuncId} {args : Array Operand} {ts : Array TypeId} {d : Nat} {T' : TypeId} {p : String} {af : Array Edge} {vs : List Value} (val : ι → Value) (G : ι → SF) (hf : ∀ (args : Array Value) (w : World), (callFunc f args).run P w = .ok (.enter f args) w)
    (hx : evs E args.toList = some vs) (hc : ∀ a w, St E n H F w0 a w → Calls P f vs.toArray w fun e w' => ∃ i, e = .returned (val i) ∧ Below w.heap.size w w' ∧ (G i).p w' ∧ ∀ b, (G i).fp w' b → w.heap.size ≤ b ∨ b < w0.heap.size) (hn : Nat.blt d n = true) :
    Eff P E n H F w0 ⟨some d, .call { callee := .value (.func f), args := args, argTypes := ts }, T', p, af, none⟩ (fun i => (d, val i) :: E) (fun _ => H) (fun i => F.and (G i)) := fun a w s Q K hK => by
  unfold Oper.wp
  rw [run_call hf s.env hx, Oper.upon_enter]
  refine (hc a w s).mono fun e w' ⟨i, he, hb, hg, hfp⟩ => ?_
  subst he
  have g := s.grow hb
  refine hK i _ _ (put_size _ _ _) (St.put ⟨g.env, g.hp, ⟨g.fact, hg⟩, fun x hx hk => ?_, g.low⟩ hn)
  rcases hk with hk | hk
  · exact g.sep x hx hk
  · have h1 := s.hp.lt hx
    have h2 := (s.hp.blk x hx).2
    rcases hfp _ hk with h3 | h3 <;> omega
theorem run_callV {f : FuncId} {g : Nat} {a : Act} {w : World} {args : Array Operand} {ts : Array TypeId} {d : Option Nat} {T' : TypeId} {p : String} {af : Array Edge} {vs : List Value} (hf : ∀ (args : Array Value) (w : World), (callFunc f args).run P w = .ok (.enter f args) w)
    (he : EnvOf E n a) (hg : look E g = some (.func (.func f) #[] #[])) (hx : evs E args.toList = some vs) : (execOp a.eval ⟨d, .call { callee := .value (.tmp g), args := args, argTypes := ts }, T', p, af, none⟩).run P w = .ok (.enter f vs.toArray) w := by
  have h := he.evals _ _ hx
  have h2 : args.map a.eval = vs.toArray := by
    apply Array.toList_inj.1
    simpa using h
  have h3 : a.eval (.tmp g) = .func (.func f) #[] #[] := he.eval (x := .tmp g) hg
  simp only [execOp, resolve, h2, h3, Deferred.ofValue, Sem.run_bind, Sem.run_pure, Result.andThen_ok, invoke]
  simp [hf]
/-- A call of a function value. -/
theorem E.callV {f : FuncId} {g : Nat} {args : Array Operand} {ts : Array TypeId} {d : Nat} {T' : TypeId} {p : String} {af : Array Edge} {vs : List Value} {v : Value} (hf : ∀ (args : Array Value) (w : World), (callFunc f args).run P w = .ok (.enter f args) w)
    (hg : look E g = some (.func (.func f) #[] #[])) (hx : evs E args.toList = some vs) (hc : ∀ a w, St E n H F w0 a w → Ret P f vs w v) (hn : Nat.blt d n = true) :
    Eff P E n H F w0 ⟨some d, .call { callee := .value (.tmp g), args := args, argTypes := ts }, T', p, af, none⟩ (fun _ : Unit => (d, v) :: E) (fun _ => H) (fun _ => F) := fun a w s Q K hK => by
  unfold Oper.wp
  rw [run_callV hf s.env hg hx, Oper.upon_enter]
  exact (hc a w s).mono fun e w' ⟨he, hb⟩ => by subst he; exact hK () _ _ (put_size _ _ _) ((s.grow hb).put hn)
/-! ### Code -/
/-- What is next. -/
def WQ (Q : Exit → Act → World → Prop) (e : Exit) (E : Env) (n : Nat) (H : Hp) (F : SF) (w0 : World) : Prop := ∀ a w, St E n H F w0 a w → Q e a w
theorem WC.seq {x y : Code} (h : WC P x (Exit.then (fun a w => y.wp P Q a w) Q) E n H F w0) : WC P (.seq x y) Q E n H F w0 := fun a w s => wp_seq (h a w s)
theorem WC.skip (h : ∀ a w, St E n H F w0 a w → Q .normal a w) : WC P .skip Q E n H F w0 := fun a w s => wp_skip (h a w s)
theorem WC.region {id : Nat} {l : List Oper} (h : WL P l.toArray Q l E n H F w0) : WC P (.region id l.toArray false) Q E n H F w0 := fun a w s => wp_region_lit (h a w s)
theorem WC.cond {c : Operand} {x y : Code} {b : Bool} (hc : ev E c = some (.bool b)) (ht : b = true → WC P x Q E n H F w0) (hf : b = false → WC P y Q E n H F w0) : WC P (.cond c x y) Q E n H F w0 := fun a w s =>
  wp_cond_split (s.env.eval hc) (fun hb => ht hb a w s) (fun hb => hf hb a w s)
theorem WC.condT {c : Operand} {x y : Code} (hc : ev E c = some (.bool true)) (ht : WC P x Q E n H F w0) : WC P (.cond c x y) Q E n H F w0 := fun a w s => wp_cond_true (s.env.eval hc) (ht a w s)
theorem WC.condF {c : Operand} {x y : Code} (hc : ev E c = some (.bool false)) (hf : WC P y Q E n H F w0) : WC P (.cond c x y) Q E n H F w0 := fun a w s => wp_cond_false (s.env.eval hc) (hf a w s)
theorem WC.isT {c : Operand} {x y : Code} {b : Bool} (hc : ev E c = some (.bool b)) (hb : b = true) (ht : WC P x Q E n H F w0) : WC P (.cond c x y) Q E n H F w0 := by subst hb; exact WC.condT hc ht
theorem WC.isF {c : Operand} {x y : Code} {b : Bool} (hc : ev E c = some (.bool b)) (hb : b = false) (ht : WC P y Q E n H F w0) : WC P (.cond c x y) Q E n H F w0 := by subst hb; exact WC.condF hc ht
/-- Some slots are forgotten. -/
def dropE (ds : List Nat) : Env → Env
  | [] => []
  | (k, v) :: E => cond (ds.any (Nat.beq k)) (dropE ds E) ((k, v) :: dropE ds E)
theorem sub_drop (ds : List Nat) : ∀ E : Env, sub (dropE ds E) E
  | [] => sub_nil _
  | e :: E => fun t v h => by
    simp only [dropE] at h
    have ih := sub_drop ds E t v
    cases hc : ds.any (Nat.beq e.1) <;> simp only [hc, cond_true, cond_false] at h
    · simp only [look] at h ⊢
      cases hb : Nat.beq e.1 t <;> simp only [hb, cond_true, cond_false] at h ⊢
      · exact ih h
      · exact h
    · simp only [look]
      cases hb : Nat.beq e.1 t
      · exact ih h
      · exfalso
        obtain rfl := Nat.eq_of_beq_eq_true hb
        exact absurd h (by
          have key : ∀ E : Env, look (dropE ds E) e.1 = none := by
            intro E
            induction E with
            | nil => rfl
            | cons x E ih =>
              simp only [dropE]
              cases hx : ds.any (Nat.beq x.1)
              · simp only [cond_false, look]
                cases hy : Nat.beq x.1 e.1
                · exact ih
                · obtain h3 := Nat.eq_of_beq_eq_true hy
                  rw [h3] at hx; rw [hx] at hc; cases hc
              · exact ih
          rw [key E]
          simp)
theorem WC.drop {c : Code} (ds : List Nat) (h : WC P c Q (dropE ds E) n H F w0) : WC P c Q E n H F w0 := WC.weak (sub_drop ds E) h
theorem WQ.and {e : Exit} (h : WQ Q e E n H F w0) : WQ (fun e' a w => e' = e ∧ Q e' a w) e E n H F w0 := fun a w s => ⟨rfl, h a w s⟩
theorem WC.block {id : Nat} {c : Code} (h : WC P c (Exit.inBlock id Q) E n H F w0) : WC P (.block id c) Q E n H F w0 := fun a w s => wp_block (h a w s)
theorem WL.nil (h : WQ Q .normal E n H F w0) : WL P ops Q [] E n H F w0 := fun a w s => wpList_nil (h a w s)
theorem WC.skip' (h : WQ Q .normal E n H F w0) : WC P .skip Q E n H F w0 := fun a w s => wp_skip (h a w s)
theorem WC.ret (h : WQ Q .ret E n H F w0) : WC P .ret Q E n H F w0 := fun a w s => wp_ret (h a w s)
theorem WC.exit {id : Nat} (h : WQ Q (.exit id) E n H F w0) : WC P (.exit id) Q E n H F w0 := fun a w s => wp_exit (h a w s)
theorem WQ.next {y : Code} (h : WC P y Q E n H F w0) : WQ (Exit.then (fun a w => y.wp P Q a w) Q) .normal E n H F w0 := fun a w s => h a w s
theorem WQ.thenRet {K : Act → World → Prop} (h : WQ Q .ret E n H F w0) : WQ (Exit.then K Q) .ret E n H F w0 := fun a w s => h a w s
theorem WQ.thenExit {K : Act → World → Prop} {id : Nat} (h : WQ Q (.exit id) E n H F w0) : WQ (Exit.then K Q) (.exit id) E n H F w0 := fun a w s => h a w s
theorem WQ.blockRet {id : Nat} (h : WQ Q .ret E n H F w0) : WQ (Exit.inBlock id Q) .ret E n H F w0 := fun a w s => h a w s
theorem WQ.blockEnd {id : Nat} (h : WQ Q .normal E n H F w0) : WQ (Exit.inBlock id Q) .normal E n H F w0 := fun a w s => h a w s
theorem WQ.blockExit {id : Nat} (h : WQ Q .normal E n H F w0) : WQ (Exit.inBlock id Q) (.exit id) E n H F w0 := fun a w s => by
  simp only [Exit.inBlock, if_true]; exact h a w s
theorem WQ.blockPass {id id' : Nat} (hne : Nat.beq id' id = false) (h : WQ Q (.exit id') E n H F w0) : WQ (Exit.inBlock id Q) (.exit id') E n H F w0 := fun a w s => by
  simp only [Exit.inBlock]
  rw [if_neg (fun e => by subst e; simp at hne)]
  exact h a w s
/-- A loop: i tells how far it is. -/
theorem WC.loop {ι : Type} {c : Code} (Ei : ι → Env) (Hi : ι → Hp) (Fi : ι → SF) (I : ι → Prop) (μ : ι → Nat) (i0 : ι) (h0 : I i0) (hE : WQ (fun _ a w => St (Ei i0) n (Hi i0) (Fi i0) w0 a w) .normal E n H F w0)
    (round : ∀ i, I i → WC P c (Exit.then (fun a w => ∃ j, I j ∧ μ j < μ i ∧ St (Ei j) n (Hi j) (Fi j) w0 a w) Q) (Ei i) n (Hi i) (Fi i) w0) : WC P (.loop c) Q E n H F w0 := fun a w s => by
  intro b k cs
  have key : ∀ m i, μ i = m → I i → ∀ a w, St (Ei i) n (Hi i) (Fi i) w0 a w → ∃ e a' w', Q e a' w' ∧ Arrives P (lone (b.at a (.code c :: .inLoop c :: k)) cs w) b k cs e a' w' := by
    intro m
    induction m using Nat.strongRecOn with
    | _ m ih =>
      intro i hm hi a w s
      obtain ⟨e, a₁, w₁, hq, harr⟩ := round i hi a w s b (.inLoop c :: k) cs
      cases e with
      | normal =>
        obtain ⟨j, hj, hlt, hs⟩ := hq
        obtain ⟨e₂, a₂, w₂, hq₂, harr₂⟩ := ih (μ j) (by omega) j rfl hj a₁ w₁ hs
        exact ⟨e₂, a₂, w₂, hq₂, .of_steps (Steps.trans harr (.one step_inLoop)) harr₂⟩
      | exit id => exact ⟨_, a₁, w₁, hq, .pass (x := .inLoop c) rfl (fun _ _ => .inl (by simp)) harr⟩
      | goto l => exact ⟨_, a₁, w₁, hq, .pass (x := .inLoop c) rfl (fun _ _ => .inl (by simp)) harr⟩
      | ret => exact ⟨_, a₁, w₁, hq, .pass (x := .inLoop c) rfl (fun _ _ => .inl (by simp)) harr⟩
      | panic ch => exact ⟨_, a₁, w₁, hq, .pass (x := .inLoop c) rfl (fun _ _ => .inl (by simp)) harr⟩
      | outgrown => exact ⟨_, a₁, w₁, hq, .pass (x := .inLoop c) rfl (fun _ _ => .inl (by simp)) harr⟩
  obtain ⟨e, a', w', hq, harr⟩ := key _ i0 rfl h0 a w (hE a w s)
  exact ⟨e, a', w', hq, .of_steps (.one step_loop) harr⟩
/-! ### Steps in few words -/
theorem pP {op : Op} {d : Nat} {T : TypeId} {p : String} {af : Array Edge} {v : Value} (hy : Yp P E n ⟨some d, op, T, p, af, none⟩ v) (hn : Nat.blt d n = true) (h : WL P ops Q rest ((d, v) :: E) n H F w0) : WL P ops Q (⟨some d, op, T, p, af, none⟩ :: rest) E n H F w0 := WL.pure hy rfl rfl hn h
theorem pM {x : Operand} {d : Nat} {T : TypeId} {p : String} {af : Array Edge} {v : Value} (hx : ev E x = some v) (hn : Nat.blt d n = true) (h : WL P ops Q rest ((d, v) :: E) n H F w0) : WL P ops Q (⟨some d, .move x, T, p, af, none⟩ :: rest) E n H F w0 := pP (Y.move hx) hn h
theorem pA {x : Operand} {d : Nat} {T : TypeId} {p : String} {af : Array Edge} {v : Value} (hx : ev E x = some v) (hn : Nat.blt d n = true) (h : WL P ops Q rest ((d, v) :: E) n H F w0) : WL P ops Q (⟨some d, .assign x, T, p, af, none⟩ :: rest) E n H F w0 := pP (Y.assign hx) hn h
theorem pV {op : Op} {d : Nat} {T : TypeId} {p : String} {af : Array Edge} {v : Value} (hy : Yv P E n H F w0 ⟨some d, op, T, p, af, none⟩ v) (hn : Nat.blt d n = true) (h : WL P ops Q rest ((d, v) :: E) n H F w0) : WL P ops Q (⟨some d, op, T, p, af, none⟩ :: rest) E n H F w0 := WL.val hy rfl rfl hn h
/-- Is the operation carried out? -/
def gtB (ops : Array Oper) (E : Env) (o : Oper) : Bool := match o.guard with
  | none => false
  | some (g, b) => match (ops[g]?).bind (·.dst) with
    | none => false
    | some dg => match look E dg with
      | some (.bool c) => c == b
      | _ => false
/-- Is it skipped? -/
def gfB (ops : Array Oper) (E : Env) (n : Nat) (o : Oper) : Option Nat := match o.guard with
  | none => none
  | some (g, b) => match (ops[g]?).bind (·.dst) with
    | none => none
    | some dg => match look E dg with
      | none => none
      | some (.bool c) => cond (c == b) none (match o.dst with | none => none | some d => cond (Nat.blt d n) (some d) none)
      | some _ => match o.dst with | none => none | some d => cond (Nat.blt d n) (some d) none
theorem gtB_at {o : Oper} (h : gtB ops E o = true) {a : Act} (s : EnvOf E n a) : ∃ g b, o.guard = some (g, b) ∧ yielded ops a.tmps g = some b := by
  unfold gtB at h
  split at h
  · cases h
  · rename_i g b hg
    refine ⟨g, b, hg, ?_⟩
    split at h
    · cases h
    · rename_i dg hd
      split at h
      · rename_i c hc
        have h1 := s.at_ _ _ hc
        simp only [beq_iff_eq] at h
        subst h
        simp [yielded, hd, h1]
      · cases h
theorem gfB_at {o : Oper} {d : Nat} (h : gfB ops E n o = some d) : o.dst = some d ∧ Nat.blt d n = true ∧ ∀ {a : Act}, EnvOf E n a → Region.wanted o (yielded ops a.tmps) = false := by
  have key : ∀ {x : Option Nat}, (match x with | none => none | some d => cond (Nat.blt d n) (some d) none) = some d → x = some d ∧ Nat.blt d n = true := fun {x} hx => by
    cases x with
    | none => cases hx
    | some k =>
      dsimp only at hx
      cases hb : Nat.blt k n
      · rw [hb] at hx; cases hx
      · rw [hb] at hx
        obtain rfl := Option.some.inj hx
        exact ⟨rfl, hb⟩
  unfold gfB at h
  split at h
  · cases h
  · rename_i g b hg
    split at h
    · cases h
    · rename_i dg hd
      split at h
      · cases h
      · rename_i c hc
        cases hcb : (c == b)
        · rw [hcb] at h
          obtain ⟨h1, h2⟩ := key h
          refine ⟨h1, h2, fun {a} s => ?_⟩
          have h3 := s.at_ _ _ hc
          have hy : yielded ops a.tmps g = some c := by simp [yielded, hd, h3]
          have : c ≠ b := by simpa using hcb
          simp [Region.wanted, hg, hy, this]
        · rw [hcb] at h; cases h
      · rename_i v hne hv
        obtain ⟨h1, h2⟩ := key h
        refine ⟨h1, h2, fun {a} s => ?_⟩
        have h3 := s.at_ _ _ hv
        have hy : yielded ops a.tmps g = none := by
          simp only [yielded, hd, Option.bind_some, h3]
          split
          · rename_i b' hb'
            obtain rfl := Option.some.inj hb'
            exact absurd rfl (hne b')
          · rfl
        simp [Region.wanted, hg, hy]
theorem gF {o : Oper} {d : Nat} (hf : gfB ops E n o = some d) (h : WL P ops Q rest ((d, undef) :: E) n H F w0) : WL P ops Q (o :: rest) E n H F w0 := fun a w s => by
  obtain ⟨hd, hn, hw⟩ := gfB_at hf
  unfold wpList
  rw [if_neg (by simp [hw s.env]), hd]
  exact h _ _ (s.put hn)
theorem gT {o : Oper} (ht : gtB ops E o = true) (h : WL P ops Q ({ o with guard := none } :: rest) E n H F w0) : WL P ops Q (o :: rest) E n H F w0 := fun a w s => by
  obtain ⟨g, b, hg, hy⟩ := gtB_at ht s.env
  have h1 := h a w s
  unfold wpList at h1 ⊢
  have hw : Region.wanted o (yielded ops a.tmps) = true := by simp [Region.wanted, hg, hy]
  rw [if_pos hw]
  rw [if_pos (by simp [Region.wanted])] at h1
  exact h1
theorem sR {id : Nat} {l : List Oper} {y : Code} (h : WL P l.toArray (Exit.then (fun a w => y.wp P Q a w) Q) l E n H F w0) : WC P (.seq (.region id l.toArray false) y) Q E n H F w0 := WC.seq (WC.region h)
theorem nN {y : Code} (h : WC P y Q E n H F w0) : WL P ops (Exit.then (fun a w => y.wp P Q a w) Q) [] E n H F w0 := WL.nil (WQ.next h)
/-- What is ahead ends in one of the states that i tells; what is behind goes on from each. -/
theorem WC.cut {ι : Type} {x y : Code} (Ei : ι → Env) (Hi : ι → Hp) (Fi : ι → SF) (hx : WC P x (fun e a w => e = .normal ∧ ∃ i, St (Ei i) n (Hi i) (Fi i) w0 a w) E n H F w0) (hy : ∀ i, WC P y Q (Ei i) n (Hi i) (Fi i) w0) : WC P (.seq x y) Q E n H F w0 := fun a w s => by
  refine wp_seq (Code.wp_mono (fun e a' w' h => ?_) (hx a w s))
  obtain ⟨rfl, i, hs⟩ := h
  exact hy i a' w' hs
/-- .. in the one state. -/
theorem WC.cut1 {x y : Code} (E' : Env) (H' : Hp) (F' : SF) (hx : WC P x (fun e a w => e = .normal ∧ St E' n H' F' w0 a w) E n H F w0) (hy : WC P y Q E' n H' F' w0) : WC P (.seq x y) Q E n H F w0 :=
  WC.cut (ι := Unit) (fun _ => E') (fun _ => H') (fun _ => F') (fun a w s => Code.wp_mono (fun _ _ _ h => ⟨h.1, (), h.2⟩) (hx a w s)) (fun _ => hy)
/-! ### A function -/
def ents : Nat → List Value → Env
  | _, [] => []
  | k, v :: vs => (k, v) :: ents (k + 1) vs
theorem look_ents : ∀ (vs : List Value) (k t : Nat) (v : Value), look (ents k vs) t = some v → ∃ j, t = k + j ∧ vs[j]? = some v
  | [], k, t, v, h => by simp [ents, look] at h
  | u :: us, k, t, v, h => by
    simp only [ents, look] at h
    cases hb : Nat.beq k t
    · rw [hb] at h
      obtain ⟨j, h1, h2⟩ := look_ents us (k + 1) t v h
      exact ⟨j + 1, by omega, by simpa using h2⟩
    · rw [hb] at h
      obtain rfl := Nat.eq_of_beq_eq_true hb
      exact ⟨0, rfl, by simpa using h⟩
end
section
variable {P : Program} {ops : Array Oper} {Q : Exit → Act → World → Prop} {rest : List Oper} {E : Env} {n : Nat} {H : Hp} {F : SF} {w0 : World}
theorem enter {f : FuncId} {fn : Func} {c : Code} {vs : List Value} {w : World} {R : Ending → World → Prop} (hf : P.funcs[f]? = some fn) (hb : fn.body = some c) (hn : fn.ntmps = n) (hl : Nat.ble vs.length n = true) (F : SF) (hF : F.p w)
    (h : WC P c (bodyPost P fn R) (ents 0 vs) n [] F w) : Calls P f vs.toArray w R := by
  refine calls_of_wp hf hb (h _ _ ⟨⟨?_, fun t v ht => ?_, rfl⟩, HpOf.nil _ _, hF, fun _ h => (by cases h), Below.refl _ _⟩)
  · have := Nat.le_of_ble_eq_true hl
    simp [hn]; omega
  · obtain ⟨j, rfl, hj⟩ := look_ents _ _ _ _ ht
    have hlt : j < vs.length := (List.getElem?_eq_some_iff.1 hj).1
    simp only [Nat.zero_add]
    rw [Array.getElem?_append_left (by simpa using hlt)]
    simpa using hj
end
section
variable [Inhabited DSx] {P : Program} {ops : Array Oper} {Q : Exit → Act → World → Prop} {rest : List Oper} {E : Env} {n : Nat} {H : Hp} {F : SF} {w0 : World}
/-- What a result is. -/
def RV (P : Program) (E : Env) (H : Hp) (r : ResultVar) (v : Value) : Prop :=
  (∃ t, r = .tmp t ∧ look E t = some v) ∨
  (∃ (t b o k T : Nat) (T2 : TypeId) (cs l : List Value), r = .cell t T ∧ v = .agg l.toArray ∧ Wide P T k ∧ look E t = some (.pointer (some ⟨b, o, none⟩)) ∧ (b, cs, T2) ∈ H ∧ seg cs o k = some l) ∨
  (∃ (t b o T : Nat) (T2 : TypeId) (cs : List Value), r = .cell t T ∧ Flat P T ∧ look E t = some (.pointer (some ⟨b, o, none⟩)) ∧ (b, cs, T2) ∈ H ∧ nth cs o = some v)
theorem RV.tmp {t : Tmp} {v : Value} (h : look E t = some v) : RV P E H (.tmp t) v := .inl ⟨t, rfl, h⟩
theorem RV.cell {t b o k : Nat} {T T2 : TypeId} {cs r : List Value} (hT : Wide P T k) (h : look E t = some (.pointer (some ⟨b, o, none⟩))) (hm : (b, cs, T2) ∈ H) (hs : seg cs o k = some r) : RV P E H (.cell t T) (.agg r.toArray) :=
  .inr (.inl ⟨t, b, o, k, T, T2, cs, r, rfl, rfl, hT, h, hm, hs⟩)
theorem RV.flat {t b o : Nat} {T T2 : TypeId} {cs : List Value} {v : Value} (hT : Flat P T) (h : look E t = some (.pointer (some ⟨b, o, none⟩))) (hm : (b, cs, T2) ∈ H) (hs : nth cs o = some v) : RV P E H (.cell t T) v :=
  .inr (.inr ⟨t, b, o, T, T2, cs, rfl, hT, h, hm, hs⟩)
def RVs (P : Program) (E : Env) (H : Hp) : List ResultVar → List Value → Prop
  | [], [] => True
  | r :: rs, v :: vs => RV P E H r v ∧ RVs P E H rs vs
  | _, _ => False
theorem RVs.nil : RVs P E H [] [] := trivial
theorem RVs.cons {r : ResultVar} {v : Value} {rs : List ResultVar} {vs : List Value} (h : RV P E H r v) (k : RVs P E H rs vs) : RVs P E H (r :: rs) (v :: vs) := ⟨h, k⟩
def All2 {α β : Type} (p : α → β → Prop) : List α → List β → Prop
  | [], [] => True
  | x :: xs, y :: ys => p x y ∧ All2 p xs ys
  | _, _ => False
def resOf (tmps : Array Value) : ResultVar → Sem Value
  | .tmp t => pure (tmps.getD t undef)
  | .cell a t => do loadVar t (← asAddr (tmps.getD a undef))
theorem RV.run {r : ResultVar} {v : Value} {a : Act} {w : World} (h : RV P E H r v) (s : St E n H F w0 a w) : (resOf a.tmps r).run P w = .ok v w := by
  rcases h with ⟨t, rfl, h⟩ | ⟨t, b, o, k, T, T2, cs, l, rfl, rfl, hT, h, hm, hs⟩ | ⟨t, b, o, T, T2, cs, rfl, hT, h, hm, hs⟩
  · simp [resOf, s.env.at_ _ _ h]
  · have h1 := run_loadCellsFrom (P := P) (w := w) (b := b) (o := o) k 0 #[] l (seg_at _ _ _ _ hs).1 (fun j hj => by rw [Nat.add_zero, s.hp.cell hm]; exact (seg_at _ _ _ _ hs).2 j hj)
    simp [resOf, s.env.at_ _ _ h, asAddr, loadVar, hT.1 w, hT.2 w, loadCells, h1]
  · have hq := run_load_cell (P := P) (w := w) (a := ⟨b, o, none⟩) (v := v) (by rw [s.hp.cell hm, ← nth_eq, hs])
    have h0 := s.env.at_ _ _ h
    simp only [resOf, Array.getD_eq_getD_getElem?, h0, Option.getD_some, asAddr, loadVar, Sem.run_bind, Sem.run_pure, Result.andThen_ok, hT w, Bool.false_eq_true, if_false, hq]
theorem run_mapM {w : World} (f : ResultVar → Sem Value) : ∀ (rs : List ResultVar) (vs : List Value), All2 (fun r v => (f r).run P w = .ok v w) rs vs → (rs.mapM f).run P w = .ok vs w
  | [], [], _ => by simp
  | [], _ :: _, h => h.elim
  | _ :: _, [], h => h.elim
  | _ :: _, _ :: _, ⟨h, k⟩ => by
    rw [List.mapM_cons]
    simp only [Sem.run_bind, h, Result.andThen_ok, run_mapM f _ _ k, Sem.run_pure]
theorem RVs.run {a : Act} {w : World} (s : St E n H F w0 a w) : ∀ {rs : List ResultVar} {vs : List Value}, RVs P E H rs vs → All2 (fun r v => (resOf a.tmps r).run P w = .ok v w) rs vs
  | [], [], _ => trivial
  | [], _ :: _, h => h.elim
  | _ :: _, [], h => h.elim
  | _ :: _, _ :: _, ⟨h, k⟩ => ⟨h.run s, RVs.run s k⟩
/-- The value that a call returns. -/
def packed : List Value → Value
  | [v] => v
  | vs => .tuple vs.toArray
theorem run_results {fn : Func} {rs : List ResultVar} {vs : List Value} {a : Act} {w : World} (hr : fn.results = rs.toArray) (h : RVs P E H rs vs) (s : St E n H F w0 a w) : (results fn a.tmps).run P w = .ok (packed vs) w := by
  have h1 := run_mapM (P := P) (w := w) (resOf a.tmps) rs vs (RVs.run s h)
  have e : results fn a.tmps = (do
      let us ← fn.results.mapM (resOf a.tmps)
      pure (if h : us.size = 1 then us[0] else .tuple us)) := by
    unfold results
    congr 1
  rw [e, hr, List.mapM_toArray]
  simp only [Sem.run_bind, Sem.run_map, h1, Result.andThen_ok]
  match vs with
  | [] => rfl
  | [v] => rfl
  | v :: u :: us => simp [packed]
end
section
variable {P : Program} {ops : Array Oper} {Q : Exit → Act → World → Prop} {rest : List Oper} {E : Env} {n : Nat} {H : Hp} {F : SF} {w0 : World}
theorem WQ.done {fn : Func} {R : Ending → World → Prop} {rs : List ResultVar} {vs : List Value} (hr : fn.results = rs.toArray) (h : RVs P E H rs vs) (hR : ∀ a w, St E n H F w0 a w → R (.returned (packed vs)) w) : WQ (bodyPost P fn R) .ret E n H F w0 := fun a w s =>
  bodyPost_ret (run_results hr h s) s.env.defers (hR a w s)
theorem WQ.over {fn : Func} {R : Ending → World → Prop} {rs : List ResultVar} {vs : List Value} (hr : fn.results = rs.toArray) (h : RVs P E H rs vs) (hR : ∀ a w, St E n H F w0 a w → R (.returned (packed vs)) w) : WQ (bodyPost P fn R) .normal E n H F w0 := fun a w s =>
  bodyPost_end (run_results hr h s) s.env.defers (hR a w s)
theorem dn1 {fn : Func} {R : Ending → World → Prop} {t : Nat} {v : Value} (hr : fn.results = #[.tmp t]) (h : look E t = some v) (hR : ∀ a w, St E n H F w0 a w → R (.returned (packed [v])) w) : WQ (bodyPost P fn R) .ret E n H F w0 :=
  WQ.done (rs := [.tmp t]) (vs := [v]) hr (RVs.cons (RV.tmp h) RVs.nil) hR
end
end Go.Proofs.Ytmfjhacgpopijaa
end
section
set_option linter.unusedVariables false
set_option linter.unusedSimpArgs false
set_option linter.unusedSectionVars false
namespace Go.Proofs.Ytmfjhacgpopijaa
open Go.RowKit
abbrev SS := Act → World → Prop
/-- S' knows all that S knows, up to G in memory; or (br) of the slots alone. -/
def Ext (G : World → World → Prop) (br : Bool) (S S' : SS) : Prop := ∀ a w, S' a w → ∃ w1, S a w1 ∧ (br = false → G w1 w)
def Gr (S : SS) : Prop := ∀ a w w', S a w → Below w.heap.size w w' → S a w'
section
variable [Inhabited DSx] {P : Program} {ops : Array Oper} {md : Region.Mode} {Q : Exit → Act → World → Prop} {brk : Nat → Bool} {G : World → World → Prop}
/-- Those that must come ahead of one of S, among the candidates. -/
def ancs (md : Region.Mode) (ops : Array Oper) : List Nat → List Nat → List Nat
  | [], S => S
  | x :: xs, S => ancs md ops xs (cond (S.any fun j => match ops[j]? with | some o => o.after.any fun e => Region.binds md e && Nat.beq e.on x | none => false) (x :: S) S)
/-- Who is done waits for no one. -/
def DC (md : Region.Mode) (ops : Array Oper) (listed : Array Bool) : Prop := ∀ j o, ops[j]? = some o → listed.getD j false = true → ∀ e ∈ o.after, Region.binds md e = true → listed.getD e.on false = true
theorem DC.step {md : Region.Mode} {ops : Array Oper} {listed : Array Bool} {j : Nat} (h : DC md ops listed) (hj : j ∈ Region.ready md ops listed) : DC md ops (listed.setIfInBounds j true) := by
  obtain ⟨_, oj, hoj, hall⟩ := mem_ready.1 hj
  intro k o ho hk e he hb
  by_cases hjk : j = k
  · subst hjk
    rw [hoj] at ho
    obtain rfl := Option.some.inj ho
    exact getD_set_true (hall e he hb)
  · rw [getD_set_ne false hjk] at hk
    exact getD_set_true (h k o ho hk e he hb)
theorem anc_listed {md : Region.Mode} {ops : Array Oper} {listed : Array Bool} {j : Nat} {oj : Oper} (h : DC md ops listed) (hoj : ops[j]? = some oj) (hall : ∀ e ∈ oj.after, Region.binds md e = true → listed.getD e.on false = true) :
    ∀ (cands S : List Nat), (∀ s ∈ S, s = j ∨ listed.getD s false = true) → ∀ x ∈ ancs md ops cands S, x = j ∨ listed.getD x false = true
  | [], S, hS, x, hx => hS x hx
  | y :: ys, S, hS, x, hx => by
    unfold ancs at hx
    cases hc : (S.any fun j => match ops[j]? with | some o => o.after.any fun e => Region.binds md e && Nat.beq e.on y | none => false)
    · rw [hc] at hx
      exact anc_listed h hoj hall ys S hS x hx
    · rw [hc] at hx
      refine anc_listed h hoj hall ys (y :: S) (fun s hs => ?_) x hx
      rcases List.mem_cons.1 hs with rfl | hs
      · obtain ⟨k, hk, h1⟩ := List.any_eq_true.1 hc
        cases ho : ops[k]? with
        | none => rw [ho] at h1; cases h1
        | some o =>
          rw [ho] at h1
          obtain ⟨e, he, h3⟩ := Array.any_eq_true'.1 h1
          simp only [Bool.and_eq_true] at h3
          have he2 := Nat.eq_of_beq_eq_true h3.2
          right
          rw [← he2]
          rcases hS k hk with rfl | hl
          · rw [hoj] at ho
            obtain rfl := Option.some.inj ho
            exact hall e he h3.1
          · exact h k o ho hl e he h3.1
      · exact hS s hs
def Ax (G : World → World → Prop) (P : Program) (md : Region.Mode) (ops : Array Oper) (Q : Exit → Act → World → Prop) (brk : Nat → Bool) (fin : Option Nat) : Nat → Array Bool → SS → Prop
  | 0, listed, S => Region.ready md ops listed = fin.toList ∧ ∀ a w, S a w → (match fin with | none => Q .normal a w | some j => wpOp P ops Q j (fun a' w' => Region.ready md ops (listed.setIfInBounds j true) = [] ∧ Q .normal a' w') a w)
  | f + 1, listed, S => (Region.ready md ops listed = [] → ∀ a w, S a w → Q .normal a w) ∧ ∀ j ∈ Region.ready md ops listed, ∀ a w, S a w →
      wpOp P ops Q j (fun a' w' => ∃ S' : SS, S' a' w' ∧ Gr S' ∧ Ext G (brk j) S S' ∧ Ax G P md ops Q brk fin f (listed.setIfInBounds j true) S') a w
theorem Ax.sound {fin : Option Nat} : ∀ (f : Nat) (listed : Array Bool) (S : SS) (a : Act) (w : World), Ax G P md ops Q brk fin f listed S → S a w → wpAny P md ops Q (f + fin.toList.length) listed a w
  | 0, listed, S, a, w, h, hs => by
    have h2 := h.2 a w hs
    cases fin with
    | none => exact ⟨h.1, h2⟩
    | some j =>
      refine ⟨fun h0 => absurd (h.1.symm.trans h0) (by simp), fun k hk => ?_⟩
      rw [h.1] at hk
      obtain rfl := List.mem_singleton.1 (show k ∈ [j] from hk)
      exact wpOp_mono (fun a' w' h3 => ⟨h3.1, h3.2⟩) h2
  | f + 1, listed, S, a, w, h, hs => by
    rw [show f + 1 + fin.toList.length = (f + fin.toList.length) + 1 by omega]
    exact ⟨fun h0 => h.1 h0 a w hs, fun j hj => wpOp_mono (fun a' w' ⟨_, h1, _, _, h4⟩ => Ax.sound f _ _ a' w' h4 h1) (h.2 j hj a w hs)⟩
theorem wpOp_swap {j : Nat} {oi oj : Oper} {v : Value} (hj : ops[j]? = some oj) (hap : oi.apart ops oj = true)
    (hsj : ∀ cs b, oj.op ≠ .select cs b) (hQ : ∀ c a w, ¬ Q (.panic c) a w) {K : Act → World → Prop} {a : Act} {w : World}
    (h : wpOp P ops Q j K (a.put oi.dst v) w) : wpOp P ops Q j (fun a' w' => K (a'.put oi.dst v) w') a w := by
  obtain ⟨h1, h2, h3⟩ := Oper.apart_spec hap
  unfold wpOp at *
  simp only [hj] at *
  rw [wanted_put oj a oi.dst v h1] at h
  split
  · rename_i hw
    simp only [hw, if_true] at h
    rcases h with h | ⟨hasks, hlets⟩
    case inr => exact .inr ⟨by unfold Oper.asks at *; rw [execOp_put oj hsj a oi.dst v h1] at hasks; exact hasks, hlets⟩
    refine .inl ?_
    unfold Oper.wp at *
    rw [execOp_put oj hsj a oi.dst v h1] at h
    generalize (execOp a.eval oj).run P w = r at *
    cases r with
    | ok n w' =>
      cases n <;> simp only [Oper.upon] at h ⊢
      case value u => rw [← Act.put_comm a v u h2]; exact h
      case skip => rw [← Act.put_comm a v undef h2]; exact h
      case defer d =>
        rw [← Act.put_comm _ v undef h2, ← Act.put_defers]
        exact h
      case enter f args =>
        refine Calls.mono h fun e w'' he => ?_
        cases e with
        | returned u =>
          show K _ _
          rw [← Act.put_comm a v u h2]; exact he
        | panicked c => exact absurd he (hQ _ _ _)
        | outgrown => exact he
      case row row args => exact Rows.mono h fun u w'' he => (by rw [← Act.put_comm a v u h2]; exact he)
    | halt x w' =>
      cases x <;> simp only [Oper.upon] at h ⊢
      case panic u => exact absurd h (hQ _ _ _)
  · rename_i hw
    simp only [hw] at h
    rw [← Act.put_comm a v undef h2]; exact h
/-- i yields v in the states of S, and makes new blocks at most. -/
def QY (G : World → World → Prop) (P : Program) (ops : Array Oper) (Q : Exit → Act → World → Prop) (imp : Bool) (i d : Nat) (v : Value) (S : SS) : Prop :=
  ∀ a w, (∃ w1, S a w1 ∧ (imp = true → G w1 w)) → ∀ K : Act → World → Prop, (∀ w', Below w.heap.size w w' → K (a.put (some d) v) w') → wpOp P ops Q i K a w
theorem put_put (a : Act) (d : Nat) (u v : Value) : (a.put (some d) u).put (some d) v = a.put (some d) v := by
  simp [Act.put]
theorem put_self {a : Act} {d : Nat} {v : Value} (h : a.tmps[d]? = some v) : a.put (some d) v = a := by
  have e : a.tmps.setIfInBounds d v = a.tmps := by
    apply Array.ext_getElem?
    intro i
    rw [Array.getElem?_setIfInBounds]
    split
    · rename_i hi
      subst hi
      obtain ⟨hl, _⟩ := Array.getElem?_eq_some_iff.1 h
      rw [if_pos hl, h]
    · rfl
  simp only [Act.put, e]
theorem put_at {a : Act} {d : Nat} {v : Value} (h : d < a.tmps.size) : (a.put (some d) v).tmps[d]? = some v := by simp [Act.put, h]
theorem unl {listed : Array Bool} {j k : Nat} (h : (listed.setIfInBounds j true).getD k true = false) : listed.getD k true = false := by
  by_cases hjk : j = k
  · subst hjk
    rcases Nat.lt_or_ge j listed.size with h' | h'
    · simp [h'] at h
    · simp at h
  · rw [getD_set_ne true hjk] at h; exact h
theorem Ax.first {i d : Nat} {oi : Oper} {v : Value} {imp : Bool} {fin : Option Nat} (hfin : ∀ j, fin = some j → ∃ c, i ∈ ancs md ops c [j]) (hi : ops[i]? = some oi) (hd : oi.dst = some d) (hsel : ∀ (j : Nat) (o : Oper) cs b, ops[j]? = some o → o.op ≠ .select cs b) (hQ : ∀ c a w, ¬ Q (.panic c) a w)
    (hG : ∀ w, G w w) (hG2 : ∀ a b c, G a b → G b c → G a c) (hbi : brk i = false) :
    ∀ (f : Nat) (listed : Array Bool) (S : SS), (∀ j oj, ops[j]? = some oj → j ≠ i → listed.getD j true = false → (∀ e ∈ oj.after, Region.binds md e = true → e.on ≠ i) → oi.apart ops oj = true) →
      i ∈ Region.ready md ops listed → DC md ops listed → (imp = true → ∀ j oj, brk j = true → ops[j]? = some oj → listed.getD j true = false → ∃ c, i ∈ ancs md ops c [j]) → (∀ a w u, S (a.put (some d) u) w ↔ S a w) → (∀ a w, S a w → d < a.tmps.size) → Gr S → QY G P ops Q imp i d v S →
      Ax G P md ops Q brk fin f (listed.setIfInBounds i true) (fun a w => S a w ∧ a.tmps[d]? = some v) → Ax G P md ops Q brk fin (f + 1) listed S := by
  intro f
  have self : ∀ (f : Nat) (listed : Array Bool) (S : SS), (∀ a w u, S (a.put (some d) u) w ↔ S a w) → (∀ a w, S a w → d < a.tmps.size) → Gr S → QY G P ops Q imp i d v S →
      Ax G P md ops Q brk fin f (listed.setIfInBounds i true) (fun a w => S a w ∧ a.tmps[d]? = some v) → ∀ a w, S a w →
      wpOp P ops Q i (fun a' w' => ∃ S' : SS, S' a' w' ∧ Gr S' ∧ Ext G (brk i) S S' ∧ Ax G P md ops Q brk fin f (listed.setIfInBounds i true) S') a w := by
    intro f listed S hins hsz hgr hq H a w hs
    refine hq a w ⟨w, hs, fun _ => hG w⟩ _ fun w' hb => ⟨_, ⟨(hins a w' v).2 (hgr a w w' hs hb), put_at (hsz a w hs)⟩, fun a w w' h k => ⟨hgr a w w' h.1 k, h.2⟩, ?_, H⟩
    exact fun a w h => ⟨w, h.1, fun _ => hG w⟩
  induction f with
  | zero =>
    intro listed S _ hr hdc hbr hins hsz hgr hq H
    refine ⟨fun h => (by rw [h] at hr; cases hr), fun j hj a w hs => ?_⟩
    by_cases hji : j = i
    · subst hji; exact self 0 listed S hins hsz hgr hq H a w hs
    · have hm := ready_mono hj hji
      rw [H.1] at hm
      cases fin with
      | none => cases hm
      | some j' =>
        obtain rfl := List.mem_singleton.1 (show j ∈ [j'] from hm)
        obtain ⟨c, hc⟩ := hfin j rfl
        obtain ⟨_, oj, hoj, hall⟩ := mem_ready.1 hj
        have h6 := (anc_listed hdc hoj hall c [j] (fun s hs => .inl (List.mem_singleton.1 hs)) i hc).resolve_left (Ne.symm hji)
        have h0 := (mem_ready.1 hr).1
        exfalso
        rcases Nat.lt_or_ge i listed.size with h' | h'
        · simp [h'] at h0 h6; rw [h0] at h6; cases h6
        · simp [Array.getElem?_eq_none h'] at h6
  | succ f ih =>
    intro listed S hfree hr hdc hbr hins hsz hgr hq H
    refine ⟨fun h => (by rw [h] at hr; cases hr), fun j hj a w hs => ?_⟩
    by_cases hji : j = i
    · subst hji; exact self _ listed S hins hsz hgr hq H a w hs
    · obtain ⟨hjun, oj, hoj, hall⟩ := mem_ready.1 hj
      have hnot : ∀ e ∈ oj.after, Region.binds md e = true → e.on ≠ i := fun e he hb heq => by
        have h1 := hall e he hb
        have h0 := (mem_ready.1 hr).1
        rw [heq] at h1
        rcases Nat.lt_or_ge i listed.size with h' | h'
        · simp [h'] at h0 h1; rw [h0] at h1; cases h1
        · simp [Array.getElem?_eq_none h'] at h1
      have h1 := H.2 j (ready_mono hj hji) (a.put (some d) v) w ⟨(hins a w v).2 hs, put_at (hsz a w hs)⟩
      rw [← hd] at h1
      refine wpOp_mono ?_ (wpOp_swap hoj (hfree j oj hoj hji hjun hnot) (fun cs b => hsel j oj cs b hoj) hQ h1)
      rintro a' w' ⟨S', hS', hgr', hext, hA⟩
      rw [hd] at hS'
      have hin : ∀ x y, S' x y → x.tmps[d]? = some v ∧ ∃ y1, S x y1 ∧ (brk j = false → G y1 y) := by
        intro x y hx
        obtain ⟨y1, h2, h3⟩ := hext x y hx
        exact ⟨h2.2, y1, h2.1, h3⟩
      have hback : ∀ x y, S' (x.put (some d) v) y → ∃ y1, S x y1 ∧ (brk j = false → G y1 y) := fun x y hx => by
        obtain ⟨_, y1, h2, h3⟩ := hin _ _ hx
        exact ⟨y1, (hins x y1 v).1 h2, h3⟩
      refine ⟨fun x y => S' (x.put (some d) v) y, hS', fun x y y' h k => hgr' _ _ _ h k, ?_, ?_⟩
      · exact fun x y hx => hback x y hx
      · refine ih (listed.setIfInBounds j true) _ (fun k ok hk hki hun hno => hfree k ok hk hki ?_ hno) (ready_mono hr (Ne.symm hji)) (hdc.step hj) (fun himp k ok hb hk hun => hbr himp k ok hb hk (unl hun)) (fun x y u => by rw [put_put]) (fun x y hx => ?_) (fun x y y' h k => hgr' _ _ _ h k) ?_ ?_
        · by_cases hjk : j = k
          · subst hjk; exact hjun
          · rw [getD_set_ne true hjk] at hun; exact hun
        · obtain ⟨y1, h2, _⟩ := hback x y hx
          exact hsz _ _ h2
        · intro x y hx K hK
          refine hq x y ?_ K hK
          obtain ⟨y1, h2, h3⟩ := hx
          obtain ⟨y2, h4, h5⟩ := hback x y1 h2
          refine ⟨y2, h4, fun himp => hG2 _ _ _ (h5 ?_) (h3 himp)⟩
          cases hbj : brk j
          · rfl
          · obtain ⟨c, hc⟩ := hbr himp j oj hbj hoj hjun
            have h6 := (anc_listed hdc hoj hall c [j] (fun s hs => .inl (List.mem_singleton.1 hs)) i hc).resolve_left (Ne.symm hji)
            have h0 := (mem_ready.1 hr).1
            rcases Nat.lt_or_ge i listed.size with h' | h'
            · simp [h'] at h0 h6; rw [h0] at h6; cases h6
            · simp [Array.getElem?_eq_none h'] at h6
        · have e : (fun x y => S' (x.put (some d) v) y ∧ x.tmps[d]? = some v) = S' := by
            funext x y
            refine propext ⟨fun ⟨h2, h3⟩ => by rw [put_self h3] at h2; exact h2, fun h2 => ?_⟩
            have h3 := (hin x y h2).1
            exact ⟨by rw [put_self h3]; exact h2, h3⟩
          rw [e, Array.setIfInBounds_comm _ _ hji]
          exact hA
/-! ### The walk -/
/-- How an operation is taken: quiet (it reads memory, or not); or by itself (it writes what others know, or not). -/
structure K4 where
  special : Bool
  flag : Bool
abbrev K4.q (imp : Bool) : K4 := ⟨false, imp⟩
abbrev K4.s (br : Bool) : K4 := ⟨true, br⟩
variable {n : Nat} {w0 : World} {E : Env} {H : Hp} {F : SF}
def QS (P : Program) (ops : Array Oper) (imp : Bool) (o : Oper) (d : Nat) (v : Value) (E : Env) (n : Nat) (H : Hp) (F : SF) (w0 : World) : Prop :=
  ∀ a w, (if imp then St E n H F w0 a w else ∃ w1, St E n H F w0 a w1) → ∀ (Q : Exit → Act → World → Prop) (K : Act → World → Prop), (∀ w', Below w.heap.size w w' → K (a.put (some d) v) w') →
    if Region.wanted o (yielded ops a.tmps) = true then o.wp P a w K Q else K (a.put o.dst undef) w
theorem QS.pure {o : Oper} {d : Nat} {v : Value} {imp : Bool} (hy : Yp P E n o v) (hg : o.guard = none) (hd : o.dst = some d) : QS P ops imp o d v E n H F w0 := fun a w s Q K hK => by
  rw [if_pos (by simp [Region.wanted, hg])]
  unfold Oper.wp
  have he : EnvOf E n a := by
    cases imp
    · obtain ⟨_, s⟩ := s; exact s.env
    · exact s.env
  rw [hy a w he, Oper.upon_value, hd]
  exact hK _ (Below.refl _ _)
theorem QS.val {o : Oper} {d : Nat} {v : Value} (hy : Yv P E n H F w0 o v) (hg : o.guard = none) (hd : o.dst = some d) : QS P ops true o d v E n H F w0 := fun a w s Q K hK => by
  rw [if_pos (by simp [Region.wanted, hg])]
  unfold Oper.wp
  rw [hy a w s, Oper.upon_value, hd]
  exact hK _ (Below.refl _ _)
theorem QS.call {f : FuncId} {args : Array Operand} {ts : Array TypeId} {d : Nat} {T' : TypeId} {p : String} {af : Array Edge} {vs : List Value} {v : Value} (hf : ∀ (args : Array Value) (w : World), (callFunc f args).run P w = .ok (.enter f args) w)
    (hx : evs E args.toList = some vs) (hc : ∀ a w, St E n H F w0 a w → Ret P f vs w v) :
    QS P ops true ⟨some d, .call { callee := .value (.func f), args := args, argTypes := ts }, T', p, af, none⟩ d v E n H F w0 := fun a w s Q K hK => by
  rw [if_pos (by simp [Region.wanted])]
  unfold Oper.wp
  rw [run_call hf s.env hx, Oper.upon_enter]
  exact (hc a w s).mono fun e w' ⟨he, hb⟩ => by subst he; exact hK _ hb
theorem QS.callV {f : FuncId} {g : Nat} {args : Array Operand} {ts : Array TypeId} {d : Nat} {T' : TypeId} {p : String} {af : Array Edge} {vs : List Value} {v : Value} (hf : ∀ (args : Array Value) (w : World), (callFunc f args).run P w = .ok (.enter f args) w)
    (hg : look E g = some (.func (.func f) #[] #[])) (hx : evs E args.toList = some vs) (hc : ∀ a w, St E n H F w0 a w → Ret P f vs w v) :
    QS P ops true ⟨some d, .call { callee := .value (.tmp g), args := args, argTypes := ts }, T', p, af, none⟩ d v E n H F w0 := fun a w s Q K hK => by
  rw [if_pos (by simp [Region.wanted])]
  unfold Oper.wp
  rw [run_callV hf s.env hg hx, Oper.upon_enter]
  exact (hc a w s).mono fun e w' ⟨he, hb⟩ => by subst he; exact hK _ hb
theorem imp_env {imp : Bool} {a : Act} {w : World} (s : if imp = true then St E n H F w0 a w else ∃ w1, St E n H F w0 a w1) : EnvOf E n a := by
  cases imp
  · obtain ⟨_, s⟩ := s; exact s.env
  · exact s.env
theorem QS.guardT {o : Oper} {g d dg : Nat} {b imp : Bool} {v : Value} (hg : o.guard = some (g, b)) (hd : (ops[g]?).bind (·.dst) = some dg) (hb : look E dg = some (.bool b))
    (h : QS P ops imp { o with guard := none } d v E n H F w0) : QS P ops imp o d v E n H F w0 := fun a w s Q K hK => by
  have hy : yielded ops a.tmps g = some b := by simp [yielded, hd, (imp_env s).at_ _ _ hb]
  rw [if_pos (by simp [Region.wanted, hg, hy])]
  have h1 := h a w s Q K hK
  rw [if_pos (by simp [Region.wanted])] at h1
  exact h1
theorem QS.guardF {o : Oper} {g d dg : Nat} {b c imp : Bool} (hg : o.guard = some (g, b)) (hd : (ops[g]?).bind (·.dst) = some dg) (hb : look E dg = some (.bool c)) (hne : (c == b) = false) (hdst : o.dst = some d) :
    QS P ops imp o d undef E n H F w0 := fun a w s Q K hK => by
  have hy : yielded ops a.tmps g = some c := by simp [yielded, hd, (imp_env s).at_ _ _ hb]
  have hw : Region.wanted o (yielded ops a.tmps) = false := by
    cases c <;> cases b <;> simp_all [Region.wanted]
  rw [if_neg (by simp [hw]), hdst]
  exact hK _ (Below.refl _ _)
theorem QS.guardU {o : Oper} {g d dg : Nat} {b imp : Bool} (hg : o.guard = some (g, b)) (hd : (ops[g]?).bind (·.dst) = some dg) (hb : look E dg = some undef) (hdst : o.dst = some d) :
    QS P ops imp o d undef E n H F w0 := fun a w s Q K hK => by
  have hy : yielded ops a.tmps g = none := by simp [yielded, hd, (imp_env s).at_ _ _ hb, undef]
  rw [if_neg (by simp [Region.wanted, hg, hy]), hdst]
  exact hK _ (Below.refl _ _)
/-- An operation that is carried out, by itself. -/
def WS (P : Program) (ops : Array Oper) (o : Oper) (E : Env) (n : Nat) (H : Hp) (F : SF) (w0 : World) {ι : Type} (Ei : ι → Env) (Hi : ι → Hp) (Fi : ι → SF) : Prop :=
  (∀ a, EnvOf E n a → Region.wanted o (yielded ops a.tmps) = true) ∧ Eff P E n H F w0 o Ei Hi Fi
theorem WS.free {o : Oper} {ι : Type} {Ei : ι → Env} {Hi : ι → Hp} {Fi : ι → SF} (hg : o.guard = none) (h : Eff P E n H F w0 o Ei Hi Fi) : WS P ops o E n H F w0 Ei Hi Fi := ⟨fun a _ => by simp [Region.wanted, hg], h⟩
theorem WS.guardT {o : Oper} {ι : Type} {Ei : ι → Env} {Hi : ι → Hp} {Fi : ι → SF} {g dg : Nat} {b : Bool} (hg : o.guard = some (g, b)) (hd : (ops[g]?).bind (·.dst) = some dg) (hb : look E dg = some (.bool b))
    (h : Eff P E n H F w0 { o with guard := none } Ei Hi Fi) : WS P ops o E n H F w0 Ei Hi Fi := by
  refine ⟨fun a s => ?_, h⟩
  have hy : yielded ops a.tmps g = some b := by simp [yielded, hd, s.at_ _ _ hb]
  simp [Region.wanted, hg, hy]
/-- What the quiet ones may know: all that is known; or (some) these blocks alone. -/
def wkH : Option Hp → Hp → Hp
  | none, H => H
  | some K, _ => K
def wkF : Option Hp → SF → SF
  | none, F => F
  | some _, _ => SF.top
/-- What a state knows of memory. -/
def Wp (w0 : World) (H : Hp) (F : SF) (w : World) : Prop := HpOf w0.heap.size H w ∧ F.p w ∧ (∀ x ∈ H, ¬ F.fp w x.1) ∧ Below w0.heap.size w0 w
theorem St.wp {a : Act} {w : World} (s : St E n H F w0 a w) : Wp w0 H F w := ⟨s.hp, s.fact, s.sep, s.low⟩
def wkG (m : Option Hp) (w0 : World) : World → World → Prop := match m with
  | none => Eq
  | some K => fun w1 w => Wp w0 K SF.top w1 → Wp w0 K SF.top w
/-- What is left behind the plan. -/
def WN (P : Program) (ops : Array Oper) (Q : Exit → Act → World → Prop) (fin : Option Nat) (E : Env) (n : Nat) (H : Hp) (F : SF) (w0 : World) : Prop := match fin with
  | none => WQ Q .normal E n H F w0
  | some j => ∃ o, ops[j]? = some o ∧ WL P ops Q [o] E n H F w0
structure WDc (m : Option Hp) (fin : Option Nat) (P : Program) (ops : Array Oper) (Q : Exit → Act → World → Prop) (n : Nat) (w0 : World) (X : List (Oper × K4) → Env → Hp → SF → Prop) : Prop where
  nil : ∀ {E : Env} {H : Hp} {F : SF}, WN P ops Q fin E n H F w0 → X [] E H F
  quiet : ∀ {o : Oper} {d : Nat} {v : Value} {imp : Bool} {rest : List (Oper × K4)} {E : Env} {H : Hp} {F : SF}, QS P ops imp o d v E n (wkH m H) (wkF m F) w0 → o.dst = some d → Nat.blt d n = true → look E d = none →
      X rest ((d, v) :: E) H F → X ((o, .q imp) :: rest) E H F
  known : ∀ {t : Nat} {b r : Bool} {l : List (Oper × K4)} {E : Env} {H : Hp} {F : SF}, look E t = some (.bool b) → b = r → X l ((t, .bool r) :: E) H F → X l E H F
  skip : ∀ {o : Oper} {br : Bool} {d : Nat} {rest : List (Oper × K4)} {E : Env} {H : Hp} {F : SF}, (∀ a, EnvOf E n a → Region.wanted o (yielded ops a.tmps) = false) → o.dst = some d → Nat.blt d n = true → look E d = none →
      X rest ((d, undef) :: E) H F → X ((o, .s br) :: rest) E H F
  spec : ∀ {o : Oper} {br : Bool} {rest : List (Oper × K4)} {E : Env} {H : Hp} {F : SF} {ι : Type} {Ei : ι → Env} {Hi : ι → Hp} {Fi : ι → SF}, WS P ops o E n H F w0 Ei Hi Fi →
      (∀ i, if br = true then sub E (Ei i) else ∀ a w, St (Ei i) n (Hi i) (Fi i) w0 a w → St E n (wkH m H) (wkF m F) w0 a w) → (∀ i, X rest (Ei i) (Hi i) (Fi i)) → (∀ i w, Wp w0 (Hi i) (Fi i) w → Wp w0 (wkH m (Hi i)) (wkF m (Fi i)) w) → X ((o, .s br) :: rest) E H F
def WDm (m : Option Hp) (fin : Option Nat) (P : Program) (ops : Array Oper) (Q : Exit → Act → World → Prop) (n : Nat) (w0 : World) (L : List (Oper × K4)) (E : Env) (H : Hp) (F : SF) : Prop :=
  ∀ X : List (Oper × K4) → Env → Hp → SF → Prop, WDc m fin P ops Q n w0 X → X L E H F
section
variable {m : Option Hp} {fin : Option Nat}
theorem WDm.nil (h : WQ Q .normal E n H F w0) : WDm m none P ops Q n w0 [] E H F := fun _ c => c.nil h
theorem WDm.last {j : Nat} {o : Oper} (ho : ops[j]? = some o) (h : WL P ops Q [o] E n H F w0) : WDm m (some j) P ops Q n w0 [] E H F := fun _ c => c.nil ⟨o, ho, h⟩
theorem WDm.quiet {o : Oper} {d : Nat} {v : Value} {imp : Bool} {rest : List (Oper × K4)} (hq : QS P ops imp o d v E n (wkH m H) (wkF m F) w0) (hd : o.dst = some d) (hn : Nat.blt d n = true) (hl : look E d = none)
      (h : WDm m fin P ops Q n w0 rest ((d, v) :: E) H F) : WDm m fin P ops Q n w0 ((o, .q imp) :: rest) E H F := fun X c => c.quiet hq hd hn hl (h X c)
theorem WDm.known {t : Nat} {b r : Bool} {l : List (Oper × K4)} (hl : look E t = some (.bool b)) (hr : b = r) (h : WDm m fin P ops Q n w0 l ((t, .bool r) :: E) H F) : WDm m fin P ops Q n w0 l E H F := fun X c => c.known hl hr (h X c)
theorem WDm.skip {o : Oper} {br : Bool} {d : Nat} {rest : List (Oper × K4)} (hw : ∀ a, EnvOf E n a → Region.wanted o (yielded ops a.tmps) = false) (hd : o.dst = some d) (hn : Nat.blt d n = true) (hl : look E d = none)
      (h : WDm m fin P ops Q n w0 rest ((d, undef) :: E) H F) : WDm m fin P ops Q n w0 ((o, .s br) :: rest) E H F := fun X c => c.skip hw hd hn hl (h X c)
theorem WDm.spec {o : Oper} {br : Bool} {rest : List (Oper × K4)} {ι : Type} {Ei : ι → Env} {Hi : ι → Hp} {Fi : ι → SF} (hs : WS P ops o E n H F w0 Ei Hi Fi)
      (hx : ∀ i, if br = true then sub E (Ei i) else ∀ a w, St (Ei i) n (Hi i) (Fi i) w0 a w → St E n (wkH m H) (wkF m F) w0 a w) (h : ∀ i, WDm m fin P ops Q n w0 rest (Ei i) (Hi i) (Fi i)) (hk : ∀ i w, Wp w0 (Hi i) (Fi i) w → Wp w0 (wkH m (Hi i)) (wkF m (Fi i)) w := by exact fun _ _ h => h) : WDm m fin P ops Q n w0 ((o, .s br) :: rest) E H F :=
  fun X c => c.spec hs hx (fun i => h i X c) hk
end
abbrev WD := WDm none none
def nthO : List Oper → Nat → Option Oper
  | [], _ => none
  | o :: _, 0 => some o
  | _ :: l, i + 1 => nthO l i
theorem nthO_eq : ∀ (l : List Oper) (i : Nat), nthO l i = l[i]?
  | [], _ => rfl
  | _ :: _, 0 => rfl
  | _ :: l, i + 1 => by simp [nthO, nthO_eq l i]
def planOps (l : List Oper) : List (Nat × K4) → List (Oper × K4)
  | [] => []
  | (i, k) :: r => match nthO l i with
    | some o => (o, k) :: planOps l r
    | none => []
def brks (plan : List (Nat × K4)) (j : Nat) : Bool := plan.any fun x => Nat.beq x.1 j && (x.2.special && x.2.flag)
def planB (ops : Array Oper) (fin : Option Nat) (all : List (Nat × K4)) : List (Nat × K4) → Array Bool → Bool
  | [], listed => (Region.ready .any ops listed == fin.toList) && (match fin with | none => true | some j => (Region.ready .any ops (listed.setIfInBounds j true)).isEmpty)
  | (i, k) :: rest, listed => (if k.special then (Region.ready .any ops listed == [i]) else (Region.ready .any ops listed).contains i && Region.free .any ops listed i && !brks all i) && planB ops fin all rest (listed.setIfInBounds i true)
/-- Whoever writes what others know waits for all who read ahead of it. -/
def waitB (ops : Array Oper) : List (Nat × K4) → List (Nat × K4) → Bool
  | _, [] => true
  | seen, y :: rest => cond (y.2.special && y.2.flag) ((fun S => seen.all fun x => !(!x.2.special && x.2.flag) || S.any (Nat.beq x.1)) (ancs .any ops (seen.map (·.1)) [y.1])) true && waitB ops (y :: seen) rest
theorem wait_in {ops : Array Oper} : ∀ {plan seen : List (Nat × K4)}, waitB ops seen plan = true → ∀ {x y : Nat × K4}, x ∈ seen → y ∈ plan → (!x.2.special && x.2.flag) = true → (y.2.special && y.2.flag) = true → ∃ c, x.1 ∈ ancs .any ops c [y.1]
  | z :: rest, seen, h, x, y, hx, hy, hxf, hyf => by
    unfold waitB at h
    rw [Bool.and_eq_true] at h
    rcases List.mem_cons.1 hy with rfl | hy
    · have h1 := h.1
      rw [hyf, cond_true] at h1
      have h2 := List.all_eq_true.1 h1 x hx
      rw [hxf] at h2
      simp only [Bool.not_true, Bool.false_or] at h2
      obtain ⟨s, hs, he⟩ := List.any_eq_true.1 h2
      exact ⟨_, by rw [Nat.eq_of_beq_eq_true he]; exact hs⟩
    · exact wait_in h.2 (List.mem_cons_of_mem _ hx) hy hxf hyf
theorem wait_tail {ops : Array Oper} {y : Nat × K4} {plan seen : List (Nat × K4)} (h : waitB ops seen (y :: plan) = true) : waitB ops (y :: seen) plan = true := by
  unfold waitB at h
  rw [Bool.and_eq_true] at h
  exact h.2
/-- The last operation waits for all. -/
def finB (ops : Array Oper) (fin : Option Nat) (plan : List (Nat × K4)) : Bool := match fin with
  | none => true
  | some j => (fun S => plan.all fun x => S.any (Nat.beq x.1)) (ancs .any ops (plan.reverse.map (·.1)) [j])
theorem fin_in {ops : Array Oper} {fin : Option Nat} {plan : List (Nat × K4)} (h : finB ops fin plan = true) {x : Nat × K4} (hx : x ∈ plan) : ∀ j, fin = some j → ∃ c, x.1 ∈ ancs .any ops c [j] := fun j hj => by
  subst hj
  obtain ⟨s, hs, he⟩ := List.any_eq_true.1 (List.all_eq_true.1 h x hx)
  exact ⟨_, by rw [Nat.eq_of_beq_eq_true he]; exact hs⟩
def planOkF (l : List Oper) (fin : Option Nat) (plan : List (Nat × K4)) : Bool := Nat.beq (plan.length + fin.toList.length) l.length && Region.noSelect l.toArray && waitB l.toArray [] plan && (finB l.toArray fin plan && planB l.toArray fin plan plan (Array.replicate l.length false))
def planOk (l : List Oper) (plan : List (Nat × K4)) : Bool := planOkF l none plan
theorem St.ins {d : Nat} {a : Act} {w : World} {u : Value} (hl : look E d = none) : St E n H F w0 (a.put (some d) u) w ↔ St E n H F w0 a w := by
  have key : ∀ t v, look E t = some v → (a.put (some d) u).tmps[t]? = a.tmps[t]? := fun t v ht => by
    have hne : d ≠ t := fun e => by subst e; rw [hl] at ht; cases ht
    simp [Act.put, Array.getElem?_setIfInBounds_ne hne]
  constructor
  · rintro ⟨⟨h1, h2, h3⟩, h4, h5, h6, h7⟩
    exact ⟨⟨by simpa [Act.put] using h1, fun t v ht => by rw [← key t v ht]; exact h2 t v ht, h3⟩, h4, h5, h6, h7⟩
  · rintro ⟨⟨h1, h2, h3⟩, h4, h5, h6, h7⟩
    exact ⟨⟨by simpa [Act.put] using h1, fun t v ht => by rw [key t v ht]; exact h2 t v ht, h3⟩, h4, h5, h6, h7⟩
theorem look_cons {E : Env} {d t : Nat} {v : Value} : look ((d, v) :: E) t = if d = t then some v else look E t := by
  simp only [look]
  by_cases h : d = t
  · subst h; simp
  · have : Nat.beq d t = false := by
      cases hb : Nat.beq d t
      · rfl
      · exact absurd (Nat.eq_of_beq_eq_true hb) h
    rw [this, if_neg h]; rfl
theorem sub_push {d : Nat} {v : Value} (hl : look E d = none) : sub E ((d, v) :: E) := fun t u ht => by
  rw [look_cons, if_neg]
  · exact ht
  · rintro rfl
    rw [hl] at ht
    cases ht
theorem St.push_iff {d : Nat} {v : Value} {a : Act} {w : World} (hl : look E d = none) : St ((d, v) :: E) n H F w0 a w ↔ (St E n H F w0 a w ∧ a.tmps[d]? = some v) := by
  constructor
  · intro s
    exact ⟨s.weak (sub_push hl), s.env.at_ d v (by rw [look_cons, if_pos rfl])⟩
  · rintro ⟨s, h⟩
    refine ⟨⟨s.env.size, fun t u ht => ?_, s.env.defers⟩, s.hp, s.fact, s.sep, s.low⟩
    rw [look_cons] at ht
    split at ht
    · rename_i e; subst e; rw [← ht]; exact h
    · exact s.env.at_ t u ht
theorem Gr_St : Gr (St E n H F w0) := fun _ _ _ s hb => s.grow hb
theorem planB_q {fin : Option Nat} {l : List Oper} {all rest : List (Nat × K4)} {i : Nat} {imp : Bool} {listed : Array Bool} (hp : planB l.toArray fin all ((i, .q imp) :: rest) listed = true) :
    (i ∈ Region.ready .any l.toArray listed ∧ Region.free .any l.toArray listed i = true ∧ brks all i = false) ∧ planB l.toArray fin all rest (listed.setIfInBounds i true) = true := by
  simp only [planB, Bool.and_eq_true, Bool.false_eq_true, if_false, Bool.not_eq_true', List.contains_iff_mem] at hp
  exact ⟨⟨hp.1.1.1, hp.1.1.2, hp.1.2⟩, hp.2⟩
theorem planB_s {fin : Option Nat} {l : List Oper} {all rest : List (Nat × K4)} {i : Nat} {br : Bool} {listed : Array Bool} (hp : planB l.toArray fin all ((i, .s br) :: rest) listed = true) :
    Region.ready .any l.toArray listed = [i] ∧ planB l.toArray fin all rest (listed.setIfInBounds i true) = true := by
  simp only [planB, Bool.and_eq_true, if_true, beq_iff_eq] at hp
  exact hp
theorem planB_head {fin : Option Nat} {l : List Oper} {all rest : List (Nat × K4)} {i : Nat} {k : K4} {listed : Array Bool} (hp : planB l.toArray fin all ((i, k) :: rest) listed = true) : ∃ oi, l.toArray[i]? = some oi ∧ nthO l i = some oi := by
  have hr : i ∈ Region.ready .any l.toArray listed := by
    obtain ⟨sp, fl⟩ := k
    cases sp
    · exact (planB_q hp).1.1
    · rw [(planB_s hp).1]
      exact List.Mem.head _
  obtain ⟨_, oi, hoi, _⟩ := mem_ready.1 hr
  exact ⟨oi, hoi, by rw [nthO_eq]; simpa using hoi⟩
theorem St.known_iff {a : Act} {w : World} {t : Nat} {b r : Bool} (hl : look E t = some (.bool b)) (hr : b = r) : St E n H F w0 a w ↔ St ((t, .bool r) :: E) n H F w0 a w := by
  refine ⟨fun s => s.known hl hr, fun s => s.weak fun u v hu => ?_⟩
  rw [look_cons]
  split
  · rename_i e
    subst e
    subst hr
    rw [hl] at hu
    exact hu
  · exact hu
theorem wkG_refl (m : Option Hp) (w0 w : World) : wkG m w0 w w := by
  cases m with
  | none => rfl
  | some K => exact id
theorem wkG_trans (m : Option Hp) (w0 a b c : World) (h : wkG m w0 a b) (k : wkG m w0 b c) : wkG m w0 a c := by
  cases m with
  | none => exact h.trans k
  | some K => exact fun x => k (h x)
theorem wk_state {m : Option Hp} {imp : Bool} {a : Act} {w : World} (hwk : ∀ w, Wp w0 H F w → Wp w0 (wkH m H) (wkF m F) w) (s : ∃ w1, St E n H F w0 a w1 ∧ (imp = true → wkG m w0 w1 w)) :
    if imp = true then St E n (wkH m H) (wkF m F) w0 a w else ∃ w1, St E n (wkH m H) (wkF m F) w0 a w1 := by
  obtain ⟨w1, s, hg⟩ := s
  have h1 := hwk w1 s.wp
  cases imp
  · exact ⟨w1, s.env, h1.1, h1.2.1, h1.2.2.1, h1.2.2.2⟩
  · have h2 := hg rfl
    simp only [if_true]
    cases m with
    | none => cases h2; exact s
    | some K =>
      have h3 := h2 h1
      exact ⟨s.env, h3.1, h3.2.1, h3.2.2.1, h3.2.2.2⟩
theorem cov_step {all rest : List (Nat × K4)} {i : Nat} {k : K4} {listed : Array Bool} (h : ∀ y ∈ all, listed.getD y.1 true = true ∨ y ∈ (i, k) :: rest) : ∀ y ∈ all, (listed.setIfInBounds i true).getD y.1 true = true ∨ y ∈ rest := fun y hy => by
  have key : ∀ n, listed.getD n true = true → (listed.setIfInBounds i true).getD n true = true := fun n hn => by
    cases hc : (listed.setIfInBounds i true).getD n true
    · rw [unl hc] at hn; cases hn
    · rfl
  rcases h y hy with h1 | h1
  · exact .inl (key _ h1)
  · rcases List.mem_cons.1 h1 with rfl | h1
    · left
      cases hc : (listed.setIfInBounds i true).getD i true
      · exfalso
        rcases Nat.lt_or_ge i listed.size with h' | h'
        · simp [h'] at hc
        · simp at hc
      · rfl
    · exact .inr h1
theorem WDm.sound {m : Option Hp} {fin : Option Nat} {l : List Oper} {all : List (Nat × K4)} (hsel : Region.noSelect l.toArray = true) (hfin : finB l.toArray fin all = true) (hQ : ∀ c a w, ¬ Q (.panic c) a w) {L : List (Oper × K4)} (h : WDm m fin P l.toArray Q n w0 L E H F) :
    (∀ w, Wp w0 H F w → Wp w0 (wkH m H) (wkF m F) w) → ∀ (plan : List (Nat × K4)) (listed : Array Bool), planOps l plan = L → (∀ x ∈ plan, x ∈ all) → planB l.toArray fin all plan listed = true → DC .any l.toArray listed → (∃ seen, waitB l.toArray seen plan = true) → (∀ y ∈ all, listed.getD y.1 true = true ∨ y ∈ plan) →
      Ax (wkG m w0) P .any l.toArray Q (brks all) fin plan.length listed (St E n H F w0) := by
  refine h (fun L E H F => (∀ w, Wp w0 H F w → Wp w0 (wkH m H) (wkF m F) w) → ∀ (plan : List (Nat × K4)) (listed : Array Bool), planOps l plan = L → (∀ x ∈ plan, x ∈ all) → planB l.toArray fin all plan listed = true → DC .any l.toArray listed → (∃ seen, waitB l.toArray seen plan = true) → (∀ y ∈ all, listed.getD y.1 true = true ∨ y ∈ plan) →
      Ax (wkG m w0) P .any l.toArray Q (brks all) fin plan.length listed (St E n H F w0)) ⟨?_, ?_, ?_, ?_, ?_⟩
  · intro E H F h
    intro hwk plan listed hL hmem hp hdc hwt hcov
    match plan, hL, hp with
    | [], _, hp =>
      simp only [planB, Bool.and_eq_true, beq_iff_eq] at hp
      refine ⟨hp.1, fun a w hs => ?_⟩
      cases fin with
      | none => exact h a w hs
      | some j =>
        obtain ⟨o, ho, hw⟩ := h
        have h1 := hw a w hs
        have h2 := hp.2
        simp only [List.isEmpty_iff] at h2
        unfold wpList at h1
        unfold wpOp
        simp only [ho]
        split
        · rename_i hwt2
          rw [if_pos hwt2] at h1
          exact h1.imp (fun h4 => Oper.wp_mono (fun a' w' h3 => ⟨h2, h3⟩) h4) id
        · rename_i hwt2
          rw [if_neg hwt2] at h1
          exact ⟨h2, h1⟩
    | (i, k) :: rest, hL, hp =>
      obtain ⟨oi, _, hn⟩ := planB_head hp
      simp only [planOps, hn] at hL
      cases hL
  · intro o d v imp rest' E H F hq hd hn hl ih
    intro hwk plan listed hL hmem hp hdc hwt hcov
    match plan, hL, hp with
    | [], hL, _ => simp only [planOps] at hL; cases hL
    | (i, k) :: rest, hL, hp =>
      obtain ⟨oi, hoi, hni⟩ := planB_head hp
      simp only [planOps, hni] at hL
      injection hL with hL1 hL2
      injection hL1 with hL3 hL4
      subst hL3
      subst hL4
      obtain ⟨⟨hr, hf, hb⟩, hrest⟩ := planB_q hp
      refine Ax.first (fin := fin) (fin_in hfin (hmem _ (List.Mem.head _))) (i := i) (d := d) (v := v) hoi hd (Region.noSelect_spec hsel) hQ (wkG_refl m w0) (wkG_trans m w0) hb rest.length listed _ (Region.free_spec hoi hf) hr hdc ?_ (fun a w u => St.ins hl) (fun a w s => by rw [s.env.size]; simpa [Nat.blt_eq] using hn) Gr_St (imp := imp) ?_ ?_
      · intro himp j oj hbj hoj hun
        subst himp
        unfold brks at hbj
        obtain ⟨y, hy, hy2⟩ := List.any_eq_true.1 hbj
        rw [Bool.and_eq_true] at hy2
        obtain ⟨hy3, hy4⟩ := hy2
        obtain rfl := Nat.eq_of_beq_eq_true hy3
        obtain ⟨seen, hw⟩ := hwt
        rcases hcov y hy with h1 | h1
        · rw [hun] at h1; cases h1
        · rcases List.mem_cons.1 h1 with e | h1
          · exfalso
            rw [e] at hy4
            cases hy4
          · exact wait_in (wait_tail hw) (List.Mem.head _) h1 rfl hy4
      · intro a w s K hK
        unfold wpOp
        simp only [hoi]
        have h3 := hq a w (wk_state hwk s) Q K hK
        split
        · rename_i hwt; rw [if_pos hwt] at h3; exact .inl h3
        · rename_i hwt; rw [if_neg hwt] at h3; exact h3
      · have e : (fun a w => St E n H F w0 a w ∧ a.tmps[d]? = some v) = St ((d, v) :: E) n H F w0 := funext fun a => funext fun w => propext (St.push_iff hl).symm
        rw [e]
        exact ih hwk rest _ hL2 (fun x hx => hmem x (List.Mem.tail _ hx)) hrest (hdc.step hr) (hwt.elim fun _ h => ⟨_, wait_tail h⟩) (cov_step hcov)
  · intro t b r l' E H F hl hr ih
    intro hwk plan listed hL hmem hp hdc hwt hcov
    have h1 := ih hwk plan listed hL hmem hp hdc hwt hcov
    have e : St E n H F w0 = St ((t, .bool r) :: E) n H F w0 := funext fun a => funext fun w => propext (St.known_iff (n := n) (w0 := w0) hl hr)
    rw [e]
    exact h1
  · intro o br d rest' E H F hw hd hn hl ih
    intro hwk plan listed hL hmem hp hdc hwt hcov
    match plan, hL, hp with
    | [], hL, _ => simp only [planOps] at hL; cases hL
    | (i, k) :: rest, hL, hp =>
      obtain ⟨oi, hoi, hni⟩ := planB_head hp
      simp only [planOps, hni] at hL
      injection hL with hL1 hL2
      injection hL1 with hL3 hL4
      subst hL3
      subst hL4
      obtain ⟨hr, hrest⟩ := planB_s hp
      refine ⟨fun h0 => absurd (hr.symm.trans h0) (by simp), fun j hj a w s => ?_⟩
      rw [hr] at hj
      obtain rfl := List.mem_singleton.1 hj
      unfold wpOp
      simp only [hoi]
      rw [if_neg (by simp [hw a s.env]), hd]
      refine ⟨_, s.put hn, Gr_St, ?_, ih hwk rest _ hL2 (fun x hx => hmem x (List.Mem.tail _ hx)) hrest (hdc.step (by rw [hr]; exact List.Mem.head _)) (hwt.elim fun _ h => ⟨_, wait_tail h⟩) (cov_step hcov)⟩
      cases hb : brks all j
      · exact fun a w s => ⟨w, s.weak (sub_push hl), fun _ => wkG_refl m w0 w⟩
      · exact fun a w s => ⟨w, s.weak (sub_push hl), fun h => by cases h⟩
  · intro o br rest' E H F ι Ei Hi Fi hs hx ih hk
    intro hwk plan listed hL hmem hp hdc hwt hcov
    match plan, hL, hp with
    | [], hL, _ => simp only [planOps] at hL; cases hL
    | (i, k) :: rest, hL, hp =>
      obtain ⟨oi, hoi, hni⟩ := planB_head hp
      simp only [planOps, hni] at hL
      injection hL with hL1 hL2
      injection hL1 with hL3 hL4
      subst hL3
      subst hL4
      obtain ⟨hr, hrest⟩ := planB_s hp
      refine ⟨fun h0 => absurd (hr.symm.trans h0) (by simp), fun j hj a w s => ?_⟩
      rw [hr] at hj
      obtain rfl := List.mem_singleton.1 hj
      unfold wpOp
      simp only [hoi]
      rw [if_pos (hs.1 a s.env)]
      refine .inl (hs.2 a w s Q _ fun k a' w' _ s' => ⟨_, s', Gr_St, ?_, ih k (hk k) rest _ hL2 (fun x hx => hmem x (List.Mem.tail _ hx)) hrest (hdc.step (by rw [hr]; exact List.Mem.head _)) (hwt.elim fun _ h => ⟨_, wait_tail h⟩) (cov_step hcov)⟩)
      have hxk := hx k
      cases hbr : br
      · rw [hbr] at hxk
        simp only [Bool.false_eq_true, if_false] at hxk
        have h1 : ∀ a2 w2, St (Ei k) n (Hi k) (Fi k) w0 a2 w2 → ∃ w1, St E n H F w0 a2 w1 ∧ wkG m w0 w1 w2 := fun a2 w2 s2 => by
          have s3 := hxk a2 w2 s2
          cases m with
          | none => exact ⟨w2, s3, rfl⟩
          | some K => exact ⟨w, ⟨s3.env, s.hp, s.fact, s.sep, s.low⟩, fun _ => s3.wp⟩
        exact fun a2 w2 s2 => (h1 a2 w2 s2).imp fun _ h => ⟨h.1, fun _ => h.2⟩
      · rw [hbr] at hxk
        simp only [if_true] at hxk
        have hb : brks all j = true := by
          unfold brks
          exact List.any_eq_true.2 ⟨(j, .s br), hmem _ (List.Mem.head _), by simp [hbr]⟩
        rw [hb]
        exact fun a2 w2 s2 => ⟨w, ⟨s2.env.weak hxk, s.hp, s.fact, s.sep, s.low⟩, fun h => by cases h⟩
theorem WDm.split {m : Option Hp} {fin : Option Nat} {l : List (Oper × K4)} {t : Nat} {b : Bool} (hl : look E t = some (.bool b)) (h : ∀ r, b = r → WDm m fin P ops Q n w0 l ((t, .bool r) :: E) H F) : WDm m fin P ops Q n w0 l E H F := WDm.known hl rfl (h b rfl)
theorem WC.drawf {id : Nat} {l : List Oper} (m : Option Hp) (fin : Option Nat) (plan : List (Nat × K4)) (hwk : ∀ w, Wp w0 H F w → Wp w0 (wkH m H) (wkF m F) w) (hm : P.follows .mixedOrders = true) (hp : planOkF l fin plan = true)
    (h : WDm m fin P l.toArray (fun e a w => e = .normal ∧ Q e a w) n w0 (planOps l plan) E H F) : WC P (.region id l.toArray true) Q E n H F w0 := fun a w s => by
  unfold planOkF at hp
  simp only [Bool.and_eq_true] at hp
  obtain ⟨⟨⟨hlen, hsel⟩, hw⟩, hfin, hpl⟩ := hp
  have hA := WDm.sound hsel hfin (fun c a w h => by cases h.1) h hwk plan _ rfl (fun _ h => h) hpl (fun j o ho hk => by exfalso; simp [Array.getElem?_replicate] at hk; split at hk <;> simp at hk) ⟨[], hw⟩ (fun y hy => .inr hy)
  have hl := Nat.eq_of_beq_eq_true hlen
  refine Code.wp_mono (fun e a w h => h.2) (wp_region_any (Q := fun e a w => e = .normal ∧ Q e a w) hm ?_)
  have s' : St E n H F w0 a w.drew := s.grow ((Below.refl _ _).drew)
  have hs := Ax.sound _ _ _ a w.drew hA s'
  rw [hl] at hs
  simpa using hs
theorem WC.drawm {id : Nat} {l : List Oper} (m : Option Hp) (plan : List (Nat × K4)) (hwk : ∀ w, Wp w0 H F w → Wp w0 (wkH m H) (wkF m F) w) (hm : P.follows .mixedOrders = true) (hp : planOk l plan = true)
    (h : WDm m none P l.toArray (fun e a w => e = .normal ∧ Q e a w) n w0 (planOps l plan) E H F) : WC P (.region id l.toArray true) Q E n H F w0 := WC.drawf m none plan hwk hm hp h
/-- A drawn region: the operations in the order of 'plan'. -/
theorem WC.draw {id : Nat} {l : List Oper} (plan : List (Nat × K4)) (hm : P.follows .mixedOrders = true) (hp : planOk l plan = true)
    (h : WD P l.toArray (fun e a w => e = .normal ∧ Q e a w) n w0 (planOps l plan) E H F) : WC P (.region id l.toArray true) Q E n H F w0 :=
  WC.drawm none plan (fun _ h => h) hm hp h
theorem Wp.tail {x : Nat × List Value × TypeId} {w : World} (h : Wp w0 (x :: H) F w) : Wp w0 H SF.top w :=
  ⟨⟨fun y hy => h.1.blk y (List.Mem.tail _ hy), (List.pairwise_cons.1 h.1.nd).2⟩, trivial, fun _ _ h => h, h.2.2.2⟩
theorem ext_tail {x : Nat × List Value × TypeId} : if false = true then sub E E else ∀ a w, St E n (x :: H) F w0 a w → St E n H SF.top w0 a w := by
  simp only [Bool.false_eq_true, if_false]
  exact fun a w s => have h := Wp.tail s.wp; ⟨s.env, h.1, h.2.1, h.2.2.1, h.2.2.2⟩
theorem QS.known {imp : Bool} {o : Oper} {d t : Nat} {v : Value} {b r : Bool} (hl : look E t = some (.bool b)) (hr : b = r) (h : QS P ops imp o d v ((t, .bool r) :: E) n H F w0) : QS P ops imp o d v E n H F w0 := fun a w s Q K hK => by
  refine h a w ?_ Q K hK
  cases imp
  · obtain ⟨w1, s⟩ := s; exact ⟨w1, s.known hl hr⟩
  · exact s.known hl hr
theorem off_F {o : Oper} {g dg : Nat} {b c : Bool} (hg : o.guard = some (g, b)) (hd : (ops[g]?).bind (·.dst) = some dg) (hb : look E dg = some (.bool c)) (hne : (c == b) = false) : ∀ a, EnvOf E n a → Region.wanted o (yielded ops a.tmps) = false := fun a s => by
  have hy : yielded ops a.tmps g = some c := by simp [yielded, hd, s.at_ _ _ hb]
  cases c <;> cases b <;> simp_all [Region.wanted]
theorem off_U {o : Oper} {g dg : Nat} {b : Bool} (hg : o.guard = some (g, b)) (hd : (ops[g]?).bind (·.dst) = some dg) (hb : look E dg = some undef) : ∀ a, EnvOf E n a → Region.wanted o (yielded ops a.tmps) = false := fun a s => by
  have hy : yielded ops a.tmps g = none := by simp [yielded, hd, s.at_ _ _ hb, undef]
  simp [Region.wanted, hg, hy]
theorem sub_refl (E : Env) : sub E E := fun _ _ h => h
theorem ext_call {d : Nat} {v : Value} (hl : look E d = none) : if false = true then sub E ((d, v) :: E) else ∀ a w, St ((d, v) :: E) n H F w0 a w → St E n H F w0 a w := by
  simp only [Bool.false_eq_true, if_false]
  exact fun a w s => s.weak (sub_push hl)
theorem ext_callF {d : Nat} {v : Value} {G : SF} (hl : look E d = none) : if false = true then sub E ((d, v) :: E) else ∀ a w, St ((d, v) :: E) n H (F.and G) w0 a w → St E n H F w0 a w := by
  simp only [Bool.false_eq_true, if_false]
  exact fun a w s => ⟨s.env.weak (sub_push hl), s.hp, s.fact.1, fun x hx h => s.sep x hx (.inl h), s.low⟩
theorem ext_new {d : Nat} {v : Value} {x : Nat × List Value × TypeId} (hl : look E d = none) : if false = true then sub E ((d, v) :: E) else ∀ a w, St ((d, v) :: E) n (x :: H) F w0 a w → St E n H F w0 a w := by
  simp only [Bool.false_eq_true, if_false]
  exact fun a w s => ⟨s.env.weak (sub_push hl), ⟨fun y hy => s.hp.blk y (List.Mem.tail _ hy), (List.pairwise_cons.1 s.hp.nd).2⟩, s.fact, fun y hy h => s.sep y (List.Mem.tail _ hy) h, s.low⟩
theorem dP {m : Option Hp} {fin : Option Nat} {rest : List (Oper × K4)} {op : Op} {d : Nat} {T : TypeId} {p : String} {af : Array Edge} {v : Value} {imp : Bool} (hy : Yp P E n ⟨some d, op, T, p, af, none⟩ v) (hn : Nat.blt d n = true) (hl : look E d = none) (h : WDm m fin P ops Q n w0 rest ((d, v) :: E) H F) :
    WDm m fin P ops Q n w0 ((⟨some d, op, T, p, af, none⟩, .q imp) :: rest) E H F := WDm.quiet (QS.pure hy rfl rfl) rfl hn hl h
theorem dV {m : Option Hp} {fin : Option Nat} {rest : List (Oper × K4)} {op : Op} {d : Nat} {T : TypeId} {p : String} {af : Array Edge} {v : Value} (hy : Yv P E n (wkH m H) (wkF m F) w0 ⟨some d, op, T, p, af, none⟩ v) (hn : Nat.blt d n = true) (hl : look E d = none) (h : WDm m fin P ops Q n w0 rest ((d, v) :: E) H F) :
    WDm m fin P ops Q n w0 ((⟨some d, op, T, p, af, none⟩, .q true) :: rest) E H F := WDm.quiet (QS.val hy rfl rfl) rfl hn hl h
theorem QS.gT {o : Oper} {d : Nat} {v : Value} {imp : Bool} (ht : gtB ops E o = true) (h : QS P ops imp { o with guard := none } d v E n H F w0) : QS P ops imp o d v E n H F w0 := fun a w s Q K hK => by
  obtain ⟨g, b, hg, hy⟩ := gtB_at ht (imp_env s)
  rw [if_pos (by simp [Region.wanted, hg, hy])]
  have h1 := h a w s Q K hK
  rw [if_pos (by simp [Region.wanted])] at h1
  exact h1
theorem dPg {m : Option Hp} {fin : Option Nat} {rest : List (Oper × K4)} {o : Oper} {d : Nat} {v : Value} {imp : Bool} (ht : gtB ops E o = true) (hy : Yp P E n { o with guard := none } v) (hd : o.dst = some d) (hn : Nat.blt d n = true) (hl : look E d = none) (h : WDm m fin P ops Q n w0 rest ((d, v) :: E) H F) :
    WDm m fin P ops Q n w0 ((o, .q imp) :: rest) E H F := WDm.quiet (QS.gT ht (QS.pure hy rfl hd)) hd hn hl h
theorem dVg {m : Option Hp} {fin : Option Nat} {rest : List (Oper × K4)} {o : Oper} {d : Nat} {v : Value} (ht : gtB ops E o = true) (hy : Yv P E n (wkH m H) (wkF m F) w0 { o with guard := none } v) (hd : o.dst = some d) (hn : Nat.blt d n = true) (hl : look E d = none) (h : WDm m fin P ops Q n w0 rest ((d, v) :: E) H F) :
    WDm m fin P ops Q n w0 ((o, .q true) :: rest) E H F := WDm.quiet (QS.gT ht (QS.val hy rfl hd)) hd hn hl h
theorem dF {m : Option Hp} {fin : Option Nat} {rest : List (Oper × K4)} {o : Oper} {d : Nat} {imp : Bool} (hf : gfB ops E n o = some d) (hl : look E d = none) (h : WDm m fin P ops Q n w0 rest ((d, undef) :: E) H F) :
    WDm m fin P ops Q n w0 ((o, .q imp) :: rest) E H F := by
  obtain ⟨hd, hn, hw⟩ := gfB_at hf
  refine WDm.quiet (v := undef) (fun a w s Q K hK => ?_) hd hn hl h
  rw [if_neg (by simp [hw (imp_env s)]), hd]
  exact hK _ (Below.refl _ _)
end
end Go.Proofs.Ytmfjhacgpopijaa
end
section
set_option maxRecDepth 100000
namespace Go.Proofs.Ytmfjhacgpopijaa
open Go.RowKit
theorem bf_78_2_3 (x2 : Option Nat) (x3 : Option Nat) (w : World) : (Instr.build 78 #[(2, .map x2), (3, .map x3)]).run Try.prog w = .ok (.agg #[.slice none 0 0, .int .i64 0, .int .i64 0, .int .i64 0, .int .i64 0, .int .i64 0, .int .i64 0, .int .i64 0, .int .i64 0, .int .i64 0, .int .i64 0, .int .i64 0, .int .i64 0, .map x2, .map x3]) w := by kernel_rfl
theorem bf_92  (w : World) : (Instr.build 92 #[]).run Try.prog w = .ok (.agg #[.int .i64 0, .int .i64 0, .slice none 0 0]) w := by kernel_rfl
theorem bf_44  (w : World) : (Instr.build 44 #[]).run Try.prog w = .ok (.agg #[.slice none 0 0]) w := by kernel_rfl
theorem bf_55_0 (x0 : ByteArray) (w : World) : (Instr.build 55 #[(0, .string x0)]).run Try.prog w = .ok (.agg #[.string x0]) w := by kernel_rfl
theorem bf_60  (w : World) : (Instr.build 60 #[]).run Try.prog w = .ok (.agg #[]) w := by kernel_rfl
theorem bf_65_0 (x0 : ByteArray) (w : World) : (Instr.build 65 #[(0, .string x0)]).run Try.prog w = .ok (.agg #[.string x0]) w := by kernel_rfl
theorem bf_22_0_1_2 (x0 : Int) (x1 : Int) (x2 : Int) (w : World) : (Instr.build 22 #[(0, .int .i64 x0), (1, .int .i64 x1), (2, .int .i64 x2)]).run Try.prog w = .ok (.agg #[.int .i64 x0, .int .i64 x1, .int .i64 x2]) w := by kernel_rfl
theorem bf_24  (w : World) : (Instr.build 24 #[]).run Try.prog w = .ok (.agg #[.int .i64 0, .int .i64 0, .int .i64 0, .int .i64 0]) w := by kernel_rfl
theorem bf_24_0_1 (x0_0 : Int) (x0_1 : Int) (x0_2 : Int) (x1 : Int) (w : World) : (Instr.build 24 #[(0, .agg #[(.int .i64 x0_0), (.int .i64 x0_1), (.int .i64 x0_2)]), (1, .int .i64 x1)]).run Try.prog w = .ok (.agg #[.int .i64 x0_0, .int .i64 x0_1, .int .i64 x0_2, .int .i64 x1]) w := by kernel_rfl
theorem bf_48  (w : World) : (Instr.build 48 #[]).run Try.prog w = .ok (.agg #[.int .i64 0, .int .i64 0, .int .i64 0, .int .i64 0, .int .i64 0, .int .i64 0, .int .i64 0, .int .i64 0]) w := by kernel_rfl
theorem bf_48_0 (x0 : Int) (w : World) : (Instr.build 48 #[(0, .int .i64 x0)]).run Try.prog w = .ok (.agg #[.int .i64 x0, .int .i64 0, .int .i64 0, .int .i64 0, .int .i64 0, .int .i64 0, .int .i64 0, .int .i64 0]) w := by kernel_rfl
theorem bf_48_0_1_2 (x0 : Int) (x1 : Int) (x2 : Int) (w : World) : (Instr.build 48 #[(0, .int .i64 x0), (1, .int .i64 x1), (2, .int .i64 x2)]).run Try.prog w = .ok (.agg #[.int .i64 x0, .int .i64 x1, .int .i64 x2, .int .i64 0, .int .i64 0, .int .i64 0, .int .i64 0, .int .i64 0]) w := by kernel_rfl
theorem bf_48_0_1_2_3_4_5_6 (x0 : Int) (x1 : Int) (x2 : Int) (x3 : Int) (x4 : Int) (x5 : Int) (x6 : Int) (w : World) : (Instr.build 48 #[(0, .int .i64 x0), (1, .int .i64 x1), (2, .int .i64 x2), (3, .int .i64 x3), (4, .int .i64 x4), (5, .int .i64 x5), (6, .int .i64 x6)]).run Try.prog w = .ok (.agg #[.int .i64 x0, .int .i64 x1, .int .i64 x2, .int .i64 x3, .int .i64 x4, .int .i64 x5, .int .i64 x6, .int .i64 0]) w := by kernel_rfl
theorem bf_48_0_1_2_3_4_5_6_7 (x0 : Int) (x1 : Int) (x2 : Int) (x3 : Int) (x4 : Int) (x5 : Int) (x6 : Int) (x7 : Int) (w : World) : (Instr.build 48 #[(0, .int .i64 x0), (1, .int .i64 x1), (2, .int .i64 x2), (3, .int .i64 x3), (4, .int .i64 x4), (5, .int .i64 x5), (6, .int .i64 x6), (7, .int .i64 x7)]).run Try.prog w = .ok (.agg #[.int .i64 x0, .int .i64 x1, .int .i64 x2, .int .i64 x3, .int .i64 x4, .int .i64 x5, .int .i64 x6, .int .i64 x7]) w := by kernel_rfl
theorem bf_97_0_1 (x0 : Int) (x1 : Int) (w : World) : (Instr.build 97 #[(0, .int .i64 x0), (1, .int .i64 x1)]).run Try.prog w = .ok (.agg #[.int .i64 x0, .int .i64 x1]) w := by kernel_rfl
theorem bf_28  (w : World) : (Instr.build 28 #[]).run Try.prog w = .ok (.agg #[.int .i64 0, .int .i64 0, .int .i64 0, .int .i64 0, .int .i64 0, .int .i64 0, .int .i64 0, .int .i64 0, .int .i64 0, .int .i64 0, .int .i64 0, .int .i64 0, .slice none 0 0, .int .i64 0]) w := by kernel_rfl
theorem bf_28_1_2 (x1 : Option Addr) (x1l x1c : Nat) (x2 : Int) (w : World) : (Instr.build 28 #[(1, .slice x1 x1l x1c), (2, .int .i64 x2)]).run Try.prog w = .ok (.agg #[.int .i64 0, .int .i64 0, .int .i64 0, .int .i64 0, .int .i64 0, .int .i64 0, .int .i64 0, .int .i64 0, .int .i64 0, .int .i64 0, .int .i64 0, .int .i64 0, .slice x1 x1l x1c, .int .i64 x2]) w := by kernel_rfl
theorem bs_42_1 (x0 : Int) (w : World) : (Instr.buildSlice 42 1 #[(0, .int .u8 x0)]).run Try.prog w = .ok (.slice (some ⟨w.heap.size, 0, none⟩) 1 1) (w.alloc (.cells [.int .u8 x0].toArray 5)) := by kernel_rfl
theorem bs_42_3 (x0 : Int) (x1 : Int) (x2 : Int) (w : World) : (Instr.buildSlice 42 3 #[(0, .int .u8 x0), (1, .int .u8 x1), (2, .int .u8 x2)]).run Try.prog w = .ok (.slice (some ⟨w.heap.size, 0, none⟩) 3 3) (w.alloc (.cells [.int .u8 x0, .int .u8 x1, .int .u8 x2].toArray 5)) := by kernel_rfl
theorem bs_42_4 (x0 : Int) (x1 : Int) (x2 : Int) (x3 : Int) (w : World) : (Instr.buildSlice 42 4 #[(0, .int .u8 x0), (1, .int .u8 x1), (2, .int .u8 x2), (3, .int .u8 x3)]).run Try.prog w = .ok (.slice (some ⟨w.heap.size, 0, none⟩) 4 4) (w.alloc (.cells [.int .u8 x0, .int .u8 x1, .int .u8 x2, .int .u8 x3].toArray 5)) := by kernel_rfl
theorem bs_72_1 (x0 : Option Addr) (w : World) : (Instr.buildSlice 72 1 #[(0, .pointer x0)]).run Try.prog w = .ok (.slice (some ⟨w.heap.size, 0, none⟩) 1 1) (w.alloc (.cells [.pointer x0].toArray 58)) := by kernel_rfl
theorem bs_72_3 (x0 : Option Addr) (x1 : Option Addr) (x2 : Option Addr) (w : World) : (Instr.buildSlice 72 3 #[(0, .pointer x0), (1, .pointer x1), (2, .pointer x2)]).run Try.prog w = .ok (.slice (some ⟨w.heap.size, 0, none⟩) 3 3) (w.alloc (.cells [.pointer x0, .pointer x1, .pointer x2].toArray 58)) := by kernel_rfl
theorem bs_72_4 (x0 : Option Addr) (x1 : Option Addr) (x2 : Option Addr) (x3 : Option Addr) (w : World) : (Instr.buildSlice 72 4 #[(0, .pointer x0), (1, .pointer x1), (2, .pointer x2), (3, .pointer x3)]).run Try.prog w = .ok (.slice (some ⟨w.heap.size, 0, none⟩) 4 4) (w.alloc (.cells [.pointer x0, .pointer x1, .pointer x2, .pointer x3].toArray 58)) := by kernel_rfl
theorem bs_26_1 (x0_0 : Int) (x0_1 : Int) (x0_2 : Int) (x0_3 : Int) (x0_4 : Int) (x0_5 : Int) (x0_6 : Int) (x0_7 : Int) (w : World) : (Instr.buildSlice 26 1 #[(0, .agg #[(.int .i64 x0_0), (.int .i64 x0_1), (.int .i64 x0_2), (.int .i64 x0_3), (.int .i64 x0_4), (.int .i64 x0_5), (.int .i64 x0_6), (.int .i64 x0_7)])]).run Try.prog w = .ok (.slice (some ⟨w.heap.size, 0, none⟩) 1 1) (w.alloc (.cells [.int .i64 x0_0, .int .i64 x0_1, .int .i64 x0_2, .int .i64 x0_3, .int .i64 x0_4, .int .i64 x0_5, .int .i64 x0_6, .int .i64 x0_7].toArray 48)) := by kernel_rfl
theorem bs_26_9 (x0_0 : Int) (x0_1 : Int) (x0_2 : Int) (x0_3 : Int) (x0_4 : Int) (x0_5 : Int) (x0_6 : Int) (x0_7 : Int) (x1_0 : Int) (x1_1 : Int) (x1_2 : Int) (x1_3 : Int) (x1_4 : Int) (x1_5 : Int) (x1_6 : Int) (x1_7 : Int) (x2_0 : Int) (x2_1 : Int) (x2_2 : Int) (x2_3 : Int) (x2_4 : Int) (x2_5 : Int) (x2_6 : Int) (x2_7 : Int) (x3_0 : Int) (x3_1 : Int) (x3_2 : Int) (x3_3 : Int) (x3_4 : Int) (x3_5 : Int) (x3_6 : Int) (x3_7 : Int) (x4_0 : Int) (x4_1 : Int) (x4_2 : Int) (x4_3 : Int) (x4_4 : Int) (x4_5 : Int) (x4_6 : Int) (x4_7 : Int) (x5_0 : Int) (x5_1 : Int) (x5_2 : Int) (x5_3 : Int) (x5_4 : Int) (x5_5 : Int) (x5_6 : Int) (x5_7 : Int) (x6_0 : Int) (x6_1 : Int) (x6_2 : Int) (x6_3 : Int) (x6_4 : Int) (x6_5 : Int) (x6_6 : Int) (x6_7 : Int) (x7_0 : Int) (x7_1 : Int) (x7_2 : Int) (x7_3 : Int) (x7_4 : Int) (x7_5 : Int) (x7_6 : Int) (x7_7 : Int) (x8_0 : Int) (x8_1 : Int) (x8_2 : Int) (x8_3 : Int) (x8_4 : Int) (x8_5 : Int) (x8_6 : Int) (x8_7 : Int) (w : World) : (Instr.buildSlice 26 9 #[(0, .agg #[(.int .i64 x0_0), (.int .i64 x0_1), (.int .i64 x0_2), (.int .i64 x0_3), (.int .i64 x0_4), (.int .i64 x0_5), (.int .i64 x0_6), (.int .i64 x0_7)]), (1, .agg #[(.int .i64 x1_0), (.int .i64 x1_1), (.int .i64 x1_2), (.int .i64 x1_3), (.int .i64 x1_4), (.int .i64 x1_5), (.int .i64 x1_6), (.int .i64 x1_7)]), (2, .agg #[(.int .i64 x2_0), (.int .i64 x2_1), (.int .i64 x2_2), (.int .i64 x2_3), (.int .i64 x2_4), (.int .i64 x2_5), (.int .i64 x2_6), (.int .i64 x2_7)]), (3, .agg #[(.int .i64 x3_0), (.int .i64 x3_1), (.int .i64 x3_2), (.int .i64 x3_3), (.int .i64 x3_4), (.int .i64 x3_5), (.int .i64 x3_6), (.int .i64 x3_7)]), (4, .agg #[(.int .i64 x4_0), (.int .i64 x4_1), (.int .i64 x4_2), (.int .i64 x4_3), (.int .i64 x4_4), (.int .i64 x4_5), (.int .i64 x4_6), (.int .i64 x4_7)]), (5, .agg #[(.int .i64 x5_0), (.int .i64 x5_1), (.int .i64 x5_2), (.int .i64 x5_3), (.int .i64 x5_4), (.int .i64 x5_5), (.int .i64 x5_6), (.int .i64 x5_7)]), (6, .agg #[(.int .i64 x6_0), (.int .i64 x6_1), (.int .i64 x6_2), (.int .i64 x6_3), (.int .i64 x6_4), (.int .i64 x6_5), (.int .i64 x6_6), (.int .i64 x6_7)]), (7, .agg #[(.int .i64 x7_0), (.int .i64 x7_1), (.int .i64 x7_2), (.int .i64 x7_3), (.int .i64 x7_4), (.int .i64 x7_5), (.int .i64 x7_6), (.int .i64 x7_7)]), (8, .agg #[(.int .i64 x8_0), (.int .i64 x8_1), (.int .i64 x8_2), (.int .i64 x8_3), (.int .i64 x8_4), (.int .i64 x8_5), (.int .i64 x8_6), (.int .i64 x8_7)])]).run Try.prog w = .ok (.slice (some ⟨w.heap.size, 0, none⟩) 9 9) (w.alloc (.cells [.int .i64 x0_0, .int .i64 x0_1, .int .i64 x0_2, .int .i64 x0_3, .int .i64 x0_4, .int .i64 x0_5, .int .i64 x0_6, .int .i64 x0_7, .int .i64 x1_0, .int .i64 x1_1, .int .i64 x1_2, .int .i64 x1_3, .int .i64 x1_4, .int .i64 x1_5, .int .i64 x1_6, .int .i64 x1_7, .int .i64 x2_0, .int .i64 x2_1, .int .i64 x2_2, .int .i64 x2_3, .int .i64 x2_4, .int .i64 x2_5, .int .i64 x2_6, .int .i64 x2_7, .int .i64 x3_0, .int .i64 x3_1, .int .i64 x3_2, .int .i64 x3_3, .int .i64 x3_4, .int .i64 x3_5, .int .i64 x3_6, .int .i64 x3_7, .int .i64 x4_0, .int .i64 x4_1, .int .i64 x4_2, .int .i64 x4_3, .int .i64 x4_4, .int .i64 x4_5, .int .i64 x4_6, .int .i64 x4_7, .int .i64 x5_0, .int .i64 x5_1, .int .i64 x5_2, .int .i64 x5_3, .int .i64 x5_4, .int .i64 x5_5, .int .i64 x5_6, .int .i64 x5_7, .int .i64 x6_0, .int .i64 x6_1, .int .i64 x6_2, .int .i64 x6_3, .int .i64 x6_4, .int .i64 x6_5, .int .i64 x6_6, .int .i64 x6_7, .int .i64 x7_0, .int .i64 x7_1, .int .i64 x7_2, .int .i64 x7_3, .int .i64 x7_4, .int .i64 x7_5, .int .i64 x7_6, .int .i64 x7_7, .int .i64 x8_0, .int .i64 x8_1, .int .i64 x8_2, .int .i64 x8_3, .int .i64 x8_4, .int .i64 x8_5, .int .i64 x8_6, .int .i64 x8_7].toArray 48)) := by kernel_rfl
theorem bs_46_1 (x0 : Int) (w : World) : (Instr.buildSlice 46 1 #[(0, .int .i64 x0)]).run Try.prog w = .ok (.slice (some ⟨w.heap.size, 0, none⟩) 1 1) (w.alloc (.cells [.int .i64 x0].toArray 3)) := by kernel_rfl
theorem bs_46_3 (x0 : Int) (x1 : Int) (x2 : Int) (w : World) : (Instr.buildSlice 46 3 #[(0, .int .i64 x0), (1, .int .i64 x1), (2, .int .i64 x2)]).run Try.prog w = .ok (.slice (some ⟨w.heap.size, 0, none⟩) 3 3) (w.alloc (.cells [.int .i64 x0, .int .i64 x1, .int .i64 x2].toArray 3)) := by kernel_rfl
theorem bs_46_4 (x0 : Int) (x1 : Int) (x2 : Int) (x3 : Int) (w : World) : (Instr.buildSlice 46 4 #[(0, .int .i64 x0), (1, .int .i64 x1), (2, .int .i64 x2), (3, .int .i64 x3)]).run Try.prog w = .ok (.slice (some ⟨w.heap.size, 0, none⟩) 4 4) (w.alloc (.cells [.int .i64 x0, .int .i64 x1, .int .i64 x2, .int .i64 x3].toArray 3)) := by kernel_rfl
theorem bs_99_2 (x0 : Bool) (x1 : Bool) (w : World) : (Instr.buildSlice 99 2 #[(0, .bool x0), (1, .bool x1)]).run Try.prog w = .ok (.slice (some ⟨w.heap.size, 0, none⟩) 2 2) (w.alloc (.cells [.bool x0, .bool x1].toArray 4)) := by kernel_rfl
theorem bs_99_4 (x0 : Bool) (x1 : Bool) (x2 : Bool) (x3 : Bool) (w : World) : (Instr.buildSlice 99 4 #[(0, .bool x0), (1, .bool x1), (2, .bool x2), (3, .bool x3)]).run Try.prog w = .ok (.slice (some ⟨w.heap.size, 0, none⟩) 4 4) (w.alloc (.cells [.bool x0, .bool x1, .bool x2, .bool x3].toArray 4)) := by kernel_rfl
theorem fa_78_0 : FieldAt Try.prog 78 0 0 := fun _ _ _ => by kernel_rfl
theorem fa_78_1 : FieldAt Try.prog 78 1 1 := fun _ _ _ => by kernel_rfl
theorem fa_78_2 : FieldAt Try.prog 78 2 13 := fun _ _ _ => by kernel_rfl
theorem fa_78_3 : FieldAt Try.prog 78 3 14 := fun _ _ _ => by kernel_rfl
theorem fa_92_0 : FieldAt Try.prog 92 0 0 := fun _ _ _ => by kernel_rfl
theorem fa_92_1 : FieldAt Try.prog 92 1 1 := fun _ _ _ => by kernel_rfl
theorem fa_92_2 : FieldAt Try.prog 92 2 2 := fun _ _ _ => by kernel_rfl
theorem fa_44_0 : FieldAt Try.prog 44 0 0 := fun _ _ _ => by kernel_rfl
theorem fa_55_0 : FieldAt Try.prog 55 0 0 := fun _ _ _ => by kernel_rfl
theorem fa_65_0 : FieldAt Try.prog 65 0 0 := fun _ _ _ => by kernel_rfl
theorem fa_24_0 : FieldAt Try.prog 24 0 0 := fun _ _ _ => by kernel_rfl
theorem fa_24_1 : FieldAt Try.prog 24 1 3 := fun _ _ _ => by kernel_rfl
theorem fa_48_0 : FieldAt Try.prog 48 0 0 := fun _ _ _ => by kernel_rfl
theorem fa_48_1 : FieldAt Try.prog 48 1 1 := fun _ _ _ => by kernel_rfl
theorem fa_48_2 : FieldAt Try.prog 48 2 2 := fun _ _ _ => by kernel_rfl
theorem fa_48_3 : FieldAt Try.prog 48 3 3 := fun _ _ _ => by kernel_rfl
theorem fa_48_4 : FieldAt Try.prog 48 4 4 := fun _ _ _ => by kernel_rfl
theorem fa_48_5 : FieldAt Try.prog 48 5 5 := fun _ _ _ => by kernel_rfl
theorem fa_48_6 : FieldAt Try.prog 48 6 6 := fun _ _ _ => by kernel_rfl
theorem fa_48_7 : FieldAt Try.prog 48 7 7 := fun _ _ _ => by kernel_rfl
theorem fa_28_0 : FieldAt Try.prog 28 0 0 := fun _ _ _ => by kernel_rfl
theorem fa_28_1 : FieldAt Try.prog 28 1 12 := fun _ _ _ => by kernel_rfl
theorem fa_28_2 : FieldAt Try.prog 28 2 13 := fun _ _ _ => by kernel_rfl
theorem fl_75 : Flat Try.prog 75 := Try.isAgg75
theorem fl_76 : Flat Try.prog 76 := Try.isAgg76
theorem fl_42 : Flat Try.prog 42 := Try.isAgg42
theorem fl_58 : Flat Try.prog 58 := Try.isAgg58
theorem fl_29 : Flat Try.prog 29 := Try.isAgg29
theorem fl_3 : Flat Try.prog 3 := Try.isAgg3
theorem fl_26 : Flat Try.prog 26 := Try.isAgg26
theorem fl_4 : Flat Try.prog 4 := Try.isAgg4
theorem fl_46 : Flat Try.prog 46 := Try.isAgg46
theorem fl_9 : Flat Try.prog 9 := Try.isAgg9
theorem mixed : Try.prog.follows .mixedOrders = true := by kernel_rfl
theorem wd_24 : Wide Try.prog 24 4 := ⟨Try.isAgg24, Try.sizeOf24⟩
theorem wd_48 : Wide Try.prog 48 8 := ⟨Try.isAgg48, Try.sizeOf48⟩
theorem wd_25 : Wide Try.prog 25 12 := ⟨Try.isAgg25, Try.sizeOf25⟩
theorem wd_97 : Wide Try.prog 97 2 := ⟨Try.isAgg97, Try.sizeOf97⟩
theorem wd_28 : Wide Try.prog 28 14 := ⟨Try.isAgg28, Try.sizeOf28⟩
end Go.Proofs.Ytmfjhacgpopijaa
end
section
set_option linter.unusedVariables false
set_option linter.unusedSimpArgs false
set_option linter.unusedSectionVars false
namespace Go.Proofs.Ytmfjhacgpopijaa
open Go.RowKit
def R.cl (r : R) : List Value := [.int .i64 r.kind, .int .i64 r.txn, .int .i64 r.prev, .int .i64 r.page, .int .i64 r.cell, .int .i64 r.old, .int .i64 r.new, .int .i64 r.next]
/-- The slice at A, whose cells lie in block b from o on, reads as l. -/
structure RL (w : World) (A : Option Addr) (b o : Nat) (l : List R) : Prop where
  at_ : l ≠ [] → A = some ⟨b, o, none⟩ ∧ b < w.heap.size
  cell : ∀ i r, l[i]? = some r → ∀ j v, r.cl[j]? = some v → w.cell? ⟨b, o + i * 8 + j, none⟩ = some v
theorem ne_of_get {α : Type} {l : List α} {i : Nat} {r : α} (h : l[i]? = some r) : l ≠ [] := by
  rintro rfl
  simp at h
theorem RL.addr {w : World} {A : Option Addr} {b o : Nat} {l : List R} (h : RL w A b o l) {i : Nat} {r : R} (hi : l[i]? = some r) : A = some ⟨b, o, none⟩ := (h.at_ (ne_of_get hi)).1
theorem get_lt {α : Type} {l : List α} {i : Nat} {r : α} (hi : l[i]? = some r) : i < l.length := (List.getElem?_eq_some_iff.1 hi).1
theorem get_ltI {α : Type} {l : List α} {i : Nat} {r : α} (hi : l[i]? = some r) : (i : Int) < (l.length : Int) := by have := get_lt hi; omega
theorem nat0 (k : Nat) : (0 : Int) ≤ (k : Int) := by omega
theorem RL.below {w w' : World} {A : Option Addr} {b o : Nat} {l : List R} (h : RL w A b o l) (hb : Below w.heap.size w w') : RL w' A b o l :=
  ⟨fun hn => ⟨(h.at_ hn).1, Nat.lt_of_lt_of_le (h.at_ hn).2 hb.size⟩, fun i r hi j v hv => (hb.cell (p := ⟨b, o + i * 8 + j, none⟩) (h.at_ (ne_of_get hi)).2).trans (h.cell i r hi j v hv)⟩
theorem RL.below' {w w' : World} {A : Option Addr} {b o B : Nat} {l : List R} (h : RL w A b o l) (hB : b < B) (hb : Below B w w') : RL w' A b o l :=
  ⟨fun hn => ⟨(h.at_ hn).1, Nat.lt_of_lt_of_le (h.at_ hn).2 hb.size⟩, fun i r hi j v hv => (hb.cell (p := ⟨b, o + i * 8 + j, none⟩) hB).trans (h.cell i r hi j v hv)⟩
theorem RL.take {w : World} {A : Option Addr} {b o : Nat} {l : List R} (h : RL w A b o l) (k : Nat) : RL w A b o (l.take k) :=
  ⟨fun hn => h.at_ (fun e => hn (by simp [e])), fun i r hi => h.cell i r (by
    rw [List.getElem?_take] at hi
    split at hi
    · exact hi
    · cases hi)⟩
theorem cl_lt {r : R} {j : Nat} {v : Value} (h : r.cl[j]? = some v) : j < 8 := by
  have := (List.getElem?_eq_some_iff.1 h).1
  simpa [R.cl] using this
theorem RL.full {w : World} {A : Option Addr} {b o : Nat} {l : List R} (h : RL w A b o l) {i : Nat} {r : R} (hi : l[i]? = some r) (j : Nat) (hj : j < 8) : w.cell? ⟨b, o + i * 8 + j, none⟩ = r.cl[j]? := by
  have hl : j < r.cl.length := by simpa [R.cl] using hj
  rw [List.getElem?_eq_getElem hl]
  exact h.cell i r hi j _ (List.getElem?_eq_getElem hl)
/-- A record put behind those ahead. -/
theorem takeS {l : List R} {k : Nat} {r : R} (h : l[k]? = some r) : (l.take (k + 1)).reverse = r :: (l.take k).reverse := by
  obtain ⟨hl, he⟩ := List.getElem?_eq_some_iff.1 h
  rw [List.take_succ_eq_append_getElem hl, List.reverse_append, he]
  rfl
theorem takeL {l : List R} {k : Nat} {r : R} (h : l[k]? = some r) : (l.take k).reverse.length = k := by
  have := get_lt h
  simp
  omega
theorem eqi {k : IntKind} {i j : Int} (h : i = j) : some (Value.int k i) = some (.int k j) := by rw [h]
section
variable [Inhabited DSx] {P : Program} {E : Env} {n : Nat} {H : Hp} {F : SF} {w0 : World} {d : Option Nat} {x y : Operand} {T T' : TypeId} {p : String} {af : Array Edge} {i : Int}
/-- An index into a slice whose place is known apart. -/
theorem Y.ixSlA {A : Option Addr} {b o len cap e sz : Nat} (hu : P.underlying T = some (.slice e)) (hs : ∀ w, (sizeOf e).run P w = .ok sz w) (hx : ev E x = some (.slice A len cap)) (hy : ev E y = some (.int .i64 i)) (hA : A = some ⟨b, o, none⟩) (h0 : 0 ≤ i) (h1 : i < len) :
    Yp P E n ⟨d, .indexAddr T x y, T', p, af, none⟩ (.pointer (some ⟨b, o + i.toNat * sz, none⟩)) := by
  subst hA
  exact Y.ixSl hu hs hx hy h0 h1
end
end Go.Proofs.Ytmfjhacgpopijaa
end
section
set_option maxRecDepth 100000
set_option linter.unusedVariables false
set_option linter.unusedSimpArgs false
set_option linter.unusedSectionVars false
namespace Go.Proofs.Ytmfjhacgpopijaa
open Go.RowKit
theorem w_val (n : Int) (w : World) : Ret Try.prog 43 [.int .i64 n] w (.bool (wi n 0 99)) := by
 refine enter Try.func43 rfl Try.ntmps43 rfl SF.top trivial ?_
 refine sR ?_
 refine pA rfl rfl ?_
 refine nN ?_
 refine sR ?_
 refine pM rfl rfl ?_
 refine pP (Y.geq rfl rfl) rfl ?_
 refine pM rfl rfl ?_
 refine WL.split (t := 5) rfl (fun r h5 => ?_)
 cases r
 refine gF rfl ?_
 refine gF rfl ?_
 refine pP (Y.pickF rfl rfl) rfl ?_
 refine pA rfl rfl ?_
 refine nN ?_
 refine WC.ret ?_
 refine dn1 Try.results43 rfl (fun a w s => ?_)
 · refine ⟨?_, s.low⟩
   clear s
   (simp_all [packed, wi] <;> omega)
 refine gT rfl ?_
 refine pM rfl rfl ?_
 refine gT rfl ?_
 refine pP (Y.leq rfl rfl) rfl ?_
 refine pP (Y.pickT rfl rfl) rfl ?_
 refine pA rfl rfl ?_
 refine nN ?_
 refine WC.ret ?_
 refine dn1 Try.results43 rfl (fun a w s => ?_)
 · refine ⟨?_, s.low⟩
   clear s
   (simp_all [packed, wi] <;> omega)

theorem w_rwithin (n lo hi : Int) (w : World) : Ret Try.prog 16 [.int .i64 n, .int .i64 lo, .int .i64 hi] w (.bool (wi n lo hi)) := by
 refine enter Try.func16 rfl Try.ntmps16 rfl SF.top trivial ?_
 refine sR ?_
 refine pA rfl rfl ?_
 refine nN ?_
 refine sR ?_
 refine pM rfl rfl ?_
 refine pM rfl rfl ?_
 refine pP (Y.geq rfl rfl) rfl ?_
 refine pM rfl rfl ?_
 refine WL.split (t := 10) rfl (fun r h10 => ?_)
 cases r
 refine gF rfl ?_
 refine gF rfl ?_
 refine gF rfl ?_
 refine pP (Y.pickF rfl rfl) rfl ?_
 refine pA rfl rfl ?_
 refine nN ?_
 refine WC.ret ?_
 refine dn1 Try.results16 rfl (fun a w s => ?_)
 · refine ⟨?_, s.low⟩
   clear s
   (simp_all [packed, wi] <;> omega)
 refine gT rfl ?_
 refine pM rfl rfl ?_
 refine gT rfl ?_
 refine pM rfl rfl ?_
 refine gT rfl ?_
 refine pP (Y.leq rfl rfl) rfl ?_
 refine pP (Y.pickT rfl rfl) rfl ?_
 refine pA rfl rfl ?_
 refine nN ?_
 refine WC.ret ?_
 refine dn1 Try.results16 rfl (fun a w s => ?_)
 · refine ⟨?_, s.low⟩
   clear s
   (simp_all [packed, wi] <;> omega)

theorem w_within (n lo hi : Int) (w : World) : Ret Try.prog 41 [.int .i64 n, .int .i64 lo, .int .i64 hi] w (.bool (wi n lo hi)) := by
 refine enter Try.func41 rfl Try.ntmps41 rfl SF.top trivial ?_
 refine sR ?_
 refine pA rfl rfl ?_
 refine nN ?_
 refine sR ?_
 refine pM rfl rfl ?_
 refine pM rfl rfl ?_
 refine pP (Y.geq rfl rfl) rfl ?_
 refine pM rfl rfl ?_
 refine WL.split (t := 10) rfl (fun r h10 => ?_)
 cases r
 refine gF rfl ?_
 refine gF rfl ?_
 refine gF rfl ?_
 refine pP (Y.pickF rfl rfl) rfl ?_
 refine pA rfl rfl ?_
 refine nN ?_
 refine WC.ret ?_
 refine dn1 Try.results41 rfl (fun a w s => ?_)
 · refine ⟨?_, s.low⟩
   clear s
   (simp_all [packed, wi] <;> omega)
 refine gT rfl ?_
 refine pM rfl rfl ?_
 refine gT rfl ?_
 refine pM rfl rfl ?_
 refine gT rfl ?_
 refine pP (Y.leq rfl rfl) rfl ?_
 refine pP (Y.pickT rfl rfl) rfl ?_
 refine pA rfl rfl ?_
 refine nN ?_
 refine WC.ret ?_
 refine dn1 Try.results41 rfl (fun a w s => ?_)
 · refine ⟨?_, s.low⟩
   clear s
   (simp_all [packed, wi] <;> omega)

theorem w_turns (r : R) (w : World) : Ret Try.prog 14 [r.val] w (.bool r.turns) := by
 refine enter Try.func14 rfl Try.ntmps14 rfl SF.top trivial ?_
 refine sR ?_
 refine WL.eff (E.box rfl rfl rfl) rfl (fun b1 => ?_)
 refine pA rfl rfl ?_
 refine nN ?_
 refine sR ?_
 refine pP (Y.fieldAddr fa_48_0 rfl) rfl ?_
 refine pV (Y.load fl_3 rfl m0 rfl) rfl ?_
 refine pP (Y.eql rfl rfl) rfl ?_
 refine pM rfl rfl ?_
 refine WL.split (t := 6) rfl (fun r h6 => ?_)
 cases r
 refine gT rfl ?_
 refine pP (Y.fieldAddr fa_48_0 rfl) rfl ?_
 refine gT rfl ?_
 refine pV (Y.load fl_3 rfl m0 rfl) rfl ?_
 refine gT rfl ?_
 refine pP (Y.eql rfl rfl) rfl ?_
 refine pP (Y.pickF rfl rfl) rfl ?_
 refine pA rfl rfl ?_
 refine nN ?_
 refine WC.ret ?_
 refine dn1 Try.results14 rfl (fun a w s => ?_)
 · refine ⟨?_, s.low⟩
   clear s
   (simp_all [packed, R.turns] <;> omega)
 refine gF rfl ?_
 refine gF rfl ?_
 refine gF rfl ?_
 refine pP (Y.pickT rfl rfl) rfl ?_
 refine pA rfl rfl ?_
 refine nN ?_
 refine WC.ret ?_
 refine dn1 Try.results14 rfl (fun a w s => ?_)
 · refine ⟨?_, s.low⟩
   clear s
   (simp_all [packed, R.turns] <;> omega)

theorem w_rturns (r : R) (w : World) : Ret Try.prog 18 [r.val] w (.bool r.turns) := by
 refine enter Try.func18 rfl Try.ntmps18 rfl SF.top trivial ?_
 refine sR ?_
 refine WL.eff (E.box rfl rfl rfl) rfl (fun b1 => ?_)
 refine pA rfl rfl ?_
 refine nN ?_
 refine sR ?_
 refine pP (Y.fieldAddr fa_48_0 rfl) rfl ?_
 refine pV (Y.load fl_3 rfl m0 rfl) rfl ?_
 refine pP (Y.eql rfl rfl) rfl ?_
 refine pM rfl rfl ?_
 refine WL.split (t := 6) rfl (fun r h6 => ?_)
 cases r
 refine gT rfl ?_
 refine pP (Y.fieldAddr fa_48_0 rfl) rfl ?_
 refine gT rfl ?_
 refine pV (Y.load fl_3 rfl m0 rfl) rfl ?_
 refine gT rfl ?_
 refine pP (Y.eql rfl rfl) rfl ?_
 refine pP (Y.pickF rfl rfl) rfl ?_
 refine pA rfl rfl ?_
 refine nN ?_
 refine WC.ret ?_
 refine dn1 Try.results18 rfl (fun a w s => ?_)
 · refine ⟨?_, s.low⟩
   clear s
   (simp_all [packed, R.turns] <;> omega)
 refine gF rfl ?_
 refine gF rfl ?_
 refine gF rfl ?_
 refine pP (Y.pickT rfl rfl) rfl ?_
 refine pA rfl rfl ?_
 refine nN ?_
 refine WC.ret ?_
 refine dn1 Try.results18 rfl (fun a w s => ?_)
 · refine ⟨?_, s.low⟩
   clear s
   (simp_all [packed, R.turns] <;> omega)

/-- Bools that lie in a block. -/
def BoolsAt (w : World) (b : Nat) (bs : List Bool) : Prop := b < w.heap.size ∧ ∀ j x, bs[j]? = some x → w.cell? ⟨b, j, none⟩ = some (.bool x)
theorem BoolsAt.below {w w' : World} {b : Nat} {bs : List Bool} (h : BoolsAt w b bs) (hb : Below w.heap.size w w') : BoolsAt w' b bs :=
  ⟨Nat.lt_of_lt_of_le h.1 hb.size, fun j x hx => (hb.cell (p := ⟨b, j, none⟩) h.1).trans (h.2 j x hx)⟩
theorem BoolsAt.of {E : Env} {n : Nat} {H : Hp} {F : SF} {w0 w : World} {a : Act} {b : Nat} {bs : List Bool} {T : TypeId} (s : St E n H F w0 a w) (hm : (b, bs.map Value.bool, T) ∈ H) : BoolsAt w b bs :=
  ⟨s.hp.lt hm, fun j x hx => by rw [s.hp.cell hm]; simp [hx]⟩
/-- The place of the first false, from k on. -/
def fals : Nat → List Bool → Int
  | _, [] => -1
  | k, x :: l => if x then fals (k + 1) l else k
theorem fals_all : ∀ (l : List Bool) (k : Nat), decide (0 ≤ fals k l) = !l.all id
  | [], _ => by simp [fals]
  | true :: l, k => by simp [fals, fals_all l (k + 1)]
  | false :: l, k => by simp [fals]
theorem drop_cons {α : Type} {l : List α} {k : Nat} {x : α} (h : l[k]? = some x) : l.drop k = x :: l.drop (k + 1) := by
  obtain ⟨hl, he⟩ := List.getElem?_eq_some_iff.1 h
  rw [List.drop_eq_getElem_cons hl, he]

theorem w_indexB (bs : List Bool) (b : Nat) (w : World) (hl : bs.length ≤ 60) (hb : BoolsAt w b bs) : Ret Try.prog 51 [.slice (some ⟨b, 0, none⟩) bs.length bs.length, .bool false] w (.int .i64 (fals 0 bs)) := by
 refine enter Try.func51 rfl Try.ntmps51 rfl SF.top trivial ?_
 refine sR ?_
 refine pA rfl rfl ?_
 refine nN ?_
 refine WC.seq ?_
 refine sR ?_
 refine pM rfl rfl ?_
 refine pP (Y.len Try.underlying99 rfl) rfl ?_
 refine pM rfl rfl ?_
 refine nN ?_
 refine WC.block ?_
 refine WC.loop (ι := Nat) (fun k => [(0, .slice (some ⟨b, 0, none⟩) bs.length bs.length), (1, .bool false), (7, .int .i64 bs.length), (8, .int .i64 k)]) (fun _ => []) (fun _ => SF.top) (fun k => k ≤ bs.length ∧ fals 0 bs = fals k (bs.drop k)) (fun k => bs.length - k) 0 ⟨Nat.zero_le _, rfl⟩ (fun a w s => s.weak (by repeat (first | exact sub_nil _ | refine sub_cons rfl ?_))) (fun k hk => ?_)
 obtain ⟨hk, hf⟩ := hk
 refine sR ?_
 refine pP (Y.lss rfl rfl) rfl ?_
 refine nN ?_
 refine WC.seq ?_
 refine WC.cond rfl (fun h9 => ?_) (fun h9 => ?_)
 refine WC.skip' ?_
 refine WQ.next ?_
 refine WC.seq ?_
 refine WC.block ?_
 refine sR ?_
 refine pM rfl rfl ?_
 refine pA rfl rfl ?_
 refine nN ?_
 refine sR ?_
 refine pM rfl rfl ?_
 have h9 : k < bs.length := by simpa using h9
 obtain ⟨x, hx⟩ : ∃ x, bs[k]? = some x := ⟨_, List.getElem?_eq_getElem h9⟩
 refine pM rfl rfl ?_
 refine pM rfl rfl ?_
 refine pP (Y.ixSl Try.underlying99 Try.sizeOf4 rfl rfl (by omega) (by omega)) rfl ?_
 refine pV (Y.loadc fl_4 rfl (v := .bool x) (fun a w s => by have := (hb.below s.low).2 k x hx; simpa using this)) rfl ?_
 refine pP (Y.binK (v := .bool !x) rfl rfl (fun w => by cases x <;> kernel_rfl)) rfl ?_
 refine nN ?_
 refine WC.cond rfl (fun h16 => ?_) (fun h16 => ?_)
 refine sR ?_
 refine pM rfl rfl ?_
 refine pA rfl rfl ?_
 refine nN ?_
 refine WC.ret ?_
 refine WQ.blockRet ?_
 refine WQ.thenRet ?_
 refine WQ.thenRet ?_
 refine WQ.blockRet ?_
 refine WQ.thenRet ?_
 refine dn1 Try.results51 rfl (fun a w s => ?_)
 · refine ⟨?_, s.low⟩
   clear s
   have h9 := h9
   simp only [packed]
   first
     | (rw [hf, drop_cons hx]; simp_all [fals])
     | (rw [hf, List.drop_eq_nil_of_le (by simp at h9; omega)]; rfl)
 refine WC.skip' ?_
 refine WQ.blockEnd ?_
 refine WQ.next ?_
 refine WC.region ?_
 refine pP (Y.add rfl rfl (i64_in (by omega) (by omega))) rfl ?_
 refine pM rfl rfl ?_
 refine WL.nil ?_
 · exact fun a w s => ⟨k + 1, ⟨by omega, by rw [hf, drop_cons hx]; simp_all [fals]⟩, by omega, s.weak (by repeat (first | exact sub_nil _ | refine sub_cons rfl ?_))⟩
 refine WC.exit ?_
 refine WQ.thenExit ?_
 refine WQ.thenExit ?_
 refine WQ.blockExit ?_
 refine WQ.next ?_
 refine sR ?_
 refine pA rfl rfl ?_
 refine nN ?_
 refine WC.ret ?_
 refine dn1 Try.results51 rfl (fun a w s => ?_)
 · refine ⟨?_, s.low⟩
   clear s
   have h9 := h9
   simp only [packed]
   first
     | (rw [hf, drop_cons hx]; simp_all [fals])
     | (rw [hf, List.drop_eq_nil_of_le (by simp at h9; omega)]; rfl)

theorem w_containsB (bs : List Bool) (b : Nat) (w : World) (hl : bs.length ≤ 60) (hb : BoolsAt w b bs) : Ret Try.prog 49 [.slice (some ⟨b, 0, none⟩) bs.length bs.length, .bool false] w (.bool (!bs.all id)) := by
 refine enter Try.func49 rfl Try.ntmps49 rfl SF.top trivial ?_
 refine sR ?_
 refine pA rfl rfl ?_
 refine nN ?_
 refine sR ?_
 refine pM rfl rfl ?_
 refine pM rfl rfl ?_
 refine WL.eff (E.call Try.call51 rfl (fun _ w s => w_indexB bs b w hl (hb.below s.low)) rfl) rfl (fun _ => ?_)
 refine pP (Y.geq rfl rfl) rfl ?_
 refine pA rfl rfl ?_
 refine nN ?_
 refine WC.ret ?_
 refine dn1 Try.results49 rfl (fun a w s => ?_)
 · refine ⟨?_, s.low⟩
   simp only [packed]
   rw [fals_all]

theorem w_all (bs : List Bool) (b : Nat) (w : World) (hl : bs.length ≤ 60) (hb : BoolsAt w b bs) : Ret Try.prog 42 [.slice (some ⟨b, 0, none⟩) bs.length bs.length] w (.bool (bs.all id)) := by
 refine enter Try.func42 rfl Try.ntmps42 rfl SF.top trivial ?_
 refine sR ?_
 refine pA rfl rfl ?_
 refine nN ?_
 refine sR ?_
 refine pM rfl rfl ?_
 refine WL.eff (E.call Try.call49 rfl (fun _ w s => w_containsB bs b w hl (hb.below s.low)) rfl) rfl (fun _ => ?_)
 refine pP (Y.not rfl) rfl ?_
 refine pA rfl rfl ?_
 refine nN ?_
 refine WC.ret ?_
 refine dn1 Try.results42 rfl (fun a w s => ?_)
 · refine ⟨?_, s.low⟩
   simp only [packed, Bool.not_not]
end Go.Proofs.Ytmfjhacgpopijaa
end
section
set_option maxRecDepth 100000
set_option linter.unusedVariables false
set_option linter.unusedSimpArgs false
set_option linter.unusedSectionVars false
set_option maxHeartbeats 4000000
namespace Go.Proofs.Ytmfjhacgpopijaa
open Go.RowKit
theorem St.tl {E : Env} {n : Nat} {H : Hp} {F : SF} {w0 w : World} {a : Act} {x : Nat × List Value × TypeId} (s : St E n (x :: H) F w0 a w) : St E n H F w0 a w :=
  ⟨s.env, ⟨fun y hy => s.hp.blk y (List.Mem.tail _ hy), (List.pairwise_cons.1 s.hp.nd).2⟩, s.fact, fun y hy => s.sep y (List.Mem.tail _ hy), s.low⟩

theorem w_recError (n : Int) (r : R) (w : World) : Ret Try.prog 25 [.int .i64 n, r.val] w (.int .i64 (recErr n r)) := by
 refine enter Try.func25 rfl Try.ntmps25 rfl SF.top trivial ?_
 refine sR ?_
 refine WL.eff (E.box rfl rfl rfl) rfl (fun b1 => ?_)
 refine pA rfl rfl ?_
 refine nN ?_
 refine WC.seq ?_
 refine sR ?_
 refine pM rfl rfl ?_
 refine WL.eff (E.call Try.call16 rfl (fun _ w s => w_rwithin _ _ _ w) rfl) rfl (fun _ => ?_)
 refine pP (Y.not rfl) rfl ?_
 refine nN ?_
 refine WC.cond rfl (fun h7 => ?_) (fun h7 => ?_)
 refine sR ?_
 refine pA rfl rfl ?_
 refine nN ?_
 refine WC.ret ?_
 refine WQ.thenRet ?_
 refine dn1 Try.results25 rfl (fun a w s => ?_)
 · refine ⟨?_, s.low⟩
   clear s
   simp only [packed]
   apply reti
   (simp_all [recErr] <;> grind)
 refine WC.skip' ?_
 refine WQ.next ?_
 refine WC.seq ?_
 refine sR ?_
 refine pP (Y.fieldAddr fa_48_0 rfl) rfl ?_
 refine pV (Y.load fl_3 rfl m0 rfl) rfl ?_
 refine WL.eff (E.call Try.call16 rfl (fun _ w s => w_rwithin _ _ _ w) rfl) rfl (fun _ => ?_)
 refine pP (Y.not rfl) rfl ?_
 refine nN ?_
 refine WC.cond rfl (fun h11 => ?_) (fun h11 => ?_)
 refine sR ?_
 refine pA rfl rfl ?_
 refine nN ?_
 refine WC.ret ?_
 refine WQ.thenRet ?_
 refine dn1 Try.results25 rfl (fun a w s => ?_)
 · refine ⟨?_, s.low⟩
   clear s
   simp only [packed]
   apply reti
   (simp_all [recErr] <;> grind)
 refine WC.skip' ?_
 refine WQ.next ?_
 refine WC.seq ?_
 refine WC.cut1 [(23, .bool (!(wi r.txn 1 9 && wi r.prev 0 (n - 1)))), (0, .int .i64 n), (3, .pointer (some ⟨b1, 0, none⟩))] [(b1, [.int .i64 r.kind, .int .i64 r.txn, .int .i64 r.prev, .int .i64 r.page, .int .i64 r.cell, .int .i64 r.old, .int .i64 r.new, .int .i64 r.next], 48)] SF.top ?_ ?_
 refine WC.region ?_
 refine pP (Y.fieldAddr fa_48_1 rfl) rfl ?_
 refine pV (Y.load fl_3 rfl m0 rfl) rfl ?_
 refine WL.eff (E.call Try.call16 rfl (fun _ w s => w_rwithin _ _ _ w) rfl) rfl (fun _ => ?_)
 refine pP (Y.not rfl) rfl ?_
 refine pM rfl rfl ?_
 refine WL.split (t := 16) rfl (fun r h16 => ?_)
 cases r
 refine gT rfl ?_
 refine pP (Y.fieldAddr fa_48_2 rfl) rfl ?_
 refine gT rfl ?_
 refine pV (Y.load fl_3 rfl m0 rfl) rfl ?_
 refine gT rfl ?_
 refine pM rfl rfl ?_
 refine gT rfl ?_
 refine pP (Y.sub rfl rfl (i64_in (by simp_all [wi] <;> omega) (by simp_all [wi] <;> omega))) rfl ?_
 refine gT rfl ?_
 refine WL.eff (E.call Try.call16 rfl (fun _ w s => w_rwithin _ _ _ w) rfl) rfl (fun _ => ?_)
 refine gT rfl ?_
 refine pP (Y.not rfl) rfl ?_
 refine pP (Y.pickF rfl rfl) rfl ?_
 refine WL.nil ?_
 · refine fun a w s => ⟨rfl, s.weak (sub_cons (eqb ?_) (by repeat (first | exact sub_nil _ | refine sub_cons rfl ?_)))⟩
   clear s
   simp_all
 refine gF rfl ?_
 refine gF rfl ?_
 refine gF rfl ?_
 refine gF rfl ?_
 refine gF rfl ?_
 refine gF rfl ?_
 refine pP (Y.pickT rfl rfl) rfl ?_
 refine WL.nil ?_
 · refine fun a w s => ⟨rfl, s.weak (sub_cons (eqb ?_) (by repeat (first | exact sub_nil _ | refine sub_cons rfl ?_)))⟩
   clear s
   simp_all
 refine WC.cond rfl (fun h23 => ?_) (fun h23 => ?_)
 refine sR ?_
 refine pA rfl rfl ?_
 refine nN ?_
 refine WC.ret ?_
 refine WQ.thenRet ?_
 refine dn1 Try.results25 rfl (fun a w s => ?_)
 · refine ⟨?_, s.low⟩
   clear s
   simp only [packed]
   apply reti
   (simp_all [recErr] <;> grind)
 refine WC.skip' ?_
 refine WQ.next ?_
 refine WC.seq ?_
 refine WC.cut1 [(49, .bool (r.turns && !r.inner)), (0, .int .i64 n), (3, .pointer (some ⟨b1, 0, none⟩))] [(b1, [.int .i64 r.kind, .int .i64 r.txn, .int .i64 r.prev, .int .i64 r.page, .int .i64 r.cell, .int .i64 r.old, .int .i64 r.new, .int .i64 r.next], 48)] SF.top ?_ ?_
 refine WC.region ?_
 refine pV (Y.loadA wd_48 rfl m0 rfl) rfl ?_
 refine WL.eff (E.call Try.call18 rfl (fun _ w s => w_rturns r w) rfl) rfl (fun _ => ?_)
 refine pM rfl rfl ?_
 refine WL.split (t := 26) rfl (fun r h26 => ?_)
 cases r
 refine gF rfl ?_
 refine gF rfl ?_
 refine gF rfl ?_
 refine gF rfl ?_
 refine gF rfl ?_
 refine gF rfl ?_
 refine gF rfl ?_
 refine gF rfl ?_
 refine gF rfl ?_
 refine gF rfl ?_
 refine gF rfl ?_
 refine gF rfl ?_
 refine gF rfl ?_
 refine gF rfl ?_
 refine gF rfl ?_
 refine gF rfl ?_
 refine gF rfl ?_
 refine gF rfl ?_
 refine gF rfl ?_
 refine gF rfl ?_
 refine gF rfl ?_
 refine gF rfl ?_
 refine pP (Y.pickF rfl rfl) rfl ?_
 refine WL.nil ?_
 · refine fun a w s => ⟨rfl, s.weak (sub_cons (eqb ?_) (by repeat (first | exact sub_nil _ | refine sub_cons rfl ?_)))⟩
   clear s
   simp_all [R.inner]
 refine gT rfl ?_
 refine pP (Y.fieldAddr fa_48_3 rfl) rfl ?_
 refine gT rfl ?_
 refine pV (Y.load fl_3 rfl m0 rfl) rfl ?_
 refine gT rfl ?_
 refine WL.eff (E.call Try.call16 rfl (fun _ w s => w_rwithin _ _ _ w) rfl) rfl (fun _ => ?_)
 refine gT rfl ?_
 refine pP (Y.not rfl) rfl ?_
 refine gT rfl ?_
 refine pM rfl rfl ?_
 refine WL.split (t := 31) rfl (fun r h31 => ?_)
 cases r
 refine gT rfl ?_
 refine pP (Y.fieldAddr fa_48_4 rfl) rfl ?_
 refine gT rfl ?_
 refine pV (Y.load fl_3 rfl m0 rfl) rfl ?_
 refine gT rfl ?_
 refine WL.eff (E.call Try.call16 rfl (fun _ w s => w_rwithin _ _ _ w) rfl) rfl (fun _ => ?_)
 refine gT rfl ?_
 refine pP (Y.not rfl) rfl ?_
 refine gT rfl ?_
 refine pP (Y.pickF rfl rfl) rfl ?_
 refine gT rfl ?_
 refine pM rfl rfl ?_
 refine WL.split (t := 37) rfl (fun r h37 => ?_)
 cases r
 refine gT rfl ?_
 refine pP (Y.fieldAddr fa_48_5 rfl) rfl ?_
 refine gT rfl ?_
 refine pV (Y.load fl_3 rfl m0 rfl) rfl ?_
 refine gT rfl ?_
 refine WL.eff (E.call Try.call16 rfl (fun _ w s => w_rwithin _ _ _ w) rfl) rfl (fun _ => ?_)
 refine gT rfl ?_
 refine pP (Y.not rfl) rfl ?_
 refine gT rfl ?_
 refine pP (Y.pickF rfl rfl) rfl ?_
 refine gT rfl ?_
 refine pM rfl rfl ?_
 refine WL.split (t := 43) rfl (fun r h43 => ?_)
 cases r
 refine gT rfl ?_
 refine pP (Y.fieldAddr fa_48_6 rfl) rfl ?_
 refine gT rfl ?_
 refine pV (Y.load fl_3 rfl m0 rfl) rfl ?_
 refine gT rfl ?_
 refine WL.eff (E.call Try.call16 rfl (fun _ w s => w_rwithin _ _ _ w) rfl) rfl (fun _ => ?_)
 refine gT rfl ?_
 refine pP (Y.not rfl) rfl ?_
 refine gT rfl ?_
 refine pP (Y.pickF rfl rfl) rfl ?_
 refine pP (Y.pickT rfl rfl) rfl ?_
 refine WL.nil ?_
 · refine fun a w s => ⟨rfl, s.weak (sub_cons (eqb ?_) (by repeat (first | exact sub_nil _ | refine sub_cons rfl ?_)))⟩
   clear s
   simp_all [R.inner]
 refine gF rfl ?_
 refine gF rfl ?_
 refine gF rfl ?_
 refine gF rfl ?_
 refine gT rfl ?_
 refine pP (Y.pickT rfl rfl) rfl ?_
 refine pP (Y.pickT rfl rfl) rfl ?_
 refine WL.nil ?_
 · refine fun a w s => ⟨rfl, s.weak (sub_cons (eqb ?_) (by repeat (first | exact sub_nil _ | refine sub_cons rfl ?_)))⟩
   clear s
   simp_all [R.inner]
 refine gF rfl ?_
 refine gF rfl ?_
 refine gF rfl ?_
 refine gF rfl ?_
 refine gT rfl ?_
 refine pP (Y.pickT rfl rfl) rfl ?_
 refine gT rfl ?_
 refine pM rfl rfl ?_
 refine gF rfl ?_
 refine gF rfl ?_
 refine gF rfl ?_
 refine gF rfl ?_
 refine gT rfl ?_
 refine pP (Y.pickT rfl rfl) rfl ?_
 refine pP (Y.pickT rfl rfl) rfl ?_
 refine WL.nil ?_
 · refine fun a w s => ⟨rfl, s.weak (sub_cons (eqb ?_) (by repeat (first | exact sub_nil _ | refine sub_cons rfl ?_)))⟩
   clear s
   simp_all [R.inner]
 refine gF rfl ?_
 refine gF rfl ?_
 refine gF rfl ?_
 refine gF rfl ?_
 refine gT rfl ?_
 refine pP (Y.pickT rfl rfl) rfl ?_
 refine gT rfl ?_
 refine pM rfl rfl ?_
 refine gF rfl ?_
 refine gF rfl ?_
 refine gF rfl ?_
 refine gF rfl ?_
 refine gT rfl ?_
 refine pP (Y.pickT rfl rfl) rfl ?_
 refine gT rfl ?_
 refine pM rfl rfl ?_
 refine gF rfl ?_
 refine gF rfl ?_
 refine gF rfl ?_
 refine gF rfl ?_
 refine gT rfl ?_
 refine pP (Y.pickT rfl rfl) rfl ?_
 refine pP (Y.pickT rfl rfl) rfl ?_
 refine WL.nil ?_
 · refine fun a w s => ⟨rfl, s.weak (sub_cons (eqb ?_) (by repeat (first | exact sub_nil _ | refine sub_cons rfl ?_)))⟩
   clear s
   simp_all [R.inner]
 refine WC.cond rfl (fun h49 => ?_) (fun h49 => ?_)
 refine sR ?_
 refine pA rfl rfl ?_
 refine nN ?_
 refine WC.ret ?_
 refine WQ.thenRet ?_
 refine dn1 Try.results25 rfl (fun a w s => ?_)
 · refine ⟨?_, s.low⟩
   clear s
   simp only [packed]
   apply reti
   (simp_all [recErr] <;> grind)
 refine WC.skip' ?_
 refine WQ.next ?_
 refine WC.seq ?_
 refine WC.cut1 [(60, .bool (r.kind == 3 && !wi r.next 0 (n - 1))), (0, .int .i64 n), (3, .pointer (some ⟨b1, 0, none⟩))] [(b1, [.int .i64 r.kind, .int .i64 r.txn, .int .i64 r.prev, .int .i64 r.page, .int .i64 r.cell, .int .i64 r.old, .int .i64 r.new, .int .i64 r.next], 48)] SF.top ?_ ?_
 refine WC.region ?_
 refine pP (Y.fieldAddr fa_48_0 rfl) rfl ?_
 refine pV (Y.load fl_3 rfl m0 rfl) rfl ?_
 refine pP (Y.eql rfl rfl) rfl ?_
 refine pM rfl rfl ?_
 refine WL.split (t := 53) rfl (fun r h53 => ?_)
 cases r
 refine gF rfl ?_
 refine gF rfl ?_
 refine gF rfl ?_
 refine gF rfl ?_
 refine gF rfl ?_
 refine gF rfl ?_
 refine pP (Y.pickF rfl rfl) rfl ?_
 refine WL.nil ?_
 · refine fun a w s => ⟨rfl, s.weak (sub_cons (eqb ?_) (by repeat (first | exact sub_nil _ | refine sub_cons rfl ?_)))⟩
   clear s
   simp_all
 refine gT rfl ?_
 refine pP (Y.fieldAddr fa_48_7 rfl) rfl ?_
 refine gT rfl ?_
 refine pV (Y.load fl_3 rfl m0 rfl) rfl ?_
 refine gT rfl ?_
 refine pM rfl rfl ?_
 refine gT rfl ?_
 refine pP (Y.sub rfl rfl (i64_in (by simp_all [wi] <;> omega) (by simp_all [wi] <;> omega))) rfl ?_
 refine gT rfl ?_
 refine WL.eff (E.call Try.call16 rfl (fun _ w s => w_rwithin _ _ _ w) rfl) rfl (fun _ => ?_)
 refine gT rfl ?_
 refine pP (Y.not rfl) rfl ?_
 refine pP (Y.pickT rfl rfl) rfl ?_
 refine WL.nil ?_
 · refine fun a w s => ⟨rfl, s.weak (sub_cons (eqb ?_) (by repeat (first | exact sub_nil _ | refine sub_cons rfl ?_)))⟩
   clear s
   simp_all
 refine WC.cond rfl (fun h60 => ?_) (fun h60 => ?_)
 refine sR ?_
 refine pA rfl rfl ?_
 refine nN ?_
 refine WC.ret ?_
 refine WQ.thenRet ?_
 refine dn1 Try.results25 rfl (fun a w s => ?_)
 · refine ⟨?_, s.low⟩
   clear s
   simp only [packed]
   apply reti
   (simp_all [recErr] <;> grind)
 refine WC.skip' ?_
 refine WQ.next ?_
 refine WC.seq ?_
 refine WC.cut1 [(93, .bool (!((r.turns || r.bare) && (r.kind == 3 || r.next == 0)))), (0, .int .i64 n), (3, .pointer (some ⟨b1, 0, none⟩))] [(b1, [.int .i64 r.kind, .int .i64 r.txn, .int .i64 r.prev, .int .i64 r.page, .int .i64 r.cell, .int .i64 r.old, .int .i64 r.new, .int .i64 r.next], 48)] SF.top ?_ ?_
 refine WC.region ?_
 refine pV (Y.loadA wd_48 rfl m0 rfl) rfl ?_
 refine WL.eff (E.call Try.call18 rfl (fun _ w s => w_rturns r w) rfl) rfl (fun _ => ?_)
 refine pP (Y.not rfl) rfl ?_
 refine pM rfl rfl ?_
 refine WL.split (t := 64) rfl (fun r h64 => ?_)
 cases r
 refine gF rfl ?_
 refine gF rfl ?_
 refine gF rfl ?_
 refine gF rfl ?_
 refine gF rfl ?_
 refine gF rfl ?_
 refine gF rfl ?_
 refine gF rfl ?_
 refine gF rfl ?_
 refine gF rfl ?_
 refine gF rfl ?_
 refine gF rfl ?_
 refine gF rfl ?_
 refine gF rfl ?_
 refine gF rfl ?_
 refine gF rfl ?_
 refine gF rfl ?_
 refine gF rfl ?_
 refine pP (Y.pickF rfl rfl) rfl ?_
 refine pM rfl rfl ?_
 refine gT rfl ?_
 refine pP (Y.fieldAddr fa_48_0 rfl) rfl ?_
 refine gT rfl ?_
 refine pV (Y.load fl_3 rfl m0 rfl) rfl ?_
 refine gT rfl ?_
 refine pP (Y.neq rfl rfl) rfl ?_
 refine gT rfl ?_
 refine pM rfl rfl ?_
 refine WL.split (t := 88) rfl (fun r h88 => ?_)
 cases r
 refine gF rfl ?_
 refine gF rfl ?_
 refine gF rfl ?_
 refine gT rfl ?_
 refine pP (Y.pickF rfl rfl) rfl ?_
 refine pP (Y.pickF rfl rfl) rfl ?_
 refine WL.nil ?_
 · refine fun a w s => ⟨rfl, s.weak (sub_cons (eqb ?_) (by repeat (first | exact sub_nil _ | refine sub_cons rfl ?_)))⟩
   clear s
   (simp_all [R.bare] <;> grind)
 refine gT rfl ?_
 refine pP (Y.fieldAddr fa_48_7 rfl) rfl ?_
 refine gT rfl ?_
 refine pV (Y.load fl_3 rfl m0 rfl) rfl ?_
 refine gT rfl ?_
 refine pP (Y.neq rfl rfl) rfl ?_
 refine gT rfl ?_
 refine pP (Y.pickT rfl rfl) rfl ?_
 refine pP (Y.pickF rfl rfl) rfl ?_
 refine WL.nil ?_
 · refine fun a w s => ⟨rfl, s.weak (sub_cons (eqb ?_) (by repeat (first | exact sub_nil _ | refine sub_cons rfl ?_)))⟩
   clear s
   (simp_all [R.bare] <;> grind)
 refine gT rfl ?_
 refine pP (Y.fieldAddr fa_48_3 rfl) rfl ?_
 refine gT rfl ?_
 refine pV (Y.load fl_3 rfl m0 rfl) rfl ?_
 refine gT rfl ?_
 refine pP (Y.neq rfl rfl) rfl ?_
 refine gT rfl ?_
 refine pM rfl rfl ?_
 refine WL.split (t := 68) rfl (fun r h68 => ?_)
 cases r
 refine gT rfl ?_
 refine pP (Y.fieldAddr fa_48_4 rfl) rfl ?_
 refine gT rfl ?_
 refine pV (Y.load fl_3 rfl m0 rfl) rfl ?_
 refine gT rfl ?_
 refine pP (Y.neq rfl rfl) rfl ?_
 refine gT rfl ?_
 refine pP (Y.pickF rfl rfl) rfl ?_
 refine gT rfl ?_
 refine pM rfl rfl ?_
 refine WL.split (t := 73) rfl (fun r h73 => ?_)
 cases r
 refine gT rfl ?_
 refine pP (Y.fieldAddr fa_48_5 rfl) rfl ?_
 refine gT rfl ?_
 refine pV (Y.load fl_3 rfl m0 rfl) rfl ?_
 refine gT rfl ?_
 refine pP (Y.neq rfl rfl) rfl ?_
 refine gT rfl ?_
 refine pP (Y.pickF rfl rfl) rfl ?_
 refine gT rfl ?_
 refine pM rfl rfl ?_
 refine WL.split (t := 78) rfl (fun r h78 => ?_)
 cases r
 refine gT rfl ?_
 refine pP (Y.fieldAddr fa_48_6 rfl) rfl ?_
 refine gT rfl ?_
 refine pV (Y.load fl_3 rfl m0 rfl) rfl ?_
 refine gT rfl ?_
 refine pP (Y.neq rfl rfl) rfl ?_
 refine gT rfl ?_
 refine pP (Y.pickF rfl rfl) rfl ?_
 refine pP (Y.pickT rfl rfl) rfl ?_
 refine pM rfl rfl ?_
 refine WL.split (t := 84) rfl (fun r h84 => ?_)
 cases r
 refine gT rfl ?_
 refine pP (Y.fieldAddr fa_48_0 rfl) rfl ?_
 refine gT rfl ?_
 refine pV (Y.load fl_3 rfl m0 rfl) rfl ?_
 refine gT rfl ?_
 refine pP (Y.neq rfl rfl) rfl ?_
 refine gT rfl ?_
 refine pM rfl rfl ?_
 refine WL.split (t := 88) rfl (fun r h88 => ?_)
 cases r
 refine gF rfl ?_
 refine gF rfl ?_
 refine gF rfl ?_
 refine gT rfl ?_
 refine pP (Y.pickF rfl rfl) rfl ?_
 refine pP (Y.pickF rfl rfl) rfl ?_
 refine WL.nil ?_
 · refine fun a w s => ⟨rfl, s.weak (sub_cons (eqb ?_) (by repeat (first | exact sub_nil _ | refine sub_cons rfl ?_)))⟩
   clear s
   (simp_all [R.bare] <;> grind)
 refine gT rfl ?_
 refine pP (Y.fieldAddr fa_48_7 rfl) rfl ?_
 refine gT rfl ?_
 refine pV (Y.load fl_3 rfl m0 rfl) rfl ?_
 refine gT rfl ?_
 refine pP (Y.neq rfl rfl) rfl ?_
 refine gT rfl ?_
 refine pP (Y.pickT rfl rfl) rfl ?_
 refine pP (Y.pickF rfl rfl) rfl ?_
 refine WL.nil ?_
 · refine fun a w s => ⟨rfl, s.weak (sub_cons (eqb ?_) (by repeat (first | exact sub_nil _ | refine sub_cons rfl ?_)))⟩
   clear s
   (simp_all [R.bare] <;> grind)
 refine gF rfl ?_
 refine gF rfl ?_
 refine gF rfl ?_
 refine gF rfl ?_
 refine gF rfl ?_
 refine gF rfl ?_
 refine gF rfl ?_
 refine gF rfl ?_
 refine pP (Y.pickT rfl rfl) rfl ?_
 refine WL.nil ?_
 · refine fun a w s => ⟨rfl, s.weak (sub_cons (eqb ?_) (by repeat (first | exact sub_nil _ | refine sub_cons rfl ?_)))⟩
   clear s
   (simp_all [R.bare] <;> grind)
 refine gF rfl ?_
 refine gF rfl ?_
 refine gF rfl ?_
 refine gT rfl ?_
 refine pP (Y.pickT rfl rfl) rfl ?_
 refine pP (Y.pickT rfl rfl) rfl ?_
 refine pM rfl rfl ?_
 refine gF rfl ?_
 refine gF rfl ?_
 refine gF rfl ?_
 refine gF rfl ?_
 refine gF rfl ?_
 refine gF rfl ?_
 refine gF rfl ?_
 refine gF rfl ?_
 refine pP (Y.pickT rfl rfl) rfl ?_
 refine WL.nil ?_
 · refine fun a w s => ⟨rfl, s.weak (sub_cons (eqb ?_) (by repeat (first | exact sub_nil _ | refine sub_cons rfl ?_)))⟩
   clear s
   (simp_all [R.bare] <;> grind)
 refine gF rfl ?_
 refine gF rfl ?_
 refine gF rfl ?_
 refine gT rfl ?_
 refine pP (Y.pickT rfl rfl) rfl ?_
 refine gT rfl ?_
 refine pM rfl rfl ?_
 refine gF rfl ?_
 refine gF rfl ?_
 refine gF rfl ?_
 refine gT rfl ?_
 refine pP (Y.pickT rfl rfl) rfl ?_
 refine pP (Y.pickT rfl rfl) rfl ?_
 refine pM rfl rfl ?_
 refine gF rfl ?_
 refine gF rfl ?_
 refine gF rfl ?_
 refine gF rfl ?_
 refine gF rfl ?_
 refine gF rfl ?_
 refine gF rfl ?_
 refine gF rfl ?_
 refine pP (Y.pickT rfl rfl) rfl ?_
 refine WL.nil ?_
 · refine fun a w s => ⟨rfl, s.weak (sub_cons (eqb ?_) (by repeat (first | exact sub_nil _ | refine sub_cons rfl ?_)))⟩
   clear s
   (simp_all [R.bare] <;> grind)
 refine gF rfl ?_
 refine gF rfl ?_
 refine gF rfl ?_
 refine gT rfl ?_
 refine pP (Y.pickT rfl rfl) rfl ?_
 refine gT rfl ?_
 refine pM rfl rfl ?_
 refine gF rfl ?_
 refine gF rfl ?_
 refine gF rfl ?_
 refine gT rfl ?_
 refine pP (Y.pickT rfl rfl) rfl ?_
 refine gT rfl ?_
 refine pM rfl rfl ?_
 refine gF rfl ?_
 refine gF rfl ?_
 refine gF rfl ?_
 refine gT rfl ?_
 refine pP (Y.pickT rfl rfl) rfl ?_
 refine pP (Y.pickT rfl rfl) rfl ?_
 refine pM rfl rfl ?_
 refine gF rfl ?_
 refine gF rfl ?_
 refine gF rfl ?_
 refine gF rfl ?_
 refine gF rfl ?_
 refine gF rfl ?_
 refine gF rfl ?_
 refine gF rfl ?_
 refine pP (Y.pickT rfl rfl) rfl ?_
 refine WL.nil ?_
 · refine fun a w s => ⟨rfl, s.weak (sub_cons (eqb ?_) (by repeat (first | exact sub_nil _ | refine sub_cons rfl ?_)))⟩
   clear s
   (simp_all [R.bare] <;> grind)
 refine WC.cond rfl (fun h93 => ?_) (fun h93 => ?_)
 refine sR ?_
 refine pA rfl rfl ?_
 refine nN ?_
 refine WC.ret ?_
 refine WQ.thenRet ?_
 refine dn1 Try.results25 rfl (fun a w s => ?_)
 · refine ⟨?_, s.low⟩
   clear s
   simp only [packed]
   apply reti
   (simp_all [recErr] <;> grind)
 refine WC.skip' ?_
 refine WQ.next ?_
 refine sR ?_
 refine pA rfl rfl ?_
 refine nN ?_
 refine WC.ret ?_
 refine dn1 Try.results25 rfl (fun a w s => ?_)
 · refine ⟨?_, s.low⟩
   clear s
   simp only [packed]
   apply reti
   (simp_all [recErr] <;> grind)

theorem bare_eq (r : R) : (!decide ((⟨0, 0, 0, if r.turns then 0 else r.page, if r.turns then 0 else r.cell, if r.turns then 0 else r.old, if r.turns then 0 else r.new, if r.kind = 3 then 0 else r.next⟩ : R) = ⟨0, 0, 0, 0, 0, 0, 0, 0⟩)) = !((r.turns || r.bare) && (r.kind == 3 || r.next == 0)) := by
  cases ht : r.turns <;> by_cases hk : r.kind = 3 <;> rw [Bool.eq_iff_iff] <;> simp [hk, R.bare, r_ext, and_assoc, or_assoc]

theorem w_check (n : Int) (r : R) (w : World) : Ret Try.prog 37 [.int .i64 n, r.val] w (.int .i64 (recErr n r)) := by
 refine enter Try.func37 rfl Try.ntmps37 rfl SF.top trivial ?_
 refine sR ?_
 refine WL.eff (E.box rfl rfl rfl) rfl (fun b1 => ?_)
 refine pA rfl rfl ?_
 refine nN ?_
 refine sR ?_
 refine pA rfl rfl ?_
 refine nN ?_
 refine sR ?_
 refine pV (Y.loadA wd_48 rfl m0 rfl) rfl ?_
 refine WL.eff (E.alloc Try.zeroValue48 rfl rfl) rfl (fun b2 => ?_)
 refine WL.eff (E.store Try.sizeOf48 rfl rfl rfl rfl rfl u0 rfl rfl) rfl (fun _ => ?_)
 refine nN ?_
 refine sR ?_
 refine pP (Y.fieldAddr fa_48_0 rfl) rfl ?_
 refine WL.eff (E.store Try.sizeOf3 rfl rfl rfl rfl rfl u0 rfl rfl) rfl (fun _ => ?_)
 refine pP (Y.fieldAddr fa_48_1 rfl) rfl ?_
 refine WL.eff (E.store Try.sizeOf3 rfl rfl rfl rfl rfl u0 rfl rfl) rfl (fun _ => ?_)
 refine pP (Y.fieldAddr fa_48_2 rfl) rfl ?_
 refine WL.eff (E.store Try.sizeOf3 rfl rfl rfl rfl rfl u0 rfl rfl) rfl (fun _ => ?_)
 refine nN ?_
 refine WC.cut1 [(0, .int .i64 n), (3, .pointer (some ⟨b1, 0, none⟩)), (5, .func (.func 41) #[] #[]), (6, .pointer (some ⟨b2, 0, none⟩))] [(b2, [.int .i64 0, .int .i64 0, .int .i64 0, .int .i64 (if r.turns then 0 else r.page), .int .i64 (if r.turns then 0 else r.cell), .int .i64 (if r.turns then 0 else r.old), .int .i64 (if r.turns then 0 else r.new), .int .i64 r.next], 48), (b1, [.int .i64 r.kind, .int .i64 r.txn, .int .i64 r.prev, .int .i64 r.page, .int .i64 r.cell, .int .i64 r.old, .int .i64 r.new, .int .i64 r.next], 48)] SF.top ?_ ?_
 refine sR ?_
 refine pV (Y.loadA wd_48 rfl m1 rfl) rfl ?_
 refine WL.eff (E.call Try.call14 rfl (fun _ w s => w_turns r w) rfl) rfl (fun _ => ?_)
 refine nN ?_
 refine WC.cond rfl (fun h12 => ?_) (fun h12 => ?_)
 refine WC.region ?_
 refine pP (Y.fieldAddr fa_48_3 rfl) rfl ?_
 refine WL.eff (E.store Try.sizeOf3 rfl rfl rfl rfl rfl u0 rfl rfl) rfl (fun _ => ?_)
 refine pP (Y.fieldAddr fa_48_4 rfl) rfl ?_
 refine WL.eff (E.store Try.sizeOf3 rfl rfl rfl rfl rfl u0 rfl rfl) rfl (fun _ => ?_)
 refine pP (Y.fieldAddr fa_48_5 rfl) rfl ?_
 refine WL.eff (E.store Try.sizeOf3 rfl rfl rfl rfl rfl u0 rfl rfl) rfl (fun _ => ?_)
 refine pP (Y.fieldAddr fa_48_6 rfl) rfl ?_
 refine WL.eff (E.store Try.sizeOf3 rfl rfl rfl rfl rfl u0 rfl rfl) rfl (fun _ => ?_)
 refine WL.nil ?_
 · refine fun a w s => ⟨rfl, ?_⟩
   simp only [if_pos h12]
   exact s.weak (by repeat (first | exact sub_nil _ | refine sub_cons rfl ?_))
 refine WC.skip' ?_
 · refine fun a w s => ⟨rfl, ?_⟩
   simp only [if_neg (show ¬ r.turns = true by rw [h12]; simp)]
   exact s.weak (by repeat (first | exact sub_nil _ | refine sub_cons rfl ?_))
 refine WC.cut1 [(0, .int .i64 n), (3, .pointer (some ⟨b1, 0, none⟩)), (5, .func (.func 41) #[] #[]), (6, .pointer (some ⟨b2, 0, none⟩))] [(b2, [.int .i64 0, .int .i64 0, .int .i64 0, .int .i64 (if r.turns then 0 else r.page), .int .i64 (if r.turns then 0 else r.cell), .int .i64 (if r.turns then 0 else r.old), .int .i64 (if r.turns then 0 else r.new), .int .i64 (if r.kind = 3 then 0 else r.next)], 48), (b1, [.int .i64 r.kind, .int .i64 r.txn, .int .i64 r.prev, .int .i64 r.page, .int .i64 r.cell, .int .i64 r.old, .int .i64 r.new, .int .i64 r.next], 48)] SF.top ?_ ?_
 refine sR ?_
 refine pP (Y.fieldAddr fa_48_0 rfl) rfl ?_
 refine pV (Y.load fl_3 rfl m1 rfl) rfl ?_
 refine pP (Y.eql rfl rfl) rfl ?_
 refine nN ?_
 refine WC.cond rfl (fun h19 => ?_) (fun h19 => ?_)
 refine WC.region ?_
 refine pP (Y.fieldAddr fa_48_7 rfl) rfl ?_
 refine WL.eff (E.store Try.sizeOf3 rfl rfl rfl rfl rfl u0 rfl rfl) rfl (fun _ => ?_)
 refine WL.nil ?_
 · refine fun a w s => ⟨rfl, ?_⟩
   rw [if_pos (show r.kind = 3 by simpa using h19)]
   exact s.weak (by repeat (first | exact sub_nil _ | refine sub_cons rfl ?_))
 refine WC.skip' ?_
 · refine fun a w s => ⟨rfl, ?_⟩
   rw [if_neg (show ¬ r.kind = 3 by simpa using h19)]
   exact s.weak (by repeat (first | exact sub_nil _ | refine sub_cons rfl ?_))
 refine WC.seq ?_
 refine WC.block ?_
 refine sR ?_
 refine pM rfl rfl ?_
 refine pM rfl rfl ?_
 refine WL.eff (E.callV Try.call41 rfl rfl (fun _ w s => w_within _ _ _ w) rfl) rfl (fun _ => ?_)
 refine pP (Y.not rfl) rfl ?_
 refine pA rfl rfl ?_
 refine nN ?_
 refine WC.cond rfl (fun h21 => ?_) (fun h21 => ?_)
 refine sR ?_
 refine pA rfl rfl ?_
 refine nN ?_
 refine WC.ret ?_
 refine WQ.blockRet ?_
 refine WQ.thenRet ?_
 refine dn1 Try.results37 rfl (fun a w s => ?_)
 · refine ⟨?_, s.low⟩
   clear s
   simp only [packed]
   apply reti
   (simp_all [recErr] <;> grind)
 refine sR ?_
 refine pM rfl rfl ?_
 refine pP (Y.fieldAddr fa_48_0 rfl) rfl ?_
 refine pV (Y.load fl_3 rfl m1 rfl) rfl ?_
 refine WL.eff (E.callV Try.call41 rfl rfl (fun _ w s => w_within _ _ _ w) rfl) rfl (fun _ => ?_)
 refine pP (Y.not rfl) rfl ?_
 refine pA rfl rfl ?_
 refine nN ?_
 refine WC.cond rfl (fun h26 => ?_) (fun h26 => ?_)
 refine sR ?_
 refine pA rfl rfl ?_
 refine nN ?_
 refine WC.ret ?_
 refine WQ.blockRet ?_
 refine WQ.thenRet ?_
 refine dn1 Try.results37 rfl (fun a w s => ?_)
 · refine ⟨?_, s.low⟩
   clear s
   simp only [packed]
   apply reti
   (simp_all [recErr] <;> grind)
 refine WC.cut1 [(32, .bool (!(wi r.txn 1 9 && wi r.prev 0 (n - 1)))), (0, .int .i64 n), (3, .pointer (some ⟨b1, 0, none⟩)), (5, .func (.func 41) #[] #[]), (6, .pointer (some ⟨b2, 0, none⟩))] [(b2, [.int .i64 0, .int .i64 0, .int .i64 0, .int .i64 (if r.turns then 0 else r.page), .int .i64 (if r.turns then 0 else r.cell), .int .i64 (if r.turns then 0 else r.old), .int .i64 (if r.turns then 0 else r.new), .int .i64 (if r.kind = 3 then 0 else r.next)], 48), (b1, [.int .i64 r.kind, .int .i64 r.txn, .int .i64 r.prev, .int .i64 r.page, .int .i64 r.cell, .int .i64 r.old, .int .i64 r.new, .int .i64 r.next], 48)] SF.top ?_ ?_
 refine WC.draw [(0, .q false), (1, .q false), (2, .q true), (3, .q true), (4, .q false), (5, .q false), (6, .q true), (7, .q false), (8, .q false), (9, .q true), (10, .s false), (11, .q true), (12, .q false), (13, .q false)] mixed (by kernel_rfl) ?_
 refine dP (Y.move rfl) rfl rfl ?_
 refine dP (Y.fieldAddr fa_48_1 rfl) rfl rfl ?_
 refine dV (Y.load fl_3 rfl m1 rfl) rfl rfl ?_
 refine WDm.quiet (QS.callV Try.call41 rfl rfl (fun _ w s => w_within _ _ _ w)) rfl rfl rfl ?_
 refine dP (Y.move rfl) rfl rfl ?_
 refine dP (Y.fieldAddr fa_48_2 rfl) rfl rfl ?_
 refine dV (Y.load fl_3 rfl m1 rfl) rfl rfl ?_
 refine dP (Y.move rfl) rfl rfl ?_
 refine dP (Y.sub rfl rfl (i64_in (by simp_all [wi] <;> omega) (by simp_all [wi] <;> omega))) rfl rfl ?_
 refine WDm.quiet (QS.callV Try.call41 rfl rfl (fun _ w s => w_within _ _ _ w)) rfl rfl rfl ?_
 refine WDm.spec (WS.free rfl (E.buildSlice (bs_99_2 _ _) rfl rfl)) (fun _ => ext_new rfl) (fun b3 => ?_)
 refine WDm.quiet (QS.call Try.call42 rfl (fun _ w s => w_all [wi r.txn 1 9, wi r.prev 0 (n - 1)] _ w (by simp) (BoolsAt.of s (by repeat (first | exact List.Mem.head _ | apply List.Mem.tail))))) rfl rfl rfl ?_
 refine dP (Y.not rfl) rfl rfl ?_
 refine dP (Y.assign rfl) rfl rfl ?_
 refine WDm.nil (WQ.and ?_)
 · refine fun a w s => ⟨rfl, s.tl.weak (sub_cons (eqb ?_) (by repeat (first | exact sub_nil _ | refine sub_cons rfl ?_)))⟩
   clear s
   simp
 refine WC.cond rfl (fun h32 => ?_) (fun h32 => ?_)
 refine sR ?_
 refine pA rfl rfl ?_
 refine nN ?_
 refine WC.ret ?_
 refine WQ.blockRet ?_
 refine WQ.thenRet ?_
 refine dn1 Try.results37 rfl (fun a w s => ?_)
 · refine ⟨?_, s.low⟩
   clear s
   simp only [packed]
   apply reti
   (simp_all [recErr] <;> grind)
 refine WC.cut1 [(46, .bool (r.turns && !r.inner)), (0, .int .i64 n), (3, .pointer (some ⟨b1, 0, none⟩)), (5, .func (.func 41) #[] #[]), (6, .pointer (some ⟨b2, 0, none⟩))] [(b2, [.int .i64 0, .int .i64 0, .int .i64 0, .int .i64 (if r.turns then 0 else r.page), .int .i64 (if r.turns then 0 else r.cell), .int .i64 (if r.turns then 0 else r.old), .int .i64 (if r.turns then 0 else r.new), .int .i64 (if r.kind = 3 then 0 else r.next)], 48), (b1, [.int .i64 r.kind, .int .i64 r.txn, .int .i64 r.prev, .int .i64 r.page, .int .i64 r.cell, .int .i64 r.old, .int .i64 r.new, .int .i64 r.next], 48)] SF.top ?_ ?_
 refine WC.draw [(0, .q true), (1, .q true), (2, .q false), (3, .q false), (4, .q false), (5, .q true), (6, .q true), (7, .q false), (8, .q false), (9, .q true), (10, .q true), (11, .q false), (12, .q true), (13, .q true), (14, .q false), (15, .q true), (16, .q true), (17, .s false), (18, .q true), (19, .q false), (20, .q false), (21, .q false)] mixed (by kernel_rfl) ?_
 refine dV (Y.loadA wd_48 rfl m1 rfl) rfl rfl ?_
 refine WDm.quiet (QS.call Try.call14 rfl (fun _ w s => w_turns r w)) rfl rfl rfl ?_
 refine dP (Y.move rfl) rfl rfl ?_
 refine WDm.split (t := 49) rfl (fun r h49 => ?_)
 cases r
 refine dF rfl rfl ?_
 refine dF rfl rfl ?_
 refine dF rfl rfl ?_
 refine dF rfl rfl ?_
 refine dF rfl rfl ?_
 refine dF rfl rfl ?_
 refine dF rfl rfl ?_
 refine dF rfl rfl ?_
 refine dF rfl rfl ?_
 refine dF rfl rfl ?_
 refine dF rfl rfl ?_
 refine dF rfl rfl ?_
 refine dF rfl rfl ?_
 refine dF rfl rfl ?_
 refine WDm.skip (off_F rfl rfl rfl rfl) rfl rfl rfl ?_
 refine dF rfl rfl ?_
 refine dF rfl rfl ?_
 refine dP (Y.pickF rfl rfl) rfl rfl ?_
 refine dP (Y.assign rfl) rfl rfl ?_
 refine WDm.nil (WQ.and ?_)
 · refine fun a w s => ⟨rfl, s.weak (sub_cons (eqb ?_) (by repeat (first | exact sub_nil _ | refine sub_cons rfl ?_)))⟩
   clear s
   simp_all [R.inner]
 refine dPg rfl (Y.move rfl) rfl rfl rfl ?_
 refine dPg rfl (Y.fieldAddr fa_48_3 rfl) rfl rfl rfl ?_
 refine dVg rfl (Y.load fl_3 rfl m1 rfl) rfl rfl rfl ?_
 refine WDm.quiet (QS.guardT rfl rfl rfl (QS.callV Try.call41 rfl rfl (fun _ w s => w_within _ _ _ w))) rfl rfl rfl ?_
 refine dPg rfl (Y.move rfl) rfl rfl rfl ?_
 refine dPg rfl (Y.fieldAddr fa_48_4 rfl) rfl rfl rfl ?_
 refine dVg rfl (Y.load fl_3 rfl m1 rfl) rfl rfl rfl ?_
 refine WDm.quiet (QS.guardT rfl rfl rfl (QS.callV Try.call41 rfl rfl (fun _ w s => w_within _ _ _ w))) rfl rfl rfl ?_
 refine dPg rfl (Y.fieldAddr fa_48_5 rfl) rfl rfl rfl ?_
 refine dVg rfl (Y.load fl_3 rfl m1 rfl) rfl rfl rfl ?_
 refine WDm.quiet (QS.guardT rfl rfl rfl (QS.call Try.call43 rfl (fun _ w s => w_val _ w))) rfl rfl rfl ?_
 refine dPg rfl (Y.fieldAddr fa_48_6 rfl) rfl rfl rfl ?_
 refine dVg rfl (Y.load fl_3 rfl m1 rfl) rfl rfl rfl ?_
 refine WDm.quiet (QS.guardT rfl rfl rfl (QS.call Try.call43 rfl (fun _ w s => w_val _ w))) rfl rfl rfl ?_
 refine WDm.spec (WS.guardT rfl rfl rfl (E.buildSlice (bs_99_4 _ _ _ _) rfl rfl)) (fun _ => ext_new rfl) (fun b4 => ?_)
 refine WDm.quiet (QS.guardT rfl rfl rfl (QS.call Try.call42 rfl (fun _ w s => w_all [wi r.page 0 2, wi r.cell 0 2, wi r.old 0 99, wi r.new 0 99] _ w (by simp) (BoolsAt.of s (by repeat (first | exact List.Mem.head _ | apply List.Mem.tail)))))) rfl rfl rfl ?_
 refine dPg rfl (Y.not rfl) rfl rfl rfl ?_
 refine dP (Y.pickT rfl rfl) rfl rfl ?_
 refine dP (Y.assign rfl) rfl rfl ?_
 refine WDm.nil (WQ.and ?_)
 · refine fun a w s => ⟨rfl, s.tl.weak (sub_cons (eqb ?_) (by repeat (first | exact sub_nil _ | refine sub_cons rfl ?_)))⟩
   clear s
   simp_all [R.inner]
 refine WC.cond rfl (fun h46 => ?_) (fun h46 => ?_)
 refine sR ?_
 refine pA rfl rfl ?_
 refine nN ?_
 refine WC.ret ?_
 refine WQ.blockRet ?_
 refine WQ.thenRet ?_
 refine dn1 Try.results37 rfl (fun a w s => ?_)
 · refine ⟨?_, s.low⟩
   clear s
   simp only [packed]
   apply reti
   (simp_all [recErr] <;> grind)
 refine WC.cut1 [(68, .bool (r.kind == 3 && !wi r.next 0 (n - 1))), (0, .int .i64 n), (3, .pointer (some ⟨b1, 0, none⟩)), (5, .func (.func 41) #[] #[]), (6, .pointer (some ⟨b2, 0, none⟩))] [(b2, [.int .i64 0, .int .i64 0, .int .i64 0, .int .i64 (if r.turns then 0 else r.page), .int .i64 (if r.turns then 0 else r.cell), .int .i64 (if r.turns then 0 else r.old), .int .i64 (if r.turns then 0 else r.new), .int .i64 (if r.kind = 3 then 0 else r.next)], 48), (b1, [.int .i64 r.kind, .int .i64 r.txn, .int .i64 r.prev, .int .i64 r.page, .int .i64 r.cell, .int .i64 r.old, .int .i64 r.new, .int .i64 r.next], 48)] SF.top ?_ ?_
 refine WC.region ?_
 refine pP (Y.fieldAddr fa_48_0 rfl) rfl ?_
 refine pV (Y.load fl_3 rfl m1 rfl) rfl ?_
 refine pP (Y.eql rfl rfl) rfl ?_
 refine pM rfl rfl ?_
 refine WL.split (t := 72) rfl (fun r h72 => ?_)
 cases r
 refine gF rfl ?_
 refine gF rfl ?_
 refine gF rfl ?_
 refine gF rfl ?_
 refine gF rfl ?_
 refine gF rfl ?_
 refine gF rfl ?_
 refine pP (Y.pickF rfl rfl) rfl ?_
 refine pA rfl rfl ?_
 refine WL.nil ?_
 · refine fun a w s => ⟨rfl, s.weak (sub_cons (eqb ?_) (by repeat (first | exact sub_nil _ | refine sub_cons rfl ?_)))⟩
   clear s
   simp_all
 refine gT rfl ?_
 refine pM rfl rfl ?_
 refine gT rfl ?_
 refine pP (Y.fieldAddr fa_48_7 rfl) rfl ?_
 refine gT rfl ?_
 refine pV (Y.load fl_3 rfl m1 rfl) rfl ?_
 refine gT rfl ?_
 refine pM rfl rfl ?_
 refine gT rfl ?_
 refine pP (Y.sub rfl rfl (i64_in (by simp_all [wi] <;> omega) (by simp_all [wi] <;> omega))) rfl ?_
 refine gT rfl ?_
 refine WL.eff (E.callV Try.call41 rfl rfl (fun _ w s => w_within _ _ _ w) rfl) rfl (fun _ => ?_)
 refine gT rfl ?_
 refine pP (Y.not rfl) rfl ?_
 refine pP (Y.pickT rfl rfl) rfl ?_
 refine pA rfl rfl ?_
 refine WL.nil ?_
 · refine fun a w s => ⟨rfl, s.weak (sub_cons (eqb ?_) (by repeat (first | exact sub_nil _ | refine sub_cons rfl ?_)))⟩
   clear s
   simp_all
 refine WC.cond rfl (fun h68 => ?_) (fun h68 => ?_)
 refine sR ?_
 refine pA rfl rfl ?_
 refine nN ?_
 refine WC.ret ?_
 refine WQ.blockRet ?_
 refine WQ.thenRet ?_
 refine dn1 Try.results37 rfl (fun a w s => ?_)
 · refine ⟨?_, s.low⟩
   clear s
   simp only [packed]
   apply reti
   (simp_all [recErr] <;> grind)
 refine WC.cut1 [(81, .bool (!((r.turns || r.bare) && (r.kind == 3 || r.next == 0)))), (0, .int .i64 n), (3, .pointer (some ⟨b1, 0, none⟩)), (5, .func (.func 41) #[] #[]), (6, .pointer (some ⟨b2, 0, none⟩))] [(b2, [.int .i64 0, .int .i64 0, .int .i64 0, .int .i64 (if r.turns then 0 else r.page), .int .i64 (if r.turns then 0 else r.cell), .int .i64 (if r.turns then 0 else r.old), .int .i64 (if r.turns then 0 else r.new), .int .i64 (if r.kind = 3 then 0 else r.next)], 48), (b1, [.int .i64 r.kind, .int .i64 r.txn, .int .i64 r.prev, .int .i64 r.page, .int .i64 r.cell, .int .i64 r.old, .int .i64 r.new, .int .i64 r.next], 48)] SF.top ?_ ?_
 refine WC.region ?_
 refine pV (Y.loadA wd_48 rfl m0 rfl) rfl ?_
 refine pP (Y.build rfl (bf_48 )) rfl ?_
 refine pP (Y.neqA Try.eqGuardType48 rfl rfl (weq_rec ⟨_, _, _, _, _, _, _, _⟩ ⟨0, 0, 0, 0, 0, 0, 0, 0⟩)) rfl ?_
 refine pA rfl rfl ?_
 refine WL.nil ?_
 · refine fun a w s => ⟨rfl, s.weak (sub_cons (eqb ?_) (by repeat (first | exact sub_nil _ | refine sub_cons rfl ?_)))⟩
   clear s
   exact bare_eq r
 refine WC.cond rfl (fun h81 => ?_) (fun h81 => ?_)
 refine sR ?_
 refine pA rfl rfl ?_
 refine nN ?_
 refine WC.ret ?_
 refine WQ.blockRet ?_
 refine WQ.thenRet ?_
 refine dn1 Try.results37 rfl (fun a w s => ?_)
 · refine ⟨?_, s.low⟩
   clear s
   simp only [packed]
   apply reti
   (simp_all [recErr] <;> grind)
 refine WC.skip' ?_
 refine WQ.blockEnd ?_
 refine WQ.next ?_
 refine sR ?_
 refine pA rfl rfl ?_
 refine nN ?_
 refine WC.ret ?_
 refine dn1 Try.results37 rfl (fun a w s => ?_)
 · refine ⟨?_, s.low⟩
   clear s
   simp only [packed]
   apply reti
   (simp_all [recErr] <;> grind)
end Go.Proofs.Ytmfjhacgpopijaa
end
section
set_option maxRecDepth 100000
set_option linter.unusedVariables false
set_option linter.unusedSimpArgs false
set_option linter.unusedSectionVars false
set_option maxHeartbeats 4000000
namespace Go.Proofs.Ytmfjhacgpopijaa
open Go.RowKit
def wrR (txn prev at_ cell was now : Int) : R := ⟨1, txn, prev, at_, cell, was, now, 0⟩
def cmR (txn prev : Int) : R := ⟨2, txn, prev, 0, 0, 0, 0, 0⟩
def bkR (txn prev at_ cell was now nxt : Int) : R := ⟨3, txn, prev, at_, cell, was, now, nxt⟩
def enR (txn prev : Int) : R := ⟨4, txn, prev, 0, 0, 0, 0, 0⟩
theorem recErr_more (n m : Int) (r : R) (h : recErr n r = 0) (h1 : n ≤ m) (h2 : m ≤ 60) : recErr m r = 0 := by
  unfold recErr at h ⊢
  have e : wi n 1 60 = true := by
    cases hn : wi n 1 60
    · rw [hn] at h; simp at h
    · rfl
  have e2 : wi m 1 60 = true := by rw [wi_iff] at e ⊢; omega
  have e3 : ∀ x, wi x 0 (n - 1) = true → wi x 0 (m - 1) = true := fun x hx => by rw [wi_iff] at hx ⊢; omega
  simp only [e, e2, if_true] at h ⊢
  grind
theorem recErr_swap (n : Int) (r : R) (h : recErr n r = 0) : recErr n ⟨r.kind, r.txn, r.prev, r.page, r.cell, r.new, r.old, r.next⟩ = 0 := by
  unfold recErr R.turns R.inner R.bare at h ⊢
  grind

theorem w_wr (a b c d e f : Int) (w : World) : Ret Try.prog 33 [.int .i64 a, .int .i64 b, .int .i64 c, .int .i64 d, .int .i64 e, .int .i64 f] w (wrR a b c d e f).val := by
 refine enter Try.func33 rfl Try.ntmps33 rfl SF.top trivial ?_
 refine sR ?_
 refine WL.eff (E.alloc Try.zeroValue48 rfl rfl) rfl (fun b1 => ?_)
 refine nN ?_
 refine sR ?_
 refine pM rfl rfl ?_
 refine pM rfl rfl ?_
 refine pM rfl rfl ?_
 refine pM rfl rfl ?_
 refine pM rfl rfl ?_
 refine pM rfl rfl ?_
 refine pP (Y.build rfl (bf_48_0_1_2_3_4_5_6 _ _ _ _ _ _ _)) rfl ?_
 refine WL.eff (E.store Try.sizeOf48 rfl rfl rfl rfl rfl u0 rfl rfl) rfl (fun _ => ?_)
 refine nN ?_
 refine WC.ret ?_
 refine WQ.done Try.results33 (RVs.cons (RV.cell wd_48 rfl m0 rfl) RVs.nil) (fun a w s => ?_)
 · exact ⟨rfl, s.low⟩

theorem w_cm (a b : Int) (w : World) : Ret Try.prog 34 [.int .i64 a, .int .i64 b] w (cmR a b).val := by
 refine enter Try.func34 rfl Try.ntmps34 rfl SF.top trivial ?_
 refine sR ?_
 refine WL.eff (E.alloc Try.zeroValue48 rfl rfl) rfl (fun b1 => ?_)
 refine nN ?_
 refine sR ?_
 refine pM rfl rfl ?_
 refine pM rfl rfl ?_
 refine pP (Y.build rfl (bf_48_0_1_2 _ _ _)) rfl ?_
 refine WL.eff (E.store Try.sizeOf48 rfl rfl rfl rfl rfl u0 rfl rfl) rfl (fun _ => ?_)
 refine nN ?_
 refine WC.ret ?_
 refine WQ.done Try.results34 (RVs.cons (RV.cell wd_48 rfl m0 rfl) RVs.nil) (fun a w s => ?_)
 · exact ⟨rfl, s.low⟩

theorem w_bk (a b c d e f g : Int) (w : World) : Ret Try.prog 36 [.int .i64 a, .int .i64 b, .int .i64 c, .int .i64 d, .int .i64 e, .int .i64 f, .int .i64 g] w (bkR a b c d e f g).val := by
 refine enter Try.func36 rfl Try.ntmps36 rfl SF.top trivial ?_
 refine sR ?_
 refine WL.eff (E.alloc Try.zeroValue48 rfl rfl) rfl (fun b1 => ?_)
 refine nN ?_
 refine sR ?_
 refine pM rfl rfl ?_
 refine pM rfl rfl ?_
 refine pM rfl rfl ?_
 refine pM rfl rfl ?_
 refine pM rfl rfl ?_
 refine pM rfl rfl ?_
 refine pM rfl rfl ?_
 refine pP (Y.build rfl (bf_48_0_1_2_3_4_5_6_7 _ _ _ _ _ _ _ _)) rfl ?_
 refine WL.eff (E.store Try.sizeOf48 rfl rfl rfl rfl rfl u0 rfl rfl) rfl (fun _ => ?_)
 refine nN ?_
 refine WC.ret ?_
 refine WQ.done Try.results36 (RVs.cons (RV.cell wd_48 rfl m0 rfl) RVs.nil) (fun a w s => ?_)
 · exact ⟨rfl, s.low⟩

theorem w_en (a b : Int) (w : World) : Ret Try.prog 35 [.int .i64 a, .int .i64 b] w (enR a b).val := by
 refine enter Try.func35 rfl Try.ntmps35 rfl SF.top trivial ?_
 refine sR ?_
 refine WL.eff (E.alloc Try.zeroValue48 rfl rfl) rfl (fun b1 => ?_)
 refine nN ?_
 refine sR ?_
 refine pM rfl rfl ?_
 refine pM rfl rfl ?_
 refine pP (Y.build rfl (bf_48_0_1_2 _ _ _)) rfl ?_
 refine WL.eff (E.store Try.sizeOf48 rfl rfl rfl rfl rfl u0 rfl rfl) rfl (fun _ => ?_)
 refine nN ?_
 refine WC.ret ?_
 refine WQ.done Try.results35 (RVs.cons (RV.cell wd_48 rfl m0 rfl) RVs.nil) (fun a w s => ?_)
 · exact ⟨rfl, s.low⟩

end Go.Proofs.Ytmfjhacgpopijaa
end
