/- The data of croft as plain Lean: records, pages; what may be. No condition. -/
import Derived.Below
namespace Go.Proofs.Ytdbcimadjmdffaa
/-- Is n from lo to hi? -/
def wi (n lo hi : Int) : Bool := decide (lo ≤ n) && decide (n ≤ hi)
theorem wi_iff {n lo hi : Int} : wi n lo hi = true ↔ lo ≤ n ∧ n ≤ hi := by simp [wi]
theorem wi_not {n lo hi : Int} : wi n lo hi = false ↔ ¬ (lo ≤ n ∧ n ≤ hi) := by
  rw [← wi_iff]; cases wi n lo hi <;> simp
/-- A page. -/
structure Pg where
  c0 : Int
  c1 : Int
  c2 : Int
  last : Int
  deriving DecidableEq
def Pg.zero : Pg := ⟨0, 0, 0, 0⟩
def Pg.val (p : Pg) : Value := .agg #[.int .i64 p.c0, .int .i64 p.c1, .int .i64 p.c2, .int .i64 p.last]
/-- The cells are right. -/
def cellsB (a b c : Int) : Bool := wi a 0 99 && (wi b 0 99 && wi c 0 99)
def Pg.ok (p : Pg) : Bool := cellsB p.c0 p.c1 p.c2 && wi p.last 0 60
/-- The error of a page. -/
def Pg.err (p : Pg) : Int := if p.ok then 0 else 3
def setArgs (cell val rec : Int) : Bool := wi cell 0 2 && (wi val 0 99 && wi rec 1 60)
/-- A page with one cell set. -/
def Pg.put (p : Pg) (cell val rec : Int) : Pg :=
  if cell = 0 then { p with c0 := val, last := rec } else if cell = 1 then { p with c1 := val, last := rec } else { p with c2 := val, last := rec }
def setOf (p : Pg) (cell val rec : Int) : Pg × Int :=
  if p.ok && setArgs cell val rec then (p.put cell val rec, 0) else (Pg.zero, 3)
def Pg.same (p q : Pg) : Bool := p.c0 == q.c0 && (p.c1 == q.c1 && p.c2 == q.c2)
/-- The pages of a world. -/
structure P3 where
  p0 : Pg
  p1 : Pg
  p2 : Pg
  deriving DecidableEq
def P3.zero : P3 := ⟨Pg.zero, Pg.zero, Pg.zero⟩
def P3.vals (p : P3) : Array Value := #[.int .i64 p.p0.c0, .int .i64 p.p0.c1, .int .i64 p.p0.c2, .int .i64 p.p0.last, .int .i64 p.p1.c0, .int .i64 p.p1.c1, .int .i64 p.p1.c2, .int .i64 p.p1.last, .int .i64 p.p2.c0, .int .i64 p.p2.c1, .int .i64 p.p2.c2, .int .i64 p.p2.last]
def P3.val (p : P3) : Value := .agg p.vals
def P3.get (p : P3) (i : Int) : Pg := if i = 0 then p.p0 else if i = 1 then p.p1 else p.p2
def P3.set (p : P3) (i : Int) (x : Pg) : P3 := if i = 0 then { p with p0 := x } else if i = 1 then { p with p1 := x } else { p with p2 := x }
/-- Cells, page by page. -/
structure C9 where
  a0 : Int
  a1 : Int
  a2 : Int
  b0 : Int
  b1 : Int
  b2 : Int
  c0 : Int
  c1 : Int
  c2 : Int
  deriving DecidableEq
def C9.zero : C9 := ⟨0, 0, 0, 0, 0, 0, 0, 0, 0⟩
def C9.val (c : C9) : Value := .agg #[.int .i64 c.a0, .int .i64 c.a1, .int .i64 c.a2, .int .i64 c.b0, .int .i64 c.b1, .int .i64 c.b2, .int .i64 c.c0, .int .i64 c.c1, .int .i64 c.c2]
/-- A record. -/
structure R where
  kind : Int
  txn : Int
  prev : Int
  page : Int
  cell : Int
  old : Int
  new : Int
  next : Int
  deriving DecidableEq
def R.zero : R := ⟨0, 0, 0, 0, 0, 0, 0, 0⟩
def R.val (r : R) : Value := .agg #[.int .i64 r.kind, .int .i64 r.txn, .int .i64 r.prev, .int .i64 r.page, .int .i64 r.cell, .int .i64 r.old, .int .i64 r.new, .int .i64 r.next]
end Go.Proofs.Ytdbcimadjmdffaa
