/- Logs as plain Lean: a history is a list of records, the newest first. What the document says of it, and what the program's book holds of it. No condition. -/
import Derived.Test.YtdbcimadjmdffaaModel
namespace Go.Proofs.Ytdbcimadjmdffaa
/-! ### The document's words -/
def R.turns (r : R) : Bool := r.kind == 1 || r.kind == 3
def R.bare (r : R) : Bool := r.page == 0 && (r.cell == 0 && (r.old == 0 && r.new == 0))
def R.inner (r : R) : Bool := wi r.page 0 2 && (wi r.cell 0 2 && (wi r.old 0 99 && wi r.new 0 99))
/-- The error of the record n. -/
def recErr (n : Int) (r : R) : Int :=
  if wi n 1 60 then
    if wi r.kind 1 4 then
      if wi r.txn 1 9 && wi r.prev 0 (n - 1) then
        if !r.turns || r.inner then
          if r.kind != 3 || wi r.next 0 (n - 1) then
            if (r.turns || r.bare) && (r.kind == 3 || r.next == 0) then 0 else 1
          else 3
        else 3
      else 3
    else 4
  else 3
/-- The number of the last record of a Txn; 0: none. -/
def lastN : List R → Int → Nat
  | [], _ => 0
  | r :: h, t => if r.txn = t then h.length + 1 else lastN h t
def cnt : List R → Int → Int → Nat
  | [], _, _ => 0
  | r :: h, t, k => (if r.txn = t ∧ r.kind = k then 1 else 0) + cnt h t k
/-- How far a Txn is. -/
def stt (h : List R) (t : Int) : Nat :=
  if lastN h t = 0 then 0 else if 0 < cnt h t 4 then 4 else if 0 < cnt h t 2 then 2 else if 0 < cnt h t 3 then 3 else 1
/-- The numbers of the Writes of a Txn, the newest first. -/
def wrs : List R → Int → List Nat
  | [], _ => []
  | r :: h, t => if r.txn = t ∧ r.kind = 1 then (h.length + 1) :: wrs h t else wrs h t
/-- Those that were not taken back, the newest first. -/
def ups (h : List R) (t : Int) : List Nat := (wrs h t).drop (cnt h t 3)
/-- The record of a number. -/
def recAt (h : List R) (n : Nat) : R := (h.reverse[n - 1]?).getD R.zero
def hasCell (h : List R) (p c : Int) (n : Nat) : Bool := (recAt h n).page == p && (recAt h n).cell == c
/-- Has that Txn, that is not over, a Write of that cell that stands? -/
def holdsCell (h : List R) (p c t : Int) : Bool := stt h t != 4 && (ups h t).any (hasCell h p c)
/-- Has another one? -/
def taken (h : List R) (t p c : Int) : Bool := [1, 2, 3, 4, 5, 6, 7, 8, 9].any fun u => u != t && holdsCell h p c u
def Pg.cellAt (p : Pg) (c : Int) : Int := if c = 0 then p.c0 else if c = 1 then p.c1 else p.c2
def pagesOf : List R → P3
  | [] => P3.zero
  | r :: h => if r.turns then (pagesOf h).set r.page (((pagesOf h).get r.page).put r.cell r.new (h.length + 1)) else pagesOf h
/-- The record by which the Write n is taken back. -/
def backOf (h : List R) (t : Int) (n : Nat) : R :=
  ⟨3, t, lastN h t, (recAt h n).page, (recAt h n).cell, (recAt h n).new, (recAt h n).old, (recAt h n).prev⟩
/-- May a right record stand behind a right log? -/
def follows (h : List R) (r : R) : Bool :=
  if r.prev != lastN h r.txn || (stt h r.txn == 4 || ((stt h r.txn == 2 && r.kind != 4) || (stt h r.txn == 3 && (r.kind != 3 && r.kind != 4)))) then false
  else if r.kind = 1 then r.old == ((pagesOf h).get r.page).cellAt r.cell && !taken h r.txn r.page r.cell
  else if r.kind = 2 then true
  else if r.kind = 3 then
    match ups h r.txn with
    | [] => false
    | n :: _ => r.page == (recAt h n).page && (r.cell == (recAt h n).cell && (r.old == (recAt h n).new && (r.new == (recAt h n).old && r.next == (recAt h n).prev)))
  else stt h r.txn == 2 || (stt h r.txn == 3 && (ups h r.txn).isEmpty)
/-- The error of a history, of the document. -/
def errH : List R → Int
  | [] => 0
  | r :: h => if errH h = 0 then (if recErr (h.length + 1) r = 0 then (if follows h r then 0 else 1) else recErr (h.length + 1) r) else errH h
def Right (h : List R) : Prop := errH h = 0
/-- The error of a log. -/
def logErr (l : List R) : Int := if l.length ≤ 60 then errH l.reverse else 2
/-! ### The program's words -/
def stB : List R → Int → Int
  | [], _ => 0
  | r :: h, t => if r.txn = t then r.kind else stB h t
def stP (k : Int) : Int := k
def upB : List R → Int → List Nat
  | [], _ => []
  | r :: h, t =>
    if r.txn = t then
      if r.kind = 1 then (h.length + 1) :: upB h t else if r.kind = 3 then (upB h t).tail else if r.kind = 4 then [] else upB h t
    else upB h t
def ownB : List R → Int → Int → Int
  | [], _, _ => 0
  | r :: h, p, c =>
    if r.kind = 1 then (if r.page = p ∧ r.cell = c then r.txn else ownB h p c)
    else if r.kind = 2 then ownB h p c
    else if ownB h p c = r.txn ∧ (upB (r :: h) r.txn).any (hasCell (r :: h) p c) = false then 0 else ownB h p c
def undoB (h : List R) (t : Int) : R :=
  match upB h t with
  | [] => ⟨4, t, lastN h t, 0, 0, 0, 0, 0⟩
  | n :: _ => backOf h t n
def fits (h : List R) (r : R) : Bool :=
  if r.prev != lastN h r.txn then false
  else if r.kind = 1 then decide (stB h r.txn < 2) && (r.old == ((pagesOf h).get r.page).cellAt r.cell && (ownB h r.page r.cell == 0 || ownB h r.page r.cell == r.txn))
  else if r.kind = 2 then decide (stB h r.txn < 2)
  else if r.kind = 3 then (stB h r.txn == 1 || stB h r.txn == 3) && (!(upB h r.txn).isEmpty && decide (r = undoB h r.txn))
  else stB h r.txn == 2 || (stB h r.txn == 3 && (upB h r.txn).isEmpty)
end Go.Proofs.Ytdbcimadjmdffaa
