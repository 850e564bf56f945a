/- Small lemmas for the walks: blocks of cells, worlds that have grown, endings. No condition. -/
import Derived.WalkKit
import Derived.BigQuiet
import Derived.Deep.Draws
import Derived.Deep.Cut
import Derived.Lib.Hide
namespace Go.Proofs.Ytdbcimadjmdffaa
open Go.RowKit
theorem retb {a b : Bool} (h : a = b) : Ending.returned (.bool a) = .returned (.bool b) := by rw [h]
theorem reti {k : IntKind} {a b : Int} (h : a = b) : Ending.returned (.int k a) = .returned (.int k b) := by rw [h]
theorem bcell {W w1 : World} (hb : Below W.heap.size W w1) : (∀ b o, b < W.heap.size → w1.cell? ⟨b, o, none⟩ = W.cell? ⟨b, o, none⟩) ∧ (∀ b o, b < W.heap.size → w1.frozen? ⟨b, o, none⟩ = W.frozen? ⟨b, o, none⟩) :=
  ⟨fun b o h => hb.cell (p := ⟨b, o, none⟩) h, fun b o h => hb.frozen (p := ⟨b, o, none⟩) h⟩
theorem below_trans {W a b : World} (h : Below W.heap.size W a) (k : Below a.heap.size a b) : Below W.heap.size W b := h.trans (k.mono h.size)
theorem blk_lt {w : World} {b : Nat} {x : Obj} (h : w.heap[b]? = some x) : b < w.heap.size := lt_of_block h
/-- A block that was there is there behind a call that only makes new ones. -/
theorem below_get {B : Nat} {W w1 : World} (hb : Below B W w1) {b : Nat} {x : Obj} (h : W.heap[b]? = some x) (hl : b < B) : w1.heap[b]? = some x := (hb.block b hl).trans h
theorem below_get' {W w1 : World} (hb : Below W.heap.size W w1) {b : Nat} {x : Obj} (h : W.heap[b]? = some x) : w1.heap[b]? = some x := below_get hb h (blk_lt h)
theorem blk_cell {w : World} {b : Nat} {c : Array Value} {t : TypeId} (h : w.heap[b]? = some (.cells c t)) (o : Nat) : w.cell? ⟨b, o, none⟩ = c[o]? := by simp [World.cell?, h]
theorem blk_free {w : World} {b : Nat} {c : Array Value} {t : TypeId} (h : w.heap[b]? = some (.cells c t)) (o : Nat) : w.frozen? ⟨b, o, none⟩ = false := by simp [World.frozen?, h]
theorem alloc_new (w : World) (x : Obj) : (w.alloc x).heap[w.heap.size]? = some x := (MapKept.heap_alloc w _).1
theorem alloc_old {w : World} {b : Nat} {y : Obj} (x : Obj) (h : w.heap[b]? = some y) : (w.alloc x).heap[b]? = some y := by
  exact (Below.heap_alloc w x b (blk_lt h)).trans h
/-! ### Worlds that have grown: regions whose operations only read, and whose calls only make new blocks -/
open Classical in
/-- w with new blocks (and draws) behind it: those that g has, if g is such a world. -/
noncomputable def grow (w g : World) : World := if Below w.heap.size w g then g else w
theorem grow_below (w g : World) : Below w.heap.size w (grow w g) := by
  unfold grow
  split
  · assumption
  · exact Below.refl _ _
theorem grows_of {w w' : World} (h : Below w.heap.size w w') : ∃ g, w' = grow w g := ⟨w', by unfold grow; rw [if_pos h]⟩
theorem grow_get {w : World} {b : Nat} {x : Obj} (h : w.heap[b]? = some x) (g : World) : (grow w g).heap[b]? = some x := below_get' (grow_below w g) h
theorem grow_cell {w : World} {b : Nat} {c : Array Value} {t : TypeId} (h : w.heap[b]? = some (.cells c t)) (g : World) (o : Nat) : (grow w g).cell? ⟨b, o, none⟩ = c[o]? := blk_cell (grow_get h g) o
/-- A call's contract, met in a world that has grown. -/
theorem quiet_grow {P : Program} {f : FuncId} {args : Array Value} {w g : World} {v : Value}
    (h : Calls P f args (grow w g) fun e w' => e = .returned v ∧ Below (grow w g).heap.size (grow w g) w') : Calls P f args (grow w g) fun e w'' => e = .returned v ∧ ∃ g', w'' = grow w g' :=
  h.mono fun _ _ ⟨he, hb⟩ => ⟨he, grows_of (below_trans (grow_below w g) hb)⟩
theorem quiet_same {P : Program} {f : FuncId} {args : Array Value} {w g : World} {v : Value}
    (h : Calls P f args (grow w g) fun e w' => e = .returned v ∧ grow w g = w') : Calls P f args (grow w g) fun e w'' => e = .returned v ∧ ∃ g', w'' = grow w g' :=
  h.mono fun _ _ ⟨he, hb⟩ => ⟨he, g, hb.symm⟩
/-! 'Below' of a world that has only grown: its steps. -/
theorem bg_trans {w a b : World} (h : Below w.heap.size w a) (k : Below a.heap.size a b) : Below w.heap.size w b := below_trans h k
theorem bg_alloc {w a : World} (h : Below w.heap.size w a) (o : Obj) : Below w.heap.size w (a.alloc o) := h.alloc h.size o
theorem bg_grow {w a : World} (h : Below w.heap.size w a) (g : World) : Below w.heap.size w (grow a g) := below_trans h (grow_below a g)
theorem bg_drew {w a : World} (h : Below w.heap.size w a) : Below w.heap.size w a.drew := h.drew
theorem bg_drewN {w a : World} (h : Below w.heap.size w a) (n : Nat) : Below w.heap.size w (a.drewN n) := ⟨h.os, h.tape, h.output, h.size, h.block⟩
theorem bg_set {w a : World} (h : Below w.heap.size w a) {p : Addr} (hp : w.heap.size ≤ p.block) (u : Value) : Below w.heap.size w (a.setCell p u) := h.setCell hp u
theorem wp_region_grow {P : Program} {id : Nat} {Q : Exit → Act → World → Prop} {a : Act} {w : World} {l : List Oper} (hm : P.follows .mixedOrders = true) (hB : Region.lexB .any l.toArray = true)
    (h : wpQuiet P l.toArray (fun w' => ∃ g, w' = grow w g) (fun a' => ∀ w', (∃ g, w' = grow w g) → Q .normal a' w') l a) : (Code.region id l.toArray true).wp P Q a w :=
  wp_region_quiet (C := fun w' => ∃ g, w' = grow w g) hm hB (grows_of (w := w) ⟨rfl, rfl, rfl, Nat.le_refl _, fun _ _ => rfl⟩) (by simpa using h)
theorem wpList_of_quiet {P : Program} {ops : Array Oper} {C : World → Prop} {Q : Exit → Act → World → Prop} : ∀ (l : List Oper) (a : Act) (w : World), C w →
    wpQuiet P ops C (fun a' => ∀ w', C w' → Q .normal a' w') l a → wpList P ops Q l a w
  | [], _, w, hw, h => h w hw
  | o :: rest, a, w, hw, h => by
    unfold wpQuiet at h
    unfold wpList
    split
    · rename_i hwt
      rw [if_pos hwt] at h
      exact .inl (Oper.wp_of_quiet hw (fun a' w' hw' h' => wpList_of_quiet rest a' w' hw' h') h)
    · rename_i hwt
      rw [if_neg hwt] at h
      exact wpList_of_quiet rest _ w hw h
theorem wp_region_grow_plain {P : Program} {id : Nat} {Q : Exit → Act → World → Prop} {a : Act} {w : World} {l : List Oper}
    (h : wpQuiet P l.toArray (fun w' => ∃ g, w' = grow w g) (fun a' => ∀ w', (∃ g, w' = grow w g) → Q .normal a' w') l a) : (Code.region id l.toArray false).wp P Q a w :=
  wp_region_lit (wpList_of_quiet (C := fun w' => ∃ g, w' = grow w g) l a w (grows_of (Below.refl _ _)) h)
end Go.Proofs.Ytdbcimadjmdffaa
