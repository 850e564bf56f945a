/- Slices of numbers; cells, page by page, in a block; a walk cut in two. No condition. -/
import Derived.Test.YtdbcimadjmdffaaMd
import Derived.Test.YtdbcimadjmdffaaNw
set_option linter.unusedVariables false
set_option linter.unusedSimpArgs false
set_option linter.unusedSectionVars false
set_option maxRecDepth 100000
namespace Go.Proofs.Ytdbcimadjmdffaa
open Go.RowKit Go.Joins
def ints (l : List Int) : List Value := l.map fun (n : Int) => Value.int .i64 n
/-- The slice at A, whose cells lie in block b, reads as the numbers l. -/
structure IL (w : World) (A : Option Addr) (b : Nat) (l : List Int) : Prop where
  at_ : l ≠ [] → A = some ⟨b, 0, none⟩ ∧ b < w.heap.size
  cell : ∀ i x, l[i]? = some x → w.cell? ⟨b, i, none⟩ = some (.int .i64 x)
theorem IL.addr {w : World} {A : Option Addr} {b : Nat} {l : List Int} (h : IL w A b l) {i : Nat} {x : Int} (hi : l[i]? = some x) : A = some ⟨b, 0, none⟩ := (h.at_ (ne_of_get hi)).1
theorem IL.below {w w' : World} {A : Option Addr} {b : Nat} {l : List Int} (h : IL w A b l) (hb : Below w.heap.size w w') : IL w' A b l :=
  ⟨fun hn => ⟨(h.at_ hn).1, Nat.lt_of_lt_of_le (h.at_ hn).2 hb.size⟩, fun i x hi => (hb.cell (p := ⟨b, i, none⟩) (h.at_ (ne_of_get hi)).2).trans (h.cell i x hi)⟩
theorem IL.take {w : World} {A : Option Addr} {b : Nat} {l : List Int} (h : IL w A b l) (k : Nat) : IL w A b (l.take k) :=
  ⟨fun hn => h.at_ (fun e => hn (by simp [e])), fun i r hi => h.cell i r (by
    rw [List.getElem?_take] at hi
    split at hi
    · exact hi
    · cases hi)⟩
theorem ints_get {l : List Int} {i : Nat} {x : Int} (h : l[i]? = some x) : (ints l)[i]? = some (.int .i64 x) := by simp [ints, h]
theorem own_IL {w : World} {base c n : Nat} {A : Option Addr} {l : List Int} (hn : n = l.length) (h : w.ownsRow base 3 1 (.slice A n c) n (ints l)) : IL w A (gOf A) l := by
  subst hn
  refine ⟨fun hn => ?_, fun i x hi => ?_⟩
  · have hl : 0 < l.length := List.length_pos_iff.2 hn
    rcases h.2 with ⟨hv, hk⟩ | ⟨g, cap, cur, hv, h1, h2, _⟩
    · omega
    · injection hv with e1 e2 e3
      subst e1
      exact ⟨rfl, blk_lt h2⟩
  · obtain ⟨g, rfl, hc⟩ := own_cell h (ints_get hi)
    exact hc
theorem IL.ofH [Inhabited DSx] {E : Env} {n : Nat} {H : Hp} {F : SF} {w0 w : World} {a : Act} {g : Nat} {cs : List Value} (l : List Int) {T : TypeId} (s : St E n H F w0 a w) (hm : (g, cs, T) ∈ H) (hc : ints l = cs) : IL w (some ⟨g, 0, none⟩) g l := by
  subst hc
  exact ⟨fun _ => ⟨rfl, s.hp.lt hm⟩, fun i x hi => by
    rw [s.hp.cell hm]
    exact ints_get hi⟩
/-- The place of x, from k on. -/
def posI (x : Int) : Nat → List Int → Int
  | _, [] => -1
  | k, y :: l => if x = y then k else posI x (k + 1) l
theorem posI_in (x : Int) : ∀ (l : List Int) (k : Nat), decide (0 ≤ posI x k l) = l.contains x
  | [], _ => rfl
  | y :: l, k => by
    have ih := posI_in x l (k + 1)
    unfold posI
    by_cases h : x = y
    · subst h; simp
    · rw [if_neg h, ih]; simp [h]
/-! ### Who has won -/
def winsL (l : List R) : List Int := (winsH l.reverse).reverse
def winsOf (l : List R) : List Int := if logErr l = 0 then winsL l else []
def cellsOf (l : List R) : C9 := if logErr l = 0 then cellsH l.reverse else C9.zero
theorem wins_take {l : List R} {k : Nat} {r : R} (h : l[k]? = some r) : winsL (l.take (k + 1)) = winsL (l.take k) ++ (if r.kind = 2 then [r.txn] else []) := by
  unfold winsL
  rw [takeS h, winsH]
  split <;> simp
theorem wins_len : ∀ (h : List R), (winsH h).length ≤ h.length
  | [] => Nat.le_refl _
  | r :: h => by
    have ih := wins_len h
    unfold winsH
    split <;> simp <;> omega
theorem winsL_len (l : List R) : (winsL l).length ≤ l.length := by
  have := wins_len l.reverse
  unfold winsL
  simpa using this
theorem winsL_has (l : List R) (t : Int) : (winsL l).contains t = won l.reverse t := by
  rw [← wins_mem]
  unfold winsL
  simp
theorem cells_take {l : List R} {k : Nat} {r : R} (f : Int → Bool) (h : l[k]? = some r) : cellsW f (l.take (k + 1)).reverse = if r.kind = 1 ∧ f r.txn = true then (cellsW f (l.take k).reverse).set r.page r.cell r.new else cellsW f (l.take k).reverse := by
  rw [takeS h, cellsW]
def C9.cl (c : C9) : List Value := [.int .i64 c.a0, .int .i64 c.a1, .int .i64 c.a2, .int .i64 c.b0, .int .i64 c.b1, .int .i64 c.b2, .int .i64 c.c0, .int .i64 c.c1, .int .i64 c.c2]
theorem put_nine (x : C9) (p c v : Int) (hp : 0 ≤ p ∧ p ≤ 2) (hc : 0 ≤ c ∧ c ≤ 2) : put x.cl (0 + p.toNat * 3 + c.toNat * 1) [.int .i64 v] = (x.set p c v).cl := by
  have h1 : p = 0 ∨ p = 1 ∨ p = 2 := by omega
  have h2 : c = 0 ∨ c = 1 ∨ c = 2 := by omega
  rcases h1 with rfl | rfl | rfl <;> rcases h2 with rfl | rfl | rfl <;> rfl
theorem nine_len (x : C9) : x.cl.length = 9 := rfl
/-! ### Walks cut in two -/
section
variable [Inhabited DSx] {P : Program} {ops : Array Oper} {Q : Exit → Act → World → Prop} {E : Env} {n : Nat} {H : Hp} {F : SF} {w0 : World}
/-- What is ahead ends in one of the states that i tells; what is behind goes on from each. -/
theorem WC.cut {ι : Type} {x y : Code} (Ei : ι → Env) (Hi : ι → Hp) (Fi : ι → SF) (hx : WC P x (fun e a w => e = .normal ∧ ∃ i, St (Ei i) n (Hi i) (Fi i) w0 a w) E n H F w0) (hy : ∀ i, WC P y Q (Ei i) n (Hi i) (Fi i) w0) : WC P (.seq x y) Q E n H F w0 := fun a w s => by
  refine wp_seq (Code.wp_mono (fun e a' w' h => ?_) (hx a w s))
  obtain ⟨rfl, i, hs⟩ := h
  exact hy i a' w' hs
/-- .. in the one state. -/
theorem WC.cut1 {x y : Code} (E' : Env) (H' : Hp) (F' : SF) (hx : WC P x (fun e a w => e = .normal ∧ St E' n H' F' w0 a w) E n H F w0) (hy : WC P y Q E' n H' F' w0) : WC P (.seq x y) Q E n H F w0 :=
  WC.cut (ι := Unit) (fun _ => E') (fun _ => H') (fun _ => F') (fun a w s => Code.wp_mono (fun _ _ _ h => ⟨h.1, (), h.2⟩) (hx a w s)) (fun _ => hy)
end
theorem dec_eqL {l : List R} {k : Nat} {r : R} (h : l[k]? = some r) : (k : Int) < (l.length : Int) := get_ltI h
end Go.Proofs.Ytdbcimadjmdffaa
