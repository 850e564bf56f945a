/- Rows of strings, rows of numbers that grow; a call that yields a world: a new one, or the one that came. No condition. -/
import Derived.Test.YtapkelocligmdaaGreatDoorDq
import Derived.Test.YtapkelocligmdaaGreatDoorCu
import Derived.Test.YtapkelocligmdaaGreatDoorQ5
import Derived.Test.YtapkelocligmdaaGreatDoorGc
set_option linter.unusedVariables false
set_option linter.unusedSimpArgs false
set_option linter.unusedSectionVars false
set_option maxRecDepth 100000
namespace Go.Proofs.YtapkelocligmdaaGreatDoor
open Go.RowKit Go.Joins
theorem sus_get {l : List Str} {i : Nat} {x : Str} (h : l[i]? = some x) : (sus l)[i]? = some (su x) := by simp [sus, h]
theorem own_str {w : World} {base c n : Nat} {A : Option Addr} {l : List Str} (h : w.ownsRow base 9 1 (.slice A n c) n (sus l)) {i : Nat} {x : Str} (hi : l[i]? = some x) : A = some ⟨gOf A, 0, none⟩ ∧ w.cell? ⟨gOf A, i, none⟩ = some (su x) := by
  obtain ⟨g, rfl, hc⟩ := own_cell h (sus_get hi)
  exact ⟨rfl, hc⟩
theorem own_int {w : World} {base c n : Nat} {A : Option Addr} {l : List Int} (h : w.ownsRow base 3 1 (.slice A n c) n (ints l)) {i : Nat} {x : Int} (hi : l[i]? = some x) : A = some ⟨gOf A, 0, none⟩ ∧ w.cell? ⟨gOf A, i, none⟩ = some (.int .i64 x) := by
  obtain ⟨g, rfl, hc⟩ := own_cell h (ints_get hi)
  exact ⟨rfl, hc⟩
theorem cut_mem (c : UInt8) : ∀ (s x : Str), x ∈ cutAt c s → x.length ≤ s.length
  | [], x, h => by simp [cutAt] at h; simp [h]
  | y :: s, x, h => by
    unfold cutAt at h
    split at h
    · rcases List.mem_cons.1 h with rfl | h
      · simp
      · have := cut_mem c s x h
        simp
        omega
    · split at h
      · rcases List.mem_cons.1 h with rfl | h
        · simp
        · cases h
      · rename_i l r e
        rcases List.mem_cons.1 h with rfl | h
        · have := cut_mem c s l (by rw [e]; exact List.mem_cons_self ..)
          simp
          omega
        · have := cut_mem c s x (by rw [e]; exact List.mem_cons_of_mem _ h)
          simp
          omega
theorem cut_pos (c : UInt8) (s : Str) : 0 < (cutAt c s).length := List.length_pos_iff.2 (cutAt_ne c s)
theorem hd_get (l : Str) : (cutAt 32 l)[0]? = some (hdOf l) := by
  have := cut_pos 32 l
  unfold hdOf
  rw [List.getElem?_eq_getElem this]
  rfl
theorem nums_len (l : Str) : (numsOf l).length = (cutAt 32 l).length - 1 := by simp [numsOf]
theorem nums_step {l : Str} {k : Nat} {x : Str} (h : (cutAt 32 l)[k + 1]? = some x) : (numsOf l).take (k + 1) = (numsOf l).take k ++ [numOf x] := by
  have e : (numsOf l)[k]? = some (numOf x) := by
    unfold numsOf
    rw [List.getElem?_map, List.getElem?_drop, show 1 + k = k + 1 from by omega, h]
    rfl
  rw [List.take_add_one, e]
  rfl
theorem nums_all (l : List Int) (k : Nat) (x : Int) (h : (l.take (k + 1)) = l.take k ++ [x]) (h1 : (l.take k).all (fun n => decide (0 ≤ n)) = true) (h2 : 0 ≤ x) : (l.take (k + 1)).all (fun n => decide (0 ≤ n)) = true := by
  rw [h, List.all_append, h1]
  simp [h2]
theorem nums_bad {l : List Int} {k : Nat} {x : Int} (h : (l.take (k + 1)) = l.take k ++ [x]) (h2 : ¬ 0 ≤ x) : l.all (fun n => decide (0 ≤ n)) = false := by
  cases e : l.all (fun n => decide (0 ≤ n))
  · rfl
  · have hm : x ∈ l := List.mem_of_mem_take (i := k + 1) (by rw [h]; simp)
    have := List.all_eq_true.1 e x hm
    simp at this
    omega
theorem nth0_get {l : List Int} {k : Nat} (h : k < l.length) : l[k]? = some (nth0 l k) := by
  unfold nth0
  rw [List.getElem?_eq_getElem h]
  rfl
/-- A row of its own, if it is new. -/
def SF.fr (base : Nat) (y : Wd) (i : (Option Addr × Nat) × Bool) : SF := if i.2 = true then SF.own base 101 8 (.slice i.1.1 y.log.length i.1.2) y.log.length (flat y.log) else SF.top
/-- A call that yields a world: a new one, or the one that came. -/
def RetX (P : Program) (f : FuncId) (vs : List Value) (w : World) (x : Wd) (A : Option Addr) (c : Nat) (y : Wd) (more : List Value) : Prop :=
  Calls P f vs.toArray w fun e w' => ∃ i : (Option Addr × Nat) × Bool, e = .returned (packed (y.val i.1.1 i.1.2 :: more)) ∧ Below w.heap.size w w' ∧ (SF.fr w.heap.size y i).p w' ∧ (i.2 = false → y = x ∧ i.1 = (A, c))
theorem own_fp {w : World} {base e size n : Nat} {v : Value} {xs : List Value} (h : w.ownsRow base e size v n xs) {b : Nat} (hb : v.ownBlock = some b) : base ≤ b := (h.lt b hb).1
section
variable [Inhabited DSx] {E : Env} {n : Nat} {H : Hp} {F G : SF} {w0 : World}
theorem E.appN {d : Nat} {x y : Operand} {T' c b cap T2 : Nat} {A : Option Addr} {p : String} {af : Array Edge} {l : List Int} (ns : List Int) (hF : F = (SF.own w0.heap.size 3 1 (.slice A l.length c) l.length (ints l)).sep G)
    (hx : ev E x = some (.slice A l.length c)) (hy : ev E y = some (.slice (some ⟨b, 0, none⟩) ns.length cap)) (hm : (b, ints ns, T2) ∈ H) (hlen : l.length + ns.length ≤ 1000000) (hn : Nat.blt d n = true) :
    Eff Tryz.prog E n H F w0 ⟨some d, .call { callee := .builtin .append, args := #[x, y], argTypes := #[73, 73] }, T', p, af, none⟩ (fun i : Option Addr × Nat => (d, .slice i.1 (l ++ ns).length i.2) :: E) (fun _ => H) (fun i => (SF.own w0.heap.size 3 1 (.slice i.1 (l ++ ns).length i.2) (l ++ ns).length (ints (l ++ ns))).sep G) := by
  obtain ⟨i0, hi0, hz0, hz1, hz2⟩ := info_parts int_info
  have hall : (ints ns).all Value.oneCell' = true := by
    rw [List.all_eq_true]
    intro v hv
    obtain ⟨z, _, rfl⟩ := List.mem_map.1 hv
    rfl
  have h := Proofs.YtapkelocligmdaaGreatDoor.E.appendG (P := Tryz.prog) (T' := T') (p := p) (af := af) Tryz.underlying73 hi0 hz0 hz1 hz2 rfl (by decide) hF hx hy hm (by simp [ints]) hall (by unfold maxLen; omega) (by omega) hn
  have e1 : ints (l ++ ns) = ints l ++ ints ns := List.map_append ..
  rw [e1, List.length_append]
  exact h
theorem E.retX {f : FuncId} {args : Array Operand} {ts : Array TypeId} {d : Nat} {T' : TypeId} {p : String} {af : Array Edge} {vs : List Value} (x : Wd) (A : Option Addr) (c : Nat) (y : Wd) (more : List Value) (hf : ∀ (args : Array Value) (w : World), (callFunc f args).run Tryz.prog w = .ok (.enter f args) w)
    (hx : evs E args.toList = some vs) (hc : ∀ a w, St E n H F w0 a w → RetX Tryz.prog f vs w x A c y more) (hn : Nat.blt d n = true) :
    Eff Tryz.prog E n H F w0 ⟨some d, .call { callee := .value (.func f), args := args, argTypes := ts }, T', p, af, none⟩ (fun i : {i : (Option Addr × Nat) × Bool // i.2 = false → y = x ∧ i.1 = (A, c)} => (d, packed (y.val i.1.1.1 i.1.1.2 :: more)) :: E) (fun _ => H) (fun i => (SF.fr w0.heap.size y i.1).sep F) := by
  refine Proofs.YtapkelocligmdaaGreatDoor.E.callN (ι := {i : (Option Addr × Nat) × Bool // i.2 = false → y = x ∧ i.1 = (A, c)}) (fun i => packed (y.val i.1.1.1 i.1.1.2 :: more)) (fun i => SF.fr w0.heap.size y i.1) hf hx (fun a w s => (hc a w s).mono fun e w' ⟨i, he, hb, ho, hi⟩ => ⟨⟨i, hi⟩, he, hb, ?_, fun g hg => ?_⟩) hn
  · unfold SF.fr at ho ⊢
    split
    · rename_i h
      rw [if_pos h] at ho
      exact ownsRow_le ho s.low.size
    · trivial
  · unfold SF.fr at ho hg
    split at hg
    · rename_i h
      rw [if_pos h] at ho
      exact own_fp ho hg
    · exact hg.elim
end
/-- The world behind it: in its own row. -/
theorem fr_le {base : Nat} {x y : Wd} {A : Option Addr} {c : Nat} {i : (Option Addr × Nat) × Bool} (hi : i.2 = false → y = x ∧ i.1 = (A, c)) (G : SF) :
    ((SF.fr base y i).sep ((SF.own base 101 8 (.slice A x.log.length c) x.log.length (flat x.log)).sep G)).le ((SF.own base 101 8 (.slice i.1.1 y.log.length i.1.2) y.log.length (flat y.log)).sep G) := by
  by_cases h : i.2 = true
  · have e : SF.fr base y i = SF.own base 101 8 (.slice i.1.1 y.log.length i.1.2) y.log.length (flat y.log) := by unfold SF.fr; rw [if_pos h]
    rw [e]
    exact SF.sep_mono (SF.le_refl _) (SF.sep_snd _ _)
  · obtain ⟨rfl, e⟩ := hi (by simpa using h)
    rw [e]
    exact SF.sep_snd _ _
theorem noDie {p G : Prop} (h1 : ¬ p → G) (h2 : p → G) : G := by
  by_cases h : p
  · exact h2 h
  · exact h1 h
end Go.Proofs.YtapkelocligmdaaGreatDoor
