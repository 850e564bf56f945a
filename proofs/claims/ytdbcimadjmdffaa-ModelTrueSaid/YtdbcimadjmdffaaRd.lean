/- The book: calls of fits and of Put; a new book. No condition. -/
import Derived.Test.YtdbcimadjmdffaaBc
import Derived.Test.YtdbcimadjmdffaaBe
import Derived.Test.YtdbcimadjmdffaaRb
import Derived.Test.YtdbcimadjmdffaaLd
set_option linter.unusedVariables false
set_option linter.unusedSimpArgs false
set_option linter.unusedSectionVars false
set_option maxRecDepth 100000
namespace Go.Proofs.Ytdbcimadjmdffaa
open Go.RowKit Go.Joins
section
variable [Inhabited DSx] {Q : Exit → Act → World → Prop} {E : Env} {n : Nat} {H : Hp} {F G : SF} {u : World}
theorem E.fits {f : FuncId} {args : Array Operand} {ts : Array TypeId} {d : Nat} {T' : TypeId} {p : String} {af : Array Edge} {B : Bk} {Hl : Hp} (Hx : Hp) (h : List R) (r : R) (hf : f = 152) (hB : BOk B h) (hlen : h.length ≤ 60) (hok : recErr ((h.length : Int) + 1) r = 0)
    (hH : H = Hx ++ (B.hp ++ Hl)) (hF : F = (SF.bk u.heap.size B).sep G) (hx : evs E args.toList = some [B.ptr, r.val]) (hn : Nat.blt d n = true) :
    Eff Try.prog E n H F u ⟨some d, .call { callee := .value (.func f), args := args, argTypes := ts }, T', p, af, none⟩ (fun _ : {i : Bk // BOk i h ∧ i.bk = B.bk} => (d, .bool (fits h r)) :: E) (fun i => Hx ++ (i.1.hp ++ Hl)) (fun i => (SF.bk u.heap.size i.1).sep G) := by
  subst hf hF
  refine Proofs.Ytdbcimadjmdffaa.E.callM (fun _ => .bool (fits h r)) _ _ Try.call152 hx (fun w hw => ?_) hn
  rw [hH] at hw
  refine (w_fits u B (Hx ++ Hl) G h r w (hw.sub (hp_move B Hx Hl)) hB hlen hok).mono fun e w' ⟨i, he, hw'⟩ => ⟨i, he, hw'.sub ?_⟩
  refine Hsub.of_perm ?_
  rw [← List.append_assoc, ← List.append_assoc]
  exact List.perm_append_comm.append_right Hl
theorem E.put {f : FuncId} {args : Array Operand} {ts : Array TypeId} {d : Nat} {T' : TypeId} {p : String} {af : Array Edge} {B : Bk} {Hl : Hp} (Hx : Hp) (h : List R) (r : R) (hf : f = 130) (hB : BOk B h) (hr : Right (r :: h))
    (hH : H = Hx ++ (B.hp ++ Hl)) (hF : F = (SF.bk u.heap.size B).sep G) (hx : evs E args.toList = some [B.ptr, r.val]) (hn : Nat.blt d n = true) :
    Eff Try.prog E n H F u ⟨some d, .call { callee := .value (.func f), args := args, argTypes := ts }, T', p, af, none⟩ (fun _ : {i : Bk // BOk i (r :: h) ∧ i.bk = B.bk} => (d, packed []) :: E) (fun i => Hx ++ (i.1.hp ++ Hl)) (fun i => (SF.bk u.heap.size i.1).sep G) := by
  subst hf hF
  refine Proofs.Ytdbcimadjmdffaa.E.callM (fun _ => packed []) _ _ Try.call130 hx (fun w hw => ?_) hn
  rw [hH] at hw
  refine (w_put u B (Hx ++ Hl) G h r w (hw.sub (hp_move B Hx Hl)) hB hr).mono fun e w' ⟨i, he, hw'⟩ => ⟨i, he, hw'.sub ?_⟩
  refine Hsub.of_perm ?_
  rw [← List.append_assoc, ← List.append_assoc]
  exact List.perm_append_comm.append_right Hl
end
def bk0 (b m1 m2 : Nat) : Bk := ⟨b, m1, m2, none, 0, [], P3.zero, [], 0, [], 0⟩
theorem bk_new (base b m1 m2 : Nat) (G : SF) : ((SF.map base m2 [] 0).sep ((SF.map base m1 [] 0).sep G)).le ((SF.bk base (bk0 b m1 m2)).sep G) := by
  have h0 : G.le (((SF.own base 34 8 (.slice none 0 0) 0 []).sep SF.top).sep G) := fun w h =>
    ⟨⟨⟨own_nil _ _ _ _, trivial, fun b hb hk => hk⟩, h, fun b hb => by rcases hb with hb | hb; (· cases hb); exact hb.elim⟩, fun b hb => by
      rcases hb with (hb | hb) | hb
      · cases hb
      · exact hb.elim
      · exact hb⟩
  refine SF.le_trans (SF.sep_rot _ _ _) ?_
  refine SF.le_trans (SF.sep_mono (SF.le_refl _) (SF.sep_mono (SF.le_refl _) h0)) ?_
  exact SF.le_trans (SF.sep_mono (SF.le_refl _) (SF.sep_assoc' _ _ _)) (SF.sep_assoc' _ _ _)
theorem bok0 (b m1 m2 : Nat) : BOk (bk0 b m1 m2) [] := ⟨rfl, rfl, fun t x h => (by cases h), fun t _ => ⟨rfl, rfl, rfl⟩, fun p c => rfl, List.Pairwise.nil, List.Pairwise.nil, fun e h => (by cases h)⟩
end Go.Proofs.Ytdbcimadjmdffaa
