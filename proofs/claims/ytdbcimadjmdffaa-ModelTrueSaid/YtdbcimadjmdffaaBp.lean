/- The book in memory holds a history: what that says, and calls of Owner and Undo while a Txn is in focus. No condition. -/
import Derived.Test.YtdbcimadjmdffaaBb
set_option linter.unusedVariables false
set_option linter.unusedSimpArgs false
set_option linter.unusedSectionVars false
set_option maxRecDepth 100000
namespace Go.Proofs.Ytdbcimadjmdffaa
open Go.RowKit Go.Joins
/-- The book B tells of the history h. -/
structure BOk (B : Bk) (h : List R) : Prop where
  l : B.l = h.reverse
  pg : B.pg = pagesOf h
  tx : ∀ t x, look1 B.tx t = some x → x.st = stB h t ∧ x.last = lastN h t ∧ x.up = upB h t
  no : ∀ t, look1 B.tx t = none → stB h t = 0 ∧ lastN h t = 0 ∧ upB h t = []
  ow : ∀ p c, look2 B.ow p c = if ownB h p c = 0 then none else some (.int .i64 (ownB h p c))
  borns : B.ow.Pairwise fun a b => a.born ≠ b.born
  keys : B.ow.Pairwise fun a b => ¬(a.p = b.p ∧ a.c = b.c)
  lt : ∀ e ∈ B.ow, e.born < B.k2
theorem look1_app {l : List TxE} {t : Int} {x : TxE} : ∀ {t' : Int}, look1 l t = none → x.key = t → look1 (l ++ [x]) t' = if t' = t then some x else look1 l t' := by
  intro t' hn hx
  induction l with
  | nil => subst hx; simp [look1, eq_comm]
  | cons y l ih =>
    unfold look1 at hn
    split at hn
    · cases hn
    · rename_i hk
      simp only [List.cons_append, look1]
      by_cases h1 : y.key = t'
      · subst h1
        simp [hk]
      · simp only [h1, if_false]
        exact ih hn
theorem BOk.of {B : Bk} {h : List R} {t : Int} {i : Bk × TxE} (hB : BOk B h) (ho : OfB B t i) : BOk i.1 h ∧ i.2.st = stB h t ∧ i.2.last = lastN h t ∧ i.2.up = upB h t := by
  rcases ho.2 with ⟨e, h2⟩ | ⟨h2, h3, e⟩
  · rw [e]
    exact ⟨hB, hB.tx t _ h2⟩
  · have hn := hB.no t h2
    have hx : i.2.st = stB h t ∧ i.2.last = lastN h t ∧ i.2.up = upB h t := by
      rw [h3, hn.1, hn.2.1, hn.2.2]
      exact ⟨rfl, rfl, rfl⟩
    have hkey : i.2.key = t := by rw [h3]; rfl
    refine ⟨?_, hx⟩
    rw [e]
    refine ⟨hB.l, hB.pg, fun t' x hl => ?_, fun t' hl => ?_, hB.ow, hB.borns, hB.keys, hB.lt⟩
    · have hl' : look1 (B.tx ++ [i.2]) t' = some x := hl
      rw [look1_app h2 hkey] at hl'
      split at hl'
      · rename_i et
        injection hl' with hl'
        subst hl' et
        exact hx
      · exact hB.tx t' x hl'
    · have hl' : look1 (B.tx ++ [i.2]) t' = none := hl
      rw [look1_app h2 hkey] at hl'
      split at hl'
      · cases hl'
      · exact hB.no t' hl'
theorem upB_le : ∀ {h : List R} {t : Int} {n : Nat}, n ∈ upB h t → 1 ≤ n ∧ n ≤ h.length
  | [], _, _, hn => by cases hn
  | r :: h, t, n, hn => by
    unfold upB at hn
    have key : ∀ n ∈ upB h t, 1 ≤ n ∧ n ≤ (r :: h).length := fun n hn => by have := upB_le hn; simp; omega
    split at hn
    · split at hn
      · rcases List.mem_cons.1 hn with rfl | hn
        · simp
        · exact key n hn
      · split at hn
        · exact key n (List.mem_of_mem_tail hn)
        · split at hn
          · cases hn
          · exact key n hn
    · exact key n hn
theorem upB_len : ∀ (h : List R) (t : Int), (upB h t).length ≤ h.length
  | [], _ => by simp [upB]
  | r :: h, t => by
    have ih := upB_len h t
    unfold upB
    split
    · split
      · simp; omega
      · split
        · simp; omega
        · split
          · simp
          · simp; omega
    · simp; omega
theorem BOk.up {B : Bk} {h : List R} (hB : BOk B h) (hl : h.length ≤ 60) : UpOk B := by
  have e : B.l.length = h.length := by rw [hB.l]; simp
  refine ⟨by omega, fun t x hx => ?_⟩
  rw [(hB.tx t x hx).2.2, e]
  exact ⟨Nat.le_trans (upB_len h t) hl, fun m hm => upB_le hm⟩
theorem BOk.own {B : Bk} {h : List R} (hB : BOk B h) (p c : Int) : (look2 B.ow p c).getD (.int .i64 0) = .int .i64 (ownB h p c) := by
  rw [hB.ow]
  split
  · rename_i h0; rw [h0]; rfl
  · rfl
theorem undoR_B {B : Bk} {h : List R} {t : Int} {x : TxE} (hl : B.l = h.reverse) (h1 : x.last = lastN h t) (h2 : x.up = upB h t) : undoR B.l t x = undoB h t := by
  unfold undoR undoB
  rw [h2, h1, hl]
  cases upB h t with
  | nil => rfl
  | cons m us => rfl
section
variable [Inhabited DSx] {Q : Exit → Act → World → Prop} {E : Env} {n : Nat} {H : Hp} {F G : SF} {u : World}
theorem E.owner {f : FuncId} {args : Array Operand} {ts : Array TypeId} {d : Nat} {T' : TypeId} {p : String} {af : Array Edge} {B : Bk} {h : List R} {t p' c : Int} {x : TxE} {K Hl : Hp} (Hx : Hp) (hf : f = 144) (hB : BOk B h) (hK : Foc B t x K) (hl : look1 B.tx t = some x)
    (hH : H = Hx ++ (x.blkc :: B.own1 :: (K ++ Hl))) (hF : F = (SF.bk u.heap.size B).sep G)
    (hx : evs E args.toList = some [B.ptr, .int .i64 p', .int .i64 c]) (hn : Nat.blt d n = true) :
    Eff Try.prog E n H F u ⟨some d, .call { callee := .value (.func f), args := args, argTypes := ts }, T', p, af, none⟩ (fun _ : Unit => (d, .int .i64 (ownB h p' c)) :: E) (fun _ => H) (fun _ => F) := by
  subst hf hF
  refine Proofs.Ytdbcimadjmdffaa.E.callM _ _ _ Try.call144 hx (fun w hw => ?_) hn
  rw [hH] at hw ⊢
  refine (w_owner u B (Hx ++ Hl) G p' c w (hw.sub (foc_out hK (set1_same hl).symm Hx Hl))).mono fun e w' ⟨_, he, hw'⟩ => ?_
  rw [hB.own] at he
  exact ⟨(), he, hw'.sub (foc_in hK Hx Hl)⟩
theorem of_same {B : Bk} {t : Int} {x : TxE} {i : Bk × TxE} (h : OfB B t i) (hl : look1 B.tx t = some x) : i.1 = B ∧ i.2 = x := by
  rcases h.2 with ⟨e, h2⟩ | ⟨h2, _⟩
  · rw [hl] at h2
    exact ⟨e, (Option.some.inj h2).symm⟩
  · rw [hl] at h2; cases h2
theorem E.undo {f : FuncId} {args : Array Operand} {ts : Array TypeId} {d : Nat} {T' : TypeId} {p : String} {af : Array Edge} {B : Bk} {h : List R} {t : Int} {x : TxE} {K Hl : Hp} (Hx : Hp) (hf : f = 141) (hB : BOk B h) (hlen : h.length ≤ 60) (hK : Foc B t x K) (hl : look1 B.tx t = some x)
    (hH : H = Hx ++ (x.blkc :: B.own1 :: (K ++ Hl))) (hF : F = (SF.bk u.heap.size B).sep G)
    (hx : evs E args.toList = some [B.ptr, .int .i64 t]) (hn : Nat.blt d n = true) :
    Eff Try.prog E n H F u ⟨some d, .call { callee := .value (.func f), args := args, argTypes := ts }, T', p, af, none⟩ (fun _ : Unit => (d, (undoB h t).val) :: E) (fun _ => H) (fun _ => F) := by
  subst hf hF
  refine Proofs.Ytdbcimadjmdffaa.E.callM _ _ _ Try.call141 hx (fun w hw => ?_) hn
  rw [hH] at hw ⊢
  refine (w_undo u B (Hx ++ Hl) G t w (hw.sub (foc_out hK (set1_same hl).symm Hx Hl)) (hB.up hlen)).mono fun e w' ⟨i, he, hw'⟩ => ?_
  obtain ⟨⟨B', x'⟩, hi⟩ := i
  obtain ⟨e1, e2⟩ := of_same hi hl
  dsimp only at e1 e2 he hw'
  subst e1 e2
  have h3 := hB.tx t x' hl
  rw [undoR_B hB.l h3.2.1 h3.2.2] at he
  exact ⟨(), he, hw'.sub (foc_in hK Hx Hl)⟩
theorem Y.loadN {P : Program} {d : Option Nat} {x : Operand} {T T' : TypeId} {p : String} {af : Array Edge} {b o : Nat} {v : Value} {cs : List Value} {T2 : TypeId} (hT : Flat P T) (hx : ev E x = some (.pointer (some ⟨b, o, none⟩))) (hm : (b, cs, T2) ∈ H) (hc : nth cs o = some v) :
    Yv P E n H F u ⟨d, .load T x, T', p, af, none⟩ v := Y.load hT hx hm hc
end
theorem cell_at (B : Bk) (i c : Int) (hi : 0 ≤ i ∧ i ≤ 2) (hc : 0 ≤ c ∧ c ≤ 2) : nth B.cells (0 + 1 + i.toNat * 4 + 0 + c.toNat * 1) = some (.int .i64 ((B.pg.get i).cellAt c)) := by
  have h1 : i = 0 ∨ i = 1 ∨ i = 2 := by omega
  have h2 : c = 0 ∨ c = 1 ∨ c = 2 := by omega
  rcases h1 with rfl | rfl | rfl <;> rcases h2 with rfl | rfl | rfl <;> rfl
end Go.Proofs.Ytdbcimadjmdffaa
