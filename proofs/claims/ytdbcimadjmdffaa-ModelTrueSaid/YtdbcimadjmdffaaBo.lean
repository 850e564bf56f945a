/- The book in memory: one Txn in focus; rows that read as records. No condition. -/
import Derived.Test.YtdbcimadjmdffaaBa
set_option linter.unusedVariables false
set_option linter.unusedSimpArgs false
set_option linter.unusedSectionVars false
set_option maxRecDepth 100000
namespace Go.Proofs.Ytdbcimadjmdffaa
open Go.RowKit Go.Joins
def set1 : List TxE → Int → TxE → List TxE
  | [], _, _ => []
  | y :: l, t, x => if y.key = t then x :: l else y :: set1 l t x
theorem set1_mid : ∀ {l1 l2 : List TxE} {t : Int} {x y : TxE}, look1 l1 t = none → x.key = t → set1 (l1 ++ x :: l2) t y = l1 ++ y :: l2
  | [], _, _, _, _, _, hx => by simp [set1, hx]
  | z :: l1, l2, t, x, y, h, hx => by
    unfold look1 at h
    split at h
    · cases h
    · rename_i hk
      simp [set1, hk, set1_mid h hx]
def Bk.own1 (B : Bk) : Nat × List Value × TypeId := (B.bk, B.cells, 112)
/-- The Txn x of the book B in front; K: the others. -/
def Foc (B : Bk) (t : Int) (x : TxE) (K : Hp) : Prop := (x.blkc :: B.own1 :: K).Perm B.hp ∧ ∀ (B' : Bk) (y : TxE), B'.tx = set1 B.tx t y → (y.blkc :: B'.own1 :: K).Perm B'.hp
theorem foc_of {B : Bk} {t : Int} {x : TxE} (h : look1 B.tx t = some x) : ∃ K, Foc B t x K := by
  obtain ⟨hk, l1, l2, e, hn⟩ := look1_key h
  have key : ∀ (B' : Bk) (y : TxE), B'.tx = l1 ++ y :: l2 → (y.blkc :: B'.own1 :: (l1 ++ l2).map TxE.blkc).Perm B'.hp := by
    intro B' y hy
    unfold Bk.hp
    rw [hy]
    simp only [List.map_append, List.map_cons]
    refine (List.Perm.swap _ _ _).trans ?_
    exact ((List.perm_middle (l₁ := l1.map TxE.blkc) (a := y.blkc) (l₂ := l2.map TxE.blkc)).symm).cons _
  refine ⟨(l1 ++ l2).map TxE.blkc, key B x e, fun B' y hy => key B' y ?_⟩
  rw [hy, e, set1_mid hn hk]
theorem foc_in {B : Bk} {t : Int} {x : TxE} {K : Hp} (h : Foc B t x K) (Hx Hl : Hp) : Hsub (Hx ++ (x.blkc :: B.own1 :: (K ++ Hl))) (B.hp ++ (Hx ++ Hl)) := by
  refine Hsub.of_perm ?_
  have h1 : (x.blkc :: B.own1 :: (K ++ Hl)).Perm (B.hp ++ Hl) := by
    have := h.1.append_right Hl
    simpa using this
  refine (h1.append_left Hx).trans ?_
  rw [← List.append_assoc, ← List.append_assoc]
  exact List.perm_append_comm.append_right Hl
theorem foc_out {B B' : Bk} {t : Int} {x y : TxE} {K : Hp} (h : Foc B t x K) (hy : B'.tx = set1 B.tx t y) (Hx Hl : Hp) : Hsub (B'.hp ++ (Hx ++ Hl)) (Hx ++ (y.blkc :: B'.own1 :: (K ++ Hl))) := by
  refine Hsub.of_perm ?_
  have h1 : (y.blkc :: B'.own1 :: (K ++ Hl)).Perm (B'.hp ++ Hl) := by
    have := (h.2 B' y hy).append_right Hl
    simpa using this
  refine List.Perm.symm ((h1.append_left Hx).trans ?_)
  rw [← List.append_assoc, ← List.append_assoc]
  exact List.perm_append_comm.append_right Hl
theorem hp_move (B : Bk) (Hx Hl : Hp) : Hsub (B.hp ++ (Hx ++ Hl)) (Hx ++ (B.hp ++ Hl)) := by
  refine Hsub.of_perm ?_
  rw [← List.append_assoc, ← List.append_assoc]
  exact List.perm_append_comm.append_right Hl
theorem set1_same : ∀ {l : List TxE} {t : Int} {x : TxE}, look1 l t = some x → set1 l t x = l
  | [], _, _, h => by cases h
  | y :: l, t, x, h => by
    unfold look1 at h
    unfold set1
    split at h
    · rename_i hk
      injection h with h
      subst h
      rw [if_pos hk]
    · rename_i hk
      rw [if_neg hk, set1_same h]
section
variable [Inhabited DSx] {Q : Exit → Act → World → Prop} {E : Env} {n : Nat} {H : Hp} {F G : SF} {u : World}
/-- A call of Of: behind it the Txn is in front. -/
theorem E.of {f : FuncId} {args : Array Operand} {ts : Array TypeId} {d : Nat} {T' : TypeId} {p : String} {af : Array Edge} {B : Bk} {t : Int} (Hx : Hp) {Hl : Hp} (hf : f = 124) (hH : H = Hx ++ (B.hp ++ Hl)) (hF : F = (SF.bk u.heap.size B).sep G)
    (hx : evs E args.toList = some [B.ptr, .int .i64 t]) (hn : Nat.blt d n = true) :
    Eff Try.prog E n H F u ⟨some d, .call { callee := .value (.func f), args := args, argTypes := ts }, T', p, af, none⟩ (fun i : {i : Bk × TxE × Hp // OfB B t (i.1, i.2.1) ∧ Foc i.1 t i.2.1 i.2.2} => (d, i.1.2.1.ptr) :: E)
      (fun i => Hx ++ (i.1.2.1.blkc :: i.1.1.own1 :: (i.1.2.2 ++ Hl))) (fun i => (SF.bk u.heap.size i.1.1).sep G) := by
  subst hf hH hF
  refine Proofs.Ytdbcimadjmdffaa.E.callM _ _ _ Try.call124 hx (fun w hw => ?_) hn
  refine (w_of u B (Hx ++ Hl) G t w (hw.sub (hp_move B Hx Hl))).mono fun e w' ⟨i, he, hw'⟩ => ?_
  obtain ⟨⟨B', x⟩, hi⟩ := i
  obtain ⟨K, hK⟩ := foc_of hi.1
  exact ⟨⟨(B', x, K), hi, hK⟩, he, hw'.sub (foc_in hK Hx Hl)⟩
/-- The same where another Txn may be in front. -/
theorem E.of2 {f : FuncId} {args : Array Operand} {ts : Array TypeId} {d : Nat} {T' : TypeId} {p : String} {af : Array Edge} {B : Bk} {t : Int} (Hx : Hp) {Hl : Hp} (hf : f = 124) (hH : Hsub (B.hp ++ (Hx ++ Hl)) H) (hF : F = (SF.bk u.heap.size B).sep G)
    (hx : evs E args.toList = some [B.ptr, .int .i64 t]) (hn : Nat.blt d n = true) :
    Eff Try.prog E n H F u ⟨some d, .call { callee := .value (.func f), args := args, argTypes := ts }, T', p, af, none⟩ (fun i : {i : Bk × TxE × Hp // OfB B t (i.1, i.2.1) ∧ Foc i.1 t i.2.1 i.2.2} => (d, i.1.2.1.ptr) :: E)
      (fun i => Hx ++ (i.1.2.1.blkc :: i.1.1.own1 :: (i.1.2.2 ++ Hl))) (fun i => (SF.bk u.heap.size i.1.1).sep G) := by
  subst hf hF
  refine Proofs.Ytdbcimadjmdffaa.E.callM _ _ _ Try.call124 hx (fun w hw => ?_) hn
  refine (w_of u B (Hx ++ Hl) G t w (hw.sub hH)).mono fun e w' ⟨i, he, hw'⟩ => ?_
  obtain ⟨⟨B', x⟩, hi⟩ := i
  obtain ⟨K, hK⟩ := foc_of hi.1
  exact ⟨⟨(B', x, K), hi, hK⟩, he, hw'.sub (foc_in hK Hx Hl)⟩
end
/-! ### Rows -/
def gOf (A : Option Addr) : Nat := match A with | some a => a.block | none => 0
theorem flat_len (l : List R) : (flat l).length = l.length * 8 := by
  induction l with
  | nil => rfl
  | cons r l ih => simp only [flat, List.flatMap_cons, List.length_append] at *; simp [R.cl, ih]; omega
theorem flat_get : ∀ {l : List R} {i : Nat} {r : R} {j : Nat} {v : Value}, l[i]? = some r → r.cl[j]? = some v → (flat l)[i * 8 + j]? = some v
  | [], _, _, _, _, h, _ => by simp at h
  | x :: l, 0, r, j, v, h, hv => by
    simp at h
    subst h
    have hj := cl_lt hv
    simp only [flat, List.flatMap_cons]
    rw [List.getElem?_append_left (by simp [R.cl]; omega)]
    simpa using hv
  | x :: l, i + 1, r, j, v, h, hv => by
    have ih := flat_get (l := l) (i := i) (r := r) (j := j) (v := v) (by simpa using h) hv
    simp only [flat, List.flatMap_cons] at ih ⊢
    rw [List.getElem?_append_right (by simp [R.cl]; omega)]
    have : (i + 1) * 8 + j - x.cl.length = i * 8 + j := by simp [R.cl]; omega
    rw [this]
    exact ih
theorem own_RL {w : World} {base c : Nat} {A : Option Addr} {l : List R} (h : w.ownsRow base 34 8 (.slice A l.length c) l.length (flat l)) : RL w A (gOf A) 0 l := by
  have hA : l ≠ [] → ∃ g, A = some ⟨g, 0, none⟩ ∧ g < w.heap.size := fun hn => by
    have hl : 0 < l.length := List.length_pos_iff.2 hn
    rcases h.2 with ⟨hv, hk⟩ | ⟨g, cap, cur, hv, h1, h2, _⟩
    · omega
    · injection hv with e1 e2 e3
      exact ⟨g, e1, blk_lt h2⟩
  refine ⟨fun hn => ?_, fun i r hi j v hv => ?_⟩
  · obtain ⟨g, rfl, hg⟩ := hA hn
    exact ⟨rfl, hg⟩
  · obtain ⟨g, rfl, hg⟩ := hA (ne_of_get hi)
    obtain ⟨g2, e, hc⟩ := own_cell h (flat_get hi hv)
    injection e with e
    injection e with e
    subst e
    rw [Nat.zero_add]
    exact hc
theorem bk_RL {w : World} {base : Nat} {B : Bk} (h : (SF.bk base B).p w) : RL w B.A (gOf B.A) 0 B.l := own_RL h.2.1.2.1.1
theorem ups_row {base : Nat} : ∀ {l : List TxE} {t : Int} {x : TxE} {w : World}, look1 l t = some x → (SF.ups base l).p w → (x.row base).p w
  | [], _, _, _, h, _ => by cases h
  | y :: l, t, x, w, h, hp => by
    unfold look1 at h
    split at h
    · injection h with h
      subst h
      exact hp.1
    · exact ups_row h hp.2.1
theorem bk_row {base : Nat} {B : Bk} {t : Int} {x : TxE} {w : World} (hx : look1 B.tx t = some x) (h : (SF.bk base B).p w) : (x.row base).p w := ups_row hx h.2.1.2.1.2.1
theorem bk_cap {base : Nat} {B : Bk} {w : World} (h : (SF.bk base B).p w) : B.l.length ≤ B.c := own_le h.2.1.2.1.1
/-- The record by which the last Write that stands is taken back, or the End. -/
def undoR (l : List R) (t : Int) (x : TxE) : R :=
  match x.up with
  | [] => ⟨4, t, x.last, 0, 0, 0, 0, 0⟩
  | m :: _ => ⟨3, t, x.last, (l[m - 1]?.getD R.zero).page, (l[m - 1]?.getD R.zero).cell, (l[m - 1]?.getD R.zero).new, (l[m - 1]?.getD R.zero).old, (l[m - 1]?.getD R.zero).prev⟩
def UpOk (B : Bk) : Prop := B.l.length ≤ 60 ∧ ∀ t x, look1 B.tx t = some x → x.up.length ≤ 60 ∧ ∀ m ∈ x.up, 1 ≤ m ∧ m ≤ B.l.length
theorem of_l {B : Bk} {t : Int} {i : Bk × TxE} (h : OfB B t i) : i.1.l = B.l ∧ i.1.A = B.A ∧ i.1.c = B.c ∧ i.1.pg = B.pg ∧ i.1.bk = B.bk ∧ i.1.mt = B.mt ∧ i.1.mo = B.mo ∧ i.1.ow = B.ow ∧ i.1.k2 = B.k2 := by
  rcases h.2 with ⟨rfl, _⟩ | ⟨_, _, e⟩
  · simp
  · rw [e]; simp [Bk.add]
theorem of_up {B : Bk} {t : Int} {i : Bk × TxE} (h : OfB B t i) (hB : UpOk B) : i.2.up.length ≤ 60 ∧ ∀ m ∈ i.2.up, 1 ≤ m ∧ m ≤ i.1.l.length := by
  rw [(of_l h).1]
  rcases h.2 with ⟨_, h2⟩ | ⟨_, h2, _⟩
  · exact hB.2 t _ h2
  · rw [h2]; simp [tx0]
end Go.Proofs.Ytdbcimadjmdffaa
