/- The book: what a new record turns, in memory and as plain Lean. No condition. -/
import Derived.Test.YtdbcimadjmdffaaBd
import Derived.Test.YtdbcimadjmdffaaPa
import Derived.Test.YtdbcimadjmdffaaLq
set_option linter.unusedVariables false
set_option linter.unusedSimpArgs false
set_option linter.unusedSectionVars false
set_option maxRecDepth 100000
namespace Go.Proofs.Ytdbcimadjmdffaa
open Go.RowKit Go.Joins
theorem rec_info : (Try.prog.info? 34).map (fun i => (i.zero, i.size, i.bytes)) = some (some (.agg #[.int .i64 0, .int .i64 0, .int .i64 0, .int .i64 0, .int .i64 0, .int .i64 0, .int .i64 0, .int .i64 0]), 8, 64) := by kernel_rfl
/-! ### The row of records in front -/
def SF.bkl (base : Nat) (B : Bk) : SF := (SF.map base B.mt (B.tx.map TxE.entry) B.k1).sep ((SF.map base B.mo (B.ow.map E2.entry) B.k2).sep (SF.ups base B.tx))
theorem bk_rl (base : Nat) (B : Bk) (G : SF) : ((SF.bk base B).sep G).le ((SF.own base 34 8 (.slice B.A B.l.length B.c) B.l.length (flat B.l)).sep ((SF.bkl base B).sep G)) :=
  SF.le_trans (SF.sep_mono (SF.le_trans (SF.sep_mono (SF.le_refl _) (SF.sep_rot _ _ _)) (SF.sep_rot _ _ _)) (SF.le_refl _)) (SF.sep_assoc _ _ _)
theorem bk_rl' (base : Nat) (B : Bk) (G : SF) : ((SF.own base 34 8 (.slice B.A B.l.length B.c) B.l.length (flat B.l)).sep ((SF.bkl base B).sep G)).le ((SF.bk base B).sep G) :=
  SF.le_trans (SF.sep_assoc' _ _ _) (SF.sep_mono (SF.le_trans (SF.sep_rot _ _ _) (SF.sep_mono (SF.le_refl _) (SF.sep_rot _ _ _))) (SF.le_refl _))
/-- The book with one record more in its row. -/
def Bk.more (B : Bk) (A : Option Addr) (c : Nat) (r : R) : Bk := { B with A := A, c := c, l := B.l ++ [r] }
theorem flat_app (l : List R) (r : R) : flat (l ++ [r]) = flat l ++ r.cl := by simp [flat]
theorem bk_more (base : Nat) (B : Bk) (A : Option Addr) (c : Nat) (r : R) (G : SF) : ((SF.own base 34 8 (.slice A (B.l.length + 1) c) (B.l.length + 1) (flat B.l ++ r.cl)).sep ((SF.bkl base B).sep G)).le ((SF.bk base (B.more A c r)).sep G) := by
  have h := bk_rl' base (B.more A c r) G
  have e : (B.more A c r).l.length = B.l.length + 1 := by simp [Bk.more]
  have e2 : flat (B.more A c r).l = flat B.l ++ r.cl := flat_app _ _
  rw [e, e2] at h
  exact h
theorem more_cells (B : Bk) (A : Option Addr) (c : Nat) (r : R) : put B.cells (0 + 0) [.slice A (B.l.length + 1) c] = (B.more A c r).cells := by
  have e : (B.more A c r).l.length = B.l.length + 1 := by simp [Bk.more]
  unfold Bk.cells
  rw [e]
  rfl
/-! ### The row of a Txn in front -/
theorem ups_foc (base : Nat) : ∀ {l : List TxE} {t : Int} {x : TxE}, look1 l t = some x → ∃ U : SF, (SF.ups base l).le ((x.row base).sep U) ∧ ∀ y : TxE, ((y.row base).sep U).le (SF.ups base (set1 l t y))
  | [], _, _, h => by cases h
  | z :: l, t, x, h => by
    unfold look1 at h
    split at h
    · rename_i hk
      injection h with h
      subst h
      exact ⟨SF.ups base l, SF.le_refl _, fun y => by simp only [set1, if_pos hk]; exact SF.le_refl _⟩
    · rename_i hk
      obtain ⟨U, h1, h2⟩ := ups_foc base h
      exact ⟨(z.row base).sep U, SF.le_trans (SF.sep_mono (SF.le_refl _) h1) (SF.sep_rot _ _ _), fun y => by
        simp only [set1, if_neg hk]
        exact SF.le_trans (SF.sep_rot _ _ _) (SF.sep_mono (SF.le_refl _) (h2 y))⟩
theorem ents_set : ∀ {l : List TxE} {t : Int} {x y : TxE}, look1 l t = some x → y.entry = x.entry → (set1 l t y).map TxE.entry = l.map TxE.entry
  | [], _, _, _, h, _ => by cases h
  | z :: l, t, x, y, h, e => by
    unfold look1 at h
    split at h
    · rename_i hk
      injection h with h
      subst h
      simp only [set1, if_pos hk, List.map_cons, e]
    · rename_i hk
      simp only [set1, if_neg hk, List.map_cons, ents_set h e]
def Bk.setT (B : Bk) (t : Int) (y : TxE) : Bk := { B with tx := set1 B.tx t y }
theorem bk_foc (base : Nat) {B : Bk} {t : Int} {x : TxE} (G : SF) (h : look1 B.tx t = some x) : ∃ V : SF, ((SF.bk base B).sep G).le ((x.row base).sep V) ∧ ∀ (y : TxE) (pg : P3), y.entry = x.entry → ((y.row base).sep V).le ((SF.bk base { B.setT t y with pg := pg }).sep G) := by
  obtain ⟨U, h1, h2⟩ := ups_foc base h
  refine ⟨((SF.map base B.mt (B.tx.map TxE.entry) B.k1).sep ((SF.map base B.mo (B.ow.map E2.entry) B.k2).sep ((SF.own base 34 8 (.slice B.A B.l.length B.c) B.l.length (flat B.l)).sep U))).sep G, ?_, fun y pg e => ?_⟩
  · refine SF.le_trans (SF.sep_mono ?_ (SF.le_refl _)) (SF.sep_assoc _ _ _)
    refine SF.le_trans (SF.sep_mono (SF.le_refl _) ?_) (SF.sep_rot _ _ _)
    refine SF.le_trans (SF.sep_mono (SF.le_refl _) ?_) (SF.sep_rot _ _ _)
    exact SF.le_trans (SF.sep_mono (SF.le_refl _) h1) (SF.sep_rot _ _ _)
  · refine SF.le_trans (SF.sep_assoc' _ _ _) (SF.sep_mono ?_ (SF.le_refl _))
    have e2 : ({ B.setT t y with pg := pg } : Bk).tx.map TxE.entry = B.tx.map TxE.entry := ents_set h e
    unfold SF.bk
    rw [e2]
    refine SF.le_trans (SF.sep_rot _ _ _) (SF.sep_mono (SF.le_refl _) ?_)
    refine SF.le_trans (SF.sep_rot _ _ _) (SF.sep_mono (SF.le_refl _) ?_)
    exact SF.le_trans (SF.sep_rot _ _ _) (SF.sep_mono (SF.le_refl _) (h2 y))
/-! ### A page -/
def Pg.cl4 (p : Pg) : List Value := p.cl
theorem page_at (B : Bk) (i : Int) (hi : 0 ≤ i ∧ i ≤ 2) : seg B.cells (0 + 1 + i.toNat * 4) 4 = some (B.pg.get i).cl := by
  have h1 : i = 0 ∨ i = 1 ∨ i = 2 := by omega
  rcases h1 with rfl | rfl | rfl <;> rfl
theorem page_put (B : Bk) (i : Int) (x : Pg) (hi : 0 ≤ i ∧ i ≤ 2) : put B.cells (0 + 1 + i.toNat * 4) x.cl = ({ B with pg := B.pg.set i x } : Bk).cells := by
  have h1 : i = 0 ∨ i = 1 ∨ i = 2 := by omega
  rcases h1 with rfl | rfl | rfl <;> rfl
theorem cells_len (B : Bk) : B.cells.length = 15 := rfl
section
variable [Inhabited DSx] {Q : Exit → Act → World → Prop} {E : Env} {n : Nat} {H : Hp} {F G : SF} {u : World}
theorem Y.loadAN {P : Program} {d : Option Nat} {x : Operand} {T T' : TypeId} {p : String} {af : Array Edge} {b o k : Nat} {r cs : List Value} {T2 : TypeId} (hT : Wide P T k) (hx : ev E x = some (.pointer (some ⟨b, o, none⟩))) (hm : (b, cs, T2) ∈ H) (hc : seg cs o k = some r) :
    Yv P E n H F u ⟨d, .load T x, T', p, af, none⟩ (.agg r.toArray) := Y.loadA hT hx hm hc
/-- A call of leave, where a Txn is in front. -/
theorem E.leave {f : FuncId} {args : Array Operand} {ts : Array TypeId} {d : Nat} {T' : TypeId} {p : String} {af : Array Edge} (B B3 : Bk) {t : Int} (x y : TxE) {K Hl : Hp} (Hx : Hp) (hf : f = 154) (hK : Foc B t x K) (htx : B3.tx = set1 B.tx t y) (hl1 : look1 B3.tx t = some y) (hU : UpOk B3)
    (hv : ∀ e ∈ B3.ow, ∃ o, e.v = .int .i64 o) (hbn : B3.ow.Pairwise fun a b => a.born ≠ b.born) (hkk : B3.ow.Pairwise fun a b => ¬(a.p = b.p ∧ a.c = b.c)) (hlt : ∀ e ∈ B3.ow, e.born < B3.k2)
    (hH : H = Hx ++ (y.blkc :: B3.own1 :: (K ++ Hl))) (hF : F = (SF.bk u.heap.size B3).sep G)
    (hx : evs E args.toList = some [B3.ptr, .int .i64 t]) (hn : Nat.blt d n = true) :
    Eff Try.prog E n H F u ⟨some d, .call { callee := .value (.func f), args := args, argTypes := ts }, T', p, af, none⟩ (fun _ : Unit => (d, packed []) :: E) (fun _ => (B3.left t y).hp ++ (Hx ++ Hl)) (fun _ => (SF.bk u.heap.size (B3.left t y)).sep G) := by
  subst hf hF
  refine Proofs.Ytdbcimadjmdffaa.E.callM (fun _ => packed []) _ _ Try.call154 hx (fun w hw => ?_) hn
  rw [hH] at hw
  refine (w_leave u B3 (Hx ++ Hl) G t y w (hw.sub (foc_out hK htx Hx Hl)) hl1 hU hv hbn hkk hlt).mono fun e w' ⟨he, hw'⟩ => ?_
  exact ⟨(), he, hw'⟩
end
/-! ### The histories -/
theorem look1_set : ∀ {l : List TxE} {t : Int} {x y : TxE}, look1 l t = some x → y.key = t → ∀ t', look1 (set1 l t y) t' = if t' = t then some y else look1 l t'
  | [], _, _, _, h, _ => by cases h
  | z :: l, t, x, y, h, hy => fun t' => by
    unfold look1 at h
    split at h
    · rename_i hk
      have e : set1 (z :: l) t y = y :: l := by simp only [set1, if_pos hk]
      rw [e]
      by_cases h1 : t' = t
      · subst h1; simp [look1, hy]
      · have h2 : ¬ t = t' := fun e => h1 e.symm
        simp [look1, hy, hk, h1, h2]
    · rename_i hk
      have ih := look1_set h hy t'
      have e : set1 (z :: l) t y = z :: set1 l t y := by simp only [set1, if_neg hk]
      rw [e]
      by_cases h1 : t' = t
      · subst h1; simp [look1, hk, ih]
      · simp [look1, h1, ih]
/-- The book behind the row's growth: B1, whose Txns are as before. -/
theorem of_more {B : Bk} {h : List R} {A : Option Addr} {c : Nat} {r : R} {t : Int} {i : Bk × TxE} (hB : BOk B h) (ho : OfB (B.more A c r) t i) : BOk { i.1 with l := B.l } h ∧ i.2.st = stB h t ∧ i.2.last = lastN h t ∧ i.2.up = upB h t := by
  have hB' : BOk { B with A := A, c := c } h := ⟨hB.l, hB.pg, hB.tx, hB.no, hB.ow, hB.borns, hB.keys, hB.lt⟩
  refine hB'.of (i := ({ i.1 with l := B.l }, i.2)) ⟨ho.1, ?_⟩
  rcases ho.2 with ⟨e, h2⟩ | ⟨h2, h3, e⟩
  · refine .inl ⟨?_, h2⟩
    dsimp only
    rw [e]
    rfl
  · refine .inr ⟨h2, h3, ?_⟩
    dsimp only
    rw [e]
    rfl
/-- The numbers of the newer history, for the Txns that are not of the record. -/
theorem put_tx {B : Bk} {h : List R} {r : R} {x y : TxE} (hB : BOk B h) (hl : look1 B.tx r.txn = some x) (hk : y.key = r.txn) (h1 : y.st = r.kind) (h2 : y.last = (h.length + 1 : Nat)) (h3 : y.up = upB (r :: h) r.txn) :
    (∀ t z, look1 (set1 B.tx r.txn y) t = some z → z.st = stB (r :: h) t ∧ z.last = lastN (r :: h) t ∧ z.up = upB (r :: h) t) ∧ (∀ t, look1 (set1 B.tx r.txn y) t = none → stB (r :: h) t = 0 ∧ lastN (r :: h) t = 0 ∧ upB (r :: h) t = []) := by
  refine ⟨fun t z hz => ?_, fun t hz => ?_⟩
  · rw [look1_set hl hk] at hz
    split at hz
    · rename_i e
      subst e
      injection hz with hz
      subst hz
      exact ⟨by simp [stB, h1], by simp [lastN, h2], h3⟩
    · rename_i e
      have e' : ¬ r.txn = t := fun x => e x.symm
      have := hB.tx t z hz
      simpa [stB, lastN, upB, e'] using this
  · rw [look1_set hl hk] at hz
    split at hz
    · cases hz
    · rename_i e
      have e' : ¬ r.txn = t := fun x => e x.symm
      have := hB.no t hz
      simpa [stB, lastN, upB, e'] using this
theorem look2_mem : ∀ {l : List E2} {e : E2}, e ∈ l → (l.Pairwise fun a b => ¬(a.p = b.p ∧ a.c = b.c)) → look2 l e.p e.c = some e.v
  | [], _, h, _ => by cases h
  | z :: l, e, h, hk => by
    obtain ⟨k1, k2⟩ := List.pairwise_cons.1 hk
    unfold look2
    rcases List.mem_cons.1 h with rfl | h
    · simp
    · rw [if_neg (k1 e h)]
      exact look2_mem h k2
theorem BOk.vals {B : Bk} {h : List R} (hB : BOk B h) : ∀ e ∈ B.ow, ∃ o, e.v = .int .i64 o := fun e he => by
  have h1 := look2_mem he hB.keys
  rw [hB.ow] at h1
  split at h1
  · cases h1
  · exact ⟨_, (Option.some.inj h1).symm⟩
theorem look2_filter (f : E2 → Bool) : ∀ {l : List E2} {p c : Int}, (l.Pairwise fun a b => ¬(a.p = b.p ∧ a.c = b.c)) → ∀ {v : Value}, look2 l p c = some v → ∃ e ∈ l, e.p = p ∧ e.c = c ∧ e.v = v ∧ look2 (l.filter f) p c = if f e then some v else none
  | [], _, _, _, _, h => by cases h
  | z :: l, p, c, hk, v, h => by
    obtain ⟨k1, k2⟩ := List.pairwise_cons.1 hk
    unfold look2 at h
    split at h
    · rename_i hc
      injection h with h
      refine ⟨z, List.Mem.head _, hc.1, hc.2, h, ?_⟩
      rw [List.filter_cons]
      cases hf : f z
      · simp only [Bool.false_eq_true, if_false]
        have key : ∀ l : List E2, (∀ e ∈ l, ¬(z.p = e.p ∧ z.c = e.c)) → look2 (l.filter f) p c = none := by
          intro l hl
          induction l with
          | nil => rfl
          | cons y l ih =>
            have i1 := ih fun e he => hl e (List.Mem.tail _ he)
            have i2 := hl y (List.Mem.head _)
            rw [List.filter_cons]
            split
            · simp only [look2]
              rw [if_neg (fun e => i2 ⟨hc.1.trans e.1.symm, hc.2.trans e.2.symm⟩), i1]
            · exact i1
        exact key l k1
      · simp only [if_true, look2, if_pos hc, h]
    · rename_i hc
      obtain ⟨e, he, h1, h2, h3, h4⟩ := look2_filter f k2 h
      refine ⟨e, List.Mem.tail _ he, h1, h2, h3, ?_⟩
      rw [List.filter_cons]
      split
      · simp only [look2, if_neg hc]
        exact h4
      · exact h4
theorem look2_filter_none (f : E2 → Bool) : ∀ {l : List E2} {p c : Int}, look2 l p c = none → look2 (l.filter f) p c = none
  | [], _, _, _ => rfl
  | z :: l, p, c, h => by
    unfold look2 at h
    split at h
    · cases h
    · rename_i hc
      rw [List.filter_cons]
      split
      · simp only [look2, if_neg hc]
        exact look2_filter_none f h
      · exact look2_filter_none f h
/-- What leave leaves of the owners. -/
theorem own_left {ow : List E2} {h : List R} {r : R} {l : List R} {up : List Nat} (hk : ow.Pairwise fun a b => ¬(a.p = b.p ∧ a.c = b.c)) (ho : ∀ p c, look2 ow p c = if ownB h p c = 0 then none else some (.int .i64 (ownB h p c))) (hl : l = (r :: h).reverse) (hu : up = upB (r :: h) r.txn) (h1 : r.kind ≠ 1) (h2 : r.kind ≠ 2) (p c : Int) :
    look2 (ow.filter (keepE l r.txn up)) p c = if ownB (r :: h) p c = 0 then none else some (.int .i64 (ownB (r :: h) p c)) := by
  have e : ownB (r :: h) p c = if ownB h p c = r.txn ∧ (upB (r :: h) r.txn).any (hasCell (r :: h) p c) = false then 0 else ownB h p c := by simp [ownB, h1, h2]
  by_cases h0 : ownB h p c = 0
  · have h3 := ho p c
    rw [if_pos h0] at h3
    rw [look2_filter_none _ h3, e]
    have : (if ownB h p c = r.txn ∧ (upB (r :: h) r.txn).any (hasCell (r :: h) p c) = false then 0 else ownB h p c) = 0 := by split <;> simp [h0]
    rw [if_pos this]
  · have h3 := ho p c
    rw [if_neg h0] at h3
    obtain ⟨x, _, rfl, rfl, hv, h4⟩ := look2_filter (keepE l r.txn up) hk h3
    rw [h4]
    have hany : up.any (cellIs l x.p x.c) = (upB (r :: h) r.txn).any (hasCell (r :: h) x.p x.c) := by
      rw [hl, hu]; rfl
    have hkp : keepE l r.txn up x = !(decide (ownB h x.p x.c = r.txn ∧ (upB (r :: h) r.txn).any (hasCell (r :: h) x.p x.c) = false)) := by
      unfold keepE
      rw [hv, hany]
      by_cases e1 : ownB h x.p x.c = r.txn <;> cases (upB (r :: h) r.txn).any (hasCell (r :: h) x.p x.c) <;> simp [e1]
    rw [hkp, e]
    by_cases hd : ownB h x.p x.c = r.txn ∧ (upB (r :: h) r.txn).any (hasCell (r :: h) x.p x.c) = false
    · simp [hd]
    · rw [if_neg hd, if_neg h0]
      simp only [hd, decide_false, Bool.not_false, if_true]
theorem set2_mem : ∀ {l : List E2} {p c : Int} {v : Value} {k : Nat} {e : E2}, e ∈ set2 l p c v k → (∃ x ∈ l, x.born = e.born ∧ x.p = e.p ∧ x.c = e.c) ∨ (has2 l p c = false ∧ e = ⟨p, c, v, k⟩)
  | [], p, c, v, k, e, h => by
    simp [set2] at h
    exact .inr ⟨rfl, h⟩
  | z :: l, p, c, v, k, e, h => by
    unfold set2 at h
    split at h
    · rename_i hc
      rcases List.mem_cons.1 h with rfl | h
      · exact .inl ⟨z, List.Mem.head _, rfl, rfl, rfl⟩
      · exact .inl ⟨e, List.Mem.tail _ h, rfl, rfl, rfl⟩
    · rename_i hc
      rcases List.mem_cons.1 h with rfl | h
      · exact .inl ⟨e, List.Mem.head _, rfl, rfl, rfl⟩
      · rcases set2_mem h with ⟨x, hx, h1⟩ | ⟨h1, h2⟩
        · exact .inl ⟨x, List.Mem.tail _ hx, h1⟩
        · refine .inr ⟨?_, h2⟩
          unfold has2 at h1 ⊢
          simp only [look2, if_neg hc]
          exact h1
theorem set2_borns : ∀ {l : List E2} {p c : Int} {v : Value} {k : Nat}, (l.Pairwise fun a b => a.born ≠ b.born) → (∀ e ∈ l, e.born < k) → (set2 l p c v k).Pairwise fun a b => a.born ≠ b.born
  | [], _, _, _, _, _, _ => by simp [set2]
  | z :: l, p, c, v, k, hp, hk => by
    obtain ⟨h1, h2⟩ := List.pairwise_cons.1 hp
    unfold set2
    split
    · exact List.pairwise_cons.2 ⟨h1, h2⟩
    · refine List.pairwise_cons.2 ⟨fun e he => ?_, set2_borns h2 fun e he => hk e (List.Mem.tail _ he)⟩
      rcases set2_mem he with ⟨x, hx, e1, _⟩ | ⟨_, rfl⟩
      · rw [← e1]; exact h1 x hx
      · have := hk z (List.Mem.head _)
        simp only; omega
theorem set2_keys : ∀ {l : List E2} {p c : Int} {v : Value} {k : Nat}, (l.Pairwise fun a b => ¬(a.p = b.p ∧ a.c = b.c)) → (set2 l p c v k).Pairwise fun a b => ¬(a.p = b.p ∧ a.c = b.c)
  | [], _, _, _, _, _ => by simp [set2]
  | z :: l, p, c, v, k, hp => by
    obtain ⟨h1, h2⟩ := List.pairwise_cons.1 hp
    unfold set2
    split
    · exact List.pairwise_cons.2 ⟨h1, h2⟩
    · rename_i hc
      refine List.pairwise_cons.2 ⟨fun e he => ?_, set2_keys h2⟩
      rcases set2_mem he with ⟨x, hx, _, e1, e2⟩ | ⟨_, rfl⟩
      · rw [← e1, ← e2]; exact h1 x hx
      · exact hc
theorem set2_lt {l : List E2} {p c : Int} {v : Value} {k : Nat} (hk : ∀ e ∈ l, e.born < k) : ∀ e ∈ set2 l p c v k, e.born < nk l p c k := fun e he => by
  unfold nk
  rcases set2_mem he with ⟨x, hx, e1, _⟩ | ⟨h1, rfl⟩
  · have := hk x hx
    split <;> omega
  · rw [h1]; simp
/-! ### The Txn behind a record -/
def TxE.push (x : TxE) (A : Option Addr) (c n : Nat) : TxE := { x with st := 1, last := (n : Nat), A := A, c := c, up := n :: x.up }
def TxE.over (x : TxE) (n : Nat) : TxE := { x with st := 2, last := (n : Nat) }
def TxE.back (x : TxE) (n : Nat) : TxE := { x with st := 3, last := (n : Nat), up := x.up.tail }
def TxE.end (x : TxE) (n : Nat) : TxE := { x with st := 4, last := (n : Nat), A := none, c := 0, up := [] }
theorem row_push (base : Nat) (x : TxE) (A : Option Addr) (c n : Nat) : (SF.own base 3 1 (.slice A (x.up.length + 1) c) (x.up.length + 1) (nums x.up.reverse ++ [.int .i64 (n : Int)])).le ((x.push A c n).row base) := by
  have e : nums (x.push A c n).up.reverse = nums x.up.reverse ++ [.int .i64 (n : Int)] := by simp [nums, TxE.push]
  unfold TxE.row
  rw [e]
  exact SF.le_refl _
theorem own_blk2 {g n m c : Nat} {A : Option Addr} (h : Value.ownBlock (.slice A n c) = some g) : Value.ownBlock (.slice A m c) = some g := by
  cases A with
  | none => cases h
  | some a => exact h
theorem row_back (base : Nat) (x : TxE) (n : Nat) : (x.row base).le ((x.back n).row base) := fun w h => by
  have h1 := own_cut (show w.ownsRow base 3 1 (.slice x.A x.up.length x.c) x.up.length (nums x.up.reverse) from h) (j := x.up.length - 1) (by omega)
  refine ⟨?_, fun b hb => own_blk2 (A := x.A) hb⟩
  have e : nums (x.back n).up.reverse = (nums x.up.reverse).take ((x.up.length - 1) * 1) := by
    unfold TxE.back nums
    rw [← List.map_take]
    congr 1
    cases x.up with
    | nil => rfl
    | cons a l => simp
  have e2 : (x.back n).up.length = x.up.length - 1 := by simp [TxE.back]
  show w.ownsRow base 3 1 (.slice x.A (x.back n).up.length x.c) (x.back n).up.length (nums (x.back n).up.reverse)
  rw [e, e2]
  exact h1
theorem row_end (base : Nat) (x : TxE) (n : Nat) : (x.row base).le ((x.end n).row base) := fun w _ => ⟨own_nil _ _ _ _, fun b hb => by cases hb⟩
def Bk.nx (B : Bk) (t : Int) (y : TxE) (pg : P3) : Bk := { B.setT t y with pg := pg }
/-- The book tells of the longer history. -/
theorem BOk.next {B2 B' : Bk} {h : List R} {r : R} {x y : TxE} {l0 : List R} (hB2 : BOk { B2 with l := l0 } h) (hl1 : look1 B2.tx r.txn = some x) (e1 : B'.l = h.reverse ++ [r]) (e2 : B'.pg = pagesOf (r :: h)) (e3 : B'.tx = set1 B2.tx r.txn y) (hy : y.key = x.key)
    (h1 : y.st = r.kind) (h2 : y.last = (h.length + 1 : Nat)) (h3 : y.up = upB (r :: h) r.txn)
    (how : ∀ p c, look2 B'.ow p c = if ownB (r :: h) p c = 0 then none else some (.int .i64 (ownB (r :: h) p c))) (hbn : B'.ow.Pairwise fun a b => a.born ≠ b.born) (hkk : B'.ow.Pairwise fun a b => ¬(a.p = b.p ∧ a.c = b.c)) (hlt : ∀ e ∈ B'.ow, e.born < B'.k2) : BOk B' (r :: h) := by
  have hk : y.key = r.txn := hy.trans (look1_key hl1).1
  have ht := put_tx (B := { B2 with l := l0 }) hB2 hl1 hk h1 h2 h3
  exact ⟨by rw [e1, List.reverse_cons], e2, by rw [e3]; exact ht.1, by rw [e3]; exact ht.2, how, hbn, hkk, hlt⟩
theorem ups_next {B2 : Bk} {h : List R} {r : R} {x y : TxE} {l0 : List R} {pg : P3} (hB2 : BOk { B2 with l := l0 } h) (hl1 : look1 B2.tx r.txn = some x) (hlen : h.length + 1 ≤ 60) (e1 : B2.l.length = h.length + 1) (hy : y.key = x.key)
    (h1 : y.st = r.kind) (h2 : y.last = (h.length + 1 : Nat)) (h3 : y.up = upB (r :: h) r.txn) : UpOk (B2.nx r.txn y pg) := by
  have hk : y.key = r.txn := hy.trans (look1_key hl1).1
  have ht := put_tx (B := { B2 with l := l0 }) hB2 hl1 hk h1 h2 h3
  refine ⟨by show B2.l.length ≤ 60; omega, fun t z hz => ?_⟩
  have := (ht.1 t z hz).2.2
  rw [this]
  refine ⟨Nat.le_trans (upB_len _ _) (by simp; omega), fun m hm => ?_⟩
  have h5 := upB_le hm
  refine ⟨h5.1, ?_⟩
  show m ≤ B2.l.length
  rw [e1]
  simpa using h5.2
theorem look_next {B2 : Bk} {r : R} {x y : TxE} {pg : P3} (hl1 : look1 B2.tx r.txn = some x) (hy : y.key = x.key) : look1 (B2.nx r.txn y pg).tx r.txn = some y := by
  have hk : y.key = r.txn := hy.trans (look1_key hl1).1
  show look1 (set1 B2.tx r.txn y) r.txn = some y
  rw [look1_set hl1 hk, if_pos rfl]
theorem own_next {ow : List E2} {h : List R} {r : R} {k : Nat} (ho : ∀ p c, look2 ow p c = if ownB h p c = 0 then none else some (.int .i64 (ownB h p c))) (h1 : r.kind = 1) (ht : r.txn ≠ 0) (p c : Int) :
    look2 (set2 ow r.page r.cell (.int .i64 r.txn) k) p c = if ownB (r :: h) p c = 0 then none else some (.int .i64 (ownB (r :: h) p c)) := by
  have e : ownB (r :: h) p c = if r.page = p ∧ r.cell = c then r.txn else ownB h p c := by simp [ownB, h1]
  rw [look2_set, e]
  by_cases hc : r.page = p ∧ r.cell = c
  · simp [hc, ht]
  · rw [if_neg hc, if_neg hc, ho]
theorem own_same {ow : List E2} {h : List R} {r : R} (ho : ∀ p c, look2 ow p c = if ownB h p c = 0 then none else some (.int .i64 (ownB h p c))) (h2 : r.kind = 2) (p c : Int) :
    look2 ow p c = if ownB (r :: h) p c = 0 then none else some (.int .i64 (ownB (r :: h) p c)) := by
  have e : ownB (r :: h) p c = ownB h p c := by simp [ownB, h2]
  rw [e, ho]
theorem filter_pair {α : Type} {p : α → α → Prop} {f : α → Bool} {l : List α} (h : l.Pairwise p) : (l.filter f).Pairwise p := h.sublist List.filter_sublist
theorem back_up {h : List R} {r : R} (hr : Right (r :: h)) (hk : r.kind = 3) : ∃ n l, upB h r.txn = n :: l := by
  obtain ⟨h1, h2, h3⟩ := hr.parts
  obtain ⟨n, l, hu, _⟩ := follows_back h3 hk
  refine ⟨n, l, ?_⟩
  rw [h1.up, if_neg (follows_st h3).2.1, hu]
theorem w_setOk (p : Pg) (cell v n : Int) (w : World) (hp : p.ok = true) (ha : setArgs cell v n = true) : Ret Try.prog 42 [p.val, .int .i64 cell, .int .i64 v, .int .i64 n] w (.tuple #[(p.put cell v n).val, .int .i64 0]) := by
  have h := w_set p cell v n w
  rwa [show setOf p cell v n = (p.put cell v n, 0) by simp [setOf, hp, ha]] at h
theorem pages_turn {h : List R} {r : R} (ht : r.turns = true) : pagesOf (r :: h) = (pagesOf h).set r.page (((pagesOf h).get r.page).put r.cell r.new (h.length + 1 : Nat)) := by
  simp only [pagesOf, if_pos ht]
  rfl
theorem pages_stay {h : List R} {r : R} (ht : r.turns = false) : pagesOf (r :: h) = pagesOf h := by
  simp [pagesOf, ht]
end Go.Proofs.Ytdbcimadjmdffaa
