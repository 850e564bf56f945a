/- Ranging over a map whose keys are cells. No condition. -/
import Derived.Test.YtdbcimadjmdffaaBp
set_option linter.unusedVariables false
set_option linter.unusedSimpArgs false
set_option linter.unusedSectionVars false
set_option maxRecDepth 100000
namespace Go.Proofs.Ytdbcimadjmdffaa
open Go.RowKit Go.Joins
/-- An iterator over the map in block m lies in block b. -/
def SF.iter (base b m since : Nat) (seen : List Nat) (last : Nat) : SF where
  p w := w.heap[b]? = some (.mapIter (some m) since seen.toArray last) ∧ base ≤ b
  fp _ x := x = b
  lt w x h e := by subst e; exact blk_lt h.1
  st w w' h k := ⟨⟨(k b rfl).trans h.1, h.2⟩, fun _ h => h⟩
section
variable [Inhabited DSx] {P : Program} {Q : Exit → Act → World → Prop} {E : Env} {n : Nat} {H : Hp} {F G : SF} {w0 : World}
theorem St.newObj {a : Act} {w : World} (o : Obj) (J : Nat → SF) (hJ : ∀ b w', w'.heap[b]? = some o → w0.heap.size ≤ b → (J b).p w') (hf : ∀ b w' x, (J b).fp w' x → x = b) (s : St E n H F w0 a w) : St E n H ((J w.heap.size).sep F) w0 a (w.alloc o) := by
  have hb : Below w.heap.size w (w.alloc o) := (Below.refl _ _).alloc (Nat.le_refl _) _
  have g := s.grow hb
  have hfp := (F.st w _ s.fact fun b h => hb.block b (F.lt w b s.fact h)).2
  refine ⟨g.env, g.hp, ⟨hJ _ _ (alloc_new w _) s.low.size, g.fact, fun x hx hk => ?_⟩, fun x hx hk => ?_, g.low⟩
  · have h1 := F.lt w _ s.fact (hfp _ hk)
    have h2 := hf _ _ _ hx
    omega
  · rcases hk with hk | hk
    · have h1 := s.hp.lt hx
      have h2 := hf _ _ _ hk
      omega
    · exact g.sep x hx hk
/-- range over a map. -/
theorem E.range {d : Nat} {x : Operand} {T T' k e : TypeId} {p : String} {af : Array Edge} {m c : Nat} {es : List MapEntry} (hu : P.underlying T = some (.map k e)) (hx : ev E x = some (.map (some m))) (hm : ∀ a w, St E n H F w0 a w → w.heap[m]? = some (.map es.toArray c)) (hn : Nat.blt d n = true) :
    Eff P E n H F w0 ⟨some d, .range T x, T', p, af, none⟩ (fun b : Nat => (d, .pointer (some ⟨b, 0, none⟩)) :: E) (fun _ => H) (fun b => (SF.iter w0.heap.size b m c [] c).sep F) := fun a w s Q K hK => by
  have h : (execOp a.eval ⟨some d, .range T x, T', p, af, none⟩).run P w = .ok (.value (.pointer (some ⟨w.heap.size, 0, none⟩))) (w.alloc (.mapIter (some m) c #[] c)) := by
    show (do let u ← Instr.range T (a.eval x); pure (Next.value u)).run P w = _
    rw [s.env.eval hx]
    unfold Instr.range
    simp only [Sem.run_bind, run_underlying hu, Result.andThen_ok, run_getObj (hm a w s), Sem.run_pure]
    rfl
  unfold Oper.wp
  rw [h, Oper.upon_value]
  exact hK _ _ _ (put_size _ _ _) ((s.newObj _ (fun b => SF.iter w0.heap.size b m c [] c) (fun b w' h1 h2 => ⟨h1, h2⟩) (fun _ _ _ h => h)).put hn)
/-- Memory with another iterator in block b, and perhaps a draw. -/
theorem St.putIter {a : Act} {w w' : World} {b m since last last' : Nat} {seen seen' : List Nat} (s : St E n H ((SF.iter w0.heap.size b m since seen last).sep G) w0 a w) (hh : w'.heap = w.heap.setIfInBounds b (.mapIter (some m) since seen'.toArray last')) (ho : w'.os = w.os) (ht : w'.tape = w.tape) (hu : w'.output = w.output) :
    St E n H ((SF.iter w0.heap.size b m since seen' last').sep G) w0 a w' := by
  have hm := s.fact.1.1
  have hb := s.fact.1.2
  have far : ∀ x, x ≠ b → w'.heap[x]? = w.heap[x]? := fun x hx => by rw [hh, Array.getElem?_setIfInBounds_ne (Ne.symm hx)]
  have hat : w'.heap[b]? = some (.mapIter (some m) since seen'.toArray last') := by
    have := blk_lt hm
    rw [hh]; simp [this]
  have hG := G.st w w' s.fact.2.1 fun x hx => far x (fun e => s.fact.2.2 b rfl (by rw [← e]; exact hx))
  refine ⟨s.env, ⟨fun x hx => ⟨?_, (s.hp.blk x hx).2⟩, s.hp.nd⟩, ⟨⟨hat, hb⟩, hG.1, fun x hx hg => s.fact.2.2 x hx (hG.2 x hg)⟩, fun x hx hk => ?_, ⟨ho.trans s.low.os, ht.trans s.low.tape, hu.trans s.low.output, by rw [hh]; simpa using s.low.size, fun x hx => ?_⟩⟩
  · rw [far x.1 (fun e => s.sep x hx (.inl e))]
    exact (s.hp.blk x hx).1
  · exact s.sep x hx (hk.imp id (hG.2 _))
  · rw [far x (by omega)]
    exact s.low.block x hx
theorem all_old {L : List E2} {c : Nat} (h : ∀ e ∈ L, e.born < c) (hn : L ≠ []) : (L.map E2.entry).toArray.all (fun e => decide (e.born ≥ c)) = false := by
  cases L with
  | nil => exact absurd rfl hn
  | cons e l =>
    have := h e (List.Mem.head _)
    simp [E2.entry]
    intro h1
    omega
theorem run_mapNext {w : World} {n : Nat} (hn : 1 ≤ n) : ∃ i w1, (choose (.mapNext n)).run P w = .ok i w1 ∧ i < n ∧ w1.heap = w.heap ∧ w1.os = w.os ∧ w1.tape = w.tape ∧ w1.output = w.output := by
  unfold choose
  by_cases h : n ≤ 1
  · exact ⟨0, w, by simp [Sem.run, Question.forced, h], by omega, rfl, rfl, rfl, rfl⟩
  · refine ⟨_, { w with drawn := w.drawn + 1 }, by simp only [Sem.run, Question.forced, decide_eq_true_eq, h, if_false]; rfl, ?_, rfl, rfl, rfl, rfl⟩
    exact Nat.mod_lt _ (by omega)
theorem find_born : ∀ (L : List E2) (e : E2), e ∈ L → (L.Pairwise fun a b => a.born ≠ b.born) → (L.map E2.entry).find? (fun x => x.born == e.born) = some e.entry
  | [], _, h, _ => by cases h
  | y :: L, e, he, hp => by
    obtain ⟨h1, h2⟩ := List.pairwise_cons.1 hp
    rcases List.mem_cons.1 he with rfl | he
    · simp [E2.entry]
    · have hne : y.born ≠ e.born := h1 e he
      have ih := find_born L e he h2
      simp only [List.map_cons, List.find?_cons]
      have : (y.entry.born == e.born) = false := by simpa [E2.entry] using hne
      rw [this]
      exact ih
/-- The next entry: one that was not met, or none is left. -/
theorem E.next {d : Nat} {x : Operand} {T' : TypeId} {p : String} {af : Array Edge} {b m c : Nat} {L : List E2} {seen : List Nat} (hF : F = (SF.iter w0.heap.size b m c seen c).sep G) (hx : ev E x = some (.pointer (some ⟨b, 0, none⟩))) (hm : ∀ a w, St E n H F w0 a w → w.heap[m]? = some (.map (L.map E2.entry).toArray c))
    (hc : ∀ e ∈ L, e.born < c) (hn : Nat.blt d n = true) :
    Eff P E n H F w0 ⟨some d, .next x false, T', p, af, none⟩ (fun i : {i : Option E2 // (∀ e, i = some e → e ∈ L ∧ e.born ∉ seen) ∧ (i = none → ∀ e ∈ L, e.born ∈ seen)} => (d, match i.1 with | some e => .tuple #[.bool true, key2 e.p e.c, e.v] | none => .tuple #[.bool false]) :: E) (fun _ => H)
      (fun i => (SF.iter w0.heap.size b m c (match i.1 with | some e => seen ++ [e.born] | none => seen) c).sep G) := fun a w s Q K hK => by
  subst hF
  have hit := s.fact.1.1
  have hmap := hm a w s
  have g1 : (getObj b).run P w = .ok (.mapIter (some m) c seen.toArray c) w := by simp [getObj, Sem.run, hit]
  have g2 := run_getObj (P := P) hmap
  have hcond : (!seen.toArray.isEmpty && !(L.map E2.entry).toArray.isEmpty && (L.map E2.entry).toArray.all fun e => decide (e.born ≥ c)) = false := by
    cases L with
    | nil => simp
    | cons e l => rw [all_old hc (by simp)]; simp
  have hleft : (L.map E2.entry).toArray.filter (fun e => !seen.toArray.contains e.born) = ((L.filter fun e => !seen.contains e.born).map E2.entry).toArray := by
    simp [List.filter_map, Function.comp_def, E2.entry]
    rfl
  have hold : (((L.filter fun e => !seen.contains e.born).map E2.entry).toArray).filter (fun e => decide (e.born < c)) = ((L.filter fun e => !seen.contains e.born).map E2.entry).toArray := by
    apply Array.toList_inj.1
    simp only [List.filter_toArray]
    refine List.filter_eq_self.2 fun e he => ?_
    obtain ⟨x, hx, rfl⟩ := List.mem_map.1 he
    exact decide_eq_true (hc x (List.mem_filter.1 hx).1)
  have hnew : (((L.filter fun e => !seen.contains e.born).map E2.entry).toArray).filter (fun e => decide (e.born ≥ c)) = #[] := by
    apply Array.toList_inj.1
    simp only [List.filter_toArray]
    refine List.filter_eq_nil_iff.2 fun e he => ?_
    obtain ⟨x, hx, rfl⟩ := List.mem_map.1 he
    have := hc x (List.mem_filter.1 hx).1
    simp [E2.entry]; omega
  generalize hl : (L.filter fun e => !seen.contains e.born) = left at hleft hold hnew
  have hop : (execOp a.eval ⟨some d, .next x false, T', p, af, none⟩).run P w = (do let u ← Instr.next (.pointer (some ⟨b, 0, none⟩)) false T'; pure (Next.value u)).run P w := by
    show (do let u ← Instr.next (a.eval x) false T'; pure (Next.value u)).run P w = _
    rw [s.env.eval hx]
  have hmem : ∀ e ∈ left, e ∈ L ∧ e.born ∉ seen := fun e he => by
    rw [← hl] at he
    have := List.mem_filter.1 he
    exact ⟨this.1, by simpa using this.2⟩
  obtain ⟨i, w1, hch, hlt, h1, h2, h3, h4⟩ := run_mapNext (P := P) (w := w) (n := if left.isEmpty then 1 else left.length) (by cases left <;> simp)
  have hrun : (Instr.next (.pointer (some ⟨b, 0, none⟩)) false T').run P w = match left[i]? with
      | some e => .ok (.tuple #[.bool true, key2 e.p e.c, e.v]) { w1 with heap := w1.heap.setIfInBounds b (.mapIter (some m) c (seen.toArray.push e.born) c) }
      | none => .ok (.tuple #[.bool false]) w1 := by
    unfold Instr.next
    simp only [Sem.run_bind, g1, g2, Result.andThen_ok, hcond, Bool.false_eq_true, if_false, hleft, hold, hnew]
    cases left with
    | nil =>
      simp only [List.isEmpty_nil, if_true] at hch hlt
      have hi : i = 0 := by omega
      subst hi
      have e0 : ((if (([] : List E2).map E2.entry).toArray.isEmpty = true then #[none] else #[]) ++ Array.map some ((([] : List E2).map E2.entry).toArray ++ #[])) = (#[none] : Array (Option MapEntry)) := by simp
      rw [e0]
      simp only [List.size_toArray, List.length_cons, List.length_nil, Nat.zero_add, hch, Result.andThen_ok]
      rfl
    | cons e0 r =>
      simp only [List.isEmpty_cons, Bool.false_eq_true, if_false] at hch hlt
      have e1 : ((if ((e0 :: r).map E2.entry).toArray.isEmpty = true then #[none] else #[]) ++ Array.map some (((e0 :: r).map E2.entry).toArray ++ #[])) = (((e0 :: r).map fun e => some e.entry).toArray : Array (Option MapEntry)) := by
        apply Array.toList_inj.1
        simp
      rw [e1]
      have e2 : (((e0 :: r).map fun e => some e.entry).toArray).size = (e0 :: r).length := by simp
      rw [e2, hch]
      obtain ⟨e, he⟩ := get_of_lt (l := e0 :: r) (k := i) hlt
      rw [he]
      have e3 : (((e0 :: r).map fun e => some e.entry).toArray)[i]? = some (some e.entry) := by simp only [List.getElem?_toArray, List.getElem?_map, he, Option.map_some]
      simp only [Result.andThen_ok, e3]
      have hit1 : w1.heap[b]? = some (.mapIter (some m) c seen.toArray c) := by rw [h1]; exact hit
      simp [setObj, Sem.run, hit1, E2.entry]
  unfold Oper.wp
  rw [hop, Sem.run_bind, hrun]
  cases hg : left[i]? with
  | none =>
    have hnil : left = [] := by
      cases left with
      | nil => rfl
      | cons e0 r =>
        simp only [List.isEmpty_cons, Bool.false_eq_true, if_false] at hlt
        rw [List.getElem?_eq_getElem hlt] at hg
        cases hg
    simp only [Result.andThen_ok, Sem.run_pure, Oper.upon_value]
    refine hK ⟨none, ⟨fun e h => (by cases h), fun _ e he => ?_⟩⟩ _ _ (put_size _ _ _) (St.put ?_ hn)
    · rw [hnil] at hl
      have := List.filter_eq_nil_iff.1 hl e he
      simpa using this
    · have hb : Below w.heap.size w w1 := ⟨h2, h3, h4, by rw [h1]; exact Nat.le_refl _, fun k _ => by rw [h1]⟩
      exact s.grow hb
  | some e =>
    have hm2 := hmem e (List.mem_of_getElem? hg)
    simp only [Result.andThen_ok, Sem.run_pure, Oper.upon_value]
    refine hK ⟨some e, ⟨fun e' h => (by injection h with h; subst h; exact hm2), fun h => (by cases h)⟩⟩ _ _ (put_size _ _ _) (St.put ?_ hn)
    exact s.putIter (by rw [h1]; simp) h2 h3 h4
/-- The entry that was met last. -/
theorem Y.entry {d : Option Nat} {x : Operand} {T' : TypeId} {p : String} {af : Array Edge} {b m c : Nat} {L : List E2} {seen : List Nat} {e : E2} (hx : ev E x = some (.pointer (some ⟨b, 0, none⟩))) (hi : ∀ a w, St E n H F w0 a w → w.heap[b]? = some (.mapIter (some m) c (seen ++ [e.born]).toArray c))
    (hm : ∀ a w, St E n H F w0 a w → w.heap[m]? = some (.map (L.map E2.entry).toArray c)) (he : e ∈ L) (hb : L.Pairwise fun a b => a.born ≠ b.born) :
    Yv P E n H F w0 ⟨d, .entry x, T', p, af, none⟩ (.tuple #[key2 e.p e.c, e.v]) := fun a w s => by
  have g1 : (getObj b).run P w = .ok (.mapIter (some m) c (seen ++ [e.born]).toArray c) w := by simp [getObj, Sem.run, hi a w s]
  have g2 := run_getObj (P := P) (hm a w s)
  have hf : (L.map E2.entry).toArray.find? (fun x => x.born == e.born) = some e.entry := by
    rw [List.find?_toArray]
    exact find_born L e he hb
  show (do let u ← Instr.entry (a.eval x); pure (Next.value u)).run P w = _
  rw [s.env.eval hx]
  unfold Instr.entry
  have hback : (seen ++ [e.born]).toArray.back? = some e.born := by simp
  simp only [Sem.run_bind, g1, g2, Result.andThen_ok, hback, bne_self_eq_false, Bool.false_eq_true, if_false, hf, Sem.run_pure]
  rfl
end
/-! What 'leave' leaves. -/
def cellIs (l : List R) (p c : Int) (m : Nat) : Bool := (l[m - 1]?.getD R.zero).page == p && (l[m - 1]?.getD R.zero).cell == c
def keepE (l : List R) (t : Int) (up : List Nat) (e : E2) : Bool := (match e.v with | .int _ o => o != t | _ => true) || up.any (cellIs l e.p e.c)
/-- The entries, when those of 'seen' were met. -/
def metE (l : List R) (t : Int) (up : List Nat) (seen : List Nat) (L0 : List E2) : List E2 := L0.filter fun e => !seen.contains e.born || keepE l t up e
theorem metE_nil (l : List R) (t : Int) (up : List Nat) (L0 : List E2) : metE l t up [] L0 = L0 := by
  unfold metE
  refine List.filter_eq_self.2 fun e _ => by simp
theorem metE_end {l : List R} {t : Int} {up seen : List Nat} {L0 : List E2} (h : ∀ e ∈ metE l t up seen L0, e.born ∈ seen) : metE l t up seen L0 = L0.filter (keepE l t up) := by
  unfold metE at h ⊢
  apply List.filter_congr
  intro e he
  by_cases hs : e.born ∈ seen
  · simp [hs]
  · exact absurd (h e (List.mem_filter.2 ⟨he, by simp [hs]⟩)) hs
theorem metE_keep {l : List R} {t : Int} {up seen : List Nat} {L0 : List E2} {e : E2} (he : e ∈ metE l t up seen L0) (hp : L0.Pairwise fun a b => a.born ≠ b.born) (hk : keepE l t up e = true) : metE l t up (seen ++ [e.born]) L0 = metE l t up seen L0 := by
  unfold metE at he ⊢
  apply List.filter_congr
  intro x hx
  have he' := (List.mem_filter.1 he).1
  by_cases hb : x.born = e.born
  · have : x = e := born_inj hp hx he' hb
    subst this
    simp [hk]
  · simp [hb]
  where
  born_inj {L : List E2} {x y : E2} (hp : L.Pairwise fun a b => a.born ≠ b.born) (hx : x ∈ L) (hy : y ∈ L) (h : x.born = y.born) : x = y := by
    induction L with
    | nil => cases hx
    | cons z L ih =>
      obtain ⟨h1, h2⟩ := List.pairwise_cons.1 hp
      rcases List.mem_cons.1 hx with e1 | hx1
      · rcases List.mem_cons.1 hy with e2 | hy1
        · rw [e1, e2]
        · rw [e1] at h
          exact absurd h (h1 y hy1)
      · rcases List.mem_cons.1 hy with e2 | hy1
        · rw [e2] at h
          exact absurd h.symm (h1 x hx1)
        · exact ih h2 hx1 hy1
theorem del2_filter : ∀ {L : List E2} {e : E2}, e ∈ L → (L.Pairwise fun a b => ¬(a.p = b.p ∧ a.c = b.c)) → (L.Pairwise fun a b => a.born ≠ b.born) → del2 L e.p e.c = L.filter fun x => x.born != e.born
  | [], _, h, _, _ => by cases h
  | y :: L, e, he, hk, hb => by
    obtain ⟨k1, k2⟩ := List.pairwise_cons.1 hk
    obtain ⟨b1, b2⟩ := List.pairwise_cons.1 hb
    unfold del2
    rcases List.mem_cons.1 he with rfl | he
    · simp only [and_self, if_true]
      rw [List.filter_cons]
      simp only [bne_self_eq_false, Bool.false_eq_true, if_false]
      exact (List.filter_eq_self.2 fun x hx => by simpa using fun e => b1 x hx e.symm).symm
    · have hne : ¬(y.p = e.p ∧ y.c = e.c) := k1 e he
      rw [if_neg hne, List.filter_cons]
      have : (y.born != e.born) = true := by simpa using b1 e he
      rw [if_pos this, del2_filter he k2 b2]
theorem metE_del {l : List R} {t : Int} {up seen : List Nat} {L0 : List E2} {e : E2} (he : e ∈ metE l t up seen L0) (hs : e.born ∉ seen) (hp : L0.Pairwise fun a b => a.born ≠ b.born) (hq : L0.Pairwise fun a b => ¬(a.p = b.p ∧ a.c = b.c)) (hk : keepE l t up e = false) :
    del2 (metE l t up seen L0) e.p e.c = metE l t up (seen ++ [e.born]) L0 := by
  have hsub : List.Sublist (metE l t up seen L0) L0 := List.filter_sublist
  rw [del2_filter he (hq.sublist hsub) (hp.sublist hsub)]
  have he' := (List.mem_filter.1 he).1
  unfold metE
  rw [List.filter_filter]
  apply List.filter_congr
  intro x hx
  by_cases hb : x.born = e.born
  · have : x = e := metE_keep.born_inj hp hx he' hb
    subst this
    simp [hk]
  · simp [hb]
/-- How many are still to come. -/
def toCome (seen : List Nat) (L0 : List E2) : Nat := (L0.filter fun e => !seen.contains e.born).length
theorem toCome_lt {seen : List Nat} {L0 : List E2} {e : E2} (he : e ∈ L0) (hs : e.born ∉ seen) : toCome (seen ++ [e.born]) L0 < toCome seen L0 := by
  unfold toCome
  induction L0 with
  | nil => cases he
  | cons y L ih =>
    have hle : ∀ L : List E2, (L.filter fun x => !(seen ++ [e.born]).contains x.born).length ≤ (L.filter fun x => !seen.contains x.born).length := by
      intro L
      induction L with
      | nil => simp
      | cons z L ih =>
        simp only [List.filter_cons]
        by_cases h1 : z.born ∈ seen
        · simp [h1]; simpa using ih
        · by_cases h2 : z.born = e.born
          · have h3 : e.born ∉ seen := h2 ▸ h1
            simp [h2, h3]; simp at ih; omega
          · simp [h1, h2]; simpa using ih
    simp only [List.filter_cons]
    rcases List.mem_cons.1 he with rfl | he
    · have := hle L
      simp [hs]
      simp at this
      omega
    · have := ih he
      by_cases h1 : y.born ∈ seen
      · simp [h1]; simpa using this
      · by_cases h2 : y.born = e.born
        · have h3 : e.born ∉ seen := h2 ▸ h1
          simp [h2, h3]; simp at this; omega
        · simp [h1, h2]; simpa using this
end Go.Proofs.Ytdbcimadjmdffaa
