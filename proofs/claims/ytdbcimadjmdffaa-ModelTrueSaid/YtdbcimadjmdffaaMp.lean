/- Maps of the program as lists of entries; facts that lean on different blocks. No condition. -/
import Derived.Test.YtdbcimadjmdffaaAp
set_option linter.unusedVariables false
set_option linter.unusedSimpArgs false
set_option linter.unusedSectionVars false
namespace Go.Proofs.Ytdbcimadjmdffaa
open Go.RowKit
/-- Facts that lean on different blocks. -/
def SF.sep (F G : SF) : SF := ⟨fun w => F.p w ∧ G.p w ∧ ∀ b, F.fp w b → ¬ G.fp w b, fun w b => F.fp w b ∨ G.fp w b,
  fun w b h k => k.elim (F.lt w b h.1) (G.lt w b h.2.1),
  fun w w' h k => by
    have h1 := F.st w w' h.1 fun b hb => k b (.inl hb)
    have h2 := G.st w w' h.2.1 fun b hb => k b (.inr hb)
    exact ⟨⟨h1.1, h2.1, fun b hf hg => h.2.2 b (h1.2 b hf) (h2.2 b hg)⟩, fun b hb => hb.imp (h1.2 b) (h2.2 b)⟩⟩
/-- F tells all that F' tells. -/
def SF.le (F F' : SF) : Prop := ∀ w, F.p w → F'.p w ∧ ∀ b, F'.fp w b → F.fp w b
theorem SF.le_refl (F : SF) : F.le F := fun _ h => ⟨h, fun _ h => h⟩
theorem SF.le_trans {F G K : SF} (h : F.le G) (k : G.le K) : F.le K := fun w hf => ⟨(k w (h w hf).1).1, fun b hb => (h w hf).2 b ((k w (h w hf).1).2 b hb)⟩
theorem SF.sep_comm (F G : SF) : (F.sep G).le (G.sep F) := fun w h => ⟨⟨h.2.1, h.1, fun b hg hf => h.2.2 b hf hg⟩, fun b hb => hb.symm⟩
theorem SF.sep_assoc (F G K : SF) : ((F.sep G).sep K).le (F.sep (G.sep K)) := fun w h =>
  ⟨⟨h.1.1, ⟨h.1.2.1, h.2.1, fun b hg hk => h.2.2 b (.inr hg) hk⟩, fun b hf hgk => hgk.elim (h.1.2.2 b hf) (h.2.2 b (.inl hf))⟩, fun b hb => hb.elim (fun h => .inl (.inl h)) fun h => h.elim (fun h => .inl (.inr h)) .inr⟩
theorem SF.sep_assoc' (F G K : SF) : (F.sep (G.sep K)).le ((F.sep G).sep K) := fun w h =>
  ⟨⟨⟨h.1, h.2.1.1, fun b hf hg => h.2.2 b hf (.inl hg)⟩, h.2.1.2.1, fun b hfg hk => hfg.elim (fun hf => h.2.2 b hf (.inr hk)) fun hg => h.2.1.2.2 b hg hk⟩, fun b hb => hb.elim (fun h => h.elim .inl fun h => .inr (.inl h)) fun h => .inr (.inr h)⟩
theorem SF.sep_mono {F F' G G' : SF} (h : F.le F') (k : G.le G') : (F.sep G).le (F'.sep G') := fun w x =>
  ⟨⟨(h w x.1).1, (k w x.2.1).1, fun b hf hg => x.2.2 b ((h w x.1).2 b hf) ((k w x.2.1).2 b hg)⟩, fun b hb => hb.imp ((h w x.1).2 b) ((k w x.2.1).2 b)⟩
/-- The second to the front. -/
theorem SF.sep_rot (F G K : SF) : (F.sep (G.sep K)).le (G.sep (F.sep K)) :=
  SF.le_trans (SF.sep_assoc' F G K) (SF.le_trans (SF.sep_mono (SF.sep_comm F G) (SF.le_refl K)) (SF.sep_assoc G F K))
theorem SF.sep_fst (F G : SF) : (F.sep G).le F := fun w h => ⟨h.1, fun b hb => .inl hb⟩
theorem SF.sep_snd (F G : SF) : (F.sep G).le G := fun w h => ⟨h.2.1, fun b hb => .inr hb⟩
section
variable [Inhabited DSx] {P : Program} {ops : Array Oper} {Q : Exit → Act → World → Prop} {E : Env} {n : Nat} {H : Hp} {F G : SF} {w0 : World}
theorem St.le {a : Act} {w : World} (s : St E n H F w0 a w) (h : F.le G) : St E n H G w0 a w := ⟨s.env, s.hp, (h w s.fact).1, fun x hx k => s.sep x hx ((h w s.fact).2 _ k), s.low⟩
theorem WL.le {l : List Oper} (h : F.le G) (k : WL P ops Q l E n H G w0) : WL P ops Q l E n H F w0 := fun a w s => k a w (s.le h)
theorem WC.le {c : Code} (h : F.le G) (k : WC P c Q E n H G w0) : WC P c Q E n H F w0 := fun a w s => k a w (s.le h)
theorem WQ.le {e : Exit} (h : F.le G) (k : WQ Q e E n H G w0) : WQ Q e E n H F w0 := fun a w s => k a w (s.le h)
/-- The blocks in another order, or fewer. -/
def Hsub (H' H : Hp) : Prop := ∃ K : Hp, K.Perm H' ∧ List.Sublist K H
theorem Hsub.subset {H' H : Hp} (h : Hsub H' H) : ∀ x ∈ H', x ∈ H := fun x hx => by
  obtain ⟨K, hp, hs⟩ := h
  exact hs.subset (hp.symm.subset hx)
theorem Hsub.refl (H : Hp) : Hsub H H := ⟨H, List.Perm.refl _, List.Sublist.refl _⟩
theorem Hsub.of_perm {H' H : Hp} (h : H'.Perm H) : Hsub H' H := ⟨H, h.symm, List.Sublist.refl _⟩
theorem Hsub.of_sub {H' H : Hp} (h : List.Sublist H' H) : Hsub H' H := ⟨H', List.Perm.refl _, h⟩
theorem HpOf.sub {B : Nat} {H' : Hp} {w : World} (h : HpOf B H w) (k : Hsub H' H) : HpOf B H' w := by
  obtain ⟨K, hp, hs⟩ := k
  have h1 : K.Pairwise fun x y => x.1 ≠ y.1 := List.Pairwise.sublist hs h.nd
  refine ⟨fun x hx => h.blk x (hs.subset (hp.symm.subset hx)), ?_⟩
  exact (List.Perm.pairwise_iff (fun h => Ne.symm h) hp).1 h1
theorem St.sub {a : Act} {w : World} {H' : Hp} (s : St E n H F w0 a w) (k : Hsub H' H) : St E n H' F w0 a w := ⟨s.env, s.hp.sub k, s.fact, fun x hx => s.sep x (k.subset x hx), s.low⟩
theorem WL.sub {l : List Oper} {H' : Hp} (h : Hsub H' H) (k : WL P ops Q l E n H' F w0) : WL P ops Q l E n H F w0 := fun a w s => k a w (s.sub h)
theorem WC.sub {c : Code} {H' : Hp} (h : Hsub H' H) (k : WC P c Q E n H' F w0) : WC P c Q E n H F w0 := fun a w s => k a w (s.sub h)
theorem WQ.sub {e : Exit} {H' : Hp} (h : Hsub H' H) (k : WQ Q e E n H' F w0) : WQ Q e E n H F w0 := fun a w s => k a w (s.sub h)
theorem Wp.sub {w : World} {H' : Hp} (s : Wp w0 H F w) (k : Hsub H' H) : Wp w0 H' F w := ⟨s.1.sub k, s.2.1, fun x hx => s.2.2.1 x (k.subset x hx), s.2.2.2⟩
theorem Wp.le {w : World} (s : Wp w0 H F w) (h : F.le G) : Wp w0 H G w := ⟨s.1, (h w s.2.1).1, fun x hx k => s.2.2.1 x hx ((h w s.2.1).2 _ k), s.2.2.2⟩
end
section
variable {P : Program} {ops : Array Oper} {Q : Exit → Act → World → Prop} {E : Env} {n : Nat} {H : Hp} {F G : SF} {w0 : World}
/-- A function entered where memory is known so far. -/
theorem enterW {f : FuncId} {fn : Func} {c : Code} {vs : List Value} {w : World} {R : Ending → World → Prop} (hf : P.funcs[f]? = some fn) (hb : fn.body = some c) (hn : fn.ntmps = n) (hl : Nat.ble vs.length n = true) (hw : Wp w0 H F w)
    (h : WC P c (bodyPost P fn R) (ents 0 vs) n H F w0) : Calls P f vs.toArray w R := by
  refine calls_of_wp hf hb (h _ _ ⟨⟨?_, fun t v ht => ?_, rfl⟩, hw.1, hw.2.1, hw.2.2.1, hw.2.2.2⟩)
  · have := Nat.le_of_ble_eq_true hl
    simp [hn]; omega
  · obtain ⟨j, rfl, hj⟩ := look_ents _ _ _ _ ht
    have hlt : j < vs.length := (List.getElem?_eq_some_iff.1 hj).1
    simp only [Nat.zero_add]
    rw [Array.getElem?_append_left (by simpa using hlt)]
    simpa using hj
end
section
variable [Inhabited DSx] {P : Program} {ops : Array Oper} {Q : Exit → Act → World → Prop} {E : Env} {n : Nat} {H : Hp} {F G : SF} {w0 : World}
/-- A call that turns what is known of memory. -/
theorem E.callM {ι : Type} {f : FuncId} {args : Array Operand} {ts : Array TypeId} {d : Nat} {T' : TypeId} {p : String} {af : Array Edge} {vs : List Value} (val : ι → Value) (Hi : ι → Hp) (Fi : ι → SF) (hf : ∀ (args : Array Value) (w : World), (callFunc f args).run P w = .ok (.enter f args) w)
    (hx : evs E args.toList = some vs) (hc : ∀ w, Wp w0 H F w → Calls P f vs.toArray w fun e w' => ∃ i, e = .returned (val i) ∧ Wp w0 (Hi i) (Fi i) w') (hn : Nat.blt d n = true) :
    Eff P E n H F w0 ⟨some d, .call { callee := .value (.func f), args := args, argTypes := ts }, T', p, af, none⟩ (fun i => (d, val i) :: E) Hi Fi := fun a w s Q K hK => by
  unfold Oper.wp
  rw [run_call hf s.env hx, Oper.upon_enter]
  refine (hc w s.wp).mono fun e w' ⟨i, he, hw⟩ => ?_
  subst he
  exact hK i _ _ (put_size _ _ _) (St.put ⟨s.env, hw.1, hw.2.1, hw.2.2.1, hw.2.2.2⟩ hn)
/-- A map lies in block b. -/
def SF.map (base b : Nat) (es : List MapEntry) (k : Nat) : SF where
  p w := w.heap[b]? = some (.map es.toArray k) ∧ base ≤ b
  fp _ x := x = b
  lt w x h e := by subst e; exact blk_lt h.1
  st w w' h k := ⟨⟨(k b rfl).trans h.1, h.2⟩, fun _ h => h⟩
/-- Memory with another map in block b. -/
def putMap (w : World) (b : Nat) (es : List MapEntry) (k : Nat) : World := { w with heap := w.heap.setIfInBounds b (.map es.toArray k) }
theorem putMap_at {w : World} {b : Nat} {o : Obj} (h : w.heap[b]? = some o) (es : List MapEntry) (k : Nat) : (putMap w b es k).heap[b]? = some (.map es.toArray k) := by
  have := blk_lt h
  simp [putMap, this]
theorem putMap_far {w : World} {b x : Nat} (hx : x ≠ b) (es : List MapEntry) (k : Nat) : (putMap w b es k).heap[x]? = w.heap[x]? := by
  simp [putMap, Array.getElem?_setIfInBounds_ne (Ne.symm hx)]
theorem St.putMap {a : Act} {w : World} {b : Nat} {es es' : List MapEntry} {k k' : Nat} (s : St E n H ((SF.map w0.heap.size b es k).sep G) w0 a w) : St E n H ((SF.map w0.heap.size b es' k').sep G) w0 a (putMap w b es' k') := by
  have hm := s.fact.1.1
  have hb := s.fact.1.2
  have hG := G.st w (Proofs.Ytdbcimadjmdffaa.putMap w b es' k') s.fact.2.1 fun x hx => putMap_far (fun e => s.fact.2.2 b rfl (by rw [← e]; exact hx)) _ _
  refine ⟨s.env, ⟨fun x hx => ⟨?_, (s.hp.blk x hx).2⟩, s.hp.nd⟩, ⟨⟨putMap_at hm _ _, hb⟩, hG.1, fun x hx hg => s.fact.2.2 x hx (hG.2 x hg)⟩, fun x hx hk => ?_, ⟨s.low.os, s.low.tape, s.low.output, by simpa [Proofs.Ytdbcimadjmdffaa.putMap] using s.low.size, fun x hx => ?_⟩⟩
  · rw [putMap_far (fun e => s.sep x hx (.inl e))]
    exact (s.hp.blk x hx).1
  · exact s.sep x hx (hk.imp id (hG.2 _))
  · rw [putMap_far (by omega)]
    exact s.low.block x hx
/-- A new map. -/
theorem St.newMap {a : Act} {w : World} (s : St E n H F w0 a w) : St E n H ((SF.map w0.heap.size w.heap.size [] 0).sep F) w0 a (w.alloc (.map #[] 0)) := by
  have hb : Below w.heap.size w (w.alloc (.map #[] 0)) := (Below.refl _ _).alloc (Nat.le_refl _) _
  have g := s.grow hb
  have hfp := (F.st w _ s.fact fun b h => hb.block b (F.lt w b s.fact h)).2
  refine ⟨g.env, g.hp, ⟨⟨alloc_new w _, s.low.size⟩, g.fact, fun x hx hk => ?_⟩, fun x hx hk => ?_, g.low⟩
  · have h1 := F.lt w _ s.fact (hfp _ hk)
    have h2 : x = w.heap.size := hx
    omega
  · rcases hk with hk | hk
    · have h1 := s.hp.lt hx
      have h2 : x.1 = w.heap.size := hk
      omega
    · exact g.sep x hx hk
theorem E.makeMap {d : Nat} {T T' : TypeId} {p : String} {af : Array Edge} (hn : Nat.blt d n = true) :
    Eff P E n H F w0 ⟨some d, .makeMap T none, T', p, af, none⟩ (fun b : Nat => (d, .map (some b)) :: E) (fun _ => H) (fun b => (SF.map w0.heap.size b [] 0).sep F) := fun a w s Q K hK => by
  have h : (execOp a.eval ⟨some d, .makeMap T none, T', p, af, none⟩).run P w = .ok (.value (.map (some w.heap.size))) (w.alloc (.map #[] 0)) := rfl
  unfold Oper.wp
  rw [h, Oper.upon_value]
  exact hK _ _ _ (put_size _ _ _) (s.newMap.put hn)
/-- A store into a map. -/
theorem E.mapUpdate {x y z : Operand} {T T' : TypeId} {p : String} {af : Array Edge} {b : Nat} {es es' : List MapEntry} {k k' : Nat} {vk vv : Value} (hF : F = (SF.map w0.heap.size b es k).sep G) (hx : ev E x = some (.map (some b))) (hy : ev E y = some vk) (hz : ev E z = some vv)
    (hr : ∀ w, w.heap[b]? = some (.map es.toArray k) → (Instr.mapUpdate T (.map (some b)) vk vv).run P w = .ok () (putMap w b es' k')) :
    Eff P E n H F w0 ⟨none, .mapUpdate T x y z, T', p, af, none⟩ (fun _ : Unit => E) (fun _ => H) (fun _ => (SF.map w0.heap.size b es' k').sep G) := fun a w s Q K hK => by
  subst hF
  have h : (execOp a.eval ⟨none, .mapUpdate T x y z, T', p, af, none⟩).run P w = .ok .skip (putMap w b es' k') := by
    show (do Instr.mapUpdate T (a.eval x) (a.eval y) (a.eval z); pure Next.skip).run P w = _
    rw [s.env.eval hx, s.env.eval hy, s.env.eval hz, Sem.run_bind, hr w s.fact.1.1]
    rfl
  unfold Oper.wp
  rw [h, Oper.upon_skip]
  exact hK () _ _ rfl s.putMap
theorem E.delete {x y : Operand} {T T2 T' : TypeId} {p : String} {af : Array Edge} {b : Nat} {es es' : List MapEntry} {k : Nat} {vk : Value} (hF : F = (SF.map w0.heap.size b es k).sep G) (hx : ev E x = some (.map (some b))) (hy : ev E y = some vk)
    (hr : ∀ w, w.heap[b]? = some (.map es.toArray k) → (Builtin.delete_ #[T, T2] T' #[.map (some b), vk]).run P w = .ok (.tuple #[]) (putMap w b es' k)) :
    Eff P E n H F w0 ⟨none, .call { callee := .builtin .delete, args := #[x, y], argTypes := #[T, T2] }, T', p, af, none⟩ (fun _ : Unit => E) (fun _ => H) (fun _ => (SF.map w0.heap.size b es' k).sep G) := fun a w s Q K hK => by
  subst hF
  have h : (execOp a.eval ⟨none, .call { callee := .builtin .delete, args := #[x, y], argTypes := #[T, T2] }, T', p, af, none⟩).run P w = .ok (.value (.tuple #[])) (putMap w b es' k) := by
    simp only [execOp, resolve, invoke, builtin, Sem.run_bind, Sem.run_pure, Result.andThen_ok, List.map_toArray, List.map_cons, List.map_nil, s.env.eval hx, s.env.eval hy, hr w s.fact.1.1]
  unfold Oper.wp
  rw [h, Oper.upon_value]
  exact hK () _ _ rfl s.putMap
/-- A look into a map. -/
theorem Y.lookup {d : Option Nat} {x y : Operand} {T T' : TypeId} {p : String} {af : Array Edge} {b : Nat} {es : List MapEntry} {k : Nat} {vk v : Value} (hx : ev E x = some (.map (some b))) (hy : ev E y = some vk) (hm : ∀ a w, St E n H F w0 a w → w.heap[b]? = some (.map es.toArray k))
    (hr : ∀ w, w.heap[b]? = some (.map es.toArray k) → (Instr.lookup T (.map (some b)) vk false).run P w = .ok v w) : Yv P E n H F w0 ⟨d, .lookup T x y false, T', p, af, none⟩ v := fun a w s => by
  show (do let u ← Instr.lookup T (a.eval x) (a.eval y) false; pure (Next.value u)).run P w = _
  rw [s.env.eval hx, s.env.eval hy, Sem.run_bind, hr w (hm a w s)]
  rfl
/-- append to a row beside other facts. -/
theorem E.appendG {d : Nat} {x y : Operand} {T T' e : TypeId} {p : String} {af : Array Edge} {i : TypeInfo} {z : Value} {size bytes m c k A0 : Nat} {A : Option Addr} {b : Nat} {cs xs : List Value} {T2 : TypeId}
    (hu : P.underlying T = some (.slice e)) (hi : P.info? e = some i) (hz : i.zero = some z) (hsize : i.size = size) (hby : i.bytes = bytes) (hzs : z.cells.size = size) (hsz : 0 < size)
    (hF : F = (SF.own w0.heap.size e size (.slice A k A0) k xs).sep G) (hx : ev E x = some (.slice A k A0)) (hy : ev E y = some (.slice (some ⟨b, 0, none⟩) m c)) (hm : (b, cs, T2) ∈ H) (hl : cs.length = m * size) (h1 : (cs.all Value.oneCell') = true)
    (h63 : k + m ≤ maxLen) (hbytes : (k + m) * bytes ≤ 140737488355328) (hn : Nat.blt d n = true) :
    Eff P E n H F w0 ⟨some d, .call { callee := .builtin .append, args := #[x, y], argTypes := #[T, T] }, T', p, af, none⟩ (fun i : Option Addr × Nat => (d, .slice i.1 (k + m) i.2) :: E) (fun _ => H) (fun i => (SF.own w0.heap.size e size (.slice i.1 (k + m) i.2) (k + m) (xs ++ cs)).sep G) := fun a w s Q K hK => by
  subst hF
  have hown : w.ownsRow w0.heap.size e size (.slice A k A0) k xs := s.fact.1
  obtain ⟨v', w', hrun, h2, h3, _, h5⟩ := run_append_own_at (P := P) w w0.heap.size T T' e i z size bytes hu hi hz hsize hby hzs hsz _ k xs hown ⟨b, 0, none⟩ m c cs hl
    (fun j u hj => by
      have e1 : (⟨b, 0, none⟩ : Addr).add j = ⟨b, j, none⟩ := by unfold Addr.add; split <;> simp_all
      rw [e1, s.hp.cell hm, hj]) (fun u hu => List.all_eq_true.1 h1 u hu) h63 hbytes s.low.size
  obtain ⟨A', c', rfl⟩ := own_val h2
  have hrow : ∀ g, Value.ownBlock (.slice A k A0) = some g → w0.heap.size ≤ g ∧ g < w.heap.size := fun g hg => hown.lt g hg
  have hlow : Below w0.heap.size w0 w' := s.low.grown h3 s.low.size (fun g hg => (hrow g hg).1)
  have hHp : HpOf w0.heap.size H w' := ⟨fun x hx => by
    have hb := s.hp.blk x hx
    refine ⟨?_, hb.2⟩
    rw [h3.block x.1 (s.hp.lt hx) (fun e => s.sep x hx (.inl e.symm))]
    exact hb.1, s.hp.nd⟩
  have hG := G.st w w' s.fact.2.1 fun x hx => h3.block x (G.lt w x s.fact.2.1 hx) (fun e => s.fact.2.2 x e.symm hx)
  have hsep : ∀ x, Value.ownBlock (.slice A' (k + m) c') = some x → x < w.heap.size → Value.ownBlock (.slice A k A0) = some x := fun x hk hlt => by
    rcases h5 with h5 | h5
    · exact h5.symm.trans hk
    · have := h5.symm.trans hk
      simp at this
      omega
  unfold Oper.wp
  have h6 : (execOp a.eval ⟨some d, .call { callee := .builtin .append, args := #[x, y], argTypes := #[T, T] }, T', p, af, none⟩).run P w = .ok (.value (.slice A' (k + m) c')) w' := by
    simp only [execOp, resolve, invoke, builtin, Sem.run_bind, Sem.run_pure, Result.andThen_ok, List.map_toArray, List.map_cons, List.map_nil, s.env.eval hx, s.env.eval hy, hrun]
  rw [h6, Oper.upon_value]
  refine hK (A', c') _ _ (put_size _ _ _) (St.put ⟨s.env, hHp, ⟨h2, hG.1, fun x hx hg => s.fact.2.2 x (hsep x hx (G.lt w x s.fact.2.1 (hG.2 x hg))) (hG.2 x hg)⟩, fun x hx hk => ?_, hlow⟩ hn)
  rcases hk with hk | hk
  · exact s.sep x hx (.inl (hsep _ hk (s.hp.lt hx)))
  · exact s.sep x hx (.inr (hG.2 _ hk))
end
end Go.Proofs.Ytdbcimadjmdffaa
