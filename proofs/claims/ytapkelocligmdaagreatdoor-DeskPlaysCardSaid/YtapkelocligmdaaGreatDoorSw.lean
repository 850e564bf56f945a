/- A strings.Builder of the call's own, in the logic of Sx. No condition. -/
import Derived.Test.YtapkelocligmdaaGreatDoorQ7
import Derived.Test.YtapkelocligmdaaGreatDoorSl
set_option linter.unusedVariables false
set_option linter.unusedSimpArgs false
set_option linter.unusedSectionVars false
set_option maxRecDepth 100000
namespace Go.Proofs.YtapkelocligmdaaGreatDoor
open Go.RowKit
def bys (l : Str) : List Value := Lib.byteCells l
/-- The Builder in block b holds l. -/
def SF.bu (base b : Nat) (l : Str) : SF where
  p w := Lib.IsBuilderF 43 5 base b (bys l) w
  fp w k := k = b ∨ ∃ p v, w.heap[b]? = some (.cells #[p, v] 43 (0, 0)) ∧ v.ownBlock = some k
  lt w k h hk := by
    have h2 : ∃ p, Lib.BuilderAtF 43 5 base b p (bys l) w := h.elim (fun x => ⟨_, x⟩) (fun x => ⟨_, x⟩)
    obtain ⟨p, hB, v, hb, ho, hn⟩ := h2
    rcases hk with rfl | ⟨p', v', hb', hv'⟩
    · exact (Array.getElem?_eq_some_iff.1 hb).1
    · rw [hb] at hb'
      simp at hb'
      rw [← hb'.2] at hv'
      exact (ho.lt k hv').2
  st w w' h k := by
    have key : ∀ p, Lib.BuilderAtF 43 5 base b p (bys l) w → Lib.BuilderAtF 43 5 base b p (bys l) w' := fun p ⟨hB, v, hb, ho, hn⟩ => by
      refine ⟨hB, v, (k b (.inl rfl)).trans hb, ⟨ho.1, ?_⟩, hn⟩
      rcases ho.2 with h2 | ⟨g, cap, cur, fz, hv, h3, h4, h5⟩
      · exact .inl h2
      · refine .inr ⟨g, cap, cur, fz, hv, h3, ?_, h5⟩
        rw [k g (.inr ⟨p, v, hb, by rw [hv]; rfl⟩)]
        exact h4
    refine ⟨h.elim (fun x => .inl (key _ x)) (fun x => .inr (key _ x)), fun j hj => ?_⟩
    rcases hj with rfl | ⟨p, v, hb, hv⟩
    · exact .inl rfl
    · exact .inr ⟨p, v, (k b (.inl rfl)).symm.trans hb, hv⟩
/-- No row of bytes is among what it leans on. -/
def SF.no5 (F : SF) : Prop := ∀ w k, F.p w → F.fp w k → ∃ o, w.heap[k]? = some o ∧ ∀ c fz, o ≠ .cells c 5 fz
theorem no5_top : SF.top.no5 := fun _ _ _ h => h.elim
theorem no5_sep {F G : SF} (h : F.no5) (k : G.no5) : (F.sep G).no5 := fun w b hp hb => hb.elim (h w b hp.1) (k w b hp.2.1)
theorem no5_obj {base b : Nat} {o : Obj} (h : ∀ c fz, o ≠ .cells c 5 fz) : (SF.obj base b o).no5 := fun w k hp hk => by
  have e : k = b := hk
  subst e
  exact ⟨o, hp.2, h⟩
theorem no5_own {base e size n : Nat} {v : Value} {xs : List Value} (h : e ≠ 5) : (SF.own base e size v n xs).no5 := fun w k hp hk => by
  have hk' : v.ownBlock = some k := hk
  have ho : w.ownsRow base e size v n xs := hp
  rcases ho.2 with ⟨hv, _⟩ | ⟨g, cap, cur, hv, h3, h4, _⟩
  · rw [hv] at hk'
    cases hk'
  · rw [hv] at hk'
    obtain rfl := Option.some.inj (show some g = some k from hk')
    refine ⟨_, h4, fun c fz e1 => h ?_⟩
    simp at e1
    exact e1.2.1
section
variable {H : Hp} {F : SF} {u : World}
/-- What is left of a state behind a call that turns the Builder alone. -/
theorem bu_keep {b : Nat} {l l' : Str} {w w' : World} (hw : Wp u H ((SF.bu u.heap.size b l).sep F) w) (hH : ∀ x ∈ H, x.2.2 ≠ 5) (hF : F.no5) (hl : Below u.heap.size w w') (ho : Lib.OthersKept 5 (some b) w w') (hb : Lib.IsBuilderF 43 5 u.heap.size b (bys l') w') :
    Wp u H ((SF.bu u.heap.size b l').sep F) w' := by
  obtain ⟨h1, ⟨hB, hf, hd⟩, hs, hlow⟩ := hw
  have hkeepH : ∀ x ∈ H, w'.heap[x.1]? = some (.cells x.2.1.toArray x.2.2) := fun x hx => by
    refine ho x.1 _ (h1.blk x hx).1 (fun e => ?_) (fun c fz e => ?_)
    · exact hs x hx (.inl (.inl (Option.some.inj e)))
    · simp at e
      exact hH x hx e.2.1
  have hkeepF : ∀ k, F.fp w k → w'.heap[k]? = w.heap[k]? := fun k hk => by
    obtain ⟨o, h2, h3⟩ := hF w k hf hk
    rw [h2]
    exact ho k o h2 (fun e => hd k (.inl (Option.some.inj e)) hk) h3
  have hf' := F.st w w' hf hkeepF
  -- the Builder's row in w' is a row of bytes
  have hrow : ∀ k, (SF.bu u.heap.size b l').fp w' k → k ≠ b → ∃ c fz, w'.heap[k]? = some (.cells c 5 fz) := fun k hk hne => by
    rcases hk with e | ⟨p, v, hpv, hv⟩
    · exact absurd e hne
    · have h2 : ∃ p, Lib.BuilderAtF 43 5 u.heap.size b p (bys l') w' := hb.elim (fun x => ⟨_, x⟩) (fun x => ⟨_, x⟩)
      obtain ⟨p2, _, v2, hb2, ho2, _⟩ := h2
      rw [hb2] at hpv
      simp at hpv
      rw [← hpv.2] at hv
      rcases ho2.2 with ⟨e, _⟩ | ⟨g, cap, cur, fz, e, _, h4, _⟩
      · rw [e] at hv
        cases hv
      · rw [e] at hv
        obtain rfl := Option.some.inj (show some g = some k from hv)
        exact ⟨_, _, h4⟩
  refine ⟨⟨fun x hx => ⟨hkeepH x hx, (h1.blk x hx).2⟩, h1.nd⟩, ⟨hb, hf'.1, fun k hk hkF => ?_⟩, fun x hx hk => ?_, hlow.trans hl⟩
  · by_cases e : k = b
    · exact hd k (.inl e) (hf'.2 k hkF)
    · obtain ⟨c, fz, h2⟩ := hrow k hk e
      obtain ⟨o, h3, h4⟩ := hF w k hf (hf'.2 k hkF)
      rw [hkeepF k (hf'.2 k hkF), h3] at h2
      exact h4 c fz (Option.some.inj h2)
  · rcases hk with hk | hk
    · by_cases e : x.1 = b
      · exact hs x hx (.inl (.inl e))
      · obtain ⟨c, fz, h2⟩ := hrow x.1 hk e
        rw [hkeepH x hx] at h2
        simp at h2
        exact hH x hx h2.2.1
    · exact hs x hx (.inr (hf'.2 _ hk))
theorem w_bwrite (b : Nat) (l s : Str) (w : World) (hw : Wp u H ((SF.bu u.heap.size b l).sep F) w) (hH : ∀ x ∈ H, x.2.2 ≠ 5) (hF : F.no5) (hl : l.length + s.length ≤ 1000000000) :
    Calls Tryz.prog 11 [.pointer (some ⟨b, 0, none⟩), su s].toArray w fun e w' => ∃ i : Unit, e = .returned (.tuple #[.int .i64 s.length, .nilIface]) ∧ Wp u H ((SF.bu u.heap.size b (l ++ s)).sep F) w' :=
  (Tryz.Builder_WriteString_k u.heap.size b (bys l) ⟨s.toArray⟩ w hw.2.1.1 (by rw [su_len]; simp [bys, Lib.byteCells]; omega) hw.2.2.2.size).mono fun e w' ⟨he, hb, h1, h2⟩ => by
    refine ⟨(), he.trans (by rw [su_len]), bu_keep hw hH hF h1 h2 (.inr ?_)⟩
    have e2 : bys l ++ Lib.strCells ⟨s.toArray⟩ = bys (l ++ s) := by simp [bys, Lib.byteCells, Lib.strCells]
    rw [← e2]
    exact hb
theorem w_bstring (b : Nat) (l : Str) (w : World) (hw : Wp u H ((SF.bu u.heap.size b l).sep F) w) (hH : ∀ x ∈ H, x.2.2 ≠ 5) (hF : F.no5) :
    Calls Tryz.prog 14 [.pointer (some ⟨b, 0, none⟩)].toArray w fun e w' => ∃ i : Unit, e = .returned (su l) ∧ Wp u H ((SF.bu u.heap.size b l).sep F) w' :=
  (Tryz.Builder_String_any_k u.heap.size b l w hw.2.1.1 hw.2.2.2.size).mono fun e w' ⟨he, hb, h1, h2⟩ => ⟨(), he, bu_keep hw hH hF h1 h2 hb⟩
end
section
variable [Inhabited DSx] {Q : Exit → Act → World → Prop} {c : Code} {E : Env} {n : Nat} {H : Hp} {F : SF} {u : World}
/-- A Builder as it is declared. -/
theorem WC.toBu {b : Nat} (h : WC Tryz.prog c Q E n H ((SF.bu u.heap.size b []).sep F) u) : WC Tryz.prog c Q E n ((b, [.pointer none, .slice none 0 0], 43) :: H) F u := fun a w s => by
  have hb := s.hp.blk _ (List.Mem.head _)
  have hfpb : ∀ k, (SF.bu u.heap.size b []).fp w k → k = b := fun k hk => by
    rcases hk with e | ⟨p, v, h2, hv⟩
    · exact e
    · rw [hb.1] at h2
      simp at h2
      rw [← h2.2] at hv
      cases hv
  refine h a w ⟨s.env, ⟨fun x hx => s.hp.blk x (List.mem_cons_of_mem _ hx), (List.pairwise_cons.1 s.hp.nd).2⟩, ⟨.inl ⟨hb.2, .slice none 0 0, hb.1, World.ownsRowF_nil w _ _ _, fun e => by cases e⟩, s.fact, fun k hk hf => ?_⟩, fun x hx hk => ?_, s.low⟩
  · have e := hfpb k hk
    subst e
    exact s.sep _ (List.Mem.head _) hf
  · rcases hk with hk | hk
    · exact (List.pairwise_cons.1 s.hp.nd).1 x hx (hfpb _ hk).symm
    · exact s.sep x (List.mem_cons_of_mem _ hx) hk
theorem E.bwrite {args : Array Operand} {ts : Array TypeId} {d : Nat} {T' : TypeId} {p : String} {af : Array Edge} {b : Nat} {G K : SF} (l s : Str) (hF : F = G.sep ((SF.bu u.heap.size b l).sep K)) (hH : ∀ x ∈ H, x.2.2 ≠ 5) (hG : G.no5) (hK : K.no5) (hl : l.length + s.length ≤ 1000000000)
    (hx : evs E args.toList = some [.pointer (some ⟨b, 0, none⟩), su s]) (hd : Nat.blt d n = true) :
    Eff Tryz.prog E n H F u ⟨some d, .call { callee := .value (.func 11), args := args, argTypes := ts }, T', p, af, none⟩ (fun _ : Unit => (d, .tuple #[.int .i64 s.length, .nilIface]) :: E) (fun _ => H) (fun _ => G.sep ((SF.bu u.heap.size b (l ++ s)).sep K)) := by
  subst hF
  exact Proofs.YtapkelocligmdaaGreatDoor.E.callM (fun _ => .tuple #[.int .i64 s.length, .nilIface]) _ _ Tryz.call11 hx (fun w hw => (w_bwrite b l s w (hw.le (SF.sep_rot _ _ _)) hH (no5_sep hG hK) hl).mono fun e w' ⟨i, he, hw'⟩ => ⟨i, he, hw'.le (SF.sep_rot _ _ _)⟩) hd
theorem E.bstring {args : Array Operand} {ts : Array TypeId} {d : Nat} {T' : TypeId} {p : String} {af : Array Edge} {b : Nat} {K : SF} (l : Str) (hF : F = (SF.bu u.heap.size b l).sep K) (hH : ∀ x ∈ H, x.2.2 ≠ 5) (hK : K.no5)
    (hx : evs E args.toList = some [.pointer (some ⟨b, 0, none⟩)]) (hd : Nat.blt d n = true) :
    Eff Tryz.prog E n H F u ⟨some d, .call { callee := .value (.func 14), args := args, argTypes := ts }, T', p, af, none⟩ (fun _ : Unit => (d, su l) :: E) (fun _ => H) (fun _ => (SF.bu u.heap.size b l).sep K) := by
  subst hF
  exact Proofs.YtapkelocligmdaaGreatDoor.E.callM (fun _ => su l) _ _ Tryz.call14 hx (fun w hw => (w_bstring b l w hw hH hK).mono fun e w' ⟨i, he, hw'⟩ => ⟨i, he, hw'⟩) hd
theorem Y.slToM {d : Option Nat} {x y : Operand} {T T' : TypeId} {p : String} {af : Array Edge} {k : IntKind} {l : Str} {i : Nat} {v : Int} (m : Str) (hm : l.take i = m) (hu : Tryz.prog.underlying T = some .string) (hi : i ≤ l.length) (hx : ev E x = some (su l)) (hy : ev E y = some (.int k v)) (hv : v = i) : Yp Tryz.prog E n ⟨d, .slice T x none (some y) none, T', p, af, none⟩ (su m) := by
  subst hm
  exact Y.slToU hu hi hx hy hv
theorem Y.slFromM {d : Option Nat} {x y : Operand} {T T' : TypeId} {p : String} {af : Array Edge} {k : IntKind} {l : Str} {i : Nat} {v : Int} (m : Str) (hm : l.drop i = m) (hu : Tryz.prog.underlying T = some .string) (hi : i ≤ l.length) (hx : ev E x = some (su l)) (hy : ev E y = some (.int k v)) (hv : v = i) : Yp Tryz.prog E n ⟨d, .slice T x (some y) none none, T', p, af, none⟩ (su m) := by
  subst hm
  exact Y.slFromU hu hi hx hy hv
end
end Go.Proofs.YtapkelocligmdaaGreatDoor
