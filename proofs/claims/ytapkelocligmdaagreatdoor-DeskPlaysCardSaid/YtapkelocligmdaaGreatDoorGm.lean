/- Scripts: Play. No condition. -/
import Derived.Test.YtapkelocligmdaaGreatDoorSw
import Derived.Test.YtapkelocligmdaaGreatDoorGe
set_option maxRecDepth 100000
set_option linter.unusedVariables false
set_option linter.unusedSimpArgs false
set_option linter.unusedSectionVars false
set_option maxHeartbeats 4000000
namespace Go.Proofs.YtapkelocligmdaaGreatDoor
open Go.RowKit Go.Joins
theorem sep_3 (A B C X : SF) : (A.sep (B.sep (C.sep X))).le (C.sep (A.sep (B.sep X))) := SF.le_trans (SF.sep_mono (SF.le_refl _) (SF.sep_rot _ _ _)) (SF.sep_rot _ _ _)
theorem sep_3' (A B C X : SF) : (C.sep (A.sep (B.sep X))).le (A.sep (B.sep (C.sep X))) := SF.le_trans (SF.sep_rot _ _ _) (SF.sep_mono (SF.le_refl _) (SF.sep_rot _ _ _))
theorem sep_4 (A B C D X : SF) : (A.sep (B.sep (C.sep (D.sep X)))).le (C.sep (D.sep (A.sep (B.sep X)))) := SF.le_trans (sep_3 A B C _) (SF.sep_mono (SF.le_refl _) (sep_3 A B D X))
theorem last_tail {p r : Str} (h : (p ++ 10 :: r).getLast? = some 10) : r = [] ∨ r.getLast? = some 10 := by
  cases r with
  | nil => exact .inl rfl
  | cons a r => right; simpa using h

theorem w_linesMk (s9 : Str) (w : World) : Calls Tryz.prog 10 [su s9].toArray w fun e w' => ∃ q : Nat, e = .returned (.func (.func 21) #[] #[.pointer (some ⟨q, 0, none⟩)]) ∧ Below w.heap.size w w' ∧ w.heap.size ≤ q ∧ w'.heap[q]? = some (.cells [su s9].toArray 9) := by
 refine enter Tryz.func10 rfl Tryz.ntmps10 rfl SF.top trivial ?_
 refine sR ?_
 refine WL.eff (E.box rfl rfl rfl) rfl (fun b1 => ?_)
 refine pA rfl rfl ?_
 refine nN ?_
 refine sR ?_
 refine pP (Y.makeFn rfl rfl) rfl ?_
 refine pA rfl rfl ?_
 refine nN ?_
 refine WC.ret ?_
 refine dn1 Tryz.results10 rfl (fun a w s => ?_)
 · exact ⟨b1, rfl, s.low, (s.hp.blk _ m0).2, (s.hp.blk _ m0).1⟩

namespace R
theorem w_lines (u : World) (q1 l : Nat) (s9 : Str) (hend : s9 = [] ∨ s9.getLast? = some 10) (hlen : s9.length ≤ 4096) {ι : Type} (Hb : ι → Hp) (Fb : ι → SF) (rel : List Str → ι → Prop)
    (hY : ∀ (d : List Str) (p r2 : Str) (j : ι) (W : World), cutAt 10 s9 = d ++ (p :: cutAt 10 r2) → p.length ≤ 4096 → rel d j → Wp u ((q1, [su r2], 9) :: Hb j) (Fb j) W →
      YieldsAt Tryz.prog l (su (p ++ [10])) W fun e w' => (e = .returned (.bool true) ∧ ∃ k : {k : ι // rel (d ++ [p]) k}, Wp u ((q1, [su r2], 9) :: Hb k.1) (Fb k.1) w') ∨ (e = .returned (.bool false) ∧ ∃ _ : Empty, Wp u [] SF.top w'))
    (i0 : ι) (h0 : rel [] i0) (w : World) (hw : Wp u ((q1, [su s9], 9) :: Hb i0) (Fb i0) w) :
    Calls Tryz.prog 21 [.func (.yield l) #[] #[], .pointer (some ⟨q1, 0, none⟩)].toArray w fun e w' => (∃ v, e = .returned v) ∧ ∃ j d, cutAt 10 s9 = d ++ [[]] ∧ rel d j ∧ Wp u ((q1, [su []], 9) :: Hb j) (Fb j) w' := by
 refine enterR Tryz.func21 rfl Tryz.ntmps21 rfl hw (fun iR hRx => ?_)
 refine WC.block ?_
 refine WC.loop (ι := List Str × Str × ι) (fun k => [(0, .func (.yield l) #[] #[]), (1, .pointer (some ⟨q1, 0, none⟩))]) (fun k => (q1, [su k.2.1], 9) :: Hb k.2.2) (fun k => Fb k.2.2) (fun k => cutAt 10 s9 = k.1 ++ cutAt 10 k.2.1 ∧ (k.2.1 = [] ∨ k.2.1.getLast? = some 10) ∧ k.2.1.length ≤ 4096 ∧ rel k.1 k.2.2) (fun k => k.2.1.length) ([], s9, i0) ⟨rfl, hend, hlen, h0⟩ (fun a w s => s.weak (by repeat (first | exact sub_nil _ | refine sub_cons rfl ?_))) (fun k hk => ?_)
 obtain ⟨d, r, j⟩ := k
 obtain ⟨hcut, hend1, hrl, hrel⟩ := hk
 dsimp only at hcut hend1 hrl hrel ⊢
 refine WC.seq ?_
 refine sR ?_
 refine pV (Y.load (v := su r) fl_9 rfl m0 rfl) rfl ?_
 refine pP (Y.lenU und9 rfl) rfl ?_
 refine pP (Y.gtr rfl rfl) rfl ?_
 refine nN ?_
 refine WC.cond rfl (fun h7 => ?_) (fun h7 => ?_)
 refine WC.skip' ?_
 refine WQ.next ?_
 refine WC.block ?_
 refine WC.seq ?_
 have hr0 : r ≠ [] := by intro e; subst e; have hh := h7; simp at hh
 have hl10 : r.getLast? = some 10 := hend1.resolve_left hr0
 obtain ⟨p, r2, hpr, hp⟩ : ∃ p r2, r = p ++ 10 :: r2 ∧ ∀ x ∈ p, x ≠ 10 := by
   rcases cut_or 10 r with h | h
   · exact absurd rfl (h 10 (List.mem_of_getLast? hl10))
   · exact h
 have hpl : p.length + 1 ≤ r.length := by rw [hpr]; simp
 have htk : r.take (p.length + 1) = p ++ [10] := by rw [hpr, show p ++ 10 :: r2 = (p ++ [10]) ++ r2 from by simp]; exact List.take_left' (by simp)
 have hdr : r.drop (p.length + 1) = r2 := by rw [hpr, show p ++ 10 :: r2 = (p ++ [10]) ++ r2 from by simp]; exact List.drop_left' (by simp)
 refine WC.region ?_
 refine pA rfl rfl ?_
 refine nN ?_
 refine WC.seq ?_
 refine sR ?_
 refine pV (Y.load (v := su r) fl_9 rfl m0 rfl) rfl ?_
 refine WL.eff (E.call Tryz.call22 rfl (fun _ w s => l_index r p r2 hpr hp w) rfl) rfl (fun _ => ?_)
 refine pA rfl rfl ?_
 refine nN ?_
 refine sR ?_
 refine pM rfl rfl ?_
 refine pP (Y.geq rfl rfl) rfl ?_
 refine nN ?_
 refine WC.isT rfl (by rw [decide_eq_true_eq]; omega) ?_
 refine WC.drop [3] ?_
 refine WC.draw [(0, .q true), (1, .q false), (2, .q false), (3, .q false), (4, .q true), (5, .q false), (6, .q false), (7, .q false), (8, .q false), (9, .s true)] mixed (by kernel_rfl) ?_
 refine dV (Y.load (v := su r) fl_9 rfl m0 rfl) rfl rfl ?_
 refine dP (Y.move rfl) rfl rfl ?_
 refine dP (Y.add rfl rfl (i64_in (by omega) (by omega))) rfl rfl ?_
 refine dP (Y.slToM (i := p.length + 1) (p ++ [10]) htk und9 hpl rfl rfl rfl) rfl rfl ?_
 refine dV (Y.load (v := su r) fl_9 rfl m0 rfl) rfl rfl ?_
 refine dP (Y.move rfl) rfl rfl ?_
 refine dP (Y.add rfl rfl (i64_in (by omega) (by omega))) rfl rfl ?_
 refine dP (Y.slFromM (i := p.length + 1) r2 hdr und9 hpl rfl rfl rfl) rfl rfl ?_
 refine dP (Y.assign rfl) rfl rfl ?_
 refine WDm.spec (WS.free rfl (E.store Tryz.sizeOf9 rfl rfl rfl rfl rfl u0 rfl rfl)) (fun _ => sub_refl _) (fun _ => ?_)
 refine WDm.nil (WQ.and ?_)
 refine WQ.next ?_
 refine sR ?_
 refine pM rfl rfl ?_
 refine pM rfl rfl ?_
 refine WL.effI (E.yield (ι := {p9 : ι // rel (d ++ [p]) p9}) (κ := Empty) (fun p9 => (q1, [su r2], 9) :: Hb p9.1) (fun p9 => Fb p9.1) (fun _ => []) (fun _ => SF.top) rfl rfl rfl (fun W hW => hY d p r2 j W (by rw [hcut, hpr, cut_yes 10 p r2 hp]) (by omega) hrel hW)) rfl (fun y9 => ?_)
 obtain ⟨p9, rfl⟩ : ∃ p9, y9 = .inl p9 := by
   cases y9 with
   | inl p => exact ⟨p, rfl⟩
   | inr k => exact k.elim
 try dsimp only
 refine pP (Y.not rfl) rfl ?_
 refine nN ?_
 refine WC.isF rfl (rfl) ?_
 refine WC.skip' ?_
 refine WQ.blockEnd ?_
 · refine fun a w s => ⟨(d ++ [p], r2, p9.1), ⟨by rw [hcut, hpr, cut_yes 10 p r2 hp, List.append_assoc]; rfl, last_tail (by rw [← hpr]; exact hl10), by show r2.length ≤ 4096; rw [hpr] at hrl; simp at hrl; omega, p9.2⟩, by show r2.length < r.length; rw [hpr]; simp; omega, ?_⟩
   exact s.weak (by repeat (first | exact sub_nil _ | refine sub_cons rfl ?_))
 refine WC.exit ?_
 refine WQ.thenExit ?_
 refine WQ.thenExit ?_
 refine WQ.blockExit ?_
 have hr0 : r = [] := by have hh := h7; simp at hh; exact hh
 subst hr0
 exact doneM0 (.inr rfl) rfl (rs := []) (vs := []) Tryz.results21 RVs.nil (fun w s => ⟨⟨_, rfl⟩, j, d, hcut, hrel, s⟩)
end R

theorem w_play (s9 : Str) (w : World) (hl9 : s9.length ≤ 281474976710656) (hg : Gl w) : Ret Tryz.prog 4 [su s9] w (.tuple #[su (playOf s9).1, .int .i64 (playOf s9).2]) := by
 refine enterM Tryz.func4 rfl Tryz.ntmps4 rfl (Wp.start w) ?_
 refine sR ?_
 refine pA rfl rfl ?_
 refine pA rfl rfl ?_
 refine nN ?_
 refine WC.seq ?_
 refine WC.cut1 [(14, .bool (decide (4096 < s9.length ∨ 60 < cnt10 s9))), (0, su s9)] [] SF.top ?_ ?_
 refine WC.region ?_
 refine pM rfl rfl ?_
 refine pP (Y.lenU und9 rfl) rfl ?_
 refine pP (Y.gtr rfl rfl) rfl ?_
 refine pM rfl rfl ?_
 refine WL.split (t := 10) rfl (fun r h10 => ?_)
 cases r
 refine gT rfl ?_
 refine pM rfl rfl ?_
 refine gT rfl ?_
 refine WL.eff (E.call Tryz.call7 rfl (fun _ w s => l_count s9 w) rfl) rfl (fun _ => ?_)
 refine gT rfl ?_
 refine pP (Y.gtr rfl rfl) rfl ?_
 refine pP (Y.pickF rfl rfl) rfl ?_
 refine WL.nil ?_
 · exact fun a w s => ⟨rfl, s.weak (sub_cons (eqb (by have hh := h10; simp at hh; rw [Bool.eq_iff_iff]; simp; omega)) (by repeat (first | exact sub_nil _ | refine sub_cons rfl ?_)))⟩
 refine gF rfl ?_
 refine gF rfl ?_
 refine gF rfl ?_
 refine pP (Y.pickT rfl rfl) rfl ?_
 refine WL.nil ?_
 · exact fun a w s => ⟨rfl, s.weak (sub_cons (eqb (by have hh := h10; simp at hh; rw [Bool.eq_iff_iff]; simp; omega)) (by repeat (first | exact sub_nil _ | refine sub_cons rfl ?_)))⟩
 refine WC.cond rfl (fun h14 => ?_) (fun h14 => ?_)
 refine WC.seq ?_
 have hE9 : playOf s9 = ([], 2) := by unfold playOf; rw [if_pos (of_decide_eq_true h14)]
 refine WC.region ?_
 refine pA rfl rfl ?_
 refine pA rfl rfl ?_
 refine nN ?_
 refine WC.ret ?_
 refine WQ.thenRet ?_
 refine doneM0 (.inl rfl) rfl (rs := [.tmp 2, .tmp 3]) (vs := [su [], .int .i64 2]) Tryz.results4 (RVs.cons (RV.tmp rfl) (RVs.cons (RV.tmp rfl) RVs.nil)) (fun w2 s => ⟨?_, s.2.2.2⟩)
 rw [hE9]
 rfl
 refine WC.skip' ?_
 refine WQ.next ?_
 refine WC.seq ?_
 have hfew := of_decide_eq_false h14
 have hlen : s9.length ≤ 4096 := by omega
 refine WC.cut1 [(21, .bool (decide (s9 ≠ [] ∧ s9.getLast? ≠ some 10))), (0, su s9)] [] SF.top ?_ ?_
 refine WC.region ?_
 refine pM rfl rfl ?_
 refine pP (Y.neqU (a := s9) (b := []) rfl rfl rfl) rfl ?_
 refine pM rfl rfl ?_
 refine WL.split (t := 17) rfl (fun r h17 => ?_)
 cases r
 refine gF rfl ?_
 refine gF rfl ?_
 refine gF rfl ?_
 refine pP (Y.pickF rfl rfl) rfl ?_
 refine WL.nil ?_
 · exact fun a w s => ⟨rfl, s.weak (sub_cons (eqb (by have hh := h17; simp at hh; simp [hh])) (by repeat (first | exact sub_nil _ | refine sub_cons rfl ?_)))⟩
 refine gT rfl ?_
 refine pM rfl rfl ?_
 refine gT rfl ?_
 refine WL.eff (E.call Tryz.call8 rfl (fun _ w s => l_suffix s9 w (by omega)) rfl) rfl (fun _ => ?_)
 refine gT rfl ?_
 refine pP (Y.not rfl) rfl ?_
 refine pP (Y.pickT rfl rfl) rfl ?_
 refine WL.nil ?_
 · exact fun a w s => ⟨rfl, s.weak (sub_cons (eqb (by have hh := h17; simp at hh; simp [hh])) (by repeat (first | exact sub_nil _ | refine sub_cons rfl ?_)))⟩
 refine WC.cond rfl (fun h21 => ?_) (fun h21 => ?_)
 refine WC.seq ?_
 have hE9 : playOf s9 = ([], 1) := by unfold playOf; rw [if_neg hfew, if_pos (of_decide_eq_true h21)]
 refine WC.region ?_
 refine pA rfl rfl ?_
 refine pA rfl rfl ?_
 refine nN ?_
 refine WC.ret ?_
 refine WQ.thenRet ?_
 refine doneM0 (.inl rfl) rfl (rs := [.tmp 2, .tmp 3]) (vs := [su [], .int .i64 1]) Tryz.results4 (RVs.cons (RV.tmp rfl) (RVs.cons (RV.tmp rfl) RVs.nil)) (fun w2 s => ⟨?_, s.2.2.2⟩)
 rw [hE9]
 rfl
 refine WC.skip' ?_
 refine WQ.next ?_
 refine WC.seq ?_
 have hne9 := of_decide_eq_false h21
 have hE9 : playOf s9 = ((playGo (linesOf s9) Wd.zero []).2, 0) := by unfold playOf; rw [if_neg hfew, if_neg hne9]
 have hend : s9 = [] ∨ s9.getLast? = some 10 := by
   by_cases h : s9 = []
   · exact .inl h
   · exact .inr (Classical.byContradiction fun k => hne9 ⟨h, k⟩)
 refine WC.region ?_
 refine WL.eff (E.call Tryz.call9 rfl (fun _ w s => w_begin w) rfl) rfl (fun _ => ?_)
 refine pP (Y.build rfl (bf_39_0 _ _ _ _ _ _ _ _ _ _ _ _ _ _ _ _)) rfl ?_
 refine WL.eff (E.box rfl rfl rfl) rfl (fun b1 => ?_)
 refine WL.eff (E.alloc Tryz.zeroValue29 rfl rfl) rfl (fun b2 => ?_)
 refine WL.eff (E.store Tryz.sizeOf29 rfl rfl rfl rfl rfl u0 rfl rfl) rfl (fun _ => ?_)
 refine nN ?_
 refine sR ?_
 refine WL.eff (E.alloc Tryz.zeroValue43 rfl rfl) rfl (fun b3 => ?_)
 refine nN ?_
 refine WC.seq ?_
 refine WC.seq ?_
 refine WC.toBu ?_
 refine WC.le (nil_sep w.heap.size 101 8 _) ?_
 refine WC.region ?_
 refine pM rfl rfl ?_
 refine WL.eff (E.callB (fun q : Nat => .func (.func 21) #[] #[.pointer (some ⟨q, 0, none⟩)]) (fun q => (q, [su s9], 9)) Tryz.call10 rfl (fun _ w s => w_linesMk s9 w) rfl) rfl (fun q => ?_)
 refine nN ?_
 refine WC.block ?_
 refine WC.rangeFuncC (ι := {p : ((Wd × Str) × Option Addr × Nat) // playGo (linesOf s9) Wd.zero [] = p.1}) (κ := Empty) (fun p => [(q, [su []], 9), (b2, [.pointer (some ⟨b1, 0, none⟩)], 29), (b1, p.1.1.1.cl p.1.2.1 p.1.2.2, 39)]) (fun p => (ROW w p.1.1.1 p.1.2.1 p.1.2.2).sep ((SF.bu w.heap.size b3 p.1.1.2).sep SF.top)) (fun _ => []) (fun _ => SF.top) rfl Tryz.call21 (fun cA cB hcA hcB fn tmps D W hE hn hW => ?_) ?_ (fun _ _ _ k => k.elim)
 · have hW1 := hW.le (sep_4 _ _ _ _ _)
   refine (R.w_lines w q (D + 1) s9 hend hlen (fun p : ((Wd × Str) × Option Addr × Nat) => [(b2, [.pointer (some ⟨b1, 0, none⟩)], 29), (b1, p.1.1.cl p.2.1 p.2.2, 39)]) (fun p => (ROW w p.1.1 p.2.1 p.2.2).sep ((SF.bu w.heap.size b3 p.1.2).sep ((SF.obj w.heap.size (D + 1) (.loop (recO .ready none fn tmps #[27] cA cB D))).sep ((SF.obj w.heap.size D (.deferred (some []))).sep SF.top)))) (fun d (p : ((Wd × Str) × Option Addr × Nat)) => playGo d Wd.zero [] = p.1 ∧ worldErr p.1.1 = 0 ∧ p.1.2.length ≤ 910 * d.length ∧ d.length ≤ 4096) (fun d p r2 j W' hcut hpl hrel hW' => ?_) ((Wd.zero, []), none, 0) ⟨rfl, zero_right, Nat.le_refl _, Nat.zero_le _⟩ W hW1).mono fun e w' hh => ?_
   rotate_left
   · obtain ⟨he, j, d, hcut, hrel, hw'⟩ := hh
     exact ⟨he, .inl ⟨⟨j, by unfold linesOf; rw [hcut, List.dropLast_concat]; exact hrel.1⟩, hw'.le (sep_4 _ _ _ _ _)⟩⟩
   obtain ⟨⟨x, o⟩, A1, c1⟩ := j
   obtain ⟨hpg, hwd, hol, hdl⟩ := hrel
   dsimp only at hpg hwd hol hdl hW' ⊢
   have hsl := step_len hwd p
   have hcl := cutAt_len 10 s9
   rw [hcut] at hcl
   have hc2 := cut_pos 10 r2
   simp only [List.length_append, List.length_cons] at hcl
   subst hcA hcB
   refine round_at 6 (hW'.le (sep_3 _ _ _ _)) hE hn rfl (fun i0 iR hd => ?_) (fun i0 iR hd => ?_)
   · refine R.WC.region ?_
     refine R.pA rfl rfl ?_
     refine R.WL.nil ?_
     exact fun a w s => ⟨rfl, s⟩
   refine R.WC.block ?_
   refine R.WC.le (sep_3' _ _ _ _) ?_
   refine R.WC.sub (Hsub.of_perm (List.reverse_perm [(q, [su r2], 9), (b2, [.pointer (some ⟨b1, 0, none⟩)], 29), (b1, x.cl A1 c1, 39)])) ?_
   refine R.WC.draw [(0, .q true), (1, .q false), (2, .q true), (3, .s true), (4, .q false), (5, .s true)] mixed (by kernel_rfl) ?_
   refine R.dV (Y.load (v := .pointer (some ⟨b1, 0, none⟩)) fl_29 rfl (List.Mem.tail _ (List.Mem.head _)) rfl) rfl rfl ?_
   refine R.dP (Y.move rfl) rfl rfl ?_
   refine R.WDm.quiet (QS.call Tryz.call13 rfl (fun _ w s => l_trim (p ++ [10]) p rfl w (by simp; omega))) rfl rfl rfl ?_
   refine R.WDm.spec (R.WS.free rfl (E.callM (fun _ : Option Addr × Nat => su (stepS x p)) _ _ Tryz.call12 rfl (fun W hW => w_line w [(b2, [.pointer (some ⟨b1, 0, none⟩)], 29), (q, [su r2], 9)] _ b1 x A1 c1 p W hW hwd hg hpl) rfl)) (fun _ => sub_push rfl) (fun z => ?_)
   refine R.dP (Y.addU (b := [10]) (by simp; omega) rfl rfl rfl rfl) rfl rfl ?_
   refine R.WDm.spec (R.WS.free rfl (E.bwrite o (stepS x p ++ [10]) rfl (by simp) (no5_own (by decide)) (no5_sep (no5_obj (fun _ _ e => by cases e)) (no5_sep (no5_obj (fun _ _ e => by cases e)) no5_top)) (by simp; omega) rfl rfl)) (fun _ => sub_push rfl) (fun _ => ?_)
   refine R.WDm.nil (WQ.and ?_)
   refine WQ.blockEnd ?_
   refine WQ.le (sep_3 _ _ _ _) ?_
   refine WQ.again fun W2 hW2 => .inl ⟨rfl, ⟨((stepW x p, o ++ (stepS x p ++ [10])), z.1, z.2), play_step hpg p, step_right hwd p, by simp; omega, by simp; omega⟩, ?_⟩
   exact (hW2.le (sep_3' _ _ _ _)).sub (Hsub.of_perm (List.reverse_perm [(b1, (stepW x p).cl z.1 z.2, 39), (b2, [.pointer (some ⟨b1, 0, none⟩)], 29), (q, [su r2], 9)]))
 rintro D i2 hd2 ⟨⟨⟨x, o⟩, A1, c1⟩, hfin⟩
 dsimp only at hfin ⊢
 refine WQ.blockEnd ?_
 refine WQ.next ?_
 refine WC.seq ?_
 refine WC.le (sep_3 _ _ _ _) ?_
 refine WC.region ?_
 refine WL.eff (E.bstring o rfl (by simp) (no5_sep (no5_obj (fun _ _ e => by cases e)) (no5_sep (no5_own (by decide)) no5_top)) rfl rfl) rfl (fun _ => ?_)
 refine pA rfl rfl ?_
 refine pA rfl rfl ?_
 refine nN ?_
 refine WC.ret ?_
 refine WQ.le (SF.sep_rot _ _ _) ?_
 refine doneM1 (.inl rfl) hd2 (rs := [.tmp 2, .tmp 3]) (vs := [su o, .int .i64 0]) Tryz.results4 (RVs.cons (RV.tmp rfl) (RVs.cons (RV.tmp rfl) RVs.nil)) (fun w2 s => ⟨?_, s.2.2.2⟩)
 rw [hE9, hfin]
 rfl
end Go.Proofs.YtapkelocligmdaaGreatDoor
