/- Scan: what ranges over the Txns of some states. No condition. -/
import Derived.Test.YtdbcimadjmdffaaCb
import Derived.Test.YtdbcimadjmdffaaSl
set_option maxRecDepth 100000
set_option linter.unusedVariables false
set_option linter.unusedSimpArgs false
set_option linter.unusedSectionVars false
set_option maxHeartbeats 4000000
namespace Go.Proofs.Ytdbcimadjmdffaa
open Go.RowKit Go.Joins
/-- The first m Txns of whom f holds. -/
def tos : Nat → List Int
  | 0 => []
  | m + 1 => tos m ++ [(m : Int) + 1]
def selT (f : Int → Bool) (m : Nat) : List Int := (tos m).filter f
theorem selT_in {f : Int → Bool} {m : Nat} (h : f ((m : Int) + 1) = true) : selT f (m + 1) = selT f m ++ [(m : Int) + 1] := by unfold selT; rw [tos, List.filter_append]; simp [h]
theorem selT_out {f : Int → Bool} {m : Nat} (h : f ((m : Int) + 1) = false) : selT f (m + 1) = selT f m := by unfold selT; rw [tos, List.filter_append]; simp [h]
theorem selT_len (f : Int → Bool) : ∀ m, (selT f m).length ≤ m
  | 0 => Nat.le_refl _
  | m + 1 => by
    have ih := selT_len f m
    cases hf : f ((m : Int) + 1)
    · rw [selT_out hf]; omega
    · rw [selT_in hf]; simp; omega
theorem Hsub.left (K X : Hp) : Hsub K (K ++ X) := Hsub.of_sub (List.sublist_append_left K X)
section
variable [Inhabited DSx] {P : Program} {E : Env} {n : Nat} {H : Hp} {F : SF} {w0 : World}
theorem E.val {o : Oper} {d : Nat} {v : Value} (hy : Yv P E n H F w0 o v) (hd : o.dst = some d) (hn : Nat.blt d n = true) : Eff P E n H F w0 o (fun _ : Unit => (d, v) :: E) (fun _ => H) (fun _ => F) := fun a w s Q K hK => by
  unfold Oper.wp
  rw [hy a w s, Oper.upon_value, hd]
  exact hK () _ _ (put_size _ _ _) (s.put hn)
end
/-- The boxes that the function that Those hands back has captured. -/
def thK (q1 g q2 b0 k : Nat) (ss : List Int) : Hp := [(q1, [.slice (some ⟨g, 0, none⟩) ss.length k], 64), (g, ints ss, 3), (q2, [.pointer (some ⟨b0, 0, none⟩)], 105)]

namespace R
theorem w_those (u : World) (h : List R) (hR : Right h) (ss : List Int) (hss : ss.length ≤ 60) (q1 g q2 b0 kc l : Nat) {ι κ : Type} (Hb : ι → Hp) (Fb : ι → SF) (rel : Nat → ι → Prop) (Hx : κ → Hp) (Fx : κ → SF) (relx : Nat → κ → Prop)
    (hskip : ∀ (m : Nat) (i : ι), ss.contains (stt h ((m : Int) + 1) : Int) = false → rel m i → rel (m + 1) i)
    (hY : ∀ (m : Nat) (i : ι) (B : Bk) (W : World), BOk B h → B.bk = b0 → m < 9 → ss.contains (stt h ((m : Int) + 1) : Int) = true → rel m i → Wp u (thK q1 g q2 b0 kc ss ++ (B.hp ++ Hb i)) ((SF.bk u.heap.size B).sep (Fb i)) W →
      YieldsAt Try.prog l (.int .i64 ((m : Int) + 1)) W fun e w' => (e = .returned (.bool true) ∧ ∃ p : {p : ι × Bk // BOk p.2 h ∧ p.2.bk = b0 ∧ rel (m + 1) p.1}, Wp u (thK q1 g q2 b0 kc ss ++ (p.1.2.hp ++ Hb p.1.1)) ((SF.bk u.heap.size p.1.2).sep (Fb p.1.1)) w') ∨
        (e = .returned (.bool false) ∧ ∃ k : {k : κ // relx m k}, Wp u (thK q1 g q2 b0 kc ss ++ Hx k.1) (Fx k.1) w'))
    (B0 : Bk) (hB0 : BOk B0 h) (hb0 : B0.bk = b0) (i0 : ι) (h0 : rel 0 i0) (w : World) (hw : Wp u (thK q1 g q2 b0 kc ss ++ (B0.hp ++ Hb i0)) ((SF.bk u.heap.size B0).sep (Fb i0)) w) :
    Calls Try.prog 163 [.func (.yield l) #[] #[], .pointer (some ⟨q1, 0, none⟩), .pointer (some ⟨q2, 0, none⟩)].toArray w fun e w' => (∃ v, e = .returned v) ∧
      ((∃ i B, (BOk B h ∧ B.bk = b0 ∧ rel 9 i) ∧ Wp u (thK q1 g q2 b0 kc ss ++ (B.hp ++ Hb i)) ((SF.bk u.heap.size B).sep (Fb i)) w') ∨ (∃ k m, relx m k ∧ Wp u (thK q1 g q2 b0 kc ss ++ Hx k) (Fx k) w')) := by
 refine enterR Try.func163 rfl Try.ntmps163 rfl hw (fun iR hRx => ?_)
 refine sR ?_
 refine pA rfl rfl ?_
 refine nN ?_
 refine WC.block ?_
 refine WC.loop (ι := Nat × Bk × ι) (fun k => [(0, .func (.yield l) #[] #[]), (1, .pointer (some ⟨q1, 0, none⟩)), (2, .pointer (some ⟨q2, 0, none⟩)), (4, .int .i64 ((k.1 : Int) + 1))]) (fun k => (thK q1 g q2 b0 kc ss ++ (k.2.1.hp ++ Hb k.2.2))) (fun k => (SF.bk u.heap.size k.2.1).sep (Fb k.2.2)) (fun k => k.1 ≤ 9 ∧ BOk k.2.1 h ∧ k.2.1.bk = b0 ∧ rel k.1 k.2.2) (fun k => 10 - k.1) (0, B0, i0) ⟨Nat.zero_le _, hB0, hb0, h0⟩ (fun a w s => s.weak (by repeat (first | exact sub_nil _ | refine sub_cons rfl ?_))) (fun k hk => ?_)
 obtain ⟨m, B9, i9⟩ := k
 obtain ⟨hm, hB9, hb9, hrel⟩ := hk
 dsimp only at hm hB9 hb9 hrel ⊢
 refine WC.seq ?_
 refine sR ?_
 refine pM rfl rfl ?_
 refine pP (Y.leq rfl rfl) rfl ?_
 refine nN ?_
 refine WC.cond rfl (fun h6 => ?_) (fun h6 => ?_)
 refine WC.skip' ?_
 refine WQ.next ?_
 refine WC.seq ?_
 refine WC.block ?_
 refine WC.seq ?_
 have hm8 : m < 9 := by simp at h6; omega
 have ep9 : B9.ptr = .pointer (some ⟨b0, 0, none⟩) := by unfold Bk.ptr; rw [hb9]
 refine WC.drawm (some (thK q1 g q2 b0 kc ss)) [(0, .q true), (1, .q true), (2, .q false), (3, .s false), (4, .q false), (5, .q false), (6, .s false), (7, .q true), (8, .q false), (9, .q false), (10, .q false), (11, .s true), (12, .q false), (13, .q false)] (fun _ h => h.toK (Hsub.left _ _)) mixed (by kernel_rfl) ?_
 refine dV (Y.load (cs := [.slice (some ⟨g, 0, none⟩) ss.length kc]) (v := .slice (some ⟨g, 0, none⟩) ss.length kc) fl_64 rfl m0 rfl) rfl rfl ?_
 refine dV (Y.load (cs := [.pointer (some ⟨b0, 0, none⟩)]) (v := .pointer (some ⟨b0, 0, none⟩)) fl_105 rfl m2 rfl) rfl rfl ?_
 refine dP (Y.move rfl) rfl rfl ?_
 refine WDm.spec (WS.free rfl (E.of (thK q1 g q2 b0 kc ss) (B := B9) rfl rfl rfl (by rw [ep9]; rfl) rfl)) (fun _ => ext_K rfl (Hsub.left _ _)) (fun i => ?_) (fun _ _ h => h.toK (Hsub.left _ _))
 obtain ⟨⟨B1, x9, K9⟩, hOf, hK9⟩ := i
 obtain ⟨hB1, hst, hla, hup⟩ := hB9.of hOf
 obtain ⟨el, eA, ec, epg, ebk, _⟩ := of_l hOf
 dsimp only at hOf hK9 hB1 hst hla hup el eA ec epg ebk ⊢
 have hb1 : B1.bk = b0 := ebk.trans hb9
 have est : x9.st = (stt h ((m : Int) + 1) : Int) := hst.trans (hR.st _)
 refine dP (Y.nilCheck rfl) rfl rfl ?_
 refine dP (Y.fieldAddr fa_117_0 rfl) rfl rfl ?_
 refine WDm.spec (WS.free rfl (E.val (Y.load (v := .int .i64 x9.st) fl_3 rfl (cs := x9.blkc.2.1) (List.mem_append_right (thK q1 g q2 b0 kc ss) (List.Mem.head _)) rfl) rfl rfl)) (fun _ => ext_K rfl (Hsub.left _ _)) (fun _ => ?_) (fun _ _ h => h.toK (Hsub.left _ _))
 rw [est]
 refine WDm.quiet (QS.call Try.call135 rfl (fun _ w s => w_containsI ss (some ⟨g, 0, none⟩) g kc _ w hss (IL.ofH ss s m1 rfl))) rfl rfl rfl ?_
 refine dP (Y.move rfl) rfl rfl ?_
 refine WDm.split (t := 17) rfl (fun r h17 => ?_)
 cases r
 refine dF rfl rfl ?_
 refine dF rfl rfl ?_
 refine WDm.skip (off_F rfl rfl rfl rfl) rfl rfl rfl ?_
 refine dF rfl rfl ?_
 refine dP (Y.pickF rfl rfl) rfl rfl ?_
 refine WDm.nil (WQ.and ?_)
 refine WQ.next ?_
 refine WC.condF rfl ?_
 refine WC.skip' ?_
 refine WQ.blockEnd ?_
 refine WQ.next ?_
 refine WC.region ?_
 refine pM rfl rfl ?_
 refine pP (Y.add rfl rfl (i64_in (by omega) (by omega))) rfl ?_
 refine pA rfl rfl ?_
 refine WL.nil ?_
 · have hf : ((fun t => ss.contains (stt h t : Int)) ((m : Int) + 1)) = false := h17
   refine fun a w s => ⟨(m + 1, B1, i9), ⟨by simp; omega, hB1, hb1, hskip m i9 hf hrel⟩, by simp; omega, ?_⟩
   refine (s.sub (foc_unn hK9 (thK q1 g q2 b0 kc ss) _)).weak (by repeat (first | exact sub_nil _ | refine sub_cons rfl ?_))
 refine dPg rfl (Y.move rfl) rfl rfl rfl ?_
 refine dPg rfl (Y.move rfl) rfl rfl rfl ?_
 refine WDm.spec (WS.guardTI rfl rfl rfl (E.yield (ι := {p : ι × Bk // BOk p.2 h ∧ p.2.bk = b0 ∧ rel (m + 1) p.1}) (κ := {k : κ // relx m k}) (fun p => thK q1 g q2 b0 kc ss ++ (p.1.2.hp ++ Hb p.1.1)) (fun p => (SF.bk u.heap.size p.1.2).sep (Fb p.1.1)) (fun k => thK q1 g q2 b0 kc ss ++ Hx k.1) (fun k => Fx k.1) rfl rfl rfl (fun W hW => hY m i9 B1 W hB1 hb1 hm8 h17 hrel (hW.sub (foc_unn hK9 (thK q1 g q2 b0 kc ss) _))))) (fun _ => sub_push rfl) (fun y => ?_) (fun y _ h => by cases y <;> exact h.toK (Hsub.left _ _))
 refine dPg rfl (Y.not rfl) rfl rfl rfl ?_
 refine dP (Y.pickT rfl rfl) rfl rfl ?_
 refine WDm.nil (WQ.and ?_)
 refine WQ.next ?_
 refine WC.cond rfl (fun h22 => ?_) (fun h22 => ?_)
 refine WC.ret ?_
 refine WQ.blockRet ?_
 refine WQ.thenRet ?_
 refine WQ.thenRet ?_
 refine WQ.blockRet ?_
 obtain p | k := y
 · simp at h22
 · exact doneM0 (.inl rfl) rfl (rs := []) (vs := []) Try.results163 RVs.nil (fun w s => ⟨⟨_, rfl⟩, .inr ⟨k.1, _, k.2, s⟩⟩)
 refine WC.skip' ?_
 refine WQ.blockEnd ?_
 refine WQ.next ?_
 refine WC.region ?_
 refine pM rfl rfl ?_
 refine pP (Y.add rfl rfl (i64_in (by omega) (by omega))) rfl ?_
 refine pA rfl rfl ?_
 refine WL.nil ?_
 · have hf : ((fun t => ss.contains (stt h t : Int)) ((m : Int) + 1)) = true := h17
   obtain p | k := y
   · refine fun a w s => ⟨(m + 1, p.1.2, p.1.1), ⟨by simp; omega, p.2.1, p.2.2.1, p.2.2.2⟩, by simp; omega, ?_⟩
     exact s.weak (by repeat (first | exact sub_nil _ | refine sub_cons rfl ?_))
   · simp at h22
 refine WC.exit ?_
 refine WQ.thenExit ?_
 refine WQ.thenExit ?_
 refine WQ.blockExit ?_
 have hm9 : m = 9 := by simp at h6; omega
 subst hm9
 exact doneM0 (.inr rfl) rfl (rs := []) (vs := []) Try.results163 RVs.nil (fun w s => ⟨⟨_, rfl⟩, .inl ⟨i9, B9, ⟨hB9, hb9, hrel⟩, s⟩⟩)
end R
end Go.Proofs.Ytdbcimadjmdffaa
