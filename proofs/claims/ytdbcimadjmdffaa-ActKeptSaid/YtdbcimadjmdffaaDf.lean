/- The law ActKept. No condition. -/
import Derived.Test.YtdbcimadjmdffaaDc
import Derived.Test.YtdbcimadjmdffaaAo
set_option maxRecDepth 100000
set_option linter.unusedVariables false
set_option linter.unusedSimpArgs false
set_option linter.unusedSectionVars false
set_option maxHeartbeats 4000000
namespace Go.Proofs.Ytdbcimadjmdffaa
open Go.RowKit Go.Joins
def C9.row3 (c : C9) (i : Int) : List Value := [.int .i64 (c.at i 0), .int .i64 (c.at i 1), .int .i64 (c.at i 2)]
theorem c9_row3 (c : C9) (i : Int) (hi : 0 ≤ i ∧ i ≤ 2) : seg c.cl (0 + i.toNat * 3) 3 = some (c.row3 i) := by
  have h1 : i = 0 ∨ i = 1 ∨ i = 2 := by omega
  rcases h1 with rfl | rfl | rfl <;> rfl
def sameRow (p : P3) (c : C9) (i : Int) : Bool := (p.get i).c0 == c.at i 0 && ((p.get i).c1 == c.at i 1 && (p.get i).c2 == c.at i 2)
theorem cells9_rows (p : P3) (c : C9) : p.cells9 = c ↔ ∀ i : Int, 0 ≤ i ∧ i ≤ 2 → sameRow p c i = true := by
  constructor
  · rintro rfl i hi
    have h1 : i = 0 ∨ i = 1 ∨ i = 2 := by omega
    rcases h1 with rfl | rfl | rfl <;> simp [sameRow, P3.get, P3.cells9, C9.at]
  · intro h
    have h0 := h 0 (by omega)
    have h1 := h 1 (by omega)
    have h2 := h 2 (by omega)
    cases c
    simp [sameRow, P3.get, C9.at] at h0 h1 h2
    simp [P3.cells9, h0, h1, h2]

theorem w_is (p : P3) (c : C9) (w : World) : Ret Try.prog 70 [p.val, c.val] w (.bool (decide (p.cells9 = c))) := by
 refine enter Try.func70 rfl Try.ntmps70 rfl SF.top trivial ?_
 refine sR ?_
 refine WL.eff (E.box rfl rfl rfl) rfl (fun b1 => ?_)
 refine WL.eff (E.box rfl rfl rfl) rfl (fun b2 => ?_)
 refine pA rfl rfl ?_
 refine nN ?_
 refine WC.seq ?_
 refine sR ?_
 refine pA rfl rfl ?_
 refine nN ?_
 refine WC.block ?_
 refine WC.loop (ι := Int) (fun k => [(2, .pointer (some ⟨b1, 0, none⟩)), (3, .pointer (some ⟨b2, 0, none⟩)), (5, .int .i64 k)]) (fun _ => [(b2, c.cl, 67), (b1, p.cl, 42)]) (fun _ => SF.top) (fun k => (0 ≤ k ∧ k ≤ 3) ∧ ∀ i : Int, 0 ≤ i ∧ i < k → sameRow p c i = true) (fun k => (3 - k).toNat) 0 ⟨by omega, fun i hi => by omega⟩ (fun a w s => s.weak (by repeat (first | exact sub_nil _ | refine sub_cons rfl ?_))) (fun k hk => ?_)
 obtain ⟨hk3, hkr⟩ := hk
 refine WC.seq ?_
 refine sR ?_
 refine pM rfl rfl ?_
 refine pP (Y.lss rfl rfl) rfl ?_
 refine nN ?_
 refine WC.cond rfl (fun h7 => ?_) (fun h7 => ?_)
 refine WC.skip' ?_
 refine WQ.next ?_
 refine WC.seq ?_
 refine WC.block ?_
 refine WC.seq ?_
 have hk2 : 0 ≤ k ∧ k ≤ 2 := by have h7 := h7; simp at h7; omega
 refine WC.draw [(0, .q false), (1, .q false), (2, .q false), (3, .q true), (4, .q false), (5, .q false), (6, .q true), (7, .q false)] mixed (by kernel_rfl) ?_
 refine dP (Y.move rfl) rfl rfl ?_
 refine dP (Y.ixArr Try.underlying42 Try.sizeOf24 rfl rfl hk2.1 (by omega)) rfl rfl ?_
 refine dP (Y.fieldAddr fa_24_0 rfl) rfl rfl ?_
 refine dV (Y.loadAN wd_22 rfl m1 (p3_row3 p k hk2)) rfl rfl ?_
 refine dP (Y.move rfl) rfl rfl ?_
 refine dP (Y.ixArr Try.underlying67 Try.sizeOf22 rfl rfl hk2.1 (by omega)) rfl rfl ?_
 refine dV (Y.loadAN wd_22 rfl m0 (c9_row3 c k hk2)) rfl rfl ?_
 refine dP (Y.neqA Try.eqGuardType22 rfl rfl (weq_three _ _ _ _ _ _)) rfl rfl ?_
 refine WDm.nil (WQ.and ?_)
 refine WQ.next ?_
 refine WC.cond rfl (fun h17 => ?_) (fun h17 => ?_)
 refine sR ?_
 refine pA rfl rfl ?_
 refine nN ?_
 refine WC.ret ?_
 refine WQ.blockRet ?_
 refine WQ.thenRet ?_
 refine WQ.thenRet ?_
 refine WQ.blockRet ?_
 refine WQ.thenRet ?_
 refine dn1 Try.results70 rfl (fun a w s => ?_)
 · have e : decide (p.cells9 = c) = false := by
     rw [decide_eq_false_iff_not, cells9_rows]
     intro hh
     have := hh k hk2
     unfold sameRow at this
     have h17 := h17
     rw [this] at h17
     cases h17
   rw [e]
   exact ⟨rfl, s.low⟩
 refine WC.skip' ?_
 refine WQ.blockEnd ?_
 refine WQ.next ?_
 refine WC.region ?_
 refine pM rfl rfl ?_
 refine pP (Y.add rfl rfl (i64_in (by omega) (by omega))) rfl ?_
 refine pA rfl rfl ?_
 refine WL.nil ?_
 · refine fun a w s => ⟨k + 1, ⟨by omega, fun i hi => ?_⟩, by omega, s.weak (by repeat (first | exact sub_nil _ | refine sub_cons rfl ?_))⟩
   by_cases hik : i = k
   · subst hik
     have h17 := h17
     unfold sameRow
     revert h17
     generalize ((p.get i).c0 == c.at i 0 && ((p.get i).c1 == c.at i 1 && (p.get i).c2 == c.at i 2)) = bb
     cases bb <;> simp
   · exact hkr i (by omega)
 refine WC.exit ?_
 refine WQ.thenExit ?_
 refine WQ.thenExit ?_
 refine WQ.blockExit ?_
 refine WQ.next ?_
 refine sR ?_
 refine pA rfl rfl ?_
 refine nN ?_
 refine WC.ret ?_
 refine dn1 Try.results70 rfl (fun a w s => ?_)
 · have ek : k = 3 := by have h7 := h7; simp at h7; omega
   have e : decide (p.cells9 = c) = true := by
     rw [decide_eq_true_eq, cells9_rows]
     exact fun i hi => hkr i (by omega)
   rw [e]
   exact ⟨rfl, s.low⟩

theorem SF.and_snd (F G : SF) : (F.and G).le G := fun w h => ⟨h.2, fun b hb => .inr hb⟩

theorem w_ActKept (x : Wd) (A : Option Addr) (b o c : Nat) (t : Int) (l : List Ac) (A7 : Option Addr) (b7 o7 c7 : Nat) (w : World) (hm : x.log.length ≤ maxLen) (hcap : x.log.length ≤ c) (hr : RL w A b o x.log) (hlm : l.length ≤ maxLen) (hal : AL w A7 b7 o7 l) : Ret Try.prog 13 [x.val A c, .int .i64 t, .slice A7 l.length c7] w (.bool true) := by
 refine enter Try.func13 rfl Try.ntmps13 rfl SF.top trivial ?_
 refine sR ?_
 refine WL.eff (E.box rfl rfl rfl) rfl (fun b1 => ?_)
 refine pA rfl rfl ?_
 refine nN ?_
 refine WC.seq ?_
 obtain ⟨y0, e0, hy0⟩ : ∃ y e, commitOf x t = (y, e) := ⟨_, _, rfl⟩
 refine WC.region ?_
 refine pV (Y.loadAN wd_54 rfl (by repeat (first | exact List.Mem.head _ | apply List.Mem.tail)) (r := (x).cl A c) rfl) rfl ?_
 refine pM rfl rfl ?_
 refine WL.eff (E.retW (y0) [.int .i64 e0] Try.call62 rfl (fun _ w s => (by have hh := w_workCommit x A b o c t w hm hcap (hr.below s.low); rw [hy0] at hh; exact hh)) rfl) rfl (fun i => ?_)
 refine pM rfl rfl ?_
 refine pP (Y.extract rfl rfl) rfl ?_
 refine pP (Y.extract rfl rfl) rfl ?_
 refine WL.eff (E.alloc Try.zeroValue54 rfl rfl) rfl (fun b2 => ?_)
 refine WL.eff (E.store Try.sizeOf54 rfl rfl rfl rfl rfl u0 rfl rfl) rfl (fun _ => ?_)
 refine pA rfl rfl ?_
 refine nN ?_
 refine WC.seq ?_
 refine sR ?_
 refine pM rfl rfl ?_
 refine pP (Y.neq rfl rfl) rfl ?_
 refine pM rfl rfl ?_
 refine WL.split (t := 31) rfl (fun r h31 => ?_)
 cases r
 refine gT rfl ?_
 refine pV (Y.loadAN wd_54 rfl (by repeat (first | exact List.Mem.head _ | apply List.Mem.tail)) (r := (x).cl A c) rfl) rfl ?_
 refine gT rfl ?_
 refine WL.eff (E.call Try.call63 rfl (fun _ w s => w_worldError x A b o c w hm hcap (hr.below s.low)) rfl) rfl (fun _ => ?_)
 refine gT rfl ?_
 refine pP (Y.neq rfl rfl) rfl ?_
 refine pP (Y.pickF rfl rfl) rfl ?_
 refine nN ?_
 refine WC.isF rfl (by rw [(kept_start hy0 (by simpa using h31)).1]; rfl) ?_
 refine WC.skip' ?_
 refine WQ.next ?_
 refine WC.seq ?_
 refine WC.seq ?_
 obtain ⟨_, hy00, hyw⟩ := kept_start hy0 (by simpa using h31)
 have hlm2 := hlm
 unfold maxLen at hlm2
 refine WC.region ?_
 refine pA rfl rfl ?_
 refine nN ?_
 refine WC.block ?_
 refine WC.loop (ι := Nat × Wd × Option Addr × Nat) (fun k => [(1, .int .i64 t), (2, .slice A7 l.length c7), (7, .pointer (some ⟨b2, 0, none⟩)), (9, .int .i64 k.1)]) (fun k => [(b2, k.2.1.cl k.2.2.1 k.2.2.2, 54)]) (fun k => (SF.own w.heap.size 34 8 (.slice k.2.2.1 k.2.1.log.length k.2.2.2) k.2.1.log.length (flat k.2.1.log)).sep SF.top) (fun k => k.1 ≤ l.length ∧ worldErr k.2.1 = 0 ∧ won k.2.1.cut.h t = true) (fun k => l.length - k.1) (0, y0, i) ⟨Nat.zero_le _, hy00, hyw⟩ (fun a w s => (s.sub (Hsub.of_sub (List.Sublist.cons_cons _ (List.nil_sublist _)))).weak (by repeat (first | exact sub_nil _ | refine sub_cons rfl ?_))) (fun k hk => ?_)
 obtain ⟨m, w1, A1, c1⟩ := k
 obtain ⟨hml, hw0, hwo⟩ := hk
 dsimp only at hml hw0 hwo ⊢
 refine WC.seq ?_
 refine WC.cut (ι := {b : Bool // b = true → m < l.length}) (fun k => [(1, .int .i64 t), (2, .slice A7 l.length c7), (7, .pointer (some ⟨b2, 0, none⟩)), (9, .int .i64 m), (48, .bool k.1)]) (fun k => [(b2, w1.cl A1 c1, 54)]) (fun k => (SF.own w.heap.size 34 8 (.slice A1 w1.log.length c1) w1.log.length (flat w1.log)).sep SF.top) ?_ ?_
 refine WC.region ?_
 refine pM rfl rfl ?_
 refine pM rfl rfl ?_
 refine pP (Y.len Try.underlying55 rfl) rfl ?_
 refine pP (Y.lss rfl rfl) rfl ?_
 refine pM rfl rfl ?_
 refine WL.split (t := 45) rfl (fun r h45 => ?_)
 cases r
 refine gF rfl ?_
 refine gF rfl ?_
 refine pP (Y.pickF rfl rfl) rfl ?_
 refine WL.nil ?_
 · exact fun a w s => ⟨rfl, ⟨false, fun h => by cases h⟩, s.weak (by repeat (first | exact sub_nil _ | refine sub_cons rfl ?_))⟩
 refine gT rfl ?_
 refine pM rfl rfl ?_
 refine gT rfl ?_
 refine pP (Y.lss rfl rfl) rfl ?_
 refine pP (Y.pickT rfl rfl) rfl ?_
 refine WL.nil ?_
 · exact fun a w s => ⟨rfl, ⟨decide ((m : Int) < 20), fun _ => by have h45 := h45; simp at h45; omega⟩, s.weak (by repeat (first | exact sub_nil _ | refine sub_cons rfl ?_))⟩
 rintro ⟨bb, hbb⟩
 dsimp only
 refine WC.cond rfl (fun h48 => ?_) (fun h48 => ?_)
 refine WC.skip' ?_
 refine WQ.next ?_
 refine WC.seq ?_
 refine WC.block ?_
 have hml2 : m < l.length := hbb h48
 obtain ⟨a1, ha⟩ := get_of_lt (l := l) (k := m) hml2
 have hAx := hal.addr ha
 obtain ⟨y1, e1, hy1⟩ : ∃ y e, doOf w1 a1 = (y, e) := ⟨_, _, rfl⟩
 refine WC.cut (ι := (Option Addr × Nat) × Nat) (fun k => [(1, .int .i64 t), (2, .slice A7 l.length c7), (7, .pointer (some ⟨b2, 0, none⟩)), (9, .int .i64 m), (10, .pointer (some ⟨k.2, 0, none⟩)), (11, .int .i64 e1)]) (fun k => [(k.2, y1.cl k.1.1 k.1.2, 54), (b2, w1.cl A1 c1, 54)]) (fun k => (SF.own w.heap.size 34 8 (.slice k.1.1 y1.log.length k.1.2) y1.log.length (flat y1.log)).sep ((SF.own w.heap.size 34 8 (.slice A1 w1.log.length c1) w1.log.length (flat w1.log)).sep SF.top)) ?_ ?_
 refine WC.draw2 [(0, .q true), (1, .q false), (2, .q false), (3, .q false), (4, .q true), (5, .s false), (6, .q false), (7, .q false), (8, .q false), (9, .s false), (10, .s true), (11, .q false)] mixed ?_
 refine AD.quiet (i := 0) (imp := true) rfl (by kernel_rfl) (QS.val (Y.loadAN wd_54 rfl (by repeat (first | exact List.Mem.head _ | apply List.Mem.tail)) (r := w1.cl A1 c1) rfl) rfl rfl) rfl rfl rfl ?_
 refine AD.quiet (i := 1) (imp := false) rfl (by kernel_rfl) (QS.pure (Y.move rfl) rfl rfl) rfl rfl rfl ?_
 refine AD.quiet (i := 2) (imp := false) rfl (by kernel_rfl) (QS.pure (Y.move rfl) rfl rfl) rfl rfl rfl ?_
 refine AD.quiet (i := 3) (imp := false) rfl (by kernel_rfl) (QS.pure (Y.ixSlA (A := A7) (b := b7) (o := o7) Try.underlying55 Try.sizeOf61 rfl rfl hAx (nat0 _) (get_ltI ha)) rfl rfl) rfl rfl rfl ?_
 refine AD.quiet (i := 4) (imp := true) rfl (by kernel_rfl) (QS.val (Y.loadAc wd_61 rfl (r := a1.cl) rfl (fun _ w s j hj => (hal.below s.low).full (fun _ => rfl) ha j hj)) rfl rfl) rfl rfl rfl ?_
 refine AD.two (i := 5) (j := 9) (by kernel_rfl) rfl rfl (WS.free rfl (E.retW (y1) [.int .i64 e1] Try.call65 rfl (fun _ w s => (by have hh := w_actDo w1 A1 (gOf A1) 0 c1 a1 w (own_max s.fact.1) (own_le s.fact.1) (own_RL s.fact.1); rw [hy1] at hh; exact hh)) rfl)) (fun _ => ext_newN rfl) (WS.free rfl (E.alloc Try.zeroValue54 rfl rfl)) (fun _ => ext_new rfl) (fun z => ?_) (fun b3 => ?_)
 refine AD.list [(6, .q false), (7, .q false), (8, .q false), (9, .s false), (10, .s true), (11, .q false)] (by kernel_rfl) ?_
 refine dP (Y.move rfl) rfl rfl ?_
 refine dP (Y.extract rfl rfl) rfl rfl ?_
 refine dP (Y.extract rfl rfl) rfl rfl ?_
 refine WDm.spec (WS.free rfl (E.alloc Try.zeroValue54 rfl rfl)) (fun _ => ext_new rfl) (fun b3 => ?_)
 refine WDm.spec (WS.free rfl (E.store Try.sizeOf54 rfl rfl rfl rfl rfl u0 rfl rfl)) (fun _ => sub_refl _) (fun _ => ?_)
 refine dP (Y.assign rfl) rfl rfl ?_
 refine WDm.nil (WQ.and ?_)
 · exact fun a w s => ⟨rfl, (z, b3), s.weak (by repeat (first | exact sub_nil _ | refine sub_cons rfl ?_))⟩
 refine AD.list [(5, .s false), (6, .q false), (7, .q false), (8, .q false), (10, .s true), (11, .q false)] (by kernel_rfl) ?_
 refine WDm.spec (WS.free rfl (E.retW (y1) [.int .i64 e1] Try.call65 rfl (fun _ w s => (by have hh := w_actDo w1 A1 (gOf A1) 0 c1 a1 w (own_max s.fact.1) (own_le s.fact.1) (own_RL s.fact.1); rw [hy1] at hh; exact hh)) rfl)) (fun _ => ext_newN rfl) (fun z => ?_)
 refine dP (Y.move rfl) rfl rfl ?_
 refine dP (Y.extract rfl rfl) rfl rfl ?_
 refine dP (Y.extract rfl rfl) rfl rfl ?_
 refine WDm.spec (WS.free rfl (E.store Try.sizeOf54 rfl rfl rfl rfl rfl u0 rfl rfl)) (fun _ => sub_refl _) (fun _ => ?_)
 refine dP (Y.assign rfl) rfl rfl ?_
 refine WDm.nil (WQ.and ?_)
 · exact fun a w s => ⟨rfl, (z, b3), s.weak (by repeat (first | exact sub_nil _ | refine sub_cons rfl ?_))⟩
 rintro ⟨z, b3⟩
 dsimp only
 refine sR ?_
 refine pM rfl rfl ?_
 refine pP (Y.eql rfl rfl) rfl ?_
 refine nN ?_
 refine WC.cond rfl (fun h61 => ?_) (fun h61 => ?_)
 refine WC.region ?_
 refine pV (Y.loadAN wd_54 rfl m0 (r := y1.cl z.1 z.2) rfl) rfl ?_
 refine WL.eff (E.store Try.sizeOf54 rfl rfl rfl rfl rfl u1 rfl rfl) rfl (fun _ => ?_)
 refine WL.nil ?_
 refine WQ.blockEnd ?_
 refine WQ.next ?_
 refine WC.region ?_
 refine pM rfl rfl ?_
 refine pP (Y.add rfl rfl (i64_in (by omega) (by omega))) rfl ?_
 refine pA rfl rfl ?_
 refine WL.nil ?_
 · refine WQ.le (SF.sep_mono (SF.le_refl _) (SF.sep_snd _ _)) ?_
   exact fun a w s => ⟨(m + 1, y1, z), ⟨hml2, kept_step hy1 (by simpa using h61) hwo⟩, by show l.length - (m + 1) < l.length - m; omega, (s.sub (Hsub.of_sub (List.sublist_cons_self _ _))).weak (by repeat (first | exact sub_nil _ | refine sub_cons rfl ?_))⟩
 refine WC.skip' ?_
 refine WQ.blockEnd ?_
 refine WQ.next ?_
 refine WC.region ?_
 refine pM rfl rfl ?_
 refine pP (Y.add rfl rfl (i64_in (by omega) (by omega))) rfl ?_
 refine pA rfl rfl ?_
 refine WL.nil ?_
 · refine WQ.le (SF.sep_snd _ _) ?_
   exact fun a w s => ⟨(m + 1, w1, A1, c1), ⟨hml2, hw0, hwo⟩, by show l.length - (m + 1) < l.length - m; omega, (s.sub (Hsub.of_sub (List.sublist_cons_self _ _))).weak (by repeat (first | exact sub_nil _ | refine sub_cons rfl ?_))⟩
 refine WC.exit ?_
 refine WQ.thenExit ?_
 refine WQ.thenExit ?_
 refine WQ.blockExit ?_
 refine WQ.next ?_
 refine WC.seq ?_
 obtain ⟨z, n2, e2, hz⟩ : ∃ z n e, mendOf w1 (-1) true true true = (z, n, e) := ⟨_, _, _, rfl⟩
 have he2 := kept_err hz hw0
 refine WC.region ?_
 refine pV (Y.loadAN wd_54 rfl m0 (r := w1.cl A1 c1) rfl) rfl ?_
 refine WL.eff (E.retW (z) [.int .i64 n2, .int .i64 e2] Try.call66 rfl (fun _ w s => (by have hh := w_mendAll w1 A1 (gOf A1) 0 c1 w (own_max s.fact.1) (own_le s.fact.1) (own_RL s.fact.1); rw [hz] at hh; exact hh)) rfl) rfl (fun j => ?_)
 refine pM rfl rfl ?_
 refine pP (Y.extract rfl rfl) rfl ?_
 refine pP (Y.extract rfl rfl) rfl ?_
 refine pP (Y.extract rfl rfl) rfl ?_
 refine WL.eff (E.alloc Try.zeroValue54 rfl rfl) rfl (fun b4 => ?_)
 refine WL.eff (E.store Try.sizeOf54 rfl rfl rfl rfl rfl u0 rfl rfl) rfl (fun _ => ?_)
 refine pA rfl rfl ?_
 refine pA rfl rfl ?_
 refine nN ?_
 refine WC.seq ?_
 refine sR ?_
 refine pM rfl rfl ?_
 refine pP (Y.neq rfl rfl) rfl ?_
 refine nN ?_
 refine WC.cond rfl (fun h70 => ?_) (fun h70 => ?_)
 refine sR ?_
 refine WL.eff (E.call Try.call64 rfl (fun _ w s => w_actBegun w) rfl) rfl (fun _ => ?_)
 refine pM rfl rfl ?_
 refine gT rfl ?_
 refine pM rfl rfl ?_
 refine gT rfl ?_
 refine pP (Y.eql rfl rfl) rfl ?_
 refine pP (Y.pickT rfl rfl) rfl ?_
 refine pA rfl rfl ?_
 refine nN ?_
 refine WC.ret ?_
 refine WQ.thenRet ?_
 refine dn1 Try.results13 rfl (fun a w s => ?_)
 · refine ⟨?_, s.low⟩
   clear s
   first
     | (have h31 := h31; simpa [packed] using h31)
     | (have h70 := h70; simp [packed] at h70 ⊢; omega)
     | (rw [decide_eq_true hpc]; rfl)
 refine WC.skip' ?_
 refine WQ.next ?_
 refine WC.seq ?_
 obtain ⟨hwz, hwon, hcz, hpc⟩ := kept_end hz (by simpa using h70) hwo
 have lz := (world_right hwz).1
 have nz := now_ok hwz
 have hwl : (winsOf z.log).length ≤ 60 := by have h1 := winsL_len z.log; have h2 := (log_right lz).1; rw [wins_ok lz]; omega
 have hzm : z.log.length ≤ maxLen := by have h2 := (log_right lz).1; unfold maxLen; omega
 refine WC.region ?_
 refine pP (Y.fieldAddr fa_54_1 rfl) rfl ?_
 refine pV (Y.load (cs := (z).cl j.1 j.2) (v := .slice j.1 (z).log.length j.2) fl_39 rfl (by repeat (first | exact List.Mem.head _ | apply List.Mem.tail)) rfl) rfl ?_
 refine WL.eff (E.callF (fun i : Option Addr × Nat => .tuple #[.slice i.1 (winsOf z.log).length i.2, .int .i64 (logErr z.log)]) (fun i => SF.own w.heap.size 3 1 (.slice i.1 (winsOf z.log).length i.2) (winsOf z.log).length (ints (winsOf z.log))) Try.call67 rfl (fun _ w s => (w_wins z.log j.1 (gOf j.1) 0 j.2 w (own_RL s.fact.1)).mono fun e w' ⟨i, he, hb, ho⟩ => ⟨i, he, hb, ownsRow_le ho s.low.size, fun g hg => .inl (ho.lt g hg).1⟩) rfl) rfl (fun q => ?_)
 refine pM rfl rfl ?_
 refine pP (Y.extract rfl rfl) rfl ?_
 refine pP (Y.extract rfl rfl) rfl ?_
 refine pA rfl rfl ?_
 refine pA rfl rfl ?_
 refine nN ?_
 refine sR ?_
 refine pP (Y.fieldAddr fa_54_1 rfl) rfl ?_
 refine pV (Y.load (cs := (z).cl j.1 j.2) (v := .slice j.1 (z).log.length j.2) fl_39 rfl (by repeat (first | exact List.Mem.head _ | apply List.Mem.tail)) rfl) rfl ?_
 refine WL.eff (E.call Try.call68 rfl (fun _ w s => (by have hh := w_cells z.log j.1 (gOf j.1) 0 j.2 w hzm (own_RL s.fact.1.1); rw [hcz, lz] at hh; exact hh)) rfl) rfl (fun _ => ?_)
 refine pM rfl rfl ?_
 refine pP (Y.extract rfl rfl) rfl ?_
 refine pP (Y.extract rfl rfl) rfl ?_
 refine WL.eff (E.alloc Try.zeroValue67 rfl rfl) rfl (fun b5 => ?_)
 refine WL.eff (E.store Try.sizeOf67 rfl rfl rfl rfl rfl u0 rfl rfl) rfl (fun _ => ?_)
 refine pA rfl rfl ?_
 refine nN ?_
 refine sR ?_
 refine pV (Y.loadAN wd_54 rfl (by repeat (first | exact List.Mem.head _ | apply List.Mem.tail)) (r := (z).cl j.1 j.2) rfl) rfl ?_
 refine WL.eff (E.call Try.call69 rfl (fun _ w s => (by have hh := w_worldNow z j.1 (gOf j.1) 0 j.2 w (own_max s.fact.1.1) (own_le s.fact.1.1) (own_RL s.fact.1.1); rw [nz] at hh; exact hh)) rfl) rfl (fun _ => ?_)
 refine pM rfl rfl ?_
 refine pP (Y.extract rfl rfl) rfl ?_
 refine pP (Y.extract rfl rfl) rfl ?_
 refine WL.eff (E.alloc Try.zeroValue42 rfl rfl) rfl (fun b6 => ?_)
 refine WL.eff (E.store Try.sizeOf42 rfl rfl rfl rfl rfl u0 rfl rfl) rfl (fun _ => ?_)
 refine pA rfl rfl ?_
 refine nN ?_
 refine WC.seq ?_
 refine sR ?_
 refine pM rfl rfl ?_
 refine pP (Y.neq rfl rfl) rfl ?_
 refine pM rfl rfl ?_
 refine WL.known (t := 95) (r := false) rfl (by rw [lz]; rfl) ?_
 refine gT rfl ?_
 refine pM rfl rfl ?_
 refine gT rfl ?_
 refine pP (Y.neq rfl rfl) rfl ?_
 refine pP (Y.pickF rfl rfl) rfl ?_
 refine pM rfl rfl ?_
 refine WL.known (t := 99) (r := false) rfl (rfl) ?_
 refine gT rfl ?_
 refine pM rfl rfl ?_
 refine gT rfl ?_
 refine pP (Y.neq rfl rfl) rfl ?_
 refine pP (Y.pickF rfl rfl) rfl ?_
 refine nN ?_
 refine WC.isF rfl (rfl) ?_
 refine WC.skip' ?_
 refine WQ.next ?_
 refine sR ?_
 refine pA rfl rfl ?_
 refine nN ?_
 refine WC.seq ?_
 refine sR ?_
 refine pA rfl rfl ?_
 refine nN ?_
 refine WC.block ?_
 refine WC.loop (ι := Nat) (fun m => [(1, .int .i64 t), (15, .slice q.1 (winsOf z.log).length q.2), (17, .pointer (some ⟨b5, 0, none⟩)), (19, .pointer (some ⟨b6, 0, none⟩)), (21, .bool (((winsOf z.log).take m).contains t)), (22, .int .i64 m)]) (fun _ => [(b6, (pagesOf z.h).cl, 42), (b5, (cellsH z.h).cl, 67)]) (fun _ => (SF.own w.heap.size 3 1 (.slice q.1 (winsOf z.log).length q.2) (winsOf z.log).length (ints (winsOf z.log)))) (fun m => m ≤ (winsOf z.log).length) (fun m => (winsOf z.log).length - m) 0 (Nat.zero_le _) (fun a w s => ((s.le (SF.and_snd _ _)).sub (Hsub.of_sub (List.Sublist.cons_cons _ (List.Sublist.cons_cons _ (List.nil_sublist _))))).weak (by repeat (first | exact sub_nil _ | refine sub_cons rfl ?_))) (fun m hm9 => ?_)
 refine WC.seq ?_
 refine sR ?_
 refine pM rfl rfl ?_
 refine pM rfl rfl ?_
 refine pP (Y.len Try.underlying64 rfl) rfl ?_
 refine pP (Y.lss rfl rfl) rfl ?_
 refine nN ?_
 refine WC.cond rfl (fun h106 => ?_) (fun h106 => ?_)
 refine WC.skip' ?_
 refine WQ.next ?_
 refine WC.seq ?_
 refine WC.block ?_
 have hml : m < (winsOf z.log).length := by have h106 := h106; simp at h106; omega
 obtain ⟨y, hy⟩ := get_of_lt (l := (winsOf z.log)) (k := m) hml
 refine WC.know (p := q.1 = some ⟨gOf q.1, 0, none⟩) (fun a w s => (own_IL rfl s.fact).addr (i := m) hy) (fun hA => ?_)
 refine WC.region ?_
 refine pM rfl rfl ?_
 refine pM rfl rfl ?_
 refine WL.split (t := 110) rfl (fun r h110 => ?_)
 cases r
 refine gT rfl ?_
 refine pM rfl rfl ?_
 refine gT rfl ?_
 refine pM rfl rfl ?_
 refine gT rfl ?_
 refine pP (Y.ixSlA (A := q.1) (b := gOf q.1) (o := 0) Try.underlying64 Try.sizeOf3 rfl rfl hA (by omega) (by omega)) rfl ?_
 refine gT rfl ?_
 refine pV (Y.loadc fl_3 rfl (v := .int .i64 y) (fun a w s => by have hh := (own_IL rfl s.fact).cell m y hy; simpa using hh)) rfl ?_
 refine gT rfl ?_
 refine pM rfl rfl ?_
 refine gT rfl ?_
 refine pP (Y.eql rfl rfl) rfl ?_
 refine pP (Y.pickF rfl rfl) rfl ?_
 refine pA rfl rfl ?_
 refine WL.nil ?_
 refine WQ.blockEnd ?_
 refine WQ.next ?_
 refine WC.region ?_
 refine pM rfl rfl ?_
 refine pP (Y.add rfl rfl (i64_in (by omega) (by omega))) rfl ?_
 refine pA rfl rfl ?_
 refine WL.nil ?_
 · have e9 : ((winsOf z.log).take (m + 1)).contains t = decide (y = t) := by rw [contains_step hy, show ((winsOf z.log).take m).contains t = false from h110]; simp
   refine fun a w s => ⟨m + 1, by omega, by omega, ?_⟩
   rw [e9]
   exact s.weak (by repeat (first | exact sub_nil _ | refine sub_cons rfl ?_))
 refine gF rfl ?_
 refine gF rfl ?_
 refine gF rfl ?_
 refine gF rfl ?_
 refine gF rfl ?_
 refine gF rfl ?_
 refine pP (Y.pickT rfl rfl) rfl ?_
 refine pA rfl rfl ?_
 refine WL.nil ?_
 refine WQ.blockEnd ?_
 refine WQ.next ?_
 refine WC.region ?_
 refine pM rfl rfl ?_
 refine pP (Y.add rfl rfl (i64_in (by omega) (by omega))) rfl ?_
 refine pA rfl rfl ?_
 refine WL.nil ?_
 · have e9 : ((winsOf z.log).take (m + 1)).contains t = true := by rw [contains_step hy, show ((winsOf z.log).take m).contains t = true from h110]; simp
   refine fun a w s => ⟨m + 1, by omega, by omega, ?_⟩
   rw [e9]
   exact s.weak (by repeat (first | exact sub_nil _ | refine sub_cons rfl ?_))
 refine WC.exit ?_
 refine WQ.thenExit ?_
 refine WQ.thenExit ?_
 refine WQ.blockExit ?_
 refine WQ.next ?_
 refine sR ?_
 refine WL.eff (E.call Try.call64 rfl (fun _ w s => w_actBegun w) rfl) rfl (fun _ => ?_)
 refine pM rfl rfl ?_
 refine gT rfl ?_
 refine pM rfl rfl ?_
 refine pP (Y.pickT rfl rfl) rfl ?_
 refine pM rfl rfl ?_
 refine WL.known (t := 122) (r := true) rfl (by rw [show m = (winsOf z.log).length by (have h106 := h106; simp at h106; omega), List.take_length]; exact hwon) ?_
 refine gT rfl ?_
 refine pV (Y.loadA wd_42 rfl m0 rfl) rfl ?_
 refine gT rfl ?_
 refine pV (Y.loadA wd_67 rfl m1 rfl) rfl ?_
 refine gT rfl ?_
 refine WL.eff (E.call Try.call70 rfl (fun _ w s => w_is (pagesOf z.h) (cellsH z.h) w) rfl) rfl (fun _ => ?_)
 refine pP (Y.pickT rfl rfl) rfl ?_
 refine pA rfl rfl ?_
 refine nN ?_
 refine WC.ret ?_
 refine dn1 Try.results13 rfl (fun a w s => ?_)
 · refine ⟨?_, s.low⟩
   clear s
   first
     | (have h31 := h31; simpa [packed] using h31)
     | (have h70 := h70; simp [packed] at h70 ⊢; omega)
     | (rw [decide_eq_true hpc]; rfl)
 refine gF rfl ?_
 refine gF rfl ?_
 refine gF rfl ?_
 refine pP (Y.pickT rfl rfl) rfl ?_
 refine nN ?_
 refine WC.condT rfl ?_
 refine sR ?_
 refine WL.eff (E.call Try.call64 rfl (fun _ w s => w_actBegun w) rfl) rfl (fun _ => ?_)
 refine pM rfl rfl ?_
 refine gT rfl ?_
 refine pM rfl rfl ?_
 refine gT rfl ?_
 refine pP (Y.neq rfl rfl) rfl ?_
 refine pP (Y.pickT rfl rfl) rfl ?_
 refine pA rfl rfl ?_
 refine nN ?_
 refine WC.ret ?_
 refine WQ.thenRet ?_
 refine dn1 Try.results13 rfl (fun a w s => ?_)
 · refine ⟨?_, s.low⟩
   clear s
   first
     | (have h31 := h31; simpa [packed] using h31)
     | (have h70 := h70; simp [packed] at h70 ⊢; omega)
     | (rw [decide_eq_true hpc]; rfl)
end Go.Proofs.Ytdbcimadjmdffaa
