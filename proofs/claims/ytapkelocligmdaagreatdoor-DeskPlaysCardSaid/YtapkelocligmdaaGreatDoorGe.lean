/- Scripts: the document's PlayOf. No condition. -/
import Derived.Test.YtapkelocligmdaaGreatDoorGd
import Derived.Test.YtapkelocligmdaaGreatDoorQ6
set_option maxRecDepth 100000
set_option linter.unusedVariables false
set_option linter.unusedSimpArgs false
set_option linter.unusedSectionVars false
set_option maxHeartbeats 4000000
namespace Go.Proofs.YtapkelocligmdaaGreatDoor
open Go.RowKit Go.Joins
theorem playGo_app : ∀ (a b : List Str) (x : Wd) (o : Str), playGo (a ++ b) x o = playGo b (playGo a x o).1 (playGo a x o).2
  | [], _, _, _ => rfl
  | l :: a, b, x, o => playGo_app a b (stepW x l) (o ++ (stepS x l ++ [10]))
theorem play_step {ls : List Str} {x : Wd} {o : Str} (h : playGo ls Wd.zero [] = (x, o)) (l : Str) : playGo (ls ++ [l]) Wd.zero [] = (stepW x l, o ++ (stepS x l ++ [10])) := by
  rw [playGo_app, h]
  rfl
theorem cnt10_app (a b : Str) : cnt10 (a ++ b) = cnt10 a + cnt10 b := by simp [cnt10]
theorem cnt10_take {s : Str} {i : Nat} {c : UInt8} (h : s[i]? = some c) : cnt10 (s.take (i + 1)) = cnt10 (s.take i) + if c = 10 then 1 else 0 := by
  rw [List.take_add_one, h, cnt10_app]
  by_cases e : c = 10 <;> simp [cnt10, e]
theorem cnt10_le (s : Str) (i : Nat) : cnt10 (s.take i) ≤ cnt10 s := by
  conv => rhs; rw [← List.take_append_drop i s]
  rw [cnt10_app]
  omega
theorem lines_done {s : Str} {d : List Str} {a : Nat} (h : cutAt 10 s = d ++ cutAt 10 (s.drop a)) (hn : ∀ y ∈ s.drop a, y ≠ 10) : linesOf s = d := by
  unfold linesOf
  rw [h, cut_no 10 _ hn, List.dropLast_concat]
theorem u8_ten {x : UInt8} : (((x.toNat : Nat) : Int) = 10) ↔ x = 10 := by
  constructor
  · intro h
    exact UInt8.toNat_inj.1 (by simpa using (by omega : x.toNat = 10))
  · rintro rfl
    rfl
theorem zero_right : worldErr Wd.zero = 0 := by decide +kernel

theorem w_playOf (s9 : Str) (w : World) (hl9 : s9.length ≤ 281474976710656) : Ret Tryz.prog 5 [su s9] w (.tuple #[su (playOf s9).1, .int .i64 (playOf s9).2]) := by
 refine enter Tryz.func5 rfl Tryz.ntmps5 rfl SF.top trivial ?_
 refine sR ?_
 refine pA rfl rfl ?_
 refine pA rfl rfl ?_
 refine nN ?_
 refine sR ?_
 refine pA rfl rfl ?_
 refine nN ?_
 refine WC.seq ?_
 refine sR ?_
 refine pA rfl rfl ?_
 refine nN ?_
 refine WC.block ?_
 refine WC.loop (ι := Nat) (fun k => [(0, su s9), (4, .int .i64 (cnt10 (s9.take k) : Nat)), (5, .int .i64 k)]) (fun _ => []) (fun _ => SF.top) (fun k => k ≤ s9.length ∧ cnt10 (s9.take k) ≤ 61) (fun k => s9.length - k) 0 ⟨Nat.zero_le _, Nat.zero_le _⟩ (fun a w s => s.weak (by repeat (first | exact sub_nil _ | refine sub_cons rfl ?_))) (fun k hk => ?_)
 obtain ⟨hk, hc61⟩ := hk
 refine WC.seq ?_
 refine WC.cut1 [(20, .bool (decide (k < s9.length ∧ cnt10 (s9.take k) ≤ 60))), (0, su s9), (4, .int .i64 (cnt10 (s9.take k) : Nat)), (5, .int .i64 k)] [] SF.top ?_ ?_
 refine WC.region ?_
 refine pM rfl rfl ?_
 refine pM rfl rfl ?_
 refine pP (Y.lenU und9 rfl) rfl ?_
 refine pP (Y.lss rfl rfl) rfl ?_
 refine pM rfl rfl ?_
 refine WL.split (t := 17) rfl (fun r h17 => ?_)
 cases r
 refine gF rfl ?_
 refine gF rfl ?_
 refine pP (Y.pickF rfl rfl) rfl ?_
 refine WL.nil ?_
 · exact fun a w s => ⟨rfl, s.weak (sub_cons (eqb (by have hh := h17; simp at hh; rw [Bool.eq_iff_iff]; simp [hh]; try omega)) (by repeat (first | exact sub_nil _ | refine sub_cons rfl ?_)))⟩
 refine gT rfl ?_
 refine pM rfl rfl ?_
 refine gT rfl ?_
 refine pP (Y.leq rfl rfl) rfl ?_
 refine pP (Y.pickT rfl rfl) rfl ?_
 refine WL.nil ?_
 · exact fun a w s => ⟨rfl, s.weak (sub_cons (eqb (by have hh := h17; simp at hh; rw [Bool.eq_iff_iff]; simp [hh]; try omega)) (by repeat (first | exact sub_nil _ | refine sub_cons rfl ?_)))⟩
 refine WC.cond rfl (fun h20 => ?_) (fun h20 => ?_)
 refine WC.skip' ?_
 refine WQ.next ?_
 refine WC.seq ?_
 refine WC.block ?_
 refine WC.seq ?_
 have hk2 := of_decide_eq_true h20
 obtain ⟨x, hx⟩ := get_of_lt hk2.1
 refine WC.region ?_
 refine pM rfl rfl ?_
 refine pM rfl rfl ?_
 refine pP (Y.ixU und9 hx rfl rfl rfl) rfl ?_
 refine pP (Y.eql rfl rfl) rfl ?_
 refine nN ?_
 refine WC.cond rfl (fun h26 => ?_) (fun h26 => ?_)
 refine WC.region ?_
 refine pM rfl rfl ?_
 refine pP (Y.add rfl rfl (i64_in (by omega) (by omega))) rfl ?_
 refine pA rfl rfl ?_
 refine WL.nil ?_
 refine WQ.blockEnd ?_
 refine WQ.next ?_
 refine WC.region ?_
 refine pM rfl rfl ?_
 refine pP (Y.add rfl rfl (i64_in (by omega) (by omega))) rfl ?_
 refine pA rfl rfl ?_
 refine WL.nil ?_
 · refine fun a w2 s => ⟨k + 1, ⟨by omega, by rw [cnt10_take hx]; split <;> omega⟩, by show s9.length - (k + 1) < s9.length - k; omega, ?_⟩
   show St [(0, su s9), (4, .int .i64 ((cnt10 (s9.take (k + 1)) : Nat) : Int)), (5, .int .i64 ((k + 1 : Nat) : Int))] _ _ _ _ _ _
   rw [cnt10_take hx, if_pos (by have hh := h26; simp at hh; exact u8_ten.1 (by omega))]
   exact s.weak (by repeat (first | exact sub_nil _ | refine sub_cons rfl ?_))
 refine WC.skip' ?_
 refine WQ.blockEnd ?_
 refine WQ.next ?_
 refine WC.region ?_
 refine pM rfl rfl ?_
 refine pP (Y.add rfl rfl (i64_in (by omega) (by omega))) rfl ?_
 refine pA rfl rfl ?_
 refine WL.nil ?_
 · refine fun a w2 s => ⟨k + 1, ⟨by omega, by rw [cnt10_take hx]; split <;> omega⟩, by show s9.length - (k + 1) < s9.length - k; omega, ?_⟩
   show St [(0, su s9), (4, .int .i64 ((cnt10 (s9.take (k + 1)) : Nat) : Int)), (5, .int .i64 ((k + 1 : Nat) : Int))] _ _ _ _ _ _
   rw [cnt10_take hx, if_neg (by have hh := h26; intro e; subst e; simp at hh)]
   exact s.weak (by repeat (first | exact sub_nil _ | refine sub_cons rfl ?_))
 refine WC.exit ?_
 refine WQ.thenExit ?_
 refine WQ.thenExit ?_
 refine WQ.blockExit ?_
 refine WQ.next ?_
 refine WC.seq ?_
 refine WC.seq ?_
 have hmany : (4096 < s9.length ∨ 60 < cnt10 s9) ↔ (4096 < s9.length ∨ 60 < cnt10 (s9.take k)) := by
   have h1 := cnt10_le s9 k
   have h2 : k = s9.length ∨ 60 < cnt10 (s9.take k) := by
     have hh := of_decide_eq_false h20
     omega
   rcases h2 with h2 | h2
   · rw [h2, List.take_length]
   · constructor <;> intro _ <;> right <;> omega
 refine WC.region ?_
 refine pM rfl rfl ?_
 refine pP (Y.lenU und9 rfl) rfl ?_
 refine pP (Y.gtr rfl rfl) rfl ?_
 refine pM rfl rfl ?_
 refine WL.split (t := 32) rfl (fun r h32 => ?_)
 cases r
 refine gT rfl ?_
 refine pM rfl rfl ?_
 refine gT rfl ?_
 refine pP (Y.gtr rfl rfl) rfl ?_
 refine pP (Y.pickF rfl rfl) rfl ?_
 refine nN ?_
 refine WC.cond rfl (fun h35 => ?_) (fun h35 => ?_)
 refine WC.seq ?_
 have hE : playOf s9 = ([], 2) := by
   unfold playOf
   rw [if_pos (hmany.2 (by have hh := h35; simp at hh; exact .inr (by omega)))]
 refine WC.region ?_
 refine pA rfl rfl ?_
 refine pA rfl rfl ?_
 refine nN ?_
 refine WC.ret ?_
 refine WQ.thenRet ?_
 refine WQ.done Tryz.results5 (RVs.cons (RV.tmp rfl) (RVs.cons (RV.tmp rfl) RVs.nil)) (fun a w s => ?_)
 · rw [hE]
   exact ⟨rfl, s.low⟩
 refine WC.skip' ?_
 refine WQ.next ?_
 refine WC.seq ?_
 have hfew : ¬ (4096 < s9.length ∨ 60 < cnt10 s9) := fun hh => by
   have h1 := hmany.1 hh
   have hh2 := h35
   simp at h32 hh2
   omega
 refine WC.cut1 [(46, .bool (decide (s9 ≠ [] ∧ s9.getLast? ≠ some 10))), (0, su s9)] [] SF.top ?_ ?_
 refine WC.region ?_
 refine pM rfl rfl ?_
 refine pP (Y.lenU und9 rfl) rfl ?_
 refine pP (Y.gtr rfl rfl) rfl ?_
 refine pM rfl rfl ?_
 refine WL.split (t := 39) rfl (fun r h39 => ?_)
 cases r
 refine gF rfl ?_
 refine gF rfl ?_
 refine gF rfl ?_
 refine gF rfl ?_
 refine gF rfl ?_
 refine gF rfl ?_
 refine pP (Y.pickF rfl rfl) rfl ?_
 refine WL.nil ?_
 · exact fun a w s => ⟨rfl, s.weak (sub_cons (eqb (by
     have e2 : s9 = [] := by have hh := h39; simp at hh; exact hh
     subst e2
     rfl)) (by repeat (first | exact sub_nil _ | refine sub_cons rfl ?_)))⟩
 refine gT rfl ?_
 refine pM rfl rfl ?_
 refine gT rfl ?_
 refine pM rfl rfl ?_
 refine gT rfl ?_
 refine pP (Y.lenU und9 rfl) rfl ?_
 have hpos : 0 < s9.length := by have hh := h39; simp at hh; omega
 obtain ⟨z, hz⟩ := get_of_lt (l := s9) (k := s9.length - 1) (by omega)
 refine gT rfl ?_
 refine pP (Y.sub rfl rfl (i64_in (by omega) (by omega))) rfl ?_
 refine gT rfl ?_
 refine pP (Y.ixU (i := s9.length - 1) und9 hz rfl rfl (by omega)) rfl ?_
 refine gT rfl ?_
 refine pP (Y.neq rfl rfl) rfl ?_
 refine pP (Y.pickT rfl rfl) rfl ?_
 refine WL.nil ?_
 · exact fun a w s => ⟨rfl, s.weak (sub_cons (eqb (by
     have e1 : s9.getLast? = some z := by rw [List.getLast?_eq_getElem?, hz]
     have e2 : s9 ≠ [] := fun e => by rw [e] at hpos; simp at hpos
     by_cases hz10 : z = 10
     · subst hz10
       simp [e1]
     · have h3 : ¬ ((z.toNat : Int) = 10) := fun h => hz10 (u8_ten.1 h)
       simp [e1, e2, hz10, h3])) (by repeat (first | exact sub_nil _ | refine sub_cons rfl ?_)))⟩
 refine WC.cond rfl (fun h46 => ?_) (fun h46 => ?_)
 refine WC.seq ?_
 have hE : playOf s9 = ([], 1) := by
   unfold playOf
   rw [if_neg hfew, if_pos (of_decide_eq_true h46)]
 refine WC.region ?_
 refine pA rfl rfl ?_
 refine pA rfl rfl ?_
 refine nN ?_
 refine WC.ret ?_
 refine WQ.thenRet ?_
 refine WQ.done Tryz.results5 (RVs.cons (RV.tmp rfl) (RVs.cons (RV.tmp rfl) RVs.nil)) (fun a w s => ?_)
 · rw [hE]
   exact ⟨rfl, s.low⟩
 refine WC.skip' ?_
 refine WQ.next ?_
 refine WC.seq ?_
 have hE : playOf s9 = ((playGo (linesOf s9) Wd.zero []).2, 0) := by
   unfold playOf
   rw [if_neg hfew, if_neg (of_decide_eq_false h46)]
 refine WC.region ?_
 refine WL.eff (E.alloc Tryz.zeroValue36 rfl rfl) rfl (fun b1 => ?_)
 refine nN ?_
 refine sR ?_
 refine pA rfl rfl ?_
 refine nN ?_
 refine sR ?_
 refine pA rfl rfl ?_
 refine nN ?_
 refine WC.seq ?_
 refine sR ?_
 refine pA rfl rfl ?_
 refine nN ?_
 refine WC.block ?_
 refine WC.le (nil_sep w.heap.size 101 8 _) ?_
 refine WC.loop (ι := (Nat × Nat × List Str) × (Wd × Str) × Option Addr × Nat) (fun k => [(0, su s9), (6, .pointer (some ⟨b1, 0, none⟩)), (7, su k.2.1.2), (8, .int .i64 k.1.2.1), (9, .int .i64 k.1.1)]) (fun k => [(b1, k.2.1.1.cl k.2.2.1 k.2.2.2, 36)]) (fun k => (SF.own w.heap.size 101 8 (.slice k.2.2.1 k.2.1.1.log.length k.2.2.2) k.2.1.1.log.length (flat k.2.1.1.log)).sep SF.top) (fun k => k.1.2.1 ≤ k.1.1 ∧ k.1.1 ≤ s9.length ∧ cutAt 10 s9 = k.1.2.2 ++ cutAt 10 (s9.drop k.1.2.1) ∧ (∀ y ∈ (s9.drop k.1.2.1).take (k.1.1 - k.1.2.1), y ≠ 10) ∧ worldErr k.2.1.1 = 0 ∧ playGo k.1.2.2 Wd.zero [] = (k.2.1.1, k.2.1.2) ∧ k.2.1.2.length ≤ 910 * k.1.2.2.length) (fun k => s9.length - k.1.1) ((0, 0, []), (Wd.zero, []), none, 0) ⟨Nat.le_refl _, Nat.zero_le _, rfl, fun y hy => by simp at hy, zero_right, rfl, Nat.le_refl _⟩ (fun a w s => s.weak (by repeat (first | exact sub_nil _ | refine sub_cons rfl ?_))) (fun k hk => ?_)
 obtain ⟨⟨i, fr, d⟩, ⟨x, o⟩, A1, c1⟩ := k
 obtain ⟨hfi, hil, hcut, hno, hwd, hpl, hol⟩ := hk
 dsimp only at hfi hil hcut hno hwd hpl hol ⊢
 have hdl : d.length ≤ 4097 := by
   have h1 := cutAt_len 10 s9
   rw [hcut] at h1
   simp at h1
   omega
 refine WC.seq ?_
 refine sR ?_
 refine pM rfl rfl ?_
 refine pM rfl rfl ?_
 refine pP (Y.lenU und9 rfl) rfl ?_
 refine pP (Y.lss rfl rfl) rfl ?_
 refine nN ?_
 refine WC.cond rfl (fun h50 => ?_) (fun h50 => ?_)
 refine WC.skip' ?_
 refine WQ.next ?_
 refine WC.seq ?_
 refine WC.block ?_
 refine WC.seq ?_
 have hi2 : i < s9.length := by have hh := h50; simp at hh; omega
 obtain ⟨x9, hx⟩ := get_of_lt hi2
 refine WC.region ?_
 refine pM rfl rfl ?_
 refine pM rfl rfl ?_
 refine pP (Y.ixU und9 hx rfl rfl rfl) rfl ?_
 refine pP (Y.eql rfl rfl) rfl ?_
 refine nN ?_
 refine WC.cond rfl (fun h56 => ?_) (fun h56 => ?_)
 have hlt : ((s9.drop fr).take (i - fr)).length ≤ 4096 := by rw [List.length_take, List.length_drop]; omega
 refine WC.cut (ι := {q9 : (Option Addr × Nat) × Bool // q9.2 = false → (lineOf x ((s9.drop fr).take (i - fr))).1 = x ∧ q9.1 = (A1, c1)} × Nat) (fun k => [(0, su s9), (6, .pointer (some ⟨b1, 0, none⟩)), (7, su o), (8, .int .i64 fr), (9, .int .i64 i), (10, .pointer (some ⟨k.2, 0, none⟩)), (11, su (lineOf x ((s9.drop fr).take (i - fr))).2.1), (12, .int .i64 (lineOf x ((s9.drop fr).take (i - fr))).2.2)]) (fun k => [(k.2, (lineOf x ((s9.drop fr).take (i - fr))).1.cl k.1.1.1.1 k.1.1.1.2, 36), (b1, x.cl A1 c1, 36)]) (fun k => (SF.fr w.heap.size (lineOf x ((s9.drop fr).take (i - fr))).1 k.1.1).sep ((SF.own w.heap.size 101 8 (.slice A1 x.log.length c1) x.log.length (flat x.log)).sep SF.top)) ?_ ?_
 refine WC.draw2 [(0, .q true), (1, .q false), (2, .q false), (3, .q false), (4, .q false), (5, .s false), (6, .q false), (7, .q false), (8, .q false), (9, .q false), (10, .s false), (11, .s true), (12, .q false), (13, .q false)] mixed ?_
 refine AD.quiet (i := 0) (imp := true) rfl (by kernel_rfl) (QS.val (Y.loadAN wd_36 rfl (by repeat (first | exact List.Mem.head _ | apply List.Mem.tail)) (r := x.cl A1 c1) rfl) rfl rfl) rfl rfl rfl ?_
 refine AD.quiet (i := 1) (imp := false) rfl (by kernel_rfl) (QS.pure (Y.move rfl) rfl rfl) rfl rfl rfl ?_
 refine AD.quiet (i := 2) (imp := false) rfl (by kernel_rfl) (QS.pure (Y.move rfl) rfl rfl) rfl rfl rfl ?_
 refine AD.quiet (i := 3) (imp := false) rfl (by kernel_rfl) (QS.pure (Y.move rfl) rfl rfl) rfl rfl rfl ?_
 refine AD.quiet (i := 4) (imp := false) rfl (by kernel_rfl) (QS.pure (Y.slBothU und9 hfi hil rfl rfl rfl rfl rfl) rfl rfl) rfl rfl rfl ?_
 refine AD.two (i := 5) (j := 10) (by kernel_rfl) rfl rfl (WS.free rfl (E.retX x A1 c1 (lineOf x ((s9.drop fr).take (i - fr))).1 [su (lineOf x ((s9.drop fr).take (i - fr))).2.1, .int .i64 (lineOf x ((s9.drop fr).take (i - fr))).2.2] Tryz.call15 rfl (fun _ w s => w_played x A1 (gOf A1) 0 c1 ((s9.drop fr).take (i - fr)) w (own_max s.fact.1) (own_le s.fact.1) (own_RL s.fact.1) hwd (by simp; omega)) rfl)) (fun _ => ext_newN rfl) (WS.free rfl (E.alloc Tryz.zeroValue36 rfl rfl)) (fun _ => ext_new rfl) (fun z => ?_) (fun b2 => ?_)
 refine AD.list [(6, .q false), (7, .q false), (8, .q false), (9, .q false), (10, .s false), (11, .s true), (12, .q false), (13, .q false)] (by kernel_rfl) ?_
 refine dP (Y.move rfl) rfl rfl ?_
 refine dP (Y.extract rfl rfl) rfl rfl ?_
 refine dP (Y.extract rfl rfl) rfl rfl ?_
 refine dP (Y.extract rfl rfl) rfl rfl ?_
 refine WDm.spec (WS.free rfl (E.alloc Tryz.zeroValue36 rfl rfl)) (fun _ => ext_new rfl) (fun b2 => ?_)
 refine WDm.spec (WS.free rfl (E.store Tryz.sizeOf36 rfl rfl rfl rfl rfl u0 rfl rfl)) (fun _ => sub_refl _) (fun _ => ?_)
 refine dP (Y.assign rfl) rfl rfl ?_
 refine dP (Y.assign rfl) rfl rfl ?_
 refine WDm.nil (WQ.and ?_)
 · exact fun a w s => ⟨rfl, (z, b2), s.weak (by repeat (first | exact sub_nil _ | refine sub_cons rfl ?_))⟩
 refine AD.list [(5, .s false), (6, .q false), (7, .q false), (8, .q false), (9, .q false), (11, .s true), (12, .q false), (13, .q false)] (by kernel_rfl) ?_
 refine WDm.spec (WS.free rfl (E.retX x A1 c1 (lineOf x ((s9.drop fr).take (i - fr))).1 [su (lineOf x ((s9.drop fr).take (i - fr))).2.1, .int .i64 (lineOf x ((s9.drop fr).take (i - fr))).2.2] Tryz.call15 rfl (fun _ w s => w_played x A1 (gOf A1) 0 c1 ((s9.drop fr).take (i - fr)) w (own_max s.fact.1) (own_le s.fact.1) (own_RL s.fact.1) hwd (by simp; omega)) rfl)) (fun _ => ext_newN rfl) (fun z => ?_)
 refine dP (Y.move rfl) rfl rfl ?_
 refine dP (Y.extract rfl rfl) rfl rfl ?_
 refine dP (Y.extract rfl rfl) rfl rfl ?_
 refine dP (Y.extract rfl rfl) rfl rfl ?_
 refine WDm.spec (WS.free rfl (E.store Tryz.sizeOf36 rfl rfl rfl rfl rfl u0 rfl rfl)) (fun _ => sub_refl _) (fun _ => ?_)
 refine dP (Y.assign rfl) rfl rfl ?_
 refine dP (Y.assign rfl) rfl rfl ?_
 refine WDm.nil (WQ.and ?_)
 · exact fun a w s => ⟨rfl, (z, b2), s.weak (by repeat (first | exact sub_nil _ | refine sub_cons rfl ?_))⟩
 rintro ⟨z, b2⟩
 dsimp only
 have hfn := line_fine hwd ((s9.drop fr).take (i - fr))
 obtain ⟨hf1, hf2, _, hf3⟩ := hfn
 refine WC.seq ?_
 refine sR ?_
 refine pM rfl rfl ?_
 refine pP (Y.eql rfl rfl) rfl ?_
 refine nN ?_
 refine WC.cond rfl (fun h68 => ?_) (fun h68 => ?_)
 refine WC.region ?_
 refine pV (Y.loadAN wd_36 rfl m0 (r := (lineOf x ((s9.drop fr).take (i - fr))).1.cl z.1.1.1 z.1.1.2) rfl) rfl ?_
 refine WL.eff (E.store Tryz.sizeOf36 rfl rfl rfl rfl rfl u1 rfl rfl) rfl (fun _ => ?_)
 refine nN ?_
 refine sR ?_
 refine pM rfl rfl ?_
 refine pM rfl rfl ?_
 refine pP (Y.addU (by omega) rfl rfl rfl rfl) rfl ?_
 refine pP (Y.addU (b := [10]) (by simp; omega) rfl rfl rfl rfl) rfl ?_
 refine pA rfl rfl ?_
 refine nN ?_
 refine WC.region ?_
 refine pM rfl rfl ?_
 refine pP (Y.add rfl rfl (i64_in (by omega) (by omega))) rfl ?_
 refine pA rfl rfl ?_
 refine WL.nil ?_
 refine WQ.blockEnd ?_
 refine WQ.next ?_
 refine WC.region ?_
 refine pM rfl rfl ?_
 refine pP (Y.add rfl rfl (i64_in (by omega) (by omega))) rfl ?_
 refine pA rfl rfl ?_
 refine WL.nil ?_
 · have eS : stepW x ((s9.drop fr).take (i - fr)) = (lineOf x ((s9.drop fr).take (i - fr))).1 := by unfold stepW; rw [if_pos (by have hh := h68; simpa using hh)]
   have eT : stepS x ((s9.drop fr).take (i - fr)) = (lineOf x ((s9.drop fr).take (i - fr))).2.1 := by unfold stepS; rw [if_pos (by have hh := h68; simpa using hh)]
   have hwx := step_right hwd ((s9.drop fr).take (i - fr))
   have hwl := step_len hwd ((s9.drop fr).take (i - fr))
   have hgo := play_step hpl ((s9.drop fr).take (i - fr))
   rw [eS] at hwx
   rw [eT] at hwl
   rw [eS, eT] at hgo
   refine WQ.le (fr_le z.2 _) ?_
   refine fun a2 w2 s => ⟨((i + 1, i + 1, d ++ [(s9.drop fr).take (i - fr)]), ((lineOf x ((s9.drop fr).take (i - fr))).1, o ++ ((lineOf x ((s9.drop fr).take (i - fr))).2.1 ++ [10])), z.1.1.1, z.1.1.2), ⟨Nat.le_refl _, by show i + 1 ≤ s9.length; omega, ?_, fun y hy => by simp at hy, hwx, hgo, ?_⟩, by show s9.length - (i + 1) < s9.length - i; omega, ?_⟩
   · show cutAt 10 s9 = (d ++ [(s9.drop fr).take (i - fr)]) ++ cutAt 10 (s9.drop (i + 1))
     obtain rfl : x9 = 10 := u8_ten.1 (by have hh := h56; simp at hh; omega)
     have e := cut_here hfi hx
     rw [hcut]
     conv => lhs; rw [e]
     rw [cut_yes 10 _ _ hno, List.append_assoc]
     rfl
   · show (o ++ ((lineOf x ((s9.drop fr).take (i - fr))).2.1 ++ [10])).length ≤ 910 * (d ++ [(s9.drop fr).take (i - fr)]).length
     simp only [List.length_append, List.length_singleton] at hwl ⊢
     omega
   · show St [(0, su s9), (6, .pointer (some ⟨b1, 0, none⟩)), (7, su (o ++ ((lineOf x ((s9.drop fr).take (i - fr))).2.1 ++ [10]))), (8, .int .i64 ((i + 1 : Nat) : Int)), (9, .int .i64 ((i + 1 : Nat) : Int))] _ _ _ _ _ _
     rw [← List.append_assoc]
     exact (s.sub (Hsub.of_sub (List.sublist_cons_self _ _))).weak (by repeat (first | exact sub_nil _ | refine sub_cons rfl ?_))
 refine WC.region ?_
 refine pM rfl rfl ?_
 refine WL.eff (E.call Tryz.call16 rfl (fun _ w s => (by have hd := w_digits (lineOf x ((s9.drop fr).take (i - fr))).2.2.toNat (by omega) w; rw [Int.toNat_of_nonneg hf1] at hd; exact hd)) rfl) rfl (fun _ => ?_)
 refine pP (Y.addU (a := sErr) (by have := digs_short (n := (lineOf x ((s9.drop fr).take (i - fr))).2.2.toNat) (by omega); have e : sErr.length = 6 := rfl; omega) rfl rfl rfl rfl) rfl ?_
 refine pA rfl rfl ?_
 refine nN ?_
 refine sR ?_
 refine pM rfl rfl ?_
 refine pM rfl rfl ?_
 refine pP (Y.addU (by have := digs_short (n := (lineOf x ((s9.drop fr).take (i - fr))).2.2.toNat) (by omega); have e : sErr.length = 6 := rfl; simp; omega) rfl rfl rfl rfl) rfl ?_
 refine pP (Y.addU (b := [10]) (by have := digs_short (n := (lineOf x ((s9.drop fr).take (i - fr))).2.2.toNat) (by omega); have e : sErr.length = 6 := rfl; simp; omega) rfl rfl rfl rfl) rfl ?_
 refine pA rfl rfl ?_
 refine nN ?_
 refine WC.region ?_
 refine pM rfl rfl ?_
 refine pP (Y.add rfl rfl (i64_in (by omega) (by omega))) rfl ?_
 refine pA rfl rfl ?_
 refine WL.nil ?_
 refine WQ.blockEnd ?_
 refine WQ.next ?_
 refine WC.region ?_
 refine pM rfl rfl ?_
 refine pP (Y.add rfl rfl (i64_in (by omega) (by omega))) rfl ?_
 refine pA rfl rfl ?_
 refine WL.nil ?_
 · have eS : stepW x ((s9.drop fr).take (i - fr)) = x := by unfold stepW; rw [if_neg (by have hh := h68; simpa using hh)]
   have eT : stepS x ((s9.drop fr).take (i - fr)) = sErr ++ digs (lineOf x ((s9.drop fr).take (i - fr))).2.2.toNat := by unfold stepS; rw [if_neg (by have hh := h68; simpa using hh)]
   have hwx := step_right hwd ((s9.drop fr).take (i - fr))
   have hwl := step_len hwd ((s9.drop fr).take (i - fr))
   have hgo := play_step hpl ((s9.drop fr).take (i - fr))
   rw [eS] at hwx
   rw [eT] at hwl
   rw [eS, eT] at hgo
   refine WQ.le (SF.sep_snd _ _) ?_
   refine fun a2 w2 s => ⟨((i + 1, i + 1, d ++ [(s9.drop fr).take (i - fr)]), (x, o ++ ((sErr ++ digs (lineOf x ((s9.drop fr).take (i - fr))).2.2.toNat) ++ [10])), A1, c1), ⟨Nat.le_refl _, by show i + 1 ≤ s9.length; omega, ?_, fun y hy => by simp at hy, hwx, hgo, ?_⟩, by show s9.length - (i + 1) < s9.length - i; omega, ?_⟩
   · show cutAt 10 s9 = (d ++ [(s9.drop fr).take (i - fr)]) ++ cutAt 10 (s9.drop (i + 1))
     obtain rfl : x9 = 10 := u8_ten.1 (by have hh := h56; simp at hh; omega)
     have e := cut_here hfi hx
     rw [hcut]
     conv => lhs; rw [e]
     rw [cut_yes 10 _ _ hno, List.append_assoc]
     rfl
   · show (o ++ ((sErr ++ digs (lineOf x ((s9.drop fr).take (i - fr))).2.2.toNat) ++ [10])).length ≤ 910 * (d ++ [(s9.drop fr).take (i - fr)]).length
     simp only [List.length_append, List.length_singleton] at hwl ⊢
     omega
   · show St [(0, su s9), (6, .pointer (some ⟨b1, 0, none⟩)), (7, su (o ++ ((sErr ++ digs (lineOf x ((s9.drop fr).take (i - fr))).2.2.toNat) ++ [10]))), (8, .int .i64 ((i + 1 : Nat) : Int)), (9, .int .i64 ((i + 1 : Nat) : Int))] _ _ _ _ _ _
     rw [← List.append_assoc]
     exact (s.sub (Hsub.of_sub (List.sublist_cons_self _ _))).weak (by repeat (first | exact sub_nil _ | refine sub_cons rfl ?_))
 refine WC.skip' ?_
 refine WQ.blockEnd ?_
 refine WQ.next ?_
 refine WC.region ?_
 refine pM rfl rfl ?_
 refine pP (Y.add rfl rfl (i64_in (by omega) (by omega))) rfl ?_
 refine pA rfl rfl ?_
 refine WL.nil ?_
 · refine fun a2 w2 s => ⟨((i + 1, fr, d), (x, o), A1, c1), ⟨by show fr ≤ i + 1; omega, by show i + 1 ≤ s9.length; omega, hcut, no_more hno hfi hx (by intro e; subst e; have hh := h56; simp at hh), hwd, hpl, hol⟩, by show s9.length - (i + 1) < s9.length - i; omega, ?_⟩
   show St [(0, su s9), (6, .pointer (some ⟨b1, 0, none⟩)), (7, su o), (8, .int .i64 fr), (9, .int .i64 ((i + 1 : Nat) : Int))] _ _ _ _ _ _
   exact s.weak (by repeat (first | exact sub_nil _ | refine sub_cons rfl ?_))
 refine WC.exit ?_
 refine WQ.thenExit ?_
 refine WQ.thenExit ?_
 refine WQ.blockExit ?_
 refine WQ.next ?_
 refine sR ?_
 refine pM rfl rfl ?_
 refine pA rfl rfl ?_
 refine pA rfl rfl ?_
 refine nN ?_
 refine WC.ret ?_
 refine WQ.done Tryz.results5 (RVs.cons (RV.tmp rfl) (RVs.cons (RV.tmp rfl) RVs.nil)) (fun a w s => ?_)
 · have hiE : i = s9.length := by have hh := h50; simp at hh; omega
   subst hiE
   have hl := lines_done hcut (by have h1 : (s9.drop fr).take (s9.length - fr) = s9.drop fr := List.take_of_length_le (by rw [List.length_drop]; omega); rw [h1] at hno; exact hno)
   rw [hE, hl, hpl]
   exact ⟨rfl, s.low⟩
 refine gF rfl ?_
 refine gF rfl ?_
 refine pP (Y.pickT rfl rfl) rfl ?_
 refine nN ?_
 refine WC.condT rfl ?_
 refine WC.seq ?_
 have hE : playOf s9 = ([], 2) := by
   unfold playOf
   rw [if_pos (hmany.2 (by have hh := h32; simp at hh; exact .inl (by omega)))]
 refine WC.region ?_
 refine pA rfl rfl ?_
 refine pA rfl rfl ?_
 refine nN ?_
 refine WC.ret ?_
 refine WQ.thenRet ?_
 refine WQ.done Tryz.results5 (RVs.cons (RV.tmp rfl) (RVs.cons (RV.tmp rfl) RVs.nil)) (fun a w s => ?_)
 · rw [hE]
   exact ⟨rfl, s.low⟩
end Go.Proofs.YtapkelocligmdaaGreatDoor
