/- Mend: the document's next. No condition. -/
import Derived.Test.YtdbcimadjmdffaaCq
set_option maxRecDepth 100000
set_option linter.unusedVariables false
set_option linter.unusedSimpArgs false
set_option linter.unusedSectionVars false
set_option maxHeartbeats 4000000
namespace Go.Proofs.Ytdbcimadjmdffaa
open Go.RowKit Go.Joins
theorem bestGo_filter (h : List R) : ∀ (l : List Int) (b : Int), bestGo h (l.filter fun t => stt h t == 1 || stt h t == 3) b = bestGo h l b
  | [], _ => rfl
  | t :: l, b => by
    by_cases hs : stt h t = 1 ∨ stt h t = 3
    · have e : (stt h t == 1 || stt h t == 3) = true := by rw [Bool.or_eq_true]; rcases hs with hs | hs <;> simp [hs]
      rw [List.filter_cons_of_pos (by simpa using e)]
      simp only [bestGo]
      rw [bestGo_filter h l]
    · have e : (stt h t == 1 || stt h t == 3) = false := by
        rw [Bool.or_eq_false_iff]
        exact ⟨by simp; omega, by simp; omega⟩
      rw [List.filter_cons_of_neg (by simp [e])]
      simp only [bestGo]
      rw [if_neg (fun hh => hs hh.1), bestGo_filter h l]
theorem best_losers (h : List R) : bestGo h (losersH h) 0 = bestH h := bestGo_filter h nine 0
theorem bestGo_hangs (h : List R) : ∀ (l : List Int) (b : Int), (b = 0 ∨ stt h b = 1 ∨ stt h b = 3) → (bestGo h l b = 0 ∨ stt h (bestGo h l b) = 1 ∨ stt h (bestGo h l b) = 3)
  | [], _, hb => hb
  | t :: l, b, hb => by
    simp only [bestGo]
    refine bestGo_hangs h l _ ?_
    split
    · rename_i hh; exact .inr hh.1
    · exact hb
theorem bestGo_take {h : List R} {L : List Int} {k : Nat} {t : Int} (hk : L[k]? = some t) : bestGo h (L.take (k + 1)) 0 = (if (stt h t = 1 ∨ stt h t = 3) ∧ (bestGo h (L.take k) 0 = 0 ∨ lastN h (bestGo h (L.take k) 0) < lastN h t) then t else bestGo h (L.take k) 0) := by
  obtain ⟨hl, he⟩ := List.getElem?_eq_some_iff.1 hk
  rw [List.take_succ_eq_append_getElem hl, bestGo_app, he]

theorem w_refNext (l : List R) (A : Option Addr) (b o c : Nat) (w : World) (hl : l.length ≤ 60) (hr : RL w A b o l) (hR : Right l.reverse) : Ret Try.prog 164 [.slice A l.length c] w (.tuple #[(nextR l.reverse).1.val, .bool (nextR l.reverse).2]) := by
 refine enter Try.func164 rfl Try.ntmps164 rfl SF.top trivial ?_
 refine sR ?_
 refine WL.eff (E.alloc Try.zeroValue34 rfl rfl) rfl (fun b1 => ?_)
 refine pA rfl rfl ?_
 refine nN ?_
 refine WC.seq ?_
 refine sR ?_
 refine pA rfl rfl ?_
 refine nN ?_
 refine WC.block ?_
 refine WC.loop (ι := Nat) (fun m => [(0, .slice A l.length c), (2, .pointer (some ⟨b1, 0, none⟩)), (4, .int .i64 ((m : Int) + 1))]) (fun _ => [(b1, R.zero.cl, 34)]) (fun _ => SF.top) (fun m => m ≤ 9 ∧ selT (fun t => stt l.reverse t == 2) m = []) (fun m => 9 - m) 0 ⟨Nat.zero_le _, rfl⟩ (fun a w s => s.weak (by repeat (first | exact sub_nil _ | refine sub_cons rfl ?_))) (fun m hm => ?_)
 obtain ⟨hm, hsm⟩ := hm
 refine WC.seq ?_
 refine sR ?_
 refine pM rfl rfl ?_
 refine pP (Y.leq rfl rfl) rfl ?_
 refine nN ?_
 refine WC.cond rfl (fun h9 => ?_) (fun h9 => ?_)
 refine WC.skip' ?_
 refine WQ.next ?_
 refine WC.seq ?_
 refine WC.block ?_
 refine WC.seq ?_
 have hm8 : m < 9 := by simp at h9; omega
 refine WC.region ?_
 refine pM rfl rfl ?_
 refine pM rfl rfl ?_
 refine WL.eff (E.call Try.call125 rfl (fun _ w s => w_state l A b o c ((m : Int) + 1) w hl (hr.below s.low)) rfl) rfl (fun _ => ?_)
 refine pP (Y.eql rfl rfl) rfl ?_
 refine nN ?_
 refine WC.cond rfl (fun h15 => ?_) (fun h15 => ?_)
 refine sR ?_
 refine pM rfl rfl ?_
 refine pM rfl rfl ?_
 refine pM rfl rfl ?_
 refine WL.eff (E.call Try.call126 rfl (fun _ w s => w_last l A b o c ((m : Int) + 1) w hl (hr.below s.low)) rfl) rfl (fun _ => ?_)
 refine pP (Y.build rfl (bf_34_0_1_2 _ _ _)) rfl ?_
 refine WL.eff (E.store Try.sizeOf34 rfl rfl rfl rfl rfl u0 rfl rfl) rfl (fun _ => ?_)
 refine pA rfl rfl ?_
 refine nN ?_
 refine WC.ret ?_
 refine WQ.blockRet ?_
 refine WQ.thenRet ?_
 refine WQ.thenRet ?_
 refine WQ.blockRet ?_
 refine WQ.thenRet ?_
 refine WQ.done Try.results164 (RVs.cons (RV.cell wd_34 rfl m0 rfl) (RVs.cons (RV.tmp rfl) RVs.nil)) (fun a w s => ?_)
 · have hf : (fun t => stt l.reverse t == 2) ((m : Int) + 1) = true := by have h15 := h15; simp at h15 ⊢; omega
   have e : nextR l.reverse = (enR ((m : Int) + 1) (lastN l.reverse ((m : Int) + 1)), true) := by
     unfold nextR nextH
     rw [show nine = tos 9 from rfl, find_tos (f := (fun t => stt l.reverse t == 2)) (fun _ => rfl) 9 m hm8 hsm hf]
   rw [e]
   exact ⟨rfl, s.low⟩
 refine WC.skip' ?_
 refine WQ.blockEnd ?_
 refine WQ.next ?_
 refine WC.region ?_
 refine pM rfl rfl ?_
 refine pP (Y.add rfl rfl (i64_in (by omega) (by omega))) rfl ?_
 refine pA rfl rfl ?_
 refine WL.nil ?_
 · have hf : (fun t => stt l.reverse t == 2) ((m : Int) + 1) = false := by have h15 := h15; simp at h15 ⊢; omega
   exact fun a w s => ⟨m + 1, ⟨by omega, by rw [selT_out hf]; exact hsm⟩, by omega, s.weak (by repeat (first | exact sub_nil _ | refine sub_cons rfl ?_))⟩
 refine WC.exit ?_
 refine WQ.thenExit ?_
 refine WQ.thenExit ?_
 refine WQ.blockExit ?_
 refine WQ.next ?_
 refine WC.seq ?_
 have em : m = 9 := by simp at h9; omega
 subst em
 have hs9 := hsm
 refine WC.region ?_
 refine pA rfl rfl ?_
 refine nN ?_
 refine WC.seq ?_
 refine sR ?_
 refine pM rfl rfl ?_
 refine WL.eff (E.callF (fun i : Option Addr × Nat => .slice i.1 (losersH l.reverse).length i.2) (fun i => SF.own w.heap.size 3 1 (.slice i.1 (losersH l.reverse).length i.2) (losersH l.reverse).length (ints (losersH l.reverse))) Try.call148 rfl (fun _ w s => (w_refLosers l A b o c w hl (hr.below s.low)).mono fun e w' ⟨i, he, hb, ho⟩ => ⟨i, he, hb, ownsRow_le ho s.low.size, fun g hg => .inl (ho.lt g hg).1⟩) rfl) rfl (fun i => ?_)
 refine pP (Y.len Try.underlying64 rfl) rfl ?_
 refine pM rfl rfl ?_
 refine nN ?_
 refine WC.block ?_
 have hll : (losersH l.reverse).length ≤ 9 := List.length_filter_le _ _
 refine WC.loop (ι := Nat) (fun k => [(0, .slice A l.length c), (2, .pointer (some ⟨b1, 0, none⟩)), (5, .int .i64 (bestGo l.reverse ((losersH l.reverse).take k) 0)), (22, .slice i.1 (losersH l.reverse).length i.2), (23, .int .i64 (losersH l.reverse).length), (24, .int .i64 k)]) (fun _ => [(b1, R.zero.cl, 34)]) (fun _ => SF.top.and (SF.own w.heap.size 3 1 (.slice i.1 (losersH l.reverse).length i.2) (losersH l.reverse).length (ints (losersH l.reverse)))) (fun k => k ≤ (losersH l.reverse).length) (fun k => (losersH l.reverse).length - k) 0 (Nat.zero_le _) (fun a w s => s.weak (by repeat (first | exact sub_nil _ | refine sub_cons rfl ?_))) (fun k hk => ?_)
 refine sR ?_
 refine pP (Y.lss rfl rfl) rfl ?_
 refine nN ?_
 refine WC.seq ?_
 refine WC.cond rfl (fun h25 => ?_) (fun h25 => ?_)
 refine WC.skip' ?_
 refine WQ.next ?_
 refine WC.seq ?_
 refine WC.block ?_
 refine WC.seq ?_
 have hkl : k < (losersH l.reverse).length := by simp at h25; omega
 obtain ⟨t9, ht9⟩ := get_of_lt (l := (losersH l.reverse)) (k := k) hkl
 refine WC.know (p := i.1 = some ⟨gOf i.1, 0, none⟩) (fun a w s => (own_IL rfl s.fact.2).addr ht9) (fun hA => ?_)
 refine WC.region ?_
 refine pP (Y.ixSlA (A := i.1) (b := gOf i.1) (o := 0) Try.underlying64 Try.sizeOf3 rfl rfl hA (by omega) (by omega)) rfl ?_
 refine pV (Y.loadc fl_3 rfl (v := .int .i64 t9) (fun a w s => by have hh := (own_IL rfl s.fact.2).cell k t9 ht9; simpa using hh)) rfl ?_
 refine pA rfl rfl ?_
 refine nN ?_
 refine sR ?_
 refine pM rfl rfl ?_
 refine pP (Y.eql rfl rfl) rfl ?_
 refine pM rfl rfl ?_
 refine WL.split (t := 30) rfl (fun r h30 => ?_)
 cases r
 refine gT rfl ?_
 refine pM rfl rfl ?_
 refine gT rfl ?_
 refine pM rfl rfl ?_
 refine gT rfl ?_
 refine WL.eff (E.call Try.call126 rfl (fun _ w s => w_last l A b o c t9 w hl (hr.below s.low)) rfl) rfl (fun _ => ?_)
 refine gT rfl ?_
 refine pM rfl rfl ?_
 refine gT rfl ?_
 refine pM rfl rfl ?_
 refine gT rfl ?_
 refine WL.eff (E.call Try.call126 rfl (fun _ w s => w_last l A b o c (bestGo l.reverse ((losersH l.reverse).take k) 0) w hl (hr.below s.low)) rfl) rfl (fun _ => ?_)
 refine gT rfl ?_
 refine pP (Y.gtr rfl rfl) rfl ?_
 refine pP (Y.pickF rfl rfl) rfl ?_
 refine nN ?_
 refine WC.cond rfl (fun h38 => ?_) (fun h38 => ?_)
 refine WC.region ?_
 refine pM rfl rfl ?_
 refine pA rfl rfl ?_
 refine WL.nil ?_
 refine WQ.blockEnd ?_
 refine WQ.next ?_
 refine WC.region ?_
 refine pP (Y.add rfl rfl (i64_in (by omega) (by omega))) rfl ?_
 refine pM rfl rfl ?_
 refine WL.nil ?_
 · have hst : stt l.reverse t9 = 1 ∨ stt l.reverse t9 = 3 := by
     have := (List.mem_filter.1 (List.mem_of_getElem? ht9)).2
     simp at this
     omega
   have e : (bestGo l.reverse ((losersH l.reverse).take (k + 1)) 0) = t9 := by
     rw [bestGo_take ht9]
     first
       | (rw [if_pos ⟨hst, by first | (left; have h30 := h30; simpa using h30) | (right; have h38 := h38; simp at h38; omega)⟩])
       | (rw [if_neg (fun hh => by have h30 := h30; have h38 := h38; simp at h30 h38; omega)])
   refine fun a w s => ⟨k + 1, by omega, by omega, ?_⟩
   rw [e]
   exact s.weak (by repeat (first | exact sub_nil _ | refine sub_cons rfl ?_))
 refine WC.skip' ?_
 refine WQ.blockEnd ?_
 refine WQ.next ?_
 refine WC.region ?_
 refine pP (Y.add rfl rfl (i64_in (by omega) (by omega))) rfl ?_
 refine pM rfl rfl ?_
 refine WL.nil ?_
 · have hst : stt l.reverse t9 = 1 ∨ stt l.reverse t9 = 3 := by
     have := (List.mem_filter.1 (List.mem_of_getElem? ht9)).2
     simp at this
     omega
   have e : (bestGo l.reverse ((losersH l.reverse).take (k + 1)) 0) = (bestGo l.reverse ((losersH l.reverse).take k) 0) := by
     rw [bestGo_take ht9]
     first
       | (rw [if_pos ⟨hst, by first | (left; have h30 := h30; simpa using h30) | (right; have h38 := h38; simp at h38; omega)⟩])
       | (rw [if_neg (fun hh => by have h30 := h30; have h38 := h38; simp at h30 h38; omega)])
   refine fun a w s => ⟨k + 1, by omega, by omega, ?_⟩
   rw [e]
   exact s.weak (by repeat (first | exact sub_nil _ | refine sub_cons rfl ?_))
 refine gF rfl ?_
 refine gF rfl ?_
 refine gF rfl ?_
 refine gF rfl ?_
 refine gF rfl ?_
 refine gF rfl ?_
 refine gF rfl ?_
 refine pP (Y.pickT rfl rfl) rfl ?_
 refine nN ?_
 refine WC.condT rfl ?_
 refine WC.region ?_
 refine pM rfl rfl ?_
 refine pA rfl rfl ?_
 refine WL.nil ?_
 refine WQ.blockEnd ?_
 refine WQ.next ?_
 refine WC.region ?_
 refine pP (Y.add rfl rfl (i64_in (by omega) (by omega))) rfl ?_
 refine pM rfl rfl ?_
 refine WL.nil ?_
 · have hst : stt l.reverse t9 = 1 ∨ stt l.reverse t9 = 3 := by
     have := (List.mem_filter.1 (List.mem_of_getElem? ht9)).2
     simp at this
     omega
   have e : (bestGo l.reverse ((losersH l.reverse).take (k + 1)) 0) = t9 := by
     rw [bestGo_take ht9]
     first
       | (rw [if_pos ⟨hst, by first | (left; have h30 := h30; simpa using h30) | (right; have h38 := h38; simp at h38; omega)⟩])
       | (rw [if_neg (fun hh => by have h30 := h30; have h38 := h38; simp at h30 h38; omega)])
   refine fun a w s => ⟨k + 1, by omega, by omega, ?_⟩
   rw [e]
   exact s.weak (by repeat (first | exact sub_nil _ | refine sub_cons rfl ?_))
 refine WC.exit ?_
 refine WQ.thenExit ?_
 refine WQ.thenExit ?_
 refine WQ.blockExit ?_
 refine WQ.next ?_
 refine WC.seq ?_
 refine sR ?_
 refine pM rfl rfl ?_
 refine pP (Y.eql rfl rfl) rfl ?_
 refine nN ?_
 refine WC.cond rfl (fun h42 => ?_) (fun h42 => ?_)
 refine sR ?_
 refine pP (Y.build rfl (bf_34 )) rfl ?_
 refine WL.eff (E.store Try.sizeOf34 rfl rfl rfl rfl rfl u0 rfl rfl) rfl (fun _ => ?_)
 refine pA rfl rfl ?_
 refine nN ?_
 refine WC.ret ?_
 refine WQ.thenRet ?_
 refine WQ.done Try.results164 (RVs.cons (RV.cell wd_34 rfl m0 rfl) (RVs.cons (RV.tmp rfl) RVs.nil)) (fun a w s => ?_)
 · have hnf : nine.find? (fun t => stt l.reverse t == 2) = none := find_none (f := (fun t => stt l.reverse t == 2)) (fun _ => rfl) (n := 9) hs9
   have ek : (bestGo l.reverse ((losersH l.reverse).take k) 0) = bestH l.reverse := by rw [List.take_of_length_le (by have h25 := h25; simp at h25; omega)]; exact best_losers _
   have e : nextR l.reverse = (R.zero, false) := by
     unfold nextR nextH
     rw [hnf, if_pos (by have h42 := h42; rw [ek] at h42; simpa using h42)]
   rw [e]
   exact ⟨rfl, s.low⟩
 refine WC.skip' ?_
 refine WQ.next ?_
 refine WC.seq ?_
 have hbh := bestGo_hangs l.reverse ((losersH l.reverse).take k) 0 (.inl rfl)
 have hb0 : (bestGo l.reverse ((losersH l.reverse).take k) 0) ≠ 0 := by have h42 := h42; simpa using h42
 have h4 : stt l.reverse (bestGo l.reverse ((losersH l.reverse).take k) 0) ≠ 4 := by omega
 refine WC.region ?_
 refine pM rfl rfl ?_
 refine pM rfl rfl ?_
 refine WL.eff (E.call Try.call142 rfl (fun _ w s => w_rolled l A b o c (bestGo l.reverse ((losersH l.reverse).take k) 0) w hl (hr.below s.low) hR h4) rfl) rfl (fun _ => ?_)
 refine WL.eff (E.store Try.sizeOf34 rfl rfl rfl rfl rfl u0 rfl rfl) rfl (fun _ => ?_)
 refine pA rfl rfl ?_
 refine nN ?_
 refine WC.ret ?_
 refine WQ.done Try.results164 (RVs.cons (RV.cell wd_34 rfl m0 rfl) (RVs.cons (RV.tmp rfl) RVs.nil)) (fun a w s => ?_)
 · have hnf : nine.find? (fun t => stt l.reverse t == 2) = none := find_none (f := (fun t => stt l.reverse t == 2)) (fun _ => rfl) (n := 9) hs9
   have ek : (bestGo l.reverse ((losersH l.reverse).take k) 0) = bestH l.reverse := by rw [List.take_of_length_le (by have h25 := h25; simp at h25; omega)]; exact best_losers _
   have e : nextR l.reverse = (undoB l.reverse (bestH l.reverse), true) := by
     unfold nextR nextH
     rw [hnf, if_neg (by have h42 := h42; rw [ek] at h42; simpa using h42)]
   rw [e, ← ek]
   exact ⟨rfl, s.low⟩
end Go.Proofs.Ytdbcimadjmdffaa
