/- Acts: All; the document's DoOf and DoneOf. No condition. -/
import Derived.Test.YtdbcimadjmdffaaDa
import Derived.Test.YtdbcimadjmdffaaXm
import Derived.Test.YtdbcimadjmdffaaSe
set_option maxRecDepth 100000
set_option linter.unusedVariables false
set_option linter.unusedSimpArgs false
set_option linter.unusedSectionVars false
set_option maxHeartbeats 4000000
namespace Go.Proofs.Ytdbcimadjmdffaa
open Go.RowKit Go.Joins
theorem w_doOf (x : Wd) (A : Option Addr) (b o c : Nat) (y : Ac) (w : World) (hm : x.log.length ≤ maxLen) (hcap : x.log.length ≤ c) (hr : RL w A b o x.log) : RetW Try.prog 105 [x.val A c, y.v] w (doOf x y).1 [.int .i64 (doOf x y).2] := by
 refine enter Try.func105 rfl Try.ntmps105 rfl SF.top trivial ?_
 refine sR ?_
 refine WL.eff (E.box rfl rfl rfl) rfl (fun b1 => ?_)
 refine WL.eff (E.box rfl rfl rfl) rfl (fun b2 => ?_)
 refine WL.eff (E.alloc Try.zeroValue54 rfl rfl) rfl (fun b3 => ?_)
 refine pA rfl rfl ?_
 refine nN ?_
 refine WC.seq ?_
 refine sR ?_
 refine pP (Y.fieldAddr fa_61_0 rfl) rfl ?_
 refine pV (Y.load fl_3 rfl m1 rfl) rfl ?_
 refine nN ?_
 refine WC.block ?_
 refine sR ?_
 refine pP (Y.eql rfl rfl) rfl ?_
 refine pA rfl rfl ?_
 refine nN ?_
 refine WC.cond rfl (fun h11 => ?_) (fun h11 => ?_)
 refine sR ?_
 refine pV (Y.loadAN wd_54 rfl m2 (r := x.cl A c) rfl) rfl ?_
 refine pP (Y.fieldAddr fa_61_1 rfl) rfl ?_
 refine pV (Y.load fl_3 rfl m1 rfl) rfl ?_
 refine pP (Y.fieldAddr fa_61_2 rfl) rfl ?_
 refine pV (Y.load fl_3 rfl m1 rfl) rfl ?_
 refine pP (Y.fieldAddr fa_61_3 rfl) rfl ?_
 refine pV (Y.load fl_3 rfl m1 rfl) rfl ?_
 refine pP (Y.fieldAddr fa_61_4 rfl) rfl ?_
 refine pV (Y.load fl_3 rfl m1 rfl) rfl ?_
 refine WL.eff (E.retW ((writeTo x y.txn y.page y.cell y.val).1) [.int .i64 (writeTo x y.txn y.page y.cell y.val).2] Try.call91 rfl (fun _ w s => w_writeTo x A b o c y.txn y.page y.cell y.val w hm hcap (hr.below s.low)) rfl) rfl (fun i => ?_)
 refine pP (Y.extract rfl rfl) rfl ?_
 refine pP (Y.extract rfl rfl) rfl ?_
 refine WL.eff (E.store Try.sizeOf54 rfl rfl rfl rfl rfl u0 rfl rfl) rfl (fun _ => ?_)
 refine pA rfl rfl ?_
 refine nN ?_
 refine WC.ret ?_
 refine WQ.blockRet ?_
 refine WQ.thenRet ?_
 refine WQ.done Try.results105 (RVs.cons (RV.cell wd_54 rfl m0 rfl) (RVs.cons (RV.tmp rfl) RVs.nil)) (fun a w s => ?_)
 · have e : doOf x y = writeTo x y.txn y.page y.cell y.val := by
     unfold doOf
     rw [if_pos (by simpa using h11)]
   rw [e]
   exact ⟨i, rfl, s.low, s.fact.1⟩
 refine sR ?_
 refine pP (Y.eql rfl rfl) rfl ?_
 refine pA rfl rfl ?_
 refine nN ?_
 refine WC.cond rfl (fun h25 => ?_) (fun h25 => ?_)
 refine sR ?_
 refine pV (Y.loadAN wd_54 rfl m2 (r := x.cl A c) rfl) rfl ?_
 refine pP (Y.fieldAddr fa_61_1 rfl) rfl ?_
 refine pV (Y.load fl_3 rfl m1 rfl) rfl ?_
 refine WL.eff (E.retW ((commitOf x y.txn).1) [.int .i64 (commitOf x y.txn).2] Try.call93 rfl (fun _ w s => w_commitOf x A b o c y.txn w hm hcap (hr.below s.low)) rfl) rfl (fun i => ?_)
 refine pP (Y.extract rfl rfl) rfl ?_
 refine pP (Y.extract rfl rfl) rfl ?_
 refine WL.eff (E.store Try.sizeOf54 rfl rfl rfl rfl rfl u0 rfl rfl) rfl (fun _ => ?_)
 refine pA rfl rfl ?_
 refine nN ?_
 refine WC.ret ?_
 refine WQ.blockRet ?_
 refine WQ.thenRet ?_
 refine WQ.done Try.results105 (RVs.cons (RV.cell wd_54 rfl m0 rfl) (RVs.cons (RV.tmp rfl) RVs.nil)) (fun a w s => ?_)
 · have e : doOf x y = commitOf x y.txn := by
     unfold doOf
     rw [if_neg (by simpa using h11), if_pos (by simpa using h25)]
   rw [e]
   exact ⟨i, rfl, s.low, s.fact.1⟩
 refine sR ?_
 refine pP (Y.eql rfl rfl) rfl ?_
 refine pA rfl rfl ?_
 refine nN ?_
 refine WC.cond rfl (fun h33 => ?_) (fun h33 => ?_)
 refine sR ?_
 refine pV (Y.loadAN wd_54 rfl m2 (r := x.cl A c) rfl) rfl ?_
 refine pP (Y.fieldAddr fa_61_1 rfl) rfl ?_
 refine pV (Y.load fl_3 rfl m1 rfl) rfl ?_
 refine WL.eff (E.retW ((abortOf x y.txn).1) [.int .i64 (abortOf x y.txn).2] Try.call89 rfl (fun _ w s => w_abortOf x A b o c y.txn w hm hcap (hr.below s.low)) rfl) rfl (fun i => ?_)
 refine pP (Y.extract rfl rfl) rfl ?_
 refine pP (Y.extract rfl rfl) rfl ?_
 refine WL.eff (E.store Try.sizeOf54 rfl rfl rfl rfl rfl u0 rfl rfl) rfl (fun _ => ?_)
 refine pA rfl rfl ?_
 refine nN ?_
 refine WC.ret ?_
 refine WQ.blockRet ?_
 refine WQ.thenRet ?_
 refine WQ.done Try.results105 (RVs.cons (RV.cell wd_54 rfl m0 rfl) (RVs.cons (RV.tmp rfl) RVs.nil)) (fun a w s => ?_)
 · have e : doOf x y = abortOf x y.txn := by
     unfold doOf
     rw [if_neg (by simpa using h11), if_neg (by simpa using h25), if_pos (by simpa using h33)]
   rw [e]
   exact ⟨i, rfl, s.low, s.fact.1⟩
 refine sR ?_
 refine pP (Y.eql rfl rfl) rfl ?_
 refine pA rfl rfl ?_
 refine nN ?_
 refine WC.cond rfl (fun h41 => ?_) (fun h41 => ?_)
 refine sR ?_
 refine pV (Y.loadAN wd_54 rfl m2 (r := x.cl A c) rfl) rfl ?_
 refine pP (Y.fieldAddr fa_61_4 rfl) rfl ?_
 refine pV (Y.load fl_3 rfl m1 rfl) rfl ?_
 refine WL.eff (E.retW ((syncOf x y.val).1) [.int .i64 (syncOf x y.val).2] Try.call80 rfl (fun _ w s => w_syncOf x A b o c y.val w hm hcap (hr.below s.low)) rfl) rfl (fun i => ?_)
 refine pP (Y.extract rfl rfl) rfl ?_
 refine pP (Y.extract rfl rfl) rfl ?_
 refine WL.eff (E.store Try.sizeOf54 rfl rfl rfl rfl rfl u0 rfl rfl) rfl (fun _ => ?_)
 refine pA rfl rfl ?_
 refine nN ?_
 refine WC.ret ?_
 refine WQ.blockRet ?_
 refine WQ.thenRet ?_
 refine WQ.done Try.results105 (RVs.cons (RV.cell wd_54 rfl m0 rfl) (RVs.cons (RV.tmp rfl) RVs.nil)) (fun a w s => ?_)
 · have e : doOf x y = syncOf x y.val := by
     unfold doOf
     rw [if_neg (by simpa using h11), if_neg (by simpa using h25), if_neg (by simpa using h33), if_pos (by simpa using h41)]
   rw [e]
   exact ⟨i, rfl, s.low, s.fact.1⟩
 refine sR ?_
 refine pP (Y.eql rfl rfl) rfl ?_
 refine pA rfl rfl ?_
 refine nN ?_
 refine WC.cond rfl (fun h49 => ?_) (fun h49 => ?_)
 refine sR ?_
 refine pV (Y.loadAN wd_54 rfl m2 (r := x.cl A c) rfl) rfl ?_
 refine pP (Y.fieldAddr fa_61_2 rfl) rfl ?_
 refine pV (Y.load fl_3 rfl m1 rfl) rfl ?_
 refine WL.eff (E.retW ((flushOf x y.page).1) [.int .i64 (flushOf x y.page).2] Try.call81 rfl (fun _ w s => w_flushOf x A b o c y.page w hm hcap (hr.below s.low)) rfl) rfl (fun i => ?_)
 refine pP (Y.extract rfl rfl) rfl ?_
 refine pP (Y.extract rfl rfl) rfl ?_
 refine WL.eff (E.store Try.sizeOf54 rfl rfl rfl rfl rfl u0 rfl rfl) rfl (fun _ => ?_)
 refine pA rfl rfl ?_
 refine nN ?_
 refine WC.ret ?_
 refine WQ.blockRet ?_
 refine WQ.thenRet ?_
 refine WQ.done Try.results105 (RVs.cons (RV.cell wd_54 rfl m0 rfl) (RVs.cons (RV.tmp rfl) RVs.nil)) (fun a w s => ?_)
 · have e : doOf x y = flushOf x y.page := by
     unfold doOf
     rw [if_neg (by simpa using h11), if_neg (by simpa using h25), if_neg (by simpa using h33), if_neg (by simpa using h41), if_pos (by simpa using h49)]
   rw [e]
   exact ⟨i, rfl, s.low, s.fact.1⟩
 refine sR ?_
 refine pP (Y.eql rfl rfl) rfl ?_
 refine pA rfl rfl ?_
 refine nN ?_
 refine WC.cond rfl (fun h57 => ?_) (fun h57 => ?_)
 refine sR ?_
 refine pV (Y.loadAN wd_54 rfl m2 (r := x.cl A c) rfl) rfl ?_
 refine WL.eff (E.retW ((mendOf x (-1) true true true).1) [.int .i64 (mendOf x (-1) true true true).2.1, .int .i64 (mendOf x (-1) true true true).2.2] Try.call101 rfl (fun _ w s => w_refMendAll x A b o c w hm hcap (hr.below s.low)) rfl) rfl (fun i => ?_)
 refine pM rfl rfl ?_
 refine pP (Y.extract rfl rfl) rfl ?_
 refine pP (Y.extract rfl rfl) rfl ?_
 refine pP (Y.extract rfl rfl) rfl ?_
 refine WL.eff (E.alloc Try.zeroValue54 rfl rfl) rfl (fun b4 => ?_)
 refine WL.eff (E.store Try.sizeOf54 rfl rfl rfl rfl rfl u0 rfl rfl) rfl (fun _ => ?_)
 refine pA rfl rfl ?_
 refine pA rfl rfl ?_
 refine nN ?_
 refine sR ?_
 refine pV (Y.loadAN wd_54 rfl m0 (r := (mendOf x (-1) true true true).1.cl i.1 i.2) rfl) rfl ?_
 refine pM rfl rfl ?_
 refine WL.eff (E.store Try.sizeOf54 rfl rfl rfl rfl rfl u1 rfl rfl) rfl (fun _ => ?_)
 refine pA rfl rfl ?_
 refine nN ?_
 refine WC.ret ?_
 refine WQ.blockRet ?_
 refine WQ.thenRet ?_
 refine WQ.done Try.results105 (RVs.cons (RV.cell wd_54 rfl m1 rfl) (RVs.cons (RV.tmp rfl) RVs.nil)) (fun a w s => ?_)
 · have e : doOf x y = ((mendOf x (-1) true true true).1, (mendOf x (-1) true true true).2.2) := by
     unfold doOf
     rw [if_neg (by simpa using h11), if_neg (by simpa using h25), if_neg (by simpa using h33), if_neg (by simpa using h41), if_neg (by simpa using h49), if_pos (by simpa using h57)]
   rw [e]
   exact ⟨i, rfl, s.low, s.fact.1⟩
 refine WC.skip' ?_
 refine WQ.blockEnd ?_
 refine WQ.next ?_
 refine sR ?_
 refine pP (Y.build rfl (bf_54 )) rfl ?_
 refine WL.eff (E.store Try.sizeOf54 rfl rfl rfl rfl rfl u0 rfl rfl) rfl (fun _ => ?_)
 refine pA rfl rfl ?_
 refine nN ?_
 refine WC.ret ?_
 refine WQ.done Try.results105 (RVs.cons (RV.cell wd_54 rfl m0 rfl) (RVs.cons (RV.tmp rfl) RVs.nil)) (fun a w s => ?_)
 · have e : doOf x y = (Wd.zero, 4) := by
     unfold doOf
     rw [if_neg (by simpa using h11), if_neg (by simpa using h25), if_neg (by simpa using h33), if_neg (by simpa using h41), if_neg (by simpa using h49), if_neg (by simpa using h57)]
   rw [e]
   exact ⟨(none, 0), rfl, s.low, own_nil _ _ _ _⟩

theorem w_begin (w : World) : Ret Try.prog 138 [] w (Wd.zero.val none 0) := by
 refine enter Try.func138 rfl Try.ntmps138 rfl SF.top trivial ?_
 refine sR ?_
 refine WL.eff (E.alloc Try.zeroValue54 rfl rfl) rfl (fun b1 => ?_)
 refine nN ?_
 refine sR ?_
 refine pP (Y.build rfl (bf_54 )) rfl ?_
 refine WL.eff (E.store Try.sizeOf54 rfl rfl rfl rfl rfl u0 rfl rfl) rfl (fun _ => ?_)
 refine nN ?_
 refine WC.ret ?_
 refine WQ.done Try.results138 (RVs.cons (RV.cell wd_54 rfl m0 rfl) RVs.nil) (fun a w s => ?_)
 · exact ⟨rfl, s.low⟩

theorem done_step {l : List Ac} {m : Nat} {a : Ac} (h : l[m]? = some a) (w : Wd) (n : Nat) : doneGo (l.drop m) w n = if (doOf w a).2 = 0 then doneGo (l.drop (m + 1)) (doOf w a).1 (n + 1) else doneGo (l.drop (m + 1)) w n := by
  obtain ⟨hl, e⟩ := List.getElem?_eq_some_iff.1 h
  rw [List.drop_eq_getElem_cons hl, e]
  rfl
theorem done_all (l : List Ac) (w : Wd) (n : Nat) : doneGo (l.drop l.length) w n = (w, n) := by rw [List.drop_length]; rfl

theorem w_actAll (l : List Ac) (A7 : Option Addr) (b7 o7 c7 : Nat) (w : World) (hm : l.length ≤ maxLen) (hal : AL w A7 b7 o7 l) : RetW Try.prog 106 [.slice A7 l.length c7] w (doneOf l).1 [.int .i64 (doneOf l).2.1, .int .i64 (doneOf l).2.2] := by
 refine enter Try.func106 rfl Try.ntmps106 rfl SF.top trivial ?_
 refine sR ?_
 refine WL.eff (E.alloc Try.zeroValue54 rfl rfl) rfl (fun b1 => ?_)
 refine pA rfl rfl ?_
 refine pA rfl rfl ?_
 refine nN ?_
 refine WC.seq ?_
 refine sR ?_
 refine pM rfl rfl ?_
 refine pP (Y.len Try.underlying55 rfl) rfl ?_
 refine pP (Y.gtr rfl rfl) rfl ?_
 refine nN ?_
 refine WC.cond rfl (fun h13 => ?_) (fun h13 => ?_)
 refine sR ?_
 refine pP (Y.build rfl (bf_54 )) rfl ?_
 refine WL.eff (E.store Try.sizeOf54 rfl rfl rfl rfl rfl u0 rfl rfl) rfl (fun _ => ?_)
 refine pA rfl rfl ?_
 refine pA rfl rfl ?_
 refine nN ?_
 refine WC.ret ?_
 refine WQ.thenRet ?_
 refine WQ.done Try.results106 (RVs.cons (RV.cell wd_54 rfl m0 rfl) (RVs.cons (RV.tmp rfl) (RVs.cons (RV.tmp rfl) RVs.nil))) (fun a w s => ?_)
 · have e : doneOf l = (Wd.zero, 0, 2) := by unfold doneOf; rw [if_neg (by have h13 := h13; simp at h13; omega)]
   rw [e]
   exact ⟨(none, 0), rfl, s.low, own_nil _ _ _ _⟩
 refine WC.skip' ?_
 refine WQ.next ?_
 refine WC.seq ?_
 have hl60 : l.length ≤ 60 := by have h13 := h13; simp at h13; omega
 refine WC.region ?_
 refine WL.eff (E.call Try.call138 rfl (fun _ w s => w_begin w) rfl) rfl (fun _ => ?_)
 refine WL.eff (E.alloc Try.zeroValue54 rfl rfl) rfl (fun b2 => ?_)
 refine WL.eff (E.store Try.sizeOf54 rfl rfl rfl rfl rfl u0 rfl rfl) rfl (fun _ => ?_)
 refine pA rfl rfl ?_
 refine nN ?_
 refine WC.seq ?_
 refine sR ?_
 refine pM rfl rfl ?_
 refine pP (Y.len Try.underlying55 rfl) rfl ?_
 refine pM rfl rfl ?_
 refine nN ?_
 refine WC.block ?_
 refine WC.le (nil_sep w.heap.size 34 8 _) ?_
 refine WC.loop (ι := Nat × (Wd × Nat) × Option Addr × Nat) (fun k => [(2, .pointer (some ⟨b1, 0, none⟩)), (5, .pointer (some ⟨b2, 0, none⟩)), (6, .int .i64 k.2.1.2), (16, .slice A7 l.length c7), (17, .int .i64 l.length), (18, .int .i64 k.1)]) (fun k => [(b2, k.2.1.1.cl k.2.2.1 k.2.2.2, 54), (b1, Wd.zero.cl none 0, 54)]) (fun k => (SF.own w.heap.size 34 8 (.slice k.2.2.1 k.2.1.1.log.length k.2.2.2) k.2.1.1.log.length (flat k.2.1.1.log)).sep SF.top) (fun k => doneGo l Wd.zero 0 = doneGo (l.drop k.1) k.2.1.1 k.2.1.2 ∧ k.1 ≤ l.length ∧ k.2.1.2 ≤ k.1) (fun k => l.length - k.1) (0, (Wd.zero, 0), none, 0) ⟨rfl, Nat.zero_le _, Nat.le_refl _⟩ (fun a w s => s.weak (by repeat (first | exact sub_nil _ | refine sub_cons rfl ?_))) (fun k hk => ?_)
 obtain ⟨m, ⟨w1, n⟩, A1, c1⟩ := k
 obtain ⟨hgo, hml, hnm⟩ := hk
 dsimp only at hgo hml hnm ⊢
 refine sR ?_
 refine pP (Y.lss rfl rfl) rfl ?_
 refine nN ?_
 refine WC.seq ?_
 refine WC.cond rfl (fun h19 => ?_) (fun h19 => ?_)
 refine WC.skip' ?_
 refine WQ.next ?_
 refine WC.seq ?_
 refine WC.block ?_
 refine WC.seq ?_
 have hml2 : m < l.length := by have h19 := h19; simp at h19; omega
 obtain ⟨a1, ha⟩ := get_of_lt (l := l) (k := m) hml2
 have hAx := hal.addr ha
 refine WC.region ?_
 refine pP (Y.ixSlA (A := A7) (b := b7) (o := o7) Try.underlying55 Try.sizeOf61 rfl rfl hAx (nat0 _) (get_ltI ha)) rfl ?_
 refine pV (Y.loadAc wd_61 rfl (r := a1.cl) rfl (fun _ w s j hj => (hal.below s.low).full (fun _ => rfl) ha j hj)) rfl ?_
 refine WL.eff (E.alloc Try.zeroValue61 rfl rfl) rfl (fun b3 => ?_)
 refine WL.eff (E.store Try.sizeOf61 rfl rfl rfl rfl rfl u0 rfl rfl) rfl (fun _ => ?_)
 refine nN ?_
 refine sR ?_
 refine pV (Y.loadAN wd_54 rfl m1 (r := w1.cl A1 c1) rfl) rfl ?_
 refine pV (Y.loadAN wd_61 rfl m0 (r := a1.cl) rfl) rfl ?_
 refine WL.eff (E.retW ((doOf w1 a1).1) [.int .i64 (doOf w1 a1).2] Try.call65 rfl (fun _ w s => w_actDo w1 A1 (gOf A1) 0 c1 a1 w (own_max s.fact.1) (own_le s.fact.1) (own_RL s.fact.1)) rfl) rfl (fun z => ?_)
 refine pM rfl rfl ?_
 refine pP (Y.extract rfl rfl) rfl ?_
 refine pP (Y.extract rfl rfl) rfl ?_
 refine WL.eff (E.alloc Try.zeroValue54 rfl rfl) rfl (fun b4 => ?_)
 refine WL.eff (E.store Try.sizeOf54 rfl rfl rfl rfl rfl u0 rfl rfl) rfl (fun _ => ?_)
 refine pA rfl rfl ?_
 refine nN ?_
 refine sR ?_
 refine pM rfl rfl ?_
 refine pP (Y.eql rfl rfl) rfl ?_
 refine nN ?_
 refine WC.cond rfl (fun h29 => ?_) (fun h29 => ?_)
 refine sR ?_
 refine pV (Y.loadAN wd_54 rfl m0 (r := (doOf w1 a1).1.cl z.1 z.2) rfl) rfl ?_
 refine WL.eff (E.store Try.sizeOf54 rfl rfl rfl rfl rfl u2 rfl rfl) rfl (fun _ => ?_)
 refine nN ?_
 refine WC.region ?_
 refine pM rfl rfl ?_
 refine pP (Y.add rfl rfl (i64_in (by omega) (by omega))) rfl ?_
 refine pA rfl rfl ?_
 refine WL.nil ?_
 refine WQ.blockEnd ?_
 refine WQ.next ?_
 refine WC.region ?_
 refine pP (Y.add rfl rfl (i64_in (by omega) (by omega))) rfl ?_
 refine pM rfl rfl ?_
 refine WL.nil ?_
 · refine WQ.le (SF.sep_mono (SF.le_refl _) (SF.sep_snd _ _)) ?_
   refine fun a w s => ⟨(m + 1, ((doOf w1 a1).1, n + 1), z), ⟨?_, by show m + 1 ≤ l.length; omega, by show n + 1 ≤ m + 1; omega⟩, by show l.length - (m + 1) < l.length - m; omega, ?_⟩
   · rw [hgo, done_step ha, if_pos (by have h29 := h29; simpa using h29)]
   · exact (s.sub ⟨_, List.Perm.refl _, List.Sublist.cons _ (List.Sublist.cons _ (List.Sublist.refl _))⟩).weak (by repeat (first | exact sub_nil _ | refine sub_cons rfl ?_))
 refine WC.skip' ?_
 refine WQ.blockEnd ?_
 refine WQ.next ?_
 refine WC.region ?_
 refine pP (Y.add rfl rfl (i64_in (by omega) (by omega))) rfl ?_
 refine pM rfl rfl ?_
 refine WL.nil ?_
 · refine WQ.le (SF.sep_snd _ _) ?_
   refine fun a w s => ⟨(m + 1, (w1, n), A1, c1), ⟨?_, by show m + 1 ≤ l.length; omega, by show n ≤ m + 1; omega⟩, by show l.length - (m + 1) < l.length - m; omega, ?_⟩
   · rw [hgo, done_step ha, if_neg (by have h29 := h29; simpa using h29)]
   · exact (s.sub ⟨_, List.Perm.refl _, List.Sublist.cons _ (List.Sublist.cons _ (List.Sublist.refl _))⟩).weak (by repeat (first | exact sub_nil _ | refine sub_cons rfl ?_))
 refine WC.exit ?_
 refine WQ.thenExit ?_
 refine WQ.thenExit ?_
 refine WQ.blockExit ?_
 refine WQ.next ?_
 refine sR ?_
 refine pV (Y.loadAN wd_54 rfl m0 (r := w1.cl A1 c1) rfl) rfl ?_
 refine pM rfl rfl ?_
 refine WL.eff (E.store Try.sizeOf54 rfl rfl rfl rfl rfl u1 rfl rfl) rfl (fun _ => ?_)
 refine pA rfl rfl ?_
 refine pA rfl rfl ?_
 refine nN ?_
 refine WC.ret ?_
 refine WQ.done Try.results106 (RVs.cons (RV.cell wd_54 rfl m1 rfl) (RVs.cons (RV.tmp rfl) (RVs.cons (RV.tmp rfl) RVs.nil))) (fun a w s => ?_)
 · have e : doneOf l = (w1, (n : Int), 0) := by
     unfold doneOf
     rw [if_pos hl60, hgo, show m = l.length by have h19 := h19; simp at h19; omega, done_all]
   rw [e]
   exact ⟨(A1, c1), rfl, s.low, s.fact.1⟩

theorem w_doneOf (l : List Ac) (A7 : Option Addr) (b7 o7 c7 : Nat) (w : World) (hm : l.length ≤ maxLen) (hal : AL w A7 b7 o7 l) : RetW Try.prog 107 [.slice A7 l.length c7] w (doneOf l).1 [.int .i64 (doneOf l).2.1, .int .i64 (doneOf l).2.2] := by
 refine enter Try.func107 rfl Try.ntmps107 rfl SF.top trivial ?_
 refine sR ?_
 refine WL.eff (E.alloc Try.zeroValue54 rfl rfl) rfl (fun b1 => ?_)
 refine pA rfl rfl ?_
 refine pA rfl rfl ?_
 refine nN ?_
 refine WC.seq ?_
 refine sR ?_
 refine pM rfl rfl ?_
 refine pP (Y.len Try.underlying55 rfl) rfl ?_
 refine pP (Y.gtr rfl rfl) rfl ?_
 refine nN ?_
 refine WC.cond rfl (fun h12 => ?_) (fun h12 => ?_)
 refine sR ?_
 refine pP (Y.build rfl (bf_54 )) rfl ?_
 refine WL.eff (E.store Try.sizeOf54 rfl rfl rfl rfl rfl u0 rfl rfl) rfl (fun _ => ?_)
 refine pA rfl rfl ?_
 refine pA rfl rfl ?_
 refine nN ?_
 refine WC.ret ?_
 refine WQ.thenRet ?_
 refine WQ.done Try.results107 (RVs.cons (RV.cell wd_54 rfl m0 rfl) (RVs.cons (RV.tmp rfl) (RVs.cons (RV.tmp rfl) RVs.nil))) (fun a w s => ?_)
 · have e : doneOf l = (Wd.zero, 0, 2) := by unfold doneOf; rw [if_neg (by have h12 := h12; simp at h12; omega)]
   rw [e]
   exact ⟨(none, 0), rfl, s.low, own_nil _ _ _ _⟩
 refine WC.skip' ?_
 refine WQ.next ?_
 refine WC.seq ?_
 have hl60 : l.length ≤ 60 := by have h12 := h12; simp at h12; omega
 refine WC.region ?_
 refine WL.eff (E.alloc Try.zeroValue54 rfl rfl) rfl (fun b2 => ?_)
 refine nN ?_
 refine sR ?_
 refine pA rfl rfl ?_
 refine nN ?_
 refine WC.seq ?_
 refine sR ?_
 refine pA rfl rfl ?_
 refine nN ?_
 refine WC.block ?_
 refine WC.le (nil_sep w.heap.size 34 8 _) ?_
 refine WC.loop (ι := Nat × (Wd × Nat) × Option Addr × Nat) (fun k => [(0, .slice A7 l.length c7), (2, .pointer (some ⟨b1, 0, none⟩)), (5, .pointer (some ⟨b2, 0, none⟩)), (6, .int .i64 k.2.1.2), (7, .int .i64 k.1)]) (fun k => [(b2, k.2.1.1.cl k.2.2.1 k.2.2.2, 54), (b1, Wd.zero.cl none 0, 54)]) (fun k => (SF.own w.heap.size 34 8 (.slice k.2.2.1 k.2.1.1.log.length k.2.2.2) k.2.1.1.log.length (flat k.2.1.1.log)).sep SF.top) (fun k => doneGo l Wd.zero 0 = doneGo (l.drop k.1) k.2.1.1 k.2.1.2 ∧ k.1 ≤ l.length ∧ k.2.1.2 ≤ k.1) (fun k => l.length - k.1) (0, (Wd.zero, 0), none, 0) ⟨rfl, Nat.zero_le _, Nat.le_refl _⟩ (fun a w s => s.weak (by repeat (first | exact sub_nil _ | refine sub_cons rfl ?_))) (fun k hk => ?_)
 obtain ⟨m, ⟨w1, n⟩, A1, c1⟩ := k
 obtain ⟨hgo, hml, hnm⟩ := hk
 dsimp only at hgo hml hnm ⊢
 refine WC.seq ?_
 refine sR ?_
 refine pM rfl rfl ?_
 refine pM rfl rfl ?_
 refine pP (Y.len Try.underlying55 rfl) rfl ?_
 refine pP (Y.lss rfl rfl) rfl ?_
 refine nN ?_
 refine WC.cond rfl (fun h17 => ?_) (fun h17 => ?_)
 refine WC.skip' ?_
 refine WQ.next ?_
 refine WC.seq ?_
 refine WC.block ?_
 have hml2 : m < l.length := by have h17 := h17; simp at h17; omega
 obtain ⟨a1, ha⟩ := get_of_lt (l := l) (k := m) hml2
 have hAx := hal.addr ha
 refine WC.cut (ι := (Option Addr × Nat) × Nat) (fun k => [(0, .slice A7 l.length c7), (2, .pointer (some ⟨b1, 0, none⟩)), (5, .pointer (some ⟨b2, 0, none⟩)), (6, .int .i64 n), (7, .int .i64 m), (8, .pointer (some ⟨k.2, 0, none⟩)), (9, .int .i64 (doOf w1 a1).2)]) (fun k => [(k.2, (doOf w1 a1).1.cl k.1.1 k.1.2, 54), (b2, w1.cl A1 c1, 54), (b1, Wd.zero.cl none 0, 54)]) (fun k => (SF.own w.heap.size 34 8 (.slice k.1.1 (doOf w1 a1).1.log.length k.1.2) (doOf w1 a1).1.log.length (flat (doOf w1 a1).1.log)).sep ((SF.own w.heap.size 34 8 (.slice A1 w1.log.length c1) w1.log.length (flat w1.log)).sep SF.top)) ?_ ?_
 refine WC.draw2 [(0, .q true), (1, .q false), (2, .q false), (3, .q false), (4, .q true), (5, .s false), (6, .q false), (7, .q false), (8, .q false), (9, .s false), (10, .s true), (11, .q false)] mixed ?_
 refine AD.quiet (i := 0) (imp := true) rfl (by kernel_rfl) (QS.val (Y.loadAN wd_54 rfl (by repeat (first | exact List.Mem.head _ | apply List.Mem.tail)) (r := w1.cl A1 c1) rfl) rfl rfl) rfl rfl rfl ?_
 refine AD.quiet (i := 1) (imp := false) rfl (by kernel_rfl) (QS.pure (Y.move rfl) rfl rfl) rfl rfl rfl ?_
 refine AD.quiet (i := 2) (imp := false) rfl (by kernel_rfl) (QS.pure (Y.move rfl) rfl rfl) rfl rfl rfl ?_
 refine AD.quiet (i := 3) (imp := false) rfl (by kernel_rfl) (QS.pure (Y.ixSlA (A := A7) (b := b7) (o := o7) Try.underlying55 Try.sizeOf61 rfl rfl hAx (nat0 _) (get_ltI ha)) rfl rfl) rfl rfl rfl ?_
 refine AD.quiet (i := 4) (imp := true) rfl (by kernel_rfl) (QS.val (Y.loadAc wd_61 rfl (r := a1.cl) rfl (fun _ w s j hj => (hal.below s.low).full (fun _ => rfl) ha j hj)) rfl rfl) rfl rfl rfl ?_
 refine AD.two (i := 5) (j := 9) (by kernel_rfl) rfl rfl (WS.free rfl (E.retW ((doOf w1 a1).1) [.int .i64 (doOf w1 a1).2] Try.call105 rfl (fun _ w s => w_doOf w1 A1 (gOf A1) 0 c1 a1 w (own_max s.fact.1) (own_le s.fact.1) (own_RL s.fact.1)) rfl)) (fun _ => ext_newN rfl) (WS.free rfl (E.alloc Try.zeroValue54 rfl rfl)) (fun _ => ext_new rfl) (fun z => ?_) (fun b3 => ?_)
 refine AD.list [(6, .q false), (7, .q false), (8, .q false), (9, .s false), (10, .s true), (11, .q false)] (by kernel_rfl) ?_
 refine dP (Y.move rfl) rfl rfl ?_
 refine dP (Y.extract rfl rfl) rfl rfl ?_
 refine dP (Y.extract rfl rfl) rfl rfl ?_
 refine WDm.spec (WS.free rfl (E.alloc Try.zeroValue54 rfl rfl)) (fun _ => ext_new rfl) (fun b3 => ?_)
 refine WDm.spec (WS.free rfl (E.store Try.sizeOf54 rfl rfl rfl rfl rfl u0 rfl rfl)) (fun _ => sub_refl _) (fun _ => ?_)
 refine dP (Y.assign rfl) rfl rfl ?_
 refine WDm.nil (WQ.and ?_)
 · exact fun a w s => ⟨rfl, (z, b3), s.weak (by repeat (first | exact sub_nil _ | refine sub_cons rfl ?_))⟩
 refine AD.list [(5, .s false), (6, .q false), (7, .q false), (8, .q false), (10, .s true), (11, .q false)] (by kernel_rfl) ?_
 refine WDm.spec (WS.free rfl (E.retW ((doOf w1 a1).1) [.int .i64 (doOf w1 a1).2] Try.call105 rfl (fun _ w s => w_doOf w1 A1 (gOf A1) 0 c1 a1 w (own_max s.fact.1) (own_le s.fact.1) (own_RL s.fact.1)) rfl)) (fun _ => ext_newN rfl) (fun z => ?_)
 refine dP (Y.move rfl) rfl rfl ?_
 refine dP (Y.extract rfl rfl) rfl rfl ?_
 refine dP (Y.extract rfl rfl) rfl rfl ?_
 refine WDm.spec (WS.free rfl (E.store Try.sizeOf54 rfl rfl rfl rfl rfl u0 rfl rfl)) (fun _ => sub_refl _) (fun _ => ?_)
 refine dP (Y.assign rfl) rfl rfl ?_
 refine WDm.nil (WQ.and ?_)
 · exact fun a w s => ⟨rfl, (z, b3), s.weak (by repeat (first | exact sub_nil _ | refine sub_cons rfl ?_))⟩
 rintro ⟨z, b3⟩
 dsimp only
 refine sR ?_
 refine pM rfl rfl ?_
 refine pP (Y.eql rfl rfl) rfl ?_
 refine nN ?_
 refine WC.cond rfl (fun h30 => ?_) (fun h30 => ?_)
 refine sR ?_
 refine pV (Y.loadAN wd_54 rfl m0 (r := (doOf w1 a1).1.cl z.1 z.2) rfl) rfl ?_
 refine WL.eff (E.store Try.sizeOf54 rfl rfl rfl rfl rfl u1 rfl rfl) rfl (fun _ => ?_)
 refine nN ?_
 refine WC.region ?_
 refine pM rfl rfl ?_
 refine pP (Y.add rfl rfl (i64_in (by omega) (by omega))) rfl ?_
 refine pA rfl rfl ?_
 refine WL.nil ?_
 refine WQ.blockEnd ?_
 refine WQ.next ?_
 refine WC.region ?_
 refine pM rfl rfl ?_
 refine pP (Y.add rfl rfl (i64_in (by omega) (by omega))) rfl ?_
 refine pA rfl rfl ?_
 refine WL.nil ?_
 · refine WQ.le (SF.sep_mono (SF.le_refl _) (SF.sep_snd _ _)) ?_
   refine fun a w s => ⟨(m + 1, ((doOf w1 a1).1, n + 1), z), ⟨?_, by show m + 1 ≤ l.length; omega, by show n + 1 ≤ m + 1; omega⟩, by show l.length - (m + 1) < l.length - m; omega, ?_⟩
   · rw [hgo, done_step ha, if_pos (by have h30 := h30; simpa using h30)]
   · exact (s.sub (Hsub.of_sub (List.sublist_cons_self _ _))).weak (by repeat (first | exact sub_nil _ | refine sub_cons rfl ?_))
 refine WC.skip' ?_
 refine WQ.blockEnd ?_
 refine WQ.next ?_
 refine WC.region ?_
 refine pM rfl rfl ?_
 refine pP (Y.add rfl rfl (i64_in (by omega) (by omega))) rfl ?_
 refine pA rfl rfl ?_
 refine WL.nil ?_
 · refine WQ.le (SF.sep_snd _ _) ?_
   refine fun a w s => ⟨(m + 1, (w1, n), A1, c1), ⟨?_, by show m + 1 ≤ l.length; omega, by show n ≤ m + 1; omega⟩, by show l.length - (m + 1) < l.length - m; omega, ?_⟩
   · rw [hgo, done_step ha, if_neg (by have h30 := h30; simpa using h30)]
   · exact (s.sub (Hsub.of_sub (List.sublist_cons_self _ _))).weak (by repeat (first | exact sub_nil _ | refine sub_cons rfl ?_))
 refine WC.exit ?_
 refine WQ.thenExit ?_
 refine WQ.thenExit ?_
 refine WQ.blockExit ?_
 refine WQ.next ?_
 refine sR ?_
 refine pV (Y.loadAN wd_54 rfl m0 (r := w1.cl A1 c1) rfl) rfl ?_
 refine pM rfl rfl ?_
 refine WL.eff (E.store Try.sizeOf54 rfl rfl rfl rfl rfl u1 rfl rfl) rfl (fun _ => ?_)
 refine pA rfl rfl ?_
 refine pA rfl rfl ?_
 refine nN ?_
 refine WC.ret ?_
 refine WQ.done Try.results107 (RVs.cons (RV.cell wd_54 rfl m1 rfl) (RVs.cons (RV.tmp rfl) (RVs.cons (RV.tmp rfl) RVs.nil))) (fun a w s => ?_)
 · have e : doneOf l = (w1, (n : Int), 0) := by
     unfold doneOf
     rw [if_pos hl60, hgo, show m = l.length by have h17 := h17; simp at h17; omega, done_all]
   rw [e]
   exact ⟨(A1, c1), rfl, s.low, s.fact.1⟩
end Go.Proofs.Ytdbcimadjmdffaa
