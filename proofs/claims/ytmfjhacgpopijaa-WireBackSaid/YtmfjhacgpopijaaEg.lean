/- Read. No condition. -/
import Derived.Test.YtmfjhacgpopijaaEd
import Derived.Test.YtmfjhacgpopijaaEf
set_option maxRecDepth 100000
set_option linter.unusedVariables false
set_option linter.unusedSimpArgs false
set_option linter.unusedSectionVars false
set_option maxHeartbeats 4000000
namespace Go.Proofs.Ytmfjhacgpopijaa
open Go.RowKit Go.Joins
theorem wp0 (w : World) : Wp w [] SF.top w := ⟨HpOf.nil _ _, trivial, fun _ h => (by cases h), Below.refl _ _⟩
theorem hs_mid {x y z : Nat × List Value × TypeId} {l : Hp} : Hsub (x :: z :: y :: l) (x :: y :: z :: l) := Hsub.of_perm (List.Perm.cons _ (List.Perm.swap ..))
theorem dcl_get {s : List Int} {k o : Nat} (hk : k < 12) (ho : o = k) : setAll (dcl s k) [o] ((List.range 1).map fun i => at0 s (k + i)) = dcl s (k + 1) := by
  subst ho
  exact dcl_set s o hk
theorem dcl_last {s : List Int} {o : Nat} (ho : o = 13) : setAll (dcl s 12) [o] ((List.range 1).map fun i => at0 s (12 + i)) = (wdL s []).cl none 0 := by
  subst ho
  exact dcl_full s
theorem read_short {s : List Int} (h : s.length ≤ 4096) (hf : wdFit s = false) : readOf s = (Wd.zero, 1) := by
  unfold readOf
  rw [if_pos h, if_neg (by simp [hf])]
theorem read_bad {s : List Int} (h : s.length ≤ 4096) (hf : worldErr (wdRd s) ≠ 0) : readOf s = (Wd.zero, 1) := by
  unfold readOf
  rw [if_pos h, if_neg (fun k => hf k.2)]
theorem fit_no {s : List Int} {k : Nat} (h : ¬ k ≤ s.length) (hk : k ≤ 13) : wdFit s = false := by
  unfold wdFit
  rw [decide_eq_false (by omega), Bool.false_and]
theorem fit_log {s r : List Int} (h : logF (s.drop 13) = logF r) (hr : r ≠ []) (hl : ¬ recLen r ≤ r.length) : wdFit s = false := by
  unfold wdFit
  rw [h, (log_cons hr).2, decide_eq_false hl, Bool.false_and, Bool.and_false]

theorem w_wireRead (s9 : List Int) (hb : Bytes s9) (w : World) : RetW Try.prog 8 [sv s9] w (readOf s9).1 [.int .i64 (readOf s9).2] := by
 refine enterD Try.func8 rfl Try.ntmps8 rfl (wp0 w) ?_
 refine sR ?_
 refine WL.eff (E.alloc Try.zeroValue28 rfl rfl) rfl (fun b1 => ?_)
 refine WL.eff (E.alloc Try.zeroValue29 rfl rfl) rfl (fun b2 => ?_)
 refine nN ?_
 refine WC.seq ?_
 refine sR ?_
 refine pM rfl rfl ?_
 refine pP (Y.strLen und9 rfl) rfl ?_
 refine pP (Y.gtr rfl rfl) rfl ?_
 refine nN ?_
 refine WC.cond rfl (fun h11 => ?_) (fun h11 => ?_)
 refine sR ?_
 refine pP (Y.build rfl (bf_28 )) rfl ?_
 refine WL.eff (E.store Try.sizeOf28 rfl rfl rfl rfl rfl u1 rfl rfl) rfl (fun _ => ?_)
 refine WL.eff (E.store Try.sizeOf29 rfl rfl rfl rfl rfl u0 rfl rfl) rfl (fun _ => ?_)
 refine nN ?_
 refine WC.ret ?_
 refine WQ.thenRet ?_
 refine WQ.door0 (.inl rfl) rfl Try.results8 (RVs.cons (RV.cell wd_28 rfl (by repeat (first | exact List.Mem.head _ | apply List.Mem.tail)) rfl) (RVs.cons (RV.flat fl_29 rfl (by repeat (first | exact List.Mem.head _ | apply List.Mem.tail)) rfl) RVs.nil)) (fun w2 hw => ?_)
 have eR : readOf s9 = (Wd.zero, 2) := by
   unfold readOf
   rw [if_neg (by have h11 := h11; simp at h11; omega)]
 rw [eR]
 exact ⟨(none, 0), rfl, hw.2.2.2, own_nil _ _ _ _⟩
 refine WC.skip' ?_
 refine WQ.next ?_
 refine WC.seq ?_
 have hs9 : s9.length ≤ 4096 := by have h11 := h11; simp at h11; omega
 refine WC.region ?_
 refine pP (Y.makeFunc rfl rfl) rfl ?_
 refine WL.defer rfl (fun i2 hds => ?_)
 refine nN ?_
 refine sR ?_
 refine pM rfl rfl ?_
 refine pP (Y.build rfl (bf_55_0 _)) rfl ?_
 refine WL.eff (E.box rfl rfl rfl) rfl (fun b3 => ?_)
 refine pA rfl rfl ?_
 refine nN ?_
 refine WC.seq ?_
 refine sR ?_
 refine pM rfl rfl ?_
 refine nN ?_
 refine WC.block ?_
 refine WC.loop (ι := Nat) (fun k => [(2, .pointer (some ⟨b1, 0, none⟩)), (3, .pointer (some ⟨b2, 0, none⟩)), (4, .pointer (some ⟨b3, 0, none⟩)), (17, .int .i64 k)]) (fun k => [(b3, [sv (s9.drop (4 * k))], 55), (b1, dcl s9 (4 * k), 28), (b2, [.int .i64 0], 29)]) (fun _ => SF.top) (fun k => k ≤ 3) (fun k => 3 - k) 0 (Nat.zero_le _) (fun a w s => (s.sub hs_mid).weak (by repeat (first | exact sub_nil _ | refine sub_cons rfl ?_))) (fun p hk => ?_)
 refine sR ?_
 refine pP (Y.lss rfl rfl) rfl ?_
 refine nN ?_
 refine WC.seq ?_
 refine WC.cond rfl (fun h18 => ?_) (fun h18 => ?_)
 refine WC.skip' ?_
 refine WQ.next ?_
 refine WC.seq ?_
 refine WC.block ?_
 refine WC.seq ?_
 have hp3 : p < 3 := by have h18 := h18; simp at h18; omega
 refine WC.region ?_
 refine pM rfl rfl ?_
 refine pA rfl rfl ?_
 refine nN ?_
 refine sR ?_
 refine pM rfl rfl ?_
 refine pP (Y.fieldAddr fa_28_0 rfl) rfl ?_
 refine pP (Y.ixArr Try.underlying25 Try.sizeOf24 rfl rfl (nat0 _) (by omega)) rfl ?_
 refine pA rfl rfl ?_
 refine nN ?_
 refine WC.seq ?_
 refine sR ?_
 refine pM rfl rfl ?_
 refine nN ?_
 refine WC.block ?_
 refine WC.loop (ι := Nat) (fun k => [(2, .pointer (some ⟨b1, 0, none⟩)), (3, .pointer (some ⟨b2, 0, none⟩)), (4, .pointer (some ⟨b3, 0, none⟩)), (17, .int .i64 p), (6, .pointer (some ⟨b1, 0 + 0 + (p : Int).toNat * 4, none⟩)), (23, .int .i64 k)]) (fun k => [(b3, [sv (s9.drop (4 * p + k))], 55), (b1, dcl s9 (4 * p + k), 28), (b2, [.int .i64 0], 29)]) (fun _ => SF.top) (fun k => k ≤ 3) (fun k => 3 - k) 0 (Nat.zero_le _) (fun a w s => s.weak (by repeat (first | exact sub_nil _ | refine sub_cons rfl ?_))) (fun q hk => ?_)
 refine sR ?_
 refine pP (Y.lss rfl rfl) rfl ?_
 refine nN ?_
 refine WC.seq ?_
 refine WC.cond rfl (fun h24 => ?_) (fun h24 => ?_)
 refine WC.skip' ?_
 refine WQ.next ?_
 refine WC.seq ?_
 refine WC.block ?_
 refine WC.seq ?_
 have hq3 : q < 3 := by have h24 := h24; simp at h24; omega
 refine WC.region ?_
 refine pM rfl rfl ?_
 refine pA rfl rfl ?_
 refine nN ?_
 refine WC.region ?_
 refine pM rfl rfl ?_
 refine pM rfl rfl ?_
 refine pM rfl rfl ?_
 refine pP (Y.nilCheck rfl) rfl ?_
 refine pP (Y.fieldAddr fa_24_0 rfl) rfl ?_
 refine pP (Y.ixArr Try.underlying22 Try.sizeOf3 rfl rfl (nat0 _) (by omega)) rfl ?_
 refine WL.eff (E.buildSlice (bs_72_1 _) rfl rfl) rfl (fun b4 => ?_)
 refine orDie (p := 4 * p + q + 1 ≤ s9.length) (fun hdie => ?_) (fun hget => ?_)
 have eR : readOf s9 = (Wd.zero, 1) := read_short hs9 (fit_no hdie (by omega))
 refine WL.getDie [_] s9 (4 * p + q) hb (by intro o h; rw [dcl_len s9 (by omega)]; simp at h; omega) (by simp) rfl (by simp) hdie hs_swap rfl (fun cs2 hc2 => ?_)
 refine WQ.blockPanic ?_
 refine WQ.thenPanic ?_
 refine WQ.thenPanic ?_
 refine WQ.blockPanic ?_
 refine WQ.thenPanic ?_
 refine WQ.blockPanic ?_
 refine WQ.thenPanic ?_
 refine WQ.thenPanic ?_
 refine WQ.blockPanic ?_
 refine WQ.thenPanic ?_
 refine WQ.doorP hds Try.call19 (fun w2 hw => by
   have hw2 := hw.sub (H' := [(b1, _, 28), (b2, [_], 29)]) (Hsub.of_sub (by repeat (first | exact List.Sublist.refl _ | apply List.Sublist.cons_cons | apply List.Sublist.cons)))
   exact w_catch w _ b1 b2 _ _ (by first | rfl | exact hc2.trans (dcl_len s9 (by omega))) w2 hw2) Try.results8 (RVs.cons (RV.cell wd_28 rfl (by repeat (first | exact List.Mem.head _ | apply List.Mem.tail)) rfl) (RVs.cons (RV.flat fl_29 rfl (by repeat (first | exact List.Mem.head _ | apply List.Mem.tail)) rfl) RVs.nil)) (fun w2 hw => ?_)
 rw [eR]
 exact ⟨(none, 0), rfl, hw.2.2.2, own_nil _ _ _ _⟩
 refine WL.eff (E.getN [_] s9 (4 * p + q) hb (by intro o h; rw [dcl_len s9 (by omega)]; simp at h; omega) (by simp) hget (dcl_get (by omega) (by simp; omega)) hs_swap rfl rfl) rfl (fun _ => ?_)
 refine WL.nil ?_
 refine WQ.blockEnd ?_
 refine WQ.next ?_
 refine WC.region ?_
 refine pP (Y.add rfl rfl (i64_in (by omega) (by omega))) rfl ?_
 refine pM rfl rfl ?_
 refine WL.nil ?_
 · refine fun a w2 s => ⟨q + 1, by show q + 1 ≤ 3; omega, by show 3 - (q + 1) < 3 - q; omega, ?_⟩
   show St [(2, .pointer (some ⟨b1, 0, none⟩)), (3, .pointer (some ⟨b2, 0, none⟩)), (4, .pointer (some ⟨b3, 0, none⟩)), (17, .int .i64 p), (6, .pointer (some ⟨b1, 0 + 0 + (p : Int).toNat * 4, none⟩)), (23, .int .i64 ((q + 1 : Nat) : Int))] _ [(b3, [sv (s9.drop (4 * p + (q + 1)))], 55), (b1, dcl s9 (4 * p + (q + 1)), 28), (b2, [.int .i64 0], 29)] _ _ _ _
   rw [show 4 * p + (q + 1) = 4 * p + q + 1 from by omega]
   exact s.weak (by repeat (first | exact sub_nil _ | refine sub_cons rfl ?_))
 refine WC.exit ?_
 refine WQ.thenExit ?_
 refine WQ.thenExit ?_
 refine WQ.blockExit ?_
 refine WQ.next ?_
 have hq3 : q = 3 := by have h24 := h24; simp at h24; omega
 subst hq3
 refine WC.region ?_
 refine pM rfl rfl ?_
 refine pM rfl rfl ?_
 refine pP (Y.nilCheck rfl) rfl ?_
 refine pP (Y.fieldAddr fa_24_1 rfl) rfl ?_
 refine WL.eff (E.buildSlice (bs_72_1 _) rfl rfl) rfl (fun b5 => ?_)
 refine orDie (p := 4 * p + 3 + 1 ≤ s9.length) (fun hdie => ?_) (fun hget => ?_)
 have eR : readOf s9 = (Wd.zero, 1) := read_short hs9 (fit_no hdie (by omega))
 refine WL.getDie [_] s9 (4 * p + 3) hb (by intro o h; rw [dcl_len s9 (by omega)]; simp at h; omega) (by simp) rfl (by simp) hdie hs_swap rfl (fun cs2 hc2 => ?_)
 refine WQ.blockPanic ?_
 refine WQ.thenPanic ?_
 refine WQ.thenPanic ?_
 refine WQ.blockPanic ?_
 refine WQ.thenPanic ?_
 refine WQ.doorP hds Try.call19 (fun w2 hw => by
   have hw2 := hw.sub (H' := [(b1, _, 28), (b2, [_], 29)]) (Hsub.of_sub (by repeat (first | exact List.Sublist.refl _ | apply List.Sublist.cons_cons | apply List.Sublist.cons)))
   exact w_catch w _ b1 b2 _ _ (by first | rfl | exact hc2.trans (dcl_len s9 (by omega))) w2 hw2) Try.results8 (RVs.cons (RV.cell wd_28 rfl (by repeat (first | exact List.Mem.head _ | apply List.Mem.tail)) rfl) (RVs.cons (RV.flat fl_29 rfl (by repeat (first | exact List.Mem.head _ | apply List.Mem.tail)) rfl) RVs.nil)) (fun w2 hw => ?_)
 rw [eR]
 exact ⟨(none, 0), rfl, hw.2.2.2, own_nil _ _ _ _⟩
 refine WL.eff (E.getN [_] s9 (4 * p + 3) hb (by intro o h; rw [dcl_len s9 (by omega)]; simp at h; omega) (by simp) hget (dcl_get (by omega) (by simp; omega)) hs_swap rfl rfl) rfl (fun _ => ?_)
 refine WL.nil ?_
 refine WQ.blockEnd ?_
 refine WQ.next ?_
 refine WC.region ?_
 refine pP (Y.add rfl rfl (i64_in (by omega) (by omega))) rfl ?_
 refine pM rfl rfl ?_
 refine WL.nil ?_
 · refine fun a w2 s => ⟨p + 1, by show p + 1 ≤ 3; omega, by show 3 - (p + 1) < 3 - p; omega, ?_⟩
   show St [(2, .pointer (some ⟨b1, 0, none⟩)), (3, .pointer (some ⟨b2, 0, none⟩)), (4, .pointer (some ⟨b3, 0, none⟩)), (17, .int .i64 ((p + 1 : Nat) : Int))] _ [(b3, [sv (s9.drop (4 * (p + 1)))], 55), (b1, dcl s9 (4 * (p + 1)), 28), (b2, [.int .i64 0], 29)] _ _ _ _
   rw [show 4 * (p + 1) = 4 * p + 3 + 1 from by omega]
   exact s.weak (by repeat (first | exact sub_nil _ | refine sub_cons rfl ?_))
 refine WC.exit ?_
 refine WQ.thenExit ?_
 refine WQ.thenExit ?_
 refine WQ.blockExit ?_
 refine WQ.next ?_
 refine WC.seq ?_
 have hp3 : p = 3 := by have h18 := h18; simp at h18; omega
 subst hp3
 refine WC.region ?_
 refine pM rfl rfl ?_
 refine pP (Y.fieldAddr fa_28_2 rfl) rfl ?_
 refine WL.eff (E.buildSlice (bs_72_1 _) rfl rfl) rfl (fun b6 => ?_)
 refine orDie (p := 12 + 1 ≤ s9.length) (fun hdie => ?_) (fun hget => ?_)
 have eR : readOf s9 = (Wd.zero, 1) := read_short hs9 (fit_no hdie (by omega))
 refine WL.getDie [_] s9 12 hb (by intro o h; rw [dcl_len s9 (by omega)]; simp at h; omega) (by simp) rfl (by simp) hdie hs_swap rfl (fun cs2 hc2 => ?_)
 refine WQ.thenPanic ?_
 refine WQ.doorP hds Try.call19 (fun w2 hw => by
   have hw2 := hw.sub (H' := [(b1, _, 28), (b2, [_], 29)]) (Hsub.of_sub (by repeat (first | exact List.Sublist.refl _ | apply List.Sublist.cons_cons | apply List.Sublist.cons)))
   exact w_catch w _ b1 b2 _ _ (by first | rfl | exact hc2.trans (dcl_len s9 (by omega))) w2 hw2) Try.results8 (RVs.cons (RV.cell wd_28 rfl (by repeat (first | exact List.Mem.head _ | apply List.Mem.tail)) rfl) (RVs.cons (RV.flat fl_29 rfl (by repeat (first | exact List.Mem.head _ | apply List.Mem.tail)) rfl) RVs.nil)) (fun w2 hw => ?_)
 rw [eR]
 exact ⟨(none, 0), rfl, hw.2.2.2, own_nil _ _ _ _⟩
 refine WL.eff (E.getN [_] s9 12 hb (by intro o h; rw [dcl_len s9 (by omega)]; simp at h; omega) (by simp) hget (dcl_last rfl) hs_swap rfl rfl) rfl (fun _ => ?_)
 refine nN ?_
 refine WC.seq ?_
 refine WC.block ?_
 refine WC.le (nil_sepR w.heap.size 48 8 _) ?_
 refine WC.loop (ι := List R × List Int × Option Addr × Nat) (fun k => [(2, .pointer (some ⟨b1, 0, none⟩)), (3, .pointer (some ⟨b2, 0, none⟩)), (4, .pointer (some ⟨b3, 0, none⟩))]) (fun k => [(b3, [sv k.2.1], 55), (b1, (wdL s9 k.1).cl k.2.2.1 k.2.2.2, 28), (b2, [.int .i64 0], 29)]) (fun k => (SF.own w.heap.size 48 8 (.slice k.2.2.1 k.1.length k.2.2.2) k.1.length (flat k.1)).sep SF.top) (fun k => logR (s9.drop 13) = k.1 ++ logR k.2.1 ∧ logF (s9.drop 13) = logF k.2.1 ∧ Bytes k.2.1 ∧ k.1.length + k.2.1.length ≤ 4096) (fun k => k.2.1.length) ([], s9.drop 13, none, 0) ⟨rfl, rfl, hb.drop 13, by simp; omega⟩ (fun a w s => s.weak (by repeat (first | exact sub_nil _ | refine sub_cons rfl ?_))) (fun k hk => ?_)
 obtain ⟨l, r, Ar, cr⟩ := k
 obtain ⟨hlr, hlf, hbr, hll⟩ := hk
 dsimp only at hlr hlf hbr hll ⊢
 refine WC.seq ?_
 refine sR ?_
 refine pM rfl rfl ?_
 refine pP (Y.nilCheck rfl) rfl ?_
 refine pP (Y.fieldAddr fa_55_0 rfl) rfl ?_
 refine pV (Y.load (v := sv r) fl_9 rfl m0 rfl) rfl ?_
 refine pP (Y.strNeq hbr Bytes.nil rfl rfl rfl) rfl ?_
 refine nN ?_
 refine WC.cond rfl (fun h50 => ?_) (fun h50 => ?_)
 refine WC.skip' ?_
 refine WQ.next ?_
 refine WC.block ?_
 refine WC.seq ?_
 have hne : r ≠ [] := by have h50 := h50; simpa using h50
 have hrp : 0 < r.length := List.length_pos_iff.2 hne
 obtain ⟨i3, hi3, hz30, hz31, hz32⟩ := info_parts rec_info
 refine WC.region ?_
 refine WL.eff (E.alloc Try.zeroValue48 rfl rfl) rfl (fun b7 => ?_)
 refine nN ?_
 refine sR ?_
 refine pM rfl rfl ?_
 refine pP (Y.fieldAddr fa_48_0 rfl) rfl ?_
 refine pP (Y.fieldAddr fa_48_1 rfl) rfl ?_
 refine pP (Y.fieldAddr fa_48_2 rfl) rfl ?_
 refine WL.eff (E.buildSlice (bs_72_3 _ _ _) rfl rfl) rfl (fun b8 => ?_)
 refine orDie (p := 0 + 3 ≤ r.length) (fun hdie => ?_) (fun hget => ?_)
 have eR : readOf s9 = (Wd.zero, 1) := read_short hs9 (fit_log hlf hne (by have := recLen_pos r; skip; omega))
 refine WL.getDie [_, _, _] r 0 hbr (by intro o h; simp [setAll_len] at h ⊢; omega) (by simp) rfl (by simp) hdie hs_rot rfl (fun cs2 hc2 => ?_)
 refine WQ.thenPanic ?_
 refine WQ.blockPanic ?_
 refine WQ.thenPanic ?_
 refine WQ.blockPanic ?_
 refine WQ.thenPanic ?_
 refine WQ.doorP hds Try.call19 (fun w2 hw => by
   have hw2 := hw.sub (H' := [(b1, _, 28), (b2, [_], 29)]) (Hsub.of_sub (by repeat (first | exact List.Sublist.refl _ | apply List.Sublist.cons_cons | apply List.Sublist.cons)))
   exact w_catch w _ b1 b2 _ _ (by first | rfl | exact hc2.trans (dcl_len s9 (by omega))) w2 hw2) Try.results8 (RVs.cons (RV.cell wd_28 rfl (by repeat (first | exact List.Mem.head _ | apply List.Mem.tail)) rfl) (RVs.cons (RV.flat fl_29 rfl (by repeat (first | exact List.Mem.head _ | apply List.Mem.tail)) rfl) RVs.nil)) (fun w2 hw => ?_)
 rw [eR]
 exact ⟨(none, 0), rfl, hw.2.2.2, own_nil _ _ _ _⟩
 refine WL.eff (E.getN [_, _, _] r 0 hbr (by intro o h; simp [setAll_len] at h ⊢; omega) (by simp) hget rfl hs_rot rfl rfl) rfl (fun _ => ?_)
 refine nN ?_
 refine WC.seq ?_
 refine sR ?_
 refine pV (Y.loadAN wd_48 rfl (by repeat (first | exact List.Mem.head _ | apply List.Mem.tail)) (r := (⟨at0 r 0, at0 r 1, at0 r 2, 0, 0, 0, 0, 0⟩ : R).cl) rfl) rfl ?_
 refine WL.eff (E.call Try.call14 rfl (fun _ w s => w_turns ⟨at0 r 0, at0 r 1, at0 r 2, 0, 0, 0, 0, 0⟩ w) rfl) rfl (fun _ => ?_)
 refine nN ?_
 refine WC.cond rfl (fun h58 => ?_) (fun h58 => ?_)
 have ht : kT (at0 r 0) = true := h58
 refine WC.region ?_
 refine pM rfl rfl ?_
 refine pP (Y.fieldAddr fa_48_3 rfl) rfl ?_
 refine pP (Y.fieldAddr fa_48_4 rfl) rfl ?_
 refine pP (Y.fieldAddr fa_48_5 rfl) rfl ?_
 refine pP (Y.fieldAddr fa_48_6 rfl) rfl ?_
 refine WL.eff (E.buildSlice (bs_72_4 _ _ _ _) rfl rfl) rfl (fun b9 => ?_)
 refine orDie (p := 3 + 4 ≤ r.length) (fun hdie => ?_) (fun hget => ?_)
 have eR : readOf s9 = (Wd.zero, 1) := read_short hs9 (fit_log hlf hne (by have := recLen_pos r; unfold recLen; rw [if_pos ht]; omega))
 refine WL.getDie [_, _, _, _] r 3 hbr (by intro o h; simp [setAll_len] at h ⊢; omega) (by simp) rfl (by simp) hdie hs_swap rfl (fun cs2 hc2 => ?_)
 refine WQ.thenPanic ?_
 refine WQ.blockPanic ?_
 refine WQ.thenPanic ?_
 refine WQ.blockPanic ?_
 refine WQ.thenPanic ?_
 refine WQ.doorP hds Try.call19 (fun w2 hw => by
   have hw2 := hw.sub (H' := [(b1, _, 28), (b2, [_], 29)]) (Hsub.of_sub (by repeat (first | exact List.Sublist.refl _ | apply List.Sublist.cons_cons | apply List.Sublist.cons)))
   exact w_catch w _ b1 b2 _ _ (by first | rfl | exact hc2.trans (dcl_len s9 (by omega))) w2 hw2) Try.results8 (RVs.cons (RV.cell wd_28 rfl (by repeat (first | exact List.Mem.head _ | apply List.Mem.tail)) rfl) (RVs.cons (RV.flat fl_29 rfl (by repeat (first | exact List.Mem.head _ | apply List.Mem.tail)) rfl) RVs.nil)) (fun w2 hw => ?_)
 rw [eR]
 exact ⟨(none, 0), rfl, hw.2.2.2, own_nil _ _ _ _⟩
 refine WL.eff (E.getN [_, _, _, _] r 3 hbr (by intro o h; simp [setAll_len] at h ⊢; omega) (by simp) hget rfl hs_swap rfl rfl) rfl (fun _ => ?_)
 refine nN ?_
 refine WC.seq ?_
 refine sR ?_
 refine pP (Y.fieldAddr fa_48_0 rfl) rfl ?_
 refine pV (Y.load (v := .int .i64 (at0 r 0)) fl_3 rfl (by repeat (first | exact List.Mem.head _ | apply List.Mem.tail)) rfl) rfl ?_
 refine pP (Y.eql rfl rfl) rfl ?_
 refine nN ?_
 refine WC.cond rfl (fun h68 => ?_) (fun h68 => ?_)
 have hk3 : at0 r 0 = 3 := by have h68 := h68; simpa using h68
 refine WC.region ?_
 refine pM rfl rfl ?_
 refine pP (Y.fieldAddr fa_48_7 rfl) rfl ?_
 refine WL.eff (E.buildSlice (bs_72_1 _) rfl rfl) rfl (fun b10 => ?_)
 refine orDie (p := 7 + 1 ≤ r.length) (fun hdie => ?_) (fun hget => ?_)
 have eR : readOf s9 = (Wd.zero, 1) := read_short hs9 (fit_log hlf hne (by have := recLen_pos r; unfold recLen; rw [if_pos ht, if_pos hk3]; omega))
 refine WL.getDie [_] r 7 hbr (by intro o h; simp [setAll_len] at h ⊢; omega) (by simp) rfl (by simp) hdie hs_swap rfl (fun cs2 hc2 => ?_)
 refine WQ.thenPanic ?_
 refine WQ.blockPanic ?_
 refine WQ.thenPanic ?_
 refine WQ.blockPanic ?_
 refine WQ.thenPanic ?_
 refine WQ.doorP hds Try.call19 (fun w2 hw => by
   have hw2 := hw.sub (H' := [(b1, _, 28), (b2, [_], 29)]) (Hsub.of_sub (by repeat (first | exact List.Sublist.refl _ | apply List.Sublist.cons_cons | apply List.Sublist.cons)))
   exact w_catch w _ b1 b2 _ _ (by first | rfl | exact hc2.trans (dcl_len s9 (by omega))) w2 hw2) Try.results8 (RVs.cons (RV.cell wd_28 rfl (by repeat (first | exact List.Mem.head _ | apply List.Mem.tail)) rfl) (RVs.cons (RV.flat fl_29 rfl (by repeat (first | exact List.Mem.head _ | apply List.Mem.tail)) rfl) RVs.nil)) (fun w2 hw => ?_)
 rw [eR]
 exact ⟨(none, 0), rfl, hw.2.2.2, own_nil _ _ _ _⟩
 refine WL.eff (E.getN [_] r 7 hbr (by intro o h; simp [setAll_len] at h ⊢; omega) (by simp) hget rfl hs_swap rfl rfl) rfl (fun _ => ?_)
 refine nN ?_
 have er : recRd r = ⟨at0 r 0, at0 r 1, at0 r 2, at0 r 3, at0 r 4, at0 r 5, at0 r 6, at0 r 7⟩ := by simp only [recRd, if_pos ht, if_pos hk3]
 have el : recLen r = 8 := by simp only [recLen, if_pos ht, if_pos hk3]
 refine WC.region ?_
 refine pP (Y.fieldAddr fa_28_1 rfl) rfl ?_
 refine pV (Y.load (v := .slice Ar l.length cr) fl_26 rfl (by repeat (first | exact List.Mem.head _ | apply List.Mem.tail)) rfl) rfl ?_
 refine pV (Y.loadAN wd_48 rfl (by repeat (first | exact List.Mem.head _ | apply List.Mem.tail)) (r := (recRd r).cl) (by rw [er]; rfl)) rfl ?_
 refine WL.eff (E.buildSlice (bs_26_1 _ _ _ _ _ _ _ _) rfl rfl) rfl (fun b11 => ?_)
 refine WL.eff (E.appendG Try.underlying26 hi3 hz30 hz31 hz32 rfl (by decide) rfl rfl rfl m0 rfl rfl (by unfold maxLen; omega) (by omega) rfl) rfl (fun i => ?_)
 refine pP (Y.fieldAddr fa_28_1 rfl) rfl ?_
 refine WL.eff (E.store Try.sizeOf26 rfl rfl rfl rfl rfl u3 rfl rfl) rfl (fun _ => ?_)
 refine WL.nil ?_
 refine WQ.blockEnd ?_
 · refine fun a w2 s => ⟨(l ++ [recRd r], r.drop (recLen r), i), ⟨?_, ?_, hbr.drop _, ?_⟩, ?_, ?_⟩
   · rw [hlr, (log_cons hne).1, List.append_assoc]; rfl
   · rw [hlf, (log_cons hne).2, decide_eq_true (by omega), Bool.true_and]
   · have := recLen_pos r
     show (l ++ [recRd r]).length + (r.drop (recLen r)).length ≤ 4096
     rw [List.length_append, List.length_drop]; simp; omega
   · have := recLen_pos r
     show (r.drop (recLen r)).length < r.length
     rw [List.length_drop]; omega
   · show St [(2, .pointer (some ⟨b1, 0, none⟩)), (3, .pointer (some ⟨b2, 0, none⟩)), (4, .pointer (some ⟨b3, 0, none⟩))] _ [(b3, [sv (r.drop (recLen r))], 55), (b1, (wdL s9 (l ++ [recRd r])).cl i.1 i.2, 28), (b2, [.int .i64 0], 29)] ((SF.own w.heap.size 48 8 (.slice i.1 (l ++ [recRd r]).length i.2) (l ++ [recRd r]).length (flat (l ++ [recRd r]))).sep SF.top) _ _ _
     unfold Wd.cl
     rw [show (wdL s9 (l ++ [recRd r])).log.length = l.length + 1 from by simp [wdL], show (l ++ [recRd r]).length = l.length + 1 from by simp, flat_app, el]
     exact (s.sub (Hsub.of_sub (by repeat (first | exact List.Sublist.refl _ | apply List.Sublist.cons_cons | apply List.Sublist.cons)))).weak (by repeat (first | exact sub_nil _ | refine sub_cons rfl ?_))
 refine WC.skip' ?_
 refine WQ.next ?_
 have hk3 : at0 r 0 ≠ 3 := by have h68 := h68; simpa using h68
 have er : recRd r = ⟨at0 r 0, at0 r 1, at0 r 2, at0 r 3, at0 r 4, at0 r 5, at0 r 6, 0⟩ := by simp only [recRd, if_pos ht, if_neg hk3]
 have el : recLen r = 7 := by simp only [recLen, if_pos ht, if_neg hk3]
 refine WC.region ?_
 refine pP (Y.fieldAddr fa_28_1 rfl) rfl ?_
 refine pV (Y.load (v := .slice Ar l.length cr) fl_26 rfl (by repeat (first | exact List.Mem.head _ | apply List.Mem.tail)) rfl) rfl ?_
 refine pV (Y.loadAN wd_48 rfl (by repeat (first | exact List.Mem.head _ | apply List.Mem.tail)) (r := (recRd r).cl) (by rw [er]; rfl)) rfl ?_
 refine WL.eff (E.buildSlice (bs_26_1 _ _ _ _ _ _ _ _) rfl rfl) rfl (fun b12 => ?_)
 refine WL.eff (E.appendG Try.underlying26 hi3 hz30 hz31 hz32 rfl (by decide) rfl rfl rfl m0 rfl rfl (by unfold maxLen; omega) (by omega) rfl) rfl (fun i => ?_)
 refine pP (Y.fieldAddr fa_28_1 rfl) rfl ?_
 refine WL.eff (E.store Try.sizeOf26 rfl rfl rfl rfl rfl u3 rfl rfl) rfl (fun _ => ?_)
 refine WL.nil ?_
 refine WQ.blockEnd ?_
 · refine fun a w2 s => ⟨(l ++ [recRd r], r.drop (recLen r), i), ⟨?_, ?_, hbr.drop _, ?_⟩, ?_, ?_⟩
   · rw [hlr, (log_cons hne).1, List.append_assoc]; rfl
   · rw [hlf, (log_cons hne).2, decide_eq_true (by omega), Bool.true_and]
   · have := recLen_pos r
     show (l ++ [recRd r]).length + (r.drop (recLen r)).length ≤ 4096
     rw [List.length_append, List.length_drop]; simp; omega
   · have := recLen_pos r
     show (r.drop (recLen r)).length < r.length
     rw [List.length_drop]; omega
   · show St [(2, .pointer (some ⟨b1, 0, none⟩)), (3, .pointer (some ⟨b2, 0, none⟩)), (4, .pointer (some ⟨b3, 0, none⟩))] _ [(b3, [sv (r.drop (recLen r))], 55), (b1, (wdL s9 (l ++ [recRd r])).cl i.1 i.2, 28), (b2, [.int .i64 0], 29)] ((SF.own w.heap.size 48 8 (.slice i.1 (l ++ [recRd r]).length i.2) (l ++ [recRd r]).length (flat (l ++ [recRd r]))).sep SF.top) _ _ _
     unfold Wd.cl
     rw [show (wdL s9 (l ++ [recRd r])).log.length = l.length + 1 from by simp [wdL], show (l ++ [recRd r]).length = l.length + 1 from by simp, flat_app, el]
     exact (s.sub (Hsub.of_sub (by repeat (first | exact List.Sublist.refl _ | apply List.Sublist.cons_cons | apply List.Sublist.cons)))).weak (by repeat (first | exact sub_nil _ | refine sub_cons rfl ?_))
 refine WC.skip' ?_
 refine WQ.next ?_
 refine WC.seq ?_
 refine WC.seq ?_
 have ht : kT (at0 r 0) = false := h58
 refine WC.region ?_
 refine pP (Y.fieldAddr fa_48_0 rfl) rfl ?_
 refine pV (Y.load (v := .int .i64 (at0 r 0)) fl_3 rfl (by repeat (first | exact List.Mem.head _ | apply List.Mem.tail)) rfl) rfl ?_
 refine pP (Y.eql rfl rfl) rfl ?_
 refine nN ?_
 refine WC.cond rfl (fun h68 => ?_) (fun h68 => ?_)
 have hk3 : at0 r 0 = 3 := by have h68 := h68; simpa using h68
 refine WC.region ?_
 refine pM rfl rfl ?_
 refine pP (Y.fieldAddr fa_48_7 rfl) rfl ?_
 refine WL.eff (E.buildSlice (bs_72_1 _) rfl rfl) rfl (fun b13 => ?_)
 refine orDie (p := 3 + 1 ≤ r.length) (fun hdie => ?_) (fun hget => ?_)
 have eR : readOf s9 = (Wd.zero, 1) := read_short hs9 (fit_log hlf hne (by have := recLen_pos r; exfalso; rw [hk3] at ht; simp [kT] at ht))
 refine WL.getDie [_] r 3 hbr (by intro o h; simp [setAll_len] at h ⊢; omega) (by simp) rfl (by simp) hdie hs_swap rfl (fun cs2 hc2 => ?_)
 refine WQ.thenPanic ?_
 refine WQ.blockPanic ?_
 refine WQ.thenPanic ?_
 refine WQ.blockPanic ?_
 refine WQ.thenPanic ?_
 refine WQ.doorP hds Try.call19 (fun w2 hw => by
   have hw2 := hw.sub (H' := [(b1, _, 28), (b2, [_], 29)]) (Hsub.of_sub (by repeat (first | exact List.Sublist.refl _ | apply List.Sublist.cons_cons | apply List.Sublist.cons)))
   exact w_catch w _ b1 b2 _ _ (by first | rfl | exact hc2.trans (dcl_len s9 (by omega))) w2 hw2) Try.results8 (RVs.cons (RV.cell wd_28 rfl (by repeat (first | exact List.Mem.head _ | apply List.Mem.tail)) rfl) (RVs.cons (RV.flat fl_29 rfl (by repeat (first | exact List.Mem.head _ | apply List.Mem.tail)) rfl) RVs.nil)) (fun w2 hw => ?_)
 rw [eR]
 exact ⟨(none, 0), rfl, hw.2.2.2, own_nil _ _ _ _⟩
 refine WL.eff (E.getN [_] r 3 hbr (by intro o h; simp [setAll_len] at h ⊢; omega) (by simp) hget rfl hs_swap rfl rfl) rfl (fun _ => ?_)
 refine nN ?_
 have hn : ¬ (kT (at0 r 0) = true) := by simp [ht]
 have er : recRd r = ⟨at0 r 0, at0 r 1, at0 r 2, 0, 0, 0, 0, at0 r 3⟩ := by exfalso; rw [hk3] at ht; simp [kT] at ht
 have el : recLen r = 4 := by exfalso; rw [hk3] at ht; simp [kT] at ht
 refine WC.region ?_
 refine pP (Y.fieldAddr fa_28_1 rfl) rfl ?_
 refine pV (Y.load (v := .slice Ar l.length cr) fl_26 rfl (by repeat (first | exact List.Mem.head _ | apply List.Mem.tail)) rfl) rfl ?_
 refine pV (Y.loadAN wd_48 rfl (by repeat (first | exact List.Mem.head _ | apply List.Mem.tail)) (r := (recRd r).cl) (by rw [er]; rfl)) rfl ?_
 refine WL.eff (E.buildSlice (bs_26_1 _ _ _ _ _ _ _ _) rfl rfl) rfl (fun b14 => ?_)
 refine WL.eff (E.appendG Try.underlying26 hi3 hz30 hz31 hz32 rfl (by decide) rfl rfl rfl m0 rfl rfl (by unfold maxLen; omega) (by omega) rfl) rfl (fun i => ?_)
 refine pP (Y.fieldAddr fa_28_1 rfl) rfl ?_
 refine WL.eff (E.store Try.sizeOf26 rfl rfl rfl rfl rfl u3 rfl rfl) rfl (fun _ => ?_)
 refine WL.nil ?_
 refine WQ.blockEnd ?_
 · refine fun a w2 s => ⟨(l ++ [recRd r], r.drop (recLen r), i), ⟨?_, ?_, hbr.drop _, ?_⟩, ?_, ?_⟩
   · rw [hlr, (log_cons hne).1, List.append_assoc]; rfl
   · rw [hlf, (log_cons hne).2, decide_eq_true (by omega), Bool.true_and]
   · have := recLen_pos r
     show (l ++ [recRd r]).length + (r.drop (recLen r)).length ≤ 4096
     rw [List.length_append, List.length_drop]; simp; omega
   · have := recLen_pos r
     show (r.drop (recLen r)).length < r.length
     rw [List.length_drop]; omega
   · show St [(2, .pointer (some ⟨b1, 0, none⟩)), (3, .pointer (some ⟨b2, 0, none⟩)), (4, .pointer (some ⟨b3, 0, none⟩))] _ [(b3, [sv (r.drop (recLen r))], 55), (b1, (wdL s9 (l ++ [recRd r])).cl i.1 i.2, 28), (b2, [.int .i64 0], 29)] ((SF.own w.heap.size 48 8 (.slice i.1 (l ++ [recRd r]).length i.2) (l ++ [recRd r]).length (flat (l ++ [recRd r]))).sep SF.top) _ _ _
     unfold Wd.cl
     rw [show (wdL s9 (l ++ [recRd r])).log.length = l.length + 1 from by simp [wdL], show (l ++ [recRd r]).length = l.length + 1 from by simp, flat_app, el]
     exact (s.sub (Hsub.of_sub (by repeat (first | exact List.Sublist.refl _ | apply List.Sublist.cons_cons | apply List.Sublist.cons)))).weak (by repeat (first | exact sub_nil _ | refine sub_cons rfl ?_))
 refine WC.skip' ?_
 refine WQ.next ?_
 have hk3 : at0 r 0 ≠ 3 := by have h68 := h68; simpa using h68
 have hn : ¬ (kT (at0 r 0) = true) := by simp [ht]
 have er : recRd r = ⟨at0 r 0, at0 r 1, at0 r 2, 0, 0, 0, 0, 0⟩ := by simp only [recRd, if_neg hn, if_neg hk3]
 have el : recLen r = 3 := by simp only [recLen, if_neg hn, if_neg hk3]
 refine WC.region ?_
 refine pP (Y.fieldAddr fa_28_1 rfl) rfl ?_
 refine pV (Y.load (v := .slice Ar l.length cr) fl_26 rfl (by repeat (first | exact List.Mem.head _ | apply List.Mem.tail)) rfl) rfl ?_
 refine pV (Y.loadAN wd_48 rfl (by repeat (first | exact List.Mem.head _ | apply List.Mem.tail)) (r := (recRd r).cl) (by rw [er]; rfl)) rfl ?_
 refine WL.eff (E.buildSlice (bs_26_1 _ _ _ _ _ _ _ _) rfl rfl) rfl (fun b15 => ?_)
 refine WL.eff (E.appendG Try.underlying26 hi3 hz30 hz31 hz32 rfl (by decide) rfl rfl rfl m0 rfl rfl (by unfold maxLen; omega) (by omega) rfl) rfl (fun i => ?_)
 refine pP (Y.fieldAddr fa_28_1 rfl) rfl ?_
 refine WL.eff (E.store Try.sizeOf26 rfl rfl rfl rfl rfl u3 rfl rfl) rfl (fun _ => ?_)
 refine WL.nil ?_
 refine WQ.blockEnd ?_
 · refine fun a w2 s => ⟨(l ++ [recRd r], r.drop (recLen r), i), ⟨?_, ?_, hbr.drop _, ?_⟩, ?_, ?_⟩
   · rw [hlr, (log_cons hne).1, List.append_assoc]; rfl
   · rw [hlf, (log_cons hne).2, decide_eq_true (by omega), Bool.true_and]
   · have := recLen_pos r
     show (l ++ [recRd r]).length + (r.drop (recLen r)).length ≤ 4096
     rw [List.length_append, List.length_drop]; simp; omega
   · have := recLen_pos r
     show (r.drop (recLen r)).length < r.length
     rw [List.length_drop]; omega
   · show St [(2, .pointer (some ⟨b1, 0, none⟩)), (3, .pointer (some ⟨b2, 0, none⟩)), (4, .pointer (some ⟨b3, 0, none⟩))] _ [(b3, [sv (r.drop (recLen r))], 55), (b1, (wdL s9 (l ++ [recRd r])).cl i.1 i.2, 28), (b2, [.int .i64 0], 29)] ((SF.own w.heap.size 48 8 (.slice i.1 (l ++ [recRd r]).length i.2) (l ++ [recRd r]).length (flat (l ++ [recRd r]))).sep SF.top) _ _ _
     unfold Wd.cl
     rw [show (wdL s9 (l ++ [recRd r])).log.length = l.length + 1 from by simp [wdL], show (l ++ [recRd r]).length = l.length + 1 from by simp, flat_app, el]
     exact (s.sub (Hsub.of_sub (by repeat (first | exact List.Sublist.refl _ | apply List.Sublist.cons_cons | apply List.Sublist.cons)))).weak (by repeat (first | exact sub_nil _ | refine sub_cons rfl ?_))
 refine WC.exit ?_
 refine WQ.thenExit ?_
 refine WQ.thenExit ?_
 refine WQ.blockExit ?_
 refine WQ.next ?_
 refine WC.seq ?_
 refine WC.seq ?_
 obtain rfl : r = [] := by have h50 := h50; simpa using h50
 rw [show logR [] = [] from rfl, List.append_nil] at hlr
 have hfit : wdFit s9 = true := by
   unfold wdFit
   rw [hlf, logF_nil, Bool.and_true]
   exact decide_eq_true (by omega)
 subst hlr
 rw [wdL_rd]
 refine WC.region ?_
 refine pV (Y.loadAN wd_28 rfl m1 (r := (wdRd s9).cl Ar cr) rfl) rfl ?_
 refine WL.eff (E.call Try.call12 rfl (fun _ w s => w_worldCheck (wdRd s9) Ar (gOf Ar) 0 cr w (own_maxR s.fact.1) (own_le s.fact.1) (own_RL s.fact.1)) rfl) rfl (fun _ => ?_)
 refine pP (Y.neq rfl rfl) rfl ?_
 refine nN ?_
 refine WC.cond rfl (fun h81 => ?_) (fun h81 => ?_)
 have eR : readOf s9 = (Wd.zero, 1) := read_bad hs9 (by have h81 := h81; simpa using h81)
 refine WC.region ?_
 refine pP (Y.build rfl (bf_60 )) rfl ?_
 refine pP (Y.iface mk_short rfl) rfl ?_
 refine WL.panic rfl ?_
 refine WQ.thenPanic ?_
 refine WQ.doorP hds Try.call19 (fun w2 hw => by
   have hw2 := hw.sub (H' := [(b1, _, 28), (b2, [_], 29)]) (Hsub.of_sub (by repeat (first | exact List.Sublist.refl _ | apply List.Sublist.cons_cons | apply List.Sublist.cons)))
   exact w_catch w _ b1 b2 _ _ (by first | rfl | exact hc2.trans (dcl_len s9 (by omega))) w2 hw2) Try.results8 (RVs.cons (RV.cell wd_28 rfl (by repeat (first | exact List.Mem.head _ | apply List.Mem.tail)) rfl) (RVs.cons (RV.flat fl_29 rfl (by repeat (first | exact List.Mem.head _ | apply List.Mem.tail)) rfl) RVs.nil)) (fun w2 hw => ?_)
 rw [eR]
 exact ⟨(none, 0), rfl, hw.2.2.2, own_nil _ _ _ _⟩
 refine WC.skip' ?_
 refine WQ.next ?_
 refine WC.seq ?_
 have h0 : worldErr (wdRd s9) = 0 := by have h81 := h81; simpa using h81
 refine WC.region ?_
 refine pV (Y.loadAN wd_28 rfl m1 (r := (wdRd s9).cl Ar cr) rfl) rfl ?_
 refine WL.eff (E.store Try.sizeOf28 rfl rfl rfl rfl rfl u1 rfl rfl) rfl (fun _ => ?_)
 refine WL.eff (E.store Try.sizeOf29 rfl rfl rfl rfl rfl u2 rfl rfl) rfl (fun _ => ?_)
 refine nN ?_
 refine WC.ret ?_
 refine WQ.doorD (.inl rfl) hds Try.call19 (fun w2 hw => w_idle w _ _ b1 b2 w2 hw) Try.results8 (RVs.cons (RV.cell wd_28 rfl (by repeat (first | exact List.Mem.head _ | apply List.Mem.tail)) rfl) (RVs.cons (RV.flat fl_29 rfl (by repeat (first | exact List.Mem.head _ | apply List.Mem.tail)) rfl) RVs.nil)) (fun w2 hw => ?_)
 have eR : readOf s9 = (wdRd s9, 0) := by
   unfold readOf
   rw [if_pos hs9, if_pos ⟨hfit, h0⟩]
 rw [eR]
 exact ⟨(Ar, cr), rfl, hw.2.2.2, hw.2.1.1⟩
end Go.Proofs.Ytmfjhacgpopijaa
