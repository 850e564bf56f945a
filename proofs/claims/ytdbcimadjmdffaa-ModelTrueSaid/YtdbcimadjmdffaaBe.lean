/- The book: what Put leaves. No condition. -/
import Derived.Test.YtdbcimadjmdffaaPt
set_option maxRecDepth 100000
set_option linter.unusedVariables false
set_option linter.unusedSimpArgs false
set_option linter.unusedSectionVars false
set_option maxHeartbeats 4000000
namespace Go.Proofs.Ytdbcimadjmdffaa
open Go.RowKit Go.Joins
theorem w_put1 (u : World) (B : Bk) (Hl : Hp) (G : SF) (h : List R) (r : R) (w : World) (hw : Wp u (B.hp ++ Hl) ((SF.bk u.heap.size B).sep G) w) (hB : BOk B h) (hr : Right (r :: h)) (hk : r.kind = 1) : Calls Try.prog 130 [B.ptr, r.val].toArray w fun e w' => ∃ i : {B' : Bk // BOk B' (r :: h) ∧ B'.bk = B.bk}, e = .returned (packed []) ∧ Wp u (i.1.hp ++ Hl) ((SF.bk u.heap.size i.1).sep G) w' := by
 obtain ⟨hr1, hr2, hr3⟩ := hr.parts
 have hbd := rec_bounds hr2
 have hBl : B.l.length = h.length := by rw [hB.l]; simp
 have ht : r.turns = true := by simp [R.turns, hk]
 obtain ⟨i3, hi3, hz30, hz31, hz32⟩ := info_parts rec_info
 obtain ⟨i0, hi0, hz0, hz1, hz2⟩ := info_parts int_info
 obtain ⟨hp, hc, _, hnew⟩ := hbd.2.2.2.2.2.2.2.2.1 ht
 refine enterW Try.func130 rfl Try.ntmps130 rfl hw ?_
 refine WC.seq ?_
 refine WC.region ?_
 refine WL.eff (E.box rfl rfl rfl) rfl (fun b1 => ?_)
 refine WL.nil ?_
 refine WQ.next ?_
 refine WC.seq ?_
 refine WC.le (bk_rl _ _ _) ?_
 refine WC.draw [(0, .q false), (1, .q false), (2, .q false), (3, .q false), (4, .q true), (5, .q true), (6, .s false), (7, .s true), (8, .q false), (9, .q false), (10, .s true)] mixed (by kernel_rfl) ?_
 refine WDm.quiet (QS.pure (Y.move rfl) rfl rfl) rfl rfl rfl ?_
 refine WDm.quiet (QS.pure (Y.move rfl) rfl rfl) rfl rfl rfl ?_
 refine WDm.quiet (QS.pure (Y.nilCheck rfl) rfl rfl) rfl rfl rfl ?_
 refine WDm.quiet (QS.pure (Y.fieldAddr fa_112_0 rfl) rfl rfl) rfl rfl rfl ?_
 refine WDm.quiet (QS.val (Y.load fl_39 rfl m1 rfl) rfl rfl) rfl rfl rfl ?_
 refine WDm.quiet (QS.val (Y.loadA wd_34 rfl m0 rfl) rfl rfl) rfl rfl rfl ?_
 refine WDm.spec (WS.free rfl (E.buildSlice (bs_39_1 _ _ _ _ _ _ _ _) rfl rfl)) (fun _ => ext_new rfl) (fun b2 => ?_)
 refine WDm.spec (WS.free rfl (E.appendG Try.underlying39 hi3 hz30 hz31 hz32 rfl (by decide) rfl rfl rfl m0 rfl rfl (by unfold maxLen; omega) (by omega) rfl)) (fun _ => sub_push rfl) (fun i => ?_)
 refine WDm.quiet (QS.pure (Y.nilCheck rfl) rfl rfl) rfl rfl rfl ?_
 refine WDm.quiet (QS.pure (Y.fieldAddr fa_112_0 rfl) rfl rfl) rfl rfl rfl ?_
 refine WDm.spec (WS.free rfl (E.storeP Try.sizeOf39 rfl rfl rfl rfl rfl u2 (by rw [cells_len]; omega) (more_cells B i.1 i.2 r))) (fun _ => sub_refl _) (fun _ => ?_)
 refine WDm.nil (WQ.and ?_)
 refine WQ.next ?_
 refine WC.seq ?_
 obtain ⟨A1, c1⟩ := i
 dsimp only
 refine WC.le (bk_more _ B A1 c1 r G) ?_
 have en : (B.more A1 c1 r).l.length = h.length + 1 := by simp [Bk.more, hBl]
 refine WC.region ?_
 refine WL.pure (Y.move rfl) rfl rfl rfl ?_
 refine WL.pure (Y.nilCheck rfl) rfl rfl rfl ?_
 refine WL.pure (Y.fieldAddr fa_112_0 rfl) rfl rfl rfl ?_
 refine WL.val (Y.load (v := .slice A1 (h.length + 1) c1) fl_39 rfl m2 (congrArg (fun k => some (Value.slice A1 k c1)) en)) rfl rfl rfl ?_
 refine WL.pure (Y.len Try.underlying39 rfl) rfl rfl rfl ?_
 refine WL.pure (Y.assign rfl) rfl rfl rfl ?_
 refine WL.nil ?_
 refine WQ.next ?_
 refine WC.seq ?_
 refine WC.region ?_
 refine WL.pure (Y.move rfl) rfl rfl rfl ?_
 refine WL.pure (Y.fieldAddr fa_34_1 rfl) rfl rfl rfl ?_
 refine WL.val (Y.load fl_3 rfl m1 rfl) rfl rfl rfl ?_
 refine WL.eff (E.of [_, _] rfl rfl rfl rfl rfl) rfl (fun i => ?_)
 obtain ⟨⟨B2, x, K⟩, hOf, hK⟩ := i
 obtain ⟨hB2, hst, hla, hup⟩ := of_more hB hOf
 obtain ⟨el, _, _, epg, ebk, _⟩ := of_l hOf
 dsimp only at hOf hK hB2 hst hla hup el epg ebk ⊢
 have e0 : B.ptr = B2.ptr := by unfold Bk.ptr; rw [ebk]; rfl
 rw [e0]
 have hl1 := hOf.1
 dsimp only at hl1
 have hl2 : B2.l = h.reverse ++ [r] := by rw [el, ← hB.l]; rfl
 have e2l : B2.l.length = h.length + 1 := by rw [hl2]; simp
 have hpg : B2.pg = pagesOf h := hB2.pg
 have hul := upB_len h r.txn
 rw [← hup] at hul
 obtain ⟨V, hV1, hV2⟩ := bk_foc u.heap.size G hl1
 refine WL.pure (Y.assign rfl) rfl rfl rfl ?_
 refine WL.nil ?_
 refine WQ.next ?_
 refine WC.seq ?_
 refine WC.region ?_
 refine WL.pure (Y.move rfl) rfl rfl rfl ?_
 refine WL.pure (Y.move rfl) rfl rfl rfl ?_
 refine WL.pure (Y.nilCheck rfl) rfl rfl rfl ?_
 refine WL.pure (Y.fieldAddr fa_117_1 rfl) rfl rfl rfl ?_
 refine WL.eff (E.store Try.sizeOf3 rfl rfl rfl rfl rfl u2 rfl rfl) rfl (fun _ => ?_)
 refine WL.nil ?_
 refine WQ.next ?_
 refine WC.seq ?_
 refine WC.seq ?_
 refine WC.region ?_
 refine WL.val (Y.loadA wd_34 rfl m1 rfl) rfl rfl rfl ?_
 refine WL.eff (E.call Try.call51 rfl (fun _ w s => w_turns r w) rfl) rfl (fun _ => ?_)
 refine WL.nil ?_
 refine WQ.next ?_
 refine WC.isT rfl (ht) ?_
 refine WC.draw [(0, .q false), (1, .q false), (2, .q true), (3, .q false), (4, .q false), (5, .q true), (6, .q false), (7, .q false), (8, .q false), (9, .q true), (10, .q false), (11, .q true), (12, .q false), (13, .q true), (14, .q false), (15, .q true), (16, .q false), (17, .q false), (18, .q false), (19, .q false), (20, .q false), (21, .q false), (22, .s true)] mixed (by kernel_rfl) ?_
 refine WDm.quiet (QS.pure (Y.move rfl) rfl rfl) rfl rfl rfl ?_
 refine WDm.quiet (QS.pure (Y.fieldAddr fa_34_3 rfl) rfl rfl) rfl rfl rfl ?_
 refine WDm.quiet (QS.val (Y.load fl_3 rfl m1 rfl) rfl rfl) rfl rfl rfl ?_
 refine WDm.quiet (QS.pure (Y.move rfl) rfl rfl) rfl rfl rfl ?_
 refine WDm.quiet (QS.pure (Y.fieldAddr fa_34_3 rfl) rfl rfl) rfl rfl rfl ?_
 refine WDm.quiet (QS.val (Y.load fl_3 rfl m1 rfl) rfl rfl) rfl rfl rfl ?_
 refine WDm.quiet (QS.pure (Y.nilCheck rfl) rfl rfl) rfl rfl rfl ?_
 refine WDm.quiet (QS.pure (Y.fieldAddr fa_112_1 rfl) rfl rfl) rfl rfl rfl ?_
 refine WDm.quiet (QS.pure (Y.ixArr Try.underlying42 Try.sizeOf24 rfl rfl hp.1 (by omega)) rfl rfl) rfl rfl rfl ?_
 refine WDm.quiet (QS.val (Y.loadAN wd_24 rfl m3 (page_at B2 r.page hp)) rfl rfl) rfl rfl rfl ?_
 refine WDm.quiet (QS.pure (Y.fieldAddr fa_34_4 rfl) rfl rfl) rfl rfl rfl ?_
 refine WDm.quiet (QS.val (Y.load fl_3 rfl m1 rfl) rfl rfl) rfl rfl rfl ?_
 refine WDm.quiet (QS.pure (Y.fieldAddr fa_34_6 rfl) rfl rfl) rfl rfl rfl ?_
 refine WDm.quiet (QS.val (Y.load fl_3 rfl m1 rfl) rfl rfl) rfl rfl rfl ?_
 refine WDm.quiet (QS.pure (Y.move rfl) rfl rfl) rfl rfl rfl ?_
 refine WDm.quiet (QS.call Try.call42 rfl (fun _ w s => w_setOk (B2.pg.get r.page) r.cell r.new (h.length + 1 : Nat) w (by rw [hpg]; exact P3.ok_get hr1.pok _) (by simp [setArgs, wi]; omega))) rfl rfl rfl ?_
 refine WDm.quiet (QS.pure (Y.move rfl) rfl rfl) rfl rfl rfl ?_
 refine WDm.quiet (QS.pure (Y.extract rfl rfl) rfl rfl) rfl rfl rfl ?_
 refine WDm.quiet (QS.pure (Y.extract rfl rfl) rfl rfl) rfl rfl rfl ?_
 refine WDm.quiet (QS.pure (Y.nilCheck rfl) rfl rfl) rfl rfl rfl ?_
 refine WDm.quiet (QS.pure (Y.fieldAddr fa_112_1 rfl) rfl rfl) rfl rfl rfl ?_
 refine WDm.quiet (QS.pure (Y.ixArr Try.underlying42 Try.sizeOf24 rfl rfl (by omega) (by omega)) rfl rfl) rfl rfl rfl ?_
 refine WDm.spec (WS.free rfl (E.storeP Try.sizeOf24 rfl rfl rfl rfl rfl u3 (by rw [cells_len]; omega) (page_put B2 r.page _ hp))) (fun _ => sub_refl _) (fun _ => ?_)
 refine WDm.nil (WQ.and ?_)
 refine WQ.next ?_
 refine WC.seq ?_
 refine WC.seq ?_
 refine WC.region ?_
 refine WL.pure (Y.fieldAddr fa_34_0 rfl) rfl rfl rfl ?_
 refine WL.val (Y.load fl_3 rfl m1 rfl) rfl rfl rfl ?_
 refine WL.nil ?_
 refine WQ.next ?_
 refine WC.block ?_
 refine WC.seq ?_
 refine WC.region ?_
 refine WL.pure (Y.eql rfl rfl) rfl rfl rfl ?_
 refine WL.pure (Y.assign rfl) rfl rfl rfl ?_
 refine WL.nil ?_
 refine WQ.next ?_
 refine WC.isT rfl (by simp [hk]) ?_
 refine WC.seq ?_
 refine WC.le hV1 ?_
 refine WC.region ?_
 refine WL.pure (Y.move rfl) rfl rfl rfl ?_
 refine WL.pure (Y.move rfl) rfl rfl rfl ?_
 refine WL.pure (Y.move rfl) rfl rfl rfl ?_
 refine WL.pure (Y.nilCheck rfl) rfl rfl rfl ?_
 refine WL.pure (Y.fieldAddr fa_117_2 rfl) rfl rfl rfl ?_
 refine WL.val (Y.load fl_64 rfl m2 rfl) rfl rfl rfl ?_
 refine WL.pure (Y.move rfl) rfl rfl rfl ?_
 refine WL.eff (E.buildSlice (bs_64_1 _) rfl rfl) rfl (fun b3 => ?_)
 refine WL.eff (E.appendG Try.underlying64 hi0 hz0 hz1 hz2 rfl (by decide) rfl rfl rfl m0 rfl rfl (by unfold maxLen; omega) (by omega) rfl) rfl (fun j => ?_)
 refine WL.pure (Y.nilCheck rfl) rfl rfl rfl ?_
 refine WL.pure (Y.fieldAddr fa_117_0 rfl) rfl rfl rfl ?_
 refine WL.eff (E.store Try.sizeOf3 rfl rfl rfl rfl rfl u3 rfl rfl) rfl (fun _ => ?_)
 refine WL.pure (Y.nilCheck rfl) rfl rfl rfl ?_
 refine WL.pure (Y.fieldAddr fa_117_2 rfl) rfl rfl rfl ?_
 refine WL.eff (E.store Try.sizeOf64 rfl rfl rfl rfl rfl u3 rfl rfl) rfl (fun _ => ?_)
 refine WL.nil ?_
 refine WQ.next ?_
 refine WC.seq ?_
 obtain ⟨A3, c3⟩ := j
 dsimp only
 refine WC.le (SF.le_trans (SF.sep_mono (row_push _ x A3 c3 (h.length + 1)) (SF.le_refl _)) (SF.le_trans (hV2 (x.push A3 c3 (h.length + 1)) (B2.pg.set r.page ((B2.pg.get r.page).put r.cell r.new (h.length + 1 : Nat))) rfl) (bk_mo _ (B2.nx r.txn (x.push A3 c3 (h.length + 1)) (B2.pg.set r.page ((B2.pg.get r.page).put r.cell r.new (h.length + 1 : Nat)))) G))) ?_
 refine WC.draw [(0, .q false), (1, .q false), (2, .q false), (3, .q true), (4, .q false), (5, .q true), (6, .q false), (7, .q true), (8, .q false), (9, .q false), (10, .q true), (11, .s true)] mixed (by kernel_rfl) ?_
 refine WDm.quiet (QS.pure (Y.move rfl) rfl rfl) rfl rfl rfl ?_
 refine WDm.quiet (QS.pure (Y.nilCheck rfl) rfl rfl) rfl rfl rfl ?_
 refine WDm.quiet (QS.pure (Y.fieldAddr fa_112_3 rfl) rfl rfl) rfl rfl rfl ?_
 refine WDm.quiet (QS.val (Y.load fl_110 rfl m4 rfl) rfl rfl) rfl rfl rfl ?_
 refine WDm.quiet (QS.pure (Y.fieldAddr fa_34_3 rfl) rfl rfl) rfl rfl rfl ?_
 refine WDm.quiet (QS.val (Y.load fl_3 rfl m2 rfl) rfl rfl) rfl rfl rfl ?_
 refine WDm.quiet (QS.pure (Y.fieldAddr fa_34_4 rfl) rfl rfl) rfl rfl rfl ?_
 refine WDm.quiet (QS.val (Y.load fl_3 rfl m2 rfl) rfl rfl) rfl rfl rfl ?_
 refine WDm.quiet (QS.pure (Y.build rfl (bf_51_0_1 _ _)) rfl rfl) rfl rfl rfl ?_
 refine WDm.quiet (QS.pure (Y.fieldAddr fa_34_1 rfl) rfl rfl) rfl rfl rfl ?_
 refine WDm.quiet (QS.val (Y.load fl_3 rfl m2 rfl) rfl rfl) rfl rfl rfl ?_
 refine WDm.spec (WS.free rfl (E.mapUpdate rfl rfl rfl rfl (fun w h => run_update_two B2.ow r.page r.cell (.int .i64 r.txn) Try.underlying110 h))) (fun _ => sub_refl _) (fun _ => ?_)
 refine WDm.nil (WQ.and ?_)
 refine WQ.next ?_
 refine WC.ret ?_
 refine WQ.blockRet ?_
 refine WQ.thenRet ?_
 refine WQ.done Try.results130 RVs.nil (fun a w s => ?_)
 · refine ⟨⟨{ (B2.nx r.txn (x.push A3 c3 (h.length + 1)) (B2.pg.set r.page ((B2.pg.get r.page).put r.cell r.new (h.length + 1 : Nat)))) with ow := set2 B2.ow r.page r.cell (.int .i64 r.txn) B2.k2, k2 := nk B2.ow r.page r.cell B2.k2 }, ?_, ?_⟩, rfl, Wp.le (s.wp.sub (rest_hp (Hx := [_, _, _]) (foc_out hK (B' := { (B2.nx r.txn (x.push A3 c3 (h.length + 1)) (B2.pg.set r.page ((B2.pg.get r.page).put r.cell r.new (h.length + 1 : Nat)))) with ow := set2 B2.ow r.page r.cell (.int .i64 r.txn) B2.k2, k2 := nk B2.ow r.page r.cell B2.k2 }) (y := (x.push A3 c3 (h.length + 1))) rfl _ _))) (bk_mo' _ { (B2.nx r.txn (x.push A3 c3 (h.length + 1)) (B2.pg.set r.page ((B2.pg.get r.page).put r.cell r.new (h.length + 1 : Nat)))) with ow := set2 B2.ow r.page r.cell (.int .i64 r.txn) B2.k2, k2 := nk B2.ow r.page r.cell B2.k2 } G)⟩
   · exact BOk.next hB2 hl1 (y := (x.push A3 c3 (h.length + 1))) hl2 ((by rw [pages_turn ht, hpg]; rfl)) rfl rfl (hk.symm) rfl (by simp [TxE.push, upB, hk, hup]) (own_next hB2.ow hk (by omega)) (set2_borns hB2.borns hB2.lt) (set2_keys hB2.keys) (set2_lt hB2.lt)
   · exact ebk

theorem w_put2 (u : World) (B : Bk) (Hl : Hp) (G : SF) (h : List R) (r : R) (w : World) (hw : Wp u (B.hp ++ Hl) ((SF.bk u.heap.size B).sep G) w) (hB : BOk B h) (hr : Right (r :: h)) (hk : r.kind = 2) : Calls Try.prog 130 [B.ptr, r.val].toArray w fun e w' => ∃ i : {B' : Bk // BOk B' (r :: h) ∧ B'.bk = B.bk}, e = .returned (packed []) ∧ Wp u (i.1.hp ++ Hl) ((SF.bk u.heap.size i.1).sep G) w' := by
 obtain ⟨hr1, hr2, hr3⟩ := hr.parts
 have hbd := rec_bounds hr2
 have hBl : B.l.length = h.length := by rw [hB.l]; simp
 have ht : r.turns = false := by simp [R.turns, hk]
 obtain ⟨i3, hi3, hz30, hz31, hz32⟩ := info_parts rec_info
 obtain ⟨i0, hi0, hz0, hz1, hz2⟩ := info_parts int_info
 refine enterW Try.func130 rfl Try.ntmps130 rfl hw ?_
 refine WC.seq ?_
 refine WC.region ?_
 refine WL.eff (E.box rfl rfl rfl) rfl (fun b1 => ?_)
 refine WL.nil ?_
 refine WQ.next ?_
 refine WC.seq ?_
 refine WC.le (bk_rl _ _ _) ?_
 refine WC.draw [(0, .q false), (1, .q false), (2, .q false), (3, .q false), (4, .q true), (5, .q true), (6, .s false), (7, .s true), (8, .q false), (9, .q false), (10, .s true)] mixed (by kernel_rfl) ?_
 refine WDm.quiet (QS.pure (Y.move rfl) rfl rfl) rfl rfl rfl ?_
 refine WDm.quiet (QS.pure (Y.move rfl) rfl rfl) rfl rfl rfl ?_
 refine WDm.quiet (QS.pure (Y.nilCheck rfl) rfl rfl) rfl rfl rfl ?_
 refine WDm.quiet (QS.pure (Y.fieldAddr fa_112_0 rfl) rfl rfl) rfl rfl rfl ?_
 refine WDm.quiet (QS.val (Y.load fl_39 rfl m1 rfl) rfl rfl) rfl rfl rfl ?_
 refine WDm.quiet (QS.val (Y.loadA wd_34 rfl m0 rfl) rfl rfl) rfl rfl rfl ?_
 refine WDm.spec (WS.free rfl (E.buildSlice (bs_39_1 _ _ _ _ _ _ _ _) rfl rfl)) (fun _ => ext_new rfl) (fun b2 => ?_)
 refine WDm.spec (WS.free rfl (E.appendG Try.underlying39 hi3 hz30 hz31 hz32 rfl (by decide) rfl rfl rfl m0 rfl rfl (by unfold maxLen; omega) (by omega) rfl)) (fun _ => sub_push rfl) (fun i => ?_)
 refine WDm.quiet (QS.pure (Y.nilCheck rfl) rfl rfl) rfl rfl rfl ?_
 refine WDm.quiet (QS.pure (Y.fieldAddr fa_112_0 rfl) rfl rfl) rfl rfl rfl ?_
 refine WDm.spec (WS.free rfl (E.storeP Try.sizeOf39 rfl rfl rfl rfl rfl u2 (by rw [cells_len]; omega) (more_cells B i.1 i.2 r))) (fun _ => sub_refl _) (fun _ => ?_)
 refine WDm.nil (WQ.and ?_)
 refine WQ.next ?_
 refine WC.seq ?_
 obtain ⟨A1, c1⟩ := i
 dsimp only
 refine WC.le (bk_more _ B A1 c1 r G) ?_
 have en : (B.more A1 c1 r).l.length = h.length + 1 := by simp [Bk.more, hBl]
 refine WC.region ?_
 refine WL.pure (Y.move rfl) rfl rfl rfl ?_
 refine WL.pure (Y.nilCheck rfl) rfl rfl rfl ?_
 refine WL.pure (Y.fieldAddr fa_112_0 rfl) rfl rfl rfl ?_
 refine WL.val (Y.load (v := .slice A1 (h.length + 1) c1) fl_39 rfl m2 (congrArg (fun k => some (Value.slice A1 k c1)) en)) rfl rfl rfl ?_
 refine WL.pure (Y.len Try.underlying39 rfl) rfl rfl rfl ?_
 refine WL.pure (Y.assign rfl) rfl rfl rfl ?_
 refine WL.nil ?_
 refine WQ.next ?_
 refine WC.seq ?_
 refine WC.region ?_
 refine WL.pure (Y.move rfl) rfl rfl rfl ?_
 refine WL.pure (Y.fieldAddr fa_34_1 rfl) rfl rfl rfl ?_
 refine WL.val (Y.load fl_3 rfl m1 rfl) rfl rfl rfl ?_
 refine WL.eff (E.of [_, _] rfl rfl rfl rfl rfl) rfl (fun i => ?_)
 obtain ⟨⟨B2, x, K⟩, hOf, hK⟩ := i
 obtain ⟨hB2, hst, hla, hup⟩ := of_more hB hOf
 obtain ⟨el, _, _, epg, ebk, _⟩ := of_l hOf
 dsimp only at hOf hK hB2 hst hla hup el epg ebk ⊢
 have e0 : B.ptr = B2.ptr := by unfold Bk.ptr; rw [ebk]; rfl
 rw [e0]
 have hl1 := hOf.1
 dsimp only at hl1
 have hl2 : B2.l = h.reverse ++ [r] := by rw [el, ← hB.l]; rfl
 have e2l : B2.l.length = h.length + 1 := by rw [hl2]; simp
 have hpg : B2.pg = pagesOf h := hB2.pg
 have hul := upB_len h r.txn
 rw [← hup] at hul
 obtain ⟨V, hV1, hV2⟩ := bk_foc u.heap.size G hl1
 refine WL.pure (Y.assign rfl) rfl rfl rfl ?_
 refine WL.nil ?_
 refine WQ.next ?_
 refine WC.seq ?_
 refine WC.region ?_
 refine WL.pure (Y.move rfl) rfl rfl rfl ?_
 refine WL.pure (Y.move rfl) rfl rfl rfl ?_
 refine WL.pure (Y.nilCheck rfl) rfl rfl rfl ?_
 refine WL.pure (Y.fieldAddr fa_117_1 rfl) rfl rfl rfl ?_
 refine WL.eff (E.store Try.sizeOf3 rfl rfl rfl rfl rfl u2 rfl rfl) rfl (fun _ => ?_)
 refine WL.nil ?_
 refine WQ.next ?_
 refine WC.seq ?_
 refine WC.seq ?_
 refine WC.region ?_
 refine WL.val (Y.loadA wd_34 rfl m1 rfl) rfl rfl rfl ?_
 refine WL.eff (E.call Try.call51 rfl (fun _ w s => w_turns r w) rfl) rfl (fun _ => ?_)
 refine WL.nil ?_
 refine WQ.next ?_
 refine WC.isF rfl (ht) ?_
 refine WC.skip' ?_
 refine WQ.next ?_
 refine WC.seq ?_
 refine WC.seq ?_
 refine WC.region ?_
 refine WL.pure (Y.fieldAddr fa_34_0 rfl) rfl rfl rfl ?_
 refine WL.val (Y.load fl_3 rfl m1 rfl) rfl rfl rfl ?_
 refine WL.nil ?_
 refine WQ.next ?_
 refine WC.block ?_
 refine WC.seq ?_
 refine WC.region ?_
 refine WL.pure (Y.eql rfl rfl) rfl rfl rfl ?_
 refine WL.pure (Y.assign rfl) rfl rfl rfl ?_
 refine WL.nil ?_
 refine WQ.next ?_
 refine WC.isF rfl (by simp [hk]) ?_
 refine WC.seq ?_
 refine WC.region ?_
 refine WL.pure (Y.eql rfl rfl) rfl rfl rfl ?_
 refine WL.pure (Y.assign rfl) rfl rfl rfl ?_
 refine WL.nil ?_
 refine WQ.next ?_
 refine WC.isT rfl (by simp [hk]) ?_
 refine WC.seq ?_
 refine WC.region ?_
 refine WL.pure (Y.move rfl) rfl rfl rfl ?_
 refine WL.pure (Y.nilCheck rfl) rfl rfl rfl ?_
 refine WL.pure (Y.fieldAddr fa_117_0 rfl) rfl rfl rfl ?_
 refine WL.eff (E.store Try.sizeOf3 rfl rfl rfl rfl rfl u2 rfl rfl) rfl (fun _ => ?_)
 refine WL.nil ?_
 refine WQ.next ?_
 refine WC.ret ?_
 refine WQ.blockRet ?_
 refine WQ.thenRet ?_
 refine WQ.done Try.results130 RVs.nil (fun a w s => ?_)
 · refine ⟨⟨(B2.nx r.txn (x.over (h.length + 1)) B2.pg), ?_, ?_⟩, rfl, Wp.le (s.wp.sub (rest_hp (Hx := [_, _]) (foc_out hK (B' := (B2.nx r.txn (x.over (h.length + 1)) B2.pg)) (y := (x.over (h.length + 1))) rfl _ _))) (SF.le_trans hV1 (hV2 (x.over (h.length + 1)) B2.pg rfl))⟩
   · exact BOk.next hB2 hl1 (y := (x.over (h.length + 1))) hl2 ((by rw [pages_stay ht]; exact hpg)) rfl rfl (hk.symm) rfl (by simp [TxE.over, upB, hk, hup]) (own_same hB2.ow hk) hB2.borns hB2.keys hB2.lt
   · exact ebk

theorem w_put3 (u : World) (B : Bk) (Hl : Hp) (G : SF) (h : List R) (r : R) (w : World) (hw : Wp u (B.hp ++ Hl) ((SF.bk u.heap.size B).sep G) w) (hB : BOk B h) (hr : Right (r :: h)) (hk : r.kind = 3) : Calls Try.prog 130 [B.ptr, r.val].toArray w fun e w' => ∃ i : {B' : Bk // BOk B' (r :: h) ∧ B'.bk = B.bk}, e = .returned (packed []) ∧ Wp u (i.1.hp ++ Hl) ((SF.bk u.heap.size i.1).sep G) w' := by
 obtain ⟨hr1, hr2, hr3⟩ := hr.parts
 have hbd := rec_bounds hr2
 have hBl : B.l.length = h.length := by rw [hB.l]; simp
 have ht : r.turns = true := by simp [R.turns, hk]
 obtain ⟨i3, hi3, hz30, hz31, hz32⟩ := info_parts rec_info
 obtain ⟨i0, hi0, hz0, hz1, hz2⟩ := info_parts int_info
 obtain ⟨hp, hc, _, hnew⟩ := hbd.2.2.2.2.2.2.2.2.1 ht
 refine enterW Try.func130 rfl Try.ntmps130 rfl hw ?_
 refine WC.seq ?_
 refine WC.region ?_
 refine WL.eff (E.box rfl rfl rfl) rfl (fun b1 => ?_)
 refine WL.nil ?_
 refine WQ.next ?_
 refine WC.seq ?_
 refine WC.le (bk_rl _ _ _) ?_
 refine WC.draw [(0, .q false), (1, .q false), (2, .q false), (3, .q false), (4, .q true), (5, .q true), (6, .s false), (7, .s true), (8, .q false), (9, .q false), (10, .s true)] mixed (by kernel_rfl) ?_
 refine WDm.quiet (QS.pure (Y.move rfl) rfl rfl) rfl rfl rfl ?_
 refine WDm.quiet (QS.pure (Y.move rfl) rfl rfl) rfl rfl rfl ?_
 refine WDm.quiet (QS.pure (Y.nilCheck rfl) rfl rfl) rfl rfl rfl ?_
 refine WDm.quiet (QS.pure (Y.fieldAddr fa_112_0 rfl) rfl rfl) rfl rfl rfl ?_
 refine WDm.quiet (QS.val (Y.load fl_39 rfl m1 rfl) rfl rfl) rfl rfl rfl ?_
 refine WDm.quiet (QS.val (Y.loadA wd_34 rfl m0 rfl) rfl rfl) rfl rfl rfl ?_
 refine WDm.spec (WS.free rfl (E.buildSlice (bs_39_1 _ _ _ _ _ _ _ _) rfl rfl)) (fun _ => ext_new rfl) (fun b2 => ?_)
 refine WDm.spec (WS.free rfl (E.appendG Try.underlying39 hi3 hz30 hz31 hz32 rfl (by decide) rfl rfl rfl m0 rfl rfl (by unfold maxLen; omega) (by omega) rfl)) (fun _ => sub_push rfl) (fun i => ?_)
 refine WDm.quiet (QS.pure (Y.nilCheck rfl) rfl rfl) rfl rfl rfl ?_
 refine WDm.quiet (QS.pure (Y.fieldAddr fa_112_0 rfl) rfl rfl) rfl rfl rfl ?_
 refine WDm.spec (WS.free rfl (E.storeP Try.sizeOf39 rfl rfl rfl rfl rfl u2 (by rw [cells_len]; omega) (more_cells B i.1 i.2 r))) (fun _ => sub_refl _) (fun _ => ?_)
 refine WDm.nil (WQ.and ?_)
 refine WQ.next ?_
 refine WC.seq ?_
 obtain ⟨A1, c1⟩ := i
 dsimp only
 refine WC.le (bk_more _ B A1 c1 r G) ?_
 have en : (B.more A1 c1 r).l.length = h.length + 1 := by simp [Bk.more, hBl]
 refine WC.region ?_
 refine WL.pure (Y.move rfl) rfl rfl rfl ?_
 refine WL.pure (Y.nilCheck rfl) rfl rfl rfl ?_
 refine WL.pure (Y.fieldAddr fa_112_0 rfl) rfl rfl rfl ?_
 refine WL.val (Y.load (v := .slice A1 (h.length + 1) c1) fl_39 rfl m2 (congrArg (fun k => some (Value.slice A1 k c1)) en)) rfl rfl rfl ?_
 refine WL.pure (Y.len Try.underlying39 rfl) rfl rfl rfl ?_
 refine WL.pure (Y.assign rfl) rfl rfl rfl ?_
 refine WL.nil ?_
 refine WQ.next ?_
 refine WC.seq ?_
 refine WC.region ?_
 refine WL.pure (Y.move rfl) rfl rfl rfl ?_
 refine WL.pure (Y.fieldAddr fa_34_1 rfl) rfl rfl rfl ?_
 refine WL.val (Y.load fl_3 rfl m1 rfl) rfl rfl rfl ?_
 refine WL.eff (E.of [_, _] rfl rfl rfl rfl rfl) rfl (fun i => ?_)
 obtain ⟨⟨B2, x, K⟩, hOf, hK⟩ := i
 obtain ⟨hB2, hst, hla, hup⟩ := of_more hB hOf
 obtain ⟨el, _, _, epg, ebk, _⟩ := of_l hOf
 dsimp only at hOf hK hB2 hst hla hup el epg ebk ⊢
 have e0 : B.ptr = B2.ptr := by unfold Bk.ptr; rw [ebk]; rfl
 rw [e0]
 have hl1 := hOf.1
 dsimp only at hl1
 have hl2 : B2.l = h.reverse ++ [r] := by rw [el, ← hB.l]; rfl
 have e2l : B2.l.length = h.length + 1 := by rw [hl2]; simp
 have hpg : B2.pg = pagesOf h := hB2.pg
 have hul := upB_len h r.txn
 rw [← hup] at hul
 obtain ⟨V, hV1, hV2⟩ := bk_foc u.heap.size G hl1
 refine WL.pure (Y.assign rfl) rfl rfl rfl ?_
 refine WL.nil ?_
 refine WQ.next ?_
 refine WC.seq ?_
 refine WC.region ?_
 refine WL.pure (Y.move rfl) rfl rfl rfl ?_
 refine WL.pure (Y.move rfl) rfl rfl rfl ?_
 refine WL.pure (Y.nilCheck rfl) rfl rfl rfl ?_
 refine WL.pure (Y.fieldAddr fa_117_1 rfl) rfl rfl rfl ?_
 refine WL.eff (E.store Try.sizeOf3 rfl rfl rfl rfl rfl u2 rfl rfl) rfl (fun _ => ?_)
 refine WL.nil ?_
 refine WQ.next ?_
 refine WC.seq ?_
 refine WC.seq ?_
 refine WC.region ?_
 refine WL.val (Y.loadA wd_34 rfl m1 rfl) rfl rfl rfl ?_
 refine WL.eff (E.call Try.call51 rfl (fun _ w s => w_turns r w) rfl) rfl (fun _ => ?_)
 refine WL.nil ?_
 refine WQ.next ?_
 refine WC.isT rfl (ht) ?_
 refine WC.draw [(0, .q false), (1, .q false), (2, .q true), (3, .q false), (4, .q false), (5, .q true), (6, .q false), (7, .q false), (8, .q false), (9, .q true), (10, .q false), (11, .q true), (12, .q false), (13, .q true), (14, .q false), (15, .q true), (16, .q false), (17, .q false), (18, .q false), (19, .q false), (20, .q false), (21, .q false), (22, .s true)] mixed (by kernel_rfl) ?_
 refine WDm.quiet (QS.pure (Y.move rfl) rfl rfl) rfl rfl rfl ?_
 refine WDm.quiet (QS.pure (Y.fieldAddr fa_34_3 rfl) rfl rfl) rfl rfl rfl ?_
 refine WDm.quiet (QS.val (Y.load fl_3 rfl m1 rfl) rfl rfl) rfl rfl rfl ?_
 refine WDm.quiet (QS.pure (Y.move rfl) rfl rfl) rfl rfl rfl ?_
 refine WDm.quiet (QS.pure (Y.fieldAddr fa_34_3 rfl) rfl rfl) rfl rfl rfl ?_
 refine WDm.quiet (QS.val (Y.load fl_3 rfl m1 rfl) rfl rfl) rfl rfl rfl ?_
 refine WDm.quiet (QS.pure (Y.nilCheck rfl) rfl rfl) rfl rfl rfl ?_
 refine WDm.quiet (QS.pure (Y.fieldAddr fa_112_1 rfl) rfl rfl) rfl rfl rfl ?_
 refine WDm.quiet (QS.pure (Y.ixArr Try.underlying42 Try.sizeOf24 rfl rfl hp.1 (by omega)) rfl rfl) rfl rfl rfl ?_
 refine WDm.quiet (QS.val (Y.loadAN wd_24 rfl m3 (page_at B2 r.page hp)) rfl rfl) rfl rfl rfl ?_
 refine WDm.quiet (QS.pure (Y.fieldAddr fa_34_4 rfl) rfl rfl) rfl rfl rfl ?_
 refine WDm.quiet (QS.val (Y.load fl_3 rfl m1 rfl) rfl rfl) rfl rfl rfl ?_
 refine WDm.quiet (QS.pure (Y.fieldAddr fa_34_6 rfl) rfl rfl) rfl rfl rfl ?_
 refine WDm.quiet (QS.val (Y.load fl_3 rfl m1 rfl) rfl rfl) rfl rfl rfl ?_
 refine WDm.quiet (QS.pure (Y.move rfl) rfl rfl) rfl rfl rfl ?_
 refine WDm.quiet (QS.call Try.call42 rfl (fun _ w s => w_setOk (B2.pg.get r.page) r.cell r.new (h.length + 1 : Nat) w (by rw [hpg]; exact P3.ok_get hr1.pok _) (by simp [setArgs, wi]; omega))) rfl rfl rfl ?_
 refine WDm.quiet (QS.pure (Y.move rfl) rfl rfl) rfl rfl rfl ?_
 refine WDm.quiet (QS.pure (Y.extract rfl rfl) rfl rfl) rfl rfl rfl ?_
 refine WDm.quiet (QS.pure (Y.extract rfl rfl) rfl rfl) rfl rfl rfl ?_
 refine WDm.quiet (QS.pure (Y.nilCheck rfl) rfl rfl) rfl rfl rfl ?_
 refine WDm.quiet (QS.pure (Y.fieldAddr fa_112_1 rfl) rfl rfl) rfl rfl rfl ?_
 refine WDm.quiet (QS.pure (Y.ixArr Try.underlying42 Try.sizeOf24 rfl rfl (by omega) (by omega)) rfl rfl) rfl rfl rfl ?_
 refine WDm.spec (WS.free rfl (E.storeP Try.sizeOf24 rfl rfl rfl rfl rfl u3 (by rw [cells_len]; omega) (page_put B2 r.page _ hp))) (fun _ => sub_refl _) (fun _ => ?_)
 refine WDm.nil (WQ.and ?_)
 refine WQ.next ?_
 refine WC.seq ?_
 refine WC.seq ?_
 refine WC.region ?_
 refine WL.pure (Y.fieldAddr fa_34_0 rfl) rfl rfl rfl ?_
 refine WL.val (Y.load fl_3 rfl m1 rfl) rfl rfl rfl ?_
 refine WL.nil ?_
 refine WQ.next ?_
 refine WC.block ?_
 refine WC.seq ?_
 refine WC.region ?_
 refine WL.pure (Y.eql rfl rfl) rfl rfl rfl ?_
 refine WL.pure (Y.assign rfl) rfl rfl rfl ?_
 refine WL.nil ?_
 refine WQ.next ?_
 refine WC.isF rfl (by simp [hk]) ?_
 refine WC.seq ?_
 refine WC.region ?_
 refine WL.pure (Y.eql rfl rfl) rfl rfl rfl ?_
 refine WL.pure (Y.assign rfl) rfl rfl rfl ?_
 refine WL.nil ?_
 refine WQ.next ?_
 refine WC.isF rfl (by simp [hk]) ?_
 refine WC.seq ?_
 refine WC.region ?_
 refine WL.pure (Y.eql rfl rfl) rfl rfl rfl ?_
 refine WL.pure (Y.assign rfl) rfl rfl rfl ?_
 refine WL.nil ?_
 refine WQ.next ?_
 refine WC.isT rfl (by simp [hk]) ?_
 obtain ⟨n0, us, hux⟩ := back_up hr hk
 rw [← hup] at hux
 have hul1 : 1 ≤ x.up.length := by rw [hux]; simp
 refine WC.know (p := x.up.length ≤ x.c) (fun a w s => own_le (bk_row hl1 s.fact.1)) (fun hcap => ?_)
 refine WC.draw [(0, .q false), (1, .q false), (2, .q false), (3, .q false), (4, .q false), (5, .q true), (6, .q false), (7, .q false), (8, .q false), (9, .q true), (10, .q false), (11, .q false), (12, .q false), (13, .q false), (14, .q false), (15, .s true), (16, .q false), (17, .q false), (18, .s true)] mixed (by kernel_rfl) ?_
 refine WDm.quiet (QS.pure (Y.move rfl) rfl rfl) rfl rfl rfl ?_
 refine WDm.quiet (QS.pure (Y.move rfl) rfl rfl) rfl rfl rfl ?_
 refine WDm.quiet (QS.pure (Y.move rfl) rfl rfl) rfl rfl rfl ?_
 refine WDm.quiet (QS.pure (Y.nilCheck rfl) rfl rfl) rfl rfl rfl ?_
 refine WDm.quiet (QS.pure (Y.fieldAddr fa_117_2 rfl) rfl rfl) rfl rfl rfl ?_
 refine WDm.quiet (QS.val (Y.load fl_64 rfl m2 rfl) rfl rfl) rfl rfl rfl ?_
 refine WDm.quiet (QS.pure (Y.move rfl) rfl rfl) rfl rfl rfl ?_
 refine WDm.quiet (QS.pure (Y.nilCheck rfl) rfl rfl) rfl rfl rfl ?_
 refine WDm.quiet (QS.pure (Y.fieldAddr fa_117_2 rfl) rfl rfl) rfl rfl rfl ?_
 refine WDm.quiet (QS.val (Y.load fl_64 rfl m2 rfl) rfl rfl) rfl rfl rfl ?_
 refine WDm.quiet (QS.pure (Y.len Try.underlying64 rfl) rfl rfl) rfl rfl rfl ?_
 refine WDm.quiet (QS.pure (Y.sub rfl rfl (i64_sub1 hul1 (by omega))) rfl rfl) rfl rfl rfl ?_
 refine WDm.quiet (QS.pure (Y.slToN (x.up.length - 1) rfl Try.underlying64 Try.sizeOf3 rfl rfl (by omega)) rfl rfl) rfl rfl rfl ?_
 refine WDm.quiet (QS.pure (Y.nilCheck rfl) rfl rfl) rfl rfl rfl ?_
 refine WDm.quiet (QS.pure (Y.fieldAddr fa_117_0 rfl) rfl rfl) rfl rfl rfl ?_
 refine WDm.spec (WS.free rfl (E.store Try.sizeOf3 rfl rfl rfl rfl rfl u2 rfl rfl)) (fun _ => sub_refl _) (fun _ => ?_)
 refine WDm.quiet (QS.pure (Y.nilCheck rfl) rfl rfl) rfl rfl rfl ?_
 refine WDm.quiet (QS.pure (Y.fieldAddr fa_117_2 rfl) rfl rfl) rfl rfl rfl ?_
 refine WDm.spec (WS.free rfl (E.storeP (cs' := (x.back (h.length + 1)).cells) Try.sizeOf64 rfl rfl rfl rfl rfl u2 (by show 2 + 1 ≤ 3; omega) (by simp [put, TxE.cells, TxE.back]))) (fun _ => sub_refl _) (fun _ => ?_)
 refine WDm.nil (WQ.and ?_)
 refine WQ.blockEnd ?_
 refine WQ.next ?_
 have hl3 := look_next (B2 := B2) (r := r) (x := x) (y := (x.back (h.length + 1))) (pg := (B2.pg.set r.page ((B2.pg.get r.page).put r.cell r.new (h.length + 1 : Nat)))) hl1 rfl
 have hU := ups_next (pg := (B2.pg.set r.page ((B2.pg.get r.page).put r.cell r.new (h.length + 1 : Nat)))) hB2 hl1 (y := (x.back (h.length + 1))) (by omega) e2l rfl hk.symm rfl (by simp [TxE.back, upB, hk, hup])
 refine WC.le (SF.le_trans hV1 (SF.le_trans (SF.sep_mono (row_back _ x (h.length + 1)) (SF.le_refl _)) (hV2 (x.back (h.length + 1)) (B2.pg.set r.page ((B2.pg.get r.page).put r.cell r.new (h.length + 1 : Nat))) rfl))) ?_
 refine WC.region ?_
 refine WL.pure (Y.move rfl) rfl rfl rfl ?_
 refine WL.pure (Y.fieldAddr fa_34_1 rfl) rfl rfl rfl ?_
 refine WL.val (Y.load fl_3 rfl m1 rfl) rfl rfl rfl ?_
 refine WL.eff (E.leave B2 (B2.nx r.txn (x.back (h.length + 1)) (B2.pg.set r.page ((B2.pg.get r.page).put r.cell r.new (h.length + 1 : Nat)))) x (x.back (h.length + 1)) [_, _] rfl hK rfl hl3 hU hB2.vals hB2.borns hB2.keys hB2.lt rfl rfl rfl rfl) rfl (fun _ => ?_)
 refine WL.nil ?_
 refine WQ.over Try.results130 RVs.nil (fun a w s => ?_)
 · refine ⟨⟨(Bk.left (B2.nx r.txn (x.back (h.length + 1)) (B2.pg.set r.page ((B2.pg.get r.page).put r.cell r.new (h.length + 1 : Nat)))) r.txn (x.back (h.length + 1))), ?_, ?_⟩, rfl, s.wp.sub (rest_hp (Hx := [_, _]) (Hsub.refl _))⟩
   · exact BOk.next hB2 hl1 (y := (x.back (h.length + 1))) hl2 ((by rw [pages_turn ht, hpg]; rfl)) rfl rfl (hk.symm) rfl (by simp [TxE.back, upB, hk, hup]) (own_left hB2.keys hB2.ow (by show B2.l = _; rw [hl2, List.reverse_cons]) (by simp [TxE.back, upB, hk, hup]) (by omega) (by omega)) (filter_pair hB2.borns) (filter_pair hB2.keys) (fun e he => hB2.lt e (List.mem_filter.1 he).1)
   · exact ebk

theorem w_put4 (u : World) (B : Bk) (Hl : Hp) (G : SF) (h : List R) (r : R) (w : World) (hw : Wp u (B.hp ++ Hl) ((SF.bk u.heap.size B).sep G) w) (hB : BOk B h) (hr : Right (r :: h)) (hk : r.kind = 4) : Calls Try.prog 130 [B.ptr, r.val].toArray w fun e w' => ∃ i : {B' : Bk // BOk B' (r :: h) ∧ B'.bk = B.bk}, e = .returned (packed []) ∧ Wp u (i.1.hp ++ Hl) ((SF.bk u.heap.size i.1).sep G) w' := by
 obtain ⟨hr1, hr2, hr3⟩ := hr.parts
 have hbd := rec_bounds hr2
 have hBl : B.l.length = h.length := by rw [hB.l]; simp
 have ht : r.turns = false := by simp [R.turns, hk]
 obtain ⟨i3, hi3, hz30, hz31, hz32⟩ := info_parts rec_info
 obtain ⟨i0, hi0, hz0, hz1, hz2⟩ := info_parts int_info
 refine enterW Try.func130 rfl Try.ntmps130 rfl hw ?_
 refine WC.seq ?_
 refine WC.region ?_
 refine WL.eff (E.box rfl rfl rfl) rfl (fun b1 => ?_)
 refine WL.nil ?_
 refine WQ.next ?_
 refine WC.seq ?_
 refine WC.le (bk_rl _ _ _) ?_
 refine WC.draw [(0, .q false), (1, .q false), (2, .q false), (3, .q false), (4, .q true), (5, .q true), (6, .s false), (7, .s true), (8, .q false), (9, .q false), (10, .s true)] mixed (by kernel_rfl) ?_
 refine WDm.quiet (QS.pure (Y.move rfl) rfl rfl) rfl rfl rfl ?_
 refine WDm.quiet (QS.pure (Y.move rfl) rfl rfl) rfl rfl rfl ?_
 refine WDm.quiet (QS.pure (Y.nilCheck rfl) rfl rfl) rfl rfl rfl ?_
 refine WDm.quiet (QS.pure (Y.fieldAddr fa_112_0 rfl) rfl rfl) rfl rfl rfl ?_
 refine WDm.quiet (QS.val (Y.load fl_39 rfl m1 rfl) rfl rfl) rfl rfl rfl ?_
 refine WDm.quiet (QS.val (Y.loadA wd_34 rfl m0 rfl) rfl rfl) rfl rfl rfl ?_
 refine WDm.spec (WS.free rfl (E.buildSlice (bs_39_1 _ _ _ _ _ _ _ _) rfl rfl)) (fun _ => ext_new rfl) (fun b2 => ?_)
 refine WDm.spec (WS.free rfl (E.appendG Try.underlying39 hi3 hz30 hz31 hz32 rfl (by decide) rfl rfl rfl m0 rfl rfl (by unfold maxLen; omega) (by omega) rfl)) (fun _ => sub_push rfl) (fun i => ?_)
 refine WDm.quiet (QS.pure (Y.nilCheck rfl) rfl rfl) rfl rfl rfl ?_
 refine WDm.quiet (QS.pure (Y.fieldAddr fa_112_0 rfl) rfl rfl) rfl rfl rfl ?_
 refine WDm.spec (WS.free rfl (E.storeP Try.sizeOf39 rfl rfl rfl rfl rfl u2 (by rw [cells_len]; omega) (more_cells B i.1 i.2 r))) (fun _ => sub_refl _) (fun _ => ?_)
 refine WDm.nil (WQ.and ?_)
 refine WQ.next ?_
 refine WC.seq ?_
 obtain ⟨A1, c1⟩ := i
 dsimp only
 refine WC.le (bk_more _ B A1 c1 r G) ?_
 have en : (B.more A1 c1 r).l.length = h.length + 1 := by simp [Bk.more, hBl]
 refine WC.region ?_
 refine WL.pure (Y.move rfl) rfl rfl rfl ?_
 refine WL.pure (Y.nilCheck rfl) rfl rfl rfl ?_
 refine WL.pure (Y.fieldAddr fa_112_0 rfl) rfl rfl rfl ?_
 refine WL.val (Y.load (v := .slice A1 (h.length + 1) c1) fl_39 rfl m2 (congrArg (fun k => some (Value.slice A1 k c1)) en)) rfl rfl rfl ?_
 refine WL.pure (Y.len Try.underlying39 rfl) rfl rfl rfl ?_
 refine WL.pure (Y.assign rfl) rfl rfl rfl ?_
 refine WL.nil ?_
 refine WQ.next ?_
 refine WC.seq ?_
 refine WC.region ?_
 refine WL.pure (Y.move rfl) rfl rfl rfl ?_
 refine WL.pure (Y.fieldAddr fa_34_1 rfl) rfl rfl rfl ?_
 refine WL.val (Y.load fl_3 rfl m1 rfl) rfl rfl rfl ?_
 refine WL.eff (E.of [_, _] rfl rfl rfl rfl rfl) rfl (fun i => ?_)
 obtain ⟨⟨B2, x, K⟩, hOf, hK⟩ := i
 obtain ⟨hB2, hst, hla, hup⟩ := of_more hB hOf
 obtain ⟨el, _, _, epg, ebk, _⟩ := of_l hOf
 dsimp only at hOf hK hB2 hst hla hup el epg ebk ⊢
 have e0 : B.ptr = B2.ptr := by unfold Bk.ptr; rw [ebk]; rfl
 rw [e0]
 have hl1 := hOf.1
 dsimp only at hl1
 have hl2 : B2.l = h.reverse ++ [r] := by rw [el, ← hB.l]; rfl
 have e2l : B2.l.length = h.length + 1 := by rw [hl2]; simp
 have hpg : B2.pg = pagesOf h := hB2.pg
 have hul := upB_len h r.txn
 rw [← hup] at hul
 obtain ⟨V, hV1, hV2⟩ := bk_foc u.heap.size G hl1
 refine WL.pure (Y.assign rfl) rfl rfl rfl ?_
 refine WL.nil ?_
 refine WQ.next ?_
 refine WC.seq ?_
 refine WC.region ?_
 refine WL.pure (Y.move rfl) rfl rfl rfl ?_
 refine WL.pure (Y.move rfl) rfl rfl rfl ?_
 refine WL.pure (Y.nilCheck rfl) rfl rfl rfl ?_
 refine WL.pure (Y.fieldAddr fa_117_1 rfl) rfl rfl rfl ?_
 refine WL.eff (E.store Try.sizeOf3 rfl rfl rfl rfl rfl u2 rfl rfl) rfl (fun _ => ?_)
 refine WL.nil ?_
 refine WQ.next ?_
 refine WC.seq ?_
 refine WC.seq ?_
 refine WC.region ?_
 refine WL.val (Y.loadA wd_34 rfl m1 rfl) rfl rfl rfl ?_
 refine WL.eff (E.call Try.call51 rfl (fun _ w s => w_turns r w) rfl) rfl (fun _ => ?_)
 refine WL.nil ?_
 refine WQ.next ?_
 refine WC.isF rfl (ht) ?_
 refine WC.skip' ?_
 refine WQ.next ?_
 refine WC.seq ?_
 refine WC.seq ?_
 refine WC.region ?_
 refine WL.pure (Y.fieldAddr fa_34_0 rfl) rfl rfl rfl ?_
 refine WL.val (Y.load fl_3 rfl m1 rfl) rfl rfl rfl ?_
 refine WL.nil ?_
 refine WQ.next ?_
 refine WC.block ?_
 refine WC.seq ?_
 refine WC.region ?_
 refine WL.pure (Y.eql rfl rfl) rfl rfl rfl ?_
 refine WL.pure (Y.assign rfl) rfl rfl rfl ?_
 refine WL.nil ?_
 refine WQ.next ?_
 refine WC.isF rfl (by simp [hk]) ?_
 refine WC.seq ?_
 refine WC.region ?_
 refine WL.pure (Y.eql rfl rfl) rfl rfl rfl ?_
 refine WL.pure (Y.assign rfl) rfl rfl rfl ?_
 refine WL.nil ?_
 refine WQ.next ?_
 refine WC.isF rfl (by simp [hk]) ?_
 refine WC.seq ?_
 refine WC.region ?_
 refine WL.pure (Y.eql rfl rfl) rfl rfl rfl ?_
 refine WL.pure (Y.assign rfl) rfl rfl rfl ?_
 refine WL.nil ?_
 refine WQ.next ?_
 refine WC.isF rfl (by simp [hk]) ?_
 refine WC.seq ?_
 refine WC.region ?_
 refine WL.pure (Y.eql rfl rfl) rfl rfl rfl ?_
 refine WL.pure (Y.assign rfl) rfl rfl rfl ?_
 refine WL.nil ?_
 refine WQ.next ?_
 refine WC.isT rfl (by simp [hk]) ?_
 refine WC.region ?_
 refine WL.pure (Y.move rfl) rfl rfl rfl ?_
 refine WL.pure (Y.move rfl) rfl rfl rfl ?_
 refine WL.pure (Y.nilCheck rfl) rfl rfl rfl ?_
 refine WL.pure (Y.fieldAddr fa_117_0 rfl) rfl rfl rfl ?_
 refine WL.eff (E.store Try.sizeOf3 rfl rfl rfl rfl rfl u2 rfl rfl) rfl (fun _ => ?_)
 refine WL.pure (Y.nilCheck rfl) rfl rfl rfl ?_
 refine WL.pure (Y.fieldAddr fa_117_2 rfl) rfl rfl rfl ?_
 refine WL.eff (E.store Try.sizeOf64 rfl rfl rfl rfl rfl u2 rfl rfl) rfl (fun _ => ?_)
 refine WL.nil ?_
 refine WQ.blockEnd ?_
 refine WQ.next ?_
 have hl3 := look_next (B2 := B2) (r := r) (x := x) (y := (x.end (h.length + 1))) (pg := B2.pg) hl1 rfl
 have hU := ups_next (pg := B2.pg) hB2 hl1 (y := (x.end (h.length + 1))) (by omega) e2l rfl hk.symm rfl (by simp [TxE.end, upB, hk])
 refine WC.le (SF.le_trans hV1 (SF.le_trans (SF.sep_mono (row_end _ x (h.length + 1)) (SF.le_refl _)) (hV2 (x.end (h.length + 1)) B2.pg rfl))) ?_
 refine WC.region ?_
 refine WL.pure (Y.move rfl) rfl rfl rfl ?_
 refine WL.pure (Y.fieldAddr fa_34_1 rfl) rfl rfl rfl ?_
 refine WL.val (Y.load fl_3 rfl m1 rfl) rfl rfl rfl ?_
 refine WL.eff (E.leave B2 (B2.nx r.txn (x.end (h.length + 1)) B2.pg) x (x.end (h.length + 1)) [_, _] rfl hK rfl hl3 hU hB2.vals hB2.borns hB2.keys hB2.lt rfl rfl rfl rfl) rfl (fun _ => ?_)
 refine WL.nil ?_
 refine WQ.over Try.results130 RVs.nil (fun a w s => ?_)
 · refine ⟨⟨(Bk.left (B2.nx r.txn (x.end (h.length + 1)) B2.pg) r.txn (x.end (h.length + 1))), ?_, ?_⟩, rfl, s.wp.sub (rest_hp (Hx := [_, _]) (Hsub.refl _))⟩
   · exact BOk.next hB2 hl1 (y := (x.end (h.length + 1))) hl2 ((by rw [pages_stay ht]; exact hpg)) rfl rfl (hk.symm) rfl (by simp [TxE.end, upB, hk]) (own_left hB2.keys hB2.ow (by show B2.l = _; rw [hl2, List.reverse_cons]) (by simp [TxE.end, upB, hk]) (by omega) (by omega)) (filter_pair hB2.borns) (filter_pair hB2.keys) (fun e he => hB2.lt e (List.mem_filter.1 he).1)
   · exact ebk

theorem w_put (u : World) (B : Bk) (Hl : Hp) (G : SF) (h : List R) (r : R) (w : World) (hw : Wp u (B.hp ++ Hl) ((SF.bk u.heap.size B).sep G) w) (hB : BOk B h) (hr : Right (r :: h)) : Calls Try.prog 130 [B.ptr, r.val].toArray w fun e w' => ∃ i : {B' : Bk // BOk B' (r :: h) ∧ B'.bk = B.bk}, e = .returned (packed []) ∧ Wp u (i.1.hp ++ Hl) ((SF.bk u.heap.size i.1).sep G) w' := by
  have hb := rec_bounds hr.parts.2.1
  have hk : r.kind = 1 ∨ r.kind = 2 ∨ r.kind = 3 ∨ r.kind = 4 := by omega
  rcases hk with hk | hk | hk | hk
  · exact w_put1 u B Hl G h r w hw hB hr hk
  · exact w_put2 u B Hl G h r w hw hB hr hk
  · exact w_put3 u B Hl G h r w hw hB hr hk
  · exact w_put4 u B Hl G h r w hw hB hr hk
end Go.Proofs.Ytdbcimadjmdffaa
