/- Mend: next. No condition. -/
import Derived.Test.YtdbcimadjmdffaaCq
set_option maxRecDepth 100000
set_option linter.unusedVariables false
set_option linter.unusedSimpArgs false
set_option linter.unusedSectionVars false
set_option maxHeartbeats 4000000
namespace Go.Proofs.Ytdbcimadjmdffaa
open Go.RowKit Go.Joins
theorem w_crewNext (u : World) (B : Bk) (Hl : Hp) (G : SF) (h : List R) (x : Wd) (A : Option Addr) (c dk : Nat) (w : World) (hw : Wp u (x.dk B dk A c :: (B.hp ++ Hl)) ((SF.bk u.heap.size B).sep G) w) (hB : BOk B h) (hR : Right h) (h60 : h.length ≤ 60) : Calls Try.prog 161 [.agg #[.pointer (some ⟨dk, 0, none⟩)]].toArray w fun e w' => ∃ i : {i : Bk // BOk i h ∧ i.bk = B.bk}, e = .returned (packed [(nextR h).1.val, .bool (nextR h).2]) ∧ Wp u (x.dk B dk A c :: (i.1.hp ++ Hl)) ((SF.bk u.heap.size i.1).sep G) w' := by
 refine enterM Try.func161 rfl Try.ntmps161 rfl hw ?_
 refine sR ?_
 refine WL.eff (E.box rfl rfl rfl) rfl (fun b1 => ?_)
 refine WL.eff (E.alloc Try.zeroValue34 rfl rfl) rfl (fun b2 => ?_)
 refine WL.eff (E.alloc Try.zeroValue4 rfl rfl) rfl (fun b3 => ?_)
 refine nN ?_
 refine WC.seq ?_
 refine sR ?_
 refine pP (Y.fieldAddr fa_151_0 rfl) rfl ?_
 refine pV (Y.load (v := .pointer (some ⟨dk, 0, none⟩)) fl_119 rfl m2 rfl) rfl ?_
 refine pP (Y.nilCheck rfl) rfl ?_
 refine pP (Y.fieldAddr fa_123_0 rfl) rfl ?_
 refine pV (Y.load (cs := B.ptr :: x.cl A c) (v := B.ptr) fl_105 rfl (by repeat (first | exact List.Mem.head _ | apply List.Mem.tail)) rfl) rfl ?_
 refine WL.eff (E.buildSlice (bs_64_1 _) rfl rfl) rfl (fun b4 => ?_)
 refine WL.eff (E.those (q := ⟨B.bk, 0, none⟩) rfl rfl rfl) rfl (fun i => ?_)
 refine nN ?_
 refine WC.block ?_
 obtain ⟨i1, i2⟩ := i
 dsimp only
 refine WC.rangeFuncC (ι := {p : Bk // BOk p h ∧ p.bk = B.bk ∧ selT (fun t => [(2 : Int)].contains (stt h t : Int)) 9 = []}) (κ := {k : Bk × Nat // BOk k.1 h ∧ k.1.bk = B.bk ∧ k.2 < 9 ∧ selT (fun t => [(2 : Int)].contains (stt h t : Int)) k.2 = [] ∧ (fun t => [(2 : Int)].contains (stt h t : Int)) ((k.2 : Int) + 1) = true}) (fun p => thK i1 b4 i2 B.bk 1 [2] ++ (p.1.hp ++ ([(b3, [.bool false], 4), (b2, R.zero.cl, 34), (b1, [.pointer (some ⟨dk, 0, none⟩)], 151), x.dk B dk A c] ++ Hl))) (fun p => (SF.bk u.heap.size p.1).sep G) (fun k => thK i1 b4 i2 B.bk 1 [2] ++ ([(b3, [.bool true], 4), (b2, (enR ((k.1.2 : Int) + 1) (lastN h ((k.1.2 : Int) + 1))).cl, 34), (b1, [.pointer (some ⟨dk, 0, none⟩)], 151), x.dk B dk A c] ++ (k.1.1.hp ++ Hl))) (fun k => (SF.bk u.heap.size k.1.1).sep G) rfl Try.call163 (fun cA cB hcA hcB fn tmps D W hE hn hW => ?_) ?_ ?_
 · have hW1 := (hW.sub (Hsub.thKM (i1, [.slice (some ⟨b4, 0, none⟩) 1 1], 64) (i2, [.pointer (some ⟨B.bk, 0, none⟩)], 105) (b4, [.int .i64 2], 3) ([(b3, [.bool false], 4), (b2, R.zero.cl, 34), (b1, [.pointer (some ⟨dk, 0, none⟩)], 151), x.dk B dk A c]) B.hp Hl)).le (G := (SF.bk u.heap.size B).sep ((SF.obj u.heap.size (D + 1) (.loop (recO .ready none fn tmps #[14] cA cB D))).sep ((SF.obj u.heap.size D (.deferred (some []))).sep G))) (SF.le_trans (SF.sep_mono (SF.le_refl _) (SF.sep_rot _ _ _)) (SF.sep_rot _ _ _))
   refine (R.w_those u h hR [2] (by decide) i1 b4 i2 B.bk 1 (D + 1) (ι := Unit) (κ := Bk × Nat) (fun _ => [(b3, [.bool false], 4), (b2, R.zero.cl, 34), (b1, [.pointer (some ⟨dk, 0, none⟩)], 151), x.dk B dk A c] ++ Hl) (fun _ => (SF.obj u.heap.size (D + 1) (.loop (recO .ready none fn tmps #[14] cA cB D))).sep ((SF.obj u.heap.size D (.deferred (some []))).sep G)) (fun m _ => selT (fun t => [(2 : Int)].contains (stt h t : Int)) m = []) (fun k => [(b3, [.bool true], 4), (b2, (enR ((k.2 : Int) + 1) (lastN h ((k.2 : Int) + 1))).cl, 34), (b1, [.pointer (some ⟨dk, 0, none⟩)], 151), x.dk B dk A c] ++ (k.1.hp ++ Hl)) (fun k => (SF.obj u.heap.size (D + 1) (.loop (recO .done (some .ret) fn tmps #[14] cA cB D))).sep ((SF.obj u.heap.size D (.deferred (some []))).sep ((SF.bk u.heap.size k.1).sep G))) (fun m k => BOk k.1 h ∧ k.1.bk = B.bk ∧ k.2 = m ∧ m < 9 ∧ selT (fun t => [(2 : Int)].contains (stt h t : Int)) m = [] ∧ (fun t => [(2 : Int)].contains (stt h t : Int)) ((m : Int) + 1) = true) (fun m _ hf hj => by rw [selT_out hf]; exact hj) (fun m _ B' W' hB' hbk' hm hsel hrel hW' => ?_) B hB rfl () rfl W hW1).mono fun e w' hh => ?_
   rotate_left
   · obtain ⟨he, ⟨j, B', ⟨hB', hbk', hj⟩, hw'⟩ | ⟨k, m, ⟨q1, q2, q3, q4, q5, q6⟩, hw'⟩⟩ := hh
     · exact ⟨he, .inl ⟨⟨B', hB', hbk', hj⟩, hw'.le (SF.le_trans (SF.sep_rot _ _ _) (SF.sep_mono (SF.le_refl _) (SF.sep_rot _ _ _)))⟩⟩
     · subst q3
       exact ⟨he, .inr ⟨⟨k, q1, q2, q4, q5, q6⟩, hw'⟩⟩
   have hs2 : stt h ((m : Int) + 1) = 2 := by have := two_eq h ((m : Int) + 1); rw [hsel] at this; simpa using this.symm
   obtain ⟨x9, hx9, hl9⟩ := tx_there hB' hR (t := (m : Int) + 1) (by omega)
   have eB : B'.ptr = B.ptr := by unfold Bk.ptr; rw [hbk']
   subst hcA hcB
   refine round_at 4 (hW'.le (SF.sep_rot _ _ _)) hE hn rfl (fun i0 iR hd => ?_) (fun i0 iR hd => ?_)
   · refine R.WC.region ?_
     refine R.pA rfl rfl ?_
     refine R.WL.nil ?_
     exact fun a w s => ⟨rfl, s⟩
   refine R.WC.block ?_
   refine R.WC.seq ?_
   refine R.WC.le (SF.sep_rot _ _ _) ?_
   refine R.WC.sub (Hsub.front _ _ ([(b3, [.bool false], 4), (b2, R.zero.cl, 34), (b1, [.pointer (some ⟨dk, 0, none⟩)], 151), x.dk B dk A c]) _) ?_
   refine R.WC.region ?_
   refine R.pM rfl rfl ?_
   refine R.pP (Y.fieldAddr fa_151_0 rfl) rfl ?_
   refine R.pV (Y.load (v := .pointer (some ⟨dk, 0, none⟩)) fl_119 rfl m2 rfl) rfl ?_
   refine R.pP (Y.nilCheck rfl) rfl ?_
   refine R.pP (Y.fieldAddr fa_123_0 rfl) rfl ?_
   refine R.pV (Y.load (cs := B.ptr :: x.cl A c) (v := B.ptr) fl_105 rfl (by repeat (first | exact List.Mem.head _ | apply List.Mem.tail)) rfl) rfl ?_
   refine R.pM rfl rfl ?_
   refine R.WL.eff (E.call Try.call124 rfl (fun _ w s => (by rw [← eB]; exact w_ofOld u B' _ ((SF.bk u.heap.size B').sep _) ((m : Int) + 1) x9 hx9 w (List.mem_append_right _ (List.mem_append_right _ (List.mem_append_left _ (List.Mem.head _)))) (fun w h => h.1.1.1) s.wp)) rfl) rfl (fun _ => ?_)
   refine R.pP (Y.nilCheck rfl) rfl ?_
   refine R.pP (Y.fieldAddr fa_117_1 rfl) rfl ?_
   refine R.pV (Y.load (cs := x9.cells) (v := .int .i64 x9.last) fl_3 rfl (List.mem_append_right _ (List.mem_append_right _ (List.mem_append_left _ (List.Mem.tail _ (blkc_mem hx9))))) rfl) rfl ?_
   rw [hl9]
   refine R.pP (Y.build rfl (bf_34_0_1_2 _ _ _)) rfl ?_
   refine R.WL.eff (E.store Try.sizeOf34 rfl rfl rfl rfl rfl u1 rfl rfl) rfl (fun _ => ?_)
   refine R.WL.eff (E.store Try.sizeOf4 rfl rfl rfl rfl rfl u0 rfl rfl) rfl (fun _ => ?_)
   refine R.nN ?_
   refine R.WC.ret ?_
   refine WQ.blockRet ?_
   refine WQ.le (SF.sep_rot _ _ _) ?_
   refine WQ.leave fun W2 hW2 => .inr ⟨rfl, ⟨(B', m), hB', hbk', rfl, hm, hrel, hsel⟩, ?_⟩
   exact (hW2.le (SF.sep_mono (SF.le_refl _) (SF.sep_rot _ _ _))).sub (Hsub.swap2 _ ([(b3, [.bool true], 4), (b2, (enR ((m : Int) + 1) (lastN h ((m : Int) + 1))).cl, 34), (b1, [.pointer (some ⟨dk, 0, none⟩)], 151), x.dk B dk A c]) _)
 rotate_left
 rintro D i2' hd2 ⟨⟨B', q⟩, hB', hbk', hq9, hqs, hqt⟩
 dsimp only at hB' hbk' hq9 hqs hqt ⊢
 refine WQ.blockRet ?_
 refine WQ.thenRet ?_
 have hnx : nextR h = (enR ((q : Int) + 1) (lastN h ((q : Int) + 1)), true) := by
   unfold nextR nextH
   rw [show nine = tos 9 from rfl, find_tos (f := (fun t => [(2 : Int)].contains (stt h t : Int))) (two_eq h) 9 q hq9 hqs hqt]
 refine doneM1 (.inl rfl) hd2 (rs := [.cell 2 34, .cell 3 4]) (vs := [(enR ((q : Int) + 1) (lastN h ((q : Int) + 1))).val, .bool true]) Try.results161 (RVs.cons (RV.cell wd_34 rfl (by repeat (first | exact List.Mem.head _ | apply List.Mem.tail)) rfl) (RVs.cons (RV.flat fl_4 rfl (by repeat (first | exact List.Mem.head _ | apply List.Mem.tail)) rfl) RVs.nil)) (fun w2 s => ⟨⟨B', hB', hbk'⟩, ?_, ?_⟩)
 · rw [hnx]
 · exact s.sub (Hsub.of_sub (List.Sublist.cons _ (List.Sublist.cons _ (List.Sublist.cons _ (List.Sublist.cons _ (List.Sublist.cons _ (List.Sublist.cons _ (List.Sublist.refl _))))))))
 rintro D i2' hd2 ⟨B', hB', hbk', hqn⟩
 dsimp only at hB' hbk' hqn ⊢
 refine WQ.blockEnd ?_
 refine WQ.next ?_
 refine WC.seq ?_
 refine WC.sub (Hsub.drop3 _ _ ([(b3, [.bool false], 4), (b2, R.zero.cl, 34), (b1, [.pointer (some ⟨dk, 0, none⟩)], 151), x.dk B dk A c]) _) ?_
 refine WC.le (SF.sep_rot _ _ _) ?_
 refine WC.region ?_
 refine WL.eff (E.alloc Try.zeroValue3 rfl rfl) rfl (fun b5 => ?_)
 refine WL.eff (E.store Try.sizeOf3 rfl rfl rfl rfl rfl u0 rfl rfl) rfl (fun _ => ?_)
 refine nN ?_
 refine WC.seq ?_
 refine sR ?_
 refine pP (Y.fieldAddr fa_151_0 rfl) rfl ?_
 refine pV (Y.load (v := .pointer (some ⟨dk, 0, none⟩)) fl_119 rfl m3 rfl) rfl ?_
 refine pP (Y.nilCheck rfl) rfl ?_
 refine pP (Y.fieldAddr fa_123_0 rfl) rfl ?_
 refine pV (Y.load (cs := B.ptr :: x.cl A c) (v := B.ptr) fl_105 rfl (by repeat (first | exact List.Mem.head _ | apply List.Mem.tail)) rfl) rfl ?_
 refine WL.eff (E.buildSlice (bs_64_2 _ _) rfl rfl) rfl (fun b6 => ?_)
 refine WL.eff (E.those (q := ⟨B.bk, 0, none⟩) rfl rfl rfl) rfl (fun i => ?_)
 refine nN ?_
 refine WC.block ?_
 obtain ⟨j1, j2⟩ := i
 dsimp only
 refine WC.rangeFuncC (ι := {p : Bk // BOk p h ∧ p.bk = B.bk}) (κ := Empty) (fun p => thK j1 b6 j2 B.bk 2 [1, 3] ++ (p.1.hp ++ ([(b5, [.int .i64 (bestH h)], 3), (b3, [.bool false], 4), (b2, R.zero.cl, 34), (b1, [.pointer (some ⟨dk, 0, none⟩)], 151), x.dk B dk A c] ++ Hl))) (fun p => ((SF.obj u.heap.size D (.deferred (some [])))).sep ((SF.bk u.heap.size p.1).sep G)) (fun _ => []) (fun _ => SF.top) rfl Try.call163 (fun cA cB hcA hcB fn tmps E2 W hE hn hW => ?_) ?_ (fun _ _ _ k => k.elim)
 · have hW1 := (hW.sub (Hsub.thKM (j1, [.slice (some ⟨b6, 0, none⟩) 2 2], 64) (j2, [.pointer (some ⟨B.bk, 0, none⟩)], 105) (b6, [.int .i64 1, .int .i64 3], 3) ([(b5, [.int .i64 0], 3), (b3, [.bool false], 4), (b2, R.zero.cl, 34), (b1, [.pointer (some ⟨dk, 0, none⟩)], 151), x.dk B dk A c]) B'.hp Hl)).le (G := (SF.bk u.heap.size B').sep ((SF.obj u.heap.size (E2 + 1) (.loop (recO .ready none fn tmps #[34] cA cB E2))).sep ((SF.obj u.heap.size E2 (.deferred (some []))).sep ((SF.obj u.heap.size D (.deferred (some []))).sep G)))) (by
     refine SF.le_trans (SF.sep_mono (SF.le_refl _) (SF.sep_mono (SF.le_refl _) (SF.le_refl _))) ?_
     exact SF.le_trans (SF.sep_mono (SF.le_refl _) (SF.sep_rot _ _ _)) (SF.sep_rot _ _ _))
   refine (R.w_those u h hR [1, 3] (by decide) j1 b6 j2 B.bk 2 (E2 + 1) (ι := Int) (κ := Empty) (fun j => [(b5, [.int .i64 j], 3), (b3, [.bool false], 4), (b2, R.zero.cl, 34), (b1, [.pointer (some ⟨dk, 0, none⟩)], 151), x.dk B dk A c] ++ Hl) (fun _ => (SF.obj u.heap.size (E2 + 1) (.loop (recO .ready none fn tmps #[34] cA cB E2))).sep ((SF.obj u.heap.size E2 (.deferred (some []))).sep ((SF.obj u.heap.size D (.deferred (some []))).sep G))) (fun m j => j = (bestGo h (tos m) 0)) (fun _ => []) (fun _ => SF.top) (fun _ _ => False) (fun m j hf hj => by rw [tos, bestGo_app, ← hj, if_neg (fun hh => by have := (lost_eq h ((m : Int) + 1)).2 hh.1; rw [hf] at this; cases this)]) (fun m j B'' W' hB'' hbk'' hm hsel hrel hW' => ?_) B' hB' hbk' 0 rfl W hW1).mono fun e w' hh => ?_
   rotate_left
   · obtain ⟨he, ⟨j, B'', ⟨hB'', hbk'', hj⟩, hw'⟩ | ⟨k, _⟩⟩ := hh
     · rw [best_tos] at hj
       subst hj
       exact ⟨he, .inl ⟨⟨B'', hB'', hbk''⟩, hw'.le (SF.le_trans (SF.sep_rot _ _ _) (SF.sep_mono (SF.le_refl _) (SF.le_trans (SF.sep_rot _ _ _) (SF.sep_mono (SF.le_refl _) (SF.sep_rot _ _ _)))))⟩⟩
     · exact k.elim
   have hs13 := (lost_eq h ((m : Int) + 1)).1 hsel
   obtain ⟨x9, hx9, hl9⟩ := tx_there hB'' hR (t := (m : Int) + 1) (by omega)
   have eB : B''.ptr = B.ptr := by unfold Bk.ptr; rw [hbk'']
   subst hcA hcB
   refine round_at 6 (hW'.le (SF.sep_rot _ _ _)) hE hn rfl (fun i0 iR hd => ?_) (fun i0 iR hd => ?_)
   · refine R.WC.region ?_
     refine R.pA rfl rfl ?_
     refine R.WL.nil ?_
     exact fun a w s => ⟨rfl, s⟩
   refine R.WC.block ?_
   refine R.WC.seq ?_
   refine R.WC.le (SF.sep_rot _ _ _) ?_
   refine R.WC.sub (Hsub.front _ _ ([(b5, [.int .i64 j], 3), (b3, [.bool false], 4), (b2, R.zero.cl, 34), (b1, [.pointer (some ⟨dk, 0, none⟩)], 151), x.dk B dk A c]) _) ?_
   refine R.WC.draw [(0, .q true), (1, .q false), (2, .q false), (3, .q false), (4, .q true), (5, .q false), (6, .q false), (7, .q true), (8, .q false), (9, .q true), (10, .q false), (11, .q false), (12, .q true), (13, .q false), (14, .q true), (15, .q false), (16, .q false), (17, .q true), (18, .q true), (19, .q true), (20, .q false), (21, .q false), (22, .q true), (23, .q false), (24, .q false)] mixed (by kernel_rfl) ?_
   refine R.dV (Y.load fl_3 rfl m0 rfl) rfl rfl ?_
   refine R.dP (Y.eql rfl rfl) rfl rfl ?_
   refine R.dP (Y.move rfl) rfl rfl ?_
   refine R.WDm.split (t := 37) rfl (fun r h37 => ?_)
   cases r
   obtain ⟨y9, hy9, hyl9⟩ := tx_there hB'' hR (t := j) (by have h37 := h37; have := best_hangs h m; rw [← hrel] at this; simp at h37; omega)
   refine R.dPg rfl (Y.fieldAddr fa_151_0 rfl) rfl rfl rfl ?_
   refine R.dVg rfl (Y.load (v := .pointer (some ⟨dk, 0, none⟩)) fl_119 rfl m3 rfl) rfl rfl rfl ?_
   refine R.dPg rfl (Y.nilCheck rfl) rfl rfl rfl ?_
   refine R.dPg rfl (Y.fieldAddr fa_123_0 rfl) rfl rfl rfl ?_
   refine R.dVg rfl (Y.load (cs := B.ptr :: x.cl A c) (v := B.ptr) fl_105 rfl (by repeat (first | exact List.Mem.head _ | apply List.Mem.tail)) rfl) rfl rfl rfl ?_
   refine R.dPg rfl (Y.move rfl) rfl rfl rfl ?_
   refine R.WDm.quiet (QS.guardT rfl rfl rfl (QS.call Try.call124 rfl (fun _ w s => (by rw [← eB]; exact w_ofOld u B'' _ ((SF.bk u.heap.size B'').sep _) ((m : Int) + 1) x9 hx9 w (List.mem_append_right _ (List.mem_append_right _ (List.mem_append_left _ (List.Mem.head _)))) (fun w h => h.1.1.1) s.wp)))) rfl rfl rfl ?_
   refine R.dPg rfl (Y.nilCheck rfl) rfl rfl rfl ?_
   refine R.dPg rfl (Y.fieldAddr fa_117_1 rfl) rfl rfl rfl ?_
   refine R.dVg rfl (Y.load (cs := x9.cells) (v := .int .i64 x9.last) fl_3 rfl (List.mem_append_right _ (List.mem_append_right _ (List.mem_append_left _ ((List.Mem.tail _ (blkc_mem hx9)))))) rfl) rfl rfl rfl ?_
   refine R.dPg rfl (Y.fieldAddr fa_151_0 rfl) rfl rfl rfl ?_
   refine R.dVg rfl (Y.load (v := .pointer (some ⟨dk, 0, none⟩)) fl_119 rfl m3 rfl) rfl rfl rfl ?_
   refine R.dPg rfl (Y.nilCheck rfl) rfl rfl rfl ?_
   refine R.dPg rfl (Y.fieldAddr fa_123_0 rfl) rfl rfl rfl ?_
   refine R.dVg rfl (Y.load (cs := B.ptr :: x.cl A c) (v := B.ptr) fl_105 rfl (by repeat (first | exact List.Mem.head _ | apply List.Mem.tail)) rfl) rfl rfl rfl ?_
   refine R.dVg rfl (Y.load fl_3 rfl m0 rfl) rfl rfl rfl ?_
   refine R.WDm.quiet (QS.guardT rfl rfl rfl (QS.call Try.call124 rfl (fun _ w s => (by rw [← eB]; exact w_ofOld u B'' _ ((SF.bk u.heap.size B'').sep _) j y9 hy9 w (List.mem_append_right _ (List.mem_append_right _ (List.mem_append_left _ (List.Mem.head _)))) (fun w h => h.1.1.1) s.wp)))) rfl rfl rfl ?_
   refine R.dPg rfl (Y.nilCheck rfl) rfl rfl rfl ?_
   refine R.dPg rfl (Y.fieldAddr fa_117_1 rfl) rfl rfl rfl ?_
   refine R.dVg rfl (Y.load (cs := y9.cells) (v := .int .i64 y9.last) fl_3 rfl (List.mem_append_right _ (List.mem_append_right _ (List.mem_append_left _ ((List.Mem.tail _ (blkc_mem hy9)))))) rfl) rfl rfl rfl ?_
   refine R.dPg rfl (Y.gtr rfl rfl) rfl rfl rfl ?_
   refine R.dP (Y.pickF rfl rfl) rfl rfl ?_
   refine R.WDm.nil (WQ.and ?_)
   refine R.WQ.next ?_
   refine R.WC.cond rfl (fun h59 => ?_) (fun h59 => ?_)
   refine R.WC.region ?_
   refine R.pM rfl rfl ?_
   refine R.WL.eff (E.store Try.sizeOf3 rfl rfl rfl rfl rfl u0 rfl rfl) rfl (fun _ => ?_)
   refine R.WL.nil ?_
   refine WQ.blockEnd ?_
   refine WQ.le (SF.sep_rot _ _ _) ?_
   refine WQ.again fun W2 hW2 => .inl ⟨rfl, ⟨(((m : Int) + 1), B''), hB'', hbk'', ?_⟩, ?_⟩
   · rw [tos, bestGo_app, ← hrel]
     first
       | (rw [if_pos ⟨hs13, by first | (left; have h37 := h37; simpa using h37) | (right; have h59 := h59; rw [hl9, hyl9] at h59; simpa using h59)⟩])
       | (rw [if_neg (fun hh => by have h37 := h37; have h59 := h59; rw [hl9, hyl9] at h59; simp at h37 h59; omega)])
   · exact (hW2.le (SF.sep_rot _ _ _)).sub (Hsub.back _ _ ([(b5, [.int .i64 ((m : Int) + 1)], 3), (b3, [.bool false], 4), (b2, R.zero.cl, 34), (b1, [.pointer (some ⟨dk, 0, none⟩)], 151), x.dk B dk A c]) _)
   refine R.WC.skip' ?_
   refine WQ.blockEnd ?_
   refine WQ.le (SF.sep_rot _ _ _) ?_
   refine WQ.again fun W2 hW2 => .inl ⟨rfl, ⟨(j, B''), hB'', hbk'', ?_⟩, ?_⟩
   · rw [tos, bestGo_app, ← hrel]
     first
       | (rw [if_pos ⟨hs13, by first | (left; have h37 := h37; simpa using h37) | (right; have h59 := h59; rw [hl9, hyl9] at h59; simpa using h59)⟩])
       | (rw [if_neg (fun hh => by have h37 := h37; have h59 := h59; rw [hl9, hyl9] at h59; simp at h37 h59; omega)])
   · exact (hW2.le (SF.sep_rot _ _ _)).sub (Hsub.back _ _ ([(b5, [.int .i64 j], 3), (b3, [.bool false], 4), (b2, R.zero.cl, 34), (b1, [.pointer (some ⟨dk, 0, none⟩)], 151), x.dk B dk A c]) _)
   refine R.dF rfl rfl ?_
   refine R.dF rfl rfl ?_
   refine R.dF rfl rfl ?_
   refine R.dF rfl rfl ?_
   refine R.dF rfl rfl ?_
   refine R.dF rfl rfl ?_
   refine R.dF rfl rfl ?_
   refine R.dF rfl rfl ?_
   refine R.dF rfl rfl ?_
   refine R.dF rfl rfl ?_
   refine R.dF rfl rfl ?_
   refine R.dF rfl rfl ?_
   refine R.dF rfl rfl ?_
   refine R.dF rfl rfl ?_
   refine R.dF rfl rfl ?_
   refine R.dF rfl rfl ?_
   refine R.dF rfl rfl ?_
   refine R.dF rfl rfl ?_
   refine R.dF rfl rfl ?_
   refine R.dF rfl rfl ?_
   refine R.dF rfl rfl ?_
   refine R.dP (Y.pickT rfl rfl) rfl rfl ?_
   refine R.WDm.nil (WQ.and ?_)
   refine R.WQ.next ?_
   refine R.WC.condT rfl ?_
   refine R.WC.region ?_
   refine R.pM rfl rfl ?_
   refine R.WL.eff (E.store Try.sizeOf3 rfl rfl rfl rfl rfl u0 rfl rfl) rfl (fun _ => ?_)
   refine R.WL.nil ?_
   refine WQ.blockEnd ?_
   refine WQ.le (SF.sep_rot _ _ _) ?_
   refine WQ.again fun W2 hW2 => .inl ⟨rfl, ⟨(((m : Int) + 1), B''), hB'', hbk'', ?_⟩, ?_⟩
   · rw [tos, bestGo_app, ← hrel]
     first
       | (rw [if_pos ⟨hs13, by first | (left; have h37 := h37; simpa using h37) | (right; have h59 := h59; rw [hl9, hyl9] at h59; simpa using h59)⟩])
       | (rw [if_neg (fun hh => by have h37 := h37; have h59 := h59; rw [hl9, hyl9] at h59; simp at h37 h59; omega)])
   · exact (hW2.le (SF.sep_rot _ _ _)).sub (Hsub.back _ _ ([(b5, [.int .i64 ((m : Int) + 1)], 3), (b3, [.bool false], 4), (b2, R.zero.cl, 34), (b1, [.pointer (some ⟨dk, 0, none⟩)], 151), x.dk B dk A c]) _)
 rintro D2 i3' hd3 ⟨B'', hB'', hbk''⟩
 dsimp only at hB'' hbk'' ⊢
 refine WQ.blockEnd ?_
 refine WQ.next ?_
 refine WC.seq ?_
 refine WC.seq ?_
 refine WC.sub (Hsub.drop3 _ _ ([(b5, [.int .i64 (bestH h)], 3), (b3, [.bool false], 4), (b2, R.zero.cl, 34), (b1, [.pointer (some ⟨dk, 0, none⟩)], 151), x.dk B dk A c]) _) ?_
 refine WC.region ?_
 refine pV (Y.load fl_3 rfl m0 rfl) rfl ?_
 refine pP (Y.eql rfl rfl) rfl ?_
 refine nN ?_
 refine WC.cond rfl (fun h62 => ?_) (fun h62 => ?_)
 refine sR ?_
 refine pP (Y.build rfl (bf_34 )) rfl ?_
 refine WL.eff (E.store Try.sizeOf34 rfl rfl rfl rfl rfl u2 rfl rfl) rfl (fun _ => ?_)
 refine WL.eff (E.store Try.sizeOf4 rfl rfl rfl rfl rfl u1 rfl rfl) rfl (fun _ => ?_)
 refine nN ?_
 refine WC.ret ?_
 refine WQ.thenRet ?_
 have hnf : nine.find? (fun t => stt h t == 2) = none := find_none (f := (fun t => [(2 : Int)].contains (stt h t : Int))) (two_eq h) (n := 9) hqn
 have hnx : nextR h = (R.zero, false) := by
   unfold nextR nextH
   rw [hnf, if_pos (by have h62 := h62; simpa using h62)]
 refine doneM2 (.inl rfl) (by rw [hd3, hd2]; rfl) (rs := [.cell 2 34, .cell 3 4]) (vs := [R.zero.val, .bool false]) Try.results161 (RVs.cons (RV.cell wd_34 rfl (by repeat (first | exact List.Mem.head _ | apply List.Mem.tail)) rfl) (RVs.cons (RV.flat fl_4 rfl (by repeat (first | exact List.Mem.head _ | apply List.Mem.tail)) rfl) RVs.nil)) (fun w2 s => ⟨⟨B'', hB'', hbk''⟩, ?_, ?_⟩)
 · rw [hnx]
 · exact s.sub (Hsub.of_sub (List.Sublist.cons _ (List.Sublist.cons _ (List.Sublist.cons _ (List.Sublist.cons _ (List.Sublist.refl _))))))
 refine WC.skip' ?_
 refine WQ.next ?_
 refine WC.seq ?_
 have eB2 : B''.ptr = B.ptr := by unfold Bk.ptr; rw [hbk'']
 refine WC.le (SF.le_trans (SF.sep_mono (SF.le_refl _) (SF.sep_rot _ _ _)) (SF.sep_rot _ _ _)) ?_
 refine WC.draw [(0, .q false), (1, .q true), (2, .q false), (3, .q false), (4, .q true), (5, .q true), (6, .s true), (7, .s true), (8, .s true)] mixed (by kernel_rfl) ?_
 refine dP (Y.fieldAddr fa_151_0 rfl) rfl rfl ?_
 refine dV (Y.load (v := .pointer (some ⟨dk, 0, none⟩)) fl_119 rfl m3 rfl) rfl rfl ?_
 refine dP (Y.nilCheck rfl) rfl rfl ?_
 refine dP (Y.fieldAddr fa_123_0 rfl) rfl rfl ?_
 refine dV (Y.load (cs := B.ptr :: x.cl A c) (v := B.ptr) fl_105 rfl (by repeat (first | exact List.Mem.head _ | apply List.Mem.tail)) rfl) rfl rfl ?_
 refine dV (Y.load fl_3 rfl m0 rfl) rfl rfl ?_
 refine WDm.spec (WS.free rfl (E.undoU [_, _, _, _, _] h (bestH h) rfl hB'' h60 rfl rfl (by rw [eB2]; rfl) rfl)) (fun _ => sub_push rfl) (fun i => ?_)
 obtain ⟨B3, hB3, hbk3, _⟩ := i
 have hbk3 : B3.bk = B.bk := hbk3.trans hbk''
 dsimp only
 refine WDm.spec (WS.free rfl (E.store Try.sizeOf34 rfl rfl rfl rfl rfl u2 rfl rfl)) (fun _ => sub_refl _) (fun _ => ?_)
 refine WDm.spec (WS.free rfl (E.store Try.sizeOf4 rfl rfl rfl rfl rfl u1 rfl rfl)) (fun _ => sub_refl _) (fun _ => ?_)
 refine WDm.nil (WQ.and ?_)
 refine WQ.next ?_
 refine WC.ret ?_
 have hnf : nine.find? (fun t => stt h t == 2) = none := find_none (f := (fun t => [(2 : Int)].contains (stt h t : Int))) (two_eq h) (n := 9) hqn
 have hnx : nextR h = (undoB h (bestH h), true) := by
   unfold nextR nextH
   rw [hnf, if_neg (by have h62 := h62; simpa using h62)]
 refine WQ.le (SF.le_trans (SF.sep_rot _ _ _) (SF.sep_mono (SF.le_refl _) (SF.sep_rot _ _ _))) ?_
 refine doneM2 (.inl rfl) (by rw [hd3, hd2]; rfl) (rs := [.cell 2 34, .cell 3 4]) (vs := [(undoB h (bestH h)).val, .bool true]) Try.results161 (RVs.cons (RV.cell wd_34 rfl (by repeat (first | exact List.Mem.head _ | apply List.Mem.tail)) rfl) (RVs.cons (RV.flat fl_4 rfl (by repeat (first | exact List.Mem.head _ | apply List.Mem.tail)) rfl) RVs.nil)) (fun w2 s => ⟨⟨B3, hB3, hbk3⟩, ?_, ?_⟩)
 · rw [hnx]
 · exact s.sub (Hsub.of_sub (List.Sublist.cons _ (List.Sublist.cons _ (List.Sublist.cons _ (List.Sublist.cons _ (List.Sublist.refl _))))))
end Go.Proofs.Ytdbcimadjmdffaa
