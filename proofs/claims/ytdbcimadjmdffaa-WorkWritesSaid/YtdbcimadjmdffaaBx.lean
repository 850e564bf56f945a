/- Work: what Commit returns. No condition. -/
import Derived.Test.YtdbcimadjmdffaaBw
set_option maxRecDepth 100000
set_option linter.unusedVariables false
set_option linter.unusedSimpArgs false
set_option linter.unusedSectionVars false
set_option maxHeartbeats 4000000
namespace Go.Proofs.Ytdbcimadjmdffaa
open Go.RowKit Go.Joins
theorem commit_last {h : List R} {t : Int} : lastN (cmR t (lastN h t) :: h) t = h.length + 1 := by simp [lastN, cmR]

theorem w_workCommit (x : Wd) (A : Option Addr) (b o c : Nat) (t : Int) (w : World) (hm : x.log.length ≤ maxLen) (hcap : x.log.length ≤ c) (hr : RL w A b o x.log) : RetW Try.prog 62 [x.val A c, .int .i64 t] w (commitOf x t).1 [.int .i64 (commitOf x t).2] := by
 refine enter Try.func62 rfl Try.ntmps62 rfl SF.top trivial ?_
 refine sR ?_
 refine WL.eff (E.box rfl rfl rfl) rfl (fun b1 => ?_)
 refine WL.eff (E.alloc Try.zeroValue54 rfl rfl) rfl (fun b2 => ?_)
 refine pA rfl rfl ?_
 refine nN ?_
 refine sR ?_
 refine pV (Y.loadAN wd_54 rfl m1 (r := x.cl A c) rfl) rfl ?_
 refine WL.eff (E.wkopen [_, _] x A b o c rfl hcap (fun w hw => hr.below hw.2.2.2) rfl rfl rfl) rfl (fun i => ?_)
 obtain ⟨⟨B, dk⟩, hB⟩ := i
 dsimp only at hB ⊢
 refine pM rfl rfl ?_
 refine pP (Y.extract rfl rfl) rfl ?_
 refine pP (Y.extract rfl rfl) rfl ?_
 refine pA rfl rfl ?_
 refine pA rfl rfl ?_
 refine nN ?_
 refine WC.seq ?_
 refine sR ?_
 refine pM rfl rfl ?_
 refine pP (Y.neq rfl rfl) rfl ?_
 refine nN ?_
 refine WC.cond rfl (fun h15 => ?_) (fun h15 => ?_)
 refine sR ?_
 refine pP (Y.build rfl (bf_54 )) rfl ?_
 refine pM rfl rfl ?_
 refine WL.eff (E.store Try.sizeOf54 rfl rfl rfl rfl rfl u0 rfl rfl) rfl (fun _ => ?_)
 refine pA rfl rfl ?_
 refine nN ?_
 refine WC.ret ?_
 refine WQ.thenRet ?_
 refine WQ.done Try.results62 (RVs.cons (RV.cell wd_54 rfl m0 rfl) (RVs.cons (RV.tmp rfl) RVs.nil)) (fun a w s => ?_)
 · have e : commitOf x t = (Wd.zero, worldErr x) := by
     unfold commitOf; rw [if_neg (by simpa using h15)]
   rw [e]
   exact ⟨(none, 0), rfl, s.low, own_nil _ _ _ _⟩
 refine WC.skip' ?_
 refine WQ.next ?_
 refine WC.seq ?_
 refine WC.seq ?_
 have h0 : worldErr x = 0 := by simpa using h15
 obtain ⟨hl0, h60, hR, hsf, _⟩ := world_right h0
 have hB0 := hB h0
 have hlen : x.h.length = x.log.length := by simp [Wd.h]
 refine WC.region ?_
 refine pM rfl rfl ?_
 refine WL.eff (E.call Try.call128 rfl (fun _ w s => w_txn t w) rfl) rfl (fun _ => ?_)
 refine pP (Y.not rfl) rfl ?_
 refine nN ?_
 refine WC.cond rfl (fun h20 => ?_) (fun h20 => ?_)
 refine sR ?_
 refine pP (Y.build rfl (bf_54 )) rfl ?_
 refine WL.eff (E.store Try.sizeOf54 rfl rfl rfl rfl rfl u0 rfl rfl) rfl (fun _ => ?_)
 refine pA rfl rfl ?_
 refine nN ?_
 refine WC.ret ?_
 refine WQ.thenRet ?_
 refine WQ.done Try.results62 (RVs.cons (RV.cell wd_54 rfl m0 rfl) (RVs.cons (RV.tmp rfl) RVs.nil)) (fun a w s => ?_)
 · have e : commitOf x t = (Wd.zero, 3) := by
     unfold commitOf; rw [if_pos h0, if_neg (by simpa using h20)]
   rw [e]
   exact ⟨(none, 0), rfl, s.low, own_nil _ _ _ _⟩
 refine WC.skip' ?_
 refine WQ.next ?_
 refine WC.seq ?_
 have hok : wi t 1 9 = true := by simpa using h20
 have ht := wi_iff.1 hok
 refine WC.region ?_
 refine pM rfl rfl ?_
 refine pP (Y.nilCheck rfl) rfl ?_
 refine pP (Y.fieldAddr fa_123_0 rfl) rfl ?_
 refine pV (Y.load fl_105 rfl m2 rfl) rfl ?_
 refine pM rfl rfl ?_
 refine WL.eff (E.of [_, _, _] rfl rfl rfl rfl rfl) rfl (fun i => ?_)
 obtain ⟨⟨B1, y, K⟩, hOf, hK⟩ := i
 obtain ⟨hB1, hst, hla, hup⟩ := hB0.of hOf
 obtain ⟨el, eA, ec, epg, ebk, _⟩ := of_l hOf
 dsimp only at hOf hK hB1 hst hla hup el eA ec epg ebk ⊢
 have e0 : B.ptr = B1.ptr := by unfold Bk.ptr; rw [ebk]
 rw [show x.dk B dk A c = x.dk B1 dk A c by unfold Wd.dk; rw [e0], e0]
 have hl1 := hOf.1
 dsimp only at hl1
 have est : y.st = (stt x.h t : Int) := hst.trans (hR.st t)
 have hBl : B1.l.length = x.log.length := by rw [hB1.l]; simp [Wd.h]
 refine pA rfl rfl ?_
 refine nN ?_
 refine WC.seq ?_
 refine WC.block ?_
 refine sR ?_
 refine pM rfl rfl ?_
 refine pP (Y.nilCheck rfl) rfl ?_
 refine pP (Y.fieldAddr fa_117_0 rfl) rfl ?_
 refine pV (Y.load fl_3 rfl m3 rfl) rfl ?_
 refine pP (Y.eql rfl rfl) rfl ?_
 refine pA rfl rfl ?_
 refine nN ?_
 refine WC.cond rfl (fun h28 => ?_) (fun h28 => ?_)
 refine sR ?_
 refine pP (Y.build rfl (bf_54 )) rfl ?_
 refine WL.eff (E.store Try.sizeOf54 rfl rfl rfl rfl rfl u0 rfl rfl) rfl (fun _ => ?_)
 refine pA rfl rfl ?_
 refine nN ?_
 refine WC.ret ?_
 refine WQ.blockRet ?_
 refine WQ.thenRet ?_
 refine WQ.done Try.results62 (RVs.cons (RV.cell wd_54 rfl m0 rfl) (RVs.cons (RV.tmp rfl) RVs.nil)) (fun a w s => ?_)
 · have e : commitOf x t = (Wd.zero, 7) := by
     unfold commitOf; rw [if_pos h0, if_pos hok, if_pos (by simp [est] at h28; omega)]
   rw [e]
   exact ⟨(none, 0), rfl, s.low, own_nil _ _ _ _⟩
 refine WC.seq ?_
 have hs0 : stt x.h t ≠ 0 := by simp [est] at h28; omega
 refine WC.region ?_
 refine pM rfl rfl ?_
 refine pP (Y.nilCheck rfl) rfl ?_
 refine pP (Y.fieldAddr fa_117_0 rfl) rfl ?_
 refine pV (Y.load fl_3 rfl m3 rfl) rfl ?_
 refine pP (Y.gtr rfl rfl) rfl ?_
 refine pA rfl rfl ?_
 refine nN ?_
 refine WC.cond rfl (fun h35 => ?_) (fun h35 => ?_)
 refine WC.seq ?_
 have hs1 : 1 < stt x.h t := by simp [est] at h35; omega
 refine WC.region ?_
 refine pP (Y.build rfl (bf_54 )) rfl ?_
 refine WL.eff (E.store Try.sizeOf54 rfl rfl rfl rfl rfl u0 rfl rfl) rfl (fun _ => ?_)
 refine pA rfl rfl ?_
 refine nN ?_
 refine WC.ret ?_
 refine WQ.blockRet ?_
 refine WQ.thenRet ?_
 refine WQ.done Try.results62 (RVs.cons (RV.cell wd_54 rfl m0 rfl) (RVs.cons (RV.tmp rfl) RVs.nil)) (fun a w s => ?_)
 · have e : commitOf x t = (Wd.zero, 6) := by
     unfold commitOf; rw [if_pos h0, if_pos hok, if_neg (by omega), if_pos (by omega)]
   rw [e]
   exact ⟨(none, 0), rfl, s.low, own_nil _ _ _ _⟩
 refine WC.seq ?_
 have hs1 : stt x.h t ≤ 1 := by simp [est] at h35; omega
 refine WC.region ?_
 refine pM rfl rfl ?_
 refine WL.eff (E.call Try.call129 rfl (fun _ w s => w_full B1 dk 2 _ _ w (s.hp.blk (x.dk B1 dk A c) (by repeat (first | exact List.Mem.head _ | apply List.Mem.tail))).1 (s.hp.blk B1.own1 (by repeat (first | exact List.Mem.head _ | apply List.Mem.tail))).1 (by omega) (by omega)) rfl) rfl (fun _ => ?_)
 refine pA rfl rfl ?_
 refine nN ?_
 refine WC.cond rfl (fun h42 => ?_) (fun h42 => ?_)
 refine sR ?_
 refine pP (Y.build rfl (bf_54 )) rfl ?_
 refine WL.eff (E.store Try.sizeOf54 rfl rfl rfl rfl rfl u0 rfl rfl) rfl (fun _ => ?_)
 refine pA rfl rfl ?_
 refine nN ?_
 refine WC.ret ?_
 refine WQ.blockRet ?_
 refine WQ.thenRet ?_
 refine WQ.done Try.results62 (RVs.cons (RV.cell wd_54 rfl m0 rfl) (RVs.cons (RV.tmp rfl) RVs.nil)) (fun a w s => ?_)
 · have e : commitOf x t = (Wd.zero, 2) := by
     unfold commitOf; rw [if_pos h0, if_pos hok, if_neg (by omega), if_neg (by omega), if_pos (by simp [hBl] at h42; omega)]
   rw [e]
   exact ⟨(none, 0), rfl, s.low, own_nil _ _ _ _⟩
 refine WC.skip' ?_
 refine WQ.blockEnd ?_
 refine WQ.next ?_
 refine WC.seq ?_
 have hlt : x.log.length ≤ 58 := by simp [hBl] at h42; omega
 have hRc : Right (cmR t y.last :: x.h) := by rw [hla]; exact right_commit hR (by omega) ht hs1
 refine WC.draw [(0, .q false), (1, .q false), (2, .q false), (3, .q true), (4, .q false), (5, .q false), (6, .q false), (7, .q false), (8, .q true), (9, .q false), (10, .s true)] mixed (by kernel_rfl) ?_
 refine dP (Y.move rfl) rfl rfl ?_
 refine dP (Y.nilCheck rfl) rfl rfl ?_
 refine dP (Y.fieldAddr fa_123_0 rfl) rfl rfl ?_
 refine dV (Y.load fl_105 rfl m2 rfl) rfl rfl ?_
 refine dP (Y.move rfl) rfl rfl ?_
 refine dP (Y.move rfl) rfl rfl ?_
 refine dP (Y.nilCheck rfl) rfl rfl ?_
 refine dP (Y.fieldAddr fa_117_1 rfl) rfl rfl ?_
 refine dV (Y.load fl_3 rfl m3 rfl) rfl rfl ?_
 refine dP (Y.build rfl (bf_34_0_1_2 _ _ _)) rfl rfl ?_
 refine WDm.spec (WS.free rfl (E.putF [_, _, _] x.h (cmR t y.last) rfl hB1 hRc hK hl1 rfl rfl rfl rfl)) (fun _ => sub_push rfl) (fun i => ?_)
 obtain ⟨B2, hB2, ebB2, hkB2⟩ := i
 dsimp only
 have epB2 : B1.ptr = B2.ptr := by unfold Bk.ptr; rw [ebB2]
 rw [show x.dk B1 dk A c = x.dk B2 dk A c by unfold Wd.dk; rw [epB2]]
 have hBl2 : B2.l.length = x.log.length + 1 := by rw [hB2.l]; simp [Wd.h]
 refine WDm.nil (WQ.and ?_)
 refine WQ.next ?_
 refine sR ?_
 refine pM rfl rfl ?_
 refine pM rfl rfl ?_
 refine pP (Y.nilCheck rfl) rfl ?_
 refine pP (Y.fieldAddr fa_123_0 rfl) rfl ?_
 refine pV (Y.load fl_105 rfl m2 rfl) rfl ?_
 refine pP (Y.nilCheck rfl) rfl ?_
 refine pP (Y.fieldAddr fa_112_0 rfl) rfl ?_
 refine pV (Y.load (v := .slice B2.A B2.l.length B2.c) fl_39 rfl m3 rfl) rfl ?_
 refine pP (Y.len Try.underlying39 rfl) rfl ?_
 refine pP (Y.nilCheck rfl) rfl ?_
 refine pP (Y.fieldAddr fa_123_1 rfl) rfl ?_
 refine pP (Y.fieldAddr fa_54_2 rfl) rfl ?_
 refine WL.eff (E.store Try.sizeOf3 rfl rfl rfl rfl rfl u2 rfl rfl) rfl (fun _ => ?_)
 refine nN ?_
 refine WC.seq ?_
 obtain ⟨y2, hl2, eb⟩ := hkB2 t y hl1
 obtain ⟨K2, hK2⟩ := foc_of hl2
 have ey : y.ptr = y2.ptr := by unfold TxE.ptr; rw [eb]
 obtain ⟨hst2, hla2, hup2⟩ := hB2.tx t y2 hl2
 have hc2 := commit_last (h := x.h) (t := t)
 rw [← hla] at hc2
 have hla3 : y2.last = (x.log.length : Int) + 1 := by rw [hla2, hc2, hlen]; rfl
 have hR2 : Right (enR t y2.last :: cmR t y.last :: x.h) := by
   rw [hla2]
   refine right_end hRc (by simp; omega) ht (.inl ?_)
   have := stt_cons hRc
   simp [cmR] at this
   simp [cmR]
   omega
 rw [ey]
 refine WC.sub (foc_inn hK2 [_, _, _] []) ?_
 refine WC.draw [(0, .q false), (1, .q false), (2, .q false), (3, .q true), (4, .q false), (5, .q false), (6, .q false), (7, .q false), (8, .q true), (9, .q false), (10, .s true)] mixed (by kernel_rfl) ?_
 refine dP (Y.move rfl) rfl rfl ?_
 refine dP (Y.nilCheck rfl) rfl rfl ?_
 refine dP (Y.fieldAddr fa_123_0 rfl) rfl rfl ?_
 refine dV (Y.load fl_105 rfl m2 rfl) rfl rfl ?_
 refine dP (Y.move rfl) rfl rfl ?_
 refine dP (Y.move rfl) rfl rfl ?_
 refine dP (Y.nilCheck rfl) rfl rfl ?_
 refine dP (Y.fieldAddr fa_117_1 rfl) rfl rfl ?_
 refine dV (Y.load fl_3 rfl m3 rfl) rfl rfl ?_
 refine dP (Y.build rfl (bf_34_0_1_2 _ _ _)) rfl rfl ?_
 refine WDm.spec (WS.free rfl (E.putF [_, _, _] (cmR t y.last :: x.h) (enR t y2.last) rfl hB2 hR2 hK2 hl2 rfl rfl rfl rfl)) (fun _ => sub_push rfl) (fun i => ?_)
 obtain ⟨B3, hB3, ebB3, hkB3⟩ := i
 dsimp only
 have epB3 : B2.ptr = B3.ptr := by unfold Bk.ptr; rw [ebB3]
 rw [hla, hla3] at hB3
 refine WDm.nil (WQ.and ?_)
 refine WQ.next ?_
 refine WC.seq ?_
 rw [show (put (B2.ptr :: x.cl A c) (0 + 1 + 13) [.int .i64 (B2.l.length : Int)]) = B3.ptr :: (⟨x.disk, x.log, (x.log.length : Int) + 1⟩ : Wd).cl A c by rw [epB3, hBl2]; rfl]
 refine WC.region ?_
 refine pM rfl rfl ?_
 refine WL.eff (E.done (Hl := [_]) B3 ⟨x.disk, x.log, (x.log.length : Int) + 1⟩ A c dk rfl Hsub.three rfl rfl) rfl (fun _ => ?_)
 refine WL.eff (E.store Try.sizeOf54 rfl rfl rfl rfl rfl u2 rfl rfl) rfl (fun _ => ?_)
 refine pA rfl rfl ?_
 refine nN ?_
 refine WC.ret ?_
 refine WQ.done Try.results62 (RVs.cons (RV.cell wd_54 rfl m2 rfl) (RVs.cons (RV.tmp rfl) RVs.nil)) (fun a w s => ?_)
 · have e : commitOf x t = ((⟨x.disk, x.log ++ [cmR t (lastN x.h t), enR t ((x.log.length : Int) + 1)], (x.log.length : Int) + 1⟩ : Wd), 0) := by
     unfold commitOf
     rw [if_pos h0, if_pos hok, if_neg (by omega), if_neg (by omega), if_neg (by omega)]
   rw [e]
   have el3 : B3.l = (⟨x.disk, x.log ++ [cmR t (lastN x.h t), enR t ((x.log.length : Int) + 1)], (x.log.length : Int) + 1⟩ : Wd).log := by rw [hB3.l]; simp [Wd.h]
   refine ⟨(B3.A, B3.c), ?_, s.low, by rw [← el3]; exact s.fact.1.2.1.2.1.1⟩
   rw [← show (⟨x.disk, B3.l, (x.log.length : Int) + 1⟩ : Wd) = (⟨x.disk, x.log ++ [cmR t (lastN x.h t), enR t ((x.log.length : Int) + 1)], (x.log.length : Int) + 1⟩ : Wd) by rw [el3]]
   rfl
end Go.Proofs.Ytdbcimadjmdffaa
