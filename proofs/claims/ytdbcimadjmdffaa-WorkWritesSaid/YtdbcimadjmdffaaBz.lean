/- Worlds: what the document says of Write, Commit, Abort, Sync, Page, Crash. No condition. -/
import Derived.Test.YtdbcimadjmdffaaBy
set_option maxRecDepth 100000
set_option linter.unusedVariables false
set_option linter.unusedSimpArgs false
set_option linter.unusedSectionVars false
set_option maxHeartbeats 4000000
namespace Go.Proofs.Ytdbcimadjmdffaa
open Go.RowKit Go.Joins
theorem w_writeTo (x : Wd) (A : Option Addr) (b o c : Nat) (t p q v : Int) (w : World) (hm : x.log.length ≤ maxLen) (hcap : x.log.length ≤ c) (hr : RL w A b o x.log) : RetW Try.prog 91 [x.val A c, .int .i64 t, .int .i64 p, .int .i64 q, .int .i64 v] w (writeTo x t p q v).1 [.int .i64 (writeTo x t p q v).2] := by
 refine enter Try.func91 rfl Try.ntmps91 rfl SF.top trivial ?_
 refine sR ?_
 refine WL.eff (E.box rfl rfl rfl) rfl (fun b1 => ?_)
 refine WL.eff (E.alloc Try.zeroValue54 rfl rfl) rfl (fun b2 => ?_)
 refine pA rfl rfl ?_
 refine nN ?_
 refine WC.seq ?_
 refine sR ?_
 refine pV (Y.loadAN wd_54 rfl m1 (r := x.cl A c) rfl) rfl ?_
 refine WL.eff (E.call Try.call63 rfl (fun _ w s => w_worldError x A b o c w hm hcap (hr.below s.low)) rfl) rfl (fun _ => ?_)
 refine pA rfl rfl ?_
 refine nN ?_
 refine sR ?_
 refine pM rfl rfl ?_
 refine pP (Y.neq rfl rfl) rfl ?_
 refine nN ?_
 refine WC.cond rfl (fun h17 => ?_) (fun h17 => ?_)
 refine sR ?_
 refine pP (Y.build rfl (bf_54 )) rfl ?_
 refine pM rfl rfl ?_
 refine WL.eff (E.store Try.sizeOf54 rfl rfl rfl rfl rfl u0 rfl rfl) rfl (fun _ => ?_)
 refine pA rfl rfl ?_
 refine nN ?_
 refine WC.ret ?_
 refine WQ.thenRet ?_
 refine WQ.done Try.results91 (RVs.cons (RV.cell wd_54 rfl m0 rfl) (RVs.cons (RV.tmp rfl) RVs.nil)) (fun a w s => ?_)
 · have e : writeTo x t p q v = (Wd.zero, worldErr x) := by
     unfold writeTo; rw [if_neg (by simpa using h17)]
   rw [e]
   exact ⟨(none, 0), rfl, s.low, own_nil _ _ _ _⟩
 refine WC.skip' ?_
 refine WQ.next ?_
 refine WC.seq ?_
 refine WC.block ?_
 have h0 : worldErr x = 0 := by simpa using h17
 obtain ⟨hl0, h60, hR, hsf, _⟩ := world_right h0
 have hlen : x.h.length = x.log.length := by simp [Wd.h]
 refine WC.cut1 [(20, .bool (!(wi t 1 9 && (wi p 0 2 && (wi q 0 2 && wi v 0 99))))), (0, x.val A c), (1, .int .i64 t), (2, .int .i64 p), (3, .int .i64 q), (4, .int .i64 v), (5, .pointer (some ⟨b1, 0, none⟩)), (10, .pointer (some ⟨b2, 0, none⟩))] [(b2, Wd.zero.cl none 0, 54), (b1, x.cl A c, 54)] SF.top ?_ ?_
 refine WC.region ?_
 refine pM rfl rfl ?_
 refine WL.eff (E.call Try.call110 rfl (fun _ w s => w_rwithin _ _ _ w) rfl) rfl (fun _ => ?_)
 refine pP (Y.not rfl) rfl ?_
 refine pM rfl rfl ?_
 refine WL.split (t := 24) rfl (fun r h24 => ?_)
 cases r
 refine gT rfl ?_
 refine pM rfl rfl ?_
 refine gT rfl ?_
 refine WL.eff (E.call Try.call110 rfl (fun _ w s => w_rwithin _ _ _ w) rfl) rfl (fun _ => ?_)
 refine gT rfl ?_
 refine pP (Y.not rfl) rfl ?_
 refine pP (Y.pickF rfl rfl) rfl ?_
 refine pM rfl rfl ?_
 refine WL.split (t := 29) rfl (fun r h29 => ?_)
 cases r
 refine gT rfl ?_
 refine pM rfl rfl ?_
 refine gT rfl ?_
 refine WL.eff (E.call Try.call110 rfl (fun _ w s => w_rwithin _ _ _ w) rfl) rfl (fun _ => ?_)
 refine gT rfl ?_
 refine pP (Y.not rfl) rfl ?_
 refine pP (Y.pickF rfl rfl) rfl ?_
 refine pM rfl rfl ?_
 refine WL.split (t := 34) rfl (fun r h34 => ?_)
 cases r
 refine gT rfl ?_
 refine pM rfl rfl ?_
 refine gT rfl ?_
 refine WL.eff (E.call Try.call110 rfl (fun _ w s => w_rwithin _ _ _ w) rfl) rfl (fun _ => ?_)
 refine gT rfl ?_
 refine pP (Y.not rfl) rfl ?_
 refine pP (Y.pickF rfl rfl) rfl ?_
 refine pA rfl rfl ?_
 refine WL.nil ?_
 · refine fun a w s => ⟨rfl, s.weak (sub_cons (eqb ?_) (by repeat (first | exact sub_nil _ | refine sub_cons rfl ?_)))⟩
   clear s
   simp_all
 refine gF rfl ?_
 refine gF rfl ?_
 refine gF rfl ?_
 refine pP (Y.pickT rfl rfl) rfl ?_
 refine pA rfl rfl ?_
 refine WL.nil ?_
 · refine fun a w s => ⟨rfl, s.weak (sub_cons (eqb ?_) (by repeat (first | exact sub_nil _ | refine sub_cons rfl ?_)))⟩
   clear s
   simp_all
 refine gF rfl ?_
 refine gF rfl ?_
 refine gF rfl ?_
 refine pP (Y.pickT rfl rfl) rfl ?_
 refine pM rfl rfl ?_
 refine gF rfl ?_
 refine gF rfl ?_
 refine gF rfl ?_
 refine pP (Y.pickT rfl rfl) rfl ?_
 refine pA rfl rfl ?_
 refine WL.nil ?_
 · refine fun a w s => ⟨rfl, s.weak (sub_cons (eqb ?_) (by repeat (first | exact sub_nil _ | refine sub_cons rfl ?_)))⟩
   clear s
   simp_all
 refine gF rfl ?_
 refine gF rfl ?_
 refine gF rfl ?_
 refine pP (Y.pickT rfl rfl) rfl ?_
 refine pM rfl rfl ?_
 refine gF rfl ?_
 refine gF rfl ?_
 refine gF rfl ?_
 refine pP (Y.pickT rfl rfl) rfl ?_
 refine pM rfl rfl ?_
 refine gF rfl ?_
 refine gF rfl ?_
 refine gF rfl ?_
 refine pP (Y.pickT rfl rfl) rfl ?_
 refine pA rfl rfl ?_
 refine WL.nil ?_
 · refine fun a w s => ⟨rfl, s.weak (sub_cons (eqb ?_) (by repeat (first | exact sub_nil _ | refine sub_cons rfl ?_)))⟩
   clear s
   simp_all
 refine WC.cond rfl (fun h20 => ?_) (fun h20 => ?_)
 refine sR ?_
 refine pP (Y.build rfl (bf_54 )) rfl ?_
 refine WL.eff (E.store Try.sizeOf54 rfl rfl rfl rfl rfl u0 rfl rfl) rfl (fun _ => ?_)
 refine pA rfl rfl ?_
 refine nN ?_
 refine WC.ret ?_
 refine WQ.blockRet ?_
 refine WQ.thenRet ?_
 refine WQ.done Try.results91 (RVs.cons (RV.cell wd_54 rfl m0 rfl) (RVs.cons (RV.tmp rfl) RVs.nil)) (fun a w s => ?_)
 · have e : writeTo x t p q v = (Wd.zero, 3) := by
     unfold writeTo; rw [if_pos h0, if_neg (fun hh => by rw [hh] at h20; simp at h20)]
   rw [e]
   exact ⟨(none, 0), rfl, s.low, own_nil _ _ _ _⟩
 refine WC.seq ?_
 have hok : (wi t 1 9 && (wi p 0 2 && (wi q 0 2 && wi v 0 99))) = true := by simpa using h20
 obtain ⟨ht, hp, hq, hv⟩ : (1 ≤ t ∧ t ≤ 9) ∧ (0 ≤ p ∧ p ≤ 2) ∧ (0 ≤ q ∧ q ≤ 2) ∧ (0 ≤ v ∧ v ≤ 99) := by simpa [wi] using hok
 refine WC.region ?_
 refine pP (Y.fieldAddr fa_54_1 rfl) rfl ?_
 refine pV (Y.load fl_39 rfl m1 rfl) rfl ?_
 refine pM rfl rfl ?_
 refine WL.eff (E.call Try.call125 rfl (fun _ w s => w_state x.log A b o c t w h60 (hr.below s.low)) rfl) rfl (fun _ => ?_)
 refine pP (Y.gtr rfl rfl) rfl ?_
 refine pA rfl rfl ?_
 refine nN ?_
 refine WC.cond rfl (fun h40 => ?_) (fun h40 => ?_)
 refine sR ?_
 refine pP (Y.build rfl (bf_54 )) rfl ?_
 refine WL.eff (E.store Try.sizeOf54 rfl rfl rfl rfl rfl u0 rfl rfl) rfl (fun _ => ?_)
 refine pA rfl rfl ?_
 refine nN ?_
 refine WC.ret ?_
 refine WQ.blockRet ?_
 refine WQ.thenRet ?_
 refine WQ.done Try.results91 (RVs.cons (RV.cell wd_54 rfl m0 rfl) (RVs.cons (RV.tmp rfl) RVs.nil)) (fun a w s => ?_)
 · have e : writeTo x t p q v = (Wd.zero, 6) := by
     unfold writeTo; rw [if_pos h0, if_pos hok, if_pos (by have h40 : decide ((1 : Int) < (stt x.h t : Int)) = true := h40; simp at h40; omega)]
   rw [e]
   exact ⟨(none, 0), rfl, s.low, own_nil _ _ _ _⟩
 refine WC.seq ?_
 have hs1 : stt x.h t ≤ 1 := by have h40 : decide ((1 : Int) < (stt x.h t : Int)) = false := h40; simp at h40; omega
 refine WC.region ?_
 refine pP (Y.fieldAddr fa_54_1 rfl) rfl ?_
 refine pV (Y.load fl_39 rfl m1 rfl) rfl ?_
 refine pM rfl rfl ?_
 refine pM rfl rfl ?_
 refine pM rfl rfl ?_
 refine WL.eff (E.call Try.call145 rfl (fun _ w s => w_taken x.log A b o c t p q w h60 (hr.below s.low) hR.fit) rfl) rfl (fun _ => ?_)
 refine pA rfl rfl ?_
 refine nN ?_
 refine WC.cond rfl (fun h47 => ?_) (fun h47 => ?_)
 refine sR ?_
 refine pP (Y.build rfl (bf_54 )) rfl ?_
 refine WL.eff (E.store Try.sizeOf54 rfl rfl rfl rfl rfl u0 rfl rfl) rfl (fun _ => ?_)
 refine pA rfl rfl ?_
 refine nN ?_
 refine WC.ret ?_
 refine WQ.blockRet ?_
 refine WQ.thenRet ?_
 refine WQ.done Try.results91 (RVs.cons (RV.cell wd_54 rfl m0 rfl) (RVs.cons (RV.tmp rfl) RVs.nil)) (fun a w s => ?_)
 · have e : writeTo x t p q v = (Wd.zero, 5) := by
     unfold writeTo; rw [if_pos h0, if_pos hok, if_neg (by omega), if_pos (show taken x.h t p q = true from h47)]
   rw [e]
   exact ⟨(none, 0), rfl, s.low, own_nil _ _ _ _⟩
 refine WC.skip' ?_
 refine WQ.blockEnd ?_
 refine WQ.next ?_
 refine WC.seq ?_
 have htk : taken x.h t p q = false := h47
 refine WC.region ?_
 refine pV (Y.loadAN wd_54 rfl m1 (r := x.cl A c) rfl) rfl ?_
 refine WL.eff (E.retW x [] Try.call108 rfl (fun _ w s => w_ownWorld x A b o c w (by omega) (hr.below s.low)) rfl) rfl (fun i => ?_)
 refine WL.eff (E.alloc Try.zeroValue54 rfl rfl) rfl (fun b3 => ?_)
 refine WL.eff (E.store Try.sizeOf54 rfl rfl rfl rfl rfl u0 rfl rfl) rfl (fun _ => ?_)
 refine nN ?_
 refine WC.seq ?_
 refine sR ?_
 refine pM rfl rfl ?_
 refine pM rfl rfl ?_
 refine pM rfl rfl ?_
 refine pP (Y.fieldAddr fa_54_1 rfl) rfl ?_
 refine pV (Y.load fl_39 rfl m2 rfl) rfl ?_
 refine WL.eff (E.call Try.call123 rfl (fun _ w s => w_pages x.log A b o c w h60 (hr.below s.low) hR.inR.rev) rfl) rfl (fun _ => ?_)
 refine pM rfl rfl ?_
 refine pP (Y.indexK rfl rfl (ix_pages _ _ hp)) rfl ?_
 refine pP (Y.fieldK rfl (fd_cells _)) rfl ?_
 refine pM rfl rfl ?_
 refine pP (Y.indexK rfl rfl (ix_cells _ _ hq)) rfl ?_
 refine pM rfl rfl ?_
 refine pP (Y.build rfl (bf_34_0_1_3_4_5_6 _ _ _ _ _ _)) rfl ?_
 rcases Nat.lt_or_ge (x.log.length) 60 with hlt | hge
 refine WL.eff (E.putYes (A := i.1) (c := i.2) (r := wrR t 0 p q (cellOf x.h p q) v) (x) rfl (hlt) (Hsub.refl _) rfl rfl rfl) rfl (fun j => ?_)
 refine pP (Y.not rfl) rfl ?_
 refine nN ?_
 refine WC.condF rfl ?_
 refine WC.skip' ?_
 refine WQ.next ?_
 refine sR ?_
 refine pV (Y.loadAN wd_54 rfl m0 (r := (x.more (wrR t (lastN x.h t) p q (cellOf x.h p q) v)).cl j.1 j.2) rfl) rfl ?_
 refine WL.eff (E.store Try.sizeOf54 rfl rfl rfl rfl rfl u1 rfl rfl) rfl (fun _ => ?_)
 refine pA rfl rfl ?_
 refine nN ?_
 refine WC.ret ?_
 refine WQ.done Try.results91 (RVs.cons (RV.cell wd_54 rfl m1 rfl) (RVs.cons (RV.tmp rfl) RVs.nil)) (fun a w s => ?_)
 · have e : writeTo x t p q v = (x.more (wrR t (lastN x.h t) p q (cellOf x.h p q) v), 0) := by
     unfold writeTo
     rw [if_pos h0, if_pos hok, if_neg (by omega), if_neg (by rw [htk]; simp), if_neg (by omega)]
   rw [e]
   exact ⟨j, rfl, s.low, s.fact.1⟩
 refine WL.eff (E.putNo (A := i.1) (c := i.2) (r := wrR t 0 p q (cellOf x.h p q) v) (x) rfl (by omega) (Hsub.refl _) rfl rfl rfl) rfl (fun _ => ?_)
 refine pP (Y.not rfl) rfl ?_
 refine nN ?_
 refine WC.condT rfl ?_
 refine sR ?_
 refine pP (Y.build rfl (bf_54 )) rfl ?_
 refine WL.eff (E.store Try.sizeOf54 rfl rfl rfl rfl rfl u1 rfl rfl) rfl (fun _ => ?_)
 refine pA rfl rfl ?_
 refine nN ?_
 refine WC.ret ?_
 refine WQ.thenRet ?_
 refine WQ.done Try.results91 (RVs.cons (RV.cell wd_54 rfl m1 rfl) (RVs.cons (RV.tmp rfl) RVs.nil)) (fun a w s => ?_)
 · have e : writeTo x t p q v = (Wd.zero, 2) := by
     unfold writeTo; rw [if_pos h0, if_pos hok, if_neg (by omega), if_neg (by rw [htk]; simp), if_pos (by omega)]
   rw [e]
   exact ⟨(none, 0), rfl, s.low, own_nil _ _ _ _⟩

theorem commit_res (x : Wd) (t : Int) : (({ x.more (cmR t (lastN x.h t)) with safe := ((x.more (cmR t (lastN x.h t))).log.length : Int) } : Wd)).more ((enR t 0).at (lastN (({ x.more (cmR t (lastN x.h t)) with safe := ((x.more (cmR t (lastN x.h t))).log.length : Int) } : Wd)).h t)) = (⟨x.disk, x.log ++ [cmR t (lastN x.h t), enR t ((x.log.length : Int) + 1)], (x.log.length : Int) + 1⟩ : Wd) := by
  simp [Wd.more, R.at, Wd.h, lastN, cmR, enR]

theorem w_commitOf (x : Wd) (A : Option Addr) (b o c : Nat) (t : Int) (w : World) (hm : x.log.length ≤ maxLen) (hcap : x.log.length ≤ c) (hr : RL w A b o x.log) : RetW Try.prog 93 [x.val A c, .int .i64 t] w (commitOf x t).1 [.int .i64 (commitOf x t).2] := by
 refine enter Try.func93 rfl Try.ntmps93 rfl SF.top trivial ?_
 refine sR ?_
 refine WL.eff (E.box rfl rfl rfl) rfl (fun b1 => ?_)
 refine WL.eff (E.alloc Try.zeroValue54 rfl rfl) rfl (fun b2 => ?_)
 refine pA rfl rfl ?_
 refine nN ?_
 refine WC.seq ?_
 refine sR ?_
 refine pV (Y.loadAN wd_54 rfl m1 (r := x.cl A c) rfl) rfl ?_
 refine WL.eff (E.call Try.call63 rfl (fun _ w s => w_worldError x A b o c w hm hcap (hr.below s.low)) rfl) rfl (fun _ => ?_)
 refine pA rfl rfl ?_
 refine nN ?_
 refine sR ?_
 refine pM rfl rfl ?_
 refine pP (Y.neq rfl rfl) rfl ?_
 refine nN ?_
 refine WC.cond rfl (fun h12 => ?_) (fun h12 => ?_)
 refine sR ?_
 refine pP (Y.build rfl (bf_54 )) rfl ?_
 refine pM rfl rfl ?_
 refine WL.eff (E.store Try.sizeOf54 rfl rfl rfl rfl rfl u0 rfl rfl) rfl (fun _ => ?_)
 refine pA rfl rfl ?_
 refine nN ?_
 refine WC.ret ?_
 refine WQ.thenRet ?_
 refine WQ.done Try.results93 (RVs.cons (RV.cell wd_54 rfl m0 rfl) (RVs.cons (RV.tmp rfl) RVs.nil)) (fun a w s => ?_)
 · have e : commitOf x t = (Wd.zero, worldErr x) := by
     unfold commitOf; rw [if_neg (by simpa using h12)]
   rw [e]
   exact ⟨(none, 0), rfl, s.low, own_nil _ _ _ _⟩
 refine WC.skip' ?_
 refine WQ.next ?_
 refine WC.seq ?_
 refine WC.seq ?_
 have h0 : worldErr x = 0 := by simpa using h12
 obtain ⟨hl0, h60, hR, hsf, _⟩ := world_right h0
 have hlen : x.h.length = x.log.length := by simp [Wd.h]
 refine WC.region ?_
 refine pM rfl rfl ?_
 refine WL.eff (E.call Try.call110 rfl (fun _ w s => w_rwithin _ _ _ w) rfl) rfl (fun _ => ?_)
 refine pP (Y.not rfl) rfl ?_
 refine nN ?_
 refine WC.cond rfl (fun h17 => ?_) (fun h17 => ?_)
 refine sR ?_
 refine pP (Y.build rfl (bf_54 )) rfl ?_
 refine WL.eff (E.store Try.sizeOf54 rfl rfl rfl rfl rfl u0 rfl rfl) rfl (fun _ => ?_)
 refine pA rfl rfl ?_
 refine nN ?_
 refine WC.ret ?_
 refine WQ.thenRet ?_
 refine WQ.done Try.results93 (RVs.cons (RV.cell wd_54 rfl m0 rfl) (RVs.cons (RV.tmp rfl) RVs.nil)) (fun a w s => ?_)
 · have e : commitOf x t = (Wd.zero, 3) := by
     unfold commitOf; rw [if_pos h0, if_neg (by simpa using h17)]
   rw [e]
   exact ⟨(none, 0), rfl, s.low, own_nil _ _ _ _⟩
 refine WC.skip' ?_
 refine WQ.next ?_
 refine WC.seq ?_
 refine WC.seq ?_
 have hok : wi t 1 9 = true := by simpa using h17
 have ht := wi_iff.1 hok
 refine WC.region ?_
 refine pP (Y.fieldAddr fa_54_1 rfl) rfl ?_
 refine pV (Y.load fl_39 rfl m1 rfl) rfl ?_
 refine pM rfl rfl ?_
 refine WL.eff (E.call Try.call125 rfl (fun _ w s => w_state x.log A b o c t w h60 (hr.below s.low)) rfl) rfl (fun _ => ?_)
 refine pA rfl rfl ?_
 refine nN ?_
 refine WC.block ?_
 refine sR ?_
 refine pM rfl rfl ?_
 refine pP (Y.eql rfl rfl) rfl ?_
 refine pA rfl rfl ?_
 refine nN ?_
 refine WC.cond rfl (fun h23 => ?_) (fun h23 => ?_)
 refine sR ?_
 refine pP (Y.build rfl (bf_54 )) rfl ?_
 refine WL.eff (E.store Try.sizeOf54 rfl rfl rfl rfl rfl u0 rfl rfl) rfl (fun _ => ?_)
 refine pA rfl rfl ?_
 refine nN ?_
 refine WC.ret ?_
 refine WQ.blockRet ?_
 refine WQ.thenRet ?_
 refine WQ.done Try.results93 (RVs.cons (RV.cell wd_54 rfl m0 rfl) (RVs.cons (RV.tmp rfl) RVs.nil)) (fun a w s => ?_)
 · have e : commitOf x t = (Wd.zero, 7) := by
     unfold commitOf; rw [if_pos h0, if_pos hok, if_pos (by have h23 : ((stt x.h t : Int) == 0) = true := h23; simp at h23; omega)]
   rw [e]
   exact ⟨(none, 0), rfl, s.low, own_nil _ _ _ _⟩
 refine WC.seq ?_
 have hs0 : stt x.h t ≠ 0 := by have h23 : ((stt x.h t : Int) == 0) = false := h23; simp at h23; omega
 refine WC.region ?_
 refine pM rfl rfl ?_
 refine pP (Y.gtr rfl rfl) rfl ?_
 refine pA rfl rfl ?_
 refine nN ?_
 refine WC.cond rfl (fun h27 => ?_) (fun h27 => ?_)
 refine sR ?_
 refine pP (Y.build rfl (bf_54 )) rfl ?_
 refine WL.eff (E.store Try.sizeOf54 rfl rfl rfl rfl rfl u0 rfl rfl) rfl (fun _ => ?_)
 refine pA rfl rfl ?_
 refine nN ?_
 refine WC.ret ?_
 refine WQ.blockRet ?_
 refine WQ.thenRet ?_
 refine WQ.done Try.results93 (RVs.cons (RV.cell wd_54 rfl m0 rfl) (RVs.cons (RV.tmp rfl) RVs.nil)) (fun a w s => ?_)
 · have e : commitOf x t = (Wd.zero, 6) := by
     unfold commitOf; rw [if_pos h0, if_pos hok, if_neg (by omega), if_pos (by have h27 : decide ((1 : Int) < (stt x.h t : Int)) = true := h27; simp at h27; omega)]
   rw [e]
   exact ⟨(none, 0), rfl, s.low, own_nil _ _ _ _⟩
 refine WC.skip' ?_
 refine WQ.blockEnd ?_
 refine WQ.next ?_
 refine WC.seq ?_
 have hs1 : stt x.h t ≤ 1 := by have h27 : decide ((1 : Int) < (stt x.h t : Int)) = false := h27; simp at h27; omega
 refine WC.region ?_
 refine pV (Y.loadAN wd_54 rfl m1 (r := x.cl A c) rfl) rfl ?_
 refine WL.eff (E.retW x [] Try.call108 rfl (fun _ w s => w_ownWorld x A b o c w (by omega) (hr.below s.low)) rfl) rfl (fun i => ?_)
 refine WL.eff (E.alloc Try.zeroValue54 rfl rfl) rfl (fun b3 => ?_)
 refine WL.eff (E.store Try.sizeOf54 rfl rfl rfl rfl rfl u0 rfl rfl) rfl (fun _ => ?_)
 refine nN ?_
 refine WC.seq ?_
 refine sR ?_
 refine pM rfl rfl ?_
 refine pP (Y.build rfl (bf_34_0_1 _ _)) rfl ?_
 rcases Nat.lt_or_ge (x.log.length) 60 with hlt | hge
 refine WL.eff (E.putYes (A := i.1) (c := i.2) (r := cmR t 0) (x) rfl (hlt) (Hsub.refl _) rfl rfl rfl) rfl (fun j => ?_)
 refine pP (Y.not rfl) rfl ?_
 refine nN ?_
 refine WC.condF rfl ?_
 refine WC.skip' ?_
 refine WQ.next ?_
 refine sR ?_
 refine pP (Y.fieldAddr fa_54_1 rfl) rfl ?_
 refine pV (Y.load (v := .slice j.1 (x.more (cmR t (lastN x.h t))).log.length j.2) fl_39 rfl m0 rfl) rfl ?_
 refine pP (Y.len Try.underlying39 rfl) rfl ?_
 refine pP (Y.fieldAddr fa_54_2 rfl) rfl ?_
 refine WL.eff (E.store Try.sizeOf3 rfl rfl rfl rfl rfl u0 rfl rfl) rfl (fun _ => ?_)
 refine nN ?_
 refine WC.seq ?_
 refine sR ?_
 refine pM rfl rfl ?_
 refine pP (Y.build rfl (bf_34_0_1 _ _)) rfl ?_
 rcases Nat.lt_or_ge ((x.more (cmR t (lastN x.h t))).log.length) 60 with hlt2 | hge2
 refine WL.eff (E.putYes (A := j.1) (c := j.2) (r := enR t 0) (({ x.more (cmR t (lastN x.h t)) with safe := ((x.more (cmR t (lastN x.h t))).log.length : Int) } : Wd)) rfl (hlt2) (Hsub.refl _) rfl rfl rfl) rfl (fun k => ?_)
 refine pP (Y.not rfl) rfl ?_
 refine nN ?_
 refine WC.condF rfl ?_
 refine WC.skip' ?_
 refine WQ.next ?_
 refine sR ?_
 refine pV (Y.loadAN wd_54 rfl m0 (r := ((({ x.more (cmR t (lastN x.h t)) with safe := ((x.more (cmR t (lastN x.h t))).log.length : Int) } : Wd)).more ((enR t 0).at (lastN (({ x.more (cmR t (lastN x.h t)) with safe := ((x.more (cmR t (lastN x.h t))).log.length : Int) } : Wd)).h t))).cl k.1 k.2) rfl) rfl ?_
 refine WL.eff (E.store Try.sizeOf54 rfl rfl rfl rfl rfl u1 rfl rfl) rfl (fun _ => ?_)
 refine pA rfl rfl ?_
 refine nN ?_
 refine WC.ret ?_
 refine WQ.done Try.results93 (RVs.cons (RV.cell wd_54 rfl m1 rfl) (RVs.cons (RV.tmp rfl) RVs.nil)) (fun a w s => ?_)
 · have e : commitOf x t = ((⟨x.disk, x.log ++ [cmR t (lastN x.h t), enR t ((x.log.length : Int) + 1)], (x.log.length : Int) + 1⟩ : Wd), 0) := by
     unfold commitOf
     rw [if_pos h0, if_pos hok, if_neg (by omega), if_neg (by omega), if_neg (by simp [Wd.more] at hlt2; omega)]
   rw [e, ← commit_res x t]
   exact ⟨k, rfl, s.low, s.fact.1⟩
 refine WL.eff (E.putNo (A := j.1) (c := j.2) (r := enR t 0) (({ x.more (cmR t (lastN x.h t)) with safe := ((x.more (cmR t (lastN x.h t))).log.length : Int) } : Wd)) rfl (by simp [Wd.more] at hge2 ⊢; omega) (Hsub.refl _) rfl rfl rfl) rfl (fun _ => ?_)
 refine pP (Y.not rfl) rfl ?_
 refine nN ?_
 refine WC.condT rfl ?_
 refine sR ?_
 refine pP (Y.build rfl (bf_54 )) rfl ?_
 refine WL.eff (E.store Try.sizeOf54 rfl rfl rfl rfl rfl u1 rfl rfl) rfl (fun _ => ?_)
 refine pA rfl rfl ?_
 refine nN ?_
 refine WC.ret ?_
 refine WQ.thenRet ?_
 refine WQ.done Try.results93 (RVs.cons (RV.cell wd_54 rfl m1 rfl) (RVs.cons (RV.tmp rfl) RVs.nil)) (fun a w s => ?_)
 · have e : commitOf x t = (Wd.zero, 2) := by
     unfold commitOf; rw [if_pos h0, if_pos hok, if_neg (by omega), if_neg (by omega), if_pos (by simp [Wd.more] at hge2; omega)]
   rw [e]
   exact ⟨(none, 0), rfl, s.low, own_nil _ _ _ _⟩
 refine WL.eff (E.putNo (A := i.1) (c := i.2) (r := cmR t 0) (x) rfl (by omega) (Hsub.refl _) rfl rfl rfl) rfl (fun _ => ?_)
 refine pP (Y.not rfl) rfl ?_
 refine nN ?_
 refine WC.condT rfl ?_
 refine sR ?_
 refine pP (Y.build rfl (bf_54 )) rfl ?_
 refine WL.eff (E.store Try.sizeOf54 rfl rfl rfl rfl rfl u1 rfl rfl) rfl (fun _ => ?_)
 refine pA rfl rfl ?_
 refine nN ?_
 refine WC.ret ?_
 refine WQ.thenRet ?_
 refine WQ.done Try.results93 (RVs.cons (RV.cell wd_54 rfl m1 rfl) (RVs.cons (RV.tmp rfl) RVs.nil)) (fun a w s => ?_)
 · have e : commitOf x t = (Wd.zero, 2) := by
     unfold commitOf; rw [if_pos h0, if_pos hok, if_neg (by omega), if_neg (by omega), if_pos (by omega)]
   rw [e]
   exact ⟨(none, 0), rfl, s.low, own_nil _ _ _ _⟩

theorem w_syncOf (x : Wd) (A : Option Addr) (b o c : Nat) (n : Int) (w : World) (hm : x.log.length ≤ maxLen) (hcap : x.log.length ≤ c) (hr : RL w A b o x.log) : RetW Try.prog 80 [x.val A c, .int .i64 n] w (syncOf x n).1 [.int .i64 (syncOf x n).2] := by
 refine enter Try.func80 rfl Try.ntmps80 rfl SF.top trivial ?_
 refine sR ?_
 refine WL.eff (E.box rfl rfl rfl) rfl (fun b1 => ?_)
 refine WL.eff (E.alloc Try.zeroValue54 rfl rfl) rfl (fun b2 => ?_)
 refine pA rfl rfl ?_
 refine nN ?_
 refine WC.seq ?_
 refine sR ?_
 refine pV (Y.loadAN wd_54 rfl m1 (r := x.cl A c) rfl) rfl ?_
 refine WL.eff (E.call Try.call63 rfl (fun _ w s => w_worldError x A b o c w hm hcap (hr.below s.low)) rfl) rfl (fun _ => ?_)
 refine pA rfl rfl ?_
 refine nN ?_
 refine sR ?_
 refine pM rfl rfl ?_
 refine pP (Y.neq rfl rfl) rfl ?_
 refine nN ?_
 refine WC.cond rfl (fun h11 => ?_) (fun h11 => ?_)
 refine sR ?_
 refine pP (Y.build rfl (bf_54 )) rfl ?_
 refine pM rfl rfl ?_
 refine WL.eff (E.store Try.sizeOf54 rfl rfl rfl rfl rfl u0 rfl rfl) rfl (fun _ => ?_)
 refine pA rfl rfl ?_
 refine nN ?_
 refine WC.ret ?_
 refine WQ.thenRet ?_
 refine WQ.done Try.results80 (RVs.cons (RV.cell wd_54 rfl m0 rfl) (RVs.cons (RV.tmp rfl) RVs.nil)) (fun a w s => ?_)
 · have e : syncOf x n = (Wd.zero, worldErr x) := by
     unfold syncOf; rw [if_neg (by simpa using h11)]
   rw [e]
   exact ⟨(none, 0), rfl, s.low, own_nil _ _ _ _⟩
 refine WC.skip' ?_
 refine WQ.next ?_
 refine WC.seq ?_
 refine WC.seq ?_
 have h0 : worldErr x = 0 := by simpa using h11
 obtain ⟨hl0, h60, hR, hsf, _⟩ := world_right h0
 have hlen : x.h.length = x.log.length := by simp [Wd.h]
 refine WC.region ?_
 refine pM rfl rfl ?_
 refine pP (Y.fieldAddr fa_54_1 rfl) rfl ?_
 refine pV (Y.load fl_39 rfl m1 rfl) rfl ?_
 refine pP (Y.len Try.underlying39 rfl) rfl ?_
 refine WL.eff (E.call Try.call110 rfl (fun _ w s => w_rwithin _ _ _ w) rfl) rfl (fun _ => ?_)
 refine pP (Y.not rfl) rfl ?_
 refine nN ?_
 refine WC.cond rfl (fun h19 => ?_) (fun h19 => ?_)
 refine sR ?_
 refine pP (Y.build rfl (bf_54 )) rfl ?_
 refine WL.eff (E.store Try.sizeOf54 rfl rfl rfl rfl rfl u0 rfl rfl) rfl (fun _ => ?_)
 refine pA rfl rfl ?_
 refine nN ?_
 refine WC.ret ?_
 refine WQ.thenRet ?_
 refine WQ.done Try.results80 (RVs.cons (RV.cell wd_54 rfl m0 rfl) (RVs.cons (RV.tmp rfl) RVs.nil)) (fun a w s => ?_)
 · have e : syncOf x n = (Wd.zero, 3) := by
     unfold syncOf; rw [if_pos h0, if_neg (by simpa using h19)]
   rw [e]
   exact ⟨(none, 0), rfl, s.low, own_nil _ _ _ _⟩
 refine WC.skip' ?_
 refine WQ.next ?_
 refine WC.seq ?_
 have hok : wi n 0 x.log.length = true := by simpa using h19
 refine WC.region ?_
 refine pV (Y.loadAN wd_54 rfl m1 (r := x.cl A c) rfl) rfl ?_
 refine WL.eff (E.retW x [] Try.call108 rfl (fun _ w s => w_ownWorld x A b o c w (by omega) (hr.below s.low)) rfl) rfl (fun i => ?_)
 refine WL.eff (E.alloc Try.zeroValue54 rfl rfl) rfl (fun b3 => ?_)
 refine WL.eff (E.store Try.sizeOf54 rfl rfl rfl rfl rfl u0 rfl rfl) rfl (fun _ => ?_)
 refine nN ?_
 refine sR ?_
 refine pP (Y.fieldAddr fa_54_2 rfl) rfl ?_
 refine pV (Y.load fl_3 rfl m2 rfl) rfl ?_
 refine pM rfl rfl ?_
 refine pP (Y.max rfl rfl) rfl ?_
 refine pP (Y.fieldAddr fa_54_2 rfl) rfl ?_
 refine WL.eff (E.store Try.sizeOf3 rfl rfl rfl rfl rfl u0 rfl rfl) rfl (fun _ => ?_)
 refine nN ?_
 refine sR ?_
 refine pV (Y.loadAN wd_54 rfl m0 (r := ({ x with safe := max x.safe n } : Wd).cl i.1 i.2) rfl) rfl ?_
 refine WL.eff (E.store Try.sizeOf54 rfl rfl rfl rfl rfl u1 rfl rfl) rfl (fun _ => ?_)
 refine pA rfl rfl ?_
 refine nN ?_
 refine WC.ret ?_
 refine WQ.done Try.results80 (RVs.cons (RV.cell wd_54 rfl m1 rfl) (RVs.cons (RV.tmp rfl) RVs.nil)) (fun a w s => ?_)
 · have e : syncOf x n = ({ x with safe := max x.safe n }, 0) := by unfold syncOf; rw [if_pos h0, if_pos hok]
   rw [e]
   exact ⟨i, rfl, s.low, s.fact.1⟩

theorem disk_put (x : Wd) (A : Option Addr) (c : Nat) (p : Int) (q : Pg) (hp : 0 ≤ p ∧ p ≤ 2) : put (x.cl A c) (0 + 0 + p.toNat * 4) q.cl = ({ x with disk := x.disk.set p q } : Wd).cl A c := by
  have h1 : p = 0 ∨ p = 1 ∨ p = 2 := by omega
  rcases h1 with rfl | rfl | rfl <;> rfl
theorem wd_len (x : Wd) (A : Option Addr) (c : Nat) : (x.cl A c).length = 14 := rfl

theorem w_flushOf (x : Wd) (A : Option Addr) (b o c : Nat) (p : Int) (w : World) (hm : x.log.length ≤ maxLen) (hcap : x.log.length ≤ c) (hr : RL w A b o x.log) : RetW Try.prog 81 [x.val A c, .int .i64 p] w (flushOf x p).1 [.int .i64 (flushOf x p).2] := by
 refine enter Try.func81 rfl Try.ntmps81 rfl SF.top trivial ?_
 refine sR ?_
 refine WL.eff (E.box rfl rfl rfl) rfl (fun b1 => ?_)
 refine WL.eff (E.alloc Try.zeroValue54 rfl rfl) rfl (fun b2 => ?_)
 refine pA rfl rfl ?_
 refine nN ?_
 refine WC.seq ?_
 refine sR ?_
 refine pV (Y.loadAN wd_54 rfl m1 (r := x.cl A c) rfl) rfl ?_
 refine WL.eff (E.call Try.call63 rfl (fun _ w s => w_worldError x A b o c w hm hcap (hr.below s.low)) rfl) rfl (fun _ => ?_)
 refine pA rfl rfl ?_
 refine nN ?_
 refine sR ?_
 refine pM rfl rfl ?_
 refine pP (Y.neq rfl rfl) rfl ?_
 refine nN ?_
 refine WC.cond rfl (fun h11 => ?_) (fun h11 => ?_)
 refine sR ?_
 refine pP (Y.build rfl (bf_54 )) rfl ?_
 refine pM rfl rfl ?_
 refine WL.eff (E.store Try.sizeOf54 rfl rfl rfl rfl rfl u0 rfl rfl) rfl (fun _ => ?_)
 refine pA rfl rfl ?_
 refine nN ?_
 refine WC.ret ?_
 refine WQ.thenRet ?_
 refine WQ.done Try.results81 (RVs.cons (RV.cell wd_54 rfl m0 rfl) (RVs.cons (RV.tmp rfl) RVs.nil)) (fun a w s => ?_)
 · have e : flushOf x p = (Wd.zero, worldErr x) := by
     unfold flushOf; rw [if_neg (by simpa using h11)]
   rw [e]
   exact ⟨(none, 0), rfl, s.low, own_nil _ _ _ _⟩
 refine WC.skip' ?_
 refine WQ.next ?_
 refine WC.seq ?_
 refine WC.seq ?_
 have h0 : worldErr x = 0 := by simpa using h11
 obtain ⟨hl0, h60, hR, hsf, _⟩ := world_right h0
 have hlen : x.h.length = x.log.length := by simp [Wd.h]
 refine WC.region ?_
 refine pM rfl rfl ?_
 refine WL.eff (E.call Try.call110 rfl (fun _ w s => w_rwithin _ _ _ w) rfl) rfl (fun _ => ?_)
 refine pP (Y.not rfl) rfl ?_
 refine nN ?_
 refine WC.cond rfl (fun h16 => ?_) (fun h16 => ?_)
 refine sR ?_
 refine pP (Y.build rfl (bf_54 )) rfl ?_
 refine WL.eff (E.store Try.sizeOf54 rfl rfl rfl rfl rfl u0 rfl rfl) rfl (fun _ => ?_)
 refine pA rfl rfl ?_
 refine nN ?_
 refine WC.ret ?_
 refine WQ.thenRet ?_
 refine WQ.done Try.results81 (RVs.cons (RV.cell wd_54 rfl m0 rfl) (RVs.cons (RV.tmp rfl) RVs.nil)) (fun a w s => ?_)
 · have e : flushOf x p = (Wd.zero, 3) := by
     unfold flushOf; rw [if_pos h0, if_neg (by simpa using h16)]
   rw [e]
   exact ⟨(none, 0), rfl, s.low, own_nil _ _ _ _⟩
 refine WC.skip' ?_
 refine WQ.next ?_
 refine WC.seq ?_
 have hok : wi p 0 2 = true := by simpa using h16
 have hp := wi_iff.1 hok
 refine WC.region ?_
 refine pV (Y.loadAN wd_54 rfl m1 (r := x.cl A c) rfl) rfl ?_
 refine WL.eff (E.retW x [] Try.call108 rfl (fun _ w s => w_ownWorld x A b o c w (by omega) (hr.below s.low)) rfl) rfl (fun i => ?_)
 refine WL.eff (E.alloc Try.zeroValue54 rfl rfl) rfl (fun b3 => ?_)
 refine WL.eff (E.store Try.sizeOf54 rfl rfl rfl rfl rfl u0 rfl rfl) rfl (fun _ => ?_)
 refine nN ?_
 refine sR ?_
 refine pM rfl rfl ?_
 refine pP (Y.fieldAddr fa_54_1 rfl) rfl ?_
 refine pV (Y.load fl_39 rfl m2 rfl) rfl ?_
 refine WL.eff (E.call Try.call123 rfl (fun _ w s => w_pages x.log A b o c w h60 (hr.below s.low) hR.inR.rev) rfl) rfl (fun _ => ?_)
 refine pM rfl rfl ?_
 refine pP (Y.indexK rfl rfl (ix_pages _ _ hp)) rfl ?_
 refine pP (Y.fieldAddr fa_54_0 rfl) rfl ?_
 refine pP (Y.ixArr Try.underlying42 Try.sizeOf24 rfl rfl hp.1 (by omega)) rfl ?_
 refine WL.eff (E.storeP Try.sizeOf24 rfl rfl rfl rfl rfl u0 (by have := wd_len x i.1 i.2; show _ ≤ (x.cl i.1 i.2).length; omega) (disk_put x i.1 i.2 p _ hp)) rfl (fun _ => ?_)
 refine nN ?_
 refine WC.seq ?_
 refine WC.draw [(0, .q false), (1, .q true), (2, .q false), (3, .q false), (4, .q false), (5, .q false), (6, .q true), (7, .q false), (8, .q false), (9, .s true)] mixed (by kernel_rfl) ?_
 refine dP (Y.fieldAddr fa_54_2 rfl) rfl rfl ?_
 refine dV (Y.load fl_3 rfl m2 rfl) rfl rfl ?_
 refine dP (Y.move rfl) rfl rfl ?_
 refine dP (Y.fieldAddr fa_54_0 rfl) rfl rfl ?_
 refine dP (Y.ixArr Try.underlying42 Try.sizeOf24 rfl rfl hp.1 (by omega)) rfl rfl ?_
 refine dP (Y.fieldAddr fa_24_1 rfl) rfl rfl ?_
 refine dV (Y.loadN (cs := (({ x with disk := x.disk.set p ((pagesOf x.h).get p) } : Wd)).cl i.1 i.2) fl_3 rfl m0 (disk_cell ({ x with disk := x.disk.set p ((pagesOf x.h).get p) } : Wd) i.1 i.2 p hp)) rfl rfl ?_
 refine dP (Y.max rfl rfl) rfl rfl ?_
 refine dP (Y.fieldAddr fa_54_2 rfl) rfl rfl ?_
 refine WDm.spec (WS.free rfl (E.store Try.sizeOf3 rfl rfl rfl rfl rfl u0 rfl rfl)) (fun _ => sub_refl _) (fun _ => ?_)
 refine WDm.nil (WQ.and ?_)
 refine WQ.next ?_
 refine sR ?_
 refine pV (Y.loadAN wd_54 rfl m0 (r := ({ ({ x with disk := x.disk.set p ((pagesOf x.h).get p) } : Wd) with safe := max x.safe ((({ x with disk := x.disk.set p ((pagesOf x.h).get p) } : Wd)).disk.get p).last } : Wd).cl i.1 i.2) rfl) rfl ?_
 refine WL.eff (E.store Try.sizeOf54 rfl rfl rfl rfl rfl u1 rfl rfl) rfl (fun _ => ?_)
 refine pA rfl rfl ?_
 refine nN ?_
 refine WC.ret ?_
 refine WQ.done Try.results81 (RVs.cons (RV.cell wd_54 rfl m1 rfl) (RVs.cons (RV.tmp rfl) RVs.nil)) (fun a w s => ?_)
 · have e : flushOf x p = (x.lay p, 0) := by unfold flushOf; rw [if_pos h0, if_pos hok]
   have e2 : ((x.disk.set p ((pagesOf x.h).get p)).get p).last = ((pagesOf x.h).get p).last := by rw [get_set _ hp _ hp, if_pos rfl]
   rw [e, show x.lay p = ({ ({ x with disk := x.disk.set p ((pagesOf x.h).get p) } : Wd) with safe := max x.safe ((({ x with disk := x.disk.set p ((pagesOf x.h).get p) } : Wd)).disk.get p).last } : Wd) by unfold Wd.lay; rw [e2]]
   exact ⟨i, rfl, s.low, s.fact.1⟩

theorem own_take {w : World} {base c : Nat} {A : Option Addr} {l : List R} (h : w.ownsRow base 34 8 (.slice A l.length c) l.length (flat l)) (k : Nat) : w.ownsRow base 34 8 (.slice A (l.take k).length c) (l.take k).length (flat (l.take k)) := by
  have h1 := own_cut h (j := (l.take k).length) (by simp; omega)
  rw [flat_take] at h1
  have e : l.take (l.take k).length = l.take k := by
    rw [List.length_take]
    rcases Nat.le_total k l.length with h | h
    · rw [Nat.min_eq_left h]
    · rw [Nat.min_eq_right h, List.take_of_length_le (Nat.le_refl _), List.take_of_length_le h]
  rw [e] at h1
  exact h1

theorem w_crashOf (x : Wd) (A : Option Addr) (b o c : Nat) (w : World) (hm : x.log.length ≤ maxLen) (hcap : x.log.length ≤ c) (hr : RL w A b o x.log) : RetW Try.prog 96 [x.val A c] w (crashOf x).1 [.int .i64 (crashOf x).2] := by
 refine enter Try.func96 rfl Try.ntmps96 rfl SF.top trivial ?_
 refine sR ?_
 refine WL.eff (E.box rfl rfl rfl) rfl (fun b1 => ?_)
 refine WL.eff (E.alloc Try.zeroValue54 rfl rfl) rfl (fun b2 => ?_)
 refine pA rfl rfl ?_
 refine nN ?_
 refine WC.seq ?_
 refine sR ?_
 refine pV (Y.loadAN wd_54 rfl m1 (r := x.cl A c) rfl) rfl ?_
 refine WL.eff (E.call Try.call63 rfl (fun _ w s => w_worldError x A b o c w hm hcap (hr.below s.low)) rfl) rfl (fun _ => ?_)
 refine pA rfl rfl ?_
 refine nN ?_
 refine sR ?_
 refine pM rfl rfl ?_
 refine pP (Y.neq rfl rfl) rfl ?_
 refine nN ?_
 refine WC.cond rfl (fun h9 => ?_) (fun h9 => ?_)
 refine sR ?_
 refine pP (Y.build rfl (bf_54 )) rfl ?_
 refine pM rfl rfl ?_
 refine WL.eff (E.store Try.sizeOf54 rfl rfl rfl rfl rfl u0 rfl rfl) rfl (fun _ => ?_)
 refine pA rfl rfl ?_
 refine nN ?_
 refine WC.ret ?_
 refine WQ.thenRet ?_
 refine WQ.done Try.results96 (RVs.cons (RV.cell wd_54 rfl m0 rfl) (RVs.cons (RV.tmp rfl) RVs.nil)) (fun a w s => ?_)
 · have e : crashOf x = (Wd.zero, worldErr x) := by
     unfold crashOf; rw [if_neg (by simpa using h9)]
   rw [e]
   exact ⟨(none, 0), rfl, s.low, own_nil _ _ _ _⟩
 refine WC.skip' ?_
 refine WQ.next ?_
 refine WC.seq ?_
 have h0 : worldErr x = 0 := by simpa using h9
 obtain ⟨hl0, h60, hR, hsf, _⟩ := world_right h0
 have hlen : x.h.length = x.log.length := by simp [Wd.h]
 refine WC.region ?_
 refine pV (Y.loadAN wd_54 rfl m1 (r := x.cl A c) rfl) rfl ?_
 refine WL.eff (E.retW x [] Try.call108 rfl (fun _ w s => w_ownWorld x A b o c w (by omega) (hr.below s.low)) rfl) rfl (fun i => ?_)
 refine WL.eff (E.alloc Try.zeroValue54 rfl rfl) rfl (fun b3 => ?_)
 refine WL.eff (E.store Try.sizeOf54 rfl rfl rfl rfl rfl u0 rfl rfl) rfl (fun _ => ?_)
 refine nN ?_
 refine WC.seq ?_
 refine WC.know (p := x.log.length ≤ i.2) (fun a w s => own_le s.fact.1) (fun hci => ?_)
 refine WC.region ?_
 refine pP (Y.fieldAddr fa_54_1 rfl) rfl ?_
 refine pV (Y.load (v := .slice i.1 x.log.length i.2) fl_39 rfl m0 rfl) rfl ?_
 refine pP (Y.fieldAddr fa_54_2 rfl) rfl ?_
 refine pV (Y.load fl_3 rfl m2 rfl) rfl ?_
 refine pP (Y.slToN (x.log.take x.safe.toNat).length (take_cast hsf) Try.underlying39 Try.sizeOf34 rfl rfl (by simp; omega)) rfl ?_
 refine pP (Y.fieldAddr fa_54_1 rfl) rfl ?_
 refine WL.eff (E.store Try.sizeOf39 rfl rfl rfl rfl rfl u0 rfl rfl) rfl (fun _ => ?_)
 refine nN ?_
 refine sR ?_
 refine pV (Y.loadAN wd_54 rfl m0 (r := x.cut.cl i.1 i.2) rfl) rfl ?_
 refine WL.eff (E.store Try.sizeOf54 rfl rfl rfl rfl rfl u1 rfl rfl) rfl (fun _ => ?_)
 refine pA rfl rfl ?_
 refine nN ?_
 refine WC.ret ?_
 refine WQ.done Try.results96 (RVs.cons (RV.cell wd_54 rfl m1 rfl) (RVs.cons (RV.tmp rfl) RVs.nil)) (fun a w s => ?_)
 · have e : crashOf x = (x.cut, 0) := by unfold crashOf; rw [if_pos h0]
   rw [e]
   exact ⟨i, rfl, s.low, own_take s.fact.1 _⟩

def Wd.at (x : Wd) (h : List R) : Wd := ⟨x.disk, h.reverse, x.safe⟩
theorem undo_at (h : List R) (t : Int) : (undoB h t).at (lastN h (undoB h t).txn) = undoB h t := by
  unfold undoB
  cases upB h t <;> rfl
theorem at_more (x : Wd) (h : List R) (t : Int) : (x.at h).more ((undoB h t).at (lastN (x.at h).h (undoB h t).txn)) = x.at (undoB h t :: h) := by
  have e : (x.at h).h = h := by simp [Wd.at, Wd.h]
  rw [e, undo_at]
  simp [Wd.at, Wd.more]
theorem roll_ok {l : List R} {t : Int} (h : (rollOf l t).2 = 0) : (1 ≤ t ∧ t ≤ 9) ∧ (stt l.reverse t = 1 ∨ stt l.reverse t = 3) := by
  unfold rollOf at h
  split at h
  rotate_left
  · rename_i h0; exact absurd h h0
  split at h
  rotate_left
  · simp at h
  split at h
  · simp at h
  split at h
  · simp at h
  rename_i h1 h2 h3 h4
  have := stt_le4 l.reverse t
  exact ⟨wi_iff.1 h2, by omega⟩

theorem w_abortOf (x : Wd) (A : Option Addr) (b o c : Nat) (t : Int) (w : World) (hm : x.log.length ≤ maxLen) (hcap : x.log.length ≤ c) (hr : RL w A b o x.log) : RetW Try.prog 89 [x.val A c, .int .i64 t] w (abortOf x t).1 [.int .i64 (abortOf x t).2] := by
 refine enter Try.func89 rfl Try.ntmps89 rfl SF.top trivial ?_
 refine sR ?_
 refine WL.eff (E.box rfl rfl rfl) rfl (fun b1 => ?_)
 refine WL.eff (E.alloc Try.zeroValue54 rfl rfl) rfl (fun b2 => ?_)
 refine pA rfl rfl ?_
 refine nN ?_
 refine WC.seq ?_
 refine sR ?_
 refine pV (Y.loadAN wd_54 rfl m1 (r := x.cl A c) rfl) rfl ?_
 refine WL.eff (E.call Try.call63 rfl (fun _ w s => w_worldError x A b o c w hm hcap (hr.below s.low)) rfl) rfl (fun _ => ?_)
 refine pA rfl rfl ?_
 refine nN ?_
 refine sR ?_
 refine pM rfl rfl ?_
 refine pP (Y.neq rfl rfl) rfl ?_
 refine nN ?_
 refine WC.cond rfl (fun h13 => ?_) (fun h13 => ?_)
 refine sR ?_
 refine pP (Y.build rfl (bf_54 )) rfl ?_
 refine pM rfl rfl ?_
 refine WL.eff (E.store Try.sizeOf54 rfl rfl rfl rfl rfl (by repeat (first | exact Upd.here | apply Upd.there)) rfl rfl) rfl (fun _ => ?_)
 refine pA rfl rfl ?_
 refine nN ?_
 refine WC.ret ?_
 refine WQ.thenRet ?_
 refine WQ.done Try.results89 (RVs.cons (RV.cell wd_54 rfl m0 rfl) (RVs.cons (RV.tmp rfl) RVs.nil)) (fun a w s => ?_)
 · have e : abortOf x t = (Wd.zero, worldErr x) := by
     unfold abortOf; rw [if_neg (by simpa using h13)]
   rw [e]
   exact ⟨(none, 0), rfl, s.low, own_nil _ _ _ _⟩
 refine WC.skip' ?_
 refine WQ.next ?_
 refine WC.seq ?_
 refine WC.seq ?_
 have h0 : worldErr x = 0 := by simpa using h13
 obtain ⟨hl0, h60, hR, hsf, _⟩ := world_right h0
 have hlen : x.h.length = x.log.length := by simp [Wd.h]
 refine WC.region ?_
 refine pP (Y.fieldAddr fa_54_1 rfl) rfl ?_
 refine pV (Y.load fl_39 rfl m1 rfl) rfl ?_
 refine pM rfl rfl ?_
 refine WL.eff (E.call Try.call86 rfl (fun _ w s => w_rollOf x.log A b o c t w hm hcap (hr.below s.low)) rfl) rfl (fun _ => ?_)
 refine pM rfl rfl ?_
 refine pP (Y.extract rfl rfl) rfl ?_
 refine pP (Y.extract rfl rfl) rfl ?_
 refine WL.eff (E.alloc Try.zeroValue34 rfl rfl) rfl (fun b3 => ?_)
 refine WL.eff (E.store Try.sizeOf34 rfl rfl rfl rfl rfl u0 rfl rfl) rfl (fun _ => ?_)
 refine pA rfl rfl ?_
 refine nN ?_
 refine sR ?_
 refine pM rfl rfl ?_
 refine pP (Y.neq rfl rfl) rfl ?_
 refine nN ?_
 refine WC.cond rfl (fun h24 => ?_) (fun h24 => ?_)
 refine sR ?_
 refine pP (Y.build rfl (bf_54 )) rfl ?_
 refine pM rfl rfl ?_
 refine WL.eff (E.store Try.sizeOf54 rfl rfl rfl rfl rfl (by repeat (first | exact Upd.here | apply Upd.there)) rfl rfl) rfl (fun _ => ?_)
 refine pA rfl rfl ?_
 refine nN ?_
 refine WC.ret ?_
 refine WQ.thenRet ?_
 refine WQ.done Try.results89 (RVs.cons (RV.cell wd_54 rfl m1 rfl) (RVs.cons (RV.tmp rfl) RVs.nil)) (fun a w s => ?_)
 · have e : abortOf x t = (Wd.zero, (rollOf x.log t).2) := by
     unfold abortOf; rw [if_pos h0, if_neg (by simpa using h24)]
   rw [e]
   exact ⟨(none, 0), rfl, s.low, own_nil _ _ _ _⟩
 refine WC.skip' ?_
 refine WQ.next ?_
 refine WC.seq ?_
 have hro : (rollOf x.log t).2 = 0 := by simpa using h24
 obtain ⟨ht, hs⟩ := roll_ok hro
 refine WC.region ?_
 refine pV (Y.loadAN wd_54 rfl m2 (r := x.cl A c) rfl) rfl ?_
 refine WL.eff (E.retW x [] Try.call108 rfl (fun _ w s => w_ownWorld x A b o c w (by omega) (hr.below s.low)) rfl) rfl (fun i => ?_)
 refine WL.eff (E.alloc Try.zeroValue54 rfl rfl) rfl (fun b4 => ?_)
 refine WL.eff (E.store Try.sizeOf54 rfl rfl rfl rfl rfl u0 rfl rfl) rfl (fun _ => ?_)
 refine nN ?_
 refine WC.seq ?_
 refine WC.block ?_
 have ex : x = x.at x.h := by simp [Wd.at, Wd.h]
 refine WC.loop (ι := List R × Option Addr × Nat) (fun _ => [(0, x.val A c), (1, .int .i64 t), (2, .pointer (some ⟨b1, 0, none⟩)), (4, .pointer (some ⟨b2, 0, none⟩)), (9, .pointer (some ⟨b4, 0, none⟩))]) (fun k => [(b4, (x.at k.1).cl k.2.1 k.2.2, 54), (b3, (rollOf x.log t).1.cl, 34), (b2, Wd.zero.cl none 0, 54), (b1, x.cl A c, 54)]) (fun k => (SF.own w.heap.size 34 8 (.slice k.2.1 (x.at k.1).log.length k.2.2) (x.at k.1).log.length (flat (x.at k.1).log)).sep SF.top) (fun k => Right k.1 ∧ k.1.length ≤ 60 ∧ abortH (61 - x.log.length) x.h t = abortH (61 - k.1.length) k.1 t ∧ (stt k.1 t = 1 ∨ stt k.1 t = 3 ∨ stt k.1 t = 4)) (fun k => 61 - k.1.length) (x.h, i.1, i.2) ⟨hR, by show x.h.length ≤ 60; omega, by show _ = abortH (61 - x.h.length) x.h t; rw [hlen], hs.elim .inl (fun h => .inr (.inl h))⟩ (fun a w s => by dsimp only; rw [← ex]; exact s.weak (by repeat (first | exact sub_nil _ | refine sub_cons rfl ?_))) (fun k hk => ?_)
 obtain ⟨h, A9, c9⟩ := k
 obtain ⟨hRh, hle, habt, hst⟩ := hk
 dsimp only at hRh hle habt hst ⊢
 have hal : (x.at h).log.length = h.length := by simp [Wd.at]
 have har : (x.at h).log.reverse = h := by simp [Wd.at]
 refine WC.seq ?_
 refine sR ?_
 refine pP (Y.fieldAddr fa_54_1 rfl) rfl ?_
 refine pV (Y.load (v := .slice A9 (x.at h).log.length c9) fl_39 rfl m0 rfl) rfl ?_
 refine pM rfl rfl ?_
 refine WL.eff (E.call Try.call125 rfl (fun _ w s => (by have hh := w_state (x.at h).log A9 (gOf A9) 0 c9 t w (by omega) (own_RL s.fact.1); rw [har] at hh; exact hh)) rfl) rfl (fun _ => ?_)
 refine pP (Y.neq rfl rfl) rfl ?_
 refine nN ?_
 refine WC.cond rfl (fun h33 => ?_) (fun h33 => ?_)
 refine WC.skip' ?_
 refine WQ.next ?_
 refine WC.block ?_
 refine WC.seq ?_
 have h4 : stt h t ≠ 4 := by simp at h33; omega
 refine WC.region ?_
 refine pP (Y.fieldAddr fa_54_1 rfl) rfl ?_
 refine pV (Y.load (v := .slice A9 (x.at h).log.length c9) fl_39 rfl m0 rfl) rfl ?_
 refine pM rfl rfl ?_
 refine WL.eff (E.call Try.call142 rfl (fun _ w s => (by have hh := w_rolled (x.at h).log A9 (gOf A9) 0 c9 t w (by omega) (own_RL s.fact.1) (by rw [har]; exact hRh) (by rw [har]; exact h4); rw [har] at hh; exact hh)) rfl) rfl (fun _ => ?_)
 rcases Nat.lt_or_ge (h.length) 60 with hlt | hge
 refine WL.eff (E.putYes (A := A9) (c := c9) (r := undoB h t) (x.at h) rfl (by omega) (Hsub.refl _) rfl rfl rfl) rfl (fun j => ?_)
 refine pP (Y.not rfl) rfl ?_
 refine nN ?_
 refine WC.condF rfl ?_
 refine WC.skip' ?_
 refine WQ.blockEnd ?_
 · have hRu := right_undo hRh (by omega) ht (by omega)
   refine fun a w s => ⟨(undoB h t :: h, j.1, j.2), ⟨hRu, by simp; omega, ?_, ?_⟩, by simp; omega, ?_⟩
   · dsimp only
     rw [habt, show 61 - h.length = (60 - h.length) + 1 by omega, abortH, if_neg h4, List.length_cons, show 61 - (h.length + 1) = 60 - h.length by omega]
   · have := stt_undo hRu
     dsimp only
     omega
   · dsimp only
     rw [← at_more]
     exact s.weak (by repeat (first | exact sub_nil _ | refine sub_cons rfl ?_))
 refine WL.eff (E.putNo (A := A9) (c := c9) (r := undoB h t) (x.at h) rfl (by omega) (Hsub.refl _) rfl rfl rfl) rfl (fun _ => ?_)
 refine pP (Y.not rfl) rfl ?_
 refine nN ?_
 refine WC.condT rfl ?_
 refine sR ?_
 refine pP (Y.build rfl (bf_54 )) rfl ?_
 refine WL.eff (E.store Try.sizeOf54 rfl rfl rfl rfl rfl (by repeat (first | exact Upd.here | apply Upd.there)) rfl rfl) rfl (fun _ => ?_)
 refine pA rfl rfl ?_
 refine nN ?_
 refine WC.ret ?_
 refine WQ.blockRet ?_
 refine WQ.thenRet ?_
 refine WQ.blockRet ?_
 refine WQ.thenRet ?_
 refine WQ.done Try.results89 (RVs.cons (RV.cell wd_54 rfl m2 rfl) (RVs.cons (RV.tmp rfl) RVs.nil)) (fun a w s => ?_)
 · have e : abortOf x t = (Wd.zero, 2) := by
     unfold abortOf
     rw [if_pos h0, if_pos hro, habt, show 61 - h.length = 0 + 1 by omega, abortH, if_neg h4, abortH]
   rw [e]
   exact ⟨(none, 0), rfl, s.low, own_nil _ _ _ _⟩
 refine WC.exit ?_
 refine WQ.thenExit ?_
 refine WQ.thenExit ?_
 refine WQ.blockExit ?_
 refine WQ.next ?_
 refine sR ?_
 refine pV (Y.loadAN wd_54 rfl m0 (r := (x.at h).cl A9 c9) rfl) rfl ?_
 refine WL.eff (E.store Try.sizeOf54 rfl rfl rfl rfl rfl (by repeat (first | exact Upd.here | apply Upd.there)) rfl rfl) rfl (fun _ => ?_)
 refine pA rfl rfl ?_
 refine nN ?_
 refine WC.ret ?_
 refine WQ.done Try.results89 (RVs.cons (RV.cell wd_54 rfl m2 rfl) (RVs.cons (RV.tmp rfl) RVs.nil)) (fun a w s => ?_)
 · have h33 := h33
   have h4 : stt h t = 4 := by
     have h33 := h33
     simp at h33
     omega
   have e : abortOf x t = (x.at h, 0) := by
     unfold abortOf
     rw [if_pos h0, if_pos hro, habt, show 61 - h.length = (60 - h.length) + 1 by omega, abortH, if_pos h4]
     try rfl
   rw [e]
   exact ⟨(A9, c9), rfl, s.low, s.fact.1⟩
end Go.Proofs.Ytdbcimadjmdffaa
