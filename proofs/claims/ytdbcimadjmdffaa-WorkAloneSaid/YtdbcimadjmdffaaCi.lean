/- The law WorkAlone. No condition. -/
import Derived.Test.YtdbcimadjmdffaaCd
import Derived.Test.YtdbcimadjmdffaaWl
set_option maxRecDepth 100000
set_option linter.unusedVariables false
set_option linter.unusedSimpArgs false
set_option linter.unusedSectionVars false
set_option maxHeartbeats 4000000
namespace Go.Proofs.Ytdbcimadjmdffaa
open Go.RowKit Go.Joins
theorem log_right_w {x : Wd} (h : worldErr x = 0) : logErr x.log = 0 := (world_right h).1
theorem alone_w {x : Wd} {t p q v u : Int} (hu : u ≠ t) (h : (writeTo x t p q v).2 = 0) : logState (writeTo x t p q v).1.log u = logState x.log u := by
  obtain ⟨h0, hb, _, _, _, e, _, hw⟩ := write_ok h
  rw [e]
  refine state_same (g := [wrOf x t p q v]) (t := t) (log_right_w h0) (log_right_w hw) (by simp [Wd.more]) (fun r hr => ?_) hu
  rw [List.mem_singleton.1 hr]
  rfl
theorem alone_c {x : Wd} {t u : Int} (hu : u ≠ t) (h : (commitOf x t).2 = 0) : logState (commitOf x t).1.log u = logState x.log u := by
  obtain ⟨h0, _, _, _, e, _, _, hw⟩ := commit_ok h
  rw [e]
  refine state_same (g := [enR t ((x.log.length : Int) + 1), cmR t (lastN x.h t)]) (t := t) (log_right_w h0) (log_right_w hw) (com_h x t) (fun r hr => ?_) hu
  simp only [List.mem_cons, List.not_mem_nil, or_false] at hr
  rcases hr with rfl | rfl <;> rfl
theorem alone_a {x : Wd} {t u : Int} (hu : u ≠ t) (h : (abortOf x t).2 = 0) : logState (abortOf x t).1.log u = logState x.log u := by
  obtain ⟨h0, _, _, g, e, _, _, _, hg, hw⟩ := abort_ok h
  rw [e]
  exact state_same (g := g) (t := t) (log_right_w h0) (log_right_w hw) (at_h x _) (fun r hr => (hg r hr).1) hu

theorem w_WorkAlone (x : Wd) (A : Option Addr) (b o c : Nat) (t p q v u : Int) (w : World) (hm : x.log.length ≤ maxLen) (hcap : x.log.length ≤ c) (hr : RL w A b o x.log) (hu9 : -9223372036854775808 ≤ u ∧ u ≤ 9223372036854775807) : Ret Try.prog 29 [x.val A c, .int .i64 t, .int .i64 p, .int .i64 q, .int .i64 v, .int .i64 u] w (.bool true) := by
 have hch := choose_bnd (c := u) (n := 9) (by omega)
 refine enter Try.func29 rfl Try.ntmps29 rfl SF.top trivial ?_
 refine sR ?_
 refine WL.eff (E.box rfl rfl rfl) rfl (fun b1 => ?_)
 refine pA rfl rfl ?_
 refine nN ?_
 refine sR ?_
 refine pM rfl rfl ?_
 refine WL.eff (E.call Try.call60 rfl (fun _ w s => w_choose u 9 w hu9 (by omega)) rfl) rfl (fun _ => ?_)
 refine pP (Y.add rfl rfl (i64_in (by omega) (by omega))) rfl ?_
 refine pA rfl rfl ?_
 refine nN ?_
 refine sR ?_
 refine pP (Y.fieldAddr fa_54_1 rfl) rfl ?_
 refine pV (Y.load (cs := (x).cl A c) (v := .slice A (x).log.length c) fl_39 rfl (by repeat (first | exact List.Mem.head _ | apply List.Mem.tail)) rfl) rfl ?_
 refine pM rfl rfl ?_
 refine WL.eff (E.call Try.call58 rfl (fun _ w s => w_logState x.log A b o c (1 + chooseI u 9) w (hr.below s.low)) rfl) rfl (fun _ => ?_)
 refine pM rfl rfl ?_
 refine pP (Y.extract rfl rfl) rfl ?_
 refine pP (Y.extract rfl rfl) rfl ?_
 refine pP (Y.extract rfl rfl) rfl ?_
 refine pA rfl rfl ?_
 refine pA rfl rfl ?_
 refine pA rfl rfl ?_
 refine nN ?_
 refine sR ?_
 refine pV (Y.loadAN wd_54 rfl (by repeat (first | exact List.Mem.head _ | apply List.Mem.tail)) (r := (x).cl A c) rfl) rfl ?_
 refine pM rfl rfl ?_
 refine pM rfl rfl ?_
 refine pM rfl rfl ?_
 refine pM rfl rfl ?_
 refine WL.eff (E.retW ((writeTo x t p q v).1) [.int .i64 (writeTo x t p q v).2] Try.call90 rfl (fun _ w s => w_workWrite x A b o c t p q v w hm hcap (hr.below s.low)) rfl) rfl (fun i => ?_)
 refine pM rfl rfl ?_
 refine pP (Y.extract rfl rfl) rfl ?_
 refine pP (Y.extract rfl rfl) rfl ?_
 refine WL.eff (E.alloc Try.zeroValue54 rfl rfl) rfl (fun b2 => ?_)
 refine WL.eff (E.store Try.sizeOf54 rfl rfl rfl rfl rfl u0 rfl rfl) rfl (fun _ => ?_)
 refine pA rfl rfl ?_
 refine nN ?_
 refine sR ?_
 refine pV (Y.loadAN wd_54 rfl (by repeat (first | exact List.Mem.head _ | apply List.Mem.tail)) (r := (x).cl A c) rfl) rfl ?_
 refine pM rfl rfl ?_
 refine WL.eff (E.retW ((abortOf x t).1) [.int .i64 (abortOf x t).2] Try.call88 rfl (fun _ w s => w_rollAbort x A b o c t w hm hcap (hr.below s.low)) rfl) rfl (fun j => ?_)
 refine pM rfl rfl ?_
 refine pP (Y.extract rfl rfl) rfl ?_
 refine pP (Y.extract rfl rfl) rfl ?_
 refine WL.eff (E.alloc Try.zeroValue54 rfl rfl) rfl (fun b3 => ?_)
 refine WL.eff (E.store Try.sizeOf54 rfl rfl rfl rfl rfl u0 rfl rfl) rfl (fun _ => ?_)
 refine pA rfl rfl ?_
 refine nN ?_
 refine sR ?_
 refine pV (Y.loadAN wd_54 rfl (by repeat (first | exact List.Mem.head _ | apply List.Mem.tail)) (r := (x).cl A c) rfl) rfl ?_
 refine pM rfl rfl ?_
 refine WL.eff (E.retW ((commitOf x t).1) [.int .i64 (commitOf x t).2] Try.call62 rfl (fun _ w s => w_workCommit x A b o c t w hm hcap (hr.below s.low)) rfl) rfl (fun m => ?_)
 refine pM rfl rfl ?_
 refine pP (Y.extract rfl rfl) rfl ?_
 refine pP (Y.extract rfl rfl) rfl ?_
 refine WL.eff (E.alloc Try.zeroValue54 rfl rfl) rfl (fun b4 => ?_)
 refine WL.eff (E.store Try.sizeOf54 rfl rfl rfl rfl rfl u0 rfl rfl) rfl (fun _ => ?_)
 refine pA rfl rfl ?_
 refine nN ?_
 refine WC.seq ?_
 refine sR ?_
 refine pM rfl rfl ?_
 refine pP (Y.neq rfl rfl) rfl ?_
 refine pM rfl rfl ?_
 refine WL.split (t := 63) rfl (fun r h63 => ?_)
 cases r
 refine gT rfl ?_
 refine pM rfl rfl ?_
 refine gT rfl ?_
 refine pM rfl rfl ?_
 refine gT rfl ?_
 refine pP (Y.eql rfl rfl) rfl ?_
 refine pP (Y.pickF rfl rfl) rfl ?_
 refine nN ?_
 refine WC.cond rfl (fun h67 => ?_) (fun h67 => ?_)
 refine sR ?_
 refine WL.eff (E.call Try.call92 rfl (fun _ w s => w_workBegun w) rfl) rfl (fun _ => ?_)
 refine pA rfl rfl ?_
 refine nN ?_
 refine WC.ret ?_
 refine WQ.thenRet ?_
 refine dn1 Try.results29 rfl (fun a w s => ?_)
 · refine ⟨?_, s.low⟩
   rfl
 refine WC.skip' ?_
 refine WQ.next ?_
 refine WC.seq ?_
 have hne : (1 + chooseI u 9) ≠ t := by simpa using h67
 have hs0 : (logState x.log (1 + chooseI u 9)).2.2 = 0 := by simpa using h63
 refine WC.region ?_
 refine pV (Y.loadAN wd_54 rfl (by repeat (first | exact List.Mem.head _ | apply List.Mem.tail)) (r := ((writeTo x t p q v).1).cl i.1 i.2) rfl) rfl ?_
 refine pV (Y.loadAN wd_54 rfl (by repeat (first | exact List.Mem.head _ | apply List.Mem.tail)) (r := ((abortOf x t).1).cl j.1 j.2) rfl) rfl ?_
 refine pV (Y.loadAN wd_54 rfl (by repeat (first | exact List.Mem.head _ | apply List.Mem.tail)) (r := ((commitOf x t).1).cl m.1 m.2) rfl) rfl ?_
 refine WL.eff (E.buildSlice (bs_86_3 _ _ _ _ _ _ _ _ _ _ _ _ _ _ _ _ _ _ _ _ _ _ _ _ _ _ _ _ _ _ _ _ _ _ _ _ _ _ _ _ _ _ _ _ _ _ _ _) rfl rfl) rfl (fun b5 => ?_)
 refine pA rfl rfl ?_
 refine nN ?_
 refine sR ?_
 refine pM rfl rfl ?_
 refine pM rfl rfl ?_
 refine pM rfl rfl ?_
 refine WL.eff (E.buildSlice (bs_87_3 _ _ _) rfl rfl) rfl (fun b6 => ?_)
 refine pA rfl rfl ?_
 refine nN ?_
 refine WC.seq ?_
 refine sR ?_
 refine pA rfl rfl ?_
 refine nN ?_
 refine WC.block ?_
 refine WC.loop (ι := Int) (fun k => [(13, .int .i64 (1 + chooseI u 9)), (14, .int .i64 (logState x.log (1 + chooseI u 9)).1), (15, .int .i64 (logState x.log (1 + chooseI u 9)).2.1), (23, .slice (some ⟨b5, 0, none⟩) 3 3), (24, .slice (some ⟨b6, 0, none⟩) 3 3), (25, .int .i64 k)]) (fun _ => [(b6, [.int .i64 (writeTo x t p q v).2, .int .i64 (abortOf x t).2, .int .i64 (commitOf x t).2], 25), (b5, ((writeTo x t p q v).1).cl i.1 i.2 ++ ((abortOf x t).1).cl j.1 j.2 ++ ((commitOf x t).1).cl m.1 m.2, 54), (b4, ((commitOf x t).1).cl m.1 m.2, 54), (b3, ((abortOf x t).1).cl j.1 j.2, 54), (b2, ((writeTo x t p q v).1).cl i.1 i.2, 54), (b1, x.cl A c, 54)]) (fun _ => (SF.own w.heap.size 34 8 (.slice m.1 ((commitOf x t).1).log.length m.2) ((commitOf x t).1).log.length (flat ((commitOf x t).1).log)).sep ((SF.own w.heap.size 34 8 (.slice j.1 ((abortOf x t).1).log.length j.2) ((abortOf x t).1).log.length (flat ((abortOf x t).1).log)).sep ((SF.own w.heap.size 34 8 (.slice i.1 ((writeTo x t p q v).1).log.length i.2) ((writeTo x t p q v).1).log.length (flat ((writeTo x t p q v).1).log)).sep (SF.top)))) (fun k => 0 ≤ k ∧ k ≤ 3) (fun k => (3 - k).toNat) 0 (by omega) (fun a w s => s.weak (by repeat (first | exact sub_nil _ | refine sub_cons rfl ?_))) (fun k hk => ?_)
 refine WC.seq ?_
 refine sR ?_
 refine pM rfl rfl ?_
 have hk4 : k = 0 ∨ k = 1 ∨ k = 2 ∨ k = 3 := by omega
 rcases hk4 with rfl | rfl | rfl | rfl
 refine pM rfl rfl ?_
 refine pP (Y.len Try.underlying86 rfl) rfl ?_
 refine pP (Y.lss rfl rfl) rfl ?_
 refine nN ?_
 refine WC.isT rfl (by decide) ?_
 refine WC.skip' ?_
 refine WQ.next ?_
 refine WC.seq ?_
 refine WC.block ?_
 refine WC.seq ?_
 refine sR ?_
 refine pM rfl rfl ?_
 refine pM rfl rfl ?_
 refine pP (Y.ixSl Try.underlying87 Try.sizeOf25 rfl rfl (by decide) (by decide)) rfl ?_
 refine pV (Y.load (v := .int .i64 (writeTo x t p q v).2) fl_25 rfl (by repeat (first | exact List.Mem.head _ | apply List.Mem.tail)) rfl) rfl ?_
 refine pP (Y.neq rfl rfl) rfl ?_
 refine nN ?_
 refine WC.cond rfl (fun h87 => ?_) (fun h87 => ?_)
 refine WC.exit ?_
 refine WQ.thenExit ?_
 refine WQ.blockExit ?_
 refine WQ.next ?_
 refine WC.region ?_
 refine pM rfl rfl ?_
 refine pP (Y.add rfl rfl (i64_in (by omega) (by omega))) rfl ?_
 refine pA rfl rfl ?_
 refine WL.nil ?_
 · exact fun a w s => ⟨1, by omega, by omega, s.weak (by repeat (first | exact sub_nil _ | refine sub_cons rfl ?_))⟩
 refine WC.skip' ?_
 refine WQ.next ?_
 refine WC.seq ?_
 have hal := alone_w (x := x) (t := t) hne (by simpa using h87)
 refine WC.region ?_
 refine pM rfl rfl ?_
 refine pM rfl rfl ?_
 refine pP (Y.ixSl Try.underlying86 Try.sizeOf54 rfl rfl (by decide) (by decide)) rfl ?_
 refine pP (Y.fieldAddr fa_54_1 rfl) rfl ?_
 refine pV (Y.load (v := .slice i.1 ((writeTo x t p q v).1).log.length i.2) fl_39 rfl (by repeat (first | exact List.Mem.head _ | apply List.Mem.tail)) rfl) rfl ?_
 refine pM rfl rfl ?_
 refine WL.eff (E.call Try.call58 rfl (fun _ w s => w_logState ((writeTo x t p q v).1).log i.1 (gOf i.1) 0 i.2 (1 + chooseI u 9) w (own_RL s.fact.2.1.2.1.1)) rfl) rfl (fun _ => ?_)
 refine pM rfl rfl ?_
 refine pP (Y.extract rfl rfl) rfl ?_
 refine pP (Y.extract rfl rfl) rfl ?_
 refine pP (Y.extract rfl rfl) rfl ?_
 refine pA rfl rfl ?_
 refine pA rfl rfl ?_
 refine pA rfl rfl ?_
 refine nN ?_
 refine sR ?_
 refine pM rfl rfl ?_
 refine pP (Y.neq rfl rfl) rfl ?_
 refine pM rfl rfl ?_
 refine WL.known (t := 101) (r := false) rfl (by rw [hal, hs0]; rfl) ?_
 refine gT rfl ?_
 refine pM rfl rfl ?_
 refine gT rfl ?_
 refine pM rfl rfl ?_
 refine gT rfl ?_
 refine pP (Y.neq rfl rfl) rfl ?_
 refine pP (Y.pickF rfl rfl) rfl ?_
 refine pM rfl rfl ?_
 refine WL.known (t := 106) (r := false) rfl (by rw [hal]; simp) ?_
 refine gT rfl ?_
 refine pM rfl rfl ?_
 refine gT rfl ?_
 refine pM rfl rfl ?_
 refine gT rfl ?_
 refine pP (Y.neq rfl rfl) rfl ?_
 refine pP (Y.pickF rfl rfl) rfl ?_
 refine nN ?_
 refine WC.isF rfl (by rw [hal]; simp) ?_
 refine WC.skip' ?_
 refine WQ.blockEnd ?_
 refine WQ.next ?_
 refine WC.region ?_
 refine pM rfl rfl ?_
 refine pP (Y.add rfl rfl (i64_in (by omega) (by omega))) rfl ?_
 refine pA rfl rfl ?_
 refine WL.nil ?_
 · exact fun a w s => ⟨1, by omega, by omega, s.weak (by repeat (first | exact sub_nil _ | refine sub_cons rfl ?_))⟩
 refine pM rfl rfl ?_
 refine pP (Y.len Try.underlying86 rfl) rfl ?_
 refine pP (Y.lss rfl rfl) rfl ?_
 refine nN ?_
 refine WC.isT rfl (by decide) ?_
 refine WC.skip' ?_
 refine WQ.next ?_
 refine WC.seq ?_
 refine WC.block ?_
 refine WC.seq ?_
 refine sR ?_
 refine pM rfl rfl ?_
 refine pM rfl rfl ?_
 refine pP (Y.ixSl Try.underlying87 Try.sizeOf25 rfl rfl (by decide) (by decide)) rfl ?_
 refine pV (Y.load (v := .int .i64 (abortOf x t).2) fl_25 rfl (by repeat (first | exact List.Mem.head _ | apply List.Mem.tail)) rfl) rfl ?_
 refine pP (Y.neq rfl rfl) rfl ?_
 refine nN ?_
 refine WC.cond rfl (fun h87 => ?_) (fun h87 => ?_)
 refine WC.exit ?_
 refine WQ.thenExit ?_
 refine WQ.blockExit ?_
 refine WQ.next ?_
 refine WC.region ?_
 refine pM rfl rfl ?_
 refine pP (Y.add rfl rfl (i64_in (by omega) (by omega))) rfl ?_
 refine pA rfl rfl ?_
 refine WL.nil ?_
 · exact fun a w s => ⟨2, by omega, by omega, s.weak (by repeat (first | exact sub_nil _ | refine sub_cons rfl ?_))⟩
 refine WC.skip' ?_
 refine WQ.next ?_
 refine WC.seq ?_
 have hal := alone_a (x := x) (t := t) hne (by simpa using h87)
 refine WC.region ?_
 refine pM rfl rfl ?_
 refine pM rfl rfl ?_
 refine pP (Y.ixSl Try.underlying86 Try.sizeOf54 rfl rfl (by decide) (by decide)) rfl ?_
 refine pP (Y.fieldAddr fa_54_1 rfl) rfl ?_
 refine pV (Y.load (v := .slice j.1 ((abortOf x t).1).log.length j.2) fl_39 rfl (by repeat (first | exact List.Mem.head _ | apply List.Mem.tail)) rfl) rfl ?_
 refine pM rfl rfl ?_
 refine WL.eff (E.call Try.call58 rfl (fun _ w s => w_logState ((abortOf x t).1).log j.1 (gOf j.1) 0 j.2 (1 + chooseI u 9) w (own_RL s.fact.2.1.1)) rfl) rfl (fun _ => ?_)
 refine pM rfl rfl ?_
 refine pP (Y.extract rfl rfl) rfl ?_
 refine pP (Y.extract rfl rfl) rfl ?_
 refine pP (Y.extract rfl rfl) rfl ?_
 refine pA rfl rfl ?_
 refine pA rfl rfl ?_
 refine pA rfl rfl ?_
 refine nN ?_
 refine sR ?_
 refine pM rfl rfl ?_
 refine pP (Y.neq rfl rfl) rfl ?_
 refine pM rfl rfl ?_
 refine WL.known (t := 101) (r := false) rfl (by rw [hal, hs0]; rfl) ?_
 refine gT rfl ?_
 refine pM rfl rfl ?_
 refine gT rfl ?_
 refine pM rfl rfl ?_
 refine gT rfl ?_
 refine pP (Y.neq rfl rfl) rfl ?_
 refine pP (Y.pickF rfl rfl) rfl ?_
 refine pM rfl rfl ?_
 refine WL.known (t := 106) (r := false) rfl (by rw [hal]; simp) ?_
 refine gT rfl ?_
 refine pM rfl rfl ?_
 refine gT rfl ?_
 refine pM rfl rfl ?_
 refine gT rfl ?_
 refine pP (Y.neq rfl rfl) rfl ?_
 refine pP (Y.pickF rfl rfl) rfl ?_
 refine nN ?_
 refine WC.isF rfl (by rw [hal]; simp) ?_
 refine WC.skip' ?_
 refine WQ.blockEnd ?_
 refine WQ.next ?_
 refine WC.region ?_
 refine pM rfl rfl ?_
 refine pP (Y.add rfl rfl (i64_in (by omega) (by omega))) rfl ?_
 refine pA rfl rfl ?_
 refine WL.nil ?_
 · exact fun a w s => ⟨2, by omega, by omega, s.weak (by repeat (first | exact sub_nil _ | refine sub_cons rfl ?_))⟩
 refine pM rfl rfl ?_
 refine pP (Y.len Try.underlying86 rfl) rfl ?_
 refine pP (Y.lss rfl rfl) rfl ?_
 refine nN ?_
 refine WC.isT rfl (by decide) ?_
 refine WC.skip' ?_
 refine WQ.next ?_
 refine WC.seq ?_
 refine WC.block ?_
 refine WC.seq ?_
 refine sR ?_
 refine pM rfl rfl ?_
 refine pM rfl rfl ?_
 refine pP (Y.ixSl Try.underlying87 Try.sizeOf25 rfl rfl (by decide) (by decide)) rfl ?_
 refine pV (Y.load (v := .int .i64 (commitOf x t).2) fl_25 rfl (by repeat (first | exact List.Mem.head _ | apply List.Mem.tail)) rfl) rfl ?_
 refine pP (Y.neq rfl rfl) rfl ?_
 refine nN ?_
 refine WC.cond rfl (fun h87 => ?_) (fun h87 => ?_)
 refine WC.exit ?_
 refine WQ.thenExit ?_
 refine WQ.blockExit ?_
 refine WQ.next ?_
 refine WC.region ?_
 refine pM rfl rfl ?_
 refine pP (Y.add rfl rfl (i64_in (by omega) (by omega))) rfl ?_
 refine pA rfl rfl ?_
 refine WL.nil ?_
 · exact fun a w s => ⟨3, by omega, by omega, s.weak (by repeat (first | exact sub_nil _ | refine sub_cons rfl ?_))⟩
 refine WC.skip' ?_
 refine WQ.next ?_
 refine WC.seq ?_
 have hal := alone_c (x := x) (t := t) hne (by simpa using h87)
 refine WC.region ?_
 refine pM rfl rfl ?_
 refine pM rfl rfl ?_
 refine pP (Y.ixSl Try.underlying86 Try.sizeOf54 rfl rfl (by decide) (by decide)) rfl ?_
 refine pP (Y.fieldAddr fa_54_1 rfl) rfl ?_
 refine pV (Y.load (v := .slice m.1 ((commitOf x t).1).log.length m.2) fl_39 rfl (by repeat (first | exact List.Mem.head _ | apply List.Mem.tail)) rfl) rfl ?_
 refine pM rfl rfl ?_
 refine WL.eff (E.call Try.call58 rfl (fun _ w s => w_logState ((commitOf x t).1).log m.1 (gOf m.1) 0 m.2 (1 + chooseI u 9) w (own_RL s.fact.1)) rfl) rfl (fun _ => ?_)
 refine pM rfl rfl ?_
 refine pP (Y.extract rfl rfl) rfl ?_
 refine pP (Y.extract rfl rfl) rfl ?_
 refine pP (Y.extract rfl rfl) rfl ?_
 refine pA rfl rfl ?_
 refine pA rfl rfl ?_
 refine pA rfl rfl ?_
 refine nN ?_
 refine sR ?_
 refine pM rfl rfl ?_
 refine pP (Y.neq rfl rfl) rfl ?_
 refine pM rfl rfl ?_
 refine WL.known (t := 101) (r := false) rfl (by rw [hal, hs0]; rfl) ?_
 refine gT rfl ?_
 refine pM rfl rfl ?_
 refine gT rfl ?_
 refine pM rfl rfl ?_
 refine gT rfl ?_
 refine pP (Y.neq rfl rfl) rfl ?_
 refine pP (Y.pickF rfl rfl) rfl ?_
 refine pM rfl rfl ?_
 refine WL.known (t := 106) (r := false) rfl (by rw [hal]; simp) ?_
 refine gT rfl ?_
 refine pM rfl rfl ?_
 refine gT rfl ?_
 refine pM rfl rfl ?_
 refine gT rfl ?_
 refine pP (Y.neq rfl rfl) rfl ?_
 refine pP (Y.pickF rfl rfl) rfl ?_
 refine nN ?_
 refine WC.isF rfl (by rw [hal]; simp) ?_
 refine WC.skip' ?_
 refine WQ.blockEnd ?_
 refine WQ.next ?_
 refine WC.region ?_
 refine pM rfl rfl ?_
 refine pP (Y.add rfl rfl (i64_in (by omega) (by omega))) rfl ?_
 refine pA rfl rfl ?_
 refine WL.nil ?_
 · exact fun a w s => ⟨3, by omega, by omega, s.weak (by repeat (first | exact sub_nil _ | refine sub_cons rfl ?_))⟩
 refine pM rfl rfl ?_
 refine pP (Y.len Try.underlying86 rfl) rfl ?_
 refine pP (Y.lss rfl rfl) rfl ?_
 refine nN ?_
 refine WC.isF rfl (by decide) ?_
 refine WC.exit ?_
 refine WQ.thenExit ?_
 refine WQ.thenExit ?_
 refine WQ.blockExit ?_
 refine WQ.next ?_
 refine sR ?_
 refine WL.eff (E.call Try.call92 rfl (fun _ w s => w_workBegun w) rfl) rfl (fun _ => ?_)
 refine pA rfl rfl ?_
 refine nN ?_
 refine WC.ret ?_
 refine dn1 Try.results29 rfl (fun a w s => ?_)
 · refine ⟨?_, s.low⟩
   rfl
 refine gF rfl ?_
 refine gF rfl ?_
 refine gF rfl ?_
 refine pP (Y.pickT rfl rfl) rfl ?_
 refine nN ?_
 refine WC.condT rfl ?_
 refine sR ?_
 refine WL.eff (E.call Try.call92 rfl (fun _ w s => w_workBegun w) rfl) rfl (fun _ => ?_)
 refine pA rfl rfl ?_
 refine nN ?_
 refine WC.ret ?_
 refine WQ.thenRet ?_
 refine dn1 Try.results29 rfl (fun a w s => ?_)
 · refine ⟨?_, s.low⟩
   rfl
end Go.Proofs.Ytdbcimadjmdffaa
