/- The law FlushTrue. No condition. -/
import Derived.Test.YtdbcimadjmdffaaCe
import Derived.Test.YtdbcimadjmdffaaWl
import Derived.Test.YtdbcimadjmdffaaSe
set_option maxRecDepth 100000
set_option linter.unusedVariables false
set_option linter.unusedSimpArgs false
set_option linter.unusedSectionVars false
set_option maxHeartbeats 4000000
namespace Go.Proofs.Ytdbcimadjmdffaa
open Go.RowKit Go.Joins
theorem p3_page (p : P3) (i : Int) (hi : 0 ≤ i ∧ i ≤ 2) : seg p.cl (0 + i.toNat * 4) 4 = some (p.get i).cl := by
  have h1 : i = 0 ∨ i = 1 ∨ i = 2 := by omega
  rcases h1 with rfl | rfl | rfl <;> rfl
theorem disk_pg4 (x : Wd) (A : Option Addr) (c : Nat) (i : Int) (hi : 0 ≤ i ∧ i ≤ 2) : seg (x.cl A c) (0 + 0 + i.toNat * 4) 4 = some (x.disk.get i).cl := by
  have h1 : i = 0 ∨ i = 1 ∨ i = 2 := by omega
  rcases h1 with rfl | rfl | rfl <;> rfl

theorem w_FlushTrue (x : Wd) (A : Option Addr) (b o c : Nat) (n p : Int) (w : World) (hm : x.log.length ≤ maxLen) (hcap : x.log.length ≤ c) (hr : RL w A b o x.log) (hp : -9223372036854775808 ≤ p ∧ p ≤ 9223372036854775807) : Ret Try.prog 19 [x.val A c, .int .i64 n, .int .i64 p] w (.bool true) := by
 refine enter Try.func19 rfl Try.ntmps19 rfl SF.top trivial ?_
 refine sR ?_
 refine WL.eff (E.box rfl rfl rfl) rfl (fun b1 => ?_)
 refine pA rfl rfl ?_
 refine nN ?_
 refine sR ?_
 refine pV (Y.loadAN wd_54 rfl (by repeat (first | exact List.Mem.head _ | apply List.Mem.tail)) (r := (x).cl A c) rfl) rfl ?_
 refine pM rfl rfl ?_
 refine WL.eff (E.retW ((syncOf x n).1) [.int .i64 (syncOf x n).2] Try.call78 rfl (fun _ w s => w_flushSync x A b o c n w hm hcap (hr.below s.low)) rfl) rfl (fun i => ?_)
 refine pM rfl rfl ?_
 refine pP (Y.extract rfl rfl) rfl ?_
 refine pP (Y.extract rfl rfl) rfl ?_
 refine WL.eff (E.alloc Try.zeroValue54 rfl rfl) rfl (fun b2 => ?_)
 refine WL.eff (E.store Try.sizeOf54 rfl rfl rfl rfl rfl u0 rfl rfl) rfl (fun _ => ?_)
 refine pA rfl rfl ?_
 refine nN ?_
 refine WC.seq ?_
 refine sR ?_
 refine pM rfl rfl ?_
 refine pP (Y.neq rfl rfl) rfl ?_
 refine nN ?_
 refine WC.cond rfl (fun h23 => ?_) (fun h23 => ?_)
 refine sR ?_
 refine WL.eff (E.call Try.call82 rfl (fun _ w s => w_flushBegun w) rfl) rfl (fun _ => ?_)
 refine pA rfl rfl ?_
 refine nN ?_
 refine WC.ret ?_
 refine WQ.thenRet ?_
 refine dn1 Try.results19 rfl (fun a w s => ?_)
 · refine ⟨?_, s.low⟩
   clear s
   first
     | rfl
     | (rw [show (y.lay (chooseI p 3)).disk.get (chooseI p 3) = (pagesOf x.h).get (chooseI p 3) from (get_set _ hp2 _ hp2).trans (by rw [if_pos rfl, show y.h = x.h by unfold Wd.h; rw [yl]])]; simp [packed])
     | (simp only [packed]; simp_all)
 refine WC.skip' ?_
 refine WQ.next ?_
 obtain ⟨h0, hn, e, hy0⟩ := sync_ok (x := x) (n := n) (by simpa using h23)
 clear h23
 have hm1 := Int.le_max_left x.safe n
 have hm2 := Int.le_max_right x.safe n
 obtain ⟨y, hy⟩ : ∃ y : Wd, ({ x with safe := max x.safe n } : Wd) = y := ⟨_, rfl⟩
 have yl : y.log = x.log := by rw [← hy]
 have ys : y.safe = max x.safe n := by rw [← hy]
 rw [hy] at hy0 e
 rw [e]
 dsimp only
 have hs : (max x.safe n) = y.safe := ys.symm
 have hch := choose_bnd (c := p) (n := 3) (by omega)
 have hp2 : 0 ≤ (chooseI p 3) ∧ (chooseI p 3) ≤ 2 := by omega
 have hz0 := world_lay hy0 hp2
 have zl : (y.lay (chooseI p 3)).log = x.log := yl
 have n1 := now_ok h0
 have n2 : nowOf (y.lay (chooseI p 3)) = (pagesOf x.h, 0) := by rw [now_ok hz0]; show (pagesOf (y.lay (chooseI p 3)).log.reverse, 0) = _; rw [zl]; rfl
 have zs : y.safe ≤ (y.lay (chooseI p 3)).safe := Int.le_max_left _ _
 refine WC.cut (ι := (Option Addr × Nat) × Nat) (fun k => [(0, x.val A c), (1, .int .i64 n), (2, .int .i64 p), (3, .pointer (some ⟨b1, 0, none⟩)), (7, .pointer (some ⟨b2, 0, none⟩)), (9, .pointer (some ⟨k.2, 0, none⟩)), (10, .int .i64 0)]) (fun k => [(k.2, (y.lay (chooseI p 3)).cl k.1.1 k.1.2, 54), (b2, y.cl i.1 i.2, 54), (b1, x.cl A c, 54)]) (fun k => (SF.own w.heap.size 34 8 (.slice k.1.1 (y.lay (chooseI p 3)).log.length k.1.2) (y.lay (chooseI p 3)).log.length (flat (y.lay (chooseI p 3)).log)).sep ((SF.own w.heap.size 34 8 (.slice i.1 y.log.length i.2) y.log.length (flat y.log)).sep SF.top)) ?_ ?_
 refine WC.draw2 [(0, .q true), (1, .q false), (2, .q true), (3, .s false), (4, .q false), (5, .q false), (6, .q false), (7, .s false), (8, .s true), (9, .q false)] mixed ?_
 refine AD.quiet (i := 0) (imp := true) rfl (by kernel_rfl) (QS.val (Y.loadAN wd_54 rfl (by repeat (first | exact List.Mem.head _ | apply List.Mem.tail)) (r := (y).cl i.1 i.2) rfl) rfl rfl) rfl rfl rfl ?_
 refine AD.quiet (i := 1) (imp := false) rfl (by kernel_rfl) (QS.pure (Y.move rfl) rfl rfl) rfl rfl rfl ?_
 refine AD.quiet (i := 2) (imp := true) rfl (by kernel_rfl) (QS.call Try.call60 rfl (fun _ w s => w_choose p 3 w hp (by omega))) rfl rfl rfl ?_
 refine AD.two (i := 3) (j := 7) (by kernel_rfl) rfl rfl (WS.free rfl (E.retW (y.lay (chooseI p 3)) [.int .i64 0] Try.call79 rfl (fun _ w s => (by have hh := w_flushPage y i.1 (gOf i.1) 0 i.2 (chooseI p 3) w (own_max s.fact.1) (own_le s.fact.1) (own_RL s.fact.1); rw [flush_ok hy0 hp2] at hh; exact hh)) rfl)) (fun _ => ext_newN rfl) (WS.free rfl (E.alloc Try.zeroValue54 rfl rfl)) (fun _ => ext_new rfl) (fun j => ?_) (fun b3 => ?_)
 refine AD.list [(4, .q false), (5, .q false), (6, .q false), (7, .s false), (8, .s true), (9, .q false)] (by kernel_rfl) ?_
 refine dP (Y.move rfl) rfl rfl ?_
 refine dP (Y.extract rfl rfl) rfl rfl ?_
 refine dP (Y.extract rfl rfl) rfl rfl ?_
 refine WDm.spec (WS.free rfl (E.alloc Try.zeroValue54 rfl rfl)) (fun _ => ext_new rfl) (fun b3 => ?_)
 refine WDm.spec (WS.free rfl (E.store Try.sizeOf54 rfl rfl rfl rfl rfl u0 rfl rfl)) (fun _ => sub_refl _) (fun _ => ?_)
 refine dP (Y.assign rfl) rfl rfl ?_
 refine WDm.nil (WQ.and ?_)
 · exact fun a w s => ⟨rfl, (j, b3), s.weak (by repeat (first | exact sub_nil _ | refine sub_cons rfl ?_))⟩
 refine AD.list [(3, .s false), (4, .q false), (5, .q false), (6, .q false), (8, .s true), (9, .q false)] (by kernel_rfl) ?_
 refine WDm.spec (WS.free rfl (E.retW (y.lay (chooseI p 3)) [.int .i64 0] Try.call79 rfl (fun _ w s => (by have hh := w_flushPage y i.1 (gOf i.1) 0 i.2 (chooseI p 3) w (own_max s.fact.1) (own_le s.fact.1) (own_RL s.fact.1); rw [flush_ok hy0 hp2] at hh; exact hh)) rfl)) (fun _ => ext_newN rfl) (fun j => ?_)
 refine dP (Y.move rfl) rfl rfl ?_
 refine dP (Y.extract rfl rfl) rfl rfl ?_
 refine dP (Y.extract rfl rfl) rfl rfl ?_
 refine WDm.spec (WS.free rfl (E.store Try.sizeOf54 rfl rfl rfl rfl rfl u0 rfl rfl)) (fun _ => sub_refl _) (fun _ => ?_)
 refine dP (Y.assign rfl) rfl rfl ?_
 refine WDm.nil (WQ.and ?_)
 · exact fun a w s => ⟨rfl, (j, b3), s.weak (by repeat (first | exact sub_nil _ | refine sub_cons rfl ?_))⟩
 rintro ⟨j, b3⟩
 dsimp only
 refine sR ?_
 refine pV (Y.loadAN wd_54 rfl (by repeat (first | exact List.Mem.head _ | apply List.Mem.tail)) (r := (x).cl A c) rfl) rfl ?_
 refine WL.eff (E.call Try.call69 rfl (fun _ w s => w_worldNow x A b o c w hm hcap (hr.below s.low)) rfl) rfl (fun _ => ?_)
 refine pM rfl rfl ?_
 refine pP (Y.extract rfl rfl) rfl ?_
 refine pP (Y.extract rfl rfl) rfl ?_
 refine WL.eff (E.alloc Try.zeroValue42 rfl rfl) rfl (fun b4 => ?_)
 refine WL.eff (E.store Try.sizeOf42 rfl rfl rfl rfl rfl u0 rfl rfl) rfl (fun _ => ?_)
 refine pA rfl rfl ?_
 refine nN ?_
 refine sR ?_
 refine pV (Y.loadAN wd_54 rfl (by repeat (first | exact List.Mem.head _ | apply List.Mem.tail)) (r := (y.lay (chooseI p 3)).cl j.1 j.2) rfl) rfl ?_
 refine WL.eff (E.call Try.call69 rfl (fun _ w s => w_worldNow (y.lay (chooseI p 3)) j.1 (gOf j.1) 0 j.2 w (own_max s.fact.1) (own_le s.fact.1) (own_RL s.fact.1)) rfl) rfl (fun _ => ?_)
 refine pM rfl rfl ?_
 refine pP (Y.extract rfl rfl) rfl ?_
 refine pP (Y.extract rfl rfl) rfl ?_
 refine WL.eff (E.alloc Try.zeroValue42 rfl rfl) rfl (fun b5 => ?_)
 refine WL.eff (E.store Try.sizeOf42 rfl rfl rfl rfl rfl u0 rfl rfl) rfl (fun _ => ?_)
 refine pA rfl rfl ?_
 refine nN ?_
 refine WC.seq ?_
 refine WC.seq ?_
 rw [n1, n2]
 dsimp only
 refine WC.region ?_
 refine pM rfl rfl ?_
 refine pP (Y.neq rfl rfl) rfl ?_
 refine pM rfl rfl ?_
 refine WL.known (t := 44) (r := false) rfl (by first | rfl | simp) ?_
 refine gT rfl ?_
 refine pM rfl rfl ?_
 refine gT rfl ?_
 refine pP (Y.neq rfl rfl) rfl ?_
 refine pP (Y.pickF rfl rfl) rfl ?_
 refine pM rfl rfl ?_
 refine WL.known (t := 48) (r := false) rfl (by first | rfl | simp) ?_
 refine gT rfl ?_
 refine pM rfl rfl ?_
 refine gT rfl ?_
 refine pP (Y.neq rfl rfl) rfl ?_
 refine pP (Y.pickF rfl rfl) rfl ?_
 refine pM rfl rfl ?_
 refine WL.known (t := 52) (r := false) rfl (by first | rfl | simp) ?_
 refine gT rfl ?_
 refine pV (Y.loadA wd_42 rfl m1 rfl) rfl ?_
 refine gT rfl ?_
 refine pV (Y.loadA wd_42 rfl m0 rfl) rfl ?_
 refine gT rfl ?_
 refine pP (Y.neqA Try.eqGuardType42 rfl rfl (weq_pages _ _)) rfl ?_
 refine pP (Y.pickF rfl rfl) rfl ?_
 refine pM rfl rfl ?_
 refine WL.known (t := 57) (r := false) rfl (by first | rfl | simp) ?_
 refine gT rfl ?_
 refine pP (Y.fieldAddr fa_54_1 rfl) rfl ?_
 refine gT rfl ?_
 refine pV (Y.load (cs := (x).cl A c) (v := .slice A (x).log.length c) fl_39 rfl (by repeat (first | exact List.Mem.head _ | apply List.Mem.tail)) rfl) rfl ?_
 refine gT rfl ?_
 refine pP (Y.fieldAddr fa_54_1 rfl) rfl ?_
 refine gT rfl ?_
 refine pV (Y.load (cs := (y.lay (chooseI p 3)).cl j.1 j.2) (v := .slice j.1 (y.lay (chooseI p 3)).log.length j.2) fl_39 rfl (by repeat (first | exact List.Mem.head _ | apply List.Mem.tail)) rfl) rfl ?_
 refine gT rfl ?_
 refine WL.eff (E.call Try.call84 rfl (fun _ w s => w_sameLogs x.log (y.lay (chooseI p 3)).log A j.1 b o c (gOf j.1) 0 j.2 w hm (hr.below s.low) (own_RL s.fact.1)) rfl) rfl (fun _ => ?_)
 refine gT rfl ?_
 refine pP (Y.not rfl) rfl ?_
 refine pP (Y.pickF rfl rfl) rfl ?_
 refine pM rfl rfl ?_
 refine WL.known (t := 65) (r := false) rfl (by simp [zl]) ?_
 refine gT rfl ?_
 refine pP (Y.fieldAddr fa_54_2 rfl) rfl ?_
 refine gT rfl ?_
 refine pV (Y.load (cs := (y).cl i.1 i.2) (v := .int .i64 y.safe) fl_3 rfl (by repeat (first | exact List.Mem.head _ | apply List.Mem.tail)) rfl) rfl ?_
 refine gT rfl ?_
 refine pP (Y.fieldAddr fa_54_2 rfl) rfl ?_
 refine gT rfl ?_
 refine pV (Y.load (cs := (x).cl A c) (v := .int .i64 x.safe) fl_3 rfl (by repeat (first | exact List.Mem.head _ | apply List.Mem.tail)) rfl) rfl ?_
 refine gT rfl ?_
 refine pP (Y.lss rfl rfl) rfl ?_
 refine pP (Y.pickF rfl rfl) rfl ?_
 refine pM rfl rfl ?_
 refine WL.known (t := 72) (r := false) rfl (by simp; omega) ?_
 refine gT rfl ?_
 refine pP (Y.fieldAddr fa_54_2 rfl) rfl ?_
 refine gT rfl ?_
 refine pV (Y.load (cs := (y.lay (chooseI p 3)).cl j.1 j.2) (v := .int .i64 (y.lay (chooseI p 3)).safe) fl_3 rfl (by repeat (first | exact List.Mem.head _ | apply List.Mem.tail)) rfl) rfl ?_
 refine gT rfl ?_
 refine pP (Y.fieldAddr fa_54_2 rfl) rfl ?_
 refine gT rfl ?_
 refine pV (Y.load (cs := (y).cl i.1 i.2) (v := .int .i64 y.safe) fl_3 rfl (by repeat (first | exact List.Mem.head _ | apply List.Mem.tail)) rfl) rfl ?_
 refine gT rfl ?_
 refine pP (Y.lss rfl rfl) rfl ?_
 refine pP (Y.pickF rfl rfl) rfl ?_
 refine pM rfl rfl ?_
 refine WL.known (t := 79) (r := false) rfl (by simp; omega) ?_
 refine gT rfl ?_
 refine pP (Y.fieldAddr fa_54_2 rfl) rfl ?_
 refine gT rfl ?_
 refine pV (Y.load (cs := (y).cl i.1 i.2) (v := .int .i64 y.safe) fl_3 rfl (by repeat (first | exact List.Mem.head _ | apply List.Mem.tail)) rfl) rfl ?_
 refine gT rfl ?_
 refine pM rfl rfl ?_
 refine gT rfl ?_
 refine pP (Y.lss rfl rfl) rfl ?_
 refine pP (Y.pickF rfl rfl) rfl ?_
 refine pM rfl rfl ?_
 refine WL.known (t := 85) (r := false) rfl (by simp; omega) ?_
 refine gT rfl ?_
 refine pV (Y.loadAN wd_54 rfl (by repeat (first | exact List.Mem.head _ | apply List.Mem.tail)) (r := (y.lay (chooseI p 3)).cl j.1 j.2) rfl) rfl ?_
 refine gT rfl ?_
 refine WL.eff (E.call Try.call77 rfl (fun _ w s => w_worldCheck (y.lay (chooseI p 3)) j.1 (gOf j.1) 0 j.2 w (own_max s.fact.1) (own_le s.fact.1) (own_RL s.fact.1)) rfl) rfl (fun _ => ?_)
 refine gT rfl ?_
 refine pP (Y.neq rfl rfl) rfl ?_
 refine pP (Y.pickF rfl rfl) rfl ?_
 refine nN ?_
 refine WC.isF rfl (by rw [hz0]; rfl) ?_
 refine WC.skip' ?_
 refine WQ.next ?_
 refine WC.seq ?_
 refine sR ?_
 refine pA rfl rfl ?_
 refine nN ?_
 refine WC.block ?_
 refine WC.loop (ι := Int) (fun k => [(2, .int .i64 p), (9, .pointer (some ⟨b3, 0, none⟩)), (13, .pointer (some ⟨b5, 0, none⟩)), (15, .int .i64 k)]) (fun _ => [(b5, (pagesOf x.h).cl, 42), (b4, (pagesOf x.h).cl, 42), (b3, (y.lay (chooseI p 3)).cl j.1 j.2, 54), (b2, y.cl i.1 i.2, 54), (b1, x.cl A c, 54)]) (fun _ => (SF.own w.heap.size 34 8 (.slice j.1 (y.lay (chooseI p 3)).log.length j.2) (y.lay (chooseI p 3)).log.length (flat (y.lay (chooseI p 3)).log)).sep ((SF.own w.heap.size 34 8 (.slice i.1 y.log.length i.2) y.log.length (flat y.log)).sep SF.top)) (fun k => 0 ≤ k ∧ k ≤ 3) (fun k => (3 - k).toNat) 0 (by omega) (fun a w s => s.weak (by repeat (first | exact sub_nil _ | refine sub_cons rfl ?_))) (fun k hk => ?_)
 refine WC.seq ?_
 refine sR ?_
 refine pM rfl rfl ?_
 refine pP (Y.lss rfl rfl) rfl ?_
 refine nN ?_
 refine WC.cond rfl (fun h91 => ?_) (fun h91 => ?_)
 refine WC.skip' ?_
 refine WQ.next ?_
 refine WC.seq ?_
 refine WC.block ?_
 refine WC.seq ?_
 have hk2 : 0 ≤ k ∧ k ≤ 2 := by simp at h91; omega
 have hdk := (diskOk_iff.1 (disk_ok hz0 hk2)).1.2
 refine WC.draw [(0, .q false), (1, .q false), (2, .q false), (3, .q false), (4, .q true), (5, .q false), (6, .q true), (7, .q false)] mixed (by kernel_rfl) ?_
 refine dP (Y.move rfl) rfl rfl ?_
 refine dP (Y.fieldAddr fa_54_0 rfl) rfl rfl ?_
 refine dP (Y.ixArr Try.underlying42 Try.sizeOf24 rfl rfl hk2.1 (by omega)) rfl rfl ?_
 refine dP (Y.fieldAddr fa_24_1 rfl) rfl rfl ?_
 refine dV (Y.loadN (cs := (y.lay (chooseI p 3)).cl j.1 j.2) fl_3 rfl m2 (disk_cell (y.lay (chooseI p 3)) j.1 j.2 k hk2)) rfl rfl ?_
 refine dP (Y.fieldAddr fa_54_2 rfl) rfl rfl ?_
 refine dV (Y.load (cs := (y.lay (chooseI p 3)).cl j.1 j.2) (v := .int .i64 (y.lay (chooseI p 3)).safe) fl_3 rfl (by repeat (first | exact List.Mem.head _ | apply List.Mem.tail)) rfl) rfl rfl ?_
 refine dP (Y.gtr rfl rfl) rfl rfl ?_
 refine WDm.nil (WQ.and ?_)
 refine WQ.next ?_
 refine WC.isF rfl (by simp; omega) ?_
 refine WC.skip' ?_
 refine WQ.blockEnd ?_
 refine WQ.next ?_
 refine WC.region ?_
 refine pM rfl rfl ?_
 refine pP (Y.add rfl rfl (i64_in (by omega) (by omega))) rfl ?_
 refine pA rfl rfl ?_
 refine WL.nil ?_
 · exact fun a w s => ⟨k + 1, by omega, by omega, s.weak (by repeat (first | exact sub_nil _ | refine sub_cons rfl ?_))⟩
 refine WC.exit ?_
 refine WQ.thenExit ?_
 refine WQ.thenExit ?_
 refine WQ.blockExit ?_
 refine WQ.next ?_
 refine WC.seq ?_
 refine WC.draw [(0, .q true), (1, .q false), (2, .q false), (3, .q true), (4, .q false), (5, .q false), (6, .q true), (7, .q false), (8, .q true), (9, .q false), (10, .q true), (11, .q false), (12, .q false), (13, .q false)] mixed (by kernel_rfl) ?_
 refine WDm.quiet (QS.call Try.call82 rfl (fun _ w s => w_flushBegun w)) rfl rfl rfl ?_
 refine dP (Y.move rfl) rfl rfl ?_
 refine dPg rfl (Y.move rfl) rfl rfl rfl ?_
 refine WDm.quiet (QS.guardT rfl rfl rfl (QS.call Try.call60 rfl (fun _ w s => w_choose p 3 w hp (by omega)))) rfl rfl rfl ?_
 refine dPg rfl (Y.fieldAddr fa_54_0 rfl) rfl rfl rfl ?_
 refine dPg rfl (Y.ixArr Try.underlying42 Try.sizeOf24 rfl rfl hp2.1 (by omega)) rfl rfl rfl ?_
 refine dVg rfl (Y.loadAN wd_24 rfl m2 (disk_pg4 (y.lay (chooseI p 3)) j.1 j.2 (chooseI p 3) hp2)) rfl rfl rfl ?_
 refine dPg rfl (Y.move rfl) rfl rfl rfl ?_
 refine WDm.quiet (QS.guardT rfl rfl rfl (QS.call Try.call60 rfl (fun _ w s => w_choose p 3 w hp (by omega)))) rfl rfl rfl ?_
 refine dPg rfl (Y.ixArr Try.underlying42 Try.sizeOf24 rfl rfl hp2.1 (by omega)) rfl rfl rfl ?_
 refine dVg rfl (Y.loadAN wd_24 rfl m0 (p3_page (pagesOf x.h) (chooseI p 3) hp2)) rfl rfl rfl ?_
 refine dPg rfl (Y.eqlA Try.eqGuardType24 rfl rfl (weq_page ((y.lay (chooseI p 3)).disk.get (chooseI p 3)) ((pagesOf x.h).get (chooseI p 3)))) rfl rfl rfl ?_
 refine dP (Y.pickT rfl rfl) rfl rfl ?_
 refine dP (Y.assign rfl) rfl rfl ?_
 refine WDm.nil (WQ.and ?_)
 refine WQ.next ?_
 refine WC.ret ?_
 refine dn1 Try.results19 rfl (fun a w s => ?_)
 · refine ⟨?_, s.low⟩
   clear s
   first
     | rfl
     | (rw [show (y.lay (chooseI p 3)).disk.get (chooseI p 3) = (pagesOf x.h).get (chooseI p 3) from (get_set _ hp2 _ hp2).trans (by rw [if_pos rfl, show y.h = x.h by unfold Wd.h; rw [yl]])]; simp [packed])
     | (simp only [packed]; simp_all)
end Go.Proofs.Ytdbcimadjmdffaa
