/- The law WorkTrue. No condition. -/
import Derived.Test.YtdbcimadjmdffaaCc
import Derived.Test.YtdbcimadjmdffaaWl
set_option maxRecDepth 100000
set_option linter.unusedVariables false
set_option linter.unusedSimpArgs false
set_option linter.unusedSectionVars false
set_option maxHeartbeats 4000000
namespace Go.Proofs.Ytdbcimadjmdffaa
open Go.RowKit Go.Joins
theorem true_page {x : Wd} {t p q v : Int} (hb : (1 ≤ t ∧ t ≤ 9) ∧ (0 ≤ p ∧ p ≤ 2) ∧ (0 ≤ q ∧ q ≤ 2) ∧ (0 ≤ v ∧ v ≤ 99)) : (pagesOf x.h).set p (((pagesOf x.h).get p).put q v ((x.more (wrOf x t p q v)).log.length : Nat)) = pagesOf (x.more (wrOf x t p q v)).h := by
  rw [h_more, pages_turn (r := wrOf x t p q v) (by simp [R.turns, wrOf, wrR])]
  have e : ((x.more (wrOf x t p q v)).log.length : Int) = ((x.h.length + 1 : Nat) : Int) := by simp [Wd.more, hlen]
  rw [e]
  rfl

theorem w_WorkTrue (x : Wd) (A : Option Addr) (b o c : Nat) (t p q v : Int) (w : World) (hm : x.log.length ≤ maxLen) (hcap : x.log.length ≤ c) (hr : RL w A b o x.log) : Ret Try.prog 28 [x.val A c, .int .i64 t, .int .i64 p, .int .i64 q, .int .i64 v] w (.bool true) := by
 refine enter Try.func28 rfl Try.ntmps28 rfl SF.top trivial ?_
 refine sR ?_
 refine WL.eff (E.box rfl rfl rfl) rfl (fun b1 => ?_)
 refine pA rfl rfl ?_
 refine nN ?_
 refine sR ?_
 refine pV (Y.loadAN wd_54 rfl (by repeat (first | exact List.Mem.head _ | apply List.Mem.tail)) (r := (x).cl A c) rfl) rfl ?_
 refine pM rfl rfl ?_
 refine pM rfl rfl ?_
 refine pM rfl rfl ?_
 refine pM rfl rfl ?_
 refine WL.eff (E.retW ((writeTo x t p q v).1) [.int .i64 (writeTo x t p q v).2] Try.call90 rfl (fun _ w s => w_workWrite x A b o c t p q v w hm hcap (hr.below s.low)) rfl) rfl (fun i => ?_)
 refine pM rfl rfl ?_
 refine pP (Y.extract rfl rfl) rfl ?_
 refine pP (Y.extract rfl rfl) rfl ?_
 refine WL.eff (E.alloc Try.zeroValue54 rfl rfl) rfl (fun b2 => ?_)
 refine WL.eff (E.store Try.sizeOf54 rfl rfl rfl rfl rfl u0 rfl rfl) rfl (fun _ => ?_)
 refine pA rfl rfl ?_
 refine nN ?_
 refine WC.seq ?_
 refine sR ?_
 refine pM rfl rfl ?_
 refine pP (Y.neq rfl rfl) rfl ?_
 refine pM rfl rfl ?_
 refine WL.split (t := 32) rfl (fun r h32 => ?_)
 cases r
 have hwr := write_ok (x := x) (t := t) (p := p) (q := q) (v := v) (by simpa using h32)
 refine gT rfl ?_
 refine pM rfl rfl ?_
 refine gT rfl ?_
 refine pP (Y.lss rfl rfl) rfl ?_
 refine pP (Y.pickF rfl rfl) rfl ?_
 refine pM rfl rfl ?_
 refine WL.known (t := 36) (r := false) rfl (by have := hwr.2.1; simp; omega) ?_
 refine gT rfl ?_
 refine pM rfl rfl ?_
 refine gT rfl ?_
 refine pP (Y.geq rfl rfl) rfl ?_
 refine pP (Y.pickF rfl rfl) rfl ?_
 refine pM rfl rfl ?_
 refine WL.known (t := 40) (r := false) rfl (by have := hwr.2.1; simp; omega) ?_
 refine gT rfl ?_
 refine pM rfl rfl ?_
 refine gT rfl ?_
 refine pP (Y.lss rfl rfl) rfl ?_
 refine pP (Y.pickF rfl rfl) rfl ?_
 refine pM rfl rfl ?_
 refine WL.known (t := 44) (r := false) rfl (by have := hwr.2.1; simp; omega) ?_
 refine gT rfl ?_
 refine pM rfl rfl ?_
 refine gT rfl ?_
 refine pP (Y.geq rfl rfl) rfl ?_
 refine pP (Y.pickF rfl rfl) rfl ?_
 refine nN ?_
 refine WC.isF rfl (by have := hwr.2.1; simp; omega) ?_
 refine WC.skip' ?_
 refine WQ.next ?_
 refine WC.seq ?_
 obtain ⟨h0, hb, hs, ht, hl, e, hRr, hw⟩ := hwr
 rw [e]
 dsimp only
 clear h32
 have n1 := now_ok h0
 have n2 := now_ok hw
 have l1 := (world_right h0).1
 have l2 := (world_right hw).1
 have c1 := cells_ok h0
 have c2 : cellsOf (x.more (wrOf x t p q v)).log = cellsH x.h := by rw [cells_ok hw, h_more, must_write hRr rfl]
 refine WC.region ?_
 refine pV (Y.loadAN wd_54 rfl (by repeat (first | exact List.Mem.head _ | apply List.Mem.tail)) (r := (x).cl A c) rfl) rfl ?_
 refine WL.eff (E.call Try.call69 rfl (fun _ w s => w_worldNow x A b o c w hm hcap (hr.below s.low)) rfl) rfl (fun _ => ?_)
 refine pM rfl rfl ?_
 refine pP (Y.extract rfl rfl) rfl ?_
 refine pP (Y.extract rfl rfl) rfl ?_
 refine WL.eff (E.alloc Try.zeroValue42 rfl rfl) rfl (fun b3 => ?_)
 refine WL.eff (E.store Try.sizeOf42 rfl rfl rfl rfl rfl u0 rfl rfl) rfl (fun _ => ?_)
 refine pA rfl rfl ?_
 refine nN ?_
 refine sR ?_
 refine pV (Y.loadAN wd_54 rfl (by repeat (first | exact List.Mem.head _ | apply List.Mem.tail)) (r := (x.more (wrOf x t p q v)).cl i.1 i.2) rfl) rfl ?_
 refine WL.eff (E.call Try.call69 rfl (fun _ w s => w_worldNow (x.more (wrOf x t p q v)) i.1 (gOf i.1) 0 i.2 w (own_max s.fact.1) (own_le s.fact.1) (own_RL s.fact.1)) rfl) rfl (fun _ => ?_)
 refine pM rfl rfl ?_
 refine pP (Y.extract rfl rfl) rfl ?_
 refine pP (Y.extract rfl rfl) rfl ?_
 refine WL.eff (E.alloc Try.zeroValue42 rfl rfl) rfl (fun b4 => ?_)
 refine WL.eff (E.store Try.sizeOf42 rfl rfl rfl rfl rfl u0 rfl rfl) rfl (fun _ => ?_)
 refine pA rfl rfl ?_
 refine nN ?_
 refine sR ?_
 refine pP (Y.fieldAddr fa_54_1 rfl) rfl ?_
 refine pV (Y.load (cs := (x).cl A c) (v := .slice A (x).log.length c) fl_39 rfl (by repeat (first | exact List.Mem.head _ | apply List.Mem.tail)) rfl) rfl ?_
 refine WL.eff (E.call Try.call68 rfl (fun _ w s => w_cells x.log A b o c w hm (hr.below s.low)) rfl) rfl (fun _ => ?_)
 refine pM rfl rfl ?_
 refine pP (Y.extract rfl rfl) rfl ?_
 refine pP (Y.extract rfl rfl) rfl ?_
 refine WL.eff (E.alloc Try.zeroValue67 rfl rfl) rfl (fun b5 => ?_)
 refine WL.eff (E.store Try.sizeOf67 rfl rfl rfl rfl rfl u0 rfl rfl) rfl (fun _ => ?_)
 refine pA rfl rfl ?_
 refine nN ?_
 refine sR ?_
 refine pP (Y.fieldAddr fa_54_1 rfl) rfl ?_
 refine pV (Y.load (cs := (x.more (wrOf x t p q v)).cl i.1 i.2) (v := .slice i.1 (x.more (wrOf x t p q v)).log.length i.2) fl_39 rfl (by repeat (first | exact List.Mem.head _ | apply List.Mem.tail)) rfl) rfl ?_
 refine WL.eff (E.call Try.call68 rfl (fun _ w s => w_cells (x.more (wrOf x t p q v)).log i.1 (gOf i.1) 0 i.2 w (own_max s.fact.1) (own_RL s.fact.1)) rfl) rfl (fun _ => ?_)
 refine pM rfl rfl ?_
 refine pP (Y.extract rfl rfl) rfl ?_
 refine pP (Y.extract rfl rfl) rfl ?_
 refine WL.eff (E.alloc Try.zeroValue67 rfl rfl) rfl (fun b6 => ?_)
 refine WL.eff (E.store Try.sizeOf67 rfl rfl rfl rfl rfl u0 rfl rfl) rfl (fun _ => ?_)
 refine pA rfl rfl ?_
 refine nN ?_
 refine WC.seq ?_
 refine WC.seq ?_
 rw [n1, n2, l1, l2, c1, c2]
 dsimp only
 refine WC.region ?_
 refine pM rfl rfl ?_
 refine pP (Y.neq rfl rfl) rfl ?_
 refine pM rfl rfl ?_
 refine WL.known (t := 77) (r := false) rfl (by first | rfl | simp) ?_
 refine gT rfl ?_
 refine pM rfl rfl ?_
 refine gT rfl ?_
 refine pP (Y.neq rfl rfl) rfl ?_
 refine pP (Y.pickF rfl rfl) rfl ?_
 refine pM rfl rfl ?_
 refine WL.known (t := 81) (r := false) rfl (by first | rfl | simp) ?_
 refine gT rfl ?_
 refine pM rfl rfl ?_
 refine gT rfl ?_
 refine pP (Y.neq rfl rfl) rfl ?_
 refine pP (Y.pickF rfl rfl) rfl ?_
 refine pM rfl rfl ?_
 refine WL.known (t := 85) (r := false) rfl (by first | rfl | simp) ?_
 refine gT rfl ?_
 refine pM rfl rfl ?_
 refine gT rfl ?_
 refine pP (Y.neq rfl rfl) rfl ?_
 refine pP (Y.pickF rfl rfl) rfl ?_
 refine pM rfl rfl ?_
 refine WL.known (t := 89) (r := false) rfl (by first | rfl | simp) ?_
 refine gT rfl ?_
 refine pV (Y.loadA wd_67 rfl m1 rfl) rfl ?_
 refine gT rfl ?_
 refine pV (Y.loadA wd_67 rfl m0 rfl) rfl ?_
 refine gT rfl ?_
 refine pP (Y.neqA Try.eqGuardType67 rfl rfl (weq_nine _ _)) rfl ?_
 refine pP (Y.pickF rfl rfl) rfl ?_
 refine pM rfl rfl ?_
 refine WL.known (t := 94) (r := false) rfl (by first | rfl | simp) ?_
 refine gT rfl ?_
 refine pP (Y.fieldAddr fa_54_0 rfl) rfl ?_
 refine gT rfl ?_
 refine pV (Y.loadAN (cs := (x.more (wrOf x t p q v)).cl i.1 i.2) wd_42 rfl (by repeat (first | exact List.Mem.head _ | apply List.Mem.tail)) (r := (x.more (wrOf x t p q v)).disk.cl) rfl) rfl ?_
 refine gT rfl ?_
 refine pP (Y.fieldAddr fa_54_0 rfl) rfl ?_
 refine gT rfl ?_
 refine pV (Y.loadAN (cs := (x).cl A c) wd_42 rfl (by repeat (first | exact List.Mem.head _ | apply List.Mem.tail)) (r := (x).disk.cl) rfl) rfl ?_
 refine gT rfl ?_
 refine pP (Y.neqA Try.eqGuardType42 rfl rfl (weq_pages x.disk x.disk)) rfl ?_
 refine pP (Y.pickF rfl rfl) rfl ?_
 refine pM rfl rfl ?_
 refine WL.known (t := 101) (r := false) rfl (by first | rfl | simp) ?_
 refine gT rfl ?_
 refine pP (Y.fieldAddr fa_54_2 rfl) rfl ?_
 refine gT rfl ?_
 refine pV (Y.load (cs := (x.more (wrOf x t p q v)).cl i.1 i.2) (v := .int .i64 x.safe) fl_3 rfl (by repeat (first | exact List.Mem.head _ | apply List.Mem.tail)) rfl) rfl ?_
 refine gT rfl ?_
 refine pP (Y.fieldAddr fa_54_2 rfl) rfl ?_
 refine gT rfl ?_
 refine pV (Y.load (cs := (x).cl A c) (v := .int .i64 x.safe) fl_3 rfl (by repeat (first | exact List.Mem.head _ | apply List.Mem.tail)) rfl) rfl ?_
 refine gT rfl ?_
 refine pP (Y.neq rfl rfl) rfl ?_
 refine pP (Y.pickF rfl rfl) rfl ?_
 refine pM rfl rfl ?_
 refine WL.known (t := 108) (r := false) rfl (by first | rfl | simp) ?_
 refine gT rfl ?_
 refine pV (Y.loadAN wd_54 rfl (by repeat (first | exact List.Mem.head _ | apply List.Mem.tail)) (r := (x.more (wrOf x t p q v)).cl i.1 i.2) rfl) rfl ?_
 refine gT rfl ?_
 refine WL.eff (E.call Try.call77 rfl (fun _ w s => w_worldCheck (x.more (wrOf x t p q v)) i.1 (gOf i.1) 0 i.2 w (own_max s.fact.1) (own_le s.fact.1) (own_RL s.fact.1)) rfl) rfl (fun _ => ?_)
 refine gT rfl ?_
 refine pP (Y.neq rfl rfl) rfl ?_
 refine pP (Y.pickF rfl rfl) rfl ?_
 refine nN ?_
 refine WC.isF rfl (by rw [hw]; rfl) ?_
 refine WC.skip' ?_
 refine WQ.next ?_
 refine sR ?_
 refine pM rfl rfl ?_
 refine pM rfl rfl ?_
 refine pM rfl rfl ?_
 refine pP (Y.ixArr Try.underlying42 Try.sizeOf24 rfl rfl hb.2.1.1 (by omega)) rfl ?_
 refine pP (Y.fieldAddr fa_24_0 rfl) rfl ?_
 refine pP (Y.ixArr Try.underlying22 Try.sizeOf3 rfl rfl hb.2.2.1.1 (by omega)) rfl ?_
 refine WL.eff (E.storeP Try.sizeOf3 rfl rfl rfl rfl rfl (by repeat (first | exact Upd.here | apply Upd.there)) (by rw [cl_len]; omega) (put_cell (pagesOf x.h) p q v hb.2.1 hb.2.2.1)) rfl (fun _ => ?_)
 refine nN ?_
 refine sR ?_
 refine pM rfl rfl ?_
 refine pP (Y.fieldAddr fa_54_1 rfl) rfl ?_
 refine pV (Y.load (cs := (x.more (wrOf x t p q v)).cl i.1 i.2) (v := .slice i.1 (x.more (wrOf x t p q v)).log.length i.2) fl_39 rfl (by repeat (first | exact List.Mem.head _ | apply List.Mem.tail)) rfl) rfl ?_
 refine pP (Y.len Try.underlying39 rfl) rfl ?_
 refine pP (Y.ixArr Try.underlying42 Try.sizeOf24 rfl rfl hb.2.1.1 (by omega)) rfl ?_
 refine pP (Y.fieldAddr fa_24_1 rfl) rfl ?_
 refine WL.eff (E.storeP Try.sizeOf3 rfl rfl rfl rfl rfl (by repeat (first | exact Upd.here | apply Upd.there)) (by rw [cl_len]; omega) (((put_last _ _ _ hb.2.1).trans (congrArg P3.cl (set_set _ _ _ _ _))).trans (congrArg P3.cl (true_page hb)))) rfl (fun _ => ?_)
 refine nN ?_
 refine sR ?_
 refine WL.eff (E.call Try.call92 rfl (fun _ w s => w_workBegun w) rfl) rfl (fun _ => ?_)
 refine pM rfl rfl ?_
 refine gT rfl ?_
 refine pV (Y.loadA wd_42 rfl m3 rfl) rfl ?_
 refine gT rfl ?_
 refine pV (Y.loadA wd_42 rfl m2 rfl) rfl ?_
 refine gT rfl ?_
 refine pP (Y.eqlA Try.eqGuardType42 rfl rfl (weq_pages _ _)) rfl ?_
 refine pP (Y.pickT rfl rfl) rfl ?_
 refine pA rfl rfl ?_
 refine nN ?_
 refine WC.ret ?_
 refine dn1 Try.results28 rfl (fun a w s => ?_)
 · refine ⟨?_, s.low⟩
   clear s
   first
     | rfl
     | (simp only [packed]; simp_all)
     | (simp only [packed]; rw [h32])
 refine gF rfl ?_
 refine gF rfl ?_
 refine pP (Y.pickT rfl rfl) rfl ?_
 refine pM rfl rfl ?_
 refine gF rfl ?_
 refine gF rfl ?_
 refine pP (Y.pickT rfl rfl) rfl ?_
 refine pM rfl rfl ?_
 refine gF rfl ?_
 refine gF rfl ?_
 refine pP (Y.pickT rfl rfl) rfl ?_
 refine pM rfl rfl ?_
 refine gF rfl ?_
 refine gF rfl ?_
 refine pP (Y.pickT rfl rfl) rfl ?_
 refine nN ?_
 refine WC.condT rfl ?_
 refine sR ?_
 refine WL.eff (E.call Try.call92 rfl (fun _ w s => w_workBegun w) rfl) rfl (fun _ => ?_)
 refine pM rfl rfl ?_
 refine gT rfl ?_
 refine pM rfl rfl ?_
 refine gT rfl ?_
 refine pP (Y.neq rfl rfl) rfl ?_
 refine pP (Y.pickT rfl rfl) rfl ?_
 refine pA rfl rfl ?_
 refine nN ?_
 refine WC.ret ?_
 refine WQ.thenRet ?_
 refine dn1 Try.results28 rfl (fun a w s => ?_)
 · refine ⟨?_, s.low⟩
   clear s
   first
     | rfl
     | (simp only [packed]; simp_all)
     | (simp only [packed]; rw [h32])
end Go.Proofs.Ytdbcimadjmdffaa
