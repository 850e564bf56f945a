/- The laws WorkWrites and WorkCommits. No condition. -/
import Derived.Test.YtdbcimadjmdffaaBv
import Derived.Test.YtdbcimadjmdffaaBz
set_option maxRecDepth 100000
set_option linter.unusedVariables false
set_option linter.unusedSimpArgs false
set_option linter.unusedSectionVars false
set_option maxHeartbeats 4000000
namespace Go.Proofs.Ytdbcimadjmdffaa
open Go.RowKit Go.Joins
theorem own_max {w : World} {base e size k c : Nat} {A : Option Addr} {xs : List Value} (h : w.ownsRow base e size (.slice A k c) k xs) : k ≤ maxLen := by
  rcases h.2 with ⟨hv, hk⟩ | ⟨g, cap, cur, hv, h1, h2, h3, h4, h5, h6⟩
  · subst hk; exact Nat.zero_le _
  · exact Nat.le_trans h3 h4
def wb1W : Wd := ⟨labW.disk, someL ++ [wrR 4 0 2 2 0 9], 6⟩
def wb2W : Wd := ⟨labW.disk, someL ++ [wrR 4 0 2 2 0 9, cmR 4 10, enR 4 11], 11⟩
theorem wb1 : writeTo labW 4 2 2 9 = (wb1W, 0) := by decide +kernel
theorem wb2 : commitOf wb1W 4 = (wb2W, 0) := by decide +kernel
theorem wb3 : writeTo labW 4 0 0 9 = (Wd.zero, 5) := by decide +kernel
theorem wb4 : writeTo labW 2 2 2 9 = (Wd.zero, 6) := by decide +kernel
theorem wb5 : commitOf labW 4 = (Wd.zero, 7) := by decide +kernel
theorem wb6 : commitOf labW 1 = (Wd.zero, 6) := by decide +kernel
theorem wb7 : writeTo labW 10 0 0 0 = (Wd.zero, 3) := by decide +kernel

theorem w_workBegun (w : World) : Ret Try.prog 92 [] w (.bool true) := by
 refine enter Try.func92 rfl Try.ntmps92 rfl SF.top trivial ?_
 refine sR ?_
 refine pA rfl rfl ?_
 refine nN ?_
 refine sR ?_
 refine WL.eff (E.callB (fun g : Nat => labW.val (some ⟨g, 0, none⟩) 9) (fun g => (g, flat someL, 34)) Try.call132 rfl (fun _ w s => w_lab w) rfl) rfl (fun g16 => ?_)
 refine WL.eff (E.retW (wb1W) [.int .i64 0] Try.call90 rfl (fun _ w s => (by have hh := w_workWrite labW (some ⟨g16, 0, none⟩) g16 0 9 4 2 2 9 w (short_max (by decide)) (by decide) (RL.ofH s (by repeat (first | exact List.Mem.head _ | apply List.Mem.tail))); rw [wb1] at hh; exact hh)) rfl) rfl (fun i1 => ?_)
 refine pM rfl rfl ?_
 refine pP (Y.extract rfl rfl) rfl ?_
 refine pP (Y.extract rfl rfl) rfl ?_
 refine WL.eff (E.alloc Try.zeroValue54 rfl rfl) rfl (fun b1 => ?_)
 refine WL.eff (E.store Try.sizeOf54 rfl rfl rfl rfl rfl u0 rfl rfl) rfl (fun _ => ?_)
 refine pA rfl rfl ?_
 refine nN ?_
 refine sR ?_
 refine pV (Y.loadAN wd_54 rfl (by repeat (first | exact List.Mem.head _ | apply List.Mem.tail)) (r := (wb1W).cl i1.1 i1.2) rfl) rfl ?_
 refine WL.eff (E.retW (wb2W) [.int .i64 0] Try.call62 rfl (fun _ w s => (by have hh := w_workCommit wb1W i1.1 (gOf i1.1) 0 i1.2 4 w (short_max (by decide)) (own_le s.fact.1) (own_RL s.fact.1); rw [wb2] at hh; exact hh)) rfl) rfl (fun i2 => ?_)
 refine pM rfl rfl ?_
 refine pP (Y.extract rfl rfl) rfl ?_
 refine pP (Y.extract rfl rfl) rfl ?_
 refine WL.eff (E.alloc Try.zeroValue54 rfl rfl) rfl (fun b2 => ?_)
 refine WL.eff (E.store Try.sizeOf54 rfl rfl rfl rfl rfl u0 rfl rfl) rfl (fun _ => ?_)
 refine pA rfl rfl ?_
 refine nN ?_
 refine sR ?_
 refine WL.eff (E.callB (fun g : Nat => labW.val (some ⟨g, 0, none⟩) 9) (fun g => (g, flat someL, 34)) Try.call132 rfl (fun _ w s => w_lab w) rfl) rfl (fun g26 => ?_)
 refine WL.eff (E.retW (Wd.zero) [.int .i64 5] Try.call90 rfl (fun _ w s => (by have hh := w_workWrite labW (some ⟨g26, 0, none⟩) g26 0 9 4 0 0 9 w (short_max (by decide)) (by decide) (RL.ofH s (by repeat (first | exact List.Mem.head _ | apply List.Mem.tail))); rw [wb3] at hh; exact hh)) rfl) rfl (fun i3 => ?_)
 refine pM rfl rfl ?_
 refine pP (Y.extract rfl rfl) rfl ?_
 refine pP (Y.extract rfl rfl) rfl ?_
 refine WL.eff (E.alloc Try.zeroValue54 rfl rfl) rfl (fun b3 => ?_)
 refine WL.eff (E.store Try.sizeOf54 rfl rfl rfl rfl rfl u0 rfl rfl) rfl (fun _ => ?_)
 refine pA rfl rfl ?_
 refine nN ?_
 refine sR ?_
 refine WL.eff (E.callB (fun g : Nat => labW.val (some ⟨g, 0, none⟩) 9) (fun g => (g, flat someL, 34)) Try.call132 rfl (fun _ w s => w_lab w) rfl) rfl (fun g31 => ?_)
 refine WL.eff (E.retW (Wd.zero) [.int .i64 6] Try.call90 rfl (fun _ w s => (by have hh := w_workWrite labW (some ⟨g31, 0, none⟩) g31 0 9 2 2 2 9 w (short_max (by decide)) (by decide) (RL.ofH s (by repeat (first | exact List.Mem.head _ | apply List.Mem.tail))); rw [wb4] at hh; exact hh)) rfl) rfl (fun i4 => ?_)
 refine pM rfl rfl ?_
 refine pP (Y.extract rfl rfl) rfl ?_
 refine pP (Y.extract rfl rfl) rfl ?_
 refine WL.eff (E.alloc Try.zeroValue54 rfl rfl) rfl (fun b4 => ?_)
 refine WL.eff (E.store Try.sizeOf54 rfl rfl rfl rfl rfl u0 rfl rfl) rfl (fun _ => ?_)
 refine pA rfl rfl ?_
 refine nN ?_
 refine sR ?_
 refine WL.eff (E.callB (fun g : Nat => labW.val (some ⟨g, 0, none⟩) 9) (fun g => (g, flat someL, 34)) Try.call132 rfl (fun _ w s => w_lab w) rfl) rfl (fun g36 => ?_)
 refine WL.eff (E.retW (Wd.zero) [.int .i64 7] Try.call62 rfl (fun _ w s => (by have hh := w_workCommit labW (some ⟨g36, 0, none⟩) g36 0 9 4 w (short_max (by decide)) (by decide) (RL.ofH s (by repeat (first | exact List.Mem.head _ | apply List.Mem.tail))); rw [wb5] at hh; exact hh)) rfl) rfl (fun i5 => ?_)
 refine pM rfl rfl ?_
 refine pP (Y.extract rfl rfl) rfl ?_
 refine pP (Y.extract rfl rfl) rfl ?_
 refine WL.eff (E.alloc Try.zeroValue54 rfl rfl) rfl (fun b5 => ?_)
 refine WL.eff (E.store Try.sizeOf54 rfl rfl rfl rfl rfl u0 rfl rfl) rfl (fun _ => ?_)
 refine pA rfl rfl ?_
 refine nN ?_
 refine sR ?_
 refine WL.eff (E.callB (fun g : Nat => labW.val (some ⟨g, 0, none⟩) 9) (fun g => (g, flat someL, 34)) Try.call132 rfl (fun _ w s => w_lab w) rfl) rfl (fun g41 => ?_)
 refine WL.eff (E.retW (Wd.zero) [.int .i64 6] Try.call62 rfl (fun _ w s => (by have hh := w_workCommit labW (some ⟨g41, 0, none⟩) g41 0 9 1 w (short_max (by decide)) (by decide) (RL.ofH s (by repeat (first | exact List.Mem.head _ | apply List.Mem.tail))); rw [wb6] at hh; exact hh)) rfl) rfl (fun i6 => ?_)
 refine pM rfl rfl ?_
 refine pP (Y.extract rfl rfl) rfl ?_
 refine pP (Y.extract rfl rfl) rfl ?_
 refine WL.eff (E.alloc Try.zeroValue54 rfl rfl) rfl (fun b6 => ?_)
 refine WL.eff (E.store Try.sizeOf54 rfl rfl rfl rfl rfl u0 rfl rfl) rfl (fun _ => ?_)
 refine pA rfl rfl ?_
 refine nN ?_
 refine sR ?_
 refine WL.eff (E.callB (fun g : Nat => labW.val (some ⟨g, 0, none⟩) 9) (fun g => (g, flat someL, 34)) Try.call132 rfl (fun _ w s => w_lab w) rfl) rfl (fun g46 => ?_)
 refine WL.eff (E.retW (Wd.zero) [.int .i64 3] Try.call90 rfl (fun _ w s => (by have hh := w_workWrite labW (some ⟨g46, 0, none⟩) g46 0 9 10 0 0 0 w (short_max (by decide)) (by decide) (RL.ofH s (by repeat (first | exact List.Mem.head _ | apply List.Mem.tail))); rw [wb7] at hh; exact hh)) rfl) rfl (fun i7 => ?_)
 refine pM rfl rfl ?_
 refine pP (Y.extract rfl rfl) rfl ?_
 refine pP (Y.extract rfl rfl) rfl ?_
 refine WL.eff (E.alloc Try.zeroValue54 rfl rfl) rfl (fun b7 => ?_)
 refine WL.eff (E.store Try.sizeOf54 rfl rfl rfl rfl rfl u0 rfl rfl) rfl (fun _ => ?_)
 refine pA rfl rfl ?_
 refine nN ?_
 refine WC.seq ?_
 refine WC.know (p := i1.1 = some ⟨gOf i1.1, 0, none⟩) (fun a w s => (own_RL (l := wb1W.log) s.fact.2.1.2.1.2.1.2.1.2.1.2.1.1).addr (i := 9) (r := wrR 4 0 2 2 0 9) rfl) (fun hAi1 => ?_)
 refine WC.know (p := i2.1 = some ⟨gOf i2.1, 0, none⟩) (fun a w s => (own_RL (l := wb2W.log) s.fact.2.1.2.1.2.1.2.1.2.1.1).addr (i := 10) (r := cmR 4 10) rfl) (fun hAi2 => ?_)
 refine WC.drop [0] ?_
 refine WC.draw [(0, .q false), (1, .q false), (2, .q false), (3, .q false), (4, .q false), (5, .q false), (6, .q false), (7, .q false), (8, .q false), (9, .q false), (10, .q false), (11, .q false), (12, .q false), (13, .q false), (14, .q false), (15, .q false), (16, .q false), (17, .q false), (18, .q false), (19, .q false), (20, .q false), (21, .q false), (22, .q false), (23, .q false), (24, .q false), (25, .q false), (26, .q false), (27, .q false), (28, .q true), (29, .q false), (30, .q false), (31, .q false), (32, .q false), (33, .q false), (34, .q true), (35, .q false), (36, .q true), (37, .q true), (38, .q false), (39, .q false), (40, .q false), (41, .q false), (42, .q true), (43, .q false), (44, .q false), (45, .q false), (46, .q false), (47, .q true), (48, .q false), (49, .q false), (50, .q false), (51, .q false), (52, .q false), (53, .q true), (54, .q false), (55, .q false), (56, .q false), (57, .q false), (58, .q true), (59, .q false), (60, .q true), (61, .q true), (62, .q false), (63, .q false), (64, .q false), (65, .q false), (66, .q true), (67, .q false), (68, .q true), (69, .q true), (70, .q false), (71, .q false), (72, .q false)] mixed (by kernel_rfl) ?_
 refine dP (Y.move rfl) rfl rfl ?_
 refine dP (Y.eql rfl rfl) rfl rfl ?_
 refine dP (Y.move rfl) rfl rfl ?_
 refine WDm.known (t := 52) (r := true) rfl (by decide) ?_
 refine dPg rfl (Y.move rfl) rfl rfl rfl ?_
 refine dPg rfl (Y.eql rfl rfl) rfl rfl rfl ?_
 refine dP (Y.pickT rfl rfl) rfl rfl ?_
 refine dP (Y.move rfl) rfl rfl ?_
 refine WDm.known (t := 56) (r := true) rfl (by decide) ?_
 refine dPg rfl (Y.move rfl) rfl rfl rfl ?_
 refine dPg rfl (Y.eql rfl rfl) rfl rfl rfl ?_
 refine dP (Y.pickT rfl rfl) rfl rfl ?_
 refine dP (Y.move rfl) rfl rfl ?_
 refine WDm.known (t := 60) (r := true) rfl (by decide) ?_
 refine dPg rfl (Y.move rfl) rfl rfl rfl ?_
 refine dPg rfl (Y.eql rfl rfl) rfl rfl rfl ?_
 refine dP (Y.pickT rfl rfl) rfl rfl ?_
 refine dP (Y.move rfl) rfl rfl ?_
 refine WDm.known (t := 64) (r := true) rfl (by decide) ?_
 refine dPg rfl (Y.move rfl) rfl rfl rfl ?_
 refine dPg rfl (Y.eql rfl rfl) rfl rfl rfl ?_
 refine dP (Y.pickT rfl rfl) rfl rfl ?_
 refine dP (Y.move rfl) rfl rfl ?_
 refine WDm.known (t := 68) (r := true) rfl (by decide) ?_
 refine dPg rfl (Y.move rfl) rfl rfl rfl ?_
 refine dPg rfl (Y.eql rfl rfl) rfl rfl rfl ?_
 refine dP (Y.pickT rfl rfl) rfl rfl ?_
 refine dP (Y.move rfl) rfl rfl ?_
 refine WDm.known (t := 72) (r := true) rfl (by decide) ?_
 refine dPg rfl (Y.move rfl) rfl rfl rfl ?_
 refine dPg rfl (Y.eql rfl rfl) rfl rfl rfl ?_
 refine dP (Y.pickT rfl rfl) rfl rfl ?_
 refine dP (Y.move rfl) rfl rfl ?_
 refine WDm.known (t := 76) (r := true) rfl (by decide) ?_
 refine dPg rfl (Y.fieldAddr fa_54_1 rfl) rfl rfl rfl ?_
 refine dVg rfl (Y.load (cs := (wb1W).cl i1.1 i1.2) (v := .slice i1.1 (wb1W).log.length i1.2) fl_39 rfl (by repeat (first | exact List.Mem.head _ | apply List.Mem.tail)) rfl) rfl rfl rfl ?_
 refine dPg rfl (Y.len Try.underlying39 rfl) rfl rfl rfl ?_
 refine dPg rfl (Y.eql rfl rfl) rfl rfl rfl ?_
 refine dP (Y.pickT rfl rfl) rfl rfl ?_
 refine dP (Y.move rfl) rfl rfl ?_
 refine WDm.known (t := 82) (r := true) rfl (by decide) ?_
 refine dPg rfl (Y.fieldAddr fa_54_1 rfl) rfl rfl rfl ?_
 refine dVg rfl (Y.load (cs := (wb1W).cl i1.1 i1.2) (v := .slice i1.1 (wb1W).log.length i1.2) fl_39 rfl (by repeat (first | exact List.Mem.head _ | apply List.Mem.tail)) rfl) rfl rfl rfl ?_
 refine dPg rfl (Y.ixSlA (A := i1.1) (b := gOf i1.1) (o := 0) Try.underlying39 Try.sizeOf34 rfl rfl hAi1 (by decide) (by decide)) rfl rfl rfl ?_
 refine dVg rfl (Y.loadAc wd_34 rfl (r := (wrR 4 0 2 2 0 9).cl) rfl (fun a w s j hj => (own_RL (l := wb1W.log) s.fact.2.1.2.1.2.1.2.1.2.1.2.1.1).full (i := 9) rfl j hj)) rfl rfl rfl ?_
 refine WDm.quiet (QS.guardT rfl rfl rfl (QS.call Try.call113 rfl (fun _ w s => w_wr _ _ _ _ _ _ w))) rfl rfl rfl ?_
 refine dPg rfl (Y.eqlA Try.eqGuardType34 rfl rfl (weq_rec (wrR 4 0 2 2 0 9) (wrR 4 0 2 2 0 9))) rfl rfl rfl ?_
 refine dP (Y.pickT rfl rfl) rfl rfl ?_
 refine dP (Y.move rfl) rfl rfl ?_
 refine WDm.known (t := 90) (r := true) rfl (by decide) ?_
 refine dPg rfl (Y.fieldAddr fa_54_2 rfl) rfl rfl rfl ?_
 refine dVg rfl (Y.load (cs := (wb1W).cl i1.1 i1.2) (v := .int .i64 6) fl_3 rfl (by repeat (first | exact List.Mem.head _ | apply List.Mem.tail)) rfl) rfl rfl rfl ?_
 refine dPg rfl (Y.eql rfl rfl) rfl rfl rfl ?_
 refine dP (Y.pickT rfl rfl) rfl rfl ?_
 refine dP (Y.move rfl) rfl rfl ?_
 refine WDm.known (t := 95) (r := true) rfl (by decide) ?_
 refine dPg rfl (Y.fieldAddr fa_54_1 rfl) rfl rfl rfl ?_
 refine dVg rfl (Y.load (cs := (wb2W).cl i2.1 i2.2) (v := .slice i2.1 (wb2W).log.length i2.2) fl_39 rfl (by repeat (first | exact List.Mem.head _ | apply List.Mem.tail)) rfl) rfl rfl rfl ?_
 refine dPg rfl (Y.len Try.underlying39 rfl) rfl rfl rfl ?_
 refine dPg rfl (Y.eql rfl rfl) rfl rfl rfl ?_
 refine dP (Y.pickT rfl rfl) rfl rfl ?_
 refine dP (Y.move rfl) rfl rfl ?_
 refine WDm.known (t := 101) (r := true) rfl (by decide) ?_
 refine dPg rfl (Y.fieldAddr fa_54_2 rfl) rfl rfl rfl ?_
 refine dVg rfl (Y.load (cs := (wb2W).cl i2.1 i2.2) (v := .int .i64 11) fl_3 rfl (by repeat (first | exact List.Mem.head _ | apply List.Mem.tail)) rfl) rfl rfl rfl ?_
 refine dPg rfl (Y.eql rfl rfl) rfl rfl rfl ?_
 refine dP (Y.pickT rfl rfl) rfl rfl ?_
 refine dP (Y.move rfl) rfl rfl ?_
 refine WDm.known (t := 106) (r := true) rfl (by decide) ?_
 refine dPg rfl (Y.fieldAddr fa_54_1 rfl) rfl rfl rfl ?_
 refine dVg rfl (Y.load (cs := (wb2W).cl i2.1 i2.2) (v := .slice i2.1 (wb2W).log.length i2.2) fl_39 rfl (by repeat (first | exact List.Mem.head _ | apply List.Mem.tail)) rfl) rfl rfl rfl ?_
 refine dPg rfl (Y.ixSlA (A := i2.1) (b := gOf i2.1) (o := 0) Try.underlying39 Try.sizeOf34 rfl rfl hAi2 (by decide) (by decide)) rfl rfl rfl ?_
 refine dVg rfl (Y.loadAc wd_34 rfl (r := (cmR 4 10).cl) rfl (fun a w s j hj => (own_RL (l := wb2W.log) s.fact.2.1.2.1.2.1.2.1.2.1.1).full (i := 10) rfl j hj)) rfl rfl rfl ?_
 refine WDm.quiet (QS.guardT rfl rfl rfl (QS.call Try.call116 rfl (fun _ w s => w_cm _ _ w))) rfl rfl rfl ?_
 refine dPg rfl (Y.eqlA Try.eqGuardType34 rfl rfl (weq_rec (cmR 4 10) (cmR 4 10))) rfl rfl rfl ?_
 refine dP (Y.pickT rfl rfl) rfl rfl ?_
 refine dP (Y.move rfl) rfl rfl ?_
 refine WDm.known (t := 114) (r := true) rfl (by decide) ?_
 refine dPg rfl (Y.fieldAddr fa_54_1 rfl) rfl rfl rfl ?_
 refine dVg rfl (Y.load (cs := (wb2W).cl i2.1 i2.2) (v := .slice i2.1 (wb2W).log.length i2.2) fl_39 rfl (by repeat (first | exact List.Mem.head _ | apply List.Mem.tail)) rfl) rfl rfl rfl ?_
 refine dPg rfl (Y.ixSlA (A := i2.1) (b := gOf i2.1) (o := 0) Try.underlying39 Try.sizeOf34 rfl rfl hAi2 (by decide) (by decide)) rfl rfl rfl ?_
 refine dVg rfl (Y.loadAc wd_34 rfl (r := (enR 4 11).cl) rfl (fun a w s j hj => (own_RL (l := wb2W.log) s.fact.2.1.2.1.2.1.2.1.2.1.1).full (i := 11) rfl j hj)) rfl rfl rfl ?_
 refine WDm.quiet (QS.guardT rfl rfl rfl (QS.call Try.call114 rfl (fun _ w s => w_en _ _ w))) rfl rfl rfl ?_
 refine dPg rfl (Y.eqlA Try.eqGuardType34 rfl rfl (weq_rec (enR 4 11) (enR 4 11))) rfl rfl rfl ?_
 refine dP (Y.pickT rfl rfl) rfl rfl ?_
 refine dP (Y.assign rfl) rfl rfl ?_
 refine WDm.nil (WQ.and ?_)
 refine WQ.next ?_
 refine WC.ret ?_
 refine dn1 Try.results92 rfl (fun a w s => ?_)
 · refine ⟨?_, s.low⟩
   rfl

theorem w_WorkWrites (x : Wd) (A : Option Addr) (b o c : Nat) (t p q v : Int) (w : World) (hm : x.log.length ≤ maxLen) (hcap : x.log.length ≤ c) (hr : RL w A b o x.log) : Ret Try.prog 22 [x.val A c, .int .i64 t, .int .i64 p, .int .i64 q, .int .i64 v] w (.bool true) := by
 refine enter Try.func22 rfl Try.ntmps22 rfl SF.top trivial ?_
 refine sR ?_
 refine WL.eff (E.box rfl rfl rfl) rfl (fun b1 => ?_)
 refine pA rfl rfl ?_
 refine nN ?_
 refine sR ?_
 refine pV (Y.loadAN wd_54 rfl (by repeat (first | exact List.Mem.head _ | apply List.Mem.tail)) (r := (x).cl A c) rfl) rfl ?_
 refine pM rfl rfl ?_
 refine pM rfl rfl ?_
 refine pM rfl rfl ?_
 refine pM rfl rfl ?_
 refine WL.eff (E.retW ((writeTo x t p q v).1) [.int .i64 (writeTo x t p q v).2] Try.call90 rfl (fun _ w s => w_workWrite x A b o c t p q v w hm hcap (hr.below s.low)) rfl) rfl (fun i => ?_)
 refine pM rfl rfl ?_
 refine pP (Y.extract rfl rfl) rfl ?_
 refine pP (Y.extract rfl rfl) rfl ?_
 refine WL.eff (E.alloc Try.zeroValue54 rfl rfl) rfl (fun b2 => ?_)
 refine WL.eff (E.store Try.sizeOf54 rfl rfl rfl rfl rfl u0 rfl rfl) rfl (fun _ => ?_)
 refine pA rfl rfl ?_
 refine nN ?_
 refine sR ?_
 refine pV (Y.loadAN wd_54 rfl (by repeat (first | exact List.Mem.head _ | apply List.Mem.tail)) (r := (x).cl A c) rfl) rfl ?_
 refine pM rfl rfl ?_
 refine pM rfl rfl ?_
 refine pM rfl rfl ?_
 refine pM rfl rfl ?_
 refine WL.eff (E.retW ((writeTo x t p q v).1) [.int .i64 (writeTo x t p q v).2] Try.call91 rfl (fun _ w s => w_writeTo x A b o c t p q v w hm hcap (hr.below s.low)) rfl) rfl (fun j => ?_)
 refine pM rfl rfl ?_
 refine pP (Y.extract rfl rfl) rfl ?_
 refine pP (Y.extract rfl rfl) rfl ?_
 refine WL.eff (E.alloc Try.zeroValue54 rfl rfl) rfl (fun b3 => ?_)
 refine WL.eff (E.store Try.sizeOf54 rfl rfl rfl rfl rfl u0 rfl rfl) rfl (fun _ => ?_)
 refine pA rfl rfl ?_
 refine nN ?_
 refine sR ?_
 refine WL.eff (E.call Try.call92 rfl (fun _ w s => w_workBegun w) rfl) rfl (fun _ => ?_)
 refine pM rfl rfl ?_
 refine gT rfl ?_
 refine pV (Y.loadAN wd_54 rfl (by repeat (first | exact List.Mem.head _ | apply List.Mem.tail)) (r := ((writeTo x t p q v).1).cl i.1 i.2) rfl) rfl ?_
 refine gT rfl ?_
 refine pV (Y.loadAN wd_54 rfl (by repeat (first | exact List.Mem.head _ | apply List.Mem.tail)) (r := ((writeTo x t p q v).1).cl j.1 j.2) rfl) rfl ?_
 refine gT rfl ?_
 refine WL.eff (E.call Try.call83 rfl (fun _ w s => w_sameWorlds ((writeTo x t p q v).1) ((writeTo x t p q v).1) i.1 j.1 (gOf i.1) 0 i.2 (gOf j.1) 0 j.2 w (own_max s.fact.2.1.1) (own_RL s.fact.2.1.1) (own_RL s.fact.1)) rfl) rfl (fun _ => ?_)
 refine pP (Y.pickT rfl rfl) rfl ?_
 refine pM rfl rfl ?_
 refine WL.known (t := 39) (r := true) rfl (by simp) ?_
 refine gT rfl ?_
 refine pM rfl rfl ?_
 refine gT rfl ?_
 refine pM rfl rfl ?_
 refine gT rfl ?_
 refine pP (Y.eql rfl rfl) rfl ?_
 refine pP (Y.pickT rfl rfl) rfl ?_
 refine pA rfl rfl ?_
 refine nN ?_
 refine WC.ret ?_
 refine dn1 Try.results22 rfl (fun a w s => ?_)
 · refine ⟨?_, s.low⟩
   simp [packed]

theorem w_WorkCommits (x : Wd) (A : Option Addr) (b o c : Nat) (t : Int) (w : World) (hm : x.log.length ≤ maxLen) (hcap : x.log.length ≤ c) (hr : RL w A b o x.log) : Ret Try.prog 23 [x.val A c, .int .i64 t] w (.bool true) := by
 refine enter Try.func23 rfl Try.ntmps23 rfl SF.top trivial ?_
 refine sR ?_
 refine WL.eff (E.box rfl rfl rfl) rfl (fun b1 => ?_)
 refine pA rfl rfl ?_
 refine nN ?_
 refine sR ?_
 refine pV (Y.loadAN wd_54 rfl (by repeat (first | exact List.Mem.head _ | apply List.Mem.tail)) (r := (x).cl A c) rfl) rfl ?_
 refine pM rfl rfl ?_
 refine WL.eff (E.retW ((commitOf x t).1) [.int .i64 (commitOf x t).2] Try.call62 rfl (fun _ w s => w_workCommit x A b o c t w hm hcap (hr.below s.low)) rfl) rfl (fun i => ?_)
 refine pM rfl rfl ?_
 refine pP (Y.extract rfl rfl) rfl ?_
 refine pP (Y.extract rfl rfl) rfl ?_
 refine WL.eff (E.alloc Try.zeroValue54 rfl rfl) rfl (fun b2 => ?_)
 refine WL.eff (E.store Try.sizeOf54 rfl rfl rfl rfl rfl u0 rfl rfl) rfl (fun _ => ?_)
 refine pA rfl rfl ?_
 refine nN ?_
 refine sR ?_
 refine pV (Y.loadAN wd_54 rfl (by repeat (first | exact List.Mem.head _ | apply List.Mem.tail)) (r := (x).cl A c) rfl) rfl ?_
 refine pM rfl rfl ?_
 refine WL.eff (E.retW ((commitOf x t).1) [.int .i64 (commitOf x t).2] Try.call93 rfl (fun _ w s => w_commitOf x A b o c t w hm hcap (hr.below s.low)) rfl) rfl (fun j => ?_)
 refine pM rfl rfl ?_
 refine pP (Y.extract rfl rfl) rfl ?_
 refine pP (Y.extract rfl rfl) rfl ?_
 refine WL.eff (E.alloc Try.zeroValue54 rfl rfl) rfl (fun b3 => ?_)
 refine WL.eff (E.store Try.sizeOf54 rfl rfl rfl rfl rfl u0 rfl rfl) rfl (fun _ => ?_)
 refine pA rfl rfl ?_
 refine nN ?_
 refine sR ?_
 refine WL.eff (E.call Try.call92 rfl (fun _ w s => w_workBegun w) rfl) rfl (fun _ => ?_)
 refine pM rfl rfl ?_
 refine gT rfl ?_
 refine pV (Y.loadAN wd_54 rfl (by repeat (first | exact List.Mem.head _ | apply List.Mem.tail)) (r := ((commitOf x t).1).cl i.1 i.2) rfl) rfl ?_
 refine gT rfl ?_
 refine pV (Y.loadAN wd_54 rfl (by repeat (first | exact List.Mem.head _ | apply List.Mem.tail)) (r := ((commitOf x t).1).cl j.1 j.2) rfl) rfl ?_
 refine gT rfl ?_
 refine WL.eff (E.call Try.call83 rfl (fun _ w s => w_sameWorlds ((commitOf x t).1) ((commitOf x t).1) i.1 j.1 (gOf i.1) 0 i.2 (gOf j.1) 0 j.2 w (own_max s.fact.2.1.1) (own_RL s.fact.2.1.1) (own_RL s.fact.1)) rfl) rfl (fun _ => ?_)
 refine pP (Y.pickT rfl rfl) rfl ?_
 refine pM rfl rfl ?_
 refine WL.known (t := 27) (r := true) rfl (by simp) ?_
 refine gT rfl ?_
 refine pM rfl rfl ?_
 refine gT rfl ?_
 refine pM rfl rfl ?_
 refine gT rfl ?_
 refine pP (Y.eql rfl rfl) rfl ?_
 refine pP (Y.pickT rfl rfl) rfl ?_
 refine pA rfl rfl ?_
 refine nN ?_
 refine WC.ret ?_
 refine dn1 Try.results23 rfl (fun a w s => ?_)
 · refine ⟨?_, s.low⟩
   simp [packed]
end Go.Proofs.Ytdbcimadjmdffaa
