/- The laws RollSteps and RollAborts. No condition. -/
import Derived.Test.YtdbcimadjmdffaaCc
import Derived.Test.YtdbcimadjmdffaaCb
set_option maxRecDepth 100000
set_option linter.unusedVariables false
set_option linter.unusedSimpArgs false
set_option linter.unusedSectionVars false
set_option maxHeartbeats 4000000
namespace Go.Proofs.Ytdbcimadjmdffaa
open Go.RowKit Go.Joins
def rb2W : Wd := ⟨labW.disk, someL ++ [bkR 3 9 0 0 8 0 0, enR 3 10], 6⟩
theorem rb1 : rollOf someL 3 = (bkR 3 9 0 0 8 0 0, 0) := by decide +kernel
theorem rb2 : abortOf labW 3 = (rb2W, 0) := by decide +kernel
theorem rb3 : rollOf someL 2 = (R.zero, 6) := by decide +kernel
theorem rb4 : rollOf someL 4 = (R.zero, 7) := by decide +kernel
theorem rb5 : rollOf (someL.take 7) 1 = (enR 1 7, 0) := by decide +kernel

theorem w_rollBegun (w : World) : Ret Try.prog 87 [] w (.bool true) := by
 refine enter Try.func87 rfl Try.ntmps87 rfl SF.top trivial ?_
 refine sR ?_
 refine pA rfl rfl ?_
 refine nN ?_
 refine sR ?_
 refine WL.eff (E.callB (fun g : Nat => .slice (some ⟨g, 0, none⟩) 9 9) (fun g => (g, flat someL, 34)) Try.call120 rfl (fun _ w s => w_some w) rfl) rfl (fun g12 => ?_)
 refine WL.eff (E.call Try.call85 rfl (fun _ w s => (by have hh := w_rollStep someL (some ⟨g12, 0, none⟩) g12 0 9 3 w (RL.ofH s (by repeat (first | exact List.Mem.head _ | apply List.Mem.tail))); rw [rb1] at hh; exact hh)) rfl) rfl (fun _ => ?_)
 refine pM rfl rfl ?_
 refine pP (Y.extract rfl rfl) rfl ?_
 refine pP (Y.extract rfl rfl) rfl ?_
 refine WL.eff (E.alloc Try.zeroValue34 rfl rfl) rfl (fun b1 => ?_)
 refine WL.eff (E.store Try.sizeOf34 rfl rfl rfl rfl rfl u0 rfl rfl) rfl (fun _ => ?_)
 refine pA rfl rfl ?_
 refine nN ?_
 refine sR ?_
 refine WL.eff (E.callB (fun g : Nat => labW.val (some ⟨g, 0, none⟩) 9) (fun g => (g, flat someL, 34)) Try.call132 rfl (fun _ w s => w_lab w) rfl) rfl (fun g17 => ?_)
 refine WL.eff (E.retW (rb2W) [.int .i64 0] Try.call88 rfl (fun _ w s => (by have hh := w_rollAbort labW (some ⟨g17, 0, none⟩) g17 0 9 3 w (short_max (by decide)) (by decide) (RL.ofH s (by repeat (first | exact List.Mem.head _ | apply List.Mem.tail))); rw [rb2] at hh; exact hh)) rfl) rfl (fun i => ?_)
 refine pM rfl rfl ?_
 refine pP (Y.extract rfl rfl) rfl ?_
 refine pP (Y.extract rfl rfl) rfl ?_
 refine WL.eff (E.alloc Try.zeroValue54 rfl rfl) rfl (fun b2 => ?_)
 refine WL.eff (E.store Try.sizeOf54 rfl rfl rfl rfl rfl u0 rfl rfl) rfl (fun _ => ?_)
 refine pA rfl rfl ?_
 refine nN ?_
 refine sR ?_
 refine WL.eff (E.callB (fun g : Nat => .slice (some ⟨g, 0, none⟩) 9 9) (fun g => (g, flat someL, 34)) Try.call120 rfl (fun _ w s => w_some w) rfl) rfl (fun g22 => ?_)
 refine WL.eff (E.call Try.call85 rfl (fun _ w s => (by have hh := w_rollStep someL (some ⟨g22, 0, none⟩) g22 0 9 2 w (RL.ofH s (by repeat (first | exact List.Mem.head _ | apply List.Mem.tail))); rw [rb3] at hh; exact hh)) rfl) rfl (fun _ => ?_)
 refine pM rfl rfl ?_
 refine pP (Y.extract rfl rfl) rfl ?_
 refine pP (Y.extract rfl rfl) rfl ?_
 refine WL.eff (E.alloc Try.zeroValue34 rfl rfl) rfl (fun b3 => ?_)
 refine WL.eff (E.store Try.sizeOf34 rfl rfl rfl rfl rfl u0 rfl rfl) rfl (fun _ => ?_)
 refine pA rfl rfl ?_
 refine nN ?_
 refine sR ?_
 refine WL.eff (E.callB (fun g : Nat => .slice (some ⟨g, 0, none⟩) 9 9) (fun g => (g, flat someL, 34)) Try.call120 rfl (fun _ w s => w_some w) rfl) rfl (fun g27 => ?_)
 refine WL.eff (E.call Try.call85 rfl (fun _ w s => (by have hh := w_rollStep someL (some ⟨g27, 0, none⟩) g27 0 9 4 w (RL.ofH s (by repeat (first | exact List.Mem.head _ | apply List.Mem.tail))); rw [rb4] at hh; exact hh)) rfl) rfl (fun _ => ?_)
 refine pM rfl rfl ?_
 refine pP (Y.extract rfl rfl) rfl ?_
 refine pP (Y.extract rfl rfl) rfl ?_
 refine WL.eff (E.alloc Try.zeroValue34 rfl rfl) rfl (fun b4 => ?_)
 refine WL.eff (E.store Try.sizeOf34 rfl rfl rfl rfl rfl u0 rfl rfl) rfl (fun _ => ?_)
 refine pA rfl rfl ?_
 refine nN ?_
 refine sR ?_
 refine WL.eff (E.callB (fun g : Nat => .slice (some ⟨g, 0, none⟩) 9 9) (fun g => (g, flat someL, 34)) Try.call120 rfl (fun _ w s => w_some w) rfl) rfl (fun g32 => ?_)
 refine pP (Y.slToN 7 rfl Try.underlying39 Try.sizeOf34 rfl rfl (by decide)) rfl ?_
 refine WL.eff (E.call Try.call85 rfl (fun _ w s => (by have hh := w_rollStep (someL.take 7) (some ⟨g32, 0, none⟩) g32 0 9 1 w ((RL.ofH s (by repeat (first | exact List.Mem.head _ | apply List.Mem.tail))).take 7); rw [rb5] at hh; exact hh)) rfl) rfl (fun _ => ?_)
 refine pM rfl rfl ?_
 refine pP (Y.extract rfl rfl) rfl ?_
 refine pP (Y.extract rfl rfl) rfl ?_
 refine WL.eff (E.alloc Try.zeroValue34 rfl rfl) rfl (fun b5 => ?_)
 refine WL.eff (E.store Try.sizeOf34 rfl rfl rfl rfl rfl u0 rfl rfl) rfl (fun _ => ?_)
 refine pA rfl rfl ?_
 refine nN ?_
 refine WC.seq ?_
 refine WC.know (p := i.1 = some ⟨gOf i.1, 0, none⟩) (fun a w s => (own_RL (l := rb2W.log) s.fact.1).addr (i := 10) (r := enR 3 10) rfl) (fun hAi => ?_)
 refine WC.drop [0] ?_
 refine WC.draw [(0, .q false), (1, .q false), (2, .q false), (3, .q false), (4, .q false), (5, .q false), (6, .q false), (7, .q false), (8, .q false), (9, .q false), (10, .q false), (11, .q false), (12, .q false), (13, .q false), (14, .q false), (15, .q false), (16, .q false), (17, .q false), (18, .q false), (19, .q true), (20, .q true), (21, .q false), (22, .q false), (23, .q false), (24, .q true), (25, .q true), (26, .q false), (27, .q false), (28, .q false), (29, .q false), (30, .q true), (31, .q false), (32, .q false), (33, .q false), (34, .q false), (35, .q false), (36, .q true), (37, .q false), (38, .q true), (39, .q true), (40, .q false), (41, .q false), (42, .q false), (43, .q false), (44, .q true), (45, .q false), (46, .q false), (47, .q false)] mixed (by kernel_rfl) ?_
 refine dP (Y.move rfl) rfl rfl ?_
 refine dP (Y.eql rfl rfl) rfl rfl ?_
 refine dP (Y.move rfl) rfl rfl ?_
 refine WDm.known (t := 39) (r := true) rfl (by decide) ?_
 refine dPg rfl (Y.move rfl) rfl rfl rfl ?_
 refine dPg rfl (Y.eql rfl rfl) rfl rfl rfl ?_
 refine dP (Y.pickT rfl rfl) rfl rfl ?_
 refine dP (Y.move rfl) rfl rfl ?_
 refine WDm.known (t := 43) (r := true) rfl (by decide) ?_
 refine dPg rfl (Y.move rfl) rfl rfl rfl ?_
 refine dPg rfl (Y.eql rfl rfl) rfl rfl rfl ?_
 refine dP (Y.pickT rfl rfl) rfl rfl ?_
 refine dP (Y.move rfl) rfl rfl ?_
 refine WDm.known (t := 47) (r := true) rfl (by decide) ?_
 refine dPg rfl (Y.move rfl) rfl rfl rfl ?_
 refine dPg rfl (Y.eql rfl rfl) rfl rfl rfl ?_
 refine dP (Y.pickT rfl rfl) rfl rfl ?_
 refine dP (Y.move rfl) rfl rfl ?_
 refine WDm.known (t := 51) (r := true) rfl (by decide) ?_
 refine dPg rfl (Y.move rfl) rfl rfl rfl ?_
 refine dPg rfl (Y.eql rfl rfl) rfl rfl rfl ?_
 refine dP (Y.pickT rfl rfl) rfl rfl ?_
 refine dP (Y.move rfl) rfl rfl ?_
 refine WDm.known (t := 55) (r := true) rfl (by decide) ?_
 refine dVg rfl (Y.loadAN (cs := (bkR 3 9 0 0 8 0 0).cl) (r := (bkR 3 9 0 0 8 0 0).cl) wd_34 rfl (by repeat (first | exact List.Mem.head _ | apply List.Mem.tail)) rfl) rfl rfl rfl ?_
 refine WDm.quiet (QS.guardT rfl rfl rfl (QS.call Try.call115 rfl (fun _ w s => w_bk _ _ _ _ _ _ _ w))) rfl rfl rfl ?_
 refine dPg rfl (Y.eqlA Try.eqGuardType34 rfl rfl (weq_rec (bkR 3 9 0 0 8 0 0) (bkR 3 9 0 0 8 0 0))) rfl rfl rfl ?_
 refine dP (Y.pickT rfl rfl) rfl rfl ?_
 refine dP (Y.move rfl) rfl rfl ?_
 refine WDm.known (t := 60) (r := true) rfl (by decide) ?_
 refine dVg rfl (Y.loadAN (cs := (enR 1 7).cl) (r := (enR 1 7).cl) wd_34 rfl (by repeat (first | exact List.Mem.head _ | apply List.Mem.tail)) rfl) rfl rfl rfl ?_
 refine WDm.quiet (QS.guardT rfl rfl rfl (QS.call Try.call114 rfl (fun _ w s => w_en _ _ w))) rfl rfl rfl ?_
 refine dPg rfl (Y.eqlA Try.eqGuardType34 rfl rfl (weq_rec (enR 1 7) (enR 1 7))) rfl rfl rfl ?_
 refine dP (Y.pickT rfl rfl) rfl rfl ?_
 refine dP (Y.move rfl) rfl rfl ?_
 refine WDm.known (t := 65) (r := true) rfl (by decide) ?_
 refine dPg rfl (Y.fieldAddr fa_54_1 rfl) rfl rfl rfl ?_
 refine dVg rfl (Y.load (cs := (rb2W).cl i.1 i.2) (v := .slice i.1 (rb2W).log.length i.2) fl_39 rfl (by repeat (first | exact List.Mem.head _ | apply List.Mem.tail)) rfl) rfl rfl rfl ?_
 refine dPg rfl (Y.len Try.underlying39 rfl) rfl rfl rfl ?_
 refine dPg rfl (Y.eql rfl rfl) rfl rfl rfl ?_
 refine dP (Y.pickT rfl rfl) rfl rfl ?_
 refine dP (Y.move rfl) rfl rfl ?_
 refine WDm.known (t := 71) (r := true) rfl (by decide) ?_
 refine dPg rfl (Y.fieldAddr fa_54_1 rfl) rfl rfl rfl ?_
 refine dVg rfl (Y.load (cs := (rb2W).cl i.1 i.2) (v := .slice i.1 (rb2W).log.length i.2) fl_39 rfl (by repeat (first | exact List.Mem.head _ | apply List.Mem.tail)) rfl) rfl rfl rfl ?_
 refine dPg rfl (Y.ixSlA (A := i.1) (b := gOf i.1) (o := 0) Try.underlying39 Try.sizeOf34 rfl rfl hAi (by decide) (by decide)) rfl rfl rfl ?_
 refine dVg rfl (Y.loadAc wd_34 rfl (r := (enR 3 10).cl) rfl (fun a w s j hj => (own_RL (l := rb2W.log) s.fact.1).full (i := 10) rfl j hj)) rfl rfl rfl ?_
 refine WDm.quiet (QS.guardT rfl rfl rfl (QS.call Try.call114 rfl (fun _ w s => w_en _ _ w))) rfl rfl rfl ?_
 refine dPg rfl (Y.eqlA Try.eqGuardType34 rfl rfl (weq_rec (enR 3 10) (enR 3 10))) rfl rfl rfl ?_
 refine dP (Y.pickT rfl rfl) rfl rfl ?_
 refine dP (Y.move rfl) rfl rfl ?_
 refine WDm.known (t := 79) (r := true) rfl (by decide) ?_
 refine dPg rfl (Y.fieldAddr fa_54_2 rfl) rfl rfl rfl ?_
 refine dVg rfl (Y.load (cs := (rb2W).cl i.1 i.2) (v := .int .i64 6) fl_3 rfl (by repeat (first | exact List.Mem.head _ | apply List.Mem.tail)) rfl) rfl rfl rfl ?_
 refine dPg rfl (Y.eql rfl rfl) rfl rfl rfl ?_
 refine dP (Y.pickT rfl rfl) rfl rfl ?_
 refine dP (Y.assign rfl) rfl rfl ?_
 refine WDm.nil (WQ.and ?_)
 refine WQ.next ?_
 refine WC.ret ?_
 refine dn1 Try.results87 rfl (fun a w s => ?_)
 · refine ⟨?_, s.low⟩
   rfl

theorem w_RollSteps (l : List R) (A : Option Addr) (b o c : Nat) (t : Int) (w : World) (hm : l.length ≤ maxLen) (hcap : l.length ≤ c) (hr : RL w A b o l) : Ret Try.prog 20 [.slice A l.length c, .int .i64 t] w (.bool true) := by
 refine enter Try.func20 rfl Try.ntmps20 rfl SF.top trivial ?_
 refine sR ?_
 refine pA rfl rfl ?_
 refine nN ?_
 refine sR ?_
 refine pM rfl rfl ?_
 refine pM rfl rfl ?_
 refine WL.eff (E.call Try.call85 rfl (fun _ w s => w_rollStep l A b o c t w (hr.below s.low)) rfl) rfl (fun _ => ?_)
 refine pM rfl rfl ?_
 refine pP (Y.extract rfl rfl) rfl ?_
 refine pP (Y.extract rfl rfl) rfl ?_
 refine WL.eff (E.alloc Try.zeroValue34 rfl rfl) rfl (fun b1 => ?_)
 refine WL.eff (E.store Try.sizeOf34 rfl rfl rfl rfl rfl u0 rfl rfl) rfl (fun _ => ?_)
 refine pA rfl rfl ?_
 refine nN ?_
 refine sR ?_
 refine pM rfl rfl ?_
 refine pM rfl rfl ?_
 refine WL.eff (E.call Try.call86 rfl (fun _ w s => w_rollOf l A b o c t w hm hcap (hr.below s.low)) rfl) rfl (fun _ => ?_)
 refine pM rfl rfl ?_
 refine pP (Y.extract rfl rfl) rfl ?_
 refine pP (Y.extract rfl rfl) rfl ?_
 refine WL.eff (E.alloc Try.zeroValue34 rfl rfl) rfl (fun b2 => ?_)
 refine WL.eff (E.store Try.sizeOf34 rfl rfl rfl rfl rfl u0 rfl rfl) rfl (fun _ => ?_)
 refine pA rfl rfl ?_
 refine nN ?_
 refine sR ?_
 refine WL.eff (E.call Try.call87 rfl (fun _ w s => w_rollBegun w) rfl) rfl (fun _ => ?_)
 refine pM rfl rfl ?_
 refine gT rfl ?_
 refine pV (Y.loadA wd_34 rfl m1 rfl) rfl ?_
 refine gT rfl ?_
 refine pV (Y.loadA wd_34 rfl m0 rfl) rfl ?_
 refine gT rfl ?_
 refine pP (Y.eqlA Try.eqGuardType34 rfl rfl (weq_rec (rollOf l t).1 (rollOf l t).1)) rfl ?_
 refine pP (Y.pickT rfl rfl) rfl ?_
 refine pM rfl rfl ?_
 refine WL.known (t := 27) (r := true) rfl (by simp) ?_
 refine gT rfl ?_
 refine pM rfl rfl ?_
 refine gT rfl ?_
 refine pM rfl rfl ?_
 refine gT rfl ?_
 refine pP (Y.eql rfl rfl) rfl ?_
 refine pP (Y.pickT rfl rfl) rfl ?_
 refine pA rfl rfl ?_
 refine nN ?_
 refine WC.ret ?_
 refine dn1 Try.results20 rfl (fun a w s => ?_)
 · refine ⟨?_, s.low⟩
   simp [packed]

theorem w_RollAborts (x : Wd) (A : Option Addr) (b o c : Nat) (t : Int) (w : World) (hm : x.log.length ≤ maxLen) (hcap : x.log.length ≤ c) (hr : RL w A b o x.log) : Ret Try.prog 21 [x.val A c, .int .i64 t] w (.bool true) := by
 refine enter Try.func21 rfl Try.ntmps21 rfl SF.top trivial ?_
 refine sR ?_
 refine WL.eff (E.box rfl rfl rfl) rfl (fun b1 => ?_)
 refine pA rfl rfl ?_
 refine nN ?_
 refine sR ?_
 refine pV (Y.loadAN wd_54 rfl (by repeat (first | exact List.Mem.head _ | apply List.Mem.tail)) (r := (x).cl A c) rfl) rfl ?_
 refine pM rfl rfl ?_
 refine WL.eff (E.retW ((abortOf x t).1) [.int .i64 (abortOf x t).2] Try.call88 rfl (fun _ w s => w_rollAbort x A b o c t w hm hcap (hr.below s.low)) rfl) rfl (fun i => ?_)
 refine pM rfl rfl ?_
 refine pP (Y.extract rfl rfl) rfl ?_
 refine pP (Y.extract rfl rfl) rfl ?_
 refine WL.eff (E.alloc Try.zeroValue54 rfl rfl) rfl (fun b2 => ?_)
 refine WL.eff (E.store Try.sizeOf54 rfl rfl rfl rfl rfl u0 rfl rfl) rfl (fun _ => ?_)
 refine pA rfl rfl ?_
 refine nN ?_
 refine sR ?_
 refine pV (Y.loadAN wd_54 rfl (by repeat (first | exact List.Mem.head _ | apply List.Mem.tail)) (r := (x).cl A c) rfl) rfl ?_
 refine pM rfl rfl ?_
 refine WL.eff (E.retW ((abortOf x t).1) [.int .i64 (abortOf x t).2] Try.call89 rfl (fun _ w s => w_abortOf x A b o c t w hm hcap (hr.below s.low)) rfl) rfl (fun j => ?_)
 refine pM rfl rfl ?_
 refine pP (Y.extract rfl rfl) rfl ?_
 refine pP (Y.extract rfl rfl) rfl ?_
 refine WL.eff (E.alloc Try.zeroValue54 rfl rfl) rfl (fun b3 => ?_)
 refine WL.eff (E.store Try.sizeOf54 rfl rfl rfl rfl rfl u0 rfl rfl) rfl (fun _ => ?_)
 refine pA rfl rfl ?_
 refine nN ?_
 refine sR ?_
 refine WL.eff (E.call Try.call87 rfl (fun _ w s => w_rollBegun w) rfl) rfl (fun _ => ?_)
 refine pM rfl rfl ?_
 refine gT rfl ?_
 refine pV (Y.loadAN wd_54 rfl (by repeat (first | exact List.Mem.head _ | apply List.Mem.tail)) (r := ((abortOf x t).1).cl i.1 i.2) rfl) rfl ?_
 refine gT rfl ?_
 refine pV (Y.loadAN wd_54 rfl (by repeat (first | exact List.Mem.head _ | apply List.Mem.tail)) (r := ((abortOf x t).1).cl j.1 j.2) rfl) rfl ?_
 refine gT rfl ?_
 refine WL.eff (E.call Try.call83 rfl (fun _ w s => w_sameWorlds ((abortOf x t).1) ((abortOf x t).1) i.1 j.1 (gOf i.1) 0 i.2 (gOf j.1) 0 j.2 w (own_max s.fact.2.1.1) (own_RL s.fact.2.1.1) (own_RL s.fact.1)) rfl) rfl (fun _ => ?_)
 refine pP (Y.pickT rfl rfl) rfl ?_
 refine pM rfl rfl ?_
 refine WL.known (t := 27) (r := true) rfl (by simp) ?_
 refine gT rfl ?_
 refine pM rfl rfl ?_
 refine gT rfl ?_
 refine pM rfl rfl ?_
 refine gT rfl ?_
 refine pP (Y.eql rfl rfl) rfl ?_
 refine pP (Y.pickT rfl rfl) rfl ?_
 refine pA rfl rfl ?_
 refine nN ?_
 refine WC.ret ?_
 refine dn1 Try.results21 rfl (fun a w s => ?_)
 · refine ⟨?_, s.low⟩
   simp [packed]
end Go.Proofs.Ytdbcimadjmdffaa
