/- The law ActRight. No condition. -/
import Derived.Test.YtdbcimadjmdffaaDc
import Derived.Test.YtdbcimadjmdffaaAn
set_option maxRecDepth 100000
set_option linter.unusedVariables false
set_option linter.unusedSimpArgs false
set_option linter.unusedSectionVars false
set_option maxHeartbeats 4000000
namespace Go.Proofs.Ytdbcimadjmdffaa
open Go.RowKit Go.Joins
theorem w_ActRight (x : Wd) (A : Option Addr) (b o c : Nat) (y : Ac) (w : World) (hm : x.log.length ≤ maxLen) (hcap : x.log.length ≤ c) (hr : RL w A b o x.log) : Ret Try.prog 39 [x.val A c, y.v] w (.bool true) := by
 refine enter Try.func39 rfl Try.ntmps39 rfl SF.top trivial ?_
 refine sR ?_
 refine WL.eff (E.box rfl rfl rfl) rfl (fun b1 => ?_)
 refine WL.eff (E.box rfl rfl rfl) rfl (fun b2 => ?_)
 refine pA rfl rfl ?_
 refine nN ?_
 refine WC.seq ?_
 obtain ⟨z, e0, hz⟩ : ∃ z e, doOf x y = (z, e) := ⟨_, _, rfl⟩
 refine WC.region ?_
 refine pV (Y.loadAN wd_54 rfl (by repeat (first | exact List.Mem.head _ | apply List.Mem.tail)) (r := (x).cl A c) rfl) rfl ?_
 refine pV (Y.loadAN wd_61 rfl (by repeat (first | exact List.Mem.head _ | apply List.Mem.tail)) (r := y.cl) rfl) rfl ?_
 refine WL.eff (E.retW (z) [.int .i64 e0] Try.call65 rfl (fun _ w s => (by have hh := w_actDo x A b o c y w hm hcap (hr.below s.low); rw [hz] at hh; exact hh)) rfl) rfl (fun i => ?_)
 refine pM rfl rfl ?_
 refine pP (Y.extract rfl rfl) rfl ?_
 refine pP (Y.extract rfl rfl) rfl ?_
 refine WL.eff (E.alloc Try.zeroValue54 rfl rfl) rfl (fun b3 => ?_)
 refine WL.eff (E.store Try.sizeOf54 rfl rfl rfl rfl rfl u0 rfl rfl) rfl (fun _ => ?_)
 refine pA rfl rfl ?_
 refine nN ?_
 refine WC.seq ?_
 refine sR ?_
 refine pM rfl rfl ?_
 refine pP (Y.neq rfl rfl) rfl ?_
 refine pM rfl rfl ?_
 refine WL.split (t := 15) rfl (fun r h15 => ?_)
 cases r
 have hh15 : e0 = 0 := by have h15 := h15; simpa using h15
 have hdo : (doOf x y).2 = 0 := by rw [hz]; exact hh15
 obtain ⟨h0, hw, hle, hzk⟩ := do_grows hdo
 rw [hz] at hw hle hzk
 dsimp only at hw hle hzk
 obtain ⟨_, _, _, hsx, _⟩ := world_right h0
 obtain ⟨_, _, _, hsy, _⟩ := world_right hw
 have hnn : x.safe.toNat ≤ z.log.length := by omega
 obtain ⟨lk, hxk⟩ : ∃ l, x.log.take x.safe.toNat = l := ⟨_, rfl⟩
 rw [hxk] at hzk
 have elk : lk.length = x.safe.toNat := by rw [← hzk, List.length_take]; omega
 refine gT rfl ?_
 refine pV (Y.loadAN wd_54 rfl (by repeat (first | exact List.Mem.head _ | apply List.Mem.tail)) (r := (x).cl A c) rfl) rfl ?_
 refine gT rfl ?_
 refine WL.eff (E.call Try.call63 rfl (fun _ w s => w_worldError x A b o c w hm hcap (hr.below s.low)) rfl) rfl (fun _ => ?_)
 refine gT rfl ?_
 refine pP (Y.neq rfl rfl) rfl ?_
 refine pP (Y.pickF rfl rfl) rfl ?_
 refine nN ?_
 refine WC.isF rfl (by rw [h0]; rfl) ?_
 refine WC.skip' ?_
 refine WQ.next ?_
 refine WC.seq ?_
 refine sR ?_
 refine pV (Y.loadAN wd_54 rfl (by repeat (first | exact List.Mem.head _ | apply List.Mem.tail)) (r := (z).cl i.1 i.2) rfl) rfl ?_
 refine WL.eff (E.call Try.call77 rfl (fun _ w s => w_worldCheck z i.1 (gOf i.1) 0 i.2 w (own_max s.fact.1) (own_le s.fact.1) (own_RL s.fact.1)) rfl) rfl (fun _ => ?_)
 refine pP (Y.neq rfl rfl) rfl ?_
 refine pM rfl rfl ?_
 refine WL.known (t := 28) (r := false) rfl (by rw [hw]; rfl) ?_
 refine gT rfl ?_
 refine pP (Y.fieldAddr fa_54_2 rfl) rfl ?_
 refine gT rfl ?_
 refine pV (Y.load (cs := (z).cl i.1 i.2) (v := .int .i64 z.safe) fl_3 rfl (by repeat (first | exact List.Mem.head _ | apply List.Mem.tail)) rfl) rfl ?_
 refine gT rfl ?_
 refine pP (Y.fieldAddr fa_54_2 rfl) rfl ?_
 refine gT rfl ?_
 refine pV (Y.load (cs := (x).cl A c) (v := .int .i64 x.safe) fl_3 rfl (by repeat (first | exact List.Mem.head _ | apply List.Mem.tail)) rfl) rfl ?_
 refine gT rfl ?_
 refine pP (Y.lss rfl rfl) rfl ?_
 refine pP (Y.pickF rfl rfl) rfl ?_
 refine pM rfl rfl ?_
 refine WL.known (t := 35) (r := false) rfl (by simp; omega) ?_
 refine gT rfl ?_
 refine pP (Y.fieldAddr fa_54_1 rfl) rfl ?_
 refine gT rfl ?_
 refine pV (Y.load (cs := (z).cl i.1 i.2) (v := .slice i.1 (z).log.length i.2) fl_39 rfl (by repeat (first | exact List.Mem.head _ | apply List.Mem.tail)) rfl) rfl ?_
 refine gT rfl ?_
 refine pP (Y.len Try.underlying39 rfl) rfl ?_
 refine gT rfl ?_
 refine pP (Y.fieldAddr fa_54_2 rfl) rfl ?_
 refine gT rfl ?_
 refine pV (Y.load (cs := (x).cl A c) (v := .int .i64 x.safe) fl_3 rfl (by repeat (first | exact List.Mem.head _ | apply List.Mem.tail)) rfl) rfl ?_
 refine gT rfl ?_
 refine pP (Y.lss rfl rfl) rfl ?_
 refine pP (Y.pickF rfl rfl) rfl ?_
 refine nN ?_
 refine WC.isF rfl (by simp; omega) ?_
 refine WC.skip' ?_
 refine WQ.next ?_
 refine WC.seq ?_
 refine WC.know (p := z.log.length ≤ i.2) (fun a w s => own_le s.fact.1) (fun hyc => ?_)
 refine WC.drop [4] ?_
 refine WC.draw [(0, .q true), (1, .q false), (2, .q false), (3, .q true), (4, .q false), (5, .q true), (6, .q false), (7, .q false), (8, .q true), (9, .q false), (10, .q true), (11, .q false), (12, .q true), (13, .q false), (14, .q false)] mixed (by kernel_rfl) ?_
 refine WDm.quiet (QS.call Try.call64 rfl (fun _ w s => w_actBegun w)) rfl rfl rfl ?_
 refine dP (Y.move rfl) rfl rfl ?_
 refine dPg rfl (Y.fieldAddr fa_54_1 rfl) rfl rfl rfl ?_
 refine dVg rfl (Y.load (cs := (z).cl i.1 i.2) (v := .slice i.1 (z).log.length i.2) fl_39 rfl (by repeat (first | exact List.Mem.head _ | apply List.Mem.tail)) rfl) rfl rfl rfl ?_
 refine dPg rfl (Y.fieldAddr fa_54_2 rfl) rfl rfl rfl ?_
 refine dVg rfl (Y.load (cs := (x).cl A c) (v := .int .i64 x.safe) fl_3 rfl (by repeat (first | exact List.Mem.head _ | apply List.Mem.tail)) rfl) rfl rfl rfl ?_
 refine dPg rfl (Y.slToN lk.length (by rw [elk]; omega) Try.underlying39 Try.sizeOf34 rfl rfl (by rw [elk]; omega)) rfl rfl rfl ?_
 refine dPg rfl (Y.fieldAddr fa_54_1 rfl) rfl rfl rfl ?_
 refine dVg rfl (Y.load (cs := (x).cl A c) (v := .slice A (x).log.length c) fl_39 rfl (by repeat (first | exact List.Mem.head _ | apply List.Mem.tail)) rfl) rfl rfl rfl ?_
 refine dPg rfl (Y.fieldAddr fa_54_2 rfl) rfl rfl rfl ?_
 refine dVg rfl (Y.load (cs := (x).cl A c) (v := .int .i64 x.safe) fl_3 rfl (by repeat (first | exact List.Mem.head _ | apply List.Mem.tail)) rfl) rfl rfl rfl ?_
 refine dPg rfl (Y.slToN lk.length (by rw [elk]; omega) Try.underlying39 Try.sizeOf34 rfl rfl (by rw [elk]; omega)) rfl rfl rfl ?_
 refine WDm.quiet (QS.guardT rfl rfl rfl (QS.call Try.call84 rfl (fun _ w s => w_sameLogs lk lk i.1 A (gOf i.1) 0 i.2 b o c w (by rw [elk]; have := own_max s.fact.1; omega) (by have h := (own_RL s.fact.1).take x.safe.toNat; rw [hzk] at h; exact h) (by have h := (hr.below s.low).take x.safe.toNat; rw [hxk] at h; exact h)))) rfl rfl rfl ?_
 refine dP (Y.pickT rfl rfl) rfl rfl ?_
 refine dP (Y.assign rfl) rfl rfl ?_
 refine WDm.nil (WQ.and ?_)
 refine WQ.next ?_
 refine WC.ret ?_
 refine dn1 Try.results39 rfl (fun a w s => ?_)
 · refine ⟨?_, s.low⟩
   clear s
   first
     | (simp [packed]; done)
     | (have h15 := h15; simpa [packed] using h15)
     | rfl
 refine gF rfl ?_
 refine gF rfl ?_
 refine gF rfl ?_
 refine pP (Y.pickT rfl rfl) rfl ?_
 refine nN ?_
 refine WC.condT rfl ?_
 refine sR ?_
 refine WL.eff (E.call Try.call64 rfl (fun _ w s => w_actBegun w) rfl) rfl (fun _ => ?_)
 refine pM rfl rfl ?_
 refine gT rfl ?_
 refine pM rfl rfl ?_
 refine gT rfl ?_
 refine pP (Y.neq rfl rfl) rfl ?_
 refine pP (Y.pickT rfl rfl) rfl ?_
 refine pA rfl rfl ?_
 refine nN ?_
 refine WC.ret ?_
 refine WQ.thenRet ?_
 refine dn1 Try.results39 rfl (fun a w s => ?_)
 · refine ⟨?_, s.low⟩
   clear s
   first
     | (simp [packed]; done)
     | (have h15 := h15; simpa [packed] using h15)
     | rfl
end Go.Proofs.Ytdbcimadjmdffaa
