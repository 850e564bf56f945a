/- The laws MendAlls, MendHalves, MendOnce. No condition. -/
import Derived.Test.YtdbcimadjmdffaaCv
import Derived.Test.YtdbcimadjmdffaaBv
import Derived.Test.YtdbcimadjmdffaaCc
set_option maxRecDepth 100000
set_option linter.unusedVariables false
set_option linter.unusedSimpArgs false
set_option linter.unusedSectionVars false
set_option maxHeartbeats 4000000
namespace Go.Proofs.Ytdbcimadjmdffaa
open Go.RowKit Go.Joins
def mb1W : Wd := ⟨⟨⟨0, 0, 0, 7⟩, ⟨0, 6, 0, 2⟩, Pg.zero⟩, someL.take 8, 8⟩
def mb2W : Wd := ⟨⟨⟨0, 0, 0, 7⟩, ⟨0, 6, 0, 2⟩, Pg.zero⟩, someL.take 7, 7⟩
theorem mq1 : mendOf labW (-1) true true true = (mb1W, 2, 0) := by decide +kernel
theorem mq2 : halfOf labW 1 [true, false, false] = (mb2W, 0) := by decide +kernel
theorem mq3 : halfOf labW (-1) [true, false, false] = (Wd.zero, 3) := by decide +kernel
theorem mq4 : halfOf labW 1 [] = (Wd.zero, 1) := by decide +kernel
theorem mq5 : mendOf mb2W (-1) true true true = (mb1W, 1, 0) := by decide +kernel
theorem BL.nil (w : World) : BL w none 0 0 [] := ⟨fun h => absurd rfl h, fun i r h => by simp at h⟩
theorem half_ok {x : Wd} {s : Int} {l : List Bool} (h : (halfOf x s l).2 = 0) : ∃ a b c, l = [a, b, c] ∧ 0 ≤ s ∧ worldErr x = 0 ∧ halfOf x s l = ((mendOf x s a b c).1, (mendOf x s a b c).2.2) := by
  by_cases h0 : worldErr x = 0
  · by_cases hs : s < 0
    · rw [half_neg h0 hs] at h; simp at h
    · by_cases hl : l.length = 3
      · obtain ⟨a, b, c, rfl⟩ := three_of hl
        exact ⟨a, b, c, rfl, by omega, h0, half_is h0 hs a b c⟩
      · rw [half_len h0 hs hl] at h; simp at h
  · rw [half_err h0] at h; exact absurd h h0
theorem once_ok {x : Wd} {s : Int} {l : List Bool} (h : (halfOf x s l).2 = 0) (h2 : (mendOf x (-1) true true true).2.2 = 0) :
    worldErr (halfOf x s l).1 = 0 ∧ (mendOf (halfOf x s l).1 (-1) true true true).1 = (mendOf x (-1) true true true).1 ∧ (mendOf (halfOf x s l).1 (-1) true true true).2.2 = 0 ∧ (mendOf (halfOf x s l).1 (-1) true true true).2.1 ≤ (mendOf x (-1) true true true).2.1 := by
  obtain ⟨a, b, c, rfl, hs, h0, e⟩ := half_ok h
  rw [e] at h ⊢
  exact mend_once h h2

theorem w_mendBegun (w : World) : Ret Try.prog 102 [] w (.bool true) := by
 refine enter Try.func102 rfl Try.ntmps102 rfl SF.top trivial ?_
 refine sR ?_
 refine pA rfl rfl ?_
 refine nN ?_
 refine sR ?_
 refine WL.eff (E.callB (fun g : Nat => labW.val (some ⟨g, 0, none⟩) 9) (fun g => (g, flat someL, 34)) Try.call132 rfl (fun _ w s => w_lab w) rfl) rfl (fun g14 => ?_)
 refine WL.eff (E.retW (mb1W) [.int .i64 2, .int .i64 0] Try.call66 rfl (fun _ w s => (by have hh := w_mendAll labW (some ⟨g14, 0, none⟩) g14 0 9 w (short_max (by decide)) (by decide) (RL.ofH s (by repeat (first | exact List.Mem.head _ | apply List.Mem.tail))); rw [mq1] at hh; exact hh)) rfl) rfl (fun i1 => ?_)
 refine pM rfl rfl ?_
 refine pP (Y.extract rfl rfl) rfl ?_
 refine pP (Y.extract rfl rfl) rfl ?_
 refine pP (Y.extract rfl rfl) rfl ?_
 refine WL.eff (E.alloc Try.zeroValue54 rfl rfl) rfl (fun b1 => ?_)
 refine WL.eff (E.store Try.sizeOf54 rfl rfl rfl rfl rfl u0 rfl rfl) rfl (fun _ => ?_)
 refine pA rfl rfl ?_
 refine pA rfl rfl ?_
 refine nN ?_
 refine sR ?_
 refine WL.eff (E.callB (fun g : Nat => labW.val (some ⟨g, 0, none⟩) 9) (fun g => (g, flat someL, 34)) Try.call132 rfl (fun _ w s => w_lab w) rfl) rfl (fun g20 => ?_)
 refine WL.eff (E.buildSlice (bs_89_3 _ _ _) rfl rfl) rfl (fun b2 => ?_)
 refine WL.eff (E.retW (mb2W) [.int .i64 0] Try.call103 rfl (fun _ w s => (by have hh := w_mendHalf labW (some ⟨g20, 0, none⟩) g20 0 9 1 [true, false, false] (some ⟨b2, 0, none⟩) b2 0 3 w (BL.ofW [true, false, false] s.wp (by repeat (first | exact List.Mem.head _ | apply List.Mem.tail)) rfl) (by decide) (short_max (by decide)) (by decide) (RL.ofH s (by repeat (first | exact List.Mem.head _ | apply List.Mem.tail))); rw [mq2] at hh; exact hh)) rfl) rfl (fun i2 => ?_)
 refine pM rfl rfl ?_
 refine pP (Y.extract rfl rfl) rfl ?_
 refine pP (Y.extract rfl rfl) rfl ?_
 refine WL.eff (E.alloc Try.zeroValue54 rfl rfl) rfl (fun b3 => ?_)
 refine WL.eff (E.store Try.sizeOf54 rfl rfl rfl rfl rfl u0 rfl rfl) rfl (fun _ => ?_)
 refine pA rfl rfl ?_
 refine nN ?_
 refine sR ?_
 refine WL.eff (E.callB (fun g : Nat => labW.val (some ⟨g, 0, none⟩) 9) (fun g => (g, flat someL, 34)) Try.call132 rfl (fun _ w s => w_lab w) rfl) rfl (fun g26 => ?_)
 refine WL.eff (E.buildSlice (bs_89_3 _ _ _) rfl rfl) rfl (fun b4 => ?_)
 refine WL.eff (E.retW (Wd.zero) [.int .i64 3] Try.call103 rfl (fun _ w s => (by have hh := w_mendHalf labW (some ⟨g26, 0, none⟩) g26 0 9 (-1) [true, false, false] (some ⟨b4, 0, none⟩) b4 0 3 w (BL.ofW [true, false, false] s.wp (by repeat (first | exact List.Mem.head _ | apply List.Mem.tail)) rfl) (by decide) (short_max (by decide)) (by decide) (RL.ofH s (by repeat (first | exact List.Mem.head _ | apply List.Mem.tail))); rw [mq3] at hh; exact hh)) rfl) rfl (fun i3 => ?_)
 refine pM rfl rfl ?_
 refine pP (Y.extract rfl rfl) rfl ?_
 refine pP (Y.extract rfl rfl) rfl ?_
 refine WL.eff (E.alloc Try.zeroValue54 rfl rfl) rfl (fun b5 => ?_)
 refine WL.eff (E.store Try.sizeOf54 rfl rfl rfl rfl rfl u0 rfl rfl) rfl (fun _ => ?_)
 refine pA rfl rfl ?_
 refine nN ?_
 refine sR ?_
 refine WL.eff (E.callB (fun g : Nat => labW.val (some ⟨g, 0, none⟩) 9) (fun g => (g, flat someL, 34)) Try.call132 rfl (fun _ w s => w_lab w) rfl) rfl (fun g32 => ?_)
 refine WL.eff (E.retW (Wd.zero) [.int .i64 1] Try.call103 rfl (fun _ w s => (by have hh := w_mendHalf labW (some ⟨g32, 0, none⟩) g32 0 9 1 [] none 0 0 0 w (BL.nil w) (by decide) (short_max (by decide)) (by decide) (RL.ofH s (by repeat (first | exact List.Mem.head _ | apply List.Mem.tail))); rw [mq4] at hh; exact hh)) rfl) rfl (fun i4 => ?_)
 refine pM rfl rfl ?_
 refine pP (Y.extract rfl rfl) rfl ?_
 refine pP (Y.extract rfl rfl) rfl ?_
 refine WL.eff (E.alloc Try.zeroValue54 rfl rfl) rfl (fun b6 => ?_)
 refine WL.eff (E.store Try.sizeOf54 rfl rfl rfl rfl rfl u0 rfl rfl) rfl (fun _ => ?_)
 refine pA rfl rfl ?_
 refine nN ?_
 refine sR ?_
 refine pV (Y.loadAN wd_54 rfl (by repeat (first | exact List.Mem.head _ | apply List.Mem.tail)) (r := (mb2W).cl i2.1 i2.2) rfl) rfl ?_
 refine WL.eff (E.retW (mb1W) [.int .i64 1, .int .i64 0] Try.call66 rfl (fun _ w s => (by have hh := w_mendAll mb2W i2.1 (gOf i2.1) 0 i2.2 w (short_max (by decide)) (own_le s.fact.2.1.2.1.1) (own_RL s.fact.2.1.2.1.1); rw [mq5] at hh; exact hh)) rfl) rfl (fun i5 => ?_)
 refine pM rfl rfl ?_
 refine pP (Y.extract rfl rfl) rfl ?_
 refine pP (Y.extract rfl rfl) rfl ?_
 refine pP (Y.extract rfl rfl) rfl ?_
 refine WL.eff (E.alloc Try.zeroValue54 rfl rfl) rfl (fun b7 => ?_)
 refine WL.eff (E.store Try.sizeOf54 rfl rfl rfl rfl rfl u0 rfl rfl) rfl (fun _ => ?_)
 refine pA rfl rfl ?_
 refine pA rfl rfl ?_
 refine nN ?_
 refine sR ?_
 refine pM rfl rfl ?_
 refine pP (Y.eql rfl rfl) rfl ?_
 refine pM rfl rfl ?_
 refine WL.known (t := 44) (r := true) rfl (by decide) ?_
 refine gT rfl ?_
 refine pM rfl rfl ?_
 refine gT rfl ?_
 refine pP (Y.eql rfl rfl) rfl ?_
 refine pP (Y.pickT rfl rfl) rfl ?_
 refine pM rfl rfl ?_
 refine WL.known (t := 48) (r := true) rfl (by decide) ?_
 refine gT rfl ?_
 refine pM rfl rfl ?_
 refine gT rfl ?_
 refine pP (Y.eql rfl rfl) rfl ?_
 refine pP (Y.pickT rfl rfl) rfl ?_
 refine pM rfl rfl ?_
 refine WL.known (t := 52) (r := true) rfl (by decide) ?_
 refine gT rfl ?_
 refine pM rfl rfl ?_
 refine gT rfl ?_
 refine pP (Y.eql rfl rfl) rfl ?_
 refine pP (Y.pickT rfl rfl) rfl ?_
 refine pM rfl rfl ?_
 refine WL.known (t := 56) (r := true) rfl (by decide) ?_
 refine gT rfl ?_
 refine pM rfl rfl ?_
 refine gT rfl ?_
 refine pP (Y.eql rfl rfl) rfl ?_
 refine pP (Y.pickT rfl rfl) rfl ?_
 refine pM rfl rfl ?_
 refine WL.known (t := 60) (r := true) rfl (by decide) ?_
 refine gT rfl ?_
 refine pM rfl rfl ?_
 refine gT rfl ?_
 refine pP (Y.eql rfl rfl) rfl ?_
 refine pP (Y.pickT rfl rfl) rfl ?_
 refine pM rfl rfl ?_
 refine WL.known (t := 64) (r := true) rfl (by decide) ?_
 refine gT rfl ?_
 refine pP (Y.fieldAddr fa_54_1 rfl) rfl ?_
 refine gT rfl ?_
 refine pV (Y.load (cs := (mb1W).cl i1.1 i1.2) (v := .slice i1.1 (mb1W).log.length i1.2) fl_39 rfl (by repeat (first | exact List.Mem.head _ | apply List.Mem.tail)) rfl) rfl ?_
 refine gT rfl ?_
 refine pP (Y.len Try.underlying39 rfl) rfl ?_
 refine gT rfl ?_
 refine pP (Y.eql rfl rfl) rfl ?_
 refine pP (Y.pickT rfl rfl) rfl ?_
 refine pM rfl rfl ?_
 refine WL.known (t := 70) (r := true) rfl (by decide) ?_
 refine gT rfl ?_
 refine pP (Y.fieldAddr fa_54_2 rfl) rfl ?_
 refine gT rfl ?_
 refine pV (Y.load (cs := (mb1W).cl i1.1 i1.2) (v := .int .i64 8) fl_3 rfl (by repeat (first | exact List.Mem.head _ | apply List.Mem.tail)) rfl) rfl ?_
 refine gT rfl ?_
 refine pP (Y.eql rfl rfl) rfl ?_
 refine pP (Y.pickT rfl rfl) rfl ?_
 refine pM rfl rfl ?_
 refine WL.known (t := 75) (r := true) rfl (by decide) ?_
 refine gT rfl ?_
 refine pP (Y.fieldAddr fa_54_0 rfl) rfl ?_
 refine gT rfl ?_
 refine pP (Y.ixArr Try.underlying42 Try.sizeOf24 rfl rfl (by omega) (by omega)) rfl ?_
 refine gT rfl ?_
 refine pV (Y.loadAN (cs := mb1W.cl i1.1 i1.2) wd_24 rfl (by repeat (first | exact List.Mem.head _ | apply List.Mem.tail)) (r := (⟨0, 0, 0, 7⟩ : Pg).cl) rfl) rfl ?_
 refine gT rfl ?_
 refine pP (Y.build rfl (bf_24_1 _)) rfl ?_
 refine gT rfl ?_
 refine pP (Y.eqlA Try.eqGuardType24 rfl rfl (weq_page (⟨0, 0, 0, 7⟩ : Pg) ⟨0, 0, 0, 7⟩)) rfl ?_
 refine pP (Y.pickT rfl rfl) rfl ?_
 refine pM rfl rfl ?_
 refine WL.known (t := 82) (r := true) rfl (by decide) ?_
 refine gT rfl ?_
 refine pP (Y.fieldAddr fa_54_0 rfl) rfl ?_
 refine gT rfl ?_
 refine pP (Y.ixArr Try.underlying42 Try.sizeOf24 rfl rfl (by omega) (by omega)) rfl ?_
 refine gT rfl ?_
 refine pP (Y.fieldAddr fa_24_0 rfl) rfl ?_
 refine gT rfl ?_
 refine pP (Y.ixArr Try.underlying22 Try.sizeOf3 rfl rfl (by omega) (by omega)) rfl ?_
 refine gT rfl ?_
 refine pV (Y.load (cs := (mb1W).cl i1.1 i1.2) (v := .int .i64 6) fl_3 rfl (by repeat (first | exact List.Mem.head _ | apply List.Mem.tail)) rfl) rfl ?_
 refine gT rfl ?_
 refine pP (Y.eql rfl rfl) rfl ?_
 refine pP (Y.pickT rfl rfl) rfl ?_
 refine pM rfl rfl ?_
 refine WL.known (t := 90) (r := true) rfl (by decide) ?_
 refine gT rfl ?_
 refine pP (Y.fieldAddr fa_54_1 rfl) rfl ?_
 refine gT rfl ?_
 refine pV (Y.load (cs := (mb2W).cl i2.1 i2.2) (v := .slice i2.1 (mb2W).log.length i2.2) fl_39 rfl (by repeat (first | exact List.Mem.head _ | apply List.Mem.tail)) rfl) rfl ?_
 refine gT rfl ?_
 refine pP (Y.len Try.underlying39 rfl) rfl ?_
 refine gT rfl ?_
 refine pP (Y.eql rfl rfl) rfl ?_
 refine pP (Y.pickT rfl rfl) rfl ?_
 refine pM rfl rfl ?_
 refine WL.known (t := 96) (r := true) rfl (by decide) ?_
 refine gT rfl ?_
 refine pP (Y.fieldAddr fa_54_0 rfl) rfl ?_
 refine gT rfl ?_
 refine pP (Y.ixArr Try.underlying42 Try.sizeOf24 rfl rfl (by omega) (by omega)) rfl ?_
 refine gT rfl ?_
 refine pP (Y.fieldAddr fa_24_1 rfl) rfl ?_
 refine gT rfl ?_
 refine pV (Y.load (cs := (mb2W).cl i2.1 i2.2) (v := .int .i64 7) fl_3 rfl (by repeat (first | exact List.Mem.head _ | apply List.Mem.tail)) rfl) rfl ?_
 refine gT rfl ?_
 refine pP (Y.eql rfl rfl) rfl ?_
 refine pP (Y.pickT rfl rfl) rfl ?_
 refine pM rfl rfl ?_
 refine WL.known (t := 103) (r := true) rfl (by decide) ?_
 refine gT rfl ?_
 refine pM rfl rfl ?_
 refine gT rfl ?_
 refine pP (Y.eql rfl rfl) rfl ?_
 refine pP (Y.pickT rfl rfl) rfl ?_
 refine pM rfl rfl ?_
 refine WL.known (t := 107) (r := true) rfl (by decide) ?_
 refine gT rfl ?_
 refine pV (Y.loadAN wd_54 rfl (by repeat (first | exact List.Mem.head _ | apply List.Mem.tail)) (r := (mb1W).cl i5.1 i5.2) rfl) rfl ?_
 refine gT rfl ?_
 refine pV (Y.loadAN wd_54 rfl (by repeat (first | exact List.Mem.head _ | apply List.Mem.tail)) (r := (mb1W).cl i1.1 i1.2) rfl) rfl ?_
 refine gT rfl ?_
 refine WL.eff (E.call Try.call83 rfl (fun _ w s => w_sameWorlds (mb1W) (mb1W) i5.1 i1.1 (gOf i5.1) 0 i5.2 (gOf i1.1) 0 i1.2 w (own_max s.fact.1) (own_RL s.fact.1) (own_RL s.fact.2.1.2.1.2.1.2.1.1)) rfl) rfl (fun _ => ?_)
 refine pP (Y.pickT rfl rfl) rfl ?_
 refine pA rfl rfl ?_
 refine nN ?_
 refine WC.ret ?_
 refine dn1 Try.results102 rfl (fun a w s => ?_)
 · refine ⟨?_, s.low⟩
   rfl

theorem w_MendAlls (x : Wd) (A : Option Addr) (b o c : Nat) (w : World) (hm : x.log.length ≤ maxLen) (hcap : x.log.length ≤ c) (hr : RL w A b o x.log) : Ret Try.prog 31 [x.val A c] w (.bool true) := by
 refine enter Try.func31 rfl Try.ntmps31 rfl SF.top trivial ?_
 refine sR ?_
 refine WL.eff (E.box rfl rfl rfl) rfl (fun b1 => ?_)
 refine pA rfl rfl ?_
 refine nN ?_
 refine sR ?_
 refine pV (Y.loadAN wd_54 rfl (by repeat (first | exact List.Mem.head _ | apply List.Mem.tail)) (r := (x).cl A c) rfl) rfl ?_
 refine WL.eff (E.retW ((mendOf x (-1) true true true).1) [.int .i64 (mendOf x (-1) true true true).2.1, .int .i64 (mendOf x (-1) true true true).2.2] Try.call66 rfl (fun _ w s => w_mendAll x A b o c w hm hcap (hr.below s.low)) rfl) rfl (fun i => ?_)
 refine pM rfl rfl ?_
 refine pP (Y.extract rfl rfl) rfl ?_
 refine pP (Y.extract rfl rfl) rfl ?_
 refine pP (Y.extract rfl rfl) rfl ?_
 refine WL.eff (E.alloc Try.zeroValue54 rfl rfl) rfl (fun b2 => ?_)
 refine WL.eff (E.store Try.sizeOf54 rfl rfl rfl rfl rfl u0 rfl rfl) rfl (fun _ => ?_)
 refine pA rfl rfl ?_
 refine pA rfl rfl ?_
 refine nN ?_
 refine sR ?_
 refine pV (Y.loadAN wd_54 rfl (by repeat (first | exact List.Mem.head _ | apply List.Mem.tail)) (r := (x).cl A c) rfl) rfl ?_
 refine WL.eff (E.retW ((mendOf x (-1) true true true).1) [.int .i64 (mendOf x (-1) true true true).2.1, .int .i64 (mendOf x (-1) true true true).2.2] Try.call101 rfl (fun _ w s => w_refMendAll x A b o c w hm hcap (hr.below s.low)) rfl) rfl (fun j => ?_)
 refine pM rfl rfl ?_
 refine pP (Y.extract rfl rfl) rfl ?_
 refine pP (Y.extract rfl rfl) rfl ?_
 refine pP (Y.extract rfl rfl) rfl ?_
 refine WL.eff (E.alloc Try.zeroValue54 rfl rfl) rfl (fun b3 => ?_)
 refine WL.eff (E.store Try.sizeOf54 rfl rfl rfl rfl rfl u0 rfl rfl) rfl (fun _ => ?_)
 refine pA rfl rfl ?_
 refine pA rfl rfl ?_
 refine nN ?_
 refine sR ?_
 refine WL.eff (E.call Try.call102 rfl (fun _ w s => w_mendBegun w) rfl) rfl (fun _ => ?_)
 refine pM rfl rfl ?_
 refine gT rfl ?_
 refine pV (Y.loadAN wd_54 rfl (by repeat (first | exact List.Mem.head _ | apply List.Mem.tail)) (r := ((mendOf x (-1) true true true).1).cl i.1 i.2) rfl) rfl ?_
 refine gT rfl ?_
 refine pV (Y.loadAN wd_54 rfl (by repeat (first | exact List.Mem.head _ | apply List.Mem.tail)) (r := ((mendOf x (-1) true true true).1).cl j.1 j.2) rfl) rfl ?_
 refine gT rfl ?_
 refine WL.eff (E.call Try.call83 rfl (fun _ w s => w_sameWorlds ((mendOf x (-1) true true true).1) ((mendOf x (-1) true true true).1) i.1 j.1 (gOf i.1) 0 i.2 (gOf j.1) 0 j.2 w (own_max s.fact.2.1.1) (own_RL s.fact.2.1.1) (own_RL s.fact.1)) rfl) rfl (fun _ => ?_)
 refine pP (Y.pickT rfl rfl) rfl ?_
 refine pM rfl rfl ?_
 refine WL.known (t := 27) (r := true) rfl (by simp) ?_
 refine gT rfl ?_
 refine pM rfl rfl ?_
 refine gT rfl ?_
 refine pM rfl rfl ?_
 refine gT rfl ?_
 refine pP (Y.eql rfl rfl) rfl ?_
 refine pP (Y.pickT rfl rfl) rfl ?_
 refine pM rfl rfl ?_
 refine WL.known (t := 32) (r := true) rfl (by simp) ?_
 refine gT rfl ?_
 refine pM rfl rfl ?_
 refine gT rfl ?_
 refine pM rfl rfl ?_
 refine gT rfl ?_
 refine pP (Y.eql rfl rfl) rfl ?_
 refine pP (Y.pickT rfl rfl) rfl ?_
 refine pA rfl rfl ?_
 refine nN ?_
 refine WC.ret ?_
 refine dn1 Try.results31 rfl (fun a w s => ?_)
 · refine ⟨?_, s.low⟩
   simp [packed]

theorem w_MendHalves (x : Wd) (A : Option Addr) (b o c : Nat) (steps : Int) (l : List Bool) (A7 : Option Addr) (b7 o7 c7 : Nat) (w : World) (hbl : BL w A7 b7 o7 l) (hlm : l.length ≤ maxLen) (hm : x.log.length ≤ maxLen) (hcap : x.log.length ≤ c) (hr : RL w A b o x.log) : Ret Try.prog 32 [x.val A c, .int .i64 steps, .slice A7 l.length c7] w (.bool true) := by
 refine enter Try.func32 rfl Try.ntmps32 rfl SF.top trivial ?_
 refine sR ?_
 refine WL.eff (E.box rfl rfl rfl) rfl (fun b1 => ?_)
 refine pA rfl rfl ?_
 refine nN ?_
 refine sR ?_
 refine pV (Y.loadAN wd_54 rfl (by repeat (first | exact List.Mem.head _ | apply List.Mem.tail)) (r := (x).cl A c) rfl) rfl ?_
 refine pM rfl rfl ?_
 refine pM rfl rfl ?_
 refine WL.eff (E.retW ((halfOf x steps l).1) [.int .i64 (halfOf x steps l).2] Try.call103 rfl (fun _ w s => w_mendHalf x A b o c steps l A7 b7 o7 c7 w (hbl.below s.low) hlm hm hcap (hr.below s.low)) rfl) rfl (fun i => ?_)
 refine pM rfl rfl ?_
 refine pP (Y.extract rfl rfl) rfl ?_
 refine pP (Y.extract rfl rfl) rfl ?_
 refine WL.eff (E.alloc Try.zeroValue54 rfl rfl) rfl (fun b2 => ?_)
 refine WL.eff (E.store Try.sizeOf54 rfl rfl rfl rfl rfl u0 rfl rfl) rfl (fun _ => ?_)
 refine pA rfl rfl ?_
 refine nN ?_
 refine sR ?_
 refine pV (Y.loadAN wd_54 rfl (by repeat (first | exact List.Mem.head _ | apply List.Mem.tail)) (r := (x).cl A c) rfl) rfl ?_
 refine pM rfl rfl ?_
 refine pM rfl rfl ?_
 refine WL.eff (E.retW ((halfOf x steps l).1) [.int .i64 (halfOf x steps l).2] Try.call104 rfl (fun _ w s => w_refMendHalf x A b o c steps l A7 b7 o7 c7 w (hbl.below s.low) hlm hm hcap (hr.below s.low)) rfl) rfl (fun j => ?_)
 refine pM rfl rfl ?_
 refine pP (Y.extract rfl rfl) rfl ?_
 refine pP (Y.extract rfl rfl) rfl ?_
 refine WL.eff (E.alloc Try.zeroValue54 rfl rfl) rfl (fun b3 => ?_)
 refine WL.eff (E.store Try.sizeOf54 rfl rfl rfl rfl rfl u0 rfl rfl) rfl (fun _ => ?_)
 refine pA rfl rfl ?_
 refine nN ?_
 refine sR ?_
 refine WL.eff (E.call Try.call102 rfl (fun _ w s => w_mendBegun w) rfl) rfl (fun _ => ?_)
 refine pM rfl rfl ?_
 refine gT rfl ?_
 refine pV (Y.loadAN wd_54 rfl (by repeat (first | exact List.Mem.head _ | apply List.Mem.tail)) (r := ((halfOf x steps l).1).cl i.1 i.2) rfl) rfl ?_
 refine gT rfl ?_
 refine pV (Y.loadAN wd_54 rfl (by repeat (first | exact List.Mem.head _ | apply List.Mem.tail)) (r := ((halfOf x steps l).1).cl j.1 j.2) rfl) rfl ?_
 refine gT rfl ?_
 refine WL.eff (E.call Try.call83 rfl (fun _ w s => w_sameWorlds ((halfOf x steps l).1) ((halfOf x steps l).1) i.1 j.1 (gOf i.1) 0 i.2 (gOf j.1) 0 j.2 w (own_max s.fact.2.1.1) (own_RL s.fact.2.1.1) (own_RL s.fact.1)) rfl) rfl (fun _ => ?_)
 refine pP (Y.pickT rfl rfl) rfl ?_
 refine pM rfl rfl ?_
 refine WL.known (t := 31) (r := true) rfl (by simp) ?_
 refine gT rfl ?_
 refine pM rfl rfl ?_
 refine gT rfl ?_
 refine pM rfl rfl ?_
 refine gT rfl ?_
 refine pP (Y.eql rfl rfl) rfl ?_
 refine pP (Y.pickT rfl rfl) rfl ?_
 refine pA rfl rfl ?_
 refine nN ?_
 refine WC.ret ?_
 refine dn1 Try.results32 rfl (fun a w s => ?_)
 · refine ⟨?_, s.low⟩
   simp [packed]

theorem w_MendOnce (x : Wd) (A : Option Addr) (b o c : Nat) (steps : Int) (l : List Bool) (A7 : Option Addr) (b7 o7 c7 : Nat) (w : World) (hbl : BL w A7 b7 o7 l) (hlm : l.length ≤ maxLen) (hm : x.log.length ≤ maxLen) (hcap : x.log.length ≤ c) (hr : RL w A b o x.log) : Ret Try.prog 33 [x.val A c, .int .i64 steps, .slice A7 l.length c7] w (.bool true) := by
 refine enter Try.func33 rfl Try.ntmps33 rfl SF.top trivial ?_
 refine sR ?_
 refine WL.eff (E.box rfl rfl rfl) rfl (fun b1 => ?_)
 refine pA rfl rfl ?_
 refine nN ?_
 refine sR ?_
 refine pV (Y.loadAN wd_54 rfl (by repeat (first | exact List.Mem.head _ | apply List.Mem.tail)) (r := (x).cl A c) rfl) rfl ?_
 refine pM rfl rfl ?_
 refine pM rfl rfl ?_
 refine WL.eff (E.retW ((halfOf x steps l).1) [.int .i64 (halfOf x steps l).2] Try.call103 rfl (fun _ w s => w_mendHalf x A b o c steps l A7 b7 o7 c7 w (hbl.below s.low) hlm hm hcap (hr.below s.low)) rfl) rfl (fun i => ?_)
 refine pM rfl rfl ?_
 refine pP (Y.extract rfl rfl) rfl ?_
 refine pP (Y.extract rfl rfl) rfl ?_
 refine WL.eff (E.alloc Try.zeroValue54 rfl rfl) rfl (fun b2 => ?_)
 refine WL.eff (E.store Try.sizeOf54 rfl rfl rfl rfl rfl u0 rfl rfl) rfl (fun _ => ?_)
 refine pA rfl rfl ?_
 refine nN ?_
 refine sR ?_
 refine pV (Y.loadAN wd_54 rfl (by repeat (first | exact List.Mem.head _ | apply List.Mem.tail)) (r := (x).cl A c) rfl) rfl ?_
 refine WL.eff (E.retW ((mendOf x (-1) true true true).1) [.int .i64 (mendOf x (-1) true true true).2.1, .int .i64 (mendOf x (-1) true true true).2.2] Try.call66 rfl (fun _ w s => w_mendAll x A b o c w hm hcap (hr.below s.low)) rfl) rfl (fun j => ?_)
 refine pM rfl rfl ?_
 refine pP (Y.extract rfl rfl) rfl ?_
 refine pP (Y.extract rfl rfl) rfl ?_
 refine pP (Y.extract rfl rfl) rfl ?_
 refine WL.eff (E.alloc Try.zeroValue54 rfl rfl) rfl (fun b3 => ?_)
 refine WL.eff (E.store Try.sizeOf54 rfl rfl rfl rfl rfl u0 rfl rfl) rfl (fun _ => ?_)
 refine pA rfl rfl ?_
 refine pA rfl rfl ?_
 refine nN ?_
 refine WC.seq ?_
 refine sR ?_
 refine pM rfl rfl ?_
 refine pP (Y.neq rfl rfl) rfl ?_
 refine pM rfl rfl ?_
 refine WL.split (t := 30) rfl (fun r h30 => ?_)
 cases r
 refine gT rfl ?_
 refine pM rfl rfl ?_
 refine gT rfl ?_
 refine pP (Y.neq rfl rfl) rfl ?_
 refine pP (Y.pickF rfl rfl) rfl ?_
 refine nN ?_
 refine WC.cond rfl (fun h33 => ?_) (fun h33 => ?_)
 refine sR ?_
 refine WL.eff (E.call Try.call102 rfl (fun _ w s => w_mendBegun w) rfl) rfl (fun _ => ?_)
 refine pA rfl rfl ?_
 refine nN ?_
 refine WC.ret ?_
 refine WQ.thenRet ?_
 refine dn1 Try.results33 rfl (fun a w s => ?_)
 · refine ⟨?_, s.low⟩
   first | rfl | (rw [hY1]; rfl)
 refine WC.skip' ?_
 refine WQ.next ?_
 refine WC.seq ?_
 have hh1 : (halfOf x steps l).2 = 0 := by have h30 := h30; simpa using h30
 have hh2 : (mendOf x (-1) true true true).2.2 = 0 := by have h33 := h33; simpa using h33
 obtain ⟨hY1, hY3, hE3, hle⟩ := once_ok hh1 hh2
 refine WC.region ?_
 refine pV (Y.loadAN wd_54 rfl (by repeat (first | exact List.Mem.head _ | apply List.Mem.tail)) (r := ((halfOf x steps l).1).cl i.1 i.2) rfl) rfl ?_
 refine WL.eff (E.retW ((mendOf (halfOf x steps l).1 (-1) true true true).1) [.int .i64 (mendOf (halfOf x steps l).1 (-1) true true true).2.1, .int .i64 (mendOf (halfOf x steps l).1 (-1) true true true).2.2] Try.call66 rfl (fun _ w s => w_mendAll (halfOf x steps l).1 i.1 (gOf i.1) 0 i.2 w (own_max s.fact.2.1.1) (own_le s.fact.2.1.1) (own_RL s.fact.2.1.1)) rfl) rfl (fun k => ?_)
 refine pM rfl rfl ?_
 refine pP (Y.extract rfl rfl) rfl ?_
 refine pP (Y.extract rfl rfl) rfl ?_
 refine pP (Y.extract rfl rfl) rfl ?_
 refine WL.eff (E.alloc Try.zeroValue54 rfl rfl) rfl (fun b4 => ?_)
 refine WL.eff (E.store Try.sizeOf54 rfl rfl rfl rfl rfl u0 rfl rfl) rfl (fun _ => ?_)
 refine pA rfl rfl ?_
 refine pA rfl rfl ?_
 refine nN ?_
 refine sR ?_
 refine WL.eff (E.call Try.call102 rfl (fun _ w s => w_mendBegun w) rfl) rfl (fun _ => ?_)
 refine pM rfl rfl ?_
 refine gT rfl ?_
 refine pM rfl rfl ?_
 refine gT rfl ?_
 refine pP (Y.eql rfl rfl) rfl ?_
 refine pP (Y.pickT rfl rfl) rfl ?_
 refine pM rfl rfl ?_
 refine WL.known (t := 46) (r := true) rfl (by rw [hE3]; rfl) ?_
 refine gT rfl ?_
 refine pV (Y.loadAN wd_54 rfl (by repeat (first | exact List.Mem.head _ | apply List.Mem.tail)) (r := ((mendOf (halfOf x steps l).1 (-1) true true true).1).cl k.1 k.2) rfl) rfl ?_
 refine gT rfl ?_
 refine pV (Y.loadAN wd_54 rfl (by repeat (first | exact List.Mem.head _ | apply List.Mem.tail)) (r := ((mendOf x (-1) true true true).1).cl j.1 j.2) rfl) rfl ?_
 refine gT rfl ?_
 refine WL.eff (E.call Try.call83 rfl (fun _ w s => w_sameWorlds (mendOf (halfOf x steps l).1 (-1) true true true).1 (mendOf x (-1) true true true).1 k.1 j.1 (gOf k.1) 0 k.2 (gOf j.1) 0 j.2 w (own_max s.fact.1) (own_RL s.fact.1) (own_RL s.fact.2.1.1)) rfl) rfl (fun _ => ?_)
 refine pP (Y.pickT rfl rfl) rfl ?_
 refine pM rfl rfl ?_
 refine WL.known (t := 51) (r := true) rfl (by rw [hY3]; simp) ?_
 refine gT rfl ?_
 refine pM rfl rfl ?_
 refine gT rfl ?_
 refine pM rfl rfl ?_
 refine gT rfl ?_
 refine pP (Y.leq rfl rfl) rfl ?_
 refine pP (Y.pickT rfl rfl) rfl ?_
 refine pM rfl rfl ?_
 refine WL.known (t := 56) (r := true) rfl (by simpa using hle) ?_
 refine gT rfl ?_
 refine pV (Y.loadAN wd_54 rfl (by repeat (first | exact List.Mem.head _ | apply List.Mem.tail)) (r := ((halfOf x steps l).1).cl i.1 i.2) rfl) rfl ?_
 refine gT rfl ?_
 refine WL.eff (E.call Try.call77 rfl (fun _ w s => w_worldCheck (halfOf x steps l).1 i.1 (gOf i.1) 0 i.2 w (own_max s.fact.2.1.2.1.1) (own_le s.fact.2.1.2.1.1) (own_RL s.fact.2.1.2.1.1)) rfl) rfl (fun _ => ?_)
 refine gT rfl ?_
 refine pP (Y.eql rfl rfl) rfl ?_
 refine pP (Y.pickT rfl rfl) rfl ?_
 refine pA rfl rfl ?_
 refine nN ?_
 refine WC.ret ?_
 refine dn1 Try.results33 rfl (fun a w s => ?_)
 · refine ⟨?_, s.low⟩
   first | rfl | (rw [hY1]; rfl)
 refine gF rfl ?_
 refine gF rfl ?_
 refine pP (Y.pickT rfl rfl) rfl ?_
 refine nN ?_
 refine WC.condT rfl ?_
 refine sR ?_
 refine WL.eff (E.call Try.call102 rfl (fun _ w s => w_mendBegun w) rfl) rfl (fun _ => ?_)
 refine pA rfl rfl ?_
 refine nN ?_
 refine WC.ret ?_
 refine WQ.thenRet ?_
 refine dn1 Try.results33 rfl (fun a w s => ?_)
 · refine ⟨?_, s.low⟩
   first | rfl | (rw [hY1]; rfl)
end Go.Proofs.Ytdbcimadjmdffaa
