/- The laws on scan: ScanTells, ScanRedoes, ScanTrue. No condition. -/
import Derived.Test.YtdbcimadjmdffaaCo
import Derived.Test.YtdbcimadjmdffaaSc
import Derived.Test.YtdbcimadjmdffaaCc
set_option maxRecDepth 100000
set_option linter.unusedVariables false
set_option linter.unusedSimpArgs false
set_option linter.unusedSectionVars false
set_option maxHeartbeats 4000000
namespace Go.Proofs.Ytdbcimadjmdffaa
open Go.RowKit Go.Joins
def sb2W : Wd := { labW with safe := 9 }
def sbP : P3 := ⟨⟨8, 0, 0, 9⟩, ⟨0, 6, 0, 2⟩, Pg.zero⟩
theorem sb1 : crashOf labW = (labW.cut, 0) := by decide +kernel
theorem sb2 : losersOf someL = [3] := by decide +kernel
theorem sb3 : losersOf (someL.take 6) = [1] := by decide +kernel
theorem sb4 : redoOf sb2W = (sbP, 5, 0) := by decide +kernel
theorem sb5 : redoOf labW = (P3.zero, 0, 1) := by decide +kernel
theorem sb6 : logErr someL = 0 := by decide +kernel
theorem sb7 : logErr (someL.take 6) = 0 := by decide +kernel
theorem losersOf_len (l : List R) : (losersOf l).length ≤ 9 := by
  unfold losersOf
  split
  · exact List.length_filter_le _ _
  · exact Nat.zero_le _

theorem w_scanBegun (w : World) : Ret Try.prog 98 [] w (.bool true) := by
 refine enter Try.func98 rfl Try.ntmps98 rfl SF.top trivial ?_
 refine sR ?_
 refine pA rfl rfl ?_
 refine nN ?_
 refine sR ?_
 refine WL.eff (E.callB (fun g : Nat => labW.val (some ⟨g, 0, none⟩) 9) (fun g => (g, flat someL, 34)) Try.call132 rfl (fun _ w s => w_lab w) rfl) rfl (fun g15 => ?_)
 refine WL.eff (E.retW (labW.cut) [.int .i64 0] Try.call94 rfl (fun _ w s => (by have hh := w_scanCrash labW (some ⟨g15, 0, none⟩) g15 0 9 w (short_max (by decide)) (by decide) (RL.ofH s (by repeat (first | exact List.Mem.head _ | apply List.Mem.tail))); rw [sb1] at hh; exact hh)) rfl) rfl (fun i1 => ?_)
 refine pM rfl rfl ?_
 refine pP (Y.extract rfl rfl) rfl ?_
 refine pP (Y.extract rfl rfl) rfl ?_
 refine WL.eff (E.alloc Try.zeroValue54 rfl rfl) rfl (fun b1 => ?_)
 refine WL.eff (E.store Try.sizeOf54 rfl rfl rfl rfl rfl u0 rfl rfl) rfl (fun _ => ?_)
 refine pA rfl rfl ?_
 refine nN ?_
 refine sR ?_
 refine WL.eff (E.callB (fun g : Nat => .slice (some ⟨g, 0, none⟩) 9 9) (fun g => (g, flat someL, 34)) Try.call120 rfl (fun _ w s => w_some w) rfl) rfl (fun g20 => ?_)
 refine WL.eff (E.callF (fun i : Option Addr × Nat => .tuple #[.slice i.1 ([(3 : Int)]).length i.2, .int .i64 (0)]) (fun i => SF.own w.heap.size 3 1 (.slice i.1 ([(3 : Int)]).length i.2) ([(3 : Int)]).length (ints ([(3 : Int)]))) Try.call95 rfl (fun _ w s => (by have hh := w_losers someL (some ⟨g20, 0, none⟩) g20 0 9 w (RL.ofH s (by repeat (first | exact List.Mem.head _ | apply List.Mem.tail))); rw [sb2, sb6] at hh; exact hh.mono fun e w' ⟨i, he, hb, ho⟩ => ⟨i, he, hb, ownsRow_le ho s.low.size, fun g hg => .inl (ho.lt g hg).1⟩)) rfl) rfl (fun i2 => ?_)
 refine pM rfl rfl ?_
 refine pP (Y.extract rfl rfl) rfl ?_
 refine pP (Y.extract rfl rfl) rfl ?_
 refine pA rfl rfl ?_
 refine pA rfl rfl ?_
 refine nN ?_
 refine sR ?_
 refine WL.eff (E.callB (fun g : Nat => .slice (some ⟨g, 0, none⟩) 9 9) (fun g => (g, flat someL, 34)) Try.call120 rfl (fun _ w s => w_some w) rfl) rfl (fun g25 => ?_)
 refine pP (Y.slToN (someL.take 6).length rfl Try.underlying39 Try.sizeOf34 rfl rfl (by decide)) rfl ?_
 refine WL.eff (E.callF (fun i : Option Addr × Nat => .tuple #[.slice i.1 ([(1 : Int)]).length i.2, .int .i64 (0)]) (fun i => SF.own w.heap.size 3 1 (.slice i.1 ([(1 : Int)]).length i.2) ([(1 : Int)]).length (ints ([(1 : Int)]))) Try.call95 rfl (fun _ w s => (by have hh := w_losers (someL.take 6) (some ⟨g25, 0, none⟩) g25 0 9 w ((RL.ofH s (by repeat (first | exact List.Mem.head _ | apply List.Mem.tail)) : RL _ _ _ _ someL).take 6); rw [sb3, sb7] at hh; exact hh.mono fun e w' ⟨i, he, hb, ho⟩ => ⟨i, he, hb, ownsRow_le ho s.low.size, fun g hg => .inl (ho.lt g hg).1⟩)) rfl) rfl (fun i3 => ?_)
 refine pM rfl rfl ?_
 refine pP (Y.extract rfl rfl) rfl ?_
 refine pP (Y.extract rfl rfl) rfl ?_
 refine pA rfl rfl ?_
 refine pA rfl rfl ?_
 refine nN ?_
 refine sR ?_
 refine WL.eff (E.callB (fun g : Nat => labW.val (some ⟨g, 0, none⟩) 9) (fun g => (g, flat someL, 34)) Try.call132 rfl (fun _ w s => w_lab w) rfl) rfl (fun g30 => ?_)
 refine WL.eff (E.alloc Try.zeroValue54 rfl rfl) rfl (fun b2 => ?_)
 refine WL.eff (E.store Try.sizeOf54 rfl rfl rfl rfl rfl u0 rfl rfl) rfl (fun _ => ?_)
 refine nN ?_
 refine sR ?_
 refine pP (Y.fieldAddr fa_54_2 rfl) rfl ?_
 refine WL.eff (E.store Try.sizeOf3 rfl rfl rfl rfl rfl u0 rfl rfl) rfl (fun _ => ?_)
 refine nN ?_
 refine sR ?_
 refine pV (Y.loadAN wd_54 rfl (by repeat (first | exact List.Mem.head _ | apply List.Mem.tail)) (r := sb2W.cl (some ⟨g30, 0, none⟩) 9) rfl) rfl ?_
 refine WL.eff (E.call Try.call99 rfl (fun _ w s => (by have hh := w_scanRedo sb2W (some ⟨g30, 0, none⟩) g30 0 9 w (short_max (by decide)) (by decide) (RL.ofH s (by repeat (first | exact List.Mem.head _ | apply List.Mem.tail))); rw [sb4] at hh; exact hh)) rfl) rfl (fun _ => ?_)
 refine pM rfl rfl ?_
 refine pP (Y.extract rfl rfl) rfl ?_
 refine pP (Y.extract rfl rfl) rfl ?_
 refine pP (Y.extract rfl rfl) rfl ?_
 refine WL.eff (E.alloc Try.zeroValue42 rfl rfl) rfl (fun b3 => ?_)
 refine WL.eff (E.store Try.sizeOf42 rfl rfl rfl rfl rfl u0 rfl rfl) rfl (fun _ => ?_)
 refine pA rfl rfl ?_
 refine pA rfl rfl ?_
 refine nN ?_
 refine sR ?_
 refine WL.eff (E.callB (fun g : Nat => labW.val (some ⟨g, 0, none⟩) 9) (fun g => (g, flat someL, 34)) Try.call132 rfl (fun _ w s => w_lab w) rfl) rfl (fun g39 => ?_)
 refine WL.eff (E.call Try.call99 rfl (fun _ w s => (by have hh := w_scanRedo labW (some ⟨g39, 0, none⟩) g39 0 9 w (short_max (by decide)) (by decide) (RL.ofH s (by repeat (first | exact List.Mem.head _ | apply List.Mem.tail))); rw [sb5] at hh; exact hh)) rfl) rfl (fun _ => ?_)
 refine pM rfl rfl ?_
 refine pP (Y.extract rfl rfl) rfl ?_
 refine pP (Y.extract rfl rfl) rfl ?_
 refine pP (Y.extract rfl rfl) rfl ?_
 refine WL.eff (E.alloc Try.zeroValue42 rfl rfl) rfl (fun b4 => ?_)
 refine WL.eff (E.store Try.sizeOf42 rfl rfl rfl rfl rfl u0 rfl rfl) rfl (fun _ => ?_)
 refine pA rfl rfl ?_
 refine pA rfl rfl ?_
 refine nN ?_
 refine sR ?_
 refine pM rfl rfl ?_
 refine pP (Y.eql rfl rfl) rfl ?_
 refine pM rfl rfl ?_
 refine WL.known (t := 46) (r := true) rfl (by first | rfl | decide) ?_
 refine gT rfl ?_
 refine pM rfl rfl ?_
 refine gT rfl ?_
 refine pP (Y.eql rfl rfl) rfl ?_
 refine pP (Y.pickT rfl rfl) rfl ?_
 refine pM rfl rfl ?_
 refine WL.known (t := 50) (r := true) rfl (by first | rfl | decide) ?_
 refine gT rfl ?_
 refine pM rfl rfl ?_
 refine gT rfl ?_
 refine pP (Y.eql rfl rfl) rfl ?_
 refine pP (Y.pickT rfl rfl) rfl ?_
 refine pM rfl rfl ?_
 refine WL.known (t := 54) (r := true) rfl (by first | rfl | decide) ?_
 refine gT rfl ?_
 refine pM rfl rfl ?_
 refine gT rfl ?_
 refine pP (Y.eql rfl rfl) rfl ?_
 refine pP (Y.pickT rfl rfl) rfl ?_
 refine pM rfl rfl ?_
 refine WL.known (t := 58) (r := true) rfl (by first | rfl | decide) ?_
 refine gT rfl ?_
 refine pM rfl rfl ?_
 refine gT rfl ?_
 refine pP (Y.eql rfl rfl) rfl ?_
 refine pP (Y.pickT rfl rfl) rfl ?_
 refine pM rfl rfl ?_
 refine WL.known (t := 62) (r := true) rfl (by first | rfl | decide) ?_
 refine gT rfl ?_
 refine pP (Y.fieldAddr fa_54_1 rfl) rfl ?_
 refine gT rfl ?_
 refine pV (Y.load (cs := (labW.cut).cl i1.1 i1.2) (v := .slice i1.1 (labW.cut).log.length i1.2) fl_39 rfl (by repeat (first | exact List.Mem.head _ | apply List.Mem.tail)) rfl) rfl ?_
 refine gT rfl ?_
 refine pP (Y.len Try.underlying39 rfl) rfl ?_
 refine gT rfl ?_
 refine pP (Y.eql rfl rfl) rfl ?_
 refine pP (Y.pickT rfl rfl) rfl ?_
 refine pM rfl rfl ?_
 refine WL.known (t := 68) (r := true) rfl (by first | rfl | decide) ?_
 refine gT rfl ?_
 refine pP (Y.fieldAddr fa_54_2 rfl) rfl ?_
 refine gT rfl ?_
 refine pV (Y.load (cs := (labW.cut).cl i1.1 i1.2) (v := .int .i64 6) fl_3 rfl (by repeat (first | exact List.Mem.head _ | apply List.Mem.tail)) rfl) rfl ?_
 refine gT rfl ?_
 refine pP (Y.eql rfl rfl) rfl ?_
 refine pP (Y.pickT rfl rfl) rfl ?_
 refine pM rfl rfl ?_
 refine WL.known (t := 73) (r := true) rfl (by first | rfl | decide) ?_
 refine gT rfl ?_
 refine pM rfl rfl ?_
 refine gT rfl ?_
 refine WL.eff (E.buildSlice (bs_64_1 _) rfl rfl) rfl (fun b5 => ?_)
 refine gT rfl ?_
 refine WL.eff (E.call Try.call74 rfl (fun _ w s => w_sameInts [3] [3] i2.1 _ (gOf i2.1) _ i2.2 1 w (by decide) (own_IL rfl s.fact.1.2) (IL.ofH [3] s (by repeat (first | exact List.Mem.head _ | apply List.Mem.tail)) rfl)) rfl) rfl (fun _ => ?_)
 refine pP (Y.pickT rfl rfl) rfl ?_
 refine pM rfl rfl ?_
 refine WL.known (t := 78) (r := true) rfl (by first | rfl | decide) ?_
 refine gT rfl ?_
 refine pM rfl rfl ?_
 refine gT rfl ?_
 refine WL.eff (E.buildSlice (bs_64_1 _) rfl rfl) rfl (fun b6 => ?_)
 refine gT rfl ?_
 refine WL.eff (E.call Try.call74 rfl (fun _ w s => w_sameInts [1] [1] i3.1 _ (gOf i3.1) _ i3.2 1 w (by decide) (own_IL rfl s.fact.2) (IL.ofH [1] s (by repeat (first | exact List.Mem.head _ | apply List.Mem.tail)) rfl)) rfl) rfl (fun _ => ?_)
 refine pP (Y.pickT rfl rfl) rfl ?_
 refine pM rfl rfl ?_
 refine WL.known (t := 83) (r := true) rfl (by first | rfl | decide) ?_
 refine gT rfl ?_
 refine pM rfl rfl ?_
 refine gT rfl ?_
 refine pP (Y.eql rfl rfl) rfl ?_
 refine pP (Y.pickT rfl rfl) rfl ?_
 refine pM rfl rfl ?_
 refine WL.known (t := 87) (r := true) rfl (by first | rfl | decide) ?_
 refine gT rfl ?_
 refine pP (Y.ixArr Try.underlying42 Try.sizeOf24 rfl rfl (by decide) (by decide)) rfl ?_
 refine gT rfl ?_
 refine pP (Y.fieldAddr fa_24_0 rfl) rfl ?_
 refine gT rfl ?_
 refine pP (Y.ixArr Try.underlying22 Try.sizeOf3 rfl rfl (by decide) (by decide)) rfl ?_
 refine gT rfl ?_
 refine pV (Y.load fl_3 rfl m4 rfl) rfl ?_
 refine gT rfl ?_
 refine pP (Y.eql rfl rfl) rfl ?_
 refine pP (Y.pickT rfl rfl) rfl ?_
 refine pM rfl rfl ?_
 refine WL.known (t := 94) (r := true) rfl (by first | rfl | decide) ?_
 refine gT rfl ?_
 refine pP (Y.ixArr Try.underlying42 Try.sizeOf24 rfl rfl (by decide) (by decide)) rfl ?_
 refine gT rfl ?_
 refine pP (Y.fieldAddr fa_24_1 rfl) rfl ?_
 refine gT rfl ?_
 refine pV (Y.load fl_3 rfl m4 rfl) rfl ?_
 refine gT rfl ?_
 refine pP (Y.eql rfl rfl) rfl ?_
 refine pP (Y.pickT rfl rfl) rfl ?_
 refine pA rfl rfl ?_
 refine nN ?_
 refine WC.ret ?_
 refine dn1 Try.results98 rfl (fun a w s => ?_)
 · refine ⟨?_, s.low⟩
   rfl

theorem w_ScanTells (x : Wd) (A : Option Addr) (b o c : Nat) (w : World) (hm : x.log.length ≤ maxLen) (hcap : x.log.length ≤ c) (hr : RL w A b o x.log) : Ret Try.prog 24 [x.val A c] w (.bool true) := by
 refine enter Try.func24 rfl Try.ntmps24 rfl SF.top trivial ?_
 refine sR ?_
 refine WL.eff (E.box rfl rfl rfl) rfl (fun b1 => ?_)
 refine pA rfl rfl ?_
 refine nN ?_
 refine sR ?_
 refine pV (Y.loadAN wd_54 rfl (by repeat (first | exact List.Mem.head _ | apply List.Mem.tail)) (r := (x).cl A c) rfl) rfl ?_
 refine WL.eff (E.retW ((crashOf x).1) [.int .i64 (crashOf x).2] Try.call94 rfl (fun _ w s => w_scanCrash x A b o c w hm hcap (hr.below s.low)) rfl) rfl (fun i => ?_)
 refine pM rfl rfl ?_
 refine pP (Y.extract rfl rfl) rfl ?_
 refine pP (Y.extract rfl rfl) rfl ?_
 refine WL.eff (E.alloc Try.zeroValue54 rfl rfl) rfl (fun b2 => ?_)
 refine WL.eff (E.store Try.sizeOf54 rfl rfl rfl rfl rfl u0 rfl rfl) rfl (fun _ => ?_)
 refine pA rfl rfl ?_
 refine nN ?_
 refine sR ?_
 refine pP (Y.fieldAddr fa_54_1 rfl) rfl ?_
 refine pV (Y.load (cs := (x).cl A c) (v := .slice A (x).log.length c) fl_39 rfl (by repeat (first | exact List.Mem.head _ | apply List.Mem.tail)) rfl) rfl ?_
 refine WL.eff (E.callF (fun i : Option Addr × Nat => .tuple #[.slice i.1 (losersOf x.log).length i.2, .int .i64 (logErr x.log)]) (fun i => SF.own w.heap.size 3 1 (.slice i.1 (losersOf x.log).length i.2) (losersOf x.log).length (ints (losersOf x.log))) Try.call95 rfl (fun _ w s => (by have hh := w_losers x.log A b o c w (hr.below s.low); exact hh.mono fun e w' ⟨i, he, hb, ho⟩ => ⟨i, he, hb, ownsRow_le ho s.low.size, fun g hg => .inl (ho.lt g hg).1⟩)) rfl) rfl (fun p => ?_)
 refine pM rfl rfl ?_
 refine pP (Y.extract rfl rfl) rfl ?_
 refine pP (Y.extract rfl rfl) rfl ?_
 refine pA rfl rfl ?_
 refine pA rfl rfl ?_
 refine nN ?_
 refine sR ?_
 refine pV (Y.loadAN wd_54 rfl (by repeat (first | exact List.Mem.head _ | apply List.Mem.tail)) (r := (x).cl A c) rfl) rfl ?_
 refine WL.eff (E.retW ((crashOf x).1) [.int .i64 (crashOf x).2] Try.call96 rfl (fun _ w s => w_crashOf x A b o c w hm hcap (hr.below s.low)) rfl) rfl (fun j => ?_)
 refine pM rfl rfl ?_
 refine pP (Y.extract rfl rfl) rfl ?_
 refine pP (Y.extract rfl rfl) rfl ?_
 refine WL.eff (E.alloc Try.zeroValue54 rfl rfl) rfl (fun b3 => ?_)
 refine WL.eff (E.store Try.sizeOf54 rfl rfl rfl rfl rfl u0 rfl rfl) rfl (fun _ => ?_)
 refine pA rfl rfl ?_
 refine nN ?_
 refine sR ?_
 refine pP (Y.fieldAddr fa_54_1 rfl) rfl ?_
 refine pV (Y.load (cs := (x).cl A c) (v := .slice A (x).log.length c) fl_39 rfl (by repeat (first | exact List.Mem.head _ | apply List.Mem.tail)) rfl) rfl ?_
 refine WL.eff (E.callF (fun i : Option Addr × Nat => .tuple #[.slice i.1 (losersOf x.log).length i.2, .int .i64 (logErr x.log)]) (fun i => SF.own w.heap.size 3 1 (.slice i.1 (losersOf x.log).length i.2) (losersOf x.log).length (ints (losersOf x.log))) Try.call97 rfl (fun _ w s => (by have hh := w_losersOf x.log A b o c w hm hcap (hr.below s.low); exact hh.mono fun e w' ⟨i, he, hb, ho⟩ => ⟨i, he, hb, ownsRow_le ho s.low.size, fun g hg => .inl (ho.lt g hg).1⟩)) rfl) rfl (fun q => ?_)
 refine pM rfl rfl ?_
 refine pP (Y.extract rfl rfl) rfl ?_
 refine pP (Y.extract rfl rfl) rfl ?_
 refine pA rfl rfl ?_
 refine pA rfl rfl ?_
 refine nN ?_
 refine sR ?_
 refine WL.eff (E.call Try.call98 rfl (fun _ w s => w_scanBegun w) rfl) rfl (fun _ => ?_)
 refine pM rfl rfl ?_
 refine gT rfl ?_
 refine pV (Y.loadAN wd_54 rfl (by repeat (first | exact List.Mem.head _ | apply List.Mem.tail)) (r := ((crashOf x).1).cl i.1 i.2) rfl) rfl ?_
 refine gT rfl ?_
 refine pV (Y.loadAN wd_54 rfl (by repeat (first | exact List.Mem.head _ | apply List.Mem.tail)) (r := ((crashOf x).1).cl j.1 j.2) rfl) rfl ?_
 refine gT rfl ?_
 refine WL.eff (E.call Try.call83 rfl (fun _ w s => w_sameWorlds ((crashOf x).1) ((crashOf x).1) i.1 j.1 (gOf i.1) 0 i.2 (gOf j.1) 0 j.2 w (own_max s.fact.1.2.1.1.1) (own_RL s.fact.1.2.1.1.1) (own_RL s.fact.1.1)) rfl) rfl (fun _ => ?_)
 refine pP (Y.pickT rfl rfl) rfl ?_
 refine pM rfl rfl ?_
 refine WL.known (t := 39) (r := true) rfl (by simp) ?_
 refine gT rfl ?_
 refine pM rfl rfl ?_
 refine gT rfl ?_
 refine pM rfl rfl ?_
 refine gT rfl ?_
 refine pP (Y.eql rfl rfl) rfl ?_
 refine pP (Y.pickT rfl rfl) rfl ?_
 refine pM rfl rfl ?_
 refine WL.known (t := 44) (r := true) rfl (by simp) ?_
 refine gT rfl ?_
 refine pM rfl rfl ?_
 refine gT rfl ?_
 refine pM rfl rfl ?_
 refine gT rfl ?_
 refine WL.eff (E.call Try.call74 rfl (fun _ w s => w_sameInts (losersOf x.log) (losersOf x.log) p.1 q.1 (gOf p.1) (gOf q.1) p.2 q.2 w (by have := losersOf_len x.log; omega) (own_IL rfl s.fact.1.2.1.2) (own_IL rfl s.fact.2)) rfl) rfl (fun _ => ?_)
 refine pP (Y.pickT rfl rfl) rfl ?_
 refine pM rfl rfl ?_
 refine WL.known (t := 49) (r := true) rfl (by simp) ?_
 refine gT rfl ?_
 refine pM rfl rfl ?_
 refine gT rfl ?_
 refine pM rfl rfl ?_
 refine gT rfl ?_
 refine pP (Y.eql rfl rfl) rfl ?_
 refine pP (Y.pickT rfl rfl) rfl ?_
 refine pA rfl rfl ?_
 refine nN ?_
 refine WC.ret ?_
 refine dn1 Try.results24 rfl (fun a w s => ?_)
 · refine ⟨?_, s.low⟩
   simp [packed]

theorem w_ScanRedoes (x : Wd) (A : Option Addr) (b o c : Nat) (w : World) (hm : x.log.length ≤ maxLen) (hcap : x.log.length ≤ c) (hr : RL w A b o x.log) : Ret Try.prog 25 [x.val A c] w (.bool true) := by
 refine enter Try.func25 rfl Try.ntmps25 rfl SF.top trivial ?_
 refine sR ?_
 refine WL.eff (E.box rfl rfl rfl) rfl (fun b1 => ?_)
 refine pA rfl rfl ?_
 refine nN ?_
 refine sR ?_
 refine pV (Y.loadAN wd_54 rfl (by repeat (first | exact List.Mem.head _ | apply List.Mem.tail)) (r := (x).cl A c) rfl) rfl ?_
 refine WL.eff (E.call Try.call99 rfl (fun _ w s => w_scanRedo x A b o c w hm hcap (hr.below s.low)) rfl) rfl (fun _ => ?_)
 refine pM rfl rfl ?_
 refine pP (Y.extract rfl rfl) rfl ?_
 refine pP (Y.extract rfl rfl) rfl ?_
 refine pP (Y.extract rfl rfl) rfl ?_
 refine WL.eff (E.alloc Try.zeroValue42 rfl rfl) rfl (fun b2 => ?_)
 refine WL.eff (E.store Try.sizeOf42 rfl rfl rfl rfl rfl u0 rfl rfl) rfl (fun _ => ?_)
 refine pA rfl rfl ?_
 refine pA rfl rfl ?_
 refine nN ?_
 refine sR ?_
 refine pV (Y.loadAN wd_54 rfl (by repeat (first | exact List.Mem.head _ | apply List.Mem.tail)) (r := (x).cl A c) rfl) rfl ?_
 refine WL.eff (E.call Try.call100 rfl (fun _ w s => w_redoOf x A b o c w hm hcap (hr.below s.low)) rfl) rfl (fun _ => ?_)
 refine pM rfl rfl ?_
 refine pP (Y.extract rfl rfl) rfl ?_
 refine pP (Y.extract rfl rfl) rfl ?_
 refine pP (Y.extract rfl rfl) rfl ?_
 refine WL.eff (E.alloc Try.zeroValue42 rfl rfl) rfl (fun b3 => ?_)
 refine WL.eff (E.store Try.sizeOf42 rfl rfl rfl rfl rfl u0 rfl rfl) rfl (fun _ => ?_)
 refine pA rfl rfl ?_
 refine pA rfl rfl ?_
 refine nN ?_
 refine sR ?_
 refine WL.eff (E.call Try.call98 rfl (fun _ w s => w_scanBegun w) rfl) rfl (fun _ => ?_)
 refine pM rfl rfl ?_
 refine gT rfl ?_
 refine pV (Y.loadA wd_42 rfl m1 rfl) rfl ?_
 refine gT rfl ?_
 refine pV (Y.loadA wd_42 rfl m0 rfl) rfl ?_
 refine gT rfl ?_
 refine pP (Y.eqlA Try.eqGuardType42 rfl rfl (weq_pages (redoOf x).1 (redoOf x).1)) rfl ?_
 refine pP (Y.pickT rfl rfl) rfl ?_
 refine pM rfl rfl ?_
 refine WL.known (t := 27) (r := true) rfl (by simp) ?_
 refine gT rfl ?_
 refine pM rfl rfl ?_
 refine gT rfl ?_
 refine pM rfl rfl ?_
 refine gT rfl ?_
 refine pP (Y.eql rfl rfl) rfl ?_
 refine pP (Y.pickT rfl rfl) rfl ?_
 refine pM rfl rfl ?_
 refine WL.known (t := 32) (r := true) rfl (by simp) ?_
 refine gT rfl ?_
 refine pM rfl rfl ?_
 refine gT rfl ?_
 refine pM rfl rfl ?_
 refine gT rfl ?_
 refine pP (Y.eql rfl rfl) rfl ?_
 refine pP (Y.pickT rfl rfl) rfl ?_
 refine pA rfl rfl ?_
 refine nN ?_
 refine WC.ret ?_
 refine dn1 Try.results25 rfl (fun a w s => ?_)
 · refine ⟨?_, s.low⟩
   simp [packed]

theorem w_ScanTrue (x : Wd) (A : Option Addr) (b o c : Nat) (w : World) (hm : x.log.length ≤ maxLen) (hcap : x.log.length ≤ c) (hr : RL w A b o x.log) : Ret Try.prog 26 [x.val A c] w (.bool true) := by
 refine enter Try.func26 rfl Try.ntmps26 rfl SF.top trivial ?_
 refine sR ?_
 refine WL.eff (E.box rfl rfl rfl) rfl (fun b1 => ?_)
 refine pA rfl rfl ?_
 refine nN ?_
 refine sR ?_
 refine pV (Y.loadAN wd_54 rfl (by repeat (first | exact List.Mem.head _ | apply List.Mem.tail)) (r := (x).cl A c) rfl) rfl ?_
 refine WL.eff (E.retW ((crashOf x).1) [.int .i64 (crashOf x).2] Try.call94 rfl (fun _ w s => w_scanCrash x A b o c w hm hcap (hr.below s.low)) rfl) rfl (fun i => ?_)
 refine pM rfl rfl ?_
 refine pP (Y.extract rfl rfl) rfl ?_
 refine pP (Y.extract rfl rfl) rfl ?_
 refine WL.eff (E.alloc Try.zeroValue54 rfl rfl) rfl (fun b2 => ?_)
 refine WL.eff (E.store Try.sizeOf54 rfl rfl rfl rfl rfl u0 rfl rfl) rfl (fun _ => ?_)
 refine pA rfl rfl ?_
 refine nN ?_
 refine WC.seq ?_
 refine sR ?_
 refine pM rfl rfl ?_
 refine pP (Y.neq rfl rfl) rfl ?_
 refine nN ?_
 refine WC.cond rfl (fun h20 => ?_) (fun h20 => ?_)
 refine sR ?_
 refine WL.eff (E.call Try.call98 rfl (fun _ w s => w_scanBegun w) rfl) rfl (fun _ => ?_)
 refine pA rfl rfl ?_
 refine nN ?_
 refine WC.ret ?_
 refine WQ.thenRet ?_
 refine dn1 Try.results26 rfl (fun a w s => ?_)
 · refine ⟨?_, s.low⟩
   clear s
   first
     | rfl
     | (simp only [packed]; simp_all)
 refine WC.skip' ?_
 refine WQ.next ?_
 refine WC.seq ?_
 have h0 : worldErr x = 0 := by
   have h20 := h20
   by_cases hh : worldErr x = 0
   · exact hh
   · unfold crashOf at h20
     rw [if_neg hh] at h20
     simp at h20
     exact h20
 have e : crashOf x = (x.cut, 0) := by unfold crashOf; rw [if_pos h0]
 rw [e]
 dsimp only
 clear h20
 have hz := cut_right h0
 have hzs : x.cut.safe = (x.cut.log.length : Int) := (cut_len h0).symm
 have rz := redo_cut h0
 have lz := (world_right hz).1
 have pz : logPages x.cut.log = pagesOf x.cut.h := by unfold logPages; rw [if_pos lz]; rfl
 have rl := redo_len x.disk x.cut.h
 rw [hlen] at rl
 have rd := redo_laid hz hzs
 have hd := laid_right hz hzs
 refine WC.region ?_
 refine pV (Y.loadAN wd_54 rfl (by repeat (first | exact List.Mem.head _ | apply List.Mem.tail)) (r := (x.cut).cl i.1 i.2) rfl) rfl ?_
 refine WL.eff (E.call Try.call99 rfl (fun _ w s => (by have hh := w_scanRedo x.cut i.1 (gOf i.1) 0 i.2 w (own_max s.fact.1) (own_le s.fact.1) (own_RL s.fact.1); rw [rz] at hh; exact hh)) rfl) rfl (fun _ => ?_)
 refine pM rfl rfl ?_
 refine pP (Y.extract rfl rfl) rfl ?_
 refine pP (Y.extract rfl rfl) rfl ?_
 refine pP (Y.extract rfl rfl) rfl ?_
 refine WL.eff (E.alloc Try.zeroValue42 rfl rfl) rfl (fun b3 => ?_)
 refine WL.eff (E.store Try.sizeOf42 rfl rfl rfl rfl rfl u0 rfl rfl) rfl (fun _ => ?_)
 refine pA rfl rfl ?_
 refine pA rfl rfl ?_
 refine nN ?_
 refine sR ?_
 refine pP (Y.fieldAddr fa_54_1 rfl) rfl ?_
 refine pV (Y.load (cs := (x.cut).cl i.1 i.2) (v := .slice i.1 (x.cut).log.length i.2) fl_39 rfl (by repeat (first | exact List.Mem.head _ | apply List.Mem.tail)) rfl) rfl ?_
 refine WL.eff (E.call Try.call56 rfl (fun _ w s => (by have hh := w_logPages x.cut.log i.1 (gOf i.1) 0 i.2 w (own_RL s.fact.1); rw [pz, lz] at hh; exact hh)) rfl) rfl (fun _ => ?_)
 refine pM rfl rfl ?_
 refine pP (Y.extract rfl rfl) rfl ?_
 refine pP (Y.extract rfl rfl) rfl ?_
 refine WL.eff (E.alloc Try.zeroValue42 rfl rfl) rfl (fun b4 => ?_)
 refine WL.eff (E.store Try.sizeOf42 rfl rfl rfl rfl rfl u0 rfl rfl) rfl (fun _ => ?_)
 refine pA rfl rfl ?_
 refine nN ?_
 refine WC.seq ?_
 refine sR ?_
 refine pM rfl rfl ?_
 refine pP (Y.neq rfl rfl) rfl ?_
 refine pM rfl rfl ?_
 refine WL.known (t := 36) (r := false) rfl (by first | rfl | simp) ?_
 refine gT rfl ?_
 refine pM rfl rfl ?_
 refine gT rfl ?_
 refine pP (Y.neq rfl rfl) rfl ?_
 refine pP (Y.pickF rfl rfl) rfl ?_
 refine pM rfl rfl ?_
 refine WL.known (t := 40) (r := false) rfl (by first | rfl | simp) ?_
 refine gT rfl ?_
 refine pV (Y.loadA wd_42 rfl m1 rfl) rfl ?_
 refine gT rfl ?_
 refine pV (Y.loadA wd_42 rfl m0 rfl) rfl ?_
 refine gT rfl ?_
 refine pP (Y.neqA Try.eqGuardType42 rfl rfl (weq_pages (pagesOf x.cut.h) (pagesOf x.cut.h))) rfl ?_
 refine pP (Y.pickF rfl rfl) rfl ?_
 refine pM rfl rfl ?_
 refine WL.known (t := 45) (r := false) rfl (by first | rfl | simp) ?_
 refine gT rfl ?_
 refine pM rfl rfl ?_
 refine gT rfl ?_
 refine pP (Y.lss rfl rfl) rfl ?_
 refine pP (Y.pickF rfl rfl) rfl ?_
 refine pM rfl rfl ?_
 refine WL.known (t := 49) (r := false) rfl (by simp) ?_
 refine gT rfl ?_
 refine pM rfl rfl ?_
 refine gT rfl ?_
 refine pP (Y.fieldAddr fa_54_1 rfl) rfl ?_
 refine gT rfl ?_
 refine pV (Y.load (cs := (x.cut).cl i.1 i.2) (v := .slice i.1 (x.cut).log.length i.2) fl_39 rfl (by repeat (first | exact List.Mem.head _ | apply List.Mem.tail)) rfl) rfl ?_
 refine gT rfl ?_
 refine pP (Y.len Try.underlying39 rfl) rfl ?_
 refine gT rfl ?_
 refine pP (Y.gtr rfl rfl) rfl ?_
 refine pP (Y.pickF rfl rfl) rfl ?_
 refine pM rfl rfl ?_
 refine WL.known (t := 56) (r := false) rfl (by simp; omega) ?_
 refine gT rfl ?_
 refine pV (Y.loadAN wd_54 rfl (by repeat (first | exact List.Mem.head _ | apply List.Mem.tail)) (r := (x.cut).cl i.1 i.2) rfl) rfl ?_
 refine gT rfl ?_
 refine WL.eff (E.call Try.call77 rfl (fun _ w s => w_worldCheck x.cut i.1 (gOf i.1) 0 i.2 w (own_max s.fact.1) (own_le s.fact.1) (own_RL s.fact.1)) rfl) rfl (fun _ => ?_)
 refine gT rfl ?_
 refine pP (Y.neq rfl rfl) rfl ?_
 refine pP (Y.pickF rfl rfl) rfl ?_
 refine nN ?_
 refine WC.isF rfl (by rw [hz]; rfl) ?_
 refine WC.skip' ?_
 refine WQ.next ?_
 refine sR ?_
 refine pV (Y.loadAN wd_54 rfl (by repeat (first | exact List.Mem.head _ | apply List.Mem.tail)) (r := (x.cut).cl i.1 i.2) rfl) rfl ?_
 refine WL.eff (E.alloc Try.zeroValue54 rfl rfl) rfl (fun b5 => ?_)
 refine WL.eff (E.store Try.sizeOf54 rfl rfl rfl rfl rfl u0 rfl rfl) rfl (fun _ => ?_)
 refine nN ?_
 refine sR ?_
 refine pV (Y.loadA wd_42 rfl m2 rfl) rfl ?_
 refine pP (Y.fieldAddr fa_54_0 rfl) rfl ?_
 refine WL.eff (E.store Try.sizeOf42 rfl rfl rfl rfl rfl u0 rfl rfl) rfl (fun _ => ?_)
 refine nN ?_
 refine sR ?_
 refine pV (Y.loadAN wd_54 rfl m0 (r := x.cut.laid.cl i.1 i.2) rfl) rfl ?_
 refine WL.eff (E.call Try.call99 rfl (fun _ w s => (by have hh := w_scanRedo x.cut.laid i.1 (gOf i.1) 0 i.2 w (own_max (A := i.1) s.fact.1) (own_le (A := i.1) s.fact.1) (own_RL (A := i.1) (l := x.cut.log) s.fact.1); rw [rd] at hh; exact hh)) rfl) rfl (fun _ => ?_)
 refine pM rfl rfl ?_
 refine pP (Y.extract rfl rfl) rfl ?_
 refine pP (Y.extract rfl rfl) rfl ?_
 refine pP (Y.extract rfl rfl) rfl ?_
 refine WL.eff (E.alloc Try.zeroValue42 rfl rfl) rfl (fun b6 => ?_)
 refine WL.eff (E.store Try.sizeOf42 rfl rfl rfl rfl rfl u0 rfl rfl) rfl (fun _ => ?_)
 refine pA rfl rfl ?_
 refine pA rfl rfl ?_
 refine nN ?_
 refine sR ?_
 refine WL.eff (E.call Try.call98 rfl (fun _ w s => w_scanBegun w) rfl) rfl (fun _ => ?_)
 refine pM rfl rfl ?_
 refine gT rfl ?_
 refine pM rfl rfl ?_
 refine gT rfl ?_
 refine pP (Y.eql rfl rfl) rfl ?_
 refine pP (Y.pickT rfl rfl) rfl ?_
 refine pM rfl rfl ?_
 refine WL.known (t := 75) (r := true) rfl (by simp) ?_
 refine gT rfl ?_
 refine pM rfl rfl ?_
 refine gT rfl ?_
 refine pP (Y.eql rfl rfl) rfl ?_
 refine pP (Y.pickT rfl rfl) rfl ?_
 refine pM rfl rfl ?_
 refine WL.known (t := 79) (r := true) rfl (by simp) ?_
 refine gT rfl ?_
 refine pV (Y.loadA wd_42 rfl m0 rfl) rfl ?_
 refine gT rfl ?_
 refine pV (Y.loadA wd_42 rfl m3 rfl) rfl ?_
 refine gT rfl ?_
 refine pP (Y.eqlA Try.eqGuardType42 rfl rfl (weq_pages (pagesOf x.cut.h) (pagesOf x.cut.h))) rfl ?_
 refine pP (Y.pickT rfl rfl) rfl ?_
 refine pA rfl rfl ?_
 refine nN ?_
 refine WC.ret ?_
 refine dn1 Try.results26 rfl (fun a w s => ?_)
 · refine ⟨?_, s.low⟩
   clear s
   first
     | rfl
     | (simp only [packed]; simp_all)
end Go.Proofs.Ytdbcimadjmdffaa
