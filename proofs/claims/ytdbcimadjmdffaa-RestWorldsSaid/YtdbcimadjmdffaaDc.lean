/- The laws ActDoes, ActAlls. No condition. -/
import Derived.Test.YtdbcimadjmdffaaDb
import Derived.Test.YtdbcimadjmdffaaBv
import Derived.Test.YtdbcimadjmdffaaOx
set_option maxRecDepth 100000
set_option linter.unusedVariables false
set_option linter.unusedSimpArgs false
set_option linter.unusedSectionVars false
set_option maxHeartbeats 4000000
namespace Go.Proofs.Ytdbcimadjmdffaa
open Go.RowKit Go.Joins
theorem flat_at {α : Type} {cl : α → List Value} {sz : Nat} (hs : ∀ q, (cl q).length = sz) : ∀ {l : List α} {i : Nat} {r : α}, l[i]? = some r → ∀ {j : Nat} {v : Value}, (cl r)[j]? = some v → (l.flatMap cl)[i * sz + j]? = some v
  | [], i, r, h, _, _, _ => by simp at h
  | a :: l, 0, r, h, j, v, hv => by
    simp at h
    subst h
    have hj := (List.getElem?_eq_some_iff.1 hv).1
    rw [List.flatMap_cons, Nat.zero_mul, Nat.zero_add, List.getElem?_append_left hj]
    exact hv
  | a :: l, i + 1, r, h, j, v, hv => by
    have ih := flat_at hs (l := l) (i := i) (by simpa using h) hv
    rw [List.flatMap_cons, Nat.succ_mul, List.getElem?_append_right (by rw [hs]; omega), hs]
    rw [show i * sz + sz + j - sz = i * sz + j by omega]
    exact ih
theorem XL.ofW {α : Type} {cl : α → List Value} {sz : Nat} {u w : World} {H : Hp} {F : SF} {g : Nat} {cs : List Value} (l : List α) {T : TypeId} (hs : ∀ q, (cl q).length = sz) (hw : Wp u H F w) (hm : (g, cs, T) ∈ H) (hc : l.flatMap cl = cs) : XL cl sz w (some ⟨g, 0, none⟩) g 0 l := by
  subst hc
  refine ⟨fun _ => ⟨rfl, hw.1.lt hm⟩, fun i x hi j v hv => ?_⟩
  rw [hw.1.cell hm, Nat.zero_add]
  exact flat_at hs hi hv
def abL : List Ac := [⟨1, 1, 0, 0, 5⟩, ⟨5, 0, 0, 0, 0⟩, ⟨1, 2, 0, 0, 6⟩, ⟨1, 2, 1, 0, 7⟩, ⟨2, 2, 0, 0, 0⟩, ⟨6, 0, 0, 0, 0⟩]
def abW : Wd := ⟨⟨⟨0, 0, 0, 5⟩, ⟨7, 0, 0, 2⟩, Pg.zero⟩, [wrR 1 0 0 0 0 5, wrR 2 0 1 0 0 7, cmR 2 2, enR 2 3, bkR 1 1 0 0 5 0 0, enR 1 5], 6⟩
def abZ : List Ac := List.replicate 61 ⟨0, 0, 0, 0, 0⟩
theorem ab1 : doneOf abL = (abW, 5, 0) := by decide +kernel
theorem ab2 : doOf labW ⟨0, 0, 0, 0, 0⟩ = (Wd.zero, 4) := by decide +kernel
theorem ab3 : doneOf abZ = (Wd.zero, 0, 2) := by decide +kernel
theorem ms_55_61 (w : World) : (Instr.makeSlice 55 (.int .i64 61) (.int .i64 61)).run Try.prog w = .ok (.slice (some ⟨w.heap.size, 0, none⟩) 61 61) (w.alloc (.cells (abZ.flatMap Ac.cl).toArray 61)) := by kernel_rfl

theorem w_actBegun (w : World) : Ret Try.prog 64 [] w (.bool true) := by
 refine enter Try.func64 rfl Try.ntmps64 rfl SF.top trivial ?_
 refine sR ?_
 refine pA rfl rfl ?_
 refine nN ?_
 refine sR ?_
 refine pP (Y.build rfl (bf_61_0_1_4 _ _ _)) rfl ?_
 refine pP (Y.build rfl (bf_61_0 _)) rfl ?_
 refine pP (Y.build rfl (bf_61_0_1_4 _ _ _)) rfl ?_
 refine pP (Y.build rfl (bf_61_0_1_2_4 _ _ _ _)) rfl ?_
 refine pP (Y.build rfl (bf_61_0_1 _ _)) rfl ?_
 refine pP (Y.build rfl (bf_61_0 _)) rfl ?_
 refine WL.eff (E.buildSlice (bs_55_6 _ _ _ _ _ _ _ _ _ _ _ _ _ _ _ _ _ _ _ _ _ _ _ _ _ _ _ _ _ _) rfl rfl) rfl (fun b1 => ?_)
 refine WL.eff (E.retW (abW) [.int .i64 5, .int .i64 0] Try.call106 rfl (fun _ w s => (by have hh := w_actAll abL (some ⟨b1, 0, none⟩) b1 0 6 w (by decide) (XL.ofW abL (fun _ => rfl) s.wp (by repeat (first | exact List.Mem.head _ | apply List.Mem.tail)) rfl); rw [ab1] at hh; exact hh)) rfl) rfl (fun i1 => ?_)
 refine pM rfl rfl ?_
 refine pP (Y.extract rfl rfl) rfl ?_
 refine pP (Y.extract rfl rfl) rfl ?_
 refine pP (Y.extract rfl rfl) rfl ?_
 refine WL.eff (E.alloc Try.zeroValue54 rfl rfl) rfl (fun b2 => ?_)
 refine WL.eff (E.store Try.sizeOf54 rfl rfl rfl rfl rfl u0 rfl rfl) rfl (fun _ => ?_)
 refine pA rfl rfl ?_
 refine pA rfl rfl ?_
 refine nN ?_
 refine sR ?_
 refine WL.eff (E.callB (fun g : Nat => labW.val (some ⟨g, 0, none⟩) 9) (fun g => (g, flat someL, 34)) Try.call132 rfl (fun _ w s => w_lab w) rfl) rfl (fun g22 => ?_)
 refine pP (Y.build rfl (bf_61 )) rfl ?_
 refine WL.eff (E.retW (Wd.zero) [.int .i64 4] Try.call65 rfl (fun _ w s => (by have hh := w_actDo labW (some ⟨g22, 0, none⟩) g22 0 9 ⟨0, 0, 0, 0, 0⟩ w (short_max (by decide)) (by decide) (RL.ofH s (by repeat (first | exact List.Mem.head _ | apply List.Mem.tail))); rw [ab2] at hh; exact hh)) rfl) rfl (fun i2 => ?_)
 refine pM rfl rfl ?_
 refine pP (Y.extract rfl rfl) rfl ?_
 refine pP (Y.extract rfl rfl) rfl ?_
 refine WL.eff (E.alloc Try.zeroValue54 rfl rfl) rfl (fun b3 => ?_)
 refine WL.eff (E.store Try.sizeOf54 rfl rfl rfl rfl rfl u0 rfl rfl) rfl (fun _ => ?_)
 refine pA rfl rfl ?_
 refine nN ?_
 refine sR ?_
 refine WL.eff (E.makeSlice rfl rfl ms_55_61 rfl) rfl (fun b61 => ?_)
 refine WL.eff (E.retW (Wd.zero) [.int .i64 0, .int .i64 2] Try.call106 rfl (fun _ w s => (by have hh := w_actAll abZ (some ⟨b61, 0, none⟩) b61 0 61 w (by decide) (XL.ofW abZ (fun _ => rfl) s.wp (by repeat (first | exact List.Mem.head _ | apply List.Mem.tail)) rfl); rw [ab3] at hh; exact hh)) rfl) rfl (fun i3 => ?_)
 refine pM rfl rfl ?_
 refine pP (Y.extract rfl rfl) rfl ?_
 refine pP (Y.extract rfl rfl) rfl ?_
 refine pP (Y.extract rfl rfl) rfl ?_
 refine WL.eff (E.alloc Try.zeroValue54 rfl rfl) rfl (fun b4 => ?_)
 refine WL.eff (E.store Try.sizeOf54 rfl rfl rfl rfl rfl u0 rfl rfl) rfl (fun _ => ?_)
 refine pA rfl rfl ?_
 refine pA rfl rfl ?_
 refine nN ?_
 refine sR ?_
 refine pM rfl rfl ?_
 refine pP (Y.eql rfl rfl) rfl ?_
 refine pM rfl rfl ?_
 refine WL.known (t := 35) (r := true) rfl (by decide) ?_
 refine gT rfl ?_
 refine pM rfl rfl ?_
 refine gT rfl ?_
 refine pP (Y.eql rfl rfl) rfl ?_
 refine pP (Y.pickT rfl rfl) rfl ?_
 refine pM rfl rfl ?_
 refine WL.known (t := 39) (r := true) rfl (by decide) ?_
 refine gT rfl ?_
 refine pM rfl rfl ?_
 refine gT rfl ?_
 refine pP (Y.eql rfl rfl) rfl ?_
 refine pP (Y.pickT rfl rfl) rfl ?_
 refine pM rfl rfl ?_
 refine WL.known (t := 43) (r := true) rfl (by decide) ?_
 refine gT rfl ?_
 refine pM rfl rfl ?_
 refine gT rfl ?_
 refine pP (Y.eql rfl rfl) rfl ?_
 refine pP (Y.pickT rfl rfl) rfl ?_
 refine pM rfl rfl ?_
 refine WL.known (t := 47) (r := true) rfl (by decide) ?_
 refine gT rfl ?_
 refine pP (Y.fieldAddr fa_54_1 rfl) rfl ?_
 refine gT rfl ?_
 refine pV (Y.load (cs := (abW).cl i1.1 i1.2) (v := .slice i1.1 (abW).log.length i1.2) fl_39 rfl (by repeat (first | exact List.Mem.head _ | apply List.Mem.tail)) rfl) rfl ?_
 refine gT rfl ?_
 refine pP (Y.len Try.underlying39 rfl) rfl ?_
 refine gT rfl ?_
 refine pP (Y.eql rfl rfl) rfl ?_
 refine pP (Y.pickT rfl rfl) rfl ?_
 refine pM rfl rfl ?_
 refine WL.known (t := 53) (r := true) rfl (by decide) ?_
 refine gT rfl ?_
 refine pP (Y.fieldAddr fa_54_0 rfl) rfl ?_
 refine gT rfl ?_
 refine pP (Y.ixArr Try.underlying42 Try.sizeOf24 rfl rfl (by omega) (by omega)) rfl ?_
 refine gT rfl ?_
 refine pP (Y.fieldAddr fa_24_0 rfl) rfl ?_
 refine gT rfl ?_
 refine pP (Y.ixArr Try.underlying22 Try.sizeOf3 rfl rfl (by omega) (by omega)) rfl ?_
 refine gT rfl ?_
 refine pV (Y.load (cs := (abW).cl i1.1 i1.2) (v := .int .i64 0) fl_3 rfl (by repeat (first | exact List.Mem.head _ | apply List.Mem.tail)) rfl) rfl ?_
 refine gT rfl ?_
 refine pP (Y.eql rfl rfl) rfl ?_
 refine pP (Y.pickT rfl rfl) rfl ?_
 refine pM rfl rfl ?_
 refine WL.known (t := 61) (r := true) rfl (by decide) ?_
 refine gT rfl ?_
 refine pP (Y.fieldAddr fa_54_0 rfl) rfl ?_
 refine gT rfl ?_
 refine pP (Y.ixArr Try.underlying42 Try.sizeOf24 rfl rfl (by omega) (by omega)) rfl ?_
 refine gT rfl ?_
 refine pP (Y.fieldAddr fa_24_0 rfl) rfl ?_
 refine gT rfl ?_
 refine pP (Y.ixArr Try.underlying22 Try.sizeOf3 rfl rfl (by omega) (by omega)) rfl ?_
 refine gT rfl ?_
 refine pV (Y.load (cs := (abW).cl i1.1 i1.2) (v := .int .i64 7) fl_3 rfl (by repeat (first | exact List.Mem.head _ | apply List.Mem.tail)) rfl) rfl ?_
 refine gT rfl ?_
 refine pP (Y.eql rfl rfl) rfl ?_
 refine pP (Y.pickT rfl rfl) rfl ?_
 refine pA rfl rfl ?_
 refine nN ?_
 refine WC.ret ?_
 refine dn1 Try.results64 rfl (fun a w s => ?_)
 · refine ⟨?_, s.low⟩
   rfl

theorem w_ActDoes (x : Wd) (A : Option Addr) (b o c : Nat) (y : Ac) (w : World) (hm : x.log.length ≤ maxLen) (hcap : x.log.length ≤ c) (hr : RL w A b o x.log) : Ret Try.prog 37 [x.val A c, y.v] w (.bool true) := by
 refine enter Try.func37 rfl Try.ntmps37 rfl SF.top trivial ?_
 refine sR ?_
 refine WL.eff (E.box rfl rfl rfl) rfl (fun b1 => ?_)
 refine WL.eff (E.box rfl rfl rfl) rfl (fun b2 => ?_)
 refine pA rfl rfl ?_
 refine nN ?_
 refine sR ?_
 refine pV (Y.loadAN wd_54 rfl (by repeat (first | exact List.Mem.head _ | apply List.Mem.tail)) (r := (x).cl A c) rfl) rfl ?_
 refine pV (Y.loadAN wd_61 rfl (by repeat (first | exact List.Mem.head _ | apply List.Mem.tail)) (r := y.cl) rfl) rfl ?_
 refine WL.eff (E.retW ((doOf x y).1) [.int .i64 (doOf x y).2] Try.call65 rfl (fun _ w s => w_actDo x A b o c y w hm hcap (hr.below s.low)) rfl) rfl (fun i => ?_)
 refine pM rfl rfl ?_
 refine pP (Y.extract rfl rfl) rfl ?_
 refine pP (Y.extract rfl rfl) rfl ?_
 refine WL.eff (E.alloc Try.zeroValue54 rfl rfl) rfl (fun b3 => ?_)
 refine WL.eff (E.store Try.sizeOf54 rfl rfl rfl rfl rfl u0 rfl rfl) rfl (fun _ => ?_)
 refine pA rfl rfl ?_
 refine nN ?_
 refine sR ?_
 refine pV (Y.loadAN wd_54 rfl (by repeat (first | exact List.Mem.head _ | apply List.Mem.tail)) (r := (x).cl A c) rfl) rfl ?_
 refine pV (Y.loadAN wd_61 rfl (by repeat (first | exact List.Mem.head _ | apply List.Mem.tail)) (r := y.cl) rfl) rfl ?_
 refine WL.eff (E.retW ((doOf x y).1) [.int .i64 (doOf x y).2] Try.call105 rfl (fun _ w s => w_doOf x A b o c y w hm hcap (hr.below s.low)) rfl) rfl (fun j => ?_)
 refine pM rfl rfl ?_
 refine pP (Y.extract rfl rfl) rfl ?_
 refine pP (Y.extract rfl rfl) rfl ?_
 refine WL.eff (E.alloc Try.zeroValue54 rfl rfl) rfl (fun b4 => ?_)
 refine WL.eff (E.store Try.sizeOf54 rfl rfl rfl rfl rfl u0 rfl rfl) rfl (fun _ => ?_)
 refine pA rfl rfl ?_
 refine nN ?_
 refine sR ?_
 refine WL.eff (E.call Try.call64 rfl (fun _ w s => w_actBegun w) rfl) rfl (fun _ => ?_)
 refine pM rfl rfl ?_
 refine gT rfl ?_
 refine pV (Y.loadAN wd_54 rfl (by repeat (first | exact List.Mem.head _ | apply List.Mem.tail)) (r := ((doOf x y).1).cl i.1 i.2) rfl) rfl ?_
 refine gT rfl ?_
 refine pV (Y.loadAN wd_54 rfl (by repeat (first | exact List.Mem.head _ | apply List.Mem.tail)) (r := ((doOf x y).1).cl j.1 j.2) rfl) rfl ?_
 refine gT rfl ?_
 refine WL.eff (E.call Try.call83 rfl (fun _ w s => w_sameWorlds ((doOf x y).1) ((doOf x y).1) i.1 j.1 (gOf i.1) 0 i.2 (gOf j.1) 0 j.2 w (own_max s.fact.2.1.1) (own_RL s.fact.2.1.1) (own_RL s.fact.1)) rfl) rfl (fun _ => ?_)
 refine pP (Y.pickT rfl rfl) rfl ?_
 refine pM rfl rfl ?_
 refine WL.known (t := 27) (r := true) rfl (by simp) ?_
 refine gT rfl ?_
 refine pM rfl rfl ?_
 refine gT rfl ?_
 refine pM rfl rfl ?_
 refine gT rfl ?_
 refine pP (Y.eql rfl rfl) rfl ?_
 refine pP (Y.pickT rfl rfl) rfl ?_
 refine pA rfl rfl ?_
 refine nN ?_
 refine WC.ret ?_
 refine dn1 Try.results37 rfl (fun a w s => ?_)
 · refine ⟨?_, s.low⟩
   simp [packed]

theorem w_ActAlls (l : List Ac) (A7 : Option Addr) (b7 o7 c7 : Nat) (w : World) (hm : l.length ≤ maxLen) (hal : AL w A7 b7 o7 l) : Ret Try.prog 38 [.slice A7 l.length c7] w (.bool true) := by
 refine enter Try.func38 rfl Try.ntmps38 rfl SF.top trivial ?_
 refine sR ?_
 refine pA rfl rfl ?_
 refine nN ?_
 refine sR ?_
 refine pM rfl rfl ?_
 refine WL.eff (E.retW ((doneOf l).1) [.int .i64 (doneOf l).2.1, .int .i64 (doneOf l).2.2] Try.call106 rfl (fun _ w s => w_actAll l A7 b7 o7 c7 w hm (hal.below s.low)) rfl) rfl (fun i => ?_)
 refine pM rfl rfl ?_
 refine pP (Y.extract rfl rfl) rfl ?_
 refine pP (Y.extract rfl rfl) rfl ?_
 refine pP (Y.extract rfl rfl) rfl ?_
 refine WL.eff (E.alloc Try.zeroValue54 rfl rfl) rfl (fun b1 => ?_)
 refine WL.eff (E.store Try.sizeOf54 rfl rfl rfl rfl rfl u0 rfl rfl) rfl (fun _ => ?_)
 refine pA rfl rfl ?_
 refine pA rfl rfl ?_
 refine nN ?_
 refine sR ?_
 refine pM rfl rfl ?_
 refine WL.eff (E.retW ((doneOf l).1) [.int .i64 (doneOf l).2.1, .int .i64 (doneOf l).2.2] Try.call107 rfl (fun _ w s => w_doneOf l A7 b7 o7 c7 w hm (hal.below s.low)) rfl) rfl (fun j => ?_)
 refine pM rfl rfl ?_
 refine pP (Y.extract rfl rfl) rfl ?_
 refine pP (Y.extract rfl rfl) rfl ?_
 refine pP (Y.extract rfl rfl) rfl ?_
 refine WL.eff (E.alloc Try.zeroValue54 rfl rfl) rfl (fun b2 => ?_)
 refine WL.eff (E.store Try.sizeOf54 rfl rfl rfl rfl rfl u0 rfl rfl) rfl (fun _ => ?_)
 refine pA rfl rfl ?_
 refine pA rfl rfl ?_
 refine nN ?_
 refine sR ?_
 refine WL.eff (E.call Try.call64 rfl (fun _ w s => w_actBegun w) rfl) rfl (fun _ => ?_)
 refine pM rfl rfl ?_
 refine gT rfl ?_
 refine pV (Y.loadAN wd_54 rfl (by repeat (first | exact List.Mem.head _ | apply List.Mem.tail)) (r := ((doneOf l).1).cl i.1 i.2) rfl) rfl ?_
 refine gT rfl ?_
 refine pV (Y.loadAN wd_54 rfl (by repeat (first | exact List.Mem.head _ | apply List.Mem.tail)) (r := ((doneOf l).1).cl j.1 j.2) rfl) rfl ?_
 refine gT rfl ?_
 refine WL.eff (E.call Try.call83 rfl (fun _ w s => w_sameWorlds ((doneOf l).1) ((doneOf l).1) i.1 j.1 (gOf i.1) 0 i.2 (gOf j.1) 0 j.2 w (own_max s.fact.2.1.1) (own_RL s.fact.2.1.1) (own_RL s.fact.1)) rfl) rfl (fun _ => ?_)
 refine pP (Y.pickT rfl rfl) rfl ?_
 refine pM rfl rfl ?_
 refine WL.known (t := 27) (r := true) rfl (by simp) ?_
 refine gT rfl ?_
 refine pM rfl rfl ?_
 refine gT rfl ?_
 refine pM rfl rfl ?_
 refine gT rfl ?_
 refine pP (Y.eql rfl rfl) rfl ?_
 refine pP (Y.pickT rfl rfl) rfl ?_
 refine pM rfl rfl ?_
 refine WL.known (t := 32) (r := true) rfl (by simp) ?_
 refine gT rfl ?_
 refine pM rfl rfl ?_
 refine gT rfl ?_
 refine pM rfl rfl ?_
 refine gT rfl ?_
 refine pP (Y.eql rfl rfl) rfl ?_
 refine pP (Y.pickT rfl rfl) rfl ?_
 refine pA rfl rfl ?_
 refine nN ?_
 refine WC.ret ?_
 refine dn1 Try.results38 rfl (fun a w s => ?_)
 · refine ⟨?_, s.low⟩
   simp [packed]
end Go.Proofs.Ytdbcimadjmdffaa
