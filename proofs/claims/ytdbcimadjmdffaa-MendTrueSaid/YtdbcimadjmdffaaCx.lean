/- The laws MendTrue and MendFew. No condition. -/
import Derived.Test.YtdbcimadjmdffaaCw
import Derived.Test.YtdbcimadjmdffaaCk
set_option maxRecDepth 100000
set_option linter.unusedVariables false
set_option linter.unusedSimpArgs false
set_option linter.unusedSectionVars false
set_option maxHeartbeats 4000000
namespace Go.Proofs.Ytdbcimadjmdffaa
open Go.RowKit Go.Joins
def C9.row3 (c : C9) (i : Int) : List Value := [.int .i64 (c.at i 0), .int .i64 (c.at i 1), .int .i64 (c.at i 2)]
theorem c9_row3 (c : C9) (i : Int) (hi : 0 ≤ i ∧ i ≤ 2) : seg c.cl (0 + i.toNat * 3) 3 = some (c.row3 i) := by
  have h1 : i = 0 ∨ i = 1 ∨ i = 2 := by omega
  rcases h1 with rfl | rfl | rfl <;> rfl
def sameRow (p : P3) (c : C9) (i : Int) : Bool := (p.get i).c0 == c.at i 0 && ((p.get i).c1 == c.at i 1 && (p.get i).c2 == c.at i 2)
theorem cells9_rows (p : P3) (c : C9) : p.cells9 = c ↔ ∀ i : Int, 0 ≤ i ∧ i ≤ 2 → sameRow p c i = true := by
  constructor
  · rintro rfl i hi
    have h1 : i = 0 ∨ i = 1 ∨ i = 2 := by omega
    rcases h1 with rfl | rfl | rfl <;> simp [sameRow, P3.get, P3.cells9, C9.at]
  · intro h
    have h0 := h 0 (by omega)
    have h1 := h 1 (by omega)
    have h2 := h 2 (by omega)
    cases c
    simp [sameRow, P3.get, C9.at] at h0 h1 h2
    simp [P3.cells9, h0, h1, h2]

theorem w_is (p : P3) (c : C9) (w : World) : Ret Try.prog 70 [p.val, c.val] w (.bool (decide (p.cells9 = c))) := by
 refine enter Try.func70 rfl Try.ntmps70 rfl SF.top trivial ?_
 refine sR ?_
 refine WL.eff (E.box rfl rfl rfl) rfl (fun b1 => ?_)
 refine WL.eff (E.box rfl rfl rfl) rfl (fun b2 => ?_)
 refine pA rfl rfl ?_
 refine nN ?_
 refine WC.seq ?_
 refine sR ?_
 refine pA rfl rfl ?_
 refine nN ?_
 refine WC.block ?_
 refine WC.loop (ι := Int) (fun k => [(2, .pointer (some ⟨b1, 0, none⟩)), (3, .pointer (some ⟨b2, 0, none⟩)), (5, .int .i64 k)]) (fun _ => [(b2, c.cl, 67), (b1, p.cl, 42)]) (fun _ => SF.top) (fun k => (0 ≤ k ∧ k ≤ 3) ∧ ∀ i : Int, 0 ≤ i ∧ i < k → sameRow p c i = true) (fun k => (3 - k).toNat) 0 ⟨by omega, fun i hi => by omega⟩ (fun a w s => s.weak (by repeat (first | exact sub_nil _ | refine sub_cons rfl ?_))) (fun k hk => ?_)
 obtain ⟨hk3, hkr⟩ := hk
 refine WC.seq ?_
 refine sR ?_
 refine pM rfl rfl ?_
 refine pP (Y.lss rfl rfl) rfl ?_
 refine nN ?_
 refine WC.cond rfl (fun h7 => ?_) (fun h7 => ?_)
 refine WC.skip' ?_
 refine WQ.next ?_
 refine WC.seq ?_
 refine WC.block ?_
 refine WC.seq ?_
 have hk2 : 0 ≤ k ∧ k ≤ 2 := by have h7 := h7; simp at h7; omega
 refine WC.draw [(0, .q false), (1, .q false), (2, .q false), (3, .q true), (4, .q false), (5, .q false), (6, .q true), (7, .q false)] mixed (by kernel_rfl) ?_
 refine dP (Y.move rfl) rfl rfl ?_
 refine dP (Y.ixArr Try.underlying42 Try.sizeOf24 rfl rfl hk2.1 (by omega)) rfl rfl ?_
 refine dP (Y.fieldAddr fa_24_0 rfl) rfl rfl ?_
 refine dV (Y.loadAN wd_22 rfl m1 (p3_row3 p k hk2)) rfl rfl ?_
 refine dP (Y.move rfl) rfl rfl ?_
 refine dP (Y.ixArr Try.underlying67 Try.sizeOf22 rfl rfl hk2.1 (by omega)) rfl rfl ?_
 refine dV (Y.loadAN wd_22 rfl m0 (c9_row3 c k hk2)) rfl rfl ?_
 refine dP (Y.neqA Try.eqGuardType22 rfl rfl (weq_three _ _ _ _ _ _)) rfl rfl ?_
 refine WDm.nil (WQ.and ?_)
 refine WQ.next ?_
 refine WC.cond rfl (fun h17 => ?_) (fun h17 => ?_)
 refine sR ?_
 refine pA rfl rfl ?_
 refine nN ?_
 refine WC.ret ?_
 refine WQ.blockRet ?_
 refine WQ.thenRet ?_
 refine WQ.thenRet ?_
 refine WQ.blockRet ?_
 refine WQ.thenRet ?_
 refine dn1 Try.results70 rfl (fun a w s => ?_)
 · have e : decide (p.cells9 = c) = false := by
     rw [decide_eq_false_iff_not, cells9_rows]
     intro hh
     have := hh k hk2
     unfold sameRow at this
     have h17 := h17
     rw [this] at h17
     cases h17
   rw [e]
   exact ⟨rfl, s.low⟩
 refine WC.skip' ?_
 refine WQ.blockEnd ?_
 refine WQ.next ?_
 refine WC.region ?_
 refine pM rfl rfl ?_
 refine pP (Y.add rfl rfl (i64_in (by omega) (by omega))) rfl ?_
 refine pA rfl rfl ?_
 refine WL.nil ?_
 · refine fun a w s => ⟨k + 1, ⟨by omega, fun i hi => ?_⟩, by omega, s.weak (by repeat (first | exact sub_nil _ | refine sub_cons rfl ?_))⟩
   by_cases hik : i = k
   · subst hik
     have h17 := h17
     unfold sameRow
     revert h17
     generalize ((p.get i).c0 == c.at i 0 && ((p.get i).c1 == c.at i 1 && (p.get i).c2 == c.at i 2)) = bb
     cases bb <;> simp
   · exact hkr i (by omega)
 refine WC.exit ?_
 refine WQ.thenExit ?_
 refine WQ.thenExit ?_
 refine WQ.blockExit ?_
 refine WQ.next ?_
 refine sR ?_
 refine pA rfl rfl ?_
 refine nN ?_
 refine WC.ret ?_
 refine dn1 Try.results70 rfl (fun a w s => ?_)
 · have ek : k = 3 := by have h7 := h7; simp at h7; omega
   have e : decide (p.cells9 = c) = true := by
     rw [decide_eq_true_eq, cells9_rows]
     exact fun i hi => hkr i (by omega)
   rw [e]
   exact ⟨rfl, s.low⟩

theorem w_MendTrue (x : Wd) (A : Option Addr) (b o c : Nat) (w : World) (hm : x.log.length ≤ maxLen) (hcap : x.log.length ≤ c) (hr : RL w A b o x.log) : Ret Try.prog 36 [x.val A c] w (.bool true) := by
 refine enter Try.func36 rfl Try.ntmps36 rfl SF.top trivial ?_
 refine sR ?_
 refine WL.eff (E.box rfl rfl rfl) rfl (fun b1 => ?_)
 refine pA rfl rfl ?_
 refine nN ?_
 refine sR ?_
 refine pV (Y.loadAN wd_54 rfl (by repeat (first | exact List.Mem.head _ | apply List.Mem.tail)) (r := (x).cl A c) rfl) rfl ?_
 refine WL.eff (E.retW ((mendOf x (-1) true true true).1) [.int .i64 (mendOf x (-1) true true true).2.1, .int .i64 (mendOf x (-1) true true true).2.2] Try.call66 rfl (fun _ w s => w_mendAll x A b o c w hm hcap (hr.below s.low)) rfl) rfl (fun i => ?_)
 refine pM rfl rfl ?_
 refine pP (Y.extract rfl rfl) rfl ?_
 refine pP (Y.extract rfl rfl) rfl ?_
 refine pP (Y.extract rfl rfl) rfl ?_
 refine WL.eff (E.alloc Try.zeroValue54 rfl rfl) rfl (fun b2 => ?_)
 refine WL.eff (E.store Try.sizeOf54 rfl rfl rfl rfl rfl u0 rfl rfl) rfl (fun _ => ?_)
 refine pA rfl rfl ?_
 refine pA rfl rfl ?_
 refine nN ?_
 refine WC.seq ?_
 refine sR ?_
 refine pM rfl rfl ?_
 refine pP (Y.neq rfl rfl) rfl ?_
 refine pM rfl rfl ?_
 refine WL.split (t := 23) rfl (fun r h23 => ?_)
 cases r
 obtain ⟨h0, g, hRg, hlg, hng, ⟨kk, hk1, hk2, hk3⟩, e, hw, hcells, hwins, hlos, hagain, g', hg'⟩ := mend_true (x := x) (by have h23 := h23; simpa using h23)
 have eE : (mendOf x (-1) true true true).2.2 = 0 := by have h23 := h23; simpa using h23
 rw [e, ← hk1, eE]
 dsimp only
 have hcut := cut_right h0
 obtain ⟨lq, hq60, hRq, hsq, _⟩ := world_right hcut
 have hcl := cut_len h0
 have hsf := (world_right h0).2.2.2.1
 have lz := (world_right hw).1
 refine gT rfl ?_
 refine pV (Y.loadAN wd_54 rfl (by repeat (first | exact List.Mem.head _ | apply List.Mem.tail)) (r := (x).cl A c) rfl) rfl ?_
 refine gT rfl ?_
 refine WL.eff (E.call Try.call63 rfl (fun _ w s => w_worldError x A b o c w hm hcap (hr.below s.low)) rfl) rfl (fun _ => ?_)
 refine gT rfl ?_
 refine pP (Y.neq rfl rfl) rfl ?_
 refine pP (Y.pickF rfl rfl) rfl ?_
 refine nN ?_
 refine WC.isF rfl (by rw [h0]; rfl) ?_
 refine WC.skip' ?_
 refine WQ.next ?_
 refine WC.seq ?_
 have cz : cellsOf x.cut.log = cellsH x.cut.h := cells_ok hcut
 have nz : nowOf (⟨pagesOf g, g.reverse, g.length⟩ : Wd) = (pagesOf g, 0) := by rw [now_ok hw]; simp [Wd.h]
 have oz : losersOf (⟨pagesOf g, g.reverse, g.length⟩ : Wd).log = [] := by unfold losersOf; rw [if_pos lz]; simpa using hlos
 refine WC.region ?_
 refine pP (Y.fieldAddr fa_54_1 rfl) rfl ?_
 refine pV (Y.load (cs := (x).cl A c) (v := .slice A (x).log.length c) fl_39 rfl (by repeat (first | exact List.Mem.head _ | apply List.Mem.tail)) rfl) rfl ?_
 refine pP (Y.fieldAddr fa_54_2 rfl) rfl ?_
 refine pV (Y.load (cs := (x).cl A c) (v := .int .i64 x.safe) fl_3 rfl (by repeat (first | exact List.Mem.head _ | apply List.Mem.tail)) rfl) rfl ?_
 refine pP (Y.slToN (x.log.take x.safe.toNat).length (take_cast hsf) Try.underlying39 Try.sizeOf34 rfl rfl (by simp; omega)) rfl ?_
 refine WL.eff (E.call Try.call68 rfl (fun _ w s => (by have hh := w_cells x.cut.log A b o c w (by show (x.log.take _).length ≤ _; simp; omega) ((hr.below s.low).take _); rw [cz, lq] at hh; exact hh)) rfl) rfl (fun _ => ?_)
 refine pM rfl rfl ?_
 refine pP (Y.extract rfl rfl) rfl ?_
 refine pP (Y.extract rfl rfl) rfl ?_
 refine WL.eff (E.alloc Try.zeroValue67 rfl rfl) rfl (fun b3 => ?_)
 refine WL.eff (E.store Try.sizeOf67 rfl rfl rfl rfl rfl u0 rfl rfl) rfl (fun _ => ?_)
 refine pA rfl rfl ?_
 refine nN ?_
 refine sR ?_
 refine pV (Y.loadAN wd_54 rfl (by repeat (first | exact List.Mem.head _ | apply List.Mem.tail)) (r := ((⟨pagesOf g, g.reverse, g.length⟩ : Wd)).cl i.1 i.2) rfl) rfl ?_
 refine WL.eff (E.call Try.call69 rfl (fun _ w s => (by have hh := w_worldNow (⟨pagesOf g, g.reverse, g.length⟩ : Wd) i.1 (gOf i.1) 0 i.2 w (own_max s.fact.1) (own_le s.fact.1) (own_RL s.fact.1); rw [nz] at hh; exact hh)) rfl) rfl (fun _ => ?_)
 refine pM rfl rfl ?_
 refine pP (Y.extract rfl rfl) rfl ?_
 refine pP (Y.extract rfl rfl) rfl ?_
 refine WL.eff (E.alloc Try.zeroValue42 rfl rfl) rfl (fun b4 => ?_)
 refine WL.eff (E.store Try.sizeOf42 rfl rfl rfl rfl rfl u0 rfl rfl) rfl (fun _ => ?_)
 refine pA rfl rfl ?_
 refine nN ?_
 refine sR ?_
 refine pP (Y.fieldAddr fa_54_1 rfl) rfl ?_
 refine pV (Y.load (cs := ((⟨pagesOf g, g.reverse, g.length⟩ : Wd)).cl i.1 i.2) (v := .slice i.1 ((⟨pagesOf g, g.reverse, g.length⟩ : Wd)).log.length i.2) fl_39 rfl (by repeat (first | exact List.Mem.head _ | apply List.Mem.tail)) rfl) rfl ?_
 refine WL.eff (E.callF (fun i : Option Addr × Nat => .tuple #[.slice i.1 (([] : List Int)).length i.2, .int .i64 0]) (fun i => SF.own w.heap.size 3 1 (.slice i.1 (([] : List Int)).length i.2) (([] : List Int)).length (ints (([] : List Int)))) Try.call95 rfl (fun _ w s => (by have hh := w_losers (⟨pagesOf g, g.reverse, g.length⟩ : Wd).log i.1 (gOf i.1) 0 i.2 w (own_RL s.fact.1); rw [oz, lz] at hh; exact hh.mono fun e w' ⟨i, he, hb, ho⟩ => ⟨i, he, hb, ownsRow_le ho s.low.size, fun g hg => .inl (ho.lt g hg).1⟩)) rfl) rfl (fun j => ?_)
 refine pM rfl rfl ?_
 refine pP (Y.extract rfl rfl) rfl ?_
 refine pP (Y.extract rfl rfl) rfl ?_
 refine pA rfl rfl ?_
 refine pA rfl rfl ?_
 refine nN ?_
 refine sR ?_
 refine pV (Y.loadAN wd_54 rfl (by repeat (first | exact List.Mem.head _ | apply List.Mem.tail)) (r := ((⟨pagesOf g, g.reverse, g.length⟩ : Wd)).cl i.1 i.2) rfl) rfl ?_
 refine WL.eff (E.retW ((⟨pagesOf g, g.reverse, g.length⟩ : Wd)) [.int .i64 0, .int .i64 0] Try.call66 rfl (fun _ w s => (by have hh := w_mendAll (⟨pagesOf g, g.reverse, g.length⟩ : Wd) i.1 (gOf i.1) 0 i.2 w (own_max s.fact.1.1) (own_le s.fact.1.1) (own_RL s.fact.1.1); rw [hagain] at hh; exact hh)) rfl) rfl (fun k => ?_)
 refine pM rfl rfl ?_
 refine pP (Y.extract rfl rfl) rfl ?_
 refine pP (Y.extract rfl rfl) rfl ?_
 refine pP (Y.extract rfl rfl) rfl ?_
 refine WL.eff (E.alloc Try.zeroValue54 rfl rfl) rfl (fun b5 => ?_)
 refine WL.eff (E.store Try.sizeOf54 rfl rfl rfl rfl rfl u0 rfl rfl) rfl (fun _ => ?_)
 refine pA rfl rfl ?_
 refine pA rfl rfl ?_
 refine nN ?_
 refine sR ?_
 refine WL.eff (E.call Try.call102 rfl (fun _ w s => w_mendBegun w) rfl) rfl (fun _ => ?_)
 refine pM rfl rfl ?_
 refine gT rfl ?_
 refine pM rfl rfl ?_
 refine gT rfl ?_
 refine pP (Y.eql rfl rfl) rfl ?_
 refine pP (Y.pickT rfl rfl) rfl ?_
 refine pM rfl rfl ?_
 refine WL.known (t := 64) (r := true) rfl (by first | rfl | simp) ?_
 refine gT rfl ?_
 refine pM rfl rfl ?_
 refine gT rfl ?_
 refine pP (Y.eql rfl rfl) rfl ?_
 refine pP (Y.pickT rfl rfl) rfl ?_
 refine pM rfl rfl ?_
 refine WL.known (t := 68) (r := true) rfl (by first | rfl | simp) ?_
 refine gT rfl ?_
 refine pM rfl rfl ?_
 refine gT rfl ?_
 refine pP (Y.eql rfl rfl) rfl ?_
 refine pP (Y.pickT rfl rfl) rfl ?_
 refine pM rfl rfl ?_
 refine WL.known (t := 72) (r := true) rfl (by first | rfl | simp) ?_
 refine gT rfl ?_
 refine pM rfl rfl ?_
 refine gT rfl ?_
 refine pP (Y.eql rfl rfl) rfl ?_
 refine pP (Y.pickT rfl rfl) rfl ?_
 refine pM rfl rfl ?_
 refine WL.known (t := 76) (r := true) rfl (by first | rfl | simp) ?_
 refine gT rfl ?_
 refine pV (Y.loadA wd_42 rfl m1 rfl) rfl ?_
 refine gT rfl ?_
 refine pV (Y.loadA wd_67 rfl m2 rfl) rfl ?_
 refine gT rfl ?_
 refine WL.eff (E.call Try.call70 rfl (fun _ w s => w_is (pagesOf g) (cellsH x.cut.h) w) rfl) rfl (fun _ => ?_)
 refine pP (Y.pickT rfl rfl) rfl ?_
 refine pM rfl rfl ?_
 refine WL.known (t := 81) (r := true) rfl (by simpa using hcells) ?_
 refine gT rfl ?_
 refine pP (Y.fieldAddr fa_54_0 rfl) rfl ?_
 refine gT rfl ?_
 refine pV (Y.loadAN (cs := ((⟨pagesOf g, g.reverse, g.length⟩ : Wd)).cl i.1 i.2) wd_42 rfl (by repeat (first | exact List.Mem.head _ | apply List.Mem.tail)) (r := ((⟨pagesOf g, g.reverse, g.length⟩ : Wd)).disk.cl) rfl) rfl ?_
 refine gT rfl ?_
 refine pV (Y.loadA wd_67 rfl m2 rfl) rfl ?_
 refine gT rfl ?_
 refine WL.eff (E.call Try.call70 rfl (fun _ w s => w_is (pagesOf g) (cellsH x.cut.h) w) rfl) rfl (fun _ => ?_)
 refine pP (Y.pickT rfl rfl) rfl ?_
 refine pM rfl rfl ?_
 refine WL.known (t := 87) (r := true) rfl (by simpa using hcells) ?_
 refine gT rfl ?_
 refine pP (Y.fieldAddr fa_54_0 rfl) rfl ?_
 refine gT rfl ?_
 refine pV (Y.loadAN (cs := ((⟨pagesOf g, g.reverse, g.length⟩ : Wd)).cl i.1 i.2) wd_42 rfl (by repeat (first | exact List.Mem.head _ | apply List.Mem.tail)) (r := ((⟨pagesOf g, g.reverse, g.length⟩ : Wd)).disk.cl) rfl) rfl ?_
 refine gT rfl ?_
 refine pV (Y.loadA wd_42 rfl m1 rfl) rfl ?_
 refine gT rfl ?_
 refine pP (Y.eqlA Try.eqGuardType42 rfl rfl (weq_pages (pagesOf g) (pagesOf g))) rfl ?_
 refine pP (Y.pickT rfl rfl) rfl ?_
 refine pM rfl rfl ?_
 refine WL.known (t := 93) (r := true) rfl (by simp) ?_
 refine gT rfl ?_
 refine pM rfl rfl ?_
 refine gT rfl ?_
 refine pP (Y.len Try.underlying64 rfl) rfl ?_
 refine gT rfl ?_
 refine pP (Y.eql rfl rfl) rfl ?_
 refine pP (Y.pickT rfl rfl) rfl ?_
 refine pM rfl rfl ?_
 refine WL.known (t := 98) (r := true) rfl (by first | rfl | simp) ?_
 refine gT rfl ?_
 refine pM rfl rfl ?_
 refine gT rfl ?_
 refine pP (Y.eql rfl rfl) rfl ?_
 refine pP (Y.pickT rfl rfl) rfl ?_
 refine pM rfl rfl ?_
 refine WL.known (t := 102) (r := true) rfl (by first | rfl | simp) ?_
 refine gT rfl ?_
 refine pV (Y.loadAN wd_54 rfl (by repeat (first | exact List.Mem.head _ | apply List.Mem.tail)) (r := ((⟨pagesOf g, g.reverse, g.length⟩ : Wd)).cl k.1 k.2) rfl) rfl ?_
 refine gT rfl ?_
 refine pV (Y.loadAN wd_54 rfl (by repeat (first | exact List.Mem.head _ | apply List.Mem.tail)) (r := ((⟨pagesOf g, g.reverse, g.length⟩ : Wd)).cl i.1 i.2) rfl) rfl ?_
 refine gT rfl ?_
 refine WL.eff (E.call Try.call83 rfl (fun _ w s => w_sameWorlds (⟨pagesOf g, g.reverse, g.length⟩ : Wd) (⟨pagesOf g, g.reverse, g.length⟩ : Wd) k.1 i.1 (gOf k.1) 0 k.2 (gOf i.1) 0 i.2 w (own_max s.fact.1) (own_RL s.fact.1) (own_RL s.fact.2.1.1.1)) rfl) rfl (fun _ => ?_)
 refine pP (Y.pickT rfl rfl) rfl ?_
 refine pA rfl rfl ?_
 refine nN ?_
 refine WC.ret ?_
 refine dn1 Try.results36 rfl (fun a w s => ?_)
 · refine ⟨?_, s.low⟩
   clear s
   first
     | rfl
     | (have h23 := h23; first | (simp [packed]; done) | simpa [packed] using h23)
     | simp [packed]
 refine gF rfl ?_
 refine gF rfl ?_
 refine gF rfl ?_
 refine pP (Y.pickT rfl rfl) rfl ?_
 refine nN ?_
 refine WC.condT rfl ?_
 refine sR ?_
 refine WL.eff (E.call Try.call102 rfl (fun _ w s => w_mendBegun w) rfl) rfl (fun _ => ?_)
 refine pM rfl rfl ?_
 refine gT rfl ?_
 refine pM rfl rfl ?_
 refine gT rfl ?_
 refine pP (Y.neq rfl rfl) rfl ?_
 refine pP (Y.pickT rfl rfl) rfl ?_
 refine pA rfl rfl ?_
 refine nN ?_
 refine WC.ret ?_
 refine WQ.thenRet ?_
 refine dn1 Try.results36 rfl (fun a w s => ?_)
 · refine ⟨?_, s.low⟩
   clear s
   first
     | rfl
     | (have h23 := h23; first | (simp [packed]; done) | simpa [packed] using h23)
     | simp [packed]

def hangS (h : List R) (m : Nat) : Nat := ((tos m).map (hangW h)).sum
theorem hangS_step (h : List R) (m : Nat) : hangS h (m + 1) = hangS h m + hangW h ((m : Int) + 1) := by
  unfold hangS
  rw [tos, List.map_append, List.sum_append]
  simp
theorem hangW_le (h : List R) (t : Int) : hangW h t ≤ h.length + 1 := by
  have := sta_len h t
  unfold hangW
  repeat' split
  all_goals omega
theorem hangS_le (h : List R) : ∀ m, hangS h m ≤ m * (h.length + 1)
  | 0 => by simp [hangS, tos]
  | m + 1 => by
    have h1 := hangS_le h m
    have h2 := hangW_le h ((m : Int) + 1)
    rw [hangS_step, Nat.succ_mul]
    omega
theorem SF.and_fst (F G : SF) : (F.and G).le F := fun w h => ⟨h.1, fun b hb => .inl hb⟩

theorem w_MendFew (x : Wd) (A : Option Addr) (b o c : Nat) (w : World) (hm : x.log.length ≤ maxLen) (hcap : x.log.length ≤ c) (hr : RL w A b o x.log) : Ret Try.prog 35 [x.val A c] w (.bool true) := by
 refine enter Try.func35 rfl Try.ntmps35 rfl SF.top trivial ?_
 refine sR ?_
 refine WL.eff (E.box rfl rfl rfl) rfl (fun b1 => ?_)
 refine pA rfl rfl ?_
 refine nN ?_
 refine sR ?_
 refine pV (Y.loadAN wd_54 rfl (by repeat (first | exact List.Mem.head _ | apply List.Mem.tail)) (r := (x).cl A c) rfl) rfl ?_
 refine WL.eff (E.retW ((mendOf x (-1) true true true).1) [.int .i64 (mendOf x (-1) true true true).2.1, .int .i64 (mendOf x (-1) true true true).2.2] Try.call66 rfl (fun _ w s => w_mendAll x A b o c w hm hcap (hr.below s.low)) rfl) rfl (fun i => ?_)
 refine pM rfl rfl ?_
 refine pP (Y.extract rfl rfl) rfl ?_
 refine pP (Y.extract rfl rfl) rfl ?_
 refine pP (Y.extract rfl rfl) rfl ?_
 refine WL.eff (E.alloc Try.zeroValue54 rfl rfl) rfl (fun b2 => ?_)
 refine WL.eff (E.store Try.sizeOf54 rfl rfl rfl rfl rfl u0 rfl rfl) rfl (fun _ => ?_)
 refine pA rfl rfl ?_
 refine pA rfl rfl ?_
 refine nN ?_
 refine WC.seq ?_
 refine sR ?_
 refine pM rfl rfl ?_
 refine pP (Y.neq rfl rfl) rfl ?_
 refine pM rfl rfl ?_
 refine WL.split (t := 20) rfl (fun r h20 => ?_)
 cases r
 obtain ⟨h0, g, hRg, hlg, hng, ⟨kk, hk1, hk2, hk3⟩, e, hw, hcells, hwins, hlos, hagain, g', hg'⟩ := mend_true (x := x) (by have h20 := h20; simpa using h20)
 have eE : (mendOf x (-1) true true true).2.2 = 0 := by have h20 := h20; simpa using h20
 rw [e, ← hk1, eE]
 dsimp only
 have hcut := cut_right h0
 obtain ⟨lq, hq60, hRq, hsq, _⟩ := world_right hcut
 have hcl := cut_len h0
 have hsf := (world_right h0).2.2.2.1
 have lz := (world_right hw).1
 refine gT rfl ?_
 refine pV (Y.loadAN wd_54 rfl (by repeat (first | exact List.Mem.head _ | apply List.Mem.tail)) (r := (x).cl A c) rfl) rfl ?_
 refine gT rfl ?_
 refine WL.eff (E.call Try.call63 rfl (fun _ w s => w_worldError x A b o c w hm hcap (hr.below s.low)) rfl) rfl (fun _ => ?_)
 refine gT rfl ?_
 refine pP (Y.neq rfl rfl) rfl ?_
 refine pP (Y.pickF rfl rfl) rfl ?_
 refine nN ?_
 refine WC.isF rfl (by rw [h0]; rfl) ?_
 refine WC.skip' ?_
 refine WQ.next ?_
 refine sR ?_
 refine pP (Y.fieldAddr fa_54_1 rfl) rfl ?_
 refine pV (Y.load (cs := (x).cl A c) (v := .slice A (x).log.length c) fl_39 rfl (by repeat (first | exact List.Mem.head _ | apply List.Mem.tail)) rfl) rfl ?_
 refine pP (Y.fieldAddr fa_54_2 rfl) rfl ?_
 refine pV (Y.load (cs := (x).cl A c) (v := .int .i64 x.safe) fl_3 rfl (by repeat (first | exact List.Mem.head _ | apply List.Mem.tail)) rfl) rfl ?_
 refine pP (Y.slToN (x.log.take x.safe.toNat).length (take_cast hsf) Try.underlying39 Try.sizeOf34 rfl rfl (by simp; omega)) rfl ?_
 refine pA rfl rfl ?_
 refine nN ?_
 refine sR ?_
 refine pA rfl rfl ?_
 refine nN ?_
 refine WC.seq ?_
 refine sR ?_
 refine pA rfl rfl ?_
 refine nN ?_
 refine WC.block ?_
 refine WC.loop (ι := Nat) (fun m => [(1, .pointer (some ⟨b1, 0, none⟩)), (3, .pointer (some ⟨b2, 0, none⟩)), (4, .int .i64 kk), (6, .slice A x.cut.log.length c), (7, .int .i64 (hangS x.cut.h m)), (8, .int .i64 ((m : Int) + 1))]) (fun m => [(b2, (⟨pagesOf g, g.reverse, g.length⟩ : Wd).cl i.1 i.2, 54), (b1, x.cl A c, 54)]) (fun _ => (SF.own w.heap.size 34 8 (.slice i.1 (⟨pagesOf g, g.reverse, g.length⟩ : Wd).log.length i.2) (⟨pagesOf g, g.reverse, g.length⟩ : Wd).log.length (flat (⟨pagesOf g, g.reverse, g.length⟩ : Wd).log)).sep SF.top) (fun m => m ≤ 9) (fun m => 9 - m) 0 (Nat.zero_le _) (fun a w s => s.weak (by repeat (first | exact sub_nil _ | refine sub_cons rfl ?_))) (fun m hm9 => ?_)
 refine WC.seq ?_
 refine sR ?_
 refine pM rfl rfl ?_
 refine pP (Y.leq rfl rfl) rfl ?_
 refine nN ?_
 refine WC.cond rfl (fun h36 => ?_) (fun h36 => ?_)
 refine WC.skip' ?_
 refine WQ.next ?_
 refine WC.seq ?_
 refine WC.block ?_
 refine WC.seq ?_
 have hm8 : m < 9 := by have h36 := h36; simp at h36; omega
 have hls : logState x.cut.log ((m : Int) + 1) = ((stt x.cut.h ((m : Int) + 1) : Int), (lastN x.cut.h ((m : Int) + 1) : Int), 0) := logState_ok lq (by omega)
 have hsl := hangS_le x.cut.h m
 have hql : x.cut.h.length ≤ 60 := by rw [hlen]; exact hq60
 have hsl2 : m * (x.cut.h.length + 1) ≤ 9 * 61 := Nat.mul_le_mul (by omega) (by omega)
 have hst9 := sta_len x.cut.h ((m : Int) + 1)
 refine WC.region ?_
 refine pM rfl rfl ?_
 refine pM rfl rfl ?_
 refine WL.eff (E.call Try.call58 rfl (fun _ w s => (by have hh := w_logState x.cut.log A b o c ((m : Int) + 1) w ((hr.below s.low).take _); rw [hls] at hh; exact hh)) rfl) rfl (fun _ => ?_)
 refine pM rfl rfl ?_
 refine pP (Y.extract rfl rfl) rfl ?_
 refine pP (Y.extract rfl rfl) rfl ?_
 refine pP (Y.extract rfl rfl) rfl ?_
 refine pA rfl rfl ?_
 refine pA rfl rfl ?_
 refine pA rfl rfl ?_
 refine nN ?_
 refine WC.seq ?_
 refine sR ?_
 refine pM rfl rfl ?_
 refine pP (Y.neq rfl rfl) rfl ?_
 refine nN ?_
 refine WC.isF rfl (rfl) ?_
 refine WC.skip' ?_
 refine WQ.next ?_
 refine WC.seq ?_
 refine sR ?_
 refine pM rfl rfl ?_
 refine pP (Y.eql rfl rfl) rfl ?_
 refine nN ?_
 refine WC.cond rfl (fun h49 => ?_) (fun h49 => ?_)
 refine WC.region ?_
 refine pM rfl rfl ?_
 refine pP (Y.add rfl rfl (i64_in (by omega) (by omega))) rfl ?_
 refine pA rfl rfl ?_
 refine nN ?_
 refine sR ?_
 refine pM rfl rfl ?_
 refine pP (Y.eql rfl rfl) rfl ?_
 refine pM rfl rfl ?_
 refine WL.known (t := 54) (r := false) rfl (by have h49 := h49; simp at h49 ⊢; omega) ?_
 refine gT rfl ?_
 refine pM rfl rfl ?_
 refine gT rfl ?_
 refine pP (Y.eql rfl rfl) rfl ?_
 refine pP (Y.pickF rfl rfl) rfl ?_
 refine nN ?_
 refine WC.isF rfl (by have h49 := h49; simp at h49 ⊢; omega) ?_
 refine WC.skip' ?_
 refine WQ.blockEnd ?_
 refine WQ.next ?_
 refine WC.region ?_
 refine pM rfl rfl ?_
 refine pP (Y.add rfl rfl (i64_in (by omega) (by omega))) rfl ?_
 refine pA rfl rfl ?_
 refine WL.nil ?_
 · have hW : hangW x.cut.h ((m : Int) + 1) = 1 := by have h49 := h49; unfold hangW; rw [if_pos (by simp at h49; omega)]
   have e9 : ((hangS x.cut.h (m + 1) : Nat) : Int) = (hangS x.cut.h m : Int) + 1 := by rw [hangS_step, hW]; simp; try omega
   refine fun a w s => ⟨m + 1, by omega, by omega, ?_⟩
   try dsimp only
   rw [e9, show ((m + 1 : Nat) : Int) = (m : Int) + 1 by simp]
   exact s.weak (by repeat (first | exact sub_nil _ | refine sub_cons rfl ?_))
 refine WC.skip' ?_
 refine WQ.next ?_
 refine sR ?_
 refine pM rfl rfl ?_
 refine pP (Y.eql rfl rfl) rfl ?_
 refine pM rfl rfl ?_
 refine WL.split (t := 54) rfl (fun r h54 => ?_)
 cases r
 refine gT rfl ?_
 refine pM rfl rfl ?_
 refine gT rfl ?_
 refine pP (Y.eql rfl rfl) rfl ?_
 refine pP (Y.pickF rfl rfl) rfl ?_
 refine nN ?_
 refine WC.cond rfl (fun h57 => ?_) (fun h57 => ?_)
 have hst : stt x.cut.h ((m : Int) + 1) = 1 ∨ stt x.cut.h ((m : Int) + 1) = 3 := by
   first
     | (have h57 := h57; simp at h57; omega)
     | (have h54 := h54; simp at h54; omega)
 refine WC.region ?_
 refine pM rfl rfl ?_
 refine pP (Y.add rfl rfl (i64_in (by omega) (by omega))) rfl ?_
 refine pM rfl rfl ?_
 refine pM rfl rfl ?_
 refine WL.eff (E.callF (fun q : Option Addr × Nat => .slice q.1 (sta x.cut.h ((m : Int) + 1)).length q.2) (fun q => (SF.own w.heap.size 34 8 (.slice q.1 (sta x.cut.h ((m : Int) + 1)).length q.2) (sta x.cut.h ((m : Int) + 1)).length (flat (sta x.cut.h ((m : Int) + 1)).reverse))) Try.call61 rfl (fun _ w s => (w_standing x.cut.log A b o c ((m : Int) + 1) w hq60 ((hr.below s.low).take _)).mono fun e w' ⟨i, he, hb, ho⟩ => ⟨i, he, hb, ownsRow_le ho s.low.size, fun g hg => .inl (ho.lt g hg).1⟩) rfl) rfl (fun q => ?_)
 refine pP (Y.len Try.underlying39 rfl) rfl ?_
 refine pP (Y.add rfl rfl (i64_in (by omega) (by omega))) rfl ?_
 refine pA rfl rfl ?_
 refine WL.nil ?_
 refine WQ.blockEnd ?_
 refine WQ.next ?_
 refine WC.region ?_
 refine pM rfl rfl ?_
 refine pP (Y.add rfl rfl (i64_in (by omega) (by omega))) rfl ?_
 refine pA rfl rfl ?_
 refine WL.nil ?_
 · have hW : hangW x.cut.h ((m : Int) + 1) = (sta x.cut.h ((m : Int) + 1)).length + 1 := by have h49 := h49; have hst := hst; unfold hangW; rw [if_neg (by simp at h49; omega), if_pos hst]
   have e9 : ((hangS x.cut.h (m + 1) : Nat) : Int) = (hangS x.cut.h m : Int) + 1 + (sta x.cut.h ((m : Int) + 1)).length := by rw [hangS_step, hW]; simp; try omega
   refine fun a w s => ⟨m + 1, by omega, by omega, ?_⟩
   try dsimp only
   rw [e9, show ((m + 1 : Nat) : Int) = (m : Int) + 1 by simp]
   exact (s.le (SF.and_fst _ _)).weak (by repeat (first | exact sub_nil _ | refine sub_cons rfl ?_))
 refine WC.skip' ?_
 refine WQ.blockEnd ?_
 refine WQ.next ?_
 refine WC.region ?_
 refine pM rfl rfl ?_
 refine pP (Y.add rfl rfl (i64_in (by omega) (by omega))) rfl ?_
 refine pA rfl rfl ?_
 refine WL.nil ?_
 · have hW : hangW x.cut.h ((m : Int) + 1) = 0 := by have h49 := h49; have h57 := h57; have h54 := h54; unfold hangW; rw [if_neg (by simp at h49; omega), if_neg (by simp at h54 h57; omega)]
   have e9 : ((hangS x.cut.h (m + 1) : Nat) : Int) = (hangS x.cut.h m : Int) := by rw [hangS_step, hW]; simp; try omega
   refine fun a w s => ⟨m + 1, by omega, by omega, ?_⟩
   try dsimp only
   rw [e9, show ((m + 1 : Nat) : Int) = (m : Int) + 1 by simp]
   exact s.weak (by repeat (first | exact sub_nil _ | refine sub_cons rfl ?_))
 refine gF rfl ?_
 refine gF rfl ?_
 refine pP (Y.pickT rfl rfl) rfl ?_
 refine nN ?_
 refine WC.condT rfl ?_
 have hst : stt x.cut.h ((m : Int) + 1) = 1 ∨ stt x.cut.h ((m : Int) + 1) = 3 := by
   first
     | (have h57 := h57; simp at h57; omega)
     | (have h54 := h54; simp at h54; omega)
 refine WC.region ?_
 refine pM rfl rfl ?_
 refine pP (Y.add rfl rfl (i64_in (by omega) (by omega))) rfl ?_
 refine pM rfl rfl ?_
 refine pM rfl rfl ?_
 refine WL.eff (E.callF (fun q : Option Addr × Nat => .slice q.1 (sta x.cut.h ((m : Int) + 1)).length q.2) (fun q => (SF.own w.heap.size 34 8 (.slice q.1 (sta x.cut.h ((m : Int) + 1)).length q.2) (sta x.cut.h ((m : Int) + 1)).length (flat (sta x.cut.h ((m : Int) + 1)).reverse))) Try.call61 rfl (fun _ w s => (w_standing x.cut.log A b o c ((m : Int) + 1) w hq60 ((hr.below s.low).take _)).mono fun e w' ⟨i, he, hb, ho⟩ => ⟨i, he, hb, ownsRow_le ho s.low.size, fun g hg => .inl (ho.lt g hg).1⟩) rfl) rfl (fun q => ?_)
 refine pP (Y.len Try.underlying39 rfl) rfl ?_
 refine pP (Y.add rfl rfl (i64_in (by omega) (by omega))) rfl ?_
 refine pA rfl rfl ?_
 refine WL.nil ?_
 refine WQ.blockEnd ?_
 refine WQ.next ?_
 refine WC.region ?_
 refine pM rfl rfl ?_
 refine pP (Y.add rfl rfl (i64_in (by omega) (by omega))) rfl ?_
 refine pA rfl rfl ?_
 refine WL.nil ?_
 · have hW : hangW x.cut.h ((m : Int) + 1) = (sta x.cut.h ((m : Int) + 1)).length + 1 := by have h49 := h49; have hst := hst; unfold hangW; rw [if_neg (by simp at h49; omega), if_pos hst]
   have e9 : ((hangS x.cut.h (m + 1) : Nat) : Int) = (hangS x.cut.h m : Int) + 1 + (sta x.cut.h ((m : Int) + 1)).length := by rw [hangS_step, hW]; simp; try omega
   refine fun a w s => ⟨m + 1, by omega, by omega, ?_⟩
   try dsimp only
   rw [e9, show ((m + 1 : Nat) : Int) = (m : Int) + 1 by simp]
   exact (s.le (SF.and_fst _ _)).weak (by repeat (first | exact sub_nil _ | refine sub_cons rfl ?_))
 refine WC.exit ?_
 refine WQ.thenExit ?_
 refine WQ.thenExit ?_
 refine WQ.blockExit ?_
 refine WQ.next ?_
 refine WC.seq ?_
 have hm9 : m = 9 := by have h36 := h36; simp at h36; omega
 subst hm9
 have hN : hangS x.cut.h 9 = kk := by rw [hk2]; rfl
 refine WC.region ?_
 refine WL.eff (E.call Try.call102 rfl (fun _ w s => w_mendBegun w) rfl) rfl (fun _ => ?_)
 refine pM rfl rfl ?_
 refine gT rfl ?_
 refine pM rfl rfl ?_
 refine gT rfl ?_
 refine pM rfl rfl ?_
 refine gT rfl ?_
 refine pP (Y.eql rfl rfl) rfl ?_
 refine pP (Y.pickT rfl rfl) rfl ?_
 refine pM rfl rfl ?_
 refine WL.known (t := 71) (r := true) rfl (by rw [hN]; simp) ?_
 refine gT rfl ?_
 refine pP (Y.fieldAddr fa_54_1 rfl) rfl ?_
 refine gT rfl ?_
 refine pV (Y.load (cs := ((⟨pagesOf g, g.reverse, g.length⟩ : Wd)).cl i.1 i.2) (v := .slice i.1 ((⟨pagesOf g, g.reverse, g.length⟩ : Wd)).log.length i.2) fl_39 rfl (by repeat (first | exact List.Mem.head _ | apply List.Mem.tail)) rfl) rfl ?_
 refine gT rfl ?_
 refine pP (Y.len Try.underlying39 rfl) rfl ?_
 refine gT rfl ?_
 refine pP (Y.fieldAddr fa_54_2 rfl) rfl ?_
 refine gT rfl ?_
 refine pV (Y.load (cs := (x).cl A c) (v := .int .i64 x.safe) fl_3 rfl (by repeat (first | exact List.Mem.head _ | apply List.Mem.tail)) rfl) rfl ?_
 refine gT rfl ?_
 refine pM rfl rfl ?_
 refine gT rfl ?_
 refine pP (Y.add rfl rfl (i64_in (by omega) (by omega))) rfl ?_
 refine gT rfl ?_
 refine pP (Y.eql rfl rfl) rfl ?_
 refine pP (Y.pickT rfl rfl) rfl ?_
 refine pA rfl rfl ?_
 refine nN ?_
 refine WC.ret ?_
 refine dn1 Try.results35 rfl (fun a w s => ?_)
 · refine ⟨?_, s.low⟩
   clear s
   first
     | rfl
     | (have h20 := h20; first | (simp [packed]; done) | simpa [packed] using h20)
     | (simp [packed]; omega)
 refine gF rfl ?_
 refine gF rfl ?_
 refine gF rfl ?_
 refine pP (Y.pickT rfl rfl) rfl ?_
 refine nN ?_
 refine WC.condT rfl ?_
 refine sR ?_
 refine WL.eff (E.call Try.call102 rfl (fun _ w s => w_mendBegun w) rfl) rfl (fun _ => ?_)
 refine pM rfl rfl ?_
 refine gT rfl ?_
 refine pM rfl rfl ?_
 refine gT rfl ?_
 refine pP (Y.neq rfl rfl) rfl ?_
 refine pP (Y.pickT rfl rfl) rfl ?_
 refine pA rfl rfl ?_
 refine nN ?_
 refine WC.ret ?_
 refine WQ.thenRet ?_
 refine dn1 Try.results35 rfl (fun a w s => ?_)
 · refine ⟨?_, s.low⟩
   clear s
   first
     | rfl
     | (have h20 := h20; first | (simp [packed]; done) | simpa [packed] using h20)
     | (simp [packed]; omega)
end Go.Proofs.Ytdbcimadjmdffaa
