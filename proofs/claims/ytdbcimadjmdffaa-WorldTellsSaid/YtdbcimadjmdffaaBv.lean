/- The law WorldTells. No condition. -/
import Derived.Test.YtdbcimadjmdffaaBu
set_option maxRecDepth 100000
set_option linter.unusedVariables false
set_option linter.unusedSimpArgs false
set_option linter.unusedSectionVars false
set_option maxHeartbeats 4000000
namespace Go.Proofs.Ytdbcimadjmdffaa
open Go.RowKit Go.Joins
def labW : Wd := ⟨⟨Pg.zero, ⟨0, 6, 0, 2⟩, Pg.zero⟩, someL, 6⟩

theorem w_lab (w : World) : Calls Try.prog 132 [].toArray w fun e w' => ∃ g : Nat, e = .returned (labW.val (some ⟨g, 0, none⟩) 9) ∧ Below w.heap.size w w' ∧ w.heap.size ≤ g ∧ w'.heap[g]? = some (.cells (flat someL).toArray 34) := by
 refine enter Try.func132 rfl Try.ntmps132 rfl SF.top trivial ?_
 refine sR ?_
 refine WL.eff (E.alloc Try.zeroValue54 rfl rfl) rfl (fun b1 => ?_)
 refine nN ?_
 refine sR ?_
 refine WL.eff (E.callB (fun g : Nat => .slice (some ⟨g, 0, none⟩) 9 9) (fun g => (g, flat someL, 34)) Try.call120 rfl (fun _ w s => w_some w) rfl) rfl (fun g2 => ?_)
 refine pP (Y.build rfl (bf_54_1_2 _ _ _ _)) rfl ?_
 refine WL.eff (E.alloc Try.zeroValue54 rfl rfl) rfl (fun b2 => ?_)
 refine WL.eff (E.store Try.sizeOf54 rfl rfl rfl rfl rfl u0 rfl rfl) rfl (fun _ => ?_)
 refine nN ?_
 refine sR ?_
 refine pP (Y.build rfl (bf_22_0_1_2 _ _ _)) rfl ?_
 refine pP (Y.build rfl (bf_24_0_1 _ _ _ _)) rfl ?_
 refine pP (Y.fieldAddr fa_54_0 rfl) rfl ?_
 refine pP (Y.ixArr Try.underlying42 Try.sizeOf24 rfl rfl (by decide) (by decide)) rfl ?_
 refine WL.eff (E.store Try.sizeOf24 rfl rfl rfl rfl rfl u0 rfl rfl) rfl (fun _ => ?_)
 refine nN ?_
 refine sR ?_
 refine pV (Y.loadA wd_54 rfl m0 rfl) rfl ?_
 refine WL.eff (E.store Try.sizeOf54 rfl rfl rfl rfl rfl u2 rfl rfl) rfl (fun _ => ?_)
 refine nN ?_
 refine WC.ret ?_
 refine WQ.done Try.results132 (RVs.cons (RV.cell wd_54 rfl m2 rfl) RVs.nil) (fun a w s => ?_)
 · exact ⟨g2, rfl, s.low, (s.hp.blk _ (List.Mem.tail _ (List.Mem.head _))).2, (s.hp.blk _ (List.Mem.tail _ (List.Mem.head _))).1⟩

theorem w_begin (w : World) : Ret Try.prog 138 [] w (Wd.zero.val none 0) := by
 refine enter Try.func138 rfl Try.ntmps138 rfl SF.top trivial ?_
 refine sR ?_
 refine WL.eff (E.alloc Try.zeroValue54 rfl rfl) rfl (fun b1 => ?_)
 refine nN ?_
 refine sR ?_
 refine pP (Y.build rfl (bf_54 )) rfl ?_
 refine WL.eff (E.store Try.sizeOf54 rfl rfl rfl rfl rfl u0 rfl rfl) rfl (fun _ => ?_)
 refine nN ?_
 refine WC.ret ?_
 refine WQ.done Try.results138 (RVs.cons (RV.cell wd_54 rfl m0 rfl) RVs.nil) (fun a w s => ?_)
 · exact ⟨rfl, s.low⟩

theorem take_eqR {xs ys : List R} {k : Nat} {x y : R} (h : xs.take k = ys.take k) (hx : xs[k]? = some x) (hy : ys[k]? = some y) (e : x = y) : xs.take (k + 1) = ys.take (k + 1) := take_eqS h hx hy e

theorem w_sameLogs (l l2 : List R) (A A2 : Option Addr) (b o c b2 o2 c2 : Nat) (w : World) (hm : l.length ≤ maxLen) (hr : RL w A b o l) (hr2 : RL w A2 b2 o2 l2) : Ret Try.prog 84 [.slice A l.length c, .slice A2 l2.length c2] w (.bool (decide (l = l2))) := by
 have hl63 : (l.length : Int) ≤ 9223372036854775807 := by unfold maxLen at hm; omega
 refine enter Try.func84 rfl Try.ntmps84 rfl SF.top trivial ?_
 refine sR ?_
 refine pA rfl rfl ?_
 refine nN ?_
 refine WC.seq ?_
 refine sR ?_
 refine pM rfl rfl ?_
 refine pP (Y.len Try.underlying39 rfl) rfl ?_
 refine pM rfl rfl ?_
 refine pP (Y.len Try.underlying39 rfl) rfl ?_
 refine pP (Y.neq rfl rfl) rfl ?_
 refine nN ?_
 refine WC.cond rfl (fun h10 => ?_) (fun h10 => ?_)
 refine sR ?_
 refine pA rfl rfl ?_
 refine nN ?_
 refine WC.ret ?_
 refine WQ.thenRet ?_
 refine dn1 Try.results84 rfl (fun a w s => ?_)
 · refine ⟨?_, s.low⟩
   clear s
   simp only [packed]
   have e : l ≠ l2 := fun e => by subst e; simp at h10
   rw [decide_eq_false e]
 refine WC.skip' ?_
 refine WQ.next ?_
 refine WC.seq ?_
 refine sR ?_
 refine pA rfl rfl ?_
 refine nN ?_
 refine WC.block ?_
 have hle : l.length = l2.length := by simp at h10; omega
 refine WC.loop (ι := Nat) (fun k => [(0, .slice A l.length c), (1, .slice A2 l2.length c2), (5, .int .i64 k)]) (fun _ => []) (fun _ => SF.top) (fun k => k ≤ l.length ∧ l.take k = l2.take k) (fun k => l.length - k) 0 ⟨Nat.zero_le _, rfl⟩ (fun a w s => s.weak (by repeat (first | exact sub_nil _ | refine sub_cons rfl ?_))) (fun k hk => ?_)
 obtain ⟨hk, hf⟩ := hk
 refine WC.seq ?_
 refine sR ?_
 refine pM rfl rfl ?_
 refine pM rfl rfl ?_
 refine pP (Y.len Try.underlying39 rfl) rfl ?_
 refine pP (Y.lss rfl rfl) rfl ?_
 refine nN ?_
 refine WC.cond rfl (fun h14 => ?_) (fun h14 => ?_)
 refine WC.skip' ?_
 refine WQ.next ?_
 refine WC.seq ?_
 refine WC.block ?_
 refine WC.seq ?_
 have h14 : k < l.length := by simpa using h14
 obtain ⟨x, hx⟩ := get_of_lt h14
 obtain ⟨y, hy⟩ := get_of_lt (l := l2) (k := k) (by omega)
 refine WC.draw [(0, .q false), (1, .q false), (2, .q false), (3, .q true), (4, .q false), (5, .q false), (6, .q false), (7, .q true), (8, .q false)] mixed (by kernel_rfl) ?_
 refine dP (Y.move rfl) rfl rfl ?_
 refine dP (Y.move rfl) rfl rfl ?_
 refine dP (Y.ixSlA Try.underlying39 Try.sizeOf34 rfl rfl (hr.addr hx) (nat0 _) (get_ltI hx)) rfl rfl ?_
 refine dV (Y.loadAc wd_34 rfl (r := x.cl) rfl (fun a w s j hj => (hr.below s.low).full hx j hj)) rfl rfl ?_
 refine dP (Y.move rfl) rfl rfl ?_
 refine dP (Y.move rfl) rfl rfl ?_
 refine dP (Y.ixSlA Try.underlying39 Try.sizeOf34 rfl rfl (hr2.addr hy) (nat0 _) (get_ltI hy)) rfl rfl ?_
 refine dV (Y.loadAc wd_34 rfl (r := y.cl) rfl (fun a w s j hj => (hr2.below s.low).full hy j hj)) rfl rfl ?_
 refine dP (Y.neqA Try.eqGuardType34 rfl rfl (weq_rec x y)) rfl rfl ?_
 refine WDm.nil (WQ.and ?_)
 refine WQ.next ?_
 refine WC.cond rfl (fun h25 => ?_) (fun h25 => ?_)
 refine sR ?_
 refine pA rfl rfl ?_
 refine nN ?_
 refine WC.ret ?_
 refine WQ.blockRet ?_
 refine WQ.thenRet ?_
 refine WQ.thenRet ?_
 refine WQ.blockRet ?_
 refine WQ.thenRet ?_
 refine dn1 Try.results84 rfl (fun a w s => ?_)
 · refine ⟨?_, s.low⟩
   clear s
   simp only [packed]
   have := ne_get hx hy (by simpa using h25)
   rw [decide_eq_false this]
 refine WC.skip' ?_
 refine WQ.blockEnd ?_
 refine WQ.next ?_
 refine WC.region ?_
 refine pM rfl rfl ?_
 refine pP (Y.add rfl rfl (i64_in (by omega) (by omega))) rfl ?_
 refine pA rfl rfl ?_
 refine WL.nil ?_
 · exact fun a w s => ⟨k + 1, ⟨by omega, take_eqS hf hx hy (by simpa using h25)⟩, by omega, s.weak (by repeat (first | exact sub_nil _ | refine sub_cons rfl ?_))⟩
 refine WC.exit ?_
 refine WQ.thenExit ?_
 refine WQ.thenExit ?_
 refine WQ.blockExit ?_
 refine WQ.next ?_
 refine sR ?_
 refine pA rfl rfl ?_
 refine nN ?_
 refine WC.ret ?_
 refine dn1 Try.results84 rfl (fun a w s => ?_)
 · refine ⟨?_, s.low⟩
   clear s
   simp only [packed]
   have h14 := h14
   simp at h14
   rw [List.take_of_length_le h14, List.take_of_length_le (by omega)] at hf
   rw [decide_eq_true hf]

theorem wd_ext (x y : Wd) : x = y ↔ x.disk = y.disk ∧ x.safe = y.safe ∧ x.log = y.log := by
  cases x; cases y; simp; exact fun _ => And.comm

theorem w_sameWorlds (x y : Wd) (A A2 : Option Addr) (b o c e2 f2 d2 : Nat) (w : World) (hm : x.log.length ≤ maxLen) (hr : RL w A b o x.log) (hr2 : RL w A2 e2 f2 y.log) : Ret Try.prog 83 [x.val A c, y.val A2 d2] w (.bool (decide (x = y))) := by
 refine enter Try.func83 rfl Try.ntmps83 rfl SF.top trivial ?_
 refine sR ?_
 refine WL.eff (E.box rfl rfl rfl) rfl (fun b1 => ?_)
 refine WL.eff (E.box rfl rfl rfl) rfl (fun b2 => ?_)
 refine pA rfl rfl ?_
 refine nN ?_
 refine sR ?_
 refine pP (Y.fieldAddr fa_54_0 rfl) rfl ?_
 refine pV (Y.loadAN wd_42 rfl m1 (r := x.disk.cl) rfl) rfl ?_
 refine pP (Y.fieldAddr fa_54_0 rfl) rfl ?_
 refine pV (Y.loadAN wd_42 rfl m0 (r := y.disk.cl) rfl) rfl ?_
 refine pP (Y.eqlA Try.eqGuardType42 rfl rfl (weq_pages x.disk y.disk)) rfl ?_
 refine pM rfl rfl ?_
 refine WL.split (t := 10) rfl (fun r h10 => ?_)
 cases r
 refine gF rfl ?_
 refine gF rfl ?_
 refine gF rfl ?_
 refine gF rfl ?_
 refine gF rfl ?_
 refine pP (Y.pickF rfl rfl) rfl ?_
 refine pM rfl rfl ?_
 refine gF rfl ?_
 refine gF rfl ?_
 refine gF rfl ?_
 refine gF rfl ?_
 refine gF rfl ?_
 refine pP (Y.pickF rfl rfl) rfl ?_
 refine pA rfl rfl ?_
 refine nN ?_
 refine WC.ret ?_
 refine dn1 Try.results83 rfl (fun a w s => ?_)
 · refine ⟨?_, s.low⟩
   clear s
   simp only [packed]
   apply retb
   rw [Bool.eq_iff_iff]
   simp only [decide_eq_true_iff, wd_ext]
   simp_all
 refine gT rfl ?_
 refine pP (Y.fieldAddr fa_54_2 rfl) rfl ?_
 refine gT rfl ?_
 refine pV (Y.load fl_3 rfl m1 rfl) rfl ?_
 refine gT rfl ?_
 refine pP (Y.fieldAddr fa_54_2 rfl) rfl ?_
 refine gT rfl ?_
 refine pV (Y.load fl_3 rfl m0 rfl) rfl ?_
 refine gT rfl ?_
 refine pP (Y.eql rfl rfl) rfl ?_
 refine pP (Y.pickT rfl rfl) rfl ?_
 refine pM rfl rfl ?_
 refine WL.split (t := 17) rfl (fun r h17 => ?_)
 cases r
 refine gF rfl ?_
 refine gF rfl ?_
 refine gF rfl ?_
 refine gF rfl ?_
 refine gF rfl ?_
 refine pP (Y.pickF rfl rfl) rfl ?_
 refine pA rfl rfl ?_
 refine nN ?_
 refine WC.ret ?_
 refine dn1 Try.results83 rfl (fun a w s => ?_)
 · refine ⟨?_, s.low⟩
   clear s
   simp only [packed]
   apply retb
   rw [Bool.eq_iff_iff]
   simp only [decide_eq_true_iff, wd_ext]
   simp_all
 refine gT rfl ?_
 refine pP (Y.fieldAddr fa_54_1 rfl) rfl ?_
 refine gT rfl ?_
 refine pV (Y.load fl_39 rfl m1 rfl) rfl ?_
 refine gT rfl ?_
 refine pP (Y.fieldAddr fa_54_1 rfl) rfl ?_
 refine gT rfl ?_
 refine pV (Y.load fl_39 rfl m0 rfl) rfl ?_
 refine gT rfl ?_
 refine WL.eff (E.call Try.call84 rfl (fun _ w s => w_sameLogs x.log y.log A A2 b o c e2 f2 d2 w hm (hr.below s.low) (hr2.below s.low)) rfl) rfl (fun _ => ?_)
 refine pP (Y.pickT rfl rfl) rfl ?_
 refine pA rfl rfl ?_
 refine nN ?_
 refine WC.ret ?_
 refine dn1 Try.results83 rfl (fun a w s => ?_)
 · refine ⟨?_, s.low⟩
   clear s
   simp only [packed]
   apply retb
   rw [Bool.eq_iff_iff]
   simp only [decide_eq_true_iff, wd_ext]
   simp_all

def labX : Wd := ⟨⟨Pg.zero, ⟨1, 6, 0, 2⟩, Pg.zero⟩, someL, 6⟩
def labY : Wd := ⟨⟨(nowOf labW).1.p0, ⟨0, 6, 0, 2⟩, Pg.zero⟩, someL, 6⟩
def labZ : Wd := ⟨⟨Pg.zero, ⟨0, 6, 0, 2⟩, Pg.zero⟩, someL, 10⟩
theorem nilRL (w : World) : RL w none 0 0 [] := ⟨fun h => absurd rfl h, fun i r hi => by simp at hi⟩

theorem w_worldBegun (w : World) : Ret Try.prog 76 [] w (.bool true) := by
 refine enter Try.func76 rfl Try.ntmps76 rfl SF.top trivial ?_
 refine sR ?_
 refine pA rfl rfl ?_
 refine nN ?_
 refine sR ?_
 refine WL.eff (E.callB (fun g : Nat => labW.val (some ⟨g, 0, none⟩) 9) (fun g => (g, flat someL, 34)) Try.call132 rfl (fun _ w s => w_lab w) rfl) rfl (fun g7 => ?_)
 refine WL.eff (E.call Try.call69 rfl (fun _ w s => w_worldNow labW (some ⟨g7, 0, none⟩) g7 0 9 w (short_max (by decide)) (by decide) (RL.ofH s (by repeat (first | exact List.Mem.head _ | apply List.Mem.tail)))) rfl) rfl (fun _ => ?_)
 refine pM rfl rfl ?_
 refine pP (Y.extract rfl rfl) rfl ?_
 refine pP (Y.extract rfl rfl) rfl ?_
 refine WL.eff (E.alloc Try.zeroValue42 rfl rfl) rfl (fun b1 => ?_)
 refine WL.eff (E.store Try.sizeOf42 rfl rfl rfl rfl rfl u0 rfl rfl) rfl (fun _ => ?_)
 refine pA rfl rfl ?_
 refine nN ?_
 refine sR ?_
 refine WL.eff (E.callB (fun g : Nat => labW.val (some ⟨g, 0, none⟩) 9) (fun g => (g, flat someL, 34)) Try.call132 rfl (fun _ w s => w_lab w) rfl) rfl (fun g11 => ?_)
 refine WL.eff (E.alloc Try.zeroValue54 rfl rfl) rfl (fun b2 => ?_)
 refine WL.eff (E.store Try.sizeOf54 rfl rfl rfl rfl rfl u0 rfl rfl) rfl (fun _ => ?_)
 refine nN ?_
 refine sR ?_
 refine pP (Y.fieldAddr fa_54_0 rfl) rfl ?_
 refine pP (Y.ixArr Try.underlying42 Try.sizeOf24 rfl rfl (by decide) (by decide)) rfl ?_
 refine pP (Y.fieldAddr fa_24_0 rfl) rfl ?_
 refine pP (Y.ixArr Try.underlying22 Try.sizeOf3 rfl rfl (by decide) (by decide)) rfl ?_
 refine WL.eff (E.store Try.sizeOf3 rfl rfl rfl rfl rfl u0 rfl rfl) rfl (fun _ => ?_)
 refine nN ?_
 refine sR ?_
 refine WL.eff (E.callB (fun g : Nat => labW.val (some ⟨g, 0, none⟩) 9) (fun g => (g, flat someL, 34)) Try.call132 rfl (fun _ w s => w_lab w) rfl) rfl (fun g16 => ?_)
 refine WL.eff (E.alloc Try.zeroValue54 rfl rfl) rfl (fun b3 => ?_)
 refine WL.eff (E.store Try.sizeOf54 rfl rfl rfl rfl rfl u0 rfl rfl) rfl (fun _ => ?_)
 refine nN ?_
 refine sR ?_
 refine pP (Y.ixArr Try.underlying42 Try.sizeOf24 rfl rfl (by decide) (by decide)) rfl ?_
 refine pV (Y.loadA wd_24 rfl m4 rfl) rfl ?_
 refine pP (Y.fieldAddr fa_54_0 rfl) rfl ?_
 refine pP (Y.ixArr Try.underlying42 Try.sizeOf24 rfl rfl (by decide) (by decide)) rfl ?_
 refine WL.eff (E.store Try.sizeOf24 rfl rfl rfl rfl rfl u0 rfl rfl) rfl (fun _ => ?_)
 refine nN ?_
 refine sR ?_
 refine WL.eff (E.callB (fun g : Nat => labW.val (some ⟨g, 0, none⟩) 9) (fun g => (g, flat someL, 34)) Try.call132 rfl (fun _ w s => w_lab w) rfl) rfl (fun g21 => ?_)
 refine WL.eff (E.alloc Try.zeroValue54 rfl rfl) rfl (fun b4 => ?_)
 refine WL.eff (E.store Try.sizeOf54 rfl rfl rfl rfl rfl u0 rfl rfl) rfl (fun _ => ?_)
 refine nN ?_
 refine sR ?_
 refine pP (Y.fieldAddr fa_54_2 rfl) rfl ?_
 refine WL.eff (E.store Try.sizeOf3 rfl rfl rfl rfl rfl u0 rfl rfl) rfl (fun _ => ?_)
 refine nN ?_
 refine sR ?_
 refine pM rfl rfl ?_
 refine pP (Y.eql rfl rfl) rfl ?_
 refine pM rfl rfl ?_
 refine WL.known (t := 25) (r := true) rfl (by decide) ?_
 refine gT rfl ?_
 refine WL.eff (E.call Try.call138 rfl (fun _ w s => w_begin w) rfl) rfl (fun _ => ?_)
 refine gT rfl ?_
 refine WL.eff (E.call Try.call77 rfl (fun _ w s => w_worldCheck Wd.zero none 0 0 0 w (short_max (by decide)) (by decide) (nilRL _)) rfl) rfl (fun _ => ?_)
 refine gT rfl ?_
 refine pP (Y.eql rfl rfl) rfl ?_
 refine pP (Y.pickT rfl rfl) rfl ?_
 refine pM rfl rfl ?_
 refine WL.known (t := 30) (r := true) rfl (by decide) ?_
 refine gT rfl ?_
 refine WL.eff (E.call Try.call138 rfl (fun _ w s => w_begin w) rfl) rfl (fun _ => ?_)
 refine gT rfl ?_
 refine pP (Y.build rfl (bf_54 )) rfl ?_
 refine gT rfl ?_
 refine WL.eff (E.call Try.call83 rfl (fun _ w s => w_sameWorlds Wd.zero Wd.zero none none 0 0 0 0 0 0 w (short_max (by decide)) (nilRL _) (nilRL _)) rfl) rfl (fun _ => ?_)
 refine pP (Y.pickT rfl rfl) rfl ?_
 refine pM rfl rfl ?_
 refine WL.known (t := 35) (r := true) rfl (by decide) ?_
 refine gT rfl ?_
 refine WL.eff (E.callB (fun g : Nat => labW.val (some ⟨g, 0, none⟩) 9) (fun g => (g, flat someL, 34)) Try.call132 rfl (fun _ w s => w_lab w) rfl) rfl (fun g36 => ?_)
 refine gT rfl ?_
 refine WL.eff (E.call Try.call77 rfl (fun _ w s => w_worldCheck labW (some ⟨g36, 0, none⟩) g36 0 9 w (short_max (by decide)) (by decide) (RL.ofH s (by repeat (first | exact List.Mem.head _ | apply List.Mem.tail)))) rfl) rfl (fun _ => ?_)
 refine gT rfl ?_
 refine pP (Y.eql rfl rfl) rfl ?_
 refine pP (Y.pickT rfl rfl) rfl ?_
 refine pM rfl rfl ?_
 refine WL.known (t := 40) (r := true) rfl (by decide) ?_
 refine gT rfl ?_
 refine pV (Y.loadA wd_54 rfl m5 rfl) rfl ?_
 refine gT rfl ?_
 refine WL.eff (E.call Try.call77 rfl (fun _ w s => w_worldCheck labX (some ⟨g11, 0, none⟩) g11 0 9 w (short_max (by decide)) (by decide) (RL.ofH s (by repeat (first | exact List.Mem.head _ | apply List.Mem.tail)))) rfl) rfl (fun _ => ?_)
 refine gT rfl ?_
 refine pP (Y.eql rfl rfl) rfl ?_
 refine pP (Y.pickT rfl rfl) rfl ?_
 refine pM rfl rfl ?_
 refine WL.known (t := 45) (r := true) rfl (by decide) ?_
 refine gT rfl ?_
 refine pV (Y.loadA wd_54 rfl m3 rfl) rfl ?_
 refine gT rfl ?_
 refine WL.eff (E.call Try.call77 rfl (fun _ w s => w_worldCheck labY (some ⟨g16, 0, none⟩) g16 0 9 w (short_max (by decide)) (by decide) (RL.ofH s (by repeat (first | exact List.Mem.head _ | apply List.Mem.tail)))) rfl) rfl (fun _ => ?_)
 refine gT rfl ?_
 refine pP (Y.eql rfl rfl) rfl ?_
 refine pP (Y.pickT rfl rfl) rfl ?_
 refine pM rfl rfl ?_
 refine WL.known (t := 50) (r := true) rfl (by decide) ?_
 refine gT rfl ?_
 refine pV (Y.loadA wd_54 rfl m1 rfl) rfl ?_
 refine gT rfl ?_
 refine WL.eff (E.call Try.call77 rfl (fun _ w s => w_worldCheck labZ (some ⟨g21, 0, none⟩) g21 0 9 w (short_max (by decide)) (by decide) (RL.ofH s (by repeat (first | exact List.Mem.head _ | apply List.Mem.tail)))) rfl) rfl (fun _ => ?_)
 refine gT rfl ?_
 refine pP (Y.eql rfl rfl) rfl ?_
 refine pP (Y.pickT rfl rfl) rfl ?_
 refine pM rfl rfl ?_
 refine WL.known (t := 55) (r := true) rfl (by decide) ?_
 refine gT rfl ?_
 refine pP (Y.ixArr Try.underlying42 Try.sizeOf24 rfl rfl (by decide) (by decide)) rfl ?_
 refine gT rfl ?_
 refine pP (Y.fieldAddr fa_24_0 rfl) rfl ?_
 refine gT rfl ?_
 refine pP (Y.ixArr Try.underlying22 Try.sizeOf3 rfl rfl (by decide) (by decide)) rfl ?_
 refine gT rfl ?_
 refine pV (Y.load fl_3 rfl m7 rfl) rfl ?_
 refine gT rfl ?_
 refine pP (Y.eql rfl rfl) rfl ?_
 refine pP (Y.pickT rfl rfl) rfl ?_
 refine pA rfl rfl ?_
 refine nN ?_
 refine WC.ret ?_
 refine dn1 Try.results76 rfl (fun a w s => ?_)
 · refine ⟨?_, s.low⟩
   rfl

theorem w_WorldTells (x : Wd) (A : Option Addr) (b o c : Nat) (w : World) (hm : x.log.length ≤ maxLen) (hcap : x.log.length ≤ c) (hr : RL w A b o x.log) : Ret Try.prog 16 [x.val A c] w (.bool true) := by
 refine enter Try.func16 rfl Try.ntmps16 rfl SF.top trivial ?_
 refine sR ?_
 refine WL.eff (E.box rfl rfl rfl) rfl (fun b1 => ?_)
 refine pA rfl rfl ?_
 refine nN ?_
 refine sR ?_
 refine pV (Y.loadAN wd_54 rfl (by repeat (first | exact List.Mem.head _ | apply List.Mem.tail)) (r := x.cl A c) rfl) rfl ?_
 refine WL.eff (E.call Try.call69 rfl (fun _ w s => w_worldNow x A b o c w hm hcap (hr.below s.low)) rfl) rfl (fun _ => ?_)
 refine pM rfl rfl ?_
 refine pP (Y.extract rfl rfl) rfl ?_
 refine pP (Y.extract rfl rfl) rfl ?_
 refine WL.eff (E.alloc Try.zeroValue42 rfl rfl) rfl (fun b2 => ?_)
 refine WL.eff (E.store Try.sizeOf42 rfl rfl rfl rfl rfl u0 rfl rfl) rfl (fun _ => ?_)
 refine pA rfl rfl ?_
 refine nN ?_
 refine sR ?_
 refine pV (Y.loadAN wd_54 rfl (by repeat (first | exact List.Mem.head _ | apply List.Mem.tail)) (r := x.cl A c) rfl) rfl ?_
 refine WL.eff (E.call Try.call75 rfl (fun _ w s => w_docNow x A b o c w hm hcap (hr.below s.low)) rfl) rfl (fun _ => ?_)
 refine pM rfl rfl ?_
 refine pP (Y.extract rfl rfl) rfl ?_
 refine pP (Y.extract rfl rfl) rfl ?_
 refine WL.eff (E.alloc Try.zeroValue42 rfl rfl) rfl (fun b3 => ?_)
 refine WL.eff (E.store Try.sizeOf42 rfl rfl rfl rfl rfl u0 rfl rfl) rfl (fun _ => ?_)
 refine pA rfl rfl ?_
 refine nN ?_
 refine WC.seq ?_
 refine WC.drop [2] ?_
 refine WC.draw [(0, .q true), (1, .q false), (2, .q true), (3, .q true), (4, .q true), (5, .q true), (6, .q false), (7, .q false), (8, .q false), (9, .q true), (10, .q true), (11, .q false), (12, .q false), (13, .q false), (14, .q false), (15, .q false), (16, .q false), (17, .q false), (18, .q false)] mixed (by kernel_rfl) ?_
 refine WDm.quiet (QS.call Try.call76 rfl (fun _ w s => w_worldBegun w)) rfl rfl rfl ?_
 refine dP (Y.move rfl) rfl rfl ?_
 refine dVg rfl (Y.loadAN wd_54 rfl (by repeat (first | exact List.Mem.head _ | apply List.Mem.tail)) (r := x.cl A c) rfl) rfl rfl rfl ?_
 refine WDm.quiet (QS.guardT rfl rfl rfl (QS.call Try.call77 rfl (fun _ w s => w_worldCheck x A b o c w hm hcap (hr.below s.low)))) rfl rfl rfl ?_
 refine dVg rfl (Y.loadAN wd_54 rfl (by repeat (first | exact List.Mem.head _ | apply List.Mem.tail)) (r := x.cl A c) rfl) rfl rfl rfl ?_
 refine WDm.quiet (QS.guardT rfl rfl rfl (QS.call Try.call63 rfl (fun _ w s => w_worldError x A b o c w hm hcap (hr.below s.low)))) rfl rfl rfl ?_
 refine dPg rfl (Y.eql rfl rfl) rfl rfl rfl ?_
 refine dP (Y.pickT rfl rfl) rfl rfl ?_
 refine dP (Y.move rfl) rfl rfl ?_
 refine WDm.known (t := 25) (r := true) rfl (by simp) ?_
 refine dVg rfl (Y.loadA wd_42 rfl m1 rfl) rfl rfl rfl ?_
 refine dVg rfl (Y.loadA wd_42 rfl m0 rfl) rfl rfl rfl ?_
 refine dPg rfl (Y.eqlA Try.eqGuardType42 rfl rfl (weq_pages (nowOf x).1 (nowOf x).1)) rfl rfl rfl ?_
 refine dP (Y.pickT rfl rfl) rfl rfl ?_
 refine dP (Y.move rfl) rfl rfl ?_
 refine WDm.known (t := 30) (r := true) rfl (by simp) ?_
 refine dPg rfl (Y.move rfl) rfl rfl rfl ?_
 refine dPg rfl (Y.move rfl) rfl rfl rfl ?_
 refine dPg rfl (Y.eql rfl rfl) rfl rfl rfl ?_
 refine dP (Y.pickT rfl rfl) rfl rfl ?_
 refine dP (Y.assign rfl) rfl rfl ?_
 refine WDm.nil (WQ.and ?_)
 refine WQ.next ?_
 refine WC.ret ?_
 refine dn1 Try.results16 rfl (fun a w s => ?_)
 · refine ⟨?_, s.low⟩
   simp [packed]
end Go.Proofs.Ytdbcimadjmdffaa
