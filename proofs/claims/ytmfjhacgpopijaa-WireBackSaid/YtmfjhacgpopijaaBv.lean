/- The law WorldTells. No condition. -/
import Derived.Test.YtmfjhacgpopijaaBu
set_option maxRecDepth 100000
set_option linter.unusedVariables false
set_option linter.unusedSimpArgs false
set_option linter.unusedSectionVars false
set_option maxHeartbeats 4000000
namespace Go.Proofs.Ytmfjhacgpopijaa
open Go.RowKit Go.Joins
def labW : Wd := ⟨⟨Pg.zero, ⟨0, 6, 0, 2⟩, Pg.zero⟩, someL, 6⟩

theorem w_lab (w : World) : Calls Try.prog 21 [].toArray w fun e w' => ∃ g : Nat, e = .returned (labW.val (some ⟨g, 0, none⟩) 9) ∧ Below w.heap.size w w' ∧ w.heap.size ≤ g ∧ w'.heap[g]? = some (.cells (flat someL).toArray 48) := by
 refine enter Try.func21 rfl Try.ntmps21 rfl SF.top trivial ?_
 refine sR ?_
 refine WL.eff (E.alloc Try.zeroValue28 rfl rfl) rfl (fun b1 => ?_)
 refine nN ?_
 refine sR ?_
 refine WL.eff (E.callB (fun g : Nat => .slice (some ⟨g, 0, none⟩) 9 9) (fun g => (g, flat someL, 48)) Try.call27 rfl (fun _ w s => w_some w) rfl) rfl (fun g2 => ?_)
 refine pP (Y.build rfl (bf_28_1_2 _ _ _ _)) rfl ?_
 refine WL.eff (E.alloc Try.zeroValue28 rfl rfl) rfl (fun b2 => ?_)
 refine WL.eff (E.store Try.sizeOf28 rfl rfl rfl rfl rfl u0 rfl rfl) rfl (fun _ => ?_)
 refine nN ?_
 refine sR ?_
 refine pP (Y.build rfl (bf_22_0_1_2 _ _ _)) rfl ?_
 refine pP (Y.build rfl (bf_24_0_1 _ _ _ _)) rfl ?_
 refine pP (Y.fieldAddr fa_28_0 rfl) rfl ?_
 refine pP (Y.ixArr Try.underlying25 Try.sizeOf24 rfl rfl (by decide) (by decide)) rfl ?_
 refine WL.eff (E.store Try.sizeOf24 rfl rfl rfl rfl rfl u0 rfl rfl) rfl (fun _ => ?_)
 refine nN ?_
 refine sR ?_
 refine pV (Y.loadA wd_28 rfl m0 rfl) rfl ?_
 refine WL.eff (E.store Try.sizeOf28 rfl rfl rfl rfl rfl u2 rfl rfl) rfl (fun _ => ?_)
 refine nN ?_
 refine WC.ret ?_
 refine WQ.done Try.results21 (RVs.cons (RV.cell wd_28 rfl m2 rfl) RVs.nil) (fun a w s => ?_)
 · exact ⟨g2, rfl, s.low, (s.hp.blk _ (List.Mem.tail _ (List.Mem.head _))).2, (s.hp.blk _ (List.Mem.tail _ (List.Mem.head _))).1⟩

theorem take_eqR {xs ys : List R} {k : Nat} {x y : R} (h : xs.take k = ys.take k) (hx : xs[k]? = some x) (hy : ys[k]? = some y) (e : x = y) : xs.take (k + 1) = ys.take (k + 1) := take_eqS h hx hy e

theorem w_sameLogs (l l2 : List R) (A A2 : Option Addr) (b o c b2 o2 c2 : Nat) (w : World) (hm : l.length ≤ maxLen) (hr : RL w A b o l) (hr2 : RL w A2 b2 o2 l2) : Ret Try.prog 22 [.slice A l.length c, .slice A2 l2.length c2] w (.bool (decide (l = l2))) := by
 have hl63 : (l.length : Int) ≤ 9223372036854775807 := by unfold maxLen at hm; omega
 refine enter Try.func22 rfl Try.ntmps22 rfl SF.top trivial ?_
 refine sR ?_
 refine pA rfl rfl ?_
 refine nN ?_
 refine WC.seq ?_
 refine sR ?_
 refine pM rfl rfl ?_
 refine pP (Y.len Try.underlying26 rfl) rfl ?_
 refine pM rfl rfl ?_
 refine pP (Y.len Try.underlying26 rfl) rfl ?_
 refine pP (Y.neq rfl rfl) rfl ?_
 refine nN ?_
 refine WC.cond rfl (fun h10 => ?_) (fun h10 => ?_)
 refine sR ?_
 refine pA rfl rfl ?_
 refine nN ?_
 refine WC.ret ?_
 refine WQ.thenRet ?_
 refine dn1 Try.results22 rfl (fun a w s => ?_)
 · refine ⟨?_, s.low⟩
   clear s
   simp only [packed]
   have e : l ≠ l2 := fun e => by subst e; simp at h10
   rw [decide_eq_false e]
 refine WC.skip' ?_
 refine WQ.next ?_
 refine WC.seq ?_
 refine sR ?_
 refine pA rfl rfl ?_
 refine nN ?_
 refine WC.block ?_
 have hle : l.length = l2.length := by simp at h10; omega
 refine WC.loop (ι := Nat) (fun k => [(0, .slice A l.length c), (1, .slice A2 l2.length c2), (5, .int .i64 k)]) (fun _ => []) (fun _ => SF.top) (fun k => k ≤ l.length ∧ l.take k = l2.take k) (fun k => l.length - k) 0 ⟨Nat.zero_le _, rfl⟩ (fun a w s => s.weak (by repeat (first | exact sub_nil _ | refine sub_cons rfl ?_))) (fun k hk => ?_)
 obtain ⟨hk, hf⟩ := hk
 refine WC.seq ?_
 refine sR ?_
 refine pM rfl rfl ?_
 refine pM rfl rfl ?_
 refine pP (Y.len Try.underlying26 rfl) rfl ?_
 refine pP (Y.lss rfl rfl) rfl ?_
 refine nN ?_
 refine WC.cond rfl (fun h14 => ?_) (fun h14 => ?_)
 refine WC.skip' ?_
 refine WQ.next ?_
 refine WC.seq ?_
 refine WC.block ?_
 refine WC.seq ?_
 have h14 : k < l.length := by simpa using h14
 obtain ⟨x, hx⟩ := get_of_lt h14
 obtain ⟨y, hy⟩ := get_of_lt (l := l2) (k := k) (by omega)
 refine WC.draw [(0, .q false), (1, .q false), (2, .q false), (3, .q true), (4, .q false), (5, .q false), (6, .q false), (7, .q true), (8, .q false)] mixed (by kernel_rfl) ?_
 refine dP (Y.move rfl) rfl rfl ?_
 refine dP (Y.move rfl) rfl rfl ?_
 refine dP (Y.ixSlA Try.underlying26 Try.sizeOf48 rfl rfl (hr.addr hx) (nat0 _) (get_ltI hx)) rfl rfl ?_
 refine dV (Y.loadAc wd_48 rfl (r := x.cl) rfl (fun a w s j hj => (hr.below s.low).full hx j hj)) rfl rfl ?_
 refine dP (Y.move rfl) rfl rfl ?_
 refine dP (Y.move rfl) rfl rfl ?_
 refine dP (Y.ixSlA Try.underlying26 Try.sizeOf48 rfl rfl (hr2.addr hy) (nat0 _) (get_ltI hy)) rfl rfl ?_
 refine dV (Y.loadAc wd_48 rfl (r := y.cl) rfl (fun a w s j hj => (hr2.below s.low).full hy j hj)) rfl rfl ?_
 refine dP (Y.neqA Try.eqGuardType48 rfl rfl (weq_rec x y)) rfl rfl ?_
 refine WDm.nil (WQ.and ?_)
 refine WQ.next ?_
 refine WC.cond rfl (fun h25 => ?_) (fun h25 => ?_)
 refine sR ?_
 refine pA rfl rfl ?_
 refine nN ?_
 refine WC.ret ?_
 refine WQ.blockRet ?_
 refine WQ.thenRet ?_
 refine WQ.thenRet ?_
 refine WQ.blockRet ?_
 refine WQ.thenRet ?_
 refine dn1 Try.results22 rfl (fun a w s => ?_)
 · refine ⟨?_, s.low⟩
   clear s
   simp only [packed]
   have := ne_get hx hy (by simpa using h25)
   rw [decide_eq_false this]
 refine WC.skip' ?_
 refine WQ.blockEnd ?_
 refine WQ.next ?_
 refine WC.region ?_
 refine pM rfl rfl ?_
 refine pP (Y.add rfl rfl (i64_in (by omega) (by omega))) rfl ?_
 refine pA rfl rfl ?_
 refine WL.nil ?_
 · exact fun a w s => ⟨k + 1, ⟨by omega, take_eqS hf hx hy (by simpa using h25)⟩, by omega, s.weak (by repeat (first | exact sub_nil _ | refine sub_cons rfl ?_))⟩
 refine WC.exit ?_
 refine WQ.thenExit ?_
 refine WQ.thenExit ?_
 refine WQ.blockExit ?_
 refine WQ.next ?_
 refine sR ?_
 refine pA rfl rfl ?_
 refine nN ?_
 refine WC.ret ?_
 refine dn1 Try.results22 rfl (fun a w s => ?_)
 · refine ⟨?_, s.low⟩
   clear s
   simp only [packed]
   have h14 := h14
   simp at h14
   rw [List.take_of_length_le h14, List.take_of_length_le (by omega)] at hf
   rw [decide_eq_true hf]

theorem wd_ext (x y : Wd) : x = y ↔ x.disk = y.disk ∧ x.safe = y.safe ∧ x.log = y.log := by
  cases x; cases y; simp; exact fun _ => And.comm

theorem w_sameWorlds (x y : Wd) (A A2 : Option Addr) (b o c e2 f2 d2 : Nat) (w : World) (hm : x.log.length ≤ maxLen) (hr : RL w A b o x.log) (hr2 : RL w A2 e2 f2 y.log) : Ret Try.prog 10 [x.val A c, y.val A2 d2] w (.bool (decide (x = y))) := by
 refine enter Try.func10 rfl Try.ntmps10 rfl SF.top trivial ?_
 refine sR ?_
 refine WL.eff (E.box rfl rfl rfl) rfl (fun b1 => ?_)
 refine WL.eff (E.box rfl rfl rfl) rfl (fun b2 => ?_)
 refine pA rfl rfl ?_
 refine nN ?_
 refine sR ?_
 refine pP (Y.fieldAddr fa_28_0 rfl) rfl ?_
 refine pV (Y.loadAN wd_25 rfl m1 (r := x.disk.cl) rfl) rfl ?_
 refine pP (Y.fieldAddr fa_28_0 rfl) rfl ?_
 refine pV (Y.loadAN wd_25 rfl m0 (r := y.disk.cl) rfl) rfl ?_
 refine pP (Y.eqlA Try.eqGuardType25 rfl rfl (weq_pages x.disk y.disk)) rfl ?_
 refine pM rfl rfl ?_
 refine WL.split (t := 10) rfl (fun r h10 => ?_)
 cases r
 refine gF rfl ?_
 refine gF rfl ?_
 refine gF rfl ?_
 refine gF rfl ?_
 refine gF rfl ?_
 refine pP (Y.pickF rfl rfl) rfl ?_
 refine pM rfl rfl ?_
 refine gF rfl ?_
 refine gF rfl ?_
 refine gF rfl ?_
 refine gF rfl ?_
 refine gF rfl ?_
 refine pP (Y.pickF rfl rfl) rfl ?_
 refine pA rfl rfl ?_
 refine nN ?_
 refine WC.ret ?_
 refine dn1 Try.results10 rfl (fun a w s => ?_)
 · refine ⟨?_, s.low⟩
   clear s
   simp only [packed]
   apply retb
   rw [Bool.eq_iff_iff]
   simp only [decide_eq_true_iff, wd_ext]
   simp_all
 refine gT rfl ?_
 refine pP (Y.fieldAddr fa_28_2 rfl) rfl ?_
 refine gT rfl ?_
 refine pV (Y.load fl_3 rfl m1 rfl) rfl ?_
 refine gT rfl ?_
 refine pP (Y.fieldAddr fa_28_2 rfl) rfl ?_
 refine gT rfl ?_
 refine pV (Y.load fl_3 rfl m0 rfl) rfl ?_
 refine gT rfl ?_
 refine pP (Y.eql rfl rfl) rfl ?_
 refine pP (Y.pickT rfl rfl) rfl ?_
 refine pM rfl rfl ?_
 refine WL.split (t := 17) rfl (fun r h17 => ?_)
 cases r
 refine gF rfl ?_
 refine gF rfl ?_
 refine gF rfl ?_
 refine gF rfl ?_
 refine gF rfl ?_
 refine pP (Y.pickF rfl rfl) rfl ?_
 refine pA rfl rfl ?_
 refine nN ?_
 refine WC.ret ?_
 refine dn1 Try.results10 rfl (fun a w s => ?_)
 · refine ⟨?_, s.low⟩
   clear s
   simp only [packed]
   apply retb
   rw [Bool.eq_iff_iff]
   simp only [decide_eq_true_iff, wd_ext]
   simp_all
 refine gT rfl ?_
 refine pP (Y.fieldAddr fa_28_1 rfl) rfl ?_
 refine gT rfl ?_
 refine pV (Y.load fl_26 rfl m1 rfl) rfl ?_
 refine gT rfl ?_
 refine pP (Y.fieldAddr fa_28_1 rfl) rfl ?_
 refine gT rfl ?_
 refine pV (Y.load fl_26 rfl m0 rfl) rfl ?_
 refine gT rfl ?_
 refine WL.eff (E.call Try.call22 rfl (fun _ w s => w_sameLogs x.log y.log A A2 b o c e2 f2 d2 w hm (hr.below s.low) (hr2.below s.low)) rfl) rfl (fun _ => ?_)
 refine pP (Y.pickT rfl rfl) rfl ?_
 refine pA rfl rfl ?_
 refine nN ?_
 refine WC.ret ?_
 refine dn1 Try.results10 rfl (fun a w s => ?_)
 · refine ⟨?_, s.low⟩
   clear s
   simp only [packed]
   apply retb
   rw [Bool.eq_iff_iff]
   simp only [decide_eq_true_iff, wd_ext]
   simp_all

def labX : Wd := ⟨⟨Pg.zero, ⟨1, 6, 0, 2⟩, Pg.zero⟩, someL, 6⟩
def labY : Wd := ⟨⟨(nowOf labW).1.p0, ⟨0, 6, 0, 2⟩, Pg.zero⟩, someL, 6⟩
def labZ : Wd := ⟨⟨Pg.zero, ⟨0, 6, 0, 2⟩, Pg.zero⟩, someL, 10⟩
theorem nilRL (w : World) : RL w none 0 0 [] := ⟨fun h => absurd rfl h, fun i r hi => by simp at hi⟩

end Go.Proofs.Ytmfjhacgpopijaa
