/- The law RestWorlds. No condition. -/
import Derived.Test.YtdbcimadjmdffaaDc
import Derived.Test.YtdbcimadjmdffaaAo
import Derived.Test.YtdbcimadjmdffaaAw
set_option maxRecDepth 100000
set_option linter.unusedVariables false
set_option linter.unusedSimpArgs false
set_option linter.unusedSectionVars false
set_option maxHeartbeats 4000000
namespace Go.Proofs.Ytdbcimadjmdffaa
open Go.RowKit Go.Joins
theorem losersOf_le9 (l : List R) : (losersOf l).length ≤ 9 := by
  unfold losersOf
  split
  · exact List.length_filter_le _ _
  · exact Nat.zero_le _
theorem own_at {w : World} {base e size k c m : Nat} {A : Option Addr} {xs : List Value} (h : w.ownsRow base e size (.slice A k c) k xs) (hm : m < k) : A = some ⟨gOf A, 0, none⟩ := by
  rcases h.2 with ⟨_, hk⟩ | ⟨g, cap, cur, hv, _⟩
  · omega
  · simp only [Value.slice.injEq] at hv
    rw [hv.1]
    rfl

theorem w_RestWorlds (x : Wd) (A : Option Addr) (b o c : Nat) (y : Ac) (w : World) (hm : x.log.length ≤ maxLen) (hcap : x.log.length ≤ c) (hr : RL w A b o x.log) : Ret Try.prog 40 [x.val A c, y.v] w (.bool true) := by
 refine enter Try.func40 rfl Try.ntmps40 rfl SF.top trivial ?_
 refine sR ?_
 refine WL.eff (E.box rfl rfl rfl) rfl (fun b1 => ?_)
 refine WL.eff (E.box rfl rfl rfl) rfl (fun b2 => ?_)
 refine pA rfl rfl ?_
 refine nN ?_
 refine WC.seq ?_
 refine sR ?_
 refine pV (Y.loadAN wd_54 rfl (by repeat (first | exact List.Mem.head _ | apply List.Mem.tail)) (r := (x).cl A c) rfl) rfl ?_
 refine WL.eff (E.call Try.call63 rfl (fun _ w s => w_worldError x A b o c w hm hcap (hr.below s.low)) rfl) rfl (fun _ => ?_)
 refine pP (Y.neq rfl rfl) rfl ?_
 refine nN ?_
 refine WC.cond rfl (fun h29 => ?_) (fun h29 => ?_)
 refine sR ?_
 refine WL.eff (E.call Try.call64 rfl (fun _ w s => w_actBegun w) rfl) rfl (fun _ => ?_)
 refine pA rfl rfl ?_
 refine nN ?_
 refine WC.ret ?_
 refine WQ.thenRet ?_
 refine dn1 Try.results40 rfl (fun a w s => ?_)
 · refine ⟨?_, s.low⟩
   simp [packed]
 refine WC.skip' ?_
 refine WQ.next ?_
 refine WC.seq ?_
 have h0 : worldErr x = 0 := by simpa using h29
 have hx60 : x.log.length ≤ 60 := (world_right h0).2.1
 obtain ⟨y1, e1, hy1⟩ : ∃ y1 e1, doOf x y = (y1, e1) := ⟨_, _, rfl⟩
 obtain ⟨z1, f1, hz1⟩ : ∃ z1 f1, crashOf x = (z1, f1) := ⟨_, _, rfl⟩
 refine WC.region ?_
 refine pV (Y.loadAN wd_54 rfl (by repeat (first | exact List.Mem.head _ | apply List.Mem.tail)) (r := (x).cl A c) rfl) rfl ?_
 refine WL.eff (E.retW (x) [] Try.call108 rfl (fun _ w s => w_ownWorld x A b o c w (by omega) (hr.below s.low)) rfl) rfl (fun i => ?_)
 refine WL.eff (E.alloc Try.zeroValue54 rfl rfl) rfl (fun b3 => ?_)
 refine WL.eff (E.store Try.sizeOf54 rfl rfl rfl rfl rfl u0 rfl rfl) rfl (fun _ => ?_)
 refine nN ?_
 refine sR ?_
 refine pV (Y.loadAN wd_54 rfl (by repeat (first | exact List.Mem.head _ | apply List.Mem.tail)) (r := (x).cl A c) rfl) rfl ?_
 refine pV (Y.loadAN wd_61 rfl (by repeat (first | exact List.Mem.head _ | apply List.Mem.tail)) (r := y.cl) rfl) rfl ?_
 refine WL.eff (E.retW (y1) [.int .i64 e1] Try.call65 rfl (fun _ w s => (by have hh := w_actDo x A b o c y w hm hcap (hr.below s.low); rw [hy1] at hh; exact hh)) rfl) rfl (fun j => ?_)
 refine pM rfl rfl ?_
 refine pP (Y.extract rfl rfl) rfl ?_
 refine pP (Y.extract rfl rfl) rfl ?_
 refine WL.eff (E.alloc Try.zeroValue54 rfl rfl) rfl (fun b4 => ?_)
 refine WL.eff (E.store Try.sizeOf54 rfl rfl rfl rfl rfl u0 rfl rfl) rfl (fun _ => ?_)
 refine pA rfl rfl ?_
 refine nN ?_
 refine sR ?_
 refine pV (Y.loadAN wd_54 rfl (by repeat (first | exact List.Mem.head _ | apply List.Mem.tail)) (r := (x).cl A c) rfl) rfl ?_
 refine WL.eff (E.retW (z1) [.int .i64 f1] Try.call94 rfl (fun _ w s => (by have hh := w_scanCrash x A b o c w hm hcap (hr.below s.low); rw [hz1] at hh; exact hh)) rfl) rfl (fun q => ?_)
 refine pM rfl rfl ?_
 refine pP (Y.extract rfl rfl) rfl ?_
 refine pP (Y.extract rfl rfl) rfl ?_
 refine WL.eff (E.alloc Try.zeroValue54 rfl rfl) rfl (fun b5 => ?_)
 refine WL.eff (E.store Try.sizeOf54 rfl rfl rfl rfl rfl u0 rfl rfl) rfl (fun _ => ?_)
 refine pA rfl rfl ?_
 refine nN ?_
 refine sR ?_
 refine pP (Y.fieldAddr fa_54_1 rfl) rfl ?_
 refine pV (Y.load (cs := (x).cl A c) (v := .slice A (x).log.length c) fl_39 rfl (by repeat (first | exact List.Mem.head _ | apply List.Mem.tail)) rfl) rfl ?_
 refine WL.eff (E.callN (fun i : Option Addr × Nat => .tuple #[.slice i.1 (losersOf x.log).length i.2, .int .i64 (logErr x.log)]) (fun i => SF.own w.heap.size 3 1 (.slice i.1 (losersOf x.log).length i.2) (losersOf x.log).length (ints (losersOf x.log))) Try.call95 rfl (fun a w s => (w_losers x.log A b o c w (hr.below s.low)).mono fun e w' ⟨i, he, hb, ho⟩ => ⟨i, he, hb, ownsRow_le ho s.low.size, fun g hg => (ho.lt g hg).1⟩) rfl) rfl (fun p => ?_)
 refine pM rfl rfl ?_
 refine pP (Y.extract rfl rfl) rfl ?_
 refine pP (Y.extract rfl rfl) rfl ?_
 refine pA rfl rfl ?_
 refine pA rfl rfl ?_
 refine nN ?_
 refine WC.seq ?_
 refine WC.seq ?_
 refine WC.know (p := y1.log.length ≤ maxLen) (fun a w s => own_max s.fact.2.1.2.1.1) (fun hym => ?_)
 refine WC.know (p := z1.log.length ≤ maxLen) (fun a w s => own_max s.fact.2.1.1) (fun hzm => ?_)
 unfold maxLen at hym hzm
 have hl9 := losersOf_le9 x.log
 refine WC.le (SF.sep_mono (SF.le_refl _) (SF.sep_rot _ _ _)) ?_
 refine WC.le (SF.sep_rot _ _ _) ?_
 refine WC.region ?_
 refine pA rfl rfl ?_
 refine nN ?_
 refine WC.block ?_
 refine WC.loop (ι := Nat × List Value) (fun k => [(2, .pointer (some ⟨b1, 0, none⟩)), (3, .pointer (some ⟨b2, 0, none⟩)), (5, .pointer (some ⟨b3, 0, none⟩)), (6, .pointer (some ⟨b4, 0, none⟩)), (7, .int .i64 e1), (8, .pointer (some ⟨b5, 0, none⟩)), (9, .int .i64 f1), (10, .slice p.1 (losersOf x.log).length p.2), (11, .int .i64 (logErr x.log)), (12, .int .i64 k.1)]) (fun _ => [(b5, z1.cl q.1 q.2, 54), (b4, y1.cl j.1 j.2, 54), (b3, x.cl i.1 i.2, 54), (b2, y.cl, 61), (b1, x.cl A c, 54)]) (fun k => (SF.own w.heap.size 34 8 (.slice j.1 y1.log.length j.2) y1.log.length k.2).sep ((SF.own w.heap.size 3 1 (.slice p.1 (losersOf x.log).length p.2) (losersOf x.log).length (ints (losersOf x.log))).sep ((SF.own w.heap.size 34 8 (.slice q.1 z1.log.length q.2) z1.log.length (flat z1.log)).sep ((SF.own w.heap.size 34 8 (.slice i.1 x.log.length i.2) x.log.length (flat x.log)).sep SF.top)))) (fun k => k.1 ≤ y1.log.length) (fun k => y1.log.length - k.1) (0, flat y1.log) (Nat.zero_le _) (fun a w s => (s.sub (Hsub.of_sub (by repeat (first | exact List.Sublist.refl _ | apply List.Sublist.cons_cons | apply List.Sublist.cons)))).weak (by repeat (first | exact sub_nil _ | refine sub_cons rfl ?_))) (fun k hk => ?_)
 obtain ⟨m, cs⟩ := k
 dsimp only at hk ⊢
 refine WC.seq ?_
 refine sR ?_
 refine pM rfl rfl ?_
 refine pP (Y.fieldAddr fa_54_1 rfl) rfl ?_
 refine pV (Y.load (cs := (y1).cl j.1 j.2) (v := .slice j.1 (y1).log.length j.2) fl_39 rfl (by repeat (first | exact List.Mem.head _ | apply List.Mem.tail)) rfl) rfl ?_
 refine pP (Y.len Try.underlying39 rfl) rfl ?_
 refine pP (Y.lss rfl rfl) rfl ?_
 refine nN ?_
 refine WC.cond rfl (fun h54 => ?_) (fun h54 => ?_)
 refine WC.skip' ?_
 refine WQ.next ?_
 refine WC.seq ?_
 refine WC.block ?_
 have hmN : m < y1.log.length := by have h54 := h54; simp at h54; omega
 refine WC.know (p := j.1 = some ⟨gOf j.1, 0, none⟩) (fun a w s => own_at s.fact.1 hmN) (fun hA => ?_)
 refine WC.region ?_
 refine pP (Y.fieldAddr fa_54_1 rfl) rfl ?_
 refine pV (Y.load (cs := (y1).cl j.1 j.2) (v := .slice j.1 (y1).log.length j.2) fl_39 rfl (by repeat (first | exact List.Mem.head _ | apply List.Mem.tail)) rfl) rfl ?_
 refine pM rfl rfl ?_
 refine pP (Y.build rfl (bf_34_0 _)) rfl ?_
 refine pP (Y.ixSlA (A := j.1) (b := gOf j.1) (o := 0) Try.underlying39 Try.sizeOf34 rfl rfl hA (by omega) (by omega)) rfl ?_
 refine WL.eff (E.storeOwn Try.sizeOf34 rfl hA rfl rfl rfl rfl rfl (by omega)) rfl (fun cs2 => ?_)
 refine WL.nil ?_
 refine WQ.blockEnd ?_
 refine WQ.next ?_
 refine WC.region ?_
 refine pM rfl rfl ?_
 refine pP (Y.add rfl rfl (i64_in (by omega) (by omega))) rfl ?_
 refine pA rfl rfl ?_
 refine WL.nil ?_
 · exact fun a w s => ⟨(m + 1, cs2), by show m + 1 ≤ y1.log.length; omega, by show y1.log.length - (m + 1) < y1.log.length - m; omega, s.weak (by repeat (first | exact sub_nil _ | refine sub_cons rfl ?_))⟩
 refine WC.exit ?_
 refine WQ.thenExit ?_
 refine WQ.thenExit ?_
 refine WQ.blockExit ?_
 refine WQ.next ?_
 refine WC.seq ?_
 refine WC.seq ?_
 refine WC.le (SF.sep_snd _ _) ?_
 refine WC.le (SF.sep_rot _ _ _) ?_
 refine WC.region ?_
 refine pA rfl rfl ?_
 refine nN ?_
 refine WC.block ?_
 refine WC.loop (ι := Nat × List Value) (fun k => [(2, .pointer (some ⟨b1, 0, none⟩)), (3, .pointer (some ⟨b2, 0, none⟩)), (5, .pointer (some ⟨b3, 0, none⟩)), (7, .int .i64 e1), (8, .pointer (some ⟨b5, 0, none⟩)), (9, .int .i64 f1), (10, .slice p.1 (losersOf x.log).length p.2), (11, .int .i64 (logErr x.log)), (13, .int .i64 k.1)]) (fun _ => [(b5, z1.cl q.1 q.2, 54), (b3, x.cl i.1 i.2, 54), (b2, y.cl, 61), (b1, x.cl A c, 54)]) (fun k => (SF.own w.heap.size 34 8 (.slice q.1 z1.log.length q.2) z1.log.length k.2).sep ((SF.own w.heap.size 3 1 (.slice p.1 (losersOf x.log).length p.2) (losersOf x.log).length (ints (losersOf x.log))).sep ((SF.own w.heap.size 34 8 (.slice i.1 x.log.length i.2) x.log.length (flat x.log)).sep SF.top))) (fun k => k.1 ≤ z1.log.length) (fun k => z1.log.length - k.1) (0, flat z1.log) (Nat.zero_le _) (fun a w s => (s.sub (Hsub.of_sub (by repeat (first | exact List.Sublist.refl _ | apply List.Sublist.cons_cons | apply List.Sublist.cons)))).weak (by repeat (first | exact sub_nil _ | refine sub_cons rfl ?_))) (fun k hk => ?_)
 obtain ⟨m, cs⟩ := k
 dsimp only at hk ⊢
 refine WC.seq ?_
 refine sR ?_
 refine pM rfl rfl ?_
 refine pP (Y.fieldAddr fa_54_1 rfl) rfl ?_
 refine pV (Y.load (cs := (z1).cl q.1 q.2) (v := .slice q.1 (z1).log.length q.2) fl_39 rfl (by repeat (first | exact List.Mem.head _ | apply List.Mem.tail)) rfl) rfl ?_
 refine pP (Y.len Try.underlying39 rfl) rfl ?_
 refine pP (Y.lss rfl rfl) rfl ?_
 refine nN ?_
 refine WC.cond rfl (fun h66 => ?_) (fun h66 => ?_)
 refine WC.skip' ?_
 refine WQ.next ?_
 refine WC.seq ?_
 refine WC.block ?_
 have hmN : m < z1.log.length := by have h66 := h66; simp at h66; omega
 refine WC.know (p := q.1 = some ⟨gOf q.1, 0, none⟩) (fun a w s => own_at s.fact.1 hmN) (fun hA => ?_)
 refine WC.region ?_
 refine pP (Y.fieldAddr fa_54_1 rfl) rfl ?_
 refine pV (Y.load (cs := (z1).cl q.1 q.2) (v := .slice q.1 (z1).log.length q.2) fl_39 rfl (by repeat (first | exact List.Mem.head _ | apply List.Mem.tail)) rfl) rfl ?_
 refine pM rfl rfl ?_
 refine pP (Y.build rfl (bf_34_0 _)) rfl ?_
 refine pP (Y.ixSlA (A := q.1) (b := gOf q.1) (o := 0) Try.underlying39 Try.sizeOf34 rfl rfl hA (by omega) (by omega)) rfl ?_
 refine WL.eff (E.storeOwn Try.sizeOf34 rfl hA rfl rfl rfl rfl rfl (by omega)) rfl (fun cs2 => ?_)
 refine WL.nil ?_
 refine WQ.blockEnd ?_
 refine WQ.next ?_
 refine WC.region ?_
 refine pM rfl rfl ?_
 refine pP (Y.add rfl rfl (i64_in (by omega) (by omega))) rfl ?_
 refine pA rfl rfl ?_
 refine WL.nil ?_
 · exact fun a w s => ⟨(m + 1, cs2), by show m + 1 ≤ z1.log.length; omega, by show z1.log.length - (m + 1) < z1.log.length - m; omega, s.weak (by repeat (first | exact sub_nil _ | refine sub_cons rfl ?_))⟩
 refine WC.exit ?_
 refine WQ.thenExit ?_
 refine WQ.thenExit ?_
 refine WQ.blockExit ?_
 refine WQ.next ?_
 refine WC.seq ?_
 refine WC.seq ?_
 refine WC.le (SF.sep_snd _ _) ?_
 refine WC.region ?_
 refine pA rfl rfl ?_
 refine nN ?_
 refine WC.block ?_
 refine WC.loop (ι := Nat × List Value) (fun k => [(2, .pointer (some ⟨b1, 0, none⟩)), (3, .pointer (some ⟨b2, 0, none⟩)), (5, .pointer (some ⟨b3, 0, none⟩)), (7, .int .i64 e1), (9, .int .i64 f1), (10, .slice p.1 (losersOf x.log).length p.2), (11, .int .i64 (logErr x.log)), (14, .int .i64 k.1)]) (fun _ => [(b3, x.cl i.1 i.2, 54), (b2, y.cl, 61), (b1, x.cl A c, 54)]) (fun k => (SF.own w.heap.size 3 1 (.slice p.1 (losersOf x.log).length p.2) (losersOf x.log).length k.2).sep ((SF.own w.heap.size 34 8 (.slice i.1 x.log.length i.2) x.log.length (flat x.log)).sep SF.top)) (fun k => k.1 ≤ (losersOf x.log).length) (fun k => (losersOf x.log).length - k.1) (0, ints (losersOf x.log)) (Nat.zero_le _) (fun a w s => (s.sub (Hsub.of_sub (by repeat (first | exact List.Sublist.refl _ | apply List.Sublist.cons_cons | apply List.Sublist.cons)))).weak (by repeat (first | exact sub_nil _ | refine sub_cons rfl ?_))) (fun k hk => ?_)
 obtain ⟨m, cs⟩ := k
 dsimp only at hk ⊢
 refine WC.seq ?_
 refine sR ?_
 refine pM rfl rfl ?_
 refine pM rfl rfl ?_
 refine pP (Y.len Try.underlying64 rfl) rfl ?_
 refine pP (Y.lss rfl rfl) rfl ?_
 refine nN ?_
 refine WC.cond rfl (fun h77 => ?_) (fun h77 => ?_)
 refine WC.skip' ?_
 refine WQ.next ?_
 refine WC.seq ?_
 refine WC.block ?_
 have hmN : m < (losersOf x.log).length := by have h77 := h77; simp at h77; omega
 refine WC.know (p := p.1 = some ⟨gOf p.1, 0, none⟩) (fun a w s => own_at s.fact.1 hmN) (fun hA => ?_)
 refine WC.region ?_
 refine pM rfl rfl ?_
 refine pM rfl rfl ?_
 refine pP (Y.ixSlA (A := p.1) (b := gOf p.1) (o := 0) Try.underlying64 Try.sizeOf3 rfl rfl hA (by omega) (by omega)) rfl ?_
 refine WL.eff (E.storeOwn Try.sizeOf3 rfl hA rfl rfl rfl rfl rfl (by omega)) rfl (fun cs2 => ?_)
 refine WL.nil ?_
 refine WQ.blockEnd ?_
 refine WQ.next ?_
 refine WC.region ?_
 refine pM rfl rfl ?_
 refine pP (Y.add rfl rfl (i64_in (by omega) (by omega))) rfl ?_
 refine pA rfl rfl ?_
 refine WL.nil ?_
 · exact fun a w s => ⟨(m + 1, cs2), by show m + 1 ≤ (losersOf x.log).length; omega, by show (losersOf x.log).length - (m + 1) < (losersOf x.log).length - m; omega, s.weak (by repeat (first | exact sub_nil _ | refine sub_cons rfl ?_))⟩
 refine WC.exit ?_
 refine WQ.thenExit ?_
 refine WQ.thenExit ?_
 refine WQ.blockExit ?_
 refine WQ.next ?_
 refine WC.seq ?_
 refine WC.le (SF.sep_snd _ _) ?_
 refine WC.region ?_
 refine pV (Y.loadAN wd_54 rfl (by repeat (first | exact List.Mem.head _ | apply List.Mem.tail)) (r := (x).cl A c) rfl) rfl ?_
 refine pV (Y.loadAN wd_61 rfl (by repeat (first | exact List.Mem.head _ | apply List.Mem.tail)) (r := y.cl) rfl) rfl ?_
 refine WL.eff (E.retW (y1) [.int .i64 e1] Try.call65 rfl (fun _ w s => (by have hh := w_actDo x A b o c y w hm hcap (hr.below s.low); rw [hy1] at hh; exact hh)) rfl) rfl (fun j2 => ?_)
 refine pM rfl rfl ?_
 refine pP (Y.extract rfl rfl) rfl ?_
 refine pP (Y.extract rfl rfl) rfl ?_
 refine WL.eff (E.alloc Try.zeroValue54 rfl rfl) rfl (fun b6 => ?_)
 refine WL.eff (E.store Try.sizeOf54 rfl rfl rfl rfl rfl u0 rfl rfl) rfl (fun _ => ?_)
 refine pA rfl rfl ?_
 refine nN ?_
 refine sR ?_
 refine pV (Y.loadAN wd_54 rfl (by repeat (first | exact List.Mem.head _ | apply List.Mem.tail)) (r := (x).cl A c) rfl) rfl ?_
 refine WL.eff (E.retW (z1) [.int .i64 f1] Try.call94 rfl (fun _ w s => (by have hh := w_scanCrash x A b o c w hm hcap (hr.below s.low); rw [hz1] at hh; exact hh)) rfl) rfl (fun q2 => ?_)
 refine pM rfl rfl ?_
 refine pP (Y.extract rfl rfl) rfl ?_
 refine pP (Y.extract rfl rfl) rfl ?_
 refine WL.eff (E.alloc Try.zeroValue54 rfl rfl) rfl (fun b7 => ?_)
 refine WL.eff (E.store Try.sizeOf54 rfl rfl rfl rfl rfl u0 rfl rfl) rfl (fun _ => ?_)
 refine pA rfl rfl ?_
 refine nN ?_
 refine sR ?_
 refine pP (Y.fieldAddr fa_54_1 rfl) rfl ?_
 refine pV (Y.load (cs := (x).cl A c) (v := .slice A (x).log.length c) fl_39 rfl (by repeat (first | exact List.Mem.head _ | apply List.Mem.tail)) rfl) rfl ?_
 refine WL.eff (E.callF (fun i : Option Addr × Nat => .tuple #[.slice i.1 (losersOf x.log).length i.2, .int .i64 (logErr x.log)]) (fun i => SF.own w.heap.size 3 1 (.slice i.1 (losersOf x.log).length i.2) (losersOf x.log).length (ints (losersOf x.log))) Try.call95 rfl (fun _ w s => ((w_losers x.log A b o c w (hr.below s.low)).mono fun e w' ⟨i, he, hb, ho⟩ => ⟨i, he, hb, ownsRow_le ho s.low.size, fun g hg => .inl (ho.lt g hg).1⟩)) rfl) rfl (fun p2 => ?_)
 refine pM rfl rfl ?_
 refine pP (Y.extract rfl rfl) rfl ?_
 refine pP (Y.extract rfl rfl) rfl ?_
 refine pA rfl rfl ?_
 refine pA rfl rfl ?_
 refine nN ?_
 refine sR ?_
 refine pV (Y.loadAN wd_54 rfl (by repeat (first | exact List.Mem.head _ | apply List.Mem.tail)) (r := (x).cl A c) rfl) rfl ?_
 refine pV (Y.loadAN wd_61 rfl (by repeat (first | exact List.Mem.head _ | apply List.Mem.tail)) (r := y.cl) rfl) rfl ?_
 refine WL.eff (E.retW (y1) [.int .i64 e1] Try.call105 rfl (fun _ w s => (by have hh := w_doOf x A b o c y w hm hcap (hr.below s.low); rw [hy1] at hh; exact hh)) rfl) rfl (fun j3 => ?_)
 refine pM rfl rfl ?_
 refine pP (Y.extract rfl rfl) rfl ?_
 refine pP (Y.extract rfl rfl) rfl ?_
 refine WL.eff (E.alloc Try.zeroValue54 rfl rfl) rfl (fun b8 => ?_)
 refine WL.eff (E.store Try.sizeOf54 rfl rfl rfl rfl rfl u0 rfl rfl) rfl (fun _ => ?_)
 refine pA rfl rfl ?_
 refine nN ?_
 refine sR ?_
 refine pV (Y.loadAN wd_54 rfl (by repeat (first | exact List.Mem.head _ | apply List.Mem.tail)) (r := (x).cl A c) rfl) rfl ?_
 refine WL.eff (E.retW (z1) [.int .i64 f1] Try.call96 rfl (fun _ w s => (by have hh := w_crashOf x A b o c w hm hcap (hr.below s.low); rw [hz1] at hh; exact hh)) rfl) rfl (fun q3 => ?_)
 refine pM rfl rfl ?_
 refine pP (Y.extract rfl rfl) rfl ?_
 refine pP (Y.extract rfl rfl) rfl ?_
 refine WL.eff (E.alloc Try.zeroValue54 rfl rfl) rfl (fun b9 => ?_)
 refine WL.eff (E.store Try.sizeOf54 rfl rfl rfl rfl rfl u0 rfl rfl) rfl (fun _ => ?_)
 refine pA rfl rfl ?_
 refine nN ?_
 refine sR ?_
 refine pP (Y.fieldAddr fa_54_1 rfl) rfl ?_
 refine pV (Y.load (cs := (x).cl A c) (v := .slice A (x).log.length c) fl_39 rfl (by repeat (first | exact List.Mem.head _ | apply List.Mem.tail)) rfl) rfl ?_
 refine WL.eff (E.callF (fun i : Option Addr × Nat => .tuple #[.slice i.1 (losersOf x.log).length i.2, .int .i64 (logErr x.log)]) (fun i => SF.own w.heap.size 3 1 (.slice i.1 (losersOf x.log).length i.2) (losersOf x.log).length (ints (losersOf x.log))) Try.call97 rfl (fun _ w s => ((w_losersOf x.log A b o c w hm hcap (hr.below s.low)).mono fun e w' ⟨i, he, hb, ho⟩ => ⟨i, he, hb, ownsRow_le ho s.low.size, fun g hg => .inl (ho.lt g hg).1⟩)) rfl) rfl (fun p3 => ?_)
 refine pM rfl rfl ?_
 refine pP (Y.extract rfl rfl) rfl ?_
 refine pP (Y.extract rfl rfl) rfl ?_
 refine pA rfl rfl ?_
 refine pA rfl rfl ?_
 refine nN ?_
 refine sR ?_
 refine WL.eff (E.call Try.call64 rfl (fun _ w s => w_actBegun w) rfl) rfl (fun _ => ?_)
 refine pM rfl rfl ?_
 refine gT rfl ?_
 refine pM rfl rfl ?_
 refine gT rfl ?_
 refine pM rfl rfl ?_
 refine gT rfl ?_
 refine pP (Y.eql rfl rfl) rfl ?_
 refine pP (Y.pickT rfl rfl) rfl ?_
 refine pM rfl rfl ?_
 refine WL.known (t := 123) (r := true) rfl (by simp) ?_
 refine gT rfl ?_
 refine pM rfl rfl ?_
 refine gT rfl ?_
 refine pM rfl rfl ?_
 refine gT rfl ?_
 refine pP (Y.eql rfl rfl) rfl ?_
 refine pP (Y.pickT rfl rfl) rfl ?_
 refine pM rfl rfl ?_
 refine WL.known (t := 128) (r := true) rfl (by simp) ?_
 refine gT rfl ?_
 refine pM rfl rfl ?_
 refine gT rfl ?_
 refine pM rfl rfl ?_
 refine gT rfl ?_
 refine pP (Y.eql rfl rfl) rfl ?_
 refine pP (Y.pickT rfl rfl) rfl ?_
 refine pM rfl rfl ?_
 refine WL.known (t := 133) (r := true) rfl (by simp) ?_
 refine gT rfl ?_
 refine pM rfl rfl ?_
 refine gT rfl ?_
 refine pM rfl rfl ?_
 refine gT rfl ?_
 refine pP (Y.eql rfl rfl) rfl ?_
 refine pP (Y.pickT rfl rfl) rfl ?_
 refine pM rfl rfl ?_
 refine WL.known (t := 138) (r := true) rfl (by simp) ?_
 refine gT rfl ?_
 refine pV (Y.loadAN wd_54 rfl (by repeat (first | exact List.Mem.head _ | apply List.Mem.tail)) (r := (x).cl A c) rfl) rfl ?_
 refine gT rfl ?_
 refine pV (Y.loadAN wd_54 rfl (by repeat (first | exact List.Mem.head _ | apply List.Mem.tail)) (r := (x).cl i.1 i.2) rfl) rfl ?_
 refine gT rfl ?_
 refine WL.eff (E.call Try.call83 rfl (fun _ w s => w_sameWorlds x x A i.1 b o c (gOf i.1) 0 i.2 w hm (hr.below s.low) (own_RL s.fact.1.2.1.2.1.1.2.1.2.1.1)) rfl) rfl (fun _ => ?_)
 refine pP (Y.pickT rfl rfl) rfl ?_
 refine pM rfl rfl ?_
 refine WL.known (t := 143) (r := true) rfl (by simp) ?_
 refine gT rfl ?_
 refine pV (Y.loadAN wd_54 rfl (by repeat (first | exact List.Mem.head _ | apply List.Mem.tail)) (r := (y1).cl j2.1 j2.2) rfl) rfl ?_
 refine gT rfl ?_
 refine pV (Y.loadAN wd_54 rfl (by repeat (first | exact List.Mem.head _ | apply List.Mem.tail)) (r := (y1).cl j3.1 j3.2) rfl) rfl ?_
 refine gT rfl ?_
 refine WL.eff (E.call Try.call83 rfl (fun _ w s => w_sameWorlds (y1) (y1) j2.1 j3.1 (gOf j2.1) 0 j2.2 (gOf j3.1) 0 j3.2 w (own_max s.fact.1.2.1.2.1.1.2.1.1) (own_RL s.fact.1.2.1.2.1.1.2.1.1) (own_RL s.fact.1.2.1.1)) rfl) rfl (fun _ => ?_)
 refine pP (Y.pickT rfl rfl) rfl ?_
 refine pM rfl rfl ?_
 refine WL.known (t := 148) (r := true) rfl (by simp) ?_
 refine gT rfl ?_
 refine pV (Y.loadAN wd_54 rfl (by repeat (first | exact List.Mem.head _ | apply List.Mem.tail)) (r := (z1).cl q2.1 q2.2) rfl) rfl ?_
 refine gT rfl ?_
 refine pV (Y.loadAN wd_54 rfl (by repeat (first | exact List.Mem.head _ | apply List.Mem.tail)) (r := (z1).cl q3.1 q3.2) rfl) rfl ?_
 refine gT rfl ?_
 refine WL.eff (E.call Try.call83 rfl (fun _ w s => w_sameWorlds (z1) (z1) q2.1 q3.1 (gOf q2.1) 0 q2.2 (gOf q3.1) 0 q3.2 w (own_max s.fact.1.2.1.2.1.1.1) (own_RL s.fact.1.2.1.2.1.1.1) (own_RL s.fact.1.1)) rfl) rfl (fun _ => ?_)
 refine pP (Y.pickT rfl rfl) rfl ?_
 refine pM rfl rfl ?_
 refine WL.known (t := 153) (r := true) rfl (by simp) ?_
 refine gT rfl ?_
 refine pM rfl rfl ?_
 refine gT rfl ?_
 refine pM rfl rfl ?_
 refine gT rfl ?_
 refine WL.eff (E.call Try.call74 rfl (fun _ w s => w_sameInts (losersOf x.log) (losersOf x.log) p2.1 p3.1 (gOf p2.1) (gOf p3.1) p2.2 p3.2 w (by omega) (own_IL rfl s.fact.1.2.1.2.1.2) (own_IL rfl s.fact.2)) rfl) rfl (fun _ => ?_)
 refine pP (Y.pickT rfl rfl) rfl ?_
 refine pA rfl rfl ?_
 refine nN ?_
 refine WC.ret ?_
 refine dn1 Try.results40 rfl (fun a w s => ?_)
 · refine ⟨?_, s.low⟩
   simp [packed]
end Go.Proofs.Ytdbcimadjmdffaa
