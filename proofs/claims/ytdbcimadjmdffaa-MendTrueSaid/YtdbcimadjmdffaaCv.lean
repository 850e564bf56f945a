/- Mend: Half, and the document of it. No condition. -/
import Derived.Test.YtdbcimadjmdffaaCu
import Derived.Test.YtdbcimadjmdffaaOx
import Derived.Test.YtdbcimadjmdffaaSe
set_option maxRecDepth 100000
set_option linter.unusedVariables false
set_option linter.unusedSimpArgs false
set_option linter.unusedSectionVars false
set_option maxHeartbeats 4000000
namespace Go.Proofs.Ytdbcimadjmdffaa
open Go.RowKit Go.Joins
theorem trueIx_step {l : List Bool} {k : Nat} {v : Bool} (h : l[k]? = some v) : trueIx l (k + 1) = if v then trueIx l k ++ [(k : Int)] else trueIx l k := by
  unfold trueIx
  rw [List.range_succ, List.filter_append, List.map_append]
  cases v <;> simp [h]
theorem trueIx_bnd {l : List Bool} {k : Nat} : (trueIx l k).length ≤ k ∧ ∀ p ∈ trueIx l k, 0 ≤ p ∧ p < k := by
  unfold trueIx
  refine ⟨?_, fun p hp => ?_⟩
  · rw [List.length_map]
    exact Nat.le_trans (List.length_filter_le _ _) (by simp)
  · obtain ⟨i, hi, rfl⟩ := List.mem_map.1 hp
    have := List.mem_range.1 (List.mem_filter.1 hi).1
    omega
theorem half_err {x : Wd} (h : worldErr x ≠ 0) (steps : Int) (l : List Bool) : halfOf x steps l = (Wd.zero, worldErr x) := by unfold halfOf; rw [if_neg h]
theorem half_neg {x : Wd} (h : worldErr x = 0) {steps : Int} (hs : steps < 0) (l : List Bool) : halfOf x steps l = (Wd.zero, 3) := by unfold halfOf; rw [if_pos h, if_pos hs]
theorem half_len {x : Wd} (h : worldErr x = 0) {steps : Int} (hs : ¬ steps < 0) {l : List Bool} (hl : l.length ≠ 3) : halfOf x steps l = (Wd.zero, 1) := by
  unfold halfOf
  rw [if_pos h, if_neg hs]
  match l, hl with
  | [], _ => rfl
  | [_], _ => rfl
  | [_, _], _ => rfl
  | [_, _, _], h => exact absurd rfl h
  | _ :: _ :: _ :: _ :: _, _ => rfl
theorem half_is {x : Wd} (h : worldErr x = 0) {steps : Int} (hs : ¬ steps < 0) (a b c : Bool) : halfOf x steps [a, b, c] = ((mendOf x steps a b c).1, (mendOf x steps a b c).2.2) := by unfold halfOf; rw [if_pos h, if_neg hs]
theorem three_of {l : List Bool} (h : l.length = 3) : ∃ a b c, l = [a, b, c] := by
  match l, h with
  | [a, b, c], _ => exact ⟨a, b, c, rfl⟩

theorem w_mendHalf (x : Wd) (A : Option Addr) (b o c : Nat) (steps : Int) (l : List Bool) (A7 : Option Addr) (b7 o7 c7 : Nat) (w : World) (hbl : BL w A7 b7 o7 l) (hlm : l.length ≤ maxLen) (hm : x.log.length ≤ maxLen) (hcap : x.log.length ≤ c) (hr : RL w A b o x.log) : RetW Try.prog 103 [x.val A c, .int .i64 steps, .slice A7 l.length c7] w (halfOf x steps l).1 [.int .i64 (halfOf x steps l).2] := by
 refine enter Try.func103 rfl Try.ntmps103 rfl SF.top trivial ?_
 refine sR ?_
 refine WL.eff (E.box rfl rfl rfl) rfl (fun b1 => ?_)
 refine WL.eff (E.alloc Try.zeroValue54 rfl rfl) rfl (fun b2 => ?_)
 refine pA rfl rfl ?_
 refine nN ?_
 refine WC.seq ?_
 refine sR ?_
 refine pV (Y.loadAN wd_54 rfl m1 (r := x.cl A c) rfl) rfl ?_
 refine WL.eff (E.retW ((crashOf x).1) [.int .i64 (crashOf x).2] Try.call94 rfl (fun _ w s => w_scanCrash x A b o c w hm hcap (hr.below s.low)) rfl) rfl (fun i => ?_)
 refine pM rfl rfl ?_
 refine pP (Y.extract rfl rfl) rfl ?_
 refine pP (Y.extract rfl rfl) rfl ?_
 refine WL.eff (E.alloc Try.zeroValue54 rfl rfl) rfl (fun b3 => ?_)
 refine WL.eff (E.store Try.sizeOf54 rfl rfl rfl rfl rfl u0 rfl rfl) rfl (fun _ => ?_)
 refine pA rfl rfl ?_
 refine nN ?_
 refine sR ?_
 refine pM rfl rfl ?_
 refine pP (Y.neq rfl rfl) rfl ?_
 refine nN ?_
 refine WC.cond rfl (fun h22 => ?_) (fun h22 => ?_)
 refine sR ?_
 refine pP (Y.build rfl (bf_54 )) rfl ?_
 refine pM rfl rfl ?_
 refine WL.eff (E.store Try.sizeOf54 rfl rfl rfl rfl rfl u1 rfl rfl) rfl (fun _ => ?_)
 refine pA rfl rfl ?_
 refine nN ?_
 refine WC.ret ?_
 refine WQ.thenRet ?_
 refine WQ.done Try.results103 (RVs.cons (RV.cell wd_54 rfl m1 rfl) (RVs.cons (RV.tmp rfl) RVs.nil)) (fun a w s => ?_)
 · have hne0 : worldErr x ≠ 0 := by intro hh; have h22 := h22; unfold crashOf at h22; rw [if_pos hh] at h22; simp at h22
   rw [half_err hne0, show crashOf x = (Wd.zero, worldErr x) by unfold crashOf; rw [if_neg hne0]]
   exact ⟨(none, 0), rfl, s.low, own_nil _ _ _ _⟩
 refine WC.skip' ?_
 refine WQ.next ?_
 refine WC.seq ?_
 refine WC.seq ?_
 have h0 : worldErr x = 0 := by
   have h22 := h22
   unfold crashOf at h22
   by_cases hh : worldErr x = 0
   · exact hh
   · rw [if_neg hh] at h22; simp at h22; exact absurd h22 hh
 refine WC.region ?_
 refine pM rfl rfl ?_
 refine pP (Y.lss rfl rfl) rfl ?_
 refine nN ?_
 refine WC.cond rfl (fun h26 => ?_) (fun h26 => ?_)
 refine sR ?_
 refine pP (Y.build rfl (bf_54 )) rfl ?_
 refine WL.eff (E.store Try.sizeOf54 rfl rfl rfl rfl rfl u1 rfl rfl) rfl (fun _ => ?_)
 refine pA rfl rfl ?_
 refine nN ?_
 refine WC.ret ?_
 refine WQ.thenRet ?_
 refine WQ.done Try.results103 (RVs.cons (RV.cell wd_54 rfl m1 rfl) (RVs.cons (RV.tmp rfl) RVs.nil)) (fun a w s => ?_)
 · rw [half_neg h0 (by have h26 := h26; simpa using h26) l]
   exact ⟨(none, 0), rfl, s.low, own_nil _ _ _ _⟩
 refine WC.skip' ?_
 refine WQ.next ?_
 refine WC.seq ?_
 refine sR ?_
 refine pM rfl rfl ?_
 refine pP (Y.len Try.underlying89 rfl) rfl ?_
 refine pP (Y.neq rfl rfl) rfl ?_
 refine nN ?_
 refine WC.cond rfl (fun h30 => ?_) (fun h30 => ?_)
 refine sR ?_
 refine pP (Y.build rfl (bf_54 )) rfl ?_
 refine WL.eff (E.store Try.sizeOf54 rfl rfl rfl rfl rfl u1 rfl rfl) rfl (fun _ => ?_)
 refine pA rfl rfl ?_
 refine nN ?_
 refine WC.ret ?_
 refine WQ.thenRet ?_
 refine WQ.done Try.results103 (RVs.cons (RV.cell wd_54 rfl m1 rfl) (RVs.cons (RV.tmp rfl) RVs.nil)) (fun a w s => ?_)
 · rw [half_len h0 (by have h26 := h26; simpa using h26) (by have h30 := h30; simp at h30; omega)]
   exact ⟨(none, 0), rfl, s.low, own_nil _ _ _ _⟩
 refine WC.skip' ?_
 refine WQ.next ?_
 refine WC.seq ?_
 obtain ⟨a0, b0, c0, rfl⟩ := three_of (l := l) (by have h30 := h30; simp at h30; omega)
 refine WC.le (nil_sep w.heap.size 3 1 _) ?_
 refine WC.region ?_
 refine pA rfl rfl ?_
 refine nN ?_
 refine WC.seq ?_
 refine sR ?_
 refine pM rfl rfl ?_
 refine pP (Y.len Try.underlying89 rfl) rfl ?_
 refine pM rfl rfl ?_
 refine nN ?_
 refine WC.block ?_
 refine WC.loop (ι := Nat × Option Addr × Nat) (fun k => [(0, x.val A c), (1, .int .i64 steps), (3, .pointer (some ⟨b1, 0, none⟩)), (6, .pointer (some ⟨b2, 0, none⟩)), (10, .slice k.2.1 (trueIx [a0, b0, c0] k.1).length k.2.2), (32, .slice A7 [a0, b0, c0].length c7), (33, .int .i64 3), (34, .int .i64 k.1)]) (fun k => [(b3, (crashOf x).1.cl i.1 i.2, 54), (b2, Wd.zero.cl none 0, 54), (b1, x.cl A c, 54)]) (fun k => (SF.own w.heap.size 3 1 (.slice k.2.1 (trueIx [a0, b0, c0] k.1).length k.2.2) (trueIx [a0, b0, c0] k.1).length (ints (trueIx [a0, b0, c0] k.1))).sep ((SF.own w.heap.size 34 8 (.slice i.1 (crashOf x).1.log.length i.2) (crashOf x).1.log.length (flat (crashOf x).1.log)).sep SF.top)) (fun k => k.1 ≤ 3) (fun k => 3 - k.1) (0, none, 0) (Nat.zero_le _) (fun a w s => s.weak (by repeat (first | exact sub_nil _ | refine sub_cons rfl ?_))) (fun k hk => ?_)
 obtain ⟨m, q⟩ := k
 dsimp only at hk ⊢
 refine sR ?_
 refine pP (Y.lss rfl rfl) rfl ?_
 refine nN ?_
 refine WC.seq ?_
 refine WC.cond rfl (fun h35 => ?_) (fun h35 => ?_)
 refine WC.skip' ?_
 refine WQ.next ?_
 refine WC.seq ?_
 refine WC.block ?_
 refine WC.seq ?_
 have hm3 : m < 3 := by have h35 := h35; simp at h35; omega
 obtain ⟨v, hv⟩ := get_of_lt (l := [a0, b0, c0]) (k := m) hm3
 have hAx := hbl.addr hv
 obtain ⟨hx3, _⟩ := trueIx_bnd (l := [a0, b0, c0]) (k := m)
 obtain ⟨i0, hi0, hz0, hz1, hz2⟩ := info_parts int_info
 refine WC.region ?_
 refine pM rfl rfl ?_
 refine pP (Y.ixSlA (A := A7) (b := b7) (o := o7) Try.underlying89 Try.sizeOf4 rfl rfl hAx (nat0 _) (get_ltI hv)) rfl ?_
 refine pV (Y.loadc fl_4 rfl (v := .bool v) (fun a w s => by have := (hbl.below s.low).cell m v hv 0 _ rfl; simpa using this)) rfl ?_
 refine pA rfl rfl ?_
 refine pA rfl rfl ?_
 refine nN ?_
 refine sR ?_
 refine pM rfl rfl ?_
 refine nN ?_
 refine WC.cond rfl (fun h39 => ?_) (fun h39 => ?_)
 refine WC.region ?_
 refine pM rfl rfl ?_
 refine pM rfl rfl ?_
 refine WL.eff (E.buildSlice (bs_64_1 _) rfl rfl) rfl (fun b4 => ?_)
 refine WL.eff (E.appendG Try.underlying64 hi0 hz0 hz1 hz2 rfl (by decide) rfl rfl rfl m0 rfl rfl (by unfold maxLen; omega) (by omega) rfl) rfl (fun i => ?_)
 refine pA rfl rfl ?_
 refine WL.nil ?_
 refine WQ.blockEnd ?_
 refine WQ.next ?_
 refine WC.region ?_
 refine pP (Y.add rfl rfl (i64_in (by omega) (by omega))) rfl ?_
 refine pM rfl rfl ?_
 refine WL.nil ?_
 · have e1 : (trueIx [a0, b0, c0] (m + 1)).length = (trueIx [a0, b0, c0] m).length + 1 := by rw [trueIx_step hv, if_pos h39]; simp
   have e2 : ints (trueIx [a0, b0, c0] (m + 1)) = ints (trueIx [a0, b0, c0] m) ++ [.int .i64 (m : Int)] := by rw [trueIx_step hv, if_pos h39]; simp [ints]
   refine fun a w s => ⟨(m + 1, i), by show m + 1 ≤ 3; omega, by show 3 - (m + 1) < 3 - m; omega, ?_⟩
   try dsimp only
   rw [e1, e2]
   exact (s.sub (Hsub.of_sub (List.sublist_cons_self _ _))).weak (by repeat (first | exact sub_nil _ | refine sub_cons rfl ?_))
 refine WC.skip' ?_
 refine WQ.blockEnd ?_
 refine WQ.next ?_
 refine WC.region ?_
 refine pP (Y.add rfl rfl (i64_in (by omega) (by omega))) rfl ?_
 refine pM rfl rfl ?_
 refine WL.nil ?_
 · refine fun a w s => ⟨(m + 1, q), by show m + 1 ≤ 3; omega, by show 3 - (m + 1) < 3 - m; omega, ?_⟩
   try dsimp only
   rw [trueIx_step hv, if_neg (by rw [h39]; simp)]
   exact s.weak (by repeat (first | exact sub_nil _ | refine sub_cons rfl ?_))
 refine WC.exit ?_
 refine WQ.thenExit ?_
 refine WQ.thenExit ?_
 refine WQ.blockExit ?_
 refine WQ.next ?_
 refine WC.seq ?_
 have hm3 : m = 3 := by have h35 := h35; simp at h35; omega
 subst hm3
 obtain ⟨hx3, hxb⟩ := trueIx_bnd (l := [a0, b0, c0]) (k := 3)
 refine WC.region ?_
 refine pV (Y.loadAN wd_54 rfl m2 (r := x.cl A c) rfl) rfl ?_
 refine pM rfl rfl ?_
 refine pM rfl rfl ?_
 refine WL.eff (E.retW ((mendOf x steps a0 b0 c0).1) [.int .i64 (mendOf x steps a0 b0 c0).2.1, .int .i64 (mendOf x steps a0 b0 c0).2.2] Try.call134 rfl (fun _ w s => (by have hh := w_mendMend x A b o c steps (trueIx [a0, b0, c0] 3) q.1 (gOf q.1) q.2 w hm hcap (hr.below s.low) hx3 (fun p hp => by have := hxb p hp; omega) (own_IL rfl s.fact.1); rw [mendX_of (x := x) (s := steps) (a := a0) (b := b0) (c := c0) (xs := (trueIx [a0, b0, c0] 3)) rfl] at hh; exact hh)) rfl) rfl (fun i9 => ?_)
 refine pM rfl rfl ?_
 refine pP (Y.extract rfl rfl) rfl ?_
 refine pP (Y.extract rfl rfl) rfl ?_
 refine pP (Y.extract rfl rfl) rfl ?_
 refine WL.eff (E.alloc Try.zeroValue54 rfl rfl) rfl (fun b5 => ?_)
 refine WL.eff (E.store Try.sizeOf54 rfl rfl rfl rfl rfl u0 rfl rfl) rfl (fun _ => ?_)
 refine pA rfl rfl ?_
 refine pA rfl rfl ?_
 refine nN ?_
 refine sR ?_
 refine pV (Y.loadA wd_54 rfl m0 rfl) rfl ?_
 refine pM rfl rfl ?_
 refine WL.eff (E.store Try.sizeOf54 rfl rfl rfl rfl rfl u2 rfl rfl) rfl (fun _ => ?_)
 refine pA rfl rfl ?_
 refine nN ?_
 refine WC.ret ?_
 refine WQ.done Try.results103 (RVs.cons (RV.cell wd_54 rfl m2 rfl) (RVs.cons (RV.tmp rfl) RVs.nil)) (fun a w s => ?_)
 · rw [half_is h0 (by have h26 := h26; simpa using h26) a0 b0 c0]
   exact ⟨i9, rfl, s.low, s.fact.1⟩

theorem w_refMendHalf (x : Wd) (A : Option Addr) (b o c : Nat) (steps : Int) (l : List Bool) (A7 : Option Addr) (b7 o7 c7 : Nat) (w : World) (hbl : BL w A7 b7 o7 l) (hlm : l.length ≤ maxLen) (hm : x.log.length ≤ maxLen) (hcap : x.log.length ≤ c) (hr : RL w A b o x.log) : RetW Try.prog 104 [x.val A c, .int .i64 steps, .slice A7 l.length c7] w (halfOf x steps l).1 [.int .i64 (halfOf x steps l).2] := by
 refine enter Try.func104 rfl Try.ntmps104 rfl SF.top trivial ?_
 refine sR ?_
 refine WL.eff (E.box rfl rfl rfl) rfl (fun b1 => ?_)
 refine WL.eff (E.alloc Try.zeroValue54 rfl rfl) rfl (fun b2 => ?_)
 refine pA rfl rfl ?_
 refine nN ?_
 refine WC.seq ?_
 refine sR ?_
 refine pV (Y.loadAN wd_54 rfl m1 (r := x.cl A c) rfl) rfl ?_
 refine WL.eff (E.call Try.call63 rfl (fun _ w s => w_worldError x A b o c w hm hcap (hr.below s.low)) rfl) rfl (fun _ => ?_)
 refine pA rfl rfl ?_
 refine nN ?_
 refine sR ?_
 refine pM rfl rfl ?_
 refine pP (Y.neq rfl rfl) rfl ?_
 refine nN ?_
 refine WC.cond rfl (fun h15 => ?_) (fun h15 => ?_)
 refine sR ?_
 refine pP (Y.build rfl (bf_54 )) rfl ?_
 refine pM rfl rfl ?_
 refine WL.eff (E.store Try.sizeOf54 rfl rfl rfl rfl rfl u0 rfl rfl) rfl (fun _ => ?_)
 refine pA rfl rfl ?_
 refine nN ?_
 refine WC.ret ?_
 refine WQ.thenRet ?_
 refine WQ.done Try.results104 (RVs.cons (RV.cell wd_54 rfl m0 rfl) (RVs.cons (RV.tmp rfl) RVs.nil)) (fun a w s => ?_)
 · rw [half_err (x := x) (by have h15 := h15; simpa using h15)]
   exact ⟨(none, 0), rfl, s.low, own_nil _ _ _ _⟩
 refine WC.skip' ?_
 refine WQ.next ?_
 refine WC.seq ?_
 refine WC.seq ?_
 have h0 : worldErr x = 0 := by have h15 := h15; simpa using h15
 refine WC.region ?_
 refine pM rfl rfl ?_
 refine pP (Y.lss rfl rfl) rfl ?_
 refine nN ?_
 refine WC.cond rfl (fun h19 => ?_) (fun h19 => ?_)
 refine sR ?_
 refine pP (Y.build rfl (bf_54 )) rfl ?_
 refine WL.eff (E.store Try.sizeOf54 rfl rfl rfl rfl rfl u0 rfl rfl) rfl (fun _ => ?_)
 refine pA rfl rfl ?_
 refine nN ?_
 refine WC.ret ?_
 refine WQ.thenRet ?_
 refine WQ.done Try.results104 (RVs.cons (RV.cell wd_54 rfl m0 rfl) (RVs.cons (RV.tmp rfl) RVs.nil)) (fun a w s => ?_)
 · rw [half_neg h0 (by have h19 := h19; simpa using h19) l]
   exact ⟨(none, 0), rfl, s.low, own_nil _ _ _ _⟩
 refine WC.skip' ?_
 refine WQ.next ?_
 refine WC.seq ?_
 refine sR ?_
 refine pM rfl rfl ?_
 refine pP (Y.len Try.underlying89 rfl) rfl ?_
 refine pP (Y.neq rfl rfl) rfl ?_
 refine nN ?_
 refine WC.cond rfl (fun h23 => ?_) (fun h23 => ?_)
 refine sR ?_
 refine pP (Y.build rfl (bf_54 )) rfl ?_
 refine WL.eff (E.store Try.sizeOf54 rfl rfl rfl rfl rfl u0 rfl rfl) rfl (fun _ => ?_)
 refine pA rfl rfl ?_
 refine nN ?_
 refine WC.ret ?_
 refine WQ.thenRet ?_
 refine WQ.done Try.results104 (RVs.cons (RV.cell wd_54 rfl m0 rfl) (RVs.cons (RV.tmp rfl) RVs.nil)) (fun a w s => ?_)
 · rw [half_len h0 (by have h19 := h19; simpa using h19) (by have h23 := h23; simp at h23; omega)]
   exact ⟨(none, 0), rfl, s.low, own_nil _ _ _ _⟩
 refine WC.skip' ?_
 refine WQ.next ?_
 obtain ⟨a0, b0, c0, rfl⟩ := three_of (l := l) (by have h23 := h23; simp at h23; omega)
 have hAx : A7 = some ⟨b7, o7, none⟩ := hbl.addr (i := 0) (r := a0) rfl
 refine WC.cut (ι := (Option Addr × Nat) × Nat) (fun k => [(6, .pointer (some ⟨b2, 0, none⟩)), (9, .pointer (some ⟨k.2, 0, none⟩)), (11, .int .i64 (mendOf x steps a0 b0 c0).2.2)]) (fun k => [(k.2, (mendOf x steps a0 b0 c0).1.cl k.1.1 k.1.2, 54), (b2, Wd.zero.cl none 0, 54), (b1, x.cl A c, 54)]) (fun k => (SF.own w.heap.size 34 8 (.slice k.1.1 (mendOf x steps a0 b0 c0).1.log.length k.1.2) (mendOf x steps a0 b0 c0).1.log.length (flat (mendOf x steps a0 b0 c0).1.log)).sep SF.top) ?_ ?_
 refine WC.draw2 [(0, .q true), (1, .q false), (2, .q false), (3, .q false), (4, .q true), (5, .q false), (6, .q false), (7, .q true), (8, .q false), (9, .q false), (10, .q true), (11, .q false), (12, .s false), (13, .q false), (14, .q false), (15, .q false), (16, .q false), (17, .s false), (18, .s true), (19, .q false), (20, .q false)] mixed ?_
 refine AD.quiet (i := 0) (imp := true) rfl (by kernel_rfl) (QS.val (Y.loadAN wd_54 rfl (by repeat (first | exact List.Mem.head _ | apply List.Mem.tail)) (r := x.cl A c) rfl) rfl rfl) rfl rfl rfl ?_
 refine AD.quiet (i := 1) (imp := false) rfl (by kernel_rfl) (QS.pure (Y.move rfl) rfl rfl) rfl rfl rfl ?_
 refine AD.quiet (i := 2) (imp := false) rfl (by kernel_rfl) (QS.pure (Y.move rfl) rfl rfl) rfl rfl rfl ?_
 refine AD.quiet (i := 3) (imp := false) rfl (by kernel_rfl) (QS.pure (Y.ixSlA (A := A7) (b := b7) (o := o7) Try.underlying89 Try.sizeOf4 rfl rfl hAx (by omega) (by show _ < (3 : Int); omega)) rfl rfl) rfl rfl rfl ?_
 refine AD.quiet (i := 4) (imp := true) rfl (by kernel_rfl) (QS.val (Y.loadc fl_4 rfl (v := .bool a0) (fun a w s => by have := (hbl.below s.low).cell 0 a0 rfl 0 _ rfl; simpa using this)) rfl rfl) rfl rfl rfl ?_
 refine AD.quiet (i := 5) (imp := false) rfl (by kernel_rfl) (QS.pure (Y.move rfl) rfl rfl) rfl rfl rfl ?_
 refine AD.quiet (i := 6) (imp := false) rfl (by kernel_rfl) (QS.pure (Y.ixSlA (A := A7) (b := b7) (o := o7) Try.underlying89 Try.sizeOf4 rfl rfl hAx (by omega) (by show _ < (3 : Int); omega)) rfl rfl) rfl rfl rfl ?_
 refine AD.quiet (i := 7) (imp := true) rfl (by kernel_rfl) (QS.val (Y.loadc fl_4 rfl (v := .bool b0) (fun a w s => by have := (hbl.below s.low).cell 1 b0 rfl 0 _ rfl; simpa using this)) rfl rfl) rfl rfl rfl ?_
 refine AD.quiet (i := 8) (imp := false) rfl (by kernel_rfl) (QS.pure (Y.move rfl) rfl rfl) rfl rfl rfl ?_
 refine AD.quiet (i := 9) (imp := false) rfl (by kernel_rfl) (QS.pure (Y.ixSlA (A := A7) (b := b7) (o := o7) Try.underlying89 Try.sizeOf4 rfl rfl hAx (by omega) (by show _ < (3 : Int); omega)) rfl rfl) rfl rfl rfl ?_
 refine AD.quiet (i := 10) (imp := true) rfl (by kernel_rfl) (QS.val (Y.loadc fl_4 rfl (v := .bool c0) (fun a w s => by have := (hbl.below s.low).cell 2 c0 rfl 0 _ rfl; simpa using this)) rfl rfl) rfl rfl rfl ?_
 refine AD.quiet (i := 11) (imp := false) rfl (by kernel_rfl) (QS.pure (Y.build rfl (bf_145_0_1_2 _ _ _)) rfl rfl) rfl rfl rfl ?_
 refine AD.two (i := 12) (j := 17) (by kernel_rfl) rfl rfl (WS.free rfl (E.retW ((mendOf x steps a0 b0 c0).1) [.int .i64 (mendOf x steps a0 b0 c0).2.1, .int .i64 (mendOf x steps a0 b0 c0).2.2] Try.call149 rfl (fun _ w s => w_mended x A b o c steps a0 b0 c0 w hm hcap (hr.below s.low)) rfl)) (fun _ => ext_newN rfl) (WS.free rfl (E.alloc Try.zeroValue54 rfl rfl)) (fun _ => ext_new rfl) (fun i => ?_) (fun b3 => ?_)
 refine AD.list [(13, .q false), (14, .q false), (15, .q false), (16, .q false), (17, .s false), (18, .s true), (19, .q false), (20, .q false)] (by kernel_rfl) ?_
 refine dP (Y.move rfl) rfl rfl ?_
 refine dP (Y.extract rfl rfl) rfl rfl ?_
 refine dP (Y.extract rfl rfl) rfl rfl ?_
 refine dP (Y.extract rfl rfl) rfl rfl ?_
 refine WDm.spec (WS.free rfl (E.alloc Try.zeroValue54 rfl rfl)) (fun _ => ext_new rfl) (fun b3 => ?_)
 refine WDm.spec (WS.free rfl (E.store Try.sizeOf54 rfl rfl rfl rfl rfl u0 rfl rfl)) (fun _ => sub_refl _) (fun _ => ?_)
 refine dP (Y.assign rfl) rfl rfl ?_
 refine dP (Y.assign rfl) rfl rfl ?_
 refine WDm.nil (WQ.and ?_)
 · exact fun a w s => ⟨rfl, (i, b3), s.weak (by repeat (first | exact sub_nil _ | refine sub_cons rfl ?_))⟩
 refine AD.list [(12, .s false), (13, .q false), (14, .q false), (15, .q false), (16, .q false), (18, .s true), (19, .q false), (20, .q false)] (by kernel_rfl) ?_
 refine WDm.spec (WS.free rfl (E.retW ((mendOf x steps a0 b0 c0).1) [.int .i64 (mendOf x steps a0 b0 c0).2.1, .int .i64 (mendOf x steps a0 b0 c0).2.2] Try.call149 rfl (fun _ w s => w_mended x A b o c steps a0 b0 c0 w hm hcap (hr.below s.low)) rfl)) (fun _ => ext_newN rfl) (fun i => ?_)
 refine dP (Y.move rfl) rfl rfl ?_
 refine dP (Y.extract rfl rfl) rfl rfl ?_
 refine dP (Y.extract rfl rfl) rfl rfl ?_
 refine dP (Y.extract rfl rfl) rfl rfl ?_
 refine WDm.spec (WS.free rfl (E.store Try.sizeOf54 rfl rfl rfl rfl rfl u0 rfl rfl)) (fun _ => sub_refl _) (fun _ => ?_)
 refine dP (Y.assign rfl) rfl rfl ?_
 refine dP (Y.assign rfl) rfl rfl ?_
 refine WDm.nil (WQ.and ?_)
 · exact fun a w s => ⟨rfl, (i, b3), s.weak (by repeat (first | exact sub_nil _ | refine sub_cons rfl ?_))⟩
 rintro ⟨i, b3⟩
 dsimp only
 refine sR ?_
 refine pV (Y.loadAN wd_54 rfl m0 (r := (mendOf x steps a0 b0 c0).1.cl i.1 i.2) rfl) rfl ?_
 refine pM rfl rfl ?_
 refine WL.eff (E.store Try.sizeOf54 rfl rfl rfl rfl rfl u1 rfl rfl) rfl (fun _ => ?_)
 refine pA rfl rfl ?_
 refine nN ?_
 refine WC.ret ?_
 refine WQ.done Try.results104 (RVs.cons (RV.cell wd_54 rfl m1 rfl) (RVs.cons (RV.tmp rfl) RVs.nil)) (fun a w s => ?_)
 · rw [half_is h0 (by have h19 := h19; simpa using h19) a0 b0 c0]
   exact ⟨i, rfl, s.low, s.fact.1⟩
end Go.Proofs.Ytdbcimadjmdffaa
