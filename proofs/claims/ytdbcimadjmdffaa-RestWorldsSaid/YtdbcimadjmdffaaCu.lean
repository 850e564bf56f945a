/- Mend: the document's; All. No condition. -/
import Derived.Test.YtdbcimadjmdffaaCt
import Derived.Test.YtdbcimadjmdffaaMn
import Derived.Test.YtdbcimadjmdffaaCs
import Derived.Test.YtdbcimadjmdffaaBz
set_option maxRecDepth 100000
set_option linter.unusedVariables false
set_option linter.unusedSimpArgs false
set_option linter.unusedSectionVars false
set_option maxHeartbeats 4000000
namespace Go.Proofs.Ytdbcimadjmdffaa
open Go.RowKit Go.Joins
theorem next_at {h : List R} {r : R} (hn : nextH h = some r) : r.at (lastN h r.txn) = r := by
  unfold nextH at hn
  split at hn
  · obtain rfl := Option.some.inj hn
    rfl
  · split at hn
    · cases hn
    · obtain rfl := Option.some.inj hn
      exact undo_at h (bestH h)
theorem next_more {x : Wd} {h : List R} {r : R} (hn : nextH h = some r) : (x.at h).more (r.at (lastN (x.at h).h r.txn)) = x.at (r :: h) := by
  rw [at_h, next_at hn]
  simp [Wd.at, Wd.more]
/-- Pages laid so far. -/
def lay3 (a b c : Bool) (q d : P3) (k : Nat) : P3 :=
  if k = 0 then d else if k = 1 then layIf a q d 0 else if k = 2 then layIf b q (layIf a q d 0) 1 else layIf c q (layIf b q (layIf a q d 0) 1) 2
def sel3 (a b c : Bool) (k : Nat) : Bool := if k = 0 then a else if k = 1 then b else c
theorem lay3_step {a b c : Bool} {q d : P3} {k : Nat} (hk : k < 3) : lay3 a b c q d (k + 1) = if sel3 a b c k then (lay3 a b c q d k).set k (q.get k) else lay3 a b c q d k := by
  have h1 : k = 0 ∨ k = 1 ∨ k = 2 := by omega
  rcases h1 with rfl | rfl | rfl <;> rfl
theorem sel3_at {a b c : Bool} {k : Nat} (hk : k < 3) : nth [.bool a, .bool b, .bool c] (0 + (k : Int).toNat * 1) = some (.bool (sel3 a b c k)) := by
  have h1 : k = 0 ∨ k = 1 ∨ k = 2 := by omega
  rcases h1 with rfl | rfl | rfl <;> rfl
def Wd.laid3 (x : Wd) (a b c : Bool) (h : List R) (k : Nat) : Wd := ⟨lay3 a b c (pagesOf h) x.disk k, h.reverse, h.length⟩
theorem cl_same (x y : Wd) (A : Option Addr) (c : Nat) (h : x = y) : x.cl A c = y.cl A c := by rw [h]

theorem w_mended (x : Wd) (A : Option Addr) (b o c : Nat) (steps : Int) (a0 b0 c0 : Bool) (w : World) (hm : x.log.length ≤ maxLen) (hcap : x.log.length ≤ c) (hr : RL w A b o x.log) : RetW Try.prog 149 [x.val A c, .int .i64 steps, .agg #[.bool a0, .bool b0, .bool c0]] w (mendOf x steps a0 b0 c0).1 [.int .i64 (mendOf x steps a0 b0 c0).2.1, .int .i64 (mendOf x steps a0 b0 c0).2.2] := by
 refine enter Try.func149 rfl Try.ntmps149 rfl SF.top trivial ?_
 refine sR ?_
 refine WL.eff (E.box rfl rfl rfl) rfl (fun b1 => ?_)
 refine WL.eff (E.box rfl rfl rfl) rfl (fun b2 => ?_)
 refine WL.eff (E.alloc Try.zeroValue54 rfl rfl) rfl (fun b3 => ?_)
 refine pA rfl rfl ?_
 refine pA rfl rfl ?_
 refine nN ?_
 refine sR ?_
 refine pV (Y.loadAN wd_54 rfl m2 (r := x.cl A c) rfl) rfl ?_
 refine WL.eff (E.retW ((crashOf x).1) [.int .i64 (crashOf x).2] Try.call96 rfl (fun _ w s => w_crashOf x A b o c w hm hcap (hr.below s.low)) rfl) rfl (fun i => ?_)
 refine pM rfl rfl ?_
 refine pP (Y.extract rfl rfl) rfl ?_
 refine pP (Y.extract rfl rfl) rfl ?_
 refine WL.eff (E.alloc Try.zeroValue54 rfl rfl) rfl (fun b4 => ?_)
 refine WL.eff (E.store Try.sizeOf54 rfl rfl rfl rfl rfl u0 rfl rfl) rfl (fun _ => ?_)
 refine pA rfl rfl ?_
 refine nN ?_
 refine WC.seq ?_
 refine sR ?_
 refine pM rfl rfl ?_
 refine pP (Y.neq rfl rfl) rfl ?_
 refine nN ?_
 refine WC.cond rfl (fun h21 => ?_) (fun h21 => ?_)
 refine sR ?_
 refine pP (Y.build rfl (bf_54 )) rfl ?_
 refine pM rfl rfl ?_
 refine WL.eff (E.store Try.sizeOf54 rfl rfl rfl rfl rfl u1 rfl rfl) rfl (fun _ => ?_)
 refine pA rfl rfl ?_
 refine pA rfl rfl ?_
 refine nN ?_
 refine WC.ret ?_
 refine WQ.thenRet ?_
 refine WQ.done Try.results149 (RVs.cons (RV.cell wd_54 rfl m1 rfl) (RVs.cons (RV.tmp rfl) (RVs.cons (RV.tmp rfl) RVs.nil))) (fun a w s => ?_)
 · have hne0 : worldErr x ≠ 0 := by intro hh; have h21 := h21; unfold crashOf at h21; rw [if_pos hh] at h21; simp at h21
   have ecr : crashOf x = (Wd.zero, worldErr x) := by unfold crashOf; rw [if_neg hne0]
   have e : mendOf x steps a0 b0 c0 = (Wd.zero, 0, worldErr x) := by unfold mendOf; rw [if_neg hne0]
   rw [e, ecr]
   exact ⟨(none, 0), rfl, s.low, own_nil _ _ _ _⟩
 refine WC.skip' ?_
 refine WQ.next ?_
 refine WC.seq ?_
 have h0 : worldErr x = 0 := by
   have h21 := h21
   unfold crashOf at h21
   by_cases hh : worldErr x = 0
   · exact hh
   · rw [if_neg hh] at h21; simp at h21; exact absurd h21 hh
 have hcr : crashOf x = (x.cut, 0) := by unfold crashOf; rw [if_pos h0]
 rw [hcr]
 try dsimp only
 have hcl := cut_len h0
 have hw0 := cut_right h0
 obtain ⟨hl0, h60, hR, hsf, _⟩ := world_right hw0
 refine WC.region ?_
 refine pA rfl rfl ?_
 refine nN ?_
 refine WC.seq ?_
 refine WC.block ?_
 have ex : x.cut.at x.cut.h = x.cut := at_self _
 refine WC.loop (ι := (List R × Nat) × (Option Addr × Nat)) (fun k => [(1, .int .i64 steps), (3, .pointer (some ⟨b1, 0, none⟩)), (5, .pointer (some ⟨b2, 0, none⟩)), (6, .pointer (some ⟨b3, 0, none⟩)), (9, .pointer (some ⟨b4, 0, none⟩)), (11, .int .i64 k.1.2)]) (fun k => [(b4, (x.cut.at k.1.1).cl k.2.1 k.2.2, 54), (b3, Wd.zero.cl none 0, 54), (b2, [.bool a0, .bool b0, .bool c0], 145), (b1, x.cl A c, 54)]) (fun k => (SF.own w.heap.size 34 8 (.slice k.2.1 (x.cut.at k.1.1).log.length k.2.2) (x.cut.at k.1.1).log.length (flat (x.cut.at k.1.1).log)).sep SF.top) (fun k => Right k.1.1 ∧ k.1.1.length ≤ 60 ∧ k.1.2 ≤ k.1.1.length ∧ mendGo (61 - x.cut.log.length) steps 0 x.cut.h = mendGo (61 - k.1.1.length) steps k.1.2 k.1.1) (fun k => 61 - k.1.1.length) ((x.cut.h, 0), (i.1, i.2)) ⟨hR, by rw [hlen]; exact h60, Nat.zero_le _, by rw [hlen]⟩ (fun a w s => by dsimp only; rw [ex]; exact s.weak (by repeat (first | exact sub_nil _ | refine sub_cons rfl ?_))) (fun k hk => ?_)
 obtain ⟨⟨h, m⟩, A9, c9⟩ := k
 obtain ⟨hRh, hle, hmle, hgo⟩ := hk
 dsimp only at hRh hle hmle hgo ⊢
 have hal : (x.cut.at h).log.length = h.length := by simp [Wd.at]
 have har : (x.cut.at h).log.reverse = h := by simp [Wd.at]
 refine WC.seq ?_
 refine sR ?_
 refine pM rfl rfl ?_
 refine pM rfl rfl ?_
 refine pP (Y.neq rfl rfl) rfl ?_
 refine nN ?_
 refine WC.cond rfl (fun h26 => ?_) (fun h26 => ?_)
 refine WC.skip' ?_
 refine WQ.next ?_
 refine WC.block ?_
 refine WC.seq ?_
 have hne : (m : Int) ≠ steps := by have h26 := h26; simpa using h26
 refine WC.region ?_
 refine pP (Y.fieldAddr fa_54_1 rfl) rfl ?_
 refine pV (Y.load (v := (.slice A9 (x.cut.at h).log.length c9)) fl_39 rfl m0 rfl) rfl ?_
 refine WL.eff (E.call Try.call164 rfl (fun _ w s => (by have hh := w_refNext (x.cut.at h).log A9 (gOf A9) 0 c9 w (by omega) (own_RL s.fact.1) (by rw [har]; exact hRh); rw [har] at hh; exact hh)) rfl) rfl (fun _ => ?_)
 refine pM rfl rfl ?_
 refine pP (Y.extract rfl rfl) rfl ?_
 refine pP (Y.extract rfl rfl) rfl ?_
 refine WL.eff (E.alloc Try.zeroValue34 rfl rfl) rfl (fun b5 => ?_)
 refine WL.eff (E.store Try.sizeOf34 rfl rfl rfl rfl rfl u0 rfl rfl) rfl (fun _ => ?_)
 refine pA rfl rfl ?_
 refine nN ?_
 refine WC.seq ?_
 refine sR ?_
 refine pM rfl rfl ?_
 refine pP (Y.not rfl) rfl ?_
 refine nN ?_
 refine WC.cond rfl (fun h34 => ?_) (fun h34 => ?_)
 refine WC.exit ?_
 refine WQ.thenExit ?_
 refine WQ.blockPass rfl ?_
 refine WQ.thenExit ?_
 refine WQ.blockExit ?_
 refine WQ.next ?_
 refine WC.seq ?_
 refine WC.sub (Hsub.of_sub (List.sublist_cons_self _ _)) ?_
 have hs : (m : Int) = steps ∨ nextH h = none := by first | (right; exact nextR_none (by have h34 := h34; simpa using h34)) | (left; have h26 := h26; simpa using h26)
 refine WC.region ?_
 refine pP (Y.fieldAddr fa_54_1 rfl) rfl ?_
 refine pV (Y.load (v := (.slice A9 (x.cut.at h).log.length c9)) fl_39 rfl m0 rfl) rfl ?_
 refine pP (Y.len Try.underlying39 rfl) rfl ?_
 refine pP (Y.fieldAddr fa_54_2 rfl) rfl ?_
 refine WL.eff (E.store (cs := (x.cut.at h).cl A9 c9) (cs' := (x.laid3 a0 b0 c0 h 0).cl A9 c9) Try.sizeOf3 rfl rfl rfl rfl rfl u0 rfl (by rw [hal]; rfl)) rfl (fun _ => ?_)
 refine nN ?_
 refine WC.seq ?_
 refine sR ?_
 refine pA rfl rfl ?_
 refine nN ?_
 refine WC.block ?_
 refine WC.loop (ι := Nat) (fun j => [(1, .int .i64 steps), (3, .pointer (some ⟨b1, 0, none⟩)), (5, .pointer (some ⟨b2, 0, none⟩)), (6, .pointer (some ⟨b3, 0, none⟩)), (9, .pointer (some ⟨b4, 0, none⟩)), (11, .int .i64 m), (14, .int .i64 j)]) (fun j => [(b4, (x.laid3 a0 b0 c0 h j).cl A9 c9, 54), (b3, Wd.zero.cl none 0, 54), (b2, [.bool a0, .bool b0, .bool c0], 145), (b1, x.cl A c, 54)]) (fun _ => (SF.own w.heap.size 34 8 (.slice A9 (x.cut.at h).log.length c9) (x.cut.at h).log.length (flat (x.cut.at h).log)).sep SF.top) (fun j => j ≤ 3) (fun j => 3 - j) 0 (Nat.zero_le _) (fun a w s => s.weak (by repeat (first | exact sub_nil _ | refine sub_cons rfl ?_))) (fun j hj => ?_)
 refine WC.seq ?_
 refine sR ?_
 refine pM rfl rfl ?_
 refine pP (Y.lss rfl rfl) rfl ?_
 refine nN ?_
 refine WC.cond rfl (fun h46 => ?_) (fun h46 => ?_)
 refine WC.skip' ?_
 refine WQ.next ?_
 refine WC.seq ?_
 refine WC.block ?_
 refine WC.seq ?_
 have hj3 : j < 3 := by have h46 := h46; simp at h46; omega
 refine WC.region ?_
 refine pM rfl rfl ?_
 refine pP (Y.ixArr Try.underlying145 Try.sizeOf4 rfl rfl (by omega) (by omega)) rfl ?_
 refine pV (Y.loadN fl_4 rfl m2 (sel3_at hj3)) rfl ?_
 refine nN ?_
 refine WC.cond rfl (fun h51 => ?_) (fun h51 => ?_)
 refine WC.region ?_
 refine pM rfl rfl ?_
 refine pP (Y.fieldAddr fa_54_1 rfl) rfl ?_
 refine pV (Y.load (v := .slice A9 (x.laid3 a0 b0 c0 h j).log.length c9) fl_39 rfl m0 rfl) rfl ?_
 refine WL.eff (E.call Try.call123 rfl (fun _ w s => (by have hh := w_pages (x.cut.at h).log A9 (gOf A9) 0 c9 w (by omega) (own_RL s.fact.1) (by rw [← har] at hRh; exact hRh.inR.rev); rw [har] at hh; exact hh)) rfl) rfl (fun _ => ?_)
 refine pM rfl rfl ?_
 refine pP (Y.indexK rfl rfl (ix_pages _ (j : Int) (by omega))) rfl ?_
 refine pP (Y.fieldAddr fa_54_0 rfl) rfl ?_
 refine pP (Y.ixArr Try.underlying42 Try.sizeOf24 rfl rfl (by omega) (by omega)) rfl ?_
 refine WL.eff (E.storeP Try.sizeOf24 rfl rfl rfl rfl rfl u0 (by have := wd_len (x.laid3 a0 b0 c0 h j) A9 c9; omega) (disk_put (x.laid3 a0 b0 c0 h j) A9 c9 (j : Int) ((pagesOf h).get j) (by omega))) rfl (fun _ => ?_)
 refine WL.nil ?_
 refine WQ.blockEnd ?_
 refine WQ.next ?_
 refine WC.region ?_
 refine pM rfl rfl ?_
 refine pP (Y.add rfl rfl (i64_in (by omega) (by omega))) rfl ?_
 refine pA rfl rfl ?_
 refine WL.nil ?_
 · refine fun a w s => ⟨j + 1, by omega, by omega, ?_⟩
   have el : (x.laid3 a0 b0 c0 h (j + 1)) = ({ (x.laid3 a0 b0 c0 h j) with disk := (x.laid3 a0 b0 c0 h j).disk.set j ((pagesOf h).get j) } : Wd) := by
     unfold Wd.laid3
     rw [lay3_step hj3]
     rw [if_pos h51]
   try dsimp only
   rw [el]
   exact s.weak (by repeat (first | exact sub_nil _ | refine sub_cons rfl ?_))
 refine WC.skip' ?_
 refine WQ.blockEnd ?_
 refine WQ.next ?_
 refine WC.region ?_
 refine pM rfl rfl ?_
 refine pP (Y.add rfl rfl (i64_in (by omega) (by omega))) rfl ?_
 refine pA rfl rfl ?_
 refine WL.nil ?_
 · refine fun a w s => ⟨j + 1, by omega, by omega, ?_⟩
   have el : (x.laid3 a0 b0 c0 h (j + 1)) = (x.laid3 a0 b0 c0 h j) := by
     unfold Wd.laid3
     rw [lay3_step hj3]
     rw [if_neg (by rw [h51]; simp)]
   try dsimp only
   rw [el]
   exact s.weak (by repeat (first | exact sub_nil _ | refine sub_cons rfl ?_))
 refine WC.exit ?_
 refine WQ.thenExit ?_
 refine WQ.thenExit ?_
 refine WQ.blockExit ?_
 refine WQ.next ?_
 refine sR ?_
 refine pV (Y.loadAN wd_54 rfl m0 (r := (x.laid3 a0 b0 c0 h j).cl A9 c9) rfl) rfl ?_
 refine pM rfl rfl ?_
 refine WL.eff (E.store Try.sizeOf54 rfl rfl rfl rfl rfl u1 rfl rfl) rfl (fun _ => ?_)
 refine pA rfl rfl ?_
 refine pA rfl rfl ?_
 refine nN ?_
 refine WC.ret ?_
 refine WQ.done Try.results149 (RVs.cons (RV.cell wd_54 rfl m1 rfl) (RVs.cons (RV.tmp rfl) (RVs.cons (RV.tmp rfl) RVs.nil))) (fun a w s => ?_)
 · have hj3 : j = 3 := by have h46 := h46; simp at h46; omega
   subst hj3
   have e : mendOf x steps a0 b0 c0 = (x.laid3 a0 b0 c0 h 3, (m : Int), 0) := by
     unfold mendOf
     rw [if_pos h0, hgo, show 61 - h.length = (60 - h.length) + 1 by omega, mendGo_stop hs]
     rfl
   rw [e]
   exact ⟨(A9, c9), rfl, s.low, s.fact.1⟩
 refine WC.skip' ?_
 refine WQ.next ?_
 refine WC.seq ?_
 refine WC.seq ?_
 have hnx : nextH h = some (nextR h).1 := nextR_some (by have h34 := h34; simpa using h34)
 refine WC.region ?_
 refine pV (Y.loadAN wd_34 rfl m0 (r := (nextR h).1.cl) rfl) rfl ?_
 rcases Nat.lt_or_ge h.length 60 with hlt | hge
 refine WL.eff (E.putYes (A := A9) (c := c9) (r := (nextR h).1) (x.cut.at h) rfl (by omega) (Hsub.of_sub (List.sublist_cons_self _ _)) rfl rfl rfl) rfl (fun j => ?_)
 refine pP (Y.not rfl) rfl ?_
 refine nN ?_
 refine WC.condF rfl ?_
 refine WC.skip' ?_
 refine WQ.next ?_
 refine WC.region ?_
 refine pM rfl rfl ?_
 refine pP (Y.add rfl rfl (i64_in (by omega) (by omega))) rfl ?_
 refine pA rfl rfl ?_
 refine WL.nil ?_
 refine WQ.blockEnd ?_
 · refine fun a w s => ⟨(((nextR h).1 :: h, m + 1), (j.1, j.2)), ⟨next_right hRh (by omega) hnx, by simp; omega, by simp; omega, ?_⟩, by simp; omega, ?_⟩
   · dsimp only
     rw [hgo, show 61 - h.length = (60 - h.length) + 1 by omega, mendGo_step hne hnx, List.length_cons, show 61 - (h.length + 1) = 60 - h.length by omega]
   · dsimp only
     rw [← next_more hnx]
     exact s.weak (by repeat (first | exact sub_nil _ | refine sub_cons rfl ?_))
 refine WL.eff (E.putNo (A := A9) (c := c9) (r := (nextR h).1) (x.cut.at h) rfl (by omega) (Hsub.of_sub (List.sublist_cons_self _ _)) rfl rfl rfl) rfl (fun _ => ?_)
 refine pP (Y.not rfl) rfl ?_
 refine nN ?_
 refine WC.condT rfl ?_
 refine sR ?_
 refine pP (Y.build rfl (bf_54 )) rfl ?_
 refine WL.eff (E.store Try.sizeOf54 rfl rfl rfl rfl rfl u1 rfl rfl) rfl (fun _ => ?_)
 refine pA rfl rfl ?_
 refine pA rfl rfl ?_
 refine nN ?_
 refine WC.ret ?_
 refine WQ.thenRet ?_
 refine WQ.blockRet ?_
 refine WQ.thenRet ?_
 refine WQ.blockRet ?_
 refine WQ.thenRet ?_
 refine WQ.done Try.results149 (RVs.cons (RV.cell wd_54 rfl m1 rfl) (RVs.cons (RV.tmp rfl) (RVs.cons (RV.tmp rfl) RVs.nil))) (fun a w s => ?_)
 · have e : mendOf x steps a0 b0 c0 = (Wd.zero, 0, 2) := by
     unfold mendOf
     rw [if_pos h0, hgo, show 61 - h.length = 0 + 1 by omega, mendGo_step hne hnx]
     rfl
   rw [e]
   exact ⟨(none, 0), rfl, s.low, own_nil _ _ _ _⟩
 refine WC.exit ?_
 refine WQ.thenExit ?_
 refine WQ.thenExit ?_
 refine WQ.blockExit ?_
 refine WQ.next ?_
 refine WC.seq ?_
 have hs : (m : Int) = steps ∨ nextH h = none := by first | (right; exact nextR_none (by have h34 := h34; simpa using h34)) | (left; have h26 := h26; simpa using h26)
 refine WC.region ?_
 refine pP (Y.fieldAddr fa_54_1 rfl) rfl ?_
 refine pV (Y.load (v := (.slice A9 (x.cut.at h).log.length c9)) fl_39 rfl m0 rfl) rfl ?_
 refine pP (Y.len Try.underlying39 rfl) rfl ?_
 refine pP (Y.fieldAddr fa_54_2 rfl) rfl ?_
 refine WL.eff (E.store (cs := (x.cut.at h).cl A9 c9) (cs' := (x.laid3 a0 b0 c0 h 0).cl A9 c9) Try.sizeOf3 rfl rfl rfl rfl rfl u0 rfl (by rw [hal]; rfl)) rfl (fun _ => ?_)
 refine nN ?_
 refine WC.seq ?_
 refine sR ?_
 refine pA rfl rfl ?_
 refine nN ?_
 refine WC.block ?_
 refine WC.loop (ι := Nat) (fun j => [(1, .int .i64 steps), (3, .pointer (some ⟨b1, 0, none⟩)), (5, .pointer (some ⟨b2, 0, none⟩)), (6, .pointer (some ⟨b3, 0, none⟩)), (9, .pointer (some ⟨b4, 0, none⟩)), (11, .int .i64 m), (14, .int .i64 j)]) (fun j => [(b4, (x.laid3 a0 b0 c0 h j).cl A9 c9, 54), (b3, Wd.zero.cl none 0, 54), (b2, [.bool a0, .bool b0, .bool c0], 145), (b1, x.cl A c, 54)]) (fun _ => (SF.own w.heap.size 34 8 (.slice A9 (x.cut.at h).log.length c9) (x.cut.at h).log.length (flat (x.cut.at h).log)).sep SF.top) (fun j => j ≤ 3) (fun j => 3 - j) 0 (Nat.zero_le _) (fun a w s => s.weak (by repeat (first | exact sub_nil _ | refine sub_cons rfl ?_))) (fun j hj => ?_)
 refine WC.seq ?_
 refine sR ?_
 refine pM rfl rfl ?_
 refine pP (Y.lss rfl rfl) rfl ?_
 refine nN ?_
 refine WC.cond rfl (fun h46 => ?_) (fun h46 => ?_)
 refine WC.skip' ?_
 refine WQ.next ?_
 refine WC.seq ?_
 refine WC.block ?_
 refine WC.seq ?_
 have hj3 : j < 3 := by have h46 := h46; simp at h46; omega
 refine WC.region ?_
 refine pM rfl rfl ?_
 refine pP (Y.ixArr Try.underlying145 Try.sizeOf4 rfl rfl (by omega) (by omega)) rfl ?_
 refine pV (Y.loadN fl_4 rfl m2 (sel3_at hj3)) rfl ?_
 refine nN ?_
 refine WC.cond rfl (fun h51 => ?_) (fun h51 => ?_)
 refine WC.region ?_
 refine pM rfl rfl ?_
 refine pP (Y.fieldAddr fa_54_1 rfl) rfl ?_
 refine pV (Y.load (v := .slice A9 (x.laid3 a0 b0 c0 h j).log.length c9) fl_39 rfl m0 rfl) rfl ?_
 refine WL.eff (E.call Try.call123 rfl (fun _ w s => (by have hh := w_pages (x.cut.at h).log A9 (gOf A9) 0 c9 w (by omega) (own_RL s.fact.1) (by rw [← har] at hRh; exact hRh.inR.rev); rw [har] at hh; exact hh)) rfl) rfl (fun _ => ?_)
 refine pM rfl rfl ?_
 refine pP (Y.indexK rfl rfl (ix_pages _ (j : Int) (by omega))) rfl ?_
 refine pP (Y.fieldAddr fa_54_0 rfl) rfl ?_
 refine pP (Y.ixArr Try.underlying42 Try.sizeOf24 rfl rfl (by omega) (by omega)) rfl ?_
 refine WL.eff (E.storeP Try.sizeOf24 rfl rfl rfl rfl rfl u0 (by have := wd_len (x.laid3 a0 b0 c0 h j) A9 c9; omega) (disk_put (x.laid3 a0 b0 c0 h j) A9 c9 (j : Int) ((pagesOf h).get j) (by omega))) rfl (fun _ => ?_)
 refine WL.nil ?_
 refine WQ.blockEnd ?_
 refine WQ.next ?_
 refine WC.region ?_
 refine pM rfl rfl ?_
 refine pP (Y.add rfl rfl (i64_in (by omega) (by omega))) rfl ?_
 refine pA rfl rfl ?_
 refine WL.nil ?_
 · refine fun a w s => ⟨j + 1, by omega, by omega, ?_⟩
   have el : (x.laid3 a0 b0 c0 h (j + 1)) = ({ (x.laid3 a0 b0 c0 h j) with disk := (x.laid3 a0 b0 c0 h j).disk.set j ((pagesOf h).get j) } : Wd) := by
     unfold Wd.laid3
     rw [lay3_step hj3]
     rw [if_pos h51]
   try dsimp only
   rw [el]
   exact s.weak (by repeat (first | exact sub_nil _ | refine sub_cons rfl ?_))
 refine WC.skip' ?_
 refine WQ.blockEnd ?_
 refine WQ.next ?_
 refine WC.region ?_
 refine pM rfl rfl ?_
 refine pP (Y.add rfl rfl (i64_in (by omega) (by omega))) rfl ?_
 refine pA rfl rfl ?_
 refine WL.nil ?_
 · refine fun a w s => ⟨j + 1, by omega, by omega, ?_⟩
   have el : (x.laid3 a0 b0 c0 h (j + 1)) = (x.laid3 a0 b0 c0 h j) := by
     unfold Wd.laid3
     rw [lay3_step hj3]
     rw [if_neg (by rw [h51]; simp)]
   try dsimp only
   rw [el]
   exact s.weak (by repeat (first | exact sub_nil _ | refine sub_cons rfl ?_))
 refine WC.exit ?_
 refine WQ.thenExit ?_
 refine WQ.thenExit ?_
 refine WQ.blockExit ?_
 refine WQ.next ?_
 refine sR ?_
 refine pV (Y.loadAN wd_54 rfl m0 (r := (x.laid3 a0 b0 c0 h j).cl A9 c9) rfl) rfl ?_
 refine pM rfl rfl ?_
 refine WL.eff (E.store Try.sizeOf54 rfl rfl rfl rfl rfl u1 rfl rfl) rfl (fun _ => ?_)
 refine pA rfl rfl ?_
 refine pA rfl rfl ?_
 refine nN ?_
 refine WC.ret ?_
 refine WQ.done Try.results149 (RVs.cons (RV.cell wd_54 rfl m1 rfl) (RVs.cons (RV.tmp rfl) (RVs.cons (RV.tmp rfl) RVs.nil))) (fun a w s => ?_)
 · have hj3 : j = 3 := by have h46 := h46; simp at h46; omega
   subst hj3
   have e : mendOf x steps a0 b0 c0 = (x.laid3 a0 b0 c0 h 3, (m : Int), 0) := by
     unfold mendOf
     rw [if_pos h0, hgo, show 61 - h.length = (60 - h.length) + 1 by omega, mendGo_stop hs]
     rfl
   rw [e]
   exact ⟨(A9, c9), rfl, s.low, s.fact.1⟩

theorem w_refMendAll (x : Wd) (A : Option Addr) (b o c : Nat) (w : World) (hm : x.log.length ≤ maxLen) (hcap : x.log.length ≤ c) (hr : RL w A b o x.log) : RetW Try.prog 101 [x.val A c] w (mendOf x (-1) true true true).1 [.int .i64 (mendOf x (-1) true true true).2.1, .int .i64 (mendOf x (-1) true true true).2.2] := by
 refine enter Try.func101 rfl Try.ntmps101 rfl SF.top trivial ?_
 refine sR ?_
 refine WL.eff (E.box rfl rfl rfl) rfl (fun b1 => ?_)
 refine WL.eff (E.alloc Try.zeroValue54 rfl rfl) rfl (fun b2 => ?_)
 refine pA rfl rfl ?_
 refine pA rfl rfl ?_
 refine nN ?_
 refine sR ?_
 refine pV (Y.loadAN wd_54 rfl m1 (r := x.cl A c) rfl) rfl ?_
 refine pP (Y.build rfl (bf_145_0_1_2 _ _ _)) rfl ?_
 refine WL.eff (E.retW ((mendOf x (-1) true true true).1) [.int .i64 (mendOf x (-1) true true true).2.1, .int .i64 (mendOf x (-1) true true true).2.2] Try.call149 rfl (fun _ w s => w_mended x A b o c (-1) true true true w hm hcap (hr.below s.low)) rfl) rfl (fun i => ?_)
 refine pP (Y.extract rfl rfl) rfl ?_
 refine pP (Y.extract rfl rfl) rfl ?_
 refine pP (Y.extract rfl rfl) rfl ?_
 refine WL.eff (E.store Try.sizeOf54 rfl rfl rfl rfl rfl u0 rfl rfl) rfl (fun _ => ?_)
 refine pA rfl rfl ?_
 refine pA rfl rfl ?_
 refine nN ?_
 refine WC.ret ?_
 refine WQ.done Try.results101 (RVs.cons (RV.cell wd_54 rfl m0 rfl) (RVs.cons (RV.tmp rfl) (RVs.cons (RV.tmp rfl) RVs.nil))) (fun a w s => ?_)
 · exact ⟨i, rfl, s.low, s.fact.1⟩

theorem lay_one {x : Wd} (h : worldErr x = 0) (hs : x.safe = (x.log.length : Int)) {p : Int} : max x.safe ((pagesOf x.h).get p).last = x.safe := by
  have hR := (world_right h).2.2.1
  have hl := page_last hR p
  rw [hlen] at hl
  rw [Int.max_eq_left]
  omega
theorem layL_if {h : List R} (hR : Right h) : ∀ (xs : List Int) (d : P3) (l : List R), layL (pagesOf h) xs ⟨d, l, h.length⟩ = ⟨xs.foldl (fun d p => d.set p ((pagesOf h).get p)) d, l, h.length⟩
  | [], d, l => rfl
  | p :: xs, d, l => by
    have hl := page_last hR p
    simp only [layL, List.foldl_cons]
    rw [show max (h.length : Int) ((pagesOf h).get p).last = h.length by rw [Int.max_eq_left]; omega]
    exact layL_if hR xs _ l
/-- The numbers of the pages that are to be laid. -/
def trueIx (l : List Bool) (k : Nat) : List Int := ((List.range k).filter fun i => l[i]? == some true).map fun (i : Nat) => (i : Int)
theorem mendX_of {x : Wd} {s : Int} {a b c : Bool} {xs : List Int} (hx : xs = trueIx [a, b, c] 3) : mendX x s xs = mendOf x s a b c := by
  unfold mendX mendOf
  by_cases h0 : worldErr x = 0
  · rw [if_pos h0, if_pos h0]
    cases hm : mendGo (61 - x.cut.log.length) s 0 x.cut.h with
    | none => rfl
    | some q =>
      obtain ⟨h, n⟩ := q
      obtain ⟨k, _, e, hk, _⟩ := mendGo_some hm
      obtain ⟨hR0, h60, _⟩ := cut_h_right h0
      have hR := (mendN_right e hR0 (by rw [hlen] at *; omega)).1
      dsimp only
      rw [layL_if hR]
      subst hx
      cases a <;> cases b <;> cases c <;> rfl
  · rw [if_neg h0, if_neg h0]

theorem w_mendAll (x : Wd) (A : Option Addr) (b o c : Nat) (w : World) (hm : x.log.length ≤ maxLen) (hcap : x.log.length ≤ c) (hr : RL w A b o x.log) : RetW Try.prog 66 [x.val A c] w (mendOf x (-1) true true true).1 [.int .i64 (mendOf x (-1) true true true).2.1, .int .i64 (mendOf x (-1) true true true).2.2] := by
 refine enter Try.func66 rfl Try.ntmps66 rfl SF.top trivial ?_
 refine sR ?_
 refine WL.eff (E.box rfl rfl rfl) rfl (fun b1 => ?_)
 refine WL.eff (E.alloc Try.zeroValue54 rfl rfl) rfl (fun b2 => ?_)
 refine pA rfl rfl ?_
 refine pA rfl rfl ?_
 refine nN ?_
 refine sR ?_
 refine pV (Y.loadAN wd_54 rfl m1 (r := x.cl A c) rfl) rfl ?_
 refine WL.eff (E.buildSlice (bs_64_3 _ _ _) rfl rfl) rfl (fun b3 => ?_)
 refine WL.eff (E.retW ((mendOf x (-1) true true true).1) [.int .i64 (mendOf x (-1) true true true).2.1, .int .i64 (mendOf x (-1) true true true).2.2] Try.call134 rfl (fun _ w s => (by have hh := w_mendMend x A b o c (-1) [0, 1, 2] (some ⟨b3, 0, none⟩) b3 3 w hm hcap (hr.below s.low) (by decide) (by decide) (IL.ofW [0, 1, 2] s.wp (List.Mem.head _) rfl); rw [mendX_of (x := x) (s := -1) (a := true) (b := true) (c := true) (xs := [0, 1, 2]) rfl] at hh; exact hh)) rfl) rfl (fun i => ?_)
 refine pP (Y.extract rfl rfl) rfl ?_
 refine pP (Y.extract rfl rfl) rfl ?_
 refine pP (Y.extract rfl rfl) rfl ?_
 refine WL.eff (E.store Try.sizeOf54 rfl rfl rfl rfl rfl u1 rfl rfl) rfl (fun _ => ?_)
 refine pA rfl rfl ?_
 refine pA rfl rfl ?_
 refine nN ?_
 refine WC.ret ?_
 refine WQ.done Try.results66 (RVs.cons (RV.cell wd_54 rfl m1 rfl) (RVs.cons (RV.tmp rfl) (RVs.cons (RV.tmp rfl) RVs.nil))) (fun a w s => ?_)
 · exact ⟨i, rfl, s.low, s.fact.1⟩
end Go.Proofs.Ytdbcimadjmdffaa
