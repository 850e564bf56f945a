/- The law WorkWins. No condition. -/
import Derived.Test.YtdbcimadjmdffaaCc
import Derived.Test.YtdbcimadjmdffaaWl
set_option maxRecDepth 100000
set_option linter.unusedVariables false
set_option linter.unusedSimpArgs false
set_option linter.unusedSectionVars false
set_option maxHeartbeats 4000000
namespace Go.Proofs.Ytdbcimadjmdffaa
open Go.RowKit Go.Joins
theorem cnt_zero : ∀ {h : List R} {t k : Int}, cnt h t k = 0 → ∀ r ∈ h, r.txn = t → r.kind ≠ k
  | [], _, _, _, r, hr, _ => by cases hr
  | x :: h, t, k, h0, r, hr, ht => by
    have h3 : ¬(x.txn = t ∧ x.kind = k) ∧ cnt h t k = 0 := by
      simp only [cnt] at h0
      split at h0
      · omega
      · exact ⟨by assumption, by omega⟩
    rcases List.mem_cons.1 hr with rfl | hr
    · exact fun e => h3.1 ⟨ht, e⟩
    · exact cnt_zero h3.2 r hr ht
theorem all_writes {h : List R} {t : Int} (hR : Right h) (hs : stt h t = 1) : ∀ r ∈ h, r.txn = t → r.kind = 1 := fun r hr ht => by
  obtain ⟨c4, c2, c3⟩ := stt_cnt (h := h) (t := t)
  obtain ⟨n, _, hn⟩ := mem_rec hR hr
  have hb := rec_bounds hn
  have h4 := cnt_zero (c4 (by omega)) r hr ht
  have h2 := cnt_zero (c2 (by omega) (by omega)) r hr ht
  have h3 := cnt_zero (c3 (by omega) (by omega) (by omega)) r hr ht
  omega
/-- The cells with what a Txn has written laid over them. -/
def overW (t : Int) : List R → C9 → C9
  | [], a => a
  | r :: h, a => if r.txn = t then (overW t h a).set r.page r.cell r.new else overW t h a
theorem over_newest {t : Int} {a : C9} : ∀ {h : List R}, InR h → (∀ r ∈ h, r.txn = t → r.kind = 1) → ∀ {p c : Int} {x : R}, 0 ≤ p ∧ p ≤ 2 → 0 ≤ c ∧ c ≤ 2 → h.find? (isW p c) = some x → x.txn = t → (overW t h a).at p c = x.new
  | [], _, _, _, _, _, _, _, hx, _ => by cases hx
  | r :: h, hin, ha, p, c, x, hp, hc, hx, hf => by
    have ih := over_newest (t := t) (a := a) (h := h) (fun y hy => hin y (List.mem_cons_of_mem _ hy)) (fun y hy => ha y (List.mem_cons_of_mem _ hy)) (p := p) (c := c) (x := x) hp hc
    rw [List.find?_cons] at hx
    cases hw : isW p c r
    · rw [hw] at hx
      have ih := ih hx hf
      simp only [overW]
      split
      · rename_i ht
        have hk := ha r (List.Mem.head _) ht
        obtain ⟨b1, b2⟩ := hin r (List.Mem.head _) (by simp [R.turns, hk])
        rw [C9.at_set _ b1 b2 _ hp hc, if_neg, ih]
        rintro ⟨rfl, rfl⟩
        simp [isW, inCell, hk] at hw
      · exact ih
    · rw [hw] at hx
      obtain rfl := Option.some.inj hx
      have hk : r.kind = 1 ∧ inCell p c r = true := by simpa [isW] using hw
      obtain ⟨hk, hic⟩ := hk
      have hpc : r.page = p ∧ r.cell = c := by simpa [inCell] using hic
      obtain ⟨rfl, rfl⟩ := hpc
      simp only [overW, hf, if_true]
      rw [C9.at_set _ hp hc _ hp hc, if_pos ⟨rfl, rfl⟩]
theorem over_none {t : Int} {a : C9} : ∀ {h : List R}, InR h → (∀ r ∈ h, r.txn = t → r.kind = 1) → ∀ {p c : Int}, 0 ≤ p ∧ p ≤ 2 → 0 ≤ c ∧ c ≤ 2 → (∀ x ∈ h, x.txn = t → x.kind = 1 → inCell p c x = false) → (overW t h a).at p c = a.at p c
  | [], _, _, _, _, _, _, _ => rfl
  | r :: h, hin, ha, p, c, hp, hc, hn => by
    have ih := over_none (t := t) (a := a) (h := h) (fun y hy => hin y (List.mem_cons_of_mem _ hy)) (fun y hy => ha y (List.mem_cons_of_mem _ hy)) hp hc (fun x hx => hn x (List.mem_cons_of_mem _ hx))
    simp only [overW]
    split
    · rename_i ht
      have hk := ha r (List.Mem.head _) ht
      obtain ⟨b1, b2⟩ := hin r (List.Mem.head _) (by simp [R.turns, hk])
      have := hn r (List.Mem.head _) ht hk
      rw [C9.at_set _ b1 b2 _ hp hc, if_neg, ih]
      rintro ⟨rfl, rfl⟩
      simp [inCell] at this
    · exact ih
theorem over_com {h : List R} {t n : Int} (hR : Right h) (hs : stt h t = 1) : overW t h (cellsH h) = cellsH (cmR t n :: h) := by
  have ha := all_writes hR hs
  have e : cellsH (cmR t n :: h) = cellsW (won (cmR t n :: h)) h := by unfold cellsH; simp [cellsW, cmR]
  rw [e]
  have hw : ∀ u, won (cmR t n :: h) u = ((t == u) || won h u) := fun u => by rw [won_cons]; simp [cmR]
  refine C9.ext_at fun p c hp hc => ?_
  rcases hq : (sta h t).any (inCell p c) with _ | _
  · have hn : ∀ x ∈ h, x.txn = t → x.kind = 1 → inCell p c x = false := fun x hx ht hk => by
      have hst := sta_all ((stt_cnt (h := h) (t := t)).2.2 (by omega) (by omega) (by omega)) x hx ht hk
      have := List.any_eq_false.1 hq x hst
      simpa using this
    rw [over_none hR.inR ha hp hc hn]
    refine (cellsW_none (t := t) (fun u hu => ?_) hR.inR hp hc hn).symm
    rw [hw]
    simp [show ¬ t = u from fun e => hu e.symm]
  · obtain ⟨x, hx, ht⟩ := newest_hold hR (by omega) hq
    rw [over_newest hR.inR ha hp hc hx ht]
    refine (cellsW_newest hR.inR hp hc hx ?_).symm
    rw [hw]
    simp [ht]
theorem put_c9 (x : C9) (i c v : Int) (hi : 0 ≤ i ∧ i ≤ 2) (hc : 0 ≤ c ∧ c ≤ 2) : put x.cl (0 + i.toNat * 3 + c.toNat * 1) [.int .i64 v] = (x.set i c v).cl := by
  have h1 : i = 0 ∨ i = 1 ∨ i = 2 := by omega
  have h2 : c = 0 ∨ c = 1 ∨ c = 2 := by omega
  rcases h1 with rfl | rfl | rfl <;> rcases h2 with rfl | rfl | rfl <;> rfl
theorem c9_len (x : C9) : x.cl.length = 9 := rfl
/-- The log with the Commit, and without the End. -/
def comL (x : Wd) (t : Int) : List R := x.log ++ [cmR t (lastN x.h t)]
theorem comL_rev (x : Wd) (t : Int) : (comL x t).reverse = cmR t (lastN x.h t) :: x.h := by simp [comL, Wd.h]
theorem comL_take (x : Wd) (t : Int) : (x.com t).log.take (x.log.length + 1) = comL x t := by
  unfold comL Wd.com
  rw [show [cmR t (lastN x.h t), enR t ((x.log.length : Int) + 1)] = [cmR t (lastN x.h t)] ++ [enR t ((x.log.length : Int) + 1)] from rfl, ← List.append_assoc]
  exact List.take_left' (by simp)
theorem comL_len (x : Wd) (t : Int) : (comL x t).length = x.log.length + 1 := by simp [comL]
theorem comL_wins (x : Wd) (t : Int) : winsL (comL x t) = winsL x.log ++ [t] := by
  unfold winsL
  rw [comL_rev]
  simp [winsH, cmR, Wd.h]

theorem w_WorkWins (x : Wd) (A : Option Addr) (b o c : Nat) (t : Int) (w : World) (hm : x.log.length ≤ maxLen) (hcap : x.log.length ≤ c) (hr : RL w A b o x.log) : Ret Try.prog 27 [x.val A c, .int .i64 t] w (.bool true) := by
 refine enter Try.func27 rfl Try.ntmps27 rfl SF.top trivial ?_
 refine sR ?_
 refine WL.eff (E.box rfl rfl rfl) rfl (fun b1 => ?_)
 refine pA rfl rfl ?_
 refine nN ?_
 refine sR ?_
 refine pV (Y.loadAN wd_54 rfl (by repeat (first | exact List.Mem.head _ | apply List.Mem.tail)) (r := (x).cl A c) rfl) rfl ?_
 refine pM rfl rfl ?_
 refine WL.eff (E.retW ((commitOf x t).1) [.int .i64 (commitOf x t).2] Try.call62 rfl (fun _ w s => w_workCommit x A b o c t w hm hcap (hr.below s.low)) rfl) rfl (fun i => ?_)
 refine pM rfl rfl ?_
 refine pP (Y.extract rfl rfl) rfl ?_
 refine pP (Y.extract rfl rfl) rfl ?_
 refine WL.eff (E.alloc Try.zeroValue54 rfl rfl) rfl (fun b2 => ?_)
 refine WL.eff (E.store Try.sizeOf54 rfl rfl rfl rfl rfl u0 rfl rfl) rfl (fun _ => ?_)
 refine pA rfl rfl ?_
 refine nN ?_
 refine WC.seq ?_
 refine sR ?_
 refine pM rfl rfl ?_
 refine pP (Y.neq rfl rfl) rfl ?_
 refine pM rfl rfl ?_
 refine WL.split (t := 23) rfl (fun r h23 => ?_)
 cases r
 obtain ⟨h0, ht, hs1, hl58, e, hRc, hRe, hw⟩ := commit_ok (x := x) (t := t) (by simpa using h23)
 rw [e]
 dsimp only
 clear h23
 have hyl : (x.com t).log.length = x.log.length + 2 := by simp [Wd.com]
 have hys : (x.com t).safe = (x.log.length : Int) + 1 := rfl
 have hR := (world_right h0).2.2.1
 have lx := (world_right h0).1
 have l1 : logErr (comL x t) = 0 := by rw [← comL_take]; exact take_right (world_right hw).1 _
 have cx := cells_ok h0
 have c1 : cellsOf (comL x t) = cellsH (cmR t (lastN x.h t) :: x.h) := by unfold cellsOf; rw [if_pos l1, comL_rev]
 have w1 : winsOf (comL x t) = winsL x.log ++ [t] := by rw [wins_ok l1, comL_wins]
 have hsc : (x.com t).safe = ((comL x t).length : Int) := by rw [hys, comL_len]; rfl
 have hwl : (winsOf (comL x t)).length = (winsL x.log).length + 1 := by rw [w1]; simp
 have hwx := winsL_len x.log
 refine gT rfl ?_
 refine pP (Y.fieldAddr fa_54_2 rfl) rfl ?_
 refine gT rfl ?_
 refine pV (Y.load (cs := ((x.com t)).cl i.1 i.2) (v := .int .i64 (x.com t).safe) fl_3 rfl (by repeat (first | exact List.Mem.head _ | apply List.Mem.tail)) rfl) rfl ?_
 refine gT rfl ?_
 refine pP (Y.lss rfl rfl) rfl ?_
 refine pP (Y.pickF rfl rfl) rfl ?_
 refine pM rfl rfl ?_
 refine WL.known (t := 28) (r := false) rfl (by rw [hys]; simp; omega) ?_
 refine gT rfl ?_
 refine pP (Y.fieldAddr fa_54_2 rfl) rfl ?_
 refine gT rfl ?_
 refine pV (Y.load (cs := ((x.com t)).cl i.1 i.2) (v := .int .i64 (x.com t).safe) fl_3 rfl (by repeat (first | exact List.Mem.head _ | apply List.Mem.tail)) rfl) rfl ?_
 refine gT rfl ?_
 refine pP (Y.fieldAddr fa_54_1 rfl) rfl ?_
 refine gT rfl ?_
 refine pV (Y.load (cs := ((x.com t)).cl i.1 i.2) (v := .slice i.1 ((x.com t)).log.length i.2) fl_39 rfl (by repeat (first | exact List.Mem.head _ | apply List.Mem.tail)) rfl) rfl ?_
 refine gT rfl ?_
 refine pP (Y.len Try.underlying39 rfl) rfl ?_
 refine gT rfl ?_
 refine pP (Y.gtr rfl rfl) rfl ?_
 refine pP (Y.pickF rfl rfl) rfl ?_
 refine pM rfl rfl ?_
 refine WL.known (t := 36) (r := false) rfl (by rw [hys, hyl]; simp) ?_
 refine gT rfl ?_
 refine pV (Y.loadAN wd_54 rfl (by repeat (first | exact List.Mem.head _ | apply List.Mem.tail)) (r := (x).cl A c) rfl) rfl ?_
 refine gT rfl ?_
 refine WL.eff (E.call Try.call77 rfl (fun _ w s => w_worldCheck x A b o c w hm hcap (hr.below s.low)) rfl) rfl (fun _ => ?_)
 refine gT rfl ?_
 refine pP (Y.neq rfl rfl) rfl ?_
 refine pP (Y.pickF rfl rfl) rfl ?_
 refine nN ?_
 refine WC.isF rfl (by rw [h0]; rfl) ?_
 refine WC.skip' ?_
 refine WQ.next ?_
 refine sR ?_
 refine pP (Y.fieldAddr fa_54_1 rfl) rfl ?_
 refine pV (Y.load (cs := (x).cl A c) (v := .slice A (x).log.length c) fl_39 rfl (by repeat (first | exact List.Mem.head _ | apply List.Mem.tail)) rfl) rfl ?_
 refine WL.eff (E.call Try.call68 rfl (fun _ w s => w_cells x.log A b o c w hm (hr.below s.low)) rfl) rfl (fun _ => ?_)
 refine pM rfl rfl ?_
 refine pP (Y.extract rfl rfl) rfl ?_
 refine pP (Y.extract rfl rfl) rfl ?_
 refine WL.eff (E.alloc Try.zeroValue67 rfl rfl) rfl (fun b3 => ?_)
 refine WL.eff (E.store Try.sizeOf67 rfl rfl rfl rfl rfl u0 rfl rfl) rfl (fun _ => ?_)
 refine pA rfl rfl ?_
 refine nN ?_
 refine WC.seq ?_
 refine WC.know (p := (x.com t).log.length ≤ i.2) (fun a w s => own_le s.fact.1) (fun hci => ?_)
 refine WC.region ?_
 refine pP (Y.fieldAddr fa_54_1 rfl) rfl ?_
 refine pV (Y.load (cs := ((x.com t)).cl i.1 i.2) (v := .slice i.1 ((x.com t)).log.length i.2) fl_39 rfl (by repeat (first | exact List.Mem.head _ | apply List.Mem.tail)) rfl) rfl ?_
 refine pP (Y.fieldAddr fa_54_2 rfl) rfl ?_
 refine pV (Y.load (cs := ((x.com t)).cl i.1 i.2) (v := .int .i64 (x.com t).safe) fl_3 rfl (by repeat (first | exact List.Mem.head _ | apply List.Mem.tail)) rfl) rfl ?_
 refine pP (Y.slToN (comL x t).length hsc Try.underlying39 Try.sizeOf34 rfl rfl (by rw [comL_len]; omega)) rfl ?_
 refine WL.eff (E.call Try.call68 rfl (fun _ w s => w_cells (comL x t) i.1 (gOf i.1) 0 i.2 w (by rw [comL_len]; unfold maxLen; omega) (by have hh := (own_RL s.fact.1).take (x.log.length + 1); rw [comL_take] at hh; exact hh)) rfl) rfl (fun _ => ?_)
 refine pM rfl rfl ?_
 refine pP (Y.extract rfl rfl) rfl ?_
 refine pP (Y.extract rfl rfl) rfl ?_
 refine WL.eff (E.alloc Try.zeroValue67 rfl rfl) rfl (fun b4 => ?_)
 refine WL.eff (E.store Try.sizeOf67 rfl rfl rfl rfl rfl u0 rfl rfl) rfl (fun _ => ?_)
 refine pA rfl rfl ?_
 refine nN ?_
 refine sR ?_
 refine pP (Y.fieldAddr fa_54_1 rfl) rfl ?_
 refine pV (Y.load (cs := ((x.com t)).cl i.1 i.2) (v := .slice i.1 ((x.com t)).log.length i.2) fl_39 rfl (by repeat (first | exact List.Mem.head _ | apply List.Mem.tail)) rfl) rfl ?_
 refine pP (Y.fieldAddr fa_54_2 rfl) rfl ?_
 refine pV (Y.load (cs := ((x.com t)).cl i.1 i.2) (v := .int .i64 (x.com t).safe) fl_3 rfl (by repeat (first | exact List.Mem.head _ | apply List.Mem.tail)) rfl) rfl ?_
 refine pP (Y.slToN (comL x t).length hsc Try.underlying39 Try.sizeOf34 rfl rfl (by rw [comL_len]; omega)) rfl ?_
 refine WL.eff (E.callF (fun i : Option Addr × Nat => .tuple #[.slice i.1 (winsOf (comL x t)).length i.2, .int .i64 (logErr (comL x t))]) (fun i => SF.own w.heap.size 3 1 (.slice i.1 (winsOf (comL x t)).length i.2) (winsOf (comL x t)).length (ints (winsOf (comL x t)))) Try.call67 rfl (fun _ w s => (w_wins (comL x t) i.1 (gOf i.1) 0 i.2 w (by have hh := (own_RL s.fact.1).take (x.log.length + 1); rw [comL_take] at hh; exact hh)).mono fun e w' ⟨i, he, hb, ho⟩ => ⟨i, he, hb, ownsRow_le ho s.low.size, fun g hg => .inl (ho.lt g hg).1⟩) rfl) rfl (fun j => ?_)
 refine pM rfl rfl ?_
 refine pP (Y.extract rfl rfl) rfl ?_
 refine pP (Y.extract rfl rfl) rfl ?_
 refine pA rfl rfl ?_
 refine pA rfl rfl ?_
 refine nN ?_
 refine WC.seq ?_
 refine WC.seq ?_
 rw [lx, l1, cx, c1]
 refine WC.know (p := j.1 = some ⟨gOf j.1, 0, none⟩) (fun a w s => (own_IL rfl s.fact.2).addr (i := (winsL x.log).length) (x := t) (by rw [w1]; simp)) (fun hA => ?_)
 refine WC.region ?_
 refine pM rfl rfl ?_
 refine pP (Y.neq rfl rfl) rfl ?_
 refine pM rfl rfl ?_
 refine WL.known (t := 72) (r := false) rfl (by first | rfl | simp) ?_
 refine gT rfl ?_
 refine pM rfl rfl ?_
 refine gT rfl ?_
 refine pP (Y.neq rfl rfl) rfl ?_
 refine pP (Y.pickF rfl rfl) rfl ?_
 refine pM rfl rfl ?_
 refine WL.known (t := 76) (r := false) rfl (by first | rfl | simp) ?_
 refine gT rfl ?_
 refine pM rfl rfl ?_
 refine gT rfl ?_
 refine pP (Y.neq rfl rfl) rfl ?_
 refine pP (Y.pickF rfl rfl) rfl ?_
 refine pM rfl rfl ?_
 refine WL.known (t := 80) (r := false) rfl (by first | rfl | simp) ?_
 refine gT rfl ?_
 refine pV (Y.loadAN wd_54 rfl (by repeat (first | exact List.Mem.head _ | apply List.Mem.tail)) (r := ((x.com t)).cl i.1 i.2) rfl) rfl ?_
 refine gT rfl ?_
 refine WL.eff (E.call Try.call77 rfl (fun _ w s => w_worldCheck (x.com t) i.1 (gOf i.1) 0 i.2 w (own_max s.fact.1.1) (own_le s.fact.1.1) (own_RL s.fact.1.1)) rfl) rfl (fun _ => ?_)
 refine gT rfl ?_
 refine pP (Y.neq rfl rfl) rfl ?_
 refine pP (Y.pickF rfl rfl) rfl ?_
 refine pM rfl rfl ?_
 refine WL.known (t := 85) (r := false) rfl (by rw [hw]; rfl) ?_
 refine gT rfl ?_
 refine pM rfl rfl ?_
 refine gT rfl ?_
 refine pP (Y.len Try.underlying64 rfl) rfl ?_
 refine gT rfl ?_
 refine pP (Y.eql rfl rfl) rfl ?_
 refine pP (Y.pickF rfl rfl) rfl ?_
 refine pM rfl rfl ?_
 refine WL.known (t := 90) (r := false) rfl (by rw [hwl]; simp; omega) ?_
 refine gT rfl ?_
 refine pM rfl rfl ?_
 refine gT rfl ?_
 refine pM rfl rfl ?_
 refine gT rfl ?_
 refine pP (Y.len Try.underlying64 rfl) rfl ?_
 refine gT rfl ?_
 refine pP (Y.sub rfl rfl (i64_in (by omega) (by omega))) rfl ?_
 refine gT rfl ?_
 refine pP (Y.ixSlA (A := j.1) (b := gOf j.1) (o := 0) Try.underlying64 Try.sizeOf3 rfl rfl hA (by rw [hwl]; omega) (by omega)) rfl ?_
 refine gT rfl ?_
 refine pV (Y.loadc fl_3 rfl (v := .int .i64 t) (fun a w s => by have hh := (own_IL rfl s.fact.2).cell (winsL x.log).length t (by rw [w1]; simp); have e9 : (((winsOf (comL x t)).length : Int) - 1).toNat = (winsL x.log).length := (by rw [hwl]; omega); rw [e9]; simpa using hh)) rfl ?_
 refine gT rfl ?_
 refine pM rfl rfl ?_
 refine gT rfl ?_
 refine pP (Y.neq rfl rfl) rfl ?_
 refine pP (Y.pickF rfl rfl) rfl ?_
 refine nN ?_
 refine WC.isF rfl (by simp) ?_
 refine WC.skip' ?_
 refine WQ.next ?_
 refine WC.seq ?_
 refine sR ?_
 refine pA rfl rfl ?_
 refine nN ?_
 refine WC.block ?_
 have ha := all_writes hR hs1
 refine WC.loop (ι := Nat) (fun k => [(1, .int .i64 t), (2, .pointer (some ⟨b1, 0, none⟩)), (5, .pointer (some ⟨b2, 0, none⟩)), (7, .pointer (some ⟨b3, 0, none⟩)), (9, .pointer (some ⟨b4, 0, none⟩)), (13, .int .i64 k)]) (fun k => [(b4, (cellsH (cmR t (lastN x.h t) :: x.h)).cl, 67), (b3, (overW t (x.log.take k).reverse (cellsH x.h)).cl, 67), (b2, (x.com t).cl i.1 i.2, 54), (b1, x.cl A c, 54)]) (fun _ => ((SF.own w.heap.size 34 8 (.slice i.1 (x.com t).log.length i.2) (x.com t).log.length (flat (x.com t).log)).sep SF.top).and (SF.own w.heap.size 3 1 (.slice j.1 (winsOf (comL x t)).length j.2) (winsOf (comL x t)).length (ints (winsOf (comL x t))))) (fun k => k ≤ x.log.length) (fun k => x.log.length - k) 0 (Nat.zero_le _) (fun a w s => s.weak (by repeat (first | exact sub_nil _ | refine sub_cons rfl ?_))) (fun k hk => ?_)
 refine WC.seq ?_
 refine sR ?_
 refine pM rfl rfl ?_
 refine pP (Y.fieldAddr fa_54_1 rfl) rfl ?_
 refine pV (Y.load (cs := (x).cl A c) (v := .slice A (x).log.length c) fl_39 rfl (by repeat (first | exact List.Mem.head _ | apply List.Mem.tail)) rfl) rfl ?_
 refine pP (Y.len Try.underlying39 rfl) rfl ?_
 refine pP (Y.lss rfl rfl) rfl ?_
 refine nN ?_
 refine WC.cond rfl (fun h104 => ?_) (fun h104 => ?_)
 refine WC.skip' ?_
 refine WQ.next ?_
 refine WC.seq ?_
 refine WC.block ?_
 refine WC.seq ?_
 obtain ⟨r, hk'⟩ := get_of_lt (l := x.log) (k := k) (by simp at h104; omega)
 have hmr : r ∈ x.h := by unfold Wd.h; exact List.mem_reverse.2 (List.mem_of_getElem? hk')
 have hkl := get_lt hk'
 have hAx := hr.addr hk'
 refine WC.region ?_
 refine pP (Y.fieldAddr fa_54_1 rfl) rfl ?_
 refine pV (Y.load (cs := (x).cl A c) (v := .slice A (x).log.length c) fl_39 rfl (by repeat (first | exact List.Mem.head _ | apply List.Mem.tail)) rfl) rfl ?_
 refine pM rfl rfl ?_
 refine pP (Y.ixSlA (A := A) (b := b) (o := o) Try.underlying39 Try.sizeOf34 rfl rfl hAx (nat0 _) (get_ltI hk')) rfl ?_
 refine pV (Y.loadAc wd_34 rfl (r := r.cl) rfl (fun a w s j hj => (hr.below s.low).full (i := k) hk' j hj)) rfl ?_
 refine WL.eff (E.alloc Try.zeroValue34 rfl rfl) rfl (fun b5 => ?_)
 refine WL.eff (E.store Try.sizeOf34 rfl rfl rfl rfl rfl u0 rfl rfl) rfl (fun _ => ?_)
 refine nN ?_
 refine sR ?_
 refine pP (Y.fieldAddr fa_34_1 rfl) rfl ?_
 refine pV (Y.load fl_3 rfl m0 rfl) rfl ?_
 refine pM rfl rfl ?_
 refine pP (Y.eql rfl rfl) rfl ?_
 refine pM rfl rfl ?_
 refine WL.split (t := 116) rfl (fun r h116 => ?_)
 cases r
 refine gF rfl ?_
 refine gF rfl ?_
 refine gF rfl ?_
 refine pP (Y.pickF rfl rfl) rfl ?_
 refine pM rfl rfl ?_
 refine gF rfl ?_
 refine gF rfl ?_
 refine gF rfl ?_
 refine pP (Y.pickF rfl rfl) rfl ?_
 refine pM rfl rfl ?_
 refine gF rfl ?_
 refine gF rfl ?_
 refine gF rfl ?_
 refine pP (Y.pickF rfl rfl) rfl ?_
 refine pM rfl rfl ?_
 refine gF rfl ?_
 refine gF rfl ?_
 refine gF rfl ?_
 refine pP (Y.pickF rfl rfl) rfl ?_
 refine nN ?_
 refine WC.condF rfl ?_
 refine WC.skip' ?_
 refine WQ.blockEnd ?_
 refine WQ.next ?_
 refine WC.region ?_
 refine pM rfl rfl ?_
 refine pP (Y.add rfl rfl (i64_in (by omega) (by omega))) rfl ?_
 refine pA rfl rfl ?_
 refine WL.nil ?_
 · have e : (overW t (x.log.take (k + 1)).reverse (cellsH x.h)) = (overW t (x.log.take k).reverse (cellsH x.h)) := by
     rw [takeS hk', overW, if_neg (by simpa using h116)]
   refine fun a w s => ⟨k + 1, by omega, by omega, ?_⟩
   rw [e]
   exact (s.sub (Hsub.of_sub (List.sublist_cons_self _ _))).weak (by repeat (first | exact sub_nil _ | refine sub_cons rfl ?_))
 have hk1 := ha r hmr (by simpa using h116)
 obtain ⟨hp, hc⟩ := hR.inR r hmr (by simp [R.turns, hk1])
 refine gT rfl ?_
 refine pP (Y.fieldAddr fa_34_3 rfl) rfl ?_
 refine gT rfl ?_
 refine pV (Y.load fl_3 rfl m0 rfl) rfl ?_
 refine gT rfl ?_
 refine pP (Y.geq rfl rfl) rfl ?_
 refine pP (Y.pickT rfl rfl) rfl ?_
 refine pM rfl rfl ?_
 refine WL.known (t := 121) (r := true) rfl (by simp; omega) ?_
 refine gT rfl ?_
 refine pP (Y.fieldAddr fa_34_3 rfl) rfl ?_
 refine gT rfl ?_
 refine pV (Y.load fl_3 rfl m0 rfl) rfl ?_
 refine gT rfl ?_
 refine pP (Y.lss rfl rfl) rfl ?_
 refine pP (Y.pickT rfl rfl) rfl ?_
 refine pM rfl rfl ?_
 refine WL.known (t := 126) (r := true) rfl (by simp; omega) ?_
 refine gT rfl ?_
 refine pP (Y.fieldAddr fa_34_4 rfl) rfl ?_
 refine gT rfl ?_
 refine pV (Y.load fl_3 rfl m0 rfl) rfl ?_
 refine gT rfl ?_
 refine pP (Y.geq rfl rfl) rfl ?_
 refine pP (Y.pickT rfl rfl) rfl ?_
 refine pM rfl rfl ?_
 refine WL.known (t := 131) (r := true) rfl (by simp; omega) ?_
 refine gT rfl ?_
 refine pP (Y.fieldAddr fa_34_4 rfl) rfl ?_
 refine gT rfl ?_
 refine pV (Y.load fl_3 rfl m0 rfl) rfl ?_
 refine gT rfl ?_
 refine pP (Y.lss rfl rfl) rfl ?_
 refine pP (Y.pickT rfl rfl) rfl ?_
 refine nN ?_
 refine WC.isT rfl (by simp; omega) ?_
 refine WC.draw [(0, .q false), (1, .q true), (2, .q false), (3, .q true), (4, .q false), (5, .q true), (6, .q false), (7, .q false), (8, .s true)] mixed (by kernel_rfl) ?_
 refine dP (Y.fieldAddr fa_34_3 rfl) rfl rfl ?_
 refine dV (Y.load fl_3 rfl m0 rfl) rfl rfl ?_
 refine dP (Y.fieldAddr fa_34_4 rfl) rfl rfl ?_
 refine dV (Y.load fl_3 rfl m0 rfl) rfl rfl ?_
 refine dP (Y.fieldAddr fa_34_6 rfl) rfl rfl ?_
 refine dV (Y.load fl_3 rfl m0 rfl) rfl rfl ?_
 refine dP (Y.ixArr Try.underlying67 Try.sizeOf22 rfl rfl hp.1 (by omega)) rfl rfl ?_
 refine dP (Y.ixArr Try.underlying22 Try.sizeOf3 rfl rfl hc.1 (by omega)) rfl rfl ?_
 refine WDm.spec (WS.free rfl (E.storeP Try.sizeOf3 rfl rfl rfl rfl rfl (by repeat (first | exact Upd.here | apply Upd.there)) (by rw [c9_len]; omega) (put_c9 _ _ _ _ hp hc))) (fun _ => sub_refl _) (fun _ => ?_)
 refine WDm.nil (WQ.and ?_)
 refine WQ.blockEnd ?_
 refine WQ.next ?_
 refine WC.region ?_
 refine pM rfl rfl ?_
 refine pP (Y.add rfl rfl (i64_in (by omega) (by omega))) rfl ?_
 refine pA rfl rfl ?_
 refine WL.nil ?_
 · have e : (overW t (x.log.take (k + 1)).reverse (cellsH x.h)) = (overW t (x.log.take k).reverse (cellsH x.h)).set r.page r.cell r.new := by
     rw [takeS hk', overW, if_pos (by simpa using h116)]
   refine fun a w s => ⟨k + 1, by omega, by omega, ?_⟩
   rw [e]
   exact (s.sub (Hsub.of_sub (List.sublist_cons_self _ _))).weak (by repeat (first | exact sub_nil _ | refine sub_cons rfl ?_))
 refine WC.exit ?_
 refine WQ.thenExit ?_
 refine WQ.thenExit ?_
 refine WQ.blockExit ?_
 refine WQ.next ?_
 refine WC.seq ?_
 have e9 : (overW t (x.log.take k).reverse (cellsH x.h)) = cellsH (cmR t (lastN x.h t) :: x.h) := by rw [List.take_of_length_le (by simp at h104; omega)]; exact over_com hR hs1
 rw [e9]
 refine WC.region ?_
 refine WL.eff (E.call Try.call92 rfl (fun _ w s => w_workBegun w) rfl) rfl (fun _ => ?_)
 refine pM rfl rfl ?_
 refine gT rfl ?_
 refine pV (Y.loadA wd_67 rfl m1 rfl) rfl ?_
 refine gT rfl ?_
 refine pV (Y.loadA wd_67 rfl m0 rfl) rfl ?_
 refine gT rfl ?_
 refine pP (Y.eqlA Try.eqGuardType67 rfl rfl (weq_nine _ _)) rfl ?_
 refine pP (Y.pickT rfl rfl) rfl ?_
 refine pM rfl rfl ?_
 refine WL.known (t := 150) (r := true) rfl (by simp) ?_
 refine gT rfl ?_
 refine pP (Y.fieldAddr fa_54_0 rfl) rfl ?_
 refine gT rfl ?_
 refine pV (Y.loadAN (cs := ((x.com t)).cl i.1 i.2) wd_42 rfl (by repeat (first | exact List.Mem.head _ | apply List.Mem.tail)) (r := ((x.com t)).disk.cl) rfl) rfl ?_
 refine gT rfl ?_
 refine pP (Y.fieldAddr fa_54_0 rfl) rfl ?_
 refine gT rfl ?_
 refine pV (Y.loadAN (cs := (x).cl A c) wd_42 rfl (by repeat (first | exact List.Mem.head _ | apply List.Mem.tail)) (r := (x).disk.cl) rfl) rfl ?_
 refine gT rfl ?_
 refine pP (Y.eqlA Try.eqGuardType42 rfl rfl (weq_pages x.disk x.disk)) rfl ?_
 refine pP (Y.pickT rfl rfl) rfl ?_
 refine pA rfl rfl ?_
 refine nN ?_
 refine WC.ret ?_
 refine dn1 Try.results27 rfl (fun a w s => ?_)
 · refine ⟨?_, s.low⟩
   clear s
   first
     | rfl
     | (simp only [packed]; simp_all)
     | (simp only [packed]; rw [h23])
 refine gF rfl ?_
 refine gF rfl ?_
 refine gF rfl ?_
 refine pP (Y.pickT rfl rfl) rfl ?_
 refine pM rfl rfl ?_
 refine gF rfl ?_
 refine gF rfl ?_
 refine gF rfl ?_
 refine gF rfl ?_
 refine gF rfl ?_
 refine gF rfl ?_
 refine pP (Y.pickT rfl rfl) rfl ?_
 refine pM rfl rfl ?_
 refine gF rfl ?_
 refine gF rfl ?_
 refine gF rfl ?_
 refine pP (Y.pickT rfl rfl) rfl ?_
 refine nN ?_
 refine WC.condT rfl ?_
 refine sR ?_
 refine WL.eff (E.call Try.call92 rfl (fun _ w s => w_workBegun w) rfl) rfl (fun _ => ?_)
 refine pM rfl rfl ?_
 refine gT rfl ?_
 refine pM rfl rfl ?_
 refine gT rfl ?_
 refine pP (Y.neq rfl rfl) rfl ?_
 refine pP (Y.pickT rfl rfl) rfl ?_
 refine pA rfl rfl ?_
 refine nN ?_
 refine WC.ret ?_
 refine WQ.thenRet ?_
 refine dn1 Try.results27 rfl (fun a w s => ?_)
 · refine ⟨?_, s.low⟩
   clear s
   first
     | rfl
     | (simp only [packed]; simp_all)
     | (simp only [packed]; rw [h23])
end Go.Proofs.Ytdbcimadjmdffaa
