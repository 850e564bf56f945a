/- The law RollTrue. No condition. -/
import Derived.Test.YtdbcimadjmdffaaCd
import Derived.Test.YtdbcimadjmdffaaWl
set_option maxRecDepth 100000
set_option linter.unusedVariables false
set_option linter.unusedSimpArgs false
set_option linter.unusedSectionVars false
set_option maxHeartbeats 4000000
namespace Go.Proofs.Ytdbcimadjmdffaa
open Go.RowKit Go.Joins
/-- What a cell is when what stands is taken back, the newest first. -/
def backS : List R → Int → Int → Int → Int
  | [], _, _, v => v
  | x :: S, p, c, v => backS S p c (if inCell p c x then x.old else v)
theorem abort_cells : ∀ {f : Nat} {h h' : List R} {t : Int}, abortH f h t = some h' → Right h → (stt h t = 1 ∨ stt h t = 3 ∨ (stt h t = 4 ∧ sta h t = [])) → (1 ≤ t ∧ t ≤ 9) → h.length + f ≤ 61 →
    ∀ (p c : Int), 0 ≤ p ∧ p ≤ 2 → 0 ≤ c ∧ c ≤ 2 → cellOf h' p c = backS (sta h t) p c (cellOf h p c)
  | 0, _, _, _, he, _, _, _, _, _, _, _, _ => by cases he
  | f + 1, h, h', t, he, hR, hs, ht, hl, p, c, hp, hc => by
    unfold abortH at he
    by_cases h4 : stt h t = 4
    · rw [if_pos h4] at he
      obtain rfl := Option.some.inj he
      rcases hs with hs | hs | hs
      · omega
      · omega
      · rw [hs.2]; rfl
    · rw [if_neg h4] at he
      have hs : stt h t = 1 ∨ stt h t = 3 := by omega
      rcases Nat.eq_zero_or_pos f with hf | hf
      · subst hf; cases he
      · have hRu := right_undo hR (by omega) ht hs
        have htx := (undo_txn h t).1
        have hsc := stt_cons hRu
        rw [htx] at hsc
        rcases (undo_txn h t).2 with hk | hk
        · obtain ⟨x, xs, e1, e2, e3, e4, e5⟩ := back_top hRu hk
          rw [htx] at e1
          have hst : sta (undoB h t :: h) t = xs := by
            have : sta (undoB h t :: h) t = (sta h t).tail := by simp [sta, htx, hk]
            rw [this, e1]; rfl
          have htr : (undoB h t).turns = true := by simp [R.turns, hk]
          obtain ⟨hip, hic⟩ := hRu.inR _ (List.Mem.head _) htr
          rw [abort_cells he hRu (.inr (.inl (by omega))) ht (by simp; omega) p c hp hc, hst, e1, cell_turn htr hip hic hp hc]
          have ei : inCell p c (undoB h t) = inCell p c x := by unfold inCell; rw [e2, e3]
          rw [ei, e4]
          rfl
        · have hu : upB h t = [] := by
            unfold undoB at hk
            cases hu : upB h t with
            | nil => rfl
            | cons n us => rw [hu] at hk; simp [backOf] at hk
          have e1 := hR.up t
          rw [if_neg (by omega), hu] at e1
          have hst : sta h t = [] := by rw [sta_ups hR, ← e1]; rfl
          have hst2 : sta (undoB h t :: h) t = [] := by
            have : sta (undoB h t :: h) t = sta h t := by simp [sta, htx, hk]
            rw [this, hst]
          rw [abort_cells he hRu (.inr (.inr ⟨by omega, hst2⟩)) ht (by simp; omega) p c hp hc, hst2, hst, cell_stay (by simp [R.turns, hk])]
theorem abort_true {x : Wd} {t : Int} (h : (abortOf x t).2 = 0) {p c : Int} (hp : 0 ≤ p ∧ p ≤ 2) (hc : 0 ≤ c ∧ c ≤ 2) : cellOf (abortOf x t).1.h p c = backS (sta x.h t) p c (cellOf x.h p c) := by
  obtain ⟨h0, ht, hs, _⟩ := abort_ok h
  have hR := (world_right h0).2.2.1
  unfold abortOf at h ⊢
  rw [if_pos h0] at h ⊢
  by_cases h1 : (rollOf x.log t).2 = 0
  · rw [if_pos h1] at h ⊢
    cases ha : abortH (61 - x.log.length) x.h t with
    | none => rw [ha] at h; simp at h
    | some h' =>
      have h60 := (world_right h0).2.1
      have := abort_cells ha hR (by omega) ht (by rw [hlen]; omega) p c hp hc
      rw [← this]
      show cellOf (h'.reverse).reverse p c = _
      rw [List.reverse_reverse]
  · rw [if_neg h1] at h; exact absurd h h1
def backP (P : P3) (x : R) : P3 := P.set x.page ((P.get x.page).put x.cell x.old (P.get x.page).last)
theorem back_fold {p c : Int} (hp : 0 ≤ p ∧ p ≤ 2) (hc : 0 ≤ c ∧ c ≤ 2) : ∀ (S : List R) (P : P3), (∀ x ∈ S, (0 ≤ x.page ∧ x.page ≤ 2) ∧ (0 ≤ x.cell ∧ x.cell ≤ 2)) → ((S.foldl backP P).get p).cellAt c = backS S p c ((P.get p).cellAt c)
  | [], _, _ => rfl
  | x :: S, P, hb => by
    obtain ⟨b1, b2⟩ := hb x (List.Mem.head _)
    rw [List.foldl_cons, back_fold hp hc S _ fun y hy => hb y (List.mem_cons_of_mem _ hy)]
    show backS S p c _ = backS S p c (if inCell p c x then x.old else (P.get p).cellAt c)
    congr 1
    unfold backP
    rw [get_set _ b1 _ hp]
    by_cases e : p = x.page
    · subst e
      rw [if_pos rfl, put_at2 _ b2 _ _ hc]
      by_cases e2 : c = x.cell
      · subst e2; simp [inCell]
      · simp [inCell, e2, show ¬ x.cell = c from fun e => e2 e.symm]
    · rw [if_neg e]
      simp [inCell, show ¬ x.page = p from fun x => e x.symm]
def P3.row3 (p : P3) (i : Int) : List Value := [.int .i64 (p.get i).c0, .int .i64 (p.get i).c1, .int .i64 (p.get i).c2]
theorem p3_row3 (p : P3) (i : Int) (hi : 0 ≤ i ∧ i ≤ 2) : seg p.cl (0 + i.toNat * 4 + 0) 3 = some (p.row3 i) := by
  have h1 : i = 0 ∨ i = 1 ∨ i = 2 := by omega
  rcases h1 with rfl | rfl | rfl <;> rfl
theorem rev_at {S : List R} {j m : Nat} {x : R} (h : S[j]? = some x) (hm : m = S.length - 1 - j) : S.reverse[m]? = some x := by
  have hj : j < S.length := get_lt h
  rw [List.getElem?_reverse (by omega), ← h]
  congr 1
  omega
theorem take_foldl {S : List R} {j : Nat} {x : R} {P : P3} (h : S[j]? = some x) : (S.take (j + 1)).foldl backP P = backP ((S.take j).foldl backP P) x := by
  obtain ⟨hl, he⟩ := List.getElem?_eq_some_iff.1 h
  rw [List.take_succ_eq_append_getElem hl, List.foldl_append, he]
  rfl

theorem w_RollTrue (x : Wd) (A : Option Addr) (b o c : Nat) (t : Int) (w : World) (hm : x.log.length ≤ maxLen) (hcap : x.log.length ≤ c) (hr : RL w A b o x.log) : Ret Try.prog 30 [x.val A c, .int .i64 t] w (.bool true) := by
 refine enter Try.func30 rfl Try.ntmps30 rfl SF.top trivial ?_
 refine sR ?_
 refine WL.eff (E.box rfl rfl rfl) rfl (fun b1 => ?_)
 refine pA rfl rfl ?_
 refine nN ?_
 refine sR ?_
 refine pV (Y.loadAN wd_54 rfl (by repeat (first | exact List.Mem.head _ | apply List.Mem.tail)) (r := (x).cl A c) rfl) rfl ?_
 refine pM rfl rfl ?_
 refine WL.eff (E.retW ((abortOf x t).1) [.int .i64 (abortOf x t).2] Try.call88 rfl (fun _ w s => w_rollAbort x A b o c t w hm hcap (hr.below s.low)) rfl) rfl (fun i => ?_)
 refine pM rfl rfl ?_
 refine pP (Y.extract rfl rfl) rfl ?_
 refine pP (Y.extract rfl rfl) rfl ?_
 refine WL.eff (E.alloc Try.zeroValue54 rfl rfl) rfl (fun b2 => ?_)
 refine WL.eff (E.store Try.sizeOf54 rfl rfl rfl rfl rfl u0 rfl rfl) rfl (fun _ => ?_)
 refine pA rfl rfl ?_
 refine nN ?_
 refine WC.seq ?_
 refine sR ?_
 refine pM rfl rfl ?_
 refine pP (Y.neq rfl rfl) rfl ?_
 refine pM rfl rfl ?_
 refine WL.split (t := 30) rfl (fun r h30 => ?_)
 cases r
 have hcl := fun p c hp hc => abort_true (x := x) (t := t) (by simpa using h30) (p := p) (c := c) hp hc
 obtain ⟨h0, ht, hs, g, e, hRg, hlg, hs4, hg, hw⟩ := abort_ok (x := x) (t := t) (by simpa using h30)
 rw [e] at hcl
 rw [e]
 dsimp only at hcl ⊢
 clear h30
 have hR := (world_right h0).2.2.1
 have h60 := (world_right h0).2.1
 have lx := (world_right h0).1
 have ly := (world_right hw).1
 have nx := now_ok h0
 have ny := now_ok hw
 have cx := cells_ok h0
 have cy : cellsOf (x.at (g ++ x.h)).log = cellsH x.h := by rw [cells_ok hw, at_h, (must_undos hg).1]
 have ey : (logState (x.at (g ++ x.h)).log t).2.2 = 0 := by rw [logState_ok ly ht]
 have sy : (logState (x.at (g ++ x.h)).log t).1 = 4 := by
   rw [logState_ok ly ht]
   show (stt (x.at (g ++ x.h)).h t : Int) = 4
   rw [at_h, hs4]
   rfl
 refine gT rfl ?_
 refine pV (Y.loadAN wd_54 rfl (by repeat (first | exact List.Mem.head _ | apply List.Mem.tail)) (r := (x).cl A c) rfl) rfl ?_
 refine gT rfl ?_
 refine WL.eff (E.call Try.call77 rfl (fun _ w s => w_worldCheck x A b o c w hm hcap (hr.below s.low)) rfl) rfl (fun _ => ?_)
 refine gT rfl ?_
 refine pP (Y.neq rfl rfl) rfl ?_
 refine pP (Y.pickF rfl rfl) rfl ?_
 refine nN ?_
 refine WC.isF rfl (by rw [h0]; rfl) ?_
 refine WC.skip' ?_
 refine WQ.next ?_
 refine sR ?_
 refine pV (Y.loadAN wd_54 rfl (by repeat (first | exact List.Mem.head _ | apply List.Mem.tail)) (r := (x).cl A c) rfl) rfl ?_
 refine WL.eff (E.call Try.call69 rfl (fun _ w s => w_worldNow x A b o c w hm hcap (hr.below s.low)) rfl) rfl (fun _ => ?_)
 refine pM rfl rfl ?_
 refine pP (Y.extract rfl rfl) rfl ?_
 refine pP (Y.extract rfl rfl) rfl ?_
 refine WL.eff (E.alloc Try.zeroValue42 rfl rfl) rfl (fun b3 => ?_)
 refine WL.eff (E.store Try.sizeOf42 rfl rfl rfl rfl rfl u0 rfl rfl) rfl (fun _ => ?_)
 refine pA rfl rfl ?_
 refine nN ?_
 refine sR ?_
 refine pV (Y.loadAN wd_54 rfl (by repeat (first | exact List.Mem.head _ | apply List.Mem.tail)) (r := ((x.at (g ++ x.h))).cl i.1 i.2) rfl) rfl ?_
 refine WL.eff (E.call Try.call69 rfl (fun _ w s => w_worldNow (x.at (g ++ x.h)) i.1 (gOf i.1) 0 i.2 w (own_max s.fact.1) (own_le s.fact.1) (own_RL s.fact.1)) rfl) rfl (fun _ => ?_)
 refine pM rfl rfl ?_
 refine pP (Y.extract rfl rfl) rfl ?_
 refine pP (Y.extract rfl rfl) rfl ?_
 refine WL.eff (E.alloc Try.zeroValue42 rfl rfl) rfl (fun b4 => ?_)
 refine WL.eff (E.store Try.sizeOf42 rfl rfl rfl rfl rfl u0 rfl rfl) rfl (fun _ => ?_)
 refine pA rfl rfl ?_
 refine nN ?_
 refine sR ?_
 refine pP (Y.fieldAddr fa_54_1 rfl) rfl ?_
 refine pV (Y.load (cs := (x).cl A c) (v := .slice A (x).log.length c) fl_39 rfl (by repeat (first | exact List.Mem.head _ | apply List.Mem.tail)) rfl) rfl ?_
 refine WL.eff (E.call Try.call68 rfl (fun _ w s => w_cells x.log A b o c w hm (hr.below s.low)) rfl) rfl (fun _ => ?_)
 refine pM rfl rfl ?_
 refine pP (Y.extract rfl rfl) rfl ?_
 refine pP (Y.extract rfl rfl) rfl ?_
 refine WL.eff (E.alloc Try.zeroValue67 rfl rfl) rfl (fun b5 => ?_)
 refine WL.eff (E.store Try.sizeOf67 rfl rfl rfl rfl rfl u0 rfl rfl) rfl (fun _ => ?_)
 refine pA rfl rfl ?_
 refine nN ?_
 refine sR ?_
 refine pP (Y.fieldAddr fa_54_1 rfl) rfl ?_
 refine pV (Y.load (cs := ((x.at (g ++ x.h))).cl i.1 i.2) (v := .slice i.1 ((x.at (g ++ x.h))).log.length i.2) fl_39 rfl (by repeat (first | exact List.Mem.head _ | apply List.Mem.tail)) rfl) rfl ?_
 refine WL.eff (E.call Try.call68 rfl (fun _ w s => w_cells (x.at (g ++ x.h)).log i.1 (gOf i.1) 0 i.2 w (own_max s.fact.1) (own_RL s.fact.1)) rfl) rfl (fun _ => ?_)
 refine pM rfl rfl ?_
 refine pP (Y.extract rfl rfl) rfl ?_
 refine pP (Y.extract rfl rfl) rfl ?_
 refine WL.eff (E.alloc Try.zeroValue67 rfl rfl) rfl (fun b6 => ?_)
 refine WL.eff (E.store Try.sizeOf67 rfl rfl rfl rfl rfl u0 rfl rfl) rfl (fun _ => ?_)
 refine pA rfl rfl ?_
 refine nN ?_
 refine sR ?_
 refine pP (Y.fieldAddr fa_54_1 rfl) rfl ?_
 refine pV (Y.load (cs := ((x.at (g ++ x.h))).cl i.1 i.2) (v := .slice i.1 ((x.at (g ++ x.h))).log.length i.2) fl_39 rfl (by repeat (first | exact List.Mem.head _ | apply List.Mem.tail)) rfl) rfl ?_
 refine pM rfl rfl ?_
 refine WL.eff (E.call Try.call58 rfl (fun _ w s => w_logState (x.at (g ++ x.h)).log i.1 (gOf i.1) 0 i.2 t w (own_RL s.fact.1)) rfl) rfl (fun _ => ?_)
 refine pM rfl rfl ?_
 refine pP (Y.extract rfl rfl) rfl ?_
 refine pP (Y.extract rfl rfl) rfl ?_
 refine pP (Y.extract rfl rfl) rfl ?_
 refine pA rfl rfl ?_
 refine pA rfl rfl ?_
 refine pA rfl rfl ?_
 refine nN ?_
 refine WC.seq ?_
 refine WC.seq ?_
 rw [nx, ny, lx, ly, cx, cy, sy, ey]
 dsimp only
 refine WC.region ?_
 refine pM rfl rfl ?_
 refine pP (Y.neq rfl rfl) rfl ?_
 refine pM rfl rfl ?_
 refine WL.known (t := 72) (r := false) rfl (by first | rfl | simp) ?_
 refine gT rfl ?_
 refine pM rfl rfl ?_
 refine gT rfl ?_
 refine pP (Y.neq rfl rfl) rfl ?_
 refine pP (Y.pickF rfl rfl) rfl ?_
 refine pM rfl rfl ?_
 refine WL.known (t := 76) (r := false) rfl (by first | rfl | simp) ?_
 refine gT rfl ?_
 refine pM rfl rfl ?_
 refine gT rfl ?_
 refine pP (Y.neq rfl rfl) rfl ?_
 refine pP (Y.pickF rfl rfl) rfl ?_
 refine pM rfl rfl ?_
 refine WL.known (t := 80) (r := false) rfl (by first | rfl | simp) ?_
 refine gT rfl ?_
 refine pM rfl rfl ?_
 refine gT rfl ?_
 refine pP (Y.neq rfl rfl) rfl ?_
 refine pP (Y.pickF rfl rfl) rfl ?_
 refine pM rfl rfl ?_
 refine WL.known (t := 84) (r := false) rfl (by first | rfl | simp) ?_
 refine gT rfl ?_
 refine pM rfl rfl ?_
 refine gT rfl ?_
 refine pP (Y.neq rfl rfl) rfl ?_
 refine pP (Y.pickF rfl rfl) rfl ?_
 refine pM rfl rfl ?_
 refine WL.known (t := 88) (r := false) rfl (by first | rfl | simp) ?_
 refine gT rfl ?_
 refine pV (Y.loadA wd_67 rfl m1 rfl) rfl ?_
 refine gT rfl ?_
 refine pV (Y.loadA wd_67 rfl m0 rfl) rfl ?_
 refine gT rfl ?_
 refine pP (Y.neqA Try.eqGuardType67 rfl rfl (weq_nine _ _)) rfl ?_
 refine pP (Y.pickF rfl rfl) rfl ?_
 refine pM rfl rfl ?_
 refine WL.known (t := 93) (r := false) rfl (by first | rfl | simp) ?_
 refine gT rfl ?_
 refine pM rfl rfl ?_
 refine gT rfl ?_
 refine pP (Y.neq rfl rfl) rfl ?_
 refine pP (Y.pickF rfl rfl) rfl ?_
 refine pM rfl rfl ?_
 refine WL.known (t := 97) (r := false) rfl (by first | rfl | simp) ?_
 refine gT rfl ?_
 refine pP (Y.fieldAddr fa_54_0 rfl) rfl ?_
 refine gT rfl ?_
 refine pV (Y.loadAN (cs := ((x.at (g ++ x.h))).cl i.1 i.2) wd_42 rfl (by repeat (first | exact List.Mem.head _ | apply List.Mem.tail)) (r := ((x.at (g ++ x.h))).disk.cl) rfl) rfl ?_
 refine gT rfl ?_
 refine pP (Y.fieldAddr fa_54_0 rfl) rfl ?_
 refine gT rfl ?_
 refine pV (Y.loadAN (cs := (x).cl A c) wd_42 rfl (by repeat (first | exact List.Mem.head _ | apply List.Mem.tail)) (r := (x).disk.cl) rfl) rfl ?_
 refine gT rfl ?_
 refine pP (Y.neqA Try.eqGuardType42 rfl rfl (weq_pages x.disk x.disk)) rfl ?_
 refine pP (Y.pickF rfl rfl) rfl ?_
 refine pM rfl rfl ?_
 refine WL.known (t := 104) (r := false) rfl (by first | rfl | simp) ?_
 refine gT rfl ?_
 refine pV (Y.loadAN wd_54 rfl (by repeat (first | exact List.Mem.head _ | apply List.Mem.tail)) (r := ((x.at (g ++ x.h))).cl i.1 i.2) rfl) rfl ?_
 refine gT rfl ?_
 refine WL.eff (E.call Try.call77 rfl (fun _ w s => w_worldCheck (x.at (g ++ x.h)) i.1 (gOf i.1) 0 i.2 w (own_max s.fact.1) (own_le s.fact.1) (own_RL s.fact.1)) rfl) rfl (fun _ => ?_)
 refine gT rfl ?_
 refine pP (Y.neq rfl rfl) rfl ?_
 refine pP (Y.pickF rfl rfl) rfl ?_
 refine nN ?_
 refine WC.isF rfl (by rw [hw]; rfl) ?_
 refine WC.skip' ?_
 refine WQ.next ?_
 refine WC.seq ?_
 have hsl := sta_len x.h t
 rw [hlen] at hsl
 refine WC.region ?_
 refine pP (Y.fieldAddr fa_54_1 rfl) rfl ?_
 refine pV (Y.load (cs := (x).cl A c) (v := .slice A (x).log.length c) fl_39 rfl (by repeat (first | exact List.Mem.head _ | apply List.Mem.tail)) rfl) rfl ?_
 refine pM rfl rfl ?_
 refine WL.eff (E.callF (fun q : Option Addr × Nat => .slice q.1 (sta x.h t).length q.2) (fun q => (SF.own w.heap.size 34 8 (.slice q.1 (sta x.h t).length q.2) (sta x.h t).length (flat (sta x.h t).reverse))) Try.call61 rfl (fun _ w s => (w_standing x.log A b o c t w h60 (hr.below s.low)).mono fun e w' ⟨i, he, hb, ho⟩ => ⟨i, he, hb, ownsRow_le ho s.low.size, fun g hg => .inl (ho.lt g hg).1⟩) rfl) rfl (fun q => ?_)
 refine pA rfl rfl ?_
 refine nN ?_
 refine WC.seq ?_
 refine sR ?_
 refine pM rfl rfl ?_
 refine pP (Y.len Try.underlying39 rfl) rfl ?_
 refine pP (Y.sub rfl rfl (i64_in (by omega) (by omega))) rfl ?_
 refine pA rfl rfl ?_
 refine nN ?_
 refine WC.block ?_
 refine WC.loop (ι := Nat) (fun j => [(2, .pointer (some ⟨b1, 0, none⟩)), (7, .pointer (some ⟨b3, 0, none⟩)), (9, .pointer (some ⟨b4, 0, none⟩)), (18, .slice q.1 (sta x.h t).length q.2), (19, .int .i64 (((sta x.h t).length : Int) - 1 - (j : Int)))]) (fun j => [(b6, (cellsH x.h).cl, 67), (b5, (cellsH x.h).cl, 67), (b4, (pagesOf (x.at (g ++ x.h)).h).cl, 42), (b3, (((sta x.h t).take j).foldl backP (pagesOf x.h)).cl, 42), (b2, (x.at (g ++ x.h)).cl i.1 i.2, 54), (b1, x.cl A c, 54)]) (fun _ => ((SF.own w.heap.size 34 8 (.slice i.1 (x.at (g ++ x.h)).log.length i.2) (x.at (g ++ x.h)).log.length (flat (x.at (g ++ x.h)).log)).sep SF.top).and (SF.own w.heap.size 34 8 (.slice q.1 (sta x.h t).length q.2) (sta x.h t).length (flat (sta x.h t).reverse))) (fun j => j ≤ (sta x.h t).length) (fun j => (sta x.h t).length - j) 0 (Nat.zero_le _) (fun a w s => by dsimp only; rw [show (((sta x.h t).length : Int) - 1 - ((0 : Nat) : Int)) = ((sta x.h t).length : Int) - 1 by omega]; exact s.weak (by repeat (first | exact sub_nil _ | refine sub_cons rfl ?_))) (fun j hj => ?_)
 refine WC.seq ?_
 refine sR ?_
 refine pM rfl rfl ?_
 refine pP (Y.geq rfl rfl) rfl ?_
 refine nN ?_
 refine WC.cond rfl (fun h117 => ?_) (fun h117 => ?_)
 refine WC.skip' ?_
 refine WQ.next ?_
 refine WC.seq ?_
 refine WC.block ?_
 refine WC.seq ?_
 have hjl : j < (sta x.h t).length := by simp at h117; omega
 obtain ⟨x9, hx⟩ := get_of_lt (l := (sta x.h t)) (k := j) hjl
 obtain ⟨m, hm9⟩ : ∃ m : Nat, m = (sta x.h t).length - 1 - j := ⟨_, rfl⟩
 have hxr := rev_at hx hm9
 have em : (((sta x.h t).length : Int) - 1 - (j : Int)) = (m : Int) := by omega
 rw [em]
 obtain ⟨hmem, htx9, hk9⟩ := sta_mem (List.mem_of_getElem? hx)
 obtain ⟨hp, hc⟩ := hR.inR x9 hmem (by simp [R.turns, hk9])
 refine WC.know (p := q.1 = some ⟨gOf q.1, 0, none⟩) (fun a w s => (own_RLr s.fact.2).addr (i := m) (r := x9) hxr) (fun hA => ?_)
 refine WC.region ?_
 refine pM rfl rfl ?_
 refine pM rfl rfl ?_
 refine pP (Y.ixSlA (A := q.1) (b := gOf q.1) (o := 0) Try.underlying39 Try.sizeOf34 rfl rfl hA (by omega) (by omega)) rfl ?_
 refine pV (Y.loadAc wd_34 rfl (r := x9.cl) rfl (fun a w s j hj => (own_RLr s.fact.2).full (i := m) hxr j hj)) rfl ?_
 refine WL.eff (E.alloc Try.zeroValue34 rfl rfl) rfl (fun b7 => ?_)
 refine WL.eff (E.store Try.sizeOf34 rfl rfl rfl rfl rfl u0 rfl rfl) rfl (fun _ => ?_)
 refine nN ?_
 refine sR ?_
 refine pP (Y.fieldAddr fa_34_3 rfl) rfl ?_
 refine pV (Y.load fl_3 rfl m0 rfl) rfl ?_
 refine pP (Y.geq rfl rfl) rfl ?_
 refine pM rfl rfl ?_
 refine WL.known (t := 127) (r := true) rfl (by simp; omega) ?_
 refine gT rfl ?_
 refine pP (Y.fieldAddr fa_34_3 rfl) rfl ?_
 refine gT rfl ?_
 refine pV (Y.load fl_3 rfl m0 rfl) rfl ?_
 refine gT rfl ?_
 refine pP (Y.lss rfl rfl) rfl ?_
 refine pP (Y.pickT rfl rfl) rfl ?_
 refine pM rfl rfl ?_
 refine WL.known (t := 132) (r := true) rfl (by simp; omega) ?_
 refine gT rfl ?_
 refine pP (Y.fieldAddr fa_34_4 rfl) rfl ?_
 refine gT rfl ?_
 refine pV (Y.load fl_3 rfl m0 rfl) rfl ?_
 refine gT rfl ?_
 refine pP (Y.geq rfl rfl) rfl ?_
 refine pP (Y.pickT rfl rfl) rfl ?_
 refine pM rfl rfl ?_
 refine WL.known (t := 137) (r := true) rfl (by simp; omega) ?_
 refine gT rfl ?_
 refine pP (Y.fieldAddr fa_34_4 rfl) rfl ?_
 refine gT rfl ?_
 refine pV (Y.load fl_3 rfl m0 rfl) rfl ?_
 refine gT rfl ?_
 refine pP (Y.lss rfl rfl) rfl ?_
 refine pP (Y.pickT rfl rfl) rfl ?_
 refine nN ?_
 refine WC.isT rfl (by simp; omega) ?_
 refine WC.draw [(0, .q false), (1, .q true), (2, .q false), (3, .q true), (4, .q false), (5, .q true), (6, .q false), (7, .q false), (8, .q false), (9, .s true)] mixed (by kernel_rfl) ?_
 refine dP (Y.fieldAddr fa_34_3 rfl) rfl rfl ?_
 refine dV (Y.load fl_3 rfl m0 rfl) rfl rfl ?_
 refine dP (Y.fieldAddr fa_34_4 rfl) rfl rfl ?_
 refine dV (Y.load fl_3 rfl m0 rfl) rfl rfl ?_
 refine dP (Y.fieldAddr fa_34_5 rfl) rfl rfl ?_
 refine dV (Y.load fl_3 rfl m0 rfl) rfl rfl ?_
 refine dP (Y.ixArr Try.underlying42 Try.sizeOf24 rfl rfl hp.1 (by omega)) rfl rfl ?_
 refine dP (Y.fieldAddr fa_24_0 rfl) rfl rfl ?_
 refine dP (Y.ixArr Try.underlying22 Try.sizeOf3 rfl rfl hc.1 (by omega)) rfl rfl ?_
 refine WDm.spec (WS.free rfl (E.storeP Try.sizeOf3 rfl rfl rfl rfl rfl (by repeat (first | exact Upd.here | apply Upd.there)) (by rw [cl_len]; omega) (put_cell (((sta x.h t).take j).foldl backP (pagesOf x.h)) x9.page x9.cell x9.old hp hc))) (fun _ => sub_refl _) (fun _ => ?_)
 refine WDm.nil (WQ.and ?_)
 refine WQ.blockEnd ?_
 refine WQ.next ?_
 refine WC.region ?_
 refine pM rfl rfl ?_
 refine pP (Y.sub rfl rfl (i64_in (by omega) (by omega))) rfl ?_
 refine pA rfl rfl ?_
 refine WL.nil ?_
 · refine fun a w s => ⟨j + 1, by omega, by omega, ?_⟩
   rw [take_foldl hx, show (((sta x.h t).length : Int) - 1 - ((j + 1 : Nat) : Int)) = (m : Int) - 1 by omega]
   exact (s.sub (Hsub.of_sub (List.sublist_cons_self _ _))).weak (by repeat (first | exact sub_nil _ | refine sub_cons rfl ?_))
 refine WC.exit ?_
 refine WQ.thenExit ?_
 refine WQ.thenExit ?_
 refine WQ.blockExit ?_
 refine WQ.next ?_
 refine WC.seq ?_
 refine sR ?_
 refine pA rfl rfl ?_
 refine nN ?_
 refine WC.block ?_
 have ejl : j = (sta x.h t).length := by simp at h117; omega
 subst ejl
 have hrow : ∀ p : Int, 0 ≤ p ∧ p ≤ 2 → ∀ c : Int, 0 ≤ c ∧ c ≤ 2 → ((((sta x.h t).take (sta x.h t).length).foldl backP (pagesOf x.h)).get p).cellAt c = ((pagesOf (x.at (g ++ x.h)).h).get p).cellAt c := fun p hp c hc => by
   rw [List.take_of_length_le (Nat.le_refl _), back_fold hp hc _ _ fun x hx => by
     obtain ⟨m1, m2, m3⟩ := sta_mem hx
     exact hR.inR x m1 (by simp [R.turns, m3])]
   exact (hcl p c hp hc).symm
 refine WC.loop (ι := Int) (fun p => [(7, .pointer (some ⟨b3, 0, none⟩)), (9, .pointer (some ⟨b4, 0, none⟩)), (21, .int .i64 p)]) (fun _ => [(b6, (cellsH x.h).cl, 67), (b5, (cellsH x.h).cl, 67), (b4, (pagesOf (x.at (g ++ x.h)).h).cl, 42), (b3, (((sta x.h t).take (sta x.h t).length).foldl backP (pagesOf x.h)).cl, 42), (b2, (x.at (g ++ x.h)).cl i.1 i.2, 54), (b1, x.cl A c, 54)]) (fun _ => ((SF.own w.heap.size 34 8 (.slice i.1 (x.at (g ++ x.h)).log.length i.2) (x.at (g ++ x.h)).log.length (flat (x.at (g ++ x.h)).log)).sep SF.top).and (SF.own w.heap.size 34 8 (.slice q.1 (sta x.h t).length q.2) (sta x.h t).length (flat (sta x.h t).reverse))) (fun p => 0 ≤ p ∧ p ≤ 3) (fun p => (3 - p).toNat) 0 (by omega) (fun a w s => s.weak (by repeat (first | exact sub_nil _ | refine sub_cons rfl ?_))) (fun p hp => ?_)
 refine WC.seq ?_
 refine sR ?_
 refine pM rfl rfl ?_
 refine pP (Y.lss rfl rfl) rfl ?_
 refine nN ?_
 refine WC.cond rfl (fun h152 => ?_) (fun h152 => ?_)
 refine WC.skip' ?_
 refine WQ.next ?_
 refine WC.seq ?_
 refine WC.block ?_
 refine WC.seq ?_
 have hp2 : 0 ≤ p ∧ p ≤ 2 := by simp at h152; omega
 have r0 := hrow p hp2 0 (by omega)
 have r1 := hrow p hp2 1 (by omega)
 have r2 := hrow p hp2 2 (by omega)
 simp only [Pg.cellAt] at r0 r1 r2
 simp at r0 r1 r2
 refine WC.draw [(0, .q false), (1, .q false), (2, .q false), (3, .q true), (4, .q false), (5, .q false), (6, .q false), (7, .q true), (8, .q false)] mixed (by kernel_rfl) ?_
 refine dP (Y.move rfl) rfl rfl ?_
 refine dP (Y.ixArr Try.underlying42 Try.sizeOf24 rfl rfl hp2.1 (by omega)) rfl rfl ?_
 refine dP (Y.fieldAddr fa_24_0 rfl) rfl rfl ?_
 refine dV (Y.loadAN wd_22 rfl m3 (p3_row3 (((sta x.h t).take (sta x.h t).length).foldl backP (pagesOf x.h)) p hp2)) rfl rfl ?_
 refine dP (Y.move rfl) rfl rfl ?_
 refine dP (Y.ixArr Try.underlying42 Try.sizeOf24 rfl rfl hp2.1 (by omega)) rfl rfl ?_
 refine dP (Y.fieldAddr fa_24_0 rfl) rfl rfl ?_
 refine dV (Y.loadAN wd_22 rfl m2 (p3_row3 (pagesOf (x.at (g ++ x.h)).h) p hp2)) rfl rfl ?_
 refine dP (Y.neqA Try.eqGuardType22 rfl rfl (weq_three _ _ _ _ _ _)) rfl rfl ?_
 refine WDm.nil (WQ.and ?_)
 refine WQ.next ?_
 refine WC.isF rfl (by simp [r0, r1, r2]) ?_
 refine WC.skip' ?_
 refine WQ.blockEnd ?_
 refine WQ.next ?_
 refine WC.region ?_
 refine pM rfl rfl ?_
 refine pP (Y.add rfl rfl (i64_in (by omega) (by omega))) rfl ?_
 refine pA rfl rfl ?_
 refine WL.nil ?_
 · exact fun a w s => ⟨p + 1, by omega, by omega, s.weak (by repeat (first | exact sub_nil _ | refine sub_cons rfl ?_))⟩
 refine WC.exit ?_
 refine WQ.thenExit ?_
 refine WQ.thenExit ?_
 refine WQ.blockExit ?_
 refine WQ.next ?_
 refine sR ?_
 refine WL.eff (E.call Try.call87 rfl (fun _ w s => w_rollBegun w) rfl) rfl (fun _ => ?_)
 refine pA rfl rfl ?_
 refine nN ?_
 refine WC.ret ?_
 refine dn1 Try.results30 rfl (fun a w s => ?_)
 · refine ⟨?_, s.low⟩
   clear s
   first
     | rfl
     | (simp only [packed]; simp_all)
     | (simp only [packed]; rw [h30])
 refine gF rfl ?_
 refine gF rfl ?_
 refine gF rfl ?_
 refine pP (Y.pickT rfl rfl) rfl ?_
 refine nN ?_
 refine WC.condT rfl ?_
 refine sR ?_
 refine WL.eff (E.call Try.call87 rfl (fun _ w s => w_rollBegun w) rfl) rfl (fun _ => ?_)
 refine pM rfl rfl ?_
 refine gT rfl ?_
 refine pM rfl rfl ?_
 refine gT rfl ?_
 refine pP (Y.neq rfl rfl) rfl ?_
 refine pP (Y.pickT rfl rfl) rfl ?_
 refine pA rfl rfl ?_
 refine nN ?_
 refine WC.ret ?_
 refine WQ.thenRet ?_
 refine dn1 Try.results30 rfl (fun a w s => ?_)
 · refine ⟨?_, s.low⟩
   clear s
   first
     | rfl
     | (simp only [packed]; simp_all)
     | (simp only [packed]; rw [h30])
end Go.Proofs.Ytdbcimadjmdffaa
