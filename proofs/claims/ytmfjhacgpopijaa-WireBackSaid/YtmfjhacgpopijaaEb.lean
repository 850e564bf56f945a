/- Worlds as bytes: the document. No condition. -/
import Derived.Test.YtmfjhacgpopijaaEa
set_option maxRecDepth 100000
set_option linter.unusedVariables false
set_option linter.unusedSimpArgs false
set_option linter.unusedSectionVars false
set_option maxHeartbeats 4000000
namespace Go.Proofs.Ytmfjhacgpopijaa
open Go.RowKit Go.Joins
theorem cl_num (x : Wd) (A : Option Addr) (c : Nat) : ∀ k : Nat, k < 12 → (x.cl A c)[k]? = some (.int .i64 (at0 x.nums k))
  | 0, _ => rfl
  | 1, _ => rfl
  | 2, _ => rfl
  | 3, _ => rfl
  | 4, _ => rfl
  | 5, _ => rfl
  | 6, _ => rfl
  | 7, _ => rfl
  | 8, _ => rfl
  | 9, _ => rfl
  | 10, _ => rfl
  | 11, _ => rfl
  | n + 12, h => by omega
theorem nums_len13 (x : Wd) : 13 ≤ x.nums.length := by simp [Wd.nums, Pg.nums]
theorem nums12 (x : Wd) : at0 x.nums 12 = x.safe := rfl
theorem logNums_app : ∀ a b : List R, logNums (a ++ b) = logNums a ++ logNums b
  | [], _ => rfl
  | r :: a, b => by simp [logNums, logNums_app a b]
theorem logNums_step {l : List R} {k : Nat} {r : R} (h : l[k]? = some r) : logNums (l.take (k + 1)) = logNums (l.take k) ++ r.nums := by
  rw [List.take_add_one, h, logNums_app]
  simp [logNums]
theorem nums_split (x : Wd) : x.nums = x.nums.take 13 ++ logNums x.log := by simp [Wd.nums, Pg.nums]
theorem take_at0 {l : List Int} {k : Nat} (h : k < l.length) : l.take (k + 1) = l.take k ++ [at0 l k] := by
  rw [List.take_add_one]
  simp [at0, List.getElem?_eq_getElem h]
theorem Bytes.at0 {l : List Int} (h : Bytes l) (k : Nat) : 0 ≤ Go.Proofs.Ytmfjhacgpopijaa.at0 l k ∧ Go.Proofs.Ytmfjhacgpopijaa.at0 l k < 256 := by
  unfold Go.Proofs.Ytmfjhacgpopijaa.at0
  cases e : l[k]? with
  | none => simp
  | some x => exact h x (List.mem_of_getElem? e)
theorem part_len {x : Wd} (hl : x.log.length ≤ 60) (n k : Nat) (hn : n ≤ 13) : (x.nums.take n ++ logNums (x.log.take k)).length ≤ 493 := by
  have h1 := logNums_le (x.log.take k)
  rw [List.length_append, List.length_take]
  rw [List.length_take] at h1
  omega
theorem rec_bytes {r : R} (h : Clean r) : (0 ≤ r.kind ∧ r.kind < 256) ∧ (0 ≤ r.txn ∧ r.txn < 256) ∧ (0 ≤ r.prev ∧ r.prev < 256) :=
  ⟨h.bytes _ (by simp [R.nums]), h.bytes _ (by simp [R.nums]), h.bytes _ (by simp [R.nums])⟩
theorem rec_bytesT {r : R} (h : Clean r) (ht : r.turns = true) : (0 ≤ r.page ∧ r.page < 256) ∧ (0 ≤ r.cell ∧ r.cell < 256) ∧ (0 ≤ r.old ∧ r.old < 256) ∧ (0 ≤ r.new ∧ r.new < 256) :=
  ⟨h.bytes _ (by simp [R.nums, ht]), h.bytes _ (by simp [R.nums, ht]), h.bytes _ (by simp [R.nums, ht]), h.bytes _ (by simp [R.nums, ht])⟩
theorem rec_bytesN {r : R} (h : Clean r) (hk : r.kind = 3) : 0 ≤ r.next ∧ r.next < 256 := h.bytes _ (by simp [R.nums, hk])

theorem w_worldBytes (x : Wd) (A : Option Addr) (b o c : Nat) (w : World) (hx : worldErr x = 0) (hr : RL w A b o x.log) : Ret Try.prog 7 [x.val A c] w (sv x.nums) := by
 obtain ⟨_, hB, _⟩ := wd_rd hx
 obtain ⟨hR, hl, _⟩ := world_parts hx
 have hC : ∀ r ∈ x.log, Clean r := fun r h => hR.clean r (List.mem_reverse.2 h)
 have h13 := nums_len13 x
 refine enter Try.func7 rfl Try.ntmps7 rfl SF.top trivial ?_
 refine sR ?_
 refine WL.eff (E.box rfl rfl rfl) rfl (fun b1 => ?_)
 refine pA rfl rfl ?_
 refine nN ?_
 refine sR ?_
 refine pA rfl rfl ?_
 refine nN ?_
 refine WC.seq ?_
 refine sR ?_
 refine pA rfl rfl ?_
 refine nN ?_
 refine WC.block ?_
 refine WC.le (nil_sepB w.heap.size 5 1 _) ?_
 refine WC.loop (ι := Nat × Option Addr × Nat) (fun k => [(1, .pointer (some ⟨b1, 0, none⟩)), (4, .int .i64 k.1), (3, .slice k.2.1 (x.nums.take (4 * k.1)).length k.2.2)]) (fun _ => [(b1, x.cl A c, 28)]) (fun k => (SF.own w.heap.size 5 1 (.slice k.2.1 (x.nums.take (4 * k.1)).length k.2.2) (x.nums.take (4 * k.1)).length (u8s (x.nums.take (4 * k.1)))).sep SF.top) (fun k => k.1 ≤ 3) (fun k => 3 - k.1) (0, none, 0) (Nat.zero_le _) (fun a w s => by first | exact s.weak (by repeat (first | exact sub_nil _ | refine sub_cons rfl ?_)) | exact (s.sub (Hsub.of_sub (by repeat (first | exact List.Sublist.refl _ | apply List.Sublist.cons)))).weak (by repeat (first | exact sub_nil _ | refine sub_cons rfl ?_)) | simpa using s.weak (by repeat (first | exact sub_nil _ | refine sub_cons rfl ?_))) (fun k hk => ?_)
 obtain ⟨p, Ap, cp⟩ := k
 dsimp only at hk ⊢
 refine WC.seq ?_
 refine sR ?_
 refine pM rfl rfl ?_
 refine pP (Y.lss rfl rfl) rfl ?_
 refine nN ?_
 refine WC.cond rfl (fun h9 => ?_) (fun h9 => ?_)
 refine WC.skip' ?_
 refine WQ.next ?_
 refine WC.seq ?_
 refine WC.block ?_
 refine WC.seq ?_
 refine WC.seq ?_
 have hp3 : p < 3 := by have h9 := h9; simp at h9; omega
 refine WC.region ?_
 refine pA rfl rfl ?_
 refine nN ?_
 refine WC.block ?_
 refine WC.loop (ι := Nat × Option Addr × Nat) (fun k => [(1, .pointer (some ⟨b1, 0, none⟩)), (4, .int .i64 p), (5, .int .i64 k.1), (3, .slice k.2.1 (x.nums.take (4 * p + k.1)).length k.2.2)]) (fun _ => [(b1, x.cl A c, 28)]) (fun k => (SF.own w.heap.size 5 1 (.slice k.2.1 (x.nums.take (4 * p + k.1)).length k.2.2) (x.nums.take (4 * p + k.1)).length (u8s (x.nums.take (4 * p + k.1)))).sep SF.top) (fun k => k.1 ≤ 3) (fun k => 3 - k.1) (0, Ap, cp) (Nat.zero_le _) (fun a w s => by first | exact s.weak (by repeat (first | exact sub_nil _ | refine sub_cons rfl ?_)) | exact (s.sub (Hsub.of_sub (by repeat (first | exact List.Sublist.refl _ | apply List.Sublist.cons)))).weak (by repeat (first | exact sub_nil _ | refine sub_cons rfl ?_)) | simpa using s.weak (by repeat (first | exact sub_nil _ | refine sub_cons rfl ?_))) (fun k hk => ?_)
 obtain ⟨q, Aq, cq⟩ := k
 dsimp only at hk ⊢
 refine WC.seq ?_
 refine sR ?_
 refine pM rfl rfl ?_
 refine pP (Y.lss rfl rfl) rfl ?_
 refine nN ?_
 refine WC.cond rfl (fun h13 => ?_) (fun h13 => ?_)
 refine WC.skip' ?_
 refine WQ.next ?_
 refine WC.seq ?_
 refine WC.block ?_
 have hq3 : q < 3 := by have h13 := h13; simp at h13; omega
 have hq8 := hB.at0 (4 * p + q)
 have hql : (x.nums.take (4 * p + q)).length ≤ 13 := by rw [List.length_take]; omega
 refine WC.region ?_
 refine pM rfl rfl ?_
 refine pM rfl rfl ?_
 refine pM rfl rfl ?_
 refine pP (Y.fieldAddr fa_28_0 rfl) rfl ?_
 refine pP (Y.ixArr Try.underlying25 Try.sizeOf24 rfl rfl (nat0 _) (by omega)) rfl ?_
 refine pP (Y.fieldAddr fa_24_0 rfl) rfl ?_
 refine pP (Y.ixArr Try.underlying22 Try.sizeOf3 rfl rfl (nat0 _) (by omega)) rfl ?_
 refine pV (Y.loadc fl_3 rfl (v := .int .i64 (at0 x.nums (4 * p + q))) (fun a w s => by rw [s.hp.cell (b := b1) (cs := x.cl A c) (by repeat (first | exact List.Mem.head _ | apply List.Mem.tail))]; have h := cl_num x A c (4 * p + q) (by omega); rw [← h]; congr 1; simp; omega)) rfl ?_
 refine pP (Y.toByte hq8 rfl) rfl ?_
 refine WL.eff (E.buildSlice (bs_42_1 _) rfl rfl) rfl (fun b2 => ?_)
 refine WL.eff (E.app8 [at0 x.nums (4 * p + q)] rfl rfl rfl m0 (by simp; omega) rfl) rfl (fun i => ?_)
 refine pA rfl rfl ?_
 refine WL.nil ?_
 refine WQ.blockEnd ?_
 refine WQ.next ?_
 refine WC.region ?_
 refine pM rfl rfl ?_
 refine pP (Y.add rfl rfl (i64_in (by omega) (by omega))) rfl ?_
 refine pA rfl rfl ?_
 refine WL.nil ?_
 · refine fun a w2 s => ⟨(q + 1, i), by show q + 1 ≤ 3; omega, by show 3 - (q + 1) < 3 - q; omega, ?_⟩
   show St [(1, .pointer (some ⟨b1, 0, none⟩)), (4, .int .i64 p), (5, .int .i64 ((q + 1 : Nat) : Int)), (3, .slice i.1 (x.nums.take (4 * p + (q + 1))).length i.2)] _ _ ((SF.own w.heap.size 5 1 (.slice i.1 (x.nums.take (4 * p + (q + 1))).length i.2) (x.nums.take (4 * p + (q + 1))).length (u8s (x.nums.take (4 * p + (q + 1))))).sep SF.top) _ _ _
   rw [show 4 * p + (q + 1) = 4 * p + q + 1 from by omega, take_at0 (by omega)]
   exact (s.sub (Hsub.of_sub (by repeat (first | exact List.Sublist.refl _ | apply List.Sublist.cons)))).weak (by repeat (first | exact sub_nil _ | refine sub_cons rfl ?_))
 refine WC.exit ?_
 refine WQ.thenExit ?_
 refine WQ.thenExit ?_
 refine WQ.blockExit ?_
 refine WQ.next ?_
 have hq3 : q = 3 := by have h13 := h13; simp at h13; omega
 subst hq3
 have hq8 := hB.at0 (4 * p + 3)
 have hql : (x.nums.take (4 * p + 3)).length ≤ 13 := by rw [List.length_take]; omega
 refine WC.region ?_
 refine pM rfl rfl ?_
 refine pM rfl rfl ?_
 refine pP (Y.fieldAddr fa_28_0 rfl) rfl ?_
 refine pP (Y.ixArr Try.underlying25 Try.sizeOf24 rfl rfl (nat0 _) (by omega)) rfl ?_
 refine pP (Y.fieldAddr fa_24_1 rfl) rfl ?_
 refine pV (Y.loadc fl_3 rfl (v := .int .i64 (at0 x.nums (4 * p + 3))) (fun a w s => by rw [s.hp.cell (b := b1) (cs := x.cl A c) (by repeat (first | exact List.Mem.head _ | apply List.Mem.tail))]; have h := cl_num x A c (4 * p + 3) (by omega); rw [← h]; congr 1; simp; omega)) rfl ?_
 refine pP (Y.toByte hq8 rfl) rfl ?_
 refine WL.eff (E.buildSlice (bs_42_1 _) rfl rfl) rfl (fun b3 => ?_)
 refine WL.eff (E.app8 [at0 x.nums (4 * p + 3)] rfl rfl rfl m0 (by simp; omega) rfl) rfl (fun i => ?_)
 refine pA rfl rfl ?_
 refine WL.nil ?_
 refine WQ.blockEnd ?_
 refine WQ.next ?_
 refine WC.region ?_
 refine pM rfl rfl ?_
 refine pP (Y.add rfl rfl (i64_in (by omega) (by omega))) rfl ?_
 refine pA rfl rfl ?_
 refine WL.nil ?_
 · refine fun a w2 s => ⟨(p + 1, i), by show p + 1 ≤ 3; omega, by show 3 - (p + 1) < 3 - p; omega, ?_⟩
   show St [(1, .pointer (some ⟨b1, 0, none⟩)), (4, .int .i64 ((p + 1 : Nat) : Int)), (3, .slice i.1 (x.nums.take (4 * (p + 1))).length i.2)] _ _ ((SF.own w.heap.size 5 1 (.slice i.1 (x.nums.take (4 * (p + 1))).length i.2) (x.nums.take (4 * (p + 1))).length (u8s (x.nums.take (4 * (p + 1))))).sep SF.top) _ _ _
   rw [show 4 * (p + 1) = 4 * p + 3 + 1 from by omega, take_at0 (by omega)]
   exact (s.sub (Hsub.of_sub (by repeat (first | exact List.Sublist.refl _ | apply List.Sublist.cons)))).weak (by repeat (first | exact sub_nil _ | refine sub_cons rfl ?_))
 refine WC.exit ?_
 refine WQ.thenExit ?_
 refine WQ.thenExit ?_
 refine WQ.blockExit ?_
 refine WQ.next ?_
 refine WC.seq ?_
 have hp3 : p = 3 := by have h9 := h9; simp at h9; omega
 subst hp3
 have hq8 : 0 ≤ x.safe ∧ x.safe < 256 := by have h := hB.at0 12; rw [nums12] at h; exact h
 have hql : (x.nums.take (4 * 3)).length ≤ 13 := by rw [List.length_take]; omega
 refine WC.region ?_
 refine pM rfl rfl ?_
 refine pP (Y.fieldAddr fa_28_2 rfl) rfl ?_
 refine pV (Y.load (v := .int .i64 x.safe) fl_3 rfl (by repeat (first | exact List.Mem.head _ | apply List.Mem.tail)) rfl) rfl ?_
 refine pP (Y.toByte hq8 rfl) rfl ?_
 refine WL.eff (E.buildSlice (bs_42_1 _) rfl rfl) rfl (fun b4 => ?_)
 refine WL.eff (E.app8 [x.safe] rfl rfl rfl m0 (by simp; omega) rfl) rfl (fun i => ?_)
 refine pA rfl rfl ?_
 refine nN ?_
 refine WC.seq ?_
 refine sR ?_
 refine pA rfl rfl ?_
 refine nN ?_
 refine WC.block ?_
 have e13 : x.nums.take (4 * 3) ++ [x.safe] = x.nums.take 13 ++ logNums (x.log.take 0) := by
   rw [← nums12 x, ← take_at0 (by omega)]
   simp [logNums]
 rw [e13]
 refine WC.loop (ι := Nat × Option Addr × Nat) (fun k => [(1, .pointer (some ⟨b1, 0, none⟩)), (6, .int .i64 k.1), (3, .slice k.2.1 (x.nums.take 13 ++ logNums (x.log.take k.1)).length k.2.2)]) (fun _ => [(b1, x.cl A c, 28)]) (fun k => (SF.own w.heap.size 5 1 (.slice k.2.1 (x.nums.take 13 ++ logNums (x.log.take k.1)).length k.2.2) (x.nums.take 13 ++ logNums (x.log.take k.1)).length (u8s (x.nums.take 13 ++ logNums (x.log.take k.1)))).sep SF.top) (fun k => k.1 ≤ x.log.length) (fun k => x.log.length - k.1) (0, i.1, i.2) (Nat.zero_le _) (fun a w s => by first | exact s.weak (by repeat (first | exact sub_nil _ | refine sub_cons rfl ?_)) | exact (s.sub (Hsub.of_sub (by repeat (first | exact List.Sublist.refl _ | apply List.Sublist.cons)))).weak (by repeat (first | exact sub_nil _ | refine sub_cons rfl ?_)) | simpa using s.weak (by repeat (first | exact sub_nil _ | refine sub_cons rfl ?_))) (fun k hk => ?_)
 obtain ⟨m, Am, cm⟩ := k
 dsimp only at hk ⊢
 refine WC.seq ?_
 refine sR ?_
 refine pM rfl rfl ?_
 refine pP (Y.fieldAddr fa_28_1 rfl) rfl ?_
 refine pV (Y.load (v := .slice A x.log.length c) fl_26 rfl (by repeat (first | exact List.Mem.head _ | apply List.Mem.tail)) rfl) rfl ?_
 refine pP (Y.len Try.underlying26 rfl) rfl ?_
 refine pP (Y.lss rfl rfl) rfl ?_
 refine nN ?_
 refine WC.cond rfl (fun h46 => ?_) (fun h46 => ?_)
 refine WC.skip' ?_
 refine WQ.next ?_
 refine WC.seq ?_
 refine WC.block ?_
 refine WC.seq ?_
 have hm3 : m < x.log.length := by have h46 := h46; simp at h46; omega
 obtain ⟨r, hk2⟩ := get_of_lt hm3
 have hcl := hC r (List.mem_of_getElem? hk2)
 obtain ⟨g1, g2, g3⟩ := rec_bytes hcl
 have hql := part_len hl 13 m (Nat.le_refl _)
 refine WC.region ?_
 refine pP (Y.fieldAddr fa_28_1 rfl) rfl ?_
 refine pV (Y.load (v := .slice A x.log.length c) fl_26 rfl (by repeat (first | exact List.Mem.head _ | apply List.Mem.tail)) rfl) rfl ?_
 refine pM rfl rfl ?_
 refine pP (Y.ixSlA Try.underlying26 Try.sizeOf48 rfl rfl (hr.addr hk2) (nat0 _) (get_ltI hk2)) rfl ?_
 refine pV (Y.loadAc wd_48 rfl (r := r.cl) rfl (fun a w s j hj => (hr.below s.low).full hk2 j hj)) rfl ?_
 refine WL.eff (E.alloc Try.zeroValue48 rfl rfl) rfl (fun b5 => ?_)
 refine WL.eff (E.store Try.sizeOf48 rfl rfl rfl rfl rfl u0 rfl rfl) rfl (fun _ => ?_)
 refine nN ?_
 refine sR ?_
 refine pM rfl rfl ?_
 refine pP (Y.fieldAddr fa_48_0 rfl) rfl ?_
 refine pV (Y.load (v := .int .i64 r.kind) fl_3 rfl (by repeat (first | exact List.Mem.head _ | apply List.Mem.tail)) rfl) rfl ?_
 refine pP (Y.toByte g1 rfl) rfl ?_
 refine pP (Y.fieldAddr fa_48_1 rfl) rfl ?_
 refine pV (Y.load (v := .int .i64 r.txn) fl_3 rfl (by repeat (first | exact List.Mem.head _ | apply List.Mem.tail)) rfl) rfl ?_
 refine pP (Y.toByte g2 rfl) rfl ?_
 refine pP (Y.fieldAddr fa_48_2 rfl) rfl ?_
 refine pV (Y.load (v := .int .i64 r.prev) fl_3 rfl (by repeat (first | exact List.Mem.head _ | apply List.Mem.tail)) rfl) rfl ?_
 refine pP (Y.toByte g3 rfl) rfl ?_
 refine WL.eff (E.buildSlice (bs_42_3 _ _ _) rfl rfl) rfl (fun b6 => ?_)
 refine WL.eff (E.app8 [r.kind, r.txn, r.prev] rfl rfl rfl m0 (by simp at hql ⊢; omega) rfl) rfl (fun i => ?_)
 refine pA rfl rfl ?_
 refine nN ?_
 refine WC.seq ?_
 refine sR ?_
 refine pV (Y.loadAN wd_48 rfl (by repeat (first | exact List.Mem.head _ | apply List.Mem.tail)) (r := r.cl) rfl) rfl ?_
 refine WL.eff (E.call Try.call18 rfl (fun _ w s => w_rturns r w) rfl) rfl (fun _ => ?_)
 refine nN ?_
 refine WC.cond rfl (fun h67 => ?_) (fun h67 => ?_)
 have ht2 : r.turns = true := h67
 obtain ⟨g4, g5, g6, g7⟩ := rec_bytesT hcl ht2
 refine WC.region ?_
 refine pM rfl rfl ?_
 refine pP (Y.fieldAddr fa_48_3 rfl) rfl ?_
 refine pV (Y.load (v := .int .i64 r.page) fl_3 rfl (by repeat (first | exact List.Mem.head _ | apply List.Mem.tail)) rfl) rfl ?_
 refine pP (Y.toByte g4 rfl) rfl ?_
 refine pP (Y.fieldAddr fa_48_4 rfl) rfl ?_
 refine pV (Y.load (v := .int .i64 r.cell) fl_3 rfl (by repeat (first | exact List.Mem.head _ | apply List.Mem.tail)) rfl) rfl ?_
 refine pP (Y.toByte g5 rfl) rfl ?_
 refine pP (Y.fieldAddr fa_48_5 rfl) rfl ?_
 refine pV (Y.load (v := .int .i64 r.old) fl_3 rfl (by repeat (first | exact List.Mem.head _ | apply List.Mem.tail)) rfl) rfl ?_
 refine pP (Y.toByte g6 rfl) rfl ?_
 refine pP (Y.fieldAddr fa_48_6 rfl) rfl ?_
 refine pV (Y.load (v := .int .i64 r.new) fl_3 rfl (by repeat (first | exact List.Mem.head _ | apply List.Mem.tail)) rfl) rfl ?_
 refine pP (Y.toByte g7 rfl) rfl ?_
 refine WL.eff (E.buildSlice (bs_42_4 _ _ _ _) rfl rfl) rfl (fun b7 => ?_)
 refine WL.eff (E.app8 [r.page, r.cell, r.old, r.new] rfl rfl rfl m0 (by simp at hql ⊢; omega) rfl) rfl (fun jj => ?_)
 refine pA rfl rfl ?_
 refine nN ?_
 refine sR ?_
 refine pP (Y.fieldAddr fa_48_0 rfl) rfl ?_
 refine pV (Y.load (v := .int .i64 r.kind) fl_3 rfl (by repeat (first | exact List.Mem.head _ | apply List.Mem.tail)) rfl) rfl ?_
 refine pP (Y.eql rfl rfl) rfl ?_
 refine nN ?_
 refine WC.cond rfl (fun h85 => ?_) (fun h85 => ?_)
 have hk3 : r.kind = 3 := by have h85 := h85; simpa using h85
 have g8 := rec_bytesN hcl hk3
 refine WC.region ?_
 refine pM rfl rfl ?_
 refine pP (Y.fieldAddr fa_48_7 rfl) rfl ?_
 refine pV (Y.load (v := .int .i64 r.next) fl_3 rfl (by repeat (first | exact List.Mem.head _ | apply List.Mem.tail)) rfl) rfl ?_
 refine pP (Y.toByte g8 rfl) rfl ?_
 refine WL.eff (E.buildSlice (bs_42_1 _) rfl rfl) rfl (fun b8 => ?_)
 refine WL.eff (E.app8 [r.next] rfl rfl rfl m0 (by simp at hql ⊢; omega) rfl) rfl (fun kk => ?_)
 refine pA rfl rfl ?_
 refine WL.nil ?_
 refine WQ.blockEnd ?_
 refine WQ.next ?_
 refine WC.region ?_
 refine pM rfl rfl ?_
 refine pP (Y.add rfl rfl (i64_in (by omega) (by omega))) rfl ?_
 refine pA rfl rfl ?_
 refine WL.nil ?_
 · refine fun a w2 s => ⟨(m + 1, kk), by show m + 1 ≤ x.log.length; omega, by show x.log.length - (m + 1) < x.log.length - m; omega, ?_⟩
   show St [(1, .pointer (some ⟨b1, 0, none⟩)), (6, .int .i64 ((m + 1 : Nat) : Int)), (3, .slice kk.1 (x.nums.take 13 ++ logNums (x.log.take (m + 1))).length kk.2)] _ _ ((SF.own w.heap.size 5 1 (.slice kk.1 (x.nums.take 13 ++ logNums (x.log.take (m + 1))).length kk.2) (x.nums.take 13 ++ logNums (x.log.take (m + 1))).length (u8s (x.nums.take 13 ++ logNums (x.log.take (m + 1))))).sep SF.top) _ _ _
   rw [logNums_step hk2, ← List.append_assoc]
   rw [show r.nums = [r.kind, r.txn, r.prev] ++ [r.page, r.cell, r.old, r.new] ++ [r.next] from by simp [R.nums, ht2, hk3]]
   try rw [← List.append_assoc]
   try rw [← List.append_assoc]
   exact (s.sub (Hsub.of_sub (by repeat (first | exact List.Sublist.refl _ | apply List.Sublist.cons)))).weak (by repeat (first | exact sub_nil _ | refine sub_cons rfl ?_))
 refine WC.skip' ?_
 refine WQ.blockEnd ?_
 refine WQ.next ?_
 have hk3 : r.kind ≠ 3 := by have h85 := h85; simpa using h85
 refine WC.region ?_
 refine pM rfl rfl ?_
 refine pP (Y.add rfl rfl (i64_in (by omega) (by omega))) rfl ?_
 refine pA rfl rfl ?_
 refine WL.nil ?_
 · refine fun a w2 s => ⟨(m + 1, jj), by show m + 1 ≤ x.log.length; omega, by show x.log.length - (m + 1) < x.log.length - m; omega, ?_⟩
   show St [(1, .pointer (some ⟨b1, 0, none⟩)), (6, .int .i64 ((m + 1 : Nat) : Int)), (3, .slice jj.1 (x.nums.take 13 ++ logNums (x.log.take (m + 1))).length jj.2)] _ _ ((SF.own w.heap.size 5 1 (.slice jj.1 (x.nums.take 13 ++ logNums (x.log.take (m + 1))).length jj.2) (x.nums.take 13 ++ logNums (x.log.take (m + 1))).length (u8s (x.nums.take 13 ++ logNums (x.log.take (m + 1))))).sep SF.top) _ _ _
   rw [logNums_step hk2, ← List.append_assoc]
   rw [show r.nums = [r.kind, r.txn, r.prev] ++ [r.page, r.cell, r.old, r.new] from by simp [R.nums, ht2, hk3]]
   try rw [← List.append_assoc]
   try rw [← List.append_assoc]
   exact (s.sub (Hsub.of_sub (by repeat (first | exact List.Sublist.refl _ | apply List.Sublist.cons)))).weak (by repeat (first | exact sub_nil _ | refine sub_cons rfl ?_))
 refine WC.skip' ?_
 refine WQ.next ?_
 refine WC.seq ?_
 have ht2 : r.turns = false := h67
 refine WC.region ?_
 refine pP (Y.fieldAddr fa_48_0 rfl) rfl ?_
 refine pV (Y.load (v := .int .i64 r.kind) fl_3 rfl (by repeat (first | exact List.Mem.head _ | apply List.Mem.tail)) rfl) rfl ?_
 refine pP (Y.eql rfl rfl) rfl ?_
 refine nN ?_
 refine WC.cond rfl (fun h85 => ?_) (fun h85 => ?_)
 have hk3 : r.kind = 3 := by have h85 := h85; simpa using h85
 have g8 := rec_bytesN hcl hk3
 refine WC.region ?_
 refine pM rfl rfl ?_
 refine pP (Y.fieldAddr fa_48_7 rfl) rfl ?_
 refine pV (Y.load (v := .int .i64 r.next) fl_3 rfl (by repeat (first | exact List.Mem.head _ | apply List.Mem.tail)) rfl) rfl ?_
 refine pP (Y.toByte g8 rfl) rfl ?_
 refine WL.eff (E.buildSlice (bs_42_1 _) rfl rfl) rfl (fun b9 => ?_)
 refine WL.eff (E.app8 [r.next] rfl rfl rfl m0 (by simp at hql ⊢; omega) rfl) rfl (fun kk => ?_)
 refine pA rfl rfl ?_
 refine WL.nil ?_
 refine WQ.blockEnd ?_
 refine WQ.next ?_
 refine WC.region ?_
 refine pM rfl rfl ?_
 refine pP (Y.add rfl rfl (i64_in (by omega) (by omega))) rfl ?_
 refine pA rfl rfl ?_
 refine WL.nil ?_
 · refine fun a w2 s => ⟨(m + 1, kk), by show m + 1 ≤ x.log.length; omega, by show x.log.length - (m + 1) < x.log.length - m; omega, ?_⟩
   show St [(1, .pointer (some ⟨b1, 0, none⟩)), (6, .int .i64 ((m + 1 : Nat) : Int)), (3, .slice kk.1 (x.nums.take 13 ++ logNums (x.log.take (m + 1))).length kk.2)] _ _ ((SF.own w.heap.size 5 1 (.slice kk.1 (x.nums.take 13 ++ logNums (x.log.take (m + 1))).length kk.2) (x.nums.take 13 ++ logNums (x.log.take (m + 1))).length (u8s (x.nums.take 13 ++ logNums (x.log.take (m + 1))))).sep SF.top) _ _ _
   rw [logNums_step hk2, ← List.append_assoc]
   rw [show r.nums = [r.kind, r.txn, r.prev] ++ [r.next] from by simp [R.nums, ht2, hk3]]
   try rw [← List.append_assoc]
   try rw [← List.append_assoc]
   exact (s.sub (Hsub.of_sub (by repeat (first | exact List.Sublist.refl _ | apply List.Sublist.cons)))).weak (by repeat (first | exact sub_nil _ | refine sub_cons rfl ?_))
 refine WC.skip' ?_
 refine WQ.blockEnd ?_
 refine WQ.next ?_
 have hk3 : r.kind ≠ 3 := by have h85 := h85; simpa using h85
 refine WC.region ?_
 refine pM rfl rfl ?_
 refine pP (Y.add rfl rfl (i64_in (by omega) (by omega))) rfl ?_
 refine pA rfl rfl ?_
 refine WL.nil ?_
 · refine fun a w2 s => ⟨(m + 1, i), by show m + 1 ≤ x.log.length; omega, by show x.log.length - (m + 1) < x.log.length - m; omega, ?_⟩
   show St [(1, .pointer (some ⟨b1, 0, none⟩)), (6, .int .i64 ((m + 1 : Nat) : Int)), (3, .slice i.1 (x.nums.take 13 ++ logNums (x.log.take (m + 1))).length i.2)] _ _ ((SF.own w.heap.size 5 1 (.slice i.1 (x.nums.take 13 ++ logNums (x.log.take (m + 1))).length i.2) (x.nums.take 13 ++ logNums (x.log.take (m + 1))).length (u8s (x.nums.take 13 ++ logNums (x.log.take (m + 1))))).sep SF.top) _ _ _
   rw [logNums_step hk2, ← List.append_assoc]
   rw [show r.nums = [r.kind, r.txn, r.prev] from by simp [R.nums, ht2, hk3]]
   try rw [← List.append_assoc]
   try rw [← List.append_assoc]
   exact (s.sub (Hsub.of_sub (by repeat (first | exact List.Sublist.refl _ | apply List.Sublist.cons)))).weak (by repeat (first | exact sub_nil _ | refine sub_cons rfl ?_))
 refine WC.exit ?_
 refine WQ.thenExit ?_
 refine WQ.thenExit ?_
 refine WQ.blockExit ?_
 refine WQ.next ?_
 refine WC.seq ?_
 have hm3 : m = x.log.length := by have h46 := h46; simp at h46; omega
 subst hm3
 rw [List.take_length, ← nums_split]
 refine WC.region ?_
 refine pM rfl rfl ?_
 refine pV (Y.fromBytes rfl (fun a w s => ⟨_, s.fact.1⟩)) rfl ?_
 refine pA rfl rfl ?_
 refine nN ?_
 refine WC.ret ?_
 refine dn1 Try.results7 rfl (fun a w s => ?_)
 · exact ⟨rfl, s.low⟩
end Go.Proofs.Ytmfjhacgpopijaa
