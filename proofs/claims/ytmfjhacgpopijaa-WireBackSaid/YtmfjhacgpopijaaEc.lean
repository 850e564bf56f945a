/- Worlds as bytes: Write. No condition. -/
import Derived.Test.YtmfjhacgpopijaaEb
set_option maxRecDepth 100000
set_option linter.unusedVariables false
set_option linter.unusedSimpArgs false
set_option linter.unusedSectionVars false
set_option maxHeartbeats 4000000
namespace Go.Proofs.Ytmfjhacgpopijaa
open Go.RowKit Go.Joins
theorem slThree (b : Nat) (w : World) : (Instr.sliceAt 22 (.pointer (some ⟨b, 0, none⟩)) none none none).run Try.prog w = .ok (.slice (some ⟨b, 0, none⟩) 3 3) w := by kernel_rfl
theorem Bytes.nil : Bytes [] := fun _ h => by cases h
theorem Bytes.cons {a : Int} {l : List Int} (h : 0 ≤ a ∧ a < 256) (k : Bytes l) : Bytes (a :: l) := fun x hx => by
  rcases List.mem_cons.1 hx with rfl | hx
  · exact h
  · exact k x hx
theorem page_step (x : Wd) : ∀ p : Nat, p < 3 → x.nums.take (4 * (p + 1)) = (x.nums.take (4 * p) ++ [(x.disk.get p).c0, (x.disk.get p).c1, (x.disk.get p).c2]) ++ [(x.disk.get p).last]
  | 0, _ => rfl
  | 1, _ => rfl
  | 2, _ => rfl
  | n + 3, h => by omega
theorem one_at {a : Int} (k : Nat) (y : Int) (h : ([a] : List Int)[k]? = some y) : ([.int .i64 a] : List Value)[k]? = some (.int .i64 y) := ints_at [a] k y h
theorem thr_at {a b c : Int} {l : List Value} (k : Nat) (y : Int) (h : ([a, b, c] : List Int)[k]? = some y) : (.int .i64 a :: .int .i64 b :: .int .i64 c :: l : List Value)[k]? = some (.int .i64 y) := by
  rcases k with _ | _ | _ | k <;> simp_all
theorem fou_at {a b c d : Int} (k : Nat) (y : Int) (h : ([a, b, c, d] : List Int)[k]? = some y) : ([.int .i64 a, .int .i64 b, .int .i64 c, .int .i64 d] : List Value)[k]? = some (.int .i64 y) := ints_at [a, b, c, d] k y h

theorem w_wireWrite (x : Wd) (A : Option Addr) (b o c : Nat) (w : World) (hm : x.log.length ≤ maxLen) (hcap : x.log.length ≤ c) (hr : RL w A b o x.log) : Ret Try.prog 5 [x.val A c] w (.tuple #[sv (if worldErr x = 0 then x.nums else []), .int .i64 (worldErr x)]) := by
 refine enter Try.func5 rfl Try.ntmps5 rfl SF.top trivial ?_
 refine sR ?_
 refine WL.eff (E.box rfl rfl rfl) rfl (fun b1 => ?_)
 refine pA rfl rfl ?_
 refine pA rfl rfl ?_
 refine nN ?_
 refine WC.seq ?_
 refine sR ?_
 refine pV (Y.loadAN wd_28 rfl m0 (r := x.cl A c) rfl) rfl ?_
 refine WL.eff (E.call Try.call12 rfl (fun _ w s => w_worldCheck x A b o c w hm hcap (hr.below s.low)) rfl) rfl (fun _ => ?_)
 refine pA rfl rfl ?_
 refine nN ?_
 refine sR ?_
 refine pM rfl rfl ?_
 refine pP (Y.neq rfl rfl) rfl ?_
 refine nN ?_
 refine WC.cond rfl (fun h13 => ?_) (fun h13 => ?_)
 refine sR ?_
 refine pM rfl rfl ?_
 refine pA rfl rfl ?_
 refine pA rfl rfl ?_
 refine nN ?_
 refine WC.ret ?_
 refine WQ.thenRet ?_
 refine WQ.done Try.results5 (RVs.cons (RV.tmp rfl) (RVs.cons (RV.tmp rfl) RVs.nil)) (fun a w s => ?_)
 · refine ⟨?_, s.low⟩
   rw [if_neg (by have h13 := h13; simpa using h13)]
   rfl
 refine WC.skip' ?_
 refine WQ.next ?_
 refine WC.seq ?_
 have h0 : worldErr x = 0 := by have h13 := h13; simpa using h13
 obtain ⟨_, hB, _⟩ := wd_rd h0
 obtain ⟨hR, hl, hsf, hp0, hp1, hp2⟩ := world_parts h0
 have hC : ∀ r ∈ x.log, Clean r := fun r h => hR.clean r (List.mem_reverse.2 h)
 have hP : x.disk.ok = true := by simp [P3.ok, hp0, hp1, hp2]
 have h13' := nums_len13 x
 refine WC.region ?_
 refine pP (Y.build rfl (bf_44 )) rfl ?_
 refine WL.eff (E.box rfl rfl rfl) rfl (fun b2 => ?_)
 refine pA rfl rfl ?_
 refine nN ?_
 refine WC.seq ?_
 refine sR ?_
 refine pP (Y.fieldAddr fa_28_0 rfl) rfl ?_
 refine pV (Y.loadAN wd_25 rfl m1 (r := x.disk.cl) rfl) rfl ?_
 refine pM rfl rfl ?_
 refine nN ?_
 refine WC.block ?_
 refine WC.le (nil_sepB w.heap.size 5 1 _) ?_
 refine WC.loop (ι := Nat × Option Addr × Nat) (fun k => [(1, .pointer (some ⟨b1, 0, none⟩)), (5, .pointer (some ⟨b2, 0, none⟩)), (18, x.disk.val), (19, .int .i64 k.1)]) (fun k => [(b2, [.slice k.2.1 (x.nums.take (4 * k.1)).length k.2.2], 44), (b1, x.cl A c, 28)]) (fun k => (SF.own w.heap.size 5 1 (.slice k.2.1 (x.nums.take (4 * k.1)).length k.2.2) (x.nums.take (4 * k.1)).length (u8s (x.nums.take (4 * k.1)))).sep SF.top) (fun k => k.1 ≤ 3) (fun k => 3 - k.1) (0, none, 0) (Nat.zero_le _) (fun a w s => by first | exact s.weak (by repeat (first | exact sub_nil _ | refine sub_cons rfl ?_)) | exact (s.sub (Hsub.of_sub (by repeat (first | exact List.Sublist.refl _ | apply List.Sublist.cons_cons | apply List.Sublist.cons)))).weak (by repeat (first | exact sub_nil _ | refine sub_cons rfl ?_)) | simpa using s.weak (by repeat (first | exact sub_nil _ | refine sub_cons rfl ?_))) (fun k hk => ?_)
 obtain ⟨p, Ap, cp⟩ := k
 dsimp only at hk ⊢
 refine sR ?_
 refine pP (Y.lss rfl rfl) rfl ?_
 refine nN ?_
 refine WC.seq ?_
 refine WC.cond rfl (fun h20 => ?_) (fun h20 => ?_)
 refine WC.skip' ?_
 refine WQ.next ?_
 refine WC.seq ?_
 refine WC.block ?_
 refine WC.seq ?_
 have hp3 : p < 3 := by have h20 := h20; simp at h20; omega
 have hpg := Pg.nums_bytes (P3.ok_get hP p)
 have hql : (x.nums.take (4 * p)).length ≤ 13 := by rw [List.length_take]; omega
 refine WC.region ?_
 refine pP (Y.indexK rfl rfl (ix_pages _ _ ⟨nat0 _, by omega⟩)) rfl ?_
 refine WL.eff (E.alloc Try.zeroValue24 rfl rfl) rfl (fun b3 => ?_)
 refine WL.eff (E.store Try.sizeOf24 rfl rfl rfl rfl rfl u0 rfl rfl) rfl (fun _ => ?_)
 refine nN ?_
 refine sR ?_
 refine pM rfl rfl ?_
 refine pP (Y.fieldAddr fa_24_0 rfl) rfl ?_
 refine pP (Y.slAll (u := .slice (some ⟨b3, 0, none⟩) 3 3) rfl (slThree b3)) rfl ?_
 refine WL.eff (E.pen [(x.disk.get p).c0, (x.disk.get p).c1, (x.disk.get p).c2] hs_swap rfl thr_at (fun y hy => hpg y (by simp [Pg.nums] at hy ⊢; omega)) (by simp at hql ⊢; omega) rfl rfl) rfl (fun ii => ?_)
 refine nN ?_
 refine WC.region ?_
 refine pM rfl rfl ?_
 refine pP (Y.fieldAddr fa_24_1 rfl) rfl ?_
 refine pV (Y.load (v := .int .i64 (x.disk.get p).last) fl_3 rfl (by repeat (first | exact List.Mem.head _ | apply List.Mem.tail)) rfl) rfl ?_
 refine WL.eff (E.buildSlice (bs_46_1 _) rfl rfl) rfl (fun b4 => ?_)
 refine WL.eff (E.pen [(x.disk.get p).last] hs_swap rfl one_at (fun y hy => hpg y (by simp [Pg.nums] at hy ⊢; omega)) (by simp at hql ⊢; omega) rfl rfl) rfl (fun jj => ?_)
 refine WL.nil ?_
 refine WQ.blockEnd ?_
 refine WQ.next ?_
 refine WC.region ?_
 refine pP (Y.add rfl rfl (i64_in (by omega) (by omega))) rfl ?_
 refine pM rfl rfl ?_
 refine WL.nil ?_
 · refine fun a w2 s => ⟨(p + 1, jj), by show p + 1 ≤ 3; omega, by show 3 - (p + 1) < 3 - p; omega, ?_⟩
   show St [(1, .pointer (some ⟨b1, 0, none⟩)), (5, .pointer (some ⟨b2, 0, none⟩)), (18, x.disk.val), (19, .int .i64 ((p + 1 : Nat) : Int))] _ [(b2, [.slice jj.1 (x.nums.take (4 * (p + 1))).length jj.2], 44), (b1, x.cl A c, 28)] ((SF.own w.heap.size 5 1 (.slice jj.1 (x.nums.take (4 * (p + 1))).length jj.2) (x.nums.take (4 * (p + 1))).length (u8s (x.nums.take (4 * (p + 1))))).sep SF.top) _ _ _
   rw [page_step x p hp3]
   exact (s.sub (Hsub.of_sub (by repeat (first | exact List.Sublist.refl _ | apply List.Sublist.cons_cons | apply List.Sublist.cons)))).weak (by repeat (first | exact sub_nil _ | refine sub_cons rfl ?_))
 refine WC.exit ?_
 refine WQ.thenExit ?_
 refine WQ.thenExit ?_
 refine WQ.blockExit ?_
 refine WQ.next ?_
 refine WC.seq ?_
 have hp3 : p = 3 := by have h20 := h20; simp at h20; omega
 subst hp3
 have hql : (x.nums.take (4 * 3)).length ≤ 13 := by rw [List.length_take]; omega
 refine WC.region ?_
 refine pM rfl rfl ?_
 refine pP (Y.fieldAddr fa_28_2 rfl) rfl ?_
 refine pV (Y.load (v := .int .i64 x.safe) fl_3 rfl (by repeat (first | exact List.Mem.head _ | apply List.Mem.tail)) rfl) rfl ?_
 refine WL.eff (E.buildSlice (bs_46_1 _) rfl rfl) rfl (fun b5 => ?_)
 refine WL.eff (E.pen [x.safe] hs_swap rfl one_at (Bytes.cons (by omega) Bytes.nil) (by simp at hql ⊢; omega) rfl rfl) rfl (fun i => ?_)
 refine nN ?_
 refine WC.seq ?_
 refine sR ?_
 refine pP (Y.fieldAddr fa_28_1 rfl) rfl ?_
 refine pV (Y.load (v := .slice A x.log.length c) fl_26 rfl (by repeat (first | exact List.Mem.head _ | apply List.Mem.tail)) rfl) rfl ?_
 refine pP (Y.len Try.underlying26 rfl) rfl ?_
 refine pM rfl rfl ?_
 refine nN ?_
 refine WC.block ?_
 have e13 : x.nums.take (4 * 3) ++ [x.safe] = x.nums.take 13 ++ logNums (x.log.take 0) := by
   rw [← nums12 x, ← take_at0 (by omega)]
   simp [logNums]
 rw [e13]
 refine WC.loop (ι := Nat × Option Addr × Nat) (fun k => [(1, .pointer (some ⟨b1, 0, none⟩)), (5, .pointer (some ⟨b2, 0, none⟩)), (38, .slice A x.log.length c), (39, .int .i64 x.log.length), (40, .int .i64 k.1)]) (fun k => [(b2, [.slice k.2.1 (x.nums.take 13 ++ logNums (x.log.take k.1)).length k.2.2], 44), (b1, x.cl A c, 28)]) (fun k => (SF.own w.heap.size 5 1 (.slice k.2.1 (x.nums.take 13 ++ logNums (x.log.take k.1)).length k.2.2) (x.nums.take 13 ++ logNums (x.log.take k.1)).length (u8s (x.nums.take 13 ++ logNums (x.log.take k.1)))).sep SF.top) (fun k => k.1 ≤ x.log.length) (fun k => x.log.length - k.1) (0, i.1, i.2) (Nat.zero_le _) (fun a w s => by first | exact s.weak (by repeat (first | exact sub_nil _ | refine sub_cons rfl ?_)) | exact (s.sub (Hsub.of_sub (by repeat (first | exact List.Sublist.refl _ | apply List.Sublist.cons_cons | apply List.Sublist.cons)))).weak (by repeat (first | exact sub_nil _ | refine sub_cons rfl ?_)) | simpa using s.weak (by repeat (first | exact sub_nil _ | refine sub_cons rfl ?_))) (fun k hk => ?_)
 obtain ⟨m, Am, cm⟩ := k
 dsimp only at hk ⊢
 refine sR ?_
 refine pP (Y.lss rfl rfl) rfl ?_
 refine nN ?_
 refine WC.seq ?_
 refine WC.cond rfl (fun h41 => ?_) (fun h41 => ?_)
 refine WC.skip' ?_
 refine WQ.next ?_
 refine WC.seq ?_
 refine WC.block ?_
 refine WC.seq ?_
 have hm3 : m < x.log.length := by have h41 := h41; simp at h41; omega
 obtain ⟨r, hk2⟩ := get_of_lt hm3
 have hcl := hC r (List.mem_of_getElem? hk2)
 obtain ⟨g1, g2, g3⟩ := rec_bytes hcl
 have hql := part_len hl 13 m (Nat.le_refl _)
 refine WC.region ?_
 refine pP (Y.ixSlA Try.underlying26 Try.sizeOf48 rfl rfl (hr.addr hk2) (nat0 _) (get_ltI hk2)) rfl ?_
 refine pV (Y.loadAc wd_48 rfl (r := r.cl) rfl (fun a w s j hj => (hr.below s.low).full hk2 j hj)) rfl ?_
 refine WL.eff (E.alloc Try.zeroValue48 rfl rfl) rfl (fun b6 => ?_)
 refine WL.eff (E.store Try.sizeOf48 rfl rfl rfl rfl rfl u0 rfl rfl) rfl (fun _ => ?_)
 refine nN ?_
 refine sR ?_
 refine pM rfl rfl ?_
 refine pP (Y.fieldAddr fa_48_0 rfl) rfl ?_
 refine pV (Y.load (v := .int .i64 r.kind) fl_3 rfl (by repeat (first | exact List.Mem.head _ | apply List.Mem.tail)) rfl) rfl ?_
 refine pP (Y.fieldAddr fa_48_1 rfl) rfl ?_
 refine pV (Y.load (v := .int .i64 r.txn) fl_3 rfl (by repeat (first | exact List.Mem.head _ | apply List.Mem.tail)) rfl) rfl ?_
 refine pP (Y.fieldAddr fa_48_2 rfl) rfl ?_
 refine pV (Y.load (v := .int .i64 r.prev) fl_3 rfl (by repeat (first | exact List.Mem.head _ | apply List.Mem.tail)) rfl) rfl ?_
 refine WL.eff (E.buildSlice (bs_46_3 _ _ _) rfl rfl) rfl (fun b7 => ?_)
 refine WL.eff (E.pen [r.kind, r.txn, r.prev] hs_rot rfl thr_at (Bytes.cons g1 (Bytes.cons g2 (Bytes.cons g3 Bytes.nil))) (by simp at hql ⊢; omega) rfl rfl) rfl (fun ii => ?_)
 refine nN ?_
 refine WC.seq ?_
 refine sR ?_
 refine pV (Y.loadAN wd_48 rfl (by repeat (first | exact List.Mem.head _ | apply List.Mem.tail)) (r := r.cl) rfl) rfl ?_
 refine WL.eff (E.call Try.call14 rfl (fun _ w s => w_turns r w) rfl) rfl (fun _ => ?_)
 refine nN ?_
 refine WC.cond rfl (fun h54 => ?_) (fun h54 => ?_)
 have ht2 : r.turns = true := h54
 obtain ⟨g4, g5, g6, g7⟩ := rec_bytesT hcl ht2
 refine WC.region ?_
 refine pM rfl rfl ?_
 refine pP (Y.fieldAddr fa_48_3 rfl) rfl ?_
 refine pV (Y.load (v := .int .i64 r.page) fl_3 rfl (by repeat (first | exact List.Mem.head _ | apply List.Mem.tail)) rfl) rfl ?_
 refine pP (Y.fieldAddr fa_48_4 rfl) rfl ?_
 refine pV (Y.load (v := .int .i64 r.cell) fl_3 rfl (by repeat (first | exact List.Mem.head _ | apply List.Mem.tail)) rfl) rfl ?_
 refine pP (Y.fieldAddr fa_48_5 rfl) rfl ?_
 refine pV (Y.load (v := .int .i64 r.old) fl_3 rfl (by repeat (first | exact List.Mem.head _ | apply List.Mem.tail)) rfl) rfl ?_
 refine pP (Y.fieldAddr fa_48_6 rfl) rfl ?_
 refine pV (Y.load (v := .int .i64 r.new) fl_3 rfl (by repeat (first | exact List.Mem.head _ | apply List.Mem.tail)) rfl) rfl ?_
 refine WL.eff (E.buildSlice (bs_46_4 _ _ _ _) rfl rfl) rfl (fun b8 => ?_)
 refine WL.eff (E.pen [r.page, r.cell, r.old, r.new] hs_swap rfl fou_at (Bytes.cons g4 (Bytes.cons g5 (Bytes.cons g6 (Bytes.cons g7 Bytes.nil)))) (by simp at hql ⊢; omega) rfl rfl) rfl (fun jj => ?_)
 refine nN ?_
 refine sR ?_
 refine pP (Y.fieldAddr fa_48_0 rfl) rfl ?_
 refine pV (Y.load (v := .int .i64 r.kind) fl_3 rfl (by repeat (first | exact List.Mem.head _ | apply List.Mem.tail)) rfl) rfl ?_
 refine pP (Y.eql rfl rfl) rfl ?_
 refine nN ?_
 refine WC.cond rfl (fun h68 => ?_) (fun h68 => ?_)
 have hk3 : r.kind = 3 := by have h68 := h68; simpa using h68
 have g8 := rec_bytesN hcl hk3
 refine WC.region ?_
 refine pM rfl rfl ?_
 refine pP (Y.fieldAddr fa_48_7 rfl) rfl ?_
 refine pV (Y.load (v := .int .i64 r.next) fl_3 rfl (by repeat (first | exact List.Mem.head _ | apply List.Mem.tail)) rfl) rfl ?_
 refine WL.eff (E.buildSlice (bs_46_1 _) rfl rfl) rfl (fun b9 => ?_)
 refine WL.eff (E.pen [r.next] hs_swap rfl one_at (Bytes.cons g8 Bytes.nil) (by simp at hql ⊢; omega) rfl rfl) rfl (fun kk => ?_)
 refine WL.nil ?_
 refine WQ.blockEnd ?_
 refine WQ.next ?_
 refine WC.region ?_
 refine pP (Y.add rfl rfl (i64_in (by omega) (by omega))) rfl ?_
 refine pM rfl rfl ?_
 refine WL.nil ?_
 · refine fun a w2 s => ⟨(m + 1, kk), by show m + 1 ≤ x.log.length; omega, by show x.log.length - (m + 1) < x.log.length - m; omega, ?_⟩
   show St [(1, .pointer (some ⟨b1, 0, none⟩)), (5, .pointer (some ⟨b2, 0, none⟩)), (38, .slice A x.log.length c), (39, .int .i64 x.log.length), (40, .int .i64 ((m + 1 : Nat) : Int))] _ [(b2, [.slice kk.1 (x.nums.take 13 ++ logNums (x.log.take (m + 1))).length kk.2], 44), (b1, x.cl A c, 28)] ((SF.own w.heap.size 5 1 (.slice kk.1 (x.nums.take 13 ++ logNums (x.log.take (m + 1))).length kk.2) (x.nums.take 13 ++ logNums (x.log.take (m + 1))).length (u8s (x.nums.take 13 ++ logNums (x.log.take (m + 1))))).sep SF.top) _ _ _
   rw [logNums_step hk2, ← List.append_assoc]
   rw [show r.nums = [r.kind, r.txn, r.prev] ++ [r.page, r.cell, r.old, r.new] ++ [r.next] from by simp [R.nums, ht2, hk3]]
   try rw [← List.append_assoc]
   try rw [← List.append_assoc]
   exact (s.sub (Hsub.of_sub (by repeat (first | exact List.Sublist.refl _ | apply List.Sublist.cons_cons | apply List.Sublist.cons)))).weak (by repeat (first | exact sub_nil _ | refine sub_cons rfl ?_))
 refine WC.skip' ?_
 refine WQ.blockEnd ?_
 refine WQ.next ?_
 have hk3 : r.kind ≠ 3 := by have h68 := h68; simpa using h68
 refine WC.region ?_
 refine pP (Y.add rfl rfl (i64_in (by omega) (by omega))) rfl ?_
 refine pM rfl rfl ?_
 refine WL.nil ?_
 · refine fun a w2 s => ⟨(m + 1, jj), by show m + 1 ≤ x.log.length; omega, by show x.log.length - (m + 1) < x.log.length - m; omega, ?_⟩
   show St [(1, .pointer (some ⟨b1, 0, none⟩)), (5, .pointer (some ⟨b2, 0, none⟩)), (38, .slice A x.log.length c), (39, .int .i64 x.log.length), (40, .int .i64 ((m + 1 : Nat) : Int))] _ [(b2, [.slice jj.1 (x.nums.take 13 ++ logNums (x.log.take (m + 1))).length jj.2], 44), (b1, x.cl A c, 28)] ((SF.own w.heap.size 5 1 (.slice jj.1 (x.nums.take 13 ++ logNums (x.log.take (m + 1))).length jj.2) (x.nums.take 13 ++ logNums (x.log.take (m + 1))).length (u8s (x.nums.take 13 ++ logNums (x.log.take (m + 1))))).sep SF.top) _ _ _
   rw [logNums_step hk2, ← List.append_assoc]
   rw [show r.nums = [r.kind, r.txn, r.prev] ++ [r.page, r.cell, r.old, r.new] from by simp [R.nums, ht2, hk3]]
   try rw [← List.append_assoc]
   try rw [← List.append_assoc]
   exact (s.sub (Hsub.of_sub (by repeat (first | exact List.Sublist.refl _ | apply List.Sublist.cons_cons | apply List.Sublist.cons)))).weak (by repeat (first | exact sub_nil _ | refine sub_cons rfl ?_))
 refine WC.skip' ?_
 refine WQ.next ?_
 refine WC.seq ?_
 have ht2 : r.turns = false := h54
 refine WC.region ?_
 refine pP (Y.fieldAddr fa_48_0 rfl) rfl ?_
 refine pV (Y.load (v := .int .i64 r.kind) fl_3 rfl (by repeat (first | exact List.Mem.head _ | apply List.Mem.tail)) rfl) rfl ?_
 refine pP (Y.eql rfl rfl) rfl ?_
 refine nN ?_
 refine WC.cond rfl (fun h68 => ?_) (fun h68 => ?_)
 have hk3 : r.kind = 3 := by have h68 := h68; simpa using h68
 have g8 := rec_bytesN hcl hk3
 refine WC.region ?_
 refine pM rfl rfl ?_
 refine pP (Y.fieldAddr fa_48_7 rfl) rfl ?_
 refine pV (Y.load (v := .int .i64 r.next) fl_3 rfl (by repeat (first | exact List.Mem.head _ | apply List.Mem.tail)) rfl) rfl ?_
 refine WL.eff (E.buildSlice (bs_46_1 _) rfl rfl) rfl (fun b10 => ?_)
 refine WL.eff (E.pen [r.next] hs_swap rfl one_at (Bytes.cons g8 Bytes.nil) (by simp at hql ⊢; omega) rfl rfl) rfl (fun kk => ?_)
 refine WL.nil ?_
 refine WQ.blockEnd ?_
 refine WQ.next ?_
 refine WC.region ?_
 refine pP (Y.add rfl rfl (i64_in (by omega) (by omega))) rfl ?_
 refine pM rfl rfl ?_
 refine WL.nil ?_
 · refine fun a w2 s => ⟨(m + 1, kk), by show m + 1 ≤ x.log.length; omega, by show x.log.length - (m + 1) < x.log.length - m; omega, ?_⟩
   show St [(1, .pointer (some ⟨b1, 0, none⟩)), (5, .pointer (some ⟨b2, 0, none⟩)), (38, .slice A x.log.length c), (39, .int .i64 x.log.length), (40, .int .i64 ((m + 1 : Nat) : Int))] _ [(b2, [.slice kk.1 (x.nums.take 13 ++ logNums (x.log.take (m + 1))).length kk.2], 44), (b1, x.cl A c, 28)] ((SF.own w.heap.size 5 1 (.slice kk.1 (x.nums.take 13 ++ logNums (x.log.take (m + 1))).length kk.2) (x.nums.take 13 ++ logNums (x.log.take (m + 1))).length (u8s (x.nums.take 13 ++ logNums (x.log.take (m + 1))))).sep SF.top) _ _ _
   rw [logNums_step hk2, ← List.append_assoc]
   rw [show r.nums = [r.kind, r.txn, r.prev] ++ [r.next] from by simp [R.nums, ht2, hk3]]
   try rw [← List.append_assoc]
   try rw [← List.append_assoc]
   exact (s.sub (Hsub.of_sub (by repeat (first | exact List.Sublist.refl _ | apply List.Sublist.cons_cons | apply List.Sublist.cons)))).weak (by repeat (first | exact sub_nil _ | refine sub_cons rfl ?_))
 refine WC.skip' ?_
 refine WQ.blockEnd ?_
 refine WQ.next ?_
 have hk3 : r.kind ≠ 3 := by have h68 := h68; simpa using h68
 refine WC.region ?_
 refine pP (Y.add rfl rfl (i64_in (by omega) (by omega))) rfl ?_
 refine pM rfl rfl ?_
 refine WL.nil ?_
 · refine fun a w2 s => ⟨(m + 1, ii), by show m + 1 ≤ x.log.length; omega, by show x.log.length - (m + 1) < x.log.length - m; omega, ?_⟩
   show St [(1, .pointer (some ⟨b1, 0, none⟩)), (5, .pointer (some ⟨b2, 0, none⟩)), (38, .slice A x.log.length c), (39, .int .i64 x.log.length), (40, .int .i64 ((m + 1 : Nat) : Int))] _ [(b2, [.slice ii.1 (x.nums.take 13 ++ logNums (x.log.take (m + 1))).length ii.2], 44), (b1, x.cl A c, 28)] ((SF.own w.heap.size 5 1 (.slice ii.1 (x.nums.take 13 ++ logNums (x.log.take (m + 1))).length ii.2) (x.nums.take 13 ++ logNums (x.log.take (m + 1))).length (u8s (x.nums.take 13 ++ logNums (x.log.take (m + 1))))).sep SF.top) _ _ _
   rw [logNums_step hk2, ← List.append_assoc]
   rw [show r.nums = [r.kind, r.txn, r.prev] from by simp [R.nums, ht2, hk3]]
   try rw [← List.append_assoc]
   try rw [← List.append_assoc]
   exact (s.sub (Hsub.of_sub (by repeat (first | exact List.Sublist.refl _ | apply List.Sublist.cons_cons | apply List.Sublist.cons)))).weak (by repeat (first | exact sub_nil _ | refine sub_cons rfl ?_))
 refine WC.exit ?_
 refine WQ.thenExit ?_
 refine WQ.thenExit ?_
 refine WQ.blockExit ?_
 refine WQ.next ?_
 refine WC.seq ?_
 have hm3 : m = x.log.length := by have h41 := h41; simp at h41; omega
 subst hm3
 rw [List.take_length, ← nums_split]
 refine WC.region ?_
 refine pM rfl rfl ?_
 refine pP (Y.nilCheck rfl) rfl ?_
 refine pP (Y.fieldAddr fa_44_0 rfl) rfl ?_
 refine pV (Y.load (v := .slice Am x.nums.length cm) fl_42 rfl m0 rfl) rfl ?_
 refine pV (Y.fromBytes rfl (fun a w s => ⟨_, s.fact.1⟩)) rfl ?_
 refine pA rfl rfl ?_
 refine pA rfl rfl ?_
 refine nN ?_
 refine WC.ret ?_
 refine WQ.done Try.results5 (RVs.cons (RV.tmp rfl) (RVs.cons (RV.tmp rfl) RVs.nil)) (fun a w s => ?_)
 · refine ⟨?_, s.low⟩
   rw [if_pos h0, h0]
   rfl
end Go.Proofs.Ytmfjhacgpopijaa
