/- Scripts: the document, cells and listed. No condition. -/
import Derived.Test.YtapkelocligmdaaGreatDoorQ5
set_option maxRecDepth 100000
set_option linter.unusedVariables false
set_option linter.unusedSimpArgs false
set_option linter.unusedSectionVars false
set_option maxHeartbeats 4000000
namespace Go.Proofs.YtapkelocligmdaaGreatDoor
open Go.RowKit Go.Joins
def ccl (p : P3) (k : Nat) : List Value := p.cells9.cl.take (3 * k) ++ List.replicate (9 - 3 * k) (.int .i64 0)
def row3 (q : Pg) : List Value := [.int .i64 q.c0, .int .i64 q.c1, .int .i64 q.c2]
theorem ccl_put (p : P3) : ∀ k : Nat, k < 3 → Proofs.YtapkelocligmdaaGreatDoor.put (ccl p k) (3 * k) (row3 (p.get k)) = ccl p (k + 1)
  | 0, _ => rfl
  | 1, _ => rfl
  | 2, _ => rfl
  | n + 3, h => by omega
theorem ccl_len (p : P3) : ∀ k : Nat, k ≤ 3 → (ccl p k).length = 9
  | 0, _ => rfl
  | 1, _ => rfl
  | 2, _ => rfl
  | 3, _ => rfl
  | n + 4, h => by omega
theorem row_seg (p : P3) : ∀ k : Nat, k < 3 → seg p.cl (k * 4) 3 = some (row3 (p.get k))
  | 0, _ => rfl
  | 1, _ => rfl
  | 2, _ => rfl
  | n + 3, h => by omega

theorem w_refCells (p : P3) (w : World) : Ret Tryz.prog 34 [p.val] w p.cells9.val := by
 refine enter Tryz.func34 rfl Tryz.ntmps34 rfl SF.top trivial ?_
 refine sR ?_
 refine WL.eff (E.box rfl rfl rfl) rfl (fun b1 => ?_)
 refine WL.eff (E.alloc Tryz.zeroValue78 rfl rfl) rfl (fun b2 => ?_)
 refine nN ?_
 refine sR ?_
 refine WL.eff (E.alloc Tryz.zeroValue78 rfl rfl) rfl (fun b3 => ?_)
 refine nN ?_
 refine WC.seq ?_
 refine sR ?_
 refine pA rfl rfl ?_
 refine nN ?_
 refine WC.block ?_
 refine WC.loop (ι := Nat) (fun k => [(1, .pointer (some ⟨b1, 0, none⟩)), (2, .pointer (some ⟨b2, 0, none⟩)), (3, .pointer (some ⟨b3, 0, none⟩)), (4, .int .i64 k)]) (fun k => [(b3, ccl p k, 78), (b2, [.int .i64 0, .int .i64 0, .int .i64 0, .int .i64 0, .int .i64 0, .int .i64 0, .int .i64 0, .int .i64 0, .int .i64 0], 78), (b1, p.cl, 33)]) (fun _ => SF.top) (fun k => k ≤ 3) (fun k => 3 - k) 0 (Nat.zero_le _) (fun a w s => s.weak (by repeat (first | exact sub_nil _ | refine sub_cons rfl ?_))) (fun k hk => ?_)
 refine WC.seq ?_
 refine sR ?_
 refine pM rfl rfl ?_
 refine pP (Y.lss rfl rfl) rfl ?_
 refine nN ?_
 refine WC.cond rfl (fun h6 => ?_) (fun h6 => ?_)
 refine WC.skip' ?_
 refine WQ.next ?_
 refine WC.seq ?_
 refine WC.block ?_
 have hk3 : k < 3 := by have h6 := h6; simp at h6; omega
 refine WC.region ?_
 refine pM rfl rfl ?_
 refine pM rfl rfl ?_
 refine pP (Y.ixArr Tryz.underlying33 Tryz.sizeOf32 rfl rfl (nat0 _) (by omega)) rfl ?_
 refine pP (Y.fieldAddr fa_32_0 rfl) rfl ?_
 refine pV (Y.loadAN wd_30 rfl m2 (r := row3 (p.get k)) (by have h := row_seg p k hk3; rw [← h]; congr 1; simp)) rfl ?_
 refine pP (Y.ixArr Tryz.underlying78 Tryz.sizeOf30 rfl rfl (nat0 _) (by omega)) rfl ?_
 refine WL.eff (E.storeP (cs' := ccl p (k + 1)) Tryz.sizeOf30 rfl rfl rfl rfl rfl u0 (by rw [ccl_len p k (by omega)]; simp; omega) (by rw [← ccl_put p k hk3]; congr 1; simp; omega)) rfl (fun _ => ?_)
 refine WL.nil ?_
 refine WQ.blockEnd ?_
 refine WQ.next ?_
 refine WC.region ?_
 refine pM rfl rfl ?_
 refine pP (Y.add rfl rfl (i64_in (by omega) (by omega))) rfl ?_
 refine pA rfl rfl ?_
 refine WL.nil ?_
 · refine fun a w2 s => ⟨k + 1, by show k + 1 ≤ 3; omega, by show 3 - (k + 1) < 3 - k; omega, ?_⟩
   exact s.weak (by repeat (first | exact sub_nil _ | refine sub_cons rfl ?_))
 refine WC.exit ?_
 refine WQ.thenExit ?_
 refine WQ.thenExit ?_
 refine WQ.blockExit ?_
 refine WQ.next ?_
 refine WC.seq ?_
 have hk3 : k = 3 := by have h6 := h6; simp at h6; omega
 subst hk3
 refine WC.region ?_
 refine pV (Y.loadAN wd_78 rfl m0 (r := p.cells9.cl) rfl) rfl ?_
 refine WL.eff (E.store Tryz.sizeOf78 rfl rfl rfl rfl rfl u1 rfl rfl) rfl (fun _ => ?_)
 refine nN ?_
 refine WC.ret ?_
 refine WQ.done Tryz.results34 (RVs.cons (RV.cell wd_78 rfl m1 rfl) RVs.nil) (fun a w s => ?_)
 · exact ⟨rfl, s.low⟩

theorem w_refListed (c9 : C9) (h9 : c9.ok) (w : World) : Ret Tryz.prog 33 [c9.val] w (su (listedOf c9.nat)) := by
 refine enter Tryz.func33 rfl Tryz.ntmps33 rfl SF.top trivial ?_
 refine sR ?_
 refine WL.eff (E.box rfl rfl rfl) rfl (fun b1 => ?_)
 refine pA rfl rfl ?_
 refine nN ?_
 refine sR ?_
 refine pA rfl rfl ?_
 refine nN ?_
 refine WC.seq ?_
 refine sR ?_
 refine pA rfl rfl ?_
 refine nN ?_
 refine WC.block ?_
 refine WC.loop (ι := Nat) (fun k => [(1, .pointer (some ⟨b1, 0, none⟩)), (4, .int .i64 k), (3, su (spaced (c9.nat.take (3 * k))))]) (fun k => [(b1, c9.cl, 78)]) (fun _ => SF.top) (fun k => k ≤ 3) (fun k => 3 - k) 0 (Nat.zero_le _) (fun a w s => by first | exact s.weak (by repeat (first | exact sub_nil _ | refine sub_cons rfl ?_)) | simpa [spaced, su] using s.weak (by repeat (first | exact sub_nil _ | refine sub_cons rfl ?_))) (fun p hk => ?_)
 refine WC.seq ?_
 refine sR ?_
 refine pM rfl rfl ?_
 refine pP (Y.lss rfl rfl) rfl ?_
 refine nN ?_
 refine WC.cond rfl (fun h7 => ?_) (fun h7 => ?_)
 refine WC.skip' ?_
 refine WQ.next ?_
 refine WC.seq ?_
 refine WC.block ?_
 refine WC.seq ?_
 have hp3 : p < 3 := by have h7 := h7; simp at h7; omega
 refine WC.region ?_
 refine pA rfl rfl ?_
 refine nN ?_
 refine WC.block ?_
 refine WC.loop (ι := Nat) (fun k => [(1, .pointer (some ⟨b1, 0, none⟩)), (4, .int .i64 p), (5, .int .i64 k), (3, su (spaced (c9.nat.take (3 * p + k))))]) (fun k => [(b1, c9.cl, 78)]) (fun _ => SF.top) (fun k => k ≤ 3) (fun k => 3 - k) 0 (Nat.zero_le _) (fun a w s => by first | exact s.weak (by repeat (first | exact sub_nil _ | refine sub_cons rfl ?_)) | simpa [spaced, su] using s.weak (by repeat (first | exact sub_nil _ | refine sub_cons rfl ?_))) (fun q hk => ?_)
 refine WC.seq ?_
 refine sR ?_
 refine pM rfl rfl ?_
 refine pP (Y.lss rfl rfl) rfl ?_
 refine nN ?_
 refine WC.cond rfl (fun h11 => ?_) (fun h11 => ?_)
 refine WC.skip' ?_
 refine WQ.next ?_
 refine WC.seq ?_
 refine WC.block ?_
 have hq3 : q < 3 := by have h11 := h11; simp at h11; omega
 obtain ⟨hcl, hsm⟩ := C9.cl_nat h9 (3 * p + q) (by omega)
 have hsl : (spaced (c9.nat.take (3 * p + q))).length ≤ 101 * 9 := by
   refine Nat.le_trans (spaced_len _ fun n hn => ?_) (Nat.mul_le_mul_left _ (by rw [List.length_take]; omega))
   obtain ⟨j, hj⟩ := List.getElem?_of_mem (List.mem_of_mem_take hn)
   have hj9 : j < 9 := (List.getElem?_eq_some_iff.1 hj).1
   have := (C9.cl_nat h9 j hj9).2
   rw [hj] at this
   exact this
 refine WC.region ?_
 refine pM rfl rfl ?_
 refine pP (Y.addU (b := [32]) (by simp; omega) rfl rfl rfl rfl) rfl ?_
 refine pM rfl rfl ?_
 refine pM rfl rfl ?_
 refine pP (Y.ixArr Tryz.underlying78 Tryz.sizeOf30 rfl rfl (nat0 _) (by omega)) rfl ?_
 refine pP (Y.ixArr Tryz.underlying30 Tryz.sizeOf3 rfl rfl (nat0 _) (by omega)) rfl ?_
 refine pV (Y.loadc fl_3 rfl (v := .int .i64 (((c9.nat[3 * p + q]?).getD 0 : Nat) : Int)) (fun a w s => by rw [s.hp.cell (b := b1) (cs := c9.cl) m0]; rw [← hcl]; congr 1; simp; omega)) rfl ?_
 refine WL.eff (E.call Tryz.call16 rfl (fun _ w s => w_digits ((c9.nat[3 * p + q]?).getD 0) (by omega) w) rfl) rfl (fun _ => ?_)
 refine pP (Y.addU (by have := digs_len ((c9.nat[3 * p + q]?).getD 0); simp at hsl ⊢; omega) rfl rfl rfl rfl) rfl ?_
 rw [List.append_assoc]
 refine pA rfl rfl ?_
 refine WL.nil ?_
 refine WQ.blockEnd ?_
 refine WQ.next ?_
 refine WC.region ?_
 refine pM rfl rfl ?_
 refine pP (Y.add rfl rfl (i64_in (by omega) (by omega))) rfl ?_
 refine pA rfl rfl ?_
 refine WL.nil ?_
 · refine fun a w2 s => ⟨q + 1, by show q + 1 ≤ 3; omega, by show 3 - (q + 1) < 3 - q; omega, ?_⟩
   show St [(1, .pointer (some ⟨b1, 0, none⟩)), (4, .int .i64 p), (5, .int .i64 ((q + 1 : Nat) : Int)), (3, su (spaced (c9.nat.take (3 * p + (q + 1)))))] _ _ _ _ _ _
   rw [show 3 * p + (q + 1) = 3 * p + q + 1 from by omega, nat_take (by show 3 * p + q < 9; omega), spaced_app, spaced_one]
   exact s.weak (by repeat (first | exact sub_nil _ | refine sub_cons rfl ?_))
 refine WC.exit ?_
 refine WQ.thenExit ?_
 refine WQ.thenExit ?_
 refine WQ.blockExit ?_
 refine WQ.blockEnd ?_
 refine WQ.next ?_
 have hq3 : q = 3 := by have h11 := h11; simp at h11; omega
 subst hq3
 refine WC.region ?_
 refine pM rfl rfl ?_
 refine pP (Y.add rfl rfl (i64_in (by omega) (by omega))) rfl ?_
 refine pA rfl rfl ?_
 refine WL.nil ?_
 · refine fun a w2 s => ⟨p + 1, by show p + 1 ≤ 3; omega, by show 3 - (p + 1) < 3 - p; omega, ?_⟩
   show St [(1, .pointer (some ⟨b1, 0, none⟩)), (4, .int .i64 ((p + 1 : Nat) : Int)), (3, su (spaced (c9.nat.take (3 * (p + 1)))))] _ _ _ _ _ _
   rw [show 3 * (p + 1) = 3 * p + 3 from by omega]
   exact s.weak (by repeat (first | exact sub_nil _ | refine sub_cons rfl ?_))
 refine WC.exit ?_
 refine WQ.thenExit ?_
 refine WQ.thenExit ?_
 refine WQ.blockExit ?_
 refine WQ.next ?_
 refine WC.seq ?_
 have hp3 : p = 3 := by have h7 := h7; simp at h7; omega
 subst hp3
 rw [show c9.nat.take (3 * 3) = c9.nat from rfl]
 refine WC.region ?_
 refine pM rfl rfl ?_
 refine pP (Y.slFromU (i := 1) und9 (spaced_pos (by simp [C9.nat])) rfl rfl rfl) rfl ?_
 refine pA rfl rfl ?_
 refine nN ?_
 refine WC.ret ?_
 refine dn1 Tryz.results33 rfl (fun a w s => ?_)
 · exact ⟨rfl, s.low⟩
end Go.Proofs.YtapkelocligmdaaGreatDoor
