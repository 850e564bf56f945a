/- The book: what Read returns. No condition. -/
import Derived.Test.YtdbcimadjmdffaaRd
set_option maxRecDepth 100000
set_option linter.unusedVariables false
set_option linter.unusedSimpArgs false
set_option linter.unusedSectionVars false
set_option maxHeartbeats 4000000
namespace Go.Proofs.Ytdbcimadjmdffaa
open Go.RowKit Go.Joins
theorem ret_log {l : List R} {x : Int} {p : Value} (e : logErr l = x) : Ending.returned (packed [p, .int .i64 x]) = .returned (.tuple #[p, .int .i64 (logErr l)]) := by rw [e]; rfl

theorem len_takeI2 {l : List R} {k : Nat} (hk : k < l.length) : (k : Int) = (((l.take k).reverse).length : Int) := by simp; omega

theorem w_read (u : World) (Hl : Hp) (G : SF) (l : List R) (A : Option Addr) (b o c : Nat) (w : World) (hw : Wp u Hl G w) (hr : ∀ w, Wp u Hl G w → RL w A b o l) : Calls Try.prog 121 [.slice A l.length c].toArray w fun e w' => ∃ i : {B : Bk // logErr l = 0 → BOk B l.reverse}, e = .returned (.tuple #[i.1.ptr, .int .i64 (logErr l)]) ∧ Wp u (i.1.hp ++ Hl) ((SF.bk u.heap.size i.1).sep G) w' := by
 refine enterW Try.func121 rfl Try.ntmps121 rfl hw ?_
 refine WC.seq ?_
 refine WC.region ?_
 refine WL.pure (Y.assign rfl) rfl rfl rfl ?_
 refine WL.pure (Y.assign rfl) rfl rfl rfl ?_
 refine WL.nil ?_
 refine WQ.next ?_
 refine WC.seq ?_
 refine WC.region ?_
 refine WL.eff (E.makeMap rfl) rfl (fun m1 => ?_)
 refine WL.eff (E.makeMap rfl) rfl (fun m2 => ?_)
 refine WL.pure (Y.build rfl (bf_112_2_3 _ _)) rfl rfl rfl ?_
 refine WL.eff (E.box rfl rfl rfl) rfl (fun b1 => ?_)
 refine WL.pure (Y.assign rfl) rfl rfl rfl ?_
 refine WL.nil ?_
 refine WQ.next ?_
 refine WC.seq ?_
 refine WC.seq ?_
 refine WC.le (bk_new u.heap.size b1 m1 m2 G) ?_
 refine WC.region ?_
 refine WL.pure (Y.move rfl) rfl rfl rfl ?_
 refine WL.pure (Y.len Try.underlying39 rfl) rfl rfl rfl ?_
 refine WL.pure (Y.gtr rfl rfl) rfl rfl rfl ?_
 refine WL.nil ?_
 refine WQ.next ?_
 refine WC.cond rfl (fun h14 => ?_) (fun h14 => ?_)
 refine WC.seq ?_
 refine WC.region ?_
 refine WL.pure (Y.move rfl) rfl rfl rfl ?_
 refine WL.pure (Y.assign rfl) rfl rfl rfl ?_
 refine WL.pure (Y.assign rfl) rfl rfl rfl ?_
 refine WL.nil ?_
 refine WQ.next ?_
 refine WC.ret ?_
 refine WQ.thenRet ?_
 refine WQ.done Try.results121 (RVs.cons (RV.tmp rfl) (RVs.cons (RV.tmp rfl) RVs.nil)) (fun a w s => ?_)
 · have e : logErr l = 2 := by unfold logErr; rw [if_neg (by simp at h14; omega)]
   refine ⟨⟨bk0 b1 m1 m2, fun h0 => by rw [e] at h0; cases h0⟩, ret_log e, s.wp⟩
 refine WC.skip' ?_
 refine WQ.next ?_
 refine WC.seq ?_
 refine WC.seq ?_
 refine WC.region ?_
 refine WL.pure (Y.move rfl) rfl rfl rfl ?_
 refine WL.pure (Y.len Try.underlying39 rfl) rfl rfl rfl ?_
 refine WL.pure (Y.move rfl) rfl rfl rfl ?_
 refine WL.nil ?_
 refine WQ.next ?_
 refine WC.block ?_
 have hl : l.length ≤ 60 := by simp at h14; omega
 refine WC.loop (ι := Nat × Bk) (fun k => [(0, .slice A l.length c), (4, k.2.ptr), (16, .slice A l.length c), (17, .int .i64 l.length), (18, .int .i64 k.1)]) (fun k => k.2.hp ++ Hl) (fun k => (SF.bk u.heap.size k.2).sep G) (fun k => k.1 ≤ l.length ∧ Right (l.take k.1).reverse ∧ BOk k.2 (l.take k.1).reverse) (fun k => l.length - k.1) (0, bk0 b1 m1 m2) ⟨Nat.zero_le _, rfl, bok0 _ _ _⟩ (fun a w s => s.weak (by repeat (first | exact sub_nil _ | refine sub_cons rfl ?_))) (fun k hk => ?_)
 obtain ⟨k, B⟩ := k
 obtain ⟨hk, hI, hB⟩ := hk
 dsimp only at hk hI hB ⊢
 refine WC.seq ?_
 refine WC.region ?_
 refine WL.pure (Y.lss rfl rfl) rfl rfl rfl ?_
 refine WL.nil ?_
 refine WQ.next ?_
 refine WC.seq ?_
 refine WC.cond rfl (fun h19 => ?_) (fun h19 => ?_)
 refine WC.skip' ?_
 refine WQ.next ?_
 refine WC.seq ?_
 refine WC.block ?_
 refine WC.seq ?_
 have h19 := dec_lt h19
 simp only [if_true] at h19
 obtain ⟨r, hk'⟩ := get_of_lt h19
 refine WC.know (p := A = some ⟨b, o, none⟩) (fun a w s => (hr _ ((s.wp.sub (Hsub.of_sub (List.sublist_append_right _ _))).le (SF.sep_snd _ _))).addr hk') (fun hA => ?_)
 refine WC.region ?_
 refine WL.pure (Y.move rfl) rfl rfl rfl ?_
 refine WL.pure (Y.ixSlA Try.underlying39 Try.sizeOf34 rfl rfl hA (nat0 _) (get_ltI hk')) rfl rfl rfl ?_
 refine WL.val (Y.loadAc wd_34 rfl (r := r.cl) rfl (fun a w s j hj => ((hr _ ((s.wp.sub (Hsub.of_sub (List.sublist_append_right _ _))).le (SF.sep_snd _ _)))).full hk' j hj)) rfl rfl rfl ?_
 refine WL.eff (E.alloc Try.zeroValue34 rfl rfl) rfl (fun b2 => ?_)
 refine WL.pure (Y.assign rfl) rfl rfl rfl ?_
 refine WL.eff (E.store Try.sizeOf34 rfl rfl rfl rfl rfl u0 rfl rfl) rfl (fun _ => ?_)
 refine WL.nil ?_
 refine WQ.next ?_
 refine WC.seq ?_
 refine WC.seq ?_
 refine WC.region ?_
 refine WL.pure (Y.move rfl) rfl rfl rfl ?_
 refine WL.pure (Y.add rfl rfl (i64_in (by omega) (by omega))) rfl rfl rfl ?_
 refine WL.val (Y.loadA wd_34 rfl m0 rfl) rfl rfl rfl ?_
 refine WL.eff (E.call Try.call49 rfl (fun _ w s => w_check _ _ w) rfl) rfl (fun _ => ?_)
 refine WL.pure (Y.assign rfl) rfl rfl rfl ?_
 refine WL.nil ?_
 refine WQ.next ?_
 refine WC.seq ?_
 refine WC.region ?_
 refine WL.pure (Y.move rfl) rfl rfl rfl ?_
 refine WL.pure (Y.neq rfl rfl) rfl rfl rfl ?_
 refine WL.nil ?_
 refine WQ.next ?_
 refine WC.cond rfl (fun h28 => ?_) (fun h28 => ?_)
 refine WC.seq ?_
 refine WC.region ?_
 refine WL.pure (Y.move rfl) rfl rfl rfl ?_
 refine WL.pure (Y.move rfl) rfl rfl rfl ?_
 refine WL.pure (Y.assign rfl) rfl rfl rfl ?_
 refine WL.pure (Y.assign rfl) rfl rfl rfl ?_
 refine WL.nil ?_
 refine WQ.next ?_
 refine WC.ret ?_
 refine WQ.thenRet ?_
 refine WQ.blockRet ?_
 refine WQ.thenRet ?_
 refine WQ.thenRet ?_
 refine WQ.blockRet ?_
 refine WQ.thenRet ?_
 refine WQ.done Try.results121 (RVs.cons (RV.tmp rfl) (RVs.cons (RV.tmp rfl) RVs.nil)) (fun a w s => ?_)
 · have e : logErr l = recErr ((k : Int) + 1) r := by unfold logErr; rw [if_pos hl]; exact errH_bad hk' hI (by simpa using h28)
   refine ⟨⟨B, fun h0 => by rw [e] at h0; exact absurd h0 (by simpa using h28)⟩, ret_log e, s.wp.sub (Hsub.of_sub (List.sublist_cons_self _ _))⟩
 refine WC.skip' ?_
 refine WQ.next ?_
 refine WC.seq ?_
 refine WC.seq ?_
 have hlt : (l.take k).reverse.length ≤ 60 := by simp; omega
 have hok : recErr (((l.take k).reverse.length : Int) + 1) r = 0 := by rw [← len_takeI2 h19]; simpa using h28
 refine WC.region ?_
 refine WL.pure (Y.move rfl) rfl rfl rfl ?_
 refine WL.val (Y.loadA wd_34 rfl m0 rfl) rfl rfl rfl ?_
 refine WL.eff (E.fits [_] (l.take k).reverse r rfl hB hlt hok rfl rfl rfl rfl) rfl (fun i => ?_)
 obtain ⟨B1, hB1, eb1⟩ := i
 dsimp only
 have e0 : B.ptr = B1.ptr := by unfold Bk.ptr; rw [eb1]
 rw [e0]
 refine WL.pure (Y.not rfl) rfl rfl rfl ?_
 refine WL.nil ?_
 refine WQ.next ?_
 refine WC.cond rfl (fun h34 => ?_) (fun h34 => ?_)
 refine WC.seq ?_
 refine WC.region ?_
 refine WL.pure (Y.move rfl) rfl rfl rfl ?_
 refine WL.pure (Y.assign rfl) rfl rfl rfl ?_
 refine WL.pure (Y.assign rfl) rfl rfl rfl ?_
 refine WL.nil ?_
 refine WQ.next ?_
 refine WC.ret ?_
 refine WQ.thenRet ?_
 refine WQ.blockRet ?_
 refine WQ.thenRet ?_
 refine WQ.thenRet ?_
 refine WQ.blockRet ?_
 refine WQ.thenRet ?_
 refine WQ.done Try.results121 (RVs.cons (RV.tmp rfl) (RVs.cons (RV.tmp rfl) RVs.nil)) (fun a w s => ?_)
 · have e : logErr l = 1 := by unfold logErr; rw [if_pos hl]; exact errH_form hk' hI (by simpa using h28) (by rw [← hI.fits (by rw [← len_takeI2 h19]; simpa using h28)]; simpa using h34)
   refine ⟨⟨B1, fun h0 => by rw [e] at h0; cases h0⟩, ret_log e, s.wp.sub (Hsub.of_sub (List.sublist_cons_self _ _))⟩
 refine WC.skip' ?_
 refine WQ.next ?_
 have hff : follows (l.take k).reverse r = true := by rw [← hI.fits hok]; simpa using h34
 have hR : Right (l.take (k + 1)).reverse := right_step hk' hI (by simpa using h28) hff
 refine WC.region ?_
 refine WL.pure (Y.move rfl) rfl rfl rfl ?_
 refine WL.val (Y.loadA wd_34 rfl m0 rfl) rfl rfl rfl ?_
 refine WL.eff (E.put [_] (l.take k).reverse r rfl hB1 (by rw [← takeS hk']; exact hR) rfl rfl rfl rfl) rfl (fun i => ?_)
 obtain ⟨B2, hB2, eb2⟩ := i
 dsimp only
 have e02 : B1.ptr = B2.ptr := by unfold Bk.ptr; rw [eb2]
 rw [e02]
 refine WL.nil ?_
 refine WQ.blockEnd ?_
 refine WQ.next ?_
 refine WC.region ?_
 refine WL.pure (Y.add rfl rfl (i64_in (by omega) (by omega))) rfl rfl rfl ?_
 refine WL.pure (Y.move rfl) rfl rfl rfl ?_
 refine WL.nil ?_
 · exact fun a w s => ⟨(k + 1, B2), ⟨by dsimp only; omega, hR, by rw [takeS hk']; exact hB2⟩, by dsimp only; omega, (s.sub (Hsub.of_sub (List.sublist_cons_self _ _))).weak (by repeat (first | exact sub_nil _ | refine sub_cons rfl ?_))⟩
 refine WC.exit ?_
 refine WQ.thenExit ?_
 refine WQ.thenExit ?_
 refine WQ.blockExit ?_
 refine WQ.next ?_
 refine WC.seq ?_
 refine WC.region ?_
 refine WL.pure (Y.move rfl) rfl rfl rfl ?_
 refine WL.pure (Y.assign rfl) rfl rfl rfl ?_
 refine WL.pure (Y.assign rfl) rfl rfl rfl ?_
 refine WL.nil ?_
 refine WQ.next ?_
 refine WC.ret ?_
 refine WQ.done Try.results121 (RVs.cons (RV.tmp rfl) (RVs.cons (RV.tmp rfl) RVs.nil)) (fun a w s => ?_)
 · have h19 := dec_lt h19
   simp only [Bool.false_eq_true, if_false] at h19
   rw [take_len h19] at hI hB
   have e : logErr l = 0 := by unfold logErr; rw [if_pos hl]; exact hI
   exact ⟨⟨B, fun _ => hB⟩, ret_log e, s.wp⟩
end Go.Proofs.Ytdbcimadjmdffaa
