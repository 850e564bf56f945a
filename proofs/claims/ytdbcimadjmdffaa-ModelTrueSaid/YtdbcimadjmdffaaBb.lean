/- The book: what Undo does. No condition. -/
import Derived.Test.YtdbcimadjmdffaaBo
import Derived.Test.YtdbcimadjmdffaaLc
set_option maxRecDepth 100000
set_option linter.unusedVariables false
set_option linter.unusedSimpArgs false
set_option linter.unusedSectionVars false
set_option maxHeartbeats 4000000
namespace Go.Proofs.Ytdbcimadjmdffaa
open Go.RowKit Go.Joins
theorem rest_hp {Hx Hl H : Hp} {B : Bk} (h : Hsub (B.hp ++ (Hx ++ Hl)) H) : Hsub (B.hp ++ Hl) H := by
  obtain ⟨K, hp, hs⟩ := h
  have h1 : List.Sublist (B.hp ++ Hl) (B.hp ++ (Hx ++ Hl)) := List.Sublist.append (List.Sublist.refl _) (List.sublist_append_right _ _)
  obtain ⟨K2, hp2, hs2⟩ := List.exists_perm_sublist h1 hp.symm
  exact ⟨K2, hp2, hs2.trans hs⟩

theorem w_undo (u : World) (B : Bk) (Hl : Hp) (G : SF) (t : Int) (w : World) (hw : Wp u (B.hp ++ Hl) ((SF.bk u.heap.size B).sep G) w) (hB : UpOk B) : Calls Try.prog 141 [B.ptr, .int .i64 t].toArray w fun e w' => ∃ i : {i : Bk × TxE // OfB B t i}, e = .returned (undoR B.l t i.1.2).val ∧ Wp u (i.1.1.hp ++ Hl) ((SF.bk u.heap.size i.1.1).sep G) w' := by
 refine enterW Try.func141 rfl Try.ntmps141 rfl hw ?_
 refine WC.seq ?_
 refine WC.region ?_
 refine WL.eff (E.alloc Try.zeroValue34 rfl rfl) rfl (fun b1 => ?_)
 refine WL.nil ?_
 refine WQ.next ?_
 refine WC.seq ?_
 refine WC.region ?_
 refine WL.pure (Y.move rfl) rfl rfl rfl ?_
 refine WL.pure (Y.move rfl) rfl rfl rfl ?_
 refine WL.eff (E.of [_] rfl rfl rfl rfl rfl) rfl (fun i => ?_)
 obtain ⟨⟨B1, x, K⟩, hOf, hK⟩ := i
 have hu := of_up hOf hB
 obtain ⟨el, eA, ec, _, ebk, _⟩ := of_l hOf
 have hBl := hB.1
 dsimp only at hu el eA ec ebk hOf hK ⊢
 rw [← el] at hBl
 have e0 : B.ptr = B1.ptr := by unfold Bk.ptr; rw [ebk]
 rw [e0]
 refine WL.pure (Y.assign rfl) rfl rfl rfl ?_
 refine WL.nil ?_
 refine WQ.next ?_
 refine WC.seq ?_
 refine WC.seq ?_
 refine WC.region ?_
 refine WL.pure (Y.move rfl) rfl rfl rfl ?_
 refine WL.pure (Y.nilCheck rfl) rfl rfl rfl ?_
 refine WL.pure (Y.fieldAddr fa_117_2 rfl) rfl rfl rfl ?_
 refine WL.val (Y.load fl_64 rfl m1 rfl) rfl rfl rfl ?_
 refine WL.pure (Y.len Try.underlying64 rfl) rfl rfl rfl ?_
 refine WL.pure (Y.eql rfl rfl) rfl rfl rfl ?_
 refine WL.nil ?_
 refine WQ.next ?_
 refine WC.cond rfl (fun h15 => ?_) (fun h15 => ?_)
 refine WC.seq ?_
 have hux : x.up = [] := by simpa using h15
 refine WC.region ?_
 refine WL.pure (Y.move rfl) rfl rfl rfl ?_
 refine WL.pure (Y.move rfl) rfl rfl rfl ?_
 refine WL.pure (Y.nilCheck rfl) rfl rfl rfl ?_
 refine WL.pure (Y.fieldAddr fa_117_1 rfl) rfl rfl rfl ?_
 refine WL.val (Y.load fl_3 rfl m1 rfl) rfl rfl rfl ?_
 refine WL.pure (Y.build rfl (bf_34_0_1_2 _ _ _)) rfl rfl rfl ?_
 refine WL.eff (E.store Try.sizeOf34 rfl rfl rfl rfl rfl u0 rfl rfl) rfl (fun _ => ?_)
 refine WL.nil ?_
 refine WQ.next ?_
 refine WC.ret ?_
 refine WQ.thenRet ?_
 refine WQ.done Try.results141 (RVs.cons (RV.cell wd_34 rfl m0 rfl) RVs.nil) (fun a w s => ?_)
 · refine ⟨⟨(B1, x), hOf⟩, ?_, s.wp.sub (rest_hp (Hx := [_]) (foc_out hK (set1_same hOf.1).symm _ _))⟩
   simp only [packed, undoR, hux, ← el]
   rfl
 refine WC.skip' ?_
 refine WQ.next ?_
 refine WC.seq ?_
 obtain ⟨m, us, hux⟩ : ∃ m us, x.up = m :: us := by
   cases hc : x.up with
   | nil => rw [hc] at h15; simp at h15
   | cons m us => exact ⟨m, us, rfl⟩
 have hm := hu.2 m (by rw [hux]; exact List.Mem.head _)
 have hlen : 1 ≤ x.up.length := by rw [hux]; simp
 have hul := hu.1
 have hmt : x.up.reverse[x.up.length - 1]? = some m := by rw [hux]; simp
 obtain ⟨r, hk2⟩ := get_of_lt (l := B1.l) (k := m - 1) (by omega)
 refine WC.know (p := ∃ g, x.A = some ⟨g, 0, none⟩) (fun a w s => by obtain ⟨g, hA, _⟩ := own_cell (bk_row hOf.1 s.fact.1) (nums_get hmt); exact ⟨g, hA⟩) (fun ⟨g, hA⟩ => ?_)
 refine WC.know (p := B1.A = some ⟨gOf B1.A, 0, none⟩) (fun a w s => (bk_RL s.fact.1).addr hk2) (fun hA2 => ?_)
 refine WC.draw [(0, .q false), (1, .q false), (2, .q false), (3, .q true), (4, .q false), (5, .q false), (6, .q false), (7, .q true), (8, .q false), (9, .q false), (10, .q false), (11, .q true), (12, .q false), (13, .q false), (14, .q false), (15, .q true), (16, .q false), (17, .q false), (18, .q true), (19, .s false), (20, .s true)] mixed (by kernel_rfl) ?_
 refine WDm.quiet (QS.pure (Y.move rfl) rfl rfl) rfl rfl rfl ?_
 refine WDm.quiet (QS.pure (Y.nilCheck rfl) rfl rfl) rfl rfl rfl ?_
 refine WDm.quiet (QS.pure (Y.fieldAddr fa_112_0 rfl) rfl rfl) rfl rfl rfl ?_
 refine WDm.quiet (QS.val (Y.load fl_39 rfl m2 rfl) rfl rfl) rfl rfl rfl ?_
 refine WDm.quiet (QS.pure (Y.move rfl) rfl rfl) rfl rfl rfl ?_
 refine WDm.quiet (QS.pure (Y.nilCheck rfl) rfl rfl) rfl rfl rfl ?_
 refine WDm.quiet (QS.pure (Y.fieldAddr fa_117_2 rfl) rfl rfl) rfl rfl rfl ?_
 refine WDm.quiet (QS.val (Y.load fl_64 rfl m1 rfl) rfl rfl) rfl rfl rfl ?_
 refine WDm.quiet (QS.pure (Y.move rfl) rfl rfl) rfl rfl rfl ?_
 refine WDm.quiet (QS.pure (Y.nilCheck rfl) rfl rfl) rfl rfl rfl ?_
 refine WDm.quiet (QS.pure (Y.fieldAddr fa_117_2 rfl) rfl rfl) rfl rfl rfl ?_
 refine WDm.quiet (QS.val (Y.load fl_64 rfl m1 rfl) rfl rfl) rfl rfl rfl ?_
 refine WDm.quiet (QS.pure (Y.len Try.underlying64 rfl) rfl rfl) rfl rfl rfl ?_
 refine WDm.quiet (QS.pure (Y.sub rfl rfl (i64_sub1 hlen (by omega))) rfl rfl) rfl rfl rfl ?_
 refine WDm.quiet (QS.pure (Y.ixSlA Try.underlying64 Try.sizeOf3 rfl rfl hA (nat0 _) (by omega)) rfl rfl) rfl rfl rfl ?_
 refine WDm.quiet (QS.val (Y.loadc fl_3 rfl (v := .int .i64 (m : Int)) (fun a w s => by obtain ⟨g2, hA3, hc⟩ := own_cell (bk_row hOf.1 s.fact.1) (nums_get hmt); cases hA.symm.trans hA3; simpa using hc)) rfl rfl) rfl rfl rfl ?_
 refine WDm.quiet (QS.pure (Y.sub rfl rfl (i64_sub1 hm.1 (by omega))) rfl rfl) rfl rfl rfl ?_
 refine WDm.quiet (QS.pure (Y.ixSlA Try.underlying39 Try.sizeOf34 rfl rfl hA2 (nat0 _) (by omega)) rfl rfl) rfl rfl rfl ?_
 refine WDm.quiet (QS.val (Y.loadAc wd_34 rfl (r := r.cl) rfl (fun a w s j hj => (bk_RL s.fact.1).full hk2 j hj)) rfl rfl) rfl rfl rfl ?_
 refine WDm.spec (WS.free rfl (E.alloc Try.zeroValue34 rfl rfl)) (fun _ => ext_new rfl) (fun b2 => ?_)
 refine WDm.spec (WS.free rfl (E.store Try.sizeOf34 rfl rfl rfl rfl rfl u0 rfl rfl)) (fun _ => sub_refl _) (fun _ => ?_)
 refine WDm.nil (WQ.and ?_)
 refine WQ.next ?_
 refine WC.seq ?_
 refine WC.draw [(0, .q false), (1, .q false), (2, .q false), (3, .q false), (4, .q true), (5, .q false), (6, .q true), (7, .q false), (8, .q true), (9, .q false), (10, .q true), (11, .q false), (12, .q true), (13, .q false), (14, .q true), (15, .q false), (16, .s true)] mixed (by kernel_rfl) ?_
 refine WDm.quiet (QS.pure (Y.move rfl) rfl rfl) rfl rfl rfl ?_
 refine WDm.quiet (QS.pure (Y.move rfl) rfl rfl) rfl rfl rfl ?_
 refine WDm.quiet (QS.pure (Y.nilCheck rfl) rfl rfl) rfl rfl rfl ?_
 refine WDm.quiet (QS.pure (Y.fieldAddr fa_117_1 rfl) rfl rfl) rfl rfl rfl ?_
 refine WDm.quiet (QS.val (Y.load fl_3 rfl m2 rfl) rfl rfl) rfl rfl rfl ?_
 refine WDm.quiet (QS.pure (Y.fieldAddr fa_34_3 rfl) rfl rfl) rfl rfl rfl ?_
 refine WDm.quiet (QS.val (Y.load fl_3 rfl m0 rfl) rfl rfl) rfl rfl rfl ?_
 refine WDm.quiet (QS.pure (Y.fieldAddr fa_34_4 rfl) rfl rfl) rfl rfl rfl ?_
 refine WDm.quiet (QS.val (Y.load fl_3 rfl m0 rfl) rfl rfl) rfl rfl rfl ?_
 refine WDm.quiet (QS.pure (Y.fieldAddr fa_34_6 rfl) rfl rfl) rfl rfl rfl ?_
 refine WDm.quiet (QS.val (Y.load fl_3 rfl m0 rfl) rfl rfl) rfl rfl rfl ?_
 refine WDm.quiet (QS.pure (Y.fieldAddr fa_34_5 rfl) rfl rfl) rfl rfl rfl ?_
 refine WDm.quiet (QS.val (Y.load fl_3 rfl m0 rfl) rfl rfl) rfl rfl rfl ?_
 refine WDm.quiet (QS.pure (Y.fieldAddr fa_34_2 rfl) rfl rfl) rfl rfl rfl ?_
 refine WDm.quiet (QS.val (Y.load fl_3 rfl m0 rfl) rfl rfl) rfl rfl rfl ?_
 refine WDm.quiet (QS.pure (Y.build rfl (bf_34_0_1_2_3_4_5_6_7 _ _ _ _ _ _ _ _)) rfl rfl) rfl rfl rfl ?_
 refine WDm.spec (WS.free rfl (E.store Try.sizeOf34 rfl rfl rfl rfl rfl u1 rfl rfl)) (fun _ => sub_refl _) (fun _ => ?_)
 refine WDm.nil (WQ.and ?_)
 refine WQ.next ?_
 refine WC.ret ?_
 refine WQ.done Try.results141 (RVs.cons (RV.cell wd_34 rfl m1 rfl) RVs.nil) (fun a w s => ?_)
 · refine ⟨⟨(B1, x), hOf⟩, ?_, s.wp.sub (rest_hp (Hx := [_, _]) (foc_out hK (set1_same hOf.1).symm _ _))⟩
   simp only [packed, undoR, hux, ← el]
   rw [hk2]; rfl
end Go.Proofs.Ytdbcimadjmdffaa
