/- The book: what Of and Owner do. No condition. -/
import Derived.Test.YtdbcimadjmdffaaBk
set_option maxRecDepth 100000
set_option linter.unusedVariables false
set_option linter.unusedSimpArgs false
set_option linter.unusedSectionVars false
set_option maxHeartbeats 4000000
namespace Go.Proofs.Ytdbcimadjmdffaa
open Go.RowKit Go.Joins
theorem nil_ptr (b : Nat) (w : World) : (do eqGuard .eql 114 (.tmp 10) (.const (.pointer none)) (.pointer (some ⟨b, 0, none⟩)) (.pointer none); binOp .eql 114 (.pointer (some ⟨b, 0, none⟩)) (.pointer none) : Sem Value).run Try.prog w = .ok (.bool false) w := by kernel_rfl
theorem nil_nil (w : World) : (do eqGuard .eql 114 (.tmp 10) (.const (.pointer none)) (.pointer none) (.pointer none); binOp .eql 114 (.pointer none) (.pointer none) : Sem Value).run Try.prog w = .ok (.bool true) w := by kernel_rfl

theorem w_of_yes (u : World) (B : Bk) (Hl : Hp) (G : SF) (t : Int) (w : World) (hw : Wp u (B.hp ++ Hl) ((SF.bk u.heap.size B).sep G) w) (x : TxE) (hx : look1 B.tx t = some x) : Calls Try.prog 124 [B.ptr, .int .i64 t].toArray w fun e w' => ∃ i : {i : Bk × TxE // OfB B t i}, e = .returned i.1.2.ptr ∧ Wp u (i.1.1.hp ++ Hl) ((SF.bk u.heap.size i.1.1).sep G) w' := by
 refine enterW Try.func124 rfl Try.ntmps124 rfl hw ?_
 refine WC.seq ?_
 refine WC.region ?_
 refine WL.pure (Y.assign rfl) rfl rfl rfl ?_
 refine WL.nil ?_
 refine WQ.next ?_
 refine WC.seq ?_
 refine WC.seq ?_
 refine WC.region ?_
 refine WL.pure (Y.move rfl) rfl rfl rfl ?_
 refine WL.pure (Y.nilCheck rfl) rfl rfl rfl ?_
 refine WL.pure (Y.fieldAddr fa_112_2 rfl) rfl rfl rfl ?_
 refine WL.val (Y.load fl_109 rfl m0 rfl) rfl rfl rfl ?_
 refine WL.pure (Y.move rfl) rfl rfl rfl ?_
 refine WL.val (Y.lookup (v := x.ptr) rfl rfl (fun a w s => s.fact.1.1.1) (fun w h => by rw [run_lookup_tx _ _ h, hx]; rfl)) rfl rfl rfl ?_
 refine WL.pure (Y.binK (v := .bool false) rfl rfl (fun w => nil_ptr x.blk w)) rfl rfl rfl ?_
 refine WL.nil ?_
 refine WQ.next ?_
 refine WC.condF rfl ?_
 refine WC.skip' ?_
 refine WQ.next ?_
 refine WC.seq ?_
 refine WC.region ?_
 refine WL.pure (Y.move rfl) rfl rfl rfl ?_
 refine WL.pure (Y.nilCheck rfl) rfl rfl rfl ?_
 refine WL.pure (Y.fieldAddr fa_112_2 rfl) rfl rfl rfl ?_
 refine WL.val (Y.load fl_109 rfl m0 rfl) rfl rfl rfl ?_
 refine WL.pure (Y.move rfl) rfl rfl rfl ?_
 refine WL.val (Y.lookup (v := x.ptr) rfl rfl (fun a w s => s.fact.1.1.1) (fun w h => by rw [run_lookup_tx _ _ h, hx]; rfl)) rfl rfl rfl ?_
 refine WL.pure (Y.assign rfl) rfl rfl rfl ?_
 refine WL.nil ?_
 refine WQ.next ?_
 refine WC.ret ?_
 refine WQ.done Try.results124 (RVs.cons (RV.tmp rfl) RVs.nil) (fun a w s => ?_)
 · exact ⟨⟨(B, x), hx, .inl ⟨rfl, hx⟩⟩, rfl, s.wp⟩

theorem w_of_no (u : World) (B : Bk) (Hl : Hp) (G : SF) (t : Int) (w : World) (hw : Wp u (B.hp ++ Hl) ((SF.bk u.heap.size B).sep G) w) (hx : look1 B.tx t = none) : Calls Try.prog 124 [B.ptr, .int .i64 t].toArray w fun e w' => ∃ i : {i : Bk × TxE // OfB B t i}, e = .returned i.1.2.ptr ∧ Wp u (i.1.1.hp ++ Hl) ((SF.bk u.heap.size i.1.1).sep G) w' := by
 refine enterW Try.func124 rfl Try.ntmps124 rfl hw ?_
 refine WC.seq ?_
 refine WC.region ?_
 refine WL.pure (Y.assign rfl) rfl rfl rfl ?_
 refine WL.nil ?_
 refine WQ.next ?_
 refine WC.seq ?_
 refine WC.seq ?_
 refine WC.region ?_
 refine WL.pure (Y.move rfl) rfl rfl rfl ?_
 refine WL.pure (Y.nilCheck rfl) rfl rfl rfl ?_
 refine WL.pure (Y.fieldAddr fa_112_2 rfl) rfl rfl rfl ?_
 refine WL.val (Y.load fl_109 rfl m0 rfl) rfl rfl rfl ?_
 refine WL.pure (Y.move rfl) rfl rfl rfl ?_
 refine WL.val (Y.lookup (v := .pointer none) rfl rfl (fun a w s => s.fact.1.1.1) (fun w h => by rw [run_lookup_tx _ _ h, hx]; rfl)) rfl rfl rfl ?_
 refine WL.pure (Y.binK (v := .bool true) rfl rfl (fun w => nil_nil w)) rfl rfl rfl ?_
 refine WL.nil ?_
 refine WQ.next ?_
 refine WC.condT rfl ?_
 refine WC.le (bk_map _ _ _) ?_
 refine WC.region ?_
 refine WL.pure (Y.move rfl) rfl rfl rfl ?_
 refine WL.pure (Y.nilCheck rfl) rfl rfl rfl ?_
 refine WL.pure (Y.fieldAddr fa_112_2 rfl) rfl rfl rfl ?_
 refine WL.val (Y.load fl_109 rfl m0 rfl) rfl rfl rfl ?_
 refine WL.pure (Y.move rfl) rfl rfl rfl ?_
 refine WL.pure (Y.build rfl (bf_117 )) rfl rfl rfl ?_
 refine WL.eff (E.box rfl rfl rfl) rfl (fun b1 => ?_)
 refine WL.eff (E.mapUpdate rfl rfl rfl rfl (fun w h => run_update_tx B.tx t _ h hx)) rfl (fun _ => ?_)
 refine WL.nil ?_
 refine WQ.next ?_
 refine WC.seq ?_
 refine WC.le (bk_add _ _ _ _ _) ?_
 refine WC.sub (hp_add B (tx0 t b1 B.k1) Hl) ?_
 refine WC.region ?_
 refine WL.pure (Y.move rfl) rfl rfl rfl ?_
 refine WL.pure (Y.nilCheck rfl) rfl rfl rfl ?_
 refine WL.pure (Y.fieldAddr fa_112_2 rfl) rfl rfl rfl ?_
 refine WL.val (Y.load fl_109 rfl m0 rfl) rfl rfl rfl ?_
 refine WL.pure (Y.move rfl) rfl rfl rfl ?_
 refine WL.val (Y.lookup (v := (tx0 t b1 B.k1).ptr) rfl rfl (fun a w s => s.fact.1.1.1) (fun w h => by rw [run_lookup_tx _ _ h, show look1 (B.add (tx0 t b1 B.k1)).tx t = some (tx0 t b1 B.k1) from look1_add hx rfl]; rfl)) rfl rfl rfl ?_
 refine WL.pure (Y.assign rfl) rfl rfl rfl ?_
 refine WL.nil ?_
 refine WQ.next ?_
 refine WC.ret ?_
 refine WQ.done Try.results124 (RVs.cons (RV.tmp rfl) RVs.nil) (fun a w s => ?_)
 · exact ⟨⟨(B.add (tx0 t b1 B.k1), tx0 t b1 B.k1), look1_add hx rfl, .inr ⟨hx, rfl, rfl⟩⟩, rfl, s.wp⟩

theorem w_of (u : World) (B : Bk) (Hl : Hp) (G : SF) (t : Int) (w : World) (hw : Wp u (B.hp ++ Hl) ((SF.bk u.heap.size B).sep G) w) : Calls Try.prog 124 [B.ptr, .int .i64 t].toArray w fun e w' => ∃ i : {i : Bk × TxE // OfB B t i}, e = .returned i.1.2.ptr ∧ Wp u (i.1.1.hp ++ Hl) ((SF.bk u.heap.size i.1.1).sep G) w' := by
  cases hx : look1 B.tx t with
  | none => exact w_of_no u B Hl G t w hw hx
  | some x => exact w_of_yes u B Hl G t w hw x hx

theorem w_owner (u : World) (B : Bk) (Hl : Hp) (G : SF) (p c : Int) (w : World) (hw : Wp u (B.hp ++ Hl) ((SF.bk u.heap.size B).sep G) w) : Calls Try.prog 144 [B.ptr, .int .i64 p, .int .i64 c].toArray w fun e w' => ∃ i : Unit, e = .returned ((look2 B.ow p c).getD (.int .i64 0)) ∧ Wp u (B.hp ++ Hl) ((SF.bk u.heap.size B).sep G) w' := by
 refine enterW Try.func144 rfl Try.ntmps144 rfl hw ?_
 refine WC.seq ?_
 refine WC.region ?_
 refine WL.pure (Y.assign rfl) rfl rfl rfl ?_
 refine WL.nil ?_
 refine WQ.next ?_
 refine WC.seq ?_
 refine WC.region ?_
 refine WL.pure (Y.move rfl) rfl rfl rfl ?_
 refine WL.pure (Y.nilCheck rfl) rfl rfl rfl ?_
 refine WL.pure (Y.fieldAddr fa_112_3 rfl) rfl rfl rfl ?_
 refine WL.val (Y.load fl_110 rfl m0 rfl) rfl rfl rfl ?_
 refine WL.pure (Y.move rfl) rfl rfl rfl ?_
 refine WL.pure (Y.move rfl) rfl rfl rfl ?_
 refine WL.pure (Y.build rfl (bf_51_0_1 _ _)) rfl rfl rfl ?_
 refine WL.val (Y.lookup rfl rfl (fun a w s => s.fact.1.2.1.1.1) (fun w h => run_lookup_two _ _ _ Try.underlying110 Try.zeroValue3 h)) rfl rfl rfl ?_
 refine WL.pure (Y.assign rfl) rfl rfl rfl ?_
 refine WL.nil ?_
 refine WQ.next ?_
 refine WC.ret ?_
 refine WQ.done Try.results144 (RVs.cons (RV.tmp rfl) RVs.nil) (fun a w s => ?_)
 · exact ⟨(), rfl, s.wp⟩
end Go.Proofs.Ytdbcimadjmdffaa
