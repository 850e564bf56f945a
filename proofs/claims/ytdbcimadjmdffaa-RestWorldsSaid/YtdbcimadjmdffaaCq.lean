/- Mend: Of of a Txn that is there; next. No condition. -/
import Derived.Test.YtdbcimadjmdffaaCo
set_option maxRecDepth 100000
set_option linter.unusedVariables false
set_option linter.unusedSimpArgs false
set_option linter.unusedSectionVars false
set_option maxHeartbeats 4000000
namespace Go.Proofs.Ytdbcimadjmdffaa
open Go.RowKit Go.Joins
theorem cell_atb {w : World} {b o : Nat} {cs : List Value} {T : TypeId} {v : Value} (h : w.heap[b]? = some (.cells cs.toArray T)) (hv : nth cs o = some v) : w.cell? ⟨b, o, none⟩ = some v := by
  rw [nth_eq] at hv
  simp [World.cell?, h, hv]

theorem w_ofOld (u : World) (B : Bk) (H : Hp) (F : SF) (t : Int) (x : TxE) (hx : look1 B.tx t = some x) (w : World) (hbk : (B.bk, B.cells, 112) ∈ H) (hF : ∀ w, F.p w → w.heap[B.mt]? = some (.map (B.tx.map TxE.entry).toArray B.k1)) (hw : Wp u H F w) : Ret Try.prog 124 [B.ptr, .int .i64 t] w x.ptr := by
 have hcb := (hw.1.blk _ hbk).1
 have hlt := blk_lt hcb
 have hmp := hF w hw.2.1
 have hlm := blk_lt hmp
 refine enter Try.func124 rfl Try.ntmps124 rfl SF.top trivial ?_
 refine sR ?_
 refine pA rfl rfl ?_
 refine nN ?_
 refine WC.seq ?_
 refine sR ?_
 refine pM rfl rfl ?_
 refine pP (Y.nilCheck rfl) rfl ?_
 refine pP (Y.fieldAddr fa_112_2 rfl) rfl ?_
 refine pV (Y.loadc fl_109 rfl (v := .map (some B.mt)) (fun a w2 s => (s.low.cell (p := ⟨B.bk, 0 + 13, none⟩) hlt).trans (cell_atb hcb rfl))) rfl ?_
 refine pM rfl rfl ?_
 refine pV (Y.lookup (v := x.ptr) rfl rfl (fun a w2 s => (s.low.block _ hlm).trans hmp) (fun w h => by rw [run_lookup_tx _ _ h, hx]; rfl)) rfl ?_
 refine pP (Y.binK (v := .bool false) rfl rfl (fun w => nil_ptr x.blk w)) rfl ?_
 refine nN ?_
 refine WC.condF rfl ?_
 refine WC.skip' ?_
 refine WQ.next ?_
 refine sR ?_
 refine pM rfl rfl ?_
 refine pP (Y.nilCheck rfl) rfl ?_
 refine pP (Y.fieldAddr fa_112_2 rfl) rfl ?_
 refine pV (Y.loadc fl_109 rfl (v := .map (some B.mt)) (fun a w2 s => (s.low.cell (p := ⟨B.bk, 0 + 13, none⟩) hlt).trans (cell_atb hcb rfl))) rfl ?_
 refine pM rfl rfl ?_
 refine pV (Y.lookup (v := x.ptr) rfl rfl (fun a w2 s => (s.low.block _ hlm).trans hmp) (fun w h => by rw [run_lookup_tx _ _ h, hx]; rfl)) rfl ?_
 refine pA rfl rfl ?_
 refine nN ?_
 refine WC.ret ?_
 refine dn1 Try.results124 rfl (fun a w s => ?_)
 · exact ⟨rfl, s.low⟩

def nextR (h : List R) : R × Bool := match nextH h with
  | some r => (r, true)
  | none => (R.zero, false)
theorem blkc_mem {l : List TxE} {t : Int} {x : TxE} (h : look1 l t = some x) : x.blkc ∈ l.map TxE.blkc := by
  obtain ⟨_, l1, l2, e, _⟩ := look1_key h
  rw [e]
  simp
theorem tx_there {B : Bk} {h : List R} (hB : BOk B h) (hR : Right h) {t : Int} (hs : stt h t ≠ 0) : ∃ x, look1 B.tx t = some x ∧ x.last = (lastN h t : Int) := by
  cases hx : look1 B.tx t with
  | none =>
    have h1 := (hB.no t hx).1
    have h2 := hR.st t
    exfalso
    rw [h1] at h2
    omega
  | some x => exact ⟨x, rfl, (hB.tx t x hx).2.1⟩
theorem find_tos {f g : Int → Bool} (hfg : ∀ t, f t = g t) : ∀ (n m : Nat), m < n → selT f m = [] → f ((m : Int) + 1) = true → (tos n).find? g = some ((m : Int) + 1)
  | 0, m, h, _, _ => absurd h (by omega)
  | n + 1, m, h, hs, ht => by
    rw [tos, List.find?_append]
    by_cases e : m = n
    · subst e
      have : (tos m).find? g = none := by
        rw [List.find?_eq_none]
        intro x hx
        have := List.filter_eq_nil_iff.1 hs x hx
        rw [← hfg]
        simpa using this
      rw [this, Option.none_or]
      simp [← hfg, ht]
    · rw [find_tos hfg n m (by omega) hs ht]
      rfl
theorem find_none {f g : Int → Bool} (hfg : ∀ t, f t = g t) {n : Nat} (hs : selT f n = []) : (tos n).find? g = none := by
  rw [List.find?_eq_none]
  intro x hx
  have := List.filter_eq_nil_iff.1 hs x hx
  rw [← hfg]
  simpa using this
theorem bestGo_app (h : List R) : ∀ (l : List Int) (t b : Int), bestGo h (l ++ [t]) b = (if (stt h t = 1 ∨ stt h t = 3) ∧ (bestGo h l b = 0 ∨ lastN h (bestGo h l b) < lastN h t) then t else bestGo h l b)
  | [], t, b => rfl
  | s :: l, t, b => bestGo_app h l t _
theorem best_hangs (h : List R) : ∀ m, bestGo h (tos m) 0 = 0 ∨ (stt h (bestGo h (tos m) 0) = 1 ∨ stt h (bestGo h (tos m) 0) = 3)
  | 0 => .inl rfl
  | m + 1 => by
    rw [tos, bestGo_app]
    split
    · rename_i hh; exact .inr hh.1
    · exact best_hangs h m
theorem best_tos (h : List R) : bestGo h (tos 9) 0 = bestH h := rfl
theorem two_eq (h : List R) (t : Int) : [(2 : Int)].contains (stt h t : Int) = (stt h t == 2) := by
  have := stt_le4 h t
  have e : stt h t = 0 ∨ stt h t = 1 ∨ stt h t = 2 ∨ stt h t = 3 ∨ stt h t = 4 := by omega
  rcases e with e | e | e | e | e <;> rw [e] <;> rfl
theorem lost_eq (h : List R) (t : Int) : [(1 : Int), 3].contains (stt h t : Int) = true ↔ (stt h t = 1 ∨ stt h t = 3) := by
  have := stt_le4 h t
  have e : stt h t = 0 ∨ stt h t = 1 ∨ stt h t = 2 ∨ stt h t = 3 ∨ stt h t = 4 := by omega
  rcases e with e | e | e | e | e <;> rw [e] <;> decide
theorem Hsub.thKM (x z y : Nat × List Value × TypeId) (M L Hl : Hp) : Hsub ([x, y, z] ++ (L ++ (M ++ Hl))) (x :: z :: y :: (M ++ (L ++ Hl))) := by
  refine Hsub.of_perm ?_
  refine ((List.Perm.swap z y _).trans (List.Perm.cons z (List.Perm.cons y ?_))).cons x
  rw [← List.append_assoc, ← List.append_assoc]
  exact List.perm_append_comm.append_right Hl
theorem Hsub.front (K L M Hl : Hp) : Hsub (M ++ (K ++ (L ++ Hl))) (K ++ (L ++ (M ++ Hl))) := by
  refine Hsub.of_perm ?_
  have h1 : (M ++ (K ++ L)).Perm ((K ++ L) ++ M) := List.perm_append_comm
  have := h1.append_right Hl
  simpa [List.append_assoc] using this
theorem Hsub.swap2 (K M Y : Hp) : Hsub (K ++ (M ++ Y)) (M ++ (K ++ Y)) := by
  refine Hsub.of_perm ?_
  rw [← List.append_assoc, ← List.append_assoc]
  exact List.perm_append_comm.append_right Y
theorem Hsub.back (K L M Hl : Hp) : Hsub (K ++ (L ++ (M ++ Hl))) (M ++ (K ++ (L ++ Hl))) := by
  refine Hsub.of_perm ?_
  have h1 : ((K ++ L) ++ M).Perm (M ++ (K ++ L)) := List.perm_append_comm
  have := h1.append_right Hl
  simpa [List.append_assoc] using this
theorem Hsub.drop3 (K L M Hl : Hp) : Hsub (M ++ (L ++ Hl)) (K ++ (L ++ (M ++ Hl))) := by
  refine ⟨L ++ (M ++ Hl), ?_, List.sublist_append_right K _⟩
  rw [← List.append_assoc, ← List.append_assoc]
  exact List.perm_append_comm.append_right Hl
end Go.Proofs.Ytdbcimadjmdffaa
