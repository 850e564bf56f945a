/- The book: what leave leaves. No condition. -/
import Derived.Test.YtdbcimadjmdffaaLv
set_option maxRecDepth 100000
set_option linter.unusedVariables false
set_option linter.unusedSimpArgs false
set_option linter.unusedSectionVars false
set_option maxHeartbeats 4000000
namespace Go.Proofs.Ytdbcimadjmdffaa
open Go.RowKit Go.Joins
def Bk.left (B : Bk) (t : Int) (x : TxE) : Bk := { B with ow := B.ow.filter (keepE B.l t x.up) }
def SF.bkr (base : Nat) (B : Bk) : SF := (SF.map base B.mt (B.tx.map TxE.entry) B.k1).sep ((SF.own base 34 8 (.slice B.A B.l.length B.c) B.l.length (flat B.l)).sep (SF.ups base B.tx))
theorem bk_mo (base : Nat) (B : Bk) (G : SF) : ((SF.bk base B).sep G).le ((SF.map base B.mo (B.ow.map E2.entry) B.k2).sep ((SF.bkr base B).sep G)) :=
  SF.le_trans (SF.sep_mono (SF.sep_rot _ _ _) (SF.le_refl _)) (SF.sep_assoc _ _ _)
theorem bk_mo' (base : Nat) (B : Bk) (G : SF) : ((SF.map base B.mo (B.ow.map E2.entry) B.k2).sep ((SF.bkr base B).sep G)).le ((SF.bk base B).sep G) :=
  SF.le_trans (SF.sep_assoc' _ _ _) (SF.sep_mono (SF.sep_rot _ _ _) (SF.le_refl _))
theorem bk_kb (base : Nat) (B : Bk) (X G : SF) : (X.sep ((SF.bk base B).sep G)).le ((SF.map base B.mo (B.ow.map E2.entry) B.k2).sep (X.sep ((SF.bkr base B).sep G))) :=
  SF.le_trans (SF.sep_mono (SF.le_refl _) (bk_mo base B G)) (SF.sep_rot _ _ _)
theorem getD_keep {KL : List E2} {l : List R} {up : List Nat} (h : ∀ p c, look2 KL p c = if up.any (cellIs l p c) then some (.bool true) else none) (p c : Int) : (look2 KL p c).getD (.bool false) = .bool (up.any (cellIs l p c)) := by
  rw [h]; cases up.any (cellIs l p c) <;> rfl
theorem keep_step {KL : List E2} {l : List R} {up : List Nat} {k m ck : Nat} {r : R} (h : ∀ p c, look2 KL p c = if (up.take k).any (cellIs l p c) then some (.bool true) else none) (hm : up[k]? = some m) (hr : l[m - 1]? = some r) (p c : Int) :
    look2 (set2 KL r.page r.cell (.bool true) ck) p c = if (up.take (k + 1)).any (cellIs l p c) then some (.bool true) else none := by
  obtain ⟨hl, he⟩ := List.getElem?_eq_some_iff.1 hm
  rw [look2_set, h, List.take_succ_eq_append_getElem hl, List.any_append, he]
  have e : cellIs l p c m = (r.page == p && r.cell == c) := by unfold cellIs; rw [hr]; rfl
  simp only [List.any_cons, List.any_nil, Bool.or_false, e]
  by_cases h1 : r.page = p <;> by_cases h2 : r.cell = c <;> simp [h1, h2]

theorem w_leave (u : World) (B : Bk) (Hl : Hp) (G : SF) (t : Int) (x : TxE) (w : World) (hw : Wp u (B.hp ++ Hl) ((SF.bk u.heap.size B).sep G) w) (hl1 : look1 B.tx t = some x) (hB : UpOk B) (hv : ∀ e ∈ B.ow, ∃ o, e.v = .int .i64 o) (hbn : B.ow.Pairwise fun a b => a.born ≠ b.born) (hkk : B.ow.Pairwise fun a b => ¬(a.p = b.p ∧ a.c = b.c)) (hlt : ∀ e ∈ B.ow, e.born < B.k2) :
    Calls Try.prog 154 [B.ptr, .int .i64 t].toArray w fun e w' => e = .returned (packed []) ∧ Wp u ((B.left t x).hp ++ Hl) ((SF.bk u.heap.size (B.left t x)).sep G) w' := by
 refine enterW Try.func154 rfl Try.ntmps154 rfl hw ?_
 refine WC.seq ?_
 refine WC.region ?_
 refine WL.eff (E.makeMap rfl) rfl (fun kb => ?_)
 refine WL.pure (Y.assign rfl) rfl rfl rfl ?_
 refine WL.nil ?_
 refine WQ.next ?_
 refine WC.seq ?_
 refine WC.seq ?_
 refine WC.le (SF.sep_rot _ _ _) ?_
 refine WC.region ?_
 refine WL.pure (Y.move rfl) rfl rfl rfl ?_
 refine WL.pure (Y.move rfl) rfl rfl rfl ?_
 refine WL.eff (E.of [] rfl rfl rfl rfl rfl) rfl (fun i => ?_)
 obtain ⟨⟨B1, x1, K⟩, hOf, hK⟩ := i
 obtain ⟨e1, e2⟩ := of_same hOf hl1
 dsimp only at e1 e2 hOf hK ⊢
 obtain rfl : B = B1 := e1.symm
 obtain rfl : x = x1 := e2.symm
 refine WL.pure (Y.nilCheck rfl) rfl rfl rfl ?_
 refine WL.pure (Y.fieldAddr fa_117_2 rfl) rfl rfl rfl ?_
 refine WL.val (Y.load fl_64 rfl m0 rfl) rfl rfl rfl ?_
 refine WL.pure (Y.len Try.underlying64 rfl) rfl rfl rfl ?_
 refine WL.pure (Y.move rfl) rfl rfl rfl ?_
 refine WL.nil ?_
 refine WQ.next ?_
 refine WC.block ?_
 refine WC.le (SF.sep_rot _ _ _) ?_
 refine WC.loop (ι := Nat × List E2 × Nat) (fun k => [(0, B.ptr), (1, .int .i64 t), (4, .map (some kb)), (15, .slice x.A x.up.length x.c), (16, .int .i64 x.up.length), (17, .int .i64 k.1)]) (fun _ => x.blkc :: B.own1 :: (K ++ Hl)) (fun k => (SF.map u.heap.size kb (k.2.1.map E2.entry) k.2.2).sep ((SF.bk u.heap.size B).sep G)) (fun k => k.1 ≤ x.up.length ∧ ∀ p c, look2 k.2.1 p c = if (x.up.reverse.take k.1).any (cellIs B.l p c) then some (.bool true) else none) (fun k => x.up.length - k.1) (0, [], 0) ⟨Nat.zero_le _, fun _ _ => rfl⟩ (fun a w s => s.weak (by repeat (first | exact sub_nil _ | refine sub_cons rfl ?_))) (fun k hk => ?_)
 obtain ⟨k, KL, ck⟩ := k
 obtain ⟨hk, hKL⟩ := hk
 dsimp only at hk hKL ⊢
 refine WC.seq ?_
 refine WC.region ?_
 refine WL.pure (Y.lss rfl rfl) rfl rfl rfl ?_
 refine WL.nil ?_
 refine WQ.next ?_
 refine WC.seq ?_
 refine WC.cond rfl (fun h18 => ?_) (fun h18 => ?_)
 refine WC.skip' ?_
 refine WQ.next ?_
 refine WC.seq ?_
 refine WC.block ?_
 refine WC.seq ?_
 have h18 := dec_lt h18
 simp only [if_true] at h18
 obtain ⟨m, hmt⟩ := get_of_lt (l := x.up.reverse) (k := k) (by simpa using h18)
 have hm := (hB.2 t x hl1).2 m (List.mem_reverse.1 (List.mem_of_getElem? hmt))
 have hBl := hB.1
 have hul := (hB.2 t x hl1).1
 obtain ⟨r, hk2⟩ := get_of_lt (l := B.l) (k := m - 1) (by omega)
 refine WC.know (p := ∃ g, x.A = some ⟨g, 0, none⟩) (fun a w s => by obtain ⟨g, hA, _⟩ := own_cell (bk_row hl1 s.fact.2.1.1) (nums_get hmt); exact ⟨g, hA⟩) (fun ⟨g, hA⟩ => ?_)
 refine WC.know (p := B.A = some ⟨gOf B.A, 0, none⟩) (fun a w s => (bk_RL s.fact.2.1.1).addr hk2) (fun hA2 => ?_)
 refine WC.region ?_
 refine WL.pure (Y.ixSlA Try.underlying64 Try.sizeOf3 rfl rfl hA (nat0 _) (by omega)) rfl rfl rfl ?_
 refine WL.val (Y.loadc fl_3 rfl (v := .int .i64 (m : Int)) (fun a w s => by obtain ⟨g2, hA3, hc⟩ := own_cell (bk_row hl1 s.fact.2.1.1) (nums_get hmt); cases hA.symm.trans hA3; simpa using hc)) rfl rfl rfl ?_
 refine WL.pure (Y.assign rfl) rfl rfl rfl ?_
 refine WL.nil ?_
 refine WQ.next ?_
 refine WC.draw [(0, .q false), (1, .q false), (2, .q false), (3, .q false), (4, .q true), (5, .q false), (6, .q false), (7, .q false), (8, .q false), (9, .q true), (10, .q false), (11, .q false), (12, .q false), (13, .q true), (14, .q false), (15, .q false), (16, .q false), (17, .q false), (18, .q true), (19, .q false), (20, .s true)] mixed (by kernel_rfl) ?_
 refine WDm.quiet (QS.pure (Y.move rfl) rfl rfl) rfl rfl rfl ?_
 refine WDm.quiet (QS.pure (Y.move rfl) rfl rfl) rfl rfl rfl ?_
 refine WDm.quiet (QS.pure (Y.nilCheck rfl) rfl rfl) rfl rfl rfl ?_
 refine WDm.quiet (QS.pure (Y.fieldAddr fa_112_0 rfl) rfl rfl) rfl rfl rfl ?_
 refine WDm.quiet (QS.val (Y.load fl_39 rfl m1 rfl) rfl rfl) rfl rfl rfl ?_
 refine WDm.quiet (QS.pure (Y.move rfl) rfl rfl) rfl rfl rfl ?_
 refine WDm.quiet (QS.pure (Y.sub rfl rfl (i64_sub1 hm.1 (by omega))) rfl rfl) rfl rfl rfl ?_
 refine WDm.quiet (QS.pure (Y.ixSlA Try.underlying39 Try.sizeOf34 rfl rfl hA2 (nat0 _) (by omega)) rfl rfl) rfl rfl rfl ?_
 refine WDm.quiet (QS.pure (Y.fieldAddr fa_34_3 rfl) rfl rfl) rfl rfl rfl ?_
 refine WDm.quiet (QS.val (Y.loadc fl_3 rfl (fun a w s => ((bk_RL s.fact.2.1.1)).cell _ _ hk2 3 _ rfl)) rfl rfl) rfl rfl rfl ?_
 refine WDm.quiet (QS.pure (Y.move rfl) rfl rfl) rfl rfl rfl ?_
 refine WDm.quiet (QS.pure (Y.nilCheck rfl) rfl rfl) rfl rfl rfl ?_
 refine WDm.quiet (QS.pure (Y.fieldAddr fa_112_0 rfl) rfl rfl) rfl rfl rfl ?_
 refine WDm.quiet (QS.val (Y.load fl_39 rfl m1 rfl) rfl rfl) rfl rfl rfl ?_
 refine WDm.quiet (QS.pure (Y.move rfl) rfl rfl) rfl rfl rfl ?_
 refine WDm.quiet (QS.pure (Y.sub rfl rfl (i64_sub1 hm.1 (by omega))) rfl rfl) rfl rfl rfl ?_
 refine WDm.quiet (QS.pure (Y.ixSlA Try.underlying39 Try.sizeOf34 rfl rfl hA2 (nat0 _) (by omega)) rfl rfl) rfl rfl rfl ?_
 refine WDm.quiet (QS.pure (Y.fieldAddr fa_34_4 rfl) rfl rfl) rfl rfl rfl ?_
 refine WDm.quiet (QS.val (Y.loadc fl_3 rfl (fun a w s => ((bk_RL s.fact.2.1.1)).cell _ _ hk2 4 _ rfl)) rfl rfl) rfl rfl rfl ?_
 refine WDm.quiet (QS.pure (Y.build rfl (bf_51_0_1 _ _)) rfl rfl) rfl rfl rfl ?_
 refine WDm.spec (WS.free rfl (E.mapUpdate rfl rfl rfl rfl (fun w h => run_update_two KL r.page r.cell (.bool true) Try.underlying50 h))) (fun _ => sub_refl _) (fun _ => ?_)
 refine WDm.nil (WQ.and ?_)
 refine WQ.blockEnd ?_
 refine WQ.next ?_
 refine WC.region ?_
 refine WL.pure (Y.add rfl rfl (i64_in (by omega) (by omega))) rfl rfl rfl ?_
 refine WL.pure (Y.move rfl) rfl rfl rfl ?_
 refine WL.nil ?_
 · refine fun a w s => ⟨(k + 1, set2 KL r.page r.cell (.bool true) ck, nk KL r.page r.cell ck), ⟨by dsimp only; omega, keep_step hKL hmt hk2⟩, by dsimp only; omega, ?_⟩
   exact s.weak (by repeat (first | exact sub_nil _ | refine sub_cons rfl ?_))
 refine WC.exit ?_
 refine WQ.thenExit ?_
 refine WQ.thenExit ?_
 refine WQ.blockExit ?_
 refine WQ.next ?_
 refine WC.seq ?_
 have h18 := dec_lt h18
 simp only [Bool.false_eq_true, if_false] at h18
 have hkl : k = x.up.length := by omega
 subst hkl
 have hKL2 : ∀ p c, look2 KL p c = if x.up.any (cellIs B.l p c) then some (.bool true) else none := fun p c => by
   rw [hKL, List.take_of_length_le (by simp), List.any_reverse]
 clear hKL
 refine WC.le (bk_kb _ _ _ _) ?_
 refine WC.region ?_
 refine WL.pure (Y.move rfl) rfl rfl rfl ?_
 refine WL.pure (Y.nilCheck rfl) rfl rfl rfl ?_
 refine WL.pure (Y.fieldAddr fa_112_3 rfl) rfl rfl rfl ?_
 refine WL.val (Y.load fl_110 rfl m1 rfl) rfl rfl rfl ?_
 refine WL.eff (E.range Try.underlying110 rfl (fun a w s => s.fact.1.1) rfl) rfl (fun ib => ?_)
 refine WL.nil ?_
 refine WQ.next ?_
 refine WC.block ?_
 refine WC.loop (ι := List Nat) (fun _ => [(0, B.ptr), (1, .int .i64 t), (4, .map (some kb)), (46, .pointer (some ⟨ib, 0, none⟩))]) (fun _ => x.blkc :: B.own1 :: (K ++ Hl)) (fun seen => (SF.iter u.heap.size ib B.mo B.k2 seen B.k2).sep ((SF.map u.heap.size B.mo ((metE B.l t x.up seen B.ow).map E2.entry) B.k2).sep ((SF.map u.heap.size kb (KL.map E2.entry) ck).sep ((SF.bkr u.heap.size B).sep G)))) (fun _ => True) (fun seen => toCome seen B.ow) [] trivial (fun a w s => by rw [metE_nil]; exact s.weak (by repeat (first | exact sub_nil _ | refine sub_cons rfl ?_))) (fun seen _ => ?_)
 have hsubl : List.Sublist (metE B.l t x.up seen B.ow) B.ow := List.filter_sublist
 refine WC.seq ?_
 refine WC.region ?_
 refine WL.eff (E.next rfl rfl (fun a w s => s.fact.2.1.1.1) (fun e he => hlt e (hsubl.subset he)) rfl) rfl (fun i => ?_)
 obtain ⟨_ | ⟨p, c, v, bn⟩, hi1, hi2⟩ := i
 dsimp only
 refine WL.pure (Y.extract rfl rfl) rfl rfl rfl ?_
 refine WL.nil ?_
 refine WQ.next ?_
 refine WC.seq ?_
 refine WC.condF rfl ?_
 refine WC.exit ?_
 refine WQ.thenExit ?_
 refine WQ.thenExit ?_
 refine WQ.blockExit ?_
 refine WQ.over Try.results154 RVs.nil (fun a w s => ?_)
 · have he := metE_end (hi2 rfl)
   refine ⟨rfl, Wp.le (s.wp.sub (foc_out hK (B' := B.left t x) (set1_same hl1).symm [] Hl)) ?_⟩
   rw [he]
   exact SF.le_trans (SF.sep_snd _ _) (SF.le_trans (SF.sep_mono (SF.le_refl _) (SF.sep_snd _ _)) (bk_mo' _ (B.left t x) G))
 obtain ⟨hel, hns⟩ := hi1 _ rfl
 have hel' := hsubl.subset hel
 obtain ⟨o, rfl⟩ : ∃ o, v = .int .i64 o := hv _ hel'
 dsimp only
 refine WL.pure (Y.extract rfl rfl) rfl rfl rfl ?_
 refine WL.nil ?_
 refine WQ.next ?_
 refine WC.seq ?_
 refine WC.condT rfl ?_
 refine WC.skip' ?_
 refine WQ.next ?_
 refine WC.block ?_
 refine WC.seq ?_
 refine WC.region ?_
 refine WL.val (Y.entry rfl (fun a w s => s.fact.1.1) (fun a w s => s.fact.2.1.1.1) hel (hbn.sublist hsubl)) rfl rfl rfl ?_
 refine WL.pure (Y.extract rfl rfl) rfl rfl rfl ?_
 refine WL.pure (Y.extract rfl rfl) rfl rfl rfl ?_
 refine WL.eff (E.alloc Try.zeroValue51 rfl rfl) rfl (fun b1 => ?_)
 refine WL.eff (E.store Try.sizeOf51 rfl rfl rfl rfl rfl u0 rfl rfl) rfl (fun _ => ?_)
 refine WL.pure (Y.assign rfl) rfl rfl rfl ?_
 refine WL.nil ?_
 refine WQ.next ?_
 refine WC.seq ?_
 refine WC.region ?_
 refine WL.pure (Y.move rfl) rfl rfl rfl ?_
 refine WL.pure (Y.move rfl) rfl rfl rfl ?_
 refine WL.pure (Y.eql rfl rfl) rfl rfl rfl ?_
 refine WL.pure (Y.move rfl) rfl rfl rfl ?_
 refine WL.split (t := 55) rfl (fun r h55 => ?_)
 cases r
 refine WL.guardF rfl rfl rfl rfl rfl rfl ?_
 refine WL.guardF rfl rfl rfl rfl rfl rfl ?_
 refine WL.guardF rfl rfl rfl rfl rfl rfl ?_
 refine WL.guardF rfl rfl rfl rfl rfl rfl ?_
 refine WL.pure (Y.pickF rfl rfl) rfl rfl rfl ?_
 refine WL.nil ?_
 refine WQ.next ?_
 refine WC.condF rfl ?_
 refine WC.skip' ?_
 refine WQ.blockEnd ?_
 · refine fun a w s => ⟨seen ++ [bn], trivial, toCome_lt (e := ⟨p, c, .int .i64 o, bn⟩) hel' hns, ?_⟩
   try dsimp only
   rw [metE_keep hel hbn (by simp [keepE]; simp_all)]
   exact (s.sub (Hsub.of_sub (List.sublist_cons_self _ _))).weak (by repeat (first | exact sub_nil _ | refine sub_cons rfl ?_))
 refine WL.guardT rfl rfl rfl ?_
 refine WL.pure (Y.move rfl) rfl rfl rfl ?_
 refine WL.guardT rfl rfl rfl ?_
 refine WL.val (Y.loadA wd_51 rfl m0 rfl) rfl rfl rfl ?_
 refine WL.guardT rfl rfl rfl ?_
 refine WL.val (Y.lookup (v := .bool (x.up.any (cellIs B.l p c))) rfl rfl (fun a w s => s.fact.2.1.2.1.1.1) (fun w h => (run_lookup_two KL p c Try.underlying50 Try.zeroValue4 h).trans (by rw [getD_keep hKL2]))) rfl rfl rfl ?_
 refine WL.guardT rfl rfl rfl ?_
 refine WL.pure (Y.not rfl) rfl rfl rfl ?_
 refine WL.pure (Y.pickT rfl rfl) rfl rfl rfl ?_
 refine WL.nil ?_
 refine WQ.next ?_
 refine WC.cond rfl (fun h60 => ?_) (fun h60 => ?_)
 refine WC.le (SF.sep_rot _ _ _) ?_
 refine WC.draw [(0, .q false), (1, .q false), (2, .q false), (3, .q true), (4, .q true), (5, .s true)] mixed (by kernel_rfl) ?_
 refine WDm.quiet (QS.pure (Y.move rfl) rfl rfl) rfl rfl rfl ?_
 refine WDm.quiet (QS.pure (Y.nilCheck rfl) rfl rfl) rfl rfl rfl ?_
 refine WDm.quiet (QS.pure (Y.fieldAddr fa_112_3 rfl) rfl rfl) rfl rfl rfl ?_
 refine WDm.quiet (QS.val (Y.load fl_110 rfl m2 rfl) rfl rfl) rfl rfl rfl ?_
 refine WDm.quiet (QS.val (Y.loadA wd_51 rfl m0 rfl) rfl rfl) rfl rfl rfl ?_
 refine WDm.spec (WS.free rfl (E.delete rfl rfl rfl (fun w h => run_delete_two (metE B.l t x.up seen B.ow) p c Try.underlying110 h))) (fun _ => sub_refl _) (fun _ => ?_)
 refine WDm.nil (WQ.and ?_)
 refine WQ.blockEnd ?_
 · refine fun a w s => ⟨seen ++ [bn], trivial, toCome_lt (e := ⟨p, c, .int .i64 o, bn⟩) hel' hns, ?_⟩
   try dsimp only
   rw [← metE_del hel hns hbn hkk (by simp [keepE]; simp_all)]
   exact ((s.le (SF.sep_rot _ _ _)).sub (Hsub.of_sub (List.sublist_cons_self _ _))).weak (by repeat (first | exact sub_nil _ | refine sub_cons rfl ?_))
 refine WC.skip' ?_
 refine WQ.blockEnd ?_
 · refine fun a w s => ⟨seen ++ [bn], trivial, toCome_lt (e := ⟨p, c, .int .i64 o, bn⟩) hel' hns, ?_⟩
   try dsimp only
   rw [metE_keep hel hbn (by simp [keepE]; simp_all)]
   exact (s.sub (Hsub.of_sub (List.sublist_cons_self _ _))).weak (by repeat (first | exact sub_nil _ | refine sub_cons rfl ?_))
end Go.Proofs.Ytdbcimadjmdffaa
