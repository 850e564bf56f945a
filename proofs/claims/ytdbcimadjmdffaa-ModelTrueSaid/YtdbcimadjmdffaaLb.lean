/- Logs: the pages, the Writes that stand, as the document reckons them. No condition. -/
import Derived.Test.YtdbcimadjmdffaaLa
import Derived.Test.YtdbcimadjmdffaaLm
import Derived.Test.YtdbcimadjmdffaaAp
set_option maxRecDepth 100000
set_option linter.unusedVariables false
set_option linter.unusedSimpArgs false
set_option linter.unusedSectionVars false
set_option maxHeartbeats 4000000
namespace Go.Proofs.Ytdbcimadjmdffaa
open Go.RowKit
def P3.cl (p : P3) : List Value := [.int .i64 p.p0.c0, .int .i64 p.p0.c1, .int .i64 p.p0.c2, .int .i64 p.p0.last, .int .i64 p.p1.c0, .int .i64 p.p1.c1, .int .i64 p.p1.c2, .int .i64 p.p1.last, .int .i64 p.p2.c0, .int .i64 p.p2.c1, .int .i64 p.p2.c2, .int .i64 p.p2.last]
theorem put_cell (p : P3) (i c v : Int) (hi : 0 ≤ i ∧ i ≤ 2) (hc : 0 ≤ c ∧ c ≤ 2) : put p.cl (0 + i.toNat * 4 + 0 + c.toNat * 1) [.int .i64 v] = (p.set i ((p.get i).put c v (p.get i).last)).cl := by
  have h1 : i = 0 ∨ i = 1 ∨ i = 2 := by omega
  have h2 : c = 0 ∨ c = 1 ∨ c = 2 := by omega
  rcases h1 with rfl | rfl | rfl <;> rcases h2 with rfl | rfl | rfl <;> rfl
theorem put_last (p : P3) (i v : Int) (hi : 0 ≤ i ∧ i ≤ 2) : put p.cl (0 + i.toNat * 4 + 3) [.int .i64 v] = (p.set i { p.get i with last := v }).cl := by
  have h1 : i = 0 ∨ i = 1 ∨ i = 2 := by omega
  rcases h1 with rfl | rfl | rfl <;> rfl
theorem set_set (p : P3) (i c v n : Int) : (p.set i ((p.get i).put c v (p.get i).last)).set i { (p.set i ((p.get i).put c v (p.get i).last)).get i with last := n } = p.set i ((p.get i).put c v n) := by
  by_cases h0 : i = 0 <;> by_cases h1 : i = 1 <;> by_cases h2 : c = 0 <;> by_cases h3 : c = 1 <;> simp_all [P3.set, P3.get, Pg.put]
theorem cl_len (p : P3) : p.cl.length = 12 := rfl

theorem w_pages (l : List R) (A : Option Addr) (b o c : Nat) (w : World) (hl : l.length ≤ 60) (hr : RL w A b o l) (hin : InR l) : Ret Try.prog 123 [.slice A l.length c] w (pagesOf l.reverse).val := by
 refine enter Try.func123 rfl Try.ntmps123 rfl SF.top trivial ?_
 refine WC.seq ?_
 refine WC.region ?_
 refine WL.eff (E.alloc Try.zeroValue42 rfl rfl) rfl (fun b1 => ?_)
 refine WL.nil ?_
 refine WQ.next ?_
 refine WC.seq ?_
 refine WC.region ?_
 refine WL.eff (E.alloc Try.zeroValue42 rfl rfl) rfl (fun b2 => ?_)
 refine WL.nil ?_
 refine WQ.next ?_
 refine WC.seq ?_
 refine WC.seq ?_
 refine WC.region ?_
 refine WL.pure (Y.assign rfl) rfl rfl rfl ?_
 refine WL.nil ?_
 refine WQ.next ?_
 refine WC.block ?_
 refine WC.loop (ι := Nat) (fun k => [(0, .slice A l.length c), (2, .pointer (some ⟨b1, 0, none⟩)), (3, .pointer (some ⟨b2, 0, none⟩)), (4, .int .i64 k)]) (fun k => [(b2, (pagesOf (l.take k).reverse).cl, 42), (b1, P3.zero.cl, 42)]) (fun _ => SF.top) (fun k => k ≤ l.length) (fun k => l.length - k) 0 (Nat.zero_le _) (fun a w s => s.weak (by repeat (first | exact sub_nil _ | refine sub_cons rfl ?_))) (fun k hk => ?_)
 refine WC.seq ?_
 refine WC.seq ?_
 refine WC.region ?_
 refine WL.pure (Y.move rfl) rfl rfl rfl ?_
 refine WL.pure (Y.move rfl) rfl rfl rfl ?_
 refine WL.pure (Y.len Try.underlying39 rfl) rfl rfl rfl ?_
 refine WL.pure (Y.lss rfl rfl) rfl rfl rfl ?_
 refine WL.nil ?_
 refine WQ.next ?_
 refine WC.cond rfl (fun h8 => ?_) (fun h8 => ?_)
 refine WC.skip' ?_
 refine WQ.next ?_
 refine WC.seq ?_
 refine WC.block ?_
 refine WC.seq ?_
 refine WC.region ?_
 have h8 := dec_lt h8
 simp only [if_true] at h8
 obtain ⟨r, hk'⟩ : ∃ r, l[k]? = some r := ⟨_, List.getElem?_eq_getElem h8⟩
 refine WL.pure (Y.move rfl) rfl rfl rfl ?_
 refine WL.pure (Y.move rfl) rfl rfl rfl ?_
 refine WL.pure (Y.ixSlA Try.underlying39 Try.sizeOf34 rfl rfl (hr.addr hk') (nat0 _) (get_ltI hk')) rfl rfl rfl ?_
 refine WL.val (Y.loadAc wd_34 rfl (r := r.cl) rfl (fun a w s j hj => (hr.below s.low).full hk' j hj)) rfl rfl rfl ?_
 refine WL.eff (E.call Try.call119 rfl (fun _ w s => w_rturns r w) rfl) rfl (fun _ => ?_)
 refine WL.nil ?_
 refine WQ.next ?_
 refine WC.cond rfl (fun h15 => ?_) (fun h15 => ?_)
 refine WC.seq ?_
 refine WC.draw [(0, .q false), (1, .q false), (2, .q false), (3, .q false), (4, .q true), (5, .q false), (6, .q false), (7, .q false), (8, .q false), (9, .q true), (10, .q false), (11, .q false), (12, .q false), (13, .q false), (14, .q true), (15, .q false), (16, .q false), (17, .q false), (18, .s true)] mixed (by kernel_rfl) ?_
 obtain ⟨hp, hc⟩ := hin r (List.mem_of_getElem? hk') h15
 refine WDm.quiet (QS.pure (Y.move rfl) rfl rfl) rfl rfl rfl ?_
 refine WDm.quiet (QS.pure (Y.move rfl) rfl rfl) rfl rfl rfl ?_
 refine WDm.quiet (QS.pure (Y.ixSlA Try.underlying39 Try.sizeOf34 rfl rfl (hr.addr hk') (nat0 _) (get_ltI hk')) rfl rfl) rfl rfl rfl ?_
 refine WDm.quiet (QS.pure (Y.fieldAddr fa_34_3 rfl) rfl rfl) rfl rfl rfl ?_
 refine WDm.quiet (QS.val (Y.loadc fl_3 rfl (fun a w s => (hr.below s.low).cell _ _ hk' 3 _ rfl)) rfl rfl) rfl rfl rfl ?_
 refine WDm.quiet (QS.pure (Y.move rfl) rfl rfl) rfl rfl rfl ?_
 refine WDm.quiet (QS.pure (Y.move rfl) rfl rfl) rfl rfl rfl ?_
 refine WDm.quiet (QS.pure (Y.ixSlA Try.underlying39 Try.sizeOf34 rfl rfl (hr.addr hk') (nat0 _) (get_ltI hk')) rfl rfl) rfl rfl rfl ?_
 refine WDm.quiet (QS.pure (Y.fieldAddr fa_34_4 rfl) rfl rfl) rfl rfl rfl ?_
 refine WDm.quiet (QS.val (Y.loadc fl_3 rfl (fun a w s => (hr.below s.low).cell _ _ hk' 4 _ rfl)) rfl rfl) rfl rfl rfl ?_
 refine WDm.quiet (QS.pure (Y.move rfl) rfl rfl) rfl rfl rfl ?_
 refine WDm.quiet (QS.pure (Y.move rfl) rfl rfl) rfl rfl rfl ?_
 refine WDm.quiet (QS.pure (Y.ixSlA Try.underlying39 Try.sizeOf34 rfl rfl (hr.addr hk') (nat0 _) (get_ltI hk')) rfl rfl) rfl rfl rfl ?_
 refine WDm.quiet (QS.pure (Y.fieldAddr fa_34_6 rfl) rfl rfl) rfl rfl rfl ?_
 refine WDm.quiet (QS.val (Y.loadc fl_3 rfl (fun a w s => (hr.below s.low).cell _ _ hk' 6 _ rfl)) rfl rfl) rfl rfl rfl ?_
 refine WDm.quiet (QS.pure (Y.ixArr Try.underlying42 Try.sizeOf24 rfl rfl hp.1 (by omega)) rfl rfl) rfl rfl rfl ?_
 refine WDm.quiet (QS.pure (Y.fieldAddr fa_24_0 rfl) rfl rfl) rfl rfl rfl ?_
 refine WDm.quiet (QS.pure (Y.ixArr Try.underlying22 Try.sizeOf3 rfl rfl hc.1 (by omega)) rfl rfl) rfl rfl rfl ?_
 refine WDm.spec (WS.free rfl (E.storeP Try.sizeOf3 rfl rfl rfl rfl rfl (by repeat (first | exact Upd.here | apply Upd.there)) (by rw [cl_len]; omega) (put_cell _ _ _ _ hp hc))) (fun _ => sub_refl _) (fun _ => ?_)
 refine WDm.nil (WQ.and ?_)
 refine WQ.next ?_
 refine WC.region ?_
 refine WL.pure (Y.move rfl) rfl rfl rfl ?_
 refine WL.pure (Y.move rfl) rfl rfl rfl ?_
 refine WL.pure (Y.ixSlA Try.underlying39 Try.sizeOf34 rfl rfl (hr.addr hk') (nat0 _) (get_ltI hk')) rfl rfl rfl ?_
 refine WL.pure (Y.fieldAddr fa_34_3 rfl) rfl rfl rfl ?_
 refine WL.val (Y.loadc fl_3 rfl (fun a w s => (hr.below s.low).cell _ _ hk' 3 _ rfl)) rfl rfl rfl ?_
 refine WL.pure (Y.move rfl) rfl rfl rfl ?_
 refine WL.pure (Y.add rfl rfl (i64_in (by omega) (by omega))) rfl rfl rfl ?_
 refine WL.pure (Y.ixArr Try.underlying42 Try.sizeOf24 rfl rfl hp.1 (by omega)) rfl rfl rfl ?_
 refine WL.pure (Y.fieldAddr fa_24_1 rfl) rfl rfl rfl ?_
 refine WL.eff (E.storeP Try.sizeOf3 rfl rfl rfl rfl rfl (by repeat (first | exact Upd.here | apply Upd.there)) (by rw [cl_len]; omega) ((put_last _ _ _ hp).trans (congrArg P3.cl (set_set _ _ _ _ _)))) rfl (fun _ => ?_)
 refine WL.nil ?_
 refine WQ.blockEnd ?_
 refine WQ.next ?_
 refine WC.region ?_
 refine WL.pure (Y.move rfl) rfl rfl rfl ?_
 refine WL.pure (Y.add rfl rfl (i64_in (by omega) (by omega))) rfl rfl rfl ?_
 refine WL.pure (Y.assign rfl) rfl rfl rfl ?_
 refine WL.nil ?_
 · have e : (pagesOf (l.take (k + 1)).reverse) = (pagesOf (l.take k).reverse).set r.page (((pagesOf (l.take k).reverse).get r.page).put r.cell r.new (k + 1)) := by
     rw [takeS hk']
     simp [pagesOf, h15, takeL hk']
   refine fun a w s => ⟨k + 1, by omega, by omega, ?_⟩
   try dsimp only
   rw [e]
   exact s.weak (by repeat (first | exact sub_nil _ | refine sub_cons rfl ?_))
 refine WC.skip' ?_
 refine WQ.blockEnd ?_
 refine WQ.next ?_
 refine WC.region ?_
 refine WL.pure (Y.move rfl) rfl rfl rfl ?_
 refine WL.pure (Y.add rfl rfl (i64_in (by omega) (by omega))) rfl rfl rfl ?_
 refine WL.pure (Y.assign rfl) rfl rfl rfl ?_
 refine WL.nil ?_
 · have e : (pagesOf (l.take (k + 1)).reverse) = pagesOf (l.take k).reverse := by
     rw [takeS hk']
     simp [pagesOf, h15, takeL hk']
   refine fun a w s => ⟨k + 1, by omega, by omega, ?_⟩
   try dsimp only
   rw [e]
   exact s.weak (by repeat (first | exact sub_nil _ | refine sub_cons rfl ?_))
 refine WC.exit ?_
 refine WQ.thenExit ?_
 refine WQ.thenExit ?_
 refine WQ.blockExit ?_
 refine WQ.next ?_
 refine WC.seq ?_
 refine WC.region ?_
 refine WL.val (Y.loadA wd_42 rfl (by repeat (first | exact List.Mem.head _ | apply List.Mem.tail)) rfl) rfl rfl rfl ?_
 refine WL.eff (E.store Try.sizeOf42 rfl rfl rfl rfl rfl (by repeat (first | exact Upd.here | apply Upd.there)) rfl rfl) rfl (fun _ => ?_)
 refine WL.nil ?_
 refine WQ.next ?_
 refine WC.ret ?_
 refine WQ.done Try.results123 (RVs.cons (RV.cell wd_42 rfl (by repeat (first | exact List.Mem.head _ | apply List.Mem.tail)) rfl) RVs.nil) (fun a w s => ?_)
 · refine ⟨?_, s.low⟩
   have h8 := dec_lt h8
   simp only [Bool.false_eq_true, if_false] at h8
   rw [take_len h8]
   rfl

/-- The numbers as a slice has them. -/
def nums (l : List Nat) : List Value := l.map fun (n : Nat) => Value.int .i64 n
theorem wrs_rev {l : List R} {k : Nat} {r : R} (t : Int) (h : l[k]? = some r) : nums (wrs (l.take (k + 1)).reverse t).reverse = nums (wrs (l.take k).reverse t).reverse ++ (if r.txn = t ∧ r.kind = 1 then [.int .i64 ((k + 1 : Nat) : Int)] else []) := by
  rw [takeS h, wrs, takeL h]
  split <;> simp [nums]
theorem wrs_rlen {l : List R} {k : Nat} {r : R} (t : Int) (h : l[k]? = some r) : (wrs (l.take (k + 1)).reverse t).length = (wrs (l.take k).reverse t).length + (if r.txn = t ∧ r.kind = 1 then 1 else 0) := by
  rw [takeS h, wrs]
  split <;> simp
theorem ups_rev (h : List R) (t : Int) (hf : cnt h t 3 ≤ (wrs h t).length) : nums (ups h t).reverse = (nums (wrs h t).reverse).take ((wrs h t).length - cnt h t 3) := by
  unfold ups nums
  rw [← List.map_take]
  congr 1
  rw [List.reverse_drop]
theorem ups_len (h : List R) (t : Int) : (ups h t).length = (wrs h t).length - cnt h t 3 := by simp [ups]

theorem w_stands (l : List R) (A : Option Addr) (b o c : Nat) (t : Int) (w : World) (hl : l.length ≤ 60) (hr : RL w A b o l) (hf : cnt l.reverse t 3 ≤ (wrs l.reverse t).length) : Calls Try.prog 153 [.slice A l.length c, .int .i64 t].toArray w fun e w' => ∃ i : Option Addr × Nat, e = .returned (.slice i.1 (ups l.reverse t).length i.2) ∧ Below w.heap.size w w' ∧ w'.ownsRow w.heap.size 3 1 (.slice i.1 (ups l.reverse t).length i.2) (ups l.reverse t).length (nums (ups l.reverse t).reverse) := by
 obtain ⟨i0, hi0, hz0, hz1, hz2⟩ := info_parts int_info
 refine enter Try.func153 rfl Try.ntmps153 rfl SF.top trivial ?_
 refine WC.seq ?_
 refine WC.region ?_
 refine WL.pure (Y.assign rfl) rfl rfl rfl ?_
 refine WL.nil ?_
 refine WQ.next ?_
 refine WC.seq ?_
 refine WC.region ?_
 refine WL.pure (Y.assign rfl) rfl rfl rfl ?_
 refine WL.nil ?_
 refine WQ.next ?_
 refine WC.seq ?_
 refine WC.seq ?_
 refine WC.region ?_
 refine WL.pure (Y.assign rfl) rfl rfl rfl ?_
 refine WL.nil ?_
 refine WQ.next ?_
 refine WC.block ?_
 refine WC.fact (SF.own w.heap.size 3 1 (.slice none 0 0) 0 []) (fun a w s => ⟨own_nil _ _ _ _, fun _ _ h => by cases h⟩) ?_
 refine WC.loop (ι := Nat × Option Addr × Nat) (fun k => [(0, .slice A l.length c), (1, .int .i64 t), (5, .slice k.2.1 (wrs (l.take k.1).reverse t).length k.2.2), (6, .int .i64 k.1)]) (fun _ => []) (fun k => SF.own w.heap.size 3 1 (.slice k.2.1 (wrs (l.take k.1).reverse t).length k.2.2) (wrs (l.take k.1).reverse t).length (nums (wrs (l.take k.1).reverse t).reverse)) (fun k => k.1 ≤ l.length) (fun k => l.length - k.1) (0, none, 0) (Nat.zero_le _) (fun a w s => s.weak (by repeat (first | exact sub_nil _ | refine sub_cons rfl ?_))) (fun k hk => ?_)
 obtain ⟨k, A5, c5⟩ := k
 dsimp only at hk ⊢
 have hwl := wrs_len (l.take k).reverse t
 simp only [List.length_reverse, List.length_take] at hwl
 refine WC.seq ?_
 refine WC.seq ?_
 refine WC.region ?_
 refine WL.pure (Y.move rfl) rfl rfl rfl ?_
 refine WL.pure (Y.move rfl) rfl rfl rfl ?_
 refine WL.pure (Y.len Try.underlying39 rfl) rfl rfl rfl ?_
 refine WL.pure (Y.lss rfl rfl) rfl rfl rfl ?_
 refine WL.nil ?_
 refine WQ.next ?_
 refine WC.cond rfl (fun h10 => ?_) (fun h10 => ?_)
 refine WC.skip' ?_
 refine WQ.next ?_
 refine WC.seq ?_
 refine WC.block ?_
 refine WC.seq ?_
 refine WC.region ?_
 have h10 := dec_lt h10
 simp only [if_true] at h10
 obtain ⟨r, hk'⟩ : ∃ r, l[k]? = some r := ⟨_, List.getElem?_eq_getElem h10⟩
 refine WL.pure (Y.move rfl) rfl rfl rfl ?_
 refine WL.pure (Y.move rfl) rfl rfl rfl ?_
 refine WL.pure (Y.ixSlA Try.underlying39 Try.sizeOf34 rfl rfl (hr.addr hk') (nat0 _) (get_ltI hk')) rfl rfl rfl ?_
 refine WL.pure (Y.fieldAddr fa_34_1 rfl) rfl rfl rfl ?_
 refine WL.val (Y.loadc fl_3 rfl (fun a w s => (hr.below s.low).cell _ _ hk' 1 _ rfl)) rfl rfl rfl ?_
 refine WL.pure (Y.move rfl) rfl rfl rfl ?_
 refine WL.pure (Y.eql rfl rfl) rfl rfl rfl ?_
 refine WL.pure (Y.move rfl) rfl rfl rfl ?_
 refine WL.split (t := 20) rfl (fun r h20 => ?_)
 cases r
 refine WL.guardF rfl rfl rfl rfl rfl rfl ?_
 refine WL.guardF rfl rfl rfl rfl rfl rfl ?_
 refine WL.guardF rfl rfl rfl rfl rfl rfl ?_
 refine WL.guardF rfl rfl rfl rfl rfl rfl ?_
 refine WL.guardF rfl rfl rfl rfl rfl rfl ?_
 refine WL.guardF rfl rfl rfl rfl rfl rfl ?_
 refine WL.pure (Y.pickF rfl rfl) rfl rfl rfl ?_
 refine WL.nil ?_
 refine WQ.next ?_
 refine WC.condF rfl ?_
 refine WC.skip' ?_
 refine WQ.blockEnd ?_
 refine WQ.next ?_
 refine WC.region ?_
 refine WL.pure (Y.move rfl) rfl rfl rfl ?_
 refine WL.pure (Y.add rfl rfl (i64_in (by omega) (by omega))) rfl rfl rfl ?_
 refine WL.pure (Y.assign rfl) rfl rfl rfl ?_
 refine WL.nil ?_
 · have e1 := wrs_rlen t hk'
   have e2 := wrs_rev t hk'
   simp at h20
   rw [if_neg (by intro ⟨x, y⟩; simp_all)] at e1 e2
   refine fun a w s => ⟨(k + 1, A5, c5), by dsimp only; omega, by dsimp only; omega, ?_⟩
   try dsimp only
   rw [e1, e2, Nat.add_zero, List.append_nil]
   exact s.weak (by repeat (first | exact sub_nil _ | refine sub_cons rfl ?_))
 refine WL.guardT rfl rfl rfl ?_
 refine WL.pure (Y.move rfl) rfl rfl rfl ?_
 refine WL.guardT rfl rfl rfl ?_
 refine WL.pure (Y.move rfl) rfl rfl rfl ?_
 refine WL.guardT rfl rfl rfl ?_
 refine WL.pure (Y.ixSlA Try.underlying39 Try.sizeOf34 rfl rfl (hr.addr hk') (nat0 _) (get_ltI hk')) rfl rfl rfl ?_
 refine WL.guardT rfl rfl rfl ?_
 refine WL.pure (Y.fieldAddr fa_34_0 rfl) rfl rfl rfl ?_
 refine WL.guardT rfl rfl rfl ?_
 refine WL.val (Y.loadc fl_3 rfl (fun a w s => (hr.below s.low).cell _ _ hk' 0 _ rfl)) rfl rfl rfl ?_
 refine WL.guardT rfl rfl rfl ?_
 refine WL.pure (Y.eql rfl rfl) rfl rfl rfl ?_
 refine WL.pure (Y.pickT rfl rfl) rfl rfl rfl ?_
 refine WL.nil ?_
 refine WQ.next ?_
 refine WC.cond rfl (fun h27 => ?_) (fun h27 => ?_)
 refine WC.region ?_
 refine WL.pure (Y.move rfl) rfl rfl rfl ?_
 refine WL.pure (Y.move rfl) rfl rfl rfl ?_
 refine WL.pure (Y.add rfl rfl (i64_in (by omega) (by omega))) rfl rfl rfl ?_
 refine WL.eff (E.buildSlice (bs_64_1 _) rfl rfl) rfl (fun b1 => ?_)
 refine WL.eff (E.append Try.underlying64 hi0 hz0 hz1 hz2 rfl (by decide) rfl rfl rfl (by repeat (first | exact List.Mem.head _ | apply List.Mem.tail)) rfl rfl (by unfold maxLen; omega) (by omega) rfl) rfl (fun i => ?_)
 refine WL.pure (Y.assign rfl) rfl rfl rfl ?_
 refine WL.nil ?_
 refine WQ.blockEnd ?_
 refine WQ.next ?_
 refine WC.region ?_
 refine WL.pure (Y.move rfl) rfl rfl rfl ?_
 refine WL.pure (Y.add rfl rfl (i64_in (by omega) (by omega))) rfl rfl rfl ?_
 refine WL.pure (Y.assign rfl) rfl rfl rfl ?_
 refine WL.nil ?_
 · have e1 := wrs_rlen t hk'
   have e2 := wrs_rev t hk'
   simp at h20
   simp at h27
   rw [if_pos ⟨h20, h27⟩] at e1 e2
   refine fun a w s => ⟨(k + 1, i.1, i.2), by dsimp only; omega, by dsimp only; omega, ?_⟩
   try dsimp only
   rw [e1, e2]
   exact s.noH.weak (by repeat (first | exact sub_nil _ | refine sub_cons rfl ?_))
 refine WC.skip' ?_
 refine WQ.blockEnd ?_
 refine WQ.next ?_
 refine WC.region ?_
 refine WL.pure (Y.move rfl) rfl rfl rfl ?_
 refine WL.pure (Y.add rfl rfl (i64_in (by omega) (by omega))) rfl rfl rfl ?_
 refine WL.pure (Y.assign rfl) rfl rfl rfl ?_
 refine WL.nil ?_
 · have e1 := wrs_rlen t hk'
   have e2 := wrs_rev t hk'
   simp at h20
   rw [if_neg (by intro ⟨x, y⟩; simp_all)] at e1 e2
   refine fun a w s => ⟨(k + 1, A5, c5), by dsimp only; omega, by dsimp only; omega, ?_⟩
   try dsimp only
   rw [e1, e2, Nat.add_zero, List.append_nil]
   exact s.weak (by repeat (first | exact sub_nil _ | refine sub_cons rfl ?_))
 refine WC.exit ?_
 refine WQ.thenExit ?_
 refine WQ.thenExit ?_
 refine WQ.blockExit ?_
 refine WQ.next ?_
 refine WC.seq ?_
 refine WC.region ?_
 have h10 := dec_lt h10
 simp only [Bool.false_eq_true, if_false] at h10
 have e0 : l.take k = l := take_len h10
 rw [e0] at hwl ⊢
 refine WL.know (fun a w s => own_le s.fact) (fun hcap => ?_)
 refine WL.pure (Y.move rfl) rfl rfl rfl ?_
 refine WL.pure (Y.move rfl) rfl rfl rfl ?_
 refine WL.pure (Y.len Try.underlying64 rfl) rfl rfl rfl ?_
 refine WL.pure (Y.move rfl) rfl rfl rfl ?_
 refine WL.pure (Y.move rfl) rfl rfl rfl ?_
 refine WL.eff (E.call Try.call137 rfl (fun _ w s => w_count l A b o c t 3 w hl (hr.below s.low)) rfl) rfl (fun _ => ?_)
 refine WL.pure (Y.sub rfl rfl (i64_in (by omega) (by omega))) rfl rfl rfl ?_
 refine WL.pure (Y.slTo Try.underlying64 Try.sizeOf3 rfl rfl (by omega) (by omega)) rfl rfl rfl ?_
 refine WL.pure (Y.assign rfl) rfl rfl rfl ?_
 refine WL.nil ?_
 refine WQ.next ?_
 refine WC.ret ?_
 refine WQ.done Try.results153 (RVs.cons (RV.tmp rfl) RVs.nil) (fun a w s => ?_)
 · refine ⟨(A5, c5), ?_, s.low, ?_⟩
   · simp only [packed, ups_len]
     congr 2
     omega
   · dsimp only
     rw [ups_rev _ _ hf, ups_len]
     have := own_cut s.fact (j := (wrs l.reverse t).length - cnt l.reverse t 3) (by omega)
     rwa [Nat.mul_one] at this
end Go.Proofs.Ytdbcimadjmdffaa
