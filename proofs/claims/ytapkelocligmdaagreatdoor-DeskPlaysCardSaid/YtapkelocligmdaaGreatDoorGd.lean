/- Scripts: the document's line. No condition. -/
import Derived.Test.YtapkelocligmdaaGreatDoorDu
import Derived.Test.YtapkelocligmdaaGreatDoorQ6
set_option maxRecDepth 100000
set_option linter.unusedVariables false
set_option linter.unusedSimpArgs false
set_option linter.unusedSectionVars false
set_option maxHeartbeats 4000000
namespace Go.Proofs.YtapkelocligmdaaGreatDoor
open Go.RowKit Go.Joins
theorem Right.rev {l : List R} (h : Right l.reverse) : InR l := fun r hr => h.inR r (List.mem_reverse.2 hr)

theorem w_played (x : Wd) (A : Option Addr) (b o c : Nat) (l9 : Str) (w : World) (hm : x.log.length ≤ maxLen) (hcap : x.log.length ≤ c) (hr : RL w A b o x.log) (hw0 : worldErr x = 0) (hl9 : l9.length ≤ 4096) : RetX Tryz.prog 15 [x.val A c, su l9] w x A c (lineOf x l9).1 [su (lineOf x l9).2.1, .int .i64 (lineOf x l9).2.2] := by
 obtain ⟨hR, h60, hs, hp0, hp1, hp2⟩ := world_parts hw0
 have hsafe : x.safe = (((x.log.take x.safe.toNat).length : Nat) : Int) := by rw [List.length_take]; omega
 refine enter Tryz.func15 rfl Tryz.ntmps15 rfl SF.top trivial ?_
 refine sR ?_
 refine WL.eff (E.box rfl rfl rfl) rfl (fun b1 => ?_)
 refine WL.eff (E.alloc Tryz.zeroValue36 rfl rfl) rfl (fun b2 => ?_)
 refine pA rfl rfl ?_
 refine pA rfl rfl ?_
 refine nN ?_
 refine WC.seq ?_
 refine sR ?_
 refine pM rfl rfl ?_
 refine nN ?_
 refine WC.block ?_
 refine sR ?_
 refine pP (Y.eqU (b := wCrash) rfl rfl rfl) rfl ?_
 refine pA rfl rfl ?_
 refine nN ?_
 refine WC.cond rfl (fun h29 => ?_) (fun h29 => ?_)
 refine sR ?_
 refine pV (Y.loadAN wd_36 rfl (by repeat (first | exact List.Mem.head _ | apply List.Mem.tail)) (r := x.cl A c) rfl) rfl ?_
 refine WL.eff (E.retW ((mendOf x (-1) true true true).1) [.int .i64 (mendOf x (-1) true true true).2.1, .int .i64 (mendOf x (-1) true true true).2.2] Tryz.call32 rfl (fun _ w s => w_refMendAll x A b o c w hm hcap (hr.below s.low)) rfl) rfl (fun i => ?_)
 refine pM rfl rfl ?_
 refine pP (Y.extract rfl rfl) rfl ?_
 refine pP (Y.extract rfl rfl) rfl ?_
 refine pP (Y.extract rfl rfl) rfl ?_
 refine WL.eff (E.alloc Tryz.zeroValue36 rfl rfl) rfl (fun b3 => ?_)
 refine WL.eff (E.store Tryz.sizeOf36 rfl rfl rfl rfl rfl u0 rfl rfl) rfl (fun _ => ?_)
 refine pA rfl rfl ?_
 refine pA rfl rfl ?_
 refine nN ?_
 refine WC.seq ?_
 refine WC.drop [5, 6] ?_
 refine WC.draw [(0, .q true), (1, .q false), (2, .q true), (3, .q false), (4, .s true), (5, .q false), (6, .q false)] mixed (by kernel_rfl) ?_
 refine dV (Y.loadAN wd_36 rfl (by repeat (first | exact List.Mem.head _ | apply List.Mem.tail)) (r := (mendOf x (-1) true true true).1.cl i.1 i.2) rfl) rfl rfl ?_
 refine dP (Y.move rfl) rfl rfl ?_
 refine WDm.quiet (QS.call Tryz.call16 rfl (fun _ w s => (by have hc := mend_cnt x; have hd := w_digits (mendOf x (-1) true true true).2.1.toNat (by omega) w; rw [Int.toNat_of_nonneg hc.1] at hd; exact hd))) rfl rfl rfl ?_
 refine dP (Y.move rfl) rfl rfl ?_
 refine WDm.spec (WS.free rfl (E.store Tryz.sizeOf36 rfl rfl rfl rfl rfl u1 rfl rfl)) (fun _ => sub_refl _) (fun _ => ?_)
 refine dP (Y.assign rfl) rfl rfl ?_
 refine dP (Y.assign rfl) rfl rfl ?_
 refine WDm.nil (WQ.and ?_)
 refine WQ.next ?_
 refine WC.ret ?_
 refine WQ.blockRet ?_
 refine WQ.thenRet ?_
 refine WQ.done Tryz.results15 (RVs.cons (RV.cell wd_36 rfl m1 rfl) (RVs.cons (RV.tmp rfl) (RVs.cons (RV.tmp rfl) RVs.nil))) (fun a w s => ?_)
 · have y9 : l9 = wCrash := by have hh := h29; simpa using hh
   have e : lineOf x l9 = crashA x := by unfold lineOf showOf; rw [if_pos y9]
   rw [e]
   exact ⟨(i, true), rfl, s.low, s.fact.1, fun h => by cases h⟩
 refine sR ?_
 refine pP (Y.eqU (b := wNow) rfl rfl rfl) rfl ?_
 refine pA rfl rfl ?_
 refine nN ?_
 refine WC.cond rfl (fun h41 => ?_) (fun h41 => ?_)
 refine WC.seq ?_
 refine WC.drop [5, 6] ?_
 refine WC.draw [(0, .q true), (1, .q false), (2, .q true), (3, .q true), (4, .q true), (5, .q true), (6, .s true), (7, .q false), (8, .q false)] mixed (by kernel_rfl) ?_
 refine dV (Y.loadAN wd_36 rfl (by repeat (first | exact List.Mem.head _ | apply List.Mem.tail)) (r := x.cl A c) rfl) rfl rfl ?_
 refine dP (Y.fieldAddr fa_36_1 rfl) rfl rfl ?_
 refine dV (Y.load (v := .slice A x.log.length c) fl_34 rfl (by repeat (first | exact List.Mem.head _ | apply List.Mem.tail)) rfl) rfl rfl ?_
 refine WDm.quiet (QS.call Tryz.call35 rfl (fun _ w s => w_pages x.log A b o c w h60 (hr.below s.low) hR.rev)) rfl rfl rfl ?_
 refine WDm.quiet (QS.call Tryz.call34 rfl (fun _ w s => w_refCells (pagesOf x.h) w)) rfl rfl rfl ?_
 refine WDm.quiet (QS.call Tryz.call33 rfl (fun _ w s => w_refListed (pagesOf x.h).cells9 hR.okC w)) rfl rfl rfl ?_
 refine WDm.spec (WS.free rfl (E.store Tryz.sizeOf36 rfl rfl rfl rfl rfl u0 rfl rfl)) (fun _ => sub_refl _) (fun _ => ?_)
 refine dP (Y.assign rfl) rfl rfl ?_
 refine dP (Y.assign rfl) rfl rfl ?_
 refine WDm.nil (WQ.and ?_)
 refine WQ.next ?_
 refine WC.ret ?_
 refine WQ.blockRet ?_
 refine WQ.thenRet ?_
 refine WQ.done Tryz.results15 (RVs.cons (RV.cell wd_36 rfl m0 rfl) (RVs.cons (RV.tmp rfl) (RVs.cons (RV.tmp rfl) RVs.nil))) (fun a w s => ?_)
 · have n29 : ¬ l9 = wCrash := by have hh := h29; simpa using hh
   have y9 : l9 = wNow := by have hh := h41; simpa using hh
   have e : lineOf x l9 = (x, listedOf (pagesOf x.h).cells9.nat, 0) := by unfold lineOf showOf; rw [if_neg n29, if_pos y9]
   rw [e]
   exact ⟨((A, c), false), rfl, s.low, trivial, fun _ => ⟨rfl, rfl⟩⟩
 refine sR ?_
 refine pP (Y.eqU (b := wDisk) rfl rfl rfl) rfl ?_
 refine pA rfl rfl ?_
 refine nN ?_
 refine WC.cond rfl (fun h49 => ?_) (fun h49 => ?_)
 refine WC.seq ?_
 refine WC.drop [5, 6] ?_
 refine WC.draw [(0, .q true), (1, .q false), (2, .q true), (3, .q true), (4, .q true), (5, .s true), (6, .q false), (7, .q false)] mixed (by kernel_rfl) ?_
 refine dV (Y.loadAN wd_36 rfl (by repeat (first | exact List.Mem.head _ | apply List.Mem.tail)) (r := x.cl A c) rfl) rfl rfl ?_
 refine dP (Y.fieldAddr fa_36_0 rfl) rfl rfl ?_
 refine dV (Y.loadAN wd_33 rfl (by repeat (first | exact List.Mem.head _ | apply List.Mem.tail)) (r := x.disk.cl) rfl) rfl rfl ?_
 refine WDm.quiet (QS.call Tryz.call34 rfl (fun _ w s => w_refCells x.disk w)) rfl rfl rfl ?_
 refine WDm.quiet (QS.call Tryz.call33 rfl (fun _ w s => w_refListed x.disk.cells9 (P3.okC hp0 hp1 hp2) w)) rfl rfl rfl ?_
 refine WDm.spec (WS.free rfl (E.store Tryz.sizeOf36 rfl rfl rfl rfl rfl u0 rfl rfl)) (fun _ => sub_refl _) (fun _ => ?_)
 refine dP (Y.assign rfl) rfl rfl ?_
 refine dP (Y.assign rfl) rfl rfl ?_
 refine WDm.nil (WQ.and ?_)
 refine WQ.next ?_
 refine WC.ret ?_
 refine WQ.blockRet ?_
 refine WQ.thenRet ?_
 refine WQ.done Tryz.results15 (RVs.cons (RV.cell wd_36 rfl m0 rfl) (RVs.cons (RV.tmp rfl) (RVs.cons (RV.tmp rfl) RVs.nil))) (fun a w s => ?_)
 · have n29 : ¬ l9 = wCrash := by have hh := h29; simpa using hh
   have n41 : ¬ l9 = wNow := by have hh := h41; simpa using hh
   have y9 : l9 = wDisk := by have hh := h49; simpa using hh
   have e : lineOf x l9 = (x, listedOf x.disk.cells9.nat, 0) := by unfold lineOf showOf; rw [if_neg n29, if_neg n41, if_pos y9]
   rw [e]
   exact ⟨((A, c), false), rfl, s.low, trivial, fun _ => ⟨rfl, rfl⟩⟩
 refine sR ?_
 refine pP (Y.eqU (b := wMust) rfl rfl rfl) rfl ?_
 refine pA rfl rfl ?_
 refine nN ?_
 refine WC.cond rfl (fun h56 => ?_) (fun h56 => ?_)
 refine sR ?_
 refine pP (Y.fieldAddr fa_36_1 rfl) rfl ?_
 refine pV (Y.load (v := .slice A x.log.length c) fl_34 rfl (by repeat (first | exact List.Mem.head _ | apply List.Mem.tail)) rfl) rfl ?_
 refine pP (Y.fieldAddr fa_36_2 rfl) rfl ?_
 refine pV (Y.load (v := .int .i64 x.safe) fl_3 rfl (by repeat (first | exact List.Mem.head _ | apply List.Mem.tail)) rfl) rfl ?_
 refine pP (Y.slToN (x.log.take x.safe.toNat).length hsafe Tryz.underlying34 Tryz.sizeOf101 rfl rfl (by simp; omega)) rfl ?_
 refine WL.eff (E.call Tryz.call36 rfl (fun _ w s => w_docCells (x.log.take x.safe.toNat) A b o c w (by simp; omega) (by simp; omega) ((hr.below s.low).take _)) rfl) rfl (fun _ => ?_)
 refine pM rfl rfl ?_
 refine pP (Y.extract rfl rfl) rfl ?_
 refine pP (Y.extract rfl rfl) rfl ?_
 refine WL.eff (E.alloc Tryz.zeroValue78 rfl rfl) rfl (fun b4 => ?_)
 refine WL.eff (E.store Tryz.sizeOf78 rfl rfl rfl rfl rfl u0 rfl rfl) rfl (fun _ => ?_)
 refine pA rfl rfl ?_
 refine nN ?_
 refine WC.seq ?_
 refine WC.drop [5, 6] ?_
 refine WC.draw [(0, .q true), (1, .q true), (2, .q true), (3, .q false), (4, .s true), (5, .q false), (6, .q false)] mixed (by kernel_rfl) ?_
 refine dV (Y.loadAN wd_36 rfl (by repeat (first | exact List.Mem.head _ | apply List.Mem.tail)) (r := x.cl A c) rfl) rfl rfl ?_
 refine dV (Y.loadAN wd_78 rfl (by repeat (first | exact List.Mem.head _ | apply List.Mem.tail)) (r := (cellsOf (x.log.take x.safe.toNat)).cl) rfl) rfl rfl ?_
 refine WDm.quiet (QS.call Tryz.call33 rfl (fun _ w s => w_refListed (cellsOf (x.log.take x.safe.toNat)) cells_okC w)) rfl rfl rfl ?_
 refine dP (Y.move rfl) rfl rfl ?_
 refine WDm.spec (WS.free rfl (E.store Tryz.sizeOf36 rfl rfl rfl rfl rfl u1 rfl rfl)) (fun _ => sub_refl _) (fun _ => ?_)
 refine dP (Y.assign rfl) rfl rfl ?_
 refine dP (Y.assign rfl) rfl rfl ?_
 refine WDm.nil (WQ.and ?_)
 refine WQ.next ?_
 refine WC.ret ?_
 refine WQ.blockRet ?_
 refine WQ.thenRet ?_
 refine WQ.done Tryz.results15 (RVs.cons (RV.cell wd_36 rfl m1 rfl) (RVs.cons (RV.tmp rfl) (RVs.cons (RV.tmp rfl) RVs.nil))) (fun a w s => ?_)
 · have n29 : ¬ l9 = wCrash := by have hh := h29; simpa using hh
   have n41 : ¬ l9 = wNow := by have hh := h41; simpa using hh
   have n49 : ¬ l9 = wDisk := by have hh := h49; simpa using hh
   have y9 : l9 = wMust := by have hh := h56; simpa using hh
   have e : lineOf x l9 = mustA x := by unfold lineOf showOf; rw [if_neg n29, if_neg n41, if_neg n49, if_pos y9]
   rw [e]
   exact ⟨((A, c), false), rfl, s.low, trivial, fun _ => ⟨rfl, rfl⟩⟩
 refine sR ?_
 refine pP (Y.eqU (b := wLog) rfl rfl rfl) rfl ?_
 refine pA rfl rfl ?_
 refine nN ?_
 refine WC.cond rfl (fun h71 => ?_) (fun h71 => ?_)
 refine WC.seq ?_
 refine WC.drop [5, 6] ?_
 refine WC.draw [(0, .q true), (1, .q false), (2, .q true), (3, .q false), (4, .q true), (5, .q false), (6, .q false), (7, .q true), (8, .q true), (9, .q false), (10, .s true), (11, .q false), (12, .q false)] mixed (by kernel_rfl) ?_
 refine dV (Y.loadAN wd_36 rfl (by repeat (first | exact List.Mem.head _ | apply List.Mem.tail)) (r := x.cl A c) rfl) rfl rfl ?_
 refine dP (Y.fieldAddr fa_36_1 rfl) rfl rfl ?_
 refine dV (Y.load (v := .slice A x.log.length c) fl_34 rfl (by repeat (first | exact List.Mem.head _ | apply List.Mem.tail)) rfl) rfl rfl ?_
 refine dP (Y.len Tryz.underlying34 rfl) rfl rfl ?_
 refine WDm.quiet (QS.call Tryz.call16 rfl (fun _ w s => w_digits x.log.length (by omega) w)) rfl rfl rfl ?_
 refine dP (Y.addU (b := [32]) (by have := digs_short (n := x.log.length) (by omega); simp; omega) rfl rfl rfl rfl) rfl rfl ?_
 refine dP (Y.fieldAddr fa_36_2 rfl) rfl rfl ?_
 refine dV (Y.load (v := .int .i64 x.safe) fl_3 rfl (by repeat (first | exact List.Mem.head _ | apply List.Mem.tail)) rfl) rfl rfl ?_
 refine WDm.quiet (QS.call Tryz.call16 rfl (fun _ w s => (by have hd := w_digits x.safe.toNat (by omega) w; rw [Int.toNat_of_nonneg hs.1] at hd; exact hd))) rfl rfl rfl ?_
 refine dP (Y.addU (by have := digs_short (n := x.log.length) (by omega); have := digs_short (n := x.safe.toNat) (by omega); simp; omega) rfl rfl rfl rfl) rfl rfl ?_
 refine WDm.spec (WS.free rfl (E.store Tryz.sizeOf36 rfl rfl rfl rfl rfl u0 rfl rfl)) (fun _ => sub_refl _) (fun _ => ?_)
 refine dP (Y.assign rfl) rfl rfl ?_
 refine dP (Y.assign rfl) rfl rfl ?_
 refine WDm.nil (WQ.and ?_)
 refine WQ.next ?_
 refine WC.ret ?_
 refine WQ.blockRet ?_
 refine WQ.thenRet ?_
 refine WQ.done Tryz.results15 (RVs.cons (RV.cell wd_36 rfl m0 rfl) (RVs.cons (RV.tmp rfl) (RVs.cons (RV.tmp rfl) RVs.nil))) (fun a w s => ?_)
 · have n29 : ¬ l9 = wCrash := by have hh := h29; simpa using hh
   have n41 : ¬ l9 = wNow := by have hh := h41; simpa using hh
   have n49 : ¬ l9 = wDisk := by have hh := h49; simpa using hh
   have n56 : ¬ l9 = wMust := by have hh := h56; simpa using hh
   have y9 : l9 = wLog := by have hh := h71; simpa using hh
   have e : lineOf x l9 = logA x := by unfold lineOf showOf; rw [if_neg n29, if_neg n41, if_neg n49, if_neg n56, if_pos y9]
   rw [e]
   exact ⟨((A, c), false), rfl, s.low, trivial, fun _ => ⟨rfl, rfl⟩⟩
 refine WC.skip' ?_
 refine WQ.blockEnd ?_
 refine WQ.next ?_
 refine WC.seq ?_
 have n29 : ¬ l9 = wCrash := by have hh := h29; simpa using hh
 have n41 : ¬ l9 = wNow := by have hh := h41; simpa using hh
 have n49 : ¬ l9 = wDisk := by have hh := h49; simpa using hh
 have n56 : ¬ l9 = wMust := by have hh := h56; simpa using hh
 have n71 : ¬ l9 = wLog := by have hh := h71; simpa using hh
 have hshow : showOf x l9 = none := by unfold showOf; rw [if_neg n29, if_neg n41, if_neg n49, if_neg n56, if_neg n71]
 refine WC.region ?_
 refine pM rfl rfl ?_
 refine WL.eff (E.callN (fun i : Option Addr × Nat => .slice i.1 (cutAt 32 l9).length i.2) (fun i => SF.own w.heap.size 9 1 (.slice i.1 (cutAt 32 l9).length i.2) (cutAt 32 l9).length (sus (cutAt 32 l9))) Tryz.call37 rfl (fun _ w2 s => (w_split l9 w2 hl9).mono fun e w' ⟨i, he, hb, ho⟩ => ⟨i, he, hb, ownsRow_le ho s.low.size, fun g hg => own_fp ho hg⟩) rfl) rfl (fun j => ?_)
 refine pA rfl rfl ?_
 refine nN ?_
 refine sR ?_
 refine pA rfl rfl ?_
 refine nN ?_
 refine WC.seq ?_
 refine sR ?_
 refine pA rfl rfl ?_
 refine nN ?_
 refine WC.block ?_
 refine WC.le (nil_sepU w.heap.size 3 1 _) ?_
 refine WC.loop (ι := Nat × Option Addr × Nat) (fun k => [(2, .pointer (some ⟨b1, 0, none⟩)), (4, .pointer (some ⟨b2, 0, none⟩)), (12, .slice j.1 (cutAt 32 l9).length j.2), (13, .slice k.2.1 ((numsOf l9).take k.1).length k.2.2), (14, .int .i64 ((k.1 + 1 : Nat) : Int))]) (fun _ => [(b2, Wd.zero.cl none 0, 36), (b1, x.cl A c, 36)]) (fun k => (SF.own w.heap.size 3 1 (.slice k.2.1 ((numsOf l9).take k.1).length k.2.2) ((numsOf l9).take k.1).length (ints ((numsOf l9).take k.1))).sep ((SF.own w.heap.size 9 1 (.slice j.1 (cutAt 32 l9).length j.2) (cutAt 32 l9).length (sus (cutAt 32 l9))).sep SF.top)) (fun k => k.1 + 1 ≤ (cutAt 32 l9).length ∧ ((numsOf l9).take k.1).all (fun n => decide (0 ≤ n)) = true) (fun k => (cutAt 32 l9).length - k.1) (0, none, 0) ⟨cut_pos 32 l9, rfl⟩ (fun a w s => s.weak (by repeat (first | exact sub_nil _ | refine sub_cons rfl ?_))) (fun k hk => ?_)
 obtain ⟨m, A1, c1⟩ := k
 obtain ⟨hm1, hall⟩ := hk
 dsimp only at hm1 hall ⊢
 refine WC.seq ?_
 refine sR ?_
 refine pM rfl rfl ?_
 refine pM rfl rfl ?_
 refine pP (Y.len Tryz.underlying64 rfl) rfl ?_
 refine pP (Y.lss rfl rfl) rfl ?_
 refine nN ?_
 refine WC.cond rfl (fun h88 => ?_) (fun h88 => ?_)
 refine WC.skip' ?_
 refine WQ.next ?_
 refine WC.seq ?_
 refine WC.block ?_
 refine WC.seq ?_
 have hm2 : m + 1 < (cutAt 32 l9).length := by have h88 := h88; simp at h88; omega
 obtain ⟨z, hx⟩ := get_of_lt hm2
 have hzl : z.length ≤ 4096 := Nat.le_trans (cut_mem 32 l9 z (List.mem_of_getElem? hx)) hl9
 have hcl := cutAt_len 32 l9
 have htl : ((numsOf l9).take m).length = m := by rw [List.length_take, nums_len]; omega
 refine WC.know (p := j.1 = some ⟨gOf j.1, 0, none⟩) (fun a w s => (own_str s.fact.2.1.1 hx).1) (fun hjA => ?_)
 refine WC.region ?_
 refine pM rfl rfl ?_
 refine pM rfl rfl ?_
 refine pM rfl rfl ?_
 refine pP (Y.ixSlA (A := j.1) (b := gOf j.1) (o := 0) Tryz.underlying64 Tryz.sizeOf9 rfl rfl hjA (nat0 _) (by omega)) rfl ?_
 refine pV (Y.loadc fl_9 rfl (v := su z) (fun a w s => by have := (own_str s.fact.2.1.1 hx).2; simpa using this)) rfl ?_
 refine WL.eff (E.call Tryz.call38 rfl (fun _ w s => w_num z w hzl) rfl) rfl (fun _ => ?_)
 refine WL.eff (E.buildSlice (bs_73_1 _) rfl rfl) rfl (fun b5 => ?_)
 refine WL.eff (E.appN [numOf z] rfl rfl rfl m0 (by simp; omega) rfl) rfl (fun q => ?_)
 refine pA rfl rfl ?_
 refine nN ?_
 refine WC.seq ?_
 have hqx : ((numsOf l9).take m ++ [numOf z])[m]? = some (numOf z) := by rw [List.getElem?_append_right (by omega), htl]; simp
 have hql : ((numsOf l9).take m ++ [numOf z]).length = m + 1 := by simp [htl]
 refine WC.know (p := q.1 = some ⟨gOf q.1, 0, none⟩) (fun a w s => (own_int s.fact.1 hqx).1) (fun hqA => ?_)
 refine WC.region ?_
 refine pM rfl rfl ?_
 refine pM rfl rfl ?_
 refine pP (Y.sub rfl rfl (i64_in (by omega) (by omega))) rfl ?_
 refine pP (Y.ixSlA (A := q.1) (b := gOf q.1) (o := 0) Tryz.underlying73 Tryz.sizeOf3 rfl rfl hqA (by omega) (by rw [hql]; omega)) rfl ?_
 refine pV (Y.loadc fl_3 rfl (v := .int .i64 (numOf z)) (fun a w s => by have := (own_int s.fact.1 hqx).2; rw [← this]; congr 2; simp)) rfl ?_
 refine pP (Y.lss rfl rfl) rfl ?_
 refine nN ?_
 refine WC.cond rfl (fun h104 => ?_) (fun h104 => ?_)
 refine sR ?_
 refine pV (Y.loadAN wd_36 rfl (by repeat (first | exact List.Mem.head _ | apply List.Mem.tail)) (r := x.cl A c) rfl) rfl ?_
 refine WL.eff (E.store Tryz.sizeOf36 rfl rfl rfl rfl rfl u1 rfl rfl) rfl (fun _ => ?_)
 refine pA rfl rfl ?_
 refine pA rfl rfl ?_
 refine nN ?_
 refine WC.ret ?_
 refine WQ.blockRet ?_
 refine WQ.thenRet ?_
 refine WQ.thenRet ?_
 refine WQ.blockRet ?_
 refine WQ.thenRet ?_
 refine WQ.done Tryz.results15 (RVs.cons (RV.cell wd_36 rfl m1 rfl) (RVs.cons (RV.tmp rfl) (RVs.cons (RV.tmp rfl) RVs.nil))) (fun a w s => ?_)
 · have hall2 : (numsOf l9).all (fun n => decide (0 ≤ n)) = false := nums_bad (nums_step hx) (by have h104 := h104; simpa using h104)
   have e : lineOf x l9 = (x, [], 1) := by unfold lineOf; rw [hshow]; dsimp only; rw [if_neg (by rw [hall2]; decide)]
   rw [e]
   exact ⟨((A, c), false), rfl, s.low, trivial, fun _ => ⟨rfl, rfl⟩⟩
 refine WC.skip' ?_
 refine WQ.blockEnd ?_
 refine WQ.next ?_
 refine WC.region ?_
 refine pM rfl rfl ?_
 refine pP (Y.add rfl rfl (i64_in (by omega) (by omega))) rfl ?_
 refine pA rfl rfl ?_
 refine WL.nil ?_
 · refine fun a w2 s => ⟨(m + 1, q), ⟨by show m + 1 + 1 ≤ _; omega, nums_all _ _ _ (nums_step hx) hall (by have h104 := h104; simpa using h104)⟩, by show (cutAt 32 l9).length - (m + 1) < (cutAt 32 l9).length - m; omega, ?_⟩
   show St [(2, .pointer (some ⟨b1, 0, none⟩)), (4, .pointer (some ⟨b2, 0, none⟩)), (12, .slice j.1 (cutAt 32 l9).length j.2), (13, .slice q.1 ((numsOf l9).take (m + 1)).length q.2), (14, .int .i64 ((m + 1 + 1 : Nat) : Int))] _ _ ((SF.own w.heap.size 3 1 (.slice q.1 ((numsOf l9).take (m + 1)).length q.2) ((numsOf l9).take (m + 1)).length (ints ((numsOf l9).take (m + 1)))).sep ((SF.own w.heap.size 9 1 (.slice j.1 (cutAt 32 l9).length j.2) (cutAt 32 l9).length (sus (cutAt 32 l9))).sep SF.top)) _ _ _
   rw [nums_step hx]
   exact (s.sub (Hsub.of_sub (by repeat (first | exact List.Sublist.refl _ | apply List.Sublist.cons)))).weak (by repeat (first | exact sub_nil _ | refine sub_cons rfl ?_))
 refine WC.exit ?_
 refine WQ.thenExit ?_
 refine WQ.thenExit ?_
 refine WQ.blockExit ?_
 refine WQ.next ?_
 refine WC.seq ?_
 refine WC.block ?_
 have hmE : m + 1 = (cutAt 32 l9).length := by have h88 := h88; simp at h88; omega
 have htl : (numsOf l9).take m = numsOf l9 := List.take_of_length_le (by rw [nums_len]; omega)
 rw [htl] at hall ⊢
 have hxh := hd_get l9
 refine WC.know (p := j.1 = some ⟨gOf j.1, 0, none⟩) (fun a w s => (own_str s.fact.2.1.1 hxh).1) (fun hjA => ?_)
 refine WC.cut1 [(106, .bool (decide (hdOf l9 = wWrite ∧ (numsOf l9).length = 4))), (2, .pointer (some ⟨b1, 0, none⟩)), (4, .pointer (some ⟨b2, 0, none⟩)), (12, .slice j.1 (cutAt 32 l9).length j.2), (13, .slice A1 (numsOf l9).length c1)] [(b2, Wd.zero.cl none 0, 36), (b1, x.cl A c, 36)] ((SF.own w.heap.size 3 1 (.slice A1 (numsOf l9).length c1) (numsOf l9).length (ints (numsOf l9))).sep ((SF.own w.heap.size 9 1 (.slice j.1 (cutAt 32 l9).length j.2) (cutAt 32 l9).length (sus (cutAt 32 l9))).sep SF.top)) ?_ ?_
 refine WC.region ?_
 refine pM rfl rfl ?_
 refine pP (Y.ixSlA (A := j.1) (b := gOf j.1) (o := 0) Tryz.underlying64 Tryz.sizeOf9 rfl rfl hjA (by decide) (by have := cut_pos 32 l9; omega)) rfl ?_
 refine pV (Y.loadc fl_9 rfl (v := su (hdOf l9)) (fun a w s => by have := (own_str s.fact.2.1.1 hxh).2; simpa using this)) rfl ?_
 refine pP (Y.eqU (b := wWrite) rfl rfl rfl) rfl ?_
 refine pM rfl rfl ?_
 refine WL.split (t := 111) rfl (fun r h111 => ?_)
 cases r
 refine gF rfl ?_
 refine gF rfl ?_
 refine gF rfl ?_
 refine pP (Y.pickF rfl rfl) rfl ?_
 refine pA rfl rfl ?_
 refine WL.nil ?_
 · exact fun a w s => ⟨rfl, s.weak (sub_cons (eqb (by have hh := h111; simp at hh; rw [Bool.eq_iff_iff]; simp [hh]; try omega)) (by repeat (first | exact sub_nil _ | refine sub_cons rfl ?_)))⟩
 refine gT rfl ?_
 refine pM rfl rfl ?_
 refine gT rfl ?_
 refine pP (Y.len Tryz.underlying73 rfl) rfl ?_
 refine gT rfl ?_
 refine pP (Y.eql rfl rfl) rfl ?_
 refine pP (Y.pickT rfl rfl) rfl ?_
 refine pA rfl rfl ?_
 refine WL.nil ?_
 · exact fun a w s => ⟨rfl, s.weak (sub_cons (eqb (by have hh := h111; simp at hh; rw [Bool.eq_iff_iff]; simp [hh]; try omega)) (by repeat (first | exact sub_nil _ | refine sub_cons rfl ?_)))⟩
 refine WC.cond rfl (fun h106 => ?_) (fun h106 => ?_)
 refine WC.seq ?_
 have hnl : (numsOf l9).length = 4 := (of_decide_eq_true h106).2
 refine WC.know (p := A1 = some ⟨gOf A1, 0, none⟩) (fun a w s => (own_int s.fact.1 (nth0_get (l := numsOf l9) (k := 0) (by omega))).1) (fun hA1 => ?_)
 refine WC.draw2 [(0, .q true), (1, .q false), (2, .q false), (3, .q true), (4, .q false), (5, .q false), (6, .q true), (7, .q false), (8, .q false), (9, .q true), (10, .q false), (11, .q false), (12, .q true), (13, .s false), (14, .q false), (15, .q false), (16, .q false), (17, .s false), (18, .s true), (19, .q false)] mixed ?_
 refine AD.quiet (i := 0) (imp := true) rfl (by kernel_rfl) (QS.val (Y.loadAN wd_36 rfl (by repeat (first | exact List.Mem.head _ | apply List.Mem.tail)) (r := x.cl A c) rfl) rfl rfl) rfl rfl rfl ?_
 refine AD.quiet (i := 1) (imp := false) rfl (by kernel_rfl) (QS.pure (Y.move rfl) rfl rfl) rfl rfl rfl ?_
 refine AD.quiet (i := 2) (imp := false) rfl (by kernel_rfl) (QS.pure (Y.ixSlA (A := A1) (b := gOf A1) (o := 0) Tryz.underlying73 Tryz.sizeOf3 rfl rfl hA1 (by decide) (by omega)) rfl rfl) rfl rfl rfl ?_
 refine AD.quiet (i := 3) (imp := true) rfl (by kernel_rfl) (QS.val (Y.loadc fl_3 rfl (v := .int .i64 (nth0 (numsOf l9) 0)) (fun a w s => by have := (own_int s.fact.1 (nth0_get (l := numsOf l9) (k := 0) (by omega))).2; simpa using this)) rfl rfl) rfl rfl rfl ?_
 refine AD.quiet (i := 4) (imp := false) rfl (by kernel_rfl) (QS.pure (Y.move rfl) rfl rfl) rfl rfl rfl ?_
 refine AD.quiet (i := 5) (imp := false) rfl (by kernel_rfl) (QS.pure (Y.ixSlA (A := A1) (b := gOf A1) (o := 0) Tryz.underlying73 Tryz.sizeOf3 rfl rfl hA1 (by decide) (by omega)) rfl rfl) rfl rfl rfl ?_
 refine AD.quiet (i := 6) (imp := true) rfl (by kernel_rfl) (QS.val (Y.loadc fl_3 rfl (v := .int .i64 (nth0 (numsOf l9) 1)) (fun a w s => by have := (own_int s.fact.1 (nth0_get (l := numsOf l9) (k := 1) (by omega))).2; simpa using this)) rfl rfl) rfl rfl rfl ?_
 refine AD.quiet (i := 7) (imp := false) rfl (by kernel_rfl) (QS.pure (Y.move rfl) rfl rfl) rfl rfl rfl ?_
 refine AD.quiet (i := 8) (imp := false) rfl (by kernel_rfl) (QS.pure (Y.ixSlA (A := A1) (b := gOf A1) (o := 0) Tryz.underlying73 Tryz.sizeOf3 rfl rfl hA1 (by decide) (by omega)) rfl rfl) rfl rfl rfl ?_
 refine AD.quiet (i := 9) (imp := true) rfl (by kernel_rfl) (QS.val (Y.loadc fl_3 rfl (v := .int .i64 (nth0 (numsOf l9) 2)) (fun a w s => by have := (own_int s.fact.1 (nth0_get (l := numsOf l9) (k := 2) (by omega))).2; simpa using this)) rfl rfl) rfl rfl rfl ?_
 refine AD.quiet (i := 10) (imp := false) rfl (by kernel_rfl) (QS.pure (Y.move rfl) rfl rfl) rfl rfl rfl ?_
 refine AD.quiet (i := 11) (imp := false) rfl (by kernel_rfl) (QS.pure (Y.ixSlA (A := A1) (b := gOf A1) (o := 0) Tryz.underlying73 Tryz.sizeOf3 rfl rfl hA1 (by decide) (by omega)) rfl rfl) rfl rfl rfl ?_
 refine AD.quiet (i := 12) (imp := true) rfl (by kernel_rfl) (QS.val (Y.loadc fl_3 rfl (v := .int .i64 (nth0 (numsOf l9) 3)) (fun a w s => by have := (own_int s.fact.1 (nth0_get (l := numsOf l9) (k := 3) (by omega))).2; simpa using this)) rfl rfl) rfl rfl rfl ?_
 refine AD.two (i := 13) (j := 17) (by kernel_rfl) rfl rfl (WS.free rfl (E.retW ((writeTo x (nth0 (numsOf l9) 0) (nth0 (numsOf l9) 1) (nth0 (numsOf l9) 2) (nth0 (numsOf l9) 3)).1) [.int .i64 (writeTo x (nth0 (numsOf l9) 0) (nth0 (numsOf l9) 1) (nth0 (numsOf l9) 2) (nth0 (numsOf l9) 3)).2] Tryz.call39 rfl (fun _ w s => w_writeTo x A b o c (nth0 (numsOf l9) 0) (nth0 (numsOf l9) 1) (nth0 (numsOf l9) 2) (nth0 (numsOf l9) 3) w hm hcap (hr.below s.low)) rfl)) (fun _ => ext_newN rfl) (WS.free rfl (E.alloc Tryz.zeroValue36 rfl rfl)) (fun _ => ext_new rfl) (fun i => ?_) (fun b6 => ?_)
 refine AD.list [(14, .q false), (15, .q false), (16, .q false), (17, .s false), (18, .s true), (19, .q false)] (by kernel_rfl) ?_
 refine dP (Y.move rfl) rfl rfl ?_
 refine dP (Y.extract rfl rfl) rfl rfl ?_
 refine dP (Y.extract rfl rfl) rfl rfl ?_
 refine WDm.spec (WS.free rfl (E.alloc Tryz.zeroValue36 rfl rfl)) (fun _ => ext_new rfl) (fun b6 => ?_)
 refine WDm.spec (WS.free rfl (E.store Tryz.sizeOf36 rfl rfl rfl rfl rfl u0 rfl rfl)) (fun _ => sub_refl _) (fun _ => ?_)
 refine dP (Y.assign rfl) rfl rfl ?_
 refine WDm.nil (WQ.and ?_)
 refine WQ.next ?_
 refine sR ?_
 refine pV (Y.loadAN wd_36 rfl (by repeat (first | exact List.Mem.head _ | apply List.Mem.tail)) (r := (writeTo x (nth0 (numsOf l9) 0) (nth0 (numsOf l9) 1) (nth0 (numsOf l9) 2) (nth0 (numsOf l9) 3)).1.cl i.1 i.2) rfl) rfl ?_
 refine pM rfl rfl ?_
 refine WL.eff (E.store Tryz.sizeOf36 rfl rfl rfl rfl rfl u1 rfl rfl) rfl (fun _ => ?_)
 refine pA rfl rfl ?_
 refine pA rfl rfl ?_
 refine nN ?_
 refine WC.ret ?_
 refine WQ.blockRet ?_
 refine WQ.thenRet ?_
 refine WQ.done Tryz.results15 (RVs.cons (RV.cell wd_36 rfl m1 rfl) (RVs.cons (RV.tmp rfl) (RVs.cons (RV.tmp rfl) RVs.nil))) (fun a w s => ?_)
 · have y9 := of_decide_eq_true h106
   have e : lineOf x l9 = ((writeTo x (nth0 (numsOf l9) 0) (nth0 (numsOf l9) 1) (nth0 (numsOf l9) 2) (nth0 (numsOf l9) 3)).1, sOk, (writeTo x (nth0 (numsOf l9) 0) (nth0 (numsOf l9) 1) (nth0 (numsOf l9) 2) (nth0 (numsOf l9) 3)).2) := by unfold lineOf; rw [hshow]; dsimp only; rw [if_pos hall]; unfold doWord; rw [if_pos y9]
   rw [e]
   exact ⟨(i, true), rfl, s.low, s.fact.1, fun h => by cases h⟩
 refine AD.list [(13, .s false), (14, .q false), (15, .q false), (16, .q false), (18, .s true), (19, .q false)] (by kernel_rfl) ?_
 refine WDm.spec (WS.free rfl (E.retW ((writeTo x (nth0 (numsOf l9) 0) (nth0 (numsOf l9) 1) (nth0 (numsOf l9) 2) (nth0 (numsOf l9) 3)).1) [.int .i64 (writeTo x (nth0 (numsOf l9) 0) (nth0 (numsOf l9) 1) (nth0 (numsOf l9) 2) (nth0 (numsOf l9) 3)).2] Tryz.call39 rfl (fun _ w s => w_writeTo x A b o c (nth0 (numsOf l9) 0) (nth0 (numsOf l9) 1) (nth0 (numsOf l9) 2) (nth0 (numsOf l9) 3) w hm hcap (hr.below s.low)) rfl)) (fun _ => ext_newN rfl) (fun i => ?_)
 refine dP (Y.move rfl) rfl rfl ?_
 refine dP (Y.extract rfl rfl) rfl rfl ?_
 refine dP (Y.extract rfl rfl) rfl rfl ?_
 refine WDm.spec (WS.free rfl (E.store Tryz.sizeOf36 rfl rfl rfl rfl rfl u0 rfl rfl)) (fun _ => sub_refl _) (fun _ => ?_)
 refine dP (Y.assign rfl) rfl rfl ?_
 refine WDm.nil (WQ.and ?_)
 refine WQ.next ?_
 refine sR ?_
 refine pV (Y.loadAN wd_36 rfl (by repeat (first | exact List.Mem.head _ | apply List.Mem.tail)) (r := (writeTo x (nth0 (numsOf l9) 0) (nth0 (numsOf l9) 1) (nth0 (numsOf l9) 2) (nth0 (numsOf l9) 3)).1.cl i.1 i.2) rfl) rfl ?_
 refine pM rfl rfl ?_
 refine WL.eff (E.store Tryz.sizeOf36 rfl rfl rfl rfl rfl u1 rfl rfl) rfl (fun _ => ?_)
 refine pA rfl rfl ?_
 refine pA rfl rfl ?_
 refine nN ?_
 refine WC.ret ?_
 refine WQ.blockRet ?_
 refine WQ.thenRet ?_
 refine WQ.done Tryz.results15 (RVs.cons (RV.cell wd_36 rfl m1 rfl) (RVs.cons (RV.tmp rfl) (RVs.cons (RV.tmp rfl) RVs.nil))) (fun a w s => ?_)
 · have y9 := of_decide_eq_true h106
   have e : lineOf x l9 = ((writeTo x (nth0 (numsOf l9) 0) (nth0 (numsOf l9) 1) (nth0 (numsOf l9) 2) (nth0 (numsOf l9) 3)).1, sOk, (writeTo x (nth0 (numsOf l9) 0) (nth0 (numsOf l9) 1) (nth0 (numsOf l9) 2) (nth0 (numsOf l9) 3)).2) := by unfold lineOf; rw [hshow]; dsimp only; rw [if_pos hall]; unfold doWord; rw [if_pos y9]
   rw [e]
   exact ⟨(i, true), rfl, s.low, s.fact.1, fun h => by cases h⟩
 refine WC.cut1 [(135, .bool (decide (hdOf l9 = wCommit ∧ (numsOf l9).length = 1))), (2, .pointer (some ⟨b1, 0, none⟩)), (4, .pointer (some ⟨b2, 0, none⟩)), (12, .slice j.1 (cutAt 32 l9).length j.2), (13, .slice A1 (numsOf l9).length c1)] [(b2, Wd.zero.cl none 0, 36), (b1, x.cl A c, 36)] ((SF.own w.heap.size 3 1 (.slice A1 (numsOf l9).length c1) (numsOf l9).length (ints (numsOf l9))).sep ((SF.own w.heap.size 9 1 (.slice j.1 (cutAt 32 l9).length j.2) (cutAt 32 l9).length (sus (cutAt 32 l9))).sep SF.top)) ?_ ?_
 refine WC.region ?_
 refine pM rfl rfl ?_
 refine pP (Y.ixSlA (A := j.1) (b := gOf j.1) (o := 0) Tryz.underlying64 Tryz.sizeOf9 rfl rfl hjA (by decide) (by have := cut_pos 32 l9; omega)) rfl ?_
 refine pV (Y.loadc fl_9 rfl (v := su (hdOf l9)) (fun a w s => by have := (own_str s.fact.2.1.1 hxh).2; simpa using this)) rfl ?_
 refine pP (Y.eqU (b := wCommit) rfl rfl rfl) rfl ?_
 refine pM rfl rfl ?_
 refine WL.split (t := 140) rfl (fun r h140 => ?_)
 cases r
 refine gF rfl ?_
 refine gF rfl ?_
 refine gF rfl ?_
 refine pP (Y.pickF rfl rfl) rfl ?_
 refine pA rfl rfl ?_
 refine WL.nil ?_
 · exact fun a w s => ⟨rfl, s.weak (sub_cons (eqb (by have hh := h140; simp at hh; rw [Bool.eq_iff_iff]; simp [hh]; try omega)) (by repeat (first | exact sub_nil _ | refine sub_cons rfl ?_)))⟩
 refine gT rfl ?_
 refine pM rfl rfl ?_
 refine gT rfl ?_
 refine pP (Y.len Tryz.underlying73 rfl) rfl ?_
 refine gT rfl ?_
 refine pP (Y.eql rfl rfl) rfl ?_
 refine pP (Y.pickT rfl rfl) rfl ?_
 refine pA rfl rfl ?_
 refine WL.nil ?_
 · exact fun a w s => ⟨rfl, s.weak (sub_cons (eqb (by have hh := h140; simp at hh; rw [Bool.eq_iff_iff]; simp [hh]; try omega)) (by repeat (first | exact sub_nil _ | refine sub_cons rfl ?_)))⟩
 refine WC.cond rfl (fun h135 => ?_) (fun h135 => ?_)
 refine WC.seq ?_
 have hnl : (numsOf l9).length = 1 := (of_decide_eq_true h135).2
 refine WC.know (p := A1 = some ⟨gOf A1, 0, none⟩) (fun a w s => (own_int s.fact.1 (nth0_get (l := numsOf l9) (k := 0) (by omega))).1) (fun hA1 => ?_)
 refine WC.draw2 [(0, .q true), (1, .q false), (2, .q false), (3, .q true), (4, .s false), (5, .q false), (6, .q false), (7, .q false), (8, .s false), (9, .s true), (10, .q false)] mixed ?_
 refine AD.quiet (i := 0) (imp := true) rfl (by kernel_rfl) (QS.val (Y.loadAN wd_36 rfl (by repeat (first | exact List.Mem.head _ | apply List.Mem.tail)) (r := x.cl A c) rfl) rfl rfl) rfl rfl rfl ?_
 refine AD.quiet (i := 1) (imp := false) rfl (by kernel_rfl) (QS.pure (Y.move rfl) rfl rfl) rfl rfl rfl ?_
 refine AD.quiet (i := 2) (imp := false) rfl (by kernel_rfl) (QS.pure (Y.ixSlA (A := A1) (b := gOf A1) (o := 0) Tryz.underlying73 Tryz.sizeOf3 rfl rfl hA1 (by decide) (by omega)) rfl rfl) rfl rfl rfl ?_
 refine AD.quiet (i := 3) (imp := true) rfl (by kernel_rfl) (QS.val (Y.loadc fl_3 rfl (v := .int .i64 (nth0 (numsOf l9) 0)) (fun a w s => by have := (own_int s.fact.1 (nth0_get (l := numsOf l9) (k := 0) (by omega))).2; simpa using this)) rfl rfl) rfl rfl rfl ?_
 refine AD.two (i := 4) (j := 8) (by kernel_rfl) rfl rfl (WS.free rfl (E.retW ((commitOf x (nth0 (numsOf l9) 0)).1) [.int .i64 (commitOf x (nth0 (numsOf l9) 0)).2] Tryz.call40 rfl (fun _ w s => w_commitOf x A b o c (nth0 (numsOf l9) 0) w hm hcap (hr.below s.low)) rfl)) (fun _ => ext_newN rfl) (WS.free rfl (E.alloc Tryz.zeroValue36 rfl rfl)) (fun _ => ext_new rfl) (fun i => ?_) (fun b7 => ?_)
 refine AD.list [(5, .q false), (6, .q false), (7, .q false), (8, .s false), (9, .s true), (10, .q false)] (by kernel_rfl) ?_
 refine dP (Y.move rfl) rfl rfl ?_
 refine dP (Y.extract rfl rfl) rfl rfl ?_
 refine dP (Y.extract rfl rfl) rfl rfl ?_
 refine WDm.spec (WS.free rfl (E.alloc Tryz.zeroValue36 rfl rfl)) (fun _ => ext_new rfl) (fun b7 => ?_)
 refine WDm.spec (WS.free rfl (E.store Tryz.sizeOf36 rfl rfl rfl rfl rfl u0 rfl rfl)) (fun _ => sub_refl _) (fun _ => ?_)
 refine dP (Y.assign rfl) rfl rfl ?_
 refine WDm.nil (WQ.and ?_)
 refine WQ.next ?_
 refine sR ?_
 refine pV (Y.loadAN wd_36 rfl (by repeat (first | exact List.Mem.head _ | apply List.Mem.tail)) (r := (commitOf x (nth0 (numsOf l9) 0)).1.cl i.1 i.2) rfl) rfl ?_
 refine pM rfl rfl ?_
 refine WL.eff (E.store Tryz.sizeOf36 rfl rfl rfl rfl rfl u1 rfl rfl) rfl (fun _ => ?_)
 refine pA rfl rfl ?_
 refine pA rfl rfl ?_
 refine nN ?_
 refine WC.ret ?_
 refine WQ.blockRet ?_
 refine WQ.thenRet ?_
 refine WQ.done Tryz.results15 (RVs.cons (RV.cell wd_36 rfl m1 rfl) (RVs.cons (RV.tmp rfl) (RVs.cons (RV.tmp rfl) RVs.nil))) (fun a w s => ?_)
 · have n0 := of_decide_eq_false h106
   have y9 := of_decide_eq_true h135
   have e : lineOf x l9 = ((commitOf x (nth0 (numsOf l9) 0)).1, sOk, (commitOf x (nth0 (numsOf l9) 0)).2) := by unfold lineOf; rw [hshow]; dsimp only; rw [if_pos hall]; unfold doWord; rw [if_neg n0, if_pos y9]
   rw [e]
   exact ⟨(i, true), rfl, s.low, s.fact.1, fun h => by cases h⟩
 refine AD.list [(4, .s false), (5, .q false), (6, .q false), (7, .q false), (9, .s true), (10, .q false)] (by kernel_rfl) ?_
 refine WDm.spec (WS.free rfl (E.retW ((commitOf x (nth0 (numsOf l9) 0)).1) [.int .i64 (commitOf x (nth0 (numsOf l9) 0)).2] Tryz.call40 rfl (fun _ w s => w_commitOf x A b o c (nth0 (numsOf l9) 0) w hm hcap (hr.below s.low)) rfl)) (fun _ => ext_newN rfl) (fun i => ?_)
 refine dP (Y.move rfl) rfl rfl ?_
 refine dP (Y.extract rfl rfl) rfl rfl ?_
 refine dP (Y.extract rfl rfl) rfl rfl ?_
 refine WDm.spec (WS.free rfl (E.store Tryz.sizeOf36 rfl rfl rfl rfl rfl u0 rfl rfl)) (fun _ => sub_refl _) (fun _ => ?_)
 refine dP (Y.assign rfl) rfl rfl ?_
 refine WDm.nil (WQ.and ?_)
 refine WQ.next ?_
 refine sR ?_
 refine pV (Y.loadAN wd_36 rfl (by repeat (first | exact List.Mem.head _ | apply List.Mem.tail)) (r := (commitOf x (nth0 (numsOf l9) 0)).1.cl i.1 i.2) rfl) rfl ?_
 refine pM rfl rfl ?_
 refine WL.eff (E.store Tryz.sizeOf36 rfl rfl rfl rfl rfl u1 rfl rfl) rfl (fun _ => ?_)
 refine pA rfl rfl ?_
 refine pA rfl rfl ?_
 refine nN ?_
 refine WC.ret ?_
 refine WQ.blockRet ?_
 refine WQ.thenRet ?_
 refine WQ.done Tryz.results15 (RVs.cons (RV.cell wd_36 rfl m1 rfl) (RVs.cons (RV.tmp rfl) (RVs.cons (RV.tmp rfl) RVs.nil))) (fun a w s => ?_)
 · have n0 := of_decide_eq_false h106
   have y9 := of_decide_eq_true h135
   have e : lineOf x l9 = ((commitOf x (nth0 (numsOf l9) 0)).1, sOk, (commitOf x (nth0 (numsOf l9) 0)).2) := by unfold lineOf; rw [hshow]; dsimp only; rw [if_pos hall]; unfold doWord; rw [if_neg n0, if_pos y9]
   rw [e]
   exact ⟨(i, true), rfl, s.low, s.fact.1, fun h => by cases h⟩
 refine WC.cut1 [(155, .bool (decide (hdOf l9 = wAbort ∧ (numsOf l9).length = 1))), (2, .pointer (some ⟨b1, 0, none⟩)), (4, .pointer (some ⟨b2, 0, none⟩)), (12, .slice j.1 (cutAt 32 l9).length j.2), (13, .slice A1 (numsOf l9).length c1)] [(b2, Wd.zero.cl none 0, 36), (b1, x.cl A c, 36)] ((SF.own w.heap.size 3 1 (.slice A1 (numsOf l9).length c1) (numsOf l9).length (ints (numsOf l9))).sep ((SF.own w.heap.size 9 1 (.slice j.1 (cutAt 32 l9).length j.2) (cutAt 32 l9).length (sus (cutAt 32 l9))).sep SF.top)) ?_ ?_
 refine WC.region ?_
 refine pM rfl rfl ?_
 refine pP (Y.ixSlA (A := j.1) (b := gOf j.1) (o := 0) Tryz.underlying64 Tryz.sizeOf9 rfl rfl hjA (by decide) (by have := cut_pos 32 l9; omega)) rfl ?_
 refine pV (Y.loadc fl_9 rfl (v := su (hdOf l9)) (fun a w s => by have := (own_str s.fact.2.1.1 hxh).2; simpa using this)) rfl ?_
 refine pP (Y.eqU (b := wAbort) rfl rfl rfl) rfl ?_
 refine pM rfl rfl ?_
 refine WL.split (t := 160) rfl (fun r h160 => ?_)
 cases r
 refine gF rfl ?_
 refine gF rfl ?_
 refine gF rfl ?_
 refine pP (Y.pickF rfl rfl) rfl ?_
 refine pA rfl rfl ?_
 refine WL.nil ?_
 · exact fun a w s => ⟨rfl, s.weak (sub_cons (eqb (by have hh := h160; simp at hh; rw [Bool.eq_iff_iff]; simp [hh]; try omega)) (by repeat (first | exact sub_nil _ | refine sub_cons rfl ?_)))⟩
 refine gT rfl ?_
 refine pM rfl rfl ?_
 refine gT rfl ?_
 refine pP (Y.len Tryz.underlying73 rfl) rfl ?_
 refine gT rfl ?_
 refine pP (Y.eql rfl rfl) rfl ?_
 refine pP (Y.pickT rfl rfl) rfl ?_
 refine pA rfl rfl ?_
 refine WL.nil ?_
 · exact fun a w s => ⟨rfl, s.weak (sub_cons (eqb (by have hh := h160; simp at hh; rw [Bool.eq_iff_iff]; simp [hh]; try omega)) (by repeat (first | exact sub_nil _ | refine sub_cons rfl ?_)))⟩
 refine WC.cond rfl (fun h155 => ?_) (fun h155 => ?_)
 refine WC.seq ?_
 have hnl : (numsOf l9).length = 1 := (of_decide_eq_true h155).2
 refine WC.know (p := A1 = some ⟨gOf A1, 0, none⟩) (fun a w s => (own_int s.fact.1 (nth0_get (l := numsOf l9) (k := 0) (by omega))).1) (fun hA1 => ?_)
 refine WC.draw2 [(0, .q true), (1, .q false), (2, .q false), (3, .q true), (4, .s false), (5, .q false), (6, .q false), (7, .q false), (8, .s false), (9, .s true), (10, .q false)] mixed ?_
 refine AD.quiet (i := 0) (imp := true) rfl (by kernel_rfl) (QS.val (Y.loadAN wd_36 rfl (by repeat (first | exact List.Mem.head _ | apply List.Mem.tail)) (r := x.cl A c) rfl) rfl rfl) rfl rfl rfl ?_
 refine AD.quiet (i := 1) (imp := false) rfl (by kernel_rfl) (QS.pure (Y.move rfl) rfl rfl) rfl rfl rfl ?_
 refine AD.quiet (i := 2) (imp := false) rfl (by kernel_rfl) (QS.pure (Y.ixSlA (A := A1) (b := gOf A1) (o := 0) Tryz.underlying73 Tryz.sizeOf3 rfl rfl hA1 (by decide) (by omega)) rfl rfl) rfl rfl rfl ?_
 refine AD.quiet (i := 3) (imp := true) rfl (by kernel_rfl) (QS.val (Y.loadc fl_3 rfl (v := .int .i64 (nth0 (numsOf l9) 0)) (fun a w s => by have := (own_int s.fact.1 (nth0_get (l := numsOf l9) (k := 0) (by omega))).2; simpa using this)) rfl rfl) rfl rfl rfl ?_
 refine AD.two (i := 4) (j := 8) (by kernel_rfl) rfl rfl (WS.free rfl (E.retW ((abortOf x (nth0 (numsOf l9) 0)).1) [.int .i64 (abortOf x (nth0 (numsOf l9) 0)).2] Tryz.call41 rfl (fun _ w s => w_abortOf x A b o c (nth0 (numsOf l9) 0) w hm hcap (hr.below s.low)) rfl)) (fun _ => ext_newN rfl) (WS.free rfl (E.alloc Tryz.zeroValue36 rfl rfl)) (fun _ => ext_new rfl) (fun i => ?_) (fun b8 => ?_)
 refine AD.list [(5, .q false), (6, .q false), (7, .q false), (8, .s false), (9, .s true), (10, .q false)] (by kernel_rfl) ?_
 refine dP (Y.move rfl) rfl rfl ?_
 refine dP (Y.extract rfl rfl) rfl rfl ?_
 refine dP (Y.extract rfl rfl) rfl rfl ?_
 refine WDm.spec (WS.free rfl (E.alloc Tryz.zeroValue36 rfl rfl)) (fun _ => ext_new rfl) (fun b8 => ?_)
 refine WDm.spec (WS.free rfl (E.store Tryz.sizeOf36 rfl rfl rfl rfl rfl u0 rfl rfl)) (fun _ => sub_refl _) (fun _ => ?_)
 refine dP (Y.assign rfl) rfl rfl ?_
 refine WDm.nil (WQ.and ?_)
 refine WQ.next ?_
 refine sR ?_
 refine pV (Y.loadAN wd_36 rfl (by repeat (first | exact List.Mem.head _ | apply List.Mem.tail)) (r := (abortOf x (nth0 (numsOf l9) 0)).1.cl i.1 i.2) rfl) rfl ?_
 refine pM rfl rfl ?_
 refine WL.eff (E.store Tryz.sizeOf36 rfl rfl rfl rfl rfl u1 rfl rfl) rfl (fun _ => ?_)
 refine pA rfl rfl ?_
 refine pA rfl rfl ?_
 refine nN ?_
 refine WC.ret ?_
 refine WQ.blockRet ?_
 refine WQ.thenRet ?_
 refine WQ.done Tryz.results15 (RVs.cons (RV.cell wd_36 rfl m1 rfl) (RVs.cons (RV.tmp rfl) (RVs.cons (RV.tmp rfl) RVs.nil))) (fun a w s => ?_)
 · have n0 := of_decide_eq_false h106
   have n1 := of_decide_eq_false h135
   have y9 := of_decide_eq_true h155
   have e : lineOf x l9 = ((abortOf x (nth0 (numsOf l9) 0)).1, sOk, (abortOf x (nth0 (numsOf l9) 0)).2) := by unfold lineOf; rw [hshow]; dsimp only; rw [if_pos hall]; unfold doWord; rw [if_neg n0, if_neg n1, if_pos y9]
   rw [e]
   exact ⟨(i, true), rfl, s.low, s.fact.1, fun h => by cases h⟩
 refine AD.list [(4, .s false), (5, .q false), (6, .q false), (7, .q false), (9, .s true), (10, .q false)] (by kernel_rfl) ?_
 refine WDm.spec (WS.free rfl (E.retW ((abortOf x (nth0 (numsOf l9) 0)).1) [.int .i64 (abortOf x (nth0 (numsOf l9) 0)).2] Tryz.call41 rfl (fun _ w s => w_abortOf x A b o c (nth0 (numsOf l9) 0) w hm hcap (hr.below s.low)) rfl)) (fun _ => ext_newN rfl) (fun i => ?_)
 refine dP (Y.move rfl) rfl rfl ?_
 refine dP (Y.extract rfl rfl) rfl rfl ?_
 refine dP (Y.extract rfl rfl) rfl rfl ?_
 refine WDm.spec (WS.free rfl (E.store Tryz.sizeOf36 rfl rfl rfl rfl rfl u0 rfl rfl)) (fun _ => sub_refl _) (fun _ => ?_)
 refine dP (Y.assign rfl) rfl rfl ?_
 refine WDm.nil (WQ.and ?_)
 refine WQ.next ?_
 refine sR ?_
 refine pV (Y.loadAN wd_36 rfl (by repeat (first | exact List.Mem.head _ | apply List.Mem.tail)) (r := (abortOf x (nth0 (numsOf l9) 0)).1.cl i.1 i.2) rfl) rfl ?_
 refine pM rfl rfl ?_
 refine WL.eff (E.store Tryz.sizeOf36 rfl rfl rfl rfl rfl u1 rfl rfl) rfl (fun _ => ?_)
 refine pA rfl rfl ?_
 refine pA rfl rfl ?_
 refine nN ?_
 refine WC.ret ?_
 refine WQ.blockRet ?_
 refine WQ.thenRet ?_
 refine WQ.done Tryz.results15 (RVs.cons (RV.cell wd_36 rfl m1 rfl) (RVs.cons (RV.tmp rfl) (RVs.cons (RV.tmp rfl) RVs.nil))) (fun a w s => ?_)
 · have n0 := of_decide_eq_false h106
   have n1 := of_decide_eq_false h135
   have y9 := of_decide_eq_true h155
   have e : lineOf x l9 = ((abortOf x (nth0 (numsOf l9) 0)).1, sOk, (abortOf x (nth0 (numsOf l9) 0)).2) := by unfold lineOf; rw [hshow]; dsimp only; rw [if_pos hall]; unfold doWord; rw [if_neg n0, if_neg n1, if_pos y9]
   rw [e]
   exact ⟨(i, true), rfl, s.low, s.fact.1, fun h => by cases h⟩
 refine WC.cut1 [(175, .bool (decide (hdOf l9 = wSync ∧ (numsOf l9).length = 1))), (2, .pointer (some ⟨b1, 0, none⟩)), (4, .pointer (some ⟨b2, 0, none⟩)), (12, .slice j.1 (cutAt 32 l9).length j.2), (13, .slice A1 (numsOf l9).length c1)] [(b2, Wd.zero.cl none 0, 36), (b1, x.cl A c, 36)] ((SF.own w.heap.size 3 1 (.slice A1 (numsOf l9).length c1) (numsOf l9).length (ints (numsOf l9))).sep ((SF.own w.heap.size 9 1 (.slice j.1 (cutAt 32 l9).length j.2) (cutAt 32 l9).length (sus (cutAt 32 l9))).sep SF.top)) ?_ ?_
 refine WC.region ?_
 refine pM rfl rfl ?_
 refine pP (Y.ixSlA (A := j.1) (b := gOf j.1) (o := 0) Tryz.underlying64 Tryz.sizeOf9 rfl rfl hjA (by decide) (by have := cut_pos 32 l9; omega)) rfl ?_
 refine pV (Y.loadc fl_9 rfl (v := su (hdOf l9)) (fun a w s => by have := (own_str s.fact.2.1.1 hxh).2; simpa using this)) rfl ?_
 refine pP (Y.eqU (b := wSync) rfl rfl rfl) rfl ?_
 refine pM rfl rfl ?_
 refine WL.split (t := 180) rfl (fun r h180 => ?_)
 cases r
 refine gF rfl ?_
 refine gF rfl ?_
 refine gF rfl ?_
 refine pP (Y.pickF rfl rfl) rfl ?_
 refine pA rfl rfl ?_
 refine WL.nil ?_
 · exact fun a w s => ⟨rfl, s.weak (sub_cons (eqb (by have hh := h180; simp at hh; rw [Bool.eq_iff_iff]; simp [hh]; try omega)) (by repeat (first | exact sub_nil _ | refine sub_cons rfl ?_)))⟩
 refine gT rfl ?_
 refine pM rfl rfl ?_
 refine gT rfl ?_
 refine pP (Y.len Tryz.underlying73 rfl) rfl ?_
 refine gT rfl ?_
 refine pP (Y.eql rfl rfl) rfl ?_
 refine pP (Y.pickT rfl rfl) rfl ?_
 refine pA rfl rfl ?_
 refine WL.nil ?_
 · exact fun a w s => ⟨rfl, s.weak (sub_cons (eqb (by have hh := h180; simp at hh; rw [Bool.eq_iff_iff]; simp [hh]; try omega)) (by repeat (first | exact sub_nil _ | refine sub_cons rfl ?_)))⟩
 refine WC.cond rfl (fun h175 => ?_) (fun h175 => ?_)
 refine WC.seq ?_
 have hnl : (numsOf l9).length = 1 := (of_decide_eq_true h175).2
 refine WC.know (p := A1 = some ⟨gOf A1, 0, none⟩) (fun a w s => (own_int s.fact.1 (nth0_get (l := numsOf l9) (k := 0) (by omega))).1) (fun hA1 => ?_)
 refine WC.draw2 [(0, .q true), (1, .q false), (2, .q false), (3, .q true), (4, .s false), (5, .q false), (6, .q false), (7, .q false), (8, .s false), (9, .s true), (10, .q false)] mixed ?_
 refine AD.quiet (i := 0) (imp := true) rfl (by kernel_rfl) (QS.val (Y.loadAN wd_36 rfl (by repeat (first | exact List.Mem.head _ | apply List.Mem.tail)) (r := x.cl A c) rfl) rfl rfl) rfl rfl rfl ?_
 refine AD.quiet (i := 1) (imp := false) rfl (by kernel_rfl) (QS.pure (Y.move rfl) rfl rfl) rfl rfl rfl ?_
 refine AD.quiet (i := 2) (imp := false) rfl (by kernel_rfl) (QS.pure (Y.ixSlA (A := A1) (b := gOf A1) (o := 0) Tryz.underlying73 Tryz.sizeOf3 rfl rfl hA1 (by decide) (by omega)) rfl rfl) rfl rfl rfl ?_
 refine AD.quiet (i := 3) (imp := true) rfl (by kernel_rfl) (QS.val (Y.loadc fl_3 rfl (v := .int .i64 (nth0 (numsOf l9) 0)) (fun a w s => by have := (own_int s.fact.1 (nth0_get (l := numsOf l9) (k := 0) (by omega))).2; simpa using this)) rfl rfl) rfl rfl rfl ?_
 refine AD.two (i := 4) (j := 8) (by kernel_rfl) rfl rfl (WS.free rfl (E.retW ((syncOf x (nth0 (numsOf l9) 0)).1) [.int .i64 (syncOf x (nth0 (numsOf l9) 0)).2] Tryz.call42 rfl (fun _ w s => w_syncOf x A b o c (nth0 (numsOf l9) 0) w hm hcap (hr.below s.low)) rfl)) (fun _ => ext_newN rfl) (WS.free rfl (E.alloc Tryz.zeroValue36 rfl rfl)) (fun _ => ext_new rfl) (fun i => ?_) (fun b9 => ?_)
 refine AD.list [(5, .q false), (6, .q false), (7, .q false), (8, .s false), (9, .s true), (10, .q false)] (by kernel_rfl) ?_
 refine dP (Y.move rfl) rfl rfl ?_
 refine dP (Y.extract rfl rfl) rfl rfl ?_
 refine dP (Y.extract rfl rfl) rfl rfl ?_
 refine WDm.spec (WS.free rfl (E.alloc Tryz.zeroValue36 rfl rfl)) (fun _ => ext_new rfl) (fun b9 => ?_)
 refine WDm.spec (WS.free rfl (E.store Tryz.sizeOf36 rfl rfl rfl rfl rfl u0 rfl rfl)) (fun _ => sub_refl _) (fun _ => ?_)
 refine dP (Y.assign rfl) rfl rfl ?_
 refine WDm.nil (WQ.and ?_)
 refine WQ.next ?_
 refine sR ?_
 refine pV (Y.loadAN wd_36 rfl (by repeat (first | exact List.Mem.head _ | apply List.Mem.tail)) (r := (syncOf x (nth0 (numsOf l9) 0)).1.cl i.1 i.2) rfl) rfl ?_
 refine pM rfl rfl ?_
 refine WL.eff (E.store Tryz.sizeOf36 rfl rfl rfl rfl rfl u1 rfl rfl) rfl (fun _ => ?_)
 refine pA rfl rfl ?_
 refine pA rfl rfl ?_
 refine nN ?_
 refine WC.ret ?_
 refine WQ.blockRet ?_
 refine WQ.thenRet ?_
 refine WQ.done Tryz.results15 (RVs.cons (RV.cell wd_36 rfl m1 rfl) (RVs.cons (RV.tmp rfl) (RVs.cons (RV.tmp rfl) RVs.nil))) (fun a w s => ?_)
 · have n0 := of_decide_eq_false h106
   have n1 := of_decide_eq_false h135
   have n2 := of_decide_eq_false h155
   have y9 := of_decide_eq_true h175
   have e : lineOf x l9 = ((syncOf x (nth0 (numsOf l9) 0)).1, sOk, (syncOf x (nth0 (numsOf l9) 0)).2) := by unfold lineOf; rw [hshow]; dsimp only; rw [if_pos hall]; unfold doWord; rw [if_neg n0, if_neg n1, if_neg n2, if_pos y9]
   rw [e]
   exact ⟨(i, true), rfl, s.low, s.fact.1, fun h => by cases h⟩
 refine AD.list [(4, .s false), (5, .q false), (6, .q false), (7, .q false), (9, .s true), (10, .q false)] (by kernel_rfl) ?_
 refine WDm.spec (WS.free rfl (E.retW ((syncOf x (nth0 (numsOf l9) 0)).1) [.int .i64 (syncOf x (nth0 (numsOf l9) 0)).2] Tryz.call42 rfl (fun _ w s => w_syncOf x A b o c (nth0 (numsOf l9) 0) w hm hcap (hr.below s.low)) rfl)) (fun _ => ext_newN rfl) (fun i => ?_)
 refine dP (Y.move rfl) rfl rfl ?_
 refine dP (Y.extract rfl rfl) rfl rfl ?_
 refine dP (Y.extract rfl rfl) rfl rfl ?_
 refine WDm.spec (WS.free rfl (E.store Tryz.sizeOf36 rfl rfl rfl rfl rfl u0 rfl rfl)) (fun _ => sub_refl _) (fun _ => ?_)
 refine dP (Y.assign rfl) rfl rfl ?_
 refine WDm.nil (WQ.and ?_)
 refine WQ.next ?_
 refine sR ?_
 refine pV (Y.loadAN wd_36 rfl (by repeat (first | exact List.Mem.head _ | apply List.Mem.tail)) (r := (syncOf x (nth0 (numsOf l9) 0)).1.cl i.1 i.2) rfl) rfl ?_
 refine pM rfl rfl ?_
 refine WL.eff (E.store Tryz.sizeOf36 rfl rfl rfl rfl rfl u1 rfl rfl) rfl (fun _ => ?_)
 refine pA rfl rfl ?_
 refine pA rfl rfl ?_
 refine nN ?_
 refine WC.ret ?_
 refine WQ.blockRet ?_
 refine WQ.thenRet ?_
 refine WQ.done Tryz.results15 (RVs.cons (RV.cell wd_36 rfl m1 rfl) (RVs.cons (RV.tmp rfl) (RVs.cons (RV.tmp rfl) RVs.nil))) (fun a w s => ?_)
 · have n0 := of_decide_eq_false h106
   have n1 := of_decide_eq_false h135
   have n2 := of_decide_eq_false h155
   have y9 := of_decide_eq_true h175
   have e : lineOf x l9 = ((syncOf x (nth0 (numsOf l9) 0)).1, sOk, (syncOf x (nth0 (numsOf l9) 0)).2) := by unfold lineOf; rw [hshow]; dsimp only; rw [if_pos hall]; unfold doWord; rw [if_neg n0, if_neg n1, if_neg n2, if_pos y9]
   rw [e]
   exact ⟨(i, true), rfl, s.low, s.fact.1, fun h => by cases h⟩
 refine WC.cut1 [(195, .bool (decide (hdOf l9 = wFlush ∧ (numsOf l9).length = 1))), (2, .pointer (some ⟨b1, 0, none⟩)), (4, .pointer (some ⟨b2, 0, none⟩)), (12, .slice j.1 (cutAt 32 l9).length j.2), (13, .slice A1 (numsOf l9).length c1)] [(b2, Wd.zero.cl none 0, 36), (b1, x.cl A c, 36)] ((SF.own w.heap.size 3 1 (.slice A1 (numsOf l9).length c1) (numsOf l9).length (ints (numsOf l9))).sep ((SF.own w.heap.size 9 1 (.slice j.1 (cutAt 32 l9).length j.2) (cutAt 32 l9).length (sus (cutAt 32 l9))).sep SF.top)) ?_ ?_
 refine WC.region ?_
 refine pM rfl rfl ?_
 refine pP (Y.ixSlA (A := j.1) (b := gOf j.1) (o := 0) Tryz.underlying64 Tryz.sizeOf9 rfl rfl hjA (by decide) (by have := cut_pos 32 l9; omega)) rfl ?_
 refine pV (Y.loadc fl_9 rfl (v := su (hdOf l9)) (fun a w s => by have := (own_str s.fact.2.1.1 hxh).2; simpa using this)) rfl ?_
 refine pP (Y.eqU (b := wFlush) rfl rfl rfl) rfl ?_
 refine pM rfl rfl ?_
 refine WL.split (t := 200) rfl (fun r h200 => ?_)
 cases r
 refine gF rfl ?_
 refine gF rfl ?_
 refine gF rfl ?_
 refine pP (Y.pickF rfl rfl) rfl ?_
 refine pA rfl rfl ?_
 refine WL.nil ?_
 · exact fun a w s => ⟨rfl, s.weak (sub_cons (eqb (by have hh := h200; simp at hh; rw [Bool.eq_iff_iff]; simp [hh]; try omega)) (by repeat (first | exact sub_nil _ | refine sub_cons rfl ?_)))⟩
 refine gT rfl ?_
 refine pM rfl rfl ?_
 refine gT rfl ?_
 refine pP (Y.len Tryz.underlying73 rfl) rfl ?_
 refine gT rfl ?_
 refine pP (Y.eql rfl rfl) rfl ?_
 refine pP (Y.pickT rfl rfl) rfl ?_
 refine pA rfl rfl ?_
 refine WL.nil ?_
 · exact fun a w s => ⟨rfl, s.weak (sub_cons (eqb (by have hh := h200; simp at hh; rw [Bool.eq_iff_iff]; simp [hh]; try omega)) (by repeat (first | exact sub_nil _ | refine sub_cons rfl ?_)))⟩
 refine WC.cond rfl (fun h195 => ?_) (fun h195 => ?_)
 refine WC.seq ?_
 have hnl : (numsOf l9).length = 1 := (of_decide_eq_true h195).2
 refine WC.know (p := A1 = some ⟨gOf A1, 0, none⟩) (fun a w s => (own_int s.fact.1 (nth0_get (l := numsOf l9) (k := 0) (by omega))).1) (fun hA1 => ?_)
 refine WC.draw2 [(0, .q true), (1, .q false), (2, .q false), (3, .q true), (4, .s false), (5, .q false), (6, .q false), (7, .q false), (8, .s false), (9, .s true), (10, .q false)] mixed ?_
 refine AD.quiet (i := 0) (imp := true) rfl (by kernel_rfl) (QS.val (Y.loadAN wd_36 rfl (by repeat (first | exact List.Mem.head _ | apply List.Mem.tail)) (r := x.cl A c) rfl) rfl rfl) rfl rfl rfl ?_
 refine AD.quiet (i := 1) (imp := false) rfl (by kernel_rfl) (QS.pure (Y.move rfl) rfl rfl) rfl rfl rfl ?_
 refine AD.quiet (i := 2) (imp := false) rfl (by kernel_rfl) (QS.pure (Y.ixSlA (A := A1) (b := gOf A1) (o := 0) Tryz.underlying73 Tryz.sizeOf3 rfl rfl hA1 (by decide) (by omega)) rfl rfl) rfl rfl rfl ?_
 refine AD.quiet (i := 3) (imp := true) rfl (by kernel_rfl) (QS.val (Y.loadc fl_3 rfl (v := .int .i64 (nth0 (numsOf l9) 0)) (fun a w s => by have := (own_int s.fact.1 (nth0_get (l := numsOf l9) (k := 0) (by omega))).2; simpa using this)) rfl rfl) rfl rfl rfl ?_
 refine AD.two (i := 4) (j := 8) (by kernel_rfl) rfl rfl (WS.free rfl (E.retW ((flushOf x (nth0 (numsOf l9) 0)).1) [.int .i64 (flushOf x (nth0 (numsOf l9) 0)).2] Tryz.call43 rfl (fun _ w s => w_flushOf x A b o c (nth0 (numsOf l9) 0) w hm hcap (hr.below s.low)) rfl)) (fun _ => ext_newN rfl) (WS.free rfl (E.alloc Tryz.zeroValue36 rfl rfl)) (fun _ => ext_new rfl) (fun i => ?_) (fun b10 => ?_)
 refine AD.list [(5, .q false), (6, .q false), (7, .q false), (8, .s false), (9, .s true), (10, .q false)] (by kernel_rfl) ?_
 refine dP (Y.move rfl) rfl rfl ?_
 refine dP (Y.extract rfl rfl) rfl rfl ?_
 refine dP (Y.extract rfl rfl) rfl rfl ?_
 refine WDm.spec (WS.free rfl (E.alloc Tryz.zeroValue36 rfl rfl)) (fun _ => ext_new rfl) (fun b10 => ?_)
 refine WDm.spec (WS.free rfl (E.store Tryz.sizeOf36 rfl rfl rfl rfl rfl u0 rfl rfl)) (fun _ => sub_refl _) (fun _ => ?_)
 refine dP (Y.assign rfl) rfl rfl ?_
 refine WDm.nil (WQ.and ?_)
 refine WQ.next ?_
 refine sR ?_
 refine pV (Y.loadAN wd_36 rfl (by repeat (first | exact List.Mem.head _ | apply List.Mem.tail)) (r := (flushOf x (nth0 (numsOf l9) 0)).1.cl i.1 i.2) rfl) rfl ?_
 refine pM rfl rfl ?_
 refine WL.eff (E.store Tryz.sizeOf36 rfl rfl rfl rfl rfl u1 rfl rfl) rfl (fun _ => ?_)
 refine pA rfl rfl ?_
 refine pA rfl rfl ?_
 refine nN ?_
 refine WC.ret ?_
 refine WQ.blockRet ?_
 refine WQ.thenRet ?_
 refine WQ.done Tryz.results15 (RVs.cons (RV.cell wd_36 rfl m1 rfl) (RVs.cons (RV.tmp rfl) (RVs.cons (RV.tmp rfl) RVs.nil))) (fun a w s => ?_)
 · have n0 := of_decide_eq_false h106
   have n1 := of_decide_eq_false h135
   have n2 := of_decide_eq_false h155
   have n3 := of_decide_eq_false h175
   have y9 := of_decide_eq_true h195
   have e : lineOf x l9 = ((flushOf x (nth0 (numsOf l9) 0)).1, sOk, (flushOf x (nth0 (numsOf l9) 0)).2) := by unfold lineOf; rw [hshow]; dsimp only; rw [if_pos hall]; unfold doWord; rw [if_neg n0, if_neg n1, if_neg n2, if_neg n3, if_pos y9]
   rw [e]
   exact ⟨(i, true), rfl, s.low, s.fact.1, fun h => by cases h⟩
 refine AD.list [(4, .s false), (5, .q false), (6, .q false), (7, .q false), (9, .s true), (10, .q false)] (by kernel_rfl) ?_
 refine WDm.spec (WS.free rfl (E.retW ((flushOf x (nth0 (numsOf l9) 0)).1) [.int .i64 (flushOf x (nth0 (numsOf l9) 0)).2] Tryz.call43 rfl (fun _ w s => w_flushOf x A b o c (nth0 (numsOf l9) 0) w hm hcap (hr.below s.low)) rfl)) (fun _ => ext_newN rfl) (fun i => ?_)
 refine dP (Y.move rfl) rfl rfl ?_
 refine dP (Y.extract rfl rfl) rfl rfl ?_
 refine dP (Y.extract rfl rfl) rfl rfl ?_
 refine WDm.spec (WS.free rfl (E.store Tryz.sizeOf36 rfl rfl rfl rfl rfl u0 rfl rfl)) (fun _ => sub_refl _) (fun _ => ?_)
 refine dP (Y.assign rfl) rfl rfl ?_
 refine WDm.nil (WQ.and ?_)
 refine WQ.next ?_
 refine sR ?_
 refine pV (Y.loadAN wd_36 rfl (by repeat (first | exact List.Mem.head _ | apply List.Mem.tail)) (r := (flushOf x (nth0 (numsOf l9) 0)).1.cl i.1 i.2) rfl) rfl ?_
 refine pM rfl rfl ?_
 refine WL.eff (E.store Tryz.sizeOf36 rfl rfl rfl rfl rfl u1 rfl rfl) rfl (fun _ => ?_)
 refine pA rfl rfl ?_
 refine pA rfl rfl ?_
 refine nN ?_
 refine WC.ret ?_
 refine WQ.blockRet ?_
 refine WQ.thenRet ?_
 refine WQ.done Tryz.results15 (RVs.cons (RV.cell wd_36 rfl m1 rfl) (RVs.cons (RV.tmp rfl) (RVs.cons (RV.tmp rfl) RVs.nil))) (fun a w s => ?_)
 · have n0 := of_decide_eq_false h106
   have n1 := of_decide_eq_false h135
   have n2 := of_decide_eq_false h155
   have n3 := of_decide_eq_false h175
   have y9 := of_decide_eq_true h195
   have e : lineOf x l9 = ((flushOf x (nth0 (numsOf l9) 0)).1, sOk, (flushOf x (nth0 (numsOf l9) 0)).2) := by unfold lineOf; rw [hshow]; dsimp only; rw [if_pos hall]; unfold doWord; rw [if_neg n0, if_neg n1, if_neg n2, if_neg n3, if_pos y9]
   rw [e]
   exact ⟨(i, true), rfl, s.low, s.fact.1, fun h => by cases h⟩
 refine WC.cut1 [(215, .bool (decide (hdOf l9 = wState ∧ (numsOf l9).length = 1))), (2, .pointer (some ⟨b1, 0, none⟩)), (4, .pointer (some ⟨b2, 0, none⟩)), (12, .slice j.1 (cutAt 32 l9).length j.2), (13, .slice A1 (numsOf l9).length c1)] [(b2, Wd.zero.cl none 0, 36), (b1, x.cl A c, 36)] ((SF.own w.heap.size 3 1 (.slice A1 (numsOf l9).length c1) (numsOf l9).length (ints (numsOf l9))).sep ((SF.own w.heap.size 9 1 (.slice j.1 (cutAt 32 l9).length j.2) (cutAt 32 l9).length (sus (cutAt 32 l9))).sep SF.top)) ?_ ?_
 refine WC.region ?_
 refine pM rfl rfl ?_
 refine pP (Y.ixSlA (A := j.1) (b := gOf j.1) (o := 0) Tryz.underlying64 Tryz.sizeOf9 rfl rfl hjA (by decide) (by have := cut_pos 32 l9; omega)) rfl ?_
 refine pV (Y.loadc fl_9 rfl (v := su (hdOf l9)) (fun a w s => by have := (own_str s.fact.2.1.1 hxh).2; simpa using this)) rfl ?_
 refine pP (Y.eqU (b := wState) rfl rfl rfl) rfl ?_
 refine pM rfl rfl ?_
 refine WL.split (t := 220) rfl (fun r h220 => ?_)
 cases r
 refine gF rfl ?_
 refine gF rfl ?_
 refine gF rfl ?_
 refine pP (Y.pickF rfl rfl) rfl ?_
 refine pA rfl rfl ?_
 refine WL.nil ?_
 · exact fun a w s => ⟨rfl, s.weak (sub_cons (eqb (by have hh := h220; simp at hh; rw [Bool.eq_iff_iff]; simp [hh]; try omega)) (by repeat (first | exact sub_nil _ | refine sub_cons rfl ?_)))⟩
 refine gT rfl ?_
 refine pM rfl rfl ?_
 refine gT rfl ?_
 refine pP (Y.len Tryz.underlying73 rfl) rfl ?_
 refine gT rfl ?_
 refine pP (Y.eql rfl rfl) rfl ?_
 refine pP (Y.pickT rfl rfl) rfl ?_
 refine pA rfl rfl ?_
 refine WL.nil ?_
 · exact fun a w s => ⟨rfl, s.weak (sub_cons (eqb (by have hh := h220; simp at hh; rw [Bool.eq_iff_iff]; simp [hh]; try omega)) (by repeat (first | exact sub_nil _ | refine sub_cons rfl ?_)))⟩
 refine WC.cond rfl (fun h215 => ?_) (fun h215 => ?_)
 refine WC.seq ?_
 have hnl : (numsOf l9).length = 1 := (of_decide_eq_true h215).2
 refine WC.know (p := A1 = some ⟨gOf A1, 0, none⟩) (fun a w s => (own_int s.fact.1 (nth0_get (l := numsOf l9) (k := 0) (by omega))).1) (fun hA1 => ?_)
 refine WC.draw [(0, .q false), (1, .q true), (2, .q false), (3, .q false), (4, .q true), (5, .q true), (6, .q false), (7, .q false), (8, .q false), (9, .q false), (10, .q false), (11, .q false), (12, .q false)] mixed (by kernel_rfl) ?_
 refine dP (Y.fieldAddr fa_36_1 rfl) rfl rfl ?_
 refine dV (Y.load (v := .slice A x.log.length c) fl_34 rfl (by repeat (first | exact List.Mem.head _ | apply List.Mem.tail)) rfl) rfl rfl ?_
 refine dP (Y.move rfl) rfl rfl ?_
 refine dP (Y.ixSlA (A := A1) (b := gOf A1) (o := 0) Tryz.underlying73 Tryz.sizeOf3 rfl rfl hA1 (by decide) (by omega)) rfl rfl ?_
 refine dV (Y.loadc fl_3 rfl (v := .int .i64 (nth0 (numsOf l9) 0)) (fun a w s => by have := (own_int s.fact.1 (nth0_get (l := numsOf l9) (k := 0) (by omega))).2; simpa using this)) rfl rfl ?_
 refine WDm.quiet (QS.call Tryz.call44 rfl (fun _ w s => w_docState x.log A b o c (nth0 (numsOf l9) 0) w hm hcap (hr.below s.low))) rfl rfl rfl ?_
 refine dP (Y.move rfl) rfl rfl ?_
 refine dP (Y.extract rfl rfl) rfl rfl ?_
 refine dP (Y.extract rfl rfl) rfl rfl ?_
 refine dP (Y.extract rfl rfl) rfl rfl ?_
 refine dP (Y.assign rfl) rfl rfl ?_
 refine dP (Y.assign rfl) rfl rfl ?_
 refine dP (Y.assign rfl) rfl rfl ?_
 refine WDm.nil (WQ.and ?_)
 refine WQ.next ?_
 refine WC.seq ?_
 refine WC.draw [(0, .q true), (1, .q false), (2, .q true), (3, .q false), (4, .s true), (5, .q false), (6, .q false)] mixed (by kernel_rfl) ?_
 refine dV (Y.loadAN wd_36 rfl (by repeat (first | exact List.Mem.head _ | apply List.Mem.tail)) (r := x.cl A c) rfl) rfl rfl ?_
 refine dP (Y.move rfl) rfl rfl ?_
 refine WDm.quiet (QS.call Tryz.call16 rfl (fun _ w s => (by have hc := (state_bnd hw0 (nth0 (numsOf l9) 0)).1; have hd := w_digits (logState x.log (nth0 (numsOf l9) 0)).1.toNat (by omega) w; rw [Int.toNat_of_nonneg hc.1] at hd; exact hd))) rfl rfl rfl ?_
 refine dP (Y.move rfl) rfl rfl ?_
 refine WDm.spec (WS.free rfl (E.store Tryz.sizeOf36 rfl rfl rfl rfl rfl u0 rfl rfl)) (fun _ => sub_refl _) (fun _ => ?_)
 refine dP (Y.assign rfl) rfl rfl ?_
 refine dP (Y.assign rfl) rfl rfl ?_
 refine WDm.nil (WQ.and ?_)
 refine WQ.next ?_
 refine WC.ret ?_
 refine WQ.blockRet ?_
 refine WQ.thenRet ?_
 refine WQ.done Tryz.results15 (RVs.cons (RV.cell wd_36 rfl m0 rfl) (RVs.cons (RV.tmp rfl) (RVs.cons (RV.tmp rfl) RVs.nil))) (fun a w s => ?_)
 · have n0 := of_decide_eq_false h106
   have n1 := of_decide_eq_false h135
   have n2 := of_decide_eq_false h155
   have n3 := of_decide_eq_false h175
   have n4 := of_decide_eq_false h195
   have y9 := of_decide_eq_true h215
   have e : lineOf x l9 = (x, digs (logState x.log (nth0 (numsOf l9) 0)).1.toNat, (logState x.log (nth0 (numsOf l9) 0)).2.2) := by unfold lineOf; rw [hshow]; dsimp only; rw [if_pos hall]; unfold doWord; rw [if_neg n0, if_neg n1, if_neg n2, if_neg n3, if_neg n4, if_pos y9]
   rw [e]
   exact ⟨((A, c), false), rfl, s.low, trivial, fun _ => ⟨rfl, rfl⟩⟩
 refine WC.skip' ?_
 refine WQ.blockEnd ?_
 refine WQ.next ?_
 refine sR ?_
 refine pV (Y.loadAN wd_36 rfl (by repeat (first | exact List.Mem.head _ | apply List.Mem.tail)) (r := x.cl A c) rfl) rfl ?_
 refine WL.eff (E.store Tryz.sizeOf36 rfl rfl rfl rfl rfl u0 rfl rfl) rfl (fun _ => ?_)
 refine pA rfl rfl ?_
 refine pA rfl rfl ?_
 refine nN ?_
 refine WC.ret ?_
 refine WQ.done Tryz.results15 (RVs.cons (RV.cell wd_36 rfl m0 rfl) (RVs.cons (RV.tmp rfl) (RVs.cons (RV.tmp rfl) RVs.nil))) (fun a w s => ?_)
 · have n0 := of_decide_eq_false h106
   have n1 := of_decide_eq_false h135
   have n2 := of_decide_eq_false h155
   have n3 := of_decide_eq_false h175
   have n4 := of_decide_eq_false h195
   have n5 := of_decide_eq_false h215
   have e : lineOf x l9 = (x, [], 1) := by unfold lineOf; rw [hshow]; dsimp only; rw [if_pos hall]; unfold doWord; rw [if_neg n0, if_neg n1, if_neg n2, if_neg n3, if_neg n4, if_neg n5]
   rw [e]
   exact ⟨((A, c), false), rfl, s.low, trivial, fun _ => ⟨rfl, rfl⟩⟩
end Go.Proofs.YtapkelocligmdaaGreatDoor
