/- Scan: what the document says of Redo and Losers. No condition. -/
import Derived.Test.YtdbcimadjmdffaaCn
set_option maxRecDepth 100000
set_option linter.unusedVariables false
set_option linter.unusedSimpArgs false
set_option linter.unusedSectionVars false
set_option maxHeartbeats 4000000
namespace Go.Proofs.Ytdbcimadjmdffaa
open Go.RowKit Go.Joins
theorem w_redoOf (x : Wd) (A : Option Addr) (b o c : Nat) (w : World) (hm : x.log.length ≤ maxLen) (hcap : x.log.length ≤ c) (hr : RL w A b o x.log) : Ret Try.prog 100 [x.val A c] w (.tuple #[(redoOf x).1.val, .int .i64 (redoOf x).2.1, .int .i64 (redoOf x).2.2]) := by
 refine enter Try.func100 rfl Try.ntmps100 rfl SF.top trivial ?_
 refine sR ?_
 refine WL.eff (E.box rfl rfl rfl) rfl (fun b1 => ?_)
 refine WL.eff (E.alloc Try.zeroValue42 rfl rfl) rfl (fun b2 => ?_)
 refine pA rfl rfl ?_
 refine pA rfl rfl ?_
 refine nN ?_
 refine WC.seq ?_
 refine sR ?_
 refine pV (Y.loadAN wd_54 rfl (by repeat (first | exact List.Mem.head _ | apply List.Mem.tail)) (r := (x).cl A c) rfl) rfl ?_
 refine WL.eff (E.call Try.call63 rfl (fun _ w s => w_worldError x A b o c w hm hcap (hr.below s.low)) rfl) rfl (fun _ => ?_)
 refine pA rfl rfl ?_
 refine nN ?_
 refine sR ?_
 refine pM rfl rfl ?_
 refine pP (Y.neq rfl rfl) rfl ?_
 refine nN ?_
 refine WC.cond rfl (fun h13 => ?_) (fun h13 => ?_)
 refine sR ?_
 refine pP (Y.build rfl (bf_42 )) rfl ?_
 refine pM rfl rfl ?_
 refine WL.eff (E.store Try.sizeOf42 rfl rfl rfl rfl rfl u0 rfl rfl) rfl (fun _ => ?_)
 refine pA rfl rfl ?_
 refine pA rfl rfl ?_
 refine nN ?_
 refine WC.ret ?_
 refine WQ.thenRet ?_
 refine WQ.done Try.results100 (RVs.cons (RV.cell wd_42 rfl m0 rfl) (RVs.cons (RV.tmp rfl) (RVs.cons (RV.tmp rfl) RVs.nil))) (fun a w s => ?_)
 · have e : redoOf x = (P3.zero, 0, worldErr x) := by unfold redoOf; rw [if_neg (by simpa using h13)]
   rw [e]
   exact ⟨rfl, s.low⟩
 refine WC.skip' ?_
 refine WQ.next ?_
 refine WC.seq ?_
 refine WC.seq ?_
 have h0 : worldErr x = 0 := by simpa using h13
 obtain ⟨hl0, h60, hR, hsf, _⟩ := world_right h0
 refine WC.region ?_
 refine pP (Y.fieldAddr fa_54_2 rfl) rfl ?_
 refine pV (Y.load (cs := (x).cl A c) (v := .int .i64 x.safe) fl_3 rfl (by repeat (first | exact List.Mem.head _ | apply List.Mem.tail)) rfl) rfl ?_
 refine pP (Y.fieldAddr fa_54_1 rfl) rfl ?_
 refine pV (Y.load (cs := (x).cl A c) (v := .slice A (x).log.length c) fl_39 rfl (by repeat (first | exact List.Mem.head _ | apply List.Mem.tail)) rfl) rfl ?_
 refine pP (Y.len Try.underlying39 rfl) rfl ?_
 refine pP (Y.neq rfl rfl) rfl ?_
 refine nN ?_
 refine WC.cond rfl (fun h21 => ?_) (fun h21 => ?_)
 refine sR ?_
 refine pP (Y.build rfl (bf_42 )) rfl ?_
 refine WL.eff (E.store Try.sizeOf42 rfl rfl rfl rfl rfl u0 rfl rfl) rfl (fun _ => ?_)
 refine pA rfl rfl ?_
 refine pA rfl rfl ?_
 refine nN ?_
 refine WC.ret ?_
 refine WQ.thenRet ?_
 refine WQ.done Try.results100 (RVs.cons (RV.cell wd_42 rfl m0 rfl) (RVs.cons (RV.tmp rfl) (RVs.cons (RV.tmp rfl) RVs.nil))) (fun a w s => ?_)
 · have e : redoOf x = (P3.zero, 0, 1) := by unfold redoOf; rw [if_pos h0, if_neg (by simpa using h21)]
   rw [e]
   exact ⟨rfl, s.low⟩
 refine WC.skip' ?_
 refine WQ.next ?_
 refine WC.seq ?_
 have hsl : x.safe = (x.log.length : Int) := by simpa using h21
 have hdk := disk_pok h0
 refine WC.region ?_
 refine pP (Y.fieldAddr fa_54_0 rfl) rfl ?_
 refine pV (Y.loadAN (cs := (x).cl A c) wd_42 rfl (by repeat (first | exact List.Mem.head _ | apply List.Mem.tail)) (r := (x).disk.cl) rfl) rfl ?_
 refine WL.eff (E.alloc Try.zeroValue42 rfl rfl) rfl (fun b3 => ?_)
 refine WL.eff (E.store Try.sizeOf42 rfl rfl rfl rfl rfl u0 rfl rfl) rfl (fun _ => ?_)
 refine nN ?_
 refine sR ?_
 refine pA rfl rfl ?_
 refine nN ?_
 refine WC.seq ?_
 refine sR ?_
 refine pA rfl rfl ?_
 refine nN ?_
 refine WC.block ?_
 refine WC.loop (ι := Nat) (fun k => [(1, .pointer (some ⟨b1, 0, none⟩)), (2, .pointer (some ⟨b2, 0, none⟩)), (6, .pointer (some ⟨b3, 0, none⟩)), (7, .int .i64 ((redoH x.disk (x.log.take k).reverse).2 : Nat)), (8, .int .i64 k)]) (fun k => [(b3, (redoH x.disk (x.log.take k).reverse).1.cl, 42), (b2, P3.zero.cl, 42), (b1, x.cl A c, 54)]) (fun _ => SF.top) (fun k => k ≤ x.log.length) (fun k => x.log.length - k) 0 (Nat.zero_le _) (fun a w s => s.weak (by repeat (first | exact sub_nil _ | refine sub_cons rfl ?_))) (fun k hk => ?_)
 refine WC.seq ?_
 refine sR ?_
 refine pM rfl rfl ?_
 refine pP (Y.fieldAddr fa_54_1 rfl) rfl ?_
 refine pV (Y.load (cs := (x).cl A c) (v := .slice A (x).log.length c) fl_39 rfl (by repeat (first | exact List.Mem.head _ | apply List.Mem.tail)) rfl) rfl ?_
 refine pP (Y.len Try.underlying39 rfl) rfl ?_
 refine pP (Y.lss rfl rfl) rfl ?_
 refine nN ?_
 refine WC.cond rfl (fun h29 => ?_) (fun h29 => ?_)
 refine WC.skip' ?_
 refine WQ.next ?_
 refine WC.seq ?_
 refine WC.block ?_
 refine WC.seq ?_
 have hkl : k < x.log.length := by simp at h29; omega
 obtain ⟨r, hk'⟩ := get_of_lt (l := x.log) (k := k) hkl
 have hAx := hr.addr hk'
 have hmr : r ∈ x.h := by unfold Wd.h; exact List.mem_reverse.2 (List.mem_of_getElem? hk')
 have hRk : Right (x.log.take (k + 1)).reverse := (log_right (take_right hl0 (k + 1))).2
 rw [takeS hk'] at hRk
 obtain ⟨hR1, hrc, _⟩ := hRk.parts
 have hrb := rec_bounds hrc
 have hlk : (x.log.take k).reverse.length = k := by simp; omega
 have hpk := redo_pok hdk hR1 (by rw [hlk]; omega)
 have hcn := redo_len x.disk (x.log.take k).reverse
 rw [hlk] at hcn
 refine WC.region ?_
 refine pP (Y.fieldAddr fa_54_1 rfl) rfl ?_
 refine pV (Y.load (cs := (x).cl A c) (v := .slice A (x).log.length c) fl_39 rfl (by repeat (first | exact List.Mem.head _ | apply List.Mem.tail)) rfl) rfl ?_
 refine pM rfl rfl ?_
 refine pP (Y.ixSlA (A := A) (b := b) (o := o) Try.underlying39 Try.sizeOf34 rfl rfl hAx (nat0 _) (get_ltI hk')) rfl ?_
 refine pV (Y.loadAc wd_34 rfl (r := r.cl) rfl (fun a w s j hj => (hr.below s.low).full (i := k) hk' j hj)) rfl ?_
 refine WL.eff (E.alloc Try.zeroValue34 rfl rfl) rfl (fun b4 => ?_)
 refine WL.eff (E.store Try.sizeOf34 rfl rfl rfl rfl rfl u0 rfl rfl) rfl (fun _ => ?_)
 refine nN ?_
 refine sR ?_
 refine pV (Y.loadA wd_34 rfl m0 rfl) rfl ?_
 refine WL.eff (E.call Try.call119 rfl (fun _ w s => w_rturns r w) rfl) rfl (fun _ => ?_)
 refine pM rfl rfl ?_
 refine WL.split (t := 39) rfl (fun r h39 => ?_)
 cases r
 refine gF rfl ?_
 refine gF rfl ?_
 refine gF rfl ?_
 refine gF rfl ?_
 refine gF rfl ?_
 refine gF rfl ?_
 refine gF rfl ?_
 refine gF rfl ?_
 refine pP (Y.pickF rfl rfl) rfl ?_
 refine nN ?_
 refine WC.condF rfl ?_
 refine WC.skip' ?_
 refine WQ.blockEnd ?_
 refine WQ.next ?_
 refine WC.region ?_
 refine pM rfl rfl ?_
 refine pP (Y.add rfl rfl (i64_in (by omega) (by omega))) rfl ?_
 refine pA rfl rfl ?_
 refine WL.nil ?_
 · have e : (redoH x.disk (x.log.take (k + 1)).reverse) = (redoH x.disk (x.log.take k).reverse) := by
     rw [takeS hk', redoH]
     rw [if_neg (fun hh => by have h9 := h39; rw [hh.1] at h9; cases h9)]
     try rfl
   refine fun a w s => ⟨k + 1, by omega, by omega, ?_⟩
   rw [e]
   exact (s.sub (Hsub.of_sub (List.sublist_cons_self _ _))).weak (by repeat (first | exact sub_nil _ | refine sub_cons rfl ?_))
 obtain ⟨hp, hc, ho, hv⟩ := hrb.2.2.2.2.2.2.2.2.1 h39
 refine gT rfl ?_
 refine pP (Y.fieldAddr fa_34_3 rfl) rfl ?_
 refine gT rfl ?_
 refine pV (Y.load fl_3 rfl m0 rfl) rfl ?_
 refine gT rfl ?_
 refine pP (Y.ixArr Try.underlying42 Try.sizeOf24 rfl rfl hp.1 (by omega)) rfl ?_
 refine gT rfl ?_
 refine pP (Y.fieldAddr fa_24_1 rfl) rfl ?_
 refine gT rfl ?_
 refine pV (Y.loadN (cs := (redoH x.disk (x.log.take k).reverse).1.cl) fl_3 rfl (by repeat (first | exact List.Mem.head _ | apply List.Mem.tail)) (p3_last _ _ hp)) rfl ?_
 refine gT rfl ?_
 refine pM rfl rfl ?_
 refine gT rfl ?_
 refine pP (Y.add rfl rfl (i64_in (by omega) (by omega))) rfl ?_
 refine gT rfl ?_
 refine pP (Y.lss rfl rfl) rfl ?_
 refine pP (Y.pickT rfl rfl) rfl ?_
 refine nN ?_
 refine WC.cond rfl (fun h48 => ?_) (fun h48 => ?_)
 refine WC.seq ?_
 refine WC.draw [(0, .q false), (1, .q true), (2, .q false), (3, .q true), (4, .q false), (5, .q true), (6, .q false), (7, .q false), (8, .q false), (9, .s true)] mixed (by kernel_rfl) ?_
 refine dP (Y.fieldAddr fa_34_3 rfl) rfl rfl ?_
 refine dV (Y.load fl_3 rfl m0 rfl) rfl rfl ?_
 refine dP (Y.fieldAddr fa_34_4 rfl) rfl rfl ?_
 refine dV (Y.load fl_3 rfl m0 rfl) rfl rfl ?_
 refine dP (Y.fieldAddr fa_34_6 rfl) rfl rfl ?_
 refine dV (Y.load fl_3 rfl m0 rfl) rfl rfl ?_
 refine dP (Y.ixArr Try.underlying42 Try.sizeOf24 rfl rfl hp.1 (by omega)) rfl rfl ?_
 refine dP (Y.fieldAddr fa_24_0 rfl) rfl rfl ?_
 refine dP (Y.ixArr Try.underlying22 Try.sizeOf3 rfl rfl hc.1 (by omega)) rfl rfl ?_
 refine WDm.spec (WS.free rfl (E.storeP Try.sizeOf3 rfl rfl rfl rfl rfl (by repeat (first | exact Upd.here | apply Upd.there)) (by rw [cl_len]; omega) (put_cell (redoH x.disk (x.log.take k).reverse).1 r.page r.cell r.new hp hc))) (fun _ => sub_refl _) (fun _ => ?_)
 refine WDm.nil (WQ.and ?_)
 refine WQ.next ?_
 refine sR ?_
 refine pP (Y.fieldAddr fa_34_3 rfl) rfl ?_
 refine pV (Y.load fl_3 rfl m0 rfl) rfl ?_
 refine pM rfl rfl ?_
 refine pP (Y.add rfl rfl (i64_in (by omega) (by omega))) rfl ?_
 refine pP (Y.ixArr Try.underlying42 Try.sizeOf24 rfl rfl hp.1 (by omega)) rfl ?_
 refine pP (Y.fieldAddr fa_24_1 rfl) rfl ?_
 refine WL.eff (E.storeP Try.sizeOf3 rfl rfl rfl rfl rfl (by repeat (first | exact Upd.here | apply Upd.there)) (by rw [cl_len]; omega) ((put_last _ _ _ hp).trans (congrArg P3.cl (set_set _ _ _ _ _)))) rfl (fun _ => ?_)
 refine nN ?_
 refine WC.region ?_
 refine pM rfl rfl ?_
 refine pP (Y.add rfl rfl (i64_in (by omega) (by omega))) rfl ?_
 refine pA rfl rfl ?_
 refine WL.nil ?_
 refine WQ.blockEnd ?_
 refine WQ.next ?_
 refine WC.region ?_
 refine pM rfl rfl ?_
 refine pP (Y.add rfl rfl (i64_in (by omega) (by omega))) rfl ?_
 refine pA rfl rfl ?_
 refine WL.nil ?_
 · have e : (redoH x.disk (x.log.take (k + 1)).reverse) = (((redoH x.disk (x.log.take k).reverse).1.set r.page (((redoH x.disk (x.log.take k).reverse).1.get r.page).put r.cell r.new ((k : Int) + 1))), (redoH x.disk (x.log.take k).reverse).2 + 1) := by
     rw [takeS hk', redoH]
     rw [if_pos ⟨h39, by rw [hlk]; have h9 := h48; simp at h9; omega⟩, hlk]
     try rfl
   refine fun a w s => ⟨k + 1, by omega, by omega, ?_⟩
   rw [e]
   exact (s.sub (Hsub.of_sub (List.sublist_cons_self _ _))).weak (by repeat (first | exact sub_nil _ | refine sub_cons rfl ?_))
 refine WC.skip' ?_
 refine WQ.blockEnd ?_
 refine WQ.next ?_
 refine WC.region ?_
 refine pM rfl rfl ?_
 refine pP (Y.add rfl rfl (i64_in (by omega) (by omega))) rfl ?_
 refine pA rfl rfl ?_
 refine WL.nil ?_
 · have e : (redoH x.disk (x.log.take (k + 1)).reverse) = (redoH x.disk (x.log.take k).reverse) := by
     rw [takeS hk', redoH]
     rw [if_neg (fun hh => by have h9 := h48; have h8 := hh.2; rw [hlk] at h8; simp at h9; omega)]
     try rfl
   refine fun a w s => ⟨k + 1, by omega, by omega, ?_⟩
   rw [e]
   exact (s.sub (Hsub.of_sub (List.sublist_cons_self _ _))).weak (by repeat (first | exact sub_nil _ | refine sub_cons rfl ?_))
 refine WC.exit ?_
 refine WQ.thenExit ?_
 refine WQ.thenExit ?_
 refine WQ.blockExit ?_
 refine WQ.next ?_
 refine sR ?_
 refine pV (Y.loadA wd_42 rfl m0 rfl) rfl ?_
 refine pM rfl rfl ?_
 refine WL.eff (E.store Try.sizeOf42 rfl rfl rfl rfl rfl u1 rfl rfl) rfl (fun _ => ?_)
 refine pA rfl rfl ?_
 refine pA rfl rfl ?_
 refine nN ?_
 refine WC.ret ?_
 refine WQ.done Try.results100 (RVs.cons (RV.cell wd_42 rfl m1 rfl) (RVs.cons (RV.tmp rfl) (RVs.cons (RV.tmp rfl) RVs.nil))) (fun a w s => ?_)
 · have e : redoOf x = ((redoH x.disk x.h).1, (((redoH x.disk x.h).2 : Nat) : Int), 0) := by unfold redoOf; rw [if_pos h0, if_pos hsl]
   refine ⟨?_, s.low⟩
   rw [e, List.take_of_length_le (by simp at h29; omega)]
   rfl

def lostB (h : List R) (t : Int) : Bool := stt h t == 1 || stt h t == 3
theorem lost_all (h : List R) : selT (lostB h) 9 = losersH h := rfl

theorem w_refLosers (l : List R) (A : Option Addr) (b o c : Nat) (w : World) (hl : l.length ≤ 60) (hr : RL w A b o l) : Calls Try.prog 148 [.slice A l.length c].toArray w fun e w' => ∃ i : Option Addr × Nat, e = .returned (.slice i.1 (losersH l.reverse).length i.2) ∧ Below w.heap.size w w' ∧ w'.ownsRow w.heap.size 3 1 (.slice i.1 (losersH l.reverse).length i.2) (losersH l.reverse).length (ints (losersH l.reverse)) := by
 refine enter Try.func148 rfl Try.ntmps148 rfl SF.top trivial ?_
 refine sR ?_
 refine pA rfl rfl ?_
 refine nN ?_
 refine sR ?_
 refine pA rfl rfl ?_
 refine nN ?_
 refine WC.seq ?_
 refine sR ?_
 refine pA rfl rfl ?_
 refine nN ?_
 refine WC.block ?_
 refine WC.le (nil_sep w.heap.size 3 1 _) ?_
 refine WC.loop (ι := Nat × Option Addr × Nat) (fun k => [(0, .slice A l.length c), (3, .slice k.2.1 (selT (lostB l.reverse) k.1).length k.2.2), (4, .int .i64 ((k.1 : Int) + 1))]) (fun _ => []) (fun k => (SF.own w.heap.size 3 1 (.slice k.2.1 (selT (lostB l.reverse) k.1).length k.2.2) (selT (lostB l.reverse) k.1).length (ints (selT (lostB l.reverse) k.1))).sep SF.top) (fun k => k.1 ≤ 9) (fun k => 9 - k.1) (0, none, 0) (Nat.zero_le _) (fun a w s => s.weak (by repeat (first | exact sub_nil _ | refine sub_cons rfl ?_))) (fun k hk => ?_)
 obtain ⟨m, q⟩ := k
 dsimp only at hk ⊢
 refine WC.seq ?_
 refine sR ?_
 refine pM rfl rfl ?_
 refine pP (Y.leq rfl rfl) rfl ?_
 refine nN ?_
 refine WC.cond rfl (fun h7 => ?_) (fun h7 => ?_)
 refine WC.skip' ?_
 refine WQ.next ?_
 refine WC.seq ?_
 refine WC.block ?_
 refine WC.seq ?_
 have hm8 : m < 9 := by simp at h7; omega
 have hsl := selT_len (lostB l.reverse) m
 obtain ⟨i0, hi0, hz0, hz1, hz2⟩ := info_parts int_info
 refine WC.region ?_
 refine pM rfl rfl ?_
 refine pM rfl rfl ?_
 refine WL.eff (E.call Try.call125 rfl (fun _ w s => w_state l A b o c ((m : Int) + 1) w hl (hr.below s.low)) rfl) rfl (fun _ => ?_)
 refine pA rfl rfl ?_
 refine nN ?_
 refine sR ?_
 refine pM rfl rfl ?_
 refine pP (Y.eql rfl rfl) rfl ?_
 refine pM rfl rfl ?_
 refine WL.split (t := 15) rfl (fun r h15 => ?_)
 cases r
 refine gT rfl ?_
 refine pM rfl rfl ?_
 refine gT rfl ?_
 refine pP (Y.eql rfl rfl) rfl ?_
 refine pP (Y.pickF rfl rfl) rfl ?_
 refine nN ?_
 refine WC.cond rfl (fun h18 => ?_) (fun h18 => ?_)
 refine WC.region ?_
 refine pM rfl rfl ?_
 refine pM rfl rfl ?_
 refine WL.eff (E.buildSlice (bs_64_1 _) rfl rfl) rfl (fun b1 => ?_)
 refine WL.eff (E.appendG Try.underlying64 hi0 hz0 hz1 hz2 rfl (by decide) rfl rfl rfl m0 rfl rfl (by unfold maxLen; omega) (by omega) rfl) rfl (fun i => ?_)
 refine pA rfl rfl ?_
 refine WL.nil ?_
 refine WQ.blockEnd ?_
 refine WQ.next ?_
 refine WC.region ?_
 refine pM rfl rfl ?_
 refine pP (Y.add rfl rfl (i64_in (by omega) (by omega))) rfl ?_
 refine pA rfl rfl ?_
 refine WL.nil ?_
 · have hf : lostB l.reverse ((m : Int) + 1) = true := by
     unfold lostB
     first
       | (have h15 := h15; have h18 := h18; simp at h15 h18 ⊢; omega)
       | (have h15 := h15; simp at h15 ⊢; omega)
   have e1 : (selT (lostB l.reverse) (m + 1)).length = (selT (lostB l.reverse) m).length + 1 := by rw [selT_in hf]; simp
   have e2 : ints (selT (lostB l.reverse) (m + 1)) = ints (selT (lostB l.reverse) m) ++ [.int .i64 ((m : Int) + 1)] := by rw [selT_in hf]; simp [ints]
   refine fun a w s => ⟨(m + 1, i), by simp; omega, by simp; omega, ?_⟩
   dsimp only
   rw [e1, e2]
   exact (s.sub (Hsub.of_sub (List.sublist_cons_self _ _))).weak (by repeat (first | exact sub_nil _ | refine sub_cons rfl ?_))
 refine WC.skip' ?_
 refine WQ.blockEnd ?_
 refine WQ.next ?_
 refine WC.region ?_
 refine pM rfl rfl ?_
 refine pP (Y.add rfl rfl (i64_in (by omega) (by omega))) rfl ?_
 refine pA rfl rfl ?_
 refine WL.nil ?_
 · have hf : lostB l.reverse ((m : Int) + 1) = false := by
     have h15 := h15
     have h18 := h18
     unfold lostB
     simp at h15 h18 ⊢
     omega
   refine fun a w s => ⟨(m + 1, q), by simp; omega, by simp; omega, ?_⟩
   dsimp only
   rw [selT_out hf]
   exact s.weak (by repeat (first | exact sub_nil _ | refine sub_cons rfl ?_))
 refine gF rfl ?_
 refine gF rfl ?_
 refine pP (Y.pickT rfl rfl) rfl ?_
 refine nN ?_
 refine WC.condT rfl ?_
 refine WC.region ?_
 refine pM rfl rfl ?_
 refine pM rfl rfl ?_
 refine WL.eff (E.buildSlice (bs_64_1 _) rfl rfl) rfl (fun b2 => ?_)
 refine WL.eff (E.appendG Try.underlying64 hi0 hz0 hz1 hz2 rfl (by decide) rfl rfl rfl m0 rfl rfl (by unfold maxLen; omega) (by omega) rfl) rfl (fun i => ?_)
 refine pA rfl rfl ?_
 refine WL.nil ?_
 refine WQ.blockEnd ?_
 refine WQ.next ?_
 refine WC.region ?_
 refine pM rfl rfl ?_
 refine pP (Y.add rfl rfl (i64_in (by omega) (by omega))) rfl ?_
 refine pA rfl rfl ?_
 refine WL.nil ?_
 · have hf : lostB l.reverse ((m : Int) + 1) = true := by
     unfold lostB
     first
       | (have h15 := h15; have h18 := h18; simp at h15 h18 ⊢; omega)
       | (have h15 := h15; simp at h15 ⊢; omega)
   have e1 : (selT (lostB l.reverse) (m + 1)).length = (selT (lostB l.reverse) m).length + 1 := by rw [selT_in hf]; simp
   have e2 : ints (selT (lostB l.reverse) (m + 1)) = ints (selT (lostB l.reverse) m) ++ [.int .i64 ((m : Int) + 1)] := by rw [selT_in hf]; simp [ints]
   refine fun a w s => ⟨(m + 1, i), by simp; omega, by simp; omega, ?_⟩
   dsimp only
   rw [e1, e2]
   exact (s.sub (Hsub.of_sub (List.sublist_cons_self _ _))).weak (by repeat (first | exact sub_nil _ | refine sub_cons rfl ?_))
 refine WC.exit ?_
 refine WQ.thenExit ?_
 refine WQ.thenExit ?_
 refine WQ.blockExit ?_
 refine WQ.next ?_
 refine sR ?_
 refine pM rfl rfl ?_
 refine pA rfl rfl ?_
 refine nN ?_
 refine WC.ret ?_
 refine dn1 Try.results148 rfl (fun a w s => ?_)
 · have hm9 : m = 9 := by simp at h7; omega
   subst hm9
   exact ⟨q, rfl, s.low, s.fact.1⟩

theorem w_losersOf (l : List R) (A : Option Addr) (b o c : Nat) (w : World) (hm : l.length ≤ maxLen) (hcap : l.length ≤ c) (hr : RL w A b o l) : Calls Try.prog 97 [.slice A l.length c].toArray w fun e w' => ∃ i : Option Addr × Nat, e = .returned (.tuple #[.slice i.1 (losersOf l).length i.2, .int .i64 (logErr l)]) ∧ Below w.heap.size w w' ∧ w'.ownsRow w.heap.size 3 1 (.slice i.1 (losersOf l).length i.2) (losersOf l).length (ints (losersOf l)) := by
 refine enter Try.func97 rfl Try.ntmps97 rfl SF.top trivial ?_
 refine sR ?_
 refine pA rfl rfl ?_
 refine pA rfl rfl ?_
 refine nN ?_
 refine WC.seq ?_
 refine sR ?_
 refine pM rfl rfl ?_
 refine WL.eff (E.call Try.call55 rfl (fun _ w s => w_logError l A b o c w hm hcap (hr.below s.low)) rfl) rfl (fun _ => ?_)
 refine pA rfl rfl ?_
 refine nN ?_
 refine sR ?_
 refine pM rfl rfl ?_
 refine pP (Y.neq rfl rfl) rfl ?_
 refine nN ?_
 refine WC.cond rfl (fun h8 => ?_) (fun h8 => ?_)
 refine sR ?_
 refine pM rfl rfl ?_
 refine pA rfl rfl ?_
 refine pA rfl rfl ?_
 refine nN ?_
 refine WC.ret ?_
 refine WQ.thenRet ?_
 refine WQ.done Try.results97 (RVs.cons (RV.tmp rfl) (RVs.cons (RV.tmp rfl) RVs.nil)) (fun a w s => ?_)
 · have e : losersOf l = [] := by unfold losersOf; rw [if_neg (by simpa using h8)]
   rw [e]
   exact ⟨(none, 0), rfl, s.low, own_nil _ _ _ _⟩
 refine WC.skip' ?_
 refine WQ.next ?_
 refine WC.seq ?_
 have h0 : logErr l = 0 := by simpa using h8
 have h60 := (log_right h0).1
 refine WC.region ?_
 refine pM rfl rfl ?_
 refine WL.eff (E.callF (fun i : Option Addr × Nat => .slice i.1 (losersH l.reverse).length i.2) (fun i => SF.own w.heap.size 3 1 (.slice i.1 (losersH l.reverse).length i.2) (losersH l.reverse).length (ints (losersH l.reverse))) Try.call148 rfl (fun _ w s => (w_refLosers l A b o c w h60 (hr.below s.low)).mono fun e w' ⟨i, he, hb, ho⟩ => ⟨i, he, hb, ownsRow_le ho s.low.size, fun g hg => .inl (ho.lt g hg).1⟩) rfl) rfl (fun i => ?_)
 refine pA rfl rfl ?_
 refine pA rfl rfl ?_
 refine nN ?_
 refine WC.ret ?_
 refine WQ.done Try.results97 (RVs.cons (RV.tmp rfl) (RVs.cons (RV.tmp rfl) RVs.nil)) (fun a w s => ?_)
 · have e : losersOf l = losersH l.reverse := by unfold losersOf; rw [if_pos h0]
   rw [e, h0]
   exact ⟨i, rfl, s.low, s.fact.2⟩
end Go.Proofs.Ytdbcimadjmdffaa
