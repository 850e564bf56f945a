/- Scan: Crash and Redo, LosersOf and RedoOf. No condition. -/
import Derived.Test.YtdbcimadjmdffaaCb
import Derived.Test.YtdbcimadjmdffaaCm
import Derived.Test.YtdbcimadjmdffaaWl
set_option maxRecDepth 100000
set_option linter.unusedVariables false
set_option linter.unusedSimpArgs false
set_option linter.unusedSectionVars false
set_option maxHeartbeats 4000000
namespace Go.Proofs.Ytdbcimadjmdffaa
open Go.RowKit Go.Joins
theorem Y.slNil {P : Program} {E : Env} {n : Nat} [Inhabited DSx] {d : Option Nat} {x y : Operand} {T T' T2 e : TypeId} {p : String} {af : Array Edge} {A : Option Addr} {k c : Nat} (hu : P.underlying T = some (.slice e)) (hx : ev E x = some (.slice A k c)) (hy : ev E y = some (.slice none 0 0)) :
    Yp P E n ⟨d, .binOp .eql T x y T2, T', p, af, none⟩ (.bool A.isNone) := fun a w s => by
  have he : (Op.equalIn (9999 + 1) T (.slice A k c) (.slice none 0 0)).run P w = .ok A.isNone w := by
    rw [Op.equalIn]
    cases A <;> simp [run_underlying hu]
  have he2 : (Op.equalIn 10000 T (.slice A k c) (.slice none 0 0)).run P w = .ok A.isNone w := he
  simp [execOp, s.eval hx, s.eval hy, eqGuard, binOp, Op.equal, Op.maxDepth, he2]
theorem ext_le {l : List R} {w : World} {A : Option Addr} {b o : Nat} (hr : RL w A b o l) (h : A = none) : l = [] := by
  cases l with
  | nil => rfl
  | cons r l => have := (hr.at_ (by simp)).1; rw [h] at this; cases this

theorem w_clone (l : List R) (A : Option Addr) (b o c : Nat) (w : World) (hl : l.length ≤ 1000000) (hr : RL w A b o l) : Calls Try.prog 146 [.slice A l.length c].toArray w fun e w' => ∃ i : Option Addr × Nat, e = .returned (.slice i.1 l.length i.2) ∧ Below w.heap.size w w' ∧ w'.ownsRow w.heap.size 34 8 (.slice i.1 l.length i.2) l.length (flat l) := by
 refine enter Try.func146 rfl Try.ntmps146 rfl SF.top trivial ?_
 refine sR ?_
 refine pA rfl rfl ?_
 refine nN ?_
 refine WC.seq ?_
 refine sR ?_
 refine pM rfl rfl ?_
 refine pP (Y.slNil Try.underlying39 rfl rfl) rfl ?_
 refine nN ?_
 refine WC.cond rfl (fun h4 => ?_) (fun h4 => ?_)
 refine sR ?_
 refine pA rfl rfl ?_
 refine nN ?_
 refine WC.ret ?_
 refine WQ.thenRet ?_
 refine dn1 Try.results146 rfl (fun a w s => ?_)
 · have hl : l = [] := ext_le hr (by simpa using h4)
   subst hl
   exact ⟨(none, 0), rfl, s.low, own_nil _ _ _ _⟩
 refine WC.skip' ?_
 refine WQ.next ?_
 refine sR ?_
 refine WL.eff (E.buildSlice (bs_39_0 ) rfl rfl) rfl (fun b1 => ?_)
 refine WL.toOwn 0 0 8 [] rfl (Nat.le_refl _) (Nat.zero_le _) rfl rfl ?_
 refine pM rfl rfl ?_
 refine WL.eff (E.appendRL (l := l) rfl rfl rfl (fun w hw => hr.below hw.2.2.2) (by omega) rfl) rfl (fun i => ?_)
 rw [show 0 + l.length = l.length from Nat.zero_add _, List.nil_append]
 refine pA rfl rfl ?_
 refine nN ?_
 refine WC.ret ?_
 refine dn1 Try.results146 rfl (fun a w s => ?_)
 · exact ⟨i, rfl, s.low, s.fact.1⟩

section
variable [Inhabited DSx] {E : Env} {n : Nat} {H : Hp} {F : SF} {u : World}
theorem E.clone {f : FuncId} {args : Array Operand} {ts : Array TypeId} {d : Nat} {T' : TypeId} {p : String} {af : Array Edge} {A : Option Addr} {b o c : Nat} (l : List R) (hf : f = 146) (hx : evs E args.toList = some [.slice A l.length c]) (hl : l.length ≤ 1000000) (hr : ∀ a w, St E n H F u a w → RL w A b o l) (hn : Nat.blt d n = true) :
    Eff Try.prog E n H F u ⟨some d, .call { callee := .value (.func f), args := args, argTypes := ts }, T', p, af, none⟩ (fun i : Option Addr × Nat => (d, .slice i.1 l.length i.2) :: E) (fun _ => H) (fun i => (SF.own u.heap.size 34 8 (.slice i.1 l.length i.2) l.length (flat l)).sep F) := by
  subst hf
  exact Proofs.Ytdbcimadjmdffaa.E.callN _ _ Try.call146 hx (fun a w s => (w_clone l A b o c w hl (hr a w s)).mono fun e w' ⟨i, he, hb, ho⟩ => ⟨i, he, hb, ownsRow_le ho s.low.size, fun g hg => (ho.lt g hg).1⟩) hn
end

theorem w_scanCrash (x : Wd) (A : Option Addr) (b o c : Nat) (w : World) (hm : x.log.length ≤ maxLen) (hcap : x.log.length ≤ c) (hr : RL w A b o x.log) : RetW Try.prog 94 [x.val A c] w (crashOf x).1 [.int .i64 (crashOf x).2] := by
 refine enter Try.func94 rfl Try.ntmps94 rfl SF.top trivial ?_
 refine sR ?_
 refine WL.eff (E.box rfl rfl rfl) rfl (fun b1 => ?_)
 refine WL.eff (E.alloc Try.zeroValue54 rfl rfl) rfl (fun b2 => ?_)
 refine pA rfl rfl ?_
 refine nN ?_
 refine WC.seq ?_
 refine sR ?_
 refine pV (Y.loadAN wd_54 rfl (by repeat (first | exact List.Mem.head _ | apply List.Mem.tail)) (r := (x).cl A c) rfl) rfl ?_
 refine WL.eff (E.call Try.call77 rfl (fun _ w s => w_worldCheck x A b o c w hm hcap (hr.below s.low)) rfl) rfl (fun _ => ?_)
 refine pA rfl rfl ?_
 refine nN ?_
 refine sR ?_
 refine pM rfl rfl ?_
 refine pP (Y.neq rfl rfl) rfl ?_
 refine nN ?_
 refine WC.cond rfl (fun h8 => ?_) (fun h8 => ?_)
 refine sR ?_
 refine pP (Y.build rfl (bf_54 )) rfl ?_
 refine pM rfl rfl ?_
 refine WL.eff (E.store Try.sizeOf54 rfl rfl rfl rfl rfl u0 rfl rfl) rfl (fun _ => ?_)
 refine pA rfl rfl ?_
 refine nN ?_
 refine WC.ret ?_
 refine WQ.thenRet ?_
 refine WQ.done Try.results94 (RVs.cons (RV.cell wd_54 rfl m0 rfl) (RVs.cons (RV.tmp rfl) RVs.nil)) (fun a w s => ?_)
 · have e : crashOf x = (Wd.zero, worldErr x) := by
     unfold crashOf; rw [if_neg (by simpa using h8)]
   rw [e]
   exact ⟨(none, 0), rfl, s.low, own_nil _ _ _ _⟩
 refine WC.skip' ?_
 refine WQ.next ?_
 refine WC.seq ?_
 have h0 : worldErr x = 0 := by simpa using h8
 obtain ⟨hl0, h60, hR, hsf, _⟩ := world_right h0
 refine WC.region ?_
 refine pP (Y.fieldAddr fa_54_1 rfl) rfl ?_
 refine pV (Y.load (cs := (x).cl A c) (v := .slice A (x).log.length c) fl_39 rfl (by repeat (first | exact List.Mem.head _ | apply List.Mem.tail)) rfl) rfl ?_
 refine pP (Y.fieldAddr fa_54_2 rfl) rfl ?_
 refine pV (Y.load (cs := (x).cl A c) (v := .int .i64 x.safe) fl_3 rfl (by repeat (first | exact List.Mem.head _ | apply List.Mem.tail)) rfl) rfl ?_
 refine pP (Y.slToN (x.log.take x.safe.toNat).length (take_cast hsf) Try.underlying39 Try.sizeOf34 rfl rfl (by simp; omega)) rfl ?_
 refine WL.eff (E.clone (b := b) (o := o) (x.log.take x.safe.toNat) rfl rfl (by simp; omega) (fun a w s => (hr.below s.low).take _) rfl) rfl (fun i => ?_)
 refine pP (Y.fieldAddr fa_54_1 rfl) rfl ?_
 refine WL.eff (E.store Try.sizeOf39 rfl rfl rfl rfl rfl u1 rfl rfl) rfl (fun _ => ?_)
 refine nN ?_
 refine sR ?_
 refine pV (Y.loadAN wd_54 rfl m1 (r := x.cut.cl i.1 i.2) rfl) rfl ?_
 refine WL.eff (E.store Try.sizeOf54 rfl rfl rfl rfl rfl u0 rfl rfl) rfl (fun _ => ?_)
 refine pA rfl rfl ?_
 refine nN ?_
 refine WC.ret ?_
 refine WQ.done Try.results94 (RVs.cons (RV.cell wd_54 rfl m0 rfl) (RVs.cons (RV.tmp rfl) RVs.nil)) (fun a w s => ?_)
 · have e : crashOf x = (x.cut, 0) := by unfold crashOf; rw [if_pos h0]
   rw [e]
   exact ⟨i, rfl, s.low, s.fact.1⟩

theorem p3_pg (p : P3) (i : Int) (hi : 0 ≤ i ∧ i ≤ 2) : seg p.cl (0 + i.toNat * 4) 4 = some (p.get i).cl := by
  have h1 : i = 0 ∨ i = 1 ∨ i = 2 := by omega
  rcases h1 with rfl | rfl | rfl <;> rfl
theorem p3_put (p : P3) (i : Int) (q : Pg) (hi : 0 ≤ i ∧ i ≤ 2) : put p.cl (0 + i.toNat * 4) q.cl = (p.set i q).cl := by
  have h1 : i = 0 ∨ i = 1 ∨ i = 2 := by omega
  rcases h1 with rfl | rfl | rfl <;> rfl
theorem p3_last (p : P3) (i : Int) (hi : 0 ≤ i ∧ i ≤ 2) : nth p.cl (0 + i.toNat * 4 + 3) = some (.int .i64 (p.get i).last) := by
  have h1 : i = 0 ∨ i = 1 ∨ i = 2 := by omega
  rcases h1 with rfl | rfl | rfl <;> rfl
theorem p3_okOf {p : P3} (h : ∀ i, 0 ≤ i ∧ i ≤ 2 → (p.get i).ok = true) : p.ok = true := by
  simp only [P3.ok, Bool.and_eq_true]
  exact ⟨h 0 (by omega), h 1 (by omega), h 2 (by omega)⟩
theorem disk_pok {x : Wd} (hw : worldErr x = 0) : x.disk.ok = true := p3_okOf fun i hi => by
  have h := (diskOk_iff.1 (disk_ok hw hi)).2
  rw [← h]
  refine P3.ok_get (Right.pok ?_) i
  exact (log_right (take_right (world_right hw).1 _)).2
theorem redo_pok {q : P3} (hq : q.ok = true) : ∀ {h : List R}, Right h → h.length ≤ 60 → (redoH q h).1.ok = true
  | [], _, _ => hq
  | r :: h, hr, hl => by
    obtain ⟨h1, h2, _⟩ := hr.parts
    simp only [List.length_cons] at hl
    have ih := redo_pok hq h1 (by omega)
    have hb := rec_bounds h2
    unfold redoH
    split
    · rename_i ht
      have := hb.2.2.2.2.2.2.2.2.1 ht.1
      exact P3.ok_set ih _ (Pg.ok_put (P3.ok_get ih _) this.2.2.2 (by omega))
    · exact ih
theorem redo_len (q : P3) : ∀ h : List R, (redoH q h).2 ≤ h.length
  | [] => Nat.le_refl _
  | r :: h => by
    have ih := redo_len q h
    unfold redoH
    split
    · simp; omega
    · simp; omega

theorem w_scanRedo (x : Wd) (A : Option Addr) (b o c : Nat) (w : World) (hm : x.log.length ≤ maxLen) (hcap : x.log.length ≤ c) (hr : RL w A b o x.log) : Ret Try.prog 99 [x.val A c] w (.tuple #[(redoOf x).1.val, .int .i64 (redoOf x).2.1, .int .i64 (redoOf x).2.2]) := by
 refine enter Try.func99 rfl Try.ntmps99 rfl SF.top trivial ?_
 refine sR ?_
 refine WL.eff (E.box rfl rfl rfl) rfl (fun b1 => ?_)
 refine WL.eff (E.alloc Try.zeroValue42 rfl rfl) rfl (fun b2 => ?_)
 refine pA rfl rfl ?_
 refine pA rfl rfl ?_
 refine nN ?_
 refine WC.seq ?_
 refine sR ?_
 refine pV (Y.loadAN wd_54 rfl (by repeat (first | exact List.Mem.head _ | apply List.Mem.tail)) (r := (x).cl A c) rfl) rfl ?_
 refine WL.eff (E.call Try.call77 rfl (fun _ w s => w_worldCheck x A b o c w hm hcap (hr.below s.low)) rfl) rfl (fun _ => ?_)
 refine pA rfl rfl ?_
 refine nN ?_
 refine sR ?_
 refine pM rfl rfl ?_
 refine pP (Y.neq rfl rfl) rfl ?_
 refine nN ?_
 refine WC.cond rfl (fun h13 => ?_) (fun h13 => ?_)
 refine sR ?_
 refine pP (Y.build rfl (bf_42 )) rfl ?_
 refine pM rfl rfl ?_
 refine WL.eff (E.store Try.sizeOf42 rfl rfl rfl rfl rfl u0 rfl rfl) rfl (fun _ => ?_)
 refine pA rfl rfl ?_
 refine pA rfl rfl ?_
 refine nN ?_
 refine WC.ret ?_
 refine WQ.thenRet ?_
 refine WQ.done Try.results99 (RVs.cons (RV.cell wd_42 rfl m0 rfl) (RVs.cons (RV.tmp rfl) (RVs.cons (RV.tmp rfl) RVs.nil))) (fun a w s => ?_)
 · have e : redoOf x = (P3.zero, 0, worldErr x) := by unfold redoOf; rw [if_neg (by simpa using h13)]
   rw [e]
   exact ⟨rfl, s.low⟩
 refine WC.skip' ?_
 refine WQ.next ?_
 refine WC.seq ?_
 refine WC.seq ?_
 have h0 : worldErr x = 0 := by simpa using h13
 obtain ⟨hl0, h60, hR, hsf, _⟩ := world_right h0
 refine WC.region ?_
 refine pP (Y.fieldAddr fa_54_2 rfl) rfl ?_
 refine pV (Y.load (cs := (x).cl A c) (v := .int .i64 x.safe) fl_3 rfl (by repeat (first | exact List.Mem.head _ | apply List.Mem.tail)) rfl) rfl ?_
 refine pP (Y.fieldAddr fa_54_1 rfl) rfl ?_
 refine pV (Y.load (cs := (x).cl A c) (v := .slice A (x).log.length c) fl_39 rfl (by repeat (first | exact List.Mem.head _ | apply List.Mem.tail)) rfl) rfl ?_
 refine pP (Y.len Try.underlying39 rfl) rfl ?_
 refine pP (Y.neq rfl rfl) rfl ?_
 refine nN ?_
 refine WC.cond rfl (fun h21 => ?_) (fun h21 => ?_)
 refine sR ?_
 refine pP (Y.build rfl (bf_42 )) rfl ?_
 refine WL.eff (E.store Try.sizeOf42 rfl rfl rfl rfl rfl u0 rfl rfl) rfl (fun _ => ?_)
 refine pA rfl rfl ?_
 refine pA rfl rfl ?_
 refine nN ?_
 refine WC.ret ?_
 refine WQ.thenRet ?_
 refine WQ.done Try.results99 (RVs.cons (RV.cell wd_42 rfl m0 rfl) (RVs.cons (RV.tmp rfl) (RVs.cons (RV.tmp rfl) RVs.nil))) (fun a w s => ?_)
 · have e : redoOf x = (P3.zero, 0, 1) := by unfold redoOf; rw [if_pos h0, if_neg (by simpa using h21)]
   rw [e]
   exact ⟨rfl, s.low⟩
 refine WC.skip' ?_
 refine WQ.next ?_
 refine WC.seq ?_
 have hsl : x.safe = (x.log.length : Int) := by simpa using h21
 have hdk := disk_pok h0
 refine WC.region ?_
 refine pP (Y.fieldAddr fa_54_0 rfl) rfl ?_
 refine pV (Y.loadAN (cs := (x).cl A c) wd_42 rfl (by repeat (first | exact List.Mem.head _ | apply List.Mem.tail)) (r := (x).disk.cl) rfl) rfl ?_
 refine WL.eff (E.alloc Try.zeroValue42 rfl rfl) rfl (fun b3 => ?_)
 refine WL.eff (E.store Try.sizeOf42 rfl rfl rfl rfl rfl u0 rfl rfl) rfl (fun _ => ?_)
 refine pA rfl rfl ?_
 refine nN ?_
 refine WC.seq ?_
 refine sR ?_
 refine pP (Y.fieldAddr fa_54_1 rfl) rfl ?_
 refine pV (Y.load (cs := (x).cl A c) (v := .slice A (x).log.length c) fl_39 rfl (by repeat (first | exact List.Mem.head _ | apply List.Mem.tail)) rfl) rfl ?_
 refine pP (Y.len Try.underlying39 rfl) rfl ?_
 refine pM rfl rfl ?_
 refine nN ?_
 refine WC.block ?_
 refine WC.loop (ι := Nat) (fun k => [(1, .pointer (some ⟨b1, 0, none⟩)), (2, .pointer (some ⟨b2, 0, none⟩)), (6, .pointer (some ⟨b3, 0, none⟩)), (7, .int .i64 ((redoH x.disk (x.log.take k).reverse).2 : Nat)), (26, .slice A x.log.length c), (27, .int .i64 x.log.length), (28, .int .i64 k)]) (fun k => [(b3, (redoH x.disk (x.log.take k).reverse).1.cl, 42), (b2, P3.zero.cl, 42), (b1, x.cl A c, 54)]) (fun _ => SF.top) (fun k => k ≤ x.log.length) (fun k => x.log.length - k) 0 (Nat.zero_le _) (fun a w s => s.weak (by repeat (first | exact sub_nil _ | refine sub_cons rfl ?_))) (fun k hk => ?_)
 refine sR ?_
 refine pP (Y.lss rfl rfl) rfl ?_
 refine nN ?_
 refine WC.seq ?_
 refine WC.cond rfl (fun h29 => ?_) (fun h29 => ?_)
 refine WC.skip' ?_
 refine WQ.next ?_
 refine WC.seq ?_
 refine WC.block ?_
 refine WC.seq ?_
 have hkl : k < x.log.length := by simp at h29; omega
 obtain ⟨r, hk'⟩ := get_of_lt (l := x.log) (k := k) hkl
 have hAx := hr.addr hk'
 have hmr : r ∈ x.h := by unfold Wd.h; exact List.mem_reverse.2 (List.mem_of_getElem? hk')
 have hRk : Right (x.log.take (k + 1)).reverse := (log_right (take_right hl0 (k + 1))).2
 rw [takeS hk'] at hRk
 obtain ⟨hR1, hrc, _⟩ := hRk.parts
 have hrb := rec_bounds hrc
 have hlk : (x.log.take k).reverse.length = k := by simp; omega
 have hpk := redo_pok hdk hR1 (by rw [hlk]; omega)
 have hcn := redo_len x.disk (x.log.take k).reverse
 rw [hlk] at hcn
 refine WC.region ?_
 refine pM rfl rfl ?_
 refine pP (Y.ixSlA (A := A) (b := b) (o := o) Try.underlying39 Try.sizeOf34 rfl rfl hAx (nat0 _) (get_ltI hk')) rfl ?_
 refine pV (Y.loadAc wd_34 rfl (r := r.cl) rfl (fun a w s j hj => (hr.below s.low).full (i := k) hk' j hj)) rfl ?_
 refine WL.eff (E.alloc Try.zeroValue34 rfl rfl) rfl (fun b4 => ?_)
 refine pA rfl rfl ?_
 refine WL.eff (E.store Try.sizeOf34 rfl rfl rfl rfl rfl u0 rfl rfl) rfl (fun _ => ?_)
 refine nN ?_
 refine sR ?_
 refine pV (Y.loadA wd_34 rfl m0 rfl) rfl ?_
 refine WL.eff (E.call Try.call51 rfl (fun _ w s => w_turns r w) rfl) rfl (fun _ => ?_)
 refine pM rfl rfl ?_
 refine WL.split (t := 35) rfl (fun r h35 => ?_)
 cases r
 refine gF rfl ?_
 refine gF rfl ?_
 refine gF rfl ?_
 refine gF rfl ?_
 refine gF rfl ?_
 refine gF rfl ?_
 refine gF rfl ?_
 refine pP (Y.pickF rfl rfl) rfl ?_
 refine nN ?_
 refine WC.condF rfl ?_
 refine WC.skip' ?_
 refine WQ.blockEnd ?_
 refine WQ.next ?_
 refine WC.region ?_
 refine pP (Y.add rfl rfl (i64_in (by omega) (by omega))) rfl ?_
 refine pM rfl rfl ?_
 refine WL.nil ?_
 · have e : (redoH x.disk (x.log.take (k + 1)).reverse) = (redoH x.disk (x.log.take k).reverse) := by
     rw [takeS hk', redoH]
     rw [if_neg (fun hh => by have h9 := h35; rw [hh.1] at h9; cases h9)]
     try rfl
   refine fun a w s => ⟨k + 1, by omega, by omega, ?_⟩
   rw [e]
   exact (s.sub (Hsub.of_sub (List.sublist_cons_self _ _))).weak (by repeat (first | exact sub_nil _ | refine sub_cons rfl ?_))
 obtain ⟨hp, hc, ho, hv⟩ := hrb.2.2.2.2.2.2.2.2.1 h35
 refine gT rfl ?_
 refine pP (Y.fieldAddr fa_34_3 rfl) rfl ?_
 refine gT rfl ?_
 refine pV (Y.load fl_3 rfl m0 rfl) rfl ?_
 refine gT rfl ?_
 refine pP (Y.ixArr Try.underlying42 Try.sizeOf24 rfl rfl hp.1 (by omega)) rfl ?_
 refine gT rfl ?_
 refine pP (Y.fieldAddr fa_24_1 rfl) rfl ?_
 refine gT rfl ?_
 refine pV (Y.loadN (cs := (redoH x.disk (x.log.take k).reverse).1.cl) fl_3 rfl (by repeat (first | exact List.Mem.head _ | apply List.Mem.tail)) (p3_last _ _ hp)) rfl ?_
 refine gT rfl ?_
 refine pM rfl rfl ?_
 refine gT rfl ?_
 refine pP (Y.leq rfl rfl) rfl ?_
 refine pP (Y.pickT rfl rfl) rfl ?_
 refine nN ?_
 refine WC.cond rfl (fun h43 => ?_) (fun h43 => ?_)
 refine WC.seq ?_
 refine WC.draw [(0, .q false), (1, .q true), (2, .q false), (3, .q true), (4, .q false), (5, .q true), (6, .q false), (7, .q true), (8, .q false), (9, .q true), (10, .q false), (11, .q false), (12, .q true), (13, .q false), (14, .q false), (15, .q false), (16, .q false), (17, .s true)] mixed (by kernel_rfl) ?_
 refine dP (Y.fieldAddr fa_34_3 rfl) rfl rfl ?_
 refine dV (Y.load fl_3 rfl m0 rfl) rfl rfl ?_
 refine dP (Y.fieldAddr fa_34_3 rfl) rfl rfl ?_
 refine dV (Y.load fl_3 rfl m0 rfl) rfl rfl ?_
 refine dP (Y.ixArr Try.underlying42 Try.sizeOf24 rfl rfl hp.1 (by omega)) rfl rfl ?_
 refine dV (Y.loadAN wd_24 rfl m1 (p3_pg (redoH x.disk (x.log.take k).reverse).1 r.page hp)) rfl rfl ?_
 refine dP (Y.fieldAddr fa_34_4 rfl) rfl rfl ?_
 refine dV (Y.load fl_3 rfl m0 rfl) rfl rfl ?_
 refine dP (Y.fieldAddr fa_34_6 rfl) rfl rfl ?_
 refine dV (Y.load fl_3 rfl m0 rfl) rfl rfl ?_
 refine dP (Y.move rfl) rfl rfl ?_
 refine dP (Y.add rfl rfl (i64_in (by omega) (by omega))) rfl rfl ?_
 refine WDm.quiet (QS.call Try.call42 rfl (fun _ w s => (by have hh := w_set ((redoH x.disk (x.log.take k).reverse).1.get r.page) r.cell r.new ((k : Int) + 1) w; rw [set_good (by unfold Pg.err; rw [if_pos (P3.ok_get hpk _)]; rfl) (by simp [setArgs, wi]; omega)] at hh; exact hh))) rfl rfl rfl ?_
 refine dP (Y.move rfl) rfl rfl ?_
 refine dP (Y.extract rfl rfl) rfl rfl ?_
 refine dP (Y.extract rfl rfl) rfl rfl ?_
 refine dP (Y.ixArr Try.underlying42 Try.sizeOf24 rfl rfl hp.1 (by omega)) rfl rfl ?_
 refine WDm.spec (WS.free rfl (E.storeP Try.sizeOf24 rfl rfl rfl rfl rfl (by repeat (first | exact Upd.here | apply Upd.there)) (by rw [cl_len]; omega) (p3_put (redoH x.disk (x.log.take k).reverse).1 r.page _ hp))) (fun _ => sub_refl _) (fun _ => ?_)
 refine WDm.nil (WQ.and ?_)
 refine WQ.next ?_
 refine WC.region ?_
 refine pM rfl rfl ?_
 refine pP (Y.add rfl rfl (i64_in (by omega) (by omega))) rfl ?_
 refine pA rfl rfl ?_
 refine WL.nil ?_
 refine WQ.blockEnd ?_
 refine WQ.next ?_
 refine WC.region ?_
 refine pP (Y.add rfl rfl (i64_in (by omega) (by omega))) rfl ?_
 refine pM rfl rfl ?_
 refine WL.nil ?_
 · have e : (redoH x.disk (x.log.take (k + 1)).reverse) = (((redoH x.disk (x.log.take k).reverse).1.set r.page (((redoH x.disk (x.log.take k).reverse).1.get r.page).put r.cell r.new ((k : Int) + 1))), (redoH x.disk (x.log.take k).reverse).2 + 1) := by
     rw [takeS hk', redoH]
     rw [if_pos ⟨h35, by rw [hlk]; have h9 := h43; simp at h9; omega⟩, hlk]
     try rfl
   refine fun a w s => ⟨k + 1, by omega, by omega, ?_⟩
   rw [e]
   exact (s.sub (Hsub.of_sub (List.sublist_cons_self _ _))).weak (by repeat (first | exact sub_nil _ | refine sub_cons rfl ?_))
 refine WC.skip' ?_
 refine WQ.blockEnd ?_
 refine WQ.next ?_
 refine WC.region ?_
 refine pP (Y.add rfl rfl (i64_in (by omega) (by omega))) rfl ?_
 refine pM rfl rfl ?_
 refine WL.nil ?_
 · have e : (redoH x.disk (x.log.take (k + 1)).reverse) = (redoH x.disk (x.log.take k).reverse) := by
     rw [takeS hk', redoH]
     rw [if_neg (fun hh => by have h9 := h43; have h8 := hh.2; rw [hlk] at h8; simp at h9; omega)]
     try rfl
   refine fun a w s => ⟨k + 1, by omega, by omega, ?_⟩
   rw [e]
   exact (s.sub (Hsub.of_sub (List.sublist_cons_self _ _))).weak (by repeat (first | exact sub_nil _ | refine sub_cons rfl ?_))
 refine WC.exit ?_
 refine WQ.thenExit ?_
 refine WQ.thenExit ?_
 refine WQ.blockExit ?_
 refine WQ.next ?_
 refine sR ?_
 refine pV (Y.loadA wd_42 rfl m0 rfl) rfl ?_
 refine pM rfl rfl ?_
 refine WL.eff (E.store Try.sizeOf42 rfl rfl rfl rfl rfl u1 rfl rfl) rfl (fun _ => ?_)
 refine pA rfl rfl ?_
 refine pA rfl rfl ?_
 refine nN ?_
 refine WC.ret ?_
 refine WQ.done Try.results99 (RVs.cons (RV.cell wd_42 rfl m1 rfl) (RVs.cons (RV.tmp rfl) (RVs.cons (RV.tmp rfl) RVs.nil))) (fun a w s => ?_)
 · have e : redoOf x = ((redoH x.disk x.h).1, (((redoH x.disk x.h).2 : Nat) : Int), 0) := by unfold redoOf; rw [if_pos h0, if_pos hsl]
   refine ⟨?_, s.low⟩
   rw [e, List.take_of_length_le (by simp at h29; omega)]
   rfl
end Go.Proofs.Ytdbcimadjmdffaa
