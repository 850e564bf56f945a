/- Worlds: what the document says of OwnWorld, put, rolled. No condition. -/
import Derived.Test.YtdbcimadjmdffaaBx
import Derived.Test.YtdbcimadjmdffaaWn
set_option maxRecDepth 100000
set_option linter.unusedVariables false
set_option linter.unusedSimpArgs false
set_option linter.unusedSectionVars false
set_option maxHeartbeats 4000000
namespace Go.Proofs.Ytdbcimadjmdffaa
open Go.RowKit Go.Joins
theorem w_ownWorld (x : Wd) (A : Option Addr) (b o c : Nat) (w : World) (hl : x.log.length ≤ 1000000) (hr : RL w A b o x.log) : RetW Try.prog 108 [x.val A c] w x [] := by
 refine enter Try.func108 rfl Try.ntmps108 rfl SF.top trivial ?_
 refine sR ?_
 refine WL.eff (E.box rfl rfl rfl) rfl (fun b1 => ?_)
 refine WL.eff (E.alloc Try.zeroValue54 rfl rfl) rfl (fun b2 => ?_)
 refine nN ?_
 refine sR ?_
 refine WL.eff (E.buildSlice (bs_39_0 ) rfl rfl) rfl (fun b3 => ?_)
 refine WL.toOwn 0 0 8 [] rfl (Nat.le_refl _) (Nat.zero_le _) rfl rfl ?_
 refine pP (Y.fieldAddr fa_54_1 rfl) rfl ?_
 refine pV (Y.load fl_39 rfl m1 rfl) rfl ?_
 refine WL.eff (E.appendRL (l := x.log) rfl rfl rfl (fun w hw => hr.below hw.2.2.2) (by omega) rfl) rfl (fun i => ?_)
 rw [show 0 + x.log.length = x.log.length from Nat.zero_add _, List.nil_append]
 refine pP (Y.fieldAddr fa_54_1 rfl) rfl ?_
 refine WL.eff (E.store Try.sizeOf39 rfl rfl rfl rfl rfl u1 rfl rfl) rfl (fun _ => ?_)
 refine nN ?_
 refine sR ?_
 refine pV (Y.loadAN wd_54 rfl m1 (r := x.cl i.1 i.2) rfl) rfl ?_
 refine WL.eff (E.store Try.sizeOf54 rfl rfl rfl rfl rfl u0 rfl rfl) rfl (fun _ => ?_)
 refine nN ?_
 refine WC.ret ?_
 refine WQ.done Try.results108 (RVs.cons (RV.cell wd_54 rfl m0 rfl) RVs.nil) (fun a w s => ?_)
 · exact ⟨i, rfl, s.low, s.fact.1⟩

section
variable [Inhabited DSx] {Q : Exit → Act → World → Prop} {E : Env} {n : Nat} {H : Hp} {F G : SF} {u : World}
/-- A call that yields a world. -/
theorem E.retW {f : FuncId} {args : Array Operand} {ts : Array TypeId} {d : Nat} {T' : TypeId} {p : String} {af : Array Edge} {vs : List Value} (y : Wd) (more : List Value) (hf : ∀ (args : Array Value) (w : World), (callFunc f args).run Try.prog w = .ok (.enter f args) w)
    (hx : evs E args.toList = some vs) (hc : ∀ a w, St E n H F u a w → RetW Try.prog f vs w y more) (hn : Nat.blt d n = true) :
    Eff Try.prog E n H F u ⟨some d, .call { callee := .value (.func f), args := args, argTypes := ts }, T', p, af, none⟩ (fun i : Option Addr × Nat => (d, packed (y.val i.1 i.2 :: more)) :: E) (fun _ => H) (fun i => (SF.own u.heap.size 34 8 (.slice i.1 y.log.length i.2) y.log.length (flat y.log)).sep F) :=
  Proofs.Ytdbcimadjmdffaa.E.callN _ _ hf hx (fun a w s => (hc a w s).mono fun e w' ⟨i, he, hb, ho⟩ => ⟨i, he, hb, ownsRow_le ho s.low.size, fun g hg => (ho.lt g hg).1⟩) hn
end

theorem w_putNo (u : World) (Hl : Hp) (G : SF) (g : Nat) (y : Wd) (A : Option Addr) (c : Nat) (r : R) (w : World) (hw : Wp u ((g, y.cl A c, 54) :: Hl) ((SF.own u.heap.size 34 8 (.slice A y.log.length c) y.log.length (flat y.log)).sep G) w) (h60 : y.log.length = 60) : Calls Try.prog 143 [.pointer (some ⟨g, 0, none⟩), r.val].toArray w fun e w' => ∃ i : Unit, e = .returned (.bool false) ∧ Wp u ((g, y.cl A c, 54) :: Hl) ((SF.own u.heap.size 34 8 (.slice A y.log.length c) y.log.length (flat y.log)).sep G) w' := by
 refine enterW Try.func143 rfl Try.ntmps143 rfl hw ?_
 refine sR ?_
 refine WL.eff (E.box rfl rfl rfl) rfl (fun b1 => ?_)
 refine pA rfl rfl ?_
 refine nN ?_
 refine WC.seq ?_
 refine sR ?_
 refine pM rfl rfl ?_
 refine pP (Y.nilCheck rfl) rfl ?_
 refine pP (Y.fieldAddr fa_54_1 rfl) rfl ?_
 refine pV (Y.load fl_39 rfl m1 rfl) rfl ?_
 refine pP (Y.len Try.underlying39 rfl) rfl ?_
 refine pP (Y.eql rfl rfl) rfl ?_
 refine nN ?_
 refine WC.isT rfl (by rw [h60]; rfl) ?_
 refine sR ?_
 refine pA rfl rfl ?_
 refine nN ?_
 refine WC.ret ?_
 refine WQ.thenRet ?_
 refine dn1 Try.results143 rfl (fun a w s => ?_)
 · exact ⟨(), rfl, s.wp.sub (Hsub.of_sub (List.sublist_cons_self _ _))⟩

def R.at (r : R) (n : Int) : R := { r with prev := n }

theorem w_putYes (u : World) (Hl : Hp) (G : SF) (g : Nat) (y : Wd) (A : Option Addr) (c : Nat) (r : R) (w : World) (hw : Wp u ((g, y.cl A c, 54) :: Hl) ((SF.own u.heap.size 34 8 (.slice A y.log.length c) y.log.length (flat y.log)).sep G) w) (h60 : y.log.length < 60) : Calls Try.prog 143 [.pointer (some ⟨g, 0, none⟩), r.val].toArray w fun e w' => ∃ i : Option Addr × Nat, e = .returned (.bool true) ∧ Wp u ((g, (y.more (r.at (lastN y.h r.txn))).cl i.1 i.2, 54) :: Hl) ((SF.own u.heap.size 34 8 (.slice i.1 (y.more (r.at (lastN y.h r.txn))).log.length i.2) (y.more (r.at (lastN y.h r.txn))).log.length (flat (y.more (r.at (lastN y.h r.txn))).log)).sep G) w' := by
 obtain ⟨i3, hi3, hz30, hz31, hz32⟩ := info_parts rec_info
 refine enterW Try.func143 rfl Try.ntmps143 rfl hw ?_
 refine sR ?_
 refine WL.eff (E.box rfl rfl rfl) rfl (fun b1 => ?_)
 refine pA rfl rfl ?_
 refine nN ?_
 refine WC.seq ?_
 refine sR ?_
 refine pM rfl rfl ?_
 refine pP (Y.nilCheck rfl) rfl ?_
 refine pP (Y.fieldAddr fa_54_1 rfl) rfl ?_
 refine pV (Y.load fl_39 rfl m1 rfl) rfl ?_
 refine pP (Y.len Try.underlying39 rfl) rfl ?_
 refine pP (Y.eql rfl rfl) rfl ?_
 refine nN ?_
 refine WC.isF rfl (by simp; omega) ?_
 refine WC.skip' ?_
 refine WQ.next ?_
 refine WC.seq ?_
 refine WC.draw [(0, .q false), (1, .q false), (2, .q false), (3, .q true), (4, .q false), (5, .q true), (6, .q true), (7, .q false), (8, .s true)] mixed (by kernel_rfl) ?_
 refine dP (Y.move rfl) rfl rfl ?_
 refine dP (Y.nilCheck rfl) rfl rfl ?_
 refine dP (Y.fieldAddr fa_54_1 rfl) rfl rfl ?_
 refine dV (Y.load (v := .slice A y.log.length c) fl_39 rfl m1 rfl) rfl rfl ?_
 refine dP (Y.fieldAddr fa_34_1 rfl) rfl rfl ?_
 refine dV (Y.load fl_3 rfl m0 rfl) rfl rfl ?_
 refine WDm.quiet (QS.call Try.call126 rfl (fun _ w s => w_last y.log A (gOf A) 0 c r.txn w (by omega) (own_RL s.fact.1))) rfl rfl rfl ?_
 refine dP (Y.fieldAddr fa_34_2 rfl) rfl rfl ?_
 refine WDm.spec (WS.free rfl (E.store Try.sizeOf3 rfl rfl rfl rfl rfl u0 rfl rfl)) (fun _ => sub_refl _) (fun _ => ?_)
 refine WDm.nil (WQ.and ?_)
 refine WQ.next ?_
 refine WC.seq ?_
 refine WC.draw [(0, .q false), (1, .q false), (2, .q false), (3, .q false), (4, .q true), (5, .q true), (6, .s false), (7, .s true), (8, .q false), (9, .q false), (10, .s true)] mixed (by kernel_rfl) ?_
 refine dP (Y.move rfl) rfl rfl ?_
 refine dP (Y.move rfl) rfl rfl ?_
 refine dP (Y.nilCheck rfl) rfl rfl ?_
 refine dP (Y.fieldAddr fa_54_1 rfl) rfl rfl ?_
 refine dV (Y.load (v := .slice A y.log.length c) fl_39 rfl m1 rfl) rfl rfl ?_
 refine dV (Y.loadAN wd_34 rfl m0 (r := (r.at (lastN y.h r.txn)).cl) rfl) rfl rfl ?_
 refine WDm.spec (WS.free rfl (E.buildSlice (bs_39_1 _ _ _ _ _ _ _ _) rfl rfl)) (fun _ => ext_new rfl) (fun b2 => ?_)
 refine WDm.spec (WS.free rfl (E.appendG Try.underlying39 hi3 hz30 hz31 hz32 rfl (by decide) rfl rfl rfl m0 rfl rfl (by unfold maxLen; omega) (by omega) rfl)) (fun _ => sub_push rfl) (fun i => ?_)
 refine dP (Y.nilCheck rfl) rfl rfl ?_
 refine dP (Y.fieldAddr fa_54_1 rfl) rfl rfl ?_
 refine WDm.spec (WS.free rfl (E.store Try.sizeOf39 rfl rfl rfl rfl rfl u2 rfl rfl)) (fun _ => sub_refl _) (fun _ => ?_)
 refine WDm.nil (WQ.and ?_)
 refine WQ.next ?_
 refine sR ?_
 refine pA rfl rfl ?_
 refine nN ?_
 refine WC.ret ?_
 refine dn1 Try.results143 rfl (fun a w s => ?_)
 · refine ⟨i, rfl, ?_⟩
   have e1 : flat (y.more (r.at (lastN y.h r.txn))).log = flat y.log ++ (r.at (lastN y.h r.txn)).cl := by simp [flat, Wd.more]
   have e2 : (y.more (r.at (lastN y.h r.txn))).log.length = y.log.length + 1 := by simp [Wd.more]
   rw [e1]
   unfold Wd.cl
   rw [e2]
   exact s.wp.sub (Hsub.of_sub (List.Sublist.cons _ (List.sublist_cons_self _ _)))

section
variable [Inhabited DSx] {Q : Exit → Act → World → Prop} {E : Env} {n : Nat} {H : Hp} {F G : SF} {u : World}
theorem E.putNo {f : FuncId} {args : Array Operand} {ts : Array TypeId} {d : Nat} {T' : TypeId} {p : String} {af : Array Edge} {A : Option Addr} {c g : Nat} {r : R} {Hl : Hp} (y : Wd) (hf : f = 143) (h60 : y.log.length = 60) (hH : Hsub ((g, y.cl A c, 54) :: Hl) H)
    (hF : F = (SF.own u.heap.size 34 8 (.slice A y.log.length c) y.log.length (flat y.log)).sep G) (hx : evs E args.toList = some [.pointer (some ⟨g, 0, none⟩), r.val]) (hn : Nat.blt d n = true) :
    Eff Try.prog E n H F u ⟨some d, .call { callee := .value (.func f), args := args, argTypes := ts }, T', p, af, none⟩ (fun _ : Unit => (d, .bool false) :: E) (fun _ => (g, y.cl A c, 54) :: Hl) (fun _ => F) := by
  subst hf hF
  refine Proofs.Ytdbcimadjmdffaa.E.callM _ _ _ Try.call143 hx (fun w hw => ?_) hn
  exact w_putNo u Hl G g y A c r w (hw.sub hH) h60
theorem E.putYes {f : FuncId} {args : Array Operand} {ts : Array TypeId} {d : Nat} {T' : TypeId} {p : String} {af : Array Edge} {A : Option Addr} {c g : Nat} {r : R} {Hl : Hp} (y : Wd) (hf : f = 143) (h60 : y.log.length < 60) (hH : Hsub ((g, y.cl A c, 54) :: Hl) H)
    (hF : F = (SF.own u.heap.size 34 8 (.slice A y.log.length c) y.log.length (flat y.log)).sep G) (hx : evs E args.toList = some [.pointer (some ⟨g, 0, none⟩), r.val]) (hn : Nat.blt d n = true) :
    Eff Try.prog E n H F u ⟨some d, .call { callee := .value (.func f), args := args, argTypes := ts }, T', p, af, none⟩ (fun _ : Option Addr × Nat => (d, .bool true) :: E) (fun i => (g, (y.more (r.at (lastN y.h r.txn))).cl i.1 i.2, 54) :: Hl)
      (fun i => (SF.own u.heap.size 34 8 (.slice i.1 (y.more (r.at (lastN y.h r.txn))).log.length i.2) (y.more (r.at (lastN y.h r.txn))).log.length (flat (y.more (r.at (lastN y.h r.txn))).log)).sep G) := by
  subst hf hF
  refine Proofs.Ytdbcimadjmdffaa.E.callM (fun _ => .bool true) _ _ Try.call143 hx (fun w hw => ?_) hn
  exact w_putYes u Hl G g y A c r w (hw.sub hH) h60
end

theorem undo_nil {h : List R} (hR : Right h) {t : Int} (h4 : stt h t ≠ 4) (hu : ups h t = []) : undoB h t = enR t (lastN h t) := by
  have e := hR.up t
  rw [if_neg h4, hu] at e
  unfold undoB
  rw [e]
  rfl
theorem undo_cons {h : List R} (hR : Right h) {t : Int} {m : Nat} {us : List Nat} (h4 : stt h t ≠ 4) (hu : ups h t = m :: us) : undoB h t = backOf h t m := by
  have e := hR.up t
  rw [if_neg h4, hu] at e
  unfold undoB
  rw [e]

theorem w_rolled (l : List R) (A : Option Addr) (b o c : Nat) (t : Int) (w : World) (hl : l.length ≤ 60) (hr : RL w A b o l) (hR : Right l.reverse) (h4 : stt l.reverse t ≠ 4) : Ret Try.prog 142 [.slice A l.length c, .int .i64 t] w (undoB l.reverse t).val := by
 refine enter Try.func142 rfl Try.ntmps142 rfl SF.top trivial ?_
 refine sR ?_
 refine WL.eff (E.alloc Try.zeroValue34 rfl rfl) rfl (fun b1 => ?_)
 refine nN ?_
 refine sR ?_
 refine pM rfl rfl ?_
 refine pM rfl rfl ?_
 refine WL.eff (E.callF (fun i : Option Addr × Nat => .slice i.1 (ups l.reverse t).length i.2) (fun i => SF.own w.heap.size 3 1 (.slice i.1 (ups l.reverse t).length i.2) (ups l.reverse t).length (nums (ups l.reverse t).reverse)) Try.call153 rfl (fun _ w s => (w_stands l A b o c t w hl (hr.below s.low) (hR.fit _)).mono fun e w' ⟨i, he, hb, ho⟩ => ⟨i, he, hb, ownsRow_le ho s.low.size, fun g hg => .inl (ho.lt g hg).1⟩) rfl) rfl (fun i => ?_)
 refine pA rfl rfl ?_
 refine nN ?_
 refine WC.seq ?_
 refine sR ?_
 refine pM rfl rfl ?_
 refine pP (Y.len Try.underlying64 rfl) rfl ?_
 refine pP (Y.eql rfl rfl) rfl ?_
 refine nN ?_
 refine WC.cond rfl (fun h12 => ?_) (fun h12 => ?_)
 refine WC.seq ?_
 have hu : ups l.reverse t = [] := by have h12 := h12; simp at h12; exact h12
 refine WC.region ?_
 refine pM rfl rfl ?_
 refine pM rfl rfl ?_
 refine pM rfl rfl ?_
 refine WL.eff (E.call Try.call126 rfl (fun _ w s => w_last l A b o c t w hl (hr.below s.low)) rfl) rfl (fun _ => ?_)
 refine pP (Y.build rfl (bf_34_0_1_2 _ _ _)) rfl ?_
 refine WL.eff (E.store Try.sizeOf34 rfl rfl rfl rfl rfl u0 rfl rfl) rfl (fun _ => ?_)
 refine nN ?_
 refine WC.ret ?_
 refine WQ.thenRet ?_
 refine WQ.done Try.results142 (RVs.cons (RV.cell wd_34 rfl m0 rfl) RVs.nil) (fun a w s => ?_)
 · refine ⟨?_, s.low⟩
   clear s
   rw [undo_nil hR h4 hu]
   rfl
 refine WC.skip' ?_
 refine WQ.next ?_
 refine WC.seq ?_
 obtain ⟨m, us, hu⟩ := up_some h12
 obtain ⟨hm1, hm2⟩ := ups_le (h := l.reverse) (t := t) (n := m) (by rw [hu]; exact List.Mem.head _)
 rw [List.length_reverse] at hm2
 have hlen : 1 ≤ (ups l.reverse t).length := by rw [hu]; simp
 have hule := wrs_len l.reverse t
 have hul : (ups l.reverse t).length ≤ l.length := by rw [ups_len]; simp at hule; omega
 have hm := up_top hu
 obtain ⟨x, hk2⟩ := get_of_lt (l := l) (k := m - 1) (by omega)
 refine WC.know (p := ∃ g, i.1 = some ⟨g, 0, none⟩) (fun a w s => by obtain ⟨g, hA, _⟩ := own_cell s.fact.2 (nums_get hm); exact ⟨g, hA⟩) (fun ⟨g, hA⟩ => ?_)
 refine WC.region ?_
 refine pM rfl rfl ?_
 refine pM rfl rfl ?_
 refine pM rfl rfl ?_
 refine pP (Y.len Try.underlying64 rfl) rfl ?_
 refine pP (Y.sub rfl rfl (i64_sub1 hlen (by omega))) rfl ?_
 refine pP (Y.ixSlA Try.underlying64 Try.sizeOf3 rfl rfl hA (nat0 _) (by omega)) rfl ?_
 refine pV (Y.loadc fl_3 rfl (v := .int .i64 (m : Int)) (fun a w s => by obtain ⟨g2, hA2, hc⟩ := own_cell s.fact.2 (nums_get hm); cases hA.symm.trans hA2; simpa using hc)) rfl ?_
 refine pP (Y.sub rfl rfl (i64_sub1 hm1 (by omega))) rfl ?_
 refine pP (Y.ixSlA Try.underlying39 Try.sizeOf34 rfl rfl (hr.addr hk2) (nat0 _) (get_ltI hk2)) rfl ?_
 refine pV (Y.loadAc wd_34 rfl (r := x.cl) rfl (fun a w s j hj => (hr.below s.low).full hk2 j hj)) rfl ?_
 refine WL.eff (E.alloc Try.zeroValue34 rfl rfl) rfl (fun b2 => ?_)
 refine WL.eff (E.store Try.sizeOf34 rfl rfl rfl rfl rfl u0 rfl rfl) rfl (fun _ => ?_)
 refine nN ?_
 refine WC.seq ?_
 refine WC.draw [(0, .q false), (1, .q false), (2, .q false), (3, .q true), (4, .q false), (5, .q true), (6, .q false), (7, .q true), (8, .q false), (9, .q true), (10, .q false), (11, .q true), (12, .q false), (13, .q true), (14, .q false), (15, .s true)] mixed (by kernel_rfl) ?_
 refine dP (Y.move rfl) rfl rfl ?_
 refine dP (Y.move rfl) rfl rfl ?_
 refine dP (Y.move rfl) rfl rfl ?_
 refine WDm.quiet (QS.call Try.call126 rfl (fun _ w s => w_last l A b o c t w hl (hr.below s.low))) rfl rfl rfl ?_
 refine dP (Y.fieldAddr fa_34_3 rfl) rfl rfl ?_
 refine dV (Y.load fl_3 rfl m0 rfl) rfl rfl ?_
 refine dP (Y.fieldAddr fa_34_4 rfl) rfl rfl ?_
 refine dV (Y.load fl_3 rfl m0 rfl) rfl rfl ?_
 refine dP (Y.fieldAddr fa_34_6 rfl) rfl rfl ?_
 refine dV (Y.load fl_3 rfl m0 rfl) rfl rfl ?_
 refine dP (Y.fieldAddr fa_34_5 rfl) rfl rfl ?_
 refine dV (Y.load fl_3 rfl m0 rfl) rfl rfl ?_
 refine dP (Y.fieldAddr fa_34_2 rfl) rfl rfl ?_
 refine dV (Y.load fl_3 rfl m0 rfl) rfl rfl ?_
 refine dP (Y.build rfl (bf_34_0_1_2_3_4_5_6_7 _ _ _ _ _ _ _ _)) rfl rfl ?_
 refine WDm.spec (WS.free rfl (E.store Try.sizeOf34 rfl rfl rfl rfl rfl u1 rfl rfl)) (fun _ => sub_refl _) (fun _ => ?_)
 refine WDm.nil (WQ.and ?_)
 refine WQ.next ?_
 refine WC.ret ?_
 refine WQ.done Try.results142 (RVs.cons (RV.cell wd_34 rfl m1 rfl) RVs.nil) (fun a w s => ?_)
 · refine ⟨?_, s.low⟩
   clear s
   rw [undo_cons hR h4 hu]
   unfold backOf
   rw [recAt_rev hk2]
   rfl

theorem w_rollOf (l : List R) (A : Option Addr) (b o c : Nat) (t : Int) (w : World) (hm : l.length ≤ maxLen) (hcap : l.length ≤ c) (hr : RL w A b o l) : Ret Try.prog 86 [.slice A l.length c, .int .i64 t] w (.tuple #[(rollOf l t).1.val, .int .i64 (rollOf l t).2]) := by
 refine enter Try.func86 rfl Try.ntmps86 rfl SF.top trivial ?_
 refine sR ?_
 refine WL.eff (E.alloc Try.zeroValue34 rfl rfl) rfl (fun b1 => ?_)
 refine pA rfl rfl ?_
 refine nN ?_
 refine sR ?_
 refine pM rfl rfl ?_
 refine pM rfl rfl ?_
 refine WL.eff (E.call Try.call59 rfl (fun _ w s => w_docState l A b o c t w hm hcap (hr.below s.low)) rfl) rfl (fun _ => ?_)
 refine pM rfl rfl ?_
 refine pP (Y.extract rfl rfl) rfl ?_
 refine pP (Y.extract rfl rfl) rfl ?_
 refine pP (Y.extract rfl rfl) rfl ?_
 refine pA rfl rfl ?_
 refine pA rfl rfl ?_
 refine pA rfl rfl ?_
 refine nN ?_
 refine WC.seq ?_
 refine WC.block ?_
 refine sR ?_
 refine pM rfl rfl ?_
 refine pP (Y.neq rfl rfl) rfl ?_
 refine pA rfl rfl ?_
 refine nN ?_
 refine WC.cond rfl (fun h16 => ?_) (fun h16 => ?_)
 refine sR ?_
 refine pP (Y.build rfl (bf_34 )) rfl ?_
 refine pM rfl rfl ?_
 refine WL.eff (E.store Try.sizeOf34 rfl rfl rfl rfl rfl u0 rfl rfl) rfl (fun _ => ?_)
 refine pA rfl rfl ?_
 refine nN ?_
 refine WC.ret ?_
 refine WQ.blockRet ?_
 refine WQ.thenRet ?_
 refine WQ.done Try.results86 (RVs.cons (RV.cell wd_34 rfl m0 rfl) (RVs.cons (RV.tmp rfl) RVs.nil)) (fun a w s => ?_)
 · refine ⟨?_, s.low⟩
   clear s
   have e : rollOf l t = (R.zero, (logState l t).2.2) := by
     have h16 := h16
     unfold rollOf logState at *
     by_cases h0 : logErr l = 0
     · rw [if_pos h0] at h16 ⊢
       by_cases hok : wi t 1 9 = true
       · rw [if_pos hok] at h16; simp at h16
       · rw [if_neg hok, if_pos h0, if_neg hok]
     · rw [if_neg h0, if_neg h0]
   rw [e]
   rfl
 refine WC.seq ?_
 have h0 : logErr l = 0 := by
   have h16 := h16
   unfold logState at h16
   split at h16
   · assumption
   · rename_i h; simp at h16; exact absurd h16 h
 obtain ⟨h60, hR⟩ := log_right h0
 have hok : wi t 1 9 = true := by
   cases h : wi t 1 9
   · have h16 := h16
     unfold logState at h16
     rw [if_pos h0, h] at h16
     simp at h16
   · rfl
 have e1 := logState_ok h0 (wi_iff.1 hok)
 rw [e1] at h16 ⊢
 refine WC.region ?_
 refine pM rfl rfl ?_
 refine pP (Y.eql rfl rfl) rfl ?_
 refine pA rfl rfl ?_
 refine nN ?_
 refine WC.cond rfl (fun h21 => ?_) (fun h21 => ?_)
 refine sR ?_
 refine pP (Y.build rfl (bf_34 )) rfl ?_
 refine WL.eff (E.store Try.sizeOf34 rfl rfl rfl rfl rfl u0 rfl rfl) rfl (fun _ => ?_)
 refine pA rfl rfl ?_
 refine nN ?_
 refine WC.ret ?_
 refine WQ.blockRet ?_
 refine WQ.thenRet ?_
 refine WQ.done Try.results86 (RVs.cons (RV.cell wd_34 rfl m0 rfl) (RVs.cons (RV.tmp rfl) RVs.nil)) (fun a w s => ?_)
 · refine ⟨?_, s.low⟩
   clear s
   have e : rollOf l t = (R.zero, 7) := by unfold rollOf; rw [if_pos h0, if_pos hok, if_pos (by have h21 := h21; simpa using h21)]
   rw [e]
   rfl
 refine sR ?_
 refine pM rfl rfl ?_
 refine pP (Y.eql rfl rfl) rfl ?_
 refine pM rfl rfl ?_
 refine WL.split (t := 28) rfl (fun r h28 => ?_)
 cases r
 refine gT rfl ?_
 refine pM rfl rfl ?_
 refine gT rfl ?_
 refine pP (Y.eql rfl rfl) rfl ?_
 refine pP (Y.pickF rfl rfl) rfl ?_
 refine pA rfl rfl ?_
 refine nN ?_
 refine WC.cond rfl (fun h25 => ?_) (fun h25 => ?_)
 refine sR ?_
 refine pP (Y.build rfl (bf_34 )) rfl ?_
 refine WL.eff (E.store Try.sizeOf34 rfl rfl rfl rfl rfl u0 rfl rfl) rfl (fun _ => ?_)
 refine pA rfl rfl ?_
 refine nN ?_
 refine WC.ret ?_
 refine WQ.blockRet ?_
 refine WQ.thenRet ?_
 refine WQ.done Try.results86 (RVs.cons (RV.cell wd_34 rfl m0 rfl) (RVs.cons (RV.tmp rfl) RVs.nil)) (fun a w s => ?_)
 · refine ⟨?_, s.low⟩
   clear s
   have e : rollOf l t = (R.zero, 6) := by unfold rollOf; rw [if_pos h0, if_pos hok, if_neg (by simpa using h21), if_pos (by first | (left; have h28 := h28; simp at h28; omega) | (right; have h25 := h25; simp at h25; omega))]
   rw [e]
   rfl
 refine WC.skip' ?_
 refine WQ.blockEnd ?_
 refine WQ.next ?_
 refine sR ?_
 refine pM rfl rfl ?_
 refine pM rfl rfl ?_
 refine WL.eff (E.call Try.call142 rfl (fun _ w s => w_rolled l A b o c t w h60 (hr.below s.low) hR (fun h => by have h25 := h25; simp [h] at h25 h28)) rfl) rfl (fun _ => ?_)
 refine WL.eff (E.store Try.sizeOf34 rfl rfl rfl rfl rfl u0 rfl rfl) rfl (fun _ => ?_)
 refine pA rfl rfl ?_
 refine nN ?_
 refine WC.ret ?_
 refine WQ.done Try.results86 (RVs.cons (RV.cell wd_34 rfl m0 rfl) (RVs.cons (RV.tmp rfl) RVs.nil)) (fun a w s => ?_)
 · refine ⟨?_, s.low⟩
   clear s
   have e : rollOf l t = (undoB l.reverse t, 0) := by unfold rollOf; rw [if_pos h0, if_pos hok, if_neg (by simpa using h21), if_neg (by simp at h25 h28; omega)]
   rw [e]
   rfl
 refine gF rfl ?_
 refine gF rfl ?_
 refine pP (Y.pickT rfl rfl) rfl ?_
 refine pA rfl rfl ?_
 refine nN ?_
 refine WC.condT rfl ?_
 refine sR ?_
 refine pP (Y.build rfl (bf_34 )) rfl ?_
 refine WL.eff (E.store Try.sizeOf34 rfl rfl rfl rfl rfl u0 rfl rfl) rfl (fun _ => ?_)
 refine pA rfl rfl ?_
 refine nN ?_
 refine WC.ret ?_
 refine WQ.blockRet ?_
 refine WQ.thenRet ?_
 refine WQ.done Try.results86 (RVs.cons (RV.cell wd_34 rfl m0 rfl) (RVs.cons (RV.tmp rfl) RVs.nil)) (fun a w s => ?_)
 · refine ⟨?_, s.low⟩
   clear s
   have e : rollOf l t = (R.zero, 6) := by unfold rollOf; rw [if_pos h0, if_pos hok, if_neg (by simpa using h21), if_pos (by first | (left; have h28 := h28; simp at h28; omega) | (right; have h25 := h25; simp at h25; omega))]
   rw [e]
   rfl
end Go.Proofs.Ytdbcimadjmdffaa
