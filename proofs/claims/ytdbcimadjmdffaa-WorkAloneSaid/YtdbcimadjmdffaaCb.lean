/- Taking back: what may, Step and Abort return. No condition. -/
import Derived.Test.YtdbcimadjmdffaaCa
set_option maxRecDepth 100000
set_option linter.unusedVariables false
set_option linter.unusedSimpArgs false
set_option linter.unusedSectionVars false
set_option maxHeartbeats 4000000
namespace Go.Proofs.Ytdbcimadjmdffaa
open Go.RowKit Go.Joins
def mayErr (h : List R) (t : Int) : Int := if wi t 1 9 then (if stt h t = 0 then 7 else if stt h t = 2 ∨ stt h t = 4 then 6 else 0) else 3
theorem rollOf_may {l : List R} (h : logErr l = 0) (t : Int) : rollOf l t = if mayErr l.reverse t = 0 then (undoB l.reverse t, 0) else (R.zero, mayErr l.reverse t) := by
  unfold rollOf mayErr
  rw [if_pos h]
  split
  · split
    · simp
    · split
      · simp
      · simp
  · simp
theorem may_ok {h : List R} {t : Int} (hh : mayErr h t = 0) : (1 ≤ t ∧ t ≤ 9) ∧ (stt h t = 1 ∨ stt h t = 3) := by
  unfold mayErr at hh
  split at hh
  rotate_left
  · simp at hh
  split at hh
  · simp at hh
  split at hh
  · simp at hh
  rename_i h2 h3 h4
  have := stt_le4 h t
  exact ⟨wi_iff.1 h2, by omega⟩
theorem foc_unn {B : Bk} {t : Int} {x : TxE} {K : Hp} (h : Foc B t x K) (Hx Hl : Hp) : Hsub (Hx ++ (B.hp ++ Hl)) (Hx ++ (x.blkc :: B.own1 :: (K ++ Hl))) := by
  refine Hsub.of_perm ?_
  have h1 : (x.blkc :: B.own1 :: (K ++ Hl)).Perm (B.hp ++ Hl) := by
    have := h.1.append_right Hl
    simpa using this
  exact (h1.append_left Hx).symm

theorem w_may (u : World) (B : Bk) (Hl : Hp) (G : SF) (h : List R) (t : Int) (w : World) (hw : Wp u (B.hp ++ Hl) ((SF.bk u.heap.size B).sep G) w) (hB : BOk B h) (hR : Right h) : Calls Try.prog 140 [B.ptr, .int .i64 t].toArray w fun e w' => ∃ i : {B' : Bk // BOk B' h ∧ B'.bk = B.bk}, e = .returned (.int .i64 (mayErr h t)) ∧ Wp u (i.1.hp ++ Hl) ((SF.bk u.heap.size i.1).sep G) w' := by
 refine enterW Try.func140 rfl Try.ntmps140 rfl hw ?_
 refine sR ?_
 refine pA rfl rfl ?_
 refine nN ?_
 refine WC.seq ?_
 refine sR ?_
 refine pM rfl rfl ?_
 refine WL.eff (E.call Try.call128 rfl (fun _ w s => w_txn t w) rfl) rfl (fun _ => ?_)
 refine pP (Y.not rfl) rfl ?_
 refine nN ?_
 refine WC.cond rfl (fun h7 => ?_) (fun h7 => ?_)
 refine sR ?_
 refine pA rfl rfl ?_
 refine nN ?_
 refine WC.ret ?_
 refine WQ.thenRet ?_
 refine dn1 Try.results140 rfl (fun a w s => ?_)
 · have e : mayErr h t = 3 := by
     unfold mayErr; rw [if_neg (by simpa using h7)]
   rw [e]
   exact ⟨⟨B, hB, rfl⟩, rfl, s.wp⟩
 refine WC.skip' ?_
 refine WQ.next ?_
 refine WC.seq ?_
 refine WC.seq ?_
 have hok : wi t 1 9 = true := by simpa using h7
 refine WC.region ?_
 refine pM rfl rfl ?_
 refine pM rfl rfl ?_
 refine WL.eff (E.of [] rfl rfl rfl rfl rfl) rfl (fun i => ?_)
 obtain ⟨⟨B1, y, K⟩, hOf, hK⟩ := i
 obtain ⟨hB1, hst, hla, hup⟩ := hB.of hOf
 obtain ⟨el, eA, ec, epg, ebk, _⟩ := of_l hOf
 dsimp only at hOf hK hB1 hst hla hup el eA ec epg ebk ⊢
 have e0 : B.ptr = B1.ptr := by unfold Bk.ptr; rw [ebk]
 rw [e0]
 have hl1 := hOf.1
 dsimp only at hl1
 have est : y.st = (stt h t : Int) := hst.trans (hR.st t)
 refine pP (Y.nilCheck rfl) rfl ?_
 refine pP (Y.fieldAddr fa_117_0 rfl) rfl ?_
 refine pV (Y.load fl_3 rfl m0 rfl) rfl ?_
 refine nN ?_
 refine WC.block ?_
 refine sR ?_
 refine pP (Y.eql rfl rfl) rfl ?_
 refine pA rfl rfl ?_
 refine nN ?_
 refine WC.cond rfl (fun h14 => ?_) (fun h14 => ?_)
 refine sR ?_
 refine pA rfl rfl ?_
 refine nN ?_
 refine WC.ret ?_
 refine WQ.blockRet ?_
 refine WQ.thenRet ?_
 refine dn1 Try.results140 rfl (fun a w s => ?_)
 · have e : mayErr h t = 7 := by
     unfold mayErr; rw [if_pos hok, if_pos (by simp [est] at h14; omega)]
   rw [e]
   exact ⟨⟨B1, hB1, ebk⟩, rfl, s.wp.sub (foc_out hK (set1_same hl1).symm [] Hl)⟩
 refine WC.seq ?_
 refine sR ?_
 refine pP (Y.eql rfl rfl) rfl ?_
 refine pA rfl rfl ?_
 refine nN ?_
 refine WC.cond rfl (fun h16 => ?_) (fun h16 => ?_)
 refine WC.skip' ?_
 refine WQ.next ?_
 refine WC.cond rfl (fun h16 => ?_) (fun h16 => ?_)
 refine sR ?_
 refine pA rfl rfl ?_
 refine nN ?_
 refine WC.ret ?_
 refine WQ.blockRet ?_
 refine WQ.thenRet ?_
 refine dn1 Try.results140 rfl (fun a w s => ?_)
 · have e : mayErr h t = 6 := by
     unfold mayErr; rw [if_pos hok, if_neg (by simp [est] at h14; omega), if_pos (by first | (left; have h16 := h16; simp [est] at h16; omega) | (left; have h17 := h17; simp [est] at h17; omega) | (right; have h18 := h18; simp [est] at h18; omega) | (right; have h16 := h16; simp [est] at h16; omega))]
   rw [e]
   exact ⟨⟨B1, hB1, ebk⟩, rfl, s.wp.sub (foc_out hK (set1_same hl1).symm [] Hl)⟩
 refine WC.skip' ?_
 refine WQ.blockEnd ?_
 refine WQ.next ?_
 refine sR ?_
 refine pA rfl rfl ?_
 refine nN ?_
 refine WC.ret ?_
 refine dn1 Try.results140 rfl (fun a w s => ?_)
 · have e : mayErr h t = 0 := by
     unfold mayErr; rw [if_pos hok, if_neg (by simp [est] at h14; omega), if_neg (by simp [est] at *; omega)]
   rw [e]
   exact ⟨⟨B1, hB1, ebk⟩, rfl, s.wp.sub (foc_out hK (set1_same hl1).symm [] Hl)⟩
 refine WC.region ?_
 refine pP (Y.eql rfl rfl) rfl ?_
 refine pA rfl rfl ?_
 refine nN ?_
 refine WC.cond rfl (fun h16 => ?_) (fun h16 => ?_)
 refine sR ?_
 refine pA rfl rfl ?_
 refine nN ?_
 refine WC.ret ?_
 refine WQ.blockRet ?_
 refine WQ.thenRet ?_
 refine dn1 Try.results140 rfl (fun a w s => ?_)
 · have e : mayErr h t = 6 := by
     unfold mayErr; rw [if_pos hok, if_neg (by simp [est] at h14; omega), if_pos (by first | (left; have h16 := h16; simp [est] at h16; omega) | (left; have h17 := h17; simp [est] at h17; omega) | (right; have h18 := h18; simp [est] at h18; omega) | (right; have h16 := h16; simp [est] at h16; omega))]
   rw [e]
   exact ⟨⟨B1, hB1, ebk⟩, rfl, s.wp.sub (foc_out hK (set1_same hl1).symm [] Hl)⟩
 refine WC.skip' ?_
 refine WQ.blockEnd ?_
 refine WQ.next ?_
 refine sR ?_
 refine pA rfl rfl ?_
 refine nN ?_
 refine WC.ret ?_
 refine dn1 Try.results140 rfl (fun a w s => ?_)
 · have e : mayErr h t = 0 := by
     unfold mayErr; rw [if_pos hok, if_neg (by simp [est] at h14; omega), if_neg (by simp [est] at *; omega)]
   rw [e]
   exact ⟨⟨B1, hB1, ebk⟩, rfl, s.wp.sub (foc_out hK (set1_same hl1).symm [] Hl)⟩

section
variable [Inhabited DSx] {Q : Exit → Act → World → Prop} {E : Env} {n : Nat} {H : Hp} {F G : SF} {u : World}
theorem E.may {f : FuncId} {args : Array Operand} {ts : Array TypeId} {d : Nat} {T' : TypeId} {p : String} {af : Array Edge} {B : Bk} {Hl : Hp} (Hx : Hp) (h : List R) (t : Int) (hf : f = 140) (hB : BOk B h) (hR : Right h)
    (hH : H = Hx ++ (B.hp ++ Hl)) (hF : F = (SF.bk u.heap.size B).sep G) (hx : evs E args.toList = some [B.ptr, .int .i64 t]) (hn : Nat.blt d n = true) :
    Eff Try.prog E n H F u ⟨some d, .call { callee := .value (.func f), args := args, argTypes := ts }, T', p, af, none⟩ (fun _ : {i : Bk // BOk i h ∧ i.bk = B.bk} => (d, .int .i64 (mayErr h t)) :: E) (fun i => Hx ++ (i.1.hp ++ Hl)) (fun i => (SF.bk u.heap.size i.1).sep G) := by
  subst hf hF
  refine Proofs.Ytdbcimadjmdffaa.E.callM (fun _ => .int .i64 (mayErr h t)) _ _ Try.call140 hx (fun w hw => ?_) hn
  rw [hH] at hw
  refine (w_may u B (Hx ++ Hl) G h t w (hw.sub (hp_move B Hx Hl)) hB hR).mono fun e w' ⟨i, he, hw'⟩ => ⟨i, he, hw'.sub ?_⟩
  refine Hsub.of_perm ?_
  rw [← List.append_assoc, ← List.append_assoc]
  exact List.perm_append_comm.append_right Hl
/-- Undo, no Txn in focus. -/
theorem E.undoU {f : FuncId} {args : Array Operand} {ts : Array TypeId} {d : Nat} {T' : TypeId} {p : String} {af : Array Edge} {B : Bk} {Hl : Hp} (Hx : Hp) (h : List R) (t : Int) (hf : f = 141) (hB : BOk B h) (hlen : h.length ≤ 60)
    (hH : H = Hx ++ (B.hp ++ Hl)) (hF : F = (SF.bk u.heap.size B).sep G) (hx : evs E args.toList = some [B.ptr, .int .i64 t]) (hn : Nat.blt d n = true) :
    Eff Try.prog E n H F u ⟨some d, .call { callee := .value (.func f), args := args, argTypes := ts }, T', p, af, none⟩ (fun _ : {i : Bk // BOk i h ∧ i.bk = B.bk ∧ Keeps B i} => (d, (undoB h t).val) :: E) (fun i => Hx ++ (i.1.hp ++ Hl)) (fun i => (SF.bk u.heap.size i.1).sep G) := by
  subst hf hF
  refine Proofs.Ytdbcimadjmdffaa.E.callM (fun _ => (undoB h t).val) _ _ Try.call141 hx (fun w hw => ?_) hn
  rw [hH] at hw
  refine (w_undo u B (Hx ++ Hl) G t w (hw.sub (hp_move B Hx Hl)) (hB.up hlen)).mono fun e w' ⟨i, he, hw'⟩ => ?_
  obtain ⟨hB1, _, hla, hup⟩ := hB.of i.2
  refine ⟨⟨i.1.1, hB1, (of_l i.2).2.2.2.2.1, of_keeps i.2⟩, ?_, hw'.sub ?_⟩
  · rw [he, undoR_B hB.l hla hup]
  · refine Hsub.of_perm ?_
    rw [← List.append_assoc, ← List.append_assoc]
    exact List.perm_append_comm.append_right Hl
end

theorem Hsub.third {x y z : Nat × List Value × TypeId} {l : Hp} : Hsub [z] (x :: y :: z :: l) := Hsub.of_sub (List.Sublist.cons _ (List.Sublist.cons _ (List.Sublist.cons_cons _ (List.nil_sublist _))))
section
variable [Inhabited DSx] {E : Env} {n : Nat} {H H' K : Hp} {F F' : SF} {w0 : World}
theorem Wp.toK {w : World} (h : Wp w0 H F w) (k : Hsub K H) : Wp w0 K SF.top w := ⟨h.1.sub k, trivial, fun _ _ h => h, h.2.2.2⟩
theorem ext_K {d : Nat} {v : Value} (hl : look E d = none) (k : Hsub K H') : if false = true then sub E ((d, v) :: E) else ∀ a w, St ((d, v) :: E) n H' F' w0 a w → St E n (wkH (some K) H) (wkF (some K) F) w0 a w := by
  simp only [Bool.false_eq_true, if_false]
  exact fun a w s => have h := s.wp.toK k; ⟨s.env.weak (sub_push hl), h.1, h.2.1, h.2.2.1, h.2.2.2⟩
end

theorem w_rollStep (l : List R) (A : Option Addr) (b o c : Nat) (t : Int) (w : World) (hr : RL w A b o l) : Ret Try.prog 85 [.slice A l.length c, .int .i64 t] w (.tuple #[(rollOf l t).1.val, .int .i64 (rollOf l t).2]) := by
 refine enter Try.func85 rfl Try.ntmps85 rfl SF.top trivial ?_
 refine sR ?_
 refine WL.eff (E.alloc Try.zeroValue34 rfl rfl) rfl (fun b1 => ?_)
 refine pA rfl rfl ?_
 refine nN ?_
 refine sR ?_
 refine pM rfl rfl ?_
 refine WL.eff (E.read [_] l A b o c rfl (fun w hw => hr.below hw.2.2.2) rfl rfl rfl) rfl (fun i => ?_)
 obtain ⟨B, hB⟩ := i
 dsimp only
 refine pM rfl rfl ?_
 refine pP (Y.extract rfl rfl) rfl ?_
 refine pP (Y.extract rfl rfl) rfl ?_
 refine pA rfl rfl ?_
 refine pA rfl rfl ?_
 refine nN ?_
 refine WC.seq ?_
 refine sR ?_
 refine pM rfl rfl ?_
 refine pP (Y.neq rfl rfl) rfl ?_
 refine nN ?_
 refine WC.cond rfl (fun h15 => ?_) (fun h15 => ?_)
 refine sR ?_
 refine pP (Y.build rfl (bf_34 )) rfl ?_
 refine pM rfl rfl ?_
 refine WL.eff (E.store Try.sizeOf34 rfl rfl rfl rfl rfl u0 rfl rfl) rfl (fun _ => ?_)
 refine pA rfl rfl ?_
 refine nN ?_
 refine WC.ret ?_
 refine WQ.thenRet ?_
 refine WQ.done Try.results85 (RVs.cons (RV.cell wd_34 rfl m0 rfl) (RVs.cons (RV.tmp rfl) RVs.nil)) (fun a w s => ?_)
 · refine ⟨?_, s.low⟩
   clear s
   have e : rollOf l t = (R.zero, logErr l) := by unfold rollOf; rw [if_neg (by simpa using h15)]
   rw [e]
   rfl
 refine WC.skip' ?_
 refine WQ.next ?_
 refine WC.seq ?_
 refine WC.seq ?_
 have h0 : logErr l = 0 := by simpa using h15
 obtain ⟨h60, hR⟩ := log_right h0
 have hB0 := hB h0
 refine WC.region ?_
 refine pM rfl rfl ?_
 refine pM rfl rfl ?_
 refine WL.eff (E.may [_] l.reverse t rfl hB0 hR rfl rfl rfl rfl) rfl (fun i => ?_)
 obtain ⟨B1, hB1, ebk1⟩ := i
 dsimp only
 have e01 : B.ptr = B1.ptr := by unfold Bk.ptr; rw [ebk1]
 rw [e01]
 refine pA rfl rfl ?_
 refine nN ?_
 refine sR ?_
 refine pM rfl rfl ?_
 refine pP (Y.neq rfl rfl) rfl ?_
 refine nN ?_
 refine WC.cond rfl (fun h22 => ?_) (fun h22 => ?_)
 refine sR ?_
 refine pP (Y.build rfl (bf_34 )) rfl ?_
 refine pM rfl rfl ?_
 refine WL.eff (E.store Try.sizeOf34 rfl rfl rfl rfl rfl u0 rfl rfl) rfl (fun _ => ?_)
 refine pA rfl rfl ?_
 refine nN ?_
 refine WC.ret ?_
 refine WQ.thenRet ?_
 refine WQ.done Try.results85 (RVs.cons (RV.cell wd_34 rfl m0 rfl) (RVs.cons (RV.tmp rfl) RVs.nil)) (fun a w s => ?_)
 · refine ⟨?_, s.low⟩
   clear s
   have e : rollOf l t = (R.zero, mayErr l.reverse t) := by rw [rollOf_may h0, if_neg (by simpa using h22)]
   rw [e]
   rfl
 refine WC.skip' ?_
 refine WQ.next ?_
 refine sR ?_
 refine pM rfl rfl ?_
 refine pM rfl rfl ?_
 refine WL.eff (E.undoU [_] l.reverse t rfl hB1 (by simpa using h60) rfl rfl rfl rfl) rfl (fun i => ?_)
 refine WL.eff (E.store Try.sizeOf34 rfl rfl rfl rfl rfl u0 rfl rfl) rfl (fun _ => ?_)
 refine pA rfl rfl ?_
 refine nN ?_
 refine WC.ret ?_
 refine WQ.done Try.results85 (RVs.cons (RV.cell wd_34 rfl m0 rfl) (RVs.cons (RV.tmp rfl) RVs.nil)) (fun a w s => ?_)
 · refine ⟨?_, s.low⟩
   clear s
   have e : rollOf l t = (undoB l.reverse t, 0) := by rw [rollOf_may h0, if_pos (by simpa using h22)]
   rw [e]
   rfl

theorem w_rollAbort (x : Wd) (A : Option Addr) (b o c : Nat) (t : Int) (w : World) (hm : x.log.length ≤ maxLen) (hcap : x.log.length ≤ c) (hr : RL w A b o x.log) : RetW Try.prog 88 [x.val A c, .int .i64 t] w (abortOf x t).1 [.int .i64 (abortOf x t).2] := by
 refine enter Try.func88 rfl Try.ntmps88 rfl SF.top trivial ?_
 refine sR ?_
 refine WL.eff (E.box rfl rfl rfl) rfl (fun b1 => ?_)
 refine WL.eff (E.alloc Try.zeroValue54 rfl rfl) rfl (fun b2 => ?_)
 refine pA rfl rfl ?_
 refine nN ?_
 refine sR ?_
 refine pV (Y.loadAN wd_54 rfl m1 (r := x.cl A c) rfl) rfl ?_
 refine WL.eff (E.wkopen [_, _] x A b o c rfl hcap (fun w hw => hr.below hw.2.2.2) rfl rfl rfl) rfl (fun i => ?_)
 obtain ⟨⟨B, dk⟩, hB⟩ := i
 dsimp only at hB ⊢
 refine pM rfl rfl ?_
 refine pP (Y.extract rfl rfl) rfl ?_
 refine pP (Y.extract rfl rfl) rfl ?_
 refine pA rfl rfl ?_
 refine pA rfl rfl ?_
 refine nN ?_
 refine WC.seq ?_
 refine sR ?_
 refine pM rfl rfl ?_
 refine pP (Y.neq rfl rfl) rfl ?_
 refine nN ?_
 refine WC.cond rfl (fun h16 => ?_) (fun h16 => ?_)
 refine sR ?_
 refine pP (Y.build rfl (bf_54 )) rfl ?_
 refine pM rfl rfl ?_
 refine WL.eff (E.store Try.sizeOf54 rfl rfl rfl rfl rfl u0 rfl rfl) rfl (fun _ => ?_)
 refine pA rfl rfl ?_
 refine nN ?_
 refine WC.ret ?_
 refine WQ.thenRet ?_
 refine WQ.done Try.results88 (RVs.cons (RV.cell wd_54 rfl m0 rfl) (RVs.cons (RV.tmp rfl) RVs.nil)) (fun a w s => ?_)
 · have e : abortOf x t = (Wd.zero, worldErr x) := by
     unfold abortOf; rw [if_neg (by simpa using h16)]
   rw [e]
   exact ⟨(none, 0), rfl, s.low, own_nil _ _ _ _⟩
 refine WC.skip' ?_
 refine WQ.next ?_
 refine WC.seq ?_
 refine WC.seq ?_
 have h0 : worldErr x = 0 := by simpa using h16
 obtain ⟨hl0, h60, hR, hsf, _⟩ := world_right h0
 have hB0 := hB h0
 have hlen : x.h.length = x.log.length := by simp [Wd.h]
 have hrm : (rollOf x.log t).2 = mayErr x.h t := by
   rw [rollOf_may hl0]
   split
   · rename_i hh; exact hh.symm
   · rfl
 refine WC.region ?_
 refine pM rfl rfl ?_
 refine pP (Y.nilCheck rfl) rfl ?_
 refine pP (Y.fieldAddr fa_123_0 rfl) rfl ?_
 refine pV (Y.load fl_105 rfl m2 rfl) rfl ?_
 refine pM rfl rfl ?_
 refine WL.eff (E.may [_, _, _] x.h t rfl hB0 hR rfl rfl rfl rfl) rfl (fun i => ?_)
 obtain ⟨B9, hB9, ebk9⟩ := i
 dsimp only
 have e09 : B.ptr = B9.ptr := by unfold Bk.ptr; rw [ebk9]
 rw [show x.dk B dk A c = x.dk B9 dk A c by unfold Wd.dk; rw [e09], e09]
 refine pA rfl rfl ?_
 refine nN ?_
 refine sR ?_
 refine pM rfl rfl ?_
 refine pP (Y.neq rfl rfl) rfl ?_
 refine nN ?_
 refine WC.cond rfl (fun h26 => ?_) (fun h26 => ?_)
 refine sR ?_
 refine pP (Y.build rfl (bf_54 )) rfl ?_
 refine pM rfl rfl ?_
 refine WL.eff (E.store Try.sizeOf54 rfl rfl rfl rfl rfl u0 rfl rfl) rfl (fun _ => ?_)
 refine pA rfl rfl ?_
 refine nN ?_
 refine WC.ret ?_
 refine WQ.thenRet ?_
 refine WQ.done Try.results88 (RVs.cons (RV.cell wd_54 rfl m0 rfl) (RVs.cons (RV.tmp rfl) RVs.nil)) (fun a w s => ?_)
 · have e : abortOf x t = (Wd.zero, mayErr x.h t) := by
     unfold abortOf
     rw [if_pos h0, if_neg (by rw [hrm]; simpa using h26), hrm]
   rw [e]
   exact ⟨(none, 0), rfl, s.low, own_nil _ _ _ _⟩
 refine WC.skip' ?_
 refine WQ.next ?_
 refine WC.seq ?_
 refine WC.seq ?_
 have hm0 : mayErr x.h t = 0 := by simpa using h26
 have hro : (rollOf x.log t).2 = 0 := hrm.trans hm0
 obtain ⟨ht, hs⟩ := may_ok hm0
 refine WC.region ?_
 refine pM rfl rfl ?_
 refine pP (Y.nilCheck rfl) rfl ?_
 refine pP (Y.fieldAddr fa_123_0 rfl) rfl ?_
 refine pV (Y.load fl_105 rfl m2 rfl) rfl ?_
 refine pM rfl rfl ?_
 refine WL.eff (E.of [_, _, _] rfl rfl rfl rfl rfl) rfl (fun i => ?_)
 obtain ⟨⟨B1, y0, K0⟩, hOf, hK0⟩ := i
 obtain ⟨hB1, hst, hla, hup⟩ := hB9.of hOf
 obtain ⟨el, eA, ec, epg, ebk, _⟩ := of_l hOf
 dsimp only at hOf hK0 hB1 hst hla hup el eA ec epg ebk ⊢
 have e0 : B9.ptr = B1.ptr := by unfold Bk.ptr; rw [ebk]
 rw [show x.dk B9 dk A c = x.dk B1 dk A c by unfold Wd.dk; rw [e0], e0]
 have hl1 := hOf.1
 dsimp only at hl1
 have est : y0.st = (stt x.h t : Int) := hst.trans (hR.st t)
 have hBl : B1.l.length = x.log.length := by rw [hB1.l]; simp [Wd.h]
 refine pA rfl rfl ?_
 refine nN ?_
 refine WC.block ?_
 refine WC.sub (foc_unn hK0 [_, _, _] []) ?_
 refine WC.loop (ι := List R × Bk) (fun _ => [(0, x.val A c), (1, .int .i64 t), (2, .pointer (some ⟨b1, 0, none⟩)), (4, .pointer (some ⟨b2, 0, none⟩)), (6, .pointer (some ⟨dk, 0, none⟩)), (9, .pointer (some ⟨y0.blk, 0, none⟩))]) (fun k => ((b2, Wd.zero.cl none 0, 54) :: (b1, x.cl A c, 54) :: x.dk k.2 dk A c :: (k.2.hp ++ []))) (fun k => (SF.bk w.heap.size k.2).sep SF.top) (fun k => (Right k.1 ∧ k.1.length ≤ 60 ∧ abortH (61 - x.log.length) x.h t = abortH (61 - k.1.length) k.1 t ∧ (stt k.1 t = 1 ∨ stt k.1 t = 3 ∨ stt k.1 t = 4)) ∧ BOk k.2 k.1 ∧ k.2.bk = B1.bk ∧ ∃ y, look1 k.2.tx t = some y ∧ y.blk = y0.blk) (fun k => 61 - k.1.length) (x.h, B1) ⟨⟨hR, by show x.h.length ≤ 60; omega, by show _ = abortH (61 - x.h.length) x.h t; rw [hlen], hs.elim .inl (fun h => .inr (.inl h))⟩, hB1, rfl, y0, hl1, rfl⟩ (fun a w s => s.weak (by repeat (first | exact sub_nil _ | refine sub_cons rfl ?_))) (fun k hk => ?_)
 obtain ⟨h, B2⟩ := k
 obtain ⟨⟨hRh, hle, habt, hst9⟩, hB2, ebk2, y, hl2, hyb⟩ := hk
 dsimp only at hRh hle habt hst9 hB2 ebk2 hl2 ⊢
 obtain ⟨K, hK⟩ := foc_of hl2
 refine WC.sub (foc_inn hK [_, _, _] []) ?_
 have est : y.st = (stt h t : Int) := (hB2.tx t y hl2).1.trans (hRh.st t)
 have hBl2 : B2.l.length = h.length := by rw [hB2.l]; simp
 rw [← hyb]
 refine WC.seq ?_
 refine sR ?_
 refine pM rfl rfl ?_
 refine pP (Y.nilCheck rfl) rfl ?_
 refine pP (Y.fieldAddr fa_117_0 rfl) rfl ?_
 refine pV (Y.load fl_3 rfl m3 rfl) rfl ?_
 refine pP (Y.neq rfl rfl) rfl ?_
 refine nN ?_
 refine WC.cond rfl (fun h39 => ?_) (fun h39 => ?_)
 refine WC.skip' ?_
 refine WQ.next ?_
 refine WC.block ?_
 refine WC.seq ?_
 refine WC.seq ?_
 refine WC.sub (foc_unn hK [_, _, _] []) ?_
 have h4 : stt h t ≠ 4 := by simp [est] at h39; omega
 refine WC.region ?_
 refine pM rfl rfl ?_
 refine WL.eff (E.call Try.call129 rfl (fun _ w s => w_full B2 dk 1 _ _ w (s.hp.blk (x.dk B2 dk A c) (by repeat (first | exact List.Mem.head _ | apply List.Mem.tail))).1 (s.hp.blk B2.own1 (by repeat (first | exact List.Mem.head _ | apply List.Mem.tail))).1 (by omega) (by omega)) rfl) rfl (fun _ => ?_)
 refine nN ?_
 refine WC.cond rfl (fun h41 => ?_) (fun h41 => ?_)
 refine WC.seq ?_
 have hfl : h.length = 60 := by simp [hBl2] at h41; omega
 refine WC.region ?_
 refine pP (Y.build rfl (bf_54 )) rfl ?_
 refine WL.eff (E.store Try.sizeOf54 rfl rfl rfl rfl rfl u0 rfl rfl) rfl (fun _ => ?_)
 refine pA rfl rfl ?_
 refine nN ?_
 refine WC.ret ?_
 refine WQ.thenRet ?_
 refine WQ.blockRet ?_
 refine WQ.thenRet ?_
 refine WQ.blockRet ?_
 refine WQ.thenRet ?_
 refine WQ.done Try.results88 (RVs.cons (RV.cell wd_54 rfl m0 rfl) (RVs.cons (RV.tmp rfl) RVs.nil)) (fun a w s => ?_)
 · have e : abortOf x t = (Wd.zero, 2) := by
     unfold abortOf
     rw [if_pos h0, if_pos hro, habt, show 61 - h.length = 0 + 1 by omega, abortH, if_neg h4, abortH]
   rw [e]
   exact ⟨(none, 0), rfl, s.low, own_nil _ _ _ _⟩
 refine WC.skip' ?_
 refine WQ.next ?_
 have hlt : h.length < 60 := by simp [hBl2] at h41; omega
 have hRu := right_undo hRh hlt ht (by omega)
 refine WC.drawm (some [x.dk B2 dk A c]) [(0, .q false), (1, .q false), (2, .q false), (3, .q true), (4, .q false), (5, .q false), (6, .q false), (7, .q true), (8, .q false), (9, .s false), (10, .s false)] (fun _ h => h.toK Hsub.third) mixed (by kernel_rfl) ?_
 refine dP (Y.move rfl) rfl rfl ?_
 refine dP (Y.nilCheck rfl) rfl rfl ?_
 refine dP (Y.fieldAddr fa_123_0 rfl) rfl rfl ?_
 refine dV (Y.load fl_105 rfl m0 rfl) rfl rfl ?_
 refine dP (Y.move rfl) rfl rfl ?_
 refine dP (Y.nilCheck rfl) rfl rfl ?_
 refine dP (Y.fieldAddr fa_123_0 rfl) rfl rfl ?_
 refine dV (Y.load fl_105 rfl m0 rfl) rfl rfl ?_
 refine dP (Y.move rfl) rfl rfl ?_
 refine WDm.spec (WS.free rfl (E.undoU [_, _, _] h t rfl hB2 (by omega) rfl rfl rfl rfl)) (fun _ => ext_K rfl Hsub.third) (fun i => ?_) (fun _ _ h => h.toK Hsub.third)
 obtain ⟨B3, hB3, ebB3, hkB3⟩ := i
 dsimp only
 have epB3 : B2.ptr = B3.ptr := by unfold Bk.ptr; rw [ebB3]
 rw [show x.dk B2 dk A c = x.dk B3 dk A c by unfold Wd.dk; rw [epB3], epB3]
 refine WDm.spec (WS.free rfl (E.put [_, _, _] h (undoB h t) rfl hB3 hRu rfl rfl rfl rfl)) (fun _ => ext_K rfl Hsub.third) (fun i => ?_) (fun _ _ h => h.toK Hsub.third)
 obtain ⟨B4, hB4, ebB4, hkB4⟩ := i
 dsimp only
 have epB4 : B3.ptr = B4.ptr := by unfold Bk.ptr; rw [ebB4]
 rw [show x.dk B3 dk A c = x.dk B4 dk A c by unfold Wd.dk; rw [epB4]]
 refine WDm.nil (WQ.and ?_)
 refine WQ.blockEnd ?_
 · refine fun a w s => ⟨(undoB h t :: h, B4), ⟨⟨hRu, by simp; omega, ?_, ?_⟩, hB4, ebB4.trans (ebB3.trans ebk2), ?_⟩, by simp; omega, ?_⟩
   · dsimp only
     rw [habt, show 61 - h.length = (60 - h.length) + 1 by omega, abortH, if_neg h4, List.length_cons, show 61 - (h.length + 1) = 60 - h.length by omega]
   · have := stt_undo hRu
     dsimp only
     omega
   · obtain ⟨z3, hz3, e3⟩ := hkB3 t y hl2
     obtain ⟨z4, hz4, e4⟩ := hkB4 t z3 hz3
     first
       | exact ⟨z4, hz4, e4.trans e3⟩
       | exact ⟨z4, hz4, e4.trans (e3.trans hyb)⟩
   · dsimp only
     exact s.weak (by repeat (first | exact sub_nil _ | refine sub_cons rfl ?_))
 refine WC.exit ?_
 refine WQ.thenExit ?_
 refine WQ.thenExit ?_
 refine WQ.blockExit ?_
 refine WQ.next ?_
 refine WC.seq ?_
 refine WC.sub (foc_unn hK [_, _, _] []) ?_
 refine WC.region ?_
 refine pM rfl rfl ?_
 refine WL.eff (E.done (Hl := [_]) B2 x A c dk rfl Hsub.three rfl rfl) rfl (fun _ => ?_)
 refine WL.eff (E.store Try.sizeOf54 rfl rfl rfl rfl rfl u2 rfl rfl) rfl (fun _ => ?_)
 refine pA rfl rfl ?_
 refine nN ?_
 refine WC.ret ?_
 refine WQ.done Try.results88 (RVs.cons (RV.cell wd_54 rfl m2 rfl) (RVs.cons (RV.tmp rfl) RVs.nil)) (fun a w s => ?_)
 · have h39 := h39
   have h4 : stt h t = 4 := by simp [est] at h39; omega
   have e : abortOf x t = (x.at h, 0) := by
     unfold abortOf
     rw [if_pos h0, if_pos hro, habt, show 61 - h.length = (60 - h.length) + 1 by omega, abortH, if_pos h4]
     try rfl
   rw [e]
   have el3 : B2.l = (x.at h).log := by rw [hB2.l]; rfl
   refine ⟨(B2.A, B2.c), ?_, s.low, by rw [← el3]; exact s.fact.1.2.1.2.1.1⟩
   rw [← show (⟨x.disk, B2.l, x.safe⟩ : Wd) = x.at h by rw [el3]; rfl]
   rfl
end Go.Proofs.Ytdbcimadjmdffaa
