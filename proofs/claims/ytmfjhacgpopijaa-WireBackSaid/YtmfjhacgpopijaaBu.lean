/- Worlds: what Open, Check and Now return, and what the document says of them. No condition. -/
import Derived.Test.YtmfjhacgpopijaaP4
set_option maxRecDepth 100000
set_option linter.unusedVariables false
set_option linter.unusedSimpArgs false
set_option linter.unusedSectionVars false
set_option maxHeartbeats 4000000
namespace Go.Proofs.Ytmfjhacgpopijaa
open Go.RowKit Go.Joins
theorem short_max {l : List R} (h : l.length ≤ 60) : l.length ≤ maxLen := by unfold maxLen; omega
def Wd.cl (x : Wd) (A : Option Addr) (c : Nat) : List Value := [.int .i64 x.disk.p0.c0, .int .i64 x.disk.p0.c1, .int .i64 x.disk.p0.c2, .int .i64 x.disk.p0.last, .int .i64 x.disk.p1.c0, .int .i64 x.disk.p1.c1, .int .i64 x.disk.p1.c2, .int .i64 x.disk.p1.last, .int .i64 x.disk.p2.c0, .int .i64 x.disk.p2.c1, .int .i64 x.disk.p2.c2, .int .i64 x.disk.p2.last, .slice A x.log.length c, .int .i64 x.safe]
def Wd.val (x : Wd) (A : Option Addr) (c : Nat) : Value := .agg (x.cl A c).toArray
theorem errW_form {x : Wd} (h0 : logErr x.log = 0) (h1 : 0 ≤ x.safe ∧ x.safe ≤ x.log.length) {p : Int} (hp : 0 ≤ p ∧ p ≤ 2) (hd : diskOk x p = false) : worldErr x = 1 := by
  unfold worldErr
  rw [if_pos h0, if_pos (wi_iff.2 h1), if_neg]
  intro h
  simp only [Bool.and_eq_true] at h
  have h1 : p = 0 ∨ p = 1 ∨ p = 2 := by omega
  rcases h1 with rfl | rfl | rfl
  · rw [h.1] at hd; cases hd
  · rw [h.2.1] at hd; cases hd
  · rw [h.2.2] at hd; cases hd
theorem take_cast {l : List R} {i : Int} (h : 0 ≤ i ∧ i ≤ l.length) : i = ((l.take i.toNat).length : Int) := by simp; omega
theorem disk_cell (x : Wd) (A : Option Addr) (c : Nat) (p : Int) (hp : 0 ≤ p ∧ p ≤ 2) : nth (x.cl A c) (0 + 0 + p.toNat * 4 + 3) = some (.int .i64 (x.disk.get p).last) := by
  have h1 : p = 0 ∨ p = 1 ∨ p = 2 := by omega
  rcases h1 with rfl | rfl | rfl <;> rfl
theorem disk_page (x : Wd) (A : Option Addr) (c : Nat) (p : Int) (hp : 0 ≤ p ∧ p ≤ 2) : seg (x.cl A c) (0 + 0 + p.toNat * 4) 4 = some (x.disk.get p).cl := by
  have h1 : p = 0 ∨ p = 1 ∨ p = 2 := by omega
  rcases h1 with rfl | rfl | rfl <;> rfl

theorem ret_world {x : Wd} {e : Int} {p : Value} (h : worldErr x = e) : Ending.returned (packed [p, .int .i64 e]) = .returned (.tuple #[p, .int .i64 (worldErr x)]) := by rw [h]; rfl
theorem Hp.sub_two (Hl : Hp) (B2 B : Bk) (x y : Nat × List Value × TypeId) : List.Sublist (B.hp ++ Hl) (x :: y :: (B2.hp ++ (B.hp ++ Hl))) :=
  List.Sublist.cons _ (List.Sublist.cons _ (List.sublist_append_right _ _))

theorem w_open (u : World) (Hl : Hp) (G : SF) (x : Wd) (A : Option Addr) (b o c : Nat) (w : World) (hw : Wp u Hl G w) (hcap : x.log.length ≤ c) (hr : ∀ w, Wp u Hl G w → RL w A b o x.log) : Calls Try.prog 24 [x.val A c].toArray w fun e w' => ∃ i : {B : Bk // worldErr x = 0 → BOk B x.h}, e = .returned (.tuple #[i.1.ptr, .int .i64 (worldErr x)]) ∧ Wp u (i.1.hp ++ Hl) ((SF.bk u.heap.size i.1).sep G) w' := by
 refine enterW Try.func24 rfl Try.ntmps24 rfl hw ?_
 refine sR ?_
 refine WL.eff (E.box rfl rfl rfl) rfl (fun b1 => ?_)
 refine pA rfl rfl ?_
 refine pA rfl rfl ?_
 refine nN ?_
 refine sR ?_
 refine pP (Y.fieldAddr fa_28_1 rfl) rfl ?_
 refine pV (Y.load fl_26 rfl m0 rfl) rfl ?_
 refine WL.eff (E.read [_] x.log A b o c rfl (fun w hw => hr _ ((hw.sub (Hsub.of_sub (List.sublist_cons_self _ _))).le (SF.le_refl _))) rfl rfl rfl) rfl (fun i => ?_)
 obtain ⟨B, hB⟩ := i
 dsimp only
 refine pM rfl rfl ?_
 refine pP (Y.extract rfl rfl) rfl ?_
 refine pP (Y.extract rfl rfl) rfl ?_
 refine pA rfl rfl ?_
 refine pA rfl rfl ?_
 refine nN ?_
 refine WC.seq ?_
 refine sR ?_
 refine pM rfl rfl ?_
 refine pP (Y.neq rfl rfl) rfl ?_
 refine nN ?_
 refine WC.cond rfl (fun h17 => ?_) (fun h17 => ?_)
 refine sR ?_
 refine pM rfl rfl ?_
 refine pM rfl rfl ?_
 refine pA rfl rfl ?_
 refine pA rfl rfl ?_
 refine nN ?_
 refine WC.ret ?_
 refine WQ.thenRet ?_
 refine WQ.done Try.results24 (RVs.cons (RV.tmp rfl) (RVs.cons (RV.tmp rfl) RVs.nil)) (fun a w s => ?_)
 · have e : worldErr x = logErr x.log := by unfold worldErr; rw [if_neg (by simpa using h17)]
   refine ⟨⟨B, fun h0 => by rw [e] at h0; simp [h0] at h17⟩, ret_world e, s.wp.sub (Hsub.of_sub (List.sublist_cons_self _ _))⟩
 refine WC.skip' ?_
 refine WQ.next ?_
 refine WC.seq ?_
 refine WC.seq ?_
 have h0 : logErr x.log = 0 := by simpa using h17
 have h60 := (log_right h0).1
 refine WC.region ?_
 refine pP (Y.fieldAddr fa_28_2 rfl) rfl ?_
 refine pV (Y.load fl_3 rfl m0 rfl) rfl ?_
 refine pP (Y.lss rfl rfl) rfl ?_
 refine pM rfl rfl ?_
 refine WL.split (t := 23) rfl (fun r h23 => ?_)
 cases r
 refine gT rfl ?_
 refine pP (Y.fieldAddr fa_28_2 rfl) rfl ?_
 refine gT rfl ?_
 refine pV (Y.load fl_3 rfl m0 rfl) rfl ?_
 refine gT rfl ?_
 refine pP (Y.fieldAddr fa_28_1 rfl) rfl ?_
 refine gT rfl ?_
 refine pV (Y.load fl_26 rfl m0 rfl) rfl ?_
 refine gT rfl ?_
 refine pP (Y.len Try.underlying26 rfl) rfl ?_
 refine gT rfl ?_
 refine pP (Y.gtr rfl rfl) rfl ?_
 refine pP (Y.pickF rfl rfl) rfl ?_
 refine nN ?_
 refine WC.cond rfl (fun h30 => ?_) (fun h30 => ?_)
 refine sR ?_
 refine pM rfl rfl ?_
 refine pA rfl rfl ?_
 refine pA rfl rfl ?_
 refine nN ?_
 refine WC.ret ?_
 refine WQ.thenRet ?_
 refine WQ.done Try.results24 (RVs.cons (RV.tmp rfl) (RVs.cons (RV.tmp rfl) RVs.nil)) (fun a w s => ?_)
 · have e : worldErr x = 3 := by unfold worldErr; rw [if_pos h0, if_neg (by rw [wi_iff]; simp_all <;> omega)]
   refine ⟨⟨B, fun h0 => by rw [e] at h0; cases h0⟩, ret_world e, s.wp.sub (Hsub.of_sub (List.sublist_cons_self _ _))⟩
 refine WC.skip' ?_
 refine WQ.next ?_
 refine WC.seq ?_
 refine WC.seq ?_
 have hsf : 0 ≤ x.safe ∧ x.safe ≤ x.log.length := by simp_all <;> omega
 refine WC.region ?_
 refine pP (Y.fieldAddr fa_28_0 rfl) rfl ?_
 refine pV (Y.loadAN wd_25 rfl m0 (r := x.disk.cl) rfl) rfl ?_
 refine pM rfl rfl ?_
 refine nN ?_
 refine WC.block ?_
 refine WC.loop (ι := Int) (fun p => [(1, .pointer (some ⟨b1, 0, none⟩)), (4, B.ptr), (33, x.disk.val), (34, .int .i64 p)]) (fun _ => (b1, x.cl A c, 28) :: (B.hp ++ Hl)) (fun _ => (SF.bk u.heap.size B).sep G) (fun p => (0 ≤ p ∧ p ≤ 3) ∧ ∀ q, 0 ≤ q → q < p → diskOk x q = true) (fun p => (3 - p).toNat) 0 ⟨by omega, fun q h1 h2 => absurd h2 (by omega)⟩ (fun a w s => s.weak (by repeat (first | exact sub_nil _ | refine sub_cons rfl ?_))) (fun p hp => ?_)
 obtain ⟨hp, hd⟩ := hp
 refine sR ?_
 refine pP (Y.lss rfl rfl) rfl ?_
 refine nN ?_
 refine WC.seq ?_
 refine WC.cond rfl (fun h35 => ?_) (fun h35 => ?_)
 refine WC.skip' ?_
 refine WQ.next ?_
 refine WC.seq ?_
 refine WC.block ?_
 refine WC.seq ?_
 have hp2 : 0 ≤ p ∧ p ≤ 2 := by simp at h35; omega
 refine WC.region ?_
 refine pM rfl rfl ?_
 refine pP (Y.indexK rfl rfl (ix_pages _ _ hp2)) rfl ?_
 refine WL.eff (E.alloc Try.zeroValue24 rfl rfl) rfl (fun b2 => ?_)
 refine pA rfl rfl ?_
 refine WL.eff (E.store Try.sizeOf24 rfl rfl rfl rfl rfl u0 rfl rfl) rfl (fun _ => ?_)
 refine nN ?_
 refine WC.seq ?_
 refine sR ?_
 refine pP (Y.fieldAddr fa_24_1 rfl) rfl ?_
 refine pV (Y.load fl_3 rfl m0 rfl) rfl ?_
 refine pP (Y.lss rfl rfl) rfl ?_
 refine pM rfl rfl ?_
 refine WL.split (t := 41) rfl (fun r h41 => ?_)
 cases r
 refine gT rfl ?_
 refine pP (Y.fieldAddr fa_24_1 rfl) rfl ?_
 refine gT rfl ?_
 refine pV (Y.load fl_3 rfl m0 rfl) rfl ?_
 refine gT rfl ?_
 refine pP (Y.fieldAddr fa_28_2 rfl) rfl ?_
 refine gT rfl ?_
 refine pV (Y.load fl_3 rfl m1 rfl) rfl ?_
 refine gT rfl ?_
 refine pP (Y.gtr rfl rfl) rfl ?_
 refine pP (Y.pickF rfl rfl) rfl ?_
 refine nN ?_
 refine WC.cond rfl (fun h47 => ?_) (fun h47 => ?_)
 refine sR ?_
 refine pM rfl rfl ?_
 refine pA rfl rfl ?_
 refine pA rfl rfl ?_
 refine nN ?_
 refine WC.ret ?_
 refine WQ.thenRet ?_
 refine WQ.blockRet ?_
 refine WQ.thenRet ?_
 refine WQ.thenRet ?_
 refine WQ.blockRet ?_
 refine WQ.thenRet ?_
 refine WQ.done Try.results24 (RVs.cons (RV.tmp rfl) (RVs.cons (RV.tmp rfl) RVs.nil)) (fun a w s => ?_)
 · have e : worldErr x = 1 := errW_form h0 hsf hp2 (by
     cases hd : diskOk x p
     · rfl
     · have := (diskOk_iff.1 hd).1; simp_all <;> omega)
   refine ⟨⟨B, fun h0 => by rw [e] at h0; cases h0⟩, ret_world e, s.wp.sub (Hsub.of_sub (by simp))⟩
 refine WC.skip' ?_
 refine WQ.next ?_
 refine WC.seq ?_
 have hl0 : 0 ≤ (x.disk.get p).last ∧ (x.disk.get p).last ≤ x.log.length := by simp_all <;> omega
 refine WC.region ?_
 refine pP (Y.fieldAddr fa_28_1 rfl) rfl ?_
 refine pV (Y.load fl_26 rfl m1 rfl) rfl ?_
 refine pP (Y.fieldAddr fa_24_1 rfl) rfl ?_
 refine pV (Y.load fl_3 rfl m0 rfl) rfl ?_
 refine pP (Y.slToN (x.log.take (x.disk.get p).last.toNat).length (take_cast hl0) Try.underlying26 Try.sizeOf48 rfl rfl (by simp; omega)) rfl ?_
 refine WL.eff (E.read [_, _] (x.log.take (x.disk.get p).last.toNat) A b o c rfl (fun w hw => (hr _ ((hw.sub (Hsub.of_sub (List.Sublist.cons _ (List.Sublist.cons _ (List.sublist_append_right _ _))))).le (SF.sep_snd _ _))).take _) rfl rfl rfl) rfl (fun i => ?_)
 obtain ⟨B2, hB2⟩ := i
 dsimp only
 have hB3 := hB2 (take_right h0 _)
 have hpg := hB3.pg
 refine pM rfl rfl ?_
 refine pP (Y.extract rfl rfl) rfl ?_
 refine pP (Y.extract rfl rfl) rfl ?_
 refine pA rfl rfl ?_
 refine pA rfl rfl ?_
 refine nN ?_
 refine WC.seq ?_
 refine WC.draw [(0, .q false), (1, .q false), (2, .q false), (3, .q false), (4, .q false), (5, .q true), (6, .q true), (7, .q false)] mixed (by kernel_rfl) ?_
 refine dP (Y.move rfl) rfl rfl ?_
 refine dP (Y.move rfl) rfl rfl ?_
 refine dP (Y.nilCheck rfl) rfl rfl ?_
 refine dP (Y.fieldAddr fa_78_1 rfl) rfl rfl ?_
 refine dP (Y.ixArr Try.underlying25 Try.sizeOf24 rfl rfl hp2.1 (by omega)) rfl rfl ?_
 refine dV (Y.loadAN wd_24 rfl m2 (page_at B2 p hp2)) rfl rfl ?_
 refine dV (Y.loadAN wd_24 rfl m0 (r := (x.disk.get p).cl) rfl) rfl rfl ?_
 refine dP (Y.neqA Try.eqGuardType24 rfl rfl (weq_page (B2.pg.get p) (x.disk.get p))) rfl rfl ?_
 refine WDm.nil (WQ.and ?_)
 refine WQ.next ?_
 refine WC.cond rfl (fun h65 => ?_) (fun h65 => ?_)
 refine sR ?_
 refine pM rfl rfl ?_
 refine pA rfl rfl ?_
 refine pA rfl rfl ?_
 refine nN ?_
 refine WC.ret ?_
 refine WQ.blockRet ?_
 refine WQ.thenRet ?_
 refine WQ.thenRet ?_
 refine WQ.blockRet ?_
 refine WQ.thenRet ?_
 refine WQ.done Try.results24 (RVs.cons (RV.tmp rfl) (RVs.cons (RV.tmp rfl) RVs.nil)) (fun a w s => ?_)
 · have e : worldErr x = 1 := errW_form h0 hsf hp2 (by
     cases hd : diskOk x p
     · rfl
     · rw [hpg, (diskOk_iff.1 hd).2] at h65; simp at h65)
   refine ⟨⟨B, fun h0 => by rw [e] at h0; cases h0⟩, ret_world e, (s.wp.sub (Hsub.of_sub (Hl.sub_two B2 B _ _))).le (SF.sep_snd _ _)⟩
 refine WC.skip' ?_
 refine WQ.blockEnd ?_
 refine WQ.next ?_
 refine WC.region ?_
 refine pP (Y.add rfl rfl (i64_in (by omega) (by omega))) rfl ?_
 refine pM rfl rfl ?_
 refine WL.nil ?_
 · have hok : diskOk x p = true := diskOk_iff.2 ⟨⟨hl0.1, by simp_all⟩, by rw [← hpg]; simpa using h65⟩
   refine fun a w s => ⟨p + 1, ⟨by omega, fun q h1 h2 => ?_⟩, by omega, ?_⟩
   · by_cases e : q = p
     · subst e; exact hok
     · exact hd q h1 (by omega)
   · exact ((s.sub (Hsub.of_sub (List.Sublist.cons _ (List.Sublist.cons_cons _ (List.sublist_append_right B2.hp (B.hp ++ Hl)))))).le (SF.sep_snd _ _)).weak (by repeat (first | exact sub_nil _ | refine sub_cons rfl ?_))
 refine gF rfl ?_
 refine gF rfl ?_
 refine gF rfl ?_
 refine gF rfl ?_
 refine gF rfl ?_
 refine pP (Y.pickT rfl rfl) rfl ?_
 refine nN ?_
 refine WC.condT rfl ?_
 refine sR ?_
 refine pM rfl rfl ?_
 refine pA rfl rfl ?_
 refine pA rfl rfl ?_
 refine nN ?_
 refine WC.ret ?_
 refine WQ.thenRet ?_
 refine WQ.blockRet ?_
 refine WQ.thenRet ?_
 refine WQ.thenRet ?_
 refine WQ.blockRet ?_
 refine WQ.thenRet ?_
 refine WQ.done Try.results24 (RVs.cons (RV.tmp rfl) (RVs.cons (RV.tmp rfl) RVs.nil)) (fun a w s => ?_)
 · have e : worldErr x = 1 := errW_form h0 hsf hp2 (by
     cases hd : diskOk x p
     · rfl
     · have := (diskOk_iff.1 hd).1; simp_all <;> omega)
   refine ⟨⟨B, fun h0 => by rw [e] at h0; cases h0⟩, ret_world e, s.wp.sub (Hsub.of_sub (by simp))⟩
 refine WC.exit ?_
 refine WQ.thenExit ?_
 refine WQ.thenExit ?_
 refine WQ.blockExit ?_
 refine WQ.next ?_
 refine sR ?_
 refine pM rfl rfl ?_
 refine pA rfl rfl ?_
 refine pA rfl rfl ?_
 refine nN ?_
 refine WC.ret ?_
 refine WQ.done Try.results24 (RVs.cons (RV.tmp rfl) (RVs.cons (RV.tmp rfl) RVs.nil)) (fun a w s => ?_)
 · have h35 := h35
   simp at h35
   have e : worldErr x = 0 := world_mk h0 hsf (fun q hq => hd q hq.1 (by omega))
   refine ⟨⟨B, fun _ => hB h0⟩, ret_world e, s.wp.sub (Hsub.of_sub (List.sublist_cons_self _ _))⟩
 refine gF rfl ?_
 refine gF rfl ?_
 refine gF rfl ?_
 refine gF rfl ?_
 refine gF rfl ?_
 refine gF rfl ?_
 refine pP (Y.pickT rfl rfl) rfl ?_
 refine nN ?_
 refine WC.condT rfl ?_
 refine sR ?_
 refine pM rfl rfl ?_
 refine pA rfl rfl ?_
 refine pA rfl rfl ?_
 refine nN ?_
 refine WC.ret ?_
 refine WQ.thenRet ?_
 refine WQ.done Try.results24 (RVs.cons (RV.tmp rfl) (RVs.cons (RV.tmp rfl) RVs.nil)) (fun a w s => ?_)
 · have e : worldErr x = 3 := by unfold worldErr; rw [if_pos h0, if_neg (by rw [wi_iff]; simp_all <;> omega)]
   refine ⟨⟨B, fun h0 => by rw [e] at h0; cases h0⟩, ret_world e, s.wp.sub (Hsub.of_sub (List.sublist_cons_self _ _))⟩

section
variable [Inhabited DSx] {Q : Exit → Act → World → Prop} {E : Env} {n : Nat} {H : Hp} {F G : SF} {u : World}
theorem E.wopen {f : FuncId} {args : Array Operand} {ts : Array TypeId} {d : Nat} {T' : TypeId} {p : String} {af : Array Edge} {Hl : Hp} (Hx : Hp) (x : Wd) (A : Option Addr) (b o c : Nat) (hf : f = 24) (hcap : x.log.length ≤ c) (hr : ∀ w, Wp u H F w → RL w A b o x.log) (hH : H = Hx ++ Hl)
    (hx : evs E args.toList = some [x.val A c]) (hn : Nat.blt d n = true) :
    Eff Try.prog E n H F u ⟨some d, .call { callee := .value (.func f), args := args, argTypes := ts }, T', p, af, none⟩ (fun i : {B : Bk // worldErr x = 0 → BOk B x.h} => (d, .tuple #[i.1.ptr, .int .i64 (worldErr x)]) :: E) (fun i => Hx ++ (i.1.hp ++ Hl)) (fun i => (SF.bk u.heap.size i.1).sep F) := by
  subst hf
  refine Proofs.Ytmfjhacgpopijaa.E.callM _ _ _ Try.call24 hx (fun w hw => ?_) hn
  refine (w_open u H F x A b o c w hw hcap hr).mono fun e w' ⟨i, he, hw'⟩ => ⟨i, he, hw'.sub ?_⟩
  rw [hH]
  refine Hsub.of_perm ?_
  rw [← List.append_assoc, ← List.append_assoc]
  exact List.perm_append_comm.append_right Hl
end

theorem w_worldCheck (x : Wd) (A : Option Addr) (b o c : Nat) (w : World) (hm : x.log.length ≤ maxLen) (hcap : x.log.length ≤ c) (hr : RL w A b o x.log) : Ret Try.prog 12 [x.val A c] w (.int .i64 (worldErr x)) := by
 refine enter Try.func12 rfl Try.ntmps12 rfl SF.top trivial ?_
 refine sR ?_
 refine WL.eff (E.box rfl rfl rfl) rfl (fun b1 => ?_)
 refine pA rfl rfl ?_
 refine nN ?_
 refine sR ?_
 refine pV (Y.loadAN wd_28 rfl m0 (r := x.cl A c) rfl) rfl ?_
 refine WL.eff (E.wopen [_] x A b o c rfl hcap (fun w hw => hr.below hw.2.2.2) rfl rfl rfl) rfl (fun i => ?_)
 refine pM rfl rfl ?_
 refine pP (Y.extract rfl rfl) rfl ?_
 refine pP (Y.extract rfl rfl) rfl ?_
 refine pA rfl rfl ?_
 refine pA rfl rfl ?_
 refine nN ?_
 refine sR ?_
 refine pM rfl rfl ?_
 refine pA rfl rfl ?_
 refine nN ?_
 refine WC.ret ?_
 refine dn1 Try.results12 rfl (fun a w s => ?_)
 · exact ⟨rfl, s.low⟩

theorem w_worldError (x : Wd) (A : Option Addr) (b o c : Nat) (w : World) (hm : x.log.length ≤ maxLen) (hcap : x.log.length ≤ c) (hr : RL w A b o x.log) : Ret Try.prog 6 [x.val A c] w (.int .i64 (worldErr x)) := by
 refine enter Try.func6 rfl Try.ntmps6 rfl SF.top trivial ?_
 refine sR ?_
 refine WL.eff (E.box rfl rfl rfl) rfl (fun b1 => ?_)
 refine pA rfl rfl ?_
 refine nN ?_
 refine WC.seq ?_
 refine sR ?_
 refine pP (Y.fieldAddr fa_28_1 rfl) rfl ?_
 refine pV (Y.load fl_26 rfl m0 rfl) rfl ?_
 refine WL.eff (E.call Try.call15 rfl (fun _ w s => w_logError x.log A b o c w hm hcap (hr.below s.low)) rfl) rfl (fun _ => ?_)
 refine pA rfl rfl ?_
 refine nN ?_
 refine sR ?_
 refine pM rfl rfl ?_
 refine pP (Y.neq rfl rfl) rfl ?_
 refine nN ?_
 refine WC.cond rfl (fun h10 => ?_) (fun h10 => ?_)
 refine sR ?_
 refine pM rfl rfl ?_
 refine pA rfl rfl ?_
 refine nN ?_
 refine WC.ret ?_
 refine WQ.thenRet ?_
 refine dn1 Try.results6 rfl (fun a w s => ?_)
 · refine ⟨?_, s.low⟩
   clear s
   have e : worldErr x = logErr x.log := by unfold worldErr; rw [if_neg (by simpa using h10)]
   rw [e]
   rfl
 refine WC.skip' ?_
 refine WQ.next ?_
 refine WC.seq ?_
 refine WC.seq ?_
 have h0 : logErr x.log = 0 := by simpa using h10
 have h60 := (log_right h0).1
 have hR := (log_right h0).2
 refine WC.region ?_
 refine pP (Y.fieldAddr fa_28_2 rfl) rfl ?_
 refine pV (Y.load fl_3 rfl m0 rfl) rfl ?_
 refine pP (Y.fieldAddr fa_28_1 rfl) rfl ?_
 refine pV (Y.load fl_26 rfl m0 rfl) rfl ?_
 refine pP (Y.len Try.underlying26 rfl) rfl ?_
 refine WL.eff (E.call Try.call16 rfl (fun _ w s => w_rwithin _ _ _ w) rfl) rfl (fun _ => ?_)
 refine pP (Y.not rfl) rfl ?_
 refine nN ?_
 refine WC.cond rfl (fun h18 => ?_) (fun h18 => ?_)
 refine sR ?_
 refine pA rfl rfl ?_
 refine nN ?_
 refine WC.ret ?_
 refine WQ.thenRet ?_
 refine dn1 Try.results6 rfl (fun a w s => ?_)
 · refine ⟨?_, s.low⟩
   clear s
   have e : worldErr x = 3 := by unfold worldErr; rw [if_pos h0, if_neg (by have h18 := h18; simp at h18; rw [h18]; simp)]
   rw [e]
   rfl
 refine WC.skip' ?_
 refine WQ.next ?_
 refine WC.seq ?_
 refine WC.seq ?_
 have hsf : 0 ≤ x.safe ∧ x.safe ≤ x.log.length := by have h18 := h18; simp at h18; exact wi_iff.1 h18
 refine WC.region ?_
 refine pA rfl rfl ?_
 refine nN ?_
 refine WC.block ?_
 refine WC.loop (ι := Int) (fun p => [(1, .pointer (some ⟨b1, 0, none⟩)), (4, .int .i64 p)]) (fun _ => [(b1, x.cl A c, 28)]) (fun _ => SF.top) (fun p => (0 ≤ p ∧ p ≤ 3) ∧ ∀ q, 0 ≤ q → q < p → diskOk x q = true) (fun p => (3 - p).toNat) 0 ⟨by omega, fun q h1 h2 => absurd h2 (by omega)⟩ (fun a w s => s.weak (by repeat (first | exact sub_nil _ | refine sub_cons rfl ?_))) (fun p hp => ?_)
 obtain ⟨hp, hd⟩ := hp
 refine WC.seq ?_
 refine sR ?_
 refine pM rfl rfl ?_
 refine pP (Y.lss rfl rfl) rfl ?_
 refine nN ?_
 refine WC.cond rfl (fun h20 => ?_) (fun h20 => ?_)
 refine WC.skip' ?_
 refine WQ.next ?_
 refine WC.seq ?_
 refine WC.block ?_
 refine WC.seq ?_
 have hp2 : 0 ≤ p ∧ p ≤ 2 := by simp at h20; omega
 refine WC.region ?_
 refine pM rfl rfl ?_
 refine pP (Y.fieldAddr fa_28_0 rfl) rfl ?_
 refine pP (Y.ixArr Try.underlying25 Try.sizeOf24 rfl rfl hp2.1 (by omega)) rfl ?_
 refine pP (Y.fieldAddr fa_24_1 rfl) rfl ?_
 refine pV (Y.loadN (cs := x.cl A c) fl_3 rfl m0 (disk_cell x A c p hp2)) rfl ?_
 refine pA rfl rfl ?_
 refine nN ?_
 refine WC.seq ?_
 refine WC.draw [(0, .q false), (1, .q false), (2, .q true), (3, .q true), (4, .q false), (5, .q false), (6, .q false), (7, .q true), (8, .q false), (9, .q false), (10, .q true), (11, .q false), (12, .q false), (13, .q false), (14, .q false), (15, .q false), (16, .q true), (17, .q false), (18, .q false)] mixed (by kernel_rfl) ?_
 refine dP (Y.move rfl) rfl rfl ?_
 refine dP (Y.fieldAddr fa_28_2 rfl) rfl rfl ?_
 refine dV (Y.load fl_3 rfl m0 rfl) rfl rfl ?_
 refine WDm.quiet (QS.call Try.call16 rfl (fun _ w s => w_rwithin _ _ _ w)) rfl rfl rfl ?_
 refine dP (Y.not rfl) rfl rfl ?_
 refine dP (Y.move rfl) rfl rfl ?_
 refine WDm.split (t := 33) rfl (fun r h33 => ?_)
 cases r
 refine dPg rfl (Y.fieldAddr fa_28_1 rfl) rfl rfl rfl ?_
 refine dVg rfl (Y.load fl_26 rfl m0 rfl) rfl rfl rfl ?_
 refine dPg rfl (Y.move rfl) rfl rfl rfl ?_
 have hl0 : 0 ≤ (x.disk.get p).last ∧ (x.disk.get p).last ≤ x.log.length := by have := wi_iff.1 (show wi (x.disk.get p).last 0 x.safe = true by simpa using h33); omega
 refine dPg rfl (Y.slToN (x.log.take (x.disk.get p).last.toNat).length (take_cast hl0) Try.underlying26 Try.sizeOf48 rfl rfl (by simp; omega)) rfl rfl rfl ?_
 refine WDm.quiet (QS.guardT rfl rfl rfl (QS.call Try.call17 rfl (fun _ w s => w_pages (x.log.take (x.disk.get p).last.toNat) A b o c w (by simp; omega) ((hr.below s.low).take _) (log_right (take_right h0 _)).2.inR.rev))) rfl rfl rfl ?_
 refine dPg rfl (Y.move rfl) rfl rfl rfl ?_
 refine dPg rfl (Y.indexK rfl rfl (ix_pages _ _ hp2)) rfl rfl rfl ?_
 refine dPg rfl (Y.move rfl) rfl rfl rfl ?_
 refine dPg rfl (Y.fieldAddr fa_28_0 rfl) rfl rfl rfl ?_
 refine dPg rfl (Y.ixArr Try.underlying25 Try.sizeOf24 rfl rfl hp2.1 (by omega)) rfl rfl rfl ?_
 refine dVg rfl (Y.loadAN wd_24 rfl m0 (disk_page x A c p hp2)) rfl rfl rfl ?_
 refine dPg rfl (Y.neqA Try.eqGuardType24 rfl rfl (weq_page ((pagesOf (x.log.take (x.disk.get p).last.toNat).reverse).get p) (x.disk.get p))) rfl rfl rfl ?_
 refine dP (Y.pickF rfl rfl) rfl rfl ?_
 refine WDm.nil (WQ.and ?_)
 refine WQ.next ?_
 refine WC.cond rfl (fun h46 => ?_) (fun h46 => ?_)
 refine sR ?_
 refine pA rfl rfl ?_
 refine nN ?_
 refine WC.ret ?_
 refine WQ.blockRet ?_
 refine WQ.thenRet ?_
 refine WQ.thenRet ?_
 refine WQ.blockRet ?_
 refine WQ.thenRet ?_
 refine dn1 Try.results6 rfl (fun a w s => ?_)
 · refine ⟨?_, s.low⟩
   clear s
   have e : worldErr x = 1 := errW_form h0 hsf hp2 (by
     cases hd : diskOk x p
     · rfl
     · have hd := diskOk_iff.1 hd
       have hw := wi_iff.2 hd.1
       rw [hw] at h33
       first | (simp at h33; done) | (simp [hd.2] at h46))
   rw [e]
   rfl
 refine WC.skip' ?_
 refine WQ.blockEnd ?_
 refine WQ.next ?_
 refine WC.region ?_
 refine pM rfl rfl ?_
 refine pP (Y.add rfl rfl (i64_in (by omega) (by omega))) rfl ?_
 refine pA rfl rfl ?_
 refine WL.nil ?_
 · have hok : diskOk x p = true := diskOk_iff.2 ⟨wi_iff.1 (by simpa using h33), by simpa using h46⟩
   refine fun a w s => ⟨p + 1, ⟨by omega, fun q h1 h2 => ?_⟩, by omega, s.weak (by repeat (first | exact sub_nil _ | refine sub_cons rfl ?_))⟩
   by_cases e : q = p
   · subst e; exact hok
   · exact hd q h1 (by omega)
 refine dF rfl rfl ?_
 refine dF rfl rfl ?_
 refine dF rfl rfl ?_
 refine dF rfl rfl ?_
 refine dF rfl rfl ?_
 refine dF rfl rfl ?_
 refine dF rfl rfl ?_
 refine dF rfl rfl ?_
 refine dF rfl rfl ?_
 refine dF rfl rfl ?_
 refine dF rfl rfl ?_
 refine dF rfl rfl ?_
 refine dP (Y.pickT rfl rfl) rfl rfl ?_
 refine WDm.nil (WQ.and ?_)
 refine WQ.next ?_
 refine WC.condT rfl ?_
 refine sR ?_
 refine pA rfl rfl ?_
 refine nN ?_
 refine WC.ret ?_
 refine WQ.blockRet ?_
 refine WQ.thenRet ?_
 refine WQ.thenRet ?_
 refine WQ.blockRet ?_
 refine WQ.thenRet ?_
 refine dn1 Try.results6 rfl (fun a w s => ?_)
 · refine ⟨?_, s.low⟩
   clear s
   have e : worldErr x = 1 := errW_form h0 hsf hp2 (by
     cases hd : diskOk x p
     · rfl
     · have hd := diskOk_iff.1 hd
       have hw := wi_iff.2 hd.1
       rw [hw] at h33
       first | (simp at h33; done) | (simp [hd.2] at h46))
   rw [e]
   rfl
 refine WC.exit ?_
 refine WQ.thenExit ?_
 refine WQ.thenExit ?_
 refine WQ.blockExit ?_
 refine WQ.next ?_
 refine sR ?_
 refine pA rfl rfl ?_
 refine nN ?_
 refine WC.ret ?_
 refine dn1 Try.results6 rfl (fun a w s => ?_)
 · refine ⟨?_, s.low⟩
   clear s
   have e : worldErr x = 0 := world_mk h0 hsf (fun q hq => hd q hq.1 (by simp at h20; omega))
   rw [e]
   rfl

end Go.Proofs.Ytmfjhacgpopijaa
