/- The disk: what Sync, Page, Lay return. No condition. -/
import Derived.Test.YtdbcimadjmdffaaBz
set_option maxRecDepth 100000
set_option linter.unusedVariables false
set_option linter.unusedSimpArgs false
set_option linter.unusedSectionVars false
set_option maxHeartbeats 4000000
namespace Go.Proofs.Ytdbcimadjmdffaa
open Go.RowKit Go.Joins
theorem w_flushSync (x : Wd) (A : Option Addr) (b o c : Nat) (n : Int) (w : World) (hm : x.log.length ≤ maxLen) (hcap : x.log.length ≤ c) (hr : RL w A b o x.log) : RetW Try.prog 78 [x.val A c, .int .i64 n] w (syncOf x n).1 [.int .i64 (syncOf x n).2] := by
 refine enter Try.func78 rfl Try.ntmps78 rfl SF.top trivial ?_
 refine sR ?_
 refine WL.eff (E.box rfl rfl rfl) rfl (fun b1 => ?_)
 refine WL.eff (E.alloc Try.zeroValue54 rfl rfl) rfl (fun b2 => ?_)
 refine pA rfl rfl ?_
 refine nN ?_
 refine sR ?_
 refine pV (Y.loadAN wd_54 rfl m1 (r := x.cl A c) rfl) rfl ?_
 refine WL.eff (E.wkopen [_, _] x A b o c rfl hcap (fun w hw => hr.below hw.2.2.2) rfl rfl rfl) rfl (fun i => ?_)
 obtain ⟨⟨B, dk⟩, hB⟩ := i
 dsimp only at hB ⊢
 refine pM rfl rfl ?_
 refine pP (Y.extract rfl rfl) rfl ?_
 refine pP (Y.extract rfl rfl) rfl ?_
 refine pA rfl rfl ?_
 refine pA rfl rfl ?_
 refine nN ?_
 refine WC.seq ?_
 refine sR ?_
 refine pM rfl rfl ?_
 refine pP (Y.neq rfl rfl) rfl ?_
 refine nN ?_
 refine WC.cond rfl (fun h14 => ?_) (fun h14 => ?_)
 refine sR ?_
 refine pP (Y.build rfl (bf_54 )) rfl ?_
 refine pM rfl rfl ?_
 refine WL.eff (E.store Try.sizeOf54 rfl rfl rfl rfl rfl u0 rfl rfl) rfl (fun _ => ?_)
 refine pA rfl rfl ?_
 refine nN ?_
 refine WC.ret ?_
 refine WQ.thenRet ?_
 refine WQ.done Try.results78 (RVs.cons (RV.cell wd_54 rfl m0 rfl) (RVs.cons (RV.tmp rfl) RVs.nil)) (fun a w s => ?_)
 · have e : syncOf x n = (Wd.zero, worldErr x) := by
     unfold syncOf; rw [if_neg (by simpa using h14)]
   rw [e]
   exact ⟨(none, 0), rfl, s.low, own_nil _ _ _ _⟩
 refine WC.skip' ?_
 refine WQ.next ?_
 refine WC.seq ?_
 refine WC.seq ?_
 have h0 : worldErr x = 0 := by simpa using h14
 obtain ⟨hl0, h60, hR, hsf, _⟩ := world_right h0
 have hB0 := hB h0
 have hlen : x.h.length = x.log.length := by simp [Wd.h]
 have hBl : B.l.length = x.log.length := by rw [hB0.l]; simp [Wd.h]
 refine WC.region ?_
 refine pM rfl rfl ?_
 refine pP (Y.lss rfl rfl) rfl ?_
 refine pM rfl rfl ?_
 refine WL.split (t := 19) rfl (fun r h19 => ?_)
 cases r
 refine gT rfl ?_
 refine pM rfl rfl ?_
 refine gT rfl ?_
 refine pM rfl rfl ?_
 refine gT rfl ?_
 refine pP (Y.nilCheck rfl) rfl ?_
 refine gT rfl ?_
 refine pP (Y.fieldAddr fa_123_0 rfl) rfl ?_
 refine gT rfl ?_
 refine pV (Y.load fl_105 rfl m2 rfl) rfl ?_
 refine gT rfl ?_
 refine pP (Y.nilCheck rfl) rfl ?_
 refine gT rfl ?_
 refine pP (Y.fieldAddr fa_112_0 rfl) rfl ?_
 refine gT rfl ?_
 refine pV (Y.load (v := .slice B.A B.l.length B.c) fl_39 rfl m3 rfl) rfl ?_
 refine gT rfl ?_
 refine pP (Y.len Try.underlying39 rfl) rfl ?_
 refine gT rfl ?_
 refine pP (Y.gtr rfl rfl) rfl ?_
 refine pP (Y.pickF rfl rfl) rfl ?_
 refine nN ?_
 refine WC.cond rfl (fun h30 => ?_) (fun h30 => ?_)
 refine sR ?_
 refine pP (Y.build rfl (bf_54 )) rfl ?_
 refine WL.eff (E.store Try.sizeOf54 rfl rfl rfl rfl rfl u0 rfl rfl) rfl (fun _ => ?_)
 refine pA rfl rfl ?_
 refine nN ?_
 refine WC.ret ?_
 refine WQ.thenRet ?_
 refine WQ.done Try.results78 (RVs.cons (RV.cell wd_54 rfl m0 rfl) (RVs.cons (RV.tmp rfl) RVs.nil)) (fun a w s => ?_)
 · have e : syncOf x n = (Wd.zero, 3) := by
     unfold syncOf; rw [if_pos h0, if_neg (by rw [wi_iff]; simp [hBl] at *; omega)]
   rw [e]
   exact ⟨(none, 0), rfl, s.low, own_nil _ _ _ _⟩
 refine WC.skip' ?_
 refine WQ.next ?_
 refine WC.seq ?_
 have hn : 0 ≤ n ∧ n ≤ x.log.length := by simp [hBl] at *; omega
 refine WC.region ?_
 refine pM rfl rfl ?_
 refine pM rfl rfl ?_
 refine pP (Y.nilCheck rfl) rfl ?_
 refine pP (Y.fieldAddr fa_123_1 rfl) rfl ?_
 refine pP (Y.fieldAddr fa_54_2 rfl) rfl ?_
 refine pV (Y.load fl_3 rfl (by repeat (first | exact List.Mem.head _ | apply List.Mem.tail)) rfl) rfl ?_
 refine pM rfl rfl ?_
 refine pP (Y.max rfl rfl) rfl ?_
 refine pP (Y.nilCheck rfl) rfl ?_
 refine pP (Y.fieldAddr fa_123_1 rfl) rfl ?_
 refine pP (Y.fieldAddr fa_54_2 rfl) rfl ?_
 refine WL.eff (E.store Try.sizeOf3 rfl rfl rfl rfl rfl u2 rfl rfl) rfl (fun _ => ?_)
 refine nN ?_
 refine WC.seq ?_
 rw [show (put (B.ptr :: x.cl A c) (0 + 1 + 13) [.int .i64 (max x.safe n)]) = B.ptr :: ({ x with safe := max x.safe n } : Wd).cl A c by rfl]
 refine WC.region ?_
 refine pM rfl rfl ?_
 refine WL.eff (E.done (Hl := [_]) B ({ x with safe := max x.safe n } : Wd) A c dk rfl Hsub.three rfl rfl) rfl (fun _ => ?_)
 refine WL.eff (E.store Try.sizeOf54 rfl rfl rfl rfl rfl u2 rfl rfl) rfl (fun _ => ?_)
 refine pA rfl rfl ?_
 refine nN ?_
 refine WC.ret ?_
 refine WQ.done Try.results78 (RVs.cons (RV.cell wd_54 rfl m2 rfl) (RVs.cons (RV.tmp rfl) RVs.nil)) (fun a w s => ?_)
 · have e : syncOf x n = (({ x with safe := max x.safe n } : Wd), 0) := by
     unfold syncOf; rw [if_pos h0, if_pos (wi_iff.2 hn)]
   rw [e]
   have el3 : B.l = (({ x with safe := max x.safe n } : Wd)).log := by rw [hB0.l]; simp [Wd.h]
   refine ⟨(B.A, B.c), ?_, s.low, by rw [← el3]; exact s.fact.1.2.1.2.1.1⟩
   rw [← show (⟨(({ x with safe := max x.safe n } : Wd)).disk, B.l, (({ x with safe := max x.safe n } : Wd)).safe⟩ : Wd) = ({ x with safe := max x.safe n } : Wd) by rw [el3]]
   rfl
 refine gF rfl ?_
 refine gF rfl ?_
 refine gF rfl ?_
 refine gF rfl ?_
 refine gF rfl ?_
 refine gF rfl ?_
 refine gF rfl ?_
 refine gF rfl ?_
 refine gF rfl ?_
 refine gF rfl ?_
 refine pP (Y.pickT rfl rfl) rfl ?_
 refine nN ?_
 refine WC.condT rfl ?_
 refine sR ?_
 refine pP (Y.build rfl (bf_54 )) rfl ?_
 refine WL.eff (E.store Try.sizeOf54 rfl rfl rfl rfl rfl u0 rfl rfl) rfl (fun _ => ?_)
 refine pA rfl rfl ?_
 refine nN ?_
 refine WC.ret ?_
 refine WQ.thenRet ?_
 refine WQ.done Try.results78 (RVs.cons (RV.cell wd_54 rfl m0 rfl) (RVs.cons (RV.tmp rfl) RVs.nil)) (fun a w s => ?_)
 · have e : syncOf x n = (Wd.zero, 3) := by
     unfold syncOf; rw [if_pos h0, if_neg (by rw [wi_iff]; simp [hBl] at *; omega)]
   rw [e]
   exact ⟨(none, 0), rfl, s.low, own_nil _ _ _ _⟩

def layL (pg : P3) : List Int → Wd → Wd
  | [], y => y
  | p :: ps, y => layL pg ps { y with disk := y.disk.set p (pg.get p), safe := max y.safe (pg.get p).last }
theorem layL_take {pg : P3} {y : Wd} : ∀ {xs : List Int} {k : Nat} {p : Int}, xs[k]? = some p → layL pg (xs.take (k + 1)) y = { layL pg (xs.take k) y with disk := (layL pg (xs.take k) y).disk.set p (pg.get p), safe := max (layL pg (xs.take k) y).safe (pg.get p).last }
  | [], k, p, h => by simp at h
  | a :: xs, 0, p, h => by
    simp at h
    subst h
    simp [layL]
  | a :: xs, k + 1, p, h => by
    simp only [List.take_succ_cons, layL]
    exact layL_take (xs := xs) (k := k) (by simpa using h)
theorem layL_log (pg : P3) : ∀ (xs : List Int) (y : Wd), (layL pg xs y).log = y.log
  | [], y => rfl
  | p :: xs, y => by rw [layL, layL_log]
theorem dk_cell (x : Wd) (v : Value) (A : Option Addr) (c : Nat) (p : Int) (hp : 0 ≤ p ∧ p ≤ 2) (q : Pg) : put (v :: x.cl A c) (0 + 1 + 0 + p.toNat * 4) q.cl = v :: ({ x with disk := x.disk.set p q } : Wd).cl A c := by
  have h1 : p = 0 ∨ p = 1 ∨ p = 2 := by omega
  rcases h1 with rfl | rfl | rfl <;> rfl
theorem last_cell (B : Bk) (p : Int) (hp : 0 ≤ p ∧ p ≤ 2) : nth B.cells (0 + 1 + p.toNat * 4 + 3) = some (.int .i64 (B.pg.get p).last) := by
  have h1 : p = 0 ∨ p = 1 ∨ p = 2 := by omega
  rcases h1 with rfl | rfl | rfl <;> rfl
theorem dk_len (x : Wd) (v : Value) (A : Option Addr) (c : Nat) : (v :: x.cl A c).length = 15 := rfl

theorem w_lay (u : World) (Hl : Hp) (F : SF) (B : Bk) (y : Wd) (A : Option Addr) (c d : Nat) (xs : List Int) (A2 : Option Addr) (g2 c2 : Nat) (w : World) (hw : Wp u ((d, B.ptr :: y.cl A c, 123) :: B.own1 :: Hl) F w) (hxl : xs.length ≤ 3) (hxs : ∀ p ∈ xs, 0 ≤ p ∧ p ≤ 2) (hil : ∀ w, Wp u Hl F w → IL w A2 g2 xs) : Calls Try.prog 139 [.pointer (some ⟨d, 0, none⟩), .slice A2 xs.length c2].toArray w fun e w' => ∃ i : Unit, e = .returned (packed []) ∧ Wp u ((d, B.ptr :: (layL B.pg xs y).cl A c, 123) :: B.own1 :: Hl) F w' := by
 refine enterW Try.func139 rfl Try.ntmps139 rfl hw ?_
 refine sR ?_
 refine pM rfl rfl ?_
 refine pP (Y.len Try.underlying64 rfl) rfl ?_
 refine pM rfl rfl ?_
 refine nN ?_
 refine WC.block ?_
 refine WC.loop (ι := Nat) (fun k => [(0, .pointer (some ⟨d, 0, none⟩)), (1, .slice A2 xs.length c2), (6, .slice A2 xs.length c2), (7, .int .i64 xs.length), (8, .int .i64 k)]) (fun k => (d, B.ptr :: (layL B.pg (xs.take k) y).cl A c, 123) :: B.own1 :: Hl) (fun _ => F) (fun k => k ≤ xs.length) (fun k => xs.length - k) 0 (Nat.zero_le _) (fun a w s => s.weak (by repeat (first | exact sub_nil _ | refine sub_cons rfl ?_))) (fun k hk => ?_)
 refine sR ?_
 refine pP (Y.lss rfl rfl) rfl ?_
 refine nN ?_
 refine WC.seq ?_
 refine WC.cond rfl (fun h9 => ?_) (fun h9 => ?_)
 refine WC.skip' ?_
 refine WQ.next ?_
 refine WC.seq ?_
 refine WC.block ?_
 refine WC.seq ?_
 have h9 : k < xs.length := by simpa using h9
 obtain ⟨p, hpk⟩ := get_of_lt h9
 have hp := hxs p (List.mem_of_getElem? hpk)
 refine WC.know (p := A2 = some ⟨g2, 0, none⟩) (fun a w s => (hil w (s.wp.sub (Hsub.of_sub (List.Sublist.cons _ (List.sublist_cons_self _ _))))).addr hpk) (fun hA2 => ?_)
 refine WC.region ?_
 refine pP (Y.ixSlA Try.underlying64 Try.sizeOf3 rfl rfl hA2 (nat0 _) (get_ltI hpk)) rfl ?_
 refine pV (Y.loadc fl_3 rfl (v := .int .i64 p) (fun a w s => by have := (hil w (s.wp.sub (Hsub.of_sub (List.Sublist.cons _ (List.sublist_cons_self _ _))))).cell k p hpk; simpa using this)) rfl ?_
 refine pA rfl rfl ?_
 refine nN ?_
 refine WC.seq ?_
 refine WC.draw [(0, .q false), (1, .q false), (2, .q false), (3, .q false), (4, .q false), (5, .q true), (6, .q false), (7, .q false), (8, .q false), (9, .q false), (10, .q true), (11, .q false), (12, .q false), (13, .q false), (14, .q false), (15, .s true)] mixed (by kernel_rfl) ?_
 refine dP (Y.move rfl) rfl rfl ?_
 refine dP (Y.move rfl) rfl rfl ?_
 refine dP (Y.move rfl) rfl rfl ?_
 refine dP (Y.nilCheck rfl) rfl rfl ?_
 refine dP (Y.fieldAddr fa_123_0 rfl) rfl rfl ?_
 refine dV (Y.load fl_105 rfl m0 rfl) rfl rfl ?_
 refine dP (Y.move rfl) rfl rfl ?_
 refine dP (Y.nilCheck rfl) rfl rfl ?_
 refine dP (Y.fieldAddr fa_112_1 rfl) rfl rfl ?_
 refine dP (Y.ixArr Try.underlying42 Try.sizeOf24 rfl rfl hp.1 (by omega)) rfl rfl ?_
 refine dV (Y.loadAN wd_24 rfl m1 (page_at B p hp)) rfl rfl ?_
 refine dP (Y.nilCheck rfl) rfl rfl ?_
 refine dP (Y.fieldAddr fa_123_1 rfl) rfl rfl ?_
 refine dP (Y.fieldAddr fa_54_0 rfl) rfl rfl ?_
 refine dP (Y.ixArr Try.underlying42 Try.sizeOf24 rfl rfl hp.1 (by omega)) rfl rfl ?_
 refine WDm.spec (WS.free rfl (E.storeP Try.sizeOf24 rfl rfl rfl rfl rfl u0 (by rw [dk_len]; omega) (dk_cell (layL B.pg (xs.take k) y) _ A c p hp (B.pg.get p)))) (fun _ => sub_refl _) (fun _ => ?_)
 refine WDm.nil (WQ.and ?_)
 refine WQ.next ?_
 refine WC.draw [(0, .q false), (1, .q false), (2, .q false), (3, .q false), (4, .q false), (5, .q true), (6, .q false), (7, .q false), (8, .q false), (9, .q true), (10, .q false), (11, .q false), (12, .q false), (13, .q false), (14, .q false), (15, .q true), (16, .q false), (17, .q false), (18, .q false), (19, .q false), (20, .s true)] mixed (by kernel_rfl) ?_
 refine dP (Y.move rfl) rfl rfl ?_
 refine dP (Y.move rfl) rfl rfl ?_
 refine dP (Y.nilCheck rfl) rfl rfl ?_
 refine dP (Y.fieldAddr fa_123_1 rfl) rfl rfl ?_
 refine dP (Y.fieldAddr fa_54_2 rfl) rfl rfl ?_
 refine dV (Y.load (v := .int .i64 (layL B.pg (xs.take k) y).safe) fl_3 rfl m0 rfl) rfl rfl ?_
 refine dP (Y.move rfl) rfl rfl ?_
 refine dP (Y.nilCheck rfl) rfl rfl ?_
 refine dP (Y.fieldAddr fa_123_0 rfl) rfl rfl ?_
 refine dV (Y.load fl_105 rfl m0 rfl) rfl rfl ?_
 refine dP (Y.move rfl) rfl rfl ?_
 refine dP (Y.nilCheck rfl) rfl rfl ?_
 refine dP (Y.fieldAddr fa_112_1 rfl) rfl rfl ?_
 refine dP (Y.ixArr Try.underlying42 Try.sizeOf24 rfl rfl hp.1 (by omega)) rfl rfl ?_
 refine dP (Y.fieldAddr fa_24_1 rfl) rfl rfl ?_
 refine dV (Y.loadN fl_3 rfl m1 (last_cell B p hp)) rfl rfl ?_
 refine dP (Y.max rfl rfl) rfl rfl ?_
 refine dP (Y.nilCheck rfl) rfl rfl ?_
 refine dP (Y.fieldAddr fa_123_1 rfl) rfl rfl ?_
 refine dP (Y.fieldAddr fa_54_2 rfl) rfl rfl ?_
 refine WDm.spec (WS.free rfl (E.store Try.sizeOf3 rfl rfl rfl rfl rfl u0 rfl rfl)) (fun _ => sub_refl _) (fun _ => ?_)
 refine WDm.nil (WQ.and ?_)
 refine WQ.blockEnd ?_
 refine WQ.next ?_
 refine WC.region ?_
 refine pP (Y.add rfl rfl (i64_in (by omega) (by omega))) rfl ?_
 refine pM rfl rfl ?_
 refine WL.nil ?_
 · refine fun a w s => ⟨k + 1, by omega, by omega, ?_⟩
   try dsimp only
   rw [layL_take hpk]
   exact s.weak (by repeat (first | exact sub_nil _ | refine sub_cons rfl ?_))
 refine WC.exit ?_
 refine WQ.thenExit ?_
 refine WQ.thenExit ?_
 refine WQ.blockExit ?_
 refine WQ.over Try.results139 RVs.nil (fun a w s => ?_)
 · have h9 := h9
   simp at h9
   rw [List.take_of_length_le h9] at s
   exact ⟨(), rfl, s.wp⟩

section
variable [Inhabited DSx] {Q : Exit → Act → World → Prop} {E : Env} {n : Nat} {H : Hp} {F G : SF} {u : World}
theorem E.lay {f : FuncId} {args : Array Operand} {ts : Array TypeId} {d : Nat} {T' : TypeId} {p : String} {af : Array Edge} {Hl : Hp} (B : Bk) (y : Wd) (A : Option Addr) (c g : Nat) (xs : List Int) (A2 : Option Addr) (g2 c2 : Nat) (hf : f = 139) (hxl : xs.length ≤ 3) (hxs : ∀ p ∈ xs, 0 ≤ p ∧ p ≤ 2) (hil : ∀ w, Wp u Hl F w → IL w A2 g2 xs)
    (hH : Hsub ((g, B.ptr :: y.cl A c, 123) :: B.own1 :: Hl) H) (hx : evs E args.toList = some [.pointer (some ⟨g, 0, none⟩), .slice A2 xs.length c2]) (hn : Nat.blt d n = true) :
    Eff Try.prog E n H F u ⟨some d, .call { callee := .value (.func f), args := args, argTypes := ts }, T', p, af, none⟩ (fun _ : Unit => (d, packed []) :: E) (fun _ => (g, B.ptr :: (layL B.pg xs y).cl A c, 123) :: B.own1 :: Hl) (fun _ => F) := by
  subst hf
  refine Proofs.Ytdbcimadjmdffaa.E.callM (fun _ => packed []) _ _ Try.call139 hx (fun w hw => ?_) hn
  exact w_lay u Hl F B y A c g xs A2 g2 c2 w (hw.sub hH) hxl hxs hil
end
theorem IL.ofW {u w : World} {H : Hp} {F : SF} {g : Nat} {cs : List Value} (l : List Int) {T : TypeId} (hw : Wp u H F w) (hm : (g, cs, T) ∈ H) (hc : ints l = cs) : IL w (some ⟨g, 0, none⟩) g l := by
  subst hc
  exact ⟨fun _ => ⟨rfl, hw.1.lt hm⟩, fun i x hi => by
    rw [hw.1.cell hm]
    exact ints_get hi⟩
theorem Hsub.four {x y z b q : Nat × List Value × TypeId} {l : Hp} : Hsub [z, b, q, x] (q :: x :: y :: z :: b :: l) := by
  refine ⟨[q, x, z, b], ?_, List.Sublist.cons_cons _ (List.Sublist.cons_cons _ (List.Sublist.cons _ (List.Sublist.cons_cons _ (List.Sublist.cons_cons _ (List.nil_sublist _)))))⟩
  exact (List.perm_append_comm (l₁ := [q, x]) (l₂ := [z, b]))

theorem w_flushPage (x : Wd) (A : Option Addr) (b o c : Nat) (p : Int) (w : World) (hm : x.log.length ≤ maxLen) (hcap : x.log.length ≤ c) (hr : RL w A b o x.log) : RetW Try.prog 79 [x.val A c, .int .i64 p] w (flushOf x p).1 [.int .i64 (flushOf x p).2] := by
 refine enter Try.func79 rfl Try.ntmps79 rfl SF.top trivial ?_
 refine sR ?_
 refine WL.eff (E.box rfl rfl rfl) rfl (fun b1 => ?_)
 refine WL.eff (E.alloc Try.zeroValue54 rfl rfl) rfl (fun b2 => ?_)
 refine pA rfl rfl ?_
 refine nN ?_
 refine sR ?_
 refine pV (Y.loadAN wd_54 rfl m1 (r := x.cl A c) rfl) rfl ?_
 refine WL.eff (E.wkopen [_, _] x A b o c rfl hcap (fun w hw => hr.below hw.2.2.2) rfl rfl rfl) rfl (fun i => ?_)
 obtain ⟨⟨B, dk⟩, hB⟩ := i
 dsimp only at hB ⊢
 refine pM rfl rfl ?_
 refine pP (Y.extract rfl rfl) rfl ?_
 refine pP (Y.extract rfl rfl) rfl ?_
 refine pA rfl rfl ?_
 refine pA rfl rfl ?_
 refine nN ?_
 refine WC.seq ?_
 refine sR ?_
 refine pM rfl rfl ?_
 refine pP (Y.neq rfl rfl) rfl ?_
 refine nN ?_
 refine WC.cond rfl (fun h14 => ?_) (fun h14 => ?_)
 refine sR ?_
 refine pP (Y.build rfl (bf_54 )) rfl ?_
 refine pM rfl rfl ?_
 refine WL.eff (E.store Try.sizeOf54 rfl rfl rfl rfl rfl u0 rfl rfl) rfl (fun _ => ?_)
 refine pA rfl rfl ?_
 refine nN ?_
 refine WC.ret ?_
 refine WQ.thenRet ?_
 refine WQ.done Try.results79 (RVs.cons (RV.cell wd_54 rfl m0 rfl) (RVs.cons (RV.tmp rfl) RVs.nil)) (fun a w s => ?_)
 · have e : flushOf x p = (Wd.zero, worldErr x) := by
     unfold flushOf; rw [if_neg (by simpa using h14)]
   rw [e]
   exact ⟨(none, 0), rfl, s.low, own_nil _ _ _ _⟩
 refine WC.skip' ?_
 refine WQ.next ?_
 refine WC.seq ?_
 refine WC.seq ?_
 have h0 : worldErr x = 0 := by simpa using h14
 obtain ⟨hl0, h60, hR, hsf, _⟩ := world_right h0
 have hB0 := hB h0
 have hlen : x.h.length = x.log.length := by simp [Wd.h]
 refine WC.region ?_
 refine pM rfl rfl ?_
 refine pP (Y.lss rfl rfl) rfl ?_
 refine pM rfl rfl ?_
 refine WL.split (t := 19) rfl (fun r h19 => ?_)
 cases r
 refine gT rfl ?_
 refine pM rfl rfl ?_
 refine gT rfl ?_
 refine pP (Y.geq rfl rfl) rfl ?_
 refine pP (Y.pickF rfl rfl) rfl ?_
 refine nN ?_
 refine WC.cond rfl (fun h22 => ?_) (fun h22 => ?_)
 refine sR ?_
 refine pP (Y.build rfl (bf_54 )) rfl ?_
 refine WL.eff (E.store Try.sizeOf54 rfl rfl rfl rfl rfl u0 rfl rfl) rfl (fun _ => ?_)
 refine pA rfl rfl ?_
 refine nN ?_
 refine WC.ret ?_
 refine WQ.thenRet ?_
 refine WQ.done Try.results79 (RVs.cons (RV.cell wd_54 rfl m0 rfl) (RVs.cons (RV.tmp rfl) RVs.nil)) (fun a w s => ?_)
 · have e : flushOf x p = (Wd.zero, 3) := by
     unfold flushOf; rw [if_pos h0, if_neg (by rw [wi_iff]; simp at *; omega)]
   rw [e]
   exact ⟨(none, 0), rfl, s.low, own_nil _ _ _ _⟩
 refine WC.skip' ?_
 refine WQ.next ?_
 refine WC.seq ?_
 have hp : 0 ≤ p ∧ p ≤ 2 := by simp at *; omega
 have hpg := hB0.pg
 refine WC.region ?_
 refine pM rfl rfl ?_
 refine pM rfl rfl ?_
 refine WL.eff (E.buildSlice (bs_64_1 _) rfl rfl) rfl (fun b3 => ?_)
 refine WL.eff (E.lay (Hl := [_, _]) B x A c dk [p] _ _ 1 rfl (by simp) (fun q hq => by simp at hq; subst hq; exact hp) (fun w hw => IL.ofW [p] hw (List.Mem.head _) rfl) Hsub.four rfl rfl) rfl (fun _ => ?_)
 refine nN ?_
 refine WC.seq ?_
 rw [show layL B.pg [p] x = x.lay p by rw [hpg]; rfl]
 refine WC.region ?_
 refine pM rfl rfl ?_
 refine WL.eff (E.done (Hl := [_, _]) B (x.lay p) A c dk rfl (Hsub.refl _) rfl rfl) rfl (fun _ => ?_)
 refine WL.eff (E.store Try.sizeOf54 rfl rfl rfl rfl rfl u3 rfl rfl) rfl (fun _ => ?_)
 refine pA rfl rfl ?_
 refine nN ?_
 refine WC.ret ?_
 refine WQ.done Try.results79 (RVs.cons (RV.cell wd_54 rfl m3 rfl) (RVs.cons (RV.tmp rfl) RVs.nil)) (fun a w s => ?_)
 · have e : flushOf x p = (x.lay p, 0) := by
     unfold flushOf; rw [if_pos h0, if_pos (wi_iff.2 hp)]
   rw [e]
   have el3 : B.l = (x.lay p).log := by rw [hB0.l]; simp [Wd.h, Wd.lay]
   refine ⟨(B.A, B.c), ?_, s.low, by rw [← el3]; exact s.fact.1.2.1.2.1.1⟩
   rw [← show (⟨(x.lay p).disk, B.l, (x.lay p).safe⟩ : Wd) = x.lay p by rw [el3]]
   rfl
 refine gF rfl ?_
 refine gF rfl ?_
 refine pP (Y.pickT rfl rfl) rfl ?_
 refine nN ?_
 refine WC.condT rfl ?_
 refine sR ?_
 refine pP (Y.build rfl (bf_54 )) rfl ?_
 refine WL.eff (E.store Try.sizeOf54 rfl rfl rfl rfl rfl u0 rfl rfl) rfl (fun _ => ?_)
 refine pA rfl rfl ?_
 refine nN ?_
 refine WC.ret ?_
 refine WQ.thenRet ?_
 refine WQ.done Try.results79 (RVs.cons (RV.cell wd_54 rfl m0 rfl) (RVs.cons (RV.tmp rfl) RVs.nil)) (fun a w s => ?_)
 · have e : flushOf x p = (Wd.zero, 3) := by
     unfold flushOf; rw [if_pos h0, if_neg (by rw [wi_iff]; simp at *; omega)]
   rw [e]
   exact ⟨(none, 0), rfl, s.low, own_nil _ _ _ _⟩
end Go.Proofs.Ytdbcimadjmdffaa
