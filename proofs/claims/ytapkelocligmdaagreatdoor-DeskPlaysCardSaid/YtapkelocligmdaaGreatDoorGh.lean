/- Scripts: pages, turn, show. No condition. -/
import Derived.Test.YtapkelocligmdaaGreatDoorGg
import Derived.Test.YtapkelocligmdaaGreatDoorQ6
import Derived.Test.YtapkelocligmdaaGreatDoorSq
set_option maxRecDepth 100000
set_option linter.unusedVariables false
set_option linter.unusedSimpArgs false
set_option linter.unusedSectionVars false
set_option maxHeartbeats 4000000
namespace Go.Proofs.YtapkelocligmdaaGreatDoor
open Go.RowKit Go.Joins
def three (a b c : Int) : Value := .iface 30 (.agg #[.int .i64 a, .int .i64 b, .int .i64 c])
/-- Nine cells are listed. -/
theorem w_listed9 (x : C9) (h : x.ok) (b : Nat) (w : World) (hc : ∀ j : Nat, w.cell? ⟨b, j, none⟩ = ([three x.a0 x.a1 x.a2, three x.b0 x.b1 x.b2, three x.c0 x.c1 x.c2] : List Value)[j]?) : Ret Tryz.prog 51 [.slice (some ⟨b, 0, none⟩) 3 3] w (su (listedOf x.nat)) := by
  have h9 : ∀ n ∈ x.nat, n ≤ 99 := by
    intro n hn
    obtain ⟨k, hk⟩ := List.mem_iff_getElem?.1 hn
    have hl : k < 9 := by
      have := (List.getElem?_eq_some_iff.1 hk).1
      simpa [C9.nat] using this
    have := (C9.cl_nat h k hl).2
    rw [hk] at this
    simpa using this
  obtain ⟨a0, a1, a2, b0, b1, b2, c0, c1, c2⟩ := x
  simp only [C9.ok, List.mem_cons, List.not_mem_nil, or_false] at h
  have h0 := h a0 (by simp); have h1 := h a1 (by simp); have h2 := h a2 (by simp)
  have h3 := h b0 (by simp); have h4 := h b1 (by simp); have h5 := h b2 (by simp)
  have h6 := h c0 (by simp); have h7 := h c1 (by simp); have h8 := h c2 (by simp)
  have e0 := Int.toNat_of_nonneg h0.1; have e1 := Int.toNat_of_nonneg h1.1; have e2 := Int.toNat_of_nonneg h2.1
  have e3 := Int.toNat_of_nonneg h3.1; have e4 := Int.toNat_of_nonneg h4.1; have e5 := Int.toNat_of_nonneg h5.1
  have e6 := Int.toNat_of_nonneg h6.1; have e7 := Int.toNat_of_nonneg h7.1; have e8 := Int.toNat_of_nonneg h8.1
  refine w_listed [.three a0.toNat a1.toNat a2.toNat, .three b0.toNat b1.toNat b2.toNat, .three c0.toNat c1.toNat c2.toNat] b w (fun it hit n hn => h9 n ?_) (by simp) (fun i it hi => ?_) (by simp [numsI, It.ns])
  · rcases List.mem_cons.1 hit with rfl | hit
    · simp [It.ns] at hn
      rcases hn with rfl | rfl | rfl <;> simp [C9.nat]
    · rcases List.mem_cons.1 hit with rfl | hit
      · simp [It.ns] at hn
        rcases hn with rfl | rfl | rfl <;> simp [C9.nat]
      · obtain rfl := List.mem_singleton.1 hit
        simp [It.ns] at hn
        rcases hn with rfl | rfl | rfl <;> simp [C9.nat]
  · rw [hc i]
    match i, hi with
    | 0, hi => obtain rfl := Option.some.inj hi; simp [It.v, three, e0, e1, e2]
    | 1, hi => obtain rfl := Option.some.inj hi; simp [It.v, three, e3, e4, e5]
    | 2, hi => obtain rfl := Option.some.inj hi; simp [It.v, three, e6, e7, e8]
    | k + 3, hi => simp at hi
theorem w_listed1 (n : Int) (h : 0 ≤ n ∧ n ≤ 99) (b : Nat) (w : World) (hc : ∀ j : Nat, w.cell? ⟨b, j, none⟩ = ([.iface 3 (.int .i64 n)] : List Value)[j]?) : Ret Tryz.prog 51 [.slice (some ⟨b, 0, none⟩) 1 1] w (su (digs n.toNat)) := by
  have e0 := Int.toNat_of_nonneg h.1
  have k := w_listed [.one n.toNat] b w (fun it hit m hm => by
    obtain rfl := List.mem_singleton.1 hit
    obtain rfl := List.mem_singleton.1 hm
    omega) (by simp) (fun i it hi => by
      rw [hc i]
      match i, hi with
      | 0, hi => obtain rfl := Option.some.inj hi; simp [It.v, e0]
      | k + 1, hi => simp at hi) (by simp [numsI, It.ns])
  have e : listedOf (numsI [.one n.toNat]) = digs n.toNat := by simp [numsI, It.ns, listedOf, spaced]
  rw [e] at k
  exact k
theorem w_listed2 (n m : Int) (h : 0 ≤ n ∧ n ≤ 99) (hm : 0 ≤ m ∧ m ≤ 99) (b : Nat) (w : World) (hc : ∀ j : Nat, w.cell? ⟨b, j, none⟩ = ([.iface 3 (.int .i64 n), .iface 3 (.int .i64 m)] : List Value)[j]?) : Ret Tryz.prog 51 [.slice (some ⟨b, 0, none⟩) 2 2] w (su (digs n.toNat ++ [32] ++ digs m.toNat)) := by
  have e0 := Int.toNat_of_nonneg h.1
  have e1 := Int.toNat_of_nonneg hm.1
  have k := w_listed [.one n.toNat, .one m.toNat] b w (fun it hit y hy => by
    rcases List.mem_cons.1 hit with rfl | hit
    · obtain rfl := List.mem_singleton.1 hy
      omega
    · obtain rfl := List.mem_singleton.1 hit
      obtain rfl := List.mem_singleton.1 hy
      omega) (by simp) (fun i it hi => by
      rw [hc i]
      match i, hi with
      | 0, hi => obtain rfl := Option.some.inj hi; simp [It.v, e0]
      | 1, hi => obtain rfl := Option.some.inj hi; simp [It.v, e1]
      | k + 2, hi => simp at hi) (by simp [numsI, It.ns])
  have e : listedOf (numsI [.one n.toNat, .one m.toNat]) = digs n.toNat ++ [32] ++ digs m.toNat := by simp [numsI, It.ns, listedOf, spaced]
  rw [e] at k
  exact k

theorem w_deskPages (p : P3) (hp : p.cells9.ok) (w : World) : Ret Tryz.prog 53 [p.val] w (su (listedOf p.cells9.nat)) := by
 refine enter Tryz.func53 rfl Tryz.ntmps53 rfl SF.top trivial ?_
 refine sR ?_
 refine WL.eff (E.box rfl rfl rfl) rfl (fun b1 => ?_)
 refine pA rfl rfl ?_
 refine nN ?_
 refine sR ?_
 refine pP (Y.ixArr Tryz.underlying33 Tryz.sizeOf32 rfl rfl (by omega) (by omega)) rfl ?_
 refine pP (Y.fieldAddr fa_32_0 rfl) rfl ?_
 refine pV (Y.loadAN wd_30 rfl m0 (r := [.int .i64 p.p0.c0, .int .i64 p.p0.c1, .int .i64 p.p0.c2]) rfl) rfl ?_
 refine pP (Y.iface (mk_three p.p0.c0 p.p0.c1 p.p0.c2) rfl) rfl ?_
 refine pP (Y.ixArr Tryz.underlying33 Tryz.sizeOf32 rfl rfl (by omega) (by omega)) rfl ?_
 refine pP (Y.fieldAddr fa_32_0 rfl) rfl ?_
 refine pV (Y.loadAN wd_30 rfl m0 (r := [.int .i64 p.p1.c0, .int .i64 p.p1.c1, .int .i64 p.p1.c2]) rfl) rfl ?_
 refine pP (Y.iface (mk_three p.p1.c0 p.p1.c1 p.p1.c2) rfl) rfl ?_
 refine pP (Y.ixArr Tryz.underlying33 Tryz.sizeOf32 rfl rfl (by omega) (by omega)) rfl ?_
 refine pP (Y.fieldAddr fa_32_0 rfl) rfl ?_
 refine pV (Y.loadAN wd_30 rfl m0 (r := [.int .i64 p.p2.c0, .int .i64 p.p2.c1, .int .i64 p.p2.c2]) rfl) rfl ?_
 refine pP (Y.iface (mk_three p.p2.c0 p.p2.c1 p.p2.c2) rfl) rfl ?_
 refine WL.eff (E.buildSlice (bs_any3 _ _ _ _ _ _) rfl rfl) rfl (fun b2 => ?_)
 refine WL.eff (E.call Tryz.call51 rfl (fun _ w s => w_listed9 p.cells9 hp b2 w (fun j => s.hp.cell m0)) rfl) rfl (fun _ => ?_)
 refine pA rfl rfl ?_
 refine nN ?_
 refine WC.ret ?_
 refine dn1 Tryz.results53 rfl (fun a w s => ?_)
 · exact ⟨rfl, s.low⟩

theorem w_turnOk (u : World) (Hl : Hp) (F : SF) (g : Nat) (x : Wd) (A : Option Addr) (c : Nat) (y : Wd) (A2 : Option Addr) (c2 : Nat) (w : World) (e0 : Int) (he0 : e0 = 0) (hw : Wp u ((g, x.cl A c, 39) :: Hl) F w) : Calls Tryz.prog 50 [.pointer (some ⟨g, 0, none⟩), y.val A2 c2, .int .i64 e0].toArray w fun e w' => ∃ i : Unit, e = .returned (su sOk) ∧ Wp u ((g, y.cl A2 c2, 39) :: Hl) F w' := by
 refine enterW Tryz.func50 rfl Tryz.ntmps50 rfl hw ?_
 refine sR ?_
 refine WL.eff (E.box rfl rfl rfl) rfl (fun b1 => ?_)
 refine pA rfl rfl ?_
 refine nN ?_
 refine sR ?_
 refine pM rfl rfl ?_
 refine pP (Y.eql rfl rfl) rfl ?_
 refine pM rfl rfl ?_
 refine WL.eff (E.call Tryz.call29 rfl (fun _ w s => w_mustT _ (by simp [he0]) e0 w) rfl) rfl (fun _ => ?_)
 refine nN ?_
 refine sR ?_
 refine pM rfl rfl ?_
 refine pV (Y.loadAN wd_36 rfl m0 (r := y.cl A2 c2) rfl) rfl ?_
 refine pP (Y.nilCheck rfl) rfl ?_
 refine pP (Y.fieldAddr fa_39_0 rfl) rfl ?_
 refine WL.eff (E.store Tryz.sizeOf36 rfl rfl rfl rfl rfl u1 rfl rfl) rfl (fun _ => ?_)
 refine nN ?_
 refine sR ?_
 refine pA rfl rfl ?_
 refine nN ?_
 refine WC.ret ?_
 refine dn1 Tryz.results50 rfl (fun a w s => ?_)
 · exact ⟨(), rfl, s.wp.sub (List.Sublist.cons _ (List.Sublist.refl _) |> Hsub.of_sub)⟩

theorem w_turnDie (v : Value) (y : Wd) (A2 : Option Addr) (c2 : Nat) (e0 : Int) (he0 : e0 ≠ 0) (w : World) : Die Tryz.prog 50 [v, y.val A2 c2, .int .i64 e0] w e0 := by
 refine enter Tryz.func50 rfl Tryz.ntmps50 rfl SF.top trivial ?_
 refine sR ?_
 refine WL.eff (E.box rfl rfl rfl) rfl (fun b1 => ?_)
 refine pA rfl rfl ?_
 refine nN ?_
 refine sR ?_
 refine pM rfl rfl ?_
 refine pP (Y.eql rfl rfl) rfl ?_
 refine pM rfl rfl ?_
 refine WL.dead Tryz.call29 rfl (fun _ w s => w_mustF _ (by simp [he0]) e0 w) ?_
 refine WQ.thenPanic ?_
 exact WQ.raised rfl (fun w2 hw => ⟨rfl, hw.2.2.2⟩)

section
variable [Inhabited DSx] {E : Env} {n : Nat} {H : Hp} {F G : SF} {u : World}
theorem E.turn {args : Array Operand} {ts : Array TypeId} {d : Nat} {T' : TypeId} {p : String} {af : Array Edge} {Hl : Hp} {g : Nat} (x : Wd) (A : Option Addr) (c : Nat) (y : Wd) (A2 : Option Addr) (c2 : Nat) (e0 : Int) (he0 : e0 = 0) (hH : Hsub ((g, x.cl A c, 39) :: Hl) H)
    (hx : evs E args.toList = some [.pointer (some ⟨g, 0, none⟩), y.val A2 c2, .int .i64 e0]) (hd : Nat.blt d n = true) :
    Eff Tryz.prog E n H F u ⟨some d, .call { callee := .value (.func 50), args := args, argTypes := ts }, T', p, af, none⟩ (fun _ : Unit => (d, su sOk) :: E) (fun _ => (g, y.cl A2 c2, 39) :: Hl) (fun _ => F) :=
  Proofs.YtapkelocligmdaaGreatDoor.E.callM (fun _ => su sOk) _ _ Tryz.call50 hx (fun w hw => (w_turnOk u Hl F g x A c y A2 c2 w e0 he0 (hw.sub hH)).mono fun e w' ⟨i, he, hw'⟩ => ⟨i, he, hw'⟩) hd
end
/-- What a word without numbers gives: the world, what is told, whether it is one. -/
def shA (x : Wd) (l : Str) : Wd × Str × Bool := match showOf x l with
  | some r => (r.1, r.2.1, true)
  | none => (x, [], false)
abbrev ROW (u : World) (x : Wd) (A : Option Addr) (c : Nat) : SF := SF.own u.heap.size 101 8 (.slice A x.log.length c) x.log.length (flat x.log)
theorem w_showOk (u : World) (Hl : Hp) (G : SF) (g : Nat) (x : Wd) (A : Option Addr) (c : Nat) (l9 : Str) (w : World) (hw : Wp u ((g, x.cl A c, 39) :: Hl) ((ROW u x A c).sep G) w) (hw0 : worldErr x = 0) (hcr : l9 = wCrash → (mendOf x (-1) true true true).2.2 = 0) : Calls Tryz.prog 26 [.pointer (some ⟨g, 0, none⟩), su l9].toArray w fun e w' => ∃ i : Option Addr × Nat, e = .returned (.tuple #[su (shA x l9).2.1, .bool (shA x l9).2.2]) ∧ Wp u ((g, (shA x l9).1.cl i.1 i.2, 39) :: Hl) ((ROW u (shA x l9).1 i.1 i.2).sep G) w' := by
 obtain ⟨hR, h60, hs, hp0, hp1, hp2⟩ := world_parts hw0
 have hsafe : x.safe = (((x.log.take x.safe.toNat).length : Nat) : Int) := by rw [List.length_take]; omega
 have hmust : logErr (x.log.take x.safe.toNat) = 0 := take_right (world_right hw0).1 _
 refine enterW Tryz.func26 rfl Tryz.ntmps26 rfl hw ?_
 refine sR ?_
 refine pA rfl rfl ?_
 refine pA rfl rfl ?_
 refine nN ?_
 refine WC.seq ?_
 refine sR ?_
 refine pM rfl rfl ?_
 refine nN ?_
 refine WC.block ?_
 refine sR ?_
 refine pP (Y.eqU (b := wCrash) rfl rfl rfl) rfl ?_
 refine pA rfl rfl ?_
 refine nN ?_
 refine WC.cond rfl (fun h14 => ?_) (fun h14 => ?_)
 refine sR ?_
 refine pM rfl rfl ?_
 refine pP (Y.nilCheck rfl) rfl ?_
 refine pP (Y.fieldAddr fa_39_0 rfl) rfl ?_
 refine pV (Y.loadAN wd_36 rfl m0 (r := x.cl A c) rfl) rfl ?_
 refine WL.eff (E.retW ((mendOf x (-1) true true true).1) [.int .i64 (mendOf x (-1) true true true).2.1, .int .i64 (mendOf x (-1) true true true).2.2] Tryz.call49 rfl (fun _ w s => w_mendAll x A (gOf A) 0 c w (own_max s.fact.1) (own_le s.fact.1) (own_RL s.fact.1)) rfl) rfl (fun i => ?_)
 refine pM rfl rfl ?_
 refine pP (Y.extract rfl rfl) rfl ?_
 refine pP (Y.extract rfl rfl) rfl ?_
 refine pP (Y.extract rfl rfl) rfl ?_
 refine WL.eff (E.alloc Tryz.zeroValue36 rfl rfl) rfl (fun b1 => ?_)
 refine WL.eff (E.store Tryz.sizeOf36 rfl rfl rfl rfl rfl u0 rfl rfl) rfl (fun _ => ?_)
 refine pA rfl rfl ?_
 refine pA rfl rfl ?_
 refine nN ?_
 refine sR ?_
 refine pM rfl rfl ?_
 refine pV (Y.loadAN wd_36 rfl m0 (r := (mendOf x (-1) true true true).1.cl i.1 i.2) rfl) rfl ?_
 refine pM rfl rfl ?_
 refine WL.eff (E.turn (Hl := Hl) x A c (mendOf x (-1) true true true).1 i.1 i.2 _ (hcr (by have hh := h14; simpa using hh)) (Hsub.of_sub (by repeat (first | exact List.Sublist.refl _ | apply List.Sublist.cons))) rfl rfl) rfl (fun _ => ?_)
 refine nN ?_
 refine sR ?_
 refine pM rfl rfl ?_
 refine pP (Y.iface (mk_int _) rfl) rfl ?_
 refine WL.eff (E.buildSlice (bs_any1 _ _) rfl rfl) rfl (fun bz => ?_)
 refine WL.eff (E.call Tryz.call51 rfl (fun _ w s => w_listed1 (mendOf x (-1) true true true).2.1 (by have := mend_cnt x; omega) bz w (fun j => s.hp.cell m0)) rfl) rfl (fun _ => ?_)
 refine pA rfl rfl ?_
 refine pA rfl rfl ?_
 refine nN ?_
 refine WC.ret ?_
 refine WQ.blockRet ?_
 refine WQ.thenRet ?_
 refine WQ.done Tryz.results26 (RVs.cons (RV.tmp rfl) (RVs.cons (RV.tmp rfl) RVs.nil)) (fun a w s => ?_)
 · have y9 : l9 = wCrash := by have hh := h14; simpa using hh
   have e : shA x l9 = ((mendOf x (-1) true true true).1, digs (mendOf x (-1) true true true).2.1.toNat, true) := by unfold shA showOf; rw [if_pos y9] <;> rfl
   rw [e]
   exact ⟨i, rfl, (s.wp.sub (Hsub.of_sub (by repeat (first | exact List.Sublist.refl _ | apply List.Sublist.cons)))).le (SF.sep_mono (SF.le_refl _) (SF.sep_snd _ _))⟩
 refine sR ?_
 refine pP (Y.eqU (b := wNow) rfl rfl rfl) rfl ?_
 refine pA rfl rfl ?_
 refine nN ?_
 refine WC.cond rfl (fun h33 => ?_) (fun h33 => ?_)
 refine sR ?_
 refine pM rfl rfl ?_
 refine pP (Y.nilCheck rfl) rfl ?_
 refine pP (Y.fieldAddr fa_39_0 rfl) rfl ?_
 refine pV (Y.loadAN wd_36 rfl m0 (r := x.cl A c) rfl) rfl ?_
 refine WL.eff (E.call Tryz.call52 rfl (fun _ w s => (by have hh := w_worldNow x A (gOf A) 0 c w (own_max s.fact.1) (own_le s.fact.1) (own_RL s.fact.1); rw [now_ok hw0] at hh; exact hh)) rfl) rfl (fun _ => ?_)
 refine pM rfl rfl ?_
 refine pP (Y.extract rfl rfl) rfl ?_
 refine pP (Y.extract rfl rfl) rfl ?_
 refine WL.eff (E.alloc Tryz.zeroValue33 rfl rfl) rfl (fun b2 => ?_)
 refine WL.eff (E.store Tryz.sizeOf33 rfl rfl rfl rfl rfl u0 rfl rfl) rfl (fun _ => ?_)
 refine pA rfl rfl ?_
 refine nN ?_
 refine sR ?_
 refine pM rfl rfl ?_
 refine pP (Y.eql rfl rfl) rfl ?_
 refine pM rfl rfl ?_
 refine WL.eff (E.call Tryz.call29 rfl (fun _ w s => w_mustT _ rfl 0 w) rfl) rfl (fun _ => ?_)
 refine nN ?_
 refine sR ?_
 refine pV (Y.loadAN wd_33 rfl m0 (r := (pagesOf x.h).cl) rfl) rfl ?_
 refine WL.eff (E.call Tryz.call53 rfl (fun _ w s => w_deskPages (pagesOf x.h) hR.okC w) rfl) rfl (fun _ => ?_)
 refine pA rfl rfl ?_
 refine pA rfl rfl ?_
 refine nN ?_
 refine WC.ret ?_
 refine WQ.blockRet ?_
 refine WQ.thenRet ?_
 refine WQ.done Tryz.results26 (RVs.cons (RV.tmp rfl) (RVs.cons (RV.tmp rfl) RVs.nil)) (fun a w s => ?_)
 · have n14 : ¬ l9 = wCrash := by have hh := h14; simpa using hh
   have y9 : l9 = wNow := by have hh := h33; simpa using hh
   have e : shA x l9 = (x, listedOf (pagesOf x.h).cells9.nat, true) := by unfold shA showOf; rw [if_neg n14, if_pos y9] <;> rfl
   rw [e]
   exact ⟨(A, c), rfl, s.wp.sub (Hsub.of_sub (by repeat (first | exact List.Sublist.refl _ | apply List.Sublist.cons)))⟩
 refine sR ?_
 refine pP (Y.eqU (b := wDisk) rfl rfl rfl) rfl ?_
 refine pA rfl rfl ?_
 refine nN ?_
 refine WC.cond rfl (fun h49 => ?_) (fun h49 => ?_)
 refine sR ?_
 refine pM rfl rfl ?_
 refine pP (Y.nilCheck rfl) rfl ?_
 refine pP (Y.fieldAddr fa_39_0 rfl) rfl ?_
 refine pP (Y.fieldAddr fa_36_0 rfl) rfl ?_
 refine pV (Y.loadAN wd_33 rfl m0 (r := x.disk.cl) rfl) rfl ?_
 refine WL.eff (E.call Tryz.call53 rfl (fun _ w s => w_deskPages x.disk (P3.okC hp0 hp1 hp2) w) rfl) rfl (fun _ => ?_)
 refine pA rfl rfl ?_
 refine pA rfl rfl ?_
 refine nN ?_
 refine WC.ret ?_
 refine WQ.blockRet ?_
 refine WQ.thenRet ?_
 refine WQ.done Tryz.results26 (RVs.cons (RV.tmp rfl) (RVs.cons (RV.tmp rfl) RVs.nil)) (fun a w s => ?_)
 · have n14 : ¬ l9 = wCrash := by have hh := h14; simpa using hh
   have n33 : ¬ l9 = wNow := by have hh := h33; simpa using hh
   have y9 : l9 = wDisk := by have hh := h49; simpa using hh
   have e : shA x l9 = (x, listedOf x.disk.cells9.nat, true) := by unfold shA showOf; rw [if_neg n14, if_neg n33, if_pos y9] <;> rfl
   rw [e]
   exact ⟨(A, c), rfl, s.wp.sub (Hsub.of_sub (by repeat (first | exact List.Sublist.refl _ | apply List.Sublist.cons)))⟩
 refine sR ?_
 refine pP (Y.eqU (b := wMust) rfl rfl rfl) rfl ?_
 refine pA rfl rfl ?_
 refine nN ?_
 refine WC.cond rfl (fun h57 => ?_) (fun h57 => ?_)
 refine WC.seq ?_
 refine WC.know (p := x.log.length ≤ c) (fun a w s => own_le s.fact.1) (fun hcap => ?_)
 refine WC.draw [(0, .q false), (1, .q false), (2, .q false), (3, .q false), (4, .q true), (5, .q false), (6, .q false), (7, .q false), (8, .q false), (9, .q true), (10, .q false), (11, .q true), (12, .q false), (13, .q false), (14, .q false), (15, .s false), (16, .s true), (17, .q false)] mixed (by kernel_rfl) ?_
 refine dP (Y.move rfl) rfl rfl ?_
 refine dP (Y.nilCheck rfl) rfl rfl ?_
 refine dP (Y.fieldAddr fa_39_0 rfl) rfl rfl ?_
 refine dP (Y.fieldAddr fa_36_1 rfl) rfl rfl ?_
 refine dV (Y.load (v := .slice A x.log.length c) fl_34 rfl (by repeat (first | exact List.Mem.head _ | apply List.Mem.tail)) rfl) rfl rfl ?_
 refine dP (Y.move rfl) rfl rfl ?_
 refine dP (Y.nilCheck rfl) rfl rfl ?_
 refine dP (Y.fieldAddr fa_39_0 rfl) rfl rfl ?_
 refine dP (Y.fieldAddr fa_36_2 rfl) rfl rfl ?_
 refine dV (Y.load (v := .int .i64 x.safe) fl_3 rfl (by repeat (first | exact List.Mem.head _ | apply List.Mem.tail)) rfl) rfl rfl ?_
 refine dP (Y.slToN (x.log.take x.safe.toNat).length hsafe Tryz.underlying34 Tryz.sizeOf101 rfl rfl (by simp; omega)) rfl rfl ?_
 refine WDm.quiet (QS.call Tryz.call54 rfl (fun _ w s => w_cells (x.log.take x.safe.toNat) A (gOf A) 0 c w (by have := own_max s.fact.1; simp; omega) ((own_RL s.fact.1).take _))) rfl rfl rfl ?_
 refine dP (Y.move rfl) rfl rfl ?_
 refine dP (Y.extract rfl rfl) rfl rfl ?_
 refine dP (Y.extract rfl rfl) rfl rfl ?_
 refine WDm.spec (WS.free rfl (E.alloc Tryz.zeroValue78 rfl rfl)) (fun _ => ext_new rfl) (fun b3 => ?_)
 refine WDm.spec (WS.free rfl (E.store Tryz.sizeOf78 rfl rfl rfl rfl rfl u0 rfl rfl)) (fun _ => sub_refl _) (fun _ => ?_)
 refine dP (Y.assign rfl) rfl rfl ?_
 refine WDm.nil (WQ.and ?_)
 refine WQ.next ?_
 refine sR ?_
 refine pM rfl rfl ?_
 refine pP (Y.eql rfl rfl) rfl ?_
 refine pM rfl rfl ?_
 refine WL.eff (E.call Tryz.call29 rfl (fun _ w s => w_mustT _ (by rw [hmust]; rfl) _ w) rfl) rfl (fun _ => ?_)
 refine nN ?_
 refine sR ?_
 refine pP (Y.ixArr Tryz.underlying78 Tryz.sizeOf30 rfl rfl (by omega) (by omega)) rfl ?_
 refine pV (Y.loadAN wd_30 rfl m0 (r := [.int .i64 (cellsOf (x.log.take x.safe.toNat)).a0, .int .i64 (cellsOf (x.log.take x.safe.toNat)).a1, .int .i64 (cellsOf (x.log.take x.safe.toNat)).a2]) rfl) rfl ?_
 refine pP (Y.iface (mk_three (cellsOf (x.log.take x.safe.toNat)).a0 (cellsOf (x.log.take x.safe.toNat)).a1 (cellsOf (x.log.take x.safe.toNat)).a2) rfl) rfl ?_
 refine pP (Y.ixArr Tryz.underlying78 Tryz.sizeOf30 rfl rfl (by omega) (by omega)) rfl ?_
 refine pV (Y.loadAN wd_30 rfl m0 (r := [.int .i64 (cellsOf (x.log.take x.safe.toNat)).b0, .int .i64 (cellsOf (x.log.take x.safe.toNat)).b1, .int .i64 (cellsOf (x.log.take x.safe.toNat)).b2]) rfl) rfl ?_
 refine pP (Y.iface (mk_three (cellsOf (x.log.take x.safe.toNat)).b0 (cellsOf (x.log.take x.safe.toNat)).b1 (cellsOf (x.log.take x.safe.toNat)).b2) rfl) rfl ?_
 refine pP (Y.ixArr Tryz.underlying78 Tryz.sizeOf30 rfl rfl (by omega) (by omega)) rfl ?_
 refine pV (Y.loadAN wd_30 rfl m0 (r := [.int .i64 (cellsOf (x.log.take x.safe.toNat)).c0, .int .i64 (cellsOf (x.log.take x.safe.toNat)).c1, .int .i64 (cellsOf (x.log.take x.safe.toNat)).c2]) rfl) rfl ?_
 refine pP (Y.iface (mk_three (cellsOf (x.log.take x.safe.toNat)).c0 (cellsOf (x.log.take x.safe.toNat)).c1 (cellsOf (x.log.take x.safe.toNat)).c2) rfl) rfl ?_
 refine WL.eff (E.buildSlice (bs_any3 _ _ _ _ _ _) rfl rfl) rfl (fun bz => ?_)
 refine WL.eff (E.call Tryz.call51 rfl (fun _ w s => w_listed9 (cellsOf (x.log.take x.safe.toNat)) cells_okC bz w (fun j => s.hp.cell m0)) rfl) rfl (fun _ => ?_)
 refine pA rfl rfl ?_
 refine pA rfl rfl ?_
 refine nN ?_
 refine WC.ret ?_
 refine WQ.blockRet ?_
 refine WQ.thenRet ?_
 refine WQ.done Tryz.results26 (RVs.cons (RV.tmp rfl) (RVs.cons (RV.tmp rfl) RVs.nil)) (fun a w s => ?_)
 · have n14 : ¬ l9 = wCrash := by have hh := h14; simpa using hh
   have n33 : ¬ l9 = wNow := by have hh := h33; simpa using hh
   have n49 : ¬ l9 = wDisk := by have hh := h49; simpa using hh
   have y9 : l9 = wMust := by have hh := h57; simpa using hh
   have e : shA x l9 = (x, listedOf (cellsOf (x.log.take x.safe.toNat)).nat, true) := by unfold shA showOf; rw [if_neg n14, if_neg n33, if_neg n49, if_pos y9] <;> rfl
   rw [e]
   exact ⟨(A, c), rfl, s.wp.sub (Hsub.of_sub (by repeat (first | exact List.Sublist.refl _ | apply List.Sublist.cons)))⟩
 refine sR ?_
 refine pP (Y.eqU (b := wLog) rfl rfl rfl) rfl ?_
 refine pA rfl rfl ?_
 refine nN ?_
 refine WC.cond rfl (fun h89 => ?_) (fun h89 => ?_)
 refine WC.seq ?_
 refine WC.drop [4, 5] ?_
 refine WC.draw [(0, .q false), (1, .q false), (2, .q false), (3, .q false), (4, .q true), (5, .q false), (6, .q false), (7, .q false), (8, .q false), (9, .q false), (10, .q false), (11, .q true), (12, .q false), (13, .s false), (14, .q true), (15, .q false), (16, .q false)] mixed (by kernel_rfl) ?_
 refine dP (Y.move rfl) rfl rfl ?_
 refine dP (Y.nilCheck rfl) rfl rfl ?_
 refine dP (Y.fieldAddr fa_39_0 rfl) rfl rfl ?_
 refine dP (Y.fieldAddr fa_36_1 rfl) rfl rfl ?_
 refine dV (Y.load (v := .slice A x.log.length c) fl_34 rfl (by repeat (first | exact List.Mem.head _ | apply List.Mem.tail)) rfl) rfl rfl ?_
 refine dP (Y.len Tryz.underlying34 rfl) rfl rfl ?_
 refine dP (Y.iface (mk_int _) rfl) rfl rfl ?_
 refine dP (Y.move rfl) rfl rfl ?_
 refine dP (Y.nilCheck rfl) rfl rfl ?_
 refine dP (Y.fieldAddr fa_39_0 rfl) rfl rfl ?_
 refine dP (Y.fieldAddr fa_36_2 rfl) rfl rfl ?_
 refine dV (Y.load (v := .int .i64 x.safe) fl_3 rfl (by repeat (first | exact List.Mem.head _ | apply List.Mem.tail)) rfl) rfl rfl ?_
 refine dP (Y.iface (mk_int _) rfl) rfl rfl ?_
 refine WDm.spec (WS.free rfl (E.buildSlice (bs_any2 _ _ _ _) rfl rfl)) (fun _ => ext_new rfl) (fun bz => ?_)
 refine WDm.quiet (QS.call Tryz.call51 rfl (fun _ w s => (by have hh := w_listed2 x.log.length x.safe (by omega) (by omega) bz w (fun j => s.hp.cell (by repeat (first | exact List.Mem.head _ | apply List.Mem.tail))); exact hh))) rfl rfl rfl ?_
 refine dP (Y.assign rfl) rfl rfl ?_
 refine dP (Y.assign rfl) rfl rfl ?_
 refine WDm.nil (WQ.and ?_)
 refine WQ.next ?_
 refine WC.ret ?_
 refine WQ.blockRet ?_
 refine WQ.thenRet ?_
 refine WQ.done Tryz.results26 (RVs.cons (RV.tmp rfl) (RVs.cons (RV.tmp rfl) RVs.nil)) (fun a w s => ?_)
 · have n14 : ¬ l9 = wCrash := by have hh := h14; simpa using hh
   have n33 : ¬ l9 = wNow := by have hh := h33; simpa using hh
   have n49 : ¬ l9 = wDisk := by have hh := h49; simpa using hh
   have n57 : ¬ l9 = wMust := by have hh := h57; simpa using hh
   have y9 : l9 = wLog := by have hh := h89; simpa using hh
   have e : shA x l9 = (x, digs x.log.length ++ [32] ++ digs x.safe.toNat, true) := by unfold shA showOf; rw [if_neg n14, if_neg n33, if_neg n49, if_neg n57, if_pos y9] <;> rfl
   rw [e]
   exact ⟨(A, c), rfl, s.wp.sub (Hsub.of_sub (by repeat (first | exact List.Sublist.refl _ | apply List.Sublist.cons)))⟩
 refine WC.skip' ?_
 refine WQ.blockEnd ?_
 refine WQ.next ?_
 refine sR ?_
 refine pA rfl rfl ?_
 refine pA rfl rfl ?_
 refine nN ?_
 refine WC.ret ?_
 refine WQ.done Tryz.results26 (RVs.cons (RV.tmp rfl) (RVs.cons (RV.tmp rfl) RVs.nil)) (fun a w s => ?_)
 · have n14 : ¬ l9 = wCrash := by have hh := h14; simpa using hh
   have n33 : ¬ l9 = wNow := by have hh := h33; simpa using hh
   have n49 : ¬ l9 = wDisk := by have hh := h49; simpa using hh
   have n57 : ¬ l9 = wMust := by have hh := h57; simpa using hh
   have n89 : ¬ l9 = wLog := by have hh := h89; simpa using hh
   have e : shA x l9 = (x, [], false) := by unfold shA showOf; rw [if_neg n14, if_neg n33, if_neg n49, if_neg n57, if_neg n89]
   rw [e]
   exact ⟨(A, c), rfl, s.wp⟩

theorem w_showDie (u : World) (Hl : Hp) (G : SF) (g : Nat) (x : Wd) (A : Option Addr) (c : Nat) (l9 : Str) (w : World) (hw : Wp u ((g, x.cl A c, 39) :: Hl) ((ROW u x A c).sep G) w) (hw0 : worldErr x = 0) (hl9 : l9 = wCrash) (hne : (mendOf x (-1) true true true).2.2 ≠ 0) : Calls Tryz.prog 26 [.pointer (some ⟨g, 0, none⟩), su l9].toArray w fun e w' => ∃ i : Unit, e = .panicked (refP (mendOf x (-1) true true true).2.2) ∧ Wp u ((g, x.cl A c, 39) :: Hl) ((ROW u x A c).sep G) w' := by
 refine enterW Tryz.func26 rfl Tryz.ntmps26 rfl hw ?_
 refine sR ?_
 refine pA rfl rfl ?_
 refine pA rfl rfl ?_
 refine nN ?_
 refine WC.seq ?_
 refine sR ?_
 refine pM rfl rfl ?_
 refine nN ?_
 refine WC.block ?_
 refine sR ?_
 refine pP (Y.eqU (b := wCrash) rfl rfl rfl) rfl ?_
 refine pA rfl rfl ?_
 refine nN ?_
 refine WC.isT rfl (decide_eq_true hl9) ?_
 refine sR ?_
 refine pM rfl rfl ?_
 refine pP (Y.nilCheck rfl) rfl ?_
 refine pP (Y.fieldAddr fa_39_0 rfl) rfl ?_
 refine pV (Y.loadAN wd_36 rfl m0 (r := x.cl A c) rfl) rfl ?_
 refine WL.eff (E.retW ((mendOf x (-1) true true true).1) [.int .i64 (mendOf x (-1) true true true).2.1, .int .i64 (mendOf x (-1) true true true).2.2] Tryz.call49 rfl (fun _ w s => w_mendAll x A (gOf A) 0 c w (own_max s.fact.1) (own_le s.fact.1) (own_RL s.fact.1)) rfl) rfl (fun i => ?_)
 refine pM rfl rfl ?_
 refine pP (Y.extract rfl rfl) rfl ?_
 refine pP (Y.extract rfl rfl) rfl ?_
 refine pP (Y.extract rfl rfl) rfl ?_
 refine WL.eff (E.alloc Tryz.zeroValue36 rfl rfl) rfl (fun b1 => ?_)
 refine WL.eff (E.store Tryz.sizeOf36 rfl rfl rfl rfl rfl u0 rfl rfl) rfl (fun _ => ?_)
 refine pA rfl rfl ?_
 refine pA rfl rfl ?_
 refine nN ?_
 refine sR ?_
 refine pM rfl rfl ?_
 refine pV (Y.loadAN wd_36 rfl m0 (r := (mendOf x (-1) true true true).1.cl i.1 i.2) rfl) rfl ?_
 refine pM rfl rfl ?_
 refine WL.dead Tryz.call50 rfl (fun _ w s => w_turnDie _ (mendOf x (-1) true true true).1 i.1 i.2 _ hne w) ?_
 refine WQ.thenPanic ?_
 refine WQ.blockPanic ?_
 refine WQ.thenPanic ?_
 exact WQ.raised rfl (fun w2 hw => ⟨(), rfl, (hw.sub (Hsub.of_sub (by repeat (first | exact List.Sublist.refl _ | apply List.Sublist.cons)))).le (SF.sep_snd _ _)⟩)
end Go.Proofs.YtapkelocligmdaaGreatDoor
