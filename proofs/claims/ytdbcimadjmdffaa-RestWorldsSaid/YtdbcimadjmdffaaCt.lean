/- Mend: mend. No condition. -/
import Derived.Test.YtdbcimadjmdffaaCr
import Derived.Test.YtdbcimadjmdffaaMe
import Derived.Test.YtdbcimadjmdffaaCa
import Derived.Test.YtdbcimadjmdffaaCn
set_option maxRecDepth 100000
set_option linter.unusedVariables false
set_option linter.unusedSimpArgs false
set_option linter.unusedSectionVars false
set_option maxHeartbeats 4000000
namespace Go.Proofs.Ytdbcimadjmdffaa
open Go.RowKit Go.Joins
section
variable [Inhabited DSx] {E : Env} {n : Nat} {H : Hp} {F G : SF} {u : World}
theorem E.crewNext {f : FuncId} {args : Array Operand} {ts : Array TypeId} {d : Nat} {T' : TypeId} {p : String} {af : Array Edge} {B : Bk} {Hl : Hp} (Hx : Hp) (h : List R) (x : Wd) (A : Option Addr) (c dk : Nat) (hf : f = 161) (hB : BOk B h) (hR : Right h) (h60 : h.length ≤ 60)
    (hH : H = Hx ++ (x.dk B dk A c :: (B.hp ++ Hl))) (hF : F = (SF.bk u.heap.size B).sep G) (hx : evs E args.toList = some [.agg #[.pointer (some ⟨dk, 0, none⟩)]]) (hn : Nat.blt d n = true) :
    Eff Try.prog E n H F u ⟨some d, .call { callee := .value (.func f), args := args, argTypes := ts }, T', p, af, none⟩ (fun i : {i : Bk // BOk i h ∧ i.bk = B.bk} => (d, packed [(nextR h).1.val, .bool (nextR h).2]) :: E) (fun i => Hx ++ (x.dk i.1 dk A c :: (i.1.hp ++ Hl))) (fun i => (SF.bk u.heap.size i.1).sep G) := by
  subst hf hF
  refine Proofs.Ytdbcimadjmdffaa.E.callM (fun _ => packed [(nextR h).1.val, .bool (nextR h).2]) _ _ Try.call161 hx (fun w hw => ?_) hn
  rw [hH] at hw
  have k1 : Hsub (x.dk B dk A c :: (B.hp ++ (Hx ++ Hl))) (Hx ++ (x.dk B dk A c :: (B.hp ++ Hl))) := by
    refine Hsub.of_perm ?_
    have h1 : ((x.dk B dk A c :: B.hp) ++ Hx).Perm (Hx ++ (x.dk B dk A c :: B.hp)) := List.perm_append_comm
    have := h1.append_right Hl
    simpa [List.append_assoc] using this
  refine (w_crewNext u B (Hx ++ Hl) G h x A c dk w (hw.sub k1) hB hR h60).mono fun e w' ⟨i, he, hw'⟩ => ⟨i, he, hw'.sub ?_⟩
  have ep : x.dk B dk A c = x.dk i.1 dk A c := by unfold Wd.dk Bk.ptr; rw [i.2.2]
  rw [ep]
  refine Hsub.of_perm ?_
  have h1 : (Hx ++ (x.dk i.1 dk A c :: i.1.hp)).Perm ((x.dk i.1 dk A c :: i.1.hp) ++ Hx) := List.perm_append_comm
  have := h1.append_right Hl
  simpa [List.append_assoc] using this
end

theorem layL_at (pg : P3) : ∀ (xs : List Int) (y : Wd) (l : List R), layL pg xs { y with log := l } = { layL pg xs y with log := l }
  | [], y, l => rfl
  | p :: xs, y, l => by
    simp only [layL]
    exact layL_at pg xs { y with disk := y.disk.set p (pg.get p), safe := max y.safe (pg.get p).last } l

/-- The world whose log is the book's: what is safe is all. -/
def yS (x : Wd) (h : List R) : Wd := ⟨x.disk, x.cut.log, h.length⟩
theorem Hsub.skip2 {x y : Nat × List Value × TypeId} {l : Hp} : Hsub (x :: l) (x :: y :: l) := Hsub.of_sub (List.Sublist.cons_cons _ (List.sublist_cons_self _ _))
theorem Hsub.mendL {x y z a b q : Nat × List Value × TypeId} {l : Hp} : Hsub [b, q, z, a] (x :: y :: z :: a :: b :: q :: l) := by
  refine ⟨[z, a, b, q], ?_, List.Sublist.cons _ (List.Sublist.cons _ (List.Sublist.cons_cons _ (List.Sublist.cons_cons _ (List.Sublist.cons_cons _ (List.Sublist.cons_cons _ (List.nil_sublist _))))))⟩
  exact (List.perm_append_comm (l₁ := [z, a]) (l₂ := [b, q]))

theorem w_mendMend (x : Wd) (A : Option Addr) (b o c : Nat) (steps : Int) (xs : List Int) (A2 : Option Addr) (g2 c2 : Nat) (w : World) (hm : x.log.length ≤ maxLen) (hcap : x.log.length ≤ c) (hr : RL w A b o x.log) (hxl : xs.length ≤ 3) (hxs : ∀ p ∈ xs, 0 ≤ p ∧ p ≤ 2) (hil : IL w A2 g2 xs) : RetW Try.prog 134 [x.val A c, .int .i64 steps, .slice A2 xs.length c2] w (mendX x steps xs).1 [.int .i64 (mendX x steps xs).2.1, .int .i64 (mendX x steps xs).2.2] := by
 refine enter Try.func134 rfl Try.ntmps134 rfl SF.top trivial ?_
 refine sR ?_
 refine WL.eff (E.box rfl rfl rfl) rfl (fun b1 => ?_)
 refine WL.eff (E.alloc Try.zeroValue54 rfl rfl) rfl (fun b2 => ?_)
 refine pA rfl rfl ?_
 refine pA rfl rfl ?_
 refine nN ?_
 refine sR ?_
 refine pV (Y.loadAN wd_54 rfl m1 (r := x.cl A c) rfl) rfl ?_
 refine WL.eff (E.retW ((crashOf x).1) [.int .i64 (crashOf x).2] Try.call94 rfl (fun _ w s => w_scanCrash x A b o c w hm hcap (hr.below s.low)) rfl) rfl (fun i => ?_)
 refine pM rfl rfl ?_
 refine pP (Y.extract rfl rfl) rfl ?_
 refine pP (Y.extract rfl rfl) rfl ?_
 refine WL.eff (E.store Try.sizeOf54 rfl rfl rfl rfl rfl u1 rfl rfl) rfl (fun _ => ?_)
 refine pA rfl rfl ?_
 refine nN ?_
 refine WC.seq ?_
 refine sR ?_
 refine pM rfl rfl ?_
 refine pP (Y.neq rfl rfl) rfl ?_
 refine nN ?_
 refine WC.cond rfl (fun h21 => ?_) (fun h21 => ?_)
 refine sR ?_
 refine pP (Y.build rfl (bf_54 )) rfl ?_
 refine pM rfl rfl ?_
 refine WL.eff (E.store Try.sizeOf54 rfl rfl rfl rfl rfl u0 rfl rfl) rfl (fun _ => ?_)
 refine pA rfl rfl ?_
 refine pA rfl rfl ?_
 refine nN ?_
 refine WC.ret ?_
 refine WQ.thenRet ?_
 refine WQ.done Try.results134 (RVs.cons (RV.cell wd_54 rfl m0 rfl) (RVs.cons (RV.tmp rfl) (RVs.cons (RV.tmp rfl) RVs.nil))) (fun a w s => ?_)
 · have hne0 : worldErr x ≠ 0 := by intro hh; have h21 := h21; unfold crashOf at h21; rw [if_pos hh] at h21; simp at h21
   have ecr : crashOf x = (Wd.zero, worldErr x) := by unfold crashOf; rw [if_neg hne0]
   have e : mendX x steps xs = (Wd.zero, 0, worldErr x) := by unfold mendX; rw [if_neg hne0]
   rw [e, ecr]
   exact ⟨(none, 0), rfl, s.low, own_nil _ _ _ _⟩
 refine WC.skip' ?_
 refine WQ.next ?_
 refine WC.seq ?_
 have h0 : worldErr x = 0 := by
   have h21 := h21
   unfold crashOf at h21
   by_cases hh : worldErr x = 0
   · exact hh
   · rw [if_neg hh] at h21; simp at h21; exact absurd h21 hh
 have hcr : crashOf x = (x.cut, 0) := by unfold crashOf; rw [if_pos h0]
 rw [hcr]
 dsimp only
 have hcl := cut_len h0
 have hw0 := cut_right h0
 obtain ⟨hl0, h60, hR, hsf, _⟩ := world_right hw0
 refine WC.know (p := x.cut.log.length ≤ i.2) (fun a w s => own_le s.fact.1) (fun hcap2 => ?_)
 refine WC.region ?_
 refine pV (Y.loadAN wd_54 rfl m1 (r := x.cut.cl i.1 i.2) rfl) rfl ?_
 refine WL.eff (E.wkopen [_, _] x.cut i.1 (gOf i.1) 0 i.2 rfl hcap2 (fun w hw => own_RL hw.2.1.1) rfl rfl rfl) rfl (fun j => ?_)
 obtain ⟨⟨B0, dk⟩, hB⟩ := j
 dsimp only at hB ⊢
 have hB0 := hB hw0
 refine pM rfl rfl ?_
 refine pP (Y.extract rfl rfl) rfl ?_
 refine pP (Y.extract rfl rfl) rfl ?_
 refine pA rfl rfl ?_
 refine pA rfl rfl ?_
 refine nN ?_
 refine WC.seq ?_
 refine sR ?_
 refine pM rfl rfl ?_
 refine pP (Y.neq rfl rfl) rfl ?_
 refine nN ?_
 refine WC.isF rfl (by rw [hw0]; rfl) ?_
 refine WC.skip' ?_
 refine WQ.next ?_
 refine sR ?_
 refine pM rfl rfl ?_
 refine pP (Y.build rfl (bf_151_0 _)) rfl ?_
 refine WL.eff (E.alloc Try.zeroValue151 rfl rfl) rfl (fun b3 => ?_)
 refine WL.eff (E.store Try.sizeOf151 rfl rfl rfl rfl rfl u0 rfl rfl) rfl (fun _ => ?_)
 refine nN ?_
 refine sR ?_
 refine pA rfl rfl ?_
 refine nN ?_
 refine WC.seq ?_
 refine sR ?_
 refine pV (Y.loadAN wd_151 rfl m0 (r := [.pointer (some ⟨dk, 0, none⟩)]) rfl) rfl ?_
 refine WL.eff (E.crewNext [_, _, _] x.cut.h x.cut i.1 i.2 dk rfl hB0 hR (by rw [hlen]; exact h60) rfl rfl rfl rfl) rfl (fun k => ?_)
 obtain ⟨B1, hB1, ebk1⟩ := k
 dsimp only
 have ep1 : B0.ptr = B1.ptr := by unfold Bk.ptr; rw [ebk1]
 try rw [show x.cut.dk B0 dk i.1 i.2 = x.cut.dk B1 dk i.1 i.2 by unfold Wd.dk; rw [ep1]]
 refine pM rfl rfl ?_
 refine pP (Y.extract rfl rfl) rfl ?_
 refine pP (Y.extract rfl rfl) rfl ?_
 refine WL.eff (E.alloc Try.zeroValue34 rfl rfl) rfl (fun b4 => ?_)
 refine WL.eff (E.store Try.sizeOf34 rfl rfl rfl rfl rfl u0 rfl rfl) rfl (fun _ => ?_)
 refine pA rfl rfl ?_
 refine nN ?_
 refine WC.block ?_
 refine WC.loop (ι := (List R × Nat) × (Bk × Nat)) (fun k => [(1, .int .i64 steps), (2, .slice A2 xs.length c2), (3, .pointer (some ⟨b1, 0, none⟩)), (6, .pointer (some ⟨b2, 0, none⟩)), (10, .pointer (some ⟨dk, 0, none⟩)), (11, .pointer (some ⟨b3, 0, none⟩)), (12, .int .i64 k.1.2), (13, .pointer (some ⟨k.2.2, 0, none⟩)), (14, .bool (nextR k.1.1).2)]) (fun k => ((k.2.2, (nextR k.1.1).1.cl, 34) :: (b3, [.pointer (some ⟨dk, 0, none⟩)], 151) :: (b2, Wd.zero.cl none 0, 54) :: (b1, x.cut.cl i.1 i.2, 54) :: x.cut.dk k.2.1 dk i.1 i.2 :: (k.2.1.hp ++ []))) (fun k => (SF.bk w.heap.size k.2.1).sep ((SF.own w.heap.size 34 8 (.slice i.1 x.cut.log.length i.2) x.cut.log.length (flat x.cut.log)).sep SF.top)) (fun k => (Right k.1.1 ∧ k.1.1.length ≤ 60 ∧ k.1.2 ≤ k.1.1.length ∧ mendGo (61 - x.cut.log.length) steps 0 x.cut.h = mendGo (61 - k.1.1.length) steps k.1.2 k.1.1) ∧ BOk k.2.1 k.1.1) (fun k => 61 - k.1.1.length) ((x.cut.h, 0), (B1, b4)) ⟨⟨hR, by rw [hlen]; exact h60, Nat.zero_le _, by rw [hlen]⟩, hB1⟩ (fun a w s => s.weak (by repeat (first | exact sub_nil _ | refine sub_cons rfl ?_))) (fun k hk => ?_)
 obtain ⟨⟨h, m⟩, B, gr⟩ := k
 obtain ⟨⟨hRh, hle, hmle, hgo⟩, hBk⟩ := hk
 clear hB
 have hB := hBk
 clear hBk
 dsimp only at hRh hle hmle hgo hB ⊢
 have hBl : B.l.length = h.length := by rw [hB.l]; simp
 refine WC.seq ?_
 refine sR ?_
 refine pM rfl rfl ?_
 refine pM rfl rfl ?_
 refine WL.split (t := 41) rfl (fun r h41 => ?_)
 cases r
 refine gF rfl ?_
 refine gF rfl ?_
 refine gF rfl ?_
 refine pP (Y.pickF rfl rfl) rfl ?_
 refine nN ?_
 refine WC.condF rfl ?_
 refine WC.exit ?_
 refine WQ.thenExit ?_
 refine WQ.thenExit ?_
 refine WQ.blockExit ?_
 refine WQ.next ?_
 refine WC.seq ?_
 have hs : (m : Int) = steps ∨ nextH h = none := by first | exact .inr (nextR_none h41) | (left; have h45 := h45; simpa using h45)
 refine WC.region ?_
 refine pM rfl rfl ?_
 refine pM rfl rfl ?_
 refine pP (Y.nilCheck rfl) rfl ?_
 refine pP (Y.fieldAddr fa_123_0 rfl) rfl ?_
 refine pV (Y.load fl_105 rfl m4 rfl) rfl ?_
 refine pP (Y.nilCheck rfl) rfl ?_
 refine pP (Y.fieldAddr fa_112_0 rfl) rfl ?_
 refine pV (Y.load (v := .slice B.A B.l.length B.c) fl_39 rfl m5 rfl) rfl ?_
 refine pP (Y.len Try.underlying39 rfl) rfl ?_
 refine pP (Y.nilCheck rfl) rfl ?_
 refine pP (Y.fieldAddr fa_123_1 rfl) rfl ?_
 refine pP (Y.fieldAddr fa_54_2 rfl) rfl ?_
 refine WL.eff (E.store (cs := B.ptr :: x.cut.cl i.1 i.2) (cs' := B.ptr :: (yS x h).cl i.1 i.2) Try.sizeOf3 rfl rfl rfl rfl rfl u4 rfl (by rw [hBl]; rfl)) rfl (fun _ => ?_)
 refine nN ?_
 refine sR ?_
 refine pM rfl rfl ?_
 refine pM rfl rfl ?_
 refine WL.eff (E.lay (Hl := [_, _]) B (yS x h) i.1 i.2 dk xs A2 g2 c2 rfl hxl hxs (fun w hw => hil.below hw.2.2.2) Hsub.mendL rfl rfl) rfl (fun _ => ?_)
 refine nN ?_
 refine sR ?_
 refine pM rfl rfl ?_
 refine WL.eff (E.done (Hl := [_, _]) B (layL B.pg xs (yS x h)) i.1 i.2 dk rfl (Hsub.refl _) rfl rfl) rfl (fun _ => ?_)
 refine pM rfl rfl ?_
 refine WL.eff (E.store Try.sizeOf54 rfl rfl rfl rfl rfl u2 rfl rfl) rfl (fun _ => ?_)
 refine pA rfl rfl ?_
 refine pA rfl rfl ?_
 refine nN ?_
 refine WC.ret ?_
 refine WQ.done Try.results134 (RVs.cons (RV.cell wd_54 rfl m2 rfl) (RVs.cons (RV.tmp rfl) (RVs.cons (RV.tmp rfl) RVs.nil))) (fun a w s => ?_)
 · have e : mendX x steps xs = (layL (pagesOf h) xs ⟨x.disk, h.reverse, h.length⟩, (m : Int), 0) := by
     unfold mendX
     rw [if_pos h0, hgo, show 61 - h.length = (60 - h.length) + 1 by omega, mendGo_stop hs]
   have e3 : (⟨(layL B.pg xs (yS x h)).disk, B.l, (layL B.pg xs (yS x h)).safe⟩ : Wd) = layL (pagesOf h) xs ⟨x.disk, h.reverse, h.length⟩ := by
     rw [hB.pg, hB.l]
     exact (layL_at (pagesOf h) xs (yS x h) h.reverse).symm
   have el : (layL (pagesOf h) xs ⟨x.disk, h.reverse, h.length⟩).log = B.l := by rw [layL_log, hB.l]
   rw [e]
   refine ⟨(B.A, B.c), ?_, s.low, ?_⟩
   · rw [e3]; rfl
   · dsimp only
     rw [el]
     exact s.fact.1.2.1.2.1.1
 refine gT rfl ?_
 refine pM rfl rfl ?_
 refine gT rfl ?_
 refine pM rfl rfl ?_
 refine gT rfl ?_
 refine pP (Y.neq rfl rfl) rfl ?_
 refine pP (Y.pickT rfl rfl) rfl ?_
 refine nN ?_
 refine WC.cond rfl (fun h45 => ?_) (fun h45 => ?_)
 refine WC.skip' ?_
 refine WQ.next ?_
 refine WC.seq ?_
 refine WC.block ?_
 refine WC.seq ?_
 refine WC.seq ?_
 have hne : (m : Int) ≠ steps := by have h45 := h45; simpa using h45
 have hnx : nextH h = some (nextR h).1 := nextR_some h41
 refine WC.region ?_
 refine pP (Y.fieldAddr fa_151_0 rfl) rfl ?_
 refine pV (Y.load (v := .pointer (some ⟨dk, 0, none⟩)) fl_119 rfl m1 rfl) rfl ?_
 refine WL.eff (E.call Try.call129 rfl (fun _ w s => w_full B dk 1 _ _ w (s.hp.blk (x.cut.dk B dk i.1 i.2) (by repeat (first | exact List.Mem.head _ | apply List.Mem.tail))).1 (s.hp.blk B.own1 (by repeat (first | exact List.Mem.head _ | apply List.Mem.tail))).1 (by omega) (by omega)) rfl) rfl (fun _ => ?_)
 refine nN ?_
 refine WC.cond rfl (fun h53 => ?_) (fun h53 => ?_)
 refine WC.seq ?_
 have hfl : h.length = 60 := by have h53 := h53; simp [hBl] at h53; omega
 refine WC.region ?_
 refine pP (Y.build rfl (bf_54 )) rfl ?_
 refine WL.eff (E.store Try.sizeOf54 rfl rfl rfl rfl rfl u2 rfl rfl) rfl (fun _ => ?_)
 refine pA rfl rfl ?_
 refine pA rfl rfl ?_
 refine nN ?_
 refine WC.ret ?_
 refine WQ.thenRet ?_
 refine WQ.blockRet ?_
 refine WQ.thenRet ?_
 refine WQ.thenRet ?_
 refine WQ.blockRet ?_
 refine WQ.thenRet ?_
 refine WQ.done Try.results134 (RVs.cons (RV.cell wd_54 rfl m2 rfl) (RVs.cons (RV.tmp rfl) (RVs.cons (RV.tmp rfl) RVs.nil))) (fun a w s => ?_)
 · have e : mendX x steps xs = (Wd.zero, 0, 2) := by
     unfold mendX
     rw [if_pos h0, hgo, show 61 - h.length = 0 + 1 by omega, mendGo_step hne hnx]
     rfl
   rw [e]
   exact ⟨(none, 0), rfl, s.low, own_nil _ _ _ _⟩
 refine WC.skip' ?_
 refine WQ.next ?_
 refine WC.seq ?_
 have hlt : h.length < 60 := by have h53 := h53; simp [hBl] at h53; omega
 have hRn := next_right hRh hlt hnx
 refine WC.draw [(0, .q false), (1, .q true), (2, .q false), (3, .q false), (4, .q true), (5, .q true), (6, .s true)] mixed (by kernel_rfl) ?_
 refine dP (Y.fieldAddr fa_151_0 rfl) rfl rfl ?_
 refine dV (Y.load (v := .pointer (some ⟨dk, 0, none⟩)) fl_119 rfl m1 rfl) rfl rfl ?_
 refine dP (Y.nilCheck rfl) rfl rfl ?_
 refine dP (Y.fieldAddr fa_123_0 rfl) rfl rfl ?_
 refine dV (Y.load fl_105 rfl m4 rfl) rfl rfl ?_
 refine dV (Y.loadAN wd_34 rfl m0 (r := (nextR h).1.cl) rfl) rfl rfl ?_
 refine WDm.spec (WS.free rfl (E.put [_, _, _, _, _] h (nextR h).1 rfl hB hRn rfl rfl rfl rfl)) (fun _ => sub_push rfl) (fun k => ?_)
 obtain ⟨B2, hB2, ebk2, _⟩ := k
 dsimp only
 have ep2 : B.ptr = B2.ptr := by unfold Bk.ptr; rw [ebk2]
 rw [show x.cut.dk B dk i.1 i.2 = x.cut.dk B2 dk i.1 i.2 by unfold Wd.dk; rw [ep2]]
 refine WDm.nil (WQ.and ?_)
 refine WQ.next ?_
 refine WC.region ?_
 refine pM rfl rfl ?_
 refine pP (Y.add rfl rfl (i64_in (by omega) (by omega))) rfl ?_
 refine pA rfl rfl ?_
 refine WL.nil ?_
 refine WQ.blockEnd ?_
 refine WQ.next ?_
 refine WC.seq ?_
 refine sR ?_
 refine pV (Y.loadAN wd_34 rfl m0 (r := (nextR h).1.cl) rfl) rfl ?_
 refine nN ?_
 refine WC.region ?_
 refine WL.eff (E.alloc Try.zeroValue34 rfl rfl) rfl (fun b5 => ?_)
 refine WL.eff (E.store Try.sizeOf34 rfl rfl rfl rfl rfl u0 rfl rfl) rfl (fun _ => ?_)
 refine nN ?_
 refine WC.region ?_
 refine pV (Y.loadAN wd_151 rfl m2 (r := [.pointer (some ⟨dk, 0, none⟩)]) rfl) rfl ?_
 refine WL.eff (E.crewNext [_, _, _, _, _] ((nextR h).1 :: h) x.cut i.1 i.2 dk rfl hB2 hRn (by simp; omega) rfl rfl rfl rfl) rfl (fun k => ?_)
 obtain ⟨B3, hB3, ebk3⟩ := k
 dsimp only
 refine pM rfl rfl ?_
 refine pP (Y.extract rfl rfl) rfl ?_
 refine pP (Y.extract rfl rfl) rfl ?_
 refine WL.eff (E.store Try.sizeOf34 rfl rfl rfl rfl rfl u0 rfl rfl) rfl (fun _ => ?_)
 refine pA rfl rfl ?_
 refine WL.nil ?_
 · refine fun a w s => ⟨(((nextR h).1 :: h, m + 1), (B3, b5)), ⟨⟨hRn, by simp; omega, by simp; omega, ?_⟩, hB3⟩, by simp; omega, ?_⟩
   · dsimp only
     rw [hgo, show 61 - h.length = (60 - h.length) + 1 by omega, mendGo_step hne hnx, List.length_cons, show 61 - (h.length + 1) = 60 - h.length by omega]
   · dsimp only
     exact (s.sub Hsub.skip2).weak (by repeat (first | exact sub_nil _ | refine sub_cons rfl ?_))
 refine WC.exit ?_
 refine WQ.thenExit ?_
 refine WQ.thenExit ?_
 refine WQ.blockExit ?_
 refine WQ.next ?_
 refine WC.seq ?_
 have hs : (m : Int) = steps ∨ nextH h = none := by first | exact .inr (nextR_none h41) | (left; have h45 := h45; simpa using h45)
 refine WC.region ?_
 refine pM rfl rfl ?_
 refine pM rfl rfl ?_
 refine pP (Y.nilCheck rfl) rfl ?_
 refine pP (Y.fieldAddr fa_123_0 rfl) rfl ?_
 refine pV (Y.load fl_105 rfl m4 rfl) rfl ?_
 refine pP (Y.nilCheck rfl) rfl ?_
 refine pP (Y.fieldAddr fa_112_0 rfl) rfl ?_
 refine pV (Y.load (v := .slice B.A B.l.length B.c) fl_39 rfl m5 rfl) rfl ?_
 refine pP (Y.len Try.underlying39 rfl) rfl ?_
 refine pP (Y.nilCheck rfl) rfl ?_
 refine pP (Y.fieldAddr fa_123_1 rfl) rfl ?_
 refine pP (Y.fieldAddr fa_54_2 rfl) rfl ?_
 refine WL.eff (E.store (cs := B.ptr :: x.cut.cl i.1 i.2) (cs' := B.ptr :: (yS x h).cl i.1 i.2) Try.sizeOf3 rfl rfl rfl rfl rfl u4 rfl (by rw [hBl]; rfl)) rfl (fun _ => ?_)
 refine nN ?_
 refine sR ?_
 refine pM rfl rfl ?_
 refine pM rfl rfl ?_
 refine WL.eff (E.lay (Hl := [_, _]) B (yS x h) i.1 i.2 dk xs A2 g2 c2 rfl hxl hxs (fun w hw => hil.below hw.2.2.2) Hsub.mendL rfl rfl) rfl (fun _ => ?_)
 refine nN ?_
 refine sR ?_
 refine pM rfl rfl ?_
 refine WL.eff (E.done (Hl := [_, _]) B (layL B.pg xs (yS x h)) i.1 i.2 dk rfl (Hsub.refl _) rfl rfl) rfl (fun _ => ?_)
 refine pM rfl rfl ?_
 refine WL.eff (E.store Try.sizeOf54 rfl rfl rfl rfl rfl u2 rfl rfl) rfl (fun _ => ?_)
 refine pA rfl rfl ?_
 refine pA rfl rfl ?_
 refine nN ?_
 refine WC.ret ?_
 refine WQ.done Try.results134 (RVs.cons (RV.cell wd_54 rfl m2 rfl) (RVs.cons (RV.tmp rfl) (RVs.cons (RV.tmp rfl) RVs.nil))) (fun a w s => ?_)
 · have e : mendX x steps xs = (layL (pagesOf h) xs ⟨x.disk, h.reverse, h.length⟩, (m : Int), 0) := by
     unfold mendX
     rw [if_pos h0, hgo, show 61 - h.length = (60 - h.length) + 1 by omega, mendGo_stop hs]
   have e3 : (⟨(layL B.pg xs (yS x h)).disk, B.l, (layL B.pg xs (yS x h)).safe⟩ : Wd) = layL (pagesOf h) xs ⟨x.disk, h.reverse, h.length⟩ := by
     rw [hB.pg, hB.l]
     exact (layL_at (pagesOf h) xs (yS x h) h.reverse).symm
   have el : (layL (pagesOf h) xs ⟨x.disk, h.reverse, h.length⟩).log = B.l := by rw [layL_log, hB.l]
   rw [e]
   refine ⟨(B.A, B.c), ?_, s.low, ?_⟩
   · rw [e3]; rfl
   · dsimp only
     rw [el]
     exact s.fact.1.2.1.2.1.1
end Go.Proofs.Ytdbcimadjmdffaa
