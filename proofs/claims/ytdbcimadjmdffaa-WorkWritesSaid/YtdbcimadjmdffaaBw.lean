/- Work: what its functions return. No condition. -/
import Derived.Test.YtdbcimadjmdffaaBu
set_option maxRecDepth 100000
set_option linter.unusedVariables false
set_option linter.unusedSimpArgs false
set_option linter.unusedSectionVars false
set_option maxHeartbeats 4000000
namespace Go.Proofs.Ytdbcimadjmdffaa
open Go.RowKit Go.Joins
def Wd.dk (x : Wd) (B : Bk) (d : Nat) (A : Option Addr) (c : Nat) : Nat × List Value × TypeId := (d, B.ptr :: x.cl A c, 123)
/-- A call that yields a world, its log in memory of its own. -/
def RetW (P : Program) (f : FuncId) (vs : List Value) (w : World) (y : Wd) (more : List Value) : Prop :=
  Calls P f vs.toArray w fun e w' => ∃ i : Option Addr × Nat, e = .returned (packed (y.val i.1 i.2 :: more)) ∧ Below w.heap.size w w' ∧ w'.ownsRow w.heap.size 34 8 (.slice i.1 y.log.length i.2) y.log.length (flat y.log)
theorem foc_inn {B : Bk} {t : Int} {x : TxE} {K : Hp} (h : Foc B t x K) (Hx Hl : Hp) : Hsub (Hx ++ (x.blkc :: B.own1 :: (K ++ Hl))) (Hx ++ (B.hp ++ Hl)) := by
  refine Hsub.of_perm ?_
  have h1 : (x.blkc :: B.own1 :: (K ++ Hl)).Perm (B.hp ++ Hl) := by
    have := h.1.append_right Hl
    simpa using this
  exact h1.append_left Hx
theorem Hsub.three {x y z b : Nat × List Value × TypeId} {l : Hp} : Hsub [z, b, x] (x :: y :: z :: b :: l) := by
  refine ⟨[x, z, b], ?_, List.Sublist.cons_cons _ (List.Sublist.cons _ (List.Sublist.cons_cons _ (List.Sublist.cons_cons _ (List.nil_sublist _))))⟩
  exact (List.Perm.swap _ _ _).trans ((List.Perm.swap _ _ _).cons _)

theorem w_wkopen (u : World) (Hl : Hp) (G : SF) (x : Wd) (A : Option Addr) (b o c : Nat) (w : World) (hw : Wp u Hl G w) (hcap : x.log.length ≤ c) (hr : ∀ w, Wp u Hl G w → RL w A b o x.log) : Calls Try.prog 127 [x.val A c].toArray w fun e w' => ∃ i : {q : Bk × Nat // worldErr x = 0 → BOk q.1 x.h}, e = .returned (.tuple #[.pointer (some ⟨i.1.2, 0, none⟩), .int .i64 (worldErr x)]) ∧ Wp u (x.dk i.1.1 i.1.2 A c :: (i.1.1.hp ++ Hl)) ((SF.bk u.heap.size i.1.1).sep G) w' := by
 refine enterW Try.func127 rfl Try.ntmps127 rfl hw ?_
 refine sR ?_
 refine WL.eff (E.box rfl rfl rfl) rfl (fun b1 => ?_)
 refine pA rfl rfl ?_
 refine pA rfl rfl ?_
 refine nN ?_
 refine sR ?_
 refine pV (Y.loadAN wd_54 rfl m0 (r := x.cl A c) rfl) rfl ?_
 refine WL.eff (E.wopen [_] x A b o c rfl hcap (fun w hw => hr _ (hw.sub (Hsub.of_sub (List.sublist_cons_self _ _)))) rfl rfl rfl) rfl (fun i => ?_)
 obtain ⟨B, hB⟩ := i
 dsimp only
 refine pM rfl rfl ?_
 refine pP (Y.extract rfl rfl) rfl ?_
 refine pP (Y.extract rfl rfl) rfl ?_
 refine pA rfl rfl ?_
 refine pA rfl rfl ?_
 refine nN ?_
 refine sR ?_
 refine pM rfl rfl ?_
 refine pV (Y.loadAN wd_54 rfl m0 (r := x.cl A c) rfl) rfl ?_
 refine pP (Y.build rfl (bf_123_0_1 _ _ _ _ _ _ _ _ _ _ _ _ _ _ _ _ _)) rfl ?_
 refine WL.eff (E.box rfl rfl rfl) rfl (fun b2 => ?_)
 refine pM rfl rfl ?_
 refine pA rfl rfl ?_
 refine pA rfl rfl ?_
 refine nN ?_
 refine WC.ret ?_
 refine WQ.done Try.results127 (RVs.cons (RV.tmp rfl) (RVs.cons (RV.tmp rfl) RVs.nil)) (fun a w s => ?_)
 · exact ⟨⟨(B, b2), hB⟩, rfl, s.wp.sub (Hsub.of_sub (List.Sublist.cons_cons _ (List.sublist_cons_self _ _)))⟩

section
variable [Inhabited DSx] {Q : Exit → Act → World → Prop} {E : Env} {n : Nat} {H : Hp} {F G : SF} {u : World}
theorem E.wkopen {f : FuncId} {args : Array Operand} {ts : Array TypeId} {d : Nat} {T' : TypeId} {p : String} {af : Array Edge} {Hl : Hp} (Hx : Hp) (x : Wd) (A : Option Addr) (b o c : Nat) (hf : f = 127) (hcap : x.log.length ≤ c) (hr : ∀ w, Wp u H F w → RL w A b o x.log) (hH : H = Hx ++ Hl)
    (hx : evs E args.toList = some [x.val A c]) (hn : Nat.blt d n = true) :
    Eff Try.prog E n H F u ⟨some d, .call { callee := .value (.func f), args := args, argTypes := ts }, T', p, af, none⟩ (fun i : {q : Bk × Nat // worldErr x = 0 → BOk q.1 x.h} => (d, .tuple #[.pointer (some ⟨i.1.2, 0, none⟩), .int .i64 (worldErr x)]) :: E) (fun i => Hx ++ (x.dk i.1.1 i.1.2 A c :: (i.1.1.hp ++ Hl))) (fun i => (SF.bk u.heap.size i.1.1).sep F) := by
  subst hf
  refine Proofs.Ytdbcimadjmdffaa.E.callM _ _ _ Try.call127 hx (fun w hw => ?_) hn
  refine (w_wkopen u H F x A b o c w hw hcap hr).mono fun e w' ⟨i, he, hw'⟩ => ⟨i, he, hw'.sub ?_⟩
  rw [hH]
  refine Hsub.of_perm ?_
  rw [← List.cons_append, ← List.append_assoc, ← List.cons_append, ← List.append_assoc]
  exact List.perm_append_comm.append_right Hl
end

theorem w_txn (n : Int) (w : World) : Ret Try.prog 128 [.int .i64 n] w (.bool (wi n 1 9)) := by
 refine enter Try.func128 rfl Try.ntmps128 rfl SF.top trivial ?_
 refine sR ?_
 refine pA rfl rfl ?_
 refine nN ?_
 refine sR ?_
 refine pM rfl rfl ?_
 refine pP (Y.geq rfl rfl) rfl ?_
 refine pM rfl rfl ?_
 refine WL.split (t := 5) rfl (fun r h5 => ?_)
 cases r
 refine gF rfl ?_
 refine gF rfl ?_
 refine pP (Y.pickF rfl rfl) rfl ?_
 refine pA rfl rfl ?_
 refine nN ?_
 refine WC.ret ?_
 refine dn1 Try.results128 rfl (fun a w s => ?_)
 · refine ⟨?_, s.low⟩
   clear s
   (simp_all [packed, wi] <;> omega)
 refine gT rfl ?_
 refine pM rfl rfl ?_
 refine gT rfl ?_
 refine pP (Y.leq rfl rfl) rfl ?_
 refine pP (Y.pickT rfl rfl) rfl ?_
 refine pA rfl rfl ?_
 refine nN ?_
 refine WC.ret ?_
 refine dn1 Try.results128 rfl (fun a w s => ?_)
 · refine ⟨?_, s.low⟩
   clear s
   (simp_all [packed, wi] <;> omega)

theorem w_full (B : Bk) (d : Nat) (k : Int) (cs : List Value) (T : TypeId) (w : World) (h1 : w.heap[d]? = some (.cells (B.ptr :: cs).toArray T)) (h2 : w.heap[B.bk]? = some (.cells B.cells.toArray 112)) (hl : B.l.length ≤ 60) (hk : 0 ≤ k ∧ k ≤ 60) : Ret Try.prog 129 [.pointer (some ⟨d, 0, none⟩), .int .i64 k] w (.bool (decide (60 < (B.l.length : Int) + k))) := by
 refine enter Try.func129 rfl Try.ntmps129 rfl SF.top trivial ?_
 refine sR ?_
 refine pA rfl rfl ?_
 refine nN ?_
 refine sR ?_
 refine pM rfl rfl ?_
 refine pP (Y.nilCheck rfl) rfl ?_
 refine pP (Y.fieldAddr fa_123_0 rfl) rfl ?_
 refine pV (Y.loadc fl_105 rfl (v := B.ptr) (fun a w s => by rw [blk_cell (below_get' s.low h1)]; rfl)) rfl ?_
 refine pP (Y.nilCheck rfl) rfl ?_
 refine pP (Y.fieldAddr fa_112_0 rfl) rfl ?_
 refine pV (Y.loadc fl_39 rfl (v := .slice B.A B.l.length B.c) (fun a w s => by rw [blk_cell (below_get' s.low h2)]; rfl)) rfl ?_
 refine pP (Y.len Try.underlying39 rfl) rfl ?_
 refine pM rfl rfl ?_
 refine pP (Y.add rfl rfl (i64_in (by omega) (by omega))) rfl ?_
 refine pP (Y.gtr rfl rfl) rfl ?_
 refine pA rfl rfl ?_
 refine nN ?_
 refine WC.ret ?_
 refine dn1 Try.results129 rfl (fun a w s => ?_)
 · exact ⟨rfl, s.low⟩

theorem w_done (u : World) (Hl : Hp) (F : SF) (B : Bk) (y : Wd) (A : Option Addr) (c d : Nat) (w : World) (hw : Wp u ((d, B.ptr :: y.cl A c, 123) :: B.own1 :: Hl) F w) : Calls Try.prog 131 [.pointer (some ⟨d, 0, none⟩)].toArray w fun e w' => ∃ i : Unit, e = .returned ((⟨y.disk, B.l, y.safe⟩ : Wd).val B.A B.c) ∧ Wp u ((d, B.ptr :: (⟨y.disk, B.l, y.safe⟩ : Wd).cl B.A B.c, 123) :: B.own1 :: Hl) F w' := by
 refine enterW Try.func131 rfl Try.ntmps131 rfl hw ?_
 refine sR ?_
 refine WL.eff (E.alloc Try.zeroValue54 rfl rfl) rfl (fun b1 => ?_)
 refine nN ?_
 refine sR ?_
 refine pM rfl rfl ?_
 refine pM rfl rfl ?_
 refine pP (Y.nilCheck rfl) rfl ?_
 refine pP (Y.fieldAddr fa_123_0 rfl) rfl ?_
 refine pV (Y.load fl_105 rfl m1 rfl) rfl ?_
 refine pP (Y.nilCheck rfl) rfl ?_
 refine pP (Y.fieldAddr fa_112_0 rfl) rfl ?_
 refine pV (Y.load (v := .slice B.A B.l.length B.c) fl_39 rfl m2 rfl) rfl ?_
 refine pP (Y.nilCheck rfl) rfl ?_
 refine pP (Y.fieldAddr fa_123_1 rfl) rfl ?_
 refine pP (Y.fieldAddr fa_54_1 rfl) rfl ?_
 refine WL.eff (E.store Try.sizeOf39 rfl rfl rfl rfl rfl u1 rfl rfl) rfl (fun _ => ?_)
 refine nN ?_
 refine sR ?_
 refine pM rfl rfl ?_
 refine pP (Y.nilCheck rfl) rfl ?_
 refine pP (Y.fieldAddr fa_123_1 rfl) rfl ?_
 refine pV (Y.loadA wd_54 rfl m1 rfl) rfl ?_
 refine WL.eff (E.store Try.sizeOf54 rfl rfl rfl rfl rfl u0 rfl rfl) rfl (fun _ => ?_)
 refine nN ?_
 refine WC.ret ?_
 refine WQ.done Try.results131 (RVs.cons (RV.cell wd_54 rfl m0 rfl) RVs.nil) (fun a w s => ?_)
 · exact ⟨(), rfl, s.wp.sub (Hsub.of_sub (List.sublist_cons_self _ _))⟩

section
variable [Inhabited DSx] {Q : Exit → Act → World → Prop} {E : Env} {n : Nat} {H : Hp} {F G : SF} {u : World}
theorem E.done {f : FuncId} {args : Array Operand} {ts : Array TypeId} {d : Nat} {T' : TypeId} {p : String} {af : Array Edge} {Hl : Hp} (B : Bk) (y : Wd) (A : Option Addr) (c g : Nat) (hf : f = 131) (hH : Hsub ((g, B.ptr :: y.cl A c, 123) :: B.own1 :: Hl) H)
    (hx : evs E args.toList = some [.pointer (some ⟨g, 0, none⟩)]) (hn : Nat.blt d n = true) :
    Eff Try.prog E n H F u ⟨some d, .call { callee := .value (.func f), args := args, argTypes := ts }, T', p, af, none⟩ (fun _ : Unit => (d, (⟨y.disk, B.l, y.safe⟩ : Wd).val B.A B.c) :: E) (fun _ => (g, B.ptr :: (⟨y.disk, B.l, y.safe⟩ : Wd).cl B.A B.c, 123) :: B.own1 :: Hl) (fun _ => F) := by
  subst hf
  refine Proofs.Ytdbcimadjmdffaa.E.callM _ _ _ Try.call131 hx (fun w hw => ?_) hn
  exact w_done u Hl F B y A c g w (hw.sub hH)
end

theorem w_workWrite (x : Wd) (A : Option Addr) (b o c : Nat) (t p q v : Int) (w : World) (hm : x.log.length ≤ maxLen) (hcap : x.log.length ≤ c) (hr : RL w A b o x.log) : RetW Try.prog 90 [x.val A c, .int .i64 t, .int .i64 p, .int .i64 q, .int .i64 v] w (writeTo x t p q v).1 [.int .i64 (writeTo x t p q v).2] := by
 refine enter Try.func90 rfl Try.ntmps90 rfl SF.top trivial ?_
 refine sR ?_
 refine WL.eff (E.box rfl rfl rfl) rfl (fun b1 => ?_)
 refine WL.eff (E.alloc Try.zeroValue54 rfl rfl) rfl (fun b2 => ?_)
 refine pA rfl rfl ?_
 refine nN ?_
 refine sR ?_
 refine pV (Y.loadAN wd_54 rfl m1 (r := x.cl A c) rfl) rfl ?_
 refine WL.eff (E.wkopen [_, _] x A b o c rfl hcap (fun w hw => hr.below hw.2.2.2) rfl rfl rfl) rfl (fun i => ?_)
 obtain ⟨⟨B, dk⟩, hB⟩ := i
 dsimp only at hB ⊢
 refine pM rfl rfl ?_
 refine pP (Y.extract rfl rfl) rfl ?_
 refine pP (Y.extract rfl rfl) rfl ?_
 refine pA rfl rfl ?_
 refine pA rfl rfl ?_
 refine nN ?_
 refine WC.seq ?_
 refine sR ?_
 refine pM rfl rfl ?_
 refine pP (Y.neq rfl rfl) rfl ?_
 refine nN ?_
 refine WC.cond rfl (fun h22 => ?_) (fun h22 => ?_)
 refine sR ?_
 refine pP (Y.build rfl (bf_54 )) rfl ?_
 refine pM rfl rfl ?_
 refine WL.eff (E.store Try.sizeOf54 rfl rfl rfl rfl rfl u0 rfl rfl) rfl (fun _ => ?_)
 refine pA rfl rfl ?_
 refine nN ?_
 refine WC.ret ?_
 refine WQ.thenRet ?_
 refine WQ.done Try.results90 (RVs.cons (RV.cell wd_54 rfl m0 rfl) (RVs.cons (RV.tmp rfl) RVs.nil)) (fun a w s => ?_)
 · have e : writeTo x t p q v = (Wd.zero, worldErr x) := by unfold writeTo; rw [if_neg (by simpa using h22)]
   rw [e]
   exact ⟨(none, 0), rfl, s.low, own_nil _ _ _ _⟩
 refine WC.skip' ?_
 refine WQ.next ?_
 refine WC.seq ?_
 have h0 : worldErr x = 0 := by simpa using h22
 obtain ⟨hl0, h60, hR, _⟩ := world_right h0
 have hB0 := hB h0
 have hlen : x.h.length = x.log.length := by simp [Wd.h]
 refine WC.cut1 [(48, .bool (!(wi t 1 9 && (wi p 0 2 && (wi q 0 2 && wi v 0 99))))), (0, x.val A c), (1, .int .i64 t), (2, .int .i64 p), (3, .int .i64 q), (4, .int .i64 v), (5, .pointer (some ⟨b1, 0, none⟩)), (10, .pointer (some ⟨b2, 0, none⟩)), (12, .pointer (some ⟨dk, 0, none⟩))] ((b2, Wd.zero.cl none 0, 54) :: (b1, x.cl A c, 54) :: x.dk B dk A c :: (B.hp ++ [])) ((SF.bk w.heap.size B).sep SF.top) ?_ ?_
 refine WC.region ?_
 refine pM rfl rfl ?_
 refine WL.eff (E.call Try.call128 rfl (fun _ w s => w_txn t w) rfl) rfl (fun _ => ?_)
 refine pP (Y.not rfl) rfl ?_
 refine pM rfl rfl ?_
 refine WL.split (t := 28) rfl (fun r h28 => ?_)
 cases r
 refine gT rfl ?_
 refine pM rfl rfl ?_
 refine gT rfl ?_
 refine pP (Y.lss rfl rfl) rfl ?_
 refine pP (Y.pickF rfl rfl) rfl ?_
 refine pM rfl rfl ?_
 refine WL.split (t := 32) rfl (fun r h32 => ?_)
 cases r
 refine gT rfl ?_
 refine pM rfl rfl ?_
 refine gT rfl ?_
 refine pP (Y.geq rfl rfl) rfl ?_
 refine pP (Y.pickF rfl rfl) rfl ?_
 refine pM rfl rfl ?_
 refine WL.split (t := 36) rfl (fun r h36 => ?_)
 cases r
 refine gT rfl ?_
 refine pM rfl rfl ?_
 refine gT rfl ?_
 refine pP (Y.lss rfl rfl) rfl ?_
 refine pP (Y.pickF rfl rfl) rfl ?_
 refine pM rfl rfl ?_
 refine WL.split (t := 40) rfl (fun r h40 => ?_)
 cases r
 refine gT rfl ?_
 refine pM rfl rfl ?_
 refine gT rfl ?_
 refine pP (Y.geq rfl rfl) rfl ?_
 refine pP (Y.pickF rfl rfl) rfl ?_
 refine pM rfl rfl ?_
 refine WL.split (t := 44) rfl (fun r h44 => ?_)
 cases r
 refine gT rfl ?_
 refine pM rfl rfl ?_
 refine gT rfl ?_
 refine WL.eff (E.call Try.call109 rfl (fun _ w s => w_val v w) rfl) rfl (fun _ => ?_)
 refine gT rfl ?_
 refine pP (Y.not rfl) rfl ?_
 refine pP (Y.pickF rfl rfl) rfl ?_
 refine WL.nil ?_
 · refine fun a w s => ⟨rfl, s.weak (sub_cons (eqb ?_) (by repeat (first | exact sub_nil _ | refine sub_cons rfl ?_)))⟩
   clear s
   rw [Bool.eq_iff_iff]
   (simp_all [wi] <;> omega)
 refine gF rfl ?_
 refine gF rfl ?_
 refine gF rfl ?_
 refine pP (Y.pickT rfl rfl) rfl ?_
 refine WL.nil ?_
 · refine fun a w s => ⟨rfl, s.weak (sub_cons (eqb ?_) (by repeat (first | exact sub_nil _ | refine sub_cons rfl ?_)))⟩
   clear s
   rw [Bool.eq_iff_iff]
   (simp_all [wi] <;> omega)
 refine gF rfl ?_
 refine gF rfl ?_
 refine pP (Y.pickT rfl rfl) rfl ?_
 refine pM rfl rfl ?_
 refine gF rfl ?_
 refine gF rfl ?_
 refine gF rfl ?_
 refine pP (Y.pickT rfl rfl) rfl ?_
 refine WL.nil ?_
 · refine fun a w s => ⟨rfl, s.weak (sub_cons (eqb ?_) (by repeat (first | exact sub_nil _ | refine sub_cons rfl ?_)))⟩
   clear s
   rw [Bool.eq_iff_iff]
   (simp_all [wi] <;> omega)
 refine gF rfl ?_
 refine gF rfl ?_
 refine pP (Y.pickT rfl rfl) rfl ?_
 refine pM rfl rfl ?_
 refine gF rfl ?_
 refine gF rfl ?_
 refine pP (Y.pickT rfl rfl) rfl ?_
 refine pM rfl rfl ?_
 refine gF rfl ?_
 refine gF rfl ?_
 refine gF rfl ?_
 refine pP (Y.pickT rfl rfl) rfl ?_
 refine WL.nil ?_
 · refine fun a w s => ⟨rfl, s.weak (sub_cons (eqb ?_) (by repeat (first | exact sub_nil _ | refine sub_cons rfl ?_)))⟩
   clear s
   rw [Bool.eq_iff_iff]
   (simp_all [wi] <;> omega)
 refine gF rfl ?_
 refine gF rfl ?_
 refine pP (Y.pickT rfl rfl) rfl ?_
 refine pM rfl rfl ?_
 refine gF rfl ?_
 refine gF rfl ?_
 refine pP (Y.pickT rfl rfl) rfl ?_
 refine pM rfl rfl ?_
 refine gF rfl ?_
 refine gF rfl ?_
 refine pP (Y.pickT rfl rfl) rfl ?_
 refine pM rfl rfl ?_
 refine gF rfl ?_
 refine gF rfl ?_
 refine gF rfl ?_
 refine pP (Y.pickT rfl rfl) rfl ?_
 refine WL.nil ?_
 · refine fun a w s => ⟨rfl, s.weak (sub_cons (eqb ?_) (by repeat (first | exact sub_nil _ | refine sub_cons rfl ?_)))⟩
   clear s
   rw [Bool.eq_iff_iff]
   (simp_all [wi] <;> omega)
 refine gF rfl ?_
 refine gF rfl ?_
 refine pP (Y.pickT rfl rfl) rfl ?_
 refine pM rfl rfl ?_
 refine gF rfl ?_
 refine gF rfl ?_
 refine pP (Y.pickT rfl rfl) rfl ?_
 refine pM rfl rfl ?_
 refine gF rfl ?_
 refine gF rfl ?_
 refine pP (Y.pickT rfl rfl) rfl ?_
 refine pM rfl rfl ?_
 refine gF rfl ?_
 refine gF rfl ?_
 refine pP (Y.pickT rfl rfl) rfl ?_
 refine pM rfl rfl ?_
 refine gF rfl ?_
 refine gF rfl ?_
 refine gF rfl ?_
 refine pP (Y.pickT rfl rfl) rfl ?_
 refine WL.nil ?_
 · refine fun a w s => ⟨rfl, s.weak (sub_cons (eqb ?_) (by repeat (first | exact sub_nil _ | refine sub_cons rfl ?_)))⟩
   clear s
   rw [Bool.eq_iff_iff]
   (simp_all [wi] <;> omega)
 refine WC.cond rfl (fun h48 => ?_) (fun h48 => ?_)
 refine sR ?_
 refine pP (Y.build rfl (bf_54 )) rfl ?_
 refine WL.eff (E.store Try.sizeOf54 rfl rfl rfl rfl rfl u0 rfl rfl) rfl (fun _ => ?_)
 refine pA rfl rfl ?_
 refine nN ?_
 refine WC.ret ?_
 refine WQ.thenRet ?_
 refine WQ.done Try.results90 (RVs.cons (RV.cell wd_54 rfl m0 rfl) (RVs.cons (RV.tmp rfl) RVs.nil)) (fun a w s => ?_)
 · have e : writeTo x t p q v = (Wd.zero, 3) := by unfold writeTo; rw [if_pos h0, if_neg (fun hh => by rw [hh] at h48; simp at h48)]
   rw [e]
   exact ⟨(none, 0), rfl, s.low, own_nil _ _ _ _⟩
 refine WC.skip' ?_
 refine WQ.next ?_
 refine WC.seq ?_
 have hok : (wi t 1 9 && (wi p 0 2 && (wi q 0 2 && wi v 0 99))) = true := by simpa using h48
 obtain ⟨ht, hp, hq, hv⟩ : (1 ≤ t ∧ t ≤ 9) ∧ (0 ≤ p ∧ p ≤ 2) ∧ (0 ≤ q ∧ q ≤ 2) ∧ (0 ≤ v ∧ v ≤ 99) := by simpa [wi] using hok
 refine WC.region ?_
 refine pM rfl rfl ?_
 refine pP (Y.nilCheck rfl) rfl ?_
 refine pP (Y.fieldAddr fa_123_0 rfl) rfl ?_
 refine pV (Y.load fl_105 rfl m2 rfl) rfl ?_
 refine pM rfl rfl ?_
 refine WL.eff (E.of [_, _, _] rfl rfl rfl rfl rfl) rfl (fun i => ?_)
 obtain ⟨⟨B1, y, K⟩, hOf, hK⟩ := i
 obtain ⟨hB1, hst, hla, hup⟩ := hB0.of hOf
 obtain ⟨el, eA, ec, epg, ebk, _⟩ := of_l hOf
 dsimp only at hOf hK hB1 hst hla hup el eA ec epg ebk ⊢
 have e0 : B.ptr = B1.ptr := by unfold Bk.ptr; rw [ebk]
 rw [show x.dk B dk A c = x.dk B1 dk A c by unfold Wd.dk; rw [e0], e0]
 have hl1 := hOf.1
 dsimp only at hl1
 have est : y.st = (stt x.h t : Int) := hst.trans (hR.st t)
 have hBl : B1.l.length = x.log.length := by rw [hB1.l]; simp [Wd.h]
 refine pA rfl rfl ?_
 refine nN ?_
 refine WC.seq ?_
 refine sR ?_
 refine pM rfl rfl ?_
 refine pP (Y.nilCheck rfl) rfl ?_
 refine pP (Y.fieldAddr fa_123_0 rfl) rfl ?_
 refine pV (Y.load fl_105 rfl m2 rfl) rfl ?_
 refine pM rfl rfl ?_
 refine pM rfl rfl ?_
 refine WL.eff (E.owner [_, _, _] rfl hB1 hK hl1 rfl rfl rfl rfl) rfl (fun _ => ?_)
 have hfree := own_free hR (t := t) (p := p) (c := q) ht
 refine pA rfl rfl ?_
 refine nN ?_
 refine WC.block ?_
 refine sR ?_
 refine pM rfl rfl ?_
 refine pP (Y.nilCheck rfl) rfl ?_
 refine pP (Y.fieldAddr fa_117_0 rfl) rfl ?_
 refine pV (Y.load fl_3 rfl m3 rfl) rfl ?_
 refine pP (Y.gtr rfl rfl) rfl ?_
 refine pA rfl rfl ?_
 refine nN ?_
 refine WC.cond rfl (fun h63 => ?_) (fun h63 => ?_)
 refine sR ?_
 refine pP (Y.build rfl (bf_54 )) rfl ?_
 refine WL.eff (E.store Try.sizeOf54 rfl rfl rfl rfl rfl u0 rfl rfl) rfl (fun _ => ?_)
 refine pA rfl rfl ?_
 refine nN ?_
 refine WC.ret ?_
 refine WQ.blockRet ?_
 refine WQ.thenRet ?_
 refine WQ.done Try.results90 (RVs.cons (RV.cell wd_54 rfl m0 rfl) (RVs.cons (RV.tmp rfl) RVs.nil)) (fun a w s => ?_)
 · have e : writeTo x t p q v = (Wd.zero, 6) := by unfold writeTo; rw [if_pos h0, if_pos hok, if_pos (by simp_all <;> omega)]
   rw [e]
   exact ⟨(none, 0), rfl, s.low, own_nil _ _ _ _⟩
 refine sR ?_
 refine pM rfl rfl ?_
 refine pP (Y.neq rfl rfl) rfl ?_
 refine pM rfl rfl ?_
 refine WL.split (t := 73) rfl (fun r h73 => ?_)
 cases r
 refine gF rfl ?_
 refine gF rfl ?_
 refine gF rfl ?_
 refine pP (Y.pickF rfl rfl) rfl ?_
 refine pA rfl rfl ?_
 refine nN ?_
 refine WC.condF rfl ?_
 refine WC.seq ?_
 have htk : taken x.h t p q = false := by simp_all
 have hs1 : stt x.h t ≤ 1 := by simp_all <;> omega
 refine WC.region ?_
 refine pM rfl rfl ?_
 refine WL.eff (E.call Try.call129 rfl (fun _ w s => w_full B1 dk 1 _ _ w (s.hp.blk (x.dk B1 dk A c) (by repeat (first | exact List.Mem.head _ | apply List.Mem.tail))).1 (s.hp.blk B1.own1 (by repeat (first | exact List.Mem.head _ | apply List.Mem.tail))).1 (by omega) (by omega)) rfl) rfl (fun _ => ?_)
 refine pA rfl rfl ?_
 refine nN ?_
 refine WC.cond rfl (fun h79 => ?_) (fun h79 => ?_)
 refine sR ?_
 refine pP (Y.build rfl (bf_54 )) rfl ?_
 refine WL.eff (E.store Try.sizeOf54 rfl rfl rfl rfl rfl u0 rfl rfl) rfl (fun _ => ?_)
 refine pA rfl rfl ?_
 refine nN ?_
 refine WC.ret ?_
 refine WQ.blockRet ?_
 refine WQ.thenRet ?_
 refine WQ.done Try.results90 (RVs.cons (RV.cell wd_54 rfl m0 rfl) (RVs.cons (RV.tmp rfl) RVs.nil)) (fun a w s => ?_)
 · have e : writeTo x t p q v = (Wd.zero, 2) := by unfold writeTo; rw [if_pos h0, if_pos hok, if_neg (by simp_all <;> omega), if_neg (by simp [htk]), if_pos (by simp [hBl] at h79; omega)]
   rw [e]
   exact ⟨(none, 0), rfl, s.low, own_nil _ _ _ _⟩
 refine WC.skip' ?_
 refine WQ.blockEnd ?_
 refine WQ.next ?_
 refine WC.seq ?_
 have hlt : x.log.length < 60 := by simp [hBl] at h79; omega
 have hpg := hB1.pg
 have hpg2 : (B1.pg.get p).cellAt q = cellOf x.h p q := by rw [hpg]; rfl
 obtain ⟨rr, hrr⟩ : ∃ rr, wrR t y.last p q ((B1.pg.get p).cellAt q) v = rr := ⟨_, rfl⟩
 have hRr : Right (rr :: x.h) := by rw [← hrr, hla, hpg2]; exact right_write hR (by omega) ht hp hq hv hs1 htk
 refine WC.draw [(0, .q false), (1, .q false), (2, .q false), (3, .q true), (4, .q false), (5, .q false), (6, .q false), (7, .q false), (8, .q true), (9, .q false), (10, .q false), (11, .q false), (12, .q false), (13, .q false), (14, .q true), (15, .q false), (16, .q false), (17, .q false), (18, .q false), (19, .q false), (20, .q false), (21, .q false), (22, .q true), (23, .q false), (24, .q false), (25, .s true)] mixed (by kernel_rfl) ?_
 refine dP (Y.move rfl) rfl rfl ?_
 refine dP (Y.nilCheck rfl) rfl rfl ?_
 refine dP (Y.fieldAddr fa_123_0 rfl) rfl rfl ?_
 refine dV (Y.load fl_105 rfl m2 rfl) rfl rfl ?_
 refine dP (Y.move rfl) rfl rfl ?_
 refine dP (Y.move rfl) rfl rfl ?_
 refine dP (Y.nilCheck rfl) rfl rfl ?_
 refine dP (Y.fieldAddr fa_117_1 rfl) rfl rfl ?_
 refine dV (Y.load fl_3 rfl m3 rfl) rfl rfl ?_
 refine dP (Y.move rfl) rfl rfl ?_
 refine dP (Y.move rfl) rfl rfl ?_
 refine dP (Y.move rfl) rfl rfl ?_
 refine dP (Y.nilCheck rfl) rfl rfl ?_
 refine dP (Y.fieldAddr fa_123_0 rfl) rfl rfl ?_
 refine dV (Y.load fl_105 rfl m2 rfl) rfl rfl ?_
 refine dP (Y.move rfl) rfl rfl ?_
 refine dP (Y.move rfl) rfl rfl ?_
 refine dP (Y.nilCheck rfl) rfl rfl ?_
 refine dP (Y.fieldAddr fa_112_1 rfl) rfl rfl ?_
 refine dP (Y.ixArr Try.underlying42 Try.sizeOf24 rfl rfl hp.1 (by omega)) rfl rfl ?_
 refine dP (Y.fieldAddr fa_24_0 rfl) rfl rfl ?_
 refine dP (Y.ixArr Try.underlying22 Try.sizeOf3 rfl rfl hq.1 (by omega)) rfl rfl ?_
 refine dV (Y.loadN fl_3 rfl m4 (cell_at B1 p q hp hq)) rfl rfl ?_
 refine dP (Y.move rfl) rfl rfl ?_
 refine dP (Y.build rfl (bf_34_0_1_2_3_4_5_6 _ _ _ _ _ _ _)) rfl rfl ?_
 refine WDm.spec (WS.free rfl (E.putF [_, _, _] x.h (wrR t y.last p q ((B1.pg.get p).cellAt q) v) rfl hB1 (by rw [hrr]; exact hRr) hK hl1 rfl rfl rfl rfl)) (fun _ => sub_push rfl) (fun i => ?_)
 obtain ⟨B2, hB2, ebk2, hkeep⟩ := i
 dsimp only
 have e02 : B1.ptr = B2.ptr := by unfold Bk.ptr; rw [ebk2]
 rw [hrr] at hB2
 refine WDm.nil (WQ.and ?_)
 refine WQ.next ?_
 refine WC.seq ?_
 rw [show x.dk B1 dk A c = x.dk B2 dk A c by unfold Wd.dk; rw [e02]]
 refine WC.region ?_
 refine pM rfl rfl ?_
 refine WL.eff (E.done (Hl := [_]) B2 x A c dk rfl Hsub.three rfl rfl) rfl (fun _ => ?_)
 refine WL.eff (E.store Try.sizeOf54 rfl rfl rfl rfl rfl u2 rfl rfl) rfl (fun _ => ?_)
 refine pA rfl rfl ?_
 refine nN ?_
 refine WC.ret ?_
 refine WQ.done Try.results90 (RVs.cons (RV.cell wd_54 rfl m2 rfl) (RVs.cons (RV.tmp rfl) RVs.nil)) (fun a w s => ?_)
 · have e : writeTo x t p q v = (x.more rr, 0) := by
     unfold writeTo
     rw [if_pos h0, if_pos hok, if_neg (by omega), if_neg (by simp [htk]), if_neg (by omega), ← hla, ← hpg2, hrr]
   rw [e]
   have el2 : B2.l = (x.more rr).log := by rw [hB2.l]; simp [Wd.more, Wd.h]
   refine ⟨(B2.A, B2.c), ?_, s.low, by rw [← el2]; exact s.fact.1.2.1.2.1.1⟩
   rw [← show (⟨x.disk, B2.l, x.safe⟩ : Wd) = x.more rr by rw [el2]; rfl]
   rfl
 refine gT rfl ?_
 refine pM rfl rfl ?_
 refine gT rfl ?_
 refine pM rfl rfl ?_
 refine gT rfl ?_
 refine pP (Y.neq rfl rfl) rfl ?_
 refine pP (Y.pickT rfl rfl) rfl ?_
 refine pA rfl rfl ?_
 refine nN ?_
 refine WC.cond rfl (fun h70 => ?_) (fun h70 => ?_)
 refine WC.seq ?_
 have htk2 : taken x.h t p q = true := by
   cases htk : taken x.h t p q
   · rw [htk] at hfree
     simp at hfree h73 h70
     rcases hfree with h | h
     · exact absurd h h73
     · exact absurd h h70
   · rfl
 refine WC.region ?_
 refine pP (Y.build rfl (bf_54 )) rfl ?_
 refine WL.eff (E.store Try.sizeOf54 rfl rfl rfl rfl rfl u0 rfl rfl) rfl (fun _ => ?_)
 refine pA rfl rfl ?_
 refine nN ?_
 refine WC.ret ?_
 refine WQ.blockRet ?_
 refine WQ.thenRet ?_
 refine WQ.done Try.results90 (RVs.cons (RV.cell wd_54 rfl m0 rfl) (RVs.cons (RV.tmp rfl) RVs.nil)) (fun a w s => ?_)
 · have e : writeTo x t p q v = (Wd.zero, 5) := by unfold writeTo; rw [if_pos h0, if_pos hok, if_neg (by simp_all <;> omega), if_pos (by simpa using htk2)]
   rw [e]
   exact ⟨(none, 0), rfl, s.low, own_nil _ _ _ _⟩
 refine WC.seq ?_
 have htk : taken x.h t p q = false := by simp_all
 have hs1 : stt x.h t ≤ 1 := by simp_all <;> omega
 refine WC.region ?_
 refine pM rfl rfl ?_
 refine WL.eff (E.call Try.call129 rfl (fun _ w s => w_full B1 dk 1 _ _ w (s.hp.blk (x.dk B1 dk A c) (by repeat (first | exact List.Mem.head _ | apply List.Mem.tail))).1 (s.hp.blk B1.own1 (by repeat (first | exact List.Mem.head _ | apply List.Mem.tail))).1 (by omega) (by omega)) rfl) rfl (fun _ => ?_)
 refine pA rfl rfl ?_
 refine nN ?_
 refine WC.cond rfl (fun h79 => ?_) (fun h79 => ?_)
 refine sR ?_
 refine pP (Y.build rfl (bf_54 )) rfl ?_
 refine WL.eff (E.store Try.sizeOf54 rfl rfl rfl rfl rfl u0 rfl rfl) rfl (fun _ => ?_)
 refine pA rfl rfl ?_
 refine nN ?_
 refine WC.ret ?_
 refine WQ.blockRet ?_
 refine WQ.thenRet ?_
 refine WQ.done Try.results90 (RVs.cons (RV.cell wd_54 rfl m0 rfl) (RVs.cons (RV.tmp rfl) RVs.nil)) (fun a w s => ?_)
 · have e : writeTo x t p q v = (Wd.zero, 2) := by unfold writeTo; rw [if_pos h0, if_pos hok, if_neg (by simp_all <;> omega), if_neg (by simp [htk]), if_pos (by simp [hBl] at h79; omega)]
   rw [e]
   exact ⟨(none, 0), rfl, s.low, own_nil _ _ _ _⟩
 refine WC.skip' ?_
 refine WQ.blockEnd ?_
 refine WQ.next ?_
 refine WC.seq ?_
 have hlt : x.log.length < 60 := by simp [hBl] at h79; omega
 have hpg := hB1.pg
 have hpg2 : (B1.pg.get p).cellAt q = cellOf x.h p q := by rw [hpg]; rfl
 obtain ⟨rr, hrr⟩ : ∃ rr, wrR t y.last p q ((B1.pg.get p).cellAt q) v = rr := ⟨_, rfl⟩
 have hRr : Right (rr :: x.h) := by rw [← hrr, hla, hpg2]; exact right_write hR (by omega) ht hp hq hv hs1 htk
 refine WC.draw [(0, .q false), (1, .q false), (2, .q false), (3, .q true), (4, .q false), (5, .q false), (6, .q false), (7, .q false), (8, .q true), (9, .q false), (10, .q false), (11, .q false), (12, .q false), (13, .q false), (14, .q true), (15, .q false), (16, .q false), (17, .q false), (18, .q false), (19, .q false), (20, .q false), (21, .q false), (22, .q true), (23, .q false), (24, .q false), (25, .s true)] mixed (by kernel_rfl) ?_
 refine dP (Y.move rfl) rfl rfl ?_
 refine dP (Y.nilCheck rfl) rfl rfl ?_
 refine dP (Y.fieldAddr fa_123_0 rfl) rfl rfl ?_
 refine dV (Y.load fl_105 rfl m2 rfl) rfl rfl ?_
 refine dP (Y.move rfl) rfl rfl ?_
 refine dP (Y.move rfl) rfl rfl ?_
 refine dP (Y.nilCheck rfl) rfl rfl ?_
 refine dP (Y.fieldAddr fa_117_1 rfl) rfl rfl ?_
 refine dV (Y.load fl_3 rfl m3 rfl) rfl rfl ?_
 refine dP (Y.move rfl) rfl rfl ?_
 refine dP (Y.move rfl) rfl rfl ?_
 refine dP (Y.move rfl) rfl rfl ?_
 refine dP (Y.nilCheck rfl) rfl rfl ?_
 refine dP (Y.fieldAddr fa_123_0 rfl) rfl rfl ?_
 refine dV (Y.load fl_105 rfl m2 rfl) rfl rfl ?_
 refine dP (Y.move rfl) rfl rfl ?_
 refine dP (Y.move rfl) rfl rfl ?_
 refine dP (Y.nilCheck rfl) rfl rfl ?_
 refine dP (Y.fieldAddr fa_112_1 rfl) rfl rfl ?_
 refine dP (Y.ixArr Try.underlying42 Try.sizeOf24 rfl rfl hp.1 (by omega)) rfl rfl ?_
 refine dP (Y.fieldAddr fa_24_0 rfl) rfl rfl ?_
 refine dP (Y.ixArr Try.underlying22 Try.sizeOf3 rfl rfl hq.1 (by omega)) rfl rfl ?_
 refine dV (Y.loadN fl_3 rfl m4 (cell_at B1 p q hp hq)) rfl rfl ?_
 refine dP (Y.move rfl) rfl rfl ?_
 refine dP (Y.build rfl (bf_34_0_1_2_3_4_5_6 _ _ _ _ _ _ _)) rfl rfl ?_
 refine WDm.spec (WS.free rfl (E.putF [_, _, _] x.h (wrR t y.last p q ((B1.pg.get p).cellAt q) v) rfl hB1 (by rw [hrr]; exact hRr) hK hl1 rfl rfl rfl rfl)) (fun _ => sub_push rfl) (fun i => ?_)
 obtain ⟨B2, hB2, ebk2, hkeep⟩ := i
 dsimp only
 have e02 : B1.ptr = B2.ptr := by unfold Bk.ptr; rw [ebk2]
 rw [hrr] at hB2
 refine WDm.nil (WQ.and ?_)
 refine WQ.next ?_
 refine WC.seq ?_
 rw [show x.dk B1 dk A c = x.dk B2 dk A c by unfold Wd.dk; rw [e02]]
 refine WC.region ?_
 refine pM rfl rfl ?_
 refine WL.eff (E.done (Hl := [_]) B2 x A c dk rfl Hsub.three rfl rfl) rfl (fun _ => ?_)
 refine WL.eff (E.store Try.sizeOf54 rfl rfl rfl rfl rfl u2 rfl rfl) rfl (fun _ => ?_)
 refine pA rfl rfl ?_
 refine nN ?_
 refine WC.ret ?_
 refine WQ.done Try.results90 (RVs.cons (RV.cell wd_54 rfl m2 rfl) (RVs.cons (RV.tmp rfl) RVs.nil)) (fun a w s => ?_)
 · have e : writeTo x t p q v = (x.more rr, 0) := by
     unfold writeTo
     rw [if_pos h0, if_pos hok, if_neg (by omega), if_neg (by simp [htk]), if_neg (by omega), ← hla, ← hpg2, hrr]
   rw [e]
   have el2 : B2.l = (x.more rr).log := by rw [hB2.l]; simp [Wd.more, Wd.h]
   refine ⟨(B2.A, B2.c), ?_, s.low, by rw [← el2]; exact s.fact.1.2.1.2.1.1⟩
   rw [← show (⟨x.disk, B2.l, x.safe⟩ : Wd) = x.more rr by rw [el2]; rfl]
   rfl
end Go.Proofs.Ytdbcimadjmdffaa
