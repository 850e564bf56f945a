/- Scripts: listed. No condition. -/
import Derived.Test.YtapkelocligmdaaGreatDoorGf
set_option maxRecDepth 100000
set_option linter.unusedVariables false
set_option linter.unusedSimpArgs false
set_option linter.unusedSectionVars false
set_option maxHeartbeats 4000000
namespace Go.Proofs.YtapkelocligmdaaGreatDoor
open Go.RowKit Go.Joins
/-- What is listed. -/
inductive It where
  | one (a : Nat)
  | three (a b c : Nat)
def It.v : It → Value
  | .one a => .iface 3 (.int .i64 a)
  | .three a b c => .iface 30 (.agg #[.int .i64 a, .int .i64 b, .int .i64 c])
def It.ns : It → List Nat
  | .one a => [a]
  | .three a b c => [a, b, c]
def numsI (l : List It) : List Nat := (l.map It.ns).flatten
theorem numsI_step {l : List It} {k : Nat} {x : It} (h : l[k]? = some x) : numsI (l.take (k + 1)) = numsI (l.take k) ++ x.ns := by
  rw [List.take_add_one, h]
  simp [numsI]
theorem numsI_len (l : List It) : (numsI l).length ≤ 3 * l.length := by
  induction l with
  | nil => simp [numsI]
  | cons x l ih =>
    have e : numsI (x :: l) = x.ns ++ numsI l := rfl
    have hx : x.ns.length ≤ 3 := by cases x <;> simp [It.ns]
    rw [e, List.length_append, List.length_cons]
    omega
theorem ta_n (a : Int) (w : World) : (Instr.typeAssert (.iface 3 (.int .i64 a)) 20 3 true).run Tryz.prog w = .ok (.tuple #[.int .i64 a, .bool true]) w := by kernel_rfl
theorem ta_cn (v : Value) (w : World) : (Instr.typeAssert (.iface 30 v) 20 3 true).run Tryz.prog w = .ok (.tuple #[.int .i64 0, .bool false]) w := by kernel_rfl
theorem ta_cc (v : Value) (w : World) : (Instr.typeAssert (.iface 30 v) 20 30 true).run Tryz.prog w = .ok (.tuple #[v, .bool true]) w := by kernel_rfl
theorem mk_int (a : Int) (w : World) : (Instr.makeInterface 3 (.int .i64 a)).run Tryz.prog w = .ok (.iface 3 (.int .i64 a)) w := by kernel_rfl
theorem mk_three (a b c : Int) (w : World) : (Instr.makeInterface 30 (.agg #[.int .i64 a, .int .i64 b, .int .i64 c])).run Tryz.prog w = .ok (.iface 30 (.agg #[.int .i64 a, .int .i64 b, .int .i64 c])) w := by kernel_rfl
theorem bs_any1 (t0 : TypeId) (v0 : Value) (w : World) : (Instr.buildSlice 118 1 #[(0, .iface t0 v0)]).run Tryz.prog w = .ok (.slice (some ⟨w.heap.size, 0, none⟩) 1 1) (w.alloc (.cells [.iface t0 v0].toArray 20)) := by kernel_rfl
theorem bs_any2 (t0 t1 : TypeId) (v0 v1 : Value) (w : World) : (Instr.buildSlice 118 2 #[(0, .iface t0 v0), (1, .iface t1 v1)]).run Tryz.prog w = .ok (.slice (some ⟨w.heap.size, 0, none⟩) 2 2) (w.alloc (.cells [.iface t0 v0, .iface t1 v1].toArray 20)) := by kernel_rfl
theorem bs_any3 (t0 t1 t2 : TypeId) (v0 v1 v2 : Value) (w : World) : (Instr.buildSlice 118 3 #[(0, .iface t0 v0), (1, .iface t1 v1), (2, .iface t2 v2)]).run Tryz.prog w = .ok (.slice (some ⟨w.heap.size, 0, none⟩) 3 3) (w.alloc (.cells [.iface t0 v0, .iface t1 v1, .iface t2 v2].toArray 20)) := by kernel_rfl
section
variable [Inhabited DSx] {P : Program} {E : Env} {n : Nat} {d : Option Nat} {x : Operand} {T T2 T' : TypeId} {p : String} {af : Array Edge}
theorem Y.tassert {vx v : Value} (hx : ev E x = some vx) (hb : ∀ w, (Instr.typeAssert vx T T2 true).run P w = .ok v w) : Yp P E n ⟨d, .typeAssert x T T2 true, T', p, af, none⟩ v := fun a w s => by
  show (do let u ← Instr.typeAssert (a.eval x) T T2 true; pure (Next.value u)).run P w = _
  rw [s.eval hx, Sem.run_bind, hb w]
  rfl
end
theorem und22c (a b c : Nat) : ∀ m : Nat, m < 3 → (Pg.mk a b c 0).cellAt m = ((([a, b, c] : List Nat)[m]?).getD 0 : Nat)
  | 0, _ => rfl
  | 1, _ => rfl
  | 2, _ => rfl
  | k + 3, h => by omega

theorem w_listed (its : List It) (b : Nat) (w : World) (h9 : ∀ it ∈ its, ∀ n ∈ it.ns, n ≤ 99) (hl : its.length ≤ 60) (hc : ∀ (i : Nat) (it : It), its[i]? = some it → w.cell? ⟨b, i, none⟩ = some it.v) (hne : numsI its ≠ []) : Ret Tryz.prog 51 [.slice (some ⟨b, 0, none⟩) its.length its.length] w (su (listedOf (numsI its))) := by
 refine enter Tryz.func51 rfl Tryz.ntmps51 rfl SF.top trivial ?_
 refine sR ?_
 refine pA rfl rfl ?_
 refine nN ?_
 refine sR ?_
 refine pA rfl rfl ?_
 refine nN ?_
 refine WC.seq ?_
 refine sR ?_
 refine pM rfl rfl ?_
 refine pP (Y.len Tryz.underlying118 rfl) rfl ?_
 refine pM rfl rfl ?_
 refine nN ?_
 refine WC.block ?_
 refine WC.le (nil_sepU w.heap.size 9 1 _) ?_
 refine WC.loop (ι := Nat × Option Addr × Nat) (fun k => [(3, .slice k.2.1 ((numsI (its.take k.1)).map digs).length k.2.2), (10, .slice (some ⟨b, 0, none⟩) its.length its.length), (11, .int .i64 its.length), (12, .int .i64 k.1)]) (fun _ => []) (fun k => (SF.own w.heap.size 9 1 (.slice k.2.1 ((numsI (its.take k.1)).map digs).length k.2.2) ((numsI (its.take k.1)).map digs).length (sus ((numsI (its.take k.1)).map digs))).sep SF.top) (fun k => k.1 ≤ its.length) (fun k => its.length - k.1) (0, none, 0) (Nat.zero_le _) (fun a w s => s.weak (by repeat (first | exact sub_nil _ | refine sub_cons rfl ?_))) (fun k hk => ?_)
 obtain ⟨k, A1, c1⟩ := k
 dsimp only at hk ⊢
 refine sR ?_
 refine pP (Y.lss rfl rfl) rfl ?_
 refine nN ?_
 refine WC.seq ?_
 refine WC.cond rfl (fun h13 => ?_) (fun h13 => ?_)
 refine WC.skip' ?_
 refine WQ.next ?_
 refine WC.seq ?_
 refine WC.block ?_
 refine WC.seq ?_
 have hk2 : k < its.length := by have hh := h13; simp at hh; omega
 obtain ⟨it, hit⟩ := get_of_lt hk2
 have hit9 := h9 it (List.mem_of_getElem? hit)
 have hnl := numsI_len (its.take k)
 have htk : (its.take k).length = k := by rw [List.length_take]; omega
 refine WC.region ?_
 refine pP (Y.ixSl Tryz.underlying118 Tryz.sizeOf20 rfl rfl (nat0 _) (by omega)) rfl ?_
 refine pV (Y.loadc fl_20 rfl (v := it.v) (fun a w s => by have := cell_low (hc k it hit) s.low; simpa using this)) rfl ?_
 rcases it with n1 | ⟨n1, a2, a3⟩
 refine pA rfl rfl ?_
 refine nN ?_
 refine sR ?_
 refine pM rfl rfl ?_
 refine nN ?_
 refine WC.block ?_
 refine sR ?_
 refine pP (Y.tassert (vx := .iface 3 (.int .i64 n1)) rfl (ta_n n1)) rfl ?_
 refine pP (Y.extract rfl rfl) rfl ?_
 refine pP (Y.extract rfl rfl) rfl ?_
 refine nN ?_
 refine WC.isT rfl (rfl) ?_
 refine sR ?_
 refine pA rfl rfl ?_
 refine nN ?_
 refine WC.region ?_
 refine pM rfl rfl ?_
 refine pM rfl rfl ?_
 refine WL.eff (E.call Tryz.call25 rfl (fun _ w s => l_itoaS n1 (by have := hit9 n1 (by simp [It.ns]); omega) w) rfl) rfl (fun _ => ?_)
 refine WL.eff (E.buildSlice (bs_64_1 _) rfl rfl) rfl (fun b1 => ?_)
 refine WL.eff (E.appS [digs n1] rfl rfl rfl m0 (by simp; omega) rfl) rfl (fun i => ?_)
 refine pA rfl rfl ?_
 refine WL.nil ?_
 refine WQ.blockEnd ?_
 refine WQ.blockEnd ?_
 refine WQ.next ?_
 refine WC.region ?_
 refine pP (Y.add rfl rfl (i64_in (by omega) (by omega))) rfl ?_
 refine pM rfl rfl ?_
 refine WL.nil ?_
 · have e9 : (numsI (its.take (k + 1))).map digs = (numsI (its.take k)).map digs ++ [digs n1] := by rw [numsI_step hit, List.map_append]; rfl
   refine fun a9 w2 s => ⟨(k + 1, i), by show k + 1 ≤ its.length; omega, by show its.length - (k + 1) < its.length - k; omega, ?_⟩
   show St [(3, .slice i.1 ((numsI (its.take (k + 1))).map digs).length i.2), (10, .slice (some ⟨b, 0, none⟩) its.length its.length), (11, .int .i64 its.length), (12, .int .i64 ((k + 1 : Nat) : Int))] _ _ ((SF.own w.heap.size 9 1 (.slice i.1 ((numsI (its.take (k + 1))).map digs).length i.2) ((numsI (its.take (k + 1))).map digs).length (sus ((numsI (its.take (k + 1))).map digs))).sep _) _ _ _
   rw [e9]
   exact (s.sub (Hsub.of_sub (by repeat (first | exact List.Sublist.refl _ | apply List.Sublist.cons)))).weak (by repeat (first | exact sub_nil _ | refine sub_cons rfl ?_))
 refine pA rfl rfl ?_
 refine nN ?_
 refine sR ?_
 refine pM rfl rfl ?_
 refine nN ?_
 refine WC.block ?_
 refine sR ?_
 refine pP (Y.tassert (vx := .iface 30 (.agg #[.int .i64 n1, .int .i64 a2, .int .i64 a3])) rfl (ta_cn _)) rfl ?_
 refine pP (Y.extract rfl rfl) rfl ?_
 refine pP (Y.extract rfl rfl) rfl ?_
 refine nN ?_
 refine WC.isF rfl (rfl) ?_
 refine sR ?_
 refine pP (Y.tassert (vx := .iface 30 (.agg #[.int .i64 n1, .int .i64 a2, .int .i64 a3])) rfl (ta_cc _)) rfl ?_
 refine pP (Y.extract rfl rfl) rfl ?_
 refine pP (Y.extract rfl rfl) rfl ?_
 refine nN ?_
 refine WC.isT rfl (rfl) ?_
 refine sR ?_
 refine WL.eff (E.alloc Tryz.zeroValue30 rfl rfl) rfl (fun b2 => ?_)
 refine WL.eff (E.store Tryz.sizeOf30 rfl rfl rfl rfl rfl u0 rfl rfl) rfl (fun _ => ?_)
 refine nN ?_
 refine sR ?_
 refine pV (Y.loadAN wd_30 rfl m0 (r := [.int .i64 n1, .int .i64 a2, .int .i64 a3]) rfl) rfl ?_
 refine pM rfl rfl ?_
 refine nN ?_
 refine WC.block ?_
 rw [show (numsI (its.take k)).map digs = (numsI (its.take k)).map digs ++ (([n1, a2, a3] : List Nat).take 0).map digs from by simp]
 refine WC.loop (ι := Nat × Option Addr × Nat) (fun m => [(3, .slice m.2.1 ((numsI (its.take k)).map digs ++ (([n1, a2, a3] : List Nat).take m.1).map digs).length m.2.2), (10, .slice (some ⟨b, 0, none⟩) its.length its.length), (11, .int .i64 its.length), (12, .int .i64 k), (28, .agg #[.int .i64 n1, .int .i64 a2, .int .i64 a3]), (29, .int .i64 m.1)]) (fun _ => []) (fun m => (SF.own w.heap.size 9 1 (.slice m.2.1 ((numsI (its.take k)).map digs ++ (([n1, a2, a3] : List Nat).take m.1).map digs).length m.2.2) ((numsI (its.take k)).map digs ++ (([n1, a2, a3] : List Nat).take m.1).map digs).length (sus ((numsI (its.take k)).map digs ++ (([n1, a2, a3] : List Nat).take m.1).map digs))).sep SF.top) (fun m => m.1 ≤ 3) (fun m => 3 - m.1) (0, A1, c1) (Nat.zero_le _) (fun a w s => (s.sub (Hsub.of_sub (by repeat (first | exact List.Sublist.refl _ | apply List.Sublist.cons)))).weak (by repeat (first | exact sub_nil _ | refine sub_cons rfl ?_))) (fun m hm => ?_)
 obtain ⟨m, A2, c2⟩ := m
 dsimp only at hm ⊢
 refine sR ?_
 refine pP (Y.lss rfl rfl) rfl ?_
 refine nN ?_
 refine WC.seq ?_
 refine WC.cond rfl (fun h30 => ?_) (fun h30 => ?_)
 refine WC.skip' ?_
 refine WQ.next ?_
 refine WC.seq ?_
 refine WC.block ?_
 refine WC.seq ?_
 have hm3 : m < 3 := by have hh := h30; simp at hh; omega
 obtain ⟨z, hz⟩ := get_of_lt (l := ([n1, a2, a3] : List Nat)) (k := m) (by simpa using hm3)
 have hz9 := hit9 z (List.mem_of_getElem? hz)
 have hcz : (Pg.mk n1 a2 a3 0).cellAt m = ((z : Nat) : Int) := by rw [und22c n1 a2 a3 m hm3, hz]; rfl
 refine WC.region ?_
 refine pP (Y.indexK rfl rfl (fun w => (ix_cells (Pg.mk n1 a2 a3 0) m (by omega) w).trans (by rw [hcz]))) rfl ?_
 refine pA rfl rfl ?_
 refine nN ?_
 refine WC.region ?_
 refine pM rfl rfl ?_
 refine pM rfl rfl ?_
 refine WL.eff (E.call Tryz.call25 rfl (fun _ w s => l_itoaS z (by omega) w) rfl) rfl (fun _ => ?_)
 refine WL.eff (E.buildSlice (bs_64_1 _) rfl rfl) rfl (fun b3 => ?_)
 refine WL.eff (E.appS [digs z] rfl rfl rfl m0 (by simp; omega) rfl) rfl (fun i => ?_)
 refine pA rfl rfl ?_
 refine WL.nil ?_
 refine WQ.blockEnd ?_
 refine WQ.next ?_
 refine WC.region ?_
 refine pP (Y.add rfl rfl (i64_in (by omega) (by omega))) rfl ?_
 refine pM rfl rfl ?_
 refine WL.nil ?_
 · have e9 : (numsI (its.take k)).map digs ++ (([n1, a2, a3] : List Nat).take (m + 1)).map digs = (numsI (its.take k)).map digs ++ (([n1, a2, a3] : List Nat).take m).map digs ++ [digs z] := by rw [List.take_add_one, hz]; simp
   refine fun a9 w2 s => ⟨(m + 1, i), by show m + 1 ≤ 3; omega, by show 3 - (m + 1) < 3 - m; omega, ?_⟩
   show St [(3, .slice i.1 ((numsI (its.take k)).map digs ++ (([n1, a2, a3] : List Nat).take (m + 1)).map digs).length i.2), (10, .slice (some ⟨b, 0, none⟩) its.length its.length), (11, .int .i64 its.length), (12, .int .i64 k), (28, .agg #[.int .i64 n1, .int .i64 a2, .int .i64 a3]), (29, .int .i64 ((m + 1 : Nat) : Int))] _ _ ((SF.own w.heap.size 9 1 (.slice i.1 ((numsI (its.take k)).map digs ++ (([n1, a2, a3] : List Nat).take (m + 1)).map digs).length i.2) ((numsI (its.take k)).map digs ++ (([n1, a2, a3] : List Nat).take (m + 1)).map digs).length (sus ((numsI (its.take k)).map digs ++ (([n1, a2, a3] : List Nat).take (m + 1)).map digs))).sep _) _ _ _
   rw [e9]
   exact (s.sub (Hsub.of_sub (by repeat (first | exact List.Sublist.refl _ | apply List.Sublist.cons)))).weak (by repeat (first | exact sub_nil _ | refine sub_cons rfl ?_))
 refine WC.exit ?_
 refine WQ.thenExit ?_
 refine WQ.thenExit ?_
 refine WQ.blockExit ?_
 refine WQ.blockEnd ?_
 refine WQ.blockEnd ?_
 refine WQ.next ?_
 have hm3 : m = 3 := by have hh := h30; simp at hh; omega
 subst hm3
 rw [show ([n1, a2, a3] : List Nat).take 3 = [n1, a2, a3] from rfl]
 refine WC.region ?_
 refine pP (Y.add rfl rfl (i64_in (by omega) (by omega))) rfl ?_
 refine pM rfl rfl ?_
 refine WL.nil ?_
 · have e9 : (numsI (its.take (k + 1))).map digs = (numsI (its.take k)).map digs ++ (([n1, a2, a3] : List Nat)).map digs := by rw [numsI_step hit, List.map_append]; rfl
   refine fun a9 w2 s => ⟨(k + 1, (A2, c2)), by show k + 1 ≤ its.length; omega, by show its.length - (k + 1) < its.length - k; omega, ?_⟩
   show St [(3, .slice (A2, c2).1 ((numsI (its.take (k + 1))).map digs).length (A2, c2).2), (10, .slice (some ⟨b, 0, none⟩) its.length its.length), (11, .int .i64 its.length), (12, .int .i64 ((k + 1 : Nat) : Int))] _ _ ((SF.own w.heap.size 9 1 (.slice (A2, c2).1 ((numsI (its.take (k + 1))).map digs).length (A2, c2).2) ((numsI (its.take (k + 1))).map digs).length (sus ((numsI (its.take (k + 1))).map digs))).sep _) _ _ _
   rw [e9]
   exact (s.sub (Hsub.of_sub (by repeat (first | exact List.Sublist.refl _ | apply List.Sublist.cons)))).weak (by repeat (first | exact sub_nil _ | refine sub_cons rfl ?_))
 refine WC.exit ?_
 refine WQ.thenExit ?_
 refine WQ.thenExit ?_
 refine WQ.blockExit ?_
 refine WQ.next ?_
 refine WC.seq ?_
 have hkE : k = its.length := by have hh := h13; simp at hh; omega
 subst hkE
 rw [List.take_length]
 have hnl := numsI_len its
 refine WC.region ?_
 refine pM rfl rfl ?_
 refine WL.eff (E.call Tryz.call87 rfl (fun _ w s => l_join (numsI its) A1 c1 w hne (fun n hn => by obtain ⟨l, hl1, hl2⟩ := List.mem_flatten.1 hn; obtain ⟨it, hi1, rfl⟩ := List.mem_map.1 hl1; exact h9 it hi1 n hl2) (by omega) s.fact.1) rfl) rfl (fun _ => ?_)
 refine pA rfl rfl ?_
 refine nN ?_
 refine WC.ret ?_
 refine dn1 Tryz.results51 rfl (fun a w s => ?_)
 · exact ⟨rfl, s.low⟩
end Go.Proofs.YtapkelocligmdaaGreatDoor
