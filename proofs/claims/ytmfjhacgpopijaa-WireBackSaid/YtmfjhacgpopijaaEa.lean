/- A pen. No condition. -/
import Derived.Test.YtmfjhacgpopijaaWe
set_option maxRecDepth 100000
set_option linter.unusedVariables false
set_option linter.unusedSimpArgs false
set_option linter.unusedSectionVars false
set_option maxHeartbeats 4000000
namespace Go.Proofs.Ytmfjhacgpopijaa
open Go.RowKit Go.Joins
theorem w_penPut (u : World) (Hl : Hp) (G : SF) (g bn cap Tn : Nat) (A : Option Addr) (c : Nat) (l ns : List Int) (cs : List Value) (w : World) (hw : Wp u ((g, [.slice A (l).length c], 44) :: (bn, cs, Tn) :: Hl) ((SF.own u.heap.size 5 1 (.slice A (l).length c) (l).length (u8s (l))).sep G) w) (hn : ∀ (k : Nat) (x : Int), ns[k]? = some x → cs[k]? = some (.int .i64 x)) (hb : Bytes ns) (hlen : l.length + ns.length ≤ 1000000) : Calls Try.prog 13 [.pointer (some ⟨g, 0, none⟩), .slice (some ⟨bn, 0, none⟩) ns.length cap].toArray w fun e w' => ∃ i : Option Addr × Nat, e = .returned (.tuple #[]) ∧ Wp u ((g, [.slice i.1 (l ++ ns).length i.2], 44) :: (bn, cs, Tn) :: Hl) ((SF.own u.heap.size 5 1 (.slice i.1 (l ++ ns).length i.2) (l ++ ns).length (u8s (l ++ ns))).sep G) w' := by
 obtain ⟨i0, hi0, hz0, hz1, hz2⟩ := info_parts u8_info
 refine enterW Try.func13 rfl Try.ntmps13 rfl hw ?_
 refine sR ?_
 refine pM rfl rfl ?_
 refine pP (Y.len Try.underlying46 rfl) rfl ?_
 refine pM rfl rfl ?_
 refine nN ?_
 refine WC.block ?_
 refine WC.loop (ι := Nat × Option Addr × Nat) (fun k => [(0, .pointer (some ⟨g, 0, none⟩)), (6, .slice (some ⟨bn, 0, none⟩) ns.length cap), (7, .int .i64 ns.length), (8, .int .i64 k.1)]) (fun k => (g, [.slice k.2.1 (l ++ ns.take k.1).length k.2.2], 44) :: (bn, cs, Tn) :: Hl) (fun k => (SF.own u.heap.size 5 1 (.slice k.2.1 (l ++ ns.take k.1).length k.2.2) (l ++ ns.take k.1).length (u8s (l ++ ns.take k.1))).sep G) (fun k => k.1 ≤ ns.length) (fun k => ns.length - k.1) (0, A, c) (Nat.zero_le _) (fun a w s => by simpa using s.weak (by repeat (first | exact sub_nil _ | refine sub_cons rfl ?_))) (fun k hk => ?_)
 obtain ⟨m, A1, c1⟩ := k
 dsimp only at hk ⊢
 refine sR ?_
 refine pP (Y.lss rfl rfl) rfl ?_
 refine nN ?_
 refine WC.seq ?_
 refine WC.cond rfl (fun h9 => ?_) (fun h9 => ?_)
 refine WC.skip' ?_
 refine WQ.next ?_
 refine WC.seq ?_
 refine WC.block ?_
 refine WC.seq ?_
 have hm : m < ns.length := by have h9 := h9; simp at h9; omega
 obtain ⟨x, hx⟩ := get_of_lt hm
 have hx8 := hb.at hx
 have hm1 : (ns.take m).length = m := by rw [List.length_take]; omega
 have hLn : (l ++ ns.take m).length ≤ 999999 := by rw [List.length_append]; omega
 refine WC.region ?_
 refine pP (Y.ixSl Try.underlying46 Try.sizeOf3 rfl rfl (nat0 _) (by omega)) rfl ?_
 refine pV (Y.loadc fl_3 rfl (v := .int .i64 x) (fun a w s => by rw [s.hp.cell (b := bn) (cs := cs) (T := Tn) m1]; simpa using hn m x hx)) rfl ?_
 refine pA rfl rfl ?_
 refine nN ?_
 refine WC.region ?_
 refine pM rfl rfl ?_
 refine pM rfl rfl ?_
 refine pP (Y.nilCheck rfl) rfl ?_
 refine pP (Y.fieldAddr fa_44_0 rfl) rfl ?_
 refine pV (Y.load fl_42 rfl m0 rfl) rfl ?_
 refine pM rfl rfl ?_
 refine pP (Y.toByte hx8 rfl) rfl ?_
 refine WL.eff (E.buildSlice (bs_42_1 _) rfl rfl) rfl (fun b1 => ?_)
 refine WL.eff (E.appendG und182 hi0 hz0 hz1 hz2 rfl (by decide) rfl rfl rfl m0 rfl rfl (by unfold maxLen; omega) (by omega) rfl) rfl (fun i => ?_)
 refine pP (Y.nilCheck rfl) rfl ?_
 refine pP (Y.fieldAddr fa_44_0 rfl) rfl ?_
 refine WL.eff (E.store Try.sizeOf42 rfl rfl rfl rfl rfl u1 rfl rfl) rfl (fun _ => ?_)
 refine WL.nil ?_
 refine WQ.blockEnd ?_
 refine WQ.next ?_
 refine WC.region ?_
 refine pP (Y.add rfl rfl (i64_in (by omega) (by omega))) rfl ?_
 refine pM rfl rfl ?_
 refine WL.nil ?_
 · refine fun a w s => ⟨(m + 1, i), by show m + 1 ≤ ns.length; omega, by show ns.length - (m + 1) < ns.length - m; omega, ?_⟩
   have e1 : l ++ ns.take (m + 1) = (l ++ ns.take m) ++ [x] := by rw [List.take_add_one, hx]; simp
   show St [(0, .pointer (some ⟨g, 0, none⟩)), (6, .slice (some ⟨bn, 0, none⟩) ns.length cap), (7, .int .i64 ns.length), (8, .int .i64 ((m + 1 : Nat) : Int))] _ ((g, [.slice i.1 (l ++ ns.take (m + 1)).length i.2], 44) :: _) ((SF.own u.heap.size 5 1 (.slice i.1 (l ++ ns.take (m + 1)).length i.2) (l ++ ns.take (m + 1)).length (u8s (l ++ ns.take (m + 1)))).sep G) _ _ _
   rw [e1, u8s_app, List.length_append]
   exact (s.sub (Hsub.of_sub (List.sublist_cons_self _ _))).weak (by repeat (first | exact sub_nil _ | refine sub_cons rfl ?_))
 refine WC.exit ?_
 refine WQ.thenExit ?_
 refine WQ.thenExit ?_
 refine WQ.blockExit ?_
 refine WQ.over Try.results13 RVs.nil (fun a w s => ?_)
 · have hm : m = ns.length := by have h9 := h9; simp at h9; omega
   subst hm
   rw [List.take_length] at s
   exact ⟨(A1, c1), rfl, s.wp⟩

theorem byte_one {r : List Int} (x : Int) : ∀ (k : Nat) (y : Int), ([x] : List Int)[k]? = some y → ([.int .i64 x] : List Value)[k]? = some (.int .i64 y)
  | 0, y, h => by simp at h; subst h; rfl
  | k + 1, y, h => by simp at h
theorem ints_at (l : List Int) (k : Nat) (y : Int) (h : l[k]? = some y) : (ints l)[k]? = some (.int .i64 y) := by simp [ints, List.getElem?_map, h]
section
variable [Inhabited DSx] {E : Env} {n : Nat} {H : Hp} {F G : SF} {u : World}
/-- A call of put. -/
theorem E.pen {args : Array Operand} {ts : Array TypeId} {d : Nat} {T' : TypeId} {p : String} {af : Array Edge} {g bn cap Tn c : Nat} {A : Option Addr} {l : List Int} {cs : List Value} {Hl : Hp} (ns : List Int) (hH : Hsub ((g, [.slice A l.length c], 44) :: (bn, cs, Tn) :: Hl) H)
    (hF : F = (SF.own u.heap.size 5 1 (.slice A l.length c) l.length (u8s l)).sep G) (hn : ∀ (k : Nat) (x : Int), ns[k]? = some x → cs[k]? = some (.int .i64 x)) (hb : Bytes ns) (hlen : l.length + ns.length ≤ 1000000)
    (hx : evs E args.toList = some [.pointer (some ⟨g, 0, none⟩), .slice (some ⟨bn, 0, none⟩) ns.length cap]) (hd : Nat.blt d n = true) :
    Eff Try.prog E n H F u ⟨some d, .call { callee := .value (.func 13), args := args, argTypes := ts }, T', p, af, none⟩ (fun _ : Option Addr × Nat => (d, .tuple #[]) :: E) (fun i => (g, [.slice i.1 (l ++ ns).length i.2], 44) :: (bn, cs, Tn) :: Hl)
      (fun i => (SF.own u.heap.size 5 1 (.slice i.1 (l ++ ns).length i.2) (l ++ ns).length (u8s (l ++ ns))).sep G) := by
  subst hF
  refine Proofs.Ytmfjhacgpopijaa.E.callM (fun _ => .tuple #[]) _ _ Try.call13 hx (fun w hw => (w_penPut u Hl G g bn cap Tn A c l ns cs w (hw.sub hH) hn hb hlen).mono fun e w' ⟨i, he, hw'⟩ => ⟨i, he, hw'⟩) hd
end
end Go.Proofs.Ytmfjhacgpopijaa
