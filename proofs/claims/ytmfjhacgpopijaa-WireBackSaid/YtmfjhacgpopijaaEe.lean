/- A glass. No condition. -/
import Derived.Test.YtmfjhacgpopijaaEd
set_option maxRecDepth 100000
set_option linter.unusedVariables false
set_option linter.unusedSimpArgs false
set_option linter.unusedSectionVars false
set_option maxHeartbeats 4000000
namespace Go.Proofs.Ytmfjhacgpopijaa
open Go.RowKit Go.Joins
theorem w_glassGet (u : World) (Hl : Hp) (G : SF) (g ba bt cap Tp Tt : Nat) (cs : List Value) (os : List Nat) (s9 : List Int) (w : World) (hb : Bytes s9) (ho : ∀ o ∈ os, o < cs.length) (hol : os.length ≤ 1000) (hw : Wp u ((g, [sv (s9)], 55) :: (ba, ptrs bt os, Tp) :: (bt, cs, Tt) :: Hl) G w) : Calls Try.prog 20 [.pointer (some ⟨g, 0, none⟩), .slice (some ⟨ba, 0, none⟩) os.length cap].toArray w fun e w' => (os.length ≤ s9.length ∧ e = .returned (.tuple #[]) ∧ Wp u ((g, [sv (s9.drop os.length)], 55) :: (ba, ptrs bt os, Tp) :: (bt, setAll cs os s9, Tt) :: Hl) G w') ∨ (s9.length < os.length ∧ e = .panicked shortP ∧ ∃ cs', Wp u ((g, [sv ([])], 55) :: (ba, ptrs bt os, Tp) :: (bt, cs', Tt) :: Hl) G w' ∧ cs'.length = cs.length) := by
 refine enterW Try.func20 rfl Try.ntmps20 rfl hw ?_
 refine sR ?_
 refine pM rfl rfl ?_
 refine pP (Y.len Try.underlying72 rfl) rfl ?_
 refine pM rfl rfl ?_
 refine nN ?_
 refine WC.block ?_
 refine WC.loop (ι := Nat) (fun k => [(0, .pointer (some ⟨g, 0, none⟩)), (6, .slice (some ⟨ba, 0, none⟩) os.length cap), (7, .int .i64 os.length), (8, .int .i64 k)]) (fun k => (g, [sv (s9.drop k)], 55) :: (ba, ptrs bt os, Tp) :: (bt, setAll cs (os.take k) s9, Tt) :: Hl) (fun _ => G) (fun k => k ≤ os.length ∧ k ≤ s9.length) (fun k => os.length - k) 0 ⟨Nat.zero_le _, Nat.zero_le _⟩ (fun a w s => by simpa [setAll] using s.weak (by repeat (first | exact sub_nil _ | refine sub_cons rfl ?_))) (fun m hk => ?_)
 refine sR ?_
 refine pP (Y.lss rfl rfl) rfl ?_
 refine nN ?_
 refine WC.seq ?_
 refine WC.cond rfl (fun h9 => ?_) (fun h9 => ?_)
 refine WC.skip' ?_
 refine WQ.next ?_
 refine WC.seq ?_
 refine WC.block ?_
 refine WC.seq ?_
 have hm : m < os.length := by have h9 := h9; simp at h9; omega
 obtain ⟨o, hk2⟩ := get_of_lt hm
 have hol2 := ho o (List.mem_of_getElem? hk2)
 refine WC.region ?_
 refine pP (Y.ixSl Try.underlying72 Try.sizeOf58 rfl rfl (nat0 _) (by omega)) rfl ?_
 refine pV (Y.loadc fl_58 rfl (v := .pointer (some ⟨bt, o, none⟩)) (fun a w s => by rw [s.hp.cell (b := ba) (cs := ptrs bt os) m1]; simpa using ptrs_get hk2)) rfl ?_
 refine pA rfl rfl ?_
 refine nN ?_
 refine WC.seq ?_
 refine sR ?_
 refine pM rfl rfl ?_
 refine pP (Y.nilCheck rfl) rfl ?_
 refine pP (Y.fieldAddr fa_55_0 rfl) rfl ?_
 refine pV (Y.load (v := sv (s9.drop m)) fl_9 rfl m0 rfl) rfl ?_
 refine pP (Y.strEql (hb.drop m) Bytes.nil rfl rfl rfl) rfl ?_
 refine nN ?_
 refine WC.cond rfl (fun h16 => ?_) (fun h16 => ?_)
 have e0 : s9.drop m = [] := by have h16 := h16; simpa using h16
 have hsl : s9.length ≤ m := by have h := congrArg List.length e0; rw [List.length_drop] at h; simp at h; omega
 rw [e0]
 refine WC.region ?_
 refine pP (Y.build rfl (bf_60 )) rfl ?_
 refine pP (Y.iface mk_short rfl) rfl ?_
 refine WL.panic rfl ?_
 refine WQ.thenPanic ?_
 refine WQ.blockPanic ?_
 refine WQ.thenPanic ?_
 refine WQ.thenPanic ?_
 refine WQ.blockPanic ?_
 exact WQ.raised rfl (fun w hw => .inr ⟨by omega, rfl, _, hw, setAll_len _ _ _⟩)
 refine WC.skip' ?_
 refine WQ.next ?_
 refine WC.seq ?_
 have hms : m < s9.length := by
   have h16 := h16
   simp at h16
   omega
 obtain ⟨x, hx⟩ := get_of_lt hms
 have hx8 := hb.at hx
 have ed := drop_consI hx
 rw [ed]
 refine WC.region ?_
 refine pM rfl rfl ?_
 refine pM rfl rfl ?_
 refine pP (Y.nilCheck rfl) rfl ?_
 refine pP (Y.fieldAddr fa_55_0 rfl) rfl ?_
 refine pV (Y.load (v := sv (x :: s9.drop (m + 1))) fl_9 rfl m0 rfl) rfl ?_
 refine pP (Y.strIx0 und9 hx8.1 hx8.2 rfl rfl) rfl ?_
 refine pP (Y.toInt hx8 rfl) rfl ?_
 refine pP (Y.nilCheck rfl) rfl ?_
 refine WL.eff (E.storeP (cs' := setAll cs (os.take (m + 1)) s9) Try.sizeOf3 rfl rfl rfl rfl rfl u2 (by rw [setAll_len]; omega) (by rw [put_one, setAll_step _ _ _ _ _ _ hk2 hx])) rfl (fun _ => ?_)
 refine nN ?_
 refine WC.region ?_
 refine pM rfl rfl ?_
 refine pM rfl rfl ?_
 refine pP (Y.nilCheck rfl) rfl ?_
 refine pP (Y.fieldAddr fa_55_0 rfl) rfl ?_
 refine pV (Y.load (v := sv (x :: s9.drop (m + 1))) fl_9 rfl m0 rfl) rfl ?_
 refine pP (Y.strTail und9 rfl rfl) rfl ?_
 refine pP (Y.nilCheck rfl) rfl ?_
 refine pP (Y.fieldAddr fa_55_0 rfl) rfl ?_
 refine WL.eff (E.store (v := sv (s9.drop (m + 1))) (vs := [sv (s9.drop (m + 1))]) size9 rfl rfl rfl rfl rfl u0 rfl rfl) rfl (fun _ => ?_)
 refine WL.nil ?_
 refine WQ.blockEnd ?_
 refine WQ.next ?_
 refine WC.region ?_
 refine pP (Y.add rfl rfl (i64_in (by omega) (by omega))) rfl ?_
 refine pM rfl rfl ?_
 refine WL.nil ?_
 · refine fun a w2 s => ⟨m + 1, ⟨by omega, by omega⟩, by show os.length - (m + 1) < os.length - m; omega, ?_⟩
   show St [(0, .pointer (some ⟨g, 0, none⟩)), (6, .slice (some ⟨ba, 0, none⟩) os.length cap), (7, .int .i64 os.length), (8, .int .i64 ((m + 1 : Nat) : Int))] _ ((g, [sv (s9.drop (m + 1))], 55) :: (ba, ptrs bt os, Tp) :: (bt, setAll cs (os.take (m + 1)) s9, Tt) :: Hl) _ _ _ _
   exact s.weak (by repeat (first | exact sub_nil _ | refine sub_cons rfl ?_))
 refine WC.exit ?_
 refine WQ.thenExit ?_
 refine WQ.thenExit ?_
 refine WQ.blockExit ?_
 refine WQ.over Try.results20 RVs.nil (fun a w s => ?_)
 · have hm : m = os.length := by have h9 := h9; simp at h9; omega
   subst hm
   rw [List.take_length] at s
   exact .inl ⟨hk.2, rfl, s.wp⟩

theorem setAll_take : ∀ (cs : List Value) (os : List Nat) (s : List Int), setAll cs os s = setAll cs os (s.take os.length)
  | cs, [], s => by cases s <;> simp [setAll]
  | cs, o :: os, [] => by simp [setAll]
  | cs, o :: os, n :: s => by
    simp only [setAll, List.length_cons, List.take_succ_cons]
    exact setAll_take _ os s
theorem setAll_nums (cs : List Value) (os : List Nat) (s : List Int) (j : Nat) (h : j + os.length ≤ s.length) : setAll cs os (s.drop j) = setAll cs os ((List.range os.length).map fun i => at0 s (j + i)) := by
  rw [setAll_take]
  congr 1
  apply List.ext_getElem
  · simp; omega
  · intro i h1 h2
    simp only [List.length_map, List.length_range] at h2
    have : j + i < s.length := by omega
    simp [at0, this]
section
variable [Inhabited DSx] {ops : Array Oper} {Q : Exit → Act → World → Prop} {rest : List Oper} {E : Env} {n : Nat} {H : Hp} {F G : SF} {u : World}
/-- A call of get: there are so many. -/
theorem E.getN {args : Array Operand} {ts : Array TypeId} {d : Nat} {T' : TypeId} {p : String} {af : Array Edge} {g ba bt cap Tp Tt : Nat} {cs cs' : List Value} {Hl : Hp} (os : List Nat) (s9 : List Int) (j : Nat) (hb : Bytes s9) (ho : ∀ o ∈ os, o < cs.length) (hol : os.length ≤ 1000) (hle : j + os.length ≤ s9.length)
    (hset : setAll cs os ((List.range os.length).map fun i => at0 s9 (j + i)) = cs') (hH : Hsub ((g, [sv (s9.drop j)], 55) :: (ba, ptrs bt os, Tp) :: (bt, cs, Tt) :: Hl) H)
    (hx : evs E args.toList = some [.pointer (some ⟨g, 0, none⟩), .slice (some ⟨ba, 0, none⟩) os.length cap]) (hd : Nat.blt d n = true) :
    Eff Try.prog E n H F u ⟨some d, .call { callee := .value (.func 20), args := args, argTypes := ts }, T', p, af, none⟩ (fun _ : Unit => (d, .tuple #[]) :: E) (fun _ => (g, [sv (s9.drop (j + os.length))], 55) :: (bt, cs', Tt) :: Hl) (fun _ => F) :=
  Proofs.Ytmfjhacgpopijaa.E.callM (fun _ => .tuple #[]) _ _ Try.call20 hx (fun w hw => (w_glassGet u Hl F g ba bt cap Tp Tt cs os (s9.drop j) w (hb.drop j) ho hol (hw.sub hH)).mono fun e w' hh => by
    rcases hh with ⟨_, he, hw'⟩ | ⟨hlt, _⟩
    · rw [setAll_nums cs os s9 j hle, hset, List.drop_drop] at hw'
      exact ⟨(), he, hw'.sub (Hsub.of_sub (List.Sublist.cons_cons _ (List.sublist_cons_self _ _)))⟩
    · rw [List.length_drop] at hlt
      omega) hd
/-- .. there are not. -/
theorem WL.getDie {args : Array Operand} {ts : Array TypeId} {d : Nat} {T' : TypeId} {p : String} {af : Array Edge} {g ba bt cap Tp Tt : Nat} {cs : List Value} {Hl : Hp} (os : List Nat) (s9 : List Int) (j : Nat) (hb : Bytes s9) (ho : ∀ o ∈ os, o < cs.length) (hol : os.length ≤ 1000) (hn : Nat.blt d n = true) (hos : 0 < os.length) (hlt : ¬ j + os.length ≤ s9.length)
    (hH : Hsub ((g, [sv (s9.drop j)], 55) :: (ba, ptrs bt os, Tp) :: (bt, cs, Tt) :: Hl) H)
    (hx : evs E args.toList = some [.pointer (some ⟨g, 0, none⟩), .slice (some ⟨ba, 0, none⟩) os.length cap]) (hq : ∀ cs' : List Value, cs'.length = cs.length → WQ Q (.panic shortP) E n ((bt, cs', Tt) :: Hl) F u) :
    WL Try.prog ops Q (⟨some d, .call { callee := .value (.func 20), args := args, argTypes := ts }, T', p, af, none⟩ :: rest) E n H F u :=
  WL.callP (ι := Empty) (κ := { c : List Value // c.length = cs.length }) (fun _ => .tuple #[]) (fun _ => []) (fun _ => F) (fun _ => shortP) (fun c => (bt, c.1, Tt) :: Hl) (fun _ => F) Try.call20 hx (fun w hw => (w_glassGet u Hl F g ba bt cap Tp Tt cs os (s9.drop j) w (hb.drop j) ho hol (hw.sub hH)).mono fun e w' hh => by
    rcases hh with ⟨hle, _⟩ | ⟨_, he, c, hw', hc⟩
    · rw [List.length_drop] at hle
      omega
    · exact .inr ⟨⟨c, hc⟩, he, hw'.sub (Hsub.of_sub (List.Sublist.cons _ (List.Sublist.cons _ (List.Sublist.refl _))))⟩) hn (fun c => hq c.1 c.2) (fun i => i.elim)
end
end Go.Proofs.Ytmfjhacgpopijaa
