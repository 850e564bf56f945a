/- Scripts: a line. No condition. -/
import Derived.Test.YtapkelocligmdaaGreatDoorGj
import Derived.Test.YtapkelocligmdaaGreatDoorQ6
section
set_option maxRecDepth 100000
set_option linter.unusedVariables false
set_option linter.unusedSimpArgs false
set_option linter.unusedSectionVars false
set_option maxHeartbeats 4000000
namespace Go.Proofs.YtapkelocligmdaaGreatDoor
open Go.RowKit Go.Joins
theorem ta_ref (v : Value) (w : World) : (Instr.typeAssert (.iface 60 v) 20 60 true).run Tryz.prog w = .ok (.tuple #[v, .bool true]) w := by kernel_rfl
theorem ta_nil (w : World) : (Instr.typeAssert .nilIface 20 60 true).run Tryz.prog w = .ok (.tuple #[.agg #[.int .i64 0], .bool false]) w := by kernel_rfl

/-- A deferred closure that begins with x := recover(). -/
theorem w_head {fn : Func} {c : Code} {id : Nat} {f : FuncId} {p p' : String} {af af' : Array Edge} {T T' : TypeId} (u : World) (H H' : Hp) (F F' : SF) (b1 : Nat) (x : Value) (m m' : FrameMode) (hf : Tryz.prog.funcs[f]? = some fn)
    (hb : fn.body = some (.seq (.region id #[⟨some 4, .call { callee := .builtin .recover, args := #[], argTypes := #[] }, T, p, af, none⟩, ⟨some 1, .assign (.tmp 4), T', p', af', none⟩] false) c))
    (hn : fn.ntmps = 18) (hr : fn.results = #[]) (w : World) (hw : Wp u H F w) (hm : (m = .panicking [{ v := x, recovered := false }] ∧ m' = .panicking [{ v := x, recovered := true }]) ∨ (m = .returning ∧ m' = .returning ∧ x = .nilIface))
    (h : WC Tryz.prog c (fun e a w => e = .normal ∧ a.defers = [] ∧ Wp u H' F' w) [(0, .pointer (some ⟨b1, 0, none⟩)), (1, x), (4, x)] 18 H F u) :
    Shuts Tryz.prog f #[.pointer (some ⟨b1, 0, none⟩)] m m' w (Wp u H' F') := by
  have key : ∀ a : Act, a.tmps = #[.pointer (some ⟨b1, 0, none⟩), x, undef, undef, x, undef, undef, undef, undef, undef, undef, undef, undef, undef, undef, undef, undef, undef] → a.defers = [] → St [(0, .pointer (some ⟨b1, 0, none⟩)), (1, x), (4, x)] 18 H F u a w := fun a h1 h2 => by
    refine ⟨⟨by rw [h1]; rfl, fun t v ht => ?_, h2⟩, hw.1, hw.2.1, hw.2.2.1, hw.2.2.2⟩
    rw [h1]
    rcases t with _ | _ | _ | _ | _ | t
    · obtain rfl := Option.some.inj (show some (Value.pointer (some ⟨b1, 0, none⟩)) = some v from ht); rfl
    · obtain rfl := Option.some.inj (show some x = some v from ht); rfl
    · exact absurd (show (none : Option Value) = some v from ht) (by simp)
    · exact absurd (show (none : Option Value) = some v from ht) (by simp)
    · obtain rfl := Option.some.inj (show some x = some v from ht); rfl
    · exact absurd (show (none : Option Value) = some v from ht) (by simp)
  rcases hm with ⟨rfl, rfl⟩ | ⟨rfl, rfl, rfl⟩
  · refine callsD_of_wpS hf hb fun c₀ fs hu => ?_
    apply wpS_seq
    apply wpS_region
    simp [wpOpsS, go_sem, recoverD, hu, hn, Exit.thenS]
    refine wpS_of_wp ?_
    refine Code.wp_mono (fun e a w' hh => ?_) (h _ _ (key _ (by simp) rfl))
    obtain ⟨rfl, h2, h3⟩ := hh
    exact ⟨h2, _, rfl, .tuple #[], by simp [results, hr], rfl, ⟨_, rfl⟩, h3⟩
  · refine callsD_of_wpS hf hb fun c₀ fs hu => ?_
    apply wpS_seq
    apply wpS_region
    simp [wpOpsS, go_sem, recoverD, hu, hn, Exit.thenS]
    refine wpS_of_wp ?_
    refine Code.wp_mono (fun e a w' hh => ?_) (h _ _ (key _ (by simp) rfl))
    obtain ⟨rfl, h2, h3⟩ := hh
    cases c₀
    simp_all [bodyPostS, results]

/-- The panic is caught. -/
theorem w_lineCatch (u : World) (Hl : Hp) (F : SF) (b1 : Nat) (v0 : Value) (n : Int) (hn : 0 ≤ n ∧ n ≤ 9) (w : World) (hw : Wp u ((b1, [v0], 9) :: Hl) F w) :
    Shuts Tryz.prog 24 #[.pointer (some ⟨b1, 0, none⟩)] (.panicking (refP n)) (.panicking [{ v := .iface 60 (.agg #[.int .i64 n]), recovered := true }]) w (Wp u ((b1, [su (sErr ++ digs n.toNat)], 9) :: Hl) F) := by
  refine w_head u ((b1, [v0], 9) :: Hl) ((b1, [su (sErr ++ digs n.toNat)], 9) :: Hl) F F b1 (.iface 60 (.agg #[.int .i64 n])) _ _ Tryz.func24 rfl rfl rfl w hw (.inl ⟨rfl, rfl⟩) ?_
  refine sR ?_
  refine pM rfl rfl ?_
  refine pP (Y.tassert (vx := .iface 60 (.agg #[.int .i64 n])) rfl (ta_ref _)) rfl ?_
  refine pM rfl rfl ?_
  refine pP (Y.extract rfl rfl) rfl ?_
  refine pP (Y.extract rfl rfl) rfl ?_
  refine WL.eff (E.alloc Tryz.zeroValue60 rfl rfl) rfl (fun b1 => ?_)
  refine WL.eff (E.store Tryz.sizeOf60 rfl rfl rfl rfl rfl u0 rfl rfl) rfl (fun _ => ?_)
  refine pA rfl rfl ?_
  refine nN ?_
  refine sR ?_
  refine pM rfl rfl ?_
  refine nN ?_
  refine WC.isT rfl (rfl) ?_
  refine WC.region ?_
  refine pP (Y.fieldAddr fa_60_0 rfl) rfl ?_
  refine pV (Y.load (v := .int .i64 n) fl_22 rfl m0 rfl) rfl ?_
  refine WL.eff (E.call Tryz.call25 rfl (fun _ w s => (by have hd := l_itoaS n.toNat (by omega) w; rw [Int.toNat_of_nonneg hn.1] at hd; exact hd)) rfl) rfl (fun _ => ?_)
  refine pP (Y.addU (a := sErr) (by have := digs_short (n := n.toNat) (by omega); have e : sErr.length = 6 := rfl; omega) rfl rfl rfl rfl) rfl ?_
  refine WL.eff (E.store Tryz.sizeOf9 rfl rfl rfl rfl rfl u1 rfl rfl) rfl (fun _ => ?_)
  refine WL.nil ?_
  exact fun a w s => ⟨rfl, s.env.defers, s.wp.sub (Hsub.of_sub (by repeat (first | exact List.Sublist.refl _ | apply List.Sublist.cons)))⟩

/-- There is nothing to catch. -/
theorem w_lineIdle (u : World) (Hl : Hp) (F : SF) (b1 : Nat) (w : World) (hw : Wp u Hl F w) :
    Shuts Tryz.prog 24 #[.pointer (some ⟨b1, 0, none⟩)] .returning .returning w (Wp u Hl F) := by
  refine w_head u Hl Hl F F b1 (.nilIface) _ _ Tryz.func24 rfl rfl rfl w hw (.inr ⟨rfl, rfl, rfl⟩) ?_
  refine sR ?_
  refine pM rfl rfl ?_
  refine pP (Y.tassert (vx := .nilIface) rfl ta_nil) rfl ?_
  refine pM rfl rfl ?_
  refine pP (Y.extract rfl rfl) rfl ?_
  refine pP (Y.extract rfl rfl) rfl ?_
  refine WL.eff (E.alloc Tryz.zeroValue60 rfl rfl) rfl (fun b1 => ?_)
  refine WL.eff (E.store Tryz.sizeOf60 rfl rfl rfl rfl rfl (by repeat (first | exact Upd.here | apply Upd.there)) rfl rfl) rfl (fun _ => ?_)
  refine pA rfl rfl ?_
  refine nN ?_
  refine sR ?_
  refine pM rfl rfl ?_
  refine nN ?_
  refine WC.isF rfl (rfl) ?_
  refine sR ?_
  refine pM rfl rfl ?_
  refine pP (Y.binK (vx := .nilIface) (v := .bool false) rfl rfl (fun w => by kernel_rfl)) rfl ?_
  refine nN ?_
  refine WC.isF rfl (rfl) ?_
  refine WC.skip' ?_
  exact fun a w s => ⟨rfl, s.env.defers, s.wp.sub (Hsub.of_sub (by repeat (first | exact List.Sublist.refl _ | apply List.Sublist.cons)))⟩
end Go.Proofs.YtapkelocligmdaaGreatDoor
end
section
set_option maxRecDepth 100000
set_option linter.unusedVariables false
set_option linter.unusedSimpArgs false
set_option linter.unusedSectionVars false
set_option maxHeartbeats 4000000
namespace Go.Proofs.YtapkelocligmdaaGreatDoor
open Go.RowKit Go.Joins
theorem show_zero {x : Wd} (h : worldErr x = 0) {l : Str} {r : Ans} (hr : showOf x l = some r) (hc : l = wCrash → (mendOf x (-1) true true true).2.2 = 0) : r.2.2 = 0 := by
  unfold showOf at hr
  split at hr
  · rename_i e
    obtain rfl := Option.some.inj hr
    exact hc e
  split at hr
  · obtain rfl := Option.some.inj hr; rfl
  split at hr
  · obtain rfl := Option.some.inj hr; rfl
  split at hr
  · obtain rfl := Option.some.inj hr
    exact take_right (world_right h).1 _
  split at hr
  · obtain rfl := Option.some.inj hr; rfl
  · cases hr
theorem step_show {x : Wd} {l : Str} {r : Ans} (hr : showOf x l = some r) (h0 : r.2.2 = 0) : stepS x l = (shA x l).2.1 ∧ stepW x l = (shA x l).1 ∧ (shA x l).2.2 = true := by
  have e : lineOf x l = r := by unfold lineOf; rw [hr]
  have e2 : shA x l = (r.1, r.2.1, true) := by unfold shA; rw [hr]
  unfold stepS stepW
  rw [e, e2, if_pos h0, if_pos h0]
  exact ⟨rfl, rfl, rfl⟩
theorem step_err {x : Wd} {l : Str} {n : Int} (h : (lineOf x l).2.2 = n) (hn : n ≠ 0) : stepS x l = sErr ++ digs n.toNat ∧ stepW x l = x := by
  unfold stepS stepW
  rw [if_neg (by rw [h]; exact hn), if_neg (by rw [h]; exact hn), h]
  exact ⟨rfl, rfl⟩
theorem step_ok {x : Wd} {l : Str} {r : Ans} (h : lineOf x l = r) (hn : r.2.2 = 0) : stepS x l = r.2.1 ∧ stepW x l = r.1 := by
  unfold stepS stepW
  rw [h, if_pos hn, if_pos hn]
  exact ⟨rfl, rfl⟩
theorem line_word {x : Wd} {l : Str} (h : showOf x l = none) (ha : (numsOf l).all (fun n => decide (0 ≤ n)) = true) : lineOf x l = doWord x (hdOf l) (numsOf l) := by
  unfold lineOf
  rw [h]
  dsimp only
  rw [if_pos ha]
theorem line_bad {x : Wd} {l : Str} (h : showOf x l = none) (ha : (numsOf l).all (fun n => decide (0 ≤ n)) = true → doWord x (hdOf l) (numsOf l) = (x, [], 1)) : (lineOf x l).2.2 = 1 := by
  unfold lineOf
  rw [h]
  dsimp only
  split
  · rename_i k
    rw [ha k]
  · rfl
theorem wN_le (k : Nat) : wN k ≤ 4 := by unfold wN; split <;> omega

theorem w_lineShow (u : World) (Hl : Hp) (G : SF) (g : Nat) (x : Wd) (A : Option Addr) (c : Nat) (l9 : Str) (w : World) (hw : Wp u ((g, x.cl A c, 39) :: Hl) ((ROW u x A c).sep G) w) (hw0 : worldErr x = 0) (hg : Gl u) (hl9 : l9.length ≤ 4096) (r : Ans) (hr : showOf x l9 = some r) : Calls Tryz.prog 12 [.pointer (some ⟨g, 0, none⟩), su l9].toArray w fun e w' => ∃ i : Option Addr × Nat, e = .returned (su (stepS x l9)) ∧ Wp u ((g, (stepW x l9).cl i.1 i.2, 39) :: Hl) ((ROW u (stepW x l9) i.1 i.2).sep G) w' := by
 refine enterD Tryz.func12 rfl Tryz.ntmps12 rfl hw ?_
 refine sR ?_
 refine WL.eff (E.alloc Tryz.zeroValue9 rfl rfl) rfl (fun b1 => ?_)
 refine nN ?_
 refine sR ?_
 refine pP (Y.makeFn rfl rfl) rfl ?_
 refine WL.defer rfl (fun i2 hds => ?_)
 refine nN ?_
 refine WC.seq ?_
 refine sR ?_
 refine pM rfl rfl ?_
 refine pM rfl rfl ?_
 refine orDie (p := l9 = wCrash → (mendOf x (-1) true true true).2.2 = 0) (fun hdie => ?_) (fun hget => ?_)
 obtain ⟨hcr, hne⟩ := Classical.not_imp.1 hdie
 refine WL.deadM (fun _ : Unit => (g, x.cl A c, 39) :: (b1, [su []], 9) :: Hl) (fun _ => (ROW u x A c).sep G) Tryz.call26 rfl (fun w hw => w_showDie u ((b1, [su []], 9) :: Hl) G g x A c l9 w (hw.sub hsw) hw0 hcr hne) (fun _ => ?_)
 refine WQ.thenPanic ?_
 refine WQ.thenPanic ?_
 obtain ⟨eS, eW⟩ := step_err (x := x) (l := l9) (n := (mendOf x (-1) true true true).2.2) (by unfold lineOf showOf; rw [if_pos hcr]; rfl) hne
 refine WQ.doorP hds Tryz.call24 (fun w2 hw => w_lineCatch u ((g, x.cl A c, 39) :: Hl) _ b1 (su []) (mendOf x (-1) true true true).2.2 (by have := mend_err hw0 (-1) true true true; omega) w2 ((hw.sub (Hsub.of_sub (by repeat (first | exact List.Sublist.refl _ | apply List.Sublist.cons)))).sub hsw)) Tryz.results12 (RVs.cons (RV.flat fl_9 rfl (by repeat (first | exact List.Mem.head _ | apply List.Mem.tail)) rfl) RVs.nil) (fun w2 hw => ?_)
 rw [eS, eW]
 exact ⟨(A, c), rfl, (hw.sub (Hsub.of_sub (by repeat (first | exact List.Sublist.refl _ | apply List.Sublist.cons)))).le (SF.le_refl _)⟩
 refine WL.eff (E.callM (fun _ : Option Addr × Nat => .tuple #[su (shA x l9).2.1, .bool (shA x l9).2.2]) (fun i => (g, (shA x l9).1.cl i.1 i.2, 39) :: (b1, [su []], 9) :: Hl) (fun i => (ROW u (shA x l9).1 i.1 i.2).sep G) Tryz.call26 rfl (fun w hw => w_showOk u ((b1, [su []], 9) :: Hl) G g x A c l9 w (hw.sub hsw) hw0 hget) rfl) rfl (fun i => ?_)
 refine pM rfl rfl ?_
 refine pP (Y.extract rfl rfl) rfl ?_
 refine pP (Y.extract rfl rfl) rfl ?_
 refine pA rfl rfl ?_
 refine pA rfl rfl ?_
 refine nN ?_
 refine sR ?_
 refine pM rfl rfl ?_
 refine nN ?_
 refine WC.isT rfl ((step_show hr (show_zero hw0 hr hget)).2.2) ?_
 refine sR ?_
 refine pM rfl rfl ?_
 refine WL.eff (E.store Tryz.sizeOf9 rfl rfl rfl rfl rfl (by repeat (first | exact Upd.here | apply Upd.there)) rfl rfl) rfl (fun _ => ?_)
 refine nN ?_
 refine WC.ret ?_
 refine WQ.thenRet ?_
 obtain ⟨eS, eW, _⟩ := step_show hr (show_zero hw0 hr hget)
 refine WQ.doorD (.inl rfl) hds Tryz.call24 (fun w2 hw => w_lineIdle u _ _ b1 w2 hw) Tryz.results12 (RVs.cons (RV.flat fl_9 rfl (by repeat (first | exact List.Mem.head _ | apply List.Mem.tail)) rfl) RVs.nil) (fun w2 hw => ?_)
 rw [eS, eW]
 exact ⟨i, rfl, hw.sub (Hsub.of_sub (by repeat (first | exact List.Sublist.refl _ | apply List.Sublist.cons_cons | apply List.Sublist.cons)))⟩

theorem w_lineNone (u : World) (Hl : Hp) (G : SF) (g : Nat) (x : Wd) (A : Option Addr) (c : Nat) (l9 : Str) (w : World) (hw : Wp u ((g, x.cl A c, 39) :: Hl) ((ROW u x A c).sep G) w) (hw0 : worldErr x = 0) (hg : Gl u) (hl9 : l9.length ≤ 4096) (hr : showOf x l9 = none) (hno : ∀ k, k < 6 → hdOf l9 ≠ wS k) : Calls Tryz.prog 12 [.pointer (some ⟨g, 0, none⟩), su l9].toArray w fun e w' => ∃ i : Option Addr × Nat, e = .returned (su (stepS x l9)) ∧ Wp u ((g, (stepW x l9).cl i.1 i.2, 39) :: Hl) ((ROW u (stepW x l9) i.1 i.2).sep G) w' := by
 refine enterD Tryz.func12 rfl Tryz.ntmps12 rfl hw ?_
 refine sR ?_
 refine WL.eff (E.alloc Tryz.zeroValue9 rfl rfl) rfl (fun b1 => ?_)
 refine nN ?_
 refine sR ?_
 refine pP (Y.makeFn rfl rfl) rfl ?_
 refine WL.defer rfl (fun i2 hds => ?_)
 refine nN ?_
 refine WC.seq ?_
 refine sR ?_
 refine pM rfl rfl ?_
 refine pM rfl rfl ?_
 refine orDie (p := l9 = wCrash → (mendOf x (-1) true true true).2.2 = 0) (fun hdie => ?_) (fun hget => ?_)
 obtain ⟨hcr, hne⟩ := Classical.not_imp.1 hdie
 refine WL.deadM (fun _ : Unit => (g, x.cl A c, 39) :: (b1, [su []], 9) :: Hl) (fun _ => (ROW u x A c).sep G) Tryz.call26 rfl (fun w hw => w_showDie u ((b1, [su []], 9) :: Hl) G g x A c l9 w (hw.sub hsw) hw0 hcr hne) (fun _ => ?_)
 refine WQ.thenPanic ?_
 refine WQ.thenPanic ?_
 obtain ⟨eS, eW⟩ := step_err (x := x) (l := l9) (n := (mendOf x (-1) true true true).2.2) (by unfold lineOf showOf; rw [if_pos hcr]; rfl) hne
 refine WQ.doorP hds Tryz.call24 (fun w2 hw => w_lineCatch u ((g, x.cl A c, 39) :: Hl) _ b1 (su []) (mendOf x (-1) true true true).2.2 (by have := mend_err hw0 (-1) true true true; omega) w2 ((hw.sub (Hsub.of_sub (by repeat (first | exact List.Sublist.refl _ | apply List.Sublist.cons)))).sub hsw)) Tryz.results12 (RVs.cons (RV.flat fl_9 rfl (by repeat (first | exact List.Mem.head _ | apply List.Mem.tail)) rfl) RVs.nil) (fun w2 hw => ?_)
 rw [eS, eW]
 exact ⟨(A, c), rfl, (hw.sub (Hsub.of_sub (by repeat (first | exact List.Sublist.refl _ | apply List.Sublist.cons)))).le (SF.le_refl _)⟩
 refine WL.eff (E.callM (fun _ : Option Addr × Nat => .tuple #[su (shA x l9).2.1, .bool (shA x l9).2.2]) (fun i => (g, (shA x l9).1.cl i.1 i.2, 39) :: (b1, [su []], 9) :: Hl) (fun i => (ROW u (shA x l9).1 i.1 i.2).sep G) Tryz.call26 rfl (fun w hw => w_showOk u ((b1, [su []], 9) :: Hl) G g x A c l9 w (hw.sub hsw) hw0 hget) rfl) rfl (fun i => ?_)
 refine pM rfl rfl ?_
 refine pP (Y.extract rfl rfl) rfl ?_
 refine pP (Y.extract rfl rfl) rfl ?_
 refine pA rfl rfl ?_
 refine pA rfl rfl ?_
 refine nN ?_
 refine sR ?_
 refine pM rfl rfl ?_
 refine nN ?_
 refine WC.isF rfl (by unfold shA; rw [hr]) ?_
 refine WC.skip' ?_
 refine WQ.next ?_
 refine WC.seq ?_
 have e9 : shA x l9 = (x, [], false) := by unfold shA; rw [hr]
 rw [e9]
 obtain ⟨A1, c1⟩ := i
 dsimp only
 refine WC.region ?_
 refine pM rfl rfl ?_
 refine WL.eff (E.callB (fun q : Nat => .slice (some ⟨q, 0, none⟩) (cutAt 32 l9).length (cutAt 32 l9).length) (fun q => (q, sus (cutAt 32 l9), 9)) Tryz.call27 rfl (fun _ w s => l_split l9 w (hg.below s.low) (by omega)) rfl) rfl (fun bs => ?_)
 refine pA rfl rfl ?_
 refine nN ?_
 refine WC.cut (ι := Nat × Nat) (fun k => [(0, .pointer (some ⟨g, 0, none⟩)), (4, .pointer (some ⟨b1, 0, none⟩)), (7, .slice (some ⟨bs, 0, none⟩) (cutAt 32 l9).length (cutAt 32 l9).length), (8, .pointer (some ⟨k.2, 0, none⟩)), (9, .bool false)]) (fun k => (k.2, [.int .i64 0, .nilFunc], 68) :: (k.1, [.pointer (some ⟨g, 0, none⟩)], 29) :: (bs, sus (cutAt 32 l9), 9) :: (g, x.cl A1 c1, 39) :: (b1, [su []], 9) :: Hl) (fun k => (ROW u x A1 c1).sep G) ?_ ?_
 refine WC.draw2 [(0, .q false), (2, .q false), (3, .q false), (4, .q true), (1, .s false), (5, .q true), (6, .q false), (7, .q false), (8, .q false), (9, .s false), (10, .s true), (11, .q false)] mixed ?_
 refine AD.quiet (i := 0) (imp := false) rfl (by kernel_rfl) (QS.pure (Y.move rfl) rfl rfl) rfl rfl rfl ?_
 refine AD.quiet (i := 2) (imp := false) rfl (by kernel_rfl) (QS.pure (Y.move rfl) rfl rfl) rfl rfl rfl ?_
 refine AD.quiet (i := 3) (imp := false) rfl (by kernel_rfl) (QS.pure (Y.ixSl Tryz.underlying64 Tryz.sizeOf9 rfl rfl (by decide) (by have := cut_pos 32 l9; omega)) rfl rfl) rfl rfl rfl ?_
 refine AD.quiet (i := 4) (imp := true) rfl (by kernel_rfl) (QS.val (Y.loadc fl_9 rfl (v := su (hdOf l9)) (fun a w s => (s.hp.cell (b := bs) (cs := sus (cutAt 32 l9)) (T := 9) (by repeat (first | exact List.Mem.head _ | apply List.Mem.tail))).trans (sus_get (hd_get l9)))) rfl rfl) rfl rfl rfl ?_
 refine AD.two (i := 1) (j := 9) (by kernel_rfl) rfl rfl (WS.free rfl (E.words g rfl rfl)) (fun _ => ext_words rfl) (WS.free rfl (E.alloc Tryz.zeroValue68 rfl rfl)) (fun _ => ext_new rfl) (fun q26 => ?_) (fun b2 => ?_)
 obtain ⟨bm, bx⟩ := q26
 dsimp only
 refine AD.list [(5, .q true), (6, .q false), (7, .q false), (8, .q false), (9, .s false), (10, .s true), (11, .q false)] (by kernel_rfl) ?_
 refine dV (Y.lookupOk (v := .tuple #[.agg #[.int .i64 0, .nilFunc], .bool false]) rfl rfl (fun a w s => s.fact.1.1) (fun w h => (run_lookup_se (wordL g bx) (hdOf l9) Tryz.underlying70 Tryz.zeroValue68 h).trans (by rw [look_none hno]; rfl))) rfl rfl ?_
 refine dP (Y.move rfl) rfl rfl ?_
 refine dP (Y.extract rfl rfl) rfl rfl ?_
 refine dP (Y.extract rfl rfl) rfl rfl ?_
 refine WDm.spec (WS.free rfl (E.alloc Tryz.zeroValue68 rfl rfl)) (fun _ => ext_new rfl) (fun b2 => ?_)
 refine WDm.spec (WS.free rfl (E.store Tryz.sizeOf68 rfl rfl rfl rfl rfl (by repeat (first | exact Upd.here | apply Upd.there)) rfl rfl)) (fun _ => sub_refl _) (fun _ => ?_)
 refine dP (Y.assign rfl) rfl rfl ?_
 refine WDm.nil (WQ.and ?_)
 · exact fun a w s => ⟨rfl, (bx, b2), ((s.le (SF.sep_snd _ _)).sub (by first | exact Hsub.refl _ | exact hsw)).weak (by repeat (first | exact sub_nil _ | refine sub_cons rfl ?_))⟩
 refine AD.list [(1, .s false), (5, .q true), (6, .q false), (7, .q false), (8, .q false), (10, .s true), (11, .q false)] (by kernel_rfl) ?_
 refine WDm.spec (WS.free rfl (E.words g rfl rfl)) (fun _ => ext_words rfl) (fun q26 => ?_)
 obtain ⟨bm, bx⟩ := q26
 dsimp only
 refine dV (Y.lookupOk (v := .tuple #[.agg #[.int .i64 0, .nilFunc], .bool false]) rfl rfl (fun a w s => s.fact.1.1) (fun w h => (run_lookup_se (wordL g bx) (hdOf l9) Tryz.underlying70 Tryz.zeroValue68 h).trans (by rw [look_none hno]; rfl))) rfl rfl ?_
 refine dP (Y.move rfl) rfl rfl ?_
 refine dP (Y.extract rfl rfl) rfl rfl ?_
 refine dP (Y.extract rfl rfl) rfl rfl ?_
 refine WDm.spec (WS.free rfl (E.store Tryz.sizeOf68 rfl rfl rfl rfl rfl (by repeat (first | exact Upd.here | apply Upd.there)) rfl rfl)) (fun _ => sub_refl _) (fun _ => ?_)
 refine dP (Y.assign rfl) rfl rfl ?_
 refine WDm.nil (WQ.and ?_)
 · exact fun a w s => ⟨rfl, (bx, b2), ((s.le (SF.sep_snd _ _)).sub (by first | exact Hsub.refl _ | exact hsw)).weak (by repeat (first | exact sub_nil _ | refine sub_cons rfl ?_))⟩
 rintro ⟨bx, b2⟩
 dsimp only
 refine sR ?_
 refine pM rfl rfl ?_
 refine pM rfl rfl ?_
 refine gF rfl ?_
 refine gF rfl ?_
 refine gF rfl ?_
 refine gF rfl ?_
 refine gF rfl ?_
 refine gF rfl ?_
 refine pP (Y.pickF rfl rfl) rfl ?_
 refine WL.dead Tryz.call29 rfl (fun _ w s => w_mustF _ rfl 1 w) ?_
 refine WQ.thenPanic ?_
 obtain ⟨eS, eW⟩ := step_err (x := x) (l := l9) (n := 1) (line_bad hr fun _ => doW_none hno) (by decide)
 refine WQ.doorP hds Tryz.call24 (fun w2 hw => w_lineCatch u ((g, x.cl A1 c1, 39) :: Hl) _ b1 (su []) 1 (by decide) w2 ((hw.sub (Hsub.of_sub (by repeat (first | exact List.Sublist.refl _ | apply List.Sublist.cons)))).sub hsw)) Tryz.results12 (RVs.cons (RV.flat fl_9 rfl (by repeat (first | exact List.Mem.head _ | apply List.Mem.tail)) rfl) RVs.nil) (fun w2 hw => ?_)
 rw [eS, eW]
 exact ⟨(A1, c1), rfl, (hw.sub (Hsub.of_sub (by repeat (first | exact List.Sublist.refl _ | apply List.Sublist.cons)))).le (SF.le_refl _)⟩

theorem w_lineWord (u : World) (Hl : Hp) (G : SF) (g : Nat) (x : Wd) (A : Option Addr) (c : Nat) (l9 : Str) (w : World) (hw : Wp u ((g, x.cl A c, 39) :: Hl) ((ROW u x A c).sep G) w) (hw0 : worldErr x = 0) (hg : Gl u) (hl9 : l9.length ≤ 4096) (hr : showOf x l9 = none) (k9 : Nat) (hk9 : k9 < 6) (hhd : hdOf l9 = wS k9) : Calls Tryz.prog 12 [.pointer (some ⟨g, 0, none⟩), su l9].toArray w fun e w' => ∃ i : Option Addr × Nat, e = .returned (su (stepS x l9)) ∧ Wp u ((g, (stepW x l9).cl i.1 i.2, 39) :: Hl) ((ROW u (stepW x l9) i.1 i.2).sep G) w' := by
 refine enterD Tryz.func12 rfl Tryz.ntmps12 rfl hw ?_
 refine sR ?_
 refine WL.eff (E.alloc Tryz.zeroValue9 rfl rfl) rfl (fun b1 => ?_)
 refine nN ?_
 refine sR ?_
 refine pP (Y.makeFn rfl rfl) rfl ?_
 refine WL.defer rfl (fun i2 hds => ?_)
 refine nN ?_
 refine WC.seq ?_
 refine sR ?_
 refine pM rfl rfl ?_
 refine pM rfl rfl ?_
 refine orDie (p := l9 = wCrash → (mendOf x (-1) true true true).2.2 = 0) (fun hdie => ?_) (fun hget => ?_)
 obtain ⟨hcr, hne⟩ := Classical.not_imp.1 hdie
 refine WL.deadM (fun _ : Unit => (g, x.cl A c, 39) :: (b1, [su []], 9) :: Hl) (fun _ => (ROW u x A c).sep G) Tryz.call26 rfl (fun w hw => w_showDie u ((b1, [su []], 9) :: Hl) G g x A c l9 w (hw.sub hsw) hw0 hcr hne) (fun _ => ?_)
 refine WQ.thenPanic ?_
 refine WQ.thenPanic ?_
 obtain ⟨eS, eW⟩ := step_err (x := x) (l := l9) (n := (mendOf x (-1) true true true).2.2) (by unfold lineOf showOf; rw [if_pos hcr]; rfl) hne
 refine WQ.doorP hds Tryz.call24 (fun w2 hw => w_lineCatch u ((g, x.cl A c, 39) :: Hl) _ b1 (su []) (mendOf x (-1) true true true).2.2 (by have := mend_err hw0 (-1) true true true; omega) w2 ((hw.sub (Hsub.of_sub (by repeat (first | exact List.Sublist.refl _ | apply List.Sublist.cons)))).sub hsw)) Tryz.results12 (RVs.cons (RV.flat fl_9 rfl (by repeat (first | exact List.Mem.head _ | apply List.Mem.tail)) rfl) RVs.nil) (fun w2 hw => ?_)
 rw [eS, eW]
 exact ⟨(A, c), rfl, (hw.sub (Hsub.of_sub (by repeat (first | exact List.Sublist.refl _ | apply List.Sublist.cons)))).le (SF.le_refl _)⟩
 refine WL.eff (E.callM (fun _ : Option Addr × Nat => .tuple #[su (shA x l9).2.1, .bool (shA x l9).2.2]) (fun i => (g, (shA x l9).1.cl i.1 i.2, 39) :: (b1, [su []], 9) :: Hl) (fun i => (ROW u (shA x l9).1 i.1 i.2).sep G) Tryz.call26 rfl (fun w hw => w_showOk u ((b1, [su []], 9) :: Hl) G g x A c l9 w (hw.sub hsw) hw0 hget) rfl) rfl (fun i => ?_)
 refine pM rfl rfl ?_
 refine pP (Y.extract rfl rfl) rfl ?_
 refine pP (Y.extract rfl rfl) rfl ?_
 refine pA rfl rfl ?_
 refine pA rfl rfl ?_
 refine nN ?_
 refine sR ?_
 refine pM rfl rfl ?_
 refine nN ?_
 refine WC.isF rfl (by unfold shA; rw [hr]) ?_
 refine WC.skip' ?_
 refine WQ.next ?_
 refine WC.seq ?_
 have e9 : shA x l9 = (x, [], false) := by unfold shA; rw [hr]
 rw [e9]
 obtain ⟨A1, c1⟩ := i
 dsimp only
 refine WC.region ?_
 refine pM rfl rfl ?_
 refine WL.eff (E.callB (fun q : Nat => .slice (some ⟨q, 0, none⟩) (cutAt 32 l9).length (cutAt 32 l9).length) (fun q => (q, sus (cutAt 32 l9), 9)) Tryz.call27 rfl (fun _ w s => l_split l9 w (hg.below s.low) (by omega)) rfl) rfl (fun bs => ?_)
 refine pA rfl rfl ?_
 refine nN ?_
 refine WC.cut (ι := Nat × Nat) (fun k => [(0, .pointer (some ⟨g, 0, none⟩)), (4, .pointer (some ⟨b1, 0, none⟩)), (7, .slice (some ⟨bs, 0, none⟩) (cutAt 32 l9).length (cutAt 32 l9).length), (8, .pointer (some ⟨k.2, 0, none⟩)), (9, .bool true)]) (fun k => (k.2, [.int .i64 (wN k9), wF g k.1 k9], 68) :: (k.1, [.pointer (some ⟨g, 0, none⟩)], 29) :: (bs, sus (cutAt 32 l9), 9) :: (g, x.cl A1 c1, 39) :: (b1, [su []], 9) :: Hl) (fun k => (ROW u x A1 c1).sep G) ?_ ?_
 refine WC.draw2 [(0, .q false), (2, .q false), (3, .q false), (4, .q true), (1, .s false), (5, .q true), (6, .q false), (7, .q false), (8, .q false), (9, .s false), (10, .s true), (11, .q false)] mixed ?_
 refine AD.quiet (i := 0) (imp := false) rfl (by kernel_rfl) (QS.pure (Y.move rfl) rfl rfl) rfl rfl rfl ?_
 refine AD.quiet (i := 2) (imp := false) rfl (by kernel_rfl) (QS.pure (Y.move rfl) rfl rfl) rfl rfl rfl ?_
 refine AD.quiet (i := 3) (imp := false) rfl (by kernel_rfl) (QS.pure (Y.ixSl Tryz.underlying64 Tryz.sizeOf9 rfl rfl (by decide) (by have := cut_pos 32 l9; omega)) rfl rfl) rfl rfl rfl ?_
 refine AD.quiet (i := 4) (imp := true) rfl (by kernel_rfl) (QS.val (Y.loadc fl_9 rfl (v := su (hdOf l9)) (fun a w s => (s.hp.cell (b := bs) (cs := sus (cutAt 32 l9)) (T := 9) (by repeat (first | exact List.Mem.head _ | apply List.Mem.tail))).trans (sus_get (hd_get l9)))) rfl rfl) rfl rfl rfl ?_
 refine AD.two (i := 1) (j := 9) (by kernel_rfl) rfl rfl (WS.free rfl (E.words g rfl rfl)) (fun _ => ext_words rfl) (WS.free rfl (E.alloc Tryz.zeroValue68 rfl rfl)) (fun _ => ext_new rfl) (fun q26 => ?_) (fun b2 => ?_)
 obtain ⟨bm, bx⟩ := q26
 dsimp only
 refine AD.list [(5, .q true), (6, .q false), (7, .q false), (8, .q false), (9, .s false), (10, .s true), (11, .q false)] (by kernel_rfl) ?_
 refine dV (Y.lookupOk (v := .tuple #[.agg #[.int .i64 (wN k9), wF g bx k9], .bool true]) rfl rfl (fun a w s => s.fact.1.1) (fun w h => (run_lookup_se (wordL g bx) (hdOf l9) Tryz.underlying70 Tryz.zeroValue68 h).trans (by rw [hhd, look_at g bx k9 hk9]; rfl))) rfl rfl ?_
 refine dP (Y.move rfl) rfl rfl ?_
 refine dP (Y.extract rfl rfl) rfl rfl ?_
 refine dP (Y.extract rfl rfl) rfl rfl ?_
 refine WDm.spec (WS.free rfl (E.alloc Tryz.zeroValue68 rfl rfl)) (fun _ => ext_new rfl) (fun b2 => ?_)
 refine WDm.spec (WS.free rfl (E.store Tryz.sizeOf68 rfl rfl rfl rfl rfl (by repeat (first | exact Upd.here | apply Upd.there)) rfl rfl)) (fun _ => sub_refl _) (fun _ => ?_)
 refine dP (Y.assign rfl) rfl rfl ?_
 refine WDm.nil (WQ.and ?_)
 · exact fun a w s => ⟨rfl, (bx, b2), ((s.le (SF.sep_snd _ _)).sub (by first | exact Hsub.refl _ | exact hsw)).weak (by repeat (first | exact sub_nil _ | refine sub_cons rfl ?_))⟩
 refine AD.list [(1, .s false), (5, .q true), (6, .q false), (7, .q false), (8, .q false), (10, .s true), (11, .q false)] (by kernel_rfl) ?_
 refine WDm.spec (WS.free rfl (E.words g rfl rfl)) (fun _ => ext_words rfl) (fun q26 => ?_)
 obtain ⟨bm, bx⟩ := q26
 dsimp only
 refine dV (Y.lookupOk (v := .tuple #[.agg #[.int .i64 (wN k9), wF g bx k9], .bool true]) rfl rfl (fun a w s => s.fact.1.1) (fun w h => (run_lookup_se (wordL g bx) (hdOf l9) Tryz.underlying70 Tryz.zeroValue68 h).trans (by rw [hhd, look_at g bx k9 hk9]; rfl))) rfl rfl ?_
 refine dP (Y.move rfl) rfl rfl ?_
 refine dP (Y.extract rfl rfl) rfl rfl ?_
 refine dP (Y.extract rfl rfl) rfl rfl ?_
 refine WDm.spec (WS.free rfl (E.store Tryz.sizeOf68 rfl rfl rfl rfl rfl (by repeat (first | exact Upd.here | apply Upd.there)) rfl rfl)) (fun _ => sub_refl _) (fun _ => ?_)
 refine dP (Y.assign rfl) rfl rfl ?_
 refine WDm.nil (WQ.and ?_)
 · exact fun a w s => ⟨rfl, (bx, b2), ((s.le (SF.sep_snd _ _)).sub (by first | exact Hsub.refl _ | exact hsw)).weak (by repeat (first | exact sub_nil _ | refine sub_cons rfl ?_))⟩
 rintro ⟨bx, b2⟩
 dsimp only
 refine sR ?_
 refine pM rfl rfl ?_
 refine pM rfl rfl ?_
 refine gT rfl ?_
 refine pM rfl rfl ?_
 refine gT rfl ?_
 refine pP (Y.len Tryz.underlying64 rfl) rfl ?_
 refine gT rfl ?_
 refine pP (Y.fieldAddr fa_68_0 rfl) rfl ?_
 refine gT rfl ?_
 refine pV (Y.load (v := .int .i64 (wN k9)) fl_3 rfl (by repeat (first | exact List.Mem.head _ | apply List.Mem.tail)) rfl) rfl ?_
 have hwn := wN_le k9
 refine gT rfl ?_
 refine pP (Y.add rfl rfl (i64_in (by omega) (by omega))) rfl ?_
 refine gT rfl ?_
 refine pP (Y.eql rfl rfl) rfl ?_
 refine pP (Y.pickT rfl rfl) rfl ?_
 refine orDie (p := (cutAt 32 l9).length = wN k9 + 1) (fun hdie => ?_) (fun hget => ?_)
 refine WL.dead Tryz.call29 rfl (fun _ w s => w_mustF _ (by simpa using (show ¬ (((cutAt 32 l9).length : Int) = (wN k9 : Int) + 1) by omega)) 1 w) ?_
 refine WQ.thenPanic ?_
 obtain ⟨eS, eW⟩ := step_err (x := x) (l := l9) (n := 1) (line_bad hr fun _ => by rw [hhd]; exact doW_off hk9 (by rw [nums_len]; have := cut_pos 32 l9; omega)) (by decide)
 refine WQ.doorP hds Tryz.call24 (fun w2 hw => w_lineCatch u ((g, x.cl A1 c1, 39) :: Hl) _ b1 (su []) 1 (by decide) w2 ((hw.sub (Hsub.of_sub (by repeat (first | exact List.Sublist.refl _ | apply List.Sublist.cons)))).sub hsw)) Tryz.results12 (RVs.cons (RV.flat fl_9 rfl (by repeat (first | exact List.Mem.head _ | apply List.Mem.tail)) rfl) RVs.nil) (fun w2 hw => ?_)
 rw [eS, eW]
 exact ⟨(A1, c1), rfl, (hw.sub (Hsub.of_sub (by repeat (first | exact List.Sublist.refl _ | apply List.Sublist.cons)))).le (SF.le_refl _)⟩
 refine WL.eff (E.call Tryz.call29 rfl (fun _ w s => w_mustT _ (by simpa using (show (((cutAt 32 l9).length : Int) = (wN k9 : Int) + 1) by omega)) 1 w) rfl) rfl (fun _ => ?_)
 have hlen : (numsOf l9).length = wN k9 := by rw [nums_len]; omega
 refine nN ?_
 refine sR ?_
 refine pA rfl rfl ?_
 refine nN ?_
 refine WC.seq ?_
 refine sR ?_
 refine pM rfl rfl ?_
 refine pP (Y.slFromN und205 (cut_pos 32 l9) (Nat.le_refl _) rfl rfl) rfl ?_
 refine pP (Y.len Tryz.underlying64 rfl) rfl ?_
 refine pM rfl rfl ?_
 refine nN ?_
 refine WC.block ?_
 refine WC.le (nil_sepU u.heap.size 3 1 _) ?_
 refine WC.loop (ι := Nat × Option Addr × Nat) (fun k => [(4, .pointer (some ⟨b1, 0, none⟩)), (8, .pointer (some ⟨b2, 0, none⟩)), (10, .slice k.2.1 ((numsOf l9).take k.1).length k.2.2), (44, .slice (if (cutAt 32 l9).length = 1 then some (⟨bs, 0, none⟩ : Addr) else some (⟨bs, 0 + 1, none⟩ : Addr)) ((cutAt 32 l9).length - 1) ((cutAt 32 l9).length - 1)), (45, .int .i64 (((cutAt 32 l9).length - 1 : Nat) : Int)), (46, .int .i64 k.1)]) (fun _ => (b2, [.int .i64 (wN k9), wF g bx k9], 68) :: (bx, [.pointer (some ⟨g, 0, none⟩)], 29) :: (bs, sus (cutAt 32 l9), 9) :: (g, x.cl A1 c1, 39) :: (b1, [su []], 9) :: Hl) (fun k => (SF.own u.heap.size 3 1 (.slice k.2.1 ((numsOf l9).take k.1).length k.2.2) ((numsOf l9).take k.1).length (ints ((numsOf l9).take k.1))).sep ((ROW u x A1 c1).sep G)) (fun k => k.1 ≤ (cutAt 32 l9).length - 1 ∧ ((numsOf l9).take k.1).all (fun n => decide (0 ≤ n)) = true) (fun k => (cutAt 32 l9).length - 1 - k.1) (0, none, 0) ⟨Nat.zero_le _, rfl⟩ (fun a w s => s.weak (by repeat (first | exact sub_nil _ | refine sub_cons rfl ?_))) (fun k hk => ?_)
 obtain ⟨m, A2, c2⟩ := k
 obtain ⟨hm1, hall⟩ := hk
 dsimp only at hm1 hall ⊢
 refine sR ?_
 refine pP (Y.lss rfl rfl) rfl ?_
 refine nN ?_
 refine WC.seq ?_
 refine WC.cond rfl (fun h47 => ?_) (fun h47 => ?_)
 refine WC.skip' ?_
 refine WQ.next ?_
 refine WC.seq ?_
 refine WC.block ?_
 refine WC.seq ?_
 have hm2 : m < (cutAt 32 l9).length - 1 := by have hh := h47; simp at hh; omega
 obtain ⟨z, hx⟩ := get_of_lt (l := cutAt 32 l9) (k := m + 1) (by omega)
 have hzl : z.length ≤ 1000000 := by have := cut_mem 32 l9 z (List.mem_of_getElem? hx); omega
 have hcl := cutAt_len 32 l9
 have htl : ((numsOf l9).take m).length = m := by rw [List.length_take, nums_len]; omega
 have hA44 : (if (cutAt 32 l9).length = 1 then some (⟨bs, 0, none⟩ : Addr) else some (⟨bs, 0 + 1, none⟩ : Addr)) = some ⟨bs, 0 + 1, none⟩ := if_neg (by omega)
 refine WC.region ?_
 refine pP (Y.ixSlA (A := (if (cutAt 32 l9).length = 1 then some (⟨bs, 0, none⟩ : Addr) else some (⟨bs, 0 + 1, none⟩ : Addr))) (b := bs) (o := 0 + 1) Tryz.underlying64 Tryz.sizeOf9 rfl rfl hA44 (nat0 _) (by omega)) rfl ?_
 refine pV (Y.loadc fl_9 rfl (v := su z) (fun a w s => by rw [s.hp.cell (b := bs) (cs := sus (cutAt 32 l9)) (T := 9) (by repeat (first | exact List.Mem.head _ | apply List.Mem.tail))]; have := sus_get hx; simpa [Nat.add_comm] using this)) rfl ?_
 refine pA rfl rfl ?_
 refine nN ?_
 refine WC.region ?_
 refine pM rfl rfl ?_
 refine pM rfl rfl ?_
 refine orDie (p := 0 ≤ numOf z) (fun hdie => ?_) (fun hget => ?_)
 refine WL.dead Tryz.call30 rfl (fun _ w s => w_deskNumDie z w (hg.below s.low) hzl hdie) ?_
 refine WQ.blockPanic ?_
 refine WQ.thenPanic ?_
 refine WQ.thenPanic ?_
 refine WQ.blockPanic ?_
 refine WQ.thenPanic ?_
 obtain ⟨eS, eW⟩ := step_err (x := x) (l := l9) (n := 1) (line_bad hr fun h => by rw [nums_bad (nums_step hx) hdie] at h; cases h) (by decide)
 refine WQ.doorP hds Tryz.call24 (fun w2 hw => w_lineCatch u ((g, x.cl A1 c1, 39) :: Hl) _ b1 (su []) 1 (by decide) w2 ((hw.sub (Hsub.of_sub (by repeat (first | exact List.Sublist.refl _ | apply List.Sublist.cons)))).sub hsw)) Tryz.results12 (RVs.cons (RV.flat fl_9 rfl (by repeat (first | exact List.Mem.head _ | apply List.Mem.tail)) rfl) RVs.nil) (fun w2 hw => ?_)
 rw [eS, eW]
 exact ⟨(A1, c1), rfl, (hw.sub (Hsub.of_sub (by repeat (first | exact List.Sublist.refl _ | apply List.Sublist.cons)))).le (SF.sep_snd _ _)⟩
 refine WL.eff (E.call Tryz.call30 rfl (fun _ w s => w_deskNum z w (hg.below s.low) hzl hget) rfl) rfl (fun _ => ?_)
 have hget2 := hget
 refine WL.eff (E.buildSlice (bs_73_1 _) rfl rfl) rfl (fun b3 => ?_)
 refine WL.eff (E.appN [numOf z] rfl rfl rfl m0 (by simp; omega) rfl) rfl (fun q => ?_)
 refine pA rfl rfl ?_
 refine WL.nil ?_
 refine WQ.blockEnd ?_
 refine WQ.next ?_
 refine WC.region ?_
 refine pP (Y.add rfl rfl (i64_in (by omega) (by omega))) rfl ?_
 refine pM rfl rfl ?_
 refine WL.nil ?_
 · refine fun a2 w2 s => ⟨(m + 1, q), ⟨by show m + 1 ≤ _; omega, nums_all _ _ _ (nums_step hx) hall hget2⟩, by show _ - 1 - (m + 1) < _ - 1 - m; omega, ?_⟩
   show St [(4, .pointer (some ⟨b1, 0, none⟩)), (8, .pointer (some ⟨b2, 0, none⟩)), (10, .slice q.1 ((numsOf l9).take (m + 1)).length q.2), (44, .slice (if (cutAt 32 l9).length = 1 then some (⟨bs, 0, none⟩ : Addr) else some (⟨bs, 0 + 1, none⟩ : Addr)) ((cutAt 32 l9).length - 1) ((cutAt 32 l9).length - 1)), (45, .int .i64 (((cutAt 32 l9).length - 1 : Nat) : Int)), (46, .int .i64 ((m + 1 : Nat) : Int))] _ _ ((SF.own u.heap.size 3 1 (.slice q.1 ((numsOf l9).take (m + 1)).length q.2) ((numsOf l9).take (m + 1)).length (ints ((numsOf l9).take (m + 1)))).sep _) _ _ _
   rw [nums_step hx]
   exact (s.sub (Hsub.of_sub (by repeat (first | exact List.Sublist.refl _ | apply List.Sublist.cons)))).weak (by repeat (first | exact sub_nil _ | refine sub_cons rfl ?_))
 refine WC.exit ?_
 refine WQ.thenExit ?_
 refine WQ.thenExit ?_
 refine WQ.blockExit ?_
 refine WQ.next ?_
 refine WC.seq ?_
 have hmE : m = (cutAt 32 l9).length - 1 := by have hh := h47; simp at hh; omega
 have htl : (numsOf l9).take m = numsOf l9 := List.take_of_length_le (by rw [nums_len]; omega)
 rw [htl] at hall ⊢
 refine WC.region ?_
 refine pP (Y.fieldAddr fa_68_1 rfl) rfl ?_
 refine pV (Y.load (v := wF g bx k9) fl_66 rfl (by repeat (first | exact List.Mem.head _ | apply List.Mem.tail)) rfl) rfl ?_
 refine pM rfl rfl ?_
 refine WL.le (SF.sep_rot _ _ _) ?_
 refine orDie (p := (doWord x (wS k9) (numsOf l9)).2.2 = 0) (fun hdie => ?_) (fun hget => ?_)
 refine WL.deadMC (fun _ : Unit => (g, x.cl A1 c1, 39) :: (b1, [su []], 9) :: Hl) (fun _ => (ROW u x A1 c1).sep ((SF.own u.heap.size 3 1 (.slice A2 (numsOf l9).length c2) (numsOf l9).length (ints (numsOf l9))).sep G)) (wFn_ef k9 hk9) rfl rfl (fun w hw => w_doDie u ((b1, [su []], 9) :: Hl) ((SF.own u.heap.size 3 1 (.slice A2 (numsOf l9).length c2) (numsOf l9).length (ints (numsOf l9))).sep G) g bx x A1 c1 (numsOf l9) A2 (gOf A2) c2 k9 hk9 w (hw.sub (Hsub.of_sub (by repeat (first | exact List.Sublist.refl _ | apply List.Sublist.cons_cons | apply List.Sublist.cons)))) hlen (fun w hG => own_IL rfl hG.1) hw0 hdie) (fun _ => ?_)
 refine WQ.thenPanic ?_
 obtain ⟨eS, eW⟩ := step_err (x := x) (l := l9) (n := (doWord x (wS k9) (numsOf l9)).2.2) (by rw [line_word hr hall, hhd]) hdie
 refine WQ.doorP hds Tryz.call24 (fun w2 hw => w_lineCatch u ((g, x.cl A1 c1, 39) :: Hl) _ b1 (su []) (doWord x (wS k9) (numsOf l9)).2.2 (by have hf := word_fine hw0 (wS k9) (numsOf l9); exact ⟨hf.lo, hf.hi⟩) w2 ((hw.sub (Hsub.of_sub (by repeat (first | exact List.Sublist.refl _ | apply List.Sublist.cons)))).sub hsw)) Tryz.results12 (RVs.cons (RV.flat fl_9 rfl (by repeat (first | exact List.Mem.head _ | apply List.Mem.tail)) rfl) RVs.nil) (fun w2 hw => ?_)
 rw [eS, eW]
 exact ⟨(A1, c1), rfl, (hw.sub (Hsub.of_sub (by repeat (first | exact List.Sublist.refl _ | apply List.Sublist.cons)))).le (SF.sep_mono (SF.le_refl _) (SF.sep_snd _ _))⟩
 refine WL.eff (E.callMC (fun _ : Option Addr × Nat => su (doWord x (wS k9) (numsOf l9)).2.1) _ _ (wFn_ef k9 hk9) rfl rfl (fun w hw => w_doOk u ((b1, [su []], 9) :: Hl) ((SF.own u.heap.size 3 1 (.slice A2 (numsOf l9).length c2) (numsOf l9).length (ints (numsOf l9))).sep G) g bx x A1 c1 (numsOf l9) A2 (gOf A2) c2 k9 hk9 w (hw.sub (Hsub.of_sub (by repeat (first | exact List.Sublist.refl _ | apply List.Sublist.cons_cons | apply List.Sublist.cons)))) hlen (fun w hG => own_IL rfl hG.1) hw0 hget) rfl) rfl (fun j => ?_)
 refine WL.eff (E.store Tryz.sizeOf9 rfl rfl rfl rfl rfl (by repeat (first | exact Upd.here | apply Upd.there)) rfl rfl) rfl (fun _ => ?_)
 refine nN ?_
 refine WC.ret ?_
 obtain ⟨eS, eW⟩ := step_ok (x := x) (l := l9) (r := (doWord x (wS k9) (numsOf l9))) (by rw [line_word hr hall, hhd]) hget
 refine WQ.doorD (.inl rfl) hds Tryz.call24 (fun w2 hw => w_lineIdle u _ _ b1 w2 hw) Tryz.results12 (RVs.cons (RV.flat fl_9 rfl (by repeat (first | exact List.Mem.head _ | apply List.Mem.tail)) rfl) RVs.nil) (fun w2 hw => ?_)
 rw [eS, eW]
 exact ⟨j, rfl, (hw.sub (Hsub.of_sub (by repeat (first | exact List.Sublist.refl _ | apply List.Sublist.cons_cons | apply List.Sublist.cons)))).le (SF.sep_mono (SF.le_refl _) (SF.sep_snd _ _))⟩

theorem w_line (u : World) (Hl : Hp) (G : SF) (g : Nat) (x : Wd) (A : Option Addr) (c : Nat) (l9 : Str) (w : World) (hw : Wp u ((g, x.cl A c, 39) :: Hl) ((ROW u x A c).sep G) w) (hw0 : worldErr x = 0) (hg : Gl u) (hl9 : l9.length ≤ 4096) : Calls Tryz.prog 12 [.pointer (some ⟨g, 0, none⟩), su l9].toArray w fun e w' => ∃ i : Option Addr × Nat, e = .returned (su (stepS x l9)) ∧ Wp u ((g, (stepW x l9).cl i.1 i.2, 39) :: Hl) ((ROW u (stepW x l9) i.1 i.2).sep G) w' := by
  cases hr : showOf x l9 with
  | some r => exact w_lineShow u Hl G g x A c l9 w hw hw0 hg hl9 r hr
  | none =>
    rcases word_or (hdOf l9) with ⟨k, hk, h⟩ | h
    · exact w_lineWord u Hl G g x A c l9 w hw hw0 hg hl9 hr k hk h
    · exact w_lineNone u Hl G g x A c l9 w hw hw0 hg hl9 hr h
end Go.Proofs.YtapkelocligmdaaGreatDoor
end
