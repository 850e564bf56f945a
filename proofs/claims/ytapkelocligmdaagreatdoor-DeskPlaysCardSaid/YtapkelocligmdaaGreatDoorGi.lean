/- Scripts: what the words do. No condition. -/
import Derived.Test.YtapkelocligmdaaGreatDoorGh
set_option maxRecDepth 100000
set_option linter.unusedVariables false
set_option linter.unusedSimpArgs false
set_option linter.unusedSectionVars false
set_option maxHeartbeats 4000000
namespace Go.Proofs.YtapkelocligmdaaGreatDoor
open Go.RowKit Go.Joins
theorem hsw {x y : Nat × List Value × TypeId} {l : Hp} : Hsub (y :: x :: l) (x :: y :: l) := Hsub.of_perm (List.Perm.swap ..)

theorem w_word1Ok (u : World) (Hl : Hp) (G : SF) (g bx : Nat) (x : Wd) (A : Option Addr) (c : Nat) (ns : List Int) (A2 : Option Addr) (b2 c2 : Nat) (w : World) (hw : Wp u ((bx, [.pointer (some ⟨g, 0, none⟩)], 29) :: (g, x.cl A c, 39) :: Hl) ((ROW u x A c).sep G) w) (hn : ns.length = 4) (hil : ∀ w, G.p w → IL w A2 b2 ns) (h0 : (writeTo x (nth0 ns 0) (nth0 ns 1) (nth0 ns 2) (nth0 ns 3)).2 = 0) : Calls Tryz.prog 56 [.slice A2 ns.length c2, .pointer (some ⟨bx, 0, none⟩)].toArray w fun e w' => ∃ i : Option Addr × Nat, e = .returned (su sOk) ∧ Wp u ((g, (writeTo x (nth0 ns 0) (nth0 ns 1) (nth0 ns 2) (nth0 ns 3)).1.cl i.1 i.2, 39) :: (bx, [.pointer (some ⟨g, 0, none⟩)], 29) :: Hl) ((ROW u (writeTo x (nth0 ns 0) (nth0 ns 1) (nth0 ns 2) (nth0 ns 3)).1 i.1 i.2).sep G) w' := by
 have hA2 := (hil w hw.2.1.2.1).addr (nth0_get (l := ns) (k := 0) (by omega))
 refine enterW Tryz.func56 rfl Tryz.ntmps56 rfl hw ?_
 refine sR ?_
 refine pA rfl rfl ?_
 refine nN ?_
 refine WC.seq ?_
 refine WC.drop [3] ?_
 refine WC.draw [(0, .q true), (1, .q true), (2, .q false), (3, .q false), (4, .q true), (5, .q false), (6, .q false), (7, .q true), (8, .q false), (9, .q false), (10, .q true), (11, .q false), (12, .q false), (13, .q true), (14, .q false), (15, .q false), (16, .q true), (17, .s false), (18, .q false), (19, .q false), (20, .s true), (21, .q false)] mixed (by kernel_rfl) ?_
 refine dV (Y.load (v := .pointer (some ⟨g, 0, none⟩)) fl_29 rfl m0 rfl) rfl rfl ?_
 refine dV (Y.load (v := .pointer (some ⟨g, 0, none⟩)) fl_29 rfl m0 rfl) rfl rfl ?_
 refine dP (Y.nilCheck rfl) rfl rfl ?_
 refine dP (Y.fieldAddr fa_39_0 rfl) rfl rfl ?_
 refine dV (Y.loadAN wd_36 rfl (by repeat (first | exact List.Mem.head _ | apply List.Mem.tail)) (r := x.cl A c) rfl) rfl rfl ?_
 refine dP (Y.move rfl) rfl rfl ?_
 refine dP (Y.ixSlA (A := A2) (b := b2) (o := 0) Tryz.underlying73 Tryz.sizeOf3 rfl rfl hA2 (by decide) (by omega)) rfl rfl ?_
 refine dV (Y.loadc fl_3 rfl (v := .int .i64 (nth0 ns 0)) (fun a w s => by have := (hil w s.fact.2.1).cell 0 _ (nth0_get (by omega)); simpa using this)) rfl rfl ?_
 refine dP (Y.move rfl) rfl rfl ?_
 refine dP (Y.ixSlA (A := A2) (b := b2) (o := 0) Tryz.underlying73 Tryz.sizeOf3 rfl rfl hA2 (by decide) (by omega)) rfl rfl ?_
 refine dV (Y.loadc fl_3 rfl (v := .int .i64 (nth0 ns 1)) (fun a w s => by have := (hil w s.fact.2.1).cell 1 _ (nth0_get (by omega)); simpa using this)) rfl rfl ?_
 refine dP (Y.move rfl) rfl rfl ?_
 refine dP (Y.ixSlA (A := A2) (b := b2) (o := 0) Tryz.underlying73 Tryz.sizeOf3 rfl rfl hA2 (by decide) (by omega)) rfl rfl ?_
 refine dV (Y.loadc fl_3 rfl (v := .int .i64 (nth0 ns 2)) (fun a w s => by have := (hil w s.fact.2.1).cell 2 _ (nth0_get (by omega)); simpa using this)) rfl rfl ?_
 refine dP (Y.move rfl) rfl rfl ?_
 refine dP (Y.ixSlA (A := A2) (b := b2) (o := 0) Tryz.underlying73 Tryz.sizeOf3 rfl rfl hA2 (by decide) (by omega)) rfl rfl ?_
 refine dV (Y.loadc fl_3 rfl (v := .int .i64 (nth0 ns 3)) (fun a w s => by have := (hil w s.fact.2.1).cell 3 _ (nth0_get (by omega)); simpa using this)) rfl rfl ?_
 refine WDm.spec (WS.free rfl (E.retW ((writeTo x (nth0 ns 0) (nth0 ns 1) (nth0 ns 2) (nth0 ns 3)).1) [.int .i64 (writeTo x (nth0 ns 0) (nth0 ns 1) (nth0 ns 2) (nth0 ns 3)).2] Tryz.call57 rfl (fun _ w s => w_workWrite x A (gOf A) 0 c (nth0 ns 0) (nth0 ns 1) (nth0 ns 2) (nth0 ns 3) w (own_max s.fact.1) (own_le s.fact.1) (own_RL s.fact.1)) rfl)) (fun _ => ext_newN rfl) (fun i => ?_)
 refine dP (Y.extract rfl rfl) rfl rfl ?_
 refine dP (Y.extract rfl rfl) rfl rfl ?_
 refine WDm.spec (WS.free rfl (E.turn (Hl := (bx, [.pointer (some ⟨g, 0, none⟩)], 29) :: Hl) x A c (writeTo x (nth0 ns 0) (nth0 ns 1) (nth0 ns 2) (nth0 ns 3)).1 i.1 i.2 _ h0 hsw rfl rfl)) (fun _ => sub_push rfl) (fun _ => ?_)
 refine dP (Y.assign rfl) rfl rfl ?_
 refine WDm.nil (WQ.and ?_)
 refine WQ.next ?_
 refine WC.ret ?_
 refine dn1 Tryz.results56 rfl (fun a w s => ?_)
 · exact ⟨i, rfl, s.wp.le (SF.sep_mono (SF.le_refl _) (SF.sep_snd _ _))⟩

theorem w_word1Die (u : World) (Hl : Hp) (G : SF) (g bx : Nat) (x : Wd) (A : Option Addr) (c : Nat) (ns : List Int) (A2 : Option Addr) (b2 c2 : Nat) (w : World) (hw : Wp u ((bx, [.pointer (some ⟨g, 0, none⟩)], 29) :: (g, x.cl A c, 39) :: Hl) ((ROW u x A c).sep G) w) (hn : ns.length = 4) (hil : ∀ w, G.p w → IL w A2 b2 ns) (h0 : (writeTo x (nth0 ns 0) (nth0 ns 1) (nth0 ns 2) (nth0 ns 3)).2 ≠ 0) : Calls Tryz.prog 56 [.slice A2 ns.length c2, .pointer (some ⟨bx, 0, none⟩)].toArray w fun e w' => ∃ i : Unit, e = .panicked (refP (writeTo x (nth0 ns 0) (nth0 ns 1) (nth0 ns 2) (nth0 ns 3)).2) ∧ Wp u ((g, x.cl A c, 39) :: Hl) ((ROW u x A c).sep G) w' := by
 have hA2 := (hil w hw.2.1.2.1).addr (nth0_get (l := ns) (k := 0) (by omega))
 refine enterW Tryz.func56 rfl Tryz.ntmps56 rfl hw ?_
 refine sR ?_
 refine pA rfl rfl ?_
 refine nN ?_
 refine WC.seq ?_
 refine WC.drop [3] ?_
 refine Dd.WC.draw [(0, .q true), (1, .q true), (2, .q false), (3, .q false), (4, .q true), (5, .q false), (6, .q false), (7, .q true), (8, .q false), (9, .q false), (10, .q true), (11, .q false), (12, .q false), (13, .q true), (14, .q false), (15, .q false), (16, .q true), (17, .s false), (18, .q false), (19, .q false), (20, .s false), (21, .q false)] (fun _ _ _ d _ h => by cases d <;> exact h) mixed (by kernel_rfl) ?_
 refine Dd.WDm.quiet (QS.val (Y.load (v := .pointer (some ⟨g, 0, none⟩)) fl_29 rfl m0 rfl) rfl rfl) rfl rfl rfl ?_
 refine Dd.WDm.quiet (QS.val (Y.load (v := .pointer (some ⟨g, 0, none⟩)) fl_29 rfl m0 rfl) rfl rfl) rfl rfl rfl ?_
 refine Dd.WDm.quiet (QS.pure (Y.nilCheck rfl) rfl rfl) rfl rfl rfl ?_
 refine Dd.WDm.quiet (QS.pure (Y.fieldAddr fa_39_0 rfl) rfl rfl) rfl rfl rfl ?_
 refine Dd.WDm.quiet (QS.val (Y.loadAN wd_36 rfl (by repeat (first | exact List.Mem.head _ | apply List.Mem.tail)) (r := x.cl A c) rfl) rfl rfl) rfl rfl rfl ?_
 refine Dd.WDm.quiet (QS.pure (Y.move rfl) rfl rfl) rfl rfl rfl ?_
 refine Dd.WDm.quiet (QS.pure (Y.ixSlA (A := A2) (b := b2) (o := 0) Tryz.underlying73 Tryz.sizeOf3 rfl rfl hA2 (by decide) (by omega)) rfl rfl) rfl rfl rfl ?_
 refine Dd.WDm.quiet (QS.val (Y.loadc fl_3 rfl (v := .int .i64 (nth0 ns 0)) (fun a w s => by have := (hil w s.fact.2.1).cell 0 _ (nth0_get (by omega)); simpa using this)) rfl rfl) rfl rfl rfl ?_
 refine Dd.WDm.quiet (QS.pure (Y.move rfl) rfl rfl) rfl rfl rfl ?_
 refine Dd.WDm.quiet (QS.pure (Y.ixSlA (A := A2) (b := b2) (o := 0) Tryz.underlying73 Tryz.sizeOf3 rfl rfl hA2 (by decide) (by omega)) rfl rfl) rfl rfl rfl ?_
 refine Dd.WDm.quiet (QS.val (Y.loadc fl_3 rfl (v := .int .i64 (nth0 ns 1)) (fun a w s => by have := (hil w s.fact.2.1).cell 1 _ (nth0_get (by omega)); simpa using this)) rfl rfl) rfl rfl rfl ?_
 refine Dd.WDm.quiet (QS.pure (Y.move rfl) rfl rfl) rfl rfl rfl ?_
 refine Dd.WDm.quiet (QS.pure (Y.ixSlA (A := A2) (b := b2) (o := 0) Tryz.underlying73 Tryz.sizeOf3 rfl rfl hA2 (by decide) (by omega)) rfl rfl) rfl rfl rfl ?_
 refine Dd.WDm.quiet (QS.val (Y.loadc fl_3 rfl (v := .int .i64 (nth0 ns 2)) (fun a w s => by have := (hil w s.fact.2.1).cell 2 _ (nth0_get (by omega)); simpa using this)) rfl rfl) rfl rfl rfl ?_
 refine Dd.WDm.quiet (QS.pure (Y.move rfl) rfl rfl) rfl rfl rfl ?_
 refine Dd.WDm.quiet (QS.pure (Y.ixSlA (A := A2) (b := b2) (o := 0) Tryz.underlying73 Tryz.sizeOf3 rfl rfl hA2 (by decide) (by omega)) rfl rfl) rfl rfl rfl ?_
 refine Dd.WDm.quiet (QS.val (Y.loadc fl_3 rfl (v := .int .i64 (nth0 ns 3)) (fun a w s => by have := (hil w s.fact.2.1).cell 3 _ (nth0_get (by omega)); simpa using this)) rfl rfl) rfl rfl rfl ?_
 refine Dd.WDm.spec (WS.free rfl (E.retW ((writeTo x (nth0 ns 0) (nth0 ns 1) (nth0 ns 2) (nth0 ns 3)).1) [.int .i64 (writeTo x (nth0 ns 0) (nth0 ns 1) (nth0 ns 2) (nth0 ns 3)).2] Tryz.call57 rfl (fun _ w s => w_workWrite x A (gOf A) 0 c (nth0 ns 0) (nth0 ns 1) (nth0 ns 2) (nth0 ns 3) w (own_max s.fact.1) (own_le s.fact.1) (own_RL s.fact.1)) rfl)) (fun _ => ext_newN rfl) (fun i => ?_)
 refine Dd.WDm.quiet (QS.pure (Y.extract rfl rfl) rfl rfl) rfl rfl rfl ?_
 refine Dd.WDm.quiet (QS.pure (Y.extract rfl rfl) rfl rfl) rfl rfl rfl ?_
 refine Dd.WDm.deadCall Tryz.call50 rfl (fun _ w s => w_turnDie _ (writeTo x (nth0 ns 0) (nth0 ns 1) (nth0 ns 2) (nth0 ns 3)).1 i.1 i.2 _ h0 w) ?_
 refine WQ.thenPanic ?_
 exact WQ.raised rfl (fun w2 hw => ⟨(), rfl, (hw.sub (Hsub.of_sub (by repeat (first | exact List.Sublist.refl _ | apply List.Sublist.cons)))).le (SF.sep_snd _ _)⟩)

theorem w_word2Ok (u : World) (Hl : Hp) (G : SF) (g bx : Nat) (x : Wd) (A : Option Addr) (c : Nat) (ns : List Int) (A2 : Option Addr) (b2 c2 : Nat) (w : World) (hw : Wp u ((bx, [.pointer (some ⟨g, 0, none⟩)], 29) :: (g, x.cl A c, 39) :: Hl) ((ROW u x A c).sep G) w) (hn : ns.length = 1) (hil : ∀ w, G.p w → IL w A2 b2 ns) (h0 : (commitOf x (nth0 ns 0)).2 = 0) : Calls Tryz.prog 58 [.slice A2 ns.length c2, .pointer (some ⟨bx, 0, none⟩)].toArray w fun e w' => ∃ i : Option Addr × Nat, e = .returned (su sOk) ∧ Wp u ((g, (commitOf x (nth0 ns 0)).1.cl i.1 i.2, 39) :: (bx, [.pointer (some ⟨g, 0, none⟩)], 29) :: Hl) ((ROW u (commitOf x (nth0 ns 0)).1 i.1 i.2).sep G) w' := by
 have hA2 := (hil w hw.2.1.2.1).addr (nth0_get (l := ns) (k := 0) (by omega))
 refine enterW Tryz.func58 rfl Tryz.ntmps58 rfl hw ?_
 refine sR ?_
 refine pA rfl rfl ?_
 refine nN ?_
 refine WC.seq ?_
 refine WC.drop [3] ?_
 refine WC.draw [(0, .q true), (1, .q true), (2, .q false), (3, .q false), (4, .q true), (5, .q false), (6, .q false), (7, .q true), (8, .s false), (9, .q false), (10, .q false), (11, .s true), (12, .q false)] mixed (by kernel_rfl) ?_
 refine dV (Y.load (v := .pointer (some ⟨g, 0, none⟩)) fl_29 rfl m0 rfl) rfl rfl ?_
 refine dV (Y.load (v := .pointer (some ⟨g, 0, none⟩)) fl_29 rfl m0 rfl) rfl rfl ?_
 refine dP (Y.nilCheck rfl) rfl rfl ?_
 refine dP (Y.fieldAddr fa_39_0 rfl) rfl rfl ?_
 refine dV (Y.loadAN wd_36 rfl (by repeat (first | exact List.Mem.head _ | apply List.Mem.tail)) (r := x.cl A c) rfl) rfl rfl ?_
 refine dP (Y.move rfl) rfl rfl ?_
 refine dP (Y.ixSlA (A := A2) (b := b2) (o := 0) Tryz.underlying73 Tryz.sizeOf3 rfl rfl hA2 (by decide) (by omega)) rfl rfl ?_
 refine dV (Y.loadc fl_3 rfl (v := .int .i64 (nth0 ns 0)) (fun a w s => by have := (hil w s.fact.2.1).cell 0 _ (nth0_get (by omega)); simpa using this)) rfl rfl ?_
 refine WDm.spec (WS.free rfl (E.retW ((commitOf x (nth0 ns 0)).1) [.int .i64 (commitOf x (nth0 ns 0)).2] Tryz.call59 rfl (fun _ w s => w_workCommit x A (gOf A) 0 c (nth0 ns 0) w (own_max s.fact.1) (own_le s.fact.1) (own_RL s.fact.1)) rfl)) (fun _ => ext_newN rfl) (fun i => ?_)
 refine dP (Y.extract rfl rfl) rfl rfl ?_
 refine dP (Y.extract rfl rfl) rfl rfl ?_
 refine WDm.spec (WS.free rfl (E.turn (Hl := (bx, [.pointer (some ⟨g, 0, none⟩)], 29) :: Hl) x A c (commitOf x (nth0 ns 0)).1 i.1 i.2 _ h0 hsw rfl rfl)) (fun _ => sub_push rfl) (fun _ => ?_)
 refine dP (Y.assign rfl) rfl rfl ?_
 refine WDm.nil (WQ.and ?_)
 refine WQ.next ?_
 refine WC.ret ?_
 refine dn1 Tryz.results58 rfl (fun a w s => ?_)
 · exact ⟨i, rfl, s.wp.le (SF.sep_mono (SF.le_refl _) (SF.sep_snd _ _))⟩

theorem w_word2Die (u : World) (Hl : Hp) (G : SF) (g bx : Nat) (x : Wd) (A : Option Addr) (c : Nat) (ns : List Int) (A2 : Option Addr) (b2 c2 : Nat) (w : World) (hw : Wp u ((bx, [.pointer (some ⟨g, 0, none⟩)], 29) :: (g, x.cl A c, 39) :: Hl) ((ROW u x A c).sep G) w) (hn : ns.length = 1) (hil : ∀ w, G.p w → IL w A2 b2 ns) (h0 : (commitOf x (nth0 ns 0)).2 ≠ 0) : Calls Tryz.prog 58 [.slice A2 ns.length c2, .pointer (some ⟨bx, 0, none⟩)].toArray w fun e w' => ∃ i : Unit, e = .panicked (refP (commitOf x (nth0 ns 0)).2) ∧ Wp u ((g, x.cl A c, 39) :: Hl) ((ROW u x A c).sep G) w' := by
 have hA2 := (hil w hw.2.1.2.1).addr (nth0_get (l := ns) (k := 0) (by omega))
 refine enterW Tryz.func58 rfl Tryz.ntmps58 rfl hw ?_
 refine sR ?_
 refine pA rfl rfl ?_
 refine nN ?_
 refine WC.seq ?_
 refine WC.drop [3] ?_
 refine Dd.WC.draw [(0, .q true), (1, .q true), (2, .q false), (3, .q false), (4, .q true), (5, .q false), (6, .q false), (7, .q true), (8, .s false), (9, .q false), (10, .q false), (11, .s false), (12, .q false)] (fun _ _ _ d _ h => by cases d <;> exact h) mixed (by kernel_rfl) ?_
 refine Dd.WDm.quiet (QS.val (Y.load (v := .pointer (some ⟨g, 0, none⟩)) fl_29 rfl m0 rfl) rfl rfl) rfl rfl rfl ?_
 refine Dd.WDm.quiet (QS.val (Y.load (v := .pointer (some ⟨g, 0, none⟩)) fl_29 rfl m0 rfl) rfl rfl) rfl rfl rfl ?_
 refine Dd.WDm.quiet (QS.pure (Y.nilCheck rfl) rfl rfl) rfl rfl rfl ?_
 refine Dd.WDm.quiet (QS.pure (Y.fieldAddr fa_39_0 rfl) rfl rfl) rfl rfl rfl ?_
 refine Dd.WDm.quiet (QS.val (Y.loadAN wd_36 rfl (by repeat (first | exact List.Mem.head _ | apply List.Mem.tail)) (r := x.cl A c) rfl) rfl rfl) rfl rfl rfl ?_
 refine Dd.WDm.quiet (QS.pure (Y.move rfl) rfl rfl) rfl rfl rfl ?_
 refine Dd.WDm.quiet (QS.pure (Y.ixSlA (A := A2) (b := b2) (o := 0) Tryz.underlying73 Tryz.sizeOf3 rfl rfl hA2 (by decide) (by omega)) rfl rfl) rfl rfl rfl ?_
 refine Dd.WDm.quiet (QS.val (Y.loadc fl_3 rfl (v := .int .i64 (nth0 ns 0)) (fun a w s => by have := (hil w s.fact.2.1).cell 0 _ (nth0_get (by omega)); simpa using this)) rfl rfl) rfl rfl rfl ?_
 refine Dd.WDm.spec (WS.free rfl (E.retW ((commitOf x (nth0 ns 0)).1) [.int .i64 (commitOf x (nth0 ns 0)).2] Tryz.call59 rfl (fun _ w s => w_workCommit x A (gOf A) 0 c (nth0 ns 0) w (own_max s.fact.1) (own_le s.fact.1) (own_RL s.fact.1)) rfl)) (fun _ => ext_newN rfl) (fun i => ?_)
 refine Dd.WDm.quiet (QS.pure (Y.extract rfl rfl) rfl rfl) rfl rfl rfl ?_
 refine Dd.WDm.quiet (QS.pure (Y.extract rfl rfl) rfl rfl) rfl rfl rfl ?_
 refine Dd.WDm.deadCall Tryz.call50 rfl (fun _ w s => w_turnDie _ (commitOf x (nth0 ns 0)).1 i.1 i.2 _ h0 w) ?_
 refine WQ.thenPanic ?_
 exact WQ.raised rfl (fun w2 hw => ⟨(), rfl, (hw.sub (Hsub.of_sub (by repeat (first | exact List.Sublist.refl _ | apply List.Sublist.cons)))).le (SF.sep_snd _ _)⟩)

theorem w_word3Ok (u : World) (Hl : Hp) (G : SF) (g bx : Nat) (x : Wd) (A : Option Addr) (c : Nat) (ns : List Int) (A2 : Option Addr) (b2 c2 : Nat) (w : World) (hw : Wp u ((bx, [.pointer (some ⟨g, 0, none⟩)], 29) :: (g, x.cl A c, 39) :: Hl) ((ROW u x A c).sep G) w) (hn : ns.length = 1) (hil : ∀ w, G.p w → IL w A2 b2 ns) (h0 : (abortOf x (nth0 ns 0)).2 = 0) : Calls Tryz.prog 60 [.slice A2 ns.length c2, .pointer (some ⟨bx, 0, none⟩)].toArray w fun e w' => ∃ i : Option Addr × Nat, e = .returned (su sOk) ∧ Wp u ((g, (abortOf x (nth0 ns 0)).1.cl i.1 i.2, 39) :: (bx, [.pointer (some ⟨g, 0, none⟩)], 29) :: Hl) ((ROW u (abortOf x (nth0 ns 0)).1 i.1 i.2).sep G) w' := by
 have hA2 := (hil w hw.2.1.2.1).addr (nth0_get (l := ns) (k := 0) (by omega))
 refine enterW Tryz.func60 rfl Tryz.ntmps60 rfl hw ?_
 refine sR ?_
 refine pA rfl rfl ?_
 refine nN ?_
 refine WC.seq ?_
 refine WC.drop [3] ?_
 refine WC.draw [(0, .q true), (1, .q true), (2, .q false), (3, .q false), (4, .q true), (5, .q false), (6, .q false), (7, .q true), (8, .s false), (9, .q false), (10, .q false), (11, .s true), (12, .q false)] mixed (by kernel_rfl) ?_
 refine dV (Y.load (v := .pointer (some ⟨g, 0, none⟩)) fl_29 rfl m0 rfl) rfl rfl ?_
 refine dV (Y.load (v := .pointer (some ⟨g, 0, none⟩)) fl_29 rfl m0 rfl) rfl rfl ?_
 refine dP (Y.nilCheck rfl) rfl rfl ?_
 refine dP (Y.fieldAddr fa_39_0 rfl) rfl rfl ?_
 refine dV (Y.loadAN wd_36 rfl (by repeat (first | exact List.Mem.head _ | apply List.Mem.tail)) (r := x.cl A c) rfl) rfl rfl ?_
 refine dP (Y.move rfl) rfl rfl ?_
 refine dP (Y.ixSlA (A := A2) (b := b2) (o := 0) Tryz.underlying73 Tryz.sizeOf3 rfl rfl hA2 (by decide) (by omega)) rfl rfl ?_
 refine dV (Y.loadc fl_3 rfl (v := .int .i64 (nth0 ns 0)) (fun a w s => by have := (hil w s.fact.2.1).cell 0 _ (nth0_get (by omega)); simpa using this)) rfl rfl ?_
 refine WDm.spec (WS.free rfl (E.retW ((abortOf x (nth0 ns 0)).1) [.int .i64 (abortOf x (nth0 ns 0)).2] Tryz.call61 rfl (fun _ w s => w_rollAbort x A (gOf A) 0 c (nth0 ns 0) w (own_max s.fact.1) (own_le s.fact.1) (own_RL s.fact.1)) rfl)) (fun _ => ext_newN rfl) (fun i => ?_)
 refine dP (Y.extract rfl rfl) rfl rfl ?_
 refine dP (Y.extract rfl rfl) rfl rfl ?_
 refine WDm.spec (WS.free rfl (E.turn (Hl := (bx, [.pointer (some ⟨g, 0, none⟩)], 29) :: Hl) x A c (abortOf x (nth0 ns 0)).1 i.1 i.2 _ h0 hsw rfl rfl)) (fun _ => sub_push rfl) (fun _ => ?_)
 refine dP (Y.assign rfl) rfl rfl ?_
 refine WDm.nil (WQ.and ?_)
 refine WQ.next ?_
 refine WC.ret ?_
 refine dn1 Tryz.results60 rfl (fun a w s => ?_)
 · exact ⟨i, rfl, s.wp.le (SF.sep_mono (SF.le_refl _) (SF.sep_snd _ _))⟩

theorem w_word3Die (u : World) (Hl : Hp) (G : SF) (g bx : Nat) (x : Wd) (A : Option Addr) (c : Nat) (ns : List Int) (A2 : Option Addr) (b2 c2 : Nat) (w : World) (hw : Wp u ((bx, [.pointer (some ⟨g, 0, none⟩)], 29) :: (g, x.cl A c, 39) :: Hl) ((ROW u x A c).sep G) w) (hn : ns.length = 1) (hil : ∀ w, G.p w → IL w A2 b2 ns) (h0 : (abortOf x (nth0 ns 0)).2 ≠ 0) : Calls Tryz.prog 60 [.slice A2 ns.length c2, .pointer (some ⟨bx, 0, none⟩)].toArray w fun e w' => ∃ i : Unit, e = .panicked (refP (abortOf x (nth0 ns 0)).2) ∧ Wp u ((g, x.cl A c, 39) :: Hl) ((ROW u x A c).sep G) w' := by
 have hA2 := (hil w hw.2.1.2.1).addr (nth0_get (l := ns) (k := 0) (by omega))
 refine enterW Tryz.func60 rfl Tryz.ntmps60 rfl hw ?_
 refine sR ?_
 refine pA rfl rfl ?_
 refine nN ?_
 refine WC.seq ?_
 refine WC.drop [3] ?_
 refine Dd.WC.draw [(0, .q true), (1, .q true), (2, .q false), (3, .q false), (4, .q true), (5, .q false), (6, .q false), (7, .q true), (8, .s false), (9, .q false), (10, .q false), (11, .s false), (12, .q false)] (fun _ _ _ d _ h => by cases d <;> exact h) mixed (by kernel_rfl) ?_
 refine Dd.WDm.quiet (QS.val (Y.load (v := .pointer (some ⟨g, 0, none⟩)) fl_29 rfl m0 rfl) rfl rfl) rfl rfl rfl ?_
 refine Dd.WDm.quiet (QS.val (Y.load (v := .pointer (some ⟨g, 0, none⟩)) fl_29 rfl m0 rfl) rfl rfl) rfl rfl rfl ?_
 refine Dd.WDm.quiet (QS.pure (Y.nilCheck rfl) rfl rfl) rfl rfl rfl ?_
 refine Dd.WDm.quiet (QS.pure (Y.fieldAddr fa_39_0 rfl) rfl rfl) rfl rfl rfl ?_
 refine Dd.WDm.quiet (QS.val (Y.loadAN wd_36 rfl (by repeat (first | exact List.Mem.head _ | apply List.Mem.tail)) (r := x.cl A c) rfl) rfl rfl) rfl rfl rfl ?_
 refine Dd.WDm.quiet (QS.pure (Y.move rfl) rfl rfl) rfl rfl rfl ?_
 refine Dd.WDm.quiet (QS.pure (Y.ixSlA (A := A2) (b := b2) (o := 0) Tryz.underlying73 Tryz.sizeOf3 rfl rfl hA2 (by decide) (by omega)) rfl rfl) rfl rfl rfl ?_
 refine Dd.WDm.quiet (QS.val (Y.loadc fl_3 rfl (v := .int .i64 (nth0 ns 0)) (fun a w s => by have := (hil w s.fact.2.1).cell 0 _ (nth0_get (by omega)); simpa using this)) rfl rfl) rfl rfl rfl ?_
 refine Dd.WDm.spec (WS.free rfl (E.retW ((abortOf x (nth0 ns 0)).1) [.int .i64 (abortOf x (nth0 ns 0)).2] Tryz.call61 rfl (fun _ w s => w_rollAbort x A (gOf A) 0 c (nth0 ns 0) w (own_max s.fact.1) (own_le s.fact.1) (own_RL s.fact.1)) rfl)) (fun _ => ext_newN rfl) (fun i => ?_)
 refine Dd.WDm.quiet (QS.pure (Y.extract rfl rfl) rfl rfl) rfl rfl rfl ?_
 refine Dd.WDm.quiet (QS.pure (Y.extract rfl rfl) rfl rfl) rfl rfl rfl ?_
 refine Dd.WDm.deadCall Tryz.call50 rfl (fun _ w s => w_turnDie _ (abortOf x (nth0 ns 0)).1 i.1 i.2 _ h0 w) ?_
 refine WQ.thenPanic ?_
 exact WQ.raised rfl (fun w2 hw => ⟨(), rfl, (hw.sub (Hsub.of_sub (by repeat (first | exact List.Sublist.refl _ | apply List.Sublist.cons)))).le (SF.sep_snd _ _)⟩)

theorem w_word4Ok (u : World) (Hl : Hp) (G : SF) (g bx : Nat) (x : Wd) (A : Option Addr) (c : Nat) (ns : List Int) (A2 : Option Addr) (b2 c2 : Nat) (w : World) (hw : Wp u ((bx, [.pointer (some ⟨g, 0, none⟩)], 29) :: (g, x.cl A c, 39) :: Hl) ((ROW u x A c).sep G) w) (hn : ns.length = 1) (hil : ∀ w, G.p w → IL w A2 b2 ns) (h0 : (syncOf x (nth0 ns 0)).2 = 0) : Calls Tryz.prog 62 [.slice A2 ns.length c2, .pointer (some ⟨bx, 0, none⟩)].toArray w fun e w' => ∃ i : Option Addr × Nat, e = .returned (su sOk) ∧ Wp u ((g, (syncOf x (nth0 ns 0)).1.cl i.1 i.2, 39) :: (bx, [.pointer (some ⟨g, 0, none⟩)], 29) :: Hl) ((ROW u (syncOf x (nth0 ns 0)).1 i.1 i.2).sep G) w' := by
 have hA2 := (hil w hw.2.1.2.1).addr (nth0_get (l := ns) (k := 0) (by omega))
 refine enterW Tryz.func62 rfl Tryz.ntmps62 rfl hw ?_
 refine sR ?_
 refine pA rfl rfl ?_
 refine nN ?_
 refine WC.seq ?_
 refine WC.drop [3] ?_
 refine WC.draw [(0, .q true), (1, .q true), (2, .q false), (3, .q false), (4, .q true), (5, .q false), (6, .q false), (7, .q true), (8, .s false), (9, .q false), (10, .q false), (11, .s true), (12, .q false)] mixed (by kernel_rfl) ?_
 refine dV (Y.load (v := .pointer (some ⟨g, 0, none⟩)) fl_29 rfl m0 rfl) rfl rfl ?_
 refine dV (Y.load (v := .pointer (some ⟨g, 0, none⟩)) fl_29 rfl m0 rfl) rfl rfl ?_
 refine dP (Y.nilCheck rfl) rfl rfl ?_
 refine dP (Y.fieldAddr fa_39_0 rfl) rfl rfl ?_
 refine dV (Y.loadAN wd_36 rfl (by repeat (first | exact List.Mem.head _ | apply List.Mem.tail)) (r := x.cl A c) rfl) rfl rfl ?_
 refine dP (Y.move rfl) rfl rfl ?_
 refine dP (Y.ixSlA (A := A2) (b := b2) (o := 0) Tryz.underlying73 Tryz.sizeOf3 rfl rfl hA2 (by decide) (by omega)) rfl rfl ?_
 refine dV (Y.loadc fl_3 rfl (v := .int .i64 (nth0 ns 0)) (fun a w s => by have := (hil w s.fact.2.1).cell 0 _ (nth0_get (by omega)); simpa using this)) rfl rfl ?_
 refine WDm.spec (WS.free rfl (E.retW ((syncOf x (nth0 ns 0)).1) [.int .i64 (syncOf x (nth0 ns 0)).2] Tryz.call63 rfl (fun _ w s => w_flushSync x A (gOf A) 0 c (nth0 ns 0) w (own_max s.fact.1) (own_le s.fact.1) (own_RL s.fact.1)) rfl)) (fun _ => ext_newN rfl) (fun i => ?_)
 refine dP (Y.extract rfl rfl) rfl rfl ?_
 refine dP (Y.extract rfl rfl) rfl rfl ?_
 refine WDm.spec (WS.free rfl (E.turn (Hl := (bx, [.pointer (some ⟨g, 0, none⟩)], 29) :: Hl) x A c (syncOf x (nth0 ns 0)).1 i.1 i.2 _ h0 hsw rfl rfl)) (fun _ => sub_push rfl) (fun _ => ?_)
 refine dP (Y.assign rfl) rfl rfl ?_
 refine WDm.nil (WQ.and ?_)
 refine WQ.next ?_
 refine WC.ret ?_
 refine dn1 Tryz.results62 rfl (fun a w s => ?_)
 · exact ⟨i, rfl, s.wp.le (SF.sep_mono (SF.le_refl _) (SF.sep_snd _ _))⟩

theorem w_word4Die (u : World) (Hl : Hp) (G : SF) (g bx : Nat) (x : Wd) (A : Option Addr) (c : Nat) (ns : List Int) (A2 : Option Addr) (b2 c2 : Nat) (w : World) (hw : Wp u ((bx, [.pointer (some ⟨g, 0, none⟩)], 29) :: (g, x.cl A c, 39) :: Hl) ((ROW u x A c).sep G) w) (hn : ns.length = 1) (hil : ∀ w, G.p w → IL w A2 b2 ns) (h0 : (syncOf x (nth0 ns 0)).2 ≠ 0) : Calls Tryz.prog 62 [.slice A2 ns.length c2, .pointer (some ⟨bx, 0, none⟩)].toArray w fun e w' => ∃ i : Unit, e = .panicked (refP (syncOf x (nth0 ns 0)).2) ∧ Wp u ((g, x.cl A c, 39) :: Hl) ((ROW u x A c).sep G) w' := by
 have hA2 := (hil w hw.2.1.2.1).addr (nth0_get (l := ns) (k := 0) (by omega))
 refine enterW Tryz.func62 rfl Tryz.ntmps62 rfl hw ?_
 refine sR ?_
 refine pA rfl rfl ?_
 refine nN ?_
 refine WC.seq ?_
 refine WC.drop [3] ?_
 refine Dd.WC.draw [(0, .q true), (1, .q true), (2, .q false), (3, .q false), (4, .q true), (5, .q false), (6, .q false), (7, .q true), (8, .s false), (9, .q false), (10, .q false), (11, .s false), (12, .q false)] (fun _ _ _ d _ h => by cases d <;> exact h) mixed (by kernel_rfl) ?_
 refine Dd.WDm.quiet (QS.val (Y.load (v := .pointer (some ⟨g, 0, none⟩)) fl_29 rfl m0 rfl) rfl rfl) rfl rfl rfl ?_
 refine Dd.WDm.quiet (QS.val (Y.load (v := .pointer (some ⟨g, 0, none⟩)) fl_29 rfl m0 rfl) rfl rfl) rfl rfl rfl ?_
 refine Dd.WDm.quiet (QS.pure (Y.nilCheck rfl) rfl rfl) rfl rfl rfl ?_
 refine Dd.WDm.quiet (QS.pure (Y.fieldAddr fa_39_0 rfl) rfl rfl) rfl rfl rfl ?_
 refine Dd.WDm.quiet (QS.val (Y.loadAN wd_36 rfl (by repeat (first | exact List.Mem.head _ | apply List.Mem.tail)) (r := x.cl A c) rfl) rfl rfl) rfl rfl rfl ?_
 refine Dd.WDm.quiet (QS.pure (Y.move rfl) rfl rfl) rfl rfl rfl ?_
 refine Dd.WDm.quiet (QS.pure (Y.ixSlA (A := A2) (b := b2) (o := 0) Tryz.underlying73 Tryz.sizeOf3 rfl rfl hA2 (by decide) (by omega)) rfl rfl) rfl rfl rfl ?_
 refine Dd.WDm.quiet (QS.val (Y.loadc fl_3 rfl (v := .int .i64 (nth0 ns 0)) (fun a w s => by have := (hil w s.fact.2.1).cell 0 _ (nth0_get (by omega)); simpa using this)) rfl rfl) rfl rfl rfl ?_
 refine Dd.WDm.spec (WS.free rfl (E.retW ((syncOf x (nth0 ns 0)).1) [.int .i64 (syncOf x (nth0 ns 0)).2] Tryz.call63 rfl (fun _ w s => w_flushSync x A (gOf A) 0 c (nth0 ns 0) w (own_max s.fact.1) (own_le s.fact.1) (own_RL s.fact.1)) rfl)) (fun _ => ext_newN rfl) (fun i => ?_)
 refine Dd.WDm.quiet (QS.pure (Y.extract rfl rfl) rfl rfl) rfl rfl rfl ?_
 refine Dd.WDm.quiet (QS.pure (Y.extract rfl rfl) rfl rfl) rfl rfl rfl ?_
 refine Dd.WDm.deadCall Tryz.call50 rfl (fun _ w s => w_turnDie _ (syncOf x (nth0 ns 0)).1 i.1 i.2 _ h0 w) ?_
 refine WQ.thenPanic ?_
 exact WQ.raised rfl (fun w2 hw => ⟨(), rfl, (hw.sub (Hsub.of_sub (by repeat (first | exact List.Sublist.refl _ | apply List.Sublist.cons)))).le (SF.sep_snd _ _)⟩)

theorem w_word5Ok (u : World) (Hl : Hp) (G : SF) (g bx : Nat) (x : Wd) (A : Option Addr) (c : Nat) (ns : List Int) (A2 : Option Addr) (b2 c2 : Nat) (w : World) (hw : Wp u ((bx, [.pointer (some ⟨g, 0, none⟩)], 29) :: (g, x.cl A c, 39) :: Hl) ((ROW u x A c).sep G) w) (hn : ns.length = 1) (hil : ∀ w, G.p w → IL w A2 b2 ns) (h0 : (flushOf x (nth0 ns 0)).2 = 0) : Calls Tryz.prog 64 [.slice A2 ns.length c2, .pointer (some ⟨bx, 0, none⟩)].toArray w fun e w' => ∃ i : Option Addr × Nat, e = .returned (su sOk) ∧ Wp u ((g, (flushOf x (nth0 ns 0)).1.cl i.1 i.2, 39) :: (bx, [.pointer (some ⟨g, 0, none⟩)], 29) :: Hl) ((ROW u (flushOf x (nth0 ns 0)).1 i.1 i.2).sep G) w' := by
 have hA2 := (hil w hw.2.1.2.1).addr (nth0_get (l := ns) (k := 0) (by omega))
 refine enterW Tryz.func64 rfl Tryz.ntmps64 rfl hw ?_
 refine sR ?_
 refine pA rfl rfl ?_
 refine nN ?_
 refine WC.seq ?_
 refine WC.drop [3] ?_
 refine WC.draw [(0, .q true), (1, .q true), (2, .q false), (3, .q false), (4, .q true), (5, .q false), (6, .q false), (7, .q true), (8, .s false), (9, .q false), (10, .q false), (11, .s true), (12, .q false)] mixed (by kernel_rfl) ?_
 refine dV (Y.load (v := .pointer (some ⟨g, 0, none⟩)) fl_29 rfl m0 rfl) rfl rfl ?_
 refine dV (Y.load (v := .pointer (some ⟨g, 0, none⟩)) fl_29 rfl m0 rfl) rfl rfl ?_
 refine dP (Y.nilCheck rfl) rfl rfl ?_
 refine dP (Y.fieldAddr fa_39_0 rfl) rfl rfl ?_
 refine dV (Y.loadAN wd_36 rfl (by repeat (first | exact List.Mem.head _ | apply List.Mem.tail)) (r := x.cl A c) rfl) rfl rfl ?_
 refine dP (Y.move rfl) rfl rfl ?_
 refine dP (Y.ixSlA (A := A2) (b := b2) (o := 0) Tryz.underlying73 Tryz.sizeOf3 rfl rfl hA2 (by decide) (by omega)) rfl rfl ?_
 refine dV (Y.loadc fl_3 rfl (v := .int .i64 (nth0 ns 0)) (fun a w s => by have := (hil w s.fact.2.1).cell 0 _ (nth0_get (by omega)); simpa using this)) rfl rfl ?_
 refine WDm.spec (WS.free rfl (E.retW ((flushOf x (nth0 ns 0)).1) [.int .i64 (flushOf x (nth0 ns 0)).2] Tryz.call65 rfl (fun _ w s => w_flushPage x A (gOf A) 0 c (nth0 ns 0) w (own_max s.fact.1) (own_le s.fact.1) (own_RL s.fact.1)) rfl)) (fun _ => ext_newN rfl) (fun i => ?_)
 refine dP (Y.extract rfl rfl) rfl rfl ?_
 refine dP (Y.extract rfl rfl) rfl rfl ?_
 refine WDm.spec (WS.free rfl (E.turn (Hl := (bx, [.pointer (some ⟨g, 0, none⟩)], 29) :: Hl) x A c (flushOf x (nth0 ns 0)).1 i.1 i.2 _ h0 hsw rfl rfl)) (fun _ => sub_push rfl) (fun _ => ?_)
 refine dP (Y.assign rfl) rfl rfl ?_
 refine WDm.nil (WQ.and ?_)
 refine WQ.next ?_
 refine WC.ret ?_
 refine dn1 Tryz.results64 rfl (fun a w s => ?_)
 · exact ⟨i, rfl, s.wp.le (SF.sep_mono (SF.le_refl _) (SF.sep_snd _ _))⟩

theorem w_word5Die (u : World) (Hl : Hp) (G : SF) (g bx : Nat) (x : Wd) (A : Option Addr) (c : Nat) (ns : List Int) (A2 : Option Addr) (b2 c2 : Nat) (w : World) (hw : Wp u ((bx, [.pointer (some ⟨g, 0, none⟩)], 29) :: (g, x.cl A c, 39) :: Hl) ((ROW u x A c).sep G) w) (hn : ns.length = 1) (hil : ∀ w, G.p w → IL w A2 b2 ns) (h0 : (flushOf x (nth0 ns 0)).2 ≠ 0) : Calls Tryz.prog 64 [.slice A2 ns.length c2, .pointer (some ⟨bx, 0, none⟩)].toArray w fun e w' => ∃ i : Unit, e = .panicked (refP (flushOf x (nth0 ns 0)).2) ∧ Wp u ((g, x.cl A c, 39) :: Hl) ((ROW u x A c).sep G) w' := by
 have hA2 := (hil w hw.2.1.2.1).addr (nth0_get (l := ns) (k := 0) (by omega))
 refine enterW Tryz.func64 rfl Tryz.ntmps64 rfl hw ?_
 refine sR ?_
 refine pA rfl rfl ?_
 refine nN ?_
 refine WC.seq ?_
 refine WC.drop [3] ?_
 refine Dd.WC.draw [(0, .q true), (1, .q true), (2, .q false), (3, .q false), (4, .q true), (5, .q false), (6, .q false), (7, .q true), (8, .s false), (9, .q false), (10, .q false), (11, .s false), (12, .q false)] (fun _ _ _ d _ h => by cases d <;> exact h) mixed (by kernel_rfl) ?_
 refine Dd.WDm.quiet (QS.val (Y.load (v := .pointer (some ⟨g, 0, none⟩)) fl_29 rfl m0 rfl) rfl rfl) rfl rfl rfl ?_
 refine Dd.WDm.quiet (QS.val (Y.load (v := .pointer (some ⟨g, 0, none⟩)) fl_29 rfl m0 rfl) rfl rfl) rfl rfl rfl ?_
 refine Dd.WDm.quiet (QS.pure (Y.nilCheck rfl) rfl rfl) rfl rfl rfl ?_
 refine Dd.WDm.quiet (QS.pure (Y.fieldAddr fa_39_0 rfl) rfl rfl) rfl rfl rfl ?_
 refine Dd.WDm.quiet (QS.val (Y.loadAN wd_36 rfl (by repeat (first | exact List.Mem.head _ | apply List.Mem.tail)) (r := x.cl A c) rfl) rfl rfl) rfl rfl rfl ?_
 refine Dd.WDm.quiet (QS.pure (Y.move rfl) rfl rfl) rfl rfl rfl ?_
 refine Dd.WDm.quiet (QS.pure (Y.ixSlA (A := A2) (b := b2) (o := 0) Tryz.underlying73 Tryz.sizeOf3 rfl rfl hA2 (by decide) (by omega)) rfl rfl) rfl rfl rfl ?_
 refine Dd.WDm.quiet (QS.val (Y.loadc fl_3 rfl (v := .int .i64 (nth0 ns 0)) (fun a w s => by have := (hil w s.fact.2.1).cell 0 _ (nth0_get (by omega)); simpa using this)) rfl rfl) rfl rfl rfl ?_
 refine Dd.WDm.spec (WS.free rfl (E.retW ((flushOf x (nth0 ns 0)).1) [.int .i64 (flushOf x (nth0 ns 0)).2] Tryz.call65 rfl (fun _ w s => w_flushPage x A (gOf A) 0 c (nth0 ns 0) w (own_max s.fact.1) (own_le s.fact.1) (own_RL s.fact.1)) rfl)) (fun _ => ext_newN rfl) (fun i => ?_)
 refine Dd.WDm.quiet (QS.pure (Y.extract rfl rfl) rfl rfl) rfl rfl rfl ?_
 refine Dd.WDm.quiet (QS.pure (Y.extract rfl rfl) rfl rfl) rfl rfl rfl ?_
 refine Dd.WDm.deadCall Tryz.call50 rfl (fun _ w s => w_turnDie _ (flushOf x (nth0 ns 0)).1 i.1 i.2 _ h0 w) ?_
 refine WQ.thenPanic ?_
 exact WQ.raised rfl (fun w2 hw => ⟨(), rfl, (hw.sub (Hsub.of_sub (by repeat (first | exact List.Sublist.refl _ | apply List.Sublist.cons)))).le (SF.sep_snd _ _)⟩)

theorem w_stateOk (u : World) (Hl : Hp) (G : SF) (g : Nat) (x : Wd) (A : Option Addr) (c : Nat) (ns : List Int) (A2 : Option Addr) (b2 c2 : Nat) (w : World) (hw : Wp u ((g, x.cl A c, 39) :: Hl) ((ROW u x A c).sep G) w) (hn : ns.length = 1) (hil : ∀ w, G.p w → IL w A2 b2 ns) (hw0 : worldErr x = 0) (h0 : (logState x.log (nth0 ns 0)).2.2 = 0) : Calls Tryz.prog 66 [.pointer (some ⟨g, 0, none⟩), .slice A2 ns.length c2].toArray w fun e w' => ∃ i : Unit, e = .returned (su (digs (logState x.log (nth0 ns 0)).1.toNat)) ∧ Wp u ((g, x.cl A c, 39) :: Hl) ((ROW u x A c).sep G) w' := by
 have hA2 := (hil w hw.2.1.2.1).addr (nth0_get (l := ns) (k := 0) (by omega))
 refine enterW Tryz.func66 rfl Tryz.ntmps66 rfl hw ?_
 refine sR ?_
 refine pA rfl rfl ?_
 refine nN ?_
 refine WC.seq ?_
 refine WC.draw [(0, .q false), (1, .q false), (2, .q false), (3, .q false), (4, .q true), (5, .q false), (6, .q false), (7, .q true), (8, .q true), (9, .q false), (10, .q false), (11, .q false), (12, .q false), (13, .q false), (14, .q false), (15, .q false)] mixed (by kernel_rfl) ?_
 refine dP (Y.move rfl) rfl rfl ?_
 refine dP (Y.nilCheck rfl) rfl rfl ?_
 refine dP (Y.fieldAddr fa_39_0 rfl) rfl rfl ?_
 refine dP (Y.fieldAddr fa_36_1 rfl) rfl rfl ?_
 refine dV (Y.load (v := .slice A x.log.length c) fl_34 rfl m0 rfl) rfl rfl ?_
 refine dP (Y.move rfl) rfl rfl ?_
 refine dP (Y.ixSlA (A := A2) (b := b2) (o := 0) Tryz.underlying73 Tryz.sizeOf3 rfl rfl hA2 (by decide) (by omega)) rfl rfl ?_
 refine dV (Y.loadc fl_3 rfl (v := .int .i64 (nth0 ns 0)) (fun a w s => by have := (hil w s.fact.2.1).cell 0 _ (nth0_get (by omega)); simpa using this)) rfl rfl ?_
 refine WDm.quiet (QS.call Tryz.call103 rfl (fun _ w s => w_logState x.log A (gOf A) 0 c (nth0 ns 0) w (own_RL s.fact.1))) rfl rfl rfl ?_
 refine dP (Y.move rfl) rfl rfl ?_
 refine dP (Y.extract rfl rfl) rfl rfl ?_
 refine dP (Y.extract rfl rfl) rfl rfl ?_
 refine dP (Y.extract rfl rfl) rfl rfl ?_
 refine dP (Y.assign rfl) rfl rfl ?_
 refine dP (Y.assign rfl) rfl rfl ?_
 refine dP (Y.assign rfl) rfl rfl ?_
 refine WDm.nil (WQ.and ?_)
 refine WQ.next ?_
 refine sR ?_
 refine pM rfl rfl ?_
 refine pP (Y.eql rfl rfl) rfl ?_
 refine pM rfl rfl ?_
 refine WL.eff (E.call Tryz.call29 rfl (fun _ w s => w_mustT _ (by simp [h0]) _ w) rfl) rfl (fun _ => ?_)
 refine nN ?_
 refine sR ?_
 refine pM rfl rfl ?_
 refine pP (Y.iface (mk_int _) rfl) rfl ?_
 refine WL.eff (E.buildSlice (bs_any1 _ _) rfl rfl) rfl (fun bz => ?_)
 refine WL.eff (E.call Tryz.call51 rfl (fun _ w s => w_listed1 (logState x.log (nth0 ns 0)).1 (by have := (state_bnd hw0 (nth0 ns 0)).1; omega) bz w (fun j => s.hp.cell m0)) rfl) rfl (fun _ => ?_)
 refine pA rfl rfl ?_
 refine nN ?_
 refine WC.ret ?_
 refine dn1 Tryz.results66 rfl (fun a w s => ?_)
 · exact ⟨(), rfl, s.wp.sub (Hsub.of_sub (by repeat (first | exact List.Sublist.refl _ | apply List.Sublist.cons)))⟩

theorem w_stateDie (u : World) (Hl : Hp) (G : SF) (g : Nat) (x : Wd) (A : Option Addr) (c : Nat) (ns : List Int) (A2 : Option Addr) (b2 c2 : Nat) (w : World) (hw : Wp u ((g, x.cl A c, 39) :: Hl) ((ROW u x A c).sep G) w) (hn : ns.length = 1) (hil : ∀ w, G.p w → IL w A2 b2 ns) (hw0 : worldErr x = 0) (h0 : (logState x.log (nth0 ns 0)).2.2 ≠ 0) : Calls Tryz.prog 66 [.pointer (some ⟨g, 0, none⟩), .slice A2 ns.length c2].toArray w fun e w' => ∃ i : Unit, e = .panicked (refP (logState x.log (nth0 ns 0)).2.2) ∧ Wp u ((g, x.cl A c, 39) :: Hl) ((ROW u x A c).sep G) w' := by
 have hA2 := (hil w hw.2.1.2.1).addr (nth0_get (l := ns) (k := 0) (by omega))
 refine enterW Tryz.func66 rfl Tryz.ntmps66 rfl hw ?_
 refine sR ?_
 refine pA rfl rfl ?_
 refine nN ?_
 refine WC.seq ?_
 refine WC.draw [(0, .q false), (1, .q false), (2, .q false), (3, .q false), (4, .q true), (5, .q false), (6, .q false), (7, .q true), (8, .q true), (9, .q false), (10, .q false), (11, .q false), (12, .q false), (13, .q false), (14, .q false), (15, .q false)] mixed (by kernel_rfl) ?_
 refine dP (Y.move rfl) rfl rfl ?_
 refine dP (Y.nilCheck rfl) rfl rfl ?_
 refine dP (Y.fieldAddr fa_39_0 rfl) rfl rfl ?_
 refine dP (Y.fieldAddr fa_36_1 rfl) rfl rfl ?_
 refine dV (Y.load (v := .slice A x.log.length c) fl_34 rfl m0 rfl) rfl rfl ?_
 refine dP (Y.move rfl) rfl rfl ?_
 refine dP (Y.ixSlA (A := A2) (b := b2) (o := 0) Tryz.underlying73 Tryz.sizeOf3 rfl rfl hA2 (by decide) (by omega)) rfl rfl ?_
 refine dV (Y.loadc fl_3 rfl (v := .int .i64 (nth0 ns 0)) (fun a w s => by have := (hil w s.fact.2.1).cell 0 _ (nth0_get (by omega)); simpa using this)) rfl rfl ?_
 refine WDm.quiet (QS.call Tryz.call103 rfl (fun _ w s => w_logState x.log A (gOf A) 0 c (nth0 ns 0) w (own_RL s.fact.1))) rfl rfl rfl ?_
 refine dP (Y.move rfl) rfl rfl ?_
 refine dP (Y.extract rfl rfl) rfl rfl ?_
 refine dP (Y.extract rfl rfl) rfl rfl ?_
 refine dP (Y.extract rfl rfl) rfl rfl ?_
 refine dP (Y.assign rfl) rfl rfl ?_
 refine dP (Y.assign rfl) rfl rfl ?_
 refine dP (Y.assign rfl) rfl rfl ?_
 refine WDm.nil (WQ.and ?_)
 refine WQ.next ?_
 refine sR ?_
 refine pM rfl rfl ?_
 refine pP (Y.eql rfl rfl) rfl ?_
 refine pM rfl rfl ?_
 refine WL.dead Tryz.call29 rfl (fun _ w s => w_mustF _ (by simp [h0]) _ w) ?_
 refine WQ.thenPanic ?_
 exact WQ.raised rfl (fun w2 hw => ⟨(), rfl, hw⟩)

/-- An entry of a map from texts. -/
structure SE where
  key : Str
  v : Value
  born : Nat
def SE.entry (x : SE) : MapEntry := ⟨su x.key, x.v, x.born⟩
def findS : List SE → Str → Nat → Option (Nat × Value)
  | [], _, _ => none
  | x :: l, t, i => if x.key = t then some (i, x.v) else findS l t (i + 1)
def lookS : List SE → Str → Option Value
  | [], _ => none
  | x :: l, t => if x.key = t then some x.v else lookS l t
theorem su_beq (a b : Str) : ((ByteArray.mk a.toArray) == (ByteArray.mk b.toArray)) = decide (a = b) := by
  show (a.toArray == b.toArray) = _
  by_cases h : a = b
  · subst h; simp
  · rw [decide_eq_false h]
    simpa using h
theorem findNow_se (t : Str) : ∀ (l : List SE) (i : Nat), Instr.findNow .string (su t) (l.map SE.entry) i = some (findS l t i)
  | [], _ => rfl
  | x :: l, i => by
    simp only [List.map_cons, Instr.findNow, SE.entry, su, Instr.sameNow, su_beq, findS]
    by_cases h : x.key = t
    · rw [if_pos h, decide_eq_true h.symm]
    · rw [if_neg h, decide_eq_false (fun e => h e.symm)]
      exact findNow_se t l (i + 1)
theorem findS_look : ∀ (l : List SE) (t : Str) (i : Nat), (findS l t i).map (·.2) = lookS l t
  | [], _, _ => rfl
  | x :: l, t, i => by
    unfold findS lookS
    split
    · rfl
    · exact findS_look l t (i + 1)
theorem findS_none : ∀ (l : List SE) (t : Str) (i : Nat), lookS l t = none → findS l t i = none
  | [], _, _, _ => rfl
  | x :: l, t, i, h => by
    unfold lookS at h
    unfold findS
    split at h
    · cases h
    · rename_i hn
      rw [if_neg hn]
      exact findS_none l t (i + 1) h
theorem find_se {w : World} (l : List SE) (t : Str) : (Instr.findKey 9 (su t) (l.map SE.entry)).run Tryz.prog w = .ok (findS l t 0) w := by
  unfold Instr.findKey
  simp only [Sem.run_bind, run_underlying und9, Result.andThen_ok, findNow_se, Sem.run_pure]
theorem check_str (b : Bool) (t : Str) (w : World) : (Instr.checkKey b 10000 9 (su t)).run Tryz.prog w = .ok () w := by kernel_rfl
theorem run_lookup_se {w : World} {b k T e : Nat} {z : Value} (l : List SE) (t : Str) (hu : Tryz.prog.underlying T = some (.map 9 e)) (hz : ∀ w, (zeroValue e).run Tryz.prog w = .ok z w) (h : w.heap[b]? = some (.map (l.map SE.entry).toArray k)) :
    (Instr.lookup T (.map (some b)) (su t) true).run Tryz.prog w = .ok (.tuple #[(lookS l t).getD z, .bool (lookS l t).isSome]) w := by
  unfold Instr.lookup
  have hl := findS_look l t 0
  have e1 := fun b => check_str b t w
  simp only [Sem.run_bind, run_underlying hu, Result.andThen_ok, run_getObj h, Sem.run_pure]
  cases hf : findS l t 0 with
  | none =>
    rw [hf] at hl
    simp only [Option.map_none] at hl
    rw [← hl]
    first
      | simp only [e1, find_se, hf, hz w, Sem.run_bind, Result.andThen_ok, Sem.run_pure]; rfl
      | simp [e1, find_se, hf, hz w]
  | some x =>
    rw [hf] at hl
    simp only [Option.map_some] at hl
    rw [← hl]
    first
      | simp only [e1, find_se, hf, Sem.run_bind, Result.andThen_ok, Sem.run_pure]; rfl
      | simp [e1, find_se, hf]
theorem run_update_se {w : World} {b k T e : Nat} (l : List SE) (t : Str) (v : Value) (hu : Tryz.prog.underlying T = some (.map 9 e)) (hn : lookS l t = none) (h : w.heap[b]? = some (.map (l.map SE.entry).toArray k)) :
    (Instr.mapUpdate T (.map (some b)) (su t) v).run Tryz.prog w = .ok () (putMap w b (l.map SE.entry ++ [⟨su t, v, k⟩]) (k + 1)) := by
  unfold Instr.mapUpdate
  simp only [Sem.run_bind, run_underlying hu, Result.andThen_ok, run_getObj h, check_str, find_se, findS_none l t 0 hn]
  have e : ((l.map SE.entry).toArray).push (⟨su t, v, k⟩ : MapEntry) = (l.map SE.entry ++ [(⟨su t, v, k⟩ : MapEntry)]).toArray := by simp
  rw [e]
  exact run_setObj h
section
variable [Inhabited DSx] {P : Program} {E : Env} {n : Nat} {H : Hp} {F G : SF} {w0 : World}
theorem E.insertS {x y z : Operand} {T T' : TypeId} {p : String} {af : Array Edge} {b : Nat} {es es' : List MapEntry} {k k' : Nat} {vk vv : Value} (hF : F = (SF.map w0.heap.size b es k).sep G) (hx : ev E x = some (.map (some b))) (hy : ev E y = some vk) (hz : ev E z = some vv)
    (hr : ∀ w, w.heap[b]? = some (.map es.toArray k) → (Instr.mapUpdate T (.map (some b)) vk vv).run P w = .ok () (Proofs.YtapkelocligmdaaGreatDoor.putMap w b es' k')) :
    Eff P E n H F w0 ⟨none, .insert T x y z, T', p, af, none⟩ (fun _ : Unit => E) (fun _ => H) (fun _ => (SF.map w0.heap.size b es' k').sep G) := fun a w s Q K hK => by
  subst hF
  have h : (execOp a.eval ⟨none, .insert T x y z, T', p, af, none⟩).run P w = .ok .skip (Proofs.YtapkelocligmdaaGreatDoor.putMap w b es' k') := by
    show (do Instr.mapUpdate T (a.eval x) (a.eval y) (a.eval z); pure Next.skip).run P w = _
    rw [s.env.eval hx, s.env.eval hy, s.env.eval hz, Sem.run_bind, hr w s.fact.1.1]
    rfl
  unfold Oper.wp
  rw [h, Oper.upon_skip]
  exact hK () _ _ rfl s.putMap
theorem Y.lookupOk {d : Option Nat} {x y : Operand} {T T' : TypeId} {p : String} {af : Array Edge} {b : Nat} {es : List MapEntry} {k : Nat} {vk v : Value} (hx : ev E x = some (.map (some b))) (hy : ev E y = some vk) (hm : ∀ a w, St E n H F w0 a w → w.heap[b]? = some (.map es.toArray k))
    (hr : ∀ w, w.heap[b]? = some (.map es.toArray k) → (Instr.lookup T (.map (some b)) vk true).run P w = .ok v w) : Yv P E n H F w0 ⟨d, .lookup T x y true, T', p, af, none⟩ v := fun a w s => by
  show (do let u ← Instr.lookup T (a.eval x) (a.eval y) true; pure (Next.value u)).run P w = _
  rw [s.env.eval hx, s.env.eval hy, Sem.run_bind, hr w (hm a w s)]
  rfl
end
def wordV (n : Int) (f : Value) : Value := .agg #[.int .i64 n, f]
def wS : Nat → Str
  | 0 => wWrite
  | 1 => wCommit
  | 2 => wAbort
  | 3 => wSync
  | 4 => wFlush
  | _ => wState
def wN (k : Nat) : Nat := if k = 0 then 4 else 1
def wFn : Nat → Nat
  | 0 => 56
  | 1 => 58
  | 2 => 60
  | 3 => 62
  | 4 => 64
  | _ => 66
def wB (g k : Nat) : List Value := if k = 5 then [.pointer (some ⟨g, 0, none⟩)] else []
def wC (bx k : Nat) : List Value := if k = 5 then [] else [.pointer (some ⟨bx, 0, none⟩)]
def wF (g bx k : Nat) : Value := .func (.func (wFn k)) (wB g k).toArray (wC bx k).toArray
def wordL (g bx : Nat) : List SE := [⟨wS 0, wordV (wN 0) (wF g bx 0), 0⟩, ⟨wS 1, wordV (wN 1) (wF g bx 1), 1⟩, ⟨wS 2, wordV (wN 2) (wF g bx 2), 2⟩, ⟨wS 3, wordV (wN 3) (wF g bx 3), 3⟩, ⟨wS 4, wordV (wN 4) (wF g bx 4), 4⟩, ⟨wS 5, wordV (wN 5) (wF g bx 5), 5⟩]
theorem bd_word (n : Int) (f : Fn) (x y : Array Value) (w : World) : (Instr.build 68 #[(0, .int .i64 n), (1, .func f x y)]).run Tryz.prog w = .ok (.agg #[.int .i64 n, .func f x y]) w := by kernel_rfl

theorem w_words (g : Nat) (w : World) : Calls Tryz.prog 28 [.pointer (some ⟨g, 0, none⟩)].toArray w fun e w' => ∃ i : Nat × Nat, e = .returned (.map (some i.1)) ∧ Below w.heap.size w w' ∧ w'.heap[i.1]? = some (.map ((wordL g i.2).map SE.entry).toArray 6) ∧ w'.heap[i.2]? = some (.cells [.pointer (some ⟨g, 0, none⟩)].toArray 29) ∧ w.heap.size ≤ i.1 ∧ w.heap.size ≤ i.2 ∧ i.2 ≠ i.1 := by
 refine enter Tryz.func28 rfl Tryz.ntmps28 rfl SF.top trivial ?_
 refine sR ?_
 refine WL.eff (E.box rfl rfl rfl) rfl (fun b1 => ?_)
 refine pA rfl rfl ?_
 refine nN ?_
 refine sR ?_
 refine WL.eff (E.makeMap rfl) rfl (fun bm => ?_)
 refine pP (Y.makeFn rfl rfl) rfl ?_
 refine pP (Y.build rfl (bd_word 4 _ _ _)) rfl ?_
 refine WL.eff (E.insertS (es := ((wordL g b1).take 0).map SE.entry) (es' := ((wordL g b1).take 1).map SE.entry) (k := 0) (k' := 1) rfl rfl (vk := su (wS 0)) rfl (vv := wordV (wN 0) (wF g b1 0)) rfl (fun w h => run_update_se ((wordL g b1).take 0) (wS 0) (wordV (wN 0) (wF g b1 0)) Tryz.underlying70 (by simp [lookS, wordL, wS, wWrite, wCommit, wAbort, wSync, wFlush, wState]) h)) rfl (fun _ => ?_)
 refine pP (Y.makeFn rfl rfl) rfl ?_
 refine pP (Y.build rfl (bd_word 1 _ _ _)) rfl ?_
 refine WL.eff (E.insertS (es := ((wordL g b1).take 1).map SE.entry) (es' := ((wordL g b1).take 2).map SE.entry) (k := 1) (k' := 2) rfl rfl (vk := su (wS 1)) rfl (vv := wordV (wN 1) (wF g b1 1)) rfl (fun w h => run_update_se ((wordL g b1).take 1) (wS 1) (wordV (wN 1) (wF g b1 1)) Tryz.underlying70 (by simp [lookS, wordL, wS, wWrite, wCommit, wAbort, wSync, wFlush, wState]) h)) rfl (fun _ => ?_)
 refine pP (Y.makeFn rfl rfl) rfl ?_
 refine pP (Y.build rfl (bd_word 1 _ _ _)) rfl ?_
 refine WL.eff (E.insertS (es := ((wordL g b1).take 2).map SE.entry) (es' := ((wordL g b1).take 3).map SE.entry) (k := 2) (k' := 3) rfl rfl (vk := su (wS 2)) rfl (vv := wordV (wN 2) (wF g b1 2)) rfl (fun w h => run_update_se ((wordL g b1).take 2) (wS 2) (wordV (wN 2) (wF g b1 2)) Tryz.underlying70 (by simp [lookS, wordL, wS, wWrite, wCommit, wAbort, wSync, wFlush, wState]) h)) rfl (fun _ => ?_)
 refine pP (Y.makeFn rfl rfl) rfl ?_
 refine pP (Y.build rfl (bd_word 1 _ _ _)) rfl ?_
 refine WL.eff (E.insertS (es := ((wordL g b1).take 3).map SE.entry) (es' := ((wordL g b1).take 4).map SE.entry) (k := 3) (k' := 4) rfl rfl (vk := su (wS 3)) rfl (vv := wordV (wN 3) (wF g b1 3)) rfl (fun w h => run_update_se ((wordL g b1).take 3) (wS 3) (wordV (wN 3) (wF g b1 3)) Tryz.underlying70 (by simp [lookS, wordL, wS, wWrite, wCommit, wAbort, wSync, wFlush, wState]) h)) rfl (fun _ => ?_)
 refine pP (Y.makeFn rfl rfl) rfl ?_
 refine pP (Y.build rfl (bd_word 1 _ _ _)) rfl ?_
 refine WL.eff (E.insertS (es := ((wordL g b1).take 4).map SE.entry) (es' := ((wordL g b1).take 5).map SE.entry) (k := 4) (k' := 5) rfl rfl (vk := su (wS 4)) rfl (vv := wordV (wN 4) (wF g b1 4)) rfl (fun w h => run_update_se ((wordL g b1).take 4) (wS 4) (wordV (wN 4) (wF g b1 4)) Tryz.underlying70 (by simp [lookS, wordL, wS, wWrite, wCommit, wAbort, wSync, wFlush, wState]) h)) rfl (fun _ => ?_)
 refine pV (Y.load (v := .pointer (some ⟨g, 0, none⟩)) fl_29 rfl m0 rfl) rfl ?_
 refine pP (Y.makeFn rfl rfl) rfl ?_
 refine pP (Y.build rfl (bd_word 1 _ _ _)) rfl ?_
 refine WL.eff (E.insertS (es := ((wordL g b1).take 5).map SE.entry) (es' := ((wordL g b1).take 6).map SE.entry) (k := 5) (k' := 6) rfl rfl (vk := su (wS 5)) rfl (vv := wordV (wN 5) (wF g b1 5)) rfl (fun w h => run_update_se ((wordL g b1).take 5) (wS 5) (wordV (wN 5) (wF g b1 5)) Tryz.underlying70 (by simp [lookS, wordL, wS, wWrite, wCommit, wAbort, wSync, wFlush, wState]) h)) rfl (fun _ => ?_)
 refine pM rfl rfl ?_
 refine pA rfl rfl ?_
 refine nN ?_
 refine WC.ret ?_
 refine dn1 Tryz.results28 rfl (fun a w s => ?_)
 · exact ⟨(bm, b1), rfl, s.low, s.fact.1.1, (s.hp.blk _ m0).1, s.fact.1.2, (s.hp.blk _ m0).2, fun e => s.sep _ m0 (.inl e)⟩
end Go.Proofs.YtapkelocligmdaaGreatDoor
