/- Scan: Those and Losers. No condition. -/
import Derived.Test.YtdbcimadjmdffaaCl
set_option maxRecDepth 100000
set_option linter.unusedVariables false
set_option linter.unusedSimpArgs false
set_option linter.unusedSectionVars false
set_option maxHeartbeats 4000000
namespace Go.Proofs.Ytdbcimadjmdffaa
open Go.RowKit Go.Joins
namespace R
section
variable [Inhabited DSx] [Inhabited Rdx] {P : Program} {ops : Array Oper} {Q : Exit → Act → World → Prop} {E : Env} {n : Nat} {H : Hp} {F G : SF} {w0 : World}
theorem WC.le {c : Code} (h : F.le G) (k : WC P c Q E n H G w0) : WC P c Q E n H F w0 := fun a w s => k a w (s.le h)
end
end R
section
variable [Inhabited DSx] {P : Program} {E : Env} {n : Nat} {H : Hp} {F : SF} {w0 : World}
theorem Y.makeFunc {d : Option Nat} {f : FuncId} {caps : Array Operand} {T : TypeId} {p : String} {af : Array Edge} {vs : List Value} (hx : evs E caps.toList = some vs) : Yp P E n ⟨d, .makeFunc (.func f) #[] caps, T, p, af, none⟩ (.func (.func f) #[] vs.toArray) := fun a w s => by
  have h := s.evals _ _ hx
  have h2 : caps.map a.eval = vs.toArray := by
    apply Array.toList_inj.1
    simpa using h
  show (do let v ← Instr.makeFunc (.func f) (#[].map a.eval) (caps.map a.eval); pure (Next.value v)).run P w = _
  rw [h2]
  simp [Instr.makeFunc]
end
theorem nil_sep (base e size : Nat) (F : SF) : F.le ((SF.own base e size (.slice none 0 0) 0 []).sep F) := fun w h => ⟨⟨World.ownsRow_nil w base _ _, h, fun x hx => by cases hx⟩, fun x hx => hx.elim (fun h => by cases h) id⟩
theorem Wp.start (w : World) : Wp w [] SF.top w := ⟨HpOf.nil _ _, trivial, fun _ h => (by cases h), Below.refl _ _⟩

theorem w_thoseMk (u : World) (H : Hp) (F : SF) (v : Value) (q : Addr) (A : Option Addr) (k c : Nat) (hv : v = .pointer (some q)) (w : World) (hw : Wp u H F w) : Calls Try.prog 147 [v, .slice A k c].toArray w fun e w' => ∃ i : Nat × Nat, e = .returned (.func (.func 163) #[] #[.pointer (some ⟨i.1, 0, none⟩), .pointer (some ⟨i.2, 0, none⟩)]) ∧ Wp u ((i.1, [.slice A k c], 64) :: (i.2, [v], 105) :: H) F w' := by
 subst hv
 refine enterW Try.func147 rfl Try.ntmps147 rfl hw ?_
 refine sR ?_
 refine WL.eff (E.box rfl rfl rfl) rfl (fun b1 => ?_)
 refine WL.eff (E.box rfl rfl rfl) rfl (fun b2 => ?_)
 refine pA rfl rfl ?_
 refine nN ?_
 refine sR ?_
 refine pP (Y.makeFunc rfl) rfl ?_
 refine pA rfl rfl ?_
 refine nN ?_
 refine WC.ret ?_
 refine dn1 Try.results147 rfl (fun a w s => ?_)
 · exact ⟨(b2, b1), rfl, s.wp⟩

section
variable [Inhabited DSx] {E : Env} {n : Nat} {H : Hp} {F : SF} {u : World}
theorem E.those {f : FuncId} {args : Array Operand} {ts : Array TypeId} {d : Nat} {T' : TypeId} {p : String} {af : Array Edge} {q : Addr} {A : Option Addr} {k c : Nat} (hf : f = 147) (hx : evs E args.toList = some [.pointer (some q), .slice A k c]) (hn : Nat.blt d n = true) :
    Eff Try.prog E n H F u ⟨some d, .call { callee := .value (.func f), args := args, argTypes := ts }, T', p, af, none⟩ (fun i : Nat × Nat => (d, .func (.func 163) #[] #[.pointer (some ⟨i.1, 0, none⟩), .pointer (some ⟨i.2, 0, none⟩)]) :: E) (fun i => (i.1, [.slice A k c], 64) :: (i.2, [.pointer (some q)], 105) :: H) (fun _ => F) := by
  subst hf
  exact Proofs.Ytdbcimadjmdffaa.E.callM _ _ _ Try.call147 hx (fun w hw => w_thoseMk u H F _ q A k c rfl w hw) hn
end
def losersOf (l : List R) : List Int := if logErr l = 0 then losersH l.reverse else []
theorem losers_sel (h : List R) : selT (fun t => [(1 : Int), 3].contains (stt h t : Int)) 9 = losersH h := by
  unfold losersH selT
  rw [show tos 9 = nine from rfl]
  refine List.filter_congr fun t _ => ?_
  have := stt_le4 h t
  have e : stt h t = 0 ∨ stt h t = 1 ∨ stt h t = 2 ∨ stt h t = 3 ∨ stt h t = 4 := by omega
  rcases e with e | e | e | e | e <;> rw [e] <;> rfl
theorem Hsub.last (K L : Hp) (v : Nat × List Value × TypeId) : Hsub (v :: (K ++ (L ++ []))) (K ++ (L ++ [v])) := by
  refine Hsub.of_perm ?_
  simp only [List.append_nil, ← List.append_assoc]
  exact (List.perm_append_comm (l₁ := [v]) (l₂ := K ++ L))
theorem Hsub.unlast (K L : Hp) (v : Nat × List Value × TypeId) : Hsub (K ++ (L ++ [v])) (v :: (K ++ (L ++ []))) := by
  refine Hsub.of_perm ?_
  simp only [List.append_nil, ← List.append_assoc]
  exact (List.perm_append_comm (l₁ := [v]) (l₂ := K ++ L)).symm
/-- What Those captured, in front. -/
theorem Hsub.thK (x z y v : Nat × List Value × TypeId) (L : Hp) : Hsub ([x, y, z] ++ (L ++ [v])) (x :: z :: y :: v :: (L ++ [])) := by
  refine Hsub.of_perm ?_
  refine (List.Perm.swap z y _).trans (List.Perm.cons z (List.Perm.cons y ?_)) |>.cons x
  simp only [List.append_nil]
  exact (List.perm_append_comm (l₁ := [v]) (l₂ := L)).symm

theorem w_losers (l : List R) (A : Option Addr) (b o c : Nat) (w : World) (hr : RL w A b o l) : Calls Try.prog 95 [.slice A l.length c].toArray w fun e w' => ∃ i : Option Addr × Nat, e = .returned (.tuple #[.slice i.1 (losersOf l).length i.2, .int .i64 (logErr l)]) ∧ Below w.heap.size w w' ∧ w'.ownsRow w.heap.size 3 1 (.slice i.1 (losersOf l).length i.2) (losersOf l).length (ints (losersOf l)) := by
 refine enterM Try.func95 rfl Try.ntmps95 rfl (Wp.start w) ?_
 refine sR ?_
 refine pA rfl rfl ?_
 refine pA rfl rfl ?_
 refine nN ?_
 refine sR ?_
 refine pM rfl rfl ?_
 refine WL.eff (E.read [] l A b o c rfl (fun w hw => hr.below hw.2.2.2) rfl rfl rfl) rfl (fun i => ?_)
 obtain ⟨B, hB⟩ := i
 dsimp only
 refine pM rfl rfl ?_
 refine pP (Y.extract rfl rfl) rfl ?_
 refine pP (Y.extract rfl rfl) rfl ?_
 refine pA rfl rfl ?_
 refine pA rfl rfl ?_
 refine nN ?_
 refine WC.seq ?_
 refine sR ?_
 refine pM rfl rfl ?_
 refine pP (Y.neq rfl rfl) rfl ?_
 refine nN ?_
 refine WC.cond rfl (fun h14 => ?_) (fun h14 => ?_)
 refine sR ?_
 refine pM rfl rfl ?_
 refine pA rfl rfl ?_
 refine pA rfl rfl ?_
 refine nN ?_
 refine WC.ret ?_
 refine WQ.thenRet ?_
 have e : losersOf l = [] := by unfold losersOf; rw [if_neg (by simpa using h14)]
 refine doneM0 (.inl rfl) rfl (rs := [.tmp 2, .tmp 3]) (vs := [.slice none 0 0, .int .i64 (logErr l)]) Try.results95 (RVs.cons (RV.tmp rfl) (RVs.cons (RV.tmp rfl) RVs.nil)) (fun w2 s => ⟨(none, 0), ?_, s.2.2.2, ?_⟩)
 · rw [e]; rfl
 · rw [e]; exact own_nil _ _ _ _
 refine WC.skip' ?_
 refine WQ.next ?_
 refine WC.seq ?_
 have h0 : logErr l = 0 := by simpa using h14
 obtain ⟨h60, hR⟩ := log_right h0
 have hB0 := hB h0
 have e9 : losersOf l = losersH l.reverse := by unfold losersOf; rw [if_pos h0]
 refine WC.region ?_
 refine WL.eff (E.alloc Try.zeroValue64 rfl rfl) rfl (fun b1 => ?_)
 refine nN ?_
 refine WC.seq ?_
 refine sR ?_
 refine pM rfl rfl ?_
 refine WL.eff (E.buildSlice (bs_64_2 _ _) rfl rfl) rfl (fun b2 => ?_)
 refine WL.eff (E.those (q := ⟨B.bk, 0, none⟩) rfl rfl rfl) rfl (fun i => ?_)
 refine nN ?_
 refine WC.block ?_
 obtain ⟨i1, i2⟩ := i
 dsimp only
 refine WC.le (nil_sep w.heap.size 3 1 _) ?_
 refine WC.rangeFunc (ι := {p : (List Int × Option Addr × Nat) × Bk // BOk p.2 l.reverse ∧ p.1.1 = losersH l.reverse}) (κ := Empty) (fun p => thK i1 b2 i2 B.bk 2 [1, 3] ++ (p.1.2.hp ++ (fun j : List Int × Option Addr × Nat => [(b1, [.slice j.2.1 j.1.length j.2.2], 64)]) p.1.1)) (fun p => (SF.bk w.heap.size p.1.2).sep ((SF.own w.heap.size 3 1 (.slice p.1.1.2.1 p.1.1.1.length p.1.1.2.2) p.1.1.1.length (ints p.1.1.1)).sep SF.top)) (fun _ => []) (fun _ => SF.top) rfl Try.call163 (fun fn tmps D W hE hn hW => ?_) ?_ (fun _ _ _ k => k.elim)
 · have hW1 := (hW.sub (Hsub.thK _ _ _ _ _)).le (G := (SF.bk w.heap.size B).sep ((SF.obj w.heap.size (D + 1) (.loop (recO .ready none fn tmps #[19] _ _ D))).sep ((SF.own w.heap.size 3 1 (.slice (([], none, 0) : List Int × Option Addr × Nat).2.1 (([], none, 0) : List Int × Option Addr × Nat).1.length (([], none, 0) : List Int × Option Addr × Nat).2.2) (([], none, 0) : List Int × Option Addr × Nat).1.length (ints (([], none, 0) : List Int × Option Addr × Nat).1)).sep ((SF.obj w.heap.size D (.deferred (some []))).sep SF.top)))) (by
     refine SF.le_trans (SF.sep_mono (SF.le_refl _) (SF.sep_mono (SF.le_refl _) (SF.sep_rot _ _ _))) ?_
     refine SF.le_trans (SF.sep_mono (SF.le_refl _) (SF.sep_rot _ _ _)) ?_
     refine SF.le_trans (SF.sep_rot _ _ _) ?_
     exact SF.sep_mono (SF.le_refl _) (SF.sep_mono (SF.le_refl _) (SF.sep_rot _ _ _)))
   refine (R.w_those w l.reverse hR [1, 3] (by decide) i1 b2 i2 B.bk 2 (D + 1) (fun j : List Int × Option Addr × Nat => [(b1, [.slice j.2.1 j.1.length j.2.2], 64)]) (fun j => (SF.obj w.heap.size (D + 1) (.loop (recO .ready none fn tmps #[19] _ _ D))).sep ((SF.own w.heap.size 3 1 (.slice j.2.1 j.1.length j.2.2) j.1.length (ints j.1)).sep ((SF.obj w.heap.size D (.deferred (some []))).sep SF.top))) (fun m j => j.1 = selT (fun t => [(1 : Int), 3].contains (stt l.reverse t : Int)) m) (fun _ : Empty => []) (fun _ => SF.top) (fun _ _ => False) (fun m j hf hj => by rw [selT_out hf]; exact hj) (fun m j B' W' hB' hbk' ht hsel hrel hW' => ?_) B hB0 rfl ([], none, 0) rfl W hW1).mono fun e w' hh => ?_
   rotate_left
   · obtain ⟨he, ⟨j, B', ⟨hB', hbk', hj⟩, hw'⟩ | ⟨k, _⟩⟩ := hh
     · refine ⟨he, .inl ⟨⟨(j, B'), hB', hj.trans (losers_sel _)⟩, hw'.le ?_⟩⟩
       refine SF.le_trans (SF.sep_rot _ _ _) (SF.sep_mono (SF.le_refl _) ?_)
       exact SF.le_trans (SF.sep_mono (SF.le_refl _) (SF.sep_rot _ _ _)) (SF.sep_rot _ _ _)
     · exact k.elim
   have hjl : j.1.length ≤ 9 := by rw [hrel]; have := selT_len (fun t => [(1 : Int), 3].contains (stt l.reverse t : Int)) m; omega
   refine round_at 7 (hW'.le (SF.sep_rot _ _ _)) hE hn rfl (fun i0 iR hd => ?_) (fun i0 iR hd => ?_)
   · refine R.WC.region ?_
     refine R.pA rfl rfl ?_
     refine R.WL.nil ?_
     exact fun a w s => ⟨rfl, s⟩
   refine R.WC.block ?_
   obtain ⟨i0', hi0, hz0, hz1, hz2⟩ := info_parts int_info
   refine R.WC.le (SF.le_trans (SF.sep_mono (SF.le_refl _) (SF.sep_rot _ _ _)) (SF.sep_rot _ _ _)) ?_
   refine R.WC.sub (Hsub.last _ _ _) ?_
   refine R.WC.region ?_
   refine R.pV (Y.load (cs := [.slice j.2.1 j.1.length j.2.2]) (v := .slice j.2.1 j.1.length j.2.2) fl_64 rfl m0 rfl) rfl ?_
   refine R.pM rfl rfl ?_
   refine R.WL.eff (E.buildSlice (bs_64_1 _) rfl rfl) rfl (fun b3 => ?_)
   refine R.WL.eff (E.appendG Try.underlying64 hi0 hz0 hz1 hz2 rfl (by decide) rfl rfl rfl m0 rfl rfl (by unfold maxLen; omega) (by omega) rfl) rfl (fun i => ?_)
   refine R.WL.eff (E.store Try.sizeOf64 rfl rfl rfl rfl rfl (by repeat (first | exact Upd.here | apply Upd.there)) rfl rfl) rfl (fun _ => ?_)
   refine R.WL.nil ?_
   refine WQ.blockEnd ?_
   refine WQ.le (SF.sep_rot _ _ _) ?_
   refine WQ.again fun W2 hW2 => .inl ⟨rfl, ⟨((j.1 ++ [(m : Int) + 1], i.1, i.2), B'), hB', hbk', by rw [hrel, selT_in hsel]⟩, ?_⟩
   have e1 : (j.1 ++ [(m : Int) + 1]).length = j.1.length + 1 := by simp
   have e2 : ints (j.1 ++ [(m : Int) + 1]) = ints j.1 ++ [.int .i64 ((m : Int) + 1)] := by simp [ints]
   dsimp only
   rw [e1, e2]
   exact ((hW2.le (SF.le_trans (SF.sep_mono (SF.le_refl _) (SF.sep_rot _ _ _)) (SF.sep_rot _ _ _))).sub (Hsub.of_sub (List.sublist_cons_self _ _))).sub (Hsub.unlast _ _ _)
 intro D i2' hd2 p
 obtain ⟨⟨j, B'⟩, hB', hj⟩ := p
 dsimp only at hB' hj ⊢
 refine WQ.blockEnd ?_
 refine WQ.next ?_
 refine sR ?_
 refine pV (Y.load (cs := [.slice j.2.1 j.1.length j.2.2]) (v := .slice j.2.1 j.1.length j.2.2) fl_64 rfl (List.mem_append_right _ (List.mem_append_right _ (List.Mem.head _))) rfl) rfl ?_
 refine pA rfl rfl ?_
 refine pA rfl rfl ?_
 refine nN ?_
 refine WC.ret ?_
 refine doneM1 (.inl rfl) hd2 (rs := [.tmp 2, .tmp 3]) (vs := [.slice j.2.1 j.1.length j.2.2, .int .i64 0]) Try.results95 (RVs.cons (RV.tmp rfl) (RVs.cons (RV.tmp rfl) RVs.nil)) (fun w2 s => ⟨j.2, ?_, s.2.2.2, ?_⟩)
 · rw [e9, ← hj, h0]; rfl
 · rw [e9, ← hj]; exact s.2.1.2.1.1
end Go.Proofs.Ytdbcimadjmdffaa
