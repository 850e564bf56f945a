/- Scan: what the document says of Redo and Losers. No condition. -/
import Derived.Test.YtapkelocligmdaaGreatDoorCl
import Derived.Test.YtapkelocligmdaaGreatDoorCb
import Derived.Test.YtapkelocligmdaaGreatDoorWl
section
set_option maxRecDepth 100000
set_option linter.unusedVariables false
set_option linter.unusedSimpArgs false
set_option linter.unusedSectionVars false
set_option maxHeartbeats 4000000
namespace Go.Proofs.YtapkelocligmdaaGreatDoor
open Go.RowKit Go.Joins
namespace R
section
variable [Inhabited DSx] [Inhabited Rdx] {P : Program} {ops : Array Oper} {Q : Exit → Act → World → Prop} {E : Env} {n : Nat} {H : Hp} {F G : SF} {w0 : World}
theorem WC.le {c : Code} (h : F.le G) (k : WC P c Q E n H G w0) : WC P c Q E n H F w0 := fun a w s => k a w (s.le h)
end
end R
section
variable [Inhabited DSx] {P : Program} {E : Env} {n : Nat} {H : Hp} {F : SF} {w0 : World}
theorem Y.makeFunc {d : Option Nat} {f : FuncId} {caps : Array Operand} {T : TypeId} {p : String} {af : Array Edge} {vs : List Value} (hx : evs E caps.toList = some vs) : Yp P E n ⟨d, .makeFunc (.func f) #[] caps, T, p, af, none⟩ (.func (.func f) #[] vs.toArray) := fun a w s => by
  have h := s.evals _ _ hx
  have h2 : caps.map a.eval = vs.toArray := by
    apply Array.toList_inj.1
    simpa using h
  show (do let v ← Instr.makeFunc (.func f) (#[].map a.eval) (caps.map a.eval); pure (Next.value v)).run P w = _
  rw [h2]
  simp [Instr.makeFunc]
end
theorem nil_sep (base e size : Nat) (F : SF) : F.le ((SF.own base e size (.slice none 0 0) 0 []).sep F) := fun w h => ⟨⟨World.ownsRow_nil w base _ _, h, fun x hx => by cases hx⟩, fun x hx => hx.elim (fun h => by cases h) id⟩
theorem Wp.start (w : World) : Wp w [] SF.top w := ⟨HpOf.nil _ _, trivial, fun _ h => (by cases h), Below.refl _ _⟩

theorem w_thoseMk (u : World) (H : Hp) (F : SF) (v : Value) (q : Addr) (A : Option Addr) (k c : Nat) (hv : v = .pointer (some q)) (w : World) (hw : Wp u H F w) : Calls Tryz.prog 139 [v, .slice A k c].toArray w fun e w' => ∃ i : Nat × Nat, e = .returned (.func (.func 150) #[] #[.pointer (some ⟨i.1, 0, none⟩), .pointer (some ⟨i.2, 0, none⟩)]) ∧ Wp u ((i.1, [.slice A k c], 73) :: (i.2, [v], 120) :: H) F w' := by
 subst hv
 refine enterW Tryz.func139 rfl Tryz.ntmps139 rfl hw ?_
 refine sR ?_
 refine WL.eff (E.box rfl rfl rfl) rfl (fun b1 => ?_)
 refine WL.eff (E.box rfl rfl rfl) rfl (fun b2 => ?_)
 refine pA rfl rfl ?_
 refine nN ?_
 refine sR ?_
 refine pP (Y.makeFunc rfl) rfl ?_
 refine pA rfl rfl ?_
 refine nN ?_
 refine WC.ret ?_
 refine dn1 Tryz.results139 rfl (fun a w s => ?_)
 · exact ⟨(b2, b1), rfl, s.wp⟩

section
variable [Inhabited DSx] {E : Env} {n : Nat} {H : Hp} {F : SF} {u : World}
theorem E.those {f : FuncId} {args : Array Operand} {ts : Array TypeId} {d : Nat} {T' : TypeId} {p : String} {af : Array Edge} {q : Addr} {A : Option Addr} {k c : Nat} (hf : f = 139) (hx : evs E args.toList = some [.pointer (some q), .slice A k c]) (hn : Nat.blt d n = true) :
    Eff Tryz.prog E n H F u ⟨some d, .call { callee := .value (.func f), args := args, argTypes := ts }, T', p, af, none⟩ (fun i : Nat × Nat => (d, .func (.func 150) #[] #[.pointer (some ⟨i.1, 0, none⟩), .pointer (some ⟨i.2, 0, none⟩)]) :: E) (fun i => (i.1, [.slice A k c], 73) :: (i.2, [.pointer (some q)], 120) :: H) (fun _ => F) := by
  subst hf
  exact Proofs.YtapkelocligmdaaGreatDoor.E.callM _ _ _ Tryz.call139 hx (fun w hw => w_thoseMk u H F _ q A k c rfl w hw) hn
end
def losersOf (l : List R) : List Int := if logErr l = 0 then losersH l.reverse else []
theorem Hsub.last (K L : Hp) (v : Nat × List Value × TypeId) : Hsub (v :: (K ++ (L ++ []))) (K ++ (L ++ [v])) := by
  refine Hsub.of_perm ?_
  simp only [List.append_nil, ← List.append_assoc]
  exact (List.perm_append_comm (l₁ := [v]) (l₂ := K ++ L))
/-- What Those captured, in front. -/
theorem Hsub.thK (x z y v : Nat × List Value × TypeId) (L : Hp) : Hsub ([x, y, z] ++ (L ++ [v])) (x :: z :: y :: v :: (L ++ [])) := by
  refine Hsub.of_perm ?_
  refine (List.Perm.swap z y _).trans (List.Perm.cons z (List.Perm.cons y ?_)) |>.cons x
  simp only [List.append_nil]
  exact (List.perm_append_comm (l₁ := [v]) (l₂ := L)).symm

end Go.Proofs.YtapkelocligmdaaGreatDoor
end
section
set_option maxRecDepth 100000
set_option linter.unusedVariables false
set_option linter.unusedSimpArgs false
set_option linter.unusedSectionVars false
set_option maxHeartbeats 4000000
namespace Go.Proofs.YtapkelocligmdaaGreatDoor
open Go.RowKit Go.Joins
theorem Y.slNil {P : Program} {E : Env} {n : Nat} [Inhabited DSx] {d : Option Nat} {x y : Operand} {T T' T2 e : TypeId} {p : String} {af : Array Edge} {A : Option Addr} {k c : Nat} (hu : P.underlying T = some (.slice e)) (hx : ev E x = some (.slice A k c)) (hy : ev E y = some (.slice none 0 0)) :
    Yp P E n ⟨d, .binOp .eql T x y T2, T', p, af, none⟩ (.bool A.isNone) := fun a w s => by
  have he : (Op.equalIn (9999 + 1) T (.slice A k c) (.slice none 0 0)).run P w = .ok A.isNone w := by
    rw [Op.equalIn]
    cases A <;> simp [run_underlying hu]
  have he2 : (Op.equalIn 10000 T (.slice A k c) (.slice none 0 0)).run P w = .ok A.isNone w := he
  simp [execOp, s.eval hx, s.eval hy, eqGuard, binOp, Op.equal, Op.maxDepth, he2]
theorem ext_le {l : List R} {w : World} {A : Option Addr} {b o : Nat} (hr : RL w A b o l) (h : A = none) : l = [] := by
  cases l with
  | nil => rfl
  | cons r l => have := (hr.at_ (by simp)).1; rw [h] at this; cases this

theorem w_clone (l : List R) (A : Option Addr) (b o c : Nat) (w : World) (hl : l.length ≤ 1000000) (hr : RL w A b o l) : Calls Tryz.prog 138 [.slice A l.length c].toArray w fun e w' => ∃ i : Option Addr × Nat, e = .returned (.slice i.1 l.length i.2) ∧ Below w.heap.size w w' ∧ w'.ownsRow w.heap.size 101 8 (.slice i.1 l.length i.2) l.length (flat l) := by
 refine enter Tryz.func138 rfl Tryz.ntmps138 rfl SF.top trivial ?_
 refine sR ?_
 refine pA rfl rfl ?_
 refine nN ?_
 refine WC.seq ?_
 refine sR ?_
 refine pM rfl rfl ?_
 refine pP (Y.slNil Tryz.underlying34 rfl rfl) rfl ?_
 refine nN ?_
 refine WC.cond rfl (fun h4 => ?_) (fun h4 => ?_)
 refine sR ?_
 refine pA rfl rfl ?_
 refine nN ?_
 refine WC.ret ?_
 refine WQ.thenRet ?_
 refine dn1 Tryz.results138 rfl (fun a w s => ?_)
 · have hl : l = [] := ext_le hr (by simpa using h4)
   subst hl
   exact ⟨(none, 0), rfl, s.low, own_nil _ _ _ _⟩
 refine WC.skip' ?_
 refine WQ.next ?_
 refine sR ?_
 refine WL.eff (E.buildSlice (bs_34_0 ) rfl rfl) rfl (fun b1 => ?_)
 refine WL.toOwn 0 0 8 [] rfl (Nat.le_refl _) (Nat.zero_le _) rfl rfl ?_
 refine pM rfl rfl ?_
 refine WL.eff (E.appendRL (l := l) rfl rfl rfl (fun w hw => hr.below hw.2.2.2) (by omega) rfl) rfl (fun i => ?_)
 rw [show 0 + l.length = l.length from Nat.zero_add _, List.nil_append]
 refine pA rfl rfl ?_
 refine nN ?_
 refine WC.ret ?_
 refine dn1 Tryz.results138 rfl (fun a w s => ?_)
 · exact ⟨i, rfl, s.low, s.fact.1⟩

section
variable [Inhabited DSx] {E : Env} {n : Nat} {H : Hp} {F : SF} {u : World}
theorem E.clone {f : FuncId} {args : Array Operand} {ts : Array TypeId} {d : Nat} {T' : TypeId} {p : String} {af : Array Edge} {A : Option Addr} {b o c : Nat} (l : List R) (hf : f = 138) (hx : evs E args.toList = some [.slice A l.length c]) (hl : l.length ≤ 1000000) (hr : ∀ a w, St E n H F u a w → RL w A b o l) (hn : Nat.blt d n = true) :
    Eff Tryz.prog E n H F u ⟨some d, .call { callee := .value (.func f), args := args, argTypes := ts }, T', p, af, none⟩ (fun i : Option Addr × Nat => (d, .slice i.1 l.length i.2) :: E) (fun _ => H) (fun i => (SF.own u.heap.size 101 8 (.slice i.1 l.length i.2) l.length (flat l)).sep F) := by
  subst hf
  exact Proofs.YtapkelocligmdaaGreatDoor.E.callN _ _ Tryz.call138 hx (fun a w s => (w_clone l A b o c w hl (hr a w s)).mono fun e w' ⟨i, he, hb, ho⟩ => ⟨i, he, hb, ownsRow_le ho s.low.size, fun g hg => (ho.lt g hg).1⟩) hn
end

theorem w_scanCrash (x : Wd) (A : Option Addr) (b o c : Nat) (w : World) (hm : x.log.length ≤ maxLen) (hcap : x.log.length ≤ c) (hr : RL w A b o x.log) : RetW Tryz.prog 116 [x.val A c] w (crashOf x).1 [.int .i64 (crashOf x).2] := by
 refine enter Tryz.func116 rfl Tryz.ntmps116 rfl SF.top trivial ?_
 refine sR ?_
 refine WL.eff (E.box rfl rfl rfl) rfl (fun b1 => ?_)
 refine WL.eff (E.alloc Tryz.zeroValue36 rfl rfl) rfl (fun b2 => ?_)
 refine pA rfl rfl ?_
 refine nN ?_
 refine WC.seq ?_
 refine sR ?_
 refine pV (Y.loadAN wd_36 rfl (by repeat (first | exact List.Mem.head _ | apply List.Mem.tail)) (r := (x).cl A c) rfl) rfl ?_
 refine WL.eff (E.call Tryz.call137 rfl (fun _ w s => w_worldCheck x A b o c w hm hcap (hr.below s.low)) rfl) rfl (fun _ => ?_)
 refine pA rfl rfl ?_
 refine nN ?_
 refine sR ?_
 refine pM rfl rfl ?_
 refine pP (Y.neq rfl rfl) rfl ?_
 refine nN ?_
 refine WC.cond rfl (fun h8 => ?_) (fun h8 => ?_)
 refine sR ?_
 refine pP (Y.build rfl (bf_36 )) rfl ?_
 refine pM rfl rfl ?_
 refine WL.eff (E.store Tryz.sizeOf36 rfl rfl rfl rfl rfl u0 rfl rfl) rfl (fun _ => ?_)
 refine pA rfl rfl ?_
 refine nN ?_
 refine WC.ret ?_
 refine WQ.thenRet ?_
 refine WQ.done Tryz.results116 (RVs.cons (RV.cell wd_36 rfl m0 rfl) (RVs.cons (RV.tmp rfl) RVs.nil)) (fun a w s => ?_)
 · have e : crashOf x = (Wd.zero, worldErr x) := by
     unfold crashOf; rw [if_neg (by simpa using h8)]
   rw [e]
   exact ⟨(none, 0), rfl, s.low, own_nil _ _ _ _⟩
 refine WC.skip' ?_
 refine WQ.next ?_
 refine WC.seq ?_
 have h0 : worldErr x = 0 := by simpa using h8
 obtain ⟨hl0, h60, hR, hsf, _⟩ := world_right h0
 refine WC.region ?_
 refine pP (Y.fieldAddr fa_36_1 rfl) rfl ?_
 refine pV (Y.load (cs := (x).cl A c) (v := .slice A (x).log.length c) fl_34 rfl (by repeat (first | exact List.Mem.head _ | apply List.Mem.tail)) rfl) rfl ?_
 refine pP (Y.fieldAddr fa_36_2 rfl) rfl ?_
 refine pV (Y.load (cs := (x).cl A c) (v := .int .i64 x.safe) fl_3 rfl (by repeat (first | exact List.Mem.head _ | apply List.Mem.tail)) rfl) rfl ?_
 refine pP (Y.slToN (x.log.take x.safe.toNat).length (take_cast hsf) Tryz.underlying34 Tryz.sizeOf101 rfl rfl (by simp; omega)) rfl ?_
 refine WL.eff (E.clone (b := b) (o := o) (x.log.take x.safe.toNat) rfl rfl (by simp; omega) (fun a w s => (hr.below s.low).take _) rfl) rfl (fun i => ?_)
 refine pP (Y.fieldAddr fa_36_1 rfl) rfl ?_
 refine WL.eff (E.store Tryz.sizeOf34 rfl rfl rfl rfl rfl u1 rfl rfl) rfl (fun _ => ?_)
 refine nN ?_
 refine sR ?_
 refine pV (Y.loadAN wd_36 rfl m1 (r := x.cut.cl i.1 i.2) rfl) rfl ?_
 refine WL.eff (E.store Tryz.sizeOf36 rfl rfl rfl rfl rfl u0 rfl rfl) rfl (fun _ => ?_)
 refine pA rfl rfl ?_
 refine nN ?_
 refine WC.ret ?_
 refine WQ.done Tryz.results116 (RVs.cons (RV.cell wd_36 rfl m0 rfl) (RVs.cons (RV.tmp rfl) RVs.nil)) (fun a w s => ?_)
 · have e : crashOf x = (x.cut, 0) := by unfold crashOf; rw [if_pos h0]
   rw [e]
   exact ⟨i, rfl, s.low, s.fact.1⟩

end Go.Proofs.YtapkelocligmdaaGreatDoor
end
section
set_option maxRecDepth 100000
set_option linter.unusedVariables false
set_option linter.unusedSimpArgs false
set_option linter.unusedSectionVars false
set_option maxHeartbeats 4000000
namespace Go.Proofs.YtapkelocligmdaaGreatDoor
open Go.RowKit Go.Joins
def lostB (h : List R) (t : Int) : Bool := stt h t == 1 || stt h t == 3
theorem w_refLosers (l : List R) (A : Option Addr) (b o c : Nat) (w : World) (hl : l.length ≤ 60) (hr : RL w A b o l) : Calls Tryz.prog 131 [.slice A l.length c].toArray w fun e w' => ∃ i : Option Addr × Nat, e = .returned (.slice i.1 (losersH l.reverse).length i.2) ∧ Below w.heap.size w w' ∧ w'.ownsRow w.heap.size 3 1 (.slice i.1 (losersH l.reverse).length i.2) (losersH l.reverse).length (ints (losersH l.reverse)) := by
 refine enter Tryz.func131 rfl Tryz.ntmps131 rfl SF.top trivial ?_
 refine sR ?_
 refine pA rfl rfl ?_
 refine nN ?_
 refine sR ?_
 refine pA rfl rfl ?_
 refine nN ?_
 refine WC.seq ?_
 refine sR ?_
 refine pA rfl rfl ?_
 refine nN ?_
 refine WC.block ?_
 refine WC.le (nil_sep w.heap.size 3 1 _) ?_
 refine WC.loop (ι := Nat × Option Addr × Nat) (fun k => [(0, .slice A l.length c), (3, .slice k.2.1 (selT (lostB l.reverse) k.1).length k.2.2), (4, .int .i64 ((k.1 : Int) + 1))]) (fun _ => []) (fun k => (SF.own w.heap.size 3 1 (.slice k.2.1 (selT (lostB l.reverse) k.1).length k.2.2) (selT (lostB l.reverse) k.1).length (ints (selT (lostB l.reverse) k.1))).sep SF.top) (fun k => k.1 ≤ 9) (fun k => 9 - k.1) (0, none, 0) (Nat.zero_le _) (fun a w s => s.weak (by repeat (first | exact sub_nil _ | refine sub_cons rfl ?_))) (fun k hk => ?_)
 obtain ⟨m, q⟩ := k
 dsimp only at hk ⊢
 refine WC.seq ?_
 refine sR ?_
 refine pM rfl rfl ?_
 refine pP (Y.leq rfl rfl) rfl ?_
 refine nN ?_
 refine WC.cond rfl (fun h7 => ?_) (fun h7 => ?_)
 refine WC.skip' ?_
 refine WQ.next ?_
 refine WC.seq ?_
 refine WC.block ?_
 refine WC.seq ?_
 have hm8 : m < 9 := by simp at h7; omega
 have hsl := selT_len (lostB l.reverse) m
 obtain ⟨i0, hi0, hz0, hz1, hz2⟩ := info_parts int_info
 refine WC.region ?_
 refine pM rfl rfl ?_
 refine pM rfl rfl ?_
 refine WL.eff (E.call Tryz.call74 rfl (fun _ w s => w_state l A b o c ((m : Int) + 1) w hl (hr.below s.low)) rfl) rfl (fun _ => ?_)
 refine pA rfl rfl ?_
 refine nN ?_
 refine sR ?_
 refine pM rfl rfl ?_
 refine pP (Y.eql rfl rfl) rfl ?_
 refine pM rfl rfl ?_
 refine WL.split (t := 15) rfl (fun r h15 => ?_)
 cases r
 refine gT rfl ?_
 refine pM rfl rfl ?_
 refine gT rfl ?_
 refine pP (Y.eql rfl rfl) rfl ?_
 refine pP (Y.pickF rfl rfl) rfl ?_
 refine nN ?_
 refine WC.cond rfl (fun h18 => ?_) (fun h18 => ?_)
 refine WC.region ?_
 refine pM rfl rfl ?_
 refine pM rfl rfl ?_
 refine WL.eff (E.buildSlice (bs_73_1 _) rfl rfl) rfl (fun b1 => ?_)
 refine WL.eff (E.appendG Tryz.underlying73 hi0 hz0 hz1 hz2 rfl (by decide) rfl rfl rfl m0 rfl rfl (by unfold maxLen; omega) (by omega) rfl) rfl (fun i => ?_)
 refine pA rfl rfl ?_
 refine WL.nil ?_
 refine WQ.blockEnd ?_
 refine WQ.next ?_
 refine WC.region ?_
 refine pM rfl rfl ?_
 refine pP (Y.add rfl rfl (i64_in (by omega) (by omega))) rfl ?_
 refine pA rfl rfl ?_
 refine WL.nil ?_
 · have hf : lostB l.reverse ((m : Int) + 1) = true := by
     unfold lostB
     first
       | (have h15 := h15; have h18 := h18; simp at h15 h18 ⊢; omega)
       | (have h15 := h15; simp at h15 ⊢; omega)
   have e1 : (selT (lostB l.reverse) (m + 1)).length = (selT (lostB l.reverse) m).length + 1 := by rw [selT_in hf]; simp
   have e2 : ints (selT (lostB l.reverse) (m + 1)) = ints (selT (lostB l.reverse) m) ++ [.int .i64 ((m : Int) + 1)] := by rw [selT_in hf]; simp [ints]
   refine fun a w s => ⟨(m + 1, i), by simp; omega, by simp; omega, ?_⟩
   dsimp only
   rw [e1, e2]
   exact (s.sub (Hsub.of_sub (List.sublist_cons_self _ _))).weak (by repeat (first | exact sub_nil _ | refine sub_cons rfl ?_))
 refine WC.skip' ?_
 refine WQ.blockEnd ?_
 refine WQ.next ?_
 refine WC.region ?_
 refine pM rfl rfl ?_
 refine pP (Y.add rfl rfl (i64_in (by omega) (by omega))) rfl ?_
 refine pA rfl rfl ?_
 refine WL.nil ?_
 · have hf : lostB l.reverse ((m : Int) + 1) = false := by
     have h15 := h15
     have h18 := h18
     unfold lostB
     simp at h15 h18 ⊢
     omega
   refine fun a w s => ⟨(m + 1, q), by simp; omega, by simp; omega, ?_⟩
   dsimp only
   rw [selT_out hf]
   exact s.weak (by repeat (first | exact sub_nil _ | refine sub_cons rfl ?_))
 refine gF rfl ?_
 refine gF rfl ?_
 refine pP (Y.pickT rfl rfl) rfl ?_
 refine nN ?_
 refine WC.condT rfl ?_
 refine WC.region ?_
 refine pM rfl rfl ?_
 refine pM rfl rfl ?_
 refine WL.eff (E.buildSlice (bs_73_1 _) rfl rfl) rfl (fun b2 => ?_)
 refine WL.eff (E.appendG Tryz.underlying73 hi0 hz0 hz1 hz2 rfl (by decide) rfl rfl rfl m0 rfl rfl (by unfold maxLen; omega) (by omega) rfl) rfl (fun i => ?_)
 refine pA rfl rfl ?_
 refine WL.nil ?_
 refine WQ.blockEnd ?_
 refine WQ.next ?_
 refine WC.region ?_
 refine pM rfl rfl ?_
 refine pP (Y.add rfl rfl (i64_in (by omega) (by omega))) rfl ?_
 refine pA rfl rfl ?_
 refine WL.nil ?_
 · have hf : lostB l.reverse ((m : Int) + 1) = true := by
     unfold lostB
     first
       | (have h15 := h15; have h18 := h18; simp at h15 h18 ⊢; omega)
       | (have h15 := h15; simp at h15 ⊢; omega)
   have e1 : (selT (lostB l.reverse) (m + 1)).length = (selT (lostB l.reverse) m).length + 1 := by rw [selT_in hf]; simp
   have e2 : ints (selT (lostB l.reverse) (m + 1)) = ints (selT (lostB l.reverse) m) ++ [.int .i64 ((m : Int) + 1)] := by rw [selT_in hf]; simp [ints]
   refine fun a w s => ⟨(m + 1, i), by simp; omega, by simp; omega, ?_⟩
   dsimp only
   rw [e1, e2]
   exact (s.sub (Hsub.of_sub (List.sublist_cons_self _ _))).weak (by repeat (first | exact sub_nil _ | refine sub_cons rfl ?_))
 refine WC.exit ?_
 refine WQ.thenExit ?_
 refine WQ.thenExit ?_
 refine WQ.blockExit ?_
 refine WQ.next ?_
 refine sR ?_
 refine pM rfl rfl ?_
 refine pA rfl rfl ?_
 refine nN ?_
 refine WC.ret ?_
 refine dn1 Tryz.results131 rfl (fun a w s => ?_)
 · have hm9 : m = 9 := by simp at h7; omega
   subst hm9
   exact ⟨q, rfl, s.low, s.fact.1⟩

end Go.Proofs.YtapkelocligmdaaGreatDoor
end
