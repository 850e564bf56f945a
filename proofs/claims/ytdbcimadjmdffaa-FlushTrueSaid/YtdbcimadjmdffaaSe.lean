/- Regions that draw their order where two operations of one's own may come in either order. No condition. -/
import Derived.Test.YtdbcimadjmdffaaP4
set_option linter.unusedVariables false
set_option linter.unusedSimpArgs false
set_option linter.unusedSectionVars false
namespace Go.Proofs.Ytdbcimadjmdffaa
open Go.RowKit
def lst (n : Nat) (ds : List Nat) : Array Bool := ds.foldr (fun d a => a.setIfInBounds d true) (Array.replicate n false)
def sameK (x y : Nat × K4) : Bool := Nat.beq x.1 y.1 && ((x.2.special == y.2.special) && (x.2.flag == y.2.flag))
theorem sameK_eq {x y : Nat × K4} (h : sameK x y = true) : x = y := by
  obtain ⟨i, a, b⟩ := x
  obtain ⟨j, c, d⟩ := y
  simp only [sameK, Bool.and_eq_true, beq_iff_eq] at h
  obtain ⟨h1, rfl, rfl⟩ := h
  obtain rfl := Nat.eq_of_beq_eq_true h1
  rfl
def chkQ (l : List Oper) (all : List (Nat × K4)) (ds : List Nat) (i : Nat) (imp : Bool) : Bool :=
  (Region.ready .any l.toArray (lst l.length ds)).contains i && (Region.free .any l.toArray (lst l.length ds) i && (!brks all i && (Region.noSelect l.toArray && (!imp || all.all fun y => !(y.2.special && y.2.flag) || (lst l.length ds).getD y.1 true || (ancs .any l.toArray (List.range l.length).reverse [y.1]).any (Nat.beq i)))))
def chk2 (l : List Oper) (all : List (Nat × K4)) (ds : List Nat) (i j : Nat) : Bool := (Region.ready .any l.toArray (lst l.length ds) == [i, j]) && (!brks all i && !brks all j)
def chkL (l : List Oper) (all : List (Nat × K4)) (ds : List Nat) (L : List (Nat × K4)) : Bool :=
  planB l.toArray none all L (lst l.length ds) && (waitB l.toArray [] L && (Region.noSelect l.toArray && ((all.all fun y => (lst l.length ds).getD y.1 true || L.any (sameK y)) && L.all fun z => all.any (sameK z))))
section
variable [Inhabited DSx] {P : Program} {l : List Oper} {Q : Exit → Act → World → Prop} {n : Nat} {w0 : World} {all : List (Nat × K4)} {f : Nat} {ds : List Nat} {E : Env} {H : Hp} {F : SF}
/-- What is left of a drawn region, ds being over. -/
def AD (P : Program) (l : List Oper) (Q : Exit → Act → World → Prop) (n : Nat) (w0 : World) (all : List (Nat × K4)) (f : Nat) (ds : List Nat) (E : Env) (H : Hp) (F : SF) : Prop :=
  DC .any l.toArray (lst l.length ds) → Ax (wkG none w0) P .any l.toArray (fun e a w => e = .normal ∧ Q e a w) (brks all) none f (lst l.length ds) (St E n H F w0)
theorem AD.quiet {i d : Nat} {o : Oper} {v : Value} {imp : Bool} (hi : nthO l i = some o) (hc : chkQ l all ds i imp = true) (hq : QS P l.toArray imp o d v E n H F w0) (hd : o.dst = some d) (hn : Nat.blt d n = true) (hl : look E d = none)
    (h : AD P l Q n w0 all f (i :: ds) ((d, v) :: E) H F) : AD P l Q n w0 all (f + 1) ds E H F := fun hdc => by
  unfold chkQ at hc
  simp only [Bool.and_eq_true, Bool.not_eq_true', Bool.or_eq_true, List.contains_iff_mem] at hc
  obtain ⟨hr, hf, hb, hs, hw⟩ := hc
  have hoi : l.toArray[i]? = some o := by rw [nthO_eq] at hi; simpa using hi
  refine Ax.first (fin := none) (fun j hj => by cases hj) (i := i) (d := d) (v := v) hoi hd (Region.noSelect_spec hs) (fun c a w h => by cases h.1) (wkG_refl none w0) (wkG_trans none w0) hb f _ _ (Region.free_spec hoi hf) hr hdc ?_ (fun a w u => St.ins hl) (fun a w s => by rw [s.env.size]; simpa [Nat.blt_eq] using hn) Gr_St (imp := imp) ?_ ?_
  · intro himp j oj hbj hoj hun
    subst himp
    unfold brks at hbj
    obtain ⟨y, hy, hy2⟩ := List.any_eq_true.1 hbj
    rw [Bool.and_eq_true] at hy2
    obtain ⟨hy3, hy4⟩ := hy2
    obtain rfl := Nat.eq_of_beq_eq_true hy3
    rcases hw with h1 | h1
    · cases h1
    · have h2 := List.all_eq_true.1 h1 y hy
      rw [hy4, hun] at h2
      simp only [Bool.not_true, Bool.false_or] at h2
      obtain ⟨s, hs1, hs2⟩ := List.any_eq_true.1 h2
      exact ⟨_, by rw [Nat.eq_of_beq_eq_true hs2]; exact hs1⟩
  · intro a w s K hK
    unfold wpOp
    simp only [hoi]
    have h3 := hq a w (by
      obtain ⟨w1, s, hg⟩ := s
      cases imp
      · exact ⟨w1, s⟩
      · have h2 := hg rfl; cases h2; exact s) (fun e a w => e = .normal ∧ Q e a w) K hK
    split
    · rename_i hwt; rw [if_pos hwt] at h3; exact .inl h3
    · rename_i hwt; rw [if_neg hwt] at h3; exact h3
  · have e : (fun a w => St E n H F w0 a w ∧ a.tmps[d]? = some v) = St ((d, v) :: E) n H F w0 := funext fun a => funext fun w => propext (St.push_iff hl).symm
    rw [e]
    exact h (hdc.step hr)
theorem AD.known {t : Nat} {b r : Bool} (hl : look E t = some (.bool b)) (hr : b = r) (h : AD P l Q n w0 all f ds ((t, .bool r) :: E) H F) : AD P l Q n w0 all f ds E H F := fun hdc => by
  have e : St E n H F w0 = St ((t, .bool r) :: E) n H F w0 := funext fun a => funext fun w => propext (St.known_iff (n := n) (w0 := w0) hl hr)
  rw [e]
  exact h hdc
theorem AD.two {i j : Nat} {oi oj : Oper} {ι κ : Type} {Ei : ι → Env} {Hi : ι → Hp} {Fi : ι → SF} {Ej : κ → Env} {Hj : κ → Hp} {Fj : κ → SF} (hc : chk2 l all ds i j = true) (hi : nthO l i = some oi) (hj : nthO l j = some oj)
    (wi : WS P l.toArray oi E n H F w0 Ei Hi Fi) (xi : ∀ k, if false = true then sub E (Ei k) else ∀ a w, St (Ei k) n (Hi k) (Fi k) w0 a w → St E n H F w0 a w)
    (wj : WS P l.toArray oj E n H F w0 Ej Hj Fj) (xj : ∀ k, if false = true then sub E (Ej k) else ∀ a w, St (Ej k) n (Hj k) (Fj k) w0 a w → St E n H F w0 a w)
    (gi : ∀ k, AD P l Q n w0 all f (i :: ds) (Ei k) (Hi k) (Fi k)) (gj : ∀ k, AD P l Q n w0 all f (j :: ds) (Ej k) (Hj k) (Fj k)) : AD P l Q n w0 all (f + 1) ds E H F := fun hdc => by
  unfold chk2 at hc
  simp only [Bool.and_eq_true, Bool.not_eq_true', beq_iff_eq] at hc
  obtain ⟨hr, hbi, hbj⟩ := hc
  have one : ∀ {i : Nat} {oi : Oper} {ι : Type} {Ei : ι → Env} {Hi : ι → Hp} {Fi : ι → SF}, nthO l i = some oi → brks all i = false → i ∈ Region.ready .any l.toArray (lst l.length ds) → WS P l.toArray oi E n H F w0 Ei Hi Fi →
      (∀ k, if false = true then sub E (Ei k) else ∀ a w, St (Ei k) n (Hi k) (Fi k) w0 a w → St E n H F w0 a w) → (∀ k, AD P l Q n w0 all f (i :: ds) (Ei k) (Hi k) (Fi k)) → ∀ a w, St E n H F w0 a w →
      wpOp P l.toArray (fun e a w => e = .normal ∧ Q e a w) i (fun a' w' => ∃ S' : SS, S' a' w' ∧ Gr S' ∧ Ext (wkG none w0) (brks all i) (St E n H F w0) S' ∧ Ax (wkG none w0) P .any l.toArray (fun e a w => e = .normal ∧ Q e a w) (brks all) none f ((lst l.length ds).setIfInBounds i true) S') a w := by
    intro i oi ι Ei Hi Fi hi hb hm ws hx g a w s
    have hoi : l.toArray[i]? = some oi := by rw [nthO_eq] at hi; simpa using hi
    unfold wpOp
    simp only [hoi]
    rw [if_pos (ws.1 a s.env)]
    refine .inl (ws.2 a w s _ _ fun k a' w' _ s' => ⟨_, s', Gr_St, ?_, g k (hdc.step hm)⟩)
    have h2 := hx k
    simp only [Bool.false_eq_true, if_false] at h2
    exact fun a2 w2 s2 => ⟨w2, h2 a2 w2 s2, fun _ => rfl⟩
  refine ⟨fun h0 => absurd (hr.symm.trans h0) (by simp), fun k hk a w s => ?_⟩
  have hk' := hk
  rw [hr] at hk'
  rcases List.mem_cons.1 hk' with rfl | hk2
  · exact one hi hbi hk wi xi gi a w s
  · obtain rfl := List.mem_singleton.1 hk2
    exact one hj hbj hk wj xj gj a w s
theorem AD.list (L : List (Nat × K4)) (hp : (Nat.beq f L.length && chkL l all ds L) = true) (h : WDm none none P l.toArray (fun e a w => e = .normal ∧ Q e a w) n w0 (planOps l L) E H F) : AD P l Q n w0 all f ds E H F := fun hdc => by
  rw [Bool.and_eq_true] at hp
  obtain ⟨hf, hp⟩ := hp
  obtain rfl := Nat.eq_of_beq_eq_true hf
  unfold chkL at hp
  simp only [Bool.and_eq_true] at hp
  obtain ⟨h1, h2, h3, h4, h5⟩ := hp
  refine WDm.sound (fin := none) (all := all) h3 rfl (fun c a w h => by cases h.1) h (fun _ h => h) L _ rfl (fun x hx => ?_) h1 hdc ⟨[], h2⟩ (fun y hy => ?_)
  · obtain ⟨y, hy, e⟩ := List.any_eq_true.1 (List.all_eq_true.1 h5 x hx)
    rw [sameK_eq e]; exact hy
  · have := List.all_eq_true.1 h4 y hy
    rw [Bool.or_eq_true] at this
    rcases this with h | h
    · exact .inl h
    · obtain ⟨z, hz, e⟩ := List.any_eq_true.1 h
      right
      rw [sameK_eq e]; exact hz
theorem WC.draw2 {id : Nat} (all : List (Nat × K4)) (hm : P.follows .mixedOrders = true) (h : AD P l Q n w0 all l.length [] E H F) : WC P (.region id l.toArray true) Q E n H F w0 := fun a w s => by
  have hA := h (fun j o ho hk => by exfalso; simp [lst, Array.getElem?_replicate] at hk; split at hk <;> simp at hk)
  refine Code.wp_mono (fun e a w h => h.2) (wp_region_any (Q := fun e a w => e = .normal ∧ Q e a w) hm ?_)
  have s' : St E n H F w0 a w.drew := s.grow ((Below.refl _ _).drew)
  have hs := Ax.sound _ _ _ a w.drew hA s'
  have e : lst l.length [] = Array.replicate l.length false := rfl
  rw [e] at hs
  simpa using hs
end
end Go.Proofs.Ytdbcimadjmdffaa
