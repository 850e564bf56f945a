/- Regions that draw their order and may end in a panic: the logic of Sd, for a post that does not tell of the slots behind a panic. No condition. -/
import Derived.Test.YtapkelocligmdaaGreatDoorP4
set_option linter.unusedVariables false
set_option linter.unusedSimpArgs false
set_option linter.unusedSectionVars false
namespace Go.Proofs.YtapkelocligmdaaGreatDoor.Dd
open Go.RowKit
section
variable [Inhabited DSx] {P : Program} {ops : Array Oper} {md : Region.Mode} {Q : Exit → Act → World → Prop} {brk : Nat → Bool} {G : World → World → Prop}
theorem wpOp_swap {j : Nat} {oi oj : Oper} {v : Value} (hj : ops[j]? = some oj) (hap : oi.apart ops oj = true)
    (hsj : ∀ cs b, oj.op ≠ .select cs b) (hQ : ∀ c a w d v, Q (.panic c) (a.put d v) w → Q (.panic c) a w) {K : Act → World → Prop} {a : Act} {w : World}
    (h : wpOp P ops Q j K (a.put oi.dst v) w) : wpOp P ops Q j (fun a' w' => K (a'.put oi.dst v) w') a w := by
  obtain ⟨h1, h2, h3⟩ := Oper.apart_spec hap
  unfold wpOp at *
  simp only [hj] at *
  rw [wanted_put oj a oi.dst v h1] at h
  split
  · rename_i hw
    simp only [hw, if_true] at h
    rcases h with h | ⟨hasks, hlets⟩
    case inr => exact .inr ⟨by unfold Oper.asks at *; rw [execOp_put oj hsj a oi.dst v h1] at hasks; exact hasks, hlets⟩
    refine .inl ?_
    unfold Oper.wp at *
    rw [execOp_put oj hsj a oi.dst v h1] at h
    generalize (execOp a.eval oj).run P w = r at *
    cases r with
    | ok n w' =>
      cases n <;> simp only [Oper.upon] at h ⊢
      case value u => rw [← Act.put_comm a v u h2]; exact h
      case skip => rw [← Act.put_comm a v undef h2]; exact h
      case defer d =>
        rw [← Act.put_comm _ v undef h2, ← Act.put_defers]
        exact h
      case enter f args =>
        refine Calls.mono h fun e w'' he => ?_
        cases e with
        | returned u =>
          show K _ _
          rw [← Act.put_comm a v u h2]; exact he
        | panicked c => exact hQ _ _ _ _ _ he
        | outgrown => exact he
      case row row args => exact Rows.mono h fun u w'' he => (by rw [← Act.put_comm a v u h2]; exact he)
    | halt x w' =>
      cases x <;> simp only [Oper.upon] at h ⊢
      case panic u => exact hQ _ _ _ _ _ h
  · rename_i hw
    simp only [hw] at h
    rw [← Act.put_comm a v undef h2]; exact h
theorem Ax.first {i d : Nat} {oi : Oper} {v : Value} {imp : Bool} {fin : Option Nat} (hfin : ∀ j, fin = some j → ∃ c, i ∈ ancs md ops c [j]) (hi : ops[i]? = some oi) (hd : oi.dst = some d) (hsel : ∀ (j : Nat) (o : Oper) cs b, ops[j]? = some o → o.op ≠ .select cs b) (hQ : ∀ c a w d v, Q (.panic c) (a.put d v) w → Q (.panic c) a w)
    (hG : ∀ w, G w w) (hG2 : ∀ a b c, G a b → G b c → G a c) (hbi : brk i = false) :
    ∀ (f : Nat) (listed : Array Bool) (S : SS), (∀ j oj, ops[j]? = some oj → j ≠ i → listed.getD j true = false → (∀ e ∈ oj.after, Region.binds md e = true → e.on ≠ i) → oi.apart ops oj = true) →
      i ∈ Region.ready md ops listed → DC md ops listed → (imp = true → ∀ j oj, brk j = true → ops[j]? = some oj → listed.getD j true = false → ∃ c, i ∈ ancs md ops c [j]) → (∀ a w u, S (a.put (some d) u) w ↔ S a w) → (∀ a w, S a w → d < a.tmps.size) → Gr S → QY G P ops Q imp i d v S →
      Ax G P md ops Q brk fin f (listed.setIfInBounds i true) (fun a w => S a w ∧ a.tmps[d]? = some v) → Ax G P md ops Q brk fin (f + 1) listed S := by
  intro f
  have self : ∀ (f : Nat) (listed : Array Bool) (S : SS), (∀ a w u, S (a.put (some d) u) w ↔ S a w) → (∀ a w, S a w → d < a.tmps.size) → Gr S → QY G P ops Q imp i d v S →
      Ax G P md ops Q brk fin f (listed.setIfInBounds i true) (fun a w => S a w ∧ a.tmps[d]? = some v) → ∀ a w, S a w →
      wpOp P ops Q i (fun a' w' => ∃ S' : SS, S' a' w' ∧ Gr S' ∧ Ext G (brk i) S S' ∧ Ax G P md ops Q brk fin f (listed.setIfInBounds i true) S') a w := by
    intro f listed S hins hsz hgr hq H a w hs
    refine hq a w ⟨w, hs, fun _ => hG w⟩ _ fun w' hb => ⟨_, ⟨(hins a w' v).2 (hgr a w w' hs hb), put_at (hsz a w hs)⟩, fun a w w' h k => ⟨hgr a w w' h.1 k, h.2⟩, ?_, H⟩
    exact fun a w h => ⟨w, h.1, fun _ => hG w⟩
  induction f with
  | zero =>
    intro listed S _ hr hdc hbr hins hsz hgr hq H
    refine ⟨fun h => (by rw [h] at hr; cases hr), fun j hj a w hs => ?_⟩
    by_cases hji : j = i
    · subst hji; exact self 0 listed S hins hsz hgr hq H a w hs
    · have hm := ready_mono hj hji
      rw [H.1] at hm
      cases fin with
      | none => cases hm
      | some j' =>
        obtain rfl := List.mem_singleton.1 (show j ∈ [j'] from hm)
        obtain ⟨c, hc⟩ := hfin j rfl
        obtain ⟨_, oj, hoj, hall⟩ := mem_ready.1 hj
        have h6 := (anc_listed hdc hoj hall c [j] (fun s hs => .inl (List.mem_singleton.1 hs)) i hc).resolve_left (Ne.symm hji)
        have h0 := (mem_ready.1 hr).1
        exfalso
        rcases Nat.lt_or_ge i listed.size with h' | h'
        · simp [h'] at h0 h6; rw [h0] at h6; cases h6
        · simp [Array.getElem?_eq_none h'] at h6
  | succ f ih =>
    intro listed S hfree hr hdc hbr hins hsz hgr hq H
    refine ⟨fun h => (by rw [h] at hr; cases hr), fun j hj a w hs => ?_⟩
    by_cases hji : j = i
    · subst hji; exact self _ listed S hins hsz hgr hq H a w hs
    · obtain ⟨hjun, oj, hoj, hall⟩ := mem_ready.1 hj
      have hnot : ∀ e ∈ oj.after, Region.binds md e = true → e.on ≠ i := fun e he hb heq => by
        have h1 := hall e he hb
        have h0 := (mem_ready.1 hr).1
        rw [heq] at h1
        rcases Nat.lt_or_ge i listed.size with h' | h'
        · simp [h'] at h0 h1; rw [h0] at h1; cases h1
        · simp [Array.getElem?_eq_none h'] at h1
      have h1 := H.2 j (ready_mono hj hji) (a.put (some d) v) w ⟨(hins a w v).2 hs, put_at (hsz a w hs)⟩
      rw [← hd] at h1
      refine wpOp_mono ?_ (wpOp_swap hoj (hfree j oj hoj hji hjun hnot) (fun cs b => hsel j oj cs b hoj) hQ h1)
      rintro a' w' ⟨S', hS', hgr', hext, hA⟩
      rw [hd] at hS'
      have hin : ∀ x y, S' x y → x.tmps[d]? = some v ∧ ∃ y1, S x y1 ∧ (brk j = false → G y1 y) := by
        intro x y hx
        obtain ⟨y1, h2, h3⟩ := hext x y hx
        exact ⟨h2.2, y1, h2.1, h3⟩
      have hback : ∀ x y, S' (x.put (some d) v) y → ∃ y1, S x y1 ∧ (brk j = false → G y1 y) := fun x y hx => by
        obtain ⟨_, y1, h2, h3⟩ := hin _ _ hx
        exact ⟨y1, (hins x y1 v).1 h2, h3⟩
      refine ⟨fun x y => S' (x.put (some d) v) y, hS', fun x y y' h k => hgr' _ _ _ h k, ?_, ?_⟩
      · exact fun x y hx => hback x y hx
      · refine ih (listed.setIfInBounds j true) _ (fun k ok hk hki hun hno => hfree k ok hk hki ?_ hno) (ready_mono hr (Ne.symm hji)) (hdc.step hj) (fun himp k ok hb hk hun => hbr himp k ok hb hk (unl hun)) (fun x y u => by rw [put_put]) (fun x y hx => ?_) (fun x y y' h k => hgr' _ _ _ h k) ?_ ?_
        · by_cases hjk : j = k
          · subst hjk; exact hjun
          · rw [getD_set_ne true hjk] at hun; exact hun
        · obtain ⟨y1, h2, _⟩ := hback x y hx
          exact hsz _ _ h2
        · intro x y hx K hK
          refine hq x y ?_ K hK
          obtain ⟨y1, h2, h3⟩ := hx
          obtain ⟨y2, h4, h5⟩ := hback x y1 h2
          refine ⟨y2, h4, fun himp => hG2 _ _ _ (h5 ?_) (h3 himp)⟩
          cases hbj : brk j
          · rfl
          · obtain ⟨c, hc⟩ := hbr himp j oj hbj hoj hjun
            have h6 := (anc_listed hdc hoj hall c [j] (fun s hs => .inl (List.mem_singleton.1 hs)) i hc).resolve_left (Ne.symm hji)
            have h0 := (mem_ready.1 hr).1
            rcases Nat.lt_or_ge i listed.size with h' | h'
            · simp [h'] at h0 h6; rw [h0] at h6; cases h6
            · simp [Array.getElem?_eq_none h'] at h6
        · have e : (fun x y => S' (x.put (some d) v) y ∧ x.tmps[d]? = some v) = S' := by
            funext x y
            refine propext ⟨fun ⟨h2, h3⟩ => by rw [put_self h3] at h2; exact h2, fun h2 => ?_⟩
            have h3 := (hin x y h2).1
            exact ⟨by rw [put_self h3]; exact h2, h3⟩
          rw [e, Array.setIfInBounds_comm _ _ hji]
          exact hA
variable {n : Nat} {w0 : World} {E : Env} {H : Hp} {F : SF}
structure WDc (m : Option Hp) (fin : Option Nat) (P : Program) (ops : Array Oper) (Q : Exit → Act → World → Prop) (n : Nat) (w0 : World) (X : List (Oper × K4) → Env → Hp → SF → Prop) : Prop where
  nil : ∀ {E : Env} {H : Hp} {F : SF}, WN P ops Q fin E n H F w0 → X [] E H F
  quiet : ∀ {o : Oper} {d : Nat} {v : Value} {imp : Bool} {rest : List (Oper × K4)} {E : Env} {H : Hp} {F : SF}, QS P ops imp o d v E n (wkH m H) (wkF m F) w0 → o.dst = some d → Nat.blt d n = true → look E d = none →
      X rest ((d, v) :: E) H F → X ((o, .q imp) :: rest) E H F
  known : ∀ {t : Nat} {b r : Bool} {l : List (Oper × K4)} {E : Env} {H : Hp} {F : SF}, look E t = some (.bool b) → b = r → X l ((t, .bool r) :: E) H F → X l E H F
  skip : ∀ {o : Oper} {br : Bool} {d : Nat} {rest : List (Oper × K4)} {E : Env} {H : Hp} {F : SF}, (∀ a, EnvOf E n a → Region.wanted o (yielded ops a.tmps) = false) → o.dst = some d → Nat.blt d n = true → look E d = none →
      X rest ((d, undef) :: E) H F → X ((o, .s br) :: rest) E H F
  spec : ∀ {o : Oper} {br : Bool} {rest : List (Oper × K4)} {E : Env} {H : Hp} {F : SF} {ι : Type} {Ei : ι → Env} {Hi : ι → Hp} {Fi : ι → SF}, WS P ops o E n H F w0 Ei Hi Fi →
      (∀ i, if br = true then sub E (Ei i) else ∀ a w, St (Ei i) n (Hi i) (Fi i) w0 a w → St E n (wkH m H) (wkF m F) w0 a w) → (∀ i, X rest (Ei i) (Hi i) (Fi i)) → (∀ i w, Wp w0 (Hi i) (Fi i) w → Wp w0 (wkH m (Hi i)) (wkF m (Fi i)) w) → X ((o, .s br) :: rest) E H F
  dead : ∀ {o : Oper} {br : Bool} {rest : List (Oper × K4)} {E : Env} {H : Hp} {F : SF}, (∀ a, EnvOf E n a → Region.wanted o (yielded ops a.tmps) = true) → (∀ a w, St E n H F w0 a w → o.wp P a w (fun _ _ => False) Q) → X ((o, .s br) :: rest) E H F
def WDm (m : Option Hp) (fin : Option Nat) (P : Program) (ops : Array Oper) (Q : Exit → Act → World → Prop) (n : Nat) (w0 : World) (L : List (Oper × K4)) (E : Env) (H : Hp) (F : SF) : Prop :=
  ∀ X : List (Oper × K4) → Env → Hp → SF → Prop, WDc m fin P ops Q n w0 X → X L E H F
section
variable {m : Option Hp} {fin : Option Nat}
theorem WDm.nil (h : WQ Q .normal E n H F w0) : WDm m none P ops Q n w0 [] E H F := fun _ c => c.nil h
theorem WDm.last {j : Nat} {o : Oper} (ho : ops[j]? = some o) (h : WL P ops Q [o] E n H F w0) : WDm m (some j) P ops Q n w0 [] E H F := fun _ c => c.nil ⟨o, ho, h⟩
theorem WDm.quiet {o : Oper} {d : Nat} {v : Value} {imp : Bool} {rest : List (Oper × K4)} (hq : QS P ops imp o d v E n (wkH m H) (wkF m F) w0) (hd : o.dst = some d) (hn : Nat.blt d n = true) (hl : look E d = none)
      (h : WDm m fin P ops Q n w0 rest ((d, v) :: E) H F) : WDm m fin P ops Q n w0 ((o, .q imp) :: rest) E H F := fun X c => c.quiet hq hd hn hl (h X c)
theorem WDm.known {t : Nat} {b r : Bool} {l : List (Oper × K4)} (hl : look E t = some (.bool b)) (hr : b = r) (h : WDm m fin P ops Q n w0 l ((t, .bool r) :: E) H F) : WDm m fin P ops Q n w0 l E H F := fun X c => c.known hl hr (h X c)
theorem WDm.skip {o : Oper} {br : Bool} {d : Nat} {rest : List (Oper × K4)} (hw : ∀ a, EnvOf E n a → Region.wanted o (yielded ops a.tmps) = false) (hd : o.dst = some d) (hn : Nat.blt d n = true) (hl : look E d = none)
      (h : WDm m fin P ops Q n w0 rest ((d, undef) :: E) H F) : WDm m fin P ops Q n w0 ((o, .s br) :: rest) E H F := fun X c => c.skip hw hd hn hl (h X c)
theorem WDm.spec {o : Oper} {br : Bool} {rest : List (Oper × K4)} {ι : Type} {Ei : ι → Env} {Hi : ι → Hp} {Fi : ι → SF} (hs : WS P ops o E n H F w0 Ei Hi Fi)
      (hx : ∀ i, if br = true then sub E (Ei i) else ∀ a w, St (Ei i) n (Hi i) (Fi i) w0 a w → St E n (wkH m H) (wkF m F) w0 a w) (h : ∀ i, WDm m fin P ops Q n w0 rest (Ei i) (Hi i) (Fi i)) (hk : ∀ i w, Wp w0 (Hi i) (Fi i) w → Wp w0 (wkH m (Hi i)) (wkF m (Fi i)) w := by exact fun _ _ h => h) : WDm m fin P ops Q n w0 ((o, .s br) :: rest) E H F :=
  fun X c => c.spec hs hx (fun i => h i X c) hk
/-- The operation panics. -/
theorem WDm.dead {o : Oper} {br : Bool} {rest : List (Oper × K4)} (hw : ∀ a, EnvOf E n a → Region.wanted o (yielded ops a.tmps) = true) (h : ∀ a w, St E n H F w0 a w → o.wp P a w (fun _ _ => False) Q) : WDm m fin P ops Q n w0 ((o, .s br) :: rest) E H F := fun X c => c.dead hw h
end
theorem WDm.sound {m : Option Hp} {fin : Option Nat} {l : List Oper} {all : List (Nat × K4)} (hsel : Region.noSelect l.toArray = true) (hfin : finB l.toArray fin all = true) (hQ : ∀ c a w d v, Q (.panic c) (a.put d v) w → Q (.panic c) a w) {L : List (Oper × K4)} (h : WDm m fin P l.toArray Q n w0 L E H F) :
    (∀ w, Wp w0 H F w → Wp w0 (wkH m H) (wkF m F) w) → ∀ (plan : List (Nat × K4)) (listed : Array Bool), planOps l plan = L → (∀ x ∈ plan, x ∈ all) → planB l.toArray fin all plan listed = true → DC .any l.toArray listed → (∃ seen, waitB l.toArray seen plan = true) → (∀ y ∈ all, listed.getD y.1 true = true ∨ y ∈ plan) →
      Ax (wkG m w0) P .any l.toArray Q (brks all) fin plan.length listed (St E n H F w0) := by
  refine h (fun L E H F => (∀ w, Wp w0 H F w → Wp w0 (wkH m H) (wkF m F) w) → ∀ (plan : List (Nat × K4)) (listed : Array Bool), planOps l plan = L → (∀ x ∈ plan, x ∈ all) → planB l.toArray fin all plan listed = true → DC .any l.toArray listed → (∃ seen, waitB l.toArray seen plan = true) → (∀ y ∈ all, listed.getD y.1 true = true ∨ y ∈ plan) →
      Ax (wkG m w0) P .any l.toArray Q (brks all) fin plan.length listed (St E n H F w0)) ⟨?_, ?_, ?_, ?_, ?_, ?_⟩
  · intro E H F h
    intro hwk plan listed hL hmem hp hdc hwt hcov
    match plan, hL, hp with
    | [], _, hp =>
      simp only [planB, Bool.and_eq_true, beq_iff_eq] at hp
      refine ⟨hp.1, fun a w hs => ?_⟩
      cases fin with
      | none => exact h a w hs
      | some j =>
        obtain ⟨o, ho, hw⟩ := h
        have h1 := hw a w hs
        have h2 := hp.2
        simp only [List.isEmpty_iff] at h2
        unfold wpList at h1
        unfold wpOp
        simp only [ho]
        split
        · rename_i hwt2
          rw [if_pos hwt2] at h1
          exact h1.imp (fun h4 => Oper.wp_mono (fun a' w' h3 => ⟨h2, h3⟩) h4) id
        · rename_i hwt2
          rw [if_neg hwt2] at h1
          exact ⟨h2, h1⟩
    | (i, k) :: rest, hL, hp =>
      obtain ⟨oi, _, hn⟩ := planB_head hp
      simp only [planOps, hn] at hL
      cases hL
  · intro o d v imp rest' E H F hq hd hn hl ih
    intro hwk plan listed hL hmem hp hdc hwt hcov
    match plan, hL, hp with
    | [], hL, _ => simp only [planOps] at hL; cases hL
    | (i, k) :: rest, hL, hp =>
      obtain ⟨oi, hoi, hni⟩ := planB_head hp
      simp only [planOps, hni] at hL
      injection hL with hL1 hL2
      injection hL1 with hL3 hL4
      subst hL3
      subst hL4
      obtain ⟨⟨hr, hf, hb⟩, hrest⟩ := planB_q hp
      refine Ax.first (fin := fin) (fin_in hfin (hmem _ (List.Mem.head _))) (i := i) (d := d) (v := v) hoi hd (Region.noSelect_spec hsel) hQ (wkG_refl m w0) (wkG_trans m w0) hb rest.length listed _ (Region.free_spec hoi hf) hr hdc ?_ (fun a w u => St.ins hl) (fun a w s => by rw [s.env.size]; simpa [Nat.blt_eq] using hn) Gr_St (imp := imp) ?_ ?_
      · intro himp j oj hbj hoj hun
        subst himp
        unfold brks at hbj
        obtain ⟨y, hy, hy2⟩ := List.any_eq_true.1 hbj
        rw [Bool.and_eq_true] at hy2
        obtain ⟨hy3, hy4⟩ := hy2
        obtain rfl := Nat.eq_of_beq_eq_true hy3
        obtain ⟨seen, hw⟩ := hwt
        rcases hcov y hy with h1 | h1
        · rw [hun] at h1; cases h1
        · rcases List.mem_cons.1 h1 with e | h1
          · exfalso
            rw [e] at hy4
            cases hy4
          · exact wait_in (wait_tail hw) (List.Mem.head _) h1 rfl hy4
      · intro a w s K hK
        unfold wpOp
        simp only [hoi]
        have h3 := hq a w (wk_state hwk s) Q K hK
        split
        · rename_i hwt; rw [if_pos hwt] at h3; exact .inl h3
        · rename_i hwt; rw [if_neg hwt] at h3; exact h3
      · have e : (fun a w => St E n H F w0 a w ∧ a.tmps[d]? = some v) = St ((d, v) :: E) n H F w0 := funext fun a => funext fun w => propext (St.push_iff hl).symm
        rw [e]
        exact ih hwk rest _ hL2 (fun x hx => hmem x (List.Mem.tail _ hx)) hrest (hdc.step hr) (hwt.elim fun _ h => ⟨_, wait_tail h⟩) (cov_step hcov)
  · intro t b r l' E H F hl hr ih
    intro hwk plan listed hL hmem hp hdc hwt hcov
    have h1 := ih hwk plan listed hL hmem hp hdc hwt hcov
    have e : St E n H F w0 = St ((t, .bool r) :: E) n H F w0 := funext fun a => funext fun w => propext (St.known_iff (n := n) (w0 := w0) hl hr)
    rw [e]
    exact h1
  · intro o br d rest' E H F hw hd hn hl ih
    intro hwk plan listed hL hmem hp hdc hwt hcov
    match plan, hL, hp with
    | [], hL, _ => simp only [planOps] at hL; cases hL
    | (i, k) :: rest, hL, hp =>
      obtain ⟨oi, hoi, hni⟩ := planB_head hp
      simp only [planOps, hni] at hL
      injection hL with hL1 hL2
      injection hL1 with hL3 hL4
      subst hL3
      subst hL4
      obtain ⟨hr, hrest⟩ := planB_s hp
      refine ⟨fun h0 => absurd (hr.symm.trans h0) (by simp), fun j hj a w s => ?_⟩
      rw [hr] at hj
      obtain rfl := List.mem_singleton.1 hj
      unfold wpOp
      simp only [hoi]
      rw [if_neg (by simp [hw a s.env]), hd]
      refine ⟨_, s.put hn, Gr_St, ?_, ih hwk rest _ hL2 (fun x hx => hmem x (List.Mem.tail _ hx)) hrest (hdc.step (by rw [hr]; exact List.Mem.head _)) (hwt.elim fun _ h => ⟨_, wait_tail h⟩) (cov_step hcov)⟩
      cases hb : brks all j
      · exact fun a w s => ⟨w, s.weak (sub_push hl), fun _ => wkG_refl m w0 w⟩
      · exact fun a w s => ⟨w, s.weak (sub_push hl), fun h => by cases h⟩
  · intro o br rest' E H F ι Ei Hi Fi hs hx ih hk
    intro hwk plan listed hL hmem hp hdc hwt hcov
    match plan, hL, hp with
    | [], hL, _ => simp only [planOps] at hL; cases hL
    | (i, k) :: rest, hL, hp =>
      obtain ⟨oi, hoi, hni⟩ := planB_head hp
      simp only [planOps, hni] at hL
      injection hL with hL1 hL2
      injection hL1 with hL3 hL4
      subst hL3
      subst hL4
      obtain ⟨hr, hrest⟩ := planB_s hp
      refine ⟨fun h0 => absurd (hr.symm.trans h0) (by simp), fun j hj a w s => ?_⟩
      rw [hr] at hj
      obtain rfl := List.mem_singleton.1 hj
      unfold wpOp
      simp only [hoi]
      rw [if_pos (hs.1 a s.env)]
      refine .inl (hs.2 a w s Q _ fun k a' w' _ s' => ⟨_, s', Gr_St, ?_, ih k (hk k) rest _ hL2 (fun x hx => hmem x (List.Mem.tail _ hx)) hrest (hdc.step (by rw [hr]; exact List.Mem.head _)) (hwt.elim fun _ h => ⟨_, wait_tail h⟩) (cov_step hcov)⟩)
      have hxk := hx k
      cases hbr : br
      · rw [hbr] at hxk
        simp only [Bool.false_eq_true, if_false] at hxk
        have h1 : ∀ a2 w2, St (Ei k) n (Hi k) (Fi k) w0 a2 w2 → ∃ w1, St E n H F w0 a2 w1 ∧ wkG m w0 w1 w2 := fun a2 w2 s2 => by
          have s3 := hxk a2 w2 s2
          cases m with
          | none => exact ⟨w2, s3, rfl⟩
          | some K => exact ⟨w, ⟨s3.env, s.hp, s.fact, s.sep, s.low⟩, fun _ => s3.wp⟩
        exact fun a2 w2 s2 => (h1 a2 w2 s2).imp fun _ h => ⟨h.1, fun _ => h.2⟩
      · rw [hbr] at hxk
        simp only [if_true] at hxk
        have hb : brks all j = true := by
          unfold brks
          exact List.any_eq_true.2 ⟨(j, .s br), hmem _ (List.Mem.head _), by simp [hbr]⟩
        rw [hb]
        exact fun a2 w2 s2 => ⟨w, ⟨s2.env.weak hxk, s.hp, s.fact, s.sep, s.low⟩, fun h => by cases h⟩
  · intro o br rest' E H F hwt2 hd
    intro hwk plan listed hL hmem hp hdc hwt hcov
    match plan, hL, hp with
    | [], hL, _ => simp only [planOps] at hL; cases hL
    | (i, k) :: rest, hL, hp =>
      obtain ⟨oi, hoi, hni⟩ := planB_head hp
      simp only [planOps, hni] at hL
      injection hL with hL1 hL2
      injection hL1 with hL3 hL4
      subst hL3
      subst hL4
      obtain ⟨hr, hrest⟩ := planB_s hp
      refine ⟨fun h0 => absurd (hr.symm.trans h0) (by simp), fun j hj a w s => ?_⟩
      rw [hr] at hj
      obtain rfl := List.mem_singleton.1 hj
      unfold wpOp
      simp only [hoi]
      rw [if_pos (hwt2 a s.env)]
      exact .inl (Oper.wp_mono (fun _ _ h => h.elim) (hd a w s))
theorem WDm.split {m : Option Hp} {fin : Option Nat} {l : List (Oper × K4)} {t : Nat} {b : Bool} (hl : look E t = some (.bool b)) (h : ∀ r, b = r → WDm m fin P ops Q n w0 l ((t, .bool r) :: E) H F) : WDm m fin P ops Q n w0 l E H F := WDm.known hl rfl (h b rfl)
/-- A drawn region that may end in a panic. -/
theorem WC.draw {id : Nat} {l : List Oper} (plan : List (Nat × K4)) (hQ : ∀ c a w d v, Q (.panic c) (a.put d v) w → Q (.panic c) a w) (hm : P.follows .mixedOrders = true) (hp : planOkF l none plan = true)
    (h : WDm none none P l.toArray Q n w0 (planOps l plan) E H F) : WC P (.region id l.toArray true) Q E n H F w0 := fun a w s => by
  unfold planOkF at hp
  simp only [Bool.and_eq_true] at hp
  obtain ⟨⟨⟨hlen, hsel⟩, hw⟩, hfin, hpl⟩ := hp
  have hA := WDm.sound hsel hfin hQ h (fun _ h => h) plan _ rfl (fun _ h => h) hpl (fun j o ho hk => by exfalso; simp [Array.getElem?_replicate] at hk; split at hk <;> simp at hk) ⟨[], hw⟩ (fun y hy => .inr hy)
  have hl := Nat.eq_of_beq_eq_true hlen
  refine wp_region_any (Q := Q) hm ?_
  have s' : St E n H F w0 a w.drew := s.grow ((Below.refl _ _).drew)
  have hs := Ax.sound _ _ _ a w.drew hA s'
  rw [hl] at hs
  simpa using hs
/-- A call that panics, in such a region. -/
theorem WDm.deadCall {f : FuncId} {args : Array Operand} {ts : Array TypeId} {d : Option Nat} {T' : TypeId} {p : String} {af : Array Edge} {vs : List Value} {c : List PanicEntry} {br : Bool} {rest : List (Oper × K4)} (hf : ∀ (args : Array Value) (w : World), (callFunc f args).run P w = .ok (.enter f args) w) (hx : evs E args.toList = some vs)
    (hc : ∀ a w, St E n H F w0 a w → Calls P f vs.toArray w fun r w' => r = .panicked c ∧ Below w.heap.size w w') (hq : WQ Q (.panic c) E n H F w0) :
    WDm none none P ops Q n w0 ((⟨d, .call { callee := .value (.func f), args := args, argTypes := ts }, T', p, af, none⟩, .s br) :: rest) E H F := by
  refine WDm.dead (fun a _ => by simp [Region.wanted]) (fun a w s => ?_)
  unfold Oper.wp
  rw [run_call hf s.env hx, Oper.upon_enter]
  refine (hc a w s).mono fun e w' ⟨he, hb⟩ => ?_
  subst he
  exact hq a w' (s.grow hb)
end
end Go.Proofs.YtapkelocligmdaaGreatDoor.Dd
