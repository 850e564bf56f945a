/- Regions that draw their order: operations that only read, and calls that only make new blocks, in whatever order; one new block laid at any time among them; then a tail in a forced order. No condition. -/
import Derived.Test.YtdbcimadjmdffaaKit
import Derived.StillTail
namespace Go.Proofs.Ytdbcimadjmdffaa
open Go.RowKit
section
variable {P : Program} {ops : Array Oper} {md : Region.Mode} {W : World}
/-- The operation yields v, in the world that it got, or by a call that only makes new blocks. -/
def gAt (P : Program) (o : Oper) (a : Act) (w : World) (v : Value) : Prop := Oper.quietUpon P (fun w'' => Below w.heap.size w w'') w v ((execOp a.eval o).run P w)
def gOp (P : Program) (ops : Array Oper) (W : World) (i : Nat) (K : Act → Prop) (a : Act) : Prop :=
  match ops[i]? with
  | none => K a
  | some o => if Region.wanted o (yielded ops a.tmps) then ∃ v, (∀ w, Below W.heap.size W w → gAt P o a w v) ∧ K (a.put o.dst v) else K (a.put o.dst undef)
theorem gOp_mono {i : Nat} {a : Act} {K K' : Act → Prop} (h : ∀ a, K a → K' a) (hh : gOp P ops W i K a) : gOp P ops W i K' a := by
  unfold gOp at *
  split
  · exact h _ (by simpa [*] using hh)
  · rename_i o ho
    simp only [ho] at hh
    split
    · rename_i hw
      simp only [hw, if_true] at hh
      obtain ⟨v, h1, h2⟩ := hh
      exact ⟨v, h1, h _ h2⟩
    · rename_i hw; simp only [hw] at hh; exact h _ hh
def YG (P : Program) (ops : Array Oper) (W : World) (o : Oper) (v : Value) (a : Act) : Prop :=
  (Region.wanted o (yielded ops a.tmps) = true ∧ ∀ w, Below W.heap.size W w → gAt P o a w v) ∨ (Region.wanted o (yielded ops a.tmps) = false ∧ v = undef)
theorem YG.gOp {i : Nat} {o : Oper} {v : Value} {a : Act} (hi : ops[i]? = some o) (hy : YG P ops W o v a) {K : Act → Prop} (h : K (a.put o.dst v)) : gOp P ops W i K a := by
  unfold Proofs.Ytdbcimadjmdffaa.gOp
  simp only [hi]
  rcases hy with ⟨hw, hv⟩ | ⟨hw, rfl⟩
  · simp only [hw, if_true]; exact ⟨v, hv, h⟩
  · simp only [hw, Bool.false_eq_true, if_false]; exact h
theorem YG.of_same {o : Oper} {v : Value} {a a' : Act} (hy : YG P ops W o v a) (he : execOp a'.eval o = execOp a.eval o)
    (hw : Region.wanted o (yielded ops a'.tmps) = Region.wanted o (yielded ops a.tmps)) : YG P ops W o v a' := by
  unfold YG gAt at *
  rw [he, hw]
  exact hy
theorem yg_of_gOp {i : Nat} {o : Oper} {a : Act} {K : Act → Prop} (hi : ops[i]? = some o) (h : gOp P ops W i K a) : ∃ v, YG P ops W o v a ∧ K (a.put o.dst v) := by
  unfold gOp at h
  simp only [hi] at h
  by_cases hw : Region.wanted o (yielded ops a.tmps) = true
  · simp only [hw, if_true] at h
    obtain ⟨v, h1, h2⟩ := h
    exact ⟨v, .inl ⟨hw, h1⟩, h2⟩
  · simp only [hw] at h
    exact ⟨undef, .inr ⟨by simpa using hw, rfl⟩, h⟩
theorem gOp_put {j : Nat} {oi oj : Oper} {v : Value} (hj : ops[j]? = some oj) (hap : oi.apart ops oj = true)
    (hsi : ∀ cs b, oi.op ≠ .select cs b) (hsj : ∀ cs b, oj.op ≠ .select cs b) {K : Act → Prop} {a : Act}
    (hy : YG P ops W oi v a) (h : gOp P ops W j K (a.put oi.dst v)) :
    gOp P ops W j (fun a' => YG P ops W oi v a' ∧ K (a'.put oi.dst v)) a := by
  obtain ⟨h1, h2, h3⟩ := Oper.apart_spec hap
  obtain ⟨u, hu, hK⟩ := yg_of_gOp hj h
  have hu' : YG P ops W oj u a := hu.of_same (execOp_put oj hsj a oi.dst v h1).symm (wanted_put oj a oi.dst v h1).symm
  exact hu'.gOp hj ⟨hy.of_same (execOp_put oi hsi a oj.dst u h3) (wanted_put oi a oj.dst u h3), by rw [← Act.put_comm a v u h2]; exact hK⟩
/-- All that is left of the head, in whatever order. -/
def G0 (P : Program) (md : Region.Mode) (ops : Array Oper) (W : World) (n : Nat) (L : Array Bool → Act → Prop) : Nat → Array Bool → Act → Prop
  | 0, listed, a => L listed a
  | f + 1, listed, a => Region.ready md ops listed ≠ [] ∧ ∀ i ∈ Region.ready md ops listed, i < n ∧ gOp P ops W i (G0 P md ops W n L f (listed.setIfInBounds i true)) a
/-- A special operation: it is carried out in whatever world I lets, and leaves one that I' lets. -/
def SpOp (P : Program) (W : World) (o : Oper) (I : World → Prop) (a : Act) (κ : (World → Prop) → Act → Prop) : Prop :=
  o.guard = none ∧ ∀ w, I w → ∃ (v : Value) (w' : World) (I' : World → Prop), ((execOp a.eval o).run P w = .ok (.value v) w' ∨ ((execOp a.eval o).run P w = .ok .skip w' ∧ v = undef)) ∧ I' w' ∧
    (∀ x, I' x → Below W.heap.size W x) ∧ (∀ x y, I' x → Below x.heap.size x y → I' y) ∧ κ I' (a.put o.dst v)
def sOp (P : Program) (ops : Array Oper) (W : World) (i : Nat) (I : World → Prop) (κ : (World → Prop) → Act → Prop) (a : Act) : Prop := ∃ o, ops[i]? = some o ∧ SpOp P W o I a κ
/-- .. with one special operation, s, still to come; then 'next'. -/
def Gs (P : Program) (md : Region.Mode) (ops : Array Oper) (W : World) (n s : Nat) (next : Nat → (World → Prop) → Array Bool → Act → Prop) : Nat → (World → Prop) → Array Bool → Act → Prop
  | 0, I, listed, a => Region.ready md ops listed ≠ [] ∧ ∀ i ∈ Region.ready md ops listed, i = s ∧ sOp P ops W i I (fun I' a' => next 0 I' (listed.setIfInBounds i true) a') a
  | f + 1, I, listed, a => Region.ready md ops listed ≠ [] ∧ ∀ i ∈ Region.ready md ops listed,
      (i < n ∧ gOp P ops W i (Gs P md ops W n s next f I (listed.setIfInBounds i true)) a) ∨
      (i = s ∧ sOp P ops W i I (fun I' a' => next (f + 1) I' (listed.setIfInBounds i true) a') a)
/-- r special operations, from s on. -/
def Gx (P : Program) (md : Region.Mode) (ops : Array Oper) (W : World) (n : Nat) (L : (World → Prop) → Array Bool → Act → Prop) : Nat → Nat → Nat → (World → Prop) → Array Bool → Act → Prop
  | 0, _, f, I, listed, a => G0 P md ops W n (L I) f listed a
  | r + 1, s, f, I, listed, a => Gs P md ops W n s (Gx P md ops W n L r (s + 1)) f I listed a
theorem gOp_wp {i : Nat} {a : Act} {K : Act → Prop} {K' : Act → World → Prop} {Q' : Exit → Act → World → Prop} {w : World} {I : World → Prop} (hD : ∀ w, I w → Below W.heap.size W w)
    (hI : ∀ w w', I w → Below w.heap.size w w' → I w') (hw : I w) (h : ∀ a w', I w' → K a → K' a w') (hh : gOp P ops W i K a) : wpOp P ops Q' i K' a w := by
  unfold gOp at hh
  unfold wpOp
  split
  · rename_i ho; simp only [ho] at hh; exact h _ _ hw hh
  · rename_i o ho
    simp only [ho] at hh
    split
    · rename_i hwt
      simp only [hwt, if_true] at hh
      obtain ⟨v, h1, h2⟩ := hh
      have h3 := h1 w (hD _ hw)
      refine .inl ?_
      unfold gAt at h3
      unfold Oper.wp
      generalize (execOp a.eval o).run P w = r at *
      cases r with
      | ok nx w' =>
        cases nx <;> simp only [Oper.quietUpon] at h3 <;> simp only [Oper.upon]
        case value u =>
          obtain ⟨e1, e2⟩ := h3
          rw [e1, e2]
          exact h _ _ hw h2
        case skip =>
          obtain ⟨e1, e2⟩ := h3
          rw [e1, ← e2]
          exact h _ _ hw h2
        case enter f args =>
          obtain ⟨e1, hc⟩ := h3
          rw [e1]
          exact hc.mono fun e w'' ⟨he, hb⟩ => by subst he; exact h _ _ (hI _ _ hw hb) h2
      | halt x w' => simp only [Oper.quietUpon] at h3
    · rename_i hwt; simp only [hwt] at hh; exact h _ _ hw hh
theorem g0_sound {n g : Nat} {L : Array Bool → Act → Prop} {Q' : Exit → Act → World → Prop} {I : World → Prop} (hD : ∀ w, I w → Below W.heap.size W w) (hI : ∀ w w', I w → Below w.heap.size w w' → I w')
    (hL : ∀ listed a w, I w → L listed a → wpAny P md ops Q' g listed a w) :
    ∀ (f : Nat) (listed : Array Bool) (a : Act) (w : World), I w → G0 P md ops W n L f listed a → wpAny P md ops Q' (f + g) listed a w
  | 0, listed, a, w, hw, h => by rw [Nat.zero_add]; exact hL _ _ _ hw h
  | f + 1, listed, a, w, hw, h => by
    rw [show f + 1 + g = (f + g) + 1 by omega]
    exact ⟨fun h0 => absurd h0 h.1, fun i hi => gOp_wp hD hI hw (fun a' w' hw' h' => g0_sound hD hI hL f _ a' w' hw' h') (h.2 i hi).2⟩
theorem sOp_wp {i : Nat} {a : Act} {κ : (World → Prop) → Act → Prop} {K' : Act → World → Prop} {Q' : Exit → Act → World → Prop} {w : World} {I : World → Prop} (hw : I w)
    (h : ∀ (I' : World → Prop) a' w', (∀ x, I' x → Below W.heap.size W x) → (∀ x y, I' x → Below x.heap.size x y → I' y) → I' w' → κ I' a' → K' a' w') (hh : sOp P ops W i I κ a) : wpOp P ops Q' i K' a w := by
  obtain ⟨o, ho, hg, hs⟩ := hh
  obtain ⟨v, w', I', hr, hw', hD, hI, hk⟩ := hs w hw
  unfold wpOp
  simp only [ho]
  rw [if_pos (by simp [Region.wanted, hg])]
  refine .inl ?_
  unfold Oper.wp
  rcases hr with hr | ⟨hr, rfl⟩ <;> rw [hr] <;> exact h _ _ _ hD hI hw' hk
theorem gx_sound {n g : Nat} {L : (World → Prop) → Array Bool → Act → Prop} {Q' : Exit → Act → World → Prop}
    (hL : ∀ (I : World → Prop) listed a w, I w → L I listed a → wpAny P md ops Q' g listed a w) :
    ∀ (r s f : Nat) (I : World → Prop) (listed : Array Bool) (a : Act) (w : World), (∀ x, I x → Below W.heap.size W x) → (∀ x y, I x → Below x.heap.size x y → I y) → I w →
      Gx P md ops W n L r s f I listed a → wpAny P md ops Q' (f + r + g) listed a w
  | 0, _, f, I, listed, a, w, hD, hI, hw, h => g0_sound hD hI (fun listed a w hw h => hL I listed a w hw h) f listed a w hw h
  | r + 1, s, 0, I, listed, a, w, hD, hI, hw, h => by
    rw [show 0 + (r + 1) + g = (0 + r + g) + 1 by omega]
    refine ⟨fun h0 => absurd h0 h.1, fun i hi => ?_⟩
    obtain ⟨rfl, h2⟩ := h.2 i hi
    exact sOp_wp hw (fun I' a' w' hD' hI' hw' h' => gx_sound hL r (i + 1) 0 I' _ a' w' hD' hI' hw' h') h2
  | r + 1, s, f + 1, I, listed, a, w, hD, hI, hw, h => by
    rw [show f + 1 + (r + 1) + g = (f + (r + 1) + g) + 1 by omega]
    refine ⟨fun h0 => absurd h0 h.1, fun i hi => ?_⟩
    rcases h.2 i hi with ⟨_, h2⟩ | ⟨rfl, h2⟩
    · exact gOp_wp hD hI hw (fun a' w' hw' h' => gx_sound hL (r + 1) s f I _ a' w' hD hI hw' h') h2
    · rw [show f + (r + 1) + g = f + 1 + r + g by omega]
      exact sOp_wp hw (fun I' a' w' hD' hI' hw' h' => gx_sound hL r (i + 1) (f + 1) I' _ a' w' hD' hI' hw' h') h2
theorem ready_lt {m : Nat} {listed : Array Bool} (hs : Region.sinkB md ops m = true) (hc : Region.chainB md ops m = true) (hm : m < ops.size) (inv : HeadInv md ops m listed) {i : Nat} (hi : i < m) (hun : listed.getD i true = false) :
    ∀ j ∈ Region.ready md ops listed, j < m := fun j hj => by
  rcases Nat.lt_or_ge j m with h | h
  · exact h
  · exact absurd hj (tail_waits hs hc hm inv _ i rfl hi hun j h)
theorem free_set {oi : Oper} {i j : Nat} {listed : Array Bool} (hfree : ∀ j oj, ops[j]? = some oj → j ≠ i → listed.getD j true = false → (∀ e ∈ oj.after, Region.binds md e = true → e.on ≠ i) → oi.apart ops oj = true)
    (hjun : listed.getD j true = false) :
    ∀ k ok, ops[k]? = some ok → k ≠ i → (listed.setIfInBounds j true).getD k true = false → (∀ e ∈ ok.after, Region.binds md e = true → e.on ≠ i) → oi.apart ops ok = true := fun k ok hk hki hun hno => by
  refine hfree k ok hk hki ?_ hno
  by_cases hjk : j = k
  · subst hjk; exact hjun
  · rw [getD_set_ne true hjk] at hun; exact hun
theorem not_waits {i : Nat} {listed : Array Bool} {oj : Oper} (hun : listed.getD i true = false) (hall : ∀ e ∈ oj.after, Region.binds md e = true → listed.getD e.on false = true) :
    ∀ e ∈ oj.after, Region.binds md e = true → e.on ≠ i := fun e he hb heq => by
  have h1 := hall e he hb
  rw [heq, getD_both hun] at h1
  cases h1
/-- Of the operations from n to m - 1 just those below s are done. -/
def upTo (n m s : Nat) (listed : Array Bool) : Prop := ∀ j, n ≤ j → j < m → (listed.getD j true = true ↔ j < s)
theorem upTo_low {n m s i : Nat} {listed : Array Bool} (h : upTo n m s listed) (hi : i < n) : upTo n m s (listed.setIfInBounds i true) := fun j hj hm => by
  rw [getD_set_ne true (by omega)]; exact h j hj hm
theorem upTo_next {n m s : Nat} {listed : Array Bool} (h : upTo n m s listed) (hs : s < listed.size) : upTo n m (s + 1) (listed.setIfInBounds s true) := fun j hj hm => by
  by_cases e : s = j
  · subst e
    simp [hs]
  · rw [getD_set_ne true e, h j hj hm]
    omega
/-- Each special operation waits for the one ahead of it. -/
def Region.lineB (md : Region.Mode) (ops : Array Oper) (n m : Nat) : Bool := (List.range m).all fun t => decide (t ≤ n) || Region.waitsFor md ops t (t - 1)
theorem line_ready {n m s : Nat} {listed : Array Bool} (hns : n ≤ s) (hline : Region.lineB md ops n m = true) (hup : upTo n m s listed) :
    ∀ j ∈ Region.ready md ops listed, n ≤ j → j < m → j = s := by
  intro j hj hn hjm
  obtain ⟨hun, oj, hoj, hall⟩ := mem_ready.1 hj
  have h1 : s ≤ j := by
    rcases Nat.lt_or_ge j s with h | h
    · rw [(hup j hn hjm).2 h] at hun; cases hun
    · exact h
  rcases Nat.lt_or_ge s j with h | h
  · have h2 := List.all_eq_true.1 hline j (List.mem_range.2 hjm)
    simp only [Bool.or_eq_true, decide_eq_true_eq] at h2
    rcases h2 with h2 | h2
    · have := (hup j hn hjm)
      omega
    · obtain ⟨o', ho', e, he, hb, hon⟩ := Region.waitsFor_spec h2
      have : o' = oj := Option.some.inj (ho'.symm.trans hoj)
      subst this
      have h3 := hall e he hb
      rw [hon] at h3
      have h4 : listed.getD (j - 1) true = false := by
        rcases Nat.lt_or_ge (j - 1) n with h5 | h5
        · omega
        · cases h6 : listed.getD (j - 1) true with
          | false => rfl
          | true => have := (hup (j - 1) h5 (by omega)).1 h6; omega
      rw [getD_both h4] at h3
      cases h3
  · omega
section
variable {n m i : Nat} {oi : Oper} {v : Value} (hi : ops[i]? = some oi) (hsel : ∀ (j : Nat) (o : Oper) cs b, ops[j]? = some o → o.op ≠ .select cs b)
  (hs : Region.sinkB md ops m = true) (hc : Region.chainB md ops m = true) (hline : Region.lineB md ops n m = true) (hm : m < ops.size) (hin : i < n) (hnm : n ≤ m)
include hi hsel hs hc hline hm hin hnm
theorem G0_first {L : Array Bool → Act → Prop} (hdone : ∀ listed a, L listed a → ∀ j ∈ Region.ready md ops listed, n ≤ j) :
    ∀ (f : Nat) (listed : Array Bool) (a : Act), HeadInv md ops m listed → upTo n m m listed →
      (∀ j oj, ops[j]? = some oj → j ≠ i → listed.getD j true = false → (∀ e ∈ oj.after, Region.binds md e = true → e.on ≠ i) → oi.apart ops oj = true) →
      i ∈ Region.ready md ops listed → YG P ops W oi v a →
      G0 P md ops W n L f (listed.setIfInBounds i true) (a.put oi.dst v) → G0 P md ops W n L (f + 1) listed a := by
  intro f
  induction f with
  | zero =>
    intro listed a inv hup _ hr hy H
    have hun := (mem_ready.1 hr).1
    refine ⟨fun h => (by rw [h] at hr; cases hr), fun j hj => ?_⟩
    have hjm := ready_lt hs hc hm inv (by omega) hun j hj
    have hjn : j < n := by
      rcases Nat.lt_or_ge j n with h | h
      · exact h
      · have := line_ready hnm hline hup j hj h hjm; omega
    refine ⟨hjn, ?_⟩
    by_cases hji : j = i
    · subst hji; exact hy.gOp hi H
    · have := hdone _ _ H j (ready_mono hj hji)
      omega
  | succ f ih =>
    intro listed a inv hup hfree hr hy H
    have hun := (mem_ready.1 hr).1
    refine ⟨fun h => (by rw [h] at hr; cases hr), fun j hj => ?_⟩
    have hjm := ready_lt hs hc hm inv (by omega) hun j hj
    have hjn : j < n := by
      rcases Nat.lt_or_ge j n with h | h
      · exact h
      · have := line_ready hnm hline hup j hj h hjm; omega
    refine ⟨hjn, ?_⟩
    by_cases hji : j = i
    · subst hji; exact hy.gOp hi H
    · have h1 := (H.2 j (ready_mono hj hji)).2
      obtain ⟨hjun, oj, hoj, hall⟩ := mem_ready.1 hj
      have h2 := gOp_put hoj (hfree j oj hoj hji hjun (not_waits hun hall)) (fun cs b => hsel i oi cs b hi) (fun cs b => hsel j oj cs b hoj) hy h1
      refine gOp_mono (fun a' h3 => ih (listed.setIfInBounds j true) a' (inv.set hj hjm) (upTo_low hup hjn) (free_set hfree hjun) (ready_mono hr (Ne.symm hji)) h3.1 ?_) h2
      rw [Array.setIfInBounds_comm _ _ hji]
      exact h3.2
/-- That a quiet operation may be taken first. -/
def First (P : Program) (md : Region.Mode) (ops : Array Oper) (W : World) (n m s i : Nat) (oi : Oper) (v : Value) (G : Nat → (World → Prop) → Array Bool → Act → Prop) : Prop :=
  ∀ (f : Nat) (I : World → Prop) (listed : Array Bool) (a : Act), HeadInv md ops m listed → upTo n m s listed →
      (∀ j oj, ops[j]? = some oj → j ≠ i → listed.getD j true = false → (∀ e ∈ oj.after, Region.binds md e = true → e.on ≠ i) → oi.apart ops oj = true) →
      i ∈ Region.ready md ops listed → YG P ops W oi v a →
      G f I (listed.setIfInBounds i true) (a.put oi.dst v) → G (f + 1) I listed a
omit hs hc hline hm hin hnm in
theorem sOp_put {s : Nat} {I : World → Prop} {κ κ' : (World → Prop) → Act → Prop} {a : Act} {os : Oper} (hos : ops[s]? = some os) (hap : oi.apart ops os = true) (hy : YG P ops W oi v a)
    (hk : ∀ I' a', YG P ops W oi v a' → κ I' (a'.put oi.dst v) → κ' I' a') (h : sOp P ops W s I κ (a.put oi.dst v)) : sOp P ops W s I κ' a := by
  obtain ⟨o, ho, hg, hh⟩ := h
  have e : o = os := Option.some.inj (ho.symm.trans hos)
  subst e
  obtain ⟨h1, h2, h3⟩ := Oper.apart_spec hap
  refine ⟨o, hos, hg, fun w hw => ?_⟩
  obtain ⟨u, w', I', hr, hw', hD, hI, hkk⟩ := hh w hw
  rw [execOp_put o (fun cs b => hsel s o cs b hos) a oi.dst v h1] at hr
  exact ⟨u, w', I', hr, hw', hD, hI, hk I' _ (hy.of_same (execOp_put oi (fun cs b => hsel i oi cs b hi) a o.dst u h3) (wanted_put oi a o.dst u h3)) (by rw [← Act.put_comm a v u h2]; exact hkk)⟩
theorem Gs_first {s : Nat} {next : Nat → (World → Prop) → Array Bool → Act → Prop} (hns : n ≤ s) (hsm : s < m) (hnext : First P md ops W n m (s + 1) i oi v next) : First P md ops W n m s i oi v (Gs P md ops W n s next) := by
  have special : ∀ (f : Nat) (I : World → Prop) (listed : Array Bool) (a : Act), HeadInv md ops m listed → upTo n m s listed →
      (∀ j oj, ops[j]? = some oj → j ≠ i → listed.getD j true = false → (∀ e ∈ oj.after, Region.binds md e = true → e.on ≠ i) → oi.apart ops oj = true) →
      i ∈ Region.ready md ops listed → s ∈ Region.ready md ops listed → YG P ops W oi v a →
      sOp P ops W s I (fun I' a' => next f I' ((listed.setIfInBounds i true).setIfInBounds s true) a') (a.put oi.dst v) →
      sOp P ops W s I (fun I' a' => next (f + 1) I' (listed.setIfInBounds s true) a') a := by
    intro f I listed a inv hup hfree hr hrs hy H
    have hun := (mem_ready.1 hr).1
    obtain ⟨hsun, os, hos, hall⟩ := mem_ready.1 hrs
    have hin' : s < listed.size := by rw [inv.size]; omega
    refine sOp_put hi hsel hos (hfree s os hos (by omega) hsun (not_waits hun hall)) hy (fun I' a' hy' h' => ?_) H
    refine hnext f I' _ _ (inv.set hrs hsm) (upTo_next hup hin') (free_set hfree hsun) (ready_mono hr (by omega)) hy' ?_
    rw [Array.setIfInBounds_comm _ _ (by omega)]
    exact h'
  intro f
  induction f with
  | zero =>
    intro I listed a inv hup hfree hr hy H
    have hun := (mem_ready.1 hr).1
    refine ⟨fun h => (by rw [h] at hr; cases hr), fun j hj => ?_⟩
    have hjm := ready_lt hs hc hm inv (by omega) hun j hj
    rcases Nat.lt_or_ge j n with hjn | hjn
    · refine .inl ⟨hjn, ?_⟩
      by_cases hji : j = i
      · subst hji; exact hy.gOp hi H
      · have := (H.2 j (ready_mono hj hji)).1
        omega
    · have e := line_ready hns hline hup j hj hjn hjm
      subst e
      exact .inr ⟨rfl, special 0 I listed a inv hup hfree hr hj hy (H.2 j (ready_mono hj (by omega))).2⟩
  | succ f ih =>
    intro I listed a inv hup hfree hr hy H
    have hun := (mem_ready.1 hr).1
    refine ⟨fun h => (by rw [h] at hr; cases hr), fun j hj => ?_⟩
    have hjm := ready_lt hs hc hm inv (by omega) hun j hj
    rcases Nat.lt_or_ge j n with hjn | hjn
    · refine .inl ⟨hjn, ?_⟩
      by_cases hji : j = i
      · subst hji; exact hy.gOp hi H
      · rcases H.2 j (ready_mono hj hji) with ⟨_, h1⟩ | ⟨h, _⟩
        · obtain ⟨hjun, oj, hoj, hall⟩ := mem_ready.1 hj
          have h2 := gOp_put hoj (hfree j oj hoj hji hjun (not_waits hun hall)) (fun cs b => hsel i oi cs b hi) (fun cs b => hsel j oj cs b hoj) hy h1
          refine gOp_mono (fun a' h3 => ih I (listed.setIfInBounds j true) a' (inv.set hj hjm) (upTo_low hup hjn) (free_set hfree hjun) (ready_mono hr (Ne.symm hji)) h3.1 ?_) h2
          rw [Array.setIfInBounds_comm _ _ hji]
          exact h3.2
        · omega
    · have e := line_ready hns hline hup j hj hjn hjm
      subst e
      refine .inr ⟨rfl, special (f + 1) I listed a inv hup hfree hr hj hy ?_⟩
      rcases H.2 j (ready_mono hj (by omega)) with ⟨h, _⟩ | ⟨_, h⟩
      · omega
      · exact h
theorem Gx_first {L : (World → Prop) → Array Bool → Act → Prop} (hdone : ∀ I listed a, L I listed a → ∀ j ∈ Region.ready md ops listed, n ≤ j) :
    ∀ (r s : Nat), s + r = m → n ≤ s → First P md ops W n m s i oi v (Gx P md ops W n L r s)
  | 0, s, hsr, _ => fun f I listed a inv hup hfree hr hy H => by
    have : s = m := by omega
    subst this
    exact G0_first hi hsel hs hc hline hm hin hnm (hdone I) f listed a inv hup hfree hr hy H
  | r + 1, s, hsr, hns => Gs_first hi hsel hs hc hline hm hin hnm hns (by omega) (Gx_first hdone r (s + 1) (by omega) (by omega))
end
/-- The walk in the order of the text. -/
def wpG (P : Program) (ops : Array Oper) (W : World) (Q : Act → Prop) : List Oper → Act → Prop
  | [], a => Q a
  | o :: rest, a => if Region.wanted o (yielded ops a.tmps) then ∃ v, (∀ w, Below W.heap.size W w → gAt P o a w v) ∧ wpG P ops W Q rest (a.put o.dst v) else wpG P ops W Q rest (a.put o.dst undef)
/-- The special operations, one behind the other. -/
def wpS (P : Program) (W : World) (Z : (World → Prop) → Act → Prop) : List Oper → (World → Prop) → Act → Prop
  | [], I, a => Z I a
  | o :: rest, I, a => SpOp P W o I a (wpS P W Z rest)
theorem Gx_seq {n m g : Nat} {Z : (World → Prop) → Act → Prop} : ∀ (l : List Oper) (s : Nat) (I : World → Prop) (listed : Array Bool) (a : Act), (∀ j, j < l.length → l[j]? = ops[s + j]?) → s + l.length = m →
    Region.seqB md ops (l.length + g) s listed = true → wpS P W Z l I a →
    Gx P md ops W n (fun I' listed' a' => Region.seqB md ops g m listed' = true ∧ Z I' a') l.length s 0 I listed a
  | [], s, I, listed, a, _, hs, hB, h => by
    have : s = m := by simpa using hs
    subst this
    exact ⟨by simpa using hB, h⟩
  | o :: l, s, I, listed, a, hl, hs, hB, h => by
    have h0 : ops[s]? = some o := by simpa using (hl 0 (by simp)).symm
    rw [show (o :: l).length + g = (l.length + g) + 1 by simp; omega] at hB
    simp only [Region.seqB, Bool.and_eq_true, decide_eq_true_eq] at hB
    refine ⟨fun h0 => (by rw [hB.1] at h0; cases h0), fun i hi => ?_⟩
    rw [hB.1] at hi
    have hi : i = s := by simpa using hi
    subst hi
    refine ⟨rfl, o, h0, h.1, fun w hw => ?_⟩
    obtain ⟨v, w', I', hr, hw', hD, hI, hk⟩ := h.2 w hw
    exact ⟨v, w', I', hr, hw', hD, hI, Gx_seq l (i + 1) I' _ _ (fun j hj => by have := hl (j + 1) (by simp; omega); simpa [Nat.add_assoc, Nat.add_comm 1 j] using this) (by simp only [List.length_cons] at hs; omega) hB.2 hk⟩
theorem Gx_lex {n m g : Nat} {Z : (World → Prop) → Act → Prop} (ls : List Oper) (hls : ∀ j, j < ls.length → ls[j]? = ops[n + j]?) (hnm : n + ls.length = m) (hsel : Region.noSelect ops = true) (hs : Region.sinkB md ops m = true) (hc : Region.chainB md ops m = true)
    (hline : Region.lineB md ops n m = true) (hm : m < ops.size) (I : World → Prop) :
    ∀ (l : List Oper) (k : Nat) (listed : Array Bool) (a : Act), (∀ j, j < l.length → l[j]? = ops[k + j]?) → k + l.length = n → HeadInv md ops m listed → upTo n m n listed →
    Region.lexHead md ops (ls.length + g) l.length k listed = true → wpG P ops W (wpS P W Z ls I) l a →
    Gx P md ops W n (fun I' listed' a' => Region.seqB md ops g m listed' = true ∧ Z I' a') ls.length n l.length I listed a
  | [], k, listed, a, _, hk, _, _, hB, h => by
    have : k = n := by simpa using hk
    subst this
    exact Gx_seq ls k I listed a hls hnm (by simpa [Region.lexHead] using hB) h
  | o :: l, k, listed, a, hl, hk, inv, hup, hB, h => by
    have h0 : ops[k]? = some o := by simpa using (hl 0 (by simp)).symm
    simp only [List.length_cons, Region.lexHead, Bool.and_eq_true] at hB
    obtain ⟨⟨hr, hf⟩, hB'⟩ := hB
    have hkn : k < n := by simp only [List.length_cons] at hk; omega
    have hr' : k ∈ Region.ready md ops listed := by simpa using hr
    have hst : gOp P ops W k (wpG P ops W (wpS P W Z ls I) l) a := by unfold gOp; simp only [h0]; exact h
    obtain ⟨v, hy, hK⟩ := yg_of_gOp h0 hst
    exact Gx_first h0 (Region.noSelect_spec hsel) hs hc hline hm hkn (by omega) (fun I' listed' a' hL j hj => by have := seqB_ready hL.1 j hj; omega) ls.length n hnm (Nat.le_refl n) l.length I listed a inv hup (Region.free_spec h0 hf) hr' hy
      (Gx_lex ls hls hnm hsel hs hc hline hm I l (k + 1) _ _ (fun j hj => by have := hl (j + 1) (by simp; omega); simpa [Nat.add_assoc, Nat.add_comm 1 j] using this) (by simp only [List.length_cons] at hk; omega) (inv.set hr' (by omega)) (upTo_low hup hkn) hB' hK)
end
theorem headInv0 {ops : Array Oper} {n : Nat} : HeadInv .any ops n (Array.replicate ops.size false) :=
  ⟨by simp, fun j oj _ hl => (by rw [getD_replicate_false] at hl; cases hl), fun t _ ht => getD_in (by simpa using ht) (getD_replicate_false _ _)⟩
def drawB (ops : Array Oper) (n m : Nat) : Bool :=
  Region.noSelect ops && decide (n ≤ m) && decide (m < ops.size) && Region.sinkB .any ops m && Region.chainB .any ops m && Region.lineB .any ops n m && Region.lexHead .any ops (ops.size - n) n 0 (Array.replicate ops.size false)
/-- A REGION THAT DRAWS ITS ORDER: n operations that read or call, in whatever order; the special ones from n to m - 1, in the order of the text, at whatever time among those; then the others, in the order of the text. -/
theorem wp_region_draw {P : Program} {id : Nat} {Q : Exit → Act → World → Prop} {a : Act} {w : World} {l : List Oper} (n m : Nat) (hm : P.follows .mixedOrders = true) (hB : drawB l.toArray n m = true)
    (h : wpG P l.toArray w (wpS P w (fun I a' => ∀ w', I w' → wpList P l.toArray Q (l.drop m) a' w') ((l.drop n).take (m - n)) (fun w' => Below w.heap.size w w')) (l.take n) a) : (Code.region id l.toArray true).wp P Q a w := by
  simp only [drawB, Bool.and_eq_true, decide_eq_true_eq] at hB
  obtain ⟨⟨⟨⟨⟨⟨hsel, hnm⟩, hml⟩, hs⟩, hc⟩, hline⟩, hlex⟩ := hB
  have hml' : m < l.length := by simpa using hml
  have htl : (l.take n).length = n := by simp; omega
  have hll : ((l.drop n).take (m - n)).length = m - n := by simp; omega
  have hdl : (l.drop m).length = l.toArray.size - m := by simp
  have hg : l.toArray.size - n = ((l.drop n).take (m - n)).length + (l.toArray.size - m) := by rw [hll]; simp; omega
  rw [hg] at hlex
  have H := Gx_lex (W := w) (md := .any) (g := l.toArray.size - m) ((l.drop n).take (m - n)) (fun j hj => by
      have hj' : j < m - n := by rw [hll] at hj; exact hj
      simp [hj', List.getElem?_drop]) (by rw [hll]; omega) hsel hs hc hline hml (fun w' => Below w.heap.size w w') (l.take n) 0 _ a (fun j hj => by
      have hj' : j < n := by rw [htl] at hj; exact hj
      simp [hj']) (by simpa using htl) headInv0 (fun j hj hjm => by
      constructor
      · intro h1
        rw [getD_in (by simp; omega) (getD_replicate_false _ _)] at h1
        cases h1
      · omega) (by rw [htl]; exact hlex) h
  refine wp_region_any hm ?_
  have := gx_sound (W := w) (Q' := Q) (g := l.toArray.size - m) (fun I listed a' w' hw' hL => by
    have := wpAny_of_seq (md := .any) (Q' := Q) (l.drop m) m listed a' w' (fun j => by simp [List.getElem?_drop]) (by rw [hdl]; exact hL.1) (hL.2 w' hw')
    rwa [hdl] at this) _ _ _ _ _ _ { w with drawn := w.drawn + 1 } (fun _ h => h) (fun _ _ h k => bg_trans h k) ⟨rfl, rfl, rfl, Nat.le_refl _, fun _ _ => rfl⟩ H
  rw [htl, hll, show n + (m - n) + (l.toArray.size - m) = l.toArray.size by simp; omega] at this
  exact this
/-! ### The steps of the walk in the order of the text -/
theorem wpG_nil {P : Program} {ops : Array Oper} {W : World} {Q : Act → Prop} {a : Act} (h : Q a) : wpG P ops W Q [] a := h
theorem wpG_skip {P : Program} {ops : Array Oper} {W : World} {Q : Act → Prop} {a : Act} {o : Oper} {rest : List Oper} (hw : Region.wanted o (yielded ops a.tmps) = false)
    (h : ∃ a', a' = a.put o.dst undef ∧ wpG P ops W Q rest a') : wpG P ops W Q (o :: rest) a := by
  obtain ⟨_, rfl, h⟩ := h
  unfold wpG
  rw [if_neg (by rw [hw]; exact Bool.false_ne_true)]
  exact h
theorem put_inj {a : Act} {d : Tmp} {u v : Value} (hd : d < a.tmps.size) (h : a.put (some d) u = a.put (some d) v) : u = v := by
  have h1 : (a.tmps.setIfInBounds d u)[d]? = (a.tmps.setIfInBounds d v)[d]? := by
    have := congrArg Act.tmps h
    simp only [Act.put] at this
    rw [this]
  simpa [hd] using h1
theorem wpG_want {P : Program} {ops : Array Oper} {W : World} {Q : Act → Prop} {a : Act} {o : Oper} {rest : List Oper} {d : Tmp} (hw : Region.wanted o (yielded ops a.tmps) = true) (hd : o.dst = some d) (hlt : d < a.tmps.size)
    (h : ∃ a', (∀ (G : World) (K : Act → Prop), (∀ a'', a'' = a' → K a'') → o.quiet P a (fun w' => ∃ g, w' = grow (grow W G) g) K) ∧ (∃ v, a' = a.put o.dst v) ∧ wpG P ops W Q rest a') : wpG P ops W Q (o :: rest) a := by
  obtain ⟨_, hq, ⟨v, rfl⟩, hr⟩ := h
  unfold wpG
  rw [if_pos hw]
  refine ⟨v, fun w hb => ?_, hr⟩
  obtain ⟨G, rfl⟩ := grows_of hb
  obtain ⟨u, hu, he⟩ := hq G (fun a'' => a'' = a.put o.dst v) (fun _ h => h)
  rw [hd] at he
  have e := put_inj hlt he
  subst e
  have h1 := hu (grow W G) (grows_of (Below.refl _ _))
  unfold Oper.quietAt at h1
  unfold gAt
  generalize (execOp a.eval o).run P (grow W G) = r at *
  cases r with
  | ok nx w' =>
    cases nx <;> simp only [Oper.quietUpon] at h1 ⊢ <;> try exact h1
    exact ⟨h1.1, h1.2.mono fun _ _ ⟨h2, g, h3⟩ => ⟨h2, h3 ▸ grow_below _ _⟩⟩
  | halt x w' => simp only [Oper.quietUpon] at h1
theorem grow2_cell {w : World} {b : Nat} {c : Array Value} {t : TypeId} (h : w.heap[b]? = some (.cells c t)) (G g : World) (o : Nat) : (grow (grow w G) g).cell? ⟨b, o, none⟩ = c[o]? := grow_cell (grow_get h G) g o
theorem blk_set {w : World} {b : Nat} {c : Array Value} {t : TypeId} (h : w.heap[b]? = some (.cells c t)) (o : Nat) (v : Value) : (w.setCell ⟨b, o, none⟩ v).heap[b]? = some (.cells (c.setIfInBounds o v) t) := by
  show (w.heap.modify b _)[b]? = _
  have hlt := blk_lt h
  have h' : w.heap[b] = .cells c t := by simpa [Array.getElem?_eq_getElem hlt] using h
  rw [Array.getElem?_eq_getElem (by simpa using hlt), Array.getElem_modify_self, h']
  rfl
theorem set_old {w : World} {b : Nat} {x : Obj} (h : w.heap[b]? = some x) {p : Addr} (hp : p.block ≠ b) (v : Value) : (w.setCell p v).heap[b]? = some x := by
  rw [Below.heap_setCell _ _ _ _ (Ne.symm hp)]; exact h
/-- The operation that lays a block. -/
structure Lays (P : Program) (o : Oper) (d : Tmp) (z : Array Value) (t : TypeId) : Prop where
  guard : o.guard = none
  dst : o.dst = some d
  run : ∀ (a : Act) (w : World), (execOp a.eval o).run P w = .ok (.value (.pointer (some ⟨w.heap.size, 0, none⟩))) (w.alloc (.cells z t))
def InBlock (W : World) (b : Nat) (x : Obj) (w : World) : Prop := Below W.heap.size W w ∧ w.heap[b]? = some x
theorem spS_alloc {P : Program} {W : World} {Z : (World → Prop) → Act → Prop} {o : Oper} {rest : List Oper} {a : Act} {d : Tmp} {z : Array Value} {t : TypeId} (hl : Lays P o d z t)
    (h : ∀ b, W.heap.size ≤ b → ∃ a', a' = a.put (some d) (.pointer (some ⟨b, 0, none⟩)) ∧ wpS P W Z rest (InBlock W b (.cells z t)) a') : wpS P W Z (o :: rest) (fun w' => Below W.heap.size W w') a := by
  refine ⟨hl.guard, fun w hw => ⟨_, _, InBlock W w.heap.size (.cells z t), .inl (hl.run a w), ⟨bg_alloc hw _, alloc_new _ _⟩, fun _ h => h.1, fun _ _ h k => ⟨bg_trans h.1 k, below_get' k h.2⟩, ?_⟩⟩
  obtain ⟨_, rfl, h'⟩ := h _ hw.size
  rw [hl.dst]
  exact h'
theorem spS_store {P : Program} {W : World} {Z : (World → Prop) → Act → Prop} {o : Oper} {rest : List Oper} {a : Act} {b : Nat} {x y : Obj} (hg : o.guard = none) (hd : o.dst = none) (hb : W.heap.size ≤ b)
    (hr : ∀ w, w.heap[b]? = some x → ∃ w', (execOp a.eval o).run P w = .ok .skip w' ∧ w'.heap[b]? = some y ∧ Below b w w') (h : wpS P W Z rest (InBlock W b y) a) : wpS P W Z (o :: rest) (InBlock W b x) a := by
  refine ⟨hg, fun w hw => ?_⟩
  obtain ⟨w', h1, h2, h3⟩ := hr w hw.2
  refine ⟨undef, w', InBlock W b y, .inr ⟨h1, rfl⟩, ⟨hw.1.trans (h3.mono hb), h2⟩, fun _ h => h.1, fun _ _ h k => ⟨bg_trans h.1 k, below_get' k h.2⟩, ?_⟩
  rw [hd]
  exact h
/-- A struct of four cells, stored. -/
def put4 (w : World) (b : Nat) (v0 v1 v2 v3 : Value) : World := (((w.setCell ⟨b, 0, none⟩ v0).setCell ⟨b, 1, none⟩ v1).setCell ⟨b, 2, none⟩ v2).setCell ⟨b, 3, none⟩ v3
theorem put4_block {w : World} {b : Nat} {x0 x1 x2 x3 : Value} {t : TypeId} (h : w.heap[b]? = some (.cells #[x0, x1, x2, x3] t)) (v0 v1 v2 v3 : Value) : (put4 w b v0 v1 v2 v3).heap[b]? = some (.cells #[v0, v1, v2, v3] t) := by
  have := blk_set (blk_set (blk_set (blk_set h 0 v0) 1 v1) 2 v2) 3 v3
  unfold put4; simpa using this
theorem put4_below {w : World} {b : Nat} (v0 v1 v2 v3 : Value) : Below b w (put4 w b v0 v1 v2 v3) :=
  ((((Below.refl b w).setCell (p := ⟨b, 0, none⟩) (Nat.le_refl _) v0).setCell (p := ⟨b, 1, none⟩) (Nat.le_refl _) v1).setCell (p := ⟨b, 2, none⟩) (Nat.le_refl _) v2).setCell (p := ⟨b, 3, none⟩) (Nat.le_refl _) v3
end Go.Proofs.Ytdbcimadjmdffaa
