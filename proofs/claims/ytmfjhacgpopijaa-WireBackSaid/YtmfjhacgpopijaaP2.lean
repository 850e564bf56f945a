/- Logs: the words of the document; pages. No condition. -/
import Derived.Test.YtmfjhacgpopijaaP1
import Derived.Maps.AppendAt
import Derived.Lib.SmallJoins
section
set_option linter.unusedVariables false
set_option linter.unusedSimpArgs false
set_option linter.unusedSectionVars false
namespace Go.Proofs.Ytmfjhacgpopijaa
theorem Right.parts {r : R} {h : List R} (hr : Right (r :: h)) : Right h ∧ recErr (h.length + 1) r = 0 ∧ follows h r = true := by
  unfold Right errH at *
  by_cases h1 : errH h = 0
  · rw [if_pos h1] at hr
    by_cases h2 : recErr (h.length + 1) r = 0
    · rw [if_pos h2] at hr
      refine ⟨?_, h2, ?_⟩
      · cases h with
        | nil => rfl
        | cons a b => simpa [errH] using h1
      · cases hf : follows h r
        · rw [hf] at hr; simp at hr
        · rfl
    · rw [if_neg h2] at hr; exact absurd hr h2
  · rw [if_neg h1] at hr; exact absurd hr h1
theorem Right.mk {r : R} {h : List R} (h1 : Right h) (h2 : recErr (h.length + 1) r = 0) (h3 : follows h r = true) : Right (r :: h) := by
  unfold Right at *
  rw [errH, if_pos h1, if_pos h2, if_pos h3]
theorem Right.nil : Right [] := rfl
/-- A record's numbers are in their bounds. -/
theorem rec_bounds {n : Int} {r : R} (h : recErr n r = 0) : 1 ≤ n ∧ n ≤ 60 ∧ 1 ≤ r.kind ∧ r.kind ≤ 4 ∧ 1 ≤ r.txn ∧ r.txn ≤ 9 ∧ 0 ≤ r.prev ∧ r.prev ≤ n - 1 ∧
    (r.turns = true → (0 ≤ r.page ∧ r.page ≤ 2) ∧ (0 ≤ r.cell ∧ r.cell ≤ 2) ∧ (0 ≤ r.old ∧ r.old ≤ 99) ∧ (0 ≤ r.new ∧ r.new ≤ 99)) ∧ (r.kind = 3 → 0 ≤ r.next ∧ r.next ≤ n - 1) ∧
    (r.turns = false → r.page = 0 ∧ r.cell = 0 ∧ r.old = 0 ∧ r.new = 0) ∧ (r.kind ≠ 3 → r.next = 0) := by
  unfold recErr at h
  split at h
  rotate_left
  · simp at h
  split at h
  rotate_left
  · simp at h
  split at h
  rotate_left
  · simp at h
  split at h
  rotate_left
  · simp at h
  split at h
  rotate_left
  · simp at h
  split at h
  rotate_left
  · simp at h
  rename_i h1 h2 h3 h4 h5 h6
  simp only [Bool.and_eq_true, Bool.or_eq_true, wi_iff, R.inner, R.bare, bne_iff_ne, beq_iff_eq, Bool.not_eq_true'] at h1 h2 h3 h4 h5 h6
  refine ⟨by omega, by omega, by omega, by omega, by omega, by omega, by omega, by omega, fun ht => ?_, fun hk => ?_, fun ht => ?_, fun hk => ?_⟩
  · simp [ht] at h4; exact ⟨h4.1, h4.2.1, h4.2.2.1, h4.2.2.2⟩
  · simp [hk] at h5; exact h5
  · simp [ht] at h6; exact h6.1
  · simp [hk] at h6; exact h6.2
/-- Each record that turns a page is in range. -/
def InR (h : List R) : Prop := ∀ r ∈ h, r.turns = true → (0 ≤ r.page ∧ r.page ≤ 2) ∧ (0 ≤ r.cell ∧ r.cell ≤ 2)
def Fit (h : List R) : Prop := ∀ t, cnt h t 3 ≤ (wrs h t).length
theorem Right.inR : ∀ {h : List R}, Right h → InR h
  | [], _ => fun _ h => by cases h
  | r :: h, hr => by
    obtain ⟨h1, h2, _⟩ := hr.parts
    intro x hx ht
    rcases List.mem_cons.1 hx with rfl | hx
    · have := (rec_bounds h2).2.2.2.2.2.2.2.2.1 ht
      exact ⟨this.1, this.2.1⟩
    · exact h1.inR x hx ht
theorem follows_back {h : List R} {r : R} (hf : follows h r = true) (hk : r.kind = 3) : ∃ n l, ups h r.txn = n :: l ∧ r.page = (recAt h n).page ∧ r.cell = (recAt h n).cell ∧ r.old = (recAt h n).new ∧ r.new = (recAt h n).old ∧ r.next = (recAt h n).prev := by
  unfold follows at hf
  split at hf
  · cases hf
  · rw [if_neg (by omega), if_neg (by omega)] at hf
    try rw [if_pos hk] at hf
    cases hu : ups h r.txn with
    | nil => rw [hu] at hf; simp at hf
    | cons n l =>
      rw [hu] at hf
      simp at hf
      exact ⟨n, l, rfl, hf.1, hf.2.1, hf.2.2.1, hf.2.2.2.1, hf.2.2.2.2⟩
theorem Right.fit : ∀ {h : List R}, Right h → Fit h
  | [], _ => fun t => by simp [cnt]
  | r :: h, hr => by
    obtain ⟨h1, h2, h3⟩ := hr.parts
    intro t
    have ih := h1.fit t
    simp only [cnt, wrs]
    by_cases hb : r.txn = t ∧ r.kind = 3
    · obtain ⟨rfl, hk⟩ := hb
      obtain ⟨n, l, hu, _⟩ := follows_back h3 hk
      have hlt : cnt h r.txn 3 < (wrs h r.txn).length := by
        unfold ups at hu
        have := congrArg List.length hu
        simp at this
        omega
      simp [hk]
      omega
    · rw [if_neg hb]
      split <;> simp <;> omega
theorem wrs_le : ∀ {h : List R} {t : Int} {n : Nat}, n ∈ wrs h t → 1 ≤ n ∧ n ≤ h.length
  | [], _, _, hn => by cases hn
  | r :: h, t, n, hn => by
    unfold wrs at hn
    split at hn
    · rcases List.mem_cons.1 hn with rfl | hn
      · simp
      · have := wrs_le hn
        simp; omega
    · have := wrs_le hn
      simp; omega
theorem ups_le {h : List R} {t : Int} {n : Nat} (hn : n ∈ ups h t) : 1 ≤ n ∧ n ≤ h.length := wrs_le (List.mem_of_mem_drop hn)
theorem wrs_len : ∀ (h : List R) (t : Int), (wrs h t).length ≤ h.length
  | [], _ => by simp [wrs]
  | r :: h, t => by
    have := wrs_len h t
    unfold wrs
    split <;> simp <;> omega
/-- What is cut off a right history leaves a right one. -/
theorem Right.drop : ∀ {h : List R} (k : Nat), Right h → Right (h.drop k)
  | [], k, _ => by simp; rfl
  | r :: h, 0, hr => hr
  | r :: h, k + 1, hr => by simpa using Right.drop k hr.parts.1
end Go.Proofs.Ytmfjhacgpopijaa
end
section
set_option maxRecDepth 100000
set_option linter.unusedVariables false
set_option linter.unusedSimpArgs false
set_option linter.unusedSectionVars false
set_option maxHeartbeats 4000000
namespace Go.Proofs.Ytmfjhacgpopijaa
open Go.RowKit
theorem dec_lt {k m : Nat} {b : Bool} (h : decide ((k : Int) < (m : Int)) = b) : if b then k < m else m ≤ k := by
  subst h
  by_cases e : k < m
  · simp [e]
  · simp [e]; omega
theorem take_len {α : Type} {l : List α} {k : Nat} (h : l.length ≤ k) : l.take k = l := List.take_of_length_le h

theorem w_last (l : List R) (A : Option Addr) (b o c : Nat) (t : Int) (w : World) (hl : l.length ≤ 60) (hr : RL w A b o l) : Ret Try.prog 30 [.slice A l.length c, .int .i64 t] w (.int .i64 (lastN l.reverse t)) := by
 refine enter Try.func30 rfl Try.ntmps30 rfl SF.top trivial ?_
 refine sR ?_
 refine pA rfl rfl ?_
 refine nN ?_
 refine sR ?_
 refine pA rfl rfl ?_
 refine nN ?_
 refine WC.seq ?_
 refine sR ?_
 refine pA rfl rfl ?_
 refine nN ?_
 refine WC.block ?_
 refine WC.loop (ι := Nat) (fun k => [(0, .slice A l.length c), (1, .int .i64 t), (5, .int .i64 (lastN (l.take k).reverse t)), (6, .int .i64 k)]) (fun _ => []) (fun _ => SF.top) (fun k => k ≤ l.length) (fun k => l.length - k) 0 (Nat.zero_le _) (fun a w s => s.weak (by repeat (first | exact sub_nil _ | refine sub_cons rfl ?_))) (fun k hk => ?_)
 refine WC.seq ?_
 refine sR ?_
 refine pM rfl rfl ?_
 refine pM rfl rfl ?_
 refine pP (Y.len Try.underlying26 rfl) rfl ?_
 refine pP (Y.lss rfl rfl) rfl ?_
 refine nN ?_
 refine WC.cond rfl (fun h10 => ?_) (fun h10 => ?_)
 refine WC.skip' ?_
 refine WQ.next ?_
 refine WC.seq ?_
 refine WC.block ?_
 refine sR ?_
 have h10 := dec_lt h10
 simp only [if_true] at h10
 obtain ⟨r, hk'⟩ : ∃ r, l[k]? = some r := ⟨_, List.getElem?_eq_getElem h10⟩
 refine pM rfl rfl ?_
 refine pM rfl rfl ?_
 refine pP (Y.ixSlA Try.underlying26 Try.sizeOf48 rfl rfl (hr.addr hk') (nat0 _) (get_ltI hk')) rfl ?_
 refine pP (Y.fieldAddr fa_48_1 rfl) rfl ?_
 refine pV (Y.loadc fl_3 rfl (fun a w s => (hr.below s.low).cell _ _ hk' 1 _ rfl)) rfl ?_
 refine pM rfl rfl ?_
 refine pP (Y.eql rfl rfl) rfl ?_
 refine nN ?_
 refine WC.cond rfl (fun h19 => ?_) (fun h19 => ?_)
 refine WC.region ?_
 refine pM rfl rfl ?_
 refine pP (Y.add rfl rfl (i64_in (by omega) (by omega))) rfl ?_
 refine pA rfl rfl ?_
 refine WL.nil ?_
 refine WQ.blockEnd ?_
 refine WQ.next ?_
 refine WC.region ?_
 refine pM rfl rfl ?_
 refine pP (Y.add rfl rfl (i64_in (by omega) (by omega))) rfl ?_
 refine pA rfl rfl ?_
 refine WL.nil ?_
 · refine fun a w s => ⟨k + 1, by omega, by omega, s.weak (sub_cons rfl (sub_cons rfl (sub_cons (eqi ?_) (sub_cons rfl (sub_nil _)))))⟩
   rw [takeS hk']
   simp at h19
   simp [lastN, h19, takeL hk']
 refine WC.skip' ?_
 refine WQ.blockEnd ?_
 refine WQ.next ?_
 refine WC.region ?_
 refine pM rfl rfl ?_
 refine pP (Y.add rfl rfl (i64_in (by omega) (by omega))) rfl ?_
 refine pA rfl rfl ?_
 refine WL.nil ?_
 · refine fun a w s => ⟨k + 1, by omega, by omega, s.weak (sub_cons rfl (sub_cons rfl (sub_cons (eqi ?_) (sub_cons rfl (sub_nil _)))))⟩
   rw [takeS hk']
   simp at h19
   simp [lastN, h19, takeL hk']
 refine WC.exit ?_
 refine WQ.thenExit ?_
 refine WQ.thenExit ?_
 refine WQ.blockExit ?_
 refine WQ.next ?_
 refine sR ?_
 refine pM rfl rfl ?_
 refine pA rfl rfl ?_
 refine nN ?_
 refine WC.ret ?_
 refine dn1 Try.results30 rfl (fun a w s => ?_)
 · refine ⟨?_, s.low⟩
   have h10 := dec_lt h10
   simp only [Bool.false_eq_true, if_false] at h10
   rw [take_len h10]
   rfl

theorem w_count (l : List R) (A : Option Addr) (b o c : Nat) (t kd : Int) (w : World) (hl : l.length ≤ 60) (hr : RL w A b o l) : Ret Try.prog 40 [.slice A l.length c, .int .i64 t, .int .i64 kd] w (.int .i64 (cnt l.reverse t kd)) := by
 refine enter Try.func40 rfl Try.ntmps40 rfl SF.top trivial ?_
 refine sR ?_
 refine pA rfl rfl ?_
 refine nN ?_
 refine sR ?_
 refine pA rfl rfl ?_
 refine nN ?_
 refine WC.seq ?_
 refine sR ?_
 refine pA rfl rfl ?_
 refine nN ?_
 refine WC.block ?_
 refine WC.loop (ι := Nat) (fun k => [(0, .slice A l.length c), (1, .int .i64 t), (2, .int .i64 kd), (7, .int .i64 (cnt (l.take k).reverse t kd)), (8, .int .i64 k)]) (fun _ => []) (fun _ => SF.top) (fun k => k ≤ l.length ∧ cnt (l.take k).reverse t kd ≤ k) (fun k => l.length - k) 0 ⟨Nat.zero_le _, Nat.le_refl _⟩ (fun a w s => s.weak (by repeat (first | exact sub_nil _ | refine sub_cons rfl ?_))) (fun k hk => ?_)
 obtain ⟨hk, hc⟩ := hk
 refine WC.seq ?_
 refine sR ?_
 refine pM rfl rfl ?_
 refine pM rfl rfl ?_
 refine pP (Y.len Try.underlying26 rfl) rfl ?_
 refine pP (Y.lss rfl rfl) rfl ?_
 refine nN ?_
 refine WC.cond rfl (fun h12 => ?_) (fun h12 => ?_)
 refine WC.skip' ?_
 refine WQ.next ?_
 refine WC.seq ?_
 refine WC.block ?_
 refine sR ?_
 have h12 := dec_lt h12
 simp only [if_true] at h12
 obtain ⟨r, hk'⟩ : ∃ r, l[k]? = some r := ⟨_, List.getElem?_eq_getElem h12⟩
 refine pM rfl rfl ?_
 refine pM rfl rfl ?_
 refine pP (Y.ixSlA Try.underlying26 Try.sizeOf48 rfl rfl (hr.addr hk') (nat0 _) (get_ltI hk')) rfl ?_
 refine pP (Y.fieldAddr fa_48_1 rfl) rfl ?_
 refine pV (Y.loadc fl_3 rfl (fun a w s => (hr.below s.low).cell _ _ hk' 1 _ rfl)) rfl ?_
 refine pM rfl rfl ?_
 refine pP (Y.eql rfl rfl) rfl ?_
 refine pM rfl rfl ?_
 refine WL.split (t := 22) rfl (fun r h22 => ?_)
 cases r
 refine gF rfl ?_
 refine gF rfl ?_
 refine gF rfl ?_
 refine gF rfl ?_
 refine gF rfl ?_
 refine gF rfl ?_
 refine gF rfl ?_
 refine pP (Y.pickF rfl rfl) rfl ?_
 refine nN ?_
 refine WC.condF rfl ?_
 refine WC.skip' ?_
 refine WQ.blockEnd ?_
 refine WQ.next ?_
 refine WC.region ?_
 refine pM rfl rfl ?_
 refine pP (Y.add rfl rfl (i64_in (by omega) (by omega))) rfl ?_
 refine pA rfl rfl ?_
 refine WL.nil ?_
 · have hn : cnt (l.take (k + 1)).reverse t kd = (if r.txn = t ∧ r.kind = kd then 1 else 0) + cnt (l.take k).reverse t kd := by rw [takeS hk']; rfl
   refine fun a w s => ⟨k + 1, ⟨by omega, by rw [hn]; split <;> omega⟩, by omega, s.weak (sub_cons rfl (sub_cons rfl (sub_cons rfl (sub_cons (eqi ?_) (sub_cons rfl (sub_nil _))))))⟩
   rw [hn]
   simp at h22
   first
     | (simp [h22]; done)
     | (simp at h30; simp [h22, h30]; done)
     | (simp at h30; simp [h22, h30]; omega)
 refine gT rfl ?_
 refine pM rfl rfl ?_
 refine gT rfl ?_
 refine pM rfl rfl ?_
 refine gT rfl ?_
 refine pP (Y.ixSlA Try.underlying26 Try.sizeOf48 rfl rfl (hr.addr hk') (nat0 _) (get_ltI hk')) rfl ?_
 refine gT rfl ?_
 refine pP (Y.fieldAddr fa_48_0 rfl) rfl ?_
 refine gT rfl ?_
 refine pV (Y.loadc fl_3 rfl (fun a w s => (hr.below s.low).cell _ _ hk' 0 _ rfl)) rfl ?_
 refine gT rfl ?_
 refine pM rfl rfl ?_
 refine gT rfl ?_
 refine pP (Y.eql rfl rfl) rfl ?_
 refine pP (Y.pickT rfl rfl) rfl ?_
 refine nN ?_
 refine WC.cond rfl (fun h30 => ?_) (fun h30 => ?_)
 refine WC.region ?_
 refine pM rfl rfl ?_
 refine pP (Y.add rfl rfl (i64_in (by omega) (by omega))) rfl ?_
 refine pA rfl rfl ?_
 refine WL.nil ?_
 refine WQ.blockEnd ?_
 refine WQ.next ?_
 refine WC.region ?_
 refine pM rfl rfl ?_
 refine pP (Y.add rfl rfl (i64_in (by omega) (by omega))) rfl ?_
 refine pA rfl rfl ?_
 refine WL.nil ?_
 · have hn : cnt (l.take (k + 1)).reverse t kd = (if r.txn = t ∧ r.kind = kd then 1 else 0) + cnt (l.take k).reverse t kd := by rw [takeS hk']; rfl
   refine fun a w s => ⟨k + 1, ⟨by omega, by rw [hn]; split <;> omega⟩, by omega, s.weak (sub_cons rfl (sub_cons rfl (sub_cons rfl (sub_cons (eqi ?_) (sub_cons rfl (sub_nil _))))))⟩
   rw [hn]
   simp at h22
   first
     | (simp [h22]; done)
     | (simp at h30; simp [h22, h30]; done)
     | (simp at h30; simp [h22, h30]; omega)
 refine WC.skip' ?_
 refine WQ.blockEnd ?_
 refine WQ.next ?_
 refine WC.region ?_
 refine pM rfl rfl ?_
 refine pP (Y.add rfl rfl (i64_in (by omega) (by omega))) rfl ?_
 refine pA rfl rfl ?_
 refine WL.nil ?_
 · have hn : cnt (l.take (k + 1)).reverse t kd = (if r.txn = t ∧ r.kind = kd then 1 else 0) + cnt (l.take k).reverse t kd := by rw [takeS hk']; rfl
   refine fun a w s => ⟨k + 1, ⟨by omega, by rw [hn]; split <;> omega⟩, by omega, s.weak (sub_cons rfl (sub_cons rfl (sub_cons rfl (sub_cons (eqi ?_) (sub_cons rfl (sub_nil _))))))⟩
   rw [hn]
   simp at h22
   first
     | (simp [h22]; done)
     | (simp at h30; simp [h22, h30]; done)
     | (simp at h30; simp [h22, h30]; omega)
 refine WC.exit ?_
 refine WQ.thenExit ?_
 refine WQ.thenExit ?_
 refine WQ.blockExit ?_
 refine WQ.next ?_
 refine sR ?_
 refine pM rfl rfl ?_
 refine pA rfl rfl ?_
 refine nN ?_
 refine WC.ret ?_
 refine dn1 Try.results40 rfl (fun a w s => ?_)
 · refine ⟨?_, s.low⟩
   have h12 := dec_lt h12
   simp only [Bool.false_eq_true, if_false] at h12
   rw [take_len h12]
   rfl

theorem w_state (l : List R) (A : Option Addr) (b o c : Nat) (t : Int) (w : World) (hl : l.length ≤ 60) (hr : RL w A b o l) : Ret Try.prog 29 [.slice A l.length c, .int .i64 t] w (.int .i64 (stt l.reverse t)) := by
 refine enter Try.func29 rfl Try.ntmps29 rfl SF.top trivial ?_
 refine sR ?_
 refine pA rfl rfl ?_
 refine nN ?_
 refine WC.seq ?_
 refine WC.block ?_
 refine sR ?_
 refine pM rfl rfl ?_
 refine pM rfl rfl ?_
 refine WL.eff (E.call Try.call30 rfl (fun _ w s => w_last l A b o c t w hl (hr.below s.low)) rfl) rfl (fun _ => ?_)
 refine pP (Y.eql rfl rfl) rfl ?_
 refine pA rfl rfl ?_
 refine nN ?_
 refine WC.cond rfl (fun h5 => ?_) (fun h5 => ?_)
 refine sR ?_
 refine pA rfl rfl ?_
 refine nN ?_
 refine WC.ret ?_
 refine WQ.blockRet ?_
 refine WQ.thenRet ?_
 refine dn1 Try.results29 rfl (fun a w s => ?_)
 · refine ⟨?_, s.low⟩
   clear s
   simp only [packed]
   apply reti
   (simp_all [stt] <;> grind)
 refine sR ?_
 refine pM rfl rfl ?_
 refine pM rfl rfl ?_
 refine WL.eff (E.call Try.call40 rfl (fun _ w s => w_count l A b o c t _ w hl (hr.below s.low)) rfl) rfl (fun _ => ?_)
 refine pP (Y.gtr rfl rfl) rfl ?_
 refine pA rfl rfl ?_
 refine nN ?_
 refine WC.cond rfl (fun h10 => ?_) (fun h10 => ?_)
 refine sR ?_
 refine pA rfl rfl ?_
 refine nN ?_
 refine WC.ret ?_
 refine WQ.blockRet ?_
 refine WQ.thenRet ?_
 refine dn1 Try.results29 rfl (fun a w s => ?_)
 · refine ⟨?_, s.low⟩
   clear s
   simp only [packed]
   apply reti
   (simp_all [stt] <;> grind)
 refine sR ?_
 refine pM rfl rfl ?_
 refine pM rfl rfl ?_
 refine WL.eff (E.call Try.call40 rfl (fun _ w s => w_count l A b o c t _ w hl (hr.below s.low)) rfl) rfl (fun _ => ?_)
 refine pP (Y.gtr rfl rfl) rfl ?_
 refine pA rfl rfl ?_
 refine nN ?_
 refine WC.cond rfl (fun h15 => ?_) (fun h15 => ?_)
 refine sR ?_
 refine pA rfl rfl ?_
 refine nN ?_
 refine WC.ret ?_
 refine WQ.blockRet ?_
 refine WQ.thenRet ?_
 refine dn1 Try.results29 rfl (fun a w s => ?_)
 · refine ⟨?_, s.low⟩
   clear s
   simp only [packed]
   apply reti
   (simp_all [stt] <;> grind)
 refine sR ?_
 refine pM rfl rfl ?_
 refine pM rfl rfl ?_
 refine WL.eff (E.call Try.call40 rfl (fun _ w s => w_count l A b o c t _ w hl (hr.below s.low)) rfl) rfl (fun _ => ?_)
 refine pP (Y.gtr rfl rfl) rfl ?_
 refine pA rfl rfl ?_
 refine nN ?_
 refine WC.cond rfl (fun h20 => ?_) (fun h20 => ?_)
 refine sR ?_
 refine pA rfl rfl ?_
 refine nN ?_
 refine WC.ret ?_
 refine WQ.blockRet ?_
 refine WQ.thenRet ?_
 refine dn1 Try.results29 rfl (fun a w s => ?_)
 · refine ⟨?_, s.low⟩
   clear s
   simp only [packed]
   apply reti
   (simp_all [stt] <;> grind)
 refine WC.skip' ?_
 refine WQ.blockEnd ?_
 refine WQ.next ?_
 refine sR ?_
 refine pA rfl rfl ?_
 refine nN ?_
 refine WC.ret ?_
 refine dn1 Try.results29 rfl (fun a w s => ?_)
 · refine ⟨?_, s.low⟩
   clear s
   simp only [packed]
   apply reti
   (simp_all [stt] <;> grind)
end Go.Proofs.Ytmfjhacgpopijaa
end
section
set_option linter.unusedVariables false
set_option linter.unusedSimpArgs false
set_option linter.unusedSectionVars false
namespace Go.Proofs.Ytmfjhacgpopijaa
open Go.RowKit
/-- The slice v of n elements, of the call's own. -/
def SF.own (base : Nat) (e : TypeId) (size : Nat) (v : Value) (n : Nat) (xs : List Value) : SF where
  p w := w.ownsRow base e size v n xs
  fp _ b := v.ownBlock = some b
  lt w b h k := (h.lt b k).2
  st w w' h k := by
    refine ⟨⟨h.1, ?_⟩, fun _ h => h⟩
    rcases h.2 with h2 | ⟨g, cap, cur, hv, h3, h4, h5⟩
    · exact .inl h2
    · refine .inr ⟨g, cap, cur, hv, h3, ?_, h5⟩
      rw [k g (by rw [hv]; rfl)]
      exact h4
section
variable [Inhabited DSx] {P : Program} {Q : Exit → Act → World → Prop} {E : Env} {n : Nat} {H : Hp} {F : SF} {w0 : World}
theorem Y.slTo {d : Option Nat} {x y : Operand} {T T' : TypeId} {p : String} {af : Array Edge} {A : Option Addr} {len cap e sz : Nat} {i : Int} (hu : P.underlying T = some (.slice e)) (hs : ∀ w, (sizeOf e).run P w = .ok sz w) (hx : ev E x = some (.slice A len cap)) (hy : ev E y = some (.int .i64 i)) (h0 : 0 ≤ i) (h1 : i ≤ cap) :
    Yp P E n ⟨d, .slice T x none (some y) none, T', p, af, none⟩ (.slice A i.toNat cap) := fun a w s => by
  have e1 : A.map (fun a => a.add 0) = A := by cases A <;> simp [Addr.add]
  simp [execOp, s.eval hx, s.eval hy, Instr.sliceAt, Instr.slice, run_underlying hu, Instr.sliceBounds, Instr.sliceBound, asIntOf, h0, h1, hs w, e1]
theorem Y.slToN {d : Option Nat} {x y : Operand} {T T' : TypeId} {p : String} {af : Array Edge} {A : Option Addr} {len cap e sz : Nat} {i : Int} (m : Nat) (hm : i = (m : Int)) (hu : P.underlying T = some (.slice e)) (hs : ∀ w, (sizeOf e).run P w = .ok sz w) (hx : ev E x = some (.slice A len cap)) (hy : ev E y = some (.int .i64 i)) (h1 : m ≤ cap) :
    Yp P E n ⟨d, .slice T x none (some y) none, T', p, af, none⟩ (.slice A m cap) := by
  have h := Y.slTo (P := P) (E := E) (n := n) (d := d) (T := T) (T' := T') (p := p) (af := af) hu hs hx hy (by omega) (by omega)
  rwa [hm, Int.toNat_natCast] at h
theorem Y.indexK {d : Option Nat} {x y : Operand} {T T' : TypeId} {p : String} {af : Array Edge} {vx vy v : Value} (hx : ev E x = some vx) (hy : ev E y = some vy) (hb : ∀ w, (Instr.index T vx vy).run P w = .ok v w) : Yp P E n ⟨d, .index T x y, T', p, af, none⟩ v := fun a w s => by
  show (do let u ← Instr.index T (a.eval x) (a.eval y); pure (Next.value u)).run P w = _
  rw [s.eval hx, s.eval hy, Sem.run_bind, hb w]
  rfl
theorem Y.fieldK {d : Option Nat} {x : Operand} {T T' f : Nat} {p : String} {af : Array Edge} {vx v : Value} (hx : ev E x = some vx) (hb : ∀ w, (Instr.field T vx f).run P w = .ok v w) : Yp P E n ⟨d, .field T x f, T', p, af, none⟩ v := fun a w s => by
  show (do let u ← Instr.field T (a.eval x) f; pure (Next.value u)).run P w = _
  rw [s.eval hx, Sem.run_bind, hb w]
  rfl
/-- Another fact on memory. -/
theorem WC.fact {c : Code} (G : SF) (h : ∀ a w, St E n H F w0 a w → G.p w ∧ ∀ x ∈ H, ¬ G.fp w x.1) (k : WC P c Q E n H G w0) : WC P c Q E n H F w0 := fun a w s => k a w ⟨s.env, s.hp, (h a w s).1, (h a w s).2, s.low⟩
theorem St.fst {G : SF} {a : Act} {w : World} (s : St E n H (F.and G) w0 a w) : St E n H F w0 a w := ⟨s.env, s.hp, s.fact.1, fun x hx h => s.sep x hx (.inl h), s.low⟩
theorem St.noH {a : Act} {w : World} (s : St E n H F w0 a w) : St E n [] F w0 a w := ⟨s.env, HpOf.nil _ _, s.fact, fun _ h => (by cases h), s.low⟩
theorem own_nil (w : World) (base e size : Nat) : (SF.own base e size (.slice none 0 0) 0 []).p w := World.ownsRow_nil w base e size
theorem own_val {w : World} {base e size n : Nat} {v : Value} {xs : List Value} (h : w.ownsRow base e size v n xs) : ∃ A c, v = .slice A n c := by
  rcases h.2 with ⟨rfl, rfl⟩ | ⟨g, cap, cur, rfl, _⟩
  · exact ⟨_, _, rfl⟩
  · exact ⟨_, _, rfl⟩
theorem own_blk {g n c : Nat} {A : Option Addr} (h : Value.ownBlock (.slice A n c) = some g) : ∃ a, A = some a ∧ a.block = g := by
  cases A with
  | none => cases h
  | some a => exact ⟨a, rfl, Option.some.inj h⟩
/-- append: the row as a whole is known. -/
theorem E.append {d : Nat} {x y : Operand} {T T' e : TypeId} {p : String} {af : Array Edge} {i : TypeInfo} {z : Value} {size bytes m c k A0 : Nat} {A : Option Addr} {b : Nat} {cs xs : List Value} {T2 : TypeId}
    (hu : P.underlying T = some (.slice e)) (hi : P.info? e = some i) (hz : i.zero = some z) (hsize : i.size = size) (hby : i.bytes = bytes) (hzs : z.cells.size = size) (hsz : 0 < size)
    (hF : F = SF.own w0.heap.size e size (.slice A k A0) k xs) (hx : ev E x = some (.slice A k A0)) (hy : ev E y = some (.slice (some ⟨b, 0, none⟩) m c)) (hm : (b, cs, T2) ∈ H) (hl : cs.length = m * size) (h1 : (cs.all Value.oneCell') = true)
    (h63 : k + m ≤ maxLen) (hbytes : (k + m) * bytes ≤ 140737488355328) (hn : Nat.blt d n = true) :
    Eff P E n H F w0 ⟨some d, .call { callee := .builtin .append, args := #[x, y], argTypes := #[T, T] }, T', p, af, none⟩ (fun i : Option Addr × Nat => (d, .slice i.1 (k + m) i.2) :: E) (fun _ => H) (fun i => SF.own w0.heap.size e size (.slice i.1 (k + m) i.2) (k + m) (xs ++ cs)) := fun a w s Q K hK => by
  subst hF
  have hown : w.ownsRow w0.heap.size e size (.slice A k A0) k xs := s.fact
  obtain ⟨v', w', hrun, h2, h3, _, h5⟩ := run_append_own_at (P := P) w w0.heap.size T T' e i z size bytes hu hi hz hsize hby hzs hsz _ k xs hown ⟨b, 0, none⟩ m c cs hl
    (fun j u hj => by
      have e1 : (⟨b, 0, none⟩ : Addr).add j = ⟨b, j, none⟩ := by unfold Addr.add; split <;> simp_all
      rw [e1, s.hp.cell hm, hj]) (fun u hu => List.all_eq_true.1 h1 u hu) h63 hbytes s.low.size
  obtain ⟨A', c', rfl⟩ := own_val h2
  have hrow : ∀ g, Value.ownBlock (.slice A k A0) = some g → w0.heap.size ≤ g ∧ g < w.heap.size := fun g hg => hown.lt g hg
  have hlow : Below w0.heap.size w0 w' := s.low.grown h3 s.low.size (fun g hg => (hrow g hg).1)
  have hHp : HpOf w0.heap.size H w' := ⟨fun x hx => by
    have hb := s.hp.blk x hx
    refine ⟨?_, hb.2⟩
    rw [h3.block x.1 (s.hp.lt hx) (fun e => s.sep x hx e.symm)]
    exact hb.1, s.hp.nd⟩
  have hsep : ∀ x ∈ H, ¬ (SF.own w0.heap.size e size (.slice A' (k + m) c') (k + m) (xs ++ cs)).fp w' x.1 := fun x hx hk => by
    have hlt := s.hp.lt hx
    have hk' : Value.ownBlock (.slice A' (k + m) c') = some x.1 := hk
    rcases h5 with h5 | h5
    · exact s.sep x hx (h5.symm.trans hk')
    · have := h5.symm.trans hk'
      simp at this
      omega
  unfold Oper.wp
  have h6 : (execOp a.eval ⟨some d, .call { callee := .builtin .append, args := #[x, y], argTypes := #[T, T] }, T', p, af, none⟩).run P w = .ok (.value (.slice A' (k + m) c')) w' := by
    simp only [execOp, resolve, invoke, builtin, Sem.run_bind, Sem.run_pure, Result.andThen_ok, List.map_toArray, List.map_cons, List.map_nil, s.env.eval hx, s.env.eval hy, hrun]
  rw [h6, Oper.upon_value]
  exact hK (A', c') _ _ (put_size _ _ _) (St.put ⟨s.env, hHp, h2, hsep, hlow⟩ hn)
/-- A cell of a row of one's own. -/
theorem own_cell {w : World} {base e size k c : Nat} {A : Option Addr} {xs : List Value} (h : w.ownsRow base e size (.slice A k c) k xs) {j : Nat} {v : Value} (hj : xs[j]? = some v) : ∃ g, A = some ⟨g, 0, none⟩ ∧ w.cell? ⟨g, j, none⟩ = some v := by
  have hl := (List.getElem?_eq_some_iff.1 hj).1
  rcases h.2 with ⟨hv, hk⟩ | ⟨g, cap, cur, hv, _⟩
  · rw [h.1, hk] at hl; omega
  · have hA : A = some ⟨g, 0, none⟩ ∧ c = cap := by injection hv with h1 _ h2; exact ⟨h1, h2⟩
    obtain ⟨rfl, rfl⟩ := hA
    refine ⟨g, rfl, ?_⟩
    rw [h.cellAt j (by rw [← h.1]; exact hl), hj]
theorem own_le {w : World} {base e size k c : Nat} {A : Option Addr} {xs : List Value} (h : w.ownsRow base e size (.slice A k c) k xs) : k ≤ c := by
  rcases h.2 with ⟨hv, hk⟩ | ⟨g, cap, cur, hv, h1, h2, h3, h4, h5, h6⟩
  · omega
  · injection hv with e1 e2 e3; omega
/-- Fewer of them. -/
theorem own_cut {w : World} {base e size k c : Nat} {A : Option Addr} {xs : List Value} (h : w.ownsRow base e size (.slice A k c) k xs) {j : Nat} (hj : j ≤ k) : w.ownsRow base e size (.slice A j c) j (xs.take (j * size)) := by
  have hle : j * size ≤ k * size := Nat.mul_le_mul_right _ hj
  refine ⟨by rw [List.length_take, h.1]; omega, ?_⟩
  rcases h.2 with ⟨hv, hk⟩ | ⟨g, cap, cur, hv, h1, h2, h3, h4, h5, h6⟩
  · have : j = 0 := by omega
    subst this
    injection hv with e1 e2 e3
    subst e1
    subst e3
    exact .inl ⟨rfl, rfl⟩
  · injection hv with e1 e2 e3
    subst e1
    subst e3
    refine .inr ⟨g, c, cur, rfl, h1, h2, by omega, h4, h5, ?_⟩
    rw [← h6, List.take_take]
    congr 1
    omega
end
theorem ix_pages0 (p : P3) (w : World) : (Instr.index 25 p.val (.int .i64 0)).run Try.prog w = .ok (p.get 0).val w := by kernel_rfl
theorem ix_pages1 (p : P3) (w : World) : (Instr.index 25 p.val (.int .i64 1)).run Try.prog w = .ok (p.get 1).val w := by kernel_rfl
theorem ix_pages2 (p : P3) (w : World) : (Instr.index 25 p.val (.int .i64 2)).run Try.prog w = .ok (p.get 2).val w := by kernel_rfl
theorem ix_pages (p : P3) (i : Int) (hi : 0 ≤ i ∧ i ≤ 2) (w : World) : (Instr.index 25 p.val (.int .i64 i)).run Try.prog w = .ok (p.get i).val w := by
  have h1 : i = 0 ∨ i = 1 ∨ i = 2 := by omega
  rcases h1 with rfl | rfl | rfl
  · exact ix_pages0 p w
  · exact ix_pages1 p w
  · exact ix_pages2 p w
theorem fd_cells (q : Pg) (w : World) : (Instr.field 24 q.val 0).run Try.prog w = .ok (.agg #[.int .i64 q.c0, .int .i64 q.c1, .int .i64 q.c2]) w := by kernel_rfl
theorem ix_cells0 (q : Pg) (w : World) : (Instr.index 22 (.agg #[.int .i64 q.c0, .int .i64 q.c1, .int .i64 q.c2]) (.int .i64 0)).run Try.prog w = .ok (.int .i64 (q.cellAt 0)) w := by kernel_rfl
theorem ix_cells1 (q : Pg) (w : World) : (Instr.index 22 (.agg #[.int .i64 q.c0, .int .i64 q.c1, .int .i64 q.c2]) (.int .i64 1)).run Try.prog w = .ok (.int .i64 (q.cellAt 1)) w := by kernel_rfl
theorem ix_cells2 (q : Pg) (w : World) : (Instr.index 22 (.agg #[.int .i64 q.c0, .int .i64 q.c1, .int .i64 q.c2]) (.int .i64 2)).run Try.prog w = .ok (.int .i64 (q.cellAt 2)) w := by kernel_rfl
theorem ix_cells (q : Pg) (i : Int) (hi : 0 ≤ i ∧ i ≤ 2) (w : World) : (Instr.index 22 (.agg #[.int .i64 q.c0, .int .i64 q.c1, .int .i64 q.c2]) (.int .i64 i)).run Try.prog w = .ok (.int .i64 (q.cellAt i)) w := by
  have h1 : i = 0 ∨ i = 1 ∨ i = 2 := by omega
  rcases h1 with rfl | rfl | rfl
  · exact ix_cells0 q w
  · exact ix_cells1 q w
  · exact ix_cells2 q w
theorem int_info : (Try.prog.info? 3).map (fun i => (i.zero, i.size, i.bytes)) = some (some (.int .i64 0), 1, 8) := by kernel_rfl
end Go.Proofs.Ytmfjhacgpopijaa
end
section
set_option maxRecDepth 100000
set_option linter.unusedVariables false
set_option linter.unusedSimpArgs false
set_option linter.unusedSectionVars false
set_option maxHeartbeats 4000000
namespace Go.Proofs.Ytmfjhacgpopijaa
open Go.RowKit
def P3.cl (p : P3) : List Value := [.int .i64 p.p0.c0, .int .i64 p.p0.c1, .int .i64 p.p0.c2, .int .i64 p.p0.last, .int .i64 p.p1.c0, .int .i64 p.p1.c1, .int .i64 p.p1.c2, .int .i64 p.p1.last, .int .i64 p.p2.c0, .int .i64 p.p2.c1, .int .i64 p.p2.c2, .int .i64 p.p2.last]
theorem put_cell (p : P3) (i c v : Int) (hi : 0 ≤ i ∧ i ≤ 2) (hc : 0 ≤ c ∧ c ≤ 2) : put p.cl (0 + i.toNat * 4 + 0 + c.toNat * 1) [.int .i64 v] = (p.set i ((p.get i).put c v (p.get i).last)).cl := by
  have h1 : i = 0 ∨ i = 1 ∨ i = 2 := by omega
  have h2 : c = 0 ∨ c = 1 ∨ c = 2 := by omega
  rcases h1 with rfl | rfl | rfl <;> rcases h2 with rfl | rfl | rfl <;> rfl
theorem put_last (p : P3) (i v : Int) (hi : 0 ≤ i ∧ i ≤ 2) : put p.cl (0 + i.toNat * 4 + 3) [.int .i64 v] = (p.set i { p.get i with last := v }).cl := by
  have h1 : i = 0 ∨ i = 1 ∨ i = 2 := by omega
  rcases h1 with rfl | rfl | rfl <;> rfl
theorem set_set (p : P3) (i c v n : Int) : (p.set i ((p.get i).put c v (p.get i).last)).set i { (p.set i ((p.get i).put c v (p.get i).last)).get i with last := n } = p.set i ((p.get i).put c v n) := by
  by_cases h0 : i = 0 <;> by_cases h1 : i = 1 <;> by_cases h2 : c = 0 <;> by_cases h3 : c = 1 <;> simp_all [P3.set, P3.get, Pg.put]
theorem cl_len (p : P3) : p.cl.length = 12 := rfl

theorem w_pages (l : List R) (A : Option Addr) (b o c : Nat) (w : World) (hl : l.length ≤ 60) (hr : RL w A b o l) (hin : InR l) : Ret Try.prog 17 [.slice A l.length c] w (pagesOf l.reverse).val := by
 refine enter Try.func17 rfl Try.ntmps17 rfl SF.top trivial ?_
 refine sR ?_
 refine WL.eff (E.alloc Try.zeroValue25 rfl rfl) rfl (fun b1 => ?_)
 refine nN ?_
 refine sR ?_
 refine WL.eff (E.alloc Try.zeroValue25 rfl rfl) rfl (fun b2 => ?_)
 refine nN ?_
 refine WC.seq ?_
 refine sR ?_
 refine pA rfl rfl ?_
 refine nN ?_
 refine WC.block ?_
 refine WC.loop (ι := Nat) (fun k => [(0, .slice A l.length c), (2, .pointer (some ⟨b1, 0, none⟩)), (3, .pointer (some ⟨b2, 0, none⟩)), (4, .int .i64 k)]) (fun k => [(b2, (pagesOf (l.take k).reverse).cl, 25), (b1, P3.zero.cl, 25)]) (fun _ => SF.top) (fun k => k ≤ l.length) (fun k => l.length - k) 0 (Nat.zero_le _) (fun a w s => s.weak (by repeat (first | exact sub_nil _ | refine sub_cons rfl ?_))) (fun k hk => ?_)
 refine WC.seq ?_
 refine sR ?_
 refine pM rfl rfl ?_
 refine pM rfl rfl ?_
 refine pP (Y.len Try.underlying26 rfl) rfl ?_
 refine pP (Y.lss rfl rfl) rfl ?_
 refine nN ?_
 refine WC.cond rfl (fun h8 => ?_) (fun h8 => ?_)
 refine WC.skip' ?_
 refine WQ.next ?_
 refine WC.seq ?_
 refine WC.block ?_
 refine sR ?_
 have h8 := dec_lt h8
 simp only [if_true] at h8
 obtain ⟨r, hk'⟩ : ∃ r, l[k]? = some r := ⟨_, List.getElem?_eq_getElem h8⟩
 refine pM rfl rfl ?_
 refine pM rfl rfl ?_
 refine pP (Y.ixSlA Try.underlying26 Try.sizeOf48 rfl rfl (hr.addr hk') (nat0 _) (get_ltI hk')) rfl ?_
 refine pV (Y.loadAc wd_48 rfl (r := r.cl) rfl (fun a w s j hj => (hr.below s.low).full hk' j hj)) rfl ?_
 refine WL.eff (E.call Try.call18 rfl (fun _ w s => w_rturns r w) rfl) rfl (fun _ => ?_)
 refine nN ?_
 refine WC.cond rfl (fun h15 => ?_) (fun h15 => ?_)
 refine WC.seq ?_
 refine WC.draw [(0, .q false), (1, .q false), (2, .q false), (3, .q false), (4, .q true), (5, .q false), (6, .q false), (7, .q false), (8, .q false), (9, .q true), (10, .q false), (11, .q false), (12, .q false), (13, .q false), (14, .q true), (15, .q false), (16, .q false), (17, .q false), (18, .s true)] mixed (by kernel_rfl) ?_
 obtain ⟨hp, hc⟩ := hin r (List.mem_of_getElem? hk') h15
 refine dP (Y.move rfl) rfl rfl ?_
 refine dP (Y.move rfl) rfl rfl ?_
 refine dP (Y.ixSlA Try.underlying26 Try.sizeOf48 rfl rfl (hr.addr hk') (nat0 _) (get_ltI hk')) rfl rfl ?_
 refine dP (Y.fieldAddr fa_48_3 rfl) rfl rfl ?_
 refine dV (Y.loadc fl_3 rfl (fun a w s => (hr.below s.low).cell _ _ hk' 3 _ rfl)) rfl rfl ?_
 refine dP (Y.move rfl) rfl rfl ?_
 refine dP (Y.move rfl) rfl rfl ?_
 refine dP (Y.ixSlA Try.underlying26 Try.sizeOf48 rfl rfl (hr.addr hk') (nat0 _) (get_ltI hk')) rfl rfl ?_
 refine dP (Y.fieldAddr fa_48_4 rfl) rfl rfl ?_
 refine dV (Y.loadc fl_3 rfl (fun a w s => (hr.below s.low).cell _ _ hk' 4 _ rfl)) rfl rfl ?_
 refine dP (Y.move rfl) rfl rfl ?_
 refine dP (Y.move rfl) rfl rfl ?_
 refine dP (Y.ixSlA Try.underlying26 Try.sizeOf48 rfl rfl (hr.addr hk') (nat0 _) (get_ltI hk')) rfl rfl ?_
 refine dP (Y.fieldAddr fa_48_6 rfl) rfl rfl ?_
 refine dV (Y.loadc fl_3 rfl (fun a w s => (hr.below s.low).cell _ _ hk' 6 _ rfl)) rfl rfl ?_
 refine dP (Y.ixArr Try.underlying25 Try.sizeOf24 rfl rfl hp.1 (by omega)) rfl rfl ?_
 refine dP (Y.fieldAddr fa_24_0 rfl) rfl rfl ?_
 refine dP (Y.ixArr Try.underlying22 Try.sizeOf3 rfl rfl hc.1 (by omega)) rfl rfl ?_
 refine WDm.spec (WS.free rfl (E.storeP Try.sizeOf3 rfl rfl rfl rfl rfl (by repeat (first | exact Upd.here | apply Upd.there)) (by rw [cl_len]; omega) (put_cell _ _ _ _ hp hc))) (fun _ => sub_refl _) (fun _ => ?_)
 refine WDm.nil (WQ.and ?_)
 refine WQ.next ?_
 refine WC.region ?_
 refine pM rfl rfl ?_
 refine pM rfl rfl ?_
 refine pP (Y.ixSlA Try.underlying26 Try.sizeOf48 rfl rfl (hr.addr hk') (nat0 _) (get_ltI hk')) rfl ?_
 refine pP (Y.fieldAddr fa_48_3 rfl) rfl ?_
 refine pV (Y.loadc fl_3 rfl (fun a w s => (hr.below s.low).cell _ _ hk' 3 _ rfl)) rfl ?_
 refine pM rfl rfl ?_
 refine pP (Y.add rfl rfl (i64_in (by omega) (by omega))) rfl ?_
 refine pP (Y.ixArr Try.underlying25 Try.sizeOf24 rfl rfl hp.1 (by omega)) rfl ?_
 refine pP (Y.fieldAddr fa_24_1 rfl) rfl ?_
 refine WL.eff (E.storeP Try.sizeOf3 rfl rfl rfl rfl rfl (by repeat (first | exact Upd.here | apply Upd.there)) (by rw [cl_len]; omega) ((put_last _ _ _ hp).trans (congrArg P3.cl (set_set _ _ _ _ _)))) rfl (fun _ => ?_)
 refine WL.nil ?_
 refine WQ.blockEnd ?_
 refine WQ.next ?_
 refine WC.region ?_
 refine pM rfl rfl ?_
 refine pP (Y.add rfl rfl (i64_in (by omega) (by omega))) rfl ?_
 refine pA rfl rfl ?_
 refine WL.nil ?_
 · have e : (pagesOf (l.take (k + 1)).reverse) = (pagesOf (l.take k).reverse).set r.page (((pagesOf (l.take k).reverse).get r.page).put r.cell r.new (k + 1)) := by
     rw [takeS hk']
     simp [pagesOf, h15, takeL hk']
   refine fun a w s => ⟨k + 1, by omega, by omega, ?_⟩
   try dsimp only
   rw [e]
   exact s.weak (by repeat (first | exact sub_nil _ | refine sub_cons rfl ?_))
 refine WC.skip' ?_
 refine WQ.blockEnd ?_
 refine WQ.next ?_
 refine WC.region ?_
 refine pM rfl rfl ?_
 refine pP (Y.add rfl rfl (i64_in (by omega) (by omega))) rfl ?_
 refine pA rfl rfl ?_
 refine WL.nil ?_
 · have e : (pagesOf (l.take (k + 1)).reverse) = pagesOf (l.take k).reverse := by
     rw [takeS hk']
     simp [pagesOf, h15, takeL hk']
   refine fun a w s => ⟨k + 1, by omega, by omega, ?_⟩
   try dsimp only
   rw [e]
   exact s.weak (by repeat (first | exact sub_nil _ | refine sub_cons rfl ?_))
 refine WC.exit ?_
 refine WQ.thenExit ?_
 refine WQ.thenExit ?_
 refine WQ.blockExit ?_
 refine WQ.next ?_
 refine sR ?_
 refine pV (Y.loadA wd_25 rfl (by repeat (first | exact List.Mem.head _ | apply List.Mem.tail)) rfl) rfl ?_
 refine WL.eff (E.store Try.sizeOf25 rfl rfl rfl rfl rfl (by repeat (first | exact Upd.here | apply Upd.there)) rfl rfl) rfl (fun _ => ?_)
 refine nN ?_
 refine WC.ret ?_
 refine WQ.done Try.results17 (RVs.cons (RV.cell wd_25 rfl (by repeat (first | exact List.Mem.head _ | apply List.Mem.tail)) rfl) RVs.nil) (fun a w s => ?_)
 · refine ⟨?_, s.low⟩
   have h8 := dec_lt h8
   simp only [Bool.false_eq_true, if_false] at h8
   rw [take_len h8]
   rfl

/-- The numbers as a slice has them. -/
def nums (l : List Nat) : List Value := l.map fun (n : Nat) => Value.int .i64 n
theorem wrs_rev {l : List R} {k : Nat} {r : R} (t : Int) (h : l[k]? = some r) : nums (wrs (l.take (k + 1)).reverse t).reverse = nums (wrs (l.take k).reverse t).reverse ++ (if r.txn = t ∧ r.kind = 1 then [.int .i64 ((k + 1 : Nat) : Int)] else []) := by
  rw [takeS h, wrs, takeL h]
  split <;> simp [nums]
theorem wrs_rlen {l : List R} {k : Nat} {r : R} (t : Int) (h : l[k]? = some r) : (wrs (l.take (k + 1)).reverse t).length = (wrs (l.take k).reverse t).length + (if r.txn = t ∧ r.kind = 1 then 1 else 0) := by
  rw [takeS h, wrs]
  split <;> simp
theorem ups_rev (h : List R) (t : Int) (hf : cnt h t 3 ≤ (wrs h t).length) : nums (ups h t).reverse = (nums (wrs h t).reverse).take ((wrs h t).length - cnt h t 3) := by
  unfold ups nums
  rw [← List.map_take]
  congr 1
  rw [List.reverse_drop]
theorem ups_len (h : List R) (t : Int) : (ups h t).length = (wrs h t).length - cnt h t 3 := by simp [ups]

theorem w_stands (l : List R) (A : Option Addr) (b o c : Nat) (t : Int) (w : World) (hl : l.length ≤ 60) (hr : RL w A b o l) (hf : cnt l.reverse t 3 ≤ (wrs l.reverse t).length) : Calls Try.prog 31 [.slice A l.length c, .int .i64 t].toArray w fun e w' => ∃ i : Option Addr × Nat, e = .returned (.slice i.1 (ups l.reverse t).length i.2) ∧ Below w.heap.size w w' ∧ w'.ownsRow w.heap.size 3 1 (.slice i.1 (ups l.reverse t).length i.2) (ups l.reverse t).length (nums (ups l.reverse t).reverse) := by
 obtain ⟨i0, hi0, hz0, hz1, hz2⟩ := info_parts int_info
 refine enter Try.func31 rfl Try.ntmps31 rfl SF.top trivial ?_
 refine sR ?_
 refine pA rfl rfl ?_
 refine nN ?_
 refine sR ?_
 refine pA rfl rfl ?_
 refine nN ?_
 refine WC.seq ?_
 refine sR ?_
 refine pA rfl rfl ?_
 refine nN ?_
 refine WC.block ?_
 refine WC.fact (SF.own w.heap.size 3 1 (.slice none 0 0) 0 []) (fun a w s => ⟨own_nil _ _ _ _, fun _ _ h => by cases h⟩) ?_
 refine WC.loop (ι := Nat × Option Addr × Nat) (fun k => [(0, .slice A l.length c), (1, .int .i64 t), (5, .slice k.2.1 (wrs (l.take k.1).reverse t).length k.2.2), (6, .int .i64 k.1)]) (fun _ => []) (fun k => SF.own w.heap.size 3 1 (.slice k.2.1 (wrs (l.take k.1).reverse t).length k.2.2) (wrs (l.take k.1).reverse t).length (nums (wrs (l.take k.1).reverse t).reverse)) (fun k => k.1 ≤ l.length) (fun k => l.length - k.1) (0, none, 0) (Nat.zero_le _) (fun a w s => s.weak (by repeat (first | exact sub_nil _ | refine sub_cons rfl ?_))) (fun k hk => ?_)
 obtain ⟨k, A5, c5⟩ := k
 dsimp only at hk ⊢
 have hwl := wrs_len (l.take k).reverse t
 simp only [List.length_reverse, List.length_take] at hwl
 refine WC.seq ?_
 refine sR ?_
 refine pM rfl rfl ?_
 refine pM rfl rfl ?_
 refine pP (Y.len Try.underlying26 rfl) rfl ?_
 refine pP (Y.lss rfl rfl) rfl ?_
 refine nN ?_
 refine WC.cond rfl (fun h10 => ?_) (fun h10 => ?_)
 refine WC.skip' ?_
 refine WQ.next ?_
 refine WC.seq ?_
 refine WC.block ?_
 refine sR ?_
 have h10 := dec_lt h10
 simp only [if_true] at h10
 obtain ⟨r, hk'⟩ : ∃ r, l[k]? = some r := ⟨_, List.getElem?_eq_getElem h10⟩
 refine pM rfl rfl ?_
 refine pM rfl rfl ?_
 refine pP (Y.ixSlA Try.underlying26 Try.sizeOf48 rfl rfl (hr.addr hk') (nat0 _) (get_ltI hk')) rfl ?_
 refine pP (Y.fieldAddr fa_48_1 rfl) rfl ?_
 refine pV (Y.loadc fl_3 rfl (fun a w s => (hr.below s.low).cell _ _ hk' 1 _ rfl)) rfl ?_
 refine pM rfl rfl ?_
 refine pP (Y.eql rfl rfl) rfl ?_
 refine pM rfl rfl ?_
 refine WL.split (t := 20) rfl (fun r h20 => ?_)
 cases r
 refine gF rfl ?_
 refine gF rfl ?_
 refine gF rfl ?_
 refine gF rfl ?_
 refine gF rfl ?_
 refine gF rfl ?_
 refine pP (Y.pickF rfl rfl) rfl ?_
 refine nN ?_
 refine WC.condF rfl ?_
 refine WC.skip' ?_
 refine WQ.blockEnd ?_
 refine WQ.next ?_
 refine WC.region ?_
 refine pM rfl rfl ?_
 refine pP (Y.add rfl rfl (i64_in (by omega) (by omega))) rfl ?_
 refine pA rfl rfl ?_
 refine WL.nil ?_
 · have e1 := wrs_rlen t hk'
   have e2 := wrs_rev t hk'
   simp at h20
   rw [if_neg (by intro ⟨x, y⟩; simp_all)] at e1 e2
   refine fun a w s => ⟨(k + 1, A5, c5), by dsimp only; omega, by dsimp only; omega, ?_⟩
   try dsimp only
   rw [e1, e2, Nat.add_zero, List.append_nil]
   exact s.weak (by repeat (first | exact sub_nil _ | refine sub_cons rfl ?_))
 refine gT rfl ?_
 refine pM rfl rfl ?_
 refine gT rfl ?_
 refine pM rfl rfl ?_
 refine gT rfl ?_
 refine pP (Y.ixSlA Try.underlying26 Try.sizeOf48 rfl rfl (hr.addr hk') (nat0 _) (get_ltI hk')) rfl ?_
 refine gT rfl ?_
 refine pP (Y.fieldAddr fa_48_0 rfl) rfl ?_
 refine gT rfl ?_
 refine pV (Y.loadc fl_3 rfl (fun a w s => (hr.below s.low).cell _ _ hk' 0 _ rfl)) rfl ?_
 refine gT rfl ?_
 refine pP (Y.eql rfl rfl) rfl ?_
 refine pP (Y.pickT rfl rfl) rfl ?_
 refine nN ?_
 refine WC.cond rfl (fun h27 => ?_) (fun h27 => ?_)
 refine WC.region ?_
 refine pM rfl rfl ?_
 refine pM rfl rfl ?_
 refine pP (Y.add rfl rfl (i64_in (by omega) (by omega))) rfl ?_
 refine WL.eff (E.buildSlice (bs_46_1 _) rfl rfl) rfl (fun b1 => ?_)
 refine WL.eff (E.append Try.underlying46 hi0 hz0 hz1 hz2 rfl (by decide) rfl rfl rfl (by repeat (first | exact List.Mem.head _ | apply List.Mem.tail)) rfl rfl (by unfold maxLen; omega) (by omega) rfl) rfl (fun i => ?_)
 refine pA rfl rfl ?_
 refine WL.nil ?_
 refine WQ.blockEnd ?_
 refine WQ.next ?_
 refine WC.region ?_
 refine pM rfl rfl ?_
 refine pP (Y.add rfl rfl (i64_in (by omega) (by omega))) rfl ?_
 refine pA rfl rfl ?_
 refine WL.nil ?_
 · have e1 := wrs_rlen t hk'
   have e2 := wrs_rev t hk'
   simp at h20
   simp at h27
   rw [if_pos ⟨h20, h27⟩] at e1 e2
   refine fun a w s => ⟨(k + 1, i.1, i.2), by dsimp only; omega, by dsimp only; omega, ?_⟩
   try dsimp only
   rw [e1, e2]
   exact s.noH.weak (by repeat (first | exact sub_nil _ | refine sub_cons rfl ?_))
 refine WC.skip' ?_
 refine WQ.blockEnd ?_
 refine WQ.next ?_
 refine WC.region ?_
 refine pM rfl rfl ?_
 refine pP (Y.add rfl rfl (i64_in (by omega) (by omega))) rfl ?_
 refine pA rfl rfl ?_
 refine WL.nil ?_
 · have e1 := wrs_rlen t hk'
   have e2 := wrs_rev t hk'
   simp at h20
   rw [if_neg (by intro ⟨x, y⟩; simp_all)] at e1 e2
   refine fun a w s => ⟨(k + 1, A5, c5), by dsimp only; omega, by dsimp only; omega, ?_⟩
   try dsimp only
   rw [e1, e2, Nat.add_zero, List.append_nil]
   exact s.weak (by repeat (first | exact sub_nil _ | refine sub_cons rfl ?_))
 refine WC.exit ?_
 refine WQ.thenExit ?_
 refine WQ.thenExit ?_
 refine WQ.blockExit ?_
 refine WQ.next ?_
 refine sR ?_
 have h10 := dec_lt h10
 simp only [Bool.false_eq_true, if_false] at h10
 have e0 : l.take k = l := take_len h10
 rw [e0] at hwl ⊢
 refine WL.know (fun a w s => own_le s.fact) (fun hcap => ?_)
 refine pM rfl rfl ?_
 refine pM rfl rfl ?_
 refine pP (Y.len Try.underlying46 rfl) rfl ?_
 refine pM rfl rfl ?_
 refine pM rfl rfl ?_
 refine WL.eff (E.call Try.call40 rfl (fun _ w s => w_count l A b o c t 3 w hl (hr.below s.low)) rfl) rfl (fun _ => ?_)
 refine pP (Y.sub rfl rfl (i64_in (by omega) (by omega))) rfl ?_
 refine pP (Y.slTo Try.underlying46 Try.sizeOf3 rfl rfl (by omega) (by omega)) rfl ?_
 refine pA rfl rfl ?_
 refine nN ?_
 refine WC.ret ?_
 refine dn1 Try.results31 rfl (fun a w s => ?_)
 · refine ⟨(A5, c5), ?_, s.low, ?_⟩
   · simp only [packed, ups_len]
     congr 2
     omega
   · dsimp only
     rw [ups_rev _ _ hf, ups_len]
     have := own_cut s.fact (j := (wrs l.reverse t).length - cnt l.reverse t 3) (by omega)
     rwa [Nat.mul_one] at this
end Go.Proofs.Ytmfjhacgpopijaa
end
section
set_option maxRecDepth 100000
set_option linter.unusedVariables false
set_option linter.unusedSimpArgs false
set_option linter.unusedSectionVars false
set_option maxHeartbeats 4000000
namespace Go.Proofs.Ytmfjhacgpopijaa
open Go.RowKit Go.Joins
theorem taken_true {h : List R} {t p q : Int} {u : Nat} (hu : u < 9) (hh : ((u : Int) + 1 != t && holdsCell h p q ((u : Int) + 1)) = true) : taken h t p q = true := by
  unfold taken
  rw [List.any_eq_true]
  refine ⟨(u : Int) + 1, ?_, hh⟩
  have : u = 0 ∨ u = 1 ∨ u = 2 ∨ u = 3 ∨ u = 4 ∨ u = 5 ∨ u = 6 ∨ u = 7 ∨ u = 8 := by omega
  rcases this with rfl | rfl | rfl | rfl | rfl | rfl | rfl | rfl | rfl <;> simp
theorem taken_false {h : List R} {t p q : Int} (hh : ∀ u : Nat, u < 9 → ((u : Int) + 1 != t && holdsCell h p q ((u : Int) + 1)) = false) : taken h t p q = false := by
  have e : ∀ x ∈ [(1 : Int), 2, 3, 4, 5, 6, 7, 8, 9], (x != t && holdsCell h p q x) = false := by
    intro x hx
    have h2 := hh (x - 1).toNat (by simp at hx; omega)
    have h3 : (((x - 1).toNat : Nat) : Int) + 1 = x := by simp at hx; omega
    rw [h3] at h2
    exact h2
  unfold taken
  cases hc : [(1 : Int), 2, 3, 4, 5, 6, 7, 8, 9].any fun u => u != t && holdsCell h p q u
  · rfl
  · obtain ⟨x, hx, h1⟩ := List.any_eq_true.1 hc
    rw [e x hx] at h1
    cases h1
theorem i64_sub1 {m : Nat} (h1 : 1 ≤ m) (h2 : m ≤ 9000) : IntKind.i64.wrap ((m : Int) - 1) = ((m - 1 : Nat) : Int) := by
  rw [i64_in (by omega) (by omega)]; omega
theorem nums_get {l : List Nat} {j m : Nat} (h : l[j]? = some m) : (nums l)[j]? = some (.int .i64 (m : Int)) := by simp [nums, h]
theorem recAt_rev {l : List R} {m : Nat} {r : R} (h : l[m - 1]? = some r) : recAt l.reverse m = r := by simp [recAt, h]
theorem any_take {l : List Nat} {f : Nat → Bool} {j m : Nat} (h : ∀ x ∈ l.take j, f x = false) (hm : l[j]? = some m) (hf : f m = false) : ∀ x ∈ l.take (j + 1), f x = false := by
  obtain ⟨hl, he⟩ := List.getElem?_eq_some_iff.1 hm
  rw [List.take_succ_eq_append_getElem hl]
  intro x hx
  rcases List.mem_append.1 hx with hx | hx
  · exact h x hx
  · simp at hx; subst hx; rw [he]; exact hf
theorem holds_no {h : List R} {p q u : Int} (hh : ∀ x ∈ (ups h u).reverse.take (ups h u).length, hasCell h p q x = false) : holdsCell h p q u = false := by
  unfold holdsCell
  rw [Bool.and_eq_false_iff]
  right
  rw [List.take_of_length_le (by simp)] at hh
  cases hc : (ups h u).any (hasCell h p q)
  · rfl
  · obtain ⟨x, hx, h1⟩ := List.any_eq_true.1 hc
    rw [hh x (List.mem_reverse.2 hx)] at h1
    cases h1
theorem get_of_lt {α : Type} {l : List α} {k : Nat} (h : k < l.length) : ∃ r, l[k]? = some r := ⟨_, List.getElem?_eq_getElem h⟩
theorem step_or {u : Nat} {f : Nat → Bool} (h : ∀ v, v < u → f v = false) (h2 : f u = false) : ∀ v, v < u + 1 → f v = false := by
  intro v hv
  rcases Nat.lt_or_ge v u with h3 | h3
  · exact h v h3
  · have : v = u := by omega
    subst this; exact h2

theorem w_taken (l : List R) (A : Option Addr) (b o c : Nat) (t p q : Int) (w : World) (hl : l.length ≤ 60) (hr : RL w A b o l) (hf : Fit l.reverse) : Ret Try.prog 32 [.slice A l.length c, .int .i64 t, .int .i64 p, .int .i64 q] w (.bool (taken l.reverse t p q)) := by
 refine enter Try.func32 rfl Try.ntmps32 rfl SF.top trivial ?_
 refine sR ?_
 refine pA rfl rfl ?_
 refine nN ?_
 refine WC.seq ?_
 refine sR ?_
 refine pA rfl rfl ?_
 refine nN ?_
 refine WC.block ?_
 refine WC.loop (ι := Nat) (fun u => [(0, .slice A l.length c), (1, .int .i64 t), (2, .int .i64 p), (3, .int .i64 q), (9, .int .i64 ((u : Int) + 1))]) (fun _ => []) (fun _ => SF.top) (fun u => u ≤ 9 ∧ ∀ v : Nat, v < u → ((v : Int) + 1 != t && holdsCell l.reverse p q ((v : Int) + 1)) = false) (fun u => 9 - u) 0 ⟨by omega, fun v hv => by omega⟩ (fun a w s => s.weak (by repeat (first | exact sub_nil _ | refine sub_cons rfl ?_))) (fun u hu => ?_)
 obtain ⟨hu, hI⟩ := hu
 refine WC.seq ?_
 refine sR ?_
 refine pM rfl rfl ?_
 refine pP (Y.leq rfl rfl) rfl ?_
 refine nN ?_
 refine WC.cond rfl (fun h13 => ?_) (fun h13 => ?_)
 refine WC.skip' ?_
 refine WQ.next ?_
 refine WC.seq ?_
 refine WC.block ?_
 refine WC.seq ?_
 refine sR ?_
 have hu9 : u < 9 := by simp at h13; omega
 refine pM rfl rfl ?_
 refine pM rfl rfl ?_
 refine pP (Y.eql rfl rfl) rfl ?_
 refine pM rfl rfl ?_
 refine WL.split (t := 19) rfl (fun r h19 => ?_)
 cases r
 refine gT rfl ?_
 refine pM rfl rfl ?_
 refine gT rfl ?_
 refine pM rfl rfl ?_
 refine gT rfl ?_
 refine WL.eff (E.call Try.call29 rfl (fun _ w s => w_state l A b o c _ w hl (hr.below s.low)) rfl) rfl (fun _ => ?_)
 refine gT rfl ?_
 refine pP (Y.eql rfl rfl) rfl ?_
 refine pP (Y.pickF rfl rfl) rfl ?_
 refine nN ?_
 refine WC.cond rfl (fun h24 => ?_) (fun h24 => ?_)
 refine WC.exit ?_
 refine WQ.thenExit ?_
 refine WQ.blockExit ?_
 refine WQ.next ?_
 refine WC.region ?_
 refine pM rfl rfl ?_
 refine pP (Y.add rfl rfl (i64_in (by omega) (by omega))) rfl ?_
 refine pA rfl rfl ?_
 refine WL.nil ?_
 · refine fun a w s => ⟨u + 1, ⟨by omega, step_or hI ?_⟩, by omega, ?_⟩
   · have e24 : stt l.reverse ((u : Int) + 1) = 4 := by (simp at h24; omega)
     simp only [holdsCell, e24]; simp
   · exact St.weak s (by repeat (first | exact sub_nil _ | refine sub_cons rfl ?_))
 refine WC.skip' ?_
 refine WQ.next ?_
 refine sR ?_
 refine pM rfl rfl ?_
 refine pM rfl rfl ?_
 refine WL.eff (E.callF (fun i : Option Addr × Nat => .slice i.1 (ups l.reverse ((u : Int) + 1)).length i.2) (fun i => SF.own w.heap.size 3 1 (.slice i.1 (ups l.reverse ((u : Int) + 1)).length i.2) (ups l.reverse ((u : Int) + 1)).length (nums (ups l.reverse ((u : Int) + 1)).reverse)) Try.call31 rfl (fun _ w s => (w_stands l A b o c ((u : Int) + 1) w hl (hr.below s.low) (hf _)).mono fun e w' ⟨i, he, hb, ho⟩ => ⟨i, he, hb, ownsRow_le ho s.low.size, fun g hg => .inl (ho.lt g hg).1⟩) rfl) rfl (fun i => ?_)
 refine pP (Y.len Try.underlying46 rfl) rfl ?_
 refine pM rfl rfl ?_
 refine nN ?_
 refine WC.block ?_
 have hule := wrs_len l.reverse ((u : Int) + 1)
 have hul : (ups l.reverse ((u : Int) + 1)).length ≤ l.length := by rw [ups_len]; simp at hule; omega
 refine WC.loop (ι := Nat) (fun j => [(0, .slice A l.length c), (1, .int .i64 t), (2, .int .i64 p), (3, .int .i64 q), (9, .int .i64 ((u : Int) + 1)), (27, .slice i.1 (ups l.reverse ((u : Int) + 1)).length i.2), (28, .int .i64 (ups l.reverse ((u : Int) + 1)).length), (29, .int .i64 j)]) (fun _ => []) (fun _ => SF.top.and (SF.own w.heap.size 3 1 (.slice i.1 (ups l.reverse ((u : Int) + 1)).length i.2) (ups l.reverse ((u : Int) + 1)).length (nums (ups l.reverse ((u : Int) + 1)).reverse))) (fun j => j ≤ (ups l.reverse ((u : Int) + 1)).length ∧ ∀ x ∈ (ups l.reverse ((u : Int) + 1)).reverse.take j, hasCell l.reverse p q x = false) (fun j => (ups l.reverse ((u : Int) + 1)).length - j) 0 ⟨Nat.zero_le _, fun x hx => by simp at hx⟩ (fun a w s => s.weak (by repeat (first | exact sub_nil _ | refine sub_cons rfl ?_))) (fun j hj => ?_)
 obtain ⟨hj, hJ⟩ := hj
 refine sR ?_
 refine pP (Y.lss rfl rfl) rfl ?_
 refine nN ?_
 refine WC.seq ?_
 refine WC.cond rfl (fun h30 => ?_) (fun h30 => ?_)
 refine WC.skip' ?_
 refine WQ.next ?_
 refine WC.seq ?_
 refine WC.block ?_
 refine sR ?_
 have h30 := dec_lt h30
 simp only [if_true] at h30
 obtain ⟨m, hm⟩ := get_of_lt (l := (ups l.reverse ((u : Int) + 1)).reverse) (k := j) (by simpa using h30)
 obtain ⟨hm1, hm2⟩ := ups_le (List.mem_reverse.1 (List.mem_of_getElem? hm))
 rw [List.length_reverse] at hm2
 obtain ⟨r, hk2⟩ := get_of_lt (l := l) (k := m - 1) (by omega)
 refine WL.know (p := ∃ g, i.1 = some ⟨g, 0, none⟩) (fun a w s => by obtain ⟨g, hA, _⟩ := own_cell s.fact.2 (nums_get hm); exact ⟨g, hA⟩) (fun ⟨g, hA⟩ => ?_)
 refine pP (Y.ixSlA Try.underlying46 Try.sizeOf3 rfl rfl hA (nat0 _) (by omega)) rfl ?_
 refine pV (Y.loadc fl_3 rfl (v := .int .i64 (m : Int)) (fun a w s => by obtain ⟨g2, hA2, hc⟩ := own_cell s.fact.2 (nums_get hm); cases hA.symm.trans hA2; simpa using hc)) rfl ?_
 refine pA rfl rfl ?_
 refine nN ?_
 refine sR ?_
 refine pM rfl rfl ?_
 refine pM rfl rfl ?_
 refine pP (Y.sub rfl rfl (i64_sub1 hm1 (by omega))) rfl ?_
 refine pP (Y.ixSlA Try.underlying26 Try.sizeOf48 rfl rfl (hr.addr hk2) (nat0 _) (get_ltI hk2)) rfl ?_
 refine pP (Y.fieldAddr fa_48_3 rfl) rfl ?_
 refine pV (Y.loadc fl_3 rfl (fun a w s => (hr.below s.low).cell _ _ hk2 3 _ rfl)) rfl ?_
 refine pM rfl rfl ?_
 refine pP (Y.eql rfl rfl) rfl ?_
 refine pM rfl rfl ?_
 refine WL.split (t := 41) rfl (fun r h41 => ?_)
 cases r
 refine gF rfl ?_
 refine gF rfl ?_
 refine gF rfl ?_
 refine gF rfl ?_
 refine gF rfl ?_
 refine gF rfl ?_
 refine gF rfl ?_
 refine gF rfl ?_
 refine pP (Y.pickF rfl rfl) rfl ?_
 refine nN ?_
 refine WC.condF rfl ?_
 refine WC.skip' ?_
 refine WQ.blockEnd ?_
 refine WQ.next ?_
 refine WC.region ?_
 refine pP (Y.add rfl rfl (i64_in (by omega) (by omega))) rfl ?_
 refine pM rfl rfl ?_
 refine WL.nil ?_
 · refine fun a w s => ⟨j + 1, ⟨by omega, any_take hJ hm ?_⟩, by omega, s.weak (by repeat (first | exact sub_nil _ | refine sub_cons rfl ?_))⟩
   unfold hasCell
   rw [recAt_rev hk2]
   simp at h41
   first
     | (simp [h41]; done)
     | (simp at h50; simp [h41, h50]; done)
 refine gT rfl ?_
 refine pM rfl rfl ?_
 refine gT rfl ?_
 refine pM rfl rfl ?_
 refine gT rfl ?_
 refine pP (Y.sub rfl rfl (i64_sub1 hm1 (by omega))) rfl ?_
 refine gT rfl ?_
 refine pP (Y.ixSlA Try.underlying26 Try.sizeOf48 rfl rfl (hr.addr hk2) (nat0 _) (get_ltI hk2)) rfl ?_
 refine gT rfl ?_
 refine pP (Y.fieldAddr fa_48_4 rfl) rfl ?_
 refine gT rfl ?_
 refine pV (Y.loadc fl_3 rfl (fun a w s => (hr.below s.low).cell _ _ hk2 4 _ rfl)) rfl ?_
 refine gT rfl ?_
 refine pM rfl rfl ?_
 refine gT rfl ?_
 refine pP (Y.eql rfl rfl) rfl ?_
 refine pP (Y.pickT rfl rfl) rfl ?_
 refine nN ?_
 refine WC.cond rfl (fun h50 => ?_) (fun h50 => ?_)
 refine sR ?_
 refine pA rfl rfl ?_
 refine nN ?_
 refine WC.ret ?_
 refine WQ.blockRet ?_
 refine WQ.thenRet ?_
 refine WQ.thenRet ?_
 refine WQ.blockRet ?_
 refine WQ.blockRet ?_
 refine WQ.thenRet ?_
 refine WQ.thenRet ?_
 refine WQ.blockRet ?_
 refine WQ.thenRet ?_
 refine dn1 Try.results32 rfl (fun a w s => ?_)
 · refine ⟨?_, s.low⟩
   simp only [packed]
   apply retb
   refine (taken_true hu9 ?_).symm
   have e24 : stt l.reverse ((u : Int) + 1) ≠ 4 := by simp at h24; omega
   have hh : (ups l.reverse ((u : Int) + 1)).any (hasCell l.reverse p q) = true := List.any_eq_true.2 ⟨m, List.mem_reverse.1 (List.mem_of_getElem? hm), by unfold hasCell; rw [recAt_rev hk2]; simp at h41 h50; simp [h41, h50]⟩
   simp at h19
   rw [Bool.and_eq_true]
   refine ⟨by simpa using h19, ?_⟩
   unfold holdsCell
   rw [hh, Bool.and_true]
   simpa using e24
 refine WC.skip' ?_
 refine WQ.blockEnd ?_
 refine WQ.next ?_
 refine WC.region ?_
 refine pP (Y.add rfl rfl (i64_in (by omega) (by omega))) rfl ?_
 refine pM rfl rfl ?_
 refine WL.nil ?_
 · refine fun a w s => ⟨j + 1, ⟨by omega, any_take hJ hm ?_⟩, by omega, s.weak (by repeat (first | exact sub_nil _ | refine sub_cons rfl ?_))⟩
   unfold hasCell
   rw [recAt_rev hk2]
   simp at h41
   first
     | (simp [h41]; done)
     | (simp at h50; simp [h41, h50]; done)
 refine WC.exit ?_
 refine WQ.thenExit ?_
 refine WQ.thenExit ?_
 refine WQ.blockExit ?_
 refine WQ.blockEnd ?_
 refine WQ.next ?_
 refine WC.region ?_
 refine pM rfl rfl ?_
 refine pP (Y.add rfl rfl (i64_in (by omega) (by omega))) rfl ?_
 refine pA rfl rfl ?_
 refine WL.nil ?_
 · refine fun a w s => ⟨u + 1, ⟨by omega, step_or hI ?_⟩, by omega, ?_⟩
   · have h30 := dec_lt h30
     simp only [Bool.false_eq_true, if_false] at h30
     have ej : j = (ups l.reverse ((u : Int) + 1)).length := by omega
     rw [ej] at hJ
     simp only [holds_no hJ, Bool.and_false]
   · exact St.weak s.fst (by repeat (first | exact sub_nil _ | refine sub_cons rfl ?_))
 refine gF rfl ?_
 refine gF rfl ?_
 refine gF rfl ?_
 refine gF rfl ?_
 refine pP (Y.pickT rfl rfl) rfl ?_
 refine nN ?_
 refine WC.condT rfl ?_
 refine WC.exit ?_
 refine WQ.thenExit ?_
 refine WQ.blockExit ?_
 refine WQ.next ?_
 refine WC.region ?_
 refine pM rfl rfl ?_
 refine pP (Y.add rfl rfl (i64_in (by omega) (by omega))) rfl ?_
 refine pA rfl rfl ?_
 refine WL.nil ?_
 · refine fun a w s => ⟨u + 1, ⟨by omega, step_or hI ?_⟩, by omega, ?_⟩
   · simp at h19; simp [h19]
   · exact St.weak s (by repeat (first | exact sub_nil _ | refine sub_cons rfl ?_))
 refine WC.exit ?_
 refine WQ.thenExit ?_
 refine WQ.thenExit ?_
 refine WQ.blockExit ?_
 refine WQ.next ?_
 refine sR ?_
 refine pA rfl rfl ?_
 refine nN ?_
 refine WC.ret ?_
 refine dn1 Try.results32 rfl (fun a w s => ?_)
 · refine ⟨?_, s.low⟩
   simp only [packed]
   apply retb
   refine (taken_false fun v hv => hI v ?_).symm
   simp at h13
   omega
end Go.Proofs.Ytmfjhacgpopijaa
end
section
set_option maxRecDepth 100000
set_option linter.unusedVariables false
set_option linter.unusedSimpArgs false
set_option linter.unusedSectionVars false
set_option maxHeartbeats 4000000
namespace Go.Proofs.Ytmfjhacgpopijaa
open Go.RowKit Go.Joins
theorem InR.rev {l : List R} (h : InR l.reverse) : InR l := fun r hr => h r (List.mem_reverse.2 hr)
theorem up_some {h : List R} {t : Int} (hh : (((ups h t).length : Int) == 0) = false) : ∃ m us, ups h t = m :: us := by
  cases hu : ups h t with
  | nil => rw [hu] at hh; simp at hh
  | cons m us => exact ⟨m, us, rfl⟩
theorem up_top {h : List R} {t : Int} {m : Nat} {us : List Nat} (hu : ups h t = m :: us) : (ups h t).reverse[(ups h t).length - 1]? = some m := by
  rw [hu]; simp
theorem beq_cast (n m : Nat) : (((n : Nat) : Int) == ((m : Nat) : Int)) = (n == m) := by
  rw [Bool.eq_iff_iff]; simp; omega
theorem beq4 (n : Nat) : (((n : Nat) : Int) == 4) = (n == 4) := beq_cast n 4
theorem beq2 (n : Nat) : (((n : Nat) : Int) == 2) = (n == 2) := beq_cast n 2
theorem beq3 (n : Nat) : (((n : Nat) : Int) == 3) = (n == 3) := beq_cast n 3
theorem beq0 (l : List Nat) : (((l.length : Nat) : Int) == 0) = l.isEmpty := by cases l <;> simp; omega

theorem w_follows (l : List R) (A : Option Addr) (b o c : Nat) (r : R) (w : World) (hl : l.length ≤ 60) (hr : RL w A b o l) (hR : Right l.reverse) (hok : recErr ((l.length : Int) + 1) r = 0) : Ret Try.prog 26 [.slice A l.length c, r.val] w (.bool (follows l.reverse r)) := by
 have hbd := rec_bounds hok
 refine enter Try.func26 rfl Try.ntmps26 rfl SF.top trivial ?_
 refine sR ?_
 refine WL.eff (E.box rfl rfl rfl) rfl (fun b1 => ?_)
 refine pA rfl rfl ?_
 refine nN ?_
 refine sR ?_
 refine pM rfl rfl ?_
 refine pP (Y.fieldAddr fa_48_1 rfl) rfl ?_
 refine pV (Y.load fl_3 rfl m0 rfl) rfl ?_
 refine WL.eff (E.call Try.call29 rfl (fun _ w s => w_state l A b o c _ w hl (hr.below s.low)) rfl) rfl (fun _ => ?_)
 refine pA rfl rfl ?_
 refine nN ?_
 refine WC.seq ?_
 refine WC.cut1 [(45, .bool (r.prev != (lastN l.reverse r.txn : Nat) || (stt l.reverse r.txn == 4 || ((stt l.reverse r.txn == 2 && r.kind != 4) || (stt l.reverse r.txn == 3 && (r.kind != 3 && r.kind != 4)))))), (0, .slice A l.length c), (3, .pointer (some ⟨b1, 0, none⟩)), (5, .int .i64 (stt l.reverse r.txn))] [(b1, r.cl, 48)] SF.top ?_ ?_
 refine WC.draw [(0, .q false), (1, .q true), (2, .q false), (3, .q false), (4, .q true), (5, .q true), (6, .q false), (7, .q false), (8, .q false), (9, .q false), (10, .q false), (11, .q false), (12, .q false), (13, .q false), (14, .q false), (15, .q false), (16, .q true), (17, .q false), (18, .q false), (19, .q false), (20, .q false), (21, .q false), (22, .q false), (23, .q false), (24, .q false), (25, .q true), (26, .q false), (27, .q false), (28, .q false), (29, .q false), (30, .q true), (31, .q false), (32, .q false), (33, .q false)] mixed (by kernel_rfl) ?_
 refine dP (Y.fieldAddr fa_48_2 rfl) rfl rfl ?_
 refine dV (Y.load fl_3 rfl m0 rfl) rfl rfl ?_
 refine dP (Y.move rfl) rfl rfl ?_
 refine dP (Y.fieldAddr fa_48_1 rfl) rfl rfl ?_
 refine dV (Y.load fl_3 rfl m0 rfl) rfl rfl ?_
 refine WDm.quiet (QS.call Try.call30 rfl (fun _ w s => w_last l A b o c _ w hl (hr.below s.low))) rfl rfl rfl ?_
 refine dP (Y.neq rfl rfl) rfl rfl ?_
 refine dP (Y.move rfl) rfl rfl ?_
 refine WDm.split (t := 19) rfl (fun r h19 => ?_)
 cases r
 refine dPg rfl (Y.move rfl) rfl rfl rfl ?_
 refine dPg rfl (Y.eql rfl rfl) rfl rfl rfl ?_
 refine dP (Y.pickF rfl rfl) rfl rfl ?_
 refine dP (Y.move rfl) rfl rfl ?_
 refine WDm.split (t := 23) rfl (fun r h23 => ?_)
 cases r
 refine dPg rfl (Y.move rfl) rfl rfl rfl ?_
 refine dPg rfl (Y.eql rfl rfl) rfl rfl rfl ?_
 refine dPg rfl (Y.move rfl) rfl rfl rfl ?_
 refine WDm.split (t := 26) rfl (fun r h26 => ?_)
 cases r
 refine dF rfl rfl ?_
 refine dF rfl rfl ?_
 refine dF rfl rfl ?_
 refine dPg rfl (Y.pickF rfl rfl) rfl rfl rfl ?_
 refine dP (Y.pickF rfl rfl) rfl rfl ?_
 refine dP (Y.move rfl) rfl rfl ?_
 refine dPg rfl (Y.move rfl) rfl rfl rfl ?_
 refine dPg rfl (Y.eql rfl rfl) rfl rfl rfl ?_
 refine dPg rfl (Y.move rfl) rfl rfl rfl ?_
 refine WDm.split (t := 35) rfl (fun r h35 => ?_)
 cases r
 refine dF rfl rfl ?_
 refine dF rfl rfl ?_
 refine dF rfl rfl ?_
 refine dPg rfl (Y.pickF rfl rfl) rfl rfl rfl ?_
 refine dPg rfl (Y.move rfl) rfl rfl rfl ?_
 refine dF rfl rfl ?_
 refine dF rfl rfl ?_
 refine dF rfl rfl ?_
 refine dPg rfl (Y.pickF rfl rfl) rfl rfl rfl ?_
 refine dP (Y.pickF rfl rfl) rfl rfl ?_
 refine WDm.nil (WQ.and ?_)
 · refine fun a w s => ⟨rfl, s.weak (sub_cons (eqb ?_) (by repeat (first | exact sub_nil _ | refine sub_cons rfl ?_)))⟩
   clear s hbd
   try simp only [beq4, beq3, beq2, beq0] at *
   simp_all
 refine dPg rfl (Y.fieldAddr fa_48_0 rfl) rfl rfl rfl ?_
 refine dVg rfl (Y.load fl_3 rfl m0 rfl) rfl rfl rfl ?_
 refine dPg rfl (Y.neq rfl rfl) rfl rfl rfl ?_
 refine dPg rfl (Y.pickT rfl rfl) rfl rfl rfl ?_
 refine dPg rfl (Y.move rfl) rfl rfl rfl ?_
 refine WDm.split (t := 40) rfl (fun r h40 => ?_)
 cases r
 refine dF rfl rfl ?_
 refine dF rfl rfl ?_
 refine dF rfl rfl ?_
 refine dPg rfl (Y.pickF rfl rfl) rfl rfl rfl ?_
 refine dP (Y.pickF rfl rfl) rfl rfl ?_
 refine WDm.nil (WQ.and ?_)
 · refine fun a w s => ⟨rfl, s.weak (sub_cons (eqb ?_) (by repeat (first | exact sub_nil _ | refine sub_cons rfl ?_)))⟩
   clear s hbd
   try simp only [beq4, beq3, beq2, beq0] at *
   simp_all
 refine dPg rfl (Y.fieldAddr fa_48_0 rfl) rfl rfl rfl ?_
 refine dVg rfl (Y.load fl_3 rfl m0 rfl) rfl rfl rfl ?_
 refine dPg rfl (Y.neq rfl rfl) rfl rfl rfl ?_
 refine dPg rfl (Y.pickT rfl rfl) rfl rfl rfl ?_
 refine dP (Y.pickF rfl rfl) rfl rfl ?_
 refine WDm.nil (WQ.and ?_)
 · refine fun a w s => ⟨rfl, s.weak (sub_cons (eqb ?_) (by repeat (first | exact sub_nil _ | refine sub_cons rfl ?_)))⟩
   clear s hbd
   try simp only [beq4, beq3, beq2, beq0] at *
   simp_all
 refine dPg rfl (Y.fieldAddr fa_48_0 rfl) rfl rfl rfl ?_
 refine dVg rfl (Y.load fl_3 rfl m0 rfl) rfl rfl rfl ?_
 refine dPg rfl (Y.neq rfl rfl) rfl rfl rfl ?_
 refine dPg rfl (Y.pickT rfl rfl) rfl rfl rfl ?_
 refine dP (Y.pickF rfl rfl) rfl rfl ?_
 refine dP (Y.move rfl) rfl rfl ?_
 refine WDm.split (t := 32) rfl (fun r h32 => ?_)
 cases r
 refine dPg rfl (Y.move rfl) rfl rfl rfl ?_
 refine dPg rfl (Y.eql rfl rfl) rfl rfl rfl ?_
 refine dPg rfl (Y.move rfl) rfl rfl rfl ?_
 refine WDm.split (t := 35) rfl (fun r h35 => ?_)
 cases r
 refine dF rfl rfl ?_
 refine dF rfl rfl ?_
 refine dF rfl rfl ?_
 refine dPg rfl (Y.pickF rfl rfl) rfl rfl rfl ?_
 refine dPg rfl (Y.move rfl) rfl rfl rfl ?_
 refine dF rfl rfl ?_
 refine dF rfl rfl ?_
 refine dF rfl rfl ?_
 refine dPg rfl (Y.pickF rfl rfl) rfl rfl rfl ?_
 refine dP (Y.pickF rfl rfl) rfl rfl ?_
 refine WDm.nil (WQ.and ?_)
 · refine fun a w s => ⟨rfl, s.weak (sub_cons (eqb ?_) (by repeat (first | exact sub_nil _ | refine sub_cons rfl ?_)))⟩
   clear s hbd
   try simp only [beq4, beq3, beq2, beq0] at *
   simp_all
 refine dPg rfl (Y.fieldAddr fa_48_0 rfl) rfl rfl rfl ?_
 refine dVg rfl (Y.load fl_3 rfl m0 rfl) rfl rfl rfl ?_
 refine dPg rfl (Y.neq rfl rfl) rfl rfl rfl ?_
 refine dPg rfl (Y.pickT rfl rfl) rfl rfl rfl ?_
 refine dPg rfl (Y.move rfl) rfl rfl rfl ?_
 refine WDm.split (t := 40) rfl (fun r h40 => ?_)
 cases r
 refine dF rfl rfl ?_
 refine dF rfl rfl ?_
 refine dF rfl rfl ?_
 refine dPg rfl (Y.pickF rfl rfl) rfl rfl rfl ?_
 refine dP (Y.pickF rfl rfl) rfl rfl ?_
 refine WDm.nil (WQ.and ?_)
 · refine fun a w s => ⟨rfl, s.weak (sub_cons (eqb ?_) (by repeat (first | exact sub_nil _ | refine sub_cons rfl ?_)))⟩
   clear s hbd
   try simp only [beq4, beq3, beq2, beq0] at *
   simp_all
 refine dPg rfl (Y.fieldAddr fa_48_0 rfl) rfl rfl rfl ?_
 refine dVg rfl (Y.load fl_3 rfl m0 rfl) rfl rfl rfl ?_
 refine dPg rfl (Y.neq rfl rfl) rfl rfl rfl ?_
 refine dPg rfl (Y.pickT rfl rfl) rfl rfl rfl ?_
 refine dP (Y.pickF rfl rfl) rfl rfl ?_
 refine WDm.nil (WQ.and ?_)
 · refine fun a w s => ⟨rfl, s.weak (sub_cons (eqb ?_) (by repeat (first | exact sub_nil _ | refine sub_cons rfl ?_)))⟩
   clear s hbd
   try simp only [beq4, beq3, beq2, beq0] at *
   simp_all
 refine dF rfl rfl ?_
 refine dF rfl rfl ?_
 refine dF rfl rfl ?_
 refine dF rfl rfl ?_
 refine dF rfl rfl ?_
 refine dF rfl rfl ?_
 refine dF rfl rfl ?_
 refine dF rfl rfl ?_
 refine dF rfl rfl ?_
 refine dF rfl rfl ?_
 refine dF rfl rfl ?_
 refine dF rfl rfl ?_
 refine dP (Y.pickT rfl rfl) rfl rfl ?_
 refine WDm.nil (WQ.and ?_)
 · refine fun a w s => ⟨rfl, s.weak (sub_cons (eqb ?_) (by repeat (first | exact sub_nil _ | refine sub_cons rfl ?_)))⟩
   clear s hbd
   try simp only [beq4, beq3, beq2, beq0] at *
   simp_all
 refine dF rfl rfl ?_
 refine dF rfl rfl ?_
 refine dF rfl rfl ?_
 refine dF rfl rfl ?_
 refine dF rfl rfl ?_
 refine dF rfl rfl ?_
 refine dF rfl rfl ?_
 refine dP (Y.pickT rfl rfl) rfl rfl ?_
 refine dP (Y.move rfl) rfl rfl ?_
 refine dF rfl rfl ?_
 refine dF rfl rfl ?_
 refine dF rfl rfl ?_
 refine dF rfl rfl ?_
 refine dF rfl rfl ?_
 refine dF rfl rfl ?_
 refine dF rfl rfl ?_
 refine dF rfl rfl ?_
 refine dF rfl rfl ?_
 refine dF rfl rfl ?_
 refine dF rfl rfl ?_
 refine dF rfl rfl ?_
 refine dP (Y.pickT rfl rfl) rfl rfl ?_
 refine WDm.nil (WQ.and ?_)
 · refine fun a w s => ⟨rfl, s.weak (sub_cons (eqb ?_) (by repeat (first | exact sub_nil _ | refine sub_cons rfl ?_)))⟩
   clear s hbd
   try simp only [beq4, beq3, beq2, beq0] at *
   simp_all
 refine dF rfl rfl ?_
 refine dF rfl rfl ?_
 refine dP (Y.pickT rfl rfl) rfl rfl ?_
 refine dP (Y.move rfl) rfl rfl ?_
 refine dF rfl rfl ?_
 refine dF rfl rfl ?_
 refine dF rfl rfl ?_
 refine dF rfl rfl ?_
 refine dF rfl rfl ?_
 refine dF rfl rfl ?_
 refine dF rfl rfl ?_
 refine dP (Y.pickT rfl rfl) rfl rfl ?_
 refine dP (Y.move rfl) rfl rfl ?_
 refine dF rfl rfl ?_
 refine dF rfl rfl ?_
 refine dF rfl rfl ?_
 refine dF rfl rfl ?_
 refine dF rfl rfl ?_
 refine dF rfl rfl ?_
 refine dF rfl rfl ?_
 refine dF rfl rfl ?_
 refine dF rfl rfl ?_
 refine dF rfl rfl ?_
 refine dF rfl rfl ?_
 refine dF rfl rfl ?_
 refine dP (Y.pickT rfl rfl) rfl rfl ?_
 refine WDm.nil (WQ.and ?_)
 · refine fun a w s => ⟨rfl, s.weak (sub_cons (eqb ?_) (by repeat (first | exact sub_nil _ | refine sub_cons rfl ?_)))⟩
   clear s hbd
   try simp only [beq4, beq3, beq2, beq0] at *
   simp_all
 refine WC.cond rfl (fun h45 => ?_) (fun h45 => ?_)
 refine sR ?_
 refine pA rfl rfl ?_
 refine nN ?_
 refine WC.ret ?_
 refine WQ.thenRet ?_
 refine dn1 Try.results26 rfl (fun a w s => ?_)
 · refine ⟨?_, s.low⟩
   clear s hbd
   simp only [packed]
   apply retb
   try simp only [beq4, beq3, beq2, beq0] at *
   unfold follows
   simp_all
 refine WC.skip' ?_
 refine WQ.next ?_
 refine sR ?_
 refine pM rfl rfl ?_
 refine pP (Y.fieldAddr fa_48_1 rfl) rfl ?_
 refine pV (Y.load fl_3 rfl m0 rfl) rfl ?_
 refine WL.eff (E.callF (fun i : Option Addr × Nat => .slice i.1 (ups l.reverse r.txn).length i.2) (fun i => SF.own w.heap.size 3 1 (.slice i.1 (ups l.reverse r.txn).length i.2) (ups l.reverse r.txn).length (nums (ups l.reverse r.txn).reverse)) Try.call31 rfl (fun _ w s => (w_stands l A b o c r.txn w hl (hr.below s.low) (hR.fit _)).mono fun e w' ⟨i, he, hb, ho⟩ => ⟨i, he, hb, ownsRow_le ho s.low.size, fun g hg => .inl (ho.lt g hg).1⟩) rfl) rfl (fun i => ?_)
 refine pA rfl rfl ?_
 refine nN ?_
 refine WC.seq ?_
 refine sR ?_
 refine pP (Y.fieldAddr fa_48_0 rfl) rfl ?_
 refine pV (Y.load fl_3 rfl m0 rfl) rfl ?_
 refine nN ?_
 refine WC.block ?_
 refine sR ?_
 refine pP (Y.eql rfl rfl) rfl ?_
 refine pA rfl rfl ?_
 refine nN ?_
 refine WC.cond rfl (fun h52 => ?_) (fun h52 => ?_)
 refine WC.seq ?_
 have hk1 : r.kind = 1 := by simpa using h52
 obtain ⟨hp, hc, _⟩ := hbd.2.2.2.2.2.2.2.2.1 (by simp [R.turns, hk1])
 refine WC.draw [(0, .q false), (1, .q true), (2, .q false), (3, .q true), (4, .q false), (5, .q true), (6, .q false), (7, .q false), (8, .q false), (9, .q true), (10, .q false), (11, .q false), (12, .q false), (13, .q false), (14, .q false), (15, .q true), (16, .q false), (17, .q true), (18, .q false), (19, .q true), (20, .q true), (21, .q false), (22, .q false), (23, .q false)] mixed (by kernel_rfl) ?_
 refine dP (Y.fieldAddr fa_48_5 rfl) rfl rfl ?_
 refine dV (Y.load fl_3 rfl m0 rfl) rfl rfl ?_
 refine dP (Y.move rfl) rfl rfl ?_
 refine WDm.quiet (QS.call Try.call17 rfl (fun _ w s => w_pages l A b o c w hl (hr.below s.low) hR.inR.rev)) rfl rfl rfl ?_
 refine dP (Y.fieldAddr fa_48_3 rfl) rfl rfl ?_
 refine dV (Y.load fl_3 rfl m0 rfl) rfl rfl ?_
 refine dP (Y.indexK rfl rfl (ix_pages _ _ hp)) rfl rfl ?_
 refine dP (Y.fieldK rfl (fd_cells _)) rfl rfl ?_
 refine dP (Y.fieldAddr fa_48_4 rfl) rfl rfl ?_
 refine dV (Y.load fl_3 rfl m0 rfl) rfl rfl ?_
 refine dP (Y.indexK rfl rfl (ix_cells _ _ hc)) rfl rfl ?_
 refine dP (Y.eql rfl rfl) rfl rfl ?_
 refine dP (Y.move rfl) rfl rfl ?_
 refine WDm.split (t := 66) rfl (fun r h66 => ?_)
 cases r
 refine dF rfl rfl ?_
 refine dF rfl rfl ?_
 refine dF rfl rfl ?_
 refine dF rfl rfl ?_
 refine dF rfl rfl ?_
 refine dF rfl rfl ?_
 refine dF rfl rfl ?_
 refine dF rfl rfl ?_
 refine dF rfl rfl ?_
 refine dP (Y.pickF rfl rfl) rfl rfl ?_
 refine dP (Y.assign rfl) rfl rfl ?_
 refine WDm.nil (WQ.and ?_)
 refine WQ.next ?_
 refine WC.ret ?_
 refine WQ.blockRet ?_
 refine WQ.thenRet ?_
 refine dn1 Try.results26 rfl (fun a w s => ?_)
 · refine ⟨?_, s.low⟩
   clear s hbd
   simp only [packed]
   apply retb
   try simp only [beq4, beq3, beq2, beq0] at *
   unfold follows
   simp_all
 refine dPg rfl (Y.move rfl) rfl rfl rfl ?_
 refine dPg rfl (Y.fieldAddr fa_48_1 rfl) rfl rfl rfl ?_
 refine dVg rfl (Y.load fl_3 rfl m0 rfl) rfl rfl rfl ?_
 refine dPg rfl (Y.fieldAddr fa_48_3 rfl) rfl rfl rfl ?_
 refine dVg rfl (Y.load fl_3 rfl m0 rfl) rfl rfl rfl ?_
 refine dPg rfl (Y.fieldAddr fa_48_4 rfl) rfl rfl rfl ?_
 refine dVg rfl (Y.load fl_3 rfl m0 rfl) rfl rfl rfl ?_
 refine WDm.quiet (QS.guardT rfl rfl rfl (QS.call Try.call32 rfl (fun _ w s => w_taken l A b o c _ _ _ w hl (hr.below s.low) hR.fit))) rfl rfl rfl ?_
 refine dPg rfl (Y.not rfl) rfl rfl rfl ?_
 refine dP (Y.pickT rfl rfl) rfl rfl ?_
 refine dP (Y.assign rfl) rfl rfl ?_
 refine WDm.nil (WQ.and ?_)
 refine WQ.next ?_
 refine WC.ret ?_
 refine WQ.blockRet ?_
 refine WQ.thenRet ?_
 refine dn1 Try.results26 rfl (fun a w s => ?_)
 · refine ⟨?_, s.low⟩
   clear s hbd
   simp only [packed]
   apply retb
   try simp only [beq4, beq3, beq2, beq0] at *
   unfold follows
   simp_all
 refine sR ?_
 refine pP (Y.eql rfl rfl) rfl ?_
 refine pA rfl rfl ?_
 refine nN ?_
 refine WC.cond rfl (fun h77 => ?_) (fun h77 => ?_)
 refine sR ?_
 refine pA rfl rfl ?_
 refine nN ?_
 refine WC.ret ?_
 refine WQ.blockRet ?_
 refine WQ.thenRet ?_
 refine dn1 Try.results26 rfl (fun a w s => ?_)
 · refine ⟨?_, s.low⟩
   clear s hbd
   simp only [packed]
   apply retb
   try simp only [beq4, beq3, beq2, beq0] at *
   unfold follows
   simp_all
 refine sR ?_
 refine pP (Y.eql rfl rfl) rfl ?_
 refine pA rfl rfl ?_
 refine nN ?_
 refine WC.cond rfl (fun h79 => ?_) (fun h79 => ?_)
 refine WC.seq ?_
 refine sR ?_
 refine pM rfl rfl ?_
 refine pP (Y.len Try.underlying46 rfl) rfl ?_
 refine pP (Y.eql rfl rfl) rfl ?_
 refine nN ?_
 refine WC.cond rfl (fun h83 => ?_) (fun h83 => ?_)
 refine sR ?_
 refine pA rfl rfl ?_
 refine nN ?_
 refine WC.ret ?_
 refine WQ.thenRet ?_
 refine WQ.blockRet ?_
 refine WQ.thenRet ?_
 refine dn1 Try.results26 rfl (fun a w s => ?_)
 · refine ⟨?_, s.low⟩
   clear s hbd
   simp only [packed]
   apply retb
   try simp only [beq4, beq3, beq2, beq0] at *
   unfold follows
   simp_all
 refine WC.skip' ?_
 refine WQ.next ?_
 refine sR ?_
 obtain ⟨m, us, hu⟩ := up_some h83
 obtain ⟨hm1, hm2⟩ := ups_le (h := l.reverse) (t := r.txn) (n := m) (by rw [hu]; exact List.Mem.head _)
 rw [List.length_reverse] at hm2
 have hlen : 1 ≤ (ups l.reverse r.txn).length := by rw [hu]; simp
 have hule := wrs_len l.reverse r.txn
 have hul : (ups l.reverse r.txn).length ≤ l.length := by rw [ups_len]; simp at hule; omega
 have hm := up_top hu
 obtain ⟨x, hk2⟩ := get_of_lt (l := l) (k := m - 1) (by omega)
 refine WL.know (p := ∃ g, i.1 = some ⟨g, 0, none⟩) (fun a w s => by obtain ⟨g, hA, _⟩ := own_cell s.fact.2 (nums_get hm); exact ⟨g, hA⟩) (fun ⟨g, hA⟩ => ?_)
 refine pM rfl rfl ?_
 refine pM rfl rfl ?_
 refine pM rfl rfl ?_
 refine pP (Y.len Try.underlying46 rfl) rfl ?_
 refine pP (Y.sub rfl rfl (i64_sub1 hlen (by omega))) rfl ?_
 refine pP (Y.ixSlA Try.underlying46 Try.sizeOf3 rfl rfl hA (nat0 _) (by omega)) rfl ?_
 refine pV (Y.loadc fl_3 rfl (v := .int .i64 (m : Int)) (fun a w s => by obtain ⟨g2, hA2, hc⟩ := own_cell s.fact.2 (nums_get hm); cases hA.symm.trans hA2; simpa using hc)) rfl ?_
 refine pP (Y.sub rfl rfl (i64_sub1 hm1 (by omega))) rfl ?_
 refine pP (Y.ixSlA Try.underlying26 Try.sizeOf48 rfl rfl (hr.addr hk2) (nat0 _) (get_ltI hk2)) rfl ?_
 refine pV (Y.loadAc wd_48 rfl (r := x.cl) rfl (fun a w s j hj => (hr.below s.low).full hk2 j hj)) rfl ?_
 refine WL.eff (E.alloc Try.zeroValue48 rfl rfl) rfl (fun b2 => ?_)
 refine WL.eff (E.store Try.sizeOf48 rfl rfl rfl rfl rfl u0 rfl rfl) rfl (fun _ => ?_)
 refine nN ?_
 refine sR ?_
 refine pP (Y.fieldAddr fa_48_3 rfl) rfl ?_
 refine pV (Y.load fl_3 rfl m1 rfl) rfl ?_
 refine pP (Y.fieldAddr fa_48_3 rfl) rfl ?_
 refine pV (Y.load fl_3 rfl m0 rfl) rfl ?_
 refine pP (Y.eql rfl rfl) rfl ?_
 refine pM rfl rfl ?_
 refine WL.split (t := 99) rfl (fun r h99 => ?_)
 cases r
 refine gF rfl ?_
 refine gF rfl ?_
 refine gF rfl ?_
 refine gF rfl ?_
 refine gF rfl ?_
 refine pP (Y.pickF rfl rfl) rfl ?_
 refine pM rfl rfl ?_
 refine gF rfl ?_
 refine gF rfl ?_
 refine gF rfl ?_
 refine gF rfl ?_
 refine gF rfl ?_
 refine pP (Y.pickF rfl rfl) rfl ?_
 refine pM rfl rfl ?_
 refine gF rfl ?_
 refine gF rfl ?_
 refine gF rfl ?_
 refine gF rfl ?_
 refine gF rfl ?_
 refine pP (Y.pickF rfl rfl) rfl ?_
 refine pM rfl rfl ?_
 refine gF rfl ?_
 refine gF rfl ?_
 refine gF rfl ?_
 refine gF rfl ?_
 refine gF rfl ?_
 refine pP (Y.pickF rfl rfl) rfl ?_
 refine pA rfl rfl ?_
 refine nN ?_
 refine WC.ret ?_
 refine WQ.blockRet ?_
 refine WQ.thenRet ?_
 refine dn1 Try.results26 rfl (fun a w s => ?_)
 · refine ⟨?_, s.low⟩
   clear s hbd
   simp only [packed]
   apply retb
   try simp only [beq4, beq3, beq2, beq0] at *
   unfold follows
   rw [hu]
   dsimp only
   rw [recAt_rev hk2]
   simp_all
 refine gT rfl ?_
 refine pP (Y.fieldAddr fa_48_4 rfl) rfl ?_
 refine gT rfl ?_
 refine pV (Y.load fl_3 rfl m1 rfl) rfl ?_
 refine gT rfl ?_
 refine pP (Y.fieldAddr fa_48_4 rfl) rfl ?_
 refine gT rfl ?_
 refine pV (Y.load fl_3 rfl m0 rfl) rfl ?_
 refine gT rfl ?_
 refine pP (Y.eql rfl rfl) rfl ?_
 refine pP (Y.pickT rfl rfl) rfl ?_
 refine pM rfl rfl ?_
 refine WL.split (t := 106) rfl (fun r h106 => ?_)
 cases r
 refine gF rfl ?_
 refine gF rfl ?_
 refine gF rfl ?_
 refine gF rfl ?_
 refine gF rfl ?_
 refine pP (Y.pickF rfl rfl) rfl ?_
 refine pM rfl rfl ?_
 refine gF rfl ?_
 refine gF rfl ?_
 refine gF rfl ?_
 refine gF rfl ?_
 refine gF rfl ?_
 refine pP (Y.pickF rfl rfl) rfl ?_
 refine pM rfl rfl ?_
 refine gF rfl ?_
 refine gF rfl ?_
 refine gF rfl ?_
 refine gF rfl ?_
 refine gF rfl ?_
 refine pP (Y.pickF rfl rfl) rfl ?_
 refine pA rfl rfl ?_
 refine nN ?_
 refine WC.ret ?_
 refine WQ.blockRet ?_
 refine WQ.thenRet ?_
 refine dn1 Try.results26 rfl (fun a w s => ?_)
 · refine ⟨?_, s.low⟩
   clear s hbd
   simp only [packed]
   apply retb
   try simp only [beq4, beq3, beq2, beq0] at *
   unfold follows
   rw [hu]
   dsimp only
   rw [recAt_rev hk2]
   simp_all
 refine gT rfl ?_
 refine pP (Y.fieldAddr fa_48_5 rfl) rfl ?_
 refine gT rfl ?_
 refine pV (Y.load fl_3 rfl m1 rfl) rfl ?_
 refine gT rfl ?_
 refine pP (Y.fieldAddr fa_48_6 rfl) rfl ?_
 refine gT rfl ?_
 refine pV (Y.load fl_3 rfl m0 rfl) rfl ?_
 refine gT rfl ?_
 refine pP (Y.eql rfl rfl) rfl ?_
 refine pP (Y.pickT rfl rfl) rfl ?_
 refine pM rfl rfl ?_
 refine WL.split (t := 113) rfl (fun r h113 => ?_)
 cases r
 refine gF rfl ?_
 refine gF rfl ?_
 refine gF rfl ?_
 refine gF rfl ?_
 refine gF rfl ?_
 refine pP (Y.pickF rfl rfl) rfl ?_
 refine pM rfl rfl ?_
 refine gF rfl ?_
 refine gF rfl ?_
 refine gF rfl ?_
 refine gF rfl ?_
 refine gF rfl ?_
 refine pP (Y.pickF rfl rfl) rfl ?_
 refine pA rfl rfl ?_
 refine nN ?_
 refine WC.ret ?_
 refine WQ.blockRet ?_
 refine WQ.thenRet ?_
 refine dn1 Try.results26 rfl (fun a w s => ?_)
 · refine ⟨?_, s.low⟩
   clear s hbd
   simp only [packed]
   apply retb
   try simp only [beq4, beq3, beq2, beq0] at *
   unfold follows
   rw [hu]
   dsimp only
   rw [recAt_rev hk2]
   simp_all
 refine gT rfl ?_
 refine pP (Y.fieldAddr fa_48_6 rfl) rfl ?_
 refine gT rfl ?_
 refine pV (Y.load fl_3 rfl m1 rfl) rfl ?_
 refine gT rfl ?_
 refine pP (Y.fieldAddr fa_48_5 rfl) rfl ?_
 refine gT rfl ?_
 refine pV (Y.load fl_3 rfl m0 rfl) rfl ?_
 refine gT rfl ?_
 refine pP (Y.eql rfl rfl) rfl ?_
 refine pP (Y.pickT rfl rfl) rfl ?_
 refine pM rfl rfl ?_
 refine WL.split (t := 120) rfl (fun r h120 => ?_)
 cases r
 refine gF rfl ?_
 refine gF rfl ?_
 refine gF rfl ?_
 refine gF rfl ?_
 refine gF rfl ?_
 refine pP (Y.pickF rfl rfl) rfl ?_
 refine pA rfl rfl ?_
 refine nN ?_
 refine WC.ret ?_
 refine WQ.blockRet ?_
 refine WQ.thenRet ?_
 refine dn1 Try.results26 rfl (fun a w s => ?_)
 · refine ⟨?_, s.low⟩
   clear s hbd
   simp only [packed]
   apply retb
   try simp only [beq4, beq3, beq2, beq0] at *
   unfold follows
   rw [hu]
   dsimp only
   rw [recAt_rev hk2]
   simp_all
 refine gT rfl ?_
 refine pP (Y.fieldAddr fa_48_7 rfl) rfl ?_
 refine gT rfl ?_
 refine pV (Y.load fl_3 rfl m1 rfl) rfl ?_
 refine gT rfl ?_
 refine pP (Y.fieldAddr fa_48_2 rfl) rfl ?_
 refine gT rfl ?_
 refine pV (Y.load fl_3 rfl m0 rfl) rfl ?_
 refine gT rfl ?_
 refine pP (Y.eql rfl rfl) rfl ?_
 refine pP (Y.pickT rfl rfl) rfl ?_
 refine pA rfl rfl ?_
 refine nN ?_
 refine WC.ret ?_
 refine WQ.blockRet ?_
 refine WQ.thenRet ?_
 refine dn1 Try.results26 rfl (fun a w s => ?_)
 · refine ⟨?_, s.low⟩
   clear s hbd
   simp only [packed]
   apply retb
   try simp only [beq4, beq3, beq2, beq0] at *
   unfold follows
   rw [hu]
   dsimp only
   rw [recAt_rev hk2]
   simp_all
 refine WC.skip' ?_
 refine WQ.blockEnd ?_
 refine WQ.next ?_
 refine sR ?_
 refine pM rfl rfl ?_
 refine pP (Y.eql rfl rfl) rfl ?_
 refine pM rfl rfl ?_
 refine WL.split (t := 129) rfl (fun r h129 => ?_)
 cases r
 refine gT rfl ?_
 refine pM rfl rfl ?_
 refine gT rfl ?_
 refine pP (Y.eql rfl rfl) rfl ?_
 refine gT rfl ?_
 refine pM rfl rfl ?_
 refine WL.split (t := 132) rfl (fun r h132 => ?_)
 cases r
 refine gF rfl ?_
 refine gF rfl ?_
 refine gF rfl ?_
 refine gT rfl ?_
 refine pP (Y.pickF rfl rfl) rfl ?_
 refine pP (Y.pickF rfl rfl) rfl ?_
 refine pA rfl rfl ?_
 refine nN ?_
 refine WC.ret ?_
 refine dn1 Try.results26 rfl (fun a w s => ?_)
 · refine ⟨?_, s.low⟩
   clear s hbd
   simp only [packed]
   apply retb
   try simp only [beq4, beq3, beq2, beq0] at *
   unfold follows
   simp_all
 refine gT rfl ?_
 refine pM rfl rfl ?_
 refine gT rfl ?_
 refine pP (Y.len Try.underlying46 rfl) rfl ?_
 refine gT rfl ?_
 refine pP (Y.eql rfl rfl) rfl ?_
 refine gT rfl ?_
 refine pP (Y.pickT rfl rfl) rfl ?_
 refine pP (Y.pickF rfl rfl) rfl ?_
 refine pA rfl rfl ?_
 refine nN ?_
 refine WC.ret ?_
 refine dn1 Try.results26 rfl (fun a w s => ?_)
 · refine ⟨?_, s.low⟩
   clear s hbd
   simp only [packed]
   apply retb
   try simp only [beq4, beq3, beq2, beq0] at *
   unfold follows
   simp_all
 refine gF rfl ?_
 refine gF rfl ?_
 refine gF rfl ?_
 refine gF rfl ?_
 refine gF rfl ?_
 refine gF rfl ?_
 refine gF rfl ?_
 refine pP (Y.pickT rfl rfl) rfl ?_
 refine pA rfl rfl ?_
 refine nN ?_
 refine WC.ret ?_
 refine dn1 Try.results26 rfl (fun a w s => ?_)
 · refine ⟨?_, s.low⟩
   clear s hbd
   simp only [packed]
   apply retb
   try simp only [beq4, beq3, beq2, beq0] at *
   unfold follows
   simp_all

theorem errH_take : ∀ (m k : Nat) (l : List R), l.length = k + m → errH (l.take k).reverse ≠ 0 → errH l.reverse = errH (l.take k).reverse
  | 0, k, l, hl, _ => by rw [List.take_of_length_le (by omega)]
  | m + 1, k, l, hl, he => by
    obtain ⟨r, hr⟩ := get_of_lt (l := l) (k := k) (by omega)
    have e1 : errH (l.take (k + 1)).reverse = errH (l.take k).reverse := by rw [takeS hr, errH, if_neg he]
    rw [errH_take m (k + 1) l (by omega) (by rw [e1]; exact he), e1]
theorem errH_bad {l : List R} {k : Nat} {r : R} (hk : l[k]? = some r) (hR : Right (l.take k).reverse) (he : recErr ((k : Int) + 1) r ≠ 0) : errH l.reverse = recErr ((k : Int) + 1) r := by
  have e1 : errH (l.take (k + 1)).reverse = recErr ((k : Int) + 1) r := by
    rw [takeS hk, errH, if_pos (show errH (l.take k).reverse = 0 from hR), takeL hk, if_neg he]
  have := get_lt hk
  rw [errH_take (l.length - (k + 1)) (k + 1) l (by omega) (by rw [e1]; exact he), e1]
theorem errH_form {l : List R} {k : Nat} {r : R} (hk : l[k]? = some r) (hR : Right (l.take k).reverse) (he : recErr ((k : Int) + 1) r = 0) (hf : follows (l.take k).reverse r = false) : errH l.reverse = 1 := by
  have e1 : errH (l.take (k + 1)).reverse = 1 := by
    rw [takeS hk, errH, if_pos (show errH (l.take k).reverse = 0 from hR), takeL hk, if_pos he, hf]; rfl
  have := get_lt hk
  rw [errH_take (l.length - (k + 1)) (k + 1) l (by omega) (by rw [e1]; omega), e1]
theorem right_step {l : List R} {k : Nat} {r : R} (hk : l[k]? = some r) (hR : Right (l.take k).reverse) (he : recErr ((k : Int) + 1) r = 0) (hf : follows (l.take k).reverse r = true) : Right (l.take (k + 1)).reverse := by
  rw [takeS hk]
  exact Right.mk hR (by rw [takeL hk]; exact he) hf
theorem len_takeI {l : List R} {k : Nat} (hk : k < l.length) : (k : Int) = ((l.take k).length : Int) := by simp; omega

theorem w_logError (l : List R) (A : Option Addr) (b o c : Nat) (w : World) (hm : l.length ≤ maxLen) (hcap : l.length ≤ c) (hr : RL w A b o l) : Ret Try.prog 15 [.slice A l.length c] w (.int .i64 (logErr l)) := by
 refine enter Try.func15 rfl Try.ntmps15 rfl SF.top trivial ?_
 refine sR ?_
 refine pA rfl rfl ?_
 refine nN ?_
 refine WC.seq ?_
 refine sR ?_
 refine pM rfl rfl ?_
 refine pP (Y.len Try.underlying26 rfl) rfl ?_
 refine pP (Y.gtr rfl rfl) rfl ?_
 refine nN ?_
 refine WC.cond rfl (fun h7 => ?_) (fun h7 => ?_)
 refine sR ?_
 refine pA rfl rfl ?_
 refine nN ?_
 refine WC.ret ?_
 refine WQ.thenRet ?_
 refine dn1 Try.results15 rfl (fun a w s => ?_)
 · refine ⟨?_, s.low⟩
   simp only [packed]
   apply reti
   unfold logErr
   rw [if_neg (by simp at h7; omega)]
 refine WC.skip' ?_
 refine WQ.next ?_
 refine WC.seq ?_
 refine sR ?_
 refine pA rfl rfl ?_
 refine nN ?_
 refine WC.block ?_
 have hl : l.length ≤ 60 := by simp at h7; omega
 refine WC.loop (ι := Nat) (fun k => [(0, .slice A l.length c), (3, .int .i64 k)]) (fun _ => []) (fun _ => SF.top) (fun k => k ≤ l.length ∧ Right (l.take k).reverse) (fun k => l.length - k) 0 ⟨Nat.zero_le _, rfl⟩ (fun a w s => s.weak (by repeat (first | exact sub_nil _ | refine sub_cons rfl ?_))) (fun k hk => ?_)
 obtain ⟨hk, hI⟩ := hk
 refine WC.seq ?_
 refine sR ?_
 refine pM rfl rfl ?_
 refine pM rfl rfl ?_
 refine pP (Y.len Try.underlying26 rfl) rfl ?_
 refine pP (Y.lss rfl rfl) rfl ?_
 refine nN ?_
 refine WC.cond rfl (fun h11 => ?_) (fun h11 => ?_)
 refine WC.skip' ?_
 refine WQ.next ?_
 refine WC.seq ?_
 refine WC.block ?_
 refine WC.seq ?_
 refine sR ?_
 have h11 := dec_lt h11
 simp only [if_true] at h11
 obtain ⟨r, hk'⟩ := get_of_lt h11
 refine pM rfl rfl ?_
 refine pP (Y.add rfl rfl (i64_in (by omega) (by omega))) rfl ?_
 refine pM rfl rfl ?_
 refine pM rfl rfl ?_
 refine pP (Y.ixSlA Try.underlying26 Try.sizeOf48 rfl rfl (hr.addr hk') (nat0 _) (get_ltI hk')) rfl ?_
 refine pV (Y.loadAc wd_48 rfl (r := r.cl) rfl (fun a w s j hj => (hr.below s.low).full hk' j hj)) rfl ?_
 refine WL.eff (E.call Try.call25 rfl (fun _ w s => w_recError _ _ w) rfl) rfl (fun _ => ?_)
 refine pA rfl rfl ?_
 refine nN ?_
 refine sR ?_
 refine pM rfl rfl ?_
 refine pP (Y.neq rfl rfl) rfl ?_
 refine nN ?_
 refine WC.cond rfl (fun h22 => ?_) (fun h22 => ?_)
 refine sR ?_
 refine pM rfl rfl ?_
 refine pA rfl rfl ?_
 refine nN ?_
 refine WC.ret ?_
 refine WQ.thenRet ?_
 refine WQ.blockRet ?_
 refine WQ.thenRet ?_
 refine WQ.thenRet ?_
 refine WQ.blockRet ?_
 refine WQ.thenRet ?_
 refine dn1 Try.results15 rfl (fun a w s => ?_)
 · refine ⟨?_, s.low⟩
   simp only [packed]
   apply reti
   unfold logErr
   rw [if_pos hl]
   exact (errH_bad hk' hI (by simpa using h22)).symm
 refine WC.skip' ?_
 refine WQ.next ?_
 refine WC.seq ?_
 refine WC.draw [(0, .q false), (1, .q false), (2, .q false), (3, .q false), (4, .q false), (5, .q false), (6, .q true), (7, .q true), (8, .q false)] mixed (by kernel_rfl) ?_
 refine dP (Y.move rfl) rfl rfl ?_
 refine dP (Y.move rfl) rfl rfl ?_
 refine dP (Y.slToN (l.take k).length (len_takeI h11) Try.underlying26 Try.sizeOf48 rfl rfl (by simp; omega)) rfl rfl ?_
 refine dP (Y.move rfl) rfl rfl ?_
 refine dP (Y.move rfl) rfl rfl ?_
 refine dP (Y.ixSlA Try.underlying26 Try.sizeOf48 rfl rfl (hr.addr hk') (nat0 _) (get_ltI hk')) rfl rfl ?_
 refine dV (Y.loadAc wd_48 rfl (r := r.cl) rfl (fun a w s j hj => (hr.below s.low).full hk' j hj)) rfl rfl ?_
 refine WDm.quiet (QS.call Try.call26 rfl (fun _ w s => w_follows (l.take k) A b o c r w (by simp; omega) ((hr.below s.low).take k) hI (by rw [← len_takeI h11]; simpa using h22))) rfl rfl rfl ?_
 refine dP (Y.not rfl) rfl rfl ?_
 refine WDm.nil (WQ.and ?_)
 refine WQ.next ?_
 refine WC.cond rfl (fun h32 => ?_) (fun h32 => ?_)
 refine sR ?_
 refine pA rfl rfl ?_
 refine nN ?_
 refine WC.ret ?_
 refine WQ.blockRet ?_
 refine WQ.thenRet ?_
 refine WQ.thenRet ?_
 refine WQ.blockRet ?_
 refine WQ.thenRet ?_
 refine dn1 Try.results15 rfl (fun a w s => ?_)
 · refine ⟨?_, s.low⟩
   simp only [packed]
   apply reti
   unfold logErr
   rw [if_pos hl]
   exact (errH_form hk' hI (by simpa using h22) (by simpa using h32)).symm
 refine WC.skip' ?_
 refine WQ.blockEnd ?_
 refine WQ.next ?_
 refine WC.region ?_
 refine pM rfl rfl ?_
 refine pP (Y.add rfl rfl (i64_in (by omega) (by omega))) rfl ?_
 refine pA rfl rfl ?_
 refine WL.nil ?_
 · exact fun a w s => ⟨k + 1, ⟨by omega, right_step hk' hI (by simpa using h22) (by simpa using h32)⟩, by omega, s.weak (by repeat (first | exact sub_nil _ | refine sub_cons rfl ?_))⟩
 refine WC.exit ?_
 refine WQ.thenExit ?_
 refine WQ.thenExit ?_
 refine WQ.blockExit ?_
 refine WQ.next ?_
 refine sR ?_
 refine pA rfl rfl ?_
 refine nN ?_
 refine WC.ret ?_
 refine dn1 Try.results15 rfl (fun a w s => ?_)
 · refine ⟨?_, s.low⟩
   simp only [packed]
   apply reti
   unfold logErr
   rw [if_pos hl]
   have h11 := dec_lt h11
   simp only [Bool.false_eq_true, if_false] at h11
   rw [take_len h11] at hI
   exact hI.symm
end Go.Proofs.Ytmfjhacgpopijaa
end
section
set_option linter.unusedVariables false
set_option linter.unusedSimpArgs false
set_option linter.unusedSectionVars false
namespace Go.Proofs.Ytmfjhacgpopijaa
open Go.RowKit
/-- Facts that lean on different blocks. -/
def SF.sep (F G : SF) : SF := ⟨fun w => F.p w ∧ G.p w ∧ ∀ b, F.fp w b → ¬ G.fp w b, fun w b => F.fp w b ∨ G.fp w b,
  fun w b h k => k.elim (F.lt w b h.1) (G.lt w b h.2.1),
  fun w w' h k => by
    have h1 := F.st w w' h.1 fun b hb => k b (.inl hb)
    have h2 := G.st w w' h.2.1 fun b hb => k b (.inr hb)
    exact ⟨⟨h1.1, h2.1, fun b hf hg => h.2.2 b (h1.2 b hf) (h2.2 b hg)⟩, fun b hb => hb.imp (h1.2 b) (h2.2 b)⟩⟩
/-- F tells all that F' tells. -/
def SF.le (F F' : SF) : Prop := ∀ w, F.p w → F'.p w ∧ ∀ b, F'.fp w b → F.fp w b
theorem SF.le_refl (F : SF) : F.le F := fun _ h => ⟨h, fun _ h => h⟩
theorem SF.le_trans {F G K : SF} (h : F.le G) (k : G.le K) : F.le K := fun w hf => ⟨(k w (h w hf).1).1, fun b hb => (h w hf).2 b ((k w (h w hf).1).2 b hb)⟩
theorem SF.sep_comm (F G : SF) : (F.sep G).le (G.sep F) := fun w h => ⟨⟨h.2.1, h.1, fun b hg hf => h.2.2 b hf hg⟩, fun b hb => hb.symm⟩
theorem SF.sep_assoc (F G K : SF) : ((F.sep G).sep K).le (F.sep (G.sep K)) := fun w h =>
  ⟨⟨h.1.1, ⟨h.1.2.1, h.2.1, fun b hg hk => h.2.2 b (.inr hg) hk⟩, fun b hf hgk => hgk.elim (h.1.2.2 b hf) (h.2.2 b (.inl hf))⟩, fun b hb => hb.elim (fun h => .inl (.inl h)) fun h => h.elim (fun h => .inl (.inr h)) .inr⟩
theorem SF.sep_assoc' (F G K : SF) : (F.sep (G.sep K)).le ((F.sep G).sep K) := fun w h =>
  ⟨⟨⟨h.1, h.2.1.1, fun b hf hg => h.2.2 b hf (.inl hg)⟩, h.2.1.2.1, fun b hfg hk => hfg.elim (fun hf => h.2.2 b hf (.inr hk)) fun hg => h.2.1.2.2 b hg hk⟩, fun b hb => hb.elim (fun h => h.elim .inl fun h => .inr (.inl h)) fun h => .inr (.inr h)⟩
theorem SF.sep_mono {F F' G G' : SF} (h : F.le F') (k : G.le G') : (F.sep G).le (F'.sep G') := fun w x =>
  ⟨⟨(h w x.1).1, (k w x.2.1).1, fun b hf hg => x.2.2 b ((h w x.1).2 b hf) ((k w x.2.1).2 b hg)⟩, fun b hb => hb.imp ((h w x.1).2 b) ((k w x.2.1).2 b)⟩
/-- The second to the front. -/
theorem SF.sep_rot (F G K : SF) : (F.sep (G.sep K)).le (G.sep (F.sep K)) :=
  SF.le_trans (SF.sep_assoc' F G K) (SF.le_trans (SF.sep_mono (SF.sep_comm F G) (SF.le_refl K)) (SF.sep_assoc G F K))
theorem SF.sep_fst (F G : SF) : (F.sep G).le F := fun w h => ⟨h.1, fun b hb => .inl hb⟩
theorem SF.sep_snd (F G : SF) : (F.sep G).le G := fun w h => ⟨h.2.1, fun b hb => .inr hb⟩
section
variable [Inhabited DSx] {P : Program} {ops : Array Oper} {Q : Exit → Act → World → Prop} {E : Env} {n : Nat} {H : Hp} {F G : SF} {w0 : World}
theorem St.le {a : Act} {w : World} (s : St E n H F w0 a w) (h : F.le G) : St E n H G w0 a w := ⟨s.env, s.hp, (h w s.fact).1, fun x hx k => s.sep x hx ((h w s.fact).2 _ k), s.low⟩
theorem WL.le {l : List Oper} (h : F.le G) (k : WL P ops Q l E n H G w0) : WL P ops Q l E n H F w0 := fun a w s => k a w (s.le h)
theorem WC.le {c : Code} (h : F.le G) (k : WC P c Q E n H G w0) : WC P c Q E n H F w0 := fun a w s => k a w (s.le h)
theorem WQ.le {e : Exit} (h : F.le G) (k : WQ Q e E n H G w0) : WQ Q e E n H F w0 := fun a w s => k a w (s.le h)
/-- The blocks in another order, or fewer. -/
def Hsub (H' H : Hp) : Prop := ∃ K : Hp, K.Perm H' ∧ List.Sublist K H
theorem Hsub.subset {H' H : Hp} (h : Hsub H' H) : ∀ x ∈ H', x ∈ H := fun x hx => by
  obtain ⟨K, hp, hs⟩ := h
  exact hs.subset (hp.symm.subset hx)
theorem Hsub.refl (H : Hp) : Hsub H H := ⟨H, List.Perm.refl _, List.Sublist.refl _⟩
theorem Hsub.of_perm {H' H : Hp} (h : H'.Perm H) : Hsub H' H := ⟨H, h.symm, List.Sublist.refl _⟩
theorem Hsub.of_sub {H' H : Hp} (h : List.Sublist H' H) : Hsub H' H := ⟨H', List.Perm.refl _, h⟩
theorem HpOf.sub {B : Nat} {H' : Hp} {w : World} (h : HpOf B H w) (k : Hsub H' H) : HpOf B H' w := by
  obtain ⟨K, hp, hs⟩ := k
  have h1 : K.Pairwise fun x y => x.1 ≠ y.1 := List.Pairwise.sublist hs h.nd
  refine ⟨fun x hx => h.blk x (hs.subset (hp.symm.subset hx)), ?_⟩
  exact (List.Perm.pairwise_iff (fun h => Ne.symm h) hp).1 h1
theorem St.sub {a : Act} {w : World} {H' : Hp} (s : St E n H F w0 a w) (k : Hsub H' H) : St E n H' F w0 a w := ⟨s.env, s.hp.sub k, s.fact, fun x hx => s.sep x (k.subset x hx), s.low⟩
theorem WL.sub {l : List Oper} {H' : Hp} (h : Hsub H' H) (k : WL P ops Q l E n H' F w0) : WL P ops Q l E n H F w0 := fun a w s => k a w (s.sub h)
theorem WC.sub {c : Code} {H' : Hp} (h : Hsub H' H) (k : WC P c Q E n H' F w0) : WC P c Q E n H F w0 := fun a w s => k a w (s.sub h)
theorem WQ.sub {e : Exit} {H' : Hp} (h : Hsub H' H) (k : WQ Q e E n H' F w0) : WQ Q e E n H F w0 := fun a w s => k a w (s.sub h)
theorem Wp.sub {w : World} {H' : Hp} (s : Wp w0 H F w) (k : Hsub H' H) : Wp w0 H' F w := ⟨s.1.sub k, s.2.1, fun x hx => s.2.2.1 x (k.subset x hx), s.2.2.2⟩
theorem Wp.le {w : World} (s : Wp w0 H F w) (h : F.le G) : Wp w0 H G w := ⟨s.1, (h w s.2.1).1, fun x hx k => s.2.2.1 x hx ((h w s.2.1).2 _ k), s.2.2.2⟩
end
section
variable {P : Program} {ops : Array Oper} {Q : Exit → Act → World → Prop} {E : Env} {n : Nat} {H : Hp} {F G : SF} {w0 : World}
/-- A function entered where memory is known so far. -/
theorem enterW {f : FuncId} {fn : Func} {c : Code} {vs : List Value} {w : World} {R : Ending → World → Prop} (hf : P.funcs[f]? = some fn) (hb : fn.body = some c) (hn : fn.ntmps = n) (hl : Nat.ble vs.length n = true) (hw : Wp w0 H F w)
    (h : WC P c (bodyPost P fn R) (ents 0 vs) n H F w0) : Calls P f vs.toArray w R := by
  refine calls_of_wp hf hb (h _ _ ⟨⟨?_, fun t v ht => ?_, rfl⟩, hw.1, hw.2.1, hw.2.2.1, hw.2.2.2⟩)
  · have := Nat.le_of_ble_eq_true hl
    simp [hn]; omega
  · obtain ⟨j, rfl, hj⟩ := look_ents _ _ _ _ ht
    have hlt : j < vs.length := (List.getElem?_eq_some_iff.1 hj).1
    simp only [Nat.zero_add]
    rw [Array.getElem?_append_left (by simpa using hlt)]
    simpa using hj
end
section
variable [Inhabited DSx] {P : Program} {ops : Array Oper} {Q : Exit → Act → World → Prop} {E : Env} {n : Nat} {H : Hp} {F G : SF} {w0 : World}
/-- A call that turns what is known of memory. -/
theorem E.callM {ι : Type} {f : FuncId} {args : Array Operand} {ts : Array TypeId} {d : Nat} {T' : TypeId} {p : String} {af : Array Edge} {vs : List Value} (val : ι → Value) (Hi : ι → Hp) (Fi : ι → SF) (hf : ∀ (args : Array Value) (w : World), (callFunc f args).run P w = .ok (.enter f args) w)
    (hx : evs E args.toList = some vs) (hc : ∀ w, Wp w0 H F w → Calls P f vs.toArray w fun e w' => ∃ i, e = .returned (val i) ∧ Wp w0 (Hi i) (Fi i) w') (hn : Nat.blt d n = true) :
    Eff P E n H F w0 ⟨some d, .call { callee := .value (.func f), args := args, argTypes := ts }, T', p, af, none⟩ (fun i => (d, val i) :: E) Hi Fi := fun a w s Q K hK => by
  unfold Oper.wp
  rw [run_call hf s.env hx, Oper.upon_enter]
  refine (hc w s.wp).mono fun e w' ⟨i, he, hw⟩ => ?_
  subst he
  exact hK i _ _ (put_size _ _ _) (St.put ⟨s.env, hw.1, hw.2.1, hw.2.2.1, hw.2.2.2⟩ hn)
/-- A map lies in block b. -/
def SF.map (base b : Nat) (es : List MapEntry) (k : Nat) : SF where
  p w := w.heap[b]? = some (.map es.toArray k) ∧ base ≤ b
  fp _ x := x = b
  lt w x h e := by subst e; exact blk_lt h.1
  st w w' h k := ⟨⟨(k b rfl).trans h.1, h.2⟩, fun _ h => h⟩
/-- Memory with another map in block b. -/
def putMap (w : World) (b : Nat) (es : List MapEntry) (k : Nat) : World := { w with heap := w.heap.setIfInBounds b (.map es.toArray k) }
theorem putMap_at {w : World} {b : Nat} {o : Obj} (h : w.heap[b]? = some o) (es : List MapEntry) (k : Nat) : (putMap w b es k).heap[b]? = some (.map es.toArray k) := by
  have := blk_lt h
  simp [putMap, this]
theorem putMap_far {w : World} {b x : Nat} (hx : x ≠ b) (es : List MapEntry) (k : Nat) : (putMap w b es k).heap[x]? = w.heap[x]? := by
  simp [putMap, Array.getElem?_setIfInBounds_ne (Ne.symm hx)]
theorem St.putMap {a : Act} {w : World} {b : Nat} {es es' : List MapEntry} {k k' : Nat} (s : St E n H ((SF.map w0.heap.size b es k).sep G) w0 a w) : St E n H ((SF.map w0.heap.size b es' k').sep G) w0 a (putMap w b es' k') := by
  have hm := s.fact.1.1
  have hb := s.fact.1.2
  have hG := G.st w (Proofs.Ytmfjhacgpopijaa.putMap w b es' k') s.fact.2.1 fun x hx => putMap_far (fun e => s.fact.2.2 b rfl (by rw [← e]; exact hx)) _ _
  refine ⟨s.env, ⟨fun x hx => ⟨?_, (s.hp.blk x hx).2⟩, s.hp.nd⟩, ⟨⟨putMap_at hm _ _, hb⟩, hG.1, fun x hx hg => s.fact.2.2 x hx (hG.2 x hg)⟩, fun x hx hk => ?_, ⟨s.low.os, s.low.tape, s.low.output, by simpa [Proofs.Ytmfjhacgpopijaa.putMap] using s.low.size, fun x hx => ?_⟩⟩
  · rw [putMap_far (fun e => s.sep x hx (.inl e))]
    exact (s.hp.blk x hx).1
  · exact s.sep x hx (hk.imp id (hG.2 _))
  · rw [putMap_far (by omega)]
    exact s.low.block x hx
/-- A new map. -/
theorem St.newMap {a : Act} {w : World} (s : St E n H F w0 a w) : St E n H ((SF.map w0.heap.size w.heap.size [] 0).sep F) w0 a (w.alloc (.map #[] 0)) := by
  have hb : Below w.heap.size w (w.alloc (.map #[] 0)) := (Below.refl _ _).alloc (Nat.le_refl _) _
  have g := s.grow hb
  have hfp := (F.st w _ s.fact fun b h => hb.block b (F.lt w b s.fact h)).2
  refine ⟨g.env, g.hp, ⟨⟨alloc_new w _, s.low.size⟩, g.fact, fun x hx hk => ?_⟩, fun x hx hk => ?_, g.low⟩
  · have h1 := F.lt w _ s.fact (hfp _ hk)
    have h2 : x = w.heap.size := hx
    omega
  · rcases hk with hk | hk
    · have h1 := s.hp.lt hx
      have h2 : x.1 = w.heap.size := hk
      omega
    · exact g.sep x hx hk
theorem E.makeMap {d : Nat} {T T' : TypeId} {p : String} {af : Array Edge} (hn : Nat.blt d n = true) :
    Eff P E n H F w0 ⟨some d, .makeMap T none, T', p, af, none⟩ (fun b : Nat => (d, .map (some b)) :: E) (fun _ => H) (fun b => (SF.map w0.heap.size b [] 0).sep F) := fun a w s Q K hK => by
  have h : (execOp a.eval ⟨some d, .makeMap T none, T', p, af, none⟩).run P w = .ok (.value (.map (some w.heap.size))) (w.alloc (.map #[] 0)) := rfl
  unfold Oper.wp
  rw [h, Oper.upon_value]
  exact hK _ _ _ (put_size _ _ _) (s.newMap.put hn)
/-- A store into a map. -/
theorem E.mapUpdate {x y z : Operand} {T T' : TypeId} {p : String} {af : Array Edge} {b : Nat} {es es' : List MapEntry} {k k' : Nat} {vk vv : Value} (hF : F = (SF.map w0.heap.size b es k).sep G) (hx : ev E x = some (.map (some b))) (hy : ev E y = some vk) (hz : ev E z = some vv)
    (hr : ∀ w, w.heap[b]? = some (.map es.toArray k) → (Instr.mapUpdate T (.map (some b)) vk vv).run P w = .ok () (putMap w b es' k')) :
    Eff P E n H F w0 ⟨none, .mapUpdate T x y z, T', p, af, none⟩ (fun _ : Unit => E) (fun _ => H) (fun _ => (SF.map w0.heap.size b es' k').sep G) := fun a w s Q K hK => by
  subst hF
  have h : (execOp a.eval ⟨none, .mapUpdate T x y z, T', p, af, none⟩).run P w = .ok .skip (putMap w b es' k') := by
    show (do Instr.mapUpdate T (a.eval x) (a.eval y) (a.eval z); pure Next.skip).run P w = _
    rw [s.env.eval hx, s.env.eval hy, s.env.eval hz, Sem.run_bind, hr w s.fact.1.1]
    rfl
  unfold Oper.wp
  rw [h, Oper.upon_skip]
  exact hK () _ _ rfl s.putMap
theorem E.delete {x y : Operand} {T T2 T' : TypeId} {p : String} {af : Array Edge} {b : Nat} {es es' : List MapEntry} {k : Nat} {vk : Value} (hF : F = (SF.map w0.heap.size b es k).sep G) (hx : ev E x = some (.map (some b))) (hy : ev E y = some vk)
    (hr : ∀ w, w.heap[b]? = some (.map es.toArray k) → (Builtin.delete_ #[T, T2] T' #[.map (some b), vk]).run P w = .ok (.tuple #[]) (putMap w b es' k)) :
    Eff P E n H F w0 ⟨none, .call { callee := .builtin .delete, args := #[x, y], argTypes := #[T, T2] }, T', p, af, none⟩ (fun _ : Unit => E) (fun _ => H) (fun _ => (SF.map w0.heap.size b es' k).sep G) := fun a w s Q K hK => by
  subst hF
  have h : (execOp a.eval ⟨none, .call { callee := .builtin .delete, args := #[x, y], argTypes := #[T, T2] }, T', p, af, none⟩).run P w = .ok (.value (.tuple #[])) (putMap w b es' k) := by
    simp only [execOp, resolve, invoke, builtin, Sem.run_bind, Sem.run_pure, Result.andThen_ok, List.map_toArray, List.map_cons, List.map_nil, s.env.eval hx, s.env.eval hy, hr w s.fact.1.1]
  unfold Oper.wp
  rw [h, Oper.upon_value]
  exact hK () _ _ rfl s.putMap
/-- A look into a map. -/
theorem Y.lookup {d : Option Nat} {x y : Operand} {T T' : TypeId} {p : String} {af : Array Edge} {b : Nat} {es : List MapEntry} {k : Nat} {vk v : Value} (hx : ev E x = some (.map (some b))) (hy : ev E y = some vk) (hm : ∀ a w, St E n H F w0 a w → w.heap[b]? = some (.map es.toArray k))
    (hr : ∀ w, w.heap[b]? = some (.map es.toArray k) → (Instr.lookup T (.map (some b)) vk false).run P w = .ok v w) : Yv P E n H F w0 ⟨d, .lookup T x y false, T', p, af, none⟩ v := fun a w s => by
  show (do let u ← Instr.lookup T (a.eval x) (a.eval y) false; pure (Next.value u)).run P w = _
  rw [s.env.eval hx, s.env.eval hy, Sem.run_bind, hr w (hm a w s)]
  rfl
/-- append to a row beside other facts. -/
theorem E.appendG {d : Nat} {x y : Operand} {T T' e : TypeId} {p : String} {af : Array Edge} {i : TypeInfo} {z : Value} {size bytes m c k A0 : Nat} {A : Option Addr} {b : Nat} {cs xs : List Value} {T2 : TypeId}
    (hu : P.underlying T = some (.slice e)) (hi : P.info? e = some i) (hz : i.zero = some z) (hsize : i.size = size) (hby : i.bytes = bytes) (hzs : z.cells.size = size) (hsz : 0 < size)
    (hF : F = (SF.own w0.heap.size e size (.slice A k A0) k xs).sep G) (hx : ev E x = some (.slice A k A0)) (hy : ev E y = some (.slice (some ⟨b, 0, none⟩) m c)) (hm : (b, cs, T2) ∈ H) (hl : cs.length = m * size) (h1 : (cs.all Value.oneCell') = true)
    (h63 : k + m ≤ maxLen) (hbytes : (k + m) * bytes ≤ 140737488355328) (hn : Nat.blt d n = true) :
    Eff P E n H F w0 ⟨some d, .call { callee := .builtin .append, args := #[x, y], argTypes := #[T, T] }, T', p, af, none⟩ (fun i : Option Addr × Nat => (d, .slice i.1 (k + m) i.2) :: E) (fun _ => H) (fun i => (SF.own w0.heap.size e size (.slice i.1 (k + m) i.2) (k + m) (xs ++ cs)).sep G) := fun a w s Q K hK => by
  subst hF
  have hown : w.ownsRow w0.heap.size e size (.slice A k A0) k xs := s.fact.1
  obtain ⟨v', w', hrun, h2, h3, _, h5⟩ := run_append_own_at (P := P) w w0.heap.size T T' e i z size bytes hu hi hz hsize hby hzs hsz _ k xs hown ⟨b, 0, none⟩ m c cs hl
    (fun j u hj => by
      have e1 : (⟨b, 0, none⟩ : Addr).add j = ⟨b, j, none⟩ := by unfold Addr.add; split <;> simp_all
      rw [e1, s.hp.cell hm, hj]) (fun u hu => List.all_eq_true.1 h1 u hu) h63 hbytes s.low.size
  obtain ⟨A', c', rfl⟩ := own_val h2
  have hrow : ∀ g, Value.ownBlock (.slice A k A0) = some g → w0.heap.size ≤ g ∧ g < w.heap.size := fun g hg => hown.lt g hg
  have hlow : Below w0.heap.size w0 w' := s.low.grown h3 s.low.size (fun g hg => (hrow g hg).1)
  have hHp : HpOf w0.heap.size H w' := ⟨fun x hx => by
    have hb := s.hp.blk x hx
    refine ⟨?_, hb.2⟩
    rw [h3.block x.1 (s.hp.lt hx) (fun e => s.sep x hx (.inl e.symm))]
    exact hb.1, s.hp.nd⟩
  have hG := G.st w w' s.fact.2.1 fun x hx => h3.block x (G.lt w x s.fact.2.1 hx) (fun e => s.fact.2.2 x e.symm hx)
  have hsep : ∀ x, Value.ownBlock (.slice A' (k + m) c') = some x → x < w.heap.size → Value.ownBlock (.slice A k A0) = some x := fun x hk hlt => by
    rcases h5 with h5 | h5
    · exact h5.symm.trans hk
    · have := h5.symm.trans hk
      simp at this
      omega
  unfold Oper.wp
  have h6 : (execOp a.eval ⟨some d, .call { callee := .builtin .append, args := #[x, y], argTypes := #[T, T] }, T', p, af, none⟩).run P w = .ok (.value (.slice A' (k + m) c')) w' := by
    simp only [execOp, resolve, invoke, builtin, Sem.run_bind, Sem.run_pure, Result.andThen_ok, List.map_toArray, List.map_cons, List.map_nil, s.env.eval hx, s.env.eval hy, hrun]
  rw [h6, Oper.upon_value]
  refine hK (A', c') _ _ (put_size _ _ _) (St.put ⟨s.env, hHp, ⟨h2, hG.1, fun x hx hg => s.fact.2.2 x (hsep x hx (G.lt w x s.fact.2.1 (hG.2 x hg))) (hG.2 x hg)⟩, fun x hx hk => ?_, hlow⟩ hn)
  rcases hk with hk | hk
  · exact s.sep x hx (.inl (hsep _ hk (s.hp.lt hx)))
  · exact s.sep x hx (.inr (hG.2 _ hk))
end
end Go.Proofs.Ytmfjhacgpopijaa
end
section
set_option maxRecDepth 100000
set_option linter.unusedVariables false
set_option linter.unusedSimpArgs false
set_option linter.unusedSectionVars false
namespace Go.Proofs.Ytmfjhacgpopijaa
open Go.RowKit
/-- Numbers that lie in a block. -/
def IntsAt (w : World) (b : Nat) (ns : List Int) : Prop := b < w.heap.size ∧ ∀ j x, ns[j]? = some x → w.cell? ⟨b, j, none⟩ = some (.int .i64 x)
theorem IntsAt.below {w w' : World} {b : Nat} {ns : List Int} (h : IntsAt w b ns) (hb : Below w.heap.size w w') : IntsAt w' b ns :=
  ⟨Nat.lt_of_lt_of_le h.1 hb.size, fun j x hx => (hb.cell (p := ⟨b, j, none⟩) h.1).trans (h.2 j x hx)⟩
/-- Is the number right? -/
def isVal (n : Int) : Bool := wi n 0 99
theorem IntsAt.of {E : Env} {n : Nat} {H : Hp} {F : SF} {w0 w : World} {a : Act} {b : Nat} {ns : List Int} {c : Value} {T : TypeId} (s : St E n H F w0 a w) (hm : (b, ns.map (Value.int .i64) ++ [c], T) ∈ H) : IntsAt w b ns :=
  ⟨s.hp.lt hm, fun j x hx => by rw [s.hp.cell hm, List.getElem?_append_left (by simpa using (List.getElem?_eq_some_iff.1 hx).1)]; simp [hx]⟩

theorem w_badV (n : Int) (w : World) : Ret Try.prog 53 [.int .i64 n] w (.bool (!isVal n)) := by
 refine enter Try.func53 rfl Try.ntmps53 rfl SF.top trivial ?_
 refine sR ?_
 refine pA rfl rfl ?_
 refine nN ?_
 refine sR ?_
 refine pM rfl rfl ?_
 refine WL.eff (E.call Try.call43 rfl (fun _ w s => w_val n w) rfl) rfl (fun _ => ?_)
 refine pP (Y.not rfl) rfl ?_
 refine pA rfl rfl ?_
 refine nN ?_
 refine WC.ret ?_
 refine dn1 Try.results53 rfl (fun a w s => ?_)
 · exact ⟨rfl, s.low⟩

theorem w_indexF (ns : List Int) (b : Nat) (w : World) (c : Nat) (hl : ns.length ≤ 60) (hb : IntsAt w b ns) : Ret Try.prog 54 [.slice (some ⟨b, 0, none⟩) ns.length c, .func (.func 53) #[] #[]] w (.int .i64 (fals 0 (ns.map isVal))) := by
 refine enter Try.func54 rfl Try.ntmps54 rfl SF.top trivial ?_
 refine sR ?_
 refine pA rfl rfl ?_
 refine nN ?_
 refine WC.seq ?_
 refine sR ?_
 refine pM rfl rfl ?_
 refine pP (Y.len Try.underlying46 rfl) rfl ?_
 refine pM rfl rfl ?_
 refine nN ?_
 refine WC.block ?_
 refine WC.loop (ι := Nat) (fun k => [(0, .slice (some ⟨b, 0, none⟩) ns.length c), (1, .func (.func 53) #[] #[]), (7, .int .i64 ns.length), (8, .int .i64 k)]) (fun _ => []) (fun _ => SF.top) (fun k => k ≤ ns.length ∧ fals 0 (ns.map isVal) = fals k ((ns.map isVal).drop k)) (fun k => ns.length - k) 0 ⟨Nat.zero_le _, rfl⟩ (fun a w s => s.weak (by repeat (first | exact sub_nil _ | refine sub_cons rfl ?_))) (fun k hk => ?_)
 obtain ⟨hk, hf⟩ := hk
 refine sR ?_
 refine pP (Y.lss rfl rfl) rfl ?_
 refine nN ?_
 refine WC.seq ?_
 refine WC.cond rfl (fun h9 => ?_) (fun h9 => ?_)
 refine WC.skip' ?_
 refine WQ.next ?_
 refine WC.seq ?_
 refine WC.block ?_
 refine sR ?_
 refine pM rfl rfl ?_
 refine pA rfl rfl ?_
 refine nN ?_
 refine sR ?_
 have h9 : k < ns.length := by simpa using h9
 obtain ⟨x, hx⟩ : ∃ x, ns[k]? = some x := ⟨_, List.getElem?_eq_getElem h9⟩
 have hx2 : (ns.map isVal)[k]? = some (isVal x) := by simp [hx]
 refine pM rfl rfl ?_
 refine pM rfl rfl ?_
 refine pM rfl rfl ?_
 refine pP (Y.ixSl Try.underlying46 Try.sizeOf3 rfl rfl (by omega) (by omega)) rfl ?_
 refine pV (Y.loadc fl_3 rfl (v := .int .i64 x) (fun a w s => by have := (hb.below s.low).2 k x hx; simpa using this)) rfl ?_
 refine WL.eff (E.callV Try.call53 rfl rfl (fun _ w s => w_badV x w) rfl) rfl (fun _ => ?_)
 refine nN ?_
 refine WC.cond rfl (fun h16 => ?_) (fun h16 => ?_)
 refine sR ?_
 refine pM rfl rfl ?_
 refine pA rfl rfl ?_
 refine nN ?_
 refine WC.ret ?_
 refine WQ.blockRet ?_
 refine WQ.thenRet ?_
 refine WQ.thenRet ?_
 refine WQ.blockRet ?_
 refine WQ.thenRet ?_
 refine dn1 Try.results54 rfl (fun a w s => ?_)
 · refine ⟨?_, s.low⟩
   clear s
   have h9 := h9
   simp only [packed]
   first
     | (rw [hf, drop_cons hx2]; simp_all [fals])
     | (rw [hf, List.drop_eq_nil_of_le (by simp at h9 ⊢; omega)]; rfl)
 refine WC.skip' ?_
 refine WQ.blockEnd ?_
 refine WQ.next ?_
 refine WC.region ?_
 refine pP (Y.add rfl rfl (i64_in (by omega) (by omega))) rfl ?_
 refine pM rfl rfl ?_
 refine WL.nil ?_
 · exact fun a w s => ⟨k + 1, ⟨by omega, by rw [hf, drop_cons hx2]; simp_all [fals]⟩, by omega, s.weak (by repeat (first | exact sub_nil _ | refine sub_cons rfl ?_))⟩
 refine WC.exit ?_
 refine WQ.thenExit ?_
 refine WQ.thenExit ?_
 refine WQ.blockExit ?_
 refine WQ.next ?_
 refine sR ?_
 refine pA rfl rfl ?_
 refine nN ?_
 refine WC.ret ?_
 refine dn1 Try.results54 rfl (fun a w s => ?_)
 · refine ⟨?_, s.low⟩
   clear s
   have h9 := h9
   simp only [packed]
   first
     | (rw [hf, drop_cons hx2]; simp_all [fals])
     | (rw [hf, List.drop_eq_nil_of_le (by simp at h9 ⊢; omega)]; rfl)

theorem w_containsF (ns : List Int) (b : Nat) (w : World) (c : Nat) (hl : ns.length ≤ 60) (hb : IntsAt w b ns) : Ret Try.prog 52 [.slice (some ⟨b, 0, none⟩) ns.length c, .func (.func 53) #[] #[]] w (.bool (!(ns.map isVal).all id)) := by
 refine enter Try.func52 rfl Try.ntmps52 rfl SF.top trivial ?_
 refine sR ?_
 refine pA rfl rfl ?_
 refine nN ?_
 refine sR ?_
 refine pM rfl rfl ?_
 refine pM rfl rfl ?_
 refine WL.eff (E.call Try.call54 rfl (fun _ w s => w_indexF ns b w c hl (hb.below s.low)) rfl) rfl (fun _ => ?_)
 refine pP (Y.geq rfl rfl) rfl ?_
 refine pA rfl rfl ?_
 refine nN ?_
 refine WC.ret ?_
 refine dn1 Try.results52 rfl (fun a w s => ?_)
 · refine ⟨?_, s.low⟩
   simp only [packed]
   rw [fals_all]

theorem w_pageCheck (p : Pg) (w : World) : Ret Try.prog 50 [p.val] w (.int .i64 p.err) := by
 refine enter Try.func50 rfl Try.ntmps50 rfl SF.top trivial ?_
 refine sR ?_
 refine WL.eff (E.box rfl rfl rfl) rfl (fun b1 => ?_)
 refine pA rfl rfl ?_
 refine nN ?_
 refine WC.seq ?_
 refine sR ?_
 refine pP (Y.fieldAddr fa_24_1 rfl) rfl ?_
 refine pV (Y.load fl_3 rfl m0 rfl) rfl ?_
 refine pP (Y.lss rfl rfl) rfl ?_
 refine pM rfl rfl ?_
 refine WL.split (t := 6) rfl (fun r h6 => ?_)
 cases r
 refine gT rfl ?_
 refine pP (Y.fieldAddr fa_24_1 rfl) rfl ?_
 refine gT rfl ?_
 refine pV (Y.load fl_3 rfl m0 rfl) rfl ?_
 refine gT rfl ?_
 refine pP (Y.gtr rfl rfl) rfl ?_
 refine pP (Y.pickF rfl rfl) rfl ?_
 refine pM rfl rfl ?_
 refine WL.split (t := 11) rfl (fun r h11 => ?_)
 cases r
 refine gT rfl ?_
 refine pP (Y.fieldAddr fa_24_0 rfl) rfl ?_
 refine gT rfl ?_
 refine pP (Y.slAll rfl (u := .slice (some ⟨b1, 0, none⟩) 3 3) (fun w => by kernel_rfl)) rfl ?_
 refine gT rfl ?_
 refine WL.eff (E.call Try.call52 rfl (fun _ w s => w_containsF [p.c0, p.c1, p.c2] b1 w 3 (by simp) (IntsAt.of s (List.Mem.head _))) rfl) rfl (fun _ => ?_)
 refine pP (Y.pickF rfl rfl) rfl ?_
 refine nN ?_
 refine WC.cond rfl (fun h15 => ?_) (fun h15 => ?_)
 refine sR ?_
 refine pA rfl rfl ?_
 refine nN ?_
 refine WC.ret ?_
 refine WQ.thenRet ?_
 refine dn1 Try.results50 rfl (fun a w s => ?_)
 · refine ⟨?_, s.low⟩
   clear s
   simp only [packed]
   (simp_all [Pg.err, Pg.ok, cellsB, isVal, wi] <;> grind)
 refine WC.skip' ?_
 refine WQ.next ?_
 refine sR ?_
 refine pA rfl rfl ?_
 refine nN ?_
 refine WC.ret ?_
 refine dn1 Try.results50 rfl (fun a w s => ?_)
 · refine ⟨?_, s.low⟩
   clear s
   simp only [packed]
   (simp_all [Pg.err, Pg.ok, cellsB, isVal, wi] <;> grind)
 refine gF rfl ?_
 refine gF rfl ?_
 refine gF rfl ?_
 refine pP (Y.pickT rfl rfl) rfl ?_
 refine nN ?_
 refine WC.condT rfl ?_
 refine sR ?_
 refine pA rfl rfl ?_
 refine nN ?_
 refine WC.ret ?_
 refine WQ.thenRet ?_
 refine dn1 Try.results50 rfl (fun a w s => ?_)
 · refine ⟨?_, s.low⟩
   clear s
   simp only [packed]
   (simp_all [Pg.err, Pg.ok, cellsB, isVal, wi] <;> grind)
 refine gF rfl ?_
 refine gF rfl ?_
 refine gF rfl ?_
 refine pP (Y.pickT rfl rfl) rfl ?_
 refine pM rfl rfl ?_
 refine gF rfl ?_
 refine gF rfl ?_
 refine gF rfl ?_
 refine pP (Y.pickT rfl rfl) rfl ?_
 refine nN ?_
 refine WC.condT rfl ?_
 refine sR ?_
 refine pA rfl rfl ?_
 refine nN ?_
 refine WC.ret ?_
 refine WQ.thenRet ?_
 refine dn1 Try.results50 rfl (fun a w s => ?_)
 · refine ⟨?_, s.low⟩
   clear s
   simp only [packed]
   (simp_all [Pg.err, Pg.ok, cellsB, isVal, wi] <;> grind)

def Pg.cl (p : Pg) : List Value := [.int .i64 p.c0, .int .i64 p.c1, .int .i64 p.c2, .int .i64 p.last]
theorem pcl_len (p : Pg) : p.cl.length = 4 := rfl
theorem put_pc (p : Pg) (c v : Int) (hc : 0 ≤ c ∧ c ≤ 2) : put p.cl (0 + 0 + c.toNat * 1) [.int .i64 v] = (p.put c v p.last).cl := by
  have h2 : c = 0 ∨ c = 1 ∨ c = 2 := by omega
  rcases h2 with rfl | rfl | rfl <;> rfl
theorem put_pl (p : Pg) (c v n : Int) : put (p.put c v p.last).cl (0 + 3) [.int .i64 n] = (p.put c v n).cl := by
  unfold Pg.put; split
  · rfl
  · split <;> rfl

theorem set_err {p : Pg} {cell v n : Int} (h : (p.err != 0) = true) : (Value.tuple #[(setOf p cell v n).1.val, .int .i64 (setOf p cell v n).2]) = .tuple #[Pg.zero.val, .int .i64 p.err] := by
  have : p.ok = false := by
    cases hp : p.ok
    · rfl
    · simp [Pg.err, hp] at h
  simp [setOf, Pg.err, this]
theorem set_bad {p : Pg} {cell v n : Int} (h : setArgs cell v n = false) : setOf p cell v n = (Pg.zero, 3) := by
  simp [setOf, h]
theorem set_good {p : Pg} {cell v n : Int} (h : (p.err != 0) = false) (ha : setArgs cell v n = true) : setOf p cell v n = (p.put cell v n, 0) := by
  have : p.ok = true := by
    cases hp : p.ok
    · simp [Pg.err, hp] at h
    · rfl
  simp [setOf, ha, this]

theorem w_set (p : Pg) (cell v n : Int) (w : World) : Ret Try.prog 47 [p.val, .int .i64 cell, .int .i64 v, .int .i64 n] w (.tuple #[(setOf p cell v n).1.val, .int .i64 (setOf p cell v n).2]) := by
 refine enter Try.func47 rfl Try.ntmps47 rfl SF.top trivial ?_
 refine sR ?_
 refine WL.eff (E.box rfl rfl rfl) rfl (fun b1 => ?_)
 refine WL.eff (E.alloc Try.zeroValue24 rfl rfl) rfl (fun b2 => ?_)
 refine pA rfl rfl ?_
 refine nN ?_
 refine WC.seq ?_
 refine sR ?_
 refine pV (Y.loadA wd_24 rfl m1 rfl) rfl ?_
 refine WL.eff (E.call Try.call50 rfl (fun _ w s => w_pageCheck p w) rfl) rfl (fun _ => ?_)
 refine pA rfl rfl ?_
 refine nN ?_
 refine sR ?_
 refine pM rfl rfl ?_
 refine pP (Y.neq rfl rfl) rfl ?_
 refine nN ?_
 refine WC.cond rfl (fun h14 => ?_) (fun h14 => ?_)
 refine sR ?_
 refine pP (Y.build rfl (bf_24 )) rfl ?_
 refine pM rfl rfl ?_
 refine WL.eff (E.store Try.sizeOf24 rfl rfl rfl rfl rfl u0 rfl rfl) rfl (fun _ => ?_)
 refine pA rfl rfl ?_
 refine nN ?_
 refine WC.ret ?_
 refine WQ.thenRet ?_
 refine WQ.done Try.results47 (RVs.cons (RV.cell wd_24 rfl m0 rfl) (RVs.cons (RV.tmp rfl) RVs.nil)) (fun a w s => ?_)
 · refine ⟨?_, s.low⟩
   clear s
   simp only [packed]
   rw [set_err h14]; rfl
 refine WC.skip' ?_
 refine WQ.next ?_
 refine WC.seq ?_
 refine sR ?_
 refine pM rfl rfl ?_
 refine pP (Y.lss rfl rfl) rfl ?_
 refine pM rfl rfl ?_
 refine WL.split (t := 19) rfl (fun r h19 => ?_)
 cases r
 refine gT rfl ?_
 refine pM rfl rfl ?_
 refine gT rfl ?_
 refine pP (Y.geq rfl rfl) rfl ?_
 refine pP (Y.pickF rfl rfl) rfl ?_
 refine pM rfl rfl ?_
 refine WL.split (t := 23) rfl (fun r h23 => ?_)
 cases r
 refine gT rfl ?_
 refine pM rfl rfl ?_
 refine gT rfl ?_
 refine WL.eff (E.call Try.call43 rfl (fun _ w s => w_val v w) rfl) rfl (fun _ => ?_)
 refine gT rfl ?_
 refine pP (Y.not rfl) rfl ?_
 refine pP (Y.pickF rfl rfl) rfl ?_
 refine pM rfl rfl ?_
 refine WL.split (t := 28) rfl (fun r h28 => ?_)
 cases r
 refine gT rfl ?_
 refine pM rfl rfl ?_
 refine gT rfl ?_
 refine pP (Y.lss rfl rfl) rfl ?_
 refine pP (Y.pickF rfl rfl) rfl ?_
 refine pM rfl rfl ?_
 refine WL.split (t := 32) rfl (fun r h32 => ?_)
 cases r
 refine gT rfl ?_
 refine pM rfl rfl ?_
 refine gT rfl ?_
 refine pP (Y.gtr rfl rfl) rfl ?_
 refine pP (Y.pickF rfl rfl) rfl ?_
 refine nN ?_
 refine WC.cond rfl (fun h35 => ?_) (fun h35 => ?_)
 refine sR ?_
 refine pP (Y.build rfl (bf_24 )) rfl ?_
 refine WL.eff (E.store Try.sizeOf24 rfl rfl rfl rfl rfl u0 rfl rfl) rfl (fun _ => ?_)
 refine pA rfl rfl ?_
 refine nN ?_
 refine WC.ret ?_
 refine WQ.thenRet ?_
 refine WQ.done Try.results47 (RVs.cons (RV.cell wd_24 rfl m0 rfl) (RVs.cons (RV.tmp rfl) RVs.nil)) (fun a w s => ?_)
 · refine ⟨?_, s.low⟩
   clear s
   simp only [packed]
   rw [set_bad (by simp [setArgs, wi] at *; omega)]
   rfl
 refine WC.skip' ?_
 refine WQ.next ?_
 refine WC.seq ?_
 have hp : 0 ≤ cell ∧ cell ≤ 2 := by simp at *; omega
 refine WC.region ?_
 refine pM rfl rfl ?_
 refine pM rfl rfl ?_
 refine pM rfl rfl ?_
 refine pP (Y.fieldAddr fa_24_0 rfl) rfl ?_
 refine pP (Y.ixArr Try.underlying22 Try.sizeOf3 rfl rfl hp.1 (by omega)) rfl ?_
 refine WL.eff (E.storeP Try.sizeOf3 rfl rfl rfl rfl rfl (by repeat (first | exact Upd.here | apply Upd.there)) (by rw [pcl_len]; omega) (put_pc _ _ _ hp)) rfl (fun _ => ?_)
 refine pP (Y.fieldAddr fa_24_1 rfl) rfl ?_
 refine WL.eff (E.storeP Try.sizeOf3 rfl rfl rfl rfl rfl (by repeat (first | exact Upd.here | apply Upd.there)) (by rw [pcl_len]; omega) (put_pl _ _ _ _)) rfl (fun _ => ?_)
 refine nN ?_
 refine sR ?_
 refine pV (Y.loadA wd_24 rfl m1 rfl) rfl ?_
 refine WL.eff (E.store Try.sizeOf24 rfl rfl rfl rfl rfl u0 rfl rfl) rfl (fun _ => ?_)
 refine pA rfl rfl ?_
 refine nN ?_
 refine WC.ret ?_
 refine WQ.done Try.results47 (RVs.cons (RV.cell wd_24 rfl m0 rfl) (RVs.cons (RV.tmp rfl) RVs.nil)) (fun a w s => ?_)
 · refine ⟨?_, s.low⟩
   clear s
   simp only [packed]
   rw [set_good h14 (by simp [setArgs, wi] at *; omega)]
   rfl
 refine gF rfl ?_
 refine gF rfl ?_
 refine pP (Y.pickT rfl rfl) rfl ?_
 refine nN ?_
 refine WC.condT rfl ?_
 refine sR ?_
 refine pP (Y.build rfl (bf_24 )) rfl ?_
 refine WL.eff (E.store Try.sizeOf24 rfl rfl rfl rfl rfl u0 rfl rfl) rfl (fun _ => ?_)
 refine pA rfl rfl ?_
 refine nN ?_
 refine WC.ret ?_
 refine WQ.thenRet ?_
 refine WQ.done Try.results47 (RVs.cons (RV.cell wd_24 rfl m0 rfl) (RVs.cons (RV.tmp rfl) RVs.nil)) (fun a w s => ?_)
 · refine ⟨?_, s.low⟩
   clear s
   simp only [packed]
   rw [set_bad (by simp [setArgs, wi] at *; omega)]
   rfl
 refine gF rfl ?_
 refine gF rfl ?_
 refine pP (Y.pickT rfl rfl) rfl ?_
 refine pM rfl rfl ?_
 refine gF rfl ?_
 refine gF rfl ?_
 refine pP (Y.pickT rfl rfl) rfl ?_
 refine nN ?_
 refine WC.condT rfl ?_
 refine sR ?_
 refine pP (Y.build rfl (bf_24 )) rfl ?_
 refine WL.eff (E.store Try.sizeOf24 rfl rfl rfl rfl rfl u0 rfl rfl) rfl (fun _ => ?_)
 refine pA rfl rfl ?_
 refine nN ?_
 refine WC.ret ?_
 refine WQ.thenRet ?_
 refine WQ.done Try.results47 (RVs.cons (RV.cell wd_24 rfl m0 rfl) (RVs.cons (RV.tmp rfl) RVs.nil)) (fun a w s => ?_)
 · refine ⟨?_, s.low⟩
   clear s
   simp only [packed]
   rw [set_bad (by simp [setArgs, wi] at *; omega)]
   rfl
 refine gF rfl ?_
 refine gF rfl ?_
 refine gF rfl ?_
 refine pP (Y.pickT rfl rfl) rfl ?_
 refine pM rfl rfl ?_
 refine gF rfl ?_
 refine gF rfl ?_
 refine pP (Y.pickT rfl rfl) rfl ?_
 refine pM rfl rfl ?_
 refine gF rfl ?_
 refine gF rfl ?_
 refine pP (Y.pickT rfl rfl) rfl ?_
 refine nN ?_
 refine WC.condT rfl ?_
 refine sR ?_
 refine pP (Y.build rfl (bf_24 )) rfl ?_
 refine WL.eff (E.store Try.sizeOf24 rfl rfl rfl rfl rfl u0 rfl rfl) rfl (fun _ => ?_)
 refine pA rfl rfl ?_
 refine nN ?_
 refine WC.ret ?_
 refine WQ.thenRet ?_
 refine WQ.done Try.results47 (RVs.cons (RV.cell wd_24 rfl m0 rfl) (RVs.cons (RV.tmp rfl) RVs.nil)) (fun a w s => ?_)
 · refine ⟨?_, s.low⟩
   clear s
   simp only [packed]
   rw [set_bad (by simp [setArgs, wi] at *; omega)]
   rfl
 refine gF rfl ?_
 refine gF rfl ?_
 refine pP (Y.pickT rfl rfl) rfl ?_
 refine pM rfl rfl ?_
 refine gF rfl ?_
 refine gF rfl ?_
 refine gF rfl ?_
 refine pP (Y.pickT rfl rfl) rfl ?_
 refine pM rfl rfl ?_
 refine gF rfl ?_
 refine gF rfl ?_
 refine pP (Y.pickT rfl rfl) rfl ?_
 refine pM rfl rfl ?_
 refine gF rfl ?_
 refine gF rfl ?_
 refine pP (Y.pickT rfl rfl) rfl ?_
 refine nN ?_
 refine WC.condT rfl ?_
 refine sR ?_
 refine pP (Y.build rfl (bf_24 )) rfl ?_
 refine WL.eff (E.store Try.sizeOf24 rfl rfl rfl rfl rfl u0 rfl rfl) rfl (fun _ => ?_)
 refine pA rfl rfl ?_
 refine nN ?_
 refine WC.ret ?_
 refine WQ.thenRet ?_
 refine WQ.done Try.results47 (RVs.cons (RV.cell wd_24 rfl m0 rfl) (RVs.cons (RV.tmp rfl) RVs.nil)) (fun a w s => ?_)
 · refine ⟨?_, s.low⟩
   clear s
   simp only [packed]
   rw [set_bad (by simp [setArgs, wi] at *; omega)]
   rfl

end Go.Proofs.Ytmfjhacgpopijaa
end
section
set_option linter.unusedVariables false
set_option linter.unusedSimpArgs false
set_option linter.unusedSectionVars false
namespace Go.Proofs.Ytmfjhacgpopijaa
theorem cnt_last : ∀ {h : List R} {t : Int}, lastN h t = 0 → ∀ k, cnt h t k = 0
  | [], _, _, _ => rfl
  | r :: h, t, hn, k => by
    unfold lastN at hn
    split at hn
    · omega
    · rename_i hne
      simp [cnt, hne, cnt_last hn k]
theorem wrs_last : ∀ {h : List R} {t : Int}, lastN h t = 0 → wrs h t = []
  | [], _, _ => rfl
  | r :: h, t, hn => by
    unfold lastN at hn
    split at hn
    · omega
    · rename_i hne
      simp [wrs, hne, wrs_last hn]
theorem stt_cnt {h : List R} {t : Int} : (stt h t ≠ 4 → cnt h t 4 = 0) ∧ (stt h t ≠ 4 → stt h t ≠ 2 → cnt h t 2 = 0) ∧ (stt h t ≠ 4 → stt h t ≠ 2 → stt h t ≠ 3 → cnt h t 3 = 0) := by
  unfold stt
  split
  · rename_i h0
    have := cnt_last h0
    simp [this]
  · split
    · simp
    · split
      · simp; omega
      · split
        · simp; omega
        · simp; omega
/-- What a right record may be, told by how far its Txn is. -/
theorem follows_st {h : List R} {r : R} (hf : follows h r = true) : r.prev = lastN h r.txn ∧ stt h r.txn ≠ 4 ∧ (stt h r.txn = 2 → r.kind = 4) ∧ (stt h r.txn = 3 → r.kind = 3 ∨ r.kind = 4) := by
  unfold follows at hf
  split at hf
  · cases hf
  · rename_i hc
    simp only [Bool.or_eq_true, Bool.and_eq_true, bne_iff_ne, beq_iff_eq, ne_eq, not_or, not_and, Decidable.not_not] at hc
    refine ⟨hc.1, hc.2.1, fun h2 => hc.2.2.1 h2, fun h3 => ?_⟩
    by_cases h4 : r.kind = 3
    · exact .inl h4
    · exact .inr (hc.2.2.2 h3 h4)
theorem Right.st : ∀ {h : List R}, Right h → ∀ t, stB h t = (stt h t : Int)
  | [], _, t => rfl
  | r :: h, hr, t => by
    obtain ⟨h1, h2, h3⟩ := hr.parts
    have ih := h1.st t
    have hb := rec_bounds h2
    by_cases ht : r.txn = t
    · subst ht
      obtain ⟨_, f1, f2, f3⟩ := follows_st h3
      obtain ⟨c1, c2, c3⟩ := stt_cnt (h := h) (t := r.txn)
      have hk : r.kind = 1 ∨ r.kind = 2 ∨ r.kind = 3 ∨ r.kind = 4 := by omega
      have e4 := c1 f1
      unfold stB stt
      simp only [lastN, cnt, if_true, true_and]
      rw [if_neg (by omega)]
      rcases hk with hk | hk | hk | hk
      · have e2 := c2 f1 (fun h => by have := f2 h; omega)
        have e3 := c3 f1 (fun h => by have := f2 h; omega) (fun h => by have := f3 h; omega)
        simp [hk, e4, e2, e3]
      · simp [hk, e4, Nat.add_pos_left]
      · have e2 := c2 f1 (fun h => by have := f2 h; omega)
        simp [hk, e4, e2, Nat.add_pos_left]
      · simp [hk, Nat.add_pos_left]
    · have e : stt (r :: h) t = stt h t := by
        unfold stt
        simp only [lastN, cnt, if_neg ht, ht, false_and, if_false, Nat.zero_add]
      rw [e, ← ih]
      simp [stB, ht]
theorem stt_cons {h : List R} {r : R} (hr : Right (r :: h)) : (stt (r :: h) r.txn : Int) = r.kind := by
  rw [← hr.st]; simp [stB]
theorem Right.up : ∀ {h : List R}, Right h → ∀ t, upB h t = if stt h t = 4 then [] else ups h t
  | [], _, t => by simp [upB, stt, ups, wrs]
  | r :: h, hr, t => by
    obtain ⟨h1, h2, h3⟩ := hr.parts
    have ih := h1.up t
    have hb := rec_bounds h2
    by_cases ht : r.txn = t
    · subst ht
      have hst := stt_cons hr
      obtain ⟨_, f1, f2, f3⟩ := follows_st h3
      obtain ⟨c1, c2, c3⟩ := stt_cnt (h := h) (t := r.txn)
      rw [if_neg f1] at ih
      have hk : r.kind = 1 ∨ r.kind = 2 ∨ r.kind = 3 ∨ r.kind = 4 := by omega
      rcases hk with hk | hk | hk | hk
      · have e3 := c3 f1 (fun h => by have := f2 h; omega) (fun h => by have := f3 h; omega)
        have hne : stt (r :: h) r.txn ≠ 4 := by omega
        rw [if_neg hne]
        simp only [upB, ups, wrs, cnt, hk, and_self, if_true, ih, e3]
        simp
      · have hne : stt (r :: h) r.txn ≠ 4 := by omega
        rw [if_neg hne]
        simp [upB, ups, wrs, cnt, hk, ih]
      · have hne : stt (r :: h) r.txn ≠ 4 := by omega
        rw [if_neg hne]
        simp [upB, ups, wrs, cnt, hk, ih, Nat.add_comm]
      · have he : stt (r :: h) r.txn = 4 := by omega
        rw [if_pos he]
        simp [upB, hk]
    · have e : stt (r :: h) t = stt h t := by
        unfold stt
        simp only [lastN, cnt, if_neg ht, ht, false_and, if_false, Nat.zero_add]
      rw [e]
      simp [upB, ht, ih, ups, wrs, cnt]
theorem recAt_old {h : List R} {r : R} {n : Nat} (h1 : 1 ≤ n) (hn : n ≤ h.length) : recAt (r :: h) n = recAt h n := by
  unfold recAt
  rw [List.reverse_cons, List.getElem?_append_left (by simp; omega)]
theorem recAt_new (h : List R) (r : R) : recAt (r :: h) (h.length + 1) = r := by
  unfold recAt
  simp
theorem hasCell_old {h : List R} {r : R} {n : Nat} (h1 : 1 ≤ n) (hn : n ≤ h.length) (p c : Int) : hasCell (r :: h) p c n = hasCell h p c n := by
  unfold hasCell; rw [recAt_old h1 hn]
theorem upB_bnd : ∀ {h : List R} {t : Int} {n : Nat}, n ∈ upB h t → 1 ≤ n ∧ n ≤ h.length
  | [], _, _, hn => by cases hn
  | r :: h, t, n, hn => by
    unfold upB at hn
    have key : ∀ n ∈ upB h t, 1 ≤ n ∧ n ≤ (r :: h).length := fun n hn => by have := upB_bnd hn; simp; omega
    split at hn
    · split at hn
      · rcases List.mem_cons.1 hn with rfl | hn
        · simp
        · exact key n hn
      · split at hn
        · exact key n (List.mem_of_mem_tail hn)
        · split at hn
          · cases hn
          · exact key n hn
    · exact key n hn
theorem any_congr {α : Type} {f g : α → Bool} : ∀ {l : List α}, (∀ x ∈ l, f x = g x) → l.any f = l.any g
  | [], _ => rfl
  | x :: l, h => by
    rw [List.any_cons, List.any_cons, h x (List.Mem.head _), any_congr fun y hy => h y (List.Mem.tail _ hy)]
theorem any_old {h : List R} {r : R} {l : List Nat} {t : Int} (hs : ∀ n ∈ l, n ∈ upB h t) (p c : Int) : l.any (hasCell (r :: h) p c) = l.any (hasCell h p c) :=
  any_congr fun n hn => hasCell_old (upB_bnd (hs n hn)).1 (upB_bnd (hs n hn)).2 p c
theorem holds_up {h : List R} (hr : Right h) (p c t : Int) : holdsCell h p c t = (upB h t).any (hasCell h p c) := by
  unfold holdsCell
  rw [hr.up t]
  by_cases h4 : stt h t = 4 <;> simp [h4]
theorem taken_iff {h : List R} (hr : Right h) {t p c : Int} : taken h t p c = true ↔ ∃ u, 1 ≤ u ∧ u ≤ 9 ∧ u ≠ t ∧ (upB h u).any (hasCell h p c) = true := by
  unfold taken
  rw [List.any_eq_true]
  constructor
  · rintro ⟨u, hu, h1⟩
    rw [Bool.and_eq_true, bne_iff_ne, holds_up hr] at h1
    refine ⟨u, ?_, ?_, h1.1, h1.2⟩ <;> · simp at hu; omega
  · rintro ⟨u, h1, h2, h3, h4⟩
    refine ⟨u, ?_, ?_⟩
    · have : u = 1 ∨ u = 2 ∨ u = 3 ∨ u = 4 ∨ u = 5 ∨ u = 6 ∨ u = 7 ∨ u = 8 ∨ u = 9 := by omega
      simpa using this
    · rw [Bool.and_eq_true, bne_iff_ne, holds_up hr]
      exact ⟨h3, h4⟩
theorem Right.own : ∀ {h : List R}, Right h → ∀ p c, (ownB h p c = 0 ∨ (1 ≤ ownB h p c ∧ ownB h p c ≤ 9)) ∧ ∀ u, (upB h u).any (hasCell h p c) = true ↔ (ownB h p c = u ∧ u ≠ 0)
  | [], _, p, c => by simp [ownB, upB]
  | r :: h, hr, p, c => by
    obtain ⟨h1, h2, h3⟩ := hr.parts
    obtain ⟨i1, i2⟩ := h1.own p c
    have hb := rec_bounds h2
    have hk : r.kind = 1 ∨ r.kind = 2 ∨ r.kind = 3 ∨ r.kind = 4 := by omega
    have other : ∀ u, r.txn ≠ u → (upB (r :: h) u).any (hasCell (r :: h) p c) = (upB h u).any (hasCell h p c) := fun u hu => by
      have e : upB (r :: h) u = upB h u := by simp [upB, hu]
      rw [e]
      exact any_old (fun n hn => hn) p c
    rcases hk with hk | hk | hk | hk
    · -- Write
      have eo : ownB (r :: h) p c = if r.page = p ∧ r.cell = c then r.txn else ownB h p c := by simp [ownB, hk]
      have eu : (upB (r :: h) r.txn).any (hasCell (r :: h) p c) = ((r.page == p && r.cell == c) || (upB h r.txn).any (hasCell h p c)) := by
        have e : upB (r :: h) r.txn = (h.length + 1) :: upB h r.txn := by simp [upB, hk]
        rw [e, List.any_cons, any_old (fun n hn => hn) p c]
        unfold hasCell
        rw [recAt_new]
      rw [eo]
      refine ⟨?_, fun u => ?_⟩
      · split
        · right; omega
        · exact i1
      · by_cases hu : r.txn = u
        · subst hu
          rw [eu]
          by_cases hc : r.page = p ∧ r.cell = c
          · obtain ⟨rfl, rfl⟩ := hc
            simp; omega
          · rw [if_neg hc]
            have : (r.page == p && r.cell == c) = false := by
              cases hx : (r.page == p && r.cell == c)
              · rfl
              · simp at hx; exact absurd hx hc
            rw [this, Bool.false_or]
            exact i2 _
        · rw [other u hu]
          by_cases hc : r.page = p ∧ r.cell = c
          · obtain ⟨rfl, rfl⟩ := hc
            rw [if_pos ⟨rfl, rfl⟩]
            have hnt : taken h r.txn r.page r.cell = false := by
              have hf := h3
              unfold follows at hf
              split at hf
              · cases hf
              · try rw [if_pos hk] at hf
                simp at hf
                exact hf.2
            constructor
            · intro ha
              obtain ⟨h5, h6⟩ := (i2 u).1 ha
              have : taken h r.txn r.page r.cell = true := (taken_iff h1).2 ⟨u, by omega, by omega, fun e => hu e.symm, ha⟩
              rw [hnt] at this; cases this
            · rintro ⟨e, _⟩
              exact absurd e hu
          · rw [if_neg hc]
            exact i2 u
    · -- Commit
      have eo : ownB (r :: h) p c = ownB h p c := by simp [ownB, hk]
      rw [eo]
      refine ⟨i1, fun u => ?_⟩
      by_cases hu : r.txn = u
      · subst hu
        have e : upB (r :: h) r.txn = upB h r.txn := by simp [upB, hk]
        rw [e, any_old (fun n hn => hn) p c]
        exact i2 _
      · rw [other u hu]; exact i2 u
    · have eo : ownB (r :: h) p c = if ownB h p c = r.txn ∧ (upB (r :: h) r.txn).any (hasCell (r :: h) p c) = false then 0 else ownB h p c := by simp [ownB, hk]
      have es : ∀ n ∈ upB (r :: h) r.txn, n ∈ upB h r.txn := fun n hn => by
        have e : upB (r :: h) r.txn = (upB h r.txn).tail := by simp [upB, hk]
        rw [e] at hn
        exact List.mem_of_mem_tail hn
      exact back i1 i2 other eo es (by omega)
    · have eo : ownB (r :: h) p c = if ownB h p c = r.txn ∧ (upB (r :: h) r.txn).any (hasCell (r :: h) p c) = false then 0 else ownB h p c := by simp [ownB, hk]
      have es : ∀ n ∈ upB (r :: h) r.txn, n ∈ upB h r.txn := fun n hn => by
        have e : upB (r :: h) r.txn = [] := by simp [upB, hk]
        rw [e] at hn
        cases hn
      exact back i1 i2 other eo es (by omega)
  where
  back {r : R} {h : List R} {p c : Int} (i1 : ownB h p c = 0 ∨ (1 ≤ ownB h p c ∧ ownB h p c ≤ 9)) (i2 : ∀ u, (upB h u).any (hasCell h p c) = true ↔ (ownB h p c = u ∧ u ≠ 0))
      (other : ∀ u, r.txn ≠ u → (upB (r :: h) u).any (hasCell (r :: h) p c) = (upB h u).any (hasCell h p c))
      (eo : ownB (r :: h) p c = if ownB h p c = r.txn ∧ (upB (r :: h) r.txn).any (hasCell (r :: h) p c) = false then 0 else ownB h p c)
      (es : ∀ n ∈ upB (r :: h) r.txn, n ∈ upB h r.txn) (ht : r.txn ≠ 0) : (ownB (r :: h) p c = 0 ∨ (1 ≤ ownB (r :: h) p c ∧ ownB (r :: h) p c ≤ 9)) ∧ ∀ u, (upB (r :: h) u).any (hasCell (r :: h) p c) = true ↔ (ownB (r :: h) p c = u ∧ u ≠ 0) := by
    rw [eo]
    refine ⟨by split <;> omega, fun u => ?_⟩
    by_cases hu : r.txn = u
    · subst hu
      cases ha : (upB (r :: h) r.txn).any (hasCell (r :: h) p c)
      · simp only [and_true]
        constructor
        · intro h; cases h
        · rintro ⟨h1, h2⟩
          split at h1
          · omega
          · rename_i hne; exact absurd h1 hne
      · simp only [Bool.true_eq_false, and_false, if_false, true_iff]
        rw [any_old es p c] at ha
        obtain ⟨n, hn, hc⟩ := List.any_eq_true.1 ha
        exact (i2 _).1 (List.any_eq_true.2 ⟨n, es n hn, hc⟩)
    · rw [other u hu, i2 u]
      constructor
      · rintro ⟨rfl, h2⟩
        rw [if_neg (fun h => hu h.1.symm)]
        exact ⟨rfl, h2⟩
      · rintro ⟨h1, h2⟩
        split at h1
        · omega
        · exact ⟨h1, h2⟩
theorem own_free {h : List R} (hr : Right h) {t p c : Int} (ht : 1 ≤ t ∧ t ≤ 9) : (ownB h p c == 0 || ownB h p c == t) = !taken h t p c := by
  obtain ⟨i1, i2⟩ := hr.own p c
  cases hk : taken h t p c
  · have hn : ¬ ∃ u, 1 ≤ u ∧ u ≤ 9 ∧ u ≠ t ∧ (upB h u).any (hasCell h p c) = true := fun hx => by rw [(taken_iff hr).2 hx] at hk; cases hk
    have : ownB h p c = 0 ∨ ownB h p c = t := by
      by_cases h0 : ownB h p c = 0
      · exact .inl h0
      · by_cases h1 : ownB h p c = t
        · exact .inr h1
        · exact absurd ⟨ownB h p c, by omega, by omega, h1, (i2 _).2 ⟨rfl, h0⟩⟩ hn
    simpa using this
  · obtain ⟨u, h1, h2, h3, h4⟩ := (taken_iff hr).1 hk
    obtain ⟨e, _⟩ := (i2 u).1 h4
    rw [e]
    simp; omega
theorem ups_none {h : List R} {t : Int} (h0 : stt h t = 0) : ups h t = [] := by
  have : lastN h t = 0 := by
    unfold stt at h0
    split at h0
    · assumption
    · repeat' split at h0
      all_goals omega
  simp [ups, wrs_last this]
/-- The program's test is the document's. -/
theorem Right.fits {h : List R} {r : R} (hr : Right h) (he : recErr (h.length + 1) r = 0) : fits h r = follows h r := by
  have hb := rec_bounds he
  have hk : r.kind = 1 ∨ r.kind = 2 ∨ r.kind = 3 ∨ r.kind = 4 := by omega
  have hs := hr.st r.txn
  have hu := hr.up r.txn
  have hs4 : stt h r.txn ≤ 4 := by
    unfold stt
    repeat' split
    all_goals omega
  unfold Proofs.Ytmfjhacgpopijaa.fits follows
  by_cases hp : r.prev = lastN h r.txn
  rotate_left
  · simp [hp]
  simp only [hp, bne_self_eq_false, Bool.false_eq_true, if_false, Bool.false_or]
  rw [hs]
  generalize hS : stt h r.txn = S at *
  rcases hk with hk | hk | hk | hk
  · simp only [hk]
    rw [own_free hr ⟨by omega, by omega⟩]
    have : S = 0 ∨ S = 1 ∨ S = 2 ∨ S = 3 ∨ S = 4 := by omega
    rcases this with rfl | rfl | rfl | rfl | rfl <;> simp
  · simp only [hk]
    have : S = 0 ∨ S = 1 ∨ S = 2 ∨ S = 3 ∨ S = 4 := by omega
    rcases this with rfl | rfl | rfl | rfl | rfl <;> simp
  · simp only [hk]
    have : S = 0 ∨ S = 1 ∨ S = 2 ∨ S = 3 ∨ S = 4 := by omega
    have key : S ≠ 4 → (!(upB h r.txn).isEmpty && decide (r = undoB h r.txn)) = (match ups h r.txn with
        | [] => false
        | n :: _ => r.page == (recAt h n).page && (r.cell == (recAt h n).cell && (r.old == (recAt h n).new && (r.new == (recAt h n).old && r.next == (recAt h n).prev)))) := by
      intro h4
      rw [if_neg h4] at hu
      unfold undoB
      rw [hu]
      cases ups h r.txn with
      | nil => rfl
      | cons n l =>
        simp only [List.isEmpty_cons, Bool.not_false, Bool.true_and]
        obtain ⟨k, t, p, pg, c, o, nw, nx⟩ := r
        simp only at hk hp
        subst hk
        unfold backOf
        simp only [R.mk.injEq, true_and, hp]
        by_cases e1 : pg = (recAt h n).page <;> by_cases e2 : c = (recAt h n).cell <;> by_cases e3 : o = (recAt h n).new <;> by_cases e4 : nw = (recAt h n).old <;> by_cases e5 : nx = (recAt h n).prev <;> simp [e1, e2, e3, e4, e5]
    rcases this with rfl | rfl | rfl | rfl | rfl
    · have := key (by omega)
      rw [ups_none hS] at this
      simp [this, ups_none hS]
    · have := key (by omega)
      simp [this]
      cases ups h r.txn <;> rfl
    · simp
    · have := key (by omega)
      simp [this]
      cases ups h r.txn <;> rfl
    · simp
  · simp only [hk]
    have : S = 0 ∨ S = 1 ∨ S = 2 ∨ S = 3 ∨ S = 4 := by omega
    rcases this with rfl | rfl | rfl | rfl | rfl <;> simp_all
/-! ### Pages -/
def P3.ok (p : P3) : Bool := p.p0.ok && (p.p1.ok && p.p2.ok)
theorem P3.ok_get {p : P3} (h : p.ok = true) (i : Int) : (p.get i).ok = true := by
  simp only [P3.ok, Bool.and_eq_true] at h
  unfold P3.get
  split
  · exact h.1
  · split
    · exact h.2.1
    · exact h.2.2
theorem P3.ok_set {p : P3} (h : p.ok = true) (i : Int) {x : Pg} (hx : x.ok = true) : (p.set i x).ok = true := by
  simp only [P3.ok, Bool.and_eq_true] at h ⊢
  unfold P3.set
  split
  · exact ⟨hx, h.2⟩
  · split
    · exact ⟨h.1, hx, h.2.2⟩
    · exact ⟨h.1, h.2.1, hx⟩
theorem Pg.ok_put {p : Pg} (h : p.ok = true) {c v n : Int} (hv : 0 ≤ v ∧ v ≤ 99) (hn : 0 ≤ n ∧ n ≤ 60) : (p.put c v n).ok = true := by
  simp only [Pg.ok, cellsB, Bool.and_eq_true, wi_iff] at h ⊢
  unfold Pg.put
  split
  · exact ⟨⟨hv, h.1.2⟩, hn⟩
  · split
    · exact ⟨⟨h.1.1, hv, h.1.2.2⟩, hn⟩
    · exact ⟨⟨h.1.1, h.1.2.1, hv⟩, hn⟩
theorem Right.pok : ∀ {h : List R}, Right h → (pagesOf h).ok = true
  | [], _ => rfl
  | r :: h, hr => by
    obtain ⟨h1, h2, _⟩ := hr.parts
    have ih := h1.pok
    have hb := rec_bounds h2
    unfold pagesOf
    split
    · rename_i ht
      have := hb.2.2.2.2.2.2.2.2.1 ht
      exact P3.ok_set ih _ (Pg.ok_put (P3.ok_get ih _) this.2.2.2 (by omega))
    · exact ih
end Go.Proofs.Ytmfjhacgpopijaa
end
