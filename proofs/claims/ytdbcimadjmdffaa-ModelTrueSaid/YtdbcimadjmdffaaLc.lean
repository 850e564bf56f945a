/- Logs: what the document says of the next record. No condition. -/
import Derived.Test.YtdbcimadjmdffaaLb
import Derived.Test.YtdbcimadjmdffaaRb
set_option maxRecDepth 100000
set_option linter.unusedVariables false
set_option linter.unusedSimpArgs false
set_option linter.unusedSectionVars false
set_option maxHeartbeats 4000000
namespace Go.Proofs.Ytdbcimadjmdffaa
open Go.RowKit Go.Joins
theorem taken_true {h : List R} {t p q : Int} {u : Nat} (hu : u < 9) (hh : ((u : Int) + 1 != t && holdsCell h p q ((u : Int) + 1)) = true) : taken h t p q = true := by
  unfold taken
  rw [List.any_eq_true]
  refine ⟨(u : Int) + 1, ?_, hh⟩
  have : u = 0 ∨ u = 1 ∨ u = 2 ∨ u = 3 ∨ u = 4 ∨ u = 5 ∨ u = 6 ∨ u = 7 ∨ u = 8 := by omega
  rcases this with rfl | rfl | rfl | rfl | rfl | rfl | rfl | rfl | rfl <;> simp
theorem taken_false {h : List R} {t p q : Int} (hh : ∀ u : Nat, u < 9 → ((u : Int) + 1 != t && holdsCell h p q ((u : Int) + 1)) = false) : taken h t p q = false := by
  have e : ∀ x ∈ [(1 : Int), 2, 3, 4, 5, 6, 7, 8, 9], (x != t && holdsCell h p q x) = false := by
    intro x hx
    have h2 := hh (x - 1).toNat (by simp at hx; omega)
    have h3 : (((x - 1).toNat : Nat) : Int) + 1 = x := by simp at hx; omega
    rw [h3] at h2
    exact h2
  unfold taken
  cases hc : [(1 : Int), 2, 3, 4, 5, 6, 7, 8, 9].any fun u => u != t && holdsCell h p q u
  · rfl
  · obtain ⟨x, hx, h1⟩ := List.any_eq_true.1 hc
    rw [e x hx] at h1
    cases h1
theorem i64_sub1 {m : Nat} (h1 : 1 ≤ m) (h2 : m ≤ 9000) : IntKind.i64.wrap ((m : Int) - 1) = ((m - 1 : Nat) : Int) := by
  rw [i64_in (by omega) (by omega)]; omega
theorem nums_get {l : List Nat} {j m : Nat} (h : l[j]? = some m) : (nums l)[j]? = some (.int .i64 (m : Int)) := by simp [nums, h]
theorem recAt_rev {l : List R} {m : Nat} {r : R} (h : l[m - 1]? = some r) : recAt l.reverse m = r := by simp [recAt, h]
theorem any_take {l : List Nat} {f : Nat → Bool} {j m : Nat} (h : ∀ x ∈ l.take j, f x = false) (hm : l[j]? = some m) (hf : f m = false) : ∀ x ∈ l.take (j + 1), f x = false := by
  obtain ⟨hl, he⟩ := List.getElem?_eq_some_iff.1 hm
  rw [List.take_succ_eq_append_getElem hl]
  intro x hx
  rcases List.mem_append.1 hx with hx | hx
  · exact h x hx
  · simp at hx; subst hx; rw [he]; exact hf
theorem holds_no {h : List R} {p q u : Int} (hh : ∀ x ∈ (ups h u).reverse.take (ups h u).length, hasCell h p q x = false) : holdsCell h p q u = false := by
  unfold holdsCell
  rw [Bool.and_eq_false_iff]
  right
  rw [List.take_of_length_le (by simp)] at hh
  cases hc : (ups h u).any (hasCell h p q)
  · rfl
  · obtain ⟨x, hx, h1⟩ := List.any_eq_true.1 hc
    rw [hh x (List.mem_reverse.2 hx)] at h1
    cases h1
theorem get_of_lt {α : Type} {l : List α} {k : Nat} (h : k < l.length) : ∃ r, l[k]? = some r := ⟨_, List.getElem?_eq_getElem h⟩
theorem step_or {u : Nat} {f : Nat → Bool} (h : ∀ v, v < u → f v = false) (h2 : f u = false) : ∀ v, v < u + 1 → f v = false := by
  intro v hv
  rcases Nat.lt_or_ge v u with h3 | h3
  · exact h v h3
  · have : v = u := by omega
    subst this; exact h2

theorem w_taken (l : List R) (A : Option Addr) (b o c : Nat) (t p q : Int) (w : World) (hl : l.length ≤ 60) (hr : RL w A b o l) (hf : Fit l.reverse) : Ret Try.prog 145 [.slice A l.length c, .int .i64 t, .int .i64 p, .int .i64 q] w (.bool (taken l.reverse t p q)) := by
 refine enter Try.func145 rfl Try.ntmps145 rfl SF.top trivial ?_
 refine WC.seq ?_
 refine WC.region ?_
 refine WL.pure (Y.assign rfl) rfl rfl rfl ?_
 refine WL.nil ?_
 refine WQ.next ?_
 refine WC.seq ?_
 refine WC.seq ?_
 refine WC.region ?_
 refine WL.pure (Y.assign rfl) rfl rfl rfl ?_
 refine WL.nil ?_
 refine WQ.next ?_
 refine WC.block ?_
 refine WC.loop (ι := Nat) (fun u => [(0, .slice A l.length c), (1, .int .i64 t), (2, .int .i64 p), (3, .int .i64 q), (9, .int .i64 ((u : Int) + 1))]) (fun _ => []) (fun _ => SF.top) (fun u => u ≤ 9 ∧ ∀ v : Nat, v < u → ((v : Int) + 1 != t && holdsCell l.reverse p q ((v : Int) + 1)) = false) (fun u => 9 - u) 0 ⟨by omega, fun v hv => by omega⟩ (fun a w s => s.weak (by repeat (first | exact sub_nil _ | refine sub_cons rfl ?_))) (fun u hu => ?_)
 obtain ⟨hu, hI⟩ := hu
 refine WC.seq ?_
 refine WC.seq ?_
 refine WC.region ?_
 refine WL.pure (Y.move rfl) rfl rfl rfl ?_
 refine WL.pure (Y.leq rfl rfl) rfl rfl rfl ?_
 refine WL.nil ?_
 refine WQ.next ?_
 refine WC.cond rfl (fun h13 => ?_) (fun h13 => ?_)
 refine WC.skip' ?_
 refine WQ.next ?_
 refine WC.seq ?_
 refine WC.block ?_
 refine WC.seq ?_
 refine WC.seq ?_
 refine WC.region ?_
 have hu9 : u < 9 := by simp at h13; omega
 refine WL.pure (Y.move rfl) rfl rfl rfl ?_
 refine WL.pure (Y.move rfl) rfl rfl rfl ?_
 refine WL.pure (Y.eql rfl rfl) rfl rfl rfl ?_
 refine WL.pure (Y.move rfl) rfl rfl rfl ?_
 refine WL.split (t := 19) rfl (fun r h19 => ?_)
 cases r
 refine WL.guardT rfl rfl rfl ?_
 refine WL.pure (Y.move rfl) rfl rfl rfl ?_
 refine WL.guardT rfl rfl rfl ?_
 refine WL.pure (Y.move rfl) rfl rfl rfl ?_
 refine WL.guardT rfl rfl rfl ?_
 refine WL.eff (E.call Try.call125 rfl (fun _ w s => w_state l A b o c _ w hl (hr.below s.low)) rfl) rfl (fun _ => ?_)
 refine WL.guardT rfl rfl rfl ?_
 refine WL.pure (Y.eql rfl rfl) rfl rfl rfl ?_
 refine WL.pure (Y.pickF rfl rfl) rfl rfl rfl ?_
 refine WL.nil ?_
 refine WQ.next ?_
 refine WC.cond rfl (fun h24 => ?_) (fun h24 => ?_)
 refine WC.exit ?_
 refine WQ.thenExit ?_
 refine WQ.blockExit ?_
 refine WQ.next ?_
 refine WC.region ?_
 refine WL.pure (Y.move rfl) rfl rfl rfl ?_
 refine WL.pure (Y.add rfl rfl (i64_in (by omega) (by omega))) rfl rfl rfl ?_
 refine WL.pure (Y.assign rfl) rfl rfl rfl ?_
 refine WL.nil ?_
 · refine fun a w s => ⟨u + 1, ⟨by omega, step_or hI ?_⟩, by omega, ?_⟩
   · have e24 : stt l.reverse ((u : Int) + 1) = 4 := by (simp at h24; omega)
     simp only [holdsCell, e24]; simp
   · exact St.weak s (by repeat (first | exact sub_nil _ | refine sub_cons rfl ?_))
 refine WC.skip' ?_
 refine WQ.next ?_
 refine WC.seq ?_
 refine WC.region ?_
 refine WL.pure (Y.move rfl) rfl rfl rfl ?_
 refine WL.pure (Y.move rfl) rfl rfl rfl ?_
 refine WL.eff (E.callF (fun i : Option Addr × Nat => .slice i.1 (ups l.reverse ((u : Int) + 1)).length i.2) (fun i => SF.own w.heap.size 3 1 (.slice i.1 (ups l.reverse ((u : Int) + 1)).length i.2) (ups l.reverse ((u : Int) + 1)).length (nums (ups l.reverse ((u : Int) + 1)).reverse)) Try.call153 rfl (fun _ w s => (w_stands l A b o c ((u : Int) + 1) w hl (hr.below s.low) (hf _)).mono fun e w' ⟨i, he, hb, ho⟩ => ⟨i, he, hb, ownsRow_le ho s.low.size, fun g hg => .inl (ho.lt g hg).1⟩) rfl) rfl (fun i => ?_)
 refine WL.pure (Y.len Try.underlying64 rfl) rfl rfl rfl ?_
 refine WL.pure (Y.move rfl) rfl rfl rfl ?_
 refine WL.nil ?_
 refine WQ.next ?_
 refine WC.block ?_
 have hule := wrs_len l.reverse ((u : Int) + 1)
 have hul : (ups l.reverse ((u : Int) + 1)).length ≤ l.length := by rw [ups_len]; simp at hule; omega
 refine WC.loop (ι := Nat) (fun j => [(0, .slice A l.length c), (1, .int .i64 t), (2, .int .i64 p), (3, .int .i64 q), (9, .int .i64 ((u : Int) + 1)), (27, .slice i.1 (ups l.reverse ((u : Int) + 1)).length i.2), (28, .int .i64 (ups l.reverse ((u : Int) + 1)).length), (29, .int .i64 j)]) (fun _ => []) (fun _ => SF.top.and (SF.own w.heap.size 3 1 (.slice i.1 (ups l.reverse ((u : Int) + 1)).length i.2) (ups l.reverse ((u : Int) + 1)).length (nums (ups l.reverse ((u : Int) + 1)).reverse))) (fun j => j ≤ (ups l.reverse ((u : Int) + 1)).length ∧ ∀ x ∈ (ups l.reverse ((u : Int) + 1)).reverse.take j, hasCell l.reverse p q x = false) (fun j => (ups l.reverse ((u : Int) + 1)).length - j) 0 ⟨Nat.zero_le _, fun x hx => by simp at hx⟩ (fun a w s => s.weak (by repeat (first | exact sub_nil _ | refine sub_cons rfl ?_))) (fun j hj => ?_)
 obtain ⟨hj, hJ⟩ := hj
 refine WC.seq ?_
 refine WC.region ?_
 refine WL.pure (Y.lss rfl rfl) rfl rfl rfl ?_
 refine WL.nil ?_
 refine WQ.next ?_
 refine WC.seq ?_
 refine WC.cond rfl (fun h30 => ?_) (fun h30 => ?_)
 refine WC.skip' ?_
 refine WQ.next ?_
 refine WC.seq ?_
 refine WC.block ?_
 refine WC.seq ?_
 refine WC.region ?_
 have h30 := dec_lt h30
 simp only [if_true] at h30
 obtain ⟨m, hm⟩ := get_of_lt (l := (ups l.reverse ((u : Int) + 1)).reverse) (k := j) (by simpa using h30)
 obtain ⟨hm1, hm2⟩ := ups_le (List.mem_reverse.1 (List.mem_of_getElem? hm))
 rw [List.length_reverse] at hm2
 obtain ⟨r, hk2⟩ := get_of_lt (l := l) (k := m - 1) (by omega)
 refine WL.know (p := ∃ g, i.1 = some ⟨g, 0, none⟩) (fun a w s => by obtain ⟨g, hA, _⟩ := own_cell s.fact.2 (nums_get hm); exact ⟨g, hA⟩) (fun ⟨g, hA⟩ => ?_)
 refine WL.pure (Y.ixSlA Try.underlying64 Try.sizeOf3 rfl rfl hA (nat0 _) (by omega)) rfl rfl rfl ?_
 refine WL.val (Y.loadc fl_3 rfl (v := .int .i64 (m : Int)) (fun a w s => by obtain ⟨g2, hA2, hc⟩ := own_cell s.fact.2 (nums_get hm); cases hA.symm.trans hA2; simpa using hc)) rfl rfl rfl ?_
 refine WL.pure (Y.assign rfl) rfl rfl rfl ?_
 refine WL.nil ?_
 refine WQ.next ?_
 refine WC.seq ?_
 refine WC.region ?_
 refine WL.pure (Y.move rfl) rfl rfl rfl ?_
 refine WL.pure (Y.move rfl) rfl rfl rfl ?_
 refine WL.pure (Y.sub rfl rfl (i64_sub1 hm1 (by omega))) rfl rfl rfl ?_
 refine WL.pure (Y.ixSlA Try.underlying39 Try.sizeOf34 rfl rfl (hr.addr hk2) (nat0 _) (get_ltI hk2)) rfl rfl rfl ?_
 refine WL.pure (Y.fieldAddr fa_34_3 rfl) rfl rfl rfl ?_
 refine WL.val (Y.loadc fl_3 rfl (fun a w s => (hr.below s.low).cell _ _ hk2 3 _ rfl)) rfl rfl rfl ?_
 refine WL.pure (Y.move rfl) rfl rfl rfl ?_
 refine WL.pure (Y.eql rfl rfl) rfl rfl rfl ?_
 refine WL.pure (Y.move rfl) rfl rfl rfl ?_
 refine WL.split (t := 41) rfl (fun r h41 => ?_)
 cases r
 refine WL.guardF rfl rfl rfl rfl rfl rfl ?_
 refine WL.guardF rfl rfl rfl rfl rfl rfl ?_
 refine WL.guardF rfl rfl rfl rfl rfl rfl ?_
 refine WL.guardF rfl rfl rfl rfl rfl rfl ?_
 refine WL.guardF rfl rfl rfl rfl rfl rfl ?_
 refine WL.guardF rfl rfl rfl rfl rfl rfl ?_
 refine WL.guardF rfl rfl rfl rfl rfl rfl ?_
 refine WL.guardF rfl rfl rfl rfl rfl rfl ?_
 refine WL.pure (Y.pickF rfl rfl) rfl rfl rfl ?_
 refine WL.nil ?_
 refine WQ.next ?_
 refine WC.condF rfl ?_
 refine WC.skip' ?_
 refine WQ.blockEnd ?_
 refine WQ.next ?_
 refine WC.region ?_
 refine WL.pure (Y.add rfl rfl (i64_in (by omega) (by omega))) rfl rfl rfl ?_
 refine WL.pure (Y.move rfl) rfl rfl rfl ?_
 refine WL.nil ?_
 · refine fun a w s => ⟨j + 1, ⟨by omega, any_take hJ hm ?_⟩, by omega, s.weak (by repeat (first | exact sub_nil _ | refine sub_cons rfl ?_))⟩
   unfold hasCell
   rw [recAt_rev hk2]
   simp at h41
   first
     | (simp [h41]; done)
     | (simp at h50; simp [h41, h50]; done)
 refine WL.guardT rfl rfl rfl ?_
 refine WL.pure (Y.move rfl) rfl rfl rfl ?_
 refine WL.guardT rfl rfl rfl ?_
 refine WL.pure (Y.move rfl) rfl rfl rfl ?_
 refine WL.guardT rfl rfl rfl ?_
 refine WL.pure (Y.sub rfl rfl (i64_sub1 hm1 (by omega))) rfl rfl rfl ?_
 refine WL.guardT rfl rfl rfl ?_
 refine WL.pure (Y.ixSlA Try.underlying39 Try.sizeOf34 rfl rfl (hr.addr hk2) (nat0 _) (get_ltI hk2)) rfl rfl rfl ?_
 refine WL.guardT rfl rfl rfl ?_
 refine WL.pure (Y.fieldAddr fa_34_4 rfl) rfl rfl rfl ?_
 refine WL.guardT rfl rfl rfl ?_
 refine WL.val (Y.loadc fl_3 rfl (fun a w s => (hr.below s.low).cell _ _ hk2 4 _ rfl)) rfl rfl rfl ?_
 refine WL.guardT rfl rfl rfl ?_
 refine WL.pure (Y.move rfl) rfl rfl rfl ?_
 refine WL.guardT rfl rfl rfl ?_
 refine WL.pure (Y.eql rfl rfl) rfl rfl rfl ?_
 refine WL.pure (Y.pickT rfl rfl) rfl rfl rfl ?_
 refine WL.nil ?_
 refine WQ.next ?_
 refine WC.cond rfl (fun h50 => ?_) (fun h50 => ?_)
 refine WC.seq ?_
 refine WC.region ?_
 refine WL.pure (Y.assign rfl) rfl rfl rfl ?_
 refine WL.nil ?_
 refine WQ.next ?_
 refine WC.ret ?_
 refine WQ.blockRet ?_
 refine WQ.thenRet ?_
 refine WQ.thenRet ?_
 refine WQ.blockRet ?_
 refine WQ.blockRet ?_
 refine WQ.thenRet ?_
 refine WQ.thenRet ?_
 refine WQ.blockRet ?_
 refine WQ.thenRet ?_
 refine WQ.done Try.results145 (RVs.cons (RV.tmp rfl) RVs.nil) (fun a w s => ?_)
 · refine ⟨?_, s.low⟩
   simp only [packed]
   apply retb
   refine (taken_true hu9 ?_).symm
   have e24 : stt l.reverse ((u : Int) + 1) ≠ 4 := by simp at h24; omega
   have hh : (ups l.reverse ((u : Int) + 1)).any (hasCell l.reverse p q) = true := List.any_eq_true.2 ⟨m, List.mem_reverse.1 (List.mem_of_getElem? hm), by unfold hasCell; rw [recAt_rev hk2]; simp at h41 h50; simp [h41, h50]⟩
   simp at h19
   rw [Bool.and_eq_true]
   refine ⟨by simpa using h19, ?_⟩
   unfold holdsCell
   rw [hh, Bool.and_true]
   simpa using e24
 refine WC.skip' ?_
 refine WQ.blockEnd ?_
 refine WQ.next ?_
 refine WC.region ?_
 refine WL.pure (Y.add rfl rfl (i64_in (by omega) (by omega))) rfl rfl rfl ?_
 refine WL.pure (Y.move rfl) rfl rfl rfl ?_
 refine WL.nil ?_
 · refine fun a w s => ⟨j + 1, ⟨by omega, any_take hJ hm ?_⟩, by omega, s.weak (by repeat (first | exact sub_nil _ | refine sub_cons rfl ?_))⟩
   unfold hasCell
   rw [recAt_rev hk2]
   simp at h41
   first
     | (simp [h41]; done)
     | (simp at h50; simp [h41, h50]; done)
 refine WC.exit ?_
 refine WQ.thenExit ?_
 refine WQ.thenExit ?_
 refine WQ.blockExit ?_
 refine WQ.blockEnd ?_
 refine WQ.next ?_
 refine WC.region ?_
 refine WL.pure (Y.move rfl) rfl rfl rfl ?_
 refine WL.pure (Y.add rfl rfl (i64_in (by omega) (by omega))) rfl rfl rfl ?_
 refine WL.pure (Y.assign rfl) rfl rfl rfl ?_
 refine WL.nil ?_
 · refine fun a w s => ⟨u + 1, ⟨by omega, step_or hI ?_⟩, by omega, ?_⟩
   · have h30 := dec_lt h30
     simp only [Bool.false_eq_true, if_false] at h30
     have ej : j = (ups l.reverse ((u : Int) + 1)).length := by omega
     rw [ej] at hJ
     simp only [holds_no hJ, Bool.and_false]
   · exact St.weak s.fst (by repeat (first | exact sub_nil _ | refine sub_cons rfl ?_))
 refine WL.guardF rfl rfl rfl rfl rfl rfl ?_
 refine WL.guardF rfl rfl rfl rfl rfl rfl ?_
 refine WL.guardF rfl rfl rfl rfl rfl rfl ?_
 refine WL.guardF rfl rfl rfl rfl rfl rfl ?_
 refine WL.pure (Y.pickT rfl rfl) rfl rfl rfl ?_
 refine WL.nil ?_
 refine WQ.next ?_
 refine WC.condT rfl ?_
 refine WC.exit ?_
 refine WQ.thenExit ?_
 refine WQ.blockExit ?_
 refine WQ.next ?_
 refine WC.region ?_
 refine WL.pure (Y.move rfl) rfl rfl rfl ?_
 refine WL.pure (Y.add rfl rfl (i64_in (by omega) (by omega))) rfl rfl rfl ?_
 refine WL.pure (Y.assign rfl) rfl rfl rfl ?_
 refine WL.nil ?_
 · refine fun a w s => ⟨u + 1, ⟨by omega, step_or hI ?_⟩, by omega, ?_⟩
   · simp at h19; simp [h19]
   · exact St.weak s (by repeat (first | exact sub_nil _ | refine sub_cons rfl ?_))
 refine WC.exit ?_
 refine WQ.thenExit ?_
 refine WQ.thenExit ?_
 refine WQ.blockExit ?_
 refine WQ.next ?_
 refine WC.seq ?_
 refine WC.region ?_
 refine WL.pure (Y.assign rfl) rfl rfl rfl ?_
 refine WL.nil ?_
 refine WQ.next ?_
 refine WC.ret ?_
 refine WQ.done Try.results145 (RVs.cons (RV.tmp rfl) RVs.nil) (fun a w s => ?_)
 · refine ⟨?_, s.low⟩
   simp only [packed]
   apply retb
   refine (taken_false fun v hv => hI v ?_).symm
   simp at h13
   omega
end Go.Proofs.Ytdbcimadjmdffaa
