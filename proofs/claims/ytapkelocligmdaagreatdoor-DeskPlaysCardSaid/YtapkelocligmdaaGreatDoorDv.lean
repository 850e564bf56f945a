/- Scripts in memory: what is thrown; the library's functions, told of lists of bytes; what of the library's variables must lie there. No condition. -/
import Derived.Test.YtapkelocligmdaaGreatDoorDu
import Derived.Test.YtapkelocligmdaaGreatDoorQ3
import Derived.Lib.AtoiAll
import Derived.Lib.ItoaMem
import Derived.Lib.AppendIntMem
import Derived.Lib.AtoiErrMem
import Derived.Lib.SplitLaws
import Derived.Lib.IndexLaws
set_option linter.unusedVariables false
set_option linter.unusedSimpArgs false
set_option linter.unusedSectionVars false
set_option maxRecDepth 100000
namespace Go.Proofs.YtapkelocligmdaaGreatDoor
open Go.RowKit Go.Joins
/-- What is thrown. -/
def refP (e : Int) : List PanicEntry := [{ v := .iface 60 (.agg #[.int .i64 e]), recovered := false }]
theorem mk_ref (e : Int) (w : World) : (Instr.makeInterface 60 (.agg #[.int .i64 e])).run Tryz.prog w = .ok (.iface 60 (.agg #[.int .i64 e])) w := by kernel_rfl
def Die (P : Program) (f : FuncId) (vs : List Value) (w : World) (e : Int) : Prop := Calls P f vs.toArray w fun r w' => r = .panicked (refP e) ∧ Below w.heap.size w w'
section
variable [Inhabited DSx] {P : Program} {ops : Array Oper} {Q : Exit → Act → World → Prop} {rest : List Oper} {E : Env} {n : Nat} {H H' : Hp} {F F' : SF} {w0 : World}
/-- A call that panics. -/
theorem WL.dead {f : FuncId} {args : Array Operand} {ts : Array TypeId} {d : Option Nat} {T' : TypeId} {p : String} {af : Array Edge} {vs : List Value} {m : Int} (hf : ∀ (args : Array Value) (w : World), (callFunc f args).run P w = .ok (.enter f args) w) (hx : evs E args.toList = some vs)
    (hc : ∀ a w, St E n H F w0 a w → Die P f vs w m) (hq : WQ Q (.panic (refP m)) E n H F w0) :
    WL P ops Q (⟨d, .call { callee := .value (.func f), args := args, argTypes := ts }, T', p, af, none⟩ :: rest) E n H F w0 := fun a w s =>
  wpList_plain rfl fun K hK => by
    unfold Oper.wp
    rw [run_call hf s.env hx, Oper.upon_enter]
    refine (hc a w s).mono fun e w' ⟨he, hb⟩ => ?_
    subst he
    exact hq a w' (s.grow hb)
/-- .. and has turned memory. -/
theorem WL.deadM {κ : Type} {f : FuncId} {args : Array Operand} {ts : Array TypeId} {d : Option Nat} {T' : TypeId} {p : String} {af : Array Edge} {vs : List Value} {m : Int} (Hk : κ → Hp) (Fk : κ → SF) (hf : ∀ (args : Array Value) (w : World), (callFunc f args).run P w = .ok (.enter f args) w) (hx : evs E args.toList = some vs)
    (hc : ∀ w, Wp w0 H F w → Calls P f vs.toArray w fun e w' => ∃ k, e = .panicked (refP m) ∧ Wp w0 (Hk k) (Fk k) w') (hq : ∀ k, WQ Q (.panic (refP m)) E n (Hk k) (Fk k) w0) :
    WL P ops Q (⟨d, .call { callee := .value (.func f), args := args, argTypes := ts }, T', p, af, none⟩ :: rest) E n H F w0 := fun a w s =>
  wpList_plain rfl fun K hK => by
    unfold Oper.wp
    rw [run_call hf s.env hx, Oper.upon_enter]
    refine (hc w s.wp).mono fun e w' ⟨k, he, hw⟩ => ?_
    subst he
    exact hq k a w' ⟨s.env, hw.1, hw.2.1, hw.2.2.1, hw.2.2.2⟩
end
/-! ### The library's variables -/
structure Gl (w : World) : Prop where
  m : ∃ m, w.cell? ⟨0, 0, none⟩ = some (.int .i64 m)
  sx : ∃ ev, w.cell? ⟨2, 0, none⟩ = some ev ∧ (ev = .nilIface ∨ ∃ te pe, ev = .iface te pe)
  rg : ∃ ev, w.cell? ⟨3, 0, none⟩ = some ev ∧ (ev = .nilIface ∨ ∃ te pe, ev = .iface te pe)
  tab : Lib.TabIs Tryz.prog w "internal/strconv.uint64pow10" .u64 Lib.pow10Tab
theorem cell_lt {w : World} {b i : Nat} {v : Value} (h : w.cell? ⟨b, i, none⟩ = some v) : b < w.heap.size := by
  rcases Nat.lt_or_ge b w.heap.size with h1 | h1
  · exact h1
  · unfold World.cell? at h
    rw [show w.heap[b]? = none from by simpa using h1] at h
    cases h
theorem cell_low {w w' : World} {b i : Nat} {v : Value} (h : w.cell? ⟨b, i, none⟩ = some v) (hb : Below w.heap.size w w') : w'.cell? ⟨b, i, none⟩ = some v := (hb.cell (p := ⟨b, i, none⟩) (cell_lt h)).trans h
theorem Gl.below {w w' : World} (h : Gl w) (hb : Below w.heap.size w w') : Gl w' := by
  obtain ⟨m, hm⟩ := h.m
  obtain ⟨e1, h1, k1⟩ := h.sx
  obtain ⟨e2, h2, k2⟩ := h.rg
  exact ⟨⟨m, cell_low hm hb⟩, ⟨e1, cell_low h1 hb, k1⟩, ⟨e2, cell_low h2 hb, k2⟩, Lib.tabBelow_of_tabIs h.tab w' hb⟩
/-! ### The library's functions -/
theorem below_same {w w' : World} (h : w' = w) : Below w.heap.size w w' := by rw [h]; exact Below.refl _ _
theorem cnt10_count (s : Str) : cnt10 s = s.count 10 := by
  unfold cnt10
  rw [List.count_eq_length_filter]
theorem l_count (s : Str) (w : World) : Ret Tryz.prog 7 [su s, su [10]] w (.int .i64 (cnt10 s)) :=
  (Tryz.strings_Count_one ⟨s.toArray⟩ 10 w).mono fun e w' ⟨he, hw⟩ => ⟨he.trans (by rw [cnt10_count]; rfl), below_same hw⟩
theorem l_itoaS (n : Nat) (h : n < 100) (w : World) : Ret Tryz.prog 25 [.int .i64 n] w (su (digs n)) :=
  (Tryz.strconv_Itoa_small n h w).mono fun e w' ⟨he, hw⟩ => ⟨he.trans (by rw [digs_dec]; rfl), below_same hw⟩
theorem l_itoa (n : Nat) (h : n ≤ 9223372036854775807) (w : World) (hg : Gl w) : Ret Tryz.prog 25 [.int .i64 n] w (su (digs n)) :=
  (Tryz.strconv_Itoa n (by omega) (by omega) w hg.tab).mono fun e w' ⟨he, hw⟩ => ⟨he.trans (by rw [digs_dec, Lib.itoa_nonneg]; rfl), by
    obtain ⟨k, os, rfl⟩ := hw
    exact Lib.below_grow _ _ (Nat.le_refl _) _ _⟩
theorem l_suffix (s : Str) (w : World) (h : s.length ≤ 9223372036854775807) : Ret Tryz.prog 8 [su s, su [10]] w (.bool (decide (s.getLast? = some 10))) :=
  (Tryz.strings_HasSuffix ⟨s.toArray⟩ ⟨[10].toArray⟩ w (by rw [su_len]; exact h)).mono fun e w' ⟨he, hw⟩ => ⟨he.trans (by
    have e1 : Lib.hasSuffix s [10] = decide (s.getLast? = some 10) := by
      rw [Bool.eq_iff_iff]
      simp only [Lib.hasSuffix, List.isSuffixOf_iff_suffix, decide_eq_true_eq]
      constructor
      · rintro ⟨t, rfl⟩
        simp
      · intro hl
        obtain ⟨t, rfl⟩ : ∃ t, s = t ++ [10] := by
          have hne : s ≠ [] := fun e => by subst e; simp at hl
          refine ⟨s.dropLast, ?_⟩
          rw [List.getLast?_eq_some_getLast hne] at hl
          have := List.dropLast_concat_getLast hne
          rw [Option.some.inj hl] at this
          exact this.symm
        exact ⟨t, rfl⟩
    show Ending.returned (.bool (Lib.hasSuffix s [10])) = _
    rw [e1]), below_same hw⟩
theorem trim_ten (l : Str) : Lib.trimSuffix (l ++ [10]) [10] = l := by
  unfold Lib.trimSuffix
  rw [if_pos]
  · simp
  · simp [Lib.hasSuffix]
theorem l_trim (z l : Str) (hz : z = l ++ [10]) (w : World) (h : z.length ≤ 1000000) : Ret Tryz.prog 13 [su z, su [10]] w (su l) :=
  (Tryz.strings_TrimSuffix ⟨z.toArray⟩ ⟨[10].toArray⟩ w (by rw [su_len]; omega)).mono fun e w' ⟨he, hw⟩ => ⟨he.trans (by
    show Ending.returned (.string ⟨(Lib.trimSuffix z [10]).toArray⟩) = _
    rw [hz, trim_ten]
    rfl), below_same hw⟩
theorem ix_byte (c : UInt8) : ∀ (p r : Str), (∀ x ∈ p, x ≠ c) → Lib.indexByte (p ++ c :: r) c = (p.length : Int)
  | [], r, _ => by simp [Lib.indexByte]
  | x :: p, r, h => by
    have ih := ix_byte c p r fun y hy => h y (List.mem_cons_of_mem _ hy)
    have hx : (x == c) = false := by simpa using h x (List.mem_cons_self ..)
    have hn : ((p.length : Int) == -1) = false := by
      rw [beq_eq_false_iff_ne]
      omega
    simp only [List.cons_append, Lib.indexByte, hx, ih, hn]
    simp
theorem ix_none (c : UInt8) : ∀ (p : Str), (∀ x ∈ p, x ≠ c) → Lib.indexByte p c = -1
  | [], _ => rfl
  | x :: p, h => by
    have ih := ix_none c p fun y hy => h y (List.mem_cons_of_mem _ hy)
    have hx : (x == c) = false := by simpa using h x (List.mem_cons_self ..)
    simp [Lib.indexByte, hx, ih]
theorem l_index (z p r : Str) (hz : z = p ++ 10 :: r) (hp : ∀ x ∈ p, x ≠ 10) (w : World) : Ret Tryz.prog 22 [su z, .int .u8 10] w (.int .i64 p.length) :=
  (Tryz.strings_IndexByte ⟨z.toArray⟩ 10 w).mono fun e w' ⟨he, hw⟩ => ⟨he.trans (by
    show Ending.returned (.int .i64 (Lib.indexByte z 10)) = _
    rw [hz, ix_byte 10 p r hp]), below_same hw⟩
theorem cut_or (c : UInt8) : ∀ s : Str, (∀ x ∈ s, x ≠ c) ∨ ∃ p r, s = p ++ c :: r ∧ ∀ x ∈ p, x ≠ c
  | [] => .inl fun x h => by cases h
  | x :: s => by
    by_cases hx : x = c
    · subst hx
      exact .inr ⟨[], s, rfl, fun x h => by cases h⟩
    · rcases cut_or c s with h | ⟨p, r, rfl, h⟩
      · refine .inl fun y hy => ?_
        rcases List.mem_cons.1 hy with rfl | hy
        · exact hx
        · exact h y hy
      · refine .inr ⟨x :: p, r, rfl, fun y hy => ?_⟩
        rcases List.mem_cons.1 hy with rfl | hy
        · exact hx
        · exact h y hy
theorem splitK_cut (c : UInt8) : ∀ (n : Nat) (s : Str), s.length ≤ n → Lib.splitK [c] 0 (Lib.count s [c]) s = cutAt c s
  | n, s, hn => by
    rw [Lib.count_one]
    rcases cut_or c s with h | ⟨p, r, rfl, h⟩
    · have e1 : Lib.index s [c] = -1 := (Lib.index_one s c).trans (ix_none c s h)
      have e0 : s.count c = 0 := List.count_eq_zero.2 fun hm => h c hm rfl
      rw [e0, cut_no c s h]
      rfl
    · have e1 : Lib.index (p ++ c :: r) [c] = (p.length : Int) := (Lib.index_one _ c).trans (ix_byte c p r h)
      have e0 : (p ++ c :: r).count c = r.count c + 1 := by
        rw [List.count_append, List.count_cons_self, List.count_eq_zero.2 fun hm => h c hm rfl]
        omega
      have hne : ((p.length : Int) == -1) = false := by
        rw [beq_eq_false_iff_ne]
        omega
      rw [e0, cut_yes c p r h, Lib.splitK, e1, hne]
      have e2 : (p ++ c :: r).take ((p.length : Int).toNat + 0) = p := by simp
      have e3 : (p ++ c :: r).drop ((p.length : Int).toNat + [c].length) = r := by simp
      rw [e2, e3]
      simp only [Bool.false_eq_true, if_false]
      match n, hn with
      | 0, hn => simp at hn
      | n + 1, hn =>
        rw [← Lib.count_one, splitK_cut c n r (by simp at hn; omega)]
theorem l_split (s : Str) (w : World) (hg : Gl w) (hs : s.length ≤ 1000000) : Calls Tryz.prog 27 [su s, su [32]].toArray w fun e w' => ∃ g : Nat, e = .returned (.slice (some ⟨g, 0, none⟩) (cutAt 32 s).length (cutAt 32 s).length) ∧ Below w.heap.size w w' ∧ w.heap.size ≤ g ∧ w'.heap[g]? = some (.cells (sus (cutAt 32 s)).toArray 9) := by
  obtain ⟨m, hm⟩ := hg.m
  refine (Tryz.strings_Split ⟨s.toArray⟩ ⟨[32].toArray⟩ m w (by rw [su_len]; omega) hm (by decide)).mono fun e w' ⟨he, hw⟩ => ?_
  have e1 : (Lib.splitB ⟨[32].toArray⟩ 0 (Lib.countB ⟨s.toArray⟩ ⟨[32].toArray⟩) ⟨s.toArray⟩).map (·.data.toList) = cutAt 32 s := by
    rw [Lib.splitB_data]
    exact splitK_cut 32 s.length s (Nat.le_refl _)
  have e2 : (Lib.splitB ⟨[32].toArray⟩ 0 (Lib.countB ⟨s.toArray⟩ ⟨[32].toArray⟩) ⟨s.toArray⟩).map Value.string = sus (cutAt 32 s) := by
    rw [← e1, sus, List.map_map]
    exact List.map_congr_left fun x _ => su_of x
  have e3 : Lib.countB ⟨s.toArray⟩ ⟨[32].toArray⟩ + 1 = (cutAt 32 s).length := by
    rw [← e1, List.length_map]
    exact (Lib.splitB_all ⟨[32].toArray⟩ (by decide) 0 _ ⟨s.toArray⟩ rfl).symm
  refine ⟨w.heap.size, he.trans (by rw [e3]), ?_, Nat.le_refl _, ?_⟩
  · rw [hw]
    exact (Below.refl _ _).alloc (Nat.le_refl _) _
  · rw [hw, e2]
    exact alloc_new w _
theorem inter_cons (l : List Str) (x : Str) : [32].intercalate (x :: l) = x ++ (l.map fun y => (32 : UInt8) :: y).flatten := by
  induction l generalizing x with
  | nil => simp [List.intercalate]
  | cons y l ih =>
    have h := ih y
    simp only [List.intercalate, List.intersperse, List.flatten_cons] at h ⊢
    simp only [List.map_cons, List.flatten_cons, h]
    simp
theorem join_listed (ns : List Nat) : Lib.join (ns.map digs) [32] = listedOf ns := by
  cases ns with
  | nil => rfl
  | cons n ns =>
    unfold Lib.join listedOf spaced
    rw [List.map_cons, inter_cons]
    simp [Function.comp_def]
theorem l_join (ns : List Nat) (A : Option Addr) (c : Nat) (w : World) {base : Nat} (hn : ns ≠ []) (h99 : ∀ n ∈ ns, n ≤ 99) (hl : ns.length ≤ 1000000) (ho : w.ownsRow base 9 1 (.slice A (ns.map digs).length c) (ns.map digs).length (sus (ns.map digs))) :
    Ret Tryz.prog 87 [.slice A (ns.map digs).length c, su [32]] w (su (listedOf ns)) := by
  obtain ⟨x, hx⟩ : ∃ x, (ns.map digs)[0]? = some x := by
    cases ns with
    | nil => exact absurd rfl hn
    | cons n ns => exact ⟨_, rfl⟩
  have hA := (own_str ho hx).1
  have e0 : (ns.map digs).map (fun l : Str => (⟨l.toArray⟩ : ByteArray)) = ns.map fun n => ⟨(digs n).toArray⟩ := by rw [List.map_map]; rfl
  have e1 : ((ns.map fun n => (⟨(digs n).toArray⟩ : ByteArray)).map (·.data.toList)) = ns.map digs := by
    rw [List.map_map]
    exact List.map_congr_left fun n _ => by simp
  have hk := Tryz.strings_Join (gOf A) 0 c (ns.map fun n => ⟨(digs n).toArray⟩) ⟨[32].toArray⟩ w (fun j y hj => by
      rw [List.getElem?_map] at hj
      cases hnj : ns[j]? with
      | none => rw [hnj] at hj; cases hj
      | some n =>
        rw [hnj] at hj
        obtain rfl := Option.some.inj hj
        have := (own_str ho (i := j) (x := digs n) (by rw [List.getElem?_map, hnj]; rfl)).2
        rw [Nat.zero_add]
        exact this) (by
      have h2 := (own_str ho hx).2
      exact cell_lt h2) (by rw [List.length_map]; omega) (by rw [List.length_map]; have := own_le ho; rw [List.length_map] at this; exact this) (by
      rw [e1]
      show (Lib.join (ns.map digs) [32]).length ≤ _
      rw [join_listed]
      have h3 := spaced_len ns h99
      unfold listedOf
      rw [List.length_drop]
      omega)
  have ea : [.slice A (ns.map digs).length c, su [32]].toArray = #[.slice (some ⟨gOf A, 0, none⟩) (ns.map fun n => (⟨(digs n).toArray⟩ : ByteArray)).length c, .string ⟨[32].toArray⟩] := by
    rw [← hA]
    simp [su]
  unfold Ret
  rw [ea]
  refine hk.mono fun e w' ⟨he, hb⟩ => ⟨he.trans ?_, hb⟩
  rw [e1]
  show Ending.returned (su (Lib.join (ns.map digs) [32])) = _
  rw [join_listed]
/-! ### Numbers -/
theorem parse_val : ∀ (l : Str) (acc : Nat), l.all isDig = true → acc * 10 ^ l.length + 10 ^ l.length ≤ 1000000000000 → Lib.parseUint10 acc l = .ok (l.foldl (fun n c => 10 * n + (c.toNat - 48)) acc)
  | [], acc, _, _ => rfl
  | c :: l, acc, h, hb => by
    rw [List.all_cons, Bool.and_eq_true] at h
    have hc := h.1
    simp only [isDig, Bool.and_eq_true, decide_eq_true_eq] at hc
    have h10 : 1 ≤ 10 ^ l.length := Nat.one_le_pow _ _ (by decide)
    have e1 : 10 ^ (c :: l).length = 10 * 10 ^ l.length := by rw [List.length_cons, Nat.pow_succ, Nat.mul_comm]
    rw [e1] at hb
    obtain ⟨T, hT⟩ : ∃ T, 10 ^ l.length = T := ⟨_, rfl⟩
    have ih := parse_val l (10 * acc + (c.toNat - 48)) h.2
    rw [hT] at hb h10 ih
    rw [Nat.mul_left_comm] at hb
    have hle : acc ≤ acc * T := Nat.le_mul_of_pos_right _ (by omega)
    have h9 : (c.toNat - 48) * T ≤ 9 * T := Nat.mul_le_mul_right _ (by omega)
    rw [Nat.add_mul, Nat.mul_assoc] at ih
    have ih := ih (by omega)
    have hs : acc * 10 + (c.toNat - 48) = 10 * acc + (c.toNat - 48) := by omega
    unfold Lib.parseUint10
    rw [if_pos hc, if_neg (by omega), if_neg (by omega), hs, ih]
    rfl
theorem dig_head {s : Str} {c : UInt8} {r : Str} (h : s = c :: r) (ha : s.all isDig = true) : 48 ≤ c.toNat ∧ c.toNat ≤ 57 := by
  subst h
  simp [isDig] at ha
  exact ha.1
theorem atoi_digs {s : Str} (h1 : 1 ≤ s.length) (h6 : s.length ≤ 6) (ha : s.all isDig = true) : Lib.atoiAll s = .ok (val s : Int) := by
  obtain ⟨c, r, rfl⟩ : ∃ c r, s = c :: r := by
    cases s with
    | nil => simp at h1
    | cons c r => exact ⟨c, r, rfl⟩
  have hc := dig_head rfl ha
  have h10 : 10 ^ (c :: r).length ≤ 10 ^ 6 := Nat.pow_le_pow_right (by decide) h6
  have hp := parse_val (c :: r) 0 ha (by omega)
  have hv := val_lt _ _ rfl ha
  have e1 : Lib.parseMag (c :: r) = .ok (val (c :: r)) := by
    unfold Lib.parseMag
    rw [if_neg (by simp), hp]
    rfl
  unfold Lib.atoiAll
  simp only
  rw [if_neg (by omega), e1]
  simp only
  rw [if_neg (by omega), if_neg (by omega), if_neg (by omega)]
theorem digs_dig : ∀ n : Nat, (digs n).all isDig = true ∧ val (digs n) = n ∧ digs n ≠ [] := fun n => by
  induction n using Nat.strongRecOn with
  | _ n ih =>
    by_cases h : n < 10
    · rw [digs_small h]
      have e : (UInt8.ofNat (48 + n)).toNat = 48 + n := by simp; omega
      refine ⟨?_, ?_, by simp⟩
      · simp only [List.all_cons, List.all_nil, Bool.and_true, isDig, e, Bool.and_eq_true, decide_eq_true_eq]
        omega
      · simp only [val, List.foldl_cons, List.foldl_nil, e]
        omega
    · obtain ⟨i1, i2, i3⟩ := ih (n / 10) (by omega)
      rw [digs_big h]
      have e : (UInt8.ofNat (48 + n % 10)).toNat = 48 + n % 10 := by simp; omega
      refine ⟨?_, ?_, by simp⟩
      · rw [List.all_append, i1]
        simp only [List.all_cons, List.all_nil, Bool.and_true, isDig, e, Bool.true_and, Bool.and_eq_true, decide_eq_true_eq]
        omega
      · rw [val_snoc, i2, e]
        omega
/-- When a text is a number. -/
theorem num_iff {s : Str} {v : Nat} : (numOf s = v) ↔ (digs v = s ∧ s.length ≤ 6) := by
  constructor
  · intro h
    unfold numOf at h
    split at h
    · rename_i k
      have : val s = v := by omega
      rw [← this]
      exact ⟨k.2.2.2, k.2.1⟩
    · omega
  · rintro ⟨rfl, h6⟩
    obtain ⟨h1, h2, h3⟩ := digs_dig v
    unfold numOf
    rw [if_pos ⟨List.length_pos_iff.2 h3, h6, h1, by rw [h2]⟩, h2]
theorem num_neg {s : Str} (h : ¬ 0 ≤ numOf s) (v : Nat) : ¬ (digs v = s ∧ s.length ≤ 6) := fun k => by
  have := num_iff.2 k
  omega
theorem num_nat {s : Str} (h : 0 ≤ numOf s) : ∃ v : Nat, numOf s = (v : Int) ∧ v ≤ 999999 ∧ digs v = s ∧ s.length ≤ 6 ∧ Lib.atoiAll s = .ok (v : Int) := by
  unfold numOf at h ⊢
  split at h
  · rename_i k
    rw [if_pos k]
    have hv := val_lt _ _ rfl k.2.2.1
    have h10 : 10 ^ s.length ≤ 10 ^ 6 := Nat.pow_le_pow_right (by decide) k.2.1
    exact ⟨val s, rfl, by omega, k.2.2.2, k.2.1, atoi_digs k.1 k.2.1 k.2.2.1⟩
  · omega
theorem l_atoiOk (s : Str) (v : Int) (h : Lib.atoiAll s = .ok v) (hl : s.length ≤ 1000000) (w : World) : Ret Tryz.prog 67 [su s] w (.tuple #[.int .i64 v, .nilIface]) :=
  (Tryz.strconv_Atoi_ok ⟨s.toArray⟩ (by rw [su_len]; omega) v (by simpa using h) w).mono fun e w' ⟨he, hw⟩ => ⟨he, by
    rcases hw with rfl | ⟨t, rfl⟩
    · exact Below.refl _ _
    · exact Lib.bytesWorld_below _ _ _⟩
/-- Whatever it is handed. -/
theorem l_atoi (s : Str) (hl : s.length ≤ 1000000) (w : World) (hg : Gl w) (h : ∀ v, Lib.atoiAll s ≠ .ok v) : Calls Tryz.prog 67 [su s].toArray w fun e w' => ∃ i : Int × TypeId × Value, e = .returned (.tuple #[.int .i64 i.1, .iface i.2.1 i.2.2]) ∧ Below w.heap.size w w' := by
  have hz : (ByteArray.mk s.toArray).size ≤ 281474976710656 := by rw [su_len]; omega
  cases e : Lib.atoiAll s with
  | ok v => exact absurd e (h v)
  | range =>
    obtain ⟨ev, h1, h2⟩ := hg.rg
    exact (Tryz.strconv_Atoi_range ⟨s.toArray⟩ hz (by simpa using e) ev w h1 h2).mono fun e w' ⟨g, he, _, _, hb⟩ => ⟨(_, _, _), he, hb⟩
  | _ =>
    obtain ⟨ev, h1, h2⟩ := hg.sx
    exact (Any.strconv_Atoi_syntax Tryz.laysC172 ⟨s.toArray⟩ hz (by simpa using e) ev w h1 h2).mono fun e w' ⟨g, he, _, _, hb⟩ => ⟨(0, _, _), he, hb⟩
end Go.Proofs.YtapkelocligmdaaGreatDoor
