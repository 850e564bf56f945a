/- Rows of bytes; bytes and numbers; what a glass reads. No condition. -/
import Derived.Test.YtmfjhacgpopijaaWn
import Derived.Test.YtmfjhacgpopijaaBv
import Derived.Test.YtmfjhacgpopijaaSp
set_option linter.unusedVariables false
set_option linter.unusedSimpArgs false
set_option linter.unusedSectionVars false
namespace Go.Proofs.Ytmfjhacgpopijaa
open Go.RowKit Go.Joins
def u8s (l : List Int) : List Value := l.map fun (n : Int) => Value.int .u8 n
theorem u8s_app (a b : List Int) : u8s (a ++ b) = u8s a ++ u8s b := List.map_append ..
theorem u8s_len (a : List Int) : (u8s a).length = a.length := List.length_map ..
theorem u8_info : (Try.prog.info? 5).map (fun i => (i.zero, i.size, i.bytes)) = some (some (.int .u8 0), 1, 1) := by kernel_rfl
theorem und3 : Try.prog.underlying 3 = some (.int .i64) := by kernel_rfl
theorem und5 : Try.prog.underlying 5 = some (.int .u8) := by kernel_rfl
theorem und9 : Try.prog.underlying 9 = some .string := by kernel_rfl
theorem und182 : Try.prog.underlying 42 = some (.slice 5) := by kernel_rfl
theorem kind3 : Try.prog.intKind 3 = .i64 := by kernel_rfl
theorem kind5 : Try.prog.intKind 5 = .u8 := by kernel_rfl
theorem u8_wrap {n : Int} (h : 0 ≤ n ∧ n < 256) : IntKind.u8.wrap n = n := by
  simp [IntKind.wrap, IntKind.bits, IntKind.signed]
  omega
theorem i64_wrap8 {n : Int} (h : 0 ≤ n ∧ n < 256) : IntKind.i64.wrap n = n := by
  simp [IntKind.wrap, IntKind.bits, IntKind.signed]
  omega
theorem run_toByte {n : Int} (h : 0 ≤ n ∧ n < 256) (w : World) : (convert 3 5 (.int .i64 n)).run Try.prog w = .ok (.int .u8 n) w := by
  rw [run_convert_int w 3 5 .i64 n (by rw [und3]; rfl) (by rw [und5, kind5]), kind5, u8_wrap h]
theorem run_toInt {n : Int} (h : 0 ≤ n ∧ n < 256) (w : World) : (convert 5 3 (.int .u8 n)).run Try.prog w = .ok (.int .i64 n) w := by
  rw [run_convert_int w 5 3 .u8 n (by rw [und5]; rfl) (by rw [und3, kind3]), kind3, i64_wrap8 h]
theorem orDie {p G : Prop} (h1 : ¬ p → G) (h2 : p → G) : G := by
  by_cases h : p
  · exact h2 h
  · exact h1 h
theorem hs_swap {x y : Nat × List Value × TypeId} {l : Hp} : Hsub (y :: x :: l) (x :: y :: l) := Hsub.of_perm (List.Perm.swap ..)
theorem hs_rot {x y z : Nat × List Value × TypeId} {l : Hp} : Hsub (z :: x :: y :: l) (x :: y :: z :: l) :=
  Hsub.of_perm ((List.Perm.swap ..).trans (List.Perm.cons _ (List.Perm.swap ..)))
section
variable [Inhabited DSx] {E : Env} {n : Nat} {H : Hp} {F G : SF} {w0 : World} {d : Option Nat} {x y : Operand} {T' : TypeId} {p : String} {af : Array Edge}
omit [Inhabited DSx] in
theorem strAdd (a b : List Int) (h : a.length + b.length ≤ 9223372036854775807) (w : World) : (Op.stringOp .add (strOfNums a) (strOfNums b)).run Try.prog w = .ok (sv (a ++ b)) w := by
  rw [run_string_add_sum w _ _ (by rw [strOfNums_size, strOfNums_size]; exact h)]
  unfold sv strOfNums
  rw [ByteArray.mk_append_mk, List.map_append]
theorem Y.toByte {m : Int} (h : 0 ≤ m ∧ m < 256) (hx : ev E x = some (.int .i64 m)) : Yp Try.prog E n ⟨d, .convert 3 5 x, T', p, af, none⟩ (.int .u8 m) := fun a w s => by
  show (do let u ← convert 3 5 (a.eval x); pure (Next.value u)).run Try.prog w = _
  rw [s.eval hx, Sem.run_bind, run_toByte h]
  rfl
theorem Y.toInt {m : Int} (h : 0 ≤ m ∧ m < 256) (hx : ev E x = some (.int .u8 m)) : Yp Try.prog E n ⟨d, .convert 5 3 x, T', p, af, none⟩ (.int .i64 m) := fun a w s => by
  show (do let u ← convert 5 3 (a.eval x); pure (Next.value u)).run Try.prog w = _
  rw [s.eval hx, Sem.run_bind, run_toInt h]
  rfl
/-- A row of bytes as a string. -/
theorem Y.fromBytes {A : Option Addr} {c : Nat} {l : List Int} (hx : ev E x = some (.slice A l.length c)) (ho : ∀ a w, St E n H F w0 a w → ∃ base, w.ownsRow base 5 1 (.slice A l.length c) l.length (u8s l)) :
    Yv Try.prog E n H F w0 ⟨d, .convert 42 9 x, T', p, af, none⟩ (sv l) := fun a w s => by
  obtain ⟨base, h⟩ := ho a w s
  have e : (convert 42 9 (.slice A l.length c)).run Try.prog w = .ok (sv l) w := by
    rcases h.2 with ⟨hv, _⟩ | ⟨g, cap, cur, hv, _⟩
    · simp only [Value.slice.injEq] at hv
      obtain ⟨rfl, h0, rfl⟩ := hv
      obtain rfl := List.eq_nil_of_length_eq_zero h0
      exact run_convert_bytes_nil w _ 5 und182 und5 _ _ 9 und9
    · simp only [Value.slice.injEq] at hv
      obtain ⟨rfl, _, rfl⟩ := hv
      refine run_convert_bytes_arg w _ 5 und182 und5 g 0 l.length _ l rfl (fun i hi => ?_) 9 und9
      have hj : (u8s l)[i]? = some (.int .u8 (l.getD i 0)) := by
        simp [u8s, List.getElem?_map, List.getElem?_eq_getElem hi, List.getD]
      obtain ⟨g2, hA, hc⟩ := own_cell h hj
      obtain rfl : g = g2 := by simpa using hA
      simpa using hc
  show (do let u ← convert 42 9 (a.eval x); pure (Next.value u)).run Try.prog w = _
  rw [s.env.eval hx, Sem.run_bind, e]
  rfl
theorem Y.strEql {a b : List Int} {v : Value} {ng : TypeId} (ha : Bytes a) (hb : Bytes b) (hx : ev E x = some (sv a)) (hy : ev E y = some v) (hv : v = sv b) : Yp Try.prog E n ⟨d, .binOp .eql 9 x y ng, T', p, af, none⟩ (.bool (decide (a = b))) := fun ac w s => by
  have e : (do eqGuard .eql 9 x y (sv a) (sv b); binOp .eql 9 (sv a) (sv b) : Sem Value).run Try.prog w = .ok (.bool (decide (a = b))) w := by
    unfold sv
    rw [binOp_string_eql, str_eq ha hb]
    rfl
  subst hv
  simp only [execOp, s.eval hx, s.eval hy]
  show (do let u ← (do eqGuard .eql 9 x y (sv a) (sv b); binOp .eql 9 (sv a) (sv b) : Sem Value); pure (Next.value u)).run Try.prog w = _
  rw [Sem.run_bind, e]
  rfl
end
/-! ### Places -/
def ptrs (b : Nat) (os : List Nat) : List Value := os.map fun (o : Nat) => Value.pointer (some ⟨b, o, none⟩)
theorem ptrs_get {b : Nat} {os : List Nat} {k o : Nat} (h : os[k]? = some o) : (ptrs b os)[k]? = some (.pointer (some ⟨b, o, none⟩)) := by
  simp [ptrs, List.getElem?_map, h]
def setAll : List Value → List Nat → List Int → List Value
  | cs, o :: os, n :: ns => setAll (cs.set o (.int .i64 n)) os ns
  | cs, [], _ => cs
  | cs, _ :: _, [] => cs
theorem setAll_len : ∀ (cs : List Value) (os : List Nat) (ns : List Int), (setAll cs os ns).length = cs.length
  | cs, o :: os, n :: ns => by rw [setAll, setAll_len]; simp
  | cs, [], _ => by simp [setAll]
  | cs, _ :: _, [] => by simp [setAll]
theorem setAll_step : ∀ (cs : List Value) (os : List Nat) (s : List Int) (k o : Nat) (n : Int), os[k]? = some o → s[k]? = some n →
    setAll cs (os.take (k + 1)) s = (setAll cs (os.take k) s).set o (.int .i64 n)
  | cs, [], s, k, o, n, h, _ => by simp at h
  | cs, _ :: _, [], k, o, n, _, h => by simp at h
  | cs, a :: os, b :: s, 0, o, n, h, h2 => by
    simp at h h2
    subst h h2
    simp [setAll]
  | cs, a :: os, b :: s, k + 1, o, n, h, h2 => by
    simp at h h2
    have ih := setAll_step (cs.set a (.int .i64 b)) os s k o n h h2
    simpa [setAll] using ih
theorem put_one (l : List Value) (i : Nat) (v : Value) : Proofs.Ytmfjhacgpopijaa.put l i [v] = l.set i v := by rw [put_cons, put_nil]
/-- What is thrown. -/
def shortP : List PanicEntry := [{ v := .iface 60 (.agg #[]), recovered := false }]
theorem mk_short (w : World) : (Instr.makeInterface 60 (.agg #[])).run Try.prog w = .ok (.iface 60 (.agg #[])) w := by kernel_rfl
theorem drop_consI {s : List Int} {k : Nat} {x : Int} (h : s[k]? = some x) : s.drop k = x :: s.drop (k + 1) := by
  obtain ⟨hl, e⟩ := List.getElem?_eq_some_iff.1 h
  rw [List.drop_eq_getElem_cons hl, e]
theorem Bytes.at {s : List Int} {k : Nat} {x : Int} (hb : Bytes s) (h : s[k]? = some x) : 0 ≤ x ∧ x < 256 := hb x (List.mem_of_getElem? h)
theorem nil_sepB (base e size : Nat) (F : SF) : F.le ((SF.own base e size (.slice none 0 0) 0 []).sep F) := fun w h => ⟨⟨World.ownsRow_nil w base _ _, h, fun x hx => by cases hx⟩, fun x hx => hx.elim (fun h => by cases h) id⟩
section
variable [Inhabited DSx] {E : Env} {n : Nat} {H : Hp} {F G : SF} {w0 : World}
/-- append of bytes. -/
theorem E.app8 {d : Nat} {x y : Operand} {T' c b cap T2 : Nat} {A : Option Addr} {p : String} {af : Array Edge} {l : List Int} (ns : List Int) (hF : F = (SF.own w0.heap.size 5 1 (.slice A l.length c) l.length (u8s l)).sep G)
    (hx : ev E x = some (.slice A l.length c)) (hy : ev E y = some (.slice (some ⟨b, 0, none⟩) ns.length cap)) (hm : (b, u8s ns, T2) ∈ H) (hlen : l.length + ns.length ≤ 1000000) (hn : Nat.blt d n = true) :
    Eff Try.prog E n H F w0 ⟨some d, .call { callee := .builtin .append, args := #[x, y], argTypes := #[42, 42] }, T', p, af, none⟩ (fun i : Option Addr × Nat => (d, .slice i.1 (l ++ ns).length i.2) :: E) (fun _ => H) (fun i => (SF.own w0.heap.size 5 1 (.slice i.1 (l ++ ns).length i.2) (l ++ ns).length (u8s (l ++ ns))).sep G) := by
  obtain ⟨i0, hi0, hz0, hz1, hz2⟩ := info_parts u8_info
  have hall : (u8s ns).all Value.oneCell' = true := by
    rw [List.all_eq_true]
    intro v hv
    obtain ⟨z, _, rfl⟩ := List.mem_map.1 hv
    rfl
  have h := Proofs.Ytmfjhacgpopijaa.E.appendG (P := Try.prog) (T' := T') (p := p) (af := af) und182 hi0 hz0 hz1 hz2 rfl (by decide) hF hx hy hm (by rw [u8s_len]; omega) hall (by unfold maxLen; omega) (by omega) hn
  rw [u8s_app, List.length_append]
  exact h
end
end Go.Proofs.Ytmfjhacgpopijaa
