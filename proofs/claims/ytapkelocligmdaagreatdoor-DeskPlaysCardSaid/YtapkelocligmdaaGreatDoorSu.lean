/- Strings as lists of bytes; rows of strings. No condition. -/
import Derived.Test.YtapkelocligmdaaGreatDoorSp
import Derived.Test.YtapkelocligmdaaGreatDoorQ3
import Derived.Test.YtapkelocligmdaaGreatDoorQ4
set_option linter.unusedVariables false
set_option linter.unusedSimpArgs false
set_option linter.unusedSectionVars false
set_option maxRecDepth 100000
namespace Go.Proofs.YtapkelocligmdaaGreatDoor
open Go.RowKit Go.Joins
abbrev Str := List UInt8
def su (l : Str) : Value := .string ⟨l.toArray⟩
theorem su_of (s : ByteArray) : Value.string s = su s.data.toList := by
  obtain ⟨a⟩ := s
  simp [su]
theorem su_len (l : Str) : (ByteArray.mk l.toArray).size = l.length := by simp [ByteArray.size]
theorem und3 : Tryz.prog.underlying 3 = some (.int .i64) := by kernel_rfl
theorem und5 : Tryz.prog.underlying 5 = some (.int .u8) := by kernel_rfl
theorem und9 : Tryz.prog.underlying 9 = some .string := by kernel_rfl
theorem und183 : Tryz.prog.underlying 41 = some (.slice 5) := by kernel_rfl
theorem und205 : Tryz.prog.underlying 64 = some (.slice 9) := by kernel_rfl
theorem size9 (w : World) : (sizeOf 9).run Tryz.prog w = .ok 1 w := by kernel_rfl
theorem kind3 : Tryz.prog.intKind 3 = .i64 := by kernel_rfl
theorem kind5 : Tryz.prog.intKind 5 = .u8 := by kernel_rfl
theorem str_info : (Tryz.prog.info? 9).map (fun i => (i.zero, i.size, i.bytes)) = some (some (.string ByteArray.empty), 1, 16) := by kernel_rfl
theorem u8_wrapU {n : Int} (h : 0 ≤ n ∧ n < 256) : IntKind.u8.wrap n = n := by
  simp [IntKind.wrap, IntKind.bits, IntKind.signed]
  omega
theorem i64_wrapU {n : Int} (h : 0 ≤ n ∧ n < 256) : IntKind.i64.wrap n = n := by
  simp [IntKind.wrap, IntKind.bits, IntKind.signed]
  omega
section
variable [Inhabited DSx] {P : Program} {E : Env} {n : Nat} {d : Option Nat} {x y z : Operand} {T T' T2 : TypeId} {p : String} {af : Array Edge} {k k2 : IntKind}
theorem Y.lenU {l : Str} (hu : P.underlying T2 = some .string) (hx : ev E x = some (su l)) : Yp P E n ⟨d, .call { callee := .builtin .len, args := #[x], argTypes := #[T2] }, T', p, af, none⟩ (.int .i64 l.length) := fun a w s => by
  simp [execOp, resolve, invoke, builtin, s.eval hx, Builtin.len_, run_underlying hu, goInt, su, su_len]
theorem Y.ixU {l : Str} {i : Nat} {c : UInt8} {v : Int} (hu : P.underlying T = some .string) (hc : l[i]? = some c) (hx : ev E x = some (su l)) (hy : ev E y = some (.int k v)) (hv : v = i) : Yp P E n ⟨d, .index T x y, T', p, af, none⟩ (.int .u8 c.toNat) := fun a w s => by
  subst hv
  obtain ⟨hi, hc⟩ := List.getElem?_eq_some_iff.1 hc
  have e : (Instr.index T (su l) (.int k i)).run P w = .ok (.int .u8 c.toNat) w := by
    unfold su
    rw [run_index_string w T _ k i hu, dif_pos ⟨by omega, by rw [su_len]; omega⟩]
    congr 2
    show (((ByteArray.mk l.toArray).data[((i : Int)).toNat]'_).toNat : Int) = _
    simp [hc]
  show (do let u ← Instr.index T (a.eval x) (a.eval y); pure (Next.value u)).run P w = _
  rw [s.eval hx, s.eval hy, Sem.run_bind, e]
  rfl
theorem run_sliceAt_str {v : Value} {lo hi : Option Value} {w : World} {r : Result Value} (hu : P.underlying T = some .string) (h : (Instr.slice T v lo hi none).run P w = r) : (Instr.sliceAt T v lo hi none).run P w = r := by
  unfold Instr.sliceAt
  rw [Sem.run_bind, run_underlying hu]
  exact h
theorem Y.slFromU {l : Str} {i : Nat} {v : Int} (hu : P.underlying T = some .string) (hi : i ≤ l.length) (hx : ev E x = some (su l)) (hy : ev E y = some (.int k v)) (hv : v = i) : Yp P E n ⟨d, .slice T x (some y) none none, T', p, af, none⟩ (su (l.drop i)) := fun a w s => by
  subst hv
  have e : (Instr.slice T (su l) (some (.int k i)) none none).run P w = .ok (su (l.drop i)) w := by
    unfold su
    rw [run_slice_string_from_if w T _ k i hu, if_pos ⟨by omega, by rw [su_len]; omega⟩, su_len, ByteArray.extract_mk]
    congr 4
    rw [List.take_of_length_le (by simp)]
    simp
  show (do let u ← Instr.sliceAt T (a.eval x) (some (a.eval y)) none none; pure (Next.value u)).run P w = _
  rw [s.eval hx, s.eval hy, Sem.run_bind, run_sliceAt_str hu e]
  rfl
theorem Y.slToU {l : Str} {i : Nat} {v : Int} (hu : P.underlying T = some .string) (hi : i ≤ l.length) (hx : ev E x = some (su l)) (hy : ev E y = some (.int k v)) (hv : v = i) : Yp P E n ⟨d, .slice T x none (some y) none, T', p, af, none⟩ (su (l.take i)) := fun a w s => by
  subst hv
  have e : (Instr.slice T (su l) none (some (.int k i)) none).run P w = .ok (su (l.take i)) w := by
    unfold su
    rw [run_slice_string_to_if w T _ k i hu, if_pos ⟨by omega, by rw [su_len]; omega⟩, ByteArray.extract_mk]
    simp
  show (do let u ← Instr.sliceAt T (a.eval x) none (some (a.eval y)) none; pure (Next.value u)).run P w = _
  rw [s.eval hx, s.eval hy, Sem.run_bind, run_sliceAt_str hu e]
  rfl
theorem Y.slBothU {l : Str} {i j : Nat} {v u : Int} (hu : P.underlying T = some .string) (hij : i ≤ j) (hj : j ≤ l.length) (hx : ev E x = some (su l)) (hy : ev E y = some (.int k v)) (hz : ev E z = some (.int k2 u)) (hv : v = i) (hw : u = j) : Yp P E n ⟨d, .slice T x (some y) (some z) none, T', p, af, none⟩ (su ((l.drop i).take (j - i))) := fun a w s => by
  subst hv hw
  have e : (Instr.slice T (su l) (some (.int k i)) (some (.int k2 j)) none).run P w = .ok (su ((l.drop i).take (j - i))) w := by
    unfold su
    rw [run_slice_string w T _ k k2 i j hu (by omega) (by omega) (by rw [su_len]; omega), ByteArray.extract_mk]
    simp
  show (do let u ← Instr.sliceAt T (a.eval x) (some (a.eval y)) (some (a.eval z)) none; pure (Next.value u)).run P w = _
  rw [s.eval hx, s.eval hy, s.eval hz, Sem.run_bind, run_sliceAt_str hu e]
  rfl
theorem su_eq (a b : Str) : ((ByteArray.mk a.toArray).toList == (ByteArray.mk b.toArray).toList) = decide (a = b) := by
  rw [ByteArray.toList_mk, ByteArray.toList_mk]
  by_cases h : a = b <;> simp [h]
theorem Y.eqU {a b : Str} {v : Value} (hx : ev E x = some (su a)) (hy : ev E y = some v) (hv : v = su b) : Yp P E n ⟨d, .binOp .eql 9 x y T2, T', p, af, none⟩ (.bool (decide (a = b))) := fun ac w s => by
  have e : (do eqGuard .eql 9 x y (su a) (su b); binOp .eql 9 (su a) (su b) : Sem Value).run P w = .ok (.bool (decide (a = b))) w := by
    unfold su
    rw [binOp_string_eql, su_eq]
    rfl
  subst hv
  simp only [execOp, s.eval hx, s.eval hy]
  show (do let u ← (do eqGuard .eql 9 x y (su a) (su b); binOp .eql 9 (su a) (su b) : Sem Value); pure (Next.value u)).run P w = _
  rw [Sem.run_bind, e]
  rfl
theorem Y.neqU {a b : Str} {v : Value} (hx : ev E x = some (su a)) (hy : ev E y = some v) (hv : v = su b) : Yp P E n ⟨d, .binOp .neq 9 x y T2, T', p, af, none⟩ (.bool (!decide (a = b))) := fun ac w s => by
  have e : (do eqGuard .neq 9 x y (su a) (su b); binOp .neq 9 (su a) (su b) : Sem Value).run P w = .ok (.bool (!decide (a = b))) w := by
    unfold su
    rw [binOp_string_neq, su_eq]
    rfl
  subst hv
  simp only [execOp, s.eval hx, s.eval hy]
  show (do let u ← (do eqGuard .neq 9 x y (su a) (su b); binOp .neq 9 (su a) (su b) : Sem Value); pure (Next.value u)).run P w = _
  rw [Sem.run_bind, e]
  rfl
theorem Y.addU {a b : Str} {u v : Value} (h : a.length + b.length ≤ 9223372036854775807) (hx : ev E x = some u) (hy : ev E y = some v) (hu : u = su a) (hv : v = su b) : Yp P E n ⟨d, .binOp .add 9 x y T2, T', p, af, none⟩ (su (a ++ b)) := fun ac w s => by
  have e : (do eqGuard .add 9 x y (su a) (su b); binOp .add 9 (su a) (su b) : Sem Value).run P w = .ok (su (a ++ b)) w := by
    have h2 := run_string_add_sum (P := P) w (ByteArray.mk a.toArray) (ByteArray.mk b.toArray) (by rw [su_len, su_len]; exact h)
    unfold su
    rw [binOp_string_add]
    rw [ByteArray.mk_append_mk] at h2
    exact h2
  subst hu hv
  simp only [execOp, s.eval hx, s.eval hy]
  show (do let u ← (do eqGuard .add 9 x y (su a) (su b); binOp .add 9 (su a) (su b) : Sem Value); pure (Next.value u)).run P w = _
  rw [Sem.run_bind, e]
  rfl
end
section
variable [Inhabited DSx] {E : Env} {n : Nat} {d : Option Nat} {x y : Operand} {T' T2 : TypeId} {p : String} {af : Array Edge}
theorem Y.toByteU {m : Int} (h : 0 ≤ m ∧ m < 256) (hx : ev E x = some (.int .i64 m)) : Yp Tryz.prog E n ⟨d, .convert 3 5 x, T', p, af, none⟩ (.int .u8 m) := fun a w s => by
  have e : (convert 3 5 (.int .i64 m)).run Tryz.prog w = .ok (.int .u8 m) w := by
    rw [run_convert_int w 3 5 .i64 m (by rw [und3]; rfl) (by rw [und5, kind5]), kind5, u8_wrapU h]
  show (do let u ← convert 3 5 (a.eval x); pure (Next.value u)).run Tryz.prog w = _
  rw [s.eval hx, Sem.run_bind, e]
  rfl
theorem Y.toIntU {m : Int} (h : 0 ≤ m ∧ m < 256) (hx : ev E x = some (.int .u8 m)) : Yp Tryz.prog E n ⟨d, .convert 5 3 x, T', p, af, none⟩ (.int .i64 m) := fun a w s => by
  have e : (convert 5 3 (.int .u8 m)).run Tryz.prog w = .ok (.int .i64 m) w := by
    rw [run_convert_int w 5 3 .u8 m (by rw [und5]; rfl) (by rw [und3, kind3]), kind3, i64_wrapU h]
  show (do let u ← convert 5 3 (a.eval x); pure (Next.value u)).run Tryz.prog w = _
  rw [s.eval hx, Sem.run_bind, e]
  rfl
end
section
variable [Inhabited DSx] {P : Program} {E : Env} {n : Nat} {d : Option Nat} {x y : Operand} {T T' T2 : TypeId} {p : String} {af : Array Edge} {k : IntKind} {i j r : Int}
theorem Y.quoU (hx : ev E x = some (.int k i)) (hy : ev E y = some (.int k j)) (h0 : j ≠ 0) (hr : k.wrap (i.tdiv j) = r) : Yp P E n ⟨d, .binOp .quo T x y T2, T', p, af, none⟩ (.int k r) := fun a w s => by
  simp [execOp, s.eval hx, s.eval hy, eqGuard, binOp, Op.intArith, Op.intDiv, h0, hr]
theorem Y.remU (hx : ev E x = some (.int k i)) (hy : ev E y = some (.int k j)) (h0 : j ≠ 0) (hr : i.tmod j = r) : Yp P E n ⟨d, .binOp .rem T x y T2, T', p, af, none⟩ (.int k r) := fun a w s => by
  simp [execOp, s.eval hx, s.eval hy, eqGuard, binOp, Op.intArith, Op.intDiv, h0, hr]
theorem Y.mulU (hx : ev E x = some (.int k i)) (hy : ev E y = some (.int k j)) (hr : k.wrap (i * j) = r) : Yp P E n ⟨d, .binOp .mul T x y T2, T', p, af, none⟩ (.int k r) := fun a w s => by
  simp [execOp, s.eval hx, s.eval hy, eqGuard, binOp, Op.intArith, hr]
theorem Y.subU (hx : ev E x = some (.int k i)) (hy : ev E y = some (.int k j)) (hr : k.wrap (i - j) = r) : Yp P E n ⟨d, .binOp .sub T x y T2, T', p, af, none⟩ (.int k r) := fun a w s => by
  simp [execOp, s.eval hx, s.eval hy, eqGuard, binOp, Op.intArith, hr]
end
/-! ### Rows of strings -/
def sus (ls : List Str) : List Value := ls.map su
theorem sus_len (ls : List Str) : (sus ls).length = ls.length := List.length_map ..
theorem sus_app (a b : List Str) : sus (a ++ b) = sus a ++ sus b := List.map_append ..
structure SL (w : World) (A : Option Addr) (b o : Nat) (ls : List Str) : Prop where
  at_ : ls ≠ [] → A = some ⟨b, o, none⟩ ∧ b < w.heap.size
  cell : ∀ i x, ls[i]? = some x → w.cell? ⟨b, o + i, none⟩ = some (su x)
theorem SL.below {w w' : World} {A : Option Addr} {b o : Nat} {ls : List Str} (h : SL w A b o ls) (hb : Below w.heap.size w w') : SL w' A b o ls :=
  ⟨fun hn => ⟨(h.at_ hn).1, Nat.lt_of_lt_of_le (h.at_ hn).2 hb.size⟩, fun i x hi => (hb.cell (p := ⟨b, o + i, none⟩) (h.at_ (ne_of_get hi)).2).trans (h.cell i x hi)⟩
section
variable [Inhabited DSx] {E : Env} {n : Nat} {H : Hp} {F G : SF} {w0 : World}
theorem E.appS {d : Nat} {x y : Operand} {T' c b cap T2 : Nat} {A : Option Addr} {p : String} {af : Array Edge} {l : List Str} (ns : List Str) (hF : F = (SF.own w0.heap.size 9 1 (.slice A l.length c) l.length (sus l)).sep G)
    (hx : ev E x = some (.slice A l.length c)) (hy : ev E y = some (.slice (some ⟨b, 0, none⟩) ns.length cap)) (hm : (b, sus ns, T2) ∈ H) (hlen : l.length + ns.length ≤ 1000000) (hn : Nat.blt d n = true) :
    Eff Tryz.prog E n H F w0 ⟨some d, .call { callee := .builtin .append, args := #[x, y], argTypes := #[64, 64] }, T', p, af, none⟩ (fun i : Option Addr × Nat => (d, .slice i.1 (l ++ ns).length i.2) :: E) (fun _ => H) (fun i => (SF.own w0.heap.size 9 1 (.slice i.1 (l ++ ns).length i.2) (l ++ ns).length (sus (l ++ ns))).sep G) := by
  obtain ⟨i0, hi0, hz0, hz1, hz2⟩ := info_parts str_info
  have hall : (sus ns).all Value.oneCell' = true := by
    rw [List.all_eq_true]
    intro v hv
    obtain ⟨z, _, rfl⟩ := List.mem_map.1 hv
    rfl
  have h := Proofs.YtapkelocligmdaaGreatDoor.E.appendG (P := Tryz.prog) (T' := T') (p := p) (af := af) und205 hi0 hz0 hz1 hz2 rfl (by decide) hF hx hy hm (by rw [sus_len]; omega) hall (by unfold maxLen; omega) (by omega) hn
  rw [sus_app, List.length_append]
  exact h
/-- A block of bytes as a string. -/
theorem Y.fromBlkU {d : Option Nat} {x : Operand} {T' : TypeId} {p : String} {af : Array Edge} {b cap T2 : Nat} {l : Str} {cs : List Value} (hx : ev E x = some (.slice (some ⟨b, 0, none⟩) l.length cap)) (hm : (b, cs, T2) ∈ H) (hc : cs = l.map fun c => .int .u8 c.toNat) :
    Yv Tryz.prog E n H F w0 ⟨d, .convert 41 9 x, T', p, af, none⟩ (su l) := fun a w s => by
  have e : (convert 41 9 (.slice (some ⟨b, 0, none⟩) l.length cap)).run Tryz.prog w = .ok (su l) w := by
    rw [run_convert_bytes_arg w _ 5 und183 und5 b 0 l.length cap (l.map fun c => (c.toNat : Int)) (by simp) (fun i hi => ?_) 9 und9]
    · unfold su strOfNums
      simp [Function.comp_def]
    · rw [Nat.zero_add, s.hp.cell hm, hc]
      simp [List.getElem?_map, List.getElem?_eq_getElem hi, List.getD]
  show (do let u ← convert 41 9 (a.eval x); pure (Next.value u)).run Tryz.prog w = _
  rw [s.env.eval hx, Sem.run_bind, e]
  rfl
end
theorem nil_sepU (base e size : Nat) (F : SF) : F.le ((SF.own base e size (.slice none 0 0) 0 []).sep F) := fun w h => ⟨⟨World.ownsRow_nil w base _ _, h, fun x hx => by cases hx⟩, fun x hx => hx.elim (fun h => by cases h) id⟩
end Go.Proofs.YtapkelocligmdaaGreatDoor
