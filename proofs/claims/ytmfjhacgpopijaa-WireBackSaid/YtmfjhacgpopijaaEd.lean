/- Worlds as bytes: the document reads. No condition. -/
import Derived.Test.YtmfjhacgpopijaaEc
set_option maxRecDepth 100000
set_option linter.unusedVariables false
set_option linter.unusedSimpArgs false
set_option linter.unusedSectionVars false
set_option maxHeartbeats 4000000
namespace Go.Proofs.Ytmfjhacgpopijaa
open Go.RowKit Go.Joins
theorem size9 (w : World) : (sizeOf 9).run Try.prog w = .ok 1 w := by kernel_rfl

theorem w_earByte (u : World) (Hl : Hp) (G : SF) (g : Nat) (s9 : List Int) (hb : Bytes s9) (w : World) (hw : Wp u ((g, [sv (s9)], 65) :: Hl) G w) : Calls Try.prog 23 [.pointer (some ⟨g, 0, none⟩)].toArray w fun e w' => ∃ i : Unit, e = .returned (.int .i64 (at0 s9 0)) ∧ Wp u ((g, [sv (s9.tail)], 65) :: Hl) G w' := by
 refine enterW Try.func23 rfl Try.ntmps23 rfl hw ?_
 refine sR ?_
 refine pA rfl rfl ?_
 refine nN ?_
 refine WC.seq ?_
 refine sR ?_
 refine pM rfl rfl ?_
 refine pP (Y.nilCheck rfl) rfl ?_
 refine pP (Y.fieldAddr fa_65_0 rfl) rfl ?_
 refine pV (Y.load (v := sv s9) fl_9 rfl m0 rfl) rfl ?_
 refine pP (Y.strEql hb Bytes.nil rfl rfl rfl) rfl ?_
 refine nN ?_
 refine WC.cond rfl (fun h8 => ?_) (fun h8 => ?_)
 refine sR ?_
 refine pA rfl rfl ?_
 refine nN ?_
 refine WC.ret ?_
 refine WQ.thenRet ?_
 refine dn1 Try.results23 rfl (fun a w s => ?_)
 · obtain rfl : s9 = [] := by have h8 := h8; simpa using h8
   exact ⟨(), rfl, s.wp⟩
 refine WC.skip' ?_
 refine WQ.next ?_
 refine WC.seq ?_
 obtain ⟨x, r, rfl⟩ : ∃ x r, s9 = x :: r := by
   cases s9 with
   | nil => simp at h8
   | cons x r => exact ⟨x, r, rfl⟩
 have hx8 := hb x (List.mem_cons_self ..)
 refine WC.region ?_
 refine pM rfl rfl ?_
 refine pP (Y.nilCheck rfl) rfl ?_
 refine pP (Y.fieldAddr fa_65_0 rfl) rfl ?_
 refine pV (Y.load (v := sv (x :: r)) fl_9 rfl m0 rfl) rfl ?_
 refine pP (Y.strIx0 und9 hx8.1 hx8.2 rfl rfl) rfl ?_
 refine pP (Y.toInt hx8 rfl) rfl ?_
 refine pA rfl rfl ?_
 refine nN ?_
 refine sR ?_
 refine pM rfl rfl ?_
 refine pM rfl rfl ?_
 refine pP (Y.nilCheck rfl) rfl ?_
 refine pP (Y.fieldAddr fa_65_0 rfl) rfl ?_
 refine pV (Y.load (v := sv (x :: r)) fl_9 rfl m0 rfl) rfl ?_
 refine pP (Y.strTail und9 rfl rfl) rfl ?_
 refine pP (Y.nilCheck rfl) rfl ?_
 refine pP (Y.fieldAddr fa_65_0 rfl) rfl ?_
 refine WL.eff (E.store (v := sv r) (vs := [sv r]) size9 rfl rfl rfl rfl rfl u0 rfl rfl) rfl (fun _ => ?_)
 refine nN ?_
 refine sR ?_
 refine pM rfl rfl ?_
 refine pA rfl rfl ?_
 refine nN ?_
 refine WC.ret ?_
 refine dn1 Try.results23 rfl (fun a w s => ?_)
 · exact ⟨(), rfl, s.wp⟩

/-- A call that yields a world, its log in a row of its own. -/
def RetW (P : Program) (f : FuncId) (vs : List Value) (w : World) (y : Wd) (more : List Value) : Prop :=
  Calls P f vs.toArray w fun e w' => ∃ i : Option Addr × Nat, e = .returned (packed (y.val i.1 i.2 :: more)) ∧ Below w.heap.size w w' ∧ w'.ownsRow w.heap.size 48 8 (.slice i.1 y.log.length i.2) y.log.length (flat y.log)
section
variable [Inhabited DSx] {Q : Exit → Act → World → Prop} {E : Env} {n : Nat} {H : Hp} {F G : SF} {u : World}
theorem E.retW {f : FuncId} {args : Array Operand} {ts : Array TypeId} {d : Nat} {T' : TypeId} {p : String} {af : Array Edge} {vs : List Value} (y : Wd) (more : List Value) (hf : ∀ (args : Array Value) (w : World), (callFunc f args).run Try.prog w = .ok (.enter f args) w)
    (hx : evs E args.toList = some vs) (hc : ∀ a w, St E n H F u a w → RetW Try.prog f vs w y more) (hn : Nat.blt d n = true) :
    Eff Try.prog E n H F u ⟨some d, .call { callee := .value (.func f), args := args, argTypes := ts }, T', p, af, none⟩ (fun i : Option Addr × Nat => (d, packed (y.val i.1 i.2 :: more)) :: E) (fun _ => H) (fun i => (SF.own u.heap.size 48 8 (.slice i.1 y.log.length i.2) y.log.length (flat y.log)).sep F) :=
  Proofs.Ytmfjhacgpopijaa.E.callN _ _ hf hx (fun a w s => (hc a w s).mono fun e w' ⟨i, he, hb, ho⟩ => ⟨i, he, hb, ownsRow_le ho s.low.size, fun g hg => (ho.lt g hg).1⟩) hn
end

theorem at0_drop (s : List Int) (j : Nat) : at0 (s.drop j) 0 = at0 s j := by simp [at0]
theorem tail_drop (s : List Int) (j : Nat) : (s.drop j).tail = s.drop (j + 1) := by simp
section
variable [Inhabited DSx] {E : Env} {n : Nat} {H : Hp} {F G : SF} {u : World}
/-- The ear's next byte. -/
theorem E.earN {args : Array Operand} {ts : Array TypeId} {d : Nat} {T' : TypeId} {p : String} {af : Array Edge} {g : Nat} {Hl : Hp} (s9 : List Int) (j : Nat) (hb : Bytes s9) (hH : Hsub ((g, [sv (s9.drop j)], 65) :: Hl) H)
    (hx : evs E args.toList = some [.pointer (some ⟨g, 0, none⟩)]) (hd : Nat.blt d n = true) :
    Eff Try.prog E n H F u ⟨some d, .call { callee := .value (.func 23), args := args, argTypes := ts }, T', p, af, none⟩ (fun _ : Unit => (d, .int .i64 (at0 s9 j)) :: E) (fun _ => (g, [sv (s9.drop (j + 1))], 65) :: Hl) (fun _ => F) := by
  have h := fun w (hw : Wp u ((g, [sv (s9.drop j)], 65) :: Hl) F w) => w_earByte u Hl F g (s9.drop j) (hb.drop j) w hw
  rw [at0_drop, tail_drop] at h
  exact Proofs.Ytmfjhacgpopijaa.E.callM (fun _ => .int .i64 (at0 s9 j)) _ _ Try.call23 hx (fun w hw => h w (hw.sub hH)) hd
end
def dcl (s : List Int) (k : Nat) : List Value := ints ((List.range k).map (at0 s)) ++ (List.replicate (12 - k) (Value.int .i64 0) ++ [.slice none 0 0, .int .i64 0])
theorem dcl_set (s : List Int) : ∀ k : Nat, k < 12 → (dcl s k).set k (.int .i64 (at0 s k)) = dcl s (k + 1)
  | 0, _ => rfl
  | 1, _ => rfl
  | 2, _ => rfl
  | 3, _ => rfl
  | 4, _ => rfl
  | 5, _ => rfl
  | 6, _ => rfl
  | 7, _ => rfl
  | 8, _ => rfl
  | 9, _ => rfl
  | 10, _ => rfl
  | 11, _ => rfl
  | n + 12, h => by omega
theorem dcl_len (s : List Int) {k : Nat} (h : k ≤ 12) : (dcl s k).length = 14 := by simp [dcl, ints]; omega
/-- The world that is read, with this log. -/
def wdL (s : List Int) (l : List R) : Wd := ⟨(wdRd s).disk, l, (wdRd s).safe⟩
theorem dcl_full (s : List Int) : (dcl s 12).set 13 (.int .i64 (at0 s 12)) = (wdL s []).cl none 0 := rfl
theorem wdL_rd (s : List Int) : wdL s (logR (s.drop 13)) = wdRd s := rfl
theorem kT_turns (a b c d e f g h : Int) : (⟨a, b, c, d, e, f, g, h⟩ : R).turns = kT a := rfl
theorem at0_byte {s : List Int} (hb : Bytes s) (k : Nat) : 0 ≤ at0 s k ∧ at0 s k < 256 := hb.at0 k
theorem log_len {s : List Int} : ∀ (n : Nat) (b : List Int), b.length ≤ n → (logR b).length ≤ b.length
  | 0, b, h => by
    obtain rfl := List.eq_nil_of_length_eq_zero (by omega : b.length = 0)
    exact Nat.le_refl _
  | n + 1, b, h => by
    by_cases hb : b = []
    · subst hb; exact Nat.le_refl _
    · have hp := recLen_pos b
      have h0 : 0 < b.length := List.length_pos_iff.2 hb
      rw [(log_cons hb).1, List.length_cons]
      have := log_len (s := s) n (b.drop (recLen b)) (by rw [List.length_drop]; omega)
      rw [List.length_drop] at this
      omega
section
variable [Inhabited DSx] {E : Env} {n : Nat} {d : Option Nat} {x y : Operand} {T' : TypeId} {p : String} {af : Array Edge}
theorem Y.strNeq {a b : List Int} {v : Value} {ng : TypeId} (ha : Bytes a) (hb : Bytes b) (hx : ev E x = some (sv a)) (hy : ev E y = some v) (hv : v = sv b) : Yp Try.prog E n ⟨d, .binOp .neq 9 x y ng, T', p, af, none⟩ (.bool (!decide (a = b))) := fun ac w s => by
  have e : (do eqGuard .neq 9 x y (sv a) (sv b); binOp .neq 9 (sv a) (sv b) : Sem Value).run Try.prog w = .ok (.bool (!decide (a = b))) w := by
    unfold sv
    rw [binOp_string_neq, str_eq ha hb]
    rfl
  subst hv
  simp only [execOp, s.eval hx, s.eval hy]
  show (do let u ← (do eqGuard .neq 9 x y (sv a) (sv b); binOp .neq 9 (sv a) (sv b) : Sem Value); pure (Next.value u)).run Try.prog w = _
  rw [Sem.run_bind, e]
  rfl
end

theorem nil_sepR (base e size : Nat) (F : SF) : F.le ((SF.own base e size (.slice none 0 0) 0 []).sep F) := nil_sepB base e size F
theorem own_maxR {w : World} {base e size k c : Nat} {A : Option Addr} {xs : List Value} (h : w.ownsRow base e size (.slice A k c) k xs) : k ≤ maxLen := by
  rcases h.2 with ⟨hv, _⟩ | ⟨g, cap, cur, hv, _, _, h3, h4, _⟩
  · simp only [Value.slice.injEq] at hv
    omega
  · simp only [Value.slice.injEq] at hv
    omega
theorem hs_drop2 {x y z : Nat × List Value × TypeId} {l : Hp} : Hsub (y :: z :: l) (x :: y :: z :: l) := Hsub.of_sub (List.sublist_cons_self _ _)

theorem w_worldFrom (s9 : List Int) (hb : Bytes s9) (w : World) (hs9 : s9.length ≤ 4096) : RetW Try.prog 11 [sv s9] w (fromOf s9).1 [.bool (fromOf s9).2] := by
 refine enter Try.func11 rfl Try.ntmps11 rfl SF.top trivial ?_
 refine sR ?_
 refine WL.eff (E.alloc Try.zeroValue28 rfl rfl) rfl (fun b1 => ?_)
 refine pA rfl rfl ?_
 refine nN ?_
 refine sR ?_
 refine pM rfl rfl ?_
 refine pP (Y.build rfl (bf_65_0 _)) rfl ?_
 refine WL.eff (E.box rfl rfl rfl) rfl (fun b2 => ?_)
 refine pA rfl rfl ?_
 refine nN ?_
 refine sR ?_
 refine WL.eff (E.alloc Try.zeroValue28 rfl rfl) rfl (fun b3 => ?_)
 refine nN ?_
 refine WC.seq ?_
 refine sR ?_
 refine pA rfl rfl ?_
 refine nN ?_
 refine WC.block ?_
 refine WC.loop (ι := Nat) (fun k => [(0, sv s9), (2, .pointer (some ⟨b1, 0, none⟩)), (4, .pointer (some ⟨b2, 0, none⟩)), (5, .pointer (some ⟨b3, 0, none⟩)), (6, .int .i64 k)]) (fun k => [(b2, [sv (s9.drop (4 * k))], 65), (b3, dcl s9 (4 * k), 28), (b1, [.int .i64 0, .int .i64 0, .int .i64 0, .int .i64 0, .int .i64 0, .int .i64 0, .int .i64 0, .int .i64 0, .int .i64 0, .int .i64 0, .int .i64 0, .int .i64 0, .slice none 0 0, .int .i64 0], 28)]) (fun _ => SF.top) (fun k => k ≤ 3) (fun k => 3 - k) 0 (Nat.zero_le _) (fun a w s => by first | exact s.weak (by repeat (first | exact sub_nil _ | refine sub_cons rfl ?_)) | exact (s.sub hs_swap).weak (by repeat (first | exact sub_nil _ | refine sub_cons rfl ?_))) (fun p hk => ?_)
 refine WC.seq ?_
 refine sR ?_
 refine pM rfl rfl ?_
 refine pP (Y.lss rfl rfl) rfl ?_
 refine nN ?_
 refine WC.cond rfl (fun h13 => ?_) (fun h13 => ?_)
 refine WC.skip' ?_
 refine WQ.next ?_
 refine WC.seq ?_
 refine WC.block ?_
 refine WC.seq ?_
 refine WC.seq ?_
 have hp3 : p < 3 := by have h13 := h13; simp at h13; omega
 refine WC.region ?_
 refine pA rfl rfl ?_
 refine nN ?_
 refine WC.block ?_
 refine WC.loop (ι := Nat) (fun k => [(0, sv s9), (2, .pointer (some ⟨b1, 0, none⟩)), (4, .pointer (some ⟨b2, 0, none⟩)), (5, .pointer (some ⟨b3, 0, none⟩)), (6, .int .i64 p), (7, .int .i64 k)]) (fun k => [(b2, [sv (s9.drop (4 * p + k))], 65), (b3, dcl s9 (4 * p + k), 28), (b1, [.int .i64 0, .int .i64 0, .int .i64 0, .int .i64 0, .int .i64 0, .int .i64 0, .int .i64 0, .int .i64 0, .int .i64 0, .int .i64 0, .int .i64 0, .int .i64 0, .slice none 0 0, .int .i64 0], 28)]) (fun _ => SF.top) (fun k => k ≤ 3) (fun k => 3 - k) 0 (Nat.zero_le _) (fun a w s => by first | exact s.weak (by repeat (first | exact sub_nil _ | refine sub_cons rfl ?_)) | exact (s.sub hs_swap).weak (by repeat (first | exact sub_nil _ | refine sub_cons rfl ?_))) (fun q hk => ?_)
 refine WC.seq ?_
 refine sR ?_
 refine pM rfl rfl ?_
 refine pP (Y.lss rfl rfl) rfl ?_
 refine nN ?_
 refine WC.cond rfl (fun h17 => ?_) (fun h17 => ?_)
 refine WC.skip' ?_
 refine WQ.next ?_
 refine WC.seq ?_
 refine WC.block ?_
 have hq3 : q < 3 := by have h17 := h17; simp at h17; omega
 refine WC.draw [(0, .q false), (1, .q false), (2, .q false), (4, .q false), (5, .q false), (6, .q false), (3, .s true), (7, .q false), (8, .s true)] mixed (by kernel_rfl) ?_
 refine dP (Y.move rfl) rfl rfl ?_
 refine dP (Y.move rfl) rfl rfl ?_
 refine dP (Y.move rfl) rfl rfl ?_
 refine dP (Y.fieldAddr fa_28_0 rfl) rfl rfl ?_
 refine dP (Y.ixArr Try.underlying25 Try.sizeOf24 rfl rfl (nat0 _) (by omega)) rfl rfl ?_
 refine dP (Y.fieldAddr fa_24_0 rfl) rfl rfl ?_
 refine WDm.spec (WS.free rfl (E.earN s9 (4 * p + q) hb (Hsub.refl _) rfl rfl)) (fun _ => sub_push rfl) (fun _ => ?_)
 refine dP (Y.ixArr Try.underlying22 Try.sizeOf3 rfl rfl (nat0 _) (by omega)) rfl rfl ?_
 refine WDm.spec (WS.free rfl (E.storeP (cs' := dcl s9 (4 * p + q + 1)) Try.sizeOf3 rfl rfl rfl rfl rfl u1 (by rw [dcl_len s9 (by omega)]; simp; omega) (by rw [put_one, ← dcl_set s9 (4 * p + q) (by omega)]; congr 1; simp; omega))) (fun _ => sub_refl _) (fun _ => ?_)
 refine WDm.nil (WQ.and ?_)
 refine WQ.blockEnd ?_
 refine WQ.next ?_
 refine WC.region ?_
 refine pM rfl rfl ?_
 refine pP (Y.add rfl rfl (i64_in (by omega) (by omega))) rfl ?_
 refine pA rfl rfl ?_
 refine WL.nil ?_
 · refine fun a w2 s => ⟨q + 1, by show q + 1 ≤ 3; omega, by show 3 - (q + 1) < 3 - q; omega, ?_⟩
   show St [(0, sv s9), (2, .pointer (some ⟨b1, 0, none⟩)), (4, .pointer (some ⟨b2, 0, none⟩)), (5, .pointer (some ⟨b3, 0, none⟩)), (6, .int .i64 p), (7, .int .i64 ((q + 1 : Nat) : Int))] _ [(b2, [sv (s9.drop (4 * p + (q + 1)))], 65), (b3, dcl s9 (4 * p + (q + 1)), 28), (b1, [.int .i64 0, .int .i64 0, .int .i64 0, .int .i64 0, .int .i64 0, .int .i64 0, .int .i64 0, .int .i64 0, .int .i64 0, .int .i64 0, .int .i64 0, .int .i64 0, .slice none 0 0, .int .i64 0], 28)] _ _ _ _
   rw [show 4 * p + (q + 1) = 4 * p + q + 1 from by omega]
   exact s.weak (by repeat (first | exact sub_nil _ | refine sub_cons rfl ?_))
 refine WC.exit ?_
 refine WQ.thenExit ?_
 refine WQ.thenExit ?_
 refine WQ.blockExit ?_
 refine WQ.next ?_
 have hq3 : q = 3 := by have h17 := h17; simp at h17; omega
 subst hq3
 refine WC.region ?_
 refine pM rfl rfl ?_
 refine pM rfl rfl ?_
 refine WL.eff (E.earN s9 (4 * p + 3) hb (Hsub.refl _) rfl rfl) rfl (fun _ => ?_)
 refine pP (Y.fieldAddr fa_28_0 rfl) rfl ?_
 refine pP (Y.ixArr Try.underlying25 Try.sizeOf24 rfl rfl (nat0 _) (by omega)) rfl ?_
 refine pP (Y.fieldAddr fa_24_1 rfl) rfl ?_
 refine WL.eff (E.storeP (cs' := dcl s9 (4 * p + 3 + 1)) Try.sizeOf3 rfl rfl rfl rfl rfl u1 (by rw [dcl_len s9 (by omega)]; simp; omega) (by rw [put_one, ← dcl_set s9 (4 * p + 3) (by omega)]; congr 1; simp; omega)) rfl (fun _ => ?_)
 refine WL.nil ?_
 refine WQ.blockEnd ?_
 refine WQ.next ?_
 refine WC.region ?_
 refine pM rfl rfl ?_
 refine pP (Y.add rfl rfl (i64_in (by omega) (by omega))) rfl ?_
 refine pA rfl rfl ?_
 refine WL.nil ?_
 · refine fun a w2 s => ⟨p + 1, by show p + 1 ≤ 3; omega, by show 3 - (p + 1) < 3 - p; omega, ?_⟩
   show St [(0, sv s9), (2, .pointer (some ⟨b1, 0, none⟩)), (4, .pointer (some ⟨b2, 0, none⟩)), (5, .pointer (some ⟨b3, 0, none⟩)), (6, .int .i64 ((p + 1 : Nat) : Int))] _ [(b2, [sv (s9.drop (4 * (p + 1)))], 65), (b3, dcl s9 (4 * (p + 1)), 28), (b1, [.int .i64 0, .int .i64 0, .int .i64 0, .int .i64 0, .int .i64 0, .int .i64 0, .int .i64 0, .int .i64 0, .int .i64 0, .int .i64 0, .int .i64 0, .int .i64 0, .slice none 0 0, .int .i64 0], 28)] _ _ _ _
   rw [show 4 * (p + 1) = 4 * p + 3 + 1 from by omega]
   exact s.weak (by repeat (first | exact sub_nil _ | refine sub_cons rfl ?_))
 refine WC.exit ?_
 refine WQ.thenExit ?_
 refine WQ.thenExit ?_
 refine WQ.blockExit ?_
 refine WQ.next ?_
 refine WC.seq ?_
 have hp3 : p = 3 := by have h13 := h13; simp at h13; omega
 subst hp3
 refine WC.region ?_
 refine pM rfl rfl ?_
 refine WL.eff (E.earN s9 12 hb (Hsub.refl _) rfl rfl) rfl (fun _ => ?_)
 refine pP (Y.fieldAddr fa_28_2 rfl) rfl ?_
 refine WL.eff (E.storeP (cs' := (wdL s9 []).cl none 0) Try.sizeOf3 rfl rfl rfl rfl rfl u1 (by rw [dcl_len s9 (by omega)]; decide) (by rw [put_one]; exact dcl_full s9)) rfl (fun _ => ?_)
 refine nN ?_
 refine WC.seq ?_
 refine WC.block ?_
 refine WC.le (nil_sepR w.heap.size 48 8 _) ?_
 refine WC.loop (ι := List R × List Int × Option Addr × Nat) (fun k => [(0, sv s9), (2, .pointer (some ⟨b1, 0, none⟩)), (4, .pointer (some ⟨b2, 0, none⟩)), (5, .pointer (some ⟨b3, 0, none⟩))]) (fun k => [(b2, [sv k.2.1], 65), (b3, (wdL s9 k.1).cl k.2.2.1 k.2.2.2, 28), (b1, [.int .i64 0, .int .i64 0, .int .i64 0, .int .i64 0, .int .i64 0, .int .i64 0, .int .i64 0, .int .i64 0, .int .i64 0, .int .i64 0, .int .i64 0, .int .i64 0, .slice none 0 0, .int .i64 0], 28)]) (fun k => (SF.own w.heap.size 48 8 (.slice k.2.2.1 k.1.length k.2.2.2) k.1.length (flat k.1)).sep SF.top) (fun k => logR (s9.drop 13) = k.1 ++ logR k.2.1 ∧ Bytes k.2.1 ∧ k.1.length + k.2.1.length ≤ 4096) (fun k => k.2.1.length) ([], s9.drop 13, none, 0) ⟨rfl, hb.drop 13, by simp; omega⟩ (fun a w s => s.weak (by repeat (first | exact sub_nil _ | refine sub_cons rfl ?_))) (fun k hk => ?_)
 obtain ⟨l, r, Ar, cr⟩ := k
 obtain ⟨hlr, hbr, hll⟩ := hk
 dsimp only at hlr hbr hll ⊢
 refine WC.seq ?_
 refine sR ?_
 refine pM rfl rfl ?_
 refine pP (Y.nilCheck rfl) rfl ?_
 refine pP (Y.fieldAddr fa_65_0 rfl) rfl ?_
 refine pV (Y.load (v := sv r) fl_9 rfl m0 rfl) rfl ?_
 refine pP (Y.strNeq hbr Bytes.nil rfl rfl rfl) rfl ?_
 refine nN ?_
 refine WC.cond rfl (fun h41 => ?_) (fun h41 => ?_)
 refine WC.skip' ?_
 refine WQ.next ?_
 refine WC.block ?_
 refine WC.seq ?_
 have hne : r ≠ [] := by have h41 := h41; simpa using h41
 have hrp : 0 < r.length := List.length_pos_iff.2 hne
 obtain ⟨i3, hi3, hz30, hz31, hz32⟩ := info_parts rec_info
 refine WC.region ?_
 refine pM rfl rfl ?_
 refine WL.eff (E.earN r 0 hbr (Hsub.refl _) rfl rfl) rfl (fun _ => ?_)
 refine pP (Y.build rfl (bf_48_0 _)) rfl ?_
 refine WL.eff (E.alloc Try.zeroValue48 rfl rfl) rfl (fun b4 => ?_)
 refine WL.eff (E.store Try.sizeOf48 rfl rfl rfl rfl rfl u0 rfl rfl) rfl (fun _ => ?_)
 refine nN ?_
 refine sR ?_
 refine pM rfl rfl ?_
 refine WL.eff (E.earN r 1 hbr hs_swap rfl rfl) rfl (fun _ => ?_)
 refine pP (Y.fieldAddr fa_48_1 rfl) rfl ?_
 refine WL.eff (E.store Try.sizeOf3 rfl rfl rfl rfl rfl u1 rfl rfl) rfl (fun _ => ?_)
 refine nN ?_
 refine sR ?_
 refine pM rfl rfl ?_
 refine WL.eff (E.earN r 2 hbr (Hsub.refl _) rfl rfl) rfl (fun _ => ?_)
 refine pP (Y.fieldAddr fa_48_2 rfl) rfl ?_
 refine WL.eff (E.store Try.sizeOf3 rfl rfl rfl rfl rfl u1 rfl rfl) rfl (fun _ => ?_)
 refine nN ?_
 refine WC.seq ?_
 refine sR ?_
 refine pV (Y.loadAN wd_48 rfl (by repeat (first | exact List.Mem.head _ | apply List.Mem.tail)) (r := (⟨at0 r 0, at0 r 1, at0 r 2, 0, 0, 0, 0, 0⟩ : R).cl) rfl) rfl ?_
 refine WL.eff (E.call Try.call18 rfl (fun _ w s => w_rturns ⟨at0 r 0, at0 r 1, at0 r 2, 0, 0, 0, 0, 0⟩ w) rfl) rfl (fun _ => ?_)
 refine nN ?_
 refine WC.cond rfl (fun h52 => ?_) (fun h52 => ?_)
 refine WC.seq ?_
 have ht : kT (at0 r 0) = true := h52
 refine WC.region ?_
 refine pM rfl rfl ?_
 refine WL.eff (E.earN r 3 hbr (Hsub.refl _) rfl rfl) rfl (fun _ => ?_)
 refine pP (Y.fieldAddr fa_48_3 rfl) rfl ?_
 refine WL.eff (E.store Try.sizeOf3 rfl rfl rfl rfl rfl u1 rfl rfl) rfl (fun _ => ?_)
 refine nN ?_
 refine sR ?_
 refine pM rfl rfl ?_
 refine WL.eff (E.earN r 4 hbr (Hsub.refl _) rfl rfl) rfl (fun _ => ?_)
 refine pP (Y.fieldAddr fa_48_4 rfl) rfl ?_
 refine WL.eff (E.store Try.sizeOf3 rfl rfl rfl rfl rfl u1 rfl rfl) rfl (fun _ => ?_)
 refine nN ?_
 refine sR ?_
 refine pM rfl rfl ?_
 refine WL.eff (E.earN r 5 hbr (Hsub.refl _) rfl rfl) rfl (fun _ => ?_)
 refine pP (Y.fieldAddr fa_48_5 rfl) rfl ?_
 refine WL.eff (E.store Try.sizeOf3 rfl rfl rfl rfl rfl u1 rfl rfl) rfl (fun _ => ?_)
 refine nN ?_
 refine WC.region ?_
 refine pM rfl rfl ?_
 refine WL.eff (E.earN r 6 hbr (Hsub.refl _) rfl rfl) rfl (fun _ => ?_)
 refine pP (Y.fieldAddr fa_48_6 rfl) rfl ?_
 refine WL.eff (E.store Try.sizeOf3 rfl rfl rfl rfl rfl u1 rfl rfl) rfl (fun _ => ?_)
 refine nN ?_
 refine WC.seq ?_
 refine sR ?_
 refine pP (Y.fieldAddr fa_48_0 rfl) rfl ?_
 refine pV (Y.load (v := .int .i64 (at0 r 0)) fl_3 rfl (by repeat (first | exact List.Mem.head _ | apply List.Mem.tail)) rfl) rfl ?_
 refine pP (Y.eql rfl rfl) rfl ?_
 refine nN ?_
 refine WC.cond rfl (fun h67 => ?_) (fun h67 => ?_)
 have hk3 : at0 r 0 = 3 := by have h67 := h67; simpa using h67
 refine WC.region ?_
 refine pM rfl rfl ?_
 refine WL.eff (E.earN r 7 hbr (Hsub.refl _) rfl rfl) rfl (fun _ => ?_)
 refine pP (Y.fieldAddr fa_48_7 rfl) rfl ?_
 refine WL.eff (E.store Try.sizeOf3 rfl rfl rfl rfl rfl u1 rfl rfl) rfl (fun _ => ?_)
 refine nN ?_
 have er : recRd r = ⟨at0 r 0, at0 r 1, at0 r 2, at0 r 3, at0 r 4, at0 r 5, at0 r 6, at0 r 7⟩ := by simp only [recRd, if_pos ht, if_pos hk3]
 have el : recLen r = 8 := by simp only [recLen, if_pos ht, if_pos hk3]
 refine WC.region ?_
 refine pP (Y.fieldAddr fa_28_1 rfl) rfl ?_
 refine pV (Y.load (v := .slice Ar l.length cr) fl_26 rfl (by repeat (first | exact List.Mem.head _ | apply List.Mem.tail)) rfl) rfl ?_
 refine pV (Y.loadAN wd_48 rfl (by repeat (first | exact List.Mem.head _ | apply List.Mem.tail)) (r := (recRd r).cl) (by rw [er]; rfl)) rfl ?_
 refine WL.eff (E.buildSlice (bs_26_1 _ _ _ _ _ _ _ _) rfl rfl) rfl (fun b5 => ?_)
 refine WL.eff (E.appendG Try.underlying26 hi3 hz30 hz31 hz32 rfl (by decide) rfl rfl rfl m0 rfl rfl (by unfold maxLen; omega) (by omega) rfl) rfl (fun i => ?_)
 refine pP (Y.fieldAddr fa_28_1 rfl) rfl ?_
 refine WL.eff (E.store Try.sizeOf26 rfl rfl rfl rfl rfl u3 rfl rfl) rfl (fun _ => ?_)
 refine WL.nil ?_
 refine WQ.blockEnd ?_
 · refine fun a w2 s => ⟨(l ++ [recRd r], r.drop (recLen r), i), ⟨?_, hbr.drop _, ?_⟩, ?_, ?_⟩
   · rw [hlr, (log_cons hne).1, List.append_assoc]; rfl
   · have := recLen_pos r
     show (l ++ [recRd r]).length + (r.drop (recLen r)).length ≤ 4096
     rw [List.length_append, List.length_drop]; simp; omega
   · have := recLen_pos r
     show (r.drop (recLen r)).length < r.length
     rw [List.length_drop]; omega
   · show St [(0, sv s9), (2, .pointer (some ⟨b1, 0, none⟩)), (4, .pointer (some ⟨b2, 0, none⟩)), (5, .pointer (some ⟨b3, 0, none⟩))] _ [(b2, [sv (r.drop (recLen r))], 65), (b3, (wdL s9 (l ++ [recRd r])).cl i.1 i.2, 28), (b1, [.int .i64 0, .int .i64 0, .int .i64 0, .int .i64 0, .int .i64 0, .int .i64 0, .int .i64 0, .int .i64 0, .int .i64 0, .int .i64 0, .int .i64 0, .int .i64 0, .slice none 0 0, .int .i64 0], 28)] ((SF.own w.heap.size 48 8 (.slice i.1 (l ++ [recRd r]).length i.2) (l ++ [recRd r]).length (flat (l ++ [recRd r]))).sep SF.top) _ _ _
     unfold Wd.cl
     rw [show (wdL s9 (l ++ [recRd r])).log.length = l.length + 1 from by simp [wdL], show (l ++ [recRd r]).length = l.length + 1 from by simp, flat_app, el]
     exact (s.sub (by first | exact Hsub.of_sub (by repeat (first | exact List.Sublist.refl _ | apply List.Sublist.cons_cons | apply List.Sublist.cons)) | exact hs_drop2)).weak (by repeat (first | exact sub_nil _ | refine sub_cons rfl ?_))
 refine WC.skip' ?_
 refine WQ.next ?_
 have hk3 : at0 r 0 ≠ 3 := by have h67 := h67; simpa using h67
 have er : recRd r = ⟨at0 r 0, at0 r 1, at0 r 2, at0 r 3, at0 r 4, at0 r 5, at0 r 6, 0⟩ := by simp only [recRd, if_pos ht, if_neg hk3]
 have el : recLen r = 7 := by simp only [recLen, if_pos ht, if_neg hk3]
 refine WC.region ?_
 refine pP (Y.fieldAddr fa_28_1 rfl) rfl ?_
 refine pV (Y.load (v := .slice Ar l.length cr) fl_26 rfl (by repeat (first | exact List.Mem.head _ | apply List.Mem.tail)) rfl) rfl ?_
 refine pV (Y.loadAN wd_48 rfl (by repeat (first | exact List.Mem.head _ | apply List.Mem.tail)) (r := (recRd r).cl) (by rw [er]; rfl)) rfl ?_
 refine WL.eff (E.buildSlice (bs_26_1 _ _ _ _ _ _ _ _) rfl rfl) rfl (fun b6 => ?_)
 refine WL.eff (E.appendG Try.underlying26 hi3 hz30 hz31 hz32 rfl (by decide) rfl rfl rfl m0 rfl rfl (by unfold maxLen; omega) (by omega) rfl) rfl (fun i => ?_)
 refine pP (Y.fieldAddr fa_28_1 rfl) rfl ?_
 refine WL.eff (E.store Try.sizeOf26 rfl rfl rfl rfl rfl u3 rfl rfl) rfl (fun _ => ?_)
 refine WL.nil ?_
 refine WQ.blockEnd ?_
 · refine fun a w2 s => ⟨(l ++ [recRd r], r.drop (recLen r), i), ⟨?_, hbr.drop _, ?_⟩, ?_, ?_⟩
   · rw [hlr, (log_cons hne).1, List.append_assoc]; rfl
   · have := recLen_pos r
     show (l ++ [recRd r]).length + (r.drop (recLen r)).length ≤ 4096
     rw [List.length_append, List.length_drop]; simp; omega
   · have := recLen_pos r
     show (r.drop (recLen r)).length < r.length
     rw [List.length_drop]; omega
   · show St [(0, sv s9), (2, .pointer (some ⟨b1, 0, none⟩)), (4, .pointer (some ⟨b2, 0, none⟩)), (5, .pointer (some ⟨b3, 0, none⟩))] _ [(b2, [sv (r.drop (recLen r))], 65), (b3, (wdL s9 (l ++ [recRd r])).cl i.1 i.2, 28), (b1, [.int .i64 0, .int .i64 0, .int .i64 0, .int .i64 0, .int .i64 0, .int .i64 0, .int .i64 0, .int .i64 0, .int .i64 0, .int .i64 0, .int .i64 0, .int .i64 0, .slice none 0 0, .int .i64 0], 28)] ((SF.own w.heap.size 48 8 (.slice i.1 (l ++ [recRd r]).length i.2) (l ++ [recRd r]).length (flat (l ++ [recRd r]))).sep SF.top) _ _ _
     unfold Wd.cl
     rw [show (wdL s9 (l ++ [recRd r])).log.length = l.length + 1 from by simp [wdL], show (l ++ [recRd r]).length = l.length + 1 from by simp, flat_app, el]
     exact (s.sub (by first | exact Hsub.of_sub (by repeat (first | exact List.Sublist.refl _ | apply List.Sublist.cons_cons | apply List.Sublist.cons)) | exact hs_drop2)).weak (by repeat (first | exact sub_nil _ | refine sub_cons rfl ?_))
 refine WC.skip' ?_
 refine WQ.next ?_
 refine WC.seq ?_
 refine WC.seq ?_
 have ht : kT (at0 r 0) = false := h52
 refine WC.region ?_
 refine pP (Y.fieldAddr fa_48_0 rfl) rfl ?_
 refine pV (Y.load (v := .int .i64 (at0 r 0)) fl_3 rfl (by repeat (first | exact List.Mem.head _ | apply List.Mem.tail)) rfl) rfl ?_
 refine pP (Y.eql rfl rfl) rfl ?_
 refine nN ?_
 refine WC.cond rfl (fun h67 => ?_) (fun h67 => ?_)
 have hk3 : at0 r 0 = 3 := by have h67 := h67; simpa using h67
 refine WC.region ?_
 refine pM rfl rfl ?_
 refine WL.eff (E.earN r 3 hbr (Hsub.refl _) rfl rfl) rfl (fun _ => ?_)
 refine pP (Y.fieldAddr fa_48_7 rfl) rfl ?_
 refine WL.eff (E.store Try.sizeOf3 rfl rfl rfl rfl rfl u1 rfl rfl) rfl (fun _ => ?_)
 refine nN ?_
 have hn : ¬ (kT (at0 r 0) = true) := by simp [ht]
 have er : recRd r = ⟨at0 r 0, at0 r 1, at0 r 2, 0, 0, 0, 0, at0 r 3⟩ := by exfalso; rw [hk3] at ht; simp [kT] at ht
 have el : recLen r = 4 := by exfalso; rw [hk3] at ht; simp [kT] at ht
 refine WC.region ?_
 refine pP (Y.fieldAddr fa_28_1 rfl) rfl ?_
 refine pV (Y.load (v := .slice Ar l.length cr) fl_26 rfl (by repeat (first | exact List.Mem.head _ | apply List.Mem.tail)) rfl) rfl ?_
 refine pV (Y.loadAN wd_48 rfl (by repeat (first | exact List.Mem.head _ | apply List.Mem.tail)) (r := (recRd r).cl) (by rw [er]; rfl)) rfl ?_
 refine WL.eff (E.buildSlice (bs_26_1 _ _ _ _ _ _ _ _) rfl rfl) rfl (fun b7 => ?_)
 refine WL.eff (E.appendG Try.underlying26 hi3 hz30 hz31 hz32 rfl (by decide) rfl rfl rfl m0 rfl rfl (by unfold maxLen; omega) (by omega) rfl) rfl (fun i => ?_)
 refine pP (Y.fieldAddr fa_28_1 rfl) rfl ?_
 refine WL.eff (E.store Try.sizeOf26 rfl rfl rfl rfl rfl u3 rfl rfl) rfl (fun _ => ?_)
 refine WL.nil ?_
 refine WQ.blockEnd ?_
 · refine fun a w2 s => ⟨(l ++ [recRd r], r.drop (recLen r), i), ⟨?_, hbr.drop _, ?_⟩, ?_, ?_⟩
   · rw [hlr, (log_cons hne).1, List.append_assoc]; rfl
   · have := recLen_pos r
     show (l ++ [recRd r]).length + (r.drop (recLen r)).length ≤ 4096
     rw [List.length_append, List.length_drop]; simp; omega
   · have := recLen_pos r
     show (r.drop (recLen r)).length < r.length
     rw [List.length_drop]; omega
   · show St [(0, sv s9), (2, .pointer (some ⟨b1, 0, none⟩)), (4, .pointer (some ⟨b2, 0, none⟩)), (5, .pointer (some ⟨b3, 0, none⟩))] _ [(b2, [sv (r.drop (recLen r))], 65), (b3, (wdL s9 (l ++ [recRd r])).cl i.1 i.2, 28), (b1, [.int .i64 0, .int .i64 0, .int .i64 0, .int .i64 0, .int .i64 0, .int .i64 0, .int .i64 0, .int .i64 0, .int .i64 0, .int .i64 0, .int .i64 0, .int .i64 0, .slice none 0 0, .int .i64 0], 28)] ((SF.own w.heap.size 48 8 (.slice i.1 (l ++ [recRd r]).length i.2) (l ++ [recRd r]).length (flat (l ++ [recRd r]))).sep SF.top) _ _ _
     unfold Wd.cl
     rw [show (wdL s9 (l ++ [recRd r])).log.length = l.length + 1 from by simp [wdL], show (l ++ [recRd r]).length = l.length + 1 from by simp, flat_app, el]
     exact (s.sub (by first | exact Hsub.of_sub (by repeat (first | exact List.Sublist.refl _ | apply List.Sublist.cons_cons | apply List.Sublist.cons)) | exact hs_drop2)).weak (by repeat (first | exact sub_nil _ | refine sub_cons rfl ?_))
 refine WC.skip' ?_
 refine WQ.next ?_
 have hk3 : at0 r 0 ≠ 3 := by have h67 := h67; simpa using h67
 have hn : ¬ (kT (at0 r 0) = true) := by simp [ht]
 have er : recRd r = ⟨at0 r 0, at0 r 1, at0 r 2, 0, 0, 0, 0, 0⟩ := by simp only [recRd, if_neg hn, if_neg hk3]
 have el : recLen r = 3 := by simp only [recLen, if_neg hn, if_neg hk3]
 refine WC.region ?_
 refine pP (Y.fieldAddr fa_28_1 rfl) rfl ?_
 refine pV (Y.load (v := .slice Ar l.length cr) fl_26 rfl (by repeat (first | exact List.Mem.head _ | apply List.Mem.tail)) rfl) rfl ?_
 refine pV (Y.loadAN wd_48 rfl (by repeat (first | exact List.Mem.head _ | apply List.Mem.tail)) (r := (recRd r).cl) (by rw [er]; rfl)) rfl ?_
 refine WL.eff (E.buildSlice (bs_26_1 _ _ _ _ _ _ _ _) rfl rfl) rfl (fun b8 => ?_)
 refine WL.eff (E.appendG Try.underlying26 hi3 hz30 hz31 hz32 rfl (by decide) rfl rfl rfl m0 rfl rfl (by unfold maxLen; omega) (by omega) rfl) rfl (fun i => ?_)
 refine pP (Y.fieldAddr fa_28_1 rfl) rfl ?_
 refine WL.eff (E.store Try.sizeOf26 rfl rfl rfl rfl rfl u3 rfl rfl) rfl (fun _ => ?_)
 refine WL.nil ?_
 refine WQ.blockEnd ?_
 · refine fun a w2 s => ⟨(l ++ [recRd r], r.drop (recLen r), i), ⟨?_, hbr.drop _, ?_⟩, ?_, ?_⟩
   · rw [hlr, (log_cons hne).1, List.append_assoc]; rfl
   · have := recLen_pos r
     show (l ++ [recRd r]).length + (r.drop (recLen r)).length ≤ 4096
     rw [List.length_append, List.length_drop]; simp; omega
   · have := recLen_pos r
     show (r.drop (recLen r)).length < r.length
     rw [List.length_drop]; omega
   · show St [(0, sv s9), (2, .pointer (some ⟨b1, 0, none⟩)), (4, .pointer (some ⟨b2, 0, none⟩)), (5, .pointer (some ⟨b3, 0, none⟩))] _ [(b2, [sv (r.drop (recLen r))], 65), (b3, (wdL s9 (l ++ [recRd r])).cl i.1 i.2, 28), (b1, [.int .i64 0, .int .i64 0, .int .i64 0, .int .i64 0, .int .i64 0, .int .i64 0, .int .i64 0, .int .i64 0, .int .i64 0, .int .i64 0, .int .i64 0, .int .i64 0, .slice none 0 0, .int .i64 0], 28)] ((SF.own w.heap.size 48 8 (.slice i.1 (l ++ [recRd r]).length i.2) (l ++ [recRd r]).length (flat (l ++ [recRd r]))).sep SF.top) _ _ _
     unfold Wd.cl
     rw [show (wdL s9 (l ++ [recRd r])).log.length = l.length + 1 from by simp [wdL], show (l ++ [recRd r]).length = l.length + 1 from by simp, flat_app, el]
     exact (s.sub (by first | exact Hsub.of_sub (by repeat (first | exact List.Sublist.refl _ | apply List.Sublist.cons_cons | apply List.Sublist.cons)) | exact hs_drop2)).weak (by repeat (first | exact sub_nil _ | refine sub_cons rfl ?_))
 refine WC.exit ?_
 refine WQ.thenExit ?_
 refine WQ.thenExit ?_
 refine WQ.blockExit ?_
 refine WQ.next ?_
 refine WC.seq ?_
 refine WC.seq ?_
 obtain rfl : r = [] := by have h41 := h41; simpa using h41
 rw [show logR [] = [] from rfl, List.append_nil] at hlr
 subst hlr
 rw [wdL_rd]
 refine WC.region ?_
 refine pV (Y.loadAN wd_28 rfl m1 (r := (wdRd s9).cl Ar cr) rfl) rfl ?_
 refine WL.eff (E.call Try.call6 rfl (fun _ w s => w_worldError (wdRd s9) Ar (gOf Ar) 0 cr w (own_maxR s.fact.1) (own_le s.fact.1) (own_RL s.fact.1)) rfl) rfl (fun _ => ?_)
 refine pP (Y.neq rfl rfl) rfl ?_
 refine pM rfl rfl ?_
 refine WL.split (t := 80) rfl (fun r h80 => ?_)
 cases r
 have h0 : worldErr (wdRd s9) = 0 := by have h80 := h80; simpa using h80
 refine gT rfl ?_
 refine pV (Y.loadAN wd_28 rfl m1 (r := (wdRd s9).cl Ar cr) rfl) rfl ?_
 refine gT rfl ?_
 refine WL.eff (E.call Try.call7 rfl (fun _ w s => w_worldBytes (wdRd s9) Ar (gOf Ar) 0 cr w h0 (own_RL s.fact.1)) rfl) rfl (fun _ => ?_)
 refine gT rfl ?_
 refine pM rfl rfl ?_
 refine gT rfl ?_
 refine pP (Y.strNeq (wd_rd h0).2.1 hb rfl rfl rfl) rfl ?_
 refine pP (Y.pickF rfl rfl) rfl ?_
 refine nN ?_
 refine WC.cond rfl (fun h85 => ?_) (fun h85 => ?_)
 refine sR ?_
 refine pP (Y.build rfl (bf_28 )) rfl ?_
 refine WL.eff (E.store Try.sizeOf28 rfl rfl rfl rfl rfl u2 rfl rfl) rfl (fun _ => ?_)
 refine pA rfl rfl ?_
 refine nN ?_
 refine WC.ret ?_
 refine WQ.thenRet ?_
 refine WQ.done Try.results11 (RVs.cons (RV.cell wd_28 rfl m2 rfl) (RVs.cons (RV.tmp rfl) RVs.nil)) (fun a w s => ?_)
 · have e : fromOf s9 = (Wd.zero, false) := by
     unfold fromOf
     rw [if_neg (fun k => by first | (have h80 := h80; simp [k.1] at h80; done) | (have h85 := h85; simp [k.2] at h85; done))]
   rw [e]
   exact ⟨(none, 0), rfl, s.low, own_nil _ _ _ _⟩
 refine WC.skip' ?_
 refine WQ.next ?_
 refine sR ?_
 refine pV (Y.loadAN wd_28 rfl m1 (r := (wdRd s9).cl Ar cr) rfl) rfl ?_
 refine WL.eff (E.store Try.sizeOf28 rfl rfl rfl rfl rfl u2 rfl rfl) rfl (fun _ => ?_)
 refine pA rfl rfl ?_
 refine nN ?_
 refine WC.ret ?_
 refine WQ.done Try.results11 (RVs.cons (RV.cell wd_28 rfl m2 rfl) (RVs.cons (RV.tmp rfl) RVs.nil)) (fun a w s => ?_)
 · have e : fromOf s9 = (wdRd s9, true) := by
     unfold fromOf
     rw [if_pos ⟨h0, by have h85 := h85; simpa using h85⟩]
   rw [e]
   exact ⟨(Ar, cr), rfl, s.low, s.fact.1⟩
 refine gF rfl ?_
 refine gF rfl ?_
 refine gF rfl ?_
 refine gF rfl ?_
 refine pP (Y.pickT rfl rfl) rfl ?_
 refine nN ?_
 refine WC.condT rfl ?_
 refine sR ?_
 refine pP (Y.build rfl (bf_28 )) rfl ?_
 refine WL.eff (E.store Try.sizeOf28 rfl rfl rfl rfl rfl u2 rfl rfl) rfl (fun _ => ?_)
 refine pA rfl rfl ?_
 refine nN ?_
 refine WC.ret ?_
 refine WQ.thenRet ?_
 refine WQ.done Try.results11 (RVs.cons (RV.cell wd_28 rfl m2 rfl) (RVs.cons (RV.tmp rfl) RVs.nil)) (fun a w s => ?_)
 · have e : fromOf s9 = (Wd.zero, false) := by
     unfold fromOf
     rw [if_neg (fun k => by first | (have h80 := h80; simp [k.1] at h80; done) | (have h85 := h85; simp [k.2] at h85; done))]
   rw [e]
   exact ⟨(none, 0), rfl, s.low, own_nil _ _ _ _⟩
end Go.Proofs.Ytmfjhacgpopijaa
