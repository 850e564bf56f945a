/- Scripts: the document, num and split. No condition. -/
import Derived.Test.YtapkelocligmdaaGreatDoorDp
import Derived.Test.YtapkelocligmdaaGreatDoorQ4
section
set_option maxRecDepth 100000
set_option linter.unusedVariables false
set_option linter.unusedSimpArgs false
set_option linter.unusedSectionVars false
set_option maxHeartbeats 4000000
namespace Go.Proofs.YtapkelocligmdaaGreatDoor
open Go.RowKit Go.Joins
theorem dig_byte (n : Nat) : (48 + ((n : Int) % 10)) = ((UInt8.ofNat (48 + n % 10)).toNat : Int) ∧ 0 ≤ 48 + ((n : Int) % 10) ∧ 48 + ((n : Int) % 10) < 256 := by
  have h : n % 10 < 10 := Nat.mod_lt _ (by decide)
  have e : (UInt8.ofNat (48 + n % 10)).toNat = 48 + n % 10 := by
    simp
    omega
  rw [e]
  omega

theorem w_digits (n : Nat) : n ≤ 999999999 → ∀ w : World, Ret Tryz.prog 16 [.int .i64 n] w (su (digs n)) := by
 induction n using Nat.strongRecOn
 rename_i n ih
 intro hn w
 obtain ⟨hb0, hb1, hb2⟩ := dig_byte n
 refine enter Tryz.func16 rfl Tryz.ntmps16 rfl SF.top trivial ?_
 refine sR ?_
 refine pA rfl rfl ?_
 refine nN ?_
 refine sR ?_
 refine pM rfl rfl ?_
 refine pP (Y.remU (r := (n : Int) % 10) rfl rfl (by decide) (by rw [Int.tmod_eq_emod_of_nonneg (by omega)])) rfl ?_
 refine pP (Y.add rfl rfl (i64_in (by omega) (by omega))) rfl ?_
 refine pP (Y.toByteU ⟨hb1, hb2⟩ rfl) rfl ?_
 refine WL.eff (E.buildSlice (bs_41_1 _) rfl rfl) rfl (fun b1 => ?_)
 refine pV (Y.fromBlkU (l := [UInt8.ofNat (48 + n % 10)]) rfl m0 (by rw [hb0]; rfl)) rfl ?_
 refine pA rfl rfl ?_
 refine nN ?_
 refine WC.seq ?_
 refine sR ?_
 refine pM rfl rfl ?_
 refine pP (Y.lss rfl rfl) rfl ?_
 refine nN ?_
 refine WC.cond rfl (fun h11 => ?_) (fun h11 => ?_)
 refine sR ?_
 refine pM rfl rfl ?_
 refine pA rfl rfl ?_
 refine nN ?_
 refine WC.ret ?_
 refine WQ.thenRet ?_
 refine dn1 Tryz.results16 rfl (fun a w s => ?_)
 · refine ⟨?_, s.low⟩
   have h10 : n < 10 := by have h11 := h11; simp at h11; omega
   rw [digs_small h10, Nat.mod_eq_of_lt h10]
   rfl
 refine WC.skip' ?_
 refine WQ.next ?_
 refine WC.seq ?_
 have h10 : ¬ n < 10 := by have h11 := h11; simp at h11; omega
 refine WC.region ?_
 refine pM rfl rfl ?_
 refine pP (Y.quoU (r := ((n / 10 : Nat) : Int)) rfl rfl (by decide) (by rw [Int.tdiv_eq_ediv_of_nonneg (by omega)]; exact (i64_in (by omega) (by omega)).trans (by omega))) rfl ?_
 refine WL.eff (E.call Tryz.call16 rfl (fun _ w s => ih (n / 10) (by omega) (by omega) w) rfl) rfl (fun _ => ?_)
 refine pM rfl rfl ?_
 refine pP (Y.addU (by have := digs_len (n / 10); simp; omega) rfl rfl rfl rfl) rfl ?_
 refine pA rfl rfl ?_
 refine nN ?_
 refine WC.ret ?_
 refine dn1 Tryz.results16 rfl (fun a w s => ?_)
 · refine ⟨?_, s.low⟩
   rw [digs_big h10]
   rfl
end Go.Proofs.YtapkelocligmdaaGreatDoor
end
section
set_option maxRecDepth 100000
set_option linter.unusedVariables false
set_option linter.unusedSimpArgs false
set_option linter.unusedSectionVars false
set_option maxHeartbeats 4000000
namespace Go.Proofs.YtapkelocligmdaaGreatDoor
open Go.RowKit Go.Joins
theorem w_num (s9 : Str) (w : World) (hl : s9.length ≤ 4096) : Ret Tryz.prog 38 [su s9] w (.int .i64 (numOf s9)) := by
 refine enter Tryz.func38 rfl Tryz.ntmps38 rfl SF.top trivial ?_
 refine sR ?_
 refine pA rfl rfl ?_
 refine nN ?_
 refine WC.seq ?_
 refine sR ?_
 refine pM rfl rfl ?_
 refine pP (Y.lenU und9 rfl) rfl ?_
 refine WL.eff (E.call Tryz.call72 rfl (fun _ w s => w_rwithin _ _ _ w) rfl) rfl (fun _ => ?_)
 refine pP (Y.not rfl) rfl ?_
 refine nN ?_
 refine WC.cond rfl (fun h8 => ?_) (fun h8 => ?_)
 refine sR ?_
 refine pA rfl rfl ?_
 refine nN ?_
 refine WC.ret ?_
 refine WQ.thenRet ?_
 refine dn1 Tryz.results38 rfl (fun a w s => ?_)
 · refine ⟨?_, s.low⟩
   clear s
   have e : numOf s9 = -1 := by
     unfold numOf
     rw [if_neg]
     intro k
     first
       | (have h36 := h36; simp [k.2.2.2] at h36; done)
       | (have h8 := h8; simp [wi] at h8; omega)
       | (have h3 := List.all_eq_true.1 k.2.2.1 c (List.mem_of_getElem? hc)
          simp [isDig] at h3
          first
            | (have h24 := h24; simp at h24; omega)
            | (have h24 := h24; simp at h19 h24; omega)
            | (simp at h19; omega))
   rw [e]
   rfl
 refine WC.skip' ?_
 refine WQ.next ?_
 refine WC.seq ?_
 have hlen : 1 ≤ s9.length ∧ s9.length ≤ 6 := by have h8 := h8; simp [wi] at h8; omega
 refine WC.region ?_
 refine pA rfl rfl ?_
 refine nN ?_
 refine WC.seq ?_
 refine sR ?_
 refine pA rfl rfl ?_
 refine nN ?_
 refine WC.block ?_
 refine WC.loop (ι := Nat) (fun k => [(0, su s9), (3, .int .i64 (val (s9.take k))), (4, .int .i64 k)]) (fun k => []) (fun k => SF.top) (fun k => k ≤ s9.length ∧ (s9.take k).all isDig = true) (fun k => s9.length - k) 0 ⟨Nat.zero_le _, rfl⟩ (fun a w s => s.weak (by repeat (first | exact sub_nil _ | refine sub_cons rfl ?_))) (fun k hk => ?_)
 obtain ⟨hk, hd⟩ := hk
 refine WC.seq ?_
 refine sR ?_
 refine pM rfl rfl ?_
 refine pM rfl rfl ?_
 refine pP (Y.lenU und9 rfl) rfl ?_
 refine pP (Y.lss rfl rfl) rfl ?_
 refine nN ?_
 refine WC.cond rfl (fun h12 => ?_) (fun h12 => ?_)
 refine WC.skip' ?_
 refine WQ.next ?_
 refine WC.seq ?_
 refine WC.block ?_
 refine WC.seq ?_
 refine WC.seq ?_
 have hk2 : k < s9.length := by have h12 := h12; simp at h12; omega
 obtain ⟨c, hc⟩ := get_of_lt hk2
 have hc8 : c.toNat < 256 := c.toNat_lt
 refine WC.region ?_
 refine pM rfl rfl ?_
 refine pM rfl rfl ?_
 refine pP (Y.ixU und9 hc rfl rfl rfl) rfl ?_
 refine pP (Y.lss rfl rfl) rfl ?_
 refine pM rfl rfl ?_
 refine WL.split (t := 19) rfl (fun r h19 => ?_)
 cases r
 refine gT rfl ?_
 refine pM rfl rfl ?_
 refine gT rfl ?_
 refine pM rfl rfl ?_
 refine gT rfl ?_
 refine pP (Y.ixU und9 hc rfl rfl rfl) rfl ?_
 refine gT rfl ?_
 refine pP (Y.gtr rfl rfl) rfl ?_
 refine pP (Y.pickF rfl rfl) rfl ?_
 refine nN ?_
 refine WC.cond rfl (fun h24 => ?_) (fun h24 => ?_)
 refine sR ?_
 refine pA rfl rfl ?_
 refine nN ?_
 refine WC.ret ?_
 refine WQ.thenRet ?_
 refine WQ.blockRet ?_
 refine WQ.thenRet ?_
 refine WQ.thenRet ?_
 refine WQ.blockRet ?_
 refine WQ.thenRet ?_
 refine dn1 Tryz.results38 rfl (fun a w s => ?_)
 · refine ⟨?_, s.low⟩
   clear s
   have e : numOf s9 = -1 := by
     unfold numOf
     rw [if_neg]
     intro k
     first
       | (have h36 := h36; simp [k.2.2.2] at h36; done)
       | (have h8 := h8; simp [wi] at h8; omega)
       | (have h3 := List.all_eq_true.1 k.2.2.1 c (List.mem_of_getElem? hc)
          simp [isDig] at h3
          first
            | (have h24 := h24; simp at h24; omega)
            | (have h24 := h24; simp at h19 h24; omega)
            | (simp at h19; omega))
   rw [e]
   rfl
 refine WC.skip' ?_
 refine WQ.next ?_
 have hcd : isDig c = true := by
   have h24 := h24
   simp at h19 h24
   simp [isDig]
   omega
 have hcr : 48 ≤ c.toNat ∧ c.toNat ≤ 57 := by simpa [isDig] using hcd
 have hvl : val (s9.take k) < 1000000 := by
   have h1 := val_lt k (s9.take k) (by rw [List.length_take]; omega) hd
   have h2 : 10 ^ k ≤ 10 ^ 6 := Nat.pow_le_pow_right (by decide) (by omega)
   omega
 refine WC.region ?_
 refine pM rfl rfl ?_
 refine pP (Y.mulU (r := ((10 * val (s9.take k) : Nat) : Int)) rfl rfl (by rw [show (10 : Int) * (val (s9.take k) : Int) = ((10 * val (s9.take k) : Nat) : Int) from by omega]; exact i64_in (by omega) (by omega))) rfl ?_
 refine pM rfl rfl ?_
 refine pM rfl rfl ?_
 refine pP (Y.ixU und9 hc rfl rfl rfl) rfl ?_
 refine pP (Y.subU (r := ((c.toNat - 48 : Nat) : Int)) rfl rfl (by rw [show ((c.toNat : Nat) : Int) - 48 = ((c.toNat - 48 : Nat) : Int) from by omega]; exact u8_wrapU (by omega))) rfl ?_
 refine pP (Y.toIntU (by omega) rfl) rfl ?_
 refine pP (Y.add rfl rfl (i64_in (by omega) (by omega))) rfl ?_
 refine pA rfl rfl ?_
 refine WL.nil ?_
 refine WQ.blockEnd ?_
 refine WQ.next ?_
 refine WC.region ?_
 refine pM rfl rfl ?_
 refine pP (Y.add rfl rfl (i64_in (by omega) (by omega))) rfl ?_
 refine pA rfl rfl ?_
 refine WL.nil ?_
 · refine fun a w2 s => ⟨k + 1, ⟨by omega, all_take hc hd hcd⟩, by show s9.length - (k + 1) < s9.length - k; omega, ?_⟩
   show St [(0, su s9), (3, .int .i64 (val (s9.take (k + 1)) : Nat)), (4, .int .i64 ((k + 1 : Nat) : Int))] _ _ _ _ _ _
   rw [val_take hc]
   exact s.weak (by repeat (first | exact sub_nil _ | refine sub_cons rfl ?_))
 refine gF rfl ?_
 refine gF rfl ?_
 refine gF rfl ?_
 refine gF rfl ?_
 refine pP (Y.pickT rfl rfl) rfl ?_
 refine nN ?_
 refine WC.condT rfl ?_
 refine sR ?_
 refine pA rfl rfl ?_
 refine nN ?_
 refine WC.ret ?_
 refine WQ.thenRet ?_
 refine WQ.blockRet ?_
 refine WQ.thenRet ?_
 refine WQ.thenRet ?_
 refine WQ.blockRet ?_
 refine WQ.thenRet ?_
 refine dn1 Tryz.results38 rfl (fun a w s => ?_)
 · refine ⟨?_, s.low⟩
   clear s
   have e : numOf s9 = -1 := by
     unfold numOf
     rw [if_neg]
     intro k
     first
       | (have h36 := h36; simp [k.2.2.2] at h36; done)
       | (have h8 := h8; simp [wi] at h8; omega)
       | (have h3 := List.all_eq_true.1 k.2.2.1 c (List.mem_of_getElem? hc)
          simp [isDig] at h3
          first
            | (have h24 := h24; simp at h24; omega)
            | (have h24 := h24; simp at h19 h24; omega)
            | (simp at h19; omega))
   rw [e]
   rfl
 refine WC.exit ?_
 refine WQ.thenExit ?_
 refine WQ.thenExit ?_
 refine WQ.blockExit ?_
 refine WQ.next ?_
 refine WC.seq ?_
 refine WC.seq ?_
 have hk2 : k = s9.length := by have h12 := h12; simp at h12; omega
 subst hk2
 rw [List.take_length] at hd ⊢
 have hvl : val s9 < 1000000 := by
   have h1 := val_lt s9.length s9 rfl hd
   have h2 : 10 ^ s9.length ≤ 10 ^ 6 := Nat.pow_le_pow_right (by decide) hlen.2
   omega
 refine WC.region ?_
 refine pM rfl rfl ?_
 refine WL.eff (E.call Tryz.call16 rfl (fun _ w s => w_digits (val s9) (by omega) w) rfl) rfl (fun _ => ?_)
 refine pM rfl rfl ?_
 refine pP (Y.neqU rfl rfl rfl) rfl ?_
 refine nN ?_
 refine WC.cond rfl (fun h36 => ?_) (fun h36 => ?_)
 refine sR ?_
 refine pA rfl rfl ?_
 refine nN ?_
 refine WC.ret ?_
 refine WQ.thenRet ?_
 refine dn1 Tryz.results38 rfl (fun a w s => ?_)
 · refine ⟨?_, s.low⟩
   clear s
   have e : numOf s9 = -1 := by
     unfold numOf
     rw [if_neg]
     intro k
     first
       | (have h36 := h36; simp [k.2.2.2] at h36; done)
       | (have h8 := h8; simp [wi] at h8; omega)
       | (have h3 := List.all_eq_true.1 k.2.2.1 c (List.mem_of_getElem? hc)
          simp [isDig] at h3
          first
            | (have h24 := h24; simp at h24; omega)
            | (have h24 := h24; simp at h19 h24; omega)
            | (simp at h19; omega))
   rw [e]
   rfl
 refine WC.skip' ?_
 refine WQ.next ?_
 refine sR ?_
 refine pM rfl rfl ?_
 refine pA rfl rfl ?_
 refine nN ?_
 refine WC.ret ?_
 refine dn1 Tryz.results38 rfl (fun a w s => ?_)
 · refine ⟨?_, s.low⟩
   clear s
   have e : numOf s9 = (val s9 : Int) := by
     unfold numOf
     rw [if_pos ⟨hlen.1, hlen.2, hd, by have h36 := h36; simpa using h36⟩]
   rw [e]
   rfl

theorem no_more {c x : UInt8} {s : Str} {a i : Nat} (h : ∀ y ∈ (s.drop a).take (i - a), y ≠ c) (ha : a ≤ i) (hx : s[i]? = some x) (hc : x ≠ c) : ∀ y ∈ (s.drop a).take (i + 1 - a), y ≠ c := by
  rw [show i + 1 - a = (i - a) + 1 from by omega, List.take_add_one]
  intro y hy
  rcases List.mem_append.1 hy with hy | hy
  · exact h y hy
  · rw [List.getElem?_drop, show a + (i - a) = i from by omega, hx] at hy
    simp at hy
    subst hy
    exact hc
theorem cut_here {s : Str} {a i : Nat} {x : UInt8} (ha : a ≤ i) (hx : s[i]? = some x) : s.drop a = (s.drop a).take (i - a) ++ x :: s.drop (i + 1) := by
  have e : (s.drop a).drop (i - a) = x :: s.drop (i + 1) := by
    rw [List.drop_drop, show a + (i - a) = i from by omega]
    obtain ⟨hl, rfl⟩ := List.getElem?_eq_some_iff.1 hx
    exact List.drop_eq_getElem_cons hl
  rw [← e, List.take_append_drop]

theorem w_split (s9 : Str) (w : World) (hl : s9.length ≤ 4096) : Calls Tryz.prog 37 [su s9].toArray w fun e w' => ∃ i : Option Addr × Nat, e = .returned (.slice i.1 (cutAt 32 s9).length i.2) ∧ Below w.heap.size w w' ∧ w'.ownsRow w.heap.size 9 1 (.slice i.1 (cutAt 32 s9).length i.2) (cutAt 32 s9).length (sus (cutAt 32 s9)) := by
 refine enter Tryz.func37 rfl Tryz.ntmps37 rfl SF.top trivial ?_
 refine sR ?_
 refine pA rfl rfl ?_
 refine nN ?_
 refine sR ?_
 refine pA rfl rfl ?_
 refine nN ?_
 refine sR ?_
 refine pA rfl rfl ?_
 refine nN ?_
 refine WC.seq ?_
 refine sR ?_
 refine pA rfl rfl ?_
 refine nN ?_
 refine WC.block ?_
 refine WC.le (nil_sepU w.heap.size 9 1 _) ?_
 refine WC.loop (ι := List Str × Nat × Nat × Option Addr × Nat) (fun k => [(0, su s9), (3, .slice k.2.2.2.1 k.1.length k.2.2.2.2), (4, .int .i64 k.2.1), (5, .int .i64 k.2.2.1)]) (fun k => []) (fun k => (SF.own w.heap.size 9 1 (.slice k.2.2.2.1 (k.1).length k.2.2.2.2) (k.1).length (sus (k.1))).sep SF.top) (fun k => (k.2.1 ≤ k.2.2.1 ∧ k.2.2.1 ≤ s9.length ∧ cutAt 32 s9 = k.1 ++ cutAt 32 (s9.drop k.2.1) ∧ ∀ y ∈ (s9.drop k.2.1).take (k.2.2.1 - k.2.1), y ≠ 32) ∨ (k.2.2.1 = s9.length + 1 ∧ cutAt 32 s9 = k.1)) (fun k => s9.length + 1 - k.2.2.1) ([], 0, 0, none, 0) (.inl ⟨Nat.le_refl _, Nat.zero_le _, rfl, fun y hy => by simp at hy⟩) (fun a w s => s.weak (by repeat (first | exact sub_nil _ | refine sub_cons rfl ?_))) (fun k hk => ?_)
 obtain ⟨o, a, i, A1, c1⟩ := k
 dsimp only at hk ⊢
 refine WC.seq ?_
 refine sR ?_
 refine pM rfl rfl ?_
 refine pM rfl rfl ?_
 refine pP (Y.lenU und9 rfl) rfl ?_
 refine pP (Y.leq rfl rfl) rfl ?_
 refine nN ?_
 refine WC.cond rfl (fun h9 => ?_) (fun h9 => ?_)
 refine WC.skip' ?_
 refine WQ.next ?_
 refine WC.seq ?_
 refine WC.block ?_
 refine WC.seq ?_
 have hk' : a ≤ i ∧ i ≤ s9.length ∧ cutAt 32 s9 = o ++ cutAt 32 (s9.drop a) ∧ ∀ y ∈ (s9.drop a).take (i - a), y ≠ 32 := by
   rcases hk with h | ⟨hi, _⟩
   · exact h
   · exfalso
     have h9 := h9
     simp at h9
     omega
 obtain ⟨ha, hi, hcut, hno⟩ := hk'
 refine WC.region ?_
 refine pM rfl rfl ?_
 refine pM rfl rfl ?_
 refine pP (Y.lenU und9 rfl) rfl ?_
 refine pP (Y.eql rfl rfl) rfl ?_
 refine pM rfl rfl ?_
 refine WL.split (t := 16) rfl (fun r h16 => ?_)
 cases r
 have hi2 : i < s9.length := by have h16 := h16; simp at h16; omega
 obtain ⟨x, hx⟩ := get_of_lt hi2
 refine gT rfl ?_
 refine pM rfl rfl ?_
 refine gT rfl ?_
 refine pM rfl rfl ?_
 refine gT rfl ?_
 refine pP (Y.ixU und9 hx rfl rfl rfl) rfl ?_
 refine gT rfl ?_
 refine pP (Y.eql rfl rfl) rfl ?_
 refine pP (Y.pickF rfl rfl) rfl ?_
 refine nN ?_
 refine WC.cond rfl (fun h21 => ?_) (fun h21 => ?_)
 refine WC.seq ?_
 have hnew : (i + 1 ≤ i + 1 ∧ i + 1 ≤ s9.length ∧ cutAt 32 s9 = (o ++ [(s9.drop a).take (i - a)]) ++ cutAt 32 (s9.drop (i + 1)) ∧ ∀ y ∈ (s9.drop (i + 1)).take (i + 1 - (i + 1)), y ≠ 32) ∨ (i + 1 = s9.length + 1 ∧ cutAt 32 s9 = o ++ [(s9.drop a).take (i - a)]) := by
   have h20 : x = 32 := by
     have h21 := h21
     simp at h21
     exact UInt8.toNat_inj.1 (by simpa using (by omega : x.toNat = 32))
   subst h20
   refine .inl ⟨Nat.le_refl _, by omega, ?_, fun y hy => by simp at hy⟩
   have e := cut_here ha hx
   rw [hcut]
   conv => lhs; rw [e]
   rw [cut_yes 32 _ _ hno, List.append_assoc]
   rfl
 refine WC.region ?_
 refine pM rfl rfl ?_
 refine pM rfl rfl ?_
 refine pM rfl rfl ?_
 refine pM rfl rfl ?_
 refine pP (Y.slBothU und9 ha hi rfl rfl rfl rfl rfl) rfl ?_
 refine WL.eff (E.buildSlice (bs_64_1 _) rfl rfl) rfl (fun b1 => ?_)
 refine WL.eff (E.appS [(s9.drop a).take (i - a)] rfl rfl rfl m0 (by have := cutAt_len 32 s9; rw [hcut] at this; simp at this ⊢; omega) rfl) rfl (fun j => ?_)
 refine pA rfl rfl ?_
 refine nN ?_
 refine WC.region ?_
 refine pM rfl rfl ?_
 refine pP (Y.add rfl rfl (i64_in (by omega) (by omega))) rfl ?_
 refine pA rfl rfl ?_
 refine WL.nil ?_
 refine WQ.blockEnd ?_
 refine WQ.next ?_
 refine WC.region ?_
 refine pM rfl rfl ?_
 refine pP (Y.add rfl rfl (i64_in (by omega) (by omega))) rfl ?_
 refine pA rfl rfl ?_
 refine WL.nil ?_
 · refine fun a2 w2 s => ⟨(o ++ [(s9.drop a).take (i - a)], i + 1, i + 1, j), hnew, by show s9.length + 1 - (i + 1) < s9.length + 1 - i; omega, ?_⟩
   show St [(0, su s9), (3, .slice j.1 (o ++ [(s9.drop a).take (i - a)]).length j.2), (4, .int .i64 ((i + 1 : Nat) : Int)), (5, .int .i64 ((i + 1 : Nat) : Int))] _ _ _ _ _ _
   exact (s.sub (Hsub.of_sub (by repeat (first | exact List.Sublist.refl _ | apply List.Sublist.cons)))).weak (by repeat (first | exact sub_nil _ | refine sub_cons rfl ?_))
 refine WC.skip' ?_
 refine WQ.blockEnd ?_
 refine WQ.next ?_
 have hnm := no_more hno ha hx (by intro e; subst e; have h21 := h21; simp at h21)
 refine WC.region ?_
 refine pM rfl rfl ?_
 refine pP (Y.add rfl rfl (i64_in (by omega) (by omega))) rfl ?_
 refine pA rfl rfl ?_
 refine WL.nil ?_
 · refine fun a2 w2 s => ⟨(o, a, i + 1, A1, c1), .inl ⟨by show a ≤ i + 1; omega, by show i + 1 ≤ s9.length; omega, hcut, hnm⟩, by show s9.length + 1 - (i + 1) < s9.length + 1 - i; omega, ?_⟩
   show St [(0, su s9), (3, .slice A1 o.length c1), (4, .int .i64 ((a : Nat) : Int)), (5, .int .i64 ((i + 1 : Nat) : Int))] _ _ _ _ _ _
   exact (s.sub (Hsub.of_sub (by repeat (first | exact List.Sublist.refl _ | apply List.Sublist.cons)))).weak (by repeat (first | exact sub_nil _ | refine sub_cons rfl ?_))
 refine gF rfl ?_
 refine gF rfl ?_
 refine gF rfl ?_
 refine gF rfl ?_
 refine pP (Y.pickT rfl rfl) rfl ?_
 refine nN ?_
 refine WC.condT rfl ?_
 refine WC.seq ?_
 have hnew : (i + 1 ≤ i + 1 ∧ i + 1 ≤ s9.length ∧ cutAt 32 s9 = (o ++ [(s9.drop a).take (i - a)]) ++ cutAt 32 (s9.drop (i + 1)) ∧ ∀ y ∈ (s9.drop (i + 1)).take (i + 1 - (i + 1)), y ≠ 32) ∨ (i + 1 = s9.length + 1 ∧ cutAt 32 s9 = o ++ [(s9.drop a).take (i - a)]) := by
   have hie : i = s9.length := by have h16 := h16; simp at h16; omega
   refine .inr ⟨by omega, ?_⟩
   have e : (s9.drop a).take (i - a) = s9.drop a := List.take_of_length_le (by rw [List.length_drop]; omega)
   rw [e] at hno ⊢
   rw [hcut, cut_no 32 _ hno]
 refine WC.region ?_
 refine pM rfl rfl ?_
 refine pM rfl rfl ?_
 refine pM rfl rfl ?_
 refine pM rfl rfl ?_
 refine pP (Y.slBothU und9 ha hi rfl rfl rfl rfl rfl) rfl ?_
 refine WL.eff (E.buildSlice (bs_64_1 _) rfl rfl) rfl (fun b2 => ?_)
 refine WL.eff (E.appS [(s9.drop a).take (i - a)] rfl rfl rfl m0 (by have := cutAt_len 32 s9; rw [hcut] at this; simp at this ⊢; omega) rfl) rfl (fun j => ?_)
 refine pA rfl rfl ?_
 refine nN ?_
 refine WC.region ?_
 refine pM rfl rfl ?_
 refine pP (Y.add rfl rfl (i64_in (by omega) (by omega))) rfl ?_
 refine pA rfl rfl ?_
 refine WL.nil ?_
 refine WQ.blockEnd ?_
 refine WQ.next ?_
 refine WC.region ?_
 refine pM rfl rfl ?_
 refine pP (Y.add rfl rfl (i64_in (by omega) (by omega))) rfl ?_
 refine pA rfl rfl ?_
 refine WL.nil ?_
 · refine fun a2 w2 s => ⟨(o ++ [(s9.drop a).take (i - a)], i + 1, i + 1, j), hnew, by show s9.length + 1 - (i + 1) < s9.length + 1 - i; omega, ?_⟩
   show St [(0, su s9), (3, .slice j.1 (o ++ [(s9.drop a).take (i - a)]).length j.2), (4, .int .i64 ((i + 1 : Nat) : Int)), (5, .int .i64 ((i + 1 : Nat) : Int))] _ _ _ _ _ _
   exact (s.sub (Hsub.of_sub (by repeat (first | exact List.Sublist.refl _ | apply List.Sublist.cons)))).weak (by repeat (first | exact sub_nil _ | refine sub_cons rfl ?_))
 refine WC.exit ?_
 refine WQ.thenExit ?_
 refine WQ.thenExit ?_
 refine WQ.blockExit ?_
 refine WQ.next ?_
 refine WC.seq ?_
 have hfin : cutAt 32 s9 = o := by
   obtain ⟨ha, hi, _, _⟩ | ⟨_, h⟩ := hk
   · exfalso
     have h9 := h9
     simp at h9
     omega
   · exact h
 subst hfin
 refine WC.region ?_
 refine pM rfl rfl ?_
 refine pA rfl rfl ?_
 refine nN ?_
 refine WC.ret ?_
 refine dn1 Tryz.results37 rfl (fun a w s => ?_)
 · exact ⟨(A1, c1), rfl, s.low, s.fact.1⟩
end Go.Proofs.YtapkelocligmdaaGreatDoor
end
