/- What the functions of package page, and the document's answers for them, return at every input. No condition. -/
import Derived.Test.YtdbcimadjmdffaaRows
import Derived.Test.YtdbcimadjmdffaaModel
import Derived.Test.YtdbcimadjmdffaaKit
namespace Go.Proofs.Ytdbcimadjmdffaa
open Go.RowKit

theorem val_any (n : Int) (w : World) :
    Calls Try.prog 109 #[.int .i64 n] w fun e w' => e = .returned (.bool (wi n 0 99)) ∧ w = w' := by
  by_cases h1 : 0 ≤ n
  · by_cases h2 : n ≤ 99
    · go_enter Try.func109, Try.ntmps109
      go_wp2
      go_ret
      exact ⟨retb (by simp [wi, h1, h2]), rfl⟩
    · go_enter Try.func109, Try.ntmps109
      go_wp2
      go_ret
      exact ⟨retb (by simp [wi, h1, h2]), rfl⟩
  · go_enter Try.func109, Try.ntmps109
    go_wp2
    go_ret
    exact ⟨retb (by simp [wi] <;> omega), rfl⟩

theorem within_any (n lo hi : Int) (w : World) :
    Calls Try.prog 110 #[.int .i64 n, .int .i64 lo, .int .i64 hi] w fun e w' => e = .returned (.bool (wi n lo hi)) ∧ w = w' := by
  by_cases h1 : lo ≤ n
  · by_cases h2 : n ≤ hi
    · go_enter Try.func110, Try.ntmps110
      go_wp2
      go_ret
      exact ⟨retb (by simp [wi, h1, h2]), rfl⟩
    · go_enter Try.func110, Try.ntmps110
      go_wp2
      go_ret
      exact ⟨retb (by simp [wi, h1, h2]), rfl⟩
  · go_enter Try.func110, Try.ntmps110
    go_wp2
    go_ret
    exact ⟨retb (by simp [wi] <;> omega), rfl⟩

theorem lit_any (n : Int) (w : World) :
    Calls Try.prog 112 #[.int .i64 n] w fun e w' => e = .returned (.bool (!wi n 0 99)) ∧ w = w' := by
  go_enter Try.func112, Try.ntmps112
  go_wp2_with (go_at_call 109; refine (val_any _ _).mono ?_; rintro e w' ⟨rfl, rfl⟩)
  go_ret
  exact ⟨rfl, rfl⟩

/-- The place of the first number that is no cell's, behind place k. -/
def badAt : Nat → List Int → Int
  | _, [] => -1
  | k, c :: l => if wi c 0 99 then badAt (k + 1) l else k

theorem indexFunc_any (l : List Int) (b o : Nat) (w : World) (hl : l.length ≤ 60) (hc : ∀ (k : Nat) (c : Int), l[k]? = some c → w.cell? ⟨b, o + k, none⟩ = some (.int .i64 c)) :
    Calls Try.prog 150 #[.slice (some ⟨b, o, none⟩) l.length l.length, .func (.func 112) #[] #[]] w fun e w' => e = .returned (.int .i64 (badAt 0 l)) ∧ w = w' := by
  go_enter Try.func150, Try.ntmps150
  go_wp2
  go_loop [8] (fun i => ∃ k : Nat, k ≤ l.length ∧ i = .int .i64 k ∧ badAt 0 l = badAt k (l.drop k)) (fun i => l.length - (intOf i).toNat)
  case atStart => exact ⟨0, Nat.zero_le _, rfl, by simp⟩
  case round =>
    obtain ⟨k, hk, rfl, hb⟩ := hrel
    by_cases hlt : k < l.length
    · obtain ⟨c, hck⟩ : ∃ c, l[k]? = some c := ⟨_, List.getElem?_eq_getElem hlt⟩
      have hd : l.drop k = c :: l.drop (k + 1) := by
        rw [List.drop_eq_getElem_cons hlt]; congr 1; rw [List.getElem?_eq_getElem hlt] at hck; exact Option.some.inj hck
      have hcell := hc k c hck
      rw [hd] at hb
      have HB := Lib.hid hb
      clear hb hd hck hc
      cases hw : wi c 0 99
      all_goals
        have HW := Lib.hid hw
        clear hw
        go_wp2_with (go_at_call 112; refine (lit_any _ _).mono ?_; rintro e w' ⟨rfl, rfl⟩; rw [HW.out])
      · go_ret
        exact ⟨reti (by rw [HB.out]; simp [badAt, HW.out]), rfl⟩
      · go_round
        case rel => exact ⟨k + 1, by omega, by go_num, by rw [HB.out]; simp [badAt, HW.out]⟩
        case measure => simp [intOf]; omega
    · have hb' : badAt 0 l = -1 := by rw [hb, List.drop_eq_nil_of_le (by omega)]; rfl
      have HB := Lib.hid hb'
      clear hb hb' hc
      go_wp2
      go_ret
      exact ⟨reti HB.out.symm, rfl⟩

theorem containsFunc_any (a b c : Int) (bk o : Nat) (w : World) (h0 : w.cell? ⟨bk, o, none⟩ = some (.int .i64 a)) (h1 : w.cell? ⟨bk, o + 1, none⟩ = some (.int .i64 b)) (h2 : w.cell? ⟨bk, o + 2, none⟩ = some (.int .i64 c)) :
    Calls Try.prog 111 #[.slice (some ⟨bk, o, none⟩) 3 3, .func (.func 112) #[] #[]] w fun e w' => e = .returned (.bool (!cellsB a b c)) ∧ w = w' := by
  have hf := indexFunc_any [a, b, c] bk o w (by simp) (fun k x hk => by
    match k, hk with
    | 0, hk => simp at hk; subst hk; exact h0
    | 1, hk => simp at hk; subst hk; exact h1
    | 2, hk => simp at hk; subst hk; exact h2)
  have hr : decide (0 ≤ badAt 0 [a, b, c]) = !cellsB a b c := by
    cases ha : wi a 0 99 <;> cases hb : wi b 0 99 <;> cases hc : wi c 0 99 <;> simp [badAt, cellsB, ha, hb, hc]
  have HR := Lib.hid hr
  have HF := Lib.hid hf
  clear hr hf h0 h1 h2
  generalize badAt 0 [a, b, c] = x at HR HF
  go_enter Try.func111, Try.ntmps111
  go_wp2_with (go_at_call 150; refine HF.out.mono ?_; rintro e w' ⟨rfl, rfl⟩)
  go_ret
  exact ⟨retb HR.out, rfl⟩

theorem check_any (p : Pg) (w : World) :
    Calls Try.prog 45 #[p.val] w fun e w' => e = .returned (.int .i64 p.err) ∧ Below w.heap.size w w' := by
  obtain ⟨a, b, c, n⟩ := p
  unfold Pg.val
  have hp : ∀ x, cellsB a b c = x → Pg.err ⟨a, b, c, n⟩ = if x = true ∧ 0 ≤ n ∧ n ≤ 60 then 0 else 3 := by
    intro x hx; simp only [Pg.err, Pg.ok, hx, Bool.and_eq_true, wi_iff]
  cases hx : cellsB a b c
  all_goals
    have HP := Lib.hid (hp _ hx)
    have HX := Lib.hid hx
    clear hp hx
    by_cases h1 : 0 ≤ n
    · by_cases h2 : n ≤ 60
      · go_enter Try.func45, Try.ntmps45
        go_wp2_with (go_at_call 111; refine (containsFunc_any a b c _ _ _ (by go_simp) (by go_simp) (by go_simp)).mono ?_; rintro e w' ⟨rfl, rfl⟩; rw [HX.out])
        go_ret
        exact ⟨reti (by rw [HP.out]; simp [h1, h2]), (Below.refl _ _).alloc (Nat.le_refl _) _⟩
      · go_enter Try.func45, Try.ntmps45
        go_wp2
        go_ret
        exact ⟨reti (by rw [HP.out]; simp <;> omega), (Below.refl _ _).alloc (Nat.le_refl _) _⟩
    · go_enter Try.func45, Try.ntmps45
      go_wp2
      go_ret
      exact ⟨reti (by rw [HP.out]; simp <;> omega), (Below.refl _ _).alloc (Nat.le_refl _) _⟩
end Go.Proofs.Ytdbcimadjmdffaa
