/- Scripts: what a line does and gives, and a whole script, in plain Lean. No condition. -/
import Derived.Test.YtapkelocligmdaaGreatDoorDp
import Derived.Test.YtapkelocligmdaaGreatDoorQ9
set_option linter.unusedVariables false
set_option linter.unusedSimpArgs false
set_option linter.unusedSectionVars false
namespace Go.Proofs.YtapkelocligmdaaGreatDoor
def wCrash : Str := [99, 114, 97, 115, 104]
def wNow : Str := [110, 111, 119]
def wDisk : Str := [100, 105, 115, 107]
def wMust : Str := [109, 117, 115, 116]
def wLog : Str := [108, 111, 103]
def wWrite : Str := [119, 114, 105, 116, 101]
def wCommit : Str := [99, 111, 109, 109, 105, 116]
def wAbort : Str := [97, 98, 111, 114, 116]
def wSync : Str := [115, 121, 110, 99]
def wFlush : Str := [102, 108, 117, 115, 104]
def wState : Str := [115, 116, 97, 116, 101]
def sOk : Str := [111, 107]
def sErr : Str := [101, 114, 114, 111, 114, 32]
/-- The world, what is told, the error. -/
abbrev Ans := Wd × Str × Int
def crashA (x : Wd) : Ans := ((mendOf x (-1) true true true).1, digs (mendOf x (-1) true true true).2.1.toNat, (mendOf x (-1) true true true).2.2)
def mustA (x : Wd) : Ans := (x, listedOf (cellsOf (x.log.take x.safe.toNat)).nat, logErr (x.log.take x.safe.toNat))
def logA (x : Wd) : Ans := (x, digs x.log.length ++ [32] ++ digs x.safe.toNat, 0)
/-- A word without numbers. -/
def showOf (x : Wd) (l : Str) : Option Ans :=
  if l = wCrash then some (crashA x)
  else if l = wNow then some (x, listedOf (pagesOf x.h).cells9.nat, 0)
  else if l = wDisk then some (x, listedOf x.disk.cells9.nat, 0)
  else if l = wMust then some (mustA x)
  else if l = wLog then some (logA x)
  else none
def nth0 (l : List Int) (k : Nat) : Int := (l[k]?).getD 0
/-- A word with numbers. -/
def doWord (x : Wd) (hd : Str) (ns : List Int) : Ans :=
  if hd = wWrite ∧ ns.length = 4 then ((writeTo x (nth0 ns 0) (nth0 ns 1) (nth0 ns 2) (nth0 ns 3)).1, sOk, (writeTo x (nth0 ns 0) (nth0 ns 1) (nth0 ns 2) (nth0 ns 3)).2)
  else if hd = wCommit ∧ ns.length = 1 then ((commitOf x (nth0 ns 0)).1, sOk, (commitOf x (nth0 ns 0)).2)
  else if hd = wAbort ∧ ns.length = 1 then ((abortOf x (nth0 ns 0)).1, sOk, (abortOf x (nth0 ns 0)).2)
  else if hd = wSync ∧ ns.length = 1 then ((syncOf x (nth0 ns 0)).1, sOk, (syncOf x (nth0 ns 0)).2)
  else if hd = wFlush ∧ ns.length = 1 then ((flushOf x (nth0 ns 0)).1, sOk, (flushOf x (nth0 ns 0)).2)
  else if hd = wState ∧ ns.length = 1 then (x, digs (logState x.log (nth0 ns 0)).1.toNat, (logState x.log (nth0 ns 0)).2.2)
  else (x, [], 1)
def hdOf (l : Str) : Str := ((cutAt 32 l)[0]?).getD []
def numsOf (l : Str) : List Int := ((cutAt 32 l).drop 1).map numOf
def lineOf (x : Wd) (l : Str) : Ans := match showOf x l with
  | some r => r
  | none => if (numsOf l).all (fun n => decide (0 ≤ n)) then doWord x (hdOf l) (numsOf l) else (x, [], 1)
/-- The world behind the line, and what is written. -/
def stepW (x : Wd) (l : Str) : Wd := if (lineOf x l).2.2 = 0 then (lineOf x l).1 else x
def stepS (x : Wd) (l : Str) : Str := if (lineOf x l).2.2 = 0 then (lineOf x l).2.1 else sErr ++ digs (lineOf x l).2.2.toNat
def playGo : List Str → Wd → Str → Wd × Str
  | [], x, o => (x, o)
  | l :: ls, x, o => playGo ls (stepW x l) (o ++ (stepS x l ++ [10]))
def linesOf (s : Str) : List Str := (cutAt 10 s).dropLast
def cnt10 (s : Str) : Nat := (s.filter fun c => c == 10).length
def playOf (s : Str) : Str × Int :=
  if 4096 < s.length ∨ 60 < cnt10 s then ([], 2)
  else if s ≠ [] ∧ s.getLast? ≠ some 10 then ([], 1)
  else ((playGo (linesOf s) Wd.zero []).2, 0)
/-! ### Bounds -/
theorem Pg.okC {p : Pg} (h : p.ok = true) : (0 ≤ p.c0 ∧ p.c0 ≤ 99) ∧ (0 ≤ p.c1 ∧ p.c1 ≤ 99) ∧ (0 ≤ p.c2 ∧ p.c2 ≤ 99) := by
  unfold Pg.ok cellsB at h
  simp only [Bool.and_eq_true, wi_iff] at h
  exact h.1
theorem P3.okC {p : P3} (h0 : p.p0.ok = true) (h1 : p.p1.ok = true) (h2 : p.p2.ok = true) : p.cells9.ok := by
  have a := Pg.okC h0
  have b := Pg.okC h1
  have c := Pg.okC h2
  intro x hx
  simp only [P3.cells9, List.mem_cons, List.not_mem_nil, or_false] at hx
  rcases hx with rfl | rfl | rfl | rfl | rfl | rfl | rfl | rfl | rfl <;> omega
theorem Right.okC {h : List R} (hr : Right h) : (pagesOf h).cells9.ok :=
  P3.okC (by simpa [P3.get] using P3.ok_get hr.pok 0) (by simpa [P3.get] using P3.ok_get hr.pok 1) (by simpa [P3.get] using P3.ok_get hr.pok 2)
theorem C9.zero_ok : C9.zero.ok := by
  intro x hx
  simp [C9.zero] at hx
  subst hx
  decide
theorem C9.set_ok {c : C9} (h : c.ok) {p q v : Int} (hv : 0 ≤ v ∧ v ≤ 99) : (c.set p q v).ok := by
  obtain ⟨a0, a1, a2, b0, b1, b2, c0, c1, c2⟩ := c
  simp only [C9.ok, List.mem_cons, List.not_mem_nil, or_false] at h
  have h0 := h a0 (by simp); have h1 := h a1 (by simp); have h2 := h a2 (by simp)
  have h3 := h b0 (by simp); have h4 := h b1 (by simp); have h5 := h b2 (by simp)
  have h6 := h c0 (by simp); have h7 := h c1 (by simp); have h8 := h c2 (by simp)
  unfold C9.set
  intro x hx
  repeat' split at hx
  all_goals
    simp only [List.mem_cons, List.not_mem_nil, or_false] at hx
    rcases hx with rfl | rfl | rfl | rfl | rfl | rfl | rfl | rfl | rfl <;> omega
theorem cellsW_ok (f : Int → Bool) : ∀ {h : List R}, Right h → (cellsW f h).ok
  | [], _ => C9.zero_ok
  | r :: h, hr => by
    obtain ⟨h1, h2, _⟩ := hr.parts
    have ih := cellsW_ok f h1
    unfold cellsW
    split
    · rename_i hk
      refine C9.set_ok ih ?_
      have hb := rec_bounds h2
      have ht : r.turns = true := by simp [R.turns, hk.1]
      have := hb.2.2.2.2.2.2.2.2.1 ht
      omega
    · exact ih
theorem cells_okC {l : List R} : (cellsOf l).ok := by
  unfold cellsOf
  split
  · rename_i h
    exact cellsW_ok _ (log_right h).2
  · exact C9.zero_ok
theorem listed_len {c : C9} (h : c.ok) : (listedOf c.nat).length ≤ 909 := by
  have e : ∀ n ∈ c.nat, n ≤ 99 := by
    intro n hn
    obtain ⟨k, hk⟩ := List.mem_iff_getElem?.1 hn
    have hl : k < 9 := by
      have := (List.getElem?_eq_some_iff.1 hk).1
      simpa [C9.nat] using this
    have := (C9.cl_nat h k hl).2
    rw [hk] at this
    simpa using this
  have h1 := spaced_len c.nat e
  unfold listedOf
  rw [List.length_drop]
  have : c.nat.length = 9 := rfl
  omega
theorem digs_short {n : Nat} (h : n ≤ 99) : (digs n).length ≤ 100 := by
  have := digs_len n
  omega
theorem mend_cnt (x : Wd) : 0 ≤ (mendOf x (-1) true true true).2.1 ∧ (mendOf x (-1) true true true).2.1 ≤ 60 := by
  by_cases h : (mendOf x (-1) true true true).2.2 = 0
  · obtain ⟨_, k, h', _, hk, _, e⟩ := mend_ok h
    rw [e]
    dsimp only
    omega
  · unfold mendOf at h ⊢
    split
    · rename_i h0
      rw [if_pos h0] at h
      split
      · simp
      · rename_i e
        rw [e] at h
        exact absurd rfl h
    · simp
theorem state_bnd {x : Wd} (h : worldErr x = 0) (t : Int) : (0 ≤ (logState x.log t).1 ∧ (logState x.log t).1 ≤ 4) ∧ (0 ≤ (logState x.log t).2.2 ∧ (logState x.log t).2.2 ≤ 9) := by
  unfold logState
  rw [if_pos (world_right h).1]
  split
  · have := stt_le4 x.log.reverse t
    dsimp only
    omega
  · simp
theorem err_write {x : Wd} (h : worldErr x = 0) (t p c v : Int) : 0 ≤ (writeTo x t p c v).2 ∧ (writeTo x t p c v).2 ≤ 9 := by
  unfold writeTo
  rw [if_pos h]
  repeat' split
  all_goals simp
theorem err_commit {x : Wd} (h : worldErr x = 0) (t : Int) : 0 ≤ (commitOf x t).2 ∧ (commitOf x t).2 ≤ 9 := by
  unfold commitOf
  rw [if_pos h]
  repeat' split
  all_goals simp
theorem err_abort {x : Wd} (h : worldErr x = 0) (t : Int) : 0 ≤ (abortOf x t).2 ∧ (abortOf x t).2 ≤ 9 := by
  have hr : 0 ≤ (rollOf x.log t).2 ∧ (rollOf x.log t).2 ≤ 9 := by
    unfold rollOf
    rw [if_pos (world_right h).1]
    repeat' split
    all_goals simp
  unfold abortOf
  rw [if_pos h]
  repeat' split
  all_goals first | exact hr | simp
theorem err_sync {x : Wd} (h : worldErr x = 0) (t : Int) : 0 ≤ (syncOf x t).2 ∧ (syncOf x t).2 ≤ 9 := by
  unfold syncOf
  rw [if_pos h]
  repeat' split
  all_goals simp
theorem err_flush {x : Wd} (h : worldErr x = 0) (t : Int) : 0 ≤ (flushOf x t).2 ∧ (flushOf x t).2 ≤ 9 := by
  unfold flushOf
  rw [if_pos h]
  repeat' split
  all_goals simp
theorem sOk_len : sOk.length ≤ 909 := by decide
structure Fine (x : Wd) (r : Ans) : Prop where
  lo : 0 ≤ r.2.2
  hi : r.2.2 ≤ 9
  ok : r.2.2 = 0 → worldErr r.1 = 0
  len : r.2.1.length ≤ 909
theorem show_fine {x : Wd} (h : worldErr x = 0) {l : Str} {r : Ans} (hr : showOf x l = some r) : Fine x r := by
  obtain ⟨hR, h60, hs, hp0, hp1, hp2⟩ := world_parts h
  unfold showOf at hr
  split at hr
  · obtain rfl := Option.some.inj hr
    have hc := mend_cnt x
    have he := mend_err h (-1) true true true
    exact ⟨by unfold crashA; dsimp only; omega, by unfold crashA; dsimp only; omega, fun e => (mend_grows e).2.1, by
      have := digs_short (n := (mendOf x (-1) true true true).2.1.toNat) (by omega)
      unfold crashA
      dsimp only
      omega⟩
  split at hr
  · obtain rfl := Option.some.inj hr
    exact ⟨Int.le_refl _, Int.natCast_nonneg 9, fun _ => h, listed_len (Right.okC hR)⟩
  split at hr
  · obtain rfl := Option.some.inj hr
    exact ⟨Int.le_refl _, Int.natCast_nonneg 9, fun _ => h, listed_len (P3.okC hp0 hp1 hp2)⟩
  split at hr
  · obtain rfl := Option.some.inj hr
    have e : logErr (x.log.take x.safe.toNat) = 0 := take_right (world_right h).1 _
    exact ⟨by unfold mustA; dsimp only; omega, by unfold mustA; dsimp only; omega, fun _ => h, listed_len cells_okC⟩
  split at hr
  · obtain rfl := Option.some.inj hr
    have h1 := digs_short (n := x.log.length) (by omega)
    have h2 := digs_short (n := x.safe.toNat) (by omega)
    exact ⟨Int.le_refl _, by unfold logA; dsimp only; decide, fun _ => h, by unfold logA; dsimp only; rw [List.length_append, List.length_append, List.length_singleton]; omega⟩
  · cases hr
theorem word_fine {x : Wd} (h : worldErr x = 0) (hd : Str) (ns : List Int) : Fine x (doWord x hd ns) := by
  have g : ∀ a : Ac, (doOf x a).2 = 0 → worldErr (doOf x a).1 = 0 := fun a e => (do_grows e).2.1
  unfold doWord
  split
  · have e := err_write h (nth0 ns 0) (nth0 ns 1) (nth0 ns 2) (nth0 ns 3)
    exact ⟨e.1, e.2, g ⟨1, nth0 ns 0, nth0 ns 1, nth0 ns 2, nth0 ns 3⟩, sOk_len⟩
  split
  · have e := err_commit h (nth0 ns 0)
    exact ⟨e.1, e.2, g ⟨2, nth0 ns 0, 0, 0, 0⟩, sOk_len⟩
  split
  · have e := err_abort h (nth0 ns 0)
    exact ⟨e.1, e.2, g ⟨3, nth0 ns 0, 0, 0, 0⟩, sOk_len⟩
  split
  · have e := err_sync h (nth0 ns 0)
    exact ⟨e.1, e.2, g ⟨4, 0, 0, 0, nth0 ns 0⟩, sOk_len⟩
  split
  · have e := err_flush h (nth0 ns 0)
    exact ⟨e.1, e.2, g ⟨5, 0, nth0 ns 0, 0, 0⟩, sOk_len⟩
  split
  · obtain ⟨e1, e2⟩ := state_bnd h (nth0 ns 0)
    have := digs_short (n := (logState x.log (nth0 ns 0)).1.toNat) (by omega)
    exact ⟨e2.1, e2.2, fun _ => h, by dsimp only; omega⟩
  · exact ⟨Int.natCast_nonneg 1, by show (1 : Int) ≤ 9; decide, fun _ => h, by simp⟩
theorem line_fine {x : Wd} (h : worldErr x = 0) (l : Str) : Fine x (lineOf x l) := by
  unfold lineOf
  split
  · rename_i r hr
    exact show_fine h hr
  · split
    · exact word_fine h _ _
    · exact ⟨Int.natCast_nonneg 1, by show (1 : Int) ≤ 9; decide, fun _ => h, by simp⟩
theorem step_right {x : Wd} (h : worldErr x = 0) (l : Str) : worldErr (stepW x l) = 0 := by
  unfold stepW
  split
  · rename_i e
    exact (line_fine h l).ok e
  · exact h
theorem step_len {x : Wd} (h : worldErr x = 0) (l : Str) : (stepS x l).length ≤ 909 := by
  have hf := line_fine h l
  unfold stepS
  split
  · exact hf.len
  · have := digs_short (n := (lineOf x l).2.2.toNat) (by have := hf.hi; have := hf.lo; omega)
    have e : sErr.length = 6 := rfl
    rw [List.length_append]
    omega
end Go.Proofs.YtapkelocligmdaaGreatDoor
