/- The program's opening word, spelled letter by letter: closed facts on it that the kernel meets cheaply. No condition. -/
import Derived.Test.YtapkelocligmdaaGreatDoorRows
import Derived.JoinedOf
namespace Go.Proofs.YtapkelocligmdaaGreatDoor.ini
theorem ws_word (b : List Char) : ∀ a : List Char, a.all (fun c => c != .ofNat 32) = true → wordsSigns (a ++ .ofNat 32 :: b) = a :: wordsSigns b
  | [], _ => rfl
  | c :: a, h => by
    simp only [List.all_cons, Bool.and_eq_true] at h
    have ih := ws_word b a h.2
    have hc : c ≠ .ofNat 32 := by simpa using h.1
    show wordsSigns (c :: (a ++ .ofNat 32 :: b)) = _
    rw [wordsSigns.eq_3 _ _ hc, ih]
def s0 : List Char := [.ofNat 104, .ofNat 97, .ofNat 114, .ofNat 110, .ofNat 101, .ofNat 115, .ofNat 115]
def s1 : List Char := [.ofNat 97, .ofNat 51, .ofNat 101, .ofNat 99, .ofNat 102, .ofNat 99, .ofNat 100, .ofNat 99, .ofNat 54, .ofNat 55, .ofNat 56, .ofNat 102, .ofNat 51, .ofNat 99, .ofNat 98, .ofNat 49, .ofNat 55, .ofNat 100, .ofNat 49, .ofNat 101, .ofNat 48, .ofNat 99, .ofNat 99, .ofNat 54, .ofNat 102, .ofNat 51, .ofNat 56, .ofNat 57, .ofNat 55, .ofNat 55, .ofNat 57, .ofNat 50, .ofNat 53, .ofNat 98, .ofNat 54, .ofNat 50, .ofNat 48, .ofNat 100, .ofNat 48, .ofNat 55, .ofNat 99, .ofNat 48, .ofNat 101, .ofNat 54, .ofNat 50, .ofNat 102, .ofNat 50, .ofNat 102, .ofNat 48, .ofNat 99, .ofNat 101, .ofNat 55, .ofNat 57, .ofNat 98, .ofNat 54, .ofNat 97, .ofNat 102, .ofNat 57, .ofNat 55, .ofNat 56, .ofNat 48, .ofNat 102, .ofNat 102, .ofNat 56]
def s2 : List Char := [.ofNat 99, .ofNat 117, .ofNat 116]
def s3 : List Char := [.ofNat 97, .ofNat 116, .ofNat 32, .ofNat 99, .ofNat 114, .ofNat 111, .ofNat 102, .ofNat 116, .ofNat 47, .ofNat 99, .ofNat 114, .ofNat 111, .ofNat 102, .ofNat 116, .ofNat 108, .ofNat 97, .ofNat 119, .ofNat 46, .ofNat 68, .ofNat 101, .ofNat 115, .ofNat 107, .ofNat 80, .ofNat 108, .ofNat 97, .ofNat 121, .ofNat 115]
theorem word : Tryz.prog.initOrder = String.ofList (s0 ++ .ofNat 32 :: (s1 ++ .ofNat 32 :: (s2 ++ .ofNat 32 :: s3))) := by kernel_rfl
theorem list : wordsSigns Tryz.prog.initOrder.toList = s0 :: s1 :: s2 :: wordsSigns s3 := by
  rw [word, String.toList_ofList, ws_word _ s0 (by decide +kernel), ws_word _ s1 (by decide +kernel), ws_word _ s2 (by decide +kernel)]
theorem make_of (P : Program) (R : List (List Char)) (h : wordsSigns P.initOrder.toList = s0 :: s1 :: s2 :: R) : P.make = some .cut := by
  unfold Program.make
  rw [h]
  kernel_rfl
theorem make : Tryz.prog.make = some .cut := make_of _ _ list
theorem strip (R : List (List Char)) : stripLifts liftWords (s2 :: R) = ([], s2 :: R) := by kernel_rfl
theorem behind (R : List (List Char)) : behindMainWord (s0 :: s1 :: s2 :: R) = s2 :: R := by kernel_rfl
theorem mayEnter_of (P : Program) (R : List (List Char)) (h : wordsSigns P.initOrder.toList = s0 :: s1 :: s2 :: R) (h1 : P.laysLater = false) (h2 : P.bearsReflect = false) (h3 : P.doorFits [] = true) : P.mayEnter = true := by
  unfold Program.mayEnter
  rw [h, behind]
  simp only [strip, h1, h2, h3]
  have e : ((s2 :: R).head? == some "cut".toList) = true := by kernel_rfl
  rw [e]
  simp
theorem liftsFinal_of (P : Program) (R : List (List Char)) (h : wordsSigns P.initOrder.toList = s0 :: s1 :: s2 :: R) : P.liftsFinal = false := by
  unfold Program.liftsFinal Program.headLifts
  rw [h, behind]
  simp only [strip]
  kernel_rfl
theorem laysLater : Tryz.prog.laysLater = false := by kernel_rfl
theorem bearsReflect : Tryz.prog.bearsReflect = false := by kernel_rfl
theorem doorFits : Tryz.prog.doorFits [] = true := by kernel_rfl
theorem mayEnter : Tryz.prog.mayEnter = true := mayEnter_of _ _ list laysLater bearsReflect doorFits
theorem liftsFinal : Tryz.prog.liftsFinal = false := liftsFinal_of _ _ list
/-- The facts on the program alone, which each statement's row asks: met once, for all rows. -/
theorem makeb : (Tryz.prog.make == some .cut) = true := by rw [make]; rfl
theorem liftsb : (false == Tryz.prog.liftsFinal) = true := by rw [liftsFinal]; rfl
theorem laidOut : laidOutB Tryz.prog = true := by kernel_rfl
theorem rowed : mapsRowed Tryz.prog = true := by kernel_rfl
theorem keys : Tryz.prog.plainKeys = false := by kernel_rfl
theorem heard : Tryz.prog.stopsHeard = true := by kernel_rfl
end Go.Proofs.YtapkelocligmdaaGreatDoor.ini
