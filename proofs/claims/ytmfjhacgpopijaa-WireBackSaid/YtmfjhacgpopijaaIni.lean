/- The program's opening word, spelled letter by letter: closed facts on it that the kernel meets cheaply. No condition. -/
import Derived.Test.YtmfjhacgpopijaaRows
import Derived.JoinedOf
namespace Go.Proofs.Ytmfjhacgpopijaa.ini
theorem ws_word (b : List Char) : ∀ a : List Char, a.all (fun c => c != .ofNat 32) = true → wordsSigns (a ++ .ofNat 32 :: b) = a :: wordsSigns b
  | [], _ => rfl
  | c :: a, h => by
    simp only [List.all_cons, Bool.and_eq_true] at h
    have ih := ws_word b a h.2
    have hc : c ≠ .ofNat 32 := by simpa using h.1
    show wordsSigns (c :: (a ++ .ofNat 32 :: b)) = _
    rw [wordsSigns.eq_3 _ _ hc, ih]
def s0 : List Char := [.ofNat 104, .ofNat 97, .ofNat 114, .ofNat 110, .ofNat 101, .ofNat 115, .ofNat 115]
def s1 : List Char := [.ofNat 101, .ofNat 98, .ofNat 54, .ofNat 53, .ofNat 50, .ofNat 56, .ofNat 57, .ofNat 49, .ofNat 48, .ofNat 49, .ofNat 99, .ofNat 48, .ofNat 52, .ofNat 102, .ofNat 102, .ofNat 98, .ofNat 100, .ofNat 102, .ofNat 51, .ofNat 52, .ofNat 51, .ofNat 48, .ofNat 102, .ofNat 48, .ofNat 51, .ofNat 102, .ofNat 57, .ofNat 55, .ofNat 52, .ofNat 52, .ofNat 99, .ofNat 53, .ofNat 102, .ofNat 48, .ofNat 48, .ofNat 98, .ofNat 100, .ofNat 50, .ofNat 100, .ofNat 100, .ofNat 98, .ofNat 48, .ofNat 48, .ofNat 101, .ofNat 52, .ofNat 102, .ofNat 51, .ofNat 101, .ofNat 52, .ofNat 98, .ofNat 54, .ofNat 53, .ofNat 56, .ofNat 49, .ofNat 48, .ofNat 99, .ofNat 55, .ofNat 49, .ofNat 53, .ofNat 55, .ofNat 99, .ofNat 97, .ofNat 99, .ofNat 97]
def s2 : List Char := [.ofNat 99, .ofNat 117, .ofNat 116]
def s3 : List Char := [.ofNat 97, .ofNat 116, .ofNat 32, .ofNat 99, .ofNat 114, .ofNat 111, .ofNat 102, .ofNat 116, .ofNat 47, .ofNat 99, .ofNat 114, .ofNat 111, .ofNat 102, .ofNat 116, .ofNat 108, .ofNat 97, .ofNat 119, .ofNat 46, .ofNat 87, .ofNat 105, .ofNat 114, .ofNat 101, .ofNat 87, .ofNat 114, .ofNat 105, .ofNat 116, .ofNat 101, .ofNat 115, .ofNat 32, .ofNat 99, .ofNat 114, .ofNat 111, .ofNat 102, .ofNat 116, .ofNat 47, .ofNat 99, .ofNat 114, .ofNat 111, .ofNat 102, .ofNat 116, .ofNat 108, .ofNat 97, .ofNat 119, .ofNat 46, .ofNat 87, .ofNat 105, .ofNat 114, .ofNat 101, .ofNat 66, .ofNat 97, .ofNat 99, .ofNat 107]
theorem word : Try.prog.initOrder = String.ofList (s0 ++ .ofNat 32 :: (s1 ++ .ofNat 32 :: (s2 ++ .ofNat 32 :: s3))) := by kernel_rfl
theorem list : wordsSigns Try.prog.initOrder.toList = s0 :: s1 :: s2 :: wordsSigns s3 := by
  rw [word, String.toList_ofList, ws_word _ s0 (by decide +kernel), ws_word _ s1 (by decide +kernel), ws_word _ s2 (by decide +kernel)]
theorem make_of (P : Program) (R : List (List Char)) (h : wordsSigns P.initOrder.toList = s0 :: s1 :: s2 :: R) : P.make = some .cut := by
  unfold Program.make
  rw [h]
  kernel_rfl
theorem make : Try.prog.make = some .cut := make_of _ _ list
theorem strip (R : List (List Char)) : stripLifts liftWords (s2 :: R) = ([], s2 :: R) := by kernel_rfl
theorem behind (R : List (List Char)) : behindMainWord (s0 :: s1 :: s2 :: R) = s2 :: R := by kernel_rfl
theorem mayEnter_of (P : Program) (R : List (List Char)) (h : wordsSigns P.initOrder.toList = s0 :: s1 :: s2 :: R) (h1 : P.laysLater = false) (h2 : P.bearsReflect = false) (h3 : P.doorFits [] = true) : P.mayEnter = true := by
  unfold Program.mayEnter
  rw [h, behind]
  simp only [strip, h1, h2, h3]
  have e : ((s2 :: R).head? == some "cut".toList) = true := by kernel_rfl
  rw [e]
  simp
theorem liftsFinal_of (P : Program) (R : List (List Char)) (h : wordsSigns P.initOrder.toList = s0 :: s1 :: s2 :: R) : P.liftsFinal = false := by
  unfold Program.liftsFinal Program.headLifts
  rw [h, behind]
  simp only [strip]
  kernel_rfl
theorem laysLater : Try.prog.laysLater = false := by kernel_rfl
theorem bearsReflect : Try.prog.bearsReflect = false := by kernel_rfl
theorem doorFits : Try.prog.doorFits [] = true := by kernel_rfl
theorem mayEnter : Try.prog.mayEnter = true := mayEnter_of _ _ list laysLater bearsReflect doorFits
theorem liftsFinal : Try.prog.liftsFinal = false := liftsFinal_of _ _ list
/-- The facts on the program alone, which each statement's row asks: met once, for all rows. -/
theorem makeb : (Try.prog.make == some .cut) = true := by rw [make]; rfl
theorem liftsb : (false == Try.prog.liftsFinal) = true := by rw [liftsFinal]; rfl
theorem laidOut : laidOutB Try.prog = true := by kernel_rfl
theorem rowed : mapsRowed Try.prog = true := by kernel_rfl
theorem keys : Try.prog.plainKeys = false := by kernel_rfl
theorem heard : Try.prog.stopsHeard = true := by kernel_rfl
end Go.Proofs.Ytmfjhacgpopijaa.ini
