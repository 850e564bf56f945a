/- Scripts: what a world that fits holds of the library's variables; how the law follows. No condition. -/
import Derived.Test.YtapkelocligmdaaGreatDoorGm
import Derived.Test.YtapkelocligmdaaGreatDoorP4
import Derived.HandedShaped
import Derived.Stop.LaidErr
import Derived.Shelf.Vars
import Derived.ChangeMaps5
section
set_option maxRecDepth 100000
set_option linter.unusedVariables false
set_option linter.unusedSimpArgs false
set_option linter.unusedSectionVars false
set_option maxHeartbeats 4000000
namespace Go.Proofs.YtapkelocligmdaaGreatDoor
open Go.RowKit Go.Joins
def dbIn : Str := [119, 114, 105, 116, 101, 32, 49, 32, 48, 32, 48, 32, 53, 10, 102, 108, 117, 115, 104, 32, 48, 10, 119, 114, 105, 116, 101, 32, 50, 32, 48, 32, 48, 32, 54, 10, 119, 114, 105, 116, 101, 32, 50, 32, 49, 32, 50, 32, 55, 10, 99, 111, 109, 109, 105, 116, 32, 50, 10, 99, 111, 109, 109, 105, 116, 32, 50, 10, 119, 114, 105, 116, 101, 32, 51, 32, 50, 32, 49, 32, 57, 10, 110, 111, 119, 10, 100, 105, 115, 107, 10, 109, 117, 115, 116, 10, 108, 111, 103, 10, 115, 116, 97, 116, 101, 32, 49, 10, 99, 114, 97, 115, 104, 10, 110, 111, 119, 10, 115, 116, 97, 116, 101, 32, 49, 10, 115, 116, 97, 116, 101, 32, 51, 10, 108, 111, 103, 10, 97, 98, 111, 114, 116, 32, 51, 10, 115, 121, 110, 99, 32, 57, 10, 120, 10]
def dbOut : Str := [111, 107, 10, 111, 107, 10, 101, 114, 114, 111, 114, 32, 53, 10, 111, 107, 10, 111, 107, 10, 101, 114, 114, 111, 114, 32, 54, 10, 111, 107, 10, 53, 32, 48, 32, 48, 32, 48, 32, 48, 32, 55, 32, 48, 32, 57, 32, 48, 10, 53, 32, 48, 32, 48, 32, 48, 32, 48, 32, 48, 32, 48, 32, 48, 32, 48, 10, 48, 32, 48, 32, 48, 32, 48, 32, 48, 32, 55, 32, 48, 32, 48, 32, 48, 10, 53, 32, 51, 10, 49, 10, 51, 10, 48, 32, 48, 32, 48, 32, 48, 32, 48, 32, 55, 32, 48, 32, 48, 32, 48, 10, 52, 10, 48, 10, 54, 32, 54, 10, 101, 114, 114, 111, 114, 32, 55, 10, 101, 114, 114, 111, 114, 32, 51, 10, 101, 114, 114, 111, 114, 32, 49, 10]
theorem db_ok : playOf dbIn = (dbOut, 0) := by decide +kernel

theorem w_deskBegun (w : World) (hg : Gl w) : Ret Tryz.prog 6 [] w (.bool true) := by
 refine enter Tryz.func6 rfl Tryz.ntmps6 rfl SF.top trivial ?_
 refine sR ?_
 refine pA rfl rfl ?_
 refine nN ?_
 refine sR ?_
 refine WL.eff (E.call Tryz.call4 rfl (fun _ w s => (by have hh := w_play dbIn w (by decide) (hg.below s.low); rw [db_ok] at hh; exact hh)) rfl) rfl (fun _ => ?_)
 refine pM rfl rfl ?_
 refine pP (Y.extract rfl rfl) rfl ?_
 refine pP (Y.extract rfl rfl) rfl ?_
 refine pA rfl rfl ?_
 refine pA rfl rfl ?_
 refine nN ?_
 refine sR ?_
 refine pM rfl rfl ?_
 refine pP (Y.eql rfl rfl) rfl ?_
 refine pM rfl rfl ?_
 refine WL.known (t := 9) (r := true) rfl (by decide) ?_
 refine gT rfl ?_
 refine pM rfl rfl ?_
 refine gT rfl ?_
 refine pP (Y.eqU (a := dbOut) (b := dbOut) rfl rfl rfl) rfl ?_
 refine pP (Y.pickT rfl rfl) rfl ?_
 refine pA rfl rfl ?_
 refine nN ?_
 refine WC.ret ?_
 refine dn1 Tryz.results6 rfl (fun a w s => ?_)
 · refine ⟨?_, s.low⟩
   simp [packed]

theorem w_DeskPlays (s9 : Str) (w : World) (hl9 : s9.length ≤ 281474976710656) (hg : Gl w) : Ret Tryz.prog 3 [su s9] w (.bool true) := by
 refine enter Tryz.func3 rfl Tryz.ntmps3 rfl SF.top trivial ?_
 refine sR ?_
 refine pA rfl rfl ?_
 refine nN ?_
 refine sR ?_
 refine pM rfl rfl ?_
 refine WL.eff (E.call Tryz.call4 rfl (fun _ w s => w_play s9 w hl9 (hg.below s.low)) rfl) rfl (fun _ => ?_)
 refine pM rfl rfl ?_
 refine pP (Y.extract rfl rfl) rfl ?_
 refine pP (Y.extract rfl rfl) rfl ?_
 refine pA rfl rfl ?_
 refine pA rfl rfl ?_
 refine nN ?_
 refine sR ?_
 refine pM rfl rfl ?_
 refine WL.eff (E.call Tryz.call5 rfl (fun _ w s => w_playOf s9 w hl9) rfl) rfl (fun _ => ?_)
 refine pM rfl rfl ?_
 refine pP (Y.extract rfl rfl) rfl ?_
 refine pP (Y.extract rfl rfl) rfl ?_
 refine pA rfl rfl ?_
 refine pA rfl rfl ?_
 refine nN ?_
 refine sR ?_
 refine WL.eff (E.call Tryz.call6 rfl (fun _ w s => w_deskBegun w (hg.below s.low)) rfl) rfl (fun _ => ?_)
 refine pM rfl rfl ?_
 refine gT rfl ?_
 refine pM rfl rfl ?_
 refine gT rfl ?_
 refine pM rfl rfl ?_
 refine gT rfl ?_
 refine pP (Y.eqU (a := (playOf s9).1) (b := (playOf s9).1) rfl rfl rfl) rfl ?_
 refine pP (Y.pickT rfl rfl) rfl ?_
 refine pM rfl rfl ?_
 refine WL.known (t := 23) (r := true) rfl (by simp) ?_
 refine gT rfl ?_
 refine pM rfl rfl ?_
 refine gT rfl ?_
 refine pM rfl rfl ?_
 refine gT rfl ?_
 refine pP (Y.eql rfl rfl) rfl ?_
 refine pP (Y.pickT rfl rfl) rfl ?_
 refine pA rfl rfl ?_
 refine nN ?_
 refine WC.ret ?_
 refine dn1 Tryz.results3 rfl (fun a w s => ?_)
 · refine ⟨?_, s.low⟩
   simp [packed]
end Go.Proofs.YtapkelocligmdaaGreatDoor
end
section
set_option linter.unusedVariables false
set_option linter.unusedSimpArgs false
set_option linter.unusedSectionVars false
set_option maxRecDepth 100000
namespace Go.Proofs.YtapkelocligmdaaGreatDoor
open Go.ChangeShapes Go.WideShapes Go.ChangeAt Go.RowKit
theorem nErrRange : Tryz.prog.globalNamed "strconv.ErrRange" = some 3 := by kernel_rfl
theorem nErrSyntax : Tryz.prog.globalNamed "strconv.ErrSyntax" = some 2 := by kernel_rfl
theorem nPow10 : Tryz.prog.globalNamed "internal/strconv.uint64pow10" = some 1 := by kernel_rfl
theorem errStar : "*" ++ "errors.errorString" = "*errors.errorString" := by decide
theorem rowErr (u : TypeId) (h : Tryz.prog.typeName? 3 u = some "*errors.errorString") : u = 203 :=
  typeName_ptr_named (nm := "errors.errorString") (by rw [errStar]; kernel_rfl) (by kernel_rfl) (by decide) u (by rw [errStar]; exact h)
/-- What a world that fits holds of the library's variables. -/
theorem gl_of {W : World} (hsh : W.ShapedOpen Tryz.prog) (hL : laidMet Tryz.prog Rows.deskPlaysRow.laid W) : Gl W := by
  have c205 : Tryz.prog.cellsOf 205 = 1 := by kernel_rfl
  have c9 : Tryz.prog.cellsOf 9 = 1 := by kernel_rfl
  obtain ⟨a0, s0, h0, _⟩ := laid_sentinel hL.tail.tail.tail.tail nErrRange (by kernel_rfl : (Tryz.prog.globals[3]?).map (·.type) = some 48) Tryz.underlying48 rowErr Tryz.underlying203 Tryz.underlying205 rfl rfl Tryz.underlying9 c205 c9
  obtain ⟨a1, s1, h1, _⟩ := laid_sentinel hL.tail.tail.tail.tail.tail nErrSyntax (by kernel_rfl : (Tryz.prog.globals[2]?).map (·.type) = some 48) Tryz.underlying48 rowErr Tryz.underlying203 Tryz.underlying205 rfl rfl Tryz.underlying9 c205 c9
  have ht := hL.tail.tail
  exact ⟨cell_of_shapedOpen_int (P := Tryz.prog) (g := 0) (t := 3) (zero := #[.int .i64 0]) hsh (of_decide_eq_true (by kernel_rfl)) (by kernel_rfl) rfl (by kernel_rfl) (by kernel_rfl) (by kernel_rfl),
    ⟨_, World.var?_cell nErrSyntax h1 0, .inr ⟨_, _, rfl⟩⟩, ⟨_, World.var?_cell nErrRange h0 0, .inr ⟨_, _, rfl⟩⟩,
    Lib.tabIs_of_head (g := 1) (t := 181) (e := 157) (n := 20) (zs := Lib.pow10Tab) nPow10 (by kernel_rfl) (by kernel_rfl) (by kernel_rfl) (by kernel_rfl) (by kernel_rfl) ht⟩
section
variable {H : Type} {enc : TypeId × Value → H}
/-- From calls to a statement, with a condition on the world that comes in, and its shape. -/
theorem returns_shaped_and {a : Assume} {C : Checked} {os : Os} {f : FuncId} {fn : Func} {s : ChangeSpec} {conds : List PathCond} {apart fresh handsOn again : Bool} {X : World → Array Value → Prop}
    (hX : ∀ (w w' : World) (args : Array Value), w.heap = w'.heap → X w args → X w' args)
    (own : ownKnob C.prog.godebug = none) (started : os.Started) (noInit : C.prog.inits.idxOf? f = none) (hfn : C.prog.funcs[f]? = some fn)
    (witness : ∃ (w : World) (tape : Tape) (i : Input), w.os = os ∧ (w.forCall tape i).Shaped C.prog ∧ i.vars = [] ∧ Input.okWide C.prog (w.forCall tape i) .any w.heap.size f i ∧
      ((s.pre enc C.prog fn conds apart (w.forCall tape i).memory i.args ∧ X (w.forCall tape i).memory i.args) ∧ sizedMet enc C.prog fn (OpenSpec.ofChange s) apart (w.forCall tape i).memory i.args) ∧ a.holds C.prog (lone (Frame.enter C.prog f i.args .normal) [] (w.forCall tape i)))
    (contract : ∀ (W : World) (base : Nat) (args : Array Value) (ds gs : List (DataW H)) (before : List MemPlace),
      (∀ (j : Nat) t v, fn.params[j]? = some t → args[j]? = some v → Value.okWide C.prog W .any base t v) →
      DataW.Whole enc C.prog fn.params.toList s.vars apart W args.toList ds gs before →
      (DataW.weightsEach C.prog (fn.params.toList ++ s.plain.varTypes C.prog) (ds ++ gs)).all (· ≤ reachBytes) = true → X W args → W.ShapedOpen C.prog →
      Calls C.prog f args W fun e W' => ∃ v, e = .returned v ∧ s.post enc C.prog fn apart fresh handsOn again W args v W') :
    ReturnsInHanded a C os f .any (fun w args => (s.pre enc C.prog fn conds apart w args ∧ X w args) ∧ sizedMet enc C.prog fn (OpenSpec.ofChange s) apart w args) (s.post enc C.prog fn apart fresh handsOn again) := by
  refine returnsInHanded_of_calls own started noInit witness ?_
  intro w tape i _ hsh _ hok hpre hholds
  obtain ⟨_, _, _, fn', hfn', _, _, _, _, hval⟩ := hok
  have e : fn' = fn := Option.some.inj (hfn'.symm.trans hfn)
  subst e
  obtain ⟨⟨⟨ds, gs, before, hw, hc⟩, hx⟩, hz⟩ := hpre
  have hw' := DataW.Whole.of_heap (w' := w.forCall tape i) (by rfl) hw
  refine (contract (w.forCall tape i) w.heap.size i.args ds gs before hval hw' (hz.weights hw) (hX _ _ _ (by rfl) hx) hsh).mono fun e W' ⟨v, he, hp⟩ => ?_
  subst he
  exact ChangeSpec.post_blind hp
end
end Go.Proofs.YtapkelocligmdaaGreatDoor
end
