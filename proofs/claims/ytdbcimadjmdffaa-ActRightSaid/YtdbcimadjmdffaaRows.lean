/-
  No cell of these rows narrows 'for every input' (looked for: loops, veiled, ifaces, maps, wideKeys, modest, calm, conditions, laid).
  DERIVED. THE GIVEN ROWS OF THIS SEAT. 39 by the template 'for every input the law returns true; each argument reads behind the call as it read before'; 0 by the template 'total and deterministic' (their statements: YtdbcimadjmdffaaTotals.lean).
  GIVEN WITH THE SEED: the statements are not yours to turn. If you find one false, say at which input.
  Laid BY PROGRAM, IN A SANDBOX (cutbox-rows.mjs): the forced cells as the released guide's own fill.sh prints them over the translation 27f19e86ce734906… (all of the seat's roots in one cut). By AI agents, Wed Nov 11 2026. No macro, syntax, notation, axiom, sorry.
-/
import Derived.Test.YtdbcimadjmdffaaChecked
import GoSem.Claim
import GoSem.ClaimJoined
import GoSem.ClaimMapViews
import Derived.JoinedTies
import Derived.KernelRfl
namespace Go.Proofs.Ytdbcimadjmdffaa
/- THE CELL 'sum', in the pinned program and in every row, IS THE sha256 OF THE DUMP (.gsa) THAT YtdbcimadjmdffaaProg.lean LOADS. Nothing in Lean hashes anything: it is a label: what it is worth is what the hold of that sum in a sandbox is worth. -/
noncomputable def Try.pinned : Pinned := { name := "ytdbcimadjmdffaa", sum := "27f19e86ce7349062259d8bdb8c00bd7ec1128a6e35cb8e4a551022bcfd4e83d", checked := Try.checked }
namespace Rows
def none {H : Type} : Left H := { results := [], args := [] }

/-- 'croftlaw.PageTells': WHATEVER THE INPUT: true; the input reads as it did. -/
def pageTellsSpec : ChangeSpec := { name := "pageTells", fn := fun _ => fun
  | [d1, d2, d3, d4, d5] => { results := [.lit (.bool true)], args := [d1, d2, d3, d4, d5] }
  | _ => none }
def pageTellsRow : OpenClaim := { program := "ytdbcimadjmdffaa", sum := "27f19e86ce7349062259d8bdb8c00bd7ec1128a6e35cb8e4a551022bcfd4e83d", func := "croft/croftlaw.PageTells", spec := "pageTells", unfollowed := true, recurses := true, plainKeys := false, apart := false }
def PageTellsSaid : Prop := pageTellsRow.holds Try.pinned (OpenSpec.ofChange pageTellsSpec)

/-- ITS FALSE NEIGHBOUR: 'it returns false'. Refute it at one input. -/
def pageTellsWrong : ChangeSpec := { name := "pageTells", fn := fun _ => fun
  | [d1, d2, d3, d4, d5] => { results := [.lit (.bool false)], args := [d1, d2, d3, d4, d5] }
  | _ => none }
def PageTellsWrongFalsely : Prop := pageTellsRow.holds Try.pinned (OpenSpec.ofChange pageTellsWrong)

/-- 'croftlaw.PageTrue': WHATEVER THE INPUT: true; the input reads as it did. -/
def pageTrueSpec : ChangeSpec := { name := "pageTrue", fn := fun _ => fun
  | [d1, d2, d3, d4] => { results := [.lit (.bool true)], args := [d1, d2, d3, d4] }
  | _ => none }
def pageTrueRow : OpenClaim := { program := "ytdbcimadjmdffaa", sum := "27f19e86ce7349062259d8bdb8c00bd7ec1128a6e35cb8e4a551022bcfd4e83d", func := "croft/croftlaw.PageTrue", spec := "pageTrue", unfollowed := true, recurses := true, plainKeys := false, apart := false }
def PageTrueSaid : Prop := pageTrueRow.holds Try.pinned (OpenSpec.ofChange pageTrueSpec)

/-- ITS FALSE NEIGHBOUR: 'it returns false'. Refute it at one input. -/
def pageTrueWrong : ChangeSpec := { name := "pageTrue", fn := fun _ => fun
  | [d1, d2, d3, d4] => { results := [.lit (.bool false)], args := [d1, d2, d3, d4] }
  | _ => none }
def PageTrueWrongFalsely : Prop := pageTrueRow.holds Try.pinned (OpenSpec.ofChange pageTrueWrong)

/-- 'croftlaw.RecTells': WHATEVER THE INPUT: true; the input reads as it did. -/
def recTellsSpec : ChangeSpec := { name := "recTells", fn := fun _ => fun
  | [d1, d2] => { results := [.lit (.bool true)], args := [d1, d2] }
  | _ => none }
def recTellsRow : OpenClaim := { program := "ytdbcimadjmdffaa", sum := "27f19e86ce7349062259d8bdb8c00bd7ec1128a6e35cb8e4a551022bcfd4e83d", func := "croft/croftlaw.RecTells", spec := "recTells", unfollowed := true, recurses := true, plainKeys := false, apart := false }
def RecTellsSaid : Prop := recTellsRow.holds Try.pinned (OpenSpec.ofChange recTellsSpec)

/-- ITS FALSE NEIGHBOUR: 'it returns false'. Refute it at one input. -/
def recTellsWrong : ChangeSpec := { name := "recTells", fn := fun _ => fun
  | [d1, d2] => { results := [.lit (.bool false)], args := [d1, d2] }
  | _ => none }
def RecTellsWrongFalsely : Prop := recTellsRow.holds Try.pinned (OpenSpec.ofChange recTellsWrong)

/-- 'croftlaw.RecTrue': WHATEVER THE INPUT: true; the input reads as it did. -/
def recTrueSpec : ChangeSpec := { name := "recTrue", fn := fun _ => fun
  | [d1, d2, d3] => { results := [.lit (.bool true)], args := [d1, d2, d3] }
  | _ => none }
def recTrueRow : OpenClaim := { program := "ytdbcimadjmdffaa", sum := "27f19e86ce7349062259d8bdb8c00bd7ec1128a6e35cb8e4a551022bcfd4e83d", func := "croft/croftlaw.RecTrue", spec := "recTrue", unfollowed := true, recurses := true, plainKeys := false, apart := false }
def RecTrueSaid : Prop := recTrueRow.holds Try.pinned (OpenSpec.ofChange recTrueSpec)

/-- ITS FALSE NEIGHBOUR: 'it returns false'. Refute it at one input. -/
def recTrueWrong : ChangeSpec := { name := "recTrue", fn := fun _ => fun
  | [d1, d2, d3] => { results := [.lit (.bool false)], args := [d1, d2, d3] }
  | _ => none }
def RecTrueWrongFalsely : Prop := recTrueRow.holds Try.pinned (OpenSpec.ofChange recTrueWrong)

/-- 'croftlaw.LogChecks': WHATEVER THE INPUT: true; the input reads as it did. -/
def logChecksSpec : ChangeSpec := { name := "logChecks", fn := fun _ => fun
  | [d] => { results := [.lit (.bool true)], args := [d] }
  | _ => none }
def logChecksRow : OpenClaim := { program := "ytdbcimadjmdffaa", sum := "27f19e86ce7349062259d8bdb8c00bd7ec1128a6e35cb8e4a551022bcfd4e83d", func := "croft/croftlaw.LogChecks", spec := "logChecks", unfollowed := true, recurses := true, plainKeys := false, apart := false }
def LogChecksSaid : Prop := logChecksRow.holds Try.pinned (OpenSpec.ofChange logChecksSpec)

/-- ITS FALSE NEIGHBOUR: 'it returns false'. Refute it at one input. -/
def logChecksWrong : ChangeSpec := { name := "logChecks", fn := fun _ => fun
  | [d] => { results := [.lit (.bool false)], args := [d] }
  | _ => none }
def LogChecksWrongFalsely : Prop := logChecksRow.holds Try.pinned (OpenSpec.ofChange logChecksWrong)

/-- 'croftlaw.LogPages': WHATEVER THE INPUT: true; the input reads as it did. -/
def logPagesSpec : ChangeSpec := { name := "logPages", fn := fun _ => fun
  | [d] => { results := [.lit (.bool true)], args := [d] }
  | _ => none }
def logPagesRow : OpenClaim := { program := "ytdbcimadjmdffaa", sum := "27f19e86ce7349062259d8bdb8c00bd7ec1128a6e35cb8e4a551022bcfd4e83d", func := "croft/croftlaw.LogPages", spec := "logPages", unfollowed := true, recurses := true, plainKeys := false, apart := false }
def LogPagesSaid : Prop := logPagesRow.holds Try.pinned (OpenSpec.ofChange logPagesSpec)

/-- ITS FALSE NEIGHBOUR: 'it returns false'. Refute it at one input. -/
def logPagesWrong : ChangeSpec := { name := "logPages", fn := fun _ => fun
  | [d] => { results := [.lit (.bool false)], args := [d] }
  | _ => none }
def LogPagesWrongFalsely : Prop := logPagesRow.holds Try.pinned (OpenSpec.ofChange logPagesWrong)

/-- 'croftlaw.LogStates': WHATEVER THE INPUT: true; the input reads as it did. -/
def logStatesSpec : ChangeSpec := { name := "logStates", fn := fun _ => fun
  | [d1, d2] => { results := [.lit (.bool true)], args := [d1, d2] }
  | _ => none }
def logStatesRow : OpenClaim := { program := "ytdbcimadjmdffaa", sum := "27f19e86ce7349062259d8bdb8c00bd7ec1128a6e35cb8e4a551022bcfd4e83d", func := "croft/croftlaw.LogStates", spec := "logStates", unfollowed := true, recurses := true, plainKeys := false, apart := false }
def LogStatesSaid : Prop := logStatesRow.holds Try.pinned (OpenSpec.ofChange logStatesSpec)

/-- ITS FALSE NEIGHBOUR: 'it returns false'. Refute it at one input. -/
def logStatesWrong : ChangeSpec := { name := "logStates", fn := fun _ => fun
  | [d1, d2] => { results := [.lit (.bool false)], args := [d1, d2] }
  | _ => none }
def LogStatesWrongFalsely : Prop := logStatesRow.holds Try.pinned (OpenSpec.ofChange logStatesWrong)

/-- 'croftlaw.LogTrue': WHATEVER THE INPUT: true; the input reads as it did. -/
def logTrueSpec : ChangeSpec := { name := "logTrue", fn := fun _ => fun
  | [d1, d2, d3] => { results := [.lit (.bool true)], args := [d1, d2, d3] }
  | _ => none }
def logTrueRow : OpenClaim := { program := "ytdbcimadjmdffaa", sum := "27f19e86ce7349062259d8bdb8c00bd7ec1128a6e35cb8e4a551022bcfd4e83d", func := "croft/croftlaw.LogTrue", spec := "logTrue", unfollowed := true, recurses := true, plainKeys := false, apart := false }
def LogTrueSaid : Prop := logTrueRow.holds Try.pinned (OpenSpec.ofChange logTrueSpec)

/-- ITS FALSE NEIGHBOUR: 'it returns false'. Refute it at one input. -/
def logTrueWrong : ChangeSpec := { name := "logTrue", fn := fun _ => fun
  | [d1, d2, d3] => { results := [.lit (.bool false)], args := [d1, d2, d3] }
  | _ => none }
def LogTrueWrongFalsely : Prop := logTrueRow.holds Try.pinned (OpenSpec.ofChange logTrueWrong)

/-- 'croftlaw.LogGone': WHATEVER THE INPUT: true; the input reads as it did. -/
def logGoneSpec : ChangeSpec := { name := "logGone", fn := fun _ => fun
  | [d1, d2] => { results := [.lit (.bool true)], args := [d1, d2] }
  | _ => none }
def logGoneRow : OpenClaim := { program := "ytdbcimadjmdffaa", sum := "27f19e86ce7349062259d8bdb8c00bd7ec1128a6e35cb8e4a551022bcfd4e83d", func := "croft/croftlaw.LogGone", spec := "logGone", unfollowed := true, recurses := true, plainKeys := false, apart := false }
def LogGoneSaid : Prop := logGoneRow.holds Try.pinned (OpenSpec.ofChange logGoneSpec)

/-- ITS FALSE NEIGHBOUR: 'it returns false'. Refute it at one input. -/
def logGoneWrong : ChangeSpec := { name := "logGone", fn := fun _ => fun
  | [d1, d2] => { results := [.lit (.bool false)], args := [d1, d2] }
  | _ => none }
def LogGoneWrongFalsely : Prop := logGoneRow.holds Try.pinned (OpenSpec.ofChange logGoneWrong)

/-- 'croftlaw.LogAlone': WHATEVER THE INPUT: true; the input reads as it did. -/
def logAloneSpec : ChangeSpec := { name := "logAlone", fn := fun _ => fun
  | [d1, d2, d3] => { results := [.lit (.bool true)], args := [d1, d2, d3] }
  | _ => none }
def logAloneRow : OpenClaim := { program := "ytdbcimadjmdffaa", sum := "27f19e86ce7349062259d8bdb8c00bd7ec1128a6e35cb8e4a551022bcfd4e83d", func := "croft/croftlaw.LogAlone", spec := "logAlone", unfollowed := true, recurses := true, plainKeys := false, apart := false }
def LogAloneSaid : Prop := logAloneRow.holds Try.pinned (OpenSpec.ofChange logAloneSpec)

/-- ITS FALSE NEIGHBOUR: 'it returns false'. Refute it at one input. -/
def logAloneWrong : ChangeSpec := { name := "logAlone", fn := fun _ => fun
  | [d1, d2, d3] => { results := [.lit (.bool false)], args := [d1, d2, d3] }
  | _ => none }
def LogAloneWrongFalsely : Prop := logAloneRow.holds Try.pinned (OpenSpec.ofChange logAloneWrong)

/-- 'croftlaw.ActKept': WHATEVER THE INPUT: true; the input reads as it did. -/
def actKeptSpec : ChangeSpec := { name := "actKept", fn := fun _ => fun
  | [d1, d2, d3] => { results := [.lit (.bool true)], args := [d1, d2, d3] }
  | _ => none }
def actKeptRow : OpenClaim := { program := "ytdbcimadjmdffaa", sum := "27f19e86ce7349062259d8bdb8c00bd7ec1128a6e35cb8e4a551022bcfd4e83d", func := "croft/croftlaw.ActKept", spec := "actKept", unfollowed := true, recurses := true, plainKeys := false, apart := false }
def ActKeptSaid : Prop := actKeptRow.holds Try.pinned (OpenSpec.ofChange actKeptSpec)

/-- ITS FALSE NEIGHBOUR: 'it returns false'. Refute it at one input. -/
def actKeptWrong : ChangeSpec := { name := "actKept", fn := fun _ => fun
  | [d1, d2, d3] => { results := [.lit (.bool false)], args := [d1, d2, d3] }
  | _ => none }
def ActKeptWrongFalsely : Prop := actKeptRow.holds Try.pinned (OpenSpec.ofChange actKeptWrong)

/-- 'croftlaw.ModelTells': WHATEVER THE INPUT: true; the input reads as it did. -/
def modelTellsSpec : ChangeSpec := { name := "modelTells", fn := fun _ => fun
  | [d] => { results := [.lit (.bool true)], args := [d] }
  | _ => none }
def modelTellsRow : OpenClaim := { program := "ytdbcimadjmdffaa", sum := "27f19e86ce7349062259d8bdb8c00bd7ec1128a6e35cb8e4a551022bcfd4e83d", func := "croft/croftlaw.ModelTells", spec := "modelTells", unfollowed := true, recurses := true, plainKeys := false, apart := false }
def ModelTellsSaid : Prop := modelTellsRow.holds Try.pinned (OpenSpec.ofChange modelTellsSpec)

/-- ITS FALSE NEIGHBOUR: 'it returns false'. Refute it at one input. -/
def modelTellsWrong : ChangeSpec := { name := "modelTells", fn := fun _ => fun
  | [d] => { results := [.lit (.bool false)], args := [d] }
  | _ => none }
def ModelTellsWrongFalsely : Prop := modelTellsRow.holds Try.pinned (OpenSpec.ofChange modelTellsWrong)

/-- 'croftlaw.ModelMore': WHATEVER THE INPUT: true; the input reads as it did. -/
def modelMoreSpec : ChangeSpec := { name := "modelMore", fn := fun _ => fun
  | [d1, d2] => { results := [.lit (.bool true)], args := [d1, d2] }
  | _ => none }
def modelMoreRow : OpenClaim := { program := "ytdbcimadjmdffaa", sum := "27f19e86ce7349062259d8bdb8c00bd7ec1128a6e35cb8e4a551022bcfd4e83d", func := "croft/croftlaw.ModelMore", spec := "modelMore", unfollowed := true, recurses := true, plainKeys := false, apart := false }
def ModelMoreSaid : Prop := modelMoreRow.holds Try.pinned (OpenSpec.ofChange modelMoreSpec)

/-- ITS FALSE NEIGHBOUR: 'it returns false'. Refute it at one input. -/
def modelMoreWrong : ChangeSpec := { name := "modelMore", fn := fun _ => fun
  | [d1, d2] => { results := [.lit (.bool false)], args := [d1, d2] }
  | _ => none }
def ModelMoreWrongFalsely : Prop := modelMoreRow.holds Try.pinned (OpenSpec.ofChange modelMoreWrong)

/-- 'croftlaw.WorldTells': WHATEVER THE INPUT: true; the input reads as it did. -/
def worldTellsSpec : ChangeSpec := { name := "worldTells", fn := fun _ => fun
  | [d] => { results := [.lit (.bool true)], args := [d] }
  | _ => none }
def worldTellsRow : OpenClaim := { program := "ytdbcimadjmdffaa", sum := "27f19e86ce7349062259d8bdb8c00bd7ec1128a6e35cb8e4a551022bcfd4e83d", func := "croft/croftlaw.WorldTells", spec := "worldTells", unfollowed := true, recurses := true, plainKeys := false, apart := false }
def WorldTellsSaid : Prop := worldTellsRow.holds Try.pinned (OpenSpec.ofChange worldTellsSpec)

/-- ITS FALSE NEIGHBOUR: 'it returns false'. Refute it at one input. -/
def worldTellsWrong : ChangeSpec := { name := "worldTells", fn := fun _ => fun
  | [d] => { results := [.lit (.bool false)], args := [d] }
  | _ => none }
def WorldTellsWrongFalsely : Prop := worldTellsRow.holds Try.pinned (OpenSpec.ofChange worldTellsWrong)

/-- 'croftlaw.ModelTrue': WHATEVER THE INPUT: true; the input reads as it did. -/
def modelTrueSpec : ChangeSpec := { name := "modelTrue", fn := fun _ => fun
  | [d] => { results := [.lit (.bool true)], args := [d] }
  | _ => none }
def modelTrueRow : OpenClaim := { program := "ytdbcimadjmdffaa", sum := "27f19e86ce7349062259d8bdb8c00bd7ec1128a6e35cb8e4a551022bcfd4e83d", func := "croft/croftlaw.ModelTrue", spec := "modelTrue", unfollowed := true, recurses := true, plainKeys := false, apart := false }
def ModelTrueSaid : Prop := modelTrueRow.holds Try.pinned (OpenSpec.ofChange modelTrueSpec)

/-- ITS FALSE NEIGHBOUR: 'it returns false'. Refute it at one input. -/
def modelTrueWrong : ChangeSpec := { name := "modelTrue", fn := fun _ => fun
  | [d] => { results := [.lit (.bool false)], args := [d] }
  | _ => none }
def ModelTrueWrongFalsely : Prop := modelTrueRow.holds Try.pinned (OpenSpec.ofChange modelTrueWrong)

/-- 'croftlaw.FlushTells': WHATEVER THE INPUT: true; the input reads as it did. -/
def flushTellsSpec : ChangeSpec := { name := "flushTells", fn := fun _ => fun
  | [d1, d2] => { results := [.lit (.bool true)], args := [d1, d2] }
  | _ => none }
def flushTellsRow : OpenClaim := { program := "ytdbcimadjmdffaa", sum := "27f19e86ce7349062259d8bdb8c00bd7ec1128a6e35cb8e4a551022bcfd4e83d", func := "croft/croftlaw.FlushTells", spec := "flushTells", unfollowed := true, recurses := true, plainKeys := false, apart := false }
def FlushTellsSaid : Prop := flushTellsRow.holds Try.pinned (OpenSpec.ofChange flushTellsSpec)

/-- ITS FALSE NEIGHBOUR: 'it returns false'. Refute it at one input. -/
def flushTellsWrong : ChangeSpec := { name := "flushTells", fn := fun _ => fun
  | [d1, d2] => { results := [.lit (.bool false)], args := [d1, d2] }
  | _ => none }
def FlushTellsWrongFalsely : Prop := flushTellsRow.holds Try.pinned (OpenSpec.ofChange flushTellsWrong)

/-- 'croftlaw.FlushTrue': WHATEVER THE INPUT: true; the input reads as it did. -/
def flushTrueSpec : ChangeSpec := { name := "flushTrue", fn := fun _ => fun
  | [d1, d2, d3] => { results := [.lit (.bool true)], args := [d1, d2, d3] }
  | _ => none }
def flushTrueRow : OpenClaim := { program := "ytdbcimadjmdffaa", sum := "27f19e86ce7349062259d8bdb8c00bd7ec1128a6e35cb8e4a551022bcfd4e83d", func := "croft/croftlaw.FlushTrue", spec := "flushTrue", unfollowed := true, recurses := true, plainKeys := false, apart := false }
def FlushTrueSaid : Prop := flushTrueRow.holds Try.pinned (OpenSpec.ofChange flushTrueSpec)

/-- ITS FALSE NEIGHBOUR: 'it returns false'. Refute it at one input. -/
def flushTrueWrong : ChangeSpec := { name := "flushTrue", fn := fun _ => fun
  | [d1, d2, d3] => { results := [.lit (.bool false)], args := [d1, d2, d3] }
  | _ => none }
def FlushTrueWrongFalsely : Prop := flushTrueRow.holds Try.pinned (OpenSpec.ofChange flushTrueWrong)

/-- 'croftlaw.RollSteps': WHATEVER THE INPUT: true; the input reads as it did. -/
def rollStepsSpec : ChangeSpec := { name := "rollSteps", fn := fun _ => fun
  | [d1, d2] => { results := [.lit (.bool true)], args := [d1, d2] }
  | _ => none }
def rollStepsRow : OpenClaim := { program := "ytdbcimadjmdffaa", sum := "27f19e86ce7349062259d8bdb8c00bd7ec1128a6e35cb8e4a551022bcfd4e83d", func := "croft/croftlaw.RollSteps", spec := "rollSteps", unfollowed := true, recurses := true, plainKeys := false, apart := false }
def RollStepsSaid : Prop := rollStepsRow.holds Try.pinned (OpenSpec.ofChange rollStepsSpec)

/-- ITS FALSE NEIGHBOUR: 'it returns false'. Refute it at one input. -/
def rollStepsWrong : ChangeSpec := { name := "rollSteps", fn := fun _ => fun
  | [d1, d2] => { results := [.lit (.bool false)], args := [d1, d2] }
  | _ => none }
def RollStepsWrongFalsely : Prop := rollStepsRow.holds Try.pinned (OpenSpec.ofChange rollStepsWrong)

/-- 'croftlaw.RollAborts': WHATEVER THE INPUT: true; the input reads as it did. -/
def rollAbortsSpec : ChangeSpec := { name := "rollAborts", fn := fun _ => fun
  | [d1, d2] => { results := [.lit (.bool true)], args := [d1, d2] }
  | _ => none }
def rollAbortsRow : OpenClaim := { program := "ytdbcimadjmdffaa", sum := "27f19e86ce7349062259d8bdb8c00bd7ec1128a6e35cb8e4a551022bcfd4e83d", func := "croft/croftlaw.RollAborts", spec := "rollAborts", unfollowed := true, recurses := true, plainKeys := false, apart := false }
def RollAbortsSaid : Prop := rollAbortsRow.holds Try.pinned (OpenSpec.ofChange rollAbortsSpec)

/-- ITS FALSE NEIGHBOUR: 'it returns false'. Refute it at one input. -/
def rollAbortsWrong : ChangeSpec := { name := "rollAborts", fn := fun _ => fun
  | [d1, d2] => { results := [.lit (.bool false)], args := [d1, d2] }
  | _ => none }
def RollAbortsWrongFalsely : Prop := rollAbortsRow.holds Try.pinned (OpenSpec.ofChange rollAbortsWrong)

/-- 'croftlaw.WorkWrites': WHATEVER THE INPUT: true; the input reads as it did. -/
def workWritesSpec : ChangeSpec := { name := "workWrites", fn := fun _ => fun
  | [d1, d2, d3, d4, d5] => { results := [.lit (.bool true)], args := [d1, d2, d3, d4, d5] }
  | _ => none }
def workWritesRow : OpenClaim := { program := "ytdbcimadjmdffaa", sum := "27f19e86ce7349062259d8bdb8c00bd7ec1128a6e35cb8e4a551022bcfd4e83d", func := "croft/croftlaw.WorkWrites", spec := "workWrites", unfollowed := true, recurses := true, plainKeys := false, apart := false }
def WorkWritesSaid : Prop := workWritesRow.holds Try.pinned (OpenSpec.ofChange workWritesSpec)

/-- ITS FALSE NEIGHBOUR: 'it returns false'. Refute it at one input. -/
def workWritesWrong : ChangeSpec := { name := "workWrites", fn := fun _ => fun
  | [d1, d2, d3, d4, d5] => { results := [.lit (.bool false)], args := [d1, d2, d3, d4, d5] }
  | _ => none }
def WorkWritesWrongFalsely : Prop := workWritesRow.holds Try.pinned (OpenSpec.ofChange workWritesWrong)

/-- 'croftlaw.WorkCommits': WHATEVER THE INPUT: true; the input reads as it did. -/
def workCommitsSpec : ChangeSpec := { name := "workCommits", fn := fun _ => fun
  | [d1, d2] => { results := [.lit (.bool true)], args := [d1, d2] }
  | _ => none }
def workCommitsRow : OpenClaim := { program := "ytdbcimadjmdffaa", sum := "27f19e86ce7349062259d8bdb8c00bd7ec1128a6e35cb8e4a551022bcfd4e83d", func := "croft/croftlaw.WorkCommits", spec := "workCommits", unfollowed := true, recurses := true, plainKeys := false, apart := false }
def WorkCommitsSaid : Prop := workCommitsRow.holds Try.pinned (OpenSpec.ofChange workCommitsSpec)

/-- ITS FALSE NEIGHBOUR: 'it returns false'. Refute it at one input. -/
def workCommitsWrong : ChangeSpec := { name := "workCommits", fn := fun _ => fun
  | [d1, d2] => { results := [.lit (.bool false)], args := [d1, d2] }
  | _ => none }
def WorkCommitsWrongFalsely : Prop := workCommitsRow.holds Try.pinned (OpenSpec.ofChange workCommitsWrong)

/-- 'croftlaw.ScanTells': WHATEVER THE INPUT: true; the input reads as it did. -/
def scanTellsSpec : ChangeSpec := { name := "scanTells", fn := fun _ => fun
  | [d] => { results := [.lit (.bool true)], args := [d] }
  | _ => none }
def scanTellsRow : OpenClaim := { program := "ytdbcimadjmdffaa", sum := "27f19e86ce7349062259d8bdb8c00bd7ec1128a6e35cb8e4a551022bcfd4e83d", func := "croft/croftlaw.ScanTells", spec := "scanTells", unfollowed := true, recurses := true, plainKeys := false, apart := false }
def ScanTellsSaid : Prop := scanTellsRow.holds Try.pinned (OpenSpec.ofChange scanTellsSpec)

/-- ITS FALSE NEIGHBOUR: 'it returns false'. Refute it at one input. -/
def scanTellsWrong : ChangeSpec := { name := "scanTells", fn := fun _ => fun
  | [d] => { results := [.lit (.bool false)], args := [d] }
  | _ => none }
def ScanTellsWrongFalsely : Prop := scanTellsRow.holds Try.pinned (OpenSpec.ofChange scanTellsWrong)

/-- 'croftlaw.ScanRedoes': WHATEVER THE INPUT: true; the input reads as it did. -/
def scanRedoesSpec : ChangeSpec := { name := "scanRedoes", fn := fun _ => fun
  | [d] => { results := [.lit (.bool true)], args := [d] }
  | _ => none }
def scanRedoesRow : OpenClaim := { program := "ytdbcimadjmdffaa", sum := "27f19e86ce7349062259d8bdb8c00bd7ec1128a6e35cb8e4a551022bcfd4e83d", func := "croft/croftlaw.ScanRedoes", spec := "scanRedoes", unfollowed := true, recurses := true, plainKeys := false, apart := false }
def ScanRedoesSaid : Prop := scanRedoesRow.holds Try.pinned (OpenSpec.ofChange scanRedoesSpec)

/-- ITS FALSE NEIGHBOUR: 'it returns false'. Refute it at one input. -/
def scanRedoesWrong : ChangeSpec := { name := "scanRedoes", fn := fun _ => fun
  | [d] => { results := [.lit (.bool false)], args := [d] }
  | _ => none }
def ScanRedoesWrongFalsely : Prop := scanRedoesRow.holds Try.pinned (OpenSpec.ofChange scanRedoesWrong)

/-- 'croftlaw.ScanTrue': WHATEVER THE INPUT: true; the input reads as it did. -/
def scanTrueSpec : ChangeSpec := { name := "scanTrue", fn := fun _ => fun
  | [d] => { results := [.lit (.bool true)], args := [d] }
  | _ => none }
def scanTrueRow : OpenClaim := { program := "ytdbcimadjmdffaa", sum := "27f19e86ce7349062259d8bdb8c00bd7ec1128a6e35cb8e4a551022bcfd4e83d", func := "croft/croftlaw.ScanTrue", spec := "scanTrue", unfollowed := true, recurses := true, plainKeys := false, apart := false }
def ScanTrueSaid : Prop := scanTrueRow.holds Try.pinned (OpenSpec.ofChange scanTrueSpec)

/-- ITS FALSE NEIGHBOUR: 'it returns false'. Refute it at one input. -/
def scanTrueWrong : ChangeSpec := { name := "scanTrue", fn := fun _ => fun
  | [d] => { results := [.lit (.bool false)], args := [d] }
  | _ => none }
def ScanTrueWrongFalsely : Prop := scanTrueRow.holds Try.pinned (OpenSpec.ofChange scanTrueWrong)

/-- 'croftlaw.WorkWins': WHATEVER THE INPUT: true; the input reads as it did. -/
def workWinsSpec : ChangeSpec := { name := "workWins", fn := fun _ => fun
  | [d1, d2] => { results := [.lit (.bool true)], args := [d1, d2] }
  | _ => none }
def workWinsRow : OpenClaim := { program := "ytdbcimadjmdffaa", sum := "27f19e86ce7349062259d8bdb8c00bd7ec1128a6e35cb8e4a551022bcfd4e83d", func := "croft/croftlaw.WorkWins", spec := "workWins", unfollowed := true, recurses := true, plainKeys := false, apart := false }
def WorkWinsSaid : Prop := workWinsRow.holds Try.pinned (OpenSpec.ofChange workWinsSpec)

/-- ITS FALSE NEIGHBOUR: 'it returns false'. Refute it at one input. -/
def workWinsWrong : ChangeSpec := { name := "workWins", fn := fun _ => fun
  | [d1, d2] => { results := [.lit (.bool false)], args := [d1, d2] }
  | _ => none }
def WorkWinsWrongFalsely : Prop := workWinsRow.holds Try.pinned (OpenSpec.ofChange workWinsWrong)

/-- 'croftlaw.WorkTrue': WHATEVER THE INPUT: true; the input reads as it did. -/
def workTrueSpec : ChangeSpec := { name := "workTrue", fn := fun _ => fun
  | [d1, d2, d3, d4, d5] => { results := [.lit (.bool true)], args := [d1, d2, d3, d4, d5] }
  | _ => none }
def workTrueRow : OpenClaim := { program := "ytdbcimadjmdffaa", sum := "27f19e86ce7349062259d8bdb8c00bd7ec1128a6e35cb8e4a551022bcfd4e83d", func := "croft/croftlaw.WorkTrue", spec := "workTrue", unfollowed := true, recurses := true, plainKeys := false, apart := false }
def WorkTrueSaid : Prop := workTrueRow.holds Try.pinned (OpenSpec.ofChange workTrueSpec)

/-- ITS FALSE NEIGHBOUR: 'it returns false'. Refute it at one input. -/
def workTrueWrong : ChangeSpec := { name := "workTrue", fn := fun _ => fun
  | [d1, d2, d3, d4, d5] => { results := [.lit (.bool false)], args := [d1, d2, d3, d4, d5] }
  | _ => none }
def WorkTrueWrongFalsely : Prop := workTrueRow.holds Try.pinned (OpenSpec.ofChange workTrueWrong)

/-- 'croftlaw.WorkAlone': WHATEVER THE INPUT: true; the input reads as it did. -/
def workAloneSpec : ChangeSpec := { name := "workAlone", fn := fun _ => fun
  | [d1, d2, d3, d4, d5, d6] => { results := [.lit (.bool true)], args := [d1, d2, d3, d4, d5, d6] }
  | _ => none }
def workAloneRow : OpenClaim := { program := "ytdbcimadjmdffaa", sum := "27f19e86ce7349062259d8bdb8c00bd7ec1128a6e35cb8e4a551022bcfd4e83d", func := "croft/croftlaw.WorkAlone", spec := "workAlone", unfollowed := true, recurses := true, plainKeys := false, apart := false }
def WorkAloneSaid : Prop := workAloneRow.holds Try.pinned (OpenSpec.ofChange workAloneSpec)

/-- ITS FALSE NEIGHBOUR: 'it returns false'. Refute it at one input. -/
def workAloneWrong : ChangeSpec := { name := "workAlone", fn := fun _ => fun
  | [d1, d2, d3, d4, d5, d6] => { results := [.lit (.bool false)], args := [d1, d2, d3, d4, d5, d6] }
  | _ => none }
def WorkAloneWrongFalsely : Prop := workAloneRow.holds Try.pinned (OpenSpec.ofChange workAloneWrong)

/-- 'croftlaw.RollTrue': WHATEVER THE INPUT: true; the input reads as it did. -/
def rollTrueSpec : ChangeSpec := { name := "rollTrue", fn := fun _ => fun
  | [d1, d2] => { results := [.lit (.bool true)], args := [d1, d2] }
  | _ => none }
def rollTrueRow : OpenClaim := { program := "ytdbcimadjmdffaa", sum := "27f19e86ce7349062259d8bdb8c00bd7ec1128a6e35cb8e4a551022bcfd4e83d", func := "croft/croftlaw.RollTrue", spec := "rollTrue", unfollowed := true, recurses := true, plainKeys := false, apart := false }
def RollTrueSaid : Prop := rollTrueRow.holds Try.pinned (OpenSpec.ofChange rollTrueSpec)

/-- ITS FALSE NEIGHBOUR: 'it returns false'. Refute it at one input. -/
def rollTrueWrong : ChangeSpec := { name := "rollTrue", fn := fun _ => fun
  | [d1, d2] => { results := [.lit (.bool false)], args := [d1, d2] }
  | _ => none }
def RollTrueWrongFalsely : Prop := rollTrueRow.holds Try.pinned (OpenSpec.ofChange rollTrueWrong)

/-- 'croftlaw.MendAlls': WHATEVER THE INPUT: true; the input reads as it did. -/
def mendAllsSpec : ChangeSpec := { name := "mendAlls", fn := fun _ => fun
  | [d] => { results := [.lit (.bool true)], args := [d] }
  | _ => none }
def mendAllsRow : OpenClaim := { program := "ytdbcimadjmdffaa", sum := "27f19e86ce7349062259d8bdb8c00bd7ec1128a6e35cb8e4a551022bcfd4e83d", func := "croft/croftlaw.MendAlls", spec := "mendAlls", unfollowed := true, recurses := true, plainKeys := false, apart := false }
def MendAllsSaid : Prop := mendAllsRow.holds Try.pinned (OpenSpec.ofChange mendAllsSpec)

/-- ITS FALSE NEIGHBOUR: 'it returns false'. Refute it at one input. -/
def mendAllsWrong : ChangeSpec := { name := "mendAlls", fn := fun _ => fun
  | [d] => { results := [.lit (.bool false)], args := [d] }
  | _ => none }
def MendAllsWrongFalsely : Prop := mendAllsRow.holds Try.pinned (OpenSpec.ofChange mendAllsWrong)

/-- 'croftlaw.MendHalves': WHATEVER THE INPUT: true; the input reads as it did. -/
def mendHalvesSpec : ChangeSpec := { name := "mendHalves", fn := fun _ => fun
  | [d1, d2, d3] => { results := [.lit (.bool true)], args := [d1, d2, d3] }
  | _ => none }
def mendHalvesRow : OpenClaim := { program := "ytdbcimadjmdffaa", sum := "27f19e86ce7349062259d8bdb8c00bd7ec1128a6e35cb8e4a551022bcfd4e83d", func := "croft/croftlaw.MendHalves", spec := "mendHalves", unfollowed := true, recurses := true, plainKeys := false, apart := false }
def MendHalvesSaid : Prop := mendHalvesRow.holds Try.pinned (OpenSpec.ofChange mendHalvesSpec)

/-- ITS FALSE NEIGHBOUR: 'it returns false'. Refute it at one input. -/
def mendHalvesWrong : ChangeSpec := { name := "mendHalves", fn := fun _ => fun
  | [d1, d2, d3] => { results := [.lit (.bool false)], args := [d1, d2, d3] }
  | _ => none }
def MendHalvesWrongFalsely : Prop := mendHalvesRow.holds Try.pinned (OpenSpec.ofChange mendHalvesWrong)

/-- 'croftlaw.MendOnce': WHATEVER THE INPUT: true; the input reads as it did. -/
def mendOnceSpec : ChangeSpec := { name := "mendOnce", fn := fun _ => fun
  | [d1, d2, d3] => { results := [.lit (.bool true)], args := [d1, d2, d3] }
  | _ => none }
def mendOnceRow : OpenClaim := { program := "ytdbcimadjmdffaa", sum := "27f19e86ce7349062259d8bdb8c00bd7ec1128a6e35cb8e4a551022bcfd4e83d", func := "croft/croftlaw.MendOnce", spec := "mendOnce", unfollowed := true, recurses := true, plainKeys := false, apart := false }
def MendOnceSaid : Prop := mendOnceRow.holds Try.pinned (OpenSpec.ofChange mendOnceSpec)

/-- ITS FALSE NEIGHBOUR: 'it returns false'. Refute it at one input. -/
def mendOnceWrong : ChangeSpec := { name := "mendOnce", fn := fun _ => fun
  | [d1, d2, d3] => { results := [.lit (.bool false)], args := [d1, d2, d3] }
  | _ => none }
def MendOnceWrongFalsely : Prop := mendOnceRow.holds Try.pinned (OpenSpec.ofChange mendOnceWrong)

/-- 'croftlaw.MendOften': WHATEVER THE INPUT: true; the input reads as it did. -/
def mendOftenSpec : ChangeSpec := { name := "mendOften", fn := fun _ => fun
  | [d1, d2, d3] => { results := [.lit (.bool true)], args := [d1, d2, d3] }
  | _ => none }
def mendOftenRow : OpenClaim := { program := "ytdbcimadjmdffaa", sum := "27f19e86ce7349062259d8bdb8c00bd7ec1128a6e35cb8e4a551022bcfd4e83d", func := "croft/croftlaw.MendOften", spec := "mendOften", unfollowed := true, recurses := true, plainKeys := false, apart := false }
def MendOftenSaid : Prop := mendOftenRow.holds Try.pinned (OpenSpec.ofChange mendOftenSpec)

/-- ITS FALSE NEIGHBOUR: 'it returns false'. Refute it at one input. -/
def mendOftenWrong : ChangeSpec := { name := "mendOften", fn := fun _ => fun
  | [d1, d2, d3] => { results := [.lit (.bool false)], args := [d1, d2, d3] }
  | _ => none }
def MendOftenWrongFalsely : Prop := mendOftenRow.holds Try.pinned (OpenSpec.ofChange mendOftenWrong)

/-- 'croftlaw.MendFew': WHATEVER THE INPUT: true; the input reads as it did. -/
def mendFewSpec : ChangeSpec := { name := "mendFew", fn := fun _ => fun
  | [d] => { results := [.lit (.bool true)], args := [d] }
  | _ => none }
def mendFewRow : OpenClaim := { program := "ytdbcimadjmdffaa", sum := "27f19e86ce7349062259d8bdb8c00bd7ec1128a6e35cb8e4a551022bcfd4e83d", func := "croft/croftlaw.MendFew", spec := "mendFew", unfollowed := true, recurses := true, plainKeys := false, apart := false }
def MendFewSaid : Prop := mendFewRow.holds Try.pinned (OpenSpec.ofChange mendFewSpec)

/-- ITS FALSE NEIGHBOUR: 'it returns false'. Refute it at one input. -/
def mendFewWrong : ChangeSpec := { name := "mendFew", fn := fun _ => fun
  | [d] => { results := [.lit (.bool false)], args := [d] }
  | _ => none }
def MendFewWrongFalsely : Prop := mendFewRow.holds Try.pinned (OpenSpec.ofChange mendFewWrong)

/-- 'croftlaw.MendTrue': WHATEVER THE INPUT: true; the input reads as it did. -/
def mendTrueSpec : ChangeSpec := { name := "mendTrue", fn := fun _ => fun
  | [d] => { results := [.lit (.bool true)], args := [d] }
  | _ => none }
def mendTrueRow : OpenClaim := { program := "ytdbcimadjmdffaa", sum := "27f19e86ce7349062259d8bdb8c00bd7ec1128a6e35cb8e4a551022bcfd4e83d", func := "croft/croftlaw.MendTrue", spec := "mendTrue", unfollowed := true, recurses := true, plainKeys := false, apart := false }
def MendTrueSaid : Prop := mendTrueRow.holds Try.pinned (OpenSpec.ofChange mendTrueSpec)

/-- ITS FALSE NEIGHBOUR: 'it returns false'. Refute it at one input. -/
def mendTrueWrong : ChangeSpec := { name := "mendTrue", fn := fun _ => fun
  | [d] => { results := [.lit (.bool false)], args := [d] }
  | _ => none }
def MendTrueWrongFalsely : Prop := mendTrueRow.holds Try.pinned (OpenSpec.ofChange mendTrueWrong)

/-- 'croftlaw.ActDoes': WHATEVER THE INPUT: true; the input reads as it did. -/
def actDoesSpec : ChangeSpec := { name := "actDoes", fn := fun _ => fun
  | [d1, d2] => { results := [.lit (.bool true)], args := [d1, d2] }
  | _ => none }
def actDoesRow : OpenClaim := { program := "ytdbcimadjmdffaa", sum := "27f19e86ce7349062259d8bdb8c00bd7ec1128a6e35cb8e4a551022bcfd4e83d", func := "croft/croftlaw.ActDoes", spec := "actDoes", unfollowed := true, recurses := true, plainKeys := false, apart := false }
def ActDoesSaid : Prop := actDoesRow.holds Try.pinned (OpenSpec.ofChange actDoesSpec)

/-- ITS FALSE NEIGHBOUR: 'it returns false'. Refute it at one input. -/
def actDoesWrong : ChangeSpec := { name := "actDoes", fn := fun _ => fun
  | [d1, d2] => { results := [.lit (.bool false)], args := [d1, d2] }
  | _ => none }
def ActDoesWrongFalsely : Prop := actDoesRow.holds Try.pinned (OpenSpec.ofChange actDoesWrong)

/-- 'croftlaw.ActAlls': WHATEVER THE INPUT: true; the input reads as it did. -/
def actAllsSpec : ChangeSpec := { name := "actAlls", fn := fun _ => fun
  | [d] => { results := [.lit (.bool true)], args := [d] }
  | _ => none }
def actAllsRow : OpenClaim := { program := "ytdbcimadjmdffaa", sum := "27f19e86ce7349062259d8bdb8c00bd7ec1128a6e35cb8e4a551022bcfd4e83d", func := "croft/croftlaw.ActAlls", spec := "actAlls", unfollowed := true, recurses := true, plainKeys := false, apart := false }
def ActAllsSaid : Prop := actAllsRow.holds Try.pinned (OpenSpec.ofChange actAllsSpec)

/-- ITS FALSE NEIGHBOUR: 'it returns false'. Refute it at one input. -/
def actAllsWrong : ChangeSpec := { name := "actAlls", fn := fun _ => fun
  | [d] => { results := [.lit (.bool false)], args := [d] }
  | _ => none }
def ActAllsWrongFalsely : Prop := actAllsRow.holds Try.pinned (OpenSpec.ofChange actAllsWrong)

/-- 'croftlaw.ActRight': WHATEVER THE INPUT: true; the input reads as it did. -/
def actRightSpec : ChangeSpec := { name := "actRight", fn := fun _ => fun
  | [d1, d2] => { results := [.lit (.bool true)], args := [d1, d2] }
  | _ => none }
def actRightRow : OpenClaim := { program := "ytdbcimadjmdffaa", sum := "27f19e86ce7349062259d8bdb8c00bd7ec1128a6e35cb8e4a551022bcfd4e83d", func := "croft/croftlaw.ActRight", spec := "actRight", unfollowed := true, recurses := true, plainKeys := false, apart := false }
def ActRightSaid : Prop := actRightRow.holds Try.pinned (OpenSpec.ofChange actRightSpec)

/-- ITS FALSE NEIGHBOUR: 'it returns false'. Refute it at one input. -/
def actRightWrong : ChangeSpec := { name := "actRight", fn := fun _ => fun
  | [d1, d2] => { results := [.lit (.bool false)], args := [d1, d2] }
  | _ => none }
def ActRightWrongFalsely : Prop := actRightRow.holds Try.pinned (OpenSpec.ofChange actRightWrong)

/-- 'croftlaw.RestWorlds': WHATEVER THE INPUT: true; the input reads as it did. -/
def restWorldsSpec : ChangeSpec := { name := "restWorlds", fn := fun _ => fun
  | [d1, d2] => { results := [.lit (.bool true)], args := [d1, d2] }
  | _ => none }
def restWorldsRow : OpenClaim := { program := "ytdbcimadjmdffaa", sum := "27f19e86ce7349062259d8bdb8c00bd7ec1128a6e35cb8e4a551022bcfd4e83d", func := "croft/croftlaw.RestWorlds", spec := "restWorlds", unfollowed := true, recurses := true, plainKeys := false, apart := false }
def RestWorldsSaid : Prop := restWorldsRow.holds Try.pinned (OpenSpec.ofChange restWorldsSpec)

/-- ITS FALSE NEIGHBOUR: 'it returns false'. Refute it at one input. -/
def restWorldsWrong : ChangeSpec := { name := "restWorlds", fn := fun _ => fun
  | [d1, d2] => { results := [.lit (.bool false)], args := [d1, d2] }
  | _ => none }
def RestWorldsWrongFalsely : Prop := restWorldsRow.holds Try.pinned (OpenSpec.ofChange restWorldsWrong)

/-- 'croftlaw.ActLost': WHATEVER THE INPUT: true; the input reads as it did. -/
def actLostSpec : ChangeSpec := { name := "actLost", fn := fun _ => fun
  | [d1, d2] => { results := [.lit (.bool true)], args := [d1, d2] }
  | _ => none }
def actLostRow : OpenClaim := { program := "ytdbcimadjmdffaa", sum := "27f19e86ce7349062259d8bdb8c00bd7ec1128a6e35cb8e4a551022bcfd4e83d", func := "croft/croftlaw.ActLost", spec := "actLost", unfollowed := true, recurses := true, plainKeys := false, apart := false }
def ActLostSaid : Prop := actLostRow.holds Try.pinned (OpenSpec.ofChange actLostSpec)

/-- ITS FALSE NEIGHBOUR: 'it returns false'. Refute it at one input. -/
def actLostWrong : ChangeSpec := { name := "actLost", fn := fun _ => fun
  | [d1, d2] => { results := [.lit (.bool false)], args := [d1, d2] }
  | _ => none }
def ActLostWrongFalsely : Prop := actLostRow.holds Try.pinned (OpenSpec.ofChange actLostWrong)

/- THE SECOND FORM. 'bulk': how many values and letters a reading holds, each counted each time it is reached (what is shared counts as often as it is met; a slice's spare places count too). A statement '..UptoSaid' is the law's where the arguments, and the package variables that the reading takes, are together of bulk at most 1048576: NARROWER than '..Said'. Prove '..Said' where nothing that the law and all that it calls make is longer than what came in: it says more and counts as full. Else prove '..UptoSaid'. A law counts once. -/
mutual
def uptoBulk {H : Type} : DataW H → Nat
  | .lit (.string bytes) => bytes.length + 1
  | .lit _ => 1
  | .nil => 1
  | .ptr d => uptoBulk d + 1
  | .slice elems spare => uptoBulkAll elems + uptoBulkAll spare + 1
  | .agg parts => uptoBulkAll parts + 1
  | .iface _ d => uptoBulk d + 1
  | .map entries => uptoBulkEntries entries + 1
  | .held _ => 1
def uptoBulkAll {H : Type} : List (DataW H) → Nat
  | [] => 0
  | d :: r => uptoBulk d + uptoBulkAll r
def uptoBulkEntries {H : Type} : List (Lit × DataW H) → Nat
  | [] => 0
  | x :: r => uptoBulkEntry x + uptoBulkEntries r
def uptoBulkEntry {H : Type} : Lit × DataW H → Nat
  | (.string bytes, d) => bytes.length + uptoBulk d + 1
  | (_, d) => uptoBulk d + 1
 end
def uptoSmall : (H : Type) → List (DataW H) → Bool := fun _ ds => decide (uptoBulkAll ds ≤ 1048576)
def OpenSpec.upto (s : _root_.Go.ChangeSpec) : _root_.Go.OpenSpec := { _root_.Go.OpenSpec.ofChange s with cond := some uptoSmall }

/-- 'croftlaw.PageTells', WHERE WHAT IT READS IS OF BULK AT MOST 1048576: true; the input reads as it did. -/
def pageTellsUptoRow : OpenClaim := { program := "ytdbcimadjmdffaa", sum := "27f19e86ce7349062259d8bdb8c00bd7ec1128a6e35cb8e4a551022bcfd4e83d", func := "croft/croftlaw.PageTells", spec := "pageTells", unfollowed := true, recurses := true, plainKeys := false, apart := false, narrowed := true }
def PageTellsUptoSaid : Prop := pageTellsUptoRow.holds Try.pinned (OpenSpec.upto pageTellsSpec)

/-- 'croftlaw.PageTrue', WHERE WHAT IT READS IS OF BULK AT MOST 1048576: true; the input reads as it did. -/
def pageTrueUptoRow : OpenClaim := { program := "ytdbcimadjmdffaa", sum := "27f19e86ce7349062259d8bdb8c00bd7ec1128a6e35cb8e4a551022bcfd4e83d", func := "croft/croftlaw.PageTrue", spec := "pageTrue", unfollowed := true, recurses := true, plainKeys := false, apart := false, narrowed := true }
def PageTrueUptoSaid : Prop := pageTrueUptoRow.holds Try.pinned (OpenSpec.upto pageTrueSpec)

/-- 'croftlaw.RecTells', WHERE WHAT IT READS IS OF BULK AT MOST 1048576: true; the input reads as it did. -/
def recTellsUptoRow : OpenClaim := { program := "ytdbcimadjmdffaa", sum := "27f19e86ce7349062259d8bdb8c00bd7ec1128a6e35cb8e4a551022bcfd4e83d", func := "croft/croftlaw.RecTells", spec := "recTells", unfollowed := true, recurses := true, plainKeys := false, apart := false, narrowed := true }
def RecTellsUptoSaid : Prop := recTellsUptoRow.holds Try.pinned (OpenSpec.upto recTellsSpec)

/-- 'croftlaw.RecTrue', WHERE WHAT IT READS IS OF BULK AT MOST 1048576: true; the input reads as it did. -/
def recTrueUptoRow : OpenClaim := { program := "ytdbcimadjmdffaa", sum := "27f19e86ce7349062259d8bdb8c00bd7ec1128a6e35cb8e4a551022bcfd4e83d", func := "croft/croftlaw.RecTrue", spec := "recTrue", unfollowed := true, recurses := true, plainKeys := false, apart := false, narrowed := true }
def RecTrueUptoSaid : Prop := recTrueUptoRow.holds Try.pinned (OpenSpec.upto recTrueSpec)

/-- 'croftlaw.LogChecks', WHERE WHAT IT READS IS OF BULK AT MOST 1048576: true; the input reads as it did. -/
def logChecksUptoRow : OpenClaim := { program := "ytdbcimadjmdffaa", sum := "27f19e86ce7349062259d8bdb8c00bd7ec1128a6e35cb8e4a551022bcfd4e83d", func := "croft/croftlaw.LogChecks", spec := "logChecks", unfollowed := true, recurses := true, plainKeys := false, apart := false, narrowed := true }
def LogChecksUptoSaid : Prop := logChecksUptoRow.holds Try.pinned (OpenSpec.upto logChecksSpec)

/-- 'croftlaw.LogPages', WHERE WHAT IT READS IS OF BULK AT MOST 1048576: true; the input reads as it did. -/
def logPagesUptoRow : OpenClaim := { program := "ytdbcimadjmdffaa", sum := "27f19e86ce7349062259d8bdb8c00bd7ec1128a6e35cb8e4a551022bcfd4e83d", func := "croft/croftlaw.LogPages", spec := "logPages", unfollowed := true, recurses := true, plainKeys := false, apart := false, narrowed := true }
def LogPagesUptoSaid : Prop := logPagesUptoRow.holds Try.pinned (OpenSpec.upto logPagesSpec)

/-- 'croftlaw.LogStates', WHERE WHAT IT READS IS OF BULK AT MOST 1048576: true; the input reads as it did. -/
def logStatesUptoRow : OpenClaim := { program := "ytdbcimadjmdffaa", sum := "27f19e86ce7349062259d8bdb8c00bd7ec1128a6e35cb8e4a551022bcfd4e83d", func := "croft/croftlaw.LogStates", spec := "logStates", unfollowed := true, recurses := true, plainKeys := false, apart := false, narrowed := true }
def LogStatesUptoSaid : Prop := logStatesUptoRow.holds Try.pinned (OpenSpec.upto logStatesSpec)

/-- 'croftlaw.LogTrue', WHERE WHAT IT READS IS OF BULK AT MOST 1048576: true; the input reads as it did. -/
def logTrueUptoRow : OpenClaim := { program := "ytdbcimadjmdffaa", sum := "27f19e86ce7349062259d8bdb8c00bd7ec1128a6e35cb8e4a551022bcfd4e83d", func := "croft/croftlaw.LogTrue", spec := "logTrue", unfollowed := true, recurses := true, plainKeys := false, apart := false, narrowed := true }
def LogTrueUptoSaid : Prop := logTrueUptoRow.holds Try.pinned (OpenSpec.upto logTrueSpec)

/-- 'croftlaw.LogGone', WHERE WHAT IT READS IS OF BULK AT MOST 1048576: true; the input reads as it did. -/
def logGoneUptoRow : OpenClaim := { program := "ytdbcimadjmdffaa", sum := "27f19e86ce7349062259d8bdb8c00bd7ec1128a6e35cb8e4a551022bcfd4e83d", func := "croft/croftlaw.LogGone", spec := "logGone", unfollowed := true, recurses := true, plainKeys := false, apart := false, narrowed := true }
def LogGoneUptoSaid : Prop := logGoneUptoRow.holds Try.pinned (OpenSpec.upto logGoneSpec)

/-- 'croftlaw.LogAlone', WHERE WHAT IT READS IS OF BULK AT MOST 1048576: true; the input reads as it did. -/
def logAloneUptoRow : OpenClaim := { program := "ytdbcimadjmdffaa", sum := "27f19e86ce7349062259d8bdb8c00bd7ec1128a6e35cb8e4a551022bcfd4e83d", func := "croft/croftlaw.LogAlone", spec := "logAlone", unfollowed := true, recurses := true, plainKeys := false, apart := false, narrowed := true }
def LogAloneUptoSaid : Prop := logAloneUptoRow.holds Try.pinned (OpenSpec.upto logAloneSpec)

/-- 'croftlaw.ActKept', WHERE WHAT IT READS IS OF BULK AT MOST 1048576: true; the input reads as it did. -/
def actKeptUptoRow : OpenClaim := { program := "ytdbcimadjmdffaa", sum := "27f19e86ce7349062259d8bdb8c00bd7ec1128a6e35cb8e4a551022bcfd4e83d", func := "croft/croftlaw.ActKept", spec := "actKept", unfollowed := true, recurses := true, plainKeys := false, apart := false, narrowed := true }
def ActKeptUptoSaid : Prop := actKeptUptoRow.holds Try.pinned (OpenSpec.upto actKeptSpec)

/-- 'croftlaw.ModelTells', WHERE WHAT IT READS IS OF BULK AT MOST 1048576: true; the input reads as it did. -/
def modelTellsUptoRow : OpenClaim := { program := "ytdbcimadjmdffaa", sum := "27f19e86ce7349062259d8bdb8c00bd7ec1128a6e35cb8e4a551022bcfd4e83d", func := "croft/croftlaw.ModelTells", spec := "modelTells", unfollowed := true, recurses := true, plainKeys := false, apart := false, narrowed := true }
def ModelTellsUptoSaid : Prop := modelTellsUptoRow.holds Try.pinned (OpenSpec.upto modelTellsSpec)

/-- 'croftlaw.ModelMore', WHERE WHAT IT READS IS OF BULK AT MOST 1048576: true; the input reads as it did. -/
def modelMoreUptoRow : OpenClaim := { program := "ytdbcimadjmdffaa", sum := "27f19e86ce7349062259d8bdb8c00bd7ec1128a6e35cb8e4a551022bcfd4e83d", func := "croft/croftlaw.ModelMore", spec := "modelMore", unfollowed := true, recurses := true, plainKeys := false, apart := false, narrowed := true }
def ModelMoreUptoSaid : Prop := modelMoreUptoRow.holds Try.pinned (OpenSpec.upto modelMoreSpec)

/-- 'croftlaw.WorldTells', WHERE WHAT IT READS IS OF BULK AT MOST 1048576: true; the input reads as it did. -/
def worldTellsUptoRow : OpenClaim := { program := "ytdbcimadjmdffaa", sum := "27f19e86ce7349062259d8bdb8c00bd7ec1128a6e35cb8e4a551022bcfd4e83d", func := "croft/croftlaw.WorldTells", spec := "worldTells", unfollowed := true, recurses := true, plainKeys := false, apart := false, narrowed := true }
def WorldTellsUptoSaid : Prop := worldTellsUptoRow.holds Try.pinned (OpenSpec.upto worldTellsSpec)

/-- 'croftlaw.ModelTrue', WHERE WHAT IT READS IS OF BULK AT MOST 1048576: true; the input reads as it did. -/
def modelTrueUptoRow : OpenClaim := { program := "ytdbcimadjmdffaa", sum := "27f19e86ce7349062259d8bdb8c00bd7ec1128a6e35cb8e4a551022bcfd4e83d", func := "croft/croftlaw.ModelTrue", spec := "modelTrue", unfollowed := true, recurses := true, plainKeys := false, apart := false, narrowed := true }
def ModelTrueUptoSaid : Prop := modelTrueUptoRow.holds Try.pinned (OpenSpec.upto modelTrueSpec)

/-- 'croftlaw.FlushTells', WHERE WHAT IT READS IS OF BULK AT MOST 1048576: true; the input reads as it did. -/
def flushTellsUptoRow : OpenClaim := { program := "ytdbcimadjmdffaa", sum := "27f19e86ce7349062259d8bdb8c00bd7ec1128a6e35cb8e4a551022bcfd4e83d", func := "croft/croftlaw.FlushTells", spec := "flushTells", unfollowed := true, recurses := true, plainKeys := false, apart := false, narrowed := true }
def FlushTellsUptoSaid : Prop := flushTellsUptoRow.holds Try.pinned (OpenSpec.upto flushTellsSpec)

/-- 'croftlaw.FlushTrue', WHERE WHAT IT READS IS OF BULK AT MOST 1048576: true; the input reads as it did. -/
def flushTrueUptoRow : OpenClaim := { program := "ytdbcimadjmdffaa", sum := "27f19e86ce7349062259d8bdb8c00bd7ec1128a6e35cb8e4a551022bcfd4e83d", func := "croft/croftlaw.FlushTrue", spec := "flushTrue", unfollowed := true, recurses := true, plainKeys := false, apart := false, narrowed := true }
def FlushTrueUptoSaid : Prop := flushTrueUptoRow.holds Try.pinned (OpenSpec.upto flushTrueSpec)

/-- 'croftlaw.RollSteps', WHERE WHAT IT READS IS OF BULK AT MOST 1048576: true; the input reads as it did. -/
def rollStepsUptoRow : OpenClaim := { program := "ytdbcimadjmdffaa", sum := "27f19e86ce7349062259d8bdb8c00bd7ec1128a6e35cb8e4a551022bcfd4e83d", func := "croft/croftlaw.RollSteps", spec := "rollSteps", unfollowed := true, recurses := true, plainKeys := false, apart := false, narrowed := true }
def RollStepsUptoSaid : Prop := rollStepsUptoRow.holds Try.pinned (OpenSpec.upto rollStepsSpec)

/-- 'croftlaw.RollAborts', WHERE WHAT IT READS IS OF BULK AT MOST 1048576: true; the input reads as it did. -/
def rollAbortsUptoRow : OpenClaim := { program := "ytdbcimadjmdffaa", sum := "27f19e86ce7349062259d8bdb8c00bd7ec1128a6e35cb8e4a551022bcfd4e83d", func := "croft/croftlaw.RollAborts", spec := "rollAborts", unfollowed := true, recurses := true, plainKeys := false, apart := false, narrowed := true }
def RollAbortsUptoSaid : Prop := rollAbortsUptoRow.holds Try.pinned (OpenSpec.upto rollAbortsSpec)

/-- 'croftlaw.WorkWrites', WHERE WHAT IT READS IS OF BULK AT MOST 1048576: true; the input reads as it did. -/
def workWritesUptoRow : OpenClaim := { program := "ytdbcimadjmdffaa", sum := "27f19e86ce7349062259d8bdb8c00bd7ec1128a6e35cb8e4a551022bcfd4e83d", func := "croft/croftlaw.WorkWrites", spec := "workWrites", unfollowed := true, recurses := true, plainKeys := false, apart := false, narrowed := true }
def WorkWritesUptoSaid : Prop := workWritesUptoRow.holds Try.pinned (OpenSpec.upto workWritesSpec)

/-- 'croftlaw.WorkCommits', WHERE WHAT IT READS IS OF BULK AT MOST 1048576: true; the input reads as it did. -/
def workCommitsUptoRow : OpenClaim := { program := "ytdbcimadjmdffaa", sum := "27f19e86ce7349062259d8bdb8c00bd7ec1128a6e35cb8e4a551022bcfd4e83d", func := "croft/croftlaw.WorkCommits", spec := "workCommits", unfollowed := true, recurses := true, plainKeys := false, apart := false, narrowed := true }
def WorkCommitsUptoSaid : Prop := workCommitsUptoRow.holds Try.pinned (OpenSpec.upto workCommitsSpec)

/-- 'croftlaw.ScanTells', WHERE WHAT IT READS IS OF BULK AT MOST 1048576: true; the input reads as it did. -/
def scanTellsUptoRow : OpenClaim := { program := "ytdbcimadjmdffaa", sum := "27f19e86ce7349062259d8bdb8c00bd7ec1128a6e35cb8e4a551022bcfd4e83d", func := "croft/croftlaw.ScanTells", spec := "scanTells", unfollowed := true, recurses := true, plainKeys := false, apart := false, narrowed := true }
def ScanTellsUptoSaid : Prop := scanTellsUptoRow.holds Try.pinned (OpenSpec.upto scanTellsSpec)

/-- 'croftlaw.ScanRedoes', WHERE WHAT IT READS IS OF BULK AT MOST 1048576: true; the input reads as it did. -/
def scanRedoesUptoRow : OpenClaim := { program := "ytdbcimadjmdffaa", sum := "27f19e86ce7349062259d8bdb8c00bd7ec1128a6e35cb8e4a551022bcfd4e83d", func := "croft/croftlaw.ScanRedoes", spec := "scanRedoes", unfollowed := true, recurses := true, plainKeys := false, apart := false, narrowed := true }
def ScanRedoesUptoSaid : Prop := scanRedoesUptoRow.holds Try.pinned (OpenSpec.upto scanRedoesSpec)

/-- 'croftlaw.ScanTrue', WHERE WHAT IT READS IS OF BULK AT MOST 1048576: true; the input reads as it did. -/
def scanTrueUptoRow : OpenClaim := { program := "ytdbcimadjmdffaa", sum := "27f19e86ce7349062259d8bdb8c00bd7ec1128a6e35cb8e4a551022bcfd4e83d", func := "croft/croftlaw.ScanTrue", spec := "scanTrue", unfollowed := true, recurses := true, plainKeys := false, apart := false, narrowed := true }
def ScanTrueUptoSaid : Prop := scanTrueUptoRow.holds Try.pinned (OpenSpec.upto scanTrueSpec)

/-- 'croftlaw.WorkWins', WHERE WHAT IT READS IS OF BULK AT MOST 1048576: true; the input reads as it did. -/
def workWinsUptoRow : OpenClaim := { program := "ytdbcimadjmdffaa", sum := "27f19e86ce7349062259d8bdb8c00bd7ec1128a6e35cb8e4a551022bcfd4e83d", func := "croft/croftlaw.WorkWins", spec := "workWins", unfollowed := true, recurses := true, plainKeys := false, apart := false, narrowed := true }
def WorkWinsUptoSaid : Prop := workWinsUptoRow.holds Try.pinned (OpenSpec.upto workWinsSpec)

/-- 'croftlaw.WorkTrue', WHERE WHAT IT READS IS OF BULK AT MOST 1048576: true; the input reads as it did. -/
def workTrueUptoRow : OpenClaim := { program := "ytdbcimadjmdffaa", sum := "27f19e86ce7349062259d8bdb8c00bd7ec1128a6e35cb8e4a551022bcfd4e83d", func := "croft/croftlaw.WorkTrue", spec := "workTrue", unfollowed := true, recurses := true, plainKeys := false, apart := false, narrowed := true }
def WorkTrueUptoSaid : Prop := workTrueUptoRow.holds Try.pinned (OpenSpec.upto workTrueSpec)

/-- 'croftlaw.WorkAlone', WHERE WHAT IT READS IS OF BULK AT MOST 1048576: true; the input reads as it did. -/
def workAloneUptoRow : OpenClaim := { program := "ytdbcimadjmdffaa", sum := "27f19e86ce7349062259d8bdb8c00bd7ec1128a6e35cb8e4a551022bcfd4e83d", func := "croft/croftlaw.WorkAlone", spec := "workAlone", unfollowed := true, recurses := true, plainKeys := false, apart := false, narrowed := true }
def WorkAloneUptoSaid : Prop := workAloneUptoRow.holds Try.pinned (OpenSpec.upto workAloneSpec)

/-- 'croftlaw.RollTrue', WHERE WHAT IT READS IS OF BULK AT MOST 1048576: true; the input reads as it did. -/
def rollTrueUptoRow : OpenClaim := { program := "ytdbcimadjmdffaa", sum := "27f19e86ce7349062259d8bdb8c00bd7ec1128a6e35cb8e4a551022bcfd4e83d", func := "croft/croftlaw.RollTrue", spec := "rollTrue", unfollowed := true, recurses := true, plainKeys := false, apart := false, narrowed := true }
def RollTrueUptoSaid : Prop := rollTrueUptoRow.holds Try.pinned (OpenSpec.upto rollTrueSpec)

/-- 'croftlaw.MendAlls', WHERE WHAT IT READS IS OF BULK AT MOST 1048576: true; the input reads as it did. -/
def mendAllsUptoRow : OpenClaim := { program := "ytdbcimadjmdffaa", sum := "27f19e86ce7349062259d8bdb8c00bd7ec1128a6e35cb8e4a551022bcfd4e83d", func := "croft/croftlaw.MendAlls", spec := "mendAlls", unfollowed := true, recurses := true, plainKeys := false, apart := false, narrowed := true }
def MendAllsUptoSaid : Prop := mendAllsUptoRow.holds Try.pinned (OpenSpec.upto mendAllsSpec)

/-- 'croftlaw.MendHalves', WHERE WHAT IT READS IS OF BULK AT MOST 1048576: true; the input reads as it did. -/
def mendHalvesUptoRow : OpenClaim := { program := "ytdbcimadjmdffaa", sum := "27f19e86ce7349062259d8bdb8c00bd7ec1128a6e35cb8e4a551022bcfd4e83d", func := "croft/croftlaw.MendHalves", spec := "mendHalves", unfollowed := true, recurses := true, plainKeys := false, apart := false, narrowed := true }
def MendHalvesUptoSaid : Prop := mendHalvesUptoRow.holds Try.pinned (OpenSpec.upto mendHalvesSpec)

/-- 'croftlaw.MendOnce', WHERE WHAT IT READS IS OF BULK AT MOST 1048576: true; the input reads as it did. -/
def mendOnceUptoRow : OpenClaim := { program := "ytdbcimadjmdffaa", sum := "27f19e86ce7349062259d8bdb8c00bd7ec1128a6e35cb8e4a551022bcfd4e83d", func := "croft/croftlaw.MendOnce", spec := "mendOnce", unfollowed := true, recurses := true, plainKeys := false, apart := false, narrowed := true }
def MendOnceUptoSaid : Prop := mendOnceUptoRow.holds Try.pinned (OpenSpec.upto mendOnceSpec)

/-- 'croftlaw.MendOften', WHERE WHAT IT READS IS OF BULK AT MOST 1048576: true; the input reads as it did. -/
def mendOftenUptoRow : OpenClaim := { program := "ytdbcimadjmdffaa", sum := "27f19e86ce7349062259d8bdb8c00bd7ec1128a6e35cb8e4a551022bcfd4e83d", func := "croft/croftlaw.MendOften", spec := "mendOften", unfollowed := true, recurses := true, plainKeys := false, apart := false, narrowed := true }
def MendOftenUptoSaid : Prop := mendOftenUptoRow.holds Try.pinned (OpenSpec.upto mendOftenSpec)

/-- 'croftlaw.MendFew', WHERE WHAT IT READS IS OF BULK AT MOST 1048576: true; the input reads as it did. -/
def mendFewUptoRow : OpenClaim := { program := "ytdbcimadjmdffaa", sum := "27f19e86ce7349062259d8bdb8c00bd7ec1128a6e35cb8e4a551022bcfd4e83d", func := "croft/croftlaw.MendFew", spec := "mendFew", unfollowed := true, recurses := true, plainKeys := false, apart := false, narrowed := true }
def MendFewUptoSaid : Prop := mendFewUptoRow.holds Try.pinned (OpenSpec.upto mendFewSpec)

/-- 'croftlaw.MendTrue', WHERE WHAT IT READS IS OF BULK AT MOST 1048576: true; the input reads as it did. -/
def mendTrueUptoRow : OpenClaim := { program := "ytdbcimadjmdffaa", sum := "27f19e86ce7349062259d8bdb8c00bd7ec1128a6e35cb8e4a551022bcfd4e83d", func := "croft/croftlaw.MendTrue", spec := "mendTrue", unfollowed := true, recurses := true, plainKeys := false, apart := false, narrowed := true }
def MendTrueUptoSaid : Prop := mendTrueUptoRow.holds Try.pinned (OpenSpec.upto mendTrueSpec)

/-- 'croftlaw.ActDoes', WHERE WHAT IT READS IS OF BULK AT MOST 1048576: true; the input reads as it did. -/
def actDoesUptoRow : OpenClaim := { program := "ytdbcimadjmdffaa", sum := "27f19e86ce7349062259d8bdb8c00bd7ec1128a6e35cb8e4a551022bcfd4e83d", func := "croft/croftlaw.ActDoes", spec := "actDoes", unfollowed := true, recurses := true, plainKeys := false, apart := false, narrowed := true }
def ActDoesUptoSaid : Prop := actDoesUptoRow.holds Try.pinned (OpenSpec.upto actDoesSpec)

/-- 'croftlaw.ActAlls', WHERE WHAT IT READS IS OF BULK AT MOST 1048576: true; the input reads as it did. -/
def actAllsUptoRow : OpenClaim := { program := "ytdbcimadjmdffaa", sum := "27f19e86ce7349062259d8bdb8c00bd7ec1128a6e35cb8e4a551022bcfd4e83d", func := "croft/croftlaw.ActAlls", spec := "actAlls", unfollowed := true, recurses := true, plainKeys := false, apart := false, narrowed := true }
def ActAllsUptoSaid : Prop := actAllsUptoRow.holds Try.pinned (OpenSpec.upto actAllsSpec)

/-- 'croftlaw.ActRight', WHERE WHAT IT READS IS OF BULK AT MOST 1048576: true; the input reads as it did. -/
def actRightUptoRow : OpenClaim := { program := "ytdbcimadjmdffaa", sum := "27f19e86ce7349062259d8bdb8c00bd7ec1128a6e35cb8e4a551022bcfd4e83d", func := "croft/croftlaw.ActRight", spec := "actRight", unfollowed := true, recurses := true, plainKeys := false, apart := false, narrowed := true }
def ActRightUptoSaid : Prop := actRightUptoRow.holds Try.pinned (OpenSpec.upto actRightSpec)

/-- 'croftlaw.RestWorlds', WHERE WHAT IT READS IS OF BULK AT MOST 1048576: true; the input reads as it did. -/
def restWorldsUptoRow : OpenClaim := { program := "ytdbcimadjmdffaa", sum := "27f19e86ce7349062259d8bdb8c00bd7ec1128a6e35cb8e4a551022bcfd4e83d", func := "croft/croftlaw.RestWorlds", spec := "restWorlds", unfollowed := true, recurses := true, plainKeys := false, apart := false, narrowed := true }
def RestWorldsUptoSaid : Prop := restWorldsUptoRow.holds Try.pinned (OpenSpec.upto restWorldsSpec)

/-- 'croftlaw.ActLost', WHERE WHAT IT READS IS OF BULK AT MOST 1048576: true; the input reads as it did. -/
def actLostUptoRow : OpenClaim := { program := "ytdbcimadjmdffaa", sum := "27f19e86ce7349062259d8bdb8c00bd7ec1128a6e35cb8e4a551022bcfd4e83d", func := "croft/croftlaw.ActLost", spec := "actLost", unfollowed := true, recurses := true, plainKeys := false, apart := false, narrowed := true }
def ActLostUptoSaid : Prop := actLostUptoRow.holds Try.pinned (OpenSpec.upto actLostSpec)

end Rows
end Go.Proofs.Ytdbcimadjmdffaa
