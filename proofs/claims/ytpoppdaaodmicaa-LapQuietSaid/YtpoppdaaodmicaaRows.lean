/-
  No cell of these rows narrows 'for every input' (looked for: loops, veiled, ifaces, maps, wideKeys, modest, calm, conditions, laid).
  DERIVED. THE GIVEN ROWS OF THIS SEAT. 26 by the template 'for every input the law returns true; each argument reads behind the call as it read before'; 0 by the template 'total and deterministic' (their statements: YtpoppdaaodmicaaTotals.lean).
  GIVEN WITH THE SEED: the statements are not yours to turn. If you find one false, say at which input.
  Laid BY PROGRAM, IN A SANDBOX (cutbox-rows.mjs): the forced cells as the released guide's own fill.sh prints them over the translation 6475d0407721e265… (all of the seat's roots in one cut). By AI agents, Wed Nov 11 2026. No macro, syntax, notation, axiom, sorry.
-/
import Derived.Test.YtpoppdaaodmicaaChecked
import GoSem.Claim
import GoSem.ClaimJoined
import GoSem.ClaimMapViews
import Derived.JoinedTies
import Derived.KernelRfl
namespace Go.Proofs.Ytpoppdaaodmicaa
/- THE CELL 'sum', in the pinned program and in every row, IS THE sha256 OF THE DUMP (.gsa) THAT YtpoppdaaodmicaaProg.lean LOADS. Nothing in Lean hashes anything: it is a label: what it is worth is what the hold of that sum in a sandbox is worth. -/
noncomputable def Try.pinned : Pinned := { name := "ytpoppdaaodmicaa", sum := "6475d0407721e2654b39d5a408ef1db39ab16d750602b103cb2bee102059a7fb", checked := Try.checked }
namespace Rows
def none {H : Type} : Left H := { results := [], args := [] }

/-- 'reedpipelaw04.TrigNames': WHATEVER THE INPUT: true; the input reads as it did. -/
def trigNamesSpec : ChangeSpec := { name := "trigNames", fn := fun _ => fun
  | [] => { results := [.lit (.bool true)], args := [] }
  | _ => none }
def trigNamesRow : OpenClaim := { program := "ytpoppdaaodmicaa", sum := "6475d0407721e2654b39d5a408ef1db39ab16d750602b103cb2bee102059a7fb", func := "reedpipe/reedpipelaw04.TrigNames", spec := "trigNames", apart := false }
def TrigNamesSaid : Prop := trigNamesRow.holds Try.pinned (OpenSpec.ofChange trigNamesSpec)

/-- ITS FALSE NEIGHBOUR: 'it returns false'. Refute it at one input. -/
def trigNamesWrong : ChangeSpec := { name := "trigNames", fn := fun _ => fun
  | [] => { results := [.lit (.bool false)], args := [] }
  | _ => none }
def TrigNamesWrongFalsely : Prop := trigNamesRow.holds Try.pinned (OpenSpec.ofChange trigNamesWrong)

/-- 'reedpipelaw04.TrigDoes': WHATEVER THE INPUT: true; the input reads as it did. -/
def trigDoesSpec : ChangeSpec := { name := "trigDoes", fn := fun _ => fun
  | [d] => { results := [.lit (.bool true)], args := [d] }
  | _ => none }
def trigDoesRow : OpenClaim := { program := "ytpoppdaaodmicaa", sum := "6475d0407721e2654b39d5a408ef1db39ab16d750602b103cb2bee102059a7fb", func := "reedpipe/reedpipelaw04.TrigDoes", spec := "trigDoes", recurses := true, apart := false }
def TrigDoesSaid : Prop := trigDoesRow.holds Try.pinned (OpenSpec.ofChange trigDoesSpec)

/-- ITS FALSE NEIGHBOUR: 'it returns false'. Refute it at one input. -/
def trigDoesWrong : ChangeSpec := { name := "trigDoes", fn := fun _ => fun
  | [d] => { results := [.lit (.bool false)], args := [d] }
  | _ => none }
def TrigDoesWrongFalsely : Prop := trigDoesRow.holds Try.pinned (OpenSpec.ofChange trigDoesWrong)

/-- 'reedpipelaw04.TrigAll': WHATEVER THE INPUT: true; the input reads as it did. -/
def trigAllSpec : ChangeSpec := { name := "trigAll", fn := fun _ => fun
  | [] => { results := [.lit (.bool true)], args := [] }
  | _ => none }
def trigAllRow : OpenClaim := { program := "ytpoppdaaodmicaa", sum := "6475d0407721e2654b39d5a408ef1db39ab16d750602b103cb2bee102059a7fb", func := "reedpipe/reedpipelaw04.TrigAll", spec := "trigAll", recurses := true, apart := false }
def TrigAllSaid : Prop := trigAllRow.holds Try.pinned (OpenSpec.ofChange trigAllSpec)

/-- ITS FALSE NEIGHBOUR: 'it returns false'. Refute it at one input. -/
def trigAllWrong : ChangeSpec := { name := "trigAll", fn := fun _ => fun
  | [] => { results := [.lit (.bool false)], args := [] }
  | _ => none }
def TrigAllWrongFalsely : Prop := trigAllRow.holds Try.pinned (OpenSpec.ofChange trigAllWrong)

/-- 'reedpipelaw04.TrigTurns': WHATEVER THE INPUT: true; the input reads as it did. -/
def trigTurnsSpec : ChangeSpec := { name := "trigTurns", fn := fun _ => fun
  | [d1, d2] => { results := [.lit (.bool true)], args := [d1, d2] }
  | _ => none }
def trigTurnsRow : OpenClaim := { program := "ytpoppdaaodmicaa", sum := "6475d0407721e2654b39d5a408ef1db39ab16d750602b103cb2bee102059a7fb", func := "reedpipe/reedpipelaw04.TrigTurns", spec := "trigTurns", apart := false }
def TrigTurnsSaid : Prop := trigTurnsRow.holds Try.pinned (OpenSpec.ofChange trigTurnsSpec)

/-- ITS FALSE NEIGHBOUR: 'it returns false'. Refute it at one input. -/
def trigTurnsWrong : ChangeSpec := { name := "trigTurns", fn := fun _ => fun
  | [d1, d2] => { results := [.lit (.bool false)], args := [d1, d2] }
  | _ => none }
def TrigTurnsWrongFalsely : Prop := trigTurnsRow.holds Try.pinned (OpenSpec.ofChange trigTurnsWrong)

/-- 'reedpipelaw04.TrigCircle': WHATEVER THE INPUT: true; the input reads as it did. -/
def trigCircleSpec : ChangeSpec := { name := "trigCircle", fn := fun _ => fun
  | [] => { results := [.lit (.bool true)], args := [] }
  | _ => none }
def trigCircleRow : OpenClaim := { program := "ytpoppdaaodmicaa", sum := "6475d0407721e2654b39d5a408ef1db39ab16d750602b103cb2bee102059a7fb", func := "reedpipe/reedpipelaw04.TrigCircle", spec := "trigCircle", apart := false }
def TrigCircleSaid : Prop := trigCircleRow.holds Try.pinned (OpenSpec.ofChange trigCircleSpec)

/-- ITS FALSE NEIGHBOUR: 'it returns false'. Refute it at one input. -/
def trigCircleWrong : ChangeSpec := { name := "trigCircle", fn := fun _ => fun
  | [] => { results := [.lit (.bool false)], args := [] }
  | _ => none }
def TrigCircleWrongFalsely : Prop := trigCircleRow.holds Try.pinned (OpenSpec.ofChange trigCircleWrong)

/-- 'reedpipelaw04.TrigSums': WHATEVER THE INPUT: true; the input reads as it did. -/
def trigSumsSpec : ChangeSpec := { name := "trigSums", fn := fun _ => fun
  | [d1, d2] => { results := [.lit (.bool true)], args := [d1, d2] }
  | _ => none }
def trigSumsRow : OpenClaim := { program := "ytpoppdaaodmicaa", sum := "6475d0407721e2654b39d5a408ef1db39ab16d750602b103cb2bee102059a7fb", func := "reedpipe/reedpipelaw04.TrigSums", spec := "trigSums", apart := false }
def TrigSumsSaid : Prop := trigSumsRow.holds Try.pinned (OpenSpec.ofChange trigSumsSpec)

/-- ITS FALSE NEIGHBOUR: 'it returns false'. Refute it at one input. -/
def trigSumsWrong : ChangeSpec := { name := "trigSums", fn := fun _ => fun
  | [d1, d2] => { results := [.lit (.bool false)], args := [d1, d2] }
  | _ => none }
def TrigSumsWrongFalsely : Prop := trigSumsRow.holds Try.pinned (OpenSpec.ofChange trigSumsWrong)

/-- 'reedpipelaw13.LapQuiet': WHATEVER THE INPUT: true; the input reads as it did. -/
def lapQuietSpec : ChangeSpec := { name := "lapQuiet", fn := fun _ => fun
  | [d1, d2, d3, d4] => { results := [.lit (.bool true)], args := [d1, d2, d3, d4] }
  | _ => none }
def lapQuietRow : OpenClaim := { program := "ytpoppdaaodmicaa", sum := "6475d0407721e2654b39d5a408ef1db39ab16d750602b103cb2bee102059a7fb", func := "reedpipe/reedpipelaw13.LapQuiet", spec := "lapQuiet", unfollowed := true, recurses := true, apart := false }
def LapQuietSaid : Prop := lapQuietRow.holds Try.pinned (OpenSpec.ofChange lapQuietSpec)

/-- ITS FALSE NEIGHBOUR: 'it returns false'. Refute it at one input. -/
def lapQuietWrong : ChangeSpec := { name := "lapQuiet", fn := fun _ => fun
  | [d1, d2, d3, d4] => { results := [.lit (.bool false)], args := [d1, d2, d3, d4] }
  | _ => none }
def LapQuietWrongFalsely : Prop := lapQuietRow.holds Try.pinned (OpenSpec.ofChange lapQuietWrong)

/-- 'reedpipelaw11.MdctTurns': WHATEVER THE INPUT: true; the input reads as it did. -/
def mdctTurnsSpec : ChangeSpec := { name := "mdctTurns", fn := fun _ => fun
  | [d1, d2] => { results := [.lit (.bool true)], args := [d1, d2] }
  | _ => none }
def mdctTurnsRow : OpenClaim := { program := "ytpoppdaaodmicaa", sum := "6475d0407721e2654b39d5a408ef1db39ab16d750602b103cb2bee102059a7fb", func := "reedpipe/reedpipelaw11.MdctTurns", spec := "mdctTurns", unfollowed := true, recurses := true, apart := false }
def MdctTurnsSaid : Prop := mdctTurnsRow.holds Try.pinned (OpenSpec.ofChange mdctTurnsSpec)

/-- ITS FALSE NEIGHBOUR: 'it returns false'. Refute it at one input. -/
def mdctTurnsWrong : ChangeSpec := { name := "mdctTurns", fn := fun _ => fun
  | [d1, d2] => { results := [.lit (.bool false)], args := [d1, d2] }
  | _ => none }
def MdctTurnsWrongFalsely : Prop := mdctTurnsRow.holds Try.pinned (OpenSpec.ofChange mdctTurnsWrong)

/-- 'reedpipelaw05.WindowNames': WHATEVER THE INPUT: true; the input reads as it did. -/
def windowNamesSpec : ChangeSpec := { name := "windowNames", fn := fun _ => fun
  | [] => { results := [.lit (.bool true)], args := [] }
  | _ => none }
def windowNamesRow : OpenClaim := { program := "ytpoppdaaodmicaa", sum := "6475d0407721e2654b39d5a408ef1db39ab16d750602b103cb2bee102059a7fb", func := "reedpipe/reedpipelaw05.WindowNames", spec := "windowNames", unfollowed := true, recurses := true, apart := false }
def WindowNamesSaid : Prop := windowNamesRow.holds Try.pinned (OpenSpec.ofChange windowNamesSpec)

/-- ITS FALSE NEIGHBOUR: 'it returns false'. Refute it at one input. -/
def windowNamesWrong : ChangeSpec := { name := "windowNames", fn := fun _ => fun
  | [] => { results := [.lit (.bool false)], args := [] }
  | _ => none }
def WindowNamesWrongFalsely : Prop := windowNamesRow.holds Try.pinned (OpenSpec.ofChange windowNamesWrong)

/-- 'reedpipelaw13.LapBack': WHATEVER THE INPUT: true; the input reads as it did. -/
def lapBackSpec : ChangeSpec := { name := "lapBack", fn := fun _ => fun
  | [d1, d2] => { results := [.lit (.bool true)], args := [d1, d2] }
  | _ => none }
def lapBackRow : OpenClaim := { program := "ytpoppdaaodmicaa", sum := "6475d0407721e2654b39d5a408ef1db39ab16d750602b103cb2bee102059a7fb", func := "reedpipe/reedpipelaw13.LapBack", spec := "lapBack", unfollowed := true, recurses := true, apart := false }
def LapBackSaid : Prop := lapBackRow.holds Try.pinned (OpenSpec.ofChange lapBackSpec)

/-- ITS FALSE NEIGHBOUR: 'it returns false'. Refute it at one input. -/
def lapBackWrong : ChangeSpec := { name := "lapBack", fn := fun _ => fun
  | [d1, d2] => { results := [.lit (.bool false)], args := [d1, d2] }
  | _ => none }
def LapBackWrongFalsely : Prop := lapBackRow.holds Try.pinned (OpenSpec.ofChange lapBackWrong)

/-- 'reedpipelaw05.WindowDoes': WHATEVER THE INPUT: true; the input reads as it did. -/
def windowDoesSpec : ChangeSpec := { name := "windowDoes", fn := fun _ => fun
  | [d1, d2] => { results := [.lit (.bool true)], args := [d1, d2] }
  | _ => none }
def windowDoesRow : OpenClaim := { program := "ytpoppdaaodmicaa", sum := "6475d0407721e2654b39d5a408ef1db39ab16d750602b103cb2bee102059a7fb", func := "reedpipe/reedpipelaw05.WindowDoes", spec := "windowDoes", unfollowed := true, recurses := true, apart := false }
def WindowDoesSaid : Prop := windowDoesRow.holds Try.pinned (OpenSpec.ofChange windowDoesSpec)

/-- ITS FALSE NEIGHBOUR: 'it returns false'. Refute it at one input. -/
def windowDoesWrong : ChangeSpec := { name := "windowDoes", fn := fun _ => fun
  | [d1, d2] => { results := [.lit (.bool false)], args := [d1, d2] }
  | _ => none }
def WindowDoesWrongFalsely : Prop := windowDoesRow.holds Try.pinned (OpenSpec.ofChange windowDoesWrong)

/-- 'reedpipelaw05.WindowPower': WHATEVER THE INPUT: true; the input reads as it did. -/
def windowPowerSpec : ChangeSpec := { name := "windowPower", fn := fun _ => fun
  | [] => { results := [.lit (.bool true)], args := [] }
  | _ => none }
def windowPowerRow : OpenClaim := { program := "ytpoppdaaodmicaa", sum := "6475d0407721e2654b39d5a408ef1db39ab16d750602b103cb2bee102059a7fb", func := "reedpipe/reedpipelaw05.WindowPower", spec := "windowPower", unfollowed := true, recurses := true, apart := false }
def WindowPowerSaid : Prop := windowPowerRow.holds Try.pinned (OpenSpec.ofChange windowPowerSpec)

/-- ITS FALSE NEIGHBOUR: 'it returns false'. Refute it at one input. -/
def windowPowerWrong : ChangeSpec := { name := "windowPower", fn := fun _ => fun
  | [] => { results := [.lit (.bool false)], args := [] }
  | _ => none }
def WindowPowerWrongFalsely : Prop := windowPowerRow.holds Try.pinned (OpenSpec.ofChange windowPowerWrong)

/-- 'reedpipelaw05.WindowHalves': WHATEVER THE INPUT: true; the input reads as it did. -/
def windowHalvesSpec : ChangeSpec := { name := "windowHalves", fn := fun _ => fun
  | [] => { results := [.lit (.bool true)], args := [] }
  | _ => none }
def windowHalvesRow : OpenClaim := { program := "ytpoppdaaodmicaa", sum := "6475d0407721e2654b39d5a408ef1db39ab16d750602b103cb2bee102059a7fb", func := "reedpipe/reedpipelaw05.WindowHalves", spec := "windowHalves", unfollowed := true, recurses := true, apart := false }
def WindowHalvesSaid : Prop := windowHalvesRow.holds Try.pinned (OpenSpec.ofChange windowHalvesSpec)

/-- ITS FALSE NEIGHBOUR: 'it returns false'. Refute it at one input. -/
def windowHalvesWrong : ChangeSpec := { name := "windowHalves", fn := fun _ => fun
  | [] => { results := [.lit (.bool false)], args := [] }
  | _ => none }
def WindowHalvesWrongFalsely : Prop := windowHalvesRow.holds Try.pinned (OpenSpec.ofChange windowHalvesWrong)

/-- 'reedpipelaw11.MdctNames': WHATEVER THE INPUT: true; the input reads as it did. -/
def mdctNamesSpec : ChangeSpec := { name := "mdctNames", fn := fun _ => fun
  | [] => { results := [.lit (.bool true)], args := [] }
  | _ => none }
def mdctNamesRow : OpenClaim := { program := "ytpoppdaaodmicaa", sum := "6475d0407721e2654b39d5a408ef1db39ab16d750602b103cb2bee102059a7fb", func := "reedpipe/reedpipelaw11.MdctNames", spec := "mdctNames", unfollowed := true, recurses := true, apart := false }
def MdctNamesSaid : Prop := mdctNamesRow.holds Try.pinned (OpenSpec.ofChange mdctNamesSpec)

/-- ITS FALSE NEIGHBOUR: 'it returns false'. Refute it at one input. -/
def mdctNamesWrong : ChangeSpec := { name := "mdctNames", fn := fun _ => fun
  | [] => { results := [.lit (.bool false)], args := [] }
  | _ => none }
def MdctNamesWrongFalsely : Prop := mdctNamesRow.holds Try.pinned (OpenSpec.ofChange mdctNamesWrong)

/-- 'reedpipelaw11.MdctDoes': WHATEVER THE INPUT: true; the input reads as it did. -/
def mdctDoesSpec : ChangeSpec := { name := "mdctDoes", fn := fun _ => fun
  | [d1, d2] => { results := [.lit (.bool true)], args := [d1, d2] }
  | _ => none }
def mdctDoesRow : OpenClaim := { program := "ytpoppdaaodmicaa", sum := "6475d0407721e2654b39d5a408ef1db39ab16d750602b103cb2bee102059a7fb", func := "reedpipe/reedpipelaw11.MdctDoes", spec := "mdctDoes", unfollowed := true, recurses := true, apart := false }
def MdctDoesSaid : Prop := mdctDoesRow.holds Try.pinned (OpenSpec.ofChange mdctDoesSpec)

/-- ITS FALSE NEIGHBOUR: 'it returns false'. Refute it at one input. -/
def mdctDoesWrong : ChangeSpec := { name := "mdctDoes", fn := fun _ => fun
  | [d1, d2] => { results := [.lit (.bool false)], args := [d1, d2] }
  | _ => none }
def MdctDoesWrongFalsely : Prop := mdctDoesRow.holds Try.pinned (OpenSpec.ofChange mdctDoesWrong)

/-- 'reedpipelaw11.MdctBack': WHATEVER THE INPUT: true; the input reads as it did. -/
def mdctBackSpec : ChangeSpec := { name := "mdctBack", fn := fun _ => fun
  | [d] => { results := [.lit (.bool true)], args := [d] }
  | _ => none }
def mdctBackRow : OpenClaim := { program := "ytpoppdaaodmicaa", sum := "6475d0407721e2654b39d5a408ef1db39ab16d750602b103cb2bee102059a7fb", func := "reedpipe/reedpipelaw11.MdctBack", spec := "mdctBack", unfollowed := true, recurses := true, apart := false }
def MdctBackSaid : Prop := mdctBackRow.holds Try.pinned (OpenSpec.ofChange mdctBackSpec)

/-- ITS FALSE NEIGHBOUR: 'it returns false'. Refute it at one input. -/
def mdctBackWrong : ChangeSpec := { name := "mdctBack", fn := fun _ => fun
  | [d] => { results := [.lit (.bool false)], args := [d] }
  | _ => none }
def MdctBackWrongFalsely : Prop := mdctBackRow.holds Try.pinned (OpenSpec.ofChange mdctBackWrong)

/-- 'reedpipelaw11.MdctFolds': WHATEVER THE INPUT: true; the input reads as it did. -/
def mdctFoldsSpec : ChangeSpec := { name := "mdctFolds", fn := fun _ => fun
  | [d] => { results := [.lit (.bool true)], args := [d] }
  | _ => none }
def mdctFoldsRow : OpenClaim := { program := "ytpoppdaaodmicaa", sum := "6475d0407721e2654b39d5a408ef1db39ab16d750602b103cb2bee102059a7fb", func := "reedpipe/reedpipelaw11.MdctFolds", spec := "mdctFolds", unfollowed := true, recurses := true, apart := false }
def MdctFoldsSaid : Prop := mdctFoldsRow.holds Try.pinned (OpenSpec.ofChange mdctFoldsSpec)

/-- ITS FALSE NEIGHBOUR: 'it returns false'. Refute it at one input. -/
def mdctFoldsWrong : ChangeSpec := { name := "mdctFolds", fn := fun _ => fun
  | [d] => { results := [.lit (.bool false)], args := [d] }
  | _ => none }
def MdctFoldsWrongFalsely : Prop := mdctFoldsRow.holds Try.pinned (OpenSpec.ofChange mdctFoldsWrong)

/-- 'reedpipelaw11.MdctSums': WHATEVER THE INPUT: true; the input reads as it did. -/
def mdctSumsSpec : ChangeSpec := { name := "mdctSums", fn := fun _ => fun
  | [d1, d2] => { results := [.lit (.bool true)], args := [d1, d2] }
  | _ => none }
def mdctSumsRow : OpenClaim := { program := "ytpoppdaaodmicaa", sum := "6475d0407721e2654b39d5a408ef1db39ab16d750602b103cb2bee102059a7fb", func := "reedpipe/reedpipelaw11.MdctSums", spec := "mdctSums", unfollowed := true, recurses := true, apart := false }
def MdctSumsSaid : Prop := mdctSumsRow.holds Try.pinned (OpenSpec.ofChange mdctSumsSpec)

/-- ITS FALSE NEIGHBOUR: 'it returns false'. Refute it at one input. -/
def mdctSumsWrong : ChangeSpec := { name := "mdctSums", fn := fun _ => fun
  | [d1, d2] => { results := [.lit (.bool false)], args := [d1, d2] }
  | _ => none }
def MdctSumsWrongFalsely : Prop := mdctSumsRow.holds Try.pinned (OpenSpec.ofChange mdctSumsWrong)

/-- 'reedpipelaw12.BlockPower': WHATEVER THE INPUT: true; the input reads as it did. -/
def blockPowerSpec : ChangeSpec := { name := "blockPower", fn := fun _ => fun
  | [] => { results := [.lit (.bool true)], args := [] }
  | _ => none }
def blockPowerRow : OpenClaim := { program := "ytpoppdaaodmicaa", sum := "6475d0407721e2654b39d5a408ef1db39ab16d750602b103cb2bee102059a7fb", func := "reedpipe/reedpipelaw12.BlockPower", spec := "blockPower", unfollowed := true, recurses := true, apart := false }
def BlockPowerSaid : Prop := blockPowerRow.holds Try.pinned (OpenSpec.ofChange blockPowerSpec)

/-- ITS FALSE NEIGHBOUR: 'it returns false'. Refute it at one input. -/
def blockPowerWrong : ChangeSpec := { name := "blockPower", fn := fun _ => fun
  | [] => { results := [.lit (.bool false)], args := [] }
  | _ => none }
def BlockPowerWrongFalsely : Prop := blockPowerRow.holds Try.pinned (OpenSpec.ofChange blockPowerWrong)

/-- 'reedpipelaw12.BlockNames': WHATEVER THE INPUT: true; the input reads as it did. -/
def blockNamesSpec : ChangeSpec := { name := "blockNames", fn := fun _ => fun
  | [] => { results := [.lit (.bool true)], args := [] }
  | _ => none }
def blockNamesRow : OpenClaim := { program := "ytpoppdaaodmicaa", sum := "6475d0407721e2654b39d5a408ef1db39ab16d750602b103cb2bee102059a7fb", func := "reedpipe/reedpipelaw12.BlockNames", spec := "blockNames", unfollowed := true, recurses := true, apart := false }
def BlockNamesSaid : Prop := blockNamesRow.holds Try.pinned (OpenSpec.ofChange blockNamesSpec)

/-- ITS FALSE NEIGHBOUR: 'it returns false'. Refute it at one input. -/
def blockNamesWrong : ChangeSpec := { name := "blockNames", fn := fun _ => fun
  | [] => { results := [.lit (.bool false)], args := [] }
  | _ => none }
def BlockNamesWrongFalsely : Prop := blockNamesRow.holds Try.pinned (OpenSpec.ofChange blockNamesWrong)

/-- 'reedpipelaw12.BlockDoes': WHATEVER THE INPUT: true; the input reads as it did. -/
def blockDoesSpec : ChangeSpec := { name := "blockDoes", fn := fun _ => fun
  | [d1, d2, d3, d4, d5] => { results := [.lit (.bool true)], args := [d1, d2, d3, d4, d5] }
  | _ => none }
def blockDoesRow : OpenClaim := { program := "ytpoppdaaodmicaa", sum := "6475d0407721e2654b39d5a408ef1db39ab16d750602b103cb2bee102059a7fb", func := "reedpipe/reedpipelaw12.BlockDoes", spec := "blockDoes", unfollowed := true, recurses := true, apart := false }
def BlockDoesSaid : Prop := blockDoesRow.holds Try.pinned (OpenSpec.ofChange blockDoesSpec)

/-- ITS FALSE NEIGHBOUR: 'it returns false'. Refute it at one input. -/
def blockDoesWrong : ChangeSpec := { name := "blockDoes", fn := fun _ => fun
  | [d1, d2, d3, d4, d5] => { results := [.lit (.bool false)], args := [d1, d2, d3, d4, d5] }
  | _ => none }
def BlockDoesWrongFalsely : Prop := blockDoesRow.holds Try.pinned (OpenSpec.ofChange blockDoesWrong)

/-- 'reedpipelaw12.BlockUnder': WHATEVER THE INPUT: true; the input reads as it did. -/
def blockUnderSpec : ChangeSpec := { name := "blockUnder", fn := fun _ => fun
  | [d1, d2, d3, d4, d5, d6] => { results := [.lit (.bool true)], args := [d1, d2, d3, d4, d5, d6] }
  | _ => none }
def blockUnderRow : OpenClaim := { program := "ytpoppdaaodmicaa", sum := "6475d0407721e2654b39d5a408ef1db39ab16d750602b103cb2bee102059a7fb", func := "reedpipe/reedpipelaw12.BlockUnder", spec := "blockUnder", unfollowed := true, recurses := true, apart := false }
def BlockUnderSaid : Prop := blockUnderRow.holds Try.pinned (OpenSpec.ofChange blockUnderSpec)

/-- ITS FALSE NEIGHBOUR: 'it returns false'. Refute it at one input. -/
def blockUnderWrong : ChangeSpec := { name := "blockUnder", fn := fun _ => fun
  | [d1, d2, d3, d4, d5, d6] => { results := [.lit (.bool false)], args := [d1, d2, d3, d4, d5, d6] }
  | _ => none }
def BlockUnderWrongFalsely : Prop := blockUnderRow.holds Try.pinned (OpenSpec.ofChange blockUnderWrong)

/-- 'reedpipelaw12.BlockShorts': WHATEVER THE INPUT: true; the input reads as it did. -/
def blockShortsSpec : ChangeSpec := { name := "blockShorts", fn := fun _ => fun
  | [d1, d2, d3, d4, d5] => { results := [.lit (.bool true)], args := [d1, d2, d3, d4, d5] }
  | _ => none }
def blockShortsRow : OpenClaim := { program := "ytpoppdaaodmicaa", sum := "6475d0407721e2654b39d5a408ef1db39ab16d750602b103cb2bee102059a7fb", func := "reedpipe/reedpipelaw12.BlockShorts", spec := "blockShorts", unfollowed := true, recurses := true, apart := false }
def BlockShortsSaid : Prop := blockShortsRow.holds Try.pinned (OpenSpec.ofChange blockShortsSpec)

/-- ITS FALSE NEIGHBOUR: 'it returns false'. Refute it at one input. -/
def blockShortsWrong : ChangeSpec := { name := "blockShorts", fn := fun _ => fun
  | [d1, d2, d3, d4, d5] => { results := [.lit (.bool false)], args := [d1, d2, d3, d4, d5] }
  | _ => none }
def BlockShortsWrongFalsely : Prop := blockShortsRow.holds Try.pinned (OpenSpec.ofChange blockShortsWrong)

/-- 'reedpipelaw13.LapNames': WHATEVER THE INPUT: true; the input reads as it did. -/
def lapNamesSpec : ChangeSpec := { name := "lapNames", fn := fun _ => fun
  | [] => { results := [.lit (.bool true)], args := [] }
  | _ => none }
def lapNamesRow : OpenClaim := { program := "ytpoppdaaodmicaa", sum := "6475d0407721e2654b39d5a408ef1db39ab16d750602b103cb2bee102059a7fb", func := "reedpipe/reedpipelaw13.LapNames", spec := "lapNames", unfollowed := true, recurses := true, apart := false }
def LapNamesSaid : Prop := lapNamesRow.holds Try.pinned (OpenSpec.ofChange lapNamesSpec)

/-- ITS FALSE NEIGHBOUR: 'it returns false'. Refute it at one input. -/
def lapNamesWrong : ChangeSpec := { name := "lapNames", fn := fun _ => fun
  | [] => { results := [.lit (.bool false)], args := [] }
  | _ => none }
def LapNamesWrongFalsely : Prop := lapNamesRow.holds Try.pinned (OpenSpec.ofChange lapNamesWrong)

/-- 'reedpipelaw13.LapDoes': WHATEVER THE INPUT: true; the input reads as it did. -/
def lapDoesSpec : ChangeSpec := { name := "lapDoes", fn := fun _ => fun
  | [d1, d2, d3, d4] => { results := [.lit (.bool true)], args := [d1, d2, d3, d4] }
  | _ => none }
def lapDoesRow : OpenClaim := { program := "ytpoppdaaodmicaa", sum := "6475d0407721e2654b39d5a408ef1db39ab16d750602b103cb2bee102059a7fb", func := "reedpipe/reedpipelaw13.LapDoes", spec := "lapDoes", unfollowed := true, recurses := true, apart := false }
def LapDoesSaid : Prop := lapDoesRow.holds Try.pinned (OpenSpec.ofChange lapDoesSpec)

/-- ITS FALSE NEIGHBOUR: 'it returns false'. Refute it at one input. -/
def lapDoesWrong : ChangeSpec := { name := "lapDoes", fn := fun _ => fun
  | [d1, d2, d3, d4] => { results := [.lit (.bool false)], args := [d1, d2, d3, d4] }
  | _ => none }
def LapDoesWrongFalsely : Prop := lapDoesRow.holds Try.pinned (OpenSpec.ofChange lapDoesWrong)

/-- 'reedpipelaw13.LapForgets': WHATEVER THE INPUT: true; the input reads as it did. -/
def lapForgetsSpec : ChangeSpec := { name := "lapForgets", fn := fun _ => fun
  | [d1, d2, d3, d4, d5, d6] => { results := [.lit (.bool true)], args := [d1, d2, d3, d4, d5, d6] }
  | _ => none }
def lapForgetsRow : OpenClaim := { program := "ytpoppdaaodmicaa", sum := "6475d0407721e2654b39d5a408ef1db39ab16d750602b103cb2bee102059a7fb", func := "reedpipe/reedpipelaw13.LapForgets", spec := "lapForgets", unfollowed := true, recurses := true, apart := false }
def LapForgetsSaid : Prop := lapForgetsRow.holds Try.pinned (OpenSpec.ofChange lapForgetsSpec)

/-- ITS FALSE NEIGHBOUR: 'it returns false'. Refute it at one input. -/
def lapForgetsWrong : ChangeSpec := { name := "lapForgets", fn := fun _ => fun
  | [d1, d2, d3, d4, d5, d6] => { results := [.lit (.bool false)], args := [d1, d2, d3, d4, d5, d6] }
  | _ => none }
def LapForgetsWrongFalsely : Prop := lapForgetsRow.holds Try.pinned (OpenSpec.ofChange lapForgetsWrong)

/- THE SECOND FORM. 'bulk': how many values and letters a reading holds, each counted each time it is reached (what is shared counts as often as it is met; a slice's spare places count too). A statement '..UptoSaid' is the law's where the arguments, and the package variables that the reading takes, are together of bulk at most 1048576: NARROWER than '..Said'. Prove '..Said' where nothing that the law and all that it calls make is longer than what came in: it says more and counts as full. Else prove '..UptoSaid'. A law counts once. -/
mutual
def uptoBulk {H : Type} : DataW H → Nat
  | .lit (.string bytes) => bytes.length + 1
  | .lit _ => 1
  | .nil => 1
  | .ptr d => uptoBulk d + 1
  | .slice elems spare => uptoBulkAll elems + uptoBulkAll spare + 1
  | .agg parts => uptoBulkAll parts + 1
  | .iface _ d => uptoBulk d + 1
  | .map entries => uptoBulkEntries entries + 1
  | .held _ => 1
def uptoBulkAll {H : Type} : List (DataW H) → Nat
  | [] => 0
  | d :: r => uptoBulk d + uptoBulkAll r
def uptoBulkEntries {H : Type} : List (Lit × DataW H) → Nat
  | [] => 0
  | x :: r => uptoBulkEntry x + uptoBulkEntries r
def uptoBulkEntry {H : Type} : Lit × DataW H → Nat
  | (.string bytes, d) => bytes.length + uptoBulk d + 1
  | (_, d) => uptoBulk d + 1
 end
def uptoSmall : (H : Type) → List (DataW H) → Bool := fun _ ds => decide (uptoBulkAll ds ≤ 1048576)
def OpenSpec.upto (s : _root_.Go.ChangeSpec) : _root_.Go.OpenSpec := { _root_.Go.OpenSpec.ofChange s with cond := some uptoSmall }

/-- 'reedpipelaw04.TrigNames', WHERE WHAT IT READS IS OF BULK AT MOST 1048576: true; the input reads as it did. -/
def trigNamesUptoRow : OpenClaim := { program := "ytpoppdaaodmicaa", sum := "6475d0407721e2654b39d5a408ef1db39ab16d750602b103cb2bee102059a7fb", func := "reedpipe/reedpipelaw04.TrigNames", spec := "trigNames", apart := false, narrowed := true }
def TrigNamesUptoSaid : Prop := trigNamesUptoRow.holds Try.pinned (OpenSpec.upto trigNamesSpec)

/-- 'reedpipelaw04.TrigDoes', WHERE WHAT IT READS IS OF BULK AT MOST 1048576: true; the input reads as it did. -/
def trigDoesUptoRow : OpenClaim := { program := "ytpoppdaaodmicaa", sum := "6475d0407721e2654b39d5a408ef1db39ab16d750602b103cb2bee102059a7fb", func := "reedpipe/reedpipelaw04.TrigDoes", spec := "trigDoes", recurses := true, apart := false, narrowed := true }
def TrigDoesUptoSaid : Prop := trigDoesUptoRow.holds Try.pinned (OpenSpec.upto trigDoesSpec)

/-- 'reedpipelaw04.TrigAll', WHERE WHAT IT READS IS OF BULK AT MOST 1048576: true; the input reads as it did. -/
def trigAllUptoRow : OpenClaim := { program := "ytpoppdaaodmicaa", sum := "6475d0407721e2654b39d5a408ef1db39ab16d750602b103cb2bee102059a7fb", func := "reedpipe/reedpipelaw04.TrigAll", spec := "trigAll", recurses := true, apart := false, narrowed := true }
def TrigAllUptoSaid : Prop := trigAllUptoRow.holds Try.pinned (OpenSpec.upto trigAllSpec)

/-- 'reedpipelaw04.TrigTurns', WHERE WHAT IT READS IS OF BULK AT MOST 1048576: true; the input reads as it did. -/
def trigTurnsUptoRow : OpenClaim := { program := "ytpoppdaaodmicaa", sum := "6475d0407721e2654b39d5a408ef1db39ab16d750602b103cb2bee102059a7fb", func := "reedpipe/reedpipelaw04.TrigTurns", spec := "trigTurns", apart := false, narrowed := true }
def TrigTurnsUptoSaid : Prop := trigTurnsUptoRow.holds Try.pinned (OpenSpec.upto trigTurnsSpec)

/-- 'reedpipelaw04.TrigCircle', WHERE WHAT IT READS IS OF BULK AT MOST 1048576: true; the input reads as it did. -/
def trigCircleUptoRow : OpenClaim := { program := "ytpoppdaaodmicaa", sum := "6475d0407721e2654b39d5a408ef1db39ab16d750602b103cb2bee102059a7fb", func := "reedpipe/reedpipelaw04.TrigCircle", spec := "trigCircle", apart := false, narrowed := true }
def TrigCircleUptoSaid : Prop := trigCircleUptoRow.holds Try.pinned (OpenSpec.upto trigCircleSpec)

/-- 'reedpipelaw04.TrigSums', WHERE WHAT IT READS IS OF BULK AT MOST 1048576: true; the input reads as it did. -/
def trigSumsUptoRow : OpenClaim := { program := "ytpoppdaaodmicaa", sum := "6475d0407721e2654b39d5a408ef1db39ab16d750602b103cb2bee102059a7fb", func := "reedpipe/reedpipelaw04.TrigSums", spec := "trigSums", apart := false, narrowed := true }
def TrigSumsUptoSaid : Prop := trigSumsUptoRow.holds Try.pinned (OpenSpec.upto trigSumsSpec)

/-- 'reedpipelaw13.LapQuiet', WHERE WHAT IT READS IS OF BULK AT MOST 1048576: true; the input reads as it did. -/
def lapQuietUptoRow : OpenClaim := { program := "ytpoppdaaodmicaa", sum := "6475d0407721e2654b39d5a408ef1db39ab16d750602b103cb2bee102059a7fb", func := "reedpipe/reedpipelaw13.LapQuiet", spec := "lapQuiet", unfollowed := true, recurses := true, apart := false, narrowed := true }
def LapQuietUptoSaid : Prop := lapQuietUptoRow.holds Try.pinned (OpenSpec.upto lapQuietSpec)

/-- 'reedpipelaw11.MdctTurns', WHERE WHAT IT READS IS OF BULK AT MOST 1048576: true; the input reads as it did. -/
def mdctTurnsUptoRow : OpenClaim := { program := "ytpoppdaaodmicaa", sum := "6475d0407721e2654b39d5a408ef1db39ab16d750602b103cb2bee102059a7fb", func := "reedpipe/reedpipelaw11.MdctTurns", spec := "mdctTurns", unfollowed := true, recurses := true, apart := false, narrowed := true }
def MdctTurnsUptoSaid : Prop := mdctTurnsUptoRow.holds Try.pinned (OpenSpec.upto mdctTurnsSpec)

/-- 'reedpipelaw05.WindowNames', WHERE WHAT IT READS IS OF BULK AT MOST 1048576: true; the input reads as it did. -/
def windowNamesUptoRow : OpenClaim := { program := "ytpoppdaaodmicaa", sum := "6475d0407721e2654b39d5a408ef1db39ab16d750602b103cb2bee102059a7fb", func := "reedpipe/reedpipelaw05.WindowNames", spec := "windowNames", unfollowed := true, recurses := true, apart := false, narrowed := true }
def WindowNamesUptoSaid : Prop := windowNamesUptoRow.holds Try.pinned (OpenSpec.upto windowNamesSpec)

/-- 'reedpipelaw13.LapBack', WHERE WHAT IT READS IS OF BULK AT MOST 1048576: true; the input reads as it did. -/
def lapBackUptoRow : OpenClaim := { program := "ytpoppdaaodmicaa", sum := "6475d0407721e2654b39d5a408ef1db39ab16d750602b103cb2bee102059a7fb", func := "reedpipe/reedpipelaw13.LapBack", spec := "lapBack", unfollowed := true, recurses := true, apart := false, narrowed := true }
def LapBackUptoSaid : Prop := lapBackUptoRow.holds Try.pinned (OpenSpec.upto lapBackSpec)

/-- 'reedpipelaw05.WindowDoes', WHERE WHAT IT READS IS OF BULK AT MOST 1048576: true; the input reads as it did. -/
def windowDoesUptoRow : OpenClaim := { program := "ytpoppdaaodmicaa", sum := "6475d0407721e2654b39d5a408ef1db39ab16d750602b103cb2bee102059a7fb", func := "reedpipe/reedpipelaw05.WindowDoes", spec := "windowDoes", unfollowed := true, recurses := true, apart := false, narrowed := true }
def WindowDoesUptoSaid : Prop := windowDoesUptoRow.holds Try.pinned (OpenSpec.upto windowDoesSpec)

/-- 'reedpipelaw05.WindowPower', WHERE WHAT IT READS IS OF BULK AT MOST 1048576: true; the input reads as it did. -/
def windowPowerUptoRow : OpenClaim := { program := "ytpoppdaaodmicaa", sum := "6475d0407721e2654b39d5a408ef1db39ab16d750602b103cb2bee102059a7fb", func := "reedpipe/reedpipelaw05.WindowPower", spec := "windowPower", unfollowed := true, recurses := true, apart := false, narrowed := true }
def WindowPowerUptoSaid : Prop := windowPowerUptoRow.holds Try.pinned (OpenSpec.upto windowPowerSpec)

/-- 'reedpipelaw05.WindowHalves', WHERE WHAT IT READS IS OF BULK AT MOST 1048576: true; the input reads as it did. -/
def windowHalvesUptoRow : OpenClaim := { program := "ytpoppdaaodmicaa", sum := "6475d0407721e2654b39d5a408ef1db39ab16d750602b103cb2bee102059a7fb", func := "reedpipe/reedpipelaw05.WindowHalves", spec := "windowHalves", unfollowed := true, recurses := true, apart := false, narrowed := true }
def WindowHalvesUptoSaid : Prop := windowHalvesUptoRow.holds Try.pinned (OpenSpec.upto windowHalvesSpec)

/-- 'reedpipelaw11.MdctNames', WHERE WHAT IT READS IS OF BULK AT MOST 1048576: true; the input reads as it did. -/
def mdctNamesUptoRow : OpenClaim := { program := "ytpoppdaaodmicaa", sum := "6475d0407721e2654b39d5a408ef1db39ab16d750602b103cb2bee102059a7fb", func := "reedpipe/reedpipelaw11.MdctNames", spec := "mdctNames", unfollowed := true, recurses := true, apart := false, narrowed := true }
def MdctNamesUptoSaid : Prop := mdctNamesUptoRow.holds Try.pinned (OpenSpec.upto mdctNamesSpec)

/-- 'reedpipelaw11.MdctDoes', WHERE WHAT IT READS IS OF BULK AT MOST 1048576: true; the input reads as it did. -/
def mdctDoesUptoRow : OpenClaim := { program := "ytpoppdaaodmicaa", sum := "6475d0407721e2654b39d5a408ef1db39ab16d750602b103cb2bee102059a7fb", func := "reedpipe/reedpipelaw11.MdctDoes", spec := "mdctDoes", unfollowed := true, recurses := true, apart := false, narrowed := true }
def MdctDoesUptoSaid : Prop := mdctDoesUptoRow.holds Try.pinned (OpenSpec.upto mdctDoesSpec)

/-- 'reedpipelaw11.MdctBack', WHERE WHAT IT READS IS OF BULK AT MOST 1048576: true; the input reads as it did. -/
def mdctBackUptoRow : OpenClaim := { program := "ytpoppdaaodmicaa", sum := "6475d0407721e2654b39d5a408ef1db39ab16d750602b103cb2bee102059a7fb", func := "reedpipe/reedpipelaw11.MdctBack", spec := "mdctBack", unfollowed := true, recurses := true, apart := false, narrowed := true }
def MdctBackUptoSaid : Prop := mdctBackUptoRow.holds Try.pinned (OpenSpec.upto mdctBackSpec)

/-- 'reedpipelaw11.MdctFolds', WHERE WHAT IT READS IS OF BULK AT MOST 1048576: true; the input reads as it did. -/
def mdctFoldsUptoRow : OpenClaim := { program := "ytpoppdaaodmicaa", sum := "6475d0407721e2654b39d5a408ef1db39ab16d750602b103cb2bee102059a7fb", func := "reedpipe/reedpipelaw11.MdctFolds", spec := "mdctFolds", unfollowed := true, recurses := true, apart := false, narrowed := true }
def MdctFoldsUptoSaid : Prop := mdctFoldsUptoRow.holds Try.pinned (OpenSpec.upto mdctFoldsSpec)

/-- 'reedpipelaw11.MdctSums', WHERE WHAT IT READS IS OF BULK AT MOST 1048576: true; the input reads as it did. -/
def mdctSumsUptoRow : OpenClaim := { program := "ytpoppdaaodmicaa", sum := "6475d0407721e2654b39d5a408ef1db39ab16d750602b103cb2bee102059a7fb", func := "reedpipe/reedpipelaw11.MdctSums", spec := "mdctSums", unfollowed := true, recurses := true, apart := false, narrowed := true }
def MdctSumsUptoSaid : Prop := mdctSumsUptoRow.holds Try.pinned (OpenSpec.upto mdctSumsSpec)

/-- 'reedpipelaw12.BlockPower', WHERE WHAT IT READS IS OF BULK AT MOST 1048576: true; the input reads as it did. -/
def blockPowerUptoRow : OpenClaim := { program := "ytpoppdaaodmicaa", sum := "6475d0407721e2654b39d5a408ef1db39ab16d750602b103cb2bee102059a7fb", func := "reedpipe/reedpipelaw12.BlockPower", spec := "blockPower", unfollowed := true, recurses := true, apart := false, narrowed := true }
def BlockPowerUptoSaid : Prop := blockPowerUptoRow.holds Try.pinned (OpenSpec.upto blockPowerSpec)

/-- 'reedpipelaw12.BlockNames', WHERE WHAT IT READS IS OF BULK AT MOST 1048576: true; the input reads as it did. -/
def blockNamesUptoRow : OpenClaim := { program := "ytpoppdaaodmicaa", sum := "6475d0407721e2654b39d5a408ef1db39ab16d750602b103cb2bee102059a7fb", func := "reedpipe/reedpipelaw12.BlockNames", spec := "blockNames", unfollowed := true, recurses := true, apart := false, narrowed := true }
def BlockNamesUptoSaid : Prop := blockNamesUptoRow.holds Try.pinned (OpenSpec.upto blockNamesSpec)

/-- 'reedpipelaw12.BlockDoes', WHERE WHAT IT READS IS OF BULK AT MOST 1048576: true; the input reads as it did. -/
def blockDoesUptoRow : OpenClaim := { program := "ytpoppdaaodmicaa", sum := "6475d0407721e2654b39d5a408ef1db39ab16d750602b103cb2bee102059a7fb", func := "reedpipe/reedpipelaw12.BlockDoes", spec := "blockDoes", unfollowed := true, recurses := true, apart := false, narrowed := true }
def BlockDoesUptoSaid : Prop := blockDoesUptoRow.holds Try.pinned (OpenSpec.upto blockDoesSpec)

/-- 'reedpipelaw12.BlockUnder', WHERE WHAT IT READS IS OF BULK AT MOST 1048576: true; the input reads as it did. -/
def blockUnderUptoRow : OpenClaim := { program := "ytpoppdaaodmicaa", sum := "6475d0407721e2654b39d5a408ef1db39ab16d750602b103cb2bee102059a7fb", func := "reedpipe/reedpipelaw12.BlockUnder", spec := "blockUnder", unfollowed := true, recurses := true, apart := false, narrowed := true }
def BlockUnderUptoSaid : Prop := blockUnderUptoRow.holds Try.pinned (OpenSpec.upto blockUnderSpec)

/-- 'reedpipelaw12.BlockShorts', WHERE WHAT IT READS IS OF BULK AT MOST 1048576: true; the input reads as it did. -/
def blockShortsUptoRow : OpenClaim := { program := "ytpoppdaaodmicaa", sum := "6475d0407721e2654b39d5a408ef1db39ab16d750602b103cb2bee102059a7fb", func := "reedpipe/reedpipelaw12.BlockShorts", spec := "blockShorts", unfollowed := true, recurses := true, apart := false, narrowed := true }
def BlockShortsUptoSaid : Prop := blockShortsUptoRow.holds Try.pinned (OpenSpec.upto blockShortsSpec)

/-- 'reedpipelaw13.LapNames', WHERE WHAT IT READS IS OF BULK AT MOST 1048576: true; the input reads as it did. -/
def lapNamesUptoRow : OpenClaim := { program := "ytpoppdaaodmicaa", sum := "6475d0407721e2654b39d5a408ef1db39ab16d750602b103cb2bee102059a7fb", func := "reedpipe/reedpipelaw13.LapNames", spec := "lapNames", unfollowed := true, recurses := true, apart := false, narrowed := true }
def LapNamesUptoSaid : Prop := lapNamesUptoRow.holds Try.pinned (OpenSpec.upto lapNamesSpec)

/-- 'reedpipelaw13.LapDoes', WHERE WHAT IT READS IS OF BULK AT MOST 1048576: true; the input reads as it did. -/
def lapDoesUptoRow : OpenClaim := { program := "ytpoppdaaodmicaa", sum := "6475d0407721e2654b39d5a408ef1db39ab16d750602b103cb2bee102059a7fb", func := "reedpipe/reedpipelaw13.LapDoes", spec := "lapDoes", unfollowed := true, recurses := true, apart := false, narrowed := true }
def LapDoesUptoSaid : Prop := lapDoesUptoRow.holds Try.pinned (OpenSpec.upto lapDoesSpec)

/-- 'reedpipelaw13.LapForgets', WHERE WHAT IT READS IS OF BULK AT MOST 1048576: true; the input reads as it did. -/
def lapForgetsUptoRow : OpenClaim := { program := "ytpoppdaaodmicaa", sum := "6475d0407721e2654b39d5a408ef1db39ab16d750602b103cb2bee102059a7fb", func := "reedpipe/reedpipelaw13.LapForgets", spec := "lapForgets", unfollowed := true, recurses := true, apart := false, narrowed := true }
def LapForgetsUptoSaid : Prop := lapForgetsUptoRow.holds Try.pinned (OpenSpec.upto lapForgetsSpec)

end Rows
end Go.Proofs.Ytpoppdaaodmicaa
