/-
  No cell of these rows narrows 'for every input' (looked for: loops, veiled, ifaces, maps, wideKeys, modest, calm, conditions, laid).
  DERIVED. THE GIVEN ROWS OF THIS SEAT. 38 by the template 'for every input the law returns true; each argument reads behind the call as it read before'; 0 by the template 'total and deterministic' (their statements: YtfehhihllenjiaaTotals.lean).
  GIVEN WITH THE SEED: the statements are not yours to turn. If you find one false, say at which input.
  Laid BY PROGRAM, IN A SANDBOX (cutbox-rows.mjs): the forced cells as the released guide's own fill.sh prints them over the translation ecf9fec2d02e1e23… (all of the seat's roots in one cut). By AI agents, Wed Nov 11 2026. No macro, syntax, notation, axiom, sorry.
-/
import Derived.Test.YtfehhihllenjiaaChecked
import GoSem.Claim
import GoSem.ClaimJoined
import GoSem.ClaimMapViews
import Derived.JoinedTies
import Derived.KernelRfl
namespace Go.Proofs.Ytfehhihllenjiaa
/- THE CELL 'sum', in the pinned program and in every row, IS THE sha256 OF THE DUMP (.gsa) THAT YtfehhihllenjiaaProg.lean LOADS. Nothing in Lean hashes anything: it is a label: what it is worth is what the hold of that sum in a sandbox is worth. -/
noncomputable def Try.pinned : Pinned := { name := "ytfehhihllenjiaa", sum := "ecf9fec2d02e1e238c9c7772457e22baf27e722f3f9603a3bda4bf1c80ed20ab", checked := Try.checked }
namespace Rows
def none {H : Type} : Left H := { results := [], args := [] }

/-- 'escritoirelaw03.ChachaQuarters': WHATEVER THE INPUT: true; the input reads as it did. -/
def chachaQuartersSpec : ChangeSpec := { name := "chachaQuarters", fn := fun _ => fun
  | [d] => { results := [.lit (.bool true)], args := [d] }
  | _ => none }
def chachaQuartersRow : OpenClaim := { program := "ytfehhihllenjiaa", sum := "ecf9fec2d02e1e238c9c7772457e22baf27e722f3f9603a3bda4bf1c80ed20ab", func := "escritoire/escritoirelaw03.ChachaQuarters", spec := "chachaQuarters", apart := false }
def ChachaQuartersSaid : Prop := chachaQuartersRow.holds Try.pinned (OpenSpec.ofChange chachaQuartersSpec)

/-- ITS FALSE NEIGHBOUR: 'it returns false'. Refute it at one input. -/
def chachaQuartersWrong : ChangeSpec := { name := "chachaQuarters", fn := fun _ => fun
  | [d] => { results := [.lit (.bool false)], args := [d] }
  | _ => none }
def ChachaQuartersWrongFalsely : Prop := chachaQuartersRow.holds Try.pinned (OpenSpec.ofChange chachaQuartersWrong)

/-- 'escritoirelaw03.ChachaUndo': WHATEVER THE INPUT: true; the input reads as it did. -/
def chachaUndoSpec : ChangeSpec := { name := "chachaUndo", fn := fun _ => fun
  | [d] => { results := [.lit (.bool true)], args := [d] }
  | _ => none }
def chachaUndoRow : OpenClaim := { program := "ytfehhihllenjiaa", sum := "ecf9fec2d02e1e238c9c7772457e22baf27e722f3f9603a3bda4bf1c80ed20ab", func := "escritoire/escritoirelaw03.ChachaUndo", spec := "chachaUndo", apart := false }
def ChachaUndoSaid : Prop := chachaUndoRow.holds Try.pinned (OpenSpec.ofChange chachaUndoSpec)

/-- ITS FALSE NEIGHBOUR: 'it returns false'. Refute it at one input. -/
def chachaUndoWrong : ChangeSpec := { name := "chachaUndo", fn := fun _ => fun
  | [d] => { results := [.lit (.bool false)], args := [d] }
  | _ => none }
def ChachaUndoWrongFalsely : Prop := chachaUndoRow.holds Try.pinned (OpenSpec.ofChange chachaUndoWrong)

/-- 'escritoirelaw03.ChachaBlocks': WHATEVER THE INPUT: true; the input reads as it did. -/
def chachaBlocksSpec : ChangeSpec := { name := "chachaBlocks", fn := fun _ => fun
  | [d1, d2, d3] => { results := [.lit (.bool true)], args := [d1, d2, d3] }
  | _ => none }
def chachaBlocksRow : OpenClaim := { program := "ytfehhihllenjiaa", sum := "ecf9fec2d02e1e238c9c7772457e22baf27e722f3f9603a3bda4bf1c80ed20ab", func := "escritoire/escritoirelaw03.ChachaBlocks", spec := "chachaBlocks", apart := false }
def ChachaBlocksSaid : Prop := chachaBlocksRow.holds Try.pinned (OpenSpec.ofChange chachaBlocksSpec)

/-- ITS FALSE NEIGHBOUR: 'it returns false'. Refute it at one input. -/
def chachaBlocksWrong : ChangeSpec := { name := "chachaBlocks", fn := fun _ => fun
  | [d1, d2, d3] => { results := [.lit (.bool false)], args := [d1, d2, d3] }
  | _ => none }
def ChachaBlocksWrongFalsely : Prop := chachaBlocksRow.holds Try.pinned (OpenSpec.ofChange chachaBlocksWrong)

/-- 'escritoirelaw03.ChachaXors': WHATEVER THE INPUT: true; the input reads as it did. -/
def chachaXorsSpec : ChangeSpec := { name := "chachaXors", fn := fun _ => fun
  | [d1, d2] => { results := [.lit (.bool true)], args := [d1, d2] }
  | _ => none }
def chachaXorsRow : OpenClaim := { program := "ytfehhihllenjiaa", sum := "ecf9fec2d02e1e238c9c7772457e22baf27e722f3f9603a3bda4bf1c80ed20ab", func := "escritoire/escritoirelaw03.ChachaXors", spec := "chachaXors", apart := false }
def ChachaXorsSaid : Prop := chachaXorsRow.holds Try.pinned (OpenSpec.ofChange chachaXorsSpec)

/-- ITS FALSE NEIGHBOUR: 'it returns false'. Refute it at one input. -/
def chachaXorsWrong : ChangeSpec := { name := "chachaXors", fn := fun _ => fun
  | [d1, d2] => { results := [.lit (.bool false)], args := [d1, d2] }
  | _ => none }
def ChachaXorsWrongFalsely : Prop := chachaXorsRow.holds Try.pinned (OpenSpec.ofChange chachaXorsWrong)

/-- 'escritoirelaw03.ChachaTwice': WHATEVER THE INPUT: true; the input reads as it did. -/
def chachaTwiceSpec : ChangeSpec := { name := "chachaTwice", fn := fun _ => fun
  | [d1, d2] => { results := [.lit (.bool true)], args := [d1, d2] }
  | _ => none }
def chachaTwiceRow : OpenClaim := { program := "ytfehhihllenjiaa", sum := "ecf9fec2d02e1e238c9c7772457e22baf27e722f3f9603a3bda4bf1c80ed20ab", func := "escritoire/escritoirelaw03.ChachaTwice", spec := "chachaTwice", apart := false }
def ChachaTwiceSaid : Prop := chachaTwiceRow.holds Try.pinned (OpenSpec.ofChange chachaTwiceSpec)

/-- ITS FALSE NEIGHBOUR: 'it returns false'. Refute it at one input. -/
def chachaTwiceWrong : ChangeSpec := { name := "chachaTwice", fn := fun _ => fun
  | [d1, d2] => { results := [.lit (.bool false)], args := [d1, d2] }
  | _ => none }
def ChachaTwiceWrongFalsely : Prop := chachaTwiceRow.holds Try.pinned (OpenSpec.ofChange chachaTwiceWrong)

/-- 'escritoirelaw03.ChachaJoins': WHATEVER THE INPUT: true; the input reads as it did. -/
def chachaJoinsSpec : ChangeSpec := { name := "chachaJoins", fn := fun _ => fun
  | [d1, d2, d3] => { results := [.lit (.bool true)], args := [d1, d2, d3] }
  | _ => none }
def chachaJoinsRow : OpenClaim := { program := "ytfehhihllenjiaa", sum := "ecf9fec2d02e1e238c9c7772457e22baf27e722f3f9603a3bda4bf1c80ed20ab", func := "escritoire/escritoirelaw03.ChachaJoins", spec := "chachaJoins", apart := false }
def ChachaJoinsSaid : Prop := chachaJoinsRow.holds Try.pinned (OpenSpec.ofChange chachaJoinsSpec)

/-- ITS FALSE NEIGHBOUR: 'it returns false'. Refute it at one input. -/
def chachaJoinsWrong : ChangeSpec := { name := "chachaJoins", fn := fun _ => fun
  | [d1, d2, d3] => { results := [.lit (.bool false)], args := [d1, d2, d3] }
  | _ => none }
def ChachaJoinsWrongFalsely : Prop := chachaJoinsRow.holds Try.pinned (OpenSpec.ofChange chachaJoinsWrong)

/-- 'escritoirelaw03.ChachaZeros': WHATEVER THE INPUT: true; the input reads as it did. -/
def chachaZerosSpec : ChangeSpec := { name := "chachaZeros", fn := fun _ => fun
  | [d] => { results := [.lit (.bool true)], args := [d] }
  | _ => none }
def chachaZerosRow : OpenClaim := { program := "ytfehhihllenjiaa", sum := "ecf9fec2d02e1e238c9c7772457e22baf27e722f3f9603a3bda4bf1c80ed20ab", func := "escritoire/escritoirelaw03.ChachaZeros", spec := "chachaZeros", apart := false }
def ChachaZerosSaid : Prop := chachaZerosRow.holds Try.pinned (OpenSpec.ofChange chachaZerosSpec)

/-- ITS FALSE NEIGHBOUR: 'it returns false'. Refute it at one input. -/
def chachaZerosWrong : ChangeSpec := { name := "chachaZeros", fn := fun _ => fun
  | [d] => { results := [.lit (.bool false)], args := [d] }
  | _ => none }
def ChachaZerosWrongFalsely : Prop := chachaZerosRow.holds Try.pinned (OpenSpec.ofChange chachaZerosWrong)

/-- 'escritoirelaw01.ShaSums': WHATEVER THE INPUT: true; the input reads as it did. -/
def shaSumsSpec : ChangeSpec := { name := "shaSums", fn := fun _ => fun
  | [d] => { results := [.lit (.bool true)], args := [d] }
  | _ => none }
def shaSumsRow : OpenClaim := { program := "ytfehhihllenjiaa", sum := "ecf9fec2d02e1e238c9c7772457e22baf27e722f3f9603a3bda4bf1c80ed20ab", func := "escritoire/escritoirelaw01.ShaSums", spec := "shaSums", unfollowed := true, recurses := true, apart := false }
def ShaSumsSaid : Prop := shaSumsRow.holds Try.pinned (OpenSpec.ofChange shaSumsSpec)

/-- ITS FALSE NEIGHBOUR: 'it returns false'. Refute it at one input. -/
def shaSumsWrong : ChangeSpec := { name := "shaSums", fn := fun _ => fun
  | [d] => { results := [.lit (.bool false)], args := [d] }
  | _ => none }
def ShaSumsWrongFalsely : Prop := shaSumsRow.holds Try.pinned (OpenSpec.ofChange shaSumsWrong)

/-- 'escritoirelaw01.ShaPads': WHATEVER THE INPUT: true; the input reads as it did. -/
def shaPadsSpec : ChangeSpec := { name := "shaPads", fn := fun _ => fun
  | [d] => { results := [.lit (.bool true)], args := [d] }
  | _ => none }
def shaPadsRow : OpenClaim := { program := "ytfehhihllenjiaa", sum := "ecf9fec2d02e1e238c9c7772457e22baf27e722f3f9603a3bda4bf1c80ed20ab", func := "escritoire/escritoirelaw01.ShaPads", spec := "shaPads", unfollowed := true, recurses := true, apart := false }
def ShaPadsSaid : Prop := shaPadsRow.holds Try.pinned (OpenSpec.ofChange shaPadsSpec)

/-- ITS FALSE NEIGHBOUR: 'it returns false'. Refute it at one input. -/
def shaPadsWrong : ChangeSpec := { name := "shaPads", fn := fun _ => fun
  | [d] => { results := [.lit (.bool false)], args := [d] }
  | _ => none }
def ShaPadsWrongFalsely : Prop := shaPadsRow.holds Try.pinned (OpenSpec.ofChange shaPadsWrong)

/-- 'escritoirelaw01.ShaSteps': WHATEVER THE INPUT: true; the input reads as it did. -/
def shaStepsSpec : ChangeSpec := { name := "shaSteps", fn := fun _ => fun
  | [d1, d2] => { results := [.lit (.bool true)], args := [d1, d2] }
  | _ => none }
def shaStepsRow : OpenClaim := { program := "ytfehhihllenjiaa", sum := "ecf9fec2d02e1e238c9c7772457e22baf27e722f3f9603a3bda4bf1c80ed20ab", func := "escritoire/escritoirelaw01.ShaSteps", spec := "shaSteps", unfollowed := true, recurses := true, apart := false }
def ShaStepsSaid : Prop := shaStepsRow.holds Try.pinned (OpenSpec.ofChange shaStepsSpec)

/-- ITS FALSE NEIGHBOUR: 'it returns false'. Refute it at one input. -/
def shaStepsWrong : ChangeSpec := { name := "shaSteps", fn := fun _ => fun
  | [d1, d2] => { results := [.lit (.bool false)], args := [d1, d2] }
  | _ => none }
def ShaStepsWrongFalsely : Prop := shaStepsRow.holds Try.pinned (OpenSpec.ofChange shaStepsWrong)

/-- 'escritoirelaw01.ShaTells': WHATEVER THE INPUT: true; the input reads as it did. -/
def shaTellsSpec : ChangeSpec := { name := "shaTells", fn := fun _ => fun
  | [d] => { results := [.lit (.bool true)], args := [d] }
  | _ => none }
def shaTellsRow : OpenClaim := { program := "ytfehhihllenjiaa", sum := "ecf9fec2d02e1e238c9c7772457e22baf27e722f3f9603a3bda4bf1c80ed20ab", func := "escritoire/escritoirelaw01.ShaTells", spec := "shaTells", unfollowed := true, recurses := true, apart := false }
def ShaTellsSaid : Prop := shaTellsRow.holds Try.pinned (OpenSpec.ofChange shaTellsSpec)

/-- ITS FALSE NEIGHBOUR: 'it returns false'. Refute it at one input. -/
def shaTellsWrong : ChangeSpec := { name := "shaTells", fn := fun _ => fun
  | [d] => { results := [.lit (.bool false)], args := [d] }
  | _ => none }
def ShaTellsWrongFalsely : Prop := shaTellsRow.holds Try.pinned (OpenSpec.ofChange shaTellsWrong)

/-- 'escritoirelaw01.ShaBlocks': WHATEVER THE INPUT: true; the input reads as it did. -/
def shaBlocksSpec : ChangeSpec := { name := "shaBlocks", fn := fun _ => fun
  | [d] => { results := [.lit (.bool true)], args := [d] }
  | _ => none }
def shaBlocksRow : OpenClaim := { program := "ytfehhihllenjiaa", sum := "ecf9fec2d02e1e238c9c7772457e22baf27e722f3f9603a3bda4bf1c80ed20ab", func := "escritoire/escritoirelaw01.ShaBlocks", spec := "shaBlocks", unfollowed := true, recurses := true, apart := false }
def ShaBlocksSaid : Prop := shaBlocksRow.holds Try.pinned (OpenSpec.ofChange shaBlocksSpec)

/-- ITS FALSE NEIGHBOUR: 'it returns false'. Refute it at one input. -/
def shaBlocksWrong : ChangeSpec := { name := "shaBlocks", fn := fun _ => fun
  | [d] => { results := [.lit (.bool false)], args := [d] }
  | _ => none }
def ShaBlocksWrongFalsely : Prop := shaBlocksRow.holds Try.pinned (OpenSpec.ofChange shaBlocksWrong)

/-- 'escritoirelaw01.ShaOdd': WHATEVER THE INPUT: true; the input reads as it did. -/
def shaOddSpec : ChangeSpec := { name := "shaOdd", fn := fun _ => fun
  | [d1, d2] => { results := [.lit (.bool true)], args := [d1, d2] }
  | _ => none }
def shaOddRow : OpenClaim := { program := "ytfehhihllenjiaa", sum := "ecf9fec2d02e1e238c9c7772457e22baf27e722f3f9603a3bda4bf1c80ed20ab", func := "escritoire/escritoirelaw01.ShaOdd", spec := "shaOdd", unfollowed := true, recurses := true, apart := false }
def ShaOddSaid : Prop := shaOddRow.holds Try.pinned (OpenSpec.ofChange shaOddSpec)

/-- ITS FALSE NEIGHBOUR: 'it returns false'. Refute it at one input. -/
def shaOddWrong : ChangeSpec := { name := "shaOdd", fn := fun _ => fun
  | [d1, d2] => { results := [.lit (.bool false)], args := [d1, d2] }
  | _ => none }
def ShaOddWrongFalsely : Prop := shaOddRow.holds Try.pinned (OpenSpec.ofChange shaOddWrong)

/-- 'escritoirelaw01.ShaUnlike': WHATEVER THE INPUT: true; the input reads as it did. -/
def shaUnlikeSpec : ChangeSpec := { name := "shaUnlike", fn := fun _ => fun
  | [d1, d2] => { results := [.lit (.bool true)], args := [d1, d2] }
  | _ => none }
def shaUnlikeRow : OpenClaim := { program := "ytfehhihllenjiaa", sum := "ecf9fec2d02e1e238c9c7772457e22baf27e722f3f9603a3bda4bf1c80ed20ab", func := "escritoire/escritoirelaw01.ShaUnlike", spec := "shaUnlike", unfollowed := true, recurses := true, apart := false }
def ShaUnlikeSaid : Prop := shaUnlikeRow.holds Try.pinned (OpenSpec.ofChange shaUnlikeSpec)

/-- ITS FALSE NEIGHBOUR: 'it returns false'. Refute it at one input. -/
def shaUnlikeWrong : ChangeSpec := { name := "shaUnlike", fn := fun _ => fun
  | [d1, d2] => { results := [.lit (.bool false)], args := [d1, d2] }
  | _ => none }
def ShaUnlikeWrongFalsely : Prop := shaUnlikeRow.holds Try.pinned (OpenSpec.ofChange shaUnlikeWrong)

/-- 'escritoiretop.TopStreams': WHATEVER THE INPUT: true; the input reads as it did. -/
def topStreamsSpec : ChangeSpec := { name := "topStreams", fn := fun _ => fun
  | [d1, d2, d3] => { results := [.lit (.bool true)], args := [d1, d2, d3] }
  | _ => none }
def topStreamsRow : OpenClaim := { program := "ytfehhihllenjiaa", sum := "ecf9fec2d02e1e238c9c7772457e22baf27e722f3f9603a3bda4bf1c80ed20ab", func := "escritoire/escritoiretop.TopStreams", spec := "topStreams", apart := false }
def TopStreamsSaid : Prop := topStreamsRow.holds Try.pinned (OpenSpec.ofChange topStreamsSpec)

/-- ITS FALSE NEIGHBOUR: 'it returns false'. Refute it at one input. -/
def topStreamsWrong : ChangeSpec := { name := "topStreams", fn := fun _ => fun
  | [d1, d2, d3] => { results := [.lit (.bool false)], args := [d1, d2, d3] }
  | _ => none }
def TopStreamsWrongFalsely : Prop := topStreamsRow.holds Try.pinned (OpenSpec.ofChange topStreamsWrong)

/-- 'escritoirelaw04.PolySums': WHATEVER THE INPUT: true; the input reads as it did. -/
def polySumsSpec : ChangeSpec := { name := "polySums", fn := fun _ => fun
  | [d1, d2] => { results := [.lit (.bool true)], args := [d1, d2] }
  | _ => none }
def polySumsRow : OpenClaim := { program := "ytfehhihllenjiaa", sum := "ecf9fec2d02e1e238c9c7772457e22baf27e722f3f9603a3bda4bf1c80ed20ab", func := "escritoire/escritoirelaw04.PolySums", spec := "polySums", inPlace := ["math/bits.Add64"], unfollowed := true, recurses := true, apart := false }
def PolySumsSaid : Prop := polySumsRow.holds Try.pinned (OpenSpec.ofChange polySumsSpec)

/-- ITS FALSE NEIGHBOUR: 'it returns false'. Refute it at one input. -/
def polySumsWrong : ChangeSpec := { name := "polySums", fn := fun _ => fun
  | [d1, d2] => { results := [.lit (.bool false)], args := [d1, d2] }
  | _ => none }
def PolySumsWrongFalsely : Prop := polySumsRow.holds Try.pinned (OpenSpec.ofChange polySumsWrong)

/-- 'escritoirelaw04.PolyClamps': WHATEVER THE INPUT: true; the input reads as it did. -/
def polyClampsSpec : ChangeSpec := { name := "polyClamps", fn := fun _ => fun
  | [d] => { results := [.lit (.bool true)], args := [d] }
  | _ => none }
def polyClampsRow : OpenClaim := { program := "ytfehhihllenjiaa", sum := "ecf9fec2d02e1e238c9c7772457e22baf27e722f3f9603a3bda4bf1c80ed20ab", func := "escritoire/escritoirelaw04.PolyClamps", spec := "polyClamps", inPlace := ["math/bits.Add64"], unfollowed := true, recurses := true, apart := false }
def PolyClampsSaid : Prop := polyClampsRow.holds Try.pinned (OpenSpec.ofChange polyClampsSpec)

/-- ITS FALSE NEIGHBOUR: 'it returns false'. Refute it at one input. -/
def polyClampsWrong : ChangeSpec := { name := "polyClamps", fn := fun _ => fun
  | [d] => { results := [.lit (.bool false)], args := [d] }
  | _ => none }
def PolyClampsWrongFalsely : Prop := polyClampsRow.holds Try.pinned (OpenSpec.ofChange polyClampsWrong)

/-- 'escritoirelaw04.PolyNone': WHATEVER THE INPUT: true; the input reads as it did. -/
def polyNoneSpec : ChangeSpec := { name := "polyNone", fn := fun _ => fun
  | [d1, d2] => { results := [.lit (.bool true)], args := [d1, d2] }
  | _ => none }
def polyNoneRow : OpenClaim := { program := "ytfehhihllenjiaa", sum := "ecf9fec2d02e1e238c9c7772457e22baf27e722f3f9603a3bda4bf1c80ed20ab", func := "escritoire/escritoirelaw04.PolyNone", spec := "polyNone", inPlace := ["math/bits.Add64"], unfollowed := true, recurses := true, apart := false }
def PolyNoneSaid : Prop := polyNoneRow.holds Try.pinned (OpenSpec.ofChange polyNoneSpec)

/-- ITS FALSE NEIGHBOUR: 'it returns false'. Refute it at one input. -/
def polyNoneWrong : ChangeSpec := { name := "polyNone", fn := fun _ => fun
  | [d1, d2] => { results := [.lit (.bool false)], args := [d1, d2] }
  | _ => none }
def PolyNoneWrongFalsely : Prop := polyNoneRow.holds Try.pinned (OpenSpec.ofChange polyNoneWrong)

/-- 'escritoirelaw04.PolyBits': WHATEVER THE INPUT: true; the input reads as it did. -/
def polyBitsSpec : ChangeSpec := { name := "polyBits", fn := fun _ => fun
  | [d1, d2, d3] => { results := [.lit (.bool true)], args := [d1, d2, d3] }
  | _ => none }
def polyBitsRow : OpenClaim := { program := "ytfehhihllenjiaa", sum := "ecf9fec2d02e1e238c9c7772457e22baf27e722f3f9603a3bda4bf1c80ed20ab", func := "escritoire/escritoirelaw04.PolyBits", spec := "polyBits", inPlace := ["math/bits.Add64"], unfollowed := true, recurses := true, apart := false }
def PolyBitsSaid : Prop := polyBitsRow.holds Try.pinned (OpenSpec.ofChange polyBitsSpec)

/-- ITS FALSE NEIGHBOUR: 'it returns false'. Refute it at one input. -/
def polyBitsWrong : ChangeSpec := { name := "polyBits", fn := fun _ => fun
  | [d1, d2, d3] => { results := [.lit (.bool false)], args := [d1, d2, d3] }
  | _ => none }
def PolyBitsWrongFalsely : Prop := polyBitsRow.holds Try.pinned (OpenSpec.ofChange polyBitsWrong)

/-- 'escritoirelaw04.PolyAdds': WHATEVER THE INPUT: true; the input reads as it did. -/
def polyAddsSpec : ChangeSpec := { name := "polyAdds", fn := fun _ => fun
  | [d1, d2] => { results := [.lit (.bool true)], args := [d1, d2] }
  | _ => none }
def polyAddsRow : OpenClaim := { program := "ytfehhihllenjiaa", sum := "ecf9fec2d02e1e238c9c7772457e22baf27e722f3f9603a3bda4bf1c80ed20ab", func := "escritoire/escritoirelaw04.PolyAdds", spec := "polyAdds", inPlace := ["math/bits.Add64"], unfollowed := true, recurses := true, apart := false }
def PolyAddsSaid : Prop := polyAddsRow.holds Try.pinned (OpenSpec.ofChange polyAddsSpec)

/-- ITS FALSE NEIGHBOUR: 'it returns false'. Refute it at one input. -/
def polyAddsWrong : ChangeSpec := { name := "polyAdds", fn := fun _ => fun
  | [d1, d2] => { results := [.lit (.bool false)], args := [d1, d2] }
  | _ => none }
def PolyAddsWrongFalsely : Prop := polyAddsRow.holds Try.pinned (OpenSpec.ofChange polyAddsWrong)

/-- 'escritoirelaw04.PolyOne': WHATEVER THE INPUT: true; the input reads as it did. -/
def polyOneSpec : ChangeSpec := { name := "polyOne", fn := fun _ => fun
  | [d1, d2] => { results := [.lit (.bool true)], args := [d1, d2] }
  | _ => none }
def polyOneRow : OpenClaim := { program := "ytfehhihllenjiaa", sum := "ecf9fec2d02e1e238c9c7772457e22baf27e722f3f9603a3bda4bf1c80ed20ab", func := "escritoire/escritoirelaw04.PolyOne", spec := "polyOne", inPlace := ["math/bits.Add64"], unfollowed := true, recurses := true, apart := false }
def PolyOneSaid : Prop := polyOneRow.holds Try.pinned (OpenSpec.ofChange polyOneSpec)

/-- ITS FALSE NEIGHBOUR: 'it returns false'. Refute it at one input. -/
def polyOneWrong : ChangeSpec := { name := "polyOne", fn := fun _ => fun
  | [d1, d2] => { results := [.lit (.bool false)], args := [d1, d2] }
  | _ => none }
def PolyOneWrongFalsely : Prop := polyOneRow.holds Try.pinned (OpenSpec.ofChange polyOneWrong)

/-- 'escritoiretop.TopTags': WHATEVER THE INPUT: true; the input reads as it did. -/
def topTagsSpec : ChangeSpec := { name := "topTags", fn := fun _ => fun
  | [d1, d2] => { results := [.lit (.bool true)], args := [d1, d2] }
  | _ => none }
def topTagsRow : OpenClaim := { program := "ytfehhihllenjiaa", sum := "ecf9fec2d02e1e238c9c7772457e22baf27e722f3f9603a3bda4bf1c80ed20ab", func := "escritoire/escritoiretop.TopTags", spec := "topTags", unfollowed := true, recurses := true, apart := false }
def TopTagsSaid : Prop := topTagsRow.holds Try.pinned (OpenSpec.ofChange topTagsSpec)

/-- ITS FALSE NEIGHBOUR: 'it returns false'. Refute it at one input. -/
def topTagsWrong : ChangeSpec := { name := "topTags", fn := fun _ => fun
  | [d1, d2] => { results := [.lit (.bool false)], args := [d1, d2] }
  | _ => none }
def TopTagsWrongFalsely : Prop := topTagsRow.holds Try.pinned (OpenSpec.ofChange topTagsWrong)

/-- 'escritoirelaw02.MacTags': WHATEVER THE INPUT: true; the input reads as it did. -/
def macTagsSpec : ChangeSpec := { name := "macTags", fn := fun _ => fun
  | [d1, d2] => { results := [.lit (.bool true)], args := [d1, d2] }
  | _ => none }
def macTagsRow : OpenClaim := { program := "ytfehhihllenjiaa", sum := "ecf9fec2d02e1e238c9c7772457e22baf27e722f3f9603a3bda4bf1c80ed20ab", func := "escritoire/escritoirelaw02.MacTags", spec := "macTags", unfollowed := true, recurses := true, apart := false }
def MacTagsSaid : Prop := macTagsRow.holds Try.pinned (OpenSpec.ofChange macTagsSpec)

/-- ITS FALSE NEIGHBOUR: 'it returns false'. Refute it at one input. -/
def macTagsWrong : ChangeSpec := { name := "macTags", fn := fun _ => fun
  | [d1, d2] => { results := [.lit (.bool false)], args := [d1, d2] }
  | _ => none }
def MacTagsWrongFalsely : Prop := macTagsRow.holds Try.pinned (OpenSpec.ofChange macTagsWrong)

/-- 'escritoirelaw02.MacPrefix': WHATEVER THE INPUT: true; the input reads as it did. -/
def macPrefixSpec : ChangeSpec := { name := "macPrefix", fn := fun _ => fun
  | [d1, d2, d3] => { results := [.lit (.bool true)], args := [d1, d2, d3] }
  | _ => none }
def macPrefixRow : OpenClaim := { program := "ytfehhihllenjiaa", sum := "ecf9fec2d02e1e238c9c7772457e22baf27e722f3f9603a3bda4bf1c80ed20ab", func := "escritoire/escritoirelaw02.MacPrefix", spec := "macPrefix", unfollowed := true, recurses := true, apart := false }
def MacPrefixSaid : Prop := macPrefixRow.holds Try.pinned (OpenSpec.ofChange macPrefixSpec)

/-- ITS FALSE NEIGHBOUR: 'it returns false'. Refute it at one input. -/
def macPrefixWrong : ChangeSpec := { name := "macPrefix", fn := fun _ => fun
  | [d1, d2, d3] => { results := [.lit (.bool false)], args := [d1, d2, d3] }
  | _ => none }
def MacPrefixWrongFalsely : Prop := macPrefixRow.holds Try.pinned (OpenSpec.ofChange macPrefixWrong)

/-- 'escritoirelaw02.MacLong': WHATEVER THE INPUT: true; the input reads as it did. -/
def macLongSpec : ChangeSpec := { name := "macLong", fn := fun _ => fun
  | [d1, d2, d3] => { results := [.lit (.bool true)], args := [d1, d2, d3] }
  | _ => none }
def macLongRow : OpenClaim := { program := "ytfehhihllenjiaa", sum := "ecf9fec2d02e1e238c9c7772457e22baf27e722f3f9603a3bda4bf1c80ed20ab", func := "escritoire/escritoirelaw02.MacLong", spec := "macLong", unfollowed := true, recurses := true, apart := false }
def MacLongSaid : Prop := macLongRow.holds Try.pinned (OpenSpec.ofChange macLongSpec)

/-- ITS FALSE NEIGHBOUR: 'it returns false'. Refute it at one input. -/
def macLongWrong : ChangeSpec := { name := "macLong", fn := fun _ => fun
  | [d1, d2, d3] => { results := [.lit (.bool false)], args := [d1, d2, d3] }
  | _ => none }
def MacLongWrongFalsely : Prop := macLongRow.holds Try.pinned (OpenSpec.ofChange macLongWrong)

/-- 'escritoirelaw02.MacEqual': WHATEVER THE INPUT: true; the input reads as it did. -/
def macEqualSpec : ChangeSpec := { name := "macEqual", fn := fun _ => fun
  | [d1, d2] => { results := [.lit (.bool true)], args := [d1, d2] }
  | _ => none }
def macEqualRow : OpenClaim := { program := "ytfehhihllenjiaa", sum := "ecf9fec2d02e1e238c9c7772457e22baf27e722f3f9603a3bda4bf1c80ed20ab", func := "escritoire/escritoirelaw02.MacEqual", spec := "macEqual", unfollowed := true, recurses := true, apart := false }
def MacEqualSaid : Prop := macEqualRow.holds Try.pinned (OpenSpec.ofChange macEqualSpec)

/-- ITS FALSE NEIGHBOUR: 'it returns false'. Refute it at one input. -/
def macEqualWrong : ChangeSpec := { name := "macEqual", fn := fun _ => fun
  | [d1, d2] => { results := [.lit (.bool false)], args := [d1, d2] }
  | _ => none }
def MacEqualWrongFalsely : Prop := macEqualRow.holds Try.pinned (OpenSpec.ofChange macEqualWrong)

/-- 'escritoirelaw02.MacFirst': WHATEVER THE INPUT: true; the input reads as it did. -/
def macFirstSpec : ChangeSpec := { name := "macFirst", fn := fun _ => fun
  | [d1, d2] => { results := [.lit (.bool true)], args := [d1, d2] }
  | _ => none }
def macFirstRow : OpenClaim := { program := "ytfehhihllenjiaa", sum := "ecf9fec2d02e1e238c9c7772457e22baf27e722f3f9603a3bda4bf1c80ed20ab", func := "escritoire/escritoirelaw02.MacFirst", spec := "macFirst", unfollowed := true, recurses := true, apart := false }
def MacFirstSaid : Prop := macFirstRow.holds Try.pinned (OpenSpec.ofChange macFirstSpec)

/-- ITS FALSE NEIGHBOUR: 'it returns false'. Refute it at one input. -/
def macFirstWrong : ChangeSpec := { name := "macFirst", fn := fun _ => fun
  | [d1, d2] => { results := [.lit (.bool false)], args := [d1, d2] }
  | _ => none }
def MacFirstWrongFalsely : Prop := macFirstRow.holds Try.pinned (OpenSpec.ofChange macFirstWrong)

/-- 'escritoirelaw02.MacBounds': WHATEVER THE INPUT: true; the input reads as it did. -/
def macBoundsSpec : ChangeSpec := { name := "macBounds", fn := fun _ => fun
  | [d1, d2] => { results := [.lit (.bool true)], args := [d1, d2] }
  | _ => none }
def macBoundsRow : OpenClaim := { program := "ytfehhihllenjiaa", sum := "ecf9fec2d02e1e238c9c7772457e22baf27e722f3f9603a3bda4bf1c80ed20ab", func := "escritoire/escritoirelaw02.MacBounds", spec := "macBounds", unfollowed := true, recurses := true, apart := false }
def MacBoundsSaid : Prop := macBoundsRow.holds Try.pinned (OpenSpec.ofChange macBoundsSpec)

/-- ITS FALSE NEIGHBOUR: 'it returns false'. Refute it at one input. -/
def macBoundsWrong : ChangeSpec := { name := "macBounds", fn := fun _ => fun
  | [d1, d2] => { results := [.lit (.bool false)], args := [d1, d2] }
  | _ => none }
def MacBoundsWrongFalsely : Prop := macBoundsRow.holds Try.pinned (OpenSpec.ofChange macBoundsWrong)

/-- 'escritoiretop.TopKeys': WHATEVER THE INPUT: true; the input reads as it did. -/
def topKeysSpec : ChangeSpec := { name := "topKeys", fn := fun _ => fun
  | [d1, d2] => { results := [.lit (.bool true)], args := [d1, d2] }
  | _ => none }
def topKeysRow : OpenClaim := { program := "ytfehhihllenjiaa", sum := "ecf9fec2d02e1e238c9c7772457e22baf27e722f3f9603a3bda4bf1c80ed20ab", func := "escritoire/escritoiretop.TopKeys", spec := "topKeys", unfollowed := true, recurses := true, apart := false }
def TopKeysSaid : Prop := topKeysRow.holds Try.pinned (OpenSpec.ofChange topKeysSpec)

/-- ITS FALSE NEIGHBOUR: 'it returns false'. Refute it at one input. -/
def topKeysWrong : ChangeSpec := { name := "topKeys", fn := fun _ => fun
  | [d1, d2] => { results := [.lit (.bool false)], args := [d1, d2] }
  | _ => none }
def TopKeysWrongFalsely : Prop := topKeysRow.holds Try.pinned (OpenSpec.ofChange topKeysWrong)

/-- 'escritoirelaw02.MacExpands': WHATEVER THE INPUT: true; the input reads as it did. -/
def macExpandsSpec : ChangeSpec := { name := "macExpands", fn := fun _ => fun
  | [d1, d2, d3] => { results := [.lit (.bool true)], args := [d1, d2, d3] }
  | _ => none }
def macExpandsRow : OpenClaim := { program := "ytfehhihllenjiaa", sum := "ecf9fec2d02e1e238c9c7772457e22baf27e722f3f9603a3bda4bf1c80ed20ab", func := "escritoire/escritoirelaw02.MacExpands", spec := "macExpands", unfollowed := true, recurses := true, apart := false }
def MacExpandsSaid : Prop := macExpandsRow.holds Try.pinned (OpenSpec.ofChange macExpandsSpec)

/-- ITS FALSE NEIGHBOUR: 'it returns false'. Refute it at one input. -/
def macExpandsWrong : ChangeSpec := { name := "macExpands", fn := fun _ => fun
  | [d1, d2, d3] => { results := [.lit (.bool false)], args := [d1, d2, d3] }
  | _ => none }
def MacExpandsWrongFalsely : Prop := macExpandsRow.holds Try.pinned (OpenSpec.ofChange macExpandsWrong)

/-- 'escritoirelaw05.AeadSeals': WHATEVER THE INPUT: true; the input reads as it did. -/
def aeadSealsSpec : ChangeSpec := { name := "aeadSeals", fn := fun _ => fun
  | [d1, d2] => { results := [.lit (.bool true)], args := [d1, d2] }
  | _ => none }
def aeadSealsRow : OpenClaim := { program := "ytfehhihllenjiaa", sum := "ecf9fec2d02e1e238c9c7772457e22baf27e722f3f9603a3bda4bf1c80ed20ab", func := "escritoire/escritoirelaw05.AeadSeals", spec := "aeadSeals", inPlace := ["math/bits.Add64"], unfollowed := true, recurses := true, apart := false }
def AeadSealsSaid : Prop := aeadSealsRow.holds Try.pinned (OpenSpec.ofChange aeadSealsSpec)

/-- ITS FALSE NEIGHBOUR: 'it returns false'. Refute it at one input. -/
def aeadSealsWrong : ChangeSpec := { name := "aeadSeals", fn := fun _ => fun
  | [d1, d2] => { results := [.lit (.bool false)], args := [d1, d2] }
  | _ => none }
def AeadSealsWrongFalsely : Prop := aeadSealsRow.holds Try.pinned (OpenSpec.ofChange aeadSealsWrong)

/-- 'escritoirelaw05.AeadOpens': WHATEVER THE INPUT: true; the input reads as it did. -/
def aeadOpensSpec : ChangeSpec := { name := "aeadOpens", fn := fun _ => fun
  | [d1, d2] => { results := [.lit (.bool true)], args := [d1, d2] }
  | _ => none }
def aeadOpensRow : OpenClaim := { program := "ytfehhihllenjiaa", sum := "ecf9fec2d02e1e238c9c7772457e22baf27e722f3f9603a3bda4bf1c80ed20ab", func := "escritoire/escritoirelaw05.AeadOpens", spec := "aeadOpens", inPlace := ["math/bits.Add64"], unfollowed := true, recurses := true, apart := false }
def AeadOpensSaid : Prop := aeadOpensRow.holds Try.pinned (OpenSpec.ofChange aeadOpensSpec)

/-- ITS FALSE NEIGHBOUR: 'it returns false'. Refute it at one input. -/
def aeadOpensWrong : ChangeSpec := { name := "aeadOpens", fn := fun _ => fun
  | [d1, d2] => { results := [.lit (.bool false)], args := [d1, d2] }
  | _ => none }
def AeadOpensWrongFalsely : Prop := aeadOpensRow.holds Try.pinned (OpenSpec.ofChange aeadOpensWrong)

/-- 'escritoirelaw05.AeadBack': WHATEVER THE INPUT: true; the input reads as it did. -/
def aeadBackSpec : ChangeSpec := { name := "aeadBack", fn := fun _ => fun
  | [d1, d2] => { results := [.lit (.bool true)], args := [d1, d2] }
  | _ => none }
def aeadBackRow : OpenClaim := { program := "ytfehhihllenjiaa", sum := "ecf9fec2d02e1e238c9c7772457e22baf27e722f3f9603a3bda4bf1c80ed20ab", func := "escritoire/escritoirelaw05.AeadBack", spec := "aeadBack", inPlace := ["math/bits.Add64"], unfollowed := true, recurses := true, apart := false }
def AeadBackSaid : Prop := aeadBackRow.holds Try.pinned (OpenSpec.ofChange aeadBackSpec)

/-- ITS FALSE NEIGHBOUR: 'it returns false'. Refute it at one input. -/
def aeadBackWrong : ChangeSpec := { name := "aeadBack", fn := fun _ => fun
  | [d1, d2] => { results := [.lit (.bool false)], args := [d1, d2] }
  | _ => none }
def AeadBackWrongFalsely : Prop := aeadBackRow.holds Try.pinned (OpenSpec.ofChange aeadBackWrong)

/-- 'escritoirelaw05.AeadFramed': WHATEVER THE INPUT: true; the input reads as it did. -/
def aeadFramedSpec : ChangeSpec := { name := "aeadFramed", fn := fun _ => fun
  | [d1, d2] => { results := [.lit (.bool true)], args := [d1, d2] }
  | _ => none }
def aeadFramedRow : OpenClaim := { program := "ytfehhihllenjiaa", sum := "ecf9fec2d02e1e238c9c7772457e22baf27e722f3f9603a3bda4bf1c80ed20ab", func := "escritoire/escritoirelaw05.AeadFramed", spec := "aeadFramed", inPlace := ["math/bits.Add64"], unfollowed := true, recurses := true, apart := false }
def AeadFramedSaid : Prop := aeadFramedRow.holds Try.pinned (OpenSpec.ofChange aeadFramedSpec)

/-- ITS FALSE NEIGHBOUR: 'it returns false'. Refute it at one input. -/
def aeadFramedWrong : ChangeSpec := { name := "aeadFramed", fn := fun _ => fun
  | [d1, d2] => { results := [.lit (.bool false)], args := [d1, d2] }
  | _ => none }
def AeadFramedWrongFalsely : Prop := aeadFramedRow.holds Try.pinned (OpenSpec.ofChange aeadFramedWrong)

/-- 'escritoirelaw05.AeadTags': WHATEVER THE INPUT: true; the input reads as it did. -/
def aeadTagsSpec : ChangeSpec := { name := "aeadTags", fn := fun _ => fun
  | [d1, d2, d3] => { results := [.lit (.bool true)], args := [d1, d2, d3] }
  | _ => none }
def aeadTagsRow : OpenClaim := { program := "ytfehhihllenjiaa", sum := "ecf9fec2d02e1e238c9c7772457e22baf27e722f3f9603a3bda4bf1c80ed20ab", func := "escritoire/escritoirelaw05.AeadTags", spec := "aeadTags", inPlace := ["math/bits.Add64"], unfollowed := true, recurses := true, apart := false }
def AeadTagsSaid : Prop := aeadTagsRow.holds Try.pinned (OpenSpec.ofChange aeadTagsSpec)

/-- ITS FALSE NEIGHBOUR: 'it returns false'. Refute it at one input. -/
def aeadTagsWrong : ChangeSpec := { name := "aeadTags", fn := fun _ => fun
  | [d1, d2, d3] => { results := [.lit (.bool false)], args := [d1, d2, d3] }
  | _ => none }
def AeadTagsWrongFalsely : Prop := aeadTagsRow.holds Try.pinned (OpenSpec.ofChange aeadTagsWrong)

/-- 'escritoirelaw05.AeadShort': WHATEVER THE INPUT: true; the input reads as it did. -/
def aeadShortSpec : ChangeSpec := { name := "aeadShort", fn := fun _ => fun
  | [d1, d2] => { results := [.lit (.bool true)], args := [d1, d2] }
  | _ => none }
def aeadShortRow : OpenClaim := { program := "ytfehhihllenjiaa", sum := "ecf9fec2d02e1e238c9c7772457e22baf27e722f3f9603a3bda4bf1c80ed20ab", func := "escritoire/escritoirelaw05.AeadShort", spec := "aeadShort", inPlace := ["math/bits.Add64"], unfollowed := true, recurses := true, apart := false }
def AeadShortSaid : Prop := aeadShortRow.holds Try.pinned (OpenSpec.ofChange aeadShortSpec)

/-- ITS FALSE NEIGHBOUR: 'it returns false'. Refute it at one input. -/
def aeadShortWrong : ChangeSpec := { name := "aeadShort", fn := fun _ => fun
  | [d1, d2] => { results := [.lit (.bool false)], args := [d1, d2] }
  | _ => none }
def AeadShortWrongFalsely : Prop := aeadShortRow.holds Try.pinned (OpenSpec.ofChange aeadShortWrong)

/-- 'escritoirelaw05.AeadUnlike': WHATEVER THE INPUT: true; the input reads as it did. -/
def aeadUnlikeSpec : ChangeSpec := { name := "aeadUnlike", fn := fun _ => fun
  | [d1, d2] => { results := [.lit (.bool true)], args := [d1, d2] }
  | _ => none }
def aeadUnlikeRow : OpenClaim := { program := "ytfehhihllenjiaa", sum := "ecf9fec2d02e1e238c9c7772457e22baf27e722f3f9603a3bda4bf1c80ed20ab", func := "escritoire/escritoirelaw05.AeadUnlike", spec := "aeadUnlike", inPlace := ["math/bits.Add64"], unfollowed := true, recurses := true, apart := false }
def AeadUnlikeSaid : Prop := aeadUnlikeRow.holds Try.pinned (OpenSpec.ofChange aeadUnlikeSpec)

/-- ITS FALSE NEIGHBOUR: 'it returns false'. Refute it at one input. -/
def aeadUnlikeWrong : ChangeSpec := { name := "aeadUnlike", fn := fun _ => fun
  | [d1, d2] => { results := [.lit (.bool false)], args := [d1, d2] }
  | _ => none }
def AeadUnlikeWrongFalsely : Prop := aeadUnlikeRow.holds Try.pinned (OpenSpec.ofChange aeadUnlikeWrong)

/-- 'escritoiretop.TopOneTime': WHATEVER THE INPUT: true; the input reads as it did. -/
def topOneTimeSpec : ChangeSpec := { name := "topOneTime", fn := fun _ => fun
  | [d1, d2, d3] => { results := [.lit (.bool true)], args := [d1, d2, d3] }
  | _ => none }
def topOneTimeRow : OpenClaim := { program := "ytfehhihllenjiaa", sum := "ecf9fec2d02e1e238c9c7772457e22baf27e722f3f9603a3bda4bf1c80ed20ab", func := "escritoire/escritoiretop.TopOneTime", spec := "topOneTime", inPlace := ["math/bits.Add64"], unfollowed := true, recurses := true, apart := false }
def TopOneTimeSaid : Prop := topOneTimeRow.holds Try.pinned (OpenSpec.ofChange topOneTimeSpec)

/-- ITS FALSE NEIGHBOUR: 'it returns false'. Refute it at one input. -/
def topOneTimeWrong : ChangeSpec := { name := "topOneTime", fn := fun _ => fun
  | [d1, d2, d3] => { results := [.lit (.bool false)], args := [d1, d2, d3] }
  | _ => none }
def TopOneTimeWrongFalsely : Prop := topOneTimeRow.holds Try.pinned (OpenSpec.ofChange topOneTimeWrong)

/- THE SECOND FORM. 'bulk': how many values and letters a reading holds, each counted each time it is reached (what is shared counts as often as it is met; a slice's spare places count too). A statement '..UptoSaid' is the law's where the arguments, and the package variables that the reading takes, are together of bulk at most 1048576: NARROWER than '..Said'. Prove '..Said' where nothing that the law and all that it calls make is longer than what came in: it says more and counts as full. Else prove '..UptoSaid'. A law counts once. -/
mutual
def uptoBulk {H : Type} : DataW H → Nat
  | .lit (.string bytes) => bytes.length + 1
  | .lit _ => 1
  | .nil => 1
  | .ptr d => uptoBulk d + 1
  | .slice elems spare => uptoBulkAll elems + uptoBulkAll spare + 1
  | .agg parts => uptoBulkAll parts + 1
  | .iface _ d => uptoBulk d + 1
  | .map entries => uptoBulkEntries entries + 1
  | .held _ => 1
def uptoBulkAll {H : Type} : List (DataW H) → Nat
  | [] => 0
  | d :: r => uptoBulk d + uptoBulkAll r
def uptoBulkEntries {H : Type} : List (Lit × DataW H) → Nat
  | [] => 0
  | x :: r => uptoBulkEntry x + uptoBulkEntries r
def uptoBulkEntry {H : Type} : Lit × DataW H → Nat
  | (.string bytes, d) => bytes.length + uptoBulk d + 1
  | (_, d) => uptoBulk d + 1
 end
def uptoSmall : (H : Type) → List (DataW H) → Bool := fun _ ds => decide (uptoBulkAll ds ≤ 1048576)
def OpenSpec.upto (s : _root_.Go.ChangeSpec) : _root_.Go.OpenSpec := { _root_.Go.OpenSpec.ofChange s with cond := some uptoSmall }

/-- 'escritoirelaw03.ChachaQuarters', WHERE WHAT IT READS IS OF BULK AT MOST 1048576: true; the input reads as it did. -/
def chachaQuartersUptoRow : OpenClaim := { program := "ytfehhihllenjiaa", sum := "ecf9fec2d02e1e238c9c7772457e22baf27e722f3f9603a3bda4bf1c80ed20ab", func := "escritoire/escritoirelaw03.ChachaQuarters", spec := "chachaQuarters", apart := false, narrowed := true }
def ChachaQuartersUptoSaid : Prop := chachaQuartersUptoRow.holds Try.pinned (OpenSpec.upto chachaQuartersSpec)

/-- 'escritoirelaw03.ChachaUndo', WHERE WHAT IT READS IS OF BULK AT MOST 1048576: true; the input reads as it did. -/
def chachaUndoUptoRow : OpenClaim := { program := "ytfehhihllenjiaa", sum := "ecf9fec2d02e1e238c9c7772457e22baf27e722f3f9603a3bda4bf1c80ed20ab", func := "escritoire/escritoirelaw03.ChachaUndo", spec := "chachaUndo", apart := false, narrowed := true }
def ChachaUndoUptoSaid : Prop := chachaUndoUptoRow.holds Try.pinned (OpenSpec.upto chachaUndoSpec)

/-- 'escritoirelaw03.ChachaBlocks', WHERE WHAT IT READS IS OF BULK AT MOST 1048576: true; the input reads as it did. -/
def chachaBlocksUptoRow : OpenClaim := { program := "ytfehhihllenjiaa", sum := "ecf9fec2d02e1e238c9c7772457e22baf27e722f3f9603a3bda4bf1c80ed20ab", func := "escritoire/escritoirelaw03.ChachaBlocks", spec := "chachaBlocks", apart := false, narrowed := true }
def ChachaBlocksUptoSaid : Prop := chachaBlocksUptoRow.holds Try.pinned (OpenSpec.upto chachaBlocksSpec)

/-- 'escritoirelaw03.ChachaXors', WHERE WHAT IT READS IS OF BULK AT MOST 1048576: true; the input reads as it did. -/
def chachaXorsUptoRow : OpenClaim := { program := "ytfehhihllenjiaa", sum := "ecf9fec2d02e1e238c9c7772457e22baf27e722f3f9603a3bda4bf1c80ed20ab", func := "escritoire/escritoirelaw03.ChachaXors", spec := "chachaXors", apart := false, narrowed := true }
def ChachaXorsUptoSaid : Prop := chachaXorsUptoRow.holds Try.pinned (OpenSpec.upto chachaXorsSpec)

/-- 'escritoirelaw03.ChachaTwice', WHERE WHAT IT READS IS OF BULK AT MOST 1048576: true; the input reads as it did. -/
def chachaTwiceUptoRow : OpenClaim := { program := "ytfehhihllenjiaa", sum := "ecf9fec2d02e1e238c9c7772457e22baf27e722f3f9603a3bda4bf1c80ed20ab", func := "escritoire/escritoirelaw03.ChachaTwice", spec := "chachaTwice", apart := false, narrowed := true }
def ChachaTwiceUptoSaid : Prop := chachaTwiceUptoRow.holds Try.pinned (OpenSpec.upto chachaTwiceSpec)

/-- 'escritoirelaw03.ChachaJoins', WHERE WHAT IT READS IS OF BULK AT MOST 1048576: true; the input reads as it did. -/
def chachaJoinsUptoRow : OpenClaim := { program := "ytfehhihllenjiaa", sum := "ecf9fec2d02e1e238c9c7772457e22baf27e722f3f9603a3bda4bf1c80ed20ab", func := "escritoire/escritoirelaw03.ChachaJoins", spec := "chachaJoins", apart := false, narrowed := true }
def ChachaJoinsUptoSaid : Prop := chachaJoinsUptoRow.holds Try.pinned (OpenSpec.upto chachaJoinsSpec)

/-- 'escritoirelaw03.ChachaZeros', WHERE WHAT IT READS IS OF BULK AT MOST 1048576: true; the input reads as it did. -/
def chachaZerosUptoRow : OpenClaim := { program := "ytfehhihllenjiaa", sum := "ecf9fec2d02e1e238c9c7772457e22baf27e722f3f9603a3bda4bf1c80ed20ab", func := "escritoire/escritoirelaw03.ChachaZeros", spec := "chachaZeros", apart := false, narrowed := true }
def ChachaZerosUptoSaid : Prop := chachaZerosUptoRow.holds Try.pinned (OpenSpec.upto chachaZerosSpec)

/-- 'escritoirelaw01.ShaSums', WHERE WHAT IT READS IS OF BULK AT MOST 1048576: true; the input reads as it did. -/
def shaSumsUptoRow : OpenClaim := { program := "ytfehhihllenjiaa", sum := "ecf9fec2d02e1e238c9c7772457e22baf27e722f3f9603a3bda4bf1c80ed20ab", func := "escritoire/escritoirelaw01.ShaSums", spec := "shaSums", unfollowed := true, recurses := true, apart := false, narrowed := true }
def ShaSumsUptoSaid : Prop := shaSumsUptoRow.holds Try.pinned (OpenSpec.upto shaSumsSpec)

/-- 'escritoirelaw01.ShaPads', WHERE WHAT IT READS IS OF BULK AT MOST 1048576: true; the input reads as it did. -/
def shaPadsUptoRow : OpenClaim := { program := "ytfehhihllenjiaa", sum := "ecf9fec2d02e1e238c9c7772457e22baf27e722f3f9603a3bda4bf1c80ed20ab", func := "escritoire/escritoirelaw01.ShaPads", spec := "shaPads", unfollowed := true, recurses := true, apart := false, narrowed := true }
def ShaPadsUptoSaid : Prop := shaPadsUptoRow.holds Try.pinned (OpenSpec.upto shaPadsSpec)

/-- 'escritoirelaw01.ShaSteps', WHERE WHAT IT READS IS OF BULK AT MOST 1048576: true; the input reads as it did. -/
def shaStepsUptoRow : OpenClaim := { program := "ytfehhihllenjiaa", sum := "ecf9fec2d02e1e238c9c7772457e22baf27e722f3f9603a3bda4bf1c80ed20ab", func := "escritoire/escritoirelaw01.ShaSteps", spec := "shaSteps", unfollowed := true, recurses := true, apart := false, narrowed := true }
def ShaStepsUptoSaid : Prop := shaStepsUptoRow.holds Try.pinned (OpenSpec.upto shaStepsSpec)

/-- 'escritoirelaw01.ShaTells', WHERE WHAT IT READS IS OF BULK AT MOST 1048576: true; the input reads as it did. -/
def shaTellsUptoRow : OpenClaim := { program := "ytfehhihllenjiaa", sum := "ecf9fec2d02e1e238c9c7772457e22baf27e722f3f9603a3bda4bf1c80ed20ab", func := "escritoire/escritoirelaw01.ShaTells", spec := "shaTells", unfollowed := true, recurses := true, apart := false, narrowed := true }
def ShaTellsUptoSaid : Prop := shaTellsUptoRow.holds Try.pinned (OpenSpec.upto shaTellsSpec)

/-- 'escritoirelaw01.ShaBlocks', WHERE WHAT IT READS IS OF BULK AT MOST 1048576: true; the input reads as it did. -/
def shaBlocksUptoRow : OpenClaim := { program := "ytfehhihllenjiaa", sum := "ecf9fec2d02e1e238c9c7772457e22baf27e722f3f9603a3bda4bf1c80ed20ab", func := "escritoire/escritoirelaw01.ShaBlocks", spec := "shaBlocks", unfollowed := true, recurses := true, apart := false, narrowed := true }
def ShaBlocksUptoSaid : Prop := shaBlocksUptoRow.holds Try.pinned (OpenSpec.upto shaBlocksSpec)

/-- 'escritoirelaw01.ShaOdd', WHERE WHAT IT READS IS OF BULK AT MOST 1048576: true; the input reads as it did. -/
def shaOddUptoRow : OpenClaim := { program := "ytfehhihllenjiaa", sum := "ecf9fec2d02e1e238c9c7772457e22baf27e722f3f9603a3bda4bf1c80ed20ab", func := "escritoire/escritoirelaw01.ShaOdd", spec := "shaOdd", unfollowed := true, recurses := true, apart := false, narrowed := true }
def ShaOddUptoSaid : Prop := shaOddUptoRow.holds Try.pinned (OpenSpec.upto shaOddSpec)

/-- 'escritoirelaw01.ShaUnlike', WHERE WHAT IT READS IS OF BULK AT MOST 1048576: true; the input reads as it did. -/
def shaUnlikeUptoRow : OpenClaim := { program := "ytfehhihllenjiaa", sum := "ecf9fec2d02e1e238c9c7772457e22baf27e722f3f9603a3bda4bf1c80ed20ab", func := "escritoire/escritoirelaw01.ShaUnlike", spec := "shaUnlike", unfollowed := true, recurses := true, apart := false, narrowed := true }
def ShaUnlikeUptoSaid : Prop := shaUnlikeUptoRow.holds Try.pinned (OpenSpec.upto shaUnlikeSpec)

/-- 'escritoiretop.TopStreams', WHERE WHAT IT READS IS OF BULK AT MOST 1048576: true; the input reads as it did. -/
def topStreamsUptoRow : OpenClaim := { program := "ytfehhihllenjiaa", sum := "ecf9fec2d02e1e238c9c7772457e22baf27e722f3f9603a3bda4bf1c80ed20ab", func := "escritoire/escritoiretop.TopStreams", spec := "topStreams", apart := false, narrowed := true }
def TopStreamsUptoSaid : Prop := topStreamsUptoRow.holds Try.pinned (OpenSpec.upto topStreamsSpec)

/-- 'escritoirelaw04.PolySums', WHERE WHAT IT READS IS OF BULK AT MOST 1048576: true; the input reads as it did. -/
def polySumsUptoRow : OpenClaim := { program := "ytfehhihllenjiaa", sum := "ecf9fec2d02e1e238c9c7772457e22baf27e722f3f9603a3bda4bf1c80ed20ab", func := "escritoire/escritoirelaw04.PolySums", spec := "polySums", inPlace := ["math/bits.Add64"], unfollowed := true, recurses := true, apart := false, narrowed := true }
def PolySumsUptoSaid : Prop := polySumsUptoRow.holds Try.pinned (OpenSpec.upto polySumsSpec)

/-- 'escritoirelaw04.PolyClamps', WHERE WHAT IT READS IS OF BULK AT MOST 1048576: true; the input reads as it did. -/
def polyClampsUptoRow : OpenClaim := { program := "ytfehhihllenjiaa", sum := "ecf9fec2d02e1e238c9c7772457e22baf27e722f3f9603a3bda4bf1c80ed20ab", func := "escritoire/escritoirelaw04.PolyClamps", spec := "polyClamps", inPlace := ["math/bits.Add64"], unfollowed := true, recurses := true, apart := false, narrowed := true }
def PolyClampsUptoSaid : Prop := polyClampsUptoRow.holds Try.pinned (OpenSpec.upto polyClampsSpec)

/-- 'escritoirelaw04.PolyNone', WHERE WHAT IT READS IS OF BULK AT MOST 1048576: true; the input reads as it did. -/
def polyNoneUptoRow : OpenClaim := { program := "ytfehhihllenjiaa", sum := "ecf9fec2d02e1e238c9c7772457e22baf27e722f3f9603a3bda4bf1c80ed20ab", func := "escritoire/escritoirelaw04.PolyNone", spec := "polyNone", inPlace := ["math/bits.Add64"], unfollowed := true, recurses := true, apart := false, narrowed := true }
def PolyNoneUptoSaid : Prop := polyNoneUptoRow.holds Try.pinned (OpenSpec.upto polyNoneSpec)

/-- 'escritoirelaw04.PolyBits', WHERE WHAT IT READS IS OF BULK AT MOST 1048576: true; the input reads as it did. -/
def polyBitsUptoRow : OpenClaim := { program := "ytfehhihllenjiaa", sum := "ecf9fec2d02e1e238c9c7772457e22baf27e722f3f9603a3bda4bf1c80ed20ab", func := "escritoire/escritoirelaw04.PolyBits", spec := "polyBits", inPlace := ["math/bits.Add64"], unfollowed := true, recurses := true, apart := false, narrowed := true }
def PolyBitsUptoSaid : Prop := polyBitsUptoRow.holds Try.pinned (OpenSpec.upto polyBitsSpec)

/-- 'escritoirelaw04.PolyAdds', WHERE WHAT IT READS IS OF BULK AT MOST 1048576: true; the input reads as it did. -/
def polyAddsUptoRow : OpenClaim := { program := "ytfehhihllenjiaa", sum := "ecf9fec2d02e1e238c9c7772457e22baf27e722f3f9603a3bda4bf1c80ed20ab", func := "escritoire/escritoirelaw04.PolyAdds", spec := "polyAdds", inPlace := ["math/bits.Add64"], unfollowed := true, recurses := true, apart := false, narrowed := true }
def PolyAddsUptoSaid : Prop := polyAddsUptoRow.holds Try.pinned (OpenSpec.upto polyAddsSpec)

/-- 'escritoirelaw04.PolyOne', WHERE WHAT IT READS IS OF BULK AT MOST 1048576: true; the input reads as it did. -/
def polyOneUptoRow : OpenClaim := { program := "ytfehhihllenjiaa", sum := "ecf9fec2d02e1e238c9c7772457e22baf27e722f3f9603a3bda4bf1c80ed20ab", func := "escritoire/escritoirelaw04.PolyOne", spec := "polyOne", inPlace := ["math/bits.Add64"], unfollowed := true, recurses := true, apart := false, narrowed := true }
def PolyOneUptoSaid : Prop := polyOneUptoRow.holds Try.pinned (OpenSpec.upto polyOneSpec)

/-- 'escritoiretop.TopTags', WHERE WHAT IT READS IS OF BULK AT MOST 1048576: true; the input reads as it did. -/
def topTagsUptoRow : OpenClaim := { program := "ytfehhihllenjiaa", sum := "ecf9fec2d02e1e238c9c7772457e22baf27e722f3f9603a3bda4bf1c80ed20ab", func := "escritoire/escritoiretop.TopTags", spec := "topTags", unfollowed := true, recurses := true, apart := false, narrowed := true }
def TopTagsUptoSaid : Prop := topTagsUptoRow.holds Try.pinned (OpenSpec.upto topTagsSpec)

/-- 'escritoirelaw02.MacTags', WHERE WHAT IT READS IS OF BULK AT MOST 1048576: true; the input reads as it did. -/
def macTagsUptoRow : OpenClaim := { program := "ytfehhihllenjiaa", sum := "ecf9fec2d02e1e238c9c7772457e22baf27e722f3f9603a3bda4bf1c80ed20ab", func := "escritoire/escritoirelaw02.MacTags", spec := "macTags", unfollowed := true, recurses := true, apart := false, narrowed := true }
def MacTagsUptoSaid : Prop := macTagsUptoRow.holds Try.pinned (OpenSpec.upto macTagsSpec)

/-- 'escritoirelaw02.MacPrefix', WHERE WHAT IT READS IS OF BULK AT MOST 1048576: true; the input reads as it did. -/
def macPrefixUptoRow : OpenClaim := { program := "ytfehhihllenjiaa", sum := "ecf9fec2d02e1e238c9c7772457e22baf27e722f3f9603a3bda4bf1c80ed20ab", func := "escritoire/escritoirelaw02.MacPrefix", spec := "macPrefix", unfollowed := true, recurses := true, apart := false, narrowed := true }
def MacPrefixUptoSaid : Prop := macPrefixUptoRow.holds Try.pinned (OpenSpec.upto macPrefixSpec)

/-- 'escritoirelaw02.MacLong', WHERE WHAT IT READS IS OF BULK AT MOST 1048576: true; the input reads as it did. -/
def macLongUptoRow : OpenClaim := { program := "ytfehhihllenjiaa", sum := "ecf9fec2d02e1e238c9c7772457e22baf27e722f3f9603a3bda4bf1c80ed20ab", func := "escritoire/escritoirelaw02.MacLong", spec := "macLong", unfollowed := true, recurses := true, apart := false, narrowed := true }
def MacLongUptoSaid : Prop := macLongUptoRow.holds Try.pinned (OpenSpec.upto macLongSpec)

/-- 'escritoirelaw02.MacEqual', WHERE WHAT IT READS IS OF BULK AT MOST 1048576: true; the input reads as it did. -/
def macEqualUptoRow : OpenClaim := { program := "ytfehhihllenjiaa", sum := "ecf9fec2d02e1e238c9c7772457e22baf27e722f3f9603a3bda4bf1c80ed20ab", func := "escritoire/escritoirelaw02.MacEqual", spec := "macEqual", unfollowed := true, recurses := true, apart := false, narrowed := true }
def MacEqualUptoSaid : Prop := macEqualUptoRow.holds Try.pinned (OpenSpec.upto macEqualSpec)

/-- 'escritoirelaw02.MacFirst', WHERE WHAT IT READS IS OF BULK AT MOST 1048576: true; the input reads as it did. -/
def macFirstUptoRow : OpenClaim := { program := "ytfehhihllenjiaa", sum := "ecf9fec2d02e1e238c9c7772457e22baf27e722f3f9603a3bda4bf1c80ed20ab", func := "escritoire/escritoirelaw02.MacFirst", spec := "macFirst", unfollowed := true, recurses := true, apart := false, narrowed := true }
def MacFirstUptoSaid : Prop := macFirstUptoRow.holds Try.pinned (OpenSpec.upto macFirstSpec)

/-- 'escritoirelaw02.MacBounds', WHERE WHAT IT READS IS OF BULK AT MOST 1048576: true; the input reads as it did. -/
def macBoundsUptoRow : OpenClaim := { program := "ytfehhihllenjiaa", sum := "ecf9fec2d02e1e238c9c7772457e22baf27e722f3f9603a3bda4bf1c80ed20ab", func := "escritoire/escritoirelaw02.MacBounds", spec := "macBounds", unfollowed := true, recurses := true, apart := false, narrowed := true }
def MacBoundsUptoSaid : Prop := macBoundsUptoRow.holds Try.pinned (OpenSpec.upto macBoundsSpec)

/-- 'escritoiretop.TopKeys', WHERE WHAT IT READS IS OF BULK AT MOST 1048576: true; the input reads as it did. -/
def topKeysUptoRow : OpenClaim := { program := "ytfehhihllenjiaa", sum := "ecf9fec2d02e1e238c9c7772457e22baf27e722f3f9603a3bda4bf1c80ed20ab", func := "escritoire/escritoiretop.TopKeys", spec := "topKeys", unfollowed := true, recurses := true, apart := false, narrowed := true }
def TopKeysUptoSaid : Prop := topKeysUptoRow.holds Try.pinned (OpenSpec.upto topKeysSpec)

/-- 'escritoirelaw02.MacExpands', WHERE WHAT IT READS IS OF BULK AT MOST 1048576: true; the input reads as it did. -/
def macExpandsUptoRow : OpenClaim := { program := "ytfehhihllenjiaa", sum := "ecf9fec2d02e1e238c9c7772457e22baf27e722f3f9603a3bda4bf1c80ed20ab", func := "escritoire/escritoirelaw02.MacExpands", spec := "macExpands", unfollowed := true, recurses := true, apart := false, narrowed := true }
def MacExpandsUptoSaid : Prop := macExpandsUptoRow.holds Try.pinned (OpenSpec.upto macExpandsSpec)

/-- 'escritoirelaw05.AeadSeals', WHERE WHAT IT READS IS OF BULK AT MOST 1048576: true; the input reads as it did. -/
def aeadSealsUptoRow : OpenClaim := { program := "ytfehhihllenjiaa", sum := "ecf9fec2d02e1e238c9c7772457e22baf27e722f3f9603a3bda4bf1c80ed20ab", func := "escritoire/escritoirelaw05.AeadSeals", spec := "aeadSeals", inPlace := ["math/bits.Add64"], unfollowed := true, recurses := true, apart := false, narrowed := true }
def AeadSealsUptoSaid : Prop := aeadSealsUptoRow.holds Try.pinned (OpenSpec.upto aeadSealsSpec)

/-- 'escritoirelaw05.AeadOpens', WHERE WHAT IT READS IS OF BULK AT MOST 1048576: true; the input reads as it did. -/
def aeadOpensUptoRow : OpenClaim := { program := "ytfehhihllenjiaa", sum := "ecf9fec2d02e1e238c9c7772457e22baf27e722f3f9603a3bda4bf1c80ed20ab", func := "escritoire/escritoirelaw05.AeadOpens", spec := "aeadOpens", inPlace := ["math/bits.Add64"], unfollowed := true, recurses := true, apart := false, narrowed := true }
def AeadOpensUptoSaid : Prop := aeadOpensUptoRow.holds Try.pinned (OpenSpec.upto aeadOpensSpec)

/-- 'escritoirelaw05.AeadBack', WHERE WHAT IT READS IS OF BULK AT MOST 1048576: true; the input reads as it did. -/
def aeadBackUptoRow : OpenClaim := { program := "ytfehhihllenjiaa", sum := "ecf9fec2d02e1e238c9c7772457e22baf27e722f3f9603a3bda4bf1c80ed20ab", func := "escritoire/escritoirelaw05.AeadBack", spec := "aeadBack", inPlace := ["math/bits.Add64"], unfollowed := true, recurses := true, apart := false, narrowed := true }
def AeadBackUptoSaid : Prop := aeadBackUptoRow.holds Try.pinned (OpenSpec.upto aeadBackSpec)

/-- 'escritoirelaw05.AeadFramed', WHERE WHAT IT READS IS OF BULK AT MOST 1048576: true; the input reads as it did. -/
def aeadFramedUptoRow : OpenClaim := { program := "ytfehhihllenjiaa", sum := "ecf9fec2d02e1e238c9c7772457e22baf27e722f3f9603a3bda4bf1c80ed20ab", func := "escritoire/escritoirelaw05.AeadFramed", spec := "aeadFramed", inPlace := ["math/bits.Add64"], unfollowed := true, recurses := true, apart := false, narrowed := true }
def AeadFramedUptoSaid : Prop := aeadFramedUptoRow.holds Try.pinned (OpenSpec.upto aeadFramedSpec)

/-- 'escritoirelaw05.AeadTags', WHERE WHAT IT READS IS OF BULK AT MOST 1048576: true; the input reads as it did. -/
def aeadTagsUptoRow : OpenClaim := { program := "ytfehhihllenjiaa", sum := "ecf9fec2d02e1e238c9c7772457e22baf27e722f3f9603a3bda4bf1c80ed20ab", func := "escritoire/escritoirelaw05.AeadTags", spec := "aeadTags", inPlace := ["math/bits.Add64"], unfollowed := true, recurses := true, apart := false, narrowed := true }
def AeadTagsUptoSaid : Prop := aeadTagsUptoRow.holds Try.pinned (OpenSpec.upto aeadTagsSpec)

/-- 'escritoirelaw05.AeadShort', WHERE WHAT IT READS IS OF BULK AT MOST 1048576: true; the input reads as it did. -/
def aeadShortUptoRow : OpenClaim := { program := "ytfehhihllenjiaa", sum := "ecf9fec2d02e1e238c9c7772457e22baf27e722f3f9603a3bda4bf1c80ed20ab", func := "escritoire/escritoirelaw05.AeadShort", spec := "aeadShort", inPlace := ["math/bits.Add64"], unfollowed := true, recurses := true, apart := false, narrowed := true }
def AeadShortUptoSaid : Prop := aeadShortUptoRow.holds Try.pinned (OpenSpec.upto aeadShortSpec)

/-- 'escritoirelaw05.AeadUnlike', WHERE WHAT IT READS IS OF BULK AT MOST 1048576: true; the input reads as it did. -/
def aeadUnlikeUptoRow : OpenClaim := { program := "ytfehhihllenjiaa", sum := "ecf9fec2d02e1e238c9c7772457e22baf27e722f3f9603a3bda4bf1c80ed20ab", func := "escritoire/escritoirelaw05.AeadUnlike", spec := "aeadUnlike", inPlace := ["math/bits.Add64"], unfollowed := true, recurses := true, apart := false, narrowed := true }
def AeadUnlikeUptoSaid : Prop := aeadUnlikeUptoRow.holds Try.pinned (OpenSpec.upto aeadUnlikeSpec)

/-- 'escritoiretop.TopOneTime', WHERE WHAT IT READS IS OF BULK AT MOST 1048576: true; the input reads as it did. -/
def topOneTimeUptoRow : OpenClaim := { program := "ytfehhihllenjiaa", sum := "ecf9fec2d02e1e238c9c7772457e22baf27e722f3f9603a3bda4bf1c80ed20ab", func := "escritoire/escritoiretop.TopOneTime", spec := "topOneTime", inPlace := ["math/bits.Add64"], unfollowed := true, recurses := true, apart := false, narrowed := true }
def TopOneTimeUptoSaid : Prop := topOneTimeUptoRow.holds Try.pinned (OpenSpec.upto topOneTimeSpec)

end Rows
end Go.Proofs.Ytfehhihllenjiaa
