/-
  No cell of these rows narrows 'for every input' (looked for: loops, veiled, ifaces, maps, wideKeys, modest, calm, conditions, laid).
  DERIVED. THE GIVEN ROWS OF THIS SEAT. 3 by the template 'for every input the law returns true; each argument reads behind the call as it read before'; 0 by the template 'total and deterministic' (their statements: YtmommicmblfibaaGreatTotals.lean).
  GIVEN WITH THE SEED: the statements are not yours to turn. If you find one false, say at which input.
  Laid BY PROGRAM, IN A SANDBOX (cutbox-rows.mjs): the forced cells as the released guide's own fill.sh prints them over the translation 3fdfa7c5c7518bd8… (all of the seat's roots in one cut). By AI agents, Wed Nov 11 2026. No macro, syntax, notation, axiom, sorry.
-/
import Derived.Test.YtmommicmblfibaaGreatChecked
import GoSem.Claim
import GoSem.ClaimJoined
import GoSem.ClaimMapViews
import Derived.JoinedTies
import Derived.KernelRfl
namespace Go.Proofs.YtmommicmblfibaaGreat
/- THE CELL 'sum', in the pinned program and in every row, IS THE sha256 OF THE DUMP (.gsa) THAT YtmommicmblfibaaGreatProg.lean LOADS. Nothing in Lean hashes anything: it is a label: what it is worth is what the hold of that sum in a sandbox is worth. -/
noncomputable def Tryz.pinned : Pinned := { name := "ytmommicmblfibaagreat", sum := "3fdfa7c5c7518bd8c6b53aac341e833e060d198c214fd6f15bdce142f5df2c76", checked := Tryz.checked }
namespace Rows
def none {H : Type} : Left H := { results := [], args := [] }

/-- 'frisketlaw18.SplitPieces': WHATEVER THE INPUT: true; the input reads as it did. -/
def splitPiecesSpec : ChangeSpec := { name := "splitPieces", fn := fun _ => fun
  | [d] => { results := [.lit (.bool true)], args := [d] }
  | _ => none }
def splitPiecesRow : OpenClaim := { program := "ytmommicmblfibaagreat", sum := "3fdfa7c5c7518bd8c6b53aac341e833e060d198c214fd6f15bdce142f5df2c76", func := "frisket/frisketlaw18.SplitPieces", spec := "splitPieces", unfollowed := true, recurses := true, apart := false }
def SplitPiecesSaid : Prop := splitPiecesRow.holds Tryz.pinned (OpenSpec.ofChange splitPiecesSpec)

/-- ITS FALSE NEIGHBOUR: 'it returns false'. Refute it at one input. -/
def splitPiecesWrong : ChangeSpec := { name := "splitPieces", fn := fun _ => fun
  | [d] => { results := [.lit (.bool false)], args := [d] }
  | _ => none }
def SplitPiecesWrongFalsely : Prop := splitPiecesRow.holds Tryz.pinned (OpenSpec.ofChange splitPiecesWrong)

/-- 'frisketlaw18.SplitRows': WHATEVER THE INPUT: true; the input reads as it did. -/
def splitRowsSpec : ChangeSpec := { name := "splitRows", fn := fun _ => fun
  | [d] => { results := [.lit (.bool true)], args := [d] }
  | _ => none }
def splitRowsRow : OpenClaim := { program := "ytmommicmblfibaagreat", sum := "3fdfa7c5c7518bd8c6b53aac341e833e060d198c214fd6f15bdce142f5df2c76", func := "frisket/frisketlaw18.SplitRows", spec := "splitRows", unfollowed := true, recurses := true, apart := false }
def SplitRowsSaid : Prop := splitRowsRow.holds Tryz.pinned (OpenSpec.ofChange splitRowsSpec)

/-- ITS FALSE NEIGHBOUR: 'it returns false'. Refute it at one input. -/
def splitRowsWrong : ChangeSpec := { name := "splitRows", fn := fun _ => fun
  | [d] => { results := [.lit (.bool false)], args := [d] }
  | _ => none }
def SplitRowsWrongFalsely : Prop := splitRowsRow.holds Tryz.pinned (OpenSpec.ofChange splitRowsWrong)

/-- 'frisketlaw18.SplitClean': WHATEVER THE INPUT: true; the input reads as it did. -/
def splitCleanSpec : ChangeSpec := { name := "splitClean", fn := fun _ => fun
  | [d1, d2] => { results := [.lit (.bool true)], args := [d1, d2] }
  | _ => none }
def splitCleanRow : OpenClaim := { program := "ytmommicmblfibaagreat", sum := "3fdfa7c5c7518bd8c6b53aac341e833e060d198c214fd6f15bdce142f5df2c76", func := "frisket/frisketlaw18.SplitClean", spec := "splitClean", unfollowed := true, recurses := true, apart := false }
def SplitCleanSaid : Prop := splitCleanRow.holds Tryz.pinned (OpenSpec.ofChange splitCleanSpec)

/-- ITS FALSE NEIGHBOUR: 'it returns false'. Refute it at one input. -/
def splitCleanWrong : ChangeSpec := { name := "splitClean", fn := fun _ => fun
  | [d1, d2] => { results := [.lit (.bool false)], args := [d1, d2] }
  | _ => none }
def SplitCleanWrongFalsely : Prop := splitCleanRow.holds Tryz.pinned (OpenSpec.ofChange splitCleanWrong)

/- THE SECOND FORM. 'bulk': how many values and letters a reading holds, each counted each time it is reached (what is shared counts as often as it is met; a slice's spare places count too). A statement '..UptoSaid' is the law's where the arguments, and the package variables that the reading takes, are together of bulk at most 1048576: NARROWER than '..Said'. Prove '..Said' where nothing that the law and all that it calls make is longer than what came in: it says more and counts as full. Else prove '..UptoSaid'. A law counts once. -/
mutual
def uptoBulk {H : Type} : DataW H → Nat
  | .lit (.string bytes) => bytes.length + 1
  | .lit _ => 1
  | .nil => 1
  | .ptr d => uptoBulk d + 1
  | .slice elems spare => uptoBulkAll elems + uptoBulkAll spare + 1
  | .agg parts => uptoBulkAll parts + 1
  | .iface _ d => uptoBulk d + 1
  | .map entries => uptoBulkEntries entries + 1
  | .held _ => 1
def uptoBulkAll {H : Type} : List (DataW H) → Nat
  | [] => 0
  | d :: r => uptoBulk d + uptoBulkAll r
def uptoBulkEntries {H : Type} : List (Lit × DataW H) → Nat
  | [] => 0
  | x :: r => uptoBulkEntry x + uptoBulkEntries r
def uptoBulkEntry {H : Type} : Lit × DataW H → Nat
  | (.string bytes, d) => bytes.length + uptoBulk d + 1
  | (_, d) => uptoBulk d + 1
 end
def uptoSmall : (H : Type) → List (DataW H) → Bool := fun _ ds => decide (uptoBulkAll ds ≤ 1048576)
def OpenSpec.upto (s : _root_.Go.ChangeSpec) : _root_.Go.OpenSpec := { _root_.Go.OpenSpec.ofChange s with cond := some uptoSmall }

/-- 'frisketlaw18.SplitPieces', WHERE WHAT IT READS IS OF BULK AT MOST 1048576: true; the input reads as it did. -/
def splitPiecesUptoRow : OpenClaim := { program := "ytmommicmblfibaagreat", sum := "3fdfa7c5c7518bd8c6b53aac341e833e060d198c214fd6f15bdce142f5df2c76", func := "frisket/frisketlaw18.SplitPieces", spec := "splitPieces", unfollowed := true, recurses := true, apart := false, narrowed := true }
def SplitPiecesUptoSaid : Prop := splitPiecesUptoRow.holds Tryz.pinned (OpenSpec.upto splitPiecesSpec)

/-- 'frisketlaw18.SplitRows', WHERE WHAT IT READS IS OF BULK AT MOST 1048576: true; the input reads as it did. -/
def splitRowsUptoRow : OpenClaim := { program := "ytmommicmblfibaagreat", sum := "3fdfa7c5c7518bd8c6b53aac341e833e060d198c214fd6f15bdce142f5df2c76", func := "frisket/frisketlaw18.SplitRows", spec := "splitRows", unfollowed := true, recurses := true, apart := false, narrowed := true }
def SplitRowsUptoSaid : Prop := splitRowsUptoRow.holds Tryz.pinned (OpenSpec.upto splitRowsSpec)

/-- 'frisketlaw18.SplitClean', WHERE WHAT IT READS IS OF BULK AT MOST 1048576: true; the input reads as it did. -/
def splitCleanUptoRow : OpenClaim := { program := "ytmommicmblfibaagreat", sum := "3fdfa7c5c7518bd8c6b53aac341e833e060d198c214fd6f15bdce142f5df2c76", func := "frisket/frisketlaw18.SplitClean", spec := "splitClean", unfollowed := true, recurses := true, apart := false, narrowed := true }
def SplitCleanUptoSaid : Prop := splitCleanUptoRow.holds Tryz.pinned (OpenSpec.upto splitCleanSpec)

end Rows
end Go.Proofs.YtmommicmblfibaaGreat
