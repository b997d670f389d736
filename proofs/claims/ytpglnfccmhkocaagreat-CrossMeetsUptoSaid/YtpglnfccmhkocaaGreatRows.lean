/-
  No cell of these rows narrows 'for every input' (looked for: loops, veiled, ifaces, maps, wideKeys, modest, calm, conditions, laid).
  DERIVED. THE GIVEN ROWS OF THIS SEAT. 5 by the template 'for every input the law returns true; each argument reads behind the call as it read before'; 0 by the template 'total and deterministic' (their statements: YtpglnfccmhkocaaGreatTotals.lean).
  GIVEN WITH THE SEED: the statements are not yours to turn. If you find one false, say at which input.
  Laid BY PROGRAM, IN A SANDBOX (cutbox-rows.mjs): the forced cells as the released guide's own fill.sh prints them over the translation e74e1b0a7069608b… (all of the seat's roots in one cut). By AI agents, Wed Nov 11 2026. No macro, syntax, notation, axiom, sorry.
-/
import Derived.Test.YtpglnfccmhkocaaGreatChecked
import GoSem.Claim
import GoSem.ClaimJoined
import GoSem.ClaimMapViews
import Derived.JoinedTies
import Derived.KernelRfl
namespace Go.Proofs.YtpglnfccmhkocaaGreat
/- THE CELL 'sum', in the pinned program and in every row, IS THE sha256 OF THE DUMP (.gsa) THAT YtpglnfccmhkocaaGreatProg.lean LOADS. Nothing in Lean hashes anything: it is a label: what it is worth is what the hold of that sum in a sandbox is worth. -/
noncomputable def Tryz.pinned : Pinned := { name := "ytpglnfccmhkocaagreat", sum := "e74e1b0a7069608b886a9c81d0963b523796e9f1edd8e2aeb96d85ee25528ce5", checked := Tryz.checked }
namespace Rows
def none {H : Type} : Left H := { results := [], args := [] }

/-- 'frisketlaw05.SpotTurns': WHATEVER THE INPUT: true; the input reads as it did. -/
def spotTurnsSpec : ChangeSpec := { name := "spotTurns", fn := fun _ => fun
  | [d1, d2, d3] => { results := [.lit (.bool true)], args := [d1, d2, d3] }
  | _ => none }
def spotTurnsRow : OpenClaim := { program := "ytpglnfccmhkocaagreat", sum := "e74e1b0a7069608b886a9c81d0963b523796e9f1edd8e2aeb96d85ee25528ce5", func := "frisket/frisketlaw05.SpotTurns", spec := "spotTurns", unfollowed := true, recurses := true, apart := false }
def SpotTurnsSaid : Prop := spotTurnsRow.holds Tryz.pinned (OpenSpec.ofChange spotTurnsSpec)

/-- ITS FALSE NEIGHBOUR: 'it returns false'. Refute it at one input. -/
def spotTurnsWrong : ChangeSpec := { name := "spotTurns", fn := fun _ => fun
  | [d1, d2, d3] => { results := [.lit (.bool false)], args := [d1, d2, d3] }
  | _ => none }
def SpotTurnsWrongFalsely : Prop := spotTurnsRow.holds Tryz.pinned (OpenSpec.ofChange spotTurnsWrong)

/-- 'frisketlaw05.SpotGrids': WHATEVER THE INPUT: true; the input reads as it did. -/
def spotGridsSpec : ChangeSpec := { name := "spotGrids", fn := fun _ => fun
  | [d1, d2] => { results := [.lit (.bool true)], args := [d1, d2] }
  | _ => none }
def spotGridsRow : OpenClaim := { program := "ytpglnfccmhkocaagreat", sum := "e74e1b0a7069608b886a9c81d0963b523796e9f1edd8e2aeb96d85ee25528ce5", func := "frisket/frisketlaw05.SpotGrids", spec := "spotGrids", unfollowed := true, recurses := true, apart := false }
def SpotGridsSaid : Prop := spotGridsRow.holds Tryz.pinned (OpenSpec.ofChange spotGridsSpec)

/-- ITS FALSE NEIGHBOUR: 'it returns false'. Refute it at one input. -/
def spotGridsWrong : ChangeSpec := { name := "spotGrids", fn := fun _ => fun
  | [d1, d2] => { results := [.lit (.bool false)], args := [d1, d2] }
  | _ => none }
def SpotGridsWrongFalsely : Prop := spotGridsRow.holds Tryz.pinned (OpenSpec.ofChange spotGridsWrong)

/-- 'frisketlaw05.SpotWays': WHATEVER THE INPUT: true; the input reads as it did. -/
def spotWaysSpec : ChangeSpec := { name := "spotWays", fn := fun _ => fun
  | [d1, d2, d3] => { results := [.lit (.bool true)], args := [d1, d2, d3] }
  | _ => none }
def spotWaysRow : OpenClaim := { program := "ytpglnfccmhkocaagreat", sum := "e74e1b0a7069608b886a9c81d0963b523796e9f1edd8e2aeb96d85ee25528ce5", func := "frisket/frisketlaw05.SpotWays", spec := "spotWays", unfollowed := true, recurses := true, apart := false }
def SpotWaysSaid : Prop := spotWaysRow.holds Tryz.pinned (OpenSpec.ofChange spotWaysSpec)

/-- ITS FALSE NEIGHBOUR: 'it returns false'. Refute it at one input. -/
def spotWaysWrong : ChangeSpec := { name := "spotWays", fn := fun _ => fun
  | [d1, d2, d3] => { results := [.lit (.bool false)], args := [d1, d2, d3] }
  | _ => none }
def SpotWaysWrongFalsely : Prop := spotWaysRow.holds Tryz.pinned (OpenSpec.ofChange spotWaysWrong)

/-- 'frisketlaw17.CrossMeets': WHATEVER THE INPUT: true; the input reads as it did. -/
def crossMeetsSpec : ChangeSpec := { name := "crossMeets", fn := fun _ => fun
  | [d1, d2] => { results := [.lit (.bool true)], args := [d1, d2] }
  | _ => none }
def crossMeetsRow : OpenClaim := { program := "ytpglnfccmhkocaagreat", sum := "e74e1b0a7069608b886a9c81d0963b523796e9f1edd8e2aeb96d85ee25528ce5", func := "frisket/frisketlaw17.CrossMeets", spec := "crossMeets", unfollowed := true, recurses := true, apart := false }
def CrossMeetsSaid : Prop := crossMeetsRow.holds Tryz.pinned (OpenSpec.ofChange crossMeetsSpec)

/-- ITS FALSE NEIGHBOUR: 'it returns false'. Refute it at one input. -/
def crossMeetsWrong : ChangeSpec := { name := "crossMeets", fn := fun _ => fun
  | [d1, d2] => { results := [.lit (.bool false)], args := [d1, d2] }
  | _ => none }
def CrossMeetsWrongFalsely : Prop := crossMeetsRow.holds Tryz.pinned (OpenSpec.ofChange crossMeetsWrong)

/-- 'frisketlaw05.SpotRows': WHATEVER THE INPUT: true; the input reads as it did. -/
def spotRowsSpec : ChangeSpec := { name := "spotRows", fn := fun _ => fun
  | [d] => { results := [.lit (.bool true)], args := [d] }
  | _ => none }
def spotRowsRow : OpenClaim := { program := "ytpglnfccmhkocaagreat", sum := "e74e1b0a7069608b886a9c81d0963b523796e9f1edd8e2aeb96d85ee25528ce5", func := "frisket/frisketlaw05.SpotRows", spec := "spotRows", unfollowed := true, recurses := true, apart := false }
def SpotRowsSaid : Prop := spotRowsRow.holds Tryz.pinned (OpenSpec.ofChange spotRowsSpec)

/-- ITS FALSE NEIGHBOUR: 'it returns false'. Refute it at one input. -/
def spotRowsWrong : ChangeSpec := { name := "spotRows", fn := fun _ => fun
  | [d] => { results := [.lit (.bool false)], args := [d] }
  | _ => none }
def SpotRowsWrongFalsely : Prop := spotRowsRow.holds Tryz.pinned (OpenSpec.ofChange spotRowsWrong)

/- THE SECOND FORM. 'bulk': how many values and letters a reading holds, each counted each time it is reached (what is shared counts as often as it is met; a slice's spare places count too). A statement '..UptoSaid' is the law's where the arguments, and the package variables that the reading takes, are together of bulk at most 1048576: NARROWER than '..Said'. Prove '..Said' where nothing that the law and all that it calls make is longer than what came in: it says more and counts as full. Else prove '..UptoSaid'. A law counts once. -/
mutual
def uptoBulk {H : Type} : DataW H → Nat
  | .lit (.string bytes) => bytes.length + 1
  | .lit _ => 1
  | .nil => 1
  | .ptr d => uptoBulk d + 1
  | .slice elems spare => uptoBulkAll elems + uptoBulkAll spare + 1
  | .agg parts => uptoBulkAll parts + 1
  | .iface _ d => uptoBulk d + 1
  | .map entries => uptoBulkEntries entries + 1
  | .held _ => 1
def uptoBulkAll {H : Type} : List (DataW H) → Nat
  | [] => 0
  | d :: r => uptoBulk d + uptoBulkAll r
def uptoBulkEntries {H : Type} : List (Lit × DataW H) → Nat
  | [] => 0
  | x :: r => uptoBulkEntry x + uptoBulkEntries r
def uptoBulkEntry {H : Type} : Lit × DataW H → Nat
  | (.string bytes, d) => bytes.length + uptoBulk d + 1
  | (_, d) => uptoBulk d + 1
 end
def uptoSmall : (H : Type) → List (DataW H) → Bool := fun _ ds => decide (uptoBulkAll ds ≤ 1048576)
def OpenSpec.upto (s : _root_.Go.ChangeSpec) : _root_.Go.OpenSpec := { _root_.Go.OpenSpec.ofChange s with cond := some uptoSmall }

/-- 'frisketlaw05.SpotTurns', WHERE WHAT IT READS IS OF BULK AT MOST 1048576: true; the input reads as it did. -/
def spotTurnsUptoRow : OpenClaim := { program := "ytpglnfccmhkocaagreat", sum := "e74e1b0a7069608b886a9c81d0963b523796e9f1edd8e2aeb96d85ee25528ce5", func := "frisket/frisketlaw05.SpotTurns", spec := "spotTurns", unfollowed := true, recurses := true, apart := false, narrowed := true }
def SpotTurnsUptoSaid : Prop := spotTurnsUptoRow.holds Tryz.pinned (OpenSpec.upto spotTurnsSpec)

/-- 'frisketlaw05.SpotGrids', WHERE WHAT IT READS IS OF BULK AT MOST 1048576: true; the input reads as it did. -/
def spotGridsUptoRow : OpenClaim := { program := "ytpglnfccmhkocaagreat", sum := "e74e1b0a7069608b886a9c81d0963b523796e9f1edd8e2aeb96d85ee25528ce5", func := "frisket/frisketlaw05.SpotGrids", spec := "spotGrids", unfollowed := true, recurses := true, apart := false, narrowed := true }
def SpotGridsUptoSaid : Prop := spotGridsUptoRow.holds Tryz.pinned (OpenSpec.upto spotGridsSpec)

/-- 'frisketlaw05.SpotWays', WHERE WHAT IT READS IS OF BULK AT MOST 1048576: true; the input reads as it did. -/
def spotWaysUptoRow : OpenClaim := { program := "ytpglnfccmhkocaagreat", sum := "e74e1b0a7069608b886a9c81d0963b523796e9f1edd8e2aeb96d85ee25528ce5", func := "frisket/frisketlaw05.SpotWays", spec := "spotWays", unfollowed := true, recurses := true, apart := false, narrowed := true }
def SpotWaysUptoSaid : Prop := spotWaysUptoRow.holds Tryz.pinned (OpenSpec.upto spotWaysSpec)

/-- 'frisketlaw17.CrossMeets', WHERE WHAT IT READS IS OF BULK AT MOST 1048576: true; the input reads as it did. -/
def crossMeetsUptoRow : OpenClaim := { program := "ytpglnfccmhkocaagreat", sum := "e74e1b0a7069608b886a9c81d0963b523796e9f1edd8e2aeb96d85ee25528ce5", func := "frisket/frisketlaw17.CrossMeets", spec := "crossMeets", unfollowed := true, recurses := true, apart := false, narrowed := true }
def CrossMeetsUptoSaid : Prop := crossMeetsUptoRow.holds Tryz.pinned (OpenSpec.upto crossMeetsSpec)

/-- 'frisketlaw05.SpotRows', WHERE WHAT IT READS IS OF BULK AT MOST 1048576: true; the input reads as it did. -/
def spotRowsUptoRow : OpenClaim := { program := "ytpglnfccmhkocaagreat", sum := "e74e1b0a7069608b886a9c81d0963b523796e9f1edd8e2aeb96d85ee25528ce5", func := "frisket/frisketlaw05.SpotRows", spec := "spotRows", unfollowed := true, recurses := true, apart := false, narrowed := true }
def SpotRowsUptoSaid : Prop := spotRowsUptoRow.holds Tryz.pinned (OpenSpec.upto spotRowsSpec)

end Rows
end Go.Proofs.YtpglnfccmhkocaaGreat
