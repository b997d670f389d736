/-
  No cell of these rows narrows 'for every input' (looked for: loops, veiled, ifaces, maps, wideKeys, modest, calm, conditions, laid).
  DERIVED. THE GIVEN ROWS OF THIS SEAT. 3 by the template 'for every input the law returns true; each argument reads behind the call as it read before'; 0 by the template 'total and deterministic' (their statements: YthhgogpglocjdaaGreatTotals.lean).
  GIVEN WITH THE SEED: the statements are not yours to turn. If you find one false, say at which input.
  Laid BY PROGRAM, IN A SANDBOX (cutbox-rows.mjs): the forced cells as the released guide's own fill.sh prints them over the translation 068f7ef88d5b0edc… (all of the seat's roots in one cut). By AI agents, Wed Nov 11 2026. No macro, syntax, notation, axiom, sorry.
-/
import Derived.Test.YthhgogpglocjdaaGreatChecked
import GoSem.Claim
import GoSem.ClaimJoined
import GoSem.ClaimMapViews
import Derived.JoinedTies
import Derived.KernelRfl
namespace Go.Proofs.YthhgogpglocjdaaGreat
/- THE CELL 'sum', in the pinned program and in every row, IS THE sha256 OF THE DUMP (.gsa) THAT YthhgogpglocjdaaGreatProg.lean LOADS. Nothing in Lean hashes anything: it is a label: what it is worth is what the hold of that sum in a sandbox is worth. -/
noncomputable def Tryz.pinned : Pinned := { name := "ythhgogpglocjdaagreat", sum := "068f7ef88d5b0edc3d7f318580b3655c1b2497f29e6f7aed648cba0a1439acf8", checked := Tryz.checked }
namespace Rows
def none {H : Type} : Left H := { results := [], args := [] }

/-- 'frisketlaw17.CrossMeets': WHATEVER THE INPUT: true; the input reads as it did. -/
def crossMeetsSpec : ChangeSpec := { name := "crossMeets", fn := fun _ => fun
  | [d1, d2] => { results := [.lit (.bool true)], args := [d1, d2] }
  | _ => none }
def crossMeetsRow : OpenClaim := { program := "ythhgogpglocjdaagreat", sum := "068f7ef88d5b0edc3d7f318580b3655c1b2497f29e6f7aed648cba0a1439acf8", func := "frisket/frisketlaw17.CrossMeets", spec := "crossMeets", unfollowed := true, recurses := true, apart := false }
def CrossMeetsSaid : Prop := crossMeetsRow.holds Tryz.pinned (OpenSpec.ofChange crossMeetsSpec)

/-- ITS FALSE NEIGHBOUR: 'it returns false'. Refute it at one input. -/
def crossMeetsWrong : ChangeSpec := { name := "crossMeets", fn := fun _ => fun
  | [d1, d2] => { results := [.lit (.bool false)], args := [d1, d2] }
  | _ => none }
def CrossMeetsWrongFalsely : Prop := crossMeetsRow.holds Tryz.pinned (OpenSpec.ofChange crossMeetsWrong)

/-- 'frisketlaw05.SpotRows': WHATEVER THE INPUT: true; the input reads as it did. -/
def spotRowsSpec : ChangeSpec := { name := "spotRows", fn := fun _ => fun
  | [d] => { results := [.lit (.bool true)], args := [d] }
  | _ => none }
def spotRowsRow : OpenClaim := { program := "ythhgogpglocjdaagreat", sum := "068f7ef88d5b0edc3d7f318580b3655c1b2497f29e6f7aed648cba0a1439acf8", func := "frisket/frisketlaw05.SpotRows", spec := "spotRows", unfollowed := true, recurses := true, apart := false }
def SpotRowsSaid : Prop := spotRowsRow.holds Tryz.pinned (OpenSpec.ofChange spotRowsSpec)

/-- ITS FALSE NEIGHBOUR: 'it returns false'. Refute it at one input. -/
def spotRowsWrong : ChangeSpec := { name := "spotRows", fn := fun _ => fun
  | [d] => { results := [.lit (.bool false)], args := [d] }
  | _ => none }
def SpotRowsWrongFalsely : Prop := spotRowsRow.holds Tryz.pinned (OpenSpec.ofChange spotRowsWrong)

/-- 'frisketlaw17.CrossCuts': WHATEVER THE INPUT: true; the input reads as it did. -/
def crossCutsSpec : ChangeSpec := { name := "crossCuts", fn := fun _ => fun
  | [d1, d2] => { results := [.lit (.bool true)], args := [d1, d2] }
  | _ => none }
def crossCutsRow : OpenClaim := { program := "ythhgogpglocjdaagreat", sum := "068f7ef88d5b0edc3d7f318580b3655c1b2497f29e6f7aed648cba0a1439acf8", func := "frisket/frisketlaw17.CrossCuts", spec := "crossCuts", unfollowed := true, recurses := true, apart := false }
def CrossCutsSaid : Prop := crossCutsRow.holds Tryz.pinned (OpenSpec.ofChange crossCutsSpec)

/-- ITS FALSE NEIGHBOUR: 'it returns false'. Refute it at one input. -/
def crossCutsWrong : ChangeSpec := { name := "crossCuts", fn := fun _ => fun
  | [d1, d2] => { results := [.lit (.bool false)], args := [d1, d2] }
  | _ => none }
def CrossCutsWrongFalsely : Prop := crossCutsRow.holds Tryz.pinned (OpenSpec.ofChange crossCutsWrong)

/- THE SECOND FORM. 'bulk': how many values and letters a reading holds, each counted each time it is reached (what is shared counts as often as it is met; a slice's spare places count too). A statement '..UptoSaid' is the law's where the arguments, and the package variables that the reading takes, are together of bulk at most 1048576: NARROWER than '..Said'. Prove '..Said' where nothing that the law and all that it calls make is longer than what came in: it says more and counts as full. Else prove '..UptoSaid'. A law counts once. -/
mutual
def uptoBulk {H : Type} : DataW H → Nat
  | .lit (.string bytes) => bytes.length + 1
  | .lit _ => 1
  | .nil => 1
  | .ptr d => uptoBulk d + 1
  | .slice elems spare => uptoBulkAll elems + uptoBulkAll spare + 1
  | .agg parts => uptoBulkAll parts + 1
  | .iface _ d => uptoBulk d + 1
  | .map entries => uptoBulkEntries entries + 1
  | .held _ => 1
def uptoBulkAll {H : Type} : List (DataW H) → Nat
  | [] => 0
  | d :: r => uptoBulk d + uptoBulkAll r
def uptoBulkEntries {H : Type} : List (Lit × DataW H) → Nat
  | [] => 0
  | x :: r => uptoBulkEntry x + uptoBulkEntries r
def uptoBulkEntry {H : Type} : Lit × DataW H → Nat
  | (.string bytes, d) => bytes.length + uptoBulk d + 1
  | (_, d) => uptoBulk d + 1
 end
def uptoSmall : (H : Type) → List (DataW H) → Bool := fun _ ds => decide (uptoBulkAll ds ≤ 1048576)
def OpenSpec.upto (s : _root_.Go.ChangeSpec) : _root_.Go.OpenSpec := { _root_.Go.OpenSpec.ofChange s with cond := some uptoSmall }

/-- 'frisketlaw17.CrossMeets', WHERE WHAT IT READS IS OF BULK AT MOST 1048576: true; the input reads as it did. -/
def crossMeetsUptoRow : OpenClaim := { program := "ythhgogpglocjdaagreat", sum := "068f7ef88d5b0edc3d7f318580b3655c1b2497f29e6f7aed648cba0a1439acf8", func := "frisket/frisketlaw17.CrossMeets", spec := "crossMeets", unfollowed := true, recurses := true, apart := false, narrowed := true }
def CrossMeetsUptoSaid : Prop := crossMeetsUptoRow.holds Tryz.pinned (OpenSpec.upto crossMeetsSpec)

/-- 'frisketlaw05.SpotRows', WHERE WHAT IT READS IS OF BULK AT MOST 1048576: true; the input reads as it did. -/
def spotRowsUptoRow : OpenClaim := { program := "ythhgogpglocjdaagreat", sum := "068f7ef88d5b0edc3d7f318580b3655c1b2497f29e6f7aed648cba0a1439acf8", func := "frisket/frisketlaw05.SpotRows", spec := "spotRows", unfollowed := true, recurses := true, apart := false, narrowed := true }
def SpotRowsUptoSaid : Prop := spotRowsUptoRow.holds Tryz.pinned (OpenSpec.upto spotRowsSpec)

/-- 'frisketlaw17.CrossCuts', WHERE WHAT IT READS IS OF BULK AT MOST 1048576: true; the input reads as it did. -/
def crossCutsUptoRow : OpenClaim := { program := "ythhgogpglocjdaagreat", sum := "068f7ef88d5b0edc3d7f318580b3655c1b2497f29e6f7aed648cba0a1439acf8", func := "frisket/frisketlaw17.CrossCuts", spec := "crossCuts", unfollowed := true, recurses := true, apart := false, narrowed := true }
def CrossCutsUptoSaid : Prop := crossCutsUptoRow.holds Tryz.pinned (OpenSpec.upto crossCutsSpec)

end Rows
end Go.Proofs.YthhgogpglocjdaaGreat
