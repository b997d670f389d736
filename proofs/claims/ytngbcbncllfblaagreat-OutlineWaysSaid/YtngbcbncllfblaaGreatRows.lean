/-
  No cell of these rows narrows 'for every input' (looked for: loops, veiled, ifaces, maps, wideKeys, modest, calm, conditions, laid).
  DERIVED. THE GIVEN ROWS OF THIS SEAT. 6 by the template 'for every input the law returns true; each argument reads behind the call as it read before'; 0 by the template 'total and deterministic' (their statements: YtngbcbncllfblaaGreatTotals.lean).
  GIVEN WITH THE SEED: the statements are not yours to turn. If you find one false, say at which input.
  Laid BY PROGRAM, IN A SANDBOX (cutbox-rows.mjs): the forced cells as the released guide's own fill.sh prints them over the translation 10eb0307cf894d22… (all of the seat's roots in one cut). By AI agents, Wed Nov 11 2026. No macro, syntax, notation, axiom, sorry.
-/
import Derived.Test.YtngbcbncllfblaaGreatChecked
import GoSem.Claim
import GoSem.ClaimJoined
import GoSem.ClaimMapViews
import Derived.JoinedTies
import Derived.KernelRfl
namespace Go.Proofs.YtngbcbncllfblaaGreat
/- THE CELL 'sum', in the pinned program and in every row, IS THE sha256 OF THE DUMP (.gsa) THAT YtngbcbncllfblaaGreatProg.lean LOADS. Nothing in Lean hashes anything: it is a label: what it is worth is what the hold of that sum in a sandbox is worth. -/
noncomputable def Tryz.pinned : Pinned := { name := "ytngbcbncllfblaagreat", sum := "10eb0307cf894d224472aa8677b960c56ee6ddbc3933610a2abd848575843dfa", checked := Tryz.checked }
namespace Rows
def none {H : Type} : Left H := { results := [], args := [] }

/-- 'frisketlaw25.OutlineWays': WHATEVER THE INPUT: true; the input reads as it did. -/
def outlineWaysSpec : ChangeSpec := { name := "outlineWays", fn := fun _ => fun
  | [d1, d2, d3] => { results := [.lit (.bool true)], args := [d1, d2, d3] }
  | _ => none }
def outlineWaysRow : OpenClaim := { program := "ytngbcbncllfblaagreat", sum := "10eb0307cf894d224472aa8677b960c56ee6ddbc3933610a2abd848575843dfa", func := "frisket/frisketlaw25.OutlineWays", spec := "outlineWays", unfollowed := true, recurses := true, apart := false }
def OutlineWaysSaid : Prop := outlineWaysRow.holds Tryz.pinned (OpenSpec.ofChange outlineWaysSpec)

/-- ITS FALSE NEIGHBOUR: 'it returns false'. Refute it at one input. -/
def outlineWaysWrong : ChangeSpec := { name := "outlineWays", fn := fun _ => fun
  | [d1, d2, d3] => { results := [.lit (.bool false)], args := [d1, d2, d3] }
  | _ => none }
def OutlineWaysWrongFalsely : Prop := outlineWaysRow.holds Tryz.pinned (OpenSpec.ofChange outlineWaysWrong)

/-- 'frisketlaw45.ProbeAt': WHATEVER THE INPUT: true; the input reads as it did. -/
def probeAtSpec : ChangeSpec := { name := "probeAt", fn := fun _ => fun
  | [d1, d2] => { results := [.lit (.bool true)], args := [d1, d2] }
  | _ => none }
def probeAtRow : OpenClaim := { program := "ytngbcbncllfblaagreat", sum := "10eb0307cf894d224472aa8677b960c56ee6ddbc3933610a2abd848575843dfa", func := "frisket/frisketlaw45.ProbeAt", spec := "probeAt", unfollowed := true, recurses := true, apart := false }
def ProbeAtSaid : Prop := probeAtRow.holds Tryz.pinned (OpenSpec.ofChange probeAtSpec)

/-- ITS FALSE NEIGHBOUR: 'it returns false'. Refute it at one input. -/
def probeAtWrong : ChangeSpec := { name := "probeAt", fn := fun _ => fun
  | [d1, d2] => { results := [.lit (.bool false)], args := [d1, d2] }
  | _ => none }
def ProbeAtWrongFalsely : Prop := probeAtRow.holds Tryz.pinned (OpenSpec.ofChange probeAtWrong)

/-- 'frisketlaw20.RegionAnys': WHATEVER THE INPUT: true; the input reads as it did. -/
def regionAnysSpec : ChangeSpec := { name := "regionAnys", fn := fun _ => fun
  | [d] => { results := [.lit (.bool true)], args := [d] }
  | _ => none }
def regionAnysRow : OpenClaim := { program := "ytngbcbncllfblaagreat", sum := "10eb0307cf894d224472aa8677b960c56ee6ddbc3933610a2abd848575843dfa", func := "frisket/frisketlaw20.RegionAnys", spec := "regionAnys", unfollowed := true, recurses := true, apart := false }
def RegionAnysSaid : Prop := regionAnysRow.holds Tryz.pinned (OpenSpec.ofChange regionAnysSpec)

/-- ITS FALSE NEIGHBOUR: 'it returns false'. Refute it at one input. -/
def regionAnysWrong : ChangeSpec := { name := "regionAnys", fn := fun _ => fun
  | [d] => { results := [.lit (.bool false)], args := [d] }
  | _ => none }
def RegionAnysWrongFalsely : Prop := regionAnysRow.holds Tryz.pinned (OpenSpec.ofChange regionAnysWrong)

/-- 'frisketlaw20.RegionTells': WHATEVER THE INPUT: true; the input reads as it did. -/
def regionTellsSpec : ChangeSpec := { name := "regionTells", fn := fun _ => fun
  | [d1, d2] => { results := [.lit (.bool true)], args := [d1, d2] }
  | _ => none }
def regionTellsRow : OpenClaim := { program := "ytngbcbncllfblaagreat", sum := "10eb0307cf894d224472aa8677b960c56ee6ddbc3933610a2abd848575843dfa", func := "frisket/frisketlaw20.RegionTells", spec := "regionTells", unfollowed := true, recurses := true, apart := false }
def RegionTellsSaid : Prop := regionTellsRow.holds Tryz.pinned (OpenSpec.ofChange regionTellsSpec)

/-- ITS FALSE NEIGHBOUR: 'it returns false'. Refute it at one input. -/
def regionTellsWrong : ChangeSpec := { name := "regionTells", fn := fun _ => fun
  | [d1, d2] => { results := [.lit (.bool false)], args := [d1, d2] }
  | _ => none }
def RegionTellsWrongFalsely : Prop := regionTellsRow.holds Tryz.pinned (OpenSpec.ofChange regionTellsWrong)

/-- 'frisketlaw20.RegionBacks': WHATEVER THE INPUT: true; the input reads as it did. -/
def regionBacksSpec : ChangeSpec := { name := "regionBacks", fn := fun _ => fun
  | [d1, d2] => { results := [.lit (.bool true)], args := [d1, d2] }
  | _ => none }
def regionBacksRow : OpenClaim := { program := "ytngbcbncllfblaagreat", sum := "10eb0307cf894d224472aa8677b960c56ee6ddbc3933610a2abd848575843dfa", func := "frisket/frisketlaw20.RegionBacks", spec := "regionBacks", unfollowed := true, recurses := true, apart := false }
def RegionBacksSaid : Prop := regionBacksRow.holds Tryz.pinned (OpenSpec.ofChange regionBacksSpec)

/-- ITS FALSE NEIGHBOUR: 'it returns false'. Refute it at one input. -/
def regionBacksWrong : ChangeSpec := { name := "regionBacks", fn := fun _ => fun
  | [d1, d2] => { results := [.lit (.bool false)], args := [d1, d2] }
  | _ => none }
def RegionBacksWrongFalsely : Prop := regionBacksRow.holds Tryz.pinned (OpenSpec.ofChange regionBacksWrong)

/-- 'frisketlaw21.InsideAt': WHATEVER THE INPUT: true; the input reads as it did. -/
def insideAtSpec : ChangeSpec := { name := "insideAt", fn := fun _ => fun
  | [d1, d2] => { results := [.lit (.bool true)], args := [d1, d2] }
  | _ => none }
def insideAtRow : OpenClaim := { program := "ytngbcbncllfblaagreat", sum := "10eb0307cf894d224472aa8677b960c56ee6ddbc3933610a2abd848575843dfa", func := "frisket/frisketlaw21.InsideAt", spec := "insideAt", unfollowed := true, recurses := true, apart := false }
def InsideAtSaid : Prop := insideAtRow.holds Tryz.pinned (OpenSpec.ofChange insideAtSpec)

/-- ITS FALSE NEIGHBOUR: 'it returns false'. Refute it at one input. -/
def insideAtWrong : ChangeSpec := { name := "insideAt", fn := fun _ => fun
  | [d1, d2] => { results := [.lit (.bool false)], args := [d1, d2] }
  | _ => none }
def InsideAtWrongFalsely : Prop := insideAtRow.holds Tryz.pinned (OpenSpec.ofChange insideAtWrong)

/- THE SECOND FORM. 'bulk': how many values and letters a reading holds, each counted each time it is reached (what is shared counts as often as it is met; a slice's spare places count too). A statement '..UptoSaid' is the law's where the arguments, and the package variables that the reading takes, are together of bulk at most 1048576: NARROWER than '..Said'. Prove '..Said' where nothing that the law and all that it calls make is longer than what came in: it says more and counts as full. Else prove '..UptoSaid'. A law counts once. -/
mutual
def uptoBulk {H : Type} : DataW H → Nat
  | .lit (.string bytes) => bytes.length + 1
  | .lit _ => 1
  | .nil => 1
  | .ptr d => uptoBulk d + 1
  | .slice elems spare => uptoBulkAll elems + uptoBulkAll spare + 1
  | .agg parts => uptoBulkAll parts + 1
  | .iface _ d => uptoBulk d + 1
  | .map entries => uptoBulkEntries entries + 1
  | .held _ => 1
def uptoBulkAll {H : Type} : List (DataW H) → Nat
  | [] => 0
  | d :: r => uptoBulk d + uptoBulkAll r
def uptoBulkEntries {H : Type} : List (Lit × DataW H) → Nat
  | [] => 0
  | x :: r => uptoBulkEntry x + uptoBulkEntries r
def uptoBulkEntry {H : Type} : Lit × DataW H → Nat
  | (.string bytes, d) => bytes.length + uptoBulk d + 1
  | (_, d) => uptoBulk d + 1
 end
def uptoSmall : (H : Type) → List (DataW H) → Bool := fun _ ds => decide (uptoBulkAll ds ≤ 1048576)
def OpenSpec.upto (s : _root_.Go.ChangeSpec) : _root_.Go.OpenSpec := { _root_.Go.OpenSpec.ofChange s with cond := some uptoSmall }

/-- 'frisketlaw25.OutlineWays', WHERE WHAT IT READS IS OF BULK AT MOST 1048576: true; the input reads as it did. -/
def outlineWaysUptoRow : OpenClaim := { program := "ytngbcbncllfblaagreat", sum := "10eb0307cf894d224472aa8677b960c56ee6ddbc3933610a2abd848575843dfa", func := "frisket/frisketlaw25.OutlineWays", spec := "outlineWays", unfollowed := true, recurses := true, apart := false, narrowed := true }
def OutlineWaysUptoSaid : Prop := outlineWaysUptoRow.holds Tryz.pinned (OpenSpec.upto outlineWaysSpec)

/-- 'frisketlaw45.ProbeAt', WHERE WHAT IT READS IS OF BULK AT MOST 1048576: true; the input reads as it did. -/
def probeAtUptoRow : OpenClaim := { program := "ytngbcbncllfblaagreat", sum := "10eb0307cf894d224472aa8677b960c56ee6ddbc3933610a2abd848575843dfa", func := "frisket/frisketlaw45.ProbeAt", spec := "probeAt", unfollowed := true, recurses := true, apart := false, narrowed := true }
def ProbeAtUptoSaid : Prop := probeAtUptoRow.holds Tryz.pinned (OpenSpec.upto probeAtSpec)

/-- 'frisketlaw20.RegionAnys', WHERE WHAT IT READS IS OF BULK AT MOST 1048576: true; the input reads as it did. -/
def regionAnysUptoRow : OpenClaim := { program := "ytngbcbncllfblaagreat", sum := "10eb0307cf894d224472aa8677b960c56ee6ddbc3933610a2abd848575843dfa", func := "frisket/frisketlaw20.RegionAnys", spec := "regionAnys", unfollowed := true, recurses := true, apart := false, narrowed := true }
def RegionAnysUptoSaid : Prop := regionAnysUptoRow.holds Tryz.pinned (OpenSpec.upto regionAnysSpec)

/-- 'frisketlaw20.RegionTells', WHERE WHAT IT READS IS OF BULK AT MOST 1048576: true; the input reads as it did. -/
def regionTellsUptoRow : OpenClaim := { program := "ytngbcbncllfblaagreat", sum := "10eb0307cf894d224472aa8677b960c56ee6ddbc3933610a2abd848575843dfa", func := "frisket/frisketlaw20.RegionTells", spec := "regionTells", unfollowed := true, recurses := true, apart := false, narrowed := true }
def RegionTellsUptoSaid : Prop := regionTellsUptoRow.holds Tryz.pinned (OpenSpec.upto regionTellsSpec)

/-- 'frisketlaw20.RegionBacks', WHERE WHAT IT READS IS OF BULK AT MOST 1048576: true; the input reads as it did. -/
def regionBacksUptoRow : OpenClaim := { program := "ytngbcbncllfblaagreat", sum := "10eb0307cf894d224472aa8677b960c56ee6ddbc3933610a2abd848575843dfa", func := "frisket/frisketlaw20.RegionBacks", spec := "regionBacks", unfollowed := true, recurses := true, apart := false, narrowed := true }
def RegionBacksUptoSaid : Prop := regionBacksUptoRow.holds Tryz.pinned (OpenSpec.upto regionBacksSpec)

/-- 'frisketlaw21.InsideAt', WHERE WHAT IT READS IS OF BULK AT MOST 1048576: true; the input reads as it did. -/
def insideAtUptoRow : OpenClaim := { program := "ytngbcbncllfblaagreat", sum := "10eb0307cf894d224472aa8677b960c56ee6ddbc3933610a2abd848575843dfa", func := "frisket/frisketlaw21.InsideAt", spec := "insideAt", unfollowed := true, recurses := true, apart := false, narrowed := true }
def InsideAtUptoSaid : Prop := insideAtUptoRow.holds Tryz.pinned (OpenSpec.upto insideAtSpec)

end Rows
end Go.Proofs.YtngbcbncllfblaaGreat
