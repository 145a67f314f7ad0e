/-
  No cell of these rows narrows 'for every input' (looked for: loops, veiled, ifaces, maps, wideKeys, modest, calm, conditions, laid).
  DERIVED. THE GIVEN ROWS OF THIS SEAT. 4 by the template 'for every input the law returns true; each argument reads behind the call as it read before'; 0 by the template 'total and deterministic' (their statements: YtlcghmfkgblheaaTotals.lean).
  GIVEN WITH THE SEED: the statements are not yours to turn. If you find one false, say at which input.
  Laid BY PROGRAM, IN A SANDBOX (cutbox-rows.mjs): the forced cells as the released guide's own fill.sh prints them over the translation 0e051fa7353cd0a3… (all of the seat's roots in one cut). By AI agents, Wed Nov 11 2026. No macro, syntax, notation, axiom, sorry.
-/
import Derived.Test.YtlcghmfkgblheaaChecked
import GoSem.Claim
import GoSem.ClaimJoined
import GoSem.ClaimMapViews
import Derived.JoinedTies
import Derived.KernelRfl
namespace Go.Proofs.Ytlcghmfkgblheaa
/- THE CELL 'sum', in the pinned program and in every row, IS THE sha256 OF THE DUMP (.gsa) THAT YtlcghmfkgblheaaProg.lean LOADS. Nothing in Lean hashes anything: it is a label: what it is worth is what the hold of that sum in a sandbox is worth. -/
noncomputable def Try.pinned : Pinned := { name := "ytlcghmfkgblheaa", sum := "0e051fa7353cd0a3f51b30896cdb2805e3dda9fd7bf26272c9b19ca9bf80fa47", checked := Try.checked }
namespace Rows
def none {H : Type} : Left H := { results := [], args := [] }

/-- 'tipstafflaw22.KeyHistory': WHATEVER THE INPUT: true; the input reads as it did. -/
def keyHistorySpec : ChangeSpec := { name := "keyHistory", fn := fun _ => fun
  | [d1, d2] => { results := [.lit (.bool true)], args := [d1, d2] }
  | _ => none }
def keyHistoryRow : OpenClaim := { program := "ytlcghmfkgblheaa", sum := "0e051fa7353cd0a3f51b30896cdb2805e3dda9fd7bf26272c9b19ca9bf80fa47", func := "tipstaff/tipstafflaw22.KeyHistory", spec := "keyHistory", unfollowed := true, recurses := true, apart := false }
def KeyHistorySaid : Prop := keyHistoryRow.holds Try.pinned (OpenSpec.ofChange keyHistorySpec)

/-- ITS FALSE NEIGHBOUR: 'it returns false'. Refute it at one input. -/
def keyHistoryWrong : ChangeSpec := { name := "keyHistory", fn := fun _ => fun
  | [d1, d2] => { results := [.lit (.bool false)], args := [d1, d2] }
  | _ => none }
def KeyHistoryWrongFalsely : Prop := keyHistoryRow.holds Try.pinned (OpenSpec.ofChange keyHistoryWrong)

/-- 'tipstafflaw22.KeyStretches': WHATEVER THE INPUT: true; the input reads as it did. -/
def keyStretchesSpec : ChangeSpec := { name := "keyStretches", fn := fun _ => fun
  | [d1, d2, d3] => { results := [.lit (.bool true)], args := [d1, d2, d3] }
  | _ => none }
def keyStretchesRow : OpenClaim := { program := "ytlcghmfkgblheaa", sum := "0e051fa7353cd0a3f51b30896cdb2805e3dda9fd7bf26272c9b19ca9bf80fa47", func := "tipstaff/tipstafflaw22.KeyStretches", spec := "keyStretches", unfollowed := true, recurses := true, apart := false }
def KeyStretchesSaid : Prop := keyStretchesRow.holds Try.pinned (OpenSpec.ofChange keyStretchesSpec)

/-- ITS FALSE NEIGHBOUR: 'it returns false'. Refute it at one input. -/
def keyStretchesWrong : ChangeSpec := { name := "keyStretches", fn := fun _ => fun
  | [d1, d2, d3] => { results := [.lit (.bool false)], args := [d1, d2, d3] }
  | _ => none }
def KeyStretchesWrongFalsely : Prop := keyStretchesRow.holds Try.pinned (OpenSpec.ofChange keyStretchesWrong)

/-- 'tipstafflaw22.KeyKnown': WHATEVER THE INPUT: true; the input reads as it did. -/
def keyKnownSpec : ChangeSpec := { name := "keyKnown", fn := fun _ => fun
  | [] => { results := [.lit (.bool true)], args := [] }
  | _ => none }
def keyKnownRow : OpenClaim := { program := "ytlcghmfkgblheaa", sum := "0e051fa7353cd0a3f51b30896cdb2805e3dda9fd7bf26272c9b19ca9bf80fa47", func := "tipstaff/tipstafflaw22.KeyKnown", spec := "keyKnown", unfollowed := true, recurses := true, apart := false }
def KeyKnownSaid : Prop := keyKnownRow.holds Try.pinned (OpenSpec.ofChange keyKnownSpec)

/-- ITS FALSE NEIGHBOUR: 'it returns false'. Refute it at one input. -/
def keyKnownWrong : ChangeSpec := { name := "keyKnown", fn := fun _ => fun
  | [] => { results := [.lit (.bool false)], args := [] }
  | _ => none }
def KeyKnownWrongFalsely : Prop := keyKnownRow.holds Try.pinned (OpenSpec.ofChange keyKnownWrong)

/-- 'tipstafflaw22.KeyShapes': WHATEVER THE INPUT: true; the input reads as it did. -/
def keyShapesSpec : ChangeSpec := { name := "keyShapes", fn := fun _ => fun
  | [d1, d2] => { results := [.lit (.bool true)], args := [d1, d2] }
  | _ => none }
def keyShapesRow : OpenClaim := { program := "ytlcghmfkgblheaa", sum := "0e051fa7353cd0a3f51b30896cdb2805e3dda9fd7bf26272c9b19ca9bf80fa47", func := "tipstaff/tipstafflaw22.KeyShapes", spec := "keyShapes", unfollowed := true, recurses := true, apart := false }
def KeyShapesSaid : Prop := keyShapesRow.holds Try.pinned (OpenSpec.ofChange keyShapesSpec)

/-- ITS FALSE NEIGHBOUR: 'it returns false'. Refute it at one input. -/
def keyShapesWrong : ChangeSpec := { name := "keyShapes", fn := fun _ => fun
  | [d1, d2] => { results := [.lit (.bool false)], args := [d1, d2] }
  | _ => none }
def KeyShapesWrongFalsely : Prop := keyShapesRow.holds Try.pinned (OpenSpec.ofChange keyShapesWrong)

/- THE SECOND FORM. 'bulk': how many values and letters a reading holds, each counted each time it is reached (what is shared counts as often as it is met; a slice's spare places count too). A statement '..UptoSaid' is the law's where the arguments, and the package variables that the reading takes, are together of bulk at most 1048576: NARROWER than '..Said'. Prove '..Said' where nothing that the law and all that it calls make is longer than what came in: it says more and counts as full. Else prove '..UptoSaid'. A law counts once. -/
mutual
def uptoBulk {H : Type} : DataW H → Nat
  | .lit (.string bytes) => bytes.length + 1
  | .lit _ => 1
  | .nil => 1
  | .ptr d => uptoBulk d + 1
  | .slice elems spare => uptoBulkAll elems + uptoBulkAll spare + 1
  | .agg parts => uptoBulkAll parts + 1
  | .iface _ d => uptoBulk d + 1
  | .map entries => uptoBulkEntries entries + 1
  | .held _ => 1
def uptoBulkAll {H : Type} : List (DataW H) → Nat
  | [] => 0
  | d :: r => uptoBulk d + uptoBulkAll r
def uptoBulkEntries {H : Type} : List (Lit × DataW H) → Nat
  | [] => 0
  | x :: r => uptoBulkEntry x + uptoBulkEntries r
def uptoBulkEntry {H : Type} : Lit × DataW H → Nat
  | (.string bytes, d) => bytes.length + uptoBulk d + 1
  | (_, d) => uptoBulk d + 1
 end
def uptoSmall : (H : Type) → List (DataW H) → Bool := fun _ ds => decide (uptoBulkAll ds ≤ 1048576)
def OpenSpec.upto (s : _root_.Go.ChangeSpec) : _root_.Go.OpenSpec := { _root_.Go.OpenSpec.ofChange s with cond := some uptoSmall }

/-- 'tipstafflaw22.KeyHistory', WHERE WHAT IT READS IS OF BULK AT MOST 1048576: true; the input reads as it did. -/
def keyHistoryUptoRow : OpenClaim := { program := "ytlcghmfkgblheaa", sum := "0e051fa7353cd0a3f51b30896cdb2805e3dda9fd7bf26272c9b19ca9bf80fa47", func := "tipstaff/tipstafflaw22.KeyHistory", spec := "keyHistory", unfollowed := true, recurses := true, apart := false, narrowed := true }
def KeyHistoryUptoSaid : Prop := keyHistoryUptoRow.holds Try.pinned (OpenSpec.upto keyHistorySpec)

/-- 'tipstafflaw22.KeyStretches', WHERE WHAT IT READS IS OF BULK AT MOST 1048576: true; the input reads as it did. -/
def keyStretchesUptoRow : OpenClaim := { program := "ytlcghmfkgblheaa", sum := "0e051fa7353cd0a3f51b30896cdb2805e3dda9fd7bf26272c9b19ca9bf80fa47", func := "tipstaff/tipstafflaw22.KeyStretches", spec := "keyStretches", unfollowed := true, recurses := true, apart := false, narrowed := true }
def KeyStretchesUptoSaid : Prop := keyStretchesUptoRow.holds Try.pinned (OpenSpec.upto keyStretchesSpec)

/-- 'tipstafflaw22.KeyKnown', WHERE WHAT IT READS IS OF BULK AT MOST 1048576: true; the input reads as it did. -/
def keyKnownUptoRow : OpenClaim := { program := "ytlcghmfkgblheaa", sum := "0e051fa7353cd0a3f51b30896cdb2805e3dda9fd7bf26272c9b19ca9bf80fa47", func := "tipstaff/tipstafflaw22.KeyKnown", spec := "keyKnown", unfollowed := true, recurses := true, apart := false, narrowed := true }
def KeyKnownUptoSaid : Prop := keyKnownUptoRow.holds Try.pinned (OpenSpec.upto keyKnownSpec)

/-- 'tipstafflaw22.KeyShapes', WHERE WHAT IT READS IS OF BULK AT MOST 1048576: true; the input reads as it did. -/
def keyShapesUptoRow : OpenClaim := { program := "ytlcghmfkgblheaa", sum := "0e051fa7353cd0a3f51b30896cdb2805e3dda9fd7bf26272c9b19ca9bf80fa47", func := "tipstaff/tipstafflaw22.KeyShapes", spec := "keyShapes", unfollowed := true, recurses := true, apart := false, narrowed := true }
def KeyShapesUptoSaid : Prop := keyShapesUptoRow.holds Try.pinned (OpenSpec.upto keyShapesSpec)

end Rows
end Go.Proofs.Ytlcghmfkgblheaa
