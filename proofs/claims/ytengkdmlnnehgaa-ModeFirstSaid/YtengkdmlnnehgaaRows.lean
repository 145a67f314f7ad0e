/-
  No cell of these rows narrows 'for every input' (looked for: loops, veiled, ifaces, maps, wideKeys, modest, calm, conditions, laid).
  DERIVED. THE GIVEN ROWS OF THIS SEAT. 7 by the template 'for every input the law returns true; each argument reads behind the call as it read before'; 0 by the template 'total and deterministic' (their statements: YtengkdmlnnehgaaTotals.lean).
  GIVEN WITH THE SEED: the statements are not yours to turn. If you find one false, say at which input.
  Laid BY PROGRAM, IN A SANDBOX (cutbox-rows.mjs): the forced cells as the released guide's own fill.sh prints them over the translation cdcb639edfe3eeec… (all of the seat's roots in one cut). By AI agents, Wed Nov 11 2026. No macro, syntax, notation, axiom, sorry.
-/
import Derived.Test.YtengkdmlnnehgaaChecked
import GoSem.Claim
import GoSem.ClaimJoined
import GoSem.ClaimMapViews
import Derived.JoinedTies
import Derived.KernelRfl
namespace Go.Proofs.Ytengkdmlnnehgaa
/- THE CELL 'sum', in the pinned program and in every row, IS THE sha256 OF THE DUMP (.gsa) THAT YtengkdmlnnehgaaProg.lean LOADS. Nothing in Lean hashes anything: it is a label: what it is worth is what the hold of that sum in a sandbox is worth. -/
noncomputable def Try.pinned : Pinned := { name := "ytengkdmlnnehgaa", sum := "cdcb639edfe3eeec17f34608e63a395f83d899b5a864addcb689f03be7f94211", checked := Try.checked }
namespace Rows
def none {H : Type} : Left H := { results := [], args := [] }

/-- 'tipstafflaw23.ModeAllows': WHATEVER THE INPUT: true; the input reads as it did. -/
def modeAllowsSpec : ChangeSpec := { name := "modeAllows", fn := fun _ => fun
  | [d1, d2, d3] => { results := [.lit (.bool true)], args := [d1, d2, d3] }
  | _ => none }
def modeAllowsRow : OpenClaim := { program := "ytengkdmlnnehgaa", sum := "cdcb639edfe3eeec17f34608e63a395f83d899b5a864addcb689f03be7f94211", func := "tipstaff/tipstafflaw23.ModeAllows", spec := "modeAllows", inPlace := ["internal/abi.NoEscape"], apart := false }
def ModeAllowsSaid : Prop := modeAllowsRow.holds Try.pinned (OpenSpec.ofChange modeAllowsSpec)

/-- ITS FALSE NEIGHBOUR: 'it returns false'. Refute it at one input. -/
def modeAllowsWrong : ChangeSpec := { name := "modeAllows", fn := fun _ => fun
  | [d1, d2, d3] => { results := [.lit (.bool false)], args := [d1, d2, d3] }
  | _ => none }
def ModeAllowsWrongFalsely : Prop := modeAllowsRow.holds Try.pinned (OpenSpec.ofChange modeAllowsWrong)

/-- 'tipstafflaw23.ModeSets': WHATEVER THE INPUT: true; the input reads as it did. -/
def modeSetsSpec : ChangeSpec := { name := "modeSets", fn := fun _ => fun
  | [d1, d2, d3, d4] => { results := [.lit (.bool true)], args := [d1, d2, d3, d4] }
  | _ => none }
def modeSetsRow : OpenClaim := { program := "ytengkdmlnnehgaa", sum := "cdcb639edfe3eeec17f34608e63a395f83d899b5a864addcb689f03be7f94211", func := "tipstaff/tipstafflaw23.ModeSets", spec := "modeSets", inPlace := ["internal/abi.NoEscape"], apart := false }
def ModeSetsSaid : Prop := modeSetsRow.holds Try.pinned (OpenSpec.ofChange modeSetsSpec)

/-- ITS FALSE NEIGHBOUR: 'it returns false'. Refute it at one input. -/
def modeSetsWrong : ChangeSpec := { name := "modeSets", fn := fun _ => fun
  | [d1, d2, d3, d4] => { results := [.lit (.bool false)], args := [d1, d2, d3, d4] }
  | _ => none }
def ModeSetsWrongFalsely : Prop := modeSetsRow.holds Try.pinned (OpenSpec.ofChange modeSetsWrong)

/-- 'tipstafflaw23.ModeParses': WHATEVER THE INPUT: true; the input reads as it did. -/
def modeParsesSpec : ChangeSpec := { name := "modeParses", fn := fun _ => fun
  | [d] => { results := [.lit (.bool true)], args := [d] }
  | _ => none }
def modeParsesRow : OpenClaim := { program := "ytengkdmlnnehgaa", sum := "cdcb639edfe3eeec17f34608e63a395f83d899b5a864addcb689f03be7f94211", func := "tipstaff/tipstafflaw23.ModeParses", spec := "modeParses", inPlace := ["internal/abi.NoEscape", "internal/bytealg.IndexByteString", "internal/bytealg.IndexString"], named := ["internal/bytealg.MaxLen"], apart := false }
def ModeParsesSaid : Prop := modeParsesRow.holds Try.pinned (OpenSpec.ofChange modeParsesSpec)

/-- ITS FALSE NEIGHBOUR: 'it returns false'. Refute it at one input. -/
def modeParsesWrong : ChangeSpec := { name := "modeParses", fn := fun _ => fun
  | [d] => { results := [.lit (.bool false)], args := [d] }
  | _ => none }
def ModeParsesWrongFalsely : Prop := modeParsesRow.holds Try.pinned (OpenSpec.ofChange modeParsesWrong)

/-- 'tipstafflaw23.ModeKnown': WHATEVER THE INPUT: true; the input reads as it did. -/
def modeKnownSpec : ChangeSpec := { name := "modeKnown", fn := fun _ => fun
  | [] => { results := [.lit (.bool true)], args := [] }
  | _ => none }
def modeKnownRow : OpenClaim := { program := "ytengkdmlnnehgaa", sum := "cdcb639edfe3eeec17f34608e63a395f83d899b5a864addcb689f03be7f94211", func := "tipstaff/tipstafflaw23.ModeKnown", spec := "modeKnown", inPlace := ["internal/abi.NoEscape", "internal/bytealg.IndexByteString", "internal/bytealg.IndexString"], named := ["internal/bytealg.MaxLen"], apart := false }
def ModeKnownSaid : Prop := modeKnownRow.holds Try.pinned (OpenSpec.ofChange modeKnownSpec)

/-- ITS FALSE NEIGHBOUR: 'it returns false'. Refute it at one input. -/
def modeKnownWrong : ChangeSpec := { name := "modeKnown", fn := fun _ => fun
  | [] => { results := [.lit (.bool false)], args := [] }
  | _ => none }
def ModeKnownWrongFalsely : Prop := modeKnownRow.holds Try.pinned (OpenSpec.ofChange modeKnownWrong)

/-- 'tipstafflaw23.ModeSet': WHATEVER THE INPUT: true; the input reads as it did. -/
def modeSetSpec : ChangeSpec := { name := "modeSet", fn := fun _ => fun
  | [d1, d2, d3, d4] => { results := [.lit (.bool true)], args := [d1, d2, d3, d4] }
  | _ => none }
def modeSetRow : OpenClaim := { program := "ytengkdmlnnehgaa", sum := "cdcb639edfe3eeec17f34608e63a395f83d899b5a864addcb689f03be7f94211", func := "tipstaff/tipstafflaw23.ModeSet", spec := "modeSet", inPlace := ["internal/abi.NoEscape", "internal/bytealg.IndexByteString", "internal/bytealg.IndexString"], named := ["internal/bytealg.MaxLen"], apart := false }
def ModeSetSaid : Prop := modeSetRow.holds Try.pinned (OpenSpec.ofChange modeSetSpec)

/-- ITS FALSE NEIGHBOUR: 'it returns false'. Refute it at one input. -/
def modeSetWrong : ChangeSpec := { name := "modeSet", fn := fun _ => fun
  | [d1, d2, d3, d4] => { results := [.lit (.bool false)], args := [d1, d2, d3, d4] }
  | _ => none }
def ModeSetWrongFalsely : Prop := modeSetRow.holds Try.pinned (OpenSpec.ofChange modeSetWrong)

/-- 'tipstafflaw23.ModeCounts': WHATEVER THE INPUT: true; the input reads as it did. -/
def modeCountsSpec : ChangeSpec := { name := "modeCounts", fn := fun _ => fun
  | [d1, d2] => { results := [.lit (.bool true)], args := [d1, d2] }
  | _ => none }
def modeCountsRow : OpenClaim := { program := "ytengkdmlnnehgaa", sum := "cdcb639edfe3eeec17f34608e63a395f83d899b5a864addcb689f03be7f94211", func := "tipstaff/tipstafflaw23.ModeCounts", spec := "modeCounts", inPlace := ["internal/abi.NoEscape", "internal/bytealg.IndexByteString", "internal/bytealg.IndexString"], named := ["internal/bytealg.MaxLen"], apart := false }
def ModeCountsSaid : Prop := modeCountsRow.holds Try.pinned (OpenSpec.ofChange modeCountsSpec)

/-- ITS FALSE NEIGHBOUR: 'it returns false'. Refute it at one input. -/
def modeCountsWrong : ChangeSpec := { name := "modeCounts", fn := fun _ => fun
  | [d1, d2] => { results := [.lit (.bool false)], args := [d1, d2] }
  | _ => none }
def ModeCountsWrongFalsely : Prop := modeCountsRow.holds Try.pinned (OpenSpec.ofChange modeCountsWrong)

/-- 'tipstafflaw23.ModeFirst': WHATEVER THE INPUT: true; the input reads as it did. -/
def modeFirstSpec : ChangeSpec := { name := "modeFirst", fn := fun _ => fun
  | [d1, d2, d3] => { results := [.lit (.bool true)], args := [d1, d2, d3] }
  | _ => none }
def modeFirstRow : OpenClaim := { program := "ytengkdmlnnehgaa", sum := "cdcb639edfe3eeec17f34608e63a395f83d899b5a864addcb689f03be7f94211", func := "tipstaff/tipstafflaw23.ModeFirst", spec := "modeFirst", inPlace := ["internal/abi.NoEscape", "internal/bytealg.IndexByteString", "internal/bytealg.IndexString"], named := ["internal/bytealg.MaxLen"], apart := false }
def ModeFirstSaid : Prop := modeFirstRow.holds Try.pinned (OpenSpec.ofChange modeFirstSpec)

/-- ITS FALSE NEIGHBOUR: 'it returns false'. Refute it at one input. -/
def modeFirstWrong : ChangeSpec := { name := "modeFirst", fn := fun _ => fun
  | [d1, d2, d3] => { results := [.lit (.bool false)], args := [d1, d2, d3] }
  | _ => none }
def ModeFirstWrongFalsely : Prop := modeFirstRow.holds Try.pinned (OpenSpec.ofChange modeFirstWrong)

/- THE SECOND FORM. 'bulk': how many values and letters a reading holds, each counted each time it is reached (what is shared counts as often as it is met; a slice's spare places count too). A statement '..UptoSaid' is the law's where the arguments, and the package variables that the reading takes, are together of bulk at most 1048576: NARROWER than '..Said'. Prove '..Said' where nothing that the law and all that it calls make is longer than what came in: it says more and counts as full. Else prove '..UptoSaid'. A law counts once. -/
mutual
def uptoBulk {H : Type} : DataW H → Nat
  | .lit (.string bytes) => bytes.length + 1
  | .lit _ => 1
  | .nil => 1
  | .ptr d => uptoBulk d + 1
  | .slice elems spare => uptoBulkAll elems + uptoBulkAll spare + 1
  | .agg parts => uptoBulkAll parts + 1
  | .iface _ d => uptoBulk d + 1
  | .map entries => uptoBulkEntries entries + 1
  | .held _ => 1
def uptoBulkAll {H : Type} : List (DataW H) → Nat
  | [] => 0
  | d :: r => uptoBulk d + uptoBulkAll r
def uptoBulkEntries {H : Type} : List (Lit × DataW H) → Nat
  | [] => 0
  | x :: r => uptoBulkEntry x + uptoBulkEntries r
def uptoBulkEntry {H : Type} : Lit × DataW H → Nat
  | (.string bytes, d) => bytes.length + uptoBulk d + 1
  | (_, d) => uptoBulk d + 1
 end
def uptoSmall : (H : Type) → List (DataW H) → Bool := fun _ ds => decide (uptoBulkAll ds ≤ 1048576)
def OpenSpec.upto (s : _root_.Go.ChangeSpec) : _root_.Go.OpenSpec := { _root_.Go.OpenSpec.ofChange s with cond := some uptoSmall }

/-- 'tipstafflaw23.ModeAllows', WHERE WHAT IT READS IS OF BULK AT MOST 1048576: true; the input reads as it did. -/
def modeAllowsUptoRow : OpenClaim := { program := "ytengkdmlnnehgaa", sum := "cdcb639edfe3eeec17f34608e63a395f83d899b5a864addcb689f03be7f94211", func := "tipstaff/tipstafflaw23.ModeAllows", spec := "modeAllows", inPlace := ["internal/abi.NoEscape"], apart := false, narrowed := true }
def ModeAllowsUptoSaid : Prop := modeAllowsUptoRow.holds Try.pinned (OpenSpec.upto modeAllowsSpec)

/-- 'tipstafflaw23.ModeSets', WHERE WHAT IT READS IS OF BULK AT MOST 1048576: true; the input reads as it did. -/
def modeSetsUptoRow : OpenClaim := { program := "ytengkdmlnnehgaa", sum := "cdcb639edfe3eeec17f34608e63a395f83d899b5a864addcb689f03be7f94211", func := "tipstaff/tipstafflaw23.ModeSets", spec := "modeSets", inPlace := ["internal/abi.NoEscape"], apart := false, narrowed := true }
def ModeSetsUptoSaid : Prop := modeSetsUptoRow.holds Try.pinned (OpenSpec.upto modeSetsSpec)

/-- 'tipstafflaw23.ModeParses', WHERE WHAT IT READS IS OF BULK AT MOST 1048576: true; the input reads as it did. -/
def modeParsesUptoRow : OpenClaim := { program := "ytengkdmlnnehgaa", sum := "cdcb639edfe3eeec17f34608e63a395f83d899b5a864addcb689f03be7f94211", func := "tipstaff/tipstafflaw23.ModeParses", spec := "modeParses", inPlace := ["internal/abi.NoEscape", "internal/bytealg.IndexByteString", "internal/bytealg.IndexString"], named := ["internal/bytealg.MaxLen"], apart := false, narrowed := true }
def ModeParsesUptoSaid : Prop := modeParsesUptoRow.holds Try.pinned (OpenSpec.upto modeParsesSpec)

/-- 'tipstafflaw23.ModeKnown', WHERE WHAT IT READS IS OF BULK AT MOST 1048576: true; the input reads as it did. -/
def modeKnownUptoRow : OpenClaim := { program := "ytengkdmlnnehgaa", sum := "cdcb639edfe3eeec17f34608e63a395f83d899b5a864addcb689f03be7f94211", func := "tipstaff/tipstafflaw23.ModeKnown", spec := "modeKnown", inPlace := ["internal/abi.NoEscape", "internal/bytealg.IndexByteString", "internal/bytealg.IndexString"], named := ["internal/bytealg.MaxLen"], apart := false, narrowed := true }
def ModeKnownUptoSaid : Prop := modeKnownUptoRow.holds Try.pinned (OpenSpec.upto modeKnownSpec)

/-- 'tipstafflaw23.ModeSet', WHERE WHAT IT READS IS OF BULK AT MOST 1048576: true; the input reads as it did. -/
def modeSetUptoRow : OpenClaim := { program := "ytengkdmlnnehgaa", sum := "cdcb639edfe3eeec17f34608e63a395f83d899b5a864addcb689f03be7f94211", func := "tipstaff/tipstafflaw23.ModeSet", spec := "modeSet", inPlace := ["internal/abi.NoEscape", "internal/bytealg.IndexByteString", "internal/bytealg.IndexString"], named := ["internal/bytealg.MaxLen"], apart := false, narrowed := true }
def ModeSetUptoSaid : Prop := modeSetUptoRow.holds Try.pinned (OpenSpec.upto modeSetSpec)

/-- 'tipstafflaw23.ModeCounts', WHERE WHAT IT READS IS OF BULK AT MOST 1048576: true; the input reads as it did. -/
def modeCountsUptoRow : OpenClaim := { program := "ytengkdmlnnehgaa", sum := "cdcb639edfe3eeec17f34608e63a395f83d899b5a864addcb689f03be7f94211", func := "tipstaff/tipstafflaw23.ModeCounts", spec := "modeCounts", inPlace := ["internal/abi.NoEscape", "internal/bytealg.IndexByteString", "internal/bytealg.IndexString"], named := ["internal/bytealg.MaxLen"], apart := false, narrowed := true }
def ModeCountsUptoSaid : Prop := modeCountsUptoRow.holds Try.pinned (OpenSpec.upto modeCountsSpec)

/-- 'tipstafflaw23.ModeFirst', WHERE WHAT IT READS IS OF BULK AT MOST 1048576: true; the input reads as it did. -/
def modeFirstUptoRow : OpenClaim := { program := "ytengkdmlnnehgaa", sum := "cdcb639edfe3eeec17f34608e63a395f83d899b5a864addcb689f03be7f94211", func := "tipstaff/tipstafflaw23.ModeFirst", spec := "modeFirst", inPlace := ["internal/abi.NoEscape", "internal/bytealg.IndexByteString", "internal/bytealg.IndexString"], named := ["internal/bytealg.MaxLen"], apart := false, narrowed := true }
def ModeFirstUptoSaid : Prop := modeFirstUptoRow.holds Try.pinned (OpenSpec.upto modeFirstSpec)

end Rows
end Go.Proofs.Ytengkdmlnnehgaa
