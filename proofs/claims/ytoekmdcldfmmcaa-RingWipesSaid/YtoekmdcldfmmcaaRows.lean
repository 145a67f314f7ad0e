/-
  No cell of these rows narrows 'for every input' (looked for: loops, veiled, ifaces, maps, wideKeys, modest, calm, conditions, laid).
  DERIVED. THE GIVEN ROWS OF THIS SEAT. 6 by the template 'for every input the law returns true; each argument reads behind the call as it read before'; 0 by the template 'total and deterministic' (their statements: YtoekmdcldfmmcaaTotals.lean).
  GIVEN WITH THE SEED: the statements are not yours to turn. If you find one false, say at which input.
  Laid BY PROGRAM, IN A SANDBOX (cutbox-rows.mjs): the forced cells as the released guide's own fill.sh prints them over the translation 77b85ce78f7a571e… (all of the seat's roots in one cut). By AI agents, Wed Nov 11 2026. No macro, syntax, notation, axiom, sorry.
-/
import Derived.Test.YtoekmdcldfmmcaaChecked
import GoSem.Claim
import GoSem.ClaimJoined
import GoSem.ClaimMapViews
import Derived.JoinedTies
import Derived.KernelRfl
namespace Go.Proofs.Ytoekmdcldfmmcaa
/- THE CELL 'sum', in the pinned program and in every row, IS THE sha256 OF THE DUMP (.gsa) THAT YtoekmdcldfmmcaaProg.lean LOADS. Nothing in Lean hashes anything: it is a label: what it is worth is what the hold of that sum in a sandbox is worth. -/
noncomputable def Try.pinned : Pinned := { name := "ytoekmdcldfmmcaa", sum := "77b85ce78f7a571e7cd86650a254ebba6a21eb447e300cfc94579674b86028dc", checked := Try.checked }
namespace Rows
def none {H : Type} : Left H := { results := [], args := [] }

/-- 'tipstafflaw05.RingChanges': WHATEVER THE INPUT: true; the input reads as it did. -/
def ringChangesSpec : ChangeSpec := { name := "ringChanges", fn := fun _ => fun
  | [d1, d2, d3, d4] => { results := [.lit (.bool true)], args := [d1, d2, d3, d4] }
  | _ => none }
def ringChangesRow : OpenClaim := { program := "ytoekmdcldfmmcaa", sum := "77b85ce78f7a571e7cd86650a254ebba6a21eb447e300cfc94579674b86028dc", func := "tipstaff/tipstafflaw05.RingChanges", spec := "ringChanges", unfollowed := true, recurses := true, apart := false }
def RingChangesSaid : Prop := ringChangesRow.holds Try.pinned (OpenSpec.ofChange ringChangesSpec)

/-- ITS FALSE NEIGHBOUR: 'it returns false'. Refute it at one input. -/
def ringChangesWrong : ChangeSpec := { name := "ringChanges", fn := fun _ => fun
  | [d1, d2, d3, d4] => { results := [.lit (.bool false)], args := [d1, d2, d3, d4] }
  | _ => none }
def RingChangesWrongFalsely : Prop := ringChangesRow.holds Try.pinned (OpenSpec.ofChange ringChangesWrong)

/-- 'tipstafflaw05.RingLooks': WHATEVER THE INPUT: true; the input reads as it did. -/
def ringLooksSpec : ChangeSpec := { name := "ringLooks", fn := fun _ => fun
  | [d1, d2, d3] => { results := [.lit (.bool true)], args := [d1, d2, d3] }
  | _ => none }
def ringLooksRow : OpenClaim := { program := "ytoekmdcldfmmcaa", sum := "77b85ce78f7a571e7cd86650a254ebba6a21eb447e300cfc94579674b86028dc", func := "tipstaff/tipstafflaw05.RingLooks", spec := "ringLooks", unfollowed := true, recurses := true, apart := false }
def RingLooksSaid : Prop := ringLooksRow.holds Try.pinned (OpenSpec.ofChange ringLooksSpec)

/-- ITS FALSE NEIGHBOUR: 'it returns false'. Refute it at one input. -/
def ringLooksWrong : ChangeSpec := { name := "ringLooks", fn := fun _ => fun
  | [d1, d2, d3] => { results := [.lit (.bool false)], args := [d1, d2, d3] }
  | _ => none }
def RingLooksWrongFalsely : Prop := ringLooksRow.holds Try.pinned (OpenSpec.ofChange ringLooksWrong)

/-- 'tipstafflaw05.RingKnown': WHATEVER THE INPUT: true; the input reads as it did. -/
def ringKnownSpec : ChangeSpec := { name := "ringKnown", fn := fun _ => fun
  | [] => { results := [.lit (.bool true)], args := [] }
  | _ => none }
def ringKnownRow : OpenClaim := { program := "ytoekmdcldfmmcaa", sum := "77b85ce78f7a571e7cd86650a254ebba6a21eb447e300cfc94579674b86028dc", func := "tipstaff/tipstafflaw05.RingKnown", spec := "ringKnown", unfollowed := true, recurses := true, apart := false }
def RingKnownSaid : Prop := ringKnownRow.holds Try.pinned (OpenSpec.ofChange ringKnownSpec)

/-- ITS FALSE NEIGHBOUR: 'it returns false'. Refute it at one input. -/
def ringKnownWrong : ChangeSpec := { name := "ringKnown", fn := fun _ => fun
  | [] => { results := [.lit (.bool false)], args := [] }
  | _ => none }
def RingKnownWrongFalsely : Prop := ringKnownRow.holds Try.pinned (OpenSpec.ofChange ringKnownWrong)

/-- 'tipstafflaw05.RingNumbers': WHATEVER THE INPUT: true; the input reads as it did. -/
def ringNumbersSpec : ChangeSpec := { name := "ringNumbers", fn := fun _ => fun
  | [d1, d2] => { results := [.lit (.bool true)], args := [d1, d2] }
  | _ => none }
def ringNumbersRow : OpenClaim := { program := "ytoekmdcldfmmcaa", sum := "77b85ce78f7a571e7cd86650a254ebba6a21eb447e300cfc94579674b86028dc", func := "tipstaff/tipstafflaw05.RingNumbers", spec := "ringNumbers", unfollowed := true, recurses := true, apart := false }
def RingNumbersSaid : Prop := ringNumbersRow.holds Try.pinned (OpenSpec.ofChange ringNumbersSpec)

/-- ITS FALSE NEIGHBOUR: 'it returns false'. Refute it at one input. -/
def ringNumbersWrong : ChangeSpec := { name := "ringNumbers", fn := fun _ => fun
  | [d1, d2] => { results := [.lit (.bool false)], args := [d1, d2] }
  | _ => none }
def RingNumbersWrongFalsely : Prop := ringNumbersRow.holds Try.pinned (OpenSpec.ofChange ringNumbersWrong)

/-- 'tipstafflaw05.RingFinds': WHATEVER THE INPUT: true; the input reads as it did. -/
def ringFindsSpec : ChangeSpec := { name := "ringFinds", fn := fun _ => fun
  | [d1, d2, d3, d4] => { results := [.lit (.bool true)], args := [d1, d2, d3, d4] }
  | _ => none }
def ringFindsRow : OpenClaim := { program := "ytoekmdcldfmmcaa", sum := "77b85ce78f7a571e7cd86650a254ebba6a21eb447e300cfc94579674b86028dc", func := "tipstaff/tipstafflaw05.RingFinds", spec := "ringFinds", unfollowed := true, recurses := true, apart := false }
def RingFindsSaid : Prop := ringFindsRow.holds Try.pinned (OpenSpec.ofChange ringFindsSpec)

/-- ITS FALSE NEIGHBOUR: 'it returns false'. Refute it at one input. -/
def ringFindsWrong : ChangeSpec := { name := "ringFinds", fn := fun _ => fun
  | [d1, d2, d3, d4] => { results := [.lit (.bool false)], args := [d1, d2, d3, d4] }
  | _ => none }
def RingFindsWrongFalsely : Prop := ringFindsRow.holds Try.pinned (OpenSpec.ofChange ringFindsWrong)

/-- 'tipstafflaw05.RingWipes': WHATEVER THE INPUT: true; the input reads as it did. -/
def ringWipesSpec : ChangeSpec := { name := "ringWipes", fn := fun _ => fun
  | [d1, d2, d3] => { results := [.lit (.bool true)], args := [d1, d2, d3] }
  | _ => none }
def ringWipesRow : OpenClaim := { program := "ytoekmdcldfmmcaa", sum := "77b85ce78f7a571e7cd86650a254ebba6a21eb447e300cfc94579674b86028dc", func := "tipstaff/tipstafflaw05.RingWipes", spec := "ringWipes", unfollowed := true, recurses := true, apart := false }
def RingWipesSaid : Prop := ringWipesRow.holds Try.pinned (OpenSpec.ofChange ringWipesSpec)

/-- ITS FALSE NEIGHBOUR: 'it returns false'. Refute it at one input. -/
def ringWipesWrong : ChangeSpec := { name := "ringWipes", fn := fun _ => fun
  | [d1, d2, d3] => { results := [.lit (.bool false)], args := [d1, d2, d3] }
  | _ => none }
def RingWipesWrongFalsely : Prop := ringWipesRow.holds Try.pinned (OpenSpec.ofChange ringWipesWrong)

/- THE SECOND FORM. 'bulk': how many values and letters a reading holds, each counted each time it is reached (what is shared counts as often as it is met; a slice's spare places count too). A statement '..UptoSaid' is the law's where the arguments, and the package variables that the reading takes, are together of bulk at most 1048576: NARROWER than '..Said'. Prove '..Said' where nothing that the law and all that it calls make is longer than what came in: it says more and counts as full. Else prove '..UptoSaid'. A law counts once. -/
mutual
def uptoBulk {H : Type} : DataW H → Nat
  | .lit (.string bytes) => bytes.length + 1
  | .lit _ => 1
  | .nil => 1
  | .ptr d => uptoBulk d + 1
  | .slice elems spare => uptoBulkAll elems + uptoBulkAll spare + 1
  | .agg parts => uptoBulkAll parts + 1
  | .iface _ d => uptoBulk d + 1
  | .map entries => uptoBulkEntries entries + 1
  | .held _ => 1
def uptoBulkAll {H : Type} : List (DataW H) → Nat
  | [] => 0
  | d :: r => uptoBulk d + uptoBulkAll r
def uptoBulkEntries {H : Type} : List (Lit × DataW H) → Nat
  | [] => 0
  | x :: r => uptoBulkEntry x + uptoBulkEntries r
def uptoBulkEntry {H : Type} : Lit × DataW H → Nat
  | (.string bytes, d) => bytes.length + uptoBulk d + 1
  | (_, d) => uptoBulk d + 1
 end
def uptoSmall : (H : Type) → List (DataW H) → Bool := fun _ ds => decide (uptoBulkAll ds ≤ 1048576)
def OpenSpec.upto (s : _root_.Go.ChangeSpec) : _root_.Go.OpenSpec := { _root_.Go.OpenSpec.ofChange s with cond := some uptoSmall }

/-- 'tipstafflaw05.RingChanges', WHERE WHAT IT READS IS OF BULK AT MOST 1048576: true; the input reads as it did. -/
def ringChangesUptoRow : OpenClaim := { program := "ytoekmdcldfmmcaa", sum := "77b85ce78f7a571e7cd86650a254ebba6a21eb447e300cfc94579674b86028dc", func := "tipstaff/tipstafflaw05.RingChanges", spec := "ringChanges", unfollowed := true, recurses := true, apart := false, narrowed := true }
def RingChangesUptoSaid : Prop := ringChangesUptoRow.holds Try.pinned (OpenSpec.upto ringChangesSpec)

/-- 'tipstafflaw05.RingLooks', WHERE WHAT IT READS IS OF BULK AT MOST 1048576: true; the input reads as it did. -/
def ringLooksUptoRow : OpenClaim := { program := "ytoekmdcldfmmcaa", sum := "77b85ce78f7a571e7cd86650a254ebba6a21eb447e300cfc94579674b86028dc", func := "tipstaff/tipstafflaw05.RingLooks", spec := "ringLooks", unfollowed := true, recurses := true, apart := false, narrowed := true }
def RingLooksUptoSaid : Prop := ringLooksUptoRow.holds Try.pinned (OpenSpec.upto ringLooksSpec)

/-- 'tipstafflaw05.RingKnown', WHERE WHAT IT READS IS OF BULK AT MOST 1048576: true; the input reads as it did. -/
def ringKnownUptoRow : OpenClaim := { program := "ytoekmdcldfmmcaa", sum := "77b85ce78f7a571e7cd86650a254ebba6a21eb447e300cfc94579674b86028dc", func := "tipstaff/tipstafflaw05.RingKnown", spec := "ringKnown", unfollowed := true, recurses := true, apart := false, narrowed := true }
def RingKnownUptoSaid : Prop := ringKnownUptoRow.holds Try.pinned (OpenSpec.upto ringKnownSpec)

/-- 'tipstafflaw05.RingNumbers', WHERE WHAT IT READS IS OF BULK AT MOST 1048576: true; the input reads as it did. -/
def ringNumbersUptoRow : OpenClaim := { program := "ytoekmdcldfmmcaa", sum := "77b85ce78f7a571e7cd86650a254ebba6a21eb447e300cfc94579674b86028dc", func := "tipstaff/tipstafflaw05.RingNumbers", spec := "ringNumbers", unfollowed := true, recurses := true, apart := false, narrowed := true }
def RingNumbersUptoSaid : Prop := ringNumbersUptoRow.holds Try.pinned (OpenSpec.upto ringNumbersSpec)

/-- 'tipstafflaw05.RingFinds', WHERE WHAT IT READS IS OF BULK AT MOST 1048576: true; the input reads as it did. -/
def ringFindsUptoRow : OpenClaim := { program := "ytoekmdcldfmmcaa", sum := "77b85ce78f7a571e7cd86650a254ebba6a21eb447e300cfc94579674b86028dc", func := "tipstaff/tipstafflaw05.RingFinds", spec := "ringFinds", unfollowed := true, recurses := true, apart := false, narrowed := true }
def RingFindsUptoSaid : Prop := ringFindsUptoRow.holds Try.pinned (OpenSpec.upto ringFindsSpec)

/-- 'tipstafflaw05.RingWipes', WHERE WHAT IT READS IS OF BULK AT MOST 1048576: true; the input reads as it did. -/
def ringWipesUptoRow : OpenClaim := { program := "ytoekmdcldfmmcaa", sum := "77b85ce78f7a571e7cd86650a254ebba6a21eb447e300cfc94579674b86028dc", func := "tipstaff/tipstafflaw05.RingWipes", spec := "ringWipes", unfollowed := true, recurses := true, apart := false, narrowed := true }
def RingWipesUptoSaid : Prop := ringWipesUptoRow.holds Try.pinned (OpenSpec.upto ringWipesSpec)

end Rows
end Go.Proofs.Ytoekmdcldfmmcaa
