/-
  No cell of these rows narrows 'for every input' (looked for: loops, veiled, ifaces, maps, wideKeys, modest, calm, conditions, laid).
  DERIVED. THE GIVEN ROWS OF THIS SEAT. 12 by the template 'for every input the law returns true; each argument reads behind the call as it read before'; 0 by the template 'total and deterministic' (their statements: YteiehkafkcggeaaTotals.lean).
  GIVEN WITH THE SEED: the statements are not yours to turn. If you find one false, say at which input.
  Laid BY PROGRAM, IN A SANDBOX (cutbox-rows.mjs): the forced cells as the released guide's own fill.sh prints them over the translation 70334ceef39d7883… (all of the seat's roots in one cut). By AI agents, Wed Nov 11 2026. No macro, syntax, notation, axiom, sorry.
-/
import Derived.Test.YteiehkafkcggeaaChecked
import GoSem.Claim
import GoSem.ClaimJoined
import GoSem.ClaimMapViews
import Derived.JoinedTies
import Derived.KernelRfl
namespace Go.Proofs.Yteiehkafkcggeaa
/- THE CELL 'sum', in the pinned program and in every row, IS THE sha256 OF THE DUMP (.gsa) THAT YteiehkafkcggeaaProg.lean LOADS. Nothing in Lean hashes anything: it is a label: what it is worth is what the hold of that sum in a sandbox is worth. -/
noncomputable def Try.pinned : Pinned := { name := "yteiehkafkcggeaa", sum := "70334ceef39d7883c06287eb36778db5723f3fd946ea64663e9c4aa202875ed0", checked := Try.checked }
namespace Rows
def none {H : Type} : Left H := { results := [], args := [] }

/-- 'tipstafflaw28.PickTrue': WHATEVER THE INPUT: true; the input reads as it did. -/
def pickTrueSpec : ChangeSpec := { name := "pickTrue", fn := fun _ => fun
  | [d1, d2, d3] => { results := [.lit (.bool true)], args := [d1, d2, d3] }
  | _ => none }
def pickTrueRow : OpenClaim := { program := "yteiehkafkcggeaa", sum := "70334ceef39d7883c06287eb36778db5723f3fd946ea64663e9c4aa202875ed0", func := "tipstaff/tipstafflaw28.PickTrue", spec := "pickTrue", unfollowed := true, recurses := true, plainKeys := false, apart := false }
def PickTrueSaid : Prop := pickTrueRow.holds Try.pinned (OpenSpec.ofChange pickTrueSpec)

/-- ITS FALSE NEIGHBOUR: 'it returns false'. Refute it at one input. -/
def pickTrueWrong : ChangeSpec := { name := "pickTrue", fn := fun _ => fun
  | [d1, d2, d3] => { results := [.lit (.bool false)], args := [d1, d2, d3] }
  | _ => none }
def PickTrueWrongFalsely : Prop := pickTrueRow.holds Try.pinned (OpenSpec.ofChange pickTrueWrong)

/-- 'tipstafflaw28.PickCalls': WHATEVER THE INPUT: true; the input reads as it did. -/
def pickCallsSpec : ChangeSpec := { name := "pickCalls", fn := fun _ => fun
  | [d1, d2] => { results := [.lit (.bool true)], args := [d1, d2] }
  | _ => none }
def pickCallsRow : OpenClaim := { program := "yteiehkafkcggeaa", sum := "70334ceef39d7883c06287eb36778db5723f3fd946ea64663e9c4aa202875ed0", func := "tipstaff/tipstafflaw28.PickCalls", spec := "pickCalls", unfollowed := true, recurses := true, plainKeys := false, apart := false }
def PickCallsSaid : Prop := pickCallsRow.holds Try.pinned (OpenSpec.ofChange pickCallsSpec)

/-- ITS FALSE NEIGHBOUR: 'it returns false'. Refute it at one input. -/
def pickCallsWrong : ChangeSpec := { name := "pickCalls", fn := fun _ => fun
  | [d1, d2] => { results := [.lit (.bool false)], args := [d1, d2] }
  | _ => none }
def PickCallsWrongFalsely : Prop := pickCallsRow.holds Try.pinned (OpenSpec.ofChange pickCallsWrong)

/-- 'tipstafflaw28.PickOrder': WHATEVER THE INPUT: true; the input reads as it did. -/
def pickOrderSpec : ChangeSpec := { name := "pickOrder", fn := fun _ => fun
  | [d1, d2, d3, d4] => { results := [.lit (.bool true)], args := [d1, d2, d3, d4] }
  | _ => none }
def pickOrderRow : OpenClaim := { program := "yteiehkafkcggeaa", sum := "70334ceef39d7883c06287eb36778db5723f3fd946ea64663e9c4aa202875ed0", func := "tipstaff/tipstafflaw28.PickOrder", spec := "pickOrder", unfollowed := true, recurses := true, plainKeys := false, apart := false }
def PickOrderSaid : Prop := pickOrderRow.holds Try.pinned (OpenSpec.ofChange pickOrderSpec)

/-- ITS FALSE NEIGHBOUR: 'it returns false'. Refute it at one input. -/
def pickOrderWrong : ChangeSpec := { name := "pickOrder", fn := fun _ => fun
  | [d1, d2, d3, d4] => { results := [.lit (.bool false)], args := [d1, d2, d3, d4] }
  | _ => none }
def PickOrderWrongFalsely : Prop := pickOrderRow.holds Try.pinned (OpenSpec.ofChange pickOrderWrong)

/-- 'tipstafflaw28.PickKnown': WHATEVER THE INPUT: true; the input reads as it did. -/
def pickKnownSpec : ChangeSpec := { name := "pickKnown", fn := fun _ => fun
  | [] => { results := [.lit (.bool true)], args := [] }
  | _ => none }
def pickKnownRow : OpenClaim := { program := "yteiehkafkcggeaa", sum := "70334ceef39d7883c06287eb36778db5723f3fd946ea64663e9c4aa202875ed0", func := "tipstaff/tipstafflaw28.PickKnown", spec := "pickKnown", unfollowed := true, recurses := true, plainKeys := false, apart := false }
def PickKnownSaid : Prop := pickKnownRow.holds Try.pinned (OpenSpec.ofChange pickKnownSpec)

/-- ITS FALSE NEIGHBOUR: 'it returns false'. Refute it at one input. -/
def pickKnownWrong : ChangeSpec := { name := "pickKnown", fn := fun _ => fun
  | [] => { results := [.lit (.bool false)], args := [] }
  | _ => none }
def PickKnownWrongFalsely : Prop := pickKnownRow.holds Try.pinned (OpenSpec.ofChange pickKnownWrong)

/-- 'tipstafflaw28.PickGoals': WHATEVER THE INPUT: true; the input reads as it did. -/
def pickGoalsSpec : ChangeSpec := { name := "pickGoals", fn := fun _ => fun
  | [d1, d2] => { results := [.lit (.bool true)], args := [d1, d2] }
  | _ => none }
def pickGoalsRow : OpenClaim := { program := "yteiehkafkcggeaa", sum := "70334ceef39d7883c06287eb36778db5723f3fd946ea64663e9c4aa202875ed0", func := "tipstaff/tipstafflaw28.PickGoals", spec := "pickGoals", unfollowed := true, recurses := true, plainKeys := false, apart := false }
def PickGoalsSaid : Prop := pickGoalsRow.holds Try.pinned (OpenSpec.ofChange pickGoalsSpec)

/-- ITS FALSE NEIGHBOUR: 'it returns false'. Refute it at one input. -/
def pickGoalsWrong : ChangeSpec := { name := "pickGoals", fn := fun _ => fun
  | [d1, d2] => { results := [.lit (.bool false)], args := [d1, d2] }
  | _ => none }
def PickGoalsWrongFalsely : Prop := pickGoalsRow.holds Try.pinned (OpenSpec.ofChange pickGoalsWrong)

/-- 'tipstafflaw21.TableKnown': WHATEVER THE INPUT: true; the input reads as it did. -/
def tableKnownSpec : ChangeSpec := { name := "tableKnown", fn := fun _ => fun
  | [] => { results := [.lit (.bool true)], args := [] }
  | _ => none }
def tableKnownRow : OpenClaim := { program := "yteiehkafkcggeaa", sum := "70334ceef39d7883c06287eb36778db5723f3fd946ea64663e9c4aa202875ed0", func := "tipstaff/tipstafflaw21.TableKnown", spec := "tableKnown", unfollowed := true, recurses := true, plainKeys := false, apart := false }
def TableKnownSaid : Prop := tableKnownRow.holds Try.pinned (OpenSpec.ofChange tableKnownSpec)

/-- ITS FALSE NEIGHBOUR: 'it returns false'. Refute it at one input. -/
def tableKnownWrong : ChangeSpec := { name := "tableKnown", fn := fun _ => fun
  | [] => { results := [.lit (.bool false)], args := [] }
  | _ => none }
def TableKnownWrongFalsely : Prop := tableKnownRow.holds Try.pinned (OpenSpec.ofChange tableKnownWrong)

/-- 'tipstafflaw30.PurgeSlots': WHATEVER THE INPUT: true; the input reads as it did. -/
def purgeSlotsSpec : ChangeSpec := { name := "purgeSlots", fn := fun _ => fun
  | [d1, d2, d3, d4, d5] => { results := [.lit (.bool true)], args := [d1, d2, d3, d4, d5] }
  | _ => none }
def purgeSlotsRow : OpenClaim := { program := "yteiehkafkcggeaa", sum := "70334ceef39d7883c06287eb36778db5723f3fd946ea64663e9c4aa202875ed0", func := "tipstaff/tipstafflaw30.PurgeSlots", spec := "purgeSlots", unfollowed := true, recurses := true, plainKeys := false, apart := false }
def PurgeSlotsSaid : Prop := purgeSlotsRow.holds Try.pinned (OpenSpec.ofChange purgeSlotsSpec)

/-- ITS FALSE NEIGHBOUR: 'it returns false'. Refute it at one input. -/
def purgeSlotsWrong : ChangeSpec := { name := "purgeSlots", fn := fun _ => fun
  | [d1, d2, d3, d4, d5] => { results := [.lit (.bool false)], args := [d1, d2, d3, d4, d5] }
  | _ => none }
def PurgeSlotsWrongFalsely : Prop := purgeSlotsRow.holds Try.pinned (OpenSpec.ofChange purgeSlotsWrong)

/-- 'tipstafflaw30.PurgeOvers': WHATEVER THE INPUT: true; the input reads as it did. -/
def purgeOversSpec : ChangeSpec := { name := "purgeOvers", fn := fun _ => fun
  | [d1, d2] => { results := [.lit (.bool true)], args := [d1, d2] }
  | _ => none }
def purgeOversRow : OpenClaim := { program := "yteiehkafkcggeaa", sum := "70334ceef39d7883c06287eb36778db5723f3fd946ea64663e9c4aa202875ed0", func := "tipstaff/tipstafflaw30.PurgeOvers", spec := "purgeOvers", unfollowed := true, recurses := true, plainKeys := false, apart := false }
def PurgeOversSaid : Prop := purgeOversRow.holds Try.pinned (OpenSpec.ofChange purgeOversSpec)

/-- ITS FALSE NEIGHBOUR: 'it returns false'. Refute it at one input. -/
def purgeOversWrong : ChangeSpec := { name := "purgeOvers", fn := fun _ => fun
  | [d1, d2] => { results := [.lit (.bool false)], args := [d1, d2] }
  | _ => none }
def PurgeOversWrongFalsely : Prop := purgeOversRow.holds Try.pinned (OpenSpec.ofChange purgeOversWrong)

/-- 'tipstafflaw30.PurgeKnown': WHATEVER THE INPUT: true; the input reads as it did. -/
def purgeKnownSpec : ChangeSpec := { name := "purgeKnown", fn := fun _ => fun
  | [] => { results := [.lit (.bool true)], args := [] }
  | _ => none }
def purgeKnownRow : OpenClaim := { program := "yteiehkafkcggeaa", sum := "70334ceef39d7883c06287eb36778db5723f3fd946ea64663e9c4aa202875ed0", func := "tipstaff/tipstafflaw30.PurgeKnown", spec := "purgeKnown", unfollowed := true, recurses := true, plainKeys := false, apart := false }
def PurgeKnownSaid : Prop := purgeKnownRow.holds Try.pinned (OpenSpec.ofChange purgeKnownSpec)

/-- ITS FALSE NEIGHBOUR: 'it returns false'. Refute it at one input. -/
def purgeKnownWrong : ChangeSpec := { name := "purgeKnown", fn := fun _ => fun
  | [] => { results := [.lit (.bool false)], args := [] }
  | _ => none }
def PurgeKnownWrongFalsely : Prop := purgeKnownRow.holds Try.pinned (OpenSpec.ofChange purgeKnownWrong)

/-- 'tipstafflaw30.PurgeClean': WHATEVER THE INPUT: true; the input reads as it did. -/
def purgeCleanSpec : ChangeSpec := { name := "purgeClean", fn := fun _ => fun
  | [d1, d2] => { results := [.lit (.bool true)], args := [d1, d2] }
  | _ => none }
def purgeCleanRow : OpenClaim := { program := "yteiehkafkcggeaa", sum := "70334ceef39d7883c06287eb36778db5723f3fd946ea64663e9c4aa202875ed0", func := "tipstaff/tipstafflaw30.PurgeClean", spec := "purgeClean", unfollowed := true, recurses := true, plainKeys := false, apart := false }
def PurgeCleanSaid : Prop := purgeCleanRow.holds Try.pinned (OpenSpec.ofChange purgeCleanSpec)

/-- ITS FALSE NEIGHBOUR: 'it returns false'. Refute it at one input. -/
def purgeCleanWrong : ChangeSpec := { name := "purgeClean", fn := fun _ => fun
  | [d1, d2] => { results := [.lit (.bool false)], args := [d1, d2] }
  | _ => none }
def PurgeCleanWrongFalsely : Prop := purgeCleanRow.holds Try.pinned (OpenSpec.ofChange purgeCleanWrong)

/-- 'tipstafflaw30.PurgeWord': WHATEVER THE INPUT: true; the input reads as it did. -/
def purgeWordSpec : ChangeSpec := { name := "purgeWord", fn := fun _ => fun
  | [d1, d2, d3, d4] => { results := [.lit (.bool true)], args := [d1, d2, d3, d4] }
  | _ => none }
def purgeWordRow : OpenClaim := { program := "yteiehkafkcggeaa", sum := "70334ceef39d7883c06287eb36778db5723f3fd946ea64663e9c4aa202875ed0", func := "tipstaff/tipstafflaw30.PurgeWord", spec := "purgeWord", unfollowed := true, recurses := true, plainKeys := false, apart := false }
def PurgeWordSaid : Prop := purgeWordRow.holds Try.pinned (OpenSpec.ofChange purgeWordSpec)

/-- ITS FALSE NEIGHBOUR: 'it returns false'. Refute it at one input. -/
def purgeWordWrong : ChangeSpec := { name := "purgeWord", fn := fun _ => fun
  | [d1, d2, d3, d4] => { results := [.lit (.bool false)], args := [d1, d2, d3, d4] }
  | _ => none }
def PurgeWordWrongFalsely : Prop := purgeWordRow.holds Try.pinned (OpenSpec.ofChange purgeWordWrong)

/-- 'tipstafflaw30.PurgeHalls': WHATEVER THE INPUT: true; the input reads as it did. -/
def purgeHallsSpec : ChangeSpec := { name := "purgeHalls", fn := fun _ => fun
  | [d] => { results := [.lit (.bool true)], args := [d] }
  | _ => none }
def purgeHallsRow : OpenClaim := { program := "yteiehkafkcggeaa", sum := "70334ceef39d7883c06287eb36778db5723f3fd946ea64663e9c4aa202875ed0", func := "tipstaff/tipstafflaw30.PurgeHalls", spec := "purgeHalls", unfollowed := true, recurses := true, plainKeys := false, apart := false }
def PurgeHallsSaid : Prop := purgeHallsRow.holds Try.pinned (OpenSpec.ofChange purgeHallsSpec)

/-- ITS FALSE NEIGHBOUR: 'it returns false'. Refute it at one input. -/
def purgeHallsWrong : ChangeSpec := { name := "purgeHalls", fn := fun _ => fun
  | [d] => { results := [.lit (.bool false)], args := [d] }
  | _ => none }
def PurgeHallsWrongFalsely : Prop := purgeHallsRow.holds Try.pinned (OpenSpec.ofChange purgeHallsWrong)

/- THE SECOND FORM. 'bulk': how many values and letters a reading holds, each counted each time it is reached (what is shared counts as often as it is met; a slice's spare places count too). A statement '..UptoSaid' is the law's where the arguments, and the package variables that the reading takes, are together of bulk at most 1048576: NARROWER than '..Said'. Prove '..Said' where nothing that the law and all that it calls make is longer than what came in: it says more and counts as full. Else prove '..UptoSaid'. A law counts once. -/
mutual
def uptoBulk {H : Type} : DataW H → Nat
  | .lit (.string bytes) => bytes.length + 1
  | .lit _ => 1
  | .nil => 1
  | .ptr d => uptoBulk d + 1
  | .slice elems spare => uptoBulkAll elems + uptoBulkAll spare + 1
  | .agg parts => uptoBulkAll parts + 1
  | .iface _ d => uptoBulk d + 1
  | .map entries => uptoBulkEntries entries + 1
  | .held _ => 1
def uptoBulkAll {H : Type} : List (DataW H) → Nat
  | [] => 0
  | d :: r => uptoBulk d + uptoBulkAll r
def uptoBulkEntries {H : Type} : List (Lit × DataW H) → Nat
  | [] => 0
  | x :: r => uptoBulkEntry x + uptoBulkEntries r
def uptoBulkEntry {H : Type} : Lit × DataW H → Nat
  | (.string bytes, d) => bytes.length + uptoBulk d + 1
  | (_, d) => uptoBulk d + 1
 end
def uptoSmall : (H : Type) → List (DataW H) → Bool := fun _ ds => decide (uptoBulkAll ds ≤ 1048576)
def OpenSpec.upto (s : _root_.Go.ChangeSpec) : _root_.Go.OpenSpec := { _root_.Go.OpenSpec.ofChange s with cond := some uptoSmall }

/-- 'tipstafflaw28.PickTrue', WHERE WHAT IT READS IS OF BULK AT MOST 1048576: true; the input reads as it did. -/
def pickTrueUptoRow : OpenClaim := { program := "yteiehkafkcggeaa", sum := "70334ceef39d7883c06287eb36778db5723f3fd946ea64663e9c4aa202875ed0", func := "tipstaff/tipstafflaw28.PickTrue", spec := "pickTrue", unfollowed := true, recurses := true, plainKeys := false, apart := false, narrowed := true }
def PickTrueUptoSaid : Prop := pickTrueUptoRow.holds Try.pinned (OpenSpec.upto pickTrueSpec)

/-- 'tipstafflaw28.PickCalls', WHERE WHAT IT READS IS OF BULK AT MOST 1048576: true; the input reads as it did. -/
def pickCallsUptoRow : OpenClaim := { program := "yteiehkafkcggeaa", sum := "70334ceef39d7883c06287eb36778db5723f3fd946ea64663e9c4aa202875ed0", func := "tipstaff/tipstafflaw28.PickCalls", spec := "pickCalls", unfollowed := true, recurses := true, plainKeys := false, apart := false, narrowed := true }
def PickCallsUptoSaid : Prop := pickCallsUptoRow.holds Try.pinned (OpenSpec.upto pickCallsSpec)

/-- 'tipstafflaw28.PickOrder', WHERE WHAT IT READS IS OF BULK AT MOST 1048576: true; the input reads as it did. -/
def pickOrderUptoRow : OpenClaim := { program := "yteiehkafkcggeaa", sum := "70334ceef39d7883c06287eb36778db5723f3fd946ea64663e9c4aa202875ed0", func := "tipstaff/tipstafflaw28.PickOrder", spec := "pickOrder", unfollowed := true, recurses := true, plainKeys := false, apart := false, narrowed := true }
def PickOrderUptoSaid : Prop := pickOrderUptoRow.holds Try.pinned (OpenSpec.upto pickOrderSpec)

/-- 'tipstafflaw28.PickKnown', WHERE WHAT IT READS IS OF BULK AT MOST 1048576: true; the input reads as it did. -/
def pickKnownUptoRow : OpenClaim := { program := "yteiehkafkcggeaa", sum := "70334ceef39d7883c06287eb36778db5723f3fd946ea64663e9c4aa202875ed0", func := "tipstaff/tipstafflaw28.PickKnown", spec := "pickKnown", unfollowed := true, recurses := true, plainKeys := false, apart := false, narrowed := true }
def PickKnownUptoSaid : Prop := pickKnownUptoRow.holds Try.pinned (OpenSpec.upto pickKnownSpec)

/-- 'tipstafflaw28.PickGoals', WHERE WHAT IT READS IS OF BULK AT MOST 1048576: true; the input reads as it did. -/
def pickGoalsUptoRow : OpenClaim := { program := "yteiehkafkcggeaa", sum := "70334ceef39d7883c06287eb36778db5723f3fd946ea64663e9c4aa202875ed0", func := "tipstaff/tipstafflaw28.PickGoals", spec := "pickGoals", unfollowed := true, recurses := true, plainKeys := false, apart := false, narrowed := true }
def PickGoalsUptoSaid : Prop := pickGoalsUptoRow.holds Try.pinned (OpenSpec.upto pickGoalsSpec)

/-- 'tipstafflaw21.TableKnown', WHERE WHAT IT READS IS OF BULK AT MOST 1048576: true; the input reads as it did. -/
def tableKnownUptoRow : OpenClaim := { program := "yteiehkafkcggeaa", sum := "70334ceef39d7883c06287eb36778db5723f3fd946ea64663e9c4aa202875ed0", func := "tipstaff/tipstafflaw21.TableKnown", spec := "tableKnown", unfollowed := true, recurses := true, plainKeys := false, apart := false, narrowed := true }
def TableKnownUptoSaid : Prop := tableKnownUptoRow.holds Try.pinned (OpenSpec.upto tableKnownSpec)

/-- 'tipstafflaw30.PurgeSlots', WHERE WHAT IT READS IS OF BULK AT MOST 1048576: true; the input reads as it did. -/
def purgeSlotsUptoRow : OpenClaim := { program := "yteiehkafkcggeaa", sum := "70334ceef39d7883c06287eb36778db5723f3fd946ea64663e9c4aa202875ed0", func := "tipstaff/tipstafflaw30.PurgeSlots", spec := "purgeSlots", unfollowed := true, recurses := true, plainKeys := false, apart := false, narrowed := true }
def PurgeSlotsUptoSaid : Prop := purgeSlotsUptoRow.holds Try.pinned (OpenSpec.upto purgeSlotsSpec)

/-- 'tipstafflaw30.PurgeOvers', WHERE WHAT IT READS IS OF BULK AT MOST 1048576: true; the input reads as it did. -/
def purgeOversUptoRow : OpenClaim := { program := "yteiehkafkcggeaa", sum := "70334ceef39d7883c06287eb36778db5723f3fd946ea64663e9c4aa202875ed0", func := "tipstaff/tipstafflaw30.PurgeOvers", spec := "purgeOvers", unfollowed := true, recurses := true, plainKeys := false, apart := false, narrowed := true }
def PurgeOversUptoSaid : Prop := purgeOversUptoRow.holds Try.pinned (OpenSpec.upto purgeOversSpec)

/-- 'tipstafflaw30.PurgeKnown', WHERE WHAT IT READS IS OF BULK AT MOST 1048576: true; the input reads as it did. -/
def purgeKnownUptoRow : OpenClaim := { program := "yteiehkafkcggeaa", sum := "70334ceef39d7883c06287eb36778db5723f3fd946ea64663e9c4aa202875ed0", func := "tipstaff/tipstafflaw30.PurgeKnown", spec := "purgeKnown", unfollowed := true, recurses := true, plainKeys := false, apart := false, narrowed := true }
def PurgeKnownUptoSaid : Prop := purgeKnownUptoRow.holds Try.pinned (OpenSpec.upto purgeKnownSpec)

/-- 'tipstafflaw30.PurgeClean', WHERE WHAT IT READS IS OF BULK AT MOST 1048576: true; the input reads as it did. -/
def purgeCleanUptoRow : OpenClaim := { program := "yteiehkafkcggeaa", sum := "70334ceef39d7883c06287eb36778db5723f3fd946ea64663e9c4aa202875ed0", func := "tipstaff/tipstafflaw30.PurgeClean", spec := "purgeClean", unfollowed := true, recurses := true, plainKeys := false, apart := false, narrowed := true }
def PurgeCleanUptoSaid : Prop := purgeCleanUptoRow.holds Try.pinned (OpenSpec.upto purgeCleanSpec)

/-- 'tipstafflaw30.PurgeWord', WHERE WHAT IT READS IS OF BULK AT MOST 1048576: true; the input reads as it did. -/
def purgeWordUptoRow : OpenClaim := { program := "yteiehkafkcggeaa", sum := "70334ceef39d7883c06287eb36778db5723f3fd946ea64663e9c4aa202875ed0", func := "tipstaff/tipstafflaw30.PurgeWord", spec := "purgeWord", unfollowed := true, recurses := true, plainKeys := false, apart := false, narrowed := true }
def PurgeWordUptoSaid : Prop := purgeWordUptoRow.holds Try.pinned (OpenSpec.upto purgeWordSpec)

/-- 'tipstafflaw30.PurgeHalls', WHERE WHAT IT READS IS OF BULK AT MOST 1048576: true; the input reads as it did. -/
def purgeHallsUptoRow : OpenClaim := { program := "yteiehkafkcggeaa", sum := "70334ceef39d7883c06287eb36778db5723f3fd946ea64663e9c4aa202875ed0", func := "tipstaff/tipstafflaw30.PurgeHalls", spec := "purgeHalls", unfollowed := true, recurses := true, plainKeys := false, apart := false, narrowed := true }
def PurgeHallsUptoSaid : Prop := purgeHallsUptoRow.holds Try.pinned (OpenSpec.upto purgeHallsSpec)

end Rows
end Go.Proofs.Yteiehkafkcggeaa
