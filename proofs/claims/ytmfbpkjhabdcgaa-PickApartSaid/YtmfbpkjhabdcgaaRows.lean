/-
  No cell of these rows narrows 'for every input' (looked for: loops, veiled, ifaces, maps, wideKeys, modest, calm, conditions, laid).
  DERIVED. THE GIVEN ROWS OF THIS SEAT. 26 by the template 'for every input the law returns true; each argument reads behind the call as it read before'; 0 by the template 'total and deterministic' (their statements: YtmfbpkjhabdcgaaTotals.lean).
  GIVEN WITH THE SEED: the statements are not yours to turn. If you find one false, say at which input.
  Laid BY PROGRAM, IN A SANDBOX (cutbox-rows.mjs): the forced cells as the released guide's own fill.sh prints them over the translation 0dc7adfa9a44103d… (all of the seat's roots in one cut). By AI agents, Wed Nov 11 2026. No macro, syntax, notation, axiom, sorry.
-/
import Derived.Test.YtmfbpkjhabdcgaaChecked
import GoSem.Claim
import GoSem.ClaimJoined
import GoSem.ClaimMapViews
import Derived.JoinedTies
import Derived.KernelRfl
namespace Go.Proofs.Ytmfbpkjhabdcgaa
/- THE CELL 'sum', in the pinned program and in every row, IS THE sha256 OF THE DUMP (.gsa) THAT YtmfbpkjhabdcgaaProg.lean LOADS. Nothing in Lean hashes anything: it is a label: what it is worth is what the hold of that sum in a sandbox is worth. -/
noncomputable def Try.pinned : Pinned := { name := "ytmfbpkjhabdcgaa", sum := "0dc7adfa9a44103d206a9601493ec30f26c70267c7eae72c8fdb801a45455272", checked := Try.checked }
namespace Rows
def none {H : Type} : Left H := { results := [], args := [] }

/-- 'tipstafflaw21.TableValid': WHATEVER THE INPUT: true; the input reads as it did. -/
def tableValidSpec : ChangeSpec := { name := "tableValid", fn := fun _ => fun
  | [d1, d2] => { results := [.lit (.bool true)], args := [d1, d2] }
  | _ => none }
def tableValidRow : OpenClaim := { program := "ytmfbpkjhabdcgaa", sum := "0dc7adfa9a44103d206a9601493ec30f26c70267c7eae72c8fdb801a45455272", func := "tipstaff/tipstafflaw21.TableValid", spec := "tableValid", unfollowed := true, recurses := true, plainKeys := false, apart := false }
def TableValidSaid : Prop := tableValidRow.holds Try.pinned (OpenSpec.ofChange tableValidSpec)

/-- ITS FALSE NEIGHBOUR: 'it returns false'. Refute it at one input. -/
def tableValidWrong : ChangeSpec := { name := "tableValid", fn := fun _ => fun
  | [d1, d2] => { results := [.lit (.bool false)], args := [d1, d2] }
  | _ => none }
def TableValidWrongFalsely : Prop := tableValidRow.holds Try.pinned (OpenSpec.ofChange tableValidWrong)

/-- 'tipstafflaw21.TableUrgent': WHATEVER THE INPUT: true; the input reads as it did. -/
def tableUrgentSpec : ChangeSpec := { name := "tableUrgent", fn := fun _ => fun
  | [d1, d2, d3, d4, d5] => { results := [.lit (.bool true)], args := [d1, d2, d3, d4, d5] }
  | _ => none }
def tableUrgentRow : OpenClaim := { program := "ytmfbpkjhabdcgaa", sum := "0dc7adfa9a44103d206a9601493ec30f26c70267c7eae72c8fdb801a45455272", func := "tipstaff/tipstafflaw21.TableUrgent", spec := "tableUrgent", unfollowed := true, recurses := true, plainKeys := false, apart := false }
def TableUrgentSaid : Prop := tableUrgentRow.holds Try.pinned (OpenSpec.ofChange tableUrgentSpec)

/-- ITS FALSE NEIGHBOUR: 'it returns false'. Refute it at one input. -/
def tableUrgentWrong : ChangeSpec := { name := "tableUrgent", fn := fun _ => fun
  | [d1, d2, d3, d4, d5] => { results := [.lit (.bool false)], args := [d1, d2, d3, d4, d5] }
  | _ => none }
def TableUrgentWrongFalsely : Prop := tableUrgentRow.holds Try.pinned (OpenSpec.ofChange tableUrgentWrong)

/-- 'tipstafflaw21.TableServes': WHATEVER THE INPUT: true; the input reads as it did. -/
def tableServesSpec : ChangeSpec := { name := "tableServes", fn := fun _ => fun
  | [d1, d2, d3] => { results := [.lit (.bool true)], args := [d1, d2, d3] }
  | _ => none }
def tableServesRow : OpenClaim := { program := "ytmfbpkjhabdcgaa", sum := "0dc7adfa9a44103d206a9601493ec30f26c70267c7eae72c8fdb801a45455272", func := "tipstaff/tipstafflaw21.TableServes", spec := "tableServes", unfollowed := true, recurses := true, plainKeys := false, apart := false }
def TableServesSaid : Prop := tableServesRow.holds Try.pinned (OpenSpec.ofChange tableServesSpec)

/-- ITS FALSE NEIGHBOUR: 'it returns false'. Refute it at one input. -/
def tableServesWrong : ChangeSpec := { name := "tableServes", fn := fun _ => fun
  | [d1, d2, d3] => { results := [.lit (.bool false)], args := [d1, d2, d3] }
  | _ => none }
def TableServesWrongFalsely : Prop := tableServesRow.holds Try.pinned (OpenSpec.ofChange tableServesWrong)

/-- 'tipstafflaw21.TableLooks': WHATEVER THE INPUT: true; the input reads as it did. -/
def tableLooksSpec : ChangeSpec := { name := "tableLooks", fn := fun _ => fun
  | [d1, d2, d3, d4] => { results := [.lit (.bool true)], args := [d1, d2, d3, d4] }
  | _ => none }
def tableLooksRow : OpenClaim := { program := "ytmfbpkjhabdcgaa", sum := "0dc7adfa9a44103d206a9601493ec30f26c70267c7eae72c8fdb801a45455272", func := "tipstaff/tipstafflaw21.TableLooks", spec := "tableLooks", unfollowed := true, recurses := true, plainKeys := false, apart := false }
def TableLooksSaid : Prop := tableLooksRow.holds Try.pinned (OpenSpec.ofChange tableLooksSpec)

/-- ITS FALSE NEIGHBOUR: 'it returns false'. Refute it at one input. -/
def tableLooksWrong : ChangeSpec := { name := "tableLooks", fn := fun _ => fun
  | [d1, d2, d3, d4] => { results := [.lit (.bool false)], args := [d1, d2, d3, d4] }
  | _ => none }
def TableLooksWrongFalsely : Prop := tableLooksRow.holds Try.pinned (OpenSpec.ofChange tableLooksWrong)

/-- 'tipstafflaw21.TableKeeps': WHATEVER THE INPUT: true; the input reads as it did. -/
def tableKeepsSpec : ChangeSpec := { name := "tableKeeps", fn := fun _ => fun
  | [d1, d2, d3, d4] => { results := [.lit (.bool true)], args := [d1, d2, d3, d4] }
  | _ => none }
def tableKeepsRow : OpenClaim := { program := "ytmfbpkjhabdcgaa", sum := "0dc7adfa9a44103d206a9601493ec30f26c70267c7eae72c8fdb801a45455272", func := "tipstaff/tipstafflaw21.TableKeeps", spec := "tableKeeps", unfollowed := true, recurses := true, plainKeys := false, apart := false }
def TableKeepsSaid : Prop := tableKeepsRow.holds Try.pinned (OpenSpec.ofChange tableKeepsSpec)

/-- ITS FALSE NEIGHBOUR: 'it returns false'. Refute it at one input. -/
def tableKeepsWrong : ChangeSpec := { name := "tableKeeps", fn := fun _ => fun
  | [d1, d2, d3, d4] => { results := [.lit (.bool false)], args := [d1, d2, d3, d4] }
  | _ => none }
def TableKeepsWrongFalsely : Prop := tableKeepsRow.holds Try.pinned (OpenSpec.ofChange tableKeepsWrong)

/-- 'tipstafflaw21.TableKnown': WHATEVER THE INPUT: true; the input reads as it did. -/
def tableKnownSpec : ChangeSpec := { name := "tableKnown", fn := fun _ => fun
  | [] => { results := [.lit (.bool true)], args := [] }
  | _ => none }
def tableKnownRow : OpenClaim := { program := "ytmfbpkjhabdcgaa", sum := "0dc7adfa9a44103d206a9601493ec30f26c70267c7eae72c8fdb801a45455272", func := "tipstaff/tipstafflaw21.TableKnown", spec := "tableKnown", unfollowed := true, recurses := true, plainKeys := false, apart := false }
def TableKnownSaid : Prop := tableKnownRow.holds Try.pinned (OpenSpec.ofChange tableKnownSpec)

/-- ITS FALSE NEIGHBOUR: 'it returns false'. Refute it at one input. -/
def tableKnownWrong : ChangeSpec := { name := "tableKnown", fn := fun _ => fun
  | [] => { results := [.lit (.bool false)], args := [] }
  | _ => none }
def TableKnownWrongFalsely : Prop := tableKnownRow.holds Try.pinned (OpenSpec.ofChange tableKnownWrong)

/-- 'tipstafflaw28.PickUrgent': WHATEVER THE INPUT: true; the input reads as it did. -/
def pickUrgentSpec : ChangeSpec := { name := "pickUrgent", fn := fun _ => fun
  | [d1, d2, d3, d4] => { results := [.lit (.bool true)], args := [d1, d2, d3, d4] }
  | _ => none }
def pickUrgentRow : OpenClaim := { program := "ytmfbpkjhabdcgaa", sum := "0dc7adfa9a44103d206a9601493ec30f26c70267c7eae72c8fdb801a45455272", func := "tipstaff/tipstafflaw28.PickUrgent", spec := "pickUrgent", unfollowed := true, recurses := true, plainKeys := false, apart := false }
def PickUrgentSaid : Prop := pickUrgentRow.holds Try.pinned (OpenSpec.ofChange pickUrgentSpec)

/-- ITS FALSE NEIGHBOUR: 'it returns false'. Refute it at one input. -/
def pickUrgentWrong : ChangeSpec := { name := "pickUrgent", fn := fun _ => fun
  | [d1, d2, d3, d4] => { results := [.lit (.bool false)], args := [d1, d2, d3, d4] }
  | _ => none }
def PickUrgentWrongFalsely : Prop := pickUrgentRow.holds Try.pinned (OpenSpec.ofChange pickUrgentWrong)

/-- 'tipstafflaw28.PickApart': WHATEVER THE INPUT: true; the input reads as it did. -/
def pickApartSpec : ChangeSpec := { name := "pickApart", fn := fun _ => fun
  | [d1, d2, d3] => { results := [.lit (.bool true)], args := [d1, d2, d3] }
  | _ => none }
def pickApartRow : OpenClaim := { program := "ytmfbpkjhabdcgaa", sum := "0dc7adfa9a44103d206a9601493ec30f26c70267c7eae72c8fdb801a45455272", func := "tipstaff/tipstafflaw28.PickApart", spec := "pickApart", unfollowed := true, recurses := true, plainKeys := false, apart := false }
def PickApartSaid : Prop := pickApartRow.holds Try.pinned (OpenSpec.ofChange pickApartSpec)

/-- ITS FALSE NEIGHBOUR: 'it returns false'. Refute it at one input. -/
def pickApartWrong : ChangeSpec := { name := "pickApart", fn := fun _ => fun
  | [d1, d2, d3] => { results := [.lit (.bool false)], args := [d1, d2, d3] }
  | _ => none }
def PickApartWrongFalsely : Prop := pickApartRow.holds Try.pinned (OpenSpec.ofChange pickApartWrong)

/-- 'tipstafflaw28.PickTrue': WHATEVER THE INPUT: true; the input reads as it did. -/
def pickTrueSpec : ChangeSpec := { name := "pickTrue", fn := fun _ => fun
  | [d1, d2, d3] => { results := [.lit (.bool true)], args := [d1, d2, d3] }
  | _ => none }
def pickTrueRow : OpenClaim := { program := "ytmfbpkjhabdcgaa", sum := "0dc7adfa9a44103d206a9601493ec30f26c70267c7eae72c8fdb801a45455272", func := "tipstaff/tipstafflaw28.PickTrue", spec := "pickTrue", unfollowed := true, recurses := true, plainKeys := false, apart := false }
def PickTrueSaid : Prop := pickTrueRow.holds Try.pinned (OpenSpec.ofChange pickTrueSpec)

/-- ITS FALSE NEIGHBOUR: 'it returns false'. Refute it at one input. -/
def pickTrueWrong : ChangeSpec := { name := "pickTrue", fn := fun _ => fun
  | [d1, d2, d3] => { results := [.lit (.bool false)], args := [d1, d2, d3] }
  | _ => none }
def PickTrueWrongFalsely : Prop := pickTrueRow.holds Try.pinned (OpenSpec.ofChange pickTrueWrong)

/-- 'tipstafflaw28.PickCalls': WHATEVER THE INPUT: true; the input reads as it did. -/
def pickCallsSpec : ChangeSpec := { name := "pickCalls", fn := fun _ => fun
  | [d1, d2] => { results := [.lit (.bool true)], args := [d1, d2] }
  | _ => none }
def pickCallsRow : OpenClaim := { program := "ytmfbpkjhabdcgaa", sum := "0dc7adfa9a44103d206a9601493ec30f26c70267c7eae72c8fdb801a45455272", func := "tipstaff/tipstafflaw28.PickCalls", spec := "pickCalls", unfollowed := true, recurses := true, plainKeys := false, apart := false }
def PickCallsSaid : Prop := pickCallsRow.holds Try.pinned (OpenSpec.ofChange pickCallsSpec)

/-- ITS FALSE NEIGHBOUR: 'it returns false'. Refute it at one input. -/
def pickCallsWrong : ChangeSpec := { name := "pickCalls", fn := fun _ => fun
  | [d1, d2] => { results := [.lit (.bool false)], args := [d1, d2] }
  | _ => none }
def PickCallsWrongFalsely : Prop := pickCallsRow.holds Try.pinned (OpenSpec.ofChange pickCallsWrong)

/-- 'tipstafflaw28.PickOrder': WHATEVER THE INPUT: true; the input reads as it did. -/
def pickOrderSpec : ChangeSpec := { name := "pickOrder", fn := fun _ => fun
  | [d1, d2, d3, d4] => { results := [.lit (.bool true)], args := [d1, d2, d3, d4] }
  | _ => none }
def pickOrderRow : OpenClaim := { program := "ytmfbpkjhabdcgaa", sum := "0dc7adfa9a44103d206a9601493ec30f26c70267c7eae72c8fdb801a45455272", func := "tipstaff/tipstafflaw28.PickOrder", spec := "pickOrder", unfollowed := true, recurses := true, plainKeys := false, apart := false }
def PickOrderSaid : Prop := pickOrderRow.holds Try.pinned (OpenSpec.ofChange pickOrderSpec)

/-- ITS FALSE NEIGHBOUR: 'it returns false'. Refute it at one input. -/
def pickOrderWrong : ChangeSpec := { name := "pickOrder", fn := fun _ => fun
  | [d1, d2, d3, d4] => { results := [.lit (.bool false)], args := [d1, d2, d3, d4] }
  | _ => none }
def PickOrderWrongFalsely : Prop := pickOrderRow.holds Try.pinned (OpenSpec.ofChange pickOrderWrong)

/-- 'tipstafflaw28.PickKnown': WHATEVER THE INPUT: true; the input reads as it did. -/
def pickKnownSpec : ChangeSpec := { name := "pickKnown", fn := fun _ => fun
  | [] => { results := [.lit (.bool true)], args := [] }
  | _ => none }
def pickKnownRow : OpenClaim := { program := "ytmfbpkjhabdcgaa", sum := "0dc7adfa9a44103d206a9601493ec30f26c70267c7eae72c8fdb801a45455272", func := "tipstaff/tipstafflaw28.PickKnown", spec := "pickKnown", unfollowed := true, recurses := true, plainKeys := false, apart := false }
def PickKnownSaid : Prop := pickKnownRow.holds Try.pinned (OpenSpec.ofChange pickKnownSpec)

/-- ITS FALSE NEIGHBOUR: 'it returns false'. Refute it at one input. -/
def pickKnownWrong : ChangeSpec := { name := "pickKnown", fn := fun _ => fun
  | [] => { results := [.lit (.bool false)], args := [] }
  | _ => none }
def PickKnownWrongFalsely : Prop := pickKnownRow.holds Try.pinned (OpenSpec.ofChange pickKnownWrong)

/-- 'tipstafflaw28.PickGoals': WHATEVER THE INPUT: true; the input reads as it did. -/
def pickGoalsSpec : ChangeSpec := { name := "pickGoals", fn := fun _ => fun
  | [d1, d2] => { results := [.lit (.bool true)], args := [d1, d2] }
  | _ => none }
def pickGoalsRow : OpenClaim := { program := "ytmfbpkjhabdcgaa", sum := "0dc7adfa9a44103d206a9601493ec30f26c70267c7eae72c8fdb801a45455272", func := "tipstaff/tipstafflaw28.PickGoals", spec := "pickGoals", unfollowed := true, recurses := true, plainKeys := false, apart := false }
def PickGoalsSaid : Prop := pickGoalsRow.holds Try.pinned (OpenSpec.ofChange pickGoalsSpec)

/-- ITS FALSE NEIGHBOUR: 'it returns false'. Refute it at one input. -/
def pickGoalsWrong : ChangeSpec := { name := "pickGoals", fn := fun _ => fun
  | [d1, d2] => { results := [.lit (.bool false)], args := [d1, d2] }
  | _ => none }
def PickGoalsWrongFalsely : Prop := pickGoalsRow.holds Try.pinned (OpenSpec.ofChange pickGoalsWrong)

/-- 'tipstafflaw30.PurgeSlots': WHATEVER THE INPUT: true; the input reads as it did. -/
def purgeSlotsSpec : ChangeSpec := { name := "purgeSlots", fn := fun _ => fun
  | [d1, d2, d3, d4, d5] => { results := [.lit (.bool true)], args := [d1, d2, d3, d4, d5] }
  | _ => none }
def purgeSlotsRow : OpenClaim := { program := "ytmfbpkjhabdcgaa", sum := "0dc7adfa9a44103d206a9601493ec30f26c70267c7eae72c8fdb801a45455272", func := "tipstaff/tipstafflaw30.PurgeSlots", spec := "purgeSlots", unfollowed := true, recurses := true, plainKeys := false, apart := false }
def PurgeSlotsSaid : Prop := purgeSlotsRow.holds Try.pinned (OpenSpec.ofChange purgeSlotsSpec)

/-- ITS FALSE NEIGHBOUR: 'it returns false'. Refute it at one input. -/
def purgeSlotsWrong : ChangeSpec := { name := "purgeSlots", fn := fun _ => fun
  | [d1, d2, d3, d4, d5] => { results := [.lit (.bool false)], args := [d1, d2, d3, d4, d5] }
  | _ => none }
def PurgeSlotsWrongFalsely : Prop := purgeSlotsRow.holds Try.pinned (OpenSpec.ofChange purgeSlotsWrong)

/-- 'tipstafflaw30.PurgeOvers': WHATEVER THE INPUT: true; the input reads as it did. -/
def purgeOversSpec : ChangeSpec := { name := "purgeOvers", fn := fun _ => fun
  | [d1, d2] => { results := [.lit (.bool true)], args := [d1, d2] }
  | _ => none }
def purgeOversRow : OpenClaim := { program := "ytmfbpkjhabdcgaa", sum := "0dc7adfa9a44103d206a9601493ec30f26c70267c7eae72c8fdb801a45455272", func := "tipstaff/tipstafflaw30.PurgeOvers", spec := "purgeOvers", unfollowed := true, recurses := true, plainKeys := false, apart := false }
def PurgeOversSaid : Prop := purgeOversRow.holds Try.pinned (OpenSpec.ofChange purgeOversSpec)

/-- ITS FALSE NEIGHBOUR: 'it returns false'. Refute it at one input. -/
def purgeOversWrong : ChangeSpec := { name := "purgeOvers", fn := fun _ => fun
  | [d1, d2] => { results := [.lit (.bool false)], args := [d1, d2] }
  | _ => none }
def PurgeOversWrongFalsely : Prop := purgeOversRow.holds Try.pinned (OpenSpec.ofChange purgeOversWrong)

/-- 'tipstafflaw30.PurgeKnown': WHATEVER THE INPUT: true; the input reads as it did. -/
def purgeKnownSpec : ChangeSpec := { name := "purgeKnown", fn := fun _ => fun
  | [] => { results := [.lit (.bool true)], args := [] }
  | _ => none }
def purgeKnownRow : OpenClaim := { program := "ytmfbpkjhabdcgaa", sum := "0dc7adfa9a44103d206a9601493ec30f26c70267c7eae72c8fdb801a45455272", func := "tipstaff/tipstafflaw30.PurgeKnown", spec := "purgeKnown", unfollowed := true, recurses := true, plainKeys := false, apart := false }
def PurgeKnownSaid : Prop := purgeKnownRow.holds Try.pinned (OpenSpec.ofChange purgeKnownSpec)

/-- ITS FALSE NEIGHBOUR: 'it returns false'. Refute it at one input. -/
def purgeKnownWrong : ChangeSpec := { name := "purgeKnown", fn := fun _ => fun
  | [] => { results := [.lit (.bool false)], args := [] }
  | _ => none }
def PurgeKnownWrongFalsely : Prop := purgeKnownRow.holds Try.pinned (OpenSpec.ofChange purgeKnownWrong)

/-- 'tipstafflaw30.PurgeClean': WHATEVER THE INPUT: true; the input reads as it did. -/
def purgeCleanSpec : ChangeSpec := { name := "purgeClean", fn := fun _ => fun
  | [d1, d2] => { results := [.lit (.bool true)], args := [d1, d2] }
  | _ => none }
def purgeCleanRow : OpenClaim := { program := "ytmfbpkjhabdcgaa", sum := "0dc7adfa9a44103d206a9601493ec30f26c70267c7eae72c8fdb801a45455272", func := "tipstaff/tipstafflaw30.PurgeClean", spec := "purgeClean", unfollowed := true, recurses := true, plainKeys := false, apart := false }
def PurgeCleanSaid : Prop := purgeCleanRow.holds Try.pinned (OpenSpec.ofChange purgeCleanSpec)

/-- ITS FALSE NEIGHBOUR: 'it returns false'. Refute it at one input. -/
def purgeCleanWrong : ChangeSpec := { name := "purgeClean", fn := fun _ => fun
  | [d1, d2] => { results := [.lit (.bool false)], args := [d1, d2] }
  | _ => none }
def PurgeCleanWrongFalsely : Prop := purgeCleanRow.holds Try.pinned (OpenSpec.ofChange purgeCleanWrong)

/-- 'tipstafflaw30.PurgeWord': WHATEVER THE INPUT: true; the input reads as it did. -/
def purgeWordSpec : ChangeSpec := { name := "purgeWord", fn := fun _ => fun
  | [d1, d2, d3, d4] => { results := [.lit (.bool true)], args := [d1, d2, d3, d4] }
  | _ => none }
def purgeWordRow : OpenClaim := { program := "ytmfbpkjhabdcgaa", sum := "0dc7adfa9a44103d206a9601493ec30f26c70267c7eae72c8fdb801a45455272", func := "tipstaff/tipstafflaw30.PurgeWord", spec := "purgeWord", unfollowed := true, recurses := true, plainKeys := false, apart := false }
def PurgeWordSaid : Prop := purgeWordRow.holds Try.pinned (OpenSpec.ofChange purgeWordSpec)

/-- ITS FALSE NEIGHBOUR: 'it returns false'. Refute it at one input. -/
def purgeWordWrong : ChangeSpec := { name := "purgeWord", fn := fun _ => fun
  | [d1, d2, d3, d4] => { results := [.lit (.bool false)], args := [d1, d2, d3, d4] }
  | _ => none }
def PurgeWordWrongFalsely : Prop := purgeWordRow.holds Try.pinned (OpenSpec.ofChange purgeWordWrong)

/-- 'tipstafflaw30.PurgeHalls': WHATEVER THE INPUT: true; the input reads as it did. -/
def purgeHallsSpec : ChangeSpec := { name := "purgeHalls", fn := fun _ => fun
  | [d] => { results := [.lit (.bool true)], args := [d] }
  | _ => none }
def purgeHallsRow : OpenClaim := { program := "ytmfbpkjhabdcgaa", sum := "0dc7adfa9a44103d206a9601493ec30f26c70267c7eae72c8fdb801a45455272", func := "tipstaff/tipstafflaw30.PurgeHalls", spec := "purgeHalls", unfollowed := true, recurses := true, plainKeys := false, apart := false }
def PurgeHallsSaid : Prop := purgeHallsRow.holds Try.pinned (OpenSpec.ofChange purgeHallsSpec)

/-- ITS FALSE NEIGHBOUR: 'it returns false'. Refute it at one input. -/
def purgeHallsWrong : ChangeSpec := { name := "purgeHalls", fn := fun _ => fun
  | [d] => { results := [.lit (.bool false)], args := [d] }
  | _ => none }
def PurgeHallsWrongFalsely : Prop := purgeHallsRow.holds Try.pinned (OpenSpec.ofChange purgeHallsWrong)

/-- 'tipstafflaw29.AssignServes': WHATEVER THE INPUT: true; the input reads as it did. -/
def assignServesSpec : ChangeSpec := { name := "assignServes", fn := fun _ => fun
  | [d1, d2] => { results := [.lit (.bool true)], args := [d1, d2] }
  | _ => none }
def assignServesRow : OpenClaim := { program := "ytmfbpkjhabdcgaa", sum := "0dc7adfa9a44103d206a9601493ec30f26c70267c7eae72c8fdb801a45455272", func := "tipstaff/tipstafflaw29.AssignServes", spec := "assignServes", unfollowed := true, recurses := true, plainKeys := false, apart := false }
def AssignServesSaid : Prop := assignServesRow.holds Try.pinned (OpenSpec.ofChange assignServesSpec)

/-- ITS FALSE NEIGHBOUR: 'it returns false'. Refute it at one input. -/
def assignServesWrong : ChangeSpec := { name := "assignServes", fn := fun _ => fun
  | [d1, d2] => { results := [.lit (.bool false)], args := [d1, d2] }
  | _ => none }
def AssignServesWrongFalsely : Prop := assignServesRow.holds Try.pinned (OpenSpec.ofChange assignServesWrong)

/-- 'tipstafflaw29.AssignKnown': WHATEVER THE INPUT: true; the input reads as it did. -/
def assignKnownSpec : ChangeSpec := { name := "assignKnown", fn := fun _ => fun
  | [] => { results := [.lit (.bool true)], args := [] }
  | _ => none }
def assignKnownRow : OpenClaim := { program := "ytmfbpkjhabdcgaa", sum := "0dc7adfa9a44103d206a9601493ec30f26c70267c7eae72c8fdb801a45455272", func := "tipstaff/tipstafflaw29.AssignKnown", spec := "assignKnown", unfollowed := true, recurses := true, plainKeys := false, apart := false }
def AssignKnownSaid : Prop := assignKnownRow.holds Try.pinned (OpenSpec.ofChange assignKnownSpec)

/-- ITS FALSE NEIGHBOUR: 'it returns false'. Refute it at one input. -/
def assignKnownWrong : ChangeSpec := { name := "assignKnown", fn := fun _ => fun
  | [] => { results := [.lit (.bool false)], args := [] }
  | _ => none }
def AssignKnownWrongFalsely : Prop := assignKnownRow.holds Try.pinned (OpenSpec.ofChange assignKnownWrong)

/-- 'tipstafflaw29.AssignTurns': WHATEVER THE INPUT: true; the input reads as it did. -/
def assignTurnsSpec : ChangeSpec := { name := "assignTurns", fn := fun _ => fun
  | [d1, d2] => { results := [.lit (.bool true)], args := [d1, d2] }
  | _ => none }
def assignTurnsRow : OpenClaim := { program := "ytmfbpkjhabdcgaa", sum := "0dc7adfa9a44103d206a9601493ec30f26c70267c7eae72c8fdb801a45455272", func := "tipstaff/tipstafflaw29.AssignTurns", spec := "assignTurns", unfollowed := true, recurses := true, plainKeys := false, apart := false }
def AssignTurnsSaid : Prop := assignTurnsRow.holds Try.pinned (OpenSpec.ofChange assignTurnsSpec)

/-- ITS FALSE NEIGHBOUR: 'it returns false'. Refute it at one input. -/
def assignTurnsWrong : ChangeSpec := { name := "assignTurns", fn := fun _ => fun
  | [d1, d2] => { results := [.lit (.bool false)], args := [d1, d2] }
  | _ => none }
def AssignTurnsWrongFalsely : Prop := assignTurnsRow.holds Try.pinned (OpenSpec.ofChange assignTurnsWrong)

/-- 'tipstafflaw29.AssignUrgent': WHATEVER THE INPUT: true; the input reads as it did. -/
def assignUrgentSpec : ChangeSpec := { name := "assignUrgent", fn := fun _ => fun
  | [d1, d2, d3] => { results := [.lit (.bool true)], args := [d1, d2, d3] }
  | _ => none }
def assignUrgentRow : OpenClaim := { program := "ytmfbpkjhabdcgaa", sum := "0dc7adfa9a44103d206a9601493ec30f26c70267c7eae72c8fdb801a45455272", func := "tipstaff/tipstafflaw29.AssignUrgent", spec := "assignUrgent", unfollowed := true, recurses := true, plainKeys := false, apart := false }
def AssignUrgentSaid : Prop := assignUrgentRow.holds Try.pinned (OpenSpec.ofChange assignUrgentSpec)

/-- ITS FALSE NEIGHBOUR: 'it returns false'. Refute it at one input. -/
def assignUrgentWrong : ChangeSpec := { name := "assignUrgent", fn := fun _ => fun
  | [d1, d2, d3] => { results := [.lit (.bool false)], args := [d1, d2, d3] }
  | _ => none }
def AssignUrgentWrongFalsely : Prop := assignUrgentRow.holds Try.pinned (OpenSpec.ofChange assignUrgentWrong)

/-- 'tipstafflaw29.AssignShares': WHATEVER THE INPUT: true; the input reads as it did. -/
def assignSharesSpec : ChangeSpec := { name := "assignShares", fn := fun _ => fun
  | [d1, d2] => { results := [.lit (.bool true)], args := [d1, d2] }
  | _ => none }
def assignSharesRow : OpenClaim := { program := "ytmfbpkjhabdcgaa", sum := "0dc7adfa9a44103d206a9601493ec30f26c70267c7eae72c8fdb801a45455272", func := "tipstaff/tipstafflaw29.AssignShares", spec := "assignShares", unfollowed := true, recurses := true, plainKeys := false, apart := false }
def AssignSharesSaid : Prop := assignSharesRow.holds Try.pinned (OpenSpec.ofChange assignSharesSpec)

/-- ITS FALSE NEIGHBOUR: 'it returns false'. Refute it at one input. -/
def assignSharesWrong : ChangeSpec := { name := "assignShares", fn := fun _ => fun
  | [d1, d2] => { results := [.lit (.bool false)], args := [d1, d2] }
  | _ => none }
def AssignSharesWrongFalsely : Prop := assignSharesRow.holds Try.pinned (OpenSpec.ofChange assignSharesWrong)

/-- 'tipstafflaw29.AssignFewer': WHATEVER THE INPUT: true; the input reads as it did. -/
def assignFewerSpec : ChangeSpec := { name := "assignFewer", fn := fun _ => fun
  | [d1, d2, d3] => { results := [.lit (.bool true)], args := [d1, d2, d3] }
  | _ => none }
def assignFewerRow : OpenClaim := { program := "ytmfbpkjhabdcgaa", sum := "0dc7adfa9a44103d206a9601493ec30f26c70267c7eae72c8fdb801a45455272", func := "tipstaff/tipstafflaw29.AssignFewer", spec := "assignFewer", unfollowed := true, recurses := true, plainKeys := false, apart := false }
def AssignFewerSaid : Prop := assignFewerRow.holds Try.pinned (OpenSpec.ofChange assignFewerSpec)

/-- ITS FALSE NEIGHBOUR: 'it returns false'. Refute it at one input. -/
def assignFewerWrong : ChangeSpec := { name := "assignFewer", fn := fun _ => fun
  | [d1, d2, d3] => { results := [.lit (.bool false)], args := [d1, d2, d3] }
  | _ => none }
def AssignFewerWrongFalsely : Prop := assignFewerRow.holds Try.pinned (OpenSpec.ofChange assignFewerWrong)

/-- 'tipstafflaw29.AssignPlans': WHATEVER THE INPUT: true; the input reads as it did. -/
def assignPlansSpec : ChangeSpec := { name := "assignPlans", fn := fun _ => fun
  | [d1, d2, d3] => { results := [.lit (.bool true)], args := [d1, d2, d3] }
  | _ => none }
def assignPlansRow : OpenClaim := { program := "ytmfbpkjhabdcgaa", sum := "0dc7adfa9a44103d206a9601493ec30f26c70267c7eae72c8fdb801a45455272", func := "tipstaff/tipstafflaw29.AssignPlans", spec := "assignPlans", unfollowed := true, recurses := true, plainKeys := false, apart := false }
def AssignPlansSaid : Prop := assignPlansRow.holds Try.pinned (OpenSpec.ofChange assignPlansSpec)

/-- ITS FALSE NEIGHBOUR: 'it returns false'. Refute it at one input. -/
def assignPlansWrong : ChangeSpec := { name := "assignPlans", fn := fun _ => fun
  | [d1, d2, d3] => { results := [.lit (.bool false)], args := [d1, d2, d3] }
  | _ => none }
def AssignPlansWrongFalsely : Prop := assignPlansRow.holds Try.pinned (OpenSpec.ofChange assignPlansWrong)

/- THE SECOND FORM. 'bulk': how many values and letters a reading holds, each counted each time it is reached (what is shared counts as often as it is met; a slice's spare places count too). A statement '..UptoSaid' is the law's where the arguments, and the package variables that the reading takes, are together of bulk at most 1048576: NARROWER than '..Said'. Prove '..Said' where nothing that the law and all that it calls make is longer than what came in: it says more and counts as full. Else prove '..UptoSaid'. A law counts once. -/
mutual
def uptoBulk {H : Type} : DataW H → Nat
  | .lit (.string bytes) => bytes.length + 1
  | .lit _ => 1
  | .nil => 1
  | .ptr d => uptoBulk d + 1
  | .slice elems spare => uptoBulkAll elems + uptoBulkAll spare + 1
  | .agg parts => uptoBulkAll parts + 1
  | .iface _ d => uptoBulk d + 1
  | .map entries => uptoBulkEntries entries + 1
  | .held _ => 1
def uptoBulkAll {H : Type} : List (DataW H) → Nat
  | [] => 0
  | d :: r => uptoBulk d + uptoBulkAll r
def uptoBulkEntries {H : Type} : List (Lit × DataW H) → Nat
  | [] => 0
  | x :: r => uptoBulkEntry x + uptoBulkEntries r
def uptoBulkEntry {H : Type} : Lit × DataW H → Nat
  | (.string bytes, d) => bytes.length + uptoBulk d + 1
  | (_, d) => uptoBulk d + 1
 end
def uptoSmall : (H : Type) → List (DataW H) → Bool := fun _ ds => decide (uptoBulkAll ds ≤ 1048576)
def OpenSpec.upto (s : _root_.Go.ChangeSpec) : _root_.Go.OpenSpec := { _root_.Go.OpenSpec.ofChange s with cond := some uptoSmall }

/-- 'tipstafflaw21.TableValid', WHERE WHAT IT READS IS OF BULK AT MOST 1048576: true; the input reads as it did. -/
def tableValidUptoRow : OpenClaim := { program := "ytmfbpkjhabdcgaa", sum := "0dc7adfa9a44103d206a9601493ec30f26c70267c7eae72c8fdb801a45455272", func := "tipstaff/tipstafflaw21.TableValid", spec := "tableValid", unfollowed := true, recurses := true, plainKeys := false, apart := false, narrowed := true }
def TableValidUptoSaid : Prop := tableValidUptoRow.holds Try.pinned (OpenSpec.upto tableValidSpec)

/-- 'tipstafflaw21.TableUrgent', WHERE WHAT IT READS IS OF BULK AT MOST 1048576: true; the input reads as it did. -/
def tableUrgentUptoRow : OpenClaim := { program := "ytmfbpkjhabdcgaa", sum := "0dc7adfa9a44103d206a9601493ec30f26c70267c7eae72c8fdb801a45455272", func := "tipstaff/tipstafflaw21.TableUrgent", spec := "tableUrgent", unfollowed := true, recurses := true, plainKeys := false, apart := false, narrowed := true }
def TableUrgentUptoSaid : Prop := tableUrgentUptoRow.holds Try.pinned (OpenSpec.upto tableUrgentSpec)

/-- 'tipstafflaw21.TableServes', WHERE WHAT IT READS IS OF BULK AT MOST 1048576: true; the input reads as it did. -/
def tableServesUptoRow : OpenClaim := { program := "ytmfbpkjhabdcgaa", sum := "0dc7adfa9a44103d206a9601493ec30f26c70267c7eae72c8fdb801a45455272", func := "tipstaff/tipstafflaw21.TableServes", spec := "tableServes", unfollowed := true, recurses := true, plainKeys := false, apart := false, narrowed := true }
def TableServesUptoSaid : Prop := tableServesUptoRow.holds Try.pinned (OpenSpec.upto tableServesSpec)

/-- 'tipstafflaw21.TableLooks', WHERE WHAT IT READS IS OF BULK AT MOST 1048576: true; the input reads as it did. -/
def tableLooksUptoRow : OpenClaim := { program := "ytmfbpkjhabdcgaa", sum := "0dc7adfa9a44103d206a9601493ec30f26c70267c7eae72c8fdb801a45455272", func := "tipstaff/tipstafflaw21.TableLooks", spec := "tableLooks", unfollowed := true, recurses := true, plainKeys := false, apart := false, narrowed := true }
def TableLooksUptoSaid : Prop := tableLooksUptoRow.holds Try.pinned (OpenSpec.upto tableLooksSpec)

/-- 'tipstafflaw21.TableKeeps', WHERE WHAT IT READS IS OF BULK AT MOST 1048576: true; the input reads as it did. -/
def tableKeepsUptoRow : OpenClaim := { program := "ytmfbpkjhabdcgaa", sum := "0dc7adfa9a44103d206a9601493ec30f26c70267c7eae72c8fdb801a45455272", func := "tipstaff/tipstafflaw21.TableKeeps", spec := "tableKeeps", unfollowed := true, recurses := true, plainKeys := false, apart := false, narrowed := true }
def TableKeepsUptoSaid : Prop := tableKeepsUptoRow.holds Try.pinned (OpenSpec.upto tableKeepsSpec)

/-- 'tipstafflaw21.TableKnown', WHERE WHAT IT READS IS OF BULK AT MOST 1048576: true; the input reads as it did. -/
def tableKnownUptoRow : OpenClaim := { program := "ytmfbpkjhabdcgaa", sum := "0dc7adfa9a44103d206a9601493ec30f26c70267c7eae72c8fdb801a45455272", func := "tipstaff/tipstafflaw21.TableKnown", spec := "tableKnown", unfollowed := true, recurses := true, plainKeys := false, apart := false, narrowed := true }
def TableKnownUptoSaid : Prop := tableKnownUptoRow.holds Try.pinned (OpenSpec.upto tableKnownSpec)

/-- 'tipstafflaw28.PickUrgent', WHERE WHAT IT READS IS OF BULK AT MOST 1048576: true; the input reads as it did. -/
def pickUrgentUptoRow : OpenClaim := { program := "ytmfbpkjhabdcgaa", sum := "0dc7adfa9a44103d206a9601493ec30f26c70267c7eae72c8fdb801a45455272", func := "tipstaff/tipstafflaw28.PickUrgent", spec := "pickUrgent", unfollowed := true, recurses := true, plainKeys := false, apart := false, narrowed := true }
def PickUrgentUptoSaid : Prop := pickUrgentUptoRow.holds Try.pinned (OpenSpec.upto pickUrgentSpec)

/-- 'tipstafflaw28.PickApart', WHERE WHAT IT READS IS OF BULK AT MOST 1048576: true; the input reads as it did. -/
def pickApartUptoRow : OpenClaim := { program := "ytmfbpkjhabdcgaa", sum := "0dc7adfa9a44103d206a9601493ec30f26c70267c7eae72c8fdb801a45455272", func := "tipstaff/tipstafflaw28.PickApart", spec := "pickApart", unfollowed := true, recurses := true, plainKeys := false, apart := false, narrowed := true }
def PickApartUptoSaid : Prop := pickApartUptoRow.holds Try.pinned (OpenSpec.upto pickApartSpec)

/-- 'tipstafflaw28.PickTrue', WHERE WHAT IT READS IS OF BULK AT MOST 1048576: true; the input reads as it did. -/
def pickTrueUptoRow : OpenClaim := { program := "ytmfbpkjhabdcgaa", sum := "0dc7adfa9a44103d206a9601493ec30f26c70267c7eae72c8fdb801a45455272", func := "tipstaff/tipstafflaw28.PickTrue", spec := "pickTrue", unfollowed := true, recurses := true, plainKeys := false, apart := false, narrowed := true }
def PickTrueUptoSaid : Prop := pickTrueUptoRow.holds Try.pinned (OpenSpec.upto pickTrueSpec)

/-- 'tipstafflaw28.PickCalls', WHERE WHAT IT READS IS OF BULK AT MOST 1048576: true; the input reads as it did. -/
def pickCallsUptoRow : OpenClaim := { program := "ytmfbpkjhabdcgaa", sum := "0dc7adfa9a44103d206a9601493ec30f26c70267c7eae72c8fdb801a45455272", func := "tipstaff/tipstafflaw28.PickCalls", spec := "pickCalls", unfollowed := true, recurses := true, plainKeys := false, apart := false, narrowed := true }
def PickCallsUptoSaid : Prop := pickCallsUptoRow.holds Try.pinned (OpenSpec.upto pickCallsSpec)

/-- 'tipstafflaw28.PickOrder', WHERE WHAT IT READS IS OF BULK AT MOST 1048576: true; the input reads as it did. -/
def pickOrderUptoRow : OpenClaim := { program := "ytmfbpkjhabdcgaa", sum := "0dc7adfa9a44103d206a9601493ec30f26c70267c7eae72c8fdb801a45455272", func := "tipstaff/tipstafflaw28.PickOrder", spec := "pickOrder", unfollowed := true, recurses := true, plainKeys := false, apart := false, narrowed := true }
def PickOrderUptoSaid : Prop := pickOrderUptoRow.holds Try.pinned (OpenSpec.upto pickOrderSpec)

/-- 'tipstafflaw28.PickKnown', WHERE WHAT IT READS IS OF BULK AT MOST 1048576: true; the input reads as it did. -/
def pickKnownUptoRow : OpenClaim := { program := "ytmfbpkjhabdcgaa", sum := "0dc7adfa9a44103d206a9601493ec30f26c70267c7eae72c8fdb801a45455272", func := "tipstaff/tipstafflaw28.PickKnown", spec := "pickKnown", unfollowed := true, recurses := true, plainKeys := false, apart := false, narrowed := true }
def PickKnownUptoSaid : Prop := pickKnownUptoRow.holds Try.pinned (OpenSpec.upto pickKnownSpec)

/-- 'tipstafflaw28.PickGoals', WHERE WHAT IT READS IS OF BULK AT MOST 1048576: true; the input reads as it did. -/
def pickGoalsUptoRow : OpenClaim := { program := "ytmfbpkjhabdcgaa", sum := "0dc7adfa9a44103d206a9601493ec30f26c70267c7eae72c8fdb801a45455272", func := "tipstaff/tipstafflaw28.PickGoals", spec := "pickGoals", unfollowed := true, recurses := true, plainKeys := false, apart := false, narrowed := true }
def PickGoalsUptoSaid : Prop := pickGoalsUptoRow.holds Try.pinned (OpenSpec.upto pickGoalsSpec)

/-- 'tipstafflaw30.PurgeSlots', WHERE WHAT IT READS IS OF BULK AT MOST 1048576: true; the input reads as it did. -/
def purgeSlotsUptoRow : OpenClaim := { program := "ytmfbpkjhabdcgaa", sum := "0dc7adfa9a44103d206a9601493ec30f26c70267c7eae72c8fdb801a45455272", func := "tipstaff/tipstafflaw30.PurgeSlots", spec := "purgeSlots", unfollowed := true, recurses := true, plainKeys := false, apart := false, narrowed := true }
def PurgeSlotsUptoSaid : Prop := purgeSlotsUptoRow.holds Try.pinned (OpenSpec.upto purgeSlotsSpec)

/-- 'tipstafflaw30.PurgeOvers', WHERE WHAT IT READS IS OF BULK AT MOST 1048576: true; the input reads as it did. -/
def purgeOversUptoRow : OpenClaim := { program := "ytmfbpkjhabdcgaa", sum := "0dc7adfa9a44103d206a9601493ec30f26c70267c7eae72c8fdb801a45455272", func := "tipstaff/tipstafflaw30.PurgeOvers", spec := "purgeOvers", unfollowed := true, recurses := true, plainKeys := false, apart := false, narrowed := true }
def PurgeOversUptoSaid : Prop := purgeOversUptoRow.holds Try.pinned (OpenSpec.upto purgeOversSpec)

/-- 'tipstafflaw30.PurgeKnown', WHERE WHAT IT READS IS OF BULK AT MOST 1048576: true; the input reads as it did. -/
def purgeKnownUptoRow : OpenClaim := { program := "ytmfbpkjhabdcgaa", sum := "0dc7adfa9a44103d206a9601493ec30f26c70267c7eae72c8fdb801a45455272", func := "tipstaff/tipstafflaw30.PurgeKnown", spec := "purgeKnown", unfollowed := true, recurses := true, plainKeys := false, apart := false, narrowed := true }
def PurgeKnownUptoSaid : Prop := purgeKnownUptoRow.holds Try.pinned (OpenSpec.upto purgeKnownSpec)

/-- 'tipstafflaw30.PurgeClean', WHERE WHAT IT READS IS OF BULK AT MOST 1048576: true; the input reads as it did. -/
def purgeCleanUptoRow : OpenClaim := { program := "ytmfbpkjhabdcgaa", sum := "0dc7adfa9a44103d206a9601493ec30f26c70267c7eae72c8fdb801a45455272", func := "tipstaff/tipstafflaw30.PurgeClean", spec := "purgeClean", unfollowed := true, recurses := true, plainKeys := false, apart := false, narrowed := true }
def PurgeCleanUptoSaid : Prop := purgeCleanUptoRow.holds Try.pinned (OpenSpec.upto purgeCleanSpec)

/-- 'tipstafflaw30.PurgeWord', WHERE WHAT IT READS IS OF BULK AT MOST 1048576: true; the input reads as it did. -/
def purgeWordUptoRow : OpenClaim := { program := "ytmfbpkjhabdcgaa", sum := "0dc7adfa9a44103d206a9601493ec30f26c70267c7eae72c8fdb801a45455272", func := "tipstaff/tipstafflaw30.PurgeWord", spec := "purgeWord", unfollowed := true, recurses := true, plainKeys := false, apart := false, narrowed := true }
def PurgeWordUptoSaid : Prop := purgeWordUptoRow.holds Try.pinned (OpenSpec.upto purgeWordSpec)

/-- 'tipstafflaw30.PurgeHalls', WHERE WHAT IT READS IS OF BULK AT MOST 1048576: true; the input reads as it did. -/
def purgeHallsUptoRow : OpenClaim := { program := "ytmfbpkjhabdcgaa", sum := "0dc7adfa9a44103d206a9601493ec30f26c70267c7eae72c8fdb801a45455272", func := "tipstaff/tipstafflaw30.PurgeHalls", spec := "purgeHalls", unfollowed := true, recurses := true, plainKeys := false, apart := false, narrowed := true }
def PurgeHallsUptoSaid : Prop := purgeHallsUptoRow.holds Try.pinned (OpenSpec.upto purgeHallsSpec)

/-- 'tipstafflaw29.AssignServes', WHERE WHAT IT READS IS OF BULK AT MOST 1048576: true; the input reads as it did. -/
def assignServesUptoRow : OpenClaim := { program := "ytmfbpkjhabdcgaa", sum := "0dc7adfa9a44103d206a9601493ec30f26c70267c7eae72c8fdb801a45455272", func := "tipstaff/tipstafflaw29.AssignServes", spec := "assignServes", unfollowed := true, recurses := true, plainKeys := false, apart := false, narrowed := true }
def AssignServesUptoSaid : Prop := assignServesUptoRow.holds Try.pinned (OpenSpec.upto assignServesSpec)

/-- 'tipstafflaw29.AssignKnown', WHERE WHAT IT READS IS OF BULK AT MOST 1048576: true; the input reads as it did. -/
def assignKnownUptoRow : OpenClaim := { program := "ytmfbpkjhabdcgaa", sum := "0dc7adfa9a44103d206a9601493ec30f26c70267c7eae72c8fdb801a45455272", func := "tipstaff/tipstafflaw29.AssignKnown", spec := "assignKnown", unfollowed := true, recurses := true, plainKeys := false, apart := false, narrowed := true }
def AssignKnownUptoSaid : Prop := assignKnownUptoRow.holds Try.pinned (OpenSpec.upto assignKnownSpec)

/-- 'tipstafflaw29.AssignTurns', WHERE WHAT IT READS IS OF BULK AT MOST 1048576: true; the input reads as it did. -/
def assignTurnsUptoRow : OpenClaim := { program := "ytmfbpkjhabdcgaa", sum := "0dc7adfa9a44103d206a9601493ec30f26c70267c7eae72c8fdb801a45455272", func := "tipstaff/tipstafflaw29.AssignTurns", spec := "assignTurns", unfollowed := true, recurses := true, plainKeys := false, apart := false, narrowed := true }
def AssignTurnsUptoSaid : Prop := assignTurnsUptoRow.holds Try.pinned (OpenSpec.upto assignTurnsSpec)

/-- 'tipstafflaw29.AssignUrgent', WHERE WHAT IT READS IS OF BULK AT MOST 1048576: true; the input reads as it did. -/
def assignUrgentUptoRow : OpenClaim := { program := "ytmfbpkjhabdcgaa", sum := "0dc7adfa9a44103d206a9601493ec30f26c70267c7eae72c8fdb801a45455272", func := "tipstaff/tipstafflaw29.AssignUrgent", spec := "assignUrgent", unfollowed := true, recurses := true, plainKeys := false, apart := false, narrowed := true }
def AssignUrgentUptoSaid : Prop := assignUrgentUptoRow.holds Try.pinned (OpenSpec.upto assignUrgentSpec)

/-- 'tipstafflaw29.AssignShares', WHERE WHAT IT READS IS OF BULK AT MOST 1048576: true; the input reads as it did. -/
def assignSharesUptoRow : OpenClaim := { program := "ytmfbpkjhabdcgaa", sum := "0dc7adfa9a44103d206a9601493ec30f26c70267c7eae72c8fdb801a45455272", func := "tipstaff/tipstafflaw29.AssignShares", spec := "assignShares", unfollowed := true, recurses := true, plainKeys := false, apart := false, narrowed := true }
def AssignSharesUptoSaid : Prop := assignSharesUptoRow.holds Try.pinned (OpenSpec.upto assignSharesSpec)

/-- 'tipstafflaw29.AssignFewer', WHERE WHAT IT READS IS OF BULK AT MOST 1048576: true; the input reads as it did. -/
def assignFewerUptoRow : OpenClaim := { program := "ytmfbpkjhabdcgaa", sum := "0dc7adfa9a44103d206a9601493ec30f26c70267c7eae72c8fdb801a45455272", func := "tipstaff/tipstafflaw29.AssignFewer", spec := "assignFewer", unfollowed := true, recurses := true, plainKeys := false, apart := false, narrowed := true }
def AssignFewerUptoSaid : Prop := assignFewerUptoRow.holds Try.pinned (OpenSpec.upto assignFewerSpec)

/-- 'tipstafflaw29.AssignPlans', WHERE WHAT IT READS IS OF BULK AT MOST 1048576: true; the input reads as it did. -/
def assignPlansUptoRow : OpenClaim := { program := "ytmfbpkjhabdcgaa", sum := "0dc7adfa9a44103d206a9601493ec30f26c70267c7eae72c8fdb801a45455272", func := "tipstaff/tipstafflaw29.AssignPlans", spec := "assignPlans", unfollowed := true, recurses := true, plainKeys := false, apart := false, narrowed := true }
def AssignPlansUptoSaid : Prop := assignPlansUptoRow.holds Try.pinned (OpenSpec.upto assignPlansSpec)

end Rows
end Go.Proofs.Ytmfbpkjhabdcgaa
