/-
  No cell of these rows narrows 'for every input' (looked for: loops, veiled, ifaces, maps, wideKeys, modest, calm, conditions, laid).
  DERIVED. THE GIVEN ROWS OF THIS SEAT. 7 by the template 'for every input the law returns true; each argument reads behind the call as it read before'; 0 by the template 'total and deterministic' (their statements: YtaijdhocmjnopaaTotals.lean).
  GIVEN WITH THE SEED: the statements are not yours to turn. If you find one false, say at which input.
  Laid BY PROGRAM, IN A SANDBOX (cutbox-rows.mjs): the forced cells as the released guide's own fill.sh prints them over the translation 2330a62907bb3d87… (all of the seat's roots in one cut). By AI agents, Wed Nov 11 2026. No macro, syntax, notation, axiom, sorry.
-/
import Derived.Test.YtaijdhocmjnopaaChecked
import GoSem.Claim
import GoSem.ClaimJoined
import GoSem.ClaimMapViews
import Derived.JoinedTies
import Derived.KernelRfl
namespace Go.Proofs.Ytaijdhocmjnopaa
/- THE CELL 'sum', in the pinned program and in every row, IS THE sha256 OF THE DUMP (.gsa) THAT YtaijdhocmjnopaaProg.lean LOADS. Nothing in Lean hashes anything: it is a label: what it is worth is what the hold of that sum in a sandbox is worth. -/
noncomputable def Try.pinned : Pinned := { name := "ytaijdhocmjnopaa", sum := "2330a62907bb3d87dde796518cf4b567dcdc2bc31e2cd28501aa9e4b7ae7f2fd", checked := Try.checked }
namespace Rows
def none {H : Type} : Left H := { results := [], args := [] }

/-- 'tipstafflaw29.AssignServes': WHATEVER THE INPUT: true; the input reads as it did. -/
def assignServesSpec : ChangeSpec := { name := "assignServes", fn := fun _ => fun
  | [d1, d2] => { results := [.lit (.bool true)], args := [d1, d2] }
  | _ => none }
def assignServesRow : OpenClaim := { program := "ytaijdhocmjnopaa", sum := "2330a62907bb3d87dde796518cf4b567dcdc2bc31e2cd28501aa9e4b7ae7f2fd", func := "tipstaff/tipstafflaw29.AssignServes", spec := "assignServes", unfollowed := true, recurses := true, plainKeys := false, apart := false }
def AssignServesSaid : Prop := assignServesRow.holds Try.pinned (OpenSpec.ofChange assignServesSpec)

/-- ITS FALSE NEIGHBOUR: 'it returns false'. Refute it at one input. -/
def assignServesWrong : ChangeSpec := { name := "assignServes", fn := fun _ => fun
  | [d1, d2] => { results := [.lit (.bool false)], args := [d1, d2] }
  | _ => none }
def AssignServesWrongFalsely : Prop := assignServesRow.holds Try.pinned (OpenSpec.ofChange assignServesWrong)

/-- 'tipstafflaw29.AssignKnown': WHATEVER THE INPUT: true; the input reads as it did. -/
def assignKnownSpec : ChangeSpec := { name := "assignKnown", fn := fun _ => fun
  | [] => { results := [.lit (.bool true)], args := [] }
  | _ => none }
def assignKnownRow : OpenClaim := { program := "ytaijdhocmjnopaa", sum := "2330a62907bb3d87dde796518cf4b567dcdc2bc31e2cd28501aa9e4b7ae7f2fd", func := "tipstaff/tipstafflaw29.AssignKnown", spec := "assignKnown", unfollowed := true, recurses := true, plainKeys := false, apart := false }
def AssignKnownSaid : Prop := assignKnownRow.holds Try.pinned (OpenSpec.ofChange assignKnownSpec)

/-- ITS FALSE NEIGHBOUR: 'it returns false'. Refute it at one input. -/
def assignKnownWrong : ChangeSpec := { name := "assignKnown", fn := fun _ => fun
  | [] => { results := [.lit (.bool false)], args := [] }
  | _ => none }
def AssignKnownWrongFalsely : Prop := assignKnownRow.holds Try.pinned (OpenSpec.ofChange assignKnownWrong)

/-- 'tipstafflaw29.AssignTurns': WHATEVER THE INPUT: true; the input reads as it did. -/
def assignTurnsSpec : ChangeSpec := { name := "assignTurns", fn := fun _ => fun
  | [d1, d2] => { results := [.lit (.bool true)], args := [d1, d2] }
  | _ => none }
def assignTurnsRow : OpenClaim := { program := "ytaijdhocmjnopaa", sum := "2330a62907bb3d87dde796518cf4b567dcdc2bc31e2cd28501aa9e4b7ae7f2fd", func := "tipstaff/tipstafflaw29.AssignTurns", spec := "assignTurns", unfollowed := true, recurses := true, plainKeys := false, apart := false }
def AssignTurnsSaid : Prop := assignTurnsRow.holds Try.pinned (OpenSpec.ofChange assignTurnsSpec)

/-- ITS FALSE NEIGHBOUR: 'it returns false'. Refute it at one input. -/
def assignTurnsWrong : ChangeSpec := { name := "assignTurns", fn := fun _ => fun
  | [d1, d2] => { results := [.lit (.bool false)], args := [d1, d2] }
  | _ => none }
def AssignTurnsWrongFalsely : Prop := assignTurnsRow.holds Try.pinned (OpenSpec.ofChange assignTurnsWrong)

/-- 'tipstafflaw29.AssignUrgent': WHATEVER THE INPUT: true; the input reads as it did. -/
def assignUrgentSpec : ChangeSpec := { name := "assignUrgent", fn := fun _ => fun
  | [d1, d2, d3] => { results := [.lit (.bool true)], args := [d1, d2, d3] }
  | _ => none }
def assignUrgentRow : OpenClaim := { program := "ytaijdhocmjnopaa", sum := "2330a62907bb3d87dde796518cf4b567dcdc2bc31e2cd28501aa9e4b7ae7f2fd", func := "tipstaff/tipstafflaw29.AssignUrgent", spec := "assignUrgent", unfollowed := true, recurses := true, plainKeys := false, apart := false }
def AssignUrgentSaid : Prop := assignUrgentRow.holds Try.pinned (OpenSpec.ofChange assignUrgentSpec)

/-- ITS FALSE NEIGHBOUR: 'it returns false'. Refute it at one input. -/
def assignUrgentWrong : ChangeSpec := { name := "assignUrgent", fn := fun _ => fun
  | [d1, d2, d3] => { results := [.lit (.bool false)], args := [d1, d2, d3] }
  | _ => none }
def AssignUrgentWrongFalsely : Prop := assignUrgentRow.holds Try.pinned (OpenSpec.ofChange assignUrgentWrong)

/-- 'tipstafflaw29.AssignShares': WHATEVER THE INPUT: true; the input reads as it did. -/
def assignSharesSpec : ChangeSpec := { name := "assignShares", fn := fun _ => fun
  | [d1, d2] => { results := [.lit (.bool true)], args := [d1, d2] }
  | _ => none }
def assignSharesRow : OpenClaim := { program := "ytaijdhocmjnopaa", sum := "2330a62907bb3d87dde796518cf4b567dcdc2bc31e2cd28501aa9e4b7ae7f2fd", func := "tipstaff/tipstafflaw29.AssignShares", spec := "assignShares", unfollowed := true, recurses := true, plainKeys := false, apart := false }
def AssignSharesSaid : Prop := assignSharesRow.holds Try.pinned (OpenSpec.ofChange assignSharesSpec)

/-- ITS FALSE NEIGHBOUR: 'it returns false'. Refute it at one input. -/
def assignSharesWrong : ChangeSpec := { name := "assignShares", fn := fun _ => fun
  | [d1, d2] => { results := [.lit (.bool false)], args := [d1, d2] }
  | _ => none }
def AssignSharesWrongFalsely : Prop := assignSharesRow.holds Try.pinned (OpenSpec.ofChange assignSharesWrong)

/-- 'tipstafflaw29.AssignFewer': WHATEVER THE INPUT: true; the input reads as it did. -/
def assignFewerSpec : ChangeSpec := { name := "assignFewer", fn := fun _ => fun
  | [d1, d2, d3] => { results := [.lit (.bool true)], args := [d1, d2, d3] }
  | _ => none }
def assignFewerRow : OpenClaim := { program := "ytaijdhocmjnopaa", sum := "2330a62907bb3d87dde796518cf4b567dcdc2bc31e2cd28501aa9e4b7ae7f2fd", func := "tipstaff/tipstafflaw29.AssignFewer", spec := "assignFewer", unfollowed := true, recurses := true, plainKeys := false, apart := false }
def AssignFewerSaid : Prop := assignFewerRow.holds Try.pinned (OpenSpec.ofChange assignFewerSpec)

/-- ITS FALSE NEIGHBOUR: 'it returns false'. Refute it at one input. -/
def assignFewerWrong : ChangeSpec := { name := "assignFewer", fn := fun _ => fun
  | [d1, d2, d3] => { results := [.lit (.bool false)], args := [d1, d2, d3] }
  | _ => none }
def AssignFewerWrongFalsely : Prop := assignFewerRow.holds Try.pinned (OpenSpec.ofChange assignFewerWrong)

/-- 'tipstafflaw29.AssignPlans': WHATEVER THE INPUT: true; the input reads as it did. -/
def assignPlansSpec : ChangeSpec := { name := "assignPlans", fn := fun _ => fun
  | [d1, d2, d3] => { results := [.lit (.bool true)], args := [d1, d2, d3] }
  | _ => none }
def assignPlansRow : OpenClaim := { program := "ytaijdhocmjnopaa", sum := "2330a62907bb3d87dde796518cf4b567dcdc2bc31e2cd28501aa9e4b7ae7f2fd", func := "tipstaff/tipstafflaw29.AssignPlans", spec := "assignPlans", unfollowed := true, recurses := true, plainKeys := false, apart := false }
def AssignPlansSaid : Prop := assignPlansRow.holds Try.pinned (OpenSpec.ofChange assignPlansSpec)

/-- ITS FALSE NEIGHBOUR: 'it returns false'. Refute it at one input. -/
def assignPlansWrong : ChangeSpec := { name := "assignPlans", fn := fun _ => fun
  | [d1, d2, d3] => { results := [.lit (.bool false)], args := [d1, d2, d3] }
  | _ => none }
def AssignPlansWrongFalsely : Prop := assignPlansRow.holds Try.pinned (OpenSpec.ofChange assignPlansWrong)

/- THE SECOND FORM. 'bulk': how many values and letters a reading holds, each counted each time it is reached (what is shared counts as often as it is met; a slice's spare places count too). A statement '..UptoSaid' is the law's where the arguments, and the package variables that the reading takes, are together of bulk at most 1048576: NARROWER than '..Said'. Prove '..Said' where nothing that the law and all that it calls make is longer than what came in: it says more and counts as full. Else prove '..UptoSaid'. A law counts once. -/
mutual
def uptoBulk {H : Type} : DataW H → Nat
  | .lit (.string bytes) => bytes.length + 1
  | .lit _ => 1
  | .nil => 1
  | .ptr d => uptoBulk d + 1
  | .slice elems spare => uptoBulkAll elems + uptoBulkAll spare + 1
  | .agg parts => uptoBulkAll parts + 1
  | .iface _ d => uptoBulk d + 1
  | .map entries => uptoBulkEntries entries + 1
  | .held _ => 1
def uptoBulkAll {H : Type} : List (DataW H) → Nat
  | [] => 0
  | d :: r => uptoBulk d + uptoBulkAll r
def uptoBulkEntries {H : Type} : List (Lit × DataW H) → Nat
  | [] => 0
  | x :: r => uptoBulkEntry x + uptoBulkEntries r
def uptoBulkEntry {H : Type} : Lit × DataW H → Nat
  | (.string bytes, d) => bytes.length + uptoBulk d + 1
  | (_, d) => uptoBulk d + 1
 end
def uptoSmall : (H : Type) → List (DataW H) → Bool := fun _ ds => decide (uptoBulkAll ds ≤ 1048576)
def OpenSpec.upto (s : _root_.Go.ChangeSpec) : _root_.Go.OpenSpec := { _root_.Go.OpenSpec.ofChange s with cond := some uptoSmall }

/-- 'tipstafflaw29.AssignServes', WHERE WHAT IT READS IS OF BULK AT MOST 1048576: true; the input reads as it did. -/
def assignServesUptoRow : OpenClaim := { program := "ytaijdhocmjnopaa", sum := "2330a62907bb3d87dde796518cf4b567dcdc2bc31e2cd28501aa9e4b7ae7f2fd", func := "tipstaff/tipstafflaw29.AssignServes", spec := "assignServes", unfollowed := true, recurses := true, plainKeys := false, apart := false, narrowed := true }
def AssignServesUptoSaid : Prop := assignServesUptoRow.holds Try.pinned (OpenSpec.upto assignServesSpec)

/-- 'tipstafflaw29.AssignKnown', WHERE WHAT IT READS IS OF BULK AT MOST 1048576: true; the input reads as it did. -/
def assignKnownUptoRow : OpenClaim := { program := "ytaijdhocmjnopaa", sum := "2330a62907bb3d87dde796518cf4b567dcdc2bc31e2cd28501aa9e4b7ae7f2fd", func := "tipstaff/tipstafflaw29.AssignKnown", spec := "assignKnown", unfollowed := true, recurses := true, plainKeys := false, apart := false, narrowed := true }
def AssignKnownUptoSaid : Prop := assignKnownUptoRow.holds Try.pinned (OpenSpec.upto assignKnownSpec)

/-- 'tipstafflaw29.AssignTurns', WHERE WHAT IT READS IS OF BULK AT MOST 1048576: true; the input reads as it did. -/
def assignTurnsUptoRow : OpenClaim := { program := "ytaijdhocmjnopaa", sum := "2330a62907bb3d87dde796518cf4b567dcdc2bc31e2cd28501aa9e4b7ae7f2fd", func := "tipstaff/tipstafflaw29.AssignTurns", spec := "assignTurns", unfollowed := true, recurses := true, plainKeys := false, apart := false, narrowed := true }
def AssignTurnsUptoSaid : Prop := assignTurnsUptoRow.holds Try.pinned (OpenSpec.upto assignTurnsSpec)

/-- 'tipstafflaw29.AssignUrgent', WHERE WHAT IT READS IS OF BULK AT MOST 1048576: true; the input reads as it did. -/
def assignUrgentUptoRow : OpenClaim := { program := "ytaijdhocmjnopaa", sum := "2330a62907bb3d87dde796518cf4b567dcdc2bc31e2cd28501aa9e4b7ae7f2fd", func := "tipstaff/tipstafflaw29.AssignUrgent", spec := "assignUrgent", unfollowed := true, recurses := true, plainKeys := false, apart := false, narrowed := true }
def AssignUrgentUptoSaid : Prop := assignUrgentUptoRow.holds Try.pinned (OpenSpec.upto assignUrgentSpec)

/-- 'tipstafflaw29.AssignShares', WHERE WHAT IT READS IS OF BULK AT MOST 1048576: true; the input reads as it did. -/
def assignSharesUptoRow : OpenClaim := { program := "ytaijdhocmjnopaa", sum := "2330a62907bb3d87dde796518cf4b567dcdc2bc31e2cd28501aa9e4b7ae7f2fd", func := "tipstaff/tipstafflaw29.AssignShares", spec := "assignShares", unfollowed := true, recurses := true, plainKeys := false, apart := false, narrowed := true }
def AssignSharesUptoSaid : Prop := assignSharesUptoRow.holds Try.pinned (OpenSpec.upto assignSharesSpec)

/-- 'tipstafflaw29.AssignFewer', WHERE WHAT IT READS IS OF BULK AT MOST 1048576: true; the input reads as it did. -/
def assignFewerUptoRow : OpenClaim := { program := "ytaijdhocmjnopaa", sum := "2330a62907bb3d87dde796518cf4b567dcdc2bc31e2cd28501aa9e4b7ae7f2fd", func := "tipstaff/tipstafflaw29.AssignFewer", spec := "assignFewer", unfollowed := true, recurses := true, plainKeys := false, apart := false, narrowed := true }
def AssignFewerUptoSaid : Prop := assignFewerUptoRow.holds Try.pinned (OpenSpec.upto assignFewerSpec)

/-- 'tipstafflaw29.AssignPlans', WHERE WHAT IT READS IS OF BULK AT MOST 1048576: true; the input reads as it did. -/
def assignPlansUptoRow : OpenClaim := { program := "ytaijdhocmjnopaa", sum := "2330a62907bb3d87dde796518cf4b567dcdc2bc31e2cd28501aa9e4b7ae7f2fd", func := "tipstaff/tipstafflaw29.AssignPlans", spec := "assignPlans", unfollowed := true, recurses := true, plainKeys := false, apart := false, narrowed := true }
def AssignPlansUptoSaid : Prop := assignPlansUptoRow.holds Try.pinned (OpenSpec.upto assignPlansSpec)

end Rows
end Go.Proofs.Ytaijdhocmjnopaa
