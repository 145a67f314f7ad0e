/-
  No cell of these rows narrows 'for every input' (looked for: loops, veiled, ifaces, maps, wideKeys, modest, calm, conditions, laid).
  DERIVED. THE GIVEN ROWS OF THIS SEAT. 7 by the template 'for every input the law returns true; each argument reads behind the call as it read before'; 0 by the template 'total and deterministic' (their statements: YtdkabbjknclifaaTotals.lean).
  GIVEN WITH THE SEED: the statements are not yours to turn. If you find one false, say at which input.
  Laid BY PROGRAM, IN A SANDBOX (cutbox-rows.mjs): the forced cells as the released guide's own fill.sh prints them over the translation 9a1d0d4ad2990d5f… (all of the seat's roots in one cut). By AI agents, Wed Nov 11 2026. No macro, syntax, notation, axiom, sorry.
-/
import Derived.Test.YtdkabbjknclifaaChecked
import GoSem.Claim
import GoSem.ClaimJoined
import GoSem.ClaimMapViews
import Derived.JoinedTies
import Derived.KernelRfl
namespace Go.Proofs.Ytdkabbjknclifaa
/- THE CELL 'sum', in the pinned program and in every row, IS THE sha256 OF THE DUMP (.gsa) THAT YtdkabbjknclifaaProg.lean LOADS. Nothing in Lean hashes anything: it is a label: what it is worth is what the hold of that sum in a sandbox is worth. -/
noncomputable def Try.pinned : Pinned := { name := "ytdkabbjknclifaa", sum := "9a1d0d4ad2990d5f3afe3bdf13d659247966439fac64a4f9e2458959f8c872d1", checked := Try.checked }
namespace Rows
def none {H : Type} : Left H := { results := [], args := [] }

/-- 'tipstafflaw17.LockReads': WHATEVER THE INPUT: true; the input reads as it did. -/
def lockReadsSpec : ChangeSpec := { name := "lockReads", fn := fun _ => fun
  | [d] => { results := [.lit (.bool true)], args := [d] }
  | _ => none }
def lockReadsRow : OpenClaim := { program := "ytdkabbjknclifaa", sum := "9a1d0d4ad2990d5f3afe3bdf13d659247966439fac64a4f9e2458959f8c872d1", func := "tipstaff/tipstafflaw17.LockReads", spec := "lockReads", inPlace := ["internal/abi.NoEscape"], unfollowed := true, recurses := true, apart := false }
def LockReadsSaid : Prop := lockReadsRow.holds Try.pinned (OpenSpec.ofChange lockReadsSpec)

/-- ITS FALSE NEIGHBOUR: 'it returns false'. Refute it at one input. -/
def lockReadsWrong : ChangeSpec := { name := "lockReads", fn := fun _ => fun
  | [d] => { results := [.lit (.bool false)], args := [d] }
  | _ => none }
def LockReadsWrongFalsely : Prop := lockReadsRow.holds Try.pinned (OpenSpec.ofChange lockReadsWrong)

/-- 'tipstafflaw17.LockLooks': WHATEVER THE INPUT: true; the input reads as it did. -/
def lockLooksSpec : ChangeSpec := { name := "lockLooks", fn := fun _ => fun
  | [d1, d2, d3, d4] => { results := [.lit (.bool true)], args := [d1, d2, d3, d4] }
  | _ => none }
def lockLooksRow : OpenClaim := { program := "ytdkabbjknclifaa", sum := "9a1d0d4ad2990d5f3afe3bdf13d659247966439fac64a4f9e2458959f8c872d1", func := "tipstaff/tipstafflaw17.LockLooks", spec := "lockLooks", inPlace := ["internal/abi.NoEscape"], unfollowed := true, recurses := true, apart := false }
def LockLooksSaid : Prop := lockLooksRow.holds Try.pinned (OpenSpec.ofChange lockLooksSpec)

/-- ITS FALSE NEIGHBOUR: 'it returns false'. Refute it at one input. -/
def lockLooksWrong : ChangeSpec := { name := "lockLooks", fn := fun _ => fun
  | [d1, d2, d3, d4] => { results := [.lit (.bool false)], args := [d1, d2, d3, d4] }
  | _ => none }
def LockLooksWrongFalsely : Prop := lockLooksRow.holds Try.pinned (OpenSpec.ofChange lockLooksWrong)

/-- 'tipstafflaw17.LockTurns': WHATEVER THE INPUT: true; the input reads as it did. -/
def lockTurnsSpec : ChangeSpec := { name := "lockTurns", fn := fun _ => fun
  | [d1, d2, d3] => { results := [.lit (.bool true)], args := [d1, d2, d3] }
  | _ => none }
def lockTurnsRow : OpenClaim := { program := "ytdkabbjknclifaa", sum := "9a1d0d4ad2990d5f3afe3bdf13d659247966439fac64a4f9e2458959f8c872d1", func := "tipstaff/tipstafflaw17.LockTurns", spec := "lockTurns", inPlace := ["internal/abi.NoEscape"], unfollowed := true, recurses := true, apart := false }
def LockTurnsSaid : Prop := lockTurnsRow.holds Try.pinned (OpenSpec.ofChange lockTurnsSpec)

/-- ITS FALSE NEIGHBOUR: 'it returns false'. Refute it at one input. -/
def lockTurnsWrong : ChangeSpec := { name := "lockTurns", fn := fun _ => fun
  | [d1, d2, d3] => { results := [.lit (.bool false)], args := [d1, d2, d3] }
  | _ => none }
def LockTurnsWrongFalsely : Prop := lockTurnsRow.holds Try.pinned (OpenSpec.ofChange lockTurnsWrong)

/-- 'tipstafflaw17.LockUndo': WHATEVER THE INPUT: true; the input reads as it did. -/
def lockUndoSpec : ChangeSpec := { name := "lockUndo", fn := fun _ => fun
  | [d1, d2] => { results := [.lit (.bool true)], args := [d1, d2] }
  | _ => none }
def lockUndoRow : OpenClaim := { program := "ytdkabbjknclifaa", sum := "9a1d0d4ad2990d5f3afe3bdf13d659247966439fac64a4f9e2458959f8c872d1", func := "tipstaff/tipstafflaw17.LockUndo", spec := "lockUndo", inPlace := ["internal/abi.NoEscape"], unfollowed := true, recurses := true, apart := false }
def LockUndoSaid : Prop := lockUndoRow.holds Try.pinned (OpenSpec.ofChange lockUndoSpec)

/-- ITS FALSE NEIGHBOUR: 'it returns false'. Refute it at one input. -/
def lockUndoWrong : ChangeSpec := { name := "lockUndo", fn := fun _ => fun
  | [d1, d2] => { results := [.lit (.bool false)], args := [d1, d2] }
  | _ => none }
def LockUndoWrongFalsely : Prop := lockUndoRow.holds Try.pinned (OpenSpec.ofChange lockUndoWrong)

/-- 'tipstafflaw17.LockValid': WHATEVER THE INPUT: true; the input reads as it did. -/
def lockValidSpec : ChangeSpec := { name := "lockValid", fn := fun _ => fun
  | [d1, d2] => { results := [.lit (.bool true)], args := [d1, d2] }
  | _ => none }
def lockValidRow : OpenClaim := { program := "ytdkabbjknclifaa", sum := "9a1d0d4ad2990d5f3afe3bdf13d659247966439fac64a4f9e2458959f8c872d1", func := "tipstaff/tipstafflaw17.LockValid", spec := "lockValid", inPlace := ["internal/abi.NoEscape"], unfollowed := true, recurses := true, apart := false }
def LockValidSaid : Prop := lockValidRow.holds Try.pinned (OpenSpec.ofChange lockValidSpec)

/-- ITS FALSE NEIGHBOUR: 'it returns false'. Refute it at one input. -/
def lockValidWrong : ChangeSpec := { name := "lockValid", fn := fun _ => fun
  | [d1, d2] => { results := [.lit (.bool false)], args := [d1, d2] }
  | _ => none }
def LockValidWrongFalsely : Prop := lockValidRow.holds Try.pinned (OpenSpec.ofChange lockValidWrong)

/-- 'tipstafflaw17.LockBack': WHATEVER THE INPUT: true; the input reads as it did. -/
def lockBackSpec : ChangeSpec := { name := "lockBack", fn := fun _ => fun
  | [d1, d2, d3] => { results := [.lit (.bool true)], args := [d1, d2, d3] }
  | _ => none }
def lockBackRow : OpenClaim := { program := "ytdkabbjknclifaa", sum := "9a1d0d4ad2990d5f3afe3bdf13d659247966439fac64a4f9e2458959f8c872d1", func := "tipstaff/tipstafflaw17.LockBack", spec := "lockBack", inPlace := ["internal/abi.NoEscape"], unfollowed := true, recurses := true, apart := false }
def LockBackSaid : Prop := lockBackRow.holds Try.pinned (OpenSpec.ofChange lockBackSpec)

/-- ITS FALSE NEIGHBOUR: 'it returns false'. Refute it at one input. -/
def lockBackWrong : ChangeSpec := { name := "lockBack", fn := fun _ => fun
  | [d1, d2, d3] => { results := [.lit (.bool false)], args := [d1, d2, d3] }
  | _ => none }
def LockBackWrongFalsely : Prop := lockBackRow.holds Try.pinned (OpenSpec.ofChange lockBackWrong)

/-- 'tipstafflaw17.LockKnown': WHATEVER THE INPUT: true; the input reads as it did. -/
def lockKnownSpec : ChangeSpec := { name := "lockKnown", fn := fun _ => fun
  | [] => { results := [.lit (.bool true)], args := [] }
  | _ => none }
def lockKnownRow : OpenClaim := { program := "ytdkabbjknclifaa", sum := "9a1d0d4ad2990d5f3afe3bdf13d659247966439fac64a4f9e2458959f8c872d1", func := "tipstaff/tipstafflaw17.LockKnown", spec := "lockKnown", inPlace := ["internal/abi.NoEscape"], unfollowed := true, recurses := true, apart := false }
def LockKnownSaid : Prop := lockKnownRow.holds Try.pinned (OpenSpec.ofChange lockKnownSpec)

/-- ITS FALSE NEIGHBOUR: 'it returns false'. Refute it at one input. -/
def lockKnownWrong : ChangeSpec := { name := "lockKnown", fn := fun _ => fun
  | [] => { results := [.lit (.bool false)], args := [] }
  | _ => none }
def LockKnownWrongFalsely : Prop := lockKnownRow.holds Try.pinned (OpenSpec.ofChange lockKnownWrong)

/- THE SECOND FORM. 'bulk': how many values and letters a reading holds, each counted each time it is reached (what is shared counts as often as it is met; a slice's spare places count too). A statement '..UptoSaid' is the law's where the arguments, and the package variables that the reading takes, are together of bulk at most 1048576: NARROWER than '..Said'. Prove '..Said' where nothing that the law and all that it calls make is longer than what came in: it says more and counts as full. Else prove '..UptoSaid'. A law counts once. -/
mutual
def uptoBulk {H : Type} : DataW H → Nat
  | .lit (.string bytes) => bytes.length + 1
  | .lit _ => 1
  | .nil => 1
  | .ptr d => uptoBulk d + 1
  | .slice elems spare => uptoBulkAll elems + uptoBulkAll spare + 1
  | .agg parts => uptoBulkAll parts + 1
  | .iface _ d => uptoBulk d + 1
  | .map entries => uptoBulkEntries entries + 1
  | .held _ => 1
def uptoBulkAll {H : Type} : List (DataW H) → Nat
  | [] => 0
  | d :: r => uptoBulk d + uptoBulkAll r
def uptoBulkEntries {H : Type} : List (Lit × DataW H) → Nat
  | [] => 0
  | x :: r => uptoBulkEntry x + uptoBulkEntries r
def uptoBulkEntry {H : Type} : Lit × DataW H → Nat
  | (.string bytes, d) => bytes.length + uptoBulk d + 1
  | (_, d) => uptoBulk d + 1
 end
def uptoSmall : (H : Type) → List (DataW H) → Bool := fun _ ds => decide (uptoBulkAll ds ≤ 1048576)
def OpenSpec.upto (s : _root_.Go.ChangeSpec) : _root_.Go.OpenSpec := { _root_.Go.OpenSpec.ofChange s with cond := some uptoSmall }

/-- 'tipstafflaw17.LockReads', WHERE WHAT IT READS IS OF BULK AT MOST 1048576: true; the input reads as it did. -/
def lockReadsUptoRow : OpenClaim := { program := "ytdkabbjknclifaa", sum := "9a1d0d4ad2990d5f3afe3bdf13d659247966439fac64a4f9e2458959f8c872d1", func := "tipstaff/tipstafflaw17.LockReads", spec := "lockReads", inPlace := ["internal/abi.NoEscape"], unfollowed := true, recurses := true, apart := false, narrowed := true }
def LockReadsUptoSaid : Prop := lockReadsUptoRow.holds Try.pinned (OpenSpec.upto lockReadsSpec)

/-- 'tipstafflaw17.LockLooks', WHERE WHAT IT READS IS OF BULK AT MOST 1048576: true; the input reads as it did. -/
def lockLooksUptoRow : OpenClaim := { program := "ytdkabbjknclifaa", sum := "9a1d0d4ad2990d5f3afe3bdf13d659247966439fac64a4f9e2458959f8c872d1", func := "tipstaff/tipstafflaw17.LockLooks", spec := "lockLooks", inPlace := ["internal/abi.NoEscape"], unfollowed := true, recurses := true, apart := false, narrowed := true }
def LockLooksUptoSaid : Prop := lockLooksUptoRow.holds Try.pinned (OpenSpec.upto lockLooksSpec)

/-- 'tipstafflaw17.LockTurns', WHERE WHAT IT READS IS OF BULK AT MOST 1048576: true; the input reads as it did. -/
def lockTurnsUptoRow : OpenClaim := { program := "ytdkabbjknclifaa", sum := "9a1d0d4ad2990d5f3afe3bdf13d659247966439fac64a4f9e2458959f8c872d1", func := "tipstaff/tipstafflaw17.LockTurns", spec := "lockTurns", inPlace := ["internal/abi.NoEscape"], unfollowed := true, recurses := true, apart := false, narrowed := true }
def LockTurnsUptoSaid : Prop := lockTurnsUptoRow.holds Try.pinned (OpenSpec.upto lockTurnsSpec)

/-- 'tipstafflaw17.LockUndo', WHERE WHAT IT READS IS OF BULK AT MOST 1048576: true; the input reads as it did. -/
def lockUndoUptoRow : OpenClaim := { program := "ytdkabbjknclifaa", sum := "9a1d0d4ad2990d5f3afe3bdf13d659247966439fac64a4f9e2458959f8c872d1", func := "tipstaff/tipstafflaw17.LockUndo", spec := "lockUndo", inPlace := ["internal/abi.NoEscape"], unfollowed := true, recurses := true, apart := false, narrowed := true }
def LockUndoUptoSaid : Prop := lockUndoUptoRow.holds Try.pinned (OpenSpec.upto lockUndoSpec)

/-- 'tipstafflaw17.LockValid', WHERE WHAT IT READS IS OF BULK AT MOST 1048576: true; the input reads as it did. -/
def lockValidUptoRow : OpenClaim := { program := "ytdkabbjknclifaa", sum := "9a1d0d4ad2990d5f3afe3bdf13d659247966439fac64a4f9e2458959f8c872d1", func := "tipstaff/tipstafflaw17.LockValid", spec := "lockValid", inPlace := ["internal/abi.NoEscape"], unfollowed := true, recurses := true, apart := false, narrowed := true }
def LockValidUptoSaid : Prop := lockValidUptoRow.holds Try.pinned (OpenSpec.upto lockValidSpec)

/-- 'tipstafflaw17.LockBack', WHERE WHAT IT READS IS OF BULK AT MOST 1048576: true; the input reads as it did. -/
def lockBackUptoRow : OpenClaim := { program := "ytdkabbjknclifaa", sum := "9a1d0d4ad2990d5f3afe3bdf13d659247966439fac64a4f9e2458959f8c872d1", func := "tipstaff/tipstafflaw17.LockBack", spec := "lockBack", inPlace := ["internal/abi.NoEscape"], unfollowed := true, recurses := true, apart := false, narrowed := true }
def LockBackUptoSaid : Prop := lockBackUptoRow.holds Try.pinned (OpenSpec.upto lockBackSpec)

/-- 'tipstafflaw17.LockKnown', WHERE WHAT IT READS IS OF BULK AT MOST 1048576: true; the input reads as it did. -/
def lockKnownUptoRow : OpenClaim := { program := "ytdkabbjknclifaa", sum := "9a1d0d4ad2990d5f3afe3bdf13d659247966439fac64a4f9e2458959f8c872d1", func := "tipstaff/tipstafflaw17.LockKnown", spec := "lockKnown", inPlace := ["internal/abi.NoEscape"], unfollowed := true, recurses := true, apart := false, narrowed := true }
def LockKnownUptoSaid : Prop := lockKnownUptoRow.holds Try.pinned (OpenSpec.upto lockKnownSpec)

end Rows
end Go.Proofs.Ytdkabbjknclifaa
