/-
  No cell of these rows narrows 'for every input' (looked for: loops, veiled, ifaces, maps, wideKeys, modest, calm, conditions, laid).
  DERIVED. THE GIVEN ROWS OF THIS SEAT. 8 by the template 'for every input the law returns true; each argument reads behind the call as it read before'; 0 by the template 'total and deterministic' (their statements: YtflfmpfmnhpbmaaTotals.lean).
  GIVEN WITH THE SEED: the statements are not yours to turn. If you find one false, say at which input.
  Laid BY PROGRAM, IN A SANDBOX (cutbox-rows.mjs): the forced cells as the released guide's own fill.sh prints them over the translation 3baa8bcda6c9a1fe… (all of the seat's roots in one cut). By AI agents, Wed Nov 11 2026. No macro, syntax, notation, axiom, sorry.
-/
import Derived.Test.YtflfmpfmnhpbmaaChecked
import GoSem.Claim
import GoSem.ClaimJoined
import GoSem.ClaimMapViews
import Derived.JoinedTies
import Derived.KernelRfl
namespace Go.Proofs.Ytflfmpfmnhpbmaa
/- THE CELL 'sum', in the pinned program and in every row, IS THE sha256 OF THE DUMP (.gsa) THAT YtflfmpfmnhpbmaaProg.lean LOADS. Nothing in Lean hashes anything: it is a label: what it is worth is what the hold of that sum in a sandbox is worth. -/
noncomputable def Try.pinned : Pinned := { name := "ytflfmpfmnhpbmaa", sum := "3baa8bcda6c9a1fefdd87272138cd8fde23ca023d6d1a9c52df66f71121fa555", checked := Try.checked }
namespace Rows
def none {H : Type} : Left H := { results := [], args := [] }

/-- 'squelchlaw18.FloorOnce': WHATEVER THE INPUT: true; the input reads as it did. -/
def floorOnceSpec : ChangeSpec := { name := "floorOnce", fn := fun _ => fun
  | [d] => { results := [.lit (.bool true)], args := [d] }
  | _ => none }
def floorOnceRow : OpenClaim := { program := "ytflfmpfmnhpbmaa", sum := "3baa8bcda6c9a1fefdd87272138cd8fde23ca023d6d1a9c52df66f71121fa555", func := "squelch/squelchlaw18.FloorOnce", spec := "floorOnce", inPlace := ["slices.overlaps[int]", "slices.overlaps[squelch/api.Waiter]"], unfollowed := true, recurses := true, apart := false }
def FloorOnceSaid : Prop := floorOnceRow.holds Try.pinned (OpenSpec.ofChange floorOnceSpec)

/-- ITS FALSE NEIGHBOUR: 'it returns false'. Refute it at one input. -/
def floorOnceWrong : ChangeSpec := { name := "floorOnce", fn := fun _ => fun
  | [d] => { results := [.lit (.bool false)], args := [d] }
  | _ => none }
def FloorOnceWrongFalsely : Prop := floorOnceRow.holds Try.pinned (OpenSpec.ofChange floorOnceWrong)

/-- 'squelchlaw18.FloorRevokes': WHATEVER THE INPUT: true; the input reads as it did. -/
def floorRevokesSpec : ChangeSpec := { name := "floorRevokes", fn := fun _ => fun
  | [d] => { results := [.lit (.bool true)], args := [d] }
  | _ => none }
def floorRevokesRow : OpenClaim := { program := "ytflfmpfmnhpbmaa", sum := "3baa8bcda6c9a1fefdd87272138cd8fde23ca023d6d1a9c52df66f71121fa555", func := "squelch/squelchlaw18.FloorRevokes", spec := "floorRevokes", inPlace := ["slices.overlaps[int]", "slices.overlaps[squelch/api.Waiter]"], unfollowed := true, recurses := true, apart := false }
def FloorRevokesSaid : Prop := floorRevokesRow.holds Try.pinned (OpenSpec.ofChange floorRevokesSpec)

/-- ITS FALSE NEIGHBOUR: 'it returns false'. Refute it at one input. -/
def floorRevokesWrong : ChangeSpec := { name := "floorRevokes", fn := fun _ => fun
  | [d] => { results := [.lit (.bool false)], args := [d] }
  | _ => none }
def FloorRevokesWrongFalsely : Prop := floorRevokesRow.holds Try.pinned (OpenSpec.ofChange floorRevokesWrong)

/-- 'squelchlaw18.FloorServes': WHATEVER THE INPUT: true; the input reads as it did. -/
def floorServesSpec : ChangeSpec := { name := "floorServes", fn := fun _ => fun
  | [d] => { results := [.lit (.bool true)], args := [d] }
  | _ => none }
def floorServesRow : OpenClaim := { program := "ytflfmpfmnhpbmaa", sum := "3baa8bcda6c9a1fefdd87272138cd8fde23ca023d6d1a9c52df66f71121fa555", func := "squelch/squelchlaw18.FloorServes", spec := "floorServes", inPlace := ["slices.overlaps[int]", "slices.overlaps[squelch/api.Waiter]"], unfollowed := true, recurses := true, apart := false }
def FloorServesSaid : Prop := floorServesRow.holds Try.pinned (OpenSpec.ofChange floorServesSpec)

/-- ITS FALSE NEIGHBOUR: 'it returns false'. Refute it at one input. -/
def floorServesWrong : ChangeSpec := { name := "floorServes", fn := fun _ => fun
  | [d] => { results := [.lit (.bool false)], args := [d] }
  | _ => none }
def FloorServesWrongFalsely : Prop := floorServesRow.holds Try.pinned (OpenSpec.ofChange floorServesWrong)

/-- 'squelchlaw18.FloorRenews': WHATEVER THE INPUT: true; the input reads as it did. -/
def floorRenewsSpec : ChangeSpec := { name := "floorRenews", fn := fun _ => fun
  | [d1, d2, d3] => { results := [.lit (.bool true)], args := [d1, d2, d3] }
  | _ => none }
def floorRenewsRow : OpenClaim := { program := "ytflfmpfmnhpbmaa", sum := "3baa8bcda6c9a1fefdd87272138cd8fde23ca023d6d1a9c52df66f71121fa555", func := "squelch/squelchlaw18.FloorRenews", spec := "floorRenews", inPlace := ["slices.overlaps[int]", "slices.overlaps[squelch/api.Waiter]"], unfollowed := true, recurses := true, apart := false }
def FloorRenewsSaid : Prop := floorRenewsRow.holds Try.pinned (OpenSpec.ofChange floorRenewsSpec)

/-- ITS FALSE NEIGHBOUR: 'it returns false'. Refute it at one input. -/
def floorRenewsWrong : ChangeSpec := { name := "floorRenews", fn := fun _ => fun
  | [d1, d2, d3] => { results := [.lit (.bool false)], args := [d1, d2, d3] }
  | _ => none }
def FloorRenewsWrongFalsely : Prop := floorRenewsRow.holds Try.pinned (OpenSpec.ofChange floorRenewsWrong)

/-- 'squelchlaw18.FloorQueues': WHATEVER THE INPUT: true; the input reads as it did. -/
def floorQueuesSpec : ChangeSpec := { name := "floorQueues", fn := fun _ => fun
  | [d1, d2, d3] => { results := [.lit (.bool true)], args := [d1, d2, d3] }
  | _ => none }
def floorQueuesRow : OpenClaim := { program := "ytflfmpfmnhpbmaa", sum := "3baa8bcda6c9a1fefdd87272138cd8fde23ca023d6d1a9c52df66f71121fa555", func := "squelch/squelchlaw18.FloorQueues", spec := "floorQueues", inPlace := ["slices.overlaps[int]", "slices.overlaps[squelch/api.Waiter]"], unfollowed := true, recurses := true, apart := false }
def FloorQueuesSaid : Prop := floorQueuesRow.holds Try.pinned (OpenSpec.ofChange floorQueuesSpec)

/-- ITS FALSE NEIGHBOUR: 'it returns false'. Refute it at one input. -/
def floorQueuesWrong : ChangeSpec := { name := "floorQueues", fn := fun _ => fun
  | [d1, d2, d3] => { results := [.lit (.bool false)], args := [d1, d2, d3] }
  | _ => none }
def FloorQueuesWrongFalsely : Prop := floorQueuesRow.holds Try.pinned (OpenSpec.ofChange floorQueuesWrong)

/-- 'squelchlaw18.FloorPlaces': WHATEVER THE INPUT: true; the input reads as it did. -/
def floorPlacesSpec : ChangeSpec := { name := "floorPlaces", fn := fun _ => fun
  | [d] => { results := [.lit (.bool true)], args := [d] }
  | _ => none }
def floorPlacesRow : OpenClaim := { program := "ytflfmpfmnhpbmaa", sum := "3baa8bcda6c9a1fefdd87272138cd8fde23ca023d6d1a9c52df66f71121fa555", func := "squelch/squelchlaw18.FloorPlaces", spec := "floorPlaces", inPlace := ["slices.overlaps[int]", "slices.overlaps[squelch/api.Waiter]"], unfollowed := true, recurses := true, apart := false }
def FloorPlacesSaid : Prop := floorPlacesRow.holds Try.pinned (OpenSpec.ofChange floorPlacesSpec)

/-- ITS FALSE NEIGHBOUR: 'it returns false'. Refute it at one input. -/
def floorPlacesWrong : ChangeSpec := { name := "floorPlaces", fn := fun _ => fun
  | [d] => { results := [.lit (.bool false)], args := [d] }
  | _ => none }
def FloorPlacesWrongFalsely : Prop := floorPlacesRow.holds Try.pinned (OpenSpec.ofChange floorPlacesWrong)

/-- 'squelchlaw18.FloorLeaves': WHATEVER THE INPUT: true; the input reads as it did. -/
def floorLeavesSpec : ChangeSpec := { name := "floorLeaves", fn := fun _ => fun
  | [d] => { results := [.lit (.bool true)], args := [d] }
  | _ => none }
def floorLeavesRow : OpenClaim := { program := "ytflfmpfmnhpbmaa", sum := "3baa8bcda6c9a1fefdd87272138cd8fde23ca023d6d1a9c52df66f71121fa555", func := "squelch/squelchlaw18.FloorLeaves", spec := "floorLeaves", inPlace := ["slices.overlaps[int]", "slices.overlaps[squelch/api.Waiter]"], unfollowed := true, recurses := true, apart := false }
def FloorLeavesSaid : Prop := floorLeavesRow.holds Try.pinned (OpenSpec.ofChange floorLeavesSpec)

/-- ITS FALSE NEIGHBOUR: 'it returns false'. Refute it at one input. -/
def floorLeavesWrong : ChangeSpec := { name := "floorLeaves", fn := fun _ => fun
  | [d] => { results := [.lit (.bool false)], args := [d] }
  | _ => none }
def FloorLeavesWrongFalsely : Prop := floorLeavesRow.holds Try.pinned (OpenSpec.ofChange floorLeavesWrong)

/-- 'squelchlaw18.FloorDoes': WHATEVER THE INPUT: true; the input reads as it did. -/
def floorDoesSpec : ChangeSpec := { name := "floorDoes", fn := fun _ => fun
  | [d1, d2, d3, d4, d5] => { results := [.lit (.bool true)], args := [d1, d2, d3, d4, d5] }
  | _ => none }
def floorDoesRow : OpenClaim := { program := "ytflfmpfmnhpbmaa", sum := "3baa8bcda6c9a1fefdd87272138cd8fde23ca023d6d1a9c52df66f71121fa555", func := "squelch/squelchlaw18.FloorDoes", spec := "floorDoes", inPlace := ["slices.overlaps[int]", "slices.overlaps[squelch/api.Waiter]"], unfollowed := true, recurses := true, apart := false }
def FloorDoesSaid : Prop := floorDoesRow.holds Try.pinned (OpenSpec.ofChange floorDoesSpec)

/-- ITS FALSE NEIGHBOUR: 'it returns false'. Refute it at one input. -/
def floorDoesWrong : ChangeSpec := { name := "floorDoes", fn := fun _ => fun
  | [d1, d2, d3, d4, d5] => { results := [.lit (.bool false)], args := [d1, d2, d3, d4, d5] }
  | _ => none }
def FloorDoesWrongFalsely : Prop := floorDoesRow.holds Try.pinned (OpenSpec.ofChange floorDoesWrong)

/- THE SECOND FORM. 'bulk': how many values and letters a reading holds, each counted each time it is reached (what is shared counts as often as it is met; a slice's spare places count too). A statement '..UptoSaid' is the law's where the arguments, and the package variables that the reading takes, are together of bulk at most 1048576: NARROWER than '..Said'. Prove '..Said' where nothing that the law and all that it calls make is longer than what came in: it says more and counts as full. Else prove '..UptoSaid'. A law counts once. -/
mutual
def uptoBulk {H : Type} : DataW H → Nat
  | .lit (.string bytes) => bytes.length + 1
  | .lit _ => 1
  | .nil => 1
  | .ptr d => uptoBulk d + 1
  | .slice elems spare => uptoBulkAll elems + uptoBulkAll spare + 1
  | .agg parts => uptoBulkAll parts + 1
  | .iface _ d => uptoBulk d + 1
  | .map entries => uptoBulkEntries entries + 1
  | .held _ => 1
def uptoBulkAll {H : Type} : List (DataW H) → Nat
  | [] => 0
  | d :: r => uptoBulk d + uptoBulkAll r
def uptoBulkEntries {H : Type} : List (Lit × DataW H) → Nat
  | [] => 0
  | x :: r => uptoBulkEntry x + uptoBulkEntries r
def uptoBulkEntry {H : Type} : Lit × DataW H → Nat
  | (.string bytes, d) => bytes.length + uptoBulk d + 1
  | (_, d) => uptoBulk d + 1
 end
def uptoSmall : (H : Type) → List (DataW H) → Bool := fun _ ds => decide (uptoBulkAll ds ≤ 1048576)
def OpenSpec.upto (s : _root_.Go.ChangeSpec) : _root_.Go.OpenSpec := { _root_.Go.OpenSpec.ofChange s with cond := some uptoSmall }

/-- 'squelchlaw18.FloorOnce', WHERE WHAT IT READS IS OF BULK AT MOST 1048576: true; the input reads as it did. -/
def floorOnceUptoRow : OpenClaim := { program := "ytflfmpfmnhpbmaa", sum := "3baa8bcda6c9a1fefdd87272138cd8fde23ca023d6d1a9c52df66f71121fa555", func := "squelch/squelchlaw18.FloorOnce", spec := "floorOnce", inPlace := ["slices.overlaps[int]", "slices.overlaps[squelch/api.Waiter]"], unfollowed := true, recurses := true, apart := false, narrowed := true }
def FloorOnceUptoSaid : Prop := floorOnceUptoRow.holds Try.pinned (OpenSpec.upto floorOnceSpec)

/-- 'squelchlaw18.FloorRevokes', WHERE WHAT IT READS IS OF BULK AT MOST 1048576: true; the input reads as it did. -/
def floorRevokesUptoRow : OpenClaim := { program := "ytflfmpfmnhpbmaa", sum := "3baa8bcda6c9a1fefdd87272138cd8fde23ca023d6d1a9c52df66f71121fa555", func := "squelch/squelchlaw18.FloorRevokes", spec := "floorRevokes", inPlace := ["slices.overlaps[int]", "slices.overlaps[squelch/api.Waiter]"], unfollowed := true, recurses := true, apart := false, narrowed := true }
def FloorRevokesUptoSaid : Prop := floorRevokesUptoRow.holds Try.pinned (OpenSpec.upto floorRevokesSpec)

/-- 'squelchlaw18.FloorServes', WHERE WHAT IT READS IS OF BULK AT MOST 1048576: true; the input reads as it did. -/
def floorServesUptoRow : OpenClaim := { program := "ytflfmpfmnhpbmaa", sum := "3baa8bcda6c9a1fefdd87272138cd8fde23ca023d6d1a9c52df66f71121fa555", func := "squelch/squelchlaw18.FloorServes", spec := "floorServes", inPlace := ["slices.overlaps[int]", "slices.overlaps[squelch/api.Waiter]"], unfollowed := true, recurses := true, apart := false, narrowed := true }
def FloorServesUptoSaid : Prop := floorServesUptoRow.holds Try.pinned (OpenSpec.upto floorServesSpec)

/-- 'squelchlaw18.FloorRenews', WHERE WHAT IT READS IS OF BULK AT MOST 1048576: true; the input reads as it did. -/
def floorRenewsUptoRow : OpenClaim := { program := "ytflfmpfmnhpbmaa", sum := "3baa8bcda6c9a1fefdd87272138cd8fde23ca023d6d1a9c52df66f71121fa555", func := "squelch/squelchlaw18.FloorRenews", spec := "floorRenews", inPlace := ["slices.overlaps[int]", "slices.overlaps[squelch/api.Waiter]"], unfollowed := true, recurses := true, apart := false, narrowed := true }
def FloorRenewsUptoSaid : Prop := floorRenewsUptoRow.holds Try.pinned (OpenSpec.upto floorRenewsSpec)

/-- 'squelchlaw18.FloorQueues', WHERE WHAT IT READS IS OF BULK AT MOST 1048576: true; the input reads as it did. -/
def floorQueuesUptoRow : OpenClaim := { program := "ytflfmpfmnhpbmaa", sum := "3baa8bcda6c9a1fefdd87272138cd8fde23ca023d6d1a9c52df66f71121fa555", func := "squelch/squelchlaw18.FloorQueues", spec := "floorQueues", inPlace := ["slices.overlaps[int]", "slices.overlaps[squelch/api.Waiter]"], unfollowed := true, recurses := true, apart := false, narrowed := true }
def FloorQueuesUptoSaid : Prop := floorQueuesUptoRow.holds Try.pinned (OpenSpec.upto floorQueuesSpec)

/-- 'squelchlaw18.FloorPlaces', WHERE WHAT IT READS IS OF BULK AT MOST 1048576: true; the input reads as it did. -/
def floorPlacesUptoRow : OpenClaim := { program := "ytflfmpfmnhpbmaa", sum := "3baa8bcda6c9a1fefdd87272138cd8fde23ca023d6d1a9c52df66f71121fa555", func := "squelch/squelchlaw18.FloorPlaces", spec := "floorPlaces", inPlace := ["slices.overlaps[int]", "slices.overlaps[squelch/api.Waiter]"], unfollowed := true, recurses := true, apart := false, narrowed := true }
def FloorPlacesUptoSaid : Prop := floorPlacesUptoRow.holds Try.pinned (OpenSpec.upto floorPlacesSpec)

/-- 'squelchlaw18.FloorLeaves', WHERE WHAT IT READS IS OF BULK AT MOST 1048576: true; the input reads as it did. -/
def floorLeavesUptoRow : OpenClaim := { program := "ytflfmpfmnhpbmaa", sum := "3baa8bcda6c9a1fefdd87272138cd8fde23ca023d6d1a9c52df66f71121fa555", func := "squelch/squelchlaw18.FloorLeaves", spec := "floorLeaves", inPlace := ["slices.overlaps[int]", "slices.overlaps[squelch/api.Waiter]"], unfollowed := true, recurses := true, apart := false, narrowed := true }
def FloorLeavesUptoSaid : Prop := floorLeavesUptoRow.holds Try.pinned (OpenSpec.upto floorLeavesSpec)

/-- 'squelchlaw18.FloorDoes', WHERE WHAT IT READS IS OF BULK AT MOST 1048576: true; the input reads as it did. -/
def floorDoesUptoRow : OpenClaim := { program := "ytflfmpfmnhpbmaa", sum := "3baa8bcda6c9a1fefdd87272138cd8fde23ca023d6d1a9c52df66f71121fa555", func := "squelch/squelchlaw18.FloorDoes", spec := "floorDoes", inPlace := ["slices.overlaps[int]", "slices.overlaps[squelch/api.Waiter]"], unfollowed := true, recurses := true, apart := false, narrowed := true }
def FloorDoesUptoSaid : Prop := floorDoesUptoRow.holds Try.pinned (OpenSpec.upto floorDoesSpec)

end Rows
end Go.Proofs.Ytflfmpfmnhpbmaa
