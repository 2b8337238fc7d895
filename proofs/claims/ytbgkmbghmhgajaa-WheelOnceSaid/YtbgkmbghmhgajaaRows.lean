/-
  No cell of these rows narrows 'for every input' (looked for: loops, veiled, ifaces, maps, wideKeys, modest, calm, conditions, laid).
  DERIVED. THE GIVEN ROWS OF THIS SEAT. 4 by the template 'for every input the law returns true; each argument reads behind the call as it read before'; 0 by the template 'total and deterministic' (their statements: YtbgkmbghmhgajaaTotals.lean).
  GIVEN WITH THE SEED: the statements are not yours to turn. If you find one false, say at which input.
  Laid BY PROGRAM, IN A SANDBOX (cutbox-rows.mjs): the forced cells as the released guide's own fill.sh prints them over the translation 439605a9b0774013… (all of the seat's roots in one cut). By AI agents, Wed Nov 11 2026. No macro, syntax, notation, axiom, sorry.
-/
import Derived.Test.YtbgkmbghmhgajaaChecked
import GoSem.Claim
import GoSem.ClaimJoined
import GoSem.ClaimMapViews
import Derived.JoinedTies
import Derived.KernelRfl
namespace Go.Proofs.Ytbgkmbghmhgajaa
/- THE CELL 'sum', in the pinned program and in every row, IS THE sha256 OF THE DUMP (.gsa) THAT YtbgkmbghmhgajaaProg.lean LOADS. Nothing in Lean hashes anything: it is a label: what it is worth is what the hold of that sum in a sandbox is worth. -/
noncomputable def Try.pinned : Pinned := { name := "ytbgkmbghmhgajaa", sum := "439605a9b07740132011a6f2eaa4a92e99e172ee326c5e5202e625ab3a63cb42", checked := Try.checked }
namespace Rows
def none {H : Type} : Left H := { results := [], args := [] }

/-- 'squelchlaw16.WheelNext': WHATEVER THE INPUT: true; the input reads as it did. -/
def wheelNextSpec : ChangeSpec := { name := "wheelNext", fn := fun _ => fun
  | [d] => { results := [.lit (.bool true)], args := [d] }
  | _ => none }
def wheelNextRow : OpenClaim := { program := "ytbgkmbghmhgajaa", sum := "439605a9b07740132011a6f2eaa4a92e99e172ee326c5e5202e625ab3a63cb42", func := "squelch/squelchlaw16.WheelNext", spec := "wheelNext", inPlace := ["slices.overlaps[squelch/api.Timer]"], unfollowed := true, recurses := true, apart := false }
def WheelNextSaid : Prop := wheelNextRow.holds Try.pinned (OpenSpec.ofChange wheelNextSpec)

/-- ITS FALSE NEIGHBOUR: 'it returns false'. Refute it at one input. -/
def wheelNextWrong : ChangeSpec := { name := "wheelNext", fn := fun _ => fun
  | [d] => { results := [.lit (.bool false)], args := [d] }
  | _ => none }
def WheelNextWrongFalsely : Prop := wheelNextRow.holds Try.pinned (OpenSpec.ofChange wheelNextWrong)

/-- 'squelchlaw16.WheelGoes': WHATEVER THE INPUT: true; the input reads as it did. -/
def wheelGoesSpec : ChangeSpec := { name := "wheelGoes", fn := fun _ => fun
  | [d1, d2] => { results := [.lit (.bool true)], args := [d1, d2] }
  | _ => none }
def wheelGoesRow : OpenClaim := { program := "ytbgkmbghmhgajaa", sum := "439605a9b07740132011a6f2eaa4a92e99e172ee326c5e5202e625ab3a63cb42", func := "squelch/squelchlaw16.WheelGoes", spec := "wheelGoes", inPlace := ["slices.overlaps[squelch/api.Timer]"], unfollowed := true, recurses := true, apart := false }
def WheelGoesSaid : Prop := wheelGoesRow.holds Try.pinned (OpenSpec.ofChange wheelGoesSpec)

/-- ITS FALSE NEIGHBOUR: 'it returns false'. Refute it at one input. -/
def wheelGoesWrong : ChangeSpec := { name := "wheelGoes", fn := fun _ => fun
  | [d1, d2] => { results := [.lit (.bool false)], args := [d1, d2] }
  | _ => none }
def WheelGoesWrongFalsely : Prop := wheelGoesRow.holds Try.pinned (OpenSpec.ofChange wheelGoesWrong)

/-- 'squelchlaw16.WheelOnce': WHATEVER THE INPUT: true; the input reads as it did. -/
def wheelOnceSpec : ChangeSpec := { name := "wheelOnce", fn := fun _ => fun
  | [d] => { results := [.lit (.bool true)], args := [d] }
  | _ => none }
def wheelOnceRow : OpenClaim := { program := "ytbgkmbghmhgajaa", sum := "439605a9b07740132011a6f2eaa4a92e99e172ee326c5e5202e625ab3a63cb42", func := "squelch/squelchlaw16.WheelOnce", spec := "wheelOnce", inPlace := ["slices.overlaps[squelch/api.Timer]"], unfollowed := true, recurses := true, apart := false }
def WheelOnceSaid : Prop := wheelOnceRow.holds Try.pinned (OpenSpec.ofChange wheelOnceSpec)

/-- ITS FALSE NEIGHBOUR: 'it returns false'. Refute it at one input. -/
def wheelOnceWrong : ChangeSpec := { name := "wheelOnce", fn := fun _ => fun
  | [d] => { results := [.lit (.bool false)], args := [d] }
  | _ => none }
def WheelOnceWrongFalsely : Prop := wheelOnceRow.holds Try.pinned (OpenSpec.ofChange wheelOnceWrong)

/-- 'squelchlaw16.WheelKeys': WHATEVER THE INPUT: true; the input reads as it did. -/
def wheelKeysSpec : ChangeSpec := { name := "wheelKeys", fn := fun _ => fun
  | [d1, d2, d3, d4] => { results := [.lit (.bool true)], args := [d1, d2, d3, d4] }
  | _ => none }
def wheelKeysRow : OpenClaim := { program := "ytbgkmbghmhgajaa", sum := "439605a9b07740132011a6f2eaa4a92e99e172ee326c5e5202e625ab3a63cb42", func := "squelch/squelchlaw16.WheelKeys", spec := "wheelKeys", inPlace := ["slices.overlaps[squelch/api.Timer]"], unfollowed := true, recurses := true, apart := false }
def WheelKeysSaid : Prop := wheelKeysRow.holds Try.pinned (OpenSpec.ofChange wheelKeysSpec)

/-- ITS FALSE NEIGHBOUR: 'it returns false'. Refute it at one input. -/
def wheelKeysWrong : ChangeSpec := { name := "wheelKeys", fn := fun _ => fun
  | [d1, d2, d3, d4] => { results := [.lit (.bool false)], args := [d1, d2, d3, d4] }
  | _ => none }
def WheelKeysWrongFalsely : Prop := wheelKeysRow.holds Try.pinned (OpenSpec.ofChange wheelKeysWrong)

/- THE SECOND FORM. 'bulk': how many values and letters a reading holds, each counted each time it is reached (what is shared counts as often as it is met; a slice's spare places count too). A statement '..UptoSaid' is the law's where the arguments, and the package variables that the reading takes, are together of bulk at most 1048576: NARROWER than '..Said'. Prove '..Said' where nothing that the law and all that it calls make is longer than what came in: it says more and counts as full. Else prove '..UptoSaid'. A law counts once. -/
mutual
def uptoBulk {H : Type} : DataW H → Nat
  | .lit (.string bytes) => bytes.length + 1
  | .lit _ => 1
  | .nil => 1
  | .ptr d => uptoBulk d + 1
  | .slice elems spare => uptoBulkAll elems + uptoBulkAll spare + 1
  | .agg parts => uptoBulkAll parts + 1
  | .iface _ d => uptoBulk d + 1
  | .map entries => uptoBulkEntries entries + 1
  | .held _ => 1
def uptoBulkAll {H : Type} : List (DataW H) → Nat
  | [] => 0
  | d :: r => uptoBulk d + uptoBulkAll r
def uptoBulkEntries {H : Type} : List (Lit × DataW H) → Nat
  | [] => 0
  | x :: r => uptoBulkEntry x + uptoBulkEntries r
def uptoBulkEntry {H : Type} : Lit × DataW H → Nat
  | (.string bytes, d) => bytes.length + uptoBulk d + 1
  | (_, d) => uptoBulk d + 1
 end
def uptoSmall : (H : Type) → List (DataW H) → Bool := fun _ ds => decide (uptoBulkAll ds ≤ 1048576)
def OpenSpec.upto (s : _root_.Go.ChangeSpec) : _root_.Go.OpenSpec := { _root_.Go.OpenSpec.ofChange s with cond := some uptoSmall }

/-- 'squelchlaw16.WheelNext', WHERE WHAT IT READS IS OF BULK AT MOST 1048576: true; the input reads as it did. -/
def wheelNextUptoRow : OpenClaim := { program := "ytbgkmbghmhgajaa", sum := "439605a9b07740132011a6f2eaa4a92e99e172ee326c5e5202e625ab3a63cb42", func := "squelch/squelchlaw16.WheelNext", spec := "wheelNext", inPlace := ["slices.overlaps[squelch/api.Timer]"], unfollowed := true, recurses := true, apart := false, narrowed := true }
def WheelNextUptoSaid : Prop := wheelNextUptoRow.holds Try.pinned (OpenSpec.upto wheelNextSpec)

/-- 'squelchlaw16.WheelGoes', WHERE WHAT IT READS IS OF BULK AT MOST 1048576: true; the input reads as it did. -/
def wheelGoesUptoRow : OpenClaim := { program := "ytbgkmbghmhgajaa", sum := "439605a9b07740132011a6f2eaa4a92e99e172ee326c5e5202e625ab3a63cb42", func := "squelch/squelchlaw16.WheelGoes", spec := "wheelGoes", inPlace := ["slices.overlaps[squelch/api.Timer]"], unfollowed := true, recurses := true, apart := false, narrowed := true }
def WheelGoesUptoSaid : Prop := wheelGoesUptoRow.holds Try.pinned (OpenSpec.upto wheelGoesSpec)

/-- 'squelchlaw16.WheelOnce', WHERE WHAT IT READS IS OF BULK AT MOST 1048576: true; the input reads as it did. -/
def wheelOnceUptoRow : OpenClaim := { program := "ytbgkmbghmhgajaa", sum := "439605a9b07740132011a6f2eaa4a92e99e172ee326c5e5202e625ab3a63cb42", func := "squelch/squelchlaw16.WheelOnce", spec := "wheelOnce", inPlace := ["slices.overlaps[squelch/api.Timer]"], unfollowed := true, recurses := true, apart := false, narrowed := true }
def WheelOnceUptoSaid : Prop := wheelOnceUptoRow.holds Try.pinned (OpenSpec.upto wheelOnceSpec)

/-- 'squelchlaw16.WheelKeys', WHERE WHAT IT READS IS OF BULK AT MOST 1048576: true; the input reads as it did. -/
def wheelKeysUptoRow : OpenClaim := { program := "ytbgkmbghmhgajaa", sum := "439605a9b07740132011a6f2eaa4a92e99e172ee326c5e5202e625ab3a63cb42", func := "squelch/squelchlaw16.WheelKeys", spec := "wheelKeys", inPlace := ["slices.overlaps[squelch/api.Timer]"], unfollowed := true, recurses := true, apart := false, narrowed := true }
def WheelKeysUptoSaid : Prop := wheelKeysUptoRow.holds Try.pinned (OpenSpec.upto wheelKeysSpec)

end Rows
end Go.Proofs.Ytbgkmbghmhgajaa
