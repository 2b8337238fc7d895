/-
  No cell of these rows narrows 'for every input' (looked for: loops, veiled, ifaces, maps, wideKeys, modest, calm, conditions, laid).
  DERIVED. THE GIVEN ROWS OF THIS SEAT. 4 by the template 'for every input the law returns true; each argument reads behind the call as it read before'; 0 by the template 'total and deterministic' (their statements: YteleojddlaflnaaTotals.lean).
  GIVEN WITH THE SEED: the statements are not yours to turn. If you find one false, say at which input.
  Laid BY PROGRAM, IN A SANDBOX (cutbox-rows.mjs): the forced cells as the released guide's own fill.sh prints them over the translation 447d4bde1273c9c6… (all of the seat's roots in one cut). By AI agents, Wed Nov 11 2026. No macro, syntax, notation, axiom, sorry.
-/
import Derived.Test.YteleojddlaflnaaChecked
import GoSem.Claim
import GoSem.ClaimJoined
import GoSem.ClaimMapViews
import Derived.JoinedTies
import Derived.KernelRfl
namespace Go.Proofs.Yteleojddlaflnaa
/- THE CELL 'sum', in the pinned program and in every row, IS THE sha256 OF THE DUMP (.gsa) THAT YteleojddlaflnaaProg.lean LOADS. Nothing in Lean hashes anything: it is a label: what it is worth is what the hold of that sum in a sandbox is worth. -/
noncomputable def Try.pinned : Pinned := { name := "yteleojddlaflnaa", sum := "447d4bde1273c9c6514b6e8770414e14a77e0fb8a5f1e5fa2b377cd83f8bac41", checked := Try.checked }
namespace Rows
def none {H : Type} : Left H := { results := [], args := [] }

/-- 'squelchlaw21.PoolPlaces': WHATEVER THE INPUT: true; the input reads as it did. -/
def poolPlacesSpec : ChangeSpec := { name := "poolPlaces", fn := fun _ => fun
  | [d1, d2] => { results := [.lit (.bool true)], args := [d1, d2] }
  | _ => none }
def poolPlacesRow : OpenClaim := { program := "yteleojddlaflnaa", sum := "447d4bde1273c9c6514b6e8770414e14a77e0fb8a5f1e5fa2b377cd83f8bac41", func := "squelch/squelchlaw21.PoolPlaces", spec := "poolPlaces", apart := false }
def PoolPlacesSaid : Prop := poolPlacesRow.holds Try.pinned (OpenSpec.ofChange poolPlacesSpec)

/-- ITS FALSE NEIGHBOUR: 'it returns false'. Refute it at one input. -/
def poolPlacesWrong : ChangeSpec := { name := "poolPlaces", fn := fun _ => fun
  | [d1, d2] => { results := [.lit (.bool false)], args := [d1, d2] }
  | _ => none }
def PoolPlacesWrongFalsely : Prop := poolPlacesRow.holds Try.pinned (OpenSpec.ofChange poolPlacesWrong)

/-- 'squelchlaw21.PoolSent': WHATEVER THE INPUT: true; the input reads as it did. -/
def poolSentSpec : ChangeSpec := { name := "poolSent", fn := fun _ => fun
  | [d1, d2] => { results := [.lit (.bool true)], args := [d1, d2] }
  | _ => none }
def poolSentRow : OpenClaim := { program := "yteleojddlaflnaa", sum := "447d4bde1273c9c6514b6e8770414e14a77e0fb8a5f1e5fa2b377cd83f8bac41", func := "squelch/squelchlaw21.PoolSent", spec := "poolSent", apart := false }
def PoolSentSaid : Prop := poolSentRow.holds Try.pinned (OpenSpec.ofChange poolSentSpec)

/-- ITS FALSE NEIGHBOUR: 'it returns false'. Refute it at one input. -/
def poolSentWrong : ChangeSpec := { name := "poolSent", fn := fun _ => fun
  | [d1, d2] => { results := [.lit (.bool false)], args := [d1, d2] }
  | _ => none }
def PoolSentWrongFalsely : Prop := poolSentRow.holds Try.pinned (OpenSpec.ofChange poolSentWrong)

/-- 'squelchlaw21.PoolBack': WHATEVER THE INPUT: true; the input reads as it did. -/
def poolBackSpec : ChangeSpec := { name := "poolBack", fn := fun _ => fun
  | [d1, d2, d3, d4] => { results := [.lit (.bool true)], args := [d1, d2, d3, d4] }
  | _ => none }
def poolBackRow : OpenClaim := { program := "yteleojddlaflnaa", sum := "447d4bde1273c9c6514b6e8770414e14a77e0fb8a5f1e5fa2b377cd83f8bac41", func := "squelch/squelchlaw21.PoolBack", spec := "poolBack", unfollowed := true, recurses := true, apart := false }
def PoolBackSaid : Prop := poolBackRow.holds Try.pinned (OpenSpec.ofChange poolBackSpec)

/-- ITS FALSE NEIGHBOUR: 'it returns false'. Refute it at one input. -/
def poolBackWrong : ChangeSpec := { name := "poolBack", fn := fun _ => fun
  | [d1, d2, d3, d4] => { results := [.lit (.bool false)], args := [d1, d2, d3, d4] }
  | _ => none }
def PoolBackWrongFalsely : Prop := poolBackRow.holds Try.pinned (OpenSpec.ofChange poolBackWrong)

/-- 'squelchlaw21.PoolDoes': WHATEVER THE INPUT: true; the input reads as it did. -/
def poolDoesSpec : ChangeSpec := { name := "poolDoes", fn := fun _ => fun
  | [d1, d2, d3, d4] => { results := [.lit (.bool true)], args := [d1, d2, d3, d4] }
  | _ => none }
def poolDoesRow : OpenClaim := { program := "yteleojddlaflnaa", sum := "447d4bde1273c9c6514b6e8770414e14a77e0fb8a5f1e5fa2b377cd83f8bac41", func := "squelch/squelchlaw21.PoolDoes", spec := "poolDoes", unfollowed := true, recurses := true, apart := false }
def PoolDoesSaid : Prop := poolDoesRow.holds Try.pinned (OpenSpec.ofChange poolDoesSpec)

/-- ITS FALSE NEIGHBOUR: 'it returns false'. Refute it at one input. -/
def poolDoesWrong : ChangeSpec := { name := "poolDoes", fn := fun _ => fun
  | [d1, d2, d3, d4] => { results := [.lit (.bool false)], args := [d1, d2, d3, d4] }
  | _ => none }
def PoolDoesWrongFalsely : Prop := poolDoesRow.holds Try.pinned (OpenSpec.ofChange poolDoesWrong)

/- THE SECOND FORM. 'bulk': how many values and letters a reading holds, each counted each time it is reached (what is shared counts as often as it is met; a slice's spare places count too). A statement '..UptoSaid' is the law's where the arguments, and the package variables that the reading takes, are together of bulk at most 1048576: NARROWER than '..Said'. Prove '..Said' where nothing that the law and all that it calls make is longer than what came in: it says more and counts as full. Else prove '..UptoSaid'. A law counts once. -/
mutual
def uptoBulk {H : Type} : DataW H → Nat
  | .lit (.string bytes) => bytes.length + 1
  | .lit _ => 1
  | .nil => 1
  | .ptr d => uptoBulk d + 1
  | .slice elems spare => uptoBulkAll elems + uptoBulkAll spare + 1
  | .agg parts => uptoBulkAll parts + 1
  | .iface _ d => uptoBulk d + 1
  | .map entries => uptoBulkEntries entries + 1
  | .held _ => 1
def uptoBulkAll {H : Type} : List (DataW H) → Nat
  | [] => 0
  | d :: r => uptoBulk d + uptoBulkAll r
def uptoBulkEntries {H : Type} : List (Lit × DataW H) → Nat
  | [] => 0
  | x :: r => uptoBulkEntry x + uptoBulkEntries r
def uptoBulkEntry {H : Type} : Lit × DataW H → Nat
  | (.string bytes, d) => bytes.length + uptoBulk d + 1
  | (_, d) => uptoBulk d + 1
 end
def uptoSmall : (H : Type) → List (DataW H) → Bool := fun _ ds => decide (uptoBulkAll ds ≤ 1048576)
def OpenSpec.upto (s : _root_.Go.ChangeSpec) : _root_.Go.OpenSpec := { _root_.Go.OpenSpec.ofChange s with cond := some uptoSmall }

/-- 'squelchlaw21.PoolPlaces', WHERE WHAT IT READS IS OF BULK AT MOST 1048576: true; the input reads as it did. -/
def poolPlacesUptoRow : OpenClaim := { program := "yteleojddlaflnaa", sum := "447d4bde1273c9c6514b6e8770414e14a77e0fb8a5f1e5fa2b377cd83f8bac41", func := "squelch/squelchlaw21.PoolPlaces", spec := "poolPlaces", apart := false, narrowed := true }
def PoolPlacesUptoSaid : Prop := poolPlacesUptoRow.holds Try.pinned (OpenSpec.upto poolPlacesSpec)

/-- 'squelchlaw21.PoolSent', WHERE WHAT IT READS IS OF BULK AT MOST 1048576: true; the input reads as it did. -/
def poolSentUptoRow : OpenClaim := { program := "yteleojddlaflnaa", sum := "447d4bde1273c9c6514b6e8770414e14a77e0fb8a5f1e5fa2b377cd83f8bac41", func := "squelch/squelchlaw21.PoolSent", spec := "poolSent", apart := false, narrowed := true }
def PoolSentUptoSaid : Prop := poolSentUptoRow.holds Try.pinned (OpenSpec.upto poolSentSpec)

/-- 'squelchlaw21.PoolBack', WHERE WHAT IT READS IS OF BULK AT MOST 1048576: true; the input reads as it did. -/
def poolBackUptoRow : OpenClaim := { program := "yteleojddlaflnaa", sum := "447d4bde1273c9c6514b6e8770414e14a77e0fb8a5f1e5fa2b377cd83f8bac41", func := "squelch/squelchlaw21.PoolBack", spec := "poolBack", unfollowed := true, recurses := true, apart := false, narrowed := true }
def PoolBackUptoSaid : Prop := poolBackUptoRow.holds Try.pinned (OpenSpec.upto poolBackSpec)

/-- 'squelchlaw21.PoolDoes', WHERE WHAT IT READS IS OF BULK AT MOST 1048576: true; the input reads as it did. -/
def poolDoesUptoRow : OpenClaim := { program := "yteleojddlaflnaa", sum := "447d4bde1273c9c6514b6e8770414e14a77e0fb8a5f1e5fa2b377cd83f8bac41", func := "squelch/squelchlaw21.PoolDoes", spec := "poolDoes", unfollowed := true, recurses := true, apart := false, narrowed := true }
def PoolDoesUptoSaid : Prop := poolDoesUptoRow.holds Try.pinned (OpenSpec.upto poolDoesSpec)

end Rows
end Go.Proofs.Yteleojddlaflnaa
