/-
  No cell of these rows narrows 'for every input' (looked for: loops, veiled, ifaces, maps, wideKeys, modest, calm, conditions, laid).
  DERIVED. THE GIVEN ROWS OF THIS SEAT. 5 by the template 'for every input the law returns true; each argument reads behind the call as it read before'; 0 by the template 'total and deterministic' (their statements: YtdhckdeojplghaaTotals.lean).
  GIVEN WITH THE SEED: the statements are not yours to turn. If you find one false, say at which input.
  Laid BY PROGRAM, IN A SANDBOX (cutbox-rows.mjs): the forced cells as the released guide's own fill.sh prints them over the translation a44efc36a035f0e3… (all of the seat's roots in one cut). By AI agents, Wed Nov 11 2026. No macro, syntax, notation, axiom, sorry.
-/
import Derived.Test.YtdhckdeojplghaaChecked
import GoSem.Claim
import GoSem.ClaimJoined
import GoSem.ClaimMapViews
import Derived.JoinedTies
import Derived.KernelRfl
namespace Go.Proofs.Ytdhckdeojplghaa
/- THE CELL 'sum', in the pinned program and in every row, IS THE sha256 OF THE DUMP (.gsa) THAT YtdhckdeojplghaaProg.lean LOADS. Nothing in Lean hashes anything: it is a label: what it is worth is what the hold of that sum in a sandbox is worth. -/
noncomputable def Try.pinned : Pinned := { name := "ytdhckdeojplghaa", sum := "a44efc36a035f0e393d0d5f1b7d79e5dc4874db67dc4a24474bbc57a5a39668f", checked := Try.checked }
namespace Rows
def none {H : Type} : Left H := { results := [], args := [] }

/-- 'squelchlaw03.FreqScales': WHATEVER THE INPUT: true; the input reads as it did. -/
def freqScalesSpec : ChangeSpec := { name := "freqScales", fn := fun _ => fun
  | [d1, d2] => { results := [.lit (.bool true)], args := [d1, d2] }
  | _ => none }
def freqScalesRow : OpenClaim := { program := "ytdhckdeojplghaa", sum := "a44efc36a035f0e393d0d5f1b7d79e5dc4874db67dc4a24474bbc57a5a39668f", func := "squelch/squelchlaw03.FreqScales", spec := "freqScales", unfollowed := true, recurses := true, apart := false }
def FreqScalesSaid : Prop := freqScalesRow.holds Try.pinned (OpenSpec.ofChange freqScalesSpec)

/-- ITS FALSE NEIGHBOUR: 'it returns false'. Refute it at one input. -/
def freqScalesWrong : ChangeSpec := { name := "freqScales", fn := fun _ => fun
  | [d1, d2] => { results := [.lit (.bool false)], args := [d1, d2] }
  | _ => none }
def FreqScalesWrongFalsely : Prop := freqScalesRow.holds Try.pinned (OpenSpec.ofChange freqScalesWrong)

/-- 'squelchlaw03.FreqAgain': WHATEVER THE INPUT: true; the input reads as it did. -/
def freqAgainSpec : ChangeSpec := { name := "freqAgain", fn := fun _ => fun
  | [d] => { results := [.lit (.bool true)], args := [d] }
  | _ => none }
def freqAgainRow : OpenClaim := { program := "ytdhckdeojplghaa", sum := "a44efc36a035f0e393d0d5f1b7d79e5dc4874db67dc4a24474bbc57a5a39668f", func := "squelch/squelchlaw03.FreqAgain", spec := "freqAgain", unfollowed := true, recurses := true, apart := false }
def FreqAgainSaid : Prop := freqAgainRow.holds Try.pinned (OpenSpec.ofChange freqAgainSpec)

/-- ITS FALSE NEIGHBOUR: 'it returns false'. Refute it at one input. -/
def freqAgainWrong : ChangeSpec := { name := "freqAgain", fn := fun _ => fun
  | [d] => { results := [.lit (.bool false)], args := [d] }
  | _ => none }
def FreqAgainWrongFalsely : Prop := freqAgainRow.holds Try.pinned (OpenSpec.ofChange freqAgainWrong)

/-- 'squelchlaw03.FreqEven': WHATEVER THE INPUT: true; the input reads as it did. -/
def freqEvenSpec : ChangeSpec := { name := "freqEven", fn := fun _ => fun
  | [d1, d2, d3, d4] => { results := [.lit (.bool true)], args := [d1, d2, d3, d4] }
  | _ => none }
def freqEvenRow : OpenClaim := { program := "ytdhckdeojplghaa", sum := "a44efc36a035f0e393d0d5f1b7d79e5dc4874db67dc4a24474bbc57a5a39668f", func := "squelch/squelchlaw03.FreqEven", spec := "freqEven", unfollowed := true, recurses := true, apart := false }
def FreqEvenSaid : Prop := freqEvenRow.holds Try.pinned (OpenSpec.ofChange freqEvenSpec)

/-- ITS FALSE NEIGHBOUR: 'it returns false'. Refute it at one input. -/
def freqEvenWrong : ChangeSpec := { name := "freqEven", fn := fun _ => fun
  | [d1, d2, d3, d4] => { results := [.lit (.bool false)], args := [d1, d2, d3, d4] }
  | _ => none }
def FreqEvenWrongFalsely : Prop := freqEvenRow.holds Try.pinned (OpenSpec.ofChange freqEvenWrong)

/-- 'squelchlaw03.FreqTells': WHATEVER THE INPUT: true; the input reads as it did. -/
def freqTellsSpec : ChangeSpec := { name := "freqTells", fn := fun _ => fun
  | [d1, d2, d3, d4] => { results := [.lit (.bool true)], args := [d1, d2, d3, d4] }
  | _ => none }
def freqTellsRow : OpenClaim := { program := "ytdhckdeojplghaa", sum := "a44efc36a035f0e393d0d5f1b7d79e5dc4874db67dc4a24474bbc57a5a39668f", func := "squelch/squelchlaw03.FreqTells", spec := "freqTells", unfollowed := true, recurses := true, apart := false }
def FreqTellsSaid : Prop := freqTellsRow.holds Try.pinned (OpenSpec.ofChange freqTellsSpec)

/-- ITS FALSE NEIGHBOUR: 'it returns false'. Refute it at one input. -/
def freqTellsWrong : ChangeSpec := { name := "freqTells", fn := fun _ => fun
  | [d1, d2, d3, d4] => { results := [.lit (.bool false)], args := [d1, d2, d3, d4] }
  | _ => none }
def FreqTellsWrongFalsely : Prop := freqTellsRow.holds Try.pinned (OpenSpec.ofChange freqTellsWrong)

/-- 'squelchlaw03.FreqOne': WHATEVER THE INPUT: true; the input reads as it did. -/
def freqOneSpec : ChangeSpec := { name := "freqOne", fn := fun _ => fun
  | [d] => { results := [.lit (.bool true)], args := [d] }
  | _ => none }
def freqOneRow : OpenClaim := { program := "ytdhckdeojplghaa", sum := "a44efc36a035f0e393d0d5f1b7d79e5dc4874db67dc4a24474bbc57a5a39668f", func := "squelch/squelchlaw03.FreqOne", spec := "freqOne", unfollowed := true, recurses := true, apart := false }
def FreqOneSaid : Prop := freqOneRow.holds Try.pinned (OpenSpec.ofChange freqOneSpec)

/-- ITS FALSE NEIGHBOUR: 'it returns false'. Refute it at one input. -/
def freqOneWrong : ChangeSpec := { name := "freqOne", fn := fun _ => fun
  | [d] => { results := [.lit (.bool false)], args := [d] }
  | _ => none }
def FreqOneWrongFalsely : Prop := freqOneRow.holds Try.pinned (OpenSpec.ofChange freqOneWrong)

/- THE SECOND FORM. 'bulk': how many values and letters a reading holds, each counted each time it is reached (what is shared counts as often as it is met; a slice's spare places count too). A statement '..UptoSaid' is the law's where the arguments, and the package variables that the reading takes, are together of bulk at most 1048576: NARROWER than '..Said'. Prove '..Said' where nothing that the law and all that it calls make is longer than what came in: it says more and counts as full. Else prove '..UptoSaid'. A law counts once. -/
mutual
def uptoBulk {H : Type} : DataW H → Nat
  | .lit (.string bytes) => bytes.length + 1
  | .lit _ => 1
  | .nil => 1
  | .ptr d => uptoBulk d + 1
  | .slice elems spare => uptoBulkAll elems + uptoBulkAll spare + 1
  | .agg parts => uptoBulkAll parts + 1
  | .iface _ d => uptoBulk d + 1
  | .map entries => uptoBulkEntries entries + 1
  | .held _ => 1
def uptoBulkAll {H : Type} : List (DataW H) → Nat
  | [] => 0
  | d :: r => uptoBulk d + uptoBulkAll r
def uptoBulkEntries {H : Type} : List (Lit × DataW H) → Nat
  | [] => 0
  | x :: r => uptoBulkEntry x + uptoBulkEntries r
def uptoBulkEntry {H : Type} : Lit × DataW H → Nat
  | (.string bytes, d) => bytes.length + uptoBulk d + 1
  | (_, d) => uptoBulk d + 1
 end
def uptoSmall : (H : Type) → List (DataW H) → Bool := fun _ ds => decide (uptoBulkAll ds ≤ 1048576)
def OpenSpec.upto (s : _root_.Go.ChangeSpec) : _root_.Go.OpenSpec := { _root_.Go.OpenSpec.ofChange s with cond := some uptoSmall }

/-- 'squelchlaw03.FreqScales', WHERE WHAT IT READS IS OF BULK AT MOST 1048576: true; the input reads as it did. -/
def freqScalesUptoRow : OpenClaim := { program := "ytdhckdeojplghaa", sum := "a44efc36a035f0e393d0d5f1b7d79e5dc4874db67dc4a24474bbc57a5a39668f", func := "squelch/squelchlaw03.FreqScales", spec := "freqScales", unfollowed := true, recurses := true, apart := false, narrowed := true }
def FreqScalesUptoSaid : Prop := freqScalesUptoRow.holds Try.pinned (OpenSpec.upto freqScalesSpec)

/-- 'squelchlaw03.FreqAgain', WHERE WHAT IT READS IS OF BULK AT MOST 1048576: true; the input reads as it did. -/
def freqAgainUptoRow : OpenClaim := { program := "ytdhckdeojplghaa", sum := "a44efc36a035f0e393d0d5f1b7d79e5dc4874db67dc4a24474bbc57a5a39668f", func := "squelch/squelchlaw03.FreqAgain", spec := "freqAgain", unfollowed := true, recurses := true, apart := false, narrowed := true }
def FreqAgainUptoSaid : Prop := freqAgainUptoRow.holds Try.pinned (OpenSpec.upto freqAgainSpec)

/-- 'squelchlaw03.FreqEven', WHERE WHAT IT READS IS OF BULK AT MOST 1048576: true; the input reads as it did. -/
def freqEvenUptoRow : OpenClaim := { program := "ytdhckdeojplghaa", sum := "a44efc36a035f0e393d0d5f1b7d79e5dc4874db67dc4a24474bbc57a5a39668f", func := "squelch/squelchlaw03.FreqEven", spec := "freqEven", unfollowed := true, recurses := true, apart := false, narrowed := true }
def FreqEvenUptoSaid : Prop := freqEvenUptoRow.holds Try.pinned (OpenSpec.upto freqEvenSpec)

/-- 'squelchlaw03.FreqTells', WHERE WHAT IT READS IS OF BULK AT MOST 1048576: true; the input reads as it did. -/
def freqTellsUptoRow : OpenClaim := { program := "ytdhckdeojplghaa", sum := "a44efc36a035f0e393d0d5f1b7d79e5dc4874db67dc4a24474bbc57a5a39668f", func := "squelch/squelchlaw03.FreqTells", spec := "freqTells", unfollowed := true, recurses := true, apart := false, narrowed := true }
def FreqTellsUptoSaid : Prop := freqTellsUptoRow.holds Try.pinned (OpenSpec.upto freqTellsSpec)

/-- 'squelchlaw03.FreqOne', WHERE WHAT IT READS IS OF BULK AT MOST 1048576: true; the input reads as it did. -/
def freqOneUptoRow : OpenClaim := { program := "ytdhckdeojplghaa", sum := "a44efc36a035f0e393d0d5f1b7d79e5dc4874db67dc4a24474bbc57a5a39668f", func := "squelch/squelchlaw03.FreqOne", spec := "freqOne", unfollowed := true, recurses := true, apart := false, narrowed := true }
def FreqOneUptoSaid : Prop := freqOneUptoRow.holds Try.pinned (OpenSpec.upto freqOneSpec)

end Rows
end Go.Proofs.Ytdhckdeojplghaa
