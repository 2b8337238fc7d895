/- The chapter's example; a bit, or some, taken out of packed bits. -/
import Derived.Test.YtkgcjiaadgnlkaaBt
import Derived.Test.YtkgcjiaadgnlkaaPAx5
import Derived.Test.YtkgcjiaadgnlkaaPAx7
set_option linter.unusedVariables false
namespace Go.Proofs.Ytkgcjiaadgnlkaa.BT
open Go.RowKit Go.Proofs.YtkgcjiaadgnlkaaW.PrintWords Go.Proofs.YtkgcjiaadgnlkaaW.PrintMore Go.Proofs.Ytkgcjiaadgnlkaa.PA

theorem live_100 : squelchlaw01_live.f 100 = some true := by decide +kernel
theorem live_ok {k : Nat} (hk : 100 ≤ k) : squelchlaw01_live.f k = some true := at_rounds squelchlaw01_live.mono hk live_100

theorem take_yes {k : Nat} (l : List Bool) (hl : l.length ≤ 65536) (at_ d : Nat) (hk : d < k) (hd : d ≤ 64) (ha : at_ + d ≤ l.length) :
    bits_take.f k (pack l) (l.length : Int) (at_ : Int) (d : Int) = some ((num ((l.drop at_).take d) : Nat) : Int) := by
  unfold bits_take.f
  have := take_ok l (by omega) d k at_ 0 hk hd ha (Nat.two_pow_pos _)
  rw [show ((0 : Nat) : Int) = 0 from rfl] at this
  rw [this]
  simp

/-- How many zeros stand at a place, up to 33. -/
theorem num_one (b : Bool) : num [b] = b.toNat := by cases b <;> rfl
theorem take_one (l : List Bool) (i : Nat) (h : i < l.length) : (l.drop i).take 1 = [l[i]] := by
  rw [List.drop_eq_getElem_cons h]
  rfl

end Go.Proofs.Ytkgcjiaadgnlkaa.BT
