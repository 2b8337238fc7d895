/- The contract of slices.Grow for the nil slice of bytes: a row of one's own, without an element, with room; walked by hand. -/
import Derived.Test.YtfjcehjdendjnaaPAx0
namespace Go.Proofs.Ytfjcehjdendjnaa.PA
open Go.RowKit Go.Proofs.YtfjcehjdendjnaaW.PrintWords Go.Proofs.YtfjcehjdendjnaaW.PrintLast Go.Proofs.YtfjcehjdendjnaaW.PrintMore
set_option linter.unusedVariables false
set_option linter.unusedSimpArgs false

def slices_Grow_byte_byte.f (l0 : List Int) (a1 : Int) : Option (List Int) := if l0 = [] ∧ 0 ≤ a1 ∧ a1 ≤ 140737488355328 then some [] else none
theorem own_short {d : Kd Int} {e base : Nat} {w : World} {A : Option Addr} {n c : Nat} {ok : Nat → Prop} {xs : List Int} (h : d.R e w base ok (.slice A n c) xs) (hn : n = xs.length) (h0 : 0 < n) : d.R e w base ok (.slice A 0 c) [] := by
  obtain ⟨hok, inner, ⟨hl, ho⟩, hr⟩ := h
  rcases ho with ⟨he, hz⟩ | ⟨g, cap, cur, he, hb, hh, hc, hm, hs, ht⟩
  · omega
  · obtain ⟨rfl, _, rfl⟩ : A = some ⟨g, 0, none⟩ ∧ n = xs.length ∧ c = cap := by simpa using he
    exact ⟨fun k hk => hok k hk, [], ⟨by simp, .inr ⟨g, c, cur, rfl, hb, hh, Nat.zero_le _, hm, hs, by simp⟩⟩, Reps.none _ _⟩
set_option maxHeartbeats 8000000 in
set_option maxRecDepth 100000 in
theorem slices_Grow_byte_byte.calls (A0 : Option Addr) (c0 : Nat) (l0 : List Int) (a1 : Int) (r : List Int) (w : World) (hr0 : Kd.C (Kd.int .u8) w A0 l0.length l0) (hc0 : l0.length ≤ c0) (h : slices_Grow_byte_byte.f l0 a1 = some r) (hA : A0 = none := by rfl) (hc : c0 = 0 := by rfl) :
    Calls Try.prog 29 #[.slice A0 l0.length c0, .int .i64 a1] w fun e w' => ∃ v0_ : Value, e = .returned (v0_) ∧ Kd.R (Kd.int .u8) 5 w' w.heap.size (fun _ => True) v0_ r ∧ Below w.heap.size w w' := by
  subst hA
  subst hc
  unfold slices_Grow_byte_byte.f at h
  have hx : l0 = [] ∧ 0 ≤ a1 ∧ a1 ≤ 140737488355328 := by
    refine Classical.byContradiction fun hn => ?_
    rw [if_neg hn] at h
    cases h
  rw [if_pos hx] at h
  obtain ⟨rfl, h0, h1⟩ := hx
  obtain rfl : [] = r := Option.some.inj h
  have hn : decide (a1 < 0) = false := decide_eq_false (by omega)
  have hw : wrap64 (a1 - wrap64 (0 - 0)) = a1 := by unfold wrap64; omega
  rcases Classical.em (0 < a1) with hp | hp
  · have hq : decide (0 < a1) = true := decide_eq_true hp
    go_enter Try.func29, Try.ntmps29
    go_wp2_with (at_builtin; refine Kd.R_append_zeros (Kd.int .u8) (w0 := w) w.heap.size rfl (.tmp 20) (.tmp 21) 22 3 5 (.int .u8 0) 1 rfl Try.underlying22 Try.underlying3 info5 rfl (by decide) (by omega) (.slice none 0 0) ([] : List Int) (0 : Int) (a1 : Int) (fun _ => True) rfl rfl rfl (fun _ _ => trivial) (Kd.R_nil _ _ _ _ _) h0 (Below.refl _ _) (Nat.le_refl _) (by simp only [List.length_nil]; omega) ?_; intro v1 w1 hR hB hg hat; rw [List.nil_append] at hR; obtain ⟨A1, c1, e1⟩ := Kd.R_slice hR; subst e1)
    go_ret
    exact ⟨_, rfl, own_short hR rfl (by rw [List.length_replicate]; omega), hB⟩
  · obtain rfl : a1 = 0 := by omega
    go_enter Try.func29, Try.ntmps29
    go_wp2
    go_ret
    exact ⟨_, rfl, Kd.R_nil _ _ _ _ _, Below.refl _ _⟩
end Go.Proofs.Ytfjcehjdendjnaa.PA
