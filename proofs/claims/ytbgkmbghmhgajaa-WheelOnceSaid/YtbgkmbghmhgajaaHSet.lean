/- slices.Delete and slices.Insert of one timer, over a row of timers; by hand. -/
import Derived.Test.YtbgkmbghmhgajaaHDelete
import Derived.Test.YtbgkmbghmhgajaaHInsA
namespace Go.Proofs.Ytbgkmbghmhgajaa.PA
open Go.RowKit Go.Proofs.YtbgkmbghmhgajaaW.PrintWords Go.Proofs.YtbgkmbghmhgajaaW.PrintLast Go.Proofs.YtbgkmbghmhgajaaW.PrintMore
set_option linter.unusedVariables false
set_option linter.unusedSimpArgs false
theorem k33_any {w : World} {base : Nat} {ok : Nat → Prop} {x : S33} {cs : List Value} (h : k33.M w base ok x cs) (ok' : Nat → Prop) : k33.M w base ok' x cs := by
  obtain rfl := k33_openM h
  exact k33_mkM _ _ _ x
/-- A timer leads to no block: a row of timers is one of elements apart. -/
theorem S_of_R33 {w : World} {base : Nat} {ok : Nat → Prop} {v : Value} {xs : List S33} (h : k33.R 33 w base ok v xs) (ok' : Nat → Prop) (hok : ∀ k, v.ownBlock = some k → ok k → ok' k) : Kd.S k33 33 w base ok' v xs := by
  obtain ⟨h0, inner, ho, hr⟩ := h
  refine ⟨fun _ => 0, fun k hk => hok k hk (h0 k hk), inner, by rw [List.length_zipIdx]; exact ho, by rw [List.length_zipIdx]; exact hr.1, fun j p hj => ?_⟩
  rw [List.getElem?_zipIdx] at hj
  obtain ⟨x, hx, rfl⟩ := Option.map_eq_some_iff.1 hj
  have hm := hr.2 j x hx
  exact k33_any hm _
def api_Timer_22.f (xs : List S33) (i j : Int) : Option (List S33) := if 0 ≤ i ∧ j = i + 1 ∧ j ≤ (xs.length : Int) then some (xs.eraseIdx i.toNat) else none
theorem api_Timer_22.calls {W : World} {base : Nat} {ok : Nat → Prop} {xs ys : List S33} {A : Option Addr} {c : Nat} (HO : k33.R 33 W base ok (.slice A xs.length c) xs) {i j : Int} (h : api_Timer_22.f xs i j = some ys) (hbase : base ≤ W.heap.size) :
    Calls Try.prog 22 #[.slice A xs.length c, .int .i64 i, .int .i64 j] W fun e w' => ∃ v, e = .returned v ∧ k33.R 33 w' base ok v ys ∧ Below base W w' ∧ (∀ k, some k ≠ (Value.slice A xs.length c).ownBlock → k < W.heap.size → w'.heap[k]? = W.heap[k]?) := by
  unfold api_Timer_22.f at h
  by_cases hc : 0 ≤ i ∧ j = i + 1 ∧ j ≤ (xs.length : Int)
  · rw [if_pos hc] at h
    injection h with h
    subst h
    obtain ⟨h0, rfl, h2⟩ := hc
    obtain ⟨ad, rfl, -, -⟩ := at_T33 (Kd.R_reads' HO).2.2 i h0 (by omega)
    obtain ⟨g, rfl⟩ := Kd.R_head HO
    have hnc := (Kd.R_reads' HO).2.1
    refine (delete_in k33 rfl HO i h0 (by omega) hnc hbase).mono ?_
    rintro e w' ⟨rfl, hR, hB, hk⟩
    exact ⟨_, rfl, hR, hB, fun k hk1 => hk k (fun he => hk1 (by simp [Value.ownBlock, he]))⟩
  · rw [if_neg hc] at h
    cases h
theorem R_insert33 {ops : Array Oper} {rest : List Oper} {o : Oper} {a : Act} {Q : Exit → Act → World → Prop} {w0 W : World} (base : Nat) (hgd : o.guard = none) (s ix x : Operand) (ts : Array TypeId)
    (ho : o.op = .call { callee := .value (.func 25), args := #[s, ix, x], argTypes := ts })
    (A : Option Addr) (c : Nat) (xs : List S33) (p : S33) (cs : List Value) (ok okp : Nat → Prop) (i : Int) (hi0 : 0 ≤ i) (hi1 : i ≤ (xs.length : Int)) (hs : a.eval s = .slice A xs.length c) (hix : a.eval ix = .int .i64 i) (hx : a.eval x = .slice (some ⟨W.heap.size, 0, none⟩) 1 1) (hp : k33.M W base (fun _ => False) p cs) (hokp : ∀ k, okp k → ok k ∧ some k ≠ (Value.slice A xs.length c).ownBlock) (hfresh : ∀ k, W.heap.size ≤ k → ok k)
    (HO : k33.R 33 W base ok (.slice A xs.length c) xs) (HB : Below base w0 W) (hbase : base ≤ W.heap.size) (hl : (xs.length + 1) * 16 ≤ 140737488355328)
    (h : ∀ v1 w1, k33.R 33 w1 base ok v1 (xs.take i.toNat ++ p :: xs.drop i.toNat) → Below base w0 w1 → W.grownBy w1 (Value.slice A xs.length c).ownBlock → (v1.ownBlock = (Value.slice A xs.length c).ownBlock ∨ ∃ b, v1.ownBlock = some b ∧ W.heap.size ≤ b) → wpList Try.prog ops Q rest (a.put o.dst v1) w1) :
    wpList Try.prog ops Q (o :: rest) a (W.alloc (.cells cs.toArray 33)) :=
  S_insert k33 rfl base hgd s ix x ts ho A c xs p cs ok (fun _ => False) i hi0 hi1 hs hix hx hp (fun _ hk => hk.elim) hfresh (S_of_R33 HO _ (fun k _ hk => ⟨hk, fun e => e⟩)) HB hbase hl
    (fun v1 w1 hS => h v1 w1 (Kd.S_R hS))
end Go.Proofs.Ytbgkmbghmhgajaa.PA
