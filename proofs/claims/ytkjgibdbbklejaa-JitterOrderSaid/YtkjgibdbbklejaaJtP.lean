/- What put computes, in plain lists. -/
import Derived.Test.YtkjgibdbbklejaaJt
import Derived.Test.YtkjgibdbbklejaaHPut
set_option linter.unusedVariables false
set_option linter.unusedSimpArgs false
namespace Go.Proofs.Ytkjgibdbbklejaa.Jt
open Go.RowKit Go.Proofs.Ytkjgibdbbklejaa.PA Go.Proofs.YtkjgibdbbklejaaW.PrintWords Go.Proofs.YtkjgibdbbklejaaW.PrintLast Go.Proofs.YtkjgibdbbklejaaW.PrintMore

theorem clone_f (l : List Int) (h : l.length < 140737488355328) : slices_Clone_byte_byte.f l = some l := by
  unfold slices_Clone_byte_byte.f
  rw [Option.bind_some, if_pos (by simpa using h)]
  rfl
theorem owned_l0 (on : Bool) (nx dp dr : Int) (q : List S41) (hq : q.length ≤ 4611686018427387904) (hb : ∀ p ∈ q, p.f1.length < 140737488355328) : ∀ (d k i : Nat), i + d = q.length → d < k → jitter_owned.l0 k (q.length : Int) (i : Int) on nx dp dr q = some (on, nx, dp, dr, q) := by
  intro d
  induction d with
  | zero =>
    intro k i hi hk
    obtain ⟨k, rfl⟩ := some_of k 1 (by omega)
    rw [jitter_owned.l0, if_neg (by omega)]
  | succ d ih =>
    intro k i hi hk
    obtain ⟨k, rfl⟩ := some_of k 1 (by omega)
    have hil : i < q.length := by omega
    rw [jitter_owned.l0, if_pos (show (i : Int) < (q.length : Int) by omega), if_pos (by omega), if_pos (show (i : Int) < (q.length : Int) by omega), rd_at q i hil, clone_f _ (hb _ (List.getElem_mem hil)), Option.bind_some, w64 _ (by omega) (by omega), show (i : Int) + 1 = ((i + 1 : Nat) : Int) by omega]
    have e : q.set ((i : Int)).toNat (⟨q[i].f0, q[i].f1⟩ : S41) = q := by
      rw [Int.toNat_natCast]
      exact List.set_getElem_self hil
    rw [e]
    exact ih k (i + 1) (by omega) (by omega)
theorem owned_f (on : Bool) (nx dp dr : Int) (q : List S41) (hq : q.length < 4398046511104) (hb : ∀ p ∈ q, p.f1.length < 140737488355328) (k : Nat) (hk : q.length < k) : jitter_owned.f k on nx dp dr q = some (on, nx, dp, dr, q) := by
  unfold jitter_owned.f api_Packet_43.f
  rw [Option.bind_some, if_pos (by simpa using hq), Option.bind_some]
  exact owned_l0 on nx dp dr q (by omega) hb q.length k 0 (by omega) hk
theorem cmp_f (a b : Int) : cmp_Compare_int.f a b = some (if a < b then -1 else if a > b then 1 else 0) := by
  unfold cmp_Compare_int.f cmp_isNaN_int.f
  simp only [Option.bind_some, bne_self_eq_false]
  rw [if_neg (by decide), if_neg (by decide)]
  split
  · rfl
  · split <;> rfl
/-- How many packets are ahead of a number. -/
def lb (s : Int) (q : List S41) : Nat := (q.filter fun x => decide (x.f0 < s)).length
def Inc (q : List S41) : Prop := q.Pairwise fun a b => a.f0 < b.f0
theorem inc_lt {q : List S41} (h : Inc q) {a b : Nat} (hab : a < b) (hb : b < q.length) : (q[a]'(by omega)).f0 < q[b].f0 := List.pairwise_iff_getElem.1 h a b (by omega) hb hab
theorem lb_of {q : List S41} {s : Int} : ∀ {r : Nat}, r ≤ q.length → (∀ a (h : a < q.length), a < r → q[a].f0 < s) → (∀ a (h : a < q.length), r ≤ a → s ≤ q[a].f0) → lb s q = r := by
  induction q with
  | nil => intro r hr _ _; simp at hr; subst hr; rfl
  | cons x q ih =>
    intro r hr h1 h2
    cases r with
    | zero =>
      unfold lb
      rw [List.length_eq_zero_iff, List.filter_eq_nil_iff]
      intro y hy
      obtain ⟨a, ha, rfl⟩ := List.mem_iff_getElem.1 hy
      have := h2 a ha (by omega)
      simp; omega
    | succ r =>
      have h3 := h1 0 (by simp) (by omega)
      have h4 : (x :: q)[0].f0 = x.f0 := rfl
      unfold lb
      rw [List.filter_cons, if_pos (by simp; omega), List.length_cons]
      congr 1
      exact ih (by simpa using hr) (fun a ha har => h1 (a + 1) (by simpa using ha) (by omega)) (fun a ha har => h2 (a + 1) (by simpa using ha) (by omega))
theorem mid_eq (i j : Nat) (h : i + j ≤ 4611686018427387904) : wrap64 ((IntKind.u64.wrap (wrap64 ((i : Int) + (j : Int)))) / 2) = (((i + j) / 2 : Nat) : Int) := by
  rw [w64 ((i : Int) + (j : Int)) (by omega) (by omega)]
  have e : IntKind.u64.wrap ((i : Int) + (j : Int)) = (i : Int) + (j : Int) := by
    show ((i : Int) + (j : Int)) % 18446744073709551616 = _
    omega
  rw [e, w64 _ (by omega) (by omega)]
  omega
theorem find_l0 (q : List S41) (s : Int) (hinc : Inc q) (hq : q.length ≤ 1000000) : ∀ (d i j : Nat), j - i ≤ d → i ≤ j → j ≤ q.length → (∀ a (h : a < q.length), a < i → q[a].f0 < s) → (∀ a (h : a < q.length), j ≤ a → s ≤ q[a].f0) →
    ∀ k, d < k → api_Packet_int.l0 k q s (q.length : Int) (i : Int) (j : Int) = some (((lb s q : Nat) : Int), decide (∃ x ∈ q, x.f0 = s)) := by
  intro d
  induction d with
  | zero =>
    intro i j hd hij hj h1 h2 k hk
    obtain rfl : i = j := by omega
    obtain ⟨k, rfl⟩ := some_of k 1 (by omega)
    have hlb := lb_of hj h1 h2
    rw [api_Packet_int.l0, if_neg (by omega), hlb]
    by_cases hil : i < q.length
    · rw [if_pos (show (i : Int) < (q.length : Int) by omega), if_pos (by omega), if_pos (show (i : Int) < (q.length : Int) by omega), rd_at q i hil]
      unfold jitter_find_1.f
      rw [cmp_f]
      simp only [Option.bind_some]
      congr 2
      rw [Bool.eq_iff_iff, decide_eq_true_iff, beq_iff_eq]
      constructor
      · intro h
        refine ⟨q[i], List.getElem_mem hil, ?_⟩
        by_cases h3 : q[i].f0 < s
        · rw [if_pos h3] at h; omega
        · rw [if_neg h3] at h
          by_cases h4 : q[i].f0 > s
          · rw [if_pos h4] at h; omega
          · omega
      · rintro ⟨x, hx, rfl⟩
        obtain ⟨a, ha, rfl⟩ := List.mem_iff_getElem.1 hx
        have e : q[i].f0 = q[a].f0 := by
          rcases Nat.lt_trichotomy a i with h | h | h
          · have := h1 a ha h; omega
          · subst h; rfl
          · have h5 := inc_lt hinc h ha
            have h6 := h2 i hil (Nat.le_refl _)
            omega
        rw [if_neg (by omega), if_neg (by omega)]
    · rw [if_neg (show ¬ (i : Int) < (q.length : Int) by omega)]
      congr 2
      symm
      rw [decide_eq_false_iff_not]
      rintro ⟨x, hx, rfl⟩
      obtain ⟨a, ha, rfl⟩ := List.mem_iff_getElem.1 hx
      have := h1 a ha (by omega)
      omega
  | succ d ih =>
    intro i j hd hij hj h1 h2 k hk
    by_cases hlt : i < j
    · obtain ⟨k, rfl⟩ := some_of k 1 (by omega)
      have hm : (i + j) / 2 < q.length := by omega
      rw [api_Packet_int.l0, if_pos (show (i : Int) < (j : Int) by omega), mid_eq i j (by omega), if_pos (by omega), if_pos (show (((i + j) / 2 : Nat) : Int) < (q.length : Int) by omega), rd_at q _ hm]
      unfold jitter_find_1.f
      rw [cmp_f]
      simp only [Option.bind_some]
      by_cases h3 : q[(i + j) / 2].f0 < s
      · rw [if_pos h3, if_pos (by decide), w64 _ (by omega) (by omega), show (((i + j) / 2 : Nat) : Int) + 1 = (((i + j) / 2 + 1 : Nat) : Int) by omega]
        refine ih _ _ (by omega) (by omega) hj (fun a ha har => ?_) h2 k (by omega)
        rcases Nat.lt_or_ge a ((i + j) / 2) with h | h
        · have := inc_lt hinc h hm; omega
        · obtain rfl : a = (i + j) / 2 := by omega
          exact h3
      · rw [if_neg h3, if_neg (by split <;> omega)]
        refine ih _ _ (by omega) (by omega) (by omega) h1 (fun a ha har => ?_) k (by omega)
        rcases Nat.eq_or_lt_of_le har with h | h
        · subst h; omega
        · have := inc_lt hinc h ha; omega
    · obtain rfl : i = j := by omega
      exact ih i i (by omega) hij hj h1 h2 k (by omega)
theorem find_f (on : Bool) (nx dp dr : Int) (q : List S41) (s : Int) (hinc : Inc q) (hq : q.length ≤ 1000000) (k : Nat) (hk : q.length < k) : jitter_find.f k on nx dp dr q s = some (((lb s q : Nat) : Int), decide (∃ x ∈ q, x.f0 = s)) := by
  unfold jitter_find.f api_Packet_int.f
  rw [show (0 : Int) = ((0 : Nat) : Int) from rfl, find_l0 q s hinc hq q.length 0 q.length (by omega) (by omega) (Nat.le_refl _) (fun a h h0 => by omega) (fun a h h0 => by omega) k hk]
  rfl
theorem lb_split {s : Int} : ∀ {q : List S41}, Inc q → (∀ x ∈ q.take (lb s q), x.f0 < s) ∧ (∀ x ∈ q.drop (lb s q), s ≤ x.f0) := by
  intro q
  induction q with
  | nil => intro _; simp
  | cons x q ih =>
    intro h
    obtain ⟨h1, h2⟩ := List.pairwise_cons.1 h
    by_cases hx : x.f0 < s
    · have e : lb s (x :: q) = lb s q + 1 := by
        unfold lb
        rw [List.filter_cons, if_pos (by simpa using hx)]
        rfl
      obtain ⟨a, b⟩ := ih h2
      rw [e, List.take_succ_cons, List.drop_succ_cons]
      refine ⟨fun y hy => ?_, b⟩
      rcases List.mem_cons.1 hy with rfl | hy
      · exact hx
      · exact a y hy
    · have e : lb s (x :: q) = 0 := by
        unfold lb
        rw [List.length_eq_zero_iff, List.filter_eq_nil_iff]
        intro y hy
        rcases List.mem_cons.1 hy with rfl | hy
        · simpa using hx
        · have := h1 y hy
          simp; omega
      rw [e, List.take_zero, List.drop_zero]
      refine ⟨by simp, fun y hy => ?_⟩
      rcases List.mem_cons.1 hy with rfl | hy
      · omega
      · have := h1 y hy; omega
theorem lb_le (s : Int) (q : List S41) : lb s q ≤ q.length := List.length_filter_le _ _
/-- A packet in its place. -/
def insq (q : List S41) (p : S41) : List S41 := q.take (lb p.f0 q) ++ p :: q.drop (lb p.f0 q)
theorem insq_mem (q : List S41) (p x : S41) : x ∈ insq q p ↔ x = p ∨ x ∈ q := by
  unfold insq
  rw [List.mem_append, List.mem_cons]
  constructor
  · rintro (h | h | h)
    · exact .inr (List.mem_of_mem_take h)
    · exact .inl h
    · exact .inr (List.mem_of_mem_drop h)
  · rintro (h | h)
    · exact .inr (.inl h)
    · rw [← List.take_append_drop (lb p.f0 q) q, List.mem_append] at h
      rcases h with h | h
      · exact .inl h
      · exact .inr (.inr h)
theorem insq_len (q : List S41) (p : S41) : (insq q p).length = q.length + 1 := by
  unfold insq
  have := lb_le p.f0 q
  simp
  omega
theorem insq_inc {q : List S41} {p : S41} (h : Inc q) (hn : ¬ ∃ x ∈ q, x.f0 = p.f0) : Inc (insq q p) := by
  obtain ⟨a, b⟩ := lb_split (s := p.f0) h
  have hd : ∀ x ∈ q.drop (lb p.f0 q), p.f0 < x.f0 := fun x hx => by
    have h1 := b x hx
    rcases Int.lt_or_eq_of_le h1 with h2 | h2
    · exact h2
    · exact absurd ⟨x, List.mem_of_mem_drop hx, h2.symm⟩ hn
  unfold insq Inc
  rw [List.pairwise_append]
  refine ⟨h.sublist (List.take_sublist _ _), List.pairwise_cons.2 ⟨hd, h.sublist (List.drop_sublist _ _)⟩, fun x hx y hy => ?_⟩
  have h1 := a x hx
  rcases List.mem_cons.1 hy with rfl | hy
  · exact h1
  · have := hd y hy; omega
def farb (on : Bool) (nx : Int) (q : List S41) (s : Int) : Bool := if on = true then decide (s - nx ≥ 64) else if q = [] then false else decide (mx s (rd_T41 q ((q.length : Int) - 1)).f0 - mn s (rd_T41 q 0).f0 ≥ 64)
theorem rd_gd {q : List S41} (hg : ∀ p ∈ q, gd p = true) (i : Nat) (h : i < q.length) : 0 ≤ (rd_T41 q (i : Int)).f0 ∧ (rd_T41 q (i : Int)).f0 ≤ 1099511627776 := by
  rw [rd_at q i h]
  have := (gd_iff _).1 (hg _ (List.getElem_mem h))
  exact ⟨this.1, this.2.1⟩
theorem far_f (on : Bool) (nx dp dr : Int) (q : List S41) (s : Int) (hq : q.length ≤ 1000000) (hg : ∀ p ∈ q, gd p = true) (hs : 0 ≤ s ∧ s ≤ 1099511627776) (hn : 0 ≤ nx ∧ nx ≤ 2199023255552) : jitter_far.f on nx dp dr q s = some (farb on nx q s) := by
  unfold jitter_far.f farb
  by_cases h1 : on = true
  · rw [if_pos h1, if_pos h1, w64 _ (by omega) (by omega)]
  · rw [if_neg h1, if_neg h1]
    by_cases h2 : q = []
    · subst h2
      rw [if_neg (by decide), if_pos rfl, Int.sub_self, w64 0 (by decide) (by decide)]
      rfl
    · have hl : 0 < q.length := List.length_pos_iff.2 h2
      have e : wrap64 ((q.length : Int) - 1) = ((q.length - 1 : Nat) : Int) := by rw [w64 _ (by omega) (by omega)]; omega
      have a1 := rd_gd hg (q.length - 1) (by omega)
      have a2 := rd_gd hg 0 hl
      have e2 : (q.length : Int) - 1 = ((q.length - 1 : Nat) : Int) := by omega
      rw [if_pos (by omega), if_pos (by omega), e, if_pos (by omega), if_pos (by omega), if_neg h2, e2]
      generalize rd_T41 q ((q.length - 1 : Nat) : Int) = y at a1
      change 0 ≤ (rd_T41 q 0).f0 ∧ (rd_T41 q 0).f0 ≤ 1099511627776 at a2
      generalize rd_T41 q 0 = z at a2
      rw [w64 _ (by unfold mx mn; split <;> split <;> omega) (by unfold mx mn; split <;> split <;> omega)]
/-- What becomes of a packet that is put. -/
def put1 (on : Bool) (nx : Int) (q : List S41) (p : S41) : List S41 × Int :=
  if on = true ∧ p.f0 < nx then (q, 1) else if (∃ x ∈ q, x.f0 = p.f0) then (q, 2) else if farb on nx q p.f0 = true then (q, 3) else (insq q p, 0)
def putl (on : Bool) (nx : Int) : List S41 → List S41 → List S41 × List Int
  | q, [] => (q, [])
  | q, p :: l => ((putl on nx (put1 on nx q p).1 l).1, (put1 on nx q p).2 :: (putl on nx (put1 on nx q p).1 l).2)
theorem put1_keep {on : Bool} {nx : Int} {q : List S41} {p : S41} (hi : Inc q) (hg : ∀ x ∈ q, gd x = true) (hp : gd p = true) : Inc (put1 on nx q p).1 ∧ (∀ x ∈ (put1 on nx q p).1, gd x = true) ∧ (put1 on nx q p).1.length ≤ q.length + 1 := by
  unfold put1
  split
  · exact ⟨hi, hg, by simp⟩
  · split
    · exact ⟨hi, hg, by simp⟩
    · rename_i h2
      split
      · exact ⟨hi, hg, by simp⟩
      · refine ⟨insq_inc hi h2, fun x hx => ?_, by rw [insq_len]; exact Nat.le_refl _⟩
        rcases (insq_mem q p x).1 hx with rfl | hx
        · exact hp
        · exact hg x hx
theorem put_l0 (on : Bool) (nx dp dr : Int) (l : List S41) (hl : ∀ p ∈ l, gd p = true) (hll : l.length ≤ 100000) (hn : 0 ≤ nx ∧ nx ≤ 2199023255552) : ∀ (d i : Nat) (out : List Int) (q : List S41), i + d = l.length → (∀ p ∈ q, gd p = true) → Inc q → q.length + d ≤ 200000 → out.length + d ≤ 200000 → ∀ k, q.length + 3 * d + 2 ≤ k →
    jitter_Put.l0 k out l (l.length : Int) (i : Int) on nx dp dr q = some (on, nx, dp, dr, (putl on nx q (l.drop i)).1, out ++ (putl on nx q (l.drop i)).2, 0) := by
  intro d
  induction d with
  | zero =>
    intro i out q hi hg hinc hql hol k hk
    obtain ⟨k, rfl⟩ := some_of k 1 (by omega)
    rw [jitter_Put.l0, if_neg (by omega), List.drop_eq_nil_of_le (by omega)]
    simp [putl]
  | succ d ih =>
    intro i out q hi hg hinc hql hol k hk
    obtain ⟨k, rfl⟩ := some_of k 2 (by omega)
    have hil : i < l.length := by omega
    obtain ⟨p, hp⟩ : ∃ p, p = l[i] := ⟨_, rfl⟩
    have hpg : gd p = true := by rw [hp]; exact hl _ (List.getElem_mem hil)
    have hpr := (gd_iff p).1 hpg
    rw [jitter_Put.l0, if_pos (show (i : Int) < (l.length : Int) by omega), if_pos (by omega), if_pos (show (i : Int) < (l.length : Int) by omega), rd_at l i hil, ← hp, find_f on nx dp dr q p.f0 hinc (by omega) (k + 1) (by omega), Option.bind_some]
    have key : ∀ b : Bool, (b = true ↔ on = true ∧ p.f0 < nx) → jitter_Put.j2 (k + 1) out 0 ((lb p.f0 q : Nat) : Int) (decide (∃ x ∈ q, x.f0 = p.f0)) l (l.length : Int) (i : Int) b on nx dp dr q p.f0 p.f1 = some (on, nx, dp, dr, (putl on nx q (l.drop i)).1, out ++ (putl on nx q (l.drop i)).2, 0) := fun b hb => by
      rw [jitter_Put.j2]
      have step : ∀ (q' : List S41) (v : Int), put1 on nx q p = (q', v) → q'.length ≤ q.length + 1 → jitter_Put.l0 k (out ++ [v]) l (l.length : Int) (wrap64 ((i : Int) + 1)) on nx dp dr q' = some (on, nx, dp, dr, (putl on nx q (l.drop i)).1, out ++ (putl on nx q (l.drop i)).2, 0) := fun q' v hv hle => by
        obtain ⟨c1, c2, c3⟩ := put1_keep (on := on) (nx := nx) hinc hg hpg
        rw [hv] at c1 c2 c3
        rw [w64 _ (by omega) (by omega), show (i : Int) + 1 = ((i + 1 : Nat) : Int) by omega, ih (i + 1) (out ++ [v]) q' (by omega) c2 c1 (by omega) (by simp; omega) k (by omega), List.drop_eq_getElem_cons hil, ← hp]
        conv => rhs; rw [putl]
        rw [hv]
        simp
      have hout : out.length < 17592186044416 := by omega
      by_cases h1 : b = true
      · rw [if_pos h1, if_pos hout]
        exact step q 1 (by unfold put1; rw [if_pos (hb.1 h1)]) (by omega)
      · rw [if_neg h1]
        have h1' : ¬ (on = true ∧ p.f0 < nx) := fun h => h1 (hb.2 h)
        by_cases h2 : ∃ x ∈ q, x.f0 = p.f0
        · rw [if_pos (decide_eq_true h2), if_pos hout]
          exact step q 2 (by unfold put1; rw [if_neg h1', if_pos h2]) (by omega)
        · rw [if_neg (by simpa using h2), far_f on nx dp dr q p.f0 (by omega) hg ⟨hpr.1, hpr.2.1⟩ hn, Option.bind_some]
          by_cases h3 : farb on nx q p.f0 = true
          · rw [if_pos h3, if_pos hout]
            exact step q 3 (by unfold put1; rw [if_neg h1', if_neg h2, if_pos h3]) (by omega)
          · have := lb_le p.f0 q
            rw [if_neg h3, clone_f _ (by omega), Option.bind_some, if_pos (by omega), if_pos (by omega), if_pos (by omega), if_pos hout, Int.toNat_natCast]
            exact step (insq q p) 0 (by unfold put1; rw [if_neg h1', if_neg h2, if_neg h3]) (by rw [insq_len]; exact Nat.le_refl _)
    by_cases hon : on = true
    · rw [if_pos hon]
      exact key _ (by rw [decide_eq_true_iff]; simp [hon])
    · rw [if_neg hon]
      exact key _ (by simp [hon])
theorem cont_l0 (l : List S41) (hl : l.length ≤ 4611686018427387904) : ∀ (d k i : Nat), i + d = l.length → d < k → ∃ r : Int, api_Packet_42.l0 k l (l.length : Int) (i : Int) = some r ∧ (r ≥ 0 ↔ ∃ p ∈ l.drop i, gd p = false) := by
  intro d
  induction d with
  | zero =>
    intro k i hi hk
    obtain ⟨k, rfl⟩ := some_of k 1 (by omega)
    refine ⟨-1, by rw [api_Packet_42.l0, if_neg (by omega)], ?_⟩
    rw [List.drop_eq_nil_of_le (by omega)]
    simp
  | succ d ih =>
    intro k i hi hk
    obtain ⟨k, rfl⟩ := some_of k 1 (by omega)
    have hil : i < l.length := by omega
    rw [api_Packet_42.l0, if_pos (show (i : Int) < (l.length : Int) by omega), if_pos (by omega), if_pos (show (i : Int) < (l.length : Int) by omega), rd_at l i hil]
    unfold jitter_Put_1.f
    rw [good_f, Option.bind_some, Option.bind_some, List.drop_eq_getElem_cons hil]
    by_cases h : gd l[i] = true
    · rw [h, if_neg (by decide), w64 _ (by omega) (by omega), show (i : Int) + 1 = ((i + 1 : Nat) : Int) by omega]
      obtain ⟨r, h1, h2⟩ := ih k (i + 1) (by omega) (by omega)
      refine ⟨r, h1, h2.trans ⟨fun ⟨p, hp, hg⟩ => ⟨p, List.mem_cons_of_mem _ hp, hg⟩, fun ⟨p, hp, hg⟩ => ?_⟩⟩
      rcases List.mem_cons.1 hp with rfl | hp
      · rw [h] at hg; cases hg
      · exact ⟨p, hp, hg⟩
    · rw [Bool.not_eq_true] at h
      rw [h, if_pos (by rfl)]
      exact ⟨_, rfl, ⟨fun _ => ⟨_, List.mem_cons_self, h⟩, fun _ => by omega⟩⟩
theorem cont_f (l : List S41) (hl : l.length ≤ 4611686018427387904) (k : Nat) (hk : l.length < k) : api_Packet_28.f k l = some (decide (∃ p ∈ l, gd p = false)) := by
  obtain ⟨r, h1, h2⟩ := cont_l0 l hl l.length k 0 (by omega) hk
  unfold api_Packet_28.f api_Packet_42.f
  rw [show (0 : Int) = ((0 : Nat) : Int) from rfl, h1, Option.bind_some]
  congr 1
  rw [Bool.eq_iff_iff, decide_eq_true_iff, decide_eq_true_iff]
  exact h2
theorem chk_inc {fr : Int} : ∀ {q : List S41} {last : Int}, chk fr last q = true → Inc q ∧ (∀ p ∈ q, gd p = true ∧ last < p.f0 ∧ wrap64 (p.f0 - fr) < 64) := by
  intro q
  induction q with
  | nil => intro last _; exact ⟨List.Pairwise.nil, by simp⟩
  | cons p q ih =>
    intro last h
    simp only [chk, Bool.and_eq_true, decide_eq_true_iff] at h
    obtain ⟨⟨⟨h1, h2⟩, h3⟩, h4⟩ := h
    obtain ⟨a, b⟩ := ih h4
    refine ⟨List.pairwise_cons.2 ⟨fun x hx => (b x hx).2.1, a⟩, fun x hx => ?_⟩
    rcases List.mem_cons.1 hx with rfl | hx
    · exact ⟨h1, h2, h3⟩
    · have := b x hx
      exact ⟨this.1, by omega, this.2.2⟩
theorem chk_of {fr : Int} : ∀ {q : List S41} {last : Int}, Inc q → (∀ p ∈ q, gd p = true ∧ last < p.f0 ∧ wrap64 (p.f0 - fr) < 64) → chk fr last q = true := by
  intro q
  induction q with
  | nil => intro last _ _; rfl
  | cons p q ih =>
    intro last h h2
    obtain ⟨a, b⟩ := List.pairwise_cons.1 h
    have h3 := h2 p List.mem_cons_self
    simp only [chk, Bool.and_eq_true, decide_eq_true_iff]
    exact ⟨⟨⟨h3.1, h3.2.1⟩, h3.2.2⟩, ih b fun x hx => ⟨(h2 x (List.mem_cons_of_mem _ hx)).1, a x hx, (h2 x (List.mem_cons_of_mem _ hx)).2.2⟩⟩
/-- Where a state begins. -/
def frm (on : Bool) (nx : Int) (q : List S41) : Int := if on = true then nx else (rd_T41 q 0).f0
/-- A state that may be, in plain words. -/
structure OK (on : Bool) (nx dp dr : Int) (q : List S41) : Prop where
  d1 : 1 ≤ dp
  d2 : dp ≤ 16
  n1 : 0 ≤ nx
  n2 : nx ≤ 2199023255552
  y1 : 0 ≤ dr
  y2 : dr < 12
  off : on = true ∨ nx + dr ≤ 0
  inc : Inc q
  gds : ∀ p ∈ q, gd p = true
  lo : ∀ p ∈ q, frm on nx q ≤ p.f0
  hi : ∀ p ∈ q, p.f0 < frm on nx q + 64
theorem ok_of {on : Bool} {nx dp dr : Int} {q : List S41} (h : okb on nx dp dr q = true) : OK on nx dp dr q := by
  unfold okb at h
  simp only [Bool.and_eq_true, decide_eq_true_iff] at h
  obtain ⟨⟨h1, h2, h3, h4, h5, h6, h7⟩, h8⟩ := h
  have key : ∀ fr last, frm on nx q = fr → (0 ≤ fr ∨ q = []) → fr ≤ 2199023255552 → chk fr last q = true → (∀ p ∈ q, gd p = true → last < p.f0 → fr ≤ p.f0) → OK on nx dp dr q := fun fr last hfr h0 h1' hc hlo => by
    obtain ⟨a, b⟩ := chk_inc hc
    refine ⟨h1, h2, h3, h4, h5, h6, h7, a, fun p hp => (b p hp).1, fun p hp => ?_, fun p hp => ?_⟩
    · rw [hfr]
      exact hlo p hp (b p hp).1 (b p hp).2.1
    · have h9 := (b p hp).2.2
      have h10 := (gd_iff p).1 (b p hp).1
      rcases h0 with h0 | h0
      · rw [w64 _ (by omega) (by omega)] at h9
        rw [hfr]; omega
      · subst h0; cases hp
  by_cases hon : on = true
  · rw [if_pos hon] at h8
    exact key nx (nx - 1) (by unfold frm; rw [if_pos hon]) (.inl h3) h4 h8 (fun p _ _ hl => by omega)
  · rw [if_neg hon] at h8
    cases q with
    | nil => exact ⟨h1, h2, h3, h4, h5, h6, h7, List.Pairwise.nil, by simp, by simp, by simp⟩
    | cons p q =>
      have h9 := chk_inc h8
      have h10 := (gd_iff p).1 (h9.2 p List.mem_cons_self).1
      refine key p.f0 (-1) (by unfold frm; rw [if_neg hon]; rfl) (.inl h10.1) (by omega) h8 (fun x hx _ _ => ?_)
      rcases List.mem_cons.1 hx with rfl | hx
      · omega
      · have := (List.pairwise_cons.1 h9.1).1 x hx; omega
theorem ok_to {on : Bool} {nx dp dr : Int} {q : List S41} (h : OK on nx dp dr q) : okb on nx dp dr q = true := by
  unfold okb
  rw [decide_eq_true ⟨h.d1, h.d2, h.n1, h.n2, h.y1, h.y2, h.off⟩, Bool.true_and]
  have n1 := h.n1
  have n2 := h.n2
  by_cases hon : on = true
  · rw [if_pos hon]
    refine chk_of h.inc fun p hp => ⟨h.gds p hp, ?_, ?_⟩
    · have := h.lo p hp
      unfold frm at this
      rw [if_pos hon] at this
      omega
    · have h1 := h.hi p hp
      unfold frm at h1
      rw [if_pos hon] at h1
      have h2 := (gd_iff p).1 (h.gds p hp)
      rw [w64 _ (by omega) (by omega)]
      omega
  · rw [if_neg hon]
    cases q with
    | nil => rfl
    | cons p q =>
      have hp0 := (gd_iff p).1 (h.gds p List.mem_cons_self)
      show chk p.f0 (-1) (p :: q) = true
      refine chk_of h.inc fun x hx => ⟨h.gds x hx, ?_, ?_⟩
      · have := (gd_iff x).1 (h.gds x hx); omega
      · have h1 := h.hi x hx
        unfold frm at h1
        rw [if_neg hon] at h1
        have h2 := (gd_iff x).1 (h.gds x hx)
        have h3 : (rd_T41 (p :: q) 0).f0 = p.f0 := rfl
        rw [h3] at h1
        rw [w64 _ (by omega) (by omega)]
        omega
theorem gd_b {q : List S41} (h : ∀ p ∈ q, gd p = true) : ∀ p ∈ q, p.f1.length < 140737488355328 := fun p hp => by
  have := (gd_iff p).1 (h p hp)
  omega
theorem put_f {on : Bool} {nx dp dr : Int} {q l : List S41} (h : OK on nx dp dr q) (hl : ∀ p ∈ l, gd p = true) (hq : q.length ≤ 1000) (hll : l.length ≤ 1000) (k : Nat) (hk : 10000 ≤ k) : jitter_Put.f k on nx dp dr q l = some (on, nx, dp, dr, (putl on nx q l).1, (putl on nx q l).2, 0) := by
  obtain ⟨k, rfl⟩ := some_of k 1 (by omega)
  unfold jitter_Put.f
  rw [check_f on nx dp dr q (by omega) _ (by omega), if_pos (ok_to h), Option.bind_some, if_pos rfl, cont_f l (by omega) _ (by omega), Option.bind_some, decide_eq_false (by rintro ⟨p, hp, hf⟩; rw [hl p hp] at hf; cases hf), jitter_Put.j0, if_neg (by decide), owned_f on nx dp dr q (by omega) (gd_b h.gds) k (by omega), Option.bind_some]
  have := put_l0 on nx dp dr l hl (by omega) ⟨h.n1, h.n2⟩ l.length 0 [] q (by omega) h.gds h.inc (by omega) (by simp; omega) k (by omega)
  simpa using this
/-- The numbers that are not there, from 'at' on. -/
theorem frm_b {on : Bool} {nx dp dr : Int} {q : List S41} (h : OK on nx dp dr q) (hq : q ≠ []) : 0 ≤ frm on nx q ∧ frm on nx q ≤ 2199023255552 := by
  unfold frm
  have n1 := h.n1
  have n2 := h.n2
  split
  · exact ⟨n1, n2⟩
  · have := rd_gd h.gds 0 (List.length_pos_iff.2 hq)
    change 0 ≤ (rd_T41 q 0).f0 ∧ (rd_T41 q 0).f0 ≤ 1099511627776 at this
    omega
theorem tmod_pos {a m : Int} (hm : 0 < m) (hb : m ≤ 1099511627776) : 0 ≤ Int.tmod (wrap64 (Int.tmod a m + m)) m ∧ Int.tmod (wrap64 (Int.tmod a m + m)) m < m := by
  have h1 := Int.tmod_lt_of_pos a hm
  have h2 : -m < Int.tmod a m := by
    have h3 := Int.tmod_lt_of_pos (-a) hm
    rw [Int.neg_tmod] at h3
    omega
  rw [w64 _ (by omega) (by omega)]
  exact ⟨Int.tmod_nonneg _ (by omega), Int.tmod_lt_of_pos _ hm⟩

end Go.Proofs.Ytkjgibdbbklejaa.Jt
