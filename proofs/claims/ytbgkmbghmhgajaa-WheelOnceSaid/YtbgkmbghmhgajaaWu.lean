/- The wheel's Set, Stop and At as plain lists, for whatever arguments; no memory in sight. -/
import Derived.Test.YtbgkmbghmhgajaaWt
import Derived.Test.YtbgkmbghmhgajaaHStop
set_option linter.unusedVariables false
set_option linter.unusedSimpArgs false
namespace Go.Proofs.Ytbgkmbghmhgajaa.WU
open Go.RowKit Go.Proofs.Ytbgkmbghmhgajaa.PA Go.Proofs.YtbgkmbghmhgajaaW.PrintWords Go.Proofs.YtbgkmbghmhgajaaW.PrintLast Go.Proofs.Ytbgkmbghmhgajaa.WT

/-! ### Search -/
theorem ord_neg {s t : S33} : ord s t < 0 ↔ (s.f0 < t.f0 ∨ (s.f0 = t.f0 ∧ s.f1 < t.f1)) := by
  unfold ord or2 cmp3
  by_cases h1 : s.f0 < t.f0
  · rw [if_pos h1, if_neg (by decide)]
    exact ⟨fun _ => .inl h1, fun _ => by decide⟩
  · by_cases h2 : s.f0 > t.f0
    · rw [if_neg h1, if_pos h2, if_neg (by decide)]
      exact ⟨fun h => absurd h (by decide), fun h => by omega⟩
    · rw [if_neg h1, if_neg h2, if_pos rfl]
      by_cases h3 : s.f1 < t.f1
      · rw [if_pos h3]
        exact ⟨fun _ => .inr ⟨by omega, h3⟩, fun _ => by decide⟩
      · rw [if_neg h3]
        by_cases h4 : s.f1 > t.f1
        · rw [if_pos h4]
          exact ⟨fun h => absurd h (by decide), fun h => by omega⟩
        · rw [if_neg h4]
          exact ⟨fun h => absurd h (by decide), fun h => by omega⟩
theorem search_l0 (l : List S33) (hl : l.length ≤ 256) (hs : l.Pairwise Le) (x : S33) (d : Nat) : ∀ i j : Nat, j - i ≤ d → i ≤ j → j ≤ l.length → (∀ (q : Nat) (h : q < l.length), q < i → ord l[q] x < 0) → (∀ (q : Nat) (h : q < l.length), j ≤ q → ¬ ord l[q] x < 0) →
    ∃ (p : Nat) (b : Bool), p ≤ l.length ∧ (∀ (q : Nat) (h : q < l.length), q < p → ord l[q] x < 0) ∧ (∀ (q : Nat) (h : q < l.length), p ≤ q → ¬ ord l[q] x < 0) ∧ Ev (fun k => api_Timer_23.l0 k l (l.length : Int) (i : Int) (j : Int) x.f0 x.f1) ((p : Int), b) := by
  have hp := List.pairwise_iff_getElem.1 hs
  induction d with
  | zero =>
    intro i j hd hij hj h1 h2
    obtain rfl : i = j := by omega
    by_cases hi : i < l.length
    · refine ⟨i, ord l[i] x == 0, hj, h1, h2, Ev.step (f := fun k => (wheel_order.f k l[i].f0 l[i].f1 x.f0 x.f1).bind fun t160 => some ((i : Int), t160 == 0)) (fun k => ?_) (Ev.bind (order_ev _ _) (Ev.now _))⟩
      rw [api_Timer_23.l0, if_neg (by omega), if_pos (by omega), if_pos (by omega), if_pos (by omega), rdT l i hi]
    · exact ⟨i, false, hj, h1, h2, Ev.step (f := fun _ => some ((i : Int), false)) (fun k => by rw [api_Timer_23.l0, if_neg (by omega), if_neg (by omega)]) (Ev.now _)⟩
  | succ d ih =>
    intro i j hd hij hj h1 h2
    rcases Nat.eq_or_lt_of_le hij with rfl | hlt
    · exact ih i i (by omega) (Nat.le_refl _) hj h1 h2
    obtain ⟨m, hm⟩ : ∃ m : Nat, m = (i + j) / 2 := ⟨_, rfl⟩
    have hw : wrap64 (IntKind.u64.wrap (wrap64 ((i : Int) + (j : Int))) / 2) = (m : Int) := by
      have e1 : wrap64 ((i : Int) + (j : Int)) = (i : Int) + (j : Int) := w64' _ (by omega) (by omega)
      rw [e1, IntKind.wrap_u64, Int.emod_eq_of_lt (by omega) (by omega), w64' _ (by omega) (by omega)]
      omega
    have hml : m < l.length := by omega
    have hmi : i ≤ m := by omega
    have hmj : m < j := by omega
    by_cases hc : ord l[m] x < 0
    · have hside : ∀ (q : Nat) (h : q < l.length), q < m + 1 → ord l[q] x < 0 := by
        intro q h hq
        rcases Nat.lt_or_ge q m with hqm | hqm
        · have := hp q m h hml hqm
          rw [ord_neg] at hc ⊢
          unfold Le at this
          omega
        · obtain rfl : q = m := by omega
          exact hc
      obtain ⟨p, b, q1, q2, q3, q4⟩ := ih (m + 1) j (by omega) (by omega) hj hside h2
      · refine ⟨p, b, q1, q2, q3, ?_⟩
        refine Ev.step (f := fun k => (wheel_order.f k l[m].f0 l[m].f1 x.f0 x.f1).bind fun t158 => (if t158 < 0 then (api_Timer_23.l0 k l (l.length : Int) ((m + 1 : Nat) : Int) (j : Int) x.f0 x.f1) else (api_Timer_23.l0 k l (l.length : Int) (i : Int) (m : Int) x.f0 x.f1))) (fun k => ?_) (Ev.bind (order_ev _ _) ?_)
        · rw [api_Timer_23.l0, if_pos (by omega), hw, if_pos (by omega), if_pos (by omega), rdT l m hml, sx m (by omega)]
        · simp only [if_pos hc]
          exact q4
    · have hside : ∀ (q : Nat) (h : q < l.length), m ≤ q → ¬ ord l[q] x < 0 := by
        intro q h hq
        rcases Nat.lt_or_ge m q with hqm | hqm
        · have := hp m q hml h hqm
          rw [ord_neg] at hc ⊢
          unfold Le at this
          omega
        · obtain rfl : q = m := by omega
          exact hc
      obtain ⟨p, b, q1, q2, q3, q4⟩ := ih i m (by omega) (by omega) (by omega) h1 hside
      · refine ⟨p, b, q1, q2, q3, ?_⟩
        refine Ev.step (f := fun k => (wheel_order.f k l[m].f0 l[m].f1 x.f0 x.f1).bind fun t158 => (if t158 < 0 then (api_Timer_23.l0 k l (l.length : Int) ((m + 1 : Nat) : Int) (j : Int) x.f0 x.f1) else (api_Timer_23.l0 k l (l.length : Int) (i : Int) (m : Int) x.f0 x.f1))) (fun k => ?_) (Ev.bind (order_ev _ _) ?_)
        · rw [api_Timer_23.l0, if_pos (by omega), hw, if_pos (by omega), if_pos (by omega), rdT l m hml, sx m (by omega)]
        · simp only [if_neg hc]
          exact q4
theorem search_ev (l : List S33) (hl : l.length ≤ 256) (hs : l.Pairwise Le) (x : S33) :
    ∃ (p : Nat) (b : Bool), p ≤ l.length ∧ (∀ t ∈ l.take p, Le t x) ∧ (∀ t ∈ l.drop p, Le x t) ∧ Ev (fun k => api_Timer_23.f k l x.f0 x.f1) ((p : Int), b) := by
  obtain ⟨p, b, h1, h2, h3, h4⟩ := search_l0 l hl hs x l.length 0 l.length (by omega) (Nat.zero_le _) (Nat.le_refl _) (fun q h hq => by omega) (fun q h hq => by omega)
  refine ⟨p, b, h1, fun t ht => ?_, fun t ht => ?_, h4⟩
  · obtain ⟨q, hq, rfl⟩ := List.mem_iff_getElem.1 ht
    rw [List.length_take] at hq
    have := ord_neg.1 (h2 q (by omega) (by omega))
    rw [List.getElem_take]
    unfold Le
    omega
  · obtain ⟨q, hq, rfl⟩ := List.mem_iff_getElem.1 ht
    rw [List.length_drop] at hq
    have h5 := h3 (p + q) (by omega) (by omega)
    rw [ord_neg] at h5
    rw [List.getElem_drop]
    unfold Le
    omega

/-! ### What is left without a key -/
def wo (key : Int) (l : List S33) : List S33 := l.filter fun t => decide (t.f1 ≠ key)
theorem wo_none (key : Int) (l : List S33) (h : ∀ t ∈ l, t.f1 ≠ key) : wo key l = l := List.filter_eq_self.2 fun t ht => decide_eq_true (h t ht)
theorem find_cases (key : Int) (l : List S33) (n : Int) : (idxK key l n = -1 ∧ ∀ t ∈ l, t.f1 ≠ key) ∨ ∃ (i : Nat) (h : i < l.length), idxK key l n = n + (i : Int) ∧ l[i].f1 = key := by
  induction l generalizing n with
  | nil => exact .inl ⟨rfl, fun t ht => by cases ht⟩
  | cons x r ih =>
    by_cases hx : x.f1 = key
    · exact .inr ⟨0, by simp, by rw [idxK, if_pos hx]; simp, by simpa using hx⟩
    · rcases ih (n + 1) with ⟨h1, h2⟩ | ⟨i, hi, h1, h2⟩
      · refine .inl ⟨by rw [idxK, if_neg hx, h1], fun t ht => ?_⟩
        rcases List.mem_cons.1 ht with rfl | ht
        · exact hx
        · exact h2 t ht
      · exact .inr ⟨i + 1, by simpa using hi, by rw [idxK, if_neg hx, h1]; omega, by simpa using h2⟩
theorem erase_wo (key : Int) (l : List S33) (hk : l.Pairwise fun s t => s.f1 ≠ t.f1) (i : Nat) (hi : i < l.length) (he : l[i].f1 = key) : l.eraseIdx i = wo key l := by
  induction l generalizing i with
  | nil => cases hi
  | cons x r ih =>
    rw [List.pairwise_cons] at hk
    cases i with
    | zero =>
      have hx : x.f1 = key := by simpa using he
      have hr : ∀ t ∈ r, t.f1 ≠ key := fun t ht h => hk.1 t ht (by rw [hx, h])
      unfold wo
      rw [List.eraseIdx_zero, List.tail_cons, List.filter_cons, if_neg (by simpa using hx)]
      exact (wo_none key r hr).symm
    | succ i =>
      have hi2 : i < r.length := by simpa using hi
      have hr2 : r[i].f1 = key := by simpa using he
      have hx : x.f1 ≠ key := fun h => hk.1 r[i] (List.getElem_mem _) (by rw [h, hr2])
      unfold wo
      rw [List.eraseIdx_cons_succ, List.filter_cons, if_pos (by simpa using hx), ih hk.2 i hi2 hr2]
      rfl
theorem Valid.wo {a : Int} {l : List S33} (h : Valid a l) (key : Int) : Valid a (wo key l) := by
  have hsub : (WU.wo key l).Sublist l := List.filter_sublist
  exact ⟨h.a0, h.a1, Nat.le_trans hsub.length_le h.len, fun t ht => h.each t (hsub.subset ht), h.keys.sublist hsub, h.sorted.sublist hsub⟩
theorem wo_key (key : Int) (l : List S33) : ∀ t ∈ wo key l, t.f1 ≠ key := fun t ht => of_decide_eq_true (List.mem_filter.1 ht).2
theorem put_valid {a : Int} {l : List S33} (h : Valid a l) (x : S33) (hlen : l.length < 256) (hx : a < x.f0 ∧ x.f0 ≤ 2199023255552 ∧ 0 ≤ x.f1 ∧ x.f1 ≤ 1073741824) (hk : ∀ t ∈ l, t.f1 ≠ x.f1) (p : Nat) (h1 : ∀ t ∈ l.take p, Le t x) (h2 : ∀ t ∈ l.drop p, Le x t) : Valid a (l.take p ++ x :: l.drop p) := by
  have hap := List.take_append_drop p l
  have hkeys := h.keys
  have hsort := h.sorted
  rw [← hap, List.pairwise_append] at hkeys hsort
  refine ⟨h.a0, h.a1, ?_, fun t ht => ?_, ?_, ?_⟩
  · have := congrArg List.length hap
    rw [List.length_append] at this
    rw [List.length_append, List.length_cons]
    omega
  · rcases List.mem_append.1 ht with ht | ht
    · exact h.each t (List.mem_of_mem_take ht)
    · rcases List.mem_cons.1 ht with rfl | ht
      · exact hx
      · exact h.each t (List.mem_of_mem_drop ht)
  · rw [List.pairwise_append, List.pairwise_cons]
    refine ⟨hkeys.1, ⟨fun t ht => (hk t (List.mem_of_mem_drop ht)).symm, hkeys.2.1⟩, fun s hs t ht => ?_⟩
    rcases List.mem_cons.1 ht with rfl | ht
    · exact hk s (List.mem_of_mem_take hs)
    · exact hkeys.2.2 s hs t ht
  · rw [List.pairwise_append, List.pairwise_cons]
    refine ⟨hsort.1, ⟨h2, hsort.2.1⟩, fun s hs t ht => ?_⟩
    rcases List.mem_cons.1 ht with rfl | ht
    · exact h1 s hs
    · exact hsort.2.2 s hs t ht

/-! ### Set, Stop, At, Same -/
theorem set_ev {a : Int} {l : List S33} (h : Valid a l) (key after : Int) (k0 : 0 ≤ key) (k1 : key ≤ 1073741824) (f0 : 1 ≤ after) (f1 : after ≤ 1073741824) :
    (256 ≤ (wo key l).length ∧ Ev (fun k => wheel_Set.f k a l key after) (0, [], 2)) ∨
    ((wo key l).length < 256 ∧ ∃ res, Ev (fun k => wheel_Set.f k a l key after) (a, res, 0) ∧ Valid a res ∧ wo key res = wo key l ∧ (⟨a + after, key⟩ : S33) ∈ res ∧ res.length = (wo key l).length + 1) := by
  have a0 := h.a0
  have a1 := h.a1
  have hln := h.len
  obtain ⟨rest, hrest⟩ : ∃ rest, rest = wo key l := ⟨_, rfl⟩
  have hV : Valid a rest := by rw [hrest]; exact WU.Valid.wo h key
  have hK : ∀ t ∈ rest, t.f1 ≠ key := by rw [hrest]; exact wo_key key l
  have hw : wrap64 (a + after) = a + after := w64' _ (by omega) (by omega)
  have hstart : ∀ r, Ev (fun k => wheel_Set.j0 k key after false a l) r → Ev (fun k => wheel_Set.f k a l key after) r := by
    intro r hr
    unfold wheel_Set.f
    refine Ev.bind (check_ev h) ?_
    simp only [if_true, if_neg (show ¬ (key < 0) by omega), if_neg (show ¬ (key > 1073741824) by omega), if_neg (show ¬ (after < 1) by omega), decide_eq_false (show ¬ (after > 1073741824) by omega)]
    exact hr
  -- both ways come to the same
  have hgo : ∀ r, (256 ≤ rest.length → r = (0, [], 2)) → (rest.length < 256 → Ev (fun k => (api_Timer_23.f k rest (a + after) key).bind fun bt => (if 0 ≤ bt.1 then (if bt.1 ≤ (rest.length : Int) then (if rest.length < 8796093022208 then (some (a, (rest.take bt.1.toNat ++ (⟨a + after, key⟩ : S33) :: rest.drop bt.1.toNat), 0)) else (none)) else (none)) else (none))) r) → Ev (fun k => wheel_Set.j0 k key after false a l) r := by
    intro r hr1 hr2
    have hcl := clone_f l hln
    have hchoose : Ev (fun k => if (rest.length : Int) ≥ 256 then (some (0, ([] : List S33), 2)) else ((api_Timer_23.f k rest (a + after) key).bind fun bt => (if 0 ≤ bt.1 then (if bt.1 ≤ (rest.length : Int) then (if rest.length < 8796093022208 then (some (a, (rest.take bt.1.toNat ++ (⟨a + after, key⟩ : S33) :: rest.drop bt.1.toNat), 0)) else (none)) else (none)) else (none)))) r := by
      by_cases hb : (rest.length : Int) ≥ 256
      · simp only [if_pos hb]
        rw [hr1 (by omega)]
        exact Ev.now _
      · simp only [if_neg hb]
        exact hr2 (by omega)
    refine Ev.step (fun k => ?_) hchoose
    rw [wheel_Set.j0, if_neg (by decide), hcl, Option.bind_some]
    unfold wheel_find.f
    rw [Option.bind_some]
    rcases find_cases key l 0 with ⟨h1, h2⟩ | ⟨i, hi, h1, h2⟩
    · have e : rest = l := by rw [hrest]; exact wo_none key l h2
      rw [h1, if_neg (by decide), hw, e]
    · have e : l.eraseIdx i = rest := by rw [hrest]; exact erase_wo key l h.keys i hi h2
      rw [h1, Int.zero_add, if_pos (by omega), show api_Timer_22.f l (i : Int) (wrap64 ((i : Int) + 1)) = some rest from ?_, Option.bind_some, hw]
      unfold api_Timer_22.f
      rw [w64' _ (by omega) (by omega), if_pos ⟨by omega, rfl, by omega⟩, Int.toNat_natCast, e]
  rw [← hrest]
  by_cases hb : 256 ≤ rest.length
  · exact .inl ⟨hb, hstart _ (hgo _ (fun _ => rfl) (fun h => by omega))⟩
  · obtain ⟨p, b, q1, q2, q3, q4⟩ := search_ev rest (by omega) hV.sorted ⟨a + after, key⟩
    have hVx := put_valid hV ⟨a + after, key⟩ (by omega) ⟨by show a < a + after; omega, by show a + after ≤ 2199023255552; omega, k0, k1⟩ hK p q2 q3
    refine .inr ⟨by omega, rest.take p ++ (⟨a + after, key⟩ : S33) :: rest.drop p, hstart _ (hgo _ (fun h => by omega) (fun _ => ?_)), hVx, ?_, by simp, ?_⟩
    · refine Ev.bind q4 ?_
      simp only [if_pos (show (0 : Int) ≤ (p : Int) by omega), if_pos (show (p : Int) ≤ (rest.length : Int) by omega), if_pos (show rest.length < 8796093022208 by omega), Int.toNat_natCast]
      exact Ev.now _
    · have e1 : wo key rest = rest := wo_none key rest hK
      have e2 : wo key (rest.take p ++ (⟨a + after, key⟩ : S33) :: rest.drop p) = wo key (rest.take p) ++ wo key (rest.drop p) := by
        unfold wo
        rw [List.filter_append, List.filter_cons, if_neg (by simp)]
      have e3 : wo key (rest.take p) ++ wo key (rest.drop p) = wo key rest := by
        unfold wo
        rw [← List.filter_append, List.take_append_drop]
      rw [e2, e3, e1, hrest]
    · rw [List.length_append, List.length_cons, List.length_take, List.length_drop]
      omega
theorem stop_ev {a : Int} {l : List S33} (h : Valid a l) (key : Int) (keys : List Int) (hk : ∀ q, q ∈ keys ↔ q = key) : Ev (fun k => wheel_Stop.f k a l keys) (a, wo key l, ((l.length : Int) - ((wo key l).length : Int)), 0) := by
  have e : (l.filter fun x => !inK keys x) = wo key l := by
    unfold wo inK
    refine List.filter_congr fun t _ => ?_
    simp only [hk, decide_not]
  unfold wheel_Stop.f
  refine Ev.bind (check_ev h) ?_
  have := h.len
  simp only [if_true, e, if_pos (show l.length < 8796093022208 by omega)]
  exact Ev.now _
theorem at_none {a : Int} {l : List S33} (h : Valid a l) (key : Int) (hk : ∀ t ∈ l, t.f1 ≠ key) : Ev (fun k => wheel_At.f k a l key) (0, false) := by
  unfold wheel_At.f wheel_find.f
  rcases find_cases key l 0 with ⟨h1, _⟩ | ⟨i, hi, h1, h2⟩
  · simp only [h1, Option.bind_some]
    exact Ev.now _
  · exact absurd h2 (hk _ (List.getElem_mem _))
theorem at_some {a : Int} {l : List S33} (h : Valid a l) (x : S33) (hx : x ∈ l) : Ev (fun k => wheel_At.f k a l x.f1) (x.f0, true) := by
  obtain ⟨i, hi, rfl⟩ := List.mem_iff_getElem.1 hx
  exact at_ev h i hi
/-! ### Set, for whatever arguments -/
theorem set_bad {a : Int} {l : List S33} (h : Valid a l) (key after : Int) (hb : key < 0 ∨ key > 1073741824 ∨ after < 1 ∨ after > 1073741824) : Ev (fun k => wheel_Set.f k a l key after) (0, [], 1) := by
  have hbad : Ev (fun k => wheel_Set.j0 k key after true a l) (0, [], 1) := Ev.step (f := fun _ => some (0, [], 1)) (fun k => by rw [wheel_Set.j0, if_pos rfl]) (Ev.now _)
  unfold wheel_Set.f
  refine Ev.bind (check_ev h) ?_
  simp only [if_true]
  by_cases h1 : key < 0
  · simp only [if_pos h1]; exact hbad
  by_cases h2 : key > 1073741824
  · simp only [if_neg h1, if_pos h2]; exact hbad
  by_cases h3 : after < 1
  · simp only [if_neg h1, if_neg h2, if_pos h3]; exact hbad
  · simp only [if_neg h1, if_neg h2, if_neg h3, decide_eq_true (show after > 1073741824 by omega)]; exact hbad
/-- What Set leaves. -/
structure IsSet (a : Int) (l : List S33) (key after : Int) (res : List S33) : Prop where
  val : Valid a res
  others : wo key res = wo key l
  mem : (⟨a + after, key⟩ : S33) ∈ res
  len : res.length = (wo key l).length + 1
  after1 : 1 ≤ after
  after2 : after ≤ 1073741824
theorem set_all {a : Int} {l : List S33} (h : Valid a l) (key after : Int) : ∃ r1 r2 r3, Ev (fun k => wheel_Set.f k a l key after) (r1, r2, r3) ∧ (r3 = 0 → r1 = a ∧ IsSet a l key after r2) := by
  by_cases hb : key < 0 ∨ key > 1073741824 ∨ after < 1 ∨ after > 1073741824
  · exact ⟨0, [], 1, set_bad h key after hb, fun h => by cases h⟩
  · rcases set_ev h key after (by omega) (by omega) (by omega) (by omega) with ⟨_, he⟩ | ⟨_, res, he, h1, h2, h3, h4⟩
    · exact ⟨0, [], 2, he, fun h => by cases h⟩
    · exact ⟨a, res, 0, he, fun _ => ⟨rfl, h1, h2, h3, h4, by omega, by omega⟩⟩
theorem stop2_ev {a : Int} {l : List S33} (h : Valid a l) (p q : Int) : Ev (fun k => wheel_Stop.f k a l [p, q]) (a, wo q (wo p l), ((l.length : Int) - ((wo q (wo p l)).length : Int)), 0) := by
  have e : (l.filter fun x => !inK [p, q] x) = wo q (wo p l) := by
    unfold wo inK
    rw [List.filter_filter]
    refine List.filter_congr fun t _ => ?_
    simp only [List.mem_cons, List.not_mem_nil, or_false]
    by_cases e1 : t.f1 = p <;> by_cases e2 : t.f1 = q <;> simp [e1, e2]
  unfold wheel_Stop.f
  refine Ev.bind (check_ev h) ?_
  have := h.len
  simp only [if_true, e, if_pos (show l.length < 8796093022208 by omega)]
  exact Ev.now _
theorem at_all {a : Int} {l : List S33} (h : Valid a l) (key : Int) : ∃ r, Ev (fun k => wheel_At.f k a l key) r := by
  by_cases hk : ∃ t ∈ l, t.f1 = key
  · obtain ⟨t, ht, rfl⟩ := hk
    exact ⟨_, at_some h t ht⟩
  · exact ⟨_, at_none h key fun t ht e => hk ⟨t, ht, e⟩⟩
/-! ### The document's Check, forwards -/
theorem refcheck_ok {a : Int} {l : List S33} (h : Valid a l) : Ev (fun k => squelchref16_Check.f k a l) 0 := by
  have hl := h.len
  have a0 := h.a0
  have a1 := h.a1
  have hk := List.pairwise_iff_getElem.1 h.keys
  have hs := List.pairwise_iff_getElem.1 h.sorted
  have H : ∀ (d i : Nat), i + d = l.length → Ev (fun k => squelchref16_Check.l0 k ((l.take i).map S33.f1) l (l.length : Int) (i : Int) a l) 0 := by
    intro d
    induction d with
    | zero =>
      intro i hi
      exact Ev.step (f := fun _ => some 0) (fun k => by rw [squelchref16_Check.l0, if_neg (by omega)]) (Ev.now _)
    | succ d ih =>
      intro i hi
      have hil : i < l.length := by omega
      have htk : (l.take (i + 1)).map S33.f1 = (l.take i).map S33.f1 ++ [l[i].f1] := by
        rw [List.take_succ_eq_append_getElem hil, List.map_append]; rfl
      have hr := ih (i + 1) (by omega)
      rw [htk] at hr
      have hkl : ((l.take i).map S33.f1).length = i := by rw [List.length_map, List.length_take]; omega
      have q := h.each l[i] (List.getElem_mem hil)
      have h5 : ¬ (l[i].f1 ∈ (l.take i).map S33.f1) := by
        intro hm
        obtain ⟨t, ht, he⟩ := List.mem_map.1 hm
        obtain ⟨j, hj, rfl⟩ := List.mem_take_iff_getElem.1 ht
        exact hk j i (by omega) hil (by omega) he
      have hgo : ∀ q, Ev (fun k => squelchref16_Check.j2 k ((l.take i).map S33.f1) (i : Int) l (l.length : Int) (i : Int) false a l l[i].f0 l[i].f1) q → Ev (fun k => squelchref16_Check.l0 k ((l.take i).map S33.f1) l (l.length : Int) (i : Int) a l) q := by
        intro r hq
        rw [← decide_eq_false h5] at hq
        refine Ev.step (f := fun k => (squelchref16_has.f k ((l.take i).map S33.f1) l[i].f1).bind fun t => squelchref16_Check.j2 k ((l.take i).map S33.f1) (i : Int) l (l.length : Int) (i : Int) t a l l[i].f0 l[i].f1) (fun k => ?_) (Ev.bind (has_ev l[i].f1 ((l.take i).map S33.f1) (by omega)) hq)
        rw [squelchref16_Check.l0, if_pos (by omega), if_pos (by omega), if_pos (by omega), rdT l i hil, if_neg (by omega), if_neg (by omega), if_neg (by omega), if_neg (by omega)]
      cases i with
      | zero =>
        refine hgo 0 (Ev.step (fun k => ?_) hr)
        rw [squelchref16_Check.j2, if_neg (by decide), if_neg (by decide), if_pos (by rw [hkl]; omega), sx 0 (by omega)]
      | succ i =>
        have e : wrap64 (((i + 1 : Nat) : Int) - 1) = (i : Int) := by rw [w64' _ (by omega) (by omega)]; omega
        have hi2 : i < l.length := by omega
        have hle := hs i (i + 1) hi2 hil (by omega)
        unfold Le at hle
        refine hgo 0 (Ev.step (fun k => ?_) hr)
        by_cases g2 : l[i].f0 = l[i + 1].f0
        · rw [squelchref16_Check.j2, if_neg (by decide), if_pos (by omega), e, if_pos (by omega), if_pos (by omega), rdT l i hi2, if_neg (by omega), if_pos g2, if_neg (by omega), if_pos (by rw [hkl]; omega), sx (i + 1) (by omega)]
        · rw [squelchref16_Check.j2, if_neg (by decide), if_pos (by omega), e, if_pos (by omega), if_pos (by omega), rdT l i hi2, if_neg (by omega), if_neg g2, if_pos (by rw [hkl]; omega), sx (i + 1) (by omega)]
  unfold squelchref16_Check.f
  simp only [if_neg (show ¬ (a < 0) by omega), if_neg (show ¬ (a > 1099511627776) by omega), decide_eq_false (show ¬ ((l.length : Int) > 256) by omega)]
  exact Ev.step (fun k => by rw [squelchref16_Check.j0, if_neg (by decide)]; rfl) (H l.length 0 (Nat.zero_add _))
/-! ### What body leaves -/
structure Bd (a : Int) (l : List S33) (d p q : Int) (r1 : Int) (r2 r3 : List S33) : Prop where
  val : Valid r1 r2
  set : d = 0 → r1 = a ∧ IsSet a l p q r2
  stop : d = 1 → r1 = a ∧ r2 = wo q (wo p l)
  turn : d = 2 → 0 ≤ p ∧ r1 = a + p ∧ r2 = l.dropWhile (isDue (a + p)) ∧ r3 = l.takeWhile (isDue (a + p))
  none : d ≠ 0 → d ≠ 1 → d ≠ 2 → r1 = a ∧ r2 = l
theorem turn_all {a : Int} {l : List S33} (h : Valid a l) (t : Int) (ht0 : -9223372036854775808 ≤ t) (ht1 : t ≤ 9223372036854775807) : ∃ r1 r2 r3 r4, Ev (fun k => wheel_Turn.f k a l t) (r1, r2, r3, r4) ∧ (r4 = 0 → Valid r1 r2 ∧ 0 ≤ t ∧ r1 = a + t ∧ r2 = l.dropWhile (isDue (a + t)) ∧ r3 = l.takeWhile (isDue (a + t))) := by
  have e := turn_ev h t ht0 ht1
  by_cases hb : t < 0 ∨ 1099511627776 - a < t
  · rw [if_pos hb] at e
    exact ⟨_, _, _, _, e, fun h => by cases h⟩
  · rw [if_neg hb] at e
    exact ⟨_, _, _, _, e, fun _ => ⟨h.later t (by omega) (by omega), by omega, rfl, rfl, rfl⟩⟩
end Go.Proofs.Ytbgkmbghmhgajaa.WU
