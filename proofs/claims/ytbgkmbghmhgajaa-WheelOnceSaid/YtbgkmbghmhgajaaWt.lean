/- The wheel's functions as plain lists: what each comes to for wheels that may be; no memory in sight. -/
import Derived.Test.YtbgkmbghmhgajaaPAx4
import Derived.Test.YtbgkmbghmhgajaaPAx5
import Derived.Test.YtbgkmbghmhgajaaPAx8
import Derived.Test.YtbgkmbghmhgajaaPAx10
import Derived.Test.YtbgkmbghmhgajaaPAx11
set_option linter.unusedVariables false
set_option linter.unusedSimpArgs false
namespace Go.Proofs.Ytbgkmbghmhgajaa.WT
open Go.RowKit Go.Proofs.Ytbgkmbghmhgajaa.PA Go.Proofs.YtbgkmbghmhgajaaW.PrintWords Go.Proofs.YtbgkmbghmhgajaaW.PrintLast

theorem w64' (n : Int) (h0 : -9223372036854775808 ≤ n) (h1 : n ≤ 9223372036854775807) : wrap64 n = n := by unfold wrap64; omega
theorem rdT (l : List S33) (j : Nat) (h : j < l.length) : rd_T33 l (j : Int) = l[j] := by
  unfold rd_T33
  rw [Int.toNat_natCast, List.getD_eq_getElem?_getD, List.getElem?_eq_getElem h]; rfl
theorem rdI (l : List Int) (j : Nat) (h : j < l.length) : rd l (j : Int) = l[j] := by
  unfold rd
  rw [Int.toNat_natCast, List.getD_eq_getElem?_getD, List.getElem?_eq_getElem h]; rfl
theorem sx : ∀ i : Nat, i ≤ 4611686018427387904 → wrap64 ((i : Int) + 1) = ((i + 1 : Nat) : Int) := fun i h => by rw [w64' _ (by omega) (by omega)]; rfl

/-! ### Order -/
def cmp3 (a b : Int) : Int := if a < b then -1 else if a > b then 1 else 0
theorem compare_f (a b : Int) : cmp_Compare_int.f a b = some (cmp3 a b) := by
  unfold cmp_Compare_int.f cmp_isNaN_int.f cmp3
  simp only [bne_self_eq_false, Option.bind_some, Bool.false_eq_true, if_false]
  split
  · rfl
  · split <;> rfl
def or2 (x y : Int) : Int := if x = 0 then y else x
theorem or_ev (x y : Int) : Ev (fun k => cmp_Or_int.f k [x, y]) (or2 x y) := by
  refine Ev.of (g := fun k => cmp_Or_int.f k [x, y]) (fun k => cmp_Or_int.mono _ _) (k := 4) ?_
  have e0 : rd [x, y] 0 = x := rfl
  have e1 : rd [x, y] 1 = y := rfl
  have f1 : wrap64 (0 + 1) = 1 := w64' 1 (by decide) (by decide)
  have f2 : wrap64 (1 + 1) = 2 := w64' 2 (by decide) (by decide)
  have hl : (([x, y] : List Int).length : Int) = 2 := rfl
  unfold cmp_Or_int.f or2
  rw [hl, cmp_Or_int.l0, if_pos (by decide), if_pos (by decide), if_pos (by simp), e0, f1]
  by_cases hx : x = 0
  · rw [if_pos hx, if_pos hx, cmp_Or_int.l0, if_pos (by decide), if_pos (by decide), if_pos (by simp), e1, f2]
    by_cases hy : y = 0
    · rw [if_pos hy, cmp_Or_int.l0, if_neg (by decide), hy]
    · rw [if_neg hy]
  · rw [if_neg hx, if_neg hx]
def ord (s t : S33) : Int := or2 (cmp3 s.f0 t.f0) (cmp3 s.f1 t.f1)
theorem order_ev (s t : S33) : Ev (fun k => wheel_order.f k s.f0 s.f1 t.f0 t.f1) (ord s t) := by
  unfold wheel_order.f
  simp only [compare_f, Option.bind_some]
  exact Ev.bind (or_ev _ _) (Ev.now _)
/-- Not behind. -/
def Le (s t : S33) : Prop := s.f0 < t.f0 ∨ (s.f0 = t.f0 ∧ s.f1 ≤ t.f1)
theorem ord_of_le {s t : S33} (h : Le s t) : ¬ (ord t s < 0) := by
  unfold ord or2 cmp3
  rcases h with h | ⟨h1, h2⟩
  · rw [if_neg (show ¬ t.f0 < s.f0 by omega), if_pos (show t.f0 > s.f0 from h), if_neg (show ¬ ((1 : Int) = 0) by decide)]; decide
  · rw [if_neg (show ¬ t.f0 < s.f0 by omega), if_neg (show ¬ t.f0 > s.f0 by omega), if_pos rfl]
    split
    · omega
    · split <;> decide
theorem Le.trans {a b c : S33} (h : Le a b) (k : Le b c) : Le a c := by unfold Le at *; omega

/-! ### Wheels that may be -/
structure Valid (a : Int) (l : List S33) : Prop where
  a0 : 0 ≤ a
  a1 : a ≤ 1099511627776
  len : l.length ≤ 256
  each : ∀ t ∈ l, a < t.f0 ∧ t.f0 ≤ 2199023255552 ∧ 0 ≤ t.f1 ∧ t.f1 ≤ 1073741824
  keys : l.Pairwise fun s t => s.f1 ≠ t.f1
  sorted : l.Pairwise Le

theorem sorted_ev (l : List S33) (hl : l.length ≤ 256) (hs : l.Pairwise Le) : Ev (fun k => api_Timer_29.f k l) true := by
  have hp := List.pairwise_iff_getElem.1 hs
  have H : ∀ i : Nat, i < l.length ∨ i = 0 → Ev (fun k => api_Timer_29.l0 k l (i : Int)) true := by
    intro i
    induction i with
    | zero => exact fun _ => Ev.step (f := fun _ => some true) (fun k => by rw [api_Timer_29.l0, if_neg (by decide)]) (Ev.now _)
    | succ i ih =>
      intro hi
      have hlt : i + 1 < l.length := by omega
      have e : wrap64 (((i + 1 : Nat) : Int) - 1) = (i : Int) := by rw [w64' _ (by omega) (by omega)]; omega
      refine Ev.step (f := fun k => (wheel_order.f k (l[i + 1]).f0 (l[i + 1]).f1 (l[i]).f0 (l[i]).f1).bind fun t => if t < 0 then some false else api_Timer_29.l0 k l (i : Int)) (fun k => ?_) ?_
      · rw [api_Timer_29.l0, if_pos (by omega), if_pos (by omega), if_pos (by omega), e, if_pos (by omega), if_pos (by omega), rdT l (i + 1) hlt, rdT l i (by omega)]
      · refine Ev.bind (order_ev _ _) ?_
        simp only [if_neg (ord_of_le (hp i (i + 1) (by omega) hlt (by omega)))]
        exact ih (Or.inl (by omega))
  unfold api_Timer_29.f
  cases l with
  | nil => exact Ev.step (f := fun _ => some true) (fun k => by rw [show wrap64 ((([] : List S33).length : Int) - 1) = -1 from w64' (0 - 1) (by decide) (by decide), api_Timer_29.l0, if_neg (by decide)]) (Ev.now _)
  | cons x r =>
    have e : wrap64 (((x :: r).length : Int) - 1) = (r.length : Int) := by rw [w64' _ (by simp only [List.length_cons]; omega) (by simp only [List.length_cons] at hl ⊢; omega)]; simp
    rw [e]
    exact H r.length (Or.inl (by simp))

theorem wf64 {n : Int} (h0 : -9223372036854775808 ≤ n) (h1 : n ≤ 9223372036854775807) : (Lit.int .i64 n).wf = true := by
  have hmin : IntKind.min .i64 = -9223372036854775808 := by decide
  have hmax : IntKind.max .i64 = 9223372036854775807 := by decide
  show (decide (IntKind.min .i64 ≤ n) && decide (n ≤ IntKind.max .i64)) = true
  rw [hmin, hmax, decide_eq_true h0, decide_eq_true h1]
  rfl
theorem goodK_ok (a : Int) (l : List S33) : ∀ seen : List S33, (∀ t ∈ l, a < t.f0 ∧ t.f0 ≤ 2199023255552 ∧ 0 ≤ t.f1 ∧ t.f1 ≤ 1073741824) → (l.Pairwise fun s t => s.f1 ≠ t.f1) → (∀ s ∈ seen, ∀ t ∈ l, s.f1 ≠ t.f1) → goodK a seen l = true := by
  induction l with
  | nil => exact fun _ _ _ _ => rfl
  | cons x r ih =>
    intro seen he hk hs
    rw [List.pairwise_cons] at hk
    have hx := he x (by simp)
    have hm : metK seen x.f1 = false := by
      unfold metK
      rw [List.any_eq_false]
      intro s hs1
      have := hs s hs1 x (by simp)
      simpa using this
    rw [goodK, ih (seen ++ [x]) (fun t ht => he t (by simp [ht])) hk.2 ?_, Bool.and_true]
    · unfold stepK
      rw [hm, decide_eq_true (by omega), decide_eq_true (by omega), decide_eq_true (by omega), decide_eq_true (by omega)]
      rfl
    · intro s hs1 t ht
      rcases List.mem_append.1 hs1 with h | h
      · exact hs s h t (by simp [ht])
      · rw [List.mem_singleton.1 h]
        exact hk.1 t ht
theorem check_ev {a : Int} {l : List S33} (h : Valid a l) : Ev (fun k => wheel_Check.f k a l) 0 := by
  unfold wheel_Check.f
  have hw : wfK l = true := by
    unfold wfK
    rw [List.all_eq_true]
    intro t ht
    have := h.each t ht
    exact wf64 (by omega) (by omega)
  have h0 := h.a0
  have h1 := h.a1
  have h2 := h.len
  simp only [if_pos hw, if_pos (show a ≥ 0 ∧ a ≤ 1099511627776 ∧ (l.length : Int) ≤ 256 from ⟨by omega, by omega, by omega⟩)]
  refine Ev.bind (sorted_ev l h.len h.sorted) ?_
  rw [goodK_ok a l [] h.each h.keys (by simp)]
  exact Ev.now _

/-! ### Turn -/
def isDue (c : Int) (t : S33) : Bool := decide (t.f0 ≤ c)
theorem clone_f (l : List S33) (h : l.length ≤ 256) : api_Timer_19.f l = some l := by
  unfold api_Timer_19.f
  rw [Option.bind_some, if_pos (by simp; omega)]
  rfl
theorem turn_l0 (c : Int) (l : List S33) (hl : l.length ≤ 256) (d : Nat) : ∀ i : Nat, i + d = (l.takeWhile (isDue c)).length → Ev (fun k => wheel_Turn.l0 k (i : Int) c l) (c, l.dropWhile (isDue c), l.takeWhile (isDue c), 0) := by
  have hap := List.takeWhile_append_dropWhile (p := isDue c) (l := l)
  have hlen : (l.takeWhile (isDue c)).length + (l.dropWhile (isDue c)).length = l.length := by rw [← List.length_append, hap]
  induction d with
  | zero =>
    intro i hi
    have ht : l.take i = l.takeWhile (isDue c) := by
      have e := congrArg (List.take i) hap
      rw [List.take_append_of_le_length (by omega), List.take_of_length_le (by omega)] at e
      exact e.symm
    have hd : l.drop i = l.dropWhile (isDue c) := by
      have e := congrArg (List.drop i) hap
      rw [List.drop_append_of_le_length (by omega), List.drop_of_length_le (by omega), List.nil_append] at e
      exact e.symm
    refine Ev.step (f := fun _ => some (c, l.dropWhile (isDue c), l.takeWhile (isDue c), (0 : Int))) (fun k => ?_) (Ev.now _)
    have q1 := clone_f (l.takeWhile (isDue c)) (by omega)
    have q2 := clone_f (l.dropWhile (isDue c)) (by omega)
    rw [wheel_Turn.l0]
    by_cases hil : i < l.length
    · have hne : ¬ (l[i].f0 ≤ c) := by
        have h1 : l.drop i = l[i] :: l.drop (i + 1) := List.drop_eq_getElem_cons hil
        rw [hd] at h1
        have h2 := List.head?_dropWhile_not (isDue c) l
        rw [h1] at h2
        have h3 : isDue c l[i] = false := by simpa [List.getElem?_eq_getElem hil] using h2
        have h4 := of_decide_eq_false h3
        exact h4
      rw [if_pos (by omega), if_pos (by omega), rdT l i hil, if_neg hne, if_pos (by omega), Int.toNat_natCast, ht, hd, q1, Option.bind_some, q2, Option.bind_some]
    · rw [if_neg (by omega), if_pos (by omega), if_pos (by omega), Int.toNat_natCast, ht, hd, q1, Option.bind_some, q2, Option.bind_some]
  | succ d ih =>
    intro i hi
    have hil : i < (l.takeWhile (isDue c)).length := by omega
    have hil2 : i < l.length := by omega
    have hle : l[i].f0 ≤ c := by
      have e : (l.takeWhile (isDue c))[i] = l[i] := by
        have := congrArg (fun x => x[i]?) hap
        rw [List.getElem?_append_left hil, List.getElem?_eq_getElem hil, List.getElem?_eq_getElem hil2] at this
        exact Option.some.inj this
      have h2 := List.all_takeWhile (p := isDue c) (l := l)
      have := List.all_eq_true.1 h2 _ (List.getElem_mem hil)
      rw [e] at this
      exact of_decide_eq_true this
    refine Ev.step (fun k => ?_) (ih (i + 1) (by omega))
    rw [wheel_Turn.l0, if_pos (by omega), if_pos (by omega), rdT l i hil2, if_pos hle, sx i (by omega)]
theorem turn_ev {a : Int} {l : List S33} (h : Valid a l) (t : Int) (ht0 : -9223372036854775808 ≤ t) (ht1 : t ≤ 9223372036854775807) : Ev (fun k => wheel_Turn.f k a l t) (if t < 0 ∨ 1099511627776 - a < t then (0, [], [], 1) else (a + t, l.dropWhile (isDue (a + t)), l.takeWhile (isDue (a + t)), 0)) := by
  unfold wheel_Turn.f
  refine Ev.bind (check_ev h) ?_
  have h0 := h.a0
  have h1 := h.a1
  have hbad : Ev (fun k => wheel_Turn.j0 k t true a l) (0, [], [], 1) := Ev.step (f := fun _ => some (0, [], [], 1)) (fun k => by rw [wheel_Turn.j0, if_pos rfl]) (Ev.now _)
  simp only [if_true]
  by_cases hneg : t < 0
  · rw [if_pos (Or.inl hneg)]
    simp only [if_pos hneg]
    exact hbad
  · simp only [if_neg hneg, w64' (1099511627776 - a) (by omega) (by omega)]
    by_cases hbig : t > 1099511627776 - a
    · rw [if_pos (Or.inr hbig)]
      simp only [decide_eq_true hbig]
      exact hbad
    · rw [if_neg (by omega)]
      simp only [decide_eq_false hbig]
      refine Ev.step (f := fun k => wheel_Turn.l0 k ((0 : Nat) : Int) (a + t) l) (fun k => ?_) (turn_l0 (a + t) l h.len _ 0 (Nat.zero_add _))
      rw [wheel_Turn.j0, if_neg (by decide), w64' (a + t) (by omega) (by omega)]
      rfl
theorem above_of_sorted (c : Int) (l : List S33) (hs : l.Pairwise Le) : ∀ t ∈ l.dropWhile (isDue c), c < t.f0 := by
  induction l with
  | nil => intro t ht; cases ht
  | cons x r ih =>
    rw [List.pairwise_cons] at hs
    intro t ht
    rw [List.dropWhile_cons] at ht
    by_cases hx : isDue c x = true
    · rw [if_pos hx] at ht
      exact ih hs.2 t ht
    · rw [if_neg hx] at ht
      have hx2 : c < x.f0 := by simpa [isDue] using hx
      rcases List.mem_cons.1 ht with rfl | h
      · exact hx2
      · have := hs.1 t h
        unfold Le at this
        omega
theorem Valid.later {a : Int} {l : List S33} (h : Valid a l) (t : Int) (h0 : 0 ≤ t) (h1 : a + t ≤ 1099511627776) : Valid (a + t) (l.dropWhile (isDue (a + t))) := by
  have hsub : (l.dropWhile (isDue (a + t))).Sublist l := List.dropWhile_sublist _
  have ha := h.a0
  refine ⟨by omega, h1, Nat.le_trans hsub.length_le h.len, fun s hs => ?_, h.keys.sublist hsub, h.sorted.sublist hsub⟩
  have q := h.each s (hsub.subset hs)
  exact ⟨above_of_sorted _ l h.sorted s hs, q.2⟩

/-! ### The document's Check -/
theorem has_ev (key : Int) (l : List Int) (hl : l.length ≤ 256) : Ev (fun k => squelchref16_has.f k l key) (decide (key ∈ l)) := by
  have H : ∀ (d i : Nat), i + d = l.length → Ev (fun k => squelchref16_has.l0 k key l (l.length : Int) (i : Int)) (decide (key ∈ l.drop i)) := by
    intro d
    induction d with
    | zero =>
      intro i hi
      rw [List.drop_of_length_le (by omega)]
      exact Ev.step (f := fun _ => some false) (fun k => by rw [squelchref16_has.l0, if_neg (by omega)]) (Ev.now _)
    | succ d ih =>
      intro i hi
      have hil : i < l.length := by omega
      rw [List.drop_eq_getElem_cons hil]
      by_cases he : l[i] = key
      · rw [decide_eq_true (by simp [he])]
        exact Ev.step (f := fun _ => some true) (fun k => by rw [squelchref16_has.l0, if_pos (by omega), if_pos (by omega), if_pos (by omega), rdI l i hil, if_pos he]) (Ev.now _)
      · have e : decide (key ∈ l[i] :: l.drop (i + 1)) = decide (key ∈ l.drop (i + 1)) := by
          have he2 : ¬ (key = l[i]) := fun h => he h.symm
          simp only [List.mem_cons, he2, false_or]
        rw [e]
        refine Ev.step (fun k => ?_) (ih (i + 1) (by omega))
        rw [squelchref16_has.l0, if_pos (by omega), if_pos (by omega), if_pos (by omega), rdI l i hil, if_neg he, sx i (by omega)]
  exact H l.length 0 (Nat.zero_add _)
/-- What Check asks at one place. -/
def At (a : Int) (l : List S33) (i : Nat) (h : i < l.length) : Prop :=
  (a < l[i].f0 ∧ l[i].f0 ≤ 2199023255552 ∧ 0 ≤ l[i].f1 ∧ l[i].f1 ≤ 1073741824) ∧ (∀ (j : Nat) (hj : j < i), l[j].f1 ≠ l[i].f1) ∧ (∀ j : Nat, (hj : j + 1 = i) → Le l[j] l[i])
theorem ref_l0 (a : Int) (l : List S33) (hl : l.length ≤ 256) (d : Nat) : ∀ i : Nat, i + d = l.length → ∃ r, Ev (fun k => squelchref16_Check.l0 k ((l.take i).map S33.f1) l (l.length : Int) (i : Int) a l) r ∧ (r = 0 → ∀ (j : Nat) (hj : j < l.length), i ≤ j → At a l j hj) := by
  induction d with
  | zero =>
    intro i hi
    exact ⟨0, Ev.step (f := fun _ => some 0) (fun k => by rw [squelchref16_Check.l0, if_neg (by omega)]) (Ev.now _), fun _ j hj hij => by omega⟩
  | succ d ih =>
    intro i hi
    have hil : i < l.length := by omega
    obtain ⟨r, hr, hall⟩ := ih (i + 1) (by omega)
    have htk : (l.take (i + 1)).map S33.f1 = (l.take i).map S33.f1 ++ [l[i].f1] := by
      rw [List.take_succ_eq_append_getElem hil, List.map_append]; rfl
    rw [htk] at hr
    have hkl : ((l.take i).map S33.f1).length = i := by rw [List.length_map, List.length_take]; omega
    -- the way that is bad at once
    have hbad : Ev (fun k => squelchref16_Check.j2 k ((l.take i).map S33.f1) (i : Int) l (l.length : Int) (i : Int) true a l l[i].f0 l[i].f1) 1 :=
      Ev.step (f := fun _ => some 1) (fun k => by rw [squelchref16_Check.j2, if_pos rfl]) (Ev.now _)
    by_cases h1 : l[i].f0 ≤ a
    · exact ⟨1, Ev.step (fun k => by rw [squelchref16_Check.l0, if_pos (by omega), if_pos (by omega), if_pos (by omega), rdT l i hil, if_pos h1]) hbad, by intro h; cases h⟩
    by_cases h2 : l[i].f0 > 2199023255552
    · exact ⟨1, Ev.step (fun k => by rw [squelchref16_Check.l0, if_pos (by omega), if_pos (by omega), if_pos (by omega), rdT l i hil, if_neg h1, if_pos h2]) hbad, by intro h; cases h⟩
    by_cases h3 : l[i].f1 < 0
    · exact ⟨1, Ev.step (fun k => by rw [squelchref16_Check.l0, if_pos (by omega), if_pos (by omega), if_pos (by omega), rdT l i hil, if_neg h1, if_neg h2, if_pos h3]) hbad, by intro h; cases h⟩
    by_cases h4 : l[i].f1 > 1073741824
    · exact ⟨1, Ev.step (fun k => by rw [squelchref16_Check.l0, if_pos (by omega), if_pos (by omega), if_pos (by omega), rdT l i hil, if_neg h1, if_neg h2, if_neg h3, if_pos h4]) hbad, by intro h; cases h⟩
    have hgo : ∀ q, Ev (fun k => squelchref16_Check.j2 k ((l.take i).map S33.f1) (i : Int) l (l.length : Int) (i : Int) (decide (l[i].f1 ∈ (l.take i).map S33.f1)) a l l[i].f0 l[i].f1) q → Ev (fun k => squelchref16_Check.l0 k ((l.take i).map S33.f1) l (l.length : Int) (i : Int) a l) q := by
      intro q hq
      refine Ev.step (f := fun k => (squelchref16_has.f k ((l.take i).map S33.f1) l[i].f1).bind fun t => squelchref16_Check.j2 k ((l.take i).map S33.f1) (i : Int) l (l.length : Int) (i : Int) t a l l[i].f0 l[i].f1) (fun k => ?_) (Ev.bind (has_ev l[i].f1 ((l.take i).map S33.f1) (by omega)) hq)
      rw [squelchref16_Check.l0, if_pos (by omega), if_pos (by omega), if_pos (by omega), rdT l i hil, if_neg h1, if_neg h2, if_neg h3, if_neg h4]
    by_cases h5 : l[i].f1 ∈ (l.take i).map S33.f1
    · rw [decide_eq_true h5] at hgo
      exact ⟨1, hgo 1 hbad, by intro h; cases h⟩
    rw [decide_eq_false h5] at hgo
    have hdist : ∀ (j : Nat) (hj : j < i), l[j].f1 ≠ l[i].f1 := by
      intro j hj he
      refine h5 (List.mem_map.2 ⟨l[j], ?_, he⟩)
      rw [List.mem_take_iff_getElem]
      exact ⟨j, by omega, rfl⟩
    have hfin : (∀ j : Nat, (hj : j + 1 = i) → Le l[j] l[i]) → ∀ (j : Nat) (hj : j < l.length), r = 0 → i ≤ j → At a l j hj := by
      intro hle j hj hr0 hij
      by_cases e : j = i
      · subst e
        exact ⟨⟨by omega, by omega, by omega, by omega⟩, hdist, hle⟩
      · exact hall hr0 j hj (by omega)
    have hnext : (fun k => squelchref16_Check.l0 k ((l.take i).map S33.f1 ++ [l[i].f1]) l (l.length : Int) (wrap64 ((i : Int) + 1)) a l) = fun k => squelchref16_Check.l0 k ((l.take i).map S33.f1 ++ [l[i].f1]) l (l.length : Int) ((i + 1 : Nat) : Int) a l := by rw [sx i (by omega)]
    cases i with
    | zero =>
      refine ⟨r, hgo r (Ev.step (fun k => ?_) hr), fun hr0 j hj hij => hfin (fun j hj => by omega) j hj hr0 hij⟩
      rw [squelchref16_Check.j2, if_neg (by decide), if_neg (by decide), if_pos (by rw [hkl]; omega), sx 0 (by omega)]
    | succ i =>
      have e : wrap64 (((i + 1 : Nat) : Int) - 1) = (i : Int) := by rw [w64' _ (by omega) (by omega)]; omega
      have hi2 : i < l.length := by omega
      by_cases g1 : l[i].f0 > l[i + 1].f0
      · refine ⟨1, hgo 1 (Ev.step (f := fun _ => some 1) (fun k => ?_) (Ev.now _)), by intro h; cases h⟩
        rw [squelchref16_Check.j2, if_neg (by decide), if_pos (by omega), e, if_pos (by omega), if_pos (by omega), rdT l i hi2, if_pos g1]
      by_cases g2 : l[i].f0 = l[i + 1].f0
      · by_cases g3 : l[i].f1 > l[i + 1].f1
        · refine ⟨1, hgo 1 (Ev.step (f := fun _ => some 1) (fun k => ?_) (Ev.now _)), by intro h; cases h⟩
          rw [squelchref16_Check.j2, if_neg (by decide), if_pos (by omega), e, if_pos (by omega), if_pos (by omega), rdT l i hi2, if_neg g1, if_pos g2, if_pos g3]
        · refine ⟨r, hgo r (Ev.step (fun k => ?_) hr), fun hr0 j hj hij => hfin (fun j hj => ?_) j hj hr0 hij⟩
          · rw [squelchref16_Check.j2, if_neg (by decide), if_pos (by omega), e, if_pos (by omega), if_pos (by omega), rdT l i hi2, if_neg g1, if_pos g2, if_neg g3, if_pos (by rw [hkl]; omega), sx (i + 1) (by omega)]
          · obtain rfl : j = i := by omega
            exact Or.inr ⟨g2, by omega⟩
      · refine ⟨r, hgo r (Ev.step (fun k => ?_) hr), fun hr0 j hj hij => hfin (fun j hj => ?_) j hj hr0 hij⟩
        · rw [squelchref16_Check.j2, if_neg (by decide), if_pos (by omega), e, if_pos (by omega), if_pos (by omega), rdT l i hi2, if_neg g1, if_neg g2, if_pos (by rw [hkl]; omega), sx (i + 1) (by omega)]
        · obtain rfl : j = i := by omega
          exact Or.inl (by omega)
theorem chain_le (l : List S33) (h : ∀ (j : Nat) (hj : j + 1 < l.length), Le l[j] l[j + 1]) : l.Pairwise Le := by
  rw [List.pairwise_iff_getElem]
  intro i j hi hj hij
  obtain ⟨d, rfl⟩ : ∃ d, j = i + 1 + d := ⟨j - (i + 1), by omega⟩
  induction d with
  | zero => exact h i hj
  | succ d ih => exact (ih (by omega) (by omega)).trans (h (i + 1 + d) hj)
theorem valid_of (a : Int) (l : List S33) (h0 : 0 ≤ a) (h1 : a ≤ 1099511627776) (hl : l.length ≤ 256) (h : ∀ (j : Nat) (hj : j < l.length), At a l j hj) : Valid a l := by
  refine ⟨h0, h1, hl, fun t ht => ?_, ?_, chain_le l fun j hj => (h (j + 1) hj).2.2 j rfl⟩
  · obtain ⟨j, hj, rfl⟩ := List.mem_iff_getElem.1 ht
    exact (h j hj).1
  · rw [List.pairwise_iff_getElem]
    exact fun i j hi hj hij => (h j hj).2.1 i hij
theorem ref_ev (a : Int) (l : List S33) : ∃ r, Ev (fun k => squelchref16_Check.f k a l) r ∧ (r = 0 → Valid a l) := by
  have hbad : Ev (fun k => squelchref16_Check.j0 k true a l) 1 := Ev.step (f := fun _ => some 1) (fun k => by rw [squelchref16_Check.j0, if_pos rfl]) (Ev.now _)
  unfold squelchref16_Check.f
  by_cases h1 : a < 0
  · simp only [if_pos h1]
    exact ⟨1, hbad, by intro h; cases h⟩
  by_cases h2 : a > 1099511627776
  · simp only [if_neg h1, if_pos h2]
    exact ⟨1, hbad, by intro h; cases h⟩
  simp only [if_neg h1, if_neg h2]
  by_cases h3 : (l.length : Int) > 256
  · simp only [decide_eq_true h3]
    exact ⟨1, hbad, by intro h; cases h⟩
  · simp only [decide_eq_false h3]
    obtain ⟨r, hr, hall⟩ := ref_l0 a l (by omega) l.length 0 (Nat.zero_add _)
    exact ⟨r, Ev.step (fun k => by rw [squelchref16_Check.j0, if_neg (by decide)]; rfl) hr, fun h => valid_of a l (by omega) (by omega) (by omega) fun j hj => hall h j hj (Nat.zero_le _)⟩

/-! ### At, Next, Same -/
theorem next_ev {a : Int} {l : List S33} (h : Valid a l) : Ev (fun k => wheel_Next.f k a l) (match l with | [] => (0, false) | x :: _ => (x.f0, true)) := by
  unfold wheel_Next.f
  cases l with
  | nil => exact Ev.now _
  | cons x r =>
    have e : ((x :: r).length : Int) = (r.length : Int) + 1 := by simp
    simp only [e, if_neg (show ¬ ((r.length : Int) + 1 = 0) by omega)]
    refine Ev.bind (check_ev h) ?_
    simp only [if_true, if_pos (show (0 : Int) < (r.length : Int) + 1 by omega)]
    exact Ev.now _
theorem idxK_at (key : Int) (l : List S33) : ∀ (i : Nat) (hi : i < l.length) (n : Int), l[i].f1 = key → (∀ (j : Nat) (hj : j < i), l[j].f1 ≠ key) → idxK key l n = n + (i : Int) := by
  induction l with
  | nil => intro i hi; cases hi
  | cons x r ih =>
    intro i hi n he hne
    cases i with
    | zero => rw [idxK, if_pos (by simpa using he)]; simp
    | succ i =>
      have h0 := hne 0 (by omega)
      rw [idxK, if_neg (by simpa using h0), ih i (by simpa using hi) (n + 1) (by simpa using he) (fun j hj => by simpa using hne (j + 1) (by omega))]
      omega
theorem at_ev {a : Int} {l : List S33} (h : Valid a l) (i : Nat) (hi : i < l.length) : Ev (fun k => wheel_At.f k a l l[i].f1) (l[i].f0, true) := by
  have hk := List.pairwise_iff_getElem.1 h.keys
  unfold wheel_At.f wheel_find.f
  rw [idxK_at l[i].f1 l i hi 0 rfl (fun j hj => hk j i (by omega) hi hj), Int.zero_add]
  simp only [Option.bind_some, if_neg (show ¬ ((i : Int) < 0) by omega)]
  refine Ev.bind (check_ev h) ?_
  simp only [if_true, if_pos (show (0 : Int) ≤ (i : Int) by omega), if_pos (show (i : Int) < (l.length : Int) by omega), rdT l i hi]
  exact Ev.now _
theorem live_ev : Ev (fun k => squelchlaw16_live.f k) true := by
  have h : squelchlaw16_live.f 100 = some true := by decide +kernel
  exact Ev.of (g := fun k => squelchlaw16_live.f k) squelchlaw16_live.mono h
end Go.Proofs.Ytbgkmbghmhgajaa.WT
