/- Tables of a total: what Scale comes to; no memory in sight. -/
import Derived.Test.YtdhckdeojplghaaFtN
import Derived.Test.YtdhckdeojplghaaHSymP
import Derived.Test.YtdhckdeojplghaaPAx3
set_option linter.unusedVariables false
set_option linter.unusedSimpArgs false
namespace Go.Proofs.Ytdhckdeojplghaa.FT
open Go.RowKit Go.Proofs.Ytdhckdeojplghaa.PA Go.Proofs.YtdhckdeojplghaaW.PrintWords Go.Proofs.YtdhckdeojplghaaW.PrintLast

theorem set_app (A : List Int) (v w : Int) (m : Nat) : (A ++ List.replicate (m + 1) v).set A.length w = (A ++ [w]) ++ List.replicate m v := by
  rw [List.set_append_right _ _ (Nat.le_refl _), Nat.sub_self, List.replicate_succ, List.set_cons_zero, List.append_assoc]; rfl
theorem rd_app (A : List Int) (v : Int) (m : Nat) : rd (A ++ List.replicate (m + 1) v) (A.length : Int) = v := by
  rw [rdI _ _ (by simp)]
  simp
/-- A symbol's share, less what is lost. -/
def pt (all rest c : Int) : Int := if all = 0 then 0 else c * rest / all
theorem pt_range {all rest c : Int} (h0 : 0 ≤ c) (h1 : c ≤ all) (h2 : 0 ≤ rest) : 0 ≤ pt all rest c ∧ pt all rest c ≤ rest ∧ pt all rest c * all ≤ c * rest := by
  unfold pt
  split
  · rename_i h
    refine ⟨by omega, h2, ?_⟩
    rw [Int.zero_mul]
    exact Int.mul_nonneg h0 h2
  · rename_i h
    have ha : 0 < all := by omega
    refine ⟨Int.ediv_nonneg (Int.mul_nonneg h0 h2) (Int.le_of_lt ha), ?_, Int.ediv_mul_le _ h⟩
    have : c * rest ≤ all * rest := Int.mul_le_mul_of_nonneg_right h1 h2
    calc c * rest / all ≤ all * rest / all := Int.ediv_le_ediv ha this
      _ = rest := Int.mul_ediv_cancel_left _ h
theorem pt_mono {all rest c e : Int} (h0 : 0 ≤ all) (h1 : c ≤ e) (h2 : 0 ≤ rest) : pt all rest c ≤ pt all rest e := by
  unfold pt
  split
  · omega
  · rename_i h
    exact Int.ediv_le_ediv (by omega) (Int.mul_le_mul_of_nonneg_right h1 h2)
/-- Counts that may be scaled. -/
def Cnt (l : List Int) : Prop := ∀ c ∈ l, 0 ≤ c ∧ c ≤ 1099511627776
theorem cnt_sum {l : List Int} (h : Cnt l) : 0 ≤ l.sum ∧ (∀ c ∈ l, c ≤ l.sum) ∧ l.sum ≤ 1099511627776 * (l.length : Int) := by
  induction l with
  | nil => simp
  | cons n r ih =>
    obtain ⟨h1, h2, h3⟩ := ih (fun c hc => h c (by simp [hc]))
    have hn := h n (by simp)
    rw [List.sum_cons, List.length_cons]
    refine ⟨by omega, fun c hc => ?_, by omega⟩
    rcases List.mem_cons.1 hc with rfl | hc
    · omega
    · have := h2 c hc; omega
theorem contains_l0 (l : List Int) (hL : l.length ≤ 4611686018427387904) (d : Nat) : ∀ i : Nat, i + d = l.length → ∃ r : Int, Ev (fun k => slices_IndexFunc_int_int.l0 k l (l.length : Int) (i : Int)) r ∧ (Cnt (l.drop i) → r = -1) ∧ (¬ Cnt (l.drop i) → 0 ≤ r) := by
  induction d with
  | zero =>
    intro i hi
    refine ⟨-1, Ev.step (f := fun _ => some (-1)) (fun k => by rw [slices_IndexFunc_int_int.l0, if_neg (by omega)]) (Ev.now _), fun _ => rfl, fun h => ?_⟩
    exact absurd (fun c hc => by rw [List.drop_eq_nil_of_le (by omega)] at hc; cases hc) h
  | succ d ih =>
    intro i hi
    have hl : i < l.length := by omega
    have hd := List.drop_eq_getElem_cons hl
    by_cases hb : l[i] < 0 ∨ l[i] > 1099511627776
    · have hf : freq_Scale_1.f l[i] = some true := by
        unfold freq_Scale_1.f
        by_cases h0 : l[i] < 0
        · rw [if_pos h0]
        · rw [if_neg h0, decide_eq_true (by omega)]
      refine ⟨(i : Int), Ev.step (f := fun _ => some (i : Int)) (fun k => by rw [slices_IndexFunc_int_int.l0, if_pos (by omega), if_pos (by omega), if_pos (by omega), rdI l i hl, hf, Option.bind_some, if_pos rfl]) (Ev.now _), fun h => ?_, fun _ => by omega⟩
      have := h l[i] (by rw [hd]; exact List.mem_cons_self)
      omega
    · have hf : freq_Scale_1.f l[i] = some false := by
        unfold freq_Scale_1.f
        rw [if_neg (by omega), decide_eq_false (by omega)]
      obtain ⟨r, hr, h1, h2⟩ := ih (i + 1) (by omega)
      have hiff : Cnt (l.drop i) ↔ Cnt (l.drop (i + 1)) := by
        rw [hd]
        constructor
        · exact fun h c hc => h c (List.mem_cons_of_mem _ hc)
        · intro h c hc
          rcases List.mem_cons.1 hc with rfl | hc
          · omega
          · exact h c hc
      refine ⟨r, Ev.step (fun k => ?_) hr, fun h => h1 (hiff.1 h), fun h => h2 (fun hh => h (hiff.2 hh))⟩
      rw [slices_IndexFunc_int_int.l0, if_pos (by omega), if_pos (by omega), if_pos (by omega), rdI l i hl, hf, Option.bind_some, if_neg Bool.false_ne_true, cast1, w64' _ (by omega) (by omega)]
theorem contains_ev (l : List Int) (hL : l.length ≤ 4611686018427387904) : (Cnt l → Ev (fun k => slices_ContainsFunc_int_int.f k l) false) ∧ (¬ Cnt l → Ev (fun k => slices_ContainsFunc_int_int.f k l) true) := by
  obtain ⟨r, hr, h1, h2⟩ := contains_l0 l hL l.length 0 (by omega)
  unfold slices_ContainsFunc_int_int.f slices_IndexFunc_int_int.f
  constructor
  · intro h
    refine Ev.bind hr ?_
    rw [h1 h]
    exact Ev.congr (fun k => by rw [decide_eq_false (by decide)]) (Ev.now _)
  · intro h
    have := h2 h
    refine Ev.bind hr ?_
    exact Ev.congr (fun k => by rw [decide_eq_true (by omega)]) (Ev.now _)
theorem scale_l0 (t : Int) (l : List Int) (hc : Cnt l) (h1 : l.length ≤ 256) (r : List Int × Int) (rest : Int)
    (hn : Ev (fun k => freq_Scale.l0 k t l l.sum l (l.length : Int) (l.length : Int)) r) (d : Nat) : ∀ i : Nat, i + d = l.length → Ev (fun k => freq_Scale.l0 k t l (l.take i).sum l (l.length : Int) (i : Int)) r := by
  induction d with
  | zero =>
    intro i hi
    obtain rfl : i = l.length := by omega
    rw [List.take_length]
    exact hn
  | succ d ih =>
    intro i hi
    have hl : i < l.length := by omega
    have hs := sum_take_succ l i hl
    have hb := cnt_sum (l := l.take (i + 1)) (fun c hc' => hc c (List.mem_of_mem_take hc'))
    have hb3 := hb.2.2
    rw [List.length_take] at hb3
    refine Ev.step (fun k => ?_) (ih (i + 1) (by omega))
    rw [freq_Scale.l0, if_pos (by omega), if_pos (by omega), if_pos (by omega), rdI l i hl, ← hs, w64' _ (by omega) (by omega), cast1, w64' _ (by omega) (by omega)]

/-- The places, in order. -/
def rng (n : Nat) : List Int := (List.range n).map fun (j : Nat) => (j : Int)
theorem rng_succ (n : Nat) : rng (n + 1) = rng n ++ [(n : Int)] := by simp [rng, List.range_succ]
theorem rng_length (n : Nat) : (rng n).length = n := by simp [rng]
theorem sum_map_range {l : List Int} {f : Int → Int} {B : Int} (h : ∀ c ∈ l, 0 ≤ f c ∧ f c ≤ B) : 0 ≤ (l.map f).sum ∧ (l.map f).sum ≤ B * (l.length : Int) := by
  induction l with
  | nil => simp
  | cons n r ih =>
    obtain ⟨h1, h2⟩ := ih (fun c hc => h c (by simp [hc]))
    have hn := h n (by simp)
    rw [List.map_cons, List.sum_cons, List.length_cons]
    refine ⟨by omega, ?_⟩
    have : B * ((r.length + 1 : Nat) : Int) = B * (r.length : Int) + B := by rw [Int.natCast_add, Int.mul_add]; omega
    omega
theorem scale_l1 (all rest : Int) (l : List Int) (hall : all = l.sum) (hc : Cnt l) (h256 : l.length ≤ 256) (hr0 : 0 ≤ rest) (hr1 : rest ≤ 16384) (ys : List Int) (r : List Int × Int)
    (hs : srt_stable (l.map fun c => c * rest - pt all rest c * all) (rng l.length) = some ys)
    (hn : Ev (fun k => freq_Scale.l2 k (l.map fun c => 1 + pt all rest c) ys (rest - (l.map (pt all rest)).sum) 0) r) (d : Nat) :
    ∀ i : Nat, i + d = l.length → Ev (fun k => freq_Scale.l1 k all rest (rest - ((l.take i).map (pt all rest)).sum) (((l.take i).map fun c => 1 + pt all rest c) ++ List.replicate d 1) (rng i ++ List.replicate d 0) l (l.length : Int) (i : Int) (((l.take i).map fun c => c * rest - pt all rest c * all) ++ List.replicate d 0)) r := by
  have hsum := cnt_sum hc
  induction d with
  | zero =>
    intro i hi
    obtain rfl : i = l.length := by omega
    simp only [List.take_length, List.replicate_zero, List.append_nil]
    refine Ev.step (fun k => ?_) hn
    rw [freq_Scale.l1, if_neg (by omega), hs, Option.bind_some]
  | succ d ih =>
    intro i hi
    have hl : i < l.length := by omega
    have hci := hc l[i] (List.getElem_mem hl)
    have hca := hsum.2.1 l[i] (List.getElem_mem hl)
    rw [← hall] at hca
    obtain ⟨p1, p2, p3⟩ := pt_range hci.1 hca hr0
    have hm1 : 0 ≤ l[i] * rest := Int.mul_nonneg hci.1 hr0
    have hm2 : l[i] * rest ≤ 1099511627776 * 16384 := Int.mul_le_mul hci.2 hr1 hr0 (by decide)
    have ha0 : 0 ≤ all := by rw [hall]; exact hsum.1
    have hm3 : 0 ≤ pt all rest l[i] * all := Int.mul_nonneg p1 ha0
    have hsb := sum_map_range (l := l.take i) (f := pt all rest) (B := 16384) (fun c hc' => by
      have hmem := List.mem_of_mem_take hc'
      have h2 := hsum.2.1 c hmem
      rw [← hall] at h2
      obtain ⟨q1, q2, _⟩ := pt_range (hc c hmem).1 h2 hr0
      omega)
    rw [List.length_take] at hsb
    have t1 : l.take (i + 1) = l.take i ++ [l[i]] := List.take_succ_eq_append_getElem hl
    have htl : (l.take i).length = i := by rw [List.length_take]; omega
    have ihh := ih (i + 1) (by omega)
    rw [t1] at ihh
    simp only [List.map_append, List.map_cons, List.map_nil, List.sum_append, List.sum_cons, List.sum_nil, Int.add_zero] at ihh
    have eA := set_app ((l.take i).map fun c => 1 + pt all rest c) 1 (1 + pt all rest l[i]) d
    have eR := set_app (rng i) 0 (i : Int) d
    have eZ := set_app ((l.take i).map fun c => c * rest - pt all rest c * all) 0 (l[i] * rest - pt all rest l[i] * all) d
    have fA := rd_app ((l.take i).map fun c => 1 + pt all rest c) 1 d
    rw [List.length_map, htl] at eA eZ fA
    rw [rng_length, ← rng_succ] at eR
    refine Ev.step (fun k => ?_) ihh
    rw [freq_Scale.l1, if_pos (by omega), if_pos (by omega), if_pos (by omega), if_pos (by simp [rng_length]; omega), Option.bind_some, Int.toNat_natCast, eR, rdI l i hl, cast1, w64' ((i + 1 : Nat) : Int) (by omega) (by omega)]
    by_cases h0 : all = 0
    · have hl0 : l[i] = 0 := by omega
      have hp0 : pt all rest l[i] = 0 := if_pos h0
      rw [if_pos h0, hp0, hl0]
      rw [hp0] at eA
      simp only [Int.add_zero, Int.zero_mul, Int.sub_self, h0]
      simp [List.replicate_succ]
    · have hdiv : Int.tdiv (l[i] * rest) all = pt all rest l[i] := by
        rw [Int.tdiv_eq_ediv_of_nonneg hm1, pt, if_neg h0]
      rw [if_neg h0, if_pos (by simp [htl]; omega), if_pos (by simp [htl]; omega), w64' (l[i] * rest) (by omega) (by omega), hdiv, w64' (pt all rest l[i]) (by omega) (by omega), fA, w64' (1 + pt all rest l[i]) (by omega) (by omega), w64' (pt all rest l[i] * all) (by omega) (by omega), w64' (l[i] * rest - pt all rest l[i] * all) (by omega) (by omega), eA, eZ, w64' _ (by omega) (by omega), Int.sub_sub]

theorem replicate_map_zero (l : List Int) : (l.take 0).map (fun c : Int => c) = [] := rfl
theorem scale_valid (t : Int) (l : List Int) (h1 : 1 ≤ l.length) (h256 : l.length ≤ 256) (h3 : (l.length : Int) ≤ t) (h4 : t ≤ 16384) (hc : Cnt l) :
    ∃ ys, ys.Perm (rng l.length) ∧ ∀ r, Ev (fun k => freq_Scale.l2 k (l.map fun c => 1 + pt l.sum (t - l.length) c) ys (t - l.length - (l.map (pt l.sum (t - l.length))).sum) 0) r → Ev (fun k => freq_Scale.f k t l) r := by
  have hmem : ∀ j ∈ rng l.length, 0 ≤ j ∧ j < (l.map fun c => c * (t - l.length) - pt l.sum (t - l.length) c * l.sum).length := by
    intro j hj
    simp only [rng, List.mem_map, List.mem_range] at hj
    obtain ⟨q, hq, rfl⟩ := hj
    rw [List.length_map]
    omega
  obtain ⟨ys, hys, hperm⟩ := srt_some (lost := l.map fun c => c * (t - l.length) - pt l.sum (t - l.length) c * l.sum) (ord := rng l.length) (by rw [rng_length]; omega) (by rw [rng_length]; omega) (by rw [List.length_map]; omega) hmem
  refine ⟨ys, hperm, fun r hr => ?_⟩
  have a1 := scale_l1 l.sum (t - l.length) l rfl hc h256 (by omega) (by omega) ys r hys hr l.length 0 (by omega)
  simp only [List.take_zero, List.map_nil, List.nil_append, List.sum_nil, Int.sub_zero] at a1
  have e : slices_Repeat_int_int.f [1] (l.length : Int) = some (List.replicate l.length 1) := by
    unfold slices_Repeat_int_int.f
    rw [if_pos ⟨rfl, by omega, by omega⟩, Int.toNat_natCast]
    rfl
  have a2 : Ev (fun k => freq_Scale.l0 k t l l.sum l (l.length : Int) (l.length : Int)) r := by
    refine Ev.step (fun k => ?_) a1
    rw [freq_Scale.l0, if_neg (by omega), e, Option.bind_some, if_pos (by omega), Int.toNat_natCast, if_pos (by omega), w64' (t - l.length) (by omega) (by omega)]
    rfl
  have a3 := scale_l0 t l hc h256 r 0 a2 l.length 0 (by omega)
  unfold freq_Scale.f
  refine Ev.congr (fun k => by rw [if_neg (by omega), if_neg (by omega), if_neg (by omega), if_neg (by omega)]) ?_
  refine Ev.bind ((contains_ev l (by omega)).1 hc) ?_
  refine Ev.step (fun k => (freq_Scale.j0.eq_2 ..).trans (if_neg Bool.false_ne_true)) ?_
  exact a3
theorem scale_no (t : Int) (l : List Int) (hL : l.length ≤ 4611686018427387904) (h : ¬ (1 ≤ l.length ∧ l.length ≤ 256 ∧ (l.length : Int) ≤ t ∧ t ≤ 16384 ∧ Cnt l)) : Ev (fun k => freq_Scale.f k t l) ([], 1) := by
  have bad : Ev (fun k => freq_Scale.j0 k t l true) (([] : List Int), (1 : Int)) := Ev.step (f := fun _ => some ([], 1)) (fun k => by rw [freq_Scale.j0, if_pos rfl]) (Ev.now _)
  unfold freq_Scale.f
  by_cases h1 : (l.length : Int) = 0
  · exact Ev.congr (fun k => by rw [if_pos h1]) bad
  by_cases h2 : (l.length : Int) > 256
  · exact Ev.congr (fun k => by rw [if_neg h1, if_pos h2]) bad
  by_cases h3 : t < (l.length : Int)
  · exact Ev.congr (fun k => by rw [if_neg h1, if_neg h2, if_pos h3]) bad
  by_cases h4 : t > 16384
  · exact Ev.congr (fun k => by rw [if_neg h1, if_neg h2, if_neg h3, if_pos h4]) bad
  refine Ev.congr (fun k => by rw [if_neg h1, if_neg h2, if_neg h3, if_neg h4]) ?_
  refine Ev.bind ((contains_ev l hL).2 (fun hh => h ⟨by omega, by omega, by omega, by omega, hh⟩)) ?_
  exact bad

/-! ### What is left over, one by one -/
theorem sum_set (l : List Int) : ∀ (i : Nat) (v : Int) (h : i < l.length), (l.set i v).sum = l.sum - l[i] + v := by
  induction l with
  | nil => intro i v h; simp at h
  | cons n r ih =>
    intro i v h
    cases i with
    | zero => simp; omega
    | succ i =>
      rw [List.set_cons_succ, List.sum_cons, List.sum_cons, ih i v (by simpa using h), List.getElem_cons_succ]
      omega
theorem rd_set (l : List Int) (i j : Nat) (v : Int) (hi : i < l.length) (hj : j < l.length) : rd (l.set i v) (j : Int) = if i = j then v else rd l (j : Int) := by
  rw [rdI _ j (by simpa using hj), List.getElem_set]
  split
  · rfl
  · rw [rdI _ j hj]
/-- How the left ones are shared out. -/
def Inv (n : Nat) (ys out0 : List Int) (i : Nat) (out : List Int) : Prop := out.length = n ∧ out.sum = out0.sum + (i : Int) ∧ ∀ s : Nat, s < n → rd out (s : Int) = rd out0 (s : Int) + ((i / n : Nat) : Int) + (if ys.idxOf (s : Int) < i % n then 1 else 0)
theorem inv_step {n : Nat} {ys out0 : List Int} (hp : ys.Perm (rng n)) (hn : 0 < n) {i : Nat} {out : List Int} (h : Inv n ys out0 i out) (hj : i % n < ys.length) : ∃ s : Nat, s < n ∧ ys[i % n] = (s : Int) ∧ Inv n ys out0 (i + 1) (out.set s (rd out (s : Int) + 1)) := by
  obtain ⟨h1, h2, h3⟩ := h
  have hm : ys[i % n] ∈ rng n := hp.mem_iff.1 (List.getElem_mem hj)
  simp only [rng, List.mem_map, List.mem_range] at hm
  obtain ⟨s, hs, he⟩ := hm
  have hnd : ys.Nodup := by
    refine hp.nodup_iff.2 ?_
    unfold rng
    exact List.Pairwise.map _ (fun a b (hab : a ≠ b) h => hab (Int.ofNat_inj.1 h)) List.nodup_range
  have hpos : ys.idxOf (s : Int) = i % n := by rw [he]; exact hnd.idxOf_getElem _ _
  have hyl : ys.length = n := by rw [hp.length_eq, rng_length]
  refine ⟨s, hs, he.symm, by rw [List.length_set]; exact h1, ?_, fun t ht => ?_⟩
  · rw [sum_set _ _ _ (by omega), rdI _ _ (by omega), h2]
    omega
  · have hother : s ≠ t → ys.idxOf (t : Int) ≠ i % n := by
      intro hne he2
      have hmt : (t : Int) ∈ ys := hp.mem_iff.2 (by simp only [rng, List.mem_map, List.mem_range]; exact ⟨t, ht, rfl⟩)
      have h5 := List.getElem_idxOf (List.idxOf_lt_length_of_mem hmt)
      have h6 : ys[i % n] = (t : Int) := by
        rw [← h5]
        congr 1
        exact he2.symm
      rw [← he] at h6
      omega
    rw [rd_set _ _ _ _ (by omega) (by omega)]
    have hq := Nat.div_add_mod i n
    have hlt := Nat.mod_lt i hn
    have e1 : (i + 1) / n = i / n + (i % n + 1) / n := by
      have h7 : (n * (i / n) + (i % n + 1)) / n = i / n + (i % n + 1) / n := Nat.mul_add_div hn _ _
      rw [show n * (i / n) + (i % n + 1) = i + 1 by omega] at h7
      exact h7
    have e2 : (i + 1) % n = (i % n + 1) % n := by
      have h8 : (n * (i / n) + (i % n + 1)) % n = (i % n + 1) % n := Nat.mul_add_mod _ _ _
      rw [show n * (i / n) + (i % n + 1) = i + 1 by omega] at h8
      exact h8
    rw [e1, e2]
    generalize i % n = j at *
    generalize i / n = q at *
    by_cases hj1 : j + 1 < n
    · rw [Nat.div_eq_of_lt hj1, Nat.mod_eq_of_lt hj1]
      by_cases hst : s = t
      · subst hst
        rw [if_pos rfl, h3 s hs, hpos, if_neg (by omega), if_pos (by omega)]
        omega
      · rw [if_neg hst, h3 t ht]
        have := hother hst
        by_cases hc : ys.idxOf (t : Int) < j
        · rw [if_pos hc, if_pos (by omega)]; omega
        · rw [if_neg hc, if_neg (by omega)]; omega
    · have hjn : j + 1 = n := by omega
      rw [hjn, Nat.div_self hn, Nat.mod_self, if_neg (Nat.not_lt_zero _)]
      by_cases hst : s = t
      · subst hst
        rw [if_pos rfl, h3 s hs, hpos, if_neg (by omega)]
        omega
      · rw [if_neg hst, h3 t ht]
        have := hother hst
        have hmt : (t : Int) ∈ ys := hp.mem_iff.2 (by simp only [rng, List.mem_map, List.mem_range]; exact ⟨t, ht, rfl⟩)
        have := List.idxOf_lt_length_of_mem hmt
        rw [if_pos (by omega)]
        omega
theorem l2_ev (n : Nat) (ys out0 : List Int) (hp : ys.Perm (rng n)) (hn : 0 < n) (hb : ∀ s : Nat, s < n → 1 ≤ rd out0 (s : Int) ∧ rd out0 (s : Int) ≤ 16385) (left : Nat) (hleft : left ≤ 16384) (d : Nat) :
    ∀ (i : Nat) (out : List Int), i + d = left → Inv n ys out0 i out → ∃ out', Inv n ys out0 left out' ∧ Ev (fun k => freq_Scale.l2 k out ys (left : Int) (i : Int)) (new_ out') := by
  have hyl : ys.length = n := by rw [hp.length_eq, rng_length]
  induction d with
  | zero =>
    intro i out hi h
    obtain rfl : i = left := by omega
    refine ⟨out, h, ?_⟩
    refine Ev.step (fun k => (freq_Scale.l2.eq_2 ..).trans (if_neg (by omega))) ?_
    exact Ev.bind (new_ev out) (Ev.now _)
  | succ d ih =>
    intro i out hi h
    have hlt := Nat.mod_lt i hn
    obtain ⟨s, hs, hys, hnext⟩ := inv_step hp hn h (by omega)
    obtain ⟨out', ho, hev⟩ := ih (i + 1) _ (by omega) hnext
    refine ⟨out', ho, Ev.step (fun k => ?_) hev⟩
    have hm : Int.tmod (i : Int) (ys.length : Int) = ((i % n : Nat) : Int) := by rw [hyl, Int.natCast_emod]; exact Int.tmod_eq_emod_of_nonneg (by omega)
    have hv := h.2.2 s hs
    have hbs := hb s hs
    have hdiv : i / n ≤ i := Nat.div_le_self _ _
    have hv2 : -1000000 ≤ rd out (s : Int) ∧ rd out (s : Int) ≤ 1000000 := by
      obtain ⟨q, hq⟩ : ∃ q, q = i / n := ⟨_, rfl⟩
      rw [← hq] at hv hdiv
      split at hv <;> omega
    rw [freq_Scale.l2, if_pos (by omega), if_neg (by omega), hm, if_pos (by omega), if_pos (by omega), rdI ys _ (by omega), hys, if_pos (by omega), if_pos (by have := h.1; omega), cast1, w64' ((i + 1 : Nat) : Int) (by omega) (by omega), Int.toNat_natCast, w64' (rd out (s : Int) + 1) (by omega) (by omega)]
/-- What Scale comes to. -/
theorem scale_ev (t : Int) (l : List Int) (h1 : 1 ≤ l.length) (h256 : l.length ≤ 256) (h3 : (l.length : Int) ≤ t) (h4 : t ≤ 16384) (hc : Cnt l) :
    ∃ out : List Int, out.length = l.length ∧ Fits out ∧ out.sum = t ∧ Ev (fun k => freq_Scale.f k t l) (ps 0 out, 0) ∧
      ∃ (q : Int) (e : Nat → Int), (∀ s, 0 ≤ e s ∧ e s ≤ 1) ∧ (∀ s (hs : s < l.length), rd out (s : Int) = 1 + pt l.sum (t - l.length) l[s] + q + e s) ∧ ((l.map (pt l.sum (t - l.length))).sum = t - l.length → q = 0 ∧ ∀ s, s < l.length → e s = 0) := by
  obtain ⟨ys, hp, hgo⟩ := scale_valid t l h1 h256 h3 h4 hc
  have hsum := cnt_sum hc
  have hpt : ∀ c ∈ l, 0 ≤ pt l.sum (t - l.length) c ∧ pt l.sum (t - l.length) c ≤ t - l.length := fun c hm => by
    obtain ⟨q1, q2, _⟩ := pt_range (hc c hm).1 (hsum.2.1 c hm) (show 0 ≤ t - (l.length : Int) by omega)
    exact ⟨q1, q2⟩
  -- the shares together are no more than there is
  have hle : (l.map (pt l.sum (t - l.length))).sum ≤ t - l.length := by
    by_cases h0 : l.sum = 0
    · have : ∀ l' : List Int, (l'.map (pt l.sum (t - l.length))).sum = 0 := by
        intro l'
        induction l' with
        | nil => rfl
        | cons n r ih => rw [List.map_cons, List.sum_cons, ih, pt, if_pos h0]; rfl
      rw [this]; omega
    · have key : ∀ l' : List Int, (∀ c ∈ l', c ∈ l) → (l'.map (pt l.sum (t - l.length))).sum * l.sum ≤ l'.sum * (t - l.length) := by
        intro l'
        induction l' with
        | nil => intro _; simp
        | cons n r ih =>
          intro hm
          have i1 := ih (fun c hcm => hm c (List.mem_cons_of_mem _ hcm))
          obtain ⟨_, _, q3⟩ := pt_range (hc n (hm n List.mem_cons_self)).1 (hsum.2.1 n (hm n List.mem_cons_self)) (show 0 ≤ t - (l.length : Int) by omega)
          rw [List.map_cons, List.sum_cons, List.sum_cons, Int.add_mul, Int.add_mul]
          omega
      have k1 := key l (fun c hcm => hcm)
      rw [Int.mul_comm l.sum] at k1
      have hpos : 0 < l.sum := by omega
      exact Int.le_of_mul_le_mul_right k1 hpos
  have hlow : 0 ≤ (l.map (pt l.sum (t - l.length))).sum := (sum_map_range (B := 16384) (fun c hm => ⟨(hpt c hm).1, by have := (hpt c hm).2; omega⟩)).1
  obtain ⟨left, hleft⟩ : ∃ left : Nat, t - l.length - (l.map (pt l.sum (t - l.length))).sum = (left : Int) := ⟨(t - l.length - (l.map (pt l.sum (t - l.length))).sum).toNat, by omega⟩
  have hrd0 : ∀ s (hs : s < l.length), rd (l.map fun c => 1 + pt l.sum (t - l.length) c) (s : Int) = 1 + pt l.sum (t - l.length) l[s] := fun s hs => by rw [rdI _ _ (by simpa using hs)]; simp
  have hs0 : (l.map fun c => 1 + pt l.sum (t - l.length) c).sum = (l.length : Int) + (l.map (pt l.sum (t - l.length))).sum := by
    have : ∀ l' : List Int, (l'.map fun c => 1 + pt l.sum (t - l.length) c).sum = (l'.length : Int) + (l'.map (pt l.sum (t - l.length))).sum := by
      intro l'
      induction l' with
      | nil => rfl
      | cons n r ih => rw [List.map_cons, List.sum_cons, ih, List.map_cons, List.sum_cons, List.length_cons]; omega
    exact this l
  obtain ⟨out, ho, hev⟩ := l2_ev l.length ys (l.map fun c => 1 + pt l.sum (t - l.length) c) hp (by omega) (fun s hs => by rw [hrd0 s hs]; have := hpt l[s] (List.getElem_mem hs); omega) left (by omega) left 0 (l.map fun c => 1 + pt l.sum (t - l.length) c) (by omega) ⟨by simp, by simp, fun s hs => by simp⟩
  obtain ⟨o1, o2, o3⟩ := ho
  have hfits : Fits out := by
    refine ⟨by omega, by omega, fun m hm => ?_, by omega⟩
    obtain ⟨s, hs, rfl⟩ := List.mem_iff_getElem.1 hm
    have h5 := o3 s (by omega)
    rw [hrd0 s (by omega), rdI _ _ hs] at h5
    have h6 := hpt l[s] (List.getElem_mem (by omega))
    obtain ⟨q, hq⟩ : ∃ q, q = left / l.length := ⟨_, rfl⟩
    rw [← hq] at h5
    split at h5 <;> omega
  refine ⟨out, o1, hfits, by omega, ?_, ((left / l.length : Nat) : Int), (fun s => if ys.idxOf (s : Int) < left % l.length then 1 else 0), fun s => by dsimp only; split <;> omega, fun s hs => by rw [o3 s hs, hrd0 s hs], fun hz => ?_⟩
  · refine hgo _ ?_
    rw [hleft]
    rw [show new_ out = _ from if_pos hfits] at hev
    exact hev
  · have hl0 : left = 0 := by omega
    subst hl0
    refine ⟨by simp, fun s hs => by simp⟩
end Go.Proofs.Ytdhckdeojplghaa.FT
