/- Tables made of counts: what New comes to; no memory in sight. -/
import Derived.Test.YtdhckdeojplghaaFt
set_option linter.unusedVariables false
set_option linter.unusedSimpArgs false
namespace Go.Proofs.Ytdhckdeojplghaa.FT
open Go.RowKit Go.Proofs.Ytdhckdeojplghaa.PA Go.Proofs.YtdhckdeojplghaaW.PrintWords Go.Proofs.YtdhckdeojplghaaW.PrintLast

/-- The sums, one after another. -/
def ps : Int → List Int → List Int
  | a, [] => [a]
  | a, n :: r => a :: ps (a + n) r
theorem ps_length (l : List Int) : ∀ a, (ps a l).length = l.length + 1 := by
  induction l with
  | nil => exact fun a => rfl
  | cons n r ih => exact fun a => by rw [ps, List.length_cons, ih, List.length_cons]
theorem sum_take_succ (l : List Int) (i : Nat) (h : i < l.length) : (l.take (i + 1)).sum = (l.take i).sum + l[i] := by
  rw [List.take_succ_eq_append_getElem h, List.sum_append]
  simp
theorem rd_cons_zero (x : Int) (l : List Int) : rd (x :: l) ((0 : Nat) : Int) = x := rfl
theorem rd_cons_succ (x : Int) (l : List Int) (i : Nat) : rd (x :: l) ((i + 1 : Nat) : Int) = rd l (i : Int) := by
  unfold rd
  rw [Int.toNat_natCast, Int.toNat_natCast]
  rfl
theorem rd_ps (l : List Int) : ∀ (a : Int) (i : Nat), i ≤ l.length → rd (ps a l) (i : Int) = a + (l.take i).sum := by
  induction l with
  | nil =>
    intro a i hi
    obtain rfl : i = 0 := by simpa using hi
    rw [ps, rd_cons_zero]; simp
  | cons n r ih =>
    intro a i hi
    cases i with
    | zero => rw [ps, rd_cons_zero]; simp
    | succ i => rw [ps, rd_cons_succ, ih _ _ (by simpa using hi), List.take_succ_cons, List.sum_cons]; omega
/-- Counts of which a table can be made. -/
def Fits (l : List Int) : Prop := 1 ≤ l.length ∧ l.length ≤ 256 ∧ (∀ n ∈ l, 1 ≤ n) ∧ l.sum ≤ 16384
theorem sum_nonneg {l : List Int} (h : ∀ n ∈ l, 1 ≤ n) : 0 ≤ l.sum := by
  induction l with
  | nil => simp
  | cons n r ih =>
    have h1 := h n (by simp)
    have h2 := ih (fun m hm => h m (by simp [hm]))
    rw [List.sum_cons]; omega
theorem good_ps {l : List Int} (h : Fits l) : Good (ps 0 l) := by
  obtain ⟨h1, h2, h3, h4⟩ := h
  refine ⟨by rw [ps_length]; omega, by rw [ps_length]; omega, ?_, ?_, fun j _ hj => ?_⟩
  · have := rd_ps l 0 0 (by omega)
    simpa using this
  · rw [ps_length, Nat.add_sub_cancel, rd_ps l 0 _ (Nat.le_refl _), List.take_length]; omega
  · rw [ps_length] at hj
    rw [rd_ps l 0 _ (by omega), rd_ps l 0 _ (by omega), sum_take_succ l j (by omega)]
    have := h3 l[j] (List.getElem_mem _)
    omega
theorem last_app (pre : List Int) (a : Int) (h : pre.length + 1 ≤ 9223372036854775807) : freq_last.f (pre ++ [a]) = some a := by
  rw [last_f _ (by simp) (by simpa using h)]
  congr 1
  rw [show (pre ++ [a]).length - 1 = pre.length by simp, rdI _ _ (by simp)]
  simp
open Classical in
noncomputable def newR (pre : List Int) (a : Int) (rest : List Int) : List Int × Int := if (∀ n ∈ rest, 1 ≤ n) ∧ a + rest.sum ≤ 16384 then (pre ++ ps a rest, 0) else ([], 1)
theorem new_l0 (l : List Int) (h1 : 1 ≤ l.length) (h2 : l.length ≤ 256) (rest : List Int) : ∀ (pre : List Int) (a : Int) (i : Nat), l.drop i = rest → i ≤ l.length → pre.length = i → 0 ≤ a → a ≤ 16384 →
    Ev (fun k => freq_New.l0 k l l (l.length : Int) (i : Int) (pre ++ [a])) (newR pre a rest) := by
  induction rest with
  | nil =>
    intro pre a i hd hil hp h0 ha
    have hil2 : i = l.length := by
      have := congrArg List.length hd
      simp at this
      omega
    have e : newR pre a [] = (pre ++ [a], 0) := if_pos ⟨by simp, by simpa using ha⟩
    rw [e]
    exact Ev.step (f := fun _ => some (pre ++ [a], 0)) (fun k => by rw [freq_New.l0, if_neg (by omega), if_neg (by omega)]) (Ev.now _)
  | cons n r ih =>
    intro pre a i hd hil hp h0 ha
    have hlt : i < l.length := by
      have := congrArg List.length hd
      simp at this
      omega
    have hd2 := hd
    rw [List.drop_eq_getElem_cons hlt] at hd2
    injection hd2 with hn hr
    by_cases hb : n < 1
    · have e : newR pre a (n :: r) = ([], 1) := if_neg (fun hh => by have := hh.1 n (by simp); omega)
      rw [e]
      exact Ev.step (f := fun _ => some ([], 1)) (fun k => by rw [freq_New.l0, if_pos (by omega), if_pos (by omega), if_pos (by omega), rdI l i hlt, hn, if_pos hb]) (Ev.now _)
    · by_cases hc : n > 16384 - a
      · have e : newR pre a (n :: r) = ([], 1) := if_neg (fun hh => by
          have h5 := sum_nonneg (l := r) (fun m hm => hh.1 m (by simp [hm]))
          have h6 := hh.2
          rw [List.sum_cons] at h6
          omega)
        rw [e]
        exact Ev.step (f := fun _ => some ([], 1)) (fun k => by rw [freq_New.l0, if_pos (by omega), if_pos (by omega), if_pos (by omega), rdI l i hlt, hn, if_neg hb, last_app pre a (by omega), Option.bind_some, w64' _ (by omega) (by omega), if_pos hc]) (Ev.now _)
      · have e : newR pre a (n :: r) = newR (pre ++ [a]) (a + n) r := by
          have hiff : ((∀ m ∈ n :: r, 1 ≤ m) ∧ a + (n :: r).sum ≤ 16384) ↔ ((∀ m ∈ r, 1 ≤ m) ∧ a + n + r.sum ≤ 16384) := by
            rw [List.sum_cons]
            constructor
            · exact fun hh => ⟨fun m hm => hh.1 m (by simp [hm]), by omega⟩
            · exact fun hh => ⟨fun m hm => by rcases List.mem_cons.1 hm with rfl | hm; exact (by omega); exact hh.1 m hm, by omega⟩
          by_cases q : (∀ m ∈ r, 1 ≤ m) ∧ a + n + r.sum ≤ 16384
          · rw [show newR pre a (n :: r) = _ from if_pos (hiff.2 q), show newR (pre ++ [a]) (a + n) r = _ from if_pos q, ps, List.append_assoc, List.singleton_append]
          · rw [show newR pre a (n :: r) = _ from if_neg (fun hh => q (hiff.1 hh)), show newR (pre ++ [a]) (a + n) r = _ from if_neg q]
        rw [e]
        refine Ev.step (fun k => ?_) (ih (pre ++ [a]) (a + n) (i + 1) hr (by omega) (by simp [hp]) (by omega) (by omega))
        rw [freq_New.l0, if_pos (by omega), if_pos (by omega), if_pos (by omega), rdI l i hlt, hn, if_neg hb, last_app pre a (by omega), Option.bind_some, w64' _ (by omega) (by omega), if_neg hc, Option.bind_some, if_pos (by simp; omega), w64' (a + n) (by omega) (by omega), cast1, w64' _ (by omega) (by omega)]
open Classical in
noncomputable def new_ (l : List Int) : List Int × Int := if Fits l then (ps 0 l, 0) else ([], 1)
theorem new_ev (l : List Int) : Ev (fun k => freq_New.f k l) (new_ l) := by
  unfold freq_New.f
  by_cases h1 : l.length > 256
  · have e : new_ l = ([], 1) := if_neg (fun hh => by have := hh.2.1; omega)
    rw [e]
    exact Ev.congr (fun k => by rw [if_pos (by omega)]) (Ev.now _)
  · refine Ev.congr (f := fun k => freq_New.l0 k l l (l.length : Int) 0 (List.replicate 1 0)) (fun k => by rw [if_neg (by omega), w64' _ (by omega) (by omega), if_pos (by omega), if_pos (by omega)]) ?_
    by_cases h2 : l.length = 0
    · have e : new_ l = ([], 1) := if_neg (fun hh => by have := hh.1; omega)
      rw [e]
      exact Ev.step (f := fun _ => some ([], 1)) (fun k => by rw [freq_New.l0, if_neg (by omega), if_pos (by omega)]) (Ev.now _)
    · have e : new_ l = newR [] 0 l := by
        have hiff : Fits l ↔ ((∀ n ∈ l, 1 ≤ n) ∧ 0 + l.sum ≤ 16384) := ⟨fun hh => ⟨hh.2.2.1, by have := hh.2.2.2; omega⟩, fun hh => ⟨by omega, by omega, hh.1, by have := hh.2; omega⟩⟩
        by_cases q : Fits l
        · rw [show new_ l = _ from if_pos q, show newR [] 0 l = _ from if_pos (hiff.1 q), List.nil_append]
        · rw [show new_ l = _ from if_neg q, show newR [] 0 l = _ from if_neg (fun hh => q (hiff.2 hh))]
      rw [e]
      exact new_l0 l (by omega) (by omega) l [] 0 0 rfl (by omega) rfl (by omega) (by omega)
theorem tot_ps {l : List Int} (h : Fits l) : tot (ps 0 l) = l.sum := by
  have e : tot (ps 0 l) = rd (ps 0 l) (((ps 0 l).length - 1 : Nat) : Int) := if_pos (good_ps h)
  rw [e, ps_length, Nat.add_sub_cancel, rd_ps l 0 _ (Nat.le_refl _), List.take_length]
  omega
theorem spn_ps {l : List Int} (h : Fits l) (i : Nat) (hi : i < l.length) : spn (ps 0 l) (i : Int) = ((l.take i).sum, (l.take (i + 1)).sum, 0) := by
  have e : spn (ps 0 l) (i : Int) = (rd (ps 0 l) (i : Int), rd (ps 0 l) ((i : Int) + 1), 0) := if_pos ⟨good_ps h, by omega, by rw [ps_length]; omega⟩
  rw [e, cast1, rd_ps l 0 _ (by omega), rd_ps l 0 _ (by omega)]
  simp
theorem sum_take_le {l : List Int} (h : ∀ n ∈ l, 1 ≤ n) (i : Nat) : 0 ≤ (l.take i).sum ∧ (l.take i).sum ≤ l.sum := by
  refine ⟨sum_nonneg (fun n hn => h n (List.mem_of_mem_take hn)), ?_⟩
  have h1 := sum_nonneg (l := l.drop i) (fun n hn => h n (List.mem_of_mem_drop hn))
  have h2 : (l.take i ++ l.drop i).sum = l.sum := by rw [List.take_append_drop]
  rw [List.sum_append] at h2
  omega
theorem fnd_ps {l : List Int} (h : Fits l) (i : Nat) (hi : i < l.length) (x : Int) (h1 : (l.take i).sum ≤ x) (h2 : x < (l.take (i + 1)).sum) : fnd (ps 0 l) x = ((i : Int), 0) := by
  have h3 := sum_take_le h.2.2.1 i
  have h4 := sum_take_le h.2.2.1 (i + 1)
  refine fnd_eq (good_ps h) (by omega) ?_ (s := i) (by rw [ps_length]; omega) (by rw [rd_ps l 0 _ (by omega)]; omega) (by rw [rd_ps l 0 _ (by omega)]; omega)
  rw [ps_length, Nat.add_sub_cancel, rd_ps l 0 _ (Nat.le_refl _), List.take_length]
  omega
end Go.Proofs.Ytdhckdeojplghaa.FT
