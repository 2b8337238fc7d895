/- What sealing, opening and patching come to, over lists of bytes, in the program and in the reference; for every list of bytes. -/
import Derived.Test.YtfjcehjdendjnaaCtB
import Derived.Test.YtfjcehjdendjnaaPAx5
import Derived.Laws.Strings
set_option linter.unusedVariables false
namespace Go.Proofs.Ytfjcehjdendjnaa.CT
open Go.RowKit Go.Proofs.YtfjcehjdendjnaaW.PrintWords Go.Proofs.YtfjcehjdendjnaaW.PrintLast Go.Proofs.YtfjcehjdendjnaaW.PrintMore Go.Proofs.Ytfjcehjdendjnaa.PA

theorem bat_toList (a : ByteArray) : a.toList = a.data.toList := by
  exact Go.ByteArray.toList_eq a
theorem str_toList (xs : List Int) : (strOfNums xs).toList = xs.map fun n => UInt8.ofNat n.toNat := by
  rw [bat_toList]; simp [strOfNums]
theorem str_inj : ∀ {a b : List Int}, Bytes a → Bytes b → ((strOfNums a).toList = (strOfNums b).toList ↔ a = b) := by
  intro a b ha hb
  rw [str_toList, str_toList]
  refine ⟨fun h => ?_, fun h => by rw [h]⟩
  induction a generalizing b with
  | nil => cases b with
    | nil => rfl
    | cons y b => simp at h
  | cons x a ih => cases b with
    | nil => simp at h
    | cons y b =>
      simp only [List.map_cons, List.cons.injEq] at h
      have hx := ha x (by simp)
      have hy := hb y (by simp)
      have e : x = y := by
        have := congrArg UInt8.toNat h.1
        simp only [UInt8.toNat_ofNat'] at this
        omega
      rw [e, ih (fun z hz => ha z (by simp [hz])) (fun z hz => hb z (by simp [hz])) h.2]
theorem equal_l0 (a b : List Int) (hl : a.length = b.length) (hn : a.length ≤ 4611686018427387904) (d : Nat) : ∀ i : Nat, i + d = a.length → Ev (fun k => slices_Equal_byte_byte.l0 k a b (a.length : Int) (i : Int)) (decide (a.drop i = b.drop i)) := by
  induction d with
  | zero =>
    intro i hi
    refine Ev.step (f := fun _ => some (decide (a.drop i = b.drop i))) (fun k => ?_) (Ev.now _)
    rw [slices_Equal_byte_byte.l0, if_neg (show ¬ ((i : Int) < (a.length : Int)) by omega), List.drop_eq_nil_of_le (by omega), List.drop_eq_nil_of_le (by omega)]; simp
  | succ d ih =>
    intro i hi
    have ha : i < a.length := by omega
    have hb : i < b.length := by omega
    have e : a.drop i = a[i] :: a.drop (i + 1) := List.drop_eq_getElem_cons ha
    have e2 : b.drop i = b[i] :: b.drop (i + 1) := List.drop_eq_getElem_cons hb
    by_cases h : a[i] = b[i]
    · refine Ev.step (f := fun k => slices_Equal_byte_byte.l0 k a b (a.length : Int) ((i + 1 : Nat) : Int)) (fun k => ?_) ?_
      · rw [slices_Equal_byte_byte.l0, if_pos (show ((i : Int) < (a.length : Int)) by omega), if_pos (Int.natCast_nonneg i), if_pos (show ((i : Int) < (a.length : Int)) by omega), if_pos (show ((i : Int) < (b.length : Int)) by omega), rd_get a i ha, rd_get b i hb, if_pos h, w64' ((i : Int) + 1) (by omega) (by omega)]; rfl
      · rw [e, e2, h]; simp only [List.cons.injEq, true_and]; exact ih (i + 1) (by omega)
    · refine Ev.step (f := fun k => some false) (fun k => ?_) ?_
      · rw [slices_Equal_byte_byte.l0, if_pos (show ((i : Int) < (a.length : Int)) by omega), if_pos (Int.natCast_nonneg i), if_pos (show ((i : Int) < (a.length : Int)) by omega), if_pos (show ((i : Int) < (b.length : Int)) by omega), rd_get a i ha, rd_get b i hb, if_neg h]
      · rw [e, e2]; simp only [List.cons.injEq, h, false_and, decide_false]; exact Ev.now _
theorem equal_ev (a b : List Int) (hn : a.length ≤ 4611686018427387904) : Ev (fun k => slices_Equal_byte_byte.f k a b) (decide (a = b)) := by
  by_cases hl : a.length = b.length
  · refine Ev.congr (f := fun k => slices_Equal_byte_byte.l0 k a b (a.length : Int) ((0 : Nat) : Int)) (fun k => ?_) (by simpa using equal_l0 a b hl hn a.length 0 (by omega))
    unfold slices_Equal_byte_byte.f; rw [if_pos (by omega)]; rfl
  · refine Ev.congr (f := fun k => some false) (fun k => ?_) ?_
    · unfold slices_Equal_byte_byte.f; rw [if_neg (by omega)]
    · have : a ≠ b := fun h => hl (by rw [h])
      simp only [this, decide_false]; exact Ev.now _
theorem clone_eq (l : List Int) (h : l.length < 140737488355328) : slices_Clone_byte_byte.f l = some l := by
  unfold slices_Clone_byte_byte.f
  simp only [Option.bind_some, List.length_nil, Nat.zero_add, if_pos h, List.nil_append]
theorem concat_ev (a t : List Int) (ha : a.length + t.length < 140737488355328) : Ev (fun k => slices_Concat_byte_byte.f k [a, t]) (a ++ t) := by
  have e0 : rd_L1 [a, t] 0 = a := rfl
  have e1 : rd_L1 [a, t] 1 = t := rfl
  have w0 : wrap64 (0 + (a.length : Int)) = (a.length : Int) := by rw [w64' _ (by omega) (by omega)]; omega
  have w1 : wrap64 ((a.length : Int) + (t.length : Int)) = (a.length : Int) + (t.length : Int) := w64' _ (by omega) (by omega)
  have w2 : wrap64 ((0 : Int) + 1) = 1 := w64' _ (by omega) (by omega)
  have w3 : wrap64 ((1 : Int) + 1) = 2 := w64' _ (by omega) (by omega)
  have l2 : (([a, t] : List (List Int)).length : Int) = 2 := rfl
  refine Ev.congr (f := fun k => slices_Concat_byte_byte.l0 k [a, t] 0 [a, t] 2 0) (fun k => rfl) ?_
  refine Ev.step (f := fun k => slices_Concat_byte_byte.l0 k [a, t] (a.length : Int) [a, t] 2 1) (fun k => ?_) ?_
  · rw [slices_Concat_byte_byte.l0, if_pos (by decide), if_pos (by decide), if_pos (by rw [l2]; decide), e0, w0, if_neg (by omega), w2]
  refine Ev.step (f := fun k => slices_Concat_byte_byte.l0 k [a, t] ((a.length : Int) + (t.length : Int)) [a, t] 2 2) (fun k => ?_) ?_
  · rw [slices_Concat_byte_byte.l0, if_pos (by decide), if_pos (by decide), if_pos (by rw [l2]; decide), e1, w1, if_neg (by omega), w3]
  refine Ev.step (f := fun k => slices_Concat_byte_byte.l1 k [] [a, t] 2 0) (fun k => ?_) ?_
  · rw [slices_Concat_byte_byte.l0, if_neg (by decide)]
    unfold slices_Grow_byte_byte.f
    rw [if_pos ⟨rfl, by omega, by omega⟩]; rfl
  refine Ev.step (f := fun k => slices_Concat_byte_byte.l1 k a [a, t] 2 1) (fun k => ?_) ?_
  · rw [slices_Concat_byte_byte.l1, if_pos (by decide), if_pos (by decide), if_pos (by rw [l2]; decide), e0, if_pos (by simp; omega), w2, List.nil_append]
  refine Ev.step (f := fun k => slices_Concat_byte_byte.l1 k (a ++ t) [a, t] 2 2) (fun k => ?_) ?_
  · rw [slices_Concat_byte_byte.l1, if_pos (by decide), if_pos (by decide), if_pos (by rw [l2]; decide), e1, if_pos (by omega), w3]
  refine Ev.step (f := fun _ => some (a ++ t)) (fun k => ?_) (Ev.now _)
  rw [slices_Concat_byte_byte.l1, if_neg (by decide)]

/-- A sum's bytes. -/
def tlI (s : Int) : List Int := [s % 256, (s / 256) % 256, (s / 65536) % 256, (s / 16777216) % 256]
def tl (b : List Int) : List Int := tlI ((sumN b : Nat) : Int)
theorem tl_bytes (b : List Int) : Bytes (tl b) := by
  intro y hy
  simp only [tl, tlI, List.mem_cons, List.not_mem_nil, or_false] at hy
  rcases hy with rfl | rfl | rfl | rfl <;> omega
theorem tl_length (b : List Int) : (tl b).length = 4 := rfl
def sealS (b : List Int) : List Int × Int := if b.length > 65536 then ([], 2) else (b ++ tl b, 0)
theorem bytes_append {a b : List Int} (ha : Bytes a) (hb : Bytes b) : Bytes (a ++ b) := by
  intro y hy
  rcases List.mem_append.1 hy with h | h
  · exact ha y h
  · exact hb y h
theorem seal_ev (b : List Int) (hb : Bytes b) : Ev (fun k => crc_Seal.f k b) (sealS b) := by
  unfold sealS
  by_cases h : b.length > 65536
  · rw [if_pos h]
    refine Ev.congr (f := fun _ => some ([], 2)) (fun k => ?_) (Ev.now _)
    unfold crc_Seal.f; rw [if_pos (by omega)]
  · rw [if_neg h]
    refine Ev.congr (f := fun k => (slices_Concat_byte_byte.f k [b, tl b]).bind fun t176 => some (t176, 0)) (fun k => ?_) ?_
    · unfold crc_Seal.f
      rw [if_neg (by omega), crc_sum1 b (by omega) hb]
      rfl
    · exact Ev.bind (concat_ev b (tl b) (by rw [tl_length]; omega)) (Ev.now _)
theorem refseal_ev (b : List Int) (hb : Bytes b) : Ev (fun k => squelchref02_Seal.f k b) (sealS b) := by
  unfold sealS
  by_cases h : b.length > 65536
  · rw [if_pos h]
    refine Ev.congr (f := fun _ => some ([], 2)) (fun k => ?_) (Ev.now _)
    unfold squelchref02_Seal.f; rw [if_pos (by omega)]
  · rw [if_neg h]
    have e := refsum [b] (by simp) (by simp; omega) (by simpa using hb)
    simp only [List.flatten_cons, List.flatten_nil, List.append_nil] at e
    refine Ev.congr (fun k => by unfold squelchref02_Seal.f; rw [if_neg (by omega)]) (Ev.bind e ?_)
    refine Ev.congr (f := fun _ => some (b ++ tl b, 0)) (fun k => ?_) (Ev.now _)
    rw [if_pos (by simp; omega)]
    simp only [Option.bind_some, List.nil_append]
    rw [if_pos (by simp; omega)]
    rfl
def openS (b : List Int) : List Int × Int :=
  if b.length < 4 then ([], 20) else if b.length - 4 > 65536 then ([], 2) else if b.drop (b.length - 4) = tl (b.take (b.length - 4)) then (b.take (b.length - 4), 0) else ([], 30)
theorem bytes_take {b : List Int} (n : Nat) (hb : Bytes b) : Bytes (b.take n) := fun y hy => hb y (List.mem_of_mem_take hy)
theorem bytes_drop {b : List Int} (n : Nat) (hb : Bytes b) : Bytes (b.drop n) := fun y hy => hb y (List.mem_of_mem_drop hy)
theorem open_ev (b : List Int) (hb : Bytes b) (hl : b.length ≤ 140737488351232) : Ev (fun k => crc_Open.f k b) (openS b) := by
  have w : wrap64 ((b.length : Int) - 4) = (b.length : Int) - 4 := w64' _ (by omega) (by omega)
  unfold openS
  by_cases h : b.length < 4
  · rw [if_pos h]
    refine Ev.congr (f := fun _ => some ([], 20)) (fun k => ?_) (Ev.now _)
    unfold crc_Open.f; rw [w, if_pos (by omega)]
  rw [if_neg h]
  by_cases h2 : b.length - 4 > 65536
  · rw [if_pos h2]
    refine Ev.congr (f := fun _ => some ([], 2)) (fun k => ?_) (Ev.now _)
    unfold crc_Open.f; rw [w, if_neg (by omega), if_pos (by omega)]
  rw [if_neg h2]
  have e : ((b.length : Int) - 4).toNat = b.length - 4 := by omega
  refine Ev.congr (f := fun k => (slices_Equal_byte_byte.f k (b.drop (b.length - 4)) (tl (b.take (b.length - 4)))).bind fun t129 => if t129 = true then some (b.take (b.length - 4), 0) else some ([], 30)) (fun k => ?_) ?_
  · unfold crc_Open.f
    rw [w, if_neg (by omega), if_neg (by omega), if_pos (by omega), if_pos (by omega), e, crc_sum1 _ (by simp; omega) (bytes_take _ hb)]
    simp only [Option.bind_some]
    rw [clone_eq _ (by simp; omega)]
    rfl
  · refine Ev.bind (equal_ev _ _ (by simp; omega)) ?_
    by_cases h3 : b.drop (b.length - 4) = tl (b.take (b.length - 4))
    · simp only [h3, decide_true, if_true]; exact Ev.now _
    · simp only [h3, decide_false, if_false, Bool.false_eq_true]; exact Ev.now _
theorem refopen_ev (b : List Int) (hb : Bytes b) (hl : b.length ≤ 140737488351232) : Ev (fun k => squelchref02_Open.f k b) (openS b) := by
  have w : wrap64 ((b.length : Int) - 4) = (b.length : Int) - 4 := w64' _ (by omega) (by omega)
  unfold openS
  by_cases h : b.length < 4
  · rw [if_pos h]
    refine Ev.congr (f := fun _ => some ([], 20)) (fun k => ?_) (Ev.now _)
    unfold squelchref02_Open.f; rw [w, if_pos (by omega)]
  rw [if_neg h]
  by_cases h2 : b.length - 4 > 65536
  · rw [if_pos h2]
    refine Ev.congr (f := fun _ => some ([], 2)) (fun k => ?_) (Ev.now _)
    unfold squelchref02_Open.f; rw [w, if_neg (by omega), if_pos (by omega)]
  rw [if_neg h2]
  have e : ((b.length : Int) - 4).toNat = b.length - 4 := by omega
  have hs := refseal_ev (b.take (b.length - 4)) (bytes_take _ hb)
  refine Ev.congr (fun k => by unfold squelchref02_Open.f; rw [w, if_neg (by omega), if_neg (by omega), if_pos (by omega), if_pos (by omega), e]) (Ev.bind hs ?_)
  have hsl : sealS (b.take (b.length - 4)) = (b.take (b.length - 4) ++ tl (b.take (b.length - 4)), 0) := by unfold sealS; rw [if_neg (by simp; omega)]
  rw [hsl]
  have hq : ((strOfNums (b.take (b.length - 4) ++ tl (b.take (b.length - 4)))).toList = (strOfNums b).toList) ↔ b.drop (b.length - 4) = tl (b.take (b.length - 4)) := by
    rw [str_inj (bytes_append (bytes_take _ hb) (tl_bytes _)) hb]
    constructor
    · intro h3
      have h4 := congrArg (List.drop (b.length - 4)) h3
      rw [List.drop_append_of_le_length (by simp), List.drop_eq_nil_of_le (by simp), List.nil_append] at h4
      exact h4.symm
    · intro h3
      rw [← h3, List.take_append_drop]
  by_cases h3 : b.drop (b.length - 4) = tl (b.take (b.length - 4))
  · rw [if_pos h3]
    refine Ev.congr (f := fun _ => some (b.take (b.length - 4), 0)) (fun k => ?_) (Ev.now _)
    rw [if_pos (hq.2 h3), if_pos (by simp; omega), List.nil_append]
  · rw [if_neg h3]
    refine Ev.congr (f := fun _ => some ([], 30)) (fun k => ?_) (Ev.now _)
    rw [if_neg (fun hh => h3 (hq.1 hh))]
def patchS (b : List Int) (at_ x : Int) : List Int × Int :=
  if (openS b).2 = 0 then if at_ < 0 ∨ at_ ≥ ((openS b).1.length : Int) then ([], 1) else sealS ((openS b).1.set at_.toNat x) else ([], (openS b).2)
theorem openS_bytes {b : List Int} (hb : Bytes b) : Bytes (openS b).1 := by
  unfold openS
  split
  · intro y hy; simp at hy
  split
  · intro y hy; simp at hy
  split
  · exact bytes_take _ hb
  · intro y hy; simp at hy
theorem bytes_set {b : List Int} (hb : Bytes b) (i : Nat) (x : Int) (h0 : 0 ≤ x) (h1 : x < 256) : Bytes (b.set i x) := by
  intro y hy
  rcases List.mem_or_eq_of_mem_set hy with h | rfl
  · exact hb y h
  · exact ⟨h0, h1⟩
theorem patch_ev (b : List Int) (at_ x : Int) (hb : Bytes b) (hl : b.length ≤ 140737488351232) (h0 : 0 ≤ x) (h1 : x < 256) : Ev (fun k => crc_Patch.f k b at_ x) (patchS b at_ x) := by
  refine Ev.congr (fun k => by unfold crc_Patch.f; rfl) (Ev.bind (open_ev b hb hl) ?_)
  unfold patchS
  by_cases h : (openS b).2 = 0
  · simp only [if_pos h]
    by_cases h2 : at_ < 0
    · rw [if_pos (Or.inl h2)]; refine Ev.congr (fun k => by rw [if_pos h2]) (Ev.now _)
    · by_cases h3 : at_ ≥ ((openS b).1.length : Int)
      · rw [if_pos (Or.inr h3)]; refine Ev.congr (fun k => by rw [if_neg h2, if_pos h3]) (Ev.now _)
      · rw [if_neg (by omega)]
        refine Ev.congr (fun k => by rw [if_neg h2, if_neg h3, if_pos (by omega), if_pos (by omega)]) (Ev.bind (seal_ev _ (bytes_set (openS_bytes hb) _ _ h0 h1)) (Ev.now _))
  · simp only [if_neg h]; exact Ev.now _
theorem refpatch_ev (b : List Int) (at_ x : Int) (hb : Bytes b) (hl : b.length ≤ 140737488351232) (h0 : 0 ≤ x) (h1 : x < 256) : Ev (fun k => squelchref02_Patch.f k b at_ x) (patchS b at_ x) := by
  refine Ev.congr (fun k => by unfold squelchref02_Patch.f; rfl) (Ev.bind (refopen_ev b hb hl) ?_)
  unfold patchS
  by_cases h : (openS b).2 = 0
  · simp only [if_pos h]
    by_cases h2 : at_ < 0
    · rw [if_pos (Or.inl h2)]; refine Ev.congr (fun k => by rw [if_pos h2]) (Ev.now _)
    · by_cases h3 : at_ ≥ ((openS b).1.length : Int)
      · rw [if_pos (Or.inr h3)]; refine Ev.congr (fun k => by rw [if_neg h2, if_pos h3]) (Ev.now _)
      · rw [if_neg (by omega)]
        refine Ev.congr (fun k => by rw [if_neg h2, if_neg h3, if_pos (by omega), if_pos (by omega)]) (Ev.bind (refseal_ev _ (bytes_set (openS_bytes hb) _ _ h0 h1)) (Ev.now _))
  · simp only [if_neg h]; exact Ev.now _
theorem wf8 {a : Int} (h : (Lit.int .u8 a).wf = true) : 0 ≤ a ∧ a < 256 := by
  simp [Lit.wf] at h
  have h1 : IntKind.u8.min = 0 := rfl
  have h2 : IntKind.u8.max = 255 := rfl
  omega
theorem big_ev (L : List (List Int)) (hl : L.length ≤ 4611686018427387904) (h : ∀ b ∈ L, b.length ≤ 140737488351232) : ∃ r, Ev (fun k => squelchlaw02_big.f k L) r := by
  have key : ∀ (d : Nat) (i : Nat) (x : Int), i + d = L.length → ∃ r, Ev (fun k => squelchlaw02_big.l0 k x L (L.length : Int) (i : Int)) r := by
    intro d
    induction d with
    | zero =>
      intro i x hi
      refine ⟨decide (x > 200000), Ev.step (f := fun _ => some (decide (x > 200000))) (fun k => ?_) (Ev.now _)⟩
      rw [squelchlaw02_big.l0, if_neg (by omega)]
    | succ d ih =>
      intro i x hi
      obtain ⟨r, hr⟩ := ih (i + 1) (wrap64 (x + ((rd_L1 L (i : Int)).length : Int))) (by omega)
      refine ⟨r, Ev.step (fun k => ?_) hr⟩
      rw [squelchlaw02_big.l0, if_pos (show ((i : Int) < (L.length : Int)) by omega), if_pos (Int.natCast_nonneg i), if_pos (show ((i : Int) < (L.length : Int)) by omega), w64' ((i : Int) + 1) (by omega) (by omega)]; rfl
  obtain ⟨r, hr⟩ := key L.length 0 0 (by omega)
  exact ⟨r, hr⟩
end Go.Proofs.Ytfjcehjdendjnaa.CT
