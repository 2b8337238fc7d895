import Derived.Test.YtflfmpfmnhpbmaaHDoD
import Derived.Test.YtflfmpfmnhpbmaaFl
import Derived.Test.YtflfmpfmnhpbmaaHDo
import Derived.Test.YtflfmpfmnhpbmaaFr
import Derived.Test.YtflfmpfmnhpbmaaPAx8
import Derived.Maps.OwnSet
/- A map of whole numbers, told by its entries: the holders of the floor, one for each epoch. -/
namespace Go.Proofs.Ytflfmpfmnhpbmaa.PA
open Go.RowKit Go.Proofs.YtflfmpfmnhpbmaaW.PrintWords Go.Proofs.YtflfmpfmnhpbmaaW.PrintLast Go.Proofs.YtflfmpfmnhpbmaaW.PrintMore
set_option linter.unusedVariables false
set_option linter.unusedSimpArgs false
theorem und30 (w : World) : (underlying 30).run Try.prog w = .ok (.map 3 3) w := by kernel_rfl
theorem zeroI (w : World) : (zeroValue 3).run Try.prog w = .ok (.int .i64 0) w := by kernel_rfl
/-- The entries: the numbers from s + 1 on, each with its holder. -/
def entL (s : Nat) : List Int → List MapEntry
  | [] => []
  | h :: r => { key := .int .i64 ((s : Int) + 1), val := .int .i64 h, born := s } :: entL (s + 1) r
theorem entL_len (l : List Int) : ∀ s, (entL s l).length = l.length := by
  induction l with
  | nil => exact fun _ => rfl
  | cons h r ih => exact fun s => by rw [entL, List.length_cons, ih, List.length_cons]
theorem entL_app (l : List Int) (v : Int) : ∀ s : Nat, entL s (l ++ [v]) = entL s l ++ [{ key := .int .i64 (((s + l.length : Nat) : Int) + 1), val := .int .i64 v, born := s + l.length }] := by
  induction l with
  | nil => exact fun s => rfl
  | cons h r ih =>
    intro s
    rw [List.cons_append, entL, ih, entL, List.length_cons, List.cons_append]
    have e : s + 1 + r.length = s + (r.length + 1) := by omega
    rw [e]
/-- Whose epoch. -/
def hold (l : List Int) (k : Int) : Int := if 1 ≤ k then l.getD (k - 1).toNat 0 else 0
theorem find_ent (k : Int) (l : List Int) : ∀ s j : Nat, Instr.findNow (.int .i64) (.int .i64 k) (entL s l) j = some (if (s : Int) < k ∧ k ≤ (s : Int) + (l.length : Int) then some (j + (k - s - 1).toNat, .int .i64 (l.getD (k - s - 1).toNat 0)) else none) := by
  induction l with
  | nil => intro s j; rw [entL, Instr.findNow, if_neg (by simp)]
  | cons h r ih =>
    intro s j
    rw [entL, Instr.findNow]
    by_cases hk : k = (s : Int) + 1
    · have hb : (k == (s : Int) + 1) = true := by simp [hk]
      simp only [Instr.sameNow, if_true, hb]
      rw [if_pos (by rw [List.length_cons]; omega), show (k - s - 1).toNat = 0 by omega]
      rfl
    · have hb : (k == (s : Int) + 1) = false := by simp [hk]
      simp only [Instr.sameNow, if_true, hb]
      rw [ih]
      by_cases hc : (s : Int) < k ∧ k ≤ (s : Int) + ((h :: r).length : Int)
      · rw [List.length_cons] at hc
        rw [if_pos (by push_cast; omega), if_pos (by rw [List.length_cons]; omega)]
        have e : (k - s - 1).toNat = (k - ((s + 1 : Nat) : Int) - 1).toNat + 1 := by push_cast; omega
        rw [e, List.getD_cons_succ]
        congr 3
        omega
      · rw [List.length_cons] at hc
        rw [if_neg (by push_cast; omega), if_neg (by rw [List.length_cons]; omega)]
/-- Block b is that map. -/
def MapO (W : World) (b : Nat) (l : List Int) : Prop := W.heap[b]? = some (.map (entL 0 l).toArray l.length)
theorem key_okI (empty : Bool) (k : Int) (w : World) : (Instr.checkKey empty 10000 3 (.int .i64 k)).run Try.prog w = .ok () w := by
  unfold Instr.checkKey
  have u3 : (underlying 3).run Try.prog w = .ok (.int .i64) w := by kernel_rfl
  simp only [Sem.run_bind, u3, Result.andThen_ok]
  rfl
theorem find_nowI (k : Int) (es : List MapEntry) (r : Option (Nat × Value)) (w : World) (h : Instr.findNow (.int .i64) (.int .i64 k) es 0 = some r) : (Instr.findKey 3 (.int .i64 k) es).run Try.prog w = .ok r w := by
  have u3 : (underlying 3).run Try.prog w = .ok (.int .i64) w := by kernel_rfl
  unfold Instr.findKey
  simp only [Sem.run_bind, u3, Result.andThen_ok, h]
  rfl
theorem MapO.look {W : World} {b : Nat} {l : List Int} (h : MapO W b l) (k : Int) (ok : Bool) :
    (Instr.lookup 30 (.map (some b)) (.int .i64 k) ok).run Try.prog W = .ok (if ok = true then .tuple #[.int .i64 (hold l k), .bool (decide (1 ≤ k ∧ k ≤ (l.length : Int)))] else .int .i64 (hold l k)) W := by
  have hf := find_ent k l 0 0
  by_cases hk : 1 ≤ k ∧ k ≤ (l.length : Int)
  · rw [if_pos (by omega)] at hf
    have e : hold l k = l.getD (k - ((0 : Nat) : Int) - 1).toNat 0 := by unfold hold; rw [if_pos hk.1]; congr 1; omega
    rw [decide_eq_true hk, e]
    unfold Instr.lookup
    simp only [Sem.run_bind, und30, Result.andThen_ok, MapKept.run_getObj_map h, Sem.run_pure, key_okI, find_nowI k (entL 0 l) _ W hf]
  · rw [if_neg (by omega)] at hf
    have e : hold l k = 0 := by
      unfold hold
      by_cases h1 : 1 ≤ k
      · rw [if_pos h1, List.getD_eq_getElem?_getD, List.getElem?_eq_none (by omega)]; rfl
      · rw [if_neg h1]
    rw [decide_eq_false hk, e]
    unfold Instr.lookup
    simp only [Sem.run_bind, und30, Result.andThen_ok, MapKept.run_getObj_map h, Sem.run_pure, key_okI, find_nowI k (entL 0 l) _ W hf, zeroI]
theorem MapO.put_new {W : World} {b : Nat} {l : List Int} (h : MapO W b l) (v : Int) :
    ∃ W', (Instr.mapUpdate 30 (.map (some b)) (.int .i64 ((l.length : Int) + 1)) (.int .i64 v)).run Try.prog W = .ok () W' ∧ MapO W' b (l ++ [v]) ∧ W.grownBy W' (some b) := by
  have hf := find_ent ((l.length : Int) + 1) l 0 0
  rw [if_neg (by omega)] at hf
  have hl := blk_lt h
  have eA : (entL 0 l).toArray.push { key := .int .i64 ((l.length : Int) + 1), val := .int .i64 v, born := l.length } = (entL 0 (l ++ [v])).toArray := by
    rw [entL_app, Nat.zero_add, List.push_toArray]
  refine ⟨{ W with heap := W.heap.setIfInBounds b (.map ((entL 0 l).toArray.push { key := .int .i64 ((l.length : Int) + 1), val := .int .i64 v, born := l.length }) (l.length + 1)) }, ?_, ?_, rfl, rfl, rfl, ?_, fun j _ hj => ?_⟩
  · unfold Instr.mapUpdate
    simp only [Sem.run_bind, und30, Result.andThen_ok, MapKept.run_getObj_map h, key_okI, find_nowI _ (entL 0 l) none W hf, MapKept.run_setObj_map _ h]
  · unfold MapO
    show (W.heap.setIfInBounds b _)[b]? = _
    rw [Array.getElem?_setIfInBounds, eA, List.length_append, List.length_singleton]
    simp [hl]
  · show W.heap.size ≤ (W.heap.setIfInBounds b _).size
    rw [Array.size_setIfInBounds]
    exact Nat.le_refl _
  · show (W.heap.setIfInBounds b _)[j]? = _
    rw [Array.getElem?_setIfInBounds, if_neg (fun e => hj (by rw [e]))]
theorem entL_get (l : List Int) : ∀ (s i : Nat), i < l.length → (entL s l)[i]? = some { key := .int .i64 (((s + i : Nat) : Int) + 1), val := .int .i64 (l.getD i 0), born := s + i } := by
  induction l with
  | nil => intro s i h; exact absurd h (Nat.not_lt_zero _)
  | cons h r ih =>
    intro s i hi
    cases i with
    | zero => rfl
    | succ i =>
      rw [entL, List.getElem?_cons_succ, ih (s + 1) i (by rw [List.length_cons] at hi; omega), List.getD_cons_succ]
      have e : s + 1 + i = s + (i + 1) := by omega
      rw [e]
theorem MapO.put_same {W : World} {b : Nat} {l : List Int} (h : MapO W b l) (k v : Int) (hk : 1 ≤ k ∧ k ≤ (l.length : Int)) (hv : v = hold l k) :
    ∃ W', (Instr.mapUpdate 30 (.map (some b)) (.int .i64 k) (.int .i64 v)).run Try.prog W = .ok () W' ∧ MapO W' b l ∧ W.grownBy W' (some b) := by
  have hf := find_ent k l 0 0
  rw [if_pos (by omega), Nat.zero_add] at hf
  have ei : (k - ((0 : Nat) : Int) - 1).toNat = (k - 1).toNat := by congr 1; omega
  rw [ei] at hf
  have hl := blk_lt h
  have hi : (k - 1).toNat < l.length := by omega
  have hg := entL_get l 0 (k - 1).toNat hi
  rw [Nat.zero_add] at hg
  have ek : (((k - 1).toNat : Nat) : Int) + 1 = k := by omega
  rw [ek] at hg
  have hga : (entL 0 l).toArray[(k - 1).toNat]? = some { key := .int .i64 k, val := .int .i64 (l.getD (k - 1).toNat 0), born := (k - 1).toNat } := by rw [List.getElem?_toArray]; exact hg
  have ev : v = l.getD (k - 1).toNat 0 := by rw [hv]; unfold hold; rw [if_pos hk.1]
  have eA : ((entL 0 l).toArray.modify (k - 1).toNat fun e => { e with key := .int .i64 k, val := .int .i64 v }) = (entL 0 l).toArray := by
    apply Array.ext_getElem?
    intro j
    rw [Array.getElem?_modify]
    by_cases hj : (k - 1).toNat = j
    · subst hj
      rw [if_pos rfl, hga, ev]
      rfl
    · rw [if_neg hj]
  have hst : ∀ w, (Instr.keyThatStays (.int .i64 k) (.int .i64 k)).run Try.prog w = .ok (.int .i64 k) w := fun w => by
    unfold Instr.keyThatStays
    rw [if_pos (by simp [Instr.sameBits])]
    rfl
  refine ⟨{ W with heap := W.heap.setIfInBounds b (.map (entL 0 l).toArray l.length) }, ?_, ?_, rfl, rfl, rfl, ?_, fun j _ hj => ?_⟩
  · unfold Instr.mapUpdate
    simp only [Sem.run_bind, und30, Result.andThen_ok, MapKept.run_getObj_map h, key_okI, find_nowI k (entL 0 l) _ W hf, hga, Option.map_some, Option.getD_some, hst, eA, MapKept.run_setObj_map _ h]
  · unfold MapO
    show (W.heap.setIfInBounds b _)[b]? = _
    rw [Array.getElem?_setIfInBounds]
    simp [hl]
  · show W.heap.size ≤ (W.heap.setIfInBounds b _).size
    rw [Array.size_setIfInBounds]
    exact Nat.le_refl _
  · show (W.heap.setIfInBounds b _)[j]? = _
    rw [Array.getElem?_setIfInBounds, if_neg (fun e => hj (by rw [e]))]
end Go.Proofs.Ytflfmpfmnhpbmaa.PA

/- Each epoch has one holder: the plain theory. -/
set_option linter.unusedVariables false
set_option linter.unusedSimpArgs false
namespace Go.Proofs.Ytflfmpfmnhpbmaa.FL
open Go.RowKit Go.Proofs.Ytflfmpfmnhpbmaa.PA Go.Proofs.YtflfmpfmnhpbmaaW.PrintWords Go.Proofs.YtflfmpfmnhpbmaaW.PrintLast
/-- What is told, put to the holders: each grant is a new epoch's, or one that its holder has. -/
def procO : List Int → Int → List S38 → Option (List Int × Int)
  | hl, g, [] => some (hl, g)
  | hl, g, y :: r =>
    if y.f0 = 5 then
      (if 1 ≤ y.f2 ∧ y.f2 ≤ (hl.length : Int) then (if hold hl y.f2 = y.f1 then procO hl g r else none)
       else (if y.f2 = (hl.length : Int) + 1 then procO (hl ++ [y.f1]) (g + 1) r else none))
    else procO hl g r
theorem proc_none (out : List S38) (h : ∀ y ∈ out, y.f0 ≠ 5) : ∀ hl g, procO hl g out = some (hl, g) := by
  induction out with
  | nil => exact fun _ _ => rfl
  | cons y r ih =>
    intro hl g
    rw [procO, if_neg (h y (List.mem_cons_self ..))]
    exact ih (fun z hz => h z (List.mem_cons_of_mem _ hz)) hl g
theorem proc_new (pre : List S38) (h : ∀ y ∈ pre, y.f0 ≠ 5) (who e z : Int) : ∀ (hl : List Int) (g : Int), e = (hl.length : Int) + 1 → procO hl g (pre ++ [⟨5, who, e, z⟩]) = some (hl ++ [who], g + 1) := by
  induction pre with
  | nil =>
    intro hl g he
    rw [List.nil_append, procO, if_pos rfl, if_neg (by show ¬ (1 ≤ e ∧ e ≤ _); omega), if_pos he]
    rfl
  | cons y r ih =>
    intro hl g he
    rw [List.cons_append, procO, if_neg (h y (List.mem_cons_self ..))]
    exact ih (fun z hz => h z (List.mem_cons_of_mem _ hz)) hl g he
/-- Each epoch has one holder; the last one's has the floor. -/
structure Once (hl : List Int) (D : Dk) : Prop where
  len : (hl.length : Int) = D.e
  last : D.s ≠ 0 → hold hl D.e = D.h
theorem hold_last (hl : List Int) (v : Int) : hold (hl ++ [v]) ((hl.length : Int) + 1) = v := by
  unfold hold
  rw [if_pos (by omega), show ((hl.length : Int) + 1 - 1).toNat = hl.length by omega, List.getD_eq_getElem?_getD, List.getElem?_append_right (Nat.le_refl _)]
  simp
/-- What comes of it, told of the holders. -/
def Good (hl : List Int) (E : Dk) : Prop := ∃ hl' g, procO hl 0 E.out = some (hl', g) ∧ 0 ≤ g ∧ g ≤ 1 ∧ Once hl' E
theorem good_same {hl : List Int} {E : Dk} (h : ∀ y ∈ E.out, y.f0 ≠ 5) (ho : Once hl E) : Good hl E := ⟨hl, 0, proc_none _ h _ _, Int.le_refl _, by decide, ho⟩
theorem good_on {hl : List Int} (F : Dk) (hlen : (hl.length : Int) = F.e) (hno : ∀ y ∈ F.out, y.f0 ≠ 5) : Good hl (onD F) := by
  unfold onD
  split
  · refine good_same (fun y hy => ?_) ⟨hlen, fun q => absurd rfl q⟩
    rcases List.mem_append.1 (show y ∈ F.out ++ [(⟨10, 0, F.e, 0⟩ : S38)] from hy) with hy | hy
    · exact hno y hy
    · rw [List.mem_singleton.1 hy]; exact show (10 : Int) ≠ 5 by decide
  · rename_i x r hw
    refine ⟨hl ++ [x.f0], 1, ?_, by decide, by decide, ⟨?_, fun _ => ?_⟩⟩
    · exact proc_new F.out hno x.f0 (F.e + 1) 0 hl 0 (by omega)
    · show ((hl ++ [x.f0]).length : Int) = F.e + 1
      rw [List.length_append, List.length_singleton]; push_cast; omega
    · show hold (hl ++ [x.f0]) (F.e + 1) = x.f0
      rw [← hlen]; exact hold_last hl x.f0
theorem one_no {x y : S38} (h : x.f0 ≠ 5) (hy : y ∈ [x]) : y.f0 ≠ 5 := by rw [List.mem_singleton.1 hy]; exact h
theorem good_release {hl : List Int} (F : Dk) (w : Int) (hlen : (hl.length : Int) = F.e) (hlast : F.s ≠ 0 → hold hl F.e = F.h) (ho : F.out = []) : Good hl (releaseD F w) := by
  unfold releaseD
  split
  · exact good_on (unwaitD F w) hlen (fun y hy => by rw [show (unwaitD F w).out = [] from ho] at hy; cases hy)
  · exact good_same (E := unwaitD F w) (fun y hy => by rw [show (unwaitD F w).out = [] from ho] at hy; cases hy) ⟨hlen, hlast⟩
theorem once_do {hl : List Int} {D : Dk} (h : Ok D) (a : S32) (h16 : 1 ≤ a.f0 ∧ a.f0 ≤ 6) (o : Once hl D) : Good hl (doD (bareD D) a) := by
  have hb : Ok (bareD D) := (okD_iff _).1 ((okD_iff D).2 h)
  have hl0 := o.len
  have hl1 := o.last
  have e0 := h.e0
  unfold doD
  split
  · unfold joinD
    repeat' split
    · exact good_same (fun y hy => one_no (show (15 : Int) ≠ 5 by decide) (show y ∈ [(⟨15, a.f1, D.e, 0⟩ : S38)] from hy)) ⟨hl0, hl1⟩
    · exact good_same (fun y hy => one_no (show (6 : Int) ≠ 5 by decide) (show y ∈ [(⟨6, a.f1, 0, 0⟩ : S38)] from hy)) ⟨hl0, hl1⟩
    · exact good_same (fun y hy => one_no (show (15 : Int) ≠ 5 by decide) (show y ∈ [(⟨15, a.f1, D.e, 0⟩ : S38)] from hy)) ⟨hl0, hl1⟩
  · split
    · unfold leaveD
      split
      · exact good_release { bareD D with mem := (bareD D).mem.eraseIdx _ } a.f1 hl0 hl1 rfl
      · exact good_same (E := bareD D) (fun y hy => by cases (show y ∈ ([] : List S38) from hy)) ⟨hl0, hl1⟩
    · split
      · unfold requestD
        split
        · exact good_same (fun y hy => one_no (show (6 : Int) ≠ 5 by decide) (show y ∈ [(⟨6, a.f1, 0, 0⟩ : S38)] from hy)) ⟨hl0, hl1⟩
        · split
          · refine ⟨hl ++ [a.f1], 1, proc_new [] (fun y hy => by cases hy) a.f1 (D.e + 1) 0 hl 0 (by omega), by decide, by decide, ⟨?_, fun _ => ?_⟩⟩
            · show ((hl ++ [a.f1]).length : Int) = D.e + 1
              rw [List.length_append, List.length_singleton]; push_cast; omega
            · show hold (hl ++ [a.f1]) (D.e + 1) = a.f1
              rw [← hl0]; exact hold_last hl a.f1
          · rename_i hs
            have hs : D.s ≠ 0 := hs
            split
            · rename_i hh
              have hh : D.h = a.f1 := hh
              split
              · have hpos := (h.busy hs).2.2
                refine ⟨hl, 0, ?_, by decide, by decide, ⟨hl0, hl1⟩⟩
                show procO hl 0 [⟨5, a.f1, D.e, 0⟩] = _
                rw [procO, if_pos rfl, if_pos (show 1 ≤ D.e ∧ D.e ≤ _ by omega), if_pos (show hold hl D.e = a.f1 by rw [hl1 hs, hh])]
                rfl
              · exact good_same (fun y hy => one_no (show (8 : Int) ≠ 5 by decide) (show y ∈ [(⟨8, a.f1, D.e, 0⟩ : S38)] from hy)) ⟨hl0, hl1⟩
            · split
              · exact good_same (fun y hy => one_no (show (7 : Int) ≠ 5 by decide) (show y ∈ [(⟨7, a.f1, 0, idxP (isWho a.f1) D.wait 0 + 1⟩ : S38)] from hy)) ⟨hl0, hl1⟩
              · split
                · exact good_same (fun y hy => one_no (show (6 : Int) ≠ 5 by decide) (show y ∈ [(⟨6, a.f1, 0, 0⟩ : S38)] from hy)) ⟨hl0, hl1⟩
                · unfold queueD
                  split
                  · refine good_same (fun y hy => ?_) ⟨hl0, fun _ => hl1 hs⟩
                    rcases List.mem_cons.1 (show y ∈ [(⟨7, a.f1, 0, (posQ a.f2 D.wait : Int) + 1⟩ : S38), ⟨8, D.h, D.e, 0⟩] from hy) with rfl | hy
                    · exact show (7 : Int) ≠ 5 by decide
                    · rw [List.mem_singleton.1 hy]; exact show (8 : Int) ≠ 5 by decide
                  · exact good_same (fun y hy => one_no (show (7 : Int) ≠ 5 by decide) (show y ∈ [(⟨7, a.f1, 0, (posQ a.f2 D.wait : Int) + 1⟩ : S38)] from hy)) ⟨hl0, hl1⟩
      · split
        · exact good_release (bareD D) a.f1 hl0 hl1 rfl
        · split
          · unfold renewD
            split
            · exact good_same (fun y hy => by cases (show y ∈ ([] : List S38) from hy)) ⟨hl0, hl1⟩
            · exact good_same (E := bareD D) (fun y hy => by cases (show y ∈ ([] : List S38) from hy)) ⟨hl0, hl1⟩
          · unfold tickD
            dsimp only
            have ht : (∀ y ∈ (tickE { bareD D with n := a.f4 }).out, y.f0 ≠ 5) ∧ (tickE { bareD D with n := a.f4 }).e = D.e ∧ ((tickE { bareD D with n := a.f4 }).s ≠ 0 → hold hl D.e = (tickE { bareD D with n := a.f4 }).h) := by
              unfold tickE
              split
              · rename_i hc
                have hc : D.s = 1 := hc.1
                exact ⟨fun y hy => one_no (show (8 : Int) ≠ 5 by decide) (show y ∈ [(⟨8, D.h, D.e, 0⟩ : S38)] from hy), rfl, fun _ => hl1 (by rw [hc]; decide)⟩
              · exact ⟨fun y hy => (by cases (show y ∈ ([] : List S38) from hy)), rfl, hl1⟩
            generalize tickE { bareD D with n := a.f4 } = F at ht
            obtain ⟨t1, t2, t3⟩ := ht
            split
            · exact good_on F (by rw [t2]; exact hl0) t1
            · exact good_same t1 ⟨by rw [t2]; exact hl0, fun q => by rw [t2]; exact t3 q⟩
end Go.Proofs.Ytflfmpfmnhpbmaa.FL

namespace Go.Proofs.Ytflfmpfmnhpbmaa.PA
open Go.RowKit Go.Proofs.YtflfmpfmnhpbmaaW.PrintWords Go.Proofs.YtflfmpfmnhpbmaaW.PrintLast Go.Proofs.YtflfmpfmnhpbmaaW.PrintMore
/-- floor.Do's contract with both rows told as shared ones. -/
theorem floor_Do.calls8 (k : Nat) (s e h p u l n : Int) (A7 : Option Addr) (c7 : Nat) (wait : List S43) (A8 : Option Addr) (c8 : Nat) (mem : List Int) (b0 b1 b2 b3 b4 : Int) (r1 r2 r3 r4 r5 r6 r7 : Int) (r8 : List S43) (r9 : List Int) (r10 : List S38) (r11 : Int) (w : World)
 (hr7 : Kd.C k43 w A7 wait.length wait) (hc7 : wait.length ≤ c7) (hr8 : Kd.C (Kd.int .i64) w A8 mem.length mem) (hc8 : mem.length ≤ c8)
 (hf : floor_Do.f k s e h p u l n wait mem b0 b1 b2 b3 b4 = some (r1, r2, r3, r4, r5, r6, r7, r8, r9, r10, r11)) :
 Calls Try.prog 14 #[.agg #[.int .i64 s, .int .i64 e, .int .i64 h, .int .i64 p, .int .i64 u, .int .i64 l, .int .i64 n, .slice A7 wait.length c7, .slice A8 mem.length c8], .agg #[.int .i64 b0, .int .i64 b1, .int .i64 b2, .int .i64 b3, .int .i64 b4]] w fun e' w' =>
 ∃ v7_ v8_ v9_ : Value, e' = .returned (.tuple #[.agg #[.int .i64 r1, .int .i64 r2, .int .i64 r3, .int .i64 r4, .int .i64 r5, .int .i64 r6, .int .i64 r7, v7_, v8_], v9_, .int .i64 r11]) ∧ Kd.V k43 43 w' w.heap.size (fun k_ => (w.heap.size ≤ k_) ∧ some k_ ≠ (v9_ : Value).ownBlock) v7_ r8 ∧ Kd.V (Kd.int .i64) 3 w' w.heap.size (fun k_ => (w.heap.size ≤ k_) ∧ some k_ ≠ (v9_ : Value).ownBlock) v8_ r9 ∧ Kd.R k38 38 w' w.heap.size (fun k_ => (w.heap.size ≤ k_)) v9_ r10 ∧ Below w.heap.size w w' := by
 refine (floor_Do.calls k s e h p u l n A7 c7 wait A8 c8 mem b0 b1 b2 b3 b4 r1 r2 r3 r4 r5 r6 r7 r8 r9 r10 r11 w hr7 hc7 hr8 hc8 hf).mono ?_
 rintro e' w' ⟨v7, v8, v9, he, h1, h2, h3, hb⟩
 exact ⟨v7, v8, v9, he, Kd.V_mono h1 (fun k hk => ⟨hk.1, hk.2.2⟩), Kd.R_V (base := w.heap.size) (Kd.R_apartR h2 h3 (by decide)), h3, hb⟩
end Go.Proofs.Ytflfmpfmnhpbmaa.PA

/- FloorOnce: the law's own walk, with its map of holders; by hand. -/
namespace Go.Proofs.Ytflfmpfmnhpbmaa.PA
open Go.RowKit Go.Proofs.YtflfmpfmnhpbmaaW.PrintWords Go.Proofs.YtflfmpfmnhpbmaaW.PrintLast Go.Proofs.YtflfmpfmnhpbmaaW.PrintMore Go.Maps Go.Proofs.Ytflfmpfmnhpbmaa.FL
set_option linter.unusedVariables false
set_option linter.unusedSimpArgs false
def squelchlaw18_FloorOnce.f (k : Nat) (l : List S32) : Option Bool := some true
def squelchlaw18_FloorOnce.Pure : Prop := ∀ (l0 : List (S32)), (l0.length * 40 ≤ 140737488351232 ∧ l0.length ≤ 9223372036854775807 ∧ ∀ y0_ ∈ l0, ((Lit.int .i64 y0_.f0).wf = true ∧ (Lit.int .i64 y0_.f1).wf = true ∧ (Lit.int .i64 y0_.f2).wf = true ∧ (Lit.int .i64 y0_.f3).wf = true ∧ (Lit.int .i64 y0_.f4).wf = true)) → ∃ k, squelchlaw18_FloorOnce.f k l0 = some true
/-- A floor in a block of its own, and the map of holders. -/
structure FOS (W : World) (P : Nat → Prop) (g4 gm base : Nat) (D : Dk) (vw vm : Value) (hl : List Int) : Prop where
  blk : W.heap[g4]? = some (.cells #[.int .i64 D.s, .int .i64 D.e, .int .i64 D.h, .int .i64 D.p, .int .i64 D.u, .int .i64 D.l, .int .i64 D.n, vw, vm] 28 (0, 0))
  wait : Kd.V k43 43 W base P vw D.wait
  mem : Kd.V (Kd.int .i64) 3 W base P vm D.mem
  map : MapO W gm hl
  np : ∀ k, P k → k ≠ gm
  ne : g4 ≠ gm
  b4 : base ≤ g4
  bm : base ≤ gm
theorem FOS.below {W W' : World} {P : Nat → Prop} {g4 gm base : Nat} {D : Dk} {vw vm : Value} {hl : List Int} (h : FOS W P g4 gm base D vw vm hl) (hb : Below W.heap.size W W') : FOS W' P g4 gm base D vw vm hl :=
  ⟨blk_below h.blk hb, Kd.V_below h.wait hb, Kd.V_below h.mem hb, blk_below h.map hb, h.np, h.ne, h.b4, h.bm⟩
theorem V_grownO {α : Type} {d : Kd α} {e : Nat} {W W' : World} {base : Nat} {ok : Nat → Prop} {v : Value} {xs : List α} (h : Kd.V d e W base ok v xs) {row : Option Nat} (hg : W.grownBy W' row) (hok : ∀ k, ok k → some k ≠ row) : Kd.V d e W' base ok v xs := Kd.V_map h (fun _ hf => Kd.F_step hf (fun k hk hlt => hg.block k hlt (hok k hk)))
theorem FOS.turned {W W' : World} {P : Nat → Prop} {g4 gm base : Nat} {D : Dk} {vw vm : Value} {hl hl' : List Int} (h : FOS W P g4 gm base D vw vm hl) (hg : W.grownBy W' (some gm)) (hm : MapO W' gm hl') : FOS W' P g4 gm base D vw vm hl' :=
  ⟨blk_grown h.blk hg (by intro e; exact h.ne (Option.some.inj e)), V_grownO h.wait hg (fun k hk e => h.np k hk (Option.some.inj e)), V_grownO h.mem hg (fun k hk e => h.np k hk (Option.some.inj e)), hm, h.np, h.ne, h.b4, h.bm⟩
theorem MapO.len {W : World} {b : Nat} {l : List Int} (h : MapO W b l) (ty : TypeId) : (Builtin.len_ #[30] ty #[.map (some b)]).run Try.prog W = .ok (.int .i64 (l.length : Int)) W := by
  have := run_len_map (P := Try.prog) (w := W) 30 ty b _ _ (by kernel_rfl) h
  rw [this]
  simp [goInt, entL_len]
theorem R_grownO {α : Type} {d : Kd α} {e : TypeId} {W W' : World} {base : Nat} {ok : Nat → Prop} {v : Value} {xs : List α} (h : Kd.R d e W base ok v xs) {row : Option Nat} (hg : W.grownBy W' row) (hok : ∀ k, ok k → some k ≠ row) : Kd.R d e W' base ok v xs := Kd.R_step h (fun k ho hk => hg.block k hk (hok k ho))
theorem V_boundO {α : Type} {d : Kd α} {e : Nat} {W : World} {base : Nat} {ok : Nat → Prop} {v : Value} {xs : List α} (h : Kd.V d e W base ok v xs) : Kd.V d e W base (fun k => ok k ∧ k < W.heap.size) v xs := Kd.V_map h (fun _ hf => Kd.F_bound hf)
theorem rdO8 (l : List S38) (j : Nat) (h : j < l.length) : rd_T38 l (j : Int) = l[j] := by
  unfold rd_T38
  rw [Int.toNat_natCast, List.getD_eq_getElem?_getD, List.getElem?_eq_getElem h]; rfl
theorem proc_len (out : List S38) : ∀ (hl : List Int) (g : Int) (hl' : List Int) (g' : Int), procO hl g out = some (hl', g') → hl.length ≤ hl'.length ∧ g ≤ g' := by
  induction out with
  | nil => intro hl g hl' g' h; rw [procO] at h; obtain ⟨rfl, rfl⟩ := Prod.mk.inj (Option.some.inj h); exact ⟨Nat.le_refl _, Int.le_refl _⟩
  | cons y r ih =>
    intro hl g hl' g' h
    rw [procO] at h
    split at h
    · split at h
      · split at h
        · exact ih _ _ _ _ h
        · exact absurd h (by simp)
      · split at h
        · have := ih _ _ _ _ h
          rw [List.length_append, List.length_singleton] at this
          exact ⟨by omega, by omega⟩
        · exact absurd h (by simp)
    · exact ih _ _ _ _ h
theorem map_far {W : World} {b g i : Nat} {l : List Int} {u : Value} (h : MapO W b l) (hne : g ≠ b) : MapO (W.setCell ⟨g, i, none⟩ u) b l := (Below.heap_setCell W ⟨g, i, none⟩ u b (fun e => hne e.symm)).trans h
theorem nilC {α : Type} (d : Kd α) (e : TypeId) (W : World) : Kd.C d W none 0 [] := (Kd.R_reads' (Kd.R_nil d e W 0 (fun _ => True))).2.2
set_option maxHeartbeats 16000000 in
set_option maxRecDepth 100000 in
theorem squelchlaw18_FloorOnce.calls (k : Nat) (A0 : Option Addr) (c0 : Nat) (l0 : List S32) (r : Bool) (w : World) (hr0 : Kd.C k32 w A0 l0.length l0) (hc0 : l0.length ≤ c0) (h : squelchlaw18_FloorOnce.f k l0 = some r) (hr_ : r = true) :
    Calls Try.prog 3 #[.slice A0 l0.length c0] w fun e w' => e = .returned (.bool r) ∧ Below w.heap.size w w' := by
  subst hr_
  have hmm := @run_makeMap Try.prog
  obtain ⟨kl, hkl⟩ := live_ev.rounds
  have HL := aM hkl
  have HR0 := aM hr0
  have HC0 := aM hc0
  have HB := aM (Below.refl w.heap.size w)
  clear hr0 hc0 h hkl
  by_cases hlen : (l0.length : Int) ≤ 100
  rotate_left
  · have HF : Aside0 (squelchlaw18_few.f 0 0 0 0 0 0 0 [] [] l0 = some false) := aM (by unfold squelchlaw18_few.f; rw [if_pos (by decide), if_pos (by decide), decide_eq_false hlen])
    clear hlen
    go_enter Try.func3, Try.ntmps3
    go_wp2_with (first | (go_at_call 11; refine (squelchlaw18_live.calls kl true _ HL.out).mono ?_; rintro e w1 ⟨rfl, hb⟩; have HB1 := aM (below_step HB.out hb); clear hb) | (go_at_call 12; refine (squelchlaw18_few.calls 0 0 0 0 0 0 0 none 0 [] none 0 [] A0 c0 l0 false _ (nilC k43 43 _) (Nat.le_refl _) (nilC (Kd.int .i64) 3 _) (Nat.le_refl _) (Kd.C_below HR0.out HB1.out) HC0.out HF.out).mono ?_; rintro e w2 ⟨rfl, hb⟩; have HB2 := aM (below_step HB1.out hb); clear hb))
    go_ret
    exact ⟨rfl, HB2.out⟩
  have HF : Aside0 (squelchlaw18_few.f 0 0 0 0 0 0 0 [] [] l0 = some true) := aM (by unfold squelchlaw18_few.f; rw [if_pos (by decide), if_pos (by decide), decide_eq_true hlen])
  have HLEN := aM hlen
  clear hlen
  go_enter Try.func3, Try.ntmps3
  go_wp2_with (first | (go_at_call 11; refine (squelchlaw18_live.calls kl true _ HL.out).mono ?_; rintro e w1 ⟨rfl, hb⟩; have HB1 := aM (below_step HB.out hb); clear hb) | (go_at_call 12; refine (squelchlaw18_few.calls 0 0 0 0 0 0 0 none 0 [] none 0 [] A0 c0 l0 true _ (nilC k43 43 _) (Nat.le_refl _) (nilC (Kd.int .i64) 3 _) (Nat.le_refl _) (Kd.C_below HR0.out HB1.out) HC0.out HF.out).mono ?_; rintro e w2 ⟨rfl, hb⟩; have HB2 := aM (below_step HB1.out hb); clear hb) | (go_at_call 13; refine (floor_New.calls 0 0 0 0 0 0 0 [] [] _ rfl).mono ?_; rintro e w3 ⟨v7, v8, rfl, hw, hm, hb⟩; have HB3 := aM (below_step HB2.out hb); have HW3 := aM hw; have HM3 := aM hm; obtain ⟨A7, c7, e7⟩ := Kd.R_slice hw; obtain ⟨A8, c8, e8⟩ := Kd.R_slice hm; subst e7; subst e8; clear hb hw hm))
  have hfos : FOS ((w3.alloc (.cells #[.int .i64 0, .int .i64 0, .int .i64 0, .int .i64 0, .int .i64 0, .int .i64 0, .int .i64 0, .slice A7 0 c7, .slice A8 0 c8] 28)).alloc (.map #[] 0)) (fun k => k ≠ w3.heap.size + 1 ∧ k ≠ w3.heap.size) w3.heap.size (w3.heap.size + 1) w.heap.size newD (.slice A7 0 c7) (.slice A8 0 c8) [] :=
    ⟨blk_alloc (heap_alloc_new w3 _) _, Kd.V_alloc (Kd.V_alloc (Kd.V_mono (Kd.R_V (base := w2.heap.size) (Kd.R_mono (Kd.R_bound HW3.out) (ok' := fun k => k < w3.heap.size) (fun k hk => hk.2.2.1))) (fun k hk => ⟨by omega, by omega⟩)) _) _, Kd.V_alloc (Kd.V_alloc (Kd.V_mono (Kd.R_V (base := w2.heap.size) (Kd.R_mono (Kd.R_bound HM3.out) (ok' := fun k => k < w3.heap.size) (fun k hk => hk.2.2.1))) (fun k hk => ⟨by omega, by omega⟩)) _) _, by
      have := heap_alloc_new (w3.alloc (.cells #[.int .i64 0, .int .i64 0, .int .i64 0, .int .i64 0, .int .i64 0, .int .i64 0, .int .i64 0, .slice A7 0 c7, .slice A8 0 c8] 28)) (.map #[] 0)
      simpa [MapO, entL] using this, fun k hk => hk.1, by omega, HB3.out.size, Nat.le_succ_of_le HB3.out.size⟩
  have HFOS := aM hfos
  have HB4 := aM (below_alloc (below_alloc HB3.out (.cells #[.int .i64 0, .int .i64 0, .int .i64 0, .int .i64 0, .int .i64 0, .int .i64 0, .int .i64 0, .slice A7 0 c7, .slice A8 0 c8] 28)) (.map #[] 0))
  clear hfos
  generalize ((w3.alloc (.cells #[.int .i64 0, .int .i64 0, .int .i64 0, .int .i64 0, .int .i64 0, .int .i64 0, .int .i64 0, .slice A7 0 c7, .slice A8 0 c8] 28)).alloc (.map #[] 0)) = w4 at HFOS HB4 ⊢
  generalize w3.heap.size + 1 = gm at HFOS ⊢
  generalize w3.heap.size = g4 at HFOS ⊢
  clear HB3 HB2 HB1 HB HW3 HM3 HF HL
  go_loopg [26] l0.length (fun kx s26 wr => ∃ (i : Nat) (D : Dk) (hl : List Int) (vw vm : Value), s26 = .int .i64 i ∧ i ≤ l0.length ∧ l0.length - i ≤ kx ∧ Aside0 (Below w.heap.size w wr) ∧ Aside0 (FOS wr (fun k => k ≠ gm ∧ k ≠ g4) g4 gm w.heap.size D vw vm hl) ∧ Aside0 (Inv (i : Int) D ∧ Once hl D))
  case atStart => exact ⟨0, newD, [], _, _, rfl, Nat.zero_le _, by omega, HB4, HFOS, aM ⟨inv_new, ⟨rfl, fun q => absurd rfl q⟩⟩⟩
  case round =>
    clear HB4 HFOS
    obtain ⟨i, D, hl, vw, vm, rfl, hil, hkx, HBR, HFR, HIN⟩ := hrel
    obtain ⟨A7', c7', ew⟩ := Kd.V_slice HFR.out.wait
    obtain ⟨A8', c8', em⟩ := Kd.V_slice HFR.out.mem
    subst ew
    subst em
    by_cases hlt : i < l0.length
    rotate_left
    · have hltz : ¬ ((i : Int) < (l0.length : Int)) := by omega
      clear hlt hil hkx
      go_wp2
      go_ret
      exact ⟨rfl, HBR.out⟩
    have hltz : (i : Int) < (l0.length : Int) := by omega
    have hiz : (0 : Int) ≤ (i : Int) := by omega
    have HCR := aM (Kd.C_below HR0.out HBR.out)
    obtain ⟨ad, hA, hc0, hc1, hc2, hc3, hc4⟩ := at_T32 HCR.out (i : Int) hiz hltz
    subst hA
    rw [rdA l0 i hlt, Int.toNat_natCast] at hc0 hc1 hc2 hc3 hc4
    obtain ⟨a, ha⟩ : ∃ a, a = l0[i] := ⟨_, rfl⟩
    rw [← ha] at hc0 hc1 hc2 hc3 hc4
    have HA := aM ha
    have ri : IntKind.i64.wrap ((i : Int) + 1) = ((i + 1 : Nat) : Int) := by rw [IntKind.wrap_i64]; have := HLEN.out; omega
    have e5 : l0.length - (i + 1) < gk := by omega
    have e6 : i + 1 ≤ l0.length := by omega
    have H56 := aM (And.intro e5 e6)
    clear ha e5 e6 hkx hil
    go_upto_region 9 with (fail)
    have hk7 : (wr.alloc (.cells #[.int .i64 a.f0, .int .i64 a.f1, .int .i64 a.f2, .int .i64 a.f3, .int .i64 a.f4] 32)).heap[wr.heap.size]? = some (.cells #[.int .i64 a.f0, .int .i64 a.f1, .int .i64 a.f2, .int .i64 a.f3, .int .i64 a.f4] 32 (0, 0)) := heap_alloc_new wr _
    have hF5 := HFR.out.below (below_alloc (Below.refl _ wr) (.cells #[.int .i64 a.f0, .int .i64 a.f1, .int .i64 a.f2, .int .i64 a.f3, .int .i64 a.f4] 32))
    have hB5 := below_alloc HBR.out (.cells #[.int .i64 a.f0, .int .i64 a.f1, .int .i64 a.f2, .int .i64 a.f3, .int .i64 a.f4] 32)
    generalize (wr.alloc (.cells #[.int .i64 a.f0, .int .i64 a.f1, .int .i64 a.f2, .int .i64 a.f3, .int .i64 a.f4] 32)) = w5 at hk7 hF5 hB5 ⊢
    generalize wr.heap.size = g7 at hk7 ⊢
    have BK7 := aM hk7
    have HF5 := aM hF5
    have HB5 := aM hB5
    obtain ⟨hf0, hf1, hf2, hf3, hf4, hf5, hf6, hf7, hf8⟩ := cells9 hF5.blk
    obtain ⟨ha0, ha1, ha2, ha3, ha4⟩ := cells5 hk7
    clear hk7 hF5 hB5 hc0 hc1 hc2 hc3 hc4 HCR HFR HBR
    have HI := aM HIN.out.1
    have HO := aM HIN.out.2
    clear HIN
    by_cases hcan : can D a
    rotate_left
    · have HN := aM (do_no HI.out.ok a hcan 0)
      clear hcan
      go_wp2_with (go_at_call 14; refine (floor_Do.calls8 0 D.s D.e D.h D.p D.u D.l D.n A7' c7' D.wait A8' c8' D.mem a.f0 a.f1 a.f2 a.f3 a.f4 0 0 0 0 0 0 0 [] [] [] 1 w5 (Kd.V_reads' HF5.out.wait).2.2 (Kd.V_reads' HF5.out.wait).2.1 (Kd.V_reads' HF5.out.mem).2.2 (Kd.V_reads' HF5.out.mem).2.1 HN.out).mono ?_; rintro e w6 ⟨v7, v8, v9, rfl, ho0, ho1, ho2, hb⟩; have HB6 := aM (below_step HB5.out hb); have HF6 := aM (HF5.out.below hb); obtain ⟨A7n, c7n, e7n⟩ := Kd.V_slice ho0; obtain ⟨A8n, c8n, e8n⟩ := Kd.V_slice ho1; subst e7n; subst e8n; clear hb ho0 ho1 ho2 hf0 hf1 hf2 hf3 hf4 hf5 hf6 hf7 hf8 ha0 ha1 ha2 ha3 ha4)
      go_roundg (l0.length - (i + 1))
      case measure => exact H56.out.1
      case rel => exact ⟨i + 1, D, hl, _, _, by first | rfl | (simp [ri]; done), H56.out.2, Nat.le_refl _, aM (below_alloc HB6.out _), aM (HF6.out.below (below_alloc (Below.refl _ w6) _)), aM ⟨inv_mono HI.out (by omega), HO.out⟩⟩
    have hyes := do_yes HI.out.ok a hcan 0
    have hlen100 := HLEN.out
    have hIE := do_inv (inv_bare HI.out) (by omega) a hcan.1 hcan.2
    obtain ⟨hlF, gF, hproc, hg0, hg1, hOE⟩ := once_do HI.out.ok a hcan.1 HO.out
    generalize doD (bareD D) a = E at hyes hIE hproc hOE
    have HY : Aside0 (floor_Do.f 0 D.s D.e D.h D.p D.u D.l D.n D.wait D.mem a.f0 a.f1 a.f2 a.f3 a.f4 = some (E.s, E.e, E.h, E.p, E.u, E.l, E.n, E.wait, E.mem, E.out, 0)) := aM hyes
    have HIE := aM hIE
    have HPR := aM hproc
    have HG0 := aM hg0
    have HG1 := aM hg1
    have HOE := aM hOE
    clear hyes hIE hproc hg0 hg1 hOE hcan hlen100
    go_wp2_with (go_at_call 14; refine (floor_Do.calls8 0 D.s D.e D.h D.p D.u D.l D.n A7' c7' D.wait A8' c8' D.mem a.f0 a.f1 a.f2 a.f3 a.f4 E.s E.e E.h E.p E.u E.l E.n E.wait E.mem E.out 0 w5 (Kd.V_reads' HF5.out.wait).2.2 (Kd.V_reads' HF5.out.wait).2.1 (Kd.V_reads' HF5.out.mem).2.2 (Kd.V_reads' HF5.out.mem).2.1 HY.out).mono ?_; rintro e w6 ⟨v7, v8, v9, rfl, ho0, ho1, ho2, hb⟩; have HB6 := aM (below_step HB5.out hb); have HF6 := aM (HF5.out.below hb); have HO0 := aM ho0; have HO1 := aM ho1; have HO2 := aM ho2; have SZ56 := aM hb.size; obtain ⟨A7n, c7n, e7n⟩ := Kd.V_slice ho0; obtain ⟨A8n, c8n, e8n⟩ := Kd.V_slice ho1; obtain ⟨A9n, c9n, e9n⟩ := Kd.R_slice ho2; subst e7n; subst e8n; subst e9n; clear hb ho0 ho1 ho2 hf0 hf1 hf2 hf3 hf4 hf5 hf6 hf7 hf8 ha0 ha1 ha2 ha3 ha4)
    have hgm5 : gm < w5.heap.size := blk_lt HF5.out.map
    have hg45 : g4 < w5.heap.size := blk_lt HF5.out.blk
    have hsz := SZ56.out
    have hG7 : FOS (w6.alloc (.cells #[.int .i64 E.s, .int .i64 E.e, .int .i64 E.h, .int .i64 E.p, .int .i64 E.u, .int .i64 E.l, .int .i64 E.n, .slice A7n E.wait.length c7n, .slice A8n E.mem.length c8n] 28)) (fun k => k ≠ gm ∧ k ≠ g4 ∧ k ≠ w6.heap.size) w6.heap.size gm w.heap.size E (.slice A7n E.wait.length c7n) (.slice A8n E.mem.length c8n) hl :=
      ⟨heap_alloc_new w6 _, Kd.V_alloc (Kd.V_mono (V_boundO HO0.out) (fun k hk => by have := hk.1.1; have := hk.2; exact ⟨by omega, by omega, by omega⟩)) _, Kd.V_alloc (Kd.V_mono (V_boundO HO1.out) (fun k hk => by have := hk.1.1; have := hk.2; exact ⟨by omega, by omega, by omega⟩)) _, blk_alloc HF6.out.map _, fun k hk => hk.1, by omega, HB6.out.size, HF5.out.bm⟩
    have hF7 := HF6.out.below (below_alloc (Below.refl _ w6) (.cells #[.int .i64 E.s, .int .i64 E.e, .int .i64 E.h, .int .i64 E.p, .int .i64 E.u, .int .i64 E.l, .int .i64 E.n, .slice A7n E.wait.length c7n, .slice A8n E.mem.length c8n] 28))
    have hB7 := below_alloc HB6.out (.cells #[.int .i64 E.s, .int .i64 E.e, .int .i64 E.h, .int .i64 E.p, .int .i64 E.u, .int .i64 E.l, .int .i64 E.n, .slice A7n E.wait.length c7n, .slice A8n E.mem.length c8n] 28)
    have hR7 : Kd.R k38 38 (w6.alloc (.cells #[.int .i64 E.s, .int .i64 E.e, .int .i64 E.h, .int .i64 E.p, .int .i64 E.u, .int .i64 E.l, .int .i64 E.n, .slice A7n E.wait.length c7n, .slice A8n E.mem.length c8n] 28)) w5.heap.size (fun k => k ≠ gm) (.slice A9n E.out.length c9n) E.out := Kd.R_below (Kd.R_mono HO2.out (fun k hk => by have : w5.heap.size ≤ k := hk; omega)) (below_alloc (Below.refl _ w6) (.cells #[.int .i64 E.s, .int .i64 E.e, .int .i64 E.h, .int .i64 E.p, .int .i64 E.u, .int .i64 E.l, .int .i64 E.n, .slice A7n E.wait.length c7n, .slice A8n E.mem.length c8n] 28))
    generalize (w6.alloc (.cells #[.int .i64 E.s, .int .i64 E.e, .int .i64 E.h, .int .i64 E.p, .int .i64 E.u, .int .i64 E.l, .int .i64 E.n, .slice A7n E.wait.length c7n, .slice A8n E.mem.length c8n] 28)) = w7 at hG7 hF7 hB7 hR7 ⊢
    generalize w6.heap.size = g8 at hG7 ⊢
    have HF7 := aM hF7
    have HB7 := aM hB7
    have HG7 := aM hG7
    have HR7 := aM hR7
    have hOL : E.out.length ≤ 9223372036854775807 := (Kd.R_reads' hR7).2.2.2.1
    have hFL : (hlF.length : Int) ≤ 1000 := by have := HOE.out.len; have := HIE.out.few; have := HLEN.out; omega
    obtain ⟨kc, hkc⟩ := (refcheck_ev E (by have := HIE.out.ok.wl; omega) (by have := HIE.out.ok.ml; omega)).rounds
    rw [(okD_iff E).2 HIE.out.ok] at hkc
    have HKC : Aside0 (squelchref18_Check.f kc E.s E.e E.h E.p E.u E.l E.n E.wait E.mem = some 0) := aM hkc
    clear hG7 hF7 hB7 hR7 hkc HO0 HO1 HO2 HB5 HF5 HB6 HF6 BK7 SZ56 hsz hgm5 hg45 HY
    go_loopg [11, 41] E.out.length (fun kx s11 s41 ws => ∃ (j : Nat) (g : Int) (hlj : List Int), s11 = .int .i64 g ∧ s41 = .int .i64 j ∧ j ≤ E.out.length ∧ E.out.length - j ≤ kx ∧ Aside0 (Below w.heap.size w ws) ∧ Aside0 (FOS ws (fun k => k ≠ gm ∧ k ≠ g4) g4 gm w.heap.size D (.slice A7' D.wait.length c7') (.slice A8' D.mem.length c8') hlj) ∧ Aside0 (FOS ws (fun k => k ≠ gm ∧ k ≠ g4 ∧ k ≠ g8) g8 gm w.heap.size E (.slice A7n E.wait.length c7n) (.slice A8n E.mem.length c8n) hlj) ∧ Aside0 (Kd.R k38 38 ws w5.heap.size (fun k => k ≠ gm) (.slice A9n E.out.length c9n) E.out) ∧ Aside0 (procO hlj g (E.out.drop j) = some (hlF, gF)) ∧ Aside0 (0 ≤ g))
    case atStart => exact ⟨0, 0, hl, rfl, rfl, Nat.zero_le _, by omega, HB7, HF7, HG7, HR7, HPR, aM (Int.le_refl _)⟩
    case round =>
      clear HB7 HF7 HG7 HR7
      obtain ⟨j, g, hlj, rfl, rfl, hjl, hjk, HBS, HFS, HGS, HRS, HPS, HG0S⟩ := hrel
      have hpl := proc_len _ _ _ _ _ HPS.out
      have hgS := HG0S.out
      have hg1 := HG1.out
      by_cases hjt : j < E.out.length
      · have hjz : (j : Int) < (E.out.length : Int) := by omega
        have hj0 : (0 : Int) ≤ (j : Int) := by omega
        obtain ⟨ad9, hA9, hc0, hc1, hc2, hc3⟩ := at_T38 (Kd.R_reads' HRS.out).2.2 (j : Int) hj0 hjz
        subst hA9
        rw [rdO8 _ j hjt, Int.toNat_natCast] at hc0 hc1 hc2 hc3
        have hp := HPS.out
        rw [List.drop_eq_getElem_cons hjt, procO] at hp
        obtain ⟨x, hx⟩ : ∃ x, x = E.out[j] := ⟨_, rfl⟩
        rw [← hx] at hc0 hc1 hc2 hc3 hp
        have rj : IntKind.i64.wrap ((j : Int) + 1) = ((j + 1 : Nat) : Int) := by rw [IntKind.wrap_i64]; omega
        have rg : IntKind.i64.wrap (g + 1) = g + 1 := by rw [IntKind.wrap_i64]; omega
        have f5 : E.out.length - (j + 1) < gk := by omega
        have f6 : j + 1 ≤ E.out.length := by omega
        have HJ := aM (And.intro f5 f6)
        have HFA := aM (HFS.out.below (below_alloc (Below.refl _ wr) (.cells #[.int .i64 x.f0, .int .i64 x.f1, .int .i64 x.f2, .int .i64 x.f3] 38)))
        have HGA := aM (HGS.out.below (below_alloc (Below.refl _ wr) (.cells #[.int .i64 x.f0, .int .i64 x.f1, .int .i64 x.f2, .int .i64 x.f3] 38)))
        have HBA := aM (below_alloc HBS.out (.cells #[.int .i64 x.f0, .int .i64 x.f1, .int .i64 x.f2, .int .i64 x.f3] 38))
        have HRA := aM (Kd.R_below HRS.out (below_alloc (Below.refl _ wr) (.cells #[.int .i64 x.f0, .int .i64 x.f1, .int .i64 x.f2, .int .i64 x.f3] 38)))
        have hxs : ¬ (gm = wr.heap.size) := Nat.ne_of_lt (blk_lt HFS.out.map)
        clear hx f5 f6 hjk hjl HPS
        by_cases h5 : x.f0 = 5
        rotate_left
        · rw [if_neg h5] at hp
          have h5b : (x.f0 == 5) = false := by simpa using h5
          have h5c : (x.f0 != 5) = true := by simpa using h5
          have HP := aM hp
          clear hp h5
          go_wp2
          go_roundg (E.out.length - (j + 1))
          case measure => exact HJ.out.1
          case rel => exact ⟨j + 1, g, hlj, by first | rfl | (simp; done), by first | rfl | (simp [rj]; done), HJ.out.2, Nat.le_refl _, HBA, HFA, HGA, HRA, HP, HG0S⟩
        rw [if_pos h5] at hp
        have h5b : (x.f0 == 5) = true := by simpa using h5
        have h5c : (x.f0 != 5) = false := by simpa using h5
        clear h5
        have hlook := fun o => MapO.look (blk_alloc HFS.out.map o) x.f2 true
        by_cases hin : 1 ≤ x.f2 ∧ x.f2 ≤ (hlj.length : Int)
        · rw [if_pos hin] at hp
          by_cases heq : hold hlj x.f2 = x.f1
          rotate_left
          · rw [if_neg heq] at hp; exact absurd hp (by simp)
          rw [if_pos heq] at hp
          have HP := aM hp
          obtain ⟨w9, hrunp, hm9, hg9⟩ := MapO.put_same HFA.out.map x.f2 x.f1 hin heq.symm
          simp only [if_true, decide_eq_true hin, heq] at hlook
          have HF9 := aM (HFA.out.turned hg9 hm9)
          have HG9 := aM (HGA.out.turned hg9 hm9)
          have HR9 := aM (R_grownO HRA.out hg9 (fun k hk e => hk (Option.some.inj e)))
          have HB9 := aM (HBA.out.grown hg9 HBA.out.size (fun k hk => by injection hk with hk; subst hk; exact HFS.out.bm))
          clear hp hm9 hg9 heq hin
          go_wp2
          go_roundg (E.out.length - (j + 1))
          case measure => exact HJ.out.1
          case rel => exact ⟨j + 1, g, hlj, by first | rfl | (simp; done), by first | rfl | (simp [rj]; done), HJ.out.2, Nat.le_refl _, HB9, HF9, HG9, HR9, HP, HG0S⟩
        · rw [if_neg hin] at hp
          by_cases heq : x.f2 = (hlj.length : Int) + 1
          rotate_left
          · rw [if_neg heq] at hp; exact absurd hp (by simp)
          rw [if_pos heq] at hp
          have HP := aM hp
          obtain ⟨w9, hrunp, hm9, hg9⟩ := MapO.put_new HFA.out.map x.f1
          rw [← heq] at hrunp
          simp only [if_true, decide_eq_false hin] at hlook
          have hlm := fun o ty => MapO.len (blk_alloc HFS.out.map o) ty
          have hwm : IntKind.i64.wrap ((hlj.length : Int) + 1) = x.f2 := by rw [IntKind.wrap_i64]; omega
          have HF9 := aM (HFA.out.turned hg9 hm9)
          have HG9 := aM (HGA.out.turned hg9 hm9)
          have HR9 := aM (R_grownO HRA.out hg9 (fun k hk e => hk (Option.some.inj e)))
          have HB9 := aM (HBA.out.grown hg9 HBA.out.size (fun k hk => by injection hk with hk; subst hk; exact HFS.out.bm))
          have HGP := aM (show (0 : Int) ≤ g + 1 by omega)
          clear hp hm9 hg9 heq hin
          go_wp2
          go_roundg (E.out.length - (j + 1))
          case measure => exact HJ.out.1
          case rel => exact ⟨j + 1, g + 1, hlj ++ [x.f1], by first | rfl | (simp [rg]; done), by first | rfl | (simp [rj]; done), HJ.out.2, Nat.le_refl _, HB9, HF9, HG9, HR9, HP, HGP⟩
      · have hp := HPS.out
        rw [List.drop_eq_nil_of_le (by omega), procO] at hp
        obtain ⟨e1, e2⟩ := Prod.mk.inj (Option.some.inj hp)
        subst e1
        subst e2
        have hjz : ¬ ((j : Int) < (E.out.length : Int)) := by omega
        clear hp hjt hjl hjk HPS
        have HEL := aM HOE.out.len
        have hgb : decide (1 < g) = false := decide_eq_false (by omega)
        clear hpl hgS hg1 hFL hOL
        obtain ⟨hx0, hx1, hx2, hx3, hx4, hx5, hx6, hx7, hx8⟩ := cells9 HGS.out.blk
        by_cases hs : E.s = 0
        · have hsb : (E.s == 0) = true := by simpa using hs
          have hsc : (E.s != 0) = false := by simpa using hs
          clear hs
          go_wp2_with (go_at_call 15; refine (squelchref18_Check.calls kc E.s E.e E.h E.p E.u E.l E.n A7n c7n E.wait A8n c8n E.mem 0 _ (Kd.V_reads' HGS.out.wait).2.2 (Kd.V_reads' HGS.out.wait).2.1 (Kd.V_reads' HGS.out.mem).2.2 (Kd.V_reads' HGS.out.mem).2.1 HKC.out).mono ?_; rintro e w10 ⟨rfl, hb⟩; have HB10 := aM (below_step HBS.out hb); have HF10 := aM (HFS.out.below hb); have HG10 := aM (HGS.out.below hb); clear hb hx0 hx1 hx2 hx3 hx4 hx5 hx6 hx7 hx8; obtain ⟨hy0, hy1, hy2, hy3, hy4, hy5, hy6, hy7, hy8⟩ := cells9 HG10.out.blk; obtain ⟨hz0, hz1, hz2, hz3, hz4, hz5, hz6, hz7, hz8⟩ := froz9 HF10.out.blk; obtain ⟨hq0, hq1, hq2, hq3, hq4, hq5, hq6, hq7, hq8⟩ := cells9 HF10.out.blk; have hlm : ∀ ty, (Builtin.len_ #[30] ty #[.map (some gm)]).run Try.prog w10 = .ok (.int .i64 E.e) w10 := fun ty => by rw [MapO.len HG10.out.map ty, HEL.out])
          go_roundg (l0.length - (i + 1))
          case measure => exact H56.out.1
          case rel => exact ⟨i + 1, E, hlj, _, _, by first | rfl | (simp [ri]; done), H56.out.2, Nat.le_refl _, aM (below_set (below_set (below_set (below_set (below_set (below_set (below_set (below_set (below_set HB10.out HF10.out.b4) HF10.out.b4) HF10.out.b4) HF10.out.b4) HF10.out.b4) HF10.out.b4) HF10.out.b4) HF10.out.b4) HF10.out.b4), aM ⟨blk_put9 HF10.out.blk, Kd.V_far9 (g := g4) (Kd.V_mono HG10.out.wait (ok' := fun k => k ≠ gm ∧ k ≠ g4) (fun k hk => ⟨hk.1, hk.2.1⟩)) (fun k hk => hk.2) (.int .i64 E.s) (.int .i64 E.e) (.int .i64 E.h) (.int .i64 E.p) (.int .i64 E.u) (.int .i64 E.l) (.int .i64 E.n) (.slice A7n E.wait.length c7n) (.slice A8n E.mem.length c8n), Kd.V_far9 (g := g4) (Kd.V_mono HG10.out.mem (ok' := fun k => k ≠ gm ∧ k ≠ g4) (fun k hk => ⟨hk.1, hk.2.1⟩)) (fun k hk => hk.2) (.int .i64 E.s) (.int .i64 E.e) (.int .i64 E.h) (.int .i64 E.p) (.int .i64 E.u) (.int .i64 E.l) (.int .i64 E.n) (.slice A7n E.wait.length c7n) (.slice A8n E.mem.length c8n), (map_far (map_far (map_far (map_far (map_far (map_far (map_far (map_far (map_far HG10.out.map HF10.out.ne) HF10.out.ne) HF10.out.ne) HF10.out.ne) HF10.out.ne) HF10.out.ne) HF10.out.ne) HF10.out.ne) HF10.out.ne), fun k hk => hk.1, HF10.out.ne, HF10.out.b4, HF10.out.bm⟩, aM ⟨by push_cast; exact HIE.out, HOE.out⟩⟩
        · have hsb : (E.s == 0) = false := by simpa using hs
          have hsc : (E.s != 0) = true := by simpa using hs
          have HHL := aM (HOE.out.last hs)
          clear hs
          go_wp2_with (fail)
          go_at_call 15
          refine (squelchref18_Check.calls kc E.s E.e E.h E.p E.u E.l E.n A7n c7n E.wait A8n c8n E.mem 0 _ (Kd.V_reads' HGS.out.wait).2.2 (Kd.V_reads' HGS.out.wait).2.1 (Kd.V_reads' HGS.out.mem).2.2 (Kd.V_reads' HGS.out.mem).2.1 HKC.out).mono ?_
          rintro e w10 ⟨rfl, hb⟩
          have HB10 := aM (below_step HBS.out hb)
          have HF10 := aM (HFS.out.below hb)
          have HG10 := aM (HGS.out.below hb)
          clear hb hx0 hx1 hx2 hx3 hx4 hx5 hx6 hx7 hx8
          obtain ⟨hy0, hy1, hy2, hy3, hy4, hy5, hy6, hy7, hy8⟩ := cells9 HG10.out.blk
          obtain ⟨hz0, hz1, hz2, hz3, hz4, hz5, hz6, hz7, hz8⟩ := froz9 HF10.out.blk
          obtain ⟨hq0, hq1, hq2, hq3, hq4, hq5, hq6, hq7, hq8⟩ := cells9 HF10.out.blk
          have hlm : ∀ ty, (Builtin.len_ #[30] ty #[.map (some gm)]).run Try.prog w10 = .ok (.int .i64 E.e) w10 := fun ty => by rw [MapO.len HG10.out.map ty, HEL.out]
          have hlk : (Instr.lookup 30 (.map (some gm)) (.int .i64 E.e) false).run Try.prog w10 = .ok (.int .i64 E.h) w10 := by (have q_ := MapO.look HG10.out.map E.e false; rw [HHL.out] at q_; exact q_)
          go_wp2
          go_roundg (l0.length - (i + 1))
          case measure => exact H56.out.1
          case rel => exact ⟨i + 1, E, hlj, _, _, by first | rfl | (simp [ri]; done), H56.out.2, Nat.le_refl _, aM (below_set (below_set (below_set (below_set (below_set (below_set (below_set (below_set (below_set HB10.out HF10.out.b4) HF10.out.b4) HF10.out.b4) HF10.out.b4) HF10.out.b4) HF10.out.b4) HF10.out.b4) HF10.out.b4) HF10.out.b4), aM ⟨blk_put9 HF10.out.blk, Kd.V_far9 (g := g4) (Kd.V_mono HG10.out.wait (ok' := fun k => k ≠ gm ∧ k ≠ g4) (fun k hk => ⟨hk.1, hk.2.1⟩)) (fun k hk => hk.2) (.int .i64 E.s) (.int .i64 E.e) (.int .i64 E.h) (.int .i64 E.p) (.int .i64 E.u) (.int .i64 E.l) (.int .i64 E.n) (.slice A7n E.wait.length c7n) (.slice A8n E.mem.length c8n), Kd.V_far9 (g := g4) (Kd.V_mono HG10.out.mem (ok' := fun k => k ≠ gm ∧ k ≠ g4) (fun k hk => ⟨hk.1, hk.2.1⟩)) (fun k hk => hk.2) (.int .i64 E.s) (.int .i64 E.e) (.int .i64 E.h) (.int .i64 E.p) (.int .i64 E.u) (.int .i64 E.l) (.int .i64 E.n) (.slice A7n E.wait.length c7n) (.slice A8n E.mem.length c8n), (map_far (map_far (map_far (map_far (map_far (map_far (map_far (map_far (map_far HG10.out.map HF10.out.ne) HF10.out.ne) HF10.out.ne) HF10.out.ne) HF10.out.ne) HF10.out.ne) HF10.out.ne) HF10.out.ne) HF10.out.ne), fun k hk => hk.1, HF10.out.ne, HF10.out.b4, HF10.out.bm⟩, aM ⟨by push_cast; exact HIE.out, HOE.out⟩⟩
end Go.Proofs.Ytflfmpfmnhpbmaa.PA

