/- The map of what is wanted: each key with the time that it rings at, as the wheel's list says. -/
import Derived.Test.YtbgkmbghmhgajaaWu
import Derived.Maps.RangeWalk
import Derived.Maps.Views
set_option linter.unusedVariables false
set_option linter.unusedSimpArgs false
namespace Go.Proofs.Ytbgkmbghmhgajaa.WU
open Go.RowKit Go.Proofs.Ytbgkmbghmhgajaa.PA Go.Proofs.YtbgkmbghmhgajaaW.PrintWords Go.Proofs.YtbgkmbghmhgajaaW.PrintLast Go.Proofs.Ytbgkmbghmhgajaa.WT Go.Maps

/-! ### The map of what is wanted -/
theorem wo_any (p : Int) (l : List S33) (key : Int) (hne : key ≠ p) : metK (wo p l) key = metK l key := by
  unfold metK wo
  rw [List.any_filter]
  congr 1
  funext t
  by_cases e : t.f1 = p
  · have : (t.f1 == key) = false := by simp; omega
    simp [this]
  · simp [e]
theorem wo_any_same (p : Int) (l : List S33) : metK (wo p l) p = false := by
  unfold metK
  rw [List.any_eq_false]
  intro t ht
  have := wo_key p l t ht
  simpa using this
theorem wo_len (p : Int) (l : List S33) (h : l.Pairwise fun s t => s.f1 ≠ t.f1) : (wo p l).length + (if metK l p = true then 1 else 0) = l.length := by
  induction l with
  | nil => rfl
  | cons x r ih =>
    rw [List.pairwise_cons] at h
    have := ih h.2
    by_cases e : x.f1 = p
    · have hn : ∀ t ∈ r, t.f1 ≠ p := fun t ht q => h.1 t ht (by rw [e, q])
      have e1 : wo p (x :: r) = r := by
        have : wo p (x :: r) = wo p r := by unfold wo; rw [List.filter_cons, if_neg (by simp [e])]
        rw [this, wo_none p r hn]
      have e2 : metK (x :: r) p = true := by unfold metK; simp [e]
      rw [e1, e2, if_pos rfl, List.length_cons]
    · have e1 : wo p (x :: r) = x :: wo p r := by unfold wo; rw [List.filter_cons, if_pos (by simp [e])]
      have e2 : metK (x :: r) p = metK r p := by unfold metK; simp [e]
      rw [e1, e2, List.length_cons, List.length_cons]
      omega
structure Rel (D : DataW Unit) (l : List S33) : Prop where
  has : ∀ key : Int, Maps.has D (.int .i64 key) = metK l key
  at_ : ∀ t ∈ l, D.atKey (.int .i64 t.f1) (.lit (.int .i64 0)) = .lit (.int .i64 t.f0)
  size : Maps.size D = l.length
theorem key_ne {p q : Int} (h : p ≠ q) : Lit.int .i64 p ≠ Lit.int .i64 q := fun e => h (by injection e)
theorem pair_inj {l : List S33} (h : l.Pairwise fun s t => s.f1 ≠ t.f1) {s t : S33} (hs : s ∈ l) (ht : t ∈ l) (he : s.f1 = t.f1) : s = t := by
  obtain ⟨i, hi, rfl⟩ := List.mem_iff_getElem.1 hs
  obtain ⟨j, hj, rfl⟩ := List.mem_iff_getElem.1 ht
  have hp := List.pairwise_iff_getElem.1 h
  rcases Nat.lt_trichotomy i j with c | c | c
  · exact absurd he (hp i j hi hj c)
  · subst c; rfl
  · exact absurd he.symm (hp j i hj hi c)
theorem Rel.put {D : DataW Unit} {l r : List S33} (h : Rel D l) (hT : Maps.Tidy D) (hl : l.Pairwise fun s t => s.f1 ≠ t.f1) (hr : r.Pairwise fun s t => s.f1 ≠ t.f1) {p v : Int} (ho : wo p r = wo p l) (hm : (⟨v, p⟩ : S33) ∈ r) (hn : r.length = (wo p l).length + 1) : Rel (D.put (.int .i64 p) (.lit (.int .i64 v))) r := by
  have hmr : metK r p = true := List.any_eq_true.2 ⟨_, hm, by simp⟩
  refine ⟨fun key => ?_, fun t ht => ?_, ?_⟩
  · by_cases e : key = p
    · subst e
      rw [Maps.has_put_same hT.isMap (by simp [WideAt.IsKeyLit]), hmr]
    · rw [Maps.has_put_other (key_ne e), h.has, ← wo_any p r key e, ho, wo_any p l key e]
  · by_cases e : t.f1 = p
    · have : t = ⟨v, p⟩ := pair_inj hr ht hm e
      subst this
      exact Maps.atKey_put_same hT.isMap (by simp [WideAt.IsKeyLit]) _ _
    · have ht2 : t ∈ wo p r := List.mem_filter.2 ⟨ht, by simpa using e⟩
      rw [ho] at ht2
      rw [Maps.atKey_put_other (key_ne e), h.at_ t (List.mem_filter.1 ht2).1]
  · have hw := wo_len p l hl
    rw [Maps.size_put hT, h.has, h.size, hn]
    by_cases e : metK l p = true
    · rw [if_pos e] at hw ⊢; omega
    · rw [if_neg e] at hw ⊢; omega
theorem Rel.del {D : DataW Unit} {l : List S33} (h : Rel D l) (hT : Maps.Tidy D) (hl : l.Pairwise fun s t => s.f1 ≠ t.f1) (p : Int) : Rel (D.del (.int .i64 p)) (wo p l) := by
  refine ⟨fun key => ?_, fun t ht => ?_, ?_⟩
  · by_cases e : key = p
    · subst e
      rw [Maps.has_del_same, wo_any_same]
    · rw [Maps.has_del_other (key_ne e), h.has, wo_any p l key e]
  · rw [Maps.atKey_del_other (key_ne (wo_key p l t ht)), h.at_ t (List.mem_filter.1 ht).1]
  · have hw := wo_len p l hl
    have hs := Maps.size_del (k := .int .i64 p) hT
    rw [h.has, h.size] at hs
    by_cases e : metK l p = true
    · rw [if_pos e] at hw hs; omega
    · rw [if_neg e] at hw hs; omega
theorem rel_nil : Rel (.map []) [] := ⟨fun key => rfl, fun t ht => (by cases ht), rfl⟩
/-- Block b is a map of at most n entries: each key with its time. -/
def MapW (W : World) (b n : Nat) (l : List S33) : Prop := ∃ D : DataW Unit, W.ownsMap Try.prog 3 (plainElem Try.prog 3) b n D ∧ Rel D l
theorem zeroI (w : World) : (zeroValue 3).run Try.prog w = .ok (.int .i64 0) w := by kernel_rfl
theorem MapW.made (w : World) : MapW (w.alloc (.map #[] 0)) w.heap.size 0 [] := ⟨_, World.ownsMap_made _ _ _ _, rel_nil⟩
theorem MapW.kept {w w' : World} {b n : Nat} {l : List S33} {row : Option Nat} (h : MapW w b n l) (hg : w.grownBy w' row) (hne : some b ≠ row) : MapW w' b n l := by
  obtain ⟨D, h1, h2⟩ := h; exact ⟨D, h1.kept hg hne, h2⟩
theorem MapW.lt {w : World} {b n : Nat} {l : List S33} (h : MapW w b n l) : b < w.heap.size := by obtain ⟨D, h1, h2⟩ := h; exact h1.lt
theorem MapW.same {w w' : World} {b n : Nat} {l : List S33} (h : MapW w b n l) (hb : w'.heap[b]? = w.heap[b]?) : MapW w' b n l := by
  obtain ⟨D, ⟨es, clock, h1, h2⟩, h3⟩ := h
  exact ⟨D, ⟨es, clock, hb.trans h1, h2⟩, h3⟩
theorem MapW.below {w w' : World} {b n : Nat} {l : List S33} (h : MapW w b n l) (hb : Below w.heap.size w w') : MapW w' b n l := h.same (hb.block b h.lt)
theorem MapW.mono {w : World} {b n n' : Nat} {l : List S33} (h : MapW w b n l) (hn : n ≤ n') : MapW w b n' l := by obtain ⟨D, h1, h2⟩ := h; exact ⟨D, h1.mono hn, h2⟩
theorem MapW.look {w : World} {b n : Nat} {l : List S33} (h : MapW w b n l) {x : S33} (hx : x ∈ l) (hw : (Lit.int .i64 x.f1).wf = true) :
    (Instr.lookup 41 (.map (some b)) (.int .i64 x.f1) true).run Try.prog w = .ok (.tuple #[.int .i64 x.f0, .bool true]) w := by
  obtain ⟨D, h1, h2⟩ := h
  obtain ⟨v, ps, hrun, hv⟩ := h1.look_ok keyed3 Try.underlying41 (zeroI w) (zd := .lit (.int .i64 0)) (zp := []) (plainElem_int Try.underlying3 (by decide)) (keyOf_int_mk Try.underlying3 hw)
  rw [h2.at_ x hx] at hv
  obtain ⟨c, rfl, hc, _⟩ := plainElem_int_inv Try.underlying3 hv
  have hc2 := congrArg Prod.fst hc
  simp only [DataW.lit.injEq, Lit.int.injEq, true_and] at hc2
  rw [h2.has, show metK l x.f1 = true from List.any_eq_true.2 ⟨x, hx, by simp⟩, ← hc2] at hrun
  exact hrun
theorem MapW.len {w : World} {b n : Nat} {l : List S33} (h : MapW w b n l) (ty : TypeId) : (Builtin.len_ #[41] ty #[.map (some b)]).run Try.prog w = .ok (.int .i64 (l.length : Int)) w := by
  obtain ⟨D, h1, h2⟩ := h
  rw [h1.len Try.underlying41 ty, h2.size]
theorem MapW.drop {w : World} {b n : Nat} {l : List S33} (h : MapW w b n l) (hl : l.Pairwise fun s t => s.f1 ≠ t.f1) {p : Int} (hw : (Lit.int .i64 p).wf = true) (ty : TypeId) :
    ∃ w', (Builtin.delete_ #[41, 3] ty #[.map (some b), .int .i64 p]).run Try.prog w = .ok (.tuple #[]) w' ∧ MapW w' b n (wo p l) ∧ w.grownBy w' (some b) := by
  obtain ⟨D, h1, h2⟩ := h
  obtain ⟨w', hrun, h3, h4⟩ := h1.drop keyed3 Try.underlying41 (keyOf_int_mk Try.underlying3 hw) ty
  exact ⟨w', hrun, ⟨_, h3, h2.del (h1.tidy keyed3) hl p⟩, h4.grown⟩
theorem MapW.put {w : World} {b n : Nat} {l r : List S33} (h : MapW w b n l) (hl : l.Pairwise fun s t => s.f1 ≠ t.f1) (hr : r.Pairwise fun s t => s.f1 ≠ t.f1) {p v : Int} (ho : wo p r = wo p l) (hm : (⟨v, p⟩ : S33) ∈ r) (hlen : r.length = (wo p l).length + 1) (hn : n < maxLen) (hw : (Lit.int .i64 p).wf = true) (hv : (Lit.int .i64 v).wf = true) :
    ∃ w', (Instr.mapUpdate 41 (.map (some b)) (.int .i64 p) (.int .i64 v)).run Try.prog w = .ok () w' ∧ MapW w' b (n + 1) r ∧ w.grownBy w' (some b) := by
  obtain ⟨D, h1, h2⟩ := h
  obtain ⟨w', hrun, h3, h4⟩ := h1.store keyed3 Try.underlying41 hn (keyOf_int_mk Try.underlying3 hw) (val := .int .i64 v) (d := .lit (.int .i64 v)) (ps := []) (plainElem_int Try.underlying3 hv)
  exact ⟨w', hrun, ⟨_, h3, h2.put (h1.tidy keyed3) hl hr ho hm hlen⟩, h4.grown⟩
end Go.Proofs.Ytbgkmbghmhgajaa.WU
