/- The floor's desk, on with it: who waits is granted it, or nobody; who leaves, and waits no more; walked by hand. -/
import Derived.Test.YtflfmpfmnhpbmaaHDesk
import Derived.Test.YtflfmpfmnhpbmaaHDelF
namespace Go.Proofs.Ytflfmpfmnhpbmaa.PA
open Go.RowKit Go.Proofs.YtflfmpfmnhpbmaaW.PrintWords Go.Proofs.YtflfmpfmnhpbmaaW.PrintLast Go.Proofs.YtflfmpfmnhpbmaaW.PrintMore
set_option linter.unusedVariables false
set_option linter.unusedSimpArgs false

def onD (D : Dk) : Dk := match D.wait with
  | [] => tellD { D with s := 0, h := 0, p := 0, u := 0, l := 0 } 10 0 D.e 0
  | x :: r => grantD { D with wait := r } x.f0 x.f1
set_option maxHeartbeats 8000000 in
set_option maxRecDepth 100000 in
theorem on_none {W : World} {base gb : Nat} {D : Dk} {a : S32} {A : Option Addr} {c : Nat} {vm vo : Value} (h : Desk W base gb D a [] A c vm vo) (hw : D.wait = []) (hout : D.out.length ≤ 1000000) :
    Calls Try.prog 60 #[.pointer (some ⟨gb, 0, none⟩)] W fun e' w' => e' = .returned (.tuple #[]) ∧ (∃ vo', Desk w' base gb (onD D) a [] A c vm vo') ∧ Below base W w' := by
  have HD := Aside0.mk h
  have hc7 : W.cell? ⟨gb, 7, none⟩ = some (.slice A 0 c) := (blk_cell h.blk 7).trans (by rw [hw]; rfl)
  have hc0 : W.cell? ⟨gb, 0, none⟩ = some (.int .i64 D.s) := (blk_cell h.blk 0).trans rfl
  have hc2 : W.cell? ⟨gb, 2, none⟩ = some (.int .i64 D.h) := (blk_cell h.blk 2).trans rfl
  have hc3 : W.cell? ⟨gb, 3, none⟩ = some (.int .i64 D.p) := (blk_cell h.blk 3).trans rfl
  have hc4 : W.cell? ⟨gb, 4, none⟩ = some (.int .i64 D.u) := (blk_cell h.blk 4).trans rfl
  have hc5 : W.cell? ⟨gb, 5, none⟩ = some (.int .i64 D.l) := (blk_cell h.blk 5).trans rfl
  have hf0 := blk_frozen h.blk 0
  have hf2 := blk_frozen h.blk 2
  have hf3 := blk_frozen h.blk 3
  have hf4 := blk_frozen h.blk 4
  have hf5 := blk_frozen h.blk 5
  have hon : onD D = tellD { D with s := 0, h := 0, p := 0, u := 0, l := 0 } 10 0 D.e 0 := by unfold onD; rw [hw]
  rw [hon]
  have h5 := Desk.put (Desk.put (Desk.put (Desk.put (Desk.put h { D with s := 0 } 0 (.int .i64 0) rfl rfl rfl rfl) { D with s := 0, h := 0 } 2 (.int .i64 0) rfl rfl rfl rfl) { D with s := 0, h := 0, p := 0 } 3 (.int .i64 0) rfl rfl rfl rfl) { D with s := 0, h := 0, p := 0, u := 0 } 4 (.int .i64 0) rfl rfl rfl rfl) { D with s := 0, h := 0, p := 0, u := 0, l := 0 } 5 (.int .i64 0) rfl rfl rfl rfl
  have hB5 := ((((put_below (W := W) h.ge 0 (.int .i64 0)).trans (put_below h.ge 2 (.int .i64 0))).trans (put_below h.ge 3 (.int .i64 0))).trans (put_below h.ge 4 (.int .i64 0))).trans (put_below h.ge 5 (.int .i64 0))
  have HD5 := Aside0.mk h5
  have HB5 := Aside0.mk hB5
  have hc1 : W.cell? ⟨gb, 1, none⟩ = some (.int .i64 D.e) := (blk_cell h.blk 1).trans rfl
  clear h h5 hB5 hw hon
  go_enter Try.func60, Try.ntmps60
  go_wp2_with (go_at_call 54; refine (tell_calls HD5.out 10 0 D.e 0 hout).mono ?_; rintro e' w' ⟨rfl, hD, hB⟩)
  go_end0
  exact ⟨rfl, hD, HB5.out.trans hB⟩
set_option maxHeartbeats 8000000 in
set_option maxRecDepth 100000 in
theorem on_some {W : World} {base gb : Nat} {D : Dk} {a : S32} {A : Option Addr} {c : Nat} {vm vo : Value} (h : Desk W base gb D a [] A c vm vo) (x : S43) (r : List S43) (hw : D.wait = x :: r) (hout : D.out.length ≤ 1000000) (he0 : 0 ≤ D.e) (he1 : D.e ≤ 4398046511104) (hn0 : 0 ≤ D.n) (hn1 : D.n ≤ 4398046511104) :
    Calls Try.prog 60 #[.pointer (some ⟨gb, 0, none⟩)] W fun e' w' => e' = .returned (.tuple #[]) ∧ (∃ vo', Desk w' base gb (onD D) a [x] A c vm vo') ∧ Below base W w' := by
  have hon : onD D = grantD { D with wait := r } x.f0 x.f1 := by unfold onD; rw [hw]
  rw [hon]
  have hwt := h.wait
  rw [hw] at hwt
  have hlen : ([] ++ x :: r : List S43).length = r.length + 1 := rfl
  rw [hlen] at hwt
  obtain ⟨ad, rfl⟩ : ∃ ad, A = some ad := by
    obtain ⟨ad, e, _⟩ := (Kd.R_reads' hwt).2.2.2.2 (by simp)
    exact ⟨ad, e⟩
  obtain ⟨g, rfl⟩ := Kd.R_head hwt
  have hrc : r.length + 1 ≤ c := by
    have := (Kd.R_reads' hwt).2.1
    exact this
  obtain ⟨cs, hcs1, hcs2, hcs3, hcs4⟩ := Kd.R_elem hwt z43 (0 : Int) (by decide) (by omega)
  obtain rfl := k43_openM hcs2
  have hx0 : W.cell? ⟨g, 0, none⟩ = some (.int .i64 x.f0) := hcs3 0 _ rfl
  have hx1 : W.cell? ⟨g, 1, none⟩ = some (.int .i64 x.f1) := hcs3 1 _ rfl
  clear hcs1 hcs2 hcs3 hcs4
  have hc7 : W.cell? ⟨gb, 7, none⟩ = some (.slice (some ⟨g, 0, none⟩) (r.length + 1) c) := (blk_cell h.blk 7).trans (by rw [hw]; rfl)
  have hf7 := blk_frozen h.blk 7
  have HD := Aside0.mk h
  have HW := Aside0.mk hw
  have HWT := Aside0.mk hwt
  have hL : r.length + 1 ≤ 9223372036854775807 := by
    have := (Kd.R_reads' hwt).2.2.2.1
    simpa using this
  have hz1 : (0 : Int) < ((r.length + 1 : Nat) : Int) := by omega
  have hz2 : (1 : Int) ≤ ((r.length + 1 : Nat) : Int) := by omega
  have hz3 : ((r.length + 1 : Nat) : Int) > 0 := by omega
  have hgl := blk_lt h.blk
  have hne : ¬ (gb = W.heap.size) := Nat.ne_of_lt hgl
  have hne2 : ¬ (W.heap.size = gb) := fun e => hne e.symm
  have hcA : ∀ o, (W.alloc o).cell? ⟨gb, 7, none⟩ = some (.slice (some ⟨g, 0, none⟩) (r.length + 1) c) := fun o => ((below_alloc (Below.refl _ W) o).cell hgl).trans hc7
  have hfA : ∀ o, (W.alloc o).frozen? ⟨gb, 7, none⟩ = false := fun o => blk_frozen (blk_below h.blk (below_alloc (Below.refl _ W) o)) 7
  have hD1 : Desk (W.setCell ⟨gb, 7, none⟩ (waitV (some ⟨g, 0, none⟩) c [x] r)) base gb { D with wait := r } a [x] (some ⟨g, 0, none⟩) c vm vo := by
    refine ⟨blk_put h.blk 7 _ rfl, ?_, Kd.R_set h.mem h.blk (by decide) 7 _, Kd.R_set h.out h.blk (by decide) 7 _, h.ge, by simpa using h.size⟩
    have h3 := Kd.R_set h.wait h.blk (by decide) 7 (waitV (some ⟨g, 0, none⟩) c [x] r)
    rw [hw] at h3
    exact h3
  have hD2 := fun o => Desk.below hD1 (below_alloc (Below.refl _ _) o)
  have hB2 := fun o => (put_below (W := W) h.ge 7 (waitV (some ⟨g, 0, none⟩) c [x] r)).trans ((below_alloc (Below.refl _ (W.setCell ⟨gb, 7, none⟩ (waitV (some ⟨g, 0, none⟩) c [x] r))) o).mono hD1.size)
  have HD2 := Aside0.mk hD2
  have HB2 := Aside0.mk hB2
  clear h hw hwt hon hlen hD1 hD2 hB2
  by_cases hc1 : c = 1
  · have hv : waitV (some ⟨g, 0, none⟩) c [x] r = .slice (some ⟨g, 0, none⟩) r.length (c - 1) := by
      show Value.slice (if c = 1 then some ⟨g, 0, none⟩ else some ((⟨g, 0, none⟩ : Addr).add (1 * 2))) r.length (c - 1) = _
      rw [if_pos hc1]
    rw [hv] at HD2 HB2
    subst hc1
    obtain rfl : r = [] := List.eq_nil_of_length_eq_zero (by omega)
    go_enter Try.func60, Try.ntmps60
    go_wp2_with (go_at_call 57; refine (grant_calls (HD2.out _) x.f0 x.f1 hout he0 he1 hn0 hn1).mono ?_; rintro e' w' ⟨rfl, hD, hB⟩)
    first | go_end0 | (refine bodyPost_ret (results_none rfl _ _ _) rfl ?_)
    exact ⟨rfl, hD, (HB2.out _).trans hB⟩
  · have hv : waitV (some ⟨g, 0, none⟩) c [x] r = .slice (some ⟨g, 2, none⟩) r.length (c - 1) := by
      show Value.slice (if c = 1 then some ⟨g, 0, none⟩ else some ((⟨g, 0, none⟩ : Addr).add (1 * 2))) r.length (c - 1) = _
      rw [if_neg hc1]
      rfl
    rw [hv] at HD2 HB2
    have hcc : ¬ (1 = c) := fun h => hc1 h.symm
    go_enter Try.func60, Try.ntmps60
    go_wp2_with (go_at_call 57; refine (grant_calls (HD2.out _) x.f0 x.f1 hout he0 he1 hn0 hn1).mono ?_; rintro e' w' ⟨rfl, hD, hB⟩)
    first | go_end0 | (refine bodyPost_ret (results_none rfl _ _ _) rfl ?_)
    exact ⟨rfl, hD, (HB2.out _).trans hB⟩
theorem on_calls {W : World} {base gb : Nat} {D : Dk} {a : S32} {A : Option Addr} {c : Nat} {vm vo : Value} (h : Desk W base gb D a [] A c vm vo) (hout : D.out.length ≤ 1000000) (he0 : 0 ≤ D.e) (he1 : D.e ≤ 4398046511104) (hn0 : 0 ≤ D.n) (hn1 : D.n ≤ 4398046511104) :
    Calls Try.prog 60 #[.pointer (some ⟨gb, 0, none⟩)] W fun e' w' => e' = .returned (.tuple #[]) ∧ (∃ pre vo', Desk w' base gb (onD D) a pre A c vm vo') ∧ Below base W w' := by
  cases hw : D.wait with
  | nil =>
    refine (on_none h hw hout).mono ?_
    rintro e w' ⟨he, ⟨vo', hD⟩, hB⟩
    exact ⟨he, ⟨_, _, hD⟩, hB⟩
  | cons x r =>
    refine (on_some h x r hw hout he0 he1 hn0 hn1).mono ?_
    rintro e w' ⟨he, ⟨vo', hD⟩, hB⟩
    exact ⟨he, ⟨_, _, hD⟩, hB⟩
end Go.Proofs.Ytflfmpfmnhpbmaa.PA
