/- The floor's desk: what its methods make of it, told as a structure; walked by hand. -/
import Derived.Test.YtflfmpfmnhpbmaaPAx0

import Derived.RegionTactic
import Derived.ChangeAlike
import Derived.BigRegion
import Derived.Deep.QuietTactic
import Derived.BigQuiet
import Derived.StillTailTactics
namespace Go.Proofs.Ytflfmpfmnhpbmaa.PA
open Go.RowKit Go.Proofs.YtflfmpfmnhpbmaaW.PrintWords Go.Proofs.YtflfmpfmnhpbmaaW.PrintLast Go.Proofs.YtflfmpfmnhpbmaaW.PrintMore
set_option linter.unusedVariables false
set_option linter.unusedSimpArgs false

/-- A floor on a desk, and what was told. -/
structure Dk where
  s : Int
  e : Int
  h : Int
  p : Int
  u : Int
  l : Int
  n : Int
  wait : List S43
  mem : List Int
  out : List S38

/-- The slice of those who wait: behind those that were taken off the row's head. -/
def waitV (A : Option Addr) (c : Nat) : List S43 → List S43 → Value
  | [], wait => .slice A wait.length c
  | x :: r, wait => .slice (if c = (x :: r).length then A else A.map (·.add ((x :: r).length * 2))) wait.length (c - (x :: r).length)
def cellsD (D : Dk) (a : S32) (vw vm vo : Value) : Array Value :=
  #[.int .i64 D.s, .int .i64 D.e, .int .i64 D.h, .int .i64 D.p, .int .i64 D.u, .int .i64 D.l, .int .i64 D.n, vw, vm, .int .i64 a.f0, .int .i64 a.f1, .int .i64 a.f2, .int .i64 a.f3, .int .i64 a.f4, vo]
/-- The desk as it lies in memory. -/
structure Desk (W : World) (base gb : Nat) (D : Dk) (a : S32) (pre : List S43) (A : Option Addr) (c : Nat) (vm vo : Value) : Prop where
  blk : W.heap[gb]? = some (.cells (cellsD D a (waitV A c pre D.wait) vm vo) 56 (0, 0))
  wait : Kd.R k43 43 W base (fun _ => True) (.slice A (pre ++ D.wait).length c) (pre ++ D.wait)
  mem : Kd.R (Kd.int .i64) 3 W base (fun _ => True) vm D.mem
  out : Kd.R k38 38 W base (fun _ => True) vo D.out
  ge : base ≤ gb
  size : base ≤ W.heap.size

def tellD (D : Dk) (k w e p : Int) : Dk := { D with out := D.out ++ [⟨k, w, e, p⟩] }

theorem Desk.below {W W1 : World} {base gb : Nat} {D : Dk} {a : S32} {pre : List S43} {A : Option Addr} {c : Nat} {vm vo : Value} (h : Desk W base gb D a pre A c vm vo) (hb : Below W.heap.size W W1) : Desk W1 base gb D a pre A c vm vo :=
  ⟨blk_below h.blk hb, Kd.R_below h.wait hb, Kd.R_below h.mem hb, Kd.R_below h.out hb, h.ge, Nat.le_trans h.size hb.size⟩
/-- One cell of the desk's is written. -/
theorem Desk.put {W : World} {base gb : Nat} {D : Dk} {a : S32} {pre : List S43} {A : Option Addr} {c : Nat} {vm vo : Value} (h : Desk W base gb D a pre A c vm vo) (D' : Dk) (i : Nat) (u : Value)
    (he : (cellsD D a (waitV A c pre D.wait) vm vo).setIfInBounds i u = cellsD D' a (waitV A c pre D'.wait) vm vo) (h1 : D'.wait = D.wait) (h2 : D'.mem = D.mem) (h3 : D'.out = D.out) : Desk (W.setCell ⟨gb, i, none⟩ u) base gb D' a pre A c vm vo := by
  refine ⟨?_, ?_, ?_, ?_, h.ge, by simpa using h.size⟩
  · rw [← he]
    exact blk_set h.blk i u
  · rw [h1]; exact Kd.R_set h.wait h.blk (by decide) i u
  · rw [h2]; exact Kd.R_set h.mem h.blk (by decide) i u
  · rw [h3]; exact Kd.R_set h.out h.blk (by decide) i u
theorem put_below {W : World} {base gb : Nat} (hg : base ≤ gb) (i : Nat) (u : Value) : Below base W (W.setCell ⟨gb, i, none⟩ u) := (Below.refl base W).setCell hg _

set_option maxHeartbeats 4000000 in
set_option maxRecDepth 100000 in
theorem tell_calls {W : World} {base gb : Nat} {D : Dk} {a : S32} {pre : List S43} {A : Option Addr} {c : Nat} {vm vo : Value} (h : Desk W base gb D a pre A c vm vo) (k w e p : Int) (hout : D.out.length ≤ 1000000) :
    Calls Try.prog 54 #[.pointer (some ⟨gb, 0, none⟩), .int .i64 k, .int .i64 w, .int .i64 e, .int .i64 p] W fun e' w' => e' = .returned (.tuple #[]) ∧ (∃ vo', Desk w' base gb (tellD D k w e p) a pre A c vm vo') ∧ Below base W w' := by
  have HD := Aside0.mk h
  have hc14 : W.cell? ⟨gb, 14, none⟩ = some vo := (blk_cell h.blk 14).trans rfl
  clear h
  go_enter Try.func54, Try.ntmps54
  go_wp2_with (at_builtin; refine Kd.R_append k38 (w0 := W) base rfl (.tmp 14) (.tmp 20) 33 38 (.agg #[.int .i64 0, .int .i64 0, .int .i64 0, .int .i64 0]) 32 rfl Try.underlying33 info38 rfl (by decide) (by decide) vo D.out (⟨k, w, e, p⟩ : S38) [.int .i64 k, .int .i64 w, .int .i64 e, .int .i64 p] (fun _ => True) (fun _ => False) rfl (by first | (go_simp; done) | (go_simp; rfl)) (k38_mkM _ _ _ ⟨k, w, e, p⟩) (fun _ hk => hk.elim) (fun _ _ => trivial) HD.out.out (Below.refl _ _) HD.out.size (by omega) ?_; intro v1 w1 hR1 hB1 hg1 hat1; obtain ⟨A1, c1, e1⟩ := Kd.R_slice hR1; subst e1; rw [List.length_append] at hR1; have HR1 := Aside0.mk hR1; have HB1 := Aside0.mk hB1; have HG1 := Aside0.mk hg1; have BK1 := Aside0.mk (blk_grown HD.out.blk hg1 (Kd.R_ne HD.out.out HD.out.blk (by decide))); clear hR1 hB1 hg1 hat1; have hd14 : w1.cell? ⟨gb, 14, none⟩ = some vo := (blk_cell BK1.out 14).trans rfl; have hf14 := blk_frozen BK1.out 14)
  go_end0
  refine ⟨rfl, ⟨.slice A1 (D.out.length + 1) c1, ?_⟩, HB1.out.setCell HD.out.ge _⟩
  refine ⟨blk_put (cs := cellsD D a (waitV A c pre D.wait) vm vo) BK1.out 14 _ rfl, ?_, ?_, ?_, HD.out.ge, ?_⟩
  · exact Kd.R_set (Kd.R_over HD.out.wait HD.out.out (by decide) HG1.out) BK1.out (by decide) 14 _
  · exact Kd.R_set (Kd.R_over HD.out.mem HD.out.out (by decide) HG1.out) BK1.out (by decide) 14 _
  · exact Kd.R_set HR1.out BK1.out (by decide) 14 _
  · have := HB1.out.size
    have h2 := HD.out.size
    simp
    omega
def revokeD (D : Dk) : Dk := tellD { D with s := 2 } 8 D.h D.e 0
set_option maxHeartbeats 4000000 in
set_option maxRecDepth 100000 in
theorem revoke_calls {W : World} {base gb : Nat} {D : Dk} {a : S32} {pre : List S43} {A : Option Addr} {c : Nat} {vm vo : Value} (h : Desk W base gb D a pre A c vm vo) (hout : D.out.length ≤ 1000000) :
    Calls Try.prog 61 #[.pointer (some ⟨gb, 0, none⟩)] W fun e' w' => e' = .returned (.tuple #[]) ∧ (∃ vo', Desk w' base gb (revokeD D) a pre A c vm vo') ∧ Below base W w' := by
  have hc0 : W.cell? ⟨gb, 0, none⟩ = some (.int .i64 D.s) := (blk_cell h.blk 0).trans rfl
  have hf0 := blk_frozen h.blk 0
  have h1 := Desk.put h { D with s := 2 } 0 (.int .i64 2) rfl rfl rfl rfl
  have hB := put_below (W := W) h.ge 0 (.int .i64 2)
  obtain ⟨w1, hw1⟩ : ∃ w1, w1 = W.setCell ⟨gb, 0, none⟩ (.int .i64 2) := ⟨_, rfl⟩
  rw [← hw1] at h1 hB
  have HW1 := Aside0.mk hw1
  have HD := Aside0.mk h1
  have HB := Aside0.mk hB
  clear hw1 h hB h1
  go_enter Try.func61, Try.ntmps61
  go_wp2
  rw [← HW1.out]
  have hc1 : w1.cell? ⟨gb, 1, none⟩ = some (.int .i64 D.e) := (blk_cell HD.out.blk 1).trans rfl
  have hc2 : w1.cell? ⟨gb, 2, none⟩ = some (.int .i64 D.h) := (blk_cell HD.out.blk 2).trans rfl
  clear hc0 hf0
  go_still_tail 11, (by kernel_rfl)
  change wpList _ _ _ _ _ w1.drew
  have HD2 := Desk.below HD.out (below_drew1 (Below.refl _ _))
  have HB2 := below_drew1 HB.out
  generalize w1.drew = w2 at HD2 HB2 ⊢
  have HD3 := Aside0.mk HD2
  have HB3 := Aside0.mk HB2
  clear HD2 HB2 HD HB hc1 hc2 HW1
  go_wp2_with (go_at_call 54; refine (tell_calls HD3.out 8 D.h D.e 0 hout).mono ?_; rintro e' w' ⟨rfl, hD, hB⟩)
  go_end0
  exact ⟨rfl, hD, HB3.out.trans hB⟩
def grantD (D : Dk) (who prio : Int) : Dk := tellD { D with e := D.e + 1, s := 1, h := who, p := prio, u := D.n + 60, l := D.n + 12 } 5 who (D.e + 1) 0
set_option maxHeartbeats 8000000 in
set_option maxRecDepth 100000 in
theorem grant_calls {W : World} {base gb : Nat} {D : Dk} {a : S32} {pre : List S43} {A : Option Addr} {c : Nat} {vm vo : Value} (h : Desk W base gb D a pre A c vm vo) (who prio : Int) (hout : D.out.length ≤ 1000000) (he0 : 0 ≤ D.e) (he1 : D.e ≤ 4398046511104) (hn0 : 0 ≤ D.n) (hn1 : D.n ≤ 4398046511104) :
    Calls Try.prog 57 #[.pointer (some ⟨gb, 0, none⟩), .agg #[.int .i64 who, .int .i64 prio]] W fun e' w' => e' = .returned (.tuple #[]) ∧ (∃ vo', Desk w' base gb (grantD D who prio) a pre A c vm vo') ∧ Below base W w' := by
  have HD := Aside0.mk h
  clear h
  have re : IntKind.i64.wrap (D.e + 1) = D.e + 1 := by rw [IntKind.wrap_i64]; omega
  have rn1 : IntKind.i64.wrap (D.n + 60) = D.n + 60 := by rw [IntKind.wrap_i64]; omega
  have rn2 : IntKind.i64.wrap (D.n + 12) = D.n + 12 := by rw [IntKind.wrap_i64]; omega
  go_enter Try.func57, Try.ntmps57
  go_wp2_with ((with_reducible refine gate_dst (N := 3) rfl ?_); refine box_event ?hg (N := 3) ?hd (cs := #[.int .i64 who, .int .i64 prio]) (t := 43) ?hr ?_; (case hd => rfl); (case hg => rfl); (case hr => first | (go_simp; done) | (go_simp; rfl)); intro g3 hg3 w3 hbox3 hb3; have BK3 := Aside0.mk hbox3; have HD3 := Aside0.mk (Desk.below HD.out hb3); have HB3 := Aside0.mk (hb3.mono HD.out.size); have NE3 := Aside0.mk (show gb ≠ g3 by rw [hg3]; exact Nat.ne_of_lt (blk_lt HD.out.blk)); clear hbox3 hb3 hg3; have hc1 : w3.cell? ⟨gb, 1, none⟩ = some (.int .i64 D.e) := (blk_cell HD3.out.blk 1).trans rfl; have hf1 := blk_frozen HD3.out.blk 1)
  have h4 := Desk.put HD3.out { D with e := D.e + 1 } 1 (.int .i64 (D.e + 1)) rfl rfl rfl rfl
  have hB4 := HB3.out.trans (put_below (W := w3) HD.out.ge 1 (.int .i64 (D.e + 1)))
  have hk4 := blk_far BK3.out (p := ⟨gb, 1, none⟩) NE3.out.symm (.int .i64 (D.e + 1))
  generalize w3.setCell ⟨gb, 1, none⟩ (.int .i64 (D.e + 1)) = w4 at h4 hB4 hk4 ⊢
  have HD4 := Aside0.mk h4
  have HB4 := Aside0.mk hB4
  have BK4 := Aside0.mk hk4
  clear h4 hB4 hk4 hc1 hf1
  have hc0 : w4.cell? ⟨gb, 0, none⟩ = some (.int .i64 D.s) := (blk_cell HD4.out.blk 0).trans rfl
  have hc2 : w4.cell? ⟨gb, 2, none⟩ = some (.int .i64 D.h) := (blk_cell HD4.out.blk 2).trans rfl
  have hc3 : w4.cell? ⟨gb, 3, none⟩ = some (.int .i64 D.p) := (blk_cell HD4.out.blk 3).trans rfl
  have hf0 := blk_frozen HD4.out.blk 0
  have hf2 := blk_frozen HD4.out.blk 2
  have hf3 := blk_frozen HD4.out.blk 3
  have hd0 : w4.cell? ⟨g3, 0, none⟩ = some (.int .i64 who) := (blk_cell BK4.out 0).trans rfl
  have hd1 : w4.cell? ⟨g3, 1, none⟩ = some (.int .i64 prio) := (blk_cell BK4.out 1).trans rfl
  have ne1 := NE3.out
  have ne2 := NE3.out.symm
  go_region
  have h5 := Desk.below (Desk.put (Desk.put (Desk.put HD4.out { D with e := D.e + 1, s := 1 } 0 (.int .i64 1) rfl rfl rfl rfl) { D with e := D.e + 1, s := 1, h := who } 2 (.int .i64 who) rfl rfl rfl rfl) { D with e := D.e + 1, s := 1, h := who, p := prio } 3 (.int .i64 prio) rfl rfl rfl rfl) (below_drew1 (Below.refl _ _))
  have hB5 := below_drew1 (((HB4.out.trans (put_below HD.out.ge 0 (.int .i64 1))).trans (put_below HD.out.ge 2 (.int .i64 who))).trans (put_below HD.out.ge 3 (.int .i64 prio)))
  have hk5 := blk_drew (blk_far (p := ⟨gb, 3, none⟩) (blk_far (p := ⟨gb, 2, none⟩) (blk_far (p := ⟨gb, 0, none⟩) BK4.out NE3.out.symm (.int .i64 1)) NE3.out.symm (.int .i64 who)) NE3.out.symm (.int .i64 prio))
  generalize (((w4.setCell ⟨gb, 0, none⟩ (.int .i64 1)).setCell ⟨gb, 2, none⟩ (.int .i64 who)).setCell ⟨gb, 3, none⟩ (.int .i64 prio)).drew = w5 at h5 hB5 hk5 ⊢
  have HD5 := Aside0.mk h5
  have HB5 := Aside0.mk hB5
  have BK5 := Aside0.mk hk5
  clear h5 hB5 hk5 hc0 hc2 hc3 hf0 hf2 hf3 hd0 hd1 HD4 HB4 BK4 HD3 HB3 BK3
  have hc6 : w5.cell? ⟨gb, 6, none⟩ = some (.int .i64 D.n) := (blk_cell HD5.out.blk 6).trans rfl
  have hc4 : w5.cell? ⟨gb, 4, none⟩ = some (.int .i64 D.u) := (blk_cell HD5.out.blk 4).trans rfl
  have hc5 : w5.cell? ⟨gb, 5, none⟩ = some (.int .i64 D.l) := (blk_cell HD5.out.blk 5).trans rfl
  have hf4 := blk_frozen HD5.out.blk 4
  have hf5 := blk_frozen HD5.out.blk 5
  go_wp2
  go_region
  have h6 := Desk.below (Desk.put (Desk.put HD5.out { D with e := D.e + 1, s := 1, h := who, p := prio, u := D.n + 60 } 4 (.int .i64 (D.n + 60)) rfl rfl rfl rfl) { D with e := D.e + 1, s := 1, h := who, p := prio, u := D.n + 60, l := D.n + 12 } 5 (.int .i64 (D.n + 12)) rfl rfl rfl rfl) (below_drew1 (Below.refl _ _))
  have hB6 := below_drew1 ((HB5.out.trans (put_below HD.out.ge 4 (.int .i64 (D.n + 60)))).trans (put_below HD.out.ge 5 (.int .i64 (D.n + 12))))
  have hk6 := blk_drew (blk_far (p := ⟨gb, 5, none⟩) (blk_far (p := ⟨gb, 4, none⟩) BK5.out NE3.out.symm (.int .i64 (D.n + 60))) NE3.out.symm (.int .i64 (D.n + 12)))
  generalize ((w5.setCell ⟨gb, 4, none⟩ (.int .i64 (D.n + 60))).setCell ⟨gb, 5, none⟩ (.int .i64 (D.n + 12))).drew = w6 at h6 hB6 hk6 ⊢
  have HD6 := Aside0.mk h6
  have HB6 := Aside0.mk hB6
  have BK6 := Aside0.mk hk6
  clear h6 hB6 hk6 hc6 hc4 hc5 hf4 hf5 HD5 HB5 BK5
  have hd0 : w6.cell? ⟨g3, 0, none⟩ = some (.int .i64 who) := (blk_cell BK6.out 0).trans rfl
  have hc1 : w6.cell? ⟨gb, 1, none⟩ = some (.int .i64 (D.e + 1)) := (blk_cell HD6.out.blk 1).trans rfl
  go_wp2
  go_still_tail 8, (by kernel_rfl)
  change wpList _ _ _ _ _ w6.drew
  have h7 := Desk.below HD6.out (below_drew1 (Below.refl _ _))
  have hB7 := below_drew1 HB6.out
  generalize w6.drew = w7 at h7 hB7 ⊢
  have HD7 := Aside0.mk h7
  have HB7 := Aside0.mk hB7
  clear h7 hB7 hd0 hc1 HD6 HB6 BK6
  go_wp2_with (go_at_call 54; refine (tell_calls HD7.out 5 who (D.e + 1) 0 hout).mono ?_; rintro e' w' ⟨rfl, hD, hB⟩)
  go_end0
  exact ⟨rfl, hD, HB7.out.trans hB⟩
end Go.Proofs.Ytflfmpfmnhpbmaa.PA
