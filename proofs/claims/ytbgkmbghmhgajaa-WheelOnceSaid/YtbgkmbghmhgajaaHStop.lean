/- wheel.Stop: what is left when the timers of some keys are taken out; walked by hand (slices.DeleteFunc with a closure that has captured the keys). -/
import Derived.Test.YtbgkmbghmhgajaaPAx3
import Derived.Test.YtbgkmbghmhgajaaPAx15
import Derived.Test.YtbgkmbghmhgajaaHCheck
import Derived.Test.YtbgkmbghmhgajaaHDelF
import Derived.RegionTactic
import Derived.ChangeAlike
namespace Go.Proofs.Ytbgkmbghmhgajaa.PA
open Go.RowKit Go.Proofs.YtbgkmbghmhgajaaW.PrintWords Go.Proofs.YtbgkmbghmhgajaaW.PrintLast Go.Proofs.YtbgkmbghmhgajaaW.PrintMore
set_option linter.unusedVariables false
set_option linter.unusedSimpArgs false
/-- The timer's key is among those. -/
def inK (keys : List Int) (x : S33) : Bool := decide (x.f1 ∈ keys)
def wheel_Stop.f (k : Nat) (a0 : Int) (l : List S33) (keys : List Int) : Option (Int × (List S33) × Int × Int) :=
  (wheel_Check.f k a0 l).bind fun t => (if t = 0 then (if l.length < 8796093022208 then some (a0, l.filter (fun x => !inK keys x), ((l.length : Int) - ((l.filter (fun x => !inK keys x)).length : Int)), 0) else none) else some (0, [], 0, t))
theorem wheel_Stop.mono : ∀ a0 a1 a2 k, LeO (wheel_Stop.f k a0 a1 a2) (wheel_Stop.f (k + 1) a0 a1 a2) := by
  intro a0 a1 a2 k
  unfold wheel_Stop.f
  exact LeO.bind (wheel_Check.mono _ _ _) (fun _ => LeO.refl _)
theorem rdKey (l : List Int) (j : Nat) (h : j < l.length) : rd l (j : Int) = l[j] := by
  unfold rd
  rw [Int.toNat_natCast, List.getD_eq_getElem?_getD, List.getElem?_eq_getElem h]; rfl
theorem index_run (l : List Int) (key : Int) (hl : l.length ≤ 9223372036854775807) : ∀ (d i : Nat), i + d = l.length → ∃ r, slices_Index_int_int.l0 (d + 1) l key (l.length : Int) (i : Int) = some r ∧ decide (r ≥ 0) = decide (key ∈ l.drop i) := by
  intro d
  induction d with
  | zero =>
    intro i hi
    refine ⟨-1, by rw [slices_Index_int_int.l0, if_neg (by omega)], ?_⟩
    rw [List.drop_of_length_le (by omega)]
    rfl
  | succ d ih =>
    intro i hi
    have hil : i < l.length := by omega
    rw [slices_Index_int_int.l0, if_pos (by omega), if_pos (by omega), if_pos (by omega), rdKey l i hil]
    by_cases he : key = l[i]
    · exact ⟨(i : Int), by rw [if_pos he], by rw [decide_eq_true (by omega), decide_eq_true (by rw [he, List.drop_eq_getElem_cons hil]; exact List.mem_cons_self)]⟩
    · obtain ⟨r, h1, h2⟩ := ih (i + 1) (by omega)
      refine ⟨r, ?_, ?_⟩
      · rw [if_neg he, show wrap64 ((i : Int) + 1) = ((i + 1 : Nat) : Int) by unfold wrap64; omega]
        exact h1
      · rw [h2, List.drop_eq_getElem_cons hil]
        simp only [List.mem_cons, he, false_or]
theorem contains_run (l : List Int) (key : Int) (hl : l.length ≤ 9223372036854775807) : slices_Contains_int_int.f (l.length + 1) l key = some (decide (key ∈ l)) := by
  obtain ⟨r, h1, h2⟩ := index_run l key hl l.length 0 (Nat.zero_add _)
  unfold slices_Contains_int_int.f slices_Index_int_int.f
  rw [show ((0 : Int)) = ((0 : Nat) : Int) from rfl, h1, Option.bind_some]
  congr 1
theorem drawn_below {w w' : World} (h : Drawn0 w w') : Below w.heap.size w w' := by
  obtain ⟨n, rfl⟩ := h
  exact pw_below_drewN (Below.refl _ _) n
set_option maxHeartbeats 4000000 in
set_option maxRecDepth 100000 in
theorem clo27 (W : World) (gb : Nat) (A1 : Option Addr) (c1 : Nat) (keys : List Int) (x : S33) (hb : W.heap[gb]? = some (.cells #[.slice A1 keys.length c1] 36 (0, 0))) (hC : Kd.C (Kd.int .i64) W A1 keys.length keys) (hc : keys.length ≤ c1) :
    Calls Try.prog 27 #[.agg #[.int .i64 x.f0, .int .i64 x.f1], .pointer (some ⟨gb, 0, none⟩)] W fun e w' => e = .returned (.bool (inK keys x)) ∧ Below W.heap.size W w' := by
  have hgl : gb < W.heap.size := blk_lt hb
  have hbA : ∀ o, (W.alloc o).cell? ⟨gb, 0, none⟩ = some (.slice A1 keys.length c1) := fun o => ((below_alloc (Below.refl _ W) o).cell hgl).trans (blk_cell hb 0)
  have hne : ¬ (gb = W.heap.size) := by omega
  have hcon := fun o => slices_Contains_int_int.calls (keys.length + 1) A1 c1 keys x.f1 _ (W.alloc o) (Kd.C_below hC (below_alloc (Below.refl _ W) o)) hc (contains_run keys x.f1 hC.2.1)
  have hB : ∀ o, Below W.heap.size W (W.alloc o) := fun o => below_alloc (Below.refl _ W) o
  rw [show decide (x.f1 ∈ keys) = inK keys x from rfl] at hcon
  generalize inK keys x = r at hcon ⊢
  have HCON := Aside0.mk hcon
  have HBB := Aside0.mk hB
  clear hcon hB hC hc hb
  go_enter Try.func27, Try.ntmps27
  go_wp2_with (go_at_call 28; refine (HCON.out _).mono ?_; rintro e w' ⟨rfl, hb2⟩)
  go_ret
  exact ⟨rfl, below_step (HBB.out _) (drawn_below hb2)⟩
theorem delF_any {w : World} {base n c : Nat} {A : Option Addr} {ok : Nat → Prop} {xs : List S33} (u : Value) (p : S33 → Bool) (HO : k33.R 33 w base ok (.slice A n c) xs) (hbase : base ≤ w.heap.size)
    (hcl : ∀ W', Below base w W' → ∀ x : S33, Calls Try.prog 27 #[.agg #[.int .i64 x.f0, .int .i64 x.f1], u] W' fun e w' => e = .returned (.bool (p x)) ∧ Below W'.heap.size W' w') :
    Calls Try.prog 26 #[.slice A n c, .func (.func 27) #[] #[u]] w fun e w' => ∃ v, e = .returned v ∧ k33.R 33 w' base ok v (xs.filter fun x => !p x) ∧ Below base w w' := by
  rcases A with _ | ad
  · obtain ⟨hn, hnc, hC⟩ := Kd.R_reads' HO
    have h0 : xs = [] := by
      rcases xs with _ | ⟨x, r⟩
      · rfl
      · obtain ⟨ad, e, _⟩ := hC.2.2 (by simp)
        cases e
    subst h0
    obtain rfl : n = 0 := hn
    have hidx := idxF w none c [] u p hC (fun W' hB x => hcl W' ⟨hB.os, hB.tape, hB.output, hB.size, fun k hk => hB.block k (Nat.lt_of_lt_of_le hk hbase)⟩ x)
    have HIX := Aside0.mk hidx
    have HO1 := Aside0.mk HO
    clear hidx hC HO hcl
    go_enter Try.func26, Try.ntmps26
    go_wp2_with (go_at_call 30; refine HIX.out.mono ?_; rintro e w1 ⟨rfl, hb1⟩)
    go_ret
    exact ⟨_, rfl, Kd.R_below HO1.out hb1, ⟨hb1.os, hb1.tape, hb1.output, hb1.size, fun k hk => hb1.block k (Nat.lt_of_lt_of_le hk hbase)⟩⟩
  · obtain ⟨g, rfl⟩ := Kd.R_head HO
    refine (delF u p HO hbase (fun W' hB _ x => hcl W' hB x)).mono ?_
    rintro e w' ⟨rfl, hR, hB, _⟩
    exact ⟨_, rfl, hR, hB⟩
set_option maxHeartbeats 8000000 in
set_option maxRecDepth 100000 in
theorem wheel_Stop.calls (k : Nat) (a0_0 : Int) (A0_1 : Option Addr) (c0_1 : Nat) (l0_1 : List S33) (A1 : Option Addr) (c1 : Nat) (l1 : List Int) (r1 : Int) (r2 : List S33) (r3 : Int) (r4 : Int) (w : World) (hr0_1 : Kd.C k33 w A0_1 l0_1.length l0_1) (hc0_1 : l0_1.length ≤ c0_1) (hr1 : Kd.C (Kd.int .i64) w A1 l1.length l1) (hc1 : l1.length ≤ c1) (h : wheel_Stop.f k a0_0 l0_1 l1 = some (r1, r2, r3, r4)) :
    Calls Try.prog 16 #[.agg #[.int .i64 a0_0, .slice A0_1 l0_1.length c0_1], .slice A1 l1.length c1] w fun e w' => ∃ v1_ : Value, e = .returned (.tuple #[.agg #[.int .i64 r1, v1_], .int .i64 r3, .int .i64 r4]) ∧ Kd.R k33 33 w' w.heap.size (fun _ => True) v1_ r2 ∧ Below w.heap.size w w' := by
  obtain ⟨t, hck, H⟩ := Option.bind_eq_some_iff.mp h
  have hu24 := Try.underlying24
  have HR0 := Aside0.mk hr0_1
  have HC0 := Aside0.mk hc0_1
  have HR1 := Aside0.mk hr1
  have HC1 := Aside0.mk hc1
  have HCK := Aside0.mk hck
  have HB := Aside0.mk (Below.refl w.heap.size w)
  have hlen : l0_1.length ≤ 9223372036854775807 := hr0_1.2.1
  clear hr0_1 hc0_1 hr1 hc1 hck h
  by_cases c : t = 0
  · subst c
    rw [if_pos rfl] at H
    by_cases hbig : l0_1.length < 8796093022208
    · rw [if_pos hbig] at H
      have hcln : api_Timer_19.f l0_1 = some l0_1 := by
        unfold api_Timer_19.f
        rw [Option.bind_some, if_pos (by simpa using hbig)]
        rfl
      have HCLN := Aside0.mk hcln
      have hfll := List.length_filter_le (fun x => !inK l1 x) l0_1
      obtain ⟨ys, hys⟩ : ∃ ys, ys = l0_1.filter (fun x => !inK l1 x) := ⟨_, rfl⟩
      rw [← hys] at H hfll
      obtain ⟨rfl, rfl, rfl, rfl⟩ : a0_0 = r1 ∧ ys = r2 ∧ ((l0_1.length : Int) - (ys.length : Int)) = r3 ∧ 0 = r4 := by simpa using H
      have HYS := Aside0.mk hys
      clear hys hcln H
      have hwr : IntKind.i64.wrap ((l0_1.length : Int) - (ys.length : Int)) = (l0_1.length : Int) - (ys.length : Int) := by rw [IntKind.wrap_i64]; omega
      go_enter Try.func16, Try.ntmps16
      go_wp2_with (first | ((with_reducible refine gate_dst (N := 2) rfl ?_); refine box_event ?hg (N := 2) ?hd (cs := #[.int .i64 a0_0, .slice A0_1 l0_1.length c0_1]) (t := 24) ?hr ?_; (case hd => rfl); (case hg => rfl); (case hr => first | (go_simp; done) | (go_simp; rfl)); intro g2 hg2 w2 hbox2 hb2; have BK2 := Aside0.mk hbox2; have HB2 := Aside0.mk (below_step HB.out hb2); have GE2 := Aside0.mk (show w.heap.size ≤ g2 by rw [hg2]; exact Nat.le_refl _); clear hbox2 hb2 hg2)  | ((with_reducible refine gate_dst (N := 3) rfl ?_); refine box_event ?hg (N := 3) ?hd (cs := #[.slice A1 l1.length c1]) (t := 36) ?hr ?_; (case hd => rfl); (case hg => rfl); (case hr => first | (go_simp; done) | (go_simp; rfl)); intro g3 hg3 w3 hbox3 hb3; have BK3 := Aside0.mk hbox3; have BK32 := Aside0.mk (blk_below BK2.out hb3); have HB3 := Aside0.mk (below_step HB2.out hb3); have GE3 := Aside0.mk (show w.heap.size ≤ g3 by rw [hg3]; exact HB2.out.size); have NE23 := Aside0.mk (show g2 ≠ g3 by rw [hg3]; exact Nat.ne_of_lt (blk_lt BK2.out)); clear hbox3 hb3 hg3)  | ((with_reducible refine gate_dst (N := 4) rfl ?_); refine box_event ?hg (N := 4) ?hd (cs := #[.int .i64 0, .slice none 0 0]) (t := 24) ?hr ?_; (case hd => rfl); (case hg => rfl); (case hr => first | (go_simp; done) | (go_simp; rfl)); intro g4 hg4 w4 hbox4 hb4; have BK4 := Aside0.mk hbox4; have BK42 := Aside0.mk (blk_below BK32.out hb4); have BK43 := Aside0.mk (blk_below BK3.out hb4); have HB4 := Aside0.mk (below_step HB3.out hb4); have GE4 := Aside0.mk (show w.heap.size ≤ g4 by rw [hg4]; exact HB3.out.size); have NE24 := Aside0.mk (show g2 ≠ g4 by rw [hg4]; exact Nat.ne_of_lt (blk_lt BK32.out)); have NE34 := Aside0.mk (show g3 ≠ g4 by rw [hg4]; exact Nat.ne_of_lt (blk_lt BK3.out)); clear hbox4 hb4 hg4; have hcz0 : w4.cell? ⟨g2, 0, none⟩ = some (.int .i64 a0_0) := (blk_cell BK42.out 0).trans rfl; have hcz1 : w4.cell? ⟨g2, 1, none⟩ = some (.slice A0_1 l0_1.length c0_1) := (blk_cell BK42.out 1).trans rfl)  | (go_at_call 18; (with_reducible refine (wheel_Check.calls k a0_0 _ _ l0_1 0 _ ?side1 ?side2 HCK.out).mono ?_); (case side1 => exact Kd.C_below HR0.out HB4.out); (case side2 => exact HC0.out); rintro e w5 ⟨rfl, hb5⟩; have BK52 := Aside0.mk (blk_below BK42.out hb5); have BK53 := Aside0.mk (blk_below BK43.out hb5); have BK54 := Aside0.mk (blk_below BK4.out hb5); have HB5 := Aside0.mk (below_step HB4.out hb5); clear hb5 hcz0 hcz1; have hcx0 : w5.cell? ⟨g2, 0, none⟩ = some (.int .i64 a0_0) := (blk_cell BK52.out 0).trans rfl; have hcx1 : w5.cell? ⟨g2, 1, none⟩ = some (.slice A0_1 l0_1.length c0_1) := (blk_cell BK52.out 1).trans rfl)  | (go_at_call 19; (with_reducible refine (api_Timer_19.calls _ _ l0_1 l0_1 _ ?side1 ?side2 HCLN.out).mono ?_); (case side1 => exact Kd.C_below HR0.out HB5.out); (case side2 => exact HC0.out); rintro e w6 ⟨v6, rfl, ho6, hb6⟩; obtain ⟨A6, c6, e6⟩ := Kd.R_slice ho6; subst e6; have BK62 := Aside0.mk (blk_below BK52.out hb6); have BK63 := Aside0.mk (blk_below BK53.out hb6); have BK64 := Aside0.mk (blk_below BK54.out hb6); have HB6 := Aside0.mk (below_step HB5.out hb6); have HO6 := Aside0.mk (Kd.R_lower ho6 HB5.out.size); have LT3 := Aside0.mk (blk_lt BK53.out); have HB56 := Aside0.mk hb6; have HO56 := Aside0.mk ho6; clear hb6 ho6 hcx0 hcx1)  | (go_at_call 26; refine (delF_any (base := w5.heap.size) _ (inK l1) HO56.out HB56.out.size (fun W' hW x => clo27 W' g3 A1 c1 l1 x ((hW.block g3 LT3.out).trans BK63.out) (Kd.C_below HR1.out (HB6.out.trans (hW.mono HB5.out.size))) HC1.out)).mono ?_; rintro e w7 ⟨v7, rfl, ho7, hb7⟩; obtain ⟨A7, c7, e7⟩ := Kd.R_slice ho7; subst e7; have BK72 := Aside0.mk ((hb7.block g2 (blk_lt BK52.out)).trans BK62.out); have BK74 := Aside0.mk ((hb7.block g4 (blk_lt BK54.out)).trans BK64.out); have HB7 := Aside0.mk (HB6.out.trans (hb7.mono HB5.out.size)); have HO7 := Aside0.mk (Kd.R_lower ho7 HB5.out.size); clear hb7 ho7; have hcv1 : w7.cell? ⟨g2, 1, none⟩ = some (.slice A0_1 l0_1.length c0_1) := (blk_cell BK72.out 1).trans rfl; have hfv1 := blk_frozen BK72.out 1))
      have e7 : (l0_1.filter fun x => !inK l1 x) = ys := HYS.out.symm
      rw [e7] at HO7 ⊢
      obtain ⟨w8, hw8⟩ : ∃ w8, w8 = w7.setCell ⟨g2, 1, none⟩ (.slice A7 ys.length c7) := ⟨_, rfl⟩
      rw [← hw8]
      have BK82 : w8.heap[g2]? = some (.cells #[.int .i64 a0_0, .slice A7 ys.length c7] 24 (0, 0)) := by rw [hw8]; exact blk_put BK72.out 1 _ rfl
      have BK84 : w8.heap[g4]? = some (.cells #[.int .i64 0, .slice none 0 0] 24 (0, 0)) := by rw [hw8]; exact blk_far BK74.out NE24.out.symm _
      have HB8 := Aside0.mk (show Below w.heap.size w w8 by rw [hw8]; exact below_set HB7.out GE2.out)
      have HO8 := Aside0.mk (show Kd.R k33 33 w8 w.heap.size (fun k => True ∧ k ≠ g2) (.slice A7 ys.length c7) ys by rw [hw8]; exact Kd.R_far (Kd.R_types HO7.out BK72.out (by decide)) (fun _ hk => hk.2) _)
      clear hw8 e7
      have h20 : w8.cell? ⟨g2, 0, none⟩ = some (.int .i64 a0_0) := (blk_cell BK82 0).trans rfl
      have h21 : w8.cell? ⟨g2, 1, none⟩ = some (.slice A7 ys.length c7) := (blk_cell BK82 1).trans rfl
      have h40 : w8.cell? ⟨g4, 0, none⟩ = some (.int .i64 0) := (blk_cell BK84 0).trans rfl
      have h41 : w8.cell? ⟨g4, 1, none⟩ = some (.slice none 0 0) := (blk_cell BK84 1).trans rfl
      have f40 := blk_frozen BK84 0
      have f41 := blk_frozen BK84 1
      have ne24 := NE24.out
      have ne42 := NE24.out.symm
      have BK84 := Aside0.mk BK84
      have BK82 := Aside0.mk BK82
      clear hcv1 hfv1
      go_region
      go_wp2
      refine bodyPost_ret (results_ctt rfl _ _ g4 24 #[.int .i64 a0_0, .slice A7 ys.length c7] (0, 0) _ rfl (blk_drew (blk_put (cs := #[.int .i64 a0_0, .slice none 0 0]) (blk_put (cs := #[.int .i64 0, .slice none 0 0]) BK84.out 0 _ rfl) 1 _ rfl)) Try.underlying24 rfl (by kernel_rfl)) rfl ?_
      exact ⟨_, rfl, Kd.R_mono (Kd.R_drew (Kd.R_far (p := ⟨g4, 1, none⟩) (Kd.R_far (p := ⟨g4, 0, none⟩) (Kd.R_types HO8.out BK84.out (by decide)) (fun _ hk => hk.2) _) (fun _ hk => hk.2) _)) (fun _ _ => trivial), below_drew1 (below_set (below_set HB8.out GE4.out) GE4.out)⟩
    · rw [if_neg hbig] at H
      cases H
  · rw [if_neg c] at H
    obtain ⟨rfl, rfl, rfl, rfl⟩ : 0 = r1 ∧ [] = r2 ∧ 0 = r3 ∧ t = r4 := by simpa using H
    have hcb : (t != 0) = true := by simpa using c
    clear c H
    go_enter Try.func16, Try.ntmps16
    go_wp2_with (first | ((with_reducible refine gate_dst (N := 2) rfl ?_); refine box_event ?hg (N := 2) ?hd (cs := #[.int .i64 a0_0, .slice A0_1 l0_1.length c0_1]) (t := 24) ?hr ?_; (case hd => rfl); (case hg => rfl); (case hr => first | (go_simp; done) | (go_simp; rfl)); intro g2 hg2 w2 hbox2 hb2; have BK2 := Aside0.mk hbox2; have HB2 := Aside0.mk (below_step HB.out hb2); have GE2 := Aside0.mk (show w.heap.size ≤ g2 by rw [hg2]; exact Nat.le_refl _); clear hbox2 hb2 hg2)  | ((with_reducible refine gate_dst (N := 3) rfl ?_); refine box_event ?hg (N := 3) ?hd (cs := #[.slice A1 l1.length c1]) (t := 36) ?hr ?_; (case hd => rfl); (case hg => rfl); (case hr => first | (go_simp; done) | (go_simp; rfl)); intro g3 hg3 w3 hbox3 hb3; have BK3 := Aside0.mk hbox3; have BK32 := Aside0.mk (blk_below BK2.out hb3); have HB3 := Aside0.mk (below_step HB2.out hb3); have GE3 := Aside0.mk (show w.heap.size ≤ g3 by rw [hg3]; exact HB2.out.size); have NE23 := Aside0.mk (show g2 ≠ g3 by rw [hg3]; exact Nat.ne_of_lt (blk_lt BK2.out)); clear hbox3 hb3 hg3)  | ((with_reducible refine gate_dst (N := 4) rfl ?_); refine box_event ?hg (N := 4) ?hd (cs := #[.int .i64 0, .slice none 0 0]) (t := 24) ?hr ?_; (case hd => rfl); (case hg => rfl); (case hr => first | (go_simp; done) | (go_simp; rfl)); intro g4 hg4 w4 hbox4 hb4; have BK4 := Aside0.mk hbox4; have BK42 := Aside0.mk (blk_below BK32.out hb4); have BK43 := Aside0.mk (blk_below BK3.out hb4); have HB4 := Aside0.mk (below_step HB3.out hb4); have GE4 := Aside0.mk (show w.heap.size ≤ g4 by rw [hg4]; exact HB3.out.size); have NE24 := Aside0.mk (show g2 ≠ g4 by rw [hg4]; exact Nat.ne_of_lt (blk_lt BK32.out)); have NE34 := Aside0.mk (show g3 ≠ g4 by rw [hg4]; exact Nat.ne_of_lt (blk_lt BK3.out)); clear hbox4 hb4 hg4; have hcz0 : w4.cell? ⟨g2, 0, none⟩ = some (.int .i64 a0_0) := (blk_cell BK42.out 0).trans rfl; have hcz1 : w4.cell? ⟨g2, 1, none⟩ = some (.slice A0_1 l0_1.length c0_1) := (blk_cell BK42.out 1).trans rfl)  | (go_at_call 18; (with_reducible refine (wheel_Check.calls k a0_0 _ _ l0_1 t _ ?side1 ?side2 HCK.out).mono ?_); (case side1 => exact Kd.C_below HR0.out HB4.out); (case side2 => exact HC0.out); rintro e w5 ⟨rfl, hb5⟩; have BK52 := Aside0.mk (blk_below BK42.out hb5); have BK53 := Aside0.mk (blk_below BK43.out hb5); have BK54 := Aside0.mk (blk_below BK4.out hb5); have HB5 := Aside0.mk (below_step HB4.out hb5); clear hb5 hcz0 hcz1; have hcy0 : w5.cell? ⟨g4, 0, none⟩ = some (.int .i64 0) := (blk_cell BK54.out 0).trans rfl; have hcy1 : w5.cell? ⟨g4, 1, none⟩ = some (.slice none 0 0) := (blk_cell BK54.out 1).trans rfl; have hfy0 := blk_frozen BK54.out 0; have hfy1 := blk_frozen BK54.out 1))
    refine bodyPost_ret (results_ctt rfl _ _ g4 24 #[.int .i64 0, .slice none 0 0] (0, 0) _ rfl (blk_put (cs := #[.int .i64 0, .slice none 0 0]) (blk_put (cs := #[.int .i64 0, .slice none 0 0]) BK54.out 0 _ rfl) 1 _ rfl) Try.underlying24 rfl (by kernel_rfl)) rfl ?_
    exact ⟨_, rfl, Kd.R_nil _ _ _ _ _, below_set (below_set HB5.out GE4.out) GE4.out⟩
end Go.Proofs.Ytbgkmbghmhgajaa.PA
