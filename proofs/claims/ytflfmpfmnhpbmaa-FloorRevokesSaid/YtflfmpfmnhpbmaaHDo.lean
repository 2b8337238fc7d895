import Derived.Test.YtflfmpfmnhpbmaaHDoD
import Derived.Test.YtflfmpfmnhpbmaaHReq
import Derived.Test.YtflfmpfmnhpbmaaHJoin
import Derived.Test.YtflfmpfmnhpbmaaHRel
import Derived.Test.YtflfmpfmnhpbmaaHTick
import Derived.Test.YtflfmpfmnhpbmaaHCheck
/- floor.Do: what is asked, done; walked by hand. -/
namespace Go.Proofs.Ytflfmpfmnhpbmaa.PA
open Go.RowKit Go.Proofs.YtflfmpfmnhpbmaaW.PrintWords Go.Proofs.YtflfmpfmnhpbmaaW.PrintLast Go.Proofs.YtflfmpfmnhpbmaaW.PrintMore
set_option linter.unusedVariables false
set_option linter.unusedSimpArgs false
def DoPost (w : World) (r : Int × Int × Int × Int × Int × Int × Int × List S43 × List Int × List S38 × Int) (e' : Ending) (w' : World) : Prop :=
  ∃ v7_ v8_ v9_ : Value, e' = .returned (.tuple #[.agg #[.int .i64 r.1, .int .i64 r.2.1, .int .i64 r.2.2.1, .int .i64 r.2.2.2.1, .int .i64 r.2.2.2.2.1, .int .i64 r.2.2.2.2.2.1, .int .i64 r.2.2.2.2.2.2.1, v7_, v8_], v9_, .int .i64 r.2.2.2.2.2.2.2.2.2.2]) ∧ Kd.V k43 43 w' w.heap.size (fun k_ => (w.heap.size ≤ k_) ∧ some k_ ≠ (v8_ : Value).ownBlock ∧ some k_ ≠ (v9_ : Value).ownBlock) v7_ r.2.2.2.2.2.2.2.1 ∧ Kd.R (Kd.int .i64) 3 w' w.heap.size (fun k_ => (w.heap.size ≤ k_)) v8_ r.2.2.2.2.2.2.2.2.1 ∧ Kd.R k38 38 w' w.heap.size (fun k_ => (w.heap.size ≤ k_)) v9_ r.2.2.2.2.2.2.2.2.2.1 ∧ Below w.heap.size w w'
theorem do_err {w W : World} (hB : Below w.heap.size w W) : DoPost w (0, 0, 0, 0, 0, 0, 0, [], [], [], 1) (.returned (.tuple #[.agg #[.int .i64 0, .int .i64 0, .int .i64 0, .int .i64 0, .int .i64 0, .int .i64 0, .int .i64 0, .slice none 0 0, .slice none 0 0], .slice none 0 0, .int .i64 1])) W :=
  ⟨.slice none 0 0, .slice none 0 0, .slice none 0 0, rfl, Kd.R_V (base := w.heap.size) (Kd.R_nil k43 43 W w.heap.size _), Kd.R_nil _ _ _ _ _, Kd.R_nil _ _ _ _ _, hB⟩
/-- The desk's end: what lies in it is the answer. -/
theorem desk_V {W : World} {base gb : Nat} {D : Dk} {a : S32} {pre : List S43} {A : Option Addr} {c : Nat} {vm vo : Value} (h : Desk W base gb D a pre A c vm vo) :
    Kd.V k43 43 W base (fun k_ => (base ≤ k_) ∧ some k_ ≠ vm.ownBlock ∧ some k_ ≠ vo.ownBlock) (waitV A c pre D.wait) D.wait := by
  have h1 := Kd.R_apartR (Kd.R_apartR h.wait h.mem (by decide)) h.out (by decide)
  have h2 := Kd.R_mono (Kd.R_bound h1) (ok' := fun k_ => (base ≤ k_) ∧ some k_ ≠ vm.ownBlock ∧ some k_ ≠ vo.ownBlock) (fun k hk => ⟨hk.2.1, hk.1.1.2, hk.1.2⟩)
  have hn := (Kd.R_reads' h2).2.1
  have hF := Kd.R_F h2
  cases pre with
  | nil => exact ⟨A, c, rfl, by simpa using hn, hF⟩
  | cons x r =>
    have e : (x :: r ++ D.wait).drop (x :: r).length = D.wait := List.drop_left
    refine ⟨_, _, rfl, ?_, ?_⟩
    · rw [List.length_append] at hn; omega
    · refine Kd.F_imp hF (fun W' hC => ?_)
      have := Kd.C_drop (m := (x :: r).length) (c := c) hC (by rw [List.length_append]; omega) hn
      rw [e] at this
      exact this
theorem waitV_slice (A : Option Addr) (c : Nat) (pre l : List S43) : ∃ A' c', waitV A c pre l = .slice A' l.length c' := by
  cases pre with
  | nil => exact ⟨_, _, rfl⟩
  | cons x r => exact ⟨_, _, rfl⟩
theorem desk_far {W : World} {g7 g4 : Nat} {D : Dk} {a : S32} {pre : List S43} {A : Option Addr} {c : Nat} {vm vo : Value} (h : Desk W g7 g7 D a pre A c vm vo) (hl : g4 < g7) (i : Nat) (u : Value) : Desk (W.setCell ⟨g4, i, none⟩ u) g7 g7 D a pre A c vm vo :=
  ⟨blk_far h.blk (Nat.ne_of_gt hl) u, Kd.R_mono (Kd.R_far (p := ⟨g4, i, none⟩) (Kd.R_bound h.wait) (fun k hk => by have := hk.2.1; show k ≠ g4; omega) u) (fun _ _ => trivial), Kd.R_mono (Kd.R_far (p := ⟨g4, i, none⟩) (Kd.R_bound h.mem) (fun k hk => by have := hk.2.1; show k ≠ g4; omega) u) (fun _ _ => trivial), Kd.R_mono (Kd.R_far (p := ⟨g4, i, none⟩) (Kd.R_bound h.out) (fun k hk => by have := hk.2.1; show k ≠ g4; omega) u) (fun _ _ => trivial), h.ge, by simpa using h.size⟩
theorem wiB_iff {n m : Int} (h : wiB n m = true) : 0 ≤ n ∧ n ≤ m := by
  unfold wiB at h
  rw [Bool.and_eq_true] at h
  exact ⟨of_decide_eq_true h.1, of_decide_eq_true h.2⟩
theorem floorOk_bounds {s e h p u l n : Int} {wait : List S43} {mem : List Int} (hf : floorOk s e h p u l n wait mem = true) :
    (0 ≤ e ∧ e ≤ 1099511627776) ∧ (0 ≤ n ∧ n ≤ 1099511627776) ∧ (0 ≤ l ∧ l ≤ 2199023255552) ∧ mem.length ≤ 8 ∧ wait.length ≤ 4 ∧ mem.Pairwise (· < ·) := by
  unfold floorOk okA at hf
  simp only [Bool.and_eq_true] at hf
  obtain ⟨⟨⟨⟨⟨⟨⟨⟨⟨h1, h2⟩, h3⟩, h4⟩, h5⟩, h6⟩, h7⟩, h8⟩, _⟩, _⟩ := hf
  exact ⟨wiB_iff h2, wiB_iff h3, wiB_iff h5, of_decide_eq_true h6, of_decide_eq_true h7, (okM_rise mem 0 h8).1⟩
theorem do_good {w W : World} {g7 : Nat} {D : Dk} {a : S32} {pre : List S43} {A : Option Addr} {c : Nat} {vm vo : Value} (h : Desk W g7 g7 D a pre A c vm vo) (hg : w.heap.size ≤ g7) (hB : Below w.heap.size w W) :
    DoPost w (packD D) (.returned (.tuple #[.agg #[.int .i64 D.s, .int .i64 D.e, .int .i64 D.h, .int .i64 D.p, .int .i64 D.u, .int .i64 D.l, .int .i64 D.n, waitV A c pre D.wait, vm], vo, .int .i64 0])) W := by
  refine ⟨waitV A c pre D.wait, vm, vo, rfl, ?_, ?_, ?_, hB⟩
  · exact Kd.V_lower (Kd.V_mono (ok' := fun k_ => (w.heap.size ≤ k_) ∧ some k_ ≠ vm.ownBlock ∧ some k_ ≠ vo.ownBlock) (desk_V h) (fun k hk => ⟨Nat.le_trans hg hk.1, hk.2⟩)) hg
  · exact Kd.R_lower (Kd.R_mono (Kd.R_bound h.mem) (fun k hk => Nat.le_trans hg hk.2.1)) hg
  · exact Kd.R_lower (Kd.R_mono (Kd.R_bound h.out) (fun k hk => Nat.le_trans hg hk.2.1)) hg
set_option maxHeartbeats 16000000 in
set_option maxRecDepth 100000 in
/-- The desk is laid. -/
theorem do_head {s e h p u l n : Int} {A7 : Option Addr} {c7 : Nat} {wait : List S43} {A8 : Option Addr} {c8 : Nat} {mem : List Int} (a : S32) {w : World} (hr7 : Kd.C k43 w A7 wait.length wait) (hc7 : wait.length ≤ c7) (hr8 : Kd.C (Kd.int .i64) w A8 mem.length mem) (hc8 : mem.length ≤ c8) (hl7 : wait.length < 100000) (hl8 : mem.length < 100000)
    (res : Int × Int × Int × Int × Int × Int × Int × List S43 × List Int × List S38 × Int) (hres : res = if doOk s e h p u l n wait mem a = true then packD (doD ⟨s, e, h, p, u, l, n, wait, mem, []⟩ a) else (0, 0, 0, 0, 0, 0, 0, [], [], [], 1)) :
    Calls Try.prog 14 #[.agg #[.int .i64 s, .int .i64 e, .int .i64 h, .int .i64 p, .int .i64 u, .int .i64 l, .int .i64 n, .slice A7 wait.length c7, .slice A8 mem.length c8], .agg #[.int .i64 a.f0, .int .i64 a.f1, .int .i64 a.f2, .int .i64 a.f3, .int .i64 a.f4]] w (DoPost w res) := by
  have HRES := Aside0.mk hres
  clear hres
  have HR7 := Aside0.mk hr7
  have HC7 := Aside0.mk hc7
  have HR8 := Aside0.mk hr8
  have HC8 := Aside0.mk hc8
  have HB := Aside0.mk (Below.refl w.heap.size w)
  have hmm := @run_makeMap Try.prog
  clear hr7 hc7 hr8 hc8
  go_enter Try.func14, Try.ntmps14
  go_upto_region 1 with (first | ((with_reducible refine gate_dst (N := 2) rfl ?_); refine box_event ?hg (N := 2) ?hd (cs := #[.int .i64 s, .int .i64 e, .int .i64 h, .int .i64 p, .int .i64 u, .int .i64 l, .int .i64 n, .slice A7 wait.length c7, .slice A8 mem.length c8]) (t := 28) ?hr ?_; (case hd => rfl); (case hg => rfl); (case hr => first | (go_simp; done) | (go_simp; rfl)); intro g2 hg2 w2 hbox2 hb2; have BK2 := Aside0.mk hbox2; have HB2 := Aside0.mk (below_step HB.out hb2); clear hbox2 hb2 hg2) | ((with_reducible refine gate_dst (N := 3) rfl ?_); refine box_event ?hg (N := 3) ?hd (cs := #[.int .i64 a.f0, .int .i64 a.f1, .int .i64 a.f2, .int .i64 a.f3, .int .i64 a.f4]) (t := 32) ?hr ?_; (case hd => rfl); (case hg => rfl); (case hr => first | (go_simp; done) | (go_simp; rfl)); intro g3 hg3 w3 hbox3 hb3; have BK3 := Aside0.mk hbox3; have BK32 := Aside0.mk (blk_below BK2.out hb3); have HB3 := Aside0.mk (below_step HB2.out hb3); clear hbox3 hb3 hg3) | ((with_reducible refine gate_dst (N := 4) rfl ?_); refine box_event ?hg (N := 4) ?hd (cs := #[.int .i64 0, .int .i64 0, .int .i64 0, .int .i64 0, .int .i64 0, .int .i64 0, .int .i64 0, .slice none 0 0, .slice none 0 0]) (t := 28) ?hr ?_; (case hd => rfl); (case hg => rfl); (case hr => first | (go_simp; done) | (go_simp; rfl)); intro g4 hg4 w4 hbox4 hb4; have BK4 := Aside0.mk hbox4; have BK42 := Aside0.mk (blk_below BK32.out hb4); have BK43 := Aside0.mk (blk_below BK3.out hb4); have HB4 := Aside0.mk (below_step HB3.out hb4); have GE4 := Aside0.mk (show w.heap.size ≤ g4 by rw [hg4]; exact HB3.out.size); clear hbox4 hb4 hg4))
  (try simp only [Act.put, sA, sZ, sS])
  -- region 1
  obtain ⟨hx0, hx1, hx2, hx3, hx4, hx5, hx6, hx7, hx8⟩ := cells9 BK42.out
  obtain ⟨hy0, hy1, hy2, hy3, hy4⟩ := cells5 BK43.out
  have hcl7 : api_Waiter_32.f wait = some wait := by
    unfold api_Waiter_32.f
    rw [Option.bind_some, if_pos (by simp; omega)]
    rfl
  have hcl8 : slices_Clone_int_int.f mem = some mem := by
    unfold slices_Clone_int_int.f
    rw [Option.bind_some, if_pos (by simp; omega)]
    rfl
  have HCL7 := Aside0.mk hcl7
  have HCL8 := Aside0.mk hcl8
  clear hcl7 hcl8
  go_upto_region 2 with ((with_reducible refine gate_dst (N := 14) rfl ?_); refine box_event ?hg (N := 14) ?hd (cs := #[.int .i64 s, .int .i64 e, .int .i64 h, .int .i64 p, .int .i64 u, .int .i64 l, .int .i64 n, .slice A7 wait.length c7, .slice A8 mem.length c8, .int .i64 a.f0, .int .i64 a.f1, .int .i64 a.f2, .int .i64 a.f3, .int .i64 a.f4, .slice none 0 0]) (t := 56) ?hr ?_; (case hd => rfl); (case hg => rfl); (case hr => first | (go_simp; done) | (go_simp; rfl)); intro g7 hg7 w5 hbox5 hb5; have BK7 := Aside0.mk hbox5; have BK72 := Aside0.mk (blk_below BK42.out hb5); have BK73 := Aside0.mk (blk_below BK43.out hb5); have BK74 := Aside0.mk (blk_below BK4.out hb5); have HB5 := Aside0.mk (below_step HB4.out hb5); have GE7 := Aside0.mk (show w.heap.size ≤ g7 by rw [hg7]; exact HB4.out.size); have NE72 := Aside0.mk (show g2 ≠ g7 by rw [hg7]; exact Nat.ne_of_lt (blk_lt BK42.out)); have NE73 := Aside0.mk (show g3 ≠ g7 by rw [hg7]; exact Nat.ne_of_lt (blk_lt BK43.out)); have NE74 := Aside0.mk (show g4 ≠ g7 by rw [hg7]; exact Nat.ne_of_lt (blk_lt BK4.out)); have LT74 := Aside0.mk (show g4 < g7 by rw [hg7]; exact blk_lt BK4.out); clear hbox5 hb5 hg7)
  (try simp only [Act.put, sA, sZ, sS])
  clear hx0 hx1 hx2 hx3 hx4 hx5 hx6 hx7 hx8 hy0 hy1 hy2 hy3 hy4
  have hp7x : w5.cell? ⟨g2, 7, none⟩ = some (.slice A7 wait.length c7) := (blk_cell BK72.out 7).trans rfl
  have hp8x : w5.cell? ⟨g2, 8, none⟩ = some (.slice A8 mem.length c8) := (blk_cell BK72.out 8).trans rfl
  have hq7x : w5.cell? ⟨g7, 7, none⟩ = some (.slice A7 wait.length c7) := (blk_cell BK7.out 7).trans rfl
  have hq8x : w5.cell? ⟨g7, 8, none⟩ = some (.slice A8 mem.length c8) := (blk_cell BK7.out 8).trans rfl
  have hf7x := blk_frozen BK7.out 7
  have hf8x := blk_frozen BK7.out 8
  go_cut [7] (fun v7 wc => v7 = .pointer (some ⟨g7, 0, none⟩) ∧ ∃ (Aa : Option Addr) (ca : Nat) (Am : Option Addr) (cm : Nat), Aside0 (Desk wc g7 g7 ⟨s, e, h, p, u, l, n, wait, mem, []⟩ a [] Aa ca (.slice Am mem.length cm) (.slice none 0 0)) ∧ Aside0 (wc.heap[g2]? = some (.cells #[.int .i64 s, .int .i64 e, .int .i64 h, .int .i64 p, .int .i64 u, .int .i64 l, .int .i64 n, .slice A7 wait.length c7, .slice A8 mem.length c8] 28 (0, 0))) ∧ Aside0 (wc.heap[g3]? = some (.cells #[.int .i64 a.f0, .int .i64 a.f1, .int .i64 a.f2, .int .i64 a.f3, .int .i64 a.f4] 32 (0, 0))) ∧ Aside0 (wc.heap[g4]? = some (.cells #[.int .i64 0, .int .i64 0, .int .i64 0, .int .i64 0, .int .i64 0, .int .i64 0, .int .i64 0, .slice none 0 0, .slice none 0 0] 28 (0, 0))) ∧ Aside0 (Below w.heap.size w wc))
  case first =>
    go_region_with (first | (go_at_call 32; refine (api_Waiter_32.calls A7 c7 wait wait _ ?s1 HC7.out HCL7.out).mono ?_; (case s1 => first | exact Kd.C_below HR7.out HBm.out | exact Kd.C_drew (Kd.C_below HR7.out HB5.out)); rintro e' wa ⟨va, rfl, hr, hb⟩; obtain ⟨Aa, ca, ee⟩ := Kd.R_slice hr; subst ee; (first | (have HRa1 := Aside0.mk (Kd.R_lower hr (Nat.le_of_lt (blk_lt BKm7.out))); have HRm1 := Aside0.mk (Kd.R_below HRm.out hb); have BK71 := Aside0.mk (blk_below BKm7.out hb); have BK721 := Aside0.mk (blk_below BKm2.out hb); have BK731 := Aside0.mk (blk_below BKm3.out hb); have BK741 := Aside0.mk (blk_below BKm4.out hb); have HB1 := Aside0.mk (below_step HBm.out hb); clear hb hr; have hp7z : wa.cell? ⟨g2, 7, none⟩ = some (.slice A7 wait.length c7) := (blk_cell BK721.out 7).trans rfl; have hp8z : wa.cell? ⟨g2, 8, none⟩ = some (.slice A8 mem.length c8) := (blk_cell BK721.out 8).trans rfl; have hq7z : wa.cell? ⟨g7, 7, none⟩ = some (.slice A7 wait.length c7) := (blk_cell BK71.out 7).trans rfl; have hq8z : wa.cell? ⟨g7, 8, none⟩ = some (.slice A8 mem.length c8) := (blk_cell BK71.out 8).trans rfl; have hf7z := blk_frozen BK71.out 7; have hf8z := blk_frozen BK71.out 8) | (have HRa := Aside0.mk (Kd.R_lower hr (Nat.le_of_lt (blk_lt (blk_drew BK7.out)))); have BKa7 := Aside0.mk (blk_below (blk_drew BK7.out) hb); have BKa2 := Aside0.mk (blk_below (blk_drew BK72.out) hb); have BKa3 := Aside0.mk (blk_below (blk_drew BK73.out) hb); have BKa4 := Aside0.mk (blk_below (blk_drew BK74.out) hb); have HBa := Aside0.mk (below_step (below_drew1 HB5.out) hb); clear hb hr; have hp7y : wa.cell? ⟨g2, 7, none⟩ = some (.slice A7 wait.length c7) := (blk_cell BKa2.out 7).trans rfl; have hp8y : wa.cell? ⟨g2, 8, none⟩ = some (.slice A8 mem.length c8) := (blk_cell BKa2.out 8).trans rfl; have hq7y : wa.cell? ⟨g7, 7, none⟩ = some (.slice A7 wait.length c7) := (blk_cell BKa7.out 7).trans rfl; have hq8y : wa.cell? ⟨g7, 8, none⟩ = some (.slice A8 mem.length c8) := (blk_cell BKa7.out 8).trans rfl; have hf7y := blk_frozen BKa7.out 7; have hf8y := blk_frozen BKa7.out 8))) | (go_at_call 33; refine (slices_Clone_int_int.calls A8 c8 mem mem _ ?s1 HC8.out HCL8.out).mono ?_; (case s1 => first | exact Kd.C_below HR8.out HBa.out | exact Kd.C_drew (Kd.C_below HR8.out HB5.out)); rintro e' wm ⟨vm, rfl, hr, hb⟩; obtain ⟨Am, cm, ee⟩ := Kd.R_slice hr; subst ee; (first | (have HRm1 := Aside0.mk (Kd.R_lower hr (Nat.le_of_lt (blk_lt BKa7.out))); have HRa1 := Aside0.mk (Kd.R_below HRa.out hb); have BK71 := Aside0.mk (blk_below BKa7.out hb); have BK721 := Aside0.mk (blk_below BKa2.out hb); have BK731 := Aside0.mk (blk_below BKa3.out hb); have BK741 := Aside0.mk (blk_below BKa4.out hb); have HB1 := Aside0.mk (below_step HBa.out hb); clear hb hr; have hp7z : wm.cell? ⟨g2, 7, none⟩ = some (.slice A7 wait.length c7) := (blk_cell BK721.out 7).trans rfl; have hp8z : wm.cell? ⟨g2, 8, none⟩ = some (.slice A8 mem.length c8) := (blk_cell BK721.out 8).trans rfl; have hq7z : wm.cell? ⟨g7, 7, none⟩ = some (.slice A7 wait.length c7) := (blk_cell BK71.out 7).trans rfl; have hq8z : wm.cell? ⟨g7, 8, none⟩ = some (.slice A8 mem.length c8) := (blk_cell BK71.out 8).trans rfl; have hf7z := blk_frozen BK71.out 7; have hf8z := blk_frozen BK71.out 8) | (have HRm := Aside0.mk (Kd.R_lower hr (Nat.le_of_lt (blk_lt (blk_drew BK7.out)))); have BKm7 := Aside0.mk (blk_below (blk_drew BK7.out) hb); have BKm2 := Aside0.mk (blk_below (blk_drew BK72.out) hb); have BKm3 := Aside0.mk (blk_below (blk_drew BK73.out) hb); have BKm4 := Aside0.mk (blk_below (blk_drew BK74.out) hb); have HBm := Aside0.mk (below_step (below_drew1 HB5.out) hb); clear hb hr; have hp7y : wm.cell? ⟨g2, 7, none⟩ = some (.slice A7 wait.length c7) := (blk_cell BKm2.out 7).trans rfl; have hp8y : wm.cell? ⟨g2, 8, none⟩ = some (.slice A8 mem.length c8) := (blk_cell BKm2.out 8).trans rfl; have hq7y : wm.cell? ⟨g7, 7, none⟩ = some (.slice A7 wait.length c7) := (blk_cell BKm7.out 7).trans rfl; have hq8y : wm.cell? ⟨g7, 8, none⟩ = some (.slice A8 mem.length c8) := (blk_cell BKm7.out 8).trans rfl; have hf7y := blk_frozen BKm7.out 7; have hf8y := blk_frozen BKm7.out 8))))
    all_goals
      have bk1 := blk_set BK71.out 7 (.slice Aa wait.length ca)
      have hDk : Desk ((wm.setCell ⟨g7, 7, none⟩ (.slice Aa wait.length ca)).setCell ⟨g7, 8, none⟩ (.slice Am mem.length cm)) g7 g7 ⟨s, e, h, p, u, l, n, wait, mem, []⟩ a [] Aa ca (.slice Am mem.length cm) (.slice none 0 0) :=
        ⟨blk_set bk1 8 _, Kd.R_set (Kd.R_set HRa1.out BK71.out (by decide) 7 _) bk1 (by decide) 8 _, Kd.R_set (Kd.R_set HRm1.out BK71.out (by decide) 7 _) bk1 (by decide) 8 _, Kd.R_nil _ _ _ _ _, Nat.le_refl _, Nat.le_of_lt (blk_lt (blk_set bk1 8 (.slice Am mem.length cm)))⟩
      have HDK := Aside0.mk hDk
      have HK2 := Aside0.mk (blk_far (p := ⟨g7, 8, none⟩) (blk_far (p := ⟨g7, 7, none⟩) BK721.out NE72.out (.slice Aa wait.length ca)) NE72.out (.slice Am mem.length cm))
      have HK3 := Aside0.mk (blk_far (p := ⟨g7, 8, none⟩) (blk_far (p := ⟨g7, 7, none⟩) BK731.out NE73.out (.slice Aa wait.length ca)) NE73.out (.slice Am mem.length cm))
      have HK4 := Aside0.mk (blk_far (p := ⟨g7, 8, none⟩) (blk_far (p := ⟨g7, 7, none⟩) BK741.out NE74.out (.slice Aa wait.length ca)) NE74.out (.slice Am mem.length cm))
      have HK1 := Aside0.mk (HB1.out.trans ((put_below (W := wm) GE7.out 7 (.slice Aa wait.length ca)).trans (put_below GE7.out 8 (.slice Am mem.length cm))))
      clear bk1 hDk
      go_wp2
      go_meet
      case rel => exact ⟨rfl, Aa, ca, Am, cm, HDK, HK2, HK3, HK4, HK1⟩
  case rest =>
    obtain ⟨rfl, Aa, ca, Am, cm, HD, BK2, BK3, BK4, HB9⟩ := hcut
    obtain ⟨W1, W2, W3, W4, W5, W6, r1, r2, r3, r4, r5, r6, hm6, hg6⟩ := six_put (heap_alloc_new wc (.map #[] 0)) (.func (.func 34) #[.pointer (some ⟨g7, 0, none⟩)] #[]) (.func (.func 35) #[.pointer (some ⟨g7, 0, none⟩)] #[]) (.func (.func 36) #[.pointer (some ⟨g7, 0, none⟩)] #[]) (.func (.func 37) #[.pointer (some ⟨g7, 0, none⟩)] #[]) (.func (.func 38) #[.pointer (some ⟨g7, 0, none⟩)] #[]) (.func (.func 39) #[.pointer (some ⟨g7, 0, none⟩)] #[])
    have hB6 : Below wc.heap.size wc W6 := (below_alloc (Below.refl _ wc) (.map #[] 0)).grown hg6 (by simp) (fun k hk => by injection hk with hk; subst hk; exact Nat.le_refl _)
    have HD6 := Aside0.mk (Desk.below HD.out hB6)
    have BK26 := Aside0.mk (blk_below BK2.out hB6)
    have BK36 := Aside0.mk (blk_below BK3.out hB6)
    have BK46 := Aside0.mk (blk_below BK4.out hB6)
    have HB6 := Aside0.mk (below_step HB9.out hB6)
    have HM6 := Aside0.mk hm6
    clear hm6 hg6 hB6
    obtain ⟨hx0, hx1, hx2, hx3, hx4, hx5, hx6, hx7, hx8⟩ := cells9 BK26.out
    obtain ⟨hy0, hy1, hy2, hy3, hy4⟩ := cells5 BK36.out
    obtain ⟨hz0, hz1, hz2, hz3, hz4, hz5, hz6, hz7, hz8⟩ := cells9 BK46.out
    obtain ⟨hf0, hf1, hf2, hf3, hf4, hf5, hf6, hf7, hf8⟩ := froz9 BK46.out
    have hnn : ∀ w, (binOp BinOp.neq 1 .nilFunc .nilFunc).run Try.prog w = .ok (.bool false) w := fun w => by kernel_rfl
    have hfn : ∀ (f : Nat) (w : World), (binOp BinOp.neq 1 (.func (.func f) #[.pointer (some ⟨g7, 0, none⟩)] #[]) .nilFunc).run Try.prog w = .ok (.bool true) w := fun f w => by kernel_rfl
    by_cases hnone : a.f0 < 1 ∨ 6 < a.f0
    · have hl := map_none HM6.out a.f0 (six_none _ _ _ _ _ _ a.f0 hnone)
      have t6 : (a.f0 == 6) = false := by simp; omega
      have t3 : (a.f0 == 3) = false := by simp; omega
      have HZ : Aside0 (res = (0, 0, 0, 0, 0, 0, 0, [], [], [], 1)) := Aside0.mk (by rw [HRES.out]; exact if_neg (by unfold doOk; rw [decide_eq_false (by omega)]; simp))
      clear hnone
      go_wp2
      first | (refine bodyPost_ret (results_ctt rfl _ _ g4 28 #[.int .i64 0, .int .i64 0, .int .i64 0, .int .i64 0, .int .i64 0, .int .i64 0, .int .i64 0, .slice none 0 0, .slice none 0 0] (0, 0) _ rfl (blk_put9 BK46.out) Try.underlying28 rfl (by kernel_rfl)) rfl ?_)
      rw [HZ.out]
      exact do_err (below_set (below_set (below_set (below_set (below_set (below_set (below_set (below_set (below_set HB6.out GE4.out) GE4.out) GE4.out) GE4.out) GE4.out) GE4.out) GE4.out) GE4.out) GE4.out)
    obtain ⟨hge, hle⟩ : 1 ≤ a.f0 ∧ a.f0 ≤ 6 := by omega
    have hrng : decide (1 ≤ a.f0 ∧ a.f0 ≤ 6) = true := decide_eq_true ⟨hge, hle⟩
    have HRNG := Aside0.mk hrng
    clear hrng hnone
    by_cases ha1 : a.f0 = 1
    · have hl := map_look HM6.out a.f0 0 (.func (.func 34) #[.pointer (some ⟨g7, 0, none⟩)] #[]) (by rw [ha1]; rfl)
      have hfn' := hfn 34
      have t6 : (a.f0 == 6) = false := by rw [ha1]; rfl
      have t3 : (a.f0 == 3) = false := by rw [ha1]; rfl
      have HA := Aside0.mk ha1
      clear ha1 hge hle hnn hfn
      cases fo : floorOk s e h p u l n wait mem with
      | false =>
        have HCHK : Aside0 (floor_Check.f 0 s e h p u l n wait mem = some 1) := Aside0.mk (by unfold floor_Check.f; rw [fo]; rfl)
        have HZ : Aside0 (res = (0, 0, 0, 0, 0, 0, 0, [], [], [], 1)) := Aside0.mk (by rw [HRES.out]; exact if_neg (by unfold doOk; rw [fo, Bool.and_false, Bool.false_and]; simp))
        go_wp2_with (go_at_call 26; refine (floor_Check.calls 0 s e h p u l n A7 c7 wait A8 c8 mem _ W6 (Kd.C_below HR7.out HB6.out) HC7.out (Kd.C_below HR8.out HB6.out) HC8.out HCHK.out).mono ?_; rintro e' w7 ⟨rfl, hb⟩; have BK37 := Aside0.mk (blk_below BK36.out hb); have BK27 := Aside0.mk (blk_below BK26.out hb); have BK47 := Aside0.mk (blk_below BK46.out hb); have HD7 := Aside0.mk (Desk.below HD6.out hb); have HB7 := Aside0.mk (below_step HB6.out hb); clear hb; clear hx0 hx1 hx2 hx3 hx4 hx5 hx6 hx7 hx8 hy0 hy1 hy2 hy3 hy4 hz0 hz1 hz2 hz3 hz4 hz5 hz6 hz7 hz8 hf0 hf1 hf2 hf3 hf4 hf5 hf6 hf7 hf8; obtain ⟨hx0, hx1, hx2, hx3, hx4, hx5, hx6, hx7, hx8⟩ := cells9 BK27.out; obtain ⟨hy0, hy1, hy2, hy3, hy4⟩ := cells5 BK37.out; obtain ⟨hz0, hz1, hz2, hz3, hz4, hz5, hz6, hz7, hz8⟩ := cells9 BK47.out; obtain ⟨hf0, hf1, hf2, hf3, hf4, hf5, hf6, hf7, hf8⟩ := froz9 BK47.out)
        first | (refine bodyPost_ret (results_ctt rfl _ _ g4 28 #[.int .i64 0, .int .i64 0, .int .i64 0, .int .i64 0, .int .i64 0, .int .i64 0, .int .i64 0, .slice none 0 0, .slice none 0 0] (0, 0) _ rfl (blk_put9 BK47.out) Try.underlying28 rfl (by kernel_rfl)) rfl ?_)
        rw [HZ.out]
        exact do_err (below_set (below_set (below_set (below_set (below_set (below_set (below_set (below_set (below_set HB7.out GE4.out) GE4.out) GE4.out) GE4.out) GE4.out) GE4.out) GE4.out) GE4.out) GE4.out)
      | true =>
        have HCHK : Aside0 (floor_Check.f 0 s e h p u l n wait mem = some 0) := Aside0.mk (by unfold floor_Check.f; rw [fo]; rfl)
        have HFO := Aside0.mk fo
        obtain ⟨⟨be0, be1⟩, ⟨bn0, bn1⟩, ⟨bl0, bl1⟩, bm, bw, bp⟩ := floorOk_bounds HFO.out
        obtain ⟨hless, hbt, _, hev⟩ := bs_ev mem (by omega) bp a.f1
        obtain ⟨kb, hkb⟩ := Ev.rounds hev
        have hin : decide (a.f1 ∈ mem) = true → (less a.f1 mem : Int) < (mem.length : Int) := by
          intro hm
          have hm := of_decide_eq_true hm
          rcases Nat.lt_or_ge (less a.f1 mem) mem.length with h | h
          · omega
          · have := hbt a.f1 (by rw [List.take_of_length_le h]; exact hm)
            omega
        have HKB := Aside0.mk hkb
        have HLESS := Aside0.mk hless
        have HIN := Aside0.mk hin
        clear hless hbt hev hkb hin
        by_cases c1 : a.f1 > 0
        rotate_left
        · have c1b : decide (0 < a.f1) = false := decide_eq_false c1
          have HASK : Aside0 (askOk n a = false) := Aside0.mk (by unfold askOk; rw [if_neg (show ¬ (a.f0 = 6) by rw [HA.out]; decide), if_neg (show ¬ (a.f0 = 3) by rw [HA.out]; decide)]; unfold whoOk; rw [decide_eq_false c1]; rfl)
          clear c1
          have HZ : Aside0 (res = (0, 0, 0, 0, 0, 0, 0, [], [], [], 1)) := Aside0.mk (by rw [HRES.out]; exact if_neg (by unfold doOk; rw [HASK.out]; simp))
          go_wp2_with (go_at_call 26; refine (floor_Check.calls 0 s e h p u l n A7 c7 wait A8 c8 mem _ W6 (Kd.C_below HR7.out HB6.out) HC7.out (Kd.C_below HR8.out HB6.out) HC8.out HCHK.out).mono ?_; rintro e' w7 ⟨rfl, hb⟩; have BK37 := Aside0.mk (blk_below BK36.out hb); have BK27 := Aside0.mk (blk_below BK26.out hb); have BK47 := Aside0.mk (blk_below BK46.out hb); have HD7 := Aside0.mk (Desk.below HD6.out hb); have HB7 := Aside0.mk (below_step HB6.out hb); clear hb; clear hx0 hx1 hx2 hx3 hx4 hx5 hx6 hx7 hx8 hy0 hy1 hy2 hy3 hy4 hz0 hz1 hz2 hz3 hz4 hz5 hz6 hz7 hz8 hf0 hf1 hf2 hf3 hf4 hf5 hf6 hf7 hf8; obtain ⟨hx0, hx1, hx2, hx3, hx4, hx5, hx6, hx7, hx8⟩ := cells9 BK27.out; obtain ⟨hy0, hy1, hy2, hy3, hy4⟩ := cells5 BK37.out; obtain ⟨hz0, hz1, hz2, hz3, hz4, hz5, hz6, hz7, hz8⟩ := cells9 BK47.out; obtain ⟨hf0, hf1, hf2, hf3, hf4, hf5, hf6, hf7, hf8⟩ := froz9 BK47.out)
          first | (refine bodyPost_ret (results_ctt rfl _ _ g4 28 #[.int .i64 0, .int .i64 0, .int .i64 0, .int .i64 0, .int .i64 0, .int .i64 0, .int .i64 0, .slice none 0 0, .slice none 0 0] (0, 0) _ rfl (blk_put9 BK47.out) Try.underlying28 rfl (by kernel_rfl)) rfl ?_)
          rw [HZ.out]
          exact do_err (below_set (below_set (below_set (below_set (below_set (below_set (below_set (below_set (below_set HB7.out GE4.out) GE4.out) GE4.out) GE4.out) GE4.out) GE4.out) GE4.out) GE4.out) GE4.out)
        have c1b : decide (0 < a.f1) = true := decide_eq_true c1
        by_cases c2 : a.f1 ≤ 1073741824
        rotate_left
        · have c2b : decide (a.f1 ≤ 1073741824) = false := decide_eq_false c2
          have HASK : Aside0 (askOk n a = false) := Aside0.mk (by unfold askOk; rw [if_neg (show ¬ (a.f0 = 6) by rw [HA.out]; decide), if_neg (show ¬ (a.f0 = 3) by rw [HA.out]; decide)]; unfold whoOk; rw [decide_eq_false c2, Bool.and_false])
          clear c1 c2
          have HZ : Aside0 (res = (0, 0, 0, 0, 0, 0, 0, [], [], [], 1)) := Aside0.mk (by rw [HRES.out]; exact if_neg (by unfold doOk; rw [HASK.out]; simp))
          go_wp2_with (go_at_call 26; refine (floor_Check.calls 0 s e h p u l n A7 c7 wait A8 c8 mem _ W6 (Kd.C_below HR7.out HB6.out) HC7.out (Kd.C_below HR8.out HB6.out) HC8.out HCHK.out).mono ?_; rintro e' w7 ⟨rfl, hb⟩; have BK37 := Aside0.mk (blk_below BK36.out hb); have BK27 := Aside0.mk (blk_below BK26.out hb); have BK47 := Aside0.mk (blk_below BK46.out hb); have HD7 := Aside0.mk (Desk.below HD6.out hb); have HB7 := Aside0.mk (below_step HB6.out hb); clear hb; clear hx0 hx1 hx2 hx3 hx4 hx5 hx6 hx7 hx8 hy0 hy1 hy2 hy3 hy4 hz0 hz1 hz2 hz3 hz4 hz5 hz6 hz7 hz8 hf0 hf1 hf2 hf3 hf4 hf5 hf6 hf7 hf8; obtain ⟨hx0, hx1, hx2, hx3, hx4, hx5, hx6, hx7, hx8⟩ := cells9 BK27.out; obtain ⟨hy0, hy1, hy2, hy3, hy4⟩ := cells5 BK37.out; obtain ⟨hz0, hz1, hz2, hz3, hz4, hz5, hz6, hz7, hz8⟩ := cells9 BK47.out; obtain ⟨hf0, hf1, hf2, hf3, hf4, hf5, hf6, hf7, hf8⟩ := froz9 BK47.out)
          first | (refine bodyPost_ret (results_ctt rfl _ _ g4 28 #[.int .i64 0, .int .i64 0, .int .i64 0, .int .i64 0, .int .i64 0, .int .i64 0, .int .i64 0, .slice none 0 0, .slice none 0 0] (0, 0) _ rfl (blk_put9 BK47.out) Try.underlying28 rfl (by kernel_rfl)) rfl ?_)
          rw [HZ.out]
          exact do_err (below_set (below_set (below_set (below_set (below_set (below_set (below_set (below_set (below_set HB7.out GE4.out) GE4.out) GE4.out) GE4.out) GE4.out) GE4.out) GE4.out) GE4.out) GE4.out)
        have c2b : decide (a.f1 ≤ 1073741824) = true := decide_eq_true c2
        have HASK : Aside0 (askOk n a = true) := Aside0.mk (by unfold askOk; rw [if_neg (show ¬ (a.f0 = 6) by rw [HA.out]; decide), if_neg (show ¬ (a.f0 = 3) by rw [HA.out]; decide)]; unfold whoOk; rw [decide_eq_true c1, decide_eq_true c2]; rfl)
        clear c1 c2
        obtain ⟨D9, hD9⟩ : ∃ D9, D9 = joinD ⟨s, e, h, p, u, l, n, wait, mem, []⟩ a.f1 (less a.f1 mem : Int) (decide (a.f1 ∈ mem)) := ⟨_, rfl⟩
        have HZ : Aside0 (res = packD D9) := Aside0.mk (by rw [HRES.out, hD9, if_pos (show doOk s e h p u l n wait mem a = true by unfold doOk; rw [HRNG.out, HFO.out, HASK.out]; rfl)]; unfold doD; rw [if_pos HA.out])
        have H9 := Aside0.mk hD9
        clear hD9
        go_wp2_with (first | (go_at_call 26; refine (floor_Check.calls 0 s e h p u l n A7 c7 wait A8 c8 mem _ W6 (Kd.C_below HR7.out HB6.out) HC7.out (Kd.C_below HR8.out HB6.out) HC8.out HCHK.out).mono ?_; rintro e' w7 ⟨rfl, hb⟩; have BK37 := Aside0.mk (blk_below BK36.out hb); have BK27 := Aside0.mk (blk_below BK26.out hb); have BK47 := Aside0.mk (blk_below BK46.out hb); have HD7 := Aside0.mk (Desk.below HD6.out hb); have HB7 := Aside0.mk (below_step HB6.out hb); clear hb; clear hx0 hx1 hx2 hx3 hx4 hx5 hx6 hx7 hx8 hy0 hy1 hy2 hy3 hy4 hz0 hz1 hz2 hz3 hz4 hz5 hz6 hz7 hz8 hf0 hf1 hf2 hf3 hf4 hf5 hf6 hf7 hf8; obtain ⟨hx0, hx1, hx2, hx3, hx4, hx5, hx6, hx7, hx8⟩ := cells9 BK27.out; obtain ⟨hy0, hy1, hy2, hy3, hy4⟩ := cells5 BK37.out; obtain ⟨hz0, hz1, hz2, hz3, hz4, hz5, hz6, hz7, hz8⟩ := cells9 BK47.out; obtain ⟨hf0, hf1, hf2, hf3, hf4, hf5, hf6, hf7, hf8⟩ := froz9 BK47.out) | (go_at_call 34; refine (join_calls HD7.out kb (less a.f1 mem) _ HKB.out HLESS.out (by show ([] : List S38).length ≤ 1000; decide)).mono ?_; rintro e' w9 ⟨rfl, ⟨vm', vo', hD⟩, hB⟩; change Desk w9 g7 g7 (joinD ⟨s, e, h, p, u, l, n, wait, mem, []⟩ a.f1 (less a.f1 mem : Int) (decide (a.f1 ∈ mem))) a _ _ _ _ _ at hD; rw [← H9.out] at hD; obtain ⟨Am9, cm9, hvm⟩ := Kd.R_slice hD.mem; subst hvm; obtain ⟨Ao9, co9, hvo⟩ := Kd.R_slice hD.out; subst hvo; obtain ⟨Aw, cw, hwv⟩ := waitV_slice Aa ca [] D9.wait; have HWV := Aside0.mk hwv; clear hwv; have HD9 := Aside0.mk hD; have HB9' := Aside0.mk (HB7.out.trans (hB.mono GE7.out)); have BK49 := Aside0.mk ((hB.block g4 LT74.out).trans BK47.out); clear hD hB; clear hx0 hx1 hx2 hx3 hx4 hx5 hx6 hx7 hx8 hy0 hy1 hy2 hy3 hy4 hz0 hz1 hz2 hz3 hz4 hz5 hz6 hz7 hz8 hf0 hf1 hf2 hf3 hf4 hf5 hf6 hf7 hf8; have hg0 : w9.cell? ⟨g7, 0, none⟩ = some (.int .i64 D9.s) := (blk_cell HD9.out.blk 0).trans rfl; have hg1 : w9.cell? ⟨g7, 1, none⟩ = some (.int .i64 D9.e) := (blk_cell HD9.out.blk 1).trans rfl; have hg2 : w9.cell? ⟨g7, 2, none⟩ = some (.int .i64 D9.h) := (blk_cell HD9.out.blk 2).trans rfl; have hg3 : w9.cell? ⟨g7, 3, none⟩ = some (.int .i64 D9.p) := (blk_cell HD9.out.blk 3).trans rfl; have hg4 : w9.cell? ⟨g7, 4, none⟩ = some (.int .i64 D9.u) := (blk_cell HD9.out.blk 4).trans rfl; have hg5 : w9.cell? ⟨g7, 5, none⟩ = some (.int .i64 D9.l) := (blk_cell HD9.out.blk 5).trans rfl; have hg6 : w9.cell? ⟨g7, 6, none⟩ = some (.int .i64 D9.n) := (blk_cell HD9.out.blk 6).trans rfl; have hg7 : w9.cell? ⟨g7, 7, none⟩ = some (.slice Aw D9.wait.length cw) := (blk_cell HD9.out.blk 7).trans (congrArg some HWV.out); have hg8 : w9.cell? ⟨g7, 8, none⟩ = some ((.slice Am9 D9.mem.length cm9)) := (blk_cell HD9.out.blk 8).trans rfl; have hg14 : w9.cell? ⟨g7, 14, none⟩ = some ((.slice Ao9 D9.out.length co9)) := (blk_cell HD9.out.blk 14).trans rfl; obtain ⟨hz0, hz1, hz2, hz3, hz4, hz5, hz6, hz7, hz8⟩ := cells9 BK49.out; obtain ⟨hf0, hf1, hf2, hf3, hf4, hf5, hf6, hf7, hf8⟩ := froz9 BK49.out))
        have ne1 := NE74.out
        have ne2 := NE74.out.symm
        go_region
        go_wp2
        refine bodyPost_ret (results_ctt rfl _ _ g4 28 #[.int .i64 D9.s, .int .i64 D9.e, .int .i64 D9.h, .int .i64 D9.p, .int .i64 D9.u, .int .i64 D9.l, .int .i64 D9.n, .slice Aw D9.wait.length cw, (.slice Am9 D9.mem.length cm9)] (0, 0) _ rfl (blk_drew (blk_put9 BK49.out)) Try.underlying28 rfl (by kernel_rfl)) rfl ?_
        have hgood := do_good (w := w) (Desk.below (desk_far (desk_far (desk_far (desk_far (desk_far (desk_far (desk_far (desk_far (desk_far HD9.out LT74.out 0 (.int .i64 D9.s)) LT74.out 1 (.int .i64 D9.e)) LT74.out 2 (.int .i64 D9.h)) LT74.out 3 (.int .i64 D9.p)) LT74.out 4 (.int .i64 D9.u)) LT74.out 5 (.int .i64 D9.l)) LT74.out 6 (.int .i64 D9.n)) LT74.out 7 (.slice Aw D9.wait.length cw)) LT74.out 8 ((.slice Am9 D9.mem.length cm9))) (below_drew1 (Below.refl _ _))) GE7.out (below_drew1 (below_set (below_set (below_set (below_set (below_set (below_set (below_set (below_set (below_set HB9'.out GE4.out) GE4.out) GE4.out) GE4.out) GE4.out) GE4.out) GE4.out) GE4.out) GE4.out))
        rw [HWV.out] at hgood
        rw [HZ.out]
        exact hgood
    by_cases ha2 : a.f0 = 2
    · have hl := map_look HM6.out a.f0 1 (.func (.func 35) #[.pointer (some ⟨g7, 0, none⟩)] #[]) (by rw [ha2]; rfl)
      have hfn' := hfn 35
      have t6 : (a.f0 == 6) = false := by rw [ha2]; rfl
      have t3 : (a.f0 == 3) = false := by rw [ha2]; rfl
      have HA := Aside0.mk ha2
      clear ha2 hge hle hnn hfn
      cases fo : floorOk s e h p u l n wait mem with
      | false =>
        have HCHK : Aside0 (floor_Check.f 0 s e h p u l n wait mem = some 1) := Aside0.mk (by unfold floor_Check.f; rw [fo]; rfl)
        have HZ : Aside0 (res = (0, 0, 0, 0, 0, 0, 0, [], [], [], 1)) := Aside0.mk (by rw [HRES.out]; exact if_neg (by unfold doOk; rw [fo, Bool.and_false, Bool.false_and]; simp))
        go_wp2_with (go_at_call 26; refine (floor_Check.calls 0 s e h p u l n A7 c7 wait A8 c8 mem _ W6 (Kd.C_below HR7.out HB6.out) HC7.out (Kd.C_below HR8.out HB6.out) HC8.out HCHK.out).mono ?_; rintro e' w7 ⟨rfl, hb⟩; have BK37 := Aside0.mk (blk_below BK36.out hb); have BK27 := Aside0.mk (blk_below BK26.out hb); have BK47 := Aside0.mk (blk_below BK46.out hb); have HD7 := Aside0.mk (Desk.below HD6.out hb); have HB7 := Aside0.mk (below_step HB6.out hb); clear hb; clear hx0 hx1 hx2 hx3 hx4 hx5 hx6 hx7 hx8 hy0 hy1 hy2 hy3 hy4 hz0 hz1 hz2 hz3 hz4 hz5 hz6 hz7 hz8 hf0 hf1 hf2 hf3 hf4 hf5 hf6 hf7 hf8; obtain ⟨hx0, hx1, hx2, hx3, hx4, hx5, hx6, hx7, hx8⟩ := cells9 BK27.out; obtain ⟨hy0, hy1, hy2, hy3, hy4⟩ := cells5 BK37.out; obtain ⟨hz0, hz1, hz2, hz3, hz4, hz5, hz6, hz7, hz8⟩ := cells9 BK47.out; obtain ⟨hf0, hf1, hf2, hf3, hf4, hf5, hf6, hf7, hf8⟩ := froz9 BK47.out)
        first | (refine bodyPost_ret (results_ctt rfl _ _ g4 28 #[.int .i64 0, .int .i64 0, .int .i64 0, .int .i64 0, .int .i64 0, .int .i64 0, .int .i64 0, .slice none 0 0, .slice none 0 0] (0, 0) _ rfl (blk_put9 BK47.out) Try.underlying28 rfl (by kernel_rfl)) rfl ?_)
        rw [HZ.out]
        exact do_err (below_set (below_set (below_set (below_set (below_set (below_set (below_set (below_set (below_set HB7.out GE4.out) GE4.out) GE4.out) GE4.out) GE4.out) GE4.out) GE4.out) GE4.out) GE4.out)
      | true =>
        have HCHK : Aside0 (floor_Check.f 0 s e h p u l n wait mem = some 0) := Aside0.mk (by unfold floor_Check.f; rw [fo]; rfl)
        have HFO := Aside0.mk fo
        obtain ⟨⟨be0, be1⟩, ⟨bn0, bn1⟩, ⟨bl0, bl1⟩, bm, bw, bp⟩ := floorOk_bounds HFO.out
        obtain ⟨hless, hbt, _, hev⟩ := bs_ev mem (by omega) bp a.f1
        obtain ⟨kb, hkb⟩ := Ev.rounds hev
        have hin : decide (a.f1 ∈ mem) = true → (less a.f1 mem : Int) < (mem.length : Int) := by
          intro hm
          have hm := of_decide_eq_true hm
          rcases Nat.lt_or_ge (less a.f1 mem) mem.length with h | h
          · omega
          · have := hbt a.f1 (by rw [List.take_of_length_le h]; exact hm)
            omega
        have HKB := Aside0.mk hkb
        have HLESS := Aside0.mk hless
        have HIN := Aside0.mk hin
        clear hless hbt hev hkb hin
        by_cases c1 : a.f1 > 0
        rotate_left
        · have c1b : decide (0 < a.f1) = false := decide_eq_false c1
          have HASK : Aside0 (askOk n a = false) := Aside0.mk (by unfold askOk; rw [if_neg (show ¬ (a.f0 = 6) by rw [HA.out]; decide), if_neg (show ¬ (a.f0 = 3) by rw [HA.out]; decide)]; unfold whoOk; rw [decide_eq_false c1]; rfl)
          clear c1
          have HZ : Aside0 (res = (0, 0, 0, 0, 0, 0, 0, [], [], [], 1)) := Aside0.mk (by rw [HRES.out]; exact if_neg (by unfold doOk; rw [HASK.out]; simp))
          go_wp2_with (go_at_call 26; refine (floor_Check.calls 0 s e h p u l n A7 c7 wait A8 c8 mem _ W6 (Kd.C_below HR7.out HB6.out) HC7.out (Kd.C_below HR8.out HB6.out) HC8.out HCHK.out).mono ?_; rintro e' w7 ⟨rfl, hb⟩; have BK37 := Aside0.mk (blk_below BK36.out hb); have BK27 := Aside0.mk (blk_below BK26.out hb); have BK47 := Aside0.mk (blk_below BK46.out hb); have HD7 := Aside0.mk (Desk.below HD6.out hb); have HB7 := Aside0.mk (below_step HB6.out hb); clear hb; clear hx0 hx1 hx2 hx3 hx4 hx5 hx6 hx7 hx8 hy0 hy1 hy2 hy3 hy4 hz0 hz1 hz2 hz3 hz4 hz5 hz6 hz7 hz8 hf0 hf1 hf2 hf3 hf4 hf5 hf6 hf7 hf8; obtain ⟨hx0, hx1, hx2, hx3, hx4, hx5, hx6, hx7, hx8⟩ := cells9 BK27.out; obtain ⟨hy0, hy1, hy2, hy3, hy4⟩ := cells5 BK37.out; obtain ⟨hz0, hz1, hz2, hz3, hz4, hz5, hz6, hz7, hz8⟩ := cells9 BK47.out; obtain ⟨hf0, hf1, hf2, hf3, hf4, hf5, hf6, hf7, hf8⟩ := froz9 BK47.out)
          first | (refine bodyPost_ret (results_ctt rfl _ _ g4 28 #[.int .i64 0, .int .i64 0, .int .i64 0, .int .i64 0, .int .i64 0, .int .i64 0, .int .i64 0, .slice none 0 0, .slice none 0 0] (0, 0) _ rfl (blk_put9 BK47.out) Try.underlying28 rfl (by kernel_rfl)) rfl ?_)
          rw [HZ.out]
          exact do_err (below_set (below_set (below_set (below_set (below_set (below_set (below_set (below_set (below_set HB7.out GE4.out) GE4.out) GE4.out) GE4.out) GE4.out) GE4.out) GE4.out) GE4.out) GE4.out)
        have c1b : decide (0 < a.f1) = true := decide_eq_true c1
        by_cases c2 : a.f1 ≤ 1073741824
        rotate_left
        · have c2b : decide (a.f1 ≤ 1073741824) = false := decide_eq_false c2
          have HASK : Aside0 (askOk n a = false) := Aside0.mk (by unfold askOk; rw [if_neg (show ¬ (a.f0 = 6) by rw [HA.out]; decide), if_neg (show ¬ (a.f0 = 3) by rw [HA.out]; decide)]; unfold whoOk; rw [decide_eq_false c2, Bool.and_false])
          clear c1 c2
          have HZ : Aside0 (res = (0, 0, 0, 0, 0, 0, 0, [], [], [], 1)) := Aside0.mk (by rw [HRES.out]; exact if_neg (by unfold doOk; rw [HASK.out]; simp))
          go_wp2_with (go_at_call 26; refine (floor_Check.calls 0 s e h p u l n A7 c7 wait A8 c8 mem _ W6 (Kd.C_below HR7.out HB6.out) HC7.out (Kd.C_below HR8.out HB6.out) HC8.out HCHK.out).mono ?_; rintro e' w7 ⟨rfl, hb⟩; have BK37 := Aside0.mk (blk_below BK36.out hb); have BK27 := Aside0.mk (blk_below BK26.out hb); have BK47 := Aside0.mk (blk_below BK46.out hb); have HD7 := Aside0.mk (Desk.below HD6.out hb); have HB7 := Aside0.mk (below_step HB6.out hb); clear hb; clear hx0 hx1 hx2 hx3 hx4 hx5 hx6 hx7 hx8 hy0 hy1 hy2 hy3 hy4 hz0 hz1 hz2 hz3 hz4 hz5 hz6 hz7 hz8 hf0 hf1 hf2 hf3 hf4 hf5 hf6 hf7 hf8; obtain ⟨hx0, hx1, hx2, hx3, hx4, hx5, hx6, hx7, hx8⟩ := cells9 BK27.out; obtain ⟨hy0, hy1, hy2, hy3, hy4⟩ := cells5 BK37.out; obtain ⟨hz0, hz1, hz2, hz3, hz4, hz5, hz6, hz7, hz8⟩ := cells9 BK47.out; obtain ⟨hf0, hf1, hf2, hf3, hf4, hf5, hf6, hf7, hf8⟩ := froz9 BK47.out)
          first | (refine bodyPost_ret (results_ctt rfl _ _ g4 28 #[.int .i64 0, .int .i64 0, .int .i64 0, .int .i64 0, .int .i64 0, .int .i64 0, .int .i64 0, .slice none 0 0, .slice none 0 0] (0, 0) _ rfl (blk_put9 BK47.out) Try.underlying28 rfl (by kernel_rfl)) rfl ?_)
          rw [HZ.out]
          exact do_err (below_set (below_set (below_set (below_set (below_set (below_set (below_set (below_set (below_set HB7.out GE4.out) GE4.out) GE4.out) GE4.out) GE4.out) GE4.out) GE4.out) GE4.out) GE4.out)
        have c2b : decide (a.f1 ≤ 1073741824) = true := decide_eq_true c2
        have HASK : Aside0 (askOk n a = true) := Aside0.mk (by unfold askOk; rw [if_neg (show ¬ (a.f0 = 6) by rw [HA.out]; decide), if_neg (show ¬ (a.f0 = 3) by rw [HA.out]; decide)]; unfold whoOk; rw [decide_eq_true c1, decide_eq_true c2]; rfl)
        clear c1 c2
        obtain ⟨D9, hD9⟩ : ∃ D9, D9 = leaveD ⟨s, e, h, p, u, l, n, wait, mem, []⟩ a.f1 (less a.f1 mem : Int) (decide (a.f1 ∈ mem)) := ⟨_, rfl⟩
        have HZ : Aside0 (res = packD D9) := Aside0.mk (by rw [HRES.out, hD9, if_pos (show doOk s e h p u l n wait mem a = true by unfold doOk; rw [HRNG.out, HFO.out, HASK.out]; rfl)]; unfold doD; rw [if_neg (show ¬ (a.f0 = 1) by rw [HA.out]; decide), if_pos HA.out])
        have H9 := Aside0.mk hD9
        clear hD9
        go_wp2_with (first | (go_at_call 26; refine (floor_Check.calls 0 s e h p u l n A7 c7 wait A8 c8 mem _ W6 (Kd.C_below HR7.out HB6.out) HC7.out (Kd.C_below HR8.out HB6.out) HC8.out HCHK.out).mono ?_; rintro e' w7 ⟨rfl, hb⟩; have BK37 := Aside0.mk (blk_below BK36.out hb); have BK27 := Aside0.mk (blk_below BK26.out hb); have BK47 := Aside0.mk (blk_below BK46.out hb); have HD7 := Aside0.mk (Desk.below HD6.out hb); have HB7 := Aside0.mk (below_step HB6.out hb); clear hb; clear hx0 hx1 hx2 hx3 hx4 hx5 hx6 hx7 hx8 hy0 hy1 hy2 hy3 hy4 hz0 hz1 hz2 hz3 hz4 hz5 hz6 hz7 hz8 hf0 hf1 hf2 hf3 hf4 hf5 hf6 hf7 hf8; obtain ⟨hx0, hx1, hx2, hx3, hx4, hx5, hx6, hx7, hx8⟩ := cells9 BK27.out; obtain ⟨hy0, hy1, hy2, hy3, hy4⟩ := cells5 BK37.out; obtain ⟨hz0, hz1, hz2, hz3, hz4, hz5, hz6, hz7, hz8⟩ := cells9 BK47.out; obtain ⟨hf0, hf1, hf2, hf3, hf4, hf5, hf6, hf7, hf8⟩ := froz9 BK47.out) | (go_at_call 35; refine (leave_calls HD7.out kb (less a.f1 mem) _ HKB.out (by omega) HIN.out (by show ([] : List S38).length ≤ 1000; decide) be0 (by show e ≤ 4398046511104; omega) bn0 (by show n ≤ 4398046511104; omega)).mono ?_; rintro e' w9 ⟨rfl, ⟨pre, vm', vo', hD⟩, hB⟩; change Desk w9 g7 g7 (leaveD ⟨s, e, h, p, u, l, n, wait, mem, []⟩ a.f1 (less a.f1 mem : Int) (decide (a.f1 ∈ mem))) a _ _ _ _ _ at hD; rw [← H9.out] at hD; obtain ⟨Am9, cm9, hvm⟩ := Kd.R_slice hD.mem; subst hvm; obtain ⟨Ao9, co9, hvo⟩ := Kd.R_slice hD.out; subst hvo; obtain ⟨Aw, cw, hwv⟩ := waitV_slice Aa ca pre D9.wait; have HWV := Aside0.mk hwv; clear hwv; have HD9 := Aside0.mk hD; have HB9' := Aside0.mk (HB7.out.trans (hB.mono GE7.out)); have BK49 := Aside0.mk ((hB.block g4 LT74.out).trans BK47.out); clear hD hB; clear hx0 hx1 hx2 hx3 hx4 hx5 hx6 hx7 hx8 hy0 hy1 hy2 hy3 hy4 hz0 hz1 hz2 hz3 hz4 hz5 hz6 hz7 hz8 hf0 hf1 hf2 hf3 hf4 hf5 hf6 hf7 hf8; have hg0 : w9.cell? ⟨g7, 0, none⟩ = some (.int .i64 D9.s) := (blk_cell HD9.out.blk 0).trans rfl; have hg1 : w9.cell? ⟨g7, 1, none⟩ = some (.int .i64 D9.e) := (blk_cell HD9.out.blk 1).trans rfl; have hg2 : w9.cell? ⟨g7, 2, none⟩ = some (.int .i64 D9.h) := (blk_cell HD9.out.blk 2).trans rfl; have hg3 : w9.cell? ⟨g7, 3, none⟩ = some (.int .i64 D9.p) := (blk_cell HD9.out.blk 3).trans rfl; have hg4 : w9.cell? ⟨g7, 4, none⟩ = some (.int .i64 D9.u) := (blk_cell HD9.out.blk 4).trans rfl; have hg5 : w9.cell? ⟨g7, 5, none⟩ = some (.int .i64 D9.l) := (blk_cell HD9.out.blk 5).trans rfl; have hg6 : w9.cell? ⟨g7, 6, none⟩ = some (.int .i64 D9.n) := (blk_cell HD9.out.blk 6).trans rfl; have hg7 : w9.cell? ⟨g7, 7, none⟩ = some (.slice Aw D9.wait.length cw) := (blk_cell HD9.out.blk 7).trans (congrArg some HWV.out); have hg8 : w9.cell? ⟨g7, 8, none⟩ = some ((.slice Am9 D9.mem.length cm9)) := (blk_cell HD9.out.blk 8).trans rfl; have hg14 : w9.cell? ⟨g7, 14, none⟩ = some ((.slice Ao9 D9.out.length co9)) := (blk_cell HD9.out.blk 14).trans rfl; obtain ⟨hz0, hz1, hz2, hz3, hz4, hz5, hz6, hz7, hz8⟩ := cells9 BK49.out; obtain ⟨hf0, hf1, hf2, hf3, hf4, hf5, hf6, hf7, hf8⟩ := froz9 BK49.out))
        have ne1 := NE74.out
        have ne2 := NE74.out.symm
        go_region
        go_wp2
        refine bodyPost_ret (results_ctt rfl _ _ g4 28 #[.int .i64 D9.s, .int .i64 D9.e, .int .i64 D9.h, .int .i64 D9.p, .int .i64 D9.u, .int .i64 D9.l, .int .i64 D9.n, .slice Aw D9.wait.length cw, (.slice Am9 D9.mem.length cm9)] (0, 0) _ rfl (blk_drew (blk_put9 BK49.out)) Try.underlying28 rfl (by kernel_rfl)) rfl ?_
        have hgood := do_good (w := w) (Desk.below (desk_far (desk_far (desk_far (desk_far (desk_far (desk_far (desk_far (desk_far (desk_far HD9.out LT74.out 0 (.int .i64 D9.s)) LT74.out 1 (.int .i64 D9.e)) LT74.out 2 (.int .i64 D9.h)) LT74.out 3 (.int .i64 D9.p)) LT74.out 4 (.int .i64 D9.u)) LT74.out 5 (.int .i64 D9.l)) LT74.out 6 (.int .i64 D9.n)) LT74.out 7 (.slice Aw D9.wait.length cw)) LT74.out 8 ((.slice Am9 D9.mem.length cm9))) (below_drew1 (Below.refl _ _))) GE7.out (below_drew1 (below_set (below_set (below_set (below_set (below_set (below_set (below_set (below_set (below_set HB9'.out GE4.out) GE4.out) GE4.out) GE4.out) GE4.out) GE4.out) GE4.out) GE4.out) GE4.out))
        rw [HWV.out] at hgood
        rw [HZ.out]
        exact hgood
    by_cases ha3 : a.f0 = 3
    · have hl := map_look HM6.out a.f0 2 (.func (.func 36) #[.pointer (some ⟨g7, 0, none⟩)] #[]) (by rw [ha3]; rfl)
      have hfn' := hfn 36
      have t6 : (a.f0 == 6) = false := by rw [ha3]; rfl
      have t3 : (a.f0 == 3) = true := by rw [ha3]; rfl
      have HA := Aside0.mk ha3
      clear ha3 hge hle hnn hfn
      cases fo : floorOk s e h p u l n wait mem with
      | false =>
        have HCHK : Aside0 (floor_Check.f 0 s e h p u l n wait mem = some 1) := Aside0.mk (by unfold floor_Check.f; rw [fo]; rfl)
        have HZ : Aside0 (res = (0, 0, 0, 0, 0, 0, 0, [], [], [], 1)) := Aside0.mk (by rw [HRES.out]; exact if_neg (by unfold doOk; rw [fo, Bool.and_false, Bool.false_and]; simp))
        go_wp2_with (go_at_call 26; refine (floor_Check.calls 0 s e h p u l n A7 c7 wait A8 c8 mem _ W6 (Kd.C_below HR7.out HB6.out) HC7.out (Kd.C_below HR8.out HB6.out) HC8.out HCHK.out).mono ?_; rintro e' w7 ⟨rfl, hb⟩; have BK37 := Aside0.mk (blk_below BK36.out hb); have BK27 := Aside0.mk (blk_below BK26.out hb); have BK47 := Aside0.mk (blk_below BK46.out hb); have HD7 := Aside0.mk (Desk.below HD6.out hb); have HB7 := Aside0.mk (below_step HB6.out hb); clear hb; clear hx0 hx1 hx2 hx3 hx4 hx5 hx6 hx7 hx8 hy0 hy1 hy2 hy3 hy4 hz0 hz1 hz2 hz3 hz4 hz5 hz6 hz7 hz8 hf0 hf1 hf2 hf3 hf4 hf5 hf6 hf7 hf8; obtain ⟨hx0, hx1, hx2, hx3, hx4, hx5, hx6, hx7, hx8⟩ := cells9 BK27.out; obtain ⟨hy0, hy1, hy2, hy3, hy4⟩ := cells5 BK37.out; obtain ⟨hz0, hz1, hz2, hz3, hz4, hz5, hz6, hz7, hz8⟩ := cells9 BK47.out; obtain ⟨hf0, hf1, hf2, hf3, hf4, hf5, hf6, hf7, hf8⟩ := froz9 BK47.out)
        first | (refine bodyPost_ret (results_ctt rfl _ _ g4 28 #[.int .i64 0, .int .i64 0, .int .i64 0, .int .i64 0, .int .i64 0, .int .i64 0, .int .i64 0, .slice none 0 0, .slice none 0 0] (0, 0) _ rfl (blk_put9 BK47.out) Try.underlying28 rfl (by kernel_rfl)) rfl ?_)
        rw [HZ.out]
        exact do_err (below_set (below_set (below_set (below_set (below_set (below_set (below_set (below_set (below_set HB7.out GE4.out) GE4.out) GE4.out) GE4.out) GE4.out) GE4.out) GE4.out) GE4.out) GE4.out)
      | true =>
        have HCHK : Aside0 (floor_Check.f 0 s e h p u l n wait mem = some 0) := Aside0.mk (by unfold floor_Check.f; rw [fo]; rfl)
        have HFO := Aside0.mk fo
        obtain ⟨⟨be0, be1⟩, ⟨bn0, bn1⟩, ⟨bl0, bl1⟩, bm, bw, bp⟩ := floorOk_bounds HFO.out
        obtain ⟨hless, hbt, _, hev⟩ := bs_ev mem (by omega) bp a.f1
        obtain ⟨kb, hkb⟩ := Ev.rounds hev
        have hin : decide (a.f1 ∈ mem) = true → (less a.f1 mem : Int) < (mem.length : Int) := by
          intro hm
          have hm := of_decide_eq_true hm
          rcases Nat.lt_or_ge (less a.f1 mem) mem.length with h | h
          · omega
          · have := hbt a.f1 (by rw [List.take_of_length_le h]; exact hm)
            omega
        have HKB := Aside0.mk hkb
        have HLESS := Aside0.mk hless
        have HIN := Aside0.mk hin
        clear hless hbt hev hkb hin
        have HKM : Aside0 (floor_member.f kb s e h p u l n wait mem a.f1 = some (decide (a.f1 ∈ mem))) := Aside0.mk (by unfold floor_member.f; rw [HKB.out]; rfl)
        cases cv : wiB a.f2 7 with
        | false =>
          have HASK : Aside0 (askOk n a = false) := Aside0.mk (by unfold askOk; rw [if_neg (show ¬ (a.f0 = 6) by rw [HA.out]; decide), if_pos HA.out]; unfold whoOk; rw [cv]; rfl)
          have HZ : Aside0 (res = (0, 0, 0, 0, 0, 0, 0, [], [], [], 1)) := Aside0.mk (by rw [HRES.out]; exact if_neg (by unfold doOk; rw [HASK.out]; simp))
          go_wp2_with (first | (go_at_call 26; refine (floor_Check.calls 0 s e h p u l n A7 c7 wait A8 c8 mem _ W6 (Kd.C_below HR7.out HB6.out) HC7.out (Kd.C_below HR8.out HB6.out) HC8.out HCHK.out).mono ?_; rintro e' w7 ⟨rfl, hb⟩; have BK37 := Aside0.mk (blk_below BK36.out hb); have BK27 := Aside0.mk (blk_below BK26.out hb); have BK47 := Aside0.mk (blk_below BK46.out hb); have HD7 := Aside0.mk (Desk.below HD6.out hb); have HB7 := Aside0.mk (below_step HB6.out hb); clear hb; clear hx0 hx1 hx2 hx3 hx4 hx5 hx6 hx7 hx8 hy0 hy1 hy2 hy3 hy4 hz0 hz1 hz2 hz3 hz4 hz5 hz6 hz7 hz8 hf0 hf1 hf2 hf3 hf4 hf5 hf6 hf7 hf8; obtain ⟨hx0, hx1, hx2, hx3, hx4, hx5, hx6, hx7, hx8⟩ := cells9 BK27.out; obtain ⟨hy0, hy1, hy2, hy3, hy4⟩ := cells5 BK37.out; obtain ⟨hz0, hz1, hz2, hz3, hz4, hz5, hz6, hz7, hz8⟩ := cells9 BK47.out; obtain ⟨hf0, hf1, hf2, hf3, hf4, hf5, hf6, hf7, hf8⟩ := froz9 BK47.out) | (go_at_call 40; refine (within_any _ _ _).mono ?_; rintro e w' ⟨rfl, ⟨nd, rfl⟩⟩))
          first | (refine bodyPost_ret (results_ctt rfl _ _ g4 28 #[.int .i64 0, .int .i64 0, .int .i64 0, .int .i64 0, .int .i64 0, .int .i64 0, .int .i64 0, .slice none 0 0, .slice none 0 0] (0, 0) _ rfl (blk_put9 (blk_drewN BK47.out _)) Try.underlying28 rfl (by kernel_rfl)) rfl ?_) | (refine bodyPost_ret (results_ctt rfl _ _ g4 28 #[.int .i64 0, .int .i64 0, .int .i64 0, .int .i64 0, .int .i64 0, .int .i64 0, .int .i64 0, .slice none 0 0, .slice none 0 0] (0, 0) _ rfl (blk_drewN (blk_put9 BK47.out) _) Try.underlying28 rfl (by kernel_rfl)) rfl ?_)
          rw [HZ.out]
          first | exact do_err (below_set (below_set (below_set (below_set (below_set (below_set (below_set (below_set (below_set (pw_below_drewN HB7.out _) GE4.out) GE4.out) GE4.out) GE4.out) GE4.out) GE4.out) GE4.out) GE4.out) GE4.out) | exact do_err (pw_below_drewN (below_set (below_set (below_set (below_set (below_set (below_set (below_set (below_set (below_set HB7.out GE4.out) GE4.out) GE4.out) GE4.out) GE4.out) GE4.out) GE4.out) GE4.out) GE4.out) _)
        | true =>
          have CV := Aside0.mk cv
          by_cases c1 : a.f1 > 0
          rotate_left
          · have c1b : decide (0 < a.f1) = false := decide_eq_false c1
            have HASK : Aside0 (askOk n a = false) := Aside0.mk (by unfold askOk; rw [if_neg (show ¬ (a.f0 = 6) by rw [HA.out]; decide), if_pos HA.out]; unfold whoOk; rw [decide_eq_false c1, CV.out]; rfl)
            clear c1
            have HZ : Aside0 (res = (0, 0, 0, 0, 0, 0, 0, [], [], [], 1)) := Aside0.mk (by rw [HRES.out]; exact if_neg (by unfold doOk; rw [HASK.out]; simp))
            go_wp2_with (first | (go_at_call 26; refine (floor_Check.calls 0 s e h p u l n A7 c7 wait A8 c8 mem _ W6 (Kd.C_below HR7.out HB6.out) HC7.out (Kd.C_below HR8.out HB6.out) HC8.out HCHK.out).mono ?_; rintro e' w7 ⟨rfl, hb⟩; have BK37 := Aside0.mk (blk_below BK36.out hb); have BK27 := Aside0.mk (blk_below BK26.out hb); have BK47 := Aside0.mk (blk_below BK46.out hb); have HD7 := Aside0.mk (Desk.below HD6.out hb); have HB7 := Aside0.mk (below_step HB6.out hb); clear hb; clear hx0 hx1 hx2 hx3 hx4 hx5 hx6 hx7 hx8 hy0 hy1 hy2 hy3 hy4 hz0 hz1 hz2 hz3 hz4 hz5 hz6 hz7 hz8 hf0 hf1 hf2 hf3 hf4 hf5 hf6 hf7 hf8; obtain ⟨hx0, hx1, hx2, hx3, hx4, hx5, hx6, hx7, hx8⟩ := cells9 BK27.out; obtain ⟨hy0, hy1, hy2, hy3, hy4⟩ := cells5 BK37.out; obtain ⟨hz0, hz1, hz2, hz3, hz4, hz5, hz6, hz7, hz8⟩ := cells9 BK47.out; obtain ⟨hf0, hf1, hf2, hf3, hf4, hf5, hf6, hf7, hf8⟩ := froz9 BK47.out) | (go_at_call 40; refine (within_any _ _ _).mono ?_; rintro e w' ⟨rfl, ⟨nd, rfl⟩⟩))
            first | (refine bodyPost_ret (results_ctt rfl _ _ g4 28 #[.int .i64 0, .int .i64 0, .int .i64 0, .int .i64 0, .int .i64 0, .int .i64 0, .int .i64 0, .slice none 0 0, .slice none 0 0] (0, 0) _ rfl (blk_put9 (blk_drewN BK47.out _)) Try.underlying28 rfl (by kernel_rfl)) rfl ?_) | (refine bodyPost_ret (results_ctt rfl _ _ g4 28 #[.int .i64 0, .int .i64 0, .int .i64 0, .int .i64 0, .int .i64 0, .int .i64 0, .int .i64 0, .slice none 0 0, .slice none 0 0] (0, 0) _ rfl (blk_drewN (blk_put9 BK47.out) _) Try.underlying28 rfl (by kernel_rfl)) rfl ?_)
            rw [HZ.out]
            first | exact do_err (below_set (below_set (below_set (below_set (below_set (below_set (below_set (below_set (below_set (pw_below_drewN HB7.out _) GE4.out) GE4.out) GE4.out) GE4.out) GE4.out) GE4.out) GE4.out) GE4.out) GE4.out) | exact do_err (pw_below_drewN (below_set (below_set (below_set (below_set (below_set (below_set (below_set (below_set (below_set HB7.out GE4.out) GE4.out) GE4.out) GE4.out) GE4.out) GE4.out) GE4.out) GE4.out) GE4.out) _)
          have c1b : decide (0 < a.f1) = true := decide_eq_true c1
          by_cases c2 : a.f1 ≤ 1073741824
          rotate_left
          · have c2b : decide (a.f1 ≤ 1073741824) = false := decide_eq_false c2
            have HASK : Aside0 (askOk n a = false) := Aside0.mk (by unfold askOk; rw [if_neg (show ¬ (a.f0 = 6) by rw [HA.out]; decide), if_pos HA.out]; unfold whoOk; rw [decide_eq_false c2, Bool.and_false, Bool.and_false])
            clear c1 c2
            have HZ : Aside0 (res = (0, 0, 0, 0, 0, 0, 0, [], [], [], 1)) := Aside0.mk (by rw [HRES.out]; exact if_neg (by unfold doOk; rw [HASK.out]; simp))
            go_wp2_with (first | (go_at_call 26; refine (floor_Check.calls 0 s e h p u l n A7 c7 wait A8 c8 mem _ W6 (Kd.C_below HR7.out HB6.out) HC7.out (Kd.C_below HR8.out HB6.out) HC8.out HCHK.out).mono ?_; rintro e' w7 ⟨rfl, hb⟩; have BK37 := Aside0.mk (blk_below BK36.out hb); have BK27 := Aside0.mk (blk_below BK26.out hb); have BK47 := Aside0.mk (blk_below BK46.out hb); have HD7 := Aside0.mk (Desk.below HD6.out hb); have HB7 := Aside0.mk (below_step HB6.out hb); clear hb; clear hx0 hx1 hx2 hx3 hx4 hx5 hx6 hx7 hx8 hy0 hy1 hy2 hy3 hy4 hz0 hz1 hz2 hz3 hz4 hz5 hz6 hz7 hz8 hf0 hf1 hf2 hf3 hf4 hf5 hf6 hf7 hf8; obtain ⟨hx0, hx1, hx2, hx3, hx4, hx5, hx6, hx7, hx8⟩ := cells9 BK27.out; obtain ⟨hy0, hy1, hy2, hy3, hy4⟩ := cells5 BK37.out; obtain ⟨hz0, hz1, hz2, hz3, hz4, hz5, hz6, hz7, hz8⟩ := cells9 BK47.out; obtain ⟨hf0, hf1, hf2, hf3, hf4, hf5, hf6, hf7, hf8⟩ := froz9 BK47.out) | (go_at_call 40; refine (within_any _ _ _).mono ?_; rintro e w' ⟨rfl, ⟨nd, rfl⟩⟩))
            first | (refine bodyPost_ret (results_ctt rfl _ _ g4 28 #[.int .i64 0, .int .i64 0, .int .i64 0, .int .i64 0, .int .i64 0, .int .i64 0, .int .i64 0, .slice none 0 0, .slice none 0 0] (0, 0) _ rfl (blk_put9 (blk_drewN BK47.out _)) Try.underlying28 rfl (by kernel_rfl)) rfl ?_) | (refine bodyPost_ret (results_ctt rfl _ _ g4 28 #[.int .i64 0, .int .i64 0, .int .i64 0, .int .i64 0, .int .i64 0, .int .i64 0, .int .i64 0, .slice none 0 0, .slice none 0 0] (0, 0) _ rfl (blk_drewN (blk_put9 BK47.out) _) Try.underlying28 rfl (by kernel_rfl)) rfl ?_)
            rw [HZ.out]
            first | exact do_err (below_set (below_set (below_set (below_set (below_set (below_set (below_set (below_set (below_set (pw_below_drewN HB7.out _) GE4.out) GE4.out) GE4.out) GE4.out) GE4.out) GE4.out) GE4.out) GE4.out) GE4.out) | exact do_err (pw_below_drewN (below_set (below_set (below_set (below_set (below_set (below_set (below_set (below_set (below_set HB7.out GE4.out) GE4.out) GE4.out) GE4.out) GE4.out) GE4.out) GE4.out) GE4.out) GE4.out) _)
          have c2b : decide (a.f1 ≤ 1073741824) = true := decide_eq_true c2
          have HASK : Aside0 (askOk n a = true) := Aside0.mk (by unfold askOk; rw [if_neg (show ¬ (a.f0 = 6) by rw [HA.out]; decide), if_pos HA.out]; unfold whoOk; rw [decide_eq_true c1, decide_eq_true c2, CV.out]; rfl)
          clear c1 c2
          obtain ⟨D9, hD9⟩ : ∃ D9, D9 = requestD ⟨s, e, h, p, u, l, n, wait, mem, []⟩ a (decide (a.f1 ∈ mem)) := ⟨_, rfl⟩
          have HZ : Aside0 (res = packD D9) := Aside0.mk (by rw [HRES.out, hD9, if_pos (show doOk s e h p u l n wait mem a = true by unfold doOk; rw [HRNG.out, HFO.out, HASK.out]; rfl)]; unfold doD; rw [if_neg (show ¬ (a.f0 = 1) by rw [HA.out]; decide), if_neg (show ¬ (a.f0 = 2) by rw [HA.out]; decide), if_pos HA.out])
          have H9 := Aside0.mk hD9
          clear hD9
          go_wp2_with (first | (go_at_call 26; refine (floor_Check.calls 0 s e h p u l n A7 c7 wait A8 c8 mem _ W6 (Kd.C_below HR7.out HB6.out) HC7.out (Kd.C_below HR8.out HB6.out) HC8.out HCHK.out).mono ?_; rintro e' w7 ⟨rfl, hb⟩; have BK37 := Aside0.mk (blk_below BK36.out hb); have BK27 := Aside0.mk (blk_below BK26.out hb); have BK47 := Aside0.mk (blk_below BK46.out hb); have HD7 := Aside0.mk (Desk.below HD6.out hb); have HB7 := Aside0.mk (below_step HB6.out hb); clear hb; clear hx0 hx1 hx2 hx3 hx4 hx5 hx6 hx7 hx8 hy0 hy1 hy2 hy3 hy4 hz0 hz1 hz2 hz3 hz4 hz5 hz6 hz7 hz8 hf0 hf1 hf2 hf3 hf4 hf5 hf6 hf7 hf8; obtain ⟨hx0, hx1, hx2, hx3, hx4, hx5, hx6, hx7, hx8⟩ := cells9 BK27.out; obtain ⟨hy0, hy1, hy2, hy3, hy4⟩ := cells5 BK37.out; obtain ⟨hz0, hz1, hz2, hz3, hz4, hz5, hz6, hz7, hz8⟩ := cells9 BK47.out; obtain ⟨hf0, hf1, hf2, hf3, hf4, hf5, hf6, hf7, hf8⟩ := froz9 BK47.out) | (go_at_call 36; refine (request_calls (Desk.below HD7.out (pw_below_drewN (Below.refl _ _) _)) kb _ HKM.out bw (by show ([] : List S38).length ≤ 1000; decide) be0 (by show e ≤ 4398046511104; omega) bn0 (by show n ≤ 4398046511104; omega)).mono ?_; rintro e' w9 ⟨rfl, ⟨A9, c9, vo', hD⟩, hB⟩; change Desk w9 g7 g7 (requestD ⟨s, e, h, p, u, l, n, wait, mem, []⟩ a (decide (a.f1 ∈ mem))) a _ _ _ _ _ at hD; rw [← H9.out] at hD; obtain ⟨Ao9, co9, hvo⟩ := Kd.R_slice hD.out; subst hvo; obtain ⟨Aw, cw, hwv⟩ := waitV_slice A9 c9 [] D9.wait; have HWV := Aside0.mk hwv; clear hwv; have HD9 := Aside0.mk hD; have HB9' := Aside0.mk ((pw_below_drewN HB7.out _).trans (hB.mono GE7.out)); have BK49 := Aside0.mk ((hB.block g4 LT74.out).trans (blk_drewN BK47.out _)); clear hD hB; clear hx0 hx1 hx2 hx3 hx4 hx5 hx6 hx7 hx8 hy0 hy1 hy2 hy3 hy4 hz0 hz1 hz2 hz3 hz4 hz5 hz6 hz7 hz8 hf0 hf1 hf2 hf3 hf4 hf5 hf6 hf7 hf8; have hg0 : w9.cell? ⟨g7, 0, none⟩ = some (.int .i64 D9.s) := (blk_cell HD9.out.blk 0).trans rfl; have hg1 : w9.cell? ⟨g7, 1, none⟩ = some (.int .i64 D9.e) := (blk_cell HD9.out.blk 1).trans rfl; have hg2 : w9.cell? ⟨g7, 2, none⟩ = some (.int .i64 D9.h) := (blk_cell HD9.out.blk 2).trans rfl; have hg3 : w9.cell? ⟨g7, 3, none⟩ = some (.int .i64 D9.p) := (blk_cell HD9.out.blk 3).trans rfl; have hg4 : w9.cell? ⟨g7, 4, none⟩ = some (.int .i64 D9.u) := (blk_cell HD9.out.blk 4).trans rfl; have hg5 : w9.cell? ⟨g7, 5, none⟩ = some (.int .i64 D9.l) := (blk_cell HD9.out.blk 5).trans rfl; have hg6 : w9.cell? ⟨g7, 6, none⟩ = some (.int .i64 D9.n) := (blk_cell HD9.out.blk 6).trans rfl; have hg7 : w9.cell? ⟨g7, 7, none⟩ = some (.slice Aw D9.wait.length cw) := (blk_cell HD9.out.blk 7).trans (congrArg some HWV.out); have hg8 : w9.cell? ⟨g7, 8, none⟩ = some ((.slice Am mem.length cm)) := (blk_cell HD9.out.blk 8).trans rfl; have hg14 : w9.cell? ⟨g7, 14, none⟩ = some ((.slice Ao9 D9.out.length co9)) := (blk_cell HD9.out.blk 14).trans rfl; obtain ⟨hz0, hz1, hz2, hz3, hz4, hz5, hz6, hz7, hz8⟩ := cells9 BK49.out; obtain ⟨hf0, hf1, hf2, hf3, hf4, hf5, hf6, hf7, hf8⟩ := froz9 BK49.out) | (go_at_call 40; refine (within_any _ _ _).mono ?_; rintro e w' ⟨rfl, ⟨nd, rfl⟩⟩))
          have ne1 := NE74.out
          have ne2 := NE74.out.symm
          go_region
          go_wp2
          refine bodyPost_ret (results_ctt rfl _ _ g4 28 #[.int .i64 D9.s, .int .i64 D9.e, .int .i64 D9.h, .int .i64 D9.p, .int .i64 D9.u, .int .i64 D9.l, .int .i64 D9.n, .slice Aw D9.wait.length cw, (.slice Am mem.length cm)] (0, 0) _ rfl (blk_drew (blk_put9 BK49.out)) Try.underlying28 rfl (by kernel_rfl)) rfl ?_
          have hgood := do_good (w := w) (Desk.below (desk_far (desk_far (desk_far (desk_far (desk_far (desk_far (desk_far (desk_far (desk_far HD9.out LT74.out 0 (.int .i64 D9.s)) LT74.out 1 (.int .i64 D9.e)) LT74.out 2 (.int .i64 D9.h)) LT74.out 3 (.int .i64 D9.p)) LT74.out 4 (.int .i64 D9.u)) LT74.out 5 (.int .i64 D9.l)) LT74.out 6 (.int .i64 D9.n)) LT74.out 7 (.slice Aw D9.wait.length cw)) LT74.out 8 ((.slice Am mem.length cm))) (below_drew1 (Below.refl _ _))) GE7.out (below_drew1 (below_set (below_set (below_set (below_set (below_set (below_set (below_set (below_set (below_set HB9'.out GE4.out) GE4.out) GE4.out) GE4.out) GE4.out) GE4.out) GE4.out) GE4.out) GE4.out))
          rw [HWV.out] at hgood
          rw [HZ.out]
          exact hgood
    by_cases ha4 : a.f0 = 4
    · have hl := map_look HM6.out a.f0 3 (.func (.func 37) #[.pointer (some ⟨g7, 0, none⟩)] #[]) (by rw [ha4]; rfl)
      have hfn' := hfn 37
      have t6 : (a.f0 == 6) = false := by rw [ha4]; rfl
      have t3 : (a.f0 == 3) = false := by rw [ha4]; rfl
      have HA := Aside0.mk ha4
      clear ha4 hge hle hnn hfn
      cases fo : floorOk s e h p u l n wait mem with
      | false =>
        have HCHK : Aside0 (floor_Check.f 0 s e h p u l n wait mem = some 1) := Aside0.mk (by unfold floor_Check.f; rw [fo]; rfl)
        have HZ : Aside0 (res = (0, 0, 0, 0, 0, 0, 0, [], [], [], 1)) := Aside0.mk (by rw [HRES.out]; exact if_neg (by unfold doOk; rw [fo, Bool.and_false, Bool.false_and]; simp))
        go_wp2_with (go_at_call 26; refine (floor_Check.calls 0 s e h p u l n A7 c7 wait A8 c8 mem _ W6 (Kd.C_below HR7.out HB6.out) HC7.out (Kd.C_below HR8.out HB6.out) HC8.out HCHK.out).mono ?_; rintro e' w7 ⟨rfl, hb⟩; have BK37 := Aside0.mk (blk_below BK36.out hb); have BK27 := Aside0.mk (blk_below BK26.out hb); have BK47 := Aside0.mk (blk_below BK46.out hb); have HD7 := Aside0.mk (Desk.below HD6.out hb); have HB7 := Aside0.mk (below_step HB6.out hb); clear hb; clear hx0 hx1 hx2 hx3 hx4 hx5 hx6 hx7 hx8 hy0 hy1 hy2 hy3 hy4 hz0 hz1 hz2 hz3 hz4 hz5 hz6 hz7 hz8 hf0 hf1 hf2 hf3 hf4 hf5 hf6 hf7 hf8; obtain ⟨hx0, hx1, hx2, hx3, hx4, hx5, hx6, hx7, hx8⟩ := cells9 BK27.out; obtain ⟨hy0, hy1, hy2, hy3, hy4⟩ := cells5 BK37.out; obtain ⟨hz0, hz1, hz2, hz3, hz4, hz5, hz6, hz7, hz8⟩ := cells9 BK47.out; obtain ⟨hf0, hf1, hf2, hf3, hf4, hf5, hf6, hf7, hf8⟩ := froz9 BK47.out)
        first | (refine bodyPost_ret (results_ctt rfl _ _ g4 28 #[.int .i64 0, .int .i64 0, .int .i64 0, .int .i64 0, .int .i64 0, .int .i64 0, .int .i64 0, .slice none 0 0, .slice none 0 0] (0, 0) _ rfl (blk_put9 BK47.out) Try.underlying28 rfl (by kernel_rfl)) rfl ?_)
        rw [HZ.out]
        exact do_err (below_set (below_set (below_set (below_set (below_set (below_set (below_set (below_set (below_set HB7.out GE4.out) GE4.out) GE4.out) GE4.out) GE4.out) GE4.out) GE4.out) GE4.out) GE4.out)
      | true =>
        have HCHK : Aside0 (floor_Check.f 0 s e h p u l n wait mem = some 0) := Aside0.mk (by unfold floor_Check.f; rw [fo]; rfl)
        have HFO := Aside0.mk fo
        obtain ⟨⟨be0, be1⟩, ⟨bn0, bn1⟩, ⟨bl0, bl1⟩, bm, bw, bp⟩ := floorOk_bounds HFO.out
        by_cases c1 : a.f1 > 0
        rotate_left
        · have c1b : decide (0 < a.f1) = false := decide_eq_false c1
          have HASK : Aside0 (askOk n a = false) := Aside0.mk (by unfold askOk; rw [if_neg (show ¬ (a.f0 = 6) by rw [HA.out]; decide), if_neg (show ¬ (a.f0 = 3) by rw [HA.out]; decide)]; unfold whoOk; rw [decide_eq_false c1]; rfl)
          clear c1
          have HZ : Aside0 (res = (0, 0, 0, 0, 0, 0, 0, [], [], [], 1)) := Aside0.mk (by rw [HRES.out]; exact if_neg (by unfold doOk; rw [HASK.out]; simp))
          go_wp2_with (go_at_call 26; refine (floor_Check.calls 0 s e h p u l n A7 c7 wait A8 c8 mem _ W6 (Kd.C_below HR7.out HB6.out) HC7.out (Kd.C_below HR8.out HB6.out) HC8.out HCHK.out).mono ?_; rintro e' w7 ⟨rfl, hb⟩; have BK37 := Aside0.mk (blk_below BK36.out hb); have BK27 := Aside0.mk (blk_below BK26.out hb); have BK47 := Aside0.mk (blk_below BK46.out hb); have HD7 := Aside0.mk (Desk.below HD6.out hb); have HB7 := Aside0.mk (below_step HB6.out hb); clear hb; clear hx0 hx1 hx2 hx3 hx4 hx5 hx6 hx7 hx8 hy0 hy1 hy2 hy3 hy4 hz0 hz1 hz2 hz3 hz4 hz5 hz6 hz7 hz8 hf0 hf1 hf2 hf3 hf4 hf5 hf6 hf7 hf8; obtain ⟨hx0, hx1, hx2, hx3, hx4, hx5, hx6, hx7, hx8⟩ := cells9 BK27.out; obtain ⟨hy0, hy1, hy2, hy3, hy4⟩ := cells5 BK37.out; obtain ⟨hz0, hz1, hz2, hz3, hz4, hz5, hz6, hz7, hz8⟩ := cells9 BK47.out; obtain ⟨hf0, hf1, hf2, hf3, hf4, hf5, hf6, hf7, hf8⟩ := froz9 BK47.out)
          first | (refine bodyPost_ret (results_ctt rfl _ _ g4 28 #[.int .i64 0, .int .i64 0, .int .i64 0, .int .i64 0, .int .i64 0, .int .i64 0, .int .i64 0, .slice none 0 0, .slice none 0 0] (0, 0) _ rfl (blk_put9 BK47.out) Try.underlying28 rfl (by kernel_rfl)) rfl ?_)
          rw [HZ.out]
          exact do_err (below_set (below_set (below_set (below_set (below_set (below_set (below_set (below_set (below_set HB7.out GE4.out) GE4.out) GE4.out) GE4.out) GE4.out) GE4.out) GE4.out) GE4.out) GE4.out)
        have c1b : decide (0 < a.f1) = true := decide_eq_true c1
        by_cases c2 : a.f1 ≤ 1073741824
        rotate_left
        · have c2b : decide (a.f1 ≤ 1073741824) = false := decide_eq_false c2
          have HASK : Aside0 (askOk n a = false) := Aside0.mk (by unfold askOk; rw [if_neg (show ¬ (a.f0 = 6) by rw [HA.out]; decide), if_neg (show ¬ (a.f0 = 3) by rw [HA.out]; decide)]; unfold whoOk; rw [decide_eq_false c2, Bool.and_false])
          clear c1 c2
          have HZ : Aside0 (res = (0, 0, 0, 0, 0, 0, 0, [], [], [], 1)) := Aside0.mk (by rw [HRES.out]; exact if_neg (by unfold doOk; rw [HASK.out]; simp))
          go_wp2_with (go_at_call 26; refine (floor_Check.calls 0 s e h p u l n A7 c7 wait A8 c8 mem _ W6 (Kd.C_below HR7.out HB6.out) HC7.out (Kd.C_below HR8.out HB6.out) HC8.out HCHK.out).mono ?_; rintro e' w7 ⟨rfl, hb⟩; have BK37 := Aside0.mk (blk_below BK36.out hb); have BK27 := Aside0.mk (blk_below BK26.out hb); have BK47 := Aside0.mk (blk_below BK46.out hb); have HD7 := Aside0.mk (Desk.below HD6.out hb); have HB7 := Aside0.mk (below_step HB6.out hb); clear hb; clear hx0 hx1 hx2 hx3 hx4 hx5 hx6 hx7 hx8 hy0 hy1 hy2 hy3 hy4 hz0 hz1 hz2 hz3 hz4 hz5 hz6 hz7 hz8 hf0 hf1 hf2 hf3 hf4 hf5 hf6 hf7 hf8; obtain ⟨hx0, hx1, hx2, hx3, hx4, hx5, hx6, hx7, hx8⟩ := cells9 BK27.out; obtain ⟨hy0, hy1, hy2, hy3, hy4⟩ := cells5 BK37.out; obtain ⟨hz0, hz1, hz2, hz3, hz4, hz5, hz6, hz7, hz8⟩ := cells9 BK47.out; obtain ⟨hf0, hf1, hf2, hf3, hf4, hf5, hf6, hf7, hf8⟩ := froz9 BK47.out)
          first | (refine bodyPost_ret (results_ctt rfl _ _ g4 28 #[.int .i64 0, .int .i64 0, .int .i64 0, .int .i64 0, .int .i64 0, .int .i64 0, .int .i64 0, .slice none 0 0, .slice none 0 0] (0, 0) _ rfl (blk_put9 BK47.out) Try.underlying28 rfl (by kernel_rfl)) rfl ?_)
          rw [HZ.out]
          exact do_err (below_set (below_set (below_set (below_set (below_set (below_set (below_set (below_set (below_set HB7.out GE4.out) GE4.out) GE4.out) GE4.out) GE4.out) GE4.out) GE4.out) GE4.out) GE4.out)
        have c2b : decide (a.f1 ≤ 1073741824) = true := decide_eq_true c2
        have HASK : Aside0 (askOk n a = true) := Aside0.mk (by unfold askOk; rw [if_neg (show ¬ (a.f0 = 6) by rw [HA.out]; decide), if_neg (show ¬ (a.f0 = 3) by rw [HA.out]; decide)]; unfold whoOk; rw [decide_eq_true c1, decide_eq_true c2]; rfl)
        clear c1 c2
        obtain ⟨D9, hD9⟩ : ∃ D9, D9 = releaseD ⟨s, e, h, p, u, l, n, wait, mem, []⟩ a.f1 := ⟨_, rfl⟩
        have HZ : Aside0 (res = packD D9) := Aside0.mk (by rw [HRES.out, hD9, if_pos (show doOk s e h p u l n wait mem a = true by unfold doOk; rw [HRNG.out, HFO.out, HASK.out]; rfl)]; unfold doD; rw [if_neg (show ¬ (a.f0 = 1) by rw [HA.out]; decide), if_neg (show ¬ (a.f0 = 2) by rw [HA.out]; decide), if_neg (show ¬ (a.f0 = 3) by rw [HA.out]; decide), if_pos HA.out])
        have H9 := Aside0.mk hD9
        clear hD9
        go_wp2_with (first | (go_at_call 26; refine (floor_Check.calls 0 s e h p u l n A7 c7 wait A8 c8 mem _ W6 (Kd.C_below HR7.out HB6.out) HC7.out (Kd.C_below HR8.out HB6.out) HC8.out HCHK.out).mono ?_; rintro e' w7 ⟨rfl, hb⟩; have BK37 := Aside0.mk (blk_below BK36.out hb); have BK27 := Aside0.mk (blk_below BK26.out hb); have BK47 := Aside0.mk (blk_below BK46.out hb); have HD7 := Aside0.mk (Desk.below HD6.out hb); have HB7 := Aside0.mk (below_step HB6.out hb); clear hb; clear hx0 hx1 hx2 hx3 hx4 hx5 hx6 hx7 hx8 hy0 hy1 hy2 hy3 hy4 hz0 hz1 hz2 hz3 hz4 hz5 hz6 hz7 hz8 hf0 hf1 hf2 hf3 hf4 hf5 hf6 hf7 hf8; obtain ⟨hx0, hx1, hx2, hx3, hx4, hx5, hx6, hx7, hx8⟩ := cells9 BK27.out; obtain ⟨hy0, hy1, hy2, hy3, hy4⟩ := cells5 BK37.out; obtain ⟨hz0, hz1, hz2, hz3, hz4, hz5, hz6, hz7, hz8⟩ := cells9 BK47.out; obtain ⟨hf0, hf1, hf2, hf3, hf4, hf5, hf6, hf7, hf8⟩ := froz9 BK47.out) | (go_at_call 37; refine (release_calls HD7.out (by show ([] : List S38).length ≤ 1000; decide) be0 (by show e ≤ 4398046511104; omega) bn0 (by show n ≤ 4398046511104; omega)).mono ?_; rintro e' w9 ⟨rfl, ⟨pre, vo', hD⟩, hB⟩; change Desk w9 g7 g7 (releaseD ⟨s, e, h, p, u, l, n, wait, mem, []⟩ a.f1) a _ _ _ _ _ at hD; rw [← H9.out] at hD; obtain ⟨Ao9, co9, hvo⟩ := Kd.R_slice hD.out; subst hvo; obtain ⟨Aw, cw, hwv⟩ := waitV_slice Aa ca pre D9.wait; have HWV := Aside0.mk hwv; clear hwv; have HD9 := Aside0.mk hD; have HB9' := Aside0.mk (HB7.out.trans (hB.mono GE7.out)); have BK49 := Aside0.mk ((hB.block g4 LT74.out).trans BK47.out); clear hD hB; clear hx0 hx1 hx2 hx3 hx4 hx5 hx6 hx7 hx8 hy0 hy1 hy2 hy3 hy4 hz0 hz1 hz2 hz3 hz4 hz5 hz6 hz7 hz8 hf0 hf1 hf2 hf3 hf4 hf5 hf6 hf7 hf8; have hg0 : w9.cell? ⟨g7, 0, none⟩ = some (.int .i64 D9.s) := (blk_cell HD9.out.blk 0).trans rfl; have hg1 : w9.cell? ⟨g7, 1, none⟩ = some (.int .i64 D9.e) := (blk_cell HD9.out.blk 1).trans rfl; have hg2 : w9.cell? ⟨g7, 2, none⟩ = some (.int .i64 D9.h) := (blk_cell HD9.out.blk 2).trans rfl; have hg3 : w9.cell? ⟨g7, 3, none⟩ = some (.int .i64 D9.p) := (blk_cell HD9.out.blk 3).trans rfl; have hg4 : w9.cell? ⟨g7, 4, none⟩ = some (.int .i64 D9.u) := (blk_cell HD9.out.blk 4).trans rfl; have hg5 : w9.cell? ⟨g7, 5, none⟩ = some (.int .i64 D9.l) := (blk_cell HD9.out.blk 5).trans rfl; have hg6 : w9.cell? ⟨g7, 6, none⟩ = some (.int .i64 D9.n) := (blk_cell HD9.out.blk 6).trans rfl; have hg7 : w9.cell? ⟨g7, 7, none⟩ = some (.slice Aw D9.wait.length cw) := (blk_cell HD9.out.blk 7).trans (congrArg some HWV.out); have hg8 : w9.cell? ⟨g7, 8, none⟩ = some ((.slice Am mem.length cm)) := (blk_cell HD9.out.blk 8).trans rfl; have hg14 : w9.cell? ⟨g7, 14, none⟩ = some ((.slice Ao9 D9.out.length co9)) := (blk_cell HD9.out.blk 14).trans rfl; obtain ⟨hz0, hz1, hz2, hz3, hz4, hz5, hz6, hz7, hz8⟩ := cells9 BK49.out; obtain ⟨hf0, hf1, hf2, hf3, hf4, hf5, hf6, hf7, hf8⟩ := froz9 BK49.out))
        have ne1 := NE74.out
        have ne2 := NE74.out.symm
        go_region
        go_wp2
        refine bodyPost_ret (results_ctt rfl _ _ g4 28 #[.int .i64 D9.s, .int .i64 D9.e, .int .i64 D9.h, .int .i64 D9.p, .int .i64 D9.u, .int .i64 D9.l, .int .i64 D9.n, .slice Aw D9.wait.length cw, (.slice Am mem.length cm)] (0, 0) _ rfl (blk_drew (blk_put9 BK49.out)) Try.underlying28 rfl (by kernel_rfl)) rfl ?_
        have hgood := do_good (w := w) (Desk.below (desk_far (desk_far (desk_far (desk_far (desk_far (desk_far (desk_far (desk_far (desk_far HD9.out LT74.out 0 (.int .i64 D9.s)) LT74.out 1 (.int .i64 D9.e)) LT74.out 2 (.int .i64 D9.h)) LT74.out 3 (.int .i64 D9.p)) LT74.out 4 (.int .i64 D9.u)) LT74.out 5 (.int .i64 D9.l)) LT74.out 6 (.int .i64 D9.n)) LT74.out 7 (.slice Aw D9.wait.length cw)) LT74.out 8 ((.slice Am mem.length cm))) (below_drew1 (Below.refl _ _))) GE7.out (below_drew1 (below_set (below_set (below_set (below_set (below_set (below_set (below_set (below_set (below_set HB9'.out GE4.out) GE4.out) GE4.out) GE4.out) GE4.out) GE4.out) GE4.out) GE4.out) GE4.out))
        rw [HWV.out] at hgood
        rw [HZ.out]
        exact hgood
    by_cases ha5 : a.f0 = 5
    · have hl := map_look HM6.out a.f0 4 (.func (.func 38) #[.pointer (some ⟨g7, 0, none⟩)] #[]) (by rw [ha5]; rfl)
      have hfn' := hfn 38
      have t6 : (a.f0 == 6) = false := by rw [ha5]; rfl
      have t3 : (a.f0 == 3) = false := by rw [ha5]; rfl
      have HA := Aside0.mk ha5
      clear ha5 hge hle hnn hfn
      cases fo : floorOk s e h p u l n wait mem with
      | false =>
        have HCHK : Aside0 (floor_Check.f 0 s e h p u l n wait mem = some 1) := Aside0.mk (by unfold floor_Check.f; rw [fo]; rfl)
        have HZ : Aside0 (res = (0, 0, 0, 0, 0, 0, 0, [], [], [], 1)) := Aside0.mk (by rw [HRES.out]; exact if_neg (by unfold doOk; rw [fo, Bool.and_false, Bool.false_and]; simp))
        go_wp2_with (go_at_call 26; refine (floor_Check.calls 0 s e h p u l n A7 c7 wait A8 c8 mem _ W6 (Kd.C_below HR7.out HB6.out) HC7.out (Kd.C_below HR8.out HB6.out) HC8.out HCHK.out).mono ?_; rintro e' w7 ⟨rfl, hb⟩; have BK37 := Aside0.mk (blk_below BK36.out hb); have BK27 := Aside0.mk (blk_below BK26.out hb); have BK47 := Aside0.mk (blk_below BK46.out hb); have HD7 := Aside0.mk (Desk.below HD6.out hb); have HB7 := Aside0.mk (below_step HB6.out hb); clear hb; clear hx0 hx1 hx2 hx3 hx4 hx5 hx6 hx7 hx8 hy0 hy1 hy2 hy3 hy4 hz0 hz1 hz2 hz3 hz4 hz5 hz6 hz7 hz8 hf0 hf1 hf2 hf3 hf4 hf5 hf6 hf7 hf8; obtain ⟨hx0, hx1, hx2, hx3, hx4, hx5, hx6, hx7, hx8⟩ := cells9 BK27.out; obtain ⟨hy0, hy1, hy2, hy3, hy4⟩ := cells5 BK37.out; obtain ⟨hz0, hz1, hz2, hz3, hz4, hz5, hz6, hz7, hz8⟩ := cells9 BK47.out; obtain ⟨hf0, hf1, hf2, hf3, hf4, hf5, hf6, hf7, hf8⟩ := froz9 BK47.out)
        first | (refine bodyPost_ret (results_ctt rfl _ _ g4 28 #[.int .i64 0, .int .i64 0, .int .i64 0, .int .i64 0, .int .i64 0, .int .i64 0, .int .i64 0, .slice none 0 0, .slice none 0 0] (0, 0) _ rfl (blk_put9 BK47.out) Try.underlying28 rfl (by kernel_rfl)) rfl ?_)
        rw [HZ.out]
        exact do_err (below_set (below_set (below_set (below_set (below_set (below_set (below_set (below_set (below_set HB7.out GE4.out) GE4.out) GE4.out) GE4.out) GE4.out) GE4.out) GE4.out) GE4.out) GE4.out)
      | true =>
        have HCHK : Aside0 (floor_Check.f 0 s e h p u l n wait mem = some 0) := Aside0.mk (by unfold floor_Check.f; rw [fo]; rfl)
        have HFO := Aside0.mk fo
        obtain ⟨⟨be0, be1⟩, ⟨bn0, bn1⟩, ⟨bl0, bl1⟩, bm, bw, bp⟩ := floorOk_bounds HFO.out
        by_cases c1 : a.f1 > 0
        rotate_left
        · have c1b : decide (0 < a.f1) = false := decide_eq_false c1
          have HASK : Aside0 (askOk n a = false) := Aside0.mk (by unfold askOk; rw [if_neg (show ¬ (a.f0 = 6) by rw [HA.out]; decide), if_neg (show ¬ (a.f0 = 3) by rw [HA.out]; decide)]; unfold whoOk; rw [decide_eq_false c1]; rfl)
          clear c1
          have HZ : Aside0 (res = (0, 0, 0, 0, 0, 0, 0, [], [], [], 1)) := Aside0.mk (by rw [HRES.out]; exact if_neg (by unfold doOk; rw [HASK.out]; simp))
          go_wp2_with (go_at_call 26; refine (floor_Check.calls 0 s e h p u l n A7 c7 wait A8 c8 mem _ W6 (Kd.C_below HR7.out HB6.out) HC7.out (Kd.C_below HR8.out HB6.out) HC8.out HCHK.out).mono ?_; rintro e' w7 ⟨rfl, hb⟩; have BK37 := Aside0.mk (blk_below BK36.out hb); have BK27 := Aside0.mk (blk_below BK26.out hb); have BK47 := Aside0.mk (blk_below BK46.out hb); have HD7 := Aside0.mk (Desk.below HD6.out hb); have HB7 := Aside0.mk (below_step HB6.out hb); clear hb; clear hx0 hx1 hx2 hx3 hx4 hx5 hx6 hx7 hx8 hy0 hy1 hy2 hy3 hy4 hz0 hz1 hz2 hz3 hz4 hz5 hz6 hz7 hz8 hf0 hf1 hf2 hf3 hf4 hf5 hf6 hf7 hf8; obtain ⟨hx0, hx1, hx2, hx3, hx4, hx5, hx6, hx7, hx8⟩ := cells9 BK27.out; obtain ⟨hy0, hy1, hy2, hy3, hy4⟩ := cells5 BK37.out; obtain ⟨hz0, hz1, hz2, hz3, hz4, hz5, hz6, hz7, hz8⟩ := cells9 BK47.out; obtain ⟨hf0, hf1, hf2, hf3, hf4, hf5, hf6, hf7, hf8⟩ := froz9 BK47.out)
          first | (refine bodyPost_ret (results_ctt rfl _ _ g4 28 #[.int .i64 0, .int .i64 0, .int .i64 0, .int .i64 0, .int .i64 0, .int .i64 0, .int .i64 0, .slice none 0 0, .slice none 0 0] (0, 0) _ rfl (blk_put9 BK47.out) Try.underlying28 rfl (by kernel_rfl)) rfl ?_)
          rw [HZ.out]
          exact do_err (below_set (below_set (below_set (below_set (below_set (below_set (below_set (below_set (below_set HB7.out GE4.out) GE4.out) GE4.out) GE4.out) GE4.out) GE4.out) GE4.out) GE4.out) GE4.out)
        have c1b : decide (0 < a.f1) = true := decide_eq_true c1
        by_cases c2 : a.f1 ≤ 1073741824
        rotate_left
        · have c2b : decide (a.f1 ≤ 1073741824) = false := decide_eq_false c2
          have HASK : Aside0 (askOk n a = false) := Aside0.mk (by unfold askOk; rw [if_neg (show ¬ (a.f0 = 6) by rw [HA.out]; decide), if_neg (show ¬ (a.f0 = 3) by rw [HA.out]; decide)]; unfold whoOk; rw [decide_eq_false c2, Bool.and_false])
          clear c1 c2
          have HZ : Aside0 (res = (0, 0, 0, 0, 0, 0, 0, [], [], [], 1)) := Aside0.mk (by rw [HRES.out]; exact if_neg (by unfold doOk; rw [HASK.out]; simp))
          go_wp2_with (go_at_call 26; refine (floor_Check.calls 0 s e h p u l n A7 c7 wait A8 c8 mem _ W6 (Kd.C_below HR7.out HB6.out) HC7.out (Kd.C_below HR8.out HB6.out) HC8.out HCHK.out).mono ?_; rintro e' w7 ⟨rfl, hb⟩; have BK37 := Aside0.mk (blk_below BK36.out hb); have BK27 := Aside0.mk (blk_below BK26.out hb); have BK47 := Aside0.mk (blk_below BK46.out hb); have HD7 := Aside0.mk (Desk.below HD6.out hb); have HB7 := Aside0.mk (below_step HB6.out hb); clear hb; clear hx0 hx1 hx2 hx3 hx4 hx5 hx6 hx7 hx8 hy0 hy1 hy2 hy3 hy4 hz0 hz1 hz2 hz3 hz4 hz5 hz6 hz7 hz8 hf0 hf1 hf2 hf3 hf4 hf5 hf6 hf7 hf8; obtain ⟨hx0, hx1, hx2, hx3, hx4, hx5, hx6, hx7, hx8⟩ := cells9 BK27.out; obtain ⟨hy0, hy1, hy2, hy3, hy4⟩ := cells5 BK37.out; obtain ⟨hz0, hz1, hz2, hz3, hz4, hz5, hz6, hz7, hz8⟩ := cells9 BK47.out; obtain ⟨hf0, hf1, hf2, hf3, hf4, hf5, hf6, hf7, hf8⟩ := froz9 BK47.out)
          first | (refine bodyPost_ret (results_ctt rfl _ _ g4 28 #[.int .i64 0, .int .i64 0, .int .i64 0, .int .i64 0, .int .i64 0, .int .i64 0, .int .i64 0, .slice none 0 0, .slice none 0 0] (0, 0) _ rfl (blk_put9 BK47.out) Try.underlying28 rfl (by kernel_rfl)) rfl ?_)
          rw [HZ.out]
          exact do_err (below_set (below_set (below_set (below_set (below_set (below_set (below_set (below_set (below_set HB7.out GE4.out) GE4.out) GE4.out) GE4.out) GE4.out) GE4.out) GE4.out) GE4.out) GE4.out)
        have c2b : decide (a.f1 ≤ 1073741824) = true := decide_eq_true c2
        have HASK : Aside0 (askOk n a = true) := Aside0.mk (by unfold askOk; rw [if_neg (show ¬ (a.f0 = 6) by rw [HA.out]; decide), if_neg (show ¬ (a.f0 = 3) by rw [HA.out]; decide)]; unfold whoOk; rw [decide_eq_true c1, decide_eq_true c2]; rfl)
        clear c1 c2
        obtain ⟨D9, hD9⟩ : ∃ D9, D9 = renewD ⟨s, e, h, p, u, l, n, wait, mem, []⟩ a := ⟨_, rfl⟩
        have HZ : Aside0 (res = packD D9) := Aside0.mk (by rw [HRES.out, hD9, if_pos (show doOk s e h p u l n wait mem a = true by unfold doOk; rw [HRNG.out, HFO.out, HASK.out]; rfl)]; unfold doD; rw [if_neg (show ¬ (a.f0 = 1) by rw [HA.out]; decide), if_neg (show ¬ (a.f0 = 2) by rw [HA.out]; decide), if_neg (show ¬ (a.f0 = 3) by rw [HA.out]; decide), if_neg (show ¬ (a.f0 = 4) by rw [HA.out]; decide), if_pos HA.out])
        have H9 := Aside0.mk hD9
        clear hD9
        go_wp2_with (first | (go_at_call 26; refine (floor_Check.calls 0 s e h p u l n A7 c7 wait A8 c8 mem _ W6 (Kd.C_below HR7.out HB6.out) HC7.out (Kd.C_below HR8.out HB6.out) HC8.out HCHK.out).mono ?_; rintro e' w7 ⟨rfl, hb⟩; have BK37 := Aside0.mk (blk_below BK36.out hb); have BK27 := Aside0.mk (blk_below BK26.out hb); have BK47 := Aside0.mk (blk_below BK46.out hb); have HD7 := Aside0.mk (Desk.below HD6.out hb); have HB7 := Aside0.mk (below_step HB6.out hb); clear hb; clear hx0 hx1 hx2 hx3 hx4 hx5 hx6 hx7 hx8 hy0 hy1 hy2 hy3 hy4 hz0 hz1 hz2 hz3 hz4 hz5 hz6 hz7 hz8 hf0 hf1 hf2 hf3 hf4 hf5 hf6 hf7 hf8; obtain ⟨hx0, hx1, hx2, hx3, hx4, hx5, hx6, hx7, hx8⟩ := cells9 BK27.out; obtain ⟨hy0, hy1, hy2, hy3, hy4⟩ := cells5 BK37.out; obtain ⟨hz0, hz1, hz2, hz3, hz4, hz5, hz6, hz7, hz8⟩ := cells9 BK47.out; obtain ⟨hf0, hf1, hf2, hf3, hf4, hf5, hf6, hf7, hf8⟩ := froz9 BK47.out) | (go_at_call 38; refine (renew_calls HD7.out bn0 (by show n ≤ 4398046511104; omega)).mono ?_; rintro e' w9 ⟨rfl, hD, hB⟩; change Desk w9 g7 g7 (renewD ⟨s, e, h, p, u, l, n, wait, mem, []⟩ a) a _ _ _ _ _ at hD; rw [← H9.out] at hD; obtain ⟨Aw, cw, hwv⟩ := waitV_slice Aa ca [] D9.wait; have HWV := Aside0.mk hwv; clear hwv; have HD9 := Aside0.mk hD; have HB9' := Aside0.mk (HB7.out.trans (hB.mono GE7.out)); have BK49 := Aside0.mk ((hB.block g4 LT74.out).trans BK47.out); clear hD hB; clear hx0 hx1 hx2 hx3 hx4 hx5 hx6 hx7 hx8 hy0 hy1 hy2 hy3 hy4 hz0 hz1 hz2 hz3 hz4 hz5 hz6 hz7 hz8 hf0 hf1 hf2 hf3 hf4 hf5 hf6 hf7 hf8; have hg0 : w9.cell? ⟨g7, 0, none⟩ = some (.int .i64 D9.s) := (blk_cell HD9.out.blk 0).trans rfl; have hg1 : w9.cell? ⟨g7, 1, none⟩ = some (.int .i64 D9.e) := (blk_cell HD9.out.blk 1).trans rfl; have hg2 : w9.cell? ⟨g7, 2, none⟩ = some (.int .i64 D9.h) := (blk_cell HD9.out.blk 2).trans rfl; have hg3 : w9.cell? ⟨g7, 3, none⟩ = some (.int .i64 D9.p) := (blk_cell HD9.out.blk 3).trans rfl; have hg4 : w9.cell? ⟨g7, 4, none⟩ = some (.int .i64 D9.u) := (blk_cell HD9.out.blk 4).trans rfl; have hg5 : w9.cell? ⟨g7, 5, none⟩ = some (.int .i64 D9.l) := (blk_cell HD9.out.blk 5).trans rfl; have hg6 : w9.cell? ⟨g7, 6, none⟩ = some (.int .i64 D9.n) := (blk_cell HD9.out.blk 6).trans rfl; have hg7 : w9.cell? ⟨g7, 7, none⟩ = some (.slice Aw D9.wait.length cw) := (blk_cell HD9.out.blk 7).trans (congrArg some HWV.out); have hg8 : w9.cell? ⟨g7, 8, none⟩ = some ((.slice Am mem.length cm)) := (blk_cell HD9.out.blk 8).trans rfl; have hg14 : w9.cell? ⟨g7, 14, none⟩ = some ((.slice none 0 0)) := (blk_cell HD9.out.blk 14).trans rfl; obtain ⟨hz0, hz1, hz2, hz3, hz4, hz5, hz6, hz7, hz8⟩ := cells9 BK49.out; obtain ⟨hf0, hf1, hf2, hf3, hf4, hf5, hf6, hf7, hf8⟩ := froz9 BK49.out))
        have ne1 := NE74.out
        have ne2 := NE74.out.symm
        go_region
        go_wp2
        refine bodyPost_ret (results_ctt rfl _ _ g4 28 #[.int .i64 D9.s, .int .i64 D9.e, .int .i64 D9.h, .int .i64 D9.p, .int .i64 D9.u, .int .i64 D9.l, .int .i64 D9.n, .slice Aw D9.wait.length cw, (.slice Am mem.length cm)] (0, 0) _ rfl (blk_drew (blk_put9 BK49.out)) Try.underlying28 rfl (by kernel_rfl)) rfl ?_
        have hgood := do_good (w := w) (Desk.below (desk_far (desk_far (desk_far (desk_far (desk_far (desk_far (desk_far (desk_far (desk_far HD9.out LT74.out 0 (.int .i64 D9.s)) LT74.out 1 (.int .i64 D9.e)) LT74.out 2 (.int .i64 D9.h)) LT74.out 3 (.int .i64 D9.p)) LT74.out 4 (.int .i64 D9.u)) LT74.out 5 (.int .i64 D9.l)) LT74.out 6 (.int .i64 D9.n)) LT74.out 7 (.slice Aw D9.wait.length cw)) LT74.out 8 ((.slice Am mem.length cm))) (below_drew1 (Below.refl _ _))) GE7.out (below_drew1 (below_set (below_set (below_set (below_set (below_set (below_set (below_set (below_set (below_set HB9'.out GE4.out) GE4.out) GE4.out) GE4.out) GE4.out) GE4.out) GE4.out) GE4.out) GE4.out))
        rw [HWV.out] at hgood
        rw [HZ.out]
        exact hgood
    by_cases ha6 : a.f0 = 6
    · have hl := map_look HM6.out a.f0 5 (.func (.func 39) #[.pointer (some ⟨g7, 0, none⟩)] #[]) (by rw [ha6]; rfl)
      have hfn' := hfn 39
      have t6 : (a.f0 == 6) = true := by rw [ha6]; rfl
      have t3 : (a.f0 == 3) = false := by rw [ha6]; rfl
      have HA := Aside0.mk ha6
      clear ha6 hge hle hnn hfn
      cases fo : floorOk s e h p u l n wait mem with
      | false =>
        have HCHK : Aside0 (floor_Check.f 0 s e h p u l n wait mem = some 1) := Aside0.mk (by unfold floor_Check.f; rw [fo]; rfl)
        have HZ : Aside0 (res = (0, 0, 0, 0, 0, 0, 0, [], [], [], 1)) := Aside0.mk (by rw [HRES.out]; exact if_neg (by unfold doOk; rw [fo, Bool.and_false, Bool.false_and]; simp))
        go_wp2_with (go_at_call 26; refine (floor_Check.calls 0 s e h p u l n A7 c7 wait A8 c8 mem _ W6 (Kd.C_below HR7.out HB6.out) HC7.out (Kd.C_below HR8.out HB6.out) HC8.out HCHK.out).mono ?_; rintro e' w7 ⟨rfl, hb⟩; have BK37 := Aside0.mk (blk_below BK36.out hb); have BK27 := Aside0.mk (blk_below BK26.out hb); have BK47 := Aside0.mk (blk_below BK46.out hb); have HD7 := Aside0.mk (Desk.below HD6.out hb); have HB7 := Aside0.mk (below_step HB6.out hb); clear hb; clear hx0 hx1 hx2 hx3 hx4 hx5 hx6 hx7 hx8 hy0 hy1 hy2 hy3 hy4 hz0 hz1 hz2 hz3 hz4 hz5 hz6 hz7 hz8 hf0 hf1 hf2 hf3 hf4 hf5 hf6 hf7 hf8; obtain ⟨hx0, hx1, hx2, hx3, hx4, hx5, hx6, hx7, hx8⟩ := cells9 BK27.out; obtain ⟨hy0, hy1, hy2, hy3, hy4⟩ := cells5 BK37.out; obtain ⟨hz0, hz1, hz2, hz3, hz4, hz5, hz6, hz7, hz8⟩ := cells9 BK47.out; obtain ⟨hf0, hf1, hf2, hf3, hf4, hf5, hf6, hf7, hf8⟩ := froz9 BK47.out)
        first | (refine bodyPost_ret (results_ctt rfl _ _ g4 28 #[.int .i64 0, .int .i64 0, .int .i64 0, .int .i64 0, .int .i64 0, .int .i64 0, .int .i64 0, .slice none 0 0, .slice none 0 0] (0, 0) _ rfl (blk_put9 BK47.out) Try.underlying28 rfl (by kernel_rfl)) rfl ?_)
        rw [HZ.out]
        exact do_err (below_set (below_set (below_set (below_set (below_set (below_set (below_set (below_set (below_set HB7.out GE4.out) GE4.out) GE4.out) GE4.out) GE4.out) GE4.out) GE4.out) GE4.out) GE4.out)
      | true =>
        have HCHK : Aside0 (floor_Check.f 0 s e h p u l n wait mem = some 0) := Aside0.mk (by unfold floor_Check.f; rw [fo]; rfl)
        have HFO := Aside0.mk fo
        obtain ⟨⟨be0, be1⟩, ⟨bn0, bn1⟩, ⟨bl0, bl1⟩, bm, bw, bp⟩ := floorOk_bounds HFO.out
        by_cases c1 : a.f4 ≥ n
        rotate_left
        · have c1b : decide (n ≤ a.f4) = false := decide_eq_false c1
          have HASK : Aside0 (askOk n a = false) := Aside0.mk (by unfold askOk; rw [if_pos HA.out]; rw [decide_eq_false c1]; rfl)
          clear c1
          have HZ : Aside0 (res = (0, 0, 0, 0, 0, 0, 0, [], [], [], 1)) := Aside0.mk (by rw [HRES.out]; exact if_neg (by unfold doOk; rw [HASK.out]; simp))
          go_wp2_with (go_at_call 26; refine (floor_Check.calls 0 s e h p u l n A7 c7 wait A8 c8 mem _ W6 (Kd.C_below HR7.out HB6.out) HC7.out (Kd.C_below HR8.out HB6.out) HC8.out HCHK.out).mono ?_; rintro e' w7 ⟨rfl, hb⟩; have BK37 := Aside0.mk (blk_below BK36.out hb); have BK27 := Aside0.mk (blk_below BK26.out hb); have BK47 := Aside0.mk (blk_below BK46.out hb); have HD7 := Aside0.mk (Desk.below HD6.out hb); have HB7 := Aside0.mk (below_step HB6.out hb); clear hb; clear hx0 hx1 hx2 hx3 hx4 hx5 hx6 hx7 hx8 hy0 hy1 hy2 hy3 hy4 hz0 hz1 hz2 hz3 hz4 hz5 hz6 hz7 hz8 hf0 hf1 hf2 hf3 hf4 hf5 hf6 hf7 hf8; obtain ⟨hx0, hx1, hx2, hx3, hx4, hx5, hx6, hx7, hx8⟩ := cells9 BK27.out; obtain ⟨hy0, hy1, hy2, hy3, hy4⟩ := cells5 BK37.out; obtain ⟨hz0, hz1, hz2, hz3, hz4, hz5, hz6, hz7, hz8⟩ := cells9 BK47.out; obtain ⟨hf0, hf1, hf2, hf3, hf4, hf5, hf6, hf7, hf8⟩ := froz9 BK47.out)
          first | (refine bodyPost_ret (results_ctt rfl _ _ g4 28 #[.int .i64 0, .int .i64 0, .int .i64 0, .int .i64 0, .int .i64 0, .int .i64 0, .int .i64 0, .slice none 0 0, .slice none 0 0] (0, 0) _ rfl (blk_put9 BK47.out) Try.underlying28 rfl (by kernel_rfl)) rfl ?_)
          rw [HZ.out]
          exact do_err (below_set (below_set (below_set (below_set (below_set (below_set (below_set (below_set (below_set HB7.out GE4.out) GE4.out) GE4.out) GE4.out) GE4.out) GE4.out) GE4.out) GE4.out) GE4.out)
        have c1b : decide (n ≤ a.f4) = true := decide_eq_true c1
        by_cases c2 : a.f4 ≤ 1099511627776
        rotate_left
        · have c2b : decide (a.f4 ≤ 1099511627776) = false := decide_eq_false c2
          have HASK : Aside0 (askOk n a = false) := Aside0.mk (by unfold askOk; rw [if_pos HA.out]; rw [decide_eq_false c2, Bool.and_false])
          clear c1 c2
          have HZ : Aside0 (res = (0, 0, 0, 0, 0, 0, 0, [], [], [], 1)) := Aside0.mk (by rw [HRES.out]; exact if_neg (by unfold doOk; rw [HASK.out]; simp))
          go_wp2_with (go_at_call 26; refine (floor_Check.calls 0 s e h p u l n A7 c7 wait A8 c8 mem _ W6 (Kd.C_below HR7.out HB6.out) HC7.out (Kd.C_below HR8.out HB6.out) HC8.out HCHK.out).mono ?_; rintro e' w7 ⟨rfl, hb⟩; have BK37 := Aside0.mk (blk_below BK36.out hb); have BK27 := Aside0.mk (blk_below BK26.out hb); have BK47 := Aside0.mk (blk_below BK46.out hb); have HD7 := Aside0.mk (Desk.below HD6.out hb); have HB7 := Aside0.mk (below_step HB6.out hb); clear hb; clear hx0 hx1 hx2 hx3 hx4 hx5 hx6 hx7 hx8 hy0 hy1 hy2 hy3 hy4 hz0 hz1 hz2 hz3 hz4 hz5 hz6 hz7 hz8 hf0 hf1 hf2 hf3 hf4 hf5 hf6 hf7 hf8; obtain ⟨hx0, hx1, hx2, hx3, hx4, hx5, hx6, hx7, hx8⟩ := cells9 BK27.out; obtain ⟨hy0, hy1, hy2, hy3, hy4⟩ := cells5 BK37.out; obtain ⟨hz0, hz1, hz2, hz3, hz4, hz5, hz6, hz7, hz8⟩ := cells9 BK47.out; obtain ⟨hf0, hf1, hf2, hf3, hf4, hf5, hf6, hf7, hf8⟩ := froz9 BK47.out)
          first | (refine bodyPost_ret (results_ctt rfl _ _ g4 28 #[.int .i64 0, .int .i64 0, .int .i64 0, .int .i64 0, .int .i64 0, .int .i64 0, .int .i64 0, .slice none 0 0, .slice none 0 0] (0, 0) _ rfl (blk_put9 BK47.out) Try.underlying28 rfl (by kernel_rfl)) rfl ?_)
          rw [HZ.out]
          exact do_err (below_set (below_set (below_set (below_set (below_set (below_set (below_set (below_set (below_set HB7.out GE4.out) GE4.out) GE4.out) GE4.out) GE4.out) GE4.out) GE4.out) GE4.out) GE4.out)
        have c2b : decide (a.f4 ≤ 1099511627776) = true := decide_eq_true c2
        have HASK : Aside0 (askOk n a = true) := Aside0.mk (by unfold askOk; rw [if_pos HA.out]; rw [decide_eq_true c1, decide_eq_true c2]; rfl)
        have q40 : 0 ≤ a.f4 := by omega
        have q41 : a.f4 ≤ 4398046511104 := by omega
        have Q40 := Aside0.mk q40
        have Q41 := Aside0.mk q41
        clear c1 c2 q40 q41
        obtain ⟨D9, hD9⟩ : ∃ D9, D9 = tickD ⟨s, e, h, p, u, l, n, wait, mem, []⟩ a := ⟨_, rfl⟩
        have HZ : Aside0 (res = packD D9) := Aside0.mk (by rw [HRES.out, hD9, if_pos (show doOk s e h p u l n wait mem a = true by unfold doOk; rw [HRNG.out, HFO.out, HASK.out]; rfl)]; unfold doD; rw [if_neg (show ¬ (a.f0 = 1) by rw [HA.out]; decide), if_neg (show ¬ (a.f0 = 2) by rw [HA.out]; decide), if_neg (show ¬ (a.f0 = 3) by rw [HA.out]; decide), if_neg (show ¬ (a.f0 = 4) by rw [HA.out]; decide), if_neg (show ¬ (a.f0 = 5) by rw [HA.out]; decide)])
        have H9 := Aside0.mk hD9
        clear hD9
        go_wp2_with (first | (go_at_call 26; refine (floor_Check.calls 0 s e h p u l n A7 c7 wait A8 c8 mem _ W6 (Kd.C_below HR7.out HB6.out) HC7.out (Kd.C_below HR8.out HB6.out) HC8.out HCHK.out).mono ?_; rintro e' w7 ⟨rfl, hb⟩; have BK37 := Aside0.mk (blk_below BK36.out hb); have BK27 := Aside0.mk (blk_below BK26.out hb); have BK47 := Aside0.mk (blk_below BK46.out hb); have HD7 := Aside0.mk (Desk.below HD6.out hb); have HB7 := Aside0.mk (below_step HB6.out hb); clear hb; clear hx0 hx1 hx2 hx3 hx4 hx5 hx6 hx7 hx8 hy0 hy1 hy2 hy3 hy4 hz0 hz1 hz2 hz3 hz4 hz5 hz6 hz7 hz8 hf0 hf1 hf2 hf3 hf4 hf5 hf6 hf7 hf8; obtain ⟨hx0, hx1, hx2, hx3, hx4, hx5, hx6, hx7, hx8⟩ := cells9 BK27.out; obtain ⟨hy0, hy1, hy2, hy3, hy4⟩ := cells5 BK37.out; obtain ⟨hz0, hz1, hz2, hz3, hz4, hz5, hz6, hz7, hz8⟩ := cells9 BK47.out; obtain ⟨hf0, hf1, hf2, hf3, hf4, hf5, hf6, hf7, hf8⟩ := froz9 BK47.out) | (go_at_call 39; refine (tick_calls HD7.out (by show ([] : List S38).length ≤ 1000; decide) be0 (by show e ≤ 4398046511104; omega) Q40.out Q41.out bl0 (by show l ≤ 4398046511104; omega)).mono ?_; rintro e' w9 ⟨rfl, ⟨pre, vo', hD⟩, hB⟩; change Desk w9 g7 g7 (tickD ⟨s, e, h, p, u, l, n, wait, mem, []⟩ a) a _ _ _ _ _ at hD; rw [← H9.out] at hD; obtain ⟨Ao9, co9, hvo⟩ := Kd.R_slice hD.out; subst hvo; obtain ⟨Aw, cw, hwv⟩ := waitV_slice Aa ca pre D9.wait; have HWV := Aside0.mk hwv; clear hwv; have HD9 := Aside0.mk hD; have HB9' := Aside0.mk (HB7.out.trans (hB.mono GE7.out)); have BK49 := Aside0.mk ((hB.block g4 LT74.out).trans BK47.out); clear hD hB; clear hx0 hx1 hx2 hx3 hx4 hx5 hx6 hx7 hx8 hy0 hy1 hy2 hy3 hy4 hz0 hz1 hz2 hz3 hz4 hz5 hz6 hz7 hz8 hf0 hf1 hf2 hf3 hf4 hf5 hf6 hf7 hf8; have hg0 : w9.cell? ⟨g7, 0, none⟩ = some (.int .i64 D9.s) := (blk_cell HD9.out.blk 0).trans rfl; have hg1 : w9.cell? ⟨g7, 1, none⟩ = some (.int .i64 D9.e) := (blk_cell HD9.out.blk 1).trans rfl; have hg2 : w9.cell? ⟨g7, 2, none⟩ = some (.int .i64 D9.h) := (blk_cell HD9.out.blk 2).trans rfl; have hg3 : w9.cell? ⟨g7, 3, none⟩ = some (.int .i64 D9.p) := (blk_cell HD9.out.blk 3).trans rfl; have hg4 : w9.cell? ⟨g7, 4, none⟩ = some (.int .i64 D9.u) := (blk_cell HD9.out.blk 4).trans rfl; have hg5 : w9.cell? ⟨g7, 5, none⟩ = some (.int .i64 D9.l) := (blk_cell HD9.out.blk 5).trans rfl; have hg6 : w9.cell? ⟨g7, 6, none⟩ = some (.int .i64 D9.n) := (blk_cell HD9.out.blk 6).trans rfl; have hg7 : w9.cell? ⟨g7, 7, none⟩ = some (.slice Aw D9.wait.length cw) := (blk_cell HD9.out.blk 7).trans (congrArg some HWV.out); have hg8 : w9.cell? ⟨g7, 8, none⟩ = some ((.slice Am mem.length cm)) := (blk_cell HD9.out.blk 8).trans rfl; have hg14 : w9.cell? ⟨g7, 14, none⟩ = some ((.slice Ao9 D9.out.length co9)) := (blk_cell HD9.out.blk 14).trans rfl; obtain ⟨hz0, hz1, hz2, hz3, hz4, hz5, hz6, hz7, hz8⟩ := cells9 BK49.out; obtain ⟨hf0, hf1, hf2, hf3, hf4, hf5, hf6, hf7, hf8⟩ := froz9 BK49.out))
        have ne1 := NE74.out
        have ne2 := NE74.out.symm
        go_region
        go_wp2
        refine bodyPost_ret (results_ctt rfl _ _ g4 28 #[.int .i64 D9.s, .int .i64 D9.e, .int .i64 D9.h, .int .i64 D9.p, .int .i64 D9.u, .int .i64 D9.l, .int .i64 D9.n, .slice Aw D9.wait.length cw, (.slice Am mem.length cm)] (0, 0) _ rfl (blk_drew (blk_put9 BK49.out)) Try.underlying28 rfl (by kernel_rfl)) rfl ?_
        have hgood := do_good (w := w) (Desk.below (desk_far (desk_far (desk_far (desk_far (desk_far (desk_far (desk_far (desk_far (desk_far HD9.out LT74.out 0 (.int .i64 D9.s)) LT74.out 1 (.int .i64 D9.e)) LT74.out 2 (.int .i64 D9.h)) LT74.out 3 (.int .i64 D9.p)) LT74.out 4 (.int .i64 D9.u)) LT74.out 5 (.int .i64 D9.l)) LT74.out 6 (.int .i64 D9.n)) LT74.out 7 (.slice Aw D9.wait.length cw)) LT74.out 8 ((.slice Am mem.length cm))) (below_drew1 (Below.refl _ _))) GE7.out (below_drew1 (below_set (below_set (below_set (below_set (below_set (below_set (below_set (below_set (below_set HB9'.out GE4.out) GE4.out) GE4.out) GE4.out) GE4.out) GE4.out) GE4.out) GE4.out) GE4.out))
        rw [HWV.out] at hgood
        rw [HZ.out]
        exact hgood
    exfalso; omega
end Go.Proofs.Ytflfmpfmnhpbmaa.PA

/- floor.Do: its contract, as the printed texts want it. -/
namespace Go.Proofs.Ytflfmpfmnhpbmaa.PA
open Go.RowKit Go.Proofs.YtflfmpfmnhpbmaaW.PrintWords Go.Proofs.YtflfmpfmnhpbmaaW.PrintLast Go.Proofs.YtflfmpfmnhpbmaaW.PrintMore
set_option linter.unusedVariables false
set_option linter.unusedSimpArgs false
theorem floor_Do.calls (k : Nat) (s e h p u l n : Int) (A7 : Option Addr) (c7 : Nat) (wait : List S43) (A8 : Option Addr) (c8 : Nat) (mem : List Int) (b0 b1 b2 b3 b4 : Int) (r1 r2 r3 r4 r5 r6 r7 : Int) (r8 : List S43) (r9 : List Int) (r10 : List S38) (r11 : Int) (w : World)
    (hr7 : Kd.C k43 w A7 wait.length wait) (hc7 : wait.length ≤ c7) (hr8 : Kd.C (Kd.int .i64) w A8 mem.length mem) (hc8 : mem.length ≤ c8)
    (hf : floor_Do.f k s e h p u l n wait mem b0 b1 b2 b3 b4 = some (r1, r2, r3, r4, r5, r6, r7, r8, r9, r10, r11)) :
    Calls Try.prog 14 #[.agg #[.int .i64 s, .int .i64 e, .int .i64 h, .int .i64 p, .int .i64 u, .int .i64 l, .int .i64 n, .slice A7 wait.length c7, .slice A8 mem.length c8], .agg #[.int .i64 b0, .int .i64 b1, .int .i64 b2, .int .i64 b3, .int .i64 b4]] w fun e' w' =>
      ∃ v7_ v8_ v9_ : Value, e' = .returned (.tuple #[.agg #[.int .i64 r1, .int .i64 r2, .int .i64 r3, .int .i64 r4, .int .i64 r5, .int .i64 r6, .int .i64 r7, v7_, v8_], v9_, .int .i64 r11]) ∧ Kd.V k43 43 w' w.heap.size (fun k_ => (w.heap.size ≤ k_) ∧ some k_ ≠ (v8_ : Value).ownBlock ∧ some k_ ≠ (v9_ : Value).ownBlock) v7_ r8 ∧ Kd.R (Kd.int .i64) 3 w' w.heap.size (fun k_ => (w.heap.size ≤ k_)) v8_ r9 ∧ Kd.R k38 38 w' w.heap.size (fun k_ => (w.heap.size ≤ k_)) v9_ r10 ∧ Below w.heap.size w w' := by
  unfold floor_Do.f at hf
  split at hf
  · rename_i hlen
    refine (do_head ⟨b0, b1, b2, b3, b4⟩ hr7 hc7 hr8 hc8 hlen.1 hlen.2 (r1, r2, r3, r4, r5, r6, r7, r8, r9, r10, r11) ?_).mono (fun e' w' hp => hp)
    split at hf
    · rename_i hk
      rw [if_pos hk]
      exact (Option.some.inj hf).symm
    · rename_i hk
      rw [if_neg hk]
      exact (Option.some.inj hf).symm
  · exact absurd hf (by simp)
end Go.Proofs.Ytflfmpfmnhpbmaa.PA

