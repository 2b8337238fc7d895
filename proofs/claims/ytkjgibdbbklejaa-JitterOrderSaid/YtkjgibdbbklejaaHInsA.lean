/- slices.Insert of one element, walked by hand. -/
import Derived.Test.YtkjgibdbbklejaaHIns
namespace Go.Proofs.Ytkjgibdbbklejaa.PA
open Go.RowKit Go.Proofs.YtkjgibdbbklejaaW.PrintWords Go.Proofs.YtkjgibdbbklejaaW.PrintLast Go.Proofs.YtkjgibdbbklejaaW.PrintMore
set_option linter.unusedVariables false
set_option linter.unusedSimpArgs false

theorem ins_info : (Try.prog.info? 41).map (fun i => (i.zero, i.size, i.bytes)) = some (some (.agg #[.int .i64 0, .slice none 0 0]), 2, 32) := by kernel_rfl
theorem ins_sz : (Try.prog.info? 41).map (fun i => i.size) = some 2 := by kernel_rfl
theorem ins_size (w : World) : (Go.sizeOf 41).run Try.prog w = .ok 2 w := by kernel_rfl
theorem ins_apart (w : World) (vb g o : Nat) (ys cur : Array Value) (m vc lb cb : Nat) (hne : vb ≠ g) (hv : w.heap[vb]? = some (.cells ys 41 (0, 0))) (hg : w.heap[g]? = some (.cells cur 41 (0, 0))) (hcur : cur.size ≠ 0) :
    (callFunc 47 #[.slice (some ⟨vb, 0, none⟩) m vc, .slice (some ⟨g, o, none⟩) lb cb]).run Try.prog w = .ok (.value (.bool false)) w := by
  rw [run_callFunc_extern Try.func47 (by kernel_rfl) (by kernel_rfl) (by kernel_rfl) (e := Extern.SlicesOverlaps.overlaps #[24, 24] #[4]) (by kernel_rfl),
    Lib.run_overlaps_apart w 24 4 41 Try.underlying24 2 ins_size ⟨vb, 0, none⟩ ⟨g, o, none⟩ m vc lb cb hne 41 41 ys.size cur.size (by simp [World.shape?, hv]) (by simp [World.shape?, hg]) hcur (blk_frozen hv _) (blk_frozen hv _)]
  rfl

set_option maxHeartbeats 4000000 in
set_option maxRecDepth 100000 in
/-- At the end. -/
theorem ins_end {α : Type} (d : Kd α) (hsz : d.sz = 2) {w : World} {base vb : Nat} {ok okp : Nat → Prop} {A : Option Addr} {c : Nat} {xs : List α} {p : α} {ys : List Value} (HO : d.R 41 w base ok (.slice A xs.length c) xs)
    (hv : w.heap[vb]? = some (.cells ys.toArray 41 (0, 0))) (hp : d.M w base okp p ys) (hokp : ∀ k, okp k → ok k ∧ some k ≠ (Value.slice A xs.length c).ownBlock) (hfresh : ∀ k, w.heap.size ≤ k → ok k)
    (hl : (xs.length + 1) * 32 ≤ 140737488355328) (hbase : base ≤ w.heap.size) :
    Calls Try.prog 35 #[.slice A xs.length c, .int .i64 xs.length, .slice (some ⟨vb, 0, none⟩) 1 1] w fun e w' => ∃ v1, e = .returned v1 ∧ d.R 41 w' base ok v1 (xs ++ [p]) ∧ Below base w w' ∧ w.grownBy w' (Value.slice A xs.length c).ownBlock ∧ (v1.ownBlock = (Value.slice A xs.length c).ownBlock ∨ ∃ b, v1.ownBlock = some b ∧ w.heap.size ≤ b) := by
  have hnc := (Kd.R_reads' HO).2.1
  have hle : xs.length + 1 ≤ 140737488355328 := Nat.le_trans (Nat.le_mul_of_pos_right _ (by decide)) hl
  have HR : ReadsRow (fun x cs => x = p ∧ cs = ys) d.sz w (some ⟨vb, 0, none⟩) 1 [p] := by
    refine ⟨rfl, by decide, fun _ => ⟨_, rfl, fun j q hj => ?_⟩⟩
    cases j with
    | zero =>
      obtain rfl : p = q := by simpa using hj
      refine ⟨ys, d.K_len (d.K_of_M hp), ⟨rfl, rfl⟩, fun i u hu => ?_⟩
      rw [add_plain, blk_cell hv, Nat.zero_mul, Nat.zero_add]
      simpa using hu
    | succ j => simp at hj
  have HO1 := Aside0.mk HO
  clear HO
  have hcc : (xs.length : Int) ≤ (c : Int) := by omega
  rcases Nat.eq_or_lt_of_le hnc with hceq | hclt
  · subst hceq
    go_enter Try.func35, Try.ntmps35
    go_wp2_with (at_builtin; refine Kd.R_append_rows (P := Try.prog) d (Rr := fun x cs => x = p ∧ cs = ys) (w0 := w) base rfl _ _ 24 41 (.agg #[.int .i64 0, .slice none 0 0]) 32 rfl Try.underlying24 (by rw [hsz]; exact ins_info) (by rw [hsz]; rfl) (by rw [hsz]; decide) (by decide) (.slice A xs.length xs.length) xs [p] (some ⟨vb, 0, none⟩) 1 1 ok okp rfl rfl HO1.out HR (fun x cs hx => by rw [hx.1, hx.2]; exact hp) hokp hfresh (Below.refl _ _) hbase hl ?_; intro v1 w1 hR1 hB1 hg1 hat1)
    go_ret
    exact ⟨_, rfl, hR1, hB1, hg1, hat1⟩
  have hcne : ¬ (c = xs.length) := by omega
  go_enter Try.func35, Try.ntmps35
  go_wp2_with (at_builtin; refine Kd.R_append_rows (P := Try.prog) d (Rr := fun x cs => x = p ∧ cs = ys) (w0 := w) base rfl _ _ 24 41 (.agg #[.int .i64 0, .slice none 0 0]) 32 rfl Try.underlying24 (by rw [hsz]; exact ins_info) (by rw [hsz]; rfl) (by rw [hsz]; decide) (by decide) (.slice A xs.length c) xs [p] (some ⟨vb, 0, none⟩) 1 1 ok okp rfl rfl HO1.out HR (fun x cs hx => by rw [hx.1, hx.2]; exact hp) hokp hfresh (Below.refl _ _) hbase hl ?_; intro v1 w1 hR1 hB1 hg1 hat1)
  go_ret
  exact ⟨_, rfl, hR1, hB1, hg1, hat1⟩

set_option maxHeartbeats 4000000 in
set_option maxRecDepth 100000 in
/-- There is room: in place. -/
theorem ins_room {w : World} {g vb n c i : Nat} {ys : List Value} {cur : Array Value} (hh : w.heap[g]? = some (.cells cur 41 (0, 0))) (hcs : cur.size = c * 2) (hi : i < n) (hroom : n + 1 ≤ c) (hc63 : c ≤ 9223372036854775807)
    (hv : w.heap[vb]? = some (.cells ys.toArray 41 (0, 0))) (hyl : ys.length = 2) (hyo : ∀ u ∈ ys, u.oneCell' = true) (hxo : ∀ u ∈ cur.toList.take (n * 2), u.oneCell' = true) (hne : vb ≠ g) :
    Calls Try.prog 35 #[.slice (some ⟨g, 0, none⟩) n c, .int .i64 i, .slice (some ⟨vb, 0, none⟩) 1 1] w fun e w' => e = .returned (.slice (some ⟨g, 0, none⟩) (n + 1) c) ∧ ∃ q, w' = ((w.drewN q).setCells g ((i + 1) * 2) ((cur.toList.take (n * 2)).drop (i * 2))).setCells g (i * 2) ys := by
  have hz2 : ¬ ((i : Int) = (n : Int)) := by omega
  have hcur : cur.size ≠ 0 := by rw [hcs]; omega
  obtain ⟨cs, hcsd⟩ : ∃ cs, cs = (cur.toList.take (n * 2)).drop (i * 2) := ⟨_, rfl⟩
  have hcl : cs.length = (n - i) * 2 := by rw [hcsd, List.length_drop, List.length_take, Array.length_toList, hcs]; omega
  have hov := fun (o lb cb : Nat) => ins_apart w vb g o ys.toArray cur 1 1 lb cb hne hv hh hcur
  have hcell := fun i => cell_of_row w g i _ _ _ hh
  have hcp1 : ∀ ty dc sc, (Builtin.copy_ #[24, 24] ty #[.slice (some ⟨g, (i + 1) * 2, none⟩) (n - i) dc, .slice (some ⟨g, i * 2, none⟩) (n + 1 - i) sc]).run Try.prog w.drew = .ok (goInt (Nat.min (n + 1 - i) (n - i))) (w.drew.setCells g ((i + 1) * 2) cs) := fun ty dc sc =>
    run_copy_row w.drew 24 24 ty 41 2 g ((i + 1) * 2) _ dc ⟨g, i * 2, none⟩ _ sc cs cur 41 Try.underlying24 ins_sz (by rw [hcl]; simp only [Nat.min_def]; split <;> omega)
      (fun j u hj => by
        rw [Addr.add_lit, cell_of_row w.drew g _ _ _ _ hh]
        rw [hcsd, List.getElem?_drop] at hj
        have hlt := (List.getElem?_eq_some_iff.1 hj).1
        rw [List.length_take] at hlt
        rw [List.getElem?_take_of_lt (by omega)] at hj
        simpa using hj)
      hh (by rw [hcl, hcs]; omega) (fun u hu => hxo u (by rw [hcsd] at hu; exact List.mem_of_mem_drop hu))
  have hfit1 : (i + 1) * 2 + cs.length ≤ cur.size := by rw [hcl, hcs]; omega
  obtain ⟨cur', h3, h4, h5⟩ := setCells_row (e := 41) cs ((i + 1) * 2) w.drew cur hh hfit1
  have hv' : (w.drew.setCells g ((i + 1) * 2) cs).heap[vb]? = some (.cells ys.toArray 41 (0, 0)) := by rw [setCells_far _ _ vb hne]; exact hv
  obtain ⟨W1, hW1⟩ : ∃ W1, W1 = w.drew.setCells g ((i + 1) * 2) cs := ⟨_, rfl⟩
  rw [← hW1] at hcp1 hv' h3
  have hcp2 : ∀ ty dc, (Builtin.copy_ #[24, 24] ty #[.slice (some ⟨g, i * 2, none⟩) (n + 1 - i) dc, .slice (some ⟨vb, 0, none⟩) 1 1]).run Try.prog W1 = .ok (goInt (Nat.min 1 (n + 1 - i))) (W1.setCells g (i * 2) ys) := fun ty dc =>
    run_copy_row W1 24 24 ty 41 2 g (i * 2) _ dc ⟨vb, 0, none⟩ 1 1 ys cur' 41 Try.underlying24 ins_sz (by rw [hyl]; simp only [Nat.min_def]; split <;> omega)
      (fun j u hj => by rw [Addr.add_lit, blk_cell hv', Nat.zero_add]; simpa using hj) h3 (by rw [h4, hcs, hyl]; omega) hyo
  obtain ⟨W2, hW2⟩ : ∃ W2, W2 = W1.setCells g (i * 2) ys := ⟨_, rfl⟩
  rw [← hW2] at hcp2
  rw [← hcsd]
  have hw1 : IntKind.i64.wrap ((i : Int) + 1) = (i : Int) + 1 := by rw [IntKind.wrap_i64]; omega
  have hw2 : IntKind.i64.wrap ((n : Int) + 1) = (n : Int) + 1 := by rw [IntKind.wrap_i64]; omega
  have hb1 : (0 : Int) ≤ (i : Int) + 1 := by omega
  have hin : (i : Int) ≤ (n : Int) := by omega
  have htn : ((i : Int) + 1).toNat = i + 1 := by omega
  have htn2 : ((n : Int) + 1).toNat = n + 1 := by omega
  have hb2 : ¬ (c = i + 1) := by omega
  have hb3 : (i : Int) ≤ (n : Int) + 1 := by omega
  have hb4 : ¬ (c = i) := by omega
  have hb5 : ¬ ((c : Int) < (n : Int) + 1) := by omega
  have hb6 : (n : Int) + 1 ≤ (c : Int) := by omega
  replace hW1 := Aside0.mk hW1
  replace hW2 := Aside0.mk hW2
  clear hcl hfit1 hcs hcur h3 h4 h5 hcsd
  go_enter Try.func35, Try.ntmps35
  go_wp2_with (simp only [hov])
  go_region_law (refine step_copy_runI (by rfl) (.tmp 73) (.tmp 76) 24 24 (by rfl) (.slice (some ⟨g, (i + 1) * 2, none⟩) (n - i) (c - (i + 1))) (.slice (some ⟨g, i * 2, none⟩) (n + 1 - i) (c - i)) (by simp [Act.eval, Act.put]) (by simp [Act.eval, Act.put]) (hcp1 3 (c - (i + 1)) (c - i)) ?_)
  go_wp2_with (refine wpList_copy_runI _ rfl (.tmp 80) (.tmp 81) 24 24 rfl (.slice (some ⟨g, i * 2, none⟩) (n + 1 - i) (c - i)) (.slice (some ⟨vb, 0, none⟩) 1 1) rfl rfl (hcp2 3 (c - i)) ?_)
  go_ret
  exact ⟨rfl, 1, by rw [hW2.out, hW1.out]; rfl⟩

set_option maxHeartbeats 4000000 in
set_option maxRecDepth 100000 in
/-- There is no room: a new row. -/
theorem ins_grow {w : World} {g vb n i : Nat} {ys : List Value} {cur : Array Value} (hh : w.heap[g]? = some (.cells cur 41 (0, 0))) (hcs : cur.size = n * 2) (hi : i < n)
    (hv : w.heap[vb]? = some (.cells ys.toArray 41 (0, 0))) (hyl : ys.length = 2) (hyo : ∀ u ∈ ys, u.oneCell' = true) (hxo : ∀ u ∈ cur.toList, u.oneCell' = true) (hbytes : (n + 1) * 32 ≤ 140737488355328) :
    Calls Try.prog 35 #[.slice (some ⟨g, 0, none⟩) n n, .int .i64 i, .slice (some ⟨vb, 0, none⟩) 1 1] w fun e w' => ∃ C cur', e = .returned (.slice (some ⟨w.heap.size, 0, none⟩) (n + 1) C) ∧ n + 1 ≤ C ∧ C ≤ maxLen ∧ w'.heap[w.heap.size]? = some (.cells cur' 41 (0, 0)) ∧ cur'.size = C * 2 ∧ cur'.toList.take ((n + 1) * 2) = cur.toList.take (i * 2) ++ ys ++ cur.toList.drop (i * 2) ∧ w.grownBy w' (some g) ∧ Below w.heap.size w w' := by
  have hz2 : ¬ ((i : Int) = (n : Int)) := by omega
  have hle : n + 1 ≤ 140737488355328 := Nat.le_trans (Nat.le_mul_of_pos_right _ (by decide)) hbytes
  obtain ⟨m, hm⟩ : ∃ m, n + 1 = i + m := ⟨n + 1 - i, by omega⟩
  have hsum : (n : Int) + 1 - (i : Int) = (m : Int) := by omega
  have hll : cur.toList.length = n * 2 := by rw [Array.length_toList, hcs]
  have hgl := blk_lt hh
  have hvl := blk_lt hv
  obtain ⟨i0, hi0, hzz⟩ := Option.map_eq_some_iff.1 ins_info
  simp only [Prod.mk.injEq] at hzz
  obtain ⟨hz0, hz1, hzb⟩ := hzz
  have happ0 := run_grow_zeros (P := Try.prog) w 24 3 24 41 i0 _ 2 32 Try.underlying24 Try.underlying3 hi0 hz0 hz1 hzb (by decide) ⟨g, 0, none⟩ i n (cur.toList.take (i * 2)) (by rw [List.length_take, hll]; omega)
    (fun j u hj => by
      rw [add_plain, blk_cell hh]
      have hlt := (List.getElem?_eq_some_iff.1 hj).1
      rw [List.length_take] at hlt
      rw [List.getElem?_take_of_lt (by omega)] at hj
      simpa using hj) .i64 m (by omega) (by omega) (by rw [← hm]; exact hbytes) (by decide)
  rw [← hm, ← hsum] at happ0
  obtain ⟨C, hCd⟩ : ∃ C, C = grownCap w (n + 1) n 41 := ⟨_, rfl⟩
  have hC1 : n + 1 ≤ C := by rw [hCd]; exact grownCap_ge w (n + 1) n 41
  have hC2 : C ≤ maxLen := by rw [hCd]; exact grownCap_le_maxLen w (n + 1) n 41 (by simp only [maxLen]; omega)
  rw [← hCd] at happ0
  obtain ⟨L, hL⟩ : ∃ L, L = (cur.toList.take (i * 2)).toArray ++ Builtin.zeroCells (Value.cells (.agg #[.int .i64 0, .slice none 0 0])) m ++ Builtin.zeroCells (Value.cells (.agg #[.int .i64 0, .slice none 0 0])) (C - (n + 1)) := ⟨_, rfl⟩
  rw [← hL] at happ0
  have hzs : (Value.cells (.agg #[.int .i64 0, .slice none 0 0])).size = 2 := by kernel_rfl
  have hLs : L.size = C * 2 := by
    rw [hL, Array.size_append, Array.size_append, size_zeroCells, size_zeroCells, hzs, List.size_toArray, List.length_take, hll]
    omega
  have hLt : L.toList.take (i * 2) = cur.toList.take (i * 2) := by
    rw [hL, Array.toList_append, Array.toList_append, List.append_assoc]
    rw [List.take_append_of_le_length (by rw [List.length_take, hll]; omega), List.take_take, Nat.min_self]
  obtain ⟨H, hH⟩ : ∃ H, H = w.heap.size := ⟨_, rfl⟩
  obtain ⟨W1, hW1⟩ : ∃ W1, W1 = w.drew.alloc (.cells L 41) := ⟨_, rfl⟩
  rw [← hW1, ← hH] at happ0
  have hneg : g ≠ H := by omega
  have hnev : vb ≠ H := by omega
  have h1H : W1.heap[H]? = some (.cells L 41 (0, 0)) := by rw [hW1, hH]; exact heap_alloc_new w.drew _
  have h1k : ∀ k, k < H → W1.heap[k]? = w.heap[k]? := fun k hk => by rw [hW1]; exact heap_alloc_old w.drew _ (by show k < w.heap.size; omega)
  have hB1 : Below w.heap.size w W1 := by rw [hW1]; exact below_alloc (below_drew1 (Below.refl _ _)) _
  have happ : (Builtin.append_ #[24, 3] 24 #[.slice (some ⟨g, 0, none⟩) i n, .int .i64 ((n : Int) + 1 - i)]).run Try.prog w = .ok (.slice (some ⟨H, 0, none⟩) (n + 1) C) W1 := happ0
  have hcp1 : ∀ ty dc, (Builtin.copy_ #[24, 24] ty #[.slice (some ⟨H, i * 2, none⟩) (n + 1 - i) dc, .slice (some ⟨vb, 0, none⟩) 1 1]).run Try.prog W1 = .ok (goInt (Nat.min 1 (n + 1 - i))) (W1.setCells H (i * 2) ys) := fun ty dc =>
    run_copy_row W1 24 24 ty 41 2 H (i * 2) _ dc ⟨vb, 0, none⟩ 1 1 ys L 41 Try.underlying24 ins_sz (by rw [hyl]; simp only [Nat.min_def]; split <;> omega)
      (fun j u hj => by rw [Addr.add_lit, blk_cell ((h1k vb (by omega)).trans hv), Nat.zero_add]; simpa using hj) h1H (by rw [hLs, hyl]; omega) hyo
  obtain ⟨L2, h2H, h2s, h2l⟩ := setCells_row (e := 41) ys (i * 2) W1 L h1H (by rw [hLs, hyl]; omega)
  obtain ⟨W2, hW2⟩ : ∃ W2, W2 = W1.setCells H (i * 2) ys := ⟨_, rfl⟩
  rw [← hW2] at hcp1 h2H
  have h2k : ∀ k, k < H → W2.heap[k]? = w.heap[k]? := fun k hk => by rw [hW2, setCells_far _ _ k (by omega)]; exact h1k k hk
  obtain ⟨t1, t2, t3, t4⟩ := setCells_same H ys (i * 2) W1
  obtain ⟨cs, hcsd⟩ : ∃ cs, cs = cur.toList.drop (i * 2) := ⟨_, rfl⟩
  have hcl : cs.length = (n - i) * 2 := by rw [hcsd, List.length_drop, hll]; omega
  have hcp2 : ∀ ty dc sc, (Builtin.copy_ #[24, 24] ty #[.slice (some ⟨H, (i + 1) * 2, none⟩) (n - i) dc, .slice (some ⟨g, i * 2, none⟩) (n - i) sc]).run Try.prog W2.drew = .ok (goInt (Nat.min (n - i) (n - i))) (W2.drew.setCells H ((i + 1) * 2) cs) := fun ty dc sc =>
    run_copy_row W2.drew 24 24 ty 41 2 H ((i + 1) * 2) _ dc ⟨g, i * 2, none⟩ _ sc cs L2 41 Try.underlying24 ins_sz (by rw [hcl]; simp only [Nat.min_def]; split <;> omega)
      (fun j u hj => by
        rw [Addr.add_lit, blk_cell (w := W2.drew) ((h2k g (by omega)).trans hh)]
        rw [hcsd, List.getElem?_drop] at hj
        simpa using hj)
      h2H (by rw [hcl, h2s, hLs]; omega) (fun u hu => hxo u (by rw [hcsd] at hu; exact List.mem_of_mem_drop hu))
  obtain ⟨L3, h3H, h3s, h3l⟩ := setCells_row (e := 41) cs ((i + 1) * 2) W2.drew L2 h2H (by rw [hcl, h2s, hLs]; omega)
  obtain ⟨u1, u2, u3, u4⟩ := setCells_same H cs ((i + 1) * 2) W2.drew
  obtain ⟨W3, hW3⟩ : ∃ W3, W3 = W2.drew.setCells H ((i + 1) * 2) cs := ⟨_, rfl⟩
  rw [← hW3] at hcp2 h3H u1 u2 u3 u4
  have h3k : ∀ k, k < H → W3.heap[k]? = w.heap[k]? := fun k hk => by rw [hW3, setCells_far _ _ k (by omega)]; exact h2k k hk
  have hres : L3.toList.take ((n + 1) * 2) = cur.toList.take (i * 2) ++ ys ++ cur.toList.drop (i * 2) := by
    have a1 : (L.toList.take (i * 2)).length = i * 2 := by rw [List.length_take, Array.length_toList, hLs]; omega
    have e1 : L2.toList.take ((i + 1) * 2) = cur.toList.take (i * 2) ++ ys := by
      rw [h2l, List.take_append_of_le_length (by rw [List.length_append, a1, hyl]; omega), List.take_of_length_le (by rw [List.length_append, a1, hyl]; omega), hLt]
    rw [h3l, e1, ← hcsd]
    exact List.take_append_of_le_length (by simp only [List.length_append, List.length_take, hll, hyl, hcl]; omega) |>.trans (List.take_of_length_le (by simp only [List.length_append, List.length_take, hll, hyl, hcl]; omega))
  have hgrow : w.grownBy W3 (some g) := ⟨by rw [u1]; show W2.os = _; rw [hW2, t1, hW1]; rfl, by rw [u2]; show W2.tape = _; rw [hW2, t2, hW1]; rfl, by rw [u3]; show W2.output = _; rw [hW2, t3, hW1]; rfl, by rw [u4]; show _ ≤ W2.heap.size; rw [hW2, t4]; exact hB1.size, fun k hk _ => h3k k (by omega)⟩
  have hB3 : Below w.heap.size w W3 := ⟨hgrow.os, hgrow.tape, hgrow.output, hgrow.size, fun k hk => h3k k (by omega)⟩
  have hw1 : IntKind.i64.wrap ((i : Int) + 1) = (i : Int) + 1 := by rw [IntKind.wrap_i64]; omega
  have hw2 : IntKind.i64.wrap ((n : Int) + 1) = (n : Int) + 1 := by rw [IntKind.wrap_i64]; omega
  have hw3 : IntKind.i64.wrap ((n : Int) + 1 - (i : Int)) = (n : Int) + 1 - (i : Int) := by rw [IntKind.wrap_i64]; omega
  have hb1 : (0 : Int) ≤ (i : Int) + 1 := by omega
  have hin : (i : Int) ≤ (n : Int) := by omega
  have htn : ((i : Int) + 1).toNat = i + 1 := by omega
  have hb2 : ¬ (C = i + 1) := by omega
  have hb3 : (i : Int) ≤ (n : Int) + 1 := by omega
  have hb4 : ¬ (C = i) := by omega
  have hb5 : ¬ (n = i) := by omega
  have hb6 : (n : Int) < (n : Int) + 1 := by omega
  have hb7 : (n : Int) + 1 ≤ (C : Int) := by omega
  replace hH := Aside0.mk hH
  replace hW3 := Aside0.mk hW3
  have hC := Aside0.mk (And.intro hC1 hC2)
  have hfin := Aside0.mk (And.intro h3H (And.intro h3s (And.intro hres (And.intro hgrow hB3))))
  have h23 := Aside0.mk (And.intro h2s hLs)
  clear hcs hm hsum hll hgl hvl hz0 hz1 hzb hLs hLt hcl hC1 hC2 h1H h2H h3H h1k h2k h3k hB1 hB3 hgrow hres t1 t2 t3 t4 u1 u2 u3 u4 h2s h2l h3s h3l happ0 hcsd hL hCd hneg hnev hW1 hW2
  go_enter Try.func35, Try.ntmps35
  go_wp2_with (first | (refine wp_append_runI _ rfl (.tmp 34) (.tmp 39) 24 3 rfl (.slice (some ⟨g, 0, none⟩) i n) (.int .i64 ((n : Int) + 1 - i)) rfl rfl _ _ happ ?_) | (refine wpList_copy_runI _ rfl (.tmp 43) (.tmp 44) 24 24 rfl (.slice (some ⟨H, i * 2, none⟩) (n + 1 - i) (C - i)) (.slice (some ⟨vb, 0, none⟩) 1 1) rfl rfl (hcp1 3 (C - i)) ?_))
  go_region_law (refine step_copy_runI (by rfl) (.tmp 50) (.tmp 53) 24 24 (by rfl) (.slice (some ⟨H, (i + 1) * 2, none⟩) (n - i) (C - (i + 1))) (.slice (some ⟨g, i * 2, none⟩) (n - i) (n - i)) (by simp [Act.eval, Act.put]) (by simp [Act.eval, Act.put]) (hcp2 3 (C - (i + 1)) (n - i)) ?_)
  go_wp2
  go_ret
  obtain ⟨f1, f2, f3, f4, f5⟩ := hfin.out
  have hHe := hH.out
  subst hHe
  exact ⟨C, L3, rfl, hC.out.1, hC.out.2, f1, by rw [f2]; exact h23.out.1.trans h23.out.2, f3, f4, f5⟩

/-- slices.Insert of one element, at any kind of element. -/
theorem insert_in {α : Type} (d : Kd α) (hsz : d.sz = 2) {w : World} {base vb : Nat} {ok okp : Nat → Prop} {A : Option Addr} {c : Nat} {xs : List α} {p : α} {ys : List Value} (HO : d.R 41 w base ok (.slice A xs.length c) xs) (i : Nat) (hi : i ≤ xs.length)
    (hv : w.heap[vb]? = some (.cells ys.toArray 41 (0, 0))) (hp : d.M w base okp p ys) (hokp : ∀ k, okp k → ok k ∧ some k ≠ (Value.slice A xs.length c).ownBlock) (hfresh : ∀ k, w.heap.size ≤ k → ok k) (hvb : some vb ≠ (Value.slice A xs.length c).ownBlock)
    (hl : (xs.length + 1) * 32 ≤ 140737488355328) (hbase : base ≤ w.heap.size) :
    Calls Try.prog 35 #[.slice A xs.length c, .int .i64 (i : Int), .slice (some ⟨vb, 0, none⟩) 1 1] w fun e w' => ∃ v1, e = .returned v1 ∧ d.R 41 w' base ok v1 (xs.take i ++ p :: xs.drop i) ∧ Below base w w' ∧ w.grownBy w' (Value.slice A xs.length c).ownBlock ∧ (v1.ownBlock = (Value.slice A xs.length c).ownBlock ∨ ∃ b, v1.ownBlock = some b ∧ w.heap.size ≤ b) := by
  rcases Nat.eq_or_lt_of_le hi with rfl | hlt
  · rw [List.take_length, List.drop_length]
    exact ins_end d hsz HO hv hp hokp hfresh hl hbase
  obtain ⟨h0, inner, hown, hr⟩ := HO
  have hyl : ys.length = 2 := by rw [← hsz]; exact d.K_len (d.K_of_M hp)
  have hyo := d.K_one (d.K_of_M hp)
  have hone := ins_one hr (by rw [hsz]; decide) (fun _ _ hp => d.K_one (d.K_of_M hp))
  have hown' := hown
  rcases hown.2 with ⟨hv0, hn0⟩ | ⟨g, cap, cur, hv0, hbg, hg, hnc, hcm, hcs, htake⟩
  · omega
  injection hv0 with ha _ hc
  subst ha
  subst hc
  rw [hsz] at hcs htake
  have hne : vb ≠ g := fun e => hvb (by simp [Value.ownBlock, e])
  have hB : ∀ {w' : World}, w.grownBy w' (some g) → Below base w w' := fun hgr => (Below.refl base w).grown hgr hbase (fun k hk => by injection hk with hk; omega)
  have hil : inner.length = xs.length * 2 := by rw [← hsz]; exact hr.1
  have hll : (inner.take (i * 2) ++ ys ++ inner.drop (i * 2)).length = (xs.length + 1) * 2 := by
    simp only [List.length_append, List.length_take, List.length_drop, hil, hyl]
    omega
  by_cases hroom : xs.length + 1 ≤ c
  · refine (ins_room hg hcs hlt hroom (by simp only [maxLen] at hcm; omega) hv hyl hyo (by rw [htake]; exact hone) hne).mono ?_
    rintro e w' ⟨rfl, q, rfl⟩
    rw [htake]
    have hq : (w.drewN q).heap[g]? = some (.cells cur 41 (0, 0)) := by rw [← hg]; exact blk_drewN_eq w q g
    have hcl : (inner.drop (i * 2)).length = (xs.length - i) * 2 := by rw [List.length_drop, hil]; omega
    obtain ⟨c1, a1, a2, a3⟩ := setCells_row (e := 41) (inner.drop (i * 2)) ((i + 1) * 2) (w.drewN q) cur hq (by rw [hcl, hcs]; omega)
    obtain ⟨c2, b1, b2, b3⟩ := setCells_row (e := 41) ys (i * 2) ((w.drewN q).setCells g ((i + 1) * 2) (inner.drop (i * 2))) c1 a1 (by rw [hyl, a2, hcs]; omega)
    obtain ⟨t1, t2, t3, t4⟩ := setCells_same g (inner.drop (i * 2)) ((i + 1) * 2) (w.drewN q)
    obtain ⟨u1, u2, u3, u4⟩ := setCells_same g ys (i * 2) ((w.drewN q).setCells g ((i + 1) * 2) (inner.drop (i * 2)))
    obtain ⟨z1, z2, z3, z4⟩ := drewN_same w q
    have hgr : w.grownBy (((w.drewN q).setCells g ((i + 1) * 2) (inner.drop (i * 2))).setCells g (i * 2) ys) (some g) :=
      ⟨by rw [u1, t1, z1], by rw [u2, t2, z2], by rw [u3, t3, z3], by rw [u4, t4, z4]; exact Nat.le_refl _, fun k hk hk' => by
        have hkg : k ≠ g := fun e => hk' (by rw [e])
        rw [setCells_far _ _ k hkg, setCells_far _ _ k hkg, blk_drewN_eq]⟩
    refine ⟨_, rfl, R_inserted i hi h0 hr hp hokp hfresh ⟨by rw [hsz]; exact hll, .inr ⟨g, c, c2, rfl, hbg, b1, hroom, hcm, by rw [hsz, b2, a2, hcs], ?_⟩⟩ (by simpa [Value.ownBlock] using hgr) (.inl rfl), hB hgr, by simpa [Value.ownBlock] using hgr, .inl rfl⟩
    have hcl' : cur.toList.length = c * 2 := by rw [Array.length_toList, hcs]
    have e0 : cur.toList.take (i * 2) = inner.take (i * 2) := by rw [← htake, List.take_take, Nat.min_eq_left (by omega)]
    have e1 : c1.toList.take (i * 2) = inner.take (i * 2) := by
      rw [a3, List.append_assoc, List.take_append_of_le_length (by rw [List.length_take]; omega), List.take_take, Nat.min_eq_left (by omega), e0]
    have e2 : c1.toList.drop ((i + 1) * 2) = inner.drop (i * 2) ++ cur.toList.drop ((i + 1) * 2 + (inner.drop (i * 2)).length) := by
      rw [a3, List.append_assoc, List.drop_append, List.drop_eq_nil_of_le (by rw [List.length_take]; omega), List.nil_append, List.length_take, Nat.min_eq_left (by omega), Nat.sub_self, List.drop_zero]
    rw [hsz, b3, e1, hyl, show i * 2 + 2 = (i + 1) * 2 by omega, e2, ← List.append_assoc]
    rw [List.take_append_of_le_length (by rw [hll]; exact Nat.le_refl _)]
    exact List.take_of_length_le (by rw [hll]; exact Nat.le_refl _)
  · obtain rfl : c = xs.length := by omega
    have hcl : cur.toList.length = xs.length * 2 := by rw [Array.length_toList, hcs]
    rw [List.take_of_length_le (by omega)] at htake
    refine (ins_grow hg hcs hlt hv hyl hyo (by rw [htake]; exact hone) hl).mono ?_
    rintro e w' ⟨C, cur', rfl, hC1, hC2, h1, h2, h3, hgr, hB'⟩
    rw [htake] at h3
    refine ⟨_, rfl, R_inserted i hi h0 hr hp hokp hfresh ⟨by rw [hsz]; exact hll, .inr ⟨w.heap.size, C, cur', rfl, hbase, h1, hC1, hC2, by rw [hsz]; exact h2, by rw [hsz]; exact h3⟩⟩ (by simpa [Value.ownBlock] using hgr) (.inr ⟨_, rfl, Nat.le_refl _⟩), hB hgr, by simpa [Value.ownBlock] using hgr, .inr ⟨_, rfl, Nat.le_refl _⟩⟩
/-- A row told with tags, one of which stands elsewhere: apart all the same. -/
theorem S_of_inserted {α : Type} {d : Kd α} {f : Nat → Nat} {e : Nat} {w : World} {base : Nat} {ok : Nat → Prop} {v : Value} {xs : List α} {p : α} {i : Nat} (hi : i ≤ xs.length) (h : (Kd.tag f d).R e w base ok v (xs.zipIdx.take i ++ (p, xs.length) :: xs.zipIdx.drop i)) : Kd.S d e w base ok v (xs.take i ++ p :: xs.drop i) := by
  obtain ⟨h0, inner, ho, hr⟩ := h
  have hl : (xs.zipIdx.take i ++ (p, xs.length) :: xs.zipIdx.drop i).length = (xs.take i ++ p :: xs.drop i).length := by simp
  rw [hl] at ho
  refine ⟨fun b => if f b < i then f b else if f b = xs.length then i else f b + 1, h0, inner, by rw [List.length_zipIdx]; exact ho, by rw [List.length_zipIdx, ← hl]; exact hr.1, fun j q hj => ?_⟩
  rw [List.getElem?_zipIdx, Nat.zero_add] at hj
  obtain ⟨x, hx, rfl⟩ := Option.map_eq_some_iff.1 hj
  have hti : (xs.take i).length = i := by rw [List.length_take]; omega
  have htz : (xs.zipIdx.take i).length = i := by rw [List.length_take, List.length_zipIdx]; omega
  by_cases h1 : j < i
  · rw [List.getElem?_append_left (by omega), List.getElem?_take_of_lt h1] at hx
    have h2 := hr.2 j (x, j) (by rw [List.getElem?_append_left (by omega), List.getElem?_take_of_lt h1]; exact Kd.zip_at hx)
    refine d.M_mono (fun b hb => ⟨hb.1, ?_⟩) h2
    have h3 : f b = j := hb.2
    show (if f b < i then f b else if f b = xs.length then i else f b + 1) = j
    rw [if_pos (by omega)]; exact h3
  · by_cases h2 : j = i
    · subst h2
      rw [List.getElem?_append_right (by omega), hti, Nat.sub_self] at hx
      obtain rfl : p = x := by simpa using hx
      have h2 := hr.2 j (p, xs.length) (by rw [List.getElem?_append_right (by omega), htz, Nat.sub_self]; rfl)
      refine d.M_mono (fun b hb => ⟨hb.1, ?_⟩) h2
      have h3 : f b = xs.length := hb.2
      show (if f b < j then f b else if f b = xs.length then j else f b + 1) = j
      rw [if_neg (by omega), if_pos h3]
    · obtain ⟨m, rfl⟩ : ∃ m, j = i + 1 + m := ⟨j - i - 1, by omega⟩
      rw [List.getElem?_append_right (by omega), hti, show i + 1 + m - i = m + 1 by omega, List.getElem?_cons_succ, List.getElem?_drop] at hx
      have hlt := (List.getElem?_eq_some_iff.1 hx).1
      have h2 := hr.2 (i + 1 + m) (x, i + m) (by rw [List.getElem?_append_right (by omega), htz, show i + 1 + m - i = m + 1 by omega, List.getElem?_cons_succ, List.getElem?_drop]; exact Kd.zip_at hx)
      refine d.M_mono (fun b hb => ⟨hb.1, ?_⟩) h2
      have h3 : f b = i + m := hb.2
      show (if f b < i then f b else if f b = xs.length then i else f b + 1) = i + 1 + m
      rw [if_neg (by omega), if_neg (by omega)]; omega
/-- v = slices.Insert(v, i, x), in the place of an append; behind 'gate_callee'. -/
theorem S_insert {ops : Array Oper} {rest : List Oper} {o : Oper} {a : Act} {Q : Exit → Act → World → Prop} {α : Type} (d : Kd α) (hsz : d.sz = 2) {w0 W : World} (base : Nat) (hgd : o.guard = none) (s ix x : Operand) (ts : Array TypeId)
    (ho : o.op = .call { callee := .value (.func 35), args := #[s, ix, x], argTypes := ts })
    (A : Option Addr) (c : Nat) (xs : List α) (p : α) (cs : List Value) (ok okp : Nat → Prop) (i : Int) (hi0 : 0 ≤ i) (hi1 : i ≤ (xs.length : Int)) (hs : a.eval s = .slice A xs.length c) (hix : a.eval ix = .int .i64 i) (hx : a.eval x = .slice (some ⟨W.heap.size, 0, none⟩) 1 1) (hp : d.M W base okp p cs) (hokp : ∀ k, okp k → ok k ∧ some k ≠ (Value.slice A xs.length c).ownBlock) (hfresh : ∀ k, W.heap.size ≤ k → ok k)
    (HO : Kd.S d 41 W base (fun k => ok k ∧ ¬ okp k) (.slice A xs.length c) xs) (HB : Below base w0 W) (hbase : base ≤ W.heap.size) (hl : (xs.length + 1) * 32 ≤ 140737488355328)
    (h : ∀ v1 w1, Kd.S d 41 w1 base ok v1 (xs.take i.toNat ++ p :: xs.drop i.toNat) → Below base w0 w1 → W.grownBy w1 (Value.slice A xs.length c).ownBlock → (v1.ownBlock = (Value.slice A xs.length c).ownBlock ∨ ∃ b, v1.ownBlock = some b ∧ W.heap.size ≤ b) → wpList Try.prog ops Q rest (a.put o.dst v1) w1) :
    wpList Try.prog ops Q (o :: rest) a (W.alloc (.cells cs.toArray 41)) := by
  obtain ⟨f, hf, hR⟩ := Kd.S_tag HO xs.length okp (fun _ hk h2 => h2.2 hk)
  obtain ⟨m, rfl⟩ := Int.eq_ofNat_of_zero_le hi0
  have hlt : ∀ k, (Value.slice A xs.length c).ownBlock = some k → k < W.heap.size := fun k hk => Kd.R_lt hR k hk
  have hb0 : Below W.heap.size W (W.alloc (.cells cs.toArray 41)) := below_alloc (Below.refl _ _) _
  have hR1 : (Kd.tag f d).R 41 (W.alloc (.cells cs.toArray 41)) base ok (.slice A xs.zipIdx.length c) xs.zipIdx := by
    rw [List.length_zipIdx]
    exact Kd.R_below (Kd.R_mono hR (fun _ hk => hk.1)) hb0
  have hM1 : (Kd.tag f d).M (W.alloc (.cells cs.toArray 41)) base okp (p, xs.length) cs := Kd.M_below (d := Kd.tag f d) (d.M_mono (fun k hk => ⟨hk, hf k hk⟩) hp) hb0
  refine goesL_ o.dst rfl hgd Try.func35 (by kernel_rfl) rfl #[.slice A xs.length c, .int .i64 (m : Int), .slice (some ⟨W.heap.size, 0, none⟩) 1 1] ho (by simp [hs, hix, hx]) ?_
  have hins := insert_in (Kd.tag f d) hsz (w := W.alloc (.cells cs.toArray 41)) (base := base) (vb := W.heap.size) (ok := ok) (okp := okp) (A := A) (c := c) (xs := xs.zipIdx) (p := (p, xs.length)) (ys := cs) hR1 m (by rw [List.length_zipIdx]; omega) (blk_new _ _) hM1 (by rw [List.length_zipIdx]; exact hokp) (fun k hk => hfresh k (by simp at hk; omega)) (by rw [List.length_zipIdx]; intro he; have := hlt _ he.symm; omega) (by rw [List.length_zipIdx]; exact hl) (by simp; omega)
  rw [List.length_zipIdx] at hins
  refine hins.mono ?_
  rintro e w1 ⟨v1, rfl, hR2, hB2, hg2, hat2⟩
  refine ⟨v1, rfl, h v1 w1 (S_of_inserted (by omega) hR2) (HB.trans (((Below.refl base W).alloc hbase _).trans hB2)) ?_ ?_⟩
  · exact ⟨hg2.os, hg2.tape, hg2.output, Nat.le_trans hb0.size hg2.size, fun k hk hne => (hg2.block k (Nat.lt_of_lt_of_le hk hb0.size) hne).trans (hb0.block k hk)⟩
  · rcases hat2 with h1 | ⟨b, h1, h2⟩
    · exact .inl h1
    · exact .inr ⟨b, h1, Nat.le_trans hb0.size h2⟩

end Go.Proofs.Ytkjgibdbbklejaa.PA
