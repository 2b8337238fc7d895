import Derived.Test.YtflfmpfmnhpbmaaPAx0
import Derived.Deep.RegionLaw
import Derived.Lib.Overlaps
import Derived.Laws.Externs
import Derived.Laws.IdiomCopy
/- slices.Insert of one element: what its operations do to a row of one's own; for every kind of element. -/
namespace Go.Proofs.Ytflfmpfmnhpbmaa.PA
open Go.RowKit Go.Proofs.YtflfmpfmnhpbmaaW.PrintWords Go.Proofs.YtflfmpfmnhpbmaaW.PrintLast Go.Proofs.YtflfmpfmnhpbmaaW.PrintMore
set_option linter.unusedVariables false
set_option linter.unusedSimpArgs false

/-- copy into a row of plain cells: all is read before anything is written. -/
theorem run_copy_row {P : Program} (w : World) (dT sT ty elem : TypeId) (sz : Nat) (g o dLen dCap : Nat) (a : Addr) (sLen sCap : Nat) (cs : List Value) (cur : Array Value) (e : TypeId)
    (hu : P.underlying dT = some (.slice elem)) (hs : (P.info? elem).map (·.size) = some sz) (hn : cs.length = Nat.min sLen dLen * sz)
    (hsrc : ∀ j v, cs[j]? = some v → w.cell? (a.add j) = some v) (hh : w.heap[g]? = some (.cells cur e (0, 0))) (hfit : o + cs.length ≤ cur.size) (h1 : ∀ v ∈ cs, v.oneCell' = true) :
    (Builtin.copy_ #[dT, sT] ty #[.slice (some ⟨g, o, none⟩) dLen dCap, .slice (some a) sLen sCap]).run P w = .ok (goInt (Nat.min sLen dLen)) (w.setCells g o cs) := by
  have hl := run_loadCells_list (P := P) w a cs hsrc
  have hst := run_storeCells_cells (P := P) g o cs 0 w (fun j hj => by rw [cell_of_row w g _ cur e (0, 0) hh]; simp; omega) (fun j _ => blk_frozen hh _) h1
  simp only [Nat.add_zero] at hst
  cases hq : P.info? elem with
  | none => simp [hq] at hs
  | some i =>
    have hi : i.size = sz := by simpa [hq] using hs
    simp [Builtin.copy_, run_underlying hu, Builtin.lenOf, Builtin.firstCells, sizeOf, typeInfo, hq, hi, ← hn, hl, hst]

/-- append(s, make(n)...) that doesn't fit: a new row; the world is told to the cell. -/
theorem run_grow_zeros {P : Program} (w : World) (t ti ty e : TypeId) (i : TypeInfo) (z : Value) (size bytes : Nat) (ht : P.underlying t = some (.slice e)) {k : IntKind} (hti : P.underlying ti = some (.int k)) (hi : P.info? e = some i) (hz : i.zero = some z)
    (hsize : i.size = size) (hby : i.bytes = bytes) (hsz : 0 < size)
    (A : Addr) (n cap : Nat) (xs : List Value) (hxl : xs.length = n * size) (hold : ∀ j u, xs[j]? = some u → w.cell? (A.add j) = some u) (kx : IntKind) (m : Nat) (hm : 0 < m) (hcap : cap < n + m)
    (hbytes : (n + m) * bytes ≤ 140737488355328) (hb0 : 0 < bytes) :
    (Builtin.append_ #[t, ti] ty #[.slice (some A) n cap, .int kx m]).run P w =
      .ok (.slice (some ⟨w.heap.size, 0, none⟩) (n + m) (grownCap w (n + m) cap e)) (w.drew.alloc (.cells (xs.toArray ++ (Builtin.zeroCells z.cells m) ++ Builtin.zeroCells z.cells (grownCap w (n + m) cap e - (n + m))) e)) := by
  subst hsize
  subst hby
  have hle : n + m ≤ 140737488355328 := Nat.le_trans (Nat.le_mul_of_pos_right _ hb0) hbytes
  have hw : IntKind.i64.wrap (m : Int) = m := by rw [IntKind.wrap_i64]; omega
  have hneg : ¬ ((m : Int) < 0) := by omega
  have hmb : m * i.bytes ≤ 140737488355328 := Nat.le_trans (Nat.mul_le_mul_right _ (Nat.le_add_left m n)) hbytes
  have hbig : ¬ (281474976710656 < (m : Int) * (i.bytes : Int)) := by
    rw [← Int.natCast_mul]
    omega
  have hsn : i.size ≠ 0 := by omega
  have hfo := run_firstCells_some (P := P) w.drew i.size n A n cap xs hxl (by simpa using hold)
  have hn : ¬ (n + m ≤ cap) := by omega
  have h63' : ¬ (9223372036854775807 < ((n : Int) + (m : Int))) := by omega
  have hfit := growslice_fits hcap hbytes
  have h48' : ¬ (281474976710656 < Builtin.nextslicecap (n + m) cap * i.bytes) := by omega
  have hmz : ¬ (m * i.size = 0) := Nat.mul_ne_zero (by omega) hsn
  simp [Builtin.append_, run_underlying ht, run_underlying hti, sizeOf, typeInfo, zeroValue, hi, hz, asInt, asIntOf, hw, hneg, hbig, hn, h63', h48', Question.forced, hfo, newRow, grownCap, hmz]

theorem wp_copy_runI {P : Program} (w : World) {o : Oper} {a : Act} {K : Act → World → Prop} {Q : Exit → Act → World → Prop} (d s : Operand) (t t' : TypeId)
    (ho : o.op = .call { callee := .builtin .copy, args := #[d, s], argTypes := #[t, t'] }) (v u : Value) (hd : a.eval d = v) (hs : a.eval s = u) {v' : Value} {w' : World}
    (hr : (Builtin.copy_ #[t, t'] o.type #[v, u]).run P w = .ok v' w') (h : K (a.put o.dst v') w') : o.wp P a w K Q := by
  unfold Oper.wp execOp
  simp only [ho, resolve, invoke, builtin, Sem.run_bind, Sem.run_pure, Result.andThen_ok, List.map_toArray, List.map_cons, List.map_nil, hd, hs, hr]
  exact h
theorem wpList_copy_runI {P : Program} (w : World) {ops : Array Oper} {rest : List Oper} {o : Oper} {a : Act} {Q : Exit → Act → World → Prop} (hgd : o.guard = none) (d s : Operand) (t t' : TypeId)
    (ho : o.op = .call { callee := .builtin .copy, args := #[d, s], argTypes := #[t, t'] }) (v u : Value) (hd : a.eval d = v) (hs : a.eval s = u) {v' : Value} {w' : World}
    (hr : (Builtin.copy_ #[t, t'] o.type #[v, u]).run P w = .ok v' w') (h : wpList P ops Q rest (a.put o.dst v') w') : wpList P ops Q (o :: rest) a w :=
  wpList_plain hgd fun _ hK => wp_copy_runI w d s t t' ho v u hd hs hr (hK _ _ h)
theorem step_copy_runI {P : Program} {ops : Array Oper} {o : Oper} {a : Act} {w : World} {K : Act → World → Prop} {Q : Exit → Act → World → Prop} {E : Prop}
    (hg : o.guard = none) (d x : Operand) (dT sT : TypeId) (hop : o.op = Op.call { callee := Callee.builtin Builtin.copy, args := #[d, x], argTypes := #[dT, sT] })
    (v u : Value) (hd : a.eval d = v) (hx : a.eval x = u) {v' : Value} {w' : World} (hr : (Builtin.copy_ #[dT, sT] o.type #[v, u]).run P w = .ok v' w') (hK : K (a.put o.dst v') w') :
    if Region.wanted o (yielded ops a.tmps) = true then Oper.wp P o a w K Q else E := by
  have hw : Region.wanted o (yielded ops a.tmps) = true := by simp [Region.wanted, hg]
  rw [if_pos hw]
  unfold Oper.wp
  simp [execOp, hop, resolve, invoke, builtin, hd, hx, hr, Result.andThen]
  exact hK

theorem wp_append_runI {P : Program} (w : World) {ops : Array Oper} {rest : List Oper} {o : Oper} {a : Act} {Q : Exit → Act → World → Prop} (hgd : o.guard = none) (s x : Operand) (t tn : TypeId)
    (ho : o.op = .call { callee := .builtin .append, args := #[s, x], argTypes := #[t, tn] }) (vs vx : Value) (hs : a.eval s = vs) (hx : a.eval x = vx)
    (v' : Value) (w' : World) (hr : (Builtin.append_ #[t, tn] o.type #[vs, vx]).run P w = .ok v' w') (h : wpList P ops Q rest (a.put o.dst v') w') : wpList P ops Q (o :: rest) a w :=
  wpList_plain hgd fun _ hK => by
    unfold Oper.wp execOp
    simp only [ho, resolve, invoke, builtin, Sem.run_bind, Sem.run_pure, Result.andThen_ok, List.map_toArray, List.map_cons, List.map_nil, hs, hx, hr]
    exact hK _ _ h
/-- What an insert leaves, at any kind of element. -/
theorem R_inserted {α : Type} {d : Kd α} {e base : Nat} {ok okp : Nat → Prop} {W w1 : World} {v v1 : Value} {xs : List α} {p : α} {inner cs : List Value} (i : Nat) (hi : i ≤ xs.length) (h0 : ∀ k, v.ownBlock = some k → ok k) (hr : Reps (d.M W base (fun k => ok k ∧ some k ≠ v.ownBlock)) d.sz xs inner) (hp : d.M W base okp p cs) (hokp : ∀ k, okp k → ok k ∧ some k ≠ v.ownBlock) (hfresh : ∀ k, W.heap.size ≤ k → ok k)
    (hown : w1.ownsRow base e d.sz v1 (xs.length + 1) (inner.take (i * d.sz) ++ cs ++ inner.drop (i * d.sz))) (hg : W.grownBy w1 v.ownBlock) (hat : v1.ownBlock = v.ownBlock ∨ ∃ b, v1.ownBlock = some b ∧ W.heap.size ≤ b) : d.R e w1 base ok v1 (xs.take i ++ p :: xs.drop i) := by
  have hne : ∀ k, some k ≠ v.ownBlock → k < W.heap.size → some k ≠ v1.ownBlock := by
    intro k hk hlt
    rcases hat with hat | ⟨b, hb, hle⟩
    · rw [hat]; exact hk
    · rw [hb]
      intro he
      injection he with he
      omega
  have step : ∀ {q : α} {c : List Value} {o : Nat → Prop}, d.M W base o q c → (∀ k, o k → ok k ∧ some k ≠ v.ownBlock) → d.M w1 base (fun k => ok k ∧ some k ≠ v1.ownBlock) q c := by
    intro q c o hq ho
    have h1 := d.M_move (w1 := w1) (fun k hk => hg.block k hk.2.2.1 (ho k hk.1).2) (d.M_bound hq)
    exact d.M_mono (fun k hk => ⟨(ho k hk.1).1, hne k (ho k hk.1).2 hk.2.2.1⟩) h1
  have hlen : (xs.take i ++ p :: xs.drop i).length = xs.length + 1 := by simp; omega
  refine ⟨fun k hk => ?_, inner.take (i * d.sz) ++ cs ++ inner.drop (i * d.sz), by rw [hlen]; exact hown, ?_⟩
  · rcases hat with hat | ⟨b, hb, hle⟩
    · exact h0 k (hat ▸ hk)
    · rw [hb] at hk
      injection hk with hk
      exact hfresh k (by omega)
  · have hr' := hr.imp_ (fun _ _ hq => step hq (fun _ hk => hk))
    have hp' := step hp hokp
    have hcl := d.K_len (d.K_of_M hp)
    have hil := hr.1
    have hk : i * d.sz ≤ inner.length := by rw [hil]; exact Nat.mul_le_mul_right _ hi
    have htl : (inner.take (i * d.sz)).length = i * d.sz := by rw [List.length_take]; omega
    refine ⟨?_, fun j q hj => ?_⟩
    · rw [hlen, List.length_append, List.length_append, htl, hcl, List.length_drop, hil, Nat.add_mul, Nat.one_mul]
      omega
    · have hti : (xs.take i).length = i := by rw [List.length_take]; omega
      by_cases h1 : j < i
      · rw [List.getElem?_append_left (by omega), List.getElem?_take_of_lt h1] at hj
        have h2 := hr'.2 j q hj
        have h3 : j * d.sz + d.sz ≤ i * d.sz := by
          have := Nat.mul_le_mul_right d.sz (show j + 1 ≤ i by omega)
          rw [Nat.add_mul, Nat.one_mul] at this
          exact this
        rw [List.append_assoc, List.drop_append_of_le_length (by omega), List.take_append_of_le_length (by rw [List.length_drop]; omega), List.drop_take, List.take_take, Nat.min_eq_left (by omega)]
        exact h2
      · by_cases h2 : j = i
        · subst h2
          rw [List.getElem?_append_right (by omega), hti, Nat.sub_self] at hj
          have : p = q := by simpa using hj
          subst this
          rw [List.append_assoc, List.drop_append, htl, Nat.sub_self, List.drop_eq_nil_of_le (by omega), List.nil_append, List.drop_zero, List.take_append_of_le_length (by omega), List.take_of_length_le (by omega)]
          exact hp'
        · rw [List.getElem?_append_right (by omega), hti] at hj
          obtain ⟨m, rfl⟩ : ∃ m, j = i + 1 + m := ⟨j - i - 1, by omega⟩
          rw [show i + 1 + m - i = m + 1 by omega, List.getElem?_cons_succ, List.getElem?_drop] at hj
          have h3 := hr'.2 (i + m) q hj
          have e1 : (i + 1 + m) * d.sz = (inner.take (i * d.sz) ++ cs).length + m * d.sz := by
            rw [List.length_append, htl, hcl, Nat.add_mul, Nat.add_mul, Nat.one_mul]
          rw [e1, List.drop_append, List.drop_eq_nil_of_le (by omega), List.nil_append, Nat.add_sub_cancel_left, List.drop_drop, ← Nat.add_mul]
          exact h3
theorem blk_drewN_eq (w : World) (q g : Nat) : (w.drewN q).heap[g]? = w.heap[g]? := by
  induction q with
  | zero => rfl
  | succ q ih => exact ih
theorem drewN_same (w : World) (q : Nat) : (w.drewN q).os = w.os ∧ (w.drewN q).tape = w.tape ∧ (w.drewN q).output = w.output ∧ (w.drewN q).heap.size = w.heap.size := by
  induction q with
  | zero => exact ⟨rfl, rfl, rfl, rfl⟩
  | succ q ih => exact ih
theorem ins_one {α : Type} {R : α → List Value → Prop} {size : Nat} {ps : List α} {cs : List Value} (h : Reps R size ps cs) (hs0 : 0 < size) (hR : ∀ p c, R p c → ∀ u ∈ c, u.oneCell' = true) : ∀ u ∈ cs, u.oneCell' = true := by
  intro u hu
  obtain ⟨q, hq, rfl⟩ := List.mem_iff_getElem.1 hu
  have hql : q / size < ps.length := by
    rw [Nat.div_lt_iff_lt_mul hs0]
    rw [← h.1]
    exact hq
  have h1 := h.2 (q / size) _ (List.getElem?_eq_getElem hql)
  refine hR _ _ h1 _ (List.mem_iff_getElem?.2 ⟨q % size, ?_⟩)
  have hm := Nat.mod_lt q hs0
  rw [List.getElem?_take_of_lt hm, List.getElem?_drop, Nat.mul_comm, Nat.div_add_mod]
  exact List.getElem?_eq_getElem hq

end Go.Proofs.Ytflfmpfmnhpbmaa.PA

/- slices.Insert of one element, walked by hand. -/
namespace Go.Proofs.Ytflfmpfmnhpbmaa.PA
open Go.RowKit Go.Proofs.YtflfmpfmnhpbmaaW.PrintWords Go.Proofs.YtflfmpfmnhpbmaaW.PrintLast Go.Proofs.YtflfmpfmnhpbmaaW.PrintMore
set_option linter.unusedVariables false
set_option linter.unusedSimpArgs false

theorem ins_infoA : (Try.prog.info? 3).map (fun i => (i.zero, i.size, i.bytes)) = some (some (.int .i64 0), 1, 8) := by kernel_rfl
theorem ins_szA : (Try.prog.info? 3).map (fun i => i.size) = some 1 := by kernel_rfl
theorem ins_sizeA (w : World) : (Go.sizeOf 3).run Try.prog w = .ok 1 w := by kernel_rfl
theorem ins_apartA (w : World) (vb g o : Nat) (ys cur : Array Value) (m vc lb cb : Nat) (hne : vb ≠ g) (hv : w.heap[vb]? = some (.cells ys 3 (0, 0))) (hg : w.heap[g]? = some (.cells cur 3 (0, 0))) (hcur : cur.size ≠ 0) :
    (callFunc 67 #[.slice (some ⟨vb, 0, none⟩) m vc, .slice (some ⟨g, o, none⟩) lb cb]).run Try.prog w = .ok (.value (.bool false)) w := by
  rw [run_callFunc_extern Try.func67 (by kernel_rfl) (by kernel_rfl) (by kernel_rfl) (e := Extern.SlicesOverlaps.overlaps #[26, 26] #[4]) (by kernel_rfl),
    Lib.run_overlaps_apart w 26 4 3 Try.underlying26 1 ins_sizeA ⟨vb, 0, none⟩ ⟨g, o, none⟩ m vc lb cb hne 3 3 ys.size cur.size (by simp [World.shape?, hv]) (by simp [World.shape?, hg]) hcur (blk_frozen hv _) (blk_frozen hv _)]
  rfl

set_option maxHeartbeats 4000000 in
set_option maxRecDepth 100000 in
/-- At the end. -/
theorem ins_endA {α : Type} (d : Kd α) (hsz : d.sz = 1) {w : World} {base vb : Nat} {ok okp : Nat → Prop} {A : Option Addr} {c : Nat} {xs : List α} {p : α} {ys : List Value} (HO : d.R 3 w base ok (.slice A xs.length c) xs)
    (hv : w.heap[vb]? = some (.cells ys.toArray 3 (0, 0))) (hp : d.M w base okp p ys) (hokp : ∀ k, okp k → ok k ∧ some k ≠ (Value.slice A xs.length c).ownBlock) (hfresh : ∀ k, w.heap.size ≤ k → ok k)
    (hl : (xs.length + 1) * 8 ≤ 140737488355328) (hbase : base ≤ w.heap.size) :
    Calls Try.prog 55 #[.slice A xs.length c, .int .i64 xs.length, .slice (some ⟨vb, 0, none⟩) 1 1] w fun e w' => ∃ v1, e = .returned v1 ∧ d.R 3 w' base ok v1 (xs ++ [p]) ∧ Below base w w' ∧ w.grownBy w' (Value.slice A xs.length c).ownBlock ∧ (v1.ownBlock = (Value.slice A xs.length c).ownBlock ∨ ∃ b, v1.ownBlock = some b ∧ w.heap.size ≤ b) := by
  have hnc := (Kd.R_reads' HO).2.1
  have hle : xs.length + 1 ≤ 140737488355328 := Nat.le_trans (Nat.le_mul_of_pos_right _ (by decide)) hl
  have HR : ReadsRow (fun x cs => x = p ∧ cs = ys) d.sz w (some ⟨vb, 0, none⟩) 1 [p] := by
    refine ⟨rfl, by decide, fun _ => ⟨_, rfl, fun j q hj => ?_⟩⟩
    cases j with
    | zero =>
      obtain rfl : p = q := by simpa using hj
      refine ⟨ys, d.K_len (d.K_of_M hp), ⟨rfl, rfl⟩, fun i u hu => ?_⟩
      rw [add_plain, blk_cell hv, Nat.zero_mul, Nat.zero_add]
      simpa using hu
    | succ j => simp at hj
  have HO1 := Aside0.mk HO
  clear HO
  have hcc : (xs.length : Int) ≤ (c : Int) := by omega
  rcases Nat.eq_or_lt_of_le hnc with hceq | hclt
  · subst hceq
    go_enter Try.func55, Try.ntmps55
    go_wp2_with (at_builtin; refine Kd.R_append_rows (P := Try.prog) d (Rr := fun x cs => x = p ∧ cs = ys) (w0 := w) base rfl _ _ 26 3 (.int .i64 0) 8 rfl Try.underlying26 (by rw [hsz]; exact ins_infoA) (by rw [hsz]; rfl) (by rw [hsz]; decide) (by decide) (.slice A xs.length xs.length) xs [p] (some ⟨vb, 0, none⟩) 1 1 ok okp rfl rfl HO1.out HR (fun x cs hx => by rw [hx.1, hx.2]; exact hp) hokp hfresh (Below.refl _ _) hbase hl ?_; intro v1 w1 hR1 hB1 hg1 hat1)
    go_ret
    exact ⟨_, rfl, hR1, hB1, hg1, hat1⟩
  have hcne : ¬ (c = xs.length) := by omega
  go_enter Try.func55, Try.ntmps55
  go_wp2_with (at_builtin; refine Kd.R_append_rows (P := Try.prog) d (Rr := fun x cs => x = p ∧ cs = ys) (w0 := w) base rfl _ _ 26 3 (.int .i64 0) 8 rfl Try.underlying26 (by rw [hsz]; exact ins_infoA) (by rw [hsz]; rfl) (by rw [hsz]; decide) (by decide) (.slice A xs.length c) xs [p] (some ⟨vb, 0, none⟩) 1 1 ok okp rfl rfl HO1.out HR (fun x cs hx => by rw [hx.1, hx.2]; exact hp) hokp hfresh (Below.refl _ _) hbase hl ?_; intro v1 w1 hR1 hB1 hg1 hat1)
  go_ret
  exact ⟨_, rfl, hR1, hB1, hg1, hat1⟩

set_option maxHeartbeats 4000000 in
set_option maxRecDepth 100000 in
/-- There is room: in place. -/
theorem ins_roomA {w : World} {g vb n c i : Nat} {ys : List Value} {cur : Array Value} (hh : w.heap[g]? = some (.cells cur 3 (0, 0))) (hcs : cur.size = c * 1) (hi : i < n) (hroom : n + 1 ≤ c) (hc63 : c ≤ 9223372036854775807)
    (hv : w.heap[vb]? = some (.cells ys.toArray 3 (0, 0))) (hyl : ys.length = 1) (hyo : ∀ u ∈ ys, u.oneCell' = true) (hxo : ∀ u ∈ cur.toList.take (n * 1), u.oneCell' = true) (hne : vb ≠ g) :
    Calls Try.prog 55 #[.slice (some ⟨g, 0, none⟩) n c, .int .i64 i, .slice (some ⟨vb, 0, none⟩) 1 1] w fun e w' => e = .returned (.slice (some ⟨g, 0, none⟩) (n + 1) c) ∧ ∃ q, w' = ((w.drewN q).setCells g ((i + 1) * 1) ((cur.toList.take (n * 1)).drop (i * 1))).setCells g (i * 1) ys := by
  have hz2 : ¬ ((i : Int) = (n : Int)) := by omega
  have hcur : cur.size ≠ 0 := by rw [hcs]; omega
  obtain ⟨cs, hcsd⟩ : ∃ cs, cs = (cur.toList.take (n * 1)).drop (i * 1) := ⟨_, rfl⟩
  have hcl : cs.length = (n - i) * 1 := by rw [hcsd, List.length_drop, List.length_take, Array.length_toList, hcs]; omega
  have hov := fun (o lb cb : Nat) => ins_apartA w vb g o ys.toArray cur 1 1 lb cb hne hv hh hcur
  have hcell := fun i => cell_of_row w g i _ _ _ hh
  have hcp1 : ∀ ty dc sc, (Builtin.copy_ #[26, 26] ty #[.slice (some ⟨g, (i + 1) * 1, none⟩) (n - i) dc, .slice (some ⟨g, i * 1, none⟩) (n + 1 - i) sc]).run Try.prog w.drew = .ok (goInt (Nat.min (n + 1 - i) (n - i))) (w.drew.setCells g ((i + 1) * 1) cs) := fun ty dc sc =>
    run_copy_row w.drew 26 26 ty 3 1 g ((i + 1) * 1) _ dc ⟨g, i * 1, none⟩ _ sc cs cur 3 Try.underlying26 ins_szA (by rw [hcl]; simp only [Nat.min_def]; split <;> omega)
      (fun j u hj => by
        rw [Addr.add_lit, cell_of_row w.drew g _ _ _ _ hh]
        rw [hcsd, List.getElem?_drop] at hj
        have hlt := (List.getElem?_eq_some_iff.1 hj).1
        rw [List.length_take] at hlt
        rw [List.getElem?_take_of_lt (by omega)] at hj
        simpa using hj)
      hh (by rw [hcl, hcs]; omega) (fun u hu => hxo u (by rw [hcsd] at hu; exact List.mem_of_mem_drop hu))
  have hfit1 : (i + 1) * 1 + cs.length ≤ cur.size := by rw [hcl, hcs]; omega
  obtain ⟨cur', h3, h4, h5⟩ := setCells_row (e := 3) cs ((i + 1) * 1) w.drew cur hh hfit1
  have hv' : (w.drew.setCells g ((i + 1) * 1) cs).heap[vb]? = some (.cells ys.toArray 3 (0, 0)) := by rw [setCells_far _ _ vb hne]; exact hv
  obtain ⟨W1, hW1⟩ : ∃ W1, W1 = w.drew.setCells g ((i + 1) * 1) cs := ⟨_, rfl⟩
  rw [← hW1] at hcp1 hv' h3
  have hcp2 : ∀ ty dc, (Builtin.copy_ #[26, 26] ty #[.slice (some ⟨g, i * 1, none⟩) (n + 1 - i) dc, .slice (some ⟨vb, 0, none⟩) 1 1]).run Try.prog W1 = .ok (goInt (Nat.min 1 (n + 1 - i))) (W1.setCells g (i * 1) ys) := fun ty dc =>
    run_copy_row W1 26 26 ty 3 1 g (i * 1) _ dc ⟨vb, 0, none⟩ 1 1 ys cur' 3 Try.underlying26 ins_szA (by rw [hyl]; simp only [Nat.min_def]; split <;> omega)
      (fun j u hj => by rw [Addr.add_lit, blk_cell hv', Nat.zero_add]; simpa using hj) h3 (by rw [h4, hcs, hyl]; omega) hyo
  obtain ⟨W2, hW2⟩ : ∃ W2, W2 = W1.setCells g (i * 1) ys := ⟨_, rfl⟩
  rw [← hW2] at hcp2
  rw [← hcsd]
  have hw1 : IntKind.i64.wrap ((i : Int) + 1) = (i : Int) + 1 := by rw [IntKind.wrap_i64]; omega
  have hw2 : IntKind.i64.wrap ((n : Int) + 1) = (n : Int) + 1 := by rw [IntKind.wrap_i64]; omega
  have hb1 : (0 : Int) ≤ (i : Int) + 1 := by omega
  have hin : (i : Int) ≤ (n : Int) := by omega
  have htn : ((i : Int) + 1).toNat = i + 1 := by omega
  have htn2 : ((n : Int) + 1).toNat = n + 1 := by omega
  have hb2 : ¬ (c = i + 1) := by omega
  have hb3 : (i : Int) ≤ (n : Int) + 1 := by omega
  have hb4 : ¬ (c = i) := by omega
  have hb5 : ¬ ((c : Int) < (n : Int) + 1) := by omega
  have hb6 : (n : Int) + 1 ≤ (c : Int) := by omega
  replace hW1 := Aside0.mk hW1
  replace hW2 := Aside0.mk hW2
  clear hcl hfit1 hcs hcur h3 h4 h5 hcsd
  try simp only [Nat.mul_one] at hcp1 hcp2
  go_enter Try.func55, Try.ntmps55
  go_wp2_with (simp only [hov])
  go_region_law (refine step_copy_runI (by rfl) (.tmp 73) (.tmp 76) 26 26 (by rfl) (.slice (some ⟨g, i + 1, none⟩) (n - i) (c - (i + 1))) (.slice (some ⟨g, i, none⟩) (n + 1 - i) (c - i)) (by simp [Act.eval, Act.put]) (by simp [Act.eval, Act.put]) (hcp1 3 (c - (i + 1)) (c - i)) ?_)
  go_wp2_with (refine wpList_copy_runI _ rfl (.tmp 80) (.tmp 81) 26 26 rfl (.slice (some ⟨g, i, none⟩) (n + 1 - i) (c - i)) (.slice (some ⟨vb, 0, none⟩) 1 1) rfl rfl (hcp2 3 (c - i)) ?_)
  go_ret
  exact ⟨rfl, 1, by rw [hW2.out, hW1.out]; rfl⟩

set_option maxHeartbeats 4000000 in
set_option maxRecDepth 100000 in
/-- There is no room: a new row. -/
theorem ins_growA {w : World} {g vb n i : Nat} {ys : List Value} {cur : Array Value} (hh : w.heap[g]? = some (.cells cur 3 (0, 0))) (hcs : cur.size = n * 1) (hi : i < n)
    (hv : w.heap[vb]? = some (.cells ys.toArray 3 (0, 0))) (hyl : ys.length = 1) (hyo : ∀ u ∈ ys, u.oneCell' = true) (hxo : ∀ u ∈ cur.toList, u.oneCell' = true) (hbytes : (n + 1) * 8 ≤ 140737488355328) :
    Calls Try.prog 55 #[.slice (some ⟨g, 0, none⟩) n n, .int .i64 i, .slice (some ⟨vb, 0, none⟩) 1 1] w fun e w' => ∃ C cur', e = .returned (.slice (some ⟨w.heap.size, 0, none⟩) (n + 1) C) ∧ n + 1 ≤ C ∧ C ≤ maxLen ∧ w'.heap[w.heap.size]? = some (.cells cur' 3 (0, 0)) ∧ cur'.size = C * 1 ∧ cur'.toList.take ((n + 1) * 1) = cur.toList.take (i * 1) ++ ys ++ cur.toList.drop (i * 1) ∧ w.grownBy w' (some g) ∧ Below w.heap.size w w' := by
  have hz2 : ¬ ((i : Int) = (n : Int)) := by omega
  have hle : n + 1 ≤ 140737488355328 := Nat.le_trans (Nat.le_mul_of_pos_right _ (by decide)) hbytes
  obtain ⟨m, hm⟩ : ∃ m, n + 1 = i + m := ⟨n + 1 - i, by omega⟩
  have hsum : (n : Int) + 1 - (i : Int) = (m : Int) := by omega
  have hll : cur.toList.length = n * 1 := by rw [Array.length_toList, hcs]
  have hgl := blk_lt hh
  have hvl := blk_lt hv
  obtain ⟨i0, hi0, hzz⟩ := Option.map_eq_some_iff.1 ins_infoA
  simp only [Prod.mk.injEq] at hzz
  obtain ⟨hz0, hz1, hzb⟩ := hzz
  have happ0 := run_grow_zeros (P := Try.prog) w 26 3 26 3 i0 _ 1 8 Try.underlying26 Try.underlying3 hi0 hz0 hz1 hzb (by decide) ⟨g, 0, none⟩ i n (cur.toList.take (i * 1)) (by rw [List.length_take, hll]; omega)
    (fun j u hj => by
      rw [add_plain, blk_cell hh]
      have hlt := (List.getElem?_eq_some_iff.1 hj).1
      rw [List.length_take] at hlt
      rw [List.getElem?_take_of_lt (by omega)] at hj
      simpa using hj) .i64 m (by omega) (by omega) (by rw [← hm]; exact hbytes) (by decide)
  rw [← hm, ← hsum] at happ0
  obtain ⟨C, hCd⟩ : ∃ C, C = grownCap w (n + 1) n 3 := ⟨_, rfl⟩
  have hC1 : n + 1 ≤ C := by rw [hCd]; exact grownCap_ge w (n + 1) n 3
  have hC2 : C ≤ maxLen := by rw [hCd]; exact grownCap_le_maxLen w (n + 1) n 3 (by simp only [maxLen]; omega)
  rw [← hCd] at happ0
  obtain ⟨L, hL⟩ : ∃ L, L = (cur.toList.take (i * 1)).toArray ++ Builtin.zeroCells (Value.cells (.int .i64 0)) m ++ Builtin.zeroCells (Value.cells (.int .i64 0)) (C - (n + 1)) := ⟨_, rfl⟩
  rw [← hL] at happ0
  have hzs : (Value.cells (.int .i64 0)).size = 1 := by kernel_rfl
  have hLs : L.size = C * 1 := by
    rw [hL, Array.size_append, Array.size_append, size_zeroCells, size_zeroCells, hzs, List.size_toArray, List.length_take, hll]
    omega
  have hLt : L.toList.take (i * 1) = cur.toList.take (i * 1) := by
    rw [hL, Array.toList_append, Array.toList_append, List.append_assoc]
    rw [List.take_append_of_le_length (by rw [List.length_take, hll]; omega), List.take_take, Nat.min_self]
  obtain ⟨H, hH⟩ : ∃ H, H = w.heap.size := ⟨_, rfl⟩
  obtain ⟨W1, hW1⟩ : ∃ W1, W1 = w.drew.alloc (.cells L 3) := ⟨_, rfl⟩
  rw [← hW1, ← hH] at happ0
  have hneg : g ≠ H := by omega
  have hnev : vb ≠ H := by omega
  have h1H : W1.heap[H]? = some (.cells L 3 (0, 0)) := by rw [hW1, hH]; exact heap_alloc_new w.drew _
  have h1k : ∀ k, k < H → W1.heap[k]? = w.heap[k]? := fun k hk => by rw [hW1]; exact heap_alloc_old w.drew _ (by show k < w.heap.size; omega)
  have hB1 : Below w.heap.size w W1 := by rw [hW1]; exact below_alloc (below_drew1 (Below.refl _ _)) _
  have happ : (Builtin.append_ #[26, 3] 26 #[.slice (some ⟨g, 0, none⟩) i n, .int .i64 ((n : Int) + 1 - i)]).run Try.prog w = .ok (.slice (some ⟨H, 0, none⟩) (n + 1) C) W1 := happ0
  have hcp1 : ∀ ty dc, (Builtin.copy_ #[26, 26] ty #[.slice (some ⟨H, i * 1, none⟩) (n + 1 - i) dc, .slice (some ⟨vb, 0, none⟩) 1 1]).run Try.prog W1 = .ok (goInt (Nat.min 1 (n + 1 - i))) (W1.setCells H (i * 1) ys) := fun ty dc =>
    run_copy_row W1 26 26 ty 3 1 H (i * 1) _ dc ⟨vb, 0, none⟩ 1 1 ys L 3 Try.underlying26 ins_szA (by rw [hyl]; simp only [Nat.min_def]; split <;> omega)
      (fun j u hj => by rw [Addr.add_lit, blk_cell ((h1k vb (by omega)).trans hv), Nat.zero_add]; simpa using hj) h1H (by rw [hLs, hyl]; omega) hyo
  obtain ⟨L2, h2H, h2s, h2l⟩ := setCells_row (e := 3) ys (i * 1) W1 L h1H (by rw [hLs, hyl]; omega)
  obtain ⟨W2, hW2⟩ : ∃ W2, W2 = W1.setCells H (i * 1) ys := ⟨_, rfl⟩
  rw [← hW2] at hcp1 h2H
  have h2k : ∀ k, k < H → W2.heap[k]? = w.heap[k]? := fun k hk => by rw [hW2, setCells_far _ _ k (by omega)]; exact h1k k hk
  obtain ⟨t1, t2, t3, t4⟩ := setCells_same H ys (i * 1) W1
  obtain ⟨cs, hcsd⟩ : ∃ cs, cs = cur.toList.drop (i * 1) := ⟨_, rfl⟩
  have hcl : cs.length = (n - i) * 1 := by rw [hcsd, List.length_drop, hll]; omega
  have hcp2 : ∀ ty dc sc, (Builtin.copy_ #[26, 26] ty #[.slice (some ⟨H, (i + 1) * 1, none⟩) (n - i) dc, .slice (some ⟨g, i * 1, none⟩) (n - i) sc]).run Try.prog W2.drew = .ok (goInt (Nat.min (n - i) (n - i))) (W2.drew.setCells H ((i + 1) * 1) cs) := fun ty dc sc =>
    run_copy_row W2.drew 26 26 ty 3 1 H ((i + 1) * 1) _ dc ⟨g, i * 1, none⟩ _ sc cs L2 3 Try.underlying26 ins_szA (by rw [hcl]; simp only [Nat.min_def]; split <;> omega)
      (fun j u hj => by
        rw [Addr.add_lit, blk_cell (w := W2.drew) ((h2k g (by omega)).trans hh)]
        rw [hcsd, List.getElem?_drop] at hj
        simpa using hj)
      h2H (by rw [hcl, h2s, hLs]; omega) (fun u hu => hxo u (by rw [hcsd] at hu; exact List.mem_of_mem_drop hu))
  obtain ⟨L3, h3H, h3s, h3l⟩ := setCells_row (e := 3) cs ((i + 1) * 1) W2.drew L2 h2H (by rw [hcl, h2s, hLs]; omega)
  obtain ⟨u1, u2, u3, u4⟩ := setCells_same H cs ((i + 1) * 1) W2.drew
  obtain ⟨W3, hW3⟩ : ∃ W3, W3 = W2.drew.setCells H ((i + 1) * 1) cs := ⟨_, rfl⟩
  rw [← hW3] at hcp2 h3H u1 u2 u3 u4
  have h3k : ∀ k, k < H → W3.heap[k]? = w.heap[k]? := fun k hk => by rw [hW3, setCells_far _ _ k (by omega)]; exact h2k k hk
  have hres : L3.toList.take ((n + 1) * 1) = cur.toList.take (i * 1) ++ ys ++ cur.toList.drop (i * 1) := by
    have a1 : (L.toList.take (i * 1)).length = i * 1 := by rw [List.length_take, Array.length_toList, hLs]; omega
    have e1 : L2.toList.take ((i + 1) * 1) = cur.toList.take (i * 1) ++ ys := by
      rw [h2l, List.take_append_of_le_length (by rw [List.length_append, a1, hyl]; omega), List.take_of_length_le (by rw [List.length_append, a1, hyl]; omega), hLt]
    rw [h3l, e1, ← hcsd]
    exact List.take_append_of_le_length (by simp only [List.length_append, List.length_take, hll, hyl, hcl]; omega) |>.trans (List.take_of_length_le (by simp only [List.length_append, List.length_take, hll, hyl, hcl]; omega))
  have hgrow : w.grownBy W3 (some g) := ⟨by rw [u1]; show W2.os = _; rw [hW2, t1, hW1]; rfl, by rw [u2]; show W2.tape = _; rw [hW2, t2, hW1]; rfl, by rw [u3]; show W2.output = _; rw [hW2, t3, hW1]; rfl, by rw [u4]; show _ ≤ W2.heap.size; rw [hW2, t4]; exact hB1.size, fun k hk _ => h3k k (by omega)⟩
  have hB3 : Below w.heap.size w W3 := ⟨hgrow.os, hgrow.tape, hgrow.output, hgrow.size, fun k hk => h3k k (by omega)⟩
  have hw1 : IntKind.i64.wrap ((i : Int) + 1) = (i : Int) + 1 := by rw [IntKind.wrap_i64]; omega
  have hw2 : IntKind.i64.wrap ((n : Int) + 1) = (n : Int) + 1 := by rw [IntKind.wrap_i64]; omega
  have hw3 : IntKind.i64.wrap ((n : Int) + 1 - (i : Int)) = (n : Int) + 1 - (i : Int) := by rw [IntKind.wrap_i64]; omega
  have hb1 : (0 : Int) ≤ (i : Int) + 1 := by omega
  have hin : (i : Int) ≤ (n : Int) := by omega
  have htn : ((i : Int) + 1).toNat = i + 1 := by omega
  have hb2 : ¬ (C = i + 1) := by omega
  have hb3 : (i : Int) ≤ (n : Int) + 1 := by omega
  have hb4 : ¬ (C = i) := by omega
  have hb5 : ¬ (n = i) := by omega
  have hb6 : (n : Int) < (n : Int) + 1 := by omega
  have hb7 : (n : Int) + 1 ≤ (C : Int) := by omega
  replace hH := Aside0.mk hH
  replace hW3 := Aside0.mk hW3
  have hC := Aside0.mk (And.intro hC1 hC2)
  have hfin := Aside0.mk (And.intro h3H (And.intro h3s (And.intro hres (And.intro hgrow hB3))))
  have h23 := Aside0.mk (And.intro h2s hLs)
  clear hcs hm hsum hll hgl hvl hz0 hz1 hzb hLs hLt hcl hC1 hC2 h1H h2H h3H h1k h2k h3k hB1 hB3 hgrow hres t1 t2 t3 t4 u1 u2 u3 u4 h2s h2l h3s h3l happ0 hcsd hL hCd hneg hnev hW1 hW2
  try simp only [Nat.mul_one] at hcp1 hcp2
  go_enter Try.func55, Try.ntmps55
  go_wp2_with (first | (refine wp_append_runI _ rfl (.tmp 34) (.tmp 39) 26 3 rfl (.slice (some ⟨g, 0, none⟩) i n) (.int .i64 ((n : Int) + 1 - i)) rfl rfl _ _ happ ?_) | (refine wpList_copy_runI _ rfl (.tmp 43) (.tmp 44) 26 26 rfl (.slice (some ⟨H, i, none⟩) (n + 1 - i) (C - i)) (.slice (some ⟨vb, 0, none⟩) 1 1) rfl rfl (hcp1 3 (C - i)) ?_))
  go_region_law (refine step_copy_runI (by rfl) (.tmp 50) (.tmp 53) 26 26 (by rfl) (.slice (some ⟨H, i + 1, none⟩) (n - i) (C - (i + 1))) (.slice (some ⟨g, i, none⟩) (n - i) (n - i)) (by simp [Act.eval, Act.put]) (by simp [Act.eval, Act.put]) (hcp2 3 (C - (i + 1)) (n - i)) ?_)
  go_wp2
  go_ret
  obtain ⟨f1, f2, f3, f4, f5⟩ := hfin.out
  have hHe := hH.out
  subst hHe
  exact ⟨C, L3, rfl, hC.out.1, hC.out.2, f1, by rw [f2]; exact h23.out.1.trans h23.out.2, f3, f4, f5⟩

/-- slices.Insert of one element, at any kind of element. -/
theorem insert_inA {α : Type} (d : Kd α) (hsz : d.sz = 1) {w : World} {base vb : Nat} {ok okp : Nat → Prop} {A : Option Addr} {c : Nat} {xs : List α} {p : α} {ys : List Value} (HO : d.R 3 w base ok (.slice A xs.length c) xs) (i : Nat) (hi : i ≤ xs.length)
    (hv : w.heap[vb]? = some (.cells ys.toArray 3 (0, 0))) (hp : d.M w base okp p ys) (hokp : ∀ k, okp k → ok k ∧ some k ≠ (Value.slice A xs.length c).ownBlock) (hfresh : ∀ k, w.heap.size ≤ k → ok k) (hvb : some vb ≠ (Value.slice A xs.length c).ownBlock)
    (hl : (xs.length + 1) * 8 ≤ 140737488355328) (hbase : base ≤ w.heap.size) :
    Calls Try.prog 55 #[.slice A xs.length c, .int .i64 (i : Int), .slice (some ⟨vb, 0, none⟩) 1 1] w fun e w' => ∃ v1, e = .returned v1 ∧ d.R 3 w' base ok v1 (xs.take i ++ p :: xs.drop i) ∧ Below base w w' ∧ w.grownBy w' (Value.slice A xs.length c).ownBlock ∧ (v1.ownBlock = (Value.slice A xs.length c).ownBlock ∨ ∃ b, v1.ownBlock = some b ∧ w.heap.size ≤ b) := by
  rcases Nat.eq_or_lt_of_le hi with rfl | hlt
  · rw [List.take_length, List.drop_length]
    exact ins_endA d hsz HO hv hp hokp hfresh hl hbase
  obtain ⟨h0, inner, hown, hr⟩ := HO
  have hyl : ys.length = 1 := by rw [← hsz]; exact d.K_len (d.K_of_M hp)
  have hyo := d.K_one (d.K_of_M hp)
  have hone := ins_one hr (by rw [hsz]; decide) (fun _ _ hp => d.K_one (d.K_of_M hp))
  have hown' := hown
  rcases hown.2 with ⟨hv0, hn0⟩ | ⟨g, cap, cur, hv0, hbg, hg, hnc, hcm, hcs, htake⟩
  · omega
  injection hv0 with ha _ hc
  subst ha
  subst hc
  rw [hsz] at hcs htake
  have hne : vb ≠ g := fun e => hvb (by simp [Value.ownBlock, e])
  have hB : ∀ {w' : World}, w.grownBy w' (some g) → Below base w w' := fun hgr => (Below.refl base w).grown hgr hbase (fun k hk => by injection hk with hk; omega)
  have hil : inner.length = xs.length * 1 := by rw [← hsz]; exact hr.1
  have hll : (inner.take (i * 1) ++ ys ++ inner.drop (i * 1)).length = (xs.length + 1) * 1 := by
    simp only [List.length_append, List.length_take, List.length_drop, hil, hyl]
    omega
  by_cases hroom : xs.length + 1 ≤ c
  · refine (ins_roomA hg hcs hlt hroom (by simp only [maxLen] at hcm; omega) hv hyl hyo (by rw [htake]; exact hone) hne).mono ?_
    rintro e w' ⟨rfl, q, rfl⟩
    rw [htake]
    have hq : (w.drewN q).heap[g]? = some (.cells cur 3 (0, 0)) := by rw [← hg]; exact blk_drewN_eq w q g
    have hcl : (inner.drop (i * 1)).length = (xs.length - i) * 1 := by rw [List.length_drop, hil]; omega
    obtain ⟨c1, a1, a2, a3⟩ := setCells_row (e := 3) (inner.drop (i * 1)) ((i + 1) * 1) (w.drewN q) cur hq (by rw [hcl, hcs]; omega)
    obtain ⟨c2, b1, b2, b3⟩ := setCells_row (e := 3) ys (i * 1) ((w.drewN q).setCells g ((i + 1) * 1) (inner.drop (i * 1))) c1 a1 (by rw [hyl, a2, hcs]; omega)
    obtain ⟨t1, t2, t3, t4⟩ := setCells_same g (inner.drop (i * 1)) ((i + 1) * 1) (w.drewN q)
    obtain ⟨u1, u2, u3, u4⟩ := setCells_same g ys (i * 1) ((w.drewN q).setCells g ((i + 1) * 1) (inner.drop (i * 1)))
    obtain ⟨z1, z2, z3, z4⟩ := drewN_same w q
    have hgr : w.grownBy (((w.drewN q).setCells g ((i + 1) * 1) (inner.drop (i * 1))).setCells g (i * 1) ys) (some g) :=
      ⟨by rw [u1, t1, z1], by rw [u2, t2, z2], by rw [u3, t3, z3], by rw [u4, t4, z4]; exact Nat.le_refl _, fun k hk hk' => by
        have hkg : k ≠ g := fun e => hk' (by rw [e])
        rw [setCells_far _ _ k hkg, setCells_far _ _ k hkg, blk_drewN_eq]⟩
    refine ⟨_, rfl, R_inserted i hi h0 hr hp hokp hfresh ⟨by rw [hsz]; exact hll, .inr ⟨g, c, c2, rfl, hbg, b1, hroom, hcm, by rw [hsz, b2, a2, hcs], ?_⟩⟩ (by simpa [Value.ownBlock] using hgr) (.inl rfl), hB hgr, by simpa [Value.ownBlock] using hgr, .inl rfl⟩
    have hcl' : cur.toList.length = c * 1 := by rw [Array.length_toList, hcs]
    have e0 : cur.toList.take (i * 1) = inner.take (i * 1) := by rw [← htake, List.take_take, Nat.min_eq_left (by omega)]
    have e1 : c1.toList.take (i * 1) = inner.take (i * 1) := by
      rw [a3, List.append_assoc, List.take_append_of_le_length (by rw [List.length_take]; omega), List.take_take, Nat.min_eq_left (by omega), e0]
    have e2 : c1.toList.drop ((i + 1) * 1) = inner.drop (i * 1) ++ cur.toList.drop ((i + 1) * 1 + (inner.drop (i * 1)).length) := by
      rw [a3, List.append_assoc, List.drop_append, List.drop_eq_nil_of_le (by rw [List.length_take]; omega), List.nil_append, List.length_take, Nat.min_eq_left (by omega), Nat.sub_self, List.drop_zero]
    rw [hsz, b3, e1, hyl, show i * 1 + 1 = (i + 1) * 1 by omega, e2, ← List.append_assoc]
    rw [List.take_append_of_le_length (by rw [hll]; exact Nat.le_refl _)]
    exact List.take_of_length_le (by rw [hll]; exact Nat.le_refl _)
  · obtain rfl : c = xs.length := by omega
    have hcl : cur.toList.length = xs.length * 1 := by rw [Array.length_toList, hcs]
    rw [List.take_of_length_le (by omega)] at htake
    refine (ins_growA hg hcs hlt hv hyl hyo (by rw [htake]; exact hone) hl).mono ?_
    rintro e w' ⟨C, cur', rfl, hC1, hC2, h1, h2, h3, hgr, hB'⟩
    rw [htake] at h3
    refine ⟨_, rfl, R_inserted i hi h0 hr hp hokp hfresh ⟨by rw [hsz]; exact hll, .inr ⟨w.heap.size, C, cur', rfl, hbase, h1, hC1, hC2, by rw [hsz]; exact h2, by rw [hsz]; exact h3⟩⟩ (by simpa [Value.ownBlock] using hgr) (.inr ⟨_, rfl, Nat.le_refl _⟩), hB hgr, by simpa [Value.ownBlock] using hgr, .inr ⟨_, rfl, Nat.le_refl _⟩⟩
end Go.Proofs.Ytflfmpfmnhpbmaa.PA

/- slices.Insert of one element, walked by hand. -/
namespace Go.Proofs.Ytflfmpfmnhpbmaa.PA
open Go.RowKit Go.Proofs.YtflfmpfmnhpbmaaW.PrintWords Go.Proofs.YtflfmpfmnhpbmaaW.PrintLast Go.Proofs.YtflfmpfmnhpbmaaW.PrintMore
set_option linter.unusedVariables false
set_option linter.unusedSimpArgs false

theorem ins_infoB : (Try.prog.info? 43).map (fun i => (i.zero, i.size, i.bytes)) = some (some (.agg #[.int .i64 0, .int .i64 0]), 2, 16) := by kernel_rfl
theorem ins_szB : (Try.prog.info? 43).map (fun i => i.size) = some 2 := by kernel_rfl
theorem ins_sizeB (w : World) : (Go.sizeOf 43).run Try.prog w = .ok 2 w := by kernel_rfl
theorem ins_apartB (w : World) (vb g o : Nat) (ys cur : Array Value) (m vc lb cb : Nat) (hne : vb ≠ g) (hv : w.heap[vb]? = some (.cells ys 43 (0, 0))) (hg : w.heap[g]? = some (.cells cur 43 (0, 0))) (hcur : cur.size ≠ 0) :
    (callFunc 75 #[.slice (some ⟨vb, 0, none⟩) m vc, .slice (some ⟨g, o, none⟩) lb cb]).run Try.prog w = .ok (.value (.bool false)) w := by
  rw [run_callFunc_extern Try.func75 (by kernel_rfl) (by kernel_rfl) (by kernel_rfl) (e := Extern.SlicesOverlaps.overlaps #[25, 25] #[4]) (by kernel_rfl),
    Lib.run_overlaps_apart w 25 4 43 Try.underlying25 2 ins_sizeB ⟨vb, 0, none⟩ ⟨g, o, none⟩ m vc lb cb hne 43 43 ys.size cur.size (by simp [World.shape?, hv]) (by simp [World.shape?, hg]) hcur (blk_frozen hv _) (blk_frozen hv _)]
  rfl

set_option maxHeartbeats 4000000 in
set_option maxRecDepth 100000 in
/-- At the end. -/
theorem ins_endB {α : Type} (d : Kd α) (hsz : d.sz = 2) {w : World} {base vb : Nat} {ok okp : Nat → Prop} {A : Option Addr} {c : Nat} {xs : List α} {p : α} {ys : List Value} (HO : d.R 43 w base ok (.slice A xs.length c) xs)
    (hv : w.heap[vb]? = some (.cells ys.toArray 43 (0, 0))) (hp : d.M w base okp p ys) (hokp : ∀ k, okp k → ok k ∧ some k ≠ (Value.slice A xs.length c).ownBlock) (hfresh : ∀ k, w.heap.size ≤ k → ok k)
    (hl : (xs.length + 1) * 16 ≤ 140737488355328) (hbase : base ≤ w.heap.size) :
    Calls Try.prog 70 #[.slice A xs.length c, .int .i64 xs.length, .slice (some ⟨vb, 0, none⟩) 1 1] w fun e w' => ∃ v1, e = .returned v1 ∧ d.R 43 w' base ok v1 (xs ++ [p]) ∧ Below base w w' ∧ w.grownBy w' (Value.slice A xs.length c).ownBlock ∧ (v1.ownBlock = (Value.slice A xs.length c).ownBlock ∨ ∃ b, v1.ownBlock = some b ∧ w.heap.size ≤ b) := by
  have hnc := (Kd.R_reads' HO).2.1
  have hle : xs.length + 1 ≤ 140737488355328 := Nat.le_trans (Nat.le_mul_of_pos_right _ (by decide)) hl
  have HR : ReadsRow (fun x cs => x = p ∧ cs = ys) d.sz w (some ⟨vb, 0, none⟩) 1 [p] := by
    refine ⟨rfl, by decide, fun _ => ⟨_, rfl, fun j q hj => ?_⟩⟩
    cases j with
    | zero =>
      obtain rfl : p = q := by simpa using hj
      refine ⟨ys, d.K_len (d.K_of_M hp), ⟨rfl, rfl⟩, fun i u hu => ?_⟩
      rw [add_plain, blk_cell hv, Nat.zero_mul, Nat.zero_add]
      simpa using hu
    | succ j => simp at hj
  have HO1 := Aside0.mk HO
  clear HO
  have hcc : (xs.length : Int) ≤ (c : Int) := by omega
  rcases Nat.eq_or_lt_of_le hnc with hceq | hclt
  · subst hceq
    go_enter Try.func70, Try.ntmps70
    go_wp2_with (at_builtin; refine Kd.R_append_rows (P := Try.prog) d (Rr := fun x cs => x = p ∧ cs = ys) (w0 := w) base rfl _ _ 25 43 (.agg #[.int .i64 0, .int .i64 0]) 16 rfl Try.underlying25 (by rw [hsz]; exact ins_infoB) (by rw [hsz]; rfl) (by rw [hsz]; decide) (by decide) (.slice A xs.length xs.length) xs [p] (some ⟨vb, 0, none⟩) 1 1 ok okp rfl rfl HO1.out HR (fun x cs hx => by rw [hx.1, hx.2]; exact hp) hokp hfresh (Below.refl _ _) hbase hl ?_; intro v1 w1 hR1 hB1 hg1 hat1)
    go_ret
    exact ⟨_, rfl, hR1, hB1, hg1, hat1⟩
  have hcne : ¬ (c = xs.length) := by omega
  go_enter Try.func70, Try.ntmps70
  go_wp2_with (at_builtin; refine Kd.R_append_rows (P := Try.prog) d (Rr := fun x cs => x = p ∧ cs = ys) (w0 := w) base rfl _ _ 25 43 (.agg #[.int .i64 0, .int .i64 0]) 16 rfl Try.underlying25 (by rw [hsz]; exact ins_infoB) (by rw [hsz]; rfl) (by rw [hsz]; decide) (by decide) (.slice A xs.length c) xs [p] (some ⟨vb, 0, none⟩) 1 1 ok okp rfl rfl HO1.out HR (fun x cs hx => by rw [hx.1, hx.2]; exact hp) hokp hfresh (Below.refl _ _) hbase hl ?_; intro v1 w1 hR1 hB1 hg1 hat1)
  go_ret
  exact ⟨_, rfl, hR1, hB1, hg1, hat1⟩

set_option maxHeartbeats 4000000 in
set_option maxRecDepth 100000 in
/-- There is room: in place. -/
theorem ins_roomB {w : World} {g vb n c i : Nat} {ys : List Value} {cur : Array Value} (hh : w.heap[g]? = some (.cells cur 43 (0, 0))) (hcs : cur.size = c * 2) (hi : i < n) (hroom : n + 1 ≤ c) (hc63 : c ≤ 9223372036854775807)
    (hv : w.heap[vb]? = some (.cells ys.toArray 43 (0, 0))) (hyl : ys.length = 2) (hyo : ∀ u ∈ ys, u.oneCell' = true) (hxo : ∀ u ∈ cur.toList.take (n * 2), u.oneCell' = true) (hne : vb ≠ g) :
    Calls Try.prog 70 #[.slice (some ⟨g, 0, none⟩) n c, .int .i64 i, .slice (some ⟨vb, 0, none⟩) 1 1] w fun e w' => e = .returned (.slice (some ⟨g, 0, none⟩) (n + 1) c) ∧ ∃ q, w' = ((w.drewN q).setCells g ((i + 1) * 2) ((cur.toList.take (n * 2)).drop (i * 2))).setCells g (i * 2) ys := by
  have hz2 : ¬ ((i : Int) = (n : Int)) := by omega
  have hcur : cur.size ≠ 0 := by rw [hcs]; omega
  obtain ⟨cs, hcsd⟩ : ∃ cs, cs = (cur.toList.take (n * 2)).drop (i * 2) := ⟨_, rfl⟩
  have hcl : cs.length = (n - i) * 2 := by rw [hcsd, List.length_drop, List.length_take, Array.length_toList, hcs]; omega
  have hov := fun (o lb cb : Nat) => ins_apartB w vb g o ys.toArray cur 1 1 lb cb hne hv hh hcur
  have hcell := fun i => cell_of_row w g i _ _ _ hh
  have hcp1 : ∀ ty dc sc, (Builtin.copy_ #[25, 25] ty #[.slice (some ⟨g, (i + 1) * 2, none⟩) (n - i) dc, .slice (some ⟨g, i * 2, none⟩) (n + 1 - i) sc]).run Try.prog w.drew = .ok (goInt (Nat.min (n + 1 - i) (n - i))) (w.drew.setCells g ((i + 1) * 2) cs) := fun ty dc sc =>
    run_copy_row w.drew 25 25 ty 43 2 g ((i + 1) * 2) _ dc ⟨g, i * 2, none⟩ _ sc cs cur 43 Try.underlying25 ins_szB (by rw [hcl]; simp only [Nat.min_def]; split <;> omega)
      (fun j u hj => by
        rw [Addr.add_lit, cell_of_row w.drew g _ _ _ _ hh]
        rw [hcsd, List.getElem?_drop] at hj
        have hlt := (List.getElem?_eq_some_iff.1 hj).1
        rw [List.length_take] at hlt
        rw [List.getElem?_take_of_lt (by omega)] at hj
        simpa using hj)
      hh (by rw [hcl, hcs]; omega) (fun u hu => hxo u (by rw [hcsd] at hu; exact List.mem_of_mem_drop hu))
  have hfit1 : (i + 1) * 2 + cs.length ≤ cur.size := by rw [hcl, hcs]; omega
  obtain ⟨cur', h3, h4, h5⟩ := setCells_row (e := 43) cs ((i + 1) * 2) w.drew cur hh hfit1
  have hv' : (w.drew.setCells g ((i + 1) * 2) cs).heap[vb]? = some (.cells ys.toArray 43 (0, 0)) := by rw [setCells_far _ _ vb hne]; exact hv
  obtain ⟨W1, hW1⟩ : ∃ W1, W1 = w.drew.setCells g ((i + 1) * 2) cs := ⟨_, rfl⟩
  rw [← hW1] at hcp1 hv' h3
  have hcp2 : ∀ ty dc, (Builtin.copy_ #[25, 25] ty #[.slice (some ⟨g, i * 2, none⟩) (n + 1 - i) dc, .slice (some ⟨vb, 0, none⟩) 1 1]).run Try.prog W1 = .ok (goInt (Nat.min 1 (n + 1 - i))) (W1.setCells g (i * 2) ys) := fun ty dc =>
    run_copy_row W1 25 25 ty 43 2 g (i * 2) _ dc ⟨vb, 0, none⟩ 1 1 ys cur' 43 Try.underlying25 ins_szB (by rw [hyl]; simp only [Nat.min_def]; split <;> omega)
      (fun j u hj => by rw [Addr.add_lit, blk_cell hv', Nat.zero_add]; simpa using hj) h3 (by rw [h4, hcs, hyl]; omega) hyo
  obtain ⟨W2, hW2⟩ : ∃ W2, W2 = W1.setCells g (i * 2) ys := ⟨_, rfl⟩
  rw [← hW2] at hcp2
  rw [← hcsd]
  have hw1 : IntKind.i64.wrap ((i : Int) + 1) = (i : Int) + 1 := by rw [IntKind.wrap_i64]; omega
  have hw2 : IntKind.i64.wrap ((n : Int) + 1) = (n : Int) + 1 := by rw [IntKind.wrap_i64]; omega
  have hb1 : (0 : Int) ≤ (i : Int) + 1 := by omega
  have hin : (i : Int) ≤ (n : Int) := by omega
  have htn : ((i : Int) + 1).toNat = i + 1 := by omega
  have htn2 : ((n : Int) + 1).toNat = n + 1 := by omega
  have hb2 : ¬ (c = i + 1) := by omega
  have hb3 : (i : Int) ≤ (n : Int) + 1 := by omega
  have hb4 : ¬ (c = i) := by omega
  have hb5 : ¬ ((c : Int) < (n : Int) + 1) := by omega
  have hb6 : (n : Int) + 1 ≤ (c : Int) := by omega
  replace hW1 := Aside0.mk hW1
  replace hW2 := Aside0.mk hW2
  clear hcl hfit1 hcs hcur h3 h4 h5 hcsd
  go_enter Try.func70, Try.ntmps70
  go_wp2_with (simp only [hov])
  go_region_law (refine step_copy_runI (by rfl) (.tmp 73) (.tmp 76) 25 25 (by rfl) (.slice (some ⟨g, (i + 1) * 2, none⟩) (n - i) (c - (i + 1))) (.slice (some ⟨g, i * 2, none⟩) (n + 1 - i) (c - i)) (by simp [Act.eval, Act.put]) (by simp [Act.eval, Act.put]) (hcp1 3 (c - (i + 1)) (c - i)) ?_)
  go_wp2_with (refine wpList_copy_runI _ rfl (.tmp 80) (.tmp 81) 25 25 rfl (.slice (some ⟨g, i * 2, none⟩) (n + 1 - i) (c - i)) (.slice (some ⟨vb, 0, none⟩) 1 1) rfl rfl (hcp2 3 (c - i)) ?_)
  go_ret
  exact ⟨rfl, 1, by rw [hW2.out, hW1.out]; rfl⟩

set_option maxHeartbeats 4000000 in
set_option maxRecDepth 100000 in
/-- There is no room: a new row. -/
theorem ins_growB {w : World} {g vb n i : Nat} {ys : List Value} {cur : Array Value} (hh : w.heap[g]? = some (.cells cur 43 (0, 0))) (hcs : cur.size = n * 2) (hi : i < n)
    (hv : w.heap[vb]? = some (.cells ys.toArray 43 (0, 0))) (hyl : ys.length = 2) (hyo : ∀ u ∈ ys, u.oneCell' = true) (hxo : ∀ u ∈ cur.toList, u.oneCell' = true) (hbytes : (n + 1) * 16 ≤ 140737488355328) :
    Calls Try.prog 70 #[.slice (some ⟨g, 0, none⟩) n n, .int .i64 i, .slice (some ⟨vb, 0, none⟩) 1 1] w fun e w' => ∃ C cur', e = .returned (.slice (some ⟨w.heap.size, 0, none⟩) (n + 1) C) ∧ n + 1 ≤ C ∧ C ≤ maxLen ∧ w'.heap[w.heap.size]? = some (.cells cur' 43 (0, 0)) ∧ cur'.size = C * 2 ∧ cur'.toList.take ((n + 1) * 2) = cur.toList.take (i * 2) ++ ys ++ cur.toList.drop (i * 2) ∧ w.grownBy w' (some g) ∧ Below w.heap.size w w' := by
  have hz2 : ¬ ((i : Int) = (n : Int)) := by omega
  have hle : n + 1 ≤ 140737488355328 := Nat.le_trans (Nat.le_mul_of_pos_right _ (by decide)) hbytes
  obtain ⟨m, hm⟩ : ∃ m, n + 1 = i + m := ⟨n + 1 - i, by omega⟩
  have hsum : (n : Int) + 1 - (i : Int) = (m : Int) := by omega
  have hll : cur.toList.length = n * 2 := by rw [Array.length_toList, hcs]
  have hgl := blk_lt hh
  have hvl := blk_lt hv
  obtain ⟨i0, hi0, hzz⟩ := Option.map_eq_some_iff.1 ins_infoB
  simp only [Prod.mk.injEq] at hzz
  obtain ⟨hz0, hz1, hzb⟩ := hzz
  have happ0 := run_grow_zeros (P := Try.prog) w 25 3 25 43 i0 _ 2 16 Try.underlying25 Try.underlying3 hi0 hz0 hz1 hzb (by decide) ⟨g, 0, none⟩ i n (cur.toList.take (i * 2)) (by rw [List.length_take, hll]; omega)
    (fun j u hj => by
      rw [add_plain, blk_cell hh]
      have hlt := (List.getElem?_eq_some_iff.1 hj).1
      rw [List.length_take] at hlt
      rw [List.getElem?_take_of_lt (by omega)] at hj
      simpa using hj) .i64 m (by omega) (by omega) (by rw [← hm]; exact hbytes) (by decide)
  rw [← hm, ← hsum] at happ0
  obtain ⟨C, hCd⟩ : ∃ C, C = grownCap w (n + 1) n 43 := ⟨_, rfl⟩
  have hC1 : n + 1 ≤ C := by rw [hCd]; exact grownCap_ge w (n + 1) n 43
  have hC2 : C ≤ maxLen := by rw [hCd]; exact grownCap_le_maxLen w (n + 1) n 43 (by simp only [maxLen]; omega)
  rw [← hCd] at happ0
  obtain ⟨L, hL⟩ : ∃ L, L = (cur.toList.take (i * 2)).toArray ++ Builtin.zeroCells (Value.cells (.agg #[.int .i64 0, .int .i64 0])) m ++ Builtin.zeroCells (Value.cells (.agg #[.int .i64 0, .int .i64 0])) (C - (n + 1)) := ⟨_, rfl⟩
  rw [← hL] at happ0
  have hzs : (Value.cells (.agg #[.int .i64 0, .int .i64 0])).size = 2 := by kernel_rfl
  have hLs : L.size = C * 2 := by
    rw [hL, Array.size_append, Array.size_append, size_zeroCells, size_zeroCells, hzs, List.size_toArray, List.length_take, hll]
    omega
  have hLt : L.toList.take (i * 2) = cur.toList.take (i * 2) := by
    rw [hL, Array.toList_append, Array.toList_append, List.append_assoc]
    rw [List.take_append_of_le_length (by rw [List.length_take, hll]; omega), List.take_take, Nat.min_self]
  obtain ⟨H, hH⟩ : ∃ H, H = w.heap.size := ⟨_, rfl⟩
  obtain ⟨W1, hW1⟩ : ∃ W1, W1 = w.drew.alloc (.cells L 43) := ⟨_, rfl⟩
  rw [← hW1, ← hH] at happ0
  have hneg : g ≠ H := by omega
  have hnev : vb ≠ H := by omega
  have h1H : W1.heap[H]? = some (.cells L 43 (0, 0)) := by rw [hW1, hH]; exact heap_alloc_new w.drew _
  have h1k : ∀ k, k < H → W1.heap[k]? = w.heap[k]? := fun k hk => by rw [hW1]; exact heap_alloc_old w.drew _ (by show k < w.heap.size; omega)
  have hB1 : Below w.heap.size w W1 := by rw [hW1]; exact below_alloc (below_drew1 (Below.refl _ _)) _
  have happ : (Builtin.append_ #[25, 3] 25 #[.slice (some ⟨g, 0, none⟩) i n, .int .i64 ((n : Int) + 1 - i)]).run Try.prog w = .ok (.slice (some ⟨H, 0, none⟩) (n + 1) C) W1 := happ0
  have hcp1 : ∀ ty dc, (Builtin.copy_ #[25, 25] ty #[.slice (some ⟨H, i * 2, none⟩) (n + 1 - i) dc, .slice (some ⟨vb, 0, none⟩) 1 1]).run Try.prog W1 = .ok (goInt (Nat.min 1 (n + 1 - i))) (W1.setCells H (i * 2) ys) := fun ty dc =>
    run_copy_row W1 25 25 ty 43 2 H (i * 2) _ dc ⟨vb, 0, none⟩ 1 1 ys L 43 Try.underlying25 ins_szB (by rw [hyl]; simp only [Nat.min_def]; split <;> omega)
      (fun j u hj => by rw [Addr.add_lit, blk_cell ((h1k vb (by omega)).trans hv), Nat.zero_add]; simpa using hj) h1H (by rw [hLs, hyl]; omega) hyo
  obtain ⟨L2, h2H, h2s, h2l⟩ := setCells_row (e := 43) ys (i * 2) W1 L h1H (by rw [hLs, hyl]; omega)
  obtain ⟨W2, hW2⟩ : ∃ W2, W2 = W1.setCells H (i * 2) ys := ⟨_, rfl⟩
  rw [← hW2] at hcp1 h2H
  have h2k : ∀ k, k < H → W2.heap[k]? = w.heap[k]? := fun k hk => by rw [hW2, setCells_far _ _ k (by omega)]; exact h1k k hk
  obtain ⟨t1, t2, t3, t4⟩ := setCells_same H ys (i * 2) W1
  obtain ⟨cs, hcsd⟩ : ∃ cs, cs = cur.toList.drop (i * 2) := ⟨_, rfl⟩
  have hcl : cs.length = (n - i) * 2 := by rw [hcsd, List.length_drop, hll]; omega
  have hcp2 : ∀ ty dc sc, (Builtin.copy_ #[25, 25] ty #[.slice (some ⟨H, (i + 1) * 2, none⟩) (n - i) dc, .slice (some ⟨g, i * 2, none⟩) (n - i) sc]).run Try.prog W2.drew = .ok (goInt (Nat.min (n - i) (n - i))) (W2.drew.setCells H ((i + 1) * 2) cs) := fun ty dc sc =>
    run_copy_row W2.drew 25 25 ty 43 2 H ((i + 1) * 2) _ dc ⟨g, i * 2, none⟩ _ sc cs L2 43 Try.underlying25 ins_szB (by rw [hcl]; simp only [Nat.min_def]; split <;> omega)
      (fun j u hj => by
        rw [Addr.add_lit, blk_cell (w := W2.drew) ((h2k g (by omega)).trans hh)]
        rw [hcsd, List.getElem?_drop] at hj
        simpa using hj)
      h2H (by rw [hcl, h2s, hLs]; omega) (fun u hu => hxo u (by rw [hcsd] at hu; exact List.mem_of_mem_drop hu))
  obtain ⟨L3, h3H, h3s, h3l⟩ := setCells_row (e := 43) cs ((i + 1) * 2) W2.drew L2 h2H (by rw [hcl, h2s, hLs]; omega)
  obtain ⟨u1, u2, u3, u4⟩ := setCells_same H cs ((i + 1) * 2) W2.drew
  obtain ⟨W3, hW3⟩ : ∃ W3, W3 = W2.drew.setCells H ((i + 1) * 2) cs := ⟨_, rfl⟩
  rw [← hW3] at hcp2 h3H u1 u2 u3 u4
  have h3k : ∀ k, k < H → W3.heap[k]? = w.heap[k]? := fun k hk => by rw [hW3, setCells_far _ _ k (by omega)]; exact h2k k hk
  have hres : L3.toList.take ((n + 1) * 2) = cur.toList.take (i * 2) ++ ys ++ cur.toList.drop (i * 2) := by
    have a1 : (L.toList.take (i * 2)).length = i * 2 := by rw [List.length_take, Array.length_toList, hLs]; omega
    have e1 : L2.toList.take ((i + 1) * 2) = cur.toList.take (i * 2) ++ ys := by
      rw [h2l, List.take_append_of_le_length (by rw [List.length_append, a1, hyl]; omega), List.take_of_length_le (by rw [List.length_append, a1, hyl]; omega), hLt]
    rw [h3l, e1, ← hcsd]
    exact List.take_append_of_le_length (by simp only [List.length_append, List.length_take, hll, hyl, hcl]; omega) |>.trans (List.take_of_length_le (by simp only [List.length_append, List.length_take, hll, hyl, hcl]; omega))
  have hgrow : w.grownBy W3 (some g) := ⟨by rw [u1]; show W2.os = _; rw [hW2, t1, hW1]; rfl, by rw [u2]; show W2.tape = _; rw [hW2, t2, hW1]; rfl, by rw [u3]; show W2.output = _; rw [hW2, t3, hW1]; rfl, by rw [u4]; show _ ≤ W2.heap.size; rw [hW2, t4]; exact hB1.size, fun k hk _ => h3k k (by omega)⟩
  have hB3 : Below w.heap.size w W3 := ⟨hgrow.os, hgrow.tape, hgrow.output, hgrow.size, fun k hk => h3k k (by omega)⟩
  have hw1 : IntKind.i64.wrap ((i : Int) + 1) = (i : Int) + 1 := by rw [IntKind.wrap_i64]; omega
  have hw2 : IntKind.i64.wrap ((n : Int) + 1) = (n : Int) + 1 := by rw [IntKind.wrap_i64]; omega
  have hw3 : IntKind.i64.wrap ((n : Int) + 1 - (i : Int)) = (n : Int) + 1 - (i : Int) := by rw [IntKind.wrap_i64]; omega
  have hb1 : (0 : Int) ≤ (i : Int) + 1 := by omega
  have hin : (i : Int) ≤ (n : Int) := by omega
  have htn : ((i : Int) + 1).toNat = i + 1 := by omega
  have hb2 : ¬ (C = i + 1) := by omega
  have hb3 : (i : Int) ≤ (n : Int) + 1 := by omega
  have hb4 : ¬ (C = i) := by omega
  have hb5 : ¬ (n = i) := by omega
  have hb6 : (n : Int) < (n : Int) + 1 := by omega
  have hb7 : (n : Int) + 1 ≤ (C : Int) := by omega
  replace hH := Aside0.mk hH
  replace hW3 := Aside0.mk hW3
  have hC := Aside0.mk (And.intro hC1 hC2)
  have hfin := Aside0.mk (And.intro h3H (And.intro h3s (And.intro hres (And.intro hgrow hB3))))
  have h23 := Aside0.mk (And.intro h2s hLs)
  clear hcs hm hsum hll hgl hvl hz0 hz1 hzb hLs hLt hcl hC1 hC2 h1H h2H h3H h1k h2k h3k hB1 hB3 hgrow hres t1 t2 t3 t4 u1 u2 u3 u4 h2s h2l h3s h3l happ0 hcsd hL hCd hneg hnev hW1 hW2
  go_enter Try.func70, Try.ntmps70
  go_wp2_with (first | (refine wp_append_runI _ rfl (.tmp 34) (.tmp 39) 25 3 rfl (.slice (some ⟨g, 0, none⟩) i n) (.int .i64 ((n : Int) + 1 - i)) rfl rfl _ _ happ ?_) | (refine wpList_copy_runI _ rfl (.tmp 43) (.tmp 44) 25 25 rfl (.slice (some ⟨H, i * 2, none⟩) (n + 1 - i) (C - i)) (.slice (some ⟨vb, 0, none⟩) 1 1) rfl rfl (hcp1 3 (C - i)) ?_))
  go_region_law (refine step_copy_runI (by rfl) (.tmp 50) (.tmp 53) 25 25 (by rfl) (.slice (some ⟨H, (i + 1) * 2, none⟩) (n - i) (C - (i + 1))) (.slice (some ⟨g, i * 2, none⟩) (n - i) (n - i)) (by simp [Act.eval, Act.put]) (by simp [Act.eval, Act.put]) (hcp2 3 (C - (i + 1)) (n - i)) ?_)
  go_wp2
  go_ret
  obtain ⟨f1, f2, f3, f4, f5⟩ := hfin.out
  have hHe := hH.out
  subst hHe
  exact ⟨C, L3, rfl, hC.out.1, hC.out.2, f1, by rw [f2]; exact h23.out.1.trans h23.out.2, f3, f4, f5⟩

/-- slices.Insert of one element, at any kind of element. -/
theorem insert_inB {α : Type} (d : Kd α) (hsz : d.sz = 2) {w : World} {base vb : Nat} {ok okp : Nat → Prop} {A : Option Addr} {c : Nat} {xs : List α} {p : α} {ys : List Value} (HO : d.R 43 w base ok (.slice A xs.length c) xs) (i : Nat) (hi : i ≤ xs.length)
    (hv : w.heap[vb]? = some (.cells ys.toArray 43 (0, 0))) (hp : d.M w base okp p ys) (hokp : ∀ k, okp k → ok k ∧ some k ≠ (Value.slice A xs.length c).ownBlock) (hfresh : ∀ k, w.heap.size ≤ k → ok k) (hvb : some vb ≠ (Value.slice A xs.length c).ownBlock)
    (hl : (xs.length + 1) * 16 ≤ 140737488355328) (hbase : base ≤ w.heap.size) :
    Calls Try.prog 70 #[.slice A xs.length c, .int .i64 (i : Int), .slice (some ⟨vb, 0, none⟩) 1 1] w fun e w' => ∃ v1, e = .returned v1 ∧ d.R 43 w' base ok v1 (xs.take i ++ p :: xs.drop i) ∧ Below base w w' ∧ w.grownBy w' (Value.slice A xs.length c).ownBlock ∧ (v1.ownBlock = (Value.slice A xs.length c).ownBlock ∨ ∃ b, v1.ownBlock = some b ∧ w.heap.size ≤ b) := by
  rcases Nat.eq_or_lt_of_le hi with rfl | hlt
  · rw [List.take_length, List.drop_length]
    exact ins_endB d hsz HO hv hp hokp hfresh hl hbase
  obtain ⟨h0, inner, hown, hr⟩ := HO
  have hyl : ys.length = 2 := by rw [← hsz]; exact d.K_len (d.K_of_M hp)
  have hyo := d.K_one (d.K_of_M hp)
  have hone := ins_one hr (by rw [hsz]; decide) (fun _ _ hp => d.K_one (d.K_of_M hp))
  have hown' := hown
  rcases hown.2 with ⟨hv0, hn0⟩ | ⟨g, cap, cur, hv0, hbg, hg, hnc, hcm, hcs, htake⟩
  · omega
  injection hv0 with ha _ hc
  subst ha
  subst hc
  rw [hsz] at hcs htake
  have hne : vb ≠ g := fun e => hvb (by simp [Value.ownBlock, e])
  have hB : ∀ {w' : World}, w.grownBy w' (some g) → Below base w w' := fun hgr => (Below.refl base w).grown hgr hbase (fun k hk => by injection hk with hk; omega)
  have hil : inner.length = xs.length * 2 := by rw [← hsz]; exact hr.1
  have hll : (inner.take (i * 2) ++ ys ++ inner.drop (i * 2)).length = (xs.length + 1) * 2 := by
    simp only [List.length_append, List.length_take, List.length_drop, hil, hyl]
    omega
  by_cases hroom : xs.length + 1 ≤ c
  · refine (ins_roomB hg hcs hlt hroom (by simp only [maxLen] at hcm; omega) hv hyl hyo (by rw [htake]; exact hone) hne).mono ?_
    rintro e w' ⟨rfl, q, rfl⟩
    rw [htake]
    have hq : (w.drewN q).heap[g]? = some (.cells cur 43 (0, 0)) := by rw [← hg]; exact blk_drewN_eq w q g
    have hcl : (inner.drop (i * 2)).length = (xs.length - i) * 2 := by rw [List.length_drop, hil]; omega
    obtain ⟨c1, a1, a2, a3⟩ := setCells_row (e := 43) (inner.drop (i * 2)) ((i + 1) * 2) (w.drewN q) cur hq (by rw [hcl, hcs]; omega)
    obtain ⟨c2, b1, b2, b3⟩ := setCells_row (e := 43) ys (i * 2) ((w.drewN q).setCells g ((i + 1) * 2) (inner.drop (i * 2))) c1 a1 (by rw [hyl, a2, hcs]; omega)
    obtain ⟨t1, t2, t3, t4⟩ := setCells_same g (inner.drop (i * 2)) ((i + 1) * 2) (w.drewN q)
    obtain ⟨u1, u2, u3, u4⟩ := setCells_same g ys (i * 2) ((w.drewN q).setCells g ((i + 1) * 2) (inner.drop (i * 2)))
    obtain ⟨z1, z2, z3, z4⟩ := drewN_same w q
    have hgr : w.grownBy (((w.drewN q).setCells g ((i + 1) * 2) (inner.drop (i * 2))).setCells g (i * 2) ys) (some g) :=
      ⟨by rw [u1, t1, z1], by rw [u2, t2, z2], by rw [u3, t3, z3], by rw [u4, t4, z4]; exact Nat.le_refl _, fun k hk hk' => by
        have hkg : k ≠ g := fun e => hk' (by rw [e])
        rw [setCells_far _ _ k hkg, setCells_far _ _ k hkg, blk_drewN_eq]⟩
    refine ⟨_, rfl, R_inserted i hi h0 hr hp hokp hfresh ⟨by rw [hsz]; exact hll, .inr ⟨g, c, c2, rfl, hbg, b1, hroom, hcm, by rw [hsz, b2, a2, hcs], ?_⟩⟩ (by simpa [Value.ownBlock] using hgr) (.inl rfl), hB hgr, by simpa [Value.ownBlock] using hgr, .inl rfl⟩
    have hcl' : cur.toList.length = c * 2 := by rw [Array.length_toList, hcs]
    have e0 : cur.toList.take (i * 2) = inner.take (i * 2) := by rw [← htake, List.take_take, Nat.min_eq_left (by omega)]
    have e1 : c1.toList.take (i * 2) = inner.take (i * 2) := by
      rw [a3, List.append_assoc, List.take_append_of_le_length (by rw [List.length_take]; omega), List.take_take, Nat.min_eq_left (by omega), e0]
    have e2 : c1.toList.drop ((i + 1) * 2) = inner.drop (i * 2) ++ cur.toList.drop ((i + 1) * 2 + (inner.drop (i * 2)).length) := by
      rw [a3, List.append_assoc, List.drop_append, List.drop_eq_nil_of_le (by rw [List.length_take]; omega), List.nil_append, List.length_take, Nat.min_eq_left (by omega), Nat.sub_self, List.drop_zero]
    rw [hsz, b3, e1, hyl, show i * 2 + 2 = (i + 1) * 2 by omega, e2, ← List.append_assoc]
    rw [List.take_append_of_le_length (by rw [hll]; exact Nat.le_refl _)]
    exact List.take_of_length_le (by rw [hll]; exact Nat.le_refl _)
  · obtain rfl : c = xs.length := by omega
    have hcl : cur.toList.length = xs.length * 2 := by rw [Array.length_toList, hcs]
    rw [List.take_of_length_le (by omega)] at htake
    refine (ins_growB hg hcs hlt hv hyl hyo (by rw [htake]; exact hone) hl).mono ?_
    rintro e w' ⟨C, cur', rfl, hC1, hC2, h1, h2, h3, hgr, hB'⟩
    rw [htake] at h3
    refine ⟨_, rfl, R_inserted i hi h0 hr hp hokp hfresh ⟨by rw [hsz]; exact hll, .inr ⟨w.heap.size, C, cur', rfl, hbase, h1, hC1, hC2, by rw [hsz]; exact h2, by rw [hsz]; exact h3⟩⟩ (by simpa [Value.ownBlock] using hgr) (.inr ⟨_, rfl, Nat.le_refl _⟩), hB hgr, by simpa [Value.ownBlock] using hgr, .inr ⟨_, rfl, Nat.le_refl _⟩⟩
end Go.Proofs.Ytflfmpfmnhpbmaa.PA

