/- The contract of slices.Repeat for a slice of one number: a row of one's own that holds it so many times (up to 65536); walked by hand. -/
import Derived.Test.YtdhckdeojplghaaPAx2
import Derived.Deep.RegionLaw
namespace Go.Proofs.Ytdhckdeojplghaa.PA
open Go.RowKit Go.Proofs.YtdhckdeojplghaaW.PrintWords Go.Proofs.YtdhckdeojplghaaW.PrintLast Go.Proofs.YtdhckdeojplghaaW.PrintMore
set_option linter.unusedVariables false
set_option linter.unusedSimpArgs false
/-- copy into a row of plain cells: all is read before anything is written. -/
theorem run_copy_row {P : Program} (w : World) (dT sT ty elem : TypeId) (sz : Nat) (g o dLen dCap : Nat) (a : Addr) (sLen sCap : Nat) (cs : List Value) (cur : Array Value) (e : TypeId)
    (hu : P.underlying dT = some (.slice elem)) (hs : (P.info? elem).map (·.size) = some sz) (hn : cs.length = Nat.min sLen dLen * sz)
    (hsrc : ∀ j v, cs[j]? = some v → w.cell? (a.add j) = some v) (hh : w.heap[g]? = some (.cells cur e (0, 0))) (hfit : o + cs.length ≤ cur.size) (h1 : ∀ v ∈ cs, v.oneCell' = true) :
    (Builtin.copy_ #[dT, sT] ty #[.slice (some ⟨g, o, none⟩) dLen dCap, .slice (some a) sLen sCap]).run P w = .ok (goInt (Nat.min sLen dLen)) (w.setCells g o cs) := by
  have hl := run_loadCells_list (P := P) w a cs hsrc
  have hst := run_storeCells_cells (P := P) g o cs 0 w (fun j hj => by rw [cell_of_row w g _ cur e (0, 0) hh]; simp; omega) (fun j _ => blk_frozen hh _) h1
  simp only [Nat.add_zero] at hst
  cases hq : P.info? elem with
  | none => simp [hq] at hs
  | some i =>
    have hi : i.size = sz := by simpa [hq] using hs
    simp [Builtin.copy_, run_underlying hu, Builtin.lenOf, Builtin.firstCells, sizeOf, typeInfo, hq, hi, ← hn, hl, hst]

theorem wp_copy_runI {P : Program} (w : World) {o : Oper} {a : Act} {K : Act → World → Prop} {Q : Exit → Act → World → Prop} (d s : Operand) (t t' : TypeId)
    (ho : o.op = .call { callee := .builtin .copy, args := #[d, s], argTypes := #[t, t'] }) (v u : Value) (hd : a.eval d = v) (hs : a.eval s = u) {v' : Value} {w' : World}
    (hr : (Builtin.copy_ #[t, t'] o.type #[v, u]).run P w = .ok v' w') (h : K (a.put o.dst v') w') : o.wp P a w K Q := by
  unfold Oper.wp execOp
  simp only [ho, resolve, invoke, builtin, Sem.run_bind, Sem.run_pure, Result.andThen_ok, List.map_toArray, List.map_cons, List.map_nil, hd, hs, hr]
  exact h
theorem wpList_copy_runI {P : Program} (w : World) {ops : Array Oper} {rest : List Oper} {o : Oper} {a : Act} {Q : Exit → Act → World → Prop} (hgd : o.guard = none) (d s : Operand) (t t' : TypeId)
    (ho : o.op = .call { callee := .builtin .copy, args := #[d, s], argTypes := #[t, t'] }) (v u : Value) (hd : a.eval d = v) (hs : a.eval s = u) {v' : Value} {w' : World}
    (hr : (Builtin.copy_ #[t, t'] o.type #[v, u]).run P w = .ok v' w') (h : wpList P ops Q rest (a.put o.dst v') w') : wpList P ops Q (o :: rest) a w :=
  wpList_plain hgd fun _ hK => wp_copy_runI w d s t t' ho v u hd hs hr (hK _ _ h)
theorem step_copy_runI {P : Program} {ops : Array Oper} {o : Oper} {a : Act} {w : World} {K : Act → World → Prop} {Q : Exit → Act → World → Prop} {E : Prop}
    (hg : o.guard = none) (d x : Operand) (dT sT : TypeId) (hop : o.op = Op.call { callee := Callee.builtin Builtin.copy, args := #[d, x], argTypes := #[dT, sT] })
    (v u : Value) (hd : a.eval d = v) (hx : a.eval x = u) {v' : Value} {w' : World} (hr : (Builtin.copy_ #[dT, sT] o.type #[v, u]).run P w = .ok v' w') (hK : K (a.put o.dst v') w') :
    if Region.wanted o (yielded ops a.tmps) = true then Oper.wp P o a w K Q else E := by
  have hw : Region.wanted o (yielded ops a.tmps) = true := by simp [Region.wanted, hg]
  rw [if_pos hw]
  unfold Oper.wp
  simp [execOp, hop, resolve, invoke, builtin, hd, hx, hr, Result.andThen]
  exact hK


def slices_Repeat_int_int.f (l0 : List Int) (a1 : Int) : Option (List Int) := if l0.length = 1 ∧ 1 ≤ a1 ∧ a1 ≤ 65536 then some (List.replicate a1.toNat (rd l0 0)) else none

theorem rep_wrap (n : Int) (h0 : 0 ≤ n) (h1 : n < 2 ^ 64) : IntKind.u64.wrap n = n := by simp [IntKind.wrap, IntKind.bits, IntKind.signed]; omega
theorem rep_and {x : Int} (h0 : 0 ≤ x) (h1 : x < 18446744073709551616) : Go.bits .and .u64 x 4294967295 = x % 4294967296 := bits_mask .u64 64 (by decide) rep_wrap 32 (by decide) x h0 h1
theorem rep_mul (n : Nat) (hn : n ≤ 65536) : bits_Mul.f 1 (n : Int) = some (0, (n : Int)) := by
  have a : Go.bits .and .u64 (n : Int) 4294967295 = (n : Int) := by rw [rep_and (by omega) (by omega)]; omega
  have b : Go.bits .and .u64 (1 : Int) 4294967295 = 1 := by rw [rep_and (by omega) (by omega)]; rfl
  have c : (n : Int) / 4294967296 = 0 := by omega
  have d : (1 : Int) / 4294967296 = 0 := by decide
  have e : IntKind.u64.wrap (n : Int) = (n : Int) := rep_wrap _ (by omega) (by omega)
  have f : IntKind.u64.wrap 0 = 0 := by decide
  have g : Go.bits .and .u64 (0 : Int) 4294967295 = 0 := by rw [rep_and (by omega) (by omega)]; rfl
  simp [bits_Mul.f, bits_Mul64.f, a, b, c, d, e, f, g]

theorem rep_sz : (Try.prog.info? 3).map (fun i => i.size) = some 1 := by kernel_rfl
theorem rep_copy1 {W : World} {g n cap c0 : Nat} {cur : Array Value} {x : Int} {ad : Addr} (hn : 1 ≤ n) (hh : W.heap[g]? = some (.cells cur 3 (0, 0))) (hx : W.cell? ad = some (.int .i64 x)) (hcs : cur.size = cap * 1) (hnc : n ≤ cap) (ty : TypeId) :
    (Builtin.copy_ #[22, 22] ty #[.slice (some ⟨g, 0, none⟩) n cap, .slice (some ad) 1 c0]).run Try.prog W = .ok (.int .i64 1) (W.setCells g 0 [.int .i64 x]) := by
  have hm : Nat.min 1 n = 1 := Nat.min_eq_left hn
  have h := run_copy_row (P := Try.prog) W 22 22 ty 3 1 g 0 n cap ad 1 c0 [.int .i64 x] cur 3 Try.underlying22 rep_sz (by rw [hm]; rfl)
    (fun j v hj => by
      cases j with
      | zero => obtain rfl : Value.int .i64 x = v := by simpa using hj
                exact hx
      | succ j => simp at hj) hh (by simp; omega) (fun v hv => by rw [List.mem_singleton.1 hv]; rfl)
  rw [hm] at h
  exact h
theorem rep_copyk {W : World} {g n m cap c1 c2 : Nat} {cur : Array Value} {x : Int} (hm : m ≤ n) (hh : W.heap[g]? = some (.cells cur 3 (0, 0))) (ht : cur.toList.take m = List.replicate m (.int .i64 x)) (hcs : cur.size = cap * 1) (hnc : n ≤ cap) (ty : TypeId) :
    (Builtin.copy_ #[22, 22] ty #[.slice (some ⟨g, m, none⟩) (n - m) c1, .slice (some ⟨g, 0, none⟩) m c2]).run Try.prog W = .ok (.int .i64 (Nat.min m (n - m) : Nat)) (W.setCells g m (List.replicate (Nat.min m (n - m)) (.int .i64 x))) := by
  have hk1 : Nat.min m (n - m) ≤ m := Nat.min_le_left _ _
  have hk2 : Nat.min m (n - m) ≤ n - m := Nat.min_le_right _ _
  generalize hk : Nat.min m (n - m) = k at hk1 hk2
  have h := run_copy_row (P := Try.prog) W 22 22 ty 3 1 g m (n - m) c1 ⟨g, 0, none⟩ m c2 (List.replicate k (.int .i64 x)) cur 3 Try.underlying22 rep_sz (by rw [hk]; simp)
    (fun j v hj => by
      have hj2 := (List.getElem?_eq_some_iff.1 hj).1
      rw [List.length_replicate] at hj2
      rw [Addr.add_lit, Nat.zero_add, blk_cell hh]
      have h3 : (cur.toList.take m)[j]? = some (.int .i64 x) := by rw [ht, List.getElem?_replicate, if_pos (by omega)]
      rw [List.getElem?_take_of_lt (by omega)] at h3
      rw [List.getElem?_replicate, if_pos (by omega)] at hj
      rw [← hj, ← h3]
      simp) hh (by simp; omega) (fun v hv => by rw [List.eq_of_mem_replicate hv]; rfl)
  rw [hk] at h
  exact h
theorem rep_below {w : World} {g : Nat} : ∀ (vs : List Value) (o : Nat) (W : World), Below w.heap.size w W → w.heap.size ≤ g → Below w.heap.size w (W.setCells g o vs)
  | [], _, _, h, _ => h
  | v :: r, o, W, h, hg => rep_below r (o + 1) _ (below_set h hg) hg

set_option maxHeartbeats 8000000 in
set_option maxRecDepth 100000 in
theorem slices_Repeat_int_int.calls (A0 : Option Addr) (c0 : Nat) (l0 : List Int) (a1 : Int) (r : List Int) (w : World) (hr0 : Kd.C (Kd.int .i64) w A0 l0.length l0) (hc0 : l0.length ≤ c0) (h : slices_Repeat_int_int.f l0 a1 = some r) :
    Calls Try.prog 25 #[.slice A0 l0.length c0, .int .i64 a1] w fun e w' => ∃ v0_ : Value, e = .returned (v0_) ∧ Kd.R (Kd.int .i64) 3 w' w.heap.size (fun _ => True) v0_ r ∧ Below w.heap.size w w' := by
  unfold slices_Repeat_int_int.f at h
  have hx : l0.length = 1 ∧ 1 ≤ a1 ∧ a1 ≤ 65536 := by
    refine Classical.byContradiction fun hn => ?_
    rw [if_neg hn] at h
    cases h
  rw [if_pos hx] at h
  obtain ⟨hl, h0, h1⟩ := hx
  obtain ⟨x, rfl⟩ : ∃ x, l0 = [x] := by
    match l0, hl with
    | [x], _ => exact ⟨x, rfl⟩
  obtain ⟨n, rfl⟩ := Int.eq_ofNat_of_zero_le (by omega : 0 ≤ a1)
  obtain rfl := Option.some.inj h
  clear h
  obtain ⟨_, _, hcc⟩ := hr0
  obtain ⟨ad, rfl, hcell⟩ := hcc (by simp)
  obtain ⟨cs, hcl, hcs, hce⟩ := hcell 0 x rfl
  have hx0 : w.cell? ad = some (.int .i64 x) := by
    obtain rfl : cs = [.int .i64 x] := hcs
    have h2 := hce 0 _ rfl
    rw [show 0 * (Kd.int IntKind.i64).sz + 0 = 0 from rfl] at h2
    rw [← h2]; rfl
  have hmulA := Aside0.mk (rep_mul n (by omega))
  have hn1 : (1 : Int) ≤ (n : Int) := h0
  have hw64 : IntKind.i64.wrap (n : Int) = (n : Int) := by rw [IntKind.wrap_i64]; omega
  have hwu : IntKind.u64.wrap (n : Int) = (n : Int) := rep_wrap _ (by omega) (by omega)
  have hneg : ¬ ((n : Int) < 0) := by omega
  have hbig : ¬ (9223372036854775807 < (n : Int)) := by omega
  have HX0 := Aside0.mk hx0
  clear hce hcell hcc hx0
  simp only [List.length_cons, List.length_nil, Nat.zero_add]
  go_enter Try.func25, Try.ntmps25
  go_wp2_with (first
    | ((with_reducible refine gate_callee (f := 33) rfl ?_); refine goesL_ (some 18) rfl rfl Try.func33 (by kernel_rfl) rfl #[.int .u64 1, .int .u64 n] rfl (by (try simp only [List.map_toArray, List.map_cons, List.map_nil]); first | done | rfl | (simp [hwu])) ?_; (with_reducible refine (bits_Mul.calls 1 n 0 n _ hmulA.out).mono ?_); rintro e w' ⟨rfl, ⟨nd, rfl⟩⟩; refine ⟨_, rfl, ?_⟩)
    | ((with_reducible refine gate_dst (N := 30) rfl ?_); refine Kd.R_make (Kd.int .i64) _ 3 rfl (N := 30) rfl 22 _ _ rfl (n : Int) rfl rfl Try.underlying22 (.int .i64 0) 8 info3 rfl (by decide) (by omega) 0 (ok := fun _ => True) (okp := fun _ => True) rfl (fun _ hk => hk) trivial (by omega) (by omega) (Below.refl _ _) (Nat.le_refl _) ?_; intro v1 w1 ho hb hg_ hnew_; have hO := Kd.own_of_R ho; clear ho hnew_; (simp only [Int.toNat_natCast] at hO); obtain ⟨_, hO⟩ := hO; rcases hO with ⟨_, hO⟩ | ⟨g, cap, cur, rfl, hgb, hh, hnc, hcm, hcs2, htk⟩; (simp at hO; omega))
    | ((with_reducible refine gate_dst (N := 33) rfl ?_); simp only [List.length_replicate, Nat.mul_one] at hnc htk; refine wpList_copy_runI _ rfl (.tmp 31) (.tmp 32) 22 22 rfl _ _ rfl rfl (rep_copy1 (by omega) hh (pw_cell_below hb HX0.out) hcs2 hnc _) ?_))
  obtain ⟨cur1, hh1, hs1, ht1⟩ := setCells_row (e := 3) [.int .i64 x] 0 w1 cur hh (by simp; omega)
  have hB1 := rep_below [.int .i64 x] 0 w1 (below_step (pw_below_drewN (Below.refl _ w) nd) hb) hgb
  have hgb' : w.heap.size ≤ g := hgb
  clear hb hg_ hh htk hcs HX0
  generalize w1.setCells g 0 [.int .i64 x] = w2 at hh1 hB1 ⊢
  have hh1 := Aside0.mk hh1
  have hB1 := Aside0.mk hB1
  clear w1 hgb
  go_loopg [8] n (fun g1 v8 wr => ∃ (m : Nat) (cur' : Array Value), v8 = .int .i64 m ∧ 1 ≤ m ∧ m ≤ n ∧ n - m ≤ g1 ∧ Aside0 (wr.heap[g]? = some (.cells cur' 3 (0, 0))) ∧ cur'.size = cap * 1 ∧ Aside0 (cur'.toList.take m = List.replicate m (.int .i64 x)) ∧ Aside0 (Below w.heap.size w wr))
  case atStart => exact ⟨1, cur1, rfl, Nat.le_refl _, by omega, by omega, hh1, by rw [hs1, hcs2], Aside0.mk (by rw [ht1]; simp), hB1⟩
  case round =>
    obtain ⟨m, cur2, rfl, h1m, hmn, hg1, hhm, hsm, htm, hbm⟩ := hrel
    clear hh1 hB1 hs1 ht1
    by_cases hlt : m < n
    · have hltz : (m : Int) < (n : Int) := by omega
      have hmcz : (m : Int) ≤ (cap : Int) := by omega
      have hmnz : (m : Int) ≤ (n : Int) := by omega
      have hm0z : (0 : Int) ≤ (m : Int) := by omega
      have hmcn : ¬ (cap = m) := by omega
      obtain ⟨k, hk⟩ : ∃ k, Nat.min m (n - m) = k := ⟨_, rfl⟩
      have hk1 : k ≤ m := hk ▸ Nat.min_le_left _ _
      have hk2 : k ≤ n - m := hk ▸ Nat.min_le_right _ _
      have hk3 : 1 ≤ k := by rw [← hk]; exact Nat.le_min.2 ⟨h1m, by omega⟩
      have hcp := fun (ty : TypeId) (c1 c2 : Nat) => rep_copyk (W := wr.drew) (c1 := c1) (c2 := c2) hmn hhm.out htm.out hsm hnc ty
      rw [hk] at hcp
      obtain ⟨cur3, hh3, hs3, ht3⟩ := setCells_row (e := 3) (List.replicate k (.int .i64 x)) m wr.drew cur2 hhm.out (by simp; omega)
      have hB3 := Aside0.mk (rep_below (List.replicate k (.int .i64 x)) m wr.drew (below_drew1 hbm.out) hgb')
      replace hh3 := Aside0.mk hh3
      have ht4 : cur3.toList.take (m + k) = List.replicate (m + k) (.int .i64 x) := by
        have hl : (cur2.toList.take m).length = m := by rw [htm.out, List.length_replicate]
        rw [ht3, List.take_append_of_le_length (by rw [List.length_append, hl, List.length_replicate]; omega), List.take_of_length_le (by rw [List.length_append, hl, List.length_replicate]; omega), htm.out, List.replicate_append_replicate]
      replace ht4 := Aside0.mk ht4
      have hwk : IntKind.i64.wrap ((m : Int) + (k : Int)) = ((m + k : Nat) : Int) := by rw [IntKind.wrap_i64]; omega
      clear ht3 hhm hbm htm
      go_wp2_with fail
      go_region_law (refine step_copy_runI (by rfl) (.tmp 41) (.tmp 44) 22 22 (by rfl) (.slice (some ⟨g, m, none⟩) (n - m) (cap - m)) (.slice (some ⟨g, 0, none⟩) m cap) (by simp [Act.eval, Act.put]) (by simp [Act.eval, Act.put]) (hcp 3 _ _) ?_)
      go_wp2
      go_roundg (n - (m + k))
      case measure => omega
      case rel => exact ⟨m + k, cur3, by first | rfl | simp [hwk], by omega, by omega, by omega, hh3, by rw [hs3, hsm], ht4, hB3⟩
    · obtain rfl : m = n := by omega
      go_wp2
      go_ret
      refine ⟨.slice (some ⟨g, 0, none⟩) m cap, rfl, ?_, hbm.out⟩
      have hrd : rd [x] 0 = x := rfl
      rw [hrd, Int.toNat_natCast]
      exact Kd.R_of_own ⟨by simp [encs], .inr ⟨g, cap, cur2, by rw [List.length_replicate], hgb', hhm.out, by rw [List.length_replicate]; exact hnc, hcm, hsm, by rw [List.length_replicate, Nat.mul_one, htm.out]; simp [encs]⟩⟩ (fun _ _ => trivial)
end Go.Proofs.Ytdhckdeojplghaa.PA
