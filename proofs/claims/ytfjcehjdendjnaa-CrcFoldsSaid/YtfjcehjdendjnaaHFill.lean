/- What the table's closure lays (the list of a byte's eight shifts), and '(*tables).get'; walked by hand. -/
import Derived.Test.YtfjcehjdendjnaaHOnce
import Derived.Test.YtfjcehjdendjnaaPAx3
namespace Go.Proofs.Ytfjcehjdendjnaa.PA
open Go.RowKit Go.Proofs.YtfjcehjdendjnaaW.PrintWords Go.Proofs.YtfjcehjdendjnaaW.PrintLast Go.Proofs.YtfjcehjdendjnaaW.PrintMore
set_option linter.unusedVariables false
set_option linter.unusedSimpArgs false

def sh (i : Nat) : Int := (crc_shifted.f 20 (i : Int)).getD 0
theorem sh_all : ∀ i : Fin 256, crc_shifted.f 20 ((i.val : Nat) : Int) = some (sh i.val) := by decide +kernel
theorem sh_ok (i : Nat) (h : i < 256) : crc_shifted.f 20 (i : Int) = some (sh i) := sh_all ⟨i, h⟩
/-- The block of 'tables': the Once's three words, then the list, of which x are laid. -/
def cur (d m s : Int) (x : Nat) : Array Value := (Value.int .u32 d :: .int .i32 m :: .int .u32 s :: (List.range 256).map fun i => .int .u32 (if i < x then sh i else 0)).toArray
theorem cur_at {d m s : Int} (x : Nat) {y : Nat} (h : y < 256) : (cur d m s x)[3 + y]? = some (.int .u32 (if y < x then sh y else 0)) := by
  rw [show 3 + y = y + 1 + 1 + 1 from by omega]
  simp [cur, h]
theorem cur_set {d m s : Int} (x : Nat) (h : x < 256) : (cur d m s x).setIfInBounds (3 + x) (.int .u32 (sh x)) = cur d m s (x + 1) := by
  rw [show 3 + x = x + 1 + 1 + 1 from by omega]
  simp only [cur, List.setIfInBounds_toArray, List.set_cons_succ]
  congr 4
  apply List.ext_getElem
  · simp
  · intro i h1 h2
    rw [List.getElem_set]
    simp only [List.getElem_map, List.getElem_range]
    by_cases he : x = i
    · subst he
      rw [if_pos rfl, if_pos (by omega)]
    · rw [if_neg he]
      by_cases hi : i < x
      · rw [if_pos hi, if_pos (by omega)]
      · rw [if_neg hi, if_neg (by omega)]

set_option maxHeartbeats 8000000 in
set_option maxRecDepth 100000 in
theorem fill (w0 : World) (base g q : Nat) (hgq : q ≠ g) (hg : base ≤ g) (d m s : Int) (w : World) (hB : Below base w0 w) (hP : w.heap[q]? = some (.cells #[.pointer (some ⟨g, 0, none⟩)] 59 (0, 0))) (hG : w.heap[g]? = some (.cells (cur d m s 0) 51 (0, 0))) :
    Calls Try.prog 28 #[.pointer (some ⟨q, 0, none⟩)] w fun e w' => e = .returned (.tuple #[]) ∧ (Below base w0 w' ∧ w'.heap[q]? = some (.cells #[.pointer (some ⟨g, 0, none⟩)] 59 (0, 0)) ∧ w'.heap[g]? = some (.cells (cur d m s 256) 51 (0, 0))) := by
  go_enter Try.func28, Try.ntmps28
  go_wp2
  (try simp only [Act.put, List.setIfInBounds_toArray, List.set_cons_zero, List.set_cons_succ])
  go_loopg [2] 257 (fun kq v2 w' => ∃ (x : Nat), v2 = .int .i64 (x : Int) ∧ Aside0 (x + kq = 257 ∧ x ≤ 256) ∧ Aside0 (Below base w0 w' ∧ w'.heap[q]? = some (.cells #[.pointer (some ⟨g, 0, none⟩)] 59 (0, 0)) ∧ w'.heap[g]? = some (.cells (cur d m s x) 51 (0, 0))))
  case atStart => exact ⟨0, rfl, ⟨by omega⟩, ⟨hB, hP, hG⟩⟩
  case round =>
    obtain ⟨x, rfl, ⟨hxk, hx⟩, ⟨hB1, hP1, hG1⟩⟩ := hrel
    clear hB hP hG
    by_cases h : x < 256
    · have c2b0 : decide ((x : Int) < 256) = true := decide_eq_true (by omega)
      have px : (0 : Int) ≤ (x : Int) := Int.natCast_nonneg x
      have qx : (x : Int) < 256 := by omega
      have hsh : crc_shifted.f 20 ((x : Int) % 4294967296) = some (sh x) := by
        rw [Int.emod_eq_of_lt px (by omega)]
        exact sh_ok x h
      go_wp2
      refine start_ (n := 9) (S := fun w' => w'.cell? ⟨q, 0, none⟩ = some (.pointer (some ⟨g, 0, none⟩))) (ds := [8]) #[false, false, false, false, false, false, false, false, false] (by kernel_rfl) rfl rfl ((blk_cell (blk_drew hP1) 0)) (fun hHeld => ?_)
      refine pure_ (i := 1) (N := some 6) (v := ?_) (a' := ?_) #[false, true, false, false, false, false, false, false, false] rfl rfl (by kernel_rfl) (fun _ _ _ h => h) (Or.inl ⟨by rfl, ?_⟩) ?_ ?_
      rotate_left
      · intro w'
        go_simp
        with_reducible rfl
      rotate_left
      · simp only [Act.put, List.setIfInBounds_toArray, List.set_cons_zero, List.set_cons_succ, i64_w, i32_w]
        rfl
      refine pure_ (i := 2) (N := some 7) (v := ?_) (a' := ?_) #[false, true, true, false, false, false, false, false, false] rfl rfl (by kernel_rfl) (fun _ _ _ h => h) (Or.inl ⟨by rfl, ?_⟩) ?_ ?_
      rotate_left
      · intro w'
        go_simp
        with_reducible rfl
      rotate_left
      · simp only [Act.put, List.setIfInBounds_toArray, List.set_cons_zero, List.set_cons_succ, i64_w, i32_w]
        rfl
      refine pure_ (i := 3) (N := some 8) (v := ?_) (a' := ?_) #[false, true, true, true, false, false, false, false, false] rfl rfl (by kernel_rfl) (fun _ _ _ h => h) (Or.inl ⟨by rfl, ?_⟩) ?_ ?_
      rotate_left
      · intro w'
        go_simp
        with_reducible rfl
      rotate_left
      · simp only [Act.put, List.setIfInBounds_toArray, List.set_cons_zero, List.set_cons_succ, i64_w, i32_w]
        rfl
      refine take_ (i := 0) (N := some 5) (v := ?_) (a' := ?_) #[true, true, true, true, false, false, false, false, false] rfl rfl (by kernel_rfl) (fun _ _ _ h => h) (Or.inl ⟨by rfl, ?_⟩) hHeld ?_ ?_
      rotate_left
      · intro w' s0
        go_simp
        with_reducible rfl
      rotate_left
      · simp only [Act.put, List.setIfInBounds_toArray, List.set_cons_zero, List.set_cons_succ, i64_w, i32_w]
        rfl
      refine pure_ (i := 5) (N := some 10) (v := ?_) (a' := ?_) #[true, true, true, true, false, true, false, false, false] rfl rfl (by kernel_rfl) (fun _ _ _ h => h) (Or.inl ⟨by rfl, ?_⟩) ?_ ?_
      rotate_left
      · intro w'
        go_simp
        with_reducible rfl
      rotate_left
      · simp only [Act.put, List.setIfInBounds_toArray, List.set_cons_zero, List.set_cons_succ, i64_w, i32_w]
        rfl
      refine pure_ (i := 6) (N := some 11) (v := ?_) (a' := ?_) #[true, true, true, true, false, true, true, false, false] rfl rfl (by kernel_rfl) (fun _ _ _ h => h) (Or.inl ⟨by rfl, ?_⟩) ?_ ?_
      rotate_left
      · intro w'
        go_simp
        with_reducible rfl
      rotate_left
      · simp only [Act.put, List.setIfInBounds_toArray, List.set_cons_zero, List.set_cons_succ, i64_w, i32_w]
        rfl
      refine one_ (i := 4) (N := some 9) #[true, true, true, true, true, true, true, false, false] rfl rfl (by kernel_rfl) (by decide) (fun K hK => ?_)
      refine goes_ Try.func22 (by kernel_rfl) rfl #[.int .u32 ((x : Int) % 4294967296)] (by rfl) rfl rfl (by (try simp only [List.map_toArray, List.map_cons, List.map_nil]); first | done | rfl) ?_
      refine (crc_shifted.calls 20 ((x : Int) % 4294967296) (sh x) _ hsh).mono ?_
      rintro e w2 ⟨rfl, hd1⟩
      refine ⟨_, rfl, ?_⟩
      obtain ⟨nd, rfl⟩ := hd1.out
      have hB2 : Below base w0 (wr.drew.drewN nd) := pw_below_drewN (below_drew1 hB1) nd
      have hP2 := blk_drewN (blk_drew hP1) nd
      have hG2 := blk_drewN (blk_drew hG1) nd
      have hc2 := (blk_cell hG1 (3 + x)).trans (cur_at x (by omega))
      have hf2 := blk_frozen hG1 (3 + x)
      refine hK.out _ _ ((by rw [World.cell?_drewN]; exact hHeld)) (fun hHeld => ?_)
      clear hK K
      refine norm_ (a' := ?_) ?_ ?_
      rotate_left
      · show Act.put _ (some 9) _ = _
        simp only [Act.put, List.setIfInBounds_toArray, List.set_cons_zero, List.set_cons_succ, i64_w, i32_w]
        rfl
      refine pure_ (i := 7) (N := some 12) (v := ?_) (a' := ?_) #[true, true, true, true, true, true, true, true, false] rfl rfl (by kernel_rfl) (fun _ _ _ h => h) (Or.inl ⟨by rfl, ?_⟩) ?_ ?_
      rotate_left
      · intro w'
        go_simp
        with_reducible rfl
      rotate_left
      · simp only [Act.put, List.setIfInBounds_toArray, List.set_cons_zero, List.set_cons_succ, i64_w, i32_w]
        rfl
      refine last_ (i := 8) (N := none) #[true, true, true, true, true, true, true, true, true] rfl rfl (by kernel_rfl) (by decide) (fun K hK => ?_)
      refine skip_ (w1 := ?_) (by rfl) rfl ?_ ?_
      rotate_left
      · go_simp
        rfl
      refine hK.out _ _ ?_
      clear hK K
      refine done_ (by kernel_rfl) ?_
      
      have hB3 : Below base w0 ((wr.drewN (1 + nd)).setCell ⟨g, 3 + x, none⟩ (.int .u32 (sh x))) := Below.setCell (pw_below_drewN hB1 _) hg _
      have hP3 := blk_far (blk_drewN hP1 (1 + nd)) (p := ⟨g, 3 + x, none⟩) hgq (.int .u32 (sh x))
      have hG3 := blk_put (blk_drewN hG1 (1 + nd)) (3 + x) (.int .u32 (sh x)) (cur_set x h)
      go_wp2
      go_roundg (gk - 1)
      case measure => omega
      case rel => exact ⟨x + 1, by simp [wrap64], ⟨by omega⟩, ⟨hB3, hP3, hG3⟩⟩
    · obtain rfl : x = 256 := by omega
      have c2b0 : decide (((256 : Nat) : Int) < 256) = false := rfl
      go_wp2
      go_end0
      exact ⟨rfl, hB1, hP1, hG1⟩
theorem cur_set0 (d d' m s : Int) (x : Nat) : (cur d m s x).setIfInBounds 0 (.int .u32 d') = cur d' m s x := by
  simp only [cur, List.setIfInBounds_toArray, List.set_cons_zero]
theorem cur_set1 (d m m' s : Int) (x : Nat) : (cur d m s x).setIfInBounds 1 (.int .i32 m') = cur d m' s x := by
  simp only [cur, List.setIfInBounds_toArray, List.set_cons_zero, List.set_cons_succ]
theorem cur_0 (d m s : Int) (x : Nat) : (cur d m s x)[0]? = some (.int .u32 d) := by simp [cur]
theorem cur_1 (d m s : Int) (x : Nat) : (cur d m s x)[1]? = some (.int .i32 m) := by simp [cur]

set_option maxHeartbeats 8000000 in
set_option maxRecDepth 100000 in
theorem tables_get (w0 : World) (base g : Nat) (hg : base ≤ g) (w : World) (hB : Below base w0 w) (hG : w.heap[g]? = some (.cells (cur 0 0 0 0) 51 (0, 0))) :
    Calls Try.prog 21 #[.pointer (some ⟨g, 0, none⟩)] w fun e w' => e = .returned (.pointer (some ⟨g, 3, none⟩)) ∧ Below base w0 w' ∧ w'.heap[g]? = some (.cells (cur 1 0 0 256) 51 (0, 0)) := by
  have hbw : base ≤ w.heap.size := Nat.le_trans hg (Nat.le_of_lt (blk_lt hG))
  have hmf : ∀ (fn : Fn) (first cap : Array Value) (w : World), (Instr.makeFunc fn first cap).run Try.prog w = .ok (.func fn first cap) w := fun _ _ _ _ => rfl
  have hb := below_alloc (Below.refl w.heap.size w) (.cells #[.pointer (some ⟨g, 0, none⟩)] 59 (0, 0))
  have hbox := blk_new w (.cells #[.pointer (some ⟨g, 0, none⟩)] 59 (0, 0))
  have hlt := blk_lt hG
  have hG1 := blk_below hG hb
  have hB1 := hB.trans (hb.mono hbw)
  have hne : w.heap.size ≠ g := fun e => by omega
  obtain ⟨w1, hw1⟩ : ∃ w1, w1 = w.alloc (.cells #[.pointer (some ⟨g, 0, none⟩)] 59 (0, 0)) := ⟨_, rfl⟩
  rw [← hw1] at hb hbox hG1 hB1
  obtain ⟨q, hq⟩ : ∃ q, q = w.heap.size := ⟨_, rfl⟩
  have hdo := Once.do_first g 0 ⟨q, 0, none⟩ w1 (fun w' => Below base w0 w' ∧ w'.heap[q]? = some (.cells #[.pointer (some ⟨g, 0, none⟩)] 59 (0, 0)) ∧ w'.heap[g]? = some (.cells (cur 0 1 0 256) 51 (0, 0)))
    ((blk_cell hG1 0).trans (cur_0 _ _ _ _)) ((blk_cell hG1 (0 + 1)).trans (cur_1 _ _ _ _)) (blk_frozen hG1 _)
    (fill w0 base g q (by rw [hq]; exact hne) hg 0 1 0 _ (hB1.setCell hg _) (blk_far (by rw [hq]; exact hbox) (p := ⟨g, 0 + 1, none⟩) (by rw [hq]; exact hne) _) (blk_put hG1 _ _ (cur_set1 _ _ _ _ _)))
    (fun w' h => (blk_cell h.2.2 0).trans (cur_0 _ _ _ _)) (fun w' h => (blk_cell h.2.2 (0 + 1)).trans (cur_1 _ _ _ _)) (fun w' h => blk_frozen h.2.2 _) (fun w' h => blk_frozen h.2.2 _)
  rw [hw1, hq] at hdo
  go_enter Try.func21, Try.ntmps21
  go_wp2_with (go_at_call 27; refine hdo.mono ?_; rintro e w' ⟨rfl, w2, ⟨hB2, hP2, hG2⟩, rfl⟩; have hc2 : w2.cell? ⟨w.heap.size, 0, none⟩ = some (.pointer (some ⟨g, 0, none⟩)) := (blk_cell hP2 0).trans rfl)
  have hB3 := ((below_drew1 hB2).setCell (p := ⟨g, 0, none⟩) hg (.int .u32 1)).setCell (p := ⟨g, 0 + 1, none⟩) hg (.int .i32 0)
  have hG3 := blk_put (blk_put (blk_drew hG2) 0 (.int .u32 1) (cur_set0 _ _ _ _ _)) (0 + 1) (.int .i32 0) (cur_set1 _ _ _ _ _)
  go_ret
  exact ⟨rfl, hB3, hG3⟩
end Go.Proofs.Ytfjcehjdendjnaa.PA
