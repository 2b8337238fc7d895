/- Spoilt twice, swapped twice, doubled and dropped a pool is as it was; taken one by one, what is in it comes in order; for all pools. -/
import Derived.Test.YteleojddlaflnaaPAx11
import Derived.Test.YteleojddlaflnaaPt
set_option linter.unusedVariables false
set_option linter.unusedSimpArgs false
namespace Go.Proofs.Yteleojddlaflnaa.Pure
open Go.RowKit Go.Proofs.Yteleojddlaflnaa.PA Go.Proofs.YteleojddlaflnaaW.PrintWords Go.Proofs.YteleojddlaflnaaW.PrintLast Go.Proofs.Yteleojddlaflnaa.PT

theorem squelchlaw21_PoolBack.j0_e (k : Nat) (x1 : Int) (x2 : Int) (x3 : Int) (x9 : Bool) (x43 : Bool) (x312000 : Int) (x312001 : List (S31)) : squelchlaw21_PoolBack.j0 (k + 1) x1 x2 x3 x9 x43 x312000 x312001 = (if x43 = true then (some x9) else (if (x312001.length : Int) = 0 then (none) else (if 0 ≤ (Int.tmod (wrap64 ((Int.tmod x1 (x312001.length : Int)) + (x312001.length : Int))) (x312001.length : Int)) then (if (Int.tmod (wrap64 ((Int.tmod x1 (x312001.length : Int)) + (x312001.length : Int))) (x312001.length : Int)) < (x312001.length : Int) then (if (wrap64 (8 * (((rd_T31 x312001 (Int.tmod (wrap64 ((Int.tmod x1 (x312001.length : Int)) + (x312001.length : Int))) (x312001.length : Int))).f1).length : Int))) = 0 then (none) else ((pool_Spoil.f k x312000 x312001 (Int.tmod (wrap64 ((Int.tmod x1 (x312001.length : Int)) + (x312001.length : Int))) (x312001.length : Int)) (Int.tmod (wrap64 ((Int.tmod x3 (wrap64 (8 * (((rd_T31 x312001 (Int.tmod (wrap64 ((Int.tmod x1 (x312001.length : Int)) + (x312001.length : Int))) (x312001.length : Int))).f1).length : Int)))) + (wrap64 (8 * (((rd_T31 x312001 (Int.tmod (wrap64 ((Int.tmod x1 (x312001.length : Int)) + (x312001.length : Int))) (x312001.length : Int))).f1).length : Int))))) (wrap64 (8 * (((rd_T31 x312001 (Int.tmod (wrap64 ((Int.tmod x1 (x312001.length : Int)) + (x312001.length : Int))) (x312001.length : Int))).f1).length : Int))))).bind fun bt316 => ((pool_Spoil.f k bt316.1 bt316.2.1 (Int.tmod (wrap64 ((Int.tmod x1 (x312001.length : Int)) + (x312001.length : Int))) (x312001.length : Int)) (Int.tmod (wrap64 ((Int.tmod x3 (wrap64 (8 * (((rd_T31 x312001 (Int.tmod (wrap64 ((Int.tmod x1 (x312001.length : Int)) + (x312001.length : Int))) (x312001.length : Int))).f1).length : Int)))) + (wrap64 (8 * (((rd_T31 x312001 (Int.tmod (wrap64 ((Int.tmod x1 (x312001.length : Int)) + (x312001.length : Int))) (x312001.length : Int))).f1).length : Int))))) (wrap64 (8 * (((rd_T31 x312001 (Int.tmod (wrap64 ((Int.tmod x1 (x312001.length : Int)) + (x312001.length : Int))) (x312001.length : Int))).f1).length : Int))))).bind fun bt322 => ((pool_Swap.f k x312000 x312001 (Int.tmod (wrap64 ((Int.tmod x1 (x312001.length : Int)) + (x312001.length : Int))) (x312001.length : Int)) (Int.tmod (wrap64 ((Int.tmod x2 (x312001.length : Int)) + (x312001.length : Int))) (x312001.length : Int))).bind fun bt328 => ((pool_Swap.f k bt328.1 bt328.2.1 (Int.tmod (wrap64 ((Int.tmod x2 (x312001.length : Int)) + (x312001.length : Int))) (x312001.length : Int)) (Int.tmod (wrap64 ((Int.tmod x1 (x312001.length : Int)) + (x312001.length : Int))) (x312001.length : Int))).bind fun bt334 => (if bt316.2.2 = 0 then (if bt322.2.2 = 0 then (if bt328.2.2 = 0 then (if bt334.2.2 = 0 then ((pool_Same.f k bt316.1 bt316.2.1 x312000 x312001).bind fun t340 => (if t340 = true then (squelchlaw21_PoolBack.j1 k (Int.tmod (wrap64 ((Int.tmod x1 (x312001.length : Int)) + (x312001.length : Int))) (x312001.length : Int)) x9 true x312000 x312001) else ((pool_Same.f k bt322.1 bt322.2.1 x312000 x312001).bind fun t341 => (if t341 = true then ((pool_Same.f k bt334.1 bt334.2.1 x312000 x312001).bind fun t342 => (squelchlaw21_PoolBack.j1 k (Int.tmod (wrap64 ((Int.tmod x1 (x312001.length : Int)) + (x312001.length : Int))) (x312001.length : Int)) x9 (!t342) x312000 x312001)) else (squelchlaw21_PoolBack.j1 k (Int.tmod (wrap64 ((Int.tmod x1 (x312001.length : Int)) + (x312001.length : Int))) (x312001.length : Int)) x9 true x312000 x312001))))) else (squelchlaw21_PoolBack.j1 k (Int.tmod (wrap64 ((Int.tmod x1 (x312001.length : Int)) + (x312001.length : Int))) (x312001.length : Int)) x9 true x312000 x312001)) else (squelchlaw21_PoolBack.j1 k (Int.tmod (wrap64 ((Int.tmod x1 (x312001.length : Int)) + (x312001.length : Int))) (x312001.length : Int)) x9 true x312000 x312001)) else (squelchlaw21_PoolBack.j1 k (Int.tmod (wrap64 ((Int.tmod x1 (x312001.length : Int)) + (x312001.length : Int))) (x312001.length : Int)) x9 true x312000 x312001)) else (squelchlaw21_PoolBack.j1 k (Int.tmod (wrap64 ((Int.tmod x1 (x312001.length : Int)) + (x312001.length : Int))) (x312001.length : Int)) x9 true x312000 x312001))))))) else (none)) else (none)))) := rfl
theorem squelchlaw21_PoolBack.j1_e (k : Nat) (x1 : Int) (x9 : Bool) (x144 : Bool) (x312000 : Int) (x312001 : List (S31)) : squelchlaw21_PoolBack.j1 (k + 1) x1 x9 x144 x312000 x312001 = (if x144 = true then (some false) else ((pool_Double.f k x312000 x312001 x1).bind fun bt343 => (if bt343.2.2 = 0 then ((pool_Drop.f k bt343.1 bt343.2.1 (x312001.length : Int)).bind fun bt349 => (if bt349.2.2 = 0 then ((pool_Same.f k bt349.1 bt349.2.1 x312000 x312001).bind fun t355 => (if t355 = true then (if 0 ≤ (x312001.length : Int) then (if (x312001.length : Int) < (bt343.2.1.length : Int) then (if 0 ≤ x1 then (if x1 < (x312001.length : Int) then ((squelchref21_SameGram.f ((rd_T31 bt343.2.1 (x312001.length : Int)).f0) ((rd_T31 bt343.2.1 (x312001.length : Int)).f1) ((rd_T31 x312001 x1).f0) ((rd_T31 x312001 x1).f1)).bind fun t358 => (if t358 = true then (squelchlaw21_PoolBack.j2 k x9 x312000 x312001) else (some false))) else (none)) else (none)) else (none)) else (none)) else (some false))) else (some false))) else (if bt343.2.2 = 2 then (if (x312001.length : Int) < x312000 then (some false) else (squelchlaw21_PoolBack.j2 k x9 x312000 x312001)) else (some false))))) := rfl
theorem squelchlaw21_PoolBack.j2_e (k : Nat) (x9 : Bool) (x312000 : Int) (x312001 : List (S31)) : squelchlaw21_PoolBack.j2 (k + 1) x9 x312000 x312001 = (squelchlaw21_PoolBack.l0 k x9 x312001 (x312001.length : Int) 0 x312000 x312001) := rfl
theorem squelchlaw21_PoolBack.l0_e (k : Nat) (x9 : Bool) (x197 : List (S31)) (x198 : Int) (x199 : Int) (x360000 : Int) (x360001 : List (S31)) : squelchlaw21_PoolBack.l0 (k + 1) x9 x197 x198 x199 x360000 x360001 = (if x199 < x198 then (if 0 ≤ x199 then (if x199 < (x197.length : Int) then ((pool_Take.f k x360000 x360001 0).bind fun bt362 => (if bt362.2.2.2.2 = 0 then ((squelchref21_SameGram.f bt362.2.2.1 bt362.2.2.2.1 ((rd_T31 x197 x199).f0) ((rd_T31 x197 x199).f1)).bind fun t373 => (if t373 = true then (squelchlaw21_PoolBack.l0 k x9 x197 x198 (wrap64 (x199 + 1)) bt362.1 bt362.2.1) else (some false))) else (some false))) else (none)) else (none)) else (if x9 = true then (some ((x360001.length : Int) == 0)) else (some false))) := rfl

theorem live_ev : Ev (fun k => squelchlaw21_live.f k) true := Ev.of squelchlaw21_live.mono (k := 100) (by decide +kernel)
theorem w_succ (j : Nat) (h : j ≤ 1000000) : wrap64 ((j : Int) + 1) = ((j + 1 : Nat) : Int) := by rw [w64' _ (by omega) (by omega)]; rfl
theorem wf8 {a : Int} (h : (Lit.int .u8 a).wf = true) : 0 ≤ a ∧ a < 256 := by
  simp [Lit.wf] at h
  have h1 : IntKind.u8.min = 0 := rfl
  have h2 : IntKind.u8.max = 255 := rfl
  omega
theorem and7F : ∀ b : Fin 1600, Go.bits .and .i64 ((b.val : Nat) : Int) 7 = ((b.val % 8 : Nat) : Int) := by decide +kernel
theorem and7 (b : Nat) (h : b < 1600) : Go.bits .and .i64 (b : Int) 7 = ((b % 8 : Nat) : Int) := and7F ⟨b, h⟩
theorem xorsF : ∀ x : Fin 256, ∀ r : Fin 8, Go.bits .xor .u8 (Go.bits .xor .u8 ((x.val : Nat) : Int) (shl .u8 1 ((r.val : Nat) : Int))) (shl .u8 1 ((r.val : Nat) : Int)) = ((x.val : Nat) : Int) ∧ Go.bits .xor .u8 ((x.val : Nat) : Int) (shl .u8 1 ((r.val : Nat) : Int)) ≠ ((x.val : Nat) : Int) := by decide +kernel
theorem xors {x : Int} (h : 0 ≤ x ∧ x < 256) (r : Nat) (hr : r < 8) : Go.bits .xor .u8 (Go.bits .xor .u8 x (shl .u8 1 (r : Int))) (shl .u8 1 (r : Int)) = x ∧ Go.bits .xor .u8 x (shl .u8 1 (r : Int)) ≠ x := by
  obtain ⟨n, rfl⟩ := Int.eq_ofNat_of_zero_le h.1
  exact xorsF ⟨n, by omega⟩ ⟨r, hr⟩
/-- The bytes, one bit turned. -/
def flip (b : List Int) (bit : Nat) : List Int := b.set (bit / 8) (Go.bits .xor .u8 (rd b ((bit / 8 : Nat) : Int)) (shl .u8 1 ((bit % 8 : Nat) : Int)))
theorem flip_len (b : List Int) (bit : Nat) : (flip b bit).length = b.length := List.length_set
theorem flip_flip {b : List Int} {bit : Nat} (hb : ∀ y ∈ b, 0 ≤ y ∧ y < 256) (h : bit < 8 * b.length) : flip (flip b bit) bit = b := by
  have hj : bit / 8 < b.length := by omega
  have hj' : bit / 8 < (flip b bit).length := by rw [flip_len]; exact hj
  have e := (xors (hb _ (List.getElem_mem hj)) (bit % 8) (by omega)).1
  have e1 : (flip b bit)[bit / 8] = Go.bits .xor .u8 b[bit / 8] (shl .u8 1 ((bit % 8 : Nat) : Int)) := by
    have : (flip b bit)[bit / 8]? = some (Go.bits .xor .u8 b[bit / 8] (shl .u8 1 ((bit % 8 : Nat) : Int))) := by
      unfold flip
      rw [List.getElem?_set_self hj, rdI b _ hj]
    rw [List.getElem?_eq_getElem hj'] at this
    exact Option.some.inj this
  have e0 : flip (flip b bit) bit = (flip b bit).set (bit / 8) (Go.bits .xor .u8 (rd (flip b bit) ((bit / 8 : Nat) : Int)) (shl .u8 1 ((bit % 8 : Nat) : Int))) := rfl
  rw [e0, rdI _ _ hj', e1, e]
  unfold flip
  rw [List.set_set]
  exact List.set_getElem_self hj
theorem flip_ne {b : List Int} {bit : Nat} (hb : ∀ y ∈ b, 0 ≤ y ∧ y < 256) (h : bit < 8 * b.length) : flip b bit ≠ b := by
  intro e
  have hj : bit / 8 < b.length := by omega
  have h2 := (xors (hb _ (List.getElem_mem hj)) (bit % 8) (by omega)).2
  have h3 : (flip b bit)[bit / 8]? = some (Go.bits .xor .u8 b[bit / 8] (shl .u8 1 ((bit % 8 : Nat) : Int))) := by
    unfold flip
    rw [List.getElem?_set_self hj, rdI b _ hj]
  rw [e, List.getElem?_eq_getElem hj] at h3
  exact h2 (Option.some.inj h3).symm
theorem good_at {m : Int} {l : List S31} (h : Ok m l) (i : Nat) (hi : i < l.length) : 0 < l[i].f1.length ∧ l[i].f1.length ≤ 200 := by
  have := (goodB_iff _ _).1 (h.2.2.2 _ (List.getElem_mem hi))
  exact ⟨this.2.2.1, this.2.2.2⟩
theorem len_le {m : Int} {l : List S31} (h : Ok m l) : l.length ≤ 256 := by obtain ⟨_, h2, h3, _⟩ := h; omega
theorem spoil_ok {m : Int} {l : List S31} (h : Ok m l) (i : Nat) (hi : i < l.length) (bit : Nat) (hb : bit < 8 * l[i].f1.length) : Ev (fun k => pool_Spoil.f k m l (i : Int) (bit : Int)) (m, l.set i ⟨l[i].f0, flip l[i].f1 bit⟩, 0) := by
  have hlen := len_le h
  have hg := good_at h i hi
  unfold pool_Spoil.f
  refine Ev.bind (at_ok h [(i : Int)] (by simp) (fun p hp => by rw [List.mem_singleton.1 hp]; omega)) ?_
  refine Ev.congr (fun k => ?_) (Ev.now _)
  have e1 : ((bit : Nat) : Int) / 8 = ((bit / 8 : Nat) : Int) := by omega
  dsimp only
  rw [if_pos rfl, if_neg (by omega), if_pos (by omega), if_pos (by omega), rdT l i hi, w64' _ (by omega) (by omega), if_neg (by omega), e1, if_pos (by omega), if_pos (by omega), and7 bit (by omega), if_pos (by omega), Int.toNat_natCast, Int.toNat_natCast]
  rfl
theorem set_ok {m : Int} {l : List S31} (h : Ok m l) (i : Nat) (x : S31) (hx : goodB x.f0 x.f1 = true) : Ok m (l.set i x) := by
  obtain ⟨h1, h2, h3, h4⟩ := h
  refine ⟨h1, h2, by rw [List.length_set]; exact h3, fun g hg => ?_⟩
  rcases List.mem_or_eq_of_mem_set hg with hg | rfl
  · exact h4 g hg
  · exact hx
theorem swap_ok {m : Int} {l : List S31} (h : Ok m l) (i j : Nat) (hi : i < l.length) (hj : j < l.length) : Ev (fun k => pool_Swap.f k m l (i : Int) (j : Int)) (m, (l.set i l[j]).set j l[i], 0) := by
  unfold pool_Swap.f
  refine Ev.bind (at_ok h [(i : Int), (j : Int)] (by simp) (fun p hp => by
    rcases List.mem_cons.1 hp with rfl | hp
    · omega
    · rw [List.mem_singleton.1 hp]; omega)) ?_
  refine Ev.congr (fun k => ?_) (Ev.now _)
  dsimp only
  rw [if_pos rfl, if_pos (by omega), rdT l i hi, rdT l j hj, Int.toNat_natCast, Int.toNat_natCast]
theorem swap_swap {l : List S31} (i j : Nat) (hi : i < l.length) (hj : j < l.length) (c : List S31) (hc : c = (l.set i l[j]).set j l[i]) (hci : i < c.length) (hcj : j < c.length) : (c.set j c[i]).set i c[j] = l := by
  have e1 : c[j] = l[i] := by subst hc; simp
  have e2 : c[i] = l[j] := by
    subst hc
    rw [List.getElem_set]
    split
    · rename_i h; subst h; rfl
    · simp
  rw [e1, e2]
  subst hc
  apply List.ext_getElem
  · simp
  · intro n h1 h2
    rw [List.getElem_set, List.getElem_set, List.getElem_set, List.getElem_set]
    split
    · rename_i h; subst h; rfl
    · split
      · rename_i h; subst h; rfl
      · rfl
theorem eqb_l0 (x y : List Int) (hl : x.length = y.length) (hx : x.length ≤ 4611686018427387904) (d : Nat) : ∀ i : Nat, i + d = x.length → ∃ b, Ev (fun k => slices_Equal_byte_byte.l0 k x y (x.length : Int) (i : Int)) b ∧ (b = true ↔ x.drop i = y.drop i) := by
  induction d with
  | zero =>
    intro i hi
    refine ⟨true, Ev.step (f := fun _ => some true) (fun k => by rw [slices_Equal_byte_byte.l0, if_neg (by omega)]) (Ev.now _), ?_⟩
    rw [List.drop_eq_nil_of_le (by omega), List.drop_eq_nil_of_le (by omega)]
    simp
  | succ d ih =>
    intro i hi
    have h1 : i < x.length := by omega
    have h2 : i < y.length := by omega
    rw [List.drop_eq_getElem_cons h1, List.drop_eq_getElem_cons h2]
    by_cases he : x[i] = y[i]
    · obtain ⟨b, hb, hb2⟩ := ih (i + 1) (by omega)
      refine ⟨b, Ev.step (fun k => ?_) hb, hb2.trans ⟨fun h => by rw [he, h], fun h => (List.cons.inj h).2⟩⟩
      rw [slices_Equal_byte_byte.l0, if_pos (by omega), if_pos (by omega), if_pos (by omega), if_pos (by omega), rdI x i h1, rdI y i h2, if_pos he, w64' _ (by omega) (by omega)]
      rfl
    · refine ⟨false, Ev.step (f := fun _ => some false) (fun k => ?_) (Ev.now _), ⟨fun h => (by cases h), fun h => absurd (List.cons.inj h).1 he⟩⟩
      rw [slices_Equal_byte_byte.l0, if_pos (by omega), if_pos (by omega), if_pos (by omega), if_pos (by omega), rdI x i h1, rdI y i h2, if_neg he]
theorem eqb_ev (x y : List Int) (hx : x.length ≤ 4611686018427387904) : ∃ b, Ev (fun k => slices_Equal_byte_byte.f k x y) b ∧ (b = true ↔ x = y) := by
  by_cases hl : x.length = y.length
  · obtain ⟨b, hb, h2⟩ := eqb_l0 x y hl hx x.length 0 (by omega)
    refine ⟨b, Ev.congr (fun k => ?_) hb, by simpa using h2⟩
    rw [slices_Equal_byte_byte.f, if_pos (by omega)]
    rfl
  · refine ⟨false, Ev.congr (f := fun _ => some false) (fun k => ?_) (Ev.now _), ⟨fun h => (by cases h), fun h => absurd (congrArg _ h) hl⟩⟩
    rw [slices_Equal_byte_byte.f, if_neg (by omega)]
theorem same1_ev (g h : S31) (hg : g.f1.length ≤ 4611686018427387904) : ∃ b, Ev (fun k => pool_Same_1.f k g.f0 g.f1 h.f0 h.f1) b ∧ (b = true ↔ g = h) := by
  by_cases he : g.f0 = h.f0
  · obtain ⟨b, hb, h2⟩ := eqb_ev g.f1 h.f1 hg
    refine ⟨b, Ev.congr (f := fun k => (slices_Equal_byte_byte.f k g.f1 h.f1).bind fun t => some t) (fun k => ?_) (Ev.bind hb (Ev.now _)), h2.trans ⟨fun e => ?_, fun e => by rw [e]⟩⟩
    · rw [pool_Same_1.f, if_pos he]
    · cases g; cases h; simp_all
  · refine ⟨false, Ev.congr (f := fun _ => some false) (fun k => ?_) (Ev.now _), ⟨fun h => (by cases h), fun e => absurd (by rw [e]) he⟩⟩
    rw [pool_Same_1.f, if_neg he]
theorem eqg_l0 (x y : List S31) (hl : x.length = y.length) (hx : x.length ≤ 4611686018427387904) (hg : ∀ g ∈ x, g.f1.length ≤ 4611686018427387904) (d : Nat) : ∀ i : Nat, i + d = x.length → ∃ b, Ev (fun k => api_Gram_32.l0 k y x (x.length : Int) (i : Int)) b ∧ (b = true ↔ x.drop i = y.drop i) := by
  induction d with
  | zero =>
    intro i hi
    refine ⟨true, Ev.step (f := fun _ => some true) (fun k => by rw [api_Gram_32.l0, if_neg (by omega)]) (Ev.now _), ?_⟩
    rw [List.drop_eq_nil_of_le (by omega), List.drop_eq_nil_of_le (by omega)]
    simp
  | succ d ih =>
    intro i hi
    have h1 : i < x.length := by omega
    have h2 : i < y.length := by omega
    rw [List.drop_eq_getElem_cons h1, List.drop_eq_getElem_cons h2]
    obtain ⟨c, hc, hc2⟩ := same1_ev x[i] y[i] (hg _ (List.getElem_mem h1))
    have key : ∀ b, Ev (fun k => if c = true then api_Gram_32.l0 k y x (x.length : Int) ((i + 1 : Nat) : Int) else some false) b → Ev (fun k => api_Gram_32.l0 k y x (x.length : Int) (i : Int)) b := fun b hb => by
      refine Ev.step (f := fun k => (pool_Same_1.f k x[i].f0 x[i].f1 y[i].f0 y[i].f1).bind fun t => if t = true then api_Gram_32.l0 k y x (x.length : Int) ((i + 1 : Nat) : Int) else some false) (fun k => ?_) (Ev.bind hc hb)
      rw [api_Gram_32.l0, if_pos (by omega), if_pos (by omega), if_pos (by omega), if_pos (by omega), rdT x i h1, rdT y i h2, w64' _ (by omega) (by omega)]
      rfl
    by_cases he : c = true
    · obtain ⟨b, hb, hb2⟩ := ih (i + 1) (by omega)
      refine ⟨b, key b (Ev.congr (fun k => by rw [if_pos he]) hb), hb2.trans ⟨fun h => by rw [hc2.1 he, h], fun h => (List.cons.inj h).2⟩⟩
    · exact ⟨false, key false (Ev.congr (f := fun _ => some false) (fun k => by rw [if_neg he]) (Ev.now _)), ⟨fun h => (by cases h), fun h => absurd (hc2.2 (List.cons.inj h).1) he⟩⟩
theorem same_ev {m : Int} {l : List S31} (h : Ok m l) (l2 : List S31) (hl : l.length = l2.length) : ∃ b, Ev (fun k => pool_Same.f k m l m l2) b ∧ (b = true ↔ l = l2) := by
  have hlen := len_le h
  obtain ⟨b, hb, h2⟩ := eqg_l0 l l2 hl (by omega) (fun g hg => by have := (goodB_iff _ _).1 (h.2.2.2 g hg); omega) l.length 0 (by omega)
  refine ⟨b, Ev.congr (f := fun k => (pool_Check.f k m l).bind fun t => if t = 0 then ((api_Gram_32.f k l l2).bind fun t => some t) else some false) (fun k => ?_) (Ev.bind (check_ok h) ?_), by simpa using h2⟩
  · rw [pool_Same.f, if_pos rfl]
  · refine Ev.congr (f := fun k => (api_Gram_32.l0 k l2 l (l.length : Int) ((0 : Nat) : Int)).bind fun t => some t) (fun k => ?_) (Ev.bind hb (Ev.now _))
    rw [if_pos rfl, api_Gram_32.f, if_pos (by omega)]
    rfl
theorem double_ok {m : Int} {l : List S31} (h : Ok m l) (i : Nat) (hi : i < l.length) : Ev (fun k => pool_Double.f k m l (i : Int)) (if (l.length : Int) ≥ m then (0, [], 2) else (m, l ++ [l[i]], 0)) := by
  have hlen := len_le h
  have hg := good_at h i hi
  unfold pool_Double.f
  refine Ev.bind (at_ok h [(i : Int)] (by simp) (fun p hp => by rw [List.mem_singleton.1 hp]; omega)) ?_
  refine Ev.congr (fun k => ?_) (Ev.now _)
  dsimp only
  rw [if_pos rfl]
  by_cases hm : (l.length : Int) ≥ m
  · rw [if_pos hm, if_pos hm]
  · rw [if_neg hm, if_neg hm, if_pos (by omega), if_pos (by omega), rdT l i hi, letter_f _ _ hg.2, Option.bind_some, if_pos (by omega)]
theorem app_ok {m : Int} {l : List S31} (h : Ok m l) (x : S31) (hx : goodB x.f0 x.f1 = true) (hm : ¬ (l.length : Int) ≥ m) : Ok m (l ++ [x]) := by
  obtain ⟨h1, h2, h3, h4⟩ := h
  refine ⟨h1, h2, by rw [List.length_append, List.length_singleton]; omega, fun g hg => ?_⟩
  rcases List.mem_append.1 hg with hg | hg
  · exact h4 g hg
  · rw [List.mem_singleton.1 hg]; exact hx
theorem drop_ok' {m : Int} {l : List S31} (h : Ok m l) (j : Nat) : Ok m (l.drop j) := by
  obtain ⟨h1, h2, h3, h4⟩ := h
  exact ⟨h1, h2, by rw [List.length_drop]; omega, fun g hg => h4 g (List.mem_of_mem_drop hg)⟩
theorem back_l0 {m : Int} {l : List S31} (h : Ok m l) (d : Nat) : ∀ j : Nat, j + d = l.length → Ev (fun k => squelchlaw21_PoolBack.l0 k true l (l.length : Int) (j : Int) m (l.drop j)) true := by
  have hlen := len_le h
  induction d with
  | zero =>
    intro j hj
    refine Ev.step (f := fun _ => some true) (fun k => ?_) (Ev.now _)
    rw [squelchlaw21_PoolBack.l0_e, if_neg (by omega), if_pos rfl, List.drop_eq_nil_of_le (by omega)]
    rfl
  | succ d ih =>
    intro j hj
    have hjl : j < l.length := by omega
    have hd : 0 < (l.drop j).length := by rw [List.length_drop]; omega
    have e0 : (l.drop j)[0] = l[j] := by rw [List.getElem_drop]; rfl
    have e1 : (l.drop j).eraseIdx 0 = l.drop (j + 1) := by rw [List.drop_eq_getElem_cons hjl]; rfl
    have ht := take_ok (drop_ok' h j) 0 hd
    rw [e0, e1] at ht
    refine Ev.step (f := fun k => (pool_Take.f k m (l.drop j) ((0 : Nat) : Int)).bind fun bt => if bt.2.2.2.2 = 0 then ((squelchref21_SameGram.f bt.2.2.1 bt.2.2.2.1 l[j].f0 l[j].f1).bind fun t => if t = true then squelchlaw21_PoolBack.l0 k true l (l.length : Int) ((j + 1 : Nat) : Int) bt.1 bt.2.1 else some false) else some false) (fun k => ?_) (Ev.bind ht ?_)
    · rw [squelchlaw21_PoolBack.l0_e, if_pos (by omega), if_pos (by omega), if_pos (by omega), rdT l j hjl, w_succ j (by omega)]
      rfl
    · refine Ev.congr (fun k => ?_) (ih (j + 1) (by omega))
      dsimp only
      rw [if_pos rfl, same_f, Option.bind_some, if_pos rfl]
theorem back_j2 {m : Int} {l : List S31} (h : Ok m l) : Ev (fun k => squelchlaw21_PoolBack.j2 k true m l) true := by
  have := back_l0 h l.length 0 (by omega)
  rw [List.drop_zero] at this
  exact Ev.step (fun k => by rw [squelchlaw21_PoolBack.j2_e]; rfl) this
theorem back_j1 {m : Int} {l : List S31} (h : Ok m l) (i : Nat) (hi : i < l.length) : Ev (fun k => squelchlaw21_PoolBack.j1 k (i : Int) true false m l) true := by
  have hlen := len_le h
  have hd := double_ok h i hi
  refine Ev.step (fun k => squelchlaw21_PoolBack.j1_e k (i : Int) true false m l) ?_
  by_cases hm : (l.length : Int) ≥ m
  · rw [if_pos hm] at hd
    refine Ev.congr (fun k => if_neg (by decide)) (Ev.bind hd ?_)
    refine Ev.congr (fun k => ?_) (back_j2 h)
    dsimp only
    rw [if_neg (by decide), if_pos rfl, if_neg (by omega)]
  · rw [if_neg hm] at hd
    refine Ev.congr (fun k => if_neg (by decide)) (Ev.bind hd ?_)
    have hx : Ok m (l ++ [l[i]]) := app_ok h _ (h.2.2.2 _ (List.getElem_mem hi)) hm
    have hxl : (l ++ [l[i]]).length = l.length + 1 := by simp
    have ht := take_ok hx l.length (by omega)
    have e1 : (l ++ [l[i]]).eraseIdx l.length = l := by rw [List.eraseIdx_append_of_length_le (Nat.le_refl _)]; simp
    have e2 : (l ++ [l[i]])[l.length]'(by omega) = l[i] := by simp
    rw [e1] at ht
    have hdr : Ev (fun k => pool_Drop.f k m (l ++ [l[i]]) (l.length : Int)) (m, l, 0) := by
      unfold pool_Drop.f
      exact Ev.bind ht (Ev.now _)
    obtain ⟨b, hb, hb2⟩ := same_ev h l rfl
    have hbt : b = true := hb2.2 rfl
    refine Ev.congr (fun k => if_pos rfl) (Ev.bind hdr ?_)
    refine Ev.congr (fun k => if_pos rfl) (Ev.bind hb ?_)
    refine Ev.congr (fun k => ?_) (back_j2 h)
    rw [if_pos hbt]
    dsimp only
    rw [if_pos (by omega), if_pos (by omega), if_pos (by omega), if_pos (by omega), rdT (l ++ [l[i]]) l.length (by omega), rdT l i hi, e2, same_f, Option.bind_some, if_pos rfl]
theorem tmods {a n : Int} (h : 0 < n) (h2 : n ≤ 1000000) : 0 ≤ Int.tmod (wrap64 (Int.tmod a n + n)) n ∧ Int.tmod (wrap64 (Int.tmod a n + n)) n < n := by
  have h1 : -n < Int.tmod a n := by have := Int.tmod_lt_of_pos (-a) h; rw [Int.neg_tmod] at this; omega
  have h3 : Int.tmod a n < n := Int.tmod_lt_of_pos a h
  rw [w64' _ (by omega) (by omega)]
  exact ⟨Int.tmod_nonneg _ (by omega), Int.tmod_lt_of_pos _ h⟩
theorem back_j0T (m : Int) (l : List S31) (a1 a2 a3 : Int) : Ev (fun k => squelchlaw21_PoolBack.j0 k a1 a2 a3 true true m l) true :=
  Ev.step (f := fun _ => some true) (fun k => by rw [squelchlaw21_PoolBack.j0_e, if_pos rfl]) (Ev.now _)
theorem back_j0F (m : Int) (l : List S31) (a1 a2 a3 : Int) (h : Ok m l) (hne : l ≠ []) (hby : ∀ g ∈ l, ∀ y ∈ g.f1, 0 ≤ y ∧ y < 256) : Ev (fun k => squelchlaw21_PoolBack.j0 k a1 a2 a3 true false m l) true := by
  have hlen := len_le h
  have hpos : 0 < l.length := List.length_pos_iff.2 hne
  obtain ⟨i0, i1⟩ := tmods (a := a1) (n := (l.length : Int)) (by omega) (by omega)
  obtain ⟨k0, k1⟩ := tmods (a := a2) (n := (l.length : Int)) (by omega) (by omega)
  obtain ⟨i, hi⟩ := Int.eq_ofNat_of_zero_le i0
  obtain ⟨j, hj⟩ := Int.eq_ofNat_of_zero_le k0
  rw [hi] at i1
  rw [hj] at k1
  have hil : i < l.length := by omega
  have hjl : j < l.length := by omega
  have hg := good_at h i hil
  obtain ⟨b0, b1⟩ := tmods (a := a3) (n := 8 * (l[i].f1.length : Int)) (by omega) (by omega)
  have hw : wrap64 (8 * (l[i].f1.length : Int)) = 8 * (l[i].f1.length : Int) := w64' _ (by omega) (by omega)
  obtain ⟨bit, hbit⟩ := Int.eq_ofNat_of_zero_le b0
  rw [hbit] at b1
  have hbl : bit < 8 * l[i].f1.length := by omega
  have hbi := fun y hy => hby _ (List.getElem_mem hil) y hy
  have s1 := spoil_ok h i hil bit hbl
  have hgi := h.2.2.2 _ (List.getElem_mem hil)
  have hA : Ok m (l.set i ⟨l[i].f0, flip l[i].f1 bit⟩) := set_ok h i _ (by
    rw [goodB_iff] at hgi ⊢
    rw [flip_len]
    exact hgi)
  have hil2 : i < (l.set i ⟨l[i].f0, flip l[i].f1 bit⟩).length := by rw [List.length_set]; exact hil
  have hAi : (l.set i ⟨l[i].f0, flip l[i].f1 bit⟩)[i] = ⟨l[i].f0, flip l[i].f1 bit⟩ := by simp
  have s2 := spoil_ok hA i hil2 bit (by rw [hAi]; show bit < 8 * (flip l[i].f1 bit).length; rw [flip_len]; exact hbl)
  have hAA : (l.set i ⟨l[i].f0, flip l[i].f1 bit⟩).set i ⟨(l.set i ⟨l[i].f0, flip l[i].f1 bit⟩)[i].f0, flip (l.set i ⟨l[i].f0, flip l[i].f1 bit⟩)[i].f1 bit⟩ = l := by
    rw [hAi]
    show (l.set i _).set i ⟨l[i].f0, flip (flip l[i].f1 bit) bit⟩ = l
    rw [flip_flip hbi hbl, List.set_set]
    exact List.set_getElem_self hil
  rw [hAA] at s2
  have s3 := swap_ok h i j hil hjl
  obtain ⟨C, hC⟩ : ∃ C, C = (l.set i l[j]).set j l[i] := ⟨_, rfl⟩
  have hCl : C.length = l.length := by rw [hC]; simp
  have hCok : Ok m C := by
    rw [hC]
    exact set_ok (set_ok h i _ (h.2.2.2 _ (List.getElem_mem hjl))) j _ hgi
  rw [← hC] at s3
  have s4 := swap_ok hCok j i (by omega) (by omega)
  rw [swap_swap i j hil hjl C hC (by omega) (by omega)] at s4
  obtain ⟨c1, v1, u1⟩ := same_ev hA l (by simp)
  have hc1 : c1 = false := by
    rw [← Bool.not_eq_true]
    intro hc
    have e := u1.1 hc
    have e2 : (l.set i ⟨l[i].f0, flip l[i].f1 bit⟩)[i]? = l[i]? := by rw [e]
    rw [List.getElem?_eq_getElem hil2, List.getElem?_eq_getElem hil, hAi] at e2
    exact flip_ne hbi hbl (congrArg S31.f1 (Option.some.inj e2))
  obtain ⟨c2, v2, u2⟩ := same_ev h l rfl
  have hc2 : c2 = true := u2.2 rfl
  subst hc1
  subst hc2
  refine Ev.step (fun k => squelchlaw21_PoolBack.j0_e k a1 a2 a3 true false m l) ?_
  simp only [hi, hj]
  rw [rdT l i hil, hw]
  simp only [hbit]
  refine Ev.congr (fun k => (if_neg (by decide)).trans ((if_neg (by omega)).trans ((if_pos (by omega)).trans ((if_pos (by omega)).trans (if_neg (by omega)))))) ?_
  refine Ev.bind s1 ?_
  refine Ev.bind s2 ?_
  refine Ev.bind s3 ?_
  refine Ev.bind s4 ?_
  refine Ev.congr (fun k => (if_pos rfl).trans ((if_pos rfl).trans ((if_pos rfl).trans (if_pos rfl)))) ?_
  refine Ev.bind v1 ?_
  refine Ev.congr (fun k => if_neg (by decide)) ?_
  refine Ev.bind v2 ?_
  refine Ev.congr (fun k => if_pos rfl) ?_
  refine Ev.bind v2 ?_
  exact back_j1 h i hil
theorem PoolBack : squelchlaw21_PoolBack.Pure := by
  intro m l a1 a2 a3 h1 h2 h3 h4 h5
  refine Ev.rounds ?_
  obtain ⟨hl, _, hq⟩ := h2
  unfold squelchlaw21_PoolBack.f
  refine Ev.bind live_ev ?_
  obtain ⟨b, hb⟩ := few_any m l (by omega)
  refine Ev.bind hb ?_
  by_cases hbt : b = true
  · simp only [if_pos hbt]
    obtain ⟨c, hc, h0⟩ := rcheck m l (by omega)
    refine Ev.bind hc ?_
    by_cases hc0 : c = 0
    · simp only [if_pos hc0]
      by_cases hn : l = []
      · subst hn
        exact back_j0T m [] a1 a2 a3
      · have : ((l.length : Int) == 0) = false := by
          have := List.length_pos_iff.2 hn
          rw [beq_eq_false_iff_ne]; omega
        rw [this]
        exact back_j0F m l a1 a2 a3 (h0 hc0) hn (fun g hg y hy => wf8 ((hq g hg).2.2.2 y hy))
    · simp only [if_neg hc0]
      exact back_j0T m l a1 a2 a3
  · simp only [if_neg hbt]
    exact back_j0T m l a1 a2 a3
end Go.Proofs.Yteleojddlaflnaa.Pure
