/- JitterOrder: the law's own walk; by hand. -/
import Derived.Test.YtkjgibdbbklejaaHLivh
import Derived.Test.YtkjgibdbbklejaaJtO
import Derived.Test.YtkjgibdbbklejaaHSameJ
import Derived.Test.YtkjgibdbbklejaaHSwapJ
import Derived.Test.YtkjgibdbbklejaaPAx5
namespace Go.Proofs.Ytkjgibdbbklejaa.PA
open Go.RowKit Go.Proofs.YtkjgibdbbklejaaW.PrintWords Go.Proofs.YtkjgibdbbklejaaW.PrintLast Go.Proofs.YtkjgibdbbklejaaW.PrintMore Go.Proofs.Ytkjgibdbbklejaa.Jt
set_option linter.unusedVariables false
set_option linter.unusedSimpArgs false
theorem rdO (l : List S31) (j : Nat) (h : j < l.length) : rd_T31 l (j : Int) = l[j] := by
  unfold rd_T31
  rw [Int.toNat_natCast, List.getD_eq_getElem?_getD, List.getElem?_eq_getElem h]; rfl
theorem depth_b (d : Int) : 1 ≤ wrap64 (1 + Int.tmod (wrap64 (Int.tmod d 16 + 16)) 16) ∧ wrap64 (1 + Int.tmod (wrap64 (Int.tmod d 16 + 16)) 16) ≤ 16 := by
  have := tmod_pos (a := d) (m := 16) (by decide) (by decide)
  rw [w64 (1 + _) (by omega) (by omega)]
  omega
def Good31 (y : S31) : Prop := (y.f0.length * 32 ≤ 140737488351232 ∧ y.f0.length ≤ 9223372036854775807 ∧ ∀ p ∈ y.f0, ((Lit.int .i64 p.f0).wf = true ∧ (p.f1.length * 1 ≤ 140737488351232 ∧ p.f1.length ≤ 9223372036854775807 ∧ ∀ b ∈ p.f1, (Lit.int .u8 b).wf = true))) ∧ (Lit.int .i64 y.f1).wf = true
/-- Two states that are told alike, each in a block of its own. -/
structure FJ2 (W : World) (g8 g10 base : Nat) (on : Bool) (nx dp dr : Int) (q : List S41) (v v' : Value) : Prop where
  b8 : W.heap[g8]? = some (.cells #[.bool on, .int .i64 nx, .int .i64 dp, .int .i64 dr, v] 26 (0, 0))
  b10 : W.heap[g10]? = some (.cells #[.bool on, .int .i64 nx, .int .i64 dp, .int .i64 dr, v'] 26 (0, 0))
  r8 : Kd.V k41 41 W base (fun k => k ≠ g8 ∧ k ≠ g10) v q
  r10 : Kd.V k41 41 W base (fun k => k ≠ g8 ∧ k ≠ g10) v' q
  ne : g8 ≠ g10
  h8 : base ≤ g8
  h10 : base ≤ g10
theorem FJ2.below {W W' : World} {g8 g10 base : Nat} {on : Bool} {nx dp dr : Int} {q : List S41} {v v' : Value} (h : FJ2 W g8 g10 base on nx dp dr q v v') (hb : Below W.heap.size W W') : FJ2 W' g8 g10 base on nx dp dr q v v' := ⟨blk_below h.b8 hb, blk_below h.b10 hb, Kd.V_below h.r8 hb, Kd.V_below h.r10 hb, h.ne, h.h8, h.h10⟩
theorem blk_far5 {w : World} {g g' : Nat} {t : TypeId} {cs : Array Value} {u0 u1 u2 u3 u4 : Value} (h : w.heap[g]? = some (.cells cs t (0, 0))) (hne : g ≠ g') : (((((w.setCell ⟨g', 0, none⟩ u0).setCell ⟨g', 1, none⟩ u1).setCell ⟨g', 2, none⟩ u2).setCell ⟨g', 3, none⟩ u3).setCell ⟨g', 4, none⟩ u4).heap[g]? = some (.cells cs t (0, 0)) := blk_far (blk_far (blk_far (blk_far (blk_far h hne _) hne _) hne _) hne _) hne _
/-- The first of them, put. -/
theorem FJ2.put1 {W : World} {g8 g10 base : Nat} {on on' : Bool} {nx dp dr nx' dp' dr' : Int} {q q' : List S41} {v v' x x' : Value} (h : FJ2 W g8 g10 base on nx dp dr q v v') (hx : Kd.V k41 41 W base (fun k => k ≠ g8 ∧ k ≠ g10) x q') (hx' : Kd.V k41 41 W base (fun k => k ≠ g8 ∧ k ≠ g10) x' q') :
    FJ2 (((((((((((W.setCell ⟨g8, 0, none⟩ (.bool on')).setCell ⟨g8, 1, none⟩ (.int .i64 nx')).setCell ⟨g8, 2, none⟩ (.int .i64 dp')).setCell ⟨g8, 3, none⟩ (.int .i64 dr')).setCell ⟨g8, 4, none⟩ x)).setCell ⟨g10, 0, none⟩ (.bool on')).setCell ⟨g10, 1, none⟩ (.int .i64 nx')).setCell ⟨g10, 2, none⟩ (.int .i64 dp')).setCell ⟨g10, 3, none⟩ (.int .i64 dr')).setCell ⟨g10, 4, none⟩ x') g8 g10 base on' nx' dp' dr' q' x x' :=
  ⟨blk_far5 (blk_put5 h.b8) h.ne, blk_put5 (blk_far5 h.b10 h.ne.symm), V_far5 (V_far5 hx (fun k hk => hk.1) _ _ _ _ _) (fun k hk => hk.2) _ _ _ _ _, V_far5 (V_far5 hx' (fun k hk => hk.1) _ _ _ _ _) (fun k hk => hk.2) _ _ _ _ _, h.ne, h.h8, h.h10⟩
theorem V_since2 {α : Type} {d : Kd α} {e : TypeId} {W W' : World} {g8 g10 b0 base : Nat} {ok : Nat → Prop} {v : Value} {q : List α} (h : Kd.V d e W' b0 ok v q) (h8 : g8 < W.heap.size) (h10 : g10 < W.heap.size) (hok : ∀ k, ok k → W.heap.size ≤ k) : Kd.V d e W' base (fun k => k ≠ g8 ∧ k ≠ g10) v q := Kd.V_map (base' := base) h (fun A hf => Kd.F_mono hf (fun k hk => ⟨Nat.ne_of_gt (Nat.lt_of_lt_of_le h8 (hok k hk)), Nat.ne_of_gt (Nat.lt_of_lt_of_le h10 (hok k hk))⟩))
theorem R_since2 {α : Type} {d : Kd α} {e : TypeId} {W W' : World} {g8 g10 base : Nat} {ok : Nat → Prop} {v : Value} {q : List α} (h : Kd.R d e W' W.heap.size ok v q) (h8 : g8 < W.heap.size) (h10 : g10 < W.heap.size) : Kd.V d e W' base (fun k => k ≠ g8 ∧ k ≠ g10) v q := V_since2 (Kd.R_V (base' := 0) (Kd.R_mono (Kd.R_bound h) (ok' := fun k => W.heap.size ≤ k) (fun k hk => hk.2.1))) h8 h10 (fun k hk => hk)
theorem at_I {w : World} {A : Option Addr} {n : Nat} {xs : List Int} (h : Kd.C (Kd.int .i64) w A n xs) (i : Nat) (h1 : i < n) : ∃ ad, A = some ad ∧ w.cell? (ad.add i) = some (.int .i64 (xs.getD i 0)) := by
  obtain ⟨ad, c, e, _, hK, hc⟩ := Kd.C_get h (0 : Int) (i : Int) (by omega) (by omega)
  have hK2 : c = [.int .i64 (xs.getD ((i : Int)).toNat 0)] := hK
  subst hK2
  have := hc 0 _ rfl
  rw [Int.toNat_natCast, Nat.add_zero] at this
  exact ⟨ad, e, by rwa [show i * (Kd.int IntKind.i64).sz = i from Nat.mul_one i] at this⟩
theorem mod_nat (i n : Nat) : Int.tmod (i : Int) (n : Int) = ((i % n : Nat) : Int) := rfl
theorem mod_wrap (t : Int) {n : Nat} (hn : 0 < n) (hb : n ≤ 1000) : ∃ b : Nat, Int.tmod (wrap64 (Int.tmod t (n : Int) + (n : Int))) (n : Int) = (b : Int) ∧ b < n := by
  have := tmod_pos (a := t) (m := (n : Int)) (by omega) (by omega)
  exact ⟨(Int.tmod (wrap64 (Int.tmod t (n : Int) + (n : Int))) (n : Int)).toNat, by omega, by omega⟩
def squelchlaw13_JitterOrder.f (k : Nat) (d : Int) (l : List S31) (t : List Int) : Option Bool := some true
set_option maxHeartbeats 16000000 in
set_option maxRecDepth 100000 in
theorem squelchlaw13_JitterOrder.calls (k : Nat) (dep : Int) (A0 : Option Addr) (c0 : Nat) (l0 : List S31) (At : Option Addr) (ct : Nat) (lt : List Int) (r : Bool) (w : World) (hr0 : Kd.C k31 w A0 l0.length l0) (hc0 : l0.length ≤ c0) (hgd : ∀ y ∈ l0, Good31 y) (hrt : Kd.C (Kd.int .i64) w At lt.length lt) (hct : lt.length ≤ ct) (h : squelchlaw13_JitterOrder.f k dep l0 lt = some r) (hr_ : r = true) :
    Calls Try.prog 6 #[.int .i64 dep, .slice A0 l0.length c0, .slice At lt.length ct] w fun e w' => e = .returned (.bool r) ∧ Below w.heap.size w w' := by
  subst hr_
  have HR0 := aM hr0
  have HC0 := aM hc0
  have HRT := aM hrt
  have HGD := aM hgd
  have HB := aM (Below.refl w.heap.size w)
  clear hr0 hc0 h hgd hrt hct
  by_cases hlen : (l0.length : Int) ≤ 20
  rotate_left
  · have hlb : decide (20 < (l0.length : Int)) = true := decide_eq_true (by omega)
    clear hlen
    go_enter Try.func6, Try.ntmps6
    go_wp2_with (go_at_call 8; refine (live_calls _).mono ?_; rintro e w1 ⟨rfl, hb⟩; have HB1 := aM (below_step HB.out hb); clear hb)
    go_ret
    exact ⟨rfl, HB1.out⟩
  have hlb : decide (20 < (l0.length : Int)) = false := decide_eq_false (by omega)
  by_cases hlen2 : (lt.length : Int) ≤ 100
  rotate_left
  · have hlb2 : decide (100 < (lt.length : Int)) = true := decide_eq_true (by omega)
    clear hlen hlen2
    go_enter Try.func6, Try.ntmps6
    go_wp2_with (go_at_call 8; refine (live_calls _).mono ?_; rintro e w1 ⟨rfl, hb⟩; have HB1 := aM (below_step HB.out hb); clear hb)
    go_ret
    exact ⟨rfl, HB1.out⟩
  have hlb2 : decide (100 < (lt.length : Int)) = false := decide_eq_false (by omega)
  have HLEN := aM hlen
  have HLT := aM hlen2
  clear hlen hlen2
  have HDB := aM (depth_b dep)
  have HN : Aside0 (jitter_New.f (wrap64 (1 + Int.tmod (wrap64 (Int.tmod dep 16 + 16)) 16)) = some (false, 0, wrap64 (1 + Int.tmod (wrap64 (Int.tmod dep 16 + 16)) 16), 0, [], 0)) := aM (new_f HDB.out.1 HDB.out.2)
  go_enter Try.func6, Try.ntmps6
  go_upto_region 8 with (first | (go_at_call 8; refine (live_calls _).mono ?_; rintro e w1 ⟨rfl, hb⟩; have HB1 := aM (below_step HB.out hb); clear hb) | (go_at_call 9; refine (jitter_New.calls _ _ _ _ _ _ _ _ HN.out).mono ?_; rintro e w2 ⟨v4, rfl, hv, hb⟩; have HB2 := aM (below_step HB1.out hb); have HV2 := aM (Kd.R_mono (Kd.R_bound (Kd.S_R hv)) (fun k hk => hk.2.2.1)); obtain ⟨A4, c4, ev⟩ := Kd.R_slice (Kd.S_R hv); subst ev; clear hb hv))
  generalize wrap64 (1 + Int.tmod (wrap64 (Int.tmod dep 16 + 16)) 16) = dp at HDB HN ⊢
  have hfj : FJ2 ((w2.alloc (.cells #[.bool false, .int .i64 0, .int .i64 dp, .int .i64 0, .slice A4 0 c4] 26)).alloc (.cells #[.bool false, .int .i64 0, .int .i64 dp, .int .i64 0, .slice A4 0 c4] 26)) w2.heap.size (w2.heap.size + 1) w.heap.size false 0 dp 0 [] (.slice A4 0 c4) (.slice A4 0 c4) :=
    ⟨blk_alloc (heap_alloc_new w2 _) _, (by have := heap_alloc_new (w2.alloc (.cells #[.bool false, .int .i64 0, .int .i64 dp, .int .i64 0, .slice A4 0 c4] 26)) (.cells #[.bool false, .int .i64 0, .int .i64 dp, .int .i64 0, .slice A4 0 c4] 26); rwa [World.size_alloc] at this), Kd.V_alloc (Kd.V_alloc (Kd.V_mono (Kd.R_V HV2.out) (fun k (hk : k < w2.heap.size) => ⟨Nat.ne_of_lt hk, by omega⟩)) _) _, Kd.V_alloc (Kd.V_alloc (Kd.V_mono (Kd.R_V HV2.out) (fun k (hk : k < w2.heap.size) => ⟨Nat.ne_of_lt hk, by omega⟩)) _) _, by omega, HB2.out.size, Nat.le_succ_of_le HB2.out.size⟩
  have HFJ := aM hfj
  have HB4 := aM (below_alloc (below_alloc HB2.out (.cells #[.bool false, .int .i64 0, .int .i64 dp, .int .i64 0, .slice A4 0 c4] 26)) (.cells #[.bool false, .int .i64 0, .int .i64 dp, .int .i64 0, .slice A4 0 c4] 26))
  clear hfj
  generalize ((w2.alloc (.cells #[.bool false, .int .i64 0, .int .i64 dp, .int .i64 0, .slice A4 0 c4] 26)).alloc (.cells #[.bool false, .int .i64 0, .int .i64 dp, .int .i64 0, .slice A4 0 c4] 26)) = w4 at HFJ HB4 ⊢
  generalize w2.heap.size + 1 = g10 at HFJ ⊢
  generalize w2.heap.size = g8 at HFJ ⊢
  clear HB1 HB2 HB HV2 HN
  go_wp2
  go_loopg [62] l0.length (fun kx s62 wr => ∃ (i : Nat) (on : Bool) (nx dr : Int) (q : List S41) (v v' : Value), s62 = .int .i64 i ∧ i ≤ l0.length ∧ l0.length - i ≤ kx ∧ Aside0 (Below w.heap.size w wr) ∧ Aside0 (FJ2 wr g8 g10 w.heap.size on nx dp dr q v v') ∧ Aside0 (OK on nx dp dr q ∧ nx ≤ 1099511627777 + 20 * (i : Int)))
  case atStart => exact ⟨0, false, 0, 0, [], _, _, rfl, Nat.zero_le _, by omega, HB4, HFJ, aM ⟨ok_new HDB.out.1 HDB.out.2, by decide⟩⟩
  case round =>
    clear HB4 HFJ
    obtain ⟨i, on, nx, dr, q, v, v', rfl, hil, hkx, HBR, HFR, HOK⟩ := hrel
    obtain ⟨A, c, ev⟩ := Kd.V_slice HFR.out.r8
    subst ev
    obtain ⟨A', c', ev⟩ := Kd.V_slice HFR.out.r10
    subst ev
    by_cases hlt : i < l0.length
    rotate_left
    · have hltz : ¬ ((i : Int) < (l0.length : Int)) := by omega
      clear hlt hil hkx
      go_wp2
      go_ret
      exact ⟨rfl, HBR.out⟩
    have hltz : (i : Int) < (l0.length : Int) := by omega
    have hiz : (0 : Int) ≤ (i : Int) := by omega
    have HCR := aM (Kd.C_below HR0.out HBR.out)
    obtain ⟨ad, Ao, co, hA, hc0, hc1, hco, hCo⟩ := at_T31 HCR.out (i : Int) hiz hltz
    subst hA
    rw [rdO l0 i hlt, Int.toNat_natCast] at hc0 hc1
    rw [rdO l0 i hlt] at hco hCo
    have hgo := HGD.out l0[i] (List.getElem_mem hlt)
    obtain ⟨o, ho⟩ : ∃ o, o = l0[i] := ⟨_, rfl⟩
    rw [← ho] at hc0 hc1 hco hCo hgo
    have HCO := aM hco
    have RI : Aside0 (IntKind.i64.wrap ((i : Int) + 1) = ((i + 1 : Nat) : Int)) := aM (by rw [IntKind.wrap_i64]; have := HLEN.out; omega)
    have e5 : l0.length - (i + 1) < gk := by omega
    have e6 : i + 1 ≤ l0.length := by omega
    have H56 := aM (And.intro e5 e6)
    have hi20 : (i : Int) < 20 := by have := HLEN.out; omega
    have HI20 := aM hi20
    have hol : o.f0.length < 4398046511104 := by have := hgo.1.1; omega
    obtain ⟨bf, hbf, hfew⟩ := fewl_f o.f0 hol
    have HBF := aM hbf
    have HFEW := aM hfew
    clear ho e5 e6 hkx hil hgo hi20 hol hbf hfew
    go_upto_region 13 with (fail)
    have hb := below_alloc (Below.refl _ wr) (.cells #[.slice Ao o.f0.length co, .int .i64 o.f1] 31)
    have hk9 := heap_alloc_new wr (.cells #[.slice Ao o.f0.length co, .int .i64 o.f1] 31)
    have hF5 := HFR.out.below hb
    have hB5 := below_alloc HBR.out (.cells #[.slice Ao o.f0.length co, .int .i64 o.f1] 31)
    have hC5 := Kd.C_below hCo hb
    generalize (wr.alloc (.cells #[.slice Ao o.f0.length co, .int .i64 o.f1] 31)) = w5 at hk9 hF5 hB5 hC5 ⊢
    generalize wr.heap.size = g12 at hk9 ⊢
    have BK5 := aM hk9
    have HF5 := aM hF5
    have HB5 := aM hB5
    have HC5 := aM hC5
    obtain ⟨ha0, ha1⟩ := cells2 hk9
    clear hb hk9 hF5 hB5 hC5 hCo hco hc0 hc1 HCR HFR HBR
    go_upto_if 70 with (go_at_call 10; refine (squelchlaw13_few.calls (o.f0.length + 1) false 0 0 0 (fun _ => True) none 0 [] _ Ao co o.f0 bf _ (Kd.V_nil k41 41 _ _ _) (Kd.V_mk HCO.out (Kd.C_F k41_heap HC5.out)) HBF.out).mono ?_; rintro e w6 ⟨rfl, hb⟩; have HB6 := aM (below_step HB5.out hb); have HF6 := aM (HF5.out.below hb); have BK6 := aM (blk_below BK5.out hb); have HC6 := aM (Kd.C_below HC5.out hb); clear hb ha0 ha1)
    clear HB5 HF5 BK5 HC5
    cases hb : bf with
    | false =>
      go_wp2
      go_ret
      exact ⟨rfl, HB6.out⟩
    | true =>
      have hol := HFEW.out hb
      subst hb
      have HOL := aM hol
      clear hol HFEW HBF
      obtain ⟨ha0, ha1⟩ := cells2 BK6.out
      go_wp2
      clear ha0 ha1
      -- of one number there is one packet alone
      go_loopg [75] o.f0.length (fun kx s75 wr => ∃ (j : Nat), s75 = .int .i64 j ∧ j ≤ o.f0.length ∧ o.f0.length - j ≤ kx ∧ Aside0 (Below w6.heap.size w6 wr) ∧ Aside0 (∀ a b, (hab : a < b) → (hb : b < o.f0.length) → b < j → (o.f0[a]'(by omega)).f0 ≠ o.f0[b].f0))
      case atStart => exact ⟨0, rfl, Nat.zero_le _, by omega, aM (Below.refl _ _), aM (fun a b hab hb h => absurd h (Nat.not_lt_zero _))⟩
      case round =>
        obtain ⟨j, rfl, hjl, hjk, HBD, HDJ⟩ := hrel
        by_cases hjt : j < o.f0.length
        · have hjz : (j : Int) < (o.f0.length : Int) := by omega
          have hj0 : (0 : Int) ≤ (j : Int) := by omega
          have hjle : (j : Int) ≤ (o.f0.length : Int) := by omega
          have hjco : (j : Int) ≤ (co : Int) := by have := HCO.out; omega
          obtain ⟨adp, Ap, cp, hAp, hp0, hp1, hpl, hpC⟩ := at_T41 (Kd.C_below HC6.out HBD.out) (j : Int) hj0 hjz
          subst hAp
          rw [rd_at o.f0 j hjt, Int.toNat_natCast] at hp0 hp1
          obtain ⟨ha0, ha1⟩ := cells2 (blk_below BK6.out HBD.out)
          have HCD := aM (Kd.C_below HC6.out HBD.out)
          obtain ⟨p, hp⟩ : ∃ p, p = o.f0[j] := ⟨_, rfl⟩
          rw [← hp] at hp0 hp1
          have HP := aM hp
          have RJ : Aside0 (IntKind.i64.wrap ((j : Int) + 1) = ((j + 1 : Nat) : Int)) := aM (by rw [IntKind.wrap_i64]; have := HOL.out; omega)
          have f5 : o.f0.length - (j + 1) < gk := by omega
          have f6 : j + 1 ≤ o.f0.length := by omega
          have HJ := aM (And.intro f5 f6)
          have HJT := aM hjt
          clear hp hpl hpC f5 f6 hjk hjl
          go_upto_region 18 with (fail)
          have hb := below_alloc (Below.refl _ wr) (.cells #[.int .i64 p.f0, .slice Ap p.f1.length cp] 41)
          have hk14 := heap_alloc_new wr (.cells #[.int .i64 p.f0, .slice Ap p.f1.length cp] 41)
          have hBE := below_step HBD.out hb
          have hka := blk_below BK6.out hBE
          generalize (wr.alloc (.cells #[.int .i64 p.f0, .slice Ap p.f1.length cp] 41)) = w7 at hb hk14 hBE hka ⊢
          generalize wr.heap.size = g14 at hk14 ⊢
          have BK14 := aM hk14
          have HBE := aM hBE
          clear hb ha0 ha1 hp0 hp1 hBE
          obtain ⟨ha0, ha1⟩ := cells2 hka
          clear hka hk14
          go_wp2
          clear ha0 ha1
          go_loopg [85] j (fun kx s85 ws => ∃ (n : Nat), s85 = .int .i64 n ∧ n ≤ j ∧ j - n ≤ kx ∧ Aside0 (Below w6.heap.size w6 ws) ∧ Aside0 (ws.heap[g14]? = some (.cells #[.int .i64 p.f0, .slice Ap p.f1.length cp] 41 (0, 0))) ∧ Aside0 (∀ a, (ha : a < n) → (hj : a < o.f0.length) → o.f0[a].f0 ≠ p.f0))
          case atStart => exact ⟨0, rfl, Nat.zero_le _, by omega, HBE, BK14, aM (fun a ha => absurd ha (Nat.not_lt_zero _))⟩
          case round =>
            obtain ⟨n, rfl, hnj, hnk, HBN, BKN, HDN⟩ := hrel
            by_cases hnt : n < j
            · have hnz : (n : Int) < (j : Int) := by omega
              have hn0 : (0 : Int) ≤ (n : Int) := by omega
              have hnl : n < o.f0.length := by have := HJT.out; omega
              obtain ⟨adx, Ax, cx, hAx, hx0, hx1, hxl, hxC⟩ := at_T41 (Kd.C_below HC6.out HBN.out) (n : Int) hn0 (by omega)
              obtain rfl : adp = adx := by injection hAx
              rw [rd_at o.f0 n hnl, Int.toNat_natCast] at hx0 hx1
              obtain ⟨x, hx⟩ : ∃ x, x = o.f0[n] := ⟨_, rfl⟩
              rw [← hx] at hx0 hx1
              have HX := aM hx
              obtain ⟨hb0, hb1⟩ := cells2 BKN.out
              have hb0' := fun o_ => ((below_alloc (Below.refl _ wr) o_).cell (World.block_lt_of_cell? _ _ hb0)).trans hb0
              have RN : Aside0 (IntKind.i64.wrap ((n : Int) + 1) = ((n + 1 : Nat) : Int)) := aM (by rw [IntKind.wrap_i64]; have := HOL.out; omega)
              have HNN := aM (And.intro (show j - (n + 1) < gk by omega) (show n + 1 ≤ j by omega))
              have HBN2 := aM (below_step HBN.out (below_alloc (Below.refl _ wr) (.cells #[.int .i64 x.f0, .slice Ax x.f1.length cx] 41)))
              have BKN2 := aM (blk_alloc BKN.out (.cells #[.int .i64 x.f0, .slice Ax x.f1.length cx] 41))
              clear hx hxl hxC hnk hnj hAx hb0 hb1
              by_cases hpx : p.f0 = x.f0
              · have hpb : (p.f0 == x.f0) = true := by simpa using hpx
                clear hpx
                go_wp2
                go_ret
                exact ⟨rfl, below_step HB6.out HBN2.out⟩
              · have hpb : (p.f0 == x.f0) = false := by simpa using hpx
                have HPX := aM hpx
                have rn := RN.out
                clear hpx
                go_wp2
                go_roundg (j - (n + 1))
                case measure => exact HNN.out.1
                case rel => exact ⟨n + 1, by first | rfl | (simp [rn]; done), HNN.out.2, Nat.le_refl _, HBN2, BKN2, aM (fun a ha hj => by
                  rcases Nat.lt_or_ge a n with h | h
                  · exact HDN.out a h hj
                  · obtain rfl : a = n := by omega
                    rw [← HX.out]; exact fun e => HPX.out e.symm)⟩
            · have hnz : ¬ ((n : Int) < (j : Int)) := by omega
              have HDJ2 : Aside0 (∀ a b, (hab : a < b) → (hb : b < o.f0.length) → b < j + 1 → (o.f0[a]'(by omega)).f0 ≠ o.f0[b].f0) := aM (fun a b hab hb hj => by
                rcases Nat.lt_or_ge b j with h | h
                · exact HDJ.out a b hab hb h
                · obtain rfl : b = j := by omega
                  rw [← HP.out]; exact HDN.out a (by omega) (by omega))
              have rj := RJ.out
              clear hnt hnj hnk
              go_wp2
              go_roundg (o.f0.length - (j + 1))
              case measure => exact HJ.out.1
              case rel => exact ⟨j + 1, by first | rfl | (simp [rj]; done), HJ.out.2, Nat.le_refl _, HBN, HDJ2⟩
        · have hjz : ¬ ((j : Int) < (o.f0.length : Int)) := by omega
          have hdis : Dis o.f0 := dis_all fun a b hab hb => HDJ.out a b hab hb (by omega)
          have HDIS := aM hdis
          clear hjt hjl hjk hdis HDJ
          have HBQ := aM (below_step HB6.out HBD.out)
          have HFQ := aM (HF6.out.below HBD.out)
          have BKQ := aM (blk_below BK6.out HBD.out)
          have HCQ := aM (Kd.C_below HC6.out HBD.out)
          clear HB6 HF6 BK6 HC6 HBD
          obtain ⟨ha0, ha1⟩ := cells2 BKQ.out
          go_upto_region 26 with (at_builtin; refine Kd.N_append_rows k41 (w0 := wr) wr.heap.size rfl (.const (.slice none 0 0)) (.tmp 98) 24 41 (.agg #[(.int .i64 0), (.slice none 0 0)]) 32 rfl Try.underlying24 info41 rfl (by decide) (by omega) (.slice none 0 0) ([] : List (S41)) o.f0 _ _ _ (fun _ => True) (fun k_ => k_ < wr.heap.size) rfl rfl (Kd.N_nil _ _ _ _ _) (Kd.C_F k41_heap HCQ.out) (fun k hk => ⟨trivial, by simp [Value.ownBlock]⟩) (fun _ _ => trivial) (Below.refl _ wr) (Nat.le_refl _) (by have := HOL.out; simp; omega) ?_; intro v17 w8 ho hb hg hat; have HT8 := aM ho; have HB8 := aM hb; clear ho hb hg hat)
          obtain ⟨wq, hwq⟩ : ∃ wq, wq = wr := ⟨_, rfl⟩
          subst hwq
          rw [List.nil_append] at HT8
          obtain ⟨A17, c17, ev⟩ := Kd.N_slice HT8.out
          subst ev
          clear ha0 ha1
          go_wp2
          go_loopg [102] lt.length (fun kx s102 ws => ∃ (m : Nat) (l' : List S41), s102 = .int .i64 m ∧ m ≤ lt.length ∧ lt.length - m ≤ kx ∧ Aside0 (Below wq.heap.size wq ws) ∧ Aside0 (Kd.N k41 41 ws wq.heap.size (fun _ => True) (.slice A17 o.f0.length c17) l') ∧ Aside0 (l'.Perm o.f0))
          case atStart => exact ⟨0, o.f0, rfl, Nat.zero_le _, by omega, HB8, HT8, aM (List.Perm.refl _)⟩
          case round =>
            clear HB8 HT8
            obtain ⟨m, l', rfl, hml, hmk, HBM, HNM, HPM⟩ := hrel
            by_cases hmt : m < lt.length
            · have hmz : (m : Int) < (lt.length : Int) := by omega
              have hm0 : (0 : Int) ≤ (m : Int) := by omega
              obtain ⟨adt, hAt, ht0⟩ := at_I (Kd.C_below HRT.out (below_step HBQ.out HBM.out)) m hmt
              subst hAt
              obtain ⟨t, htt⟩ : ∃ t, t = lt.getD m 0 := ⟨_, rfl⟩
              rw [← htt] at ht0
              have RM : Aside0 (IntKind.i64.wrap ((m : Int) + 1) = ((m + 1 : Nat) : Int)) := aM (by rw [IntKind.wrap_i64]; have := HLT.out; omega)
              have HMM := aM (And.intro (show lt.length - (m + 1) < gk by omega) (show m + 1 ≤ lt.length by omega))
              have hpl := HPM.out.length_eq
              clear htt hmk hml
              by_cases hn : 0 < o.f0.length
              rotate_left
              · have hnb : decide (0 < (o.f0.length : Int)) = false := decide_eq_false (by omega)
                have hnz : o.f0.length = 0 := by omega
                have rm := RM.out
                clear hn hpl
                go_wp2
                go_roundg (lt.length - (m + 1))
                case measure => exact HMM.out.1
                case rel => exact ⟨m + 1, l', by first | rfl | (simp [rm]; done), HMM.out.2, Nat.le_refl _, HBM, HNM, HPM⟩
              have hnb : decide (0 < (o.f0.length : Int)) = true := decide_eq_true (by omega)
              have hn2 : ((o.f0.length : Int) == 0) = false := beq_eq_false_iff_ne.2 (by omega)
              have hn3 : ((o.f0.length : Int) != 0) = true := bne_iff_ne.2 (by omega)
              have hol := HOL.out
              obtain ⟨b, hbm, hbl⟩ := mod_wrap t hn (by omega)
              obtain ⟨a, haa⟩ : ∃ a, a = m % o.f0.length := ⟨_, rfl⟩
              have ham : Int.tmod (m : Int) (o.f0.length : Int) = (a : Int) := by rw [haa]; exact mod_nat _ _
              have hal : a < o.f0.length := by rw [haa]; exact Nat.mod_lt _ hn
              have hal' : a < l'.length := by omega
              have hbl' : b < l'.length := by omega
              obtain ⟨g, cap, hv, hgb, hgl, _⟩ := Kd.N_form HNM.out (by omega)
              injection hv with hv1 hv2 hv3
              subst hv1
              clear hv2 hv3 haa
              have hsw1 := HNM.out
              obtain ⟨ca, hca, hfa, hcca, hfra⟩ := Kd.N_elem HNM.out z41 (a : Int) (by omega) (by omega)
              obtain ⟨cb, hcb, hfb, hccb, hfrb⟩ := Kd.N_elem HNM.out z41 (b : Int) (by omega) (by omega)
              rw [Int.toNat_natCast] at hfa hcca hfra hfb hccb hfrb
              have hga : l'.getD a z41 = l'[a]'hal' := by rw [List.getD_eq_getElem?_getD, List.getElem?_eq_getElem hal']; rfl
              have hgb2 : l'.getD b z41 = l'[b]'hbl' := by rw [List.getD_eq_getElem?_getD, List.getElem?_eq_getElem hbl']; rfl
              rw [hga] at hfa
              rw [hgb2] at hfb
              obtain ⟨Aa, sa, eca, _, _⟩ := k41_openF hfa
              obtain ⟨Ab, sb, ecb, _, _⟩ := k41_openF hfb
              subst eca
              subst ecb
              have hPM2 : Aside0 (((l'.set a (l'[b]'hbl')).set b (l'[a]'hal')).Perm o.f0) := aM ((swap_perm l' a b hal' hbl').trans HPM.out)
              have hswap := fun W' hW => swapN (W' := W') HNM.out a b hal' hbl' hfa hfb (fun k hk => ⟨trivial, hk.2⟩) hW
              have HSW := aM hswap
              have HGB := aM hgb
              have hi0 : wr.drew.cell? ⟨g, a * 2, none⟩ = some (.int .i64 (l'[a]'hal').f0) := hcca 0 _ rfl
              have hi1 : wr.drew.cell? ⟨g, a * 2 + 1, none⟩ = some (.slice Aa (l'[a]'hal').f1.length sa) := hcca 1 _ rfl
              have hj0 : wr.drew.cell? ⟨g, b * 2, none⟩ = some (.int .i64 (l'[b]'hbl').f0) := hccb 0 _ rfl
              have hj1 : wr.drew.cell? ⟨g, b * 2 + 1, none⟩ = some (.slice Ab (l'[b]'hbl').f1.length sb) := hccb 1 _ rfl
              have hi0w : wr.cell? ⟨g, a * 2, none⟩ = some (.int .i64 (l'[a]'hal').f0) := hi0
              have hi1w : wr.cell? ⟨g, a * 2 + 1, none⟩ = some (.slice Aa (l'[a]'hal').f1.length sa) := hi1
              have hj0w : wr.cell? ⟨g, b * 2, none⟩ = some (.int .i64 (l'[b]'hbl').f0) := hj0
              have hj1w : wr.cell? ⟨g, b * 2 + 1, none⟩ = some (.slice Ab (l'[b]'hbl').f1.length sb) := hj1
              have hfi0 : wr.drew.frozen? ⟨g, a * 2, none⟩ = false := hfra 0
              have hfi0w : wr.frozen? ⟨g, a * 2, none⟩ = false := hfi0
              have hfi1 : wr.drew.frozen? ⟨g, a * 2 + 1, none⟩ = false := hfra 1
              have hfi1w : wr.frozen? ⟨g, a * 2 + 1, none⟩ = false := hfi1
              have hfj0 : wr.drew.frozen? ⟨g, b * 2, none⟩ = false := hfrb 0
              have hfj0w : wr.frozen? ⟨g, b * 2, none⟩ = false := hfj0
              have hfj1 : wr.drew.frozen? ⟨g, b * 2 + 1, none⟩ = false := hfrb 1
              have hfj1w : wr.frozen? ⟨g, b * 2 + 1, none⟩ = false := hfj1
              have d0 : decide ((0 : Int) ≤ (a : Int)) = true := decide_eq_true (by omega)
              have d1 : decide ((a : Int) < (o.f0.length : Int)) = true := decide_eq_true (by omega)
              have d2 : decide ((0 : Int) ≤ (b : Int)) = true := decide_eq_true (by omega)
              have d3 : decide ((b : Int) < (o.f0.length : Int)) = true := decide_eq_true (by omega)
              obtain ⟨xa, hxa⟩ : ∃ x, x = (l'[a]'hal') := ⟨_, rfl⟩
              obtain ⟨xb, hxb⟩ : ∃ x, x = (l'[b]'hbl') := ⟨_, rfl⟩
              have HXE : Aside0 (a = b → xa = xb) := aM (fun e => by subst e; rw [hxa, hxb])
              rw [← hxa, ← hxb] at hPM2 HSW
              rw [← hxa] at hi0 hi1 hi0w hi1w
              rw [← hxb] at hj0 hj1 hj0w hj1w
              clear hca hcb hcca hccb hfra hfrb hga hgb2 hswap hsw1 hfa hfb hgb hgl hpl hol hxa hxb
              go_upto_region 32 with (fail)
              have rm := RM.out
              clear hnb hn2 hn3 ht0 hbm ham hn
              by_cases hab : a = b
              · subst hab
                obtain rfl : xa = xb := HXE.out rfl
                obtain ⟨e1, e2⟩ : Aa = Ab ∧ sa = sb := by
                  have hv := Option.some.inj (hi1w.symm.trans hj1w)
                  injection hv with e1 _ e2
                  exact ⟨e1, e2⟩
                subst e1
                subst e2
                clear hj0 hj1 hj0w hj1w hfj0 hfj1 hfj0w hfj1w d2 d3
                go_region
                have hsw := HSW.out _ rfl
                generalize ((((wr.setCell ⟨g, a * 2, none⟩ (.int .i64 xa.f0)).setCell ⟨g, a * 2 + 1, none⟩ (.slice Aa xa.f1.length sa)).setCell ⟨g, a * 2, none⟩ (.int .i64 xa.f0)).setCell ⟨g, a * 2 + 1, none⟩ (.slice Aa xa.f1.length sa)) = w30 at hsw ⊢
                have HN30 := aM (Kd.N_drew hsw.1)
                have HB30 := aM (below_drew1 (HBM.out.grown hsw.2 HBM.out.size (fun k hk => by injection hk with hk; subst hk; exact HGB.out)))
                generalize w30.drew = w31 at HN30 HB30 ⊢
                clear hsw
                go_wp2
                go_roundg (lt.length - (m + 1))
                case measure => exact HMM.out.1
                case rel => exact ⟨m + 1, _, by first | rfl | (simp [rm]; done), HMM.out.2, Nat.le_refl _, HB30, HN30, hPM2⟩
              · have q0 : ¬ (a * 2 = b * 2) := by omega
                have q1 : ¬ (a * 2 + 1 = b * 2) := by omega
                have q2 : ¬ (a * 2 = b * 2 + 1) := by omega
                have q3 : ¬ (a * 2 + 1 = b * 2 + 1) := by omega
                have q5 : ¬ (b * 2 = a * 2) := by omega
                have q6 : ¬ (b * 2 + 1 = a * 2) := by omega
                have q7 : ¬ (b * 2 = a * 2 + 1) := by omega
                have q8 : ¬ (b = a) := by omega
                go_region
                have hsw := HSW.out _ rfl
                generalize ((((wr.setCell ⟨g, a * 2, none⟩ (.int .i64 xb.f0)).setCell ⟨g, a * 2 + 1, none⟩ (.slice Ab xb.f1.length sb)).setCell ⟨g, b * 2, none⟩ (.int .i64 xa.f0)).setCell ⟨g, b * 2 + 1, none⟩ (.slice Aa xa.f1.length sa)) = w30 at hsw ⊢
                have HN30 := aM (Kd.N_drew hsw.1)
                have HB30 := aM (below_drew1 (HBM.out.grown hsw.2 HBM.out.size (fun k hk => by injection hk with hk; subst hk; exact HGB.out)))
                generalize w30.drew = w31 at HN30 HB30 ⊢
                clear hsw
                go_wp2
                go_roundg (lt.length - (m + 1))
                case measure => exact HMM.out.1
                case rel => exact ⟨m + 1, _, by first | rfl | (simp [rm]; done), HMM.out.2, Nat.le_refl _, HB30, HN30, hPM2⟩
            · have hmz : ¬ ((m : Int) < (lt.length : Int)) := by omega
              have HFZ := aM (HFQ.out.below HBM.out)
              have BKZ := aM (blk_below BKQ.out HBM.out)
              have HCZ := aM (Kd.C_below HCQ.out HBM.out)
              have HBZ := aM (below_step HBQ.out HBM.out)
              have hrow := (Kd.N_reads' HNM.out)
              have hpl := HPM.out.length_eq
              clear hmt hml hmk HFQ BKQ HCQ HBQ
              have HCT := aM hrow.2.2
              have HLT17 := aM (show l'.length ≤ c17 by rw [hpl]; exact hrow.2.1)
              have HPLQ := aM hpl
              obtain ⟨hf0, hf1, hf2, hf3, hf4⟩ := cells5 HFZ.out.b8
              obtain ⟨ha0, ha1⟩ := cells2 BKZ.out
              clear hrow
              rcases put_both HOK.out.1 (by have := HOL.out; omega) HDIS.out HPM.out with ⟨_, hpa, hpb, _⟩ | ⟨q1, q2, p1, p2, hpa, hpb, hgood, hl1, hl2⟩
              · have HPA := aM hpa
                have HPB := aM hpb
                clear hpa hpb hpl
                go_wp2_with (fail)
                go_at_call 11
                refine (jitter_Put.calls 10000 on nx dp dr A c q Ao co o.f0 false 0 0 0 [] [] 1 _ (Kd.V_reads' HFZ.out.r8).2.2 (Kd.V_reads' HFZ.out.r8).2.1 HCZ.out HCO.out HPA.out).mono ?_
                rintro e w9 ⟨v4, v5, rfl, h4, h5, hb⟩
                obtain ⟨A4, c4, ev⟩ := Kd.R_slice (Kd.S_R h4)
                subst ev
                obtain ⟨A5, c5, ev⟩ := Kd.R_slice h5
                subst ev
                have HB9 := aM (below_step HBZ.out hb)
                have HF9 := aM (HFZ.out.below hb)
                have HC9 := aM (Kd.C_below HCT.out hb)
                clear hb h4 h5 hf0 hf1 hf2 hf3 hf4 ha0 ha1
                have hf := fun o_ => cells5 (blk_alloc HF9.out.b10 o_)
                have hf0 := fun o_ => (hf o_).1
                have hf1 := fun o_ => (hf o_).2.1
                have hf2 := fun o_ => (hf o_).2.2.1
                have hf3 := fun o_ => (hf o_).2.2.2.1
                have hf4 := fun o_ => (hf o_).2.2.2.2
                clear hf
                go_wp2_with (fail)
                go_at_call 11
                have hcall := fun o_ => jitter_Put.calls 10000 on nx dp dr A' c' q A17 c17 l' false 0 0 0 [] [] 1 (w9.alloc o_) (Kd.C_below (Kd.V_reads' HF9.out.r10).2.2 (below_alloc (Below.refl _ w9) o_)) (Kd.V_reads' HF9.out.r10).2.1 (Kd.C_below HC9.out (below_alloc (Below.refl _ w9) o_)) HLT17.out HPB.out
                rw [HPLQ.out] at hcall
                refine (hcall _).mono ?_
                rintro e w10 ⟨v4, v5, rfl, h4, h5, hb⟩
                obtain ⟨A6, c6, ev⟩ := Kd.R_slice (Kd.S_R h4)
                subst ev
                obtain ⟨A7, c7, ev⟩ := Kd.R_slice h5
                subst ev
                have HB10 := aM (below_alloc (below_step (below_alloc HB9.out _) hb) (.cells #[.bool false, .int .i64 0, .int .i64 0, .int .i64 0, .slice A6 0 c6] 26))
                clear hb h4 h5 hf0 hf1 hf2 hf3 hf4 hcall
                go_wp2
                go_ret
                exact ⟨rfl, HB10.out⟩
              · have HPA := aM hpa
                have HPB := aM hpb
                have HGOOD := aM hgood
                have HL1 := aM hl1
                have HL2 := aM hl2
                clear hpa hpb hpl hgood hl1 hl2
                go_wp2_with (fail)
                go_at_call 11
                refine (jitter_Put.calls 10000 on nx dp dr A c q Ao co o.f0 on nx dp dr q1 p1 0 _ (Kd.V_reads' HFZ.out.r8).2.2 (Kd.V_reads' HFZ.out.r8).2.1 HCZ.out HCO.out HPA.out).mono ?_
                rintro e w9 ⟨v4, v5, rfl, h4, h5, hb⟩
                have HV9 := aM (R_since2 (base := w.heap.size) (Kd.S_R h4) (blk_lt HFZ.out.b8) (blk_lt HFZ.out.b10))
                obtain ⟨A4, c4, ev⟩ := Kd.R_slice (Kd.S_R h4)
                subst ev
                obtain ⟨A5, c5, ev⟩ := Kd.R_slice h5
                subst ev
                have HO9 := aM (Kd.R_reads' h5).2
                have HB9 := aM (below_step HBZ.out hb)
                have HF9 := aM (HFZ.out.below hb)
                have HC9 := aM (Kd.C_below HCT.out hb)
                have BK9 := aM (blk_below BKZ.out hb)
                clear hb h4 h5 hf0 hf1 hf2 hf3 hf4 ha0 ha1
                go_upto_region 35 with (fail)
                have hb := below_alloc (Below.refl _ w9) (.cells #[.bool on, .int .i64 nx, .int .i64 dp, .int .i64 dr, .slice A4 q1.length c4] 26)
                have hk22 := heap_alloc_new w9 (.cells #[.bool on, .int .i64 nx, .int .i64 dp, .int .i64 dr, .slice A4 q1.length c4] 26)
                have hF := HF9.out.below hb
                have hV := Kd.V_below HV9.out hb
                have hO := Kd.C_below HO9.out.2 hb
                have hOc := HO9.out.1
                have hB := below_alloc HB9.out (.cells #[.bool on, .int .i64 nx, .int .i64 dp, .int .i64 dr, .slice A4 q1.length c4] 26)
                have hC := Kd.C_below HC9.out hb
                have hK := blk_below BK9.out hb
                clear HF9 HV9 HO9 HB9 HC9 BK9 hb
                generalize (w9.alloc (.cells #[.bool on, .int .i64 nx, .int .i64 dp, .int .i64 dr, .slice A4 q1.length c4] 26)) = wa at hk22 hF hV hO hB hC hK ⊢
                generalize w9.heap.size = g22 at hk22 ⊢
                have HF9 := aM hF
                have HV9 := aM hV
                have HO9 := aM hO
                have HOC9 := aM hOc
                have HB9 := aM hB
                have HC9 := aM hC
                have BK9 := aM hK
                have BX9 := aM hk22
                obtain ⟨hf0, hf1, hf2, hf3, hf4⟩ := cells5 hF.b10
                clear hF hV hO hOc hB hC hK hk22
                go_wp2_with (fail)
                go_at_call 11
                have hcall := jitter_Put.calls 10000 on nx dp dr A' c' q A17 c17 l' on nx dp dr q2 p2 0 wa (Kd.V_reads' HF9.out.r10).2.2 (Kd.V_reads' HF9.out.r10).2.1 HC9.out HLT17.out HPB.out
                rw [HPLQ.out] at hcall
                refine hcall.mono ?_
                rintro e wb ⟨v4, v5, rfl, h4, h5, hb⟩
                have HV10 := aM (R_since2 (base := w.heap.size) (Kd.S_R h4) (blk_lt HF9.out.b8) (blk_lt HF9.out.b10))
                obtain ⟨A6, c6, ev⟩ := Kd.R_slice (Kd.S_R h4)
                subst ev
                obtain ⟨A7, c7, ev⟩ := Kd.R_slice h5
                subst ev
                have HO10 := aM (Kd.R_reads' h5).2
                have HB10 := aM (below_step HB9.out hb)
                have HF10 := aM (HF9.out.below hb)
                have HW10 := aM (Kd.V_below HV9.out hb)
                have HP10 := aM (Kd.C_below HO9.out hb)
                have BK10 := aM (blk_below BK9.out hb)
                have BX10 := aM (blk_below BX9.out hb)
                clear hb h4 h5 hf0 hf1 hf2 hf3 hf4 hcall HF9 HV9 HO9 HB9 HC9 BK9 BX9
                go_upto_region 36 with (fail)
                have hb := below_alloc (Below.refl _ wb) (.cells #[.bool on, .int .i64 nx, .int .i64 dp, .int .i64 dr, .slice A6 q2.length c6] 26)
                have BY11 := aM (heap_alloc_new wb (.cells #[.bool on, .int .i64 nx, .int .i64 dp, .int .i64 dr, .slice A6 q2.length c6] 26))
                have hg25 := Nat.ne_of_gt (blk_lt HF10.out.b8)
                have HB11 := aM (below_step HB10.out hb)
                have HF11 := aM (HF10.out.below hb)
                have HV11 := aM (Kd.V_below HW10.out hb)
                have HW11 := aM (Kd.V_below HV10.out hb)
                have HO11 := aM (Kd.C_below HP10.out hb)
                have HP11 := aM (Kd.C_below HO10.out.2 hb)
                have HPC11 := aM HO10.out.1
                have BK11 := aM (blk_below BK10.out hb)
                have BX11 := aM (blk_below BX10.out hb)
                clear hb HB10 HF10 HV10 HW10 HO10 HP10 BK10 BX10
                generalize (wb.alloc (.cells #[.bool on, .int .i64 nx, .int .i64 dp, .int .i64 dr, .slice A6 q2.length c6] 26)) = wc at BY11 HB11 HF11 HV11 HW11 HO11 HP11 BK11 BX11 ⊢
                generalize wb.heap.size = g25 at BY11 hg25 ⊢
                have HG25 := aM hg25
                clear hg25
                by_cases m1 : (3 : Int) ∈ p1
                · have HH := aM (show squelchlaw13_has.f (p1.length + 1) p1 3 = some true by rw [has_f 3 p1 (by have := HL1.out; omega) (p1.length + 1) (by omega), decide_eq_true m1])
                  clear m1
                  go_wp2_with (go_at_call 17; refine (squelchlaw13_has.calls (p1.length + 1) A5 c5 p1 3 true _ HO11.out HOC9.out HH.out).mono ?_; rintro e wd ⟨rfl, hb⟩; replace hb := hb.below; have HB12 := aM (below_step HB11.out hb); clear hb)
                  go_ret
                  exact ⟨rfl, HB12.out⟩
                have HH1 := aM (show squelchlaw13_has.f (p1.length + 1) p1 3 = some false by rw [has_f 3 p1 (by have := HL1.out; omega) (p1.length + 1) (by omega), decide_eq_false m1])
                by_cases m2 : (3 : Int) ∈ p2
                · have HH := aM (show squelchlaw13_has.f (p2.length + 1) p2 3 = some true by rw [has_f 3 p2 (by have := HL2.out; omega) (p2.length + 1) (by omega), decide_eq_true m2])
                  clear m1 m2
                  go_wp2_with (fail)
                  go_at_call 17
                  refine (squelchlaw13_has.calls (p1.length + 1) A5 c5 p1 3 false _ HO11.out HOC9.out HH1.out).mono ?_
                  rintro e wd ⟨rfl, hb⟩
                  replace hb := hb.below
                  have HB12 := aM (below_step HB11.out hb)
                  have HP12 := aM (Kd.C_below HP11.out hb)
                  clear hb
                  go_wp2_with (go_at_call 17; refine (squelchlaw13_has.calls (p2.length + 1) A7 c7 p2 3 true _ HP12.out HPC11.out HH.out).mono ?_; rintro e we ⟨rfl, hb⟩; replace hb := hb.below; have HB13 := aM (below_step HB12.out hb); clear hb)
                  go_ret
                  exact ⟨rfl, HB13.out⟩
                have HH2 := aM (show squelchlaw13_has.f (p2.length + 1) p2 3 = some false by rw [has_f 3 p2 (by have := HL2.out; omega) (p2.length + 1) (by omega), decide_eq_false m2])
                obtain ⟨eq21, hok1⟩ := HGOOD.out m1 m2
                subst eq21
                have HOK1 := aM (And.intro hok1 HOK.out.2)
                clear m1 m2 hok1 HGOOD HOK HPA HPB
                go_wp2_with (fail)
                go_at_call 17
                refine (squelchlaw13_has.calls (p1.length + 1) A5 c5 p1 3 false _ HO11.out HOC9.out HH1.out).mono ?_
                rintro e wd ⟨rfl, hb⟩
                replace hb := hb.below
                have HB12 := aM (below_step HB11.out hb)
                have HF12 := aM (HF11.out.below hb)
                have HV12 := aM (Kd.V_below HV11.out hb)
                have HW12 := aM (Kd.V_below HW11.out hb)
                have HP12 := aM (Kd.C_below HP11.out hb)
                have BK12 := aM (blk_below BK11.out hb)
                have BX12 := aM (blk_below BX11.out hb)
                have BY12 := aM (blk_below BY11.out hb)
                clear hb HB11 HF11 HV11 HW11 HO11 HP11 BK11 BX11 BY11
                go_wp2_with (fail)
                go_at_call 17
                refine (squelchlaw13_has.calls (p2.length + 1) A7 c7 p2 3 false _ HP12.out HPC11.out HH2.out).mono ?_
                rintro e we ⟨rfl, hb⟩
                replace hb := hb.below
                have HB13 := aM (below_step HB12.out hb)
                have HF13 := aM (HF12.out.below hb)
                have HV13 := aM (Kd.V_below HV12.out hb)
                have HW13 := aM (Kd.V_below HW12.out hb)
                have BK13 := aM (blk_below BK12.out hb)
                have BX13 := aM (blk_below BX12.out hb)
                have BY13 := aM (blk_below BY12.out hb)
                clear hb HB12 HF12 HV12 HW12 HP12 BK12 BX12 BY12
                have hne8 : g12 ≠ g8 := by intro e; have q1 := BK13.out; rw [e, HF13.out.b8] at q1; injection q1 with q1; injection q1 with q1 q2; cases q2
                have hne10 : g12 ≠ g10 := by intro e; have q1 := BK13.out; rw [e, HF13.out.b10] at q1; injection q1 with q1; injection q1 with q1 q2; cases q2
                obtain ⟨hx0, hx1, hx2, hx3, hx4⟩ := cells5 BX13.out
                obtain ⟨hy0, hy1, hy2, hy3, hy4⟩ := cells5 BY13.out
                obtain ⟨hf0, hf1, hf2, hf3, hf4⟩ := cells5 HF13.out.b8
                obtain ⟨hz0, hz1, hz2, hz3, hz4⟩ := froz5 HF13.out.b8
                obtain ⟨he0, he1, he2, he3, he4⟩ := cells5 HF13.out.b10
                obtain ⟨hw0, hw1, hw2, hw3, hw4⟩ := froz5 HF13.out.b10
                have hq : ¬ (g10 = g8) := HF13.out.ne.symm
                have hq' : ¬ (g8 = g10) := HF13.out.ne
                have hq25 : ¬ (g25 = g8) := HG25.out
                go_upto_region 42 with (fail)
                have hF14 := FJ2.put1 (on' := on) (nx' := nx) (dp' := dp) (dr' := dr) HF13.out HV13.out HW13.out
                have hB14 := bS5 (u0 := .bool on) (u1 := .int .i64 nx) (u2 := .int .i64 dp) (u3 := .int .i64 dr) (u4 := .slice A6 q2.length c6) (bS5 (u0 := .bool on) (u1 := .int .i64 nx) (u2 := .int .i64 dp) (u3 := .int .i64 dr) (u4 := .slice A4 q2.length c4) HB13.out HF13.out.h8) HF13.out.h10
                have hK14 : ((((((((((we.setCell ⟨g8, 0, none⟩ (.bool on)).setCell ⟨g8, 1, none⟩ (.int .i64 nx)).setCell ⟨g8, 2, none⟩ (.int .i64 dp)).setCell ⟨g8, 3, none⟩ (.int .i64 dr)).setCell ⟨g8, 4, none⟩ (.slice A4 q2.length c4)).setCell ⟨g10, 0, none⟩ (.bool on)).setCell ⟨g10, 1, none⟩ (.int .i64 nx)).setCell ⟨g10, 2, none⟩ (.int .i64 dp)).setCell ⟨g10, 3, none⟩ (.int .i64 dr)).setCell ⟨g10, 4, none⟩ (.slice A6 q2.length c6)).heap[g12]? = some (.cells #[.slice Ao o.f0.length co, .int .i64 o.f1] 31 (0, 0)) := blk_far5 (blk_far5 BK13.out hne8) hne10
                generalize (((((((((we.setCell ⟨g8, 0, none⟩ (.bool on)).setCell ⟨g8, 1, none⟩ (.int .i64 nx)).setCell ⟨g8, 2, none⟩ (.int .i64 dp)).setCell ⟨g8, 3, none⟩ (.int .i64 dr)).setCell ⟨g8, 4, none⟩ (.slice A4 q2.length c4)).setCell ⟨g10, 0, none⟩ (.bool on)).setCell ⟨g10, 1, none⟩ (.int .i64 nx)).setCell ⟨g10, 2, none⟩ (.int .i64 dp)).setCell ⟨g10, 3, none⟩ (.int .i64 dr)).setCell ⟨g10, 4, none⟩ (.slice A6 q2.length c6) = wf at hF14 hB14 hK14 ⊢
                have HF14 := aM hF14
                have HB14 := aM hB14
                obtain ⟨m, hm⟩ : ∃ m : Nat, (m : Int) = Int.tmod (wrap64 (Int.tmod o.f1 20 + 20)) 20 := ⟨(Int.tmod (wrap64 (Int.tmod o.f1 20 + 20)) 20).toNat, by have := tmod_pos (a := o.f1) (m := 20) (by decide) (by decide); omega⟩
                have hm20 : m < 20 := by have := tmod_pos (a := o.f1) (m := 20) (by decide) (by decide); omega
                have HM20 := aM hm20
                have hmm := hm.symm
                clear hx0 hx1 hx2 hx3 hx4 hy0 hy1 hy2 hy3 hy4 hf0 hf1 hf2 hf3 hf4 hz0 hz1 hz2 hz3 hz4 he0 he1 he2 he3 he4 hw0 hw1 hw2 hw3 hw4 hq hq' hq25 hne8 hne10 hm hm20 HF13 HV13 HW13 HB13 BK13 BX13 BY13 HG25 HH1 HH2 HOC9 HPC11
                obtain ⟨ha0, ha1⟩ := cells2 hK14
                clear hF14 hB14 hK14
                go_wp2
                clear ha0 ha1 hmm
                go_loopg [175] m (fun kx s175 ws => ∃ (j : Nat) (on : Bool) (nx dr : Int) (q : List S41) (v v' : Value), s175 = .int .i64 j ∧ j ≤ m ∧ m - j ≤ kx ∧ Aside0 (Below w.heap.size w ws) ∧ Aside0 (FJ2 ws g8 g10 w.heap.size on nx dp dr q v v') ∧ Aside0 (OK on nx dp dr q ∧ nx ≤ 1099511627777 + 20 * (i : Int) + (j : Int)))
                case atStart => exact ⟨0, on, nx, dr, q2, _, _, rfl, Nat.zero_le _, by omega, HB14, HF14, aM ⟨HOK1.out.1, by have := HOK1.out.2; omega⟩⟩
                case round =>
                  clear HB14 HF14 HOK1
                  obtain ⟨j, on, nx, dr, q, v, v', rfl, hjl, hjk, HBS, HFS, HOS⟩ := hrel
                  obtain ⟨A, c, ev⟩ := Kd.V_slice HFS.out.r8
                  subst ev
                  obtain ⟨A', c', ev⟩ := Kd.V_slice HFS.out.r10
                  subst ev
                  by_cases hjt : j < m
                  rotate_left
                  · have hjz : ¬ ((j : Int) < (m : Int)) := by omega
                    have hnx : nx ≤ 1099511627777 + 20 * ((i + 1 : Nat) : Int) := by have := HOS.out.2; have := HM20.out; push_cast; omega
                    have HNX := aM hnx
                    have ri := RI.out
                    obtain ⟨hf0, hf1, hf2, hf3, hf4⟩ := cells5 HFS.out.b8
                    obtain ⟨he0, he1, he2, he3, he4⟩ := cells5 HFS.out.b10
                    clear hjt hjl hjk hnx
                    go_wp2_with (go_at_call 18; refine (same_calls on nx dp dr q A c A' c' _ (Kd.V_reads' HFS.out.r8).2.2 (Kd.V_reads' HFS.out.r8).2.1 (Kd.V_reads' HFS.out.r10).2.2 (Kd.V_reads' HFS.out.r10).2.1 HOS.out.1).mono ?_; rintro e wg ⟨rfl, hb⟩; have HBG := aM (below_step HBS.out hb); have HFG := aM (HFS.out.below hb); clear hb hf0 hf1 hf2 hf3 hf4 he0 he1 he2 he3 he4)
                    go_roundg (l0.length - (i + 1))
                    case measure => exact H56.out.1
                    case rel => exact ⟨i + 1, on, nx, dr, q, _, _, by first | rfl | (simp [ri]; done), H56.out.2, Nat.le_refl _, HBG, HFG, aM ⟨HOS.out.1, HNX.out⟩⟩
                  have hjz : (j : Int) < (m : Int) := by omega
                  have hnb : nx ≤ 2199023255551 := by have := HOS.out.2; have := HI20.out; have := HM20.out; omega
                  obtain ⟨on', nx', dr', q', cc, b, hpull, hpd⟩ := pull_any HOS.out.1 hnb
                  have HPL := aM hpull
                  have HPD := aM hpd.ok
                  have RJ : Aside0 (IntKind.i64.wrap ((j : Int) + 1) = ((j + 1 : Nat) : Int)) := aM (by rw [IntKind.wrap_i64]; have := HM20.out; omega)
                  have HJ := aM (And.intro (show m - (j + 1) < gk by omega) (show j + 1 ≤ m by omega))
                  have HNJ : Aside0 (nx' ≤ 1099511627777 + 20 * (i : Int) + ((j + 1 : Nat) : Int)) := aM (by
                    have h1 := HOS.out.2
                    rcases hpd.way with ⟨_, _, _, _, e, _⟩ | ⟨_, hq, _, e, _⟩ | ⟨_, _, _, e, _⟩ | ⟨_, e, e2, _⟩
                    · push_cast; omega
                    · have := (gd_iff _).1 (HOS.out.1.gds _ (inc_head HOS.out.1.inc hq).1)
                      push_cast; omega
                    · push_cast; omega
                    · have := hpd.ok.off
                      have y := hpd.ok.y1
                      rcases this with h3 | h3
                      · rw [e] at h3; cases h3
                      · push_cast; omega)
                  obtain ⟨hf0, hf1, hf2, hf3, hf4⟩ := cells5 HFS.out.b8
                  clear hjk hjl hnb hpull hpd hjt
                  go_upto_region 45 with (go_at_call 12; refine (jitter_Pull.calls 10000 on nx dp dr A c q on' nx' dp dr' q' cc b 0 _ (Kd.V_reads' HFS.out.r8).2.2 (Kd.V_reads' HFS.out.r8).2.1 HPL.out).mono ?_; rintro e w10 ⟨v4, v6, rfl, h4, h6, hb⟩; have HV10 := aM (V_since2 (base := w.heap.size) h4 (blk_lt HFS.out.b8) (blk_lt HFS.out.b10) (fun k hk => hk.1)); obtain ⟨A4', c4', ev4⟩ := Kd.V_slice h4; subst ev4; obtain ⟨Ab, cb, ev6⟩ := Kd.R_slice h6; subst ev6; have HS10 := aM (Kd.R_reads' h6).2.2; have HB10 := aM (below_step HBS.out hb); have HF10 := aM (HFS.out.below hb); clear h4 h6 hb hf0 hf1 hf2 hf3 hf4)
                  have hb := below_alloc (Below.refl _ w10) (.cells #[.bool on', .int .i64 nx', .int .i64 dp, .int .i64 dr', .slice A4' q'.length c4'] 26)
                  have BX11 := aM (heap_alloc_new w10 (.cells #[.bool on', .int .i64 nx', .int .i64 dp, .int .i64 dr', .slice A4' q'.length c4'] 26))
                  have HF11 := aM (HF10.out.below hb)
                  have HV11 := aM (Kd.V_below HV10.out hb)
                  have HS11 := aM (Kd.C_below HS10.out hb)
                  have HB11 := aM (below_step HB10.out hb)
                  clear hb HF10 HV10 HS10 HB10 HFS HBS
                  generalize (w10.alloc (.cells #[.bool on', .int .i64 nx', .int .i64 dp, .int .i64 dr', .slice A4' q'.length c4'] 26)) = w11 at BX11 HF11 HV11 HS11 HB11 ⊢
                  generalize w10.heap.size = g28 at BX11 ⊢
                  obtain ⟨hf0, hf1, hf2, hf3, hf4⟩ := cells5 HF11.out.b10
                  go_upto_region 46 with (go_at_call 12; refine (jitter_Pull.calls 10000 on nx dp dr A' c' q on' nx' dp dr' q' cc b 0 _ (Kd.V_reads' HF11.out.r10).2.2 (Kd.V_reads' HF11.out.r10).2.1 HPL.out).mono ?_; rintro e w12 ⟨v4, v6, rfl, h4, h6, hb⟩; have HV12 := aM (V_since2 (base := w.heap.size) h4 (blk_lt HF11.out.b8) (blk_lt HF11.out.b10) (fun k hk => hk.1)); obtain ⟨A6', c6', ev4⟩ := Kd.V_slice h4; subst ev4; obtain ⟨Ae, ce, ev6⟩ := Kd.R_slice h6; subst ev6; have HT12 := aM (Kd.R_reads' h6).2.2; have HB12 := aM (below_step HB11.out hb); have HF12 := aM (HF11.out.below hb); have HW12 := aM (Kd.V_below HV11.out hb); have HS12 := aM (Kd.C_below HS11.out hb); have BX12 := aM (blk_below BX11.out hb); clear h4 h6 hb hf0 hf1 hf2 hf3 hf4)
                  have hb := below_alloc (Below.refl _ w12) (.cells #[.bool on', .int .i64 nx', .int .i64 dp, .int .i64 dr', .slice A6' q'.length c6'] 26)
                  have BY13 := aM (heap_alloc_new w12 (.cells #[.bool on', .int .i64 nx', .int .i64 dp, .int .i64 dr', .slice A6' q'.length c6'] 26))
                  have HG13 := aM (show ¬ (w12.heap.size = g8) from Nat.ne_of_gt (blk_lt HF12.out.b8))
                  have HF13 := aM (HF12.out.below hb)
                  have HV13 := aM (Kd.V_below HW12.out hb)
                  have HW13 := aM (Kd.V_below HV12.out hb)
                  have HS13 := aM (Kd.C_below HS12.out hb)
                  have HT13 := aM (Kd.C_below HT12.out hb)
                  have HB13 := aM (below_step HB12.out hb)
                  have BX13 := aM (blk_below BX12.out hb)
                  clear hb HF12 HV12 HW12 HS12 HT12 HB12 BX12 HF11 HV11 HS11 HB11 BX11
                  generalize (w12.alloc (.cells #[.bool on', .int .i64 nx', .int .i64 dp, .int .i64 dr', .slice A6' q'.length c6'] 26)) = w13 at BY13 HF13 HV13 HW13 HS13 HT13 HB13 BX13 ⊢
                  generalize w12.heap.size = g32 at BY13 HG13 ⊢
                  have hcv1 := Kd.C_string (P := Try.prog) (A := Ab) (c := cb) Try.underlying36 Try.underlying5 Try.underlying9 HS13.out
                  have hcv2 := Kd.C_string (P := Try.prog) (A := Ae) (c := ce) Try.underlying36 Try.underlying5 Try.underlying9 HT13.out
                  generalize strOfNums b = sb at hcv1 hcv2
                  have hs1 : (sb.toList != sb.toList) = false := by simp
                  have hs2 : (sb.toList == sb.toList) = true := by simp
                  have hcc : (cc != cc) = false := by simp
                  obtain ⟨hx0, hx1, hx2, hx3, hx4⟩ := cells5 BX13.out
                  obtain ⟨hy0, hy1, hy2, hy3, hy4⟩ := cells5 BY13.out
                  obtain ⟨hf0, hf1, hf2, hf3, hf4⟩ := cells5 HF13.out.b8
                  obtain ⟨hz0, hz1, hz2, hz3, hz4⟩ := froz5 HF13.out.b8
                  obtain ⟨he0, he1, he2, he3, he4⟩ := cells5 HF13.out.b10
                  obtain ⟨hw0, hw1, hw2, hw3, hw4⟩ := froz5 HF13.out.b10
                  have hq : ¬ (g10 = g8) := HF13.out.ne.symm
                  have hq' : ¬ (g8 = g10) := HF13.out.ne
                  have hq25 : ¬ (g32 = g8) := HG13.out
                  have rj := RJ.out
                  go_wp2
                  go_roundg (m - (j + 1))
                  case measure => exact HJ.out.1
                  case rel => exact ⟨j + 1, on', nx', dr', q', _, _, by first | rfl | (simp [rj]; done), HJ.out.2, Nat.le_refl _, aM (bS5 (bS5 HB13.out HF13.out.h8) HF13.out.h10), aM (FJ2.put1 HF13.out HV13.out HW13.out), aM ⟨HPD.out, HNJ.out⟩⟩
end Go.Proofs.Ytkjgibdbbklejaa.PA
