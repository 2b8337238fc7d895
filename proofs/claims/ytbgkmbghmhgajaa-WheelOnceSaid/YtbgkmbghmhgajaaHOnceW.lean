/- WheelOnce: the law's own walk, with its map of what is wanted; by hand. -/
import Derived.Test.YtbgkmbghmhgajaaWm
import Derived.Test.YtbgkmbghmhgajaaHBody
import Derived.Test.YtbgkmbghmhgajaaPAx10
namespace Go.Proofs.Ytbgkmbghmhgajaa.PA
open Go.RowKit Go.Proofs.YtbgkmbghmhgajaaW.PrintWords Go.Proofs.YtbgkmbghmhgajaaW.PrintLast Go.Proofs.YtbgkmbghmhgajaaW.PrintMore Go.Maps Go.Proofs.Ytbgkmbghmhgajaa.WT Go.Proofs.Ytbgkmbghmhgajaa.WU
set_option linter.unusedVariables false
set_option linter.unusedSimpArgs false
/-! ### What is done, as rows -/
structure S43 where
  f0 : Int
  f1 : Int
  f2 : Int
def z43 : S43 := ⟨(0 : Int), (0 : Int), (0 : Int)⟩
def k43 : Kd S43 := Kd.iso (Kd.pair (Kd.int .i64) (Kd.pair (Kd.int .i64) (Kd.int .i64))) (fun x : S43 => (x.f0, x.f1, x.f2))
theorem k43_open {w : World} {x : S43} {cs : List Value} (h : k43.K w x cs) : cs = [.int .i64 x.f0, .int .i64 x.f1, .int .i64 x.f2] := by
  obtain ⟨_, _, rfl, rfl, ⟨_, _, rfl, rfl, rfl⟩⟩ := h
  rfl
def rd_T43 (xs : List S43) (i : Int) : S43 := xs.getD i.toNat z43
theorem at_T43 {w : World} {A : Option Addr} {n : Nat} {xs : List S43} (h : Kd.C k43 w A n xs) (i : Int) (h0 : 0 ≤ i) (h1 : i < n) : ∃ ad , A = some ad ∧ w.cell? (ad.add (i.toNat * 3)) = some (.int .i64 (rd_T43 xs i).f0) ∧ w.cell? ⟨(ad.add (i.toNat * 3)).block, (ad.add (i.toNat * 3)).off + 1, none⟩ = some (.int .i64 (rd_T43 xs i).f1) ∧ w.cell? ⟨(ad.add (i.toNat * 3)).block, (ad.add (i.toNat * 3)).off + 2, none⟩ = some (.int .i64 (rd_T43 xs i).f2) := by
  obtain ⟨ad, cs, e, _, hK, hc0⟩ := ReadsRow.get_ h z43 i h0 h1
  have hc : ∀ j u, cs[j]? = some u → w.cell? (ad.add (i.toNat * 3 + j)) = some u := hc0
  obtain rfl := k43_open hK
  exact ⟨ad, e, hc 0 _ rfl, by rw [← add_field _ _ 1 (by omega)]; exact hc 1 _ rfl, by rw [← add_field _ _ 2 (by omega)]; exact hc 2 _ rfl⟩
theorem rdA (l : List S43) (j : Nat) (h : j < l.length) : rd_T43 l (j : Int) = l[j] := by
  unfold rd_T43
  rw [Int.toNat_natCast, List.getD_eq_getElem?_getD, List.getElem?_eq_getElem h]; rfl
def squelchlaw16_WheelOnce.f (k : Nat) (l : List S43) : Option Bool := some true
def squelchlaw16_WheelOnce.Pure : Prop := ∀ (l0 : List (S43)), (l0.length * 24 ≤ 140737488351232 ∧ l0.length ≤ 9223372036854775807 ∧ ∀ y0_ ∈ l0, ((Lit.int .i64 y0_.f0).wf = true ∧ (Lit.int .i64 y0_.f1).wf = true ∧ (Lit.int .i64 y0_.f2).wf = true)) → ∃ k, squelchlaw16_WheelOnce.f k l0 = some true
/-- A wheel in a block of its own, and the map of what is wanted. -/
structure FW (W : World) (P : Nat → Prop) (g4 gm base n : Nat) (a : Int) (l ml : List S33) (v : Value) : Prop where
  blk : W.heap[g4]? = some (.cells #[.int .i64 a, v] 24 (0, 0))
  row : Kd.V k33 33 W base P v l
  map : MapW W gm n ml
  np : ∀ k, P k → k ≠ gm ∧ k ≠ g4
  ne : g4 ≠ gm
  b4 : base ≤ g4
  bm : base ≤ gm
theorem FW.below {W W' : World} {P : Nat → Prop} {g4 gm base n : Nat} {a : Int} {l ml : List S33} {v : Value} (h : FW W P g4 gm base n a l ml v) (hb : Below W.heap.size W W') : FW W' P g4 gm base n a l ml v :=
  ⟨blk_below h.blk hb, Kd.V_below h.row hb, h.map.below hb, h.np, h.ne, h.b4, h.bm⟩
theorem V_grownO {α : Type} {d : Kd α} {e : Nat} {W W' : World} {base : Nat} {ok : Nat → Prop} {v : Value} {xs : List α} (h : Kd.V d e W base ok v xs) {row : Option Nat} (hg : W.grownBy W' row) (hok : ∀ k, ok k → some k ≠ row) : Kd.V d e W' base ok v xs := Kd.V_map h (fun _ hf => Kd.F_step hf (fun k hk hlt => hg.block k hlt (hok k hk)))
theorem FW.turned {W W' : World} {P : Nat → Prop} {g4 gm base n n' : Nat} {a : Int} {l ml ml' : List S33} {v : Value} (h : FW W P g4 gm base n a l ml v) (hg : W.grownBy W' (some gm)) (hm : MapW W' gm n' ml') : FW W' P g4 gm base n' a l ml' v :=
  ⟨blk_grown h.blk hg (by intro e; exact h.ne (Option.some.inj e)), V_grownO h.row hg (fun k hk e => (h.np k hk).1 (Option.some.inj e)), hm, h.np, h.ne, h.b4, h.bm⟩
/-- The new wheel beside it. -/
structure NW (W : World) (P : Nat → Prop) (g8 : Nat) (r1 : Int) (r2 : List S33) (v : Value) : Prop where
  blk : W.heap[g8]? = some (.cells #[.int .i64 r1, v] 24 (0, 0))
  row : Kd.V k33 33 W 0 P v r2
theorem NW.below {W W' : World} {P : Nat → Prop} {g8 : Nat} {r1 : Int} {r2 : List S33} {v : Value} (h : NW W P g8 r1 r2 v) (hb : Below W.heap.size W W') : NW W' P g8 r1 r2 v := ⟨blk_below h.blk hb, Kd.V_below h.row hb⟩
theorem NW.turned {W W' : World} {P : Nat → Prop} {g8 gm : Nat} {r1 : Int} {r2 : List S33} {v : Value} (h : NW W P g8 r1 r2 v) (hg : W.grownBy W' (some gm)) (hP : ∀ k, P k → k ≠ gm) (hne : g8 ≠ gm) : NW W' P g8 r1 r2 v :=
  ⟨blk_grown h.blk hg (by intro e; exact hne (Option.some.inj e)), V_grownO h.row hg (fun k hk e => hP k hk (Option.some.inj e))⟩
theorem FW.put {W : World} {P : Nat → Prop} {g4 gm base n g8 : Nat} {a r1 : Int} {l ml r2 : List S33} {v v1 : Value} (h : FW W P g4 gm base n a l ml v) (hx : NW W P g8 r1 r2 v1) : FW ((W.setCell ⟨g4, 0, none⟩ (.int .i64 r1)).setCell ⟨g4, 1, none⟩ v1) P g4 gm base n r1 r2 ml v1 :=
  ⟨blk_put2 h.blk, V_far2 (Kd.V_lower hx.row (Nat.zero_le _)) (fun k hk => (h.np k hk).2) _ _, (h.map.same (Below.heap_setCell W ⟨g4, 0, none⟩ (.int .i64 r1) gm (fun e => h.ne e.symm))).same (Below.heap_setCell _ ⟨g4, 1, none⟩ v1 gm (fun e => h.ne e.symm)), h.np, h.ne, h.b4, h.bm⟩
theorem FW.far {W : World} {P : Nat → Prop} {g4 gm base n g : Nat} {a : Int} {l ml : List S33} {v u0 u1 : Value} (h : FW W P g4 gm base n a l ml v) (h1 : g ≠ gm) (h2 : g ≠ g4) (hP : ∀ k, P k → k ≠ g) : FW ((W.setCell ⟨g, 0, none⟩ u0).setCell ⟨g, 1, none⟩ u1) P g4 gm base n a l ml v :=
  ⟨blk_far (blk_far h.blk (fun e => h2 e.symm) _) (fun e => h2 e.symm) _, V_far2 h.row hP _ _, (h.map.same (Below.heap_setCell W ⟨g, 0, none⟩ u0 gm (fun e => h1 e.symm))).same (Below.heap_setCell _ ⟨g, 1, none⟩ u1 gm (fun e => h1 e.symm)), h.np, h.ne, h.b4, h.bm⟩
theorem NW.far {W : World} {P : Nat → Prop} {g8 g : Nat} {r1 : Int} {r2 : List S33} {v u0 u1 : Value} (h : NW W P g8 r1 r2 v) (h2 : g ≠ g8) (hP : ∀ k, P k → k ≠ g) : NW ((W.setCell ⟨g, 0, none⟩ u0).setCell ⟨g, 1, none⟩ u1) P g8 r1 r2 v :=
  ⟨blk_far (blk_far h.blk (fun e => h2 e.symm) _) (fun e => h2 e.symm) _, V_far2 h.row hP _ _⟩
theorem wo_head {x : S33} {l : List S33} (h : (x :: l).Pairwise fun s t => s.f1 ≠ t.f1) : wo x.f1 (x :: l) = l := by
  rw [List.pairwise_cons] at h
  have e : wo x.f1 (x :: l) = wo x.f1 l := by unfold wo; rw [List.filter_cons, if_neg (by simp)]
  rw [e, wo_none]
  exact fun t ht q => h.1 t ht q.symm
/-- What was rung last, against what is to ring. -/
def Later (a la lk : Int) (l : List S33) : Prop := ∀ t ∈ l, la ≤ t.f0 ∧ (t.f0 = la → a < la → lk < t.f1)
theorem later_step {a : Int} {x : S33} {l : List S33} (hs : (x :: l).Pairwise Le) (hk : (x :: l).Pairwise fun s t => s.f1 ≠ t.f1) : Later a x.f0 x.f1 l := by
  rw [List.pairwise_cons] at hs hk
  intro t ht
  have h1 := hs.1 t ht
  have h2 := hk.1 t ht
  unfold Le at h1
  exact ⟨by omega, fun e _ => by omega⟩
theorem left_late {D : DataW Unit} {l : List S33} (h : Rel D l) {b : Int} (hb : ∀ t ∈ l, b < t.f0) {x c : Int} (hx : Maps.has D (.int .i64 x) = true) (hat : ∀ zd, D.atKey (.int .i64 x) zd = .lit (.int .i64 c)) : b < c := by
  rw [h.has] at hx
  obtain ⟨t, ht, e⟩ := List.any_eq_true.1 hx
  have e2 : t.f1 = x := by simpa using e
  have := h.at_ t ht
  rw [e2, hat] at this
  have e3 : c = t.f0 := by simpa using this
  rw [e3]
  exact hb t ht
set_option maxHeartbeats 16000000 in
set_option maxRecDepth 100000 in
theorem squelchlaw16_WheelOnce.calls (k : Nat) (A0 : Option Addr) (c0 : Nat) (l0 : List S43) (r : Bool) (w : World) (hr0 : Kd.C k43 w A0 l0.length l0) (hc0 : l0.length ≤ c0) (hwf : ∀ y ∈ l0, (Lit.int .i64 y.f0).wf = true ∧ (Lit.int .i64 y.f1).wf = true ∧ (Lit.int .i64 y.f2).wf = true) (h : squelchlaw16_WheelOnce.f k l0 = some r) (hr_ : r = true) :
    Calls Try.prog 5 #[.slice A0 l0.length c0] w fun e w' => e = .returned (.bool r) ∧ Below w.heap.size w w' := by
  subst hr_
  have hmm := @run_makeMap Try.prog
  obtain ⟨kl, hkl⟩ := live_ev.rounds
  have HL := aM hkl
  have HR0 := aM hr0
  have HC0 := aM hc0
  have HWF := aM hwf
  have HB := aM (Below.refl w.heap.size w)
  clear hr0 hc0 h hkl hwf
  by_cases hlen : (l0.length : Int) ≤ 100
  rotate_left
  · have hlb : decide (100 < (l0.length : Int)) = true := decide_eq_true (by omega)
    clear hlen
    go_enter Try.func5, Try.ntmps5
    go_wp2_with (go_at_call 7; refine (squelchlaw16_live.calls kl true _ HL.out).mono ?_; rintro e w1 ⟨rfl, hb⟩; have HB1 := aM (below_step HB.out hb); clear hb)
    go_ret
    exact ⟨rfl, HB1.out⟩
  have hlb : decide (100 < (l0.length : Int)) = false := decide_eq_false (by omega)
  have HLEN := aM hlen
  clear hlen
  go_enter Try.func5, Try.ntmps5
  go_wp2_with (go_at_call 7; refine (squelchlaw16_live.calls kl true _ HL.out).mono ?_; rintro e w1 ⟨rfl, hb⟩; have HB1 := aM (below_step HB.out hb); clear hb)
  have hfw : FW ((w1.alloc (.cells #[.int .i64 0, .slice none 0 0] 24)).alloc (.map #[] 0)) (fun k => k ≠ w1.heap.size + 1 ∧ k ≠ w1.heap.size) w1.heap.size (w1.heap.size + 1) w.heap.size 0 0 [] [] (.slice none 0 0) :=
    ⟨blk_alloc (heap_alloc_new w1 _) _, Kd.V_nil _ _ _ _ _, by
      have := MapW.made (w1.alloc (.cells #[.int .i64 0, .slice none 0 0] 24))
      rwa [World.size_alloc] at this, fun k hk => hk, by omega, HB1.out.size, Nat.le_succ_of_le HB1.out.size⟩
  have HFW := aM hfw
  have HB4 := aM (below_alloc (below_alloc HB1.out (.cells #[.int .i64 0, .slice none 0 0] 24)) (.map #[] 0))
  clear hfw
  generalize ((w1.alloc (.cells #[.int .i64 0, .slice none 0 0] 24)).alloc (.map #[] 0)) = w4 at HFW HB4 ⊢
  generalize w1.heap.size + 1 = gm at HFW ⊢
  generalize w1.heap.size = g4 at HFW ⊢
  clear HB1 HB HL
  go_loopg [30] l0.length (fun kx s30 wr => ∃ (i : Nat) (a : Int) (l : List S33) (v : Value), s30 = .int .i64 i ∧ i ≤ l0.length ∧ l0.length - i ≤ kx ∧ Aside0 (Below w.heap.size w wr) ∧ Aside0 (FW wr (fun k => k ≠ gm ∧ k ≠ g4) g4 gm w.heap.size i a l l v) ∧ Aside0 (Valid a l))
  case atStart => exact ⟨0, 0, [], _, rfl, Nat.zero_le _, by omega, HB4, HFW, aM ⟨Int.le_refl _, by decide, by decide, fun t ht => (by cases ht), List.Pairwise.nil, List.Pairwise.nil⟩⟩
  case round =>
    clear HB4 HFW
    obtain ⟨i, a, l, v, rfl, hil, hkx, HBR, HFR, HV⟩ := hrel
    obtain ⟨A, c, ev⟩ := Kd.V_slice HFR.out.row
    subst ev
    by_cases hlt : i < l0.length
    rotate_left
    · have hltz : ¬ ((i : Int) < (l0.length : Int)) := by omega
      clear hlt hil hkx
      go_wp2
      go_ret
      exact ⟨rfl, HBR.out⟩
    have hltz : (i : Int) < (l0.length : Int) := by omega
    have hiz : (0 : Int) ≤ (i : Int) := by omega
    have HCR := aM (Kd.C_below HR0.out HBR.out)
    obtain ⟨ad, hA, hc0, hc1, hc2⟩ := at_T43 HCR.out (i : Int) hiz hltz
    subst hA
    rw [rdA l0 i hlt, Int.toNat_natCast] at hc0 hc1 hc2
    have hwfo := HWF.out l0[i] (List.getElem_mem hlt)
    obtain ⟨o, ho⟩ : ∃ o, o = l0[i] := ⟨_, rfl⟩
    rw [← ho] at hc0 hc1 hc2 hwfo
    have HO1 := aM hwfo.2.1
    have HO2 := aM hwfo.2.2
    have RI : Aside0 (IntKind.i64.wrap ((i : Int) + 1) = ((i + 1 : Nat) : Int)) := aM (by rw [IntKind.wrap_i64]; have := HLEN.out; omega)
    have e5 : l0.length - (i + 1) < gk := by omega
    have e6 : i + 1 ≤ l0.length := by omega
    have H56 := aM (And.intro e5 e6)
    have hi100 : i < maxLen := by have := HLEN.out; unfold maxLen; omega
    have HI := aM hi100
    clear ho e5 e6 hkx hil hwfo hi100
    go_upto_region 11 with (fail)
    have hk7 : (wr.alloc (.cells #[.int .i64 o.f0, .int .i64 o.f1, .int .i64 o.f2] 43)).heap[wr.heap.size]? = some (.cells #[.int .i64 o.f0, .int .i64 o.f1, .int .i64 o.f2] 43 (0, 0)) := heap_alloc_new wr _
    have hF5 := HFR.out.below (below_alloc (Below.refl _ wr) (.cells #[.int .i64 o.f0, .int .i64 o.f1, .int .i64 o.f2] 43))
    have hB5 := below_alloc HBR.out (.cells #[.int .i64 o.f0, .int .i64 o.f1, .int .i64 o.f2] 43)
    generalize (wr.alloc (.cells #[.int .i64 o.f0, .int .i64 o.f1, .int .i64 o.f2] 43)) = w5 at hk7 hF5 hB5 ⊢
    generalize wr.heap.size = g7 at hk7 ⊢
    have BK5 := aM hk7
    have HF5 := aM hF5
    have HB5 := aM hB5
    obtain ⟨hf0, hf1⟩ := cells2 hF5.blk
    obtain ⟨ha0, ha1, ha2⟩ := cells3 hk7
    clear hk7 hF5 hB5 hc0 hc1 hc2 HCR HFR HBR
    go_upto_region 12 with (go_at_call 14; refine (body_calls a A c l o.f0 o.f1 o.f2 w5 w.heap.size _ HF5.out.row HV.out HO1.out HO2.out).mono ?_; rintro e w6 ⟨v1, v2, r1, r2, r3, n, r4, rfl, hbd, hv1, hv2, hb⟩; have HB6 := aM (below_step HB5.out hb); have HF6 := aM (HF5.out.below hb); have BK6 := aM (blk_below BK5.out hb); have HBD := aM hbd; have HV1 := aM hv1; have HV2 := aM hv2; have SZ56 := aM hb.size; obtain ⟨A1, c1, ev1⟩ := Kd.V_slice hv1; obtain ⟨A2, c2, ev2⟩ := Kd.V_slice hv2; subst ev1; subst ev2; clear hb hbd hv1 hv2 hf0 hf1 ha0 ha1 ha2)
    have hsz := SZ56.out
    have hg45 : g4 < w5.heap.size := blk_lt HF5.out.blk
    have hgm5 : gm < w5.heap.size := HF5.out.map.lt
    have hX7 : NW (w6.alloc (.cells #[.int .i64 r1, .slice A1 r2.length c1] 24)) (fun k => k ≠ gm ∧ k ≠ g4) w6.heap.size r1 r2 (.slice A1 r2.length c1) :=
      ⟨heap_alloc_new w6 _, Kd.V_alloc (Kd.V_lower (Kd.V_mono HV1.out (fun k hk => by rcases hk with hk | hk; exact hk; exact ⟨by omega, by omega⟩)) (Nat.zero_le _)) _⟩
    have hR7 : Kd.V k33 33 (w6.alloc (.cells #[.int .i64 r1, .slice A1 r2.length c1] 24)) 0 (fun k => k ≠ gm ∧ k ≠ g4) (.slice A2 r3.length c2) r3 := Kd.V_alloc (Kd.V_lower (Kd.V_mono HV2.out (fun k hk => ⟨by omega, by omega⟩)) (Nat.zero_le _)) _
    have hF7 := HF6.out.below (below_alloc (Below.refl _ w6) (.cells #[.int .i64 r1, .slice A1 r2.length c1] 24))
    have hB7 := below_alloc HB6.out (.cells #[.int .i64 r1, .slice A1 r2.length c1] 24)
    have hA7 := blk_alloc BK6.out (.cells #[.int .i64 r1, .slice A1 r2.length c1] 24)
    have hg8m : w6.heap.size ≠ gm := by omega
    generalize (w6.alloc (.cells #[.int .i64 r1, .slice A1 r2.length c1] 24)) = w7 at hX7 hR7 hF7 hB7 hA7 ⊢
    generalize w6.heap.size = g8 at hX7 hg8m ⊢
    have HX7 := aM hX7
    have HR7 := aM hR7
    have HF7 := aM hF7
    have HB7 := aM hB7
    have HA7 := aM hA7
    have HG8 := aM hg8m
    clear hX7 hR7 hF7 hB7 hA7 hg8m hsz hg45 hgm5 HF5 HB5 BK5 HF6 HB6 BK6 HV1 HV2 SZ56
    by_cases h4 : r4 = 0
    rotate_left
    · have h4b : (r4 != 0) = true := by simpa using h4
      have ri := RI.out
      clear h4
      go_wp2
      go_roundg (l0.length - (i + 1))
      case measure => exact H56.out.1
      case rel => exact ⟨i + 1, a, l, _, by first | rfl | (simp [ri]; done), H56.out.2, Nat.le_refl _, HB7, aM ⟨HF7.out.blk, HF7.out.row, HF7.out.map.mono (Nat.le_succ i), HF7.out.np, HF7.out.ne, HF7.out.b4, HF7.out.bm⟩, HV⟩
    have h4b : (r4 != 0) = false := by simpa using h4
    have hbd := HBD.out h4
    have HBQ := aM hbd
    have HVN := aM hbd.val
    clear h4 hbd HBD
    obtain ⟨ha0, ha1, ha2⟩ := cells3 HA7.out
    obtain ⟨hf0, hf1⟩ := cells2 HF7.out.blk
    by_cases d0 : o.f0 = 0
    · have d0b : (o.f0 == 0) = true := by simpa using d0
      obtain ⟨hr1, hset⟩ := HBQ.out.set d0
      subst hr1
      have hp1 := bnd64 HO1.out
      have hp2 := HV.out.a0
      have hp3 := HV.out.a1
      have hp4 := hset.after1
      have hp5 := hset.after2
      have hwv : IntKind.i64.wrap (r1 + o.f2) = r1 + o.f2 := by rw [IntKind.wrap_i64]; omega
      obtain ⟨w8, hrun, hm8, hg8⟩ := HF7.out.map.put HV.out.keys HVN.out.keys hset.others hset.mem hset.len HI.out HO1.out (wf64 (by omega) (by omega))
      have HF8 := aM (HF7.out.turned hg8 hm8)
      have HX8 := aM (HX7.out.turned hg8 (fun k hk => hk.1) HG8.out)
      have HB8 := aM (HB7.out.grown hg8 HB7.out.size (fun k hk => by injection hk with hk; subst hk; exact HF7.out.bm))
      have hw64 : wrap64 (r1 + o.f2) = r1 + o.f2 := w64' _ (by omega) (by omega)
      clear d0 hset hp1 hp2 hp3 hp4 hp5 hm8 hg8
      go_upto_region 35 with (fail)
      clear hf0 hf1 ha0 ha1 ha2 hrun
      have hkc := (refcheck_ok HVN.out).rounds
      obtain ⟨kc, hkc⟩ := hkc
      have HKC := aM hkc
      obtain ⟨hx0, hx1⟩ := cells2 HX8.out.blk
      clear hkc
      go_wp2_with (fail)
      go_at_call 8
      refine (squelchref16_Check.calls kc r1 A1 c1 r2 0 _ (Kd.V_reads' HX8.out.row).2.2 (Kd.V_reads' HX8.out.row).2.1 HKC.out).mono ?_
      rintro e wt ⟨rfl, hb⟩
      have HBT := aM (below_step HB8.out hb)
      have HFT := aM (HF8.out.below hb)
      have HXT := aM (HX8.out.below hb)
      clear hb hx0 hx1
      obtain ⟨hx0, hx1⟩ := cells2 HXT.out.blk
      obtain ⟨hf0, hf1⟩ := cells2 HFT.out.blk
      obtain ⟨hz0, hz1⟩ := froz2 HFT.out.blk
      have hlm := fun ty => MapW.len HFT.out.map ty
      have ri := RI.out
      go_wp2
      go_roundg (l0.length - (i + 1))
      case measure => exact H56.out.1
      case rel => exact ⟨i + 1, r1, r2, _, by first | rfl | (simp [ri]; done), H56.out.2, Nat.le_refl _, aM (below_set (below_set HBT.out HFT.out.b4) HFT.out.b4), aM (FW.put HFT.out HXT.out), HVN⟩
    have d0b : (o.f0 == 0) = false := by simpa using d0
    by_cases d1 : o.f0 = 1
    · have d1b : (o.f0 == 1) = true := by simpa using d1
      obtain ⟨hr1, hst⟩ := HBQ.out.stop d1
      subst hr1
      obtain ⟨w8, hrun, hm8, hg8⟩ := HF7.out.map.drop HV.out.keys HO1.out 0
      have hF8 := HF7.out.turned hg8 hm8
      obtain ⟨w9, hrun9, hm9, hg9⟩ := hF8.map.drop ((HV.out.keys).sublist List.filter_sublist) HO2.out 0
      rw [← hst] at hm9
      have HF9 := aM (FW.turned (n' := i + 1) hF8 hg9 (hm9.mono (Nat.le_succ i)))
      have HX9 := aM ((HX7.out.turned hg8 (fun k hk => hk.1) HG8.out).turned hg9 (fun k hk => hk.1) HG8.out)
      have hB8 := HB7.out.grown hg8 HB7.out.size (fun k hk => by injection hk with hk; subst hk; exact HF7.out.bm)
      have HB9 := aM (hB8.grown hg9 hB8.size (fun k hk => by injection hk with hk; subst hk; exact HF7.out.bm))
      have hA8 := blk_grown HA7.out hg8 (by intro e; have e2 := Option.some.inj e; have q := HF7.out.map; rw [← e2] at q; obtain ⟨D, ⟨es, ck, q1, q2⟩, q3⟩ := q; rw [HA7.out] at q1; injection q1 with q1; cases q1)
      obtain ⟨hb0, hb1, hb2⟩ := cells3 hA8
      clear d0 d1 hm8 hg8 hF8 hm9 hg9 hB8 hA8 hst
      go_upto_region 35 with (fail)
      clear hf0 hf1 ha0 ha1 ha2 hb0 hb1 hb2 hrun hrun9
      have hkc := (refcheck_ok HVN.out).rounds
      obtain ⟨kc, hkc⟩ := hkc
      have HKC := aM hkc
      obtain ⟨hx0, hx1⟩ := cells2 HX9.out.blk
      clear hkc
      go_wp2_with (fail)
      go_at_call 8
      refine (squelchref16_Check.calls kc r1 A1 c1 r2 0 _ (Kd.V_reads' HX9.out.row).2.2 (Kd.V_reads' HX9.out.row).2.1 HKC.out).mono ?_
      rintro e wt ⟨rfl, hb⟩
      have HBT := aM (below_step HB9.out hb)
      have HFT := aM (HF9.out.below hb)
      have HXT := aM (HX9.out.below hb)
      clear hb hx0 hx1
      obtain ⟨hx0, hx1⟩ := cells2 HXT.out.blk
      obtain ⟨hf0, hf1⟩ := cells2 HFT.out.blk
      obtain ⟨hz0, hz1⟩ := froz2 HFT.out.blk
      have hlm := fun ty => MapW.len HFT.out.map ty
      have ri := RI.out
      go_wp2
      go_roundg (l0.length - (i + 1))
      case measure => exact H56.out.1
      case rel => exact ⟨i + 1, r1, r2, _, by first | rfl | (simp [ri]; done), H56.out.2, Nat.le_refl _, aM (below_set (below_set HBT.out HFT.out.b4) HFT.out.b4), aM (FW.put HFT.out HXT.out), HVN⟩
    have d1b : (o.f0 == 1) = false := by simpa using d1
    by_cases d2 : o.f0 = 2
    rotate_left
    · have d2b : (o.f0 == 2) = false := by simpa using d2
      obtain ⟨hr1, hrl⟩ := HBQ.out.none d0 d1 d2
      subst hr1
      subst hrl
      have HF8 : Aside0 (FW w7 (fun k => k ≠ gm ∧ k ≠ g4) g4 gm w.heap.size (i + 1) r1 r2 r2 (.slice A r2.length c)) := aM ⟨HF7.out.blk, HF7.out.row, HF7.out.map.mono (Nat.le_succ i), HF7.out.np, HF7.out.ne, HF7.out.b4, HF7.out.bm⟩
      clear d0 d1 d2
      go_upto_region 35 with (fail)
      clear hf0 hf1 ha0 ha1 ha2
      have hkc := (refcheck_ok HVN.out).rounds
      obtain ⟨kc, hkc⟩ := hkc
      have HKC := aM hkc
      obtain ⟨hx0, hx1⟩ := cells2 HX7.out.blk
      clear hkc
      go_wp2_with (fail)
      go_at_call 8
      refine (squelchref16_Check.calls kc r1 A1 c1 r2 0 _ (Kd.V_reads' HX7.out.row).2.2 (Kd.V_reads' HX7.out.row).2.1 HKC.out).mono ?_
      rintro e wt ⟨rfl, hb⟩
      have HBT := aM (below_step HB7.out hb)
      have HFT := aM (HF8.out.below hb)
      have HXT := aM (HX7.out.below hb)
      clear hb hx0 hx1
      obtain ⟨hx0, hx1⟩ := cells2 HXT.out.blk
      obtain ⟨hf0, hf1⟩ := cells2 HFT.out.blk
      obtain ⟨hz0, hz1⟩ := froz2 HFT.out.blk
      have hlm := fun ty => MapW.len HFT.out.map ty
      have ri := RI.out
      go_wp2
      go_roundg (l0.length - (i + 1))
      case measure => exact H56.out.1
      case rel => exact ⟨i + 1, r1, r2, _, by first | rfl | (simp [ri]; done), H56.out.2, Nat.le_refl _, aM (below_set (below_set HBT.out HFT.out.b4) HFT.out.b4), aM (FW.put HFT.out HXT.out), HVN⟩
    have d2b : (o.f0 == 2) = true := by simpa using d2
    obtain ⟨hp0, hr1, hr2, hr3⟩ := HBQ.out.turn d2
    have happ : r3 ++ r2 = l := by rw [hr2, hr3]; exact List.takeWhile_append_dropWhile
    have hdue : ∀ t ∈ r3, t.f0 ≤ r1 := by
      intro t ht
      rw [hr3] at ht
      have := List.all_eq_true.1 (List.all_takeWhile (p := isDue (a + o.f1)) (l := l)) t ht
      rw [hr1]
      exact of_decide_eq_true this
    have HAP := aM happ
    have HDUE := aM hdue
    have HLAT : Aside0 (∀ t ∈ r2, r1 < t.f0) := aM (fun t ht => (HVN.out.each t ht).1)
    clear d0 d1 d2 hp0 hr1 hr2 hr3 happ hdue
    go_upto_region 21 with (fail)
    have hlt4 : g4 < w7.heap.size := blk_lt HF7.out.blk
    have hlt8 : g8 < w7.heap.size := blk_lt HX7.out.blk
    have hltm : gm < w7.heap.size := HF7.out.map.lt
    have hb := below_alloc (Below.refl _ w7) (.cells #[.int .i64 a, .int .i64 0] 33)
    have hk12 := heap_alloc_new w7 (.cells #[.int .i64 a, .int .i64 0] 33)
    have hF8 : FW (w7.alloc (.cells #[.int .i64 a, .int .i64 0] 33)) (fun k => (k ≠ gm ∧ k ≠ g4) ∧ k ≠ w7.heap.size) g4 gm w.heap.size i a l l (.slice A l.length c) :=
      ⟨blk_below HF7.out.blk hb, Kd.V_mono (Kd.V_old HF7.out.row hb) (fun k hk => ⟨hk.1, Nat.ne_of_lt hk.2⟩), HF7.out.map.below hb, fun k hk => hk.1, HF7.out.ne, HF7.out.b4, HF7.out.bm⟩
    have hX8 : NW (w7.alloc (.cells #[.int .i64 a, .int .i64 0] 33)) (fun k => (k ≠ gm ∧ k ≠ g4) ∧ k ≠ w7.heap.size) g8 r1 r2 (.slice A1 r2.length c1) :=
      ⟨blk_below HX7.out.blk hb, Kd.V_mono (Kd.V_old HX7.out.row hb) (fun k hk => ⟨hk.1, Nat.ne_of_lt hk.2⟩)⟩
    have hR8 : Kd.V k33 33 (w7.alloc (.cells #[.int .i64 a, .int .i64 0] 33)) 0 (fun k => (k ≠ gm ∧ k ≠ g4) ∧ k ≠ w7.heap.size) (.slice A2 r3.length c2) r3 := Kd.V_mono (Kd.V_old HR7.out hb) (fun k hk => ⟨hk.1, Nat.ne_of_lt hk.2⟩)
    have hB8 := below_alloc HB7.out (.cells #[.int .i64 a, .int .i64 0] 33)
    have hg12 : w7.heap.size ≠ gm ∧ w7.heap.size ≠ g4 ∧ w7.heap.size ≠ g8 ∧ w.heap.size ≤ w7.heap.size := ⟨by omega, by omega, by omega, HB7.out.size⟩
    generalize (w7.alloc (.cells #[.int .i64 a, .int .i64 0] 33)) = w8 at hk12 hF8 hX8 hR8 hB8 ⊢
    generalize w7.heap.size = g12 at hk12 hF8 hX8 hR8 hg12 ⊢
    have BK8 := aM hk12
    have HF8 := aM hF8
    have HX8 := aM hX8
    have HR8 := aM hR8
    have HB8 := aM hB8
    have HG12 := aM hg12
    have hrl : r3.length ≤ 9223372036854775807 := (Kd.V_reads' hR8).2.2.2.1
    have HRL := aM hrl
    have HAL : Aside0 (∀ t ∈ l, a < t.f0) := aM (fun t ht => (HV.out.each t ht).1)
    have HLT0 : Aside0 (Later a a 0 (l.drop 0)) := aM (fun t ht => ⟨Int.le_of_lt (HAL.out t (List.mem_of_mem_drop ht)), fun _ hh => absurd hh (Int.lt_irrefl _)⟩)
    clear hlt4 hlt8 hltm hb hk12 hF8 hX8 hR8 hB8 hg12 HF7 HX7 HR7 HB7 HA7 hf0 hf1 ha0 ha1 ha2 hrl
    go_wp2
    go_loopg [71] r3.length (fun kx s71 ws => ∃ (j : Nat) (la lk : Int), s71 = .int .i64 j ∧ j ≤ r3.length ∧ r3.length - j ≤ kx ∧ Aside0 (Below w.heap.size w ws) ∧ Aside0 (FW ws (fun k => (k ≠ gm ∧ k ≠ g4) ∧ k ≠ g12) g4 gm w.heap.size i a l (l.drop j) (.slice A l.length c)) ∧ Aside0 (NW ws (fun k => (k ≠ gm ∧ k ≠ g4) ∧ k ≠ g12) g8 r1 r2 (.slice A1 r2.length c1)) ∧ Aside0 (Kd.V k33 33 ws 0 (fun k => (k ≠ gm ∧ k ≠ g4) ∧ k ≠ g12) (.slice A2 r3.length c2) r3) ∧ Aside0 (ws.heap[g12]? = some (.cells #[.int .i64 la, .int .i64 lk] 33 (0, 0))) ∧ Aside0 (Later a la lk (l.drop j)))
    case atStart => exact ⟨0, a, 0, rfl, Nat.zero_le _, by omega, HB8, HF8, HX8, HR8, BK8, HLT0⟩
    case round =>
      clear HB8 HF8 HX8 HR8 BK8 HLT0
      obtain ⟨j, la, lk, rfl, hjl, hjk, HBS, HFS, HXS, HRS, BKS, HLS⟩ := hrel
      by_cases hjt : j < r3.length
      · have hjz : (j : Int) < (r3.length : Int) := by omega
        have hj0 : (0 : Int) ≤ (j : Int) := by omega
        obtain ⟨ad9, hA9, hc0, hc1⟩ := at_T33 (Kd.V_reads' HRS.out).2.2 (j : Int) hj0 hjz
        subst hA9
        have hjl2 : j < l.length := by rw [← HAP.out, List.length_append]; omega
        have hxl : l[j] = r3[j] := by
          have e := congrArg (fun q => q[j]?) HAP.out
          simp only [List.getElem?_append_left hjt, List.getElem?_eq_getElem hjt, List.getElem?_eq_getElem hjl2] at e
          exact (Option.some.inj e).symm
        have hdr := List.drop_eq_getElem_cons hjl2
        rw [WT.rdT r3 j hjt, Int.toNat_natCast] at hc0 hc1
        have hx1 := HAL.out l[j] (List.getElem_mem hjl2)
        have hx2 := HDUE.out r3[j] (List.getElem_mem hjt)
        have hx3 := (HV.out.each l[j] (List.getElem_mem hjl2)).2
        rw [hxl] at hx1 hx3 hdr
        obtain ⟨x, hx⟩ : ∃ x, x = r3[j] := ⟨_, rfl⟩
        rw [← hx] at hc0 hc1 hx1 hx2 hx3 hdr
        have hls := HLS.out x (by rw [hdr]; exact List.mem_cons_self ..)
        have hpk : (x :: l.drop (j + 1)).Pairwise fun s t => s.f1 ≠ t.f1 := by rw [← hdr]; exact HV.out.keys.sublist (List.drop_sublist _ _)
        have hps : (x :: l.drop (j + 1)).Pairwise Le := by rw [← hdr]; exact HV.out.sorted.sublist (List.drop_sublist _ _)
        have HLN := aM (later_step (a := a) hps hpk)
        have hwx : (Lit.int .i64 x.f1).wf = true := wf64 (by omega) (by omega)
        have RJ : Aside0 (IntKind.i64.wrap ((j : Int) + 1) = ((j + 1 : Nat) : Int)) := aM (by rw [IntKind.wrap_i64]; have := HRL.out; omega)
        have f5 : r3.length - (j + 1) < gk := by omega
        have f6 : j + 1 ≤ r3.length := by omega
        have HJ := aM (And.intro f5 f6)
        clear hx f5 f6 hjk hjl hps hxl hjl2
        go_upto_region 24 with (fail)
        have hb := below_alloc (Below.refl _ wr) (.cells #[.int .i64 x.f0, .int .i64 x.f1] 33)
        have hk14 := heap_alloc_new wr (.cells #[.int .i64 x.f0, .int .i64 x.f1] 33)
        have hFA := HFS.out.below hb
        have hXA := HXS.out.below hb
        have hRA := Kd.V_below HRS.out hb
        have hBKA := blk_below BKS.out hb
        have hBA := below_alloc HBS.out (.cells #[.int .i64 x.f0, .int .i64 x.f1] 33)
        have hg14 : wr.heap.size ≠ gm := Nat.ne_of_gt HFS.out.map.lt
        generalize (wr.alloc (.cells #[.int .i64 x.f0, .int .i64 x.f1] 33)) = wa at hk14 hFA hXA hRA hBKA hBA ⊢
        generalize wr.heap.size = g14 at hk14 hg14 ⊢
        clear hb hc0 hc1 HBS HFS HXS HRS BKS
        have hlook := hFA.map.look (x := x) (by rw [hdr]; exact List.mem_cons_self ..) hwx
        obtain ⟨w9, hrun, hm9, hg9⟩ := hFA.map.drop (by rw [hdr]; exact hpk) hwx 0
        rw [hdr, wo_head hpk] at hm9
        have HF9 := aM (hFA.turned hg9 hm9)
        have HX9 := aM (hXA.turned hg9 (fun k hk => hk.1.1) HG8.out)
        have HR9 := aM (V_grownO hRA hg9 (fun k hk e => hk.1.1 (Option.some.inj e)))
        have hbk9 := blk_grown hBKA hg9 (fun e => HG12.out.1 (Option.some.inj e))
        have hbk14 := blk_grown hk14 hg9 (fun e => hg14 (Option.some.inj e))
        have HBK9 := aM hbk9
        have HB9 := aM (hBA.grown hg9 hBA.size (fun k hk => by injection hk with hk; subst hk; exact HF9.out.bm))
        obtain ⟨hx0, hx1c⟩ := cells2 hXA.blk
        obtain ⟨hf0, hf1⟩ := cells2 hFA.blk
        obtain ⟨hl0, hl1⟩ := cells2 hBKA
        obtain ⟨ht0, ht1⟩ := cells2 hk14
        obtain ⟨hu0, hu1⟩ := cells2 hbk9
        obtain ⟨hz0, hz1⟩ := froz2 hbk9
        obtain ⟨hv0, hv1⟩ := cells2 hbk14
        have hn1 : (x.f0 != x.f0) = false := by simp
        have hn2 : decide (r1 < x.f0) = false := decide_eq_false (by omega)
        have hn3 : decide (x.f0 ≤ a) = false := decide_eq_false (by omega)
        have hn4 : decide (x.f0 < la) = false := decide_eq_false (by omega)
        clear hFA hXA hRA hBKA hBA hg9 hm9 hbk9 hbk14 hk14 hpk hdr hwx hx2 hx3
        by_cases hq : x.f0 = la
        · have hqb : (x.f0 == la) = true := by simpa using hq
          have hqk : decide (x.f1 ≤ lk) = false := decide_eq_false (by have := hls.2 hq (by omega); omega)
          clear hls hq hx1
          have rj := RJ.out
          go_wp2
          go_roundg (r3.length - (j + 1))
          case measure => exact HJ.out.1
          case rel => exact ⟨j + 1, x.f0, x.f1, by first | rfl | (simp [rj]; done), HJ.out.2, Nat.le_refl _, aM (below_set (below_set HB9.out HG12.out.2.2.2) HG12.out.2.2.2), aM (HF9.out.far HG12.out.1 HG12.out.2.1 (fun k hk => hk.2)), aM (HX9.out.far HG12.out.2.2.1 (fun k hk => hk.2)), aM (V_far2 HR9.out (fun k hk => hk.2) _ _), aM (blk_put2 HBK9.out), HLN⟩
        · have hqb : (x.f0 == la) = false := by simpa using hq
          clear hls hq hx1
          have rj := RJ.out
          go_wp2
          go_roundg (r3.length - (j + 1))
          case measure => exact HJ.out.1
          case rel => exact ⟨j + 1, x.f0, x.f1, by first | rfl | (simp [rj]; done), HJ.out.2, Nat.le_refl _, aM (below_set (below_set HB9.out HG12.out.2.2.2) HG12.out.2.2.2), aM (HF9.out.far HG12.out.1 HG12.out.2.1 (fun k hk => hk.2)), aM (HX9.out.far HG12.out.2.2.1 (fun k hk => hk.2)), aM (V_far2 HR9.out (fun k hk => hk.2) _ _), aM (blk_put2 HBK9.out), HLN⟩
      · have hjz : ¬ ((j : Int) < (r3.length : Int)) := by omega
        obtain rfl : j = r3.length := by omega
        obtain ⟨wq, hwq⟩ : ∃ wq, wq = wr := ⟨_, rfl⟩
        subst hwq
        have hd : l.drop r3.length = r2 := by rw [← HAP.out, List.drop_left]
        have hfs := HFS.out
        rw [hd] at hfs
        obtain ⟨D, hown, hrelD⟩ := hfs.map
        have HRD := aM hrelD
        have HFE := aM hfs
        have hxs : gm < wq.heap.size := hfs.map.lt
        clear hjt hjl hjk HFS HLS HRS BKS hd hfs hrelD
        go_wp2_with (at_range; refine wpList_range_own _ rfl _ 41 rfl 3 3 keyed3 Try.underlying41 _ gm i D rfl hown ?_; intro w0 hrg0 hg0 hs0)
        (try go_frame)
        go_loopw [18] (fun _ ws => ∃ (left : Lit → Bool) (cnt : Nat), ws.ranges Try.prog 3 (plainElem Try.prog 3) gm wq.heap.size i D left cnt ∧ Aside0 (wq.grownBy ws none) ∧ Aside0 (∀ z, left z = true → Maps.has D z = true)) (fun _ ws => ws.rangeLeft gm wq.heap.size)
        case atStart => exact ⟨_, _, hrg0, aM hg0, aM (fun z h => h)⟩
        case round =>
          obtain ⟨left, cnt, hrg, HGW, HLF⟩ := hrel
          have hbw := (Below.refl wq.heap.size wq).grown HGW.out (Nat.le_refl _) (fun k hk => by cases hk)
          have HXW := aM (HXS.out.below hbw)
          have HFW2 := aM (HFE.out.below hbw)
          have HBW := aM (below_step HBS.out hbw)
          clear hbw
          obtain ⟨hx0, hx1⟩ := cells2 HXW.out.blk
          go_wp2_with (first | (at_next; refine wpList_next_ranges_ii _ rfl _ rfl 3 3 .i64 .i64 keyed3 Try.underlying3 Try.underlying3 gm wq.heap.size i _ _ _ rfl hrg ?_ ?_) | go_in)
          · intro _ hl0
            clear hx0 hx1 hl0
            have HF10 : Aside0 (FW wr (fun k => k ≠ gm ∧ k ≠ g4) g4 gm w.heap.size (i + 1) a l r2 (.slice A l.length c)) := aM ⟨HFW2.out.blk, Kd.V_mono HFW2.out.row (fun k hk => hk.1), HFW2.out.map.mono (Nat.le_succ i), fun k hk => hk, HFW2.out.ne, HFW2.out.b4, HFW2.out.bm⟩
            have HX10 : Aside0 (NW wr (fun k => k ≠ gm ∧ k ≠ g4) g8 r1 r2 (.slice A1 r2.length c1)) := aM ⟨HXW.out.blk, Kd.V_mono HXW.out.row (fun k hk => hk.1)⟩
            go_upto_region 35 with (fail)
            have hkc := (refcheck_ok HVN.out).rounds
            obtain ⟨kc, hkc⟩ := hkc
            have HKC := aM hkc
            obtain ⟨hx0, hx1⟩ := cells2 HX10.out.blk
            clear hkc
            go_wp2_with (fail)
            go_at_call 8
            refine (squelchref16_Check.calls kc r1 A1 c1 r2 0 _ (Kd.V_reads' HX10.out.row).2.2 (Kd.V_reads' HX10.out.row).2.1 HKC.out).mono ?_
            rintro e wt ⟨rfl, hb⟩
            have HBT := aM (below_step HBW.out hb)
            have HFT := aM (HF10.out.below hb)
            have HXT := aM (HX10.out.below hb)
            clear hb hx0 hx1
            obtain ⟨hx0, hx1⟩ := cells2 HXT.out.blk
            obtain ⟨hf0, hf1⟩ := cells2 HFT.out.blk
            obtain ⟨hz0, hz1⟩ := froz2 HFT.out.blk
            have hlm := fun ty => MapW.len HFT.out.map ty
            have ri := RI.out
            go_wp2
            go_roundg (l0.length - (i + 1))
            case measure => exact H56.out.1
            case rel => exact ⟨i + 1, r1, r2, _, by first | rfl | (simp [ri]; done), H56.out.2, Nat.le_refl _, aM (below_set (below_set HBT.out HFT.out.b4) HFT.out.b4), aM (FW.put HFT.out HXT.out), HVN⟩
          · intro x c' w1' cnt1 hwx hwc hlx hat hrg1 hlt1 hg1 hs1 hen
            have hcl := left_late HRD.out HLAT.out (HLF.out _ hlx) hat
            have hcb : decide (c' ≤ r1) = false := decide_eq_false (by omega)
            have HG1 := aM (HGW.out.andThen hg1 (fun q hq => by cases hq; exact Or.inl (Nat.le_refl _)))
            have hx0' := (blk_cell (blk_grown HXW.out.blk hg1 (fun e => by have q := blk_lt HXS.out.blk; have e2 := Option.some.inj e; omega)) 0).trans rfl
            clear hx0 hx1 hcl
            go_wp2
            go_roundw
            case rel => exact ⟨_, cnt1, hrg1, HG1, aM (fun z hz => HLF.out z (by have := Bool.and_eq_true_iff.1 hz; exact this.1))⟩
            case measure => rw [hrg1.left_eq, hrg.left_eq]; exact hlt1
end Go.Proofs.Ytbgkmbghmhgajaa.PA
