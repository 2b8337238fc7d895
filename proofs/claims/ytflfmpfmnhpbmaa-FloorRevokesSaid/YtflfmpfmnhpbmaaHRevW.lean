/- FloorRevokes: the law's own walk; by hand. -/
import Derived.Test.YtflfmpfmnhpbmaaHRevP
import Derived.Test.YtflfmpfmnhpbmaaFm
import Derived.Test.YtflfmpfmnhpbmaaPAx20C
namespace Go.Proofs.Ytflfmpfmnhpbmaa.PA
open Go.RowKit Go.Proofs.YtflfmpfmnhpbmaaW.PrintWords Go.Proofs.YtflfmpfmnhpbmaaW.PrintLast Go.Proofs.YtflfmpfmnhpbmaaW.PrintMore Go.Proofs.Ytflfmpfmnhpbmaa.FL
set_option linter.unusedVariables false
set_option linter.unusedSimpArgs false
def squelchlaw18_FloorRevokes.f (k : Nat) (l : List S32) : Option Bool := some true
def squelchlaw18_FloorRevokes.Pure : Prop := ∀ (l0 : List (S32)), (l0.length * 40 ≤ 140737488351232 ∧ l0.length ≤ 9223372036854775807 ∧ ∀ y0_ ∈ l0, ((Lit.int .i64 y0_.f0).wf = true ∧ (Lit.int .i64 y0_.f1).wf = true ∧ (Lit.int .i64 y0_.f2).wf = true ∧ (Lit.int .i64 y0_.f3).wf = true ∧ (Lit.int .i64 y0_.f4).wf = true)) → ∃ k, squelchlaw18_FloorRevokes.f k l0 = some true
/-- A floor in a block of its own. -/
structure FOR (W : World) (P : Nat → Prop) (g4 base : Nat) (D : Dk) (vw vm : Value) : Prop where
  blk : W.heap[g4]? = some (.cells #[.int .i64 D.s, .int .i64 D.e, .int .i64 D.h, .int .i64 D.p, .int .i64 D.u, .int .i64 D.l, .int .i64 D.n, vw, vm] 28 (0, 0))
  wait : Kd.V k43 43 W base P vw D.wait
  mem : Kd.V (Kd.int .i64) 3 W base P vm D.mem
  b4 : base ≤ g4
theorem FOR.below {W W' : World} {P : Nat → Prop} {g4 base : Nat} {D : Dk} {vw vm : Value} (h : FOR W P g4 base D vw vm) (hb : Below W.heap.size W W') : FOR W' P g4 base D vw vm :=
  ⟨blk_below h.blk hb, Kd.V_below h.wait hb, Kd.V_below h.mem hb, h.b4⟩
theorem V_boundO {α : Type} {d : Kd α} {e : Nat} {W : World} {base : Nat} {ok : Nat → Prop} {v : Value} {xs : List α} (h : Kd.V d e W base ok v xs) : Kd.V d e W base (fun k => ok k ∧ k < W.heap.size) v xs := Kd.V_map h (fun _ hf => Kd.F_bound hf)
theorem rdO8 (l : List S38) (j : Nat) (h : j < l.length) : rd_T38 l (j : Int) = l[j] := by
  unfold rd_T38
  rw [Int.toNat_natCast, List.getD_eq_getElem?_getD, List.getElem?_eq_getElem h]; rfl
theorem nilC {α : Type} (d : Kd α) (e : TypeId) (W : World) : Kd.C d W none 0 [] := (Kd.R_reads' (Kd.R_nil d e W 0 (fun _ => True))).2.2
set_option maxHeartbeats 16000000 in
set_option maxRecDepth 100000 in
theorem squelchlaw18_FloorRevokes.calls (k : Nat) (A0 : Option Addr) (c0 : Nat) (l0 : List S32) (r : Bool) (w : World) (hr0 : Kd.C k32 w A0 l0.length l0) (hc0 : l0.length ≤ c0) (h : squelchlaw18_FloorRevokes.f k l0 = some r) (hr_ : r = true) :
    Calls Try.prog 4 #[.slice A0 l0.length c0] w fun e w' => e = .returned (.bool r) ∧ Below w.heap.size w w' := by
  subst hr_
  obtain ⟨kl, hkl⟩ := live_ev.rounds
  have HL := aM hkl
  have HR0 := aM hr0
  have HC0 := aM hc0
  have HB := aM (Below.refl w.heap.size w)
  clear hr0 hc0 h hkl
  by_cases hlen : (l0.length : Int) ≤ 100
  rotate_left
  · have HF : Aside0 (squelchlaw18_few.f 0 0 0 0 0 0 0 [] [] l0 = some false) := aM (by unfold squelchlaw18_few.f; rw [if_pos (by decide), if_pos (by decide), decide_eq_false hlen])
    clear hlen
    go_enter Try.func4, Try.ntmps4
    go_wp2_with (first | (go_at_call 11; refine (squelchlaw18_live.calls kl true _ HL.out).mono ?_; rintro e w1 ⟨rfl, hb⟩; have HB1 := aM (below_step HB.out hb); clear hb) | (go_at_call 12; refine (squelchlaw18_few.calls 0 0 0 0 0 0 0 none 0 [] none 0 [] A0 c0 l0 false _ (nilC k43 43 _) (Nat.le_refl _) (nilC (Kd.int .i64) 3 _) (Nat.le_refl _) (Kd.C_below HR0.out HB1.out) HC0.out HF.out).mono ?_; rintro e w2 ⟨rfl, hb⟩; have HB2 := aM (below_step HB1.out hb); clear hb))
    go_ret
    exact ⟨rfl, HB2.out⟩
  have HF : Aside0 (squelchlaw18_few.f 0 0 0 0 0 0 0 [] [] l0 = some true) := aM (by unfold squelchlaw18_few.f; rw [if_pos (by decide), if_pos (by decide), decide_eq_true hlen])
  have HLEN := aM hlen
  clear hlen
  go_enter Try.func4, Try.ntmps4
  go_wp2_with (first | (go_at_call 11; refine (squelchlaw18_live.calls kl true _ HL.out).mono ?_; rintro e w1 ⟨rfl, hb⟩; have HB1 := aM (below_step HB.out hb); clear hb) | (go_at_call 12; refine (squelchlaw18_few.calls 0 0 0 0 0 0 0 none 0 [] none 0 [] A0 c0 l0 true _ (nilC k43 43 _) (Nat.le_refl _) (nilC (Kd.int .i64) 3 _) (Nat.le_refl _) (Kd.C_below HR0.out HB1.out) HC0.out HF.out).mono ?_; rintro e w2 ⟨rfl, hb⟩; have HB2 := aM (below_step HB1.out hb); clear hb) | (go_at_call 13; refine (floor_New.calls 0 0 0 0 0 0 0 [] [] _ rfl).mono ?_; rintro e w3 ⟨v7, v8, rfl, hw, hm, hb⟩; have HB3 := aM (below_step HB2.out hb); have HW3 := aM hw; have HM3 := aM hm; obtain ⟨A7, c7, e7⟩ := Kd.R_slice hw; obtain ⟨A8, c8, e8⟩ := Kd.R_slice hm; subst e7; subst e8; clear hb hw hm))
  have hfos : FOR (w3.alloc (.cells #[.int .i64 0, .int .i64 0, .int .i64 0, .int .i64 0, .int .i64 0, .int .i64 0, .int .i64 0, .slice A7 0 c7, .slice A8 0 c8] 28)) (fun k => k ≠ w3.heap.size) w3.heap.size w.heap.size newD (.slice A7 0 c7) (.slice A8 0 c8) :=
    ⟨heap_alloc_new w3 _, Kd.V_alloc (Kd.V_mono (Kd.R_V (base := w2.heap.size) (Kd.R_mono (Kd.R_bound HW3.out) (ok' := fun k => k < w3.heap.size) (fun k hk => hk.2.2.1))) (fun k hk => by omega)) _, Kd.V_alloc (Kd.V_mono (Kd.R_V (base := w2.heap.size) (Kd.R_mono (Kd.R_bound HM3.out) (ok' := fun k => k < w3.heap.size) (fun k hk => hk.2.2.1))) (fun k hk => by omega)) _, HB3.out.size⟩
  have HFOS := aM hfos
  have HB4 := aM (below_alloc HB3.out (.cells #[.int .i64 0, .int .i64 0, .int .i64 0, .int .i64 0, .int .i64 0, .int .i64 0, .int .i64 0, .slice A7 0 c7, .slice A8 0 c8] 28))
  clear hfos
  generalize (w3.alloc (.cells #[.int .i64 0, .int .i64 0, .int .i64 0, .int .i64 0, .int .i64 0, .int .i64 0, .int .i64 0, .slice A7 0 c7, .slice A8 0 c8] 28)) = w4 at HFOS HB4 ⊢
  generalize w3.heap.size = g4 at HFOS ⊢
  clear HB3 HB2 HB1 HB HW3 HM3 HF HL
  go_loopg [25] l0.length (fun kx s25 wr => ∃ (i : Nat) (D : Dk) (vw vm : Value), s25 = .int .i64 i ∧ i ≤ l0.length ∧ l0.length - i ≤ kx ∧ Aside0 (Below w.heap.size w wr) ∧ Aside0 (FOR wr (fun k => k ≠ g4) g4 w.heap.size D vw vm) ∧ Aside0 (Inv (i : Int) D))
  case atStart => exact ⟨0, newD, _, _, rfl, Nat.zero_le _, by omega, HB4, HFOS, aM inv_new⟩
  case round =>
    clear HB4 HFOS
    obtain ⟨i, D, vw, vm, rfl, hil, hkx, HBR, HFR, HIN⟩ := hrel
    obtain ⟨A7', c7', ew⟩ := Kd.V_slice HFR.out.wait
    obtain ⟨A8', c8', em⟩ := Kd.V_slice HFR.out.mem
    subst ew
    subst em
    by_cases hlt : i < l0.length
    rotate_left
    · have hltz : ¬ ((i : Int) < (l0.length : Int)) := by omega
      clear hlt hil hkx
      go_wp2
      go_ret
      exact ⟨rfl, HBR.out⟩
    have hltz : (i : Int) < (l0.length : Int) := by omega
    have hiz : (0 : Int) ≤ (i : Int) := by omega
    have HCR := aM (Kd.C_below HR0.out HBR.out)
    obtain ⟨ad, hA, hc0, hc1, hc2, hc3, hc4⟩ := at_T32 HCR.out (i : Int) hiz hltz
    subst hA
    rw [rdA l0 i hlt, Int.toNat_natCast] at hc0 hc1 hc2 hc3 hc4
    obtain ⟨a, ha⟩ : ∃ a, a = l0[i] := ⟨_, rfl⟩
    rw [← ha] at hc0 hc1 hc2 hc3 hc4
    have HA := aM ha
    have RI : Aside0 (IntKind.i64.wrap ((i : Int) + 1) = ((i + 1 : Nat) : Int)) := aM (by rw [IntKind.wrap_i64]; have := HLEN.out; omega)
    have e5 : l0.length - (i + 1) < gk := by omega
    have e6 : i + 1 ≤ l0.length := by omega
    have H56 := aM (And.intro e5 e6)
    clear ha e5 e6 hkx hil
    go_upto_region 8 with (fail)
    have hk7 : (wr.alloc (.cells #[.int .i64 a.f0, .int .i64 a.f1, .int .i64 a.f2, .int .i64 a.f3, .int .i64 a.f4] 32)).heap[wr.heap.size]? = some (.cells #[.int .i64 a.f0, .int .i64 a.f1, .int .i64 a.f2, .int .i64 a.f3, .int .i64 a.f4] 32 (0, 0)) := heap_alloc_new wr _
    have hF5 := HFR.out.below (below_alloc (Below.refl _ wr) (.cells #[.int .i64 a.f0, .int .i64 a.f1, .int .i64 a.f2, .int .i64 a.f3, .int .i64 a.f4] 32))
    have hB5 := below_alloc HBR.out (.cells #[.int .i64 a.f0, .int .i64 a.f1, .int .i64 a.f2, .int .i64 a.f3, .int .i64 a.f4] 32)
    generalize (wr.alloc (.cells #[.int .i64 a.f0, .int .i64 a.f1, .int .i64 a.f2, .int .i64 a.f3, .int .i64 a.f4] 32)) = w5 at hk7 hF5 hB5 ⊢
    generalize wr.heap.size = g6 at hk7 ⊢
    have BK5 := aM hk7
    have HF5 := aM hF5
    have HB5 := aM hB5
    obtain ⟨hf0, hf1, hf2, hf3, hf4, hf5, hf6, hf7, hf8⟩ := cells9 hF5.blk
    obtain ⟨ha0, ha1, ha2, ha3, ha4⟩ := cells5 hk7
    clear hk7 hF5 hB5 hc0 hc1 hc2 hc3 hc4 HCR HFR HBR
    have HI := aM HIN.out
    clear HIN
    by_cases hcan : can D a
    rotate_left
    · have HN := aM (do_no HI.out.ok a hcan 0)
      clear hcan
      have ri := RI.out
      go_wp2_with (go_at_call 14; refine (floor_Do.calls8 0 D.s D.e D.h D.p D.u D.l D.n A7' c7' D.wait A8' c8' D.mem a.f0 a.f1 a.f2 a.f3 a.f4 0 0 0 0 0 0 0 [] [] [] 1 w5 (Kd.V_reads' HF5.out.wait).2.2 (Kd.V_reads' HF5.out.wait).2.1 (Kd.V_reads' HF5.out.mem).2.2 (Kd.V_reads' HF5.out.mem).2.1 HN.out).mono ?_; rintro e w6 ⟨v7, v8, v9, rfl, ho0, ho1, ho2, hb⟩; have HB6 := aM (below_step HB5.out hb); have HF6 := aM (HF5.out.below hb); obtain ⟨A7n, c7n, e7n⟩ := Kd.V_slice ho0; obtain ⟨A8n, c8n, e8n⟩ := Kd.V_slice ho1; subst e7n; subst e8n; clear hb ho0 ho1 ho2 hf0 hf1 hf2 hf3 hf4 hf5 hf6 hf7 hf8 ha0 ha1 ha2 ha3 ha4)
      go_roundg (l0.length - (i + 1))
      case measure => exact H56.out.1
      case rel => exact ⟨i + 1, D, _, _, by first | rfl | (simp [ri]; done), H56.out.2, Nat.le_refl _, aM (below_alloc HB6.out _), aM (HF6.out.below (below_alloc (Below.refl _ w6) _)), aM (inv_mono HI.out (by omega))⟩
    have hyes := do_yes HI.out.ok a hcan 0
    have hlen100 := HLEN.out
    have hIE := do_inv (inv_bare HI.out) (by omega) a hcan.1 hcan.2
    have hRV := rev_do HI.out.ok a hcan
    have hOL := out_len D a
    generalize doD (bareD D) a = E at hyes hIE hRV hOL
    have HY : Aside0 (floor_Do.f 0 D.s D.e D.h D.p D.u D.l D.n D.wait D.mem a.f0 a.f1 a.f2 a.f3 a.f4 = some (E.s, E.e, E.h, E.p, E.u, E.l, E.n, E.wait, E.mem, E.out, 0)) := aM hyes
    have HIE := aM hIE
    have HRV := aM hRV
    have HOL := aM hOL
    clear hyes hIE hRV hOL hcan hlen100
    go_upto_region 10 with (go_at_call 14; refine (floor_Do.calls8 0 D.s D.e D.h D.p D.u D.l D.n A7' c7' D.wait A8' c8' D.mem a.f0 a.f1 a.f2 a.f3 a.f4 E.s E.e E.h E.p E.u E.l E.n E.wait E.mem E.out 0 w5 (Kd.V_reads' HF5.out.wait).2.2 (Kd.V_reads' HF5.out.wait).2.1 (Kd.V_reads' HF5.out.mem).2.2 (Kd.V_reads' HF5.out.mem).2.1 HY.out).mono ?_; rintro e w6 ⟨v7, v8, v9, rfl, ho0, ho1, ho2, hb⟩; have HB6 := aM (below_step HB5.out hb); have HF6 := aM (HF5.out.below hb); have BK6 := aM (blk_below BK5.out hb); have HO0 := aM ho0; have HO1 := aM ho1; have HO2 := aM ho2; have SZ56 := aM hb.size; obtain ⟨A7n, c7n, e7n⟩ := Kd.V_slice ho0; obtain ⟨A8n, c8n, e8n⟩ := Kd.V_slice ho1; obtain ⟨A9n, c9n, e9n⟩ := Kd.R_slice ho2; subst e7n; subst e8n; subst e9n; clear hb ho0 ho1 ho2 hf0 hf1 hf2 hf3 hf4 hf5 hf6 hf7 hf8 ha0 ha1 ha2 ha3 ha4)
    have hsz := SZ56.out
    have hg45 : g4 < w5.heap.size := blk_lt HF5.out.blk
    have hG7 : FOR (w6.alloc (.cells #[.int .i64 E.s, .int .i64 E.e, .int .i64 E.h, .int .i64 E.p, .int .i64 E.u, .int .i64 E.l, .int .i64 E.n, .slice A7n E.wait.length c7n, .slice A8n E.mem.length c8n] 28)) (fun k => k ≠ g4 ∧ k ≠ w6.heap.size) w6.heap.size w.heap.size E (.slice A7n E.wait.length c7n) (.slice A8n E.mem.length c8n) :=
      ⟨heap_alloc_new w6 _, Kd.V_alloc (Kd.V_mono (V_boundO HO0.out) (fun k hk => by have := hk.1.1; have := hk.2; exact ⟨by omega, by omega⟩)) _, Kd.V_alloc (Kd.V_mono (V_boundO HO1.out) (fun k hk => by have := hk.1.1; have := hk.2; exact ⟨by omega, by omega⟩)) _, HB6.out.size⟩
    have hF7 := HF6.out.below (below_alloc (Below.refl _ w6) (.cells #[.int .i64 E.s, .int .i64 E.e, .int .i64 E.h, .int .i64 E.p, .int .i64 E.u, .int .i64 E.l, .int .i64 E.n, .slice A7n E.wait.length c7n, .slice A8n E.mem.length c8n] 28))
    have hB7 := below_alloc HB6.out (.cells #[.int .i64 E.s, .int .i64 E.e, .int .i64 E.h, .int .i64 E.p, .int .i64 E.u, .int .i64 E.l, .int .i64 E.n, .slice A7n E.wait.length c7n, .slice A8n E.mem.length c8n] 28)
    have hA7 := blk_alloc BK6.out (.cells #[.int .i64 E.s, .int .i64 E.e, .int .i64 E.h, .int .i64 E.p, .int .i64 E.u, .int .i64 E.l, .int .i64 E.n, .slice A7n E.wait.length c7n, .slice A8n E.mem.length c8n] 28)
    have hR7 : Kd.R k38 38 (w6.alloc (.cells #[.int .i64 E.s, .int .i64 E.e, .int .i64 E.h, .int .i64 E.p, .int .i64 E.u, .int .i64 E.l, .int .i64 E.n, .slice A7n E.wait.length c7n, .slice A8n E.mem.length c8n] 28)) w5.heap.size (fun k => k ≠ g4) (.slice A9n E.out.length c9n) E.out := Kd.R_below (Kd.R_mono HO2.out (fun k hk => by have : w5.heap.size ≤ k := hk; omega)) (below_alloc (Below.refl _ w6) (.cells #[.int .i64 E.s, .int .i64 E.e, .int .i64 E.h, .int .i64 E.p, .int .i64 E.u, .int .i64 E.l, .int .i64 E.n, .slice A7n E.wait.length c7n, .slice A8n E.mem.length c8n] 28))
    generalize (w6.alloc (.cells #[.int .i64 E.s, .int .i64 E.e, .int .i64 E.h, .int .i64 E.p, .int .i64 E.u, .int .i64 E.l, .int .i64 E.n, .slice A7n E.wait.length c7n, .slice A8n E.mem.length c8n] 28)) = w7 at hG7 hF7 hB7 hR7 hA7 ⊢
    generalize w6.heap.size = g7 at hG7 ⊢
    have HF7 := aM hF7
    have HB7 := aM hB7
    have HG7 := aM hG7
    have HR7 := aM hR7
    have HA7 := aM hA7
    clear hG7 hF7 hB7 hR7 hA7 HO0 HO1 HO2 HB5 HF5 HB6 HF6 BK5 BK6 SZ56 hsz hg45 HY
    obtain ⟨hf0, hf1, hf2, hf3, hf4, hf5, hf6, hf7, hf8⟩ := cells9 HF7.out.blk
    obtain ⟨hg0, hg1, hg2, hg3, hg4, hg5, hg6, hg7, hg8⟩ := cells9 HG7.out.blk
    obtain ⟨ha0, ha1, ha2, ha3, ha4⟩ := cells5 HA7.out
    obtain ⟨b45, hb45⟩ : ∃ b : Bool, b = (decide (D.s = 1) && decide (E.s = 2)) := ⟨_, rfl⟩
    have HB45 := aM hb45
    clear hb45
    go_cut [45] (fun v45 wc => v45 = .bool b45 ∧ wc = w7)
    case first =>
      as_aux_lemma =>
       by_cases h1 : D.s = 1
       · have h1b : (D.s == 1) = true := by simpa using h1
         by_cases h2 : E.s = 2
         · have h2b : (E.s == 2) = true := by simpa using h2
           have HQ : Aside0 (b45 = true) := aM (by rw [HB45.out, decide_eq_true h1, decide_eq_true h2]; rfl)
           clear h1 h2
           go_wp2
           go_meet
           case rel => exact ⟨by rw [HQ.out], rfl⟩
         · have h2b : (E.s == 2) = false := by simpa using h2
           have HQ : Aside0 (b45 = false) := aM (by rw [HB45.out, decide_eq_false h2, Bool.and_false])
           clear h1 h2
           go_wp2
           go_meet
           case rel => exact ⟨by rw [HQ.out], rfl⟩
       · have h1b : (D.s == 1) = false := by simpa using h1
         have HQ : Aside0 (b45 = false) := aM (by rw [HB45.out, decide_eq_false h1, Bool.false_and])
         clear h1
         go_wp2
         go_meet
         case rel => exact ⟨by rw [HQ.out], rfl⟩
    case rest =>
      obtain ⟨rfl, rfl⟩ := hcut
      go_upto_if 45 with (fail)
      go_cut [] (fun wc2 => wc2 = wc)
      case first =>
        as_aux_lemma =>
         cases hb : b45 with
         | false =>
           go_wp2
           go_meet
           case rel => rfl
         | true =>
           have hq := HB45.out
           rw [hb] at hq
           have hq2 := Bool.and_eq_true_iff.1 hq.symm
           obtain ⟨r1, rh, re⟩ := HRV.out.r1 (of_decide_eq_true hq2.1) (of_decide_eq_true hq2.2)
           have l0' := HI.out.ok.l0
           have l1' := HI.out.ok.l1
           have WL3 : Aside0 (IntKind.i64.wrap (D.l + 3) = D.l + 3) := aM (by rw [IntKind.wrap_i64]; omega)
           have rhn : (E.h != D.h) = false := by simpa using rh
           have ren : (E.e != D.e) = false := by simpa using re
           clear hq hq2 hb l0' l1' rh re
           rcases r1 with ⟨h6, hor⟩ | ⟨h3, hp, hw⟩
           · have h3 : ¬ a.f0 = 3 := by omega
             have h6e : (a.f0 == 6) = true := by simpa using h6
             have h6n : (a.f0 != 6) = false := by simpa using h6
             have h3e : (a.f0 == 3) = false := by simpa using h3
             have h3n : (a.f0 != 3) = true := by simpa using h3
             by_cases hu : E.n ≥ D.u
             · have hub : decide (D.u ≤ E.n) = true := decide_eq_true hu
               clear hor hu h3 h6
               go_wp2
               go_meet
               case rel => rfl
             · have hl : E.n ≥ D.l + 3 := by omega
               have hub : decide (D.u ≤ E.n) = false := decide_eq_false hu
               have hlb : decide (D.l + 3 ≤ E.n) = true := decide_eq_true hl
               clear hor hu hl h3 h6
               have wl3 := WL3.out
               go_wp2
               go_meet
               case rel => rfl
           · have h6 : ¬ a.f0 = 6 := by omega
             have h6e : (a.f0 == 6) = false := by simpa using h6
             have h6n : (a.f0 != 6) = true := by simpa using h6
             have h3e : (a.f0 == 3) = true := by simpa using h3
             have h3n : (a.f0 != 3) = false := by simpa using h3
             have hpb : decide (D.p < a.f2) = true := decide_eq_true hp
             have hwn : (a.f1 != D.h) = true := by simpa using hw
             clear h3 h6 hp hw
             go_wp2
             go_meet
             case rel => rfl
      case rest =>
        obtain rfl := hcut
        go_upto_region 15 with (fail)
        obtain ⟨b110, hb110⟩ : ∃ b : Bool, b = (!decide (D.s = 0) && !decide (E.h = D.h)) := ⟨_, rfl⟩
        have HB110 := aM hb110
        clear hb110
        go_cut [110] (fun v110 wc4 => v110 = .bool b110 ∧ wc4 = wc)
        case first =>
          as_aux_lemma =>
           by_cases h1 : D.s = 0
           · have h1n : (D.s != 0) = false := by simpa using h1
             have HQ : Aside0 (b110 = false) := aM (by rw [HB110.out, decide_eq_true h1]; rfl)
             clear h1
             go_wp2
             go_meet
             case rel => exact ⟨by rw [HQ.out], rfl⟩
           · have h1n : (D.s != 0) = true := by simpa using h1
             by_cases h2 : E.h = D.h
             · have h2n : (E.h != D.h) = false := by simpa using h2
               have HQ : Aside0 (b110 = false) := aM (by rw [HB110.out, decide_eq_true h2]; simp)
               clear h1 h2
               go_wp2
               go_meet
               case rel => exact ⟨by rw [HQ.out], rfl⟩
             · have h2n : (E.h != D.h) = true := by simpa using h2
               have HQ : Aside0 (b110 = true) := aM (by rw [HB110.out, decide_eq_false h1, decide_eq_false h2]; rfl)
               clear h1 h2
               go_wp2
               go_meet
               case rel => exact ⟨by rw [HQ.out], rfl⟩
        case rest =>
          obtain ⟨rfl, rfl⟩ := hcut
          go_upto_if 110 with (fail)
          go_cut [] (fun wc5 => True ∧ Aside0 (Drawn0 wc wc5))
          case first =>
            cases hb : b110 with
            | false =>
              go_wp2
              go_meet
              case rel => exact ⟨trivial, aM (Drawn0.refl _)⟩
            | true =>
              have hq := HB110.out
              rw [hb] at hq
              have hq2 := Bool.and_eq_true_iff.1 hq.symm
              obtain ⟨r2, rx⟩ := HRV.out.r2 (by simpa using hq2.1) (by simpa using hq2.2)
              have l0' := HI.out.ok.l0
              have l1' := HI.out.ok.l1
              have WL3 : Aside0 (IntKind.i64.wrap (D.l + 3) = D.l + 3) := aM (by rw [IntKind.wrap_i64]; omega)
              clear hq hq2 hb l0' l1'
              have hw0 : (D.wait.length : Int) = 0 ∨ ∃ ad4 x, A7' = some ad4 ∧ E.h = x ∧ 0 < D.wait.length ∧ wc.cell? ad4 = some (.int .i64 x) := by
                cases hwt : D.wait with
                | nil => exact .inl rfl
                | cons y t =>
                  right
                  have hC := (Kd.V_reads' HF7.out.wait).2.2
                  have hlt0 : (0 : Int) < (D.wait.length : Int) := by rw [hwt, List.length_cons]; omega
                  obtain ⟨ad4, e4, hy0, hy1⟩ := at_T43 hC 0 (Int.le_refl _) hlt0
                  rw [hwt] at hy0
                  rw [show ((0 : Int)).toNat = 0 from rfl, show 0 * 2 = 0 from rfl, Addr.add_zero'] at hy0
                  exact ⟨ad4, y.f0, e4, rx y t hwt, by rw [List.length_cons]; omega, hy0⟩
              have r3 : ((a.f0 = 4 ∨ a.f0 = 2) ∧ a.f1 = D.h) ∨ (a.f0 = 6 ∧ E.n ≥ D.l + 3) := r2
              clear r2 rx
              have R3A := aM r3
              have HW0 := aM hw0
              clear r3 hw0
              obtain ⟨b12, hb12⟩ : ∃ b : Bool, b = (decide (a.f0 = 4) || decide (a.f0 = 2)) := ⟨_, rfl⟩
              obtain ⟨b13, hb13⟩ : ∃ b : Bool, b = decide (a.f0 = 6) := ⟨_, rfl⟩
              have HB12 := aM hb12
              have HB13 := aM hb13
              clear hb12 hb13
              go_upto_region 16 with (fail)
              go_cut [12] (fun v12 wc6 => v12 = .bool b12 ∧ wc6 = wc)
              case first =>
                as_aux_lemma =>
                 rcases R3A.out with ⟨h4 | h2, hw⟩ | ⟨h6, hl⟩
                 · have h2 : ¬ a.f0 = 2 := by omega
                   have h6 : ¬ a.f0 = 6 := by omega
                   have h4e : (a.f0 == 4) = true := by simpa using h4
                   have h4n : (a.f0 != 4) = false := by simpa using h4
                   have h2e : (a.f0 == 2) = false := by simpa using h2
                   have h2n : (a.f0 != 2) = true := by simpa using h2
                   have h6e : (a.f0 == 6) = false := by simpa using h6
                   have h6n : (a.f0 != 6) = true := by simpa using h6
                   have hwe : (a.f1 == D.h) = true := by simpa using hw
                   have HQ : Aside0 (b12 = true) := aM (by rw [HB12.out, decide_eq_true h4]; rfl)
                   clear h4 h2 h6 hw
                   go_wp2
                   go_meet
                   case rel => exact ⟨by rw [HQ.out], rfl⟩
                 · have h4 : ¬ a.f0 = 4 := by omega
                   have h6 : ¬ a.f0 = 6 := by omega
                   have h4e : (a.f0 == 4) = false := by simpa using h4
                   have h4n : (a.f0 != 4) = true := by simpa using h4
                   have h2e : (a.f0 == 2) = true := by simpa using h2
                   have h2n : (a.f0 != 2) = false := by simpa using h2
                   have h6e : (a.f0 == 6) = false := by simpa using h6
                   have h6n : (a.f0 != 6) = true := by simpa using h6
                   have hwe : (a.f1 == D.h) = true := by simpa using hw
                   have HQ : Aside0 (b12 = true) := aM (by rw [HB12.out, decide_eq_true h2, Bool.or_true])
                   clear h4 h2 h6 hw
                   go_wp2
                   go_meet
                   case rel => exact ⟨by rw [HQ.out], rfl⟩
                 · have h4 : ¬ a.f0 = 4 := by omega
                   have h2 : ¬ a.f0 = 2 := by omega
                   have h4e : (a.f0 == 4) = false := by simpa using h4
                   have h4n : (a.f0 != 4) = true := by simpa using h4
                   have h2e : (a.f0 == 2) = false := by simpa using h2
                   have h2n : (a.f0 != 2) = true := by simpa using h2
                   have h6e : (a.f0 == 6) = true := by simpa using h6
                   have h6n : (a.f0 != 6) = false := by simpa using h6
                   have hlb : decide (D.l + 3 ≤ E.n) = true := decide_eq_true hl
                   have HQ : Aside0 (b12 = false) := aM (by rw [HB12.out, decide_eq_false h4, decide_eq_false h2]; rfl)
                   clear h4 h2 h6 hl
                   have wl3 := WL3.out
                   go_wp2
                   go_meet
                   case rel => exact ⟨by rw [HQ.out], rfl⟩
              case rest =>
                obtain ⟨rfl, rfl⟩ := hcut
                go_upto_region 17 with (fail)
                go_cut [13] (fun v13 wc6 => v13 = .bool b13 ∧ wc6 = wc)
                case first =>
                  as_aux_lemma =>
                   rcases R3A.out with ⟨h4 | h2, hw⟩ | ⟨h6, hl⟩
                   · have h2 : ¬ a.f0 = 2 := by omega
                     have h6 : ¬ a.f0 = 6 := by omega
                     have h4e : (a.f0 == 4) = true := by simpa using h4
                     have h4n : (a.f0 != 4) = false := by simpa using h4
                     have h2e : (a.f0 == 2) = false := by simpa using h2
                     have h2n : (a.f0 != 2) = true := by simpa using h2
                     have h6e : (a.f0 == 6) = false := by simpa using h6
                     have h6n : (a.f0 != 6) = true := by simpa using h6
                     have hwe : (a.f1 == D.h) = true := by simpa using hw
                     have HQ : Aside0 (b13 = false) := aM (by rw [HB13.out, decide_eq_false h6])
                     clear h4 h2 h6 hw
                     go_wp2
                     go_meet
                     case rel => exact ⟨by rw [HQ.out], rfl⟩
                   · have h4 : ¬ a.f0 = 4 := by omega
                     have h6 : ¬ a.f0 = 6 := by omega
                     have h4e : (a.f0 == 4) = false := by simpa using h4
                     have h4n : (a.f0 != 4) = true := by simpa using h4
                     have h2e : (a.f0 == 2) = true := by simpa using h2
                     have h2n : (a.f0 != 2) = false := by simpa using h2
                     have h6e : (a.f0 == 6) = false := by simpa using h6
                     have h6n : (a.f0 != 6) = true := by simpa using h6
                     have hwe : (a.f1 == D.h) = true := by simpa using hw
                     have HQ : Aside0 (b13 = false) := aM (by rw [HB13.out, decide_eq_false h6])
                     clear h4 h2 h6 hw
                     go_wp2
                     go_meet
                     case rel => exact ⟨by rw [HQ.out], rfl⟩
                   · have h4 : ¬ a.f0 = 4 := by omega
                     have h2 : ¬ a.f0 = 2 := by omega
                     have h4e : (a.f0 == 4) = false := by simpa using h4
                     have h4n : (a.f0 != 4) = true := by simpa using h4
                     have h2e : (a.f0 == 2) = false := by simpa using h2
                     have h2n : (a.f0 != 2) = true := by simpa using h2
                     have h6e : (a.f0 == 6) = true := by simpa using h6
                     have h6n : (a.f0 != 6) = false := by simpa using h6
                     have hlb : decide (D.l + 3 ≤ E.n) = true := decide_eq_true hl
                     have HQ : Aside0 (b13 = true) := aM (by rw [HB13.out, decide_eq_true h6])
                     clear h4 h2 h6 hl
                     have wl3 := WL3.out
                     go_wp2
                     go_meet
                     case rel => exact ⟨by rw [HQ.out], rfl⟩
                case rest =>
                  obtain ⟨rfl, rfl⟩ := hcut
                  go_upto_region 18 with (fail)
                  go_cut [142] (fun v142 wc6 => v142 = .bool false ∧ wc6 = wc)
                  case first =>
                    as_aux_lemma =>
                     rcases R3A.out with ⟨h4 | h2, hw⟩ | ⟨h6, hl⟩
                     · have h2 : ¬ a.f0 = 2 := by omega
                       have h6 : ¬ a.f0 = 6 := by omega
                       have h4e : (a.f0 == 4) = true := by simpa using h4
                       have h4n : (a.f0 != 4) = false := by simpa using h4
                       have h2e : (a.f0 == 2) = false := by simpa using h2
                       have h2n : (a.f0 != 2) = true := by simpa using h2
                       have h6e : (a.f0 == 6) = false := by simpa using h6
                       have h6n : (a.f0 != 6) = true := by simpa using h6
                       have hwe : (a.f1 == D.h) = true := by simpa using hw
                       have HQ12 : Aside0 (b12 = true) := aM (by rw [HB12.out, decide_eq_true h4]; rfl)
                       have HQ13 : Aside0 (b13 = false) := aM (by rw [HB13.out, decide_eq_false h6])
                       have hq12 : b12 = true := HQ12.out
                       have hq13 : b13 = false := HQ13.out
                       clear h4 h2 h6 hw
                       go_wp2
                       go_meet
                       case rel => exact ⟨rfl, rfl⟩
                     · have h4 : ¬ a.f0 = 4 := by omega
                       have h6 : ¬ a.f0 = 6 := by omega
                       have h4e : (a.f0 == 4) = false := by simpa using h4
                       have h4n : (a.f0 != 4) = true := by simpa using h4
                       have h2e : (a.f0 == 2) = true := by simpa using h2
                       have h2n : (a.f0 != 2) = false := by simpa using h2
                       have h6e : (a.f0 == 6) = false := by simpa using h6
                       have h6n : (a.f0 != 6) = true := by simpa using h6
                       have hwe : (a.f1 == D.h) = true := by simpa using hw
                       have HQ12 : Aside0 (b12 = true) := aM (by rw [HB12.out, decide_eq_true h2, Bool.or_true])
                       have HQ13 : Aside0 (b13 = false) := aM (by rw [HB13.out, decide_eq_false h6])
                       have hq12 : b12 = true := HQ12.out
                       have hq13 : b13 = false := HQ13.out
                       clear h4 h2 h6 hw
                       go_wp2
                       go_meet
                       case rel => exact ⟨rfl, rfl⟩
                     · have h4 : ¬ a.f0 = 4 := by omega
                       have h2 : ¬ a.f0 = 2 := by omega
                       have h4e : (a.f0 == 4) = false := by simpa using h4
                       have h4n : (a.f0 != 4) = true := by simpa using h4
                       have h2e : (a.f0 == 2) = false := by simpa using h2
                       have h2n : (a.f0 != 2) = true := by simpa using h2
                       have h6e : (a.f0 == 6) = true := by simpa using h6
                       have h6n : (a.f0 != 6) = false := by simpa using h6
                       have hlb : decide (D.l + 3 ≤ E.n) = true := decide_eq_true hl
                       have HQ12 : Aside0 (b12 = false) := aM (by rw [HB12.out, decide_eq_false h4, decide_eq_false h2]; rfl)
                       have HQ13 : Aside0 (b13 = true) := aM (by rw [HB13.out, decide_eq_true h6])
                       have hq12 : b12 = false := HQ12.out
                       have hq13 : b13 = true := HQ13.out
                       clear h4 h2 h6 hl
                       have wl3 := WL3.out
                       go_wp2
                       go_meet
                       case rel => exact ⟨rfl, rfl⟩
                  case rest =>
                    obtain ⟨rfl, rfl⟩ := hcut
                    rcases HW0.out with hw0 | ⟨ad4, xh, rfl, rfl, hlt0, hy0⟩
                    · have hwb : decide ((0 : Int) < (D.wait.length : Int)) = false := decide_eq_false (by omega)
                      have hwb2 : decide (0 < D.wait.length) = false := decide_eq_false (by omega)
                      have hwl : D.wait.length = 0 := by omega
                      clear hw0
                      as_aux_lemma =>
                       go_wp2
                       (try (repeat (go_quiet (fail); try go_wp2)))
                       go_meet
                       case rel => first | exact ⟨trivial, aM (Drawn0.refl _)⟩ | exact ⟨trivial, aM ⟨_, rfl⟩⟩
                    · have hne : (E.h != E.h) = false := by simp
                      have hltb : decide ((0 : Int) < (D.wait.length : Int)) = true := decide_eq_true (by omega)
                      have hltt : ((0 : Int) < (D.wait.length : Int)) = True := eq_true (by omega)
                      have hltn : (0 < D.wait.length) = True := eq_true hlt0
                      clear hlt0
                      as_aux_lemma =>
                       go_wp2
                       (try (repeat (go_quiet (fail); try go_wp2)))
                       go_meet
                       case rel => first | exact ⟨trivial, aM (Drawn0.refl _)⟩ | exact ⟨trivial, aM ⟨_, rfl⟩⟩
          case rest =>
            obtain ⟨_, HDR⟩ := hcut
            have HF8 := aM (HF7.out.below HDR.out.below)
            have HG8 := aM (HG7.out.below HDR.out.below)
            have HA8 := aM (blk_below HA7.out HDR.out.below)
            have HR8 := aM (Kd.R_below HR7.out HDR.out.below)
            have HB8 := aM (below_step HB7.out HDR.out.below)
            clear hf0 hf1 hf2 hf3 hf4 hf5 hf6 hf7 hf8 hg0 hg1 hg2 hg3 hg4 hg5 hg6 hg7 hg8 ha0 ha1 ha2 ha3 ha4 HF7 HG7 HA7 HR7 HB7 HDR
            go_wp2
            go_loopg [175] E.out.length (fun kx s175 ws => ∃ (j : Nat), s175 = .int .i64 j ∧ j ≤ E.out.length ∧ E.out.length - j ≤ kx ∧ Aside0 (Below w.heap.size w ws) ∧ Aside0 (FOR ws (fun k => k ≠ g4) g4 w.heap.size D (.slice A7' D.wait.length c7') (.slice A8' D.mem.length c8')) ∧ Aside0 (FOR ws (fun k => k ≠ g4 ∧ k ≠ g7) g7 w.heap.size E (.slice A7n E.wait.length c7n) (.slice A8n E.mem.length c8n)) ∧ Aside0 (ws.heap[g6]? = some (.cells #[.int .i64 a.f0, .int .i64 a.f1, .int .i64 a.f2, .int .i64 a.f3, .int .i64 a.f4] 32 (0, 0))) ∧ Aside0 (Kd.R k38 38 ws w5.heap.size (fun k => k ≠ g4) (.slice A9n E.out.length c9n) E.out))
            case atStart => exact ⟨0, rfl, Nat.zero_le _, by omega, HB8, HF8, HG8, HA8, HR8⟩
            case round =>
              clear HB8 HF8 HG8 HA8 HR8
              obtain ⟨j, rfl, hjl, hjk, HBS, HFS, HGS, HAS, HRS⟩ := hrel
              by_cases hjt : j < E.out.length
              · have hjz : (j : Int) < (E.out.length : Int) := by omega
                have hj0 : (0 : Int) ≤ (j : Int) := by omega
                obtain ⟨ad9, hA9, hc0, hc1, hc2, hc3⟩ := at_T38 (Kd.R_reads' HRS.out).2.2 (j : Int) hj0 hjz
                subst hA9
                rw [rdO8 _ j hjt, Int.toNat_natCast] at hc0 hc1 hc2 hc3
                have hr3 := HRV.out.r3 E.out[j] (List.getElem_mem hjt)
                obtain ⟨x, hx⟩ : ∃ x, x = E.out[j] := ⟨_, rfl⟩
                rw [← hx] at hc0 hc1 hc2 hc3 hr3
                have RJ : Aside0 (IntKind.i64.wrap ((j : Int) + 1) = ((j + 1 : Nat) : Int)) := aM (by rw [IntKind.wrap_i64]; have := HOL.out; omega)
                have f5 : E.out.length - (j + 1) < gk := by omega
                have f6 : j + 1 ≤ E.out.length := by omega
                have HJ := aM (And.intro f5 f6)
                have hF := HFS.out.below (below_alloc (Below.refl _ wr) (.cells #[.int .i64 x.f0, .int .i64 x.f1, .int .i64 x.f2, .int .i64 x.f3] 38))
                have hG := HGS.out.below (below_alloc (Below.refl _ wr) (.cells #[.int .i64 x.f0, .int .i64 x.f1, .int .i64 x.f2, .int .i64 x.f3] 38))
                have hA := blk_alloc HAS.out (.cells #[.int .i64 x.f0, .int .i64 x.f1, .int .i64 x.f2, .int .i64 x.f3] 38)
                have hB := below_alloc HBS.out (.cells #[.int .i64 x.f0, .int .i64 x.f1, .int .i64 x.f2, .int .i64 x.f3] 38)
                have hR := Kd.R_below HRS.out (below_alloc (Below.refl _ wr) (.cells #[.int .i64 x.f0, .int .i64 x.f1, .int .i64 x.f2, .int .i64 x.f3] 38))
                have hX : (wr.alloc (.cells #[.int .i64 x.f0, .int .i64 x.f1, .int .i64 x.f2, .int .i64 x.f3] 38)).heap[wr.heap.size]? = some (.cells #[.int .i64 x.f0, .int .i64 x.f1, .int .i64 x.f2, .int .i64 x.f3] 38 (0, 0)) := heap_alloc_new wr _
                have HR3 := aM hr3
                clear hr3
                clear hx f5 f6 hjk hjl
                go_upto_region 25 with (fail)
                clear hc0 hc1 hc2 hc3
                generalize (wr.alloc (.cells #[.int .i64 x.f0, .int .i64 x.f1, .int .i64 x.f2, .int .i64 x.f3] 38)) = w9 at hF hG hA hB hR hX ⊢
                generalize wr.heap.size = g15 at hX ⊢
                have HFA := aM hF
                have HGA := aM hG
                have HAA := aM hA
                have HBA := aM hB
                have HRA := aM hR
                obtain ⟨hf0, hf1, hf2, hf3, hf4, hf5, hf6, hf7, hf8⟩ := cells9 hF.blk
                obtain ⟨ha0, ha1, ha2, ha3, ha4⟩ := cells5 hA
                obtain ⟨hx0, hx1, hx2, hx3⟩ := cells4 hX
                clear hF hG hA hB hR hX hf0 hf1 hf3 hf4 hf5 hf6 hf7 hf8 ha0 ha2 ha3 ha4 hx2 hx3
                by_cases c8 : x.f0 = 8
                · have c6 : ¬ x.f0 = 6 := by omega
                  have e1 := HR3.out.1 c8
                  have c8b : (x.f0 == 8) = true := by simpa using c8
                  have c6b : (x.f0 == 6) = false := by simpa using c6
                  have e1b : (x.f1 != D.h) = false := by simpa using e1
                  clear c8 c6 e1
                  have rj := RJ.out
                  go_wp2
                  go_roundg (E.out.length - (j + 1))
                  case measure => exact HJ.out.1
                  case rel => exact ⟨j + 1, by first | rfl | (simp [rj]; done), HJ.out.2, Nat.le_refl _, HBA, HFA, HGA, HAA, HRA⟩
                · have c8b : (x.f0 == 8) = false := by simpa using c8
                  by_cases c6 : x.f0 = 6
                  · have e1 := HR3.out.2 c6
                    have c6b : (x.f0 == 6) = true := by simpa using c6
                    have e1b : (x.f1 != a.f1) = false := by simpa using e1
                    clear c8 c6 e1
                    have rj := RJ.out
                    go_wp2
                    go_roundg (E.out.length - (j + 1))
                    case measure => exact HJ.out.1
                    case rel => exact ⟨j + 1, by first | rfl | (simp [rj]; done), HJ.out.2, Nat.le_refl _, HBA, HFA, HGA, HAA, HRA⟩
                  · have c6b : (x.f0 == 6) = false := by simpa using c6
                    clear c8 c6
                    have rj := RJ.out
                    go_wp2
                    go_roundg (E.out.length - (j + 1))
                    case measure => exact HJ.out.1
                    case rel => exact ⟨j + 1, by first | rfl | (simp [rj]; done), HJ.out.2, Nat.le_refl _, HBA, HFA, HGA, HAA, HRA⟩
              · have hjz : ¬ ((j : Int) < (E.out.length : Int)) := by omega
                obtain ⟨hy0, hy1, hy2, hy3, hy4, hy5, hy6, hy7, hy8⟩ := cells9 HGS.out.blk
                obtain ⟨hq0, hq1, hq2, hq3, hq4, hq5, hq6, hq7, hq8⟩ := cells9 HFS.out.blk
                obtain ⟨hz0, hz1, hz2, hz3, hz4, hz5, hz6, hz7, hz8⟩ := froz9 HFS.out.blk
                clear hjt hjl hjk
                have ri := RI.out
                go_wp2
                go_roundg (l0.length - (i + 1))
                case measure => exact H56.out.1
                case rel => exact ⟨i + 1, E, _, _, by first | rfl | (simp [ri]; done), H56.out.2, Nat.le_refl _, aM (below_set (below_set (below_set (below_set (below_set (below_set (below_set (below_set (below_set HBS.out HFS.out.b4) HFS.out.b4) HFS.out.b4) HFS.out.b4) HFS.out.b4) HFS.out.b4) HFS.out.b4) HFS.out.b4) HFS.out.b4), aM ⟨blk_put9 HFS.out.blk, Kd.V_far9 (g := g4) (Kd.V_mono HGS.out.wait (ok' := fun k => k ≠ g4) (fun k hk => hk.1)) (fun k hk => hk) (.int .i64 E.s) (.int .i64 E.e) (.int .i64 E.h) (.int .i64 E.p) (.int .i64 E.u) (.int .i64 E.l) (.int .i64 E.n) (.slice A7n E.wait.length c7n) (.slice A8n E.mem.length c8n), Kd.V_far9 (g := g4) (Kd.V_mono HGS.out.mem (ok' := fun k => k ≠ g4) (fun k hk => hk.1)) (fun k hk => hk) (.int .i64 E.s) (.int .i64 E.e) (.int .i64 E.h) (.int .i64 E.p) (.int .i64 E.u) (.int .i64 E.l) (.int .i64 E.n) (.slice A7n E.wait.length c7n) (.slice A8n E.mem.length c8n), HFS.out.b4⟩, aM (by push_cast; exact HIE.out)⟩
end Go.Proofs.Ytflfmpfmnhpbmaa.PA
