/- body: what is done with a wheel that may be, and what it leaves; walked by hand. -/
import Derived.Test.YtbgkmbghmhgajaaWu
import Derived.Test.YtbgkmbghmhgajaaPAx4
import Derived.Test.YtbgkmbghmhgajaaPAx8
import Derived.Test.YtbgkmbghmhgajaaPAx11
import Derived.Test.YtbgkmbghmhgajaaHStop
namespace Go.Proofs.Ytbgkmbghmhgajaa.PA
open Go.RowKit Go.Proofs.YtbgkmbghmhgajaaW.PrintWords Go.Proofs.YtbgkmbghmhgajaaW.PrintLast Go.Proofs.YtbgkmbghmhgajaaW.PrintMore Go.Proofs.Ytbgkmbghmhgajaa.WT Go.Proofs.Ytbgkmbghmhgajaa.WU
set_option linter.unusedVariables false
set_option linter.unusedSimpArgs false
theorem aM {p : Prop} (h : p) : Aside0 p := Aside0.mk h
theorem cells2 {w : World} {g : Nat} {t : TypeId} {v0 v1 : Value} (h : w.heap[g]? = some (.cells #[v0, v1] t (0, 0))) : w.cell? ⟨g, 0, none⟩ = some v0 ∧ w.cell? ⟨g, 1, none⟩ = some v1 := ⟨(blk_cell h 0).trans rfl, (blk_cell h 1).trans rfl⟩
theorem cells3 {w : World} {g : Nat} {t : TypeId} {v0 v1 v2 : Value} (h : w.heap[g]? = some (.cells #[v0, v1, v2] t (0, 0))) : w.cell? ⟨g, 0, none⟩ = some v0 ∧ w.cell? ⟨g, 1, none⟩ = some v1 ∧ w.cell? ⟨g, 2, none⟩ = some v2 := ⟨(blk_cell h 0).trans rfl, (blk_cell h 1).trans rfl, (blk_cell h 2).trans rfl⟩
theorem froz2 {w : World} {g : Nat} {t : TypeId} {cs : Array Value} (h : w.heap[g]? = some (.cells cs t (0, 0))) : w.frozen? ⟨g, 0, none⟩ = false ∧ w.frozen? ⟨g, 1, none⟩ = false := ⟨blk_frozen h 0, blk_frozen h 1⟩
theorem V_below2 {α : Type} {d : Kd α} {e : Nat} {W W' : World} {base : Nat} {ok : Nat → Prop} {v : Value} {xs : List α} (h : Kd.V d e W base ok v xs) (hb : Below W.heap.size W W') : Kd.V d e W' base (fun k => ok k ∨ W.heap.size ≤ k) v xs := Kd.V_mono (Kd.V_below h hb) (fun k hk => .inl hk)
theorem R_new {α : Type} {d : Kd α} {e : Nat} {W : World} {base b0 : Nat} {ok : Nat → Prop} {v : Value} {xs : List α} (h : Kd.R d e W base ok v xs) (hb : b0 ≤ base) : Kd.V d e W base (fun k => b0 ≤ k) v xs := Kd.R_V (base := base) (Kd.R_mono (Kd.R_bound h) (fun k hk => Nat.le_trans hb hk.2.1))
theorem results_cttt {P : Program} {fn : Func} {p u v x : Tmp} {ty : TypeId} (h : fn.results = #[.cell p ty, .tmp u, .tmp v, .tmp x]) (tmps : Array Value) (w : World) (g : Nat) (t : TypeId) (cs : Array Value) (fr : Nat × Nat) (d : TypeDesc)
    (hp : tmps.getD p undef = .pointer (some ⟨g, 0, none⟩)) (hg : w.heap[g]? = some (.cells cs t fr))
    (hu : P.underlying ty = some d) (hd : (match d with | .struct _ | .array _ _ => true | _ => false) = true) (hi : (P.info? ty).map (·.size) = some cs.size) :
    (results fn tmps).run P w = .ok (.tuple #[.agg cs, tmps.getD u undef, tmps.getD v undef, tmps.getD x undef]) w := by
  have hp' : tmps[p]?.getD undef = .pointer (some ⟨g, 0, none⟩) := by simpa using hp
  simp [results, h, hp', asAddr, run_loadVar_row w g t ty cs fr d hg hu hd hi]
theorem C_two {W : World} {g t : Nat} {p q : Int} (h : W.heap[g]? = some (.cells #[.int .i64 p, .int .i64 q] t (0, 0))) (hp : (Lit.int .i64 p).wf = true) (hq : (Lit.int .i64 q).wf = true) : (Kd.int .i64).C W (some ⟨g, 0, none⟩) [p, q].length [p, q] := by
  refine ⟨rfl, (by show (2 : Nat) ≤ _; decide), fun _ => ⟨_, rfl, fun j x hj => ?_⟩⟩
  match j, hj with
  | 0, hj =>
    obtain rfl := Option.some.inj hj
    refine ⟨[.int .i64 p], rfl, ?_, fun i u hu => ?_⟩
    · first | exact ⟨rfl, hp⟩ | rfl | simp
    · match i, hu with
      | 0, hu => obtain rfl := Option.some.inj hu; exact (blk_cell h 0).trans rfl
  | 1, hj =>
    obtain rfl := Option.some.inj hj
    refine ⟨[.int .i64 q], rfl, ?_, fun i u hu => ?_⟩
    · first | exact ⟨rfl, hq⟩ | rfl | simp
    · match i, hu with
      | 0, hu => obtain rfl := Option.some.inj hu; exact (blk_cell h 1).trans rfl
theorem bnd64 {n : Int} (h : (Lit.int .i64 n).wf = true) : -9223372036854775808 ≤ n ∧ n ≤ 9223372036854775807 := by
  have hmin : IntKind.min .i64 = -9223372036854775808 := by decide
  have hmax : IntKind.max .i64 = 9223372036854775807 := by decide
  have h2 : (decide (IntKind.min .i64 ≤ n) && decide (n ≤ IntKind.max .i64)) = true := h
  rw [hmin, hmax, Bool.and_eq_true_iff] at h2
  exact ⟨of_decide_eq_true h2.1, of_decide_eq_true h2.2⟩
/-- What body answers. -/
def BodyPost (a : Int) (l : List S33) (d p q : Int) (w : World) (base : Nat) (ok : Nat → Prop) (e : Ending) (w' : World) : Prop :=
  ∃ (v1 v2 : Value) (r1 : Int) (r2 r3 : List S33) (n r4 : Int), e = .returned (.tuple #[.agg #[.int .i64 r1, v1], v2, .int .i64 n, .int .i64 r4]) ∧
    (r4 = 0 → Bd a l d p q r1 r2 r3) ∧ Kd.V k33 33 w' base (fun k => ok k ∨ w.heap.size ≤ k) v1 r2 ∧ Kd.V k33 33 w' base (fun k => w.heap.size ≤ k) v2 r3 ∧ Below w.heap.size w w'
theorem V_far2 {α : Type} {d : Kd α} {e : TypeId} {W : World} {base : Nat} {ok : Nat → Prop} {v : Value} {xs : List α} {g : Nat} (h : Kd.V d e W base ok v xs) (hok : ∀ k, ok k → k ≠ g) (u0 u1 : Value) : Kd.V d e ((W.setCell ⟨g, 0, none⟩ u0).setCell ⟨g, 1, none⟩ u1) base ok v xs := (Kd.V_far (p := ⟨g, 1, none⟩) (Kd.V_far (p := ⟨g, 0, none⟩) h hok u0) hok u1)
theorem blk_put2 {w : World} {g : Nat} {t : TypeId} {c0 c1 u0 u1 : Value} (h : w.heap[g]? = some (.cells #[c0, c1] t (0, 0))) : ((w.setCell ⟨g, 0, none⟩ u0).setCell ⟨g, 1, none⟩ u1).heap[g]? = some (.cells #[u0, u1] t (0, 0)) := (blk_put (cs' := #[u0, u1]) (blk_put (cs' := #[u0, c1]) h 0 u0 rfl) 1 u1 rfl)
set_option maxHeartbeats 4000000 in
set_option maxRecDepth 100000 in
theorem body_calls (a : Int) (A : Option Addr) (c : Nat) (l : List S33) (d p q : Int) (w : World) (base : Nat) (ok : Nat → Prop) (hr : Kd.V k33 33 w base ok (.slice A l.length c) l) (hv : Valid a l) (hp : (Lit.int .i64 p).wf = true) (hq : (Lit.int .i64 q).wf = true) :
    Calls Try.prog 14 #[.agg #[.int .i64 a, .slice A l.length c], .agg #[.int .i64 d, .int .i64 p, .int .i64 q]] w (BodyPost a l d p q w base ok) := by
  have HV := aM hr
  have HB := aM (Below.refl w.heap.size w)
  have HP := aM hp
  have HQ := aM hq
  have HVA := aM hv
  clear hr hv hp hq
  go_enter Try.func14, Try.ntmps14
  go_upto_region 1 with (fail)
  have hb2 := blk_alloc (blk_alloc (heap_alloc_new w (.cells #[.int .i64 a, .slice A l.length c] 24)) (.cells #[.int .i64 d, .int .i64 p, .int .i64 q] 43)) (.cells #[.int .i64 0, .slice none 0 0] 24)
  have hb3 := blk_alloc (heap_alloc_new (w.alloc (.cells #[.int .i64 a, .slice A l.length c] 24)) (.cells #[.int .i64 d, .int .i64 p, .int .i64 q] 43)) (.cells #[.int .i64 0, .slice none 0 0] 24)
  have hb4 := heap_alloc_new ((w.alloc (.cells #[.int .i64 a, .slice A l.length c] 24)).alloc (.cells #[.int .i64 d, .int .i64 p, .int .i64 q] 43)) (.cells #[.int .i64 0, .slice none 0 0] 24)
  have hB0 := below_alloc (below_alloc (below_alloc HB.out (.cells #[.int .i64 a, .slice A l.length c] 24)) (.cells #[.int .i64 d, .int .i64 p, .int .i64 q] 43)) (.cells #[.int .i64 0, .slice none 0 0] 24)
  simp only [World.size_alloc] at hb2 hb3 hb4
  have hg2 : w.heap.size ≤ w.heap.size := Nat.le_refl _
  have hg4 : w.heap.size ≤ w.heap.size + 1 + 1 := by omega
  generalize (((w.alloc (.cells #[.int .i64 a, .slice A l.length c] 24)).alloc (.cells #[.int .i64 d, .int .i64 p, .int .i64 q] 43)).alloc (.cells #[.int .i64 0, .slice none 0 0] 24)) = w0 at hb2 hb3 hb4 hB0 ⊢
  have HG := aM hg4
  generalize w.heap.size + 1 + 1 = g4 at hb4 HG ⊢
  generalize w.heap.size + 1 = g3 at hb3 ⊢
  obtain ⟨g2, hg2e⟩ : ∃ g2, g2 = w.heap.size := ⟨_, rfl⟩
  rw [← hg2e] at hb2 ⊢
  clear hg2 hg4 hg2e HB
  have HB0 := aM hB0
  have BK2 := aM hb2
  have BK4 := aM hb4
  have hG4 := blk_lt hb4
  have HL4 := aM hG4
  have HC := aM (Kd.C_below (Kd.V_reads' HV.out).2.2 hB0)
  have HLC := aM (Kd.V_reads' HV.out).2.1
  obtain ⟨hx0, hx1⟩ := cells2 hb2
  obtain ⟨hy0, hy1, hy2⟩ := cells3 hb3
  clear hb2 hb3 hb4 hB0 hG4
  by_cases h0 : d = 0
  · have h0b : (d == 0) = true := by simpa using h0
    obtain ⟨r1, r2, r3, hev, hpost⟩ := set_all HVA.out p q
    obtain ⟨k, hk⟩ := hev.rounds
    have HK := aM hk
    have HPO := aM hpost
    have HD := aM h0
    clear hev hpost hk h0
    go_wp2_with (go_at_call 15; refine (wheel_Set.calls k a A c l p q r1 r2 r3 _ HC.out HLC.out HK.out).mono ?_; rintro e w2 ⟨v1, rfl, h1, hb⟩; obtain ⟨A1, c1, ev1⟩ := Kd.R_slice h1; subst ev1; have HR1 := aM h1; have HB2 := aM (below_step HB0.out hb); have HK4 := aM (blk_below BK4.out hb); have hz0 := fun o => (cells2 (blk_alloc HK4.out o)).1; have hz1 := fun o => (cells2 (blk_alloc HK4.out o)).2; have hq0 := fun o => (froz2 (blk_alloc HK4.out o)).1; have hq1 := fun o => (froz2 (blk_alloc HK4.out o)).2; clear hb h1 hx0 hx1 hy0 hy1 hy2)
    refine bodyPost_ret (results_cttt rfl _ _ g4 24 #[.int .i64 r1, .slice A1 r2.length c1] (0, 0) _ rfl (blk_put2 (blk_alloc HK4.out _)) Try.underlying24 rfl (by kernel_rfl)) rfl ?_
    refine ⟨_, .slice none 0 0, r1, r2, [], 0, r3, rfl, fun h3 => ?_, Kd.V_mono (V_far2 (Kd.V_alloc (R_new HR1.out (Nat.le_refl _)) _) (fun k (hk : w0.heap.size ≤ k) => (by have := HL4.out; omega)) _ _) (fun k hk => .inr (Nat.le_trans HB0.out.size hk)), Kd.V_nil _ _ _ _ _, below_set (below_set (below_alloc HB2.out _) HG.out) HG.out⟩
    have q := HPO.out h3
    have hd := HD.out
    obtain ⟨rfl, q⟩ := q
    exact ⟨q.val, fun _ => ⟨rfl, q⟩, fun e => by omega, fun e => by omega, fun e => absurd hd e⟩
  have h0b : (d == 0) = false := by simpa using h0
  by_cases h1 : d = 1
  · have h1b : (d == 1) = true := by simpa using h1
    have hev := stop2_ev HVA.out p q
    obtain ⟨k, hk⟩ := hev.rounds
    have HK := aM hk
    have HD := aM h1
    have hvw := WU.Valid.wo (WU.Valid.wo HVA.out p) q
    have HVW := aM hvw
    obtain ⟨ls, hls⟩ : ∃ ls, ls = wo q (wo p l) := ⟨_, rfl⟩
    obtain ⟨n, hn⟩ : ∃ n : Int, n = (l.length : Int) - ((wo q (wo p l)).length : Int) := ⟨_, rfl⟩
    rw [← hn, ← hls] at HK
    rw [← hls] at HVW
    have HLS := aM hls
    clear hev hk h0 h1 hvw hn hls
    go_wp2_with (fail)
    go_at_call 16
    refine (wheel_Stop.calls k a A c l (some ⟨w0.heap.size, 0, none⟩) 2 [p, q] a ls n 0 _ (Kd.C_below HC.out (below_alloc (Below.refl _ w0) _)) HLC.out ?side1 (Nat.le_refl 2) HK.out).mono ?_
    case side1 => exact C_two (heap_alloc_new w0 _) HP.out HQ.out
    rintro e w2 ⟨v1, rfl, h1, hb⟩; obtain ⟨A1, c1, ev1⟩ := Kd.R_slice h1; subst ev1; have HR1 := aM h1; have HB2 := aM (below_step (below_alloc HB0.out _) hb); have HK4 := aM (blk_below (blk_alloc BK4.out _) hb); have hz0 := fun o => (cells2 (blk_alloc HK4.out o)).1; have hz1 := fun o => (cells2 (blk_alloc HK4.out o)).2; have hq0 := fun o => (froz2 (blk_alloc HK4.out o)).1; have hq1 := fun o => (froz2 (blk_alloc HK4.out o)).2; clear hb h1 hx0 hx1 hy0 hy1 hy2
    go_wp2
    refine bodyPost_ret (results_cttt rfl _ _ g4 24 #[.int .i64 a, .slice A1 ls.length c1] (0, 0) _ rfl (blk_put2 (blk_alloc HK4.out _)) Try.underlying24 rfl (by kernel_rfl)) rfl ?_
    refine ⟨_, .slice none 0 0, a, ls, [], n, 0, rfl, fun h3 => ?_, Kd.V_mono (V_far2 (Kd.V_alloc (R_new HR1.out (Nat.le_of_lt (by have := World.size_alloc w0 (.cells #[.int .i64 p, .int .i64 q] 3); omega))) _) (fun k (hk : w0.heap.size ≤ k) => (by have := HL4.out; omega)) _ _) (fun k hk => .inr (Nat.le_trans HB0.out.size hk)), Kd.V_nil _ _ _ _ _, below_set (below_set (below_alloc HB2.out _) HG.out) HG.out⟩
    have hd := HD.out
    exact ⟨HVW.out, fun e => by omega, fun _ => ⟨rfl, HLS.out⟩, fun e => by omega, fun _ e => absurd hd e⟩
  have h1b : (d == 1) = false := by simpa using h1
  by_cases h2 : d = 2
  · have h2b : (d == 2) = true := by simpa using h2
    have hpb := bnd64 HP.out
    obtain ⟨r1, r2, r3, r4, hev, hpost⟩ := turn_all HVA.out p hpb.1 hpb.2
    obtain ⟨k, hk⟩ := hev.rounds
    have HK := aM hk
    have HPO := aM hpost
    have HD := aM h2
    clear hev hpost hk h0 h1 h2 hpb
    go_wp2_with (fail)
    go_at_call 10
    refine (wheel_Turn.calls k a A c l p r1 r2 r3 r4 _ HC.out HLC.out HK.out).mono ?_
    rintro e w2 ⟨v1, v2, rfl, h1, h2, hb⟩; obtain ⟨A1, c1, ev1⟩ := Kd.R_slice h1; subst ev1; obtain ⟨A2, c2, ev2⟩ := Kd.R_slice h2; subst ev2; have HR1 := aM h1; have HR2 := aM h2; have HB2 := aM (below_step HB0.out hb); have HK4 := aM (blk_below BK4.out hb); have hz0 := fun o => (cells2 (blk_alloc HK4.out o)).1; have hz1 := fun o => (cells2 (blk_alloc HK4.out o)).2; have hq0 := fun o => (froz2 (blk_alloc HK4.out o)).1; have hq1 := fun o => (froz2 (blk_alloc HK4.out o)).2; clear hb h1 h2 hx0 hx1 hy0 hy1 hy2
    go_wp2
    refine bodyPost_ret (results_cttt rfl _ _ g4 24 #[.int .i64 r1, .slice A1 r2.length c1] (0, 0) _ rfl (blk_put2 (blk_alloc HK4.out _)) Try.underlying24 rfl (by kernel_rfl)) rfl ?_
    refine ⟨_, _, r1, r2, r3, 0, r4, rfl, fun h3 => ?_, Kd.V_mono (V_far2 (Kd.V_alloc (R_new HR1.out (Nat.le_refl _)) _) (fun k (hk : w0.heap.size ≤ k) => (by have := HL4.out; omega)) _ _) (fun k hk => .inr (Nat.le_trans HB0.out.size hk)), Kd.V_mono (V_far2 (Kd.V_alloc (R_new HR2.out (Nat.le_refl _)) _) (fun k (hk : w0.heap.size ≤ k) => (by have := HL4.out; omega)) _ _) (fun k hk => Nat.le_trans HB0.out.size hk), below_set (below_set (below_alloc HB2.out _) HG.out) HG.out⟩
    have hd := HD.out
    obtain ⟨q1, q2⟩ := HPO.out h3
    exact ⟨q1, fun e => by omega, fun e => by omega, fun _ => q2, fun _ _ e => absurd hd e⟩
  · have h2b : (d == 2) = false := by simpa using h2
    obtain ⟨⟨n, is⟩, hev⟩ := at_all HVA.out p
    obtain ⟨k, hk⟩ := hev.rounds
    have HK := aM hk
    obtain ⟨⟨m, has⟩, hev2⟩ : ∃ r, Ev (fun k => wheel_Next.f k a l) r := ⟨_, next_ev HVA.out⟩
    obtain ⟨k2, hk2⟩ := hev2.rounds
    have HK2 := aM hk2
    have HD := aM (And.intro h0 (And.intro h1 h2))
    clear hev hk h0 h1 h2 hev2 hk2
    have HGW := HG
    go_wp2_with (fail)
    go_at_call 11
    refine (wheel_At.calls k a A c l p n is _ HC.out HLC.out HK.out).mono ?_
    rintro e w2 ⟨rfl, hb⟩
    have HBX := aM hb
    have HB2 := aM (below_step HB0.out hb)
    have HK3 := aM (blk_below BK2.out hb)
    have HK4 := aM (blk_below BK4.out hb)
    have HC2 := aM (Kd.C_below HC.out hb)
    obtain ⟨hz0, hz1⟩ := cells2 HK3.out
    clear hb hx0 hx1 hy0 hy1 hy2
    go_wp2_with (fail)
    go_at_call 9
    refine (wheel_Next.calls k2 a A c l m has _ HC2.out HLC.out HK2.out).mono ?_
    rintro e w3 ⟨rfl, hb⟩
    have HBY := aM hb
    have HB3 := aM (below_step HB2.out hb)
    have HK5 := aM (blk_below HK4.out hb)
    obtain ⟨hu0, hu1⟩ := cells2 (blk_below HK3.out hb)
    obtain ⟨hq0, hq1⟩ := froz2 HK5.out
    obtain ⟨ht0, ht1⟩ := cells2 HK5.out
    clear hb hz0 hz1
    go_wp2
    all_goals (refine bodyPost_ret (results_cttt rfl _ _ g4 24 #[.int .i64 a, .slice A l.length c] (0, 0) _ rfl (blk_put2 HK5.out) Try.underlying24 rfl (by kernel_rfl)) rfl ?_)
    all_goals (refine ⟨_, .slice none 0 0, a, l, [], _, 0, rfl, fun h3 => ⟨HVA.out, fun e => absurd e HD.out.1, fun e => absurd e HD.out.2.1, fun e => absurd e HD.out.2.2, fun _ _ _ => ⟨rfl, rfl⟩⟩, Kd.V_mono (V_far2 (Kd.V_below (Kd.V_below (Kd.V_old HV.out HB0.out) HBX.out) HBY.out) (fun k hk => (by have := hk.2; have := HGW.out; omega)) _ _) (fun k hk => .inl hk.1), Kd.V_nil _ _ _ _ _, below_set (below_set HB3.out HG.out) HG.out⟩)
end Go.Proofs.Ytbgkmbghmhgajaa.PA
