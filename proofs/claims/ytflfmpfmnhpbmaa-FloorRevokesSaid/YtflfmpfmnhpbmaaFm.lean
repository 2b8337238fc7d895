/- The floor: what the printed functions come to. -/
import Derived.Test.YtflfmpfmnhpbmaaFl
import Derived.Test.YtflfmpfmnhpbmaaPAx6
import Derived.Test.YtflfmpfmnhpbmaaPAx9
import Derived.Test.YtflfmpfmnhpbmaaPAx14
set_option linter.unusedVariables false
set_option linter.unusedSimpArgs false
namespace Go.Proofs.Ytflfmpfmnhpbmaa.FL
open Go.RowKit Go.Proofs.Ytflfmpfmnhpbmaa.PA Go.Proofs.YtflfmpfmnhpbmaaW.PrintWords Go.Proofs.YtflfmpfmnhpbmaaW.PrintLast
theorem w64' (n : Int) (h0 : -9223372036854775808 ≤ n) (h1 : n ≤ 9223372036854775807) : wrap64 n = n := by unfold wrap64; omega
theorem rdW (l : List S43) (j : Nat) (h : j < l.length) : rd_T43 l (j : Int) = l[j] := by
  unfold rd_T43
  rw [Int.toNat_natCast, List.getD_eq_getElem?_getD, List.getElem?_eq_getElem h]; rfl
theorem rdA (l : List S32) (j : Nat) (h : j < l.length) : rd_T32 l (j : Int) = l[j] := by
  unfold rd_T32
  rw [Int.toNat_natCast, List.getD_eq_getElem?_getD, List.getElem?_eq_getElem h]; rfl
theorem rdI (l : List Int) (j : Nat) (h : j < l.length) : rd l (j : Int) = l[j] := by
  unfold rd
  rw [Int.toNat_natCast, List.getD_eq_getElem?_getD, List.getElem?_eq_getElem h]; rfl
theorem sx : ∀ i : Nat, i ≤ 4611686018427387904 → wrap64 ((i : Int) + 1) = ((i + 1 : Nat) : Int) := fun i h => by rw [w64' _ (by omega) (by omega)]; rfl
theorem packD_ok (D : Dk) : (packD D).2.2.2.2.2.2.2.2.2.2 = 0 := rfl
/-- What may be asked now. -/
def can (D : Dk) (a : S32) : Prop := (1 ≤ a.f0 ∧ a.f0 ≤ 6) ∧ askOk D.n a = true
instance (D : Dk) (a : S32) : Decidable (can D a) := by unfold can; exact inferInstance
theorem do_yes {D : Dk} (h : Ok D) (a : S32) (ha : can D a) (k : Nat) : floor_Do.f k D.s D.e D.h D.p D.u D.l D.n D.wait D.mem a.f0 a.f1 a.f2 a.f3 a.f4 = some (packD (doD (bareD D) a)) := by
  have hw := h.wl
  have hm := h.ml
  have hk : doOk D.s D.e D.h D.p D.u D.l D.n D.wait D.mem ⟨a.f0, a.f1, a.f2, a.f3, a.f4⟩ = true := by
    unfold doOk
    rw [Bool.and_eq_true, Bool.and_eq_true]
    exact ⟨⟨decide_eq_true ha.1, (okD_iff D).2 h⟩, ha.2⟩
  unfold floor_Do.f
  rw [if_pos (by omega), if_pos hk]
  rfl
theorem do_no {D : Dk} (h : Ok D) (a : S32) (ha : ¬ can D a) (k : Nat) : floor_Do.f k D.s D.e D.h D.p D.u D.l D.n D.wait D.mem a.f0 a.f1 a.f2 a.f3 a.f4 = some (0, 0, 0, 0, 0, 0, 0, [], [], [], 1) := by
  have hw := h.wl
  have hm := h.ml
  have hk : ¬ doOk D.s D.e D.h D.p D.u D.l D.n D.wait D.mem ⟨a.f0, a.f1, a.f2, a.f3, a.f4⟩ = true := by
    unfold doOk
    rw [Bool.and_eq_true, Bool.and_eq_true]
    exact fun q => ha ⟨of_decide_eq_true q.1.1, q.2⟩
  unfold floor_Do.f
  rw [if_pos (by omega), if_neg hk]
theorem check_f (D : Dk) (k : Nat) : floor_Check.f k D.s D.e D.h D.p D.u D.l D.n D.wait D.mem = some (if okD D = true then 0 else 1) := rfl
theorem check_ok {D : Dk} (h : Ok D) (k : Nat) : floor_Check.f k D.s D.e D.h D.p D.u D.l D.n D.wait D.mem = some 0 := by rw [check_f, if_pos ((okD_iff D).2 h)]
theorem forward_f {D : Dk} (h : Ok D) (who ep : Int) (k : Nat) : floor_Forward.f k D.s D.e D.h D.p D.u D.l D.n D.wait D.mem who ep = some (decide (D.s ≠ 0 ∧ D.h = who ∧ D.e = ep)) := by
  unfold floor_Forward.f
  rw [check_ok h]
  by_cases h0 : D.s = 0
  · rw [if_pos h0]; simp [h0]
  · rw [if_neg h0]
    by_cases h1 : D.h = who
    · rw [if_pos h1]
      by_cases h2 : D.e = ep
      · rw [if_pos h2]; simp [h0, h1, h2]
      · rw [if_neg h2]; simp [h2]
    · rw [if_neg h1]; simp [h1]
theorem mem_ev {D : Dk} (h : Ok D) (who : Int) : Ev (fun k => floor_member.f k D.s D.e D.h D.p D.u D.l D.n D.wait D.mem who) (decide (who ∈ D.mem)) := by
  have hm := h.ml
  unfold floor_member.f
  exact Ev.bind (bs_ev D.mem (by omega) h.rise who).2.2.2 (Ev.now _)
theorem member_ev {D : Dk} (h : Ok D) (who : Int) : Ev (fun k => floor_Member.f k D.s D.e D.h D.p D.u D.l D.n D.wait D.mem who) (decide (who ∈ D.mem)) := by
  unfold floor_Member.f
  simp only [check_ok h, Option.bind_some, if_pos]
  exact Ev.bind (mem_ev h who) (Ev.now _)
/-- Whose place. -/
def plc (who : Int) (l : List S43) : Int := idxP (isWho who) l 0 + 1
theorem plc_le (who : Int) (l : List S43) : 0 ≤ plc who l ∧ plc who l ≤ l.length := by
  unfold plc
  rcases idxP_split (isWho who) l with hn | ⟨a, z, b, e, ha, hz⟩
  · rw [idxP_no _ _ hn]; omega
  · rw [e, idxP_at _ a z b ha hz, List.length_append, List.length_cons]; omega
theorem plc_pos (who : Int) (l : List S43) : 0 < plc who l ↔ ∃ x ∈ l, x.f0 = who := by
  unfold plc
  rcases idxP_split (isWho who) l with hn | ⟨a, z, b, e, ha, hz⟩
  · rw [idxP_no _ _ hn]
    exact ⟨fun h => by omega, fun ⟨x, hx, h⟩ => absurd h (isWho_f.1 (hn x hx))⟩
  · rw [e, idxP_at _ a z b ha hz]
    exact ⟨fun _ => ⟨z, by simp, isWho_t.1 hz⟩, fun _ => by omega⟩
theorem plc_zero (who : Int) (l : List S43) : plc who l = 0 ↔ ∀ x ∈ l, x.f0 ≠ who := by
  have h1 := plc_pos who l
  have h2 := (plc_le who l).1
  constructor
  · intro h x hx e
    have := h1.2 ⟨x, hx, e⟩
    omega
  · intro h
    by_cases hp : 0 < plc who l
    · obtain ⟨x, hx, e⟩ := h1.1 hp
      exact absurd e (h x hx)
    · omega
theorem place_f {D : Dk} (h : Ok D) (who : Int) (k : Nat) : floor_Place.f k D.s D.e D.h D.p D.u D.l D.n D.wait D.mem who = some (plc who D.wait) := by
  unfold floor_Place.f
  rw [check_ok h, Option.bind_some, if_pos rfl]
  have := plc_le who D.wait
  have hw := h.wl
  show (some (idxP (isWho who) D.wait 0)).bind _ = _
  rw [Option.bind_some]
  show some (wrap64 (plc who D.wait)) = _
  rw [w64' _ (by omega) (by omega)]
theorem eqI_l0 (l : List Int) (hl : l.length ≤ 1000) (d : Nat) : ∀ i : Nat, i + d = l.length → Ev (fun k => squelchref03_Equal.l0 k l l (l.length : Int) (i : Int)) true := by
  induction d with
  | zero => exact fun i hi => Ev.step (f := fun _ => some true) (fun k => by rw [squelchref03_Equal.l0, if_neg (by omega)]) (Ev.now _)
  | succ d ih =>
    intro i hi
    refine Ev.step (fun k => ?_) (ih (i + 1) (by omega))
    rw [squelchref03_Equal.l0, if_pos (by omega), if_pos (by omega), if_pos (by omega), if_pos (by omega), if_pos rfl, sx i (by omega)]
theorem eqI_ev (l : List Int) (hl : l.length ≤ 1000) : Ev (fun k => squelchref03_Equal.f k l l) true := by
  unfold squelchref03_Equal.f
  simp only [if_true]
  exact eqI_l0 l hl l.length 0 (Nat.zero_add _)
theorem eqF_l0 (s e h p u l n : Int) (wait : List S43) (mem : List Int) (hl : wait.length ≤ 1000) (d : Nat) : ∀ i : Nat, i + d = wait.length → Ev (fun k => squelchref18_Equal.l0 k (wait.length : Int) (i : Int) s e h p u l n wait mem s e h p u l n wait mem) true := by
  induction d with
  | zero => exact fun i hi => Ev.step (f := fun _ => some true) (fun k => by rw [squelchref18_Equal.l0, if_neg (by omega)]) (Ev.now _)
  | succ d ih =>
    intro i hi
    refine Ev.step (fun k => ?_) (ih (i + 1) (by omega))
    rw [squelchref18_Equal.l0, if_pos (by omega), if_pos (by omega), if_pos (by omega), if_pos (by omega), if_neg (by simp), sx i (by omega)]
/-- A floor is the same as itself. -/
theorem eqF_ev (s e h p u l n : Int) (wait : List S43) (mem : List Int) (hl : wait.length ≤ 1000) (hm : mem.length ≤ 1000) : Ev (fun k => squelchref18_Equal.f k s e h p u l n wait mem s e h p u l n wait mem) true := by
  unfold squelchref18_Equal.f
  simp only [if_true]
  refine Ev.bind (eqI_ev mem hm) ?_
  simp only [if_true, bne_self_eq_false]
  exact Ev.step (fun k => by rw [squelchref18_Equal.j0, if_neg (by decide)]; rfl) (eqF_l0 s e h p u l n wait mem hl wait.length 0 (Nat.zero_add _))
theorem live_ev : Ev (fun k => squelchlaw18_live.f k) true := Ev.of squelchlaw18_live.mono (k := 100) (by decide +kernel)
end Go.Proofs.Ytflfmpfmnhpbmaa.FL
