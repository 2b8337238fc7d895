/- The floor as plain lists: what may be stays what may be; no memory in sight. -/
import Derived.Test.YtflfmpfmnhpbmaaHDoD
set_option linter.unusedVariables false
set_option linter.unusedSimpArgs false
namespace Go.Proofs.Ytflfmpfmnhpbmaa.FL
open Go.RowKit Go.Proofs.Ytflfmpfmnhpbmaa.PA Go.Proofs.YtflfmpfmnhpbmaaW.PrintWords Go.Proofs.YtflfmpfmnhpbmaaW.PrintLast
theorem idxP_no {α : Type} (p : α → Bool) (l : List α) (h : ∀ x ∈ l, p x = false) : ∀ i, idxP p l i = -1 := by
  induction l with
  | nil => exact fun _ => rfl
  | cons x r ih =>
    intro i
    rw [idxP, if_neg (by rw [h x (List.mem_cons_self ..)]; decide)]
    exact ih (fun y hy => h y (List.mem_cons_of_mem _ hy)) _
theorem idxP_at {α : Type} (p : α → Bool) (a : List α) (x : α) (b : List α) (h : ∀ y ∈ a, p y = false) (hx : p x = true) : ∀ i, idxP p (a ++ x :: b) i = i + (a.length : Int) := by
  induction a with
  | nil => intro i; rw [List.nil_append, idxP, if_pos hx]; simp
  | cons y r ih =>
    intro i
    rw [List.cons_append, idxP, if_neg (by rw [h y (List.mem_cons_self ..)]; decide), ih (fun z hz => h z (List.mem_cons_of_mem _ hz)), List.length_cons]
    omega
theorem idxP_split {α : Type} (p : α → Bool) (l : List α) : (∀ x ∈ l, p x = false) ∨ ∃ a x b, l = a ++ x :: b ∧ (∀ y ∈ a, p y = false) ∧ p x = true := by
  induction l with
  | nil => exact .inl fun x hx => by cases hx
  | cons x r ih =>
    by_cases hx : p x = true
    · exact .inr ⟨[], x, r, rfl, (fun y hy => by cases hy), hx⟩
    · rcases ih with h | ⟨a, y, b, rfl, h1, h2⟩
      · exact .inl fun y hy => by
          rcases List.mem_cons.1 hy with rfl | hy
          · simpa using hx
          · exact h y hy
      · refine .inr ⟨x :: a, y, b, rfl, fun z hz => ?_, h2⟩
        rcases List.mem_cons.1 hz with rfl | hz
        · simpa using hx
        · exact h1 z hz
theorem isWho_f {w : Int} {x : S43} : isWho w x = false ↔ x.f0 ≠ w := by unfold isWho; simp
theorem isWho_t {w : Int} {x : S43} : isWho w x = true ↔ x.f0 = w := by unfold isWho; simp
theorem wiB_iff' {n m : Int} : wiB n m = true ↔ 0 ≤ n ∧ n ≤ m := by unfold wiB; simp
theorem idx_dist (pre : List S43) (x : S43) (r : List S43) : idxP (isWho x.f0) (pre ++ x :: r) 0 = (pre.length : Int) ↔ ∀ y ∈ pre, y.f0 ≠ x.f0 := by
  constructor
  · intro h y hy
    rcases idxP_split (isWho x.f0) (pre ++ x :: r) with hn | ⟨a, z, b, e, ha, hz⟩
    · exact absurd (hn x (by simp)) (by rw [isWho_f]; simp)
    · rw [e, idxP_at _ a z b ha hz] at h
      have hl : a.length = pre.length := by omega
      have := (List.append_inj e hl.symm).1
      rw [this] at hy
      exact isWho_f.1 (ha y hy)
  · intro h
    rw [idxP_at _ pre x r (fun y hy => isWho_f.2 (h y hy)) (isWho_t.2 rfl)]
    omega
/-- Those who wait, as they may. -/
structure OkWait (mem : List Int) (h prio : Int) (l : List S43) : Prop where
  each : ∀ x ∈ l, x.f0 ∈ mem ∧ x.f0 ≠ h ∧ 0 ≤ x.f1 ∧ x.f1 ≤ prio
  sort : l.Pairwise (fun a b => b.f1 ≤ a.f1)
  dist : l.Pairwise (fun a b => a.f0 ≠ b.f0)
theorem okW_iff (mem : List Int) (h : Int) (l : List S43) : ∀ (pre : List S43) (prio : Int),
    okW mem h (pre ++ l) prio pre.length l = true ↔ OkWait mem h prio l ∧ ∀ x ∈ l, ∀ y ∈ pre, y.f0 ≠ x.f0 := by
  induction l with
  | nil => exact fun pre prio => ⟨fun _ => ⟨⟨(fun x hx => by cases hx), .nil, .nil⟩, fun x hx => by cases hx⟩, fun _ => rfl⟩
  | cons x r ih =>
    intro pre prio
    have e : pre ++ x :: r = (pre ++ [x]) ++ r := by simp
    have el : pre.length + 1 = (pre ++ [x]).length := by simp
    rw [okW, Bool.and_eq_true, Bool.and_eq_true, Bool.and_eq_true, Bool.and_eq_true, beq_iff_eq, idx_dist, e, el, ih, decide_eq_true_iff, bne_iff_ne, wiB_iff']
    constructor
    · rintro ⟨⟨⟨⟨h1, h2⟩, h3, h4⟩, h5⟩, ⟨g1, g2, g3⟩, h6⟩
      refine ⟨⟨fun y hy => ?_, ?_, ?_⟩, fun y hy z hz => ?_⟩
      · rcases List.mem_cons.1 hy with rfl | hy
        · exact ⟨h1, h2, h3, h4⟩
        · obtain ⟨q1, q2, q3, q4⟩ := g1 y hy
          exact ⟨q1, q2, q3, by omega⟩
      · exact List.pairwise_cons.2 ⟨fun y hy => (g1 y hy).2.2.2, g2⟩
      · exact List.pairwise_cons.2 ⟨fun y hy => h6 y hy x (by simp), g3⟩
      · rcases List.mem_cons.1 hy with rfl | hy
        · exact h5 z hz
        · exact h6 y hy z (by simp [hz])
    · rintro ⟨⟨g1, g2, g3⟩, h6⟩
      obtain ⟨q1, q2, q3, q4⟩ := g1 x (List.mem_cons_self ..)
      have p2 := List.pairwise_cons.1 g2
      have p3 := List.pairwise_cons.1 g3
      refine ⟨⟨⟨⟨q1, q2⟩, q3, q4⟩, fun y hy => h6 x (List.mem_cons_self ..) y hy⟩, ⟨fun y hy => ?_, p2.2, p3.2⟩, fun y hy z hz => ?_⟩
      · obtain ⟨r1, r2, r3, r4⟩ := g1 y (List.mem_cons_of_mem _ hy)
        exact ⟨r1, r2, r3, p2.1 y hy⟩
      · rcases List.mem_append.1 hz with hz | hz
        · exact h6 y (List.mem_cons_of_mem _ hy) z hz
        · rw [List.mem_singleton.1 hz]; exact p3.1 y hy
theorem okM_iff (mem : List Int) : ∀ last, okM last mem = true ↔ mem.Pairwise (· < ·) ∧ ∀ t ∈ mem, last < t ∧ t ≤ 1073741824 := by
  intro last
  refine ⟨okM_rise mem last, ?_⟩
  induction mem generalizing last with
  | nil => exact fun _ => rfl
  | cons m r ih =>
    rintro ⟨h1, h2⟩
    have p := List.pairwise_cons.1 h1
    have q := h2 m (List.mem_cons_self ..)
    rw [okM, ih m ⟨p.2, fun t ht => ⟨p.1 t ht, (h2 t (List.mem_cons_of_mem _ ht)).2⟩⟩]
    simp only [decide_eq_true q.1, decide_eq_true q.2, Bool.and_self]
/-- A floor that may be. -/
structure Ok (D : Dk) : Prop where
  s0 : 0 ≤ D.s
  s2 : D.s ≤ 2
  e0 : 0 ≤ D.e
  e1 : D.e ≤ 1099511627776
  n0 : 0 ≤ D.n
  n1 : D.n ≤ 1099511627776
  u0 : 0 ≤ D.u
  u1 : D.u ≤ 2199023255552
  l0 : 0 ≤ D.l
  l1 : D.l ≤ 2199023255552
  ml : D.mem.length ≤ 8
  wl : D.wait.length ≤ 4
  rise : D.mem.Pairwise (· < ·)
  mpos : ∀ t ∈ D.mem, 0 < t ∧ t ≤ 1073741824
  wok : OkWait D.mem D.h 7 D.wait
  idle : D.s = 0 → D.h = 0 ∧ D.p = 0 ∧ D.u = 0 ∧ D.l = 0 ∧ D.wait = []
  busy : D.s ≠ 0 → D.h ∈ D.mem ∧ (0 ≤ D.p ∧ D.p ≤ 7) ∧ 0 < D.e
def okD (D : Dk) : Bool := floorOk D.s D.e D.h D.p D.u D.l D.n D.wait D.mem
theorem okD_iff (D : Dk) : okD D = true ↔ Ok D := by
  unfold okD floorOk okA okS
  have hw : okW D.mem D.h D.wait 7 0 D.wait = true ↔ OkWait D.mem D.h 7 D.wait := by
    have := okW_iff D.mem D.h D.wait [] 7
    rw [List.nil_append, List.length_nil] at this
    rw [this]
    exact ⟨fun h => h.1, fun h => ⟨h, fun x hx y hy => by cases hy⟩⟩
  simp only [Bool.and_eq_true, wiB_iff', decide_eq_true_iff, hw, okM_iff]
  constructor
  · rintro ⟨⟨⟨⟨⟨⟨⟨⟨⟨⟨a1, a2⟩, a3, a4⟩, a5, a6⟩, a7, a8⟩, a9, a10⟩, a11⟩, a12⟩, a13, a14⟩, a15⟩, a16⟩
    refine ⟨a1, a2, a3, a4, a5, a6, a7, a8, a9, a10, a11, a12, a13, a14, a15, fun h => ?_, fun h => ?_⟩
    · rw [if_pos h] at a16
      simp only [Bool.and_eq_true, decide_eq_true_iff, List.length_eq_zero_iff] at a16
      obtain ⟨⟨⟨⟨b1, b2⟩, b3⟩, b4⟩, b5⟩ := a16
      exact ⟨b1, b2, b3, b4, b5⟩
    · rw [if_neg h] at a16
      simp only [Bool.and_eq_true, decide_eq_true_iff, wiB_iff'] at a16
      obtain ⟨⟨b1, b2⟩, b3⟩ := a16
      exact ⟨b1, b2, b3⟩
  · intro h
    refine ⟨⟨⟨⟨⟨⟨⟨⟨⟨⟨h.s0, h.s2⟩, h.e0, h.e1⟩, h.n0, h.n1⟩, h.u0, h.u1⟩, h.l0, h.l1⟩, h.ml⟩, h.wl⟩, h.rise, h.mpos⟩, h.wok⟩, ?_⟩
    by_cases hs : D.s = 0
    · rw [if_pos hs]
      obtain ⟨b1, b2, b3, b4, b5⟩ := h.idle hs
      simp [b1, b2, b3, b4, b5]
    · rw [if_neg hs]
      obtain ⟨b1, b2, b3⟩ := h.busy hs
      simp only [Bool.and_eq_true, decide_eq_true_iff, wiB_iff']
      exact ⟨⟨b1, b2⟩, b3⟩
theorem ok_tell {D : Dk} (h : Ok D) (k w e p : Int) : Ok (tellD D k w e p) := (okD_iff _).1 ((okD_iff D).2 h)
theorem less_split (x : Int) (l : List Int) (hs : l.Pairwise (· < ·)) : l.take (less x l) = l.filter (fun t => decide (t < x)) ∧ l.drop (less x l) = l.filter (fun t => !decide (t < x)) := by
  induction l with
  | nil => exact ⟨rfl, rfl⟩
  | cons m r ih =>
    have p := List.pairwise_cons.1 hs
    obtain ⟨i1, i2⟩ := ih p.2
    by_cases hm : m < x
    · have e : less x (m :: r) = less x r + 1 := by unfold less; rw [List.filter_cons_of_pos (by simpa using hm), List.length_cons]
      rw [e, List.take_succ_cons, List.drop_succ_cons, List.filter_cons_of_pos (by simpa using hm), List.filter_cons_of_neg (by simpa using hm), i1, i2]
      exact ⟨rfl, rfl⟩
    · have hr : ∀ t ∈ r, ¬ t < x := fun t ht => by have := p.1 t ht; omega
      have e0 : r.filter (fun t => decide (t < x)) = [] := by rw [List.filter_eq_nil_iff]; intro t ht; simpa using hr t ht
      have e1 : r.filter (fun t => !decide (t < x)) = r := by rw [List.filter_eq_self]; intro t ht; simpa using hr t ht
      have e : less x (m :: r) = 0 := by unfold less; rw [List.filter_cons_of_neg (by simpa using hm), e0]; rfl
      rw [e, List.filter_cons_of_neg (by simpa using hm), List.filter_cons_of_pos (by simpa using hm), e0, e1]
      exact ⟨rfl, rfl⟩
/-- One more in the group. -/
def putM (x : Int) (l : List Int) : List Int := l.take (less x l) ++ x :: l.drop (less x l)
theorem putM_mem (x : Int) (l : List Int) (t : Int) : t ∈ putM x l ↔ t = x ∨ t ∈ l := by
  have := List.take_append_drop (less x l) l
  unfold putM
  conv => rhs; rw [← this]
  simp only [List.mem_append, List.mem_cons]
  constructor
  · rintro (h | h | h)
    · exact .inr (.inl h)
    · exact .inl h
    · exact .inr (.inr h)
  · rintro (h | h | h)
    · exact .inr (.inl h)
    · exact .inl h
    · exact .inr (.inr h)
theorem putM_len (x : Int) (l : List Int) : (putM x l).length = l.length + 1 := by
  unfold putM
  rw [List.length_append, List.length_cons, List.length_take, List.length_drop]
  have : less x l ≤ l.length := List.length_filter_le _ _
  omega
theorem putM_rise (x : Int) (l : List Int) (hs : l.Pairwise (· < ·)) (hx : x ∉ l) : (putM x l).Pairwise (· < ·) := by
  unfold putM
  obtain ⟨e1, e2⟩ := less_split x l hs
  rw [e1, e2]
  refine List.pairwise_append.2 ⟨hs.filter _, List.pairwise_cons.2 ⟨fun t ht => ?_, hs.filter _⟩, fun t ht u hu => ?_⟩
  · have h1 := List.mem_filter.1 ht
    have : ¬ t < x := by simpa using h1.2
    have : t ≠ x := fun h => hx (h ▸ h1.1)
    omega
  · have h1 : t < x := by simpa using (List.mem_filter.1 ht).2
    rcases List.mem_cons.1 hu with rfl | hu
    · exact h1
    · have : ¬ u < x := by simpa using (List.mem_filter.1 hu).2
      omega
theorem erase_less (x : Int) (l : List Int) (hs : l.Pairwise (· < ·)) (hx : x ∈ l) : l.eraseIdx (less x l) = l.filter (fun t => t != x) := by
  induction l with
  | nil => cases hx
  | cons m r ih =>
    have p := List.pairwise_cons.1 hs
    by_cases hm : m < x
    · have e : less x (m :: r) = less x r + 1 := by unfold less; rw [List.filter_cons_of_pos (by simpa using hm), List.length_cons]
      have hxr : x ∈ r := by
        rcases List.mem_cons.1 hx with rfl | h
        · omega
        · exact h
      rw [e, List.eraseIdx_cons_succ, ih p.2 hxr, List.filter_cons_of_pos (by simp; omega)]
    · have hr : ∀ t ∈ r, ¬ t < x := fun t ht => by have := p.1 t ht; omega
      have e : less x (m :: r) = 0 := by
        unfold less; rw [List.filter_cons_of_neg (by simpa using hm)]
        have e0 : r.filter (fun t => decide (t < x)) = [] := by rw [List.filter_eq_nil_iff]; intro t ht; simpa using hr t ht
        rw [e0]; rfl
      have hmx : m = x := by
        rcases List.mem_cons.1 hx with rfl | h
        · rfl
        · have := p.1 x h; omega
      rw [e, List.eraseIdx_zero, List.tail_cons, List.filter_cons_of_neg (by simp [hmx])]
      refine (List.filter_eq_self.2 fun t ht => ?_).symm
      have := p.1 t ht
      simp; omega
/-- All but who has it. -/
structure Base (D : Dk) : Prop where
  e0 : 0 ≤ D.e
  e1 : D.e ≤ 1099511627776
  n0 : 0 ≤ D.n
  n1 : D.n ≤ 1099511627776
  u0 : 0 ≤ D.u
  u1 : D.u ≤ 2199023255552
  l0 : 0 ≤ D.l
  l1 : D.l ≤ 2199023255552
  ml : D.mem.length ≤ 8
  wl : D.wait.length ≤ 4
  rise : D.mem.Pairwise (· < ·)
  mpos : ∀ t ∈ D.mem, 0 < t ∧ t ≤ 1073741824
  each : ∀ x ∈ D.wait, x.f0 ∈ D.mem ∧ 0 ≤ x.f1 ∧ x.f1 ≤ 7
  sort : D.wait.Pairwise (fun a b => b.f1 ≤ a.f1)
  dist : D.wait.Pairwise (fun a b => a.f0 ≠ b.f0)
theorem Ok.base {D : Dk} (h : Ok D) : Base D :=
  ⟨h.e0, h.e1, h.n0, h.n1, h.u0, h.u1, h.l0, h.l1, h.ml, h.wl, h.rise, h.mpos, fun x hx => ⟨(h.wok.each x hx).1, (h.wok.each x hx).2.2⟩, h.wok.sort, h.wok.dist⟩
theorem grant_ok {D : Dk} (h : Base D) (he : D.e < 1099511627776) (who prio : Int) (hw : who ∈ D.mem) (hp0 : 0 ≤ prio) (hp7 : prio ≤ 7) (hno : ∀ x ∈ D.wait, x.f0 ≠ who) : Ok (grantD D who prio) where
  s0 := show (0:Int) ≤ 1 by decide
  s2 := show (1:Int) ≤ 2 by decide
  e0 := by have := h.e0; show 0 ≤ D.e + 1; omega
  e1 := by show D.e + 1 ≤ _; omega
  n0 := h.n0
  n1 := h.n1
  u0 := by have := h.n0; show 0 ≤ D.n + 60; omega
  u1 := by have := h.n1; show D.n + 60 ≤ _; omega
  l0 := by have := h.n0; show 0 ≤ D.n + 12; omega
  l1 := by have := h.n1; show D.n + 12 ≤ _; omega
  ml := h.ml
  wl := h.wl
  rise := h.rise
  mpos := h.mpos
  wok := ⟨fun x hx => ⟨(h.each x hx).1, hno x hx, (h.each x hx).2⟩, h.sort, h.dist⟩
  idle := fun hs => absurd (show (1:Int) = 0 from hs) (by decide)
  busy := fun _ => ⟨hw, ⟨hp0, hp7⟩, by have := h.e0; show 0 < D.e + 1; omega⟩
theorem on_ok {D : Dk} (h : Base D) (he : D.e < 1099511627776) : Ok (onD D) := by
  unfold onD
  split
  · rename_i hw
    refine ok_tell (D := { D with s := 0, h := 0, p := 0, u := 0, l := 0 }) ?_ _ _ _ _
    exact ⟨show (0:Int) ≤ 0 by decide, show (0:Int) ≤ 2 by decide, h.e0, h.e1, h.n0, h.n1, show (0:Int) ≤ 0 by decide, show (0:Int) ≤ 2199023255552 by decide, show (0:Int) ≤ 0 by decide, show (0:Int) ≤ 2199023255552 by decide, h.ml, h.wl, h.rise, h.mpos, by rw [show ({ D with s := 0, h := 0, p := 0, u := 0, l := 0 } : Dk).wait = [] from hw]; exact ⟨(fun x hx => by cases hx), .nil, .nil⟩, fun _ => ⟨rfl, rfl, rfl, rfl, hw⟩, fun hs => absurd rfl hs⟩
  · rename_i x r hw
    have hx := h.each x (by rw [hw]; exact List.mem_cons_self ..)
    have hd := h.dist
    have hso := h.sort
    have hl := h.wl
    rw [hw] at hd hso hl
    have pd := List.pairwise_cons.1 hd
    rw [List.length_cons] at hl
    exact grant_ok (D := { D with wait := r }) ⟨h.e0, h.e1, h.n0, h.n1, h.u0, h.u1, h.l0, h.l1, h.ml, Nat.le_trans (Nat.le_succ _) hl, h.rise, h.mpos, fun y hy => h.each y (by rw [hw]; exact List.mem_cons_of_mem _ hy), (List.pairwise_cons.1 hso).2, pd.2⟩ he _ _ hx.1 hx.2.1 hx.2.2 (fun y hy => (pd.1 y hy).symm)
theorem unwait_base {D : Dk} (h : Base D) (who : Int) : Base (unwaitD D who) :=
  ⟨h.e0, h.e1, h.n0, h.n1, h.u0, h.u1, h.l0, h.l1, h.ml, Nat.le_trans (List.length_filter_le _ _) h.wl, h.rise, h.mpos, fun x hx => h.each x (List.mem_filter.1 hx).1, h.sort.filter _, h.dist.filter _⟩
theorem release_ok {D : Dk} (h : Ok D) (he : D.e < 1099511627776) (who : Int) : Ok (releaseD D who) := by
  unfold releaseD
  split
  · exact on_ok (unwait_base h.base who) he
  · exact ⟨h.s0, h.s2, h.e0, h.e1, h.n0, h.n1, h.u0, h.u1, h.l0, h.l1, h.ml, Nat.le_trans (List.length_filter_le _ _) h.wl, h.rise, h.mpos, ⟨fun x hx => h.wok.each x (List.mem_filter.1 hx).1, h.wok.sort.filter _, h.wok.dist.filter _⟩, fun hs => by obtain ⟨a, b, c, d, e⟩ := h.idle hs; exact ⟨a, b, c, d, by show D.wait.filter _ = []; rw [e]; rfl⟩, h.busy⟩
/-- Without one of the group. -/
def outM (D : Dk) (who : Int) : Dk := { D with mem := D.mem.filter (fun t => t != who) }
theorem leaveD_eq {D : Dk} (h : Ok D) (who : Int) : leaveD D who (less who D.mem : Int) (decide (who ∈ D.mem)) = if who ∈ D.mem then releaseD (outM D who) who else D := by
  unfold leaveD
  by_cases hm : who ∈ D.mem
  · rw [if_pos (decide_eq_true hm), if_pos hm, Int.toNat_natCast, erase_less who D.mem h.rise hm]; rfl
  · rw [if_neg (by simpa using hm), if_neg hm]
theorem leave_ok {D : Dk} (h : Ok D) (he : D.e < 1099511627776) (who : Int) : Ok (leaveD D who (less who D.mem : Int) (decide (who ∈ D.mem))) := by
  rw [leaveD_eq h]
  split
  · rename_i hm
    have hml : (D.mem.filter (fun t => t != who)).length ≤ 8 := Nat.le_trans (List.length_filter_le _ _) h.ml
    have hu : ∀ x ∈ (unwaitD (outM D who) who).wait, x.f0 ∈ D.mem.filter (fun t => t != who) := fun x hx => by
      have h1 := List.mem_filter.1 hx
      have h2 : x.f0 ≠ who := isWho_f.1 (by simpa using h1.2)
      exact List.mem_filter.2 ⟨(h.wok.each x h1.1).1, by simpa using h2⟩
    have hb : Base (unwaitD (outM D who) who) :=
      ⟨h.e0, h.e1, h.n0, h.n1, h.u0, h.u1, h.l0, h.l1, hml, Nat.le_trans (List.length_filter_le _ _) h.wl, h.rise.filter _, fun t ht => h.mpos t (List.mem_filter.1 ht).1, fun x hx => ⟨hu x hx, (h.wok.each x (List.mem_filter.1 hx).1).2.2⟩, h.wok.sort.filter _, h.wok.dist.filter _⟩
    unfold releaseD
    split
    · exact on_ok hb he
    · rename_i hh
      exact ⟨h.s0, h.s2, hb.e0, hb.e1, hb.n0, hb.n1, hb.u0, hb.u1, hb.l0, hb.l1, hb.ml, hb.wl, hb.rise, hb.mpos, ⟨fun x hx => ⟨hu x hx, (h.wok.each x (List.mem_filter.1 hx).1).2⟩, hb.sort, hb.dist⟩, fun hs => by obtain ⟨a, b, c, d, e⟩ := h.idle hs; exact ⟨a, b, c, d, by show D.wait.filter _ = []; rw [e]; rfl⟩, fun hs => by obtain ⟨a, b, c⟩ := h.busy hs; exact ⟨List.mem_filter.2 ⟨a, (show (D.h != who) = true from by have h3 : ¬ D.h = who := hh; simpa using h3)⟩, b, c⟩⟩
  · exact h
theorem joinD_eq (D : Dk) (who : Int) : joinD D who (less who D.mem : Int) (decide (who ∈ D.mem)) = if who ∈ D.mem then tellD D 15 who D.e 0 else if D.mem.length ≥ 8 then tellD D 6 who 0 0 else tellD { D with mem := putM who D.mem } 15 who D.e 0 := by
  unfold joinD
  by_cases hm : who ∈ D.mem
  · rw [if_pos (decide_eq_true hm), if_pos hm]
  · rw [if_neg (by simpa using hm), if_neg hm, Int.toNat_natCast]; rfl
theorem join_ok {D : Dk} (h : Ok D) (who : Int) (h0 : 0 < who) (h1 : who ≤ 1073741824) : Ok (joinD D who (less who D.mem : Int) (decide (who ∈ D.mem))) := by
  rw [joinD_eq]
  split
  · exact ok_tell h _ _ _ _
  · rename_i hm
    split
    · exact ok_tell h _ _ _ _
    · rename_i hl
      refine ok_tell (D := { D with mem := putM who D.mem }) ?_ _ _ _ _
      have hs : ∀ t, t ∈ D.mem → t ∈ putM who D.mem := fun t ht => (putM_mem _ _ _).2 (.inr ht)
      exact ⟨h.s0, h.s2, h.e0, h.e1, h.n0, h.n1, h.u0, h.u1, h.l0, h.l1, by show (putM who D.mem).length ≤ 8; rw [putM_len]; omega, h.wl, putM_rise _ _ h.rise hm, fun t ht => by
        rcases (putM_mem _ _ _).1 ht with rfl | ht
        · exact ⟨h0, h1⟩
        · exact h.mpos t ht, ⟨fun x hx => ⟨hs _ (h.wok.each x hx).1, (h.wok.each x hx).2⟩, h.wok.sort, h.wok.dist⟩, h.idle, fun hs' => ⟨hs _ (h.busy hs').1, (h.busy hs').2⟩⟩
theorem isLow_t {p : Int} {x : S43} : isLow p x = true ↔ x.f1 < p := by unfold isLow; simp
theorem isLow_f {p : Int} {x : S43} : isLow p x = false ↔ p ≤ x.f1 := by unfold isLow; simp
theorem posQ_spec (prio : Int) (l : List S43) (hs : l.Pairwise (fun a b => b.f1 ≤ a.f1)) : posQ prio l ≤ l.length ∧ (∀ x ∈ l.take (posQ prio l), prio ≤ x.f1) ∧ ∀ x ∈ l.drop (posQ prio l), x.f1 < prio := by
  unfold posQ
  rcases idxP_split (isLow prio) l with hn | ⟨a, z, b, e, ha, hz⟩
  · rw [idxP_no _ _ hn, if_pos rfl, List.take_length, List.drop_length]
    exact ⟨Nat.le_refl _, fun x hx => isLow_f.1 (hn x hx), fun x hx => by cases hx⟩
  · rw [e, idxP_at _ a z b ha hz, if_neg (by omega), show ((0 : Int) + (a.length : Int)).toNat = a.length by omega, List.take_left, List.drop_left]
    rw [e] at hs
    refine ⟨by simp, fun x hx => isLow_f.1 (ha x hx), fun x hx => ?_⟩
    have p := List.pairwise_cons.1 (List.pairwise_append.1 hs).2.1
    have hz := isLow_t.1 hz
    rcases List.mem_cons.1 hx with rfl | hx
    · exact hz
    · have := p.1 x hx; omega
/-- One more who waits. -/
def putW (who prio : Int) (l : List S43) : List S43 := l.take (posQ prio l) ++ (⟨who, prio⟩ : S43) :: l.drop (posQ prio l)
theorem putW_mem (who prio : Int) (l : List S43) (t : S43) : t ∈ putW who prio l ↔ t = ⟨who, prio⟩ ∨ t ∈ l := by
  have := List.take_append_drop (posQ prio l) l
  unfold putW
  conv => rhs; rw [← this]
  simp only [List.mem_append, List.mem_cons]
  constructor
  · rintro (h | h | h)
    · exact .inr (.inl h)
    · exact .inl h
    · exact .inr (.inr h)
  · rintro (h | h | h)
    · exact .inr (.inl h)
    · exact .inl h
    · exact .inr (.inr h)
theorem putW_len (who prio : Int) (l : List S43) (hs : l.Pairwise (fun a b => b.f1 ≤ a.f1)) : (putW who prio l).length = l.length + 1 := by
  unfold putW
  rw [List.length_append, List.length_cons, List.length_take, List.length_drop]
  have := (posQ_spec prio l hs).1
  omega
theorem putW_sort (who prio : Int) (l : List S43) (hs : l.Pairwise (fun a b => b.f1 ≤ a.f1)) : (putW who prio l).Pairwise (fun a b => b.f1 ≤ a.f1) := by
  obtain ⟨h0, h1, h2⟩ := posQ_spec prio l hs
  unfold putW
  rw [← List.take_append_drop (posQ prio l) l] at hs
  have p := List.pairwise_append.1 hs
  refine List.pairwise_append.2 ⟨p.1, List.pairwise_cons.2 ⟨fun t ht => ?_, p.2.1⟩, fun t ht u hu => ?_⟩
  · have := h2 t ht
    show t.f1 ≤ prio
    omega
  · rcases List.mem_cons.1 hu with rfl | hu
    · exact h1 t ht
    · exact p.2.2 t ht u hu
theorem putW_dist (who prio : Int) (l : List S43) (hs : l.Pairwise (fun a b => a.f0 ≠ b.f0)) (hn : ∀ x ∈ l, x.f0 ≠ who) : (putW who prio l).Pairwise (fun a b => a.f0 ≠ b.f0) := by
  unfold putW
  rw [← List.take_append_drop (posQ prio l) l] at hs
  have p := List.pairwise_append.1 hs
  have ht : ∀ x ∈ l.take (posQ prio l), x.f0 ≠ who := fun x hx => hn x (List.mem_of_mem_take hx)
  have hd : ∀ x ∈ l.drop (posQ prio l), x.f0 ≠ who := fun x hx => hn x (List.mem_of_mem_drop hx)
  refine List.pairwise_append.2 ⟨p.1, List.pairwise_cons.2 ⟨fun t h => (hd t h).symm, p.2.1⟩, fun t h u hu => ?_⟩
  rcases List.mem_cons.1 hu with rfl | hu
  · exact ht t h
  · exact p.2.2 t h u hu
theorem revoke_ok {D : Dk} (h : Ok D) (hs : D.s ≠ 0) : Ok (revokeD D) := by
  unfold revokeD
  refine ok_tell (D := { D with s := 2 }) ?_ _ _ _ _
  exact ⟨show (0:Int) ≤ 2 by decide, show (2:Int) ≤ 2 by decide, h.e0, h.e1, h.n0, h.n1, h.u0, h.u1, h.l0, h.l1, h.ml, h.wl, h.rise, h.mpos, h.wok, fun h0 => absurd (show (2:Int) = 0 from h0) (by decide), fun _ => h.busy hs⟩
theorem putQ_ok {D : Dk} (h : Ok D) (hs : D.s ≠ 0) (who prio : Int) (hw : who ∈ D.mem) (hh : D.h ≠ who) (h0 : 0 ≤ prio) (h7 : prio ≤ 7) (hn : ∀ x ∈ D.wait, x.f0 ≠ who) (hl : D.wait.length < 4) : Ok (putQ D who prio) := by
  unfold putQ
  refine ok_tell (D := { D with wait := putW who prio D.wait }) ?_ _ _ _ _
  refine ⟨h.s0, h.s2, h.e0, h.e1, h.n0, h.n1, h.u0, h.u1, h.l0, h.l1, h.ml, ?_, h.rise, h.mpos, ⟨fun x hx => ?_, putW_sort _ _ _ h.wok.sort, putW_dist _ _ _ h.wok.dist hn⟩, fun h0 => absurd h0 hs, h.busy⟩
  · show (putW who prio D.wait).length ≤ 4
    rw [putW_len _ _ _ h.wok.sort]; omega
  · rcases (putW_mem _ _ _ _).1 hx with rfl | hx
    · exact ⟨hw, hh.symm, h0, h7⟩
    · exact h.wok.each x hx
theorem queue_ok {D : Dk} (h : Ok D) (hs : D.s ≠ 0) (who prio : Int) (hw : who ∈ D.mem) (hh : D.h ≠ who) (h0 : 0 ≤ prio) (h7 : prio ≤ 7) (hn : ∀ x ∈ D.wait, x.f0 ≠ who) (hl : D.wait.length < 4) : Ok (queueD D who prio) := by
  have := putQ_ok h hs who prio hw hh h0 h7 hn hl
  unfold queueD
  split
  · exact revoke_ok this hs
  · exact this
theorem idx_neg {who : Int} {l : List S43} (h : ¬ 0 ≤ idxP (isWho who) l 0) : ∀ x ∈ l, x.f0 ≠ who := by
  rcases idxP_split (isWho who) l with hn | ⟨a, z, b, e, ha, hz⟩
  · exact fun x hx => isWho_f.1 (hn x hx)
  · rw [e, idxP_at _ a z b ha hz] at h; omega
theorem request_ok {D : Dk} (h : Ok D) (he : D.e < 1099511627776) (a : S32) (h0 : 0 ≤ a.f2) (h7 : a.f2 ≤ 7) : Ok (requestD D a (decide (a.f1 ∈ D.mem))) := by
  unfold requestD
  split
  · exact ok_tell h _ _ _ _
  · rename_i hm
    have hm : a.f1 ∈ D.mem := by simpa using hm
    split
    · rename_i hs
      obtain ⟨_, _, _, _, hw⟩ := h.idle hs
      exact grant_ok h.base he _ _ hm h0 h7 (fun x hx => by rw [hw] at hx; cases hx)
    · rename_i hs
      split
      · split
        · exact ok_tell h _ _ _ _
        · exact ok_tell h _ _ _ _
      · rename_i hh
        split
        · exact ok_tell h _ _ _ _
        · rename_i hi
          split
          · exact ok_tell h _ _ _ _
          · rename_i hl
            exact queue_ok h hs _ _ hm hh h0 h7 (idx_neg hi) (by omega)
theorem renew_ok {D : Dk} (h : Ok D) (a : S32) : Ok (renewD D a) := by
  unfold renewD
  split
  · rename_i hc
    exact ⟨h.s0, h.s2, h.e0, h.e1, h.n0, h.n1, h.u0, h.u1, by have := h.n0; show 0 ≤ D.n + 12; omega, by have := h.n1; show D.n + 12 ≤ _; omega, h.ml, h.wl, h.rise, h.mpos, h.wok, fun h0 => absurd (hc.1.symm.trans h0) (by decide), h.busy⟩
  · exact h
theorem tickE_ok {D : Dk} (h : Ok D) : Ok (tickE D) := by
  unfold tickE
  split
  · rename_i hc; exact revoke_ok h (by rw [hc.1]; decide)
  · exact h
theorem tickE_e' (D : Dk) : (tickE D).e = D.e := by unfold tickE; split <;> rfl
theorem tick_ok {D : Dk} (h : Ok D) (he : D.e < 1099511627776) (a : S32) (h0 : D.n ≤ a.f4) (h1 : a.f4 ≤ 1099511627776) : Ok (tickD D a) := by
  have hn : Ok { D with n := a.f4 } := ⟨h.s0, h.s2, h.e0, h.e1, Int.le_trans h.n0 h0, h1, h.u0, h.u1, h.l0, h.l1, h.ml, h.wl, h.rise, h.mpos, h.wok, h.idle, h.busy⟩
  have hE := tickE_ok hn
  unfold tickD
  dsimp only
  split
  · exact on_ok hE.base (by rw [tickE_e']; exact he)
  · exact hE
theorem askOk_iff (n : Int) (a : S32) : askOk n a = true ↔ if a.f0 = 6 then n ≤ a.f4 ∧ a.f4 ≤ 1099511627776 else (a.f0 = 3 → 0 ≤ a.f2 ∧ a.f2 ≤ 7) ∧ 0 < a.f1 ∧ a.f1 ≤ 1073741824 := by
  unfold askOk whoOk
  by_cases h6 : a.f0 = 6
  · rw [if_pos h6, if_pos h6]; simp
  · rw [if_neg h6, if_neg h6]
    by_cases h3 : a.f0 = 3
    · rw [if_pos h3]; simp [h3, wiB_iff']
    · rw [if_neg h3]; simp [h3]
/-- What is asked may be asked. -/
theorem do_ok {D : Dk} (h : Ok D) (he : D.e < 1099511627776) (a : S32) (h16 : 1 ≤ a.f0 ∧ a.f0 ≤ 6) (ha : askOk D.n a = true) : Ok (doD D a) := by
  rw [askOk_iff] at ha
  unfold doD
  split
  · rename_i h1; rw [if_neg (by omega)] at ha; exact join_ok h _ ha.2.1 ha.2.2
  · split
    · exact leave_ok h he _
    · split
      · rename_i h3; rw [if_neg (by omega)] at ha; obtain ⟨q, _⟩ := ha; exact request_ok h he _ (q h3).1 (q h3).2
      · split
        · exact release_ok h he _
        · split
          · exact renew_ok h _
          · rename_i h1 h2 h3 h4 h5
            rw [if_pos (by omega)] at ha
            exact tick_ok h he a ha.1 ha.2
/-- What holds of a floor after k asks. -/
structure Inv (k : Int) (D : Dk) : Prop where
  ok : Ok D
  few : D.e ≤ k
  lease : D.l ≤ D.n + 12
  till : D.u ≤ D.n + 60
def newD : Dk := ⟨0, 0, 0, 0, 0, 0, 0, [], [], []⟩
theorem inv_new : Inv 0 newD := ⟨(okD_iff _).1 rfl, by decide, by decide, by decide⟩
theorem inv_mono {k k' : Int} {D : Dk} (h : Inv k D) (hk : k ≤ k') : Inv k' D := ⟨h.ok, Int.le_trans h.few hk, h.lease, h.till⟩
/-- Clock, lease and epoch. -/
structure Lo (k : Int) (D : Dk) : Prop where
  few : D.e ≤ k
  lease : D.l ≤ D.n + 12
  till : D.u ≤ D.n + 60
theorem Inv.lo {k : Int} {D : Dk} (h : Inv k D) : Lo k D := ⟨h.few, h.lease, h.till⟩
theorem lo_grant {k : Int} {D : Dk} (h : Lo k D) (who prio : Int) : Lo (k + 1) (grantD D who prio) := ⟨by have := h.few; show D.e + 1 ≤ k + 1; omega, Int.le_refl _, Int.le_refl _⟩
theorem lo_tell {k : Int} {D : Dk} (h : Lo k D) (a b c d : Int) : Lo k (tellD D a b c d) := ⟨h.few, h.lease, h.till⟩
theorem lo_up {k : Int} {D : Dk} (h : Lo k D) : Lo (k + 1) D := ⟨by have := h.few; omega, h.lease, h.till⟩
theorem lo_on {k : Int} {D : Dk} (h : Lo k D) (hn : 0 ≤ D.n) : Lo (k + 1) (onD D) := by
  unfold onD
  split
  · refine lo_up (lo_tell (D := { D with s := 0, h := 0, p := 0, u := 0, l := 0 }) ⟨h.few, ?_, ?_⟩ _ _ _ _)
    · show (0 : Int) ≤ D.n + 12; omega
    · show (0 : Int) ≤ D.n + 60; omega
  · rename_i x r hw
    exact lo_grant (D := { D with wait := r }) ⟨h.few, h.lease, h.till⟩ _ _
theorem lo_release {k : Int} {D : Dk} (h : Lo k D) (hn : 0 ≤ D.n) (who : Int) : Lo (k + 1) (releaseD D who) := by
  unfold releaseD
  split
  · exact lo_on (D := unwaitD D who) ⟨h.few, h.lease, h.till⟩ hn
  · exact lo_up (D := unwaitD D who) ⟨h.few, h.lease, h.till⟩
theorem lo_revoke {k : Int} {D : Dk} (h : Lo k D) : Lo k (revokeD D) := ⟨h.few, h.lease, h.till⟩
theorem do_lo {k : Int} {D : Dk} (h : Lo k D) (hn : 0 ≤ D.n) (a : S32) (h16 : 1 ≤ a.f0 ∧ a.f0 ≤ 6) (ha : askOk D.n a = true) : Lo (k + 1) (doD D a) := by
  rw [askOk_iff] at ha
  unfold doD
  split
  · unfold joinD
    split
    · exact lo_up (lo_tell h _ _ _ _)
    · split
      · exact lo_up (lo_tell h _ _ _ _)
      · exact lo_up (D := tellD _ _ _ _ _) ⟨h.few, h.lease, h.till⟩
  · split
    · unfold leaveD
      split
      · exact lo_release (D := { D with mem := D.mem.eraseIdx _ }) ⟨h.few, h.lease, h.till⟩ hn _
      · exact lo_up h
    · split
      · unfold requestD
        repeat' split
        · exact lo_up (lo_tell h _ _ _ _)
        · exact lo_grant h _ _
        · exact lo_up (lo_tell h _ _ _ _)
        · exact lo_up (lo_tell h _ _ _ _)
        · exact lo_up (lo_tell h _ _ _ _)
        · exact lo_up (lo_tell h _ _ _ _)
        · refine lo_up ?_
          unfold queueD
          split
          · exact ⟨h.few, h.lease, h.till⟩
          · exact ⟨h.few, h.lease, h.till⟩
      · split
        · exact lo_release h hn _
        · split
          · unfold renewD
            split
            · exact lo_up (D := { D with l := D.n + 12 }) ⟨h.few, Int.le_refl _, h.till⟩
            · exact lo_up h
          · rw [if_pos (by omega)] at ha
            have hN : Lo k { D with n := a.f4 } := ⟨h.few, by have := h.lease; show D.l ≤ a.f4 + 12; omega, by have := h.till; show D.u ≤ a.f4 + 60; omega⟩
            have hE : Lo k (tickE { D with n := a.f4 }) := by
              unfold tickE
              split
              · exact lo_revoke hN
              · exact hN
            unfold tickD
            dsimp only
            split
            · refine lo_on hE ?_
              have : (tickE { D with n := a.f4 }).n = a.f4 := by unfold tickE; split <;> rfl
              omega
            · exact lo_up hE
theorem do_inv {k : Int} {D : Dk} (h : Inv k D) (hk : k < 1099511627776) (a : S32) (h16 : 1 ≤ a.f0 ∧ a.f0 ≤ 6) (ha : askOk D.n a = true) : Inv (k + 1) (doD D a) := by
  have hl := do_lo h.lo h.ok.n0 a h16 ha
  exact ⟨do_ok h.ok (by have := h.few; omega) a h16 ha, hl.few, hl.lease, hl.till⟩
/-- Nothing told yet. -/
def bareD (D : Dk) : Dk := { D with out := [] }
theorem inv_bare {k : Int} {D : Dk} (h : Inv k D) : Inv k (bareD D) := ⟨(okD_iff _).1 ((okD_iff D).2 h.ok), h.few, h.lease, h.till⟩
end Go.Proofs.Ytflfmpfmnhpbmaa.FL
