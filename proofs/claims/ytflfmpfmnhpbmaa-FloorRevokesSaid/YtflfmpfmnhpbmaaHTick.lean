import Derived.Test.YtflfmpfmnhpbmaaHOn
/- The floor's desk: renewed; walked by hand. -/
namespace Go.Proofs.Ytflfmpfmnhpbmaa.PA
open Go.RowKit Go.Proofs.YtflfmpfmnhpbmaaW.PrintWords Go.Proofs.YtflfmpfmnhpbmaaW.PrintLast Go.Proofs.YtflfmpfmnhpbmaaW.PrintMore
set_option linter.unusedVariables false
set_option linter.unusedSimpArgs false
def renewD (D : Dk) (a : S32) : Dk := if D.s = 1 ∧ D.h = a.f1 ∧ D.e = a.f3 then { D with l := D.n + 12 } else D
set_option maxHeartbeats 8000000 in
set_option maxRecDepth 100000 in
theorem renew_calls {W : World} {base gb : Nat} {D : Dk} {a : S32} {A : Option Addr} {c : Nat} {vm vo : Value} (h : Desk W base gb D a [] A c vm vo) (hn0 : 0 ≤ D.n) (hn1 : D.n ≤ 4398046511104) :
    Calls Try.prog 38 #[.pointer (some ⟨gb, 0, none⟩)] W fun e' w' => e' = .returned (.tuple #[]) ∧ Desk w' base gb (renewD D a) a [] A c vm vo ∧ Below base W w' := by
  have HD := Aside0.mk h
  have hc0 : W.cell? ⟨gb, 0, none⟩ = some (.int .i64 D.s) := (blk_cell h.blk 0).trans rfl
  have hc1 : W.cell? ⟨gb, 1, none⟩ = some (.int .i64 D.e) := (blk_cell h.blk 1).trans rfl
  have hc2 : W.cell? ⟨gb, 2, none⟩ = some (.int .i64 D.h) := (blk_cell h.blk 2).trans rfl
  have hc10 : W.cell? ⟨gb, 10, none⟩ = some (.int .i64 a.f1) := (blk_cell h.blk 10).trans rfl
  have hc12 : W.cell? ⟨gb, 12, none⟩ = some (.int .i64 a.f3) := (blk_cell h.blk 12).trans rfl
  have rn : IntKind.i64.wrap (D.n + 12) = D.n + 12 := by rw [IntKind.wrap_i64]; omega
  by_cases h1 : D.s = 1
  rotate_left
  · have hd : renewD D a = D := if_neg (fun e => h1 e.1)
    have hb : (D.s == 1) = false := by simpa using h1
    rw [hd]
    clear hd h1 h
    go_enter Try.func38, Try.ntmps38
    go_wp2
    go_quiet (fail)
    go_wp2
    go_end0
    exact ⟨rfl, Desk.below HD.out (pw_below_drewN (Below.refl _ _) _), (pw_below_drewN (Below.refl _ _) _).mono HD.out.size⟩
  have hb1 : (D.s == 1) = true := by simpa using h1
  by_cases h2 : D.h = a.f1
  rotate_left
  · have hd : renewD D a = D := if_neg (fun e => h2 e.2.1)
    have hb : (D.h == a.f1) = false := by simpa using h2
    rw [hd]
    clear hd h1 h2 h
    go_enter Try.func38, Try.ntmps38
    go_wp2
    go_quiet (fail)
    go_wp2
    go_end0
    exact ⟨rfl, Desk.below HD.out (pw_below_drewN (Below.refl _ _) _), (pw_below_drewN (Below.refl _ _) _).mono HD.out.size⟩
  have hb2 : (D.h == a.f1) = true := by simpa using h2
  by_cases h3 : D.e = a.f3
  rotate_left
  · have hd : renewD D a = D := if_neg (fun e => h3 e.2.2)
    have hb : (D.e == a.f3) = false := by simpa using h3
    rw [hd]
    clear hd h1 h2 h3 h
    go_enter Try.func38, Try.ntmps38
    go_wp2
    go_quiet (fail)
    go_wp2
    go_end0
    exact ⟨rfl, Desk.below HD.out (pw_below_drewN (Below.refl _ _) _), (pw_below_drewN (Below.refl _ _) _).mono HD.out.size⟩
  have hb3 : (D.e == a.f3) = true := by simpa using h3
  have hd : renewD D a = { D with l := D.n + 12 } := if_pos ⟨h1, h2, h3⟩
  have hP : ∀ q, Desk ((W.drewN q).setCell ⟨gb, 5, none⟩ (.int .i64 (D.n + 12))) base gb { D with l := D.n + 12 } a [] A c vm vo := fun q => Desk.put (Desk.below h (pw_below_drewN (Below.refl _ _) q)) { D with l := D.n + 12 } 5 _ rfl rfl rfl rfl
  have hc6 : W.cell? ⟨gb, 6, none⟩ = some (.int .i64 D.n) := (blk_cell h.blk 6).trans rfl
  have hc5 : W.cell? ⟨gb, 5, none⟩ = some (.int .i64 D.l) := (blk_cell h.blk 5).trans rfl
  have hf5 := blk_frozen h.blk 5
  have HP := Aside0.mk hP
  rw [hd]
  clear hd h1 h2 h3 h hP
  go_enter Try.func38, Try.ntmps38
  go_wp2
  go_quiet (fail)
  go_wp2
  go_end0
  exact ⟨rfl, HP.out _, ((pw_below_drewN (Below.refl _ _) _).mono HD.out.size).trans (put_below HD.out.ge 5 _)⟩
end Go.Proofs.Ytflfmpfmnhpbmaa.PA

/- The floor's desk: told the time; walked by hand. -/
namespace Go.Proofs.Ytflfmpfmnhpbmaa.PA
open Go.RowKit Go.Proofs.YtflfmpfmnhpbmaaW.PrintWords Go.Proofs.YtflfmpfmnhpbmaaW.PrintLast Go.Proofs.YtflfmpfmnhpbmaaW.PrintMore
set_option linter.unusedVariables false
set_option linter.unusedSimpArgs false
def overD (D : Dk) : Bool := decide (D.n ≥ D.l + 3)
def lateD (D : Dk) : Bool := overD D || decide (D.n ≥ D.u)
def tickE (D : Dk) : Dk := if D.s = 1 ∧ lateD D = true then revokeD D else D
def tickD (D0 : Dk) (a : S32) : Dk :=
  let D := { D0 with n := a.f4 }
  let E := tickE D
  if E.s = 2 ∧ overD D = true then onD E else E
theorem tickE_l (D : Dk) : (tickE D).l = D.l := by unfold tickE; split <;> rfl
theorem tickE_e (D : Dk) : (tickE D).e = D.e := by unfold tickE; split <;> rfl
theorem tickE_n (D : Dk) : (tickE D).n = D.n := by unfold tickE; split <;> rfl
theorem tickE_out (D : Dk) (h : D.out.length ≤ 1000) : (tickE D).out.length ≤ 1000000 := by
  unfold tickE
  split
  · unfold revokeD tellD
    dsimp only
    rw [List.length_append]
    simp
    omega
  · omega
set_option maxHeartbeats 16000000 in
set_option maxRecDepth 100000 in
theorem tick_calls {W : World} {base gb : Nat} {D0 : Dk} {a : S32} {A : Option Addr} {c : Nat} {vm vo : Value} (h0 : Desk W base gb D0 a [] A c vm vo) (hout : D0.out.length ≤ 1000) (he0 : 0 ≤ D0.e) (he1 : D0.e ≤ 4398046511104) (hn0 : 0 ≤ a.f4) (hn1 : a.f4 ≤ 4398046511104) (hl0 : 0 ≤ D0.l) (hl1 : D0.l ≤ 4398046511104) :
    Calls Try.prog 39 #[.pointer (some ⟨gb, 0, none⟩)] W fun e' w' => e' = .returned (.tuple #[]) ∧ (∃ pre vo', Desk w' base gb (tickD D0 a) a pre A c vm vo') ∧ Below base W w' := by
  have hc14 : W.cell? ⟨gb, 13, none⟩ = some (.int .i64 a.f4) := (blk_cell h0.blk 13).trans rfl
  have hc6 : W.cell? ⟨gb, 6, none⟩ = some (.int .i64 D0.n) := (blk_cell h0.blk 6).trans rfl
  have hf6 := blk_frozen h0.blk 6
  have hput := Desk.put h0 { D0 with n := a.f4 } 6 (.int .i64 a.f4) rfl rfl rfl rfl
  have hB := put_below (W := W) h0.ge 6 (.int .i64 a.f4)
  obtain ⟨w1, hw1⟩ : ∃ w1, w1 = W.setCell ⟨gb, 6, none⟩ (.int .i64 a.f4) := ⟨_, rfl⟩
  rw [← hw1] at hput hB
  have HW1 := Aside0.mk hw1
  have hGE := h0.ge
  unfold tickD
  dsimp only
  obtain ⟨D, hD⟩ : ∃ D, D = { D0 with n := a.f4 } := ⟨_, rfl⟩
  rw [← hD] at hput ⊢
  have q1 : D.l = D0.l := by rw [hD]
  have q2 : D.e = D0.e := by rw [hD]
  have q3 : D.n = a.f4 := by rw [hD]
  have q4 : D.out = D0.out := by rw [hD]
  rw [← q1] at hl0 hl1
  rw [← q2] at he0 he1
  rw [← q4] at hout
  have hn0' : 0 ≤ D.n := by rw [q3]; exact hn0
  have hn1' : D.n ≤ 4398046511104 := by rw [q3]; exact hn1
  have HD := Aside0.mk hput
  have HB := Aside0.mk hB
  have rl : IntKind.i64.wrap (D.l + 3) = D.l + 3 := by rw [IntKind.wrap_i64]; omega
  -- the cells
  have hx0 : w1.cell? ⟨gb, 0, none⟩ = some (.int .i64 D.s) := (blk_cell hput.blk 0).trans rfl
  have hx4 : w1.cell? ⟨gb, 4, none⟩ = some (.int .i64 D.u) := (blk_cell hput.blk 4).trans rfl
  have hx5 : w1.cell? ⟨gb, 5, none⟩ = some (.int .i64 D.l) := (blk_cell hput.blk 5).trans rfl
  have hx6 : w1.cell? ⟨gb, 6, none⟩ = some (.int .i64 D.n) := (blk_cell hput.blk 6).trans rfl
  have hEs := tickE_out D hout
  clear hw1 hput hB h0 hD q1 q2 q3 q4 hn0 hn1
  by_cases hs : D.s = 1
  · cases hov : overD D with
    | true =>
      -- over, taken
      have hE : tickE D = revokeD D := if_pos ⟨hs, by unfold lateD; rw [hov]; rfl⟩
      rw [hE]
      have hon : (if (revokeD D).s = 2 ∧ true = true then onD (revokeD D) else revokeD D) = onD (revokeD D) := if_pos ⟨rfl, rfl⟩
      rw [hon]
      have b1 : (D.s == 1) = true := by simpa using hs
      have b2 : (D.s == 2) = false := by simp; omega
      have o1 : decide (D.l + 3 ≤ D.n) = true := hov
      have hout2 : (revokeD D).out.length ≤ 1000000 := by rw [← hE]; exact hEs
      clear hE hon hov hs hEs
      go_enter Try.func39, Try.ntmps39
      go_wp2
      rw [← HW1.out]
      clear hc14 hc6 hf6
      go_quiet (fail)
      go_wp2
      go_quiet (fail)
      go_wp2_with (first | (go_at_call 61; refine (revoke_calls (Desk.below HD.out (pw_below_drewN (Below.refl _ _) _)) (by omega)).mono ?_; rintro e' w2 ⟨rfl, ⟨vo2, hD2⟩, hB2⟩; have HD2 := Aside0.mk hD2; have HB2 := Aside0.mk (HB.out.trans (((pw_below_drewN (Below.refl _ _) _).mono HD.out.size).trans hB2)); clear hB2 hx0 hx4 hx5 hx6; have hy0 : w2.cell? ⟨gb, 0, none⟩ = some (.int .i64 2) := (blk_cell hD2.blk 0).trans rfl; clear hD2) | (go_at_call 60; refine (on_calls HD2.out hout2 he0 he1 hn0' hn1').mono ?_; rintro e' w3 ⟨rfl, hD3, hB3⟩))
      go_end0
      exact ⟨rfl, hD3, HB2.out.trans hB3⟩
    | false =>
      by_cases hlt : D.u ≤ D.n
      · -- late, taken
        have hE : tickE D = revokeD D := if_pos ⟨hs, by unfold lateD; rw [hov]; simpa using hlt⟩
        rw [hE]
        have hon : (if (revokeD D).s = 2 ∧ false = true then onD (revokeD D) else revokeD D) = revokeD D := if_neg (fun e => absurd e.2 (by decide))
        rw [hon]
        have b1 : (D.s == 1) = true := by simpa using hs
        have b2 : (D.s == 2) = false := by simp; omega
        have o1 : decide (D.l + 3 ≤ D.n) = false := hov
        have o2 : decide (D.u ≤ D.n) = true := by simpa using hlt
        have hout2 : D.out.length ≤ 1000000 := by omega
        clear hE hon hov hs hlt hEs
        go_enter Try.func39, Try.ntmps39
        go_wp2
        rw [← HW1.out]
        clear hc14 hc6 hf6
        go_quiet (fail)
        go_wp2
        go_quiet (fail)
        go_wp2_with (go_at_call 61; refine (revoke_calls (Desk.below HD.out (pw_below_drewN (Below.refl _ _) _)) (by omega)).mono ?_; rintro e' w2 ⟨rfl, ⟨vo2, hD2⟩, hB2⟩; have HD2 := Aside0.mk hD2; have HB2 := Aside0.mk (HB.out.trans (((pw_below_drewN (Below.refl _ _) _).mono HD.out.size).trans hB2)); clear hB2 hx0 hx4 hx5 hx6; have hy0 : w2.cell? ⟨gb, 0, none⟩ = some (.int .i64 2) := (blk_cell hD2.blk 0).trans rfl; clear hD2)
        go_end0
        exact ⟨rfl, ⟨_, _, HD2.out⟩, HB2.out⟩
      · -- not late, taken
        have hE : tickE D = D := if_neg (fun e => by have := e.2; unfold lateD at this; rw [hov] at this; exact hlt (by simpa using this))
        rw [hE]
        have hon : (if D.s = 2 ∧ false = true then onD D else D) = D := if_neg (fun e => by have := e.1; omega)
        rw [hon]
        have b1 : (D.s == 1) = true := by simpa using hs
        have b2 : (D.s == 2) = false := by simp; omega
        have o1 : decide (D.l + 3 ≤ D.n) = false := hov
        have o2 : decide (D.u ≤ D.n) = false := by simpa using hlt
        have hout2 : D.out.length ≤ 1000000 := by omega
        clear hE hon hov hs hlt hEs
        go_enter Try.func39, Try.ntmps39
        go_wp2
        rw [← HW1.out]
        clear hc14 hc6 hf6
        go_quiet (fail)
        go_wp2
        go_quiet (fail)
        go_wp2
        go_end0
        exact ⟨rfl, ⟨_, _, Desk.below HD.out (pw_below_drewN (Below.refl _ _) _)⟩, HB.out.trans ((pw_below_drewN (Below.refl _ _) _).mono HD.out.size)⟩
  · by_cases hs2 : D.s = 2
    · cases hov : overD D with
      | true =>
        -- over, revoked
        have hE : tickE D = D := if_neg (fun e => hs e.1)
        rw [hE]
        have hon : (if D.s = 2 ∧ true = true then onD D else D) = onD D := if_pos ⟨hs2, rfl⟩
        rw [hon]
        have b1 : (D.s == 1) = false := by simpa using hs
        have b2 : (D.s == 2) = true := by simpa using hs2
        have o1 : decide (D.l + 3 ≤ D.n) = true := hov
        have hout2 : D.out.length ≤ 1000000 := by omega
        clear hE hon hov hs hs2 hEs
        go_enter Try.func39, Try.ntmps39
        go_wp2
        rw [← HW1.out]
        clear hc14 hc6 hf6
        go_quiet (fail)
        go_wp2
        go_quiet (fail)
        go_wp2_with (go_at_call 60; refine (on_calls (Desk.below HD.out (pw_below_drewN (Below.refl _ _) _)) hout2 he0 he1 hn0' hn1').mono ?_; rintro e' w3 ⟨rfl, hD3, hB3⟩)
        go_end0
        exact ⟨rfl, hD3, HB.out.trans (((pw_below_drewN (Below.refl _ _) _).mono HD.out.size).trans hB3)⟩
      | false =>
        -- not over, revoked
        have hE : tickE D = D := if_neg (fun e => hs e.1)
        rw [hE]
        have hon : (if D.s = 2 ∧ false = true then onD D else D) = D := if_neg (fun e => absurd e.2 (by decide))
        rw [hon]
        have b1 : (D.s == 1) = false := by simpa using hs
        have b2 : (D.s == 2) = true := by simpa using hs2
        have o1 : decide (D.l + 3 ≤ D.n) = false := hov
        have hout2 : D.out.length ≤ 1000000 := by omega
        clear hE hon hov hs hs2 hEs
        go_enter Try.func39, Try.ntmps39
        go_wp2
        rw [← HW1.out]
        clear hc14 hc6 hf6
        go_quiet (fail)
        go_wp2
        go_quiet (fail)
        go_wp2
        go_end0
        exact ⟨rfl, ⟨_, _, Desk.below HD.out (pw_below_drewN (Below.refl _ _) _)⟩, HB.out.trans ((pw_below_drewN (Below.refl _ _) _).mono HD.out.size)⟩
    · cases hov : overD D with
      | true =>
        -- over, idle
        have hE : tickE D = D := if_neg (fun e => hs e.1)
        rw [hE]
        have hon : (if D.s = 2 ∧ true = true then onD D else D) = D := if_neg (fun e => hs2 e.1)
        rw [hon]
        have b1 : (D.s == 1) = false := by simpa using hs
        have b2 : (D.s == 2) = false := by simpa using hs2
        have o1 : decide (D.l + 3 ≤ D.n) = true := hov
        have hout2 : D.out.length ≤ 1000000 := by omega
        clear hE hon hov hs hs2 hEs
        go_enter Try.func39, Try.ntmps39
        go_wp2
        rw [← HW1.out]
        clear hc14 hc6 hf6
        go_quiet (fail)
        go_wp2
        go_quiet (fail)
        go_wp2
        go_end0
        exact ⟨rfl, ⟨_, _, Desk.below HD.out (pw_below_drewN (Below.refl _ _) _)⟩, HB.out.trans ((pw_below_drewN (Below.refl _ _) _).mono HD.out.size)⟩
      | false =>
        -- not over, idle
        have hE : tickE D = D := if_neg (fun e => hs e.1)
        rw [hE]
        have hon : (if D.s = 2 ∧ false = true then onD D else D) = D := if_neg (fun e => hs2 e.1)
        rw [hon]
        have b1 : (D.s == 1) = false := by simpa using hs
        have b2 : (D.s == 2) = false := by simpa using hs2
        have o1 : decide (D.l + 3 ≤ D.n) = false := hov
        have hout2 : D.out.length ≤ 1000000 := by omega
        clear hE hon hov hs hs2 hEs
        go_enter Try.func39, Try.ntmps39
        go_wp2
        rw [← HW1.out]
        clear hc14 hc6 hf6
        go_quiet (fail)
        go_wp2
        go_quiet (fail)
        go_wp2
        go_end0
        exact ⟨rfl, ⟨_, _, Desk.below HD.out (pw_below_drewN (Below.refl _ _) _)⟩, HB.out.trans ((pw_below_drewN (Below.refl _ _) _).mono HD.out.size)⟩
end Go.Proofs.Ytflfmpfmnhpbmaa.PA

