/- What may be revoked: the plain theory. -/
import Derived.Test.YtflfmpfmnhpbmaaFm
set_option linter.unusedVariables false
set_option linter.unusedSimpArgs false
namespace Go.Proofs.Ytflfmpfmnhpbmaa.FL
open Go.RowKit Go.Proofs.Ytflfmpfmnhpbmaa.PA Go.Proofs.YtflfmpfmnhpbmaaW.PrintWords Go.Proofs.YtflfmpfmnhpbmaaW.PrintLast
/-- What may have come of it. -/
structure Rev (D E : Dk) (a : S32) : Prop where
  r1 : D.s = 1 → E.s = 2 → ((a.f0 = 6 ∧ (E.n ≥ D.u ∨ E.n ≥ D.l + 3)) ∨ (a.f0 = 3 ∧ a.f2 > D.p ∧ a.f1 ≠ D.h)) ∧ E.h = D.h ∧ E.e = D.e
  r2 : D.s ≠ 0 → E.h ≠ D.h → (((a.f0 = 4 ∨ a.f0 = 2) ∧ a.f1 = D.h) ∨ (a.f0 = 6 ∧ E.n ≥ D.l + 3)) ∧ ∀ x r, D.wait = x :: r → E.h = x.f0
  r3 : ∀ x ∈ E.out, (x.f0 = 8 → x.f1 = D.h) ∧ (x.f0 = 6 → x.f1 = a.f1)
theorem on_h (D : Dk) (x : S43) (r : List S43) (h : D.wait = x :: r) : (onD D).h = x.f0 := by unfold onD; rw [h]; rfl
theorem on_s (D : Dk) : (onD D).s ≠ 2 := by
  unfold onD
  split
  · exact show (0 : Int) ≠ 2 by decide
  · exact show (1 : Int) ≠ 2 by decide
theorem on_out (D : Dk) : ∃ y, (onD D).out = D.out ++ [y] ∧ y.f0 ≠ 8 ∧ y.f0 ≠ 6 := by
  unfold onD
  split
  · exact ⟨⟨10, 0, D.e, 0⟩, rfl, show (10 : Int) ≠ 8 by decide, show (10 : Int) ≠ 6 by decide⟩
  · rename_i x r _
    exact ⟨⟨5, x.f0, D.e + 1, 0⟩, rfl, show (5 : Int) ≠ 8 by decide, show (5 : Int) ≠ 6 by decide⟩
theorem on_n (D : Dk) : (onD D).n = D.n := by unfold onD; split <;> rfl
theorem unwait_h {D : Dk} (h : Ok D) : D.wait.filter (fun x => !isWho D.h x) = D.wait := by
  rw [List.filter_eq_self]
  intro x hx
  rw [isWho_f.2 (h.wok.each x hx).2.1]
  rfl
/-- It stays as it is, and one thing is told. -/
theorem rev_tell {D : Dk} {a : S32} (E : Dk) (hs : E.s = D.s) (hh : E.h = D.h) (ho : ∀ x ∈ E.out, (x.f0 = 8 → x.f1 = D.h) ∧ (x.f0 = 6 → x.f1 = a.f1)) : Rev D E a :=
  ⟨fun h1 h2 => absurd (hs.symm.trans h2) (by rw [h1]; decide), fun _ h => absurd hh h, ho⟩
theorem rev_release {D : Dk} (h : Ok D) (a : S32) (F : Dk) (ha : a.f0 = 4 ∨ a.f0 = 2) (hFh : F.h = D.h) (hFs : F.s = D.s) (hFw : F.wait = D.wait) (hFo : F.out = []) : Rev D (releaseD F a.f1) a := by
  unfold releaseD
  split
  · rename_i hc
    rw [hFh] at hc
    refine ⟨fun _ h2 => absurd h2 (on_s _), fun _ _ => ⟨.inl ⟨ha, hc.symm⟩, fun x r hw => on_h _ x r ?_⟩, ?_⟩
    · show F.wait.filter _ = _
      rw [hFw, ← hc, unwait_h h, hw]
    · obtain ⟨y, e, y8, y6⟩ := on_out (unwaitD F a.f1)
      intro x hx
      rw [e, show (unwaitD F a.f1).out = [] from hFo, List.nil_append, List.mem_singleton] at hx
      subst hx
      exact ⟨fun q => absurd q y8, fun q => absurd q y6⟩
  · exact rev_tell (unwaitD F a.f1) hFs hFh (fun x hx => by rw [show (unwaitD F a.f1).out = [] from hFo] at hx; cases hx)
theorem rev_do {D : Dk} (h : Ok D) (a : S32) (hc : can D a) : Rev D (doD (bareD D) a) a := by
  have hb : Ok (bareD D) := (okD_iff _).1 ((okD_iff D).2 h)
  obtain ⟨h16, ha⟩ := hc
  rw [askOk_iff] at ha
  unfold doD
  split
  · rw [joinD_eq]
    repeat' split
    · exact rev_tell _ rfl rfl (fun x hx => by rw [List.mem_singleton.1 (show x ∈ [(⟨15, a.f1, D.e, 0⟩ : S38)] from hx)]; exact ⟨fun q => absurd (show (15 : Int) = 8 from q) (by decide), fun _ => rfl⟩)
    · exact rev_tell _ rfl rfl (fun x hx => by rw [List.mem_singleton.1 (show x ∈ [(⟨6, a.f1, 0, 0⟩ : S38)] from hx)]; exact ⟨fun q => absurd (show (6 : Int) = 8 from q) (by decide), fun _ => rfl⟩)
    · exact rev_tell _ rfl rfl (fun x hx => by rw [List.mem_singleton.1 (show x ∈ [(⟨15, a.f1, D.e, 0⟩ : S38)] from hx)]; exact ⟨fun q => absurd (show (15 : Int) = 8 from q) (by decide), fun _ => rfl⟩)
  · split
    · rename_i h2
      rw [leaveD_eq hb]
      split
      · exact rev_release h a (outM (bareD D) a.f1) (.inr h2) rfl rfl rfl rfl
      · exact rev_tell _ rfl rfl (fun x hx => by cases (show x ∈ ([] : List S38) from hx))
    · split
      · rename_i h3
        unfold requestD
        split
        · exact rev_tell _ rfl rfl (fun x hx => by rw [List.mem_singleton.1 (show x ∈ [(⟨6, a.f1, 0, 0⟩ : S38)] from hx)]; exact ⟨fun q => absurd (show (6 : Int) = 8 from q) (by decide), fun _ => rfl⟩)
        · split
          · rename_i hs
            have hs : D.s = 0 := hs
            exact ⟨fun q => absurd (q.symm.trans hs) (by decide), fun q => absurd hs q, fun x hx => by rw [List.mem_singleton.1 (show x ∈ [(⟨5, a.f1, D.e + 1, 0⟩ : S38)] from hx)]; exact ⟨fun q => absurd (show (5 : Int) = 8 from q) (by decide), fun _ => rfl⟩⟩
          · split
            · rename_i hh
              have hh : D.h = a.f1 := hh
              split
              · exact rev_tell _ rfl rfl (fun x hx => by rw [List.mem_singleton.1 (show x ∈ [(⟨5, a.f1, D.e, 0⟩ : S38)] from hx)]; exact ⟨fun q => absurd (show (5 : Int) = 8 from q) (by decide), fun _ => rfl⟩)
              · exact rev_tell _ rfl rfl (fun x hx => by rw [List.mem_singleton.1 (show x ∈ [(⟨8, a.f1, D.e, 0⟩ : S38)] from hx)]; exact ⟨fun _ => hh.symm, fun _ => rfl⟩)
            · rename_i hh
              have hh : ¬ D.h = a.f1 := hh
              split
              · exact rev_tell _ rfl rfl (fun x hx => by rw [List.mem_singleton.1 (show x ∈ [(⟨7, a.f1, 0, idxP (isWho a.f1) D.wait 0 + 1⟩ : S38)] from hx)]; exact ⟨fun q => absurd (show (7 : Int) = 8 from q) (by decide), fun _ => rfl⟩)
              · split
                · exact rev_tell _ rfl rfl (fun x hx => by rw [List.mem_singleton.1 (show x ∈ [(⟨6, a.f1, 0, 0⟩ : S38)] from hx)]; exact ⟨fun q => absurd (show (6 : Int) = 8 from q) (by decide), fun _ => rfl⟩)
                · unfold queueD
                  split
                  · rename_i hq
                    have hq : D.s = 1 ∧ D.p < a.f2 := hq
                    refine ⟨fun _ _ => ⟨.inr ⟨h3, hq.2, fun q => hh q.symm⟩, rfl, rfl⟩, fun _ q => absurd rfl q, fun x hx => ?_⟩
                    have hx : x ∈ [(⟨7, a.f1, 0, (posQ a.f2 D.wait : Int) + 1⟩ : S38), ⟨8, D.h, D.e, 0⟩] := hx
                    rcases List.mem_cons.1 hx with rfl | hx
                    · exact ⟨fun q => absurd (show (7 : Int) = 8 from q) (by decide), fun _ => rfl⟩
                    · rw [List.mem_singleton.1 hx]; exact ⟨fun _ => rfl, fun q => absurd (show (8 : Int) = 6 from q) (by decide)⟩
                  · exact rev_tell _ rfl rfl (fun x hx => by rw [List.mem_singleton.1 (show x ∈ [(⟨7, a.f1, 0, (posQ a.f2 D.wait : Int) + 1⟩ : S38)] from hx)]; exact ⟨fun q => absurd (show (7 : Int) = 8 from q) (by decide), fun _ => rfl⟩)
      · split
        · rename_i h4
          exact rev_release h a (bareD D) (.inl h4) rfl rfl rfl rfl
        · split
          · unfold renewD
            split
            · exact rev_tell _ rfl rfl (fun x hx => by cases (show x ∈ ([] : List S38) from hx))
            · exact rev_tell _ rfl rfl (fun x hx => by cases (show x ∈ ([] : List S38) from hx))
          · have h6 : a.f0 = 6 := by omega
            unfold tickD
            dsimp only
            generalize hF : ({ bareD D with n := a.f4 } : Dk) = F
            have f1 : F.s = D.s := by rw [← hF]; rfl
            have f2 : F.h = D.h := by rw [← hF]; rfl
            have f3 : F.l = D.l := by rw [← hF]; rfl
            have f4 : F.u = D.u := by rw [← hF]; rfl
            have f5 : F.e = D.e := by rw [← hF]; rfl
            have f6 : F.wait = D.wait := by rw [← hF]; rfl
            have f7 : F.out = [] := by rw [← hF]; rfl
            have f8 : F.n = a.f4 := by rw [← hF]
            have hE : ∀ x ∈ (tickE F).out, x = ⟨8, D.h, D.e, 0⟩ := by
              unfold tickE
              split
              · intro x hx
                have hx : x ∈ F.out ++ [(⟨8, F.h, F.e, 0⟩ : S38)] := hx
                rw [f7, f2, f5] at hx
                exact List.mem_singleton.1 hx
              · intro x hx; rw [f7] at hx; cases hx
            have e1 : (tickE F).h = D.h := by unfold tickE; split <;> exact f2
            have e2 : (tickE F).n = F.n := by unfold tickE; split <;> rfl
            have e3 : (tickE F).e = D.e := by unfold tickE; split <;> exact f5
            have e4 : (tickE F).wait = D.wait := by unfold tickE; split <;> exact f6
            split
            · rename_i hov
              have hov2 : F.n ≥ F.l + 3 := of_decide_eq_true hov.2
              refine ⟨fun _ q => absurd q (on_s _), fun _ _ => ⟨.inr ⟨h6, by rw [on_n, e2]; omega⟩, fun x r hw => on_h _ x r (e4.trans hw)⟩, ?_⟩
              obtain ⟨y, e, y8, y6⟩ := on_out (tickE F)
              intro x hx
              rw [e] at hx
              rcases List.mem_append.1 hx with hx | hx
              · rw [hE x hx]; exact ⟨fun _ => rfl, fun q => absurd (show (8 : Int) = 6 from q) (by decide)⟩
              · rw [List.mem_singleton.1 hx]; exact ⟨fun q => absurd q y8, fun q => absurd q y6⟩
            · refine ⟨fun q1 q2 => ⟨.inl ⟨h6, ?_⟩, e1, e3⟩, fun _ q => absurd e1 q, fun x hx => by rw [hE x hx]; exact ⟨fun _ => rfl, fun q => absurd (show (8 : Int) = 6 from q) (by decide)⟩⟩
              rw [e2]
              unfold tickE at q2
              split at q2
              · rename_i hl
                have hl := hl.2
                unfold lateD overD at hl
                rw [Bool.or_eq_true] at hl
                rcases hl with hl | hl
                · have := of_decide_eq_true hl; right; omega
                · have := of_decide_eq_true hl; left; omega
              · rw [f1, q1] at q2; exact absurd q2 (by decide)
theorem out_len (D : Dk) (a : S32) : (doD (bareD D) a).out.length ≤ 1000 := by
  have h1 : ∀ F : Dk, F.out.length ≤ 1 → (onD F).out.length ≤ 1000 := fun F hF => by
    obtain ⟨y, e, _⟩ := on_out F
    rw [e, List.length_append]; simp; omega
  have h2 : ∀ (F : Dk) (w : Int), F.out = [] → (releaseD F w).out.length ≤ 1000 := fun F w hF => by
    unfold releaseD
    split
    · exact h1 _ (by rw [show (unwaitD F w).out = [] from hF]; simp)
    · rw [show (unwaitD F w).out = [] from hF]; simp
  have hz : ∀ E : Dk, (∃ x, E.out = [x]) → E.out.length ≤ 1000 := fun E ⟨x, e⟩ => by rw [e]; simp
  have ht : ∀ (k w e p : Int) (F : Dk), F.out = [] → (tellD F k w e p).out.length ≤ 1000 := fun k w e p F hF => hz _ ⟨_, by show F.out ++ _ = _; rw [hF]; rfl⟩
  unfold doD
  split
  · unfold joinD
    repeat' split
    all_goals exact ht _ _ _ _ _ rfl
  · split
    · unfold leaveD
      split
      · exact h2 _ _ rfl
      · exact show ([] : List S38).length ≤ 1000 by simp
    · split
      · unfold requestD
        repeat' split
        · exact ht _ _ _ _ _ rfl
        · exact ht _ _ _ _ _ rfl
        · exact ht _ _ _ _ _ rfl
        · exact ht _ _ _ _ _ rfl
        · exact ht _ _ _ _ _ rfl
        · exact ht _ _ _ _ _ rfl
        · unfold queueD
          split
          · exact show ([(⟨7, a.f1, 0, (posQ a.f2 D.wait : Int) + 1⟩ : S38), ⟨8, D.h, D.e, 0⟩]).length ≤ 1000 by simp
          · exact ht _ _ _ _ _ rfl
      · split
        · exact h2 _ _ rfl
        · split
          · unfold renewD
            split
            · exact show ([] : List S38).length ≤ 1000 by simp
            · exact show ([] : List S38).length ≤ 1000 by simp
          · unfold tickD
            dsimp only
            generalize hF : ({ bareD D with n := a.f4 } : Dk) = F
            have f7 : F.out = [] := by rw [← hF]; rfl
            have : (tickE F).out.length ≤ 1 := by
              unfold tickE
              split
              · show (F.out ++ [(⟨8, F.h, F.e, 0⟩ : S38)]).length ≤ 1
                rw [f7]; simp
              · rw [f7]; simp
            split
            · exact h1 _ this
            · omega
end Go.Proofs.Ytflfmpfmnhpbmaa.FL
