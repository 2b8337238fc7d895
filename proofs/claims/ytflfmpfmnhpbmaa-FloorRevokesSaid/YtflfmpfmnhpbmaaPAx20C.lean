import Derived.Test.YtflfmpfmnhpbmaaHDo
namespace Go.Proofs.Ytflfmpfmnhpbmaa.PA
open Go.RowKit Go.Proofs.YtflfmpfmnhpbmaaW.PrintWords Go.Proofs.YtflfmpfmnhpbmaaW.PrintLast Go.Proofs.YtflfmpfmnhpbmaaW.PrintMore
/-- floor.Do's contract with both rows told as shared ones. -/
theorem floor_Do.calls8 (k : Nat) (s e h p u l n : Int) (A7 : Option Addr) (c7 : Nat) (wait : List S43) (A8 : Option Addr) (c8 : Nat) (mem : List Int) (b0 b1 b2 b3 b4 : Int) (r1 r2 r3 r4 r5 r6 r7 : Int) (r8 : List S43) (r9 : List Int) (r10 : List S38) (r11 : Int) (w : World)
 (hr7 : Kd.C k43 w A7 wait.length wait) (hc7 : wait.length ≤ c7) (hr8 : Kd.C (Kd.int .i64) w A8 mem.length mem) (hc8 : mem.length ≤ c8)
 (hf : floor_Do.f k s e h p u l n wait mem b0 b1 b2 b3 b4 = some (r1, r2, r3, r4, r5, r6, r7, r8, r9, r10, r11)) :
 Calls Try.prog 14 #[.agg #[.int .i64 s, .int .i64 e, .int .i64 h, .int .i64 p, .int .i64 u, .int .i64 l, .int .i64 n, .slice A7 wait.length c7, .slice A8 mem.length c8], .agg #[.int .i64 b0, .int .i64 b1, .int .i64 b2, .int .i64 b3, .int .i64 b4]] w fun e' w' =>
 ∃ v7_ v8_ v9_ : Value, e' = .returned (.tuple #[.agg #[.int .i64 r1, .int .i64 r2, .int .i64 r3, .int .i64 r4, .int .i64 r5, .int .i64 r6, .int .i64 r7, v7_, v8_], v9_, .int .i64 r11]) ∧ Kd.V k43 43 w' w.heap.size (fun k_ => (w.heap.size ≤ k_) ∧ some k_ ≠ (v9_ : Value).ownBlock) v7_ r8 ∧ Kd.V (Kd.int .i64) 3 w' w.heap.size (fun k_ => (w.heap.size ≤ k_) ∧ some k_ ≠ (v9_ : Value).ownBlock) v8_ r9 ∧ Kd.R k38 38 w' w.heap.size (fun k_ => (w.heap.size ≤ k_)) v9_ r10 ∧ Below w.heap.size w w' := by
 refine (floor_Do.calls k s e h p u l n A7 c7 wait A8 c8 mem b0 b1 b2 b3 b4 r1 r2 r3 r4 r5 r6 r7 r8 r9 r10 r11 w hr7 hc7 hr8 hc8 hf).mono ?_
 rintro e' w' ⟨v7, v8, v9, he, h1, h2, h3, hb⟩
 exact ⟨v7, v8, v9, he, Kd.V_mono h1 (fun k hk => ⟨hk.1, hk.2.2⟩), Kd.R_V (base := w.heap.size) (Kd.R_apartR h2 h3 (by decide)), h3, hb⟩
end Go.Proofs.Ytflfmpfmnhpbmaa.PA
