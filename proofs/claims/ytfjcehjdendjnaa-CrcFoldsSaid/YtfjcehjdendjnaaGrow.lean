/- A region that draws its order and only makes memory, walked once: each operation by what is known of the values that it waits for; for every order. -/
import Derived.Test.YtfjcehjdendjnaaPAx0
import Derived.RegionTactic
set_option linter.unusedVariables false
set_option linter.unusedSimpArgs false
namespace Go.Proofs.Ytfjcehjdendjnaa.PA
open Go.RowKit Go.Proofs.YtfjcehjdendjnaaW.PrintWords Go.Proofs.YtfjcehjdendjnaaW.PrintLast Go.Proofs.YtfjcehjdendjnaaW.PrintMore

/-! ### A region that draws its order and only makes memory: each operation once, by what is known of the values that it waits for. -/
section
variable {P : Program} {ops : Array Oper} {Q : Exit → Act → World → Prop} {md : Region.Mode}
def backOnly (ops : Array Oper) : Bool := (List.range ops.size).all fun i => ((ops[i]?).map fun o => o.after.toList.all fun e => decide (e.on < i)).getD true
def dstOf (ops : Array Oper) (i : Nat) : Option Tmp := (ops[i]?).bind (·.dst)
def dstApart (ops : Array Oper) (n : Nat) : Bool := (List.range ops.size).all fun i => ((dstOf ops i).map fun s => decide (s < n)).getD true && (List.range ops.size).all fun j => i == j || (dstOf ops i).isNone || dstOf ops i != dstOf ops j
theorem back_spec (h : backOnly ops = true) {i : Nat} {o : Oper} (ho : ops[i]? = some o) : ∀ e ∈ o.after, e.on < i := by
  intro e he
  have hi : i < ops.size := (Array.getElem?_eq_some_iff.1 ho).1
  have := List.all_eq_true.1 h i (List.mem_range.2 hi)
  rw [ho] at this
  simp only [Option.map_some, Option.getD_some] at this
  exact of_decide_eq_true (List.all_eq_true.1 this e (by simpa using he))
theorem dst_spec {n : Nat} (h : dstApart ops n = true) {i : Nat} {o : Oper} (ho : ops[i]? = some o) {s : Tmp} (hs : o.dst = some s) : s < n ∧ ∀ j o', ops[j]? = some o' → j ≠ i → o'.dst ≠ some s := by
  have hi : i < ops.size := (Array.getElem?_eq_some_iff.1 ho).1
  have h1 := List.all_eq_true.1 h i (List.mem_range.2 hi)
  rw [Bool.and_eq_true] at h1
  have hd : dstOf ops i = some s := by simp [dstOf, ho, hs]
  refine ⟨?_, fun j o' hj hne hs' => ?_⟩
  · have := h1.1
    rw [hd] at this
    exact of_decide_eq_true this
  · have hj' : j < ops.size := (Array.getElem?_eq_some_iff.1 hj).1
    have h2 := List.all_eq_true.1 h1.2 j (List.mem_range.2 hj')
    have hd' : dstOf ops j = some s := by simp [dstOf, hj, hs']
    rw [hd, hd'] at h2
    simp at h2
    exact hne h2.symm
theorem count_set_false : ∀ (l : List Bool) (i : Nat), l[i]? = some false → (l.set i true).count false + 1 = l.count false
  | [], i, h => by simp at h
  | b :: l, 0, h => by
    simp at h
    subst h
    simp
  | b :: l, i + 1, h => by
    have := count_set_false l i (by simpa using h)
    simp only [List.set_cons_succ, List.count_cons]
    omega
theorem wpAny_inv (I : Array Bool → Act → World → Prop) (hback : backOnly ops = true)
    (hstep : ∀ (listed : Array Bool) (i : Nat) (o : Oper) (a : Act) (W : World), listed.size = ops.size → ops[i]? = some o → listed.getD i true = false → (∀ e ∈ o.after, Region.binds md e = true → listed.getD e.on false = true) → I listed a W →
      wpOp P ops Q i (fun a' W' => I (listed.setIfInBounds i true) a' W') a W)
    (hfin : ∀ (listed : Array Bool) (a : Act) (W : World), (∀ i, i < ops.size → listed.getD i false = true) → I listed a W → Q .normal a W) :
    ∀ (fuel : Nat) (listed : Array Bool) (a : Act) (W : World), listed.size = ops.size → listed.toList.count false ≤ fuel → I listed a W → wpAny P md ops Q fuel listed a W := by
  have hall : ∀ (listed : Array Bool), listed.size = ops.size → Region.ready md ops listed = [] → ∀ i, i < ops.size → listed.getD i false = true := by
    intro listed hsz hr i
    induction i using Nat.strongRecOn with
    | _ i ih =>
      intro hi
      cases hb : listed.getD i false with
      | true => rfl
      | false =>
        exfalso
        have ho : ops[i]? = some ops[i] := Array.getElem?_eq_getElem hi
        have hl : i < listed.size := by omega
        have hm : i ∈ Region.ready md ops listed := mem_ready.2 ⟨by simpa [hl] using hb, _, ho, fun e he _ => ih e.on (back_spec hback ho e he) (Nat.lt_trans (back_spec hback ho e he) hi)⟩
        rw [hr] at hm
        cases hm
  intro fuel
  induction fuel with
  | zero =>
    intro listed a W hsz hc hI
    have hr : Region.ready md ops listed = [] := by
      cases hr : Region.ready md ops listed with
      | nil => rfl
      | cons i r =>
        exfalso
        have hm : i ∈ Region.ready md ops listed := by rw [hr]; simp
        obtain ⟨h0, o, ho, _⟩ := mem_ready.1 hm
        have hi : i < listed.size := by rw [hsz]; exact (Array.getElem?_eq_some_iff.1 ho).1
        have h1 : listed[i] = false := by simpa [hi] using h0
        have : false ∈ listed.toList := by rw [← h1]; exact Array.getElem_mem_toList hi
        have := List.count_pos_iff.2 this
        omega
    exact ⟨hr, hfin listed a W (hall listed hsz hr) hI⟩
  | succ fuel ih =>
    intro listed a W hsz hc hI
    refine ⟨fun hr => hfin listed a W (hall listed hsz hr) hI, fun i hi => ?_⟩
    obtain ⟨h0, o, ho, hd⟩ := mem_ready.1 hi
    have hil : i < listed.size := by rw [hsz]; exact (Array.getElem?_eq_some_iff.1 ho).1
    have h1 : listed[i] = false := by simpa [hil] using h0
    refine wpOp_mono (fun a' W' hI' => ih _ a' W' (by simpa using hsz) ?_ hI') (hstep listed i o a W hsz ho h0 hd hI)
    have := count_set_false listed.toList i (by simp [hil, h1])
    rw [Array.toList_setIfInBounds]
    omega
/-- What an operation is shown of the values that it waits for, and what it has to show. -/
def StepOk (P : Program) (ops : Array Oper) (Q : Exit → Act → World → Prop) (a0 : Act) (w0 : World) (Φ : Nat → Value → World → Prop) (i : Nat) (o : Oper) : Prop :=
  ∀ (a : Act) (W : World), (∀ s : Nat, (∀ (j : Nat) (o' : Oper), ops[j]? = some o' → o'.dst ≠ some s) → a.tmps[s]? = a0.tmps[s]?) →
    (∀ e ∈ o.after, Region.binds .any e = true → ∀ s, dstOf ops e.on = some s → ∃ v, a.tmps[s]? = some v ∧ Φ e.on v W) → Below w0.heap.size w0 W →
    ∀ K : Act → World → Prop, (∀ v W', Φ i v W' → Below W.heap.size W W' → K (a.put o.dst v) W') → if Region.wanted o (yielded ops a.tmps) = true then Oper.wp P o a W K Q else K (a.put o.dst undef) W
theorem wp_region_grow {id : Nat} {a0 : Act} {w0 : World} (hm : P.follows .mixedOrders = true) (hback : backOnly ops = true) (hdst : dstApart ops a0.tmps.size = true) (Φ : Nat → Value → World → Prop)
    (hΦ : ∀ i v W W', Φ i v W → Below W.heap.size W W' → Φ i v W') (hstep : ∀ i o, ops[i]? = some o → StepOk P ops Q a0 w0 Φ i o)
    (hfin : ∀ (a : Act) (W : World), a.defers = a0.defers → (∀ s : Nat, (∀ (j : Nat) (o' : Oper), ops[j]? = some o' → o'.dst ≠ some s) → a.tmps[s]? = a0.tmps[s]?) →
      (∀ i s, dstOf ops i = some s → ∃ v, a.tmps[s]? = some v ∧ Φ i v W) → Below w0.heap.size w0 W → Q .normal a W) : (Code.region id ops true).wp P Q a0 w0 := by
  refine wp_region_any hm ?_
  refine wpAny_inv (fun listed a W => Below w0.heap.size w0 W ∧ a.defers = a0.defers ∧ a.tmps.size = a0.tmps.size ∧ (∀ s : Nat, (∀ (j : Nat) (o' : Oper), ops[j]? = some o' → o'.dst ≠ some s) → a.tmps[s]? = a0.tmps[s]?) ∧
      (∀ i s, listed.getD i false = true → dstOf ops i = some s → ∃ v, a.tmps[s]? = some v ∧ Φ i v W)) hback ?_ ?_ ops.size _ a0 _ (by simp) (by simp) ?_
  · intro listed i o a W hsz ho h0 hd ⟨hB, hdf, hts, hfr, hv⟩
    refine wpOp_step ho (fun K' hK => ?_)
    refine hstep i o ho a W hfr (fun e he hb s hs => hv e.on s (hd e he hb) hs) hB K' (fun v W' hp hb => hK _ _ ?_)
    have hi : i < ops.size := (Array.getElem?_eq_some_iff.1 ho).1
    cases hds : o.dst with
    | none =>
      refine ⟨below_step hB hb, hdf, hts, hfr, fun j s hj hjs => ?_⟩
      have hji : j ≠ i := fun e => by subst e; simp [dstOf, ho, hds] at hjs
      rw [getD_set_ne false (Ne.symm hji)] at hj
      obtain ⟨u, hu, hpu⟩ := hv j s hj hjs
      exact ⟨u, hu, hΦ _ _ _ _ hpu hb⟩
    | some s0 =>
      obtain ⟨hlt, hap⟩ := dst_spec hdst ho hds
      refine ⟨below_step hB hb, hdf, by simp [Act.put, hts], fun s hs => ?_, fun j s hj hjs => ?_⟩
      · have : s0 ≠ s := fun e => hs i o ho (by rw [hds, e])
        rw [← hfr s hs]
        simp [Act.put, Array.getElem?_setIfInBounds_ne this]
      · by_cases hji : j = i
        · subst hji
          have : s0 = s := by simpa [dstOf, ho, hds] using hjs
          subst this
          exact ⟨v, by simp [Act.put, hts, hlt], hp⟩
        · rw [getD_set_ne false (Ne.symm hji)] at hj
          obtain ⟨u, hu, hpu⟩ := hv j s hj hjs
          have hne : s0 ≠ s := fun e => by
            subst e
            cases hoj : ops[j]? with
            | none => simp [dstOf, hoj] at hjs
            | some o' => exact hap j o' hoj hji (by simpa [dstOf, hoj] using hjs)
          exact ⟨u, by simp [Act.put, Array.getElem?_setIfInBounds_ne hne, hu], hΦ _ _ _ _ hpu hb⟩
  · intro listed a W hl ⟨hB, hdf, _, hfr, hv⟩
    refine hfin a W hdf hfr (fun i s hs => ?_) hB
    have hi : i < ops.size := by
      cases ho : ops[i]? with
      | none => simp [dstOf, ho] at hs
      | some o => exact (Array.getElem?_eq_some_iff.1 ho).1
    exact hv i s (hl i hi) hs
  · exact ⟨below_drew (Below.refl _ _), rfl, rfl, fun _ _ => rfl, fun i s hi => by
      exfalso
      by_cases hl : i < ops.size
      · simp [hl] at hi
      · simp [hl] at hi⟩
/-- An operation that yields a value and leaves the world. -/
theorem step_value {o : Oper} {a : Act} {W : World} {K : Act → World → Prop} (v : Value) (hw : Region.wanted o (yielded ops a.tmps) = true) (hrun : (execOp a.eval o).run P W = .ok (.value v) W) (hK : K (a.put o.dst v) W) :
    if Region.wanted o (yielded ops a.tmps) = true then Oper.wp P o a W K Q else K (a.put o.dst undef) W := by
  rw [if_pos hw]
  unfold Oper.wp
  rw [hrun]
  exact hK
theorem eval_tmp {a : Act} {s : Nat} {v : Value} (h : a.tmps[s]? = some v) : a.eval (.tmp s) = v := by
  simp [Act.eval, h]
end
section
variable {P : Program} {ops : Array Oper}
theorem notdst {s : Nat} (h : ((List.range ops.size).all fun j => dstOf ops j != some s) = true) : ∀ (j : Nat) (o' : Oper), ops[j]? = some o' → o'.dst ≠ some s := by
  intro j o' hj hs
  have hj' : j < ops.size := (Array.getElem?_eq_some_iff.1 hj).1
  have := List.all_eq_true.1 h j (List.mem_range.2 hj')
  simp [dstOf, hj, hs] at this
/-- What an operation waits for, with its value. -/
theorem get_dep {o : Oper} {a : Act} {W : World} {Φ : Nat → Value → World → Prop} (hdep : ∀ e ∈ o.after, Region.binds .any e = true → ∀ s, dstOf ops e.on = some s → ∃ v, a.tmps[s]? = some v ∧ Φ e.on v W) (j s : Nat)
    (he : (o.after.toList.any fun e => e.on == j && Region.binds .any e) = true) (hs : dstOf ops j = some s) : ∃ v, a.tmps[s]? = some v ∧ Φ j v W := by
  obtain ⟨e, hm, h⟩ := List.any_eq_true.1 he
  rw [Bool.and_eq_true, beq_iff_eq] at h
  obtain ⟨rfl, hb⟩ := h
  exact hdep e (by simpa using hm) hb s hs
theorem wanted_none {o : Oper} (y : Nat → Option Bool) (h : o.guard = none) : Region.wanted o y = true := by unfold Region.wanted; rw [h]
theorem wanted_some {o : Oper} {a : Act} (j s : Nat) (b : Bool) (h : o.guard = some (j, b)) (hs : dstOf ops j = some s) (hv : a.tmps[s]? = some (.bool b)) : Region.wanted o (yielded ops a.tmps) = true := by
  unfold Region.wanted
  rw [h]
  show (yielded ops a.tmps j == some b) = true
  unfold yielded
  have : ((ops[j]?).bind (·.dst)) = some s := hs
  rw [this]
  simp [hv]
end
section
variable {P : Program} {ops : Array Oper} {Q : Exit → Act → World → Prop}
/-- A value that is known, or a row of rows of bytes that may be read. -/
def gholds : Value ⊕ List (List Int) → Value → World → Prop
  | .inl u, v, _ => v = u
  | .inr xs, v, W => ∃ A c, v = .slice A xs.length c ∧ xs.length ≤ c ∧ Kd.C (Kd.slice 5 (Kd.int .u8)) W A xs.length xs
theorem gholds_below {f : Value ⊕ List (List Int)} {v : Value} {W W' : World} (h : gholds f v W) (hb : Below W.heap.size W W') : gholds f v W' := by
  cases f with
  | inl u => exact h
  | inr xs =>
    obtain ⟨A, c, h1, h2, h3⟩ := h
    exact ⟨A, c, h1, h2, Kd.C_below h3 hb⟩
def gfact (l : List (Value ⊕ List (List Int))) (i : Nat) (v : Value) (W : World) : Prop := gholds (l.getD i (.inl undef)) v W
theorem one_lit (W : World) {A : Option Addr} {n c : Nat} {xs : List Int} (h : Kd.C (Kd.int .u8) W A n xs) (hc : n ≤ c) : gholds (.inr [xs]) (.slice (some ⟨W.heap.size, 0, none⟩) 1 1) (W.alloc (.cells #[.slice A n c] 22)) := by
  have h2 := Kd.C_alloc h (.cells #[.slice A n c] 22)
  refine ⟨some ⟨W.heap.size, 0, none⟩, 1, rfl, by simp, rfl, by simp, fun _ => ⟨_, rfl, fun j p hp => ?_⟩⟩
  obtain ⟨rfl, rfl⟩ : j = 0 ∧ p = xs := by
    cases j with
    | zero => exact ⟨rfl, by simpa using hp.symm⟩
    | succ j => simp at hp
  obtain rfl : n = p.length := h.1.symm
  refine ⟨[.slice A p.length c], rfl, ⟨A, c, rfl, hc, h2⟩, fun i u hu => ?_⟩
  cases i with
  | zero =>
    obtain rfl : Value.slice A p.length c = u := by simpa using hu
    have add0 : ∀ (b i : Nat), (⟨b, 0, none⟩ : Addr).add i = ⟨b, i, none⟩ := by
      intro b i
      unfold Addr.add
      split <;> simp_all
    rw [add0, show 0 * (Kd.slice 5 (Kd.int .u8)).sz + 0 = 0 by omega, cell_of_row (W.alloc (.cells #[.slice A p.length c] 22)) W.heap.size 0 _ _ _ (blk_new _ _)]
    rfl
  | succ i => simp at hu
/-- An operation that yields a value and makes memory. -/
theorem step_alloc {o : Oper} {a : Act} {W : World} {K : Act → World → Prop} (v : Value) (W' : World) (hw : Region.wanted o (yielded ops a.tmps) = true) (hrun : (execOp a.eval o).run P W = .ok (.value v) W') (hK : K (a.put o.dst v) W') :
    if Region.wanted o (yielded ops a.tmps) = true then Oper.wp P o a W K Q else K (a.put o.dst undef) W := by
  rw [if_pos hw]
  unfold Oper.wp
  rw [hrun]
  exact hK
end
section
variable {P : Program} {ops : Array Oper} {Q : Exit → Act → World → Prop} {o : Oper} {a : Act} {W : World} {K : Act → World → Prop}
theorem step_move (v : Value) (x : Operand) (hw : Region.wanted o (yielded ops a.tmps) = true) (hop : o.op = .move x ∨ o.op = .assign x) (hx : a.eval x = v) (hK : K (a.put o.dst v) W) :
    if Region.wanted o (yielded ops a.tmps) = true then Oper.wp P o a W K Q else K (a.put o.dst undef) W := by
  refine step_value v hw ?_ hK
  unfold execOp
  rcases hop with h | h <;> simp [h, hx]
theorem step_pick (t : Bool) (c x y : Operand) (vx vy : Value) (hw : Region.wanted o (yielded ops a.tmps) = true) (hop : o.op = .pick c x y) (hc : a.eval c = .bool t) (hx : a.eval x = vx) (hy : a.eval y = vy) (hK : K (a.put o.dst (if t = true then vx else vy)) W) :
    if Region.wanted o (yielded ops a.tmps) = true then Oper.wp P o a W K Q else K (a.put o.dst undef) W := by
  refine step_value (if t = true then vx else vy) hw ?_ hK
  unfold execOp
  cases t <;> simp [hop, hc, hx, hy, asBool]
theorem step_bin (b : BinOp) (T T' : TypeId) (x y : Operand) (vx vy v : Value) (hw : Region.wanted o (yielded ops a.tmps) = true) (hop : o.op = .binOp b T x y T') (hx : a.eval x = vx) (hy : a.eval y = vy)
    (hb : (do eqGuard b T x y vx vy; binOp b T vx vy : Sem Value).run P W = .ok v W) (hK : K (a.put o.dst v) W) :
    if Region.wanted o (yielded ops a.tmps) = true then Oper.wp P o a W K Q else K (a.put o.dst undef) W := by
  refine step_value v hw ?_ hK
  unfold execOp
  simp only [hop, hx, hy]
  rw [Sem.run_bind, hb]
  rfl
theorem step_cut (T : TypeId) (x h : Operand) (A : Option Addr) (n c : Nat) (vh v : Value) (hw : Region.wanted o (yielded ops a.tmps) = true) (hop : o.op = .slice T x none (some h) none) (hx : a.eval x = .slice A n c) (hh : a.eval h = vh)
    (hb : (Instr.sliceAt T (.slice A n c) none (some vh) none).run P W = .ok v W) (hK : K (a.put o.dst v) W) :
    if Region.wanted o (yielded ops a.tmps) = true then Oper.wp P o a W K Q else K (a.put o.dst undef) W := by
  refine step_value v hw ?_ hK
  unfold execOp
  simp only [hop, Option.map_none, Option.map_some, hx, hh]
  rw [Sem.run_bind, hb]
  rfl
theorem step_lit1 (T e : TypeId) (x : Operand) (u : Value) (hw : Region.wanted o (yielded ops a.tmps) = true) (hop : o.op = .buildSlice T 1 #[(0, x)]) (hx : a.eval x = u)
    (hb : (Instr.buildSlice T 1 #[(0, u)]).run P W = .ok (.slice (some ⟨W.heap.size, 0, none⟩) 1 1) (W.alloc (.cells #[u] e))) (hK : K (a.put o.dst (.slice (some ⟨W.heap.size, 0, none⟩) 1 1)) (W.alloc (.cells #[u] e))) :
    if Region.wanted o (yielded ops a.tmps) = true then Oper.wp P o a W K Q else K (a.put o.dst undef) W := by
  refine step_alloc _ _ hw ?_ hK
  unfold execOp
  simp only [hop]
  have : (Array.map (fun x => (x.1, a.eval x.2)) #[(0, x)]) = #[((0 : Nat), u)] := by simp [hx]
  simp only [this]
  rw [Sem.run_bind, hb]
  rfl
end
section
variable {P : Program} {ops : Array Oper} {Q : Exit → Act → World → Prop} {o : Oper} {a : Act} {W : World} {K : Act → World → Prop}
theorem step_index (T : TypeId) (x i : Operand) (vx vi v : Value) (hw : Region.wanted o (yielded ops a.tmps) = true) (hop : o.op = .indexAddr T x i) (hx : a.eval x = vx) (hi : a.eval i = vi)
    (hb : (Instr.indexAt T vx vi).run P W = .ok v W) (hK : K (a.put o.dst v) W) :
    if Region.wanted o (yielded ops a.tmps) = true then Oper.wp P o a W K Q else K (a.put o.dst undef) W := by
  refine step_value v hw ?_ hK
  unfold execOp
  simp only [hop, hx, hi]
  rw [Sem.run_bind, hb]
  rfl
theorem step_load (T : TypeId) (x : Operand) (vx v : Value) (hw : Region.wanted o (yielded ops a.tmps) = true) (hop : o.op = .load T x) (hx : a.eval x = vx)
    (hb : (Instr.loadAt T vx).run P W = .ok v W) (hK : K (a.put o.dst v) W) :
    if Region.wanted o (yielded ops a.tmps) = true then Oper.wp P o a W K Q else K (a.put o.dst undef) W := by
  refine step_value v hw ?_ hK
  unfold execOp
  simp only [hop, hx]
  rw [Sem.run_bind, hb]
  rfl
end

end Go.Proofs.Ytfjcehjdendjnaa.PA
