/- As Ord: with a frame of its own, and a condition on what is made. append(append(append([]string{}, params...), locals...), entry) in a region that draws its order. -/
import Derived.Test.YtcfcdobgpldoiaaGreatDoorOrd
import Derived.Test.YtcfcdobgpldoiaaGreatDoorSt2
import Derived.Test.YtcfcdobgpldoiaaGreatDoorWin
namespace Go.Proofs.YtcfcdobgpldoiaaGreatDoor
set_option linter.all false
open Go.RowKit
section
variable {P : Program} {ops : Array Oper} {Q : Exit → Act → World → Prop}

/-- What holds while some operations (those of l) are done. -/
structure SpX (X : Nat → Prop) (ops : Array Oper) (Spec : Nat → Value → World → Prop) (a0 : Act) (w0 : World) (l : Nat → Bool) (a : Act) (w : World) : Prop where
  kept : Kept X w0 w
  defers : a.defers = a0.defers
  size : a.tmps.size = a0.tmps.size
  rest : ∀ (t : Nat), (∀ (i : Nat) (o : Oper), ops[i]? = some o → o.dst ≠ some t) → a.tmps.getD t undef = a0.tmps.getD t undef
  done : ∀ (i : Nat) (o : Oper) (d : Nat), ops[i]? = some o → l i = true → o.dst = some d → Spec i (a.tmps.getD d undef) w
  todo : ∀ (i : Nat) (o : Oper) (d : Nat), ops[i]? = some o → l i = false → o.dst = some d → a.tmps.getD d undef = a0.tmps.getD d undef
  closed : ∀ (i : Nat) (o : Oper), ops[i]? = some o → l i = true → ∀ e ∈ o.after, Region.binds .any e = true → l e.on = true

theorem SpX.put {X : Nat → Prop} {Spec : Nat → Value → World → Prop} {a0 : Act} {w0 : World} {l l' : Nat → Bool} {a : Act} {w w' : World} {i : Nat} {o : Oper} {v : Value}
    (hok : okOps ops a0.tmps.size = true) (hst : ∀ i v w w', Spec i v w → Kept X w w' → Spec i v w') (h : SpX X ops Spec a0 w0 l a w) (ho : ops[i]? = some o)
    (hv : ∀ d, o.dst = some d → Spec i v w') (hk : Kept X w w') (hl : ∀ j, l' j = true ↔ j = i ∨ l j = true) (haft : ∀ e ∈ o.after, Region.binds .any e = true → l e.on = true) : SpX X ops Spec a0 w0 l' (a.put o.dst v) w' := by
  obtain ⟨_, hd, _⟩ := okOps_at hok ho
  refine ⟨h.kept.trans hk, ?_, ?_, fun t ht => ?_, fun j p d hj hlj hpd => ?_, fun j p d hj hlj hpd => ?_, fun j p hj hlj e he hb => ?_⟩
  · unfold Act.put; cases o.dst <;> exact h.defers
  · unfold Act.put; cases o.dst
    · exact h.size
    · simp only [Array.size_setIfInBounds]; exact h.size
  · rw [← h.rest t ht]
    unfold Act.put
    cases hdst : o.dst with
    | none => rfl
    | some d =>
      have hne : d ≠ t := fun e => ht i o ho (by rw [hdst, e])
      simp only [Array.getD_eq_getD_getElem?, Array.getElem?_setIfInBounds_ne hne]
  · by_cases hji : j = i
    · subst hji
      rw [ho] at hj; cases hj
      unfold Act.put
      rw [hpd]
      simp only [Array.getD_eq_getD_getElem?, Array.getElem?_setIfInBounds_self_of_lt (show d < a.tmps.size by rw [h.size]; exact (hd d hpd).1), Option.getD_some]
      exact hv d hpd
    · have hold := hst _ _ _ _ (h.done j p d hj (((hl j).1 hlj).resolve_left hji) hpd) hk
      unfold Act.put
      cases hdst : o.dst with
      | none => exact hold
      | some d' =>
        have hne : d' ≠ d := fun e => (hd d' hdst).2 j p hj hji (by rw [hpd, e])
        simp only [Array.getD_eq_getD_getElem?, Array.getElem?_setIfInBounds_ne hne] at hold ⊢
        exact hold
  · have hlj' : l j = false := by
      cases hx : l j with
      | false => rfl
      | true => rw [(hl j).2 (.inr hx)] at hlj; cases hlj
    have hji : j ≠ i := fun e => by rw [(hl j).2 (.inl e)] at hlj; cases hlj
    rw [← h.todo j p d hj hlj' hpd]
    unfold Act.put
    cases hdst : o.dst with
    | none => rfl
    | some d' =>
      have hne : d' ≠ d := fun e => (hd d' hdst).2 j p hj hji (by rw [hpd, e])
      simp only [Array.getD_eq_getD_getElem?, Array.getElem?_setIfInBounds_ne hne]
  · rcases (hl j).1 hlj with rfl | hx
    · rw [ho] at hj; cases hj
      exact (hl _).2 (.inr (haft e he hb))
    · exact (hl _).2 (.inr (h.closed j p hj hx e he hb))

theorem wp_specsX (X : Nat → Prop) (J : (Nat → Bool) → (Nat → Value) → World → Prop) (Spec : Nat → Value → World → Prop) {id : Nat} {a0 : Act} {w0 : World} (hm : P.follows .mixedOrders = true) (hok : okOps ops a0.tmps.size = true)
    (hst : ∀ i v w w', Spec i v w → Kept X w w' → Spec i v w')
    (hstep : ∀ (i : Nat) (o : Oper), ops[i]? = some o → ∀ (l : Nat → Bool) (a : Act) (w : World), SpX X ops Spec a0 w0 l a w → J l (fun t => a.tmps.getD t undef) w → l i = false → (∀ e ∈ o.after, l e.on = true ∨ Region.binds .any e = false) →
      o.wp P a w (fun a' w' => ∃ v, a' = a.put o.dst v ∧ (∀ d, o.dst = some d → Spec i v w') ∧ Kept X w w' ∧ ∀ l', (∀ j, l' j = true ↔ j = i ∨ l j = true) → J l' (fun t => (a.put o.dst v).tmps.getD t undef) w') Q)
    (hJ0 : ∀ l : Nat → Bool, (∀ i, i < ops.size → l i = false) → J l (fun t => a0.tmps.getD t undef) w0.drew) (hJe : ∀ (l l' : Nat → Bool) f w, (∀ i, i < ops.size → l i = l' i) → J l f w → J l' f w)
    (hend : ∀ (a : Act) (w : World), SpX X ops Spec a0 w0 (fun _ => true) a w → J (fun _ => true) (fun t => a.tmps.getD t undef) w → Q .normal a w) : (Code.region id ops true).wp P Q a0 w0 := by
  refine wp_region_any hm ?_
  have hall : ∀ (l : Array Bool), l.size = ops.size → Region.ready .any ops l = [] → ∀ i, i < ops.size → l.getD i true = true := by
    intro l hls hr i
    induction i using Nat.strongRecOn with
    | _ i ih =>
      intro hi
      cases hg : l.getD i true with
      | true => rfl
      | false =>
        exfalso
        have ho : ops[i]? = some ops[i] := Array.getElem?_eq_getElem hi
        have hm' : i ∈ Region.ready .any ops l := mem_ready.2 ⟨hg, ops[i], ho, fun e he _ => by
          have hlt := (okOps_at hok ho).2.2 e he
          have := ih e.on hlt (by omega)
          rw [Array.getD_eq_getD_getElem?] at this ⊢
          rw [Array.getElem?_eq_getElem (by omega)] at this ⊢
          exact this⟩
        rw [hr] at hm'; cases hm'
  have main : ∀ (fuel : Nat) (l : Array Bool) (a : Act) (w : World), l.size = ops.size → (List.range ops.size).countP (fun i => !l.getD i true) ≤ fuel →
      SpX X ops Spec a0 w0 (fun i => l.getD i true) a w → J (fun i => l.getD i true) (fun t => a.tmps.getD t undef) w → wpAny P .any ops Q fuel l a w := by
    intro fuel
    have fin : ∀ (l : Array Bool) (a : Act) (w : World), l.size = ops.size → Region.ready .any ops l = [] → SpX X ops Spec a0 w0 (fun i => l.getD i true) a w → J (fun i => l.getD i true) (fun t => a.tmps.getD t undef) w → Q .normal a w :=
      fun l a w hls hr h hj => hend a w ⟨h.kept, h.defers, h.size, h.rest, fun i o d ho _ hd => h.done i o d ho (hall l hls hr i (Array.getElem?_eq_some_iff.1 ho).1) hd, fun _ _ _ _ h => (by cases h), fun _ _ _ _ _ _ _ => rfl⟩ (hJe _ _ _ _ (fun i hi => hall l hls hr i hi) hj)
    induction fuel with
    | zero =>
      intro l a w hls hc h hj
      have hr : Region.ready .any ops l = [] := List.eq_nil_iff_forall_not_mem.2 fun i hi => by
        obtain ⟨hg, o, ho, _⟩ := mem_ready.1 hi
        have hlt := (Array.getElem?_eq_some_iff.1 ho).1
        have h0 : (List.range ops.size).countP (fun i => !l.getD i true) = 0 := by omega
        have := List.countP_eq_zero.1 h0 i (List.mem_range.2 hlt)
        rw [hg] at this; exact this rfl
      exact ⟨hr, fin l a w hls hr h hj⟩
    | succ fuel ih =>
      intro l a w hls hc h hj
      refine ⟨fun hr => fin l a w hls hr h hj, fun i hi => ?_⟩
      obtain ⟨hg, o, ho, haft⟩ := mem_ready.1 hi
      have hlt := (Array.getElem?_eq_some_iff.1 ho).1
      have hgd := (okOps_at hok ho).1
      have hw : Region.wanted o (yielded ops a.tmps) = true := by simp [Region.wanted, hgd]
      unfold wpOp
      simp only [ho, hw, if_true]
      refine .inl (Oper.wp_mono ?_ (hstep i o ho _ a w h hj hg fun e he => ?_))
      · rintro a' w' ⟨v, rfl, hv, hk, hj'⟩
        have hset : ∀ j, (l.setIfInBounds i true).getD j true = true ↔ j = i ∨ l.getD j true = true := by
          intro j
          by_cases hji : j = i
          · subst hji
            simp only [Array.getD_eq_getD_getElem?, Array.getElem?_setIfInBounds_self_of_lt (show j < l.size by omega), Option.getD_some, true_or]
          · simp only [Array.getD_eq_getD_getElem?, Array.getElem?_setIfInBounds_ne (Ne.symm hji), hji, false_or]
        refine ih _ _ _ (by rw [Array.size_setIfInBounds]; exact hls) ?_ (h.put hok hst ho hv hk (fun j => hset j) fun e he hb => ?_) (hj' _ fun j => hset j)
        rotate_left
        · have := haft e he hb
          rw [Array.getD_eq_getD_getElem?] at this ⊢
          cases hx : l[e.on]? with
          | none => rw [hx] at this; cases this
          | some b => rw [hx] at this; simpa using this
        have hc2 : (List.range ops.size).countP (fun j => !(l.setIfInBounds i true).getD j true) + 1 ≤ (List.range ops.size).countP (fun j => !l.getD j true) := by
          have key : ∀ (r : List Nat), r.Nodup → (r.countP (fun j => !(l.setIfInBounds i true).getD j true)) + (if i ∈ r then 1 else 0) = r.countP (fun j => !l.getD j true) := by
            intro r
            induction r with
            | nil => intro _; rfl
            | cons j r ihr =>
              intro hn
              obtain ⟨hj1, hj2⟩ := List.nodup_cons.1 hn
              have ihr := ihr hj2
              simp only [List.countP_cons, List.mem_cons]
              by_cases hji : j = i
              · subst hji
                rw [if_neg hj1] at ihr
                have e1 : (l.setIfInBounds j true).getD j true = true := (hset j).2 (.inl rfl)
                rw [e1, hg]
                simp only [Bool.not_true, Bool.not_false, Bool.false_eq_true, if_false, if_true, true_or]
                omega
              · have e1 : (l.setIfInBounds i true).getD j true = l.getD j true := by
                  simp only [Array.getD_eq_getD_getElem?, Array.getElem?_setIfInBounds_ne (Ne.symm hji)]
                have e2 : (i = j ∨ i ∈ r) ↔ i ∈ r := ⟨fun h => h.resolve_left (Ne.symm hji), .inr⟩
                rw [e1]
                simp only [e2]; omega
          have := key (List.range ops.size) List.nodup_range
          rw [if_pos (List.mem_range.2 hlt)] at this
          omega
        omega
      · cases hb : Region.binds .any e with
        | false => exact .inr rfl
        | true =>
          left
          have := haft e he hb
          rw [Array.getD_eq_getD_getElem?] at this ⊢
          cases hx : l[e.on]? with
          | none => rw [hx] at this; cases this
          | some b => rw [hx] at this; simpa using this
  refine main _ _ _ _ (by simp) ?_ ⟨(Kept.refl X w0).drew, rfl, rfl, fun _ _ => rfl, fun i o d ho hl _ => ?_, fun _ _ _ _ _ _ => rfl, fun i o ho hl => ?_⟩ (hJ0 _ fun i hi => by simp [Array.getD_eq_getD_getElem?, hi])
  · exact Nat.le_trans List.countP_le_length (by simp)
  all_goals
    exfalso
    have hlt := (Array.getElem?_eq_some_iff.1 ho).1
    simp [Array.getD_eq_getD_getElem?, hlt] at hl
theorem SpX.keep {X : Nat → Prop} {Spec : Nat → Value → World → Prop} {a0 : Act} {w0 : World} {l : Nat → Bool} {a : Act} {w : World} (h : SpX X ops Spec a0 w0 l a w) (t : Nat) (v : Value) (hv : a0.tmps.getD t undef = v) (hn : (ops.toList.all fun o => o.dst != some t) = true) : a.eval (.tmp t) = v := by
  show a.tmps.getD t undef = v
  rw [h.rest t fun i o ho e => ?_, hv]
  have := List.all_eq_true.1 hn o (by rw [← Array.mem_def]; exact Array.mem_of_getElem? ho)
  rw [e] at this; simp at this
theorem SpX.dep {X : Nat → Prop} {Spec : Nat → Value → World → Prop} {a0 : Act} {w0 : World} {l : Nat → Bool} {a : Act} {w : World} (h : SpX X ops Spec a0 w0 l a w) {after : Array Edge} (haft : ∀ e ∈ after, l e.on = true ∨ Region.binds .any e = false) (i t : Nat) {o : Oper}
    (ho : ops[i]? = some o) (hd : o.dst = some t) (he : (after.toList.any fun e => e.on == i && Region.binds .any e) = true) : Spec i (a.eval (.tmp t)) w := by
  obtain ⟨e, hm, hb⟩ := List.any_eq_true.1 he
  simp only [Bool.and_eq_true, beq_iff_eq] at hb
  obtain ⟨rfl, hb⟩ := hb
  refine h.done e.on o t ho ?_ hd
  rcases haft e (by simpa using hm) with h1 | h1
  · exact h1
  · rw [hb] at h1; cases h1
/-- What an operation still finds in a temporary that is written by one that waits for it. -/
theorem SpX.late {X : Nat → Prop} {Spec : Nat → Value → World → Prop} {a0 : Act} {w0 : World} {l : Nat → Bool} {a : Act} {w : World} (h : SpX X ops Spec a0 w0 l a w) {i : Nat} (hi : l i = false) (j t : Nat) {o : Oper}
    (ho : ops[j]? = some o) (hd : o.dst = some t) (he : (o.after.toList.any fun e => e.on == i && Region.binds .any e) = true) (v : Value) (hv : a0.tmps.getD t undef = v) : a.eval (.tmp t) = v := by
  show a.tmps.getD t undef = v
  rw [← hv]
  refine h.todo j o t ho ?_ hd
  cases hx : l j with
  | false => rfl
  | true =>
    obtain ⟨e, hm, hb⟩ := List.any_eq_true.1 he
    simp only [Bool.and_eq_true, beq_iff_eq] at hb
    have := h.closed j o ho hx e (by simpa using hm) hb.2
    rw [hb.1, hi] at this; cases this
theorem SpX.act {X : Nat → Prop} {Spec : Nat → Value → World → Prop} {a0 : Act} {w0 : World} {l : Nat → Bool} {a : Act} {w : World} (h : SpX X ops Spec a0 w0 l a w) (ds : List Nat) (hds : ops.toList.filterMap (·.dst) = ds) :
    a = ⟨setAll (fun t => a.tmps.getD t undef) a0.tmps ds, a0.defers⟩ := by
  obtain ⟨tm, df⟩ := a
  have e1 := h.defers
  have e2 := h.size
  dsimp only at e1 e2 ⊢
  rw [e1]
  congr 1
  refine Array.ext_getElem? fun k => ?_
  rw [setAll_get]
  by_cases hk : k ∈ ds ∧ k < a0.tmps.size
  · rw [if_pos hk, Array.getElem?_eq_getElem (by omega), Array.getD_eq_getD_getElem?, Array.getElem?_eq_getElem (by omega)]; rfl
  · rw [if_neg hk]
    by_cases h2 : k < a0.tmps.size
    · have h3 := h.rest k fun i o ho e => hk ⟨by rw [← hds]; exact List.mem_filterMap.2 ⟨o, by rw [← Array.mem_def]; exact Array.mem_of_getElem? ho, e⟩, h2⟩
      dsimp only at h3
      rw [Array.getD_eq_getD_getElem?, Array.getD_eq_getD_getElem?, Array.getElem?_eq_getElem (show k < tm.size by omega), Array.getElem?_eq_getElem h2] at h3
      rw [Array.getElem?_eq_getElem (show k < tm.size by omega), Array.getElem?_eq_getElem h2]
      simpa using h3
    · rw [Array.getElem?_eq_none (by omega), Array.getElem?_eq_none (by omega)]

theorem wp_specsX2 (X : Nat → Prop) (J : (Nat → Bool) → (Nat → Value) → World → Prop) (Spec : Nat → Value → World → Prop) {id : Nat} {a0 : Act} {w0 : World} (ds : List Nat) (hds : ops.toList.filterMap (·.dst) = ds) (hm : P.follows .mixedOrders = true) (hok : okOps ops a0.tmps.size = true)
    (hst : ∀ i v w w', Spec i v w → Kept X w w' → Spec i v w')
    (hstep : ∀ (i : Nat) (o : Oper), ops[i]? = some o → ∀ (l : Nat → Bool) (a : Act) (w : World), SpX X ops Spec a0 w0 l a w → J l (fun t => a.tmps.getD t undef) w → l i = false → (∀ e ∈ o.after, l e.on = true ∨ Region.binds .any e = false) →
      o.wp P a w (fun a' w' => ∃ v, a' = a.put o.dst v ∧ (∀ d, o.dst = some d → Spec i v w') ∧ Kept X w w' ∧ ∀ l', (∀ j, l' j = true ↔ j = i ∨ l j = true) → J l' (fun t => (a.put o.dst v).tmps.getD t undef) w') Q)
    (hJ0 : ∀ l : Nat → Bool, (∀ i, i < ops.size → l i = false) → J l (fun t => a0.tmps.getD t undef) w0.drew) (hJe : ∀ (l l' : Nat → Bool) f w, (∀ i, i < ops.size → l i = l' i) → J l f w → J l' f w)
    (hend : ∀ (f : Nat → Value) (w : World), Kept X w0 w → (∀ (i : Nat) (o : Oper) (d : Nat), ops[i]? = some o → o.dst = some d → Spec i (f d) w) → J (fun _ => true) f w → Q .normal ⟨setAll f a0.tmps ds, a0.defers⟩ w) : (Code.region id ops true).wp P Q a0 w0 := by
  refine wp_specsX X J Spec hm hok hst hstep hJ0 hJe fun a w h hj => ?_
  rw [h.act ds hds]
  exact hend _ w h.kept (fun i o d ho hd => h.done i o d ho rfl hd) hj
/-- Who waits for one that is not done is not done. -/
theorem SpX.no {X : Nat → Prop} {Spec : Nat → Value → World → Prop} {a0 : Act} {w0 : World} {l : Nat → Bool} {a : Act} {w : World} (h : SpX X ops Spec a0 w0 l a w) {i : Nat} (hi : l i = false) (j : Nat) {o : Oper}
    (ho : ops[j]? = some o) (he : (o.after.toList.any fun e => e.on == i && Region.binds .any e) = true) : l j = false := by
  cases hx : l j with
  | false => rfl
  | true =>
    obtain ⟨e, hm, hb⟩ := List.any_eq_true.1 he
    simp only [Bool.and_eq_true, beq_iff_eq] at hb
    have := h.closed j o ho hx e (by simpa using hm) hb.2
    rw [hb.1, hi] at this; cases this
theorem dep_done {l : Nat → Bool} {after : Array Edge} (haft : ∀ e ∈ after, l e.on = true ∨ Region.binds .any e = false) (i : Nat) (he : (after.toList.any fun e => e.on == i && Region.binds .any e) = true) : l i = true := by
  obtain ⟨e, hm, hb⟩ := List.any_eq_true.1 he
  simp only [Bool.and_eq_true, beq_iff_eq] at hb
  rcases haft e (by simpa using hm) with h1 | h1
  · rw [← hb.1]; exact h1
  · rw [hb.2] at h1; cases h1
theorem upd_ne {l l' : Nat → Bool} {i : Nat} (h : ∀ j, l' j = true ↔ j = i ∨ l j = true) (j : Nat) (hj : j ≠ i) : l' j = l j := by
  rw [Bool.eq_iff_iff, h j]; simp [hj]
theorem upd_self {l l' : Nat → Bool} {i : Nat} (h : ∀ j, l' j = true ↔ j = i ∨ l j = true) : l' i = true := (h i).2 (.inl rfl)
theorem put_ne (x : Act) (d t : Nat) (v : Value) (h : d ≠ t) : (x.put (some d) v).tmps.getD t undef = x.tmps.getD t undef := by
  simp only [Act.put, Array.getD_eq_getD_getElem?, Array.getElem?_setIfInBounds_ne h]
theorem put_self (x : Act) (d : Nat) (v : Value) (h : d < x.tmps.size) : (x.put (some d) v).tmps.getD d undef = v := by
  simp only [Act.put, Array.getD_eq_getD_getElem?, Array.getElem?_setIfInBounds_self_of_lt h, Option.getD_some]
theorem opX_val {J : (Nat → Bool) → (Nat → Value) → World → Prop} {X : Nat → Prop} {l : Nat → Bool} {i : Nat} {o : Oper} {x : Act} {w : World} {v : Value} {R : Nat → Value → World → Prop} (hr : (execOp x.eval o).run P w = .ok (.value v) w) (hs : R i v w)
    (hj : ∀ l', (∀ j, l' j = true ↔ j = i ∨ l j = true) → J l' (fun t => (x.put o.dst v).tmps.getD t undef) w) :
    o.wp P x w (fun a' w' => ∃ v, a' = x.put o.dst v ∧ (∀ d, o.dst = some d → R i v w') ∧ Kept X w w' ∧ ∀ l', (∀ j, l' j = true ↔ j = i ∨ l j = true) → J l' (fun t => (x.put o.dst v).tmps.getD t undef) w') Q := by
  unfold Oper.wp
  rw [hr]
  exact ⟨v, rfl, fun _ _ => hs, Kept.refl _ _, hj⟩
theorem opX_new {J : (Nat → Bool) → (Nat → Value) → World → Prop} {X : Nat → Prop} {l : Nat → Bool} {i : Nat} {o : Oper} {x : Act} {w w' : World} {v : Value} {R : Nat → Value → World → Prop} (hr : (execOp x.eval o).run P w = .ok (.value v) w') (hs : R i v w') (hk : Kept X w w')
    (hj : ∀ l', (∀ j, l' j = true ↔ j = i ∨ l j = true) → J l' (fun t => (x.put o.dst v).tmps.getD t undef) w') :
    o.wp P x w (fun a' w' => ∃ v, a' = x.put o.dst v ∧ (∀ d, o.dst = some d → R i v w') ∧ Kept X w w' ∧ ∀ l', (∀ j, l' j = true ↔ j = i ∨ l j = true) → J l' (fun t => (x.put o.dst v).tmps.getD t undef) w') Q := by
  unfold Oper.wp
  rw [hr]
  exact ⟨v, rfl, fun _ _ => hs, hk, hj⟩
end
end Go.Proofs.YtcfcdobgpldoiaaGreatDoor

namespace Go.Proofs.YtcfcdobgpldoiaaGreatDoor
set_option linter.all false
open Go.RowKit

theorem infoStr : (Tryz.prog.info? 9).map (fun i => (i.zero, i.size, i.bytes)) = some (some (.string ⟨#[]⟩), 1, 16) := by kernel_rfl
theorem strs_src {w : World} {S : Nat → Prop} {a : Option Addr} {l : List ByteArray} (h : StrsAt w S a l) (c : Nat) : Src Tryz.prog 1 31 (.slice a l.length c) l.length (l.map Value.string) w := by
  cases a with
  | none =>
    have : l = [] := by
      cases l with
      | nil => rfl
      | cons x r => obtain ⟨b, o, e, _⟩ := h (by simp); cases e
    subst this
    exact Src.ofNil _ Tryz.underlying31 _
  | some ad =>
    refine Src.ofSlice _ Tryz.underlying31 _ _ _ _ (by simp) (fun j u hu => ?_) (by intro u hu; obtain ⟨e, _, rfl⟩ := List.mem_map.1 hu; rfl)
    rw [List.getElem?_map] at hu
    cases hj : l[j]? with
    | none => rw [hj] at hu; cases hu
    | some y =>
      rw [hj] at hu
      obtain ⟨hlt, hy⟩ := List.getElem?_eq_some_iff.1 hj
      obtain ⟨b, o, e, _, hc⟩ := h (by omega)
      simp only [Option.some.injEq] at e
      subst e
      have e1 : (⟨b, o, none⟩ : Addr).add j = ⟨b, o + j, none⟩ := by unfold Addr.add; split <;> simp_all
      rw [e1, hc j hlt, hy]; exact hu
theorem row_src {w : World} {g : Nat} {x : ByteArray} (hg : w.heap[g]? = some (.cells #[.string x] 9 (0, 0))) : Src Tryz.prog 1 31 (.slice (some ⟨g, 0, none⟩) 1 1) 1 [.string x] w :=
  strs_src (l := [x]) (strs_row hg (S := fun _ => True) trivial) 1

def Ch (w : World) (B n : Nat) (xs : List Value) (u : Value) : Prop := ∃ a c, u = .slice a n c ∧ Win w B 9 1 (.slice a n c) n xs
structure RowJ (B n1 n2 n3 : Nat) (xs1 xs2 xs3 : List Value) (e : ByteArray) (b0 b3 b6 b9 b10 : Bool) (u0 u3 u6 u9 u10 : Value) (w : World) : Prop where
  base : B ≤ w.heap.size
  h0 : b0 = true → b3 = false → Ch w B 0 [] u0
  h3 : b3 = true → b6 = false → Ch w B n1 xs1 u3
  h6 : b6 = true → b10 = false → Ch w B n2 xs2 u6
  h10 : b10 = true → Ch w B n3 xs3 u10
  h9 : b9 = true → b10 = false → ∃ g, u9 = .slice (some ⟨g, 0, none⟩) 1 1 ∧ g < w.heap.size ∧ w.heap[g]? = some (.cells #[.string e] 9 (0, 0)) ∧
    (b0 = true → b3 = false → u0.ownBlock ≠ some g) ∧ (b3 = true → b6 = false → u3.ownBlock ≠ some g) ∧ (b6 = true → u6.ownBlock ≠ some g)
section
variable {B n1 n2 n3 : Nat} {xs1 xs2 xs3 : List Value} {e : ByteArray} {b0 b3 b6 b9 b10 : Bool} {u0 u3 u6 u9 u10 : Value} {w w' : World}
theorem RowJ.op0 (h : RowJ B n1 n2 n3 xs1 xs2 xs3 e false false false b9 false u0 u3 u6 u9 u10 w) :
    RowJ B n1 n2 n3 xs1 xs2 xs3 e true false false b9 false (.slice (some ⟨w.heap.size, 0, none⟩) 0 0) u3 u6 u9 u10 (w.alloc (.cells #[] 9)) := by
  refine ⟨by have := h.base; simp; omega, fun _ _ => ⟨_, _, rfl, rfl, .inr ⟨w.heap.size, 0, 0, #[], rfl, h.base, heap_alloc_new w _, Nat.le_refl _, by unfold maxLen; omega, by simp, by simp⟩⟩, fun h => by (cases h), fun h => by (cases h), fun h => by (cases h), fun h9 h10 => ?_⟩
  obtain ⟨g, h1, h2, h3, _⟩ := h.h9 h9 h10
  refine ⟨g, h1, by simp; omega, by rw [Below.heap_alloc _ _ _ h2]; exact h3, fun _ _ hx => ?_, fun h => (by cases h), fun h => (by cases h)⟩
  simp only [Value.ownBlock, Option.some.injEq] at hx
  omega
theorem Ch.alloc (h : Ch w B n1 xs1 u0) (o : Obj) : Ch (w.alloc o) B n1 xs1 u0 := by
  obtain ⟨a, c, rfl, h⟩ := h
  exact ⟨a, c, rfl, h.alloc o⟩
theorem Ch.lt (h : Ch w B n1 xs1 u0) {k : Nat} (hk : u0.ownBlock = some k) : B ≤ k ∧ k < w.heap.size := by
  obtain ⟨a, c, rfl, h⟩ := h
  exact h.lt k hk
theorem RowJ.op9 (h : RowJ B n1 n2 n3 xs1 xs2 xs3 e b0 b3 b6 false false u0 u3 u6 u9 u10 w) :
    RowJ B n1 n2 n3 xs1 xs2 xs3 e b0 b3 b6 true false u0 u3 u6 (.slice (some ⟨w.heap.size, 0, none⟩) 1 1) u10 (w.alloc (.cells #[.string e] 9)) := by
  refine ⟨by have := h.base; simp; omega, fun a b => (h.h0 a b).alloc _, fun a b => (h.h3 a b).alloc _, fun a b => (h.h6 a b).alloc _, fun a => by (cases a), fun _ _ => ⟨_, rfl, by simp, heap_alloc_new w _, fun a b hx => ?_, fun a b hx => ?_, fun a hx => ?_⟩⟩
  · have := ((h.h0 a b).lt hx).2; omega
  · have := ((h.h3 a b).lt hx).2; omega
  · have := ((h.h6 a rfl).lt hx).2; omega
theorem RowJ.op3 (h : RowJ B n1 n2 n3 xs1 xs2 xs3 e true false false b9 false u0 u3 u6 u9 u10 w) {v : Value} (hv : Ch w' B n1 xs1 v) (hg : w.grownBy w' u0.ownBlock) (ho : v.ownBlock = u0.ownBlock ∨ v.ownBlock = some w.heap.size) :
    RowJ B n1 n2 n3 xs1 xs2 xs3 e true true false b9 false u0 v u6 u9 u10 w' := by
  refine ⟨Nat.le_trans h.base hg.size, fun _ h => by (cases h), fun _ _ => hv, fun h => by (cases h), fun h => by (cases h), fun h9 h10 => ?_⟩
  obtain ⟨g, h1, h2, h3, h4, _⟩ := h.h9 h9 h10
  refine ⟨g, h1, Nat.lt_of_lt_of_le h2 hg.size, by rw [hg.block g h2 (Ne.symm (h4 rfl rfl))]; exact h3, fun _ h => by (cases h), fun _ _ hx => ?_, fun h => by (cases h)⟩
  rcases ho with ho | ho
  · exact h4 rfl rfl (by rw [← ho]; exact hx)
  · rw [ho] at hx; cases hx; omega
theorem RowJ.op6 (h : RowJ B n1 n2 n3 xs1 xs2 xs3 e b0 true false b9 false u0 u3 u6 u9 u10 w) {v : Value} (hv : Ch w' B n2 xs2 v) (hg : w.grownBy w' u3.ownBlock) (ho : v.ownBlock = u3.ownBlock ∨ v.ownBlock = some w.heap.size) :
    RowJ B n1 n2 n3 xs1 xs2 xs3 e b0 true true b9 false u0 u3 v u9 u10 w' := by
  refine ⟨Nat.le_trans h.base hg.size, fun _ h => by (cases h), fun _ h => by (cases h), fun _ _ => hv, fun h => by (cases h), fun h9 h10 => ?_⟩
  obtain ⟨g, h1, h2, h3, _, h4, _⟩ := h.h9 h9 h10
  refine ⟨g, h1, Nat.lt_of_lt_of_le h2 hg.size, by rw [hg.block g h2 (Ne.symm (h4 rfl rfl))]; exact h3, fun _ h => by (cases h), fun _ h => by (cases h), fun _ hx => ?_⟩
  rcases ho with ho | ho
  · exact h4 rfl rfl (by rw [← ho]; exact hx)
  · rw [ho] at hx; cases hx; omega
theorem RowJ.op10 (h : RowJ B n1 n2 n3 xs1 xs2 xs3 e b0 b3 true b9 false u0 u3 u6 u9 u10 w) {v : Value} (hv : Ch w' B n3 xs3 v) (hs : w.heap.size ≤ w'.heap.size) (h3 : b3 = true) :
    RowJ B n1 n2 n3 xs1 xs2 xs3 e b0 b3 true b9 true u0 u3 u6 u9 v w' :=
  ⟨Nat.le_trans h.base hs, fun _ h => (by rw [h3] at h; cases h), fun _ h => by (cases h), fun _ h => by (cases h), fun _ => hv, fun _ h => by (cases h)⟩
end
theorem opX_app {J : (Nat → Bool) → (Nat → Value) → World → Prop} {X : Nat → Prop} {l : Nat → Bool} {i : Nat} {o : Oper} {x : Act} {w : World} {R : Nat → Value → World → Prop} {Q : Exit → Act → World → Prop} (s y : Operand)
    (ho : o.op = .call { callee := .builtin .append, args := #[s, y], argTypes := #[31, 31] })
    {B n : Nat} {xs : List Value} {v : Value} (hs : x.eval s = v) (hown : Ch w B n xs v) (yv : Value) (m : Nat) (news : List Value) (hy : x.eval y = yv) (hsrc : Src Tryz.prog 1 31 yv m news w)
    (hn : n + m ≤ 4000000000) (hB : B ≤ w.heap.size) (hX : ∀ k, B ≤ k → X k) (hR : ∀ v w', R i v w')
    (h : ∀ v' w', Ch w' B (n + m) (xs ++ news) v' → w.grownBy w' v.ownBlock → (v'.ownBlock = v.ownBlock ∨ v'.ownBlock = some w.heap.size) → ∀ l', (∀ j, l' j = true ↔ j = i ∨ l j = true) → J l' (fun t => (x.put o.dst v').tmps.getD t undef) w') :
    o.wp Tryz.prog x w (fun a' w' => ∃ v, a' = x.put o.dst v ∧ (∀ d, o.dst = some d → R i v w') ∧ Kept X w w' ∧ ∀ l', (∀ j, l' j = true ↔ j = i ∨ l j = true) → J l' (fun t => (x.put o.dst v).tmps.getD t undef) w') Q := by
  obtain ⟨i0, hi0, hz0, hz1, hz2⟩ := info_parts infoStr
  obtain ⟨a, c, rfl, hW⟩ := hown
  refine wp_append_win w s y _ _ ho B 9 i0 (.string ⟨#[]⟩) 1 16 Tryz.underlying31 hi0 hz0 hz1 hz2 rfl (.slice a n c) n xs hs hW yv m news hy hsrc (by unfold maxLen; omega) (by omega) hB ?_
  intro a' c' w' hW' hgr hoo
  exact ⟨_, rfl, fun _ _ => hR _ _, (Kept.refl X w).grown hgr fun k hk => .inl (hX k (hW.lt k hk).1), h _ _ ⟨a', c', rfl, hW'⟩ hgr hoo⟩
end Go.Proofs.YtcfcdobgpldoiaaGreatDoor
