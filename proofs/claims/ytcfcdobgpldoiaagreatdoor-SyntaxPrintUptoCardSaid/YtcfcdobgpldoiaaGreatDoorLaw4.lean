/- Plain laws on patterns as trees: what a walk through a pattern finds. -/
import Derived.Test.YtcfcdobgpldoiaaGreatDoorSm3
namespace Go.Proofs.YtcfcdobgpldoiaaGreatDoor
set_option linter.all false
open Go.RowKit

mutual
def allT : PatT → List PatT
  | .mk k t n nm kids => .mk k t n nm kids :: allL kids
def allL : List PatT → List PatT
  | [] => []
  | p :: ps => allT p ++ allL ps
end
mutual
def depthT : PatT → Nat
  | .mk _ _ _ _ kids => 1 + depthL kids
def depthL : List PatT → Nat
  | [] => 0
  | p :: ps => max (depthT p) (depthL ps)
end
theorem sizeT_pos (p : PatT) : 1 ≤ sizeT p := by cases p; simp only [sizeT]; omega
theorem depthT_pos (p : PatT) : 1 ≤ depthT p := by cases p; simp only [depthT]; omega

mutual
theorem walk_size : ∀ (p : PatT) (n m d : Nat), n ≤ 4096 →
    (n + sizeT p ≤ 4096 ∧ d + depthT p ≤ 201 → walkF sizeStep (n, m) p d = ((n + sizeT p, max m (d + depthT p - 1)), true)) ∧
    (¬ (n + sizeT p ≤ 4096 ∧ d + depthT p ≤ 201) → (walkF sizeStep (n, m) p d).2 = false)
  | .mk k t n' nm kids, n, m, d, hn => by
    have ih := walkL_size kids (n + 1) (max m d) (d + 1)
    rw [sizeT, depthT, walkF]
    have e : sizeStep (n, m) (.mk k t n' nm kids) d = ((n + 1, max m d), decide (n + 1 ≤ 4096) && decide (d ≤ 200)) := rfl
    rw [e]
    by_cases h1 : n + 1 ≤ 4096 ∧ d ≤ 200
    · rw [decide_eq_true h1.1, decide_eq_true h1.2, Bool.and_true]
      obtain ⟨a, b⟩ := ih h1.1 (by omega)
      refine ⟨fun h => ?_, fun h => b (by omega)⟩
      show walkKids sizeStep (n + 1, max m d) kids (d + 1) = _
      rw [a (by omega)]
      refine Prod.ext (Prod.ext (by dsimp only; omega) ?_) rfl
      dsimp only
      cases kids with
      | nil => rw [if_pos rfl, depthL]; omega
      | cons q qs =>
        have : 1 ≤ depthL (q :: qs) := by have := depthT_pos q; rw [depthL]; omega
        rw [if_neg (by simp)]; omega
    · have : (decide (n + 1 ≤ 4096) && decide (d ≤ 200)) = false := by rw [Bool.and_eq_false_iff]; simp only [decide_eq_false_iff_not]; omega
      rw [this]
      exact ⟨fun h => absurd h (by omega), fun _ => rfl⟩
theorem walkL_size : ∀ (l : List PatT) (n m d : Nat), n ≤ 4096 → d ≤ 201 →
    (n + sizeL l ≤ 4096 ∧ d + depthL l ≤ 201 → walkKids sizeStep (n, m) l d = ((n + sizeL l, if l = [] then m else max m (d + depthL l - 1)), true)) ∧
    (¬ (n + sizeL l ≤ 4096 ∧ d + depthL l ≤ 201) → (walkKids sizeStep (n, m) l d).2 = false)
  | [], n, m, d, hn, hd => by
    rw [walkKids, sizeL, depthL]
    exact ⟨fun _ => rfl, fun h => absurd (by omega) h⟩
  | p :: ps, n, m, d, hn, hd => by
    obtain ⟨a1, b1⟩ := walk_size p n m d hn
    have hp := depthT_pos p
    rw [walkKids, sizeL, depthL]
    by_cases c1 : n + sizeT p ≤ 4096 ∧ d + depthT p ≤ 201
    · rw [a1 c1]
      obtain ⟨a2, b2⟩ := walkL_size ps (n + sizeT p) (max m (d + depthT p - 1)) d c1.1 hd
      refine ⟨fun h => ?_, fun h => b2 (by omega)⟩
      show walkKids sizeStep _ ps d = _
      rw [a2 (by omega)]
      refine Prod.ext (Prod.ext (by dsimp only; omega) ?_) rfl
      dsimp only
      rw [if_neg (by simp : ¬ (p :: ps = []))]
      cases ps with
      | nil => rw [if_pos rfl, depthL]; omega
      | cons q qs => rw [if_neg (by simp)]; omega
    · have h1 := b1 c1
      refine ⟨fun h => absurd h (by omega), fun _ => ?_⟩
      cases hr : walkF sizeStep (n, m) p d with
      | mk st ok => rw [hr] at h1; dsimp only at h1; subst h1; rfl
end
def fits (p : PatT) : Prop := sizeT p ≤ 4096 ∧ depthT p ≤ 200
instance (p : PatT) : Decidable (fits p) := by unfold fits; exact inferInstance
theorem sizeF_eq (p : PatT) : sizeF p = if fits p then .tuple #[.int .i64 (sizeT p), .int .i64 (depthT p), .int .i64 0] else .tuple #[.int .i64 0, .int .i64 0, .int .i64 4] := by
  obtain ⟨a, b⟩ := walk_size p 0 0 1 (by omega)
  have hd := depthT_pos p
  unfold sizeF
  by_cases h : fits p
  · have h' := h; unfold fits at h'
    rw [a (by omega), if_pos h]
    simp [sizeR]
  · have h' := h; unfold fits at h'
    have := b (by omega)
    rw [if_neg h]
    simp [sizeR, this]
theorem fits_iff (p : PatT) : (walkF sizeStep (0, 0) p 1).2 = true ↔ fits p := by
  obtain ⟨a, b⟩ := walk_size p 0 0 1 (by omega)
  unfold fits
  by_cases h : sizeT p ≤ 4096 ∧ depthT p ≤ 200
  · rw [a (by omega)]; simp [h]
  · rw [b (by omega)]; simp; omega

/-- A step that looks at nodes alone, over the nodes one by one. -/
def runL {σ : Type} (f : σ → PatT → σ × Bool) : σ → List PatT → σ × Bool
  | st, [] => (st, true)
  | st, p :: ps => match f st p with
    | (st', false) => (st', false)
    | (st', true) => runL f st' ps
theorem runL_append {σ : Type} (f : σ → PatT → σ × Bool) : ∀ (l r : List PatT) (st : σ), runL f st (l ++ r) = match runL f st l with | (st', false) => (st', false) | (st', true) => runL f st' r
  | [], r, st => rfl
  | p :: ps, r, st => by
    simp only [List.cons_append, runL]
    cases f st p with
    | mk st1 ok => cases ok <;> simp [runL_append f ps r st1]
mutual
theorem walk_run {σ : Type} (f : σ → PatT → σ × Bool) : ∀ (p : PatT) (st : σ) (d : Nat), walkF (fun s q _ => f s q) st p d = runL f st (allT p)
  | .mk k t n nm kids, st, d => by
    simp only [walkF, allT, runL]
    cases f st (.mk k t n nm kids) with
    | mk st1 ok => cases ok <;> simp [walkL_run f kids st1 (d + 1)]
theorem walkL_run {σ : Type} (f : σ → PatT → σ × Bool) : ∀ (l : List PatT) (st : σ) (d : Nat), walkKids (fun s q _ => f s q) st l d = runL f st (allL l)
  | [], st, d => by simp only [walkKids, allL, runL]
  | p :: ps, st, d => by
    simp only [walkKids, allL, runL_append, walk_run f p st d]
    cases runL f st (allT p) with
    | mk st1 ok => cases ok <;> simp [walkL_run f ps st1 d]
end
/-- The first error among nodes. -/
def firstF : List PatT → Int
  | [] => 0
  | p :: ps => if nodeF p = 0 then firstF ps else nodeF p
theorem run_wrong : ∀ (l : List PatT) (st : Int), l ≠ [] ∨ st = 0 → (runL (fun _ q => (nodeF q, nodeF q == 0)) st l).1 = firstF l
  | [], st, h => by simp only [runL, firstF]; simpa using h
  | p :: ps, st, _ => by
    simp only [runL, firstF]
    by_cases h : nodeF p = 0
    · rw [if_pos h, h]; exact run_wrong ps 0 (.inr rfl)
    · have : (nodeF p == 0) = false := by simpa using h
      rw [this, if_neg h]
theorem allT_ne (p : PatT) : allT p ≠ [] := by cases p; simp [allT]
theorem wrongF_eq (p : PatT) : wrongF p = if fits p then firstF (allT p) else 4 := by
  unfold wrongF
  by_cases h : fits p
  · rw [if_pos ((fits_iff p).2 h), if_pos h]
    exact (congrArg Prod.fst (walk_run (fun _ q => (nodeF q, nodeF q == 0)) p 0 1)).trans (run_wrong _ _ (.inl (allT_ne p)))
  · rw [if_neg (fun e => h ((fits_iff p).1 e)), if_neg h]
end Go.Proofs.YtcfcdobgpldoiaaGreatDoor
