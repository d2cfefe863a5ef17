/- Expressions (trees of the same shape as patterns): what is wrong with one, and how the document counts (pure). -/
import Derived.Test.YtkhhinmhgjicgaaLaw4
namespace Go.Proofs.Ytkhhinmhgjicgaa
set_option linter.all false
open Go.RowKit

def exKids (k : Int) : Int := if k = 4 ∨ k = 5 ∨ k = 7 then 1 else if 8 ≤ k ∧ k ≤ 13 then 2 else 0
/-- What is wrong with a node alone. -/
def ownE (k : Int) (t : ByteArray) (n : Int) (nm : ByteArray) (len : Nat) : Int :=
  if k < 1 ∨ 13 < k then 1
  else if k = 1 ∧ 65536 < t.size then 4
  else if k = 2 ∧ n < 0 then 3
  else if (k = 3 ∨ k = 4 ∨ k = 6) ∧ namedF nm = false then 7
  else if (k = 6 ∧ 8 < len) ∨ (k ≠ 6 ∧ (len : Int) ≠ exKids k) then 5 else 0
mutual
def nodeE : PatT → Int
  | .mk k t n nm kids => if ownE k t n nm kids.length = 0 then nodesE kids else ownE k t n nm kids.length
def nodesE : List PatT → Int
  | [] => 0
  | p :: r => if nodeE p = 0 then nodesE r else nodeE p
end
theorem nodesE_drop (l : List PatT) (j : Nat) (h : j < l.length) : nodesE (l.drop j) = if nodeE l[j] = 0 then nodesE (l.drop (j + 1)) else nodeE l[j] := by
  rw [List.drop_eq_getElem_cons h, nodesE]
/-- What is wrong with an expression. -/
def exprE (p : PatT) : Int := if fits p then nodeE p else 4

mutual
/-- The document's count. -/
def countR : PatT → Nat → Nat × Nat
  | .mk _ _ _ _ kids, d => if 200 < d then (1, d) else countL kids d 1 d
def countL : List PatT → Nat → Nat → Nat → Nat × Nat
  | [], _, n, m => (n, m)
  | p :: r, d, n, m =>
    if 4096 < n + (countR p (d + 1)).1 ∨ 200 < max m (countR p (d + 1)).2 then (n + (countR p (d + 1)).1, max m (countR p (d + 1)).2)
    else countL r d (n + (countR p (d + 1)).1) (max m (countR p (d + 1)).2)
end
mutual
theorem count_fits : ∀ (p : PatT) (d : Nat), 1 ≤ d →
    (sizeT p ≤ 4096 ∧ d + depthT p ≤ 201 → countR p d = (sizeT p, d + depthT p - 1)) ∧
    (¬ (sizeT p ≤ 4096 ∧ d + depthT p ≤ 201) → 4096 < (countR p d).1 ∨ 200 < (countR p d).2)
  | .mk k t n nm kids, d, hd => by
    have ih := countL_fits kids d 1 d hd (by omega) (Nat.le_refl _)
    rw [countR, sizeT, depthT]
    by_cases h2 : 200 < d
    · rw [if_pos h2]
      exact ⟨fun h => by omega, fun _ => .inr h2⟩
    · rw [if_neg h2]
      obtain ⟨a, b⟩ := ih (by omega)
      refine ⟨fun h => ?_, fun h => b (by omega)⟩
      rw [a (by omega)]
      exact Prod.ext rfl (by dsimp only; omega)
theorem countL_fits : ∀ (l : List PatT) (d n m : Nat), 1 ≤ d → n ≤ 4096 → d ≤ m → m ≤ 200 →
    (n + sizeL l ≤ 4096 ∧ d + depthL l ≤ 200 → countL l d n m = (n + sizeL l, max m (d + depthL l))) ∧
    (¬ (n + sizeL l ≤ 4096 ∧ d + depthL l ≤ 200) → 4096 < (countL l d n m).1 ∨ 200 < (countL l d n m).2)
  | [], d, n, m, hd, hn, hdm, hm => by
    rw [countL, sizeL, depthL]
    exact ⟨fun _ => Prod.ext rfl (by dsimp only; omega), fun h => absurd ⟨by omega, by omega⟩ h⟩
  | p :: r, d, n, m, hd, hn, hdm, hm => by
    obtain ⟨a, b⟩ := count_fits p (d + 1) (by omega)
    have hp := depthT_pos p
    rw [countL, sizeL, depthL]
    by_cases hf : sizeT p ≤ 4096 ∧ d + 1 + depthT p ≤ 201
    · rw [a hf]
      dsimp only
      by_cases ho : 4096 < n + sizeT p ∨ 200 < max m (d + 1 + depthT p - 1)
      · rw [if_pos ho]
        exact ⟨fun h => by omega, fun _ => ho⟩
      · rw [if_neg ho]
        obtain ⟨x, y⟩ := countL_fits r d (n + sizeT p) (max m (d + 1 + depthT p - 1)) hd (by omega) (by omega) (by omega)
        refine ⟨fun h => ?_, fun h => y (by omega)⟩
        rw [x (by omega)]
        exact Prod.ext (by dsimp only; omega) (by dsimp only; omega)
    · have ho := b hf
      have ho' : 4096 < n + (countR p (d + 1)).1 ∨ 200 < max m (countR p (d + 1)).2 := by omega
      rw [if_pos ho']
      exact ⟨fun h => by omega, fun _ => ho'⟩
end
mutual
theorem count_le : ∀ (p : PatT) (d : Nat), (countR p d).1 ≤ sizeT p ∧ (countR p d).2 ≤ d + depthT p
  | .mk k t n nm kids, d => by
    have ih := countL_le kids d 1 d
    rw [countR, sizeT, depthT]
    by_cases h2 : 200 < d
    · rw [if_pos h2]; exact ⟨by dsimp only; omega, by dsimp only; omega⟩
    · rw [if_neg h2]; omega
theorem countL_le : ∀ (l : List PatT) (d n m : Nat), (countL l d n m).1 ≤ n + sizeL l ∧ (countL l d n m).2 ≤ max m (d + 1 + depthL l)
  | [], d, n, m => by rw [countL, sizeL, depthL]; exact ⟨by dsimp only; omega, by dsimp only; omega⟩
  | p :: r, d, n, m => by
    have h1 := count_le p (d + 1)
    have h2 := countL_le r d (n + (countR p (d + 1)).1) (max m (countR p (d + 1)).2)
    rw [countL, sizeL, depthL]
    split
    · exact ⟨by dsimp only; omega, by dsimp only; omega⟩
    · omega
end
/-- The document's answer is the program's. -/
theorem exprE_eq (p : PatT) : exprE p = if 4096 < (countR p 1).1 ∨ 200 < (countR p 1).2 then 4 else nodeE p := by
  obtain ⟨a, b⟩ := count_fits p 1 (Nat.le_refl _)
  have hp := depthT_pos p
  unfold exprE
  by_cases hf : fits p
  · have h := hf; unfold fits at h
    rw [if_pos hf, a (by omega), if_neg (by dsimp only; omega)]
  · have h := hf; unfold fits at h
    rw [if_neg hf, if_pos (b (by omega))]
end Go.Proofs.Ytkhhinmhgjicgaa
