/- Plain: the size of a pattern by a queue is its size by a walk. -/
import Derived.Test.YtdkpdomggbiolaaLaw4
namespace Go.Proofs.Ytdkpdomggbiolaa
set_option linter.all false
open Go.RowKit

/-- Size by a queue of patterns with their depths; none: too large. -/
def qF : Nat → List (PatT × Nat) → Nat → Nat → Option (Nat × Nat)
  | _, [], n, d => some (n, d)
  | 0, _ :: _, _, _ => none
  | f + 1, x :: r, n, d => if 4096 < n + 1 ∨ 200 < max d x.2 then none else qF f (r ++ x.1.kids.map fun k => (k, x.2 + 1)) (n + 1) (max d x.2)
def qsize : List (PatT × Nat) → Nat
  | [] => 0
  | x :: r => sizeT x.1 + qsize r
theorem qsize_append : ∀ (a b : List (PatT × Nat)), qsize (a ++ b) = qsize a + qsize b
  | [], b => by simp [qsize]
  | x :: r, b => by simp only [List.cons_append, qsize, qsize_append r b]; omega
theorem qsize_kids (l : List PatT) (d : Nat) : qsize (l.map fun k => (k, d)) = sizeL l := by
  induction l with
  | nil => rfl
  | cons p ps ih => simp only [List.map_cons, qsize, sizeL, ih]
theorem length_le_qsize : ∀ q : List (PatT × Nat), q.length ≤ qsize q
  | [] => Nat.le_refl _
  | x :: r => by have := sizeT_pos x.1; have := length_le_qsize r; simp only [List.length_cons, qsize]; omega


def qdep : List (PatT × Nat) → Nat
  | [] => 0
  | x :: r => max (x.2 + depthT x.1 - 1) (qdep r)
theorem qdep_append : ∀ (a b : List (PatT × Nat)), qdep (a ++ b) = max (qdep a) (qdep b)
  | [], b => by simp [qdep]
  | x :: r, b => by simp only [List.cons_append, qdep, qdep_append r b]; omega
theorem qdep_kids : ∀ (l : List PatT) (d : Nat), qdep (l.map fun k => (k, d + 1)) = if l = [] then 0 else d + depthL l
  | [], d => rfl
  | [p], d => by
    have hp := depthT_pos p
    rw [if_neg (by simp)]; simp only [List.map_cons, List.map_nil, qdep, depthL]; omega
  | p :: q :: qs, d => by
    have hp := depthT_pos p
    have ih := qdep_kids (q :: qs) d
    rw [if_neg (by simp)] at ih ⊢
    have e : depthL (p :: q :: qs) = max (depthT p) (depthL (q :: qs)) := by rw [depthL]
    rw [List.map_cons, qdep, ih, e]; dsimp only; omega
theorem sizeT_eq (p : PatT) : sizeT p = 1 + sizeL p.kids := by cases p; rw [sizeT, PatT.kids_mk]
theorem depthT_eq (p : PatT) : depthT p = 1 + depthL p.kids := by cases p; rw [depthT, PatT.kids_mk]
theorem qF_eq : ∀ (f : Nat) (q : List (PatT × Nat)) (n d : Nat), qsize q ≤ f → n ≤ 4096 → d ≤ 200 →
    qF f q n d = if n + qsize q ≤ 4096 ∧ max d (qdep q) ≤ 200 then some (n + qsize q, max d (qdep q)) else none
  | f, [], n, d, _, hn, hd => by
    have e : qF f [] n d = some (n, d) := by cases f <;> rfl
    rw [e, if_pos (by simp only [qsize, qdep]; omega)]; simp [qsize, qdep]
  | 0, x :: r, n, d, hf, hn, hd => by have := sizeT_pos x.1; rw [qsize] at hf; omega
  | f + 1, x :: r, n, d, hf, hn, hd => by
    have hs := sizeT_pos x.1
    have hdp := depthT_pos x.1
    have es := sizeT_eq x.1
    have ed := depthT_eq x.1
    rw [qsize] at hf
    rw [qF]
    by_cases hb : 4096 < n + 1 ∨ 200 < max d x.2
    · rw [if_pos hb, if_neg (by rw [qsize, qdep]; omega)]
    · rw [if_neg hb, qF_eq f _ (n + 1) (max d x.2) (by rw [qsize_append, qsize_kids]; omega) (by omega) (by omega), qsize_append, qsize_kids, qdep_append, qdep_kids]
      have e1 : n + 1 + (qsize r + sizeL x.1.kids) = n + qsize (x :: r) := by rw [qsize]; omega
      have e2 : max (max d x.2) (max (qdep r) (if x.1.kids = [] then 0 else x.2 + depthL x.1.kids)) = max d (qdep (x :: r)) := by
        rw [qdep]
        by_cases hk : x.1.kids = []
        · rw [if_pos hk]; rw [hk, depthL] at ed; omega
        · rw [if_neg hk]; omega
      rw [e1, e2]
theorem qF_fits (p : PatT) : qF (sizeT p) [(p, 1)] 0 0 = if fits p then some (sizeT p, depthT p) else none := by
  have hd := depthT_pos p
  rw [qF_eq _ _ 0 0 (by simp [qsize]) (by omega) (by omega)]
  have e1 : 0 + qsize [(p, 1)] = sizeT p := by simp [qsize]
  have e2 : max 0 (qdep [(p, 1)]) = depthT p := by simp only [qdep]; omega
  rw [e1, e2]; rfl
mutual
theorem kids_fit : ∀ (p : PatT) (x : PatT), x ∈ allT p → x.kids.length < sizeT p
  | .mk k t n nm kids, x, hx => by
    rw [allT] at hx; rw [sizeT]
    rcases List.mem_cons.1 hx with rfl | hx
    · rw [PatT.kids_mk]; have := length_le_sizeL kids; omega
    · have := kidsL_fit kids x hx; omega
theorem kidsL_fit : ∀ (l : List PatT) (x : PatT), x ∈ allL l → x.kids.length < sizeL l
  | [], x, hx => by simp [allL] at hx
  | p :: ps, x, hx => by
    rw [allL] at hx; rw [sizeL]
    rcases List.mem_append.1 hx with h | h
    · have := kids_fit p x h; omega
    · have := kidsL_fit ps x h; omega
end
end Go.Proofs.Ytdkpdomggbiolaa
