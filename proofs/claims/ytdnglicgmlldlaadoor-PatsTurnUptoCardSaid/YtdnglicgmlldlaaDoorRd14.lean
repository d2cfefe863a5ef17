/- The reader of patterns: alternatives at any depth; the words. -/
import Derived.Test.YtdnglicgmlldlaaDoorRd13
namespace Go.Proofs.YtdnglicgmlldlaaDoor
open Go.RowKit

theorem gifts_fwd {s : ByteArray} : ∀ (f : Nat) (p : PatT) (k : Nat) {q : PatT} {k' : Nat}, k ≤ s.size → giftsP s f p k = .ok (q, k') → k ≤ k' ∧ k' ≤ s.size
  | 0, p, k, q, k', hk, h => by simp [giftsP] at h; omega
  | f + 1, p, k, q, k', hk, h => by
    have h1 := isP_le (c := 46) hk
    rw [giftsP] at h
    split at h
    · cases hn : nameP s (isP 46 s k).2 with
      | error e => rw [hn] at h; cases h
      | ok y =>
        obtain ⟨nm, k1⟩ := y
        rw [hn] at h
        have h2 := name_ok h1.1 hn
        have := gifts_fwd f _ k1 h2.2 h
        omega
    · have h3 := isP_le (c := 36) h1.1
      split at h
      · cases hn : nameP s (isP 36 s (isP 46 s k).2).2 with
        | error e => rw [hn] at h; cases h
        | ok y =>
          obtain ⟨nm, k1⟩ := y
          rw [hn] at h
          have h2 := name_ok h3.1 hn
          have := gifts_fwd f _ k1 h2.2 h
          omega
      · simp only [Except.ok.injEq, Prod.mk.injEq] at h; omega
theorem item_fwd {s : ByteArray} {inner : Nat → Res PatT} (hf : InnerFwd s inner) : InnerFwd s (itemP inner s) := by
  intro i p k hi h
  unfold itemP at h
  cases hh : headP inner s i with
  | error e => rw [hh] at h; cases h
  | ok y =>
    obtain ⟨q, k1⟩ := y
    rw [hh] at h
    have h1 := head_fwd hf hi hh
    have := gifts_fwd _ _ _ h1.2 h
    omega
theorem catGo_fwd {s : ByteArray} {inner : Nat → Res PatT} (hf : InnerFwd s inner) : ∀ (f : Nat) (l : List PatT) (k : Nat) {q : PatT} {k' : Nat}, k ≤ s.size → catGo inner s f l k = .ok (q, k') → k ≤ k' ∧ k' ≤ s.size
  | 0, l, k, q, k', hk, h => by simp [catGo] at h; omega
  | f + 1, l, k, q, k', hk, h => by
    have h1 := skip_ge s k; have h2 := skip_le hk
    rw [catGo] at h
    split at h
    · cases hn : itemP inner s (skip s k) with
      | error e => rw [hn] at h; cases h
      | ok y =>
        obtain ⟨nm, k1⟩ := y
        rw [hn] at h
        have h3 := item_fwd hf _ _ _ h2 hn
        have := catGo_fwd hf f _ k1 h3.2 h
        omega
    · simp only [Except.ok.injEq, Prod.mk.injEq] at h; omega
theorem cat_fwd {s : ByteArray} {inner : Nat → Res PatT} (hf : InnerFwd s inner) : InnerFwd s (catP inner s) := by
  intro i p k hi h
  unfold catP at h
  cases hh : itemP inner s i with
  | error e => rw [hh] at h; cases h
  | ok y =>
    obtain ⟨q, k1⟩ := y
    rw [hh] at h
    have h1 := item_fwd hf _ _ _ hi hh
    have := catGo_fwd hf _ _ _ h1.2 h
    omega
theorem altGo_fwd {s : ByteArray} {inner : Nat → Res PatT} (hf : InnerFwd s inner) : ∀ (f : Nat) (l : List PatT) (k : Nat) {q : PatT} {k' : Nat}, k ≤ s.size → altGo inner s f l k = .ok (q, k') → k ≤ k' ∧ k' ≤ s.size
  | 0, l, k, q, k', hk, h => by simp [altGo] at h; omega
  | f + 1, l, k, q, k', hk, h => by
    have h1 := isP_le (c := 124) hk
    rw [altGo] at h
    split at h
    · cases hn : catP inner s (isP 124 s k).2 with
      | error e => rw [hn] at h; cases h
      | ok y =>
        obtain ⟨nm, k1⟩ := y
        rw [hn] at h
        have h3 := cat_fwd hf _ _ _ h1.1 hn
        have := altGo_fwd hf f _ k1 h3.2 h
        omega
    · simp only [Except.ok.injEq, Prod.mk.injEq] at h; omega
theorem alt_fwd {s : ByteArray} {inner : Nat → Res PatT} (hf : InnerFwd s inner) : InnerFwd s (altP inner s) := by
  intro i p k hi h
  unfold altP at h
  cases hh : catP inner s i with
  | error e => rw [hh] at h; cases h
  | ok y =>
    obtain ⟨q, k1⟩ := y
    rw [hh] at h
    have h1 := cat_fwd hf _ _ _ hi hh
    have := altGo_fwd hf _ _ _ h1.2 h
    omega
theorem inner_fwd (s : ByteArray) : ∀ m, InnerFwd s (innerP s m)
  | 0 => fun i p k _ h => by simp [innerP] at h
  | m + 1 => fun i p k hi h => alt_fwd (inner_fwd s m) i p k hi h
theorem alt_of_inner {N W : Nat} {s : ByteArray} {d m : Nat} (hs : s.size ≤ 65536) (hin : InnerOk N W s d (innerP s m)) : AltOk N W s d (altP (innerP s m) s) := fun i w hr hi =>
  alt_any N W s i d w (innerP s m) (fun i w hr hi => cat_any N W s i d w (innerP s m) (fun i w hr hi => item_any N W s i d w (innerP s m) hin (inner_fwd s m) hr hi hs) (item_fwd (inner_fwd s m)) hr hi hs) (cat_fwd (inner_fwd s m)) hr hi hs
theorem inner_all (N W : Nat) (s : ByteArray) (hs : s.size ≤ 65536) : ∀ (m d : Nat), 200 = d + m → InnerOk N W s d (innerP s m)
  | 0, d, h => by obtain rfl : d = 200 := by omega
                  exact inner_deep N W s
  | m + 1, d, h => inner_more N W s d m h (alt_of_inner hs (inner_all N W s hs m (d + 1) (by omega)))
theorem alt_all (N W : Nat) (s : ByteArray) (hs : s.size ≤ 65536) : AltOk N W s 0 (altP (innerP s 200) s) := alt_of_inner hs (inner_all N W s hs 200 0 rfl)

set_option maxRecDepth 100000 in
theorem words_any (w : World) : Calls Tryd.prog 13 #[] w fun e w' => e = .returned (.slice (some ⟨w.heap.size, 0, none⟩) 21 21) ∧ w' = w.alloc (.cells (wordsL.map Value.string).toArray 9) := by
  go_enter Tryd.func13, Tryd.ntmps13
  go_wp2
  go_ret
  exact ⟨rfl, rfl⟩
end Go.Proofs.YtdnglicgmlldlaaDoor
