/- The reader of patterns: how many nodes a text can have. -/
import Derived.Test.YtdnglicgmlldlaaDoorRd14
namespace Go.Proofs.YtdnglicgmlldlaaDoor
open Go.RowKit

def InnerSz (s : ByteArray) (f : Nat → Res PatT) : Prop := ∀ i p k, i ≤ s.size → f i = .ok (p, k) → sizeT p + 2 * i + 1 ≤ 2 * k
theorem size_leaf (k : Int) (t : ByteArray) (n : Int) (nm : ByteArray) : sizeT (.mk k t n nm []) = 1 := by simp [sizeT, sizeL]
theorem size_one (k : Int) (t : ByteArray) (n : Int) (nm : ByteArray) (p : PatT) : sizeT (.mk k t n nm [p]) = 1 + sizeT p := by simp [sizeT, sizeL]
theorem primary_sz {s : ByteArray} {inner : Nat → Res PatT} (hf : InnerFwd s inner) (hz : InnerSz s inner) : InnerSz s (primaryP inner s) := by
  intro i p k hi h
  have hfw := primary_fwd hf hi h
  have h1 := skip_ge s i; have h2 := skip_le hi
  unfold primaryP at h
  split at h
  · unfold litP at h
    cases ht : textP s (skip s i) with
    | error e => rw [ht] at h; cases h
    | ok y =>
      obtain ⟨⟨t, a⟩, k1⟩ := y
      rw [ht] at h; simp only [Except.ok.injEq, Prod.mk.injEq] at h; obtain ⟨rfl, rfl⟩ := h
      rw [size_leaf]; omega
  · have nm : ∀ kd, nmP s (skip s i + 1) kd = .ok (p, k) → sizeT p = 1 := by
      intro kd h
      unfold nmP at h
      cases ht : nameP s (skip s i + 1) with
      | error e => rw [ht] at h; cases h
      | ok y =>
        obtain ⟨t, k1⟩ := y
        rw [ht] at h; simp only [Except.ok.injEq, Prod.mk.injEq] at h; obtain ⟨rfl, rfl⟩ := h
        exact size_leaf _ _ _ _
    split at h
    · have := nm _ h; omega
    · split at h
      · have := nm _ h; omega
      · unfold wdP at h
        cases ht : wordP s (skip s i) with
        | error e => rw [ht] at h; cases h
        | ok y =>
          obtain ⟨⟨x, a⟩, k1⟩ := y
          rw [ht] at h; dsimp only at h
          have a1 := word_ok h2 ht
          unfold kindP at h
          split at h
          · cases h
          · split at h
            · unfold argTextP at h
              cases hn : needP 40 s k1 with
              | error e => rw [hn] at h; cases h
              | ok k2 =>
                rw [hn] at h; dsimp only at h
                cases hx : textP s k2 with
                | error e => rw [hx] at h; cases h
                | ok y =>
                  obtain ⟨⟨t, b⟩, k3⟩ := y
                  rw [hx] at h; dsimp only at h
                  split at h
                  · cases h
                  · cases hm : needP 41 s k3 with
                    | error e => rw [hm] at h; cases h
                    | ok k4 =>
                      rw [hm] at h; simp only [Except.ok.injEq, Prod.mk.injEq] at h; obtain ⟨rfl, rfl⟩ := h
                      rw [size_leaf]; omega
            · split at h
              · unfold argNumP at h
                cases hn : needP 40 s k1 with
                | error e => rw [hn] at h; cases h
                | ok k2 =>
                  rw [hn] at h; dsimp only at h
                  cases hx : numP s k2 with
                  | error e => rw [hx] at h; cases h
                  | ok y =>
                    obtain ⟨t, k3⟩ := y
                    rw [hx] at h; dsimp only at h
                    cases hm : needP 41 s k3 with
                    | error e => rw [hm] at h; cases h
                    | ok k4 =>
                      rw [hm] at h; simp only [Except.ok.injEq, Prod.mk.injEq] at h; obtain ⟨rfl, rfl⟩ := h
                      rw [size_leaf]; omega
              · split at h
                · unfold argPatP at h
                  cases hn : needP 40 s k1 with
                  | error e => rw [hn] at h; cases h
                  | ok k2 =>
                    rw [hn] at h; dsimp only at h
                    have a2 := need_ok hn
                    cases hx : inner k2 with
                    | error e => rw [hx] at h; cases h
                    | ok y =>
                      obtain ⟨t, k3⟩ := y
                      rw [hx] at h; dsimp only at h
                      cases hm : needP 41 s k3 with
                      | error e => rw [hm] at h; cases h
                      | ok k4 =>
                        rw [hm] at h; simp only [Except.ok.injEq, Prod.mk.injEq] at h; obtain ⟨rfl, rfl⟩ := h
                        have := hz _ _ _ a2.2.1 hx
                        have := need_ok hm
                        rw [size_one]; omega
                · simp only [Except.ok.injEq, Prod.mk.injEq] at h; obtain ⟨rfl, rfl⟩ := h
                  rw [size_leaf]; omega
theorem head_sz {s : ByteArray} {inner : Nat → Res PatT} (hf : InnerFwd s inner) (hz : InnerSz s inner) : InnerSz s (headP inner s) := by
  intro i p k hi h
  have a0 := isP_le (c := 40) hi
  unfold headP at h
  split at h
  · cases h1 : inner (isP 40 s i).2 with
    | error e => rw [h1] at h; cases h
    | ok y =>
      obtain ⟨q, k1⟩ := y
      rw [h1] at h; dsimp only at h
      cases h3 : needP 41 s k1 with
      | error e => rw [h3] at h; cases h
      | ok k3 =>
        rw [h3] at h; simp only [Except.ok.injEq, Prod.mk.injEq] at h; obtain ⟨rfl, rfl⟩ := h
        have := hz _ _ _ a0.1 h1; have := need_ok h3; omega
  · have := primary_sz hf hz _ _ _ a0.1 h; omega
theorem gifts_sz {s : ByteArray} : ∀ (f : Nat) (p : PatT) (k : Nat) {q : PatT} {k' i : Nat}, k ≤ s.size → giftsP s f p k = .ok (q, k') → sizeT p + 2 * i + 1 ≤ 2 * k → sizeT q + 2 * i + 1 ≤ 2 * k'
  | 0, p, k, q, k', i, hk, h, hs => by simp only [giftsP, Except.ok.injEq, Prod.mk.injEq] at h; obtain ⟨rfl, rfl⟩ := h; exact hs
  | f + 1, p, k, q, k', i, hk, h, hs => by
    have h1 := isP_le (c := 46) hk
    rw [giftsP] at h
    split at h
    · cases hn : nameP s (isP 46 s k).2 with
      | error e => rw [hn] at h; cases h
      | ok y =>
        obtain ⟨nm, k1⟩ := y
        rw [hn] at h
        have h2 := name_ok h1.1 hn
        exact gifts_sz f _ k1 h2.2 h (by rw [size_one]; omega)
    · have h3 := isP_le (c := 36) h1.1
      split at h
      · cases hn : nameP s (isP 36 s (isP 46 s k).2).2 with
        | error e => rw [hn] at h; cases h
        | ok y =>
          obtain ⟨nm, k1⟩ := y
          rw [hn] at h
          have h2 := name_ok h3.1 hn
          exact gifts_sz f _ k1 h2.2 h (by rw [size_one]; omega)
      · simp only [Except.ok.injEq, Prod.mk.injEq] at h; obtain ⟨rfl, rfl⟩ := h; omega
theorem item_sz {s : ByteArray} {inner : Nat → Res PatT} (hf : InnerFwd s inner) (hz : InnerSz s inner) : InnerSz s (itemP inner s) := by
  intro i p k hi h
  unfold itemP at h
  cases hh : headP inner s i with
  | error e => rw [hh] at h; cases h
  | ok y =>
    obtain ⟨q, k1⟩ := y
    rw [hh] at h
    have h1 := head_fwd hf hi hh
    exact gifts_sz _ _ _ h1.2 h (head_sz hf hz _ _ _ hi hh)
theorem sizeL_append : ∀ (a b : List PatT), sizeL (a ++ b) = sizeL a + sizeL b
  | [], b => by simp [sizeL]
  | p :: ps, b => by simp only [List.cons_append, sizeL, sizeL_append ps b]; omega
theorem oneOr_sz (kd : Int) (l : List PatT) (n : Nat) (h0 : 0 < l.length) (h : sizeL l + l.length ≤ n) : sizeT (oneOr kd l) + 1 ≤ n := by
  match l, h0 with
  | [p], _ => simp only [oneOr, sizeL, List.length_cons, List.length_nil] at h ⊢; omega
  | p :: q :: r, _ => simp only [oneOr, sizeT, List.length_cons] at h ⊢; omega
theorem catGo_sz {s : ByteArray} {inner : Nat → Res PatT} (hf : InnerFwd s inner) (hz : InnerSz s inner) : ∀ (f : Nat) (l : List PatT) (k : Nat) {q : PatT} {k' i : Nat}, k ≤ s.size → 0 < l.length → catGo inner s f l k = .ok (q, k') → sizeL l + l.length + 2 * i ≤ 2 * k → sizeT q + 2 * i + 1 ≤ 2 * k'
  | 0, l, k, q, k', i, hk, h0, h, hs => by
    simp only [catGo, Except.ok.injEq, Prod.mk.injEq] at h; obtain ⟨rfl, rfl⟩ := h
    have := oneOr_sz 18 l (2 * k - 2 * i) h0 (by omega); omega
  | f + 1, l, k, q, k', i, hk, h0, h, hs => by
    have h1 := skip_ge s k; have h2 := skip_le hk
    rw [catGo] at h
    split at h
    · cases hn : itemP inner s (skip s k) with
      | error e => rw [hn] at h; cases h
      | ok y =>
        obtain ⟨p, k1⟩ := y
        rw [hn] at h
        have h3 := item_fwd hf _ _ _ h2 hn
        have h4 := item_sz hf hz _ _ _ h2 hn
        exact catGo_sz hf hz f _ k1 h3.2 (by simp) h (by rw [sizeL_append, List.length_append]; simp only [sizeL, List.length_cons, List.length_nil]; omega)
    · simp only [Except.ok.injEq, Prod.mk.injEq] at h; obtain ⟨rfl, rfl⟩ := h
      have := oneOr_sz 18 l (2 * k - 2 * i) h0 (by omega); omega
theorem cat_sz {s : ByteArray} {inner : Nat → Res PatT} (hf : InnerFwd s inner) (hz : InnerSz s inner) : InnerSz s (catP inner s) := by
  intro i p k hi h
  unfold catP at h
  cases hh : itemP inner s i with
  | error e => rw [hh] at h; cases h
  | ok y =>
    obtain ⟨q, k1⟩ := y
    rw [hh] at h
    have h1 := item_fwd hf _ _ _ hi hh
    have h2 := item_sz hf hz _ _ _ hi hh
    exact catGo_sz hf hz _ _ _ h1.2 (by simp) h (by simp only [sizeL, List.length_cons, List.length_nil]; omega)
theorem altGo_sz {s : ByteArray} {inner : Nat → Res PatT} (hf : InnerFwd s inner) (hz : InnerSz s inner) : ∀ (f : Nat) (l : List PatT) (k : Nat) {q : PatT} {k' i : Nat}, k ≤ s.size → 0 < l.length → altGo inner s f l k = .ok (q, k') → sizeL l + l.length + 2 * i ≤ 2 * k → sizeT q + 2 * i + 1 ≤ 2 * k'
  | 0, l, k, q, k', i, hk, h0, h, hs => by
    simp only [altGo, Except.ok.injEq, Prod.mk.injEq] at h; obtain ⟨rfl, rfl⟩ := h
    have := oneOr_sz 19 l (2 * k - 2 * i) h0 (by omega); omega
  | f + 1, l, k, q, k', i, hk, h0, h, hs => by
    have h1 := isP_le (c := 124) hk
    rw [altGo] at h
    split at h
    · cases hn : catP inner s (isP 124 s k).2 with
      | error e => rw [hn] at h; cases h
      | ok y =>
        obtain ⟨p, k1⟩ := y
        rw [hn] at h
        have h3 := cat_fwd hf _ _ _ h1.1 hn
        have h4 := cat_sz hf hz _ _ _ h1.1 hn
        exact altGo_sz hf hz f _ k1 h3.2 (by simp) h (by rw [sizeL_append, List.length_append]; simp only [sizeL, List.length_cons, List.length_nil]; omega)
    · simp only [Except.ok.injEq, Prod.mk.injEq] at h; obtain ⟨rfl, rfl⟩ := h
      have := oneOr_sz 19 l (2 * k - 2 * i) h0 (by omega); omega
theorem alt_sz {s : ByteArray} {inner : Nat → Res PatT} (hf : InnerFwd s inner) (hz : InnerSz s inner) : InnerSz s (altP inner s) := by
  intro i p k hi h
  unfold altP at h
  cases hh : catP inner s i with
  | error e => rw [hh] at h; cases h
  | ok y =>
    obtain ⟨q, k1⟩ := y
    rw [hh] at h
    have h1 := cat_fwd hf _ _ _ hi hh
    have h2 := cat_sz hf hz _ _ _ hi hh
    exact altGo_sz hf hz _ _ _ h1.2 (by simp) h (by simp only [sizeL, List.length_cons, List.length_nil]; omega)
theorem inner_sz (s : ByteArray) : ∀ m, InnerSz s (innerP s m)
  | 0 => fun i p k _ h => by simp [innerP] at h
  | m + 1 => fun i p k hi h => alt_sz (inner_fwd s m) (inner_sz s m) i p k hi h
theorem read_sz {s : ByteArray} {p : PatT} {k : Nat} (hs : s.size ≤ 65536) (h : altP (innerP s 200) s 0 = .ok (p, k)) : sizeT p ≤ 200000 ∧ k ≤ s.size := by
  have h1 := alt_sz (inner_fwd s 200) (inner_sz s 200) 0 p k (Nat.zero_le _) h
  have h2 := alt_fwd (inner_fwd s 200) 0 p k (Nat.zero_le _) h
  omega
/-- What Read makes of a text. -/
def readP (s : ByteArray) : Except Er PatT :=
  if 65536 < s.size then .error (4, 0) else
  match altP (innerP s 200) s 0 with
  | .error e => .error e
  | .ok (p, k) => if 0 ≤ peek s (skip s k) then .error (2, skip s k) else if fits p then .ok p else .error (4, 0)
end Go.Proofs.YtdnglicgmlldlaaDoor
