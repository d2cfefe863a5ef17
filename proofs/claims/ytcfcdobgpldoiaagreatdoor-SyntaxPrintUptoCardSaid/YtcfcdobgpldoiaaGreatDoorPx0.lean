/- What an expression is written as (plain). -/
import Derived.Test.YtcfcdobgpldoiaaGreatDoorShowP
import Derived.Test.YtcfcdobgpldoiaaGreatDoorEx2
namespace Go.Proofs.YtcfcdobgpldoiaaGreatDoor
set_option linter.all false
open Go.RowKit

/-- How tight an operator is. -/
def ownK (k : Int) : Nat := if k = 8 then 1 else if k = 9 ∨ k = 10 then 2 else if k = 11 ∨ k = 12 ∨ k = 13 then 3 else if k = 7 then 4 else 5
def signK (k : Int) : UInt8 := if k = 8 then 38 else if k = 9 then 43 else if k = 10 then 45 else if k = 11 then 42 else if k = 12 then 47 else 37
mutual
/-- i: how tight it must be. -/
def expF : PatT → Nat → List UInt8
  | .mk k t n nm kids, i =>
    if k = 1 then quoteL t
    else if k = 2 then Lib.decDigits n.toNat
    else if k = 3 then nm.data.toList
    else if k = 4 then nm.data.toList ++ (60 :: (eHead kids 1 ++ [62]))
    else if k = 5 then 36 :: eHead kids 5
    else if k = 7 then parL (decide (4 < i)) (45 :: eHead kids 4)
    else if k = 6 then nm.data.toList ++ (40 :: (eJoin true kids ++ [41]))
    else parL (decide (ownK k < i)) (eTwo (ownK k) [32, signK k, 32] kids)
def eHead : List PatT → Nat → List UInt8
  | [], _ => []
  | p :: _, i => expF p i
def eJoin : Bool → List PatT → List UInt8
  | _, [] => []
  | first, p :: r => (if first then [] else [44, 32]) ++ (expF p 1 ++ eJoin false r)
def eTwo : Nat → List UInt8 → List PatT → List UInt8
  | own, sep, p :: r => expF p own ++ (sep ++ eHead r (own + 1))
  | _, _, [] => []
end
/-- A number that is right is no greater than its kind takes. -/
def NumOk (p : PatT) : Prop := ∀ x ∈ allT p, x.n ≤ 9223372036854775807
def NumsOk (l : List PatT) : Prop := ∀ x ∈ allL l, x.n ≤ 9223372036854775807
structure OkX (p : PatT) : Prop where
  node : nodeE p = 0
  num : NumOk p
structure OkXs (l : List PatT) : Prop where
  nodes : nodesE l = 0
  nums : NumsOk l
theorem OkXs.head {p : PatT} {l : List PatT} (h : OkXs (p :: l)) : OkX p ∧ OkXs l := by
  have h1 := h.nodes
  rw [nodesE] at h1
  by_cases hp : nodeE p = 0
  · rw [if_pos hp] at h1
    exact ⟨⟨hp, fun x hx => h.nums x (by rw [allL]; exact List.mem_append_left _ hx)⟩, ⟨h1, fun x hx => h.nums x (by rw [allL]; exact List.mem_append_right _ hx)⟩⟩
  · rw [if_neg hp] at h1; exact absurd h1 hp
theorem OkXs.get : ∀ {l : List PatT}, OkXs l → ∀ (j : Nat) (hj : j < l.length), OkX l[j]
  | p :: l, h, 0, _ => h.head.1
  | p :: l, h, j + 1, hj => OkXs.get h.head.2 j (by simpa using hj)
theorem OkX.sub {k n : Int} {t nm : ByteArray} {l : List PatT} (h : OkX (.mk k t n nm l)) : OkXs l := by
  have h1 := h.node
  rw [nodeE] at h1
  split at h1
  · exact ⟨h1, fun x hx => h.num x (by rw [allT]; exact List.mem_cons_of_mem _ hx)⟩
  · rename_i hx; exact absurd h1 hx
section
variable {k n : Int} {t nm : ByteArray} {kids : List PatT}
theorem OkX.facts (h : OkX (.mk k t n nm kids)) : (1 ≤ k ∧ k ≤ 13) ∧ (k = 1 → t.size ≤ 65536) ∧ (k = 2 → 0 ≤ n) ∧ n ≤ 9223372036854775807 ∧ (k = 3 ∨ k = 4 ∨ k = 6 → nm.size ≤ 16) ∧ (k = 6 → kids.length ≤ 8) ∧ (k ≠ 6 → (kids.length : Int) = exKids k) := by
  have h1 := h.node
  rw [nodeE] at h1
  have h2 : ownE k t n nm kids.length = 0 := by
    split at h1
    · assumption
    · rename_i hx; exact absurd h1 hx
  have hn : n ≤ 9223372036854775807 := h.num (.mk k t n nm kids) (by rw [allT]; exact List.mem_cons_self ..)
  unfold ownE at h2
  by_cases c1 : k < 1 ∨ 13 < k
  · rw [if_pos c1] at h2; cases h2
  rw [if_neg c1] at h2
  by_cases c2 : k = 1 ∧ 65536 < t.size
  · rw [if_pos c2] at h2; cases h2
  rw [if_neg c2] at h2
  by_cases c3 : k = 2 ∧ n < 0
  · rw [if_pos c3] at h2; cases h2
  rw [if_neg c3] at h2
  by_cases c4 : (k = 3 ∨ k = 4 ∨ k = 6) ∧ namedF nm = false
  · rw [if_pos c4] at h2; cases h2
  rw [if_neg c4] at h2
  by_cases c5 : (k = 6 ∧ 8 < kids.length) ∨ (k ≠ 6 ∧ (kids.length : Int) ≠ exKids k)
  · rw [if_pos c5] at h2; cases h2
  refine ⟨by omega, fun e => by omega, fun e => by omega, hn, fun e => ?_, fun e => by omega, fun e => by omega⟩
  refine named_size ?_
  cases hx : namedF nm with
  | true => rfl
  | false => exact absurd ⟨e, hx⟩ c4
theorem OkX.one (h : OkX (.mk k t n nm kids)) (hk : k = 4 ∨ k = 5 ∨ k = 7) : ∃ q, kids = [q] := by
  have h1 := h.facts.2.2.2.2.2.2 (by omega)
  rw [show exKids k = 1 by unfold exKids; rw [if_pos hk]] at h1
  exact List.length_eq_one_iff.1 (by omega)
theorem OkX.two (h : OkX (.mk k t n nm kids)) (hk : 8 ≤ k) : ∃ p q, kids = [p, q] := by
  have h0 := h.facts.1
  have h1 := h.facts.2.2.2.2.2.2 (by omega)
  rw [show exKids k = 2 by unfold exKids; rw [if_neg (by omega), if_pos (by omega)]] at h1
  have h2 : kids.length = 2 := by omega
  match kids, h2 with
  | [p, q], _ => exact ⟨p, q, rfl⟩
end
mutual
theorem exp_len : ∀ (p : PatT) (i : Nat), OkX p → (expF p i).length + 3 ≤ 140010 * sizeT p
  | .mk k t n nm kids, i, h => by
    obtain ⟨hk, ht, hn, hn2, hnm, hk6, hkk⟩ := h.facts
    have hh1 := eHead_len kids 1 h.sub
    have hh5 := eHead_len kids 5 h.sub
    have hh4 := eHead_len kids 4 h.sub
    have hj := eJoin_len true kids h.sub
    have h2 := eTwo_len (ownK k) [32, signK k, 32] (by simp) kids h.sub
    have hq := quote_len t
    have en : nm.data.toList.length = nm.size := rfl
    rw [expF, sizeT]
    split
    · have := ht ‹_›; omega
    split
    · have h0 := hn ‹_›
      have := dec_len 19 n.toNat (by omega); omega
    split
    · have := hnm (.inl ‹_›); omega
    split
    · have := hnm (.inr (.inl ‹_›)); simp only [List.length_append, List.length_cons, List.length_nil]; omega
    split
    · simp only [List.length_cons]; omega
    split
    · have := par_len (decide (4 < i)) (45 :: eHead kids 4); simp only [List.length_cons] at this; omega
    split
    · have := hnm (.inr (.inr ‹_›)); simp only [List.length_append, List.length_cons, List.length_nil]; omega
    · have := par_len (decide (ownK k < i)) (eTwo (ownK k) [32, signK k, 32] kids); omega
theorem eHead_len : ∀ (l : List PatT) (i : Nat), OkXs l → (eHead l i).length ≤ 140010 * sizeL l
  | [], i, h => by simp [eHead]
  | p :: r, i, h => by have := exp_len p i h.head.1; rw [eHead, sizeL]; omega
theorem eJoin_len : ∀ (first : Bool) (l : List PatT), OkXs l → (eJoin first l).length ≤ 140010 * sizeL l
  | first, [], h => by simp [eJoin]
  | first, p :: r, h => by
    have h1 := exp_len p 1 h.head.1
    have h2 := eJoin_len false r h.head.2
    rw [eJoin, sizeL]
    simp only [List.length_append]
    split
    · simp only [List.length_nil]; omega
    · simp only [List.length_cons, List.length_nil]; omega
theorem eTwo_len : ∀ (own : Nat) (sep : List UInt8), sep.length ≤ 3 → ∀ (l : List PatT), OkXs l → (eTwo own sep l).length ≤ 140010 * sizeL l
  | own, sep, hs, [], h => by simp [eTwo]
  | own, sep, hs, p :: r, h => by
    have h1 := exp_len p own h.head.1
    have h2 := eHead_len r (own + 1) h.head.2
    rw [eTwo, sizeL]
    simp only [List.length_append]; omega
end
theorem eJoin_drop (l : List PatT) (j : Nat) (h : j < l.length) (f : Bool) : eJoin f (l.drop j) = (if f then [] else [44, 32]) ++ (expF l[j] 1 ++ eJoin false (l.drop (j + 1))) := by
  rw [List.drop_eq_getElem_cons h, eJoin]
end Go.Proofs.YtcfcdobgpldoiaaGreatDoor
