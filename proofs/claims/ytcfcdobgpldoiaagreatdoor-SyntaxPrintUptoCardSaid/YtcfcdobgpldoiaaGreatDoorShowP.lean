/- What a pattern is written as: plain functions. -/
import Derived.Test.YtcfcdobgpldoiaaGreatDoorSm12
import Derived.WalkLawsBesides
import Derived.Test.YtcfcdobgpldoiaaGreatDoorSm2
import Derived.Lib.ItoaNum
import Derived.Lib.Replace
import Derived.Lib.SplitLaws
namespace Go.Proofs.YtcfcdobgpldoiaaGreatDoor
set_option linter.all false
open Go.RowKit

def dupQ : List UInt8 → List UInt8
  | [] => []
  | c :: r => if c = 39 then 39 :: 39 :: dupQ r else c :: dupQ r
def quoteL (t : ByteArray) : List UInt8 := 39 :: (dupQ t.data.toList ++ [39])
def wordL (k : Int) : List UInt8 := (wordsL.getD k.toNat ByteArray.empty).data.toList
def arbnoL : List UInt8 := [65, 82, 66, 78, 79, 40]
def parL (b : Bool) (l : List UInt8) : List UInt8 := if b then 40 :: (l ++ [41]) else l
mutual
/-- i: what it stands in: 2 nothing, 1 alternatives, 0 pieces or gifts. -/
def showF : PatT → Nat → List UInt8
  | .mk k t n nm kids, i =>
    if k = 1 then quoteL t
    else if isTextK k then wordL k ++ (40 :: (quoteL t ++ [41]))
    else if isNumK k then wordL k ++ (40 :: (Lib.decDigits n.toNat ++ [41]))
    else if k = 20 then arbnoL ++ (headF kids 2 ++ [41])
    else if k = 21 then headF kids 0 ++ (32 :: 46 :: 32 :: nm.data.toList)
    else if k = 22 then headF kids 0 ++ (32 :: 36 :: 32 :: nm.data.toList)
    else if k = 23 then 64 :: nm.data.toList
    else if k = 24 then 42 :: nm.data.toList
    else if k = 18 then parL (decide (i < 1)) (joinG [32] true kids 0)
    else if k = 19 then parL (decide (i < 2)) (joinG [32, 124, 32] true kids 1)
    else wordL k
def headF : List PatT → Nat → List UInt8
  | [], _ => []
  | p :: _, i => showF p i
def joinG (sep : List UInt8) : Bool → List PatT → Nat → List UInt8
  | _, [], _ => []
  | first, p :: r, i => (if first then [] else sep) ++ (showF p i ++ joinG sep false r i)
end
def okT (p : PatT) : Prop := ∀ x ∈ allT p, nodeF x = 0
def okL (l : List PatT) : Prop := ∀ x ∈ allL l, nodeF x = 0
theorem okT.self {p : PatT} (h : okT p) : nodeF p = 0 := h p (by cases p; rw [allT]; simp)
theorem okT.kids {k : Int} {t : ByteArray} {n : Int} {nm : ByteArray} {kids : List PatT} (h : okT (.mk k t n nm kids)) : okL kids := fun x hx => h x (by rw [allT]; exact List.mem_cons_of_mem _ hx)
theorem okL.head {p : PatT} {l : List PatT} (h : okL (p :: l)) : okT p := fun x hx => h x (by rw [allL]; exact List.mem_append_left _ hx)
theorem okL.tail {p : PatT} {l : List PatT} (h : okL (p :: l)) : okL l := fun x hx => h x (by rw [allL]; exact List.mem_append_right _ hx)
theorem okL.get : ∀ {l : List PatT}, okL l → ∀ (j : Nat) (hj : j < l.length), okT l[j]
  | p :: l, h, 0, _ => h.head
  | p :: l, h, j + 1, hj => okL.get h.tail j (by simpa using hj)
theorem dupQ_len : ∀ l : List UInt8, (dupQ l).length ≤ 2 * l.length
  | [] => by simp [dupQ]
  | c :: r => by have := dupQ_len r; rw [dupQ]; split <;> simp <;> omega
theorem quote_len (t : ByteArray) : (quoteL t).length ≤ 2 * t.size + 2 := by
  have := dupQ_len t.data.toList
  have e : t.data.toList.length = t.size := rfl
  simp [quoteL]; omega
theorem word_len (k : Int) : (wordL k).length ≤ 6 := by
  have h : ∀ x ∈ wordsL, x.data.toList.length ≤ 6 := by decide
  unfold wordL
  rw [List.getD_eq_getElem?_getD]
  cases hx : wordsL[k.toNat]? with
  | none => decide
  | some x => exact h x (List.mem_of_getElem? hx)
theorem dec_len : ∀ (f u : Nat), u < 10 ^ f → (Lib.decDigits u).length ≤ f + 1
  | 0, u, h => by have : u = 0 := by simpa using h
                  subst this; rw [Lib.decDigits, dif_pos (by omega)]; simp
  | f + 1, u, h => by
    by_cases hu : u < 10
    · rw [Lib.decDigits, dif_pos hu]; simp
    · rw [Lib.decDigits, dif_neg hu]
      have := dec_len f (u / 10) (by rw [Nat.pow_succ] at h; omega)
      simp; omega
theorem named_size {s : ByteArray} (h : namedF s = true) : s.size ≤ 16 := by
  unfold namedF at h
  simp only [Bool.and_eq_true, decide_eq_true_eq] at h
  omega
theorem par_len (b : Bool) (l : List UInt8) : (parL b l).length ≤ l.length + 2 := by
  unfold parL; split <;> simp
theorem node_factsP {p : PatT} (h : nodeF p = 0) : (1 ≤ p.kind ∧ p.kind ≤ 24) ∧ (p.kind = 1 ∨ isTextK p.kind → p.text.size ≤ 65536) ∧ (isNumK p.kind → 0 ≤ p.n ∧ p.n ≤ 65536) ∧ (isNameK p.kind → p.name.size ≤ 16) ∧ (20 ≤ p.kind ∧ p.kind ≤ 22 → p.kids.length = 1) := by
  unfold nodeF at h
  by_cases h1 : p.kind < 1 ∨ 24 < p.kind
  · rw [if_pos h1] at h; cases h
  rw [if_neg h1] at h
  by_cases h2 : (p.kind = 1 ∨ isTextK p.kind) ∧ 65536 < p.text.size
  · rw [if_pos h2] at h; cases h
  rw [if_neg h2] at h
  by_cases h3 : isTextK p.kind ∧ p.text.size = 0
  · rw [if_pos h3] at h; cases h
  rw [if_neg h3] at h
  by_cases h4 : isNumK p.kind ∧ (p.n < 0 ∨ 65536 < p.n)
  · rw [if_pos h4] at h; cases h
  rw [if_neg h4] at h
  by_cases h5 : isNameK p.kind ∧ namedF p.name = false
  · rw [if_pos h5] at h; cases h
  rw [if_neg h5] at h
  by_cases h6 : p.kids.length < leastK p.kind ∨ mostK p.kind < p.kids.length
  · rw [if_pos h6] at h; cases h
  refine ⟨by omega, fun hk => ?_, fun hk => ?_, fun hk => ?_, fun hk => ?_⟩
  · exact Nat.le_of_not_lt fun hl => h2 ⟨hk, hl⟩
  · constructor
    · exact Int.not_lt.1 fun hl => h4 ⟨hk, .inl hl⟩
    · exact Int.not_lt.1 fun hl => h4 ⟨hk, .inr hl⟩
  · refine named_size ?_
    cases hn : namedF p.name with
    | true => rfl
    | false => exact absurd ⟨hk, hn⟩ h5
  · have e1 : leastK p.kind = 1 := by unfold leastK; rw [if_neg (by omega), if_pos hk]
    have e2 : mostK p.kind = 1 := by unfold mostK; rw [if_neg (by omega), if_pos hk]
    omega
theorem node_facts {k n : Int} {t nm : ByteArray} {kids : List PatT} (h : nodeF (.mk k t n nm kids) = 0) : (1 ≤ k ∧ k ≤ 24) ∧ (k = 1 ∨ isTextK k → t.size ≤ 65536) ∧ (isNumK k → 0 ≤ n ∧ n ≤ 65536) ∧ (isNameK k → nm.size ≤ 16) ∧ (20 ≤ k ∧ k ≤ 22 → kids.length = 1) := node_factsP h
mutual
theorem show_len : ∀ (p : PatT) (i : Nat), okT p → (showF p i).length + 3 ≤ 140003 * sizeT p
  | .mk k t n nm kids, i, h => by
    obtain ⟨hk, ht, hn, hnm, hk1⟩ := node_facts h.self
    have hw := word_len k
    have hh0 := head_len kids 0 h.kids
    have hh2 := head_len kids 2 h.kids
    have hj1 := join_len [32] (by decide) true kids 0 h.kids
    have hj2 := join_len [32, 124, 32] (by decide) true kids 1 h.kids
    have hq := quote_len t
    have en : nm.data.toList.length = nm.size := rfl
    rw [showF, sizeT]
    split
    · have := ht (.inl ‹_›); omega
    split
    · rename_i hk2
      have := ht (.inr hk2)
      simp only [List.length_append, List.length_cons, List.length_nil]; omega
    split
    · rename_i hk2
      have h3 := hn hk2
      have := dec_len 5 n.toNat (by omega)
      simp only [List.length_append, List.length_cons, List.length_nil]; omega
    split
    · simp only [List.length_append, List.length_cons, List.length_nil, arbnoL]; omega
    split
    · have := hnm (by unfold isNameK; omega)
      simp only [List.length_append, List.length_cons, List.length_nil]; omega
    split
    · have := hnm (by unfold isNameK; omega)
      simp only [List.length_append, List.length_cons, List.length_nil]; omega
    split
    · have := hnm (by unfold isNameK; omega)
      simp only [List.length_cons]; omega
    split
    · have := hnm (by unfold isNameK; omega)
      simp only [List.length_cons]; omega
    split
    · have := par_len (decide (i < 1)) (joinG [32] true kids 0); omega
    split
    · have := par_len (decide (i < 2)) (joinG [32, 124, 32] true kids 1); omega
    · omega
theorem head_len : ∀ (l : List PatT) (i : Nat), okL l → (headF l i).length ≤ 140003 * sizeL l
  | [], i, h => by simp [headF]
  | p :: r, i, h => by have := show_len p i h.head; rw [headF, sizeL]; omega
theorem join_len : ∀ (sep : List UInt8), sep.length ≤ 3 → ∀ (first : Bool) (l : List PatT) (i : Nat), okL l → (joinG sep first l i).length ≤ 140003 * sizeL l
  | sep, hs, first, [], i, h => by simp [joinG]
  | sep, hs, first, p :: r, i, h => by
    have h1 := show_len p i h.head
    have h2 := join_len sep hs false r i h.tail
    have h3 := sizeT_pos p
    rw [joinG, sizeL]
    simp only [List.length_append]
    split
    · simp only [List.length_nil]; omega
    · omega
end
/-- Where each quote is written twice. -/
theorem replace_dup : ∀ s : List UInt8, Lib.replaceK [39] [39, 39] (Lib.count s [39]) s = dupQ s
  | [] => by rw [Lib.count_one]; rfl
  | c :: r => by
    have ih := replace_dup r
    by_cases hc : c = 39
    · subst hc
      rw [Lib.count_cons_eq, Nat.add_comm 1, Lib.replaceK_hit [39] [39, 39] _ (39 :: r) 0 rfl, dupQ, if_pos rfl, ← ih]
      rfl
    · rw [Lib.count_cons_ne c 39 r hc, dupQ, if_neg hc]
      generalize Lib.count r [39] = k at ih
      cases k with
      | zero => rw [← ih]; rfl
      | succ m =>
        have hx : Lib.index (c :: r) [39] = if Lib.index r [39] == -1 then -1 else Lib.index r [39] + 1 := by
          rw [Lib.index]
          rw [if_neg (by simp [List.isPrefixOf]; exact fun h => hc h.symm)]
        rw [Lib.replaceK] at ih ⊢
        rw [hx]
        have hge := Lib.index_ge r [39]
        by_cases hi : Lib.index r [39] = -1
        · rw [hi] at ih ⊢
          rw [← ih]; rfl
        · have hb : (Lib.index r [39] == -1) = false := by simpa using hi
          rw [hb] at ih
          rw [hb]
          have hb2 : (Lib.index r [39] + 1 == -1) = false := by simp; omega
          simp only [Bool.false_eq_true, if_false] at ih ⊢
          rw [hb2]
          simp only [Bool.false_eq_true, if_false]
          have e : (Lib.index r [39] + 1).toNat = (Lib.index r [39]).toNat + 1 := by omega
          rw [e, ← ih]
          simp [List.take_succ_cons, Nat.add_right_comm]
theorem replaceAll_dup (s : List UInt8) : Lib.replaceAll s [39] [39, 39] = dupQ s := by
  unfold Lib.replaceAll Lib.replace Lib.replaceNum
  rw [if_neg (by decide), if_pos (.inl (by decide)), replace_dup]
end Go.Proofs.YtcfcdobgpldoiaaGreatDoor
