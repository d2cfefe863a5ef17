/- The library's sort and Compact on lists of texts that the call owns. -/
import Derived.Test.YtdkpdomggbiolaaNames1
import Derived.Test.YtdkpdomggbiolaaShelf
import Derived.Sort.OwnSorted
namespace Go.Proofs.Ytdkpdomggbiolaa
set_option linter.all false
open Go.RowKit Go.Sort

def bytesOf (s : ByteArray) : List UInt8 := s.data.toList
def ofBytes (l : List UInt8) : ByteArray := ⟨l.toArray⟩
theorem ofBytes_bytesOf (s : ByteArray) : ofBytes (bytesOf s) = s := by cases s; simp [ofBytes, bytesOf]
theorem bytesOf_ofBytes (l : List UInt8) : bytesOf (ofBytes l) = l := by simp [ofBytes, bytesOf]
theorem map_enc (l : List ByteArray) : (l.map bytesOf).map encStr = l.map Value.string := by
  rw [List.map_map]; apply List.map_congr_left; intro s _; cases s; simp [encStr, bytesOf]
theorem map_enc' (l : List (List UInt8)) : (l.map ofBytes).map Value.string = l.map encStr := by
  rw [List.map_map]; apply List.map_congr_left; intro s _; simp [encStr, ofBytes]
def sortB (l : List ByteArray) : List ByteArray := ((l.map bytesOf).mergeSort fun x y => decide (x ≤ y)).map ofBytes
def compB (l : List ByteArray) : List ByteArray := (Lib.compact (l.map bytesOf)).map ofBytes
theorem sortB_length (l : List ByteArray) : (sortB l).length = l.length := by simp [sortB]

def SortPost (B : Nat) (v : Value) (l : List ByteArray) (w : World) (e : Ending) (w' : World) : Prop :=
  e = .returned (.tuple #[]) ∧ OwnS w' B v (sortB l) ∧ w.grownBy w' v.ownBlock
theorem sortS_any (B : Nat) (v : Value) (l : List ByteArray) (w : World) (h : OwnS w B v l) (hl : l.length < 1000000000) :
    Calls Try.prog 15 #[v] w (SortPost B v l w) := by
  rcases h.2 with ⟨rfl, h0⟩ | ⟨g, cap, cur, rfl, hb, hgg, h1, h2, h3, h4⟩
  · obtain rfl : l = [] := List.eq_nil_of_length_eq_zero h0
    refine (Try.slices_Sort_string_none none 0 w).mono ?_
    rintro e w' ⟨rfl, rfl⟩
    exact ⟨rfl, by simpa [sortB] using OwnS.nil _ _, ⟨rfl, rfl, rfl, Nat.le_refl _, fun _ _ _ => rfl⟩⟩
  · have hl' : (l.map bytesOf).length = l.length := by simp
    have ht : cur.toList.take (l.map bytesOf).length = (l.map bytesOf).map encStr := by rw [map_enc, hl']; simpa using h4
    have c := Try.slices_Sort_string g 0 cap (l.map bytesOf) w (holds_of_block hgg ht) (Array.getElem?_eq_some_iff.1 hgg).1 (by rw [hl']; omega)
    rw [hl'] at c
    refine c.mono ?_
    rintro e w' ⟨rfl, n, os, rfl⟩
    refine ⟨rfl, ?_, grownBy_sorted _⟩
    have r := ownsRow_sorted (os := os) (n := n) (ts := (l.map bytesOf).mergeSort fun x y => decide (x ≤ y)) (ss := l.map bytesOf) (by simp) hb hgg (by rw [hl']; exact h1) h2 h3
    rw [hl'] at r
    unfold OwnS
    rw [sortB_length]
    unfold sortB
    rw [map_enc']; exact r

def CompPost (B : Nat) (v : Value) (l : List ByteArray) (w : World) (e : Ending) (w' : World) : Prop :=
  ∃ v', e = .returned v' ∧ OwnS w' B v' (compB l) ∧ v'.ownBlock = v.ownBlock ∧ w.grownBy w' v.ownBlock
theorem compact_le (zs : List (List UInt8)) : (Lib.compact zs).length ≤ zs.length := by
  have : ∀ (d : Array (List UInt8)) (m : Nat), (Lib.compactUpTo d m).length ≤ m := by
    intro d m
    induction m with
    | zero => simp [Lib.compactUpTo]
    | succ m ih => rw [Lib.compactUpTo_succ, List.length_append]; split <;> simp <;> omega
  exact this _ _
theorem compS_any (B : Nat) (v : Value) (l : List ByteArray) (w : World) (h : OwnS w B v l) (hl : l.length < 1000000000) :
    Calls Try.prog 36 #[v] w (CompPost B v l w) := by
  rcases h.2 with ⟨rfl, h0⟩ | ⟨g, cap, cur, rfl, hb, hgg, h1, h2, h3, h4⟩
  · obtain rfl : l = [] := List.eq_nil_of_length_eq_zero h0
    refine (Try.slices_Compact_string_empty none 0 w).mono ?_
    rintro e w' ⟨rfl, rfl⟩
    exact ⟨_, rfl, OwnS.nil _ _, rfl, ⟨rfl, rfl, rfl, Nat.le_refl _, fun _ _ _ => rfl⟩⟩
  · have hl' : (l.map bytesOf).length = l.length := by simp
    have ht : cur.toList.take (l.map bytesOf).length = (l.map bytesOf).map encStr := by rw [map_enc, hl']; simpa using h4
    have c := Try.slices_Compact_string g 0 cap (l.map bytesOf) w (holds_of_block hgg ht) (by rw [hl']; omega) (by rw [hl']; exact h1)
    rw [hl'] at c
    refine c.mono ?_
    rintro e w' ⟨rfl, q, rfl⟩
    have hc := compact_le (l.map bytesOf)
    rw [hl'] at hc
    refine ⟨_, rfl, ?_, rfl, by have := grownBy_sorted (os := #[]) (n := q) (w := w) (g := g) (Lib.compact (l.map bytesOf) ++ List.replicate (l.length - (Lib.compact (l.map bytesOf)).length) []).toArray; rw [grow_empty] at this; exact this⟩
    have r := ownsRow_sorted (os := #[]) (n := q) (ts := Lib.compact (l.map bytesOf) ++ List.replicate (l.length - (Lib.compact (l.map bytesOf)).length) []) (ss := l.map bytesOf) (by simp; omega) hb hgg (by rw [hl']; exact h1) h2 h3
    rw [hl', grow_empty] at r
    have e1 : (compB l).length = (Lib.compact (l.map bytesOf)).length := by simp [compB]
    unfold OwnS
    rw [e1]
    unfold compB
    rw [map_enc']
    rcases r.2 with ⟨hv, _⟩ | ⟨g', cap', cur', hv, hb', hgg', h1', h2', h3', h4'⟩
    · simp at hv
    · simp only [Value.slice.injEq, Option.some.injEq, Addr.mk.injEq, and_true, true_and] at hv
      obtain ⟨rfl, rfl⟩ := hv
      refine ⟨by simp, .inr ⟨g, cap, cur', rfl, hb, hgg', by omega, h2, h3', ?_⟩⟩
      have := congrArg (List.take (Lib.compact (l.map bytesOf)).length) h4'
      rw [List.take_take, List.map_append, List.take_append_of_le_length (by simp)] at this
      rw [show min (Lib.compact (l.map bytesOf)).length (l.length * 1) = (Lib.compact (l.map bytesOf)).length * 1 by omega] at this
      rw [this, List.take_of_length_le (by simp)]
end Go.Proofs.Ytdkpdomggbiolaa
