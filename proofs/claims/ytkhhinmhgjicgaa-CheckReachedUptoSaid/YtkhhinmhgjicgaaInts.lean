/- Lists of numbers that the call owns: contained, sorted, read. -/
import Derived.Test.YtkhhinmhgjicgaaCm1
import Derived.Sort.OwnSortedInts
import Derived.Deep.AppendLies
namespace Go.Proofs.Ytkhhinmhgjicgaa
set_option linter.all false
open Go.RowKit Go.Sort

theorem infoInt : (Try.prog.info? 3).map (fun i => (i.zero, i.size, i.bytes)) = some (some (.int .i64 0), 1, 8) := by kernel_rfl
def intV (k : Int) : Value := .int .i64 k
def OwnI (w : World) (B : Nat) (v : Value) (l : List Int) : Prop := w.ownsRow B 3 1 v l.length (l.map (Value.int .i64))
theorem OwnI.nil (w : World) (B : Nat) : OwnI w B (.slice none 0 0) [] := World.ownsRow_nil w B _ _
theorem OwnI.lt {w : World} {B : Nat} {v : Value} {l : List Int} (h : OwnI w B v l) : ∀ k, v.ownBlock = some k → B ≤ k ∧ k < w.heap.size := by
  intro k hk
  rcases h.2 with ⟨rfl, _⟩ | ⟨g, cap, cur, rfl, hb, hg, _⟩
  · cases hk
  · cases hk; exact ⟨hb, (Array.getElem?_eq_some_iff.1 hg).1⟩
theorem OwnI.kept {w w' : World} {B : Nat} {v : Value} {l : List Int} (h : OwnI w B v l) {X : Nat → Prop} (hk : Kept X w w') (hx : ∀ k, v.ownBlock = some k → ¬ X k) : OwnI w' B v l := by
  have hlt := h.lt
  refine ⟨h.1, ?_⟩
  rcases h.2 with h1 | ⟨g, cap, cur, rfl, hb, hg, h2⟩
  · exact .inl h1
  · exact .inr ⟨g, cap, cur, rfl, hb, (hk.block g (hlt g rfl).2 (hx g rfl)).trans hg, h2⟩
theorem OwnI.shape {w : World} {B : Nat} {v : Value} {l : List Int} (h : OwnI w B v l) : (v = .slice none 0 0 ∧ l = []) ∨ ∃ g c, v = .slice (some ⟨g, 0, none⟩) l.length c ∧ B ≤ g ∧ g < w.heap.size ∧ l.length ≤ c ∧ c ≤ maxLen ∧
    ∀ j (hj : j < l.length), w.cell? ⟨g, j, none⟩ = some (.int .i64 l[j]) ∧ w.frozen? ⟨g, j, none⟩ = false := by
  rcases h.2 with ⟨h1, h2⟩ | ⟨g, cap, cur, rfl, hb, hg, h1, h2, h3, h4⟩
  · exact .inl ⟨h1, List.eq_nil_of_length_eq_zero h2⟩
  · refine .inr ⟨g, cap, rfl, hb, (Array.getElem?_eq_some_iff.1 hg).1, h1, h2, fun j hj => ⟨?_, by simp [World.frozen?, hg]⟩⟩
    rw [cell_of_row w g j cur _ (0, 0) hg]
    have h5 := congrArg (·[j]?) h4
    simp only [List.getElem?_take, List.getElem?_map] at h5
    rw [if_pos (by omega), List.getElem?_eq_getElem hj] at h5
    simpa using h5
def HasIQ (l : List Int) (k : Int) (w : World) (e : Ending) (w' : World) : Prop := e = .returned (.bool (l.contains k)) ∧ w' = w
theorem hasI_any (B : Nat) (v : Value) (l : List Int) (k : Int) (w : World) (h : OwnI w B v l) (hl : l.length < 4000000000) : Calls Try.prog 37 #[v, .int .i64 k] w (HasIQ l k w) := by
  rcases h.shape with ⟨rfl, rfl⟩ | ⟨g, c, rfl, _, _, _, _, hc⟩
  · refine (Try.slices_Contains_int_empty none 0 k w).mono ?_
    rintro e w' ⟨rfl, rfl⟩
    exact ⟨rfl, rfl⟩
  · refine (Try.slices_Contains_int g 0 l.length c l k w (Nat.le_refl _) (by omega) (fun j hj => ?_)).mono ?_
    · rw [Nat.zero_add, List.getD_eq_getElem?_getD, List.getElem?_eq_getElem hj]; exact (hc j hj).1
    · rintro e w' ⟨rfl, rfl⟩
      exact ⟨by rw [List.take_length], rfl⟩
def sortI (l : List Int) : List Int := l.mergeSort fun x y => decide (x ≤ y)
theorem sortI_len (l : List Int) : (sortI l).length = l.length := by unfold sortI; simp
theorem sortI_mem (l : List Int) (k : Int) : k ∈ sortI l ↔ k ∈ l := by unfold sortI; exact (List.mergeSort_perm l _).mem_iff
def SortIQ (B : Nat) (v : Value) (l : List Int) (w : World) (e : Ending) (w' : World) : Prop := e = .returned (.tuple #[]) ∧ OwnI w' B v (sortI l) ∧ Kept (fun b => B ≤ b) w w'
theorem sortI_any (B : Nat) (v : Value) (l : List Int) (w : World) (h : OwnI w B v l) (hl : l.length < 1000000000) : Calls Try.prog 39 #[v] w (SortIQ B v l w) := by
  rcases h.2 with ⟨rfl, h0⟩ | ⟨g, cap, cur, rfl, hb, hgg, h1, h2, h3, h4⟩
  · obtain rfl : l = [] := List.eq_nil_of_length_eq_zero h0
    refine (Try.slices_Sort_int_none none 0 w).mono ?_
    rintro e w' ⟨rfl, rfl⟩
    exact ⟨rfl, by simpa [sortI] using OwnI.nil _ _, Kept.refl _ _⟩
  · have ht : cur.toList.take l.length = l.map (Value.int .i64) := by simpa using h4
    refine (Try.slices_Sort_int g 0 cap l w (holds_of_blockI hgg ht) (Array.getElem?_eq_some_iff.1 hgg).1 (by omega)).mono ?_
    rintro e w' ⟨rfl, n, os, rfl⟩
    refine ⟨rfl, ?_, (Kept.refl _ w).grown (grownBy_sortedI _) (fun k hk => .inl (by cases hk; exact hb))⟩
    have r := ownsRow_sortedI (os := os) (n := n) (ts := l.mergeSort fun x y => decide (x ≤ y)) (ss := l) (by simp) hb hgg h1 h2 h3
    unfold OwnI
    rw [sortI_len]
    exact r
theorem ints_src {w : World} {B : Nat} {v : Value} {l : List Int} (h : OwnI w B v l) : Src Try.prog 1 50 v l.length (l.map (Value.int .i64)) w := by
  rcases h.shape with ⟨rfl, rfl⟩ | ⟨g, c, rfl, _, _, _, _, hc⟩
  · exact Src.ofNil _ Try.underlying50 _
  · refine Src.ofSlice _ Try.underlying50 _ _ _ _ (by simp) (fun j u hu => ?_) (by intro u hu; obtain ⟨e, _, rfl⟩ := List.mem_map.1 hu; rfl)
    rw [List.getElem?_map] at hu
    cases hj : l[j]? with
    | none => rw [hj] at hu; cases hu
    | some y =>
      rw [hj] at hu
      obtain ⟨hlt, hy⟩ := List.getElem?_eq_some_iff.1 hj
      have e1 : (⟨g, 0, none⟩ : Addr).add j = ⟨g, j, none⟩ := by unfold Addr.add; split <;> simp_all
      rw [e1, (hc j hlt).1, hy]; exact hu
end Go.Proofs.Ytkhhinmhgjicgaa
