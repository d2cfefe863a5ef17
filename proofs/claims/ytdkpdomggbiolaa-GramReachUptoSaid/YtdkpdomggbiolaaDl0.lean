/- The document's Left: names that may match nothing; a square of truths (plain, and in memory). -/
import Derived.Test.YtdkpdomggbiolaaLt0
import Derived.Test.YtdkpdomggbiolaaGm2
import Derived.OwnWalk
namespace Go.Proofs.Ytdkpdomggbiolaa
set_option linter.all false
open Go.RowKit

theorem mL_mem {L : List ByteArray} (h : Rise (L.map bytesOf)) (n : ByteArray) : mL L n = true ↔ n ∈ L := by
  unfold mL
  constructor
  · intro hm
    exact (more_no (by simpa using hm)).1
  · intro hn
    cases hm : moreF L n with
    | false => rfl
    | true =>
      obtain ⟨h1, h2⟩ := putL_law L n h
      have h3 := more_yes hm
      have h4 := nodup_len (putL L n) L (rise_nodup h1) fun x hx => ((h2 x).1 hx).elim id (fun e => by rw [e]; exact hn)
      omega
theorem mL_put {L : List ByteArray} (h : Rise (L.map bytesOf)) (n : ByteArray) : mL (putL L n) = addM (mL L) n := by
  obtain ⟨h1, h2⟩ := putL_law L n h
  funext x
  rw [Bool.eq_iff_iff, mL_mem h1, h2]
  unfold addM
  by_cases hx : x = n
  · rw [if_pos hx]; simp [hx]
  · rw [if_neg hx, mL_mem h]; simp [hx]
/-- Names known to match nothing. -/
structure DnP (l : List RuleT) (L : List ByteArray) : Prop where
  under : UnderM l (mL L)
  rise : Rise (L.map bytesOf)
  sub : ∀ n ∈ L, n ∈ l.map RuleT.name
theorem mL_nil : mL [] = fun _ => false := by funext n; unfold mL moreF; simp
theorem DnP.start (l : List RuleT) : DnP l [] := ⟨by rw [mL_nil]; exact UnderM.none l, by simp [Rise], fun _ h => (by cases h)⟩
theorem DnP.len {l : List RuleT} {L : List ByteArray} (h : DnP l L) : L.length ≤ l.length := by
  have := nodup_len L _ (rise_nodup h.rise) h.sub
  rwa [List.length_map] at this
theorem DnP.put {l : List RuleT} {L : List ByteArray} (h : DnP l L) {r : RuleT} (hr : r ∈ l) (he : emptyF (mL L) r.pat = true) : DnP l (putL L r.name) := by
  obtain ⟨h1, h2⟩ := putL_law L r.name h.rise
  exact ⟨by rw [mL_put h.rise]; exact h.under.add hr he, h1, fun n hn => ((h2 n).1 hn).elim (h.sub n) (fun e => by rw [e]; exact List.mem_map_of_mem hr)⟩
structure DnJ (l : List RuleT) (L : List ByteArray) (j : Nat) (b : Bool) (L2 : List ByteArray) : Prop where
  dn : DnP l L2
  le : L.length + (if b = true then 1 else 0) ≤ L2.length
  done : b = false → L2 = L ∧ ∀ r ∈ l.take j, emptyF (mL L) r.pat = true → mL L r.name = true
theorem DnJ.start {l : List RuleT} {L : List ByteArray} (h : DnP l L) : DnJ l L 0 false L := ⟨h, by simp, fun _ => ⟨rfl, fun r hr => by rw [List.take_zero] at hr; cases hr⟩⟩
theorem DnJ.next {l : List RuleT} {L L2 : List ByteArray} {j : Nat} {b : Bool} (h : DnJ l L j b L2) (hj : j < l.length) (hd : emptyF (mL L2) l[j].pat = true → mL L2 l[j].name = true) : DnJ l L (j + 1) b L2 := by
  refine ⟨h.dn, h.le, fun hb => ?_⟩
  obtain ⟨rfl, h2⟩ := h.done hb
  refine ⟨rfl, fun r hr => ?_⟩
  rw [List.take_succ_eq_append_getElem hj] at hr
  rcases List.mem_append.1 hr with hr | hr
  · exact h2 r hr
  · rw [List.mem_singleton] at hr; rw [hr]; exact hd
theorem DnJ.put {l : List RuleT} {L L2 : List ByteArray} {j : Nat} {b : Bool} (h : DnJ l L j b L2) (hj : j < l.length) (he : emptyF (mL L2) l[j].pat = true) : DnJ l L (j + 1) (b || moreF L2 l[j].name) (putL L2 l[j].name) := by
  cases hm : moreF L2 l[j].name with
  | false =>
    rw [(more_no hm).2, Bool.or_false]
    exact h.next hj fun _ => by unfold mL; rw [hm]; rfl
  | true =>
    rw [Bool.or_true]
    refine ⟨h.dn.put (List.getElem_mem hj) he, ?_, fun h => (by cases h)⟩
    have h1 := more_yes hm; have h2 := h.le
    rw [if_pos rfl]; omega
theorem DnJ.closed {l : List RuleT} {L L2 : List ByteArray} (h : DnJ l L l.length false L2) : ClosedM l (mL L2) := by
  obtain ⟨rfl, h2⟩ := h.done rfl
  rw [List.take_length] at h2; exact h2

/-- What one rule begins with, by places. -/
def begB (m : ByteArray → Bool) (l : List RuleT) (i j : Nat) : Bool := if h : i < l.length ∧ j < l.length then begM m (l[j]'h.2).name (l[i]'h.1).pat else false
theorem begB_iff (m : ByteArray → Bool) (l : List RuleT) (i j : Nat) : begB m l i j = true ↔ BegI m l i j := by
  unfold begB BegI
  split
  · rename_i h; exact ⟨fun e => ⟨h.1, h.2, e⟩, fun ⟨_, _, e⟩ => e⟩
  · rename_i h; exact ⟨fun e => (by cases e), fun ⟨h1, h2, _⟩ => absurd ⟨h1, h2⟩ h⟩
/-- The square, filled row by row up to place (i, j). -/
def fillT (m : ByteArray → Bool) (l : List RuleT) (i j : Nat) : Nat → Nat → Bool := fun a b => if a < i ∨ (a = i ∧ b < j) then begB m l a b else false
theorem fillT_zero (m : ByteArray → Bool) (l : List RuleT) : fillT m l 0 0 = fun _ _ => false := by funext a b; unfold fillT; rw [if_neg (by omega)]
theorem fillT_set (m : ByteArray → Bool) (l : List RuleT) (i j : Nat) : fillT m l i (j + 1) = setT (fillT m l i j) i j (begB m l i j) := by
  funext a b
  simp only [fillT, setT]
  by_cases h : a = i ∧ b = j
  · rw [if_pos h, if_pos (by omega), h.1, h.2]
  · rw [if_neg h]
    by_cases h2 : a < i ∨ (a = i ∧ b < j)
    · rw [if_pos h2, if_pos (by omega)]
    · rw [if_neg h2, if_neg (by omega)]
theorem fillT_row (m : ByteArray → Bool) (l : List RuleT) (i : Nat) : fillT m l i l.length = fillT m l (i + 1) 0 := by
  funext a b
  unfold fillT
  by_cases h : a < i ∨ (a = i ∧ b < l.length)
  · rw [if_pos h, if_pos (by omega)]
  · rw [if_neg h]
    by_cases h2 : a < i + 1 ∨ (a = i + 1 ∧ b < 0)
    · rw [if_pos h2]
      unfold begB
      rw [dif_neg (by omega)]
    · rw [if_neg h2]
theorem fillT_none (m : ByteArray → Bool) (l : List RuleT) (i b : Nat) : fillT m l i 0 i b = false := by simp only [fillT]; rw [if_neg (by omega)]
theorem begB_in (m : ByteArray → Bool) (l : List RuleT) (i j : Nat) (hi : i < l.length) (hj : j < l.length) : begB m l i j = begM m l[j].name l[i].pat := dif_pos ⟨hi, hj⟩
theorem fillT_full (m : ByteArray → Bool) (l : List RuleT) : War (BegI m l) l.length 0 (fillT m l l.length 0) := by
  refine War.start (fun i j hi hj => ?_) (fun i j h => ?_)
  · unfold fillT; rw [if_pos (by omega), begB_iff]
  · unfold fillT
    split
    · unfold begB; rw [dif_neg h]
    · rfl

/-- A square of truths: rows rb i below k are made, of n cells each. -/
structure Mat (w : World) (O n : Nat) (rb : Nat → Nat) (k : Nat) (T : Nat → Nat → Bool) : Prop where
  outer : ∃ arr : Array Value, w.heap[O]? = some (.cells arr 58 (0, 0)) ∧ arr.size = n ∧ (∀ i, i < k → arr[i]? = some (.slice (some ⟨rb i, 0, none⟩) n n)) ∧ ∀ i, k ≤ i → i < n → arr[i]? = some (.slice none 0 0)
  rows : ∀ i, i < k → ∃ arr : Array Value, w.heap[rb i]? = some (.cells arr 4 (0, 0)) ∧ arr.size = n ∧ ∀ j, j < n → arr[j]? = some (.bool (T i j))
  apart : ∀ i j, i < k → j < k → rb i = rb j → i = j
  above : ∀ i, i < k → O < rb i
section
variable {w w' : World} {O n k i j : Nat} {rb : Nat → Nat} {T : Nat → Nat → Bool}
theorem Mat.ltO (h : Mat w O n rb k T) : O < w.heap.size := by obtain ⟨arr, h, _⟩ := h.outer; exact (Array.getElem?_eq_some_iff.1 h).1
theorem Mat.lt (h : Mat w O n rb k T) (hi : i < k) : rb i < w.heap.size := by obtain ⟨arr, h, _⟩ := h.rows i hi; exact (Array.getElem?_eq_some_iff.1 h).1
theorem Mat.kept {X : Nat → Prop} (h : Mat w O n rb k T) (hk : Kept X w w') (hx : ∀ b, O ≤ b → b < w.heap.size → ¬ X b) : Mat w' O n rb k T := by
  refine ⟨?_, fun i hi => ?_, h.apart, h.above⟩
  · obtain ⟨arr, h1, h2⟩ := h.outer
    exact ⟨arr, (hk.block O h.ltO (hx O (Nat.le_refl _) h.ltO)).trans h1, h2⟩
  · obtain ⟨arr, h1, h2⟩ := h.rows i hi
    exact ⟨arr, (hk.block _ (h.lt hi) (hx _ (Nat.le_of_lt (h.above i hi)) (h.lt hi))).trans h1, h2⟩
theorem Mat.cellO (h : Mat w O n rb k T) (hi : i < k) : w.cell? ⟨O, i, none⟩ = some (.slice (some ⟨rb i, 0, none⟩) n n) := by
  obtain ⟨arr, h1, _, h2, _⟩ := h.outer
  rw [cell_of_row w O i arr _ (0, 0) h1]; exact h2 i hi
theorem Mat.cellN (h : Mat w O n rb k T) (hi : k ≤ i) (hn : i < n) : w.cell? ⟨O, i, none⟩ = some (.slice none 0 0) := by
  obtain ⟨arr, h1, _, _, h2⟩ := h.outer
  rw [cell_of_row w O i arr _ (0, 0) h1]; exact h2 i hi hn
theorem Mat.cell (h : Mat w O n rb k T) (hi : i < k) (hj : j < n) : w.cell? ⟨rb i, j, none⟩ = some (.bool (T i j)) := by
  obtain ⟨arr, h1, _, h2⟩ := h.rows i hi
  rw [cell_of_row w _ j arr _ (0, 0) h1]; exact h2 j hj
theorem Mat.free (h : Mat w O n rb k T) (hi : i < k) (j : Nat) : w.frozen? ⟨rb i, j, none⟩ = false := by
  obtain ⟨arr, h1, _⟩ := h.rows i hi
  simp [World.frozen?, h1]
theorem Mat.freeO (h : Mat w O n rb k T) (j : Nat) : w.frozen? ⟨O, j, none⟩ = false := by
  obtain ⟨arr, h1, _⟩ := h.outer
  simp [World.frozen?, h1]
theorem Mat.set (h : Mat w O n rb k T) (hi : i < k) (hj : j < n) (v : Bool) : Mat (w.setCell ⟨rb i, j, none⟩ (.bool v)) O n rb k (setT T i j v) := by
  obtain ⟨arr, h1, hs, h2⟩ := h.rows i hi
  have hs' := heap_setCell_same w (rb i) j arr _ (.bool v) h1
  refine ⟨?_, fun a ha => ?_, h.apart, h.above⟩
  · obtain ⟨ao, g1, g2⟩ := h.outer
    exact ⟨ao, by rw [heap_setCell_other w ⟨rb i, j, none⟩ O (.bool v) (by have := h.above i hi; show O ≠ rb i; omega)]; exact g1, g2⟩
  · by_cases hai : a = i
    · subst hai
      refine ⟨_, hs', by simp [hs], fun b hb => ?_⟩
      unfold setT
      by_cases hbj : b = j
      · subst hbj
        rw [if_pos ⟨rfl, rfl⟩, Array.getElem?_setIfInBounds_self_of_lt (by omega)]
      · rw [if_neg (fun e => hbj e.2), Array.getElem?_setIfInBounds_ne (Ne.symm hbj)]; exact h2 b hb
    · obtain ⟨aa, g1, g2, g3⟩ := h.rows a ha
      refine ⟨aa, ?_, g2, fun b hb => ?_⟩
      · rw [heap_setCell_other w ⟨rb i, j, none⟩ (rb a) (.bool v) (by show rb a ≠ rb i; intro e; exact hai (h.apart a i ha hi e))]; exact g1
      · unfold setT; rw [if_neg (fun e => hai e.1)]; exact g3 b hb
theorem row_owns {base B : Nat} {e : TypeId} {z : Value} (hz : (madeCells z.cells (n * 1)).toList = List.replicate n z) (h : w.ownsRow base e 1 (.slice (some ⟨B, 0, none⟩) n n) n (madeCells z.cells (n * 1)).toList) :
    ∃ arr : Array Value, w.heap[B]? = some (.cells arr e (0, 0)) ∧ arr.size = n ∧ ∀ i, i < n → arr[i]? = some z := by
  rcases h.2 with ⟨h1, _⟩ | ⟨g, cap, cur, hv, _, hg, _, _, h3, h4⟩
  · simp at h1
  · simp only [Value.slice.injEq, Option.some.injEq, Addr.mk.injEq, and_true, true_and] at hv
    obtain ⟨rfl, rfl⟩ := hv
    refine ⟨cur, hg, by omega, fun i hi => ?_⟩
    rw [hz] at h4
    have h5 := congrArg (·[i]?) h4
    simp only [List.getElem?_take] at h5
    rw [if_pos (by omega), List.getElem?_replicate, if_pos hi] at h5
    simpa using h5
theorem zB (n : Nat) : (madeCells (Value.bool false).cells (n * 1)).toList = List.replicate n (.bool false) := by rw [Nat.mul_one]; exact toList_madeCells_one _ _
theorem zR (n : Nat) : (madeCells (Value.slice none 0 0).cells (n * 1)).toList = List.replicate n (.slice none 0 0) := by rw [Nat.mul_one]; exact toList_madeCells_one _ _
theorem Mat.made {base : Nat} (h : w.ownsRow base 58 1 (.slice (some ⟨O, 0, none⟩) n n) n (madeCells (Value.slice none 0 0).cells (n * 1)).toList) : Mat w O n rb 0 T := by
  obtain ⟨arr, h1, h2, h3⟩ := row_owns (zR n) h
  exact ⟨⟨arr, h1, h2, fun i hi => absurd hi (by omega), fun i _ hi => h3 i hi⟩, fun i hi => absurd hi (by omega), fun i _ hi => absurd hi (by omega), fun i hi => absurd hi (by omega)⟩
theorem Mat.addRow {w5 : World} {base R : Nat} (h : Mat w O n rb i T) (hi : i < n) (hk : Kept Nix w w5) (hR : w5.ownsRow base 4 1 (.slice (some ⟨R, 0, none⟩) n n) n (madeCells (Value.bool false).cells (n * 1)).toList) (hRB : w.heap.size ≤ R) (hT : ∀ b, T i b = false) :
    Mat (w5.setCell ⟨O, i, none⟩ (.slice (some ⟨R, 0, none⟩) n n)) O n (fun a => if a = i then R else rb a) (i + 1) T := by
  have h5 := h.kept hk (fun _ _ _ h => h)
  have hOR : O < R := Nat.lt_of_lt_of_le h.ltO hRB
  refine ⟨?_, fun a ha => ?_, fun a b ha hb => ?_, fun a ha => ?_⟩
  · obtain ⟨arr, h1, hs, h2, h3⟩ := h5.outer
    refine ⟨_, heap_setCell_same w5 O i arr _ _ h1, by simp [hs], fun a ha => ?_, fun a ha han => ?_⟩
    · by_cases hai : a = i
      · subst hai
        rw [if_pos rfl, Array.getElem?_setIfInBounds_self_of_lt (by omega)]
      · rw [if_neg hai, Array.getElem?_setIfInBounds_ne (Ne.symm hai)]; exact h2 a (by omega)
    · rw [Array.getElem?_setIfInBounds_ne (by omega)]; exact h3 a (by omega) han
  · by_cases hai : a = i
    · subst hai
      obtain ⟨arr, h1, h2, h3⟩ := row_owns (zB n) hR
      refine ⟨arr, ?_, h2, fun j hj => by rw [hT]; exact h3 j hj⟩
      rw [if_pos rfl, heap_setCell_other w5 ⟨O, a, none⟩ R _ (by show R ≠ O; omega)]; exact h1
    · obtain ⟨arr, h1, h2, h3⟩ := h5.rows a (by omega)
      refine ⟨arr, ?_, h2, h3⟩
      rw [if_neg hai, heap_setCell_other w5 ⟨O, i, none⟩ (rb a) _ (by have := h.above a (by omega); show rb a ≠ O; omega)]; exact h1
  · have key : ∀ c, c < i + 1 → c ≠ i → rb c < R := fun c hc hci => Nat.lt_of_lt_of_le (h.lt (by omega)) hRB
    by_cases hai : a = i <;> by_cases hbi : b = i
    · intro _; omega
    · rw [if_pos hai, if_neg hbi]; intro e; have := key b hb hbi; omega
    · rw [if_neg hai, if_pos hbi]; intro e; have := key a ha hai; omega
    · rw [if_neg hai, if_neg hbi]; exact h.apart a b (by omega) (by omega)
  · by_cases hai : a = i
    · rw [if_pos hai]; exact hOR
    · rw [if_neg hai]; exact h.above a (by omega)
end
theorem infoBl : (Try.prog.info? 4).map (fun i => (i.zero, i.size, i.bytes)) = some (some (.bool false), 1, 1) := by kernel_rfl
theorem infoRw : (Try.prog.info? 58).map (fun i => (i.zero, i.size, i.bytes)) = some (some (.slice none 0 0), 1, 24) := by kernel_rfl
theorem PutV.low {w : World} {B : Nat} {v : Value} {L : List ByteArray} (h : PutV w (fun b => B ≤ b ∧ b < w.heap.size) v L) : PutV w (fun b => b < w.heap.size) v L := by
  rcases h with h | ⟨h0, b, o, cap, e, h1, h2, hb, hc⟩
  · exact .inl h
  · exact .inr ⟨h0, b, o, cap, e, h1, h2, hb.2, hc⟩
/-- The names that come to themselves, of the first j rules, rising. -/
structure OutR (E : ByteArray → ByteArray → Prop) (l : List RuleT) (j : Nat) (out : List ByteArray) : Prop where
  rise : Rise (out.map bytesOf)
  mem : ∀ n, n ∈ out ↔ ∃ r ∈ l.take j, r.name = n ∧ Pth E n n
section
variable {E : ByteArray → ByteArray → Prop} {l : List RuleT} {j : Nat} {out : List ByteArray}
theorem OutR.start (E : ByteArray → ByteArray → Prop) (l : List RuleT) : OutR E l 0 [] := ⟨by simp [Rise], fun n => by rw [List.take_zero]; simp⟩
theorem OutR.len (h : OutR E l j out) : out.length ≤ l.length := by
  have := nodup_len out (l.map RuleT.name) (rise_nodup h.rise) fun n hn => by
    obtain ⟨r, hr, e, _⟩ := (h.mem n).1 hn
    rw [← e]; exact List.mem_map_of_mem (List.mem_of_mem_take hr)
  rwa [List.length_map] at this
theorem OutR.yes (h : OutR E l j out) (hj : j < l.length) (hp : Pth E l[j].name l[j].name) : OutR E l (j + 1) (putL out l[j].name) := by
  obtain ⟨h1, h2⟩ := putL_law out l[j].name h.rise
  refine ⟨h1, fun n => ?_⟩
  rw [h2, h.mem, List.take_succ_eq_append_getElem hj]
  constructor
  · rintro (⟨r, hr, e, hx⟩ | rfl)
    · exact ⟨r, List.mem_append_left _ hr, e, hx⟩
    · exact ⟨l[j], List.mem_append_right _ (List.mem_singleton.2 rfl), rfl, hp⟩
  · rintro ⟨r, hr, e, hx⟩
    rcases List.mem_append.1 hr with hr | hr
    · exact .inl ⟨r, hr, e, hx⟩
    · rw [List.mem_singleton] at hr; exact .inr (by rw [← e, hr])
theorem OutR.no (h : OutR E l j out) (hj : j < l.length) (hp : ¬ Pth E l[j].name l[j].name) : OutR E l (j + 1) out := by
  refine ⟨h.rise, fun n => ?_⟩
  rw [h.mem, List.take_succ_eq_append_getElem hj]
  constructor
  · rintro ⟨r, hr, e, hx⟩; exact ⟨r, List.mem_append_left _ hr, e, hx⟩
  · rintro ⟨r, hr, e, hx⟩
    rcases List.mem_append.1 hr with hr | hr
    · exact ⟨r, hr, e, hx⟩
    · rw [List.mem_singleton] at hr; subst hr; exact absurd (by rw [e]; exact hx) hp
end
theorem diag_iff {m : ByteArray → Bool} {l : List RuleT} {T : Nat → Nat → Bool} (hn : (l.map RuleT.name).Nodup) (h : War (BegI m l) l.length l.length T) (i : Nat) (hi : i < l.length) : T i i = true ↔ Pth (BegE m l) l[i].name l[i].name :=
  (h.full (fun a b hab => by obtain ⟨ha, _⟩ := hab; exact ha) hi hi).trans (begI_E hn i hi i hi)
end Go.Proofs.Ytdkpdomggbiolaa
