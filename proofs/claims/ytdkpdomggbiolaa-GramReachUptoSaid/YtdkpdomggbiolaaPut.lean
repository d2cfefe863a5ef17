/- The reference of chapter 4: put. -/
import Derived.Test.YtdkpdomggbiolaaWin
import Derived.Test.YtdkpdomggbiolaaNames
namespace Go.Proofs.Ytdkpdomggbiolaa
set_option linter.all false
open Go.RowKit

def ltB (a b : ByteArray) : Bool := Op.bytesLess a.toList b.toList
/-- How many of a list stand ahead of a text. -/
def ahead (l : List ByteArray) (s : ByteArray) : Nat := (l.takeWhile fun x => ltB x s).length
def putL (l : List ByteArray) (s : ByteArray) : List ByteArray := if l[ahead l s]? = some s then l else l.take (ahead l s) ++ s :: l.drop (ahead l s)
theorem ahead_le (l : List ByteArray) (s : ByteArray) : ahead l s ≤ l.length := by unfold ahead; exact (List.takeWhile_sublist _).length_le
theorem ahead_eq (l : List ByteArray) (s : ByteArray) (k : Nat) (hk : k ≤ l.length) (h1 : ∀ i, i < k → ∀ (h : i < l.length), ltB l[i] s = true) (h2 : ∀ (h : k < l.length), ltB l[k] s = false) : ahead l s = k := by
  unfold ahead
  induction l generalizing k with
  | nil => simp at hk; subst hk; rfl
  | cons x r ih =>
    cases k with
    | zero => have := h2 (by simp); rw [List.getElem_cons_zero] at this; rw [List.takeWhile_cons, if_neg (by simp [this])]; rfl
    | succ k =>
      have := h1 0 (by omega) (by simp); rw [List.getElem_cons_zero] at this
      rw [List.takeWhile_cons, if_pos this, List.length_cons, ih k (by simpa using hk)]
      · intro i hi h; have := h1 (i + 1) (by omega) (by simpa using h); simpa using this
      · intro h; have := h2 (by simpa using h); simpa using this

theorem toList_inj {a b : ByteArray} (h : a.toList = b.toList) : a = b := by
  rw [ByteArray.toList_eq, ByteArray.toList_eq] at h
  cases a; cases b; simpa using h
theorem beqB_false {a b : ByteArray} (h : ¬ a = b) : (a.toList == b.toList) = false := by
  rw [Bool.eq_false_iff]; intro e; exact h (toList_inj (by simpa using e))
theorem beqB_true {a b : ByteArray} (h : a = b) : (a.toList == b.toList) = true := by subst h; simp

/-- A list of texts that is nil, or lies in a row. -/
def PutV (w : World) (S : Nat → Prop) (v : Value) (l : List ByteArray) : Prop :=
  (l = [] ∧ v = .slice none 0 0) ∨ (0 < l.length ∧ ∃ b o cap, v = .slice (some ⟨b, o, none⟩) l.length cap ∧ l.length ≤ cap ∧ cap ≤ maxLen ∧ S b ∧ ∀ i (h : i < l.length), w.cell? ⟨b, o + i, none⟩ = some (.string l[i]))
theorem PutV.kept {w w' : World} {S X : Nat → Prop} {v : Value} {l : List ByteArray} (h : PutV w S v l) (hk : Kept X w w') (hs : Safe S X w.heap.size) : PutV w' S v l := by
  rcases h with h | ⟨h0, b, o, cap, e, h1, h2, hb, hc⟩
  · exact .inl h
  · exact .inr ⟨h0, b, o, cap, e, h1, h2, hb, fun i hi => (hk.cell (hs b hb).1 (hs b hb).2).trans (hc i hi)⟩
def PutPost (l : List ByteArray) (B : Nat) (w : World) (e : Ending) (w' : World) : Prop := ∃ v', e = .returned v' ∧ PutV w' (fun b => B ≤ b ∧ b < w'.heap.size) v' l ∧ Kept Nix w w'

/-- append to an own slice of texts, as a step of a region that draws. -/
theorem step_append_strs {ops : Array Oper} {o : Oper} {a : Act} {w : World} {K : Act → World → Prop} {Q : Exit → Act → World → Prop} {E : Prop} (hgd : o.guard = none) (s x : Operand)
    (ho : o.op = .call { callee := .builtin .append, args := #[s, x], argTypes := #[26, 26] })
    (B : Nat) (v : Value) (n : Nat) (xs : List Value) (hs : a.eval s = v) (hown : Win w B 9 1 v n xs) (xv : Value) (m : Nat) (news : List Value) (hx : a.eval x = xv) (hsrc : Src Try.prog 1 26 xv m news w)
    (h63 : n + m ≤ 1000000000) (hbase : B ≤ w.heap.size)
    (h : ∀ a' c' w', Win w' B 9 1 (.slice a' (n + m) c') (n + m) (xs ++ news) → w.grownBy w' v.ownBlock → ((Value.slice a' (n + m) c').ownBlock = v.ownBlock ∨ (Value.slice a' (n + m) c').ownBlock = some w.heap.size) → K (a.put o.dst (.slice a' (n + m) c')) w') :
    if Region.wanted o (yielded ops a.tmps) = true then Oper.wp Try.prog o a w K Q else E := by
  obtain ⟨i0, hi, hz0, hz1, hz2⟩ := info_parts Try.infoS
  exact step_append_win w hgd s x _ _ ho B 9 i0 (.string ⟨#[]⟩) 1 16 Try.underlying26 hi hz0 hz1 hz2 rfl v n xs hs hown xv m news hx hsrc (by unfold maxLen; omega) (by omega) hbase h

theorem Win.empty {w : World} {B g : Nat} {e : TypeId} {size : Nat} (hB : B ≤ g) (h : w.heap[g]? = some (.cells #[] e (0, 0))) : Win w B e size (.slice (some ⟨g, 0, none⟩) 0 0) 0 [] :=
  ⟨by simp, .inr ⟨g, 0, 0, _, rfl, hB, h, Nat.le_refl _, by simp, by simp, by simp⟩⟩
/-- A one-text slice lies at N. -/
def One (N : Nat) (s : ByteArray) (w : World) : Prop := w.heap[N]? = some (.cells #[.string s] 9 (0, 0))
theorem heap_new' {N : Nat} {w : World} {o : Obj} (h : N = w.heap.size) : (w.alloc o).heap[N]? = some o := by subst h; exact heap_alloc_new w _
theorem One.new' {N : Nat} {s : ByteArray} {w : World} (h : N = w.heap.size) : One N s (w.alloc (.cells #[.string s] 9)) := by subst h; exact heap_alloc_new w _
theorem One.alloc {N : Nat} {s : ByteArray} {w : World} (h : One N s w) (o : Obj) : One N s (w.alloc o) := by
  unfold One; rw [Below.heap_alloc _ _ _ (Array.getElem?_eq_some_iff.1 h).1]; exact h
theorem One.src {N : Nat} {s : ByteArray} {w : World} (h : One N s w) : Src Try.prog 1 26 (.slice (some ⟨N, 0, none⟩) 1 1) 1 [.string s] w :=
  Src.ofSlice w Try.underlying26 _ _ _ _ rfl (World.news_of_block h) (by intro u hu; simp at hu; subst hu; rfl)
theorem One.grown {N : Nat} {s : ByteArray} {w w' : World} {row : Option Nat} (h : One N s w) (hg : w.grownBy w' row) (hr : row ≠ some N) : One N s w' := by
  unfold One; rw [hg.block N (Array.getElem?_eq_some_iff.1 h).1 (fun e => hr e.symm)]; exact h
theorem src_part {w : World} {b o : Nat} {l : List ByteArray} (hc : ∀ i (h : i < l.length), w.cell? ⟨b, o + i, none⟩ = some (.string l[i])) (c : Nat) :
    Src Try.prog 1 26 (.slice (some ⟨b, o, none⟩) l.length c) l.length (l.map Value.string) w := by
  refine Src.ofSlice w Try.underlying26 _ _ _ _ (by simp) (fun j u hu => ?_) (by intro u hu; simp at hu; obtain ⟨_, _, rfl⟩ := hu; rfl)
  have e1 : (⟨b, o, none⟩ : Addr).add j = ⟨b, o + j, none⟩ := by unfold Addr.add; split <;> simp_all
  rw [List.getElem?_map] at hu
  cases hj : l[j]? with
  | none => rw [hj] at hu; simp at hu
  | some x =>
    obtain ⟨h, rfl⟩ := List.getElem?_eq_some_iff.1 hj
    rw [hj] at hu; simp at hu; subst hu; rw [e1]; exact hc j h

theorem Win.putv {w : World} {B B' : Nat} {v : Value} {l : List ByteArray} (h : Win w B 9 1 v l.length (l.map Value.string)) (hB : B' ≤ B) (h0 : 0 < l.length) : PutV w (fun b => B' ≤ b ∧ b < w.heap.size) v l := by
  rcases h.cells with ⟨_, hn⟩ | ⟨g, o, cap, hv, hb, hg, h1, h2, hc⟩
  · omega
  · exact .inr ⟨h0, g, o, cap, hv, h1, h2, ⟨by omega, hg⟩, fun i hi => (hc i _ (by simp [hi])).1⟩
theorem put_fin {l l' : List ByteArray} {s : ByteArray} {B k : Nat} {w w4 : World} {a3 : Option Addr} {c3 : Nat} (hB : B ≤ w.heap.size) (e : l' = l.take k ++ s :: l.drop k) (hk : k ≤ l.length)
    (h1 : Win w4 w.heap.size 9 1 (.slice a3 (k + 1 + (l.length - k)) c3) (k + 1 + (l.length - k)) ((l.take k).map Value.string ++ [.string s] ++ (l.drop k).map Value.string)) (h2 : Kept Nix w w4) :
    PutPost l' B w (.returned (.slice a3 (k + 1 + (l.length - k)) c3)) w4 := by
  subst e
  have hl : (l.take k ++ s :: l.drop k).length = k + 1 + (l.length - k) := by simp; omega
  have hm : (l.take k).map Value.string ++ [.string s] ++ (l.drop k).map Value.string = (l.take k ++ s :: l.drop k).map Value.string := by simp
  rw [hm, ← hl] at h1
  rw [← hl]
  exact ⟨_, rfl, h1.putv hB (by rw [hl]; omega), h2⟩

end Go.Proofs.Ytdkpdomggbiolaa
