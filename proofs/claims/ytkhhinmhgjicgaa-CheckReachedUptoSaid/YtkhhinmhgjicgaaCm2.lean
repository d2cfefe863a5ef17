/- What a run may come to: the least set; the program's list of what is to do (pure). Reached: a row of booleans; what both answers say (plain). The document's Reached: to where a statement leads; the same as the program's, of a right program (plain). The document's After: to which statement a name leads. -/
import Derived.Test.YtkhhinmhgjicgaaNx
import Derived.Test.YtkhhinmhgjicgaaNms
import Derived.OwnWalk
namespace Go.Proofs.Ytkhhinmhgjicgaa
set_option linter.all false
open Go.RowKit

def entryAt (l : List StT) (d : Int) : ByteArray := match l[d.toNat]? with | some t => t.entry | none => ⟨#[]⟩
/-- Where a function of this name begins. -/
def callT (l : List StT) (n : ByteArray) : Int := (labM l (entryAt l ((funM l n).getD 0))).getD 0
def namesS (s : StT) : List ByteArray := namesL (exprsS s)
def goP (l : List StT) (i : Nat) (s : StT) : List Int := sortI (nextL (labM l) l.length i s) ++ (namesS s).map (callT l)
inductive Rch (l : List StT) : Nat → Prop
  | zero : 0 < l.length → Rch l 0
  | step (i k : Nat) (h : i < l.length) : Rch l i → ((k : Nat) : Int) ∈ goP l i l[i] → k < l.length → Rch l k
theorem labelGo_range (n : ByteArray) : ∀ (l : List StT) (i : Nat), labelGo n i l = -1 ∨ ∃ k : Nat, labelGo n i l = ((i + k : Nat) : Int) ∧ k < l.length
  | [], i => .inl rfl
  | s :: r, i => by
    rw [labelGo]
    split
    · exact .inr ⟨0, rfl, by simp⟩
    · rcases labelGo_range n r (i + 1) with h | ⟨k, h, hk⟩
      · exact .inl h
      · exact .inr ⟨k + 1, by rw [h]; omega, by simp; omega⟩
theorem funcGo_range (n : ByteArray) : ∀ (l : List StT) (i : Nat), funcGo n i l = -1 ∨ ∃ k : Nat, funcGo n i l = ((i + k : Nat) : Int) ∧ k < l.length
  | [], i => .inl rfl
  | s :: r, i => by
    rw [funcGo]
    split
    · exact .inr ⟨0, rfl, by simp⟩
    · rcases funcGo_range n r (i + 1) with h | ⟨k, h, hk⟩
      · exact .inl h
      · exact .inr ⟨k + 1, by rw [h]; omega, by simp; omega⟩
theorem labM_range (l : List StT) (n : ByteArray) : labM l n = none ∨ ∃ k : Nat, labM l n = some (k : Int) ∧ k < l.length := by
  unfold labM labelF
  rcases labelGo_range n l 0 with h | ⟨k, h, hk⟩
  · rw [h]; exact .inl rfl
  · rw [h]; exact .inr ⟨k, by rw [if_neg (by omega), Nat.zero_add], hk⟩
theorem funM_range (l : List StT) (n : ByteArray) : funM l n = none ∨ ∃ k : Nat, funM l n = some (k : Int) ∧ k < l.length := by
  unfold funM funcF
  rcases funcGo_range n l 0 with h | ⟨k, h, hk⟩
  · rw [h]; exact .inl rfl
  · rw [h]; exact .inr ⟨k, by rw [if_neg (by omega), Nat.zero_add], hk⟩
theorem labM_nat (l : List StT) (n : ByteArray) : ∃ k : Nat, (labM l n).getD 0 = (k : Int) := by
  rcases labM_range l n with h | ⟨k, h, _⟩
  · exact ⟨0, by rw [h]; rfl⟩
  · exact ⟨k, by rw [h]; rfl⟩
theorem putF_nat (l : List StT) (j : Nat) (n : ByteArray) {k : Int} (h : putF (labM l) l.length j n = some k) : 0 ≤ k := by
  unfold putF at h
  split at h
  · cases h; omega
  · split at h
    · cases h
    · split at h
      · cases h; obtain ⟨d, hd⟩ := labM_nat l n; rw [hd]; omega
      · cases h; omega
theorem addK_mem (xs : List Int) (k : Option Int) (x : Int) : x ∈ addK xs k ↔ x ∈ xs ∨ k = some x := by
  unfold addK
  cases k with
  | none => simp
  | some k =>
    by_cases h : xs.contains k = true
    · simp only [h, if_true, Option.some.injEq]
      exact ⟨.inl, fun e => e.elim id (fun e => by subst e; simpa using h)⟩
    · simp only [h, Option.some.injEq]
      simp [eq_comm]
theorem nextL_nat (l : List StT) (j : Nat) (s : StT) {k : Int} (h : k ∈ nextL (labM l) l.length j s) : 0 ≤ k := by
  unfold nextL at h
  split at h
  · rcases (addK_mem _ _ _).1 h with h | h
    · cases h
    · exact putF_nat l j _ h
  · split at h
    · rcases (addK_mem _ _ _).1 h with h | h
      · rcases (addK_mem _ _ _).1 h with h | h
        · cases h
        · exact putF_nat l j _ h
      · exact putF_nat l j _ h
    · rcases (addK_mem _ _ _).1 h with h | h
      · cases h
      · exact putF_nat l j _ h
theorem goP_nat (l : List StT) (j : Nat) (s : StT) {k : Int} (h : k ∈ goP l j s) : 0 ≤ k := by
  rcases List.mem_append.1 h with h | h
  · exact nextL_nat l j s ((sortI_mem _ _).1 h)
  · obtain ⟨n, _, rfl⟩ := List.mem_map.1 h
    obtain ⟨d, hd⟩ := labM_nat l (entryAt l ((funM l n).getD 0))
    unfold callT; rw [hd]; omega
def maxGo : Nat := 2097160
theorem nextL_len (m : ByteArray → Option Int) (len j : Nat) (s : StT) : (nextL m len j s).length ≤ 2 := by
  have h1 := addK_len [] (putF m len j s.always)
  have h2 := addK_len [] (putF m len j s.yes)
  have h3 := addK_len (addK [] (putF m len j s.yes)) (putF m len j s.noes)
  simp only [List.length_nil] at h1 h2 h3
  unfold nextL; split
  · omega
  · split <;> omega
theorem namesS_len (s : StT) (hz : StSz s) : (namesS s).length ≤ 2097152 := by
  unfold namesS exprsS
  have h1 := namesT_len s.value; have h2 := namesT_len s.target
  have h3 := hz.value.t; have h4 := hz.target.t
  split
  · simp only [namesL, List.append_nil]; omega
  · split
    · simp only [namesL, List.append_nil, List.length_append]; omega
    · simp [namesL]
theorem goP_len (l : List StT) (j : Nat) (s : StT) (hz : StSz s) : (goP l j s).length ≤ 2097154 := by
  unfold goP
  have h1 := nextL_len (labM l) l.length j s
  have h2 := namesS_len s hz
  rw [List.length_append, sortI_len, List.length_map]; omega

/-- What is known of the statements come to (o) and what is to do (xs). -/
structure Todo (l : List StT) (o : Nat → Bool) (xs : List Int) : Prop where
  rch : ∀ i, o i = true → i < l.length ∧ Rch l i
  nat : ∀ k ∈ xs, 0 ≤ k
  new : ∀ k : Nat, (k : Int) ∈ xs → k < l.length → Rch l k
  zero : 0 < l.length → o 0 = true ∨ (0 : Int) ∈ xs
  next : ∀ i (h : i < l.length), o i = true → ∀ k : Nat, (k : Int) ∈ goP l i l[i] → k < l.length → o k = true ∨ (k : Int) ∈ xs
theorem Todo.start (l : List StT) : Todo l (fun _ => false) [0] :=
  ⟨fun _ h => (by cases h), fun k hk => by obtain rfl := List.mem_singleton.1 hk; omega, fun k hk h => by
    have := List.mem_singleton.1 hk; obtain rfl : k = 0 := by omega
    exact .zero h, fun _ => .inr (List.mem_singleton.2 rfl), fun _ _ h => (by cases h)⟩
theorem Todo.skip {l : List StT} {o : Nat → Bool} {k : Nat} {xs : List Int} (h : Todo l o ((k : Int) :: xs)) (hk : l.length ≤ k ∨ o k = true) : Todo l o xs := by
  refine ⟨h.rch, fun x hx => h.nat x (List.mem_cons_of_mem _ hx), fun x hx => h.new x (List.mem_cons_of_mem _ hx), fun h0 => ?_, fun i hi ho x hx hxl => ?_⟩
  · rcases h.zero h0 with h1 | h1
    · exact .inl h1
    · rcases List.mem_cons.1 h1 with h1 | h1
      · obtain rfl : k = 0 := by omega
        rcases hk with hk | hk
        · omega
        · exact .inl hk
      · exact .inr h1
  · rcases h.next i hi ho x hx hxl with h1 | h1
    · exact .inl h1
    · rcases List.mem_cons.1 h1 with h1 | h1
      · obtain rfl : x = k := by omega
        rcases hk with hk | hk
        · omega
        · exact .inl hk
      · exact .inr h1
def setO (o : Nat → Bool) (k : Nat) : Nat → Bool := fun i => if i = k then true else o i
theorem Todo.visit {l : List StT} {o : Nat → Bool} {k : Nat} {xs : List Int} (h : Todo l o ((k : Int) :: xs)) (hk : k < l.length) : Todo l (setO o k) (xs ++ goP l k l[k]) := by
  have hr : Rch l k := h.new k (List.mem_cons_self ..) hk
  refine ⟨fun i hi => ?_, fun x hx => ?_, fun x hx hxl => ?_, fun h0 => ?_, fun i hi ho x hx hxl => ?_⟩
  · unfold setO at hi
    split at hi
    · subst i; exact ⟨hk, hr⟩
    · exact h.rch i hi
  · rcases List.mem_append.1 hx with hx | hx
    · exact h.nat x (List.mem_cons_of_mem _ hx)
    · exact goP_nat l k _ hx
  · rcases List.mem_append.1 hx with hx | hx
    · exact h.new x (List.mem_cons_of_mem _ hx) hxl
    · exact .step k x hk hr hx hxl
  · unfold setO
    by_cases he : 0 = k
    · exact .inl (if_pos he)
    · rw [if_neg he]
      rcases h.zero h0 with h1 | h1
      · exact .inl h1
      · rcases List.mem_cons.1 h1 with h1 | h1
        · omega
        · exact .inr (List.mem_append_left _ h1)
  · by_cases hxk : x = k
    · subst x; exact .inl (if_pos rfl)
    · unfold setO at ho ⊢
      rw [if_neg hxk]
      split at ho
      · subst i; exact .inr (List.mem_append_right _ hx)
      · rcases h.next i hi ho x hx hxl with h1 | h1
        · exact .inl h1
        · rcases List.mem_cons.1 h1 with h1 | h1
          · omega
          · exact .inr (List.mem_append_left _ h1)
theorem Todo.done {l : List StT} {o : Nat → Bool} (h : Todo l o []) : ∀ i, o i = true ↔ Rch l i := by
  intro i
  refine ⟨fun hi => (h.rch i hi).2, fun hr => ?_⟩
  induction hr with
  | zero h0 => rcases h.zero h0 with h1 | h1
               · exact h1
               · cases h1
  | step i k hi _ hk hkl ih => rcases h.next i hi ih k hk hkl with h1 | h1
                               · exact h1
                               · cases h1
/-- How many are not come to yet. -/
def freshN (o : Nat → Bool) : Nat → Nat
  | 0 => 0
  | n + 1 => freshN o n + if o n = true then 0 else 1
theorem freshN_le (o : Nat → Bool) : ∀ n, freshN o n ≤ n
  | 0 => Nat.le_refl _
  | n + 1 => by have := freshN_le o n; rw [freshN]; split <;> omega
theorem freshN_far (o : Nat → Bool) (k : Nat) : ∀ n, n ≤ k → freshN (setO o k) n = freshN o n
  | 0, _ => rfl
  | n + 1, h => by rw [freshN, freshN, freshN_far o k n (by omega), show setO o k n = o n from if_neg (by omega)]
theorem freshN_set (o : Nat → Bool) (k : Nat) (hk : o k = false) : ∀ n, k < n → freshN (setO o k) n + 1 = freshN o n
  | 0, h => by omega
  | n + 1, h => by
    rw [freshN, freshN]
    by_cases he : n = k
    · subst he
      rw [freshN_far o n n (Nat.le_refl _), show setO o n n = true from if_pos rfl, hk]; simp
    · have := freshN_set o k hk n (by omega)
      rw [show setO o k n = o n from if_neg he]; omega
end Go.Proofs.Ytkhhinmhgjicgaa

namespace Go.Proofs.Ytkhhinmhgjicgaa
set_option linter.all false
open Go.RowKit Go.Maps Go.WideMaps

/-- The first n cells of block B are the booleans o. -/
def BRow (w : World) (B n : Nat) (o : Nat → Bool) : Prop :=
  (∃ arr : Array Value, w.heap[B]? = some (.cells arr 4 (0, 0)) ∧ ∀ i, i < n → arr[i]? = some (.bool (o i))) ∧ ∀ i, n ≤ i → o i = false
section
variable {w w' : World} {B n k : Nat} {o : Nat → Bool}
theorem BRow.lt (h : BRow w B n o) : B < w.heap.size := by obtain ⟨⟨arr, h, _⟩, _⟩ := h; exact (Array.getElem?_eq_some_iff.1 h).1
theorem BRow.kept {X : Nat → Prop} (h : BRow w B n o) (hk : Kept X w w') (hx : ¬ X B) : BRow w' B n o := by
  have hlt := h.lt
  obtain ⟨⟨arr, h1, h2⟩, h3⟩ := h
  exact ⟨⟨arr, (hk.block B hlt hx).trans h1, h2⟩, h3⟩
theorem BRow.cell (h : BRow w B n o) (hk : k < n) : w.cell? ⟨B, k, none⟩ = some (.bool (o k)) := by
  obtain ⟨⟨arr, h1, h2⟩, _⟩ := h
  rw [cell_of_row w B k arr _ (0, 0) h1]; exact h2 k hk
theorem BRow.free (h : BRow w B n o) (k : Nat) : w.frozen? ⟨B, k, none⟩ = false := by
  obtain ⟨⟨arr, h1, h2⟩, _⟩ := h
  simp [World.frozen?, h1]
theorem BRow.set (h : BRow w B n o) (hk : k < n) : BRow (w.setCell ⟨B, k, none⟩ (.bool true)) B n (setO o k) := by
  obtain ⟨⟨arr, h1, h2⟩, h3⟩ := h
  refine ⟨⟨arr.setIfInBounds k (.bool true), heap_setCell_same w B k arr _ _ h1, fun i hi => ?_⟩, fun i hi => ?_⟩
  · unfold setO
    by_cases he : i = k
    · subst he
      have hlt := (Array.getElem?_eq_some_iff.1 (h2 i hi)).1
      rw [if_pos rfl, Array.getElem?_setIfInBounds_self_of_lt hlt]
    · rw [if_neg he, Array.getElem?_setIfInBounds_ne (Ne.symm he)]; exact h2 i hi
  · unfold setO; rw [if_neg (by omega)]; exact h3 i hi
theorem BRow.ofOwns {base : Nat} (h : w.ownsRow base 4 1 (.slice (some ⟨B, 0, none⟩) n n) n (madeCells (Value.bool false).cells (n * 1)).toList) : BRow w B n (fun _ => false) := by
  rcases h.2 with ⟨h1, _⟩ | ⟨g, cap, cur, hv, _, hg, _, _, _, h4⟩
  · simp at h1
  · simp only [Value.slice.injEq, Option.some.injEq, Addr.mk.injEq, and_true, true_and] at hv
    obtain ⟨rfl, rfl⟩ := hv
    refine ⟨⟨cur, hg, fun i hi => ?_⟩, fun _ _ => rfl⟩
    have e : (madeCells (Value.bool false).cells (n * 1)).toList = List.replicate n (.bool false) := by rw [Nat.mul_one]; exact toList_madeCells_one _ _
    rw [e] at h4
    have h5 := congrArg (·[i]?) h4
    simp only [List.getElem?_take] at h5
    rw [if_pos (by omega), List.getElem?_replicate, if_pos hi] at h5
    simpa using h5
end
theorem infoBool : (Try.prog.info? 4).map (fun i => (i.zero, i.size, i.bytes)) = some (some (.bool false), 1, 1) := by kernel_rfl
theorem wrGo_some : ∀ (l : List StT) (i : Nat) {e : Int} {j : Nat}, wrGo i l = some (e, j) → e ≠ 0
  | [], _, _, _, h => by cases h
  | s :: r, i, e, j, h => by
    rw [wrGo] at h
    split at h
    · exact wrGo_some r _ h
    · rename_i hn; simp only [Option.some.injEq, Prod.mk.injEq] at h; rw [← h.1]; exact hn
theorem nmGo_some (l : List StT) : ∀ (q : List StT) (i : Nat) {e : Int} {j : Nat}, nmGo l i q = some (e, j) → e ≠ 0
  | [], _, _, _, h => by cases h
  | s :: r, i, e, j, h => by
    rw [nmGo] at h
    split at h
    · exact nmGo_some l r _ h
    · simp only [Option.some.injEq, Prod.mk.injEq] at h; rw [← h.1]; decide
theorem usGo_some (l : List StT) : ∀ (q : List StT) (i : Nat) {e : Int} {j : Nat}, usGo l i q = some (e, j) → e ≠ 0
  | [], _, _, _, h => by cases h
  | s :: r, i, e, j, h => by
    rw [usGo] at h
    split at h
    · exact usGo_some l r _ h
    · rename_i hn; simp only [Option.some.injEq, Prod.mk.injEq] at h; rw [← h.1]; exact hn
/-- Of a right program all that is asked holds. -/
theorem check_right {l : List StT} (h : (checkF l).1 = 0) : ¬ 1000 < l.length ∧ wrGo 0 l = none ∧ nmGo l 0 l = none ∧ usGo l 0 l = none := by
  have h1 : ¬ 1000 < l.length := fun hb => by rw [check_big hb] at h; cases h
  refine ⟨h1, ?_⟩
  cases h2 : wrGo 0 l with
  | some r => rw [check_wr h1 h2] at h; exact absurd h (wrGo_some l 0 (show wrGo 0 l = some (r.1, r.2) from h2))
  | none =>
    cases h3 : nmGo l 0 l with
    | some r => rw [check_nm h1 h2 h3] at h; exact absurd h (nmGo_some l l 0 (show nmGo l 0 l = some (r.1, r.2) from h3))
    | none =>
      cases h4 : usGo l 0 l with
      | some r => rw [check_us h1 h2 h3 h4] at h; exact absurd h (usGo_some l l 0 (show usGo l 0 l = some (r.1, r.2) from h4))
      | none => exact ⟨rfl, rfl, rfl⟩
theorem check_zero {l : List StT} (h : (checkF l).1 = 0) : checkF l = (0, 0) := by
  obtain ⟨h1, h2, h3, h4⟩ := check_right h
  exact check_ok h1 h2 h3 h4
/-- What Reached answers. -/
def ReachQ (l : List StT) (w : World) (e : Ending) (w' : World) : Prop :=
  Kept Nix w w' ∧ ((checkF l).1 ≠ 0 → e = .returned (.tuple #[.slice none 0 0, .agg #[.int .i64 (checkF l).1, .int .i64 ((checkF l).2 : Int)]])) ∧
  ((checkF l).1 = 0 → ∃ B o, e = .returned (.tuple #[.slice (some ⟨B, 0, none⟩) l.length l.length, .agg #[.int .i64 0, .int .i64 0]]) ∧ BRow w' B l.length o ∧ (∀ i, o i = true ↔ Rch l i) ∧ w.heap.size ≤ B)
theorem ret_reach {f : Func} {tmps : Array Value} {l : List StT} {w w2 : World} {F : Nat} {sa : Option Addr} {sn sc : Nat} {a b : Int} (hres : f.results = #[.tmp 2, .cell 3 25]) (h2 : tmps.getD 2 undef = .slice sa sn sc) (h3 : tmps.getD 3 undef = .pointer (some ⟨F, 0, none⟩)) (hF : Fl F a b w2)
    (K : Kept Nix w w2) (hn : (checkF l).1 ≠ 0 → sa = none ∧ sn = 0 ∧ sc = 0 ∧ a = (checkF l).1 ∧ b = ((checkF l).2 : Int))
    (hp : (checkF l).1 = 0 → a = 0 ∧ b = 0 ∧ ∃ B o, sa = some ⟨B, 0, none⟩ ∧ sn = l.length ∧ sc = l.length ∧ BRow w2 B l.length o ∧ (∀ i, o i = true ↔ Rch l i) ∧ w.heap.size ≤ B) : bodyPost Try.prog f (ReachQ l w) .ret ⟨tmps, []⟩ w2 := by
  obtain ⟨h0, h1, _, _⟩ := hF.cells
  have ht2 : tmps[2]?.getD undef = .slice sa sn sc := by rw [← h2, Array.getD_eq_getD_getElem?]
  have ht3 : tmps[3]?.getD undef = .pointer (some ⟨F, 0, none⟩) := by rw [← h3, Array.getD_eq_getD_getElem?]
  refine bodyPost_ret (v := .tuple #[.slice sa sn sc, .agg #[.int .i64 a, .int .i64 b]]) (by simp [results, hres, go_sem, ht2, ht3, h0, h1]) rfl ⟨K, fun h => ?_, fun h => ?_⟩
  · obtain ⟨rfl, rfl, rfl, rfl, rfl⟩ := hn h; rfl
  · obtain ⟨rfl, rfl, B, o, rfl, rfl, rfl, h1, h2, h3⟩ := hp h; exact ⟨B, o, rfl, h1, h2, h3⟩
theorem MapF.look {w : World} {B n : Nat} {m : ByteArray → Option Int} (h : MapF w B n m) (s : ByteArray) (hs : s.size ≤ maxLen) :
    (Instr.lookup 58 (.map (some B)) (.string s) false).run Try.prog w = .ok (.int .i64 ((m s).getD 0)) w := by
  obtain ⟨D, hown, hmap, hD⟩ := h
  obtain ⟨c, hrun, hat, _⟩ := hown.lookup_int mapLaw Try.underlying58 Try.underlying3 (zeroInt w) (keyOf_string_mk Try.underlying9 hs)
  obtain ⟨h1, h2⟩ := hD s
  rw [h2] at hat
  rw [hrun]
  cases hms : m s with
  | none => rw [hms] at hat; simp only [DataW.lit.injEq, Lit.int.injEq, true_and] at hat; subst hat; rfl
  | some d => rw [hms] at hat; simp only [DataW.lit.injEq, Lit.int.injEq, true_and] at hat; subst hat; rfl
/-- The blocks that a list in hand may write. -/
def XV (v : Value) (N b : Nat) : Prop := v.ownBlock = some b ∨ N ≤ b
def StepI (Bs Np : Nat) (v0 : Value) (wp : World) (xs : List Int) (v : Value) (wr : World) : Prop :=
  ∃ (a : Option Addr) (c : Nat), v = .slice a xs.length c ∧ Win wr Bs 3 1 v xs.length (xs.map intV) ∧ (∀ k, v.ownBlock = some k → XV v0 Np k) ∧ Kept (XV v0 Np) wp wr
theorem StepI.start {Bs Np : Nat} {wp : World} {xs : List Int} {a : Option Addr} {c : Nat} (h : Win wp Bs 3 1 (.slice a xs.length c) xs.length (xs.map intV)) : StepI Bs Np (.slice a xs.length c) wp xs (.slice a xs.length c) wp :=
  ⟨a, c, rfl, h, fun _ hk => .inl hk, Kept.refl _ _⟩
/-- One more number behind it. -/
theorem StepI.push {Bs Np : Nat} {v0 : Value} {wp wr w' : World} {xs : List Int} {v : Value} {x : Int} {a' : Option Addr} {c' : Nat} (h : StepI Bs Np v0 wp xs v wr) (hNp : Np ≤ wr.heap.size) (hW : Win w' Bs 3 1 (.slice a' (xs.length + 1) c') (xs.length + 1) (xs.map intV ++ [intV x])) (hk : Kept (fun b => v.ownBlock = some b ∨ wr.heap.size ≤ b) wr w')
    (ho : ∀ k, (Value.slice a' (xs.length + 1) c').ownBlock = some k → v.ownBlock = some k ∨ wr.heap.size ≤ k) : StepI Bs Np v0 wp (xs ++ [x]) (.slice a' (xs.length + 1) c') w' := by
  obtain ⟨a, c, _, _, h3, h4⟩ := h
  refine ⟨a', c', by simp, by simpa using hW, fun k hk => ?_, h4.trans (hk.more fun b hb => ?_)⟩
  · rcases ho k hk with h | h
    · exact h3 k h
    · exact .inr (Nat.le_trans hNp h)
  · rcases hb with h | h
    · exact h3 b h
    · exact .inr (Nat.le_trans hNp h)
theorem StepI.app {Bs Np : Nat} {v0 : Value} {wp wr w1 w' : World} {xs : List Int} {v : Value} {x : Int} {a' : Option Addr} {c' : Nat} (h : StepI Bs Np v0 wp xs v wr) (hNp : Np ≤ wr.heap.size) (k1 : Kept Nix wr w1) (hW : Win w' Bs 3 1 (.slice a' (xs.length + 1) c') (xs.length + 1) (xs.map intV ++ [intV x])) (hg : w1.grownBy w' v.ownBlock)
    (ho : (Value.slice a' (xs.length + 1) c').ownBlock = v.ownBlock ∨ (Value.slice a' (xs.length + 1) c').ownBlock = some w1.heap.size) : StepI Bs Np v0 wp (xs ++ [x]) (.slice a' (xs.length + 1) c') w' := by
  refine h.push hNp hW ((k1.more (fun _ h => h.elim)).grown hg fun k hk => .inl (.inl hk)) fun k hk => ?_
  rcases ho with h | h
  · exact .inl (by rw [← h]; exact hk)
  · rw [h] at hk; cases hk; exact .inr k1.size
/-- A stretch of work within another one. -/
theorem StepI.trans {Bs N1 N2 : Nat} {v0 v1 v2 : Value} {w0 w1 w1' w2 : World} {xs ys : List Int} (h : StepI Bs N1 v0 w0 xs v1 w1) (hk : Kept Nix w1 w1') (hN : N1 ≤ N2) (h2 : StepI Bs N2 v1 w1' ys v2 w2) : StepI Bs N1 v0 w0 ys v2 w2 := by
  obtain ⟨a, c, _, _, h3, h4⟩ := h
  obtain ⟨a', c', e', hW, h5, h6⟩ := h2
  have key : ∀ b, XV v1 N2 b → XV v0 N1 b := fun b hb => hb.elim (fun h => h3 b h) (fun h => .inr (Nat.le_trans hN h))
  exact ⟨a', c', e', hW, fun k hk => key k (h5 k hk), (h4.quiet hk).trans (h6.more key)⟩
theorem int_src {w : World} {g : Nat} {k : Int} (hg : w.heap[g]? = some (.cells #[.int .i64 k] 3 (0, 0))) : Src Try.prog 1 50 (.slice (some ⟨g, 0, none⟩) 1 1) 1 [.int .i64 k] w :=
  Src.ofSlice w Try.underlying50 _ _ _ _ rfl (World.news_of_block hg) (by intro u hu; simp at hu; subst hu; rfl)
theorem step_append_ints {ops : Array Oper} {o : Oper} {a : Act} {w : World} {K : Act → World → Prop} {Q : Exit → Act → World → Prop} {E : Prop} (hgd : o.guard = none) (s x : Operand)
    (ho : o.op = .call { callee := .builtin .append, args := #[s, x], argTypes := #[50, 50] })
    (B : Nat) (v : Value) (n : Nat) (xs : List Value) (hs : a.eval s = v) (hown : Win w B 3 1 v n xs) (xv : Value) (m : Nat) (news : List Value) (hx : a.eval x = xv) (hsrc : Src Try.prog 1 50 xv m news w)
    (h63 : n + m ≤ 4000000000) (hbase : B ≤ w.heap.size)
    (h : ∀ a' c' w', Win w' B 3 1 (.slice a' (n + m) c') (n + m) (xs ++ news) → w.grownBy w' v.ownBlock → ((Value.slice a' (n + m) c').ownBlock = v.ownBlock ∨ (Value.slice a' (n + m) c').ownBlock = some w.heap.size) → K (a.put o.dst (.slice a' (n + m) c')) w') :
    if Region.wanted o (yielded ops a.tmps) = true then Oper.wp Try.prog o a w K Q else E := by
  obtain ⟨i0, hi, hz0, hz1, hz2⟩ := info_parts infoInt
  exact step_append_win w hgd s x _ _ ho B 3 i0 (.int .i64 0) 1 8 Try.underlying50 hi hz0 hz1 hz2 rfl v n xs hs hown xv m news hx hsrc (by unfold maxLen; omega) (by omega) hbase h
theorem wpList_append_ints {ops : Array Oper} {rest : List Oper} {o : Oper} {a : Act} {w : World} {Q : Exit → Act → World → Prop} (hgd : o.guard = none) (s x : Operand)
    (ho : o.op = .call { callee := .builtin .append, args := #[s, x], argTypes := #[50, 50] })
    (B : Nat) (v : Value) (n : Nat) (xs : List Value) (hs : a.eval s = v) (hown : Win w B 3 1 v n xs) (xv : Value) (m : Nat) (news : List Value) (hx : a.eval x = xv) (hsrc : Src Try.prog 1 50 xv m news w)
    (h63 : n + m ≤ 4000000000) (hbase : B ≤ w.heap.size)
    (h : ∀ a' c' w', Win w' B 3 1 (.slice a' (n + m) c') (n + m) (xs ++ news) → w.grownBy w' v.ownBlock → ((Value.slice a' (n + m) c').ownBlock = v.ownBlock ∨ (Value.slice a' (n + m) c').ownBlock = some w.heap.size) → wpList Try.prog ops Q rest (a.put o.dst (.slice a' (n + m) c')) w') :
    wpList Try.prog ops Q (o :: rest) a w := by
  obtain ⟨i0, hi, hz0, hz1, hz2⟩ := info_parts infoInt
  exact wpList_append_win w hgd s x _ _ ho B 3 i0 (.int .i64 0) 1 8 Try.underlying50 hi hz0 hz1 hz2 rfl v n xs hs hown xv m news hx hsrc (by unfold maxLen; omega) (by omega) hbase h
theorem freshN_none : ∀ n, freshN (fun _ => false) n = n
  | 0 => rfl
  | n + 1 => by rw [freshN, freshN_none n]; rfl
theorem Win.head {w : World} {B n : Nat} {e : TypeId} {v : Value} {x : Value} {xs : List Value} (h : Win w B e 1 v (n + 1) (x :: xs)) : ∃ g o c, v = .slice (some ⟨g, o, none⟩) (n + 1) c ∧ B ≤ g ∧ g < w.heap.size ∧ c ≤ maxLen ∧ n + 1 ≤ c ∧ w.cell? ⟨g, o, none⟩ = some x ∧
    Win w B e 1 (.slice (if c = 1 then some ⟨g, o, none⟩ else some ⟨g, o + 1, none⟩) n (c - 1)) n xs := by
  rcases h.cells with ⟨_, h0⟩ | ⟨g, o, c, rfl, h1, h2, h3, h4, h5⟩
  · omega
  · exact ⟨g, o, c, rfl, h1, h2, h4, h3, (h5 0 x rfl).1, Win.tail (ys := [x]) h rfl⟩
mutual
theorem names_size {w : World} {S : Nat → Prop} : ∀ (x : PatT) (b o : Nat), PatAt w S b o x → ∀ n ∈ namesT x, n.size < 1000000000
  | .mk k t n nm kids, b, o, h => by
    unfold PatAt at h
    obtain ⟨_, ⟨_, hn, _⟩, _, _, _, _, ka, cap, _, hk⟩ := h
    intro y hy
    rw [namesT] at hy
    rcases List.mem_append.1 hy with hy | hy
    · split at hy
      · obtain rfl := List.mem_singleton.1 hy; exact hn
      · cases hy
    · exact names_sizes kids ka hk y hy
theorem names_sizes {w : World} {S : Nat → Prop} : ∀ (q : List PatT) (ka : Option Addr), PatsAt w S ka q → ∀ n ∈ namesL q, n.size < 1000000000
  | [], _, _ => by intro n hn; rw [namesL] at hn; cases hn
  | x :: q, ka, h => by
    unfold PatsAt at h
    obtain ⟨b, o, _, h1, h2⟩ := h
    intro n hn
    rw [namesL] at hn
    rcases List.mem_append.1 hn with hn | hn
    · exact names_size x b o h1 n hn
    · exact names_sizes q _ h2 n hn
end
/-- A statement's expressions, where it lies. -/
theorem parts_in {w : World} {S : Nat → Prop} {b o : Nat} {a : StA} {s : StT} (hcc : ∀ i (hi : i < 24), w.cell? ⟨b, o + i, none⟩ = some ((stCells a s)[i]'(by simpa [stCells] using hi))) (hz : StSz s) (ho : StOk w S a s) (hg : S b) :
    ∀ i (h : i < (exprsS s).length), PatAt w S b (o + (partsO s.kind)[i]'(by rw [parts_len]; exact h)) (exprsS s)[i] := by
  have ht : PatAt w S b (o + 2) s.target := patAt_row hg hz.target.z (hcc 2 (by decide)) (hcc 3 (by decide)) (hcc 4 (by decide)) (hcc 5 (by decide)) (hcc 6 (by decide)) ho.target
  have hv : PatAt w S b (o + 7) s.value := patAt_row hg hz.value.z (hcc 7 (by decide)) (hcc 8 (by decide)) (hcc 9 (by decide)) (hcc 10 (by decide)) (hcc 11 (by decide)) ho.value
  unfold partsO exprsS
  by_cases h24 : s.kind = 2 ∨ s.kind = 4
  · simp only [if_pos h24]
    intro i h
    obtain rfl : i = 0 := by simp at h; omega
    exact hv
  · simp only [if_neg h24]
    by_cases h35 : s.kind = 3 ∨ s.kind = 5
    · simp only [if_pos h35]
      intro i h
      rcases (show i = 0 ∨ i = 1 by simp at h; omega) with rfl | rfl
      · exact ht
      · exact hv
    · simp only [if_neg h35]
      intro i h
      simp at h
theorem Ch.strs2 {w : World} {B : Nat} {l : List ByteArray} {v : Value} (h : Ch w B l.length (l.map Value.string) v) : ∃ a c, v = .slice a l.length c ∧ l.length ≤ c ∧ StrsAt w (fun b => B ≤ b ∧ b < w.heap.size) a l := by
  obtain ⟨a, c, rfl, hw⟩ := h
  rcases hw.cells with ⟨hv, h0⟩ | ⟨g, o, cap, hv, hB, hgl, hcap, _, hc⟩
  · simp only [Value.slice.injEq] at hv
    exact ⟨a, c, rfl, by omega, fun h => by omega⟩
  · simp only [Value.slice.injEq] at hv
    obtain ⟨rfl, _, rfl⟩ := hv
    exact ⟨_, _, rfl, hcap, fun _ => ⟨g, o, rfl, ⟨hB, hgl⟩, fun i hi => (hc i (.string l[i]) (by rw [List.getElem?_map, List.getElem?_eq_getElem hi]; rfl)).1⟩⟩
end Go.Proofs.Ytkhhinmhgjicgaa

namespace Go.Proofs.Ytkhhinmhgjicgaa
set_option linter.all false
open Go.RowKit

def sEND : List UInt8 := [69, 78, 68]
/-- To which statement a name leads (below 0: out of a function). -/
def afterF (l : List StT) (i : Nat) (n : ByteArray) : Int := if n.size = 0 then (i : Int) + 1 else if n.toList = sEND then (l.length : Int) else labelF l n
/-- The functions that a list of nodes calls. -/
def calledL : List PatT → List ByteArray
  | [] => []
  | y :: r => (if y.kind = 6 ∧ builtinF y.name < 0 then [y.name] else []) ++ calledL r
def callT' (l : List StT) (n : ByteArray) : Int := labelF l (entryAt l (funcF l n))
def gosL (l : List StT) (i : Nat) (s : StT) : List Int := if s.always.size ≠ 0 then [afterF l i s.always] else if mayF s = true then [afterF l i s.yes, afterF l i s.noes] else [afterF l i s.yes]
def callsOf (q : List PatT) : List ByteArray := calledL (allL q)
def toL (l : List StT) (i : Nat) (s : StT) : List Int := gosL l i s ++ (callsOf (exprsS s)).map (callT' l)
theorem calledL_app : ∀ a b, calledL (a ++ b) = calledL a ++ calledL b
  | [], b => rfl
  | y :: r, b => by rw [List.cons_append, calledL, calledL, calledL_app r b, List.append_assoc]
mutual
theorem called_names : ∀ x : PatT, calledL (allT x) = namesT x
  | .mk k t n nm kids => by rw [allT, calledL, called_namesL kids, namesT]; rfl
theorem called_namesL : ∀ q : List PatT, calledL (allL q) = namesL q
  | [] => by rw [allL, namesL]; rfl
  | x :: q => by rw [allL, calledL_app, called_names x, called_namesL q, namesL]
end
theorem us_all (l : List StT) : ∀ (k j : Nat), j + k = l.length → usGo l j (l.drop j) = none → ∀ i (h : i < l.length), j ≤ i → usesF l l[i] = 0
  | 0, j, hjk, _, i, hi, hji => by omega
  | k + 1, j, hjk, hn, i, hi, hji => by
    rw [List.drop_eq_getElem_cons (show j < l.length by omega), usGo] at hn
    split at hn
    · rename_i h0
      by_cases he : i = j
      · subst he; exact h0
      · exact us_all l k (j + 1) (by omega) hn i hi (by omega)
    · cases hn
theorem labelGo_at (n : ByteArray) : ∀ (l : List StT) (i : Nat), labelGo n i l = -1 ∨ ∃ k : Nat, labelGo n i l = ((i + k : Nat) : Int) ∧ ∃ h : k < l.length, l[k].label = n ∧ n.size ≠ 0
  | [], i => .inl rfl
  | s :: r, i => by
    rw [labelGo]
    split
    · rename_i h; exact .inr ⟨0, rfl, by simp, h⟩
    · rcases labelGo_at n r (i + 1) with h | ⟨k, h, hk, h2⟩
      · exact .inl h
      · exact .inr ⟨k + 1, by rw [h]; omega, by simp; omega, h2⟩
theorem funcGo_at (n : ByteArray) : ∀ (l : List StT) (i : Nat), funcGo n i l = -1 ∨ ∃ k : Nat, funcGo n i l = ((i + k : Nat) : Int) ∧ ∃ h : k < l.length, l[k].kind = 7 ∧ l[k].name = n
  | [], i => .inl rfl
  | s :: r, i => by
    rw [funcGo]
    split
    · rename_i h; exact .inr ⟨0, rfl, by simp, h⟩
    · rcases funcGo_at n r (i + 1) with h | ⟨k, h, hk, h2⟩
      · exact .inl h
      · exact .inr ⟨k + 1, by rw [h]; omega, by simp; omega, h2⟩
section
variable {l : List StT} (hr : (checkF l).1 = 0)
include hr
theorem right_named (i : Nat) (h : i < l.length) : namedP l i l[i] := by
  obtain ⟨_, _, h3, _⟩ := check_right hr
  exact nm_all l l.length 0 (by omega) (by rw [List.drop_zero]; exact h3) i h (by omega)
theorem right_uses (i : Nat) (h : i < l.length) : usesF l l[i] = 0 := by
  obtain ⟨_, _, _, h4⟩ := check_right hr
  exact us_all l l.length 0 (by omega) (by rw [List.drop_zero]; exact h4) i h (by omega)
/-- No label is the language's. -/
theorem right_kept (n : ByteArray) (hk : keptF n = true) : labelF l n = -1 := by
  rcases labelGo_at n l 0 with h | ⟨k, h, hlt, he, h0⟩
  · exact h
  · exfalso
    rcases (right_named hr k hlt).1 with h1 | ⟨h1, _⟩
    · rw [he] at h1; exact h0 h1
    · rw [he, hk] at h1; cases h1
theorem goE_zero : ∀ (q : List ByteArray), goE l q = 0 → ∀ n ∈ q, ¬ gotoBad l n
  | [], _, n, hn => by cases hn
  | m :: q, h, n, hn => by
    rw [goE] at h
    split at h
    · cases h
    · rename_i hm
      rcases List.mem_cons.1 hn with rfl | hn
      · exact hm
      · exact goE_zero q h n hn
omit hr in
theorem firstE3 {a b c : Int} (h : firstE [a, b, c] = 0) : a = 0 ∧ b = 0 ∧ c = 0 := by
  simp only [firstE] at h
  by_cases h1 : a = 0
  · rw [if_pos h1] at h
    by_cases h2 : b = 0
    · rw [if_pos h2] at h
      by_cases h3 : c = 0
      · exact ⟨h1, h2, h3⟩
      · rw [if_neg h3] at h; exact absurd h h3
    · rw [if_neg h2] at h; exact absurd h h2
  · rw [if_neg h1] at h; exact absurd h h1
theorem right_goto (i : Nat) (h : i < l.length) (n : ByteArray) (hn : n ∈ gos l[i]) : ¬ gotoBad l n := by
  have hu := right_uses hr i h
  unfold usesF at hu
  exact goE_zero hr _ (firstE3 hu).1 n hn
theorem right_entry (i : Nat) (h : i < l.length) (h7 : l[i].kind = 7) : 0 ≤ labelF l l[i].entry := by
  have hu := right_uses hr i h
  unfold usesF at hu
  have h0 := (firstE3 hu).2.1
  by_cases hn : labelF l l[i].entry < 0
  · rw [if_pos ⟨h7, hn⟩] at h0; cases h0
  · omega
theorem ndE_zero : ∀ (q : List PatT), ndE l q = 0 → ∀ y ∈ q, callE l y = 0
  | [], _, y, hy => by cases hy
  | x :: q, h, y, hy => by
    rw [ndE] at h
    split at h
    · rename_i h0
      rcases List.mem_cons.1 hy with rfl | hy
      · exact h0
      · exact ndE_zero q h y hy
    · rename_i h0; exact absurd h h0
theorem right_calls (i : Nat) (h : i < l.length) (y : PatT) (hy : y ∈ allL (exprsS l[i])) : callE l y = 0 := by
  have hu := right_uses hr i h
  unfold usesF at hu
  have h0 := (firstE3 hu).2.2
  rw [exE_allL] at h0
  exact ndE_zero hr _ h0 y hy
theorem called_mem : ∀ (q : List PatT) (n : ByteArray), n ∈ calledL q → ∃ y ∈ q, y.kind = 6 ∧ builtinF y.name < 0 ∧ y.name = n
  | [], n, h => by cases h
  | x :: q, n, h => by
    rw [calledL] at h
    rcases List.mem_append.1 h with h | h
    · split at h
      · rename_i hx
        obtain rfl := List.mem_singleton.1 h
        exact ⟨x, List.mem_cons_self .., hx.1, hx.2, rfl⟩
      · cases h
    · obtain ⟨y, hy, h2⟩ := called_mem q n h
      exact ⟨y, List.mem_cons_of_mem _ hy, h2⟩
/-- A function that is called is defined; where it begins there is a label. -/
theorem right_called (i : Nat) (h : i < l.length) (n : ByteArray) (hn : n ∈ callsOf (exprsS l[i])) : (∃ d : Nat, funcF l n = (d : Int) ∧ d < l.length) ∧ callT l n = callT' l n ∧ 0 ≤ callT' l n := by
  obtain ⟨y, hy, h6, hb, rfl⟩ := called_mem hr _ _ hn
  have hc := right_calls hr i h y hy
  unfold callE at hc
  rw [if_neg (fun e => e h6), if_neg (fun e => by omega)] at hc
  split at hc
  · cases hc
  · rename_i h1
    have hf : ¬ funcF l y.name < 0 := fun e => h1 ⟨hb, e⟩
    rcases funcGo_at y.name l 0 with h2 | ⟨d, h2, hd, h7, _⟩
    · exact absurd (show funcF l y.name < 0 by unfold funcF; omega) hf
    · have hfd : funcF l y.name = (d : Int) := by unfold funcF; rw [h2, Nat.zero_add]
      have hent : entryAt l (funcF l y.name) = l[d].entry := by unfold entryAt; rw [hfd, Int.toNat_natCast, List.getElem?_eq_getElem hd]
      have h0 := right_entry hr d hd h7
      refine ⟨⟨d, hfd, hd⟩, ?_, ?_⟩
      · unfold callT callT' funM labM
        rw [if_neg hf, Option.getD_some, hent, if_neg (by omega), Option.getD_some]
      · unfold callT'; rw [hent]; exact h0
/-- One name: both lead to the same statement. -/
theorem after_put (i : Nat) (h : i < l.length) (n : ByteArray) (hn : n ∈ gos l[i]) (k : Nat) (hk : k < l.length) : afterF l i n = (k : Int) ↔ putF (labM l) l.length i n = some (k : Int) := by
  have hg := right_goto hr i h n hn
  unfold afterF putF sEND
  by_cases h0 : n.size = 0
  · have e1 : n.toList = [] := by have := isEmpty_size.2 h0; simpa using this
    have e2 : keptF n = false := by unfold keptF; rw [e1]; rfl
    rw [if_pos h0, if_neg (by rw [e1]; simp), if_neg (by rw [e2]; decide), if_neg (fun e => e h0)]
    simp
  · rw [if_neg h0]
    by_cases he : n.toList = [69, 78, 68]
    · rw [if_pos he, if_pos he]; simp
    · rw [if_neg he, if_neg he]
      cases hkp : keptF n with
      | true =>
        rw [right_kept hr n hkp, if_pos rfl]
        exact ⟨fun h => by omega, fun h => by cases h⟩
      | false =>
        rw [if_neg (by decide), if_pos h0]
        have hge : ¬ labelF l n < 0 := fun e => hg ⟨h0, hkp, e⟩
        unfold labM
        rw [if_neg hge, Option.getD_some]
        simp
theorem gosL_next (i : Nat) (h : i < l.length) (k : Nat) (hk : k < l.length) : (k : Int) ∈ gosL l i l[i] ↔ (k : Int) ∈ nextL (labM l) l.length i l[i] := by
  have ha := after_put hr i h l[i].always (by simp [gos]) k hk
  have hy := after_put hr i h l[i].yes (by simp [gos]) k hk
  have hn := after_put hr i h l[i].noes (by simp [gos]) k hk
  unfold gosL nextL
  by_cases h0 : l[i].always.size ≠ 0
  · rw [if_pos h0, if_pos h0, List.mem_singleton, addK_mem, eq_comm, ha]; simp
  · rw [if_neg h0, if_neg h0]
    by_cases hm : mayF l[i] = true
    · rw [if_pos hm, if_pos hm, addK_mem, addK_mem, List.mem_cons, List.mem_singleton, eq_comm, hy, @eq_comm _ (k : Int) (afterF l i l[i].noes), hn]; simp
    · rw [if_neg hm, if_neg hm, List.mem_singleton, addK_mem, eq_comm, hy]; simp
theorem to_go (i : Nat) (h : i < l.length) (k : Nat) (hk : k < l.length) : (k : Int) ∈ toL l i l[i] ↔ (k : Int) ∈ goP l i l[i] := by
  unfold toL goP
  rw [List.mem_append, List.mem_append, gosL_next hr i h k hk, sortI_mem]
  have e : namesS l[i] = callsOf (exprsS l[i]) := (called_namesL _).symm
  have e2 : (callsOf (exprsS l[i])).map (callT' l) = (namesS l[i]).map (callT l) := by
    rw [e]; exact List.map_congr_left fun n hn => (right_called hr i h n hn).2.1.symm
  rw [e2]
end
theorem toL_len (l : List StT) (i : Nat) (s : StT) (hz : StSz s) : (toL l i s).length ≤ 2097154 := by
  have h := namesS_len s hz
  have e : namesS s = callsOf (exprsS s) := (called_namesL _).symm
  rw [e] at h
  have h2 : (gosL l i s).length ≤ 2 := by unfold gosL; split <;> (try split) <;> simp
  unfold toL; rw [List.length_append, List.length_map]; omega

/-- A round under way: o as it was, o' as it is; done with the statements ahead of j, and with ks of those to which j leads. -/
structure RdJ (l : List StT) (o : Nat → Bool) (j : Nat) (ks : List Int) (b : Bool) (o' : Nat → Bool) : Prop where
  sound : ∀ i, o' i = true → i < l.length ∧ Rch l i
  zero : 0 < l.length → o' 0 = true
  le : freshN o' l.length + (if b = true then 1 else 0) ≤ freshN o l.length
  clo : b = false → ∀ i (h : i < l.length), i < j → o' i = true → ∀ k : Nat, (k : Int) ∈ toL l i l[i] → k < l.length → o' k = true
  cur : b = false → ∀ k : Nat, (k : Int) ∈ ks → k < l.length → o' k = true
section
variable {l : List StT} {o o' : Nat → Bool} {j : Nat} {ks : List Int} {b : Bool}
theorem RdJ.next (h : RdJ l o j ks b o') (hd : ∀ (hj : j < l.length), o' j = true → ks = toL l j l[j]) : RdJ l o (j + 1) [] b o' :=
  ⟨h.sound, h.zero, h.le, fun hb i hi hij hoi k hk hkl => by
    rcases Nat.lt_or_ge i j with h1 | h1
    · exact h.clo hb i hi h1 hoi k hk hkl
    · obtain rfl : i = j := by omega
      exact h.cur hb k (by rw [hd hi hoi]; exact hk) hkl, fun _ k hk => (by cases hk)⟩
theorem RdJ.skip (h : RdJ l o j ks b o') {x : Int} (hx : ∀ k : Nat, x = (k : Int) → k < l.length → o' k = true) : RdJ l o j (ks ++ [x]) b o' :=
  ⟨h.sound, h.zero, h.le, h.clo, fun hb k hk hkl => by
    rcases List.mem_append.1 hk with hk | hk
    · exact h.cur hb k hk hkl
    · exact hx k (List.mem_singleton.1 hk).symm hkl⟩
theorem RdJ.mark (h : RdJ l o j ks b o') (hr : (checkF l).1 = 0) (hj : j < l.length) (hoj : o' j = true) {k : Nat} (hk : k < l.length) (hm : (k : Int) ∈ toL l j l[j]) (hok : o' k = false) : RdJ l o j (ks ++ [(k : Int)]) true (setO o' k) := by
  refine ⟨fun i hi => ?_, fun h0 => ?_, ?_, fun hb => (by cases hb), fun hb => (by cases hb)⟩
  · unfold setO at hi
    split at hi
    · subst i; exact ⟨hk, .step j k hj (h.sound j hoj).2 ((to_go hr j hj k hk).1 hm) hk⟩
    · exact h.sound i hi
  · unfold setO; split
    · rfl
    · exact h.zero h0
  · have := freshN_set o' k hok l.length hk
    have := h.le
    rw [if_pos rfl]
    split at this <;> omega
theorem RdJ.start (hs : ∀ i, o i = true → i < l.length ∧ Rch l i) (h0 : 0 < l.length → o 0 = true) : RdJ l o 0 [] false o :=
  ⟨hs, h0, by simp, fun _ i _ hi => (by omega), fun _ k hk => (by cases hk)⟩
theorem RdJ.end_ (h : RdJ l o l.length [] false o') (hr : (checkF l).1 = 0) : ∀ i, o' i = true ↔ Rch l i := by
  intro i
  refine ⟨fun hi => (h.sound i hi).2, fun hi => ?_⟩
  induction hi with
  | zero h0 => exact h.zero h0
  | step i k hi _ hk hkl ih => exact h.clo rfl i hi hi ih k ((to_go hr i hi k hkl).2 hk) hkl
end
end Go.Proofs.Ytkhhinmhgjicgaa

namespace Go.Proofs.Ytkhhinmhgjicgaa
set_option linter.all false
open Go.RowKit

set_option maxRecDepth 100000 in
set_option maxHeartbeats 2000000 in
theorem after_any (l : List StT) (al : Option Addr) (cl i : Nat) (n : ByteArray) (S : Nat → Prop) (w : World) (hl : StsAt w S al l) (hS : Safe S Nix w.heap.size) (hlen : l.length ≤ 1048576) (hi : i ≤ 1048576) :
    Calls Try.prog 19 #[.slice al l.length cl, .int .i64 i, .string n] w (IntQ (afterF l i n) w) := by
  have HL := Lib.hid hl; have HS := Lib.hid hS
  clear hl hS
  by_cases h0 : n.size = 0
  · have e1 : n.toList.isEmpty = true := isEmpty_size.2 h0
    have fin : Hid (afterF l i n = (i : Int) + 1) := if_pos h0
    clear h0
    go_enter Try.func19, Try.ntmps19
    go_wp2_with fail
    go_ret
    exact ⟨by rw [fin.out]; go_num, Kept.refl _ _⟩
  have e1 : n.toList.isEmpty = false := isEmpty_size'.2 (by omega)
  by_cases he : n.toList = [69, 78, 68]
  · have e2 : (n.toList == [69, 78, 68]) = true := by rw [he]; rfl
    have fin : Hid (afterF l i n = (l.length : Int)) := by unfold Hid afterF sEND; rw [if_neg h0, if_pos he]
    clear h0 he
    go_enter Try.func19, Try.ntmps19
    go_wp2_with fail
    go_ret
    exact ⟨by rw [fin.out]; rfl, Kept.refl _ _⟩
  · have e2 : (n.toList == [69, 78, 68]) = false := by simpa using he
    have fin : Hid (afterF l i n = labelF l n) := by unfold Hid afterF sEND; rw [if_neg h0, if_neg he]
    clear h0 he
    go_enter Try.func19, Try.ntmps19
    go_wp2_with (go_at_call 22; (refine (label_any l al cl n S w HL.out HS.out hlen).mono ?_); rintro e w2 ⟨rfl, k2_⟩; have K2 := Lib.hid k2_; clear k2_)
    go_ret
    exact ⟨by rw [fin.out]; rfl, K2.out⟩
end Go.Proofs.Ytkhhinmhgjicgaa
