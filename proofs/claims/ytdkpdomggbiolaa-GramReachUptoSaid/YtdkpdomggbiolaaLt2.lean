/- slices.SortFunc by strings.Compare, on a list of texts that the call owns. -/
import Derived.Test.YtdkpdomggbiolaaLt1
namespace Go.Proofs.Ytdkpdomggbiolaa
set_option linter.all false
open Go.RowKit Go.Sort Go.Shelf

def SortFQ (B : Nat) (v : Value) (l : List ByteArray) (w : World) (e : Ending) (w' : World) : Prop :=
  e = .returned (.tuple #[]) ∧ ∃ ys, OwnS w' B v ys ∧ ys.Perm l ∧ (ys.map bytesOf).Pairwise (fun a b => ¬ b < a) ∧ w.grownBy w' v.ownBlock
theorem cmp_lays (blk off size : Nat) (w : World) : CmpLays1 Try.prog 25 #[] encStr cmpS blk off size w := by
  intro m os dk _ x y
  refine (Try.strings_Compare ⟨x.toArray⟩ ⟨y.toArray⟩ _).mono ?_
  rintro e w' ⟨rfl, rfl⟩
  exact ⟨by unfold cmpS; simp, 0, #[], by rw [grow_empty]; rfl⟩
theorem sorted_list {ts : Array (List UInt8)} (h : SortedIn (ltOf cmpS) 0 ts.size ts) : ts.toList.Pairwise (fun a b => ¬ b < a) := by
  rw [List.pairwise_iff_getElem]
  intro i j hi hj hij
  have h1 := h i j (Nat.zero_le _) hij (by simpa using hj)
  rw [cmpS_lt, decide_eq_false_iff_not] at h1
  have hi' : i < ts.size := by simpa using hi
  have hj' : j < ts.size := by simpa using hj
  rw [getElem!_pos ts i hi', getElem!_pos ts j hj'] at h1
  simpa using h1
def DoneQ (w : World) (e : Ending) (w' : World) : Prop := e = .returned (.tuple #[]) ∧ w' = w
set_option maxRecDepth 100000 in
theorem ins_none (fv : Value) (w : World) : Calls Try.prog 64 #[.slice none 0 0, .int .i64 0, .int .i64 0, fv] w (DoneQ w) := by
  go_enter Try.func64, Try.ntmps64
  go_wp2_with fail
  refine wp_loop_rounds 1 ?_
  rw [rounds_succ]
  go_wp2_with fail
  (try simp only [Exit.inBlock, Exit.then])
  refine bodyPost_ret (results_none rfl _ _ _) rfl ?_
  exact ⟨rfl, rfl⟩
set_option maxRecDepth 100000 in
theorem pdq_none (lim : Int) (fv : Value) (w : World) : Calls Try.prog 46 #[.slice none 0 0, .int .i64 0, .int .i64 0, .int .i64 lim, fv] w (DoneQ w) := by
  go_enter Try.func46, Try.ntmps46
  go_wp2_with fail
  refine wp_loop_rounds 1 ?_
  rw [rounds_succ]
  go_wp2_with (go_at_call 64; (refine (ins_none _ _).mono ?_); rintro e w' ⟨rfl, rfl⟩)
  (try simp only [Exit.inBlock, Exit.then])
  refine bodyPost_ret (results_none rfl _ _ _) rfl ?_
  exact ⟨rfl, rfl⟩
set_option maxRecDepth 100000 in
theorem sortF_none (fv : Value) (w : World) : Calls Try.prog 24 #[.slice none 0 0, fv] w (DoneQ w) := by
  go_enter Try.func24, Try.ntmps24
  go_wp2_with (first
    | (go_at_call 39; (refine (Try.bits_Len 0 w (by omega) (by omega)).mono ?_); rintro e w' ⟨rfl, rfl⟩)
    | (go_at_call 46; (refine (pdq_none _ _ _).mono ?_); rintro e w' ⟨rfl, rfl⟩))
  go_end0
  exact ⟨rfl, rfl⟩
theorem sortF_any (B : Nat) (v : Value) (l : List ByteArray) (w : World) (h : OwnS w B v l) (hl : l.length < 1000000000) :
    Calls Try.prog 24 #[v, .func (.func 25) #[] #[]] w (SortFQ B v l w) := by
  rcases h.2 with ⟨rfl, h0⟩ | ⟨g, cap, cur, rfl, hb, hgg, h1, h2, h3, h4⟩
  · obtain rfl : l = [] := List.eq_nil_of_length_eq_zero h0
    refine (sortF_none _ w).mono ?_
    rintro e w' ⟨rfl, rfl⟩
    exact ⟨rfl, [], OwnS.nil _ _, List.Perm.refl _, by simp, ⟨rfl, rfl, rfl, Nat.le_refl _, fun _ _ _ => rfl⟩⟩
  · have hl' : (l.map bytesOf).length = l.length := by simp
    have ht : cur.toList.take (l.map bytesOf).length = (l.map bytesOf).map encStr := by rw [map_enc, hl']; simpa using h4
    have c := Try.slices_SortFunc encStr (fun _ => rfl) cmpS cmpS_order 25 #[] g 0 cap (l.map bytesOf).toArray w (fun _ _ => by kernel_rfl) (cmp_lays _ _ _ _) (holds_of_block hgg ht) (Array.getElem?_eq_some_iff.1 hgg).1 (by simp; omega)
    rw [show (l.map bytesOf).toArray.size = l.length by simp] at c
    refine c.mono ?_
    rintro e w' ⟨rfl, d', n, os, ⟨hsz, _, hperm⟩, hsort, rfl⟩
    have hsz' : d'.size = l.length := by rw [hsz]; simp
    have hp : d'.toList.Perm (l.map bytesOf) := by
      have e1 : (d'.extract 0 l.length).toList = d'.toList := by rw [← hsz']; simp
      have e2 : ((l.map bytesOf).toArray.extract 0 l.length).toList = l.map bytesOf := by simp; rw [List.take_of_length_le (by simp)]
      rw [e1, e2] at hperm; exact hperm
    have r := ownsRow_sorted (os := os) (n := n) (ts := d'.toList) (ss := l.map bytesOf) (by simp [hsz']) hb hgg (by rw [hl']; exact h1) h2 h3
    rw [hl', Array.toArray_toList] at r
    refine ⟨rfl, d'.toList.map ofBytes, ?_, ?_, ?_, grownBy_sorted _⟩
    · unfold OwnS
      have hlen : d'.toList.length = l.length := by rw [Array.length_toList, hsz']
      rw [map_enc', List.length_map, hlen]
      exact r
    · have := hp.map ofBytes
      rw [ofBytes_map] at this
      exact this
    · rw [List.map_map]
      have e : bytesOf ∘ ofBytes = id := by funext x; exact bytesOf_ofBytes x
      rw [e, List.map_id]
      exact sorted_list (by rw [hsz']; exact hsort)
theorem sorted_rise {ys l : List ByteArray} (hp : ys.Perm l) (hs : (ys.map bytesOf).Pairwise (fun a b => ¬ b < a)) (hn : l.Nodup) : Rise (ys.map bytesOf) := by
  have h1 : ys.Nodup := hp.nodup_iff.2 hn
  unfold Rise
  rw [List.pairwise_map] at hs ⊢
  refine (hs.and h1).imp ?_
  rintro a b ⟨h, hne⟩
  by_cases hlt : bytesOf a < bytesOf b
  · exact hlt
  · exact absurd (bytesOf_inj (lt_tot hlt h)) hne
end Go.Proofs.Ytdkpdomggbiolaa
