/- The reference of chapter 4: put. -/
import Derived.Test.YtdnglicgmlldlaaWin
import Derived.Test.YtdnglicgmlldlaaNames
namespace Go.Proofs.Ytdnglicgmlldlaa
open Go.RowKit

def ltB (a b : ByteArray) : Bool := Op.bytesLess a.toList b.toList
/-- How many of a list stand ahead of a text. -/
def ahead (l : List ByteArray) (s : ByteArray) : Nat := (l.takeWhile fun x => ltB x s).length
def putL (l : List ByteArray) (s : ByteArray) : List ByteArray := if l[ahead l s]? = some s then l else l.take (ahead l s) ++ s :: l.drop (ahead l s)
theorem ahead_le (l : List ByteArray) (s : ByteArray) : ahead l s ≤ l.length := by unfold ahead; exact (List.takeWhile_sublist _).length_le
theorem ahead_eq (l : List ByteArray) (s : ByteArray) (k : Nat) (hk : k ≤ l.length) (h1 : ∀ i, i < k → ∀ (h : i < l.length), ltB l[i] s = true) (h2 : ∀ (h : k < l.length), ltB l[k] s = false) : ahead l s = k := by
  unfold ahead
  induction l generalizing k with
  | nil => simp at hk; subst hk; rfl
  | cons x r ih =>
    cases k with
    | zero => have := h2 (by simp); rw [List.getElem_cons_zero] at this; rw [List.takeWhile_cons, if_neg (by simp [this])]; rfl
    | succ k =>
      have := h1 0 (by omega) (by simp); rw [List.getElem_cons_zero] at this
      rw [List.takeWhile_cons, if_pos this, List.length_cons, ih k (by simpa using hk)]
      · intro i hi h; have := h1 (i + 1) (by omega) (by simpa using h); simpa using this
      · intro h; have := h2 (by simpa using h); simpa using this

theorem toList_inj {a b : ByteArray} (h : a.toList = b.toList) : a = b := by
  rw [ByteArray.toList_eq, ByteArray.toList_eq] at h
  cases a; cases b; simpa using h
theorem beqB_false {a b : ByteArray} (h : ¬ a = b) : (a.toList == b.toList) = false := by
  rw [Bool.eq_false_iff]; intro e; exact h (toList_inj (by simpa using e))
theorem beqB_true {a b : ByteArray} (h : a = b) : (a.toList == b.toList) = true := by subst h; simp

/-- A list of texts that is nil, or lies in a row. -/
def PutV (w : World) (S : Nat → Prop) (v : Value) (l : List ByteArray) : Prop :=
  (l = [] ∧ v = .slice none 0 0) ∨ (0 < l.length ∧ ∃ b o cap, v = .slice (some ⟨b, o, none⟩) l.length cap ∧ l.length ≤ cap ∧ cap ≤ maxLen ∧ S b ∧ ∀ i (h : i < l.length), w.cell? ⟨b, o + i, none⟩ = some (.string l[i]))
theorem PutV.kept {w w' : World} {S X : Nat → Prop} {v : Value} {l : List ByteArray} (h : PutV w S v l) (hk : Kept X w w') (hs : Safe S X w.heap.size) : PutV w' S v l := by
  rcases h with h | ⟨h0, b, o, cap, e, h1, h2, hb, hc⟩
  · exact .inl h
  · exact .inr ⟨h0, b, o, cap, e, h1, h2, hb, fun i hi => (hk.cell (hs b hb).1 (hs b hb).2).trans (hc i hi)⟩
def PutPost (l : List ByteArray) (B : Nat) (w : World) (e : Ending) (w' : World) : Prop := ∃ v', e = .returned v' ∧ PutV w' (fun b => B ≤ b ∧ b < w'.heap.size) v' l ∧ Kept Nix w w'

/-- append to an own slice of texts, as a step of a region that draws. -/
theorem step_append_strs {ops : Array Oper} {o : Oper} {a : Act} {w : World} {K : Act → World → Prop} {Q : Exit → Act → World → Prop} {E : Prop} (hgd : o.guard = none) (s x : Operand)
    (ho : o.op = .call { callee := .builtin .append, args := #[s, x], argTypes := #[37, 37] })
    (B : Nat) (v : Value) (n : Nat) (xs : List Value) (hs : a.eval s = v) (hown : Win w B 9 1 v n xs) (xv : Value) (m : Nat) (news : List Value) (hx : a.eval x = xv) (hsrc : Src Try.prog 1 37 xv m news w)
    (h63 : n + m ≤ 1000000000) (hbase : B ≤ w.heap.size)
    (h : ∀ a' c' w', Win w' B 9 1 (.slice a' (n + m) c') (n + m) (xs ++ news) → w.grownBy w' v.ownBlock → ((Value.slice a' (n + m) c').ownBlock = v.ownBlock ∨ (Value.slice a' (n + m) c').ownBlock = some w.heap.size) → K (a.put o.dst (.slice a' (n + m) c')) w') :
    if Region.wanted o (yielded ops a.tmps) = true then Oper.wp Try.prog o a w K Q else E := by
  obtain ⟨i0, hi, hz0, hz1, hz2⟩ := info_parts Try.infoS
  exact step_append_win w hgd s x _ _ ho B 9 i0 (.string ⟨#[]⟩) 1 16 Try.underlying37 hi hz0 hz1 hz2 rfl v n xs hs hown xv m news hx hsrc (by unfold maxLen; omega) (by omega) hbase h

theorem Win.empty {w : World} {B g : Nat} {e : TypeId} {size : Nat} (hB : B ≤ g) (h : w.heap[g]? = some (.cells #[] e (0, 0))) : Win w B e size (.slice (some ⟨g, 0, none⟩) 0 0) 0 [] :=
  ⟨by simp, .inr ⟨g, 0, 0, _, rfl, hB, h, Nat.le_refl _, by simp, by simp, by simp⟩⟩
/-- A one-text slice lies at N. -/
def One (N : Nat) (s : ByteArray) (w : World) : Prop := w.heap[N]? = some (.cells #[.string s] 9 (0, 0))
theorem heap_new' {N : Nat} {w : World} {o : Obj} (h : N = w.heap.size) : (w.alloc o).heap[N]? = some o := by subst h; exact heap_alloc_new w _
theorem One.new' {N : Nat} {s : ByteArray} {w : World} (h : N = w.heap.size) : One N s (w.alloc (.cells #[.string s] 9)) := by subst h; exact heap_alloc_new w _
theorem One.alloc {N : Nat} {s : ByteArray} {w : World} (h : One N s w) (o : Obj) : One N s (w.alloc o) := by
  unfold One; rw [Below.heap_alloc _ _ _ (Array.getElem?_eq_some_iff.1 h).1]; exact h
theorem One.src {N : Nat} {s : ByteArray} {w : World} (h : One N s w) : Src Try.prog 1 37 (.slice (some ⟨N, 0, none⟩) 1 1) 1 [.string s] w :=
  Src.ofSlice w Try.underlying37 _ _ _ _ rfl (World.news_of_block h) (by intro u hu; simp at hu; subst hu; rfl)
theorem One.grown {N : Nat} {s : ByteArray} {w w' : World} {row : Option Nat} (h : One N s w) (hg : w.grownBy w' row) (hr : row ≠ some N) : One N s w' := by
  unfold One; rw [hg.block N (Array.getElem?_eq_some_iff.1 h).1 (fun e => hr e.symm)]; exact h
theorem src_part {w : World} {b o : Nat} {l : List ByteArray} (hc : ∀ i (h : i < l.length), w.cell? ⟨b, o + i, none⟩ = some (.string l[i])) (c : Nat) :
    Src Try.prog 1 37 (.slice (some ⟨b, o, none⟩) l.length c) l.length (l.map Value.string) w := by
  refine Src.ofSlice w Try.underlying37 _ _ _ _ (by simp) (fun j u hu => ?_) (by intro u hu; simp at hu; obtain ⟨_, _, rfl⟩ := hu; rfl)
  have e1 : (⟨b, o, none⟩ : Addr).add j = ⟨b, o + j, none⟩ := by unfold Addr.add; split <;> simp_all
  rw [List.getElem?_map] at hu
  cases hj : l[j]? with
  | none => rw [hj] at hu; simp at hu
  | some x =>
    obtain ⟨h, rfl⟩ := List.getElem?_eq_some_iff.1 hj
    rw [hj] at hu; simp at hu; subst hu; rw [e1]; exact hc j h

theorem Win.putv {w : World} {B B' : Nat} {v : Value} {l : List ByteArray} (h : Win w B 9 1 v l.length (l.map Value.string)) (hB : B' ≤ B) (h0 : 0 < l.length) : PutV w (fun b => B' ≤ b ∧ b < w.heap.size) v l := by
  rcases h.cells with ⟨_, hn⟩ | ⟨g, o, cap, hv, hb, hg, h1, h2, hc⟩
  · omega
  · exact .inr ⟨h0, g, o, cap, hv, h1, h2, ⟨by omega, hg⟩, fun i hi => (hc i _ (by simp [hi])).1⟩
theorem put_fin {l l' : List ByteArray} {s : ByteArray} {B k : Nat} {w w4 : World} {a3 : Option Addr} {c3 : Nat} (hB : B ≤ w.heap.size) (e : l' = l.take k ++ s :: l.drop k) (hk : k ≤ l.length)
    (h1 : Win w4 w.heap.size 9 1 (.slice a3 (k + 1 + (l.length - k)) c3) (k + 1 + (l.length - k)) ((l.take k).map Value.string ++ [.string s] ++ (l.drop k).map Value.string)) (h2 : Kept Nix w w4) :
    PutPost l' B w (.returned (.slice a3 (k + 1 + (l.length - k)) c3)) w4 := by
  subst e
  have hl : (l.take k ++ s :: l.drop k).length = k + 1 + (l.length - k) := by simp; omega
  have hm : (l.take k).map Value.string ++ [.string s] ++ (l.drop k).map Value.string = (l.take k ++ s :: l.drop k).map Value.string := by simp
  rw [hm, ← hl] at h1
  rw [← hl]
  exact ⟨_, rfl, h1.putv hB (by rw [hl]; omega), h2⟩

set_option maxRecDepth 100000 in
set_option maxHeartbeats 1000000 in
theorem put_any (l : List ByteArray) (s : ByteArray) (v : Value) (B : Nat) (w : World) (hB : B ≤ w.heap.size) (hv : PutV w (fun b => B ≤ b ∧ b < w.heap.size) v l) (hl : l.length < 1000000) :
    Calls Try.prog 35 #[v, .string s] w (PutPost (putL l s) B w) := by
  rcases hv with ⟨rfl, rfl⟩ | ⟨h0, b, o, cap, rfl, hc1, hc2, hb, hc⟩
  · have e1 : putL [] s = [s] := rfl
    rw [e1]; clear e1
    go_enter Try.func35, Try.ntmps35
    go_wp2_with fail
    have SP : Hid (∀ w1, Kept Nix w w1 → Src Try.prog 1 37 (.slice none 0 0) 0 [] w1) := fun w1 _ => Src.ofNil w1 Try.underlying37 0
    have F : Hid (∀ (a3 : Option Addr) (c3 : Nat) (w4 : World), Win w4 w.heap.size 9 1 (.slice a3 1 c3) 1 [.string s] → Kept Nix w w4 → PutPost [s] B w (.returned (.slice a3 1 c3)) w4) :=
      fun a3 c3 w4 h1 h2 => ⟨_, rfl, Win.putv (l := [s]) h1 hB (by simp), h2⟩
    go_loop [5] (fun i => i = .int .i64 0) (fun i => 0)
    case atStart => rfl
    case round =>
      subst hrel
      go_wp2_with fail
      go_region_law (first
        | (refine step_append_strs rfl (.tmp 33) (.tmp 36) rfl w.heap.size (.slice (some ⟨w.heap.size, 0, none⟩) 0 0) 0 [] (by simp [Act.eval]; done) (Win.empty (by omega) (by first | exact heap_new' (w := w) rfl | exact heap_new' (w := w.alloc (.cells #[.string s] 9)) (by simp) | exact (Below.heap_alloc _ _ _ (by simp)).trans (heap_alloc_new w _))) _ 0 _ (by simp [Act.eval]; done) (SP.out _ (by repeat (first | exact Kept.refl _ _ | refine Kept.drew ?_ | refine Kept.alloc ?_ _))) (by omega) (Kept.size (X := Nix) (by repeat (first | exact Kept.refl _ _ | refine Kept.drew ?_ | refine Kept.alloc ?_ _))) ?_; intro a1 c1 w2 W2 G2 L2; rw [Nat.zero_add, List.nil_append] at W2; have K2 : Hid (Kept Nix w w2) := Kept.grown (by repeat (first | exact Kept.refl _ _ | refine Kept.drew ?_ | refine Kept.alloc ?_ _)) G2 (fun k hk => .inr (by simp [Value.ownBlock] at hk; omega)); have O2 : Hid (One (w.heap.size + 1) s w2) := One.grown (by first | exact One.new' (w := w) rfl | exact One.new' (w := w.alloc (.cells #[] 9)) (by simp) | exact One.alloc (One.new' (w := w) rfl) _) G2 (by simp [Value.ownBlock]; done); have WW2 := Lib.hid W2; clear W2 G2 L2)
        | (refine step_append_strs rfl (.tmp 33) (.tmp 36) rfl w.heap.size (.slice (some ⟨w.heap.size + 1, 0, none⟩) 0 0) 0 [] (by simp [Act.eval]; done) (Win.empty (by omega) (by first | exact heap_new' (w := w) rfl | exact heap_new' (w := w.alloc (.cells #[.string s] 9)) (by simp) | exact (Below.heap_alloc _ _ _ (by simp)).trans (heap_alloc_new w _))) _ 0 _ (by simp [Act.eval]; done) (SP.out _ (by repeat (first | exact Kept.refl _ _ | refine Kept.drew ?_ | refine Kept.alloc ?_ _))) (by omega) (Kept.size (X := Nix) (by repeat (first | exact Kept.refl _ _ | refine Kept.drew ?_ | refine Kept.alloc ?_ _))) ?_; intro a1 c1 w2 W2 G2 L2; rw [Nat.zero_add, List.nil_append] at W2; have K2 : Hid (Kept Nix w w2) := Kept.grown (by repeat (first | exact Kept.refl _ _ | refine Kept.drew ?_ | refine Kept.alloc ?_ _)) G2 (fun k hk => .inr (by simp [Value.ownBlock] at hk; omega)); have O2 : Hid (One (w.heap.size) s w2) := One.grown (by first | exact One.new' (w := w) rfl | exact One.new' (w := w.alloc (.cells #[] 9)) (by simp) | exact One.alloc (One.new' (w := w) rfl) _) G2 (by simp [Value.ownBlock]; done); have WW2 := Lib.hid W2; clear W2 G2 L2)
        | (refine step_append_strs rfl (.tmp 33) (.tmp 36) rfl w.heap.size (.slice (some ⟨w.heap.size, 0, none⟩) 0 0) 0 [] (by simp [Act.eval]; done) (Win.empty (by omega) (by first | exact heap_new' (w := w) rfl | exact heap_new' (w := w.alloc (.cells #[.string s] 9)) (by simp) | exact (Below.heap_alloc _ _ _ (by simp)).trans (heap_alloc_new w _))) _ 0 _ (by simp [Act.eval]; done) (SP.out _ (by repeat (first | exact Kept.refl _ _ | refine Kept.drew ?_ | refine Kept.alloc ?_ _))) (by omega) (Kept.size (X := Nix) (by repeat (first | exact Kept.refl _ _ | refine Kept.drew ?_ | refine Kept.alloc ?_ _))) ?_; intro a1 c1 w2 W2 G2 L2; rw [Nat.zero_add, List.nil_append] at W2; have K2 : Hid (Kept Nix w w2) := Kept.grown (by repeat (first | exact Kept.refl _ _ | refine Kept.drew ?_ | refine Kept.alloc ?_ _)) G2 (fun k hk => .inr (by simp [Value.ownBlock] at hk; omega)); have WW2 := Lib.hid W2; clear W2 G2 L2)
        | (refine step_append_strs rfl (.tmp 37) (.tmp 39) rfl w.heap.size (.slice a1 0 c1) 0 _ (by simp [Act.eval]; done) WW2.out _ 1 [.string s] (by simp [Act.eval]; done) O2.out.src (by omega) (K2.out.size) ?_; intro a2 c2 w3 W3 G3 L3; have K3 : Hid (Kept Nix w w3) := Kept.grown K2.out G3 (fun k hk => .inr (WW2.out.lt k hk).1); have WW3 := Lib.hid W3; clear W3 G3 L3)
        | (refine step_append_strs rfl (.tmp 37) (.tmp 39) rfl w.heap.size (.slice a1 0 c1) 0 _ (by simp [Act.eval]; done) (WW2.out.alloc _) _ 1 [.string s] (by simp [Act.eval]; done) (One.src (heap_alloc_new w2 _)) (by omega) ((K2.out.alloc _).size) ?_; intro a2 c2 w3 W3 G3 L3; have K3 : Hid (Kept Nix w w3) := Kept.grown (K2.out.alloc _) G3 (fun k hk => .inr (WW2.out.lt k hk).1); have WW3 := Lib.hid W3; clear W3 G3 L3)
        | (refine step_append_strs rfl (.tmp 40) (.tmp 43) rfl w.heap.size (.slice a2 1 c2) 1 _ (by simp [Act.eval]; done) WW3.out _ 0 _ (by simp [Act.eval]; done) (SP.out _ K3.out) (by omega) K3.out.size ?_; intro a3 c3 w4 W4 G4 L4; have K4 : Hid (Kept Nix w w4) := Kept.grown K3.out G4 (fun k hk => .inr (WW3.out.lt k hk).1); have WW4 := Lib.hid W4; clear W4 G4 L4))
      all_goals
        go_wp2_with fail
        go_ret
        exact F.out _ _ _ WW4.out K4.out
  · have HC := Lib.hid hc; have HB := Lib.hid hb; clear hc hb
    go_enter Try.func35, Try.ntmps35
    go_wp2_with fail
    go_loop [5] (fun i => ∃ k : Nat, k ≤ l.length ∧ i = .int .i64 k ∧ Hid (∀ x, x < k → ∀ (h : x < l.length), ltB l[x] s = true)) (fun i => l.length - (intOf i).toNat)
    case atStart => exact ⟨0, Nat.zero_le _, rfl, by intro x hx; omega⟩
    case round =>
      obtain ⟨k, hk, rfl, hok⟩ := hrel
      by_cases hlt : k < l.length
      · have hck := HC.out k hlt
        by_cases hls : ltB l[k] s = true
        · have step : Hid (∀ x, x < k + 1 → ∀ (h : x < l.length), ltB l[x] s = true) := by
            intro x hx hxl
            rcases Nat.lt_or_ge x k with h | h
            · exact hok.out x h hxl
            · obtain rfl : x = k := by omega
              exact hls
          unfold ltB at hls
          go_wp2_with fail
          go_round
          case rel => exact ⟨k + 1, by omega, by go_num, step⟩
          case measure => simp [intOf]; omega
        · have hls' : ltB l[k] s = false := by simpa using hls
          have ha : Hid (ahead l s = k) := ahead_eq l s k hk hok.out (fun _ => hls')
          clear hls
          unfold ltB at hls'
          by_cases he : l[k] = s
          · have hbe : (l[k].toList == s.toList) = true := beqB_true he
            have e : Hid (putL l s = l) := by unfold Hid putL; rw [ha.out, if_pos]; rw [List.getElem?_eq_getElem hlt, he]
            have fin : Hid (PutPost (putL l s) B w (.returned (.slice (some ⟨b, o, none⟩) l.length cap)) w) := by
              unfold Hid; rw [e.out]; exact ⟨_, rfl, .inr ⟨h0, b, o, cap, rfl, hc1, hc2, HB.out, HC.out⟩, Kept.refl _ _⟩
            clear he
            go_wp2_with fail
            go_ret
            exact fin.out
          · have hbe : (l[k].toList == s.toList) = false := beqB_false he
            have hkc : k ≤ cap := by omega
            have SP : Hid (∀ w1, Kept Nix w w1 → Src Try.prog 1 37 (.slice (some ⟨b, o, none⟩) k cap) k ((l.take k).map Value.string) w1) := by
              intro w1 hk1
              have := src_part (l := l.take k) (w := w1) (b := b) (o := o) (fun i hi => by rw [hk1.cell HB.out.2 (fun h => h)]; have := HC.out i (by simp at hi; omega); simpa using this) cap
              rwa [List.length_take, Nat.min_eq_left hk] at this
            obtain ⟨A, hA, SQ⟩ : ∃ A, (if cap = k then some ⟨b, o, none⟩ else some ⟨b, o + k, none⟩ : Option Addr) = A ∧ Hid (∀ w1, Kept Nix w w1 → Src Try.prog 1 37 (.slice A (l.length - k) (cap - k)) (l.length - k) ((l.drop k).map Value.string) w1) := by
              refine ⟨_, rfl, fun w1 hk1 => ?_⟩
              by_cases hck : cap = k
              · rw [if_pos hck, show l.length - k = 0 by omega, List.drop_of_length_le (by omega)]
                exact Src.ofSlice w1 Try.underlying37 _ _ _ [] rfl (fun j u hu => by simp at hu) (fun u hu => by simp at hu)
              · rw [if_neg hck]
                have := src_part (l := l.drop k) (w := w1) (b := b) (o := o + k) (fun i hi => by rw [hk1.cell HB.out.2 (fun h => h)]; have := HC.out (k + i) (by simp at hi; omega); rw [Nat.add_assoc]; simpa using this) (cap - k)
                rwa [List.length_drop] at this
            have F : Hid (∀ (a3 : Option Addr) (c3 : Nat) (w4 : World), Win w4 w.heap.size 9 1 (.slice a3 (k + 1 + (l.length - k)) c3) (k + 1 + (l.length - k)) ((l.take k).map Value.string ++ [.string s] ++ (l.drop k).map Value.string) → Kept Nix w w4 → PutPost (putL l s) B w (.returned (.slice a3 (k + 1 + (l.length - k)) c3)) w4) := by
              intro a3 c3 w4 h1 h2
              have e : putL l s = l.take k ++ s :: l.drop k := by
                unfold putL; rw [ha.out, if_neg]; rw [List.getElem?_eq_getElem hlt]; simpa using he
              exact put_fin hB e hk h1 h2
            clear he
            go_wp2_with fail
            go_region_law (first
              | (refine step_append_strs rfl (.tmp 33) (.tmp 36) rfl w.heap.size (.slice (some ⟨w.heap.size, 0, none⟩) 0 0) 0 [] (by simp [Act.eval]; done) (Win.empty (by omega) (by first | exact heap_new' (w := w) rfl | exact heap_new' (w := w.alloc (.cells #[.string s] 9)) (by simp) | exact (Below.heap_alloc _ _ _ (by simp)).trans (heap_alloc_new w _))) _ k _ (by simp [Act.eval]; done) (SP.out _ (by repeat (first | exact Kept.refl _ _ | refine Kept.drew ?_ | refine Kept.alloc ?_ _))) (by omega) (Kept.size (X := Nix) (by repeat (first | exact Kept.refl _ _ | refine Kept.drew ?_ | refine Kept.alloc ?_ _))) ?_; intro a1 c1 w2 W2 G2 L2; rw [Nat.zero_add, List.nil_append] at W2; have K2 : Hid (Kept Nix w w2) := Kept.grown (by repeat (first | exact Kept.refl _ _ | refine Kept.drew ?_ | refine Kept.alloc ?_ _)) G2 (fun k hk => .inr (by simp [Value.ownBlock] at hk; omega)); have O2 : Hid (One (w.heap.size + 1) s w2) := One.grown (by first | exact One.new' (w := w) rfl | exact One.new' (w := w.alloc (.cells #[] 9)) (by simp) | exact One.alloc (One.new' (w := w) rfl) _) G2 (by simp [Value.ownBlock]; done); have WW2 := Lib.hid W2; clear W2 G2 L2)
              | (refine step_append_strs rfl (.tmp 33) (.tmp 36) rfl w.heap.size (.slice (some ⟨w.heap.size + 1, 0, none⟩) 0 0) 0 [] (by simp [Act.eval]; done) (Win.empty (by omega) (by first | exact heap_new' (w := w) rfl | exact heap_new' (w := w.alloc (.cells #[.string s] 9)) (by simp) | exact (Below.heap_alloc _ _ _ (by simp)).trans (heap_alloc_new w _))) _ k _ (by simp [Act.eval]; done) (SP.out _ (by repeat (first | exact Kept.refl _ _ | refine Kept.drew ?_ | refine Kept.alloc ?_ _))) (by omega) (Kept.size (X := Nix) (by repeat (first | exact Kept.refl _ _ | refine Kept.drew ?_ | refine Kept.alloc ?_ _))) ?_; intro a1 c1 w2 W2 G2 L2; rw [Nat.zero_add, List.nil_append] at W2; have K2 : Hid (Kept Nix w w2) := Kept.grown (by repeat (first | exact Kept.refl _ _ | refine Kept.drew ?_ | refine Kept.alloc ?_ _)) G2 (fun k hk => .inr (by simp [Value.ownBlock] at hk; omega)); have O2 : Hid (One (w.heap.size) s w2) := One.grown (by first | exact One.new' (w := w) rfl | exact One.new' (w := w.alloc (.cells #[] 9)) (by simp) | exact One.alloc (One.new' (w := w) rfl) _) G2 (by simp [Value.ownBlock]; done); have WW2 := Lib.hid W2; clear W2 G2 L2)
              | (refine step_append_strs rfl (.tmp 33) (.tmp 36) rfl w.heap.size (.slice (some ⟨w.heap.size, 0, none⟩) 0 0) 0 [] (by simp [Act.eval]; done) (Win.empty (by omega) (by first | exact heap_new' (w := w) rfl | exact heap_new' (w := w.alloc (.cells #[.string s] 9)) (by simp) | exact (Below.heap_alloc _ _ _ (by simp)).trans (heap_alloc_new w _))) _ k _ (by simp [Act.eval]; done) (SP.out _ (by repeat (first | exact Kept.refl _ _ | refine Kept.drew ?_ | refine Kept.alloc ?_ _))) (by omega) (Kept.size (X := Nix) (by repeat (first | exact Kept.refl _ _ | refine Kept.drew ?_ | refine Kept.alloc ?_ _))) ?_; intro a1 c1 w2 W2 G2 L2; rw [Nat.zero_add, List.nil_append] at W2; have K2 : Hid (Kept Nix w w2) := Kept.grown (by repeat (first | exact Kept.refl _ _ | refine Kept.drew ?_ | refine Kept.alloc ?_ _)) G2 (fun k hk => .inr (by simp [Value.ownBlock] at hk; omega)); have WW2 := Lib.hid W2; clear W2 G2 L2)
              | (refine step_append_strs rfl (.tmp 37) (.tmp 39) rfl w.heap.size (.slice a1 k c1) k _ (by simp [Act.eval]; done) WW2.out _ 1 [.string s] (by simp [Act.eval]; done) O2.out.src (by omega) (K2.out.size) ?_; intro a2 c2 w3 W3 G3 L3; have K3 : Hid (Kept Nix w w3) := Kept.grown K2.out G3 (fun k hk => .inr (WW2.out.lt k hk).1); have WW3 := Lib.hid W3; clear W3 G3 L3)
              | (refine step_append_strs rfl (.tmp 37) (.tmp 39) rfl w.heap.size (.slice a1 k c1) k _ (by simp [Act.eval]; done) (WW2.out.alloc _) _ 1 [.string s] (by simp [Act.eval]; done) (One.src (heap_alloc_new w2 _)) (by omega) ((K2.out.alloc _).size) ?_; intro a2 c2 w3 W3 G3 L3; have K3 : Hid (Kept Nix w w3) := Kept.grown (K2.out.alloc _) G3 (fun k hk => .inr (WW2.out.lt k hk).1); have WW3 := Lib.hid W3; clear W3 G3 L3)
              | (refine step_append_strs rfl (.tmp 40) (.tmp 43) rfl w.heap.size (.slice a2 (k + 1) c2) (k + 1) _ (by simp [Act.eval]; done) WW3.out _ (l.length - k) _ (by simp [Act.eval]; done) (SQ.out _ K3.out) (by omega) K3.out.size ?_; intro a3 c3 w4 W4 G4 L4; have K4 : Hid (Kept Nix w w4) := Kept.grown K3.out G4 (fun k hk => .inr (WW3.out.lt k hk).1); have WW4 := Lib.hid W4; clear W4 G4 L4))
            all_goals
              go_wp2_with fail
              go_ret
              exact F.out _ _ _ WW4.out K4.out
      · have hkl : k = l.length := by omega
        have ha : Hid (ahead l s = k) := ahead_eq l s k hk hok.out (fun h => absurd h hlt)
        have hkc : k ≤ cap := by omega
        have SP : Hid (∀ w1, Kept Nix w w1 → Src Try.prog 1 37 (.slice (some ⟨b, o, none⟩) k cap) k ((l.take k).map Value.string) w1) := by
          intro w1 hk1
          have := src_part (l := l.take k) (w := w1) (b := b) (o := o) (fun i hi => by rw [hk1.cell HB.out.2 (fun h => h)]; have := HC.out i (by simp at hi; omega); simpa using this) cap
          rwa [List.length_take, Nat.min_eq_left hk] at this
        obtain ⟨A, hA, SQ⟩ : ∃ A, (if cap = k then some ⟨b, o, none⟩ else some ⟨b, o + k, none⟩ : Option Addr) = A ∧ Hid (∀ w1, Kept Nix w w1 → Src Try.prog 1 37 (.slice A (l.length - k) (cap - k)) (l.length - k) ((l.drop k).map Value.string) w1) := by
          refine ⟨_, rfl, fun w1 hk1 => ?_⟩
          by_cases hck : cap = k
          · rw [if_pos hck, show l.length - k = 0 by omega, List.drop_of_length_le (by omega)]
            exact Src.ofSlice w1 Try.underlying37 _ _ _ [] rfl (fun j u hu => by simp at hu) (fun u hu => by simp at hu)
          · rw [if_neg hck]
            have := src_part (l := l.drop k) (w := w1) (b := b) (o := o + k) (fun i hi => by rw [hk1.cell HB.out.2 (fun h => h)]; have := HC.out (k + i) (by simp at hi; omega); rw [Nat.add_assoc]; simpa using this) (cap - k)
            rwa [List.length_drop] at this
        have F : Hid (∀ (a3 : Option Addr) (c3 : Nat) (w4 : World), Win w4 w.heap.size 9 1 (.slice a3 (k + 1 + (l.length - k)) c3) (k + 1 + (l.length - k)) ((l.take k).map Value.string ++ [.string s] ++ (l.drop k).map Value.string) → Kept Nix w w4 → PutPost (putL l s) B w (.returned (.slice a3 (k + 1 + (l.length - k)) c3)) w4) := by
          intro a3 c3 w4 h1 h2
          have e : putL l s = l.take k ++ s :: l.drop k := by
            unfold putL; rw [ha.out, if_neg]; rw [List.getElem?_eq_none (by omega)]; simp
          exact put_fin hB e hk h1 h2
        clear hkl
        go_wp2_with fail
        go_region_law (first
          | (refine step_append_strs rfl (.tmp 33) (.tmp 36) rfl w.heap.size (.slice (some ⟨w.heap.size, 0, none⟩) 0 0) 0 [] (by simp [Act.eval]; done) (Win.empty (by omega) (by first | exact heap_new' (w := w) rfl | exact heap_new' (w := w.alloc (.cells #[.string s] 9)) (by simp) | exact (Below.heap_alloc _ _ _ (by simp)).trans (heap_alloc_new w _))) _ k _ (by simp [Act.eval]; done) (SP.out _ (by repeat (first | exact Kept.refl _ _ | refine Kept.drew ?_ | refine Kept.alloc ?_ _))) (by omega) (Kept.size (X := Nix) (by repeat (first | exact Kept.refl _ _ | refine Kept.drew ?_ | refine Kept.alloc ?_ _))) ?_; intro a1 c1 w2 W2 G2 L2; rw [Nat.zero_add, List.nil_append] at W2; have K2 : Hid (Kept Nix w w2) := Kept.grown (by repeat (first | exact Kept.refl _ _ | refine Kept.drew ?_ | refine Kept.alloc ?_ _)) G2 (fun k hk => .inr (by simp [Value.ownBlock] at hk; omega)); have O2 : Hid (One (w.heap.size + 1) s w2) := One.grown (by first | exact One.new' (w := w) rfl | exact One.new' (w := w.alloc (.cells #[] 9)) (by simp) | exact One.alloc (One.new' (w := w) rfl) _) G2 (by simp [Value.ownBlock]; done); have WW2 := Lib.hid W2; clear W2 G2 L2)
          | (refine step_append_strs rfl (.tmp 33) (.tmp 36) rfl w.heap.size (.slice (some ⟨w.heap.size + 1, 0, none⟩) 0 0) 0 [] (by simp [Act.eval]; done) (Win.empty (by omega) (by first | exact heap_new' (w := w) rfl | exact heap_new' (w := w.alloc (.cells #[.string s] 9)) (by simp) | exact (Below.heap_alloc _ _ _ (by simp)).trans (heap_alloc_new w _))) _ k _ (by simp [Act.eval]; done) (SP.out _ (by repeat (first | exact Kept.refl _ _ | refine Kept.drew ?_ | refine Kept.alloc ?_ _))) (by omega) (Kept.size (X := Nix) (by repeat (first | exact Kept.refl _ _ | refine Kept.drew ?_ | refine Kept.alloc ?_ _))) ?_; intro a1 c1 w2 W2 G2 L2; rw [Nat.zero_add, List.nil_append] at W2; have K2 : Hid (Kept Nix w w2) := Kept.grown (by repeat (first | exact Kept.refl _ _ | refine Kept.drew ?_ | refine Kept.alloc ?_ _)) G2 (fun k hk => .inr (by simp [Value.ownBlock] at hk; omega)); have O2 : Hid (One (w.heap.size) s w2) := One.grown (by first | exact One.new' (w := w) rfl | exact One.new' (w := w.alloc (.cells #[] 9)) (by simp) | exact One.alloc (One.new' (w := w) rfl) _) G2 (by simp [Value.ownBlock]; done); have WW2 := Lib.hid W2; clear W2 G2 L2)
          | (refine step_append_strs rfl (.tmp 33) (.tmp 36) rfl w.heap.size (.slice (some ⟨w.heap.size, 0, none⟩) 0 0) 0 [] (by simp [Act.eval]; done) (Win.empty (by omega) (by first | exact heap_new' (w := w) rfl | exact heap_new' (w := w.alloc (.cells #[.string s] 9)) (by simp) | exact (Below.heap_alloc _ _ _ (by simp)).trans (heap_alloc_new w _))) _ k _ (by simp [Act.eval]; done) (SP.out _ (by repeat (first | exact Kept.refl _ _ | refine Kept.drew ?_ | refine Kept.alloc ?_ _))) (by omega) (Kept.size (X := Nix) (by repeat (first | exact Kept.refl _ _ | refine Kept.drew ?_ | refine Kept.alloc ?_ _))) ?_; intro a1 c1 w2 W2 G2 L2; rw [Nat.zero_add, List.nil_append] at W2; have K2 : Hid (Kept Nix w w2) := Kept.grown (by repeat (first | exact Kept.refl _ _ | refine Kept.drew ?_ | refine Kept.alloc ?_ _)) G2 (fun k hk => .inr (by simp [Value.ownBlock] at hk; omega)); have WW2 := Lib.hid W2; clear W2 G2 L2)
          | (refine step_append_strs rfl (.tmp 37) (.tmp 39) rfl w.heap.size (.slice a1 k c1) k _ (by simp [Act.eval]; done) WW2.out _ 1 [.string s] (by simp [Act.eval]; done) O2.out.src (by omega) (K2.out.size) ?_; intro a2 c2 w3 W3 G3 L3; have K3 : Hid (Kept Nix w w3) := Kept.grown K2.out G3 (fun k hk => .inr (WW2.out.lt k hk).1); have WW3 := Lib.hid W3; clear W3 G3 L3)
          | (refine step_append_strs rfl (.tmp 37) (.tmp 39) rfl w.heap.size (.slice a1 k c1) k _ (by simp [Act.eval]; done) (WW2.out.alloc _) _ 1 [.string s] (by simp [Act.eval]; done) (One.src (heap_alloc_new w2 _)) (by omega) ((K2.out.alloc _).size) ?_; intro a2 c2 w3 W3 G3 L3; have K3 : Hid (Kept Nix w w3) := Kept.grown (K2.out.alloc _) G3 (fun k hk => .inr (WW2.out.lt k hk).1); have WW3 := Lib.hid W3; clear W3 G3 L3)
          | (refine step_append_strs rfl (.tmp 40) (.tmp 43) rfl w.heap.size (.slice a2 (k + 1) c2) (k + 1) _ (by simp [Act.eval]; done) WW3.out _ (l.length - k) _ (by simp [Act.eval]; done) (SQ.out _ K3.out) (by omega) K3.out.size ?_; intro a3 c3 w4 W4 G4 L4; have K4 : Hid (Kept Nix w w4) := Kept.grown K3.out G4 (fun k hk => .inr (WW3.out.lt k hk).1); have WW4 := Lib.hid W4; clear W4 G4 L4))
        all_goals
          go_wp2_with fail
          go_ret
          exact F.out _ _ _ WW4.out K4.out
end Go.Proofs.Ytdnglicgmlldlaa
