/- The document's put (chapter 8): a name into a rising list; was it new? (printed from XPut by put8.py) -/
import Derived.Test.YtdkpdomggbiolaaSortLaw
namespace Go.Proofs.Ytdkpdomggbiolaa
set_option linter.all false
open Go.RowKit

def moreF (l : List ByteArray) (s : ByteArray) : Bool := !decide (l[ahead l s]? = some s)
def Put8Post (l : List ByteArray) (s : ByteArray) (B : Nat) (w : World) (e : Ending) (w' : World) : Prop := ∃ v', e = .returned (.tuple #[v', .bool (moreF l s)]) ∧ PutV w' (fun b => B ≤ b ∧ b < w'.heap.size) v' (putL l s) ∧ Kept Nix w w'
set_option maxRecDepth 100000 in
set_option maxHeartbeats 1000000 in
theorem put8_any (l : List ByteArray) (s : ByteArray) (v : Value) (B : Nat) (w : World) (hB : B ≤ w.heap.size) (hv : PutV w (fun b => B ≤ b ∧ b < w.heap.size) v l) (hl : l.length < 100000000) :
    Calls Try.prog 19 #[v, .string s] w (Put8Post l s B w) := by
  rcases hv with ⟨rfl, rfl⟩ | ⟨h0, b, o, cap, rfl, hc1, hc2, hb, hc⟩
  · have e1 : Hid (∀ v' w', PutV w' (fun b => B ≤ b ∧ b < w'.heap.size) v' [s] → Kept Nix w w' → Put8Post [] s B w (.returned (.tuple #[v', .bool true])) w') := fun v' w' h1 h2 => ⟨v', rfl, h1, h2⟩
    go_enter Try.func19, Try.ntmps19
    go_wp2_with fail
    have SP : Hid (∀ w1, Kept Nix w w1 → Src Try.prog 1 26 (.slice none 0 0) 0 [] w1) := fun w1 _ => Src.ofNil w1 Try.underlying26 0
    have F : Hid (∀ (a3 : Option Addr) (c3 : Nat) (w4 : World), Win w4 w.heap.size 9 1 (.slice a3 1 c3) 1 [.string s] → Kept Nix w w4 → Put8Post [] s B w (.returned (.tuple #[.slice a3 1 c3, .bool true])) w4) :=
      fun a3 c3 w4 h1 h2 => e1.out _ _ (Win.putv (l := [s]) h1 hB (by simp)) h2
    go_loop [6] (fun i => i = .int .i64 0) (fun i => 0)
    case atStart => rfl
    case round =>
      subst hrel
      go_wp2_with fail
      go_region_law (first
        | (refine step_append_strs rfl (.tmp 34) (.tmp 37) rfl w.heap.size (.slice (some ⟨w.heap.size, 0, none⟩) 0 0) 0 [] (by simp [Act.eval]; done) (Win.empty (by omega) (by first | exact heap_new' (w := w) rfl | exact heap_new' (w := w.alloc (.cells #[.string s] 9)) (by simp) | exact (Below.heap_alloc _ _ _ (by simp)).trans (heap_alloc_new w _))) _ 0 _ (by simp [Act.eval]; done) (SP.out _ (by repeat (first | exact Kept.refl _ _ | refine Kept.drew ?_ | refine Kept.alloc ?_ _))) (by omega) (Kept.size (X := Nix) (by repeat (first | exact Kept.refl _ _ | refine Kept.drew ?_ | refine Kept.alloc ?_ _))) ?_; intro a1 c1 w2 W2 G2 L2; rw [Nat.zero_add, List.nil_append] at W2; have K2 : Hid (Kept Nix w w2) := Kept.grown (by repeat (first | exact Kept.refl _ _ | refine Kept.drew ?_ | refine Kept.alloc ?_ _)) G2 (fun k hk => .inr (by simp [Value.ownBlock] at hk; omega)); have O2 : Hid (One (w.heap.size + 1) s w2) := One.grown (by first | exact One.new' (w := w) rfl | exact One.new' (w := w.alloc (.cells #[] 9)) (by simp) | exact One.alloc (One.new' (w := w) rfl) _) G2 (by simp [Value.ownBlock]; done); have WW2 := Lib.hid W2; clear W2 G2 L2)
        | (refine step_append_strs rfl (.tmp 34) (.tmp 37) rfl w.heap.size (.slice (some ⟨w.heap.size + 1, 0, none⟩) 0 0) 0 [] (by simp [Act.eval]; done) (Win.empty (by omega) (by first | exact heap_new' (w := w) rfl | exact heap_new' (w := w.alloc (.cells #[.string s] 9)) (by simp) | exact (Below.heap_alloc _ _ _ (by simp)).trans (heap_alloc_new w _))) _ 0 _ (by simp [Act.eval]; done) (SP.out _ (by repeat (first | exact Kept.refl _ _ | refine Kept.drew ?_ | refine Kept.alloc ?_ _))) (by omega) (Kept.size (X := Nix) (by repeat (first | exact Kept.refl _ _ | refine Kept.drew ?_ | refine Kept.alloc ?_ _))) ?_; intro a1 c1 w2 W2 G2 L2; rw [Nat.zero_add, List.nil_append] at W2; have K2 : Hid (Kept Nix w w2) := Kept.grown (by repeat (first | exact Kept.refl _ _ | refine Kept.drew ?_ | refine Kept.alloc ?_ _)) G2 (fun k hk => .inr (by simp [Value.ownBlock] at hk; omega)); have O2 : Hid (One (w.heap.size) s w2) := One.grown (by first | exact One.new' (w := w) rfl | exact One.new' (w := w.alloc (.cells #[] 9)) (by simp) | exact One.alloc (One.new' (w := w) rfl) _) G2 (by simp [Value.ownBlock]; done); have WW2 := Lib.hid W2; clear W2 G2 L2)
        | (refine step_append_strs rfl (.tmp 34) (.tmp 37) rfl w.heap.size (.slice (some ⟨w.heap.size, 0, none⟩) 0 0) 0 [] (by simp [Act.eval]; done) (Win.empty (by omega) (by first | exact heap_new' (w := w) rfl | exact heap_new' (w := w.alloc (.cells #[.string s] 9)) (by simp) | exact (Below.heap_alloc _ _ _ (by simp)).trans (heap_alloc_new w _))) _ 0 _ (by simp [Act.eval]; done) (SP.out _ (by repeat (first | exact Kept.refl _ _ | refine Kept.drew ?_ | refine Kept.alloc ?_ _))) (by omega) (Kept.size (X := Nix) (by repeat (first | exact Kept.refl _ _ | refine Kept.drew ?_ | refine Kept.alloc ?_ _))) ?_; intro a1 c1 w2 W2 G2 L2; rw [Nat.zero_add, List.nil_append] at W2; have K2 : Hid (Kept Nix w w2) := Kept.grown (by repeat (first | exact Kept.refl _ _ | refine Kept.drew ?_ | refine Kept.alloc ?_ _)) G2 (fun k hk => .inr (by simp [Value.ownBlock] at hk; omega)); have WW2 := Lib.hid W2; clear W2 G2 L2)
        | (refine step_append_strs rfl (.tmp 38) (.tmp 40) rfl w.heap.size (.slice a1 0 c1) 0 _ (by simp [Act.eval]; done) WW2.out _ 1 [.string s] (by simp [Act.eval]; done) O2.out.src (by omega) (K2.out.size) ?_; intro a2 c2 w3 W3 G3 L3; have K3 : Hid (Kept Nix w w3) := Kept.grown K2.out G3 (fun k hk => .inr (WW2.out.lt k hk).1); have WW3 := Lib.hid W3; clear W3 G3 L3)
        | (refine step_append_strs rfl (.tmp 38) (.tmp 40) rfl w.heap.size (.slice a1 0 c1) 0 _ (by simp [Act.eval]; done) (WW2.out.alloc _) _ 1 [.string s] (by simp [Act.eval]; done) (One.src (heap_alloc_new w2 _)) (by omega) ((K2.out.alloc _).size) ?_; intro a2 c2 w3 W3 G3 L3; have K3 : Hid (Kept Nix w w3) := Kept.grown (K2.out.alloc _) G3 (fun k hk => .inr (WW2.out.lt k hk).1); have WW3 := Lib.hid W3; clear W3 G3 L3)
        | (refine step_append_strs rfl (.tmp 41) (.tmp 44) rfl w.heap.size (.slice a2 1 c2) 1 _ (by simp [Act.eval]; done) WW3.out _ 0 _ (by simp [Act.eval]; done) (SP.out _ K3.out) (by omega) K3.out.size ?_; intro a3 c3 w4 W4 G4 L4; have K4 : Hid (Kept Nix w w4) := Kept.grown K3.out G4 (fun k hk => .inr (WW3.out.lt k hk).1); have WW4 := Lib.hid W4; clear W4 G4 L4))
      all_goals
        go_wp2_with fail
        go_ret2
        exact F.out _ _ _ WW4.out K4.out
  · have HC := Lib.hid hc; have HB := Lib.hid hb; clear hc hb
    go_enter Try.func19, Try.ntmps19
    go_wp2_with fail
    go_loop [6] (fun i => ∃ k : Nat, k ≤ l.length ∧ i = .int .i64 k ∧ Hid (∀ x, x < k → ∀ (h : x < l.length), ltB l[x] s = true)) (fun i => l.length - (intOf i).toNat)
    case atStart => exact ⟨0, Nat.zero_le _, rfl, by intro x hx; omega⟩
    case round =>
      obtain ⟨k, hk, rfl, hok⟩ := hrel
      by_cases hlt : k < l.length
      · have hck := HC.out k hlt
        by_cases hls : ltB l[k] s = true
        · have step : Hid (∀ x, x < k + 1 → ∀ (h : x < l.length), ltB l[x] s = true) := by
            intro x hx hxl
            rcases Nat.lt_or_ge x k with h | h
            · exact hok.out x h hxl
            · obtain rfl : x = k := by omega
              exact hls
          unfold ltB at hls
          go_wp2_with fail
          go_round
          case rel => exact ⟨k + 1, by omega, by go_num, step⟩
          case measure => simp [intOf]; omega
        · have hls' : ltB l[k] s = false := by simpa using hls
          have ha : Hid (ahead l s = k) := ahead_eq l s k hk hok.out (fun _ => hls')
          clear hls
          unfold ltB at hls'
          by_cases he : l[k] = s
          · have hbe : (l[k].toList == s.toList) = true := beqB_true he
            have e : Hid (putL l s = l) := by unfold Hid putL; rw [ha.out, if_pos]; rw [List.getElem?_eq_getElem hlt, he]
            have fin : Hid (Put8Post l s B w (.returned (.tuple #[.slice (some ⟨b, o, none⟩) l.length cap, .bool false])) w) := by
              have hmo : moreF l s = false := by unfold moreF; rw [ha.out, List.getElem?_eq_getElem hlt, he]; simp
              unfold Hid Put8Post; rw [e.out, hmo]; exact ⟨_, rfl, .inr ⟨h0, b, o, cap, rfl, hc1, hc2, HB.out, HC.out⟩, Kept.refl _ _⟩
            clear he
            go_wp2_with fail
            go_ret2
            exact fin.out
          · have hbe : (l[k].toList == s.toList) = false := beqB_false he
            have hkc : k ≤ cap := by omega
            have SP : Hid (∀ w1, Kept Nix w w1 → Src Try.prog 1 26 (.slice (some ⟨b, o, none⟩) k cap) k ((l.take k).map Value.string) w1) := by
              intro w1 hk1
              have := src_part (l := l.take k) (w := w1) (b := b) (o := o) (fun i hi => by rw [hk1.cell HB.out.2 (fun h => h)]; have := HC.out i (by simp at hi; omega); simpa using this) cap
              rwa [List.length_take, Nat.min_eq_left hk] at this
            obtain ⟨A, hA, SQ⟩ : ∃ A, (if cap = k then some ⟨b, o, none⟩ else some ⟨b, o + k, none⟩ : Option Addr) = A ∧ Hid (∀ w1, Kept Nix w w1 → Src Try.prog 1 26 (.slice A (l.length - k) (cap - k)) (l.length - k) ((l.drop k).map Value.string) w1) := by
              refine ⟨_, rfl, fun w1 hk1 => ?_⟩
              by_cases hck : cap = k
              · rw [if_pos hck, show l.length - k = 0 by omega, List.drop_of_length_le (by omega)]
                exact Src.ofSlice w1 Try.underlying26 _ _ _ [] rfl (fun j u hu => by simp at hu) (fun u hu => by simp at hu)
              · rw [if_neg hck]
                have := src_part (l := l.drop k) (w := w1) (b := b) (o := o + k) (fun i hi => by rw [hk1.cell HB.out.2 (fun h => h)]; have := HC.out (k + i) (by simp at hi; omega); rw [Nat.add_assoc]; simpa using this) (cap - k)
                rwa [List.length_drop] at this
            have F : Hid (∀ (a3 : Option Addr) (c3 : Nat) (w4 : World), Win w4 w.heap.size 9 1 (.slice a3 (k + 1 + (l.length - k)) c3) (k + 1 + (l.length - k)) ((l.take k).map Value.string ++ [.string s] ++ (l.drop k).map Value.string) → Kept Nix w w4 → Put8Post l s B w (.returned (.tuple #[.slice a3 (k + 1 + (l.length - k)) c3, .bool true])) w4) := by
              intro a3 c3 w4 h1 h2
              have e : putL l s = l.take k ++ s :: l.drop k := by
                unfold putL; rw [ha.out, if_neg]; rw [List.getElem?_eq_getElem hlt]; simpa using he
              have hmo : moreF l s = true := by unfold moreF; rw [ha.out, List.getElem?_eq_getElem hlt]; simp [he]
              obtain ⟨v', he', h3, h4⟩ := put_fin hB e hk h1 h2
              refine ⟨v', ?_, h3, h4⟩
              rw [hmo]; cases he'; rfl
            clear he
            go_wp2_with fail
            go_region_law (first
              | (refine step_append_strs rfl (.tmp 34) (.tmp 37) rfl w.heap.size (.slice (some ⟨w.heap.size, 0, none⟩) 0 0) 0 [] (by simp [Act.eval]; done) (Win.empty (by omega) (by first | exact heap_new' (w := w) rfl | exact heap_new' (w := w.alloc (.cells #[.string s] 9)) (by simp) | exact (Below.heap_alloc _ _ _ (by simp)).trans (heap_alloc_new w _))) _ k _ (by simp [Act.eval]; done) (SP.out _ (by repeat (first | exact Kept.refl _ _ | refine Kept.drew ?_ | refine Kept.alloc ?_ _))) (by omega) (Kept.size (X := Nix) (by repeat (first | exact Kept.refl _ _ | refine Kept.drew ?_ | refine Kept.alloc ?_ _))) ?_; intro a1 c1 w2 W2 G2 L2; rw [Nat.zero_add, List.nil_append] at W2; have K2 : Hid (Kept Nix w w2) := Kept.grown (by repeat (first | exact Kept.refl _ _ | refine Kept.drew ?_ | refine Kept.alloc ?_ _)) G2 (fun k hk => .inr (by simp [Value.ownBlock] at hk; omega)); have O2 : Hid (One (w.heap.size + 1) s w2) := One.grown (by first | exact One.new' (w := w) rfl | exact One.new' (w := w.alloc (.cells #[] 9)) (by simp) | exact One.alloc (One.new' (w := w) rfl) _) G2 (by simp [Value.ownBlock]; done); have WW2 := Lib.hid W2; clear W2 G2 L2)
              | (refine step_append_strs rfl (.tmp 34) (.tmp 37) rfl w.heap.size (.slice (some ⟨w.heap.size + 1, 0, none⟩) 0 0) 0 [] (by simp [Act.eval]; done) (Win.empty (by omega) (by first | exact heap_new' (w := w) rfl | exact heap_new' (w := w.alloc (.cells #[.string s] 9)) (by simp) | exact (Below.heap_alloc _ _ _ (by simp)).trans (heap_alloc_new w _))) _ k _ (by simp [Act.eval]; done) (SP.out _ (by repeat (first | exact Kept.refl _ _ | refine Kept.drew ?_ | refine Kept.alloc ?_ _))) (by omega) (Kept.size (X := Nix) (by repeat (first | exact Kept.refl _ _ | refine Kept.drew ?_ | refine Kept.alloc ?_ _))) ?_; intro a1 c1 w2 W2 G2 L2; rw [Nat.zero_add, List.nil_append] at W2; have K2 : Hid (Kept Nix w w2) := Kept.grown (by repeat (first | exact Kept.refl _ _ | refine Kept.drew ?_ | refine Kept.alloc ?_ _)) G2 (fun k hk => .inr (by simp [Value.ownBlock] at hk; omega)); have O2 : Hid (One (w.heap.size) s w2) := One.grown (by first | exact One.new' (w := w) rfl | exact One.new' (w := w.alloc (.cells #[] 9)) (by simp) | exact One.alloc (One.new' (w := w) rfl) _) G2 (by simp [Value.ownBlock]; done); have WW2 := Lib.hid W2; clear W2 G2 L2)
              | (refine step_append_strs rfl (.tmp 34) (.tmp 37) rfl w.heap.size (.slice (some ⟨w.heap.size, 0, none⟩) 0 0) 0 [] (by simp [Act.eval]; done) (Win.empty (by omega) (by first | exact heap_new' (w := w) rfl | exact heap_new' (w := w.alloc (.cells #[.string s] 9)) (by simp) | exact (Below.heap_alloc _ _ _ (by simp)).trans (heap_alloc_new w _))) _ k _ (by simp [Act.eval]; done) (SP.out _ (by repeat (first | exact Kept.refl _ _ | refine Kept.drew ?_ | refine Kept.alloc ?_ _))) (by omega) (Kept.size (X := Nix) (by repeat (first | exact Kept.refl _ _ | refine Kept.drew ?_ | refine Kept.alloc ?_ _))) ?_; intro a1 c1 w2 W2 G2 L2; rw [Nat.zero_add, List.nil_append] at W2; have K2 : Hid (Kept Nix w w2) := Kept.grown (by repeat (first | exact Kept.refl _ _ | refine Kept.drew ?_ | refine Kept.alloc ?_ _)) G2 (fun k hk => .inr (by simp [Value.ownBlock] at hk; omega)); have WW2 := Lib.hid W2; clear W2 G2 L2)
              | (refine step_append_strs rfl (.tmp 38) (.tmp 40) rfl w.heap.size (.slice a1 k c1) k _ (by simp [Act.eval]; done) WW2.out _ 1 [.string s] (by simp [Act.eval]; done) O2.out.src (by omega) (K2.out.size) ?_; intro a2 c2 w3 W3 G3 L3; have K3 : Hid (Kept Nix w w3) := Kept.grown K2.out G3 (fun k hk => .inr (WW2.out.lt k hk).1); have WW3 := Lib.hid W3; clear W3 G3 L3)
              | (refine step_append_strs rfl (.tmp 38) (.tmp 40) rfl w.heap.size (.slice a1 k c1) k _ (by simp [Act.eval]; done) (WW2.out.alloc _) _ 1 [.string s] (by simp [Act.eval]; done) (One.src (heap_alloc_new w2 _)) (by omega) ((K2.out.alloc _).size) ?_; intro a2 c2 w3 W3 G3 L3; have K3 : Hid (Kept Nix w w3) := Kept.grown (K2.out.alloc _) G3 (fun k hk => .inr (WW2.out.lt k hk).1); have WW3 := Lib.hid W3; clear W3 G3 L3)
              | (refine step_append_strs rfl (.tmp 41) (.tmp 44) rfl w.heap.size (.slice a2 (k + 1) c2) (k + 1) _ (by simp [Act.eval]; done) WW3.out _ (l.length - k) _ (by simp [Act.eval]; done) (SQ.out _ K3.out) (by omega) K3.out.size ?_; intro a3 c3 w4 W4 G4 L4; have K4 : Hid (Kept Nix w w4) := Kept.grown K3.out G4 (fun k hk => .inr (WW3.out.lt k hk).1); have WW4 := Lib.hid W4; clear W4 G4 L4))
            all_goals
              go_wp2_with fail
              go_ret2
              exact F.out _ _ _ WW4.out K4.out
      · have hkl : k = l.length := by omega
        have ha : Hid (ahead l s = k) := ahead_eq l s k hk hok.out (fun h => absurd h hlt)
        have hkc : k ≤ cap := by omega
        have SP : Hid (∀ w1, Kept Nix w w1 → Src Try.prog 1 26 (.slice (some ⟨b, o, none⟩) k cap) k ((l.take k).map Value.string) w1) := by
          intro w1 hk1
          have := src_part (l := l.take k) (w := w1) (b := b) (o := o) (fun i hi => by rw [hk1.cell HB.out.2 (fun h => h)]; have := HC.out i (by simp at hi; omega); simpa using this) cap
          rwa [List.length_take, Nat.min_eq_left hk] at this
        obtain ⟨A, hA, SQ⟩ : ∃ A, (if cap = k then some ⟨b, o, none⟩ else some ⟨b, o + k, none⟩ : Option Addr) = A ∧ Hid (∀ w1, Kept Nix w w1 → Src Try.prog 1 26 (.slice A (l.length - k) (cap - k)) (l.length - k) ((l.drop k).map Value.string) w1) := by
          refine ⟨_, rfl, fun w1 hk1 => ?_⟩
          by_cases hck : cap = k
          · rw [if_pos hck, show l.length - k = 0 by omega, List.drop_of_length_le (by omega)]
            exact Src.ofSlice w1 Try.underlying26 _ _ _ [] rfl (fun j u hu => by simp at hu) (fun u hu => by simp at hu)
          · rw [if_neg hck]
            have := src_part (l := l.drop k) (w := w1) (b := b) (o := o + k) (fun i hi => by rw [hk1.cell HB.out.2 (fun h => h)]; have := HC.out (k + i) (by simp at hi; omega); rw [Nat.add_assoc]; simpa using this) (cap - k)
            rwa [List.length_drop] at this
        have F : Hid (∀ (a3 : Option Addr) (c3 : Nat) (w4 : World), Win w4 w.heap.size 9 1 (.slice a3 (k + 1 + (l.length - k)) c3) (k + 1 + (l.length - k)) ((l.take k).map Value.string ++ [.string s] ++ (l.drop k).map Value.string) → Kept Nix w w4 → Put8Post l s B w (.returned (.tuple #[.slice a3 (k + 1 + (l.length - k)) c3, .bool true])) w4) := by
          intro a3 c3 w4 h1 h2
          have e : putL l s = l.take k ++ s :: l.drop k := by
            unfold putL; rw [ha.out, if_neg]; rw [List.getElem?_eq_none (by omega)]; simp
          have hmo : moreF l s = true := by unfold moreF; rw [ha.out, List.getElem?_eq_none (by omega)]; rfl
          obtain ⟨v', he', h3, h4⟩ := put_fin hB e hk h1 h2
          refine ⟨v', ?_, h3, h4⟩
          rw [hmo]; cases he'; rfl
        clear hkl
        go_wp2_with fail
        go_region_law (first
          | (refine step_append_strs rfl (.tmp 34) (.tmp 37) rfl w.heap.size (.slice (some ⟨w.heap.size, 0, none⟩) 0 0) 0 [] (by simp [Act.eval]; done) (Win.empty (by omega) (by first | exact heap_new' (w := w) rfl | exact heap_new' (w := w.alloc (.cells #[.string s] 9)) (by simp) | exact (Below.heap_alloc _ _ _ (by simp)).trans (heap_alloc_new w _))) _ k _ (by simp [Act.eval]; done) (SP.out _ (by repeat (first | exact Kept.refl _ _ | refine Kept.drew ?_ | refine Kept.alloc ?_ _))) (by omega) (Kept.size (X := Nix) (by repeat (first | exact Kept.refl _ _ | refine Kept.drew ?_ | refine Kept.alloc ?_ _))) ?_; intro a1 c1 w2 W2 G2 L2; rw [Nat.zero_add, List.nil_append] at W2; have K2 : Hid (Kept Nix w w2) := Kept.grown (by repeat (first | exact Kept.refl _ _ | refine Kept.drew ?_ | refine Kept.alloc ?_ _)) G2 (fun k hk => .inr (by simp [Value.ownBlock] at hk; omega)); have O2 : Hid (One (w.heap.size + 1) s w2) := One.grown (by first | exact One.new' (w := w) rfl | exact One.new' (w := w.alloc (.cells #[] 9)) (by simp) | exact One.alloc (One.new' (w := w) rfl) _) G2 (by simp [Value.ownBlock]; done); have WW2 := Lib.hid W2; clear W2 G2 L2)
          | (refine step_append_strs rfl (.tmp 34) (.tmp 37) rfl w.heap.size (.slice (some ⟨w.heap.size + 1, 0, none⟩) 0 0) 0 [] (by simp [Act.eval]; done) (Win.empty (by omega) (by first | exact heap_new' (w := w) rfl | exact heap_new' (w := w.alloc (.cells #[.string s] 9)) (by simp) | exact (Below.heap_alloc _ _ _ (by simp)).trans (heap_alloc_new w _))) _ k _ (by simp [Act.eval]; done) (SP.out _ (by repeat (first | exact Kept.refl _ _ | refine Kept.drew ?_ | refine Kept.alloc ?_ _))) (by omega) (Kept.size (X := Nix) (by repeat (first | exact Kept.refl _ _ | refine Kept.drew ?_ | refine Kept.alloc ?_ _))) ?_; intro a1 c1 w2 W2 G2 L2; rw [Nat.zero_add, List.nil_append] at W2; have K2 : Hid (Kept Nix w w2) := Kept.grown (by repeat (first | exact Kept.refl _ _ | refine Kept.drew ?_ | refine Kept.alloc ?_ _)) G2 (fun k hk => .inr (by simp [Value.ownBlock] at hk; omega)); have O2 : Hid (One (w.heap.size) s w2) := One.grown (by first | exact One.new' (w := w) rfl | exact One.new' (w := w.alloc (.cells #[] 9)) (by simp) | exact One.alloc (One.new' (w := w) rfl) _) G2 (by simp [Value.ownBlock]; done); have WW2 := Lib.hid W2; clear W2 G2 L2)
          | (refine step_append_strs rfl (.tmp 34) (.tmp 37) rfl w.heap.size (.slice (some ⟨w.heap.size, 0, none⟩) 0 0) 0 [] (by simp [Act.eval]; done) (Win.empty (by omega) (by first | exact heap_new' (w := w) rfl | exact heap_new' (w := w.alloc (.cells #[.string s] 9)) (by simp) | exact (Below.heap_alloc _ _ _ (by simp)).trans (heap_alloc_new w _))) _ k _ (by simp [Act.eval]; done) (SP.out _ (by repeat (first | exact Kept.refl _ _ | refine Kept.drew ?_ | refine Kept.alloc ?_ _))) (by omega) (Kept.size (X := Nix) (by repeat (first | exact Kept.refl _ _ | refine Kept.drew ?_ | refine Kept.alloc ?_ _))) ?_; intro a1 c1 w2 W2 G2 L2; rw [Nat.zero_add, List.nil_append] at W2; have K2 : Hid (Kept Nix w w2) := Kept.grown (by repeat (first | exact Kept.refl _ _ | refine Kept.drew ?_ | refine Kept.alloc ?_ _)) G2 (fun k hk => .inr (by simp [Value.ownBlock] at hk; omega)); have WW2 := Lib.hid W2; clear W2 G2 L2)
          | (refine step_append_strs rfl (.tmp 38) (.tmp 40) rfl w.heap.size (.slice a1 k c1) k _ (by simp [Act.eval]; done) WW2.out _ 1 [.string s] (by simp [Act.eval]; done) O2.out.src (by omega) (K2.out.size) ?_; intro a2 c2 w3 W3 G3 L3; have K3 : Hid (Kept Nix w w3) := Kept.grown K2.out G3 (fun k hk => .inr (WW2.out.lt k hk).1); have WW3 := Lib.hid W3; clear W3 G3 L3)
          | (refine step_append_strs rfl (.tmp 38) (.tmp 40) rfl w.heap.size (.slice a1 k c1) k _ (by simp [Act.eval]; done) (WW2.out.alloc _) _ 1 [.string s] (by simp [Act.eval]; done) (One.src (heap_alloc_new w2 _)) (by omega) ((K2.out.alloc _).size) ?_; intro a2 c2 w3 W3 G3 L3; have K3 : Hid (Kept Nix w w3) := Kept.grown (K2.out.alloc _) G3 (fun k hk => .inr (WW2.out.lt k hk).1); have WW3 := Lib.hid W3; clear W3 G3 L3)
          | (refine step_append_strs rfl (.tmp 41) (.tmp 44) rfl w.heap.size (.slice a2 (k + 1) c2) (k + 1) _ (by simp [Act.eval]; done) WW3.out _ (l.length - k) _ (by simp [Act.eval]; done) (SQ.out _ K3.out) (by omega) K3.out.size ?_; intro a3 c3 w4 W4 G4 L4; have K4 : Hid (Kept Nix w w4) := Kept.grown K3.out G4 (fun k hk => .inr (WW3.out.lt k hk).1); have WW4 := Lib.hid W4; clear W4 G4 L4))
        all_goals
          go_wp2_with fail
          go_ret2
          exact F.out _ _ _ WW4.out K4.out
end Go.Proofs.Ytdkpdomggbiolaa
