/- The reference of chapter 4: SameTexts. -/
import Derived.Test.YtdkpdomggbiolaaRef4f
import Derived.Deep.QuietTactic
import Derived.BigQuiet
namespace Go.Proofs.Ytdkpdomggbiolaa
set_option linter.all false
open Go.RowKit

theorem PutV.strs {w : World} {S : Nat → Prop} {v : Value} {l : List ByteArray} (h : PutV w S v l) : StrsV w S v l := by
  rcases h with ⟨rfl, rfl⟩ | ⟨h0, b, o, cap, rfl, _, _, hb, hc⟩
  · exact ⟨none, 0, rfl, fun h => by simp at h⟩
  · exact ⟨_, cap, rfl, fun _ => ⟨b, o, rfl, hb, hc⟩⟩
theorem StrsV.kept {w w' : World} {S : Nat → Prop} {v : Value} {l : List ByteArray} (h : StrsV w S v l) (hk : Kept Nix w w') (hs : ∀ b, S b → b < w.heap.size) : StrsV w' S v l := by
  obtain ⟨a, cap, rfl, hl⟩ := h
  exact ⟨a, cap, rfl, fun h0 => let ⟨b, o, e, hb, hc⟩ := hl h0; ⟨b, o, e, hb, fun i hi => (hk.cell (hs b hb) (fun h => h)).trans (hc i hi)⟩⟩

def SameQ (b : Bool) (w : World) (e : Ending) (w' : World) : Prop := e = .returned (.bool b) ∧ ∃ n, w' = w.drewN n
set_option maxRecDepth 100000 in
set_option maxHeartbeats 1000000 in
theorem sameTexts_any (l1 l2 : List ByteArray) (S1 S2 : Nat → Prop) (v1 v2 : Value) (w : World) (h1 : StrsV w S1 v1 l1) (h2 : StrsV w S2 v2 l2) (hl1 : l1.length < 1000000000) (hl2 : l2.length < 1000000000) :
    Calls Try.prog 6 #[v1, v2] w (SameQ (decide (l1 = l2)) w) := by
  obtain ⟨a1, d1, rfl, c1⟩ := h1
  obtain ⟨a2, d2, rfl, c2⟩ := h2
  have C1 := Lib.hid c1; have C2 := Lib.hid c2; clear c1 c2
  by_cases hl : l1.length = l2.length
  · have hne : ((l1.length : Int) != (l2.length : Int)) = false := by simp; omega
    have ha : l1.length ≤ l2.length := by omega
    have hz : l2.length ≤ l1.length := by omega
    clear hl
    go_enter Try.func6, Try.ntmps6
    go_wp2_with fail
    go_loopw [13] (fun i wr => ∃ j n : Nat, j ≤ l1.length ∧ i = .int .i64 j ∧ wr = w.drewN n ∧ Hid (∀ x, x < j → l1[x]? = l2[x]?)) (fun i _ => l1.length - (intOf i).toNat)
    case atStart => exact ⟨0, 0, Nat.zero_le _, rfl, rfl, by intro x hx; omega⟩
    case round =>
      obtain ⟨j, n, hj, rfl, rfl, hok⟩ := hrel
      by_cases hlt : j < l1.length
      · obtain ⟨b1, o1, rfl, _, e1⟩ := C1.out (by omega)
        obtain ⟨b2, o2, rfl, _, e2⟩ := C2.out (by omega)
        have q1 := e1 j hlt
        have q2 := e2 j (by omega)
        have hlt2 : j < l2.length := by omega
        clear e1 e2
        have bi1 : (j : Int) < (l1.length : Int) := by omega
        have bi2 : (j : Int) < (l2.length : Int) := by omega
        by_cases he : l1[j] = l2[j]
        · have hb := beqB_true he
          have step : Hid (∀ x, x < j + 1 → l1[x]? = l2[x]?) := by
            intro x hx
            rcases Nat.lt_or_ge x j with h | h
            · exact hok.out x h
            · obtain rfl : x = j := by omega
              rw [List.getElem?_eq_getElem hlt, List.getElem?_eq_getElem hlt2, he]
          clear he
          go_wp2_with fail
          go_quiet (fail)
          go_wp2_with fail
          go_roundw
          case rel => exact ⟨j + 1, n + nq, by omega, by go_num, rfl, step⟩
          case measure => simp [intOf]; omega
        · have hb := beqB_false he
          have fin : Hid (decide (l1 = l2) = false) := decide_eq_false (by intro e; subst e; exact he rfl)
          clear he
          go_wp2_with fail
          go_quiet (fail)
          go_wp2_with fail
          go_ret
          exact ⟨ret_bool fin.out.symm, _, by first | rfl | exact World.drewN_drewN _ _ _⟩
      · have fin : Hid (decide (l1 = l2) = true) := decide_eq_true (List.ext_getElem? fun i => by
          rcases Nat.lt_or_ge i j with h | h
          · exact hok.out i h
          · rw [List.getElem?_eq_none (by omega), List.getElem?_eq_none (by omega)])
        have hge : l1.length ≤ j := by omega
        go_wp2_with fail
        go_ret
        exact ⟨ret_bool fin.out.symm, _, by first | rfl | exact World.drewN_drewN _ _ _⟩
  · have hne : ((l1.length : Int) != (l2.length : Int)) = true := by simp; omega
    have fin : Hid (decide (l1 = l2) = false) := decide_eq_false (by intro e; exact hl (congrArg _ e))
    clear hl
    go_enter Try.func6, Try.ntmps6
    go_wp2_with fail
    go_ret
    exact ⟨ret_bool fin.out.symm, 0, rfl⟩
end Go.Proofs.Ytdkpdomggbiolaa
