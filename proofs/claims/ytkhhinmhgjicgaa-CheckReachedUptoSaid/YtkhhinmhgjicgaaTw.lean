/- check.twice. -/
import Derived.Test.YtkhhinmhgjicgaaCa
import Derived.Test.YtkhhinmhgjicgaaShelf
namespace Go.Proofs.Ytkhhinmhgjicgaa
set_option linter.all false
open Go.RowKit

/-- Nothing is there twice. -/
def onceP (l : List ByteArray) : Prop := ∀ x (h : x < l.length), ∀ y (hy : y < x), l[x] ≠ l[y]'(by omega)
theorem contains_iff (l : List ByteArray) (n : Nat) (hn : n ≤ l.length) (x : ByteArray) : Lib.containsS (l.take n) x = true ↔ ∃ y, ∃ (h : y < n), l[y]'(by omega) = x := by
  rw [Lib.containsS_iff]
  constructor
  · intro h
    obtain ⟨y, hy, e⟩ := List.getElem_of_mem h
    rw [List.getElem_take] at e
    rw [List.length_take] at hy
    exact ⟨y, by omega, e⟩
  · rintro ⟨y, hy, rfl⟩
    have hl : y < (l.take n).length := by rw [List.length_take]; omega
    have : (l.take n)[y] = l[y]'(by omega) := List.getElem_take
    rw [← this]; exact List.getElem_mem hl
def OnceQ (l : List ByteArray) (w : World) (e : Ending) (w' : World) : Prop := ∃ b : Bool, e = .returned (.bool b) ∧ (b = false ↔ onceP l) ∧ w' = w
set_option maxRecDepth 100000 in
set_option maxHeartbeats 1000000 in
theorem twice_any (l : List ByteArray) (a : Option Addr) (c : Nat) (S : Nat → Prop) (w : World) (hl : StrsAt w S a l) (hlc : l.length ≤ c) (hlen : l.length ≤ 4000000000) :
    Calls Try.prog 28 #[.slice a l.length c] w (OnceQ l w) := by
  have HL := Lib.hid hl
  clear hl
  go_enter Try.func28, Try.ntmps28
  go_wp2_with fail
  go_loop [7] (fun i => ∃ j : Nat, j ≤ l.length ∧ i = .int .i64 j ∧ Hid (∀ x (h : x < l.length), x < j → ∀ y (hy : y < x), l[x] ≠ l[y]'(by omega))) (fun i => l.length - (intOf i).toNat)
  case atStart => exact ⟨0, Nat.zero_le _, rfl, by intro x _ hx; omega⟩
  case round =>
    obtain ⟨j, hj, rfl, hno⟩ := hrel
    by_cases hlt : j < l.length
    · obtain ⟨b, o, rfl, _, hc⟩ := HL.out (by omega)
      have hcj := hc j hlt
      have HC : Hid (∀ x, x < l.length → w.cell? ⟨b, o + x, none⟩ = some (.string (l.getD x ByteArray.empty))) := fun x hx => by rw [hc x hx, List.getD_eq_getElem?_getD, List.getElem?_eq_getElem hx]; rfl
      have hjc : j ≤ c := by omega
      clear hc
      by_cases h0 : j = 0
      · subst h0
        rw [Nat.add_zero] at hcj
        have step : Hid (∀ x (h : x < l.length), x < 0 + 1 → ∀ y (hy : y < x), l[x] ≠ l[y]'(by omega)) := by intro x _ hx y hy; omega
        go_wp2_with (go_at_call 29; refine (Try.slices_Contains_string_empty _ _ _ w).mono ?_; rintro e w' ⟨rfl, rfl⟩)
        go_round
        case rel => exact ⟨0 + 1, by omega, by go_num, step⟩
        case measure => simp [intOf]; omega
      · cases hq : Lib.containsS (l.take j) l[j] with
        | true =>
          obtain ⟨y, hy, he⟩ := (contains_iff l j (by omega) l[j]).1 hq
          have fin : Hid (¬ onceP l) := fun h => h j hlt y hy he.symm
          have HQ := Lib.hid hq
          clear hq
          go_wp2_with (go_at_call 29; refine (Try.slices_Contains_string b o j c l l[j] w (by omega) (by omega) HC.out).mono ?_; rintro e w' ⟨rfl, rfl⟩; rw [HQ.out])
          go_ret
          exact ⟨true, rfl, ⟨fun h => (by cases h), fun h => absurd h fin.out⟩, rfl⟩
        | false =>
          have step : Hid (∀ x (h : x < l.length), x < j + 1 → ∀ y (hy : y < x), l[x] ≠ l[y]'(by omega)) := by
            intro x h hx y hy
            rcases Nat.lt_or_ge x j with h1 | h1
            · exact hno.out x h h1 y hy
            · obtain rfl : x = j := by omega
              intro he
              have := (contains_iff l x (by omega) l[x]).2 ⟨y, hy, he.symm⟩
              rw [hq] at this; cases this
          have HQ := Lib.hid hq
          clear hq
          go_wp2_with (go_at_call 29; refine (Try.slices_Contains_string b o j c l l[j] w (by omega) (by omega) HC.out).mono ?_; rintro e w' ⟨rfl, rfl⟩; rw [HQ.out])
          go_round
          case rel => exact ⟨j + 1, by omega, by go_num, step⟩
          case measure => simp [intOf]; omega
    · obtain rfl : j = l.length := by omega
      have fin : Hid (onceP l) := fun x h y hy => hno.out x h h y hy
      go_wp2_with fail
      go_ret
      exact ⟨false, rfl, ⟨fun _ => fin.out, fun _ => rfl⟩, rfl⟩
end Go.Proofs.Ytkhhinmhgjicgaa
