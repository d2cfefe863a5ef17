/- The reference of chapter 4: In, texts, numbers, Named, Node. -/
import Derived.Test.YtcfcdobgpldoiaaGreatDoorSm3
namespace Go.Proofs.YtcfcdobgpldoiaaGreatDoor
set_option linter.all false
open Go.RowKit

theorem ints_cell {w : World} {b : Nat} {ks : List Int} {t : TypeId} {fr : Nat × Nat} (h : w.heap[b]? = some (.cells (ks.map (Value.int .i64)).toArray t fr)) {i : Nat} (hi : i < ks.length) :
    w.cell? ⟨b, i, none⟩ = some (.int .i64 ks[i]) := by
  rw [cell_of_row w b i _ t fr h]; simp [hi]

set_option maxRecDepth 100000 in
set_option maxHeartbeats 400000 in
theorem In_any (k : Int) (ks : List Int) (v : Bool) (hv : ks.contains k = v) (b cap : Nat) (t : TypeId) (fr : Nat × Nat) (w : World) (hb : w.heap[b]? = some (.cells (ks.map (Value.int .i64)).toArray t fr)) (hl : ks.length < 1000) :
    Calls Tryz.prog 54 #[.int .i64 k, .slice (some ⟨b, 0, none⟩) ks.length cap] w fun e w' => e = .returned (.bool v) ∧ w = w' := by
  have HB := Lib.hid hb; have HV := Lib.hid hv; clear hb hv
  go_enter Tryz.func54, Tryz.ntmps54
  go_wp2_with fail
  go_loop [9] (fun i => ∃ j : Nat, j ≤ ks.length ∧ i = .int .i64 j ∧ Hid (∀ x, x < j → ks.getD x 0 ≠ k)) (fun i => ks.length - (intOf i).toNat)
  case atStart => exact ⟨0, Nat.zero_le _, rfl, by intro x hx; omega⟩
  case round =>
    obtain ⟨j, hj, rfl, hno⟩ := hrel
    by_cases hlt : j < ks.length
    · have hc := ints_cell HB.out hlt
      by_cases he : ks[j] = k
      · have hq : (ks[j] == k) = true := by simpa using he
        have fin : Hid (v = true) := by unfold Hid; rw [← HV.out]; exact List.contains_iff_mem.2 (he ▸ List.getElem_mem hlt)
        clear he
        go_wp2_with fail
        go_ret
        exact ⟨ret_bool fin.out.symm, rfl⟩
      · have hq : (ks[j] == k) = false := by simpa using he
        have step : Hid (∀ x, x < j + 1 → ks.getD x 0 ≠ k) := by
          intro x hx
          rcases Nat.lt_or_ge x j with h | h
          · exact hno.out x h
          · obtain rfl : x = j := by omega
            rw [List.getD_eq_getElem?_getD, List.getElem?_eq_getElem hlt]; exact he
        clear he
        go_wp2_with fail
        go_round
        case rel => exact ⟨j + 1, by omega, by go_num, step⟩
        case measure => simp [intOf]; omega
    · have fin : Hid (v = false) := by
        unfold Hid; rw [← HV.out, ← Bool.not_eq_true, List.contains_iff_mem]
        intro hm
        obtain ⟨x, hx, he⟩ := List.getElem_of_mem hm
        have := hno.out x (by omega)
        rw [List.getD_eq_getElem?_getD, List.getElem?_eq_getElem hx] at this
        exact this he
      go_wp2_with fail
      go_ret
      exact ⟨ret_bool fin.out.symm, rfl⟩

theorem texts_list (k : Int) : ([3, 4, 5, 6, 7] : List Int).contains k = decide (isTextK k) := by
  rw [Bool.eq_iff_iff, decide_eq_true_eq]; unfold isTextK; simp; omega
theorem nums_list (k : Int) : ([2, 8, 9, 10, 11] : List Int).contains k = decide (isNumK k) := by
  rw [Bool.eq_iff_iff, decide_eq_true_eq]; unfold isNumK; simp; omega

def BoolQ (b : Bool) (w : World) (e : Ending) (w' : World) : Prop := e = .returned (.bool b) ∧ Kept Nix w w'

set_option maxRecDepth 100000 in
set_option maxHeartbeats 400000 in
theorem texts_any (k : Int) (w : World) : Calls Tryz.prog 52 #[.int .i64 k] w (BoolQ (decide (isTextK k)) w) := by
  go_enter Tryz.func52, Tryz.ntmps52
  go_wp2_with fail
  refine (In_any k [3, 4, 5, 6, 7] _ (texts_list k) w.heap.size 5 3 (0, 0) _ (heap_alloc_new w _) (by decide)).mono ?_
  rintro e w' ⟨rfl, rfl⟩
  go_wp2_with fail
  go_ret
  exact ⟨rfl, (Kept.refl _ _).alloc _⟩
set_option maxRecDepth 100000 in
set_option maxHeartbeats 400000 in
theorem numbers_any (k : Int) (w : World) : Calls Tryz.prog 53 #[.int .i64 k] w (BoolQ (decide (isNumK k)) w) := by
  go_enter Tryz.func53, Tryz.ntmps53
  go_wp2_with fail
  refine (In_any k [2, 8, 9, 10, 11] _ (nums_list k) w.heap.size 5 3 (0, 0) _ (heap_alloc_new w _) (by decide)).mono ?_
  rintro e w' ⟨rfl, rfl⟩
  go_wp2_with fail
  go_ret
  exact ⟨rfl, (Kept.refl _ _).alloc _⟩

set_option maxRecDepth 100000 in
set_option maxHeartbeats 600000 in
theorem refNamed_any (s : ByteArray) (w : World) (hs : s.size ≤ maxLen) : Calls Tryz.prog 20 #[.string s] w (BoolQ (namedF s) w) := by
  unfold maxLen at hs
  have hcv := run_bytes_of_string (P := Tryz.prog) w 9 58 5 s Tryz.underlying9 Tryz.underlying58 Tryz.underlying5
  obtain ⟨w1, hw1⟩ : ∃ w1, w1 = (w.drew.alloc (.cells (bytesRow s (grownCap w s.size 0 5)) 5 ((bytesRow s (grownCap w s.size 0 5)).size, (bytesRow s (grownCap w s.size 0 5)).size + 1))) := ⟨_, rfl⟩
  rw [← hw1] at hcv
  generalize grownCap w s.size 0 5 = gc at hcv hw1
  have hK : Kept Nix w w1 := by rw [hw1]; exact ((Kept.refl Nix w).drew).alloc _
  have hcell : ∀ j (h : j < s.size), w1.cell? ⟨w.heap.size, j, none⟩ = some (.int .u8 s[j].toNat) := by
    intro j h; rw [hw1]; show ((w.drew.alloc _).cell? ⟨w.drew.heap.size, j, none⟩) = _
    rw [World.cell?_alloc_mark, bytesRow_at s gc j h]; rfl
  have HK := Lib.hid hK; have HC := Lib.hid hcell; clear hw1 hK hcell
  go_enter Tryz.func20, Tryz.ntmps20
  go_wp2_with fail
  go_loop [10] (fun i => ∃ k : Nat, k ≤ s.size ∧ i = .int .i64 k ∧ Hid (∀ j, j < k → namedAt j (s.data.toList.getD j 0) = true)) (fun i => s.size - (intOf i).toNat)
  case atStart => exact ⟨0, Nat.zero_le _, rfl, by intro j hj; omega⟩
  case round =>
    obtain ⟨k, hk, rfl, hok⟩ := hrel
    by_cases hlt : k < s.size
    · have hcell := HC.out k hlt
      have step : namedAt k s[k] = true → ∀ j, j < k + 1 → namedAt j (s.data.toList.getD j 0) = true := by
        intro hn j hj
        rcases Nat.lt_or_ge j k with h | h
        · exact hok.out j h
        · obtain rfl : j = k := by omega
          rw [getD_at hlt]; exact hn
      have Step := Lib.hid step; clear step
      obtain ⟨c, hc⟩ : ∃ c, c = s[k] := ⟨_, rfl⟩
      rw [← hc] at hcell Step
      have hno : namedAt k c = false → namedF s = false := fun h => named_no hlt (by rw [← hc]; exact h)
      have HN := Lib.hid hno
      have b255 : c.toNat < 256 := c.toNat_lt
      clear hc hno
      have key : (namedAt k c = true ∧ ∃ x65 x90 x48 x57 x0 : Bool, decide ((65 : Int) ≤ (c.toNat : Int)) = x65 ∧ decide ((c.toNat : Int) ≤ 90) = x90 ∧ decide ((48 : Int) ≤ (c.toNat : Int)) = x48 ∧ decide ((c.toNat : Int) ≤ 57) = x57 ∧ decide ((0 : Int) < (k : Int)) = x0 ∧ ((x65 && x90) || (x48 && x57 && x0)) = true) ∨
          (namedAt k c = false ∧ ∃ x65 x90 x48 x57 x0 : Bool, decide ((65 : Int) ≤ (c.toNat : Int)) = x65 ∧ decide ((c.toNat : Int) ≤ 90) = x90 ∧ decide ((48 : Int) ≤ (c.toNat : Int)) = x48 ∧ decide ((c.toNat : Int) ≤ 57) = x57 ∧ decide ((0 : Int) < (k : Int)) = x0 ∧ ((x65 && x90) || (x48 && x57 && x0)) = false) := by
        have e : namedAt k c = ((decide ((65 : Int) ≤ (c.toNat : Int)) && decide ((c.toNat : Int) ≤ 90)) || (decide ((48 : Int) ≤ (c.toNat : Int)) && decide ((c.toNat : Int) ≤ 57) && decide ((0 : Int) < (k : Int)))) := by
          rw [Bool.eq_iff_iff]; simp [namedAt, upperN, digitN]; omega
        cases h : namedAt k c
        · exact .inr ⟨rfl, _, _, _, _, _, rfl, rfl, rfl, rfl, rfl, by rw [← e, h]⟩
        · exact .inl ⟨rfl, _, _, _, _, _, rfl, rfl, rfl, rfl, rfl, by rw [← e, h]⟩
      rcases key with ⟨hn, x65, x90, x48, x57, x0, h65, h90, h48, h57, h0, hx⟩ | ⟨hn, x65, x90, x48, x57, x0, h65, h90, h48, h57, h0, hx⟩
      · have h0' : decide (0 < k) = x0 := by rw [← h0]; exact decide_eq_decide.2 (by omega)
        have ST := Lib.hid (Step.out hn); clear hn b255
        cases x65 <;> cases x90 <;> cases x48 <;> cases x57 <;> cases x0 <;> first
          | (simp at hx; done)
          | (clear hx
             go_wp2_with fail
             go_round
             case rel => exact ⟨k + 1, by omega, by go_num, ST.out⟩
             case measure => simp [intOf]; omega)
          | (exfalso; simp only [decide_eq_true_eq, decide_eq_false_iff_not] at h65 h90 h48 h57 h0; omega)
      · have h0' : decide (0 < k) = x0 := by rw [← h0]; exact decide_eq_decide.2 (by omega)
        have fin := Lib.hid (HN.out hn); clear hn b255
        cases x65 <;> cases x90 <;> cases x48 <;> cases x57 <;> cases x0 <;> first
          | (simp at hx; done)
          | (clear hx
             go_wp2_with fail
             go_ret
             exact ⟨by rw [fin.out]; try rfl, HK.out⟩)
          | (exfalso; simp only [decide_eq_true_eq, decide_eq_false_iff_not] at h65 h90 h48 h57 h0; omega)
    · obtain rfl : k = s.size := by omega
      by_cases h1 : 1 ≤ s.size ∧ s.size ≤ 16
      · have fin := Lib.hid (named_yes h1.1 h1.2 hok.out)
        go_wp2_with fail
        go_ret
        exact ⟨ret_bool (by rw [fin.out]; exact decide_eq_true (by omega)), HK.out⟩
      · have fin : Hid (namedF s = false) := by unfold Hid namedF; rcases (show ¬ 1 ≤ s.size ∨ ¬ s.size ≤ 16 by omega) with h | h <;> simp [h]
        rcases (show s.size < 1 ∨ 16 < s.size by omega) with h2 | h2
        · go_wp2_with fail
          go_ret
          exact ⟨ret_bool (by rw [fin.out]), HK.out⟩
        · go_wp2_with fail
          go_ret
          exact ⟨ret_bool (by rw [fin.out]; exact decide_eq_false (by omega)), HK.out⟩
end Go.Proofs.YtcfcdobgpldoiaaGreatDoor
