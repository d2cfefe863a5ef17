/- syntax.named, syntax.target, and the document's target. -/
import Derived.Test.YtcfcdobgpldoiaaGreatDoorSm13
import Derived.Test.YtcfcdobgpldoiaaGreatDoorEx3
import Derived.Test.YtcfcdobgpldoiaaGreatDoorSm15
namespace Go.Proofs.YtcfcdobgpldoiaaGreatDoor
set_option linter.all false
open Go.RowKit

theorem namedE_drop (l : List ByteArray) (j : Nat) (h : j < l.length) : namedE (l.drop j) = if namedF l[j] = true then namedE (l.drop (j + 1)) else 7 := by
  rw [List.drop_eq_getElem_cons h, namedE]
theorem strs_row {w : World} {b : Nat} {l : List ByteArray} {t : TypeId} {fr : Nat × Nat} (h : w.heap[b]? = some (.cells (l.map Value.string).toArray t fr)) {S : Nat → Prop} (hS : S b) : StrsAt w S (some ⟨b, 0, none⟩) l := by
  intro _
  refine ⟨b, 0, rfl, hS, fun i hi => ?_⟩
  rw [cell_of_row w b (0 + i) _ t fr h]; simp [hi]

set_option maxRecDepth 100000 in
set_option maxHeartbeats 1000000 in
theorem named_list (l : List ByteArray) (a : Option Addr) (cap : Nat) (S : Nat → Prop) (w : World) (hl : StrsAt w S a l) (hz : l.length < 1000000000 ∧ ∀ x ∈ l, x.size < 1000000000) :
    Calls Tryz.prog 19 #[.slice a l.length cap] w fun e w' => e = .returned (.int .i64 (namedE l)) ∧ w' = w := by
  have HL := Lib.hid hl; have HZ := Lib.hid hz.2
  have hzl := hz.1
  clear hl hz
  go_enter Tryz.func19, Tryz.ntmps19
  go_wp2_with fail
  go_loop [7] (fun i => ∃ j : Nat, j ≤ l.length ∧ i = .int .i64 j ∧ Hid (namedE l = namedE (l.drop j))) (fun i => l.length - (intOf i).toNat)
  case atStart => exact ⟨0, Nat.zero_le _, rfl, by unfold Hid; rw [List.drop_zero]⟩
  case round =>
    obtain ⟨j, hj, rfl, hno⟩ := hrel
    by_cases hlt : j < l.length
    · obtain ⟨b, o, rfl, _, hc⟩ := HL.out (by omega)
      have hcj := hc j hlt
      have hn : (l[j]).size ≤ maxLen := by have := HZ.out l[j] (List.getElem_mem hlt); unfold maxLen; omega
      have hd := namedE_drop l j hlt
      clear hc
      cases hb : namedF l[j] with
      | true =>
        rw [if_pos hb] at hd
        have step := Lib.hid (hno.out.trans hd)
        have HB := Lib.hid hb
        clear hd hb
        go_wp2_with (go_at_call 16; (with_reducible refine (named_any _ _ hn).mono ?_); rintro e w' ⟨rfl, rfl⟩; rw [HB.out])
        go_round
        case rel => exact ⟨j + 1, by omega, by go_num, step⟩
        case measure => simp [intOf]; omega
      | false =>
        rw [if_neg (by simp [hb])] at hd
        have fin := Lib.hid (hno.out.trans hd)
        have HB := Lib.hid hb
        clear hd hb
        go_wp2_with (go_at_call 16; (with_reducible refine (named_any _ _ hn).mono ?_); rintro e w' ⟨rfl, rfl⟩; rw [HB.out])
        go_ret
        exact ⟨by rw [fin.out]; try rfl, rfl⟩
    · obtain rfl : j = l.length := by omega
      have fin : Hid (namedE l = 0) := by unfold Hid; rw [hno.out, List.drop_length, namedE]
      go_wp2_with fail
      go_ret
      exact ⟨by rw [fin.out]; try rfl, rfl⟩

set_option maxRecDepth 100000 in
theorem target_any (p : PatT) (v : Value) (S : Nat → Prop) (w : World) (hp : PatV w S v p) : Calls Tryz.prog 18 #[v] w (BoolQ (decide (isTarget p)) w) := by
  obtain ⟨ka, cap, rfl, hz, hk⟩ := hp
  by_cases h : isTarget p
  · have hb : Hid (decide (isTarget p) = true) := decide_eq_true h
    have h' := h; unfold isTarget at h'
    rcases h' with h' | h' | h'
    all_goals
      rw [h']
      clear h
      go_enter Tryz.func18, Tryz.ntmps18
      go_wp2_with fail
      go_ret
      exact ⟨by rw [hb.out]; try rfl, (Kept.refl _ _).alloc _⟩
  · have hb : Hid (decide (isTarget p) = false) := decide_eq_false h
    have h' := h; unfold isTarget at h'
    have e1 : (p.kind == 3) = false := by simp; omega
    have e2 : (p.kind == 4) = false := by simp; omega
    have e3 : (p.kind == 5) = false := by simp; omega
    clear h h'
    go_enter Tryz.func18, Tryz.ntmps18
    go_wp2_with fail
    go_ret
    exact ⟨by rw [hb.out]; try rfl, (Kept.refl _ _).alloc _⟩
set_option maxRecDepth 100000 in
theorem refTarget_any (p : PatT) (v : Value) (S : Nat → Prop) (w : World) (hp : PatV w S v p) : Calls Tryz.prog 21 #[v] w (BoolQ (decide (isTarget p)) w) := by
  obtain ⟨ka, cap, rfl, hz, hk⟩ := hp
  by_cases h : isTarget p
  · have hb : Hid (decide (isTarget p) = true) := decide_eq_true h
    have h' := h; unfold isTarget at h'
    rcases h' with h' | h' | h'
    all_goals
      rw [h']
      clear h
      go_enter Tryz.func21, Tryz.ntmps21
      go_wp2_with fail
      go_ret
      exact ⟨by rw [hb.out]; try rfl, (Kept.refl _ _).alloc _⟩
  · have hb : Hid (decide (isTarget p) = false) := decide_eq_false h
    have h' := h; unfold isTarget at h'
    have e1 : (p.kind == 3) = false := by simp; omega
    have e2 : (p.kind == 4) = false := by simp; omega
    have e3 : (p.kind == 5) = false := by simp; omega
    clear h h'
    go_enter Tryz.func21, Tryz.ntmps21
    go_wp2_with fail
    go_ret
    exact ⟨by rw [hb.out]; try rfl, (Kept.refl _ _).alloc _⟩
end Go.Proofs.YtcfcdobgpldoiaaGreatDoor
