/- check.Check; check.may. -/
import Derived.Test.YtkhhinmhgjicgaaPg3
namespace Go.Proofs.Ytkhhinmhgjicgaa
set_option linter.all false
open Go.RowKit

set_option maxRecDepth 100000 in
set_option maxHeartbeats 2000000 in
theorem check_any (l : List StT) (al : Option Addr) (cl : Nat) (S : Nat → Prop) (w : World) (hl : StsAt w S al l) (hS : Safe S Nix w.heap.size) (hlen : l.length ≤ 1048576) :
    Calls Try.prog 5 #[.slice al l.length cl] w (FaultQ (checkF l) w) := by
  obtain ⟨w1, hw1⟩ : ∃ w1, w1 = w.alloc (.cells #[.int .i64 0, .int .i64 0] 25) := ⟨_, rfl⟩
  have k1 : Kept Nix w w1 := by rw [hw1]; exact (Kept.refl Nix w).alloc _
  have F1 : Hid (Fl w.heap.size 0 0 w1) := by rw [hw1]; exact heap_alloc_new w _
  have HP := Lib.hid (program_any l al cl S w1 (hl.to k1 hS (fun _ h => h)) (hS.mono k1.size) hlen)
  have HW1 := Lib.hid hw1; have K1 := Lib.hid k1
  clear hl hS k1 hw1
  obtain ⟨f0, f1, f2, f3⟩ := F1.out.cells
  go_enter Try.func5, Try.ntmps5
  go_upto_region 1 with fail
  rw [← HW1.out]
  clear HW1 f0 f1 f2 f3
  go_wp2_with (go_at_call 12; (refine HP.out.mono ?_); rintro e w2 ⟨p, rfl, k2_, _, _⟩; have K2 := Lib.hid k2_; have F2 := Lib.hid (F1.out.kept k2_ (fun h => h)); clear k2_; have F3 := Lib.hid (F2.out.kept ((Kept.refl Nix w2).alloc (.cells #[.int .i64 (checkF l).1, .int .i64 ((checkF l).2 : Int)] 25)) (fun h => h)); obtain ⟨f0, f1, f2, f3⟩ := F3.out.cells)
  exact ret_fault rfl rfl (F3.out.set _ _) rfl (((K1.out.trans K2.out).alloc _).step (((Kept.refl (· = w.heap.size) _).setCell (p := ⟨w.heap.size, 0, none⟩) (.inl rfl) _).setCell (p := ⟨w.heap.size, 1, none⟩) (.inl rfl) _) (fun y hy => .inr (by subst hy; exact Nat.le_refl _)))

set_option maxRecDepth 100000 in
theorem may_any (s : StT) (b : Nat) (o : Nat) (w : World) (h1 : w.cell? ⟨b, o + 1, none⟩ = some (.int .i64 s.kind)) :
    Calls Try.prog 38 #[.pointer (some ⟨b, o, none⟩)] w fun e w' => e = .returned (.bool (decide (s.kind ≠ 1 ∧ s.kind ≠ 6 ∧ s.kind ≠ 7))) ∧ w' = w := by
  by_cases h2 : s.kind = 1
  · have e2 : (s.kind != 1) = false := by simpa using h2
    have fin : Hid (decide (s.kind ≠ 1 ∧ s.kind ≠ 6 ∧ s.kind ≠ 7) = false) := by unfold Hid; simp [h2]
    clear h2
    go_enter Try.func38, Try.ntmps38
    go_wp2_with fail
    go_ret
    exact ⟨by rw [fin.out]; rfl, rfl⟩
  have e2 : (s.kind != 1) = true := by simpa using h2
  by_cases h6 : s.kind = 6
  · have e6 : (s.kind != 6) = false := by simpa using h6
    have fin : Hid (decide (s.kind ≠ 1 ∧ s.kind ≠ 6 ∧ s.kind ≠ 7) = false) := by unfold Hid; simp [h6]
    clear h2 h6
    go_enter Try.func38, Try.ntmps38
    go_wp2_with fail
    go_ret
    exact ⟨by rw [fin.out]; rfl, rfl⟩
  have e6 : (s.kind != 6) = true := by simpa using h6
  by_cases h7 : s.kind = 7
  · have e7 : (s.kind != 7) = false := by simpa using h7
    have fin : Hid (decide (s.kind ≠ 1 ∧ s.kind ≠ 6 ∧ s.kind ≠ 7) = false) := by unfold Hid; simp [h7]
    clear h2 h6 h7
    go_enter Try.func38, Try.ntmps38
    go_wp2_with fail
    go_ret
    exact ⟨by rw [fin.out]; rfl, rfl⟩
  have e7 : (s.kind != 7) = true := by simpa using h7
  have fin : Hid (decide (s.kind ≠ 1 ∧ s.kind ≠ 6 ∧ s.kind ≠ 7) = true) := by unfold Hid; simp [h2, h6, h7]
  clear h2 h6 h7
  go_enter Try.func38, Try.ntmps38
  go_wp2_with fail
  go_ret
  exact ⟨by rw [fin.out]; rfl, rfl⟩
end Go.Proofs.Ytkhhinmhgjicgaa
