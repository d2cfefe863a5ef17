/- The document's Print of a statement. -/
import Derived.Test.YtcfcdobgpldoiaaGreatDoorPr4k
namespace Go.Proofs.YtcfcdobgpldoiaaGreatDoor
set_option linter.all false
open Go.RowKit

set_option maxRecDepth 100000 in
set_option maxHeartbeats 16000000 in
theorem refPrint_st (s : StT) (a : StA) (w : World) (hz : StSz s) (ho : StOk w (· < w.heap.size) a s) (hx : StX a s) (hg : GlobW w) : Calls Tryz.prog 9 #[stVal a s] w (PrintSQ s w) := by
  have hWr : Hid (∀ wy, Kept Nix w wy → Calls Tryz.prog 7 #[stVal a s] wy (IntQ (wrongS s) wy)) := fun wy hk => refWrong_st s _ (· < wy.heap.size) wy ⟨a, rfl, hz, ho.to hk (Safe.lt (Nat.le_refl _)) (fun _ h => Nat.lt_of_lt_of_le h hk.size)⟩ (Safe.lt (Nat.le_refl _))
  have B1 := StB.new w a s
  have k1 : Kept Nix w _ := (Kept.refl Nix w).alloc (.cells (stCells a s).toArray 33)
  unfold stCells at k1
  unfold stVal
  generalize hw1 : World.alloc w _ = w1 at B1 k1
  have I1 : Hid (PrI w.heap.size a s w w1) := ⟨B1, ho.to k1 (Safe.lt (Nat.le_refl _)) (fun _ h => h), k1⟩
  have HHC := Lib.hid (stB_hc B1)
  have HG := Lib.hid hg; have HX := Lib.hid hx; have HZ := Lib.hid hz
  have HW1 := Lib.hid hw1
  clear hw1 B1 k1 ho hg hx hz
  obtain ⟨N, hN⟩ : ∃ x, x = w.heap.size := ⟨_, rfl⟩
  by_cases hw0 : wrongS s = 0
  rotate_left
  · have z1 : (wrongS s != 0) = true := by simpa using hw0
    have fin : Hid (printS s = ([], wrongS s)) := by unfold Hid printS; rw [if_pos hw0]
    clear hw0 hN
    go_enter Tryz.func9, Tryz.ntmps9
    go_upto_region 1 with fail
    rw [HW1.out]
    go_wp2_with (first
      | (refine wpList_load_st rfl _ rfl w.heap.size 0 rfl a s HHC.out ?_)
      | (go_at_call 7; (refine (hWr.out w1 I1.out.keep).mono ?_); rintro e w2 ⟨rfl, k2_⟩; have K2 := Lib.hid (I1.out.keep.trans k2_); clear k2_))
    go_ret2
    exact ⟨by rw [fin.out]; rfl, K2.out⟩
  have hr := right_st hw0
  have hvo : s.kind = 2 ∨ s.kind = 3 ∨ s.kind = 4 ∨ s.kind = 5 → OkX s.value ∧ sizeT s.value ≤ 4096 := fun h => expr_ok (hr.value h) HX.out.value
  have hto : s.kind = 3 ∨ s.kind = 5 → OkX s.target ∧ sizeT s.target ≤ 4096 := fun h => expr_ok (hr.target h) HX.out.target
  have HR := Lib.hid hr; have HVO := Lib.hid hvo; have HTO := Lib.hid hto; have HW0 := Lib.hid hw0
  clear hr hvo hto hw0
  have hPP : Hid (∀ wy, PrI w.heap.size a s w wy → Calls Tryz.prog 27 #[aggP a s] wy (PrintQ s.pat wy)) := fun wy I => rprint_any s.pat _ wy (PatV.here (w0 := w) (I.pat HZ.out) I.keep.size) (by have := HZ.out.pat.t; omega)
  unfold aggP at hPP
  have hpl := pat_le s
  go_enter Tryz.func9, Tryz.ntmps9
  go_upto_region 1 with fail
  rw [HW1.out]
  go_upto_region 5 with (first
    | (refine wpList_load_st rfl _ rfl w.heap.size 0 rfl a s HHC.out ?_)
    | (go_at_call 7; (refine (hWr.out w1 I1.out.keep).mono ?_); rintro e w2 ⟨rfl, k2_⟩; rw [HW0.out]; have I2 := Lib.hid (I1.out.next k2_); clear k2_))
  clear I1 HHC HW1
  rw [← hN] at I2 hPP ⊢
  clear hN
  obtain ⟨c0, c1, -⟩ := I2.out.box.cells
  go_cut [28] (fun c wx => c = .bool (decide (hasPat s)) ∧ w2 = wx)
  case first =>
    by_cases k4 : s.kind = 4
    · have z4 : (s.kind == 4) = true := by simpa using k4
      have fin : Hid (decide (hasPat s) = true) := decide_eq_true (.inl k4)
      clear k4
      go_wp2_with fail
      go_meet
      exact ⟨by rw [fin.out], rfl⟩
    have z4 : (s.kind == 4) = false := by simpa using k4
    by_cases k5 : s.kind = 5
    · have z5 : (s.kind == 5) = true := by simpa using k5
      have fin : Hid (decide (hasPat s) = true) := decide_eq_true (.inr (.inl k5))
      clear k5 k4
      go_wp2_with fail
      go_meet
      exact ⟨by rw [fin.out], rfl⟩
    have z5 : (s.kind == 5) = false := by simpa using k5
    by_cases k6 : s.kind = 6
    · have z6 : (s.kind == 6) = true := by simpa using k6
      have fin : Hid (decide (hasPat s) = true) := decide_eq_true (.inr (.inr k6))
      clear k6 k5 k4
      go_wp2_with fail
      go_meet
      exact ⟨by rw [fin.out], rfl⟩
    have z6 : (s.kind == 6) = false := by simpa using k6
    have fin : Hid (decide (hasPat s) = false) := decide_eq_false (by unfold hasPat; omega)
    clear k6 k5 k4
    go_wp2_with fail
    go_meet
    exact ⟨by rw [fin.out], rfl⟩
  case rest =>
  obtain ⟨rfl, rfl⟩ := hcut
  clear c0 c1
  obtain ⟨c0, c1, c2, c3, c4, c5, c6, c7, c8, c9, c10, c11, c12, c13, c14, c15, c16, c17, c18, c19, c20, c21, c22, c23⟩ := I2.out.box.cells
  by_cases hbad : hasPat s ∧ (printF s.pat).2 ≠ 0
  · have zb : ((printF s.pat).2 != 0) = true := by simpa using hbad.2
    have fin : Hid (printS s = ([], (printF s.pat).2)) := by unfold Hid printS; rw [if_neg (by simp [HW0.out]), if_pos hbad]
    rw [decide_eq_true hbad.1]
    clear hbad
    go_wp2_with (go_at_call 27; (refine (hPP.out w2 I2.out).mono ?_); rintro e w3 ⟨rfl, k3_⟩; have K3 := Lib.hid (I2.out.keep.trans k3_); clear k3_)
    go_ret2
    exact ⟨by rw [fin.out]; rfl, K3.out⟩
  have HBAD := Lib.hid hbad
  go_upto_if 28 with fail
  go_cut [5] (fun v wx => v = .string ⟨(patS s).toArray⟩ ∧ PrI N a s w wx)
  case first =>
    by_cases hp : hasPat s
    · have h0 : (printF s.pat).2 = 0 := Classical.not_not.1 fun h => hbad ⟨hp, h⟩
      have fin : Hid ((⟨#[91]⟩ : ByteArray) ++ ⟨(printF s.pat).1.toArray⟩ ++ ⟨#[93]⟩ = ⟨(patS s).toArray⟩) := by unfold Hid patS; rw [if_pos hp]; exact bytes_eq (by simp [ByteArray.data_append])
      have hsz : (printF s.pat).1.length ≤ 65540 := by unfold patS at hpl; rw [if_pos hp] at hpl; simp only [List.length_cons, List.length_append] at hpl; omega
      have H0 := Lib.hid h0
      rw [decide_eq_true hp]
      clear hbad hp h0
      go_wp2_with (go_at_call 27; (refine (hPP.out w2 I2.out).mono ?_); rintro e w3 ⟨rfl, k3_⟩; rw [H0.out]; have I3 := Lib.hid (I2.out.next k3_); clear k3_)
      go_meet
      exact ⟨congrArg Value.string fin.out, I3.out⟩
    · have fin : Hid (patS s = []) := if_neg hp
      rw [decide_eq_false hp]
      clear hbad hp
      go_wp2_with fail
      go_meet
      exact ⟨by rw [fin.out], I2.out⟩
  case rest =>
  obtain ⟨rfl, hI3⟩ := hcut
  obtain ⟨w3, hw3⟩ : ∃ x, x = wc := ⟨_, rfl⟩
  rw [← hw3] at hI3 ⊢
  have I3 := Lib.hid hI3
  apply_assumption
  exact pc_kind ⟨I3.out, HZ.out, HR.out, HVO.out, HTO.out, HW0.out, HBAD.out⟩
end Go.Proofs.YtcfcdobgpldoiaaGreatDoor
