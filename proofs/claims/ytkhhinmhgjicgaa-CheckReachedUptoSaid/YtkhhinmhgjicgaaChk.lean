/- The walk of CheckTells. -/
import Derived.Test.YtkhhinmhgjicgaaRq
import Derived.Test.YtkhhinmhgjicgaaRr
import Derived.BigQuiet
namespace Go.Proofs.Ytkhhinmhgjicgaa
set_option linter.all false
open Go.RowKit

theorem reach_same {l : List StT} {o p : Nat → Bool} (h1 : ∀ i, o i = true ↔ Rch l i) (h2 : ∀ i, p i = true ↔ Rch l i) : o = p := by
  funext i
  rw [Bool.eq_iff_iff, h1, h2]
/-- What both answer where something is wrong; where all is right. -/
theorem ReachQ.bad {l : List StT} {w : World} {e : Ending} {w' : World} (h : ReachQ l w e w') (hc : (checkF l).1 ≠ 0) : e = .returned (.tuple #[.slice none 0 0, .agg #[.int .i64 (checkF l).1, .int .i64 ((checkF l).2 : Int)]]) ∧ Kept Nix w w' := ⟨h.2.1 hc, h.1⟩
theorem ReachQ.good {l : List StT} {w : World} {e : Ending} {w' : World} (h : ReachQ l w e w') (hc : (checkF l).1 = 0) : ∃ B o, e = .returned (.tuple #[.slice (some ⟨B, 0, none⟩) l.length l.length, .agg #[.int .i64 0, .int .i64 0]]) ∧ BRow w' B l.length o ∧ (∀ i, o i = true ↔ Rch l i) ∧ Kept Nix w w' := by
  obtain ⟨B, o, h1, h2, h3, _⟩ := h.2.2 hc
  exact ⟨B, o, h1, h2, h3, h.1⟩
set_option maxRecDepth 100000 in
set_option maxHeartbeats 4000000 in
theorem checkTells_walk (l : List StT) (al : Option Addr) (cl : Nat) (n : ByteArray) (w : World) (hl : StsAt w (· < w.heap.size) al l) (hlen : l.length ≤ 1048576) :
    Calls Try.prog 3 #[.slice al l.length cl, .string n] w (BoolQ true w) := by
  have hC := check_any l al cl _ w hl (Safe.lt (Nat.le_refl _)) hlen
  have HA : Hid (∀ wy, Kept Nix w wy → StsAt wy (· < w.heap.size) al l ∧ Safe (· < w.heap.size) Nix wy.heap.size) := fun wy hk => ⟨hl.to hk (Safe.lt (Nat.le_refl _)) (fun _ h => h), Safe.lt hk.size⟩
  have HC := Lib.hid hC
  clear hC hl
  by_cases hc : (checkF l).1 = 0
  rotate_left
  · have HCC := Lib.hid hc
    clear hc
    go_enter Try.func3, Try.ntmps3
    go_wp2_with (first
      | (go_at_call 5; (refine HC.out.mono ?_); rintro e w1 ⟨rfl, k1_⟩; have K1 := Lib.hid k1_; clear k1_)
      | (go_at_call 6; (refine (refCheck_any l al cl _ w1 (HA.out _ K1.out).1 (HA.out _ K1.out).2 hlen).mono ?_); rintro e w2 ⟨rfl, k2_⟩; have K2 := Lib.hid (K1.out.trans k2_); clear k2_)
      | (go_at_call 7; (refine (builtin_any n w2).mono ?_); rintro e w' ⟨rfl, hw_⟩; obtain rfl := hw_.symm)
      | (go_at_call 8; (refine (args_any n w2).mono ?_); rintro e w3 ⟨rfl, k3_⟩; have K3 := Lib.hid (K2.out.trans k3_); clear k3_)
      | (go_at_call 9; (refine (reached_any l al cl _ w3 (HA.out _ K3.out).1 (HA.out _ K3.out).2 hlen).mono ?_); rintro e w4 h_; obtain ⟨rfl, k4_⟩ := h_.bad HCC.out; have K4 := Lib.hid (K3.out.trans k4_); clear k4_; have K5 : Hid (Kept Nix w (w4.alloc (.cells #[.int .i64 (checkF l).1, .int .i64 ((checkF l).2 : Int)] 25))) := K4.out.alloc _; have G5 : Hid (Fl w4.heap.size (checkF l).1 ((checkF l).2 : Int) (w4.alloc (.cells #[.int .i64 (checkF l).1, .int .i64 ((checkF l).2 : Int)] 25))) := heap_alloc_new w4 _)
      | (go_at_call 10; (refine (refReached_any l al cl _ _ (HA.out _ K5.out).1 (HA.out _ K5.out).2 hlen).mono ?_); rintro e w6 h_; obtain ⟨rfl, k6_⟩ := h_.bad HCC.out; have K6 := Lib.hid (K5.out.trans k6_); have G6 := G5.out.kept (k6_.alloc (.cells #[.int .i64 (checkF l).1, .int .i64 ((checkF l).2 : Int)] 25)) (fun h => h); obtain ⟨g0, g1, g2, g3⟩ := G6.cells; clear k6_))
    have K7 : Hid (Kept Nix w (w6.alloc (.cells #[.int .i64 (checkF l).1, .int .i64 ((checkF l).2 : Int)] 25))) := K6.out.alloc _
    go_loopw [54] (fun i wr => i = .int .i64 0 ∧ Kept Nix w wr) (fun _ _ => 0)
    case atStart => exact ⟨rfl, K7.out⟩
    case round =>
      obtain ⟨rfl, hk⟩ := hrel
      go_wp2_with fail
      go_ret
      exact ⟨rfl, hk⟩
  have HCC := Lib.hid hc
  clear hc
  go_enter Try.func3, Try.ntmps3
  go_upto_region 12 with (first
    | (go_at_call 5; (refine HC.out.mono ?_); rintro e w1 ⟨rfl, k1_⟩; have K1 := Lib.hid k1_; clear k1_)
    | (go_at_call 6; (refine (refCheck_any l al cl _ w1 (HA.out _ K1.out).1 (HA.out _ K1.out).2 hlen).mono ?_); rintro e w2 ⟨rfl, k2_⟩; have K2 := Lib.hid (K1.out.trans k2_); clear k2_)
    | (go_at_call 7; (refine (builtin_any n w2).mono ?_); rintro e w' ⟨rfl, hw_⟩; obtain rfl := hw_.symm)
    | (go_at_call 8; (refine (args_any n w2).mono ?_); rintro e w3 ⟨rfl, k3_⟩; have K3 := Lib.hid (K2.out.trans k3_); clear k3_)
    | (go_at_call 9; (refine (reached_any l al cl _ w3 (HA.out _ K3.out).1 (HA.out _ K3.out).2 hlen).mono ?_); rintro e w4 h_; obtain ⟨Ba, oa, rfl, ba_, ra_, k4_⟩ := h_.good HCC.out; have BA4 := Lib.hid ba_; have RA := Lib.hid ra_; have K4 := Lib.hid (K3.out.trans k4_); clear k4_ ba_ ra_ h_; have K5 : Hid (Kept Nix w (w4.alloc (.cells #[.int .i64 0, .int .i64 0] 25))) := K4.out.alloc _; have G5 : Hid (Fl w4.heap.size 0 0 (w4.alloc (.cells #[.int .i64 0, .int .i64 0] 25))) := heap_alloc_new w4 _)
    | (go_at_call 10; (refine (refReached_any l al cl _ _ (HA.out _ K5.out).1 (HA.out _ K5.out).2 hlen).mono ?_); rintro e w6 h_; obtain ⟨Bb, ob, rfl, bb_, rb_, k6_⟩ := h_.good HCC.out; have BB6 := Lib.hid bb_; have BA6 := Lib.hid (BA4.out.kept (((Kept.refl Nix w4).alloc _).trans k6_) (fun h => h)); have RB := Lib.hid rb_; have K6 := Lib.hid (K5.out.trans k6_); have G6 := G5.out.kept (k6_.alloc (.cells #[.int .i64 0, .int .i64 0] 25)) (fun h => h); obtain ⟨g0, g1, g2, g3⟩ := G6.cells; clear k6_ bb_ rb_ h_))
  obtain ⟨w7, hw7⟩ : ∃ w7, w7 = w6.alloc (.cells #[.int .i64 0, .int .i64 0] 25) := ⟨_, rfl⟩
  have k7 : Kept Nix w6 w7 := by rw [hw7]; exact (Kept.refl _ _).alloc _
  have BA7 := Lib.hid (BA6.out.kept k7 (fun h => h)); have BB7 := Lib.hid (BB6.out.kept k7 (fun h => h)); have K7 : Hid (Kept Nix w w7) := K6.out.trans k7
  have HAB : Hid (oa = ob) := reach_same RA.out RB.out
  have HW7 := Lib.hid hw7
  clear hw7 k7 g0 g1 g2 g3
  rw [← HW7.out]
  go_loopw [54] (fun i wr => ∃ j : Nat, j ≤ l.length ∧ i = .int .i64 j ∧ Kept Nix w7 wr) (fun i _ => l.length - (intOf i).toNat)
  case atStart => exact ⟨0, Nat.zero_le _, rfl, Kept.refl _ _⟩
  case round =>
    obtain ⟨j, hj, rfl, hk⟩ := hrel
    have KR := Lib.hid hk
    clear hk
    by_cases hlt : j < l.length
    · have x1 := (BA7.out.kept KR.out (fun h => h)).cell hlt
      have x2 := (BB7.out.kept KR.out (fun h => h)).cell hlt
      rw [HAB.out] at x1
      generalize ob j = bv at x1 x2
      go_wp2_with fail
      go_quiet (fail)
      go_wp2_with fail
      go_roundw
      case rel => exact ⟨j + 1, by omega, by go_num, KR.out.drewN _⟩
      case measure => simp [intOf]; omega
    · obtain rfl : j = l.length := by omega
      go_wp2_with fail
      go_ret
      exact ⟨rfl, K7.out.trans KR.out⟩
end Go.Proofs.Ytkhhinmhgjicgaa
