/- The document's count of an expression. -/
import Derived.Test.YtkhhinmhgjicgaaEx1
import Derived.Test.YtkhhinmhgjicgaaRef4b
import Derived.Test.YtkhhinmhgjicgaaRef4c
namespace Go.Proofs.Ytkhhinmhgjicgaa
set_option linter.all false
open Go.RowKit

mutual
theorem depth_le_size : ∀ p : PatT, depthT p ≤ sizeT p
  | .mk k t n nm kids => by rw [depthT, sizeT]; have := depthL_le_size kids; omega
theorem depthL_le_size : ∀ l : List PatT, depthL l ≤ sizeL l
  | [] => by rw [depthL]; omega
  | p :: r => by rw [depthL, sizeL]; have := depth_le_size p; have := depthL_le_size r; omega
end
def CountQ (r : Nat × Nat) (w : World) (e : Ending) (w' : World) : Prop := e = .returned (.tuple #[.int .i64 (r.1 : Int), .int .i64 (r.2 : Int)]) ∧ Kept Nix w w'
theorem countL_drop (l : List PatT) (d n m j : Nat) (h : j < l.length) : countL (l.drop j) d n m =
    if 4096 < n + (countR l[j] (d + 1)).1 ∨ 200 < max m (countR l[j] (d + 1)).2 then (n + (countR l[j] (d + 1)).1, max m (countR l[j] (d + 1)).2)
    else countL (l.drop (j + 1)) d (n + (countR l[j] (d + 1)).1) (max m (countR l[j] (d + 1)).2) := by
  rw [List.drop_eq_getElem_cons h, countL]

set_option maxRecDepth 100000 in
set_option maxHeartbeats 2000000 in
theorem count_any : ∀ (m : Nat) (p : PatT) (v : Value) (S : Nat → Prop) (d : Nat) (w : World), sizeT p ≤ m → m ≤ 100000000 → d ≤ 201 → PatV w S v p → Safe S Nix w.heap.size →
    Calls Try.prog 47 #[v, .int .i64 d] w (CountQ (countR p d) w) := by
  intro m
  induction m with
  | zero => intro p v S d w hm; have := sizeT_pos p; omega
  | succ m ih =>
    intro p v S d w hm hmm hd hp hS
    obtain ⟨k, t, n, nm, kids⟩ := p
    obtain ⟨ka, cap, rfl, hz, hk⟩ := hp
    dsimp only [PatT.kind_mk, PatT.text_mk, PatT.n_mk, PatT.name_mk, PatT.kids_mk] at hz hk ⊢
    have hih : ∀ (j : Nat) (hj : j < kids.length) (v : Value) (w : World), PatV w S v kids[j] → Safe S Nix w.heap.size → Calls Try.prog 47 #[v, .int .i64 ((d + 1 : Nat) : Int)] w (CountQ (countR kids[j] (d + 1)) w) ∨ 200 < d :=
      fun j hj v w hv hs => by
        by_cases h2 : 200 < d
        · exact .inr h2
        · exact .inl (ih kids[j] v S (d + 1) w (by have := sizeT_get kids j hj; simp only [sizeT] at hm; omega) (by omega) (by omega) hv hs)
    have hle : ∀ (j : Nat) (hj : j < kids.length), (countR kids[j] (d + 1)).1 ≤ 100000000 ∧ (countR kids[j] (d + 1)).2 ≤ 200000000 := fun j hj => by
      have := count_le kids[j] (d + 1); have := sizeT_get kids j hj; have := depth_le_size kids[j]
      simp only [sizeT] at hm; omega
    have B0 := Box5.new w (.int .i64 k) (.string t) (.int .i64 n) (.string nm) (.slice ka kids.length cap) 35
    have K0 : Kept Nix w (w.alloc (.cells #[.int .i64 k, .string t, .int .i64 n, .string nm, .slice ka kids.length cap] 35)) := (Kept.refl _ _).alloc _
    obtain ⟨w0, hw0⟩ : ∃ w0, w0 = (w.alloc (.cells #[.int .i64 k, .string t, .int .i64 n, .string nm, .slice ka kids.length cap] 35)) := ⟨_, rfl⟩
    rw [← hw0] at B0 K0
    have HB := Lib.hid B0; have HK := Lib.hid K0; have HW := Lib.hid hw0; have HP := Lib.hid hk; have HS := Lib.hid hS
    have HIH := Lib.hid hih; have HLE := Lib.hid hle
    clear B0 K0 hw0 hk hS hih hle ih hm
    by_cases h2 : 200 < d
    · have hr : Hid (countR (.mk k t n nm kids) d = (1, d)) := by unfold Hid; rw [countR, if_pos h2]
      have hb : decide ((200 : Int) < (d : Int)) = true := decide_eq_true (by omega)
      go_enter Try.func47, Try.ntmps47
      go_upto_region 1 with fail
      rw [← HW.out]
      go_wp2_with fail
      exact bodyPost_ret (v := .tuple #[.int .i64 ((1 : Nat) : Int), .int .i64 (d : Int)]) (by simp [results, Try.results47, go_sem]) rfl ⟨by rw [hr.out], HK.out⟩
    · have hr : Hid (countR (.mk k t n nm kids) d = countL kids d 1 d) := by unfold Hid; rw [countR, if_neg h2]
      have hb : decide ((200 : Int) < (d : Int)) = false := decide_eq_false (by omega)
      have hwr : IntKind.i64.wrap ((d : Int) + 1) = (d : Int) + 1 := IntWalk.i64_in _ (by omega)
      have q4 := HB.out.h4
      go_enter Try.func47, Try.ntmps47
      go_upto_region 1 with fail
      rw [← HW.out]
      go_wp2_with fail
      go_loopw [6, 7, 20] (fun a b i wr => ∃ (j n1 m1 : Nat), j ≤ kids.length ∧ i = .int .i64 j ∧ a = .int .i64 (n1 : Int) ∧ b = .int .i64 (m1 : Int) ∧ n1 ≤ 4096 ∧ m1 ≤ 200 ∧ Hid (countR (.mk k t n nm kids) d = countL (kids.drop j) d n1 m1) ∧ Kept Nix w wr) (fun _ _ i _ => kids.length - (intOf i).toNat)
      case atStart => exact ⟨0, 1, d, Nat.zero_le _, rfl, rfl, rfl, by omega, by omega, by unfold Hid; rw [hr.out, List.drop_zero], HK.out⟩
      case round =>
        obtain ⟨j, n1, m1, hj, rfl, rfl, rfl, hn1, hm1, hno, hkw⟩ := hrel
        have KW := Lib.hid hkw
        by_cases hlt : j < kids.length
        · have hks := HP.out.kept hkw HS.out
          obtain ⟨b1, o1, rfl⟩ := PatsAt_head hks (by omega)
          obtain ⟨_, hz1, p0, p1, p2, p3, ka1, cap1, p4, hk1⟩ := (PatsAt_get kids b1 o1 j hlt hks).open
          have kA : Kept Nix wr (wr.alloc (.cells #[.int .i64 kids[j].kind, .string kids[j].text, .int .i64 kids[j].n, .string kids[j].name, .slice ka1 kids[j].kids.length cap1] 35)) := (Kept.refl _ _).alloc _
          have hSr := HS.out.mono hkw.size
          have hC := (HIH.out j hlt _ _ ⟨ka1, cap1, rfl, hz1, hk1.kept kA hSr⟩ (hSr.mono kA.size)).resolve_right h2
          have HC := Lib.hid hC
          have KA := Lib.hid (hkw.trans kA)
          have hdr := countL_drop kids d n1 m1 j hlt
          obtain ⟨l1, l2⟩ := HLE.out j hlt
          obtain ⟨⟨a, b⟩, hab⟩ : ∃ ab, ab = countR kids[j] (d + 1) := ⟨_, rfl⟩
          rw [← hab] at hdr l1 l2 HC
          dsimp only at hdr l1 l2
          have hw2 : IntKind.i64.wrap ((n1 : Int) + (a : Int)) = (n1 : Int) + (a : Int) := IntWalk.i64_in _ (by omega)
          clear hks hk1 kA hSr hC hkw hab
          by_cases hx : m1 < b
          · have e1 : decide ((m1 : Int) < (b : Int)) = true := decide_eq_true (by omega)
            have e1' : decide (m1 < b) = true := decide_eq_true hx
            rw [show max m1 b = b by omega] at hdr
            by_cases ho1 : 4096 < n1 + a
            · rw [if_pos (.inl ho1)] at hdr
              have fin := Lib.hid (hno.out.trans hdr)
              have e2 : decide ((4096 : Int) < (n1 : Int) + (a : Int)) = true := decide_eq_true (by omega)
              clear hdr ho1 hx
              go_wp2_with (go_at_call 47; rw [show (d : Int) + 1 = ((d + 1 : Nat) : Int) from rfl]; (with_reducible refine HC.out.mono ?_); rintro e w2 ⟨rfl, k_⟩; have K2 := Lib.hid (KA.out.trans k_); clear k_)
              exact bodyPost_ret (v := .tuple #[.int .i64 ((n1 + a : Nat) : Int), .int .i64 (b : Int)]) (by simp [results, Try.results47, go_sem]) rfl ⟨by rw [fin.out], K2.out⟩
            have e2 : decide ((4096 : Int) < (n1 : Int) + (a : Int)) = false := decide_eq_false (by omega)
            by_cases ho2 : 200 < b
            · rw [if_pos (.inr ho2)] at hdr
              have fin := Lib.hid (hno.out.trans hdr)
              have e3 : decide ((200 : Int) < (b : Int)) = true := decide_eq_true (by omega)
              clear hdr ho1 ho2 hx
              go_wp2_with (go_at_call 47; rw [show (d : Int) + 1 = ((d + 1 : Nat) : Int) from rfl]; (with_reducible refine HC.out.mono ?_); rintro e w2 ⟨rfl, k_⟩; have K2 := Lib.hid (KA.out.trans k_); clear k_)
              exact bodyPost_ret (v := .tuple #[.int .i64 ((n1 + a : Nat) : Int), .int .i64 (b : Int)]) (by simp [results, Try.results47, go_sem]) rfl ⟨by rw [fin.out], K2.out⟩
            · rw [if_neg (by omega)] at hdr
              have step := Lib.hid (hno.out.trans hdr)
              have e3 : decide ((200 : Int) < (b : Int)) = false := decide_eq_false (by omega)
              clear hdr
              go_wp2_with (go_at_call 47; rw [show (d : Int) + 1 = ((d + 1 : Nat) : Int) from rfl]; (with_reducible refine HC.out.mono ?_); rintro e w2 ⟨rfl, k_⟩; have K2 := Lib.hid (KA.out.trans k_); clear k_)
              go_roundw
              case rel => exact ⟨j + 1, n1 + a, b, by omega, by go_num, by go_num, rfl, by omega, by omega, step, K2.out⟩
              case measure => simp [intOf]; omega
          · have e1 : decide ((m1 : Int) < (b : Int)) = false := decide_eq_false (by omega)
            have e1' : decide (m1 < b) = false := decide_eq_false hx
            rw [show max m1 b = m1 by omega] at hdr
            by_cases ho1 : 4096 < n1 + a
            · rw [if_pos (.inl ho1)] at hdr
              have fin := Lib.hid (hno.out.trans hdr)
              have e2 : decide ((4096 : Int) < (n1 : Int) + (a : Int)) = true := decide_eq_true (by omega)
              clear hdr ho1 hx
              go_wp2_with (go_at_call 47; rw [show (d : Int) + 1 = ((d + 1 : Nat) : Int) from rfl]; (with_reducible refine HC.out.mono ?_); rintro e w2 ⟨rfl, k_⟩; have K2 := Lib.hid (KA.out.trans k_); clear k_)
              exact bodyPost_ret (v := .tuple #[.int .i64 ((n1 + a : Nat) : Int), .int .i64 (m1 : Int)]) (by simp [results, Try.results47, go_sem]) rfl ⟨by rw [fin.out], K2.out⟩
            have e2 : decide ((4096 : Int) < (n1 : Int) + (a : Int)) = false := decide_eq_false (by omega)
            by_cases ho2 : 200 < m1
            · rw [if_pos (.inr ho2)] at hdr
              have fin := Lib.hid (hno.out.trans hdr)
              have e3 : decide ((200 : Int) < (m1 : Int)) = true := decide_eq_true (by omega)
              clear hdr ho1 ho2 hx
              go_wp2_with (go_at_call 47; rw [show (d : Int) + 1 = ((d + 1 : Nat) : Int) from rfl]; (with_reducible refine HC.out.mono ?_); rintro e w2 ⟨rfl, k_⟩; have K2 := Lib.hid (KA.out.trans k_); clear k_)
              exact bodyPost_ret (v := .tuple #[.int .i64 ((n1 + a : Nat) : Int), .int .i64 (m1 : Int)]) (by simp [results, Try.results47, go_sem]) rfl ⟨by rw [fin.out], K2.out⟩
            · rw [if_neg (by omega)] at hdr
              have step := Lib.hid (hno.out.trans hdr)
              have e3 : decide ((200 : Int) < (m1 : Int)) = false := decide_eq_false (by omega)
              clear hdr
              go_wp2_with (go_at_call 47; rw [show (d : Int) + 1 = ((d + 1 : Nat) : Int) from rfl]; (with_reducible refine HC.out.mono ?_); rintro e w2 ⟨rfl, k_⟩; have K2 := Lib.hid (KA.out.trans k_); clear k_)
              go_roundw
              case rel => exact ⟨j + 1, n1 + a, m1, by omega, by go_num, by go_num, rfl, by omega, by omega, step, K2.out⟩
              case measure => simp [intOf]; omega
        · obtain rfl : j = kids.length := by omega
          have fin : Hid (countR (.mk k t n nm kids) d = (n1, m1)) := by unfold Hid; rw [hno.out, List.drop_length, countL]
          go_wp2_with fail
          exact bodyPost_ret (v := .tuple #[.int .i64 (n1 : Int), .int .i64 (m1 : Int)]) (by simp [results, Try.results47, go_sem]) rfl ⟨by rw [fin.out], KW.out⟩
end Go.Proofs.Ytkhhinmhgjicgaa
