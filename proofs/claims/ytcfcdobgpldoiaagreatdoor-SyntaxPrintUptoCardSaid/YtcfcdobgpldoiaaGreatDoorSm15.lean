/- The document's count of an expression. The document's node, Expr. -/
import Derived.Test.YtcfcdobgpldoiaaGreatDoorSm13
import Derived.Test.YtcfcdobgpldoiaaGreatDoorRef4b
import Derived.Test.YtcfcdobgpldoiaaGreatDoorRef4c
import Derived.Test.YtcfcdobgpldoiaaGreatDoorEx2
import Derived.BigQuiet
namespace Go.Proofs.YtcfcdobgpldoiaaGreatDoor
set_option linter.all false
open Go.RowKit

mutual
theorem depth_le_size : ∀ p : PatT, depthT p ≤ sizeT p
  | .mk k t n nm kids => by rw [depthT, sizeT]; have := depthL_le_size kids; omega
theorem depthL_le_size : ∀ l : List PatT, depthL l ≤ sizeL l
  | [] => by rw [depthL]; omega
  | p :: r => by rw [depthL, sizeL]; have := depth_le_size p; have := depthL_le_size r; omega
end
def CountQ (r : Nat × Nat) (w : World) (e : Ending) (w' : World) : Prop := e = .returned (.tuple #[.int .i64 (r.1 : Int), .int .i64 (r.2 : Int)]) ∧ Kept Nix w w'
theorem countL_drop (l : List PatT) (d n m j : Nat) (h : j < l.length) : countL (l.drop j) d n m =
    if 4096 < n + (countR l[j] (d + 1)).1 ∨ 200 < max m (countR l[j] (d + 1)).2 then (n + (countR l[j] (d + 1)).1, max m (countR l[j] (d + 1)).2)
    else countL (l.drop (j + 1)) d (n + (countR l[j] (d + 1)).1) (max m (countR l[j] (d + 1)).2) := by
  rw [List.drop_eq_getElem_cons h, countL]

set_option maxRecDepth 100000 in
set_option maxHeartbeats 2000000 in
theorem count_any : ∀ (m : Nat) (p : PatT) (v : Value) (S : Nat → Prop) (d : Nat) (w : World), sizeT p ≤ m → m ≤ 100000000 → d ≤ 201 → PatV w S v p → Safe S Nix w.heap.size →
    Calls Tryz.prog 14 #[v, .int .i64 d] w (CountQ (countR p d) w) := by
  intro m
  induction m with
  | zero => intro p v S d w hm; have := sizeT_pos p; omega
  | succ m ih =>
    intro p v S d w hm hmm hd hp hS
    obtain ⟨k, t, n, nm, kids⟩ := p
    obtain ⟨ka, cap, rfl, hz, hk⟩ := hp
    dsimp only [PatT.kind_mk, PatT.text_mk, PatT.n_mk, PatT.name_mk, PatT.kids_mk] at hz hk ⊢
    have hih : ∀ (j : Nat) (hj : j < kids.length) (v : Value) (w : World), PatV w S v kids[j] → Safe S Nix w.heap.size → Calls Tryz.prog 14 #[v, .int .i64 ((d + 1 : Nat) : Int)] w (CountQ (countR kids[j] (d + 1)) w) ∨ 200 < d :=
      fun j hj v w hv hs => by
        by_cases h2 : 200 < d
        · exact .inr h2
        · exact .inl (ih kids[j] v S (d + 1) w (by have := sizeT_get kids j hj; simp only [sizeT] at hm; omega) (by omega) (by omega) hv hs)
    have hle : ∀ (j : Nat) (hj : j < kids.length), (countR kids[j] (d + 1)).1 ≤ 100000000 ∧ (countR kids[j] (d + 1)).2 ≤ 200000000 := fun j hj => by
      have := count_le kids[j] (d + 1); have := sizeT_get kids j hj; have := depth_le_size kids[j]
      simp only [sizeT] at hm; omega
    have B0 := Box5.new w (.int .i64 k) (.string t) (.int .i64 n) (.string nm) (.slice ka kids.length cap) 25
    have K0 : Kept Nix w (w.alloc (.cells #[.int .i64 k, .string t, .int .i64 n, .string nm, .slice ka kids.length cap] 25)) := (Kept.refl _ _).alloc _
    obtain ⟨w0, hw0⟩ : ∃ w0, w0 = (w.alloc (.cells #[.int .i64 k, .string t, .int .i64 n, .string nm, .slice ka kids.length cap] 25)) := ⟨_, rfl⟩
    rw [← hw0] at B0 K0
    have HB := Lib.hid B0; have HK := Lib.hid K0; have HW := Lib.hid hw0; have HP := Lib.hid hk; have HS := Lib.hid hS
    have HIH := Lib.hid hih; have HLE := Lib.hid hle
    clear B0 K0 hw0 hk hS hih hle ih hm
    by_cases h2 : 200 < d
    · have hr : Hid (countR (.mk k t n nm kids) d = (1, d)) := by unfold Hid; rw [countR, if_pos h2]
      have hb : decide ((200 : Int) < (d : Int)) = true := decide_eq_true (by omega)
      go_enter Tryz.func14, Tryz.ntmps14
      go_upto_region 1 with fail
      rw [← HW.out]
      go_wp2_with fail
      exact bodyPost_ret (v := .tuple #[.int .i64 ((1 : Nat) : Int), .int .i64 (d : Int)]) (by simp [results, Tryz.results14, go_sem]) rfl ⟨by rw [hr.out], HK.out⟩
    · have hr : Hid (countR (.mk k t n nm kids) d = countL kids d 1 d) := by unfold Hid; rw [countR, if_neg h2]
      have hb : decide ((200 : Int) < (d : Int)) = false := decide_eq_false (by omega)
      have hwr : IntKind.i64.wrap ((d : Int) + 1) = (d : Int) + 1 := IntWalk.i64_in _ (by omega)
      have q4 := HB.out.h4
      go_enter Tryz.func14, Tryz.ntmps14
      go_upto_region 1 with fail
      rw [← HW.out]
      go_wp2_with fail
      go_loopw [6, 7, 20] (fun a b i wr => ∃ (j n1 m1 : Nat), j ≤ kids.length ∧ i = .int .i64 j ∧ a = .int .i64 (n1 : Int) ∧ b = .int .i64 (m1 : Int) ∧ n1 ≤ 4096 ∧ m1 ≤ 200 ∧ Hid (countR (.mk k t n nm kids) d = countL (kids.drop j) d n1 m1) ∧ Kept Nix w wr) (fun _ _ i _ => kids.length - (intOf i).toNat)
      case atStart => exact ⟨0, 1, d, Nat.zero_le _, rfl, rfl, rfl, by omega, by omega, by unfold Hid; rw [hr.out, List.drop_zero], HK.out⟩
      case round =>
        obtain ⟨j, n1, m1, hj, rfl, rfl, rfl, hn1, hm1, hno, hkw⟩ := hrel
        have KW := Lib.hid hkw
        by_cases hlt : j < kids.length
        · have hks := HP.out.kept hkw HS.out
          obtain ⟨b1, o1, rfl⟩ := PatsAt_head hks (by omega)
          obtain ⟨_, hz1, p0, p1, p2, p3, ka1, cap1, p4, hk1⟩ := (PatsAt_get kids b1 o1 j hlt hks).open
          have kA : Kept Nix wr (wr.alloc (.cells #[.int .i64 kids[j].kind, .string kids[j].text, .int .i64 kids[j].n, .string kids[j].name, .slice ka1 kids[j].kids.length cap1] 25)) := (Kept.refl _ _).alloc _
          have hSr := HS.out.mono hkw.size
          have hC := (HIH.out j hlt _ _ ⟨ka1, cap1, rfl, hz1, hk1.kept kA hSr⟩ (hSr.mono kA.size)).resolve_right h2
          have HC := Lib.hid hC
          have KA := Lib.hid (hkw.trans kA)
          have hdr := countL_drop kids d n1 m1 j hlt
          obtain ⟨l1, l2⟩ := HLE.out j hlt
          obtain ⟨⟨a, b⟩, hab⟩ : ∃ ab, ab = countR kids[j] (d + 1) := ⟨_, rfl⟩
          rw [← hab] at hdr l1 l2 HC
          dsimp only at hdr l1 l2
          have hw2 : IntKind.i64.wrap ((n1 : Int) + (a : Int)) = (n1 : Int) + (a : Int) := IntWalk.i64_in _ (by omega)
          clear hks hk1 kA hSr hC hkw hab
          by_cases hx : m1 < b
          · have e1 : decide ((m1 : Int) < (b : Int)) = true := decide_eq_true (by omega)
            have e1' : decide (m1 < b) = true := decide_eq_true hx
            rw [show max m1 b = b by omega] at hdr
            by_cases ho1 : 4096 < n1 + a
            · rw [if_pos (.inl ho1)] at hdr
              have fin := Lib.hid (hno.out.trans hdr)
              have e2 : decide ((4096 : Int) < (n1 : Int) + (a : Int)) = true := decide_eq_true (by omega)
              clear hdr ho1 hx
              go_wp2_with (go_at_call 14; rw [show (d : Int) + 1 = ((d + 1 : Nat) : Int) from rfl]; (with_reducible refine HC.out.mono ?_); rintro e w2 ⟨rfl, k_⟩; have K2 := Lib.hid (KA.out.trans k_); clear k_)
              exact bodyPost_ret (v := .tuple #[.int .i64 ((n1 + a : Nat) : Int), .int .i64 (b : Int)]) (by simp [results, Tryz.results14, go_sem]) rfl ⟨by rw [fin.out], K2.out⟩
            have e2 : decide ((4096 : Int) < (n1 : Int) + (a : Int)) = false := decide_eq_false (by omega)
            by_cases ho2 : 200 < b
            · rw [if_pos (.inr ho2)] at hdr
              have fin := Lib.hid (hno.out.trans hdr)
              have e3 : decide ((200 : Int) < (b : Int)) = true := decide_eq_true (by omega)
              clear hdr ho1 ho2 hx
              go_wp2_with (go_at_call 14; rw [show (d : Int) + 1 = ((d + 1 : Nat) : Int) from rfl]; (with_reducible refine HC.out.mono ?_); rintro e w2 ⟨rfl, k_⟩; have K2 := Lib.hid (KA.out.trans k_); clear k_)
              exact bodyPost_ret (v := .tuple #[.int .i64 ((n1 + a : Nat) : Int), .int .i64 (b : Int)]) (by simp [results, Tryz.results14, go_sem]) rfl ⟨by rw [fin.out], K2.out⟩
            · rw [if_neg (by omega)] at hdr
              have step := Lib.hid (hno.out.trans hdr)
              have e3 : decide ((200 : Int) < (b : Int)) = false := decide_eq_false (by omega)
              clear hdr
              go_wp2_with (go_at_call 14; rw [show (d : Int) + 1 = ((d + 1 : Nat) : Int) from rfl]; (with_reducible refine HC.out.mono ?_); rintro e w2 ⟨rfl, k_⟩; have K2 := Lib.hid (KA.out.trans k_); clear k_)
              go_roundw
              case rel => exact ⟨j + 1, n1 + a, b, by omega, by go_num, by go_num, rfl, by omega, by omega, step, K2.out⟩
              case measure => simp [intOf]; omega
          · have e1 : decide ((m1 : Int) < (b : Int)) = false := decide_eq_false (by omega)
            have e1' : decide (m1 < b) = false := decide_eq_false hx
            rw [show max m1 b = m1 by omega] at hdr
            by_cases ho1 : 4096 < n1 + a
            · rw [if_pos (.inl ho1)] at hdr
              have fin := Lib.hid (hno.out.trans hdr)
              have e2 : decide ((4096 : Int) < (n1 : Int) + (a : Int)) = true := decide_eq_true (by omega)
              clear hdr ho1 hx
              go_wp2_with (go_at_call 14; rw [show (d : Int) + 1 = ((d + 1 : Nat) : Int) from rfl]; (with_reducible refine HC.out.mono ?_); rintro e w2 ⟨rfl, k_⟩; have K2 := Lib.hid (KA.out.trans k_); clear k_)
              exact bodyPost_ret (v := .tuple #[.int .i64 ((n1 + a : Nat) : Int), .int .i64 (m1 : Int)]) (by simp [results, Tryz.results14, go_sem]) rfl ⟨by rw [fin.out], K2.out⟩
            have e2 : decide ((4096 : Int) < (n1 : Int) + (a : Int)) = false := decide_eq_false (by omega)
            by_cases ho2 : 200 < m1
            · rw [if_pos (.inr ho2)] at hdr
              have fin := Lib.hid (hno.out.trans hdr)
              have e3 : decide ((200 : Int) < (m1 : Int)) = true := decide_eq_true (by omega)
              clear hdr ho1 ho2 hx
              go_wp2_with (go_at_call 14; rw [show (d : Int) + 1 = ((d + 1 : Nat) : Int) from rfl]; (with_reducible refine HC.out.mono ?_); rintro e w2 ⟨rfl, k_⟩; have K2 := Lib.hid (KA.out.trans k_); clear k_)
              exact bodyPost_ret (v := .tuple #[.int .i64 ((n1 + a : Nat) : Int), .int .i64 (m1 : Int)]) (by simp [results, Tryz.results14, go_sem]) rfl ⟨by rw [fin.out], K2.out⟩
            · rw [if_neg (by omega)] at hdr
              have step := Lib.hid (hno.out.trans hdr)
              have e3 : decide ((200 : Int) < (m1 : Int)) = false := decide_eq_false (by omega)
              clear hdr
              go_wp2_with (go_at_call 14; rw [show (d : Int) + 1 = ((d + 1 : Nat) : Int) from rfl]; (with_reducible refine HC.out.mono ?_); rintro e w2 ⟨rfl, k_⟩; have K2 := Lib.hid (KA.out.trans k_); clear k_)
              go_roundw
              case rel => exact ⟨j + 1, n1 + a, m1, by omega, by go_num, by go_num, rfl, by omega, by omega, step, K2.out⟩
              case measure => simp [intOf]; omega
        · obtain rfl : j = kids.length := by omega
          have fin : Hid (countR (.mk k t n nm kids) d = (n1, m1)) := by unfold Hid; rw [hno.out, List.drop_length, countL]
          go_wp2_with fail
          exact bodyPost_ret (v := .tuple #[.int .i64 (n1 : Int), .int .i64 (m1 : Int)]) (by simp [results, Tryz.results14, go_sem]) rfl ⟨by rw [fin.out], KW.out⟩
end Go.Proofs.YtcfcdobgpldoiaaGreatDoor

namespace Go.Proofs.YtcfcdobgpldoiaaGreatDoor
set_option linter.all false
open Go.RowKit

set_option maxRecDepth 100000 in
theorem kids_any (k : Int) (w : World) (hk : 1 ≤ k ∧ k ≤ 13) : Calls Tryz.prog 33 #[.int .i64 k] w fun e w' => e = .returned (.int .i64 (exKids k)) ∧ w' = w := by
  obtain ⟨h1, h2⟩ := hk
  rcases (show k = 1 ∨ k = 2 ∨ k = 3 ∨ k = 4 ∨ k = 5 ∨ k = 6 ∨ k = 7 ∨ k = 8 ∨ k = 9 ∨ k = 10 ∨ k = 11 ∨ k = 12 ∨ k = 13 by omega) with rfl | rfl | rfl | rfl | rfl | rfl | rfl | rfl | rfl | rfl | rfl | rfl | rfl
  all_goals
    go_enter Tryz.func33, Tryz.ntmps33
    go_wp2_with fail
    go_ret
    exact ⟨by try rfl, rfl⟩

set_option maxRecDepth 100000 in
set_option maxHeartbeats 4000000 in
theorem refNodeE_any : ∀ (m : Nat) (p : PatT) (v : Value) (S : Nat → Prop) (w : World), sizeT p ≤ m → PatV w S v p → Safe S Nix w.heap.size →
    Calls Tryz.prog 15 #[v] w (IntQ (nodeE p) w) := by
  intro m
  induction m with
  | zero => intro p v S w hm; have := sizeT_pos p; omega
  | succ m ih =>
    intro p v S w hm hp hS
    obtain ⟨k, t, n, nm, kids⟩ := p
    obtain ⟨ka, cap, rfl, hz, hk⟩ := hp
    dsimp only [PatT.kind_mk, PatT.text_mk, PatT.n_mk, PatT.name_mk, PatT.kids_mk] at hz hk ⊢
    have hih : ∀ (j : Nat) (hj : j < kids.length) (v : Value) (w : World), PatV w S v kids[j] → Safe S Nix w.heap.size → Calls Tryz.prog 15 #[v] w (IntQ (nodeE kids[j]) w) :=
      fun j hj v w hv hs => ih kids[j] v S w (by have := sizeT_get kids j hj; simp only [sizeT] at hm; omega) hv hs
    have B0 := Box5.new w (.int .i64 k) (.string t) (.int .i64 n) (.string nm) (.slice ka kids.length cap) 25
    have K0 : Kept Nix w (w.alloc (.cells #[.int .i64 k, .string t, .int .i64 n, .string nm, .slice ka kids.length cap] 25)) := (Kept.refl _ _).alloc _
    obtain ⟨w0, hw0⟩ : ∃ w0, w0 = (w.alloc (.cells #[.int .i64 k, .string t, .int .i64 n, .string nm, .slice ka kids.length cap] 25)) := ⟨_, rfl⟩
    rw [← hw0] at B0 K0
    have HB := Lib.hid B0; have HK := Lib.hid K0; have HW := Lib.hid hw0; have HP := Lib.hid hk; have HS := Lib.hid hS
    have HIH := Lib.hid hih
    have hnl : nm.size ≤ maxLen := by unfold maxLen; omega
    have hlz := hz.2.2
    have htz := hz.1
    clear B0 K0 hw0 hk hS hih ih hm hz
    have q0 := HB.out.h0; have q1 := HB.out.h1; have q2 := HB.out.h2; have q3 := HB.out.h3; have q4 := HB.out.h4
    by_cases hh : headE k t n nm = 0
    rotate_left
    · have hr : Hid (nodeE (.mk k t n nm kids) = headE k t n nm) := nodeE_head rfl hh
      rcases (show (k < 1 ∨ 13 < k) ∨ (k = 1 ∧ 65536 < t.size) ∨ (k = 2 ∧ n < 0) ∨ (namedF nm = false ∧ k = 3) ∨ (namedF nm = false ∧ k = 4) ∨ (namedF nm = false ∧ k = 6) by
        unfold headE at hh
        by_cases a1 : k < 1 ∨ 13 < k
        · exact .inl a1
        · rw [if_neg a1] at hh
          by_cases a2 : k = 1 ∧ 65536 < t.size
          · exact .inr (.inl a2)
          · rw [if_neg a2] at hh
            by_cases a3 : k = 2 ∧ n < 0
            · exact .inr (.inr (.inl a3))
            · rw [if_neg a3] at hh
              by_cases a4 : (k = 3 ∨ k = 4 ∨ k = 6) ∧ namedF nm = false
              · rcases a4.1 with h | h | h
                · exact .inr (.inr (.inr (.inl ⟨a4.2, h⟩)))
                · exact .inr (.inr (.inr (.inr (.inl ⟨a4.2, h⟩))))
                · exact .inr (.inr (.inr (.inr (.inr ⟨a4.2, h⟩))))
              · rw [if_neg a4] at hh; exact absurd rfl hh) with a | ⟨rfl, a⟩ | ⟨rfl, a⟩ | ⟨a, rfl⟩ | ⟨a, rfl⟩ | ⟨a, rfl⟩
      · have fin := Lib.hid (hr.out.trans (hd_kind a))
        clear hh
        rcases a with a | a
        · have e1 : decide (k < 1) = true := decide_eq_true a
          go_enter Tryz.func15, Tryz.ntmps15
          go_upto_region 1 with fail
          rw [← HW.out]
          go_wp2_with fail
          go_ret
          exact ⟨by rw [fin.out]; try rfl, HK.out⟩
        · have e1 : decide (k < 1) = false := decide_eq_false (by omega)
          have e2 : decide (13 < k) = true := decide_eq_true a
          go_enter Tryz.func15, Tryz.ntmps15
          go_upto_region 1 with fail
          rw [← HW.out]
          go_wp2_with fail
          go_ret
          exact ⟨by rw [fin.out]; try rfl, HK.out⟩
      · have fin := Lib.hid (hr.out.trans (hd_text rfl a))
        have e1 : decide ((65536 : Int) < (t.size : Int)) = true := decide_eq_true (by omega)
        clear hh
        go_enter Tryz.func15, Tryz.ntmps15
        go_upto_region 1 with fail
        rw [← HW.out]
        go_wp2_with fail
        go_ret
        exact ⟨by rw [fin.out]; try rfl, HK.out⟩
      · have fin := Lib.hid (hr.out.trans (hd_num rfl a))
        have e1 : decide (n < 0) = true := decide_eq_true a
        clear hh
        go_enter Tryz.func15, Tryz.ntmps15
        go_upto_region 1 with fail
        rw [← HW.out]
        go_wp2_with fail
        go_ret
        exact ⟨by rw [fin.out]; try rfl, HK.out⟩
      all_goals
        have fin := Lib.hid (hr.out.trans (hd_name (by omega) a))
        have HA := Lib.hid a
        clear hh a
        go_enter Tryz.func15, Tryz.ntmps15
        go_upto_region 1 with fail
        rw [← HW.out]
        go_wp2_with (go_at_call 20; (with_reducible refine (refNamed_any nm _ hnl).mono ?_); rintro e w1 ⟨rfl, k1⟩; rw [HA.out]; have K1 := Lib.hid (HK.out.trans k1); clear k1)
        go_ret
        exact ⟨by rw [fin.out]; try rfl, K1.out⟩
    · have hcs : (k = 1 ∧ decide ((65536 : Int) < (t.size : Int)) = false) ∨ (k = 2 ∧ decide (n < 0) = false) ∨ (namedF nm = true ∧ k = 3) ∨ (namedF nm = true ∧ k = 4) ∨ (namedF nm = true ∧ k = 6) ∨
          (decide (k < 1) = false ∧ decide (13 < k) = false ∧ (k == 1) = false ∧ (k == 2) = false ∧ (k == 3) = false ∧ (k == 4) = false ∧ (k == 6) = false ∧ (k != 6) = true) := by
        unfold headE at hh
        by_cases a1 : k < 1 ∨ 13 < k
        · rw [if_pos a1] at hh; cases hh
        · rw [if_neg a1] at hh
          by_cases a2 : k = 1 ∧ 65536 < t.size
          · rw [if_pos a2] at hh; cases hh
          · rw [if_neg a2] at hh
            by_cases a3 : k = 2 ∧ n < 0
            · rw [if_pos a3] at hh; cases hh
            · rw [if_neg a3] at hh
              by_cases a4 : (k = 3 ∨ k = 4 ∨ k = 6) ∧ namedF nm = false
              · rw [if_pos a4] at hh; cases hh
              · by_cases c1 : k = 1
                · exact .inl ⟨c1, decide_eq_false (by omega)⟩
                by_cases c2 : k = 2
                · exact .inr (.inl ⟨c2, decide_eq_false (by omega)⟩)
                by_cases c3 : k = 3
                · exact .inr (.inr (.inl ⟨by simpa [c3] using a4, c3⟩))
                by_cases c4 : k = 4
                · exact .inr (.inr (.inr (.inl ⟨by simpa [c4] using a4, c4⟩)))
                by_cases c6 : k = 6
                · exact .inr (.inr (.inr (.inr (.inl ⟨by simpa [c6] using a4, c6⟩))))
                · exact .inr (.inr (.inr (.inr (.inr ⟨decide_eq_false (by omega), decide_eq_false (by omega), by simpa using c1, by simpa using c2, by simpa using c3, by simpa using c4, by simpa using c6, by simpa using c6⟩))))
      have hkk : 1 ≤ k ∧ k ≤ 13 := by
        unfold headE at hh
        by_cases a1 : k < 1 ∨ 13 < k
        · rw [if_pos a1] at hh; cases hh
        · omega
      have HKK := Lib.hid hkk
      by_cases h5 : (k = 6 ∧ 8 < kids.length) ∨ (k ≠ 6 ∧ (kids.length : Int) ≠ exKids k)
      · have fin := Lib.hid (nodeE_five hh h5)
        have hv : (k = 6 → decide ((8 : Int) < (kids.length : Int)) = true) ∧ (k ≠ 6 → ((kids.length : Int) != exKids k) = true) :=
          ⟨fun h => decide_eq_true (by omega), fun h => by simp; omega⟩
        clear hh h5 hkk
        rcases hcs with ⟨rfl, a⟩ | ⟨rfl, a⟩ | ⟨a, rfl⟩ | ⟨a, rfl⟩ | ⟨a, rfl⟩ | ⟨a1, a2, a3, a4, a5, a6, a7, a8⟩
        all_goals
          first | (have v1 := hv.1 rfl; skip) | (have v1 := hv.2 (by decide); skip) | (have v1 := hv.2 (by simpa using a7); skip)
          try (have HA := Lib.hid a; skip)
          clear hv
          go_enter Tryz.func15, Tryz.ntmps15
          go_upto_region 1 with fail
          rw [← HW.out]
          go_wp2_with (go_at_call 20; (with_reducible refine (refNamed_any nm _ hnl).mono ?_); rintro e w1 ⟨rfl, k1⟩; rw [HA.out]; have K1 := Lib.hid (HK.out.trans k1); have B1 := HB.out.kept k1 (fun h => h); have y0 := B1.h0; have y1 := B1.h1; have y2 := B1.h2; have y3 := B1.h3; have y4 := B1.h4; clear k1 B1 q0 q1 q2 q3 q4)
          go_quiet (first | (go_at_call 33; refine Calls.quiet_of_same (kids_any _ _ HKK.out)))
          go_wp2_with fail
          go_ret
          exact ⟨by rw [fin.out]; try rfl, by first | exact K1.out.drewN _ | exact HK.out.drewN _⟩
      · have hr := Lib.hid (nodeE_kids hh h5)
        have hv : (k = 6 → decide ((8 : Int) < (kids.length : Int)) = false) ∧ (k ≠ 6 → ((kids.length : Int) != exKids k) = false) :=
          ⟨fun h => decide_eq_false (by omega), fun h => by simp; omega⟩
        clear hh h5 hkk
        rcases hcs with ⟨rfl, a⟩ | ⟨rfl, a⟩ | ⟨a, rfl⟩ | ⟨a, rfl⟩ | ⟨a, rfl⟩ | ⟨a1, a2, a3, a4, a5, a6, a7, a8⟩
        all_goals
          first | (have v1 := hv.1 rfl; skip) | (have v1 := hv.2 (by decide); skip) | (have v1 := hv.2 (by simpa using a7); skip)
          try (have HA := Lib.hid a; skip)
          clear hv
          go_enter Tryz.func15, Tryz.ntmps15
          go_upto_region 1 with fail
          rw [← HW.out]
          go_wp2_with (go_at_call 20; (with_reducible refine (refNamed_any nm _ hnl).mono ?_); rintro e w1 ⟨rfl, k1⟩; rw [HA.out]; have K1 := Lib.hid (HK.out.trans k1); have B1 := HB.out.kept k1 (fun h => h); have y0 := B1.h0; have y1 := B1.h1; have y2 := B1.h2; have y3 := B1.h3; have y4 := B1.h4; clear k1 B1 q0 q1 q2 q3 q4)
          go_quiet (first | (go_at_call 33; refine Calls.quiet_of_same (kids_any _ _ HKK.out)))
          first | (have K2 := Lib.hid K1.out; skip) | (have K2 := Lib.hid HK.out; skip)
          go_wp2_with fail
          go_loopw [76] (fun i wr => ∃ j : Nat, j ≤ kids.length ∧ i = .int .i64 j ∧ Hid (nodesE kids = nodesE (kids.drop j)) ∧ Kept Nix w wr) (fun i _ => kids.length - (intOf i).toNat)
          case atStart => exact ⟨0, Nat.zero_le _, rfl, by unfold Hid; rw [List.drop_zero], K2.out.drewN _⟩
          case round =>
            obtain ⟨j, hj, rfl, hno, hkw⟩ := hrel
            have KW := Lib.hid hkw
            by_cases hlt : j < kids.length
            · have hks := HP.out.kept hkw HS.out
              obtain ⟨b1, o1, rfl⟩ := PatsAt_head hks (by omega)
              obtain ⟨_, hz1, p0, p1, p2, p3, ka1, cap1, p4, hk1⟩ := (PatsAt_get kids b1 o1 j hlt hks).open
              have kA : Kept Nix wr (wr.alloc (.cells #[.int .i64 kids[j].kind, .string kids[j].text, .int .i64 kids[j].n, .string kids[j].name, .slice ka1 kids[j].kids.length cap1] 25)) := (Kept.refl _ _).alloc _
              have hSr := HS.out.mono hkw.size
              have HC := Lib.hid (HIH.out j hlt _ _ ⟨ka1, cap1, rfl, hz1, hk1.kept kA hSr⟩ (hSr.mono kA.size))
              have KA := Lib.hid (hkw.trans kA)
              have hd := nodesE_drop kids j hlt
              clear hks hk1 kA hSr hkw hz1
              by_cases hz : nodeE kids[j] = 0
              · rw [if_pos hz] at hd
                have step := Lib.hid (hno.out.trans hd)
                have hb : (nodeE kids[j] != 0) = false := by simpa using hz
                clear hd hz
                go_wp2_with (go_at_call 15; (with_reducible refine HC.out.mono ?_); rintro e w2 ⟨rfl, k_⟩; have K3 := Lib.hid (KA.out.trans k_); clear k_)
                go_roundw
                case rel => exact ⟨j + 1, by omega, by go_num, step, K3.out⟩
                case measure => simp [intOf]; omega
              · rw [if_neg hz] at hd
                have fin := Lib.hid (hr.out.trans (hno.out.trans hd))
                have hb : (nodeE kids[j] != 0) = true := by simpa using hz
                clear hd hz
                go_wp2_with (go_at_call 15; (with_reducible refine HC.out.mono ?_); rintro e w2 ⟨rfl, k_⟩; have K3 := Lib.hid (KA.out.trans k_); clear k_)
                go_ret
                exact ⟨by rw [fin.out]; try rfl, K3.out⟩
            · obtain rfl : j = kids.length := by omega
              have fin := Lib.hid (hr.out.trans (hno.out.trans (show nodesE (kids.drop kids.length) = 0 by rw [List.drop_length, nodesE])))
              go_wp2_with fail
              go_ret
              exact ⟨by rw [fin.out]; try rfl, KW.out⟩

set_option maxRecDepth 100000 in
set_option maxHeartbeats 2000000 in
theorem refExpr_any (p : PatT) (v : Value) (S : Nat → Prop) (w : World) (hp : PatV w S v p) (hS : Safe S Nix w.heap.size) (hsz : sizeT p ≤ 100000000) : Calls Tryz.prog 5 #[v] w (IntQ (exprE p) w) := by
  obtain ⟨ka, cap, rfl, hz, hk⟩ := hp
  obtain ⟨w1, hw1⟩ : ∃ w1, w1 = (w.alloc (.cells #[.int .i64 p.kind, .string p.text, .int .i64 p.n, .string p.name, .slice ka p.kids.length cap] 25)) := ⟨_, rfl⟩
  have k1 : Kept Nix w w1 := by rw [hw1]; exact (Kept.refl Nix _).alloc _
  have B1 : Hid (Box5 w.heap.size (.int .i64 p.kind) (.string p.text) (.int .i64 p.n) (.string p.name) (.slice ka p.kids.length cap) w1) := by rw [hw1]; exact Box5.new _ _ _ _ _ _ _
  have PV1 : Hid (PatV w1 S (.agg #[.int .i64 p.kind, .string p.text, .int .i64 p.n, .string p.name, .slice ka p.kids.length cap]) p) := ⟨ka, cap, rfl, hz, hk.kept k1 hS⟩
  have S1 := Lib.hid (hS.mono k1.size)
  have K1 := Lib.hid k1; have HW := Lib.hid hw1
  obtain ⟨l1, l2⟩ := count_le p 1
  have l3 := depth_le_size p
  have q0 := B1.out.h0; have q1 := B1.out.h1; have q2 := B1.out.h2; have q3 := B1.out.h3; have q4 := B1.out.h4
  clear hz hk k1 hw1 hS
  go_enter Tryz.func5, Tryz.ntmps5
  go_upto_region 1 with fail
  rw [← HW.out]
  go_wp2_with fail
  refine (count_any 100000000 p _ S 1 w1 hsz (by omega) (by omega) PV1.out S1.out).mono ?_
  rintro e w2 ⟨rfl, k2⟩
  obtain ⟨⟨a, b⟩, hab⟩ : ∃ ab, ab = countR p 1 := ⟨_, rfl⟩
  have heq := exprE_eq p
  rw [← hab] at heq l1 l2 ⊢
  dsimp only at heq l1 l2 ⊢
  have B2 := B1.out.kept k2 (fun h => h)
  have PV2 : Hid (PatV w2 S (.agg #[.int .i64 p.kind, .string p.text, .int .i64 p.n, .string p.name, .slice ka p.kids.length cap]) p) := by
    obtain ⟨x1, x2, x3, x4, x5⟩ := PV1.out
    exact ⟨x1, x2, x3, x4, x5.kept k2 S1.out⟩
  have S2 := Lib.hid (S1.out.mono k2.size)
  have K2 := Lib.hid (K1.out.trans k2)
  have y0 := B2.h0; have y1 := B2.h1; have y2 := B2.h2; have y3 := B2.h3; have y4 := B2.h4
  clear hab k2 B2 q0 q1 q2 q3 q4
  by_cases ho1 : 4096 < a
  · rw [if_pos (.inl ho1)] at heq
    have fin := Lib.hid heq
    have e1 : decide ((4096 : Int) < (a : Int)) = true := decide_eq_true (by omega)
    clear heq
    go_wp2_with fail
    go_ret
    exact ⟨by rw [fin.out]; try rfl, K2.out⟩
  have e1 : decide ((4096 : Int) < (a : Int)) = false := decide_eq_false (by omega)
  by_cases ho2 : 200 < b
  · rw [if_pos (.inr ho2)] at heq
    have fin := Lib.hid heq
    have e2 : decide ((200 : Int) < (b : Int)) = true := decide_eq_true (by omega)
    clear heq
    go_wp2_with fail
    go_ret
    exact ⟨by rw [fin.out]; try rfl, K2.out⟩
  · rw [if_neg (by omega)] at heq
    have fin := Lib.hid heq
    have e2 : decide ((200 : Int) < (b : Int)) = false := decide_eq_false (by omega)
    clear heq
    go_wp2_with fail
    refine (refNodeE_any 100000000 p _ S w2 hsz PV2.out S2.out).mono ?_
    rintro e w3 ⟨rfl, k3⟩
    go_wp2_with fail
    go_ret
    exact ⟨by rw [fin.out]; try rfl, K2.out.trans k3⟩
end Go.Proofs.YtcfcdobgpldoiaaGreatDoor
