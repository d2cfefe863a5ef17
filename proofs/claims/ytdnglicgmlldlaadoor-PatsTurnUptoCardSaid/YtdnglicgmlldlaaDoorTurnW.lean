/- The walk of PatsTurn (printed by gen/turnw.py: its second half stands twice). -/
import Derived.Test.YtdnglicgmlldlaaDoorAliveW
import Derived.Test.YtdnglicgmlldlaaDoorBare5
import Derived.Test.YtdnglicgmlldlaaDoorSameT
import Derived.Test.YtdnglicgmlldlaaDoorPrint
namespace Go.Proofs.YtdnglicgmlldlaaDoor
open Go.RowKit

set_option maxRecDepth 100000 in
set_option maxHeartbeats 8000000 in
theorem turn_walk (p : PatT) (v : Value) (t : ByteArray) (w : World) (hp : PatV w (· < w.heap.size) v p) (hsz : sizeT p ≤ 100000000) (ht : t.size ≤ maxLen) (hg : Glob w) (hgl : 1 < w.heap.size ∧ 0 < w.heap.size) :
    Calls Tryd.prog 4 #[v, .string t] w (BoolQ true w) := by
  obtain ⟨ka, cap, rfl, hz, hk⟩ := hp
  have kA : Kept Nix w (w.alloc (.cells #[.int .i64 p.kind, .string p.text, .int .i64 p.n, .string p.name, .slice ka p.kids.length cap] 24)) := (Kept.refl Nix _).alloc _
  obtain ⟨w1, hw1⟩ : ∃ w1, w1 = (w.alloc (.cells #[.int .i64 p.kind, .string p.text, .int .i64 p.n, .string p.name, .slice ka p.kids.length cap] 24)) := ⟨_, rfl⟩
  rw [← hw1] at kA
  have PV1 : Hid (PatV w1 (· < w1.heap.size) (.agg #[.int .i64 p.kind, .string p.text, .int .i64 p.n, .string p.name, .slice ka p.kids.length cap]) p) := ⟨ka, cap, rfl, hz, hk.to kA (fun b hb => ⟨hb, fun h => h⟩) (fun b hb => Nat.lt_of_lt_of_le hb kA.size)⟩
  have F1 : Hid (Five w.heap.size (.int .i64 p.kind) (.string p.text) (.int .i64 p.n) (.string p.name) (.slice ka p.kids.length cap) w1) := by rw [hw1]; exact heap_alloc_new w _
  have G1 := Lib.hid (hg.below kA.below hgl)
  have hs1 := kA.size
  have KA := Lib.hid kA; have HW1 := Lib.hid hw1
  clear kA hz hk hw1 hg
  go_enter Tryd.func4, Tryd.ntmps4
  go_upto_region 1 with fail
  rw [← HW1.out]
  go_wp2_with fail
  refine (alive_any w1).mono ?_
  rintro e w2 ⟨rfl, K2⟩
  have F2 := Lib.hid (F1.out.kept K2 (fun h => h))
  obtain ⟨c0, c1, c2, c3, c4, _⟩ := F2.out.cells
  have KK2 := Lib.hid (KA.out.trans K2)
  have G2 : Hid (Glob w2) := G1.out.below K2.below (by omega)
  have n2 := K2.size
  have PV2 : Hid (PatV w2 (· < w2.heap.size) (.agg #[.int .i64 p.kind, .string p.text, .int .i64 p.n, .string p.name, .slice ka p.kids.length cap]) p) := by
    obtain ⟨x1, x2, x3, x4, x5⟩ := PV1.out
    exact ⟨x1, x2, x3, x4, x5.to K2 (fun b hb => ⟨hb, fun h => h⟩) (fun b hb => Nat.lt_of_lt_of_le hb K2.size)⟩
  clear K2 PV1 G1 F1 KA HW1
  go_wp2_with fail
  refine (print_any p _ w2 PV2.out hsz G2.out (by omega)).mono ?_
  rintro e w3 ⟨rfl, K3⟩
  have hps := printF_size p
  have HQ1 : Hid ((printF p).2 = 0 → readQ ⟨(printF p).1.toArray⟩ = (bareT p, (0, 0))) := fun h => turn_first h
  generalize (printF p).2 = pe at *
  generalize hpt : (⟨(printF p).1.toArray⟩ : ByteArray) = pt at *
  have F3 := Lib.hid (F2.out.kept K3 (fun h => h))
  have KK3 := Lib.hid (KK2.out.trans K3)
  have G3 : Hid (Glob w3) := G2.out.below K3.below (by omega)
  have n3 := K3.size
  have PV3 : Hid (PatV w3 (· < w3.heap.size) (.agg #[.int .i64 p.kind, .string p.text, .int .i64 p.n, .string p.name, .slice ka p.kids.length cap]) p) := by
    obtain ⟨x1, x2, x3, x4, x5⟩ := PV2.out
    exact ⟨x1, x2, x3, x4, x5.to K3 (fun b hb => ⟨hb, fun h => h⟩) (fun b hb => Nat.lt_of_lt_of_le hb K3.size)⟩
  clear K3 PV2 G2 F2 KK2 c0 c1 c2 c3 c4 hpt
  by_cases h0 : pe = 0
  rotate_left
  · have hb : (pe == 0) = false := by simpa using h0
    clear h0 HQ1 F3 PV3
    go_wp2_with fail
    refine (read_any t w3 ht).mono ?_
    intro e w8 h
    obtain ⟨q, er, hq⟩ : ∃ q er, readQ t = (q, er) := ⟨_, _, rfl⟩
    obtain ⟨K8, S8, ka8, cap8, hS8, rfl, hz8, hk8⟩ := read_to h hq
    clear h
    obtain ⟨f0, f1⟩ := er
    have hr1 : (readQ t).1 = q := by rw [hq]
    have hr2 : (readQ t).2.1 = f0 := by rw [hq]
    have hqs := readQ_sz t
    rw [hr1] at hqs
    have htr : f0 = 0 → wrongF q = 0 ∧ bareT q = q := fun h => by have := turn_right (s := t) (by rw [hr2]; exact h); rw [hr1] at this; exact this
    have hag : f0 = 0 → (printF q).2 = 0 → readQ ⟨(printF q).1.toArray⟩ = (q, (0, 0)) := fun h hp => by have := turn_again (s := t) (by rw [hr2]; exact h) (by rw [hr1]; exact hp); rw [hr1] at this; exact this
    clear hr1 hr2 hq
    dsimp only
    obtain ⟨w9, hw9⟩ : ∃ w9, w9 = ((w8.alloc (.cells #[.int .i64 q.kind, .string q.text, .int .i64 q.n, .string q.name, .slice ka8 q.kids.length cap8] 24)).alloc (.cells #[.int .i64 f0, .int .i64 f1] 31)) := ⟨_, rfl⟩
    have k9 : Kept Nix w8 w9 := by rw [hw9]; exact ((Kept.refl Nix _).alloc _).alloc _
    have n9 : w9.heap.size = w8.heap.size + 2 := by rw [hw9]; simp
    have F9 : Hid (Five w8.heap.size (.int .i64 q.kind) (.string q.text) (.int .i64 q.n) (.string q.name) (.slice ka8 q.kids.length cap8) w9) := by rw [hw9]; exact Five.kept (heap_alloc_new w8 _) ((Kept.refl Nix _).alloc _) (fun h => h)
    have T9 : Hid (Two (w8.heap.size + 1) (.int .i64 f0) (.int .i64 f1) w9) := by rw [hw9]; exact heap_new2 (by simp)
    have n8 := K8.size
    have PV9 : Hid (PatV w9 (· < w9.heap.size) (.agg #[.int .i64 q.kind, .string q.text, .int .i64 q.n, .string q.name, .slice ka8 q.kids.length cap8]) q) := ⟨ka8, cap8, rfl, hz8, hk8.to k9 (fun b hb => ⟨(hS8 b hb).2, fun h => h⟩) (fun b hb => by have := (hS8 b hb).2; omega)⟩
    have kk7 := KK3.out.size
    have GG9 : Hid (Glob w9) := G3.out.below (K8.trans k9).below (by omega)
    have KK9 := Lib.hid ((KK3.out.trans K8).trans k9)
    have kk9 := KK9.out.size
    have HW9 := Lib.hid hw9
    have HTR := Lib.hid htr; have HAG := Lib.hid hag
    have HK9 : Hid (PatsAt w9 S8 ka8 q.kids) := hk8.kept k9 (fun b hb => ⟨(hS8 b hb).2, fun h => h⟩)
    have HS8 : Hid (∀ b, S8 b → b < w8.heap.size) := fun b hb => (hS8 b hb).2
    have HZ8 := Lib.hid hz8
    clear hw9 k9 K8 hS8 hz8 hk8 KK3 G3 htr hag
    go_upto_region 9 with fail
    rw [← HW9.out]
    obtain ⟨c0, c1, c2, c3, c4, _⟩ := F9.out.cells
    obtain ⟨d0, d1, _⟩ := T9.out.cells
    by_cases h0 : f0 = 0
    rotate_left
    · have hb : (f0 != 0) = true := by simpa using h0
      clear h0
      go_wp2_with fail
      go_ret
      exact ⟨rfl, KK9.out⟩
    · subst h0
      have hwr := (HTR.out (by first | rfl | trivial)).1
      have HWR := Lib.hid hwr
      clear hwr
      go_wp2_with fail
      refine (Wrong_any q _ w9 PV9.out (by omega)).mono ?_
      rintro e w10 ⟨rfl, K10⟩
      rw [HWR.out]
      have F10 := Lib.hid (F9.out.kept K10 (fun h => h)); have T10 := Lib.hid (T9.out.kept K10 (fun h => h))
      obtain ⟨x1, x2, x3, x4, x5⟩ := PV9.out
      have PV10 : Hid (PatV w10 (· < w10.heap.size) (.agg #[.int .i64 q.kind, .string q.text, .int .i64 q.n, .string q.name, .slice ka8 q.kids.length cap8]) q) := ⟨x1, x2, x3, x4, x5.to K10 (fun b hb => ⟨hb, fun h => h⟩) (fun b hb => Nat.lt_of_lt_of_le hb K10.size)⟩
      have GG10 : Hid (Glob w10) := GG9.out.below K10.below (by omega)
      have KK10 := Lib.hid (KK9.out.trans K10)
      have KN10 := Lib.hid K10
      have n10 := K10.size
      clear x1 x2 x3 x4 x5 c0 c1 c2 c3 c4 d0 d1 K10 F9 T9 PV9 GG9 KK9 HW9
      obtain ⟨c0, c1, c2, c3, c4, _⟩ := F10.out.cells
      go_wp2_with fail
      refine (print_any q _ w10 PV10.out (by omega) GG10.out (by omega)).mono ?_
      rintro e w11 ⟨rfl, K11⟩
      have hps := printF_size q
      have HAG2 : Hid ((printF q).2 = 0 → readQ ⟨(printF q).1.toArray⟩ = (q, (0, 0))) := HAG.out (by first | rfl | trivial)
      have HPM : Hid ((printF q).2 ≠ 0 → (printF q).2 = 4) := fun h => print_much HWR.out h
      generalize (printF q).2 = pe at *
      generalize hpt : (⟨(printF q).1.toArray⟩ : ByteArray) = pt at *
      have F11 := Lib.hid (F10.out.kept K11 (fun h => h)); have T11 := Lib.hid (T10.out.kept K11 (fun h => h))
      obtain ⟨x1, x2, x3, x4, x5⟩ := PV10.out
      have PV11 : Hid (PatV w11 (· < w11.heap.size) (.agg #[.int .i64 q.kind, .string q.text, .int .i64 q.n, .string q.name, .slice ka8 q.kids.length cap8]) q) := ⟨x1, x2, x3, x4, x5.to K11 (fun b hb => ⟨hb, fun h => h⟩) (fun b hb => Nat.lt_of_lt_of_le hb K11.size)⟩
      have KK11 := Lib.hid (KK10.out.trans K11)
      have KN11 := Lib.hid (KN10.out.trans K11)
      have n11 := K11.size
      clear x1 x2 x3 x4 x5 c0 c1 c2 c3 c4 K11 F10 T10 PV10 GG10 KK10 KN10 HAG HTR HWR hpt
      by_cases h0 : pe = 0
      rotate_left
      · have hb : (pe != 0) = true := by simpa using h0
        obtain rfl : pe = 4 := HPM.out h0
        clear h0 hb HPM HAG2
        go_wp2_with fail
        go_ret
        exact ⟨rfl, KK11.out⟩
      · subst h0
        have hq2 := HAG2.out (by first | rfl | trivial)
        have HQ2 := Lib.hid hq2
        clear hq2 HPM HAG2
        go_wp2_with fail
        refine (read_any pt w11 (by unfold maxLen; omega)).mono ?_
        intro e w12 h
        obtain ⟨K12, S12, ka12, cap12, hS12, rfl, hz12, hk12⟩ := read_to h HQ2.out
        clear h
        have F12 := F11.out.kept K12 (fun h => h); have T12 := T11.out.kept K12 (fun h => h)
        have n12 := K12.size
        obtain ⟨v0, v1, dfz⟩ := (T12.kept ((Kept.refl Nix w12).alloc (.cells #[.int .i64 q.kind, .string q.text, .int .i64 q.n, .string q.name, .slice ka12 q.kids.length cap12] 24)) (fun h => h)).cells
        have dz0 := dfz 0
        have dz1 := dfz 1
        obtain ⟨y0, y1, dfy⟩ := T12.cells
        have dy0 := dfy 0
        have dy1 := dfy 1
        obtain ⟨w13, hw13⟩ : ∃ w13, w13 = ((w12.alloc (.cells #[.int .i64 q.kind, .string q.text, .int .i64 q.n, .string q.name, .slice ka12 q.kids.length cap12] 24)).setCell ⟨w8.heap.size + 1, 0, none⟩ (.int .i64 0)).setCell ⟨w8.heap.size + 1, 1, none⟩ (.int .i64 0) := ⟨_, rfl⟩
        have k13 : Kept (· = w8.heap.size + 1) w12 w13 := by rw [hw13]; exact ((Kept.refl (· = w8.heap.size + 1) w12).alloc _).set2 (.inl rfl) _ _
        have R13 : Hid (Five w12.heap.size (.int .i64 q.kind) (.string q.text) (.int .i64 q.n) (.string q.name) (.slice ka12 q.kids.length cap12) w13) := by rw [hw13]; exact Five.kept (heap_alloc_new w12 _) ((Kept.refl (· = w8.heap.size + 1) _).set2 (.inl rfl) _ _) (by show ¬ w12.heap.size = _; omega)
        have F13 : Hid (Five w8.heap.size (.int .i64 q.kind) (.string q.text) (.int .i64 q.n) (.string q.name) (.slice ka8 q.kids.length cap8) w13) := F12.kept k13 (by show ¬ w8.heap.size = _; omega)
        have T13 : Hid (Two (w8.heap.size + 1) (.int .i64 0) (.int .i64 0) w13) := by rw [hw13]; exact (T12.kept ((Kept.refl Nix _).alloc _) (fun h => h)).set2 _ _
        have KK13 : Hid (Kept Nix w w13) := ((KK11.out.trans K12).step k13 (fun y hy => .inr (by have := KK11.out.size; omega)))
        have hs13 := k13.size
        have HK13 := (HK9.out.kept (KN11.out.trans K12) (fun b hb => ⟨by have := HS8.out b hb; omega, fun h => h⟩)).kept k13 (fun b hb => by have := HS8.out b hb; exact ⟨by omega, by show ¬ b = _; omega⟩)
        have V1 : Hid (PatV w13 S8 (.agg #[.int .i64 q.kind, .string q.text, .int .i64 q.n, .string q.name, .slice ka8 q.kids.length cap8]) q) := ⟨ka8, cap8, rfl, HZ8.out, HK13⟩
        have V2 : Hid (PatV w13 S12 (.agg #[.int .i64 q.kind, .string q.text, .int .i64 q.n, .string q.name, .slice ka12 q.kids.length cap12]) q) := ⟨ka12, cap12, rfl, hz12, hk12.kept k13 (fun b hb => by have := hS12 b hb; exact ⟨by omega, by show ¬ b = _; omega⟩)⟩
        have D1 : Hid (Safe S8 Nix w13.heap.size) := fun b hb => ⟨by have := HS8.out b hb; omega, fun h => h⟩
        have D2 : Hid (Safe S12 Nix w13.heap.size) := fun b hb => ⟨by have := hS12 b hb; omega, fun h => h⟩
        have HW13 := Lib.hid hw13
        clear K12 k13 F12 T12 hz12 hk12 hS12 hw13 HK13 KK11 KN11 F11 T11 PV11 HK9 HS8 HZ8 HQ2
        go_upto_region 17 with fail
        rw [← HW13.out]
        clear v0 v1 dz0 dz1 y0 y1 dy0 dy1 dfz dfy
        obtain ⟨c0, c1, c2, c3, c4, _⟩ := F13.out.cells
        obtain ⟨r0, r1, r2, r3, r4, _⟩ := R13.out.cells
        obtain ⟨d0, d1, _⟩ := T13.out.cells
        go_wp2_with fail
        refine (same_any 200000 q _ _ S8 S12 _ hqs (by decide) V1.out V2.out D1.out D2.out).mono ?_
        rintro e w14 ⟨rfl, K14⟩
        go_wp2_with fail
        go_ret
        exact ⟨rfl, KK13.out.trans K14⟩
  · subst h0
    have HQ2 := Lib.hid (HQ1.out (by first | rfl | trivial))
    clear HQ1
    go_wp2_with fail
    refine (read_any pt w3 (by unfold maxLen; omega)).mono ?_
    intro e w4 h
    obtain ⟨K4, S4, ka4, cap4, hS4, rfl, hz4, hk4⟩ := read_to h HQ2.out
    clear h
    have hbs : sizeT (bareT p) ≤ 100000000 := by rw [bare_size]; exact hsz
    obtain ⟨bp, hbp⟩ : ∃ bp, bp = bareT p := ⟨_, rfl⟩
    rw [← hbp] at hz4 hk4 hbs ⊢
    have HBP := Lib.hid hbp
    clear hbp HQ2
    have F4 := F3.out.kept K4 (fun h => h)
    obtain ⟨w5, hw5⟩ : ∃ w5, w5 = ((w4.alloc (.cells #[.int .i64 bp.kind, .string bp.text, .int .i64 bp.n, .string bp.name, .slice ka4 bp.kids.length cap4] 24)).alloc (.cells #[.int .i64 0, .int .i64 0] 31)) := ⟨_, rfl⟩
    have k5 : Kept Nix w4 w5 := by rw [hw5]; exact ((Kept.refl Nix _).alloc _).alloc _
    have F5 := Lib.hid (F4.kept k5 (fun h => h))
    have Q5 : Hid (Five w4.heap.size (.int .i64 bp.kind) (.string bp.text) (.int .i64 bp.n) (.string bp.name) (.slice ka4 bp.kids.length cap4) w5) := by rw [hw5]; exact Five.kept (heap_alloc_new w4 _) ((Kept.refl Nix _).alloc _) (fun h => h)
    have T5 : Hid (Two (w4.heap.size + 1) (.int .i64 0) (.int .i64 0) w5) := by rw [hw5]; exact heap_new2 (by simp)
    have n4 := K4.size
    have n5 := k5.size
    have hd5 := (Kept.refl Nix w5).drew.size
    have HZ4 := Lib.hid hz4
    have HK5 : Hid (PatsAt w5.drew S4 ka4 bp.kids) := (hk4.kept k5 (fun b hb => ⟨(hS4 b hb).2, fun h => h⟩)).kept (Kept.refl Nix w5).drew (fun b hb => ⟨by have := (hS4 b hb).2; omega, fun h => h⟩)
    have VP : Hid (PatV w5.drew (· < w3.heap.size) (.agg #[.int .i64 p.kind, .string p.text, .int .i64 p.n, .string p.name, .slice ka p.kids.length cap]) p) := by
      obtain ⟨x1, x2, x3, x4, x5⟩ := PV3.out
      exact ⟨x1, x2, x3, x4, x5.kept ((K4.trans k5).trans (Kept.refl Nix w5).drew) (fun b hb => ⟨hb, fun h => h⟩)⟩
    have DP : Hid (Safe (· < w3.heap.size) Nix w5.drew.heap.size) := fun b hb => ⟨by have : b < w3.heap.size := hb; omega, fun h => h⟩
    have DQ : Hid (∀ b, S4 b → b < w5.drew.heap.size) := fun b hb => by have := (hS4 b hb).2; omega
    have KK5 := Lib.hid ((KK3.out.trans K4).trans k5)
    have G5 : Hid (Glob w5) := G3.out.below (K4.trans k5).below (by omega)
    have kk5 := KK5.out.size
    have HW5 := Lib.hid hw5
    have KD5 := Lib.hid (Kept.refl Nix w5).drew
    clear hw5 k5 K4 F4 F3 hz4 hk4 hS4 KK3 G3 PV3
    go_upto_region 6 with fail
    rw [← HW5.out]
    obtain ⟨c0, c1, c2, c3, c4, _⟩ := F5.out.cells
    obtain ⟨r0, r1, r2, r3, r4, _⟩ := Q5.out.cells
    obtain ⟨d0, d1, _⟩ := T5.out.cells
    go_cut [37] (fun c wx => c = .bool false ∧ Kept Nix w5 wx)
    case first =>
      go_region_with (first
        | (go_at_call 10; (with_reducible refine (bare_any 100000000 p _ (· < w3.heap.size) _ hsz VP.out DP.out).mono ?_); rintro e w6 ⟨vb, rfl, ⟨S6, hS6, kb, cb, rfl, hz6, hk6⟩, k_⟩; rw [← HBP.out] at hz6 hk6 ⊢; have VQ6 : Hid (PatV w6 S4 (.agg #[.int .i64 bp.kind, .string bp.text, .int .i64 bp.n, .string bp.name, .slice ka4 bp.kids.length cap4]) bp) := ⟨ka4, cap4, rfl, HZ4.out, HK5.out.kept k_ (fun b hb => ⟨DQ.out b hb, fun h => h⟩)⟩; have VB6 : Hid (PatV w6 S6 (.agg #[.int .i64 bp.kind, .string bp.text, .int .i64 bp.n, .string bp.name, .slice kb bp.kids.length cb]) bp) := ⟨kb, cb, rfl, hz6, hk6⟩; have D6 : Hid (Safe S4 Nix w6.heap.size) := fun b hb => ⟨Nat.lt_of_lt_of_le (DQ.out b hb) k_.size, fun h => h⟩; have E6 : Hid (Safe S6 Nix w6.heap.size) := fun b hb => ⟨(hS6 b hb).2, fun h => h⟩; have K6 := Lib.hid (KD5.out.trans k_); obtain ⟨g0, g1, g2, g3, g4, _⟩ := (Q5.out.kept K6.out (fun h => h)).cells; obtain ⟨m0, m1, _⟩ := (T5.out.kept K6.out (fun h => h)).cells; clear k_ hz6 hk6 hS6)
        | (go_at_call 9; (with_reducible refine (same_any 100000000 bp _ _ S4 S6 _ hbs (by decide) VQ6.out VB6.out D6.out E6.out).mono ?_); rintro e w7 ⟨rfl, k_⟩; have K7 := Lib.hid (K6.out.trans k_); obtain ⟨m0, m1, _⟩ := (T5.out.kept K7.out (fun h => h)).cells; clear k_))
      all_goals (go_wp2_with fail; go_meet; exact ⟨rfl, K7.out⟩)
    case rest =>
      obtain ⟨rfl, k6⟩ := hcut
      have KK6 := Lib.hid (KK5.out.trans k6)
      have G6 := Lib.hid (G5.out.below k6.below (by omega))
      have n6 := k6.size
      clear c0 c1 c2 c3 c4 r0 r1 r2 r3 r4 d0 d1 k6 F5 Q5 T5 HK5 HZ4 VP DP DQ KK5 G5 HW5 KD5 HBP
      go_wp2_with fail
      refine (read_any t _ ht).mono ?_
      intro e w8 h
      obtain ⟨q, er, hq⟩ : ∃ q er, readQ t = (q, er) := ⟨_, _, rfl⟩
      obtain ⟨K8, S8, ka8, cap8, hS8, rfl, hz8, hk8⟩ := read_to h hq
      clear h
      obtain ⟨f0, f1⟩ := er
      have hr1 : (readQ t).1 = q := by rw [hq]
      have hr2 : (readQ t).2.1 = f0 := by rw [hq]
      have hqs := readQ_sz t
      rw [hr1] at hqs
      have htr : f0 = 0 → wrongF q = 0 ∧ bareT q = q := fun h => by have := turn_right (s := t) (by rw [hr2]; exact h); rw [hr1] at this; exact this
      have hag : f0 = 0 → (printF q).2 = 0 → readQ ⟨(printF q).1.toArray⟩ = (q, (0, 0)) := fun h hp => by have := turn_again (s := t) (by rw [hr2]; exact h) (by rw [hr1]; exact hp); rw [hr1] at this; exact this
      clear hr1 hr2 hq
      dsimp only
      obtain ⟨w9, hw9⟩ : ∃ w9, w9 = ((w8.alloc (.cells #[.int .i64 q.kind, .string q.text, .int .i64 q.n, .string q.name, .slice ka8 q.kids.length cap8] 24)).alloc (.cells #[.int .i64 f0, .int .i64 f1] 31)) := ⟨_, rfl⟩
      have k9 : Kept Nix w8 w9 := by rw [hw9]; exact ((Kept.refl Nix _).alloc _).alloc _
      have n9 : w9.heap.size = w8.heap.size + 2 := by rw [hw9]; simp
      have F9 : Hid (Five w8.heap.size (.int .i64 q.kind) (.string q.text) (.int .i64 q.n) (.string q.name) (.slice ka8 q.kids.length cap8) w9) := by rw [hw9]; exact Five.kept (heap_alloc_new w8 _) ((Kept.refl Nix _).alloc _) (fun h => h)
      have T9 : Hid (Two (w8.heap.size + 1) (.int .i64 f0) (.int .i64 f1) w9) := by rw [hw9]; exact heap_new2 (by simp)
      have n8 := K8.size
      have PV9 : Hid (PatV w9 (· < w9.heap.size) (.agg #[.int .i64 q.kind, .string q.text, .int .i64 q.n, .string q.name, .slice ka8 q.kids.length cap8]) q) := ⟨ka8, cap8, rfl, hz8, hk8.to k9 (fun b hb => ⟨(hS8 b hb).2, fun h => h⟩) (fun b hb => by have := (hS8 b hb).2; omega)⟩
      have kk7 := KK6.out.size
      have GG9 : Hid (Glob w9) := G6.out.below (K8.trans k9).below (by omega)
      have KK9 := Lib.hid ((KK6.out.trans K8).trans k9)
      have kk9 := KK9.out.size
      have HW9 := Lib.hid hw9
      have HTR := Lib.hid htr; have HAG := Lib.hid hag
      have HK9 : Hid (PatsAt w9 S8 ka8 q.kids) := hk8.kept k9 (fun b hb => ⟨(hS8 b hb).2, fun h => h⟩)
      have HS8 : Hid (∀ b, S8 b → b < w8.heap.size) := fun b hb => (hS8 b hb).2
      have HZ8 := Lib.hid hz8
      clear hw9 k9 K8 hS8 hz8 hk8 KK6 G6 htr hag
      go_upto_region 9 with fail
      rw [← HW9.out]
      obtain ⟨c0, c1, c2, c3, c4, _⟩ := F9.out.cells
      obtain ⟨d0, d1, _⟩ := T9.out.cells
      by_cases h0 : f0 = 0
      rotate_left
      · have hb : (f0 != 0) = true := by simpa using h0
        clear h0
        go_wp2_with fail
        go_ret
        exact ⟨rfl, KK9.out⟩
      · subst h0
        have hwr := (HTR.out (by first | rfl | trivial)).1
        have HWR := Lib.hid hwr
        clear hwr
        go_wp2_with fail
        refine (Wrong_any q _ w9 PV9.out (by omega)).mono ?_
        rintro e w10 ⟨rfl, K10⟩
        rw [HWR.out]
        have F10 := Lib.hid (F9.out.kept K10 (fun h => h)); have T10 := Lib.hid (T9.out.kept K10 (fun h => h))
        obtain ⟨x1, x2, x3, x4, x5⟩ := PV9.out
        have PV10 : Hid (PatV w10 (· < w10.heap.size) (.agg #[.int .i64 q.kind, .string q.text, .int .i64 q.n, .string q.name, .slice ka8 q.kids.length cap8]) q) := ⟨x1, x2, x3, x4, x5.to K10 (fun b hb => ⟨hb, fun h => h⟩) (fun b hb => Nat.lt_of_lt_of_le hb K10.size)⟩
        have GG10 : Hid (Glob w10) := GG9.out.below K10.below (by omega)
        have KK10 := Lib.hid (KK9.out.trans K10)
        have KN10 := Lib.hid K10
        have n10 := K10.size
        clear x1 x2 x3 x4 x5 c0 c1 c2 c3 c4 d0 d1 K10 F9 T9 PV9 GG9 KK9 HW9
        obtain ⟨c0, c1, c2, c3, c4, _⟩ := F10.out.cells
        go_wp2_with fail
        refine (print_any q _ w10 PV10.out (by omega) GG10.out (by omega)).mono ?_
        rintro e w11 ⟨rfl, K11⟩
        have hps := printF_size q
        have HAG2 : Hid ((printF q).2 = 0 → readQ ⟨(printF q).1.toArray⟩ = (q, (0, 0))) := HAG.out (by first | rfl | trivial)
        have HPM : Hid ((printF q).2 ≠ 0 → (printF q).2 = 4) := fun h => print_much HWR.out h
        generalize (printF q).2 = pe at *
        generalize hpt : (⟨(printF q).1.toArray⟩ : ByteArray) = pt at *
        have F11 := Lib.hid (F10.out.kept K11 (fun h => h)); have T11 := Lib.hid (T10.out.kept K11 (fun h => h))
        obtain ⟨x1, x2, x3, x4, x5⟩ := PV10.out
        have PV11 : Hid (PatV w11 (· < w11.heap.size) (.agg #[.int .i64 q.kind, .string q.text, .int .i64 q.n, .string q.name, .slice ka8 q.kids.length cap8]) q) := ⟨x1, x2, x3, x4, x5.to K11 (fun b hb => ⟨hb, fun h => h⟩) (fun b hb => Nat.lt_of_lt_of_le hb K11.size)⟩
        have KK11 := Lib.hid (KK10.out.trans K11)
        have KN11 := Lib.hid (KN10.out.trans K11)
        have n11 := K11.size
        clear x1 x2 x3 x4 x5 c0 c1 c2 c3 c4 K11 F10 T10 PV10 GG10 KK10 KN10 HAG HTR HWR hpt
        by_cases h0 : pe = 0
        rotate_left
        · have hb : (pe != 0) = true := by simpa using h0
          obtain rfl : pe = 4 := HPM.out h0
          clear h0 hb HPM HAG2
          go_wp2_with fail
          go_ret
          exact ⟨rfl, KK11.out⟩
        · subst h0
          have hq2 := HAG2.out (by first | rfl | trivial)
          have HQ2 := Lib.hid hq2
          clear hq2 HPM HAG2
          go_wp2_with fail
          refine (read_any pt w11 (by unfold maxLen; omega)).mono ?_
          intro e w12 h
          obtain ⟨K12, S12, ka12, cap12, hS12, rfl, hz12, hk12⟩ := read_to h HQ2.out
          clear h
          have F12 := F11.out.kept K12 (fun h => h); have T12 := T11.out.kept K12 (fun h => h)
          have n12 := K12.size
          obtain ⟨v0, v1, dfz⟩ := (T12.kept ((Kept.refl Nix w12).alloc (.cells #[.int .i64 q.kind, .string q.text, .int .i64 q.n, .string q.name, .slice ka12 q.kids.length cap12] 24)) (fun h => h)).cells
          have dz0 := dfz 0
          have dz1 := dfz 1
          obtain ⟨y0, y1, dfy⟩ := T12.cells
          have dy0 := dfy 0
          have dy1 := dfy 1
          obtain ⟨w13, hw13⟩ : ∃ w13, w13 = ((w12.alloc (.cells #[.int .i64 q.kind, .string q.text, .int .i64 q.n, .string q.name, .slice ka12 q.kids.length cap12] 24)).setCell ⟨w8.heap.size + 1, 0, none⟩ (.int .i64 0)).setCell ⟨w8.heap.size + 1, 1, none⟩ (.int .i64 0) := ⟨_, rfl⟩
          have k13 : Kept (· = w8.heap.size + 1) w12 w13 := by rw [hw13]; exact ((Kept.refl (· = w8.heap.size + 1) w12).alloc _).set2 (.inl rfl) _ _
          have R13 : Hid (Five w12.heap.size (.int .i64 q.kind) (.string q.text) (.int .i64 q.n) (.string q.name) (.slice ka12 q.kids.length cap12) w13) := by rw [hw13]; exact Five.kept (heap_alloc_new w12 _) ((Kept.refl (· = w8.heap.size + 1) _).set2 (.inl rfl) _ _) (by show ¬ w12.heap.size = _; omega)
          have F13 : Hid (Five w8.heap.size (.int .i64 q.kind) (.string q.text) (.int .i64 q.n) (.string q.name) (.slice ka8 q.kids.length cap8) w13) := F12.kept k13 (by show ¬ w8.heap.size = _; omega)
          have T13 : Hid (Two (w8.heap.size + 1) (.int .i64 0) (.int .i64 0) w13) := by rw [hw13]; exact (T12.kept ((Kept.refl Nix _).alloc _) (fun h => h)).set2 _ _
          have KK13 : Hid (Kept Nix w w13) := ((KK11.out.trans K12).step k13 (fun y hy => .inr (by have := KK11.out.size; omega)))
          have hs13 := k13.size
          have HK13 := (HK9.out.kept (KN11.out.trans K12) (fun b hb => ⟨by have := HS8.out b hb; omega, fun h => h⟩)).kept k13 (fun b hb => by have := HS8.out b hb; exact ⟨by omega, by show ¬ b = _; omega⟩)
          have V1 : Hid (PatV w13 S8 (.agg #[.int .i64 q.kind, .string q.text, .int .i64 q.n, .string q.name, .slice ka8 q.kids.length cap8]) q) := ⟨ka8, cap8, rfl, HZ8.out, HK13⟩
          have V2 : Hid (PatV w13 S12 (.agg #[.int .i64 q.kind, .string q.text, .int .i64 q.n, .string q.name, .slice ka12 q.kids.length cap12]) q) := ⟨ka12, cap12, rfl, hz12, hk12.kept k13 (fun b hb => by have := hS12 b hb; exact ⟨by omega, by show ¬ b = _; omega⟩)⟩
          have D1 : Hid (Safe S8 Nix w13.heap.size) := fun b hb => ⟨by have := HS8.out b hb; omega, fun h => h⟩
          have D2 : Hid (Safe S12 Nix w13.heap.size) := fun b hb => ⟨by have := hS12 b hb; omega, fun h => h⟩
          have HW13 := Lib.hid hw13
          clear K12 k13 F12 T12 hz12 hk12 hS12 hw13 HK13 KK11 KN11 F11 T11 PV11 HK9 HS8 HZ8 HQ2
          go_upto_region 17 with fail
          rw [← HW13.out]
          clear v0 v1 dz0 dz1 y0 y1 dy0 dy1 dfz dfy
          obtain ⟨c0, c1, c2, c3, c4, _⟩ := F13.out.cells
          obtain ⟨r0, r1, r2, r3, r4, _⟩ := R13.out.cells
          obtain ⟨d0, d1, _⟩ := T13.out.cells
          go_wp2_with fail
          refine (same_any 200000 q _ _ S8 S12 _ hqs (by decide) V1.out V2.out D1.out D2.out).mono ?_
          rintro e w14 ⟨rfl, K14⟩
          go_wp2_with fail
          go_ret
          exact ⟨rfl, KK13.out.trans K14⟩
end Go.Proofs.YtdnglicgmlldlaaDoor
