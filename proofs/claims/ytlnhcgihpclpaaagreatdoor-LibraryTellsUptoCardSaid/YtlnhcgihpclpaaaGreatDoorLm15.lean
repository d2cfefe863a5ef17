/- The program's reader of lines: unary with its sign. The program's reader of lines: expr; binary without levels. The program's reader of lines: binary without levels. The program's reader of lines: what binary's loop keeps (pure). -/
import Derived.Test.YtlnhcgihpclpaaaGreatDoorLm14
namespace Go.Proofs.YtlnhcgihpclpaaaGreatDoor
set_option linter.all false
open Go.RowKit

theorem len1E (q : PatT) : (E0.size < 1000000000) ∧ (E0.size < 1000000000) ∧ ([q] : List PatT).length < 1000000000 := ⟨by decide, by decide, by simp⟩

set_option maxRecDepth 100000 in
set_option maxHeartbeats 4000000 in
theorem lun_deep {N T en : Nat} {pr : List LTok → TRes PatT} {l : List LTok} {w : World} (h : PsR N T en l 400 w) (hs : signT (bs [45]) l = true) : Calls Tryz.prog 98 #[.pointer (some ⟨N, 0, none⟩)] w (XQ N T en 400 (unT (fun l => .error (4, atT en l)) pr l) w) := by
  obtain ⟨d, hd⟩ : ∃ d : Nat, d = 400 := ⟨_, rfl⟩
  rw [← hd] at h ⊢
  have er : Hid (unT (fun l => .error (4, atT en l)) pr l = .error (4, atT en l.tail)) := by unfold Hid unT; rw [hs]; rfl
  obtain ⟨hN, hT, hne, h7⟩ := h.ltN
  obtain ⟨w0, hw0⟩ : ∃ w0, w0 = w.alloc (.cells #[.int .i64 0, .string ⟨#[]⟩, .int .i64 0, .string ⟨#[]⟩, .slice none 0 0] 44) := ⟨_, rfl⟩
  have k0 : Kept Nix w w0 := by rw [hw0]; exact (Kept.refl _ _).alloc _
  obtain ⟨M2, hM2⟩ : ∃ M, M = w.heap.size := ⟨_, rfl⟩
  have Z0 : Hid (FivE M2 (.int .i64 0) (.string ⟨#[]⟩) (.int .i64 0) (.string ⟨#[]⟩) (.slice none 0 0) w0) := by rw [hw0, hM2]; exact heap_alloc_new w _
  have HI := Lib.hid (lis_any (bs [45]) (h.kept k0 (fun h => h) (fun h => h)))
  unfold IsLQ at HI
  rw [hs] at HI
  simp only [if_true] at HI
  obtain ⟨lr, hlr⟩ : ∃ lr, lr = l.tail := ⟨_, rfl⟩
  rw [← hlr] at HI
  have K0 := Lib.hid k0; have HW0 := Lib.hid hw0; have HM2 := Lib.hid hM2
  obtain ⟨d1, hd1⟩ : ∃ d1 : Nat, d1 = d + 1 := ⟨_, rfl⟩
  have hdi : (d : Int) + 1 = (d1 : Int) := by omega
  clear k0 hw0 hM2 h
  rw [← hlr] at er
  have g1 : decide ((400 : Int) < (d1 : Int)) = true := decide_eq_true (by omega)
  have g2 : decide (400 < d1) = true := decide_eq_true (by omega)
  have hb : d1 ≤ 1000 := by omega
  have HD := Lib.hid hd1
  clear hs hlr hd hd1
  go_enter Tryz.func98, Tryz.ntmps98
  go_upto_region 1 with fail
  rw [← HW0.out, ← HM2.out]
  go_upto_region 4 with (go_at_call 46; (refine HI.out.mono ?_); rintro e w1 ⟨rfl, r1_, k1_⟩; have R1 := Lib.hid r1_; have K1 := Lib.hid k1_; have Z1 := Lib.hid (Z0.out.kept k1_ (by have := HM2.out; omega)); obtain ⟨q2, qf2⟩ := r1_.deep; clear r1_ k1_)
  obtain ⟨w2, hw2⟩ : ∃ w2, w2 = w1.setCell ⟨N, 2, none⟩ (.int .i64 (d1 : Int)) := ⟨_, rfl⟩
  have r2 := R1.out.setDeep d1
  rw [← hw2] at r2 ⊢
  have k2 : Kept (· = N) w1 w2 := by rw [hw2]; exact (Kept.refl (· = N) w1).setCell (p := ⟨N, 2, none⟩) (.inl rfl) _
  have K2 := Lib.hid k2
  clear hw2 k2 q2 qf2
  obtain ⟨q2, qf2⟩ := r2.deep
  obtain ⟨n2, a2, c2, r2⟩ := r2
  have HA := Lib.hid (lat_any r2)
  clear r2
  go_wp2_with (first
    | (go_at_call 49; (refine HA.out.mono ?_); rintro e w' ⟨rfl, hw_⟩; obtain rfl := hw_.symm)
    | (go_at_call 48; (refine (lfail_any _ 4 (atT en lr) w2).mono ?_); rintro e w3 ⟨rfl, rfl⟩))
  refine ⟨rfl, ((K0.out.more (fun _ h => h.elim)).trans K1.out).trans K2.out, ?_⟩
  rw [er.out]
  exact rfl

set_option maxRecDepth 100000 in
set_option maxHeartbeats 8000000 in
theorem lun_more {N T en d : Nat} {un pr : List LTok → TRes PatT} (hd : d < 400) (HU : UnOk N T en (d + 1) un) {l : List LTok} {w : World} (h : PsR N T en l d w) (hs : signT (bs [45]) l = true) : Calls Tryz.prog 98 #[.pointer (some ⟨N, 0, none⟩)] w (XQ N T en d (unT un pr l) w) := by
  have er : Hid (unT un pr l = match un l.tail with | .error er => .error er | .ok (x, r) => .ok (node1 7 x, r)) := by unfold Hid unT; rw [hs]; rfl
  obtain ⟨hN, hT, hne, h7⟩ := h.ltN
  obtain ⟨w0, hw0⟩ : ∃ w0, w0 = w.alloc (.cells #[.int .i64 0, .string ⟨#[]⟩, .int .i64 0, .string ⟨#[]⟩, .slice none 0 0] 44) := ⟨_, rfl⟩
  have k0 : Kept Nix w w0 := by rw [hw0]; exact (Kept.refl _ _).alloc _
  obtain ⟨M2, hM2⟩ : ∃ M, M = w.heap.size := ⟨_, rfl⟩
  have Z0 : Hid (FivE M2 (.int .i64 0) (.string ⟨#[]⟩) (.int .i64 0) (.string ⟨#[]⟩) (.slice none 0 0) w0) := by rw [hw0, hM2]; exact heap_alloc_new w _
  have HI := Lib.hid (lis_any (bs [45]) (h.kept k0 (fun h => h) (fun h => h)))
  unfold IsLQ at HI
  rw [hs] at HI
  simp only [if_true] at HI
  obtain ⟨lr, hlr⟩ : ∃ lr, lr = l.tail := ⟨_, rfl⟩
  rw [← hlr] at HI
  have K0 := Lib.hid k0; have HW0 := Lib.hid hw0; have HM2 := Lib.hid hM2
  obtain ⟨d1, hd1⟩ : ∃ d1 : Nat, d1 = d + 1 := ⟨_, rfl⟩
  have hdi : (d : Int) + 1 = (d1 : Int) := by omega
  clear k0 hw0 hM2 h
  rw [← hlr] at er
  rw [← hd1] at HU
  have g1 : decide ((400 : Int) < (d1 : Int)) = false := decide_eq_false (by omega)
  have g2 : decide (400 < d1) = false := decide_eq_false (by omega)
  have hb : d1 ≤ 1000 := by omega
  have hb1 : 1 ≤ d1 := by omega
  have hdj : (d1 : Int) - 1 = (d : Int) := by omega
  have HUN := Lib.hid HU
  clear hs hlr hd1 HU
  go_enter Tryz.func98, Tryz.ntmps98
  go_upto_region 1 with fail
  rw [← HW0.out, ← HM2.out]
  go_upto_region 4 with (go_at_call 46; (refine HI.out.mono ?_); rintro e w1 ⟨rfl, r1_, k1_⟩; have R1 := Lib.hid r1_; have K1 := Lib.hid k1_; have Z1 := Lib.hid (Z0.out.kept k1_ (by have := HM2.out; omega)); obtain ⟨q2, qf2⟩ := r1_.deep; clear r1_ k1_)
  obtain ⟨w2, hw2⟩ : ∃ w2, w2 = w1.setCell ⟨N, 2, none⟩ (.int .i64 (d1 : Int)) := ⟨_, rfl⟩
  have r2 := R1.out.setDeep d1
  rw [← hw2] at r2 ⊢
  have k2 : Kept (· = N) w1 w2 := by rw [hw2]; exact (Kept.refl (· = N) w1).setCell (p := ⟨N, 2, none⟩) (.inl rfl) _
  have K2 := Lib.hid k2; have R2 := Lib.hid r2
  have Z2 := Lib.hid (Z1.out.kept k2 (by have := HM2.out; omega))
  have K02 : Hid (Kept (· = N) w w2) := ((K0.out.more (fun _ h => h.elim)).trans K1.out).trans k2
  clear hw2 k2 q2 qf2
  obtain ⟨q2, qf2⟩ := r2.deep
  clear r2
  cases hu : un lr with
  | error e0 =>
    rw [hu] at er
    go_wp2_with (go_at_call 98; (refine (HUN.out lr w2 R2.out).mono ?_); intro e w3 h3_; obtain ⟨k3_, rfl⟩ := h3_.bad hu; have K3 := Lib.hid k3_; clear k3_ h3_)
    refine ⟨rfl, K02.out.trans K3.out, ?_⟩
    rw [er.out]
    exact rfl
  | ok x =>
    obtain ⟨p, r⟩ := x
    rw [hu] at er
    dsimp only at er
    go_upto_region 7 with (go_at_call 98; (refine (HUN.out lr w2 R2.out).mono ?_); intro e w3 h3_; obtain ⟨k3_, r3_, S, ka, cap, rfl, hS_, hz_, hk_⟩ := h3_.ok hu; have K3 := Lib.hid k3_; have R3 := Lib.hid r3_; have HS := Lib.hid hS_; have HZ := Lib.hid hz_; have HK := Lib.hid hk_; clear k3_ r3_ hS_ hz_ hk_ h3_)
    obtain ⟨w5, hw5⟩ : ∃ w5, w5 = (w3.alloc (.cells #[.int .i64 p.kind, .string p.text, .int .i64 p.n, .string p.name, .slice ka p.kids.length cap] 44)).alloc (.cells #[.int .i64 7, .string ⟨#[]⟩, .int .i64 0, .string ⟨#[]⟩, .slice (some ⟨w3.heap.size, 0, none⟩) 1 1] 44) := ⟨_, rfl⟩
    have k5 : Kept Nix w3 w5 := by rw [hw5]; exact ((Kept.refl _ _).alloc _).alloc _
    have G5 : Hid (FivE w3.heap.size (.int .i64 p.kind) (.string p.text) (.int .i64 p.n) (.string p.name) (.slice ka p.kids.length cap) w5) := by rw [hw5]; exact FivE.kept (heap_alloc_new w3 _) ((Kept.refl Nix _).alloc _) (fun h => h)
    have X5 : Hid (FivE (w3.heap.size + 1) (.int .i64 7) (.string ⟨#[]⟩) (.int .i64 0) (.string ⟨#[]⟩) (.slice (some ⟨w3.heap.size, 0, none⟩) 1 1) w5) := by rw [hw5]; exact heap_new2 (by simp)
    have r5 := R3.out.kept k5 (fun h => h) (fun h => h)
    have Z5 := Lib.hid ((Z2.out.kept K3.out (by have := HM2.out; omega)).kept k5 (fun h => h))
    have hz5 : w5.heap.size = w3.heap.size + 2 := by rw [hw5]; simp
    rw [← hw5]
    obtain ⟨B, hB⟩ : ∃ B, B = w3.heap.size := ⟨_, rfl⟩
    rw [← hB] at G5 X5 ⊢
    have HB := Lib.hid hB; have HZ5 := Lib.hid hz5; have K5 := Lib.hid k5; have R5 := Lib.hid r5
    clear hw5 k5 hz5 hB q2 qf2
    obtain ⟨q2, qf2⟩ := r5.deep
    clear r5
    go_upto_region 8 with fail
    obtain ⟨w6, hw6⟩ : ∃ w6, w6 = w5.setCell ⟨N, 2, none⟩ (.int .i64 (d : Int)) := ⟨_, rfl⟩
    have r6 := R5.out.setDeep d
    rw [← hw6] at r6 ⊢
    have k6 : Kept (· = N) w5 w6 := by rw [hw6]; exact (Kept.refl (· = N) w5).setCell (p := ⟨N, 2, none⟩) (.inl rfl) _
    have hN5 : N < B := by have := HB.out; have := K0.out.size; have := K1.out.size; have := K2.out.size; have := K3.out.size; omega
    have G6 := Lib.hid (G5.out.kept k6 (by omega)); have X6 := Lib.hid (X5.out.kept k6 (by omega)); have Z6 := Lib.hid (Z5.out.kept k6 (by have := HM2.out; omega))
    have R6 := Lib.hid r6; have K6 := Lib.hid k6
    clear hw6 k6 r6 q2 qf2
    obtain ⟨x0, x1, x2, x3, x4, _⟩ := X6.out.cells
    obtain ⟨z0, z1, z2, z3, z4, zf⟩ := Z6.out.cells
    have zf0 := zf 0; have zf1 := zf 1; have zf2 := zf 2; have zf3 := zf 3; have zf4 := zf 4
    clear zf
    go_wp2_with fail
    refine ret_lexp 2 rfl rfl (Z6.out.set5 _ _ _ _ _) ?_
    have k7 : Kept (· = M2) w6 (set5 w6 M2 (.int .i64 7) (.string ⟨#[]⟩) (.int .i64 0) (.string ⟨#[]⟩) (.slice (some ⟨B, 0, none⟩) 1 1)) := (Kept.refl (· = M2) w6).set5 (.inl rfl) _ _ _ _ _
    have K06 : Kept (· = N) w w6 := ((K02.out.trans K3.out).trans (K5.out.more (fun _ h => h.elim))).trans K6.out
    have hlt : ∀ b, (S b ∨ b = B) → w.heap.size ≤ b ∧ b < w6.heap.size ∧ b ≠ M2 ∧ b ≠ N := by
      intro b hb
      have e1 := HM2.out; have e2 := HB.out; have e3 := HZ5.out; have e4 := K6.out.size; have e5 := K02.out.size; have e6 := K3.out.size; have e7 := Z2.out.lt
      rcases hb with hb | rfl
      · obtain ⟨x1, x2⟩ := HS.out b hb
        omega
      · omega
    have hk6 : PatsAt w6 S ka p.kids := (HK.out.kept K5.out (fun b hb => ⟨(HS.out b hb).2, fun h => h⟩)).kept K6.out (fun b hb => ⟨by have := (HS.out b hb).2; have := HZ5.out; have := HB.out; omega, by have := (hlt b (.inl hb)).2.2.2; exact this⟩)
    have hp1 : PatsAt w6 (fun b => S b ∨ b = B) (some ⟨B, 0, none⟩) [p] := pat1E G6.out HZ.out hk6 (fun b hb => (hlt b (.inl hb)).2.1)
    refine ⟨K06.step k7 (fun y hy => .inr (by have := HM2.out; omega)), ?_⟩
    rw [er.out]
    exact ⟨⟨_, rfl, fun b => S b ∨ b = B, fun b hb => ⟨(hlt b hb).1, Nat.lt_of_lt_of_le (hlt b hb).2.1 k7.size⟩, _, _, rfl, len1E p, hp1.kept k7 (fun b hb => ⟨(hlt b hb).2.1, (hlt b hb).2.2.1⟩)⟩, R6.out.kept k7 (by have := HM2.out; omega) (by have := HM2.out; omega) (by have := HM2.out; omega)⟩
end Go.Proofs.YtlnhcgihpclpaaaGreatDoor

namespace Go.Proofs.YtlnhcgihpclpaaaGreatDoor
set_option linter.all false
open Go.RowKit

/-- What is left of the levels, behind so many. -/
def levV (B j : Nat) : Value := if j = 3 then .slice (some ⟨B, 2, none⟩) 0 0 else .slice (some ⟨B, j, none⟩) (3 - j) (3 - j)
def BinOk (N T en d j : Nat) (f : List LTok → TRes PatT) : Prop := ∀ (l : List LTok) (w : World) (lo B : Nat), PsR N T en l d w → LevAt lo B w → N < lo → Calls Tryz.prog 87 #[.pointer (some ⟨N, 0, none⟩), levV B j] w (XQ N T en d (f l) w)
set_option maxRecDepth 100000 in
set_option maxHeartbeats 4000000 in
theorem lexpr_deep {N T en : Nat} {l : List LTok} {w : World} (h : PsR N T en l 400 w) : Calls Tryz.prog 69 #[.pointer (some ⟨N, 0, none⟩)] w (XQ N T en 400 (.error (4, atT en l)) w) := by
  obtain ⟨d, hd⟩ : ∃ d : Nat, d = 400 := ⟨_, rfl⟩
  rw [← hd] at h ⊢
  obtain ⟨hN, hT, hne, h7⟩ := h.ltN
  obtain ⟨w0, hw0⟩ : ∃ w0, w0 = w.alloc (.cells #[.int .i64 0, .string ⟨#[]⟩, .int .i64 0, .string ⟨#[]⟩, .slice none 0 0] 44) := ⟨_, rfl⟩
  have k0 : Kept Nix w w0 := by rw [hw0]; exact (Kept.refl _ _).alloc _
  have R0 := Lib.hid (h.kept k0 (fun h => h) (fun h => h))
  have K0 := Lib.hid k0; have HW0 := Lib.hid hw0
  obtain ⟨d1, hd1⟩ : ∃ d1 : Nat, d1 = d + 1 := ⟨_, rfl⟩
  have hdi : (d : Int) + 1 = (d1 : Int) := by omega
  have g1 : decide ((400 : Int) < (d1 : Int)) = true := decide_eq_true (by omega)
  have g2 : decide (400 < d1) = true := decide_eq_true (by omega)
  have hb : d1 ≤ 1000 := by omega
  obtain ⟨q2, qf2⟩ := R0.out.deep
  clear k0 hw0 h hd hd1
  go_enter Tryz.func69, Tryz.ntmps69
  go_upto_region 1 with fail
  rw [← HW0.out]
  go_upto_region 2 with fail
  obtain ⟨w2, hw2⟩ : ∃ w2, w2 = w0.setCell ⟨N, 2, none⟩ (.int .i64 (d1 : Int)) := ⟨_, rfl⟩
  have r2 := R0.out.setDeep d1
  rw [← hw2] at r2 ⊢
  have k2 : Kept (· = N) w0 w2 := by rw [hw2]; exact (Kept.refl (· = N) w0).setCell (p := ⟨N, 2, none⟩) (.inl rfl) _
  have K2 := Lib.hid k2
  clear hw2 k2 q2 qf2
  obtain ⟨q2, qf2⟩ := r2.deep
  obtain ⟨n2, a2, c2, r2⟩ := r2
  have HA := Lib.hid (lat_any r2)
  clear r2
  go_wp2_with (first
    | (go_at_call 49; (refine HA.out.mono ?_); rintro e w' ⟨rfl, hw_⟩; obtain rfl := hw_.symm)
    | (go_at_call 48; (refine (lfail_any _ 4 (atT en l) w2).mono ?_); rintro e w3 ⟨rfl, rfl⟩))
  exact ⟨rfl, (K0.out.more (fun _ h => h.elim)).trans K2.out, rfl⟩
set_option maxRecDepth 100000 in
set_option maxHeartbeats 8000000 in
theorem lexpr_more {N T en d : Nat} {f : List LTok → TRes PatT} (hd : d < 400) (HB : BinOk N T en (d + 1) 0 f) {l : List LTok} {w : World} (h : PsR N T en l d w) : Calls Tryz.prog 69 #[.pointer (some ⟨N, 0, none⟩)] w (XQ N T en d (f l) w) := by
  obtain ⟨hN, hT, hne, h7⟩ := h.ltN
  obtain ⟨w0, hw0⟩ : ∃ w0, w0 = w.alloc (.cells #[.int .i64 0, .string ⟨#[]⟩, .int .i64 0, .string ⟨#[]⟩, .slice none 0 0] 44) := ⟨_, rfl⟩
  have k0 : Kept Nix w w0 := by rw [hw0]; exact (Kept.refl _ _).alloc _
  obtain ⟨M2, hM2⟩ : ∃ M, M = w.heap.size := ⟨_, rfl⟩
  have Z0 : Hid (FivE M2 (.int .i64 0) (.string ⟨#[]⟩) (.int .i64 0) (.string ⟨#[]⟩) (.slice none 0 0) w0) := by rw [hw0, hM2]; exact heap_alloc_new w _
  have R0 := Lib.hid (h.kept k0 (fun h => h) (fun h => h))
  have K0 := Lib.hid k0; have HW0 := Lib.hid hw0; have HM2 := Lib.hid hM2
  obtain ⟨d1, hd1⟩ : ∃ d1 : Nat, d1 = d + 1 := ⟨_, rfl⟩
  have hdi : (d : Int) + 1 = (d1 : Int) := by omega
  rw [← hd1] at HB
  have g1 : decide ((400 : Int) < (d1 : Int)) = false := decide_eq_false (by omega)
  have g2 : decide (400 < d1) = false := decide_eq_false (by omega)
  have hb : d1 ≤ 1000 := by omega
  have hb1 : 1 ≤ d1 := by omega
  have hdj : (d1 : Int) - 1 = (d : Int) := by omega
  have HBN := Lib.hid HB
  obtain ⟨q2, qf2⟩ := R0.out.deep
  clear k0 hw0 h hd1 HB hM2
  go_enter Tryz.func69, Tryz.ntmps69
  go_upto_region 1 with fail
  rw [← HW0.out, ← HM2.out]
  go_upto_region 2 with fail
  obtain ⟨w2, hw2⟩ : ∃ w2, w2 = w0.setCell ⟨N, 2, none⟩ (.int .i64 (d1 : Int)) := ⟨_, rfl⟩
  have r2 := R0.out.setDeep d1
  rw [← hw2] at r2 ⊢
  have k2 : Kept (· = N) w0 w2 := by rw [hw2]; exact (Kept.refl (· = N) w0).setCell (p := ⟨N, 2, none⟩) (.inl rfl) _
  have K2 := Lib.hid k2; have R2 := Lib.hid r2
  have Z2 := Lib.hid (Z0.out.kept k2 (by have := HM2.out; omega))
  have K02 : Hid (Kept (· = N) w w2) := (K0.out.more (fun _ h => h.elim)).trans k2
  clear hw2 k2 q2 qf2
  obtain ⟨q2, qf2⟩ := r2.deep
  clear r2
  cases hu : f l with
  | error e0 =>
    go_wp2_with (first
      | (go_at_call 88; (refine (levels_any w2).mono ?_); rintro e wl ⟨B, rfl, lv_, kl_⟩; have LV := Lib.hid lv_; have KL := Lib.hid kl_; have RL := Lib.hid (R2.out.kept kl_ (fun h => h) (fun h => h)); clear lv_ kl_)
      | (go_at_call 87; (refine (HBN.out l wl _ B RL.out LV.out (by have := K02.out.size; omega)).mono ?_); intro e w3 h3_; obtain ⟨k3_, rfl⟩ := h3_.bad hu; have K3 := Lib.hid k3_; clear k3_ h3_))
    exact ⟨rfl, (K02.out.trans (KL.out.more (fun _ h => h.elim))).trans K3.out, rfl⟩
  | ok x =>
    obtain ⟨p, r⟩ := x
    go_upto_region 5 with (first
      | (go_at_call 88; (refine (levels_any w2).mono ?_); rintro e wl ⟨B, rfl, lv_, kl_⟩; have LV := Lib.hid lv_; have KL := Lib.hid kl_; have RL := Lib.hid (R2.out.kept kl_ (fun h => h) (fun h => h)); clear lv_ kl_)
      | (go_at_call 87; (refine (HBN.out l wl _ B RL.out LV.out (by have := K02.out.size; omega)).mono ?_); intro e w3 h3_; obtain ⟨k3_, r3_, S, ka, cap, rfl, hS_, hz_, hk_⟩ := h3_.ok hu; have K3 := Lib.hid k3_; have R3 := Lib.hid r3_; have HS := Lib.hid hS_; have HZ := Lib.hid hz_; have HK := Lib.hid hk_; clear k3_ r3_ hS_ hz_ hk_ h3_))
    obtain ⟨w5, hw5⟩ : ∃ w5, w5 = w3.alloc (.cells #[.int .i64 p.kind, .string p.text, .int .i64 p.n, .string p.name, .slice ka p.kids.length cap] 44) := ⟨_, rfl⟩
    have k5 : Kept Nix w3 w5 := by rw [hw5]; exact (Kept.refl _ _).alloc _
    have X5 : Hid (FivE w3.heap.size (.int .i64 p.kind) (.string p.text) (.int .i64 p.n) (.string p.name) (.slice ka p.kids.length cap) w5) := by rw [hw5]; exact heap_alloc_new w3 _
    have r5 := R3.out.kept k5 (fun h => h) (fun h => h)
    have Z5 := Lib.hid (((Z2.out.kept KL.out (fun h => h)).kept K3.out (by have := HM2.out; omega)).kept k5 (fun h => h))
    have hz5 : w5.heap.size = w3.heap.size + 1 := by rw [hw5]; simp
    rw [← hw5]
    obtain ⟨G, hG⟩ : ∃ G, G = w3.heap.size := ⟨_, rfl⟩
    rw [← hG] at X5 ⊢
    have HG := Lib.hid hG; have HZ5 := Lib.hid hz5; have K5 := Lib.hid k5; have R5 := Lib.hid r5
    clear hw5 k5 hz5 hG q2 qf2
    obtain ⟨q2, qf2⟩ := r5.deep
    clear r5
    go_upto_region 6 with fail
    obtain ⟨w6, hw6⟩ : ∃ w6, w6 = w5.setCell ⟨N, 2, none⟩ (.int .i64 (d : Int)) := ⟨_, rfl⟩
    have r6 := R5.out.setDeep d
    rw [← hw6] at r6 ⊢
    have k6 : Kept (· = N) w5 w6 := by rw [hw6]; exact (Kept.refl (· = N) w5).setCell (p := ⟨N, 2, none⟩) (.inl rfl) _
    have hsz : Hid (w.heap.size ≤ w2.heap.size ∧ w2.heap.size ≤ wl.heap.size ∧ wl.heap.size ≤ w3.heap.size) := ⟨K02.out.size, KL.out.size, K3.out.size⟩
    have X6 := Lib.hid (X5.out.kept k6 (by have := hsz.out; have := HG.out; omega)); have Z6 := Lib.hid (Z5.out.kept k6 (by have := HM2.out; omega))
    have R6 := Lib.hid r6; have K6 := Lib.hid k6
    clear hw6 k6 r6 q2 qf2
    obtain ⟨x0, x1, x2, x3, x4, _⟩ := X6.out.cells
    obtain ⟨z0, z1, z2, z3, z4, zf⟩ := Z6.out.cells
    have zf0 := zf 0; have zf1 := zf 1; have zf2 := zf 2; have zf3 := zf 3; have zf4 := zf 4
    clear zf
    go_wp2_with fail
    refine ret_lexp 2 rfl rfl (Z6.out.set5 _ _ _ _ _) ?_
    have k7 : Kept (· = M2) w6 (set5 w6 M2 (.int .i64 p.kind) (.string p.text) (.int .i64 p.n) (.string p.name) (.slice ka p.kids.length cap)) := (Kept.refl (· = M2) w6).set5 (.inl rfl) _ _ _ _ _
    have K06 : Kept (· = N) w w6 := (((K02.out.trans (KL.out.more (fun _ h => h.elim))).trans K3.out).trans (K5.out.more (fun _ h => h.elim))).trans K6.out
    have hlt : ∀ b, S b → w.heap.size ≤ b ∧ b < w6.heap.size ∧ b ≠ M2 ∧ b ≠ N ∧ b < w5.heap.size := by
      intro b hb
      have e1 := HM2.out; have e2 := HG.out; have e3 := HZ5.out; have e4 := K6.out.size; have e5 := hsz.out; have e7 := Z2.out.lt
      obtain ⟨x1, x2⟩ := HS.out b hb
      omega
    have hk6 : PatsAt w6 S ka p.kids := (HK.out.kept K5.out (fun b hb => ⟨(HS.out b hb).2, fun h => h⟩)).kept K6.out (fun b hb => ⟨(hlt b hb).2.2.2.2, (hlt b hb).2.2.2.1⟩)
    refine ⟨K06.step k7 (fun y hy => .inr (by have := HM2.out; omega)), ?_⟩
    rw [hu]
    exact ⟨⟨_, rfl, S, fun b hb => ⟨(hlt b hb).1, Nat.lt_of_lt_of_le (hlt b hb).2.1 k7.size⟩, _, _, rfl, HZ.out, hk6.kept k7 (fun b hb => ⟨(hlt b hb).2.1, (hlt b hb).2.2.1⟩)⟩, R6.out.kept k7 (by have := HM2.out; omega) (by have := HM2.out; omega) (by have := HM2.out; omega)⟩
end Go.Proofs.YtlnhcgihpclpaaaGreatDoor

namespace Go.Proofs.YtlnhcgihpclpaaaGreatDoor
set_option linter.all false
open Go.RowKit

set_option maxRecDepth 100000 in
set_option maxHeartbeats 4000000 in
theorem lbin_none {N T en d : Nat} {un : List LTok → TRes PatT} (HU : UnOk N T en d un) : BinOk N T en d 3 un := by
  intro l w lo B h hlev hlo
  obtain ⟨hN, hT, hne, h7⟩ := h.ltN
  obtain ⟨w0, hw0⟩ : ∃ w0, w0 = w.alloc (.cells #[.int .i64 0, .string ⟨#[]⟩, .int .i64 0, .string ⟨#[]⟩, .slice none 0 0] 44) := ⟨_, rfl⟩
  have k0 : Kept Nix w w0 := by rw [hw0]; exact (Kept.refl _ _).alloc _
  obtain ⟨M4, hM4⟩ : ∃ M, M = w.heap.size := ⟨_, rfl⟩
  have Z0 : Hid (FivE M4 (.int .i64 0) (.string ⟨#[]⟩) (.int .i64 0) (.string ⟨#[]⟩) (.slice none 0 0) w0) := by rw [hw0, hM4]; exact heap_alloc_new w _
  have R0 := Lib.hid (h.kept k0 (fun h => h) (fun h => h))
  have K0 := Lib.hid k0; have HW0 := Lib.hid hw0; have HM4 := Lib.hid hM4; have HUN := Lib.hid HU
  have hv : levV B 3 = .slice (some ⟨B, 2, none⟩) 0 0 := rfl
  rw [hv]
  clear k0 hw0 h hM4 HU hv hlev
  cases hu : un l with
  | error e0 =>
    go_enter Tryz.func87, Tryz.ntmps87
    go_upto_region 1 with fail
    rw [← HW0.out, ← HM4.out]
    go_wp2_with (go_at_call 98; (refine (HUN.out l w0 R0.out).mono ?_); intro e w3 h3_; obtain ⟨k3_, rfl⟩ := h3_.bad hu; have K3 := Lib.hid k3_; clear k3_ h3_)
    exact ⟨rfl, (K0.out.more (fun _ h => h.elim)).trans K3.out, rfl⟩
  | ok x =>
    obtain ⟨p, r⟩ := x
    go_enter Tryz.func87, Tryz.ntmps87
    go_upto_region 1 with fail
    rw [← HW0.out, ← HM4.out]
    go_wp2_with (go_at_call 98; (refine (HUN.out l w0 R0.out).mono ?_); intro e w2 h2_; obtain ⟨k2_, r2_, S, ka, cap, rfl, hS_, hz_, hk_⟩ := h2_.ok hu; have K2 := Lib.hid k2_; have R2 := Lib.hid r2_; have HS := Lib.hid hS_; have HZ := Lib.hid hz_; have HK := Lib.hid hk_; have Z2 := Lib.hid (Z0.out.kept k2_ (by have := HM4.out; omega)); obtain ⟨z0, z1, z2, z3, z4, zf⟩ := Z2.out.cells; have zf0 := zf 0; have zf1 := zf 1; have zf2 := zf 2; have zf3 := zf 3; have zf4 := zf 4; clear zf k2_ r2_ hS_ hz_ hk_ h2_)
    refine ret_lexp 4 rfl rfl (Z2.out.set5 _ _ _ _ _) ?_
    have k6 : Kept (· = M4) w2 (set5 w2 M4 (.int .i64 p.kind) (.string p.text) (.int .i64 p.n) (.string p.name) (.slice ka p.kids.length cap)) := (Kept.refl (· = M4) w2).set5 (.inl rfl) _ _ _ _ _
    have K5 : Kept (· = N) w w2 := (K0.out.more (fun _ h => h.elim)).trans K2.out
    have hS : ∀ b, S b → w.heap.size ≤ b ∧ b < w2.heap.size ∧ b ≠ M4 := by
      intro b hb
      obtain ⟨x1, x2⟩ := HS.out b hb
      have := K0.out.size; have := Z0.out.lt; have := HM4.out
      omega
    refine ⟨K5.step k6 (fun y hy => .inr (by have := HM4.out; omega)), ?_⟩
    (try rw [hu])
    exact ⟨⟨_, rfl, S, fun b hb => ⟨(hS b hb).1, Nat.lt_of_lt_of_le (hS b hb).2.1 k6.size⟩, ka, cap, rfl, HZ.out, HK.out.kept k6 (fun b hb => ⟨(hS b hb).2.1, (hS b hb).2.2⟩)⟩, R2.out.kept k6 (by have := HM4.out; omega) (by have := HM4.out; omega) (by have := HM4.out; omega)⟩
end Go.Proofs.YtlnhcgihpclpaaaGreatDoor

namespace Go.Proofs.YtlnhcgihpclpaaaGreatDoor
set_option linter.all false
open Go.RowKit

/-- What is read leaves no more than there was. -/
def Shr (f : List LTok → TRes PatT) : Prop := ∀ l y r, f l = .ok (y, r) → r.length ≤ l.length
theorem LevAt.get {lo B : Nat} {w : World} (h : LevAt lo B w) {j : Nat} (hj : j < 3) : ∃ m n, w.cell? ⟨B, j, none⟩ = some (.map (some m)) ∧ MapF w m n (opM (j + 1)) := by
  obtain ⟨h0, m1, m2, m3, n1, n2, n3, l1, l2, l3, hb, a1, a2, a3⟩ := h
  obtain rfl | rfl | rfl : j = 0 ∨ j = 1 ∨ j = 2 := by omega
  · exact ⟨m1, n1, by rw [cell_of_row w B _ _ _ _ hb]; rfl, a1⟩
  · exact ⟨m2, n2, by rw [cell_of_row w B _ _ _ _ hb]; rfl, a2⟩
  · exact ⟨m3, n3, by rw [cell_of_row w B _ _ _ _ hb]; rfl, a3⟩
theorem levV_some {B j : Nat} (hj : j < 3) : levV B j = .slice (some ⟨B, j, none⟩) (3 - j) (3 - j) := by unfold levV; rw [if_neg (by omega)]
theorem levV_next {B j m : Nat} (hj : j < 3) (hm : m = 3 - j) (wx : World) : (Instr.slice 135 (.slice (some ⟨B, j, none⟩) m m) (some (.int .i64 1)) none none).run Tryz.prog wx = .ok (levV B (j + 1)) wx := by
  have hsz : (sizeOf 149).run Tryz.prog wx = .ok 1 wx := by kernel_rfl
  have hle : (1 : Int) ≤ (m : Int) := by omega
  unfold Instr.slice Instr.sliceBounds Instr.sliceBound
  simp only [Sem.run_bind, run_underlying Tryz.underlying135, Result.andThen_ok, Sem.run_pure, asIntOf]
  rw [if_pos ⟨by decide, by omega⟩]
  simp only [Sem.run_pure, Result.andThen_ok, hsz]
  obtain rfl | rfl | rfl : j = 0 ∨ j = 1 ∨ j = 2 := by omega
  all_goals
    subst hm
    simp [levV, Addr.add]
/-- What holds at the head of binary's loop. -/
structure BinI (N T en d M4 M5 : Nat) (w : World) (x : PatT) (ka : Option Addr) (cap : Nat) (l : List LTok) (wx : World) : Prop where
  rdr : PsR N T en l d wx
  five : FivE M5 (.int .i64 x.kind) (.string x.text) (.int .i64 x.n) (.string x.name) (.slice ka x.kids.length cap) wx
  mem : ∃ S : Nat → Prop, PatsAt wx S ka x.kids ∧ ∀ b, S b → w.heap.size ≤ b ∧ b < wx.heap.size ∧ b ≠ M4 ∧ b ≠ M5 ∧ b ≠ N
  sz : x.text.size < 1000000000 ∧ x.name.size < 1000000000 ∧ x.kids.length < 1000000000
  zero : FivE M4 (.int .i64 0) (.string ⟨#[]⟩) (.int .i64 0) (.string ⟨#[]⟩) (.slice none 0 0) wx
  kept : Kept (· = N) w wx
theorem BinI.quiet {N T en d M4 M5 : Nat} {w : World} {x : PatT} {ka : Option Addr} {cap : Nat} {l : List LTok} {wx wy : World} (h : BinI N T en d M4 M5 w x ka cap l wx) (hk : Kept Nix wx wy) : BinI N T en d M4 M5 w x ka cap l wy := by
  obtain ⟨h1, h2, ⟨S, h3, h4⟩, h5, h6, h7⟩ := h
  exact ⟨h1.kept hk (fun h => h) (fun h => h), h2.kept hk (fun h => h), ⟨S, h3.kept hk (fun b hb => ⟨(h4 b hb).2.1, fun h => h⟩), fun b hb => by have := h4 b hb; have := hk.size; omega⟩, h5, h6.kept hk (fun h => h), h7.trans (hk.more (fun _ h => h.elim))⟩
/-- The reader has gone on. -/
theorem BinI.rdr_to {N T en d M4 M5 : Nat} {w : World} {x : PatT} {ka : Option Addr} {cap : Nat} {l l2 : List LTok} {wx wy : World} (h : BinI N T en d M4 M5 w x ka cap l wx) (hn4 : N ≠ M4) (hn5 : N ≠ M5) (hk : Kept (· = N) wx wy) (hr : PsR N T en l2 d wy) : BinI N T en d M4 M5 w x ka cap l2 wy := by
  obtain ⟨h1, h2, ⟨S, h3, h4⟩, h5, h6, h7⟩ := h
  exact ⟨hr, h2.kept hk (Ne.symm hn5), ⟨S, h3.kept hk (fun b hb => ⟨(h4 b hb).2.1, (h4 b hb).2.2.2.2⟩), fun b hb => by have := h4 b hb; have := hk.size; omega⟩, h5, h6.kept hk (Ne.symm hn4), h7.trans hk⟩
def TenE (B : Nat) (x y : PatT) (ka kb : Option Addr) (ca cb : Nat) (w : World) : Prop := w.heap[B]? = some (.cells #[.int .i64 x.kind, .string x.text, .int .i64 x.n, .string x.name, .slice ka x.kids.length ca, .int .i64 y.kind, .string y.text, .int .i64 y.n, .string y.name, .slice kb y.kids.length cb] 44 (0, 0))
theorem pat2E {g : Nat} {x y : PatT} {ka kb : Option Addr} {ca cb : Nat} {w : World} {S : Nat → Prop} (F : TenE g x y ka kb ca cb w) (hx : x.text.size < 1000000000 ∧ x.name.size < 1000000000 ∧ x.kids.length < 1000000000) (hy : y.text.size < 1000000000 ∧ y.name.size < 1000000000 ∧ y.kids.length < 1000000000)
    (hkx : PatsAt w S ka x.kids) (hky : PatsAt w S kb y.kids) (hS : ∀ b, S b → b < w.heap.size) : PatsAt w (fun b => S b ∨ b = g) (some ⟨g, 0, none⟩) [x, y] := by
  have hc : ∀ i, w.cell? ⟨g, i, none⟩ = _ := fun i => cell_of_row w g i _ _ _ F
  obtain ⟨k, t, n, nm, kids⟩ := x
  obtain ⟨k2, t2, n2, nm2, kids2⟩ := y
  have e1 : PatsAt w (fun b => S b ∨ b = g) ka kids := PatsAt.to hkx (Kept.refl Nix w) (fun b hb => ⟨hS b hb, fun h => h⟩) (fun _ h => .inl h)
  have e2 : PatsAt w (fun b => S b ∨ b = g) kb kids2 := PatsAt.to hky (Kept.refl Nix w) (fun b hb => ⟨hS b hb, fun h => h⟩) (fun _ h => .inl h)
  have p1 : PatAt w (fun b => S b ∨ b = g) g 0 (.mk k t n nm kids) := by
    unfold PatAt
    exact ⟨.inr rfl, hx, by rw [hc]; rfl, by rw [hc]; rfl, by rw [hc]; rfl, by rw [hc]; rfl, ka, ca, by rw [hc]; rfl, e1⟩
  have p2 : PatAt w (fun b => S b ∨ b = g) g 5 (.mk k2 t2 n2 nm2 kids2) := by
    unfold PatAt
    exact ⟨.inr rfl, hy, by rw [hc]; rfl, by rw [hc]; rfl, by rw [hc]; rfl, by rw [hc]; rfl, kb, cb, by rw [hc]; rfl, e2⟩
  unfold PatsAt
  refine ⟨g, 0, rfl, p1, ?_⟩
  unfold PatsAt
  exact ⟨g, 5, rfl, p2, by unfold PatsAt; trivial⟩
/-- A round more: the sum of both, in the variable x. -/
theorem BinI.step {N T en d M4 M5 : Nat} {w : World} {x y : PatT} {ka kb : Option Addr} {ca cb : Nat} {l r : List LTok} {w1 w3 : World} (k : Int) (h : BinI N T en d M4 M5 w x ka ca l w1) (hn4 : N ≠ M4) (hn5 : N ≠ M5) (h45 : M4 ≠ M5) (hw5 : w.heap.size ≤ M5) (hNw : N < w.heap.size) (hTw : T < w.heap.size)
    (hk : Kept (· = N) w1 w3) (hr : PsR N T en r d w3) {S : Nat → Prop} (hS : ∀ b, S b → w1.heap.size ≤ b ∧ b < w3.heap.size) (hz : y.text.size < 1000000000 ∧ y.name.size < 1000000000 ∧ y.kids.length < 1000000000) (hy : PatsAt w3 S kb y.kids) {w5 : World}
    (hw : w5 = w3.alloc (.cells #[.int .i64 x.kind, .string x.text, .int .i64 x.n, .string x.name, .slice ka x.kids.length ca, .int .i64 y.kind, .string y.text, .int .i64 y.n, .string y.name, .slice kb y.kids.length cb] 44)) :
    BinI N T en d M4 M5 w (node2 k x y) (some ⟨w3.heap.size, 0, none⟩) 2 r (set5 w5 M5 (.int .i64 k) (.string ⟨#[]⟩) (.int .i64 0) (.string ⟨#[]⟩) (.slice (some ⟨w3.heap.size, 0, none⟩) 2 2)) := by
  have h3 := h.rdr_to hn4 hn5 hk hr
  obtain ⟨_, f3, ⟨S3, s3, s4⟩, z3, o3, k3⟩ := h3
  have k5 : Kept Nix w3 w5 := by rw [hw]; exact (Kept.refl _ _).alloc _
  have hsz : w5.heap.size = w3.heap.size + 1 := by rw [hw]; simp
  have g5 : TenE w3.heap.size x y ka kb ca cb w5 := by rw [hw]; exact heap_alloc_new w3 _
  have f5 := f3.kept k5 (fun h => h)
  have k6 : Kept (· = M5) w5 (set5 w5 M5 (.int .i64 k) (.string ⟨#[]⟩) (.int .i64 0) (.string ⟨#[]⟩) (.slice (some ⟨w3.heap.size, 0, none⟩) 2 2)) := (Kept.refl (· = M5) w5).set5 (.inl rfl) _ _ _ _ _
  have hw1 : w.heap.size ≤ w1.heap.size := h.kept.size
  have l3 := f3.lt; have o3l := o3.lt; have hw13 := hk.size
  have l1 := h.five.lt; have l2 := h.zero.lt
  refine ⟨(hr.kept k5 (fun h => h) (fun h => h)).kept k6 hn5 (by omega) (by have := hr.ltN; omega), f5.set5 _ _ _ _ _, ⟨fun b => (S3 b ∨ S b) ∨ b = w3.heap.size, ?_, ?_⟩, ⟨by show E0.size < _; decide, by show E0.size < _; decide, by simp [node2, PatT.kids]⟩, (o3.kept k5 (fun h => h)).kept k6 h45, (k3.trans (k5.more (fun _ h => h.elim))).step k6 (fun y hy => .inr (by omega))⟩
  · refine PatsAt.kept (X := (· = M5)) ?_ k6 ?_
    · refine pat2E g5 z3 hz ((s3.kept k5 (fun b hb => ⟨(s4 b hb).2.1, fun h => h⟩)).to (Kept.refl Nix w5) (fun b hb => ⟨by have := s4 b hb; omega, fun h => h⟩) (fun _ h => .inl h)) ((hy.kept k5 (fun b hb => ⟨(hS b hb).2, fun h => h⟩)).to (Kept.refl Nix w5) (fun b hb => ⟨by have := hS b hb; omega, fun h => h⟩) (fun _ h => .inr h)) ?_
      rintro b (hb | hb)
      · have := s4 b hb; omega
      · have := hS b hb; omega
    · rintro b ((hb | hb) | rfl)
      · have := s4 b hb; exact ⟨by omega, by omega⟩
      · have := hS b hb; exact ⟨by omega, by omega⟩
      · exact ⟨by omega, by omega⟩
  · have := k6.size
    rintro b ((hb | hb) | rfl)
    · have := s4 b hb; omega
    · have := hS b hb; omega
    · omega
theorem BinI.fin {N T en d M4 M5 : Nat} {w : World} {x : PatT} {ka : Option Addr} {cap : Nat} {l2 : List LTok} {wx : World} (h : BinI N T en d M4 M5 w x ka cap l2 wx) (hn4 : N ≠ M4) (ht4 : T ≠ M4) (hw4 : w.heap.size ≤ M4) (hNw : N < w.heap.size) {r : TRes PatT} (hr : r = .ok (x, l2)) :
    XQ N T en d r w (.returned (.agg #[.int .i64 x.kind, .string x.text, .int .i64 x.n, .string x.name, .slice ka x.kids.length cap])) (set5 wx M4 (.int .i64 x.kind) (.string x.text) (.int .i64 x.n) (.string x.name) (.slice ka x.kids.length cap)) := by
  subst hr
  obtain ⟨h1, h2, ⟨S, h3, h4⟩, h5, h6, h7⟩ := h
  have k6 : Kept (· = M4) wx (set5 wx M4 (.int .i64 x.kind) (.string x.text) (.int .i64 x.n) (.string x.name) (.slice ka x.kids.length cap)) := (Kept.refl (· = M4) wx).set5 (.inl rfl) _ _ _ _ _
  exact ⟨h7.step k6 (fun y hy => .inr (by omega)), ⟨_, rfl, S, fun b hb => ⟨(h4 b hb).1, Nat.lt_of_lt_of_le (h4 b hb).2.1 k6.size⟩, ka, cap, rfl, h5, h3.kept k6 (fun b hb => ⟨(h4 b hb).2.1, (h4 b hb).2.2.1⟩)⟩, h1.kept k6 hn4 ht4 (by have := h1.ltN; omega)⟩
end Go.Proofs.YtlnhcgihpclpaaaGreatDoor
