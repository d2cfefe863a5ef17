/- The program's reader of lines: primary: a call. -/
import Derived.Test.YtlnhcgihpclpaaaGreatDoorPs15
namespace Go.Proofs.YtlnhcgihpclpaaaGreatDoor
set_option linter.all false
open Go.RowKit

theorem infoExpr : (Tryz.prog.info? 44).map (fun i => (i.zero, i.size, i.bytes)) = some (some (.agg #[.int .i64 0, .string ⟨#[]⟩, .int .i64 0, .string ⟨#[]⟩, .slice none 0 0]), 5, 72) := by kernel_rfl
set_option maxRecDepth 100000 in
set_option maxHeartbeats 8000000 in
theorem lprim_call0 {N T en d : Nat} {ex pr : List LTok → TRes PatT} {t : LTok} {r : List LTok} {w : World} (h : PsR N T en (t :: r) d w) (hk : t.kind ≠ 3 ∧ t.kind ≠ 2) (hs1 : signT (bs [40]) (t :: r) = false) (hs2 : signT (bs [36]) (t :: r) = false) {nm : ByteArray} {r1 : List LTok} (hnm : nameT en (t :: r) = .ok (nm, r1)) (hs3 : signT (bs [60]) r1 = false) (hs4 : signT (bs [40]) r1 = true) (hs5 : signT (bs [41]) r1.tail = true) : Calls Tryz.prog 103 #[.pointer (some ⟨N, 0, none⟩)] w (XQ N T en d (primT ex pr en (t :: r)) w) := by
  have er : Hid (primT ex pr en (t :: r) = match nameT en (t :: r) with
        | .error er => .error er
        | .ok (nm, r) =>
          if signT (bs [60]) r = true then
            match ex r.tail with
            | .error er => .error er
            | .ok (x, r2) => match needT (bs [62]) en r2 with
              | .error er => .error er
              | .ok r3 => .ok (.mk 4 E0 0 nm [x], r3)
          else if signT (bs [40]) r = true then
            if signT (bs [41]) r.tail = true then .ok (.mk 6 E0 0 nm [], r.tail.tail)
            else match argsT ex en 9 [] r.tail with
              | .error er => .error er
              | .ok (ks, r2) => .ok (.mk 6 E0 0 nm ks, r2)
          else .ok (.mk 3 E0 0 nm [], r)) := by unfold Hid primT; rw [hs1, hs2]; simp only [takeT, hk.1, hk.2, if_false, Bool.false_eq_true]; rfl
  have S1 : Hid (signT ⟨#[40]⟩ (t :: r) = false) := hs1; have S2 : Hid (signT ⟨#[36]⟩ (t :: r) = false) := hs2; have HK := Lib.hid hk
  have er2 : Hid (primT ex pr en (t :: r) = .ok (.mk 6 E0 0 nm [], r1.tail.tail)) := by unfold Hid; rw [er.out, hnm]; simp only [hs3, hs4, hs5, if_true, if_false, Bool.false_eq_true]
  have HNM := Lib.hid hnm; have S3 : Hid (signT ⟨#[60]⟩ r1 = false) := hs3; have S4 : Hid (signT ⟨#[40]⟩ r1 = true) := hs4; have S5 : Hid (signT ⟨#[41]⟩ r1.tail = true) := hs5
  obtain ⟨hN, hT, hne, h7⟩ := h.ltN
  obtain ⟨w0, hw0⟩ : ∃ w0, w0 = w.alloc (.cells #[.int .i64 0, .string ⟨#[]⟩, .int .i64 0, .string ⟨#[]⟩, .slice none 0 0] 44) := ⟨_, rfl⟩
  have k0 : Kept Nix w w0 := by rw [hw0]; exact (Kept.refl _ _).alloc _
  obtain ⟨M2, hM2⟩ : ∃ M, M = w.heap.size := ⟨_, rfl⟩
  have Z0 : Hid (FivE M2 (.int .i64 0) (.string ⟨#[]⟩) (.int .i64 0) (.string ⟨#[]⟩) (.slice none 0 0) w0) := by rw [hw0, hM2]; exact heap_alloc_new w _
  have R0 := Lib.hid (h.kept k0 (fun h => h) (fun h => h))
  have K0 : Hid (Kept (· = N) w w0) := k0.more (fun _ h => h.elim)
  have HW0 := Lib.hid hw0; have HM2 := Lib.hid hM2
  clear k0 hw0 hM2 h hk hs1 hs2 hnm hs3 hs4 hs5 er
  go_enter Tryz.func103, Tryz.ntmps103
  go_upto_region 1 with fail
  rw [← HW0.out, ← HM2.out]
  go_upto_region 12 with (first
    | (go_at_call 46; (with_reducible refine (lis_no ⟨#[40]⟩ R0.out S1.out).mono ?_); rintro e w1 ⟨rfl, r1_, k1_⟩; have R1 := Lib.hid r1_; have K1 : Hid (Kept (· = N) w w1) := K0.out.trans k1_; have Z1 := Lib.hid (Z0.out.kept k1_ (by have := HM2.out; omega)); clear r1_ k1_)
    | (go_at_call 46; (with_reducible refine (lis_no ⟨#[36]⟩ R1.out S2.out).mono ?_); rintro e w2 ⟨rfl, r2_, k2_⟩; have R2 := Lib.hid r2_; have K2 : Hid (Kept (· = N) w w2) := K1.out.trans k2_; have Z2 := Lib.hid (Z1.out.kept k2_ (by have := HM2.out; omega)); clear r2_ k2_))
  obtain ⟨n2, a2, c2, hP⟩ := R2.out
  obtain ⟨c0, c1, cd, cf⟩ := hP.c0
  have hn := hP.num
  rw [List.length_cons] at hn
  have h0 : 0 < n2 := by omega
  have h1 : (0 : Int) < (n2 : Int) := by omega
  have z : decide ((0 : Int) < (n2 : Int)) = true := decide_eq_true h1
  have z' : decide (0 < n2) = true := decide_eq_true h0
  obtain ⟨o, rfl, t0, t1, t2⟩ := hP.head
  have y3 : (t.kind == 3) = false := by simpa using HK.out.1
  have y2 : (t.kind == 2) = false := by simpa using HK.out.2
  clear hn hP cf
  go_upto_region 22 with fail
  clear c0 c1 cd t0 t1 t2 y3 y2 z z'
  go_upto_region 23 with (go_at_call 43; (refine (lname_any R2.out).mono ?_); intro e w3 h3_; obtain ⟨k3_, rfl, r3_⟩ := h3_.ok HNM.out; have R3 := Lib.hid r3_; have K3 : Hid (Kept (· = N) w w3) := K2.out.trans k3_; have Z3 := Lib.hid (Z2.out.kept k3_ (by have := HM2.out; omega)); clear k3_ r3_ h3_)
  have I4 : Hid (BinI N T en d M2 w3.heap.size w (.mk 3 E0 0 nm []) none 0 r1 (w3.alloc (.cells #[.int .i64 3, .string ⟨#[]⟩, .int .i64 0, .string nm, .slice none 0 0] 44))) := BinI.start (w1 := w3) (p := .mk 3 E0 0 nm []) (ka := none) (cap := 0) (S := Nix) Z3.out K3.out R3.out (fun b hb => hb.elim) ⟨by show E0.size < _; decide, by show nm.size < _; have := name_size HNM.out; omega, by show 0 < _; decide⟩ (by show PatsAt _ Nix none []; unfold PatsAt; trivial) hN K3.out.size Z3.out.lt
  have hsz : Hid (w.heap.size < w3.heap.size) := by have := Z3.out.lt; have := HM2.out; unfold Hid; omega
  obtain ⟨w4, hw4⟩ : ∃ w4, w4 = w3.alloc (.cells #[.int .i64 3, .string ⟨#[]⟩, .int .i64 0, .string nm, .slice none 0 0] 44) := ⟨_, rfl⟩
  obtain ⟨M5, hM5⟩ : ∃ M, M = w3.heap.size := ⟨_, rfl⟩
  rw [← hw4, ← hM5] at I4
  rw [← hw4, ← hM5]
  rw [← hM5] at hsz
  have hM : Hid (N ≠ M2 ∧ N ≠ M5 ∧ T ≠ M2 ∧ w.heap.size ≤ M2 ∧ M2 < M5) := by have := HM2.out; have := hsz.out; unfold Hid; omega
  clear hw4 hM5
  go_upto_region 27 with (first
    | (go_at_call 46; (with_reducible refine (lis_no ⟨#[60]⟩ I4.out.rdr S3.out).mono ?_); rintro e w5 ⟨rfl, r5_, k5_⟩; have I5 := Lib.hid (I4.out.rdr_to hM.out.1 (by have := hM.out; omega) k5_ r5_); clear r5_ k5_)
    | (go_at_call 46; (with_reducible refine (lis_yes ⟨#[40]⟩ I5.out.rdr S4.out).mono ?_); rintro e w6 ⟨rfl, r6_, k6_⟩; have I6 := Lib.hid (I5.out.rdr_to hM.out.1 (by have := hM.out; omega) k6_ r6_); clear r6_ k6_))
  obtain ⟨x0, x1, x2, x3, x4, xf⟩ := I6.out.five.cells
  have xf0 := xf 0
  clear xf
  have J7 : Hid (ArgI N T en d M2 M5 w nm [] (.slice none 0 0) r1.tail (w6.setCell ⟨M5, 0, none⟩ (.int .i64 6))) := ArgI.start I6.out hM.out.2.1 (by have := hM.out; omega) (by have := hM.out; omega) hT hN
  go_upto_region 28 with fail
  obtain ⟨w7, hw7⟩ : ∃ w7, w7 = w6.setCell ⟨M5, 0, none⟩ (.int .i64 6) := ⟨_, rfl⟩
  rw [← hw7] at J7
  rw [← hw7]
  clear hw7 x0 x1 x2 x3 x4 xf0
  go_upto_region 29 with (go_at_call 46; (with_reducible refine (lis_yes ⟨#[41]⟩ J7.out.rdr S5.out).mono ?_); rintro e w8 ⟨rfl, r8_, k8_⟩; have J8 := Lib.hid (J7.out.rdr_to hM.out.1 (by have := hM.out; omega) k8_ r8_); clear r8_ k8_)
  have I8 : Hid (BinI N T en d M2 M5 w (.mk 6 E0 0 nm []) none 0 r1.tail.tail w8) := ArgI.done (ks := []) J8.out hM.out.2.2.2.2 (by have := hM.out; omega) hN (by decide)
  obtain ⟨x0, x1, x2, x3, x4, _⟩ := I8.out.five.cells
  obtain ⟨z0, z1, z2, z3, z4, zf⟩ := I8.out.zero.cells
  have zf0 := zf 0; have zf1 := zf 1; have zf2 := zf 2; have zf3 := zf 3; have zf4 := zf 4
  clear zf
  go_wp2_with fail
  exact ret_lexp 2 rfl rfl (I8.out.zero.set5 _ _ _ _ _) (I8.out.fin hM.out.1 hM.out.2.2.1 hM.out.2.2.2.1 hN er2.out)
set_option maxRecDepth 100000 in
set_option maxHeartbeats 8000000 in
theorem lprim_call {N T en d : Nat} {ex pr : List LTok → TRes PatT} {t : LTok} {r : List LTok} {w : World} (h : PsR N T en (t :: r) d w) (hk : t.kind ≠ 3 ∧ t.kind ≠ 2) (hs1 : signT (bs [40]) (t :: r) = false) (hs2 : signT (bs [36]) (t :: r) = false) {nm : ByteArray} {r1 : List LTok} (hnm : nameT en (t :: r) = .ok (nm, r1)) (hs3 : signT (bs [60]) r1 = false) (hs4 : signT (bs [40]) r1 = true) (HE : ExOk N T en d ex) (hs5 : signT (bs [41]) r1.tail = false) : Calls Tryz.prog 103 #[.pointer (some ⟨N, 0, none⟩)] w (XQ N T en d (primT ex pr en (t :: r)) w) := by
  have er : Hid (primT ex pr en (t :: r) = match nameT en (t :: r) with
        | .error er => .error er
        | .ok (nm, r) =>
          if signT (bs [60]) r = true then
            match ex r.tail with
            | .error er => .error er
            | .ok (x, r2) => match needT (bs [62]) en r2 with
              | .error er => .error er
              | .ok r3 => .ok (.mk 4 E0 0 nm [x], r3)
          else if signT (bs [40]) r = true then
            if signT (bs [41]) r.tail = true then .ok (.mk 6 E0 0 nm [], r.tail.tail)
            else match argsT ex en 9 [] r.tail with
              | .error er => .error er
              | .ok (ks, r2) => .ok (.mk 6 E0 0 nm ks, r2)
          else .ok (.mk 3 E0 0 nm [], r)) := by unfold Hid primT; rw [hs1, hs2]; simp only [takeT, hk.1, hk.2, if_false, Bool.false_eq_true]; rfl
  have S1 : Hid (signT ⟨#[40]⟩ (t :: r) = false) := hs1; have S2 : Hid (signT ⟨#[36]⟩ (t :: r) = false) := hs2; have HK := Lib.hid hk
  have er2 : Hid (primT ex pr en (t :: r) = match argsT ex en 9 [] r1.tail with | .error er => .error er | .ok (ks, r2) => .ok (.mk 6 E0 0 nm ks, r2)) := by unfold Hid; rw [er.out, hnm]; simp only [hs3, hs4, hs5, if_true, if_false, Bool.false_eq_true]
  have HNM := Lib.hid hnm; have S3 : Hid (signT ⟨#[60]⟩ r1 = false) := hs3; have S4 : Hid (signT ⟨#[40]⟩ r1 = true) := hs4; have S5 : Hid (signT ⟨#[41]⟩ r1.tail = false) := hs5; have HEX := Lib.hid HE
  have hnm16 : nm.size ≤ 16 := name_size hnm
  obtain ⟨i0, hi0, hz0, hz1, hz2⟩ := info_parts infoExpr
  obtain ⟨hN, hT, hne, h7⟩ := h.ltN
  obtain ⟨w0, hw0⟩ : ∃ w0, w0 = w.alloc (.cells #[.int .i64 0, .string ⟨#[]⟩, .int .i64 0, .string ⟨#[]⟩, .slice none 0 0] 44) := ⟨_, rfl⟩
  have k0 : Kept Nix w w0 := by rw [hw0]; exact (Kept.refl _ _).alloc _
  obtain ⟨M2, hM2⟩ : ∃ M, M = w.heap.size := ⟨_, rfl⟩
  have Z0 : Hid (FivE M2 (.int .i64 0) (.string ⟨#[]⟩) (.int .i64 0) (.string ⟨#[]⟩) (.slice none 0 0) w0) := by rw [hw0, hM2]; exact heap_alloc_new w _
  have R0 := Lib.hid (h.kept k0 (fun h => h) (fun h => h))
  have K0 : Hid (Kept (· = N) w w0) := k0.more (fun _ h => h.elim)
  have HW0 := Lib.hid hw0; have HM2 := Lib.hid hM2
  clear k0 hw0 hM2 h hk hs1 hs2 hnm hs3 hs4 hs5 er HE
  go_enter Tryz.func103, Tryz.ntmps103
  go_upto_region 1 with fail
  rw [← HW0.out, ← HM2.out]
  go_upto_region 12 with (first
    | (go_at_call 46; (with_reducible refine (lis_no ⟨#[40]⟩ R0.out S1.out).mono ?_); rintro e w1 ⟨rfl, r1_, k1_⟩; have R1 := Lib.hid r1_; have K1 : Hid (Kept (· = N) w w1) := K0.out.trans k1_; have Z1 := Lib.hid (Z0.out.kept k1_ (by have := HM2.out; omega)); clear r1_ k1_)
    | (go_at_call 46; (with_reducible refine (lis_no ⟨#[36]⟩ R1.out S2.out).mono ?_); rintro e w2 ⟨rfl, r2_, k2_⟩; have R2 := Lib.hid r2_; have K2 : Hid (Kept (· = N) w w2) := K1.out.trans k2_; have Z2 := Lib.hid (Z1.out.kept k2_ (by have := HM2.out; omega)); clear r2_ k2_))
  obtain ⟨n2, a2, c2, hP⟩ := R2.out
  obtain ⟨c0, c1, cd, cf⟩ := hP.c0
  have hn := hP.num
  rw [List.length_cons] at hn
  have h0 : 0 < n2 := by omega
  have h1 : (0 : Int) < (n2 : Int) := by omega
  have z : decide ((0 : Int) < (n2 : Int)) = true := decide_eq_true h1
  have z' : decide (0 < n2) = true := decide_eq_true h0
  obtain ⟨o, rfl, t0, t1, t2⟩ := hP.head
  have y3 : (t.kind == 3) = false := by simpa using HK.out.1
  have y2 : (t.kind == 2) = false := by simpa using HK.out.2
  clear hn hP cf
  go_upto_region 22 with fail
  clear c0 c1 cd t0 t1 t2 y3 y2 z z'
  go_upto_region 23 with (go_at_call 43; (refine (lname_any R2.out).mono ?_); intro e w3 h3_; obtain ⟨k3_, rfl, r3_⟩ := h3_.ok HNM.out; have R3 := Lib.hid r3_; have K3 : Hid (Kept (· = N) w w3) := K2.out.trans k3_; have Z3 := Lib.hid (Z2.out.kept k3_ (by have := HM2.out; omega)); clear k3_ r3_ h3_)
  have I4 : Hid (BinI N T en d M2 w3.heap.size w (.mk 3 E0 0 nm []) none 0 r1 (w3.alloc (.cells #[.int .i64 3, .string ⟨#[]⟩, .int .i64 0, .string nm, .slice none 0 0] 44))) := BinI.start (w1 := w3) (p := .mk 3 E0 0 nm []) (ka := none) (cap := 0) (S := Nix) Z3.out K3.out R3.out (fun b hb => hb.elim) ⟨by show E0.size < _; decide, by show nm.size < _; have := name_size HNM.out; omega, by show 0 < _; decide⟩ (by show PatsAt _ Nix none []; unfold PatsAt; trivial) hN K3.out.size Z3.out.lt
  have hsz : Hid (w.heap.size < w3.heap.size) := by have := Z3.out.lt; have := HM2.out; unfold Hid; omega
  obtain ⟨w4, hw4⟩ : ∃ w4, w4 = w3.alloc (.cells #[.int .i64 3, .string ⟨#[]⟩, .int .i64 0, .string nm, .slice none 0 0] 44) := ⟨_, rfl⟩
  obtain ⟨M5, hM5⟩ : ∃ M, M = w3.heap.size := ⟨_, rfl⟩
  rw [← hw4, ← hM5] at I4
  rw [← hw4, ← hM5]
  rw [← hM5] at hsz
  have hM : Hid (N ≠ M2 ∧ N ≠ M5 ∧ T ≠ M2 ∧ w.heap.size ≤ M2 ∧ M2 < M5) := by have := HM2.out; have := hsz.out; unfold Hid; omega
  clear hw4 hM5
  go_upto_region 27 with (first
    | (go_at_call 46; (with_reducible refine (lis_no ⟨#[60]⟩ I4.out.rdr S3.out).mono ?_); rintro e w5 ⟨rfl, r5_, k5_⟩; have I5 := Lib.hid (I4.out.rdr_to hM.out.1 (by have := hM.out; omega) k5_ r5_); clear r5_ k5_)
    | (go_at_call 46; (with_reducible refine (lis_yes ⟨#[40]⟩ I5.out.rdr S4.out).mono ?_); rintro e w6 ⟨rfl, r6_, k6_⟩; have I6 := Lib.hid (I5.out.rdr_to hM.out.1 (by have := hM.out; omega) k6_ r6_); clear r6_ k6_))
  obtain ⟨x0, x1, x2, x3, x4, xf⟩ := I6.out.five.cells
  have xf0 := xf 0
  clear xf
  have J7 : Hid (ArgI N T en d M2 M5 w nm [] (.slice none 0 0) r1.tail (w6.setCell ⟨M5, 0, none⟩ (.int .i64 6))) := ArgI.start I6.out hM.out.2.1 (by have := hM.out; omega) (by have := hM.out; omega) hT hN
  go_upto_region 28 with fail
  obtain ⟨w7, hw7⟩ : ∃ w7, w7 = w6.setCell ⟨M5, 0, none⟩ (.int .i64 6) := ⟨_, rfl⟩
  rw [← hw7] at J7
  rw [← hw7]
  clear hw7 x0 x1 x2 x3 x4 xf0
  go_upto_block 0 with (go_at_call 46; (with_reducible refine (lis_no ⟨#[41]⟩ J7.out.rdr S5.out).mono ?_); rintro e w8 ⟨rfl, r8_, k8_⟩; have J8 := Lib.hid (J7.out.rdr_to hM.out.1 (by have := hM.out; omega) k8_ r8_); clear r8_ k8_)
  clear J7 I4 I5 I6
  go_loopg [] 9 (fun f wr => ∃ (ks : List PatT) (a : Option Addr) (c : Nat) (l : List LTok), Hid (ks.length + f = 9 ∧ ks.length ≤ 8) ∧ Hid (ArgI N T en d M2 M5 w nm ks (.slice a ks.length c) l wr) ∧ Hid (primT ex pr en (t :: r) = match argsT ex en f ks l with | .error er => .error er | .ok (ks, r2) => .ok (.mk 6 E0 0 nm ks, r2)))
  case atStart => exact ⟨[], none, 0, _, by unfold Hid; decide, J8, er2⟩
  case round =>
    obtain ⟨ks, a, c, l, hf, J, hch⟩ := hrel
    obtain ⟨x0, x1, x2, x3, x4, xf⟩ := J.out.five.cells
    have xf4 := xf 4
    clear xf
    by_cases h8 : ks.length = 8
    · have z : ((ks.length : Int) == 8) = true := by rw [h8]; rfl
      obtain rfl : gk = 1 := by have := hf.out; omega
      have er3 : Hid (primT ex pr en (t :: r) = .error (5, atT en l)) := by unfold Hid; rw [hch.out, argsT, if_pos h8]
      obtain ⟨n9, a9, c9, r9⟩ := J.out.rdr
      have HA := Lib.hid (lat_any r9)
      clear r9 h8 hf hch
      go_wp2_with (first
        | (go_at_call 49; (refine HA.out.mono ?_); rintro e w' ⟨rfl, hw_⟩; obtain rfl := hw_.symm)
        | (go_at_call 48; (refine (lfail_any _ 5 (atT en l) wr).mono ?_); rintro e w9 ⟨rfl, rfl⟩))
      exact ⟨rfl, XQ.thrown J.out.kept (Kept.refl _ _) er3.out⟩
    · have z : ((ks.length : Int) == 8) = false := by simp; omega
      obtain ⟨g, rfl⟩ : ∃ g, gk = g + 1 := by have := hf.out; exact ⟨gk - 1, by omega⟩
      have HK8 : Hid (ks.length + g = 8 ∧ ks.length < 8) := by have := hf.out; unfold Hid; omega
      have hkl : ks.length ≤ 8 := by have := HK8.out; omega
      have er3 : Hid (primT ex pr en (t :: r) = match (match ex l with | .error er => .error er | .ok (x, r) => if signT (bs [41]) r = true then .ok (ks ++ [x], r.tail) else match needT (bs [44]) en r with | .error er => .error er | .ok r2 => argsT ex en g (ks ++ [x]) r2 : TRes (List PatT)) with | .error er => .error er | .ok (ks, r2) => .ok (.mk 6 E0 0 nm ks, r2)) := by unfold Hid; rw [hch.out, argsT, if_neg h8]; rfl
      clear h8 hf hch
      have JD := Lib.hid (J.out.rdr_to hM.out.1 (by have := hM.out; omega) ((Kept.refl (· = N) wr).drew) (J.out.rdr.kept (Kept.refl Nix wr).drew (fun h => h) (fun h => h)))
      go_upto_region 32 with fail
      go_cut [] (fun wx => ∃ (q : PatT) (r2 : List LTok) (a' : Option Addr) (c' : Nat), Hid (ex l = .ok (q, r2)) ∧ Hid (ArgI N T en d M2 M5 w nm (ks ++ [q]) (.slice a' (ks ++ [q]).length c') r2 wx))
      case first =>
        go_region_law (first
          | (refine step_append_win (w := w9.alloc (.cells #[.int .i64 q.kind, .string q.text, .int .i64 q.n, .string q.name, .slice kc q.kids.length kcap] 44)) rfl (.tmp 145) (.tmp 148) 42 42 rfl (M5 + 1) 44 i0 (.agg #[.int .i64 0, .string ⟨#[]⟩, .int .i64 0, .string ⟨#[]⟩, .slice none 0 0]) 5 72 Tryz.underlying42 hi0 hz0 hz1 hz2 rfl (.slice a ks.length c) ks.length cs (by simp [Act.eval]) WB.out _ 1 [.int .i64 q.kind, .string q.text, .int .i64 q.n, .string q.name, .slice kc q.kids.length kcap] (by simp [Act.eval]) SR.out (by unfold maxLen; omega) (by omega) hb3 ?_; intro a4 c4 w10 hW4 hg4 ho4; have LM4 := Lib.hid (LM.out a4 c4 w10 hW4 hg4 (by simpa using ho4)); have of4 := (HF.out w10 hg4).1; have oc4 := (HF.out w10 hg4).2)
          | (go_simp; go_at_call 69; (refine (HEX.out l wr.drew JD.out.rdr).mono ?_); intro e w9 h9_; rcases hu : ex l with e0 | ⟨q, r2⟩; (obtain ⟨k9_, rfl⟩ := h9_.bad hu; have f_ : XQ N T en d (primT ex pr en (t :: r)) w (.panicked [{ v := lineOops e0, recovered := false }]) w9 := XQ.thrown JD.out.kept k9_ (by rw [er3.out, hu]); exact ⟨rfl, f_⟩); obtain ⟨k9_, r9_, S2, kc, kcap, rfl, hS2_, hz2_, hk2_⟩ := h9_.ok hu; have HU := Lib.hid hu; obtain ⟨cs, S1, hw1, hr1, hS1⟩ := JD.out.own; have WB := Lib.hid ((hw1.kept k9_ (fun b hb => by have := (hw1.lt b hb).1; have := hM.out; omega)).alloc (.cells #[.int .i64 q.kind, .string q.text, .int .i64 q.n, .string q.name, .slice kc q.kids.length kcap] 44)); have SR : Hid (Src Tryz.prog 5 42 (.slice (some ⟨w9.heap.size, 0, none⟩) 1 1) 1 [.int .i64 q.kind, .string q.text, .int .i64 q.n, .string q.name, .slice kc q.kids.length kcap] (w9.alloc (.cells #[.int .i64 q.kind, .string q.text, .int .i64 q.n, .string q.name, .slice kc q.kids.length kcap] 44))) := Src.ofSlice _ Tryz.underlying42 _ _ _ _ rfl (World.news_of_block (fr := (0, 0)) (cs := #[.int .i64 q.kind, .string q.text, .int .i64 q.n, .string q.name, .slice kc q.kids.length kcap]) (heap_alloc_new w9 _)) (by intro u hu; simp at hu; rcases hu with rfl | rfl | rfl | rfl | rfl <;> rfl); have I9 := Lib.hid (JD.out.rdr_to hM.out.1 (by have := hM.out; omega) k9_ r9_); have hb3 : M5 + 1 ≤ (w9.alloc (.cells #[.int .i64 q.kind, .string q.text, .int .i64 q.n, .string q.name, .slice kc q.kids.length kcap] 44)).heap.size := (by have := I9.out.five.lt; simp; omega); obtain ⟨p0, p1, p2, p3, p4, pf⟩ := I9.out.five.cells; have p4' : (w9.alloc (.cells #[.int .i64 q.kind, .string q.text, .int .i64 q.n, .string q.name, .slice kc q.kids.length kcap] 44)).cell? ⟨M5, 4, none⟩ = some (.slice a ks.length c) := (((Kept.refl Nix w9).alloc _).cell I9.out.five.lt (fun h => h)).trans p4; have LM : Hid (∀ (a' : Option Addr) (c' : Nat) (w4 : World), Win w4 (M5 + 1) 44 5 (.slice a' (ks.length + 1) c') (ks.length + 1) (cs ++ [.int .i64 q.kind, .string q.text, .int .i64 q.n, .string q.name, .slice kc q.kids.length kcap]) → (w9.alloc (.cells #[.int .i64 q.kind, .string q.text, .int .i64 q.n, .string q.name, .slice kc q.kids.length kcap] 44)).grownBy w4 (Value.slice a ks.length c).ownBlock → ((Value.slice a' (ks.length + 1) c').ownBlock = (Value.slice a ks.length c).ownBlock ∨ (Value.slice a' (ks.length + 1) c').ownBlock = some (w9.heap.size + 1)) → ArgI N T en d M2 M5 w nm (ks ++ [q]) (.slice a' (ks.length + 1) c') r2 (w4.setCell ⟨M5, 4, none⟩ (.slice a' (ks.length + 1) c'))) := (fun a' c' w4 y1 y2 y3 => JD.out.step hw1 hr1 hS1 hM.out.2.2.2.2 (by have := hM.out; omega) hN hT (by have := hM.out; omega) k9_ r9_ hz2_ hS2_ hk2_ y1 y2 y3); have HF : Hid (∀ w4 : World, (w9.alloc (.cells #[.int .i64 q.kind, .string q.text, .int .i64 q.n, .string q.name, .slice kc q.kids.length kcap] 44)).grownBy w4 (Value.slice a ks.length c).ownBlock → w4.frozen? ⟨M5, 4, none⟩ = false ∧ w4.cell? ⟨M5, 4, none⟩ = some (.slice a ks.length c)) := (fun w4 hg => by have hlt3 := I9.out.five.lt; have hx := hg.block M5 (by simp; omega) (fun e => by have := (hw1.lt _ e.symm).1; omega); have hy := I9.out.five; unfold FivE at hy; exact ⟨by simp [World.frozen?, hx, Below.heap_alloc _ _ _ hlt3, hy], by simp [World.cell?, hx, Below.heap_alloc _ _ _ hlt3, hy]⟩); clear k9_ r9_ hS2_ hz2_ hk2_ h9_ hw1 hr1 hS1 hu))
        all_goals
          go_wp2_with fail
          go_meet
          exact ⟨q, r2, a4, c4, HU, by rw [List.length_append]; exact LM4⟩
      case rest =>
        obtain ⟨q, r2, a5, c5, HU, J9⟩ := hcut
        obtain ⟨ks2, hks2⟩ : ∃ k2, k2 = ks ++ [q] := ⟨_, rfl⟩
        have HKL : Hid (ks2.length = ks.length + 1) := by unfold Hid; rw [hks2, List.length_append]; rfl
        rw [← hks2] at J9
        have er4 : Hid (primT ex pr en (t :: r) = match (if signT (bs [41]) r2 = true then .ok (ks2, r2.tail) else match needT (bs [44]) en r2 with | .error er => .error er | .ok r2 => argsT ex en g (ks2) r2 : TRes (List PatT)) with | .error er => .error er | .ok (ks, r2) => .ok (.mk 6 E0 0 nm ks, r2)) := by unfold Hid; rw [er3.out, HU.out, hks2]
        clear hks2
        cases hs : signT ⟨#[41]⟩ r2 with
        | true =>
          have er5 : Hid (primT ex pr en (t :: r) = .ok (.mk 6 E0 0 nm (ks2), r2.tail)) := by unfold Hid; rw [er4.out, show signT (bs [41]) r2 = true from hs]; rfl
          go_upto_region 34 with (go_at_call 46; (with_reducible refine (lis_yes ⟨#[41]⟩ J9.out.rdr hs).mono ?_); rintro e w10 ⟨rfl, r10_, k10_⟩; have J10 := Lib.hid (J9.out.rdr_to hM.out.1 (by have := hM.out; omega) k10_ r10_); clear r10_ k10_)
          have I10 : Hid (BinI N T en d M2 M5 w (.mk 6 E0 0 nm (ks2)) a5 c5 r2.tail w10) := ArgI.done J10.out hM.out.2.2.2.2 (by have := hM.out; omega) hN (by have := HK8.out; have := HKL.out; omega)
          obtain ⟨x0, x1, x2, x3, x4, _⟩ := I10.out.five.cells
          obtain ⟨z0, z1, z2, z3, z4, zf⟩ := I10.out.zero.cells
          have zf0 := zf 0; have zf1 := zf 1; have zf2 := zf 2; have zf3 := zf 3; have zf4 := zf 4
          clear zf
          go_wp2_with fail
          exact ret_lexp 2 rfl rfl (I10.out.zero.set5 _ _ _ _ _) (I10.out.fin hM.out.1 hM.out.2.2.1 hM.out.2.2.2.1 hN er5.out)
        | false =>
          cases hv : needT (bs [44]) en r2 with
          | error e0 =>
            have er5 : Hid (primT ex pr en (t :: r) = .error e0) := by unfold Hid; rw [er4.out, show signT (bs [41]) r2 = false from hs]; simp only [hv, if_false, Bool.false_eq_true]
            go_wp2_with (first
              | (go_at_call 46; (with_reducible refine (lis_no ⟨#[41]⟩ J9.out.rdr hs).mono ?_); rintro e w10 ⟨rfl, r10_, k10_⟩; have J10 := Lib.hid (J9.out.rdr_to hM.out.1 (by have := hM.out; omega) k10_ r10_); clear r10_ k10_)
              | (go_at_call 67; (refine (lneed_any (bs [44]) J10.out.rdr).mono ?_); intro e w11 h11_; obtain ⟨k11_, rfl⟩ := h11_.bad hv; have K11 := Lib.hid k11_; clear k11_ h11_))
            exact ⟨rfl, XQ.thrown J10.out.kept K11.out er5.out⟩
          | ok r3 =>
            have er5 : Hid (primT ex pr en (t :: r) = match argsT ex en g (ks2) r3 with | .error er => .error er | .ok (ks, r2) => .ok (.mk 6 E0 0 nm ks, r2)) := by unfold Hid; rw [er4.out, show signT (bs [41]) r2 = false from hs]; simp only [hv, if_false, Bool.false_eq_true]
            go_wp2_with (first
              | (go_at_call 46; (with_reducible refine (lis_no ⟨#[41]⟩ J9.out.rdr hs).mono ?_); rintro e w10 ⟨rfl, r10_, k10_⟩; have J10 := Lib.hid (J9.out.rdr_to hM.out.1 (by have := hM.out; omega) k10_ r10_); clear r10_ k10_)
              | (go_at_call 67; (refine (lneed_any (bs [44]) J10.out.rdr).mono ?_); intro e w11 h11_; obtain ⟨k11_, rfl, r11_⟩ := h11_.ok hv; have J11 := Lib.hid (J10.out.rdr_to hM.out.1 (by have := hM.out; omega) k11_ r11_); clear k11_ r11_ h11_))
            go_roundg g
            case measure => omega
            case rel => exact ⟨ks2, a5, c5, r3, by have := HK8.out; have := HKL.out; unfold Hid; omega, J11, er5⟩
end Go.Proofs.YtlnhcgihpclpaaaGreatDoor
