/- The program's reader of lines: primary: a name, an item. -/
import Derived.Test.YtlnhcgihpclpaaaGreatDoorLm17
namespace Go.Proofs.YtlnhcgihpclpaaaGreatDoor
set_option linter.all false
open Go.RowKit

theorem name_size {en : Nat} {l r : List LTok} {x : ByteArray} (h : nameT en l = .ok (x, r)) : x.size ≤ 16 := by
  unfold nameT at h
  split at h
  · cases h
  · split at h
    · cases h
    · simp only [Except.ok.injEq, Prod.mk.injEq] at h; obtain ⟨rfl, _⟩ := h; omega
set_option maxRecDepth 100000 in
set_option maxHeartbeats 8000000 in
theorem lprim_nil {N T en d : Nat} {ex pr : List LTok → TRes PatT} {w : World} (h : PsR N T en [] d w) : Calls Tryz.prog 103 #[.pointer (some ⟨N, 0, none⟩)] w (XQ N T en d (primT ex pr en []) w) := by
  have er : Hid (primT ex pr en [] = .error (2, en)) := rfl
  have S1 : Hid (signT ⟨#[40]⟩ ([] : List LTok) = false) := rfl
  have S2 : Hid (signT ⟨#[36]⟩ ([] : List LTok) = false) := rfl
  obtain ⟨hN, hT, hne, h7⟩ := h.ltN
  obtain ⟨w0, hw0⟩ : ∃ w0, w0 = w.alloc (.cells #[.int .i64 0, .string ⟨#[]⟩, .int .i64 0, .string ⟨#[]⟩, .slice none 0 0] 44) := ⟨_, rfl⟩
  have k0 : Kept Nix w w0 := by rw [hw0]; exact (Kept.refl _ _).alloc _
  obtain ⟨M2, hM2⟩ : ∃ M, M = w.heap.size := ⟨_, rfl⟩
  have Z0 : Hid (FivE M2 (.int .i64 0) (.string ⟨#[]⟩) (.int .i64 0) (.string ⟨#[]⟩) (.slice none 0 0) w0) := by rw [hw0, hM2]; exact heap_alloc_new w _
  have R0 := Lib.hid (h.kept k0 (fun h => h) (fun h => h))
  have K0 : Hid (Kept (· = N) w w0) := k0.more (fun _ h => h.elim)
  have HW0 := Lib.hid hw0; have HM2 := Lib.hid hM2
  clear k0 hw0 hM2 h
  go_enter Tryz.func103, Tryz.ntmps103
  go_upto_region 1 with fail
  rw [← HW0.out, ← HM2.out]
  go_upto_region 12 with (first
    | (go_at_call 46; (with_reducible refine (lis_no ⟨#[40]⟩ R0.out S1.out).mono ?_); rintro e w1 ⟨rfl, r1_, k1_⟩; have R1 := Lib.hid r1_; have K1 : Hid (Kept (· = N) w w1) := K0.out.trans k1_; have Z1 := Lib.hid (Z0.out.kept k1_ (by have := HM2.out; omega)); clear r1_ k1_)
    | (go_at_call 46; (with_reducible refine (lis_no ⟨#[36]⟩ R1.out S2.out).mono ?_); rintro e w2 ⟨rfl, r2_, k2_⟩; have R2 := Lib.hid r2_; have K2 : Hid (Kept (· = N) w w2) := K1.out.trans k2_; have Z2 := Lib.hid (Z1.out.kept k2_ (by have := HM2.out; omega)); clear r2_ k2_))
  obtain ⟨n2, a2, c2, hP⟩ := R2.out
  obtain ⟨c0, c1, cd, cf⟩ := hP.c0
  have hn := hP.num
  have z : decide ((0 : Int) < (n2 : Int)) = false := by rw [hn]; rfl
  have z' : decide (0 < n2) = false := by rw [hn]; rfl
  clear hn hP cf
  go_wp2_with (go_at_call 43; (refine (lname_any R2.out).mono ?_); intro e w3 h3_; obtain ⟨k3_, rfl⟩ := h3_.bad (er := (2, en)) rfl; have K3 := Lib.hid k3_; clear k3_ h3_)
  exact ⟨rfl, XQ.thrown K2.out K3.out er.out⟩
set_option maxRecDepth 100000 in
set_option maxHeartbeats 8000000 in
theorem lprim_name_bad {N T en d : Nat} {ex pr : List LTok → TRes PatT} {t : LTok} {r : List LTok} {w : World} (h : PsR N T en (t :: r) d w) (hk : t.kind ≠ 3 ∧ t.kind ≠ 2) (hs1 : signT (bs [40]) (t :: r) = false) (hs2 : signT (bs [36]) (t :: r) = false) {e0 : Er} (hnm : nameT en (t :: r) = .error e0) : Calls Tryz.prog 103 #[.pointer (some ⟨N, 0, none⟩)] w (XQ N T en d (primT ex pr en (t :: r)) w) := by
  have er : Hid (primT ex pr en (t :: r) = match nameT en (t :: r) with
        | .error er => .error er
        | .ok (nm, r) =>
          if signT (bs [60]) r = true then
            match ex r.tail with
            | .error er => .error er
            | .ok (x, r2) => match needT (bs [62]) en r2 with
              | .error er => .error er
              | .ok r3 => .ok (.mk 4 E0 0 nm [x], r3)
          else if signT (bs [40]) r = true then
            if signT (bs [41]) r.tail = true then .ok (.mk 6 E0 0 nm [], r.tail.tail)
            else match argsT ex en 9 [] r.tail with
              | .error er => .error er
              | .ok (ks, r2) => .ok (.mk 6 E0 0 nm ks, r2)
          else .ok (.mk 3 E0 0 nm [], r)) := by unfold Hid primT; rw [hs1, hs2]; simp only [takeT, hk.1, hk.2, if_false, Bool.false_eq_true]; rfl
  have S1 : Hid (signT ⟨#[40]⟩ (t :: r) = false) := hs1; have S2 : Hid (signT ⟨#[36]⟩ (t :: r) = false) := hs2; have HK := Lib.hid hk
  have HNM := Lib.hid hnm
  obtain ⟨hN, hT, hne, h7⟩ := h.ltN
  obtain ⟨w0, hw0⟩ : ∃ w0, w0 = w.alloc (.cells #[.int .i64 0, .string ⟨#[]⟩, .int .i64 0, .string ⟨#[]⟩, .slice none 0 0] 44) := ⟨_, rfl⟩
  have k0 : Kept Nix w w0 := by rw [hw0]; exact (Kept.refl _ _).alloc _
  obtain ⟨M2, hM2⟩ : ∃ M, M = w.heap.size := ⟨_, rfl⟩
  have Z0 : Hid (FivE M2 (.int .i64 0) (.string ⟨#[]⟩) (.int .i64 0) (.string ⟨#[]⟩) (.slice none 0 0) w0) := by rw [hw0, hM2]; exact heap_alloc_new w _
  have R0 := Lib.hid (h.kept k0 (fun h => h) (fun h => h))
  have K0 : Hid (Kept (· = N) w w0) := k0.more (fun _ h => h.elim)
  have HW0 := Lib.hid hw0; have HM2 := Lib.hid hM2
  clear k0 hw0 hM2 h hk hs1 hs2 hnm
  go_enter Tryz.func103, Tryz.ntmps103
  go_upto_region 1 with fail
  rw [← HW0.out, ← HM2.out]
  go_upto_region 12 with (first
    | (go_at_call 46; (with_reducible refine (lis_no ⟨#[40]⟩ R0.out S1.out).mono ?_); rintro e w1 ⟨rfl, r1_, k1_⟩; have R1 := Lib.hid r1_; have K1 : Hid (Kept (· = N) w w1) := K0.out.trans k1_; have Z1 := Lib.hid (Z0.out.kept k1_ (by have := HM2.out; omega)); clear r1_ k1_)
    | (go_at_call 46; (with_reducible refine (lis_no ⟨#[36]⟩ R1.out S2.out).mono ?_); rintro e w2 ⟨rfl, r2_, k2_⟩; have R2 := Lib.hid r2_; have K2 : Hid (Kept (· = N) w w2) := K1.out.trans k2_; have Z2 := Lib.hid (Z1.out.kept k2_ (by have := HM2.out; omega)); clear r2_ k2_))
  obtain ⟨n2, a2, c2, hP⟩ := R2.out
  obtain ⟨c0, c1, cd, cf⟩ := hP.c0
  have hn := hP.num
  rw [List.length_cons] at hn
  have h0 : 0 < n2 := by omega
  have h1 : (0 : Int) < (n2 : Int) := by omega
  have z : decide ((0 : Int) < (n2 : Int)) = true := decide_eq_true h1
  have z' : decide (0 < n2) = true := decide_eq_true h0
  obtain ⟨o, rfl, t0, t1, t2⟩ := hP.head
  have y3 : (t.kind == 3) = false := by simpa using HK.out.1
  have y2 : (t.kind == 2) = false := by simpa using HK.out.2
  clear hn hP cf
  go_upto_region 22 with fail
  clear c0 c1 cd t0 t1 t2 y3 y2 z z'
  go_wp2_with (go_at_call 43; (refine (lname_any R2.out).mono ?_); intro e w3 h3_; obtain ⟨k3_, rfl⟩ := h3_.bad HNM.out; have K3 := Lib.hid k3_; clear k3_ h3_)
  exact ⟨rfl, XQ.thrown K2.out K3.out (by rw [er.out, HNM.out])⟩
set_option maxRecDepth 100000 in
set_option maxHeartbeats 8000000 in
theorem lprim_name {N T en d : Nat} {ex pr : List LTok → TRes PatT} {t : LTok} {r : List LTok} {w : World} (h : PsR N T en (t :: r) d w) (hk : t.kind ≠ 3 ∧ t.kind ≠ 2) (hs1 : signT (bs [40]) (t :: r) = false) (hs2 : signT (bs [36]) (t :: r) = false) {nm : ByteArray} {r1 : List LTok} (hnm : nameT en (t :: r) = .ok (nm, r1)) (hs3 : signT (bs [60]) r1 = false) (hs4 : signT (bs [40]) r1 = false) : Calls Tryz.prog 103 #[.pointer (some ⟨N, 0, none⟩)] w (XQ N T en d (primT ex pr en (t :: r)) w) := by
  have er : Hid (primT ex pr en (t :: r) = match nameT en (t :: r) with
        | .error er => .error er
        | .ok (nm, r) =>
          if signT (bs [60]) r = true then
            match ex r.tail with
            | .error er => .error er
            | .ok (x, r2) => match needT (bs [62]) en r2 with
              | .error er => .error er
              | .ok r3 => .ok (.mk 4 E0 0 nm [x], r3)
          else if signT (bs [40]) r = true then
            if signT (bs [41]) r.tail = true then .ok (.mk 6 E0 0 nm [], r.tail.tail)
            else match argsT ex en 9 [] r.tail with
              | .error er => .error er
              | .ok (ks, r2) => .ok (.mk 6 E0 0 nm ks, r2)
          else .ok (.mk 3 E0 0 nm [], r)) := by unfold Hid primT; rw [hs1, hs2]; simp only [takeT, hk.1, hk.2, if_false, Bool.false_eq_true]; rfl
  have S1 : Hid (signT ⟨#[40]⟩ (t :: r) = false) := hs1; have S2 : Hid (signT ⟨#[36]⟩ (t :: r) = false) := hs2; have HK := Lib.hid hk
  have er2 : Hid (primT ex pr en (t :: r) = .ok (.mk 3 E0 0 nm [], r1)) := by unfold Hid; rw [er.out, hnm]; simp only [hs3, hs4, if_false, Bool.false_eq_true]
  have HNM := Lib.hid hnm; have S3 : Hid (signT ⟨#[60]⟩ r1 = false) := hs3; have S4 : Hid (signT ⟨#[40]⟩ r1 = false) := hs4
  obtain ⟨hN, hT, hne, h7⟩ := h.ltN
  obtain ⟨w0, hw0⟩ : ∃ w0, w0 = w.alloc (.cells #[.int .i64 0, .string ⟨#[]⟩, .int .i64 0, .string ⟨#[]⟩, .slice none 0 0] 44) := ⟨_, rfl⟩
  have k0 : Kept Nix w w0 := by rw [hw0]; exact (Kept.refl _ _).alloc _
  obtain ⟨M2, hM2⟩ : ∃ M, M = w.heap.size := ⟨_, rfl⟩
  have Z0 : Hid (FivE M2 (.int .i64 0) (.string ⟨#[]⟩) (.int .i64 0) (.string ⟨#[]⟩) (.slice none 0 0) w0) := by rw [hw0, hM2]; exact heap_alloc_new w _
  have R0 := Lib.hid (h.kept k0 (fun h => h) (fun h => h))
  have K0 : Hid (Kept (· = N) w w0) := k0.more (fun _ h => h.elim)
  have HW0 := Lib.hid hw0; have HM2 := Lib.hid hM2
  clear k0 hw0 hM2 h hk hs1 hs2 hnm hs3 hs4 er
  go_enter Tryz.func103, Tryz.ntmps103
  go_upto_region 1 with fail
  rw [← HW0.out, ← HM2.out]
  go_upto_region 12 with (first
    | (go_at_call 46; (with_reducible refine (lis_no ⟨#[40]⟩ R0.out S1.out).mono ?_); rintro e w1 ⟨rfl, r1_, k1_⟩; have R1 := Lib.hid r1_; have K1 : Hid (Kept (· = N) w w1) := K0.out.trans k1_; have Z1 := Lib.hid (Z0.out.kept k1_ (by have := HM2.out; omega)); clear r1_ k1_)
    | (go_at_call 46; (with_reducible refine (lis_no ⟨#[36]⟩ R1.out S2.out).mono ?_); rintro e w2 ⟨rfl, r2_, k2_⟩; have R2 := Lib.hid r2_; have K2 : Hid (Kept (· = N) w w2) := K1.out.trans k2_; have Z2 := Lib.hid (Z1.out.kept k2_ (by have := HM2.out; omega)); clear r2_ k2_))
  obtain ⟨n2, a2, c2, hP⟩ := R2.out
  obtain ⟨c0, c1, cd, cf⟩ := hP.c0
  have hn := hP.num
  rw [List.length_cons] at hn
  have h0 : 0 < n2 := by omega
  have h1 : (0 : Int) < (n2 : Int) := by omega
  have z : decide ((0 : Int) < (n2 : Int)) = true := decide_eq_true h1
  have z' : decide (0 < n2) = true := decide_eq_true h0
  obtain ⟨o, rfl, t0, t1, t2⟩ := hP.head
  have y3 : (t.kind == 3) = false := by simpa using HK.out.1
  have y2 : (t.kind == 2) = false := by simpa using HK.out.2
  clear hn hP cf
  go_upto_region 22 with fail
  clear c0 c1 cd t0 t1 t2 y3 y2 z z'
  go_upto_region 23 with (go_at_call 43; (refine (lname_any R2.out).mono ?_); intro e w3 h3_; obtain ⟨k3_, rfl, r3_⟩ := h3_.ok HNM.out; have R3 := Lib.hid r3_; have K3 : Hid (Kept (· = N) w w3) := K2.out.trans k3_; have Z3 := Lib.hid (Z2.out.kept k3_ (by have := HM2.out; omega)); clear k3_ r3_ h3_)
  have I4 : Hid (BinI N T en d M2 w3.heap.size w (.mk 3 E0 0 nm []) none 0 r1 (w3.alloc (.cells #[.int .i64 3, .string ⟨#[]⟩, .int .i64 0, .string nm, .slice none 0 0] 44))) := BinI.start (w1 := w3) (p := .mk 3 E0 0 nm []) (ka := none) (cap := 0) (S := Nix) Z3.out K3.out R3.out (fun b hb => hb.elim) ⟨by show E0.size < _; decide, by show nm.size < _; have := name_size HNM.out; omega, by show 0 < _; decide⟩ (by show PatsAt _ Nix none []; unfold PatsAt; trivial) hN K3.out.size Z3.out.lt
  have hsz : Hid (w.heap.size < w3.heap.size) := by have := Z3.out.lt; have := HM2.out; unfold Hid; omega
  obtain ⟨w4, hw4⟩ : ∃ w4, w4 = w3.alloc (.cells #[.int .i64 3, .string ⟨#[]⟩, .int .i64 0, .string nm, .slice none 0 0] 44) := ⟨_, rfl⟩
  obtain ⟨M5, hM5⟩ : ∃ M, M = w3.heap.size := ⟨_, rfl⟩
  rw [← hw4, ← hM5] at I4
  rw [← hw4, ← hM5]
  rw [← hM5] at hsz
  have hM : Hid (N ≠ M2 ∧ N ≠ M5 ∧ T ≠ M2 ∧ w.heap.size ≤ M2 ∧ M2 < M5) := by have := HM2.out; have := hsz.out; unfold Hid; omega
  clear hw4 hM5
  go_upto_region 36 with (first
    | (go_at_call 46; (with_reducible refine (lis_no ⟨#[60]⟩ I4.out.rdr S3.out).mono ?_); rintro e w5 ⟨rfl, r5_, k5_⟩; have I5 := Lib.hid (I4.out.rdr_to hM.out.1 (by have := hM.out; omega) k5_ r5_); clear r5_ k5_)
    | (go_at_call 46; (with_reducible refine (lis_no ⟨#[40]⟩ I5.out.rdr S4.out).mono ?_); rintro e w6 ⟨rfl, r6_, k6_⟩; have I6 := Lib.hid (I5.out.rdr_to hM.out.1 (by have := hM.out; omega) k6_ r6_); clear r6_ k6_))
  obtain ⟨x0, x1, x2, x3, x4, _⟩ := I6.out.five.cells
  obtain ⟨z0, z1, z2, z3, z4, zf⟩ := I6.out.zero.cells
  have zf0 := zf 0; have zf1 := zf 1; have zf2 := zf 2; have zf3 := zf 3; have zf4 := zf 4
  clear zf
  go_wp2_with fail
  exact ret_lexp 2 rfl rfl (I6.out.zero.set5 _ _ _ _ _) (I6.out.fin hM.out.1 hM.out.2.2.1 hM.out.2.2.2.1 hN er2.out)
set_option maxRecDepth 100000 in
set_option maxHeartbeats 8000000 in
theorem lprim_item {N T en d : Nat} {ex pr : List LTok → TRes PatT} {t : LTok} {r : List LTok} {w : World} (h : PsR N T en (t :: r) d w) (hk : t.kind ≠ 3 ∧ t.kind ≠ 2) (hs1 : signT (bs [40]) (t :: r) = false) (hs2 : signT (bs [36]) (t :: r) = false) {nm : ByteArray} {r1 : List LTok} (hnm : nameT en (t :: r) = .ok (nm, r1)) (HE : ExOk N T en d ex) (hs3 : signT (bs [60]) r1 = true) : Calls Tryz.prog 103 #[.pointer (some ⟨N, 0, none⟩)] w (XQ N T en d (primT ex pr en (t :: r)) w) := by
  have er : Hid (primT ex pr en (t :: r) = match nameT en (t :: r) with
        | .error er => .error er
        | .ok (nm, r) =>
          if signT (bs [60]) r = true then
            match ex r.tail with
            | .error er => .error er
            | .ok (x, r2) => match needT (bs [62]) en r2 with
              | .error er => .error er
              | .ok r3 => .ok (.mk 4 E0 0 nm [x], r3)
          else if signT (bs [40]) r = true then
            if signT (bs [41]) r.tail = true then .ok (.mk 6 E0 0 nm [], r.tail.tail)
            else match argsT ex en 9 [] r.tail with
              | .error er => .error er
              | .ok (ks, r2) => .ok (.mk 6 E0 0 nm ks, r2)
          else .ok (.mk 3 E0 0 nm [], r)) := by unfold Hid primT; rw [hs1, hs2]; simp only [takeT, hk.1, hk.2, if_false, Bool.false_eq_true]; rfl
  have S1 : Hid (signT ⟨#[40]⟩ (t :: r) = false) := hs1; have S2 : Hid (signT ⟨#[36]⟩ (t :: r) = false) := hs2; have HK := Lib.hid hk
  have er2 : Hid (primT ex pr en (t :: r) = match ex r1.tail with | .error er => .error er | .ok (x, r2) => match needT (bs [62]) en r2 with | .error er => .error er | .ok r3 => .ok (.mk 4 E0 0 nm [x], r3)) := by unfold Hid; rw [er.out, hnm]; simp only [hs3, if_true]
  have HNM := Lib.hid hnm; have S3 : Hid (signT ⟨#[60]⟩ r1 = true) := hs3; have HEX := Lib.hid HE
  obtain ⟨hN, hT, hne, h7⟩ := h.ltN
  obtain ⟨w0, hw0⟩ : ∃ w0, w0 = w.alloc (.cells #[.int .i64 0, .string ⟨#[]⟩, .int .i64 0, .string ⟨#[]⟩, .slice none 0 0] 44) := ⟨_, rfl⟩
  have k0 : Kept Nix w w0 := by rw [hw0]; exact (Kept.refl _ _).alloc _
  obtain ⟨M2, hM2⟩ : ∃ M, M = w.heap.size := ⟨_, rfl⟩
  have Z0 : Hid (FivE M2 (.int .i64 0) (.string ⟨#[]⟩) (.int .i64 0) (.string ⟨#[]⟩) (.slice none 0 0) w0) := by rw [hw0, hM2]; exact heap_alloc_new w _
  have R0 := Lib.hid (h.kept k0 (fun h => h) (fun h => h))
  have K0 : Hid (Kept (· = N) w w0) := k0.more (fun _ h => h.elim)
  have HW0 := Lib.hid hw0; have HM2 := Lib.hid hM2
  clear k0 hw0 hM2 h hk hs1 hs2 hnm hs3 er HE
  go_enter Tryz.func103, Tryz.ntmps103
  go_upto_region 1 with fail
  rw [← HW0.out, ← HM2.out]
  go_upto_region 12 with (first
    | (go_at_call 46; (with_reducible refine (lis_no ⟨#[40]⟩ R0.out S1.out).mono ?_); rintro e w1 ⟨rfl, r1_, k1_⟩; have R1 := Lib.hid r1_; have K1 : Hid (Kept (· = N) w w1) := K0.out.trans k1_; have Z1 := Lib.hid (Z0.out.kept k1_ (by have := HM2.out; omega)); clear r1_ k1_)
    | (go_at_call 46; (with_reducible refine (lis_no ⟨#[36]⟩ R1.out S2.out).mono ?_); rintro e w2 ⟨rfl, r2_, k2_⟩; have R2 := Lib.hid r2_; have K2 : Hid (Kept (· = N) w w2) := K1.out.trans k2_; have Z2 := Lib.hid (Z1.out.kept k2_ (by have := HM2.out; omega)); clear r2_ k2_))
  obtain ⟨n2, a2, c2, hP⟩ := R2.out
  obtain ⟨c0, c1, cd, cf⟩ := hP.c0
  have hn := hP.num
  rw [List.length_cons] at hn
  have h0 : 0 < n2 := by omega
  have h1 : (0 : Int) < (n2 : Int) := by omega
  have z : decide ((0 : Int) < (n2 : Int)) = true := decide_eq_true h1
  have z' : decide (0 < n2) = true := decide_eq_true h0
  obtain ⟨o, rfl, t0, t1, t2⟩ := hP.head
  have y3 : (t.kind == 3) = false := by simpa using HK.out.1
  have y2 : (t.kind == 2) = false := by simpa using HK.out.2
  clear hn hP cf
  go_upto_region 22 with fail
  clear c0 c1 cd t0 t1 t2 y3 y2 z z'
  go_upto_region 23 with (go_at_call 43; (refine (lname_any R2.out).mono ?_); intro e w3 h3_; obtain ⟨k3_, rfl, r3_⟩ := h3_.ok HNM.out; have R3 := Lib.hid r3_; have K3 : Hid (Kept (· = N) w w3) := K2.out.trans k3_; have Z3 := Lib.hid (Z2.out.kept k3_ (by have := HM2.out; omega)); clear k3_ r3_ h3_)
  have I4 : Hid (BinI N T en d M2 w3.heap.size w (.mk 3 E0 0 nm []) none 0 r1 (w3.alloc (.cells #[.int .i64 3, .string ⟨#[]⟩, .int .i64 0, .string nm, .slice none 0 0] 44))) := BinI.start (w1 := w3) (p := .mk 3 E0 0 nm []) (ka := none) (cap := 0) (S := Nix) Z3.out K3.out R3.out (fun b hb => hb.elim) ⟨by show E0.size < _; decide, by show nm.size < _; have := name_size HNM.out; omega, by show 0 < _; decide⟩ (by show PatsAt _ Nix none []; unfold PatsAt; trivial) hN K3.out.size Z3.out.lt
  have hsz : Hid (w.heap.size < w3.heap.size) := by have := Z3.out.lt; have := HM2.out; unfold Hid; omega
  obtain ⟨w4, hw4⟩ : ∃ w4, w4 = w3.alloc (.cells #[.int .i64 3, .string ⟨#[]⟩, .int .i64 0, .string nm, .slice none 0 0] 44) := ⟨_, rfl⟩
  obtain ⟨M5, hM5⟩ : ∃ M, M = w3.heap.size := ⟨_, rfl⟩
  rw [← hw4, ← hM5] at I4
  rw [← hw4, ← hM5]
  rw [← hM5] at hsz
  have hM : Hid (N ≠ M2 ∧ N ≠ M5 ∧ T ≠ M2 ∧ w.heap.size ≤ M2 ∧ M2 < M5) := by have := HM2.out; have := hsz.out; unfold Hid; omega
  clear hw4 hM5
  go_upto_region 24 with (go_at_call 46; (with_reducible refine (lis_yes ⟨#[60]⟩ I4.out.rdr S3.out).mono ?_); rintro e w5 ⟨rfl, r5_, k5_⟩; have I5 := Lib.hid (I4.out.rdr_to hM.out.1 (by have := hM.out; omega) k5_ r5_); clear r5_ k5_)
  cases hu : ex r1.tail with
  | error e0 =>
    go_wp2_with (go_at_call 69; (refine (HEX.out r1.tail w5 I5.out.rdr).mono ?_); intro e w6 h6_; obtain ⟨k6_, rfl⟩ := h6_.bad hu; have K6 := Lib.hid k6_; clear k6_ h6_)
    exact ⟨rfl, XQ.thrown I5.out.kept K6.out (by rw [er2.out, hu])⟩
  | ok x =>
    obtain ⟨p, r2⟩ := x
    have er3 : Hid (primT ex pr en (t :: r) = match needT (bs [62]) en r2 with | .error er => .error er | .ok r3 => .ok (.mk 4 E0 0 nm [p], r3)) := by unfold Hid; rw [er2.out, hu]
    clear er2
    go_upto_region 25 with (go_at_call 69; (refine (HEX.out r1.tail w5 I5.out.rdr).mono ?_); intro e w6 h6_; obtain ⟨k6_, r6_, S, ka, cap, rfl, hS_, hz_, hk_⟩ := h6_.ok hu; have I7 := Lib.hid (BinI.item (cap := cap) I5.out hM.out.1 hM.out.2.1 (by have := hM.out; omega) (by have := hM.out; omega) hT hN k6_ r6_ hS_ hz_ hk_ rfl); have I6 := Lib.hid (I5.out.rdr_to hM.out.1 hM.out.2.1 k6_ r6_); obtain ⟨g0, g1, g2, g3, g4, gf⟩ := (I6.out.five.kept ((Kept.refl Nix w6).alloc (.cells #[.int .i64 p.kind, .string p.text, .int .i64 p.n, .string p.name, .slice ka p.kids.length cap] 44)) (fun h => h)).cells; have gf0 := gf 0; have gf4 := gf 4; clear gf k6_ r6_ hS_ hz_ hk_ h6_)
    obtain ⟨w7, hw7⟩ : ∃ w7, w7 = ((w6.alloc (.cells #[.int .i64 p.kind, .string p.text, .int .i64 p.n, .string p.name, .slice ka p.kids.length cap] 44)).setCell ⟨M5, 0, none⟩ (.int .i64 4)).setCell ⟨M5, 4, none⟩ (.slice (some ⟨w6.heap.size, 0, none⟩) 1 1) := ⟨_, rfl⟩
    rw [← hw7] at I7
    rw [← hw7]
    clear hw7 g0 g1 g2 g3 g4 gf0 gf4
    cases hv : needT (bs [62]) en r2 with
    | error e0 =>
      go_wp2_with (go_at_call 67; (refine (lneed_any (bs [62]) I7.out.rdr).mono ?_); intro e w8 h8_; obtain ⟨k8_, rfl⟩ := h8_.bad hv; have K8 := Lib.hid k8_; clear k8_ h8_)
      exact ⟨rfl, XQ.thrown I7.out.kept K8.out (by rw [er3.out, hv])⟩
    | ok r3 =>
      have er4 : Hid (primT ex pr en (t :: r) = .ok (.mk 4 E0 0 nm [p], r3)) := by unfold Hid; rw [er3.out, hv]
      clear er3
      go_upto_region 36 with (go_at_call 67; (refine (lneed_any (bs [62]) I7.out.rdr).mono ?_); intro e w8 h8_; obtain ⟨k8_, rfl, r8_⟩ := h8_.ok hv; have I8 := Lib.hid (I7.out.rdr_to hM.out.1 hM.out.2.1 k8_ r8_); clear k8_ r8_ h8_)
      obtain ⟨x0, x1, x2, x3, x4, _⟩ := I8.out.five.cells
      obtain ⟨z0, z1, z2, z3, z4, zf⟩ := I8.out.zero.cells
      have zf0 := zf 0; have zf1 := zf 1; have zf2 := zf 2; have zf3 := zf 3; have zf4 := zf 4
      clear zf
      go_wp2_with fail
      exact ret_lexp 2 rfl rfl (I8.out.zero.set5 _ _ _ _ _) (I8.out.fin hM.out.1 hM.out.2.2.1 hM.out.2.2.2.1 hN er4.out)
end Go.Proofs.YtlnhcgihpclpaaaGreatDoor
