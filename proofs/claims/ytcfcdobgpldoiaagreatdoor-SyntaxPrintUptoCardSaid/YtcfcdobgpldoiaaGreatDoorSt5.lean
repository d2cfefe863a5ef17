/- The document's Wrong: what is wrong with a statement (printed by gen/st5.py). -/
import Derived.Test.YtcfcdobgpldoiaaGreatDoorSt3
import Derived.Test.YtcfcdobgpldoiaaGreatDoorSm2
import Derived.Test.YtcfcdobgpldoiaaGreatDoorSm9
namespace Go.Proofs.YtcfcdobgpldoiaaGreatDoor
set_option linter.all false
open Go.RowKit

theorem firstE_z {e : Int} {r : List Int} (h : e = 0) : firstE (e :: r) = firstE r := by rw [firstE, if_pos h]
theorem firstE_nz {e : Int} {r : List Int} (h : e ≠ 0) : firstE (e :: r) = e := by rw [firstE, if_neg h]
theorem firstE_nil : firstE [] = 0 := rfl
theorem firstE_one (e : Int) : firstE [e] = e := by
  by_cases h : e = 0
  · rw [firstE_z h, h]; rfl
  · exact firstE_nz h
theorem namedE_append : ∀ (a b : List ByteArray), namedE (a ++ b) = if namedE a = 0 then namedE b else namedE a
  | [], b => by simp [namedE]
  | x :: r, b => by
    have ih := namedE_append r b
    rw [List.cons_append, namedE, namedE]
    by_cases h : namedF x = true
    · rw [if_pos h, if_pos h]; exact ih
    · rw [if_neg h, if_neg h]; rfl
theorem named_three (a b c : List ByteArray) (m : Int) : firstE [namedE a, namedE b, namedE c, m] = firstE [namedE (a ++ b ++ c), m] := by
  rw [namedE_append, namedE_append]
  by_cases h1 : namedE a = 0
  · rw [if_pos h1, firstE_z h1]
    by_cases h2 : namedE b = 0
    · rw [if_pos h2, firstE_z h2]
    · rw [if_neg h2, firstE_nz h2, firstE_nz h2]
  · rw [if_neg h1, if_neg h1, firstE_nz h1, firstE_nz h1]
theorem cat_empty (x y : ByteArray) : (x ++ y).toList.isEmpty = (x.toList.isEmpty && y.toList.isEmpty) := by
  rw [Bool.eq_iff_iff, Bool.and_eq_true, isEmpty_size, isEmpty_size, isEmpty_size, ByteArray.size_append]; omega
theorem refWrong_w (p : PatT) (v : Value) (S : Nat → Prop) (w : World) (hp : PatV w S v p) (hS : Safe S Nix w.heap.size) (hm : sizeT p ≤ 100000000) :
    Calls Tryz.prog 22 #[v] w (IntQ (wrongF p) w) := by
  have h := refWrong_any p v S w hm hp hS
  rw [show refWrongR p = wrongF p from (wrongF_eq p).symm] at h
  exact h

set_option maxRecDepth 100000 in
set_option maxHeartbeats 8000000 in
theorem refWrong_st (s : StT) (v : Value) (S : Nat → Prop) (w : World) (hs : StV w S v s) (hS : Safe S Nix w.heap.size) : Calls Tryz.prog 7 #[v] w (IntQ (wrongS s) w) := by
  obtain ⟨a, rfl, hz, ho⟩ := hs
  unfold stVal
  have B1 := StB.new w a s
  have k1 : Kept Nix w _ := (Kept.refl Nix w).alloc (.cells (stCells a s).toArray 33)
  unfold stCells at k1
  generalize hw1 : World.alloc w _ = w1 at B1 k1
  have HB1 := Lib.hid B1; have HK1 := Lib.hid k1; have HW1 := Lib.hid hw1
  obtain ⟨c0, c1, c2, c3, c4, c5, c6, c7, c8, c9, c10, c11, c12, c13, c14, c15, c16, c17, c18, c19, c20, c21, c22, c23⟩ := B1.cells
  have HZ := Lib.hid hz
  have HO := Lib.hid ho; have HS := Lib.hid hS
  clear B1 k1 hw1 hz ho hS
  go_enter Tryz.func7, Tryz.ntmps7
  go_upto_region 1 with fail
  rw [HW1.out]
  go_upto_region 2 with fail
  obtain ⟨w2, hw2⟩ : ∃ w2, w2 = (w1.alloc (.cells #[.string s.label, .string s.always, .string s.yes, .string s.noes] 9)) := ⟨_, rfl⟩
  rw [← hw2]
  have hrow : w2.heap[w1.heap.size]? = some (.cells ((labs s).map Value.string).toArray 9 (0, 0)) := by rw [hw2]; exact heap_alloc_new w1 _
  have k2 : Kept Nix w1 w2 := by rw [hw2]; exact (Kept.refl Nix _).alloc _
  have HL : Hid (StrsAt w2 (· = w1.heap.size) (some ⟨w1.heap.size, 0, none⟩) (labs s)) := strs_row hrow rfl
  have hl2 : Hid (Safe (· = w1.heap.size) Nix w2.heap.size) := by rintro b rfl; exact ⟨by rw [hw2]; simp, fun h => h⟩
  have HB2 := Lib.hid (HB1.out.kept k2 (fun h => h)); have HK2 := Lib.hid (HK1.out.trans k2)
  clear hrow hw2 k2 c0 c1 c2 c3 c4 c5 c6 c7 c8 c9 c10 c11 c12 c13 c14 c15 c16 c17 c18 c19 c20 c21 c22 c23 HW1 HB1 HK1
  go_loopw [21] (fun i wr => ∃ j : Nat, j ≤ 4 ∧ i = .int .i64 j ∧ Hid (optL (labs s) = optL ((labs s).drop j)) ∧ Kept Nix w2 wr) (fun i _ => 4 - (intOf i).toNat)
  case atStart => exact ⟨0, Nat.zero_le _, rfl, by unfold Hid; rw [List.drop_zero], Kept.refl _ _⟩
  case round =>
    obtain ⟨j, hj, rfl, hno, hkw⟩ := hrel
    have KW := Lib.hid hkw
    by_cases hlt : j < 4
    · have hcj : wr.cell? ⟨w1.heap.size, 0 + j, none⟩ = some (.string (labs s)[j]) := by
        obtain ⟨b, o, e, _, hc⟩ := (HL.out.to hkw hl2.out (fun _ h => h)) (by show 0 < 4; decide)
        simp only [Option.some.injEq, Addr.mk.injEq, and_true] at e
        obtain ⟨rfl, rfl⟩ := e
        exact hc j hlt
      rw [Nat.zero_add] at hcj
      have hd := optL_drop (labs s) j hlt
      have hsz := labs_size HZ.out j hlt
      have hsl : ((labs s)[j]).size ≤ maxLen := by unfold maxLen; omega
      generalize (labs s)[j] = x at hcj hd hsz hsl
      clear hkw
      cases hb : optE x with
      | true =>
        rw [hb, Bool.true_and] at hd
        have step := Lib.hid (hno.out.trans hd)
        rcases opt_split hb with ⟨_, e1, _⟩ | ⟨_, e1, e2⟩
        · clear hd hb
          go_wp2_with fail
          go_roundw
          case rel => exact ⟨j + 1, by omega, by go_num, step, KW.out⟩
          case measure => simp [intOf]; omega
        · have E2 := Lib.hid e2
          clear hd hb e2
          go_wp2_with (go_at_call 20; (with_reducible refine (refNamed_any _ _ hsl).mono ?_); rintro e w' ⟨rfl, k_⟩; rw [E2.out]; have K3 := Lib.hid (KW.out.trans k_); clear k_)
          go_roundw
          case rel => exact ⟨j + 1, by omega, by go_num, step, K3.out⟩
          case measure => simp [intOf]; omega
      | false =>
        rw [hb, Bool.false_and] at hd
        have fin := Lib.hid (wrongS_labs (hno.out.trans hd))
        rcases opt_split hb with ⟨_, _, e2⟩ | ⟨_, e1, e2⟩
        · cases e2
        · have E2 := Lib.hid e2
          clear hd hb e2
          go_wp2_with (go_at_call 20; (with_reducible refine (refNamed_any _ _ hsl).mono ?_); rintro e w' ⟨rfl, k_⟩; rw [E2.out]; have K3 := Lib.hid (KW.out.trans k_); clear k_)
          go_ret
          exact ⟨by rw [fin.out]; try rfl, HK2.out.trans K3.out⟩
    · obtain rfl : j = 4 := by omega
      have hlab : Hid (optL (labs s) = true) := by unfold Hid; rw [hno.out]; rfl
      clear HL hl2 hkw
      obtain ⟨c0, c1, c2, c3, c4, c5, c6, c7, c8, c9, c10, c11, c12, c13, c14, c15, c16, c17, c18, c19, c20, c21, c22, c23⟩ := (HB2.out.kept KW.out (fun h => h)).cells
      have zy := HZ.out.yes
      have zn := HZ.out.noes
      go_upto_region 7 with fail
      go_cut [43] (fun c wx => c = .bool (badFit s) ∧ wr = wx)
      case first =>
        rcases fit_cases s with ⟨e1, e2⟩ | ⟨e1, e2, e3⟩ | ⟨e1, e2, e3, e4⟩ | ⟨e1, e2, e3, e4⟩
        all_goals
          clear HS HZ
          go_wp2_with fail
          go_meet
          refine ⟨?_, rfl⟩
          first
            | rw [e2]
            | (rw [e3, cat_empty, e2]; rfl)
            | (rw [e4, cat_empty, e2, e3]; rfl)
      case rest =>
        obtain ⟨rfl, rfl⟩ := hcut
        cases hbad : badFit s with
        | true =>
          have fin := Lib.hid (wrongS_fit hlab.out hbad)
          clear hbad
          go_wp2_with fail
          go_ret
          exact ⟨by rw [fin.out]; try rfl, HK2.out.trans KW.out⟩
        | false =>
          have heq := Lib.hid (wrongS_kind hlab.out hbad)
          have HO2 : Hid (StOk w2 S a s) := HO.out.to HK2.out HS.out (fun _ h => h)
          clear hbad zy zn
          have PVtarget : Hid (PatV w2 S (.agg #[.int .i64 s.target.kind, .string s.target.text, .int .i64 s.target.n, .string s.target.name, .slice a.ta s.target.kids.length a.tc]) s.target) := ⟨a.ta, a.tc, rfl, HZ.out.target.z, HO2.out.target⟩
          have PVvalue : Hid (PatV w2 S (.agg #[.int .i64 s.value.kind, .string s.value.text, .int .i64 s.value.n, .string s.value.name, .slice a.va s.value.kids.length a.vc]) s.value) := ⟨a.va, a.vc, rfl, HZ.out.value.z, HO2.out.value⟩
          have PVpat : Hid (PatV w2 S (.agg #[.int .i64 s.pat.kind, .string s.pat.text, .int .i64 s.pat.n, .string s.pat.name, .slice a.pa s.pat.kids.length a.pc]) s.pat) := ⟨a.pa, a.pc, rfl, HZ.out.pat.z, HO2.out.pat⟩
          have SS : Hid (Safe S Nix w2.heap.size) := HS.out.mono HK2.out.size
          by_cases hkd : s.kind = 1
          · have y1 : decide (s.kind < 1) = false := by rw [hkd]; rfl
            have y2 : decide (7 < s.kind) = false := by rw [hkd]; rfl
            have z2 : (s.kind == 2) = false := by rw [hkd]; rfl
            have z3 : (s.kind == 3) = false := by rw [hkd]; rfl
            have z4 : (s.kind == 4) = false := by rw [hkd]; rfl
            have z5 : (s.kind == 5) = false := by rw [hkd]; rfl
            have z6 : (s.kind == 6) = false := by rw [hkd]; rfl
            have z7 : (s.kind == 7) = false := by rw [hkd]; rfl
            have EK1 : Hid (kindS s = firstE []) := by unfold Hid; unfold kindS; rw [if_pos hkd]; rfl
            clear hkd
            have fin := Lib.hid (heq.out.trans (EK1.out.trans firstE_nil))
            go_wp2_with fail
            go_ret
            exact ⟨by rw [fin.out]; try rfl, HK2.out.trans KW.out⟩
          have n1 := hkd; clear hkd
          by_cases hkd : s.kind = 2
          · have y1 : decide (s.kind < 1) = false := by rw [hkd]; rfl
            have y2 : decide (7 < s.kind) = false := by rw [hkd]; rfl
            have z2 : (s.kind == 2) = true := by rw [hkd]; rfl
            have z3 : (s.kind == 3) = false := by rw [hkd]; rfl
            have z4 : (s.kind == 4) = false := by rw [hkd]; rfl
            have z5 : (s.kind == 5) = false := by rw [hkd]; rfl
            have z6 : (s.kind == 6) = false := by rw [hkd]; rfl
            have z7 : (s.kind == 7) = false := by rw [hkd]; rfl
            have EK1 : Hid (kindS s = firstE [exprE s.value]) := by unfold Hid; unfold kindS; rw [if_neg (by omega), if_pos hkd]; exact (firstE_one _).symm
            clear hkd
            go_wp2_with fail
            refine (refExpr_any s.value _ S _ (PVvalue.out.keepN KW.out SS.out) (SS.out.mono KW.out.size) (by have := HZ.out.value.t; omega)).mono ?_
            rintro e w4 ⟨rfl, k_⟩
            have K4 := Lib.hid (KW.out.trans k_)
            clear k_
            clear c0 c1 c2 c3 c4 c5 c6 c7 c8 c9 c10 c11 c12 c13 c14 c15 c16 c17 c18 c19 c20 c21 c22 c23; obtain ⟨c0, c1, c2, c3, c4, c5, c6, c7, c8, c9, c10, c11, c12, c13, c14, c15, c16, c17, c18, c19, c20, c21, c22, c23⟩ := (HB2.out.kept K4.out (fun h => h)).cells
            by_cases hz : exprE s.value = 0
            rotate_left
            · have fin := Lib.hid (heq.out.trans (EK1.out.trans (firstE_nz hz)))
              have hb : (exprE s.value != 0) = true := by simpa using hz
              clear hz
              go_wp2_with fail
              go_ret
              exact ⟨by rw [fin.out]; try rfl, HK2.out.trans K4.out⟩
            · have EK2 := Lib.hid (EK1.out.trans (firstE_z hz))
              have hb : (exprE s.value != 0) = false := by simpa using hz
              clear hz
              have fin := Lib.hid (heq.out.trans (EK2.out.trans firstE_nil))
              go_wp2_with fail
              go_ret
              exact ⟨by rw [fin.out]; try rfl, HK2.out.trans K4.out⟩
          have n2 := hkd; clear hkd
          by_cases hkd : s.kind = 4
          · have y1 : decide (s.kind < 1) = false := by rw [hkd]; rfl
            have y2 : decide (7 < s.kind) = false := by rw [hkd]; rfl
            have z2 : (s.kind == 2) = false := by rw [hkd]; rfl
            have z3 : (s.kind == 3) = false := by rw [hkd]; rfl
            have z4 : (s.kind == 4) = true := by rw [hkd]; rfl
            have z5 : (s.kind == 5) = false := by rw [hkd]; rfl
            have z6 : (s.kind == 6) = false := by rw [hkd]; rfl
            have z7 : (s.kind == 7) = false := by rw [hkd]; rfl
            have EK1 : Hid (kindS s = firstE [exprE s.value, wrongF s.pat]) := by unfold Hid; unfold kindS; rw [if_neg (by omega), if_neg (by omega), if_pos hkd]
            clear hkd
            go_wp2_with fail
            refine (refExpr_any s.value _ S _ (PVvalue.out.keepN KW.out SS.out) (SS.out.mono KW.out.size) (by have := HZ.out.value.t; omega)).mono ?_
            rintro e w4 ⟨rfl, k_⟩
            have K4 := Lib.hid (KW.out.trans k_)
            clear k_
            clear c0 c1 c2 c3 c4 c5 c6 c7 c8 c9 c10 c11 c12 c13 c14 c15 c16 c17 c18 c19 c20 c21 c22 c23; obtain ⟨c0, c1, c2, c3, c4, c5, c6, c7, c8, c9, c10, c11, c12, c13, c14, c15, c16, c17, c18, c19, c20, c21, c22, c23⟩ := (HB2.out.kept K4.out (fun h => h)).cells
            by_cases hz : exprE s.value = 0
            rotate_left
            · have fin := Lib.hid (heq.out.trans (EK1.out.trans (firstE_nz hz)))
              have hb : (exprE s.value != 0) = true := by simpa using hz
              clear hz
              go_wp2_with fail
              go_ret
              exact ⟨by rw [fin.out]; try rfl, HK2.out.trans K4.out⟩
            · have EK2 := Lib.hid (EK1.out.trans (firstE_z hz))
              have hb : (exprE s.value != 0) = false := by simpa using hz
              clear hz
              go_wp2_with fail
              refine (refWrong_w s.pat _ S _ (PVpat.out.keepN K4.out SS.out) (SS.out.mono K4.out.size) (by have := HZ.out.pat.t; omega)).mono ?_
              rintro e w5 ⟨rfl, k_⟩
              have K5 := Lib.hid (K4.out.trans k_)
              clear k_
              clear c0 c1 c2 c3 c4 c5 c6 c7 c8 c9 c10 c11 c12 c13 c14 c15 c16 c17 c18 c19 c20 c21 c22 c23; obtain ⟨c0, c1, c2, c3, c4, c5, c6, c7, c8, c9, c10, c11, c12, c13, c14, c15, c16, c17, c18, c19, c20, c21, c22, c23⟩ := (HB2.out.kept K5.out (fun h => h)).cells
              by_cases hz : wrongF s.pat = 0
              rotate_left
              · have fin := Lib.hid (heq.out.trans (EK2.out.trans (firstE_nz hz)))
                have hb : (wrongF s.pat != 0) = true := by simpa using hz
                clear hz
                go_wp2_with fail
                go_ret
                exact ⟨by rw [fin.out]; try rfl, HK2.out.trans K5.out⟩
              · have EK3 := Lib.hid (EK2.out.trans (firstE_z hz))
                have hb : (wrongF s.pat != 0) = false := by simpa using hz
                clear hz
                have fin := Lib.hid (heq.out.trans (EK3.out.trans firstE_nil))
                go_wp2_with fail
                go_ret
                exact ⟨by rw [fin.out]; try rfl, HK2.out.trans K5.out⟩
          have n4 := hkd; clear hkd
          by_cases hkd : s.kind = 3
          · have y1 : decide (s.kind < 1) = false := by rw [hkd]; rfl
            have y2 : decide (7 < s.kind) = false := by rw [hkd]; rfl
            have z2 : (s.kind == 2) = false := by rw [hkd]; rfl
            have z3 : (s.kind == 3) = true := by rw [hkd]; rfl
            have z4 : (s.kind == 4) = false := by rw [hkd]; rfl
            have z5 : (s.kind == 5) = false := by rw [hkd]; rfl
            have z6 : (s.kind == 6) = false := by rw [hkd]; rfl
            have z7 : (s.kind == 7) = false := by rw [hkd]; rfl
            have EK1 : Hid (kindS s = firstE [exprE s.target, if isTarget s.target then 0 else 8, exprE s.value]) := by unfold Hid; unfold kindS; rw [if_neg (by omega), if_neg (by omega), if_neg (by omega), if_pos hkd]
            clear hkd
            go_wp2_with fail
            refine (refExpr_any s.target _ S _ (PVtarget.out.keepN KW.out SS.out) (SS.out.mono KW.out.size) (by have := HZ.out.target.t; omega)).mono ?_
            rintro e w4 ⟨rfl, k_⟩
            have K4 := Lib.hid (KW.out.trans k_)
            clear k_
            clear c0 c1 c2 c3 c4 c5 c6 c7 c8 c9 c10 c11 c12 c13 c14 c15 c16 c17 c18 c19 c20 c21 c22 c23; obtain ⟨c0, c1, c2, c3, c4, c5, c6, c7, c8, c9, c10, c11, c12, c13, c14, c15, c16, c17, c18, c19, c20, c21, c22, c23⟩ := (HB2.out.kept K4.out (fun h => h)).cells
            by_cases hz : exprE s.target = 0
            rotate_left
            · have fin := Lib.hid (heq.out.trans (EK1.out.trans (firstE_nz hz)))
              have hb : (exprE s.target != 0) = true := by simpa using hz
              clear hz
              go_wp2_with fail
              go_ret
              exact ⟨by rw [fin.out]; try rfl, HK2.out.trans K4.out⟩
            · have EK2 := Lib.hid (EK1.out.trans (firstE_z hz))
              have hb : (exprE s.target != 0) = false := by simpa using hz
              clear hz
              go_wp2_with fail
              refine (refTarget_any s.target _ S _ (PVtarget.out.keepN K4.out SS.out)).mono ?_
              rintro e w5 ⟨rfl, k_⟩
              have K5 := Lib.hid (K4.out.trans k_)
              clear k_
              clear c0 c1 c2 c3 c4 c5 c6 c7 c8 c9 c10 c11 c12 c13 c14 c15 c16 c17 c18 c19 c20 c21 c22 c23; obtain ⟨c0, c1, c2, c3, c4, c5, c6, c7, c8, c9, c10, c11, c12, c13, c14, c15, c16, c17, c18, c19, c20, c21, c22, c23⟩ := (HB2.out.kept K5.out (fun h => h)).cells
              by_cases ht : isTarget s.target
              rotate_left
              · have fin := Lib.hid (heq.out.trans (EK2.out.trans (by rw [if_neg ht]; exact firstE_nz (by decide) : _ = (8 : Int))))
                rw [decide_eq_false ht]
                clear ht
                go_wp2_with fail
                go_ret
                exact ⟨by rw [fin.out]; try rfl, HK2.out.trans K5.out⟩
              · have EK3 := Lib.hid (EK2.out.trans (firstE_z (if_pos ht)))
                rw [decide_eq_true ht]
                clear ht
                go_wp2_with fail
                refine (refExpr_any s.value _ S _ (PVvalue.out.keepN K5.out SS.out) (SS.out.mono K5.out.size) (by have := HZ.out.value.t; omega)).mono ?_
                rintro e w6 ⟨rfl, k_⟩
                have K6 := Lib.hid (K5.out.trans k_)
                clear k_
                clear c0 c1 c2 c3 c4 c5 c6 c7 c8 c9 c10 c11 c12 c13 c14 c15 c16 c17 c18 c19 c20 c21 c22 c23; obtain ⟨c0, c1, c2, c3, c4, c5, c6, c7, c8, c9, c10, c11, c12, c13, c14, c15, c16, c17, c18, c19, c20, c21, c22, c23⟩ := (HB2.out.kept K6.out (fun h => h)).cells
                have fin := Lib.hid (heq.out.trans (EK3.out.trans (firstE_one _)))
                go_wp2_with fail
                go_ret
                exact ⟨by rw [fin.out]; try rfl, HK2.out.trans K6.out⟩
          have n3 := hkd; clear hkd
          by_cases hkd : s.kind = 5
          · have y1 : decide (s.kind < 1) = false := by rw [hkd]; rfl
            have y2 : decide (7 < s.kind) = false := by rw [hkd]; rfl
            have z2 : (s.kind == 2) = false := by rw [hkd]; rfl
            have z3 : (s.kind == 3) = false := by rw [hkd]; rfl
            have z4 : (s.kind == 4) = false := by rw [hkd]; rfl
            have z5 : (s.kind == 5) = true := by rw [hkd]; rfl
            have z6 : (s.kind == 6) = false := by rw [hkd]; rfl
            have z7 : (s.kind == 7) = false := by rw [hkd]; rfl
            have EK1 : Hid (kindS s = firstE [exprE s.target, if isTarget s.target then 0 else 8, wrongF s.pat, exprE s.value]) := by unfold Hid; unfold kindS; rw [if_neg (by omega), if_neg (by omega), if_neg (by omega), if_neg (by omega), if_pos hkd]
            clear hkd
            go_wp2_with fail
            refine (refExpr_any s.target _ S _ (PVtarget.out.keepN KW.out SS.out) (SS.out.mono KW.out.size) (by have := HZ.out.target.t; omega)).mono ?_
            rintro e w4 ⟨rfl, k_⟩
            have K4 := Lib.hid (KW.out.trans k_)
            clear k_
            clear c0 c1 c2 c3 c4 c5 c6 c7 c8 c9 c10 c11 c12 c13 c14 c15 c16 c17 c18 c19 c20 c21 c22 c23; obtain ⟨c0, c1, c2, c3, c4, c5, c6, c7, c8, c9, c10, c11, c12, c13, c14, c15, c16, c17, c18, c19, c20, c21, c22, c23⟩ := (HB2.out.kept K4.out (fun h => h)).cells
            by_cases hz : exprE s.target = 0
            rotate_left
            · have fin := Lib.hid (heq.out.trans (EK1.out.trans (firstE_nz hz)))
              have hb : (exprE s.target != 0) = true := by simpa using hz
              clear hz
              go_wp2_with fail
              go_ret
              exact ⟨by rw [fin.out]; try rfl, HK2.out.trans K4.out⟩
            · have EK2 := Lib.hid (EK1.out.trans (firstE_z hz))
              have hb : (exprE s.target != 0) = false := by simpa using hz
              clear hz
              go_wp2_with fail
              refine (refTarget_any s.target _ S _ (PVtarget.out.keepN K4.out SS.out)).mono ?_
              rintro e w5 ⟨rfl, k_⟩
              have K5 := Lib.hid (K4.out.trans k_)
              clear k_
              clear c0 c1 c2 c3 c4 c5 c6 c7 c8 c9 c10 c11 c12 c13 c14 c15 c16 c17 c18 c19 c20 c21 c22 c23; obtain ⟨c0, c1, c2, c3, c4, c5, c6, c7, c8, c9, c10, c11, c12, c13, c14, c15, c16, c17, c18, c19, c20, c21, c22, c23⟩ := (HB2.out.kept K5.out (fun h => h)).cells
              by_cases ht : isTarget s.target
              rotate_left
              · have fin := Lib.hid (heq.out.trans (EK2.out.trans (by rw [if_neg ht]; exact firstE_nz (by decide) : _ = (8 : Int))))
                rw [decide_eq_false ht]
                clear ht
                go_wp2_with fail
                go_ret
                exact ⟨by rw [fin.out]; try rfl, HK2.out.trans K5.out⟩
              · have EK3 := Lib.hid (EK2.out.trans (firstE_z (if_pos ht)))
                rw [decide_eq_true ht]
                clear ht
                go_wp2_with fail
                refine (refWrong_w s.pat _ S _ (PVpat.out.keepN K5.out SS.out) (SS.out.mono K5.out.size) (by have := HZ.out.pat.t; omega)).mono ?_
                rintro e w6 ⟨rfl, k_⟩
                have K6 := Lib.hid (K5.out.trans k_)
                clear k_
                clear c0 c1 c2 c3 c4 c5 c6 c7 c8 c9 c10 c11 c12 c13 c14 c15 c16 c17 c18 c19 c20 c21 c22 c23; obtain ⟨c0, c1, c2, c3, c4, c5, c6, c7, c8, c9, c10, c11, c12, c13, c14, c15, c16, c17, c18, c19, c20, c21, c22, c23⟩ := (HB2.out.kept K6.out (fun h => h)).cells
                by_cases hz : wrongF s.pat = 0
                rotate_left
                · have fin := Lib.hid (heq.out.trans (EK3.out.trans (firstE_nz hz)))
                  have hb : (wrongF s.pat != 0) = true := by simpa using hz
                  clear hz
                  go_wp2_with fail
                  go_ret
                  exact ⟨by rw [fin.out]; try rfl, HK2.out.trans K6.out⟩
                · have EK4 := Lib.hid (EK3.out.trans (firstE_z hz))
                  have hb : (wrongF s.pat != 0) = false := by simpa using hz
                  clear hz
                  go_wp2_with fail
                  refine (refExpr_any s.value _ S _ (PVvalue.out.keepN K6.out SS.out) (SS.out.mono K6.out.size) (by have := HZ.out.value.t; omega)).mono ?_
                  rintro e w7 ⟨rfl, k_⟩
                  have K7 := Lib.hid (K6.out.trans k_)
                  clear k_
                  clear c0 c1 c2 c3 c4 c5 c6 c7 c8 c9 c10 c11 c12 c13 c14 c15 c16 c17 c18 c19 c20 c21 c22 c23; obtain ⟨c0, c1, c2, c3, c4, c5, c6, c7, c8, c9, c10, c11, c12, c13, c14, c15, c16, c17, c18, c19, c20, c21, c22, c23⟩ := (HB2.out.kept K7.out (fun h => h)).cells
                  have fin := Lib.hid (heq.out.trans (EK4.out.trans (firstE_one _)))
                  go_wp2_with fail
                  go_ret
                  exact ⟨by rw [fin.out]; try rfl, HK2.out.trans K7.out⟩
          have n5 := hkd; clear hkd
          by_cases hkd : s.kind = 6
          · have y1 : decide (s.kind < 1) = false := by rw [hkd]; rfl
            have y2 : decide (7 < s.kind) = false := by rw [hkd]; rfl
            have z2 : (s.kind == 2) = false := by rw [hkd]; rfl
            have z3 : (s.kind == 3) = false := by rw [hkd]; rfl
            have z4 : (s.kind == 4) = false := by rw [hkd]; rfl
            have z5 : (s.kind == 5) = false := by rw [hkd]; rfl
            have z6 : (s.kind == 6) = true := by rw [hkd]; rfl
            have z7 : (s.kind == 7) = false := by rw [hkd]; rfl
            have EK1 : Hid (kindS s = firstE [namedE [s.name], wrongF s.pat]) := by unfold Hid; unfold kindS; rw [if_neg (by omega), if_neg (by omega), if_neg (by omega), if_neg (by omega), if_neg (by omega), if_pos hkd]
            clear hkd
            go_wp2_with fail
            refine (refNamed_any s.name _ (by have := HZ.out.name; unfold maxLen; omega)).mono ?_
            rintro e w4 ⟨rfl, k_⟩
            have K4 := Lib.hid (KW.out.trans k_)
            clear k_
            clear c0 c1 c2 c3 c4 c5 c6 c7 c8 c9 c10 c11 c12 c13 c14 c15 c16 c17 c18 c19 c20 c21 c22 c23; obtain ⟨c0, c1, c2, c3, c4, c5, c6, c7, c8, c9, c10, c11, c12, c13, c14, c15, c16, c17, c18, c19, c20, c21, c22, c23⟩ := (HB2.out.kept K4.out (fun h => h)).cells
            cases hn : namedF s.name
            · have fin := Lib.hid (heq.out.trans (EK1.out.trans (by rw [show namedE [s.name] = 7 by simp [namedE, hn]]; exact firstE_nz (by decide) : _ = (7 : Int))))
              clear hn
              go_wp2_with fail
              go_ret
              exact ⟨by rw [fin.out]; try rfl, HK2.out.trans K4.out⟩
            · have EK2 := Lib.hid (EK1.out.trans (firstE_z (show namedE [s.name] = 0 by simp [namedE, hn])))
              clear hn
              go_wp2_with fail
              refine (refWrong_w s.pat _ S _ (PVpat.out.keepN K4.out SS.out) (SS.out.mono K4.out.size) (by have := HZ.out.pat.t; omega)).mono ?_
              rintro e w5 ⟨rfl, k_⟩
              have K5 := Lib.hid (K4.out.trans k_)
              clear k_
              clear c0 c1 c2 c3 c4 c5 c6 c7 c8 c9 c10 c11 c12 c13 c14 c15 c16 c17 c18 c19 c20 c21 c22 c23; obtain ⟨c0, c1, c2, c3, c4, c5, c6, c7, c8, c9, c10, c11, c12, c13, c14, c15, c16, c17, c18, c19, c20, c21, c22, c23⟩ := (HB2.out.kept K5.out (fun h => h)).cells
              by_cases hz : wrongF s.pat = 0
              rotate_left
              · have fin := Lib.hid (heq.out.trans (EK2.out.trans (firstE_nz hz)))
                have hb : (wrongF s.pat != 0) = true := by simpa using hz
                clear hz
                go_wp2_with fail
                go_ret
                exact ⟨by rw [fin.out]; try rfl, HK2.out.trans K5.out⟩
              · have EK3 := Lib.hid (EK2.out.trans (firstE_z hz))
                have hb : (wrongF s.pat != 0) = false := by simpa using hz
                clear hz
                have fin := Lib.hid (heq.out.trans (EK3.out.trans firstE_nil))
                go_wp2_with fail
                go_ret
                exact ⟨by rw [fin.out]; try rfl, HK2.out.trans K5.out⟩
          have n6 := hkd; clear hkd
          by_cases hkd : s.kind = 7
          · have y1 : decide (s.kind < 1) = false := by rw [hkd]; rfl
            have y2 : decide (7 < s.kind) = false := by rw [hkd]; rfl
            have z2 : (s.kind == 2) = false := by rw [hkd]; rfl
            have z3 : (s.kind == 3) = false := by rw [hkd]; rfl
            have z4 : (s.kind == 4) = false := by rw [hkd]; rfl
            have z5 : (s.kind == 5) = false := by rw [hkd]; rfl
            have z6 : (s.kind == 6) = false := by rw [hkd]; rfl
            have z7 : (s.kind == 7) = true := by rw [hkd]; rfl
            have EK1 : Hid (kindS s = firstE [namedE [s.name], namedE s.params, namedE s.locals, namedE [s.entry], if 8 < s.params.length ∨ 8 < s.locals.length then 5 else 0]) := by unfold Hid; unfold kindS; rw [if_neg (by omega), if_neg (by omega), if_neg (by omega), if_neg (by omega), if_neg (by omega), if_neg (by omega), if_pos hkd]
            clear hkd
            go_wp2_with fail
            refine (refNamed_any s.name _ (by have := HZ.out.name; unfold maxLen; omega)).mono ?_
            rintro e w4 ⟨rfl, k_⟩
            have K4 := Lib.hid (KW.out.trans k_)
            clear k_
            clear c0 c1 c2 c3 c4 c5 c6 c7 c8 c9 c10 c11 c12 c13 c14 c15 c16 c17 c18 c19 c20 c21 c22 c23; obtain ⟨c0, c1, c2, c3, c4, c5, c6, c7, c8, c9, c10, c11, c12, c13, c14, c15, c16, c17, c18, c19, c20, c21, c22, c23⟩ := (HB2.out.kept K4.out (fun h => h)).cells
            cases hn : namedF s.name
            · have fin := Lib.hid (heq.out.trans (EK1.out.trans (by rw [show namedE [s.name] = 7 by simp [namedE, hn]]; exact firstE_nz (by decide) : _ = (7 : Int))))
              clear hn
              go_wp2_with fail
              go_ret
              exact ⟨by rw [fin.out]; try rfl, HK2.out.trans K4.out⟩
            · have EK2 := Lib.hid (EK1.out.trans (firstE_z (show namedE [s.name] = 0 by simp [namedE, hn])))
              clear hn
              go_upto_region 31 with fail
              have hB4 := K4.out.size
              have hNX : ¬ w4.heap.size ≤ w.heap.size := by have := HB2.out.lt; omega
              have SX : Hid (Safe S (fun b => w4.heap.size ≤ b) w4.heap.size) := fun b hb => by have := (SS.out b hb).1; exact ⟨by omega, by omega⟩
              have O4 : Hid (StOk w4 S a s) := HO2.out.to K4.out SS.out (fun _ h => h)
              obtain ⟨Sp, hSp⟩ : ∃ Sp : Nat → Value → World → Prop, Sp = (fun i v _ => match i with
                | 1 => v = .pointer (some ⟨w.heap.size, 19, none⟩)
                | 2 => v = .slice a.ma s.params.length a.mc
                | 4 => v = .pointer (some ⟨w.heap.size, 20, none⟩)
                | 5 => v = .slice a.la s.locals.length a.lc
                | 7 => v = .pointer (some ⟨w.heap.size, 18, none⟩)
                | 8 => v = .string s.entry
                | 11 => v = .int .i64 (((s.params.length + s.locals.length + 1) : Nat) : Int)
                | 12 => v = .int .i64 0
                | _ => True) := ⟨_, rfl⟩
              obtain ⟨J, hJd⟩ : ∃ J : (Nat → Bool) → (Nat → Value) → World → Prop, J = (fun l f wx => RowJ w4.heap.size s.params.length (s.params.length + s.locals.length) (s.params.length + s.locals.length + 1) (s.params.map Value.string) (s.params.map Value.string ++ s.locals.map Value.string) ((s.params.map Value.string ++ s.locals.map Value.string) ++ [.string s.entry]) s.entry (l 0) (l 3) (l 6) (l 9) (l 10) (f 125) (f 128) (f 131) (f 134) (f 135) wx) := ⟨_, rfl⟩
              refine wp_specsX2 (fun b => w4.heap.size ≤ b) J Sp [125, 126, 127, 128, 129, 130, 131, 132, 133, 134, 135, 136, 137] (by kernel_rfl) (by kernel_rfl) (by kernel_rfl) (fun i v w w' h hk => by subst hSp; exact h) ?_ ?_ ?_ ?_
              · intro i o hi l x wy hI hJ hlf haft
                rw [hJd] at hJ
                have e1 : x.eval (.tmp 1) = .pointer (some ⟨w.heap.size, 0, none⟩) := hI.keep 1 _ rfl (by kernel_rfl)
                have hsz : x.tmps.size = 155 := hI.size
                have B3 := HB2.out.kept (K4.out) (fun h => h)
                have B3 := B3.kept hI.kept hNX
                have O3 := O4.out.to hI.kept SX.out (fun _ h => h)
                clear c0 c1 c2 c3 c4 c5 c6 c7 c8 c9 c10 c11 c12 c13 c14 c15 c16 c17 c18 c19 c20 c21 c22 c23
                obtain ⟨c0, c1, c2, c3, c4, c5, c6, c7, c8, c9, c10, c11, c12, c13, c14, c15, c16, c17, c18, c19, c20, c21, c22, c23⟩ := B3.cells
                have hjn : ∀ l' : Nat → Bool, (∀ j, l' j = true ↔ j = i ∨ l j = true) → ∀ (d : Nat) (v : Value), o.dst = some d → (i ≠ 0 ∧ i ≠ 3 ∧ i ≠ 6 ∧ i ≠ 9 ∧ i ≠ 10) → (d ≠ 125 ∧ d ≠ 128 ∧ d ≠ 131 ∧ d ≠ 134 ∧ d ≠ 135) → J l' (fun t => (x.put o.dst v).tmps.getD t undef) wy := by
                  intro l' hl d v hd hi hd2
                  rw [hd, hJd]
                  show RowJ w4.heap.size s.params.length (s.params.length + s.locals.length) (s.params.length + s.locals.length + 1) (s.params.map Value.string) (s.params.map Value.string ++ s.locals.map Value.string) ((s.params.map Value.string ++ s.locals.map Value.string) ++ [.string s.entry]) s.entry (l' 0) (l' 3) (l' 6) (l' 9) (l' 10) ((fun t => (x.put (some d) v).tmps.getD t undef) 125) ((fun t => (x.put (some d) v).tmps.getD t undef) 128) ((fun t => (x.put (some d) v).tmps.getD t undef) 131) ((fun t => (x.put (some d) v).tmps.getD t undef) 134) ((fun t => (x.put (some d) v).tmps.getD t undef) 135) wy
                  rw [upd_ne hl 0 (Ne.symm hi.1), upd_ne hl 3 (Ne.symm hi.2.1), upd_ne hl 6 (Ne.symm hi.2.2.1), upd_ne hl 9 (Ne.symm hi.2.2.2.1), upd_ne hl 10 (Ne.symm hi.2.2.2.2)]
                  dsimp only
                  rw [put_ne x d 125 v hd2.1, put_ne x d 128 v hd2.2.1, put_ne x d 131 v hd2.2.2.1, put_ne x d 134 v hd2.2.2.2.1, put_ne x d 135 v hd2.2.2.2.2]
                  exact hJ
                rcases i with _ | _ | _ | _ | _ | _ | _ | _ | _ | _ | _ | _ | _ | i
                all_goals (simp only [List.getElem?_toArray, List.getElem?_cons_zero, List.getElem?_cons_succ, List.getElem?_nil, Option.some.injEq, reduceCtorEq] at hi)
                all_goals subst hi
                · have n3 := hI.no hlf 3 rfl rfl
                  have n6 := hI.no n3 6 rfl rfl
                  have n10 := hI.no n6 10 rfl rfl
                  rw [hlf, n3, n6, n10] at hJ
                  refine opX_new (v := .slice (some ⟨wy.heap.size, 0, none⟩) 0 0) (w' := wy.alloc (.cells #[] 9)) ?_ (by subst hSp; trivial) ((Kept.refl _ _).alloc _) (fun l' hl => ?_)
                  · simp only [execOp, List.map_toArray, List.map_nil]; go_simp
                  · rw [hJd]
                    show RowJ w4.heap.size s.params.length (s.params.length + s.locals.length) (s.params.length + s.locals.length + 1) (s.params.map Value.string) (s.params.map Value.string ++ s.locals.map Value.string) ((s.params.map Value.string ++ s.locals.map Value.string) ++ [.string s.entry]) s.entry (l' 0) (l' 3) (l' 6) (l' 9) (l' 10) ((fun t => (x.put (some 125) _).tmps.getD t undef) 125) ((fun t => (x.put (some 125) _).tmps.getD t undef) 128) ((fun t => (x.put (some 125) _).tmps.getD t undef) 131) ((fun t => (x.put (some 125) _).tmps.getD t undef) 134) ((fun t => (x.put (some 125) _).tmps.getD t undef) 135) _
                    dsimp only
                    rw [upd_self hl, upd_ne hl 3 (by decide), upd_ne hl 6 (by decide), upd_ne hl 9 (by decide), upd_ne hl 10 (by decide), put_self x 125 _ (by rw [hsz]; decide), put_ne x 125 128 _ (by decide), put_ne x 125 131 _ (by decide), put_ne x 125 134 _ (by decide), put_ne x 125 135 _ (by decide)]
                    rw [n3, n6, n10]
                    exact hJ.op0
                · refine opX_val (v := .pointer (some ⟨w.heap.size, 19, none⟩)) ?_ (by subst hSp; exact rfl) (fun l' hl => hjn l' hl 126 _ rfl (by decide) (by decide))
                  simp only [execOp, resolve, invoke, List.map_toArray, List.map_cons, List.map_nil, e1]; go_simp
                · have d126 : x.eval (.tmp 126) = .pointer (some ⟨w.heap.size, 19, none⟩) := by have h_ := hI.dep haft 1 126 rfl rfl rfl; rw [hSp] at h_; exact h_
                  refine opX_val (v := .slice a.ma s.params.length a.mc) ?_ (by subst hSp; exact rfl) (fun l' hl => hjn l' hl 127 _ rfl (by decide) (by decide))
                  simp only [execOp, resolve, invoke, List.map_toArray, List.map_cons, List.map_nil, d126]; go_simp
                · have t0 := dep_done haft 0 rfl
                  have n6 := hI.no hlf 6 rfl rfl
                  have n10 := hI.no n6 10 rfl rfl
                  have d127 : x.eval (.tmp 127) = .slice a.ma s.params.length a.mc := by have h_ := hI.dep haft 2 127 rfl rfl rfl; rw [hSp] at h_; exact h_
                  rw [t0, hlf, n6, n10] at hJ
                  refine opX_app (n := 0) (xs := []) _ _ rfl rfl (hJ.h0 rfl rfl) (.slice a.ma s.params.length a.mc) (s.params.length) (s.params.map Value.string) d127 (strs_src O3.params _) (by have := HZ.out.params.1; have := HZ.out.locals.1; simp; omega) hJ.base (fun _ h => h) (fun _ _ => by subst hSp; trivial) ?_
                  intro v' w' hC hgr hoo l' hl
                  rw [hJd]
                  show RowJ w4.heap.size s.params.length (s.params.length + s.locals.length) (s.params.length + s.locals.length + 1) (s.params.map Value.string) (s.params.map Value.string ++ s.locals.map Value.string) ((s.params.map Value.string ++ s.locals.map Value.string) ++ [.string s.entry]) s.entry (l' 0) (l' 3) (l' 6) (l' 9) (l' 10) ((fun t => (x.put (some 128) _).tmps.getD t undef) 125) ((fun t => (x.put (some 128) _).tmps.getD t undef) 128) ((fun t => (x.put (some 128) _).tmps.getD t undef) 131) ((fun t => (x.put (some 128) _).tmps.getD t undef) 134) ((fun t => (x.put (some 128) _).tmps.getD t undef) 135) _
                  dsimp only
                  rw [upd_self hl, upd_ne hl 0 (by decide), upd_ne hl 6 (by decide), upd_ne hl 9 (by decide), upd_ne hl 10 (by decide), put_self x 128 _ (by rw [hsz]; decide), put_ne x 128 125 _ (by decide), put_ne x 128 131 _ (by decide), put_ne x 128 134 _ (by decide), put_ne x 128 135 _ (by decide)]
                  rw [t0, n6, n10]
                  rw [Nat.zero_add, List.nil_append] at hC
                  exact hJ.op3 hC hgr hoo
                · refine opX_val (v := .pointer (some ⟨w.heap.size, 20, none⟩)) ?_ (by subst hSp; exact rfl) (fun l' hl => hjn l' hl 129 _ rfl (by decide) (by decide))
                  simp only [execOp, resolve, invoke, List.map_toArray, List.map_cons, List.map_nil, e1]; go_simp
                · have d129 : x.eval (.tmp 129) = .pointer (some ⟨w.heap.size, 20, none⟩) := by have h_ := hI.dep haft 4 129 rfl rfl rfl; rw [hSp] at h_; exact h_
                  refine opX_val (v := .slice a.la s.locals.length a.lc) ?_ (by subst hSp; exact rfl) (fun l' hl => hjn l' hl 130 _ rfl (by decide) (by decide))
                  simp only [execOp, resolve, invoke, List.map_toArray, List.map_cons, List.map_nil, d129]; go_simp
                · have t3 := dep_done haft 3 rfl
                  have n10 := hI.no hlf 10 rfl rfl
                  have d130 : x.eval (.tmp 130) = .slice a.la s.locals.length a.lc := by have h_ := hI.dep haft 5 130 rfl rfl rfl; rw [hSp] at h_; exact h_
                  rw [t3, hlf, n10] at hJ
                  refine opX_app (n := s.params.length) (xs := s.params.map Value.string) _ _ rfl rfl (hJ.h3 rfl rfl) (.slice a.la s.locals.length a.lc) (s.locals.length) (s.locals.map Value.string) d130 (strs_src O3.locals _) (by have := HZ.out.params.1; have := HZ.out.locals.1; simp; omega) hJ.base (fun _ h => h) (fun _ _ => by subst hSp; trivial) ?_
                  intro v' w' hC hgr hoo l' hl
                  rw [hJd]
                  show RowJ w4.heap.size s.params.length (s.params.length + s.locals.length) (s.params.length + s.locals.length + 1) (s.params.map Value.string) (s.params.map Value.string ++ s.locals.map Value.string) ((s.params.map Value.string ++ s.locals.map Value.string) ++ [.string s.entry]) s.entry (l' 0) (l' 3) (l' 6) (l' 9) (l' 10) ((fun t => (x.put (some 131) _).tmps.getD t undef) 125) ((fun t => (x.put (some 131) _).tmps.getD t undef) 128) ((fun t => (x.put (some 131) _).tmps.getD t undef) 131) ((fun t => (x.put (some 131) _).tmps.getD t undef) 134) ((fun t => (x.put (some 131) _).tmps.getD t undef) 135) _
                  dsimp only
                  rw [upd_self hl, upd_ne hl 0 (by decide), upd_ne hl 3 (by decide), upd_ne hl 9 (by decide), upd_ne hl 10 (by decide), put_self x 131 _ (by rw [hsz]; decide), put_ne x 131 125 _ (by decide), put_ne x 131 128 _ (by decide), put_ne x 131 134 _ (by decide), put_ne x 131 135 _ (by decide)]
                  rw [t3, n10]
                  exact hJ.op6 hC hgr hoo
                · refine opX_val (v := .pointer (some ⟨w.heap.size, 18, none⟩)) ?_ (by subst hSp; exact rfl) (fun l' hl => hjn l' hl 132 _ rfl (by decide) (by decide))
                  simp only [execOp, resolve, invoke, List.map_toArray, List.map_cons, List.map_nil, e1]; go_simp
                · have d132 : x.eval (.tmp 132) = .pointer (some ⟨w.heap.size, 18, none⟩) := by have h_ := hI.dep haft 7 132 rfl rfl rfl; rw [hSp] at h_; exact h_
                  refine opX_val (v := .string s.entry) ?_ (by subst hSp; exact rfl) (fun l' hl => hjn l' hl 133 _ rfl (by decide) (by decide))
                  simp only [execOp, resolve, invoke, List.map_toArray, List.map_cons, List.map_nil, d132]; go_simp
                · have d133 : x.eval (.tmp 133) = .string s.entry := by have h_ := hI.dep haft 8 133 rfl rfl rfl; rw [hSp] at h_; exact h_
                  have n10 := hI.no hlf 10 rfl rfl
                  rw [hlf, n10] at hJ
                  refine opX_new (v := .slice (some ⟨wy.heap.size, 0, none⟩) 1 1) (w' := wy.alloc (.cells #[.string s.entry] 9)) ?_ (by subst hSp; trivial) ((Kept.refl _ _).alloc _) (fun l' hl => ?_)
                  · simp only [execOp, resolve, invoke, List.map_toArray, List.map_cons, List.map_nil, d133]; go_simp
                  · rw [hJd]
                    show RowJ w4.heap.size s.params.length (s.params.length + s.locals.length) (s.params.length + s.locals.length + 1) (s.params.map Value.string) (s.params.map Value.string ++ s.locals.map Value.string) ((s.params.map Value.string ++ s.locals.map Value.string) ++ [.string s.entry]) s.entry (l' 0) (l' 3) (l' 6) (l' 9) (l' 10) ((fun t => (x.put (some 134) _).tmps.getD t undef) 125) ((fun t => (x.put (some 134) _).tmps.getD t undef) 128) ((fun t => (x.put (some 134) _).tmps.getD t undef) 131) ((fun t => (x.put (some 134) _).tmps.getD t undef) 134) ((fun t => (x.put (some 134) _).tmps.getD t undef) 135) _
                    dsimp only
                    rw [upd_self hl, upd_ne hl 0 (by decide), upd_ne hl 3 (by decide), upd_ne hl 6 (by decide), upd_ne hl 10 (by decide), put_self x 134 _ (by rw [hsz]; decide), put_ne x 134 125 _ (by decide), put_ne x 134 128 _ (by decide), put_ne x 134 131 _ (by decide), put_ne x 134 135 _ (by decide)]
                    rw [n10]
                    exact hJ.op9
                · have t6 := dep_done haft 6 rfl
                  have t9 := dep_done haft 9 rfl
                  have t3 : l 3 = true := hI.closed 6 _ rfl t6 _ (by first | exact List.mem_toArray.2 (.head _) | exact List.mem_toArray.2 (.tail _ (.head _)) | exact List.mem_toArray.2 (.tail _ (.tail _ (.head _)))) rfl
                  rw [t6, t9, hlf] at hJ
                  obtain ⟨g, hv9, _, hg9, _⟩ := hJ.h9 rfl rfl
                  refine opX_app (n := (s.params.length + s.locals.length)) (xs := s.params.map Value.string ++ s.locals.map Value.string) _ _ rfl rfl (hJ.h6 rfl rfl) (.slice (some ⟨g, 0, none⟩) 1 1) (1) ([.string s.entry]) hv9 (row_src hg9) (by have := HZ.out.params.1; have := HZ.out.locals.1; simp; omega) hJ.base (fun _ h => h) (fun _ _ => by subst hSp; trivial) ?_
                  intro v' w' hC hgr hoo l' hl
                  rw [hJd]
                  show RowJ w4.heap.size s.params.length (s.params.length + s.locals.length) (s.params.length + s.locals.length + 1) (s.params.map Value.string) (s.params.map Value.string ++ s.locals.map Value.string) ((s.params.map Value.string ++ s.locals.map Value.string) ++ [.string s.entry]) s.entry (l' 0) (l' 3) (l' 6) (l' 9) (l' 10) ((fun t => (x.put (some 135) _).tmps.getD t undef) 125) ((fun t => (x.put (some 135) _).tmps.getD t undef) 128) ((fun t => (x.put (some 135) _).tmps.getD t undef) 131) ((fun t => (x.put (some 135) _).tmps.getD t undef) 134) ((fun t => (x.put (some 135) _).tmps.getD t undef) 135) _
                  dsimp only
                  rw [upd_self hl, upd_ne hl 0 (by decide), upd_ne hl 3 (by decide), upd_ne hl 6 (by decide), upd_ne hl 9 (by decide), put_self x 135 _ (by rw [hsz]; decide), put_ne x 135 125 _ (by decide), put_ne x 135 128 _ (by decide), put_ne x 135 131 _ (by decide), put_ne x 135 134 _ (by decide)]
                  rw [t6, t9]
                  exact hJ.op10 hC hgr.size t3
                · have t10 := dep_done haft 10 rfl
                  rw [t10] at hJ
                  obtain ⟨aa, cc, hv, _⟩ := hJ.h10 rfl
                  have hv2 : x.eval (.tmp 135) = .slice aa (s.params.length + s.locals.length + 1) cc := hv
                  refine opX_val (v := .int .i64 (((s.params.length + s.locals.length + 1) : Nat) : Int)) ?_ (by subst hSp; exact rfl) (fun l' hl => ?_)
                  · simp only [execOp, resolve, invoke, List.map_toArray, List.map_cons, List.map_nil, hv2]; go_simp
                  · have hq := hjn l' hl 136 (.int .i64 (((s.params.length + s.locals.length + 1) : Nat) : Int)) rfl (by decide) (by decide)
                    exact hq
                · refine opX_val (v := .int .i64 0) ?_ (by subst hSp; exact rfl) (fun l' hl => hjn l' hl 137 _ rfl (by decide) (by decide))
                  simp only [execOp]; go_simp
              · intro l hl
                rw [hJd]
                dsimp only
                rw [hl 0 (by decide), hl 3 (by decide), hl 6 (by decide), hl 9 (by decide), hl 10 (by decide)]
                exact ⟨Nat.le_refl _, fun h => by (cases h), fun h => by (cases h), fun h => by (cases h), fun h => by (cases h), fun h => by (cases h)⟩
              · intro l l' f wx hl h
                rw [hJd] at h ⊢
                show RowJ w4.heap.size s.params.length (s.params.length + s.locals.length) (s.params.length + s.locals.length + 1) (s.params.map Value.string) (s.params.map Value.string ++ s.locals.map Value.string) ((s.params.map Value.string ++ s.locals.map Value.string) ++ [.string s.entry]) s.entry (l' 0) (l' 3) (l' 6) (l' 9) (l' 10) (f 125) (f 128) (f 131) (f 134) (f 135) wx
                rw [← hl 0 (by decide), ← hl 3 (by decide), ← hl 6 (by decide), ← hl 9 (by decide), ← hl 10 (by decide)]
                exact h
              · intro f wy hK hS hJ
                rw [hJd] at hJ
                have h11 : f 136 = .int .i64 (((s.params.length + s.locals.length + 1) : Nat) : Int) := by have h_ := hS 11 _ 136 rfl rfl; rw [hSp] at h_; exact h_
                have h12 : f 137 = .int .i64 0 := by have h_ := hS 12 _ 137 rfl rfl; rw [hSp] at h_; exact h_
                obtain ⟨a5, c_5, e5, HW5⟩ := hJ.h10 rfl
                try dsimp only at e5
                obtain ⟨lst, hlst⟩ : ∃ lst, lst = s.params ++ s.locals ++ [s.entry] := ⟨_, rfl⟩
                have hN : s.params.length + s.locals.length + 1 = lst.length := by rw [hlst]; simp; omega
                rw [hN] at h11 e5 HW5
                rw [show (s.params.map Value.string ++ s.locals.map Value.string) ++ [Value.string s.entry] = lst.map Value.string by rw [hlst]; simp] at HW5
                have HW := Lib.hid HW5
                have K5 : Hid (Kept Nix w2 wy) := K4.out.step hK (fun y hy => .inr (by have : w4.heap.size ≤ y := hy; omega))
                have EK3 : Hid (kindS s = firstE [namedE lst, if 8 < s.params.length ∨ 8 < s.locals.length then 5 else 0]) := by unfold Hid; rw [EK2.out, hlst]; exact named_three _ _ _ _
                have hLZ : Hid (∀ x ∈ lst, x.size < 1000000000) := by rw [hlst]; intro x hx; simp only [List.mem_append, List.mem_singleton] at hx; rcases hx with (hx | hx) | rfl; exact HZ.out.params.2 x hx; exact HZ.out.locals.2 x hx; exact HZ.out.entry
                have hLl : lst.length ≤ 4000000000 := by rw [← hN]; have := HZ.out.params.1; have := HZ.out.locals.1; omega
                have hpl : s.params.length < 1000000000 ∧ s.locals.length < 1000000000 := ⟨HZ.out.params.1, HZ.out.locals.1⟩
                have HWB : Hid (∀ k, (Value.slice a5 lst.length c_5).ownBlock = some k → k < wy.heap.size) := fun k hk => (HW5.lt k hk).2
                clear hJ hS hK HW5 hlst hN SX O4 hJd hSp hB4 hNX
                clear c0 c1 c2 c3 c4 c5 c6 c7 c8 c9 c10 c11 c12 c13 c14 c15 c16 c17 c18 c19 c20 c21 c22 c23
                simp only [setAll, List.foldl_cons, List.foldl_nil, List.setIfInBounds_toArray, List.set_cons_zero, List.set_cons_succ, e5, h11, h12]
                clear e5 h11 h12
                go_wp2_with fail
                go_loopw [137] (fun i wr => ∃ j : Nat, j ≤ lst.length ∧ i = .int .i64 j ∧ Hid (namedE lst = namedE (lst.drop j)) ∧ Kept Nix wy wr) (fun i _ => lst.length - (intOf i).toNat)
                case atStart => exact ⟨0, Nat.zero_le _, rfl, by unfold Hid; rw [List.drop_zero], Kept.refl _ _⟩
                case round =>
                  obtain ⟨j, hj, rfl, hno, hkw⟩ := hrel
                  have KX := Lib.hid hkw
                  have K6 := Lib.hid (K5.out.trans hkw)
                  by_cases hlt : j < lst.length
                  · rcases (HW.out.kept hkw (fun _ _ h => h)).cells with ⟨hv, h0⟩ | ⟨g, o, cap, hv, _, _, _, _, hc⟩
                    · omega
                    · simp only [Value.slice.injEq, true_and] at hv
                      obtain ⟨rfl, rfl⟩ := hv
                      obtain ⟨hcj, _⟩ := hc j (.string lst[j]) (by rw [List.getElem?_map, List.getElem?_eq_getElem hlt]; rfl)
                      have hsl : (lst[j]).size ≤ maxLen := by have := hLZ.out _ (List.getElem_mem hlt); unfold maxLen; omega
                      have hd := namedE_drop lst j hlt
                      clear hc hkw
                      cases hb : namedF lst[j] with
                      | true =>
                        rw [if_pos hb] at hd
                        have step := Lib.hid (hno.out.trans hd)
                        have HB := Lib.hid hb
                        clear hd hb
                        go_wp2_with (go_at_call 20; (with_reducible refine (refNamed_any _ _ hsl).mono ?_); rintro e w7 ⟨rfl, k_⟩; rw [HB.out]; have K7 := Lib.hid (KX.out.trans k_); clear k_)
                        go_roundw
                        case rel => exact ⟨j + 1, by omega, by go_num, step, K7.out⟩
                        case measure => simp [intOf]; omega
                      | false =>
                        rw [if_neg (by simp [hb])] at hd
                        have fin := Lib.hid (heq.out.trans (EK3.out.trans (by rw [hno.out.trans hd]; exact firstE_nz (by decide) : _ = (7 : Int))))
                        have HB := Lib.hid hb
                        clear hd hb
                        go_wp2_with (go_at_call 20; (with_reducible refine (refNamed_any _ _ hsl).mono ?_); rintro e w7 ⟨rfl, k_⟩; rw [HB.out]; have K7 := Lib.hid (K6.out.trans k_); clear k_)
                        go_ret
                        exact ⟨by rw [fin.out]; try rfl, HK2.out.trans K7.out⟩
                  · obtain rfl : j = lst.length := by omega
                    have EK4 : Hid (kindS s = if 8 < s.params.length ∨ 8 < s.locals.length then 5 else 0) := by unfold Hid; rw [EK3.out, hno.out, List.drop_length]; exact (firstE_z rfl).trans (firstE_one _)
                    obtain ⟨c0, c1, c2, c3, c4, c5, c6, c7, c8, c9, c10, c11, c12, c13, c14, c15, c16, c17, c18, c19, c20, c21, c22, c23⟩ := (HB2.out.kept K6.out (fun h => h)).cells
                    clear hkw
                    by_cases hp : 8 < s.params.length
                    · have fin := Lib.hid (heq.out.trans (EK4.out.trans (if_pos (.inl hp))))
                      have x1 : decide ((8 : Int) < (s.params.length : Int)) = true := decide_eq_true (by omega)
                      clear hp
                      go_wp2_with fail
                      go_ret
                      exact ⟨by rw [fin.out]; try rfl, HK2.out.trans K6.out⟩
                    have x1 : decide ((8 : Int) < (s.params.length : Int)) = false := decide_eq_false (by omega)
                    by_cases hq : 8 < s.locals.length
                    · have fin := Lib.hid (heq.out.trans (EK4.out.trans (if_pos (.inr hq))))
                      have x2 : decide ((8 : Int) < (s.locals.length : Int)) = true := decide_eq_true (by omega)
                      clear hp hq
                      go_wp2_with fail
                      go_ret
                      exact ⟨by rw [fin.out]; try rfl, HK2.out.trans K6.out⟩
                    · have fin := Lib.hid (heq.out.trans (EK4.out.trans (if_neg (by omega))))
                      have x2 : decide ((8 : Int) < (s.locals.length : Int)) = false := decide_eq_false (by omega)
                      clear hp hq
                      go_wp2_with fail
                      go_ret
                      exact ⟨by rw [fin.out]; try rfl, HK2.out.trans K6.out⟩
          have n7 := hkd; clear hkd
          have fin : Hid (kindS s = 1) := by unfold Hid kindS; rw [if_neg n1, if_neg n2, if_neg n4, if_neg n3, if_neg n5, if_neg n6, if_neg n7]
          rcases (show s.kind < 1 ∨ (¬ s.kind < 1 ∧ 7 < s.kind) by omega) with hq | ⟨hp, hq⟩
          · have y1 : decide (s.kind < 1) = true := decide_eq_true hq
            clear n1 n2 n4 n3 n5 n6 n7
            go_wp2_with fail
            go_ret
            exact ⟨by rw [heq.out, fin.out]; try rfl, HK2.out.trans KW.out⟩
          · have y1 : decide (s.kind < 1) = false := decide_eq_false hp
            have y2 : decide (7 < s.kind) = true := decide_eq_true hq
            clear n1 n2 n4 n3 n5 n6 n7
            go_wp2_with fail
            go_ret
            exact ⟨by rw [heq.out, fin.out]; try rfl, HK2.out.trans KW.out⟩
end Go.Proofs.YtcfcdobgpldoiaaGreatDoor
