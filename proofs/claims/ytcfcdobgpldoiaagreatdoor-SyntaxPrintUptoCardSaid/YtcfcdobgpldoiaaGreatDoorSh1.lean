/- syntax.Show. -/
import Derived.Test.YtcfcdobgpldoiaaGreatDoorSm11
import Derived.Test.YtcfcdobgpldoiaaGreatDoorPr3
import Derived.Test.YtcfcdobgpldoiaaGreatDoorLd
import Derived.Test.YtcfcdobgpldoiaaGreatDoorBld
namespace Go.Proofs.YtcfcdobgpldoiaaGreatDoor
set_option linter.all false
open Go.RowKit

structure SwI (F B : Nat) (l : List StT) (w2 : World) (j : Nat) (d : List UInt8) (wr : World) : Prop where
  eq : showAt (l.drop j) j d = progS l
  len : d.length ≤ 2001 * j
  bld : Bld B B d wr
  keep : Kept (fun b => B ≤ b) w2 wr
set_option maxRecDepth 100000 in
set_option maxHeartbeats 8000000 in
theorem sshow_any (l : List StT) (al : Option Addr) (cl : Nat) (w : World) (hl : StsX w (· < w.heap.size) al l) (hlen : l.length ≤ 1048576) (hg : GlobW w) :
    Calls Tryz.prog 10 #[.slice al l.length cl] w (ShowPQ l w) := by
  obtain ⟨w1, hw1⟩ : ∃ w1, w1 = w.alloc (.cells #[.int .i64 0, .int .i64 0] 38) := ⟨_, rfl⟩
  have k1 : Kept Nix w w1 := by rw [hw1]; exact (Kept.refl Nix w).alloc _
  have F1 : Hid (Fl w.heap.size 0 0 w1) := by rw [hw1]; exact heap_alloc_new w _
  have HZ1 : Hid (w1.heap.size = w.heap.size + 1) := by unfold Hid; rw [hw1]; simp
  have HW1 := Lib.hid hw1; have K1 := Lib.hid k1; have HL := Lib.hid hl; have HG := Lib.hid hg
  clear hw1 k1 hl hg
  obtain ⟨F, hF⟩ : ∃ F, F = w.heap.size := ⟨_, rfl⟩
  rw [← hF] at F1
  have HF := Lib.hid hF
  clear hF
  by_cases hc : 1000 < l.length
  · have fin : Hid (progS l = ([], 5, 0)) := by unfold Hid progS; rw [if_pos hc]
    have d1 : decide ((1000 : Int) < (l.length : Int)) = true := decide_eq_true (by omega)
    have d2 : decide (1000 < l.length) = true := decide_eq_true hc
    clear hc
    go_enter Tryz.func10, Tryz.ntmps10
    go_upto_region 1 with fail
    rw [← HW1.out, ← HF.out]
    obtain ⟨f0, f1, f2, f3⟩ := F1.out.cells
    go_wp2_with fail
    exact ret_show rfl rfl rfl (F1.out.set _ _) ⟨by rw [fin.out] <;> rfl, K1.out.step (((Kept.refl (· = F) _).setCell (p := ⟨F, 0, none⟩) (.inl rfl) _).setCell (p := ⟨F, 1, none⟩) (.inl rfl) _) (fun y hy => .inr (by subst hy; exact Nat.le_of_eq HF.out.symm))⟩
  have HP0 : Hid (showAt (l.drop 0) 0 [] = progS l) := by unfold Hid progS; rw [if_neg hc, List.drop_zero]
  have d1 : decide ((1000 : Int) < (l.length : Int)) = false := decide_eq_false (by omega)
  have d2 : decide (1000 < l.length) = false := decide_eq_false hc
  have HC : Hid (l.length ≤ 1000) := Nat.not_lt.1 hc
  obtain ⟨B, hB⟩ : ∃ B, B = w1.heap.size := ⟨_, rfl⟩
  obtain ⟨w2, hw2⟩ : ∃ w2, w2 = w1.alloc (.cells #[.pointer none, .slice none 0 0] 61) := ⟨_, rfl⟩
  have B2 : Hid (Bld B B [] w2) := by
    refine .inl ⟨Nat.le_refl _, .slice none 0 0, ?_, ⟨rfl, .inl ⟨rfl, rfl⟩⟩, by simp [Value.ownBlock]⟩
    rw [hw2, hB]; exact heap_alloc_new w1 _
  have k2 : Kept Nix w1 w2 := by rw [hw2]; exact (Kept.refl Nix w1).alloc _
  have F2 := Lib.hid (F1.out.kept k2 (fun h => h)); have K2 := Lib.hid (K1.out.trans k2)
  have HFB : Hid (F < B) := by rw [hB]; unfold Hid; have := HZ1.out; have := HF.out; omega
  have HB2 : Hid (B < w2.heap.size) := by rw [hB, hw2]; unfold Hid; simp
  have HB := Lib.hid hB; have HW2 := Lib.hid hw2
  clear hc hB hw2 k2 F1
  go_enter Tryz.func10, Tryz.ntmps10
  go_upto_region 1 with fail
  rw [← HW1.out, ← HF.out]
  go_upto_region 4 with fail
  rw [← HW2.out, ← HB.out]
  clear HW1 HW2 HB d1 d2
  go_upto_region 5 with fail
  go_loopw [15] (fun i wr => ∃ (j : Nat) (d : List UInt8), j ≤ l.length ∧ i = .int .i64 j ∧ Hid (SwI F B l w2 j d wr)) (fun i _ => l.length - (intOf i).toNat)
  case atStart => exact ⟨0, [], Nat.zero_le _, rfl, ⟨HP0.out, Nat.zero_le _, B2.out, Kept.refl _ _⟩⟩
  case round =>
    obtain ⟨j, d, hj, rfl, I0⟩ := hrel
    have KR : Hid (Kept Nix w wr) := K2.out.step I0.out.keep (fun y hy => .inr (by have : B ≤ y := hy; have := HFB.out; have := HF.out; omega))
    have FR := Lib.hid (F2.out.kept I0.out.keep (by have := HFB.out; omega))
    have HDL : Hid (d.length ≤ 2001000) := by have := I0.out.len; have := HC.out; unfold Hid; omega
    by_cases hlt : j < l.length
    · obtain ⟨b, o, rfl, hcl⟩ := (HL.out.to KR.out (Safe.lt (Nat.le_refl _)) (fun _ h => h)) (by omega)
      obtain ⟨a, hx, hSb, hz, hcc, ho⟩ := hcl j hlt
      have hbad := showAt_bad l j d hlt
      have hok := showAt_ok l j d hlt
      have hpl := printS_len l[j]
      obtain ⟨s, hsd⟩ : ∃ s, s = l[j] := ⟨_, rfl⟩
      rw [← hsd] at hx hz hcc ho hbad hok hpl
      have HX := Lib.hid hx; have HZ := Lib.hid hz; have HO := Lib.hid ho; have HBAD := Lib.hid hbad; have HOK := Lib.hid hok
      have hBs : Hid (B < wr.heap.size) := by have := I0.out.keep.size; have := HB2.out; unfold Hid; omega
      clear hcl hx hz ho hsd hSb hbad hok
      go_upto_region 7 with (first
        | (refine wpList_load_st rfl _ rfl b (o + j * 24) rfl a s hcc ?_)
        | (refine wpList_store_st rfl _ _ rfl wr.heap.size rfl a s rfl _ (heap_alloc_new wr _) rfl ?_; intro w6 hB6 hk6; have KA6 : Hid (Kept Nix wr w6) := ((Kept.refl Nix wr).alloc _).step hk6 (fun y hy => .inr (by subst hy; exact Nat.le_refl _)); have HB6 := Lib.hid hB6; clear hB6 hk6))
      obtain ⟨M, hM⟩ : ∃ M, M = wr.heap.size := ⟨_, rfl⟩
      rw [← hM] at HB6 ⊢
      have HBM : Hid (B < M) := by rw [hM]; exact hBs.out
      have HHC := Lib.hid (stB_hc HB6.out)
      have HSP := Lib.hid (sprint_st s a w6 HZ.out (HO.out.to KA6.out (Safe.lt KR.out.size) (fun x h => Nat.lt_of_lt_of_le h (KR.out.trans KA6.out).size)) HX.out (HG.out.next (KR.out.trans KA6.out)))
      clear hM hcc HO HX
      obtain ⟨pt, hpt⟩ : ∃ pt, pt = (printS s).1 := ⟨_, rfl⟩
      obtain ⟨pe, hpe⟩ : ∃ pe, pe = (printS s).2 := ⟨_, rfl⟩
      rw [← hpt, ← hpe] at HOK
      rw [← hpe] at HBAD
      rw [← hpt] at hpl
      have HPT := Lib.hid hpt; have HPE := Lib.hid hpe
      clear hpt hpe
      go_upto_region 8 with (first
        | (refine wpList_load_st rfl _ rfl M 0 rfl a s HHC.out ?_)
        | (go_at_call 8; (refine HSP.out.mono ?_); rintro e w7 ⟨rfl, k7_⟩; rw [← HPT.out, ← HPE.out]; have K67 := Lib.hid (KA6.out.trans k7_); clear k7_))
      have FR7 := Lib.hid (FR.out.kept K67.out (fun h => h))
      have BL7 : Hid (Bld B B d w7) := Bld.kept I0.out.bld K67.out
      have K7 := Lib.hid (KR.out.trans K67.out)
      clear FR HSP HHC HB6
      by_cases hpe0 : pe = 0
      · have z : (pe != 0) = false := by simp [hpe0]
        have step := Lib.hid (HOK.out hpe0)
        have es : Hid (((⟨pt.toArray⟩ : ByteArray) ++ (⟨#[10]⟩ : ByteArray)).data.toList = pt ++ [10]) := by unfold Hid; simp [ByteArray.data_append]
        have esz : ((⟨pt.toArray⟩ : ByteArray) ++ (⟨#[10]⟩ : ByteArray)).size = pt.length + 1 := by
          have e : ((⟨pt.toArray⟩ : ByteArray) ++ (⟨#[10]⟩ : ByteArray)).data.toList.length = ((⟨pt.toArray⟩ : ByteArray) ++ (⟨#[10]⟩ : ByteArray)).size := rfl
          rw [← e, es.out]; simp
        have hWS := Lib.hid (writeString_any B B d ((⟨pt.toArray⟩ : ByteArray) ++ (⟨#[10]⟩ : ByteArray)) w7 BL7.out (by have := HDL.out; rw [esz]; omega) (by have := HBM.out; have := K67.out.size; have := hBs.out; omega))
        clear esz
        clear hpe0
        go_wp2_with (go_at_call 30; (refine hWS.out.mono ?_); rintro e w8 ⟨rfl, b8_, k8_⟩; rw [es.out] at b8_; have BL8 := Lib.hid b8_; have K8 := Lib.hid k8_; clear b8_ k8_)
        go_roundw
        case rel =>
          refine ⟨j + 1, d ++ (pt ++ [10]), by omega, by go_num, ⟨by rw [← step.out]; exact I0.out.eq, ?_, BL8.out, ?_⟩⟩
          · have := I0.out.len; simp only [List.length_append, List.length_cons, List.length_nil]; omega
          · exact (I0.out.keep.trans (K67.out.more (fun _ h => h.elim))).step K8.out (fun y hy => by rcases hy with rfl | ⟨h, _⟩ <;> first | exact .inl (Nat.le_refl _) | exact .inl h)
        case measure => simp [intOf]; omega
      · have z : (pe != 0) = true := by simpa using hpe0
        have fin : Hid (progS l = ([], pe, j)) := by unfold Hid; rw [← I0.out.eq, HBAD.out hpe0]
        obtain ⟨f0, f1, f2, f3⟩ := FR7.out.cells
        clear hpe0
        go_wp2_with fail
        exact ret_show rfl rfl rfl (FR7.out.set _ _) ⟨by rw [fin.out] <;> rfl, K7.out.step (((Kept.refl (· = F) _).setCell (p := ⟨F, 0, none⟩) (.inl rfl) _).setCell (p := ⟨F, 1, none⟩) (.inl rfl) _) (fun y hy => .inr (by subst hy; exact Nat.le_of_eq HF.out.symm))⟩
    · obtain rfl : j = l.length := by omega
      have fin0 : Hid (progS l = if 65536 < d.length then ([], 4, 0) else (d, 0, 0)) := by unfold Hid; rw [← I0.out.eq]; exact showAt_end l d
      obtain ⟨f0, f1, f2, f3⟩ := FR.out.cells
      have HLEN := Lib.hid (Tryz.Builder_Len_f B B _ wr I0.out.bld)
      by_cases hbig : 65536 < d.length
      · have x1 : decide ((65536 : Int) < (d.length : Int)) = true := decide_eq_true (by omega)
        have x2 : decide (65536 < d.length) = true := decide_eq_true hbig
        have fin : Hid (progS l = ([], 4, 0)) := by unfold Hid; rw [fin0.out, if_pos hbig]
        clear hbig
        go_wp2_with (go_at_call 31; (refine HLEN.out.mono ?_); rintro e w' ⟨rfl, hw_⟩; obtain rfl := hw_.symm; rw [Lib.byteCells_length])
        exact ret_show rfl rfl rfl (FR.out.set _ _) ⟨by rw [fin.out] <;> rfl, KR.out.step (((Kept.refl (· = F) _).setCell (p := ⟨F, 0, none⟩) (.inl rfl) _).setCell (p := ⟨F, 1, none⟩) (.inl rfl) _) (fun y hy => .inr (by subst hy; exact Nat.le_of_eq HF.out.symm))⟩
      · have x1 : decide ((65536 : Int) < (d.length : Int)) = false := decide_eq_false (by omega)
        have x2 : decide (65536 < d.length) = false := decide_eq_false hbig
        have fin : Hid (progS l = (d, 0, 0)) := by unfold Hid; rw [fin0.out, if_neg hbig]
        have HSTR := Lib.hid (Tryz.Builder_String_any_f B B d wr I0.out.bld (by have := I0.out.keep.size; have := HB2.out; omega))
        clear hbig f0 f1 f2 f3
        go_upto_region 14 with (go_at_call 31; (refine HLEN.out.mono ?_); rintro e w' ⟨rfl, hw_⟩; obtain rfl := hw_.symm; rw [Lib.byteCells_length])
        have KH : Hid (∀ wx, Below B wr wx → Fl F 0 0 wx ∧ Kept Nix w wx) := by
          intro wx hb
          have kx : Kept (fun y => B ≤ y) wr wx := ⟨hb.os, hb.tape, hb.output, hb.size, fun k hk hy => hb.block k (by have : ¬ B ≤ k := hy; omega)⟩
          exact ⟨FR.out.kept kx (by have := HFB.out; omega), KR.out.step kx (fun y hy => .inr (by have : B ≤ y := hy; have := HFB.out; have := HF.out; omega))⟩
        go_wp2_with (go_at_call 32; (refine HSTR.out.mono ?_); rintro e w9 ⟨rfl, _, hb9⟩; have F9 := Lib.hid (KH.out _ hb9).1; have K9 := Lib.hid (KH.out _ hb9).2; obtain ⟨f0, f1, f2, f3⟩ := F9.out.cells; clear hb9)
        exact ret_show rfl rfl rfl (F9.out.set _ _) ⟨by rw [fin.out] <;> rfl, K9.out.step (((Kept.refl (· = F) _).setCell (p := ⟨F, 0, none⟩) (.inl rfl) _).setCell (p := ⟨F, 1, none⟩) (.inl rfl) _) (fun y hy => .inr (by subst hy; exact Nat.le_of_eq HF.out.symm))⟩
end Go.Proofs.YtcfcdobgpldoiaaGreatDoor
