/- pats.Print: the text of a right pattern. -/
import Derived.Test.YtcfcdobgpldoiaaGreatDoorSpell8
import Derived.Test.YtcfcdobgpldoiaaGreatDoorSm3
import Derived.Test.YtcfcdobgpldoiaaGreatDoorSm12
namespace Go.Proofs.YtcfcdobgpldoiaaGreatDoor
set_option linter.all false
open Go.RowKit

set_option maxRecDepth 100000 in
theorem words_new (w : World) : Calls Tryz.prog 42 #[] w fun e w' => e = .returned (.slice (some ⟨w.heap.size, 0, none⟩) 21 21) ∧ w' = w.alloc (.cells (wordsL.map Value.string).toArray 9) := by
  go_enter Tryz.func42, Tryz.ntmps42
  go_wp2
  go_ret
  exact ⟨rfl, rfl⟩
set_option maxRecDepth 100000 in
set_option maxHeartbeats 4000000 in
theorem print_any (p : PatT) (v : Value) (w : World) (hp : PatV w (· < w.heap.size) v p) (hsz : sizeT p ≤ 100000000) (hg : Glob w) (hgl : 0 < w.heap.size ∧ 1 < w.heap.size) :
    Calls Tryz.prog 23 #[v] w (PrintQ p w) := by
  obtain ⟨c, rfl, hb⟩ := hp.box 30 (fun b hb => hb)
  obtain ⟨ka, cap, hv, hz, hk⟩ := hp
  simp only [Value.agg.injEq] at hv
  subst hv
  have kA : Kept Nix w (w.alloc (.cells #[.int .i64 p.kind, .string p.text, .int .i64 p.n, .string p.name, .slice ka p.kids.length cap] 30)) := (Kept.refl _ _).alloc _
  obtain ⟨w1, hw1⟩ : ∃ w1, w1 = (w.alloc (.cells #[.int .i64 p.kind, .string p.text, .int .i64 p.n, .string p.name, .slice ka p.kids.length cap] 30)) := ⟨_, rfl⟩
  rw [← hw1] at hb kA
  have hs1 : w1.heap.size = w.heap.size + 1 := by rw [hw1]; simp
  have hb' : PatAt w1 (· < w1.heap.size) w.heap.size 0 p := PatAt.same (fun _ _ => rfl) (fun b hb => by rcases hb with hb | rfl <;> omega) _ _ _ hb
  have PV : Hid (PatV w1 (· < w1.heap.size) (.agg #[.int .i64 p.kind, .string p.text, .int .i64 p.n, .string p.name, .slice ka p.kids.length cap]) p) := ⟨ka, cap, rfl, hz, hk.to kA (fun b hb => ⟨hb, fun h => h⟩) (fun b hb => by omega)⟩
  have HB := Lib.hid hb'; have KA := Lib.hid kA; have HG := Lib.hid hg; have HW1 := Lib.hid hw1
  obtain ⟨_, _, p0, p1, p2, p3, ka', cap', p4, _⟩ := hb'.open
  have e4 : w1.cell? ⟨w.heap.size, 0 + 4, none⟩ = some (.slice ka p.kids.length cap) := by rw [hw1]; rw [cell_of_row _ _ _ _ _ _ (heap_alloc_new w _)]; rfl
  clear p4 hb hb' kA hk hz hg hw1
  go_enter Tryz.func23, Tryz.ntmps23
  go_upto_region 1 with fail
  rw [← HW1.out]
  go_wp2_with fail
  refine (Wrong_any p _ w1 PV.out hsz).mono ?_
  rintro e w2 ⟨rfl, K2⟩
  have hs2 := K2.size
  have KK2 := Lib.hid (KA.out.trans K2)
  by_cases hw : wrongF p = 0
  · have hb : (wrongF p != 0) = false := by rw [hw]; rfl
    obtain ⟨hok, hsz4⟩ := wrong_ok hw
    have hlen := show_len p 2 hok
    have hB2 := HB.out.kept K2 (fun b hb => ⟨hb, fun h => h⟩)
    obtain ⟨w4, hw4⟩ : ∃ w4, w4 = (w2.alloc (.cells #[.pointer none, .slice none 0 0] 61)).alloc (.cells (wordsL.map Value.string).toArray 9) := ⟨_, rfl⟩
    have k24 : Kept Nix w2 w4 := by rw [hw4]; exact ((Kept.refl Nix w2).alloc _).alloc _
    have hs4 : w4.heap.size = w2.heap.size + 2 := by rw [hw4]; simp
    have SP : Hid (SpI w2.heap.size w2.heap.size (w2.heap.size + 1) (· < w1.heap.size) w.heap.size 0 p [] w4) := by
      refine ⟨.inl ⟨Nat.le_refl _, .slice none 0 0, ?_, ⟨rfl, .inl ⟨rfl, rfl⟩⟩, by simp [Value.ownBlock]⟩, ?_, HG.out.below (KK2.out.trans k24).below hgl, by omega, hB2.kept k24 (fun b hb => ⟨Nat.lt_of_lt_of_le hb hs2, fun h => h⟩), fun y hy => Nat.lt_of_lt_of_le hy hs2, Nat.le_refl _, by omega, by omega⟩
      · rw [hw4, Below.heap_alloc _ _ _ (by simp)]; exact heap_alloc_new w2 _
      · rw [hw4]; exact heap_new2 (by simp)
    have HW4 := Lib.hid hw4; have HK4 := Lib.hid (KK2.out.trans k24)
    have hw0 := hw
    clear hB2 k24 hw4 K2 hok p0 p1 p2 p3 e4 PV
    go_wp2_with fail
    refine (words_new _).mono ?_
    rintro e w' ⟨rfl, rfl⟩
    have en : (w2.alloc (.cells #[.pointer none, .slice none 0 0] 61)).heap.size = w2.heap.size + 1 := by simp
    rw [← HW4.out]
    simp only [en]
    go_wp2_with fail
    refine (spell_all _ _ _ _ 4096 p w.heap.size 0 2 [] w4 hsz4 (wrong_ok hw0).1 SP.out (by omega) (by unfold big; simp only [List.length_nil]; omega)).mono ?_
    rintro e w5 ⟨rfl, B5, K5⟩
    rw [List.nil_append] at B5
    have hs5 := Kept.size K5
    have K05 : Hid (Kept Nix w w5) := HK4.out.step K5 (fun y hy => .inr (by rcases hy with rfl | ⟨h, _⟩ <;> omega))
    have H5 := Lib.hid B5
    clear B5 K5
    go_wp2_with fail
    refine (Tryz.Builder_Len_f w2.heap.size w2.heap.size _ w5 H5.out).mono ?_
    rintro e w' ⟨rfl, rfl⟩
    rw [Lib.byteCells_length]
    by_cases hl : 65536 < (showF p 2).length
    · have hl1 : decide ((65536 : Int) < ((showF p 2).length : Int)) = true := decide_eq_true (by omega)
      have hr : printF p = ([], 4) := by unfold printF; rw [if_neg (by simp [hw0]), if_pos hl]
      have HR := Lib.hid hr
      clear hr hlen
      go_wp2_with fail
      exact bodyPost_ret (v := .tuple #[.string ⟨#[]⟩, .int .i64 4]) (by simp [results, Tryz.results23, go_sem]) rfl ⟨by rw [HR.out], K05.out⟩
    · have hl1 : decide ((65536 : Int) < ((showF p 2).length : Int)) = false := decide_eq_false (by omega)
      have hr : printF p = (showF p 2, 0) := by unfold printF; rw [if_neg (by simp [hw0]), if_neg hl]
      have HR := Lib.hid hr
      clear hr hlen
      go_wp2_with fail
      refine (Tryz.Builder_String_any_f w2.heap.size w2.heap.size (showF p 2) w' H5.out (by omega)).mono ?_
      rintro e w6 ⟨rfl, _, hb6⟩
      have K06 : Hid (Kept Nix w w6) := K05.out.step (Y := fun y => w2.heap.size ≤ y) ⟨hb6.os, hb6.tape, hb6.output, hb6.size, fun k hk hy => hb6.block k (by omega)⟩ (fun y hy => .inr (by omega))
      clear hb6
      go_wp2_with fail
      exact bodyPost_ret (v := .tuple #[.string ⟨(showF p 2).toArray⟩, .int .i64 0]) (by simp [results, Tryz.results23, go_sem]) rfl ⟨by rw [HR.out], K06.out⟩
  · have hb : (wrongF p != 0) = true := by simpa using hw
    have hr : printF p = ([], wrongF p) := by unfold printF; rw [if_pos hw]
    have HR := Lib.hid hr
    clear hr K2
    go_wp2_with fail
    exact bodyPost_ret (v := .tuple #[.string ⟨#[]⟩, .int .i64 (wrongF p)]) (by simp [results, Tryz.results23, go_sem]) rfl ⟨by rw [HR.out], KK2.out⟩
end Go.Proofs.YtcfcdobgpldoiaaGreatDoor
