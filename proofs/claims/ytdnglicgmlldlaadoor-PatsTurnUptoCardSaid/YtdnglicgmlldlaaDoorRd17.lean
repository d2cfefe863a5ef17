/- Read of the program. -/
import Derived.Test.YtdnglicgmlldlaaDoorRd16
namespace Go.Proofs.YtdnglicgmlldlaaDoor
open Go.RowKit

def zeroV : Value := .agg #[.int .i64 0, .string ⟨#[]⟩, .int .i64 0, .string ⟨#[]⟩, .slice none 0 0]
def faultV (er : Er) : Value := .agg #[.int .i64 er.1, .int .i64 er.2]
def ReadPost (s : ByteArray) (w : World) (e : Ending) (w' : World) : Prop :=
  Kept Nix w w' ∧ match readP s with
    | .ok p => ∃ v, e = .returned (.tuple #[v, faultV (0, 0)]) ∧ patVal w.heap.size p w' v
    | .error er => e = .returned (.tuple #[zeroV, faultV er])
theorem results_read {tmps : Array Value} {A1 A2 : Nat} (h2 : tmps.getD 2 undef = .pointer (some ⟨A1, 0, none⟩)) (h3 : tmps.getD 3 undef = .pointer (some ⟨A2, 0, none⟩)) {c0 c1 c2 c3 c4 d0 d1 : Value} {w : World} (h : Five A1 c0 c1 c2 c3 c4 w) (k : Two A2 d0 d1 w) :
    (results Tryd.f8 tmps).run Tryd.prog w = .ok (.tuple #[.agg #[c0, c1, c2, c3, c4], .agg #[d0, d1]]) w := by
  obtain ⟨x0, x1, x2, x3, x4, _⟩ := h.cells
  obtain ⟨y0, y1, _⟩ := k.cells
  have ht2 : tmps[2]?.getD undef = .pointer (some ⟨A1, 0, none⟩) := by rw [← h2, Array.getD_eq_getD_getElem?]
  have ht3 : tmps[3]?.getD undef = .pointer (some ⟨A2, 0, none⟩) := by rw [← h3, Array.getD_eq_getD_getElem?]
  simp [results, Tryd.results8, go_sem, ht2, ht3, x0, x1, x2, x3, x4, y0, y1]
theorem read_err {s : ByteArray} {er : Er} {w w' : World} (hr : readP s = .error er) (K : Kept Nix w w') : ReadPost s w (.returned (.tuple #[zeroV, faultV er])) w' := by
  unfold ReadPost; rw [hr]; exact ⟨K, rfl⟩
/-- A throw goes through the door, and is caught. -/
theorem door_panic {s : ByteArray} {w w1 : World} {tmps : Array Value} {A1 A2 : Nat} {er : Er} {z0 z1 z2 z3 z4 y0 y1 : Value} (h2 : tmps.getD 2 undef = .pointer (some ⟨A1, 0, none⟩)) (h3 : tmps.getD 3 undef = .pointer (some ⟨A2, 0, none⟩))
    (hne : A1 ≠ A2) (hF : Five A1 z0 z1 z2 z3 z4 w1) (hT : Two A2 y0 y1 w1) (hA : w.heap.size ≤ A1 ∧ w.heap.size ≤ A2) (hr : readP s = .error er) (K : Kept Nix w w1) :
    bodyPostD Tryd.prog Tryd.f8 (ReadPost s w) (.panic [{ v := oopsV er, recovered := false }]) ⟨tmps, [{ target := .fn (.func 18) #[.pointer (some ⟨A1, 0, none⟩), .pointer (some ⟨A2, 0, none⟩)], args := #[] }]⟩ w1 := by
  refine leaves_cons (f := 18) (args := #[.pointer (some ⟨A1, 0, none⟩), .pointer (some ⟨A2, 0, none⟩)]) (by simp) (by simp [go_sem]) ?_
  refine (catch_oops A1 A2 hne er w1 _ _ _ _ _ _ _ hF hT).mono ?_
  rintro e u' w2 ⟨rfl, rfl, F, T, k⟩
  show Leaves _ _ _ _ [] (settle (.panicking [{ v := oopsV er, recovered := true }])) w2
  exact ⟨_, results_read h2 h3 F T, read_err hr (K.step k (fun y hy => .inr (by omega)))⟩
/-- A return goes through the door. -/
theorem door_ret {R : Ending → World → Prop} {w1 : World} {tmps : Array Value} {A1 A2 : Nat} {c0 c1 c2 c3 c4 d0 d1 : Value} (h2 : tmps.getD 2 undef = .pointer (some ⟨A1, 0, none⟩)) (h3 : tmps.getD 3 undef = .pointer (some ⟨A2, 0, none⟩))
    (hF : Five A1 c0 c1 c2 c3 c4 w1) (hT : Two A2 d0 d1 w1) (hR : R (.returned (.tuple #[.agg #[c0, c1, c2, c3, c4], .agg #[d0, d1]])) w1) :
    bodyPostD Tryd.prog Tryd.f8 R .ret ⟨tmps, [{ target := .fn (.func 18) #[.pointer (some ⟨A1, 0, none⟩), .pointer (some ⟨A2, 0, none⟩)], args := #[] }]⟩ w1 := by
  refine leaves_cons (f := 18) (args := #[.pointer (some ⟨A1, 0, none⟩), .pointer (some ⟨A2, 0, none⟩)]) (by simp) (by simp [go_sem]) ?_
  refine (catch_idle _ _ w1).mono ?_
  rintro e u' w2 ⟨rfl, rfl, rfl⟩
  exact ⟨_, results_read h2 h3 hF hT, hR⟩

set_option maxRecDepth 100000 in
set_option maxHeartbeats 4000000 in
theorem read_any (s : ByteArray) (w : World) (hs : s.size ≤ maxLen) : Calls Tryd.prog 8 #[.string s] w (ReadPost s w) := by
  unfold maxLen at hs
  have hmf : ∀ (fn : Fn) (first cap : Array Value) (w : World), (Instr.makeFunc fn first cap).run Tryd.prog w = .ok (.func fn first cap) w := fun _ _ _ _ => rfl
  by_cases hl : 65536 < s.size
  · have hr : Hid (readP s = .error (4, 0)) := by unfold Hid readP; rw [if_pos hl]
    go_enter_defers Tryd.func8, Tryd.ntmps8
    go_wp2_with fail
    refine ⟨.tuple #[zeroV, faultV (4, 0)], by simp [results, Tryd.results8, go_sem, zeroV, faultV], read_err hr.out (by repeat (first | exact Kept.refl _ _ | refine Kept.alloc ?_ _))⟩
  · have hs6 : s.size ≤ 65536 := by omega
    obtain ⟨w4, hw4⟩ : ∃ w4, w4 = (((w.alloc (.cells #[.int .i64 0, .string ⟨#[]⟩, .int .i64 0, .string ⟨#[]⟩, .slice none 0 0] 24)).alloc (.cells #[.int .i64 0, .int .i64 0] 31)).alloc (.cells (wordsL.map Value.string).toArray 9)).alloc (.cells #[.string s, .int .i64 0, .slice (some ⟨w.heap.size + 1 + 1, 0, none⟩) 21 21, .int .i64 0] 53) := ⟨_, rfl⟩
    have R4 : Hid (Rdr (w.heap.size + 1 + 1 + 1) (w.heap.size + 1 + 1) s 0 0 w4) := by rw [hw4]; exact ⟨heap_new2 (by simp), by omega, WordsAt.kept (heap_new2 (by simp)) ((Kept.refl Nix _).alloc _) (fun h => h)⟩
    have F4 : Hid (Zero5 w.heap.size w4) := by rw [hw4]; exact Five.kept (heap_alloc_new w _) ((((Kept.refl Nix _).alloc _).alloc _).alloc _) (fun h => h)
    have T4 : Hid (Two (w.heap.size + 1) (.int .i64 0) (.int .i64 0) w4) := by rw [hw4]; exact Two.kept (heap_new2 (by simp)) (((Kept.refl Nix _).alloc _).alloc _) (fun h => h)
    have K4 : Hid (Kept Nix w w4) := by rw [hw4]; exact ((((Kept.refl Nix w).alloc _).alloc _).alloc _).alloc _
    have hz4 : w4.heap.size = w.heap.size + 4 := by rw [hw4]; simp
    have HZ4 := Lib.hid hz4; clear hz4
    go_enter_defers Tryd.func8, Tryd.ntmps8
    go_wp2_with fail
    refine (words_any _).mono ?_
    rintro e w' ⟨rfl, rfl⟩
    go_wp2_with fail
    rw [← hw4]; clear hw4
    refine (alt_all _ _ s hs6 0 w4 R4.out (Nat.zero_le _)).mono ?_
    rintro e w5 ⟨k_, h⟩
    have hz4 := HZ4.out
    have F5 := Lib.hid (Five.kept F4.out k_ (by omega)); have T5 := Lib.hid (T4.out.kept k_ (by omega))
    have K5 : Hid (Kept Nix w w5) := K4.out.step k_ (fun y hy => .inr (by omega))
    have hsz5 := k_.size
    clear k_ F4 T4 K4
    cases ha : altP (innerP s 200) s 0 with
    | error er =>
      rw [ha] at h
      obtain rfl := h
      have hr : Hid (readP s = .error er) := by unfold Hid readP; rw [if_neg hl, ha]
      clear ha hl
      go_wp2_with fail
      exact door_panic rfl rfl (by omega) F5.out T5.out (by omega) hr.out K5.out
    | ok y =>
      obtain ⟨p, k⟩ := y
      rw [ha] at h
      obtain ⟨_, rfl, ⟨S, hS, ⟨ka, cap, rfl, hz, hk⟩⟩, R5⟩ := h
      obtain ⟨hsp, hks⟩ := read_sz hs6 ha
      have K51 : Kept (· = w.heap.size) w5 (set5 w5 w.heap.size (.int .i64 p.kind) (.string p.text) (.int .i64 p.n) (.string p.name) (.slice ka p.kids.length cap)) := (Kept.refl (· = w.heap.size) w5).set5 (.inl rfl) _ _ _ _ _
      have R6 := Lib.hid (R5.kept K51 (by omega) (by omega))
      have F6 := Lib.hid (Five.set5 F5.out (.int .i64 p.kind) (.string p.text) (.int .i64 p.n) (.string p.name) (.slice ka p.kids.length cap))
      have T6 := Lib.hid (T5.out.kept K51 (by omega))
      have K6 : Hid (Kept Nix w (set5 w5 w.heap.size (.int .i64 p.kind) (.string p.text) (.int .i64 p.n) (.string p.name) (.slice ka p.kids.length cap))) := K5.out.step K51 (fun y hy => .inr (by omega))
      have HK6 := Lib.hid (hk.kept K51 (fun b hb => ⟨(hS b hb).2, by have := (hS b hb).1; omega⟩))
      have hz6 : (set5 w5 w.heap.size (.int .i64 p.kind) (.string p.text) (.int .i64 p.n) (.string p.name) (.slice ka p.kids.length cap)).heap.size = w5.heap.size := set5_size _ _ _ _ _ _ _
      have HZ6 := Lib.hid hz6
      have HS := Lib.hid hS; have HZ := Lib.hid hz
      obtain ⟨c0, c1, c2, c3, c4, cf⟩ := Five.cells F5.out
      have f0 := cf 0; have f1 := cf 1; have f2 := cf 2; have f3 := cf 3; have f4 := cf 4; clear cf
      have HA := Lib.hid ha
      obtain ⟨w6, hw6⟩ : ∃ w6, w6 = set5 w5 w.heap.size (.int .i64 p.kind) (.string p.text) (.int .i64 p.n) (.string p.name) (.slice ka p.kids.length cap) := ⟨_, rfl⟩
      rw [← hw6] at R6 F6 T6 K6 HK6 HZ6
      clear ha R5 hk hz hS hz6 K51 F5 T5 K5 R4
      go_wp2_with fail
      show Calls _ _ _ (set5 w5 w.heap.size (.int .i64 p.kind) (.string p.text) (.int .i64 p.n) (.string p.name) (.slice ka p.kids.length cap)) _
      rw [← hw6]; clear hw6 c0 c1 c2 c3 c4 f0 f1 f2 f3 f4
      refine (next_any _ _ s k 0 w6 R6.out hks (by omega)).mono ?_
      rintro e w7 ⟨rfl, R7, k_⟩
      have hz6 := HZ6.out
      have F7 := Lib.hid (Five.kept F6.out k_ (by omega)); have T7 := Lib.hid (T6.out.kept k_ (by omega))
      have K7 : Hid (Kept Nix w w7) := K6.out.step k_ (fun y hy => .inr (by omega))
      have HK7 := Lib.hid (HK6.out.kept k_ (fun b hb => ⟨by have := (HS.out b hb).2; omega, by have := (HS.out b hb).1; omega⟩))
      have hsz7 := k_.size
      have q1 := R7.c1
      clear k_ F6 T6 K6 HK6 R6
      by_cases hp : 0 ≤ peek s (skip s k)
      · have hb : decide (0 ≤ peek s (skip s k)) = true := decide_eq_true hp
        have hr : Hid (readP s = .error (2, skip s k)) := by unfold Hid readP; rw [if_neg hl, HA.out]; dsimp only; rw [if_pos hp]
        clear hp hl
        go_wp2_with fail
        refine (fail_any _ 2 (skip s k) w7).mono ?_
        rintro e w8 ⟨rfl, rfl⟩
        go_wp2_with fail
        exact door_panic rfl rfl (by omega) F7.out T7.out (by omega) hr.out K7.out
      · have hb : decide (0 ≤ peek s (skip s k)) = false := decide_eq_false hp
        have PV : Hid (PatV w7 (· < w7.heap.size) (.agg #[.int .i64 p.kind, .string p.text, .int .i64 p.n, .string p.name, .slice ka p.kids.length cap]) p) := ⟨ka, cap, rfl, HZ.out, PatsAt.same (fun _ _ => rfl) (fun b hb => by have := (HS.out b hb).2; omega) _ _ HK7.out⟩
        obtain ⟨c0, c1, c2, c3, c4, cf⟩ := Five.cells F7.out
        have HP := Lib.hid hp; have HL := Lib.hid hl
        clear R7 q1 hp hl
        go_wp2_with fail
        refine (size_any p _ w7 PV.out (by omega)).mono ?_
        rintro e w8 ⟨rfl, k_⟩
        have F8 := Lib.hid (Five.kept F7.out k_ (fun h => h)); have T8 := Lib.hid (T7.out.kept k_ (fun h => h))
        have K8 : Hid (Kept Nix w w8) := K7.out.trans k_
        have HK8 := Lib.hid (HK7.out.kept k_ (fun b hb => ⟨by have := (HS.out b hb).2; omega, fun h => h⟩))
        have hsz8 := k_.size
        obtain ⟨d0, d1, d2, d3, d4, df⟩ := Five.cells F8.out
        have f0 := df 0; have f1 := df 1; have f2 := df 2; have f3 := df 3; have f4 := df 4
        obtain ⟨t0, t1, tf⟩ := T8.out.cells
        have g0 := tf 0; have g1 := tf 1
        clear k_ F7 T7 K7 HK7 PV c0 c1 c2 c3 c4 cf df tf
        rw [sizeF_eq]
        have ne12 : w.heap.size ≠ w.heap.size + 1 := by omega
        by_cases hf : fits p
        · have hr : Hid (readP s = .ok p) := by unfold Hid readP; rw [if_neg HL.out, HA.out]; dsimp only; rw [if_neg (by have := HP.out; omega), if_pos hf]
          have K9 : Hid (Kept (fun y => y = w.heap.size ∨ y = w.heap.size + 1) w8 (set2 (set5 w8 w.heap.size (.int .i64 p.kind) (.string p.text) (.int .i64 p.n) (.string p.name) (.slice ka p.kids.length cap)) (w.heap.size + 1) (.int .i64 0) (.int .i64 0))) := ((Kept.refl _ w8).set5 (.inl (.inl rfl)) _ _ _ _ _).set2 (.inl (.inr rfl)) _ _
          have F9 : Hid (Five w.heap.size (.int .i64 p.kind) (.string p.text) (.int .i64 p.n) (.string p.name) (.slice ka p.kids.length cap) (set2 (set5 w8 w.heap.size (.int .i64 p.kind) (.string p.text) (.int .i64 p.n) (.string p.name) (.slice ka p.kids.length cap)) (w.heap.size + 1) (.int .i64 0) (.int .i64 0))) :=
            (F8.out.set5 _ _ _ _ _).kept ((Kept.refl (· = w.heap.size + 1) _).set2 (.inl rfl) _ _) ne12
          have T9 : Hid (Two (w.heap.size + 1) (.int .i64 0) (.int .i64 0) (set2 (set5 w8 w.heap.size (.int .i64 p.kind) (.string p.text) (.int .i64 p.n) (.string p.name) (.slice ka p.kids.length cap)) (w.heap.size + 1) (.int .i64 0) (.int .i64 0))) :=
            (T8.out.kept ((Kept.refl (· = w.heap.size) w8).set5 (.inl rfl) _ _ _ _ _) (fun h => ne12 h.symm)).set2 _ _
          rw [if_pos hf]
          clear hf
          go_wp2_with fail
          go_region
          all_goals go_wp2_with fail
          refine door_ret rfl rfl (F9.out.kept (Kept.refl Nix _).drew (fun h => h)) (T9.out.kept (Kept.refl Nix _).drew (fun h => h)) ?_
          unfold ReadPost
          rw [hr.out]
          have hk9 := (K9.out.drew)
          refine ⟨K8.out.step hk9 (fun y hy => .inr (by omega)), _, rfl, S, fun b hb => ?_, ka, cap, rfl, HZ.out, HK8.out.kept hk9 (fun b hb => ?_)⟩
          · have := HS.out b hb; exact ⟨by omega, Nat.lt_of_lt_of_le (show b < w8.heap.size by omega) hk9.size⟩
          · have := HS.out b hb; omega
        · have hr : Hid (readP s = .error (4, 0)) := by unfold Hid readP; rw [if_neg HL.out, HA.out]; dsimp only; rw [if_neg (by have := HP.out; omega), if_neg hf]
          have K9 : Hid (Kept (fun y => y = w.heap.size ∨ y = w.heap.size + 1) w8 (set2 (set5 w8 w.heap.size (.int .i64 0) (.string ⟨#[]⟩) (.int .i64 0) (.string ⟨#[]⟩) (.slice none 0 0)) (w.heap.size + 1) (.int .i64 4) (.int .i64 0))) := ((Kept.refl _ w8).set5 (.inl (.inl rfl)) _ _ _ _ _).set2 (.inl (.inr rfl)) _ _
          have F9 : Hid (Zero5 w.heap.size (set2 (set5 w8 w.heap.size (.int .i64 0) (.string ⟨#[]⟩) (.int .i64 0) (.string ⟨#[]⟩) (.slice none 0 0)) (w.heap.size + 1) (.int .i64 4) (.int .i64 0))) :=
            Five.kept (F8.out.set5 _ _ _ _ _) ((Kept.refl (· = w.heap.size + 1) _).set2 (.inl rfl) _ _) ne12
          have T9 : Hid (Two (w.heap.size + 1) (.int .i64 4) (.int .i64 0) (set2 (set5 w8 w.heap.size (.int .i64 0) (.string ⟨#[]⟩) (.int .i64 0) (.string ⟨#[]⟩) (.slice none 0 0)) (w.heap.size + 1) (.int .i64 4) (.int .i64 0))) :=
            (T8.out.kept ((Kept.refl (· = w.heap.size) w8).set5 (.inl rfl) _ _ _ _ _) (fun h => ne12 h.symm)).set2 _ _
          rw [if_neg hf]
          clear hf
          go_wp2_with fail
          exact door_ret rfl rfl F9.out T9.out (read_err hr.out (K8.out.step K9.out (fun y hy => .inr (by omega))))
end Go.Proofs.YtdnglicgmlldlaaDoor
