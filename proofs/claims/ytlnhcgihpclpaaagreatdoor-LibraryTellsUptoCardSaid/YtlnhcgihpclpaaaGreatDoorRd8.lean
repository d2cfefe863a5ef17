/- The reader of patterns: primary with brackets. -/
import Derived.Test.YtlnhcgihpclpaaaGreatDoorRd7
namespace Go.Proofs.YtlnhcgihpclpaaaGreatDoor
set_option linter.all false
open Go.RowKit

set_option maxRecDepth 100000 in
set_option maxHeartbeats 4000000 in
theorem prim_text3 (N W : Nat) (s : ByteArray) (i d : Nat) (w : World) (inner : Nat → Res PatT) (hr : Rdr N W s i d w) (hi : i ≤ s.size) (hs6 : s.size ≤ 65536) (h39 : peek s (skip s i) ≠ 39) (h64 : peek s (skip s i) ≠ 64) (h42 : peek s (skip s i) ≠ 42) (x : ByteArray) (a k : Nat) (ht : wordP s (skip s i) = .ok ((x, a), k)) (hkd : kindOf x = 3) :
    Calls Tryz.prog 108 #[.pointer (some ⟨N, 0, none⟩)] w (RPost N W s d (primaryP inner s i) (patVal w.heap.size) w) := by
  have e0 : Hid (primaryP inner s i = wdP inner s (skip s i)) := by unfold Hid primaryP; rw [if_neg h39, if_neg h64, if_neg h42]
  have HR := Lib.hid hr
  have hN := hr.lt; have hW := hr.ltW; clear hr
  have hle := skip_le hi
  have hs : s.size ≤ 1000000000 := by omega
  go_enter Tryz.func108, Tryz.ntmps108
  go_wp2_with fail
  refine (next_any N W s i d _ (HR.out.kept ((Kept.refl Nix w).alloc _) (fun h => h) (fun h => h)) hi hs).mono ?_
  rintro e w1 ⟨rfl, R1, K1⟩
  have b1 : (peek s (skip s i) == 39) = false := by simpa using h39
  have b2 : (peek s (skip s i) == 64) = false := by simpa using h64
  have b3 : (peek s (skip s i) == 42) = false := by simpa using h42
  have F1 : Hid (Five w.heap.size (.int .i64 0) (.string ⟨#[]⟩) (.int .i64 0) (.string ⟨#[]⟩) (.slice none 0 0) w1) := Five.kept (heap_alloc_new w _) K1 (by omega)
  have K1' : Hid (Kept (· = N) w w1) := ((Kept.refl _ w).alloc _).trans K1
  have RR1 := Lib.hid R1
  clear R1 K1 h39 h64 h42
  have hk := word_ok hle ht
  have hx : x.size ≤ 1000000 := by omega
  have hks : k ≤ s.size := by omega
  have hp : Hid (primaryP inner s i = argTextP s k 3) := by
    unfold Hid; rw [e0.out]; unfold wdP; rw [ht]; dsimp only; unfold kindP; rw [hkd, if_neg (by omega), if_pos (by omega)]
  go_wp2_with fail
  refine (word_any N W s (skip s i) d _ RR1.out hle hs).mono ?_
  rintro e w2 ⟨K2, h⟩
  rw [ht] at h
  obtain ⟨_, rfl, rfl, R2⟩ := h
  have F2 := Lib.hid (F1.out.kept K2 (by omega))
  have K2' : Hid (Kept (· = N) w w2) := K1'.out.trans K2
  have q2 := R2.c2
  have RR2 := Lib.hid R2
  clear R2 K2 ht hk b1 b2 b3
  go_wp2_with fail
  refine (index_words W x _ RR2.out.words).mono ?_
  rintro e w3 ⟨rfl, rfl⟩
  rw [hkd]
  clear hkd q2
  go_wp2_with fail
  refine (need_any 40 N W (by decide) s k d _ RR2.out hks hs).mono ?_
  rintro e w3 ⟨k_, h⟩
  have F3 := Lib.hid (F2.out.kept k_ (by omega))
  have K3 := Lib.hid (K2'.out.trans k_); clear k_
  cases hn : needP 40 s k with
  | error er =>
    rw [hn] at h
    obtain rfl := h
    have hr : Hid (primaryP inner s i = .error er) := by unfold Hid; rw [hp.out]; unfold argTextP; rw [hn]
    clear hn
    go_wp2_with fail
    exact ret_err rfl hr.out K3.out
  | ok k1 =>
    rw [hn] at h
    obtain ⟨rfl, R3⟩ := h
    have RR3 := Lib.hid R3; clear R3
    have hk1 : k1 ≤ s.size := (need_ok hn).2.1
    have HN := Lib.hid hn; clear hn
    go_wp2_with fail
    refine (text_any N W s k1 d _ RR3.out hk1 hs).mono ?_
    rintro e w4 ⟨k_, h⟩
    have F4 := Lib.hid (F3.out.kept k_ (by omega))
    have K4 := Lib.hid (K3.out.trans k_); clear k_
    cases ht : textP s k1 with
    | error er =>
      rw [ht] at h
      obtain rfl := h
      have hr : Hid (primaryP inner s i = .error er) := by unfold Hid; rw [hp.out]; unfold argTextP; rw [HN.out]; dsimp only; rw [ht]
      clear ht
      go_wp2_with fail
      exact ret_err rfl hr.out K4.out
    | ok y =>
      obtain ⟨⟨t, a'⟩, k2⟩ := y
      rw [ht] at h
      obtain ⟨_, rfl, rfl, R4⟩ := h
      have RR4 := Lib.hid R4; clear R4
      have hk2 : k2 ≤ s.size := (text_ok ht).2.1
      have hts : t.size ≤ 100000 := by have := text_ok ht; omega
      have HT := Lib.hid ht; clear ht
      by_cases h0 : t.size = 0
      · have he : t.toList.isEmpty = true := isEmpty_size.2 h0
        have hr : Hid (primaryP inner s i = .error (8, a')) := by unfold Hid; rw [hp.out]; unfold argTextP; rw [HN.out]; dsimp only; rw [HT.out]; dsimp only; rw [if_pos h0]
        clear h0
        go_wp2_with fail
        refine (fail_any _ 8 a' _).mono ?_
        rintro e w5 ⟨rfl, rfl⟩
        go_wp2_with fail
        exact ret_err rfl hr.out K4.out
      · have he : t.toList.isEmpty = false := isEmpty_size'.2 (by omega)
        go_wp2_with fail
        refine (need_any 41 N W (by decide) s k2 d _ RR4.out hk2 hs).mono ?_
        rintro e w5 ⟨k_, h⟩
        have F5 := Lib.hid (F4.out.kept k_ (by omega))
        have K5 := Lib.hid (K4.out.trans k_); clear k_
        cases hn : needP 41 s k2 with
        | error er =>
          rw [hn] at h
          obtain rfl := h
          have hr : Hid (primaryP inner s i = .error er) := by unfold Hid; rw [hp.out]; unfold argTextP; rw [HN.out]; dsimp only; rw [HT.out]; dsimp only; rw [if_neg h0, hn]
          clear hn h0
          go_wp2_with fail
          exact ret_err rfl hr.out K5.out
        | ok k3 =>
          rw [hn] at h
          obtain ⟨rfl, R5⟩ := h
          have RR5 := Lib.hid R5; clear R5
          have hr : Hid (primaryP inner s i = .ok (.mk 3 t 0 E0 [], k3)) := by unfold Hid; rw [hp.out]; unfold argTextP; rw [HN.out]; dsimp only; rw [HT.out]; dsimp only; rw [if_neg h0, hn]
          clear hn h0
          have ts : t.size < 1000000000 := by omega
          obtain ⟨c0, c1, c2, c3, c4, cf⟩ := F5.out.cells
          have f0 := cf 0; have f1 := cf 1; have f2 := cf 2; have f3 := cf 3; have f4 := cf 4; clear cf
          go_wp2_with fail
          exact ret_pat (p := .mk 3 t 0 E0 []) (S := Nix) rfl rfl F5.out RR5.out K5.out (Nat.le_refl _) hN hW hr.out ⟨ts, e0_lt, len0_lt⟩ (fun b hb => hb.elim) (by unfold PatsAt; trivial)
set_option maxRecDepth 100000 in
set_option maxHeartbeats 4000000 in
theorem prim_text4 (N W : Nat) (s : ByteArray) (i d : Nat) (w : World) (inner : Nat → Res PatT) (hr : Rdr N W s i d w) (hi : i ≤ s.size) (hs6 : s.size ≤ 65536) (h39 : peek s (skip s i) ≠ 39) (h64 : peek s (skip s i) ≠ 64) (h42 : peek s (skip s i) ≠ 42) (x : ByteArray) (a k : Nat) (ht : wordP s (skip s i) = .ok ((x, a), k)) (hkd : kindOf x = 4) :
    Calls Tryz.prog 108 #[.pointer (some ⟨N, 0, none⟩)] w (RPost N W s d (primaryP inner s i) (patVal w.heap.size) w) := by
  have e0 : Hid (primaryP inner s i = wdP inner s (skip s i)) := by unfold Hid primaryP; rw [if_neg h39, if_neg h64, if_neg h42]
  have HR := Lib.hid hr
  have hN := hr.lt; have hW := hr.ltW; clear hr
  have hle := skip_le hi
  have hs : s.size ≤ 1000000000 := by omega
  go_enter Tryz.func108, Tryz.ntmps108
  go_wp2_with fail
  refine (next_any N W s i d _ (HR.out.kept ((Kept.refl Nix w).alloc _) (fun h => h) (fun h => h)) hi hs).mono ?_
  rintro e w1 ⟨rfl, R1, K1⟩
  have b1 : (peek s (skip s i) == 39) = false := by simpa using h39
  have b2 : (peek s (skip s i) == 64) = false := by simpa using h64
  have b3 : (peek s (skip s i) == 42) = false := by simpa using h42
  have F1 : Hid (Five w.heap.size (.int .i64 0) (.string ⟨#[]⟩) (.int .i64 0) (.string ⟨#[]⟩) (.slice none 0 0) w1) := Five.kept (heap_alloc_new w _) K1 (by omega)
  have K1' : Hid (Kept (· = N) w w1) := ((Kept.refl _ w).alloc _).trans K1
  have RR1 := Lib.hid R1
  clear R1 K1 h39 h64 h42
  have hk := word_ok hle ht
  have hx : x.size ≤ 1000000 := by omega
  have hks : k ≤ s.size := by omega
  have hp : Hid (primaryP inner s i = argTextP s k 4) := by
    unfold Hid; rw [e0.out]; unfold wdP; rw [ht]; dsimp only; unfold kindP; rw [hkd, if_neg (by omega), if_pos (by omega)]
  go_wp2_with fail
  refine (word_any N W s (skip s i) d _ RR1.out hle hs).mono ?_
  rintro e w2 ⟨K2, h⟩
  rw [ht] at h
  obtain ⟨_, rfl, rfl, R2⟩ := h
  have F2 := Lib.hid (F1.out.kept K2 (by omega))
  have K2' : Hid (Kept (· = N) w w2) := K1'.out.trans K2
  have q2 := R2.c2
  have RR2 := Lib.hid R2
  clear R2 K2 ht hk b1 b2 b3
  go_wp2_with fail
  refine (index_words W x _ RR2.out.words).mono ?_
  rintro e w3 ⟨rfl, rfl⟩
  rw [hkd]
  clear hkd q2
  go_wp2_with fail
  refine (need_any 40 N W (by decide) s k d _ RR2.out hks hs).mono ?_
  rintro e w3 ⟨k_, h⟩
  have F3 := Lib.hid (F2.out.kept k_ (by omega))
  have K3 := Lib.hid (K2'.out.trans k_); clear k_
  cases hn : needP 40 s k with
  | error er =>
    rw [hn] at h
    obtain rfl := h
    have hr : Hid (primaryP inner s i = .error er) := by unfold Hid; rw [hp.out]; unfold argTextP; rw [hn]
    clear hn
    go_wp2_with fail
    exact ret_err rfl hr.out K3.out
  | ok k1 =>
    rw [hn] at h
    obtain ⟨rfl, R3⟩ := h
    have RR3 := Lib.hid R3; clear R3
    have hk1 : k1 ≤ s.size := (need_ok hn).2.1
    have HN := Lib.hid hn; clear hn
    go_wp2_with fail
    refine (text_any N W s k1 d _ RR3.out hk1 hs).mono ?_
    rintro e w4 ⟨k_, h⟩
    have F4 := Lib.hid (F3.out.kept k_ (by omega))
    have K4 := Lib.hid (K3.out.trans k_); clear k_
    cases ht : textP s k1 with
    | error er =>
      rw [ht] at h
      obtain rfl := h
      have hr : Hid (primaryP inner s i = .error er) := by unfold Hid; rw [hp.out]; unfold argTextP; rw [HN.out]; dsimp only; rw [ht]
      clear ht
      go_wp2_with fail
      exact ret_err rfl hr.out K4.out
    | ok y =>
      obtain ⟨⟨t, a'⟩, k2⟩ := y
      rw [ht] at h
      obtain ⟨_, rfl, rfl, R4⟩ := h
      have RR4 := Lib.hid R4; clear R4
      have hk2 : k2 ≤ s.size := (text_ok ht).2.1
      have hts : t.size ≤ 100000 := by have := text_ok ht; omega
      have HT := Lib.hid ht; clear ht
      by_cases h0 : t.size = 0
      · have he : t.toList.isEmpty = true := isEmpty_size.2 h0
        have hr : Hid (primaryP inner s i = .error (8, a')) := by unfold Hid; rw [hp.out]; unfold argTextP; rw [HN.out]; dsimp only; rw [HT.out]; dsimp only; rw [if_pos h0]
        clear h0
        go_wp2_with fail
        refine (fail_any _ 8 a' _).mono ?_
        rintro e w5 ⟨rfl, rfl⟩
        go_wp2_with fail
        exact ret_err rfl hr.out K4.out
      · have he : t.toList.isEmpty = false := isEmpty_size'.2 (by omega)
        go_wp2_with fail
        refine (need_any 41 N W (by decide) s k2 d _ RR4.out hk2 hs).mono ?_
        rintro e w5 ⟨k_, h⟩
        have F5 := Lib.hid (F4.out.kept k_ (by omega))
        have K5 := Lib.hid (K4.out.trans k_); clear k_
        cases hn : needP 41 s k2 with
        | error er =>
          rw [hn] at h
          obtain rfl := h
          have hr : Hid (primaryP inner s i = .error er) := by unfold Hid; rw [hp.out]; unfold argTextP; rw [HN.out]; dsimp only; rw [HT.out]; dsimp only; rw [if_neg h0, hn]
          clear hn h0
          go_wp2_with fail
          exact ret_err rfl hr.out K5.out
        | ok k3 =>
          rw [hn] at h
          obtain ⟨rfl, R5⟩ := h
          have RR5 := Lib.hid R5; clear R5
          have hr : Hid (primaryP inner s i = .ok (.mk 4 t 0 E0 [], k3)) := by unfold Hid; rw [hp.out]; unfold argTextP; rw [HN.out]; dsimp only; rw [HT.out]; dsimp only; rw [if_neg h0, hn]
          clear hn h0
          have ts : t.size < 1000000000 := by omega
          obtain ⟨c0, c1, c2, c3, c4, cf⟩ := F5.out.cells
          have f0 := cf 0; have f1 := cf 1; have f2 := cf 2; have f3 := cf 3; have f4 := cf 4; clear cf
          go_wp2_with fail
          exact ret_pat (p := .mk 4 t 0 E0 []) (S := Nix) rfl rfl F5.out RR5.out K5.out (Nat.le_refl _) hN hW hr.out ⟨ts, e0_lt, len0_lt⟩ (fun b hb => hb.elim) (by unfold PatsAt; trivial)
set_option maxRecDepth 100000 in
set_option maxHeartbeats 4000000 in
theorem prim_text5 (N W : Nat) (s : ByteArray) (i d : Nat) (w : World) (inner : Nat → Res PatT) (hr : Rdr N W s i d w) (hi : i ≤ s.size) (hs6 : s.size ≤ 65536) (h39 : peek s (skip s i) ≠ 39) (h64 : peek s (skip s i) ≠ 64) (h42 : peek s (skip s i) ≠ 42) (x : ByteArray) (a k : Nat) (ht : wordP s (skip s i) = .ok ((x, a), k)) (hkd : kindOf x = 5) :
    Calls Tryz.prog 108 #[.pointer (some ⟨N, 0, none⟩)] w (RPost N W s d (primaryP inner s i) (patVal w.heap.size) w) := by
  have e0 : Hid (primaryP inner s i = wdP inner s (skip s i)) := by unfold Hid primaryP; rw [if_neg h39, if_neg h64, if_neg h42]
  have HR := Lib.hid hr
  have hN := hr.lt; have hW := hr.ltW; clear hr
  have hle := skip_le hi
  have hs : s.size ≤ 1000000000 := by omega
  go_enter Tryz.func108, Tryz.ntmps108
  go_wp2_with fail
  refine (next_any N W s i d _ (HR.out.kept ((Kept.refl Nix w).alloc _) (fun h => h) (fun h => h)) hi hs).mono ?_
  rintro e w1 ⟨rfl, R1, K1⟩
  have b1 : (peek s (skip s i) == 39) = false := by simpa using h39
  have b2 : (peek s (skip s i) == 64) = false := by simpa using h64
  have b3 : (peek s (skip s i) == 42) = false := by simpa using h42
  have F1 : Hid (Five w.heap.size (.int .i64 0) (.string ⟨#[]⟩) (.int .i64 0) (.string ⟨#[]⟩) (.slice none 0 0) w1) := Five.kept (heap_alloc_new w _) K1 (by omega)
  have K1' : Hid (Kept (· = N) w w1) := ((Kept.refl _ w).alloc _).trans K1
  have RR1 := Lib.hid R1
  clear R1 K1 h39 h64 h42
  have hk := word_ok hle ht
  have hx : x.size ≤ 1000000 := by omega
  have hks : k ≤ s.size := by omega
  have hp : Hid (primaryP inner s i = argTextP s k 5) := by
    unfold Hid; rw [e0.out]; unfold wdP; rw [ht]; dsimp only; unfold kindP; rw [hkd, if_neg (by omega), if_pos (by omega)]
  go_wp2_with fail
  refine (word_any N W s (skip s i) d _ RR1.out hle hs).mono ?_
  rintro e w2 ⟨K2, h⟩
  rw [ht] at h
  obtain ⟨_, rfl, rfl, R2⟩ := h
  have F2 := Lib.hid (F1.out.kept K2 (by omega))
  have K2' : Hid (Kept (· = N) w w2) := K1'.out.trans K2
  have q2 := R2.c2
  have RR2 := Lib.hid R2
  clear R2 K2 ht hk b1 b2 b3
  go_wp2_with fail
  refine (index_words W x _ RR2.out.words).mono ?_
  rintro e w3 ⟨rfl, rfl⟩
  rw [hkd]
  clear hkd q2
  go_wp2_with fail
  refine (need_any 40 N W (by decide) s k d _ RR2.out hks hs).mono ?_
  rintro e w3 ⟨k_, h⟩
  have F3 := Lib.hid (F2.out.kept k_ (by omega))
  have K3 := Lib.hid (K2'.out.trans k_); clear k_
  cases hn : needP 40 s k with
  | error er =>
    rw [hn] at h
    obtain rfl := h
    have hr : Hid (primaryP inner s i = .error er) := by unfold Hid; rw [hp.out]; unfold argTextP; rw [hn]
    clear hn
    go_wp2_with fail
    exact ret_err rfl hr.out K3.out
  | ok k1 =>
    rw [hn] at h
    obtain ⟨rfl, R3⟩ := h
    have RR3 := Lib.hid R3; clear R3
    have hk1 : k1 ≤ s.size := (need_ok hn).2.1
    have HN := Lib.hid hn; clear hn
    go_wp2_with fail
    refine (text_any N W s k1 d _ RR3.out hk1 hs).mono ?_
    rintro e w4 ⟨k_, h⟩
    have F4 := Lib.hid (F3.out.kept k_ (by omega))
    have K4 := Lib.hid (K3.out.trans k_); clear k_
    cases ht : textP s k1 with
    | error er =>
      rw [ht] at h
      obtain rfl := h
      have hr : Hid (primaryP inner s i = .error er) := by unfold Hid; rw [hp.out]; unfold argTextP; rw [HN.out]; dsimp only; rw [ht]
      clear ht
      go_wp2_with fail
      exact ret_err rfl hr.out K4.out
    | ok y =>
      obtain ⟨⟨t, a'⟩, k2⟩ := y
      rw [ht] at h
      obtain ⟨_, rfl, rfl, R4⟩ := h
      have RR4 := Lib.hid R4; clear R4
      have hk2 : k2 ≤ s.size := (text_ok ht).2.1
      have hts : t.size ≤ 100000 := by have := text_ok ht; omega
      have HT := Lib.hid ht; clear ht
      by_cases h0 : t.size = 0
      · have he : t.toList.isEmpty = true := isEmpty_size.2 h0
        have hr : Hid (primaryP inner s i = .error (8, a')) := by unfold Hid; rw [hp.out]; unfold argTextP; rw [HN.out]; dsimp only; rw [HT.out]; dsimp only; rw [if_pos h0]
        clear h0
        go_wp2_with fail
        refine (fail_any _ 8 a' _).mono ?_
        rintro e w5 ⟨rfl, rfl⟩
        go_wp2_with fail
        exact ret_err rfl hr.out K4.out
      · have he : t.toList.isEmpty = false := isEmpty_size'.2 (by omega)
        go_wp2_with fail
        refine (need_any 41 N W (by decide) s k2 d _ RR4.out hk2 hs).mono ?_
        rintro e w5 ⟨k_, h⟩
        have F5 := Lib.hid (F4.out.kept k_ (by omega))
        have K5 := Lib.hid (K4.out.trans k_); clear k_
        cases hn : needP 41 s k2 with
        | error er =>
          rw [hn] at h
          obtain rfl := h
          have hr : Hid (primaryP inner s i = .error er) := by unfold Hid; rw [hp.out]; unfold argTextP; rw [HN.out]; dsimp only; rw [HT.out]; dsimp only; rw [if_neg h0, hn]
          clear hn h0
          go_wp2_with fail
          exact ret_err rfl hr.out K5.out
        | ok k3 =>
          rw [hn] at h
          obtain ⟨rfl, R5⟩ := h
          have RR5 := Lib.hid R5; clear R5
          have hr : Hid (primaryP inner s i = .ok (.mk 5 t 0 E0 [], k3)) := by unfold Hid; rw [hp.out]; unfold argTextP; rw [HN.out]; dsimp only; rw [HT.out]; dsimp only; rw [if_neg h0, hn]
          clear hn h0
          have ts : t.size < 1000000000 := by omega
          obtain ⟨c0, c1, c2, c3, c4, cf⟩ := F5.out.cells
          have f0 := cf 0; have f1 := cf 1; have f2 := cf 2; have f3 := cf 3; have f4 := cf 4; clear cf
          go_wp2_with fail
          exact ret_pat (p := .mk 5 t 0 E0 []) (S := Nix) rfl rfl F5.out RR5.out K5.out (Nat.le_refl _) hN hW hr.out ⟨ts, e0_lt, len0_lt⟩ (fun b hb => hb.elim) (by unfold PatsAt; trivial)
set_option maxRecDepth 100000 in
set_option maxHeartbeats 4000000 in
theorem prim_text6 (N W : Nat) (s : ByteArray) (i d : Nat) (w : World) (inner : Nat → Res PatT) (hr : Rdr N W s i d w) (hi : i ≤ s.size) (hs6 : s.size ≤ 65536) (h39 : peek s (skip s i) ≠ 39) (h64 : peek s (skip s i) ≠ 64) (h42 : peek s (skip s i) ≠ 42) (x : ByteArray) (a k : Nat) (ht : wordP s (skip s i) = .ok ((x, a), k)) (hkd : kindOf x = 6) :
    Calls Tryz.prog 108 #[.pointer (some ⟨N, 0, none⟩)] w (RPost N W s d (primaryP inner s i) (patVal w.heap.size) w) := by
  have e0 : Hid (primaryP inner s i = wdP inner s (skip s i)) := by unfold Hid primaryP; rw [if_neg h39, if_neg h64, if_neg h42]
  have HR := Lib.hid hr
  have hN := hr.lt; have hW := hr.ltW; clear hr
  have hle := skip_le hi
  have hs : s.size ≤ 1000000000 := by omega
  go_enter Tryz.func108, Tryz.ntmps108
  go_wp2_with fail
  refine (next_any N W s i d _ (HR.out.kept ((Kept.refl Nix w).alloc _) (fun h => h) (fun h => h)) hi hs).mono ?_
  rintro e w1 ⟨rfl, R1, K1⟩
  have b1 : (peek s (skip s i) == 39) = false := by simpa using h39
  have b2 : (peek s (skip s i) == 64) = false := by simpa using h64
  have b3 : (peek s (skip s i) == 42) = false := by simpa using h42
  have F1 : Hid (Five w.heap.size (.int .i64 0) (.string ⟨#[]⟩) (.int .i64 0) (.string ⟨#[]⟩) (.slice none 0 0) w1) := Five.kept (heap_alloc_new w _) K1 (by omega)
  have K1' : Hid (Kept (· = N) w w1) := ((Kept.refl _ w).alloc _).trans K1
  have RR1 := Lib.hid R1
  clear R1 K1 h39 h64 h42
  have hk := word_ok hle ht
  have hx : x.size ≤ 1000000 := by omega
  have hks : k ≤ s.size := by omega
  have hp : Hid (primaryP inner s i = argTextP s k 6) := by
    unfold Hid; rw [e0.out]; unfold wdP; rw [ht]; dsimp only; unfold kindP; rw [hkd, if_neg (by omega), if_pos (by omega)]
  go_wp2_with fail
  refine (word_any N W s (skip s i) d _ RR1.out hle hs).mono ?_
  rintro e w2 ⟨K2, h⟩
  rw [ht] at h
  obtain ⟨_, rfl, rfl, R2⟩ := h
  have F2 := Lib.hid (F1.out.kept K2 (by omega))
  have K2' : Hid (Kept (· = N) w w2) := K1'.out.trans K2
  have q2 := R2.c2
  have RR2 := Lib.hid R2
  clear R2 K2 ht hk b1 b2 b3
  go_wp2_with fail
  refine (index_words W x _ RR2.out.words).mono ?_
  rintro e w3 ⟨rfl, rfl⟩
  rw [hkd]
  clear hkd q2
  go_wp2_with fail
  refine (need_any 40 N W (by decide) s k d _ RR2.out hks hs).mono ?_
  rintro e w3 ⟨k_, h⟩
  have F3 := Lib.hid (F2.out.kept k_ (by omega))
  have K3 := Lib.hid (K2'.out.trans k_); clear k_
  cases hn : needP 40 s k with
  | error er =>
    rw [hn] at h
    obtain rfl := h
    have hr : Hid (primaryP inner s i = .error er) := by unfold Hid; rw [hp.out]; unfold argTextP; rw [hn]
    clear hn
    go_wp2_with fail
    exact ret_err rfl hr.out K3.out
  | ok k1 =>
    rw [hn] at h
    obtain ⟨rfl, R3⟩ := h
    have RR3 := Lib.hid R3; clear R3
    have hk1 : k1 ≤ s.size := (need_ok hn).2.1
    have HN := Lib.hid hn; clear hn
    go_wp2_with fail
    refine (text_any N W s k1 d _ RR3.out hk1 hs).mono ?_
    rintro e w4 ⟨k_, h⟩
    have F4 := Lib.hid (F3.out.kept k_ (by omega))
    have K4 := Lib.hid (K3.out.trans k_); clear k_
    cases ht : textP s k1 with
    | error er =>
      rw [ht] at h
      obtain rfl := h
      have hr : Hid (primaryP inner s i = .error er) := by unfold Hid; rw [hp.out]; unfold argTextP; rw [HN.out]; dsimp only; rw [ht]
      clear ht
      go_wp2_with fail
      exact ret_err rfl hr.out K4.out
    | ok y =>
      obtain ⟨⟨t, a'⟩, k2⟩ := y
      rw [ht] at h
      obtain ⟨_, rfl, rfl, R4⟩ := h
      have RR4 := Lib.hid R4; clear R4
      have hk2 : k2 ≤ s.size := (text_ok ht).2.1
      have hts : t.size ≤ 100000 := by have := text_ok ht; omega
      have HT := Lib.hid ht; clear ht
      by_cases h0 : t.size = 0
      · have he : t.toList.isEmpty = true := isEmpty_size.2 h0
        have hr : Hid (primaryP inner s i = .error (8, a')) := by unfold Hid; rw [hp.out]; unfold argTextP; rw [HN.out]; dsimp only; rw [HT.out]; dsimp only; rw [if_pos h0]
        clear h0
        go_wp2_with fail
        refine (fail_any _ 8 a' _).mono ?_
        rintro e w5 ⟨rfl, rfl⟩
        go_wp2_with fail
        exact ret_err rfl hr.out K4.out
      · have he : t.toList.isEmpty = false := isEmpty_size'.2 (by omega)
        go_wp2_with fail
        refine (need_any 41 N W (by decide) s k2 d _ RR4.out hk2 hs).mono ?_
        rintro e w5 ⟨k_, h⟩
        have F5 := Lib.hid (F4.out.kept k_ (by omega))
        have K5 := Lib.hid (K4.out.trans k_); clear k_
        cases hn : needP 41 s k2 with
        | error er =>
          rw [hn] at h
          obtain rfl := h
          have hr : Hid (primaryP inner s i = .error er) := by unfold Hid; rw [hp.out]; unfold argTextP; rw [HN.out]; dsimp only; rw [HT.out]; dsimp only; rw [if_neg h0, hn]
          clear hn h0
          go_wp2_with fail
          exact ret_err rfl hr.out K5.out
        | ok k3 =>
          rw [hn] at h
          obtain ⟨rfl, R5⟩ := h
          have RR5 := Lib.hid R5; clear R5
          have hr : Hid (primaryP inner s i = .ok (.mk 6 t 0 E0 [], k3)) := by unfold Hid; rw [hp.out]; unfold argTextP; rw [HN.out]; dsimp only; rw [HT.out]; dsimp only; rw [if_neg h0, hn]
          clear hn h0
          have ts : t.size < 1000000000 := by omega
          obtain ⟨c0, c1, c2, c3, c4, cf⟩ := F5.out.cells
          have f0 := cf 0; have f1 := cf 1; have f2 := cf 2; have f3 := cf 3; have f4 := cf 4; clear cf
          go_wp2_with fail
          exact ret_pat (p := .mk 6 t 0 E0 []) (S := Nix) rfl rfl F5.out RR5.out K5.out (Nat.le_refl _) hN hW hr.out ⟨ts, e0_lt, len0_lt⟩ (fun b hb => hb.elim) (by unfold PatsAt; trivial)
set_option maxRecDepth 100000 in
set_option maxHeartbeats 4000000 in
theorem prim_text7 (N W : Nat) (s : ByteArray) (i d : Nat) (w : World) (inner : Nat → Res PatT) (hr : Rdr N W s i d w) (hi : i ≤ s.size) (hs6 : s.size ≤ 65536) (h39 : peek s (skip s i) ≠ 39) (h64 : peek s (skip s i) ≠ 64) (h42 : peek s (skip s i) ≠ 42) (x : ByteArray) (a k : Nat) (ht : wordP s (skip s i) = .ok ((x, a), k)) (hkd : kindOf x = 7) :
    Calls Tryz.prog 108 #[.pointer (some ⟨N, 0, none⟩)] w (RPost N W s d (primaryP inner s i) (patVal w.heap.size) w) := by
  have e0 : Hid (primaryP inner s i = wdP inner s (skip s i)) := by unfold Hid primaryP; rw [if_neg h39, if_neg h64, if_neg h42]
  have HR := Lib.hid hr
  have hN := hr.lt; have hW := hr.ltW; clear hr
  have hle := skip_le hi
  have hs : s.size ≤ 1000000000 := by omega
  go_enter Tryz.func108, Tryz.ntmps108
  go_wp2_with fail
  refine (next_any N W s i d _ (HR.out.kept ((Kept.refl Nix w).alloc _) (fun h => h) (fun h => h)) hi hs).mono ?_
  rintro e w1 ⟨rfl, R1, K1⟩
  have b1 : (peek s (skip s i) == 39) = false := by simpa using h39
  have b2 : (peek s (skip s i) == 64) = false := by simpa using h64
  have b3 : (peek s (skip s i) == 42) = false := by simpa using h42
  have F1 : Hid (Five w.heap.size (.int .i64 0) (.string ⟨#[]⟩) (.int .i64 0) (.string ⟨#[]⟩) (.slice none 0 0) w1) := Five.kept (heap_alloc_new w _) K1 (by omega)
  have K1' : Hid (Kept (· = N) w w1) := ((Kept.refl _ w).alloc _).trans K1
  have RR1 := Lib.hid R1
  clear R1 K1 h39 h64 h42
  have hk := word_ok hle ht
  have hx : x.size ≤ 1000000 := by omega
  have hks : k ≤ s.size := by omega
  have hp : Hid (primaryP inner s i = argTextP s k 7) := by
    unfold Hid; rw [e0.out]; unfold wdP; rw [ht]; dsimp only; unfold kindP; rw [hkd, if_neg (by omega), if_pos (by omega)]
  go_wp2_with fail
  refine (word_any N W s (skip s i) d _ RR1.out hle hs).mono ?_
  rintro e w2 ⟨K2, h⟩
  rw [ht] at h
  obtain ⟨_, rfl, rfl, R2⟩ := h
  have F2 := Lib.hid (F1.out.kept K2 (by omega))
  have K2' : Hid (Kept (· = N) w w2) := K1'.out.trans K2
  have q2 := R2.c2
  have RR2 := Lib.hid R2
  clear R2 K2 ht hk b1 b2 b3
  go_wp2_with fail
  refine (index_words W x _ RR2.out.words).mono ?_
  rintro e w3 ⟨rfl, rfl⟩
  rw [hkd]
  clear hkd q2
  go_wp2_with fail
  refine (need_any 40 N W (by decide) s k d _ RR2.out hks hs).mono ?_
  rintro e w3 ⟨k_, h⟩
  have F3 := Lib.hid (F2.out.kept k_ (by omega))
  have K3 := Lib.hid (K2'.out.trans k_); clear k_
  cases hn : needP 40 s k with
  | error er =>
    rw [hn] at h
    obtain rfl := h
    have hr : Hid (primaryP inner s i = .error er) := by unfold Hid; rw [hp.out]; unfold argTextP; rw [hn]
    clear hn
    go_wp2_with fail
    exact ret_err rfl hr.out K3.out
  | ok k1 =>
    rw [hn] at h
    obtain ⟨rfl, R3⟩ := h
    have RR3 := Lib.hid R3; clear R3
    have hk1 : k1 ≤ s.size := (need_ok hn).2.1
    have HN := Lib.hid hn; clear hn
    go_wp2_with fail
    refine (text_any N W s k1 d _ RR3.out hk1 hs).mono ?_
    rintro e w4 ⟨k_, h⟩
    have F4 := Lib.hid (F3.out.kept k_ (by omega))
    have K4 := Lib.hid (K3.out.trans k_); clear k_
    cases ht : textP s k1 with
    | error er =>
      rw [ht] at h
      obtain rfl := h
      have hr : Hid (primaryP inner s i = .error er) := by unfold Hid; rw [hp.out]; unfold argTextP; rw [HN.out]; dsimp only; rw [ht]
      clear ht
      go_wp2_with fail
      exact ret_err rfl hr.out K4.out
    | ok y =>
      obtain ⟨⟨t, a'⟩, k2⟩ := y
      rw [ht] at h
      obtain ⟨_, rfl, rfl, R4⟩ := h
      have RR4 := Lib.hid R4; clear R4
      have hk2 : k2 ≤ s.size := (text_ok ht).2.1
      have hts : t.size ≤ 100000 := by have := text_ok ht; omega
      have HT := Lib.hid ht; clear ht
      by_cases h0 : t.size = 0
      · have he : t.toList.isEmpty = true := isEmpty_size.2 h0
        have hr : Hid (primaryP inner s i = .error (8, a')) := by unfold Hid; rw [hp.out]; unfold argTextP; rw [HN.out]; dsimp only; rw [HT.out]; dsimp only; rw [if_pos h0]
        clear h0
        go_wp2_with fail
        refine (fail_any _ 8 a' _).mono ?_
        rintro e w5 ⟨rfl, rfl⟩
        go_wp2_with fail
        exact ret_err rfl hr.out K4.out
      · have he : t.toList.isEmpty = false := isEmpty_size'.2 (by omega)
        go_wp2_with fail
        refine (need_any 41 N W (by decide) s k2 d _ RR4.out hk2 hs).mono ?_
        rintro e w5 ⟨k_, h⟩
        have F5 := Lib.hid (F4.out.kept k_ (by omega))
        have K5 := Lib.hid (K4.out.trans k_); clear k_
        cases hn : needP 41 s k2 with
        | error er =>
          rw [hn] at h
          obtain rfl := h
          have hr : Hid (primaryP inner s i = .error er) := by unfold Hid; rw [hp.out]; unfold argTextP; rw [HN.out]; dsimp only; rw [HT.out]; dsimp only; rw [if_neg h0, hn]
          clear hn h0
          go_wp2_with fail
          exact ret_err rfl hr.out K5.out
        | ok k3 =>
          rw [hn] at h
          obtain ⟨rfl, R5⟩ := h
          have RR5 := Lib.hid R5; clear R5
          have hr : Hid (primaryP inner s i = .ok (.mk 7 t 0 E0 [], k3)) := by unfold Hid; rw [hp.out]; unfold argTextP; rw [HN.out]; dsimp only; rw [HT.out]; dsimp only; rw [if_neg h0, hn]
          clear hn h0
          have ts : t.size < 1000000000 := by omega
          obtain ⟨c0, c1, c2, c3, c4, cf⟩ := F5.out.cells
          have f0 := cf 0; have f1 := cf 1; have f2 := cf 2; have f3 := cf 3; have f4 := cf 4; clear cf
          go_wp2_with fail
          exact ret_pat (p := .mk 7 t 0 E0 []) (S := Nix) rfl rfl F5.out RR5.out K5.out (Nat.le_refl _) hN hW hr.out ⟨ts, e0_lt, len0_lt⟩ (fun b hb => hb.elim) (by unfold PatsAt; trivial)
set_option maxRecDepth 100000 in
set_option maxHeartbeats 4000000 in
theorem prim_num2 (N W : Nat) (s : ByteArray) (i d : Nat) (w : World) (inner : Nat → Res PatT) (hr : Rdr N W s i d w) (hi : i ≤ s.size) (hs6 : s.size ≤ 65536) (h39 : peek s (skip s i) ≠ 39) (h64 : peek s (skip s i) ≠ 64) (h42 : peek s (skip s i) ≠ 42) (x : ByteArray) (a k : Nat) (ht : wordP s (skip s i) = .ok ((x, a), k)) (hkd : kindOf x = 2) :
    Calls Tryz.prog 108 #[.pointer (some ⟨N, 0, none⟩)] w (RPost N W s d (primaryP inner s i) (patVal w.heap.size) w) := by
  have e0 : Hid (primaryP inner s i = wdP inner s (skip s i)) := by unfold Hid primaryP; rw [if_neg h39, if_neg h64, if_neg h42]
  have HR := Lib.hid hr
  have hN := hr.lt; have hW := hr.ltW; clear hr
  have hle := skip_le hi
  have hs : s.size ≤ 1000000000 := by omega
  go_enter Tryz.func108, Tryz.ntmps108
  go_wp2_with fail
  refine (next_any N W s i d _ (HR.out.kept ((Kept.refl Nix w).alloc _) (fun h => h) (fun h => h)) hi hs).mono ?_
  rintro e w1 ⟨rfl, R1, K1⟩
  have b1 : (peek s (skip s i) == 39) = false := by simpa using h39
  have b2 : (peek s (skip s i) == 64) = false := by simpa using h64
  have b3 : (peek s (skip s i) == 42) = false := by simpa using h42
  have F1 : Hid (Five w.heap.size (.int .i64 0) (.string ⟨#[]⟩) (.int .i64 0) (.string ⟨#[]⟩) (.slice none 0 0) w1) := Five.kept (heap_alloc_new w _) K1 (by omega)
  have K1' : Hid (Kept (· = N) w w1) := ((Kept.refl _ w).alloc _).trans K1
  have RR1 := Lib.hid R1
  clear R1 K1 h39 h64 h42
  have hk := word_ok hle ht
  have hx : x.size ≤ 1000000 := by omega
  have hks : k ≤ s.size := by omega
  have hp : Hid (primaryP inner s i = argNumP s k 2) := by
    unfold Hid; rw [e0.out]; unfold wdP; rw [ht]; dsimp only; unfold kindP; rw [hkd, if_neg (by omega), if_neg (by omega), if_pos (by omega)]
  go_wp2_with fail
  refine (word_any N W s (skip s i) d _ RR1.out hle hs).mono ?_
  rintro e w2 ⟨K2, h⟩
  rw [ht] at h
  obtain ⟨_, rfl, rfl, R2⟩ := h
  have F2 := Lib.hid (F1.out.kept K2 (by omega))
  have K2' : Hid (Kept (· = N) w w2) := K1'.out.trans K2
  have q2 := R2.c2
  have RR2 := Lib.hid R2
  clear R2 K2 ht hk b1 b2 b3
  go_wp2_with fail
  refine (index_words W x _ RR2.out.words).mono ?_
  rintro e w3 ⟨rfl, rfl⟩
  rw [hkd]
  clear hkd q2
  go_wp2_with fail
  refine (need_any 40 N W (by decide) s k d _ RR2.out hks hs).mono ?_
  rintro e w3 ⟨k_, h⟩
  have F3 := Lib.hid (F2.out.kept k_ (by omega))
  have K3 := Lib.hid (K2'.out.trans k_); clear k_
  cases hn : needP 40 s k with
  | error er =>
    rw [hn] at h
    obtain rfl := h
    have hr : Hid (primaryP inner s i = .error er) := by unfold Hid; rw [hp.out]; unfold argNumP; rw [hn]
    clear hn
    go_wp2_with fail
    exact ret_err rfl hr.out K3.out
  | ok k1 =>
    rw [hn] at h
    obtain ⟨rfl, R3⟩ := h
    have RR3 := Lib.hid R3; clear R3
    have hk1 : k1 ≤ s.size := (need_ok hn).2.1
    have HN := Lib.hid hn; clear hn
    go_wp2_with fail
    refine (number_any N W s k1 d _ RR3.out hk1 hs).mono ?_
    rintro e w4 ⟨k_, h⟩
    have F4 := Lib.hid (F3.out.kept k_ (by omega))
    have K4 := Lib.hid (K3.out.trans k_); clear k_
    cases ht : numP s k1 with
    | error er =>
      rw [ht] at h
      obtain rfl := h
      have hr : Hid (primaryP inner s i = .error er) := by unfold Hid; rw [hp.out]; unfold argNumP; rw [HN.out]; dsimp only; rw [ht]
      clear ht
      go_wp2_with fail
      exact ret_err rfl hr.out K4.out
    | ok y =>
      obtain ⟨n, k2⟩ := y
      rw [ht] at h
      obtain ⟨_, rfl, rfl, R4⟩ := h
      have RR4 := Lib.hid R4; clear R4
      have hk2 : k2 ≤ s.size := (num_ok hk1 ht).2.1
      have HT := Lib.hid ht; clear ht
      go_wp2_with fail
      refine (need_any 41 N W (by decide) s k2 d _ RR4.out hk2 hs).mono ?_
      rintro e w5 ⟨k_, h⟩
      have F5 := Lib.hid (F4.out.kept k_ (by omega))
      have K5 := Lib.hid (K4.out.trans k_); clear k_
      cases hn : needP 41 s k2 with
      | error er =>
        rw [hn] at h
        obtain rfl := h
        have hr : Hid (primaryP inner s i = .error er) := by unfold Hid; rw [hp.out]; unfold argNumP; rw [HN.out]; dsimp only; rw [HT.out]; dsimp only; rw [hn]
        clear hn
        go_wp2_with fail
        exact ret_err rfl hr.out K5.out
      | ok k3 =>
        rw [hn] at h
        obtain ⟨rfl, R5⟩ := h
        have RR5 := Lib.hid R5; clear R5
        have hr : Hid (primaryP inner s i = .ok (.mk 2 E0 n E0 [], k3)) := by unfold Hid; rw [hp.out]; unfold argNumP; rw [HN.out]; dsimp only; rw [HT.out]; dsimp only; rw [hn]
        clear hn
        obtain ⟨c0, c1, c2, c3, c4, cf⟩ := F5.out.cells
        have f0 := cf 0; have f1 := cf 1; have f2 := cf 2; have f3 := cf 3; have f4 := cf 4; clear cf
        go_wp2_with fail
        exact ret_pat (p := .mk 2 E0 n E0 []) (S := Nix) rfl rfl F5.out RR5.out K5.out (Nat.le_refl _) hN hW hr.out ⟨e0_lt, e0_lt, len0_lt⟩ (fun b hb => hb.elim) (by unfold PatsAt; trivial)
set_option maxRecDepth 100000 in
set_option maxHeartbeats 4000000 in
theorem prim_num8 (N W : Nat) (s : ByteArray) (i d : Nat) (w : World) (inner : Nat → Res PatT) (hr : Rdr N W s i d w) (hi : i ≤ s.size) (hs6 : s.size ≤ 65536) (h39 : peek s (skip s i) ≠ 39) (h64 : peek s (skip s i) ≠ 64) (h42 : peek s (skip s i) ≠ 42) (x : ByteArray) (a k : Nat) (ht : wordP s (skip s i) = .ok ((x, a), k)) (hkd : kindOf x = 8) :
    Calls Tryz.prog 108 #[.pointer (some ⟨N, 0, none⟩)] w (RPost N W s d (primaryP inner s i) (patVal w.heap.size) w) := by
  have e0 : Hid (primaryP inner s i = wdP inner s (skip s i)) := by unfold Hid primaryP; rw [if_neg h39, if_neg h64, if_neg h42]
  have HR := Lib.hid hr
  have hN := hr.lt; have hW := hr.ltW; clear hr
  have hle := skip_le hi
  have hs : s.size ≤ 1000000000 := by omega
  go_enter Tryz.func108, Tryz.ntmps108
  go_wp2_with fail
  refine (next_any N W s i d _ (HR.out.kept ((Kept.refl Nix w).alloc _) (fun h => h) (fun h => h)) hi hs).mono ?_
  rintro e w1 ⟨rfl, R1, K1⟩
  have b1 : (peek s (skip s i) == 39) = false := by simpa using h39
  have b2 : (peek s (skip s i) == 64) = false := by simpa using h64
  have b3 : (peek s (skip s i) == 42) = false := by simpa using h42
  have F1 : Hid (Five w.heap.size (.int .i64 0) (.string ⟨#[]⟩) (.int .i64 0) (.string ⟨#[]⟩) (.slice none 0 0) w1) := Five.kept (heap_alloc_new w _) K1 (by omega)
  have K1' : Hid (Kept (· = N) w w1) := ((Kept.refl _ w).alloc _).trans K1
  have RR1 := Lib.hid R1
  clear R1 K1 h39 h64 h42
  have hk := word_ok hle ht
  have hx : x.size ≤ 1000000 := by omega
  have hks : k ≤ s.size := by omega
  have hp : Hid (primaryP inner s i = argNumP s k 8) := by
    unfold Hid; rw [e0.out]; unfold wdP; rw [ht]; dsimp only; unfold kindP; rw [hkd, if_neg (by omega), if_neg (by omega), if_pos (by omega)]
  go_wp2_with fail
  refine (word_any N W s (skip s i) d _ RR1.out hle hs).mono ?_
  rintro e w2 ⟨K2, h⟩
  rw [ht] at h
  obtain ⟨_, rfl, rfl, R2⟩ := h
  have F2 := Lib.hid (F1.out.kept K2 (by omega))
  have K2' : Hid (Kept (· = N) w w2) := K1'.out.trans K2
  have q2 := R2.c2
  have RR2 := Lib.hid R2
  clear R2 K2 ht hk b1 b2 b3
  go_wp2_with fail
  refine (index_words W x _ RR2.out.words).mono ?_
  rintro e w3 ⟨rfl, rfl⟩
  rw [hkd]
  clear hkd q2
  go_wp2_with fail
  refine (need_any 40 N W (by decide) s k d _ RR2.out hks hs).mono ?_
  rintro e w3 ⟨k_, h⟩
  have F3 := Lib.hid (F2.out.kept k_ (by omega))
  have K3 := Lib.hid (K2'.out.trans k_); clear k_
  cases hn : needP 40 s k with
  | error er =>
    rw [hn] at h
    obtain rfl := h
    have hr : Hid (primaryP inner s i = .error er) := by unfold Hid; rw [hp.out]; unfold argNumP; rw [hn]
    clear hn
    go_wp2_with fail
    exact ret_err rfl hr.out K3.out
  | ok k1 =>
    rw [hn] at h
    obtain ⟨rfl, R3⟩ := h
    have RR3 := Lib.hid R3; clear R3
    have hk1 : k1 ≤ s.size := (need_ok hn).2.1
    have HN := Lib.hid hn; clear hn
    go_wp2_with fail
    refine (number_any N W s k1 d _ RR3.out hk1 hs).mono ?_
    rintro e w4 ⟨k_, h⟩
    have F4 := Lib.hid (F3.out.kept k_ (by omega))
    have K4 := Lib.hid (K3.out.trans k_); clear k_
    cases ht : numP s k1 with
    | error er =>
      rw [ht] at h
      obtain rfl := h
      have hr : Hid (primaryP inner s i = .error er) := by unfold Hid; rw [hp.out]; unfold argNumP; rw [HN.out]; dsimp only; rw [ht]
      clear ht
      go_wp2_with fail
      exact ret_err rfl hr.out K4.out
    | ok y =>
      obtain ⟨n, k2⟩ := y
      rw [ht] at h
      obtain ⟨_, rfl, rfl, R4⟩ := h
      have RR4 := Lib.hid R4; clear R4
      have hk2 : k2 ≤ s.size := (num_ok hk1 ht).2.1
      have HT := Lib.hid ht; clear ht
      go_wp2_with fail
      refine (need_any 41 N W (by decide) s k2 d _ RR4.out hk2 hs).mono ?_
      rintro e w5 ⟨k_, h⟩
      have F5 := Lib.hid (F4.out.kept k_ (by omega))
      have K5 := Lib.hid (K4.out.trans k_); clear k_
      cases hn : needP 41 s k2 with
      | error er =>
        rw [hn] at h
        obtain rfl := h
        have hr : Hid (primaryP inner s i = .error er) := by unfold Hid; rw [hp.out]; unfold argNumP; rw [HN.out]; dsimp only; rw [HT.out]; dsimp only; rw [hn]
        clear hn
        go_wp2_with fail
        exact ret_err rfl hr.out K5.out
      | ok k3 =>
        rw [hn] at h
        obtain ⟨rfl, R5⟩ := h
        have RR5 := Lib.hid R5; clear R5
        have hr : Hid (primaryP inner s i = .ok (.mk 8 E0 n E0 [], k3)) := by unfold Hid; rw [hp.out]; unfold argNumP; rw [HN.out]; dsimp only; rw [HT.out]; dsimp only; rw [hn]
        clear hn
        obtain ⟨c0, c1, c2, c3, c4, cf⟩ := F5.out.cells
        have f0 := cf 0; have f1 := cf 1; have f2 := cf 2; have f3 := cf 3; have f4 := cf 4; clear cf
        go_wp2_with fail
        exact ret_pat (p := .mk 8 E0 n E0 []) (S := Nix) rfl rfl F5.out RR5.out K5.out (Nat.le_refl _) hN hW hr.out ⟨e0_lt, e0_lt, len0_lt⟩ (fun b hb => hb.elim) (by unfold PatsAt; trivial)
set_option maxRecDepth 100000 in
set_option maxHeartbeats 4000000 in
theorem prim_num9 (N W : Nat) (s : ByteArray) (i d : Nat) (w : World) (inner : Nat → Res PatT) (hr : Rdr N W s i d w) (hi : i ≤ s.size) (hs6 : s.size ≤ 65536) (h39 : peek s (skip s i) ≠ 39) (h64 : peek s (skip s i) ≠ 64) (h42 : peek s (skip s i) ≠ 42) (x : ByteArray) (a k : Nat) (ht : wordP s (skip s i) = .ok ((x, a), k)) (hkd : kindOf x = 9) :
    Calls Tryz.prog 108 #[.pointer (some ⟨N, 0, none⟩)] w (RPost N W s d (primaryP inner s i) (patVal w.heap.size) w) := by
  have e0 : Hid (primaryP inner s i = wdP inner s (skip s i)) := by unfold Hid primaryP; rw [if_neg h39, if_neg h64, if_neg h42]
  have HR := Lib.hid hr
  have hN := hr.lt; have hW := hr.ltW; clear hr
  have hle := skip_le hi
  have hs : s.size ≤ 1000000000 := by omega
  go_enter Tryz.func108, Tryz.ntmps108
  go_wp2_with fail
  refine (next_any N W s i d _ (HR.out.kept ((Kept.refl Nix w).alloc _) (fun h => h) (fun h => h)) hi hs).mono ?_
  rintro e w1 ⟨rfl, R1, K1⟩
  have b1 : (peek s (skip s i) == 39) = false := by simpa using h39
  have b2 : (peek s (skip s i) == 64) = false := by simpa using h64
  have b3 : (peek s (skip s i) == 42) = false := by simpa using h42
  have F1 : Hid (Five w.heap.size (.int .i64 0) (.string ⟨#[]⟩) (.int .i64 0) (.string ⟨#[]⟩) (.slice none 0 0) w1) := Five.kept (heap_alloc_new w _) K1 (by omega)
  have K1' : Hid (Kept (· = N) w w1) := ((Kept.refl _ w).alloc _).trans K1
  have RR1 := Lib.hid R1
  clear R1 K1 h39 h64 h42
  have hk := word_ok hle ht
  have hx : x.size ≤ 1000000 := by omega
  have hks : k ≤ s.size := by omega
  have hp : Hid (primaryP inner s i = argNumP s k 9) := by
    unfold Hid; rw [e0.out]; unfold wdP; rw [ht]; dsimp only; unfold kindP; rw [hkd, if_neg (by omega), if_neg (by omega), if_pos (by omega)]
  go_wp2_with fail
  refine (word_any N W s (skip s i) d _ RR1.out hle hs).mono ?_
  rintro e w2 ⟨K2, h⟩
  rw [ht] at h
  obtain ⟨_, rfl, rfl, R2⟩ := h
  have F2 := Lib.hid (F1.out.kept K2 (by omega))
  have K2' : Hid (Kept (· = N) w w2) := K1'.out.trans K2
  have q2 := R2.c2
  have RR2 := Lib.hid R2
  clear R2 K2 ht hk b1 b2 b3
  go_wp2_with fail
  refine (index_words W x _ RR2.out.words).mono ?_
  rintro e w3 ⟨rfl, rfl⟩
  rw [hkd]
  clear hkd q2
  go_wp2_with fail
  refine (need_any 40 N W (by decide) s k d _ RR2.out hks hs).mono ?_
  rintro e w3 ⟨k_, h⟩
  have F3 := Lib.hid (F2.out.kept k_ (by omega))
  have K3 := Lib.hid (K2'.out.trans k_); clear k_
  cases hn : needP 40 s k with
  | error er =>
    rw [hn] at h
    obtain rfl := h
    have hr : Hid (primaryP inner s i = .error er) := by unfold Hid; rw [hp.out]; unfold argNumP; rw [hn]
    clear hn
    go_wp2_with fail
    exact ret_err rfl hr.out K3.out
  | ok k1 =>
    rw [hn] at h
    obtain ⟨rfl, R3⟩ := h
    have RR3 := Lib.hid R3; clear R3
    have hk1 : k1 ≤ s.size := (need_ok hn).2.1
    have HN := Lib.hid hn; clear hn
    go_wp2_with fail
    refine (number_any N W s k1 d _ RR3.out hk1 hs).mono ?_
    rintro e w4 ⟨k_, h⟩
    have F4 := Lib.hid (F3.out.kept k_ (by omega))
    have K4 := Lib.hid (K3.out.trans k_); clear k_
    cases ht : numP s k1 with
    | error er =>
      rw [ht] at h
      obtain rfl := h
      have hr : Hid (primaryP inner s i = .error er) := by unfold Hid; rw [hp.out]; unfold argNumP; rw [HN.out]; dsimp only; rw [ht]
      clear ht
      go_wp2_with fail
      exact ret_err rfl hr.out K4.out
    | ok y =>
      obtain ⟨n, k2⟩ := y
      rw [ht] at h
      obtain ⟨_, rfl, rfl, R4⟩ := h
      have RR4 := Lib.hid R4; clear R4
      have hk2 : k2 ≤ s.size := (num_ok hk1 ht).2.1
      have HT := Lib.hid ht; clear ht
      go_wp2_with fail
      refine (need_any 41 N W (by decide) s k2 d _ RR4.out hk2 hs).mono ?_
      rintro e w5 ⟨k_, h⟩
      have F5 := Lib.hid (F4.out.kept k_ (by omega))
      have K5 := Lib.hid (K4.out.trans k_); clear k_
      cases hn : needP 41 s k2 with
      | error er =>
        rw [hn] at h
        obtain rfl := h
        have hr : Hid (primaryP inner s i = .error er) := by unfold Hid; rw [hp.out]; unfold argNumP; rw [HN.out]; dsimp only; rw [HT.out]; dsimp only; rw [hn]
        clear hn
        go_wp2_with fail
        exact ret_err rfl hr.out K5.out
      | ok k3 =>
        rw [hn] at h
        obtain ⟨rfl, R5⟩ := h
        have RR5 := Lib.hid R5; clear R5
        have hr : Hid (primaryP inner s i = .ok (.mk 9 E0 n E0 [], k3)) := by unfold Hid; rw [hp.out]; unfold argNumP; rw [HN.out]; dsimp only; rw [HT.out]; dsimp only; rw [hn]
        clear hn
        obtain ⟨c0, c1, c2, c3, c4, cf⟩ := F5.out.cells
        have f0 := cf 0; have f1 := cf 1; have f2 := cf 2; have f3 := cf 3; have f4 := cf 4; clear cf
        go_wp2_with fail
        exact ret_pat (p := .mk 9 E0 n E0 []) (S := Nix) rfl rfl F5.out RR5.out K5.out (Nat.le_refl _) hN hW hr.out ⟨e0_lt, e0_lt, len0_lt⟩ (fun b hb => hb.elim) (by unfold PatsAt; trivial)
set_option maxRecDepth 100000 in
set_option maxHeartbeats 4000000 in
theorem prim_num10 (N W : Nat) (s : ByteArray) (i d : Nat) (w : World) (inner : Nat → Res PatT) (hr : Rdr N W s i d w) (hi : i ≤ s.size) (hs6 : s.size ≤ 65536) (h39 : peek s (skip s i) ≠ 39) (h64 : peek s (skip s i) ≠ 64) (h42 : peek s (skip s i) ≠ 42) (x : ByteArray) (a k : Nat) (ht : wordP s (skip s i) = .ok ((x, a), k)) (hkd : kindOf x = 10) :
    Calls Tryz.prog 108 #[.pointer (some ⟨N, 0, none⟩)] w (RPost N W s d (primaryP inner s i) (patVal w.heap.size) w) := by
  have e0 : Hid (primaryP inner s i = wdP inner s (skip s i)) := by unfold Hid primaryP; rw [if_neg h39, if_neg h64, if_neg h42]
  have HR := Lib.hid hr
  have hN := hr.lt; have hW := hr.ltW; clear hr
  have hle := skip_le hi
  have hs : s.size ≤ 1000000000 := by omega
  go_enter Tryz.func108, Tryz.ntmps108
  go_wp2_with fail
  refine (next_any N W s i d _ (HR.out.kept ((Kept.refl Nix w).alloc _) (fun h => h) (fun h => h)) hi hs).mono ?_
  rintro e w1 ⟨rfl, R1, K1⟩
  have b1 : (peek s (skip s i) == 39) = false := by simpa using h39
  have b2 : (peek s (skip s i) == 64) = false := by simpa using h64
  have b3 : (peek s (skip s i) == 42) = false := by simpa using h42
  have F1 : Hid (Five w.heap.size (.int .i64 0) (.string ⟨#[]⟩) (.int .i64 0) (.string ⟨#[]⟩) (.slice none 0 0) w1) := Five.kept (heap_alloc_new w _) K1 (by omega)
  have K1' : Hid (Kept (· = N) w w1) := ((Kept.refl _ w).alloc _).trans K1
  have RR1 := Lib.hid R1
  clear R1 K1 h39 h64 h42
  have hk := word_ok hle ht
  have hx : x.size ≤ 1000000 := by omega
  have hks : k ≤ s.size := by omega
  have hp : Hid (primaryP inner s i = argNumP s k 10) := by
    unfold Hid; rw [e0.out]; unfold wdP; rw [ht]; dsimp only; unfold kindP; rw [hkd, if_neg (by omega), if_neg (by omega), if_pos (by omega)]
  go_wp2_with fail
  refine (word_any N W s (skip s i) d _ RR1.out hle hs).mono ?_
  rintro e w2 ⟨K2, h⟩
  rw [ht] at h
  obtain ⟨_, rfl, rfl, R2⟩ := h
  have F2 := Lib.hid (F1.out.kept K2 (by omega))
  have K2' : Hid (Kept (· = N) w w2) := K1'.out.trans K2
  have q2 := R2.c2
  have RR2 := Lib.hid R2
  clear R2 K2 ht hk b1 b2 b3
  go_wp2_with fail
  refine (index_words W x _ RR2.out.words).mono ?_
  rintro e w3 ⟨rfl, rfl⟩
  rw [hkd]
  clear hkd q2
  go_wp2_with fail
  refine (need_any 40 N W (by decide) s k d _ RR2.out hks hs).mono ?_
  rintro e w3 ⟨k_, h⟩
  have F3 := Lib.hid (F2.out.kept k_ (by omega))
  have K3 := Lib.hid (K2'.out.trans k_); clear k_
  cases hn : needP 40 s k with
  | error er =>
    rw [hn] at h
    obtain rfl := h
    have hr : Hid (primaryP inner s i = .error er) := by unfold Hid; rw [hp.out]; unfold argNumP; rw [hn]
    clear hn
    go_wp2_with fail
    exact ret_err rfl hr.out K3.out
  | ok k1 =>
    rw [hn] at h
    obtain ⟨rfl, R3⟩ := h
    have RR3 := Lib.hid R3; clear R3
    have hk1 : k1 ≤ s.size := (need_ok hn).2.1
    have HN := Lib.hid hn; clear hn
    go_wp2_with fail
    refine (number_any N W s k1 d _ RR3.out hk1 hs).mono ?_
    rintro e w4 ⟨k_, h⟩
    have F4 := Lib.hid (F3.out.kept k_ (by omega))
    have K4 := Lib.hid (K3.out.trans k_); clear k_
    cases ht : numP s k1 with
    | error er =>
      rw [ht] at h
      obtain rfl := h
      have hr : Hid (primaryP inner s i = .error er) := by unfold Hid; rw [hp.out]; unfold argNumP; rw [HN.out]; dsimp only; rw [ht]
      clear ht
      go_wp2_with fail
      exact ret_err rfl hr.out K4.out
    | ok y =>
      obtain ⟨n, k2⟩ := y
      rw [ht] at h
      obtain ⟨_, rfl, rfl, R4⟩ := h
      have RR4 := Lib.hid R4; clear R4
      have hk2 : k2 ≤ s.size := (num_ok hk1 ht).2.1
      have HT := Lib.hid ht; clear ht
      go_wp2_with fail
      refine (need_any 41 N W (by decide) s k2 d _ RR4.out hk2 hs).mono ?_
      rintro e w5 ⟨k_, h⟩
      have F5 := Lib.hid (F4.out.kept k_ (by omega))
      have K5 := Lib.hid (K4.out.trans k_); clear k_
      cases hn : needP 41 s k2 with
      | error er =>
        rw [hn] at h
        obtain rfl := h
        have hr : Hid (primaryP inner s i = .error er) := by unfold Hid; rw [hp.out]; unfold argNumP; rw [HN.out]; dsimp only; rw [HT.out]; dsimp only; rw [hn]
        clear hn
        go_wp2_with fail
        exact ret_err rfl hr.out K5.out
      | ok k3 =>
        rw [hn] at h
        obtain ⟨rfl, R5⟩ := h
        have RR5 := Lib.hid R5; clear R5
        have hr : Hid (primaryP inner s i = .ok (.mk 10 E0 n E0 [], k3)) := by unfold Hid; rw [hp.out]; unfold argNumP; rw [HN.out]; dsimp only; rw [HT.out]; dsimp only; rw [hn]
        clear hn
        obtain ⟨c0, c1, c2, c3, c4, cf⟩ := F5.out.cells
        have f0 := cf 0; have f1 := cf 1; have f2 := cf 2; have f3 := cf 3; have f4 := cf 4; clear cf
        go_wp2_with fail
        exact ret_pat (p := .mk 10 E0 n E0 []) (S := Nix) rfl rfl F5.out RR5.out K5.out (Nat.le_refl _) hN hW hr.out ⟨e0_lt, e0_lt, len0_lt⟩ (fun b hb => hb.elim) (by unfold PatsAt; trivial)
set_option maxRecDepth 100000 in
set_option maxHeartbeats 4000000 in
theorem prim_num11 (N W : Nat) (s : ByteArray) (i d : Nat) (w : World) (inner : Nat → Res PatT) (hr : Rdr N W s i d w) (hi : i ≤ s.size) (hs6 : s.size ≤ 65536) (h39 : peek s (skip s i) ≠ 39) (h64 : peek s (skip s i) ≠ 64) (h42 : peek s (skip s i) ≠ 42) (x : ByteArray) (a k : Nat) (ht : wordP s (skip s i) = .ok ((x, a), k)) (hkd : kindOf x = 11) :
    Calls Tryz.prog 108 #[.pointer (some ⟨N, 0, none⟩)] w (RPost N W s d (primaryP inner s i) (patVal w.heap.size) w) := by
  have e0 : Hid (primaryP inner s i = wdP inner s (skip s i)) := by unfold Hid primaryP; rw [if_neg h39, if_neg h64, if_neg h42]
  have HR := Lib.hid hr
  have hN := hr.lt; have hW := hr.ltW; clear hr
  have hle := skip_le hi
  have hs : s.size ≤ 1000000000 := by omega
  go_enter Tryz.func108, Tryz.ntmps108
  go_wp2_with fail
  refine (next_any N W s i d _ (HR.out.kept ((Kept.refl Nix w).alloc _) (fun h => h) (fun h => h)) hi hs).mono ?_
  rintro e w1 ⟨rfl, R1, K1⟩
  have b1 : (peek s (skip s i) == 39) = false := by simpa using h39
  have b2 : (peek s (skip s i) == 64) = false := by simpa using h64
  have b3 : (peek s (skip s i) == 42) = false := by simpa using h42
  have F1 : Hid (Five w.heap.size (.int .i64 0) (.string ⟨#[]⟩) (.int .i64 0) (.string ⟨#[]⟩) (.slice none 0 0) w1) := Five.kept (heap_alloc_new w _) K1 (by omega)
  have K1' : Hid (Kept (· = N) w w1) := ((Kept.refl _ w).alloc _).trans K1
  have RR1 := Lib.hid R1
  clear R1 K1 h39 h64 h42
  have hk := word_ok hle ht
  have hx : x.size ≤ 1000000 := by omega
  have hks : k ≤ s.size := by omega
  have hp : Hid (primaryP inner s i = argNumP s k 11) := by
    unfold Hid; rw [e0.out]; unfold wdP; rw [ht]; dsimp only; unfold kindP; rw [hkd, if_neg (by omega), if_neg (by omega), if_pos (by omega)]
  go_wp2_with fail
  refine (word_any N W s (skip s i) d _ RR1.out hle hs).mono ?_
  rintro e w2 ⟨K2, h⟩
  rw [ht] at h
  obtain ⟨_, rfl, rfl, R2⟩ := h
  have F2 := Lib.hid (F1.out.kept K2 (by omega))
  have K2' : Hid (Kept (· = N) w w2) := K1'.out.trans K2
  have q2 := R2.c2
  have RR2 := Lib.hid R2
  clear R2 K2 ht hk b1 b2 b3
  go_wp2_with fail
  refine (index_words W x _ RR2.out.words).mono ?_
  rintro e w3 ⟨rfl, rfl⟩
  rw [hkd]
  clear hkd q2
  go_wp2_with fail
  refine (need_any 40 N W (by decide) s k d _ RR2.out hks hs).mono ?_
  rintro e w3 ⟨k_, h⟩
  have F3 := Lib.hid (F2.out.kept k_ (by omega))
  have K3 := Lib.hid (K2'.out.trans k_); clear k_
  cases hn : needP 40 s k with
  | error er =>
    rw [hn] at h
    obtain rfl := h
    have hr : Hid (primaryP inner s i = .error er) := by unfold Hid; rw [hp.out]; unfold argNumP; rw [hn]
    clear hn
    go_wp2_with fail
    exact ret_err rfl hr.out K3.out
  | ok k1 =>
    rw [hn] at h
    obtain ⟨rfl, R3⟩ := h
    have RR3 := Lib.hid R3; clear R3
    have hk1 : k1 ≤ s.size := (need_ok hn).2.1
    have HN := Lib.hid hn; clear hn
    go_wp2_with fail
    refine (number_any N W s k1 d _ RR3.out hk1 hs).mono ?_
    rintro e w4 ⟨k_, h⟩
    have F4 := Lib.hid (F3.out.kept k_ (by omega))
    have K4 := Lib.hid (K3.out.trans k_); clear k_
    cases ht : numP s k1 with
    | error er =>
      rw [ht] at h
      obtain rfl := h
      have hr : Hid (primaryP inner s i = .error er) := by unfold Hid; rw [hp.out]; unfold argNumP; rw [HN.out]; dsimp only; rw [ht]
      clear ht
      go_wp2_with fail
      exact ret_err rfl hr.out K4.out
    | ok y =>
      obtain ⟨n, k2⟩ := y
      rw [ht] at h
      obtain ⟨_, rfl, rfl, R4⟩ := h
      have RR4 := Lib.hid R4; clear R4
      have hk2 : k2 ≤ s.size := (num_ok hk1 ht).2.1
      have HT := Lib.hid ht; clear ht
      go_wp2_with fail
      refine (need_any 41 N W (by decide) s k2 d _ RR4.out hk2 hs).mono ?_
      rintro e w5 ⟨k_, h⟩
      have F5 := Lib.hid (F4.out.kept k_ (by omega))
      have K5 := Lib.hid (K4.out.trans k_); clear k_
      cases hn : needP 41 s k2 with
      | error er =>
        rw [hn] at h
        obtain rfl := h
        have hr : Hid (primaryP inner s i = .error er) := by unfold Hid; rw [hp.out]; unfold argNumP; rw [HN.out]; dsimp only; rw [HT.out]; dsimp only; rw [hn]
        clear hn
        go_wp2_with fail
        exact ret_err rfl hr.out K5.out
      | ok k3 =>
        rw [hn] at h
        obtain ⟨rfl, R5⟩ := h
        have RR5 := Lib.hid R5; clear R5
        have hr : Hid (primaryP inner s i = .ok (.mk 11 E0 n E0 [], k3)) := by unfold Hid; rw [hp.out]; unfold argNumP; rw [HN.out]; dsimp only; rw [HT.out]; dsimp only; rw [hn]
        clear hn
        obtain ⟨c0, c1, c2, c3, c4, cf⟩ := F5.out.cells
        have f0 := cf 0; have f1 := cf 1; have f2 := cf 2; have f3 := cf 3; have f4 := cf 4; clear cf
        go_wp2_with fail
        exact ret_pat (p := .mk 11 E0 n E0 []) (S := Nix) rfl rfl F5.out RR5.out K5.out (Nat.le_refl _) hN hW hr.out ⟨e0_lt, e0_lt, len0_lt⟩ (fun b hb => hb.elim) (by unfold PatsAt; trivial)
end Go.Proofs.YtlnhcgihpclpaaaGreatDoor
