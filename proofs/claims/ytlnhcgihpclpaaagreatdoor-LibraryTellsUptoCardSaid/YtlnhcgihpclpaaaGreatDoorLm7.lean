/- The reader of patterns: ARBNO; primary, whole. The reader of patterns: inner. -/
import Derived.Test.YtlnhcgihpclpaaaGreatDoorRd8
namespace Go.Proofs.YtlnhcgihpclpaaaGreatDoor
set_option linter.all false
open Go.RowKit

theorem PatsAt_one {w : World} {S : Nat → Prop} {b o : Nat} {p : PatT} (h : PatAt w S b o p) : PatsAt w S (some ⟨b, o, none⟩) [p] := by
  unfold PatsAt; exact ⟨b, o, rfl, h, by unfold PatsAt; trivial⟩
theorem PatV.kept' {w w' : World} {S X : Nat → Prop} {v : Value} {p : PatT} (h : PatV w S v p) (hk : Kept X w w') (hs : Safe S X w.heap.size) : PatV w' S v p := by
  obtain ⟨ka, cap, rfl, hz, hp⟩ := h; exact ⟨ka, cap, rfl, hz, hp.kept hk hs⟩
def InnerFwd (s : ByteArray) (inner : Nat → Res PatT) : Prop := ∀ i p k, i ≤ s.size → inner i = .ok (p, k) → i < k ∧ k ≤ s.size
set_option maxRecDepth 100000 in
set_option maxHeartbeats 4000000 in
theorem prim_arbno (N W : Nat) (s : ByteArray) (i d : Nat) (w : World) (inner : Nat → Res PatT) (hr : Rdr N W s i d w) (hi : i ≤ s.size) (hs6 : s.size ≤ 65536) (h39 : peek s (skip s i) ≠ 39) (h64 : peek s (skip s i) ≠ 64) (h42 : peek s (skip s i) ≠ 42) (x : ByteArray) (a k : Nat) (ht : wordP s (skip s i) = .ok ((x, a), k)) (hkd : kindOf x = 20) (hin : InnerOk N W s d inner) (hfw : InnerFwd s inner) :
    Calls Tryz.prog 108 #[.pointer (some ⟨N, 0, none⟩)] w (RPost N W s d (primaryP inner s i) (patVal w.heap.size) w) := by
  have e0 : Hid (primaryP inner s i = wdP inner s (skip s i)) := by unfold Hid primaryP; rw [if_neg h39, if_neg h64, if_neg h42]
  have HR := Lib.hid hr
  have hN := hr.lt; have hW := hr.ltW; clear hr
  have hle := skip_le hi
  have hs : s.size ≤ 1000000000 := by omega
  go_enter Tryz.func108, Tryz.ntmps108
  go_wp2_with fail
  refine (next_any N W s i d _ (HR.out.kept ((Kept.refl Nix w).alloc _) (fun h => h) (fun h => h)) hi hs).mono ?_
  rintro e w1 ⟨rfl, R1, K1⟩
  have b1 : (peek s (skip s i) == 39) = false := by simpa using h39
  have b2 : (peek s (skip s i) == 64) = false := by simpa using h64
  have b3 : (peek s (skip s i) == 42) = false := by simpa using h42
  have F1 : Hid (Five w.heap.size (.int .i64 0) (.string ⟨#[]⟩) (.int .i64 0) (.string ⟨#[]⟩) (.slice none 0 0) w1) := Five.kept (heap_alloc_new w _) K1 (by omega)
  have K1' : Hid (Kept (· = N) w w1) := ((Kept.refl _ w).alloc _).trans K1
  have RR1 := Lib.hid R1
  clear R1 K1 h39 h64 h42
  have hk := word_ok hle ht
  have hx : x.size ≤ 1000000 := by omega
  have hks : k ≤ s.size := by omega
  have hp : Hid (primaryP inner s i = argPatP inner s k 20) := by
    unfold Hid; rw [e0.out]; unfold wdP; rw [ht]; dsimp only; unfold kindP; rw [hkd, if_neg (by omega), if_neg (by omega), if_neg (by omega), if_pos rfl]
  go_wp2_with fail
  refine (word_any N W s (skip s i) d _ RR1.out hle hs).mono ?_
  rintro e w2 ⟨K2, h⟩
  rw [ht] at h
  obtain ⟨_, rfl, rfl, R2⟩ := h
  have F2 := Lib.hid (F1.out.kept K2 (by omega))
  have K2' : Hid (Kept (· = N) w w2) := K1'.out.trans K2
  have q2 := R2.c2
  have RR2 := Lib.hid R2
  clear R2 K2 ht hk b1 b2 b3
  go_wp2_with fail
  refine (index_words W x _ RR2.out.words).mono ?_
  rintro e w3 ⟨rfl, rfl⟩
  rw [hkd]
  clear hkd q2
  have HIN := Lib.hid hin; have HFW := Lib.hid hfw; clear hin hfw
  go_wp2_with fail
  refine (need_any 40 N W (by decide) s k d _ RR2.out hks hs).mono ?_
  rintro e w3 ⟨k_, h⟩
  have F3 := Lib.hid (F2.out.kept k_ (by omega))
  have K3 := Lib.hid (K2'.out.trans k_); clear k_
  cases hn : needP 40 s k with
  | error er =>
    rw [hn] at h
    obtain rfl := h
    have hr : Hid (primaryP inner s i = .error er) := by unfold Hid; rw [hp.out]; unfold argPatP; rw [hn]
    clear hn
    go_wp2_with fail
    exact ret_err rfl hr.out K3.out
  | ok k1 =>
    rw [hn] at h
    obtain ⟨rfl, R3⟩ := h
    have RR3 := Lib.hid R3; clear R3
    have hk1 : k1 ≤ s.size := (need_ok hn).2.1
    have HN := Lib.hid hn; clear hn
    go_wp2_with fail
    refine (HIN.out k1 _ RR3.out hk1).mono ?_
    rintro e w4 ⟨k_, h⟩
    have F4 := Lib.hid (F3.out.kept k_ (by omega))
    have K4 := Lib.hid (K3.out.trans k_); clear k_
    cases ht : inner k1 with
    | error er =>
      rw [ht] at h
      obtain rfl := h
      have hr : Hid (primaryP inner s i = .error er) := by unfold Hid; rw [hp.out]; unfold argPatP; rw [HN.out]; dsimp only; rw [ht]
      clear ht
      go_wp2_with fail
      exact ret_err rfl hr.out K4.out
    | ok y =>
      obtain ⟨q, k2⟩ := y
      rw [ht] at h
      obtain ⟨_, rfl, ⟨S, hS, hq⟩, R4⟩ := h
      obtain ⟨ka, cap, rfl, hz, hk⟩ := hq
      have hk2 : k2 ≤ s.size := (HFW.out _ _ _ hk1 ht).2
      have HT := Lib.hid ht; clear ht
      have h34 := K3.out.size
      have hlt4 : N < w4.heap.size ∧ W < w4.heap.size := ⟨R4.lt, R4.ltW⟩
      have RR4 := Lib.hid (R4.kept ((Kept.refl Nix w4).alloc (.cells #[.int .i64 q.kind, .string q.text, .int .i64 q.n, .string q.name, .slice ka q.kids.length cap] 47)) (fun h => h) (fun h => h))
      have P4 : Hid (Five w4.heap.size (.int .i64 q.kind) (.string q.text) (.int .i64 q.n) (.string q.name) (.slice ka q.kids.length cap) (w4.alloc (.cells #[.int .i64 q.kind, .string q.text, .int .i64 q.n, .string q.name, .slice ka q.kids.length cap] 47))) := heap_alloc_new w4 _
      have V4 : Hid (PatV w4 S (.agg #[.int .i64 q.kind, .string q.text, .int .i64 q.n, .string q.name, .slice ka q.kids.length cap]) q) := ⟨ka, cap, rfl, hz, hk⟩
      have HS := Lib.hid hS
      clear R4 hz hk hS
      go_wp2_with fail
      refine (need_any 41 N W (by decide) s k2 d _ RR4.out hk2 hs).mono ?_
      rintro e w5 ⟨k_, h⟩
      have F5 := Lib.hid ((F4.out.kept ((Kept.refl Nix w4).alloc (.cells #[.int .i64 q.kind, .string q.text, .int .i64 q.n, .string q.name, .slice ka q.kids.length cap] 47)) (fun h => h)).kept k_ (by omega))
      have K5 := Lib.hid ((K4.out.alloc (.cells #[.int .i64 q.kind, .string q.text, .int .i64 q.n, .string q.name, .slice ka q.kids.length cap] 47)).trans k_)
      have P5 := Lib.hid (P4.out.kept k_ (by omega))
      have V5 := Lib.hid (V4.out.kept' (((Kept.refl (· = N) w4).alloc (.cells #[.int .i64 q.kind, .string q.text, .int .i64 q.n, .string q.name, .slice ka q.kids.length cap] 47)).trans k_) (fun b hb => ⟨(HS.out b hb).2, by have := (HS.out b hb).1; omega⟩))
      have hsz5 : w4.heap.size < w5.heap.size := by have := k_.size; simp at this; omega
      clear k_
      cases hn : needP 41 s k2 with
      | error er =>
        rw [hn] at h
        obtain rfl := h
        have hr : Hid (primaryP inner s i = .error er) := by unfold Hid; rw [hp.out]; unfold argPatP; rw [HN.out]; dsimp only; rw [HT.out]; dsimp only; rw [hn]
        clear hn
        go_wp2_with fail
        exact ret_err rfl hr.out K5.out
      | ok k3 =>
        rw [hn] at h
        obtain ⟨rfl, R5⟩ := h
        have RR5 := Lib.hid R5; clear R5
        have hr : Hid (primaryP inner s i = .ok (.mk 20 E0 0 E0 [q], k3)) := by unfold Hid; rw [hp.out]; unfold argPatP; rw [HN.out]; dsimp only; rw [HT.out]; dsimp only; rw [hn]
        clear hn
        obtain ⟨c0, c1, c2, c3, c4, cf⟩ := F5.out.cells
        have f0 := cf 0; have f1 := cf 1; have f2 := cf 2; have f3 := cf 3; have f4 := cf 4; clear cf
        obtain ⟨p0, p1, p2, p3, p4, _⟩ := P5.out.cells
        have hS5 : ∀ b, S b → b < w5.heap.size := fun b hb => Nat.lt_trans (HS.out b hb).2 hsz5
        obtain ⟨cc, hcc, hbx⟩ := V5.out.box 47 hS5
        simp only [Value.agg.injEq] at hcc
        subst hcc
        have BX := Lib.hid (PatsAt_one hbx)
        have HS5 := Lib.hid hS5
        have hw5 := K5.out.size
        have hlt5 : w.heap.size < w5.heap.size := F5.out.lt
        clear hbx hS5
        go_wp2_with fail
        refine ret_patA (p := .mk 20 E0 0 E0 [q]) (ka := some ⟨w5.heap.size, 0, none⟩) (cap := 1) (S := fun b => S b ∨ b = w5.heap.size) rfl rfl F5.out RR5.out K5.out (Nat.le_refl _) hN hW hr.out ⟨e0_lt, e0_lt, len1_lt q⟩ (fun b hb => ?_) BX.out
        have h3 := K3.out.size; have h3l := F3.out.lt
        rcases hb with hb | rfl
        · have := HS.out b hb; omega
        · omega

theorem primary_any (N W : Nat) (s : ByteArray) (i d : Nat) (w : World) (inner : Nat → Res PatT) (hin : InnerOk N W s d inner) (hfw : InnerFwd s inner) (hr : Rdr N W s i d w) (hi : i ≤ s.size) (hs6 : s.size ≤ 65536) :
    Calls Tryz.prog 108 #[.pointer (some ⟨N, 0, none⟩)] w (RPost N W s d (primaryP inner s i) (patVal w.heap.size) w) := by
  by_cases h39 : peek s (skip s i) = 39
  · exact prim_lit N W s i d w inner hr hi hs6 h39
  by_cases h64 : peek s (skip s i) = 64
  · exact prim_at N W s i d w inner hr hi hs6 h64
  by_cases h42 : peek s (skip s i) = 42
  · exact prim_star N W s i d w inner hr hi hs6 h42
  cases ht : wordP s (skip s i) with
  | error er => exact prim_noword N W s i d w inner hr hi hs6 h39 h64 h42 er ht
  | ok x =>
    obtain ⟨⟨x, a⟩, k⟩ := x
    by_cases hb : kindOf x = -1 ∨ kindOf x = 0
    · exact prim_bad N W s i d w inner hr hi hs6 h39 h64 h42 x a k ht hb
    by_cases h20 : kindOf x = 20
    · exact prim_arbno N W s i d w inner hr hi hs6 h39 h64 h42 x a k ht h20 hin hfw
    by_cases h2 : kindOf x = 2
    · exact prim_num2 N W s i d w inner hr hi hs6 h39 h64 h42 x a k ht h2
    by_cases h3 : kindOf x = 3
    · exact prim_text3 N W s i d w inner hr hi hs6 h39 h64 h42 x a k ht h3
    by_cases h4 : kindOf x = 4
    · exact prim_text4 N W s i d w inner hr hi hs6 h39 h64 h42 x a k ht h4
    by_cases h5 : kindOf x = 5
    · exact prim_text5 N W s i d w inner hr hi hs6 h39 h64 h42 x a k ht h5
    by_cases h6 : kindOf x = 6
    · exact prim_text6 N W s i d w inner hr hi hs6 h39 h64 h42 x a k ht h6
    by_cases h7 : kindOf x = 7
    · exact prim_text7 N W s i d w inner hr hi hs6 h39 h64 h42 x a k ht h7
    by_cases h8 : kindOf x = 8
    · exact prim_num8 N W s i d w inner hr hi hs6 h39 h64 h42 x a k ht h8
    by_cases h9 : kindOf x = 9
    · exact prim_num9 N W s i d w inner hr hi hs6 h39 h64 h42 x a k ht h9
    by_cases h10 : kindOf x = 10
    · exact prim_num10 N W s i d w inner hr hi hs6 h39 h64 h42 x a k ht h10
    by_cases h11 : kindOf x = 11
    · exact prim_num11 N W s i d w inner hr hi hs6 h39 h64 h42 x a k ht h11
    exact prim_plain N W s i d w inner hr hi hs6 h39 h64 h42 x a k ht (kindOf x) rfl (by omega)
end Go.Proofs.YtlnhcgihpclpaaaGreatDoor

namespace Go.Proofs.YtlnhcgihpclpaaaGreatDoor
set_option linter.all false
open Go.RowKit

theorem Kept.setN {N : Nat} {a w : World} (h : Kept (· = N) a w) (o : Nat) (u : Value) : Kept (· = N) a (w.setCell ⟨N, o, none⟩ u) := h.setCell (p := ⟨N, o, none⟩) (.inl rfl) u
def AltOk (N W : Nat) (s : ByteArray) (d : Nat) (alt : Nat → Res PatT) : Prop :=
  ∀ (i : Nat) (w : World), Rdr N W s i d w → i ≤ s.size → Calls Tryz.prog 95 #[.pointer (some ⟨N, 0, none⟩)] w (RPost N W s d (alt i) (patVal w.heap.size) w)

set_option maxRecDepth 100000 in
set_option maxHeartbeats 1000000 in
theorem inner_deep (N W : Nat) (s : ByteArray) : InnerOk N W s 200 (innerP s 0) := by
  intro i w hr hi
  have HR := Lib.hid hr; clear hr
  have R1 := (HR.out.kept ((Kept.refl Nix w).alloc (.cells #[.int .i64 0, .string ⟨#[]⟩, .int .i64 0, .string ⟨#[]⟩, .slice none 0 0] 47)) (fun h => h) (fun h => h))
  have q3 := R1.c3; have f3 := R1.fr 3; have q1 := R1.c1
  have K : Hid (∀ u, Kept (· = N) w ((w.alloc (.cells #[.int .i64 0, .string ⟨#[]⟩, .int .i64 0, .string ⟨#[]⟩, .slice none 0 0] 47)).setCell ⟨N, 3, none⟩ u)) := fun u => ((Kept.refl _ w).alloc _).setN 3 u
  clear R1
  go_enter Tryz.func106, Tryz.ntmps106
  go_wp2_with fail
  refine (fail_any _ 4 i _).mono ?_
  rintro e w2 ⟨rfl, rfl⟩
  go_wp2_with fail
  first | exact ret_err rfl rfl (K.out _) | trace_state

set_option maxRecDepth 100000 in
set_option maxHeartbeats 1000000 in
theorem inner_more (N W : Nat) (s : ByteArray) (d m : Nat) (hm : 200 = d + (m + 1)) (ha : AltOk N W s (d + 1) (altP (innerP s m) s)) : InnerOk N W s d (innerP s (m + 1)) := by
  intro i w hr hi
  have HR := Lib.hid hr; have HA := Lib.hid ha
  have hN := hr.lt; have hW := hr.ltW; clear hr ha
  have q3 := HR.out.c3; have f3 := HR.out.fr 3; have q1 := HR.out.c1
  have K : Hid (Kept (· = N) w ((w.setCell ⟨N, 3, none⟩ (.int .i64 ((d + 1 : Nat) : Int))).alloc (.cells #[.int .i64 0, .string ⟨#[]⟩, .int .i64 0, .string ⟨#[]⟩, .slice none 0 0] 47))) := ((Kept.refl _ w).setN 3 _).alloc _
  have R2 := Lib.hid ((HR.out.setDepth (d + 1)).kept ((Kept.refl Nix _).alloc (.cells #[.int .i64 0, .string ⟨#[]⟩, .int .i64 0, .string ⟨#[]⟩, .slice none 0 0] 47)) (fun h => h) (fun h => h))
  have F0 : Hid (Five w.heap.size (.int .i64 0) (.string ⟨#[]⟩) (.int .i64 0) (.string ⟨#[]⟩) (.slice none 0 0) ((w.setCell ⟨N, 3, none⟩ (.int .i64 ((d + 1 : Nat) : Int))).alloc (.cells #[.int .i64 0, .string ⟨#[]⟩, .int .i64 0, .string ⟨#[]⟩, .slice none 0 0] 47))) :=
    heap_new2 (by simp [World.setCell])
  have hd1 : d ≤ 199 := by omega
  have e0 : Hid (innerP s (m + 1) i = altP (innerP s m) s i) := rfl
  clear hm
  go_enter Tryz.func106, Tryz.ntmps106
  go_wp2_with fail
  refine (HA.out i _ R2.out hi).mono ?_
  rintro e w2 ⟨k_, h⟩
  have F2 := Lib.hid (F0.out.kept k_ (by omega))
  have K2 := Lib.hid (K.out.trans k_)
  have hsz := k_.size
  simp at hsz
  clear k_
  cases ht : altP (innerP s m) s i with
  | error er =>
    rw [ht] at h
    obtain rfl := h
    have hr : Hid (innerP s (m + 1) i = .error er) := by unfold Hid; rw [e0.out, ht]
    clear ht q3 f3 q1
    go_wp2_with fail
    exact ret_err rfl hr.out K2.out
  | ok y =>
    obtain ⟨p, k⟩ := y
    rw [ht] at h
    obtain ⟨_, rfl, ⟨S, hS, ⟨ka, cap, rfl, hz, hk⟩⟩, R3⟩ := h
    have hr : Hid (innerP s (m + 1) i = .ok (p, k)) := by unfold Hid; rw [e0.out, ht]
    have hlt3 := R3.lt
    have g3 := R3.c3; have gf := R3.fr 3
    obtain ⟨W2, hW2⟩ : ∃ W2 : World, W2 = (w2.setCell ⟨N, 3, none⟩ (.int .i64 (d : Int))).alloc (.cells #[.int .i64 p.kind, .string p.text, .int .i64 p.n, .string p.name, .slice ka p.kids.length cap] 47) := ⟨_, rfl⟩
    have kw : Kept (· = N) w2 W2 := by rw [hW2]; exact ((Kept.refl _ w2).setN 3 _).alloc _
    have RW := (R3.setDepth d).kept ((Kept.refl Nix _).alloc (.cells #[.int .i64 p.kind, .string p.text, .int .i64 p.n, .string p.name, .slice ka p.kids.length cap] 47)) (fun h => h) (fun h => h)
    rw [← hW2] at RW
    have FW := Lib.hid (F2.out.kept kw (by omega))
    have PW : Five w2.heap.size (.int .i64 p.kind) (.string p.text) (.int .i64 p.n) (.string p.name) (.slice ka p.kids.length cap) W2 := by
      rw [hW2]; exact heap_new2 (by simp [World.setCell])
    have KW := Lib.hid (K2.out.trans kw)
    have HKK := Lib.hid (hk.kept kw (fun b hb => ⟨(hS b hb).2, by have := (hS b hb).1; simp at this; omega⟩))
    have HS := Lib.hid hS; have HZ := Lib.hid hz
    have hsW : Hid (w2.heap.size < W2.heap.size) := PW.lt
    obtain ⟨c0, c1, c2, c3, c4, cf⟩ := FW.out.cells
    have f0 := cf 0; have f1 := cf 1; have f2 := cf 2; have f3' := cf 3; have f4 := cf 4; clear cf
    obtain ⟨p0, p1, p2, p3, p4, _⟩ := PW.cells
    have RWW := Lib.hid RW
    clear ht q3 f3 q1 R3 hk hz hS RW PW kw
    have ed : ((d + 1 : Nat) : Int) - 1 = d := by omega
    have ed2 : (d : Int) + 1 - 1 = d := by omega
    go_upto_region 6 with fail
    rw [← hW2]
    clear hW2 g3 gf
    go_wp2_with fail
    refine ret_pat (p := p) (S := S) rfl rfl FW.out RWW.out KW.out (Nat.le_refl _) hN hW hr.out HZ.out (fun b hb => ?_) HKK.out
    have h1 := HS.out b hb; have h2 := hsW.out; simp at h1; omega
end Go.Proofs.YtlnhcgihpclpaaaGreatDoor
