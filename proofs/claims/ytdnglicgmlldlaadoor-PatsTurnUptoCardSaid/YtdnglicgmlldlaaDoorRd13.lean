/- The reader of patterns: alt and cat. -/
import Derived.Test.YtdnglicgmlldlaaDoorRd12
namespace Go.Proofs.YtdnglicgmlldlaaDoor
open Go.RowKit

def CatOk (N W : Nat) (s : ByteArray) (d : Nat) (cat : Nat → Res PatT) : Prop :=
  ∀ (i : Nat) (w : World), Rdr N W s i d w → i ≤ s.size → Calls Tryd.prog 39 #[.pointer (some ⟨N, 0, none⟩)] w (RPost N W s d (cat i) (patVal w.heap.size) w)
def ItemOk (N W : Nat) (s : ByteArray) (d : Nat) (item : Nat → Res PatT) : Prop :=
  ∀ (i : Nat) (w : World), Rdr N W s i d w → i ≤ s.size → Calls Tryd.prog 47 #[.pointer (some ⟨N, 0, none⟩)] w (RPost N W s d (item i) (patVal w.heap.size) w)

set_option maxRecDepth 100000 in
set_option maxHeartbeats 4000000 in
theorem alt_any (N W : Nat) (s : ByteArray) (i d : Nat) (w : World) (inner : Nat → Res PatT) (hc : CatOk N W s d (catP inner s)) (hf : InnerFwd s (catP inner s)) (hr : Rdr N W s i d w) (hi : i ≤ s.size) (hs6 : s.size ≤ 65536) :
    Calls Tryd.prog 19 #[.pointer (some ⟨N, 0, none⟩)] w (RPost N W s d (altP inner s i) (patVal w.heap.size) w) := by
  have HR := Lib.hid hr; have HC := Lib.hid hc; have HF := Lib.hid hf
  have hN := hr.lt; have hW := hr.ltW; clear hr hc hf
  have hs : s.size ≤ 1000000000 := by omega
  obtain ⟨i0, hi0, hz0, hz1, hz2⟩ := info_parts Tryd.infoP
  have Z0 : Hid (Zero5 w.heap.size (w.alloc (.cells #[.int .i64 0, .string ⟨#[]⟩, .int .i64 0, .string ⟨#[]⟩, .slice none 0 0] 24))) := heap_alloc_new w _
  have K0 : Hid (Kept (· = N) w (w.alloc (.cells #[.int .i64 0, .string ⟨#[]⟩, .int .i64 0, .string ⟨#[]⟩, .slice none 0 0] 24))) := (Kept.refl _ w).alloc _
  go_enter Tryd.func19, Tryd.ntmps19
  go_wp2_with fail
  refine (HC.out i _ (HR.out.kept ((Kept.refl Nix w).alloc _) (fun h => h) (fun h => h)) hi).mono ?_
  rintro e w2 ⟨k_, h⟩
  have Z2 := Lib.hid (Five.kept Z0.out k_ (by omega)); have K2 := Lib.hid (K0.out.trans k_)
  have hsz2 := k_.size
  clear k_
  cases ht : (catP inner s) i with
  | error er =>
    rw [ht] at h
    obtain rfl := h
    have hr : Hid (altP inner s i = .error er) := by unfold Hid altP; rw [ht]
    clear ht
    go_wp2_with fail
    exact ret_err rfl hr.out K2.out
  | ok y =>
    obtain ⟨p, k0⟩ := y
    rw [ht] at h
    obtain ⟨_, rfl, ⟨S, hS, ⟨ka, cap, rfl, hz, hk⟩⟩, R2⟩ := h
    have hk0 := HF.out _ _ _ hi ht
    have LS := Lib.hid (list_start (cap := cap) hN (w1 := w.alloc (.cells #[.int .i64 0, .string ⟨#[]⟩, .int .i64 0, .string ⟨#[]⟩, .slice none 0 0] 24)) (by simp) hsz2 R2 Z2.out K2.out hz hS hk (by omega))
    have E0' : Hid (altP inner s i = altGo inner s (s.size + 1 - k0) [p] k0) := by unfold Hid altP; rw [ht]
    clear ht hz hS hk R2 hsz2 Z0 K0 Z2 K2
    go_wp2_with fail
    go_loopg [3] (s.size + 1 - k0) (fun f v wr => ∃ (l : List PatT) (k : Nat) (a : Option Addr) (c : Nat), s.size + 1 - k ≤ f ∧ k ≤ s.size ∧ 0 < l.length ∧ l.length ≤ k ∧ v = .slice a l.length c ∧ Hid (ListI N W s d w l k v wr) ∧ Hid (altP inner s i = altGo inner s f l k))
    case atStart => exact ⟨[p], k0, _, _, Nat.le_refl _, hk0.2, by simp, by simp; omega, rfl, LS, E0'⟩
    case round =>
      obtain ⟨l, k, a, c, hf, hk, hl0, hlk, rfl, I, E⟩ := hrel
      obtain ⟨f, hgk⟩ : ∃ f, gk = f + 1 := ⟨gk - 1, by omega⟩
      have E1 := E.out
      rw [hgk, altGo] at E1
      have hf2 : s.size - k ≤ f := by omega
      have hfl : f < gk := by omega
      have EE := Lib.hid E1
      clear hgk hf E LS E0' hk0 E1
      go_wp2_with fail
      refine (is_any 124 N W (by decide) s k d _ I.out.rdr hk hs).mono ?_
      rintro e w1 ⟨rfl, R1, K1⟩
      have E1 := EE.out; clear EE
      have hj := isP_le (c := 124) hk
      cases hb : (isP 124 s k).1 with
      | true =>
        rw [if_pos hb] at E1
        have hlt1 := isP_lt hb
        have I1 := Lib.hid (I.out.next hN K1 R1 (by omega))
        generalize (isP 124 s k).2 = j at *
        replace hj := hj.1
        clear I R1 K1 hb
        have HE := Lib.hid E1
        clear E1
        go_wp2_with fail
        refine (HC.out j _ I1.out.rdr hj).mono ?_
        rintro e w2 ⟨k_, h⟩
        cases ht : (catP inner s) j with
        | error er =>
          rw [ht] at h
          obtain rfl := h
          have hr : Hid (altP inner s i = .error er) := by unfold Hid; rw [HE.out, ht]
          have KE := Lib.hid (I1.out.kept.trans k_)
          clear ht k_
          go_wp2_with fail
          exact ret_err rfl hr.out KE.out
        | ok y =>
          obtain ⟨q, k2⟩ := y
          rw [ht] at h
          obtain ⟨_, rfl, ⟨S2, hS2, ⟨ka, cap, rfl, hz, hq⟩⟩, R2⟩ := h
          have hk2 := HF.out _ _ _ hj ht
          have HE2 := Lib.hid (HE.out.trans (by rw [ht]))
          obtain ⟨cs, S, hw1, hr1, hS1⟩ := I1.out.own
          have hlow := hw1.lt
          have Wb := Lib.hid ((hw1.kept k_ (fun b hb => by have := (hw1.lt b hb).1; omega)).alloc (.cells #[.int .i64 q.kind, .string q.text, .int .i64 q.n, .string q.name, .slice ka q.kids.length cap] 24))
          have hw12 := k_.size
          have hww := I1.out.kept.size
          have hwz := I1.out.zero.lt
          have LM : Hid (∀ (a' : Option Addr) (c' : Nat) (w3 : World), Win w3 (w.heap.size + 1) 24 5 (.slice a' (l.length + 1) c') (l.length + 1) (cs ++ [.int .i64 q.kind, .string q.text, .int .i64 q.n, .string q.name, .slice ka q.kids.length cap]) →
              (w2.alloc (.cells #[.int .i64 q.kind, .string q.text, .int .i64 q.n, .string q.name, .slice ka q.kids.length cap] 24)).grownBy w3 (Value.slice a l.length c).ownBlock → ((Value.slice a' (l.length + 1) c').ownBlock = (Value.slice a l.length c).ownBlock ∨ (Value.slice a' (l.length + 1) c').ownBlock = some (w2.heap.size + 1)) →
              ListI N W s d w (l ++ [q]) k2 (.slice a' (l ++ [q]).length c') w3) := fun a' c' w3 x1 x2 x3 => list_more hN hW I1.out hw1 hr1 hS1 k_ R2 (by omega) hz hS2 hq x1 x2 x3
          have el : (l ++ [q]).length = l.length + 1 := by simp
          have EL := Lib.hid el
          clear ht hz hS2 hq R2 k_ hw1 hr1 hS1 hlow el
          go_wp2_with (at_builtin; go_loud (refine wpList_append_win _ rfl (.tmp 9) (.tmp 12) 22 22 rfl (w.heap.size + 1) 24 i0 (.agg #[.int .i64 0, .string ⟨#[]⟩, .int .i64 0, .string ⟨#[]⟩, .slice none 0 0]) 5 72 Tryd.underlying22 hi0 hz0 hz1 hz2 rfl (.slice a l.length c) l.length cs rfl Wb.out _ 1 [.int .i64 q.kind, .string q.text, .int .i64 q.n, .string q.name, .slice ka q.kids.length cap] rfl (Src.ofSlice _ Tryd.underlying22 _ _ _ _ rfl (World.news_of_block (fr := (0, 0)) (cs := #[.int .i64 q.kind, .string q.text, .int .i64 q.n, .string q.name, .slice ka q.kids.length cap]) (heap_new2 (by simp))) (by intro u hu; simp at hu; rcases hu with rfl | rfl | rfl | rfl | rfl <;> rfl)) (by unfold maxLen; omega) (by omega) (by simp; omega) ?_); intro a3 c3 w3 hW3 hg3 ho3)
          have I3 := Lib.hid (LM.out a3 c3 w3 hW3 hg3 (by simpa using ho3))
          clear hW3 hg3 ho3 LM Wb
          go_wp2_with fail
          go_roundg f
          case measure => exact hfl
          case rel => exact ⟨l ++ [q], k2, a3, c3, by omega, hk2.2, by rw [EL.out]; omega, by rw [EL.out]; omega, by rw [EL.out], by have h := I3.out; rw [EL.out] at h; exact h, HE2⟩
      | false =>
        rw [if_neg (by simp [hb])] at E1
        have I1 := Lib.hid (I.out.next hN K1 R1 hj.2)
        generalize (isP 124 s k).2 = j at *
        clear I R1 K1 hb
        have hr : Hid (altP inner s i = .ok (oneOr 19 l, j)) := E1
        clear E1
        obtain ⟨g, o, c', S, hv, hp, hS⟩ := ListI.pats I1.out hl0
        simp only [Value.slice.injEq, true_and] at hv
        obtain ⟨rfl, rfl⟩ := hv
        obtain ⟨c0, c1, c2, c3, c4, cf⟩ := Five.cells I1.out.zero
        have f0 := cf 0; have f1 := cf 1; have f2 := cf 2; have f3 := cf 3; have f4 := cf 4; clear cf
        have HS := Lib.hid hS; clear hS
        by_cases h1 : l.length = 1
        · obtain ⟨p1, rfl⟩ : ∃ p1, l = [p1] := List.length_eq_one_iff.1 h1
          obtain ⟨hb1, hz1, e0, e1, e2, e3, ka1, cap1, e4, hk1⟩ := hp.one.open
          have HZ1 := Lib.hid hz1; have HK1 := Lib.hid hk1
          clear hp hz1 hk1 h1 hl0 hlk
          go_wp2_with fail
          exact ret_pat (p := p1) (S := S) rfl rfl I1.out.zero I1.out.rdr I1.out.kept (Nat.le_refl _) hN hW hr.out HZ1.out (fun b hb => by have := HS.out b hb; omega) HK1.out
        · have hne : ((l.length : Int) == 1) = false := by simp; omega
          have e1 : oneOr 19 l = .mk 19 E0 0 E0 l := by
            match l, h1 with
            | [], _ => rfl
            | [_], h1 => simp at h1
            | _ :: _ :: _, _ => rfl
          have hr2 : Hid (altP inner s i = .ok (.mk 19 E0 0 E0 l, j)) := by unfold Hid; rw [hr.out, e1]
          have HP := Lib.hid hp
          have hlz : l.length < 1000000000 := by omega
          clear hp e1 h1
          go_wp2_with fail
          exact ret_pat (p := .mk 19 E0 0 E0 l) (S := S) rfl rfl I1.out.zero I1.out.rdr I1.out.kept (Nat.le_refl _) hN hW hr2.out ⟨e0_lt, e0_lt, hlz⟩ (fun b hb => by have := HS.out b hb; omega) HP.out

set_option maxRecDepth 100000 in
set_option maxHeartbeats 4000000 in
theorem cat_any (N W : Nat) (s : ByteArray) (i d : Nat) (w : World) (inner : Nat → Res PatT) (hc : ItemOk N W s d (itemP inner s)) (hf : InnerFwd s (itemP inner s)) (hr : Rdr N W s i d w) (hi : i ≤ s.size) (hs6 : s.size ≤ 65536) :
    Calls Tryd.prog 39 #[.pointer (some ⟨N, 0, none⟩)] w (RPost N W s d (catP inner s i) (patVal w.heap.size) w) := by
  have HR := Lib.hid hr; have HC := Lib.hid hc; have HF := Lib.hid hf
  have hN := hr.lt; have hW := hr.ltW; clear hr hc hf
  have hs : s.size ≤ 1000000000 := by omega
  obtain ⟨i0, hi0, hz0, hz1, hz2⟩ := info_parts Tryd.infoP
  have Z0 : Hid (Zero5 w.heap.size (w.alloc (.cells #[.int .i64 0, .string ⟨#[]⟩, .int .i64 0, .string ⟨#[]⟩, .slice none 0 0] 24))) := heap_alloc_new w _
  have K0 : Hid (Kept (· = N) w (w.alloc (.cells #[.int .i64 0, .string ⟨#[]⟩, .int .i64 0, .string ⟨#[]⟩, .slice none 0 0] 24))) := (Kept.refl _ w).alloc _
  go_enter Tryd.func39, Tryd.ntmps39
  go_wp2_with fail
  refine (HC.out i _ (HR.out.kept ((Kept.refl Nix w).alloc _) (fun h => h) (fun h => h)) hi).mono ?_
  rintro e w2 ⟨k_, h⟩
  have Z2 := Lib.hid (Five.kept Z0.out k_ (by omega)); have K2 := Lib.hid (K0.out.trans k_)
  have hsz2 := k_.size
  clear k_
  cases ht : (itemP inner s) i with
  | error er =>
    rw [ht] at h
    obtain rfl := h
    have hr : Hid (catP inner s i = .error er) := by unfold Hid catP; rw [ht]
    clear ht
    go_wp2_with fail
    exact ret_err rfl hr.out K2.out
  | ok y =>
    obtain ⟨p, k0⟩ := y
    rw [ht] at h
    obtain ⟨_, rfl, ⟨S, hS, ⟨ka, cap, rfl, hz, hk⟩⟩, R2⟩ := h
    have hk0 := HF.out _ _ _ hi ht
    have LS := Lib.hid (list_start (cap := cap) hN (w1 := w.alloc (.cells #[.int .i64 0, .string ⟨#[]⟩, .int .i64 0, .string ⟨#[]⟩, .slice none 0 0] 24)) (by simp) hsz2 R2 Z2.out K2.out hz hS hk (by omega))
    have E0' : Hid (catP inner s i = catGo inner s (s.size + 1 - k0) [p] k0) := by unfold Hid catP; rw [ht]
    clear ht hz hS hk R2 hsz2 Z0 K0 Z2 K2
    go_wp2_with fail
    go_loopg [3] (s.size + 1 - k0) (fun f v wr => ∃ (l : List PatT) (k : Nat) (a : Option Addr) (c : Nat), s.size + 1 - k ≤ f ∧ k ≤ s.size ∧ 0 < l.length ∧ l.length ≤ k ∧ v = .slice a l.length c ∧ Hid (ListI N W s d w l k v wr) ∧ Hid (catP inner s i = catGo inner s f l k))
    case atStart => exact ⟨[p], k0, _, _, Nat.le_refl _, hk0.2, by simp, by simp; omega, rfl, LS, E0'⟩
    case round =>
      obtain ⟨l, k, a, c, hf, hk, hl0, hlk, rfl, I, E⟩ := hrel
      obtain ⟨f, hgk⟩ : ∃ f, gk = f + 1 := ⟨gk - 1, by omega⟩
      have E1 := E.out
      rw [hgk, catGo] at E1
      have hf2 : s.size - k ≤ f := by omega
      have hfl : f < gk := by omega
      have EE := Lib.hid E1
      clear hgk hf E LS E0' hk0 E1
      go_wp2_with fail
      refine (next_any N W s k d _ I.out.rdr hk hs).mono ?_
      rintro e w1 ⟨rfl, R1, K1⟩
      have E1 := EE.out; clear EE
      have hj := skip_le hk; have hkj := skip_ge s k
      have I1 := Lib.hid (I.out.next hN K1 R1 hkj)
      generalize hjj : skip s k = j at *
      have HE1 := Lib.hid E1
      clear I R1 K1 E1 hjj
      go_upto_if 12 with fail
      go_cut [12] (fun b wx => b = .bool (starts (peek s j)) ∧ w1 = wx)
      case first =>
        by_cases b1 : peek s j = 40
        · have z1 : (peek s j == 40) = true := by simpa using b1
          clear b1
          go_wp2_with fail
          go_meet
          exact ⟨by unfold starts; simp [z1], rfl⟩
        have z1 : (peek s j == 40) = false := by simpa using b1
        by_cases b2 : peek s j = 39
        · have z2 : (peek s j == 39) = true := by simpa using b2
          clear b1 b2
          go_wp2_with fail
          go_meet
          exact ⟨by unfold starts; simp [z1, z2], rfl⟩
        have z2 : (peek s j == 39) = false := by simpa using b2
        by_cases b3 : peek s j = 64
        · have z3 : (peek s j == 64) = true := by simpa using b3
          clear b1 b2 b3
          go_wp2_with fail
          go_meet
          exact ⟨by unfold starts; simp [z1, z2, z3], rfl⟩
        have z3 : (peek s j == 64) = false := by simpa using b3
        by_cases b4 : peek s j = 42
        · have z4 : (peek s j == 42) = true := by simpa using b4
          clear b1 b2 b3 b4
          go_wp2_with fail
          go_meet
          exact ⟨by unfold starts; simp [z1, z2, z3, z4], rfl⟩
        have z4 : (peek s j == 42) = false := by simpa using b4
        clear b1 b2 b3 b4
        by_cases b5 : 65 ≤ peek s j
        · have z5 : decide (65 ≤ peek s j) = true := decide_eq_true b5
          by_cases b6 : peek s j ≤ 90
          · have z6 : decide (peek s j ≤ 90) = true := decide_eq_true b6
            clear b5 b6
            go_wp2_with fail
            go_meet
            exact ⟨by unfold starts; simp [z1, z2, z3, z4, z5, z6], rfl⟩
          · have z6 : decide (peek s j ≤ 90) = false := decide_eq_false b6
            clear b5 b6
            go_wp2_with fail
            go_meet
            exact ⟨by unfold starts; simp [z1, z2, z3, z4, z5, z6], rfl⟩
        · have z5 : decide (65 ≤ peek s j) = false := decide_eq_false b5
          clear b5
          go_wp2_with fail
          go_meet
          exact ⟨by unfold starts; simp [z1, z2, z3, z4, z5], rfl⟩
      case rest =>
        obtain ⟨rfl, rfl⟩ := hcut
        have E1 := HE1.out; clear HE1
        cases hb : starts (peek s j) with
        | true =>
          rw [if_pos hb] at E1
          clear hb
          have HE := Lib.hid E1
          clear E1
          go_wp2_with fail
          refine (HC.out j _ I1.out.rdr hj).mono ?_
          rintro e w2 ⟨k_, h⟩
          cases ht : (itemP inner s) j with
          | error er =>
            rw [ht] at h
            obtain rfl := h
            have hr : Hid (catP inner s i = .error er) := by unfold Hid; rw [HE.out, ht]
            have KE := Lib.hid (I1.out.kept.trans k_)
            clear ht k_
            go_wp2_with fail
            exact ret_err rfl hr.out KE.out
          | ok y =>
            obtain ⟨q, k2⟩ := y
            rw [ht] at h
            obtain ⟨_, rfl, ⟨S2, hS2, ⟨ka, cap, rfl, hz, hq⟩⟩, R2⟩ := h
            have hk2 := HF.out _ _ _ hj ht
            have HE2 := Lib.hid (HE.out.trans (by rw [ht]))
            obtain ⟨cs, S, hw1, hr1, hS1⟩ := I1.out.own
            have hlow := hw1.lt
            have Wb := Lib.hid ((hw1.kept k_ (fun b hb => by have := (hw1.lt b hb).1; omega)).alloc (.cells #[.int .i64 q.kind, .string q.text, .int .i64 q.n, .string q.name, .slice ka q.kids.length cap] 24))
            have hw12 := k_.size
            have hww := I1.out.kept.size
            have hwz := I1.out.zero.lt
            have LM : Hid (∀ (a' : Option Addr) (c' : Nat) (w3 : World), Win w3 (w.heap.size + 1) 24 5 (.slice a' (l.length + 1) c') (l.length + 1) (cs ++ [.int .i64 q.kind, .string q.text, .int .i64 q.n, .string q.name, .slice ka q.kids.length cap]) →
                (w2.alloc (.cells #[.int .i64 q.kind, .string q.text, .int .i64 q.n, .string q.name, .slice ka q.kids.length cap] 24)).grownBy w3 (Value.slice a l.length c).ownBlock → ((Value.slice a' (l.length + 1) c').ownBlock = (Value.slice a l.length c).ownBlock ∨ (Value.slice a' (l.length + 1) c').ownBlock = some (w2.heap.size + 1)) →
                ListI N W s d w (l ++ [q]) k2 (.slice a' (l ++ [q]).length c') w3) := fun a' c' w3 x1 x2 x3 => list_more hN hW I1.out hw1 hr1 hS1 k_ R2 (by omega) hz hS2 hq x1 x2 x3
            have el : (l ++ [q]).length = l.length + 1 := by simp
            have EL := Lib.hid el
            clear ht hz hS2 hq R2 k_ hw1 hr1 hS1 hlow el
            go_wp2_with (at_builtin; go_loud (refine wpList_append_win _ rfl (.tmp 27) (.tmp 30) 22 22 rfl (w.heap.size + 1) 24 i0 (.agg #[.int .i64 0, .string ⟨#[]⟩, .int .i64 0, .string ⟨#[]⟩, .slice none 0 0]) 5 72 Tryd.underlying22 hi0 hz0 hz1 hz2 rfl (.slice a l.length c) l.length cs rfl Wb.out _ 1 [.int .i64 q.kind, .string q.text, .int .i64 q.n, .string q.name, .slice ka q.kids.length cap] rfl (Src.ofSlice _ Tryd.underlying22 _ _ _ _ rfl (World.news_of_block (fr := (0, 0)) (cs := #[.int .i64 q.kind, .string q.text, .int .i64 q.n, .string q.name, .slice ka q.kids.length cap]) (heap_new2 (by simp))) (by intro u hu; simp at hu; rcases hu with rfl | rfl | rfl | rfl | rfl <;> rfl)) (by unfold maxLen; omega) (by omega) (by simp; omega) ?_); intro a3 c3 w3 hW3 hg3 ho3)
            have I3 := Lib.hid (LM.out a3 c3 w3 hW3 hg3 (by simpa using ho3))
            clear hW3 hg3 ho3 LM Wb
            go_wp2_with fail
            go_roundg f
            case measure => exact hfl
            case rel => exact ⟨l ++ [q], k2, a3, c3, by omega, hk2.2, by rw [EL.out]; omega, by rw [EL.out]; omega, by rw [EL.out], by have h := I3.out; rw [EL.out] at h; exact h, HE2⟩
        | false =>
          rw [if_neg (by simp [hb])] at E1
          clear hb
          have hr : Hid (catP inner s i = .ok (oneOr 18 l, j)) := E1
          clear E1
          obtain ⟨g, o, c', S, hv, hp, hS⟩ := ListI.pats I1.out hl0
          simp only [Value.slice.injEq, true_and] at hv
          obtain ⟨rfl, rfl⟩ := hv
          obtain ⟨c0, c1, c2, c3, c4, cf⟩ := Five.cells I1.out.zero
          have f0 := cf 0; have f1 := cf 1; have f2 := cf 2; have f3 := cf 3; have f4 := cf 4; clear cf
          have HS := Lib.hid hS; clear hS
          by_cases h1 : l.length = 1
          · obtain ⟨p1, rfl⟩ : ∃ p1, l = [p1] := List.length_eq_one_iff.1 h1
            obtain ⟨hb1, hz1, e0, e1, e2, e3, ka1, cap1, e4, hk1⟩ := hp.one.open
            have HZ1 := Lib.hid hz1; have HK1 := Lib.hid hk1
            clear hp hz1 hk1 h1 hl0 hlk
            go_wp2_with fail
            exact ret_pat (p := p1) (S := S) rfl rfl I1.out.zero I1.out.rdr I1.out.kept (Nat.le_refl _) hN hW hr.out HZ1.out (fun b hb => by have := HS.out b hb; omega) HK1.out
          · have hne : ((l.length : Int) == 1) = false := by simp; omega
            have e1 : oneOr 18 l = .mk 18 E0 0 E0 l := by
              match l, h1 with
              | [], _ => rfl
              | [_], h1 => simp at h1
              | _ :: _ :: _, _ => rfl
            have hr2 : Hid (catP inner s i = .ok (.mk 18 E0 0 E0 l, j)) := by unfold Hid; rw [hr.out, e1]
            have HP := Lib.hid hp
            have hlz : l.length < 1000000000 := by omega
            clear hp e1 h1
            go_wp2_with fail
            exact ret_pat (p := .mk 18 E0 0 E0 l) (S := S) rfl rfl I1.out.zero I1.out.rdr I1.out.kept (Nat.le_refl _) hN hW hr2.out ⟨e0_lt, e0_lt, hlz⟩ (fun b hb => by have := HS.out b hb; omega) HP.out
end Go.Proofs.YtdnglicgmlldlaaDoor
