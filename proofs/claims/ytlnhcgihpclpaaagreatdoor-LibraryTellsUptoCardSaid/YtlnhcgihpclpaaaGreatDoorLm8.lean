/- The reader of patterns: item. Rows of patterns. -/
import Derived.Test.YtlnhcgihpclpaaaGreatDoorLm7
import Derived.Deep.RegionWith
import Derived.RegionDies
import Derived.Test.YtlnhcgihpclpaaaGreatDoorLm1
import Derived.Test.YtlnhcgihpclpaaaGreatDoorLm3
namespace Go.Proofs.YtlnhcgihpclpaaaGreatDoor
set_option linter.all false
open Go.RowKit

def Zero5 (M : Nat) (w : World) : Prop := Five M (.int .i64 0) (.string ⟨#[]⟩) (.int .i64 0) (.string ⟨#[]⟩) (.slice none 0 0) w
structure ItemI (N W : Nat) (s : ByteArray) (d : Nat) (w : World) (p : PatT) (k : Nat) (ka : Option Addr) (cap : Nat) (wx : World) : Prop where
  rdr : Rdr N W s k d wx
  five : Five (w.heap.size + 1) (.int .i64 p.kind) (.string p.text) (.int .i64 p.n) (.string p.name) (.slice ka p.kids.length cap) wx
  mem : ∃ S : Nat → Prop, PatsAt wx S ka p.kids ∧ ∀ b, S b → w.heap.size + 1 < b ∧ b < wx.heap.size
  sz : p.text.size < 1000000000 ∧ p.name.size < 1000000000 ∧ p.kids.length < 1000000000
  zero : Zero5 w.heap.size wx
  kept : Kept (· = N) w wx

theorem isP_t {c : Nat} {s : ByteArray} {i : Nat} (h : (isP c s i).1 = true) : (isP c s i).2 = skip s i + 1 ∧ skip s i < s.size := by
  unfold isP at h ⊢; split at h
  · rename_i hp; rw [if_pos hp]; exact ⟨rfl, peek_lt (by omega)⟩
  · cases h
theorem isP_f {c : Nat} {s : ByteArray} {i : Nat} (h : (isP c s i).1 = false) : (isP c s i).2 = skip s i := by
  unfold isP at h ⊢; split at h
  · cases h
  · rename_i hp; rw [if_neg hp]
theorem isP_le {c : Nat} {s : ByteArray} {i : Nat} (hi : i ≤ s.size) : (isP c s i).2 ≤ s.size ∧ i ≤ (isP c s i).2 := by
  have h1 := skip_ge s i; have h2 := skip_le hi
  cases h : (isP c s i).1 with
  | true => have := isP_t h; omega
  | false => have := isP_f h; omega
theorem isP_lt {c : Nat} {s : ByteArray} {i : Nat} (h : (isP c s i).1 = true) : i < (isP c s i).2 := by
  have h1 := skip_ge s i; have := isP_t h; omega

def HeadOk (N W : Nat) (s : ByteArray) (d : Nat) (w : World) (r : Res PatT) (wx : World) : Prop := ∃ p k ka cap, r = .ok (p, k) ∧ k ≤ s.size ∧ ItemI N W s d w p k ka cap wx

/-- The pattern that a callee has handed back, stored into the variable p. -/
theorem head_store {N W : Nat} {s : ByteArray} {d : Nat} {w w1 w2 : World} {p : PatT} {k : Nat} {ka : Option Addr} {cap : Nat} {S : Nat → Prop} {z0 z1 z2 z3 z4 : Value}
    (hN : N < w.heap.size) (hW : W < w.heap.size) (h1 : w.heap.size + 1 < w1.heap.size) (R : Rdr N W s k d w2) (F : Five (w.heap.size + 1) z0 z1 z2 z3 z4 w2) (Z : Zero5 w.heap.size w2) (K : Kept (· = N) w w2)
    (hz : p.text.size < 1000000000 ∧ p.name.size < 1000000000 ∧ p.kids.length < 1000000000) (hS : ∀ b, S b → w1.heap.size ≤ b ∧ b < w2.heap.size) (hk : PatsAt w2 S ka p.kids) :
    ItemI N W s d w p k ka cap (set5 w2 (w.heap.size + 1) (.int .i64 p.kind) (.string p.text) (.int .i64 p.n) (.string p.name) (.slice ka p.kids.length cap)) := by
  have K5 : Kept (· = w.heap.size + 1) w2 (set5 w2 (w.heap.size + 1) (.int .i64 p.kind) (.string p.text) (.int .i64 p.n) (.string p.name) (.slice ka p.kids.length cap)) := (Kept.refl (· = w.heap.size + 1) w2).set5 (.inl rfl) _ _ _ _ _
  refine ⟨R.kept K5 (by omega) (by omega), F.set5 _ _ _ _ _, ⟨S, hk.kept K5 (fun b hb => ⟨(hS b hb).2, by have := hS b hb; omega⟩), fun b hb => ⟨by have := hS b hb; omega, Nat.lt_of_lt_of_le (hS b hb).2 K5.size⟩⟩, hz, Five.kept Z K5 (by omega), K.step K5 (fun y hy => .inr (by omega))⟩
theorem ItemI.next {N W : Nat} {s : ByteArray} {d : Nat} {w wx w' : World} {p : PatT} {k k' : Nat} {ka : Option Addr} {cap : Nat} (h : ItemI N W s d w p k ka cap wx) (hN : N < w.heap.size) (hk : Kept (· = N) wx w') (hr : Rdr N W s k' d w') : ItemI N W s d w p k' ka cap w' := by
  obtain ⟨S, h1, h2⟩ := h.mem
  exact ⟨hr, h.five.kept hk (by omega), ⟨S, h1.kept hk (fun b hb => ⟨(h2 b hb).2, by have := h2 b hb; omega⟩), fun b hb => ⟨(h2 b hb).1, Nat.lt_of_lt_of_le (h2 b hb).2 hk.size⟩⟩, h.sz, Five.kept h.zero hk (by omega), h.kept.trans hk⟩

/-- What was matched is given to a name: the pattern's box was made behind the name's reading. -/
theorem gift_after {N W : Nat} {s : ByteArray} {d : Nat} {w w2 : World} {p : PatT} {k : Nat} {ka : Option Addr} {cap : Nat} {nm : ByteArray} {box : Obj} (hbox : box = .cells #[.int .i64 p.kind, .string p.text, .int .i64 p.n, .string p.name, .slice ka p.kids.length cap] 47)
    (hN : N < w.heap.size) (hW : W < w.heap.size) (hnm : nm.size < 1000000000) (I : ItemI N W s d w p k ka cap w2) (kd : Int) :
    ItemI N W s d w (.mk kd E0 0 nm [p]) k (some ⟨w2.heap.size, 0, none⟩) 1 ((set5 w2 (w.heap.size + 1) (.int .i64 kd) (.string E0) (.int .i64 0) (.string nm) (.slice (some ⟨w2.heap.size, 0, none⟩) 1 1)).alloc box) := by
  subst hbox
  have hP := I.five.lt
  obtain ⟨S, h1, h2⟩ := I.mem
  have V : PatV w2 S (.agg #[.int .i64 p.kind, .string p.text, .int .i64 p.n, .string p.name, .slice ka p.kids.length cap]) p := ⟨ka, cap, rfl, I.sz, h1⟩
  obtain ⟨cc, hcc, hb⟩ := V.box 47 (fun b hb => (h2 b hb).2)
  simp only [Value.agg.injEq] at hcc
  subst hcc
  have k5 : Kept (· = w.heap.size + 1) w2 (set5 w2 (w.heap.size + 1) (.int .i64 kd) (.string E0) (.int .i64 0) (.string nm) (.slice (some ⟨w2.heap.size, 0, none⟩) 1 1)) := (Kept.refl (· = w.heap.size + 1) w2).set5 (.inl rfl) _ _ _ _ _
  have K := alloc_same (.cells #[.int .i64 p.kind, .string p.text, .int .i64 p.n, .string p.name, .slice ka p.kids.length cap] 47) k5 (set5_size _ _ _ _ _ _ _)
  have kA : Kept Nix w2 (w2.alloc (.cells #[.int .i64 p.kind, .string p.text, .int .i64 p.n, .string p.name, .slice ka p.kids.length cap] 47)) := (Kept.refl _ _).alloc _
  have hz := kA.size
  refine ⟨(I.rdr.kept kA (fun h => h) (fun h => h)).kept K (by omega) (by omega), (I.five.set5 _ _ _ _ _).kept ((Kept.refl Nix _).alloc _) (fun h => h), ⟨fun b => S b ∨ b = w2.heap.size, (PatsAt_one hb).kept K (fun b hb => ?_), fun b hb => ?_⟩, ⟨e0_lt, hnm, len1_lt p⟩, Five.kept (Five.kept I.zero kA (fun h => h)) K (by omega), (I.kept.quiet kA).step K (fun y hy => .inr (by omega))⟩
  · rcases hb with hb | rfl
    · have := h2 b hb; simp; omega
    · simp; omega
  · have := K.size
    rcases hb with hb | rfl
    · have := h2 b hb; simp [set5_size]; omega
    · simp [set5_size]; omega
/-- The same, the box made ahead of it. -/
theorem gift_ahead {N W : Nat} {s : ByteArray} {d : Nat} {w w1 w2 : World} {p : PatT} {k : Nat} {ka : Option Addr} {cap : Nat} {nm : ByteArray}
    (hN : N < w.heap.size) (hW : W < w.heap.size) (hnm : nm.size < 1000000000) (h1 : w.heap.size + 1 < w1.heap.size) (I : ItemI N W s d w p k ka cap w2)
    (G : Five w1.heap.size (.int .i64 p.kind) (.string p.text) (.int .i64 p.n) (.string p.name) (.slice ka p.kids.length cap) w2) (kd : Int) :
    ItemI N W s d w (.mk kd E0 0 nm [p]) k (some ⟨w1.heap.size, 0, none⟩) 1 (set5 w2 (w.heap.size + 1) (.int .i64 kd) (.string E0) (.int .i64 0) (.string nm) (.slice (some ⟨w1.heap.size, 0, none⟩) 1 1)) := by
  obtain ⟨S, hs1, h2⟩ := I.mem
  have hG := G.lt
  have hb : PatAt w2 (fun b => S b ∨ b = w1.heap.size) w1.heap.size 0 p := by
    obtain ⟨g0, g1, g2, g3, g4, _⟩ := G.cells
    obtain ⟨kk, t, n, nm', kids⟩ := p
    unfold PatAt
    exact ⟨.inr rfl, I.sz, g0, g1, g2, g3, ka, cap, g4, PatsAt.same (fun _ _ => rfl) (fun b h => .inl h) _ _ hs1⟩
  have K : Kept (· = w.heap.size + 1) w2 (set5 w2 (w.heap.size + 1) (.int .i64 kd) (.string E0) (.int .i64 0) (.string nm) (.slice (some ⟨w1.heap.size, 0, none⟩) 1 1)) := (Kept.refl (· = w.heap.size + 1) w2).set5 (.inl rfl) _ _ _ _ _
  refine ⟨I.rdr.kept K (by omega) (by omega), I.five.set5 _ _ _ _ _, ⟨fun b => S b ∨ b = w1.heap.size, (PatsAt_one hb).kept K (fun b hb => ?_), fun b hb => ?_⟩, ⟨e0_lt, hnm, len1_lt p⟩, Five.kept I.zero K (by omega), I.kept.step K (fun y hy => .inr (by omega))⟩
  · rcases hb with hb | rfl
    · have := h2 b hb; omega
    · omega
  · rw [set5_size]
    rcases hb with hb | rfl
    · exact h2 b hb
    · omega

theorem arg_text_fwd {s : ByteArray} {k k' : Nat} {kd : Int} {p : PatT} (h : argTextP s k kd = .ok (p, k')) : k < k' ∧ k' ≤ s.size := by
  unfold argTextP at h
  cases h1 : needP 40 s k with
  | error e => rw [h1] at h; cases h
  | ok k1 =>
    rw [h1] at h; dsimp only at h
    cases h2 : textP s k1 with
    | error e => rw [h2] at h; cases h
    | ok y =>
      obtain ⟨⟨t, a⟩, k2⟩ := y
      rw [h2] at h; dsimp only at h
      split at h
      · cases h
      · cases h3 : needP 41 s k2 with
        | error e => rw [h3] at h; cases h
        | ok k3 =>
          rw [h3] at h; simp only [Except.ok.injEq, Prod.mk.injEq] at h; obtain ⟨_, rfl⟩ := h
          have := need_ok h1; have := text_ok h2; have := need_ok h3; omega
theorem arg_num_fwd {s : ByteArray} {k k' : Nat} {kd : Int} {p : PatT} (h : argNumP s k kd = .ok (p, k')) : k < k' ∧ k' ≤ s.size := by
  unfold argNumP at h
  cases h1 : needP 40 s k with
  | error e => rw [h1] at h; cases h
  | ok k1 =>
    rw [h1] at h; dsimp only at h
    have a1 := need_ok h1
    cases h2 : numP s k1 with
    | error e => rw [h2] at h; cases h
    | ok y =>
      obtain ⟨n, k2⟩ := y
      rw [h2] at h; dsimp only at h
      cases h3 : needP 41 s k2 with
      | error e => rw [h3] at h; cases h
      | ok k3 =>
        rw [h3] at h; simp only [Except.ok.injEq, Prod.mk.injEq] at h; obtain ⟨_, rfl⟩ := h
        have := num_ok a1.2.1 h2; have := need_ok h3; omega
theorem arg_pat_fwd {inner : Nat → Res PatT} {s : ByteArray} (hf : InnerFwd s inner) {k k' : Nat} {kd : Int} {p : PatT} (h : argPatP inner s k kd = .ok (p, k')) : k < k' ∧ k' ≤ s.size := by
  unfold argPatP at h
  cases h1 : needP 40 s k with
  | error e => rw [h1] at h; cases h
  | ok k1 =>
    rw [h1] at h; dsimp only at h
    have a1 := need_ok h1
    cases h2 : inner k1 with
    | error e => rw [h2] at h; cases h
    | ok y =>
      obtain ⟨n, k2⟩ := y
      rw [h2] at h; dsimp only at h
      cases h3 : needP 41 s k2 with
      | error e => rw [h3] at h; cases h
      | ok k3 =>
        rw [h3] at h; simp only [Except.ok.injEq, Prod.mk.injEq] at h; obtain ⟨_, rfl⟩ := h
        have := hf _ _ _ a1.2.1 h2; have := need_ok h3; omega
theorem nm_fwd {s : ByteArray} {j k : Nat} {kd : Int} {p : PatT} (hj : j ≤ s.size) (h : nmP s j kd = .ok (p, k)) : j < k ∧ k ≤ s.size := by
  unfold nmP at h
  cases h1 : nameP s j with
  | error e => rw [h1] at h; cases h
  | ok y =>
    obtain ⟨nm, k1⟩ := y
    rw [h1] at h; simp only [Except.ok.injEq, Prod.mk.injEq] at h; obtain ⟨_, rfl⟩ := h
    exact name_ok hj h1
theorem primary_fwd {inner : Nat → Res PatT} {s : ByteArray} (hf : InnerFwd s inner) {i k : Nat} {p : PatT} (hi : i ≤ s.size) (h : primaryP inner s i = .ok (p, k)) : i < k ∧ k ≤ s.size := by
  have h1 := skip_ge s i; have h2 := skip_le hi
  unfold primaryP at h
  split at h
  · unfold litP at h
    cases h1 : textP s (skip s i) with
    | error e => rw [h1] at h; cases h
    | ok y =>
      obtain ⟨⟨t, a⟩, k1⟩ := y
      rw [h1] at h; simp only [Except.ok.injEq, Prod.mk.injEq] at h; obtain ⟨_, rfl⟩ := h
      have := text_ok h1; omega
  · split at h
    · rename_i hp
      have : skip s i < s.size := peek_lt (by omega)
      have := nm_fwd (by omega) h; omega
    · split at h
      · rename_i hp
        have : skip s i < s.size := peek_lt (by omega)
        have := nm_fwd (by omega) h; omega
      · unfold wdP at h
        cases h1 : wordP s (skip s i) with
        | error e => rw [h1] at h; cases h
        | ok y =>
          obtain ⟨⟨x, a⟩, k1⟩ := y
          rw [h1] at h; dsimp only at h
          have a1 := word_ok h2 h1
          unfold kindP at h
          split at h
          · cases h
          · split at h
            · have := arg_text_fwd h; omega
            · split at h
              · have := arg_num_fwd h; omega
              · split at h
                · have := arg_pat_fwd hf h; omega
                · simp only [Except.ok.injEq, Prod.mk.injEq] at h; obtain ⟨_, rfl⟩ := h; omega
theorem head_fwd {inner : Nat → Res PatT} {s : ByteArray} (hf : InnerFwd s inner) {i k : Nat} {p : PatT} (hi : i ≤ s.size) (h : headP inner s i = .ok (p, k)) : i < k ∧ k ≤ s.size := by
  have a0 := isP_le (c := 40) hi
  unfold headP at h
  split at h
  · cases h1 : inner (isP 40 s i).2 with
    | error e => rw [h1] at h; cases h
    | ok y =>
      obtain ⟨q, k1⟩ := y
      rw [h1] at h; dsimp only at h
      cases h3 : needP 41 s k1 with
      | error e => rw [h3] at h; cases h
      | ok k3 =>
        rw [h3] at h; simp only [Except.ok.injEq, Prod.mk.injEq] at h; obtain ⟨_, rfl⟩ := h
        have := hf _ _ _ a0.1 h1; have := need_ok h3; omega
  · have := primary_fwd hf a0.1 h; omega

set_option maxRecDepth 100000 in
set_option maxHeartbeats 4000000 in
theorem item_any (N W : Nat) (s : ByteArray) (i d : Nat) (w : World) (inner : Nat → Res PatT) (hin : InnerOk N W s d inner) (hfw : InnerFwd s inner) (hr : Rdr N W s i d w) (hi : i ≤ s.size) (hs6 : s.size ≤ 65536) :
    Calls Tryz.prog 104 #[.pointer (some ⟨N, 0, none⟩)] w (RPost N W s d (itemP inner s i) (patVal w.heap.size) w) := by
  have HR := Lib.hid hr; have HIN := Lib.hid hin; have HFW := Lib.hid hfw
  have hN := hr.lt; have hW := hr.ltW; clear hr hin hfw
  have hs : s.size ≤ 1000000000 := by omega
  go_enter Tryz.func104, Tryz.ntmps104
  go_wp2_with fail
  refine (is_any 40 N W (by decide) s i d _ (HR.out.kept (((Kept.refl Nix w).alloc _).alloc _) (fun h => h) (fun h => h)) hi hs).mono ?_
  rintro e w1 ⟨rfl, R1, K1⟩
  have F1 : Hid (Five (w.heap.size + 1) (.int .i64 0) (.string ⟨#[]⟩) (.int .i64 0) (.string ⟨#[]⟩) (.slice none 0 0) w1) := Five.kept (heap_new2 (by simp)) K1 (by omega)
  have Z1 : Hid (Zero5 w.heap.size w1) := Five.kept (Five.kept (heap_alloc_new w _) ((Kept.refl Nix _).alloc _) (fun h => h)) K1 (by omega)
  have K1' : Hid (Kept (· = N) w w1) := (((Kept.refl _ w).alloc _).alloc _).trans K1
  have hw1 : w.heap.size + 1 < w1.heap.size := F1.out.lt
  have RR1 := Lib.hid R1
  have hj := (isP_le (c := 40) hi).1
  clear R1 K1
  go_upto_if 6 with fail
  go_cut [] (fun wx => HeadOk N W s d w (headP inner s i) wx)
  case first =>
    cases hb : (isP 40 s i).1 with
    | true =>
      go_wp2_with fail
      refine (HIN.out _ _ RR1.out hj).mono ?_
      rintro e w2 ⟨k_, h⟩
      have F2 := Lib.hid (F1.out.kept k_ (by omega)); have Z2 := Lib.hid (Five.kept Z1.out k_ (by omega)); have K2 := Lib.hid (K1'.out.trans k_)
      clear k_
      cases ht : inner (isP 40 s i).2 with
      | error er =>
        rw [ht] at h
        obtain rfl := h
        have hr : Hid (itemP inner s i = .error er) := by unfold Hid itemP headP; rw [if_pos hb, ht]
        clear ht
        go_wp2_with fail
        exact ret_err rfl hr.out K2.out
      | ok y =>
        obtain ⟨p, k⟩ := y
        rw [ht] at h
        obtain ⟨_, rfl, ⟨S, hS, ⟨ka, cap, rfl, hz, hk⟩⟩, R2⟩ := h
        have hst := Lib.hid (head_store (cap := cap) hN hW hw1 R2 F2.out Z2.out K2.out hz hS hk)
        obtain ⟨c0, c1, c2, c3, c4, cf⟩ := F2.out.cells
        have f0 := cf 0; have f1 := cf 1; have f2 := cf 2; have f3 := cf 3; have f4 := cf 4; clear cf
        have hk2 : k ≤ s.size := (HFW.out _ _ _ hj ht).2
        have HT := Lib.hid ht; clear ht R2 hz hS hk
        go_wp2_with fail
        refine (need_any 41 N W (by decide) s k d _ hst.out.rdr hk2 hs).mono ?_
        rintro e w3 ⟨k_, h⟩
        cases hn : needP 41 s k with
        | error er =>
          rw [hn] at h
          obtain rfl := h
          have hr : Hid (itemP inner s i = .error er) := by unfold Hid itemP headP; rw [if_pos hb, HT.out]; dsimp only; rw [hn]
          have KK := Lib.hid (hst.out.kept.trans k_)
          clear hn k_
          go_wp2_with fail
          exact ret_err rfl hr.out KK.out
        | ok k1 =>
          rw [hn] at h
          obtain ⟨rfl, R3⟩ := h
          have fin : Hid (HeadOk N W s d w (headP inner s i) w3) := ⟨p, k1, ka, cap, by unfold headP; rw [if_pos hb, HT.out]; dsimp only; rw [hn], (need_ok hn).2.1, hst.out.next hN k_ R3⟩
          clear hn k_ R3 c0 c1 c2 c3 c4 f0 f1 f2 f3 f4
          go_wp2_with fail
          go_meet
          exact fin.out
    | false =>
      go_wp2_with fail
      refine (primary_any N W s _ d _ inner HIN.out HFW.out RR1.out hj hs6).mono ?_
      rintro e w2 ⟨k_, h⟩
      have F2 := Lib.hid (F1.out.kept k_ (by omega)); have Z2 := Lib.hid (Five.kept Z1.out k_ (by omega)); have K2 := Lib.hid (K1'.out.trans k_)
      clear k_
      cases ht : primaryP inner s (isP 40 s i).2 with
      | error er =>
        rw [ht] at h
        obtain rfl := h
        have hr : Hid (itemP inner s i = .error er) := by unfold Hid itemP headP; rw [if_neg (by simp [hb]), ht]
        clear ht
        go_wp2_with fail
        exact ret_err rfl hr.out K2.out
      | ok y =>
        obtain ⟨p, k⟩ := y
        rw [ht] at h
        obtain ⟨_, rfl, ⟨S, hS, ⟨ka, cap, rfl, hz, hk⟩⟩, R2⟩ := h
        have hst := Lib.hid (head_store (cap := cap) hN hW hw1 R2 F2.out Z2.out K2.out hz hS hk)
        obtain ⟨c0, c1, c2, c3, c4, cf⟩ := F2.out.cells
        have f0 := cf 0; have f1 := cf 1; have f2 := cf 2; have f3 := cf 3; have f4 := cf 4; clear cf
        have fin : Hid (HeadOk N W s d w (headP inner s i) (set5 w2 (w.heap.size + 1) (.int .i64 p.kind) (.string p.text) (.int .i64 p.n) (.string p.name) (.slice ka p.kids.length cap))) :=
          ⟨p, k, ka, cap, by unfold headP; rw [if_neg (by simp [hb]), ht], (primary_fwd HFW.out hj ht).2, hst.out⟩
        clear ht R2 hz hS hk
        go_wp2_with fail
        go_meet
        exact fin.out
  case rest =>
    obtain ⟨p0, k0, ka0, cap0, e0, hk0, I0⟩ := hcut
    have II0 := Lib.hid I0
    have E0' : Hid (itemP inner s i = giftsP s (s.size + 1 - k0) p0 k0) := by unfold Hid itemP; rw [e0]
    clear e0 I0 F1 Z1 K1' RR1 HR
    go_wp2_with fail
    go_loopg [] (s.size + 1 - k0) (fun f wr => ∃ (p : PatT) (k : Nat) (ka : Option Addr) (cap : Nat), s.size + 1 - k ≤ f ∧ k ≤ s.size ∧ Hid (ItemI N W s d w p k ka cap wr) ∧ Hid (itemP inner s i = giftsP s f p k))
    case atStart => exact ⟨p0, k0, ka0, cap0, Nat.le_refl _, hk0, II0, E0'⟩
    case round =>
      obtain ⟨p, k, ka, cap, hf, hk, I, E⟩ := hrel
      obtain ⟨f, hgk⟩ : ∃ f, gk = f + 1 := ⟨gk - 1, by omega⟩
      have E1 := E.out
      rw [hgk, giftsP] at E1
      have hf2 : s.size - k ≤ f := by omega
      have hfl : f < gk := by omega
      have EE := Lib.hid E1
      clear hgk hf E II0 E0' hk0 E1
      go_wp2_with fail
      refine (is_any 46 N W (by decide) s k d _ I.out.rdr hk hs).mono ?_
      rintro e w1 ⟨rfl, R1, K1⟩
      have E1 := EE.out; clear EE
      have hj := isP_le (c := 46) hk
      cases hb : (isP 46 s k).1 with
      | true =>
        rw [if_pos hb] at E1
        have I1 := Lib.hid (I.out.next hN K1 R1)
        have hlt1 := isP_lt hb
        generalize (isP 46 s k).2 = j at *
        clear I R1 K1 hb
        obtain ⟨c0, c1, c2, c3, c4, cf⟩ := I1.out.five.cells
        have f0 := cf 0; have f1 := cf 1; have f2 := cf 2; have f3 := cf 3; have f4 := cf 4; clear cf
        have hlt5 : w.heap.size + 1 < w1.heap.size := I1.out.five.lt
        cases hn : nameP s j with
        | error er =>
          rw [hn] at E1
          have HE := Lib.hid E1
          have HN := Lib.hid hn
          clear E1 hn
          go_wp2_with fail
          go_region_dies
          all_goals first
            | ((with_reducible refine (name_any N W s j d _ (I1.out.rdr.kept ((Kept.refl Nix w1).drew) (fun h => h) (fun h => h)) hj.1 hs).mono ?_); rintro e w2 ⟨k_, h⟩; rw [HN.out] at h; obtain rfl := h; exact ret_err rfl HE.out (I1.out.kept.trans ((Kept.refl (· = N) w1).drew.trans k_)))
            | ((with_reducible refine (name_any N W s j d _ (I1.out.rdr.kept (((Kept.refl Nix w1).alloc _).drew) (fun h => h) (fun h => h)) hj.1 hs).mono ?_); rintro e w2 ⟨k_, h⟩; rw [HN.out] at h; obtain rfl := h; exact ret_err rfl HE.out (I1.out.kept.trans (((Kept.refl (· = N) w1).alloc _).drew.trans k_)))
        | ok y =>
          obtain ⟨nm, k2⟩ := y
          rw [hn] at E1
          have HE := Lib.hid E1
          have HN := Lib.hid hn
          have hk2 := name_ok hj.1 hn
          have hnl := name_lt hj.1 hn
          clear E1 hn
          go_wp2_with fail
          go_region_with (first
            | (go_at_call 109; (with_reducible refine (name_any N W s j d _ (I1.out.rdr.kept ((Kept.refl Nix w1).drew) (fun h => h) (fun h => h)) hj.1 hs).mono ?_); rintro e w2 ⟨k_, h⟩; rw [HN.out] at h; obtain ⟨_, rfl, rfl, R2⟩ := h; have I2 := Lib.hid (I1.out.next hN ((Kept.refl (· = N) w1).drew.trans k_) R2); clear k_ R2; obtain ⟨c0, c1, c2, c3, c4, cf⟩ := I2.out.five.cells; have f0 := cf 0; have f1 := cf 1; have f2 := cf 2; have f3 := cf 3; have f4 := cf 4; have hlt6 : w.heap.size + 1 < w2.heap.size := I2.out.five.lt; clear cf)
            | (go_at_call 109; (with_reducible refine (name_any N W s j d _ (I1.out.rdr.kept (((Kept.refl Nix w1).alloc _).drew) (fun h => h) (fun h => h)) hj.1 hs).mono ?_); rintro e w2 ⟨k_, h⟩; rw [HN.out] at h; obtain ⟨_, rfl, rfl, R2⟩ := h; have I2 := Lib.hid (I1.out.next hN (((Kept.refl (· = N) w1).alloc _).drew.trans k_) R2); have G2 : Hid (Five w1.heap.size (.int .i64 p.kind) (.string p.text) (.int .i64 p.n) (.string p.name) (.slice ka p.kids.length cap) w2) := Five.kept (heap_alloc_new w1 _) ((Kept.refl (· = N) _).drew.trans k_) (by omega); clear k_ R2; obtain ⟨c0, c1, c2, c3, c4, cf⟩ := I2.out.five.cells; have f0 := cf 0; have f1 := cf 1; have f2 := cf 2; have f3 := cf 3; have f4 := cf 4; have hlt6 : w.heap.size + 1 < w2.heap.size := I2.out.five.lt; clear cf))
          all_goals
            go_wp2_with fail
            clear c0 c1 c2 c3 c4 f0 f1 f2 f3 f4
            go_roundg f
            case measure => exact hfl
            case rel => first
              | exact ⟨_, k2, _, _, by omega, hk2.2, gift_after (box := .cells #[.int .i64 p.kind, .string p.text, .int .i64 p.n, .string p.name, .slice ka p.kids.length cap] 47) rfl hN hW hnl I2.out 21, HE⟩
              | exact ⟨_, k2, _, _, by omega, hk2.2, gift_ahead hN hW hnl hlt5 I2.out G2.out 21, HE⟩
      | false =>
        rw [if_neg (by simp [hb])] at E1
        have I1 := Lib.hid (I.out.next hN K1 R1)
        have hkj := isP_le (c := 46) hk
        have E2 := Lib.hid E1
        clear I R1 K1 hb E1
        go_wp2_with fail
        refine (is_any 36 N W (by decide) s _ d _ I1.out.rdr hkj.1 hs).mono ?_
        rintro e w1b ⟨rfl, R1, K1⟩
        generalize (isP 46 s k).2 = kk at *
        have hj := isP_le (c := 36) hkj.1
        have E1 := E2.out
        have I0b := I1
        cases hb : (isP 36 s kk).1 with
        | true =>
          rw [if_pos hb] at E1
          have I1 := Lib.hid (I0b.out.next hN K1 R1)
          have hlt1 := isP_lt hb
          generalize (isP 36 s kk).2 = j at *
          clear I0b E2 R1 K1 hb
          obtain ⟨c0, c1, c2, c3, c4, cf⟩ := I1.out.five.cells
          have f0 := cf 0; have f1 := cf 1; have f2 := cf 2; have f3 := cf 3; have f4 := cf 4; clear cf
          have hlt5 : w.heap.size + 1 < w1b.heap.size := I1.out.five.lt
          cases hn : nameP s j with
          | error er =>
            rw [hn] at E1
            have HE := Lib.hid E1
            have HN := Lib.hid hn
            clear E1 hn
            go_wp2_with fail
            go_region_dies
            all_goals first
              | ((with_reducible refine (name_any N W s j d _ (I1.out.rdr.kept ((Kept.refl Nix w1b).drew) (fun h => h) (fun h => h)) hj.1 hs).mono ?_); rintro e w2 ⟨k_, h⟩; rw [HN.out] at h; obtain rfl := h; exact ret_err rfl HE.out (I1.out.kept.trans ((Kept.refl (· = N) w1b).drew.trans k_)))
              | ((with_reducible refine (name_any N W s j d _ (I1.out.rdr.kept (((Kept.refl Nix w1b).alloc _).drew) (fun h => h) (fun h => h)) hj.1 hs).mono ?_); rintro e w2 ⟨k_, h⟩; rw [HN.out] at h; obtain rfl := h; exact ret_err rfl HE.out (I1.out.kept.trans (((Kept.refl (· = N) w1b).alloc _).drew.trans k_)))
          | ok y =>
            obtain ⟨nm, k2⟩ := y
            rw [hn] at E1
            have HE := Lib.hid E1
            have HN := Lib.hid hn
            have hk2 := name_ok hj.1 hn
            have hnl := name_lt hj.1 hn
            clear E1 hn
            go_wp2_with fail
            go_region_with (first
              | (go_at_call 109; (with_reducible refine (name_any N W s j d _ (I1.out.rdr.kept ((Kept.refl Nix w1b).drew) (fun h => h) (fun h => h)) hj.1 hs).mono ?_); rintro e w2 ⟨k_, h⟩; rw [HN.out] at h; obtain ⟨_, rfl, rfl, R2⟩ := h; have I2 := Lib.hid (I1.out.next hN ((Kept.refl (· = N) w1b).drew.trans k_) R2); clear k_ R2; obtain ⟨c0, c1, c2, c3, c4, cf⟩ := I2.out.five.cells; have f0 := cf 0; have f1 := cf 1; have f2 := cf 2; have f3 := cf 3; have f4 := cf 4; have hlt6 : w.heap.size + 1 < w2.heap.size := I2.out.five.lt; clear cf)
              | (go_at_call 109; (with_reducible refine (name_any N W s j d _ (I1.out.rdr.kept (((Kept.refl Nix w1b).alloc _).drew) (fun h => h) (fun h => h)) hj.1 hs).mono ?_); rintro e w2 ⟨k_, h⟩; rw [HN.out] at h; obtain ⟨_, rfl, rfl, R2⟩ := h; have I2 := Lib.hid (I1.out.next hN (((Kept.refl (· = N) w1b).alloc _).drew.trans k_) R2); have G2 : Hid (Five w1b.heap.size (.int .i64 p.kind) (.string p.text) (.int .i64 p.n) (.string p.name) (.slice ka p.kids.length cap) w2) := Five.kept (heap_alloc_new w1b _) ((Kept.refl (· = N) _).drew.trans k_) (by omega); clear k_ R2; obtain ⟨c0, c1, c2, c3, c4, cf⟩ := I2.out.five.cells; have f0 := cf 0; have f1 := cf 1; have f2 := cf 2; have f3 := cf 3; have f4 := cf 4; have hlt6 : w.heap.size + 1 < w2.heap.size := I2.out.five.lt; clear cf))
            all_goals
              go_wp2_with fail
              clear c0 c1 c2 c3 c4 f0 f1 f2 f3 f4
              go_roundg f
              case measure => exact hfl
              case rel => first
              | exact ⟨_, k2, _, _, by omega, hk2.2, gift_after (box := .cells #[.int .i64 p.kind, .string p.text, .int .i64 p.n, .string p.name, .slice ka p.kids.length cap] 47) rfl hN hW hnl I2.out 22, HE⟩
              | exact ⟨_, k2, _, _, by omega, hk2.2, gift_ahead hN hW hnl hlt5 I2.out G2.out 22, HE⟩
        | false =>
          rw [if_neg (by simp [hb])] at E1
          have I2 := Lib.hid (I0b.out.next hN K1 R1)
          have HE := Lib.hid E1
          generalize (isP 36 s kk).2 = j at *
          clear I1 I0b R1 K1 hb E1 E2
          obtain ⟨p0', p1', p2', p3', p4', _⟩ := I2.out.five.cells
          obtain ⟨c0, c1, c2, c3, c4, cf⟩ := Five.cells I2.out.zero
          have f0 := cf 0; have f1 := cf 1; have f2 := cf 2; have f3 := cf 3; have f4 := cf 4; clear cf
          obtain ⟨S, hS1, hS2⟩ := I2.out.mem
          have HS1 := Lib.hid hS1; have HS2 := Lib.hid hS2
          clear hS1 hS2
          go_wp2_with fail
          exact ret_pat (p := p) (S := S) rfl rfl I2.out.zero I2.out.rdr I2.out.kept (Nat.le_refl _) hN hW HE.out I2.out.sz (fun b hb => by have := HS2.out b hb; omega) HS1.out
end Go.Proofs.YtlnhcgihpclpaaaGreatDoor

namespace Go.Proofs.YtlnhcgihpclpaaaGreatDoor
set_option linter.all false
open Go.RowKit

theorem PatAt.open {w : World} {S : Nat → Prop} {b o : Nat} {p : PatT} (h : PatAt w S b o p) : S b ∧ (p.text.size < 1000000000 ∧ p.name.size < 1000000000 ∧ p.kids.length < 1000000000) ∧
    w.cell? ⟨b, o, none⟩ = some (.int .i64 p.kind) ∧ w.cell? ⟨b, o + 1, none⟩ = some (.string p.text) ∧ w.cell? ⟨b, o + 2, none⟩ = some (.int .i64 p.n) ∧ w.cell? ⟨b, o + 3, none⟩ = some (.string p.name) ∧
    ∃ ka cap, w.cell? ⟨b, o + 4, none⟩ = some (.slice ka p.kids.length cap) ∧ PatsAt w S ka p.kids := by
  obtain ⟨k, t, n, nm, kids⟩ := p; unfold PatAt at h; exact h

/-- Five cells that are a pattern's node, its kids in S. -/
def Node5 (w : World) (S : Nat → Prop) (c : List Value) (p : PatT) : Prop :=
  ∃ ka cap, c = [.int .i64 p.kind, .string p.text, .int .i64 p.n, .string p.name, .slice ka p.kids.length cap] ∧ (p.text.size < 1000000000 ∧ p.name.size < 1000000000 ∧ p.kids.length < 1000000000) ∧ PatsAt w S ka p.kids
def Row5 (w : World) (S : Nat → Prop) : List Value → List PatT → Prop
  | cs, [] => cs = []
  | cs, p :: ps => ∃ c rest, cs = c ++ rest ∧ Node5 w S c p ∧ Row5 w S rest ps
theorem Node5.length {w : World} {S : Nat → Prop} {c : List Value} {p : PatT} (h : Node5 w S c p) : c.length = 5 := by obtain ⟨_, _, rfl, _⟩ := h; rfl
theorem Node5.one {w : World} {S : Nat → Prop} {c : List Value} {p : PatT} (h : Node5 w S c p) : ∀ u ∈ c, u.oneCell' = true := by
  obtain ⟨_, _, rfl, _⟩ := h; intro u hu; simp at hu; rcases hu with rfl | rfl | rfl | rfl | rfl <;> rfl
theorem Row5.length {w : World} {S : Nat → Prop} : ∀ {l : List PatT} {cs : List Value}, Row5 w S cs l → cs.length = l.length * 5
  | [], cs, h => by rw [Row5] at h; subst h; rfl
  | p :: ps, cs, h => by
    rw [Row5] at h; obtain ⟨c, r, rfl, h1, h2⟩ := h
    rw [List.length_append, h1.length, h2.length, List.length_cons]; omega
theorem Row5.one {w : World} {S : Nat → Prop} : ∀ {l : List PatT} {cs : List Value}, Row5 w S cs l → ∀ u ∈ cs, u.oneCell' = true
  | [], cs, h => by rw [Row5] at h; subst h; intro u hu; simp at hu
  | p :: ps, cs, h => by
    rw [Row5] at h; obtain ⟨c, r, rfl, h1, h2⟩ := h
    intro u hu; rcases List.mem_append.1 hu with hu | hu; exact h1.one u hu; exact h2.one u hu
theorem Row5.append {w : World} {S : Nat → Prop} : ∀ {l l' : List PatT} {cs cs' : List Value}, Row5 w S cs l → Row5 w S cs' l' → Row5 w S (cs ++ cs') (l ++ l')
  | [], _, cs, _, h, h' => by rw [Row5] at h; subst h; exact h'
  | p :: ps, _, cs, _, h, h' => by
    rw [Row5] at h; obtain ⟨c, r, rfl, h1, h2⟩ := h
    rw [List.append_assoc, List.cons_append, Row5]
    exact ⟨c, _, rfl, h1, h2.append h'⟩
theorem Node5.kept {w w' : World} {S : Nat → Prop} {X : Nat → Prop} {c : List Value} {p : PatT} (h : Node5 w S c p) (hk : Kept X w w') (hs : Safe S X w.heap.size) : Node5 w' S c p := by
  obtain ⟨ka, cap, rfl, hz, hp⟩ := h; exact ⟨ka, cap, rfl, hz, hp.kept hk hs⟩
theorem Row5.kept {w w' : World} {S : Nat → Prop} {X : Nat → Prop} : ∀ {l : List PatT} {cs : List Value}, Row5 w S cs l → Kept X w w' → Safe S X w.heap.size → Row5 w' S cs l
  | [], _, h, _, _ => h
  | p :: ps, cs, h, hk, hs => by
    rw [Row5] at h ⊢; obtain ⟨c, r, rfl, h1, h2⟩ := h
    exact ⟨c, r, rfl, h1.kept hk hs, h2.kept hk hs⟩

theorem Tryz.infoP : (Tryz.prog.info? 47).map (fun i => (i.zero, i.size, i.bytes)) = some (some (.agg #[.int .i64 0, .string ⟨#[]⟩, .int .i64 0, .string ⟨#[]⟩, .slice none 0 0]), 5, 72) := by kernel_rfl

theorem sizeL_take (l : List PatT) (j : Nat) : sizeL (l.take j) ≤ sizeL l := by
  induction l generalizing j with
  | nil => simp
  | cons p ps ih => cases j with
    | zero => simp [sizeL]
    | succ j => simp only [List.take_succ_cons, sizeL]; have := ih j; omega
end Go.Proofs.YtlnhcgihpclpaaaGreatDoor
