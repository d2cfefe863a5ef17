/- The reader of patterns: a list of patterns that grows (laws for cat and alt). The reader of patterns: alt and cat. The reader of patterns: alternatives at any depth; the words. -/
import Derived.Test.YtlnhcgihpclpaaaGreatDoorLm8
namespace Go.Proofs.YtlnhcgihpclpaaaGreatDoor
set_option linter.all false
open Go.RowKit

theorem Row5.pats {w : World} {S : Nat → Prop} : ∀ {l : List PatT} {cs : List Value}, Row5 w S cs l → ∀ (g o : Nat), (∀ j u, cs[j]? = some u → w.cell? ⟨g, o + j, none⟩ = some u) → PatsAt w (fun b => S b ∨ b = g) (some ⟨g, o, none⟩) l
  | [], cs, h, g, o, hc => by unfold PatsAt; trivial
  | p :: ps, cs, h, g, o, hc => by
    rw [Row5] at h; obtain ⟨c, r, rfl, ⟨ka, cap, rfl, hz, hk⟩, h2⟩ := h
    unfold PatsAt
    refine ⟨g, o, rfl, ?_, h2.pats g (o + 5) fun i u hi => ?_⟩
    · obtain ⟨k, t, n, nm, kids⟩ := p
      unfold PatAt
      exact ⟨.inr rfl, hz, hc 0 _ rfl, hc 1 _ rfl, hc 2 _ rfl, hc 3 _ rfl, ka, cap, hc 4 _ rfl, PatsAt.same (fun _ _ => rfl) (fun b h => .inl h) _ _ hk⟩
    · rw [show o + 5 + i = o + (5 + i) by omega]; exact hc _ _ (by rw [List.getElem?_append_right (by simp)]; simpa using hi)

theorem Row5.more {w : World} {S S' : Nat → Prop} : ∀ {l : List PatT} {cs : List Value}, Row5 w S cs l → (∀ b, S b → S' b) → Row5 w S' cs l
  | [], _, h, _ => h
  | p :: ps, cs, h, hs => by
    rw [Row5] at h ⊢; obtain ⟨c, r, rfl, ⟨ka, cap, rfl, hz, hk⟩, h2⟩ := h
    exact ⟨_, r, rfl, ⟨ka, cap, rfl, hz, PatsAt.same (fun _ _ => rfl) hs _ _ hk⟩, h2.more hs⟩

structure ListI (N W : Nat) (s : ByteArray) (d : Nat) (w : World) (l : List PatT) (k : Nat) (v : Value) (wx : World) : Prop where
  rdr : Rdr N W s k d wx
  own : ∃ (cs : List Value) (S : Nat → Prop), Win wx (w.heap.size + 1) 47 5 v l.length cs ∧ Row5 wx S cs l ∧ ∀ b, S b → w.heap.size < b ∧ b < wx.heap.size ∧ v.ownBlock ≠ some b
  zero : Zero5 w.heap.size wx
  kept : Kept (· = N) w wx
  len : l.length ≤ k
theorem ListI.next {N W : Nat} {s : ByteArray} {d : Nat} {w wx w' : World} {l : List PatT} {k k' : Nat} {v : Value} (h : ListI N W s d w l k v wx) (hN : N < w.heap.size) (hk : Kept (· = N) wx w') (hr : Rdr N W s k' d w') (hkk : k ≤ k') : ListI N W s d w l k' v w' := by
  obtain ⟨cs, S, h1, h2, h3⟩ := h.own
  refine ⟨hr, ⟨cs, S, h1.kept hk (fun b hb => ?_), h2.kept hk (fun b hb => ⟨(h3 b hb).2.1, ?_⟩), fun b hb => ⟨(h3 b hb).1, Nat.lt_of_lt_of_le (h3 b hb).2.1 hk.size, (h3 b hb).2.2⟩⟩, Five.kept h.zero hk (by omega), h.kept.trans hk, Nat.le_trans h.len hkk⟩
  · have := (h1.lt b hb).1; omega
  · have := (h3 b hb).1; omega
def fiveL (p : PatT) (ka : Option Addr) (cap : Nat) : List Value := [.int .i64 p.kind, .string p.text, .int .i64 p.n, .string p.name, .slice ka p.kids.length cap]
theorem list_start {N W : Nat} {s : ByteArray} {d : Nat} {w w1 w2 : World} {p : PatT} {k : Nat} {ka : Option Addr} {cap : Nat} {S : Nat → Prop} (hN : N < w.heap.size) (h1 : w.heap.size < w1.heap.size) (h12 : w1.heap.size ≤ w2.heap.size) (R : Rdr N W s k d w2) (Z : Zero5 w.heap.size w2) (K : Kept (· = N) w w2)
    (hz : p.text.size < 1000000000 ∧ p.name.size < 1000000000 ∧ p.kids.length < 1000000000) (hS : ∀ b, S b → w1.heap.size ≤ b ∧ b < w2.heap.size) (hk : PatsAt w2 S ka p.kids) (hk1 : 1 ≤ k) :
    ListI N W s d w [p] k (.slice (some ⟨w2.heap.size, 0, none⟩) 1 1) (w2.alloc (.cells #[.int .i64 p.kind, .string p.text, .int .i64 p.n, .string p.name, .slice ka p.kids.length cap] 47)) := by
  have kA : Kept Nix w2 (w2.alloc (.cells #[.int .i64 p.kind, .string p.text, .int .i64 p.n, .string p.name, .slice ka p.kids.length cap] 47)) := (Kept.refl _ _).alloc _
  refine ⟨R.kept kA (fun h => h) (fun h => h), ⟨fiveL p ka cap, S, ⟨rfl, .inr ⟨w2.heap.size, 0, 1, _, rfl, by omega, heap_alloc_new w2 _, Nat.le_refl _, by decide, by simp, by simp [fiveL]⟩⟩, ?_, fun b hb => ⟨by have := hS b hb; omega, Nat.lt_of_lt_of_le (hS b hb).2 kA.size, ?_⟩⟩, Five.kept Z kA (fun h => h), K.quiet kA, hk1⟩
  · rw [Row5]; exact ⟨_, [], (List.append_nil _).symm, ⟨ka, cap, rfl, hz, hk.kept kA (fun b hb => ⟨(hS b hb).2, fun h => h⟩)⟩, rfl⟩
  · have := hS b hb; simp [Value.ownBlock]; omega
/-- One more behind the list: w1: the list as it was; w2: behind the callee; w3: behind append. -/
theorem list_more {N W : Nat} {s : ByteArray} {d : Nat} {w w1 w2 w3 : World} {l : List PatT} {q : PatT} {k k2 : Nat} {v : Value} {a' : Option Addr} {c' : Nat} {ka : Option Addr} {cap : Nat} {cs : List Value} {S S2 : Nat → Prop} (hN : N < w.heap.size) (hW : W < w.heap.size)
    (I : ListI N W s d w l k v w1) (h1 : Win w1 (w.heap.size + 1) 47 5 v l.length cs) (h2 : Row5 w1 S cs l) (h3 : ∀ b, S b → w.heap.size < b ∧ b < w1.heap.size ∧ v.ownBlock ≠ some b)
    (hk : Kept (· = N) w1 w2) (R : Rdr N W s k2 d w2) (hkk : k < k2) (hz : q.text.size < 1000000000 ∧ q.name.size < 1000000000 ∧ q.kids.length < 1000000000) (hS2 : ∀ b, S2 b → w1.heap.size ≤ b ∧ b < w2.heap.size) (hq : PatsAt w2 S2 ka q.kids)
    (hw : Win w3 (w.heap.size + 1) 47 5 (.slice a' (l.length + 1) c') (l.length + 1) (cs ++ [.int .i64 q.kind, .string q.text, .int .i64 q.n, .string q.name, .slice ka q.kids.length cap])) (hg : (w2.alloc (.cells #[.int .i64 q.kind, .string q.text, .int .i64 q.n, .string q.name, .slice ka q.kids.length cap] 47)).grownBy w3 v.ownBlock)
    (ho : (Value.slice a' (l.length + 1) c').ownBlock = v.ownBlock ∨ (Value.slice a' (l.length + 1) c').ownBlock = some (w2.heap.size + 1)) :
    ListI N W s d w (l ++ [q]) k2 (.slice a' (l ++ [q]).length c') w3 := by
  have kA : Kept Nix w2 (w2.alloc (.cells #[.int .i64 q.kind, .string q.text, .int .i64 q.n, .string q.name, .slice ka q.kids.length cap] 47)) := (Kept.refl _ _).alloc _
  have hlow : ∀ b, v.ownBlock = some b → w.heap.size + 1 ≤ b ∧ b < w1.heap.size := h1.lt
  have hsz12 := hk.size
  have K23 : Kept (fun b => v.ownBlock = some b) w2 w3 := (kA.more fun _ h => h.elim).grown hg fun b hb => .inl hb
  have e1 : (l ++ [q]).length = l.length + 1 := by simp
  rw [e1]
  refine ⟨R.kept K23 (fun h => by have := hlow N h; omega) (fun h => by have := hlow W h; omega), ⟨_, fun b => S b ∨ S2 b, by rw [e1]; exact hw, ?_, fun b hb => ?_⟩, ?_, (I.kept.trans hk).step K23 (fun y hy => .inr (by have := hlow y hy; omega)), by rw [e1]; have := I.len; omega⟩
  · refine Row5.append ?_ ?_
    · exact ((h2.kept hk (fun b hb => ⟨(h3 b hb).2.1, by have := (h3 b hb).1; omega⟩)).kept K23 (fun b hb => ⟨by have := (h3 b hb).2.1; omega, (h3 b hb).2.2⟩)).more fun b h => .inl h
    · rw [Row5]; refine ⟨_, [], (List.append_nil _).symm, ⟨ka, cap, rfl, hz, ?_⟩, rfl⟩
      exact PatsAt.to hq K23 (fun b hb => ⟨(hS2 b hb).2, fun h => by have := hlow b h; have := (hS2 b hb).1; omega⟩) (fun b h => .inr h)
  · have h23 := K23.size
    rcases hb with hb | hb
    · have := h3 b hb
      refine ⟨this.1, by omega, ?_⟩
      rcases ho with h | h
      · rw [h]; exact this.2.2
      · rw [h]; simp; omega
    · have := hS2 b hb
      refine ⟨by have := I.zero.lt; omega, by omega, ?_⟩
      rcases ho with h | h
      · rw [h]; intro h'; have := hlow b h'; omega
      · rw [h]; simp; omega
  · exact Five.kept (Five.kept I.zero hk (by omega)) K23 (fun h => by have := hlow _ h; omega)
/-- The list as one pattern: its only one, or all of them under a kind. -/
theorem ListI.pats {N W : Nat} {s : ByteArray} {d : Nat} {w wx : World} {l : List PatT} {k : Nat} {v : Value} (h : ListI N W s d w l k v wx) (h0 : 0 < l.length) :
    ∃ g o c S, v = .slice (some ⟨g, o, none⟩) l.length c ∧ PatsAt wx S (some ⟨g, o, none⟩) l ∧ ∀ b, S b → w.heap.size < b ∧ b < wx.heap.size := by
  obtain ⟨cs, S, h1, h2, h3⟩ := h.own
  rcases h1.cells with ⟨_, hn⟩ | ⟨g, o, c, hv, hg1, hg2, _, _, hc⟩
  · omega
  · refine ⟨g, o, c, fun b => S b ∨ b = g, hv, h2.pats g o (fun j u hu => (hc j u hu).1), fun b hb => ?_⟩
    rcases hb with hb | rfl
    · exact ⟨(h3 b hb).1, (h3 b hb).2.1⟩
    · omega
theorem PatsAt.one {w : World} {S : Nat → Prop} {g o : Nat} {p : PatT} (h : PatsAt w S (some ⟨g, o, none⟩) [p]) : PatAt w S g o p := by
  unfold PatsAt at h; obtain ⟨b, o', e, h, _⟩ := h
  simp only [Option.some.injEq, Addr.mk.injEq, and_true] at e
  obtain ⟨rfl, rfl⟩ := e; exact h
end Go.Proofs.YtlnhcgihpclpaaaGreatDoor

namespace Go.Proofs.YtlnhcgihpclpaaaGreatDoor
set_option linter.all false
open Go.RowKit

def CatOk (N W : Nat) (s : ByteArray) (d : Nat) (cat : Nat → Res PatT) : Prop :=
  ∀ (i : Nat) (w : World), Rdr N W s i d w → i ≤ s.size → Calls Tryz.prog 101 #[.pointer (some ⟨N, 0, none⟩)] w (RPost N W s d (cat i) (patVal w.heap.size) w)
def ItemOk (N W : Nat) (s : ByteArray) (d : Nat) (item : Nat → Res PatT) : Prop :=
  ∀ (i : Nat) (w : World), Rdr N W s i d w → i ≤ s.size → Calls Tryz.prog 104 #[.pointer (some ⟨N, 0, none⟩)] w (RPost N W s d (item i) (patVal w.heap.size) w)

set_option maxRecDepth 100000 in
set_option maxHeartbeats 4000000 in
theorem alt_any (N W : Nat) (s : ByteArray) (i d : Nat) (w : World) (inner : Nat → Res PatT) (hc : CatOk N W s d (catP inner s)) (hf : InnerFwd s (catP inner s)) (hr : Rdr N W s i d w) (hi : i ≤ s.size) (hs6 : s.size ≤ 65536) :
    Calls Tryz.prog 95 #[.pointer (some ⟨N, 0, none⟩)] w (RPost N W s d (altP inner s i) (patVal w.heap.size) w) := by
  have HR := Lib.hid hr; have HC := Lib.hid hc; have HF := Lib.hid hf
  have hN := hr.lt; have hW := hr.ltW; clear hr hc hf
  have hs : s.size ≤ 1000000000 := by omega
  obtain ⟨i0, hi0, hz0, hz1, hz2⟩ := info_parts Tryz.infoP
  have Z0 : Hid (Zero5 w.heap.size (w.alloc (.cells #[.int .i64 0, .string ⟨#[]⟩, .int .i64 0, .string ⟨#[]⟩, .slice none 0 0] 47))) := heap_alloc_new w _
  have K0 : Hid (Kept (· = N) w (w.alloc (.cells #[.int .i64 0, .string ⟨#[]⟩, .int .i64 0, .string ⟨#[]⟩, .slice none 0 0] 47))) := (Kept.refl _ w).alloc _
  go_enter Tryz.func95, Tryz.ntmps95
  go_wp2_with fail
  refine (HC.out i _ (HR.out.kept ((Kept.refl Nix w).alloc _) (fun h => h) (fun h => h)) hi).mono ?_
  rintro e w2 ⟨k_, h⟩
  have Z2 := Lib.hid (Five.kept Z0.out k_ (by omega)); have K2 := Lib.hid (K0.out.trans k_)
  have hsz2 := k_.size
  clear k_
  cases ht : (catP inner s) i with
  | error er =>
    rw [ht] at h
    obtain rfl := h
    have hr : Hid (altP inner s i = .error er) := by unfold Hid altP; rw [ht]
    clear ht
    go_wp2_with fail
    exact ret_err rfl hr.out K2.out
  | ok y =>
    obtain ⟨p, k0⟩ := y
    rw [ht] at h
    obtain ⟨_, rfl, ⟨S, hS, ⟨ka, cap, rfl, hz, hk⟩⟩, R2⟩ := h
    have hk0 := HF.out _ _ _ hi ht
    have LS := Lib.hid (list_start (cap := cap) hN (w1 := w.alloc (.cells #[.int .i64 0, .string ⟨#[]⟩, .int .i64 0, .string ⟨#[]⟩, .slice none 0 0] 47)) (by simp) hsz2 R2 Z2.out K2.out hz hS hk (by omega))
    have E0' : Hid (altP inner s i = altGo inner s (s.size + 1 - k0) [p] k0) := by unfold Hid altP; rw [ht]
    clear ht hz hS hk R2 hsz2 Z0 K0 Z2 K2
    go_wp2_with fail
    go_loopg [3] (s.size + 1 - k0) (fun f v wr => ∃ (l : List PatT) (k : Nat) (a : Option Addr) (c : Nat), s.size + 1 - k ≤ f ∧ k ≤ s.size ∧ 0 < l.length ∧ l.length ≤ k ∧ v = .slice a l.length c ∧ Hid (ListI N W s d w l k v wr) ∧ Hid (altP inner s i = altGo inner s f l k))
    case atStart => exact ⟨[p], k0, _, _, Nat.le_refl _, hk0.2, by simp, by simp; omega, rfl, LS, E0'⟩
    case round =>
      obtain ⟨l, k, a, c, hf, hk, hl0, hlk, rfl, I, E⟩ := hrel
      obtain ⟨f, hgk⟩ : ∃ f, gk = f + 1 := ⟨gk - 1, by omega⟩
      have E1 := E.out
      rw [hgk, altGo] at E1
      have hf2 : s.size - k ≤ f := by omega
      have hfl : f < gk := by omega
      have EE := Lib.hid E1
      clear hgk hf E LS E0' hk0 E1
      go_wp2_with fail
      refine (is_any 124 N W (by decide) s k d _ I.out.rdr hk hs).mono ?_
      rintro e w1 ⟨rfl, R1, K1⟩
      have E1 := EE.out; clear EE
      have hj := isP_le (c := 124) hk
      cases hb : (isP 124 s k).1 with
      | true =>
        rw [if_pos hb] at E1
        have hlt1 := isP_lt hb
        have I1 := Lib.hid (I.out.next hN K1 R1 (by omega))
        generalize (isP 124 s k).2 = j at *
        replace hj := hj.1
        clear I R1 K1 hb
        have HE := Lib.hid E1
        clear E1
        go_wp2_with fail
        refine (HC.out j _ I1.out.rdr hj).mono ?_
        rintro e w2 ⟨k_, h⟩
        cases ht : (catP inner s) j with
        | error er =>
          rw [ht] at h
          obtain rfl := h
          have hr : Hid (altP inner s i = .error er) := by unfold Hid; rw [HE.out, ht]
          have KE := Lib.hid (I1.out.kept.trans k_)
          clear ht k_
          go_wp2_with fail
          exact ret_err rfl hr.out KE.out
        | ok y =>
          obtain ⟨q, k2⟩ := y
          rw [ht] at h
          obtain ⟨_, rfl, ⟨S2, hS2, ⟨ka, cap, rfl, hz, hq⟩⟩, R2⟩ := h
          have hk2 := HF.out _ _ _ hj ht
          have HE2 := Lib.hid (HE.out.trans (by rw [ht]))
          obtain ⟨cs, S, hw1, hr1, hS1⟩ := I1.out.own
          have hlow := hw1.lt
          have Wb := Lib.hid ((hw1.kept k_ (fun b hb => by have := (hw1.lt b hb).1; omega)).alloc (.cells #[.int .i64 q.kind, .string q.text, .int .i64 q.n, .string q.name, .slice ka q.kids.length cap] 47))
          have hw12 := k_.size
          have hww := I1.out.kept.size
          have hwz := I1.out.zero.lt
          have LM : Hid (∀ (a' : Option Addr) (c' : Nat) (w3 : World), Win w3 (w.heap.size + 1) 47 5 (.slice a' (l.length + 1) c') (l.length + 1) (cs ++ [.int .i64 q.kind, .string q.text, .int .i64 q.n, .string q.name, .slice ka q.kids.length cap]) →
              (w2.alloc (.cells #[.int .i64 q.kind, .string q.text, .int .i64 q.n, .string q.name, .slice ka q.kids.length cap] 47)).grownBy w3 (Value.slice a l.length c).ownBlock → ((Value.slice a' (l.length + 1) c').ownBlock = (Value.slice a l.length c).ownBlock ∨ (Value.slice a' (l.length + 1) c').ownBlock = some (w2.heap.size + 1)) →
              ListI N W s d w (l ++ [q]) k2 (.slice a' (l ++ [q]).length c') w3) := fun a' c' w3 x1 x2 x3 => list_more hN hW I1.out hw1 hr1 hS1 k_ R2 (by omega) hz hS2 hq x1 x2 x3
          have el : (l ++ [q]).length = l.length + 1 := by simp
          have EL := Lib.hid el
          clear ht hz hS2 hq R2 k_ hw1 hr1 hS1 hlow el
          go_wp2_with (at_builtin; go_loud (refine wpList_append_win _ rfl (.tmp 9) (.tmp 12) 45 45 rfl (w.heap.size + 1) 47 i0 (.agg #[.int .i64 0, .string ⟨#[]⟩, .int .i64 0, .string ⟨#[]⟩, .slice none 0 0]) 5 72 Tryz.underlying45 hi0 hz0 hz1 hz2 rfl (.slice a l.length c) l.length cs rfl Wb.out _ 1 [.int .i64 q.kind, .string q.text, .int .i64 q.n, .string q.name, .slice ka q.kids.length cap] rfl (Src.ofSlice _ Tryz.underlying45 _ _ _ _ rfl (World.news_of_block (fr := (0, 0)) (cs := #[.int .i64 q.kind, .string q.text, .int .i64 q.n, .string q.name, .slice ka q.kids.length cap]) (heap_new2 (by simp))) (by intro u hu; simp at hu; rcases hu with rfl | rfl | rfl | rfl | rfl <;> rfl)) (by unfold maxLen; omega) (by omega) (by simp; omega) ?_); intro a3 c3 w3 hW3 hg3 ho3)
          have I3 := Lib.hid (LM.out a3 c3 w3 hW3 hg3 (by simpa using ho3))
          clear hW3 hg3 ho3 LM Wb
          go_wp2_with fail
          go_roundg f
          case measure => exact hfl
          case rel => exact ⟨l ++ [q], k2, a3, c3, by omega, hk2.2, by rw [EL.out]; omega, by rw [EL.out]; omega, by rw [EL.out], by have h := I3.out; rw [EL.out] at h; exact h, HE2⟩
      | false =>
        rw [if_neg (by simp [hb])] at E1
        have I1 := Lib.hid (I.out.next hN K1 R1 hj.2)
        generalize (isP 124 s k).2 = j at *
        clear I R1 K1 hb
        have hr : Hid (altP inner s i = .ok (oneOr 19 l, j)) := E1
        clear E1
        obtain ⟨g, o, c', S, hv, hp, hS⟩ := ListI.pats I1.out hl0
        simp only [Value.slice.injEq, true_and] at hv
        obtain ⟨rfl, rfl⟩ := hv
        obtain ⟨c0, c1, c2, c3, c4, cf⟩ := Five.cells I1.out.zero
        have f0 := cf 0; have f1 := cf 1; have f2 := cf 2; have f3 := cf 3; have f4 := cf 4; clear cf
        have HS := Lib.hid hS; clear hS
        by_cases h1 : l.length = 1
        · obtain ⟨p1, rfl⟩ : ∃ p1, l = [p1] := List.length_eq_one_iff.1 h1
          obtain ⟨hb1, hz1, e0, e1, e2, e3, ka1, cap1, e4, hk1⟩ := hp.one.open
          have HZ1 := Lib.hid hz1; have HK1 := Lib.hid hk1
          clear hp hz1 hk1 h1 hl0 hlk
          go_wp2_with fail
          exact ret_pat (p := p1) (S := S) rfl rfl I1.out.zero I1.out.rdr I1.out.kept (Nat.le_refl _) hN hW hr.out HZ1.out (fun b hb => by have := HS.out b hb; omega) HK1.out
        · have hne : ((l.length : Int) == 1) = false := by simp; omega
          have e1 : oneOr 19 l = .mk 19 E0 0 E0 l := by
            match l, h1 with
            | [], _ => rfl
            | [_], h1 => simp at h1
            | _ :: _ :: _, _ => rfl
          have hr2 : Hid (altP inner s i = .ok (.mk 19 E0 0 E0 l, j)) := by unfold Hid; rw [hr.out, e1]
          have HP := Lib.hid hp
          have hlz : l.length < 1000000000 := by omega
          clear hp e1 h1
          go_wp2_with fail
          exact ret_pat (p := .mk 19 E0 0 E0 l) (S := S) rfl rfl I1.out.zero I1.out.rdr I1.out.kept (Nat.le_refl _) hN hW hr2.out ⟨e0_lt, e0_lt, hlz⟩ (fun b hb => by have := HS.out b hb; omega) HP.out

set_option maxRecDepth 100000 in
set_option maxHeartbeats 4000000 in
theorem cat_any (N W : Nat) (s : ByteArray) (i d : Nat) (w : World) (inner : Nat → Res PatT) (hc : ItemOk N W s d (itemP inner s)) (hf : InnerFwd s (itemP inner s)) (hr : Rdr N W s i d w) (hi : i ≤ s.size) (hs6 : s.size ≤ 65536) :
    Calls Tryz.prog 101 #[.pointer (some ⟨N, 0, none⟩)] w (RPost N W s d (catP inner s i) (patVal w.heap.size) w) := by
  have HR := Lib.hid hr; have HC := Lib.hid hc; have HF := Lib.hid hf
  have hN := hr.lt; have hW := hr.ltW; clear hr hc hf
  have hs : s.size ≤ 1000000000 := by omega
  obtain ⟨i0, hi0, hz0, hz1, hz2⟩ := info_parts Tryz.infoP
  have Z0 : Hid (Zero5 w.heap.size (w.alloc (.cells #[.int .i64 0, .string ⟨#[]⟩, .int .i64 0, .string ⟨#[]⟩, .slice none 0 0] 47))) := heap_alloc_new w _
  have K0 : Hid (Kept (· = N) w (w.alloc (.cells #[.int .i64 0, .string ⟨#[]⟩, .int .i64 0, .string ⟨#[]⟩, .slice none 0 0] 47))) := (Kept.refl _ w).alloc _
  go_enter Tryz.func101, Tryz.ntmps101
  go_wp2_with fail
  refine (HC.out i _ (HR.out.kept ((Kept.refl Nix w).alloc _) (fun h => h) (fun h => h)) hi).mono ?_
  rintro e w2 ⟨k_, h⟩
  have Z2 := Lib.hid (Five.kept Z0.out k_ (by omega)); have K2 := Lib.hid (K0.out.trans k_)
  have hsz2 := k_.size
  clear k_
  cases ht : (itemP inner s) i with
  | error er =>
    rw [ht] at h
    obtain rfl := h
    have hr : Hid (catP inner s i = .error er) := by unfold Hid catP; rw [ht]
    clear ht
    go_wp2_with fail
    exact ret_err rfl hr.out K2.out
  | ok y =>
    obtain ⟨p, k0⟩ := y
    rw [ht] at h
    obtain ⟨_, rfl, ⟨S, hS, ⟨ka, cap, rfl, hz, hk⟩⟩, R2⟩ := h
    have hk0 := HF.out _ _ _ hi ht
    have LS := Lib.hid (list_start (cap := cap) hN (w1 := w.alloc (.cells #[.int .i64 0, .string ⟨#[]⟩, .int .i64 0, .string ⟨#[]⟩, .slice none 0 0] 47)) (by simp) hsz2 R2 Z2.out K2.out hz hS hk (by omega))
    have E0' : Hid (catP inner s i = catGo inner s (s.size + 1 - k0) [p] k0) := by unfold Hid catP; rw [ht]
    clear ht hz hS hk R2 hsz2 Z0 K0 Z2 K2
    go_wp2_with fail
    go_loopg [3] (s.size + 1 - k0) (fun f v wr => ∃ (l : List PatT) (k : Nat) (a : Option Addr) (c : Nat), s.size + 1 - k ≤ f ∧ k ≤ s.size ∧ 0 < l.length ∧ l.length ≤ k ∧ v = .slice a l.length c ∧ Hid (ListI N W s d w l k v wr) ∧ Hid (catP inner s i = catGo inner s f l k))
    case atStart => exact ⟨[p], k0, _, _, Nat.le_refl _, hk0.2, by simp, by simp; omega, rfl, LS, E0'⟩
    case round =>
      obtain ⟨l, k, a, c, hf, hk, hl0, hlk, rfl, I, E⟩ := hrel
      obtain ⟨f, hgk⟩ : ∃ f, gk = f + 1 := ⟨gk - 1, by omega⟩
      have E1 := E.out
      rw [hgk, catGo] at E1
      have hf2 : s.size - k ≤ f := by omega
      have hfl : f < gk := by omega
      have EE := Lib.hid E1
      clear hgk hf E LS E0' hk0 E1
      go_wp2_with fail
      refine (next_any N W s k d _ I.out.rdr hk hs).mono ?_
      rintro e w1 ⟨rfl, R1, K1⟩
      have E1 := EE.out; clear EE
      have hj := skip_le hk; have hkj := skip_ge s k
      have I1 := Lib.hid (I.out.next hN K1 R1 hkj)
      generalize hjj : skip s k = j at *
      have HE1 := Lib.hid E1
      clear I R1 K1 E1 hjj
      go_upto_if 12 with fail
      go_cut [12] (fun b wx => b = .bool (starts (peek s j)) ∧ w1 = wx)
      case first =>
        by_cases b1 : peek s j = 40
        · have z1 : (peek s j == 40) = true := by simpa using b1
          clear b1
          go_wp2_with fail
          go_meet
          exact ⟨by unfold starts; simp [z1], rfl⟩
        have z1 : (peek s j == 40) = false := by simpa using b1
        by_cases b2 : peek s j = 39
        · have z2 : (peek s j == 39) = true := by simpa using b2
          clear b1 b2
          go_wp2_with fail
          go_meet
          exact ⟨by unfold starts; simp [z1, z2], rfl⟩
        have z2 : (peek s j == 39) = false := by simpa using b2
        by_cases b3 : peek s j = 64
        · have z3 : (peek s j == 64) = true := by simpa using b3
          clear b1 b2 b3
          go_wp2_with fail
          go_meet
          exact ⟨by unfold starts; simp [z1, z2, z3], rfl⟩
        have z3 : (peek s j == 64) = false := by simpa using b3
        by_cases b4 : peek s j = 42
        · have z4 : (peek s j == 42) = true := by simpa using b4
          clear b1 b2 b3 b4
          go_wp2_with fail
          go_meet
          exact ⟨by unfold starts; simp [z1, z2, z3, z4], rfl⟩
        have z4 : (peek s j == 42) = false := by simpa using b4
        clear b1 b2 b3 b4
        by_cases b5 : 65 ≤ peek s j
        · have z5 : decide (65 ≤ peek s j) = true := decide_eq_true b5
          by_cases b6 : peek s j ≤ 90
          · have z6 : decide (peek s j ≤ 90) = true := decide_eq_true b6
            clear b5 b6
            go_wp2_with fail
            go_meet
            exact ⟨by unfold starts; simp [z1, z2, z3, z4, z5, z6], rfl⟩
          · have z6 : decide (peek s j ≤ 90) = false := decide_eq_false b6
            clear b5 b6
            go_wp2_with fail
            go_meet
            exact ⟨by unfold starts; simp [z1, z2, z3, z4, z5, z6], rfl⟩
        · have z5 : decide (65 ≤ peek s j) = false := decide_eq_false b5
          clear b5
          go_wp2_with fail
          go_meet
          exact ⟨by unfold starts; simp [z1, z2, z3, z4, z5], rfl⟩
      case rest =>
        obtain ⟨rfl, rfl⟩ := hcut
        have E1 := HE1.out; clear HE1
        cases hb : starts (peek s j) with
        | true =>
          rw [if_pos hb] at E1
          clear hb
          have HE := Lib.hid E1
          clear E1
          go_wp2_with fail
          refine (HC.out j _ I1.out.rdr hj).mono ?_
          rintro e w2 ⟨k_, h⟩
          cases ht : (itemP inner s) j with
          | error er =>
            rw [ht] at h
            obtain rfl := h
            have hr : Hid (catP inner s i = .error er) := by unfold Hid; rw [HE.out, ht]
            have KE := Lib.hid (I1.out.kept.trans k_)
            clear ht k_
            go_wp2_with fail
            exact ret_err rfl hr.out KE.out
          | ok y =>
            obtain ⟨q, k2⟩ := y
            rw [ht] at h
            obtain ⟨_, rfl, ⟨S2, hS2, ⟨ka, cap, rfl, hz, hq⟩⟩, R2⟩ := h
            have hk2 := HF.out _ _ _ hj ht
            have HE2 := Lib.hid (HE.out.trans (by rw [ht]))
            obtain ⟨cs, S, hw1, hr1, hS1⟩ := I1.out.own
            have hlow := hw1.lt
            have Wb := Lib.hid ((hw1.kept k_ (fun b hb => by have := (hw1.lt b hb).1; omega)).alloc (.cells #[.int .i64 q.kind, .string q.text, .int .i64 q.n, .string q.name, .slice ka q.kids.length cap] 47))
            have hw12 := k_.size
            have hww := I1.out.kept.size
            have hwz := I1.out.zero.lt
            have LM : Hid (∀ (a' : Option Addr) (c' : Nat) (w3 : World), Win w3 (w.heap.size + 1) 47 5 (.slice a' (l.length + 1) c') (l.length + 1) (cs ++ [.int .i64 q.kind, .string q.text, .int .i64 q.n, .string q.name, .slice ka q.kids.length cap]) →
                (w2.alloc (.cells #[.int .i64 q.kind, .string q.text, .int .i64 q.n, .string q.name, .slice ka q.kids.length cap] 47)).grownBy w3 (Value.slice a l.length c).ownBlock → ((Value.slice a' (l.length + 1) c').ownBlock = (Value.slice a l.length c).ownBlock ∨ (Value.slice a' (l.length + 1) c').ownBlock = some (w2.heap.size + 1)) →
                ListI N W s d w (l ++ [q]) k2 (.slice a' (l ++ [q]).length c') w3) := fun a' c' w3 x1 x2 x3 => list_more hN hW I1.out hw1 hr1 hS1 k_ R2 (by omega) hz hS2 hq x1 x2 x3
            have el : (l ++ [q]).length = l.length + 1 := by simp
            have EL := Lib.hid el
            clear ht hz hS2 hq R2 k_ hw1 hr1 hS1 hlow el
            go_wp2_with (at_builtin; go_loud (refine wpList_append_win _ rfl (.tmp 27) (.tmp 30) 45 45 rfl (w.heap.size + 1) 47 i0 (.agg #[.int .i64 0, .string ⟨#[]⟩, .int .i64 0, .string ⟨#[]⟩, .slice none 0 0]) 5 72 Tryz.underlying45 hi0 hz0 hz1 hz2 rfl (.slice a l.length c) l.length cs rfl Wb.out _ 1 [.int .i64 q.kind, .string q.text, .int .i64 q.n, .string q.name, .slice ka q.kids.length cap] rfl (Src.ofSlice _ Tryz.underlying45 _ _ _ _ rfl (World.news_of_block (fr := (0, 0)) (cs := #[.int .i64 q.kind, .string q.text, .int .i64 q.n, .string q.name, .slice ka q.kids.length cap]) (heap_new2 (by simp))) (by intro u hu; simp at hu; rcases hu with rfl | rfl | rfl | rfl | rfl <;> rfl)) (by unfold maxLen; omega) (by omega) (by simp; omega) ?_); intro a3 c3 w3 hW3 hg3 ho3)
            have I3 := Lib.hid (LM.out a3 c3 w3 hW3 hg3 (by simpa using ho3))
            clear hW3 hg3 ho3 LM Wb
            go_wp2_with fail
            go_roundg f
            case measure => exact hfl
            case rel => exact ⟨l ++ [q], k2, a3, c3, by omega, hk2.2, by rw [EL.out]; omega, by rw [EL.out]; omega, by rw [EL.out], by have h := I3.out; rw [EL.out] at h; exact h, HE2⟩
        | false =>
          rw [if_neg (by simp [hb])] at E1
          clear hb
          have hr : Hid (catP inner s i = .ok (oneOr 18 l, j)) := E1
          clear E1
          obtain ⟨g, o, c', S, hv, hp, hS⟩ := ListI.pats I1.out hl0
          simp only [Value.slice.injEq, true_and] at hv
          obtain ⟨rfl, rfl⟩ := hv
          obtain ⟨c0, c1, c2, c3, c4, cf⟩ := Five.cells I1.out.zero
          have f0 := cf 0; have f1 := cf 1; have f2 := cf 2; have f3 := cf 3; have f4 := cf 4; clear cf
          have HS := Lib.hid hS; clear hS
          by_cases h1 : l.length = 1
          · obtain ⟨p1, rfl⟩ : ∃ p1, l = [p1] := List.length_eq_one_iff.1 h1
            obtain ⟨hb1, hz1, e0, e1, e2, e3, ka1, cap1, e4, hk1⟩ := hp.one.open
            have HZ1 := Lib.hid hz1; have HK1 := Lib.hid hk1
            clear hp hz1 hk1 h1 hl0 hlk
            go_wp2_with fail
            exact ret_pat (p := p1) (S := S) rfl rfl I1.out.zero I1.out.rdr I1.out.kept (Nat.le_refl _) hN hW hr.out HZ1.out (fun b hb => by have := HS.out b hb; omega) HK1.out
          · have hne : ((l.length : Int) == 1) = false := by simp; omega
            have e1 : oneOr 18 l = .mk 18 E0 0 E0 l := by
              match l, h1 with
              | [], _ => rfl
              | [_], h1 => simp at h1
              | _ :: _ :: _, _ => rfl
            have hr2 : Hid (catP inner s i = .ok (.mk 18 E0 0 E0 l, j)) := by unfold Hid; rw [hr.out, e1]
            have HP := Lib.hid hp
            have hlz : l.length < 1000000000 := by omega
            clear hp e1 h1
            go_wp2_with fail
            exact ret_pat (p := .mk 18 E0 0 E0 l) (S := S) rfl rfl I1.out.zero I1.out.rdr I1.out.kept (Nat.le_refl _) hN hW hr2.out ⟨e0_lt, e0_lt, hlz⟩ (fun b hb => by have := HS.out b hb; omega) HP.out
end Go.Proofs.YtlnhcgihpclpaaaGreatDoor

namespace Go.Proofs.YtlnhcgihpclpaaaGreatDoor
set_option linter.all false
open Go.RowKit

theorem gifts_fwd {s : ByteArray} : ∀ (f : Nat) (p : PatT) (k : Nat) {q : PatT} {k' : Nat}, k ≤ s.size → giftsP s f p k = .ok (q, k') → k ≤ k' ∧ k' ≤ s.size
  | 0, p, k, q, k', hk, h => by simp [giftsP] at h; omega
  | f + 1, p, k, q, k', hk, h => by
    have h1 := isP_le (c := 46) hk
    rw [giftsP] at h
    split at h
    · cases hn : nameP s (isP 46 s k).2 with
      | error e => rw [hn] at h; cases h
      | ok y =>
        obtain ⟨nm, k1⟩ := y
        rw [hn] at h
        have h2 := name_ok h1.1 hn
        have := gifts_fwd f _ k1 h2.2 h
        omega
    · have h3 := isP_le (c := 36) h1.1
      split at h
      · cases hn : nameP s (isP 36 s (isP 46 s k).2).2 with
        | error e => rw [hn] at h; cases h
        | ok y =>
          obtain ⟨nm, k1⟩ := y
          rw [hn] at h
          have h2 := name_ok h3.1 hn
          have := gifts_fwd f _ k1 h2.2 h
          omega
      · simp only [Except.ok.injEq, Prod.mk.injEq] at h; omega
theorem item_fwd {s : ByteArray} {inner : Nat → Res PatT} (hf : InnerFwd s inner) : InnerFwd s (itemP inner s) := by
  intro i p k hi h
  unfold itemP at h
  cases hh : headP inner s i with
  | error e => rw [hh] at h; cases h
  | ok y =>
    obtain ⟨q, k1⟩ := y
    rw [hh] at h
    have h1 := head_fwd hf hi hh
    have := gifts_fwd _ _ _ h1.2 h
    omega
theorem catGo_fwd {s : ByteArray} {inner : Nat → Res PatT} (hf : InnerFwd s inner) : ∀ (f : Nat) (l : List PatT) (k : Nat) {q : PatT} {k' : Nat}, k ≤ s.size → catGo inner s f l k = .ok (q, k') → k ≤ k' ∧ k' ≤ s.size
  | 0, l, k, q, k', hk, h => by simp [catGo] at h; omega
  | f + 1, l, k, q, k', hk, h => by
    have h1 := skip_ge s k; have h2 := skip_le hk
    rw [catGo] at h
    split at h
    · cases hn : itemP inner s (skip s k) with
      | error e => rw [hn] at h; cases h
      | ok y =>
        obtain ⟨nm, k1⟩ := y
        rw [hn] at h
        have h3 := item_fwd hf _ _ _ h2 hn
        have := catGo_fwd hf f _ k1 h3.2 h
        omega
    · simp only [Except.ok.injEq, Prod.mk.injEq] at h; omega
theorem cat_fwd {s : ByteArray} {inner : Nat → Res PatT} (hf : InnerFwd s inner) : InnerFwd s (catP inner s) := by
  intro i p k hi h
  unfold catP at h
  cases hh : itemP inner s i with
  | error e => rw [hh] at h; cases h
  | ok y =>
    obtain ⟨q, k1⟩ := y
    rw [hh] at h
    have h1 := item_fwd hf _ _ _ hi hh
    have := catGo_fwd hf _ _ _ h1.2 h
    omega
theorem altGo_fwd {s : ByteArray} {inner : Nat → Res PatT} (hf : InnerFwd s inner) : ∀ (f : Nat) (l : List PatT) (k : Nat) {q : PatT} {k' : Nat}, k ≤ s.size → altGo inner s f l k = .ok (q, k') → k ≤ k' ∧ k' ≤ s.size
  | 0, l, k, q, k', hk, h => by simp [altGo] at h; omega
  | f + 1, l, k, q, k', hk, h => by
    have h1 := isP_le (c := 124) hk
    rw [altGo] at h
    split at h
    · cases hn : catP inner s (isP 124 s k).2 with
      | error e => rw [hn] at h; cases h
      | ok y =>
        obtain ⟨nm, k1⟩ := y
        rw [hn] at h
        have h3 := cat_fwd hf _ _ _ h1.1 hn
        have := altGo_fwd hf f _ k1 h3.2 h
        omega
    · simp only [Except.ok.injEq, Prod.mk.injEq] at h; omega
theorem alt_fwd {s : ByteArray} {inner : Nat → Res PatT} (hf : InnerFwd s inner) : InnerFwd s (altP inner s) := by
  intro i p k hi h
  unfold altP at h
  cases hh : catP inner s i with
  | error e => rw [hh] at h; cases h
  | ok y =>
    obtain ⟨q, k1⟩ := y
    rw [hh] at h
    have h1 := cat_fwd hf _ _ _ hi hh
    have := altGo_fwd hf _ _ _ h1.2 h
    omega
theorem inner_fwd (s : ByteArray) : ∀ m, InnerFwd s (innerP s m)
  | 0 => fun i p k _ h => by simp [innerP] at h
  | m + 1 => fun i p k hi h => alt_fwd (inner_fwd s m) i p k hi h
theorem alt_of_inner {N W : Nat} {s : ByteArray} {d m : Nat} (hs : s.size ≤ 65536) (hin : InnerOk N W s d (innerP s m)) : AltOk N W s d (altP (innerP s m) s) := fun i w hr hi =>
  alt_any N W s i d w (innerP s m) (fun i w hr hi => cat_any N W s i d w (innerP s m) (fun i w hr hi => item_any N W s i d w (innerP s m) hin (inner_fwd s m) hr hi hs) (item_fwd (inner_fwd s m)) hr hi hs) (cat_fwd (inner_fwd s m)) hr hi hs
theorem inner_all (N W : Nat) (s : ByteArray) (hs : s.size ≤ 65536) : ∀ (m d : Nat), 200 = d + m → InnerOk N W s d (innerP s m)
  | 0, d, h => by obtain rfl : d = 200 := by omega
                  exact inner_deep N W s
  | m + 1, d, h => inner_more N W s d m h (alt_of_inner hs (inner_all N W s hs m (d + 1) (by omega)))
theorem alt_all (N W : Nat) (s : ByteArray) (hs : s.size ≤ 65536) : AltOk N W s 0 (altP (innerP s 200) s) := alt_of_inner hs (inner_all N W s hs 200 0 rfl)

set_option maxRecDepth 100000 in
theorem words_any (w : World) : Calls Tryz.prog 94 #[] w fun e w' => e = .returned (.slice (some ⟨w.heap.size, 0, none⟩) 21 21) ∧ w' = w.alloc (.cells (wordsL.map Value.string).toArray 9) := by
  go_enter Tryz.func94, Tryz.ntmps94
  go_wp2
  go_ret
  exact ⟨rfl, rfl⟩
end Go.Proofs.YtlnhcgihpclpaaaGreatDoor
