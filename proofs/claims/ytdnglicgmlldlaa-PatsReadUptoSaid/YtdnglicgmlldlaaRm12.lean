/- The document's reader: given, whole. The document's reader: lists of patterns that grow (laws for cats and alts). The document's reader: cats. The document's reader: alts. -/
import Derived.Test.YtdnglicgmlldlaaRm11
namespace Go.Proofs.Ytdnglicgmlldlaa
open Go.RowKit

theorem itemW_start {N G : Nat} {s : ByteArray} {l : List Tok} {d' : Nat} {b : Er} {w w2 wx : World} {q : PatT} {ka : Option Addr} {cap : Nat} {S : Nat → Prop} (hN : N < w.heap.size) (hsz : w.heap.size < w2.heap.size)
    (W2 : Wk N G s l d' b w2) (K2 : Kept (· = N) w w2) (Z2 : Zero5 w.heap.size w2) (hz : q.text.size < 1000000000 ∧ q.name.size < 1000000000 ∧ q.kids.length < 1000000000)
    (hS : ∀ b, S b → w.heap.size < b ∧ b < w2.heap.size) (hk : PatsAt w2 S ka q.kids) (K : Kept Nix w2 wx) (F : Five w2.heap.size (.int .i64 q.kind) (.string q.text) (.int .i64 q.n) (.string q.name) (.slice ka q.kids.length cap) wx) : ItemW N G w2.heap.size s l d' b w q ka cap wx :=
  ⟨W2.kept K (fun h => h) (fun h => h), F, ⟨S, hk.kept K (fun b hb => ⟨(hS b hb).2, fun h => h⟩), fun b hb => ⟨(hS b hb).1, Nat.lt_of_lt_of_le (hS b hb).2 K.size, by have := hS b hb; omega⟩⟩, hz, Five.kept Z2 K (fun h => h), K2.quiet K, hsz⟩
theorem gstate_start {s : ByteArray} {inner : Nat → Res PatT} {i d d' : Nat} {q : PatT} {l : List Tok} {b : Er} (hk : ∀ p k, headP inner s i = .ok (p, k) → k ≤ s.size) (h : RefOk s d (headP inner s i) q l d' b) : ∃ f, GState s (itemP inner s i) d f q l d' b := by
  unfold itemP
  cases ht : headP inner s i with
  | error er =>
    rw [ht] at h; obtain ⟨rfl, h1, h2, h3⟩ := h
    exact ⟨0, .inr ⟨h1, h2, h3, rfl⟩⟩
  | ok y =>
    obtain ⟨p, k⟩ := y
    rw [ht] at h; obtain ⟨rfl, rfl, rfl, rfl⟩ := h
    exact ⟨s.size + 1 - k, .inl ⟨rfl, rfl, k, Nat.le_refl _, hk _ _ ht, rfl, rfl⟩⟩
def GivenOk (N G : Nat) (s : ByteArray) (d : Nat) (it : Nat → Res PatT) : Prop :=
  ∀ (i : Nat) (w : World), Wk N G s (toks s i) d (0, 0) w → i ≤ s.size → Calls Try.prog 46 #[.pointer (some ⟨N, 0, none⟩)] w (RefPost N G s d (it i) w)

set_option maxRecDepth 100000 in
set_option maxHeartbeats 16000000 in
theorem given_any (N G : Nat) (s : ByteArray) (d : Nat) (inner : Nat → Res PatT) (hp : PieceOk N G s d (headP inner s)) (hf : InnerFwd s (headP inner s)) (hs : s.size ≤ 65536) (hd2 : d ≤ 200) : GivenOk N G s d (itemP inner s) := by
  intro i w h hi
  have HP := Lib.hid hp; have HF := Lib.hid hf
  have hN := h.ltN; have hG := h.lt; have hne := h.ne
  have H1 := Lib.hid (h.kept ((Kept.refl Nix w).alloc (.cells #[.int .i64 0, .string ⟨#[]⟩, .int .i64 0, .string ⟨#[]⟩, .slice none 0 0] 24)) (fun h => h) (fun h => h))
  have Z0 : Hid (Zero5 w.heap.size (w.alloc (.cells #[.int .i64 0, .string ⟨#[]⟩, .int .i64 0, .string ⟨#[]⟩, .slice none 0 0] 24))) := heap_alloc_new w _
  have K0 : Hid (Kept (· = N) w (w.alloc (.cells #[.int .i64 0, .string ⟨#[]⟩, .int .i64 0, .string ⟨#[]⟩, .slice none 0 0] 24))) := (Kept.refl _ w).alloc _
  clear hp hf h
  go_enter Try.func46, Try.ntmps46
  go_wp2_with fail
  refine (HP.out i _ H1.out hi).mono ?_
  rintro e w2 ⟨q, _, l, d', b, rfl, ⟨S, hS, ⟨ka, cap, rfl, hz, hk⟩⟩, W2, R2, K2⟩
  have hsz2 : w.heap.size < w2.heap.size := by have := K2.size; simp at this; omega
  have ZZ := Five.kept Z0.out K2 (by omega)
  have KK := K0.out.trans K2
  obtain ⟨fz, G0⟩ := gstate_start (fun p k e => (HF.out i p k hi e).2) R2
  have HG0 := Lib.hid G0
  have I0 : Hid (ItemW N G w2.heap.size s l d' b w q ka cap (w2.alloc (.cells #[.int .i64 q.kind, .string q.text, .int .i64 q.n, .string q.name, .slice ka q.kids.length cap] 24))) :=
    itemW_start hN hsz2 W2 KK ZZ hz (fun b hb => by have := hS b hb; simp at this; omega) hk ((Kept.refl Nix w2).alloc _) (heap_alloc_new w2 _)
  clear hS hz hk W2 R2 K2 ZZ KK G0 H1 Z0 K0 HP HF
  generalize hB : w2.heap.size = B at *
  go_wp2_with fail
  go_loopg [] fz (fun f wr => ∃ (p : PatT) (l : List Tok) (d' : Nat) (b : Er) (ka : Option Addr) (cap : Nat), Hid (ItemW N G B s l d' b w p ka cap wr) ∧ Hid (GState s (itemP inner s i) d f p l d' b))
  case atStart => exact ⟨q, l, d', b, ka, cap, I0, HG0⟩
  case round =>
    obtain ⟨p, l, d', b, ka, cap, I, GS⟩ := hrel
    clear I0 HG0
    rcases GS.out with ⟨rfl, hdd, k, hf, hk, rfl, E⟩ | ⟨hb, h1, h2, E⟩
    · replace hdd := hdd.symm; subst hdd
      obtain ⟨f, hgk⟩ : ∃ f, gk = f + 1 := ⟨gk - 1, by omega⟩
      have hfl : f < gk := by omega
      rw [hgk] at E hf
      obtain ⟨b3, _⟩ := I.out.wk.bad
      have W0 := I.out.wk
      rw [toks_cons hk] at W0
      have HW0 := Lib.hid W0
      have HE := Lib.hid E
      clear hgk W0 E GS
      rcases (show (hd s k).kind = 46 ∨ (hd s k).kind = 36 ∨ ((hd s k).kind ≠ 46 ∧ (hd s k).kind ≠ 36) by omega) with hc | hc | hc
      · have hv : Hid ((⟨#[46, 36]⟩ : ByteArray).data.toList.any (comesAt (hd s k).kind) = true) := by unfold Hid; rw [comes_gift, hc]; rfl
        have hpk : peek s (skip s k) = 46 := (kind_plain (c := 46) plain46).1 hc
        have hst : (hd s k).stop = skip s k + 1 := hd_stop_plain (c := 46) plain46 hpk
        have hT := Lib.hid (take_yes hc (by decide) (by decide) (0, 0))
        have hj : skip s k < s.size := peek_lt (by omega)
        have GN := Lib.hid (gift_step hd2 hf hk (.inl ⟨hpk, rfl⟩) HE.out)
        have HC := Lib.hid hc; have HS := Lib.hid hst
        clear hpk hst hf HE hc
        go_wp2_with fail
        refine (comes_any true N G s ⟨#[46, 36]⟩ (hd s k) (tl s k) d (0, 0) _ HW0.out (by decide) hv.out).mono ?_
        rintro e w1 ⟨rfl, K1⟩
        have I1 := Lib.hid (I.out.quiet hN K1)
        obtain ⟨o, n, c, c0, l0⟩ := I1.out.wk.kind hk
        rw [HC.out] at l0
        have W1 := I1.out.wk
        rw [toks_cons hk] at W1
        have HW1 := Lib.hid W1
        clear K1 W1 I HW0 b3 hv
        go_wp2_with fail
        refine (take_any N G s 46 (hd s k) (tl s k) d (0, 0) _ HW1.out hs).mono ?_
        rintro e w2 ⟨rfl, W2, K2⟩
        rw [hT.out, HS.out] at W2
        have I2 := Lib.hid (I1.out.next hN K2 W2)
        have W3 := W2
        rw [toks_cons (show skip s k + 1 ≤ s.size by omega)] at W3
        have HW3 := Lib.hid W3
        have hnm : (hd s (skip s k + 1)).text.size < 1000000000 := by have := hd_text s (skip s k + 1); omega
        clear K2 W2 W3 c0 l0 I1 HW1 hT HS HC
        obtain ⟨c0, c1, c2, c3, c4, cf⟩ := I2.out.five.cells
        have f0 := cf 0; have f1 := cf 1; have f2 := cf 2; have f3 := cf 3; have f4 := cf 4; clear cf
        have hlt5 : B < w2.heap.size := I2.out.five.lt
        have hB0 := I2.out.hB
        generalize hd s (skip s k + 1) = x at *
        generalize tl s (skip s k + 1) = xs at *
        unfold tokV
        go_wp2_with fail
        go_region_with (first
          | (go_at_call 63; (with_reducible refine (rname_any N G s x xs d (0, 0) _ (HW3.out.kept ((Kept.refl Nix w2).drew) (fun h => h) (fun h => h)) hs).mono ?_); rintro e w3 ⟨rfl, R3, K3⟩; have I3 := Lib.hid (I2.out.next hN ((Kept.refl (· = N) w2).drew.trans K3) R3); clear K3 R3; obtain ⟨c0, c1, c2, c3, c4, cf⟩ := I3.out.five.cells; have f0 := cf 0; have f1 := cf 1; have f2 := cf 2; have f3 := cf 3; have f4 := cf 4; have hlt6 : B < w3.heap.size := I3.out.five.lt; clear cf)
          | (go_at_call 63; (with_reducible refine (rname_any N G s x xs d (0, 0) _ (HW3.out.kept (((Kept.refl Nix w2).alloc _).drew) (fun h => h) (fun h => h)) hs).mono ?_); rintro e w3 ⟨rfl, R3, K3⟩; have I3 := Lib.hid (I2.out.next hN (((Kept.refl (· = N) w2).alloc _).drew.trans K3) R3); have G3 : Hid (Five w2.heap.size (.int .i64 p.kind) (.string p.text) (.int .i64 p.n) (.string p.name) (.slice ka p.kids.length cap) w3) := Five.kept (heap_alloc_new w2 _) ((Kept.refl (· = N) _).drew.trans K3) (by omega); clear K3 R3; obtain ⟨c0, c1, c2, c3, c4, cf⟩ := I3.out.five.cells; have f0 := cf 0; have f1 := cf 1; have f2 := cf 2; have f3 := cf 3; have f4 := cf 4; have hlt6 : B < w3.heap.size := I3.out.five.lt; clear cf))
        all_goals
          go_wp2_with fail
          clear c0 c1 c2 c3 c4 f0 f1 f2 f3 f4
          go_roundg f
          case measure => exact hfl
          case rel => first
            | exact ⟨_, _, _, _, _, _, giftW_after (box := .cells #[.int .i64 p.kind, .string p.text, .int .i64 p.n, .string p.name, .slice ka p.kids.length cap] 24) rfl hN hG hnm I3.out 21, GN⟩
            | exact ⟨_, _, _, _, _, _, giftW_ahead hN hG hnm hlt5 I3.out G3.out 21, GN⟩
      · have hv : Hid ((⟨#[46, 36]⟩ : ByteArray).data.toList.any (comesAt (hd s k).kind) = true) := by unfold Hid; rw [comes_gift, hc]; rfl
        have hpk : peek s (skip s k) = 36 := (kind_plain (c := 36) plain36).1 hc
        have hst : (hd s k).stop = skip s k + 1 := hd_stop_plain (c := 36) plain36 hpk
        have hT := Lib.hid (take_yes hc (by decide) (by decide) (0, 0))
        have hj : skip s k < s.size := peek_lt (by omega)
        have GN := Lib.hid (gift_step hd2 hf hk (.inr ⟨hpk, rfl⟩) HE.out)
        have HC := Lib.hid hc; have HS := Lib.hid hst
        clear hpk hst hf HE hc
        go_wp2_with fail
        refine (comes_any true N G s ⟨#[46, 36]⟩ (hd s k) (tl s k) d (0, 0) _ HW0.out (by decide) hv.out).mono ?_
        rintro e w1 ⟨rfl, K1⟩
        have I1 := Lib.hid (I.out.quiet hN K1)
        obtain ⟨o, n, c, c0, l0⟩ := I1.out.wk.kind hk
        rw [HC.out] at l0
        have W1 := I1.out.wk
        rw [toks_cons hk] at W1
        have HW1 := Lib.hid W1
        clear K1 W1 I HW0 b3 hv
        go_wp2_with fail
        refine (take_any N G s 36 (hd s k) (tl s k) d (0, 0) _ HW1.out hs).mono ?_
        rintro e w2 ⟨rfl, W2, K2⟩
        rw [hT.out, HS.out] at W2
        have I2 := Lib.hid (I1.out.next hN K2 W2)
        have W3 := W2
        rw [toks_cons (show skip s k + 1 ≤ s.size by omega)] at W3
        have HW3 := Lib.hid W3
        have hnm : (hd s (skip s k + 1)).text.size < 1000000000 := by have := hd_text s (skip s k + 1); omega
        clear K2 W2 W3 c0 l0 I1 HW1 hT HS HC
        obtain ⟨c0, c1, c2, c3, c4, cf⟩ := I2.out.five.cells
        have f0 := cf 0; have f1 := cf 1; have f2 := cf 2; have f3 := cf 3; have f4 := cf 4; clear cf
        have hlt5 : B < w2.heap.size := I2.out.five.lt
        have hB0 := I2.out.hB
        generalize hd s (skip s k + 1) = x at *
        generalize tl s (skip s k + 1) = xs at *
        unfold tokV
        go_wp2_with fail
        go_region_with (first
          | (go_at_call 63; (with_reducible refine (rname_any N G s x xs d (0, 0) _ (HW3.out.kept ((Kept.refl Nix w2).drew) (fun h => h) (fun h => h)) hs).mono ?_); rintro e w3 ⟨rfl, R3, K3⟩; have I3 := Lib.hid (I2.out.next hN ((Kept.refl (· = N) w2).drew.trans K3) R3); clear K3 R3; obtain ⟨c0, c1, c2, c3, c4, cf⟩ := I3.out.five.cells; have f0 := cf 0; have f1 := cf 1; have f2 := cf 2; have f3 := cf 3; have f4 := cf 4; have hlt6 : B < w3.heap.size := I3.out.five.lt; clear cf)
          | (go_at_call 63; (with_reducible refine (rname_any N G s x xs d (0, 0) _ (HW3.out.kept (((Kept.refl Nix w2).alloc _).drew) (fun h => h) (fun h => h)) hs).mono ?_); rintro e w3 ⟨rfl, R3, K3⟩; have I3 := Lib.hid (I2.out.next hN (((Kept.refl (· = N) w2).alloc _).drew.trans K3) R3); have G3 : Hid (Five w2.heap.size (.int .i64 p.kind) (.string p.text) (.int .i64 p.n) (.string p.name) (.slice ka p.kids.length cap) w3) := Five.kept (heap_alloc_new w2 _) ((Kept.refl (· = N) _).drew.trans K3) (by omega); clear K3 R3; obtain ⟨c0, c1, c2, c3, c4, cf⟩ := I3.out.five.cells; have f0 := cf 0; have f1 := cf 1; have f2 := cf 2; have f3 := cf 3; have f4 := cf 4; have hlt6 : B < w3.heap.size := I3.out.five.lt; clear cf))
        all_goals
          go_wp2_with fail
          clear c0 c1 c2 c3 c4 f0 f1 f2 f3 f4
          go_roundg f
          case measure => exact hfl
          case rel => first
            | exact ⟨_, _, _, _, _, _, giftW_after (box := .cells #[.int .i64 p.kind, .string p.text, .int .i64 p.n, .string p.name, .slice ka p.kids.length cap] 24) rfl hN hG hnm I3.out 22, GN⟩
            | exact ⟨_, _, _, _, _, _, giftW_ahead hN hG hnm hlt5 I3.out G3.out 22, GN⟩
      · have hv : Hid ((⟨#[46, 36]⟩ : ByteArray).data.toList.any (comesAt (hd s k).kind) = false) := by unfold Hid; rw [comes_gift]; simp [hc]
        have p1 : peek s (skip s k) ≠ 46 := fun h => hc.1 ((kind_plain (c := 46) plain46).2 h)
        have p2 : peek s (skip s k) ≠ 36 := fun h => hc.2 ((kind_plain (c := 36) plain36).2 h)
        have hr := Lib.hid (gift_end (d := d) hk p1 p2 HE.out)
        clear p1 p2 HE hc hfl hf
        go_wp2_with fail
        refine (comes_any false N G s ⟨#[46, 36]⟩ (hd s k) (tl s k) d (0, 0) _ HW0.out (by decide) hv.out).mono ?_
        rintro e w1 ⟨rfl, K1⟩
        have I1 := Lib.hid (I.out.quiet hN K1)
        clear K1 I HW0 b3 hv
        obtain ⟨p0, p1, p2, p3, p4, _⟩ := I1.out.five.cells
        obtain ⟨c0, c1, c2, c3, c4, cf⟩ := Five.cells I1.out.zero
        have f0 := cf 0; have f1 := cf 1; have f2 := cf 2; have f3 := cf 3; have f4 := cf 4; clear cf
        obtain ⟨S, hS1, hS2⟩ := I1.out.mem
        have HS1 := Lib.hid hS1; have HS2 := Lib.hid hS2
        clear hS1 hS2
        go_wp2_with fail
        exact ret_ref 2 (p := p) (S := S) rfl rfl I1.out.zero I1.out.wk I1.out.kept (Nat.le_refl _) hN hG hr.out I1.out.sz (fun b hb => by have := HS2.out b hb; omega) HS1.out
    · have hr : Hid (RefOk s d (itemP inner s i) p l d' b) := by unfold Hid; rw [E]; exact ⟨rfl, hb, h1, h2⟩
      obtain ⟨b3, _⟩ := I.out.wk.bad
      have hbz : (b.1 == 0) = false := by simpa using hb
      obtain ⟨p0, p1, p2, p3, p4, _⟩ := I.out.five.cells
      obtain ⟨c0, c1, c2, c3, c4, cf⟩ := Five.cells I.out.zero
      have f0 := cf 0; have f1 := cf 1; have f2 := cf 2; have f3 := cf 3; have f4 := cf 4; clear cf
      obtain ⟨S, hS1, hS2⟩ := I.out.mem
      have HS1 := Lib.hid hS1; have HS2 := Lib.hid hS2
      clear hS1 hS2 hb E GS
      go_wp2_with fail
      exact ret_ref 2 (p := p) (S := S) rfl rfl I.out.zero I.out.wk I.out.kept (Nat.le_refl _) hN hG hr.out I.out.sz (fun b hb => by have := HS2.out b hb; omega) HS1.out
end Go.Proofs.Ytdnglicgmlldlaa
namespace Go.Proofs.Ytdnglicgmlldlaa
open Go.RowKit

structure ListW (N G : Nat) (s : ByteArray) (lt : List Tok) (d : Nat) (b : Er) (w : World) (l : List PatT) (v : Value) (wx : World) : Prop where
  wk : Wk N G s lt d b wx
  own : ∃ (cs : List Value) (S : Nat → Prop), Win wx (w.heap.size + 1) 24 5 v l.length cs ∧ Row5 wx S cs l ∧ ∀ b, S b → w.heap.size < b ∧ b < wx.heap.size ∧ v.ownBlock ≠ some b
  zero : Zero5 w.heap.size wx
  kept : Kept (· = N) w wx
theorem ListW.next {N G : Nat} {s : ByteArray} {lt lt' : List Tok} {d d' : Nat} {b b' : Er} {w wx w' : World} {l : List PatT} {v : Value} (h : ListW N G s lt d b w l v wx) (hN : N < w.heap.size) (hk : Kept (· = N) wx w') (hr : Wk N G s lt' d' b' w') : ListW N G s lt' d' b' w l v w' := by
  obtain ⟨cs, S, h1, h2, h3⟩ := h.own
  refine ⟨hr, ⟨cs, S, h1.kept hk (fun b hb => ?_), h2.kept hk (fun b hb => ⟨(h3 b hb).2.1, ?_⟩), fun b hb => ⟨(h3 b hb).1, Nat.lt_of_lt_of_le (h3 b hb).2.1 hk.size, (h3 b hb).2.2⟩⟩, Five.kept h.zero hk (by omega), h.kept.trans hk⟩
  · have := (h1.lt b hb).1; omega
  · have := (h3 b hb).1; omega
theorem ListW.quiet {N G : Nat} {s : ByteArray} {lt : List Tok} {d : Nat} {b : Er} {w wx w' : World} {l : List PatT} {v : Value} (h : ListW N G s lt d b w l v wx) (hN : N < w.heap.size) (hk : Kept Nix wx w') : ListW N G s lt d b w l v w' :=
  h.next hN (hk.more fun _ h => h.elim) (h.wk.kept hk (fun h => h) (fun h => h))
theorem listW_start {N G : Nat} {s : ByteArray} {lt : List Tok} {d : Nat} {b : Er} {w w1 w2 : World} {p : PatT} {ka : Option Addr} {cap : Nat} {S : Nat → Prop} (h1 : w.heap.size < w1.heap.size) (h12 : w1.heap.size ≤ w2.heap.size) (R : Wk N G s lt d b w2) (Z : Zero5 w.heap.size w2) (K : Kept (· = N) w w2)
    (hz : p.text.size < 1000000000 ∧ p.name.size < 1000000000 ∧ p.kids.length < 1000000000) (hS : ∀ b, S b → w1.heap.size ≤ b ∧ b < w2.heap.size) (hk : PatsAt w2 S ka p.kids) :
    ListW N G s lt d b w [p] (.slice (some ⟨w2.heap.size, 0, none⟩) 1 1) (w2.alloc (.cells #[.int .i64 p.kind, .string p.text, .int .i64 p.n, .string p.name, .slice ka p.kids.length cap] 24)) := by
  have kA : Kept Nix w2 (w2.alloc (.cells #[.int .i64 p.kind, .string p.text, .int .i64 p.n, .string p.name, .slice ka p.kids.length cap] 24)) := (Kept.refl _ _).alloc _
  refine ⟨R.kept kA (fun h => h) (fun h => h), ⟨fiveL p ka cap, S, ⟨rfl, .inr ⟨w2.heap.size, 0, 1, _, rfl, by omega, heap_alloc_new w2 _, Nat.le_refl _, by decide, by simp, by simp [fiveL]⟩⟩, ?_, fun b hb => ⟨by have := hS b hb; omega, Nat.lt_of_lt_of_le (hS b hb).2 kA.size, ?_⟩⟩, Five.kept Z kA (fun h => h), K.quiet kA⟩
  · rw [Row5]; exact ⟨_, [], (List.append_nil _).symm, ⟨ka, cap, rfl, hz, hk.kept kA (fun b hb => ⟨(hS b hb).2, fun h => h⟩)⟩, rfl⟩
  · have := hS b hb; simp [Value.ownBlock]; omega
/-- One more behind the list: w1: the list as it was; w2: behind the callee; w3: behind append. -/
theorem listW_more {N G : Nat} {s : ByteArray} {lt lt2 : List Tok} {d d2 : Nat} {b b2 : Er} {w w1 w2 w3 : World} {l : List PatT} {q : PatT} {v : Value} {a' : Option Addr} {c' : Nat} {ka : Option Addr} {cap : Nat} {cs : List Value} {S S2 : Nat → Prop} (hN : N < w.heap.size) (hG : G < w.heap.size)
    (I : ListW N G s lt d b w l v w1) (h1 : Win w1 (w.heap.size + 1) 24 5 v l.length cs) (h2 : Row5 w1 S cs l) (h3 : ∀ b, S b → w.heap.size < b ∧ b < w1.heap.size ∧ v.ownBlock ≠ some b)
    (hk : Kept (· = N) w1 w2) (R : Wk N G s lt2 d2 b2 w2) (hz : q.text.size < 1000000000 ∧ q.name.size < 1000000000 ∧ q.kids.length < 1000000000) (hS2 : ∀ b, S2 b → w1.heap.size ≤ b ∧ b < w2.heap.size) (hq : PatsAt w2 S2 ka q.kids)
    (hw : Win w3 (w.heap.size + 1) 24 5 (.slice a' (l.length + 1) c') (l.length + 1) (cs ++ [.int .i64 q.kind, .string q.text, .int .i64 q.n, .string q.name, .slice ka q.kids.length cap])) (hg : (w2.alloc (.cells #[.int .i64 q.kind, .string q.text, .int .i64 q.n, .string q.name, .slice ka q.kids.length cap] 24)).grownBy w3 v.ownBlock)
    (ho : (Value.slice a' (l.length + 1) c').ownBlock = v.ownBlock ∨ (Value.slice a' (l.length + 1) c').ownBlock = some (w2.heap.size + 1)) :
    ListW N G s lt2 d2 b2 w (l ++ [q]) (.slice a' (l ++ [q]).length c') w3 := by
  have kA : Kept Nix w2 (w2.alloc (.cells #[.int .i64 q.kind, .string q.text, .int .i64 q.n, .string q.name, .slice ka q.kids.length cap] 24)) := (Kept.refl _ _).alloc _
  have hlow : ∀ b, v.ownBlock = some b → w.heap.size + 1 ≤ b ∧ b < w1.heap.size := h1.lt
  have hsz12 := hk.size
  have K23 : Kept (fun b => v.ownBlock = some b) w2 w3 := (kA.more fun _ h => h.elim).grown hg fun b hb => .inl hb
  have e1 : (l ++ [q]).length = l.length + 1 := by simp
  rw [e1]
  refine ⟨R.kept K23 (fun h => by have := hlow N h; omega) (fun h => by have := hlow G h; omega), ⟨_, fun b => S b ∨ S2 b, by rw [e1]; exact hw, ?_, fun b hb => ?_⟩, ?_, (I.kept.trans hk).step K23 (fun y hy => .inr (by have := hlow y hy; omega))⟩
  · refine Row5.append ?_ ?_
    · exact ((h2.kept hk (fun b hb => ⟨(h3 b hb).2.1, by have := (h3 b hb).1; omega⟩)).kept K23 (fun b hb => ⟨by have := (h3 b hb).2.1; omega, (h3 b hb).2.2⟩)).more fun b h => .inl h
    · rw [Row5]; refine ⟨_, [], (List.append_nil _).symm, ⟨ka, cap, rfl, hz, ?_⟩, rfl⟩
      exact PatsAt.to hq K23 (fun b hb => ⟨(hS2 b hb).2, fun h => by have := hlow b h; have := (hS2 b hb).1; omega⟩) (fun b h => .inr h)
  · have h23 := K23.size
    rcases hb with hb | hb
    · have := h3 b hb
      refine ⟨this.1, by omega, ?_⟩
      rcases ho with h | h
      · rw [h]; exact this.2.2
      · rw [h]; simp; omega
    · have := hS2 b hb
      refine ⟨by have := I.zero.lt; omega, by omega, ?_⟩
      rcases ho with h | h
      · rw [h]; intro h'; have := hlow b h'; omega
      · rw [h]; simp; omega
  · exact Five.kept (Five.kept I.zero hk (by omega)) K23 (fun h => by have := hlow _ h; omega)
theorem ListW.pats {N G : Nat} {s : ByteArray} {lt : List Tok} {d : Nat} {b : Er} {w wx : World} {l : List PatT} {v : Value} (h : ListW N G s lt d b w l v wx) (h0 : 0 < l.length) :
    ∃ g o c S, v = .slice (some ⟨g, o, none⟩) l.length c ∧ PatsAt wx S (some ⟨g, o, none⟩) l ∧ ∀ b, S b → w.heap.size < b ∧ b < wx.heap.size := by
  obtain ⟨cs, S, h1, h2, h3⟩ := h.own
  rcases h1.cells with ⟨_, hn⟩ | ⟨g, o, c, hv, hg1, hg2, _, _, hc⟩
  · omega
  · refine ⟨g, o, c, fun b => S b ∨ b = g, hv, h2.pats g o (fun j u hu => (hc j u hu).1), fun b hb => ?_⟩
    rcases hb with hb | rfl
    · exact ⟨(h3 b hb).1, (h3 b hb).2.1⟩
    · omega

/-- How far a list of pieces has come; r: the whole. -/
def CState (s : ByteArray) (r : Res PatT) (d : Nat) (go : Nat → List PatT → Nat → Res PatT) (f : Nat) (ps : List PatT) (lt : List Tok) (d' : Nat) (b : Er) : Prop :=
  (b = (0, 0) ∧ d' = d ∧ ∃ k, s.size + 1 - k ≤ f ∧ k ≤ s.size ∧ ps.length ≤ k ∧ lt = toks s k ∧ r = go f ps k) ∨ (b.1 ≠ 0 ∧ d ≤ d' ∧ d' ≤ 201 ∧ r = .error b)
def thenP (r0 : Res PatT) (g : PatT → Nat → Res PatT) : Res PatT := match r0 with | .error e => .error e | .ok (p, k) => g p k
theorem cstate_start {s : ByteArray} {r0 r : Res PatT} {go : Nat → List PatT → Nat → Res PatT} {d d' : Nat} {q : PatT} {lt : List Tok} {b : Er} (hk : ∀ p k, r0 = .ok (p, k) → 1 ≤ k ∧ k ≤ s.size)
    (hr : r = thenP r0 fun p k => go (s.size + 1 - k) [p] k) (h : RefOk s d r0 q lt d' b) : ∃ f, CState s r d go f [q] lt d' b := by
  cases r0 with
  | error er => obtain ⟨rfl, h1, h2, h3⟩ := h; exact ⟨0, .inr ⟨h1, h2, h3, hr⟩⟩
  | ok y =>
    obtain ⟨p, k⟩ := y
    obtain ⟨rfl, rfl, rfl, rfl⟩ := h
    exact ⟨s.size + 1 - k, .inl ⟨rfl, rfl, k, Nat.le_refl _, (hk _ _ rfl).2, (hk _ _ rfl).1, rfl, hr⟩⟩
theorem cstate_step {s : ByteArray} {r0 r : Res PatT} {go : Nat → List PatT → Nat → Res PatT} {d d' f k : Nat} {q : PatT} {ps : List PatT} {lt : List Tok} {b : Er} (hf : s.size + 1 - k ≤ f + 1) (hk : k ≤ s.size) (hl : ps.length ≤ k) (hfw : ∀ p k1, r0 = .ok (p, k1) → k < k1 ∧ k1 ≤ s.size)
    (E : r = thenP r0 fun p k1 => go f (ps ++ [p]) k1) (h : RefOk s d r0 q lt d' b) : CState s r d go f (ps ++ [q]) lt d' b := by
  cases r0 with
  | error er => obtain ⟨rfl, h1, h2, h3⟩ := h; exact .inr ⟨h1, h2, h3, E⟩
  | ok y =>
    obtain ⟨p, k1⟩ := y
    obtain ⟨rfl, rfl, rfl, rfl⟩ := h
    have := hfw _ _ rfl
    exact .inl ⟨rfl, rfl, k1, by omega, this.2, by simp; omega, rfl, E⟩
theorem isP_skip {c : Nat} {s : ByteArray} {i : Nat} (hi : i ≤ s.size) : isP c s (skip s i) = isP c s i := by unfold isP; rw [skip_idem s i hi]
theorem item_skip {inner : Nat → Res PatT} {s : ByteArray} {i : Nat} (hi : i ≤ s.size) : itemP inner s (skip s i) = itemP inner s i := by unfold itemP headP; rw [isP_skip hi]
theorem hd_not39 (s : ByteArray) (i : Nat) : (hd s i).kind ≠ 39 := by
  rw [hd_kind]
  have := peek_hi s (skip s i)
  repeat' split
  all_goals omega
theorem comes_starts (s : ByteArray) (i : Nat) : (⟨#[40, 39, 64, 42, 65]⟩ : ByteArray).data.toList.any (comesAt (hd s i).kind) = starts (peek s (skip s i)) := by
  have h40 := kind_plain (s := s) (i := i) plain40
  have h64 := kind_plain (s := s) (i := i) plain64
  have h42 := kind_plain (s := s) (i := i) plain42
  have ht := kind_text s i
  have hw := kind_word s i
  have hn := hd_not39 s i
  rw [show ((40 : Nat) : Int) = 40 from rfl] at h40
  rw [show ((64 : Nat) : Int) = 64 from rfl] at h64
  rw [show ((42 : Nat) : Int) = 42 from rfl] at h42
  rw [Bool.eq_iff_iff]
  unfold starts
  simp only [comesAt, List.any_cons, List.any_nil, Bool.or_eq_true, Bool.and_eq_true, beq_iff_eq, bne_iff_ne, decide_eq_true_eq, Bool.or_false]
  rw [← h40, ← h64, ← h42, ← hw, ← ht]
  simp
  generalize (hd s i).kind = kd at *
  omega
theorem comes_bar (kd : Int) : (⟨#[124]⟩ : ByteArray).data.toList.any (comesAt kd) = decide (kd = 124) := by
  rw [Bool.eq_iff_iff]; simp [comesAt]
theorem plain124 : Plain 124 := by unfold Plain; decide
theorem cat_end {s : ByteArray} {inner : Nat → Res PatT} {r : Res PatT} {d f k : Nat} {ps : List PatT} (hk : k ≤ s.size) (h : starts (peek s (skip s k)) = false) (E : r = catGo inner s (f + 1) ps k) : RefOk s d r (oneOr 18 ps) (toks s k) d (0, 0) := by
  rw [catGo, if_neg (by simp [h])] at E
  rw [E]; exact ⟨rfl, (toks_skip hk).symm, rfl, rfl⟩
theorem cat_go {s : ByteArray} {inner : Nat → Res PatT} {r : Res PatT} {f k : Nat} {ps : List PatT} (hk : k ≤ s.size) (h : starts (peek s (skip s k)) = true) (E : r = catGo inner s (f + 1) ps k) :
    r = thenP (itemP inner s k) fun p k1 => catGo inner s f (ps ++ [p]) k1 := by
  rw [catGo, if_pos h, item_skip hk] at E
  rw [E]; cases itemP inner s k <;> rfl
theorem alt_end {s : ByteArray} {inner : Nat → Res PatT} {r : Res PatT} {d f k : Nat} {ps : List PatT} (hk : k ≤ s.size) (h : peek s (skip s k) ≠ 124) (E : r = altGo inner s (f + 1) ps k) : RefOk s d r (oneOr 19 ps) (toks s k) d (0, 0) := by
  have e : isP 124 s k = (false, skip s k) := if_neg h
  rw [altGo, e, if_neg (by simp)] at E
  rw [E]; exact ⟨rfl, (toks_skip hk).symm, rfl, rfl⟩
theorem alt_go {s : ByteArray} {inner : Nat → Res PatT} {r : Res PatT} {f k : Nat} {ps : List PatT} (h : peek s (skip s k) = 124) (E : r = altGo inner s (f + 1) ps k) :
    r = thenP (catP inner s (skip s k + 1)) fun p k1 => altGo inner s f (ps ++ [p]) k1 := by
  have e : isP 124 s k = (true, skip s k + 1) := if_pos h
  rw [altGo, e, if_pos rfl] at E
  rw [E]; cases catP inner s (skip s k + 1) <;> rfl
theorem cat_eq (inner : Nat → Res PatT) (s : ByteArray) (i : Nat) : catP inner s i = thenP (itemP inner s i) fun p k => catGo inner s (s.size + 1 - k) [p] k := by
  unfold catP thenP; cases itemP inner s i <;> rfl
theorem alt_eq (inner : Nat → Res PatT) (s : ByteArray) (i : Nat) : altP inner s i = thenP (catP inner s i) fun p k => altGo inner s (s.size + 1 - k) [p] k := by
  unfold altP thenP; cases catP inner s i <;> rfl
theorem one_more (kd : Int) (l : List PatT) (h : l.length ≠ 1) : oneOr kd l = .mk kd E0 0 E0 l := by
  match l, h with
  | [], _ => rfl
  | [_], h => simp at h
  | _ :: _ :: _, _ => rfl
def CatsOk (N G : Nat) (s : ByteArray) (d : Nat) (it : Nat → Res PatT) : Prop :=
  ∀ (i : Nat) (w : World), Wk N G s (toks s i) d (0, 0) w → i ≤ s.size → Calls Try.prog 38 #[.pointer (some ⟨N, 0, none⟩)] w (RefPost N G s d (it i) w)
end Go.Proofs.Ytdnglicgmlldlaa
namespace Go.Proofs.Ytdnglicgmlldlaa
open Go.RowKit

set_option maxRecDepth 100000 in
set_option maxHeartbeats 16000000 in
theorem cats_any (N G : Nat) (s : ByteArray) (d : Nat) (inner : Nat → Res PatT) (hc : GivenOk N G s d (itemP inner s)) (hf : InnerFwd s (itemP inner s)) (hs : s.size ≤ 65536) (hd2 : d ≤ 200)
    (i : Nat) (w : World) (h : Wk N G s (toks s i) d (0, 0) w) (hi : i ≤ s.size) : Calls Try.prog 38 #[.pointer (some ⟨N, 0, none⟩)] w (RefPost N G s d (catP inner s i) w) := by
  have HC := Lib.hid hc; have HF := Lib.hid hf
  have hN := h.ltN; have hG := h.lt; have hne := h.ne
  obtain ⟨i0, hi0, hz0, hz1, hz2⟩ := info_parts Try.infoP
  have H1 := Lib.hid (h.kept ((Kept.refl Nix w).alloc (.cells #[.int .i64 0, .string ⟨#[]⟩, .int .i64 0, .string ⟨#[]⟩, .slice none 0 0] 24)) (fun h => h) (fun h => h))
  have Z0 : Hid (Zero5 w.heap.size (w.alloc (.cells #[.int .i64 0, .string ⟨#[]⟩, .int .i64 0, .string ⟨#[]⟩, .slice none 0 0] 24))) := heap_alloc_new w _
  have K0 : Hid (Kept (· = N) w (w.alloc (.cells #[.int .i64 0, .string ⟨#[]⟩, .int .i64 0, .string ⟨#[]⟩, .slice none 0 0] 24))) := (Kept.refl _ w).alloc _
  clear hc hf h
  go_enter Try.func38, Try.ntmps38
  go_wp2_with fail
  refine (HC.out i _ H1.out hi).mono ?_
  rintro e w2 ⟨q, _, lt, d', b, rfl, ⟨S, hS, ⟨ka, cap, rfl, hz, hk⟩⟩, W2, R2, K2⟩
  have hsz2 := K2.size
  have ZZ := Five.kept Z0.out K2 (by omega)
  have KK := K0.out.trans K2
  obtain ⟨fz, G0⟩ := cstate_start (r := catP inner s i) (go := catGo inner s) (fun p k e => by have := HF.out i p k hi e; omega) (cat_eq inner s i) R2
  have HG0 := Lib.hid G0
  have I0 := Lib.hid (listW_start (cap := cap) (w1 := w.alloc (.cells #[.int .i64 0, .string ⟨#[]⟩, .int .i64 0, .string ⟨#[]⟩, .slice none 0 0] 24)) (by simp) hsz2 W2 ZZ KK hz hS hk)
  clear hS hz hk W2 R2 K2 ZZ KK G0 H1 Z0 K0 hsz2
  go_wp2_with fail
  go_loopg [3] fz (fun f v wr => ∃ (ps : List PatT) (lt : List Tok) (d' : Nat) (b : Er) (a : Option Addr) (c : Nat), 0 < ps.length ∧ ps.length ≤ 100000 ∧ v = .slice a ps.length c ∧ Hid (ListW N G s lt d' b w ps v wr) ∧ Hid (CState s (catP inner s i) d (catGo inner s) f ps lt d' b))
  case atStart => exact ⟨[q], lt, d', b, _, _, by simp, by simp, rfl, I0, HG0⟩
  case round =>
    obtain ⟨ps, lt, d', b, a, c, hl0, hl1, rfl, I, CS⟩ := hrel
    clear I0 HG0
    rcases CS.out with ⟨rfl, hdd, k, hf, hk, hlk, rfl, E⟩ | ⟨hb, h1, h2, E⟩
    · replace hdd := hdd.symm; subst hdd
      obtain ⟨f, hgk⟩ : ∃ f, gk = f + 1 := ⟨gk - 1, by omega⟩
      have hfl : f < gk := by omega
      rw [hgk] at E hf
      obtain ⟨b3, _⟩ := I.out.wk.bad
      have W0 := I.out.wk
      rw [toks_cons hk] at W0
      have HW0 := Lib.hid W0
      have HE := Lib.hid E
      clear hgk W0 E CS
      cases hv : (⟨#[40, 39, 64, 42, 65]⟩ : ByteArray).data.toList.any (comesAt (hd s k).kind) with
      | true =>
        have HV := Lib.hid hv
        have HG := Lib.hid (cat_go hk (by rw [← comes_starts]; exact hv) HE.out)
        clear hv HE
        go_wp2_with fail
        refine (comes_any true N G s ⟨#[40, 39, 64, 42, 65]⟩ (hd s k) (tl s k) d (0, 0) _ HW0.out (by decide) HV.out).mono ?_
        rintro e w1 ⟨rfl, K1⟩
        have I1 := Lib.hid (I.out.quiet hN K1)
        clear K1 I HW0 b3 HV
        go_wp2_with fail
        refine (HC.out k _ I1.out.wk hk).mono ?_
        rintro e w2 ⟨q, _, lt', d', b', rfl, ⟨S2, hS2, ⟨ka, cap, rfl, hz, hq⟩⟩, W2, R2, K2⟩
        have CS2 := Lib.hid (cstate_step hf hk hlk (fun p k1 e => HF.out k p k1 hk e) HG.out R2)
        obtain ⟨cs, S, hw1, hr1, hS1⟩ := I1.out.own
        have hlow := hw1.lt
        have Wb := Lib.hid ((hw1.kept K2 (fun b hb => by have := (hw1.lt b hb).1; omega)).alloc (.cells #[.int .i64 q.kind, .string q.text, .int .i64 q.n, .string q.name, .slice ka q.kids.length cap] 24))
        have hw12 := K2.size
        have hww := I1.out.kept.size
        have hwz := I1.out.zero.lt
        have LM : Hid (∀ (a' : Option Addr) (c' : Nat) (w3 : World), Win w3 (w.heap.size + 1) 24 5 (.slice a' (ps.length + 1) c') (ps.length + 1) (cs ++ [.int .i64 q.kind, .string q.text, .int .i64 q.n, .string q.name, .slice ka q.kids.length cap]) →
            (w2.alloc (.cells #[.int .i64 q.kind, .string q.text, .int .i64 q.n, .string q.name, .slice ka q.kids.length cap] 24)).grownBy w3 (Value.slice a ps.length c).ownBlock → ((Value.slice a' (ps.length + 1) c').ownBlock = (Value.slice a ps.length c).ownBlock ∨ (Value.slice a' (ps.length + 1) c').ownBlock = some (w2.heap.size + 1)) →
            ListW N G s lt' d' b' w (ps ++ [q]) (.slice a' (ps ++ [q]).length c') w3) := fun a' c' w3 x1 x2 x3 => listW_more hN hG I1.out hw1 hr1 hS1 K2 W2 hz hS2 hq x1 x2 x3
        have el : (ps ++ [q]).length = ps.length + 1 := by simp
        have EL := Lib.hid el
        clear hz hS2 hq W2 R2 K2 hw1 hr1 hS1 hlow el
        go_wp2_with (at_builtin; go_loud (refine wpList_append_win _ rfl (.tmp 17) (.tmp 20) 22 22 rfl (w.heap.size + 1) 24 i0 (.agg #[.int .i64 0, .string ⟨#[]⟩, .int .i64 0, .string ⟨#[]⟩, .slice none 0 0]) 5 72 Try.underlying22 hi0 hz0 hz1 hz2 rfl (.slice a ps.length c) ps.length cs rfl Wb.out _ 1 [.int .i64 q.kind, .string q.text, .int .i64 q.n, .string q.name, .slice ka q.kids.length cap] rfl (Src.ofSlice _ Try.underlying22 _ _ _ _ rfl (World.news_of_block (fr := (0, 0)) (cs := #[.int .i64 q.kind, .string q.text, .int .i64 q.n, .string q.name, .slice ka q.kids.length cap]) (heap_new2 (by simp))) (by intro u hu; simp at hu; rcases hu with rfl | rfl | rfl | rfl | rfl <;> rfl)) (by unfold maxLen; omega) (by omega) (by simp; omega) ?_); intro a3 c3 w3 hW3 hg3 ho3)
        have I3 := Lib.hid (LM.out a3 c3 w3 hW3 hg3 (by simpa using ho3))
        clear hW3 hg3 ho3 LM Wb
        go_wp2_with fail
        go_roundg f
        case measure => exact hfl
        case rel => exact ⟨ps ++ [q], lt', d', b', a3, c3, by rw [EL.out]; omega, by rw [EL.out]; omega, by rw [EL.out], by have h := I3.out; rw [EL.out] at h; exact h, CS2⟩
      | false =>
        have HV := Lib.hid hv
        have hr := Lib.hid (cat_end (d := d) hk (by rw [← comes_starts]; exact hv) HE.out)
        clear hv HE hfl hf
        go_wp2_with fail
        refine (comes_any false N G s ⟨#[40, 39, 64, 42, 65]⟩ (hd s k) (tl s k) d (0, 0) _ HW0.out (by decide) HV.out).mono ?_
        rintro e w1 ⟨rfl, K1⟩
        have II := Lib.hid (I.out.quiet hN K1)
        clear K1 I HW0 b3 HV
        obtain ⟨g, o, c', S, hv, hp, hS⟩ := ListW.pats II.out hl0
        simp only [Value.slice.injEq, true_and] at hv
        obtain ⟨rfl, rfl⟩ := hv
        obtain ⟨c0, c1, c2, c3, c4, cf⟩ := Five.cells II.out.zero
        have f0 := cf 0; have f1 := cf 1; have f2 := cf 2; have f3 := cf 3; have f4 := cf 4; clear cf
        have HS := Lib.hid hS; clear hS
        by_cases h1 : ps.length = 1
        · obtain ⟨p1, rfl⟩ : ∃ p1, ps = [p1] := List.length_eq_one_iff.1 h1
          obtain ⟨hb1, hz1, e0, e1, e2, e3, ka1, cap1, e4, hk1⟩ := hp.one.open
          have HZ1 := Lib.hid hz1; have HK1 := Lib.hid hk1
          clear hp hz1 hk1 h1 hl0
          go_wp2_with fail
          exact ret_ref 2 (p := p1) (S := S) rfl rfl II.out.zero II.out.wk II.out.kept (Nat.le_refl _) hN hG hr.out HZ1.out (fun b hb => by have := HS.out b hb; omega) HK1.out
        · have hne : ((ps.length : Int) == 1) = false := by simp; omega
          have hr1 := hr.out
          rw [one_more 18 ps h1] at hr1
          have hr2 := Lib.hid hr1
          clear hr1
          have HP := Lib.hid hp
          have hlz : ps.length < 1000000000 := by omega
          clear hp h1
          go_wp2_with fail
          exact ret_ref 2 (p := .mk 18 E0 0 E0 ps) (S := S) rfl rfl II.out.zero II.out.wk II.out.kept (Nat.le_refl _) hN hG hr2.out ⟨e0_lt, e0_lt, hlz⟩ (fun b hb => by have := HS.out b hb; omega) HP.out
    · have hr : Hid (RefOk s d (catP inner s i) (oneOr 18 ps) lt d' b) := by unfold Hid; rw [E]; exact ⟨rfl, hb, h1, h2⟩
      obtain ⟨b3, _⟩ := I.out.wk.bad
      have hbz : (b.1 == 0) = false := by simpa using hb
      have II := I
      clear I hb E CS
      obtain ⟨g, o, c', S, hv, hp, hS⟩ := ListW.pats II.out hl0
      simp only [Value.slice.injEq, true_and] at hv
      obtain ⟨rfl, rfl⟩ := hv
      obtain ⟨c0, c1, c2, c3, c4, cf⟩ := Five.cells II.out.zero
      have f0 := cf 0; have f1 := cf 1; have f2 := cf 2; have f3 := cf 3; have f4 := cf 4; clear cf
      have HS := Lib.hid hS; clear hS
      by_cases h1 : ps.length = 1
      · obtain ⟨p1, rfl⟩ : ∃ p1, ps = [p1] := List.length_eq_one_iff.1 h1
        obtain ⟨hb1, hz1, e0, e1, e2, e3, ka1, cap1, e4, hk1⟩ := hp.one.open
        have HZ1 := Lib.hid hz1; have HK1 := Lib.hid hk1
        clear hp hz1 hk1 h1 hl0
        go_wp2_with fail
        exact ret_ref 2 (p := p1) (S := S) rfl rfl II.out.zero II.out.wk II.out.kept (Nat.le_refl _) hN hG hr.out HZ1.out (fun b hb => by have := HS.out b hb; omega) HK1.out
      · have hne : ((ps.length : Int) == 1) = false := by simp; omega
        have hr1 := hr.out
        rw [one_more 18 ps h1] at hr1
        have hr2 := Lib.hid hr1
        clear hr1
        have HP := Lib.hid hp
        have hlz : ps.length < 1000000000 := by omega
        clear hp h1
        go_wp2_with fail
        exact ret_ref 2 (p := .mk 18 E0 0 E0 ps) (S := S) rfl rfl II.out.zero II.out.wk II.out.kept (Nat.le_refl _) hN hG hr2.out ⟨e0_lt, e0_lt, hlz⟩ (fun b hb => by have := HS.out b hb; omega) HP.out
end Go.Proofs.Ytdnglicgmlldlaa
namespace Go.Proofs.Ytdnglicgmlldlaa
open Go.RowKit

set_option maxRecDepth 100000 in
set_option maxHeartbeats 16000000 in
theorem alts_any (N G : Nat) (s : ByteArray) (d : Nat) (inner : Nat → Res PatT) (hc : CatsOk N G s d (catP inner s)) (hf : InnerFwd s (catP inner s)) (hs : s.size ≤ 65536) (hd2 : d ≤ 200)
    (i : Nat) (w : World) (h : Wk N G s (toks s i) d (0, 0) w) (hi : i ≤ s.size) : Calls Try.prog 23 #[.pointer (some ⟨N, 0, none⟩)] w (RefPost N G s d (altP inner s i) w) := by
  have HC := Lib.hid hc; have HF := Lib.hid hf
  have hN := h.ltN; have hG := h.lt; have hne := h.ne
  obtain ⟨i0, hi0, hz0, hz1, hz2⟩ := info_parts Try.infoP
  have H1 := Lib.hid (h.kept ((Kept.refl Nix w).alloc (.cells #[.int .i64 0, .string ⟨#[]⟩, .int .i64 0, .string ⟨#[]⟩, .slice none 0 0] 24)) (fun h => h) (fun h => h))
  have Z0 : Hid (Zero5 w.heap.size (w.alloc (.cells #[.int .i64 0, .string ⟨#[]⟩, .int .i64 0, .string ⟨#[]⟩, .slice none 0 0] 24))) := heap_alloc_new w _
  have K0 : Hid (Kept (· = N) w (w.alloc (.cells #[.int .i64 0, .string ⟨#[]⟩, .int .i64 0, .string ⟨#[]⟩, .slice none 0 0] 24))) := (Kept.refl _ w).alloc _
  clear hc hf h
  go_enter Try.func23, Try.ntmps23
  go_wp2_with fail
  refine (HC.out i _ H1.out hi).mono ?_
  rintro e w2 ⟨q, _, lt, d', b, rfl, ⟨S, hS, ⟨ka, cap, rfl, hz, hk⟩⟩, W2, R2, K2⟩
  have hsz2 := K2.size
  have ZZ := Five.kept Z0.out K2 (by omega)
  have KK := K0.out.trans K2
  obtain ⟨fz, G0⟩ := cstate_start (r := altP inner s i) (go := altGo inner s) (fun p k e => by have := HF.out i p k hi e; omega) (alt_eq inner s i) R2
  have HG0 := Lib.hid G0
  have I0 := Lib.hid (listW_start (cap := cap) (w1 := w.alloc (.cells #[.int .i64 0, .string ⟨#[]⟩, .int .i64 0, .string ⟨#[]⟩, .slice none 0 0] 24)) (by simp) hsz2 W2 ZZ KK hz hS hk)
  clear hS hz hk W2 R2 K2 ZZ KK G0 H1 Z0 K0 hsz2
  go_wp2_with fail
  go_loopg [3] fz (fun f v wr => ∃ (ps : List PatT) (lt : List Tok) (d' : Nat) (b : Er) (a : Option Addr) (c : Nat), 0 < ps.length ∧ ps.length ≤ 100000 ∧ v = .slice a ps.length c ∧ Hid (ListW N G s lt d' b w ps v wr) ∧ Hid (CState s (altP inner s i) d (altGo inner s) f ps lt d' b))
  case atStart => exact ⟨[q], lt, d', b, _, _, by simp, by simp, rfl, I0, HG0⟩
  case round =>
    obtain ⟨ps, lt, d', b, a, c, hl0, hl1, rfl, I, CS⟩ := hrel
    clear I0 HG0
    rcases CS.out with ⟨rfl, hdd, k, hf, hk, hlk, rfl, E⟩ | ⟨hb, h1, h2, E⟩
    · replace hdd := hdd.symm; subst hdd
      obtain ⟨f, hgk⟩ : ∃ f, gk = f + 1 := ⟨gk - 1, by omega⟩
      have hfl : f < gk := by omega
      rw [hgk] at E hf
      obtain ⟨b3, _⟩ := I.out.wk.bad
      have W0 := I.out.wk
      rw [toks_cons hk] at W0
      have HW0 := Lib.hid W0
      have HE := Lib.hid E
      clear hgk W0 E CS
      by_cases hc : (hd s k).kind = 124
      · have HV : Hid ((⟨#[124]⟩ : ByteArray).data.toList.any (comesAt (hd s k).kind) = true) := by unfold Hid; rw [comes_bar, hc]; rfl
        have hpk : peek s (skip s k) = 124 := (kind_plain (c := 124) plain124).1 hc
        have hst : (hd s k).stop = skip s k + 1 := hd_stop_plain (c := 124) plain124 hpk
        have hT := Lib.hid (take_yes hc (by decide) (by decide) (0, 0))
        have hj : skip s k + 1 ≤ s.size := peek_lt (by omega)
        have hsk : k < skip s k + 1 := by have := skip_ge s k; omega
        have HG := Lib.hid (alt_go hpk HE.out)
        have HS := Lib.hid hst
        clear hpk hst HE hc
        go_wp2_with fail
        refine (comes_any true N G s ⟨#[124]⟩ (hd s k) (tl s k) d (0, 0) _ HW0.out (by decide) HV.out).mono ?_
        rintro e w1 ⟨rfl, K1⟩
        have I1 := Lib.hid (I.out.quiet hN K1)
        have W1 := I1.out.wk
        rw [toks_cons hk] at W1
        have HW1 := Lib.hid W1
        clear K1 W1 I HW0 b3 HV
        go_wp2_with fail
        refine (take_any N G s 124 (hd s k) (tl s k) d (0, 0) _ HW1.out hs).mono ?_
        rintro e w1b ⟨rfl, W2, K2⟩
        rw [hT.out, HS.out] at W2
        have I2 := Lib.hid (I1.out.next hN K2 W2)
        clear K2 W2 I1 HW1 hT HS
        unfold tokV
        generalize skip s k + 1 = k1 at *
        go_wp2_with fail
        refine (HC.out k1 _ I2.out.wk (by omega)).mono ?_
        rintro e w2 ⟨q, _, lt', d', b', rfl, ⟨S2, hS2, ⟨ka, cap, rfl, hz, hq⟩⟩, W2, R2, K2⟩
        have CS2 := Lib.hid (cstate_step hf hk hlk (fun p k2 e => by have := HF.out k1 p k2 (by omega) e; omega) HG.out R2)
        obtain ⟨cs, S, hw1, hr1, hS1⟩ := I2.out.own
        have hlow := hw1.lt
        have Wb := Lib.hid ((hw1.kept K2 (fun b hb => by have := (hw1.lt b hb).1; omega)).alloc (.cells #[.int .i64 q.kind, .string q.text, .int .i64 q.n, .string q.name, .slice ka q.kids.length cap] 24))
        have hw12 := K2.size
        have hww := I2.out.kept.size
        have hwz := I2.out.zero.lt
        have LM : Hid (∀ (a' : Option Addr) (c' : Nat) (w3 : World), Win w3 (w.heap.size + 1) 24 5 (.slice a' (ps.length + 1) c') (ps.length + 1) (cs ++ [.int .i64 q.kind, .string q.text, .int .i64 q.n, .string q.name, .slice ka q.kids.length cap]) →
            (w2.alloc (.cells #[.int .i64 q.kind, .string q.text, .int .i64 q.n, .string q.name, .slice ka q.kids.length cap] 24)).grownBy w3 (Value.slice a ps.length c).ownBlock → ((Value.slice a' (ps.length + 1) c').ownBlock = (Value.slice a ps.length c).ownBlock ∨ (Value.slice a' (ps.length + 1) c').ownBlock = some (w2.heap.size + 1)) →
            ListW N G s lt' d' b' w (ps ++ [q]) (.slice a' (ps ++ [q]).length c') w3) := fun a' c' w3 x1 x2 x3 => listW_more hN hG I2.out hw1 hr1 hS1 K2 W2 hz hS2 hq x1 x2 x3
        have el : (ps ++ [q]).length = ps.length + 1 := by simp
        have EL := Lib.hid el
        clear hz hS2 hq W2 R2 K2 hw1 hr1 hS1 hlow el
        go_wp2_with (at_builtin; go_loud (refine wpList_append_win _ rfl (.tmp 19) (.tmp 22) 22 22 rfl (w.heap.size + 1) 24 i0 (.agg #[.int .i64 0, .string ⟨#[]⟩, .int .i64 0, .string ⟨#[]⟩, .slice none 0 0]) 5 72 Try.underlying22 hi0 hz0 hz1 hz2 rfl (.slice a ps.length c) ps.length cs rfl Wb.out _ 1 [.int .i64 q.kind, .string q.text, .int .i64 q.n, .string q.name, .slice ka q.kids.length cap] rfl (Src.ofSlice _ Try.underlying22 _ _ _ _ rfl (World.news_of_block (fr := (0, 0)) (cs := #[.int .i64 q.kind, .string q.text, .int .i64 q.n, .string q.name, .slice ka q.kids.length cap]) (heap_new2 (by simp))) (by intro u hu; simp at hu; rcases hu with rfl | rfl | rfl | rfl | rfl <;> rfl)) (by unfold maxLen; omega) (by omega) (by simp; omega) ?_); intro a3 c3 w3 hW3 hg3 ho3)
        have I3 := Lib.hid (LM.out a3 c3 w3 hW3 hg3 (by simpa using ho3))
        clear hW3 hg3 ho3 LM Wb
        go_wp2_with fail
        go_roundg f
        case measure => exact hfl
        case rel => exact ⟨ps ++ [q], lt', d', b', a3, c3, by rw [EL.out]; omega, by rw [EL.out]; omega, by rw [EL.out], by have h := I3.out; rw [EL.out] at h; exact h, CS2⟩
      · have HV : Hid ((⟨#[124]⟩ : ByteArray).data.toList.any (comesAt (hd s k).kind) = false) := by unfold Hid; rw [comes_bar]; simp [hc]
        have hr := Lib.hid (alt_end (d := d) hk (fun h => hc ((kind_plain (c := 124) plain124).2 h)) HE.out)
        clear HE hfl hf hc
        go_wp2_with fail
        refine (comes_any false N G s ⟨#[124]⟩ (hd s k) (tl s k) d (0, 0) _ HW0.out (by decide) HV.out).mono ?_
        rintro e w1 ⟨rfl, K1⟩
        have II := Lib.hid (I.out.quiet hN K1)
        clear K1 I HW0 b3 HV
        obtain ⟨g, o, c', S, hv, hp, hS⟩ := ListW.pats II.out hl0
        simp only [Value.slice.injEq, true_and] at hv
        obtain ⟨rfl, rfl⟩ := hv
        obtain ⟨c0, c1, c2, c3, c4, cf⟩ := Five.cells II.out.zero
        have f0 := cf 0; have f1 := cf 1; have f2 := cf 2; have f3 := cf 3; have f4 := cf 4; clear cf
        have HS := Lib.hid hS; clear hS
        by_cases h1 : ps.length = 1
        · obtain ⟨p1, rfl⟩ : ∃ p1, ps = [p1] := List.length_eq_one_iff.1 h1
          obtain ⟨hb1, hz1, e0, e1, e2, e3, ka1, cap1, e4, hk1⟩ := hp.one.open
          have HZ1 := Lib.hid hz1; have HK1 := Lib.hid hk1
          clear hp hz1 hk1 h1 hl0
          go_wp2_with fail
          exact ret_ref 2 (p := p1) (S := S) rfl rfl II.out.zero II.out.wk II.out.kept (Nat.le_refl _) hN hG hr.out HZ1.out (fun b hb => by have := HS.out b hb; omega) HK1.out
        · have hne : ((ps.length : Int) == 1) = false := by simp; omega
          have hr1 := hr.out
          rw [one_more 19 ps h1] at hr1
          have hr2 := Lib.hid hr1
          clear hr1
          have HP := Lib.hid hp
          have hlz : ps.length < 1000000000 := by omega
          clear hp h1
          go_wp2_with fail
          exact ret_ref 2 (p := .mk 19 E0 0 E0 ps) (S := S) rfl rfl II.out.zero II.out.wk II.out.kept (Nat.le_refl _) hN hG hr2.out ⟨e0_lt, e0_lt, hlz⟩ (fun b hb => by have := HS.out b hb; omega) HP.out
    · have hr : Hid (RefOk s d (altP inner s i) (oneOr 19 ps) lt d' b) := by unfold Hid; rw [E]; exact ⟨rfl, hb, h1, h2⟩
      obtain ⟨b3, _⟩ := I.out.wk.bad
      have hbz : (b.1 == 0) = false := by simpa using hb
      have II := I
      clear I hb E CS
      obtain ⟨g, o, c', S, hv, hp, hS⟩ := ListW.pats II.out hl0
      simp only [Value.slice.injEq, true_and] at hv
      obtain ⟨rfl, rfl⟩ := hv
      obtain ⟨c0, c1, c2, c3, c4, cf⟩ := Five.cells II.out.zero
      have f0 := cf 0; have f1 := cf 1; have f2 := cf 2; have f3 := cf 3; have f4 := cf 4; clear cf
      have HS := Lib.hid hS; clear hS
      by_cases h1 : ps.length = 1
      · obtain ⟨p1, rfl⟩ : ∃ p1, ps = [p1] := List.length_eq_one_iff.1 h1
        obtain ⟨hb1, hz1, e0, e1, e2, e3, ka1, cap1, e4, hk1⟩ := hp.one.open
        have HZ1 := Lib.hid hz1; have HK1 := Lib.hid hk1
        clear hp hz1 hk1 h1 hl0
        go_wp2_with fail
        exact ret_ref 2 (p := p1) (S := S) rfl rfl II.out.zero II.out.wk II.out.kept (Nat.le_refl _) hN hG hr.out HZ1.out (fun b hb => by have := HS.out b hb; omega) HK1.out
      · have hne : ((ps.length : Int) == 1) = false := by simp; omega
        have hr1 := hr.out
        rw [one_more 19 ps h1] at hr1
        have hr2 := Lib.hid hr1
        clear hr1
        have HP := Lib.hid hp
        have hlz : ps.length < 1000000000 := by omega
        clear hp h1
        go_wp2_with fail
        exact ret_ref 2 (p := .mk 19 E0 0 E0 ps) (S := S) rfl rfl II.out.zero II.out.wk II.out.kept (Nat.le_refl _) hN hG hr2.out ⟨e0_lt, e0_lt, hlz⟩ (fun b hb => by have := HS.out b hb; omega) HP.out
end Go.Proofs.Ytdnglicgmlldlaa
