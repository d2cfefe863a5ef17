/- The document's reader: deeper. The document's reader: piece ahead of a bracket, a text, a name. The document's reader: piece ahead of a name. The document's words. The document's reader: piece ahead of a word. The document's reader: piece ahead of a word with an argument. -/
import Derived.Test.YtdnglicgmlldlaaRm9
namespace Go.Proofs.Ytdnglicgmlldlaa
open Go.RowKit

def ZP : Obj := .cells #[.int .i64 0, .string ⟨#[]⟩, .int .i64 0, .string ⟨#[]⟩, .slice none 0 0] 24
set_option maxRecDepth 100000 in
set_option maxHeartbeats 1000000 in
theorem deeper_deep (N G : Nat) (s : ByteArray) (hs : s.size ≤ 65536) : DeepR N G s 200 (innerP s 0) := by
  intro i x w hx h hi
  subst hx
  have hN := h.ltN; have hG := h.lt; have hne := h.ne
  obtain ⟨t2, tf2⟩ := h.two
  obtain ⟨w2, hw2⟩ : ∃ w2, w2 = (((w.setCell ⟨N, 2, none⟩ (.int .i64 201)).alloc (.cells #[.int .i64 x.kind, .string x.text, .int .i64 x.at_, .int .i64 x.stop] 58)).alloc (.cells #[.int .i64 0, .string ⟨#[]⟩, .int .i64 0, .string ⟨#[]⟩, .slice none 0 0] 24)) := ⟨_, rfl⟩
  have W2 : Hid (Wk N G s (toks s x.stop) 201 (0, 0) w2) := by rw [hw2]; exact (h.setDepth 201).kept (((Kept.refl Nix _).alloc _).alloc _) (fun h => h) (fun h => h)
  have K2 : Hid (Kept (· = N) w w2) := by rw [hw2]; exact (((Kept.refl _ w).setN 2 _).alloc _).alloc _
  have X2 : Hid (Four w.heap.size (.int .i64 x.kind) (.string x.text) (.int .i64 x.at_) (.int .i64 x.stop) w2) := by rw [hw2]; exact Four.kept (show Four w.heap.size _ _ _ _ _ from heap_new2 (by simp [World.setCell])) ((Kept.refl Nix _).alloc _) (fun h => h)
  have F2 : Hid (Five (w.heap.size + 1) (.int .i64 0) (.string ⟨#[]⟩) (.int .i64 0) (.string ⟨#[]⟩) (.slice none 0 0) w2) := by rw [hw2]; exact heap_new2 (by simp [World.setCell])
  have hsz : w2.heap.size = w.heap.size + 2 := by rw [hw2]; simp [World.setCell]
  have HW := Lib.hid hw2
  have hr : Hid (RefOk s 200 (deepP (innerP s 0) s x.stop) (pk 0 E0 0 E0 []) (toks s x.stop) 201 (4, x.stop)) := ⟨rfl, by show (4 : Int) ≠ 0; decide, by omega, by omega⟩
  clear hw2 h
  unfold tokV
  go_enter Try.func74, Try.ntmps74
  go_wp2_with fail
  rw [← HW.out]
  refine (stop_any N G s _ 201 _ (4, x.stop) _ W2.out).mono ?_
  rintro e w3 ⟨rfl, W3, K3⟩
  rw [stopB_ok] at W3
  have hs3 := K3.size
  obtain ⟨b3, _⟩ := W3.bad
  have F3 := Lib.hid (F2.out.kept K3 (by omega))
  have KK := Lib.hid (K2.out.trans K3)
  have WW := Lib.hid W3
  obtain ⟨z0, z1, z2, z3, z4, zf⟩ := F3.out.cells
  have f0 := zf 0; have f1 := zf 1; have f2 := zf 2; have f3 := zf 3; have f4 := zf 4; clear zf
  have hM : w.heap.size + 1 < w3.heap.size := F3.out.lt
  clear t2 tf2 W3 K3
  go_wp2_with fail
  exact ret_ref 4 (p := pk 0 E0 0 E0 []) (ka := none) (cap := 0) (S := fun _ => False) rfl rfl F3.out WW.out KK.out (by omega) hN hG hr.out ⟨e0_lt, e0_lt, len0_lt⟩ (fun b hb => hb.elim) (by unfold PatsAt; trivial)

set_option maxRecDepth 100000 in
set_option maxHeartbeats 1000000 in
theorem deeper_more (N G : Nat) (s : ByteArray) (hs : s.size ≤ 65536) (d m : Nat) (hm : 200 = d + (m + 1)) (ha : AltR N G s (d + 1) (altP (innerP s m) s)) : DeepR N G s d (innerP s (m + 1)) := by
  intro i x w hx h hi
  subst hx
  have HA := Lib.hid ha
  have hN := h.ltN; have hG := h.lt; have hne := h.ne
  obtain ⟨t2, tf2⟩ := h.two
  obtain ⟨w2, hw2⟩ : ∃ w2, w2 = (((w.setCell ⟨N, 2, none⟩ (.int .i64 ((d : Int) + 1))).alloc (.cells #[.int .i64 x.kind, .string x.text, .int .i64 x.at_, .int .i64 x.stop] 58)).alloc (.cells #[.int .i64 0, .string ⟨#[]⟩, .int .i64 0, .string ⟨#[]⟩, .slice none 0 0] 24)) := ⟨_, rfl⟩
  have W2 : Hid (Wk N G s (toks s x.stop) (d + 1) (0, 0) w2) := by rw [hw2]; exact (h.setDepth (d + 1)).kept (((Kept.refl Nix _).alloc _).alloc _) (fun h => h) (fun h => h)
  have K2 : Hid (Kept (· = N) w w2) := by rw [hw2]; exact (((Kept.refl _ w).setN 2 _).alloc _).alloc _
  have F2 : Hid (Five (w.heap.size + 1) (.int .i64 0) (.string ⟨#[]⟩) (.int .i64 0) (.string ⟨#[]⟩) (.slice none 0 0) w2) := by rw [hw2]; exact heap_new2 (by simp [World.setCell])
  have hsz : w2.heap.size = w.heap.size + 2 := by rw [hw2]; simp [World.setCell]
  obtain ⟨b2, _⟩ := h.bad
  have HW := Lib.hid hw2
  have hd1 : d ≤ 199 := by omega
  have hin : Hid (∀ p k, altP (innerP s m) s x.stop = .ok (p, k) → k ≤ s.size) := fun p k e => (alt_fwd (inner_fwd s m) x.stop p k hi e).2
  clear hw2 h ha
  unfold tokV
  go_enter Try.func74, Try.ntmps74
  go_wp2_with fail
  rw [← HW.out]
  refine (HA.out x.stop _ W2.out hi).mono ?_
  rintro e w3 ⟨q, _, l, d', b, rfl, ⟨S, hS, ⟨ka, cap, rfl, hz, hk⟩⟩, W3, R3, K3⟩
  have hd : d + 1 ≤ d' ∧ d' ≤ 201 := by
    unfold RefOk at R3
    split at R3
    · omega
    · omega
  have hs3 := K3.size
  obtain ⟨y, r, e, _⟩ : ∃ y r, l = y :: r ∧ True := by cases l with
    | nil => exact absurd rfl W3.nonnil
    | cons y r => exact ⟨y, r, rfl, trivial⟩
  subst e
  obtain ⟨t3, tf3⟩ := W3.two
  have hlt3 := W3.ltN
  obtain ⟨w4, hw4⟩ : ∃ w4, w4 = (w3.setCell ⟨N, 2, none⟩ (.int .i64 ((d' - 1 : Nat) : Int))).alloc (.cells #[.int .i64 q.kind, .string q.text, .int .i64 q.n, .string q.name, .slice ka q.kids.length cap] 24) := ⟨_, rfl⟩
  have k34 : Kept (· = N) w3 w4 := by rw [hw4]; exact ((Kept.refl _ w3).setN 2 _).alloc _
  have W4 : Hid (Wk N G s (y :: r) (d' - 1) b w4) := by rw [hw4]; exact (W3.setDepth (d' - 1)).kept ((Kept.refl Nix _).alloc _) (fun h => h) (fun h => h)
  have P4 : Hid (Five w3.heap.size (.int .i64 q.kind) (.string q.text) (.int .i64 q.n) (.string q.name) (.slice ka q.kids.length cap) w4) := by rw [hw4]; exact heap_new2 (by simp [World.setCell])
  have h34 : w4.heap.size = w3.heap.size + 1 := by rw [hw4]; simp [World.setCell]
  have F4 := Lib.hid ((F2.out.kept K3 (by omega)).kept k34 (by omega))
  have K4 := Lib.hid ((K2.out.trans K3).trans k34)
  have Q4 := Lib.hid (hk.kept k34 (fun b hb => ⟨(hS b hb).2, by have := (hS b hb).1; omega⟩))
  have HS := Lib.hid hS; have HZ := Lib.hid hz
  have HW4 := Lib.hid hw4
  have hr := Lib.hid (RefOk.close (s := s) (d := d) (inner := innerP s (m + 1)) (i := x.stop) (by omega) hin.out R3)
  have ed : (d' : Int) - 1 = ((d' - 1 : Nat) : Int) := by omega
  clear t2 tf2 W3 K3 hw4 k34 hk hz hS R3 b2
  go_wp2_with fail
  rw [← HW4.out]
  refine (take_any N G s 41 y r _ _ _ W4.out hs).mono ?_
  rintro e w5 ⟨rfl, W5, K5⟩
  have h5 := K5.size
  have hM : w.heap.size + 1 < w5.heap.size := by omega
  have F5 := Lib.hid (F4.out.kept K5 (by omega))
  have P5 := Lib.hid (P4.out.kept K5 (by omega))
  have Q5 := Lib.hid (Q4.out.kept K5 (fun b hb => ⟨by have := (HS.out b hb).2; omega, by have := (HS.out b hb).1; omega⟩))
  have KK := Lib.hid (K4.out.trans K5)
  have WW := Lib.hid W5
  obtain ⟨z0, z1, z2, z3, z4, zf⟩ := F5.out.cells
  have f0 := zf 0; have f1 := zf 1; have f2 := zf 2; have f3 := zf 3; have f4 := zf 4; clear zf
  obtain ⟨p0, p1, p2, p3, p4, _⟩ := P5.out.cells
  clear W5 K5 t3 tf3
  unfold tokV
  go_wp2_with fail
  exact ret_ref 4 rfl rfl F5.out WW.out KK.out (by omega) hN hG hr.out.1 HZ.out (fun b hb => by have := HS.out b hb; omega) Q5.out
end Go.Proofs.Ytdnglicgmlldlaa
namespace Go.Proofs.Ytdnglicgmlldlaa
open Go.RowKit

theorem plain40 : Plain 40 := by unfold Plain; decide
theorem plain64 : Plain 64 := by unfold Plain; decide
theorem plain42 : Plain 42 := by unfold Plain; decide
theorem need_skip {c : Nat} {s : ByteArray} {i : Nat} (hi : i ≤ s.size) : needP c s (skip s i) = needP c s i := by unfold needP; rw [skip_idem s i hi]
theorem text_skip {s : ByteArray} {i : Nat} (hi : i ≤ s.size) : textP s (skip s i) = textP s i := by unfold textP; rw [need_skip hi]
theorem word_skip {s : ByteArray} {i : Nat} (hi : i ≤ s.size) : wordP s (skip s i) = wordP s i := by unfold wordP; rw [skip_idem s i hi]
theorem prim_skip {inner : Nat → Res PatT} {s : ByteArray} {i : Nat} (hi : i ≤ s.size) : primaryP inner s (skip s i) = primaryP inner s i := by unfold primaryP; rw [skip_idem s i hi]
theorem head_yes {inner : Nat → Res PatT} {s : ByteArray} {i : Nat} (h : peek s (skip s i) = 40) : headP inner s i = deepP inner s (skip s i + 1) := by
  have e : isP 40 s i = (true, skip s i + 1) := if_pos h
  unfold headP deepP; rw [e]; rfl
theorem head_no {inner : Nat → Res PatT} {s : ByteArray} {i : Nat} (hi : i ≤ s.size) (h : peek s (skip s i) ≠ 40) : headP inner s i = primaryP inner s i := by
  have e : isP 40 s i = (false, skip s i) := if_neg h
  unfold headP; rw [e]; exact prim_skip hi
theorem text_err {s : ByteArray} {i : Nat} {e : Er} (h : textP s i = .error e) : e.1 ≠ 0 := by
  unfold textP at h
  cases hn : needP 39 s i with
  | error e' => rw [hn] at h; cases h; exact need_err hn
  | ok k =>
    rw [hn] at h; dsimp only at h
    cases ht : txtL (s.data.toList.drop k) with
    | none => rw [ht] at h; cases h; show (2 : Int) ≠ 0; decide
    | some x => rw [ht] at h; cases h
theorem word_err {s : ByteArray} {i : Nat} {e : Er} (h : wordP s i = .error e) : e.1 ≠ 0 := by
  unfold wordP at h; split at h
  · cases h
  · cases h; show (2 : Int) ≠ 0; decide
theorem name_err {s : ByteArray} {i : Nat} {e : Er} (h : nameP s i = .error e) : e.1 ≠ 0 := by
  unfold nameP at h
  cases hw : wordP s i with
  | error e' => rw [hw] at h; cases h; exact word_err hw
  | ok y =>
    obtain ⟨⟨x, a⟩, k⟩ := y
    rw [hw] at h; dsimp only at h; split at h
    · cases h; show (7 : Int) ≠ 0; decide
    · cases h
/-- What is known at the head of what is left. -/
theorem Wk.kind {N G : Nat} {s : ByteArray} {i d : Nat} {b : Er} {w : World} (h : Wk N G s (toks s i) d b w) (hi : i ≤ s.size) : ∃ o n c, w.cell? ⟨N, 0, none⟩ = some (.slice (some ⟨G, o, none⟩) (n + 1) c) ∧ w.cell? ⟨G, o, none⟩ = some (.int .i64 (hd s i).kind) := by
  obtain ⟨o, c, x', r', e, hF, hL⟩ := h.open
  rw [toks_cons hi] at e hF hL
  obtain ⟨c0, _⟩ := hF.cells
  obtain ⟨l0, _⟩ := hL.head
  exact ⟨o, (tl s i).length, c, c0, l0⟩
def PieceOk (N G : Nat) (s : ByteArray) (d : Nat) (pc : Nat → Res PatT) : Prop :=
  ∀ (i : Nat) (w : World), Wk N G s (toks s i) d (0, 0) w → i ≤ s.size → Calls Try.prog 62 #[.pointer (some ⟨N, 0, none⟩)] w (RefPost N G s d (pc i) w)

set_option maxRecDepth 100000 in
set_option maxHeartbeats 1000000 in
theorem piece_deep (N G : Nat) (s : ByteArray) (i d : Nat) (w : World) (inner : Nat → Res PatT) (ha : DeepR N G s d inner) (h : Wk N G s (toks s i) d (0, 0) w) (hi : i ≤ s.size) (hs : s.size ≤ 65536) (hc : peek s (skip s i) = 40) :
    Calls Try.prog 62 #[.pointer (some ⟨N, 0, none⟩)] w (RefPost N G s d (headP inner s i) w) := by
  have e0 := Lib.hid (head_yes (inner := inner) hc)
  have HA := Lib.hid ha
  have hN := h.ltN; have hG := h.lt; have hne := h.ne
  have hj : skip s i < s.size := peek_lt (by omega)
  have hk : (hd s i).kind = 40 := (kind_plain (c := 40) plain40).2 hc
  have hst : (hd s i).stop = skip s i + 1 := hd_stop_plain (c := 40) plain40 hc
  have hT := Lib.hid (take_yes hk (by decide) (by decide) (0, 0))
  obtain ⟨o, n, c, c0, l0⟩ := h.kind hi
  rw [hk] at l0
  have H1 := h.kept ((Kept.refl Nix w).alloc (.cells #[.int .i64 0, .string ⟨#[]⟩, .int .i64 0, .string ⟨#[]⟩, .slice none 0 0] 24)) (fun h => h) (fun h => h)
  rw [toks_cons hi] at H1
  have HH := Lib.hid H1
  have HS := Lib.hid hst
  clear h ha hk hst hc H1
  go_enter Try.func62, Try.ntmps62
  go_wp2_with fail
  refine (take_any N G s 40 (hd s i) (tl s i) d _ _ HH.out hs).mono ?_
  rintro e w1 ⟨rfl, W1, K1⟩
  rw [hT.out, HS.out] at W1
  have F1 : Hid (Five w.heap.size (.int .i64 0) (.string ⟨#[]⟩) (.int .i64 0) (.string ⟨#[]⟩) (.slice none 0 0) w1) := Five.kept (heap_alloc_new w _) K1 (by omega)
  have K1' : Hid (Kept (· = N) w w1) := ((Kept.refl _ w).alloc _).trans K1
  have hz1 := K1.size
  simp at hz1
  have WW := Lib.hid W1
  clear W1 K1 c0 l0
  go_wp2_with fail
  refine (HA.out (skip s i + 1) (hd s i) _ HS.out WW.out (by omega)).mono ?_
  rintro e w2 ⟨q, _, l, d', b, rfl, ⟨S, hS, ⟨ka, cap, rfl, hz, hk⟩⟩, W2, R2, K2⟩
  have hM := Nat.lt_of_lt_of_le F1.out.lt K2.size
  have F2 := Lib.hid (F1.out.kept K2 (by omega))
  have KK := Lib.hid (K1'.out.trans K2)
  have WW2 := Lib.hid W2
  have HS2 := Lib.hid hS; have HZ := Lib.hid hz; have HK := Lib.hid hk
  have hr : Hid (RefOk s d (headP inner s i) q l d' b) := by unfold Hid; rw [e0.out]; exact R2
  obtain ⟨z0, z1, z2, z3, z4, zf⟩ := F2.out.cells
  have f0 := zf 0; have f1 := zf 1; have f2 := zf 2; have f3 := zf 3; have f4 := zf 4; clear zf
  clear W2 K2 hS hz hk R2
  go_wp2_with fail
  exact ret_ref 2 (p := q) (S := S) rfl rfl F2.out WW2.out KK.out (Nat.le_refl _) hN hG hr.out HZ.out (fun b hb => by have := HS2.out b hb; omega) HK.out

set_option maxRecDepth 100000 in
set_option maxHeartbeats 1000000 in
theorem piece_lit (N G : Nat) (s : ByteArray) (i d : Nat) (w : World) (inner : Nat → Res PatT) (h : Wk N G s (toks s i) d (0, 0) w) (hi : i ≤ s.size) (hs : s.size ≤ 65536) (hd2 : d ≤ 200) (hc : peek s (skip s i) = 39) :
    Calls Try.prog 62 #[.pointer (some ⟨N, 0, none⟩)] w (RefPost N G s d (headP inner s i) w) := by
  have e0 : Hid (headP inner s i = litP s (skip s i)) := by unfold Hid; rw [head_no hi (by omega)]; unfold primaryP; rw [if_pos hc]
  have hN := h.ltN; have hG := h.lt; have hne := h.ne
  have hk := (kind_text s i).2 hc
  have hT := take_text hi
  obtain ⟨o, n, c, c0, l0⟩ := h.kind hi
  have H1 := h.kept ((Kept.refl Nix w).alloc (.cells #[.int .i64 0, .string ⟨#[]⟩, .int .i64 0, .string ⟨#[]⟩, .slice none 0 0] 24)) (fun h => h) (fun h => h)
  rw [toks_cons hi] at H1
  have HH := Lib.hid H1
  have hx := hd_text s i
  have hr : Hid (RefOk s d (headP inner s i) (pk 1 (hd s i).text 0 E0 []) (takeR s 302 (hd s i) (tl s i) (0, 0)).1 d (takeR s 302 (hd s i) (tl s i) (0, 0)).2) := by
    unfold Hid; rw [e0.out]; unfold litP; rw [text_skip hi]
    cases ht : textP s i with
    | error er => rw [ht] at hT; rw [hT]; exact ⟨rfl, text_err ht, Nat.le_refl _, by omega⟩
    | ok y =>
      obtain ⟨⟨t, a⟩, k⟩ := y
      rw [ht] at hT
      obtain ⟨rfl, _, h3⟩ := hT
      rw [h3]; exact ⟨rfl, rfl, rfl, rfl⟩
  have main : ∀ kd : Int, (hd s i).kind = kd → (kd = 301 ∨ kd = 302) → Calls Try.prog 62 #[.pointer (some ⟨N, 0, none⟩)] w (RefPost N G s d (headP inner s i) w) := by
    intro kd hkd hor
    rw [hkd] at l0
    have HKD := Lib.hid hkd
    clear hk hc hT h H1 hkd
    rcases hor with rfl | rfl
    all_goals
      go_enter Try.func62, Try.ntmps62
      go_wp2_with fail
      refine (take_any N G s 302 (hd s i) (tl s i) d _ _ HH.out hs).mono ?_
      rintro e w1 ⟨rfl, W1, K1⟩
      obtain ⟨w2, hw2⟩ : ∃ w2, w2 = w1.alloc (.cells #[.int .i64 (hd s i).kind, .string (hd s i).text, .int .i64 (hd s i).at_, .int .i64 (hd s i).stop] 58) := ⟨_, rfl⟩
      have kA : Kept Nix w1 w2 := by rw [hw2]; exact (Kept.refl _ _).alloc _
      have X2 : Four w1.heap.size (.int .i64 (hd s i).kind) (.string (hd s i).text) (.int .i64 (hd s i).at_) (.int .i64 (hd s i).stop) w2 := by rw [hw2]; exact heap_alloc_new w1 _
      have F1 : Five w.heap.size (.int .i64 0) (.string ⟨#[]⟩) (.int .i64 0) (.string ⟨#[]⟩) (.slice none 0 0) w1 := Five.kept (heap_alloc_new w _) K1 (by omega)
      have F2 := Lib.hid (F1.kept kA (fun h => h))
      have hM := F2.out.lt
      have KK : Hid (Kept (· = N) w w2) := (((Kept.refl _ w).alloc _).trans K1).quiet kA
      have WW := Lib.hid (W1.kept kA (fun h => h) (fun h => h))
      obtain ⟨x0, x1, x2, x3, _⟩ := X2.cells
      obtain ⟨z0, z1, z2, z3, z4, zf⟩ := F2.out.cells
      have f0 := zf 0; have f1 := zf 1; have f2 := zf 2; have f3 := zf 3; have f4 := zf 4; clear zf
      have HW := Lib.hid hw2
      clear W1 K1 c0 l0 hw2 kA F1 X2
      unfold tokV
      go_upto_region 7 with fail
      rw [← HW.out]
      go_wp2_with fail
      exact ret_ref 2 (p := pk 1 (hd s i).text 0 E0 []) (ka := none) (cap := 0) (S := Nix) rfl rfl F2.out WW.out KK.out (Nat.le_refl _) hN hG hr.out ⟨by show (hd s i).text.size < _; omega, e0_lt, len0_lt⟩ (fun b hb => hb.elim) (by unfold PatsAt; trivial)
  exact main _ rfl hk
end Go.Proofs.Ytdnglicgmlldlaa
namespace Go.Proofs.Ytdnglicgmlldlaa
open Go.RowKit

set_option maxRecDepth 100000 in
set_option maxHeartbeats 1000000 in
theorem piece_cursor (N G : Nat) (s : ByteArray) (i d : Nat) (w : World) (inner : Nat → Res PatT) (h : Wk N G s (toks s i) d (0, 0) w) (hi : i ≤ s.size) (hs : s.size ≤ 65536) (hd2 : d ≤ 200) (hc : peek s (skip s i) = 64) :
    Calls Try.prog 62 #[.pointer (some ⟨N, 0, none⟩)] w (RefPost N G s d (headP inner s i) w) := by
  have e0 : Hid (headP inner s i = nmP s (skip s i + 1) 23) := by unfold Hid; rw [head_no hi (by omega)]; unfold primaryP; rw [if_neg (by omega), if_pos hc]
  have hN := h.ltN; have hG := h.lt; have hne := h.ne
  have hj : skip s i < s.size := peek_lt (by omega)
  have hk : (hd s i).kind = 64 := (kind_plain (c := 64) plain64).2 hc
  have hst : (hd s i).stop = skip s i + 1 := hd_stop_plain (c := 64) plain64 hc
  have hT := Lib.hid (take_yes hk (by decide) (by decide) (0, 0))
  have hNm := take_name (s := s) (i := skip s i + 1) (by omega)
  have hx := hd_text s (skip s i + 1)
  have hr : Hid (RefOk s d (headP inner s i) (pk 23 E0 0 (hd s (skip s i + 1)).text []) (takeR s 303 (hd s (skip s i + 1)) (tl s (skip s i + 1)) (0, 0)).1 d (nameB s (hd s (skip s i + 1)) (tl s (skip s i + 1)) (0, 0))) := by
    unfold Hid; rw [e0.out]; unfold nmP
    cases ht : nameP s (skip s i + 1) with
    | error er => rw [ht] at hNm; rw [hNm]; exact ⟨rfl, name_err ht, Nat.le_refl _, by omega⟩
    | ok y =>
      obtain ⟨t, k⟩ := y
      rw [ht] at hNm
      obtain ⟨rfl, h2, h3⟩ := hNm
      rw [h2, h3]; exact ⟨rfl, rfl, rfl, rfl⟩
  obtain ⟨o, n, c, c0, l0⟩ := h.kind hi
  rw [hk] at l0
  have H1 := h.kept ((Kept.refl Nix w).alloc (.cells #[.int .i64 0, .string ⟨#[]⟩, .int .i64 0, .string ⟨#[]⟩, .slice none 0 0] 24)) (fun h => h) (fun h => h)
  rw [toks_cons hi] at H1
  have HH := Lib.hid H1
  have HS := Lib.hid hst
  clear h hk hst hc H1 hNm
  go_enter Try.func62, Try.ntmps62
  go_wp2_with fail
  refine (take_any N G s 64 (hd s i) (tl s i) d _ _ HH.out hs).mono ?_
  rintro e w1 ⟨rfl, W1, K1⟩
  rw [hT.out, HS.out, toks_cons (show skip s i + 1 ≤ s.size by omega)] at W1
  have F1 : Hid (Five w.heap.size (.int .i64 0) (.string ⟨#[]⟩) (.int .i64 0) (.string ⟨#[]⟩) (.slice none 0 0) w1) := Five.kept (heap_alloc_new w _) K1 (by omega)
  have K1' : Hid (Kept (· = N) w w1) := ((Kept.refl _ w).alloc _).trans K1
  have WW := Lib.hid W1
  clear W1 K1 c0 l0
  go_wp2_with fail
  refine (rname_any N G s _ _ d _ _ WW.out hs).mono ?_
  rintro e w2 ⟨rfl, W2, K2⟩
  have hM := Nat.lt_of_lt_of_le F1.out.lt K2.size
  have F2 := Lib.hid (F1.out.kept K2 (by omega))
  have KK := Lib.hid (K1'.out.trans K2)
  have WW2 := Lib.hid W2
  obtain ⟨z0, z1, z2, z3, z4, zf⟩ := F2.out.cells
  have f0 := zf 0; have f1 := zf 1; have f2 := zf 2; have f3 := zf 3; have f4 := zf 4; clear zf
  clear W2 K2
  go_wp2_with fail
  exact ret_ref 2 (p := pk 23 E0 0 (hd s (skip s i + 1)).text []) (ka := none) (cap := 0) (S := Nix) rfl rfl F2.out WW2.out KK.out (Nat.le_refl _) hN hG hr.out ⟨e0_lt, by show (hd s (skip s i + 1)).text.size < _; omega, len0_lt⟩ (fun b hb => hb.elim) (by unfold PatsAt; trivial)

set_option maxRecDepth 100000 in
set_option maxHeartbeats 1000000 in
theorem piece_call (N G : Nat) (s : ByteArray) (i d : Nat) (w : World) (inner : Nat → Res PatT) (h : Wk N G s (toks s i) d (0, 0) w) (hi : i ≤ s.size) (hs : s.size ≤ 65536) (hd2 : d ≤ 200) (hc : peek s (skip s i) = 42) :
    Calls Try.prog 62 #[.pointer (some ⟨N, 0, none⟩)] w (RefPost N G s d (headP inner s i) w) := by
  have e0 : Hid (headP inner s i = nmP s (skip s i + 1) 24) := by unfold Hid; rw [head_no hi (by omega)]; unfold primaryP; rw [if_neg (by omega), if_neg (by omega), if_pos hc]
  have hN := h.ltN; have hG := h.lt; have hne := h.ne
  have hj : skip s i < s.size := peek_lt (by omega)
  have hk : (hd s i).kind = 42 := (kind_plain (c := 42) plain42).2 hc
  have hst : (hd s i).stop = skip s i + 1 := hd_stop_plain (c := 42) plain42 hc
  have hT := Lib.hid (take_yes hk (by decide) (by decide) (0, 0))
  have hNm := take_name (s := s) (i := skip s i + 1) (by omega)
  have hx := hd_text s (skip s i + 1)
  have hr : Hid (RefOk s d (headP inner s i) (pk 24 E0 0 (hd s (skip s i + 1)).text []) (takeR s 303 (hd s (skip s i + 1)) (tl s (skip s i + 1)) (0, 0)).1 d (nameB s (hd s (skip s i + 1)) (tl s (skip s i + 1)) (0, 0))) := by
    unfold Hid; rw [e0.out]; unfold nmP
    cases ht : nameP s (skip s i + 1) with
    | error er => rw [ht] at hNm; rw [hNm]; exact ⟨rfl, name_err ht, Nat.le_refl _, by omega⟩
    | ok y =>
      obtain ⟨t, k⟩ := y
      rw [ht] at hNm
      obtain ⟨rfl, h2, h3⟩ := hNm
      rw [h2, h3]; exact ⟨rfl, rfl, rfl, rfl⟩
  obtain ⟨o, n, c, c0, l0⟩ := h.kind hi
  rw [hk] at l0
  have H1 := h.kept ((Kept.refl Nix w).alloc (.cells #[.int .i64 0, .string ⟨#[]⟩, .int .i64 0, .string ⟨#[]⟩, .slice none 0 0] 24)) (fun h => h) (fun h => h)
  rw [toks_cons hi] at H1
  have HH := Lib.hid H1
  have HS := Lib.hid hst
  clear h hk hst hc H1 hNm
  go_enter Try.func62, Try.ntmps62
  go_wp2_with fail
  refine (take_any N G s 42 (hd s i) (tl s i) d _ _ HH.out hs).mono ?_
  rintro e w1 ⟨rfl, W1, K1⟩
  rw [hT.out, HS.out, toks_cons (show skip s i + 1 ≤ s.size by omega)] at W1
  have F1 : Hid (Five w.heap.size (.int .i64 0) (.string ⟨#[]⟩) (.int .i64 0) (.string ⟨#[]⟩) (.slice none 0 0) w1) := Five.kept (heap_alloc_new w _) K1 (by omega)
  have K1' : Hid (Kept (· = N) w w1) := ((Kept.refl _ w).alloc _).trans K1
  have WW := Lib.hid W1
  clear W1 K1 c0 l0
  go_wp2_with fail
  refine (rname_any N G s _ _ d _ _ WW.out hs).mono ?_
  rintro e w2 ⟨rfl, W2, K2⟩
  have hM := Nat.lt_of_lt_of_le F1.out.lt K2.size
  have F2 := Lib.hid (F1.out.kept K2 (by omega))
  have KK := Lib.hid (K1'.out.trans K2)
  have WW2 := Lib.hid W2
  obtain ⟨z0, z1, z2, z3, z4, zf⟩ := F2.out.cells
  have f0 := zf 0; have f1 := zf 1; have f2 := zf 2; have f3 := zf 3; have f4 := zf 4; clear zf
  clear W2 K2
  go_wp2_with fail
  exact ret_ref 2 (p := pk 24 E0 0 (hd s (skip s i + 1)).text []) (ka := none) (cap := 0) (S := Nix) rfl rfl F2.out WW2.out KK.out (Nat.le_refl _) hN hG hr.out ⟨e0_lt, by show (hd s (skip s i + 1)).text.size < _; omega, len0_lt⟩ (fun b hb => hb.elim) (by unfold PatsAt; trivial)
end Go.Proofs.Ytdnglicgmlldlaa
namespace Go.Proofs.Ytdnglicgmlldlaa
open Go.RowKit

def words25 : List ByteArray := wordsL ++ [E0, E0, E0, E0]
def wordAt (k : Nat) : ByteArray := wordsL.getD k E0
theorem words25_at (k : Nat) (hk : k ≤ 20) (w : World) : (w.alloc (.cells (words25.map Value.string).toArray 9 (0, 0))).cell? ⟨w.heap.size, k, none⟩ = some (.string (wordAt k)) := by
  rw [World.cell?_alloc_mark]
  have h : k < words25.length := by show k < 25; omega
  have e : words25[k]? = some (wordAt k) := by
    unfold words25 wordAt
    have h2 : k < wordsL.length := by show k < 21; omega
    rw [List.getElem?_append_left h2, List.getD_eq_getElem?_getD, List.getElem?_eq_getElem h2]; rfl
  simp [e]
set_option maxRecDepth 100000 in
set_option maxHeartbeats 1000000 in
theorem Word_any (k : Nat) (hk : k ≤ 20) (w : World) : Calls Try.prog 75 #[.int .i64 k] w fun e w' => e = .returned (.string (wordAt k)) ∧ Kept Nix w w' := by
  have hc := words25_at k hk w
  obtain ⟨w1, hw1⟩ : ∃ w1, w1 = w.alloc (.cells (words25.map Value.string).toArray 9 (0, 0)) := ⟨_, rfl⟩
  have K : Hid (Kept Nix w w1) := by rw [hw1]; exact (Kept.refl _ _).alloc _
  rw [← hw1] at hc
  have HW := Lib.hid hw1
  clear hw1
  have hb : (k : Int) < 25 := by omega
  go_enter Try.func75, Try.ntmps75
  go_upto_region 2 with fail
  have e1 : w1 = w.alloc (.cells #[.string ⟨#[]⟩, .string ⟨#[]⟩, .string ⟨#[76, 69, 78]⟩, .string ⟨#[65, 78, 89]⟩, .string ⟨#[78, 79, 84, 65, 78, 89]⟩, .string ⟨#[83, 80, 65, 78]⟩, .string ⟨#[66, 82, 69, 65, 75]⟩, .string ⟨#[66, 82, 69, 65, 75, 88]⟩, .string ⟨#[84, 65, 66]⟩, .string ⟨#[82, 84, 65, 66]⟩, .string ⟨#[80, 79, 83]⟩, .string ⟨#[82, 80, 79, 83]⟩, .string ⟨#[82, 69, 77]⟩, .string ⟨#[65, 82, 66]⟩, .string ⟨#[66, 65, 76]⟩, .string ⟨#[70, 65, 73, 76]⟩, .string ⟨#[70, 69, 78, 67, 69]⟩, .string ⟨#[65, 66, 79, 82, 84]⟩, .string ⟨#[]⟩, .string ⟨#[]⟩, .string ⟨#[65, 82, 66, 78, 79]⟩, .string ⟨#[]⟩, .string ⟨#[]⟩, .string ⟨#[]⟩, .string ⟨#[]⟩] 9 (0, 0)) := HW.out
  rw [← e1]
  clear e1
  go_wp2_with fail
  go_ret
  exact ⟨rfl, K.out⟩
def kwGo (x : ByteArray) : Nat → Nat
  | 0 => 0
  | k + 1 => if 2 ≤ k ∧ wordAt k = x then k else kwGo x k
theorem kw_le (x : ByteArray) : ∀ k, kwGo x k ≤ k
  | 0 => Nat.le_refl _
  | k + 1 => by rw [kwGo]; split
                · omega
                · have := kw_le x k; omega
/-- The kind of a word that is not empty. -/
theorem kw_kind (x : ByteArray) (hx : 0 < x.size) : (kwGo x 21 = 0 ∧ kindOf x = -1) ∨ (kindOf x = (kwGo x 21 : Int) ∧ 2 ≤ kwGo x 21 ∧ kwGo x 21 ≠ 18 ∧ kwGo x 21 ≠ 19 ∧ kwGo x 21 ≤ 20) := by
  by_cases hm : x ∈ wordsL
  · simp only [wordsL, List.mem_cons, List.not_mem_nil, or_false] at hm
    rcases hm with h | h | h | h | h | h | h | h | h | h | h | h | h | h | h | h | h | h | h | h | h <;> subst h <;> first | (exfalso; exact absurd hx (by decide)) | (right; decide)
  · left
    constructor
    · have key : ∀ k, k ≤ 21 → kwGo x k = 0 := by
        intro k
        induction k with
        | zero => intro _; rfl
        | succ k ih =>
          intro hk
          rw [kwGo, if_neg, ih (by omega)]
          rintro ⟨_, h⟩
          apply hm
          have h2 : k < wordsL.length := by show k < 21; omega
          rw [← h]; unfold wordAt
          rw [List.getD_eq_getElem?_getD, List.getElem?_eq_getElem h2]
          exact List.getElem_mem _
      exact key 21 (Nat.le_refl _)
    · unfold kindOf Lib.idxOfS
      refine Lib.idxFromS_miss x wordsL 0 fun j hj h => hm ?_
      rw [← h, List.getD_eq_getElem?_getD, List.getElem?_eq_getElem hj]
      exact List.getElem_mem _
end Go.Proofs.Ytdnglicgmlldlaa
namespace Go.Proofs.Ytdnglicgmlldlaa
open Go.RowKit

/-- What stands in memory behind the word that was taken: the walk, the answer's cells, the sign at block M. -/
structure PcI (N G M : Nat) (s : ByteArray) (x : Tok) (l : List Tok) (d : Nat) (b : Er) (w wr : World) : Prop where
  wk : Wk N G s l d b wr
  zero : Zero5 w.heap.size wr
  sign : Four M (.int .i64 x.kind) (.string x.text) (.int .i64 x.at_) (.int .i64 x.stop) wr
  kept : Kept (· = N) w wr
  hM : w.heap.size < M
theorem PcI.quiet {N G M : Nat} {s : ByteArray} {x : Tok} {l : List Tok} {d : Nat} {b : Er} {w wr w' : World} (h : PcI N G M s x l d b w wr) (hk : Kept Nix wr w') : PcI N G M s x l d b w w' :=
  ⟨h.wk.kept hk (fun h => h) (fun h => h), Five.kept h.zero hk (fun h => h), h.sign.kept hk (fun h => h), h.kept.quiet hk, h.hM⟩
theorem PcI.next {N G M : Nat} {s : ByteArray} {x : Tok} {l l' : List Tok} {d d' : Nat} {b b' : Er} {w wr w' : World} (h : PcI N G M s x l d b w wr) (hN : N < w.heap.size) (hk : Kept (· = N) wr w') (hw : Wk N G s l' d' b' w') : PcI N G M s x l' d' b' w w' :=
  ⟨hw, Five.kept h.zero hk (by omega), h.sign.kept hk (by have := h.hM; omega), h.kept.trans hk, h.hM⟩

set_option maxRecDepth 100000 in
set_option maxHeartbeats 2000000 in
theorem piece_bad (N G : Nat) (s : ByteArray) (i d : Nat) (w : World) (inner : Nat → Res PatT) (h : Wk N G s (toks s i) d (0, 0) w) (hi : i ≤ s.size) (hs : s.size ≤ 65536) (hd2 : d ≤ 200) (hc : peek s (skip s i) ≠ 40 ∧ peek s (skip s i) ≠ 39 ∧ peek s (skip s i) ≠ 64 ∧ peek s (skip s i) ≠ 42 ∧ ¬ (65 ≤ peek s (skip s i) ∧ peek s (skip s i) ≤ 90)) :
    Calls Try.prog 62 #[.pointer (some ⟨N, 0, none⟩)] w (RefPost N G s d (headP inner s i) w) := by
  have hN := h.ltN; have hG := h.lt; have hne := h.ne
  have hx := hd_text s i
  obtain ⟨hc1, hc2, hc3, hc4, hc5⟩ := hc
  have e0 : Hid (headP inner s i = wdP inner s (skip s i)) := by unfold Hid; rw [head_no hi hc1]; unfold primaryP; rw [if_neg hc2, if_neg hc3, if_neg hc4]
  have hk0 := kind_text s i
  have hk1 : (hd s i).kind ≠ 40 := fun h => hc1 ((kind_plain (c := 40) plain40).1 h)
  have hk2 : (hd s i).kind ≠ 302 := fun h => hc2 (hk0.1 (.inr h))
  have hk3 : (hd s i).kind ≠ 301 := fun h => hc2 (hk0.1 (.inl h))
  have hk4 : (hd s i).kind ≠ 64 := fun h => hc3 ((kind_plain (c := 64) plain64).1 h)
  have hk5 : (hd s i).kind ≠ 42 := fun h => hc4 ((kind_plain (c := 42) plain42).1 h)
  have ew : wordP s i = .error (2, skip s i) := if_neg hc5
  have hT := take_word hi
  rw [ew] at hT
  replace hT := Lib.hid hT
  have hr : Hid (RefOk s d (headP inner s i) (pk 0 E0 0 E0 []) (toks s i) d (2, skip s i)) := by
    unfold Hid; rw [e0.out]; unfold wdP; rw [word_skip hi, ew]; exact ⟨rfl, by show (2 : Int) ≠ 0; decide, Nat.le_refl _, by omega⟩
  clear ew hk0 hc1 hc2 hc3 hc4 hc5
  obtain ⟨o, n, c, c0, l0⟩ := h.kind hi
  have b1 : ((hd s i).kind == 40) = false := by simp; omega
  have b2 : ((hd s i).kind == 302) = false := by simp; omega
  have b3 : ((hd s i).kind == 301) = false := by simp; omega
  have b4 : ((hd s i).kind == 64) = false := by simp; omega
  have b5 : ((hd s i).kind == 42) = false := by simp; omega
  have H1 := h.kept ((Kept.refl Nix w).alloc (.cells #[.int .i64 0, .string ⟨#[]⟩, .int .i64 0, .string ⟨#[]⟩, .slice none 0 0] 24)) (fun h => h) (fun h => h)
  rw [toks_cons hi] at H1
  have HH := Lib.hid H1
  clear h H1 hk1 hk2 hk3 hk4 hk5
  go_enter Try.func62, Try.ntmps62
  go_wp2_with fail
  refine (take_any N G s 303 (hd s i) (tl s i) d _ _ HH.out hs).mono ?_
  rintro e w1 ⟨rfl, W1, K1⟩
  rw [hT.out] at W1
  obtain ⟨w2, hw2⟩ : ∃ w2, w2 = w1.alloc (.cells #[.int .i64 (hd s i).kind, .string (hd s i).text, .int .i64 (hd s i).at_, .int .i64 (hd s i).stop] 58) := ⟨_, rfl⟩
  have kA : Kept Nix w1 w2 := by rw [hw2]; exact (Kept.refl _ _).alloc _
  have hz1 := K1.size
  simp at hz1
  have I2 : Hid (PcI N G w1.heap.size s (hd s i) (toks s i) d (2, skip s i) w w2) := ⟨W1.kept kA (fun h => h) (fun h => h), Five.kept (Five.kept (heap_alloc_new w _) K1 (by omega)) kA (fun h => h), by rw [hw2]; exact heap_alloc_new w1 _, (((Kept.refl _ w).alloc _).trans K1).quiet kA, by omega⟩
  obtain ⟨d3, _⟩ := W1.bad
  have hM2 := I2.out.zero.lt
  have HW := Lib.hid hw2
  have hNw1 := W1.ltN
  clear W1 K1 c0 l0 hw2 kA b1 b2 b3 b4 b5
  unfold tokV
  go_upto_region 15 with fail
  rw [← HW.out]
  clear HW d3
  obtain ⟨d3, _⟩ := I2.out.wk.bad
  obtain ⟨z0, z1, z2, z3, z4, zf⟩ := I2.out.zero.cells
  have f0 := zf 0; have f1 := zf 1; have f2 := zf 2; have f3 := zf 3; have f4 := zf 4; clear zf
  go_wp2_with fail
  exact ret_ref 2 (p := pk 0 E0 0 E0 []) (ka := none) (cap := 0) (S := Nix) rfl rfl I2.out.zero I2.out.wk I2.out.kept (Nat.le_refl _) hN hG hr.out ⟨e0_lt, e0_lt, len0_lt⟩ (fun b hb => hb.elim) (by unfold PatsAt; trivial)

set_option maxRecDepth 100000 in
set_option maxHeartbeats 2000000 in
theorem piece_none (N G : Nat) (s : ByteArray) (i d : Nat) (w : World) (inner : Nat → Res PatT) (hcl : kwGo (hd s i).text 21 = 0) (h : Wk N G s (toks s i) d (0, 0) w) (hi : i ≤ s.size) (hs : s.size ≤ 65536) (hd2 : d ≤ 200) (hc : 65 ≤ peek s (skip s i) ∧ peek s (skip s i) ≤ 90) :
    Calls Try.prog 62 #[.pointer (some ⟨N, 0, none⟩)] w (RefPost N G s d (headP inner s i) w) := by
  have hN := h.ltN; have hG := h.lt; have hne := h.ne
  have hx := hd_text s i
  obtain ⟨hc1, hc2⟩ := hc
  have hk0 : (hd s i).kind = 303 := (kind_word s i).2 ⟨hc1, hc2⟩
  have hk1 : (hd s i).kind ≠ 40 := by omega
  have hk2 : (hd s i).kind ≠ 302 := by omega
  have hk3 : (hd s i).kind ≠ 301 := by omega
  have hk4 : (hd s i).kind ≠ 64 := by omega
  have hk5 : (hd s i).kind ≠ 42 := by omega
  obtain ⟨x, a, k, ew⟩ : ∃ x a k, wordP s i = .ok ((x, a), k) := ⟨_, _, _, if_pos ⟨hc1, hc2⟩⟩
  have hwk := word_ok hi ew
  have hks : k ≤ s.size := hwk.2.1
  have hT := take_word hi
  rw [ew] at hT
  obtain ⟨hxe, hae, hT⟩ := hT
  replace hT := Lib.hid hT
  have e0 : Hid (headP inner s i = kindP inner s a k (kindOf x)) := by
    unfold Hid; rw [head_no hi (by omega)]; unfold primaryP; rw [if_neg (by omega), if_neg (by omega), if_neg (by omega)]; unfold wdP; rw [word_skip hi, ew]
  have hkw := Lib.hid (kw_kind x hwk.2.2.2.2)
  have HXE := Lib.hid hxe; have HAE := Lib.hid hae
  have hxs : x.size ≤ s.size := hwk.2.2.1
  have has : a ≤ s.size := hwk.2.2.2.1
  clear ew hwk hk0 hc1 hc2 hxe hae
  rw [HXE.out] at hcl
  replace hcl := Lib.hid hcl
  obtain ⟨o, n, c, c0, l0⟩ := h.kind hi
  have b1 : ((hd s i).kind == 40) = false := by simp; omega
  have b2 : ((hd s i).kind == 302) = false := by simp; omega
  have b3 : ((hd s i).kind == 301) = false := by simp; omega
  have b4 : ((hd s i).kind == 64) = false := by simp; omega
  have b5 : ((hd s i).kind == 42) = false := by simp; omega
  have H1 := h.kept ((Kept.refl Nix w).alloc (.cells #[.int .i64 0, .string ⟨#[]⟩, .int .i64 0, .string ⟨#[]⟩, .slice none 0 0] 24)) (fun h => h) (fun h => h)
  rw [toks_cons hi] at H1
  have HH := Lib.hid H1
  clear h H1 hk1 hk2 hk3 hk4 hk5
  go_enter Try.func62, Try.ntmps62
  go_wp2_with fail
  refine (take_any N G s 303 (hd s i) (tl s i) d _ _ HH.out hs).mono ?_
  rintro e w1 ⟨rfl, W1, K1⟩
  rw [hT.out] at W1
  obtain ⟨w2, hw2⟩ : ∃ w2, w2 = w1.alloc (.cells #[.int .i64 (hd s i).kind, .string (hd s i).text, .int .i64 (hd s i).at_, .int .i64 (hd s i).stop] 58) := ⟨_, rfl⟩
  have kA : Kept Nix w1 w2 := by rw [hw2]; exact (Kept.refl _ _).alloc _
  have hz1 := K1.size
  simp at hz1
  have I2 : Hid (PcI N G w1.heap.size s (hd s i) (toks s k) d (0, 0) w w2) := ⟨W1.kept kA (fun h => h) (fun h => h), Five.kept (Five.kept (heap_alloc_new w _) K1 (by omega)) kA (fun h => h), by rw [hw2]; exact heap_alloc_new w1 _, (((Kept.refl _ w).alloc _).trans K1).quiet kA, by omega⟩
  obtain ⟨d3, _⟩ := W1.bad
  have hM2 := I2.out.zero.lt
  have HW := Lib.hid hw2
  have hNw1 := W1.ltN
  clear W1 K1 c0 l0 hw2 kA b1 b2 b3 b4 b5
  unfold tokV
  go_upto_region 15 with fail
  rw [← HW.out]
  clear HW d3
  obtain ⟨d3, _⟩ := I2.out.wk.bad
  go_wp2_with fail
  go_loopg [5, 6] 19 (fun f kv kk wr => ∃ m n : Nat, 2 ≤ m ∧ m ≤ 21 ∧ f = 21 - m ∧ kk = .int .i64 m ∧ kv = .int .i64 n ∧ n ≤ 20 ∧ Hid (kwGo x m = n) ∧ Hid (PcI N G w1.heap.size s (hd s i) (toks s k) d (0, 0) w wr))
  case atStart => exact ⟨2, 0, by omega, by omega, rfl, rfl, rfl, by omega, by simp [Hid, kwGo], I2⟩
  case round =>
    obtain ⟨m, n, hm1, hm2, rfl, rfl, rfl, hn, hkn, I⟩ := hrel
    by_cases hlt : m ≤ 20
    · have g1 : decide ((m : Int) ≤ 20) = true := decide_eq_true (by omega)
      obtain ⟨x0, x1, x2, x3, _⟩ := I.out.sign.cells
      rw [HXE.out] at x1
      have arm : Hid (∀ b : Bool, ((wordAt m).toList == x.toList) = b → kwGo x (m + 1) = if b = true then m else n) := by
        intro b hb
        rw [kwGo]
        cases b with
        | true => rw [if_pos ⟨hm1, (Lib.bytes_beq_iff _ _).1 hb⟩]; rfl
        | false => rw [if_neg (fun e => (Lib.bytes_beq_false_iff _ _).1 hb e.2), hkn.out]; rfl
      have I0 := Lib.hid (I.out.quiet (Kept.refl Nix wr).drew)
      go_wp2_with fail
      go_region_with (first
        | (go_at_call 75; (with_reducible refine (Word_any m hlt _).mono ?_); rintro e w3 ⟨rfl, k3⟩; have I3 := Lib.hid (I0.out.quiet k3); obtain ⟨y0, y1, y2, y3, _⟩ := I3.out.sign.cells; rw [HXE.out] at y1; clear k3))
      all_goals
        cases hb : ((wordAt m).toList == x.toList) with
        | true =>
          have A := Lib.hid (arm.out _ hb)
          have hm20 : m ≤ 20 := hlt
          go_wp2_with fail
          go_roundg (21 - (m + 1))
          case measure => omega
          case rel => exact ⟨m + 1, m, by omega, by omega, rfl, by go_num, rfl, hm20, A, I3⟩
        | false =>
          have A := Lib.hid (arm.out _ hb)
          go_wp2_with fail
          go_roundg (21 - (m + 1))
          case measure => omega
          case rel => exact ⟨m + 1, n, by omega, by omega, rfl, by go_num, rfl, hn, A, I3⟩
    · obtain rfl : m = 21 := by omega
      have g1 : decide (((21 : Nat) : Int) ≤ 20) = false := by decide
      have hcl := hcl.out
      have hkw2 := hkw.out
      rw [hkn.out] at hcl hkw2
      clear hkw hkn
      obtain rfl : n = 0 := hcl
      have hr : Hid (RefOk s d (headP inner s i) (pk 0 E0 0 E0 []) (toks s k) d (7, a)) := by
        unfold Hid; rw [e0.out]
        have : kindOf x = -1 ∨ kindOf x = 0 := by omega
        unfold kindP; rw [if_pos this]; exact ⟨rfl, by show (7 : Int) ≠ 0; decide, Nat.le_refl _, by omega⟩
      clear hcl hkw2
      obtain ⟨x0, x1, x2, x3, _⟩ := I.out.sign.cells
      rw [HAE.out] at x2
      go_wp2_with fail
      refine (stop_at N G s _ d _ (7, a) _ rfl _ I.out.wk).mono ?_
      rintro e w4 ⟨rfl, W4, K4⟩
      rw [stopB_ok] at W4
      have I4 := Lib.hid (I.out.next hN K4 W4)
      have hM4 := I4.out.zero.lt
      obtain ⟨z0, z1, z2, z3, z4, zf⟩ := I4.out.zero.cells
      have f0 := zf 0; have f1 := zf 1; have f2 := zf 2; have f3 := zf 3; have f4 := zf 4; clear zf
      clear W4 K4
      go_wp2_with fail
      exact ret_ref 2 (p := pk 0 E0 0 E0 []) (ka := none) (cap := 0) (S := Nix) rfl rfl I4.out.zero I4.out.wk I4.out.kept (Nat.le_refl _) hN hG hr.out ⟨e0_lt, e0_lt, len0_lt⟩ (fun b hb => hb.elim) (by unfold PatsAt; trivial)

set_option maxRecDepth 100000 in
set_option maxHeartbeats 2000000 in
theorem piece_plain (N G : Nat) (s : ByteArray) (i d : Nat) (w : World) (inner : Nat → Res PatT) (hcl : kwGo (hd s i).text 21 ≠ 0 ∧ ¬ isTextK (kwGo (hd s i).text 21) ∧ ¬ isNumK (kwGo (hd s i).text 21) ∧ kwGo (hd s i).text 21 ≠ 20) (h : Wk N G s (toks s i) d (0, 0) w) (hi : i ≤ s.size) (hs : s.size ≤ 65536) (hd2 : d ≤ 200) (hc : 65 ≤ peek s (skip s i) ∧ peek s (skip s i) ≤ 90) :
    Calls Try.prog 62 #[.pointer (some ⟨N, 0, none⟩)] w (RefPost N G s d (headP inner s i) w) := by
  have hN := h.ltN; have hG := h.lt; have hne := h.ne
  have hx := hd_text s i
  obtain ⟨hc1, hc2⟩ := hc
  have hk0 : (hd s i).kind = 303 := (kind_word s i).2 ⟨hc1, hc2⟩
  have hk1 : (hd s i).kind ≠ 40 := by omega
  have hk2 : (hd s i).kind ≠ 302 := by omega
  have hk3 : (hd s i).kind ≠ 301 := by omega
  have hk4 : (hd s i).kind ≠ 64 := by omega
  have hk5 : (hd s i).kind ≠ 42 := by omega
  obtain ⟨x, a, k, ew⟩ : ∃ x a k, wordP s i = .ok ((x, a), k) := ⟨_, _, _, if_pos ⟨hc1, hc2⟩⟩
  have hwk := word_ok hi ew
  have hks : k ≤ s.size := hwk.2.1
  have hT := take_word hi
  rw [ew] at hT
  obtain ⟨hxe, hae, hT⟩ := hT
  replace hT := Lib.hid hT
  have e0 : Hid (headP inner s i = kindP inner s a k (kindOf x)) := by
    unfold Hid; rw [head_no hi (by omega)]; unfold primaryP; rw [if_neg (by omega), if_neg (by omega), if_neg (by omega)]; unfold wdP; rw [word_skip hi, ew]
  have hkw := Lib.hid (kw_kind x hwk.2.2.2.2)
  have HXE := Lib.hid hxe; have HAE := Lib.hid hae
  have hxs : x.size ≤ s.size := hwk.2.2.1
  have has : a ≤ s.size := hwk.2.2.2.1
  clear ew hwk hk0 hc1 hc2 hxe hae
  rw [HXE.out] at hcl
  replace hcl := Lib.hid hcl
  obtain ⟨o, n, c, c0, l0⟩ := h.kind hi
  have b1 : ((hd s i).kind == 40) = false := by simp; omega
  have b2 : ((hd s i).kind == 302) = false := by simp; omega
  have b3 : ((hd s i).kind == 301) = false := by simp; omega
  have b4 : ((hd s i).kind == 64) = false := by simp; omega
  have b5 : ((hd s i).kind == 42) = false := by simp; omega
  have H1 := h.kept ((Kept.refl Nix w).alloc (.cells #[.int .i64 0, .string ⟨#[]⟩, .int .i64 0, .string ⟨#[]⟩, .slice none 0 0] 24)) (fun h => h) (fun h => h)
  rw [toks_cons hi] at H1
  have HH := Lib.hid H1
  clear h H1 hk1 hk2 hk3 hk4 hk5
  go_enter Try.func62, Try.ntmps62
  go_wp2_with fail
  refine (take_any N G s 303 (hd s i) (tl s i) d _ _ HH.out hs).mono ?_
  rintro e w1 ⟨rfl, W1, K1⟩
  rw [hT.out] at W1
  obtain ⟨w2, hw2⟩ : ∃ w2, w2 = w1.alloc (.cells #[.int .i64 (hd s i).kind, .string (hd s i).text, .int .i64 (hd s i).at_, .int .i64 (hd s i).stop] 58) := ⟨_, rfl⟩
  have kA : Kept Nix w1 w2 := by rw [hw2]; exact (Kept.refl _ _).alloc _
  have hz1 := K1.size
  simp at hz1
  have I2 : Hid (PcI N G w1.heap.size s (hd s i) (toks s k) d (0, 0) w w2) := ⟨W1.kept kA (fun h => h) (fun h => h), Five.kept (Five.kept (heap_alloc_new w _) K1 (by omega)) kA (fun h => h), by rw [hw2]; exact heap_alloc_new w1 _, (((Kept.refl _ w).alloc _).trans K1).quiet kA, by omega⟩
  obtain ⟨d3, _⟩ := W1.bad
  have hM2 := I2.out.zero.lt
  have HW := Lib.hid hw2
  have hNw1 := W1.ltN
  clear W1 K1 c0 l0 hw2 kA b1 b2 b3 b4 b5
  unfold tokV
  go_upto_region 15 with fail
  rw [← HW.out]
  clear HW d3
  obtain ⟨d3, _⟩ := I2.out.wk.bad
  go_wp2_with fail
  go_loopg [5, 6] 19 (fun f kv kk wr => ∃ m n : Nat, 2 ≤ m ∧ m ≤ 21 ∧ f = 21 - m ∧ kk = .int .i64 m ∧ kv = .int .i64 n ∧ n ≤ 20 ∧ Hid (kwGo x m = n) ∧ Hid (PcI N G w1.heap.size s (hd s i) (toks s k) d (0, 0) w wr))
  case atStart => exact ⟨2, 0, by omega, by omega, rfl, rfl, rfl, by omega, by simp [Hid, kwGo], I2⟩
  case round =>
    obtain ⟨m, n, hm1, hm2, rfl, rfl, rfl, hn, hkn, I⟩ := hrel
    by_cases hlt : m ≤ 20
    · have g1 : decide ((m : Int) ≤ 20) = true := decide_eq_true (by omega)
      obtain ⟨x0, x1, x2, x3, _⟩ := I.out.sign.cells
      rw [HXE.out] at x1
      have arm : Hid (∀ b : Bool, ((wordAt m).toList == x.toList) = b → kwGo x (m + 1) = if b = true then m else n) := by
        intro b hb
        rw [kwGo]
        cases b with
        | true => rw [if_pos ⟨hm1, (Lib.bytes_beq_iff _ _).1 hb⟩]; rfl
        | false => rw [if_neg (fun e => (Lib.bytes_beq_false_iff _ _).1 hb e.2), hkn.out]; rfl
      have I0 := Lib.hid (I.out.quiet (Kept.refl Nix wr).drew)
      go_wp2_with fail
      go_region_with (first
        | (go_at_call 75; (with_reducible refine (Word_any m hlt _).mono ?_); rintro e w3 ⟨rfl, k3⟩; have I3 := Lib.hid (I0.out.quiet k3); obtain ⟨y0, y1, y2, y3, _⟩ := I3.out.sign.cells; rw [HXE.out] at y1; clear k3))
      all_goals
        cases hb : ((wordAt m).toList == x.toList) with
        | true =>
          have A := Lib.hid (arm.out _ hb)
          have hm20 : m ≤ 20 := hlt
          go_wp2_with fail
          go_roundg (21 - (m + 1))
          case measure => omega
          case rel => exact ⟨m + 1, m, by omega, by omega, rfl, by go_num, rfl, hm20, A, I3⟩
        | false =>
          have A := Lib.hid (arm.out _ hb)
          go_wp2_with fail
          go_roundg (21 - (m + 1))
          case measure => omega
          case rel => exact ⟨m + 1, n, by omega, by omega, rfl, by go_num, rfl, hn, A, I3⟩
    · obtain rfl : m = 21 := by omega
      have g1 : decide (((21 : Nat) : Int) ≤ 20) = false := by decide
      have hcl := hcl.out
      have hkw2 := hkw.out
      rw [hkn.out] at hcl hkw2
      clear hkw hkn
      obtain ⟨hc0, hc1, hc2, hc3⟩ := hcl
      have bt : decide (isTextK (n : Int)) = false := decide_eq_false hc1
      have bn : decide (isNumK (n : Int)) = false := decide_eq_false hc2
      have b20 : ((n : Int) == 20) = false := by simp; omega
      have b0 : ((n : Int) == 0) = false := by simp; omega
      have hr : Hid (RefOk s d (headP inner s i) (pk n E0 0 E0 []) (toks s k) d (0, 0)) := by
        unfold Hid; rw [e0.out]
        have e : kindOf x = n := by omega
        simp only [isTextK, isNumK] at hc1 hc2
        unfold kindP; rw [e, if_neg (by omega), if_neg (by omega), if_neg (by omega), if_neg (by omega)]; exact ⟨rfl, rfl, rfl, rfl⟩
      clear hc0 hc1 hc2 hc3 hkw2
      obtain ⟨w5, hw5⟩ : ∃ w5, w5 = wr.alloc (.cells #[.int .i64 n, .string ⟨#[]⟩, .int .i64 0, .string ⟨#[]⟩, .slice none 0 0] 24) := ⟨_, rfl⟩
      have k5 : Kept Nix wr w5 := by rw [hw5]; exact (Kept.refl _ _).alloc _
      have J5 := Lib.hid (I.out.quiet k5)
      have P5 : Hid (Five wr.heap.size (.int .i64 n) (.string ⟨#[]⟩) (.int .i64 0) (.string ⟨#[]⟩) (.slice none 0 0) w5) := by rw [hw5]; exact heap_alloc_new wr _
      have hwr : w.heap.size < wr.heap.size := I.out.zero.lt
      have hwr1 : w1.heap.size < wr.heap.size := I.out.sign.lt
      have HW5 := Lib.hid hw5
      clear k5 hw5
      go_upto_region 27 with fail
      rw [← HW5.out]
      go_wp2_with fail
      refine (texts_any n _).mono ?_
      rintro e w6 ⟨rfl, k6⟩
      rw [bt]
      replace J5 := Lib.hid (J5.out.quiet k6); replace P5 := Lib.hid (P5.out.kept k6 (fun h => h)); clear k6
      go_wp2_with fail
      refine (numbers_any n _).mono ?_
      rintro e w7 ⟨rfl, k7⟩
      rw [bn]
      replace J5 := Lib.hid (J5.out.quiet k7); replace P5 := Lib.hid (P5.out.kept k7 (fun h => h)); clear k7
      obtain ⟨p0, p1, p2, p3, p4, _⟩ := P5.out.cells
      have hM5 := J5.out.zero.lt
      obtain ⟨z0, z1, z2, z3, z4, zf⟩ := J5.out.zero.cells
      have f0 := zf 0; have f1 := zf 1; have f2 := zf 2; have f3 := zf 3; have f4 := zf 4; clear zf
      go_wp2_with fail
      exact ret_ref 2 (p := pk n E0 0 E0 []) (ka := none) (cap := 0) (S := Nix) rfl rfl J5.out.zero J5.out.wk J5.out.kept (Nat.le_refl _) hN hG hr.out ⟨e0_lt, e0_lt, len0_lt⟩ (fun b hb => hb.elim) (by unfold PatsAt; trivial)
end Go.Proofs.Ytdnglicgmlldlaa
namespace Go.Proofs.Ytdnglicgmlldlaa
open Go.RowKit

def argT2 (s : ByteArray) (k1 : Nat) (kd : Int) : Res PatT :=
  match textP s k1 with
  | .error e => .error e
  | .ok ((t, a), k2) => if t.size = 0 then .error (8, a) else
    match needP 41 s k2 with
    | .error e => .error e
    | .ok k3 => .ok (.mk kd t 0 E0 [], k3)
def argN2 (s : ByteArray) (k1 : Nat) (kd : Int) : Res PatT :=
  match numP s k1 with
  | .error e => .error e
  | .ok (n, k2) => match needP 41 s k2 with
    | .error e => .error e
    | .ok k3 => .ok (.mk kd E0 n E0 [], k3)
def argP2 (inner : Nat → Res PatT) (s : ByteArray) (k1 : Nat) (kd : Int) : Res PatT :=
  match deepP inner s k1 with
  | .error e => .error e
  | .ok (p, k) => .ok (.mk kd E0 0 E0 [p], k)
theorem argT_ok {s : ByteArray} {k k1 : Nat} {kd : Int} (h : needP 40 s k = .ok k1) : argTextP s k kd = argT2 s k1 kd := by unfold argTextP argT2; rw [h]; rfl
theorem argN_ok {s : ByteArray} {k k1 : Nat} {kd : Int} (h : needP 40 s k = .ok k1) : argNumP s k kd = argN2 s k1 kd := by unfold argNumP argN2; rw [h]; rfl
theorem argP_ok {inner : Nat → Res PatT} {s : ByteArray} {k k1 : Nat} {kd : Int} (h : needP 40 s k = .ok k1) : argPatP inner s k kd = argP2 inner s k1 kd := by
  unfold argPatP argP2 deepP; rw [h]; dsimp only
  cases inner k1 with
  | error e => rfl
  | ok y =>
    obtain ⟨p, k2⟩ := y
    dsimp only
    cases needP 41 s k2 <;> rfl
theorem need_stop {c : Nat} {s : ByteArray} {k k1 : Nat} (hk : k ≤ s.size) (hc : Plain c) (h : needP c s k = .ok k1) : k1 ≤ s.size ∧ (hd s k).stop = k1 ∧ k < k1 := by
  have h0 := skip_ge s k
  unfold needP at h; split at h
  · rename_i hp; cases h
    have hj : skip s k < s.size := peek_lt (by omega)
    exact ⟨by omega, hd_stop_plain hc hp, by omega⟩
  · cases h
/-- The other bracket behind what is left. -/
theorem close41 {s : ByteArray} {k2 d : Nat} {p : PatT} (hk : k2 ≤ s.size) (hd2 : d ≤ 200) {x : Tok} {r : List Tok} (h : toks s k2 = x :: r) :
    RefOk s d (match needP 41 s k2 with
      | .error e => .error e
      | .ok k3 => .ok (p, k3)) p (takeR s 41 x r (0, 0)).1 d (takeR s 41 x r (0, 0)).2 := by
  rw [toks_cons hk] at h
  obtain ⟨rfl, rfl⟩ := List.cons.inj h
  have hT := take_need (c := 41) hk plain41
  rw [show ((41 : Nat) : Int) = 41 from rfl] at hT
  rw [hT]
  cases hn : needP 41 s k2 with
  | error er => exact ⟨rfl, need_err hn, Nat.le_refl _, by omega⟩
  | ok k3 => exact ⟨rfl, rfl, rfl, rfl⟩
theorem num_err {s : ByteArray} {j : Nat} : ∀ (f k n : Nat) {e : Er}, numGo s j f k n = .error e → e.1 ≠ 0
  | 0, k, n, e, h => by rw [numGo] at h; cases h
  | f + 1, k, n, e, h => by
    rw [numGo] at h
    split at h
    · split at h
      · cases h; show (2 : Int) ≠ 0; decide
      · split at h
        · cases h; show (3 : Int) ≠ 0; decide
        · exact num_err f _ _ h
    · cases h
theorem numP_err {s : ByteArray} {i : Nat} {e : Er} (h : numP s i = .error e) : e.1 ≠ 0 := by
  unfold numP at h; split at h
  · exact num_err _ _ _ h
  · cases h; show (2 : Int) ≠ 0; decide
def textB (s : ByteArray) (k1 : Nat) : Er := if (hd s k1).text.size = 0 then stopB (takeR s 302 (hd s k1) (tl s k1) (0, 0)).2 (8, (hd s k1).at_) else (takeR s 302 (hd s k1) (tl s k1) (0, 0)).2
theorem text_close {s : ByteArray} {k1 d : Nat} {kd : Int} (hk : k1 ≤ s.size) (hd2 : d ≤ 200) {x : Tok} {r : List Tok} (h : (takeR s 302 (hd s k1) (tl s k1) (0, 0)).1 = x :: r) :
    RefOk s d (argT2 s k1 kd) (pk kd (hd s k1).text 0 E0 []) (takeR s 41 x r (textB s k1)).1 d (takeR s 41 x r (textB s k1)).2 := by
  have hT := take_text hk
  unfold argT2 textB
  cases ht : textP s k1 with
  | error er =>
    rw [ht] at hT
    have h0 := text_err ht
    rw [hT]
    have e : (if (hd s k1).text.size = 0 then stopB er (8, (hd s k1).at_) else er) = er := by
      split
      · exact stopB_bad _ h0
      · rfl
    rw [e]
    exact ⟨take_bad h0, h0, Nat.le_refl _, by omega⟩
  | ok y =>
    obtain ⟨⟨t, a⟩, k2⟩ := y
    rw [ht] at hT
    obtain ⟨h1, h2, h3⟩ := hT
    rw [h3] at h ⊢
    rw [h1, h2]
    dsimp only
    by_cases hz : t.size = 0
    · rw [if_pos hz, if_pos hz, stopB_ok]
      have h8 : (8 : Int) ≠ 0 := by decide
      exact ⟨take_bad (b := (8, a)) h8, h8, Nat.le_refl _, by omega⟩
    · rw [if_neg hz, if_neg hz]
      exact close41 (text_ok ht).2.1 hd2 h
theorem num_close {s : ByteArray} {k1 d : Nat} {kd : Int} (hk : k1 ≤ s.size) (hd2 : d ≤ 200) {x : Tok} {r : List Tok} (h : (takeR s 304 (hd s k1) (tl s k1) (0, 0)).1 = x :: r) :
    RefOk s d (argN2 s k1 kd) (pk kd E0 (numR s (hd s k1) (tl s k1) (0, 0)).1 E0 []) (takeR s 41 x r (numR s (hd s k1) (tl s k1) (0, 0)).2).1 d (takeR s 41 x r (numR s (hd s k1) (tl s k1) (0, 0)).2).2 := by
  have hT := take_num hk
  unfold argN2
  cases ht : numP s k1 with
  | error er =>
    rw [ht] at hT
    have h0 := numP_err ht
    rw [hT]
    exact ⟨take_bad h0, h0, Nat.le_refl _, by omega⟩
  | ok y =>
    obtain ⟨n, k2⟩ := y
    rw [ht] at hT
    obtain ⟨h1, h2⟩ := hT
    rw [h1]
    rw [h2] at h
    exact close41 (num_ok hk ht).2.1 hd2 h
theorem pat_close {inner : Nat → Res PatT} {s : ByteArray} {k1 d d' : Nat} {kd : Int} {q : PatT} {l : List Tok} {b : Er} (h : RefOk s d (deepP inner s k1) q l d' b) : RefOk s d (argP2 inner s k1 kd) (pk kd E0 0 E0 [q]) l d' b := by
  unfold argP2
  cases ht : deepP inner s k1 with
  | error er => rw [ht] at h; exact h
  | ok y =>
    obtain ⟨p, k⟩ := y
    rw [ht] at h
    obtain ⟨rfl, h1, h2, h3⟩ := h
    exact ⟨rfl, h1, h2, h3⟩
end Go.Proofs.Ytdnglicgmlldlaa
