/- The document's reader: piece ahead of a word with an argument. The document's reader: piece ahead of a word with an argument. The document's reader: piece ahead of a word with an argument. The document's reader: piece. The document's reader: given. -/
import Derived.Test.YtdnglicgmlldlaaRm10
namespace Go.Proofs.Ytdnglicgmlldlaa
open Go.RowKit

theorem PcI.store {N G M : Nat} {s : ByteArray} {x : Tok} {l : List Tok} {d : Nat} {b : Er} {w wr : World} (h : PcI N G M s x l d b w wr) (hN : N < w.heap.size) (hG : G < w.heap.size) {P : Nat} (hP : w.heap.size < P) (hPM : P ≠ M) (o : Nat) (u : Value) : PcI N G M s x l d b w (wr.setCell ⟨P, o, none⟩ u) := by
  have k : Kept (· = P) wr (wr.setCell ⟨P, o, none⟩ u) := (Kept.refl (· = P) wr).setCell (p := ⟨P, o, none⟩) (.inl rfl) u
  exact ⟨h.wk.kept k (by omega) (by omega), Five.kept h.zero k (by omega), h.sign.kept k (by omega), h.kept.step k (fun y hy => .inr (by omega)), h.hM⟩

set_option maxRecDepth 100000 in
set_option maxHeartbeats 2000000 in
theorem piece_text (N G : Nat) (s : ByteArray) (i d : Nat) (w : World) (inner : Nat → Res PatT) (hcl : isTextK (kwGo (hd s i).text 21)) (h : Wk N G s (toks s i) d (0, 0) w) (hi : i ≤ s.size) (hs : s.size ≤ 65536) (hd2 : d ≤ 200) (hc : 65 ≤ peek s (skip s i) ∧ peek s (skip s i) ≤ 90) :
    Calls Try.prog 62 #[.pointer (some ⟨N, 0, none⟩)] w (RefPost N G s d (headP inner s i) w) := by
  have hN := h.ltN; have hG := h.lt; have hne := h.ne
  have hx := hd_text s i
  obtain ⟨hc1, hc2⟩ := hc
  have hk0 : (hd s i).kind = 303 := (kind_word s i).2 ⟨hc1, hc2⟩
  have hk1 : (hd s i).kind ≠ 40 := by omega
  have hk2 : (hd s i).kind ≠ 302 := by omega
  have hk3 : (hd s i).kind ≠ 301 := by omega
  have hk4 : (hd s i).kind ≠ 64 := by omega
  have hk5 : (hd s i).kind ≠ 42 := by omega
  obtain ⟨x, a, k, ew⟩ : ∃ x a k, wordP s i = .ok ((x, a), k) := ⟨_, _, _, if_pos ⟨hc1, hc2⟩⟩
  have hwk := word_ok hi ew
  have hks : k ≤ s.size := hwk.2.1
  have hT := take_word hi
  rw [ew] at hT
  obtain ⟨hxe, hae, hT⟩ := hT
  replace hT := Lib.hid hT
  have e0 : Hid (headP inner s i = kindP inner s a k (kindOf x)) := by
    unfold Hid; rw [head_no hi (by omega)]; unfold primaryP; rw [if_neg (by omega), if_neg (by omega), if_neg (by omega)]; unfold wdP; rw [word_skip hi, ew]
  have hkw := Lib.hid (kw_kind x hwk.2.2.2.2)
  have HXE := Lib.hid hxe; have HAE := Lib.hid hae
  have hxs : x.size ≤ s.size := hwk.2.2.1
  have has : a ≤ s.size := hwk.2.2.2.1
  clear ew hwk hk0 hc1 hc2 hxe hae
  rw [HXE.out] at hcl
  replace hcl := Lib.hid hcl
  obtain ⟨o, n, c, c0, l0⟩ := h.kind hi
  have b1 : ((hd s i).kind == 40) = false := by simp; omega
  have b2 : ((hd s i).kind == 302) = false := by simp; omega
  have b3 : ((hd s i).kind == 301) = false := by simp; omega
  have b4 : ((hd s i).kind == 64) = false := by simp; omega
  have b5 : ((hd s i).kind == 42) = false := by simp; omega
  have H1 := h.kept ((Kept.refl Nix w).alloc (.cells #[.int .i64 0, .string ⟨#[]⟩, .int .i64 0, .string ⟨#[]⟩, .slice none 0 0] 24)) (fun h => h) (fun h => h)
  rw [toks_cons hi] at H1
  have HH := Lib.hid H1
  clear h H1 hk1 hk2 hk3 hk4 hk5
  go_enter Try.func62, Try.ntmps62
  go_wp2_with fail
  refine (take_any N G s 303 (hd s i) (tl s i) d _ _ HH.out hs).mono ?_
  rintro e w1 ⟨rfl, W1, K1⟩
  rw [hT.out] at W1
  obtain ⟨w2, hw2⟩ : ∃ w2, w2 = w1.alloc (.cells #[.int .i64 (hd s i).kind, .string (hd s i).text, .int .i64 (hd s i).at_, .int .i64 (hd s i).stop] 58) := ⟨_, rfl⟩
  have kA : Kept Nix w1 w2 := by rw [hw2]; exact (Kept.refl _ _).alloc _
  have hz1 := K1.size
  simp at hz1
  have I2 : Hid (PcI N G w1.heap.size s (hd s i) (toks s k) d (0, 0) w w2) := ⟨W1.kept kA (fun h => h) (fun h => h), Five.kept (Five.kept (heap_alloc_new w _) K1 (by omega)) kA (fun h => h), by rw [hw2]; exact heap_alloc_new w1 _, (((Kept.refl _ w).alloc _).trans K1).quiet kA, by omega⟩
  obtain ⟨d3, _⟩ := W1.bad
  have hM2 := I2.out.zero.lt
  have HW := Lib.hid hw2
  have hNw1 := W1.ltN
  clear W1 K1 c0 l0 hw2 kA b1 b2 b3 b4 b5
  unfold tokV
  go_upto_region 15 with fail
  rw [← HW.out]
  clear HW d3
  obtain ⟨d3, _⟩ := I2.out.wk.bad
  go_wp2_with fail
  go_loopg [5, 6] 19 (fun f kv kk wr => ∃ m n : Nat, 2 ≤ m ∧ m ≤ 21 ∧ f = 21 - m ∧ kk = .int .i64 m ∧ kv = .int .i64 n ∧ n ≤ 20 ∧ Hid (kwGo x m = n) ∧ Hid (PcI N G w1.heap.size s (hd s i) (toks s k) d (0, 0) w wr))
  case atStart => exact ⟨2, 0, by omega, by omega, rfl, rfl, rfl, by omega, by simp [Hid, kwGo], I2⟩
  case round =>
    obtain ⟨m, n, hm1, hm2, rfl, rfl, rfl, hn, hkn, I⟩ := hrel
    by_cases hlt : m ≤ 20
    · have g1 : decide ((m : Int) ≤ 20) = true := decide_eq_true (by omega)
      obtain ⟨x0, x1, x2, x3, _⟩ := I.out.sign.cells
      rw [HXE.out] at x1
      have arm : Hid (∀ b : Bool, ((wordAt m).toList == x.toList) = b → kwGo x (m + 1) = if b = true then m else n) := by
        intro b hb
        rw [kwGo]
        cases b with
        | true => rw [if_pos ⟨hm1, (Lib.bytes_beq_iff _ _).1 hb⟩]; rfl
        | false => rw [if_neg (fun e => (Lib.bytes_beq_false_iff _ _).1 hb e.2), hkn.out]; rfl
      have I0 := Lib.hid (I.out.quiet (Kept.refl Nix wr).drew)
      go_wp2_with fail
      go_region_with (first
        | (go_at_call 75; (with_reducible refine (Word_any m hlt _).mono ?_); rintro e w3 ⟨rfl, k3⟩; have I3 := Lib.hid (I0.out.quiet k3); obtain ⟨y0, y1, y2, y3, _⟩ := I3.out.sign.cells; rw [HXE.out] at y1; clear k3))
      all_goals
        cases hb : ((wordAt m).toList == x.toList) with
        | true =>
          have A := Lib.hid (arm.out _ hb)
          have hm20 : m ≤ 20 := hlt
          go_wp2_with fail
          go_roundg (21 - (m + 1))
          case measure => omega
          case rel => exact ⟨m + 1, m, by omega, by omega, rfl, by go_num, rfl, hm20, A, I3⟩
        | false =>
          have A := Lib.hid (arm.out _ hb)
          go_wp2_with fail
          go_roundg (21 - (m + 1))
          case measure => omega
          case rel => exact ⟨m + 1, n, by omega, by omega, rfl, by go_num, rfl, hn, A, I3⟩
    · obtain rfl : m = 21 := by omega
      have g1 : decide (((21 : Nat) : Int) ≤ 20) = false := by decide
      have hcl := hcl.out
      have hkw2 := hkw.out
      rw [hkn.out] at hcl hkw2
      clear hkw hkn
      have e : kindOf x = n := by (try simp only [isTextK, isNumK] at hcl); omega
      have hkp : Hid (headP inner s i = argTextP s k n) := by
        unfold Hid; rw [e0.out]
        have hcl' := hcl
        (try simp only [isTextK, isNumK] at hcl')
        unfold kindP; rw [e]; rw [if_neg (by omega), if_pos (by omega)]
      have bt : decide (isTextK (n : Int)) = true := decide_eq_true hcl
      have b20 : ((n : Int) == 20) = false := by simp only [isTextK] at hcl; simp; omega
      have b0 : ((n : Int) == 0) = false := by simp only [isTextK] at hcl; simp; omega
      clear hcl hkw2 e
      obtain ⟨w5, hw5⟩ : ∃ w5, w5 = wr.alloc (.cells #[.int .i64 n, .string ⟨#[]⟩, .int .i64 0, .string ⟨#[]⟩, .slice none 0 0] 24) := ⟨_, rfl⟩
      have k5 : Kept Nix wr w5 := by rw [hw5]; exact (Kept.refl _ _).alloc _
      have J5 := Lib.hid (I.out.quiet k5)
      have P5 : Hid (Five wr.heap.size (.int .i64 n) (.string ⟨#[]⟩) (.int .i64 0) (.string ⟨#[]⟩) (.slice none 0 0) w5) := by rw [hw5]; exact heap_alloc_new wr _
      have hwr : w.heap.size < wr.heap.size := I.out.zero.lt
      have hwr1 : w1.heap.size < wr.heap.size := I.out.sign.lt
      have HW5 := Lib.hid hw5
      clear k5 hw5
      go_upto_region 27 with fail
      rw [← HW5.out]
      go_wp2_with fail
      refine (texts_any n _).mono ?_
      rintro e w6 ⟨rfl, k6⟩
      rw [bt]
      replace J5 := Lib.hid (J5.out.quiet k6); replace P5 := Lib.hid (P5.out.kept k6 (fun h => h)); clear k6
      go_wp2_with fail
      have WK5 := J5.out.wk
      rw [toks_cons hks] at WK5
      replace WK5 := Lib.hid WK5
      refine (take_any N G s 40 _ _ d _ _ WK5.out hs).mono ?_
      rintro e w8 ⟨rfl, W8, K8⟩
      have h40 := take_need (c := 40) hks plain40
      rw [show ((40 : Nat) : Int) = 40 from rfl] at h40
      obtain ⟨w9, hw9⟩ : ∃ w9, w9 = w8.alloc (.cells #[.int .i64 (hd s k).kind, .string (hd s k).text, .int .i64 (hd s k).at_, .int .i64 (hd s k).stop] 58) := ⟨_, rfl⟩
      have k9 : Kept Nix w8 w9 := by rw [hw9]; exact (Kept.refl _ _).alloc _
      have X9 : Hid (Four w8.heap.size (.int .i64 (hd s k).kind) (.string (hd s k).text) (.int .i64 (hd s k).at_) (.int .i64 (hd s k).stop) w9) := by rw [hw9]; exact heap_alloc_new w8 _
      have J9 := Lib.hid ((J5.out.next hN K8 W8).quiet k9)
      have P9 := Lib.hid ((P5.out.kept K8 (by omega)).kept k9 (fun h => h))
      have hz8 := K8.size
      have hM9 := J9.out.zero.lt
      have hP9 : wr.heap.size < w9.heap.size := P9.out.lt
      have HW9 := Lib.hid hw9
      clear WK5 W8 K8 k9 hw9
      cases hnd : needP 40 s k with
      | error er =>
        rw [hnd] at h40
        dsimp only at h40
        rw [h40] at J9
        have hr : Hid (RefOk s d (headP inner s i) (pk n E0 0 E0 []) (toks s k) d er) := by
          unfold Hid; rw [hkp.out]; unfold argTextP; rw [hnd]; exact ⟨rfl, need_err hnd, Nat.le_refl _, by omega⟩
        obtain ⟨d9, _⟩ := J9.out.wk.bad
        have heb : (er.1 != 0) = true := by simpa using need_err hnd
        clear h40 hnd
        unfold tokV
        go_upto_region 29 with fail
        rw [← HW9.out]
        obtain ⟨p0, p1, p2, p3, p4, _⟩ := P9.out.cells
        obtain ⟨z0, z1, z2, z3, z4, zf⟩ := J9.out.zero.cells
        have f0 := zf 0; have f1 := zf 1; have f2 := zf 2; have f3 := zf 3; have f4 := zf 4; clear zf
        go_wp2_with fail
        exact ret_ref 2 (p := pk n E0 0 E0 []) (ka := none) (cap := 0) (S := Nix) rfl rfl J9.out.zero J9.out.wk J9.out.kept (Nat.le_refl _) hN hG hr.out ⟨e0_lt, e0_lt, len0_lt⟩ (fun b hb => hb.elim) (by unfold PatsAt; trivial)
      | ok k1 =>
        rw [hnd] at h40
        dsimp only at h40
        rw [h40] at J9
        obtain ⟨hk1, hst, _⟩ := need_stop hks plain40 hnd
        have HST := Lib.hid hst; clear hst
        replace hkp := Lib.hid (hkp.out.trans (argT_ok hnd))
        obtain ⟨d9, _⟩ := J9.out.wk.bad
        clear h40 hnd
        unfold tokV
        go_upto_region 29 with fail
        rw [← HW9.out]
        clear HW9
        go_wp2_with fail
        refine (texts_any n _).mono ?_
        rintro e w10 ⟨rfl, k10⟩
        rw [bt]
        have J10 := Lib.hid (J9.out.quiet k10); have P10 := Lib.hid (P9.out.kept k10 (fun h => h)); clear k10 d9
        have hP10 : wr.heap.size < w10.heap.size := P10.out.lt
        go_wp2_with fail
        have WK := J10.out.wk
        rw [toks_cons hk1] at WK
        refine (take_any N G s 302 _ _ d _ _ WK hs).mono ?_
        rintro e w11 ⟨rfl, W11, K11⟩
        have hy := hd_text s k1
        obtain ⟨w12, hw12⟩ : ∃ w12, w12 = w11.alloc (.cells #[.int .i64 (hd s k1).kind, .string (hd s k1).text, .int .i64 (hd s k1).at_, .int .i64 (hd s k1).stop] 58) := ⟨_, rfl⟩
        have k12 : Kept Nix w11 w12 := by rw [hw12]; exact (Kept.refl _ _).alloc _
        have X12 : Hid (Four w11.heap.size (.int .i64 (hd s k1).kind) (.string (hd s k1).text) (.int .i64 (hd s k1).at_) (.int .i64 (hd s k1).stop) w12) := by rw [hw12]; exact heap_alloc_new w11 _
        have J12 := Lib.hid ((J10.out.next hN K11 W11).quiet k12)
        have P12 := Lib.hid ((P10.out.kept K11 (by omega)).kept k12 (fun h => h))
        have hz11 := K11.size
        have HW12 := Lib.hid hw12
        clear WK W11 K11 k12 hw12
        unfold tokV
        go_upto_region 36 with fail
        rw [← HW12.out]
        clear HW12
        obtain ⟨x0', x1', x2', x3', _⟩ := X12.out.cells
        have P12' := P12.out
        obtain ⟨_, _, _, _, _, pf⟩ := P12'.cells
        have pf1 := pf 1; clear pf
        obtain ⟨w13, hw13⟩ : ∃ w13, w13 = w12.setCell ⟨wr.heap.size, 1, none⟩ (.string (hd s k1).text) := ⟨_, rfl⟩
        have P13 : Hid (Five wr.heap.size (.int .i64 n) (.string (hd s k1).text) (.int .i64 0) (.string ⟨#[]⟩) (.slice none 0 0) w13) := by
          rw [hw13]; unfold Hid Five; rw [row_setCell P12']; rfl
        have J13 : Hid (PcI N G w1.heap.size s (hd s i) (takeR s 302 (hd s k1) (tl s k1) (0, 0)).1 d (takeR s 302 (hd s k1) (tl s k1) (0, 0)).2 w w13) := by
          rw [hw13]; exact J12.out.store hN hG hwr (by omega) 1 _
        have X13 : Hid (Four w11.heap.size (.int .i64 (hd s k1).kind) (.string (hd s k1).text) (.int .i64 (hd s k1).at_) (.int .i64 (hd s k1).stop) w13) := by
          rw [hw13]; exact X12.out.kept ((Kept.refl (· = wr.heap.size) w12).setCell (p := ⟨wr.heap.size, 1, none⟩) (.inl rfl) _) (by omega)
        have HW13 := Lib.hid hw13
        clear hw13 P12'
        go_upto_region 37 with fail
        rw [← HW13.out]
        clear HW13 x0' x1' x2' x3' pf1
        obtain ⟨x0', x1', x2', x3', _⟩ := X13.out.cells
        obtain ⟨p0, p1, p2, p3, p4, _⟩ := P13.out.cells
        obtain ⟨y, r, hl⟩ : ∃ y r, (takeR s 302 (hd s k1) (tl s k1) (0, 0)).1 = y :: r := by
          cases hT : (takeR s 302 (hd s k1) (tl s k1) (0, 0)).1 with
          | nil => exact absurd hT J13.out.wk.nonnil
          | cons y r => exact ⟨y, r, rfl⟩
        have hr : Hid (RefOk s d (headP inner s i) (pk n (hd s k1).text 0 E0 []) (takeR s 41 y r (textB s k1)).1 d (takeR s 41 y r (textB s k1)).2) := by
          unfold Hid; rw [hkp.out]; exact text_close hk1 hd2 hl
        have J13' := J13.out
        rw [hl] at J13'
        have hP13 : wr.heap.size < w13.heap.size := P13.out.lt
        by_cases hz : (hd s k1).text.size = 0
        · have hb : ((((hd s k1).text.size : Nat) : Int) == 0) = true := by rw [beq_iff_eq]; omega
          have eb : textB s k1 = stopB (takeR s 302 (hd s k1) (tl s k1) (0, 0)).2 (8, (hd s k1).at_) := if_pos hz
          rw [eb] at hr
          replace J13 := Lib.hid J13'
          clear J13' hl eb hz
          go_wp2_with fail
          refine (stop_at N G s _ d _ (8, (hd s k1).at_) _ rfl _ J13.out.wk).mono ?_
          rintro e w14 ⟨rfl, W14, K14⟩
          have J14 := Lib.hid (J13.out.next hN K14 W14); have P14 := Lib.hid (P13.out.kept K14 (by omega))
          have hz14 := K14.size
          clear W14 K14
          go_wp2_with fail
          refine (take_any N G s 41 y r d _ _ J14.out.wk hs).mono ?_
          rintro e w15 ⟨rfl, W15, K15⟩
          have J15 := Lib.hid (J14.out.next hN K15 W15); have P15 := Lib.hid (P14.out.kept K15 (by omega))
          have hM15 := J15.out.zero.lt
          clear W15 K15 p0 p1 p2 p3 p4
          obtain ⟨p0, p1, p2, p3, p4, _⟩ := P15.out.cells
          obtain ⟨z0, z1, z2, z3, z4, zf⟩ := J15.out.zero.cells
          have f0 := zf 0; have f1 := zf 1; have f2 := zf 2; have f3 := zf 3; have f4 := zf 4; clear zf
          unfold tokV
          go_wp2_with fail
          exact ret_ref 2 (p := pk n (hd s k1).text 0 E0 []) (ka := none) (cap := 0) (S := Nix) rfl rfl J15.out.zero J15.out.wk J15.out.kept (Nat.le_refl _) hN hG hr.out ⟨by show (hd s k1).text.size < _; omega, e0_lt, len0_lt⟩ (fun b hb => hb.elim) (by unfold PatsAt; trivial)
        · have hb : ((((hd s k1).text.size : Nat) : Int) == 0) = false := by rw [beq_eq_false_iff_ne]; omega
          have eb : textB s k1 = (takeR s 302 (hd s k1) (tl s k1) (0, 0)).2 := if_neg hz
          rw [eb] at hr
          replace J13 := Lib.hid J13'
          clear J13' hl eb hz
          go_wp2_with fail
          refine (take_any N G s 41 y r d _ _ J13.out.wk hs).mono ?_
          rintro e w15 ⟨rfl, W15, K15⟩
          have J15 := Lib.hid (J13.out.next hN K15 W15); have P15 := Lib.hid (P13.out.kept K15 (by omega))
          have hM15 := J15.out.zero.lt
          clear W15 K15 p0 p1 p2 p3 p4
          obtain ⟨p0, p1, p2, p3, p4, _⟩ := P15.out.cells
          obtain ⟨z0, z1, z2, z3, z4, zf⟩ := J15.out.zero.cells
          have f0 := zf 0; have f1 := zf 1; have f2 := zf 2; have f3 := zf 3; have f4 := zf 4; clear zf
          unfold tokV
          go_wp2_with fail
          exact ret_ref 2 (p := pk n (hd s k1).text 0 E0 []) (ka := none) (cap := 0) (S := Nix) rfl rfl J15.out.zero J15.out.wk J15.out.kept (Nat.le_refl _) hN hG hr.out ⟨by show (hd s k1).text.size < _; omega, e0_lt, len0_lt⟩ (fun b hb => hb.elim) (by unfold PatsAt; trivial)
end Go.Proofs.Ytdnglicgmlldlaa
namespace Go.Proofs.Ytdnglicgmlldlaa
open Go.RowKit

theorem foldl_valS : ∀ (l : List UInt8) (n : Nat), n ≤ 655369 → l.foldl valS n ≤ 655369
  | [], n, h => h
  | c :: l, n, h => foldl_valS l _ (valS_le n c h)
theorem valB_le (t : ByteArray) : valB t ≤ 655369 := foldl_valS _ 0 (by omega)

set_option maxRecDepth 100000 in
set_option maxHeartbeats 2000000 in
theorem piece_num (N G : Nat) (s : ByteArray) (i d : Nat) (w : World) (inner : Nat → Res PatT) (hcl : isNumK (kwGo (hd s i).text 21)) (h : Wk N G s (toks s i) d (0, 0) w) (hi : i ≤ s.size) (hs : s.size ≤ 65536) (hd2 : d ≤ 200) (hc : 65 ≤ peek s (skip s i) ∧ peek s (skip s i) ≤ 90) :
    Calls Try.prog 62 #[.pointer (some ⟨N, 0, none⟩)] w (RefPost N G s d (headP inner s i) w) := by
  have hN := h.ltN; have hG := h.lt; have hne := h.ne
  have hx := hd_text s i
  obtain ⟨hc1, hc2⟩ := hc
  have hk0 : (hd s i).kind = 303 := (kind_word s i).2 ⟨hc1, hc2⟩
  have hk1 : (hd s i).kind ≠ 40 := by omega
  have hk2 : (hd s i).kind ≠ 302 := by omega
  have hk3 : (hd s i).kind ≠ 301 := by omega
  have hk4 : (hd s i).kind ≠ 64 := by omega
  have hk5 : (hd s i).kind ≠ 42 := by omega
  obtain ⟨x, a, k, ew⟩ : ∃ x a k, wordP s i = .ok ((x, a), k) := ⟨_, _, _, if_pos ⟨hc1, hc2⟩⟩
  have hwk := word_ok hi ew
  have hks : k ≤ s.size := hwk.2.1
  have hT := take_word hi
  rw [ew] at hT
  obtain ⟨hxe, hae, hT⟩ := hT
  replace hT := Lib.hid hT
  have e0 : Hid (headP inner s i = kindP inner s a k (kindOf x)) := by
    unfold Hid; rw [head_no hi (by omega)]; unfold primaryP; rw [if_neg (by omega), if_neg (by omega), if_neg (by omega)]; unfold wdP; rw [word_skip hi, ew]
  have hkw := Lib.hid (kw_kind x hwk.2.2.2.2)
  have HXE := Lib.hid hxe; have HAE := Lib.hid hae
  have hxs : x.size ≤ s.size := hwk.2.2.1
  have has : a ≤ s.size := hwk.2.2.2.1
  clear ew hwk hk0 hc1 hc2 hxe hae
  rw [HXE.out] at hcl
  replace hcl := Lib.hid hcl
  obtain ⟨o, n, c, c0, l0⟩ := h.kind hi
  have b1 : ((hd s i).kind == 40) = false := by simp; omega
  have b2 : ((hd s i).kind == 302) = false := by simp; omega
  have b3 : ((hd s i).kind == 301) = false := by simp; omega
  have b4 : ((hd s i).kind == 64) = false := by simp; omega
  have b5 : ((hd s i).kind == 42) = false := by simp; omega
  have H1 := h.kept ((Kept.refl Nix w).alloc (.cells #[.int .i64 0, .string ⟨#[]⟩, .int .i64 0, .string ⟨#[]⟩, .slice none 0 0] 24)) (fun h => h) (fun h => h)
  rw [toks_cons hi] at H1
  have HH := Lib.hid H1
  clear h H1 hk1 hk2 hk3 hk4 hk5
  go_enter Try.func62, Try.ntmps62
  go_wp2_with fail
  refine (take_any N G s 303 (hd s i) (tl s i) d _ _ HH.out hs).mono ?_
  rintro e w1 ⟨rfl, W1, K1⟩
  rw [hT.out] at W1
  obtain ⟨w2, hw2⟩ : ∃ w2, w2 = w1.alloc (.cells #[.int .i64 (hd s i).kind, .string (hd s i).text, .int .i64 (hd s i).at_, .int .i64 (hd s i).stop] 58) := ⟨_, rfl⟩
  have kA : Kept Nix w1 w2 := by rw [hw2]; exact (Kept.refl _ _).alloc _
  have hz1 := K1.size
  simp at hz1
  have I2 : Hid (PcI N G w1.heap.size s (hd s i) (toks s k) d (0, 0) w w2) := ⟨W1.kept kA (fun h => h) (fun h => h), Five.kept (Five.kept (heap_alloc_new w _) K1 (by omega)) kA (fun h => h), by rw [hw2]; exact heap_alloc_new w1 _, (((Kept.refl _ w).alloc _).trans K1).quiet kA, by omega⟩
  obtain ⟨d3, _⟩ := W1.bad
  have hM2 := I2.out.zero.lt
  have HW := Lib.hid hw2
  have hNw1 := W1.ltN
  clear W1 K1 c0 l0 hw2 kA b1 b2 b3 b4 b5
  unfold tokV
  go_upto_region 15 with fail
  rw [← HW.out]
  clear HW d3
  obtain ⟨d3, _⟩ := I2.out.wk.bad
  go_wp2_with fail
  go_loopg [5, 6] 19 (fun f kv kk wr => ∃ m n : Nat, 2 ≤ m ∧ m ≤ 21 ∧ f = 21 - m ∧ kk = .int .i64 m ∧ kv = .int .i64 n ∧ n ≤ 20 ∧ Hid (kwGo x m = n) ∧ Hid (PcI N G w1.heap.size s (hd s i) (toks s k) d (0, 0) w wr))
  case atStart => exact ⟨2, 0, by omega, by omega, rfl, rfl, rfl, by omega, by simp [Hid, kwGo], I2⟩
  case round =>
    obtain ⟨m, n, hm1, hm2, rfl, rfl, rfl, hn, hkn, I⟩ := hrel
    by_cases hlt : m ≤ 20
    · have g1 : decide ((m : Int) ≤ 20) = true := decide_eq_true (by omega)
      obtain ⟨x0, x1, x2, x3, _⟩ := I.out.sign.cells
      rw [HXE.out] at x1
      have arm : Hid (∀ b : Bool, ((wordAt m).toList == x.toList) = b → kwGo x (m + 1) = if b = true then m else n) := by
        intro b hb
        rw [kwGo]
        cases b with
        | true => rw [if_pos ⟨hm1, (Lib.bytes_beq_iff _ _).1 hb⟩]; rfl
        | false => rw [if_neg (fun e => (Lib.bytes_beq_false_iff _ _).1 hb e.2), hkn.out]; rfl
      have I0 := Lib.hid (I.out.quiet (Kept.refl Nix wr).drew)
      go_wp2_with fail
      go_region_with (first
        | (go_at_call 75; (with_reducible refine (Word_any m hlt _).mono ?_); rintro e w3 ⟨rfl, k3⟩; have I3 := Lib.hid (I0.out.quiet k3); obtain ⟨y0, y1, y2, y3, _⟩ := I3.out.sign.cells; rw [HXE.out] at y1; clear k3))
      all_goals
        cases hb : ((wordAt m).toList == x.toList) with
        | true =>
          have A := Lib.hid (arm.out _ hb)
          have hm20 : m ≤ 20 := hlt
          go_wp2_with fail
          go_roundg (21 - (m + 1))
          case measure => omega
          case rel => exact ⟨m + 1, m, by omega, by omega, rfl, by go_num, rfl, hm20, A, I3⟩
        | false =>
          have A := Lib.hid (arm.out _ hb)
          go_wp2_with fail
          go_roundg (21 - (m + 1))
          case measure => omega
          case rel => exact ⟨m + 1, n, by omega, by omega, rfl, by go_num, rfl, hn, A, I3⟩
    · obtain rfl : m = 21 := by omega
      have g1 : decide (((21 : Nat) : Int) ≤ 20) = false := by decide
      have hcl := hcl.out
      have hkw2 := hkw.out
      rw [hkn.out] at hcl hkw2
      clear hkw hkn
      have e : kindOf x = n := by (try simp only [isTextK, isNumK] at hcl); omega
      have hkp : Hid (headP inner s i = argNumP s k n) := by
        unfold Hid; rw [e0.out]
        have hcl' := hcl
        (try simp only [isTextK, isNumK] at hcl')
        unfold kindP; rw [e]; rw [if_neg (by omega), if_neg (by omega), if_pos (by omega)]
      have bt : decide (isTextK (n : Int)) = false := decide_eq_false (by simp only [isTextK, isNumK] at hcl ⊢; omega)
      have bn : decide (isNumK (n : Int)) = true := decide_eq_true hcl
      have b20 : ((n : Int) == 20) = false := by simp only [isNumK] at hcl; simp; omega
      have b0 : ((n : Int) == 0) = false := by simp only [isNumK] at hcl; simp; omega
      clear hcl hkw2 e
      obtain ⟨w5, hw5⟩ : ∃ w5, w5 = wr.alloc (.cells #[.int .i64 n, .string ⟨#[]⟩, .int .i64 0, .string ⟨#[]⟩, .slice none 0 0] 24) := ⟨_, rfl⟩
      have k5 : Kept Nix wr w5 := by rw [hw5]; exact (Kept.refl _ _).alloc _
      have J5 := Lib.hid (I.out.quiet k5)
      have P5 : Hid (Five wr.heap.size (.int .i64 n) (.string ⟨#[]⟩) (.int .i64 0) (.string ⟨#[]⟩) (.slice none 0 0) w5) := by rw [hw5]; exact heap_alloc_new wr _
      have hwr : w.heap.size < wr.heap.size := I.out.zero.lt
      have hwr1 : w1.heap.size < wr.heap.size := I.out.sign.lt
      have HW5 := Lib.hid hw5
      clear k5 hw5
      go_upto_region 27 with fail
      rw [← HW5.out]
      go_wp2_with fail
      refine (texts_any n _).mono ?_
      rintro e w6 ⟨rfl, k6⟩
      rw [bt]
      replace J5 := Lib.hid (J5.out.quiet k6); replace P5 := Lib.hid (P5.out.kept k6 (fun h => h)); clear k6
      go_wp2_with fail
      refine (numbers_any n _).mono ?_
      rintro e w7 ⟨rfl, k7⟩
      rw [bn]
      replace J5 := Lib.hid (J5.out.quiet k7); replace P5 := Lib.hid (P5.out.kept k7 (fun h => h)); clear k7
      go_wp2_with fail
      have WK5 := J5.out.wk
      rw [toks_cons hks] at WK5
      replace WK5 := Lib.hid WK5
      refine (take_any N G s 40 _ _ d _ _ WK5.out hs).mono ?_
      rintro e w8 ⟨rfl, W8, K8⟩
      have h40 := take_need (c := 40) hks plain40
      rw [show ((40 : Nat) : Int) = 40 from rfl] at h40
      obtain ⟨w9, hw9⟩ : ∃ w9, w9 = w8.alloc (.cells #[.int .i64 (hd s k).kind, .string (hd s k).text, .int .i64 (hd s k).at_, .int .i64 (hd s k).stop] 58) := ⟨_, rfl⟩
      have k9 : Kept Nix w8 w9 := by rw [hw9]; exact (Kept.refl _ _).alloc _
      have X9 : Hid (Four w8.heap.size (.int .i64 (hd s k).kind) (.string (hd s k).text) (.int .i64 (hd s k).at_) (.int .i64 (hd s k).stop) w9) := by rw [hw9]; exact heap_alloc_new w8 _
      have J9 := Lib.hid ((J5.out.next hN K8 W8).quiet k9)
      have P9 := Lib.hid ((P5.out.kept K8 (by omega)).kept k9 (fun h => h))
      have hz8 := K8.size
      have hM9 := J9.out.zero.lt
      have hP9 : wr.heap.size < w9.heap.size := P9.out.lt
      have HW9 := Lib.hid hw9
      clear WK5 W8 K8 k9 hw9
      cases hnd : needP 40 s k with
      | error er =>
        rw [hnd] at h40
        dsimp only at h40
        rw [h40] at J9
        have hr : Hid (RefOk s d (headP inner s i) (pk n E0 0 E0 []) (toks s k) d er) := by
          unfold Hid; rw [hkp.out]; unfold argNumP; rw [hnd]; exact ⟨rfl, need_err hnd, Nat.le_refl _, by omega⟩
        obtain ⟨d9, _⟩ := J9.out.wk.bad
        have heb : (er.1 != 0) = true := by simpa using need_err hnd
        clear h40 hnd
        unfold tokV
        go_upto_region 29 with fail
        rw [← HW9.out]
        obtain ⟨p0, p1, p2, p3, p4, _⟩ := P9.out.cells
        obtain ⟨z0, z1, z2, z3, z4, zf⟩ := J9.out.zero.cells
        have f0 := zf 0; have f1 := zf 1; have f2 := zf 2; have f3 := zf 3; have f4 := zf 4; clear zf
        go_wp2_with fail
        exact ret_ref 2 (p := pk n E0 0 E0 []) (ka := none) (cap := 0) (S := Nix) rfl rfl J9.out.zero J9.out.wk J9.out.kept (Nat.le_refl _) hN hG hr.out ⟨e0_lt, e0_lt, len0_lt⟩ (fun b hb => hb.elim) (by unfold PatsAt; trivial)
      | ok k1 =>
        rw [hnd] at h40
        dsimp only at h40
        rw [h40] at J9
        obtain ⟨hk1, hst, _⟩ := need_stop hks plain40 hnd
        have HST := Lib.hid hst; clear hst
        replace hkp := Lib.hid (hkp.out.trans (argN_ok hnd))
        obtain ⟨d9, _⟩ := J9.out.wk.bad
        clear h40 hnd
        unfold tokV
        go_upto_region 29 with fail
        rw [← HW9.out]
        clear HW9
        go_wp2_with fail
        refine (texts_any n _).mono ?_
        rintro e w10 ⟨rfl, k10⟩
        rw [bt]
        have J10 := Lib.hid (J9.out.quiet k10); have P10 := Lib.hid (P9.out.kept k10 (fun h => h)); clear k10 d9
        have hP10 : wr.heap.size < w10.heap.size := P10.out.lt
        go_wp2_with fail
        have WK := J10.out.wk
        rw [toks_cons hk1] at WK
        have hat : (hd s k1).at_ ≤ 65536 := by rw [hd_at hk1]; have := skip_le hk1; omega
        refine (rnumber_any N G s _ _ d _ _ WK hs (by have := hd_text s k1; omega) hat).mono ?_
        rintro e w11 ⟨rfl, W11, K11⟩
        have J11 := Lib.hid (J10.out.next hN K11 W11)
        have P11 := Lib.hid (P10.out.kept K11 (by omega))
        obtain ⟨_, _, _, _, _, pf⟩ := P11.out.cells
        have pf2 := pf 2; clear pf WK W11 K11
        obtain ⟨v, hv⟩ : ∃ v : Nat, v = (numR s (hd s k1) (tl s k1) (0, 0)).1 := ⟨_, rfl⟩
        obtain ⟨w13, hw13⟩ : ∃ w13, w13 = w11.setCell ⟨wr.heap.size, 2, none⟩ (.int .i64 v) := ⟨_, rfl⟩
        have P13 : Hid (Five wr.heap.size (.int .i64 n) (.string ⟨#[]⟩) (.int .i64 v) (.string ⟨#[]⟩) (.slice none 0 0) w13) := by
          rw [hw13]; unfold Hid Five; rw [row_setCell P11.out]; rfl
        have J13 : Hid (PcI N G w1.heap.size s (hd s i) (takeR s 304 (hd s k1) (tl s k1) (0, 0)).1 d (numR s (hd s k1) (tl s k1) (0, 0)).2 w w13) := by
          rw [hw13]; exact J11.out.store hN hG hwr (by omega) 2 _
        have HW13 := Lib.hid hw13
        obtain ⟨y, r, hl⟩ : ∃ y r, (takeR s 304 (hd s k1) (tl s k1) (0, 0)).1 = y :: r := by
          cases hT : (takeR s 304 (hd s k1) (tl s k1) (0, 0)).1 with
          | nil => exact absurd hT J13.out.wk.nonnil
          | cons y r => exact ⟨y, r, rfl⟩
        have hr : Hid (RefOk s d (headP inner s i) (pk n E0 v E0 []) (takeR s 41 y r (numR s (hd s k1) (tl s k1) (0, 0)).2).1 d (takeR s 41 y r (numR s (hd s k1) (tl s k1) (0, 0)).2).2) := by
          unfold Hid; rw [hkp.out, hv]; exact num_close hk1 hd2 hl
        have J13' := J13.out
        rw [hl] at J13'
        replace J13 := Lib.hid J13'
        have hP13 : wr.heap.size < w13.heap.size := P13.out.lt
        rw [← hv]
        have hvb : v ≤ 655369 := by rw [hv]; unfold numR; split
                                    · exact Nat.zero_le _
                                    · exact valB_le _
        clear J13' hl hw13 hv
        go_upto_region 40 with fail
        rw [← HW13.out]
        clear HW13 pf2
        go_wp2_with fail
        refine (take_any N G s 41 y r d _ _ J13.out.wk hs).mono ?_
        rintro e w15 ⟨rfl, W15, K15⟩
        have J15 := Lib.hid (J13.out.next hN K15 W15); have P15 := Lib.hid (P13.out.kept K15 (by omega))
        have hM15 := J15.out.zero.lt
        clear W15 K15
        obtain ⟨p0, p1, p2, p3, p4, _⟩ := P15.out.cells
        obtain ⟨z0, z1, z2, z3, z4, zf⟩ := J15.out.zero.cells
        have f0 := zf 0; have f1 := zf 1; have f2 := zf 2; have f3 := zf 3; have f4 := zf 4; clear zf
        unfold tokV
        go_wp2_with fail
        exact ret_ref 2 (p := pk n E0 v E0 []) (ka := none) (cap := 0) (S := Nix) rfl rfl J15.out.zero J15.out.wk J15.out.kept (Nat.le_refl _) hN hG hr.out ⟨e0_lt, e0_lt, len0_lt⟩ (fun b hb => hb.elim) (by unfold PatsAt; trivial)
end Go.Proofs.Ytdnglicgmlldlaa
namespace Go.Proofs.Ytdnglicgmlldlaa
open Go.RowKit

theorem pats_one {g : Nat} {q : PatT} {ka : Option Addr} {cap : Nat} {w : World} {S : Nat → Prop} (F : Five g (.int .i64 q.kind) (.string q.text) (.int .i64 q.n) (.string q.name) (.slice ka q.kids.length cap) w) (hz : q.text.size < 1000000000 ∧ q.name.size < 1000000000 ∧ q.kids.length < 1000000000) (hk : PatsAt w S ka q.kids) :
    PatsAt w (fun b => S b ∨ b = g) (some ⟨g, 0, none⟩) [q] := by
  obtain ⟨c0, c1, c2, c3, c4, _⟩ := F.cells
  unfold PatsAt
  refine ⟨g, 0, rfl, ?_, by unfold PatsAt; trivial⟩
  obtain ⟨k, t, n, nm, kids⟩ := q
  unfold PatAt
  exact ⟨.inr rfl, hz, c0, c1, c2, c3, ka, cap, c4, PatsAt.same (fun _ _ => rfl) (fun b h => .inl h) _ _ hk⟩

set_option maxRecDepth 100000 in
set_option maxHeartbeats 2000000 in
theorem piece_arbno (N G : Nat) (s : ByteArray) (i d : Nat) (w : World) (inner : Nat → Res PatT) (ha : DeepR N G s d inner) (hcl : kwGo (hd s i).text 21 = 20) (h : Wk N G s (toks s i) d (0, 0) w) (hi : i ≤ s.size) (hs : s.size ≤ 65536) (hd2 : d ≤ 200) (hc : 65 ≤ peek s (skip s i) ∧ peek s (skip s i) ≤ 90) :
    Calls Try.prog 62 #[.pointer (some ⟨N, 0, none⟩)] w (RefPost N G s d (headP inner s i) w) := by
  have hN := h.ltN; have hG := h.lt; have hne := h.ne
  have hx := hd_text s i
  obtain ⟨hc1, hc2⟩ := hc
  have hk0 : (hd s i).kind = 303 := (kind_word s i).2 ⟨hc1, hc2⟩
  have hk1 : (hd s i).kind ≠ 40 := by omega
  have hk2 : (hd s i).kind ≠ 302 := by omega
  have hk3 : (hd s i).kind ≠ 301 := by omega
  have hk4 : (hd s i).kind ≠ 64 := by omega
  have hk5 : (hd s i).kind ≠ 42 := by omega
  obtain ⟨x, a, k, ew⟩ : ∃ x a k, wordP s i = .ok ((x, a), k) := ⟨_, _, _, if_pos ⟨hc1, hc2⟩⟩
  have hwk := word_ok hi ew
  have hks : k ≤ s.size := hwk.2.1
  have hT := take_word hi
  rw [ew] at hT
  obtain ⟨hxe, hae, hT⟩ := hT
  replace hT := Lib.hid hT
  have e0 : Hid (headP inner s i = kindP inner s a k (kindOf x)) := by
    unfold Hid; rw [head_no hi (by omega)]; unfold primaryP; rw [if_neg (by omega), if_neg (by omega), if_neg (by omega)]; unfold wdP; rw [word_skip hi, ew]
  have hkw := Lib.hid (kw_kind x hwk.2.2.2.2)
  have HXE := Lib.hid hxe; have HAE := Lib.hid hae
  have hxs : x.size ≤ s.size := hwk.2.2.1
  have has : a ≤ s.size := hwk.2.2.2.1
  clear ew hwk hk0 hc1 hc2 hxe hae
  rw [HXE.out] at hcl
  replace hcl := Lib.hid hcl
  obtain ⟨o, n, c, c0, l0⟩ := h.kind hi
  have b1 : ((hd s i).kind == 40) = false := by simp; omega
  have b2 : ((hd s i).kind == 302) = false := by simp; omega
  have b3 : ((hd s i).kind == 301) = false := by simp; omega
  have b4 : ((hd s i).kind == 64) = false := by simp; omega
  have b5 : ((hd s i).kind == 42) = false := by simp; omega
  have H1 := h.kept ((Kept.refl Nix w).alloc (.cells #[.int .i64 0, .string ⟨#[]⟩, .int .i64 0, .string ⟨#[]⟩, .slice none 0 0] 24)) (fun h => h) (fun h => h)
  rw [toks_cons hi] at H1
  have HH := Lib.hid H1
  clear h H1 hk1 hk2 hk3 hk4 hk5
  go_enter Try.func62, Try.ntmps62
  go_wp2_with fail
  refine (take_any N G s 303 (hd s i) (tl s i) d _ _ HH.out hs).mono ?_
  rintro e w1 ⟨rfl, W1, K1⟩
  rw [hT.out] at W1
  obtain ⟨w2, hw2⟩ : ∃ w2, w2 = w1.alloc (.cells #[.int .i64 (hd s i).kind, .string (hd s i).text, .int .i64 (hd s i).at_, .int .i64 (hd s i).stop] 58) := ⟨_, rfl⟩
  have kA : Kept Nix w1 w2 := by rw [hw2]; exact (Kept.refl _ _).alloc _
  have hz1 := K1.size
  simp at hz1
  have I2 : Hid (PcI N G w1.heap.size s (hd s i) (toks s k) d (0, 0) w w2) := ⟨W1.kept kA (fun h => h) (fun h => h), Five.kept (Five.kept (heap_alloc_new w _) K1 (by omega)) kA (fun h => h), by rw [hw2]; exact heap_alloc_new w1 _, (((Kept.refl _ w).alloc _).trans K1).quiet kA, by omega⟩
  obtain ⟨d3, _⟩ := W1.bad
  have hM2 := I2.out.zero.lt
  have HW := Lib.hid hw2
  have hNw1 := W1.ltN
  clear W1 K1 c0 l0 hw2 kA b1 b2 b3 b4 b5
  unfold tokV
  go_upto_region 15 with fail
  rw [← HW.out]
  clear HW d3
  obtain ⟨d3, _⟩ := I2.out.wk.bad
  go_wp2_with fail
  go_loopg [5, 6] 19 (fun f kv kk wr => ∃ m n : Nat, 2 ≤ m ∧ m ≤ 21 ∧ f = 21 - m ∧ kk = .int .i64 m ∧ kv = .int .i64 n ∧ n ≤ 20 ∧ Hid (kwGo x m = n) ∧ Hid (PcI N G w1.heap.size s (hd s i) (toks s k) d (0, 0) w wr))
  case atStart => exact ⟨2, 0, by omega, by omega, rfl, rfl, rfl, by omega, by simp [Hid, kwGo], I2⟩
  case round =>
    obtain ⟨m, n, hm1, hm2, rfl, rfl, rfl, hn, hkn, I⟩ := hrel
    by_cases hlt : m ≤ 20
    · have g1 : decide ((m : Int) ≤ 20) = true := decide_eq_true (by omega)
      obtain ⟨x0, x1, x2, x3, _⟩ := I.out.sign.cells
      rw [HXE.out] at x1
      have arm : Hid (∀ b : Bool, ((wordAt m).toList == x.toList) = b → kwGo x (m + 1) = if b = true then m else n) := by
        intro b hb
        rw [kwGo]
        cases b with
        | true => rw [if_pos ⟨hm1, (Lib.bytes_beq_iff _ _).1 hb⟩]; rfl
        | false => rw [if_neg (fun e => (Lib.bytes_beq_false_iff _ _).1 hb e.2), hkn.out]; rfl
      have I0 := Lib.hid (I.out.quiet (Kept.refl Nix wr).drew)
      go_wp2_with fail
      go_region_with (first
        | (go_at_call 75; (with_reducible refine (Word_any m hlt _).mono ?_); rintro e w3 ⟨rfl, k3⟩; have I3 := Lib.hid (I0.out.quiet k3); obtain ⟨y0, y1, y2, y3, _⟩ := I3.out.sign.cells; rw [HXE.out] at y1; clear k3))
      all_goals
        cases hb : ((wordAt m).toList == x.toList) with
        | true =>
          have A := Lib.hid (arm.out _ hb)
          have hm20 : m ≤ 20 := hlt
          go_wp2_with fail
          go_roundg (21 - (m + 1))
          case measure => omega
          case rel => exact ⟨m + 1, m, by omega, by omega, rfl, by go_num, rfl, hm20, A, I3⟩
        | false =>
          have A := Lib.hid (arm.out _ hb)
          go_wp2_with fail
          go_roundg (21 - (m + 1))
          case measure => omega
          case rel => exact ⟨m + 1, n, by omega, by omega, rfl, by go_num, rfl, hn, A, I3⟩
    · obtain rfl : m = 21 := by omega
      have g1 : decide (((21 : Nat) : Int) ≤ 20) = false := by decide
      have hcl := hcl.out
      have hkw2 := hkw.out
      rw [hkn.out] at hcl hkw2
      clear hkw hkn
      have e : kindOf x = n := by (try simp only [isTextK, isNumK] at hcl); omega
      have hkp : Hid (headP inner s i = argPatP inner s k n) := by
        unfold Hid; rw [e0.out]
        have hcl' := hcl
        (try simp only [isTextK, isNumK] at hcl')
        unfold kindP; rw [e]; rw [if_neg (by omega), if_neg (by omega), if_neg (by omega), if_pos (by omega)]
      have bt : decide (isTextK (n : Int)) = false := decide_eq_false (by simp only [isTextK]; omega)
      have bn : decide (isNumK (n : Int)) = false := decide_eq_false (by simp only [isNumK]; omega)
      have b20 : ((n : Int) == 20) = true := by simp; omega
      have b0 : ((n : Int) == 0) = false := by simp; omega
      have HA := Lib.hid ha
      clear hcl hkw2 e
      obtain ⟨w5, hw5⟩ : ∃ w5, w5 = wr.alloc (.cells #[.int .i64 n, .string ⟨#[]⟩, .int .i64 0, .string ⟨#[]⟩, .slice none 0 0] 24) := ⟨_, rfl⟩
      have k5 : Kept Nix wr w5 := by rw [hw5]; exact (Kept.refl _ _).alloc _
      have J5 := Lib.hid (I.out.quiet k5)
      have P5 : Hid (Five wr.heap.size (.int .i64 n) (.string ⟨#[]⟩) (.int .i64 0) (.string ⟨#[]⟩) (.slice none 0 0) w5) := by rw [hw5]; exact heap_alloc_new wr _
      have hwr : w.heap.size < wr.heap.size := I.out.zero.lt
      have hwr1 : w1.heap.size < wr.heap.size := I.out.sign.lt
      have HW5 := Lib.hid hw5
      clear k5 hw5
      go_upto_region 27 with fail
      rw [← HW5.out]
      go_wp2_with fail
      refine (texts_any n _).mono ?_
      rintro e w6 ⟨rfl, k6⟩
      rw [bt]
      replace J5 := Lib.hid (J5.out.quiet k6); replace P5 := Lib.hid (P5.out.kept k6 (fun h => h)); clear k6
      go_wp2_with fail
      refine (numbers_any n _).mono ?_
      rintro e w7 ⟨rfl, k7⟩
      rw [bn]
      replace J5 := Lib.hid (J5.out.quiet k7); replace P5 := Lib.hid (P5.out.kept k7 (fun h => h)); clear k7
      go_wp2_with fail
      have WK5 := J5.out.wk
      rw [toks_cons hks] at WK5
      replace WK5 := Lib.hid WK5
      refine (take_any N G s 40 _ _ d _ _ WK5.out hs).mono ?_
      rintro e w8 ⟨rfl, W8, K8⟩
      have h40 := take_need (c := 40) hks plain40
      rw [show ((40 : Nat) : Int) = 40 from rfl] at h40
      obtain ⟨w9, hw9⟩ : ∃ w9, w9 = w8.alloc (.cells #[.int .i64 (hd s k).kind, .string (hd s k).text, .int .i64 (hd s k).at_, .int .i64 (hd s k).stop] 58) := ⟨_, rfl⟩
      have k9 : Kept Nix w8 w9 := by rw [hw9]; exact (Kept.refl _ _).alloc _
      have X9 : Hid (Four w8.heap.size (.int .i64 (hd s k).kind) (.string (hd s k).text) (.int .i64 (hd s k).at_) (.int .i64 (hd s k).stop) w9) := by rw [hw9]; exact heap_alloc_new w8 _
      have J9 := Lib.hid ((J5.out.next hN K8 W8).quiet k9)
      have P9 := Lib.hid ((P5.out.kept K8 (by omega)).kept k9 (fun h => h))
      have hz8 := K8.size
      have hM9 := J9.out.zero.lt
      have hP9 : wr.heap.size < w9.heap.size := P9.out.lt
      have HW9 := Lib.hid hw9
      clear WK5 W8 K8 k9 hw9
      cases hnd : needP 40 s k with
      | error er =>
        rw [hnd] at h40
        dsimp only at h40
        rw [h40] at J9
        have hr : Hid (RefOk s d (headP inner s i) (pk n E0 0 E0 []) (toks s k) d er) := by
          unfold Hid; rw [hkp.out]; unfold argPatP; rw [hnd]; exact ⟨rfl, need_err hnd, Nat.le_refl _, by omega⟩
        obtain ⟨d9, _⟩ := J9.out.wk.bad
        have heb : (er.1 != 0) = true := by simpa using need_err hnd
        clear h40 hnd
        unfold tokV
        go_upto_region 29 with fail
        rw [← HW9.out]
        obtain ⟨p0, p1, p2, p3, p4, _⟩ := P9.out.cells
        obtain ⟨z0, z1, z2, z3, z4, zf⟩ := J9.out.zero.cells
        have f0 := zf 0; have f1 := zf 1; have f2 := zf 2; have f3 := zf 3; have f4 := zf 4; clear zf
        go_wp2_with fail
        exact ret_ref 2 (p := pk n E0 0 E0 []) (ka := none) (cap := 0) (S := Nix) rfl rfl J9.out.zero J9.out.wk J9.out.kept (Nat.le_refl _) hN hG hr.out ⟨e0_lt, e0_lt, len0_lt⟩ (fun b hb => hb.elim) (by unfold PatsAt; trivial)
      | ok k1 =>
        rw [hnd] at h40
        dsimp only at h40
        rw [h40] at J9
        obtain ⟨hk1, hst, _⟩ := need_stop hks plain40 hnd
        have HST := Lib.hid hst; clear hst
        replace hkp := Lib.hid (hkp.out.trans (argP_ok hnd))
        obtain ⟨d9, _⟩ := J9.out.wk.bad
        clear h40 hnd
        unfold tokV
        go_upto_region 29 with fail
        rw [← HW9.out]
        clear HW9
        obtain ⟨x0', x1', x2', x3', _⟩ := X9.out.cells
        go_wp2_with fail
        refine (HA.out k1 (hd s k) _ HST.out J9.out.wk hk1).mono ?_
        rintro e w10 ⟨q, _, l, d', b, rfl, ⟨S, hS, ⟨ka, cap, rfl, hz, hk⟩⟩, W10, R10, K10⟩
        have J10 := Lib.hid (J9.out.next hN K10 W10); have P10 := Lib.hid (P9.out.kept K10 (by omega))
        have hz10 := K10.size
        have hP10 : wr.heap.size < w10.heap.size := P10.out.lt
        obtain ⟨_, _, _, _, _, pf⟩ := P10.out.cells
        have pf4 := pf 4; clear pf
        obtain ⟨w11, hw11⟩ : ∃ w11, w11 = (w10.setCell ⟨wr.heap.size, 4, none⟩ (.slice (some ⟨w10.heap.size, 0, none⟩) 1 1)).alloc (.cells #[.int .i64 q.kind, .string q.text, .int .i64 q.n, .string q.name, .slice ka q.kids.length cap] 24) := ⟨_, rfl⟩
        have k11 : Kept (· = wr.heap.size) w10 w11 := by rw [hw11]; exact ((Kept.refl (· = wr.heap.size) w10).setCell (p := ⟨wr.heap.size, 4, none⟩) (.inl rfl) _).alloc _
        have P11 : Hid (Five wr.heap.size (.int .i64 n) (.string ⟨#[]⟩) (.int .i64 0) (.string ⟨#[]⟩) (.slice (some ⟨w10.heap.size, 0, none⟩) 1 1) w11) := by
          rw [hw11]; refine Five.kept ?_ ((Kept.refl Nix _).alloc _) (fun h => h)
          unfold Five; rw [row_setCell P10.out]; rfl
        have J11 : Hid (PcI N G w1.heap.size s (hd s i) l d' b w w11) := by
          rw [hw11]; exact (J10.out.store hN hG hwr (by omega) 4 _).quiet ((Kept.refl Nix _).alloc _)
        have Q11 : Five w10.heap.size (.int .i64 q.kind) (.string q.text) (.int .i64 q.n) (.string q.name) (.slice ka q.kids.length cap) w11 := by rw [hw11]; exact heap_new2 (by simp [World.setCell])
        have QQ : Hid (PatsAt w11 (fun b => S b ∨ b = w10.heap.size) (some ⟨w10.heap.size, 0, none⟩) [q]) := pats_one Q11 hz (hk.kept k11 (fun b hb => ⟨(hS b hb).2, by have := (hS b hb).1; omega⟩))
        have hr : Hid (RefOk s d (headP inner s i) (pk n E0 0 E0 [q]) l d' b) := by unfold Hid; rw [hkp.out]; exact pat_close R10
        have hM11 := J11.out.zero.lt
        have h11 : w11.heap.size = w10.heap.size + 1 := by rw [hw11]; simp [World.setCell]
        have HS := Lib.hid hS
        have hSS : Hid (∀ b', (S b' ∨ b' = w10.heap.size) → w.heap.size ≤ b' ∧ b' < w11.heap.size ∧ b' ≠ w.heap.size) := by
          intro b' hb
          rcases hb with hb | rfl
          · have := HS.out b' hb; omega
          · omega
        have HW11 := Lib.hid hw11
        clear W10 K10 hS hz hk R10 hw11 k11 Q11
        go_upto_region 33 with fail
        rw [← HW11.out]
        clear HW11 pf4
        obtain ⟨p0, p1, p2, p3, p4, _⟩ := P11.out.cells
        obtain ⟨z0, z1, z2, z3, z4, zf⟩ := J11.out.zero.cells
        have f0 := zf 0; have f1 := zf 1; have f2 := zf 2; have f3 := zf 3; have f4 := zf 4; clear zf
        go_wp2_with fail
        exact ret_ref 2 (p := pk n E0 0 E0 [q]) (ka := some ⟨w10.heap.size, 0, none⟩) (cap := 1) (S := fun b => S b ∨ b = w10.heap.size) rfl rfl J11.out.zero J11.out.wk J11.out.kept (Nat.le_refl _) hN hG hr.out ⟨e0_lt, e0_lt, len1_lt q⟩ hSS.out QQ.out
end Go.Proofs.Ytdnglicgmlldlaa
namespace Go.Proofs.Ytdnglicgmlldlaa
open Go.RowKit

theorem piece_any (N G : Nat) (s : ByteArray) (d : Nat) (inner : Nat → Res PatT) (ha : DeepR N G s d inner) (hs : s.size ≤ 65536) (hd2 : d ≤ 200) : PieceOk N G s d (headP inner s) := by
  intro i w h hi
  by_cases h1 : peek s (skip s i) = 40
  · exact piece_deep N G s i d w inner ha h hi hs h1
  · by_cases h2 : peek s (skip s i) = 39
    · exact piece_lit N G s i d w inner h hi hs hd2 h2
    · by_cases h3 : peek s (skip s i) = 64
      · exact piece_cursor N G s i d w inner h hi hs hd2 h3
      · by_cases h4 : peek s (skip s i) = 42
        · exact piece_call N G s i d w inner h hi hs hd2 h4
        · by_cases h5 : 65 ≤ peek s (skip s i) ∧ peek s (skip s i) ≤ 90
          · by_cases c0 : kwGo (hd s i).text 21 = 0
            · exact piece_none N G s i d w inner c0 h hi hs hd2 h5
            · by_cases c1 : isTextK (kwGo (hd s i).text 21)
              · exact piece_text N G s i d w inner c1 h hi hs hd2 h5
              · by_cases c2 : isNumK (kwGo (hd s i).text 21)
                · exact piece_num N G s i d w inner c2 h hi hs hd2 h5
                · by_cases c3 : kwGo (hd s i).text 21 = 20
                  · exact piece_arbno N G s i d w inner ha c3 h hi hs hd2 h5
                  · exact piece_plain N G s i d w inner ⟨c0, c1, c2, c3⟩ h hi hs hd2 h5
          · exact piece_bad N G s i d w inner h hi hs hd2 ⟨h1, h2, h3, h4, h5⟩
end Go.Proofs.Ytdnglicgmlldlaa
namespace Go.Proofs.Ytdnglicgmlldlaa
open Go.RowKit

/-- The pattern p in the five cells of block B, while names are given to it. -/
structure ItemW (N G B : Nat) (s : ByteArray) (l : List Tok) (d : Nat) (b : Er) (w : World) (p : PatT) (ka : Option Addr) (cap : Nat) (wx : World) : Prop where
  wk : Wk N G s l d b wx
  five : Five B (.int .i64 p.kind) (.string p.text) (.int .i64 p.n) (.string p.name) (.slice ka p.kids.length cap) wx
  mem : ∃ S : Nat → Prop, PatsAt wx S ka p.kids ∧ ∀ b, S b → w.heap.size < b ∧ b < wx.heap.size ∧ b ≠ B
  sz : p.text.size < 1000000000 ∧ p.name.size < 1000000000 ∧ p.kids.length < 1000000000
  zero : Zero5 w.heap.size wx
  kept : Kept (· = N) w wx
  hB : w.heap.size < B
theorem ItemW.next {N G B : Nat} {s : ByteArray} {l l' : List Tok} {d d' : Nat} {b b' : Er} {w wx w' : World} {p : PatT} {ka : Option Addr} {cap : Nat} (h : ItemW N G B s l d b w p ka cap wx) (hN : N < w.heap.size) (hk : Kept (· = N) wx w') (hr : Wk N G s l' d' b' w') : ItemW N G B s l' d' b' w p ka cap w' := by
  obtain ⟨S, h1, h2⟩ := h.mem
  have hB := h.hB
  exact ⟨hr, h.five.kept hk (by omega), ⟨S, h1.kept hk (fun b hb => ⟨(h2 b hb).2.1, by have := h2 b hb; omega⟩), fun b hb => ⟨(h2 b hb).1, Nat.lt_of_lt_of_le (h2 b hb).2.1 hk.size, (h2 b hb).2.2⟩⟩, h.sz, Five.kept h.zero hk (by omega), h.kept.trans hk, hB⟩
theorem ItemW.quiet {N G B : Nat} {s : ByteArray} {l : List Tok} {d : Nat} {b : Er} {w wx w' : World} {p : PatT} {ka : Option Addr} {cap : Nat} (h : ItemW N G B s l d b w p ka cap wx) (hN : N < w.heap.size) (hk : Kept Nix wx w') : ItemW N G B s l d b w p ka cap w' :=
  h.next hN (hk.more fun _ h => h.elim) (h.wk.kept hk (fun h => h) (fun h => h))
theorem giftW_after {N G B : Nat} {s : ByteArray} {l : List Tok} {d : Nat} {b : Er} {w w2 : World} {p : PatT} {ka : Option Addr} {cap : Nat} {nm : ByteArray} {box : Obj} (hbox : box = .cells #[.int .i64 p.kind, .string p.text, .int .i64 p.n, .string p.name, .slice ka p.kids.length cap] 24)
    (hN : N < w.heap.size) (hG : G < w.heap.size) (hnm : nm.size < 1000000000) (I : ItemW N G B s l d b w p ka cap w2) (kd : Int) :
    ItemW N G B s l d b w (.mk kd E0 0 nm [p]) (some ⟨w2.heap.size, 0, none⟩) 1 ((set5 w2 B (.int .i64 kd) (.string E0) (.int .i64 0) (.string nm) (.slice (some ⟨w2.heap.size, 0, none⟩) 1 1)).alloc box) := by
  subst hbox
  have hP := I.five.lt
  have hB := I.hB
  obtain ⟨S, h1, h2⟩ := I.mem
  have V : PatV w2 S (.agg #[.int .i64 p.kind, .string p.text, .int .i64 p.n, .string p.name, .slice ka p.kids.length cap]) p := ⟨ka, cap, rfl, I.sz, h1⟩
  obtain ⟨cc, hcc, hb⟩ := V.box 24 (fun b hb => (h2 b hb).2.1)
  simp only [Value.agg.injEq] at hcc
  subst hcc
  have k5 : Kept (· = B) w2 (set5 w2 B (.int .i64 kd) (.string E0) (.int .i64 0) (.string nm) (.slice (some ⟨w2.heap.size, 0, none⟩) 1 1)) := (Kept.refl (· = B) w2).set5 (.inl rfl) _ _ _ _ _
  have K := alloc_same (.cells #[.int .i64 p.kind, .string p.text, .int .i64 p.n, .string p.name, .slice ka p.kids.length cap] 24) k5 (set5_size _ _ _ _ _ _ _)
  have kA : Kept Nix w2 (w2.alloc (.cells #[.int .i64 p.kind, .string p.text, .int .i64 p.n, .string p.name, .slice ka p.kids.length cap] 24)) := (Kept.refl _ _).alloc _
  have hz := kA.size
  refine ⟨(I.wk.kept kA (fun h => h) (fun h => h)).kept K (by omega) (by omega), (I.five.set5 _ _ _ _ _).kept ((Kept.refl Nix _).alloc _) (fun h => h), ⟨fun b => S b ∨ b = w2.heap.size, (PatsAt_one hb).kept K (fun b hb => ?_), fun b hb => ?_⟩, ⟨e0_lt, hnm, len1_lt p⟩, Five.kept (Five.kept I.zero kA (fun h => h)) K (by omega), (I.kept.quiet kA).step K (fun y hy => .inr (by omega)), hB⟩
  · rcases hb with hb | rfl
    · have := h2 b hb; simp; omega
    · simp; omega
  · rcases hb with hb | rfl
    · have := h2 b hb; simp [set5_size]; omega
    · simp [set5_size]; omega
theorem giftW_ahead {N G B : Nat} {s : ByteArray} {l : List Tok} {d : Nat} {b : Er} {w w1 w2 : World} {p : PatT} {ka : Option Addr} {cap : Nat} {nm : ByteArray}
    (hN : N < w.heap.size) (hG : G < w.heap.size) (hnm : nm.size < 1000000000) (h1 : B < w1.heap.size) (I : ItemW N G B s l d b w p ka cap w2)
    (F : Five w1.heap.size (.int .i64 p.kind) (.string p.text) (.int .i64 p.n) (.string p.name) (.slice ka p.kids.length cap) w2) (kd : Int) :
    ItemW N G B s l d b w (.mk kd E0 0 nm [p]) (some ⟨w1.heap.size, 0, none⟩) 1 (set5 w2 B (.int .i64 kd) (.string E0) (.int .i64 0) (.string nm) (.slice (some ⟨w1.heap.size, 0, none⟩) 1 1)) := by
  obtain ⟨S, hs1, h2⟩ := I.mem
  have hF := F.lt
  have hB := I.hB
  have K : Kept (· = B) w2 (set5 w2 B (.int .i64 kd) (.string E0) (.int .i64 0) (.string nm) (.slice (some ⟨w1.heap.size, 0, none⟩) 1 1)) := (Kept.refl (· = B) w2).set5 (.inl rfl) _ _ _ _ _
  refine ⟨I.wk.kept K (by omega) (by omega), I.five.set5 _ _ _ _ _, ⟨fun b => S b ∨ b = w1.heap.size, (pats_one F I.sz hs1).kept K (fun b hb => ?_), fun b hb => ?_⟩, ⟨e0_lt, hnm, len1_lt p⟩, Five.kept I.zero K (by omega), I.kept.step K (fun y hy => .inr (by omega)), hB⟩
  · rcases hb with hb | rfl
    · have := h2 b hb; omega
    · omega
  · rw [set5_size]
    rcases hb with hb | rfl
    · exact h2 b hb
    · omega
/-- How far the giving of names has come: r is the whole. -/
def GState (s : ByteArray) (r : Res PatT) (d : Nat) (f : Nat) (p : PatT) (l : List Tok) (d' : Nat) (b : Er) : Prop :=
  (b = (0, 0) ∧ d' = d ∧ ∃ k, s.size + 1 - k ≤ f ∧ k ≤ s.size ∧ l = toks s k ∧ r = giftsP s f p k) ∨ (b.1 ≠ 0 ∧ d ≤ d' ∧ d' ≤ 201 ∧ r = .error b)
theorem name_fwd {s : ByteArray} {i k : Nat} {nm : ByteArray} (hi : i ≤ s.size) (h : nameP s i = .ok (nm, k)) : i < k ∧ k ≤ s.size := name_ok hi h
theorem gift_step {s : ByteArray} {r : Res PatT} {d f : Nat} {p : PatT} {k : Nat} {kd : Int} (hd2 : d ≤ 200) (hf : s.size + 1 - k ≤ f + 1) (hk : k ≤ s.size) (hc : (peek s (skip s k) = 46 ∧ kd = 21) ∨ (peek s (skip s k) = 36 ∧ kd = 22)) (E : r = giftsP s (f + 1) p k) :
    GState s r d f (.mk kd E0 0 (hd s (skip s k + 1)).text [p]) (takeR s 303 (hd s (skip s k + 1)) (tl s (skip s k + 1)) (0, 0)).1 d (nameB s (hd s (skip s k + 1)) (tl s (skip s k + 1)) (0, 0)) := by
  have hj : skip s k < s.size := peek_lt (by omega)
  have h0 := skip_ge s k
  have hN := take_name (s := s) (i := skip s k + 1) (by omega)
  have hr : r = match nameP s (skip s k + 1) with
      | .error e => .error e
      | .ok (nm, k1) => giftsP s f (.mk kd E0 0 nm [p]) k1 := by
    rw [E, giftsP]
    rcases hc with ⟨h1, rfl⟩ | ⟨h1, rfl⟩
    · have e : isP 46 s k = (true, skip s k + 1) := if_pos h1
      rw [e, if_pos rfl]
      cases nameP s (skip s k + 1) <;> rfl
    · have e : isP 46 s k = (false, skip s k) := if_neg (by rw [h1]; decide)
      have e2 : isP 36 s (skip s k) = (true, skip s k + 1) := by unfold isP; rw [skip_idem s k hk]; exact if_pos h1
      rw [e, if_neg (by simp)]
      dsimp only
      rw [e2, if_pos rfl]
      cases nameP s (skip s k + 1) <;> rfl
  cases hn : nameP s (skip s k + 1) with
  | error er =>
    rw [hn] at hN hr
    refine .inr ?_
    rw [hN]
    exact ⟨name_err hn, Nat.le_refl _, by omega, hr⟩
  | ok y =>
    obtain ⟨nm, k1⟩ := y
    rw [hn] at hN hr
    obtain ⟨h1, h2, h3⟩ := hN
    have hk1 := name_ok (show skip s k + 1 ≤ s.size by omega) hn
    refine .inl ⟨h2, rfl, k1, by omega, hk1.2, h3, ?_⟩
    rw [h1]; exact hr
theorem gift_end {s : ByteArray} {r : Res PatT} {d f : Nat} {p : PatT} {k : Nat} (hk : k ≤ s.size) (h1 : peek s (skip s k) ≠ 46) (h2 : peek s (skip s k) ≠ 36) (E : r = giftsP s (f + 1) p k) : RefOk s d r p (toks s k) d (0, 0) := by
  have e : isP 46 s k = (false, skip s k) := if_neg h1
  have e2 : isP 36 s (skip s k) = (false, skip s k) := by unfold isP; rw [skip_idem s k hk]; exact if_neg h2
  rw [giftsP, e, if_neg (by simp)] at E
  dsimp only at E
  rw [e2, if_neg (by simp)] at E
  rw [E]
  exact ⟨rfl, (toks_skip hk).symm, rfl, rfl⟩
theorem comes_gift (kd : Int) : (⟨#[46, 36]⟩ : ByteArray).data.toList.any (comesAt kd) = (decide (kd = 46) || decide (kd = 36)) := by
  rw [Bool.eq_iff_iff]; simp [comesAt]
theorem plain46 : Plain 46 := by unfold Plain; decide
theorem plain36 : Plain 36 := by unfold Plain; decide
end Go.Proofs.Ytdnglicgmlldlaa
