/- The program's reader of lines: primary: a number. The program's reader of lines: how much is read (pure); all of an expression, by the levels left. -/
import Derived.Test.YtlnhcgihpclpaaaGreatDoorPs16
namespace Go.Proofs.YtlnhcgihpclpaaaGreatDoor
set_option linter.all false
open Go.RowKit

theorem Kept.ofBelow {w w' : World} (b : Below w.heap.size w w') : Kept Nix w w' := ⟨b.os, b.tape, b.output, b.size, fun k hk _ => b.block k hk⟩
theorem head0 {x : ByteArray} (h : 0 < x.size) : x.data.toList.head? = some x[0] := by
  obtain ⟨⟨l⟩⟩ := x
  cases l with
  | nil => simp [ByteArray.size] at h
  | cons c r => rfl
theorem numT_zero {t : LTok} {r : List LTok} (h : 0 < t.text.size) (h1 : 1 < t.text.size) (h2 : t.text[0].toNat = 48) : numT t r = .error (2, t.at_) := by
  unfold numT; rw [if_pos ⟨h1, by rw [head0 h]; congr 1; exact UInt8.toNat_inj.1 h2⟩]
theorem numT_else {t : LTok} {r : List LTok} (h : 0 < t.text.size) (h1 : ¬ (1 < t.text.size ∧ t.text[0].toNat = 48)) : numT t r = if 9223372036854775807 < numV t.text.data.toList then .error (3, t.at_) else .ok (.mk 2 E0 (numV t.text.data.toList) E0 [], r) := by
  unfold numT; rw [if_neg (fun ⟨a, b⟩ => h1 ⟨a, by rw [head0 h] at b; simp only [Option.some.injEq] at b; rw [b]; rfl⟩)]
set_option maxRecDepth 100000 in
set_option maxHeartbeats 8000000 in
theorem lprim_num {N T en d : Nat} {ex pr : List LTok → TRes PatT} {t : LTok} {r : List LTok} {w : World} (h : PsR N T en (t :: r) d w) (hk : t.kind = 2) : Calls Tryz.prog 103 #[.pointer (some ⟨N, 0, none⟩)] w (XQ N T en d (primT ex pr en (t :: r)) w) := by
  have er : Hid (primT ex pr en (t :: r) = numT t r) := by unfold Hid primT; rw [sign_not5 (by omega), sign_not5 (by omega)]; simp only [takeT, hk, if_true, if_false, Bool.false_eq_true, show ¬ ((2 : Int) = 3) by decide]
  have S1 : Hid (signT ⟨#[40]⟩ (t :: r) = false) := sign_not5 (by omega)
  have S2 : Hid (signT ⟨#[36]⟩ (t :: r) = false) := sign_not5 (by omega)
  have TK : Hid (takeT 2 en (t :: r) = .ok (t, r)) := takeT_cons hk
  have HK := Lib.hid hk
  have hgood : t.at_ ≤ 1000000 ∧ t.text.size ≤ 1000000 ∧ (readQ t.text).2.2 ≤ 1000000 ∧ (t.kind = 2 → t.text.size ≠ 0 ∧ ∀ c ∈ t.text.data.toList, 48 ≤ c.toNat ∧ c.toNat ≤ 57) ∧ (t.kind = 1 → t.text.size ≠ 0) := by obtain ⟨_, _, _, h⟩ := h; exact h.good t (List.mem_cons_self ..)
  obtain ⟨_, htb, _, hdig, _⟩ := hgood
  obtain ⟨hd0, hd1⟩ := hdig hk
  have HPI := Lib.hid (parseI t.text.data.toList (fun e => hd0 (by rw [ByteArray.size, ← Array.length_toList, e]; rfl)) hd1)
  have htp : 0 < t.text.size := by omega
  clear hd0 hd1 hdig
  obtain ⟨hN, hT, hne, h7⟩ := h.ltN
  obtain ⟨w0, hw0⟩ : ∃ w0, w0 = w.alloc (.cells #[.int .i64 0, .string ⟨#[]⟩, .int .i64 0, .string ⟨#[]⟩, .slice none 0 0] 44) := ⟨_, rfl⟩
  have k0 : Kept Nix w w0 := by rw [hw0]; exact (Kept.refl _ _).alloc _
  obtain ⟨M2, hM2⟩ : ∃ M, M = w.heap.size := ⟨_, rfl⟩
  have Z0 : Hid (FivE M2 (.int .i64 0) (.string ⟨#[]⟩) (.int .i64 0) (.string ⟨#[]⟩) (.slice none 0 0) w0) := by rw [hw0, hM2]; exact heap_alloc_new w _
  have R0 := Lib.hid (h.kept k0 (fun h => h) (fun h => h))
  have K0 : Hid (Kept (· = N) w w0) := k0.more (fun _ h => h.elim)
  have HW0 := Lib.hid hw0; have HM2 := Lib.hid hM2
  clear k0 hw0 hM2 h hk
  go_enter Tryz.func103, Tryz.ntmps103
  go_upto_region 1 with fail
  rw [← HW0.out, ← HM2.out]
  go_upto_region 12 with (first
    | (go_at_call 46; (with_reducible refine (lis_no ⟨#[40]⟩ R0.out S1.out).mono ?_); rintro e w1 ⟨rfl, r1_, k1_⟩; have R1 := Lib.hid r1_; have K1 : Hid (Kept (· = N) w w1) := K0.out.trans k1_; have Z1 := Lib.hid (Z0.out.kept k1_ (by have := HM2.out; omega)); clear r1_ k1_)
    | (go_at_call 46; (with_reducible refine (lis_no ⟨#[36]⟩ R1.out S2.out).mono ?_); rintro e w2 ⟨rfl, r2_, k2_⟩; have R2 := Lib.hid r2_; have K2 : Hid (Kept (· = N) w w2) := K1.out.trans k2_; have Z2 := Lib.hid (Z1.out.kept k2_ (by have := HM2.out; omega)); clear r2_ k2_))
  obtain ⟨n2, a2, c2, hP⟩ := R2.out
  obtain ⟨c0, c1, cd, cf⟩ := hP.c0
  have hn := hP.num
  rw [List.length_cons] at hn
  have h0 : 0 < n2 := by omega
  have h1 : (0 : Int) < (n2 : Int) := by omega
  have z : decide ((0 : Int) < (n2 : Int)) = true := decide_eq_true h1
  have z' : decide (0 < n2) = true := decide_eq_true h0
  obtain ⟨o, rfl, t0, t1, t2⟩ := hP.head
  have y : (t.kind == 3) = false := by rw [HK.out]; rfl
  have y2 : (t.kind == 2) = true := by rw [HK.out]; rfl
  clear hn hP cf
  go_upto_region 15 with fail
  clear c0 c1 cd t0 t1 t2 y y2 z z'
  go_upto_region 16 with (go_at_call 65; (refine (ltake_any 2 R2.out).mono ?_); intro e w3 h3_; obtain ⟨k3_, he_, r3_⟩ := h3_.ok TK.out; unfold ltV at he_; subst he_; have R3 := Lib.hid r3_; have K3 : Hid (Kept (· = N) w w3) := K2.out.trans k3_; have Z3 := Lib.hid (Z2.out.kept k3_ (by have := HM2.out; omega)); clear r3_ k3_ h3_)
  obtain ⟨w4, hw4⟩ : ∃ w4, w4 = w3.alloc (.cells #[.int .i64 t.kind, .string t.text, .int .i64 t.at_] 87) := ⟨_, rfl⟩
  have T4 : Hid (Thr w3.heap.size t w4) := by rw [hw4]; exact heap_alloc_new w3 _
  have k4 : Kept Nix w3 w4 := by rw [hw4]; exact (Kept.refl _ _).alloc _
  have R4 := Lib.hid (R3.out.kept k4 (fun h => h) (fun h => h))
  have K4 : Hid (Kept (· = N) w w4) := K3.out.trans (k4.more (fun _ h => h.elim))
  have Z4 := Lib.hid (Z3.out.kept k4 (fun h => h))
  rw [← hw4]
  obtain ⟨M, hM⟩ : ∃ M, M = w3.heap.size := ⟨_, rfl⟩
  rw [← hM] at T4 ⊢
  clear hw4 k4 hM
  obtain ⟨t0, t1, t2, _⟩ := T4.out.cells
  have bi : (0 : Int) < (t.text.size : Int) := by omega
  by_cases h1 : 1 < t.text.size
  · have d1 : decide ((1 : Int) < (t.text.size : Int)) = true := decide_eq_true (by omega)
    have d2 : decide (1 < t.text.size) = true := decide_eq_true h1
    by_cases h2 : t.text[0].toNat = 48
    · have y : ((t.text[0].toNat : Int) == 48) = true := by rw [h2]; rfl
      have er2 : Hid (primT ex pr en (t :: r) = .error (2, t.at_)) := by unfold Hid; rw [er.out, numT_zero htp h1 h2]
      clear h2 er
      go_wp2_with (go_at_call 48; (refine (lfail_any _ 2 t.at_ w4).mono ?_); rintro e w6 ⟨rfl, rfl⟩)
      exact ⟨rfl, XQ.thrown K4.out (Kept.refl _ _) er2.out⟩
    · have y : ((t.text[0].toNat : Int) == 48) = false := by simp; omega
      have er2 : Hid (primT ex pr en (t :: r) = if 9223372036854775807 < numV t.text.data.toList then .error (3, t.at_) else .ok (.mk 2 E0 (numV t.text.data.toList) E0 [], r)) := by unfold Hid; rw [er.out, numT_else htp (fun ⟨_, b⟩ => h2 b)]
      clear h2 er
      go_upto_region 18 with fail
      by_cases hle : numV t.text.data.toList ≤ 9223372036854775807
      · have er3 : Hid (primT ex pr en (t :: r) = .ok (.mk 2 E0 (numV t.text.data.toList) E0 [], r)) := by unfold Hid; rw [er2.out, if_neg (by omega)]
        have HPA := Lib.hid (HPI.out.1 hle)
        clear hle er2
        go_upto_region 21 with (go_at_call 105; (refine (Tryz.strconv_ParseInt_10_at64_ok t.text (by omega) _ HPA.out w4).mono ?_); rintro e w5 ⟨rfl, hw5_⟩; have k5 : Kept Nix w4 w5 := (by rcases hw5_ with rfl | ⟨_, rfl⟩; exact Kept.refl _ _; exact Kept.ofBelow (Lib.bytesWorld_below _ _ _)); have R5 := Lib.hid (R4.out.kept k5 (fun h => h) (fun h => h)); have K5 : Hid (Kept (· = N) w w5) := K4.out.trans (k5.more (fun _ h => h.elim)); have Z5 := Lib.hid (Z4.out.kept k5 (fun h => h)); clear k5 hw5_)
        obtain ⟨z0, z1, z2, z3, z4, zf⟩ := Z5.out.cells
        have zf0 := zf 0; have zf1 := zf 1; have zf2 := zf 2; have zf3 := zf 3; have zf4 := zf 4
        clear zf t0 t1 t2
        go_wp2_with fail
        exact ret_lexp 2 rfl rfl (Z5.out.set5 _ _ _ _ _) (leaf_fin Z5.out K5.out R5.out HM2.out hN hT (by decide) (by decide) er3.out)
      · have er3 : Hid (primT ex pr en (t :: r) = .error (3, t.at_)) := by unfold Hid; rw [er2.out, if_pos (by omega)]
        have HPA := Lib.hid (HPI.out.2 (by omega))
        obtain ⟨ev, hev1, hev2⟩ : RngAt w4 := by obtain ⟨_, _, _, h⟩ := R4.out; exact h.rng
        have HE1 := Lib.hid hev1; have HE2 := Lib.hid hev2
        clear hle er2 hev1 hev2
        go_wp2_with (first
          | (go_at_call 105; (refine (Tryz.strconv_ParseInt_10_at64_range t.text (by omega) HPA.out ev w4 HE1.out HE2.out).mono ?_); rintro e w5 ⟨np, rfl, -, -, hb5_⟩; have k5 := Kept.ofBelow hb5_; have K5 : Hid (Kept (· = N) w4 w5) := k5.more (fun _ h => h.elim); have T5 := T4.out.kept k5 (fun h => h); obtain ⟨u0, u1, u2, _⟩ := T5.cells; clear T5 k5 hb5_)
          | (go_at_call 48; (refine (lfail_any _ 3 t.at_ _).mono ?_); rintro e w6 ⟨rfl, rfl⟩))
        exact ⟨rfl, XQ.thrown K4.out K5.out er3.out⟩
  · have d1 : decide ((1 : Int) < (t.text.size : Int)) = false := decide_eq_false (by omega)
    have d2 : decide (1 < t.text.size) = false := decide_eq_false h1
    have er2 : Hid (primT ex pr en (t :: r) = if 9223372036854775807 < numV t.text.data.toList then .error (3, t.at_) else .ok (.mk 2 E0 (numV t.text.data.toList) E0 [], r)) := by unfold Hid; rw [er.out, numT_else htp (fun ⟨b, _⟩ => h1 b)]
    clear h1 er
    go_upto_region 18 with fail
    by_cases hle : numV t.text.data.toList ≤ 9223372036854775807
    · have er3 : Hid (primT ex pr en (t :: r) = .ok (.mk 2 E0 (numV t.text.data.toList) E0 [], r)) := by unfold Hid; rw [er2.out, if_neg (by omega)]
      have HPA := Lib.hid (HPI.out.1 hle)
      clear hle er2
      go_upto_region 21 with (go_at_call 105; (refine (Tryz.strconv_ParseInt_10_at64_ok t.text (by omega) _ HPA.out w4).mono ?_); rintro e w5 ⟨rfl, hw5_⟩; have k5 : Kept Nix w4 w5 := (by rcases hw5_ with rfl | ⟨_, rfl⟩; exact Kept.refl _ _; exact Kept.ofBelow (Lib.bytesWorld_below _ _ _)); have R5 := Lib.hid (R4.out.kept k5 (fun h => h) (fun h => h)); have K5 : Hid (Kept (· = N) w w5) := K4.out.trans (k5.more (fun _ h => h.elim)); have Z5 := Lib.hid (Z4.out.kept k5 (fun h => h)); clear k5 hw5_)
      obtain ⟨z0, z1, z2, z3, z4, zf⟩ := Z5.out.cells
      have zf0 := zf 0; have zf1 := zf 1; have zf2 := zf 2; have zf3 := zf 3; have zf4 := zf 4
      clear zf t0 t1 t2
      go_wp2_with fail
      exact ret_lexp 2 rfl rfl (Z5.out.set5 _ _ _ _ _) (leaf_fin Z5.out K5.out R5.out HM2.out hN hT (by decide) (by decide) er3.out)
    · have er3 : Hid (primT ex pr en (t :: r) = .error (3, t.at_)) := by unfold Hid; rw [er2.out, if_pos (by omega)]
      have HPA := Lib.hid (HPI.out.2 (by omega))
      obtain ⟨ev, hev1, hev2⟩ : RngAt w4 := by obtain ⟨_, _, _, h⟩ := R4.out; exact h.rng
      have HE1 := Lib.hid hev1; have HE2 := Lib.hid hev2
      clear hle er2 hev1 hev2
      go_wp2_with (first
        | (go_at_call 105; (refine (Tryz.strconv_ParseInt_10_at64_range t.text (by omega) HPA.out ev w4 HE1.out HE2.out).mono ?_); rintro e w5 ⟨np, rfl, -, -, hb5_⟩; have k5 := Kept.ofBelow hb5_; have K5 : Hid (Kept (· = N) w4 w5) := k5.more (fun _ h => h.elim); have T5 := T4.out.kept k5 (fun h => h); obtain ⟨u0, u1, u2, _⟩ := T5.cells; clear T5 k5 hb5_)
        | (go_at_call 48; (refine (lfail_any _ 3 t.at_ _).mono ?_); rintro e w6 ⟨rfl, rfl⟩))
      exact ⟨rfl, XQ.thrown K4.out K5.out er3.out⟩
end Go.Proofs.YtlnhcgihpclpaaaGreatDoor

namespace Go.Proofs.YtlnhcgihpclpaaaGreatDoor
set_option linter.all false
open Go.RowKit

theorem takeT_len {k : Int} {en : Nat} {l r : List LTok} {t : LTok} (h : takeT k en l = .ok (t, r)) : r.length + 1 = l.length := by
  cases l with
  | nil => cases h
  | cons u v =>
    simp only [takeT] at h
    split at h
    · simp only [Except.ok.injEq, Prod.mk.injEq] at h; obtain ⟨rfl, rfl⟩ := h; rfl
    · cases h
theorem nameT_len {en : Nat} {l r : List LTok} {x : ByteArray} (h : nameT en l = .ok (x, r)) : r.length + 1 = l.length := by
  unfold nameT at h
  split at h
  · cases h
  · next t r' hh =>
    split at h
    · cases h
    · simp only [Except.ok.injEq, Prod.mk.injEq] at h; obtain ⟨rfl, rfl⟩ := h; exact takeT_len hh
theorem signT_len {x : ByteArray} {l : List LTok} (h : signT x l = true) : l.tail.length + 1 = l.length := by
  cases l with
  | nil => cases h
  | cons u v => rfl
theorem needT_len {x : ByteArray} {en : Nat} {l r : List LTok} (h : needT x en l = .ok r) : r.length + 1 = l.length := by
  unfold needT at h
  split at h
  · next hs => simp only [Except.ok.injEq] at h; subst h; exact signT_len hs
  · cases h
theorem patT_len {en : Nat} {l r : List LTok} {p : PatT} (h : patT en l = .ok (p, r)) : r.length + 1 = l.length := by
  unfold patT at h
  split at h
  · cases h
  · next t r' hh =>
    split at h
    · cases h
    · simp only [Except.ok.injEq, Prod.mk.injEq] at h; obtain ⟨rfl, rfl⟩ := h; exact takeT_len hh
/-- What is read is no more than its tokens. -/
def Meas (f : List LTok → TRes PatT) : Prop := ∀ l y r, f l = .ok (y, r) → sizeT y + r.length ≤ l.length
theorem Meas.shr {f : List LTok → TRes PatT} (h : Meas f) : Shr f := fun l y r hl => by have := h l y r hl; omega
theorem sizeT_node1 (k : Int) (x : PatT) : sizeT (node1 k x) = 1 + sizeT x := by simp [node1, sizeT, sizeL]
theorem sizeT_node2 (k : Int) (x y : PatT) : sizeT (node2 k x y) = 1 + (sizeT x + sizeT y) := by simp [node2, sizeT, sizeL]
theorem sizeL_snoc (l : List PatT) (x : PatT) : sizeL (l ++ [x]) = sizeL l + sizeT x := by
  induction l with
  | nil => simp [sizeL]
  | cons p r ih => simp only [List.cons_append, sizeL, ih]; omega
theorem chainT_meas {lev : Nat} {sub : List LTok → TRes PatT} (h : Meas sub) : ∀ (f : Nat) (x : PatT) (l : List LTok) (y : PatT) (r : List LTok), chainT lev sub f x l = .ok (y, r) → sizeT y + r.length ≤ sizeT x + l.length := by
  intro f
  induction f with
  | zero => intro x l y r hc; simp only [chainT, Except.ok.injEq, Prod.mk.injEq] at hc; obtain ⟨rfl, rfl⟩ := hc; omega
  | succ f ih =>
    intro x l y r hc
    rw [chainT] at hc
    split at hc
    · next ho =>
      split at hc
      · cases hc
      · next z r1 hz =>
        have h1 := ih _ _ _ _ hc
        have h2 := h _ _ _ hz
        rw [sizeT_node2] at h1
        cases l with
        | nil => simp [opAt] at ho
        | cons t l2 => simp only [List.tail_cons] at h2; rw [List.length_cons]; omega
    · simp only [Except.ok.injEq, Prod.mk.injEq] at hc; obtain ⟨rfl, rfl⟩ := hc; omega
theorem levT_meas {lev : Nat} {sub : List LTok → TRes PatT} (h : Meas sub) : Meas (levT lev sub) := by
  intro l y r hl
  unfold levT at hl
  split at hl
  · cases hl
  · next z r1 hz =>
    have h1 := chainT_meas h _ _ _ _ _ hl
    have h2 := h _ _ _ hz
    omega
theorem binT_meas {un : List LTok → TRes PatT} (h : Meas un) : Meas (binT un) := levT_meas (levT_meas (levT_meas h))
theorem argsT_meas {ex : List LTok → TRes PatT} {en : Nat} (h : Meas ex) : ∀ (f : Nat) (ks : List PatT) (l : List LTok) (ks2 : List PatT) (r : List LTok), argsT ex en f ks l = .ok (ks2, r) → sizeL ks2 + r.length ≤ sizeL ks + l.length := by
  intro f
  induction f with
  | zero => intro x l y r hc; simp only [argsT, Except.ok.injEq, Prod.mk.injEq] at hc; obtain ⟨rfl, rfl⟩ := hc; omega
  | succ f ih =>
    intro ks l ks2 r hc
    rw [argsT] at hc
    split at hc
    · cases hc
    · split at hc
      · cases hc
      · next x r1 hx =>
        have h2 := h _ _ _ hx
        split at hc
        · next hs =>
          simp only [Except.ok.injEq, Prod.mk.injEq] at hc; obtain ⟨rfl, rfl⟩ := hc
          have := signT_len hs
          rw [sizeL_snoc]; omega
        · split at hc
          · cases hc
          · next r2 hn =>
            have h1 := ih _ _ _ _ hc
            have := needT_len hn
            rw [sizeL_snoc] at h1; omega
theorem primT_meas {ex pr : List LTok → TRes PatT} {en : Nat} (he : Meas ex) (hp : Meas pr) : Meas (primT ex pr en) := by
  intro l y r hl
  unfold primT at hl
  split at hl
  · next hs =>
    have := signT_len hs
    split at hl
    · cases hl
    · next x r1 hx =>
      have h2 := he _ _ _ hx
      split at hl
      · cases hl
      · next r2 hn =>
        have := needT_len hn
        simp only [Except.ok.injEq, Prod.mk.injEq] at hl; obtain ⟨rfl, rfl⟩ := hl; omega
  · split at hl
    · next hs =>
      have := signT_len hs
      split at hl
      · cases hl
      · next x r1 hx =>
        have h2 := hp _ _ _ hx
        simp only [Except.ok.injEq, Prod.mk.injEq] at hl; obtain ⟨rfl, rfl⟩ := hl; rw [sizeT_node1]; omega
    · split at hl
      · next t r1 ht =>
        have := takeT_len ht
        simp only [Except.ok.injEq, Prod.mk.injEq] at hl; obtain ⟨rfl, rfl⟩ := hl; simp only [sizeT, sizeL]; omega
      · split at hl
        · next t r1 ht =>
          have := takeT_len ht
          unfold numT at hl
          split at hl
          · cases hl
          · split at hl
            · cases hl
            · simp only [Except.ok.injEq, Prod.mk.injEq] at hl; obtain ⟨rfl, rfl⟩ := hl; simp only [sizeT, sizeL]; omega
        · split at hl
          · cases hl
          · next nm r1 hn =>
            have := nameT_len hn
            split at hl
            · next hs =>
              have := signT_len hs
              split at hl
              · cases hl
              · next x r2 hx =>
                have h2 := he _ _ _ hx
                split at hl
                · cases hl
                · next r3 hn3 =>
                  have := needT_len hn3
                  simp only [Except.ok.injEq, Prod.mk.injEq] at hl; obtain ⟨rfl, rfl⟩ := hl; simp only [sizeT, sizeL]; omega
            · split at hl
              · next hs =>
                have := signT_len hs
                split at hl
                · next hs2 =>
                  have := signT_len hs2
                  simp only [Except.ok.injEq, Prod.mk.injEq] at hl; obtain ⟨rfl, rfl⟩ := hl; simp only [sizeT, sizeL]; omega
                · split at hl
                  · cases hl
                  · next ks r2 hk =>
                    have h2 := argsT_meas he _ _ _ _ _ hk
                    simp only [Except.ok.injEq, Prod.mk.injEq] at hl; obtain ⟨rfl, rfl⟩ := hl; simp only [sizeT, sizeL] at *; omega
              · simp only [Except.ok.injEq, Prod.mk.injEq] at hl; obtain ⟨rfl, rfl⟩ := hl; simp only [sizeT, sizeL]; omega
theorem unT_meas {un pr : List LTok → TRes PatT} (hu : Meas un) (hp : Meas pr) : Meas (unT un pr) := by
  intro l y r hl
  unfold unT at hl
  split at hl
  · next hs =>
    have := signT_len hs
    split at hl
    · cases hl
    · next x r1 hx =>
      have h2 := hu _ _ _ hx
      simp only [Except.ok.injEq, Prod.mk.injEq] at hl; obtain ⟨rfl, rfl⟩ := hl; rw [sizeT_node1]; omega
  · exact hp _ _ _ hl
theorem deepT_meas (en : Nat) : ∀ k, Meas (deepT en k).1 ∧ Meas (deepT en k).2
  | 0 => by
    have e : Meas (fun l => .error (4, atT en l)) := fun l y r h => by cases h
    exact ⟨unT_meas e (primT_meas e e), primT_meas e e⟩
  | k + 1 => by
    obtain ⟨h1, h2⟩ := deepT_meas en k
    exact ⟨unT_meas h1 (primT_meas (binT_meas h1) h2), primT_meas (binT_meas h1) h2⟩
theorem exprT_meas (en : Nat) : ∀ k, Meas (exprT en k)
  | 0 => by intro l y r h; rw [exprT] at h; cases h
  | k + 1 => by intro l y r h; rw [exprT] at h; exact binT_meas (deepT_meas en k).1 l y r h
/-- A piece of an expression, whatever it begins with. -/
theorem lprim_all {N T en d : Nat} {ex pr : List LTok → TRes PatT} (HE : ExOk N T en d ex) (HD : (d = 400 ∧ pr = fun l => .error (4, atT en l)) ∨ (d < 400 ∧ PrOk N T en (d + 1) pr)) : PrOk N T en d (primT ex pr en) := by
  intro l w h
  cases l with
  | nil => exact lprim_nil h
  | cons t r =>
    cases hs1 : signT (bs [40]) (t :: r) with
    | true => exact lprim_par HE h hs1
    | false =>
      cases hs2 : signT (bs [36]) (t :: r) with
      | true =>
        rcases HD with ⟨hd, rfl⟩ | ⟨hd, HP⟩
        · exact lprim_dol_deep (pr := fun l => .error (4, atT en l)) h hd hs2
        · exact lprim_dol_more hd HP h hs2
      | false =>
        by_cases h3 : t.kind = 3
        · exact lprim_text h h3
        · by_cases h2 : t.kind = 2
          · exact lprim_num h h2
          · cases hn : nameT en (t :: r) with
            | error e0 => exact lprim_name_bad h ⟨h3, h2⟩ hs1 hs2 hn
            | ok x =>
              obtain ⟨nm, r1⟩ := x
              cases hs3 : signT (bs [60]) r1 with
              | true => exact lprim_item h ⟨h3, h2⟩ hs1 hs2 hn HE hs3
              | false =>
                cases hs4 : signT (bs [40]) r1 with
                | false => exact lprim_name h ⟨h3, h2⟩ hs1 hs2 hn hs3 hs4
                | true =>
                  cases hs5 : signT (bs [41]) r1.tail with
                  | true => exact lprim_call0 h ⟨h3, h2⟩ hs1 hs2 hn hs3 hs4 hs5
                  | false => exact lprim_call h ⟨h3, h2⟩ hs1 hs2 hn hs3 hs4 HE hs5
theorem lun_all {N T en d : Nat} {un pr : List LTok → TRes PatT} (HP : PrOk N T en d pr) (HD : (d = 400 ∧ un = fun l => .error (4, atT en l)) ∨ (d < 400 ∧ UnOk N T en (d + 1) un)) : UnOk N T en d (unT un pr) := by
  intro l w h
  cases hs : signT (bs [45]) l with
  | false => exact lun_plain HP h hs
  | true =>
    rcases HD with ⟨rfl, rfl⟩ | ⟨hd, HU⟩
    · exact lun_deep h hs
    · exact lun_more hd HU h hs
theorem lbin_all {N T en d : Nat} {un : List LTok → TRes PatT} (HU : UnOk N T en d un) (hm : Meas un) : BinOk N T en d 0 (binT un) :=
  lbin_some (by omega) (lbin_some (by omega) (lbin_some (by omega) (lbin_none HU) hm.shr) (levT_meas hm).shr) (levT_meas (levT_meas hm)).shr
theorem deep_all (N T en : Nat) : ∀ k, k ≤ 400 → UnOk N T en (400 - k) (deepT en k).1 ∧ PrOk N T en (400 - k) (deepT en k).2
  | 0, _ => by
    have HE : ExOk N T en 400 (fun l => .error (4, atT en l)) := fun l w h => lexpr_deep h
    have HP := lprim_all HE (.inl ⟨rfl, rfl⟩)
    exact ⟨lun_all HP (.inl ⟨rfl, rfl⟩), HP⟩
  | k + 1, hk => by
    obtain ⟨h1, h2⟩ := deep_all N T en k (by omega)
    have e : 400 - k = 400 - (k + 1) + 1 := by omega
    rw [e] at h1 h2
    have HB := lbin_all h1 (deepT_meas en k).1
    have HE : ExOk N T en (400 - (k + 1)) (binT (deepT en k).1) := fun l w h => lexpr_more (by omega) HB h
    have HP := lprim_all HE (.inr ⟨by omega, h2⟩)
    exact ⟨lun_all HP (.inr ⟨by omega, h1⟩), HP⟩
theorem lexpr_any (N T en : Nat) : ExOk N T en 0 (exprT en 400) := by
  intro l w h
  have HB := lbin_all (deep_all N T en 399 (by omega)).1 (deepT_meas en 399).1
  exact lexpr_more (by omega) HB h
end Go.Proofs.YtlnhcgihpclpaaaGreatDoor
