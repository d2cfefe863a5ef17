/- The program's reader of lines: primary: brackets, a sign ahead. The program's reader of lines: primary: a text, a number. The program's reader of lines: primary: a dollar ahead. -/
import Derived.Test.YtlnhcgihpclpaaaGreatDoorLm16
namespace Go.Proofs.YtlnhcgihpclpaaaGreatDoor
set_option linter.all false
open Go.RowKit

theorem NeedLQ.ok {x : ByteArray} {N T en d : Nat} {l r : List LTok} {w w' : World} {e : Ending} (h : NeedLQ x N T en l d w e w') (hr : needT x en l = .ok r) : Kept (· = N) w w' ∧ e = .returned (.tuple #[]) ∧ PsR N T en r d w' := by
  unfold NeedLQ at h; rw [hr] at h; exact ⟨h.1, h.2.1, h.2.2⟩
theorem NeedLQ.bad {x : ByteArray} {N T en d : Nat} {l : List LTok} {w w' : World} {e : Ending} {er : Er} (h : NeedLQ x N T en l d w e w') (hr : needT x en l = .error er) : Kept (· = N) w w' ∧ ThrewL er e := by
  unfold NeedLQ at h; rw [hr] at h; exact h
theorem NameLQ.ok {N T en d : Nat} {l r : List LTok} {w w' : World} {e : Ending} {x : ByteArray} (h : NameLQ N T en l d w e w') (hr : nameT en l = .ok (x, r)) : Kept (· = N) w w' ∧ e = .returned (.string x) ∧ PsR N T en r d w' := by
  unfold NameLQ at h; rw [hr] at h; exact ⟨h.1, h.2.1, h.2.2⟩
theorem NameLQ.bad {N T en d : Nat} {l : List LTok} {w w' : World} {e : Ending} {er : Er} (h : NameLQ N T en l d w e w') (hr : nameT en l = .error er) : Kept (· = N) w w' ∧ ThrewL er e := by
  unfold NameLQ at h; rw [hr] at h; exact h
theorem TakeLQ.ok {k : Int} {N T en d : Nat} {l r : List LTok} {w w' : World} {e : Ending} {t : LTok} (h : TakeLQ k N T en l d w e w') (hr : takeT k en l = .ok (t, r)) : Kept (· = N) w w' ∧ e = .returned (ltV t) ∧ PsR N T en r d w' := by
  unfold TakeLQ at h; rw [hr] at h; exact ⟨h.1, h.2.1, h.2.2⟩
theorem TakeLQ.bad {k : Int} {N T en d : Nat} {l : List LTok} {w w' : World} {e : Ending} {er : Er} (h : TakeLQ k N T en l d w e w') (hr : takeT k en l = .error er) : Kept (· = N) w w' ∧ ThrewL er e := by
  unfold TakeLQ at h; rw [hr] at h; exact h
/-- A walk's end where a callee has thrown. -/
theorem XQ.thrown {N T en d : Nat} {r : TRes PatT} {w w2 w3 : World} {er : Er} (K : Kept (· = N) w w2) (k : Kept (· = N) w2 w3) (hr : r = .error er) : XQ N T en d r w (.panicked [{ v := lineOops er, recovered := false }]) w3 := by
  subst hr; exact ⟨K.trans k, rfl⟩
/-- 'is', where its answer is known. -/
theorem lis_yes {N T en d : Nat} {l : List LTok} {w : World} (x : ByteArray) (h : PsR N T en l d w) (hs : signT x l = true) : Calls Tryz.prog 46 #[.pointer (some ⟨N, 0, none⟩), .string x] w (fun e w' => e = .returned (.bool true) ∧ PsR N T en l.tail d w' ∧ Kept (· = N) w w') := by
  refine (lis_any x h).mono ?_
  rintro e w' ⟨h1, h2, h3⟩
  rw [hs] at h1 h2
  exact ⟨h1, h2, h3⟩
theorem lis_no {N T en d : Nat} {l : List LTok} {w : World} (x : ByteArray) (h : PsR N T en l d w) (hs : signT x l = false) : Calls Tryz.prog 46 #[.pointer (some ⟨N, 0, none⟩), .string x] w (fun e w' => e = .returned (.bool false) ∧ PsR N T en l d w' ∧ Kept (· = N) w w') := by
  refine (lis_any x h).mono ?_
  rintro e w' ⟨h1, h2, h3⟩
  rw [hs] at h1 h2
  exact ⟨h1, h2, h3⟩
set_option maxRecDepth 100000 in
set_option maxHeartbeats 8000000 in
theorem lprim_par {N T en d : Nat} {ex pr : List LTok → TRes PatT} (HE : ExOk N T en d ex) {l : List LTok} {w : World} (h : PsR N T en l d w) (hs : signT (bs [40]) l = true) : Calls Tryz.prog 103 #[.pointer (some ⟨N, 0, none⟩)] w (XQ N T en d (primT ex pr en l) w) := by
  have er : Hid (primT ex pr en l = match ex l.tail with | .error er => .error er | .ok (x, r) => match needT (bs [41]) en r with | .error er => .error er | .ok r2 => .ok (x, r2)) := by unfold Hid primT; rw [if_pos hs]; rfl
  obtain ⟨hN, hT, hne, h7⟩ := h.ltN
  obtain ⟨w0, hw0⟩ : ∃ w0, w0 = w.alloc (.cells #[.int .i64 0, .string ⟨#[]⟩, .int .i64 0, .string ⟨#[]⟩, .slice none 0 0] 44) := ⟨_, rfl⟩
  have k0 : Kept Nix w w0 := by rw [hw0]; exact (Kept.refl _ _).alloc _
  obtain ⟨M2, hM2⟩ : ∃ M, M = w.heap.size := ⟨_, rfl⟩
  have Z0 : Hid (FivE M2 (.int .i64 0) (.string ⟨#[]⟩) (.int .i64 0) (.string ⟨#[]⟩) (.slice none 0 0) w0) := by rw [hw0, hM2]; exact heap_alloc_new w _
  have R0 := Lib.hid (h.kept k0 (fun h => h) (fun h => h))
  have K0 : Hid (Kept (· = N) w w0) := k0.more (fun _ h => h.elim)
  have HW0 := Lib.hid hw0; have HM2 := Lib.hid hM2
  have hsz0 : Hid (w0.heap.size = w.heap.size + 1) := by unfold Hid; rw [hw0]; simp
  have HEX := Lib.hid HE; have HS := Lib.hid hs
  clear k0 hw0 hM2 h HE hs
  go_enter Tryz.func103, Tryz.ntmps103
  go_upto_region 1 with fail
  rw [← HW0.out, ← HM2.out]
  go_upto_region 3 with (first
    | (go_at_call 46; (refine (lis_yes (bs [40]) R0.out HS.out).mono ?_); rintro e w1 ⟨rfl, r1_, k1_⟩; have R1 := Lib.hid r1_; have K1 : Hid (Kept (· = N) w w1) := K0.out.trans k1_; have Z1 := Lib.hid (Z0.out.kept k1_ (by have := HM2.out; omega)); clear r1_ k1_)
    | (go_at_call 69; (refine (HEX.out l.tail w1 R1.out).mono ?_); intro e w3 h3_; rcases hu : ex l.tail with e0 | ⟨p, r⟩; (obtain ⟨k3_, rfl⟩ := h3_.bad hu; have f_ : XQ N T en d (primT ex pr en l) w (.panicked [{ v := lineOops e0, recovered := false }]) _ := XQ.thrown K1.out k3_ (by rw [er.out, hu]); exact ⟨rfl, f_⟩); (obtain ⟨k3_, r3_, S, ka, cap, rfl, hS_, hz_, hk_⟩ := h3_.ok hu; have K3 : Hid (Kept (· = N) w w3) := K1.out.trans k3_; have I5 := Lib.hid (BinI.start (cap := cap) (Z1.out.kept k3_ (by have := HM2.out; omega)) K3.out r3_ hS_ hz_ hk_ hN K1.out.size Z1.out.lt); have L3 : Hid (w1.heap.size ≤ w3.heap.size) := k3_.size; have HU := Lib.hid hu; clear k3_ r3_ hS_ hz_ hk_ h3_ hu)))
  have hM : Hid (N ≠ M2 ∧ N ≠ w3.heap.size ∧ T ≠ M2 ∧ w.heap.size ≤ M2) := by have := HM2.out; have := K3.out.size; unfold Hid; omega
  go_upto_region 4 with (go_at_call 67; (refine (lneed_any (bs [41]) I5.out.rdr).mono ?_); intro e w6 h6_; rcases hv : needT (bs [41]) en r with e0 | r2; (obtain ⟨k6_, rfl⟩ := h6_.bad hv; have f_ : XQ N T en d (primT ex pr en l) w (.panicked [{ v := lineOops e0, recovered := false }]) _ := XQ.thrown I5.out.kept k6_ (by rw [er.out, HU.out]; dsimp only; rw [hv]); exact ⟨rfl, f_⟩); (obtain ⟨k6_, rfl, r6_⟩ := h6_.ok hv; have I6 := Lib.hid (I5.out.rdr_to hM.out.1 hM.out.2.1 k6_ r6_); have fin : Hid (primT ex pr en l = .ok (p, r2)) := (by unfold Hid; rw [er.out, HU.out]; dsimp only; rw [hv]); clear k6_ r6_ h6_ hv))
  obtain ⟨x0, x1, x2, x3, x4, _⟩ := I6.out.five.cells
  obtain ⟨z0, z1, z2, z3, z4, zf⟩ := I6.out.zero.cells
  have zf0 := zf 0; have zf1 := zf 1; have zf2 := zf 2; have zf3 := zf 3; have zf4 := zf 4
  clear zf
  go_wp2_with fail
  exact ret_lexp 2 rfl rfl (I6.out.zero.set5 _ _ _ _ _) (I6.out.fin hM.out.1 hM.out.2.2.1 hM.out.2.2.2 hN fin.out)
end Go.Proofs.YtlnhcgihpclpaaaGreatDoor

namespace Go.Proofs.YtlnhcgihpclpaaaGreatDoor
set_option linter.all false
open Go.RowKit

/-- A leaf that is handed back. -/
theorem leaf_fin {N T en d M2 : Nat} {w w3 : World} {k n : Int} {tx nm : ByteArray} {r : List LTok} {res : TRes PatT} {z0 z1 z2 z3 z4 : Value} (Z : FivE M2 z0 z1 z2 z3 z4 w3) (K : Kept (· = N) w w3) (R : PsR N T en r d w3) (hM : M2 = w.heap.size) (hN : N < w.heap.size) (hT : T < w.heap.size)
    (htx : tx.size < 1000000000) (hnm : nm.size < 1000000000) (hr : res = .ok (.mk k tx n nm [], r)) :
    XQ N T en d res w (.returned (.agg #[.int .i64 k, .string tx, .int .i64 n, .string nm, .slice none 0 0])) (set5 w3 M2 (.int .i64 k) (.string tx) (.int .i64 n) (.string nm) (.slice none 0 0)) := by
  subst hr
  have k7 : Kept (· = M2) w3 (set5 w3 M2 (.int .i64 k) (.string tx) (.int .i64 n) (.string nm) (.slice none 0 0)) := (Kept.refl (· = M2) w3).set5 (.inl rfl) _ _ _ _ _
  exact ⟨K.step k7 (fun y hy => .inr (by omega)), ⟨_, rfl, Nix, fun b hb => hb.elim, none, 0, rfl, ⟨htx, hnm, by simp [PatT.kids]⟩, by show PatsAt _ Nix none []; unfold PatsAt; trivial⟩, R.kept k7 (by omega) (by omega) (by have := R.ltN; omega)⟩
theorem takeT_cons {k : Int} {en : Nat} {t : LTok} {r : List LTok} (h : t.kind = k) : takeT k en (t :: r) = .ok (t, r) := if_pos h
theorem sign_not5 {x : ByteArray} {t : LTok} {r : List LTok} (h : t.kind ≠ 5) : signT x (t :: r) = false := decide_eq_false (fun h2 => h h2.1)
set_option maxRecDepth 100000 in
set_option maxHeartbeats 8000000 in
theorem lprim_text {N T en d : Nat} {ex pr : List LTok → TRes PatT} {t : LTok} {r : List LTok} {w : World} (h : PsR N T en (t :: r) d w) (hk : t.kind = 3) : Calls Tryz.prog 103 #[.pointer (some ⟨N, 0, none⟩)] w (XQ N T en d (primT ex pr en (t :: r)) w) := by
  have er : Hid (primT ex pr en (t :: r) = .ok (.mk 1 t.text 0 E0 [], r)) := by unfold Hid primT; rw [sign_not5 (by omega), sign_not5 (by omega), takeT_cons hk]; rfl
  have hfld : ∀ wx, (Instr.field 87 (.agg #[.int .i64 t.kind, .string t.text, .int .i64 t.at_]) 1).run Tryz.prog wx = .ok (.string t.text) wx := fun _ => by kernel_rfl
  have S1 : Hid (signT ⟨#[40]⟩ (t :: r) = false) := sign_not5 (by omega)
  have S2 : Hid (signT ⟨#[36]⟩ (t :: r) = false) := sign_not5 (by omega)
  have TK : Hid (takeT 3 en (t :: r) = .ok (t, r)) := takeT_cons hk
  have HK := Lib.hid hk
  have htb : Hid (t.text.size < 1000000000) := by obtain ⟨_, _, _, h⟩ := h; have := (h.good t (List.mem_cons_self ..)).2.1; unfold Hid; omega
  obtain ⟨hN, hT, hne, h7⟩ := h.ltN
  obtain ⟨w0, hw0⟩ : ∃ w0, w0 = w.alloc (.cells #[.int .i64 0, .string ⟨#[]⟩, .int .i64 0, .string ⟨#[]⟩, .slice none 0 0] 44) := ⟨_, rfl⟩
  have k0 : Kept Nix w w0 := by rw [hw0]; exact (Kept.refl _ _).alloc _
  obtain ⟨M2, hM2⟩ : ∃ M, M = w.heap.size := ⟨_, rfl⟩
  have Z0 : Hid (FivE M2 (.int .i64 0) (.string ⟨#[]⟩) (.int .i64 0) (.string ⟨#[]⟩) (.slice none 0 0) w0) := by rw [hw0, hM2]; exact heap_alloc_new w _
  have R0 := Lib.hid (h.kept k0 (fun h => h) (fun h => h))
  have K0 : Hid (Kept (· = N) w w0) := k0.more (fun _ h => h.elim)
  have HW0 := Lib.hid hw0; have HM2 := Lib.hid hM2
  clear k0 hw0 hM2 h hk
  go_enter Tryz.func103, Tryz.ntmps103
  go_upto_region 1 with fail
  rw [← HW0.out, ← HM2.out]
  go_upto_region 12 with (first
    | (go_at_call 46; (with_reducible refine (lis_no ⟨#[40]⟩ R0.out S1.out).mono ?_); rintro e w1 ⟨rfl, r1_, k1_⟩; have R1 := Lib.hid r1_; have K1 : Hid (Kept (· = N) w w1) := K0.out.trans k1_; have Z1 := Lib.hid (Z0.out.kept k1_ (by have := HM2.out; omega)); clear r1_ k1_)
    | (go_at_call 46; (with_reducible refine (lis_no ⟨#[36]⟩ R1.out S2.out).mono ?_); rintro e w2 ⟨rfl, r2_, k2_⟩; have R2 := Lib.hid r2_; have K2 : Hid (Kept (· = N) w w2) := K1.out.trans k2_; have Z2 := Lib.hid (Z1.out.kept k2_ (by have := HM2.out; omega)); clear r2_ k2_))
  obtain ⟨n2, a2, c2, hP⟩ := R2.out
  obtain ⟨c0, c1, cd, cf⟩ := hP.c0
  have hn := hP.num
  rw [List.length_cons] at hn
  have h0 : 0 < n2 := by omega
  have h1 : (0 : Int) < (n2 : Int) := by omega
  have z : decide ((0 : Int) < (n2 : Int)) = true := decide_eq_true h1
  have z' : decide (0 < n2) = true := decide_eq_true h0
  obtain ⟨o, rfl, t0, t1, t2⟩ := hP.head
  have y : (t.kind == 3) = true := by simpa using HK.out
  clear hn hP cf
  go_upto_region 13 with fail
  clear c0 c1 cd t0 t1 t2 y z z'
  go_wp2_with (go_at_call 65; (refine (ltake_any 3 R2.out).mono ?_); intro e w3 h3_; obtain ⟨k3_, he_, r3_⟩ := h3_.ok TK.out; unfold ltV at he_; subst he_; have R3 := Lib.hid r3_; have K3 : Hid (Kept (· = N) w w3) := K2.out.trans k3_; have Z3 := Lib.hid (Z2.out.kept k3_ (by have := HM2.out; omega)); obtain ⟨z0, z1, z2, z3, z4, zf⟩ := Z3.out.cells; have zf0 := zf 0; have zf1 := zf 1; have zf2 := zf 2; have zf3 := zf 3; have zf4 := zf 4; clear zf r3_ k3_ h3_)
  exact ret_lexp 2 rfl rfl (Z3.out.set5 _ _ _ _ _) (leaf_fin Z3.out K3.out R3.out HM2.out hN hT htb.out (by decide) er.out)
end Go.Proofs.YtlnhcgihpclpaaaGreatDoor

namespace Go.Proofs.YtlnhcgihpclpaaaGreatDoor
set_option linter.all false
open Go.RowKit

theorem sign_other {x y : ByteArray} {l : List LTok} (h : signT x l = true) (hne : x ≠ y) : signT y l = false := by
  cases l with
  | nil => rfl
  | cons t r => exact decide_eq_false (fun h2 => hne ((of_decide_eq_true h).2.symm.trans h2.2))
/-- The depth is put back. -/
theorem BinI.deepTo {N T en d M4 M5 : Nat} {w : World} {x : PatT} {ka : Option Addr} {cap : Nat} {l : List LTok} {wx : World} (h : BinI N T en d M4 M5 w x ka cap l wx) (hn4 : N ≠ M4) (hn5 : N ≠ M5) (d2 : Nat) : BinI N T en d2 M4 M5 w x ka cap l (wx.setCell ⟨N, 2, none⟩ (.int .i64 (d2 : Int))) := by
  obtain ⟨h1, h2, ⟨S, h3, h4⟩, h5, h6, h7⟩ := h
  have hk : Kept (· = N) wx (wx.setCell ⟨N, 2, none⟩ (.int .i64 (d2 : Int))) := (Kept.refl (· = N) wx).setCell (p := ⟨N, 2, none⟩) (.inl rfl) _
  exact ⟨h1.setDeep d2, h2.kept hk (Ne.symm hn5), ⟨S, h3.kept hk (fun b hb => ⟨(h4 b hb).2.1, (h4 b hb).2.2.2.2⟩), fun b hb => by have := h4 b hb; have := hk.size; omega⟩, h5, h6.kept hk (Ne.symm hn4), h7.trans hk⟩
set_option maxRecDepth 100000 in
set_option maxHeartbeats 8000000 in
theorem lprim_dol_deep {N T en d : Nat} {ex pr : List LTok → TRes PatT} {l : List LTok} {w : World} (h : PsR N T en l d w) (hd : d = 400) (hs : signT (bs [36]) l = true) : Calls Tryz.prog 103 #[.pointer (some ⟨N, 0, none⟩)] w (XQ N T en d (primT ex (fun l => .error (4, atT en l)) en l) w) := by
  have S1 : Hid (signT ⟨#[40]⟩ l = false) := sign_other hs (by decide)
  have er : Hid (primT ex (fun l => .error (4, atT en l)) en l = .error (4, atT en l.tail)) := by unfold Hid primT; rw [show signT (bs [40]) l = false from S1.out, hs]; rfl
  have S2 : Hid (signT ⟨#[36]⟩ l = true) := hs
  obtain ⟨lr, hlr⟩ : ∃ lr, lr = l.tail := ⟨_, rfl⟩
  rw [← hlr] at er
  have HLR := Lib.hid hlr
  obtain ⟨d1, hd1⟩ : ∃ d1 : Nat, d1 = d + 1 := ⟨_, rfl⟩
  have hdi : (d : Int) + 1 = (d1 : Int) := by omega
  have g1 : decide ((400 : Int) < (d1 : Int)) = true := decide_eq_true (by omega)
  have g2 : decide (400 < d1) = true := decide_eq_true (by omega)
  have hb : d1 ≤ 1000 := by omega
  obtain ⟨hN, hT, hne, h7⟩ := h.ltN
  obtain ⟨w0, hw0⟩ : ∃ w0, w0 = w.alloc (.cells #[.int .i64 0, .string ⟨#[]⟩, .int .i64 0, .string ⟨#[]⟩, .slice none 0 0] 44) := ⟨_, rfl⟩
  have k0 : Kept Nix w w0 := by rw [hw0]; exact (Kept.refl _ _).alloc _
  obtain ⟨M2, hM2⟩ : ∃ M, M = w.heap.size := ⟨_, rfl⟩
  have Z0 : Hid (FivE M2 (.int .i64 0) (.string ⟨#[]⟩) (.int .i64 0) (.string ⟨#[]⟩) (.slice none 0 0) w0) := by rw [hw0, hM2]; exact heap_alloc_new w _
  have R0 := Lib.hid (h.kept k0 (fun h => h) (fun h => h))
  have K0 : Hid (Kept (· = N) w w0) := k0.more (fun _ h => h.elim)
  have HW0 := Lib.hid hw0; have HM2 := Lib.hid hM2
  clear k0 hw0 hM2 h hs hlr hd hd1
  go_enter Tryz.func103, Tryz.ntmps103
  go_upto_region 1 with fail
  rw [← HW0.out, ← HM2.out]
  go_upto_region 6 with (first
    | (go_at_call 46; (with_reducible refine (lis_no ⟨#[40]⟩ R0.out S1.out).mono ?_); rintro e w1 ⟨rfl, r1_, k1_⟩; have R1 := Lib.hid r1_; have K1 : Hid (Kept (· = N) w w1) := K0.out.trans k1_; have Z1 := Lib.hid (Z0.out.kept k1_ (by have := HM2.out; omega)); clear r1_ k1_)
    | (go_at_call 46; (with_reducible refine (lis_yes ⟨#[36]⟩ R1.out S2.out).mono ?_); rintro e w2 ⟨rfl, r2_, k2_⟩; have R2 := Lib.hid r2_; have K2 : Hid (Kept (· = N) w w2) := K1.out.trans k2_; have Z2 := Lib.hid (Z1.out.kept k2_ (by have := HM2.out; omega)); obtain ⟨q2, qf2⟩ := r2_.deep; clear r2_ k2_))
  go_upto_region 7 with fail
  obtain ⟨w3, hw3⟩ : ∃ w3, w3 = w2.setCell ⟨N, 2, none⟩ (.int .i64 (d1 : Int)) := ⟨_, rfl⟩
  have r3 := R2.out.setDeep d1
  rw [← hw3] at r3 ⊢
  rw [← HLR.out] at r3
  have k3 : Kept (· = N) w2 w3 := by rw [hw3]; exact (Kept.refl (· = N) w2).setCell (p := ⟨N, 2, none⟩) (.inl rfl) _
  have K3 := Lib.hid k3
  clear hw3 k3 q2 qf2
  obtain ⟨q2, qf2⟩ := r3.deep
  obtain ⟨n3, a3, c3, r3⟩ := r3
  have HA := Lib.hid (lat_any r3)
  clear r3
  go_wp2_with (first
    | (go_at_call 49; (refine HA.out.mono ?_); rintro e w' ⟨rfl, hw_⟩; obtain rfl := hw_.symm)
    | (go_at_call 48; (refine (lfail_any _ 4 (atT en lr) w3).mono ?_); rintro e w4 ⟨rfl, rfl⟩))
  exact ⟨rfl, XQ.thrown K2.out K3.out er.out⟩
set_option maxRecDepth 100000 in
set_option maxHeartbeats 8000000 in
theorem lprim_dol_more {N T en d : Nat} {ex pr : List LTok → TRes PatT} {l : List LTok} {w : World} (hd : d < 400) (HP : PrOk N T en (d + 1) pr) (h : PsR N T en l d w) (hs : signT (bs [36]) l = true) : Calls Tryz.prog 103 #[.pointer (some ⟨N, 0, none⟩)] w (XQ N T en d (primT ex pr en l) w) := by
  have S1 : Hid (signT ⟨#[40]⟩ l = false) := sign_other hs (by decide)
  have er : Hid (primT ex pr en l = match pr l.tail with | .error er => .error er | .ok (x, r) => .ok (node1 5 x, r)) := by unfold Hid primT; rw [show signT (bs [40]) l = false from S1.out, hs]; rfl
  have S2 : Hid (signT ⟨#[36]⟩ l = true) := hs
  obtain ⟨lr, hlr⟩ : ∃ lr, lr = l.tail := ⟨_, rfl⟩
  rw [← hlr] at er
  have HLR := Lib.hid hlr
  obtain ⟨d1, hd1⟩ : ∃ d1 : Nat, d1 = d + 1 := ⟨_, rfl⟩
  have hdi : (d : Int) + 1 = (d1 : Int) := by omega
  rw [← hd1] at HP
  have g1 : decide ((400 : Int) < (d1 : Int)) = false := decide_eq_false (by omega)
  have g2 : decide (400 < d1) = false := decide_eq_false (by omega)
  have hb : d1 ≤ 1000 := by omega
  have hb1 : 1 ≤ d1 := by omega
  have hdj : (d1 : Int) - 1 = (d : Int) := by omega
  have HPR := Lib.hid HP
  obtain ⟨hN, hT, hne, h7⟩ := h.ltN
  obtain ⟨w0, hw0⟩ : ∃ w0, w0 = w.alloc (.cells #[.int .i64 0, .string ⟨#[]⟩, .int .i64 0, .string ⟨#[]⟩, .slice none 0 0] 44) := ⟨_, rfl⟩
  have k0 : Kept Nix w w0 := by rw [hw0]; exact (Kept.refl _ _).alloc _
  obtain ⟨M2, hM2⟩ : ∃ M, M = w.heap.size := ⟨_, rfl⟩
  have Z0 : Hid (FivE M2 (.int .i64 0) (.string ⟨#[]⟩) (.int .i64 0) (.string ⟨#[]⟩) (.slice none 0 0) w0) := by rw [hw0, hM2]; exact heap_alloc_new w _
  have R0 := Lib.hid (h.kept k0 (fun h => h) (fun h => h))
  have K0 : Hid (Kept (· = N) w w0) := k0.more (fun _ h => h.elim)
  have HW0 := Lib.hid hw0; have HM2 := Lib.hid hM2
  clear k0 hw0 hM2 h hs hlr hd hd1 HP
  go_enter Tryz.func103, Tryz.ntmps103
  go_upto_region 1 with fail
  rw [← HW0.out, ← HM2.out]
  go_upto_region 6 with (first
    | (go_at_call 46; (with_reducible refine (lis_no ⟨#[40]⟩ R0.out S1.out).mono ?_); rintro e w1 ⟨rfl, r1_, k1_⟩; have R1 := Lib.hid r1_; have K1 : Hid (Kept (· = N) w w1) := K0.out.trans k1_; have Z1 := Lib.hid (Z0.out.kept k1_ (by have := HM2.out; omega)); clear r1_ k1_)
    | (go_at_call 46; (with_reducible refine (lis_yes ⟨#[36]⟩ R1.out S2.out).mono ?_); rintro e w2 ⟨rfl, r2_, k2_⟩; have R2 := Lib.hid r2_; have K2 : Hid (Kept (· = N) w w2) := K1.out.trans k2_; have Z2 := Lib.hid (Z1.out.kept k2_ (by have := HM2.out; omega)); obtain ⟨q2, qf2⟩ := r2_.deep; clear r2_ k2_))
  go_upto_region 7 with fail
  obtain ⟨w3, hw3⟩ : ∃ w3, w3 = w2.setCell ⟨N, 2, none⟩ (.int .i64 (d1 : Int)) := ⟨_, rfl⟩
  have r3 := R2.out.setDeep d1
  rw [← hw3] at r3 ⊢
  rw [← HLR.out] at r3
  have k3 : Kept (· = N) w2 w3 := by rw [hw3]; exact (Kept.refl (· = N) w2).setCell (p := ⟨N, 2, none⟩) (.inl rfl) _
  have K3 : Hid (Kept (· = N) w w3) := K2.out.trans k3
  have Z3 := Lib.hid (Z2.out.kept k3 (by have := HM2.out; omega))
  have R3 := Lib.hid r3
  clear hw3 k3 q2 qf2
  obtain ⟨q2, qf2⟩ := r3.deep
  clear r3
  cases hu : pr lr with
  | error e0 =>
    go_wp2_with (go_at_call 103; (refine (HPR.out lr w3 R3.out).mono ?_); intro e w4 h4_; obtain ⟨k4_, rfl⟩ := h4_.bad hu; have K4 := Lib.hid k4_; clear k4_ h4_)
    exact ⟨rfl, XQ.thrown K3.out K4.out (by rw [er.out, hu])⟩
  | ok x =>
    obtain ⟨p, r⟩ := x
    have er2 : Hid (primT ex pr en l = .ok (node1 5 p, r)) := by unfold Hid; rw [er.out, hu]
    clear er
    go_upto_region 10 with (go_at_call 103; (refine (HPR.out lr w3 R3.out).mono ?_); intro e w4 h4_; obtain ⟨k4_, r4_, S, ka, cap, rfl, hS_, hz_, hk_⟩ := h4_.ok hu; have I5 := Lib.hid (BinI.start1 (w1 := w3) (cap := cap) 5 (Z3.out.kept k4_ (by have := HM2.out; omega)) (K3.out.trans k4_) r4_ hS_ hz_ hk_ hN K3.out.size Z3.out.lt k4_.size); have HL4 : Hid (w.heap.size < w4.heap.size) := (by have := Z3.out.lt; have := HM2.out; have := k4_.size; unfold Hid; omega); clear k4_ r4_ hS_ hz_ hk_ h4_)
    obtain ⟨w5, hw5⟩ : ∃ w5, w5 = (w4.alloc (.cells #[.int .i64 p.kind, .string p.text, .int .i64 p.n, .string p.name, .slice ka p.kids.length cap] 44)).alloc (.cells #[.int .i64 5, .string ⟨#[]⟩, .int .i64 0, .string ⟨#[]⟩, .slice (some ⟨w4.heap.size, 0, none⟩) 1 1] 44) := ⟨_, rfl⟩
    rw [← hw5] at I5 ⊢
    obtain ⟨B, hB⟩ : ∃ B, B = w4.heap.size := ⟨_, rfl⟩
    rw [← hB] at I5 HL4 ⊢
    clear hw5 hB q2 qf2
    obtain ⟨q2, qf2⟩ := I5.out.rdr.deep
    have hM : Hid (N ≠ M2 ∧ N ≠ B + 1 ∧ T ≠ M2 ∧ w.heap.size ≤ M2) := by have := HM2.out; have := HL4.out; unfold Hid; omega
    go_upto_region 11 with fail
    have I6 := Lib.hid (I5.out.deepTo hM.out.1 hM.out.2.1 d)
    obtain ⟨w6, hw6⟩ : ∃ w6, w6 = w5.setCell ⟨N, 2, none⟩ (.int .i64 (d : Int)) := ⟨_, rfl⟩
    rw [← hw6] at I6 ⊢
    clear hw6 q2 qf2
    obtain ⟨x0, x1, x2, x3, x4, _⟩ := I6.out.five.cells
    obtain ⟨z0, z1, z2, z3, z4, zf⟩ := I6.out.zero.cells
    have zf0 := zf 0; have zf1 := zf 1; have zf2 := zf 2; have zf3 := zf 3; have zf4 := zf 4
    clear zf
    go_wp2_with fail
    exact ret_lexp 2 rfl rfl (I6.out.zero.set5 _ _ _ _ _) (I6.out.fin hM.out.1 hM.out.2.2.1 hM.out.2.2.2 hN er2.out)
end Go.Proofs.YtlnhcgihpclpaaaGreatDoor
