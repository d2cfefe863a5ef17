/- The program's reader of lines: body: what is worked out, matched, given. -/
import Derived.Test.YtlnhcgihpclpaaaGreatDoorPs23
namespace Go.Proofs.YtlnhcgihpclpaaaGreatDoor
set_option linter.all false
open Go.RowKit

theorem EvI.start {N T en M : Nat} {s : StT} {p : PatT} {ka : Option Addr} {kc : Nat} {l r : List LTok} {w w2 : World} {S : Nat → Prop} (h : SbI N T en M s l w) (hk : Kept (· = N) w w2) (hr : PsR N T en r 0 w2) (hS : ∀ b, S b → w.heap.size ≤ b ∧ b < w2.heap.size) (hz : p.text.size < 1000000000 ∧ p.name.size < 1000000000 ∧ p.kids.length < 1000000000) (hp : PatsAt w2 S ka p.kids) (hm : sizeT p + r.length ≤ l.length) :
    EvI N T en M w2.heap.size s p ka kc r (w2.alloc (.cells #[.int .i64 p.kind, .string p.text, .int .i64 p.n, .string p.name, .slice ka p.kids.length kc] 44)) := by
  have h2 := h.rdr_to hk hr (by omega)
  have kA : Kept Nix w2 (w2.alloc (.cells #[.int .i64 p.kind, .string p.text, .int .i64 p.n, .string p.name, .slice ka p.kids.length kc] 44)) := (Kept.refl _ _).alloc _
  have hM := h.ltM; have hM2 := h2.ltM
  exact ⟨h2.quiet kA, heap_alloc_new w2 _, ⟨S, hp.kept kA (fun b hb => ⟨(hS b hb).2, fun h => h⟩), fun b hb => by have := hS b hb; have := kA.size; omega⟩, hz, by have := h.few; omega, hM2⟩
theorem EvI.patV {N T en M X : Nat} {s : StT} {p : PatT} {ka : Option Addr} {kc : Nat} {l : List LTok} {w : World} (h : EvI N T en M X s p ka kc l w) : ∃ S, PatV w S (.agg #[.int .i64 p.kind, .string p.text, .int .i64 p.n, .string p.name, .slice ka p.kids.length kc]) p := by
  obtain ⟨S, h3, h4⟩ := h.kids
  exact ⟨S, ka, kc, rfl, h.z, h3⟩
set_option maxRecDepth 100000 in
set_option maxHeartbeats 16000000 in
theorem lbody_eval {N T en M : Nat} {lb : ByteArray} {l : List LTok} {w : World} (h : SbI N T en M (st1 lb) l w) (hd : isDefine l = false) (hr : isRule l = false) : Calls Tryz.prog 45 #[.pointer (some ⟨N, 0, none⟩), .pointer (some ⟨M, 0, none⟩)] w (SbQ N T en M (bodyT en (st1 lb) l) w) := by
  have I0 := Lib.hid h
  have K0 : Hid (Kept (fun b => b = N ∨ b = M) w w) := Kept.refl _ _
  have er : Hid (bodyT en (st1 lb) l = match exprT en 400 l with
  | .error er => .error er
  | .ok (x, r) =>
    if signT (bs [63]) r = true then
      match patT en r.tail with
      | .error er => .error er
      | .ok (p, r2) => givenT en (atT en l) { st1 lb with kind := 4, value := x, pat := p } x 5 r2
    else givenT en (atT en l) { st1 lb with kind := 2, value := x } x 3 r) := by unfold Hid bodyT; rw [hd, hr]; rfl
  have HD := Lib.hid hd; have HR := Lib.hid hr
  have HA : Hid (Calls Tryz.prog 49 #[.pointer (some ⟨N, 0, none⟩)] w (IntW (atT en l) w)) := by obtain ⟨_, _, _, h⟩ := h.rdr; exact lat_any h
  clear h hd hr
  go_enter Tryz.func45, Tryz.ntmps45
  go_upto_region 0 with fail
  obtain ⟨nq, aq, cq, hq⟩ := I0.out.rdr
  go_cut [50] (fun c wx => c = .bool (isDefine l) ∧ w = wx)
  case first =>
    obtain ⟨c0, c1, cd, cf⟩ := hq.c0
    have hn := hq.num
    rcases l with _ | ⟨t, l1⟩
    · have z : decide ((0 : Int) < (nq : Int)) = false := by rw [hn]; rfl
      have z' : decide (0 < nq) = false := by rw [hn]; rfl
      have za : decide ((1 : Int) < (nq : Int)) = false := by rw [hn]; rfl
      have za' : decide (1 < nq) = false := by rw [hn]; rfl
      clear hn hq cf
      go_wp2_with fail
      go_meet
      exact ⟨rfl, rfl⟩
    rw [List.length_cons] at hn
    have z : decide ((0 : Int) < (nq : Int)) = true := decide_eq_true (by omega)
    have z' : decide (0 < nq) = true := decide_eq_true (by omega)
    have h0 : 0 < nq := by omega
    have h1 : (0 : Int) < (nq : Int) := by omega
    obtain ⟨o, rfl, t0, t1, t2⟩ := hq.head
    rcases l1 with _ | ⟨u, l3⟩
    · have za : decide ((1 : Int) < (nq : Int)) = false := by rw [hn]; rfl
      have za' : decide (1 < nq) = false := by rw [hn]; rfl
      by_cases hk1 : t.kind = 1
      · have y1 : (t.kind == 1) = true := by simpa using hk1
        by_cases hx : t.text = sDefine
        · have y2 : (t.text.toList == [68, 69, 70, 73, 78, 69]) = true := by rw [listDef, bytes_beqL]; exact decide_eq_true hx
          have fin : Hid (isDefine (t :: []) = false) := rfl
          clear hn hq cf hk1 hx
          go_wp2_with fail
          go_meet
          exact ⟨by rw [fin.out], rfl⟩
        · have y2 : (t.text.toList == [68, 69, 70, 73, 78, 69]) = false := by rw [listDef, bytes_beqL]; exact decide_eq_false hx
          have fin : Hid (isDefine (t :: []) = false) := rfl
          clear hn hq cf hk1 hx
          go_wp2_with fail
          go_meet
          exact ⟨by rw [fin.out], rfl⟩
      · have y1 : (t.kind == 1) = false := by simpa using hk1
        have fin : Hid (isDefine (t :: []) = false) := rfl
        clear hn hq cf hk1
        go_wp2_with fail
        go_meet
        exact ⟨by rw [fin.out], rfl⟩
    · rw [List.length_cons] at hn
      have za : decide ((1 : Int) < (nq : Int)) = true := decide_eq_true (by omega)
      have za' : decide (1 < nq) = true := decide_eq_true (by omega)
      have h3 : 1 < nq := by omega
      have h4 : (1 : Int) < (nq : Int) := by omega
      obtain ⟨u0, u1⟩ := hq.second
      by_cases hk1 : t.kind = 1
      · have y1 : (t.kind == 1) = true := by simpa using hk1
        by_cases hx : t.text = sDefine
        · have y2 : (t.text.toList == [68, 69, 70, 73, 78, 69]) = true := by rw [listDef, bytes_beqL]; exact decide_eq_true hx
          by_cases hk2 : u.kind = 1
          · have y3 : (u.kind == 1) = true := by simpa using hk2
            have fin : Hid (isDefine (t :: u :: l3) = true) := decide_eq_true ⟨hk1, hx, hk2⟩
            clear hn hq cf hk1 hx hk2
            go_wp2_with fail
            go_meet
            exact ⟨by rw [fin.out], rfl⟩
          · have y3 : (u.kind == 1) = false := by simpa using hk2
            have fin : Hid (isDefine (t :: u :: l3) = false) := decide_eq_false (fun h => hk2 h.2.2)
            clear hn hq cf hk1 hx hk2
            go_wp2_with fail
            go_meet
            exact ⟨by rw [fin.out], rfl⟩
        · have y2 : (t.text.toList == [68, 69, 70, 73, 78, 69]) = false := by rw [listDef, bytes_beqL]; exact decide_eq_false hx
          have fin : Hid (isDefine (t :: u :: l3) = false) := decide_eq_false (fun h => hx h.2.1)
          clear hn hq cf hk1 hx
          go_wp2_with fail
          go_meet
          exact ⟨by rw [fin.out], rfl⟩
      · have y1 : (t.kind == 1) = false := by simpa using hk1
        have fin : Hid (isDefine (t :: u :: l3) = false) := decide_eq_false (fun h => hk1 h.1)
        clear hn hq cf hk1
        go_wp2_with fail
        go_meet
        exact ⟨by rw [fin.out], rfl⟩
  case rest =>
    obtain ⟨rfl, rfl⟩ := hcut
    clear hq
    rw [HD.out]
    go_upto_region 3 with fail
    obtain ⟨nq, aq, cq, hq⟩ := I0.out.rdr
    go_cut [97] (fun c wx => c = .bool (isRule l) ∧ w = wx)
    case first =>
      obtain ⟨c0, c1, cd, cf⟩ := hq.c0
      have hn := hq.num
      rcases l with _ | ⟨t, l1⟩
      · have z : decide ((0 : Int) < (nq : Int)) = false := by rw [hn]; rfl
        have z' : decide (0 < nq) = false := by rw [hn]; rfl
        have za : decide ((1 : Int) < (nq : Int)) = false := by rw [hn]; rfl
        have za' : decide (1 < nq) = false := by rw [hn]; rfl
        clear hn hq cf
        go_wp2_with fail
        go_meet
        exact ⟨rfl, rfl⟩
      rw [List.length_cons] at hn
      have z : decide ((0 : Int) < (nq : Int)) = true := decide_eq_true (by omega)
      have z' : decide (0 < nq) = true := decide_eq_true (by omega)
      have h0 : 0 < nq := by omega
      have h1 : (0 : Int) < (nq : Int) := by omega
      obtain ⟨o, rfl, t0, t1, t2⟩ := hq.head
      rcases l1 with _ | ⟨u, l3⟩
      · have za : decide ((1 : Int) < (nq : Int)) = false := by rw [hn]; rfl
        have za' : decide (1 < nq) = false := by rw [hn]; rfl
        have fin : Hid (isRule [t] = false) := rfl
        clear hn hq cf
        go_wp2_with fail
        go_meet
        exact ⟨by rw [fin.out], rfl⟩
      · rw [List.length_cons] at hn
        have za : decide ((1 : Int) < (nq : Int)) = true := decide_eq_true (by omega)
        have za' : decide (1 < nq) = true := decide_eq_true (by omega)
        have h3 : 1 < nq := by omega
        have h4 : (1 : Int) < (nq : Int) := by omega
        obtain ⟨u0, u1⟩ := hq.second
        by_cases hk1 : t.kind = 1
        · have y1 : (t.kind == 1) = true := by simpa using hk1
          by_cases hk2 : u.kind = 5
          · have y2 : (u.kind == 5) = true := by simpa using hk2
            by_cases hx : u.text = sRule
            · have y3 : (u.text.toList == [58, 61]) = true := by rw [listRule, bytes_beqL]; exact decide_eq_true hx
              have fin : Hid (isRule (t :: u :: l3) = true) := decide_eq_true ⟨hk1, hk2, hx⟩
              clear hn hq cf hk1 hk2 hx
              go_wp2_with fail
              go_meet
              exact ⟨by rw [fin.out], rfl⟩
            · have y3 : (u.text.toList == [58, 61]) = false := by rw [listRule, bytes_beqL]; exact decide_eq_false hx
              have fin : Hid (isRule (t :: u :: l3) = false) := decide_eq_false (fun h => hx h.2.2)
              clear hn hq cf hk1 hk2 hx
              go_wp2_with fail
              go_meet
              exact ⟨by rw [fin.out], rfl⟩
          · have y2 : (u.kind == 5) = false := by simpa using hk2
            have fin : Hid (isRule (t :: u :: l3) = false) := decide_eq_false (fun h => hk2 h.2.1)
            clear hn hq cf hk1 hk2
            go_wp2_with fail
            go_meet
            exact ⟨by rw [fin.out], rfl⟩
        · have y1 : (t.kind == 1) = false := by simpa using hk1
          have fin : Hid (isRule (t :: u :: l3) = false) := decide_eq_false (fun h => hk1 h.1)
          clear hn hq cf hk1
          go_wp2_with fail
          go_meet
          exact ⟨by rw [fin.out], rfl⟩
    case rest =>
      obtain ⟨rfl, rfl⟩ := hcut
      clear hq
      rw [HR.out]
      go_upto_region 10 with (first
        | (go_at_call 49; (refine HA.out.mono ?_); rintro e w' ⟨rfl, hw_⟩; obtain rfl := hw_.symm)
        | (go_at_call 69; (refine (lexpr_any N T en l w I0.out.rdr).mono ?_); intro e w2 h_; rcases hu : exprT en 400 l with e0 | ⟨p, r⟩; (obtain ⟨k_, rfl⟩ := h_.bad hu; have f_ : SbQ N T en M (bodyT en (st1 lb) l) w (.panicked [{ v := lineOops e0, recovered := false }]) _ := SbQ.thrown K0.out k_ (by rw [er.out, hu]); exact ⟨rfl, f_⟩); (obtain ⟨k_, r_, S, ka, kc, rfl, hS_, hz_, hk_⟩ := h_.ok hu; have HU1 := Lib.hid hu; have E3 := Lib.hid (EvI.start (kc := kc) I0.out k_ r_ hS_ hz_ hk_ (exprT_meas en 400 _ _ _ hu)); have K3 := Lib.hid ((K0.out.trans (keptN k_)).alloc (.cells #[.int .i64 p.kind, .string p.text, .int .i64 p.n, .string p.name, .slice ka p.kids.length kc] 44)); clear k_ r_ hS_ hz_ hk_ h_ hu)))
      obtain ⟨w3, hw3⟩ : ∃ w3, w3 = w2.alloc (.cells #[.int .i64 p.kind, .string p.text, .int .i64 p.n, .string p.name, .slice ka p.kids.length kc] 44) := ⟨_, rfl⟩
      rw [← hw3] at E3 K3
      rw [← hw3]
      obtain ⟨X, hX⟩ : ∃ X, X = w2.heap.size := ⟨_, rfl⟩
      rw [← hX] at E3
      rw [← hX]
      clear hw3 hX
      cases hq : signT ⟨#[63]⟩ r with
      | true =>
        have HQ : Hid (signT (bs [63]) r = true) := hq
        obtain ⟨r4, hr4⟩ : ∃ r4, r4 = r.tail := ⟨_, rfl⟩
        have HR4 : Hid (r.tail = r4) := hr4.symm
        go_upto_region 12 with (go_at_call 46; (with_reducible refine (lis_yes ⟨#[63]⟩ E3.out.sb.rdr hq).mono ?_); rintro e w4 ⟨rfl, r_, k_⟩; rw [← hr4] at r_; have E4 := Lib.hid (E3.out.rdr_to (l2 := r4) k_ r_ (by have := signT_len hq; rw [hr4]; omega)); have K4 := Lib.hid (K3.out.trans (keptN k_)); clear r_ k_)
        clear hr4
        obtain ⟨x0, x1, x2, x3, x4, _⟩ := E4.out.x.cells
        obtain ⟨v1, c1, f1⟩ := E4.out.sb.slot 1 (by decide)
        obtain ⟨v7, c7, f7⟩ := E4.out.sb.slot 7 (by decide)
        obtain ⟨v8, c8, f8⟩ := E4.out.sb.slot 8 (by decide)
        obtain ⟨v9, c9, f9⟩ := E4.out.sb.slot 9 (by decide)
        obtain ⟨v10, c10, f10⟩ := E4.out.sb.slot 10 (by decide)
        obtain ⟨v11, c11, f11⟩ := E4.out.sb.slot 11 (by decide)
        have hxm : ¬ X = M := by have := E4.out.lt; omega
        have hmx : ¬ M = X := fun h => hxm h.symm
        go_cut [] (fun wx => Hid (EvI N T en M X { st1 lb with kind := 4, value := p } p ka kc r4 wx) ∧ Hid (Kept (fun b => b = N ∨ b = M) w wx))
        case first =>
          go_region
          all_goals go_wp2_with fail
          all_goals go_meet
          all_goals first
            | exact ⟨((E4.out.setKind 4).setValue).draw, (K4.out.trans (keptNM (setM.trans (put5_kept _ M 7 p ka kc)))).drew⟩
            | exact ⟨((E4.out.setValue).setKind 4).draw, (K4.out.trans (keptNM ((put5_kept _ M 7 p ka kc).trans setM))).drew⟩
        case rest =>
          obtain ⟨E5, K5⟩ := hcut
          obtain ⟨w5, rfl⟩ : ∃ x : World, x = wc := ⟨_, rfl⟩
          clear x0 x1 x2 x3 x4 c1 f1 c7 f7 c8 f8 c9 f9 c10 f10 c11 f11 hxm hmx
          go_upto_region 15 with (go_at_call 68; (refine (lpattern_any E5.out.sb.rdr).mono ?_); intro e w6 h_; rcases hu : patT en r4 with e0 | ⟨q, r6⟩; (obtain ⟨k_, rfl⟩ := h_.bad hu; have f_ : SbQ N T en M (bodyT en (st1 lb) l) w (.panicked [{ v := lineOops e0, recovered := false }]) _ := SbQ.thrown K5.out k_ (by rw [er.out]; simp only [HU1.out, HQ.out, HR4.out, hu, if_true, if_false, Bool.false_eq_true, not_true, not_false_iff]); exact ⟨rfl, f_⟩); (obtain ⟨k_, r_, S, qa, qc, rfl, hS_, hz_, hk_⟩ := h_.ok hu; have HU3 := Lib.hid hu; have E6 := Lib.hid (E5.out.rdr_to k_ r_ (by have := patT_len hu; omega)); have K6 := Lib.hid (K5.out.trans (keptN k_)); have E7 := Lib.hid (E6.out.upd (E6.out.sb.setPat (kc := qc) hk_ (fun b hb => by have := hS_ b hb; have := E5.out.sb.ltM; omega) hz_ (by have := patT_pat hu; omega)) (put5_kept w6 M 12 q qa qc)); have K7 := Lib.hid (K6.out.trans (keptNM (put5_kept w6 M 12 q qa qc))); obtain ⟨v12, c12, f12⟩ := E6.out.sb.slot 12 (by decide); obtain ⟨v13, c13, f13⟩ := E6.out.sb.slot 13 (by decide); obtain ⟨v14, c14, f14⟩ := E6.out.sb.slot 14 (by decide); obtain ⟨v15, c15, f15⟩ := E6.out.sb.slot 15 (by decide); obtain ⟨v16, c16, f16⟩ := E6.out.sb.slot 16 (by decide); clear k_ r_ hS_ hz_ hk_ h_ hu))
          show Code.wp _ _ _ _ (put5 w6 M 12 q qa qc)
          obtain ⟨w7, hw7⟩ : ∃ w7, w7 = put5 w6 M 12 q qa qc := ⟨_, rfl⟩
          have E7 : Hid (EvI N T en M X { st1 lb with kind := 4, value := p, pat := q } p ka kc r6 (put5 w6 M 12 q qa qc)) := E7
          rw [← hw7] at E7 K7
          rw [← hw7]
          clear hw7 c12 c13 c14 c15 c16 f12 f13 f14 f15 f16
          cases hg : signT ⟨#[61]⟩ r6 with
          | false =>
            have HG : Hid (signT (bs [61]) r6 = false) := hg
            go_wp2_with (go_at_call 46; (with_reducible refine (lis_no ⟨#[61]⟩ E7.out.sb.rdr hg).mono ?_); rintro e w20 ⟨rfl, r_, k_⟩; have E20 := Lib.hid (E7.out.rdr_to k_ r_ (Nat.le_refl _)); have K20 := Lib.hid (K7.out.trans (keptN k_)); clear r_ k_)
            (first | go_end0 | (refine bodyPost_ret (results_none rfl _ _ _) rfl ?_))
            exact SbQ.done K20.out E20.out.sb (by rw [er.out]; simp only [givenT, HU1.out, HQ.out, HR4.out, HU3.out, HG.out, if_true, if_false, Bool.false_eq_true, not_true, not_false_iff]; try rfl)
          | true =>
            have HG : Hid (signT (bs [61]) r6 = true) := hg
            obtain ⟨r16, hr16⟩ : ∃ r16, r16 = r6.tail := ⟨_, rfl⟩
            have HR16 : Hid (r6.tail = r16) := hr16.symm
            go_upto_region 16 with (go_at_call 46; (with_reducible refine (lis_yes ⟨#[61]⟩ E7.out.sb.rdr hg).mono ?_); rintro e w20 ⟨rfl, r_, k_⟩; rw [← hr16] at r_; have E20 := Lib.hid (E7.out.rdr_to (l2 := r16) k_ r_ (by have := signT_len hg; rw [hr16]; omega)); have K20 := Lib.hid (K7.out.trans (keptN k_)); clear r_ k_)
            clear hr16
            obtain ⟨x0, x1, x2, x3, x4, _⟩ := E20.out.x.cells
            obtain ⟨Sp, hpv⟩ := E20.out.patV
            have HT := Lib.hid (targetX_any p _ Sp w20 hpv)
            clear hpv
            by_cases ht : isTarget p
            · have ht2 : decide (isTarget p) = true := decide_eq_true ht
              have HIT := Lib.hid ht
              rw [ht2] at HT
              clear ht ht2
              go_upto_region 18 with (go_at_call 54; (refine HT.out.mono ?_); rintro e w21 ⟨rfl, k_⟩; have E21 := Lib.hid (E20.out.quiet k_); have K21 := Lib.hid (K20.out.quiet k_); clear k_)
              clear x0 x1 x2 x3 x4
              obtain ⟨x0, x1, x2, x3, x4, _⟩ := E21.out.x.cells
              obtain ⟨v1, c1, f1⟩ := E21.out.sb.slot 1 (by decide)
              obtain ⟨v2, c2, f2⟩ := E21.out.sb.slot 2 (by decide)
              obtain ⟨v3, c3, f3⟩ := E21.out.sb.slot 3 (by decide)
              obtain ⟨v4, c4, f4⟩ := E21.out.sb.slot 4 (by decide)
              obtain ⟨v5, c5, f5⟩ := E21.out.sb.slot 5 (by decide)
              obtain ⟨v6, c6, f6⟩ := E21.out.sb.slot 6 (by decide)
              have hxm : ¬ X = M := by have := E21.out.lt; omega
              have hmx : ¬ M = X := fun h => hxm h.symm
              go_cut [] (fun wx => Hid (EvI N T en M X { { st1 lb with kind := 4, value := p, pat := q } with kind := 3, target := p } p ka kc r16 wx) ∧ Hid (Kept (fun b => b = N ∨ b = M) w wx))
              case first =>
                go_region
                all_goals go_wp2_with fail
                all_goals go_meet
                all_goals first
                  | exact ⟨((E21.out.setKind 3).setTarget).draw, (K21.out.trans (keptNM (setM.trans (put5_kept _ M 2 p ka kc)))).drew⟩
                  | exact ⟨((E21.out.setTarget).setKind 3).draw, (K21.out.trans (keptNM ((put5_kept _ M 2 p ka kc).trans setM))).drew⟩
              case rest =>
                obtain ⟨E22, K22⟩ := hcut
                obtain ⟨w22, rfl⟩ : ∃ x : World, x = wc := ⟨_, rfl⟩
                clear x0 x1 x2 x3 x4 c1 f1 c2 f2 c3 f3 c4 f4 c5 f5 c6 f6 hxm hmx
                obtain ⟨v1, c1, f1⟩ := E22.out.sb.slot 1 (by decide)
                go_upto_region 21 with fail
                have E23 := Lib.hid (E22.out.setKind 5)
                have K23 := Lib.hid (K22.out.trans (keptNM (setM (w := w22) (M := M) (i := 1) (v := .int .i64 5))))
                obtain ⟨w23, hw23⟩ : ∃ w23, w23 = w22.setCell ⟨M, 1, none⟩ (.int .i64 5) := ⟨_, rfl⟩
                rw [← hw23] at E23 K23
                rw [← hw23]
                clear hw23 c1 f1
                go_wp2_with (go_at_call 69; (refine (lexpr_any N T en r16 w23 E23.out.sb.rdr).mono ?_); intro e w25 h_; rcases hu : exprT en 400 r16 with e0 | ⟨v, r25⟩; (obtain ⟨k_, rfl⟩ := h_.bad hu; have f_ : SbQ N T en M (bodyT en (st1 lb) l) w (.panicked [{ v := lineOops e0, recovered := false }]) _ := SbQ.thrown K23.out k_ (by rw [er.out]; simp only [givenT, HU1.out, HQ.out, HR4.out, HU3.out, HG.out, HR16.out, HIT.out, hu, if_true, if_false, Bool.false_eq_true, not_true, not_false_iff]); exact ⟨rfl, f_⟩); (obtain ⟨k_, r_, S, va, vc, rfl, hS_, hz_, hk_⟩ := h_.ok hu; have HU5 := Lib.hid hu; have I25 := Lib.hid (E23.out.sb.rdr_to k_ r_ (by have := exprT_meas en 400 _ _ _ hu; omega)); have K25 := Lib.hid (K23.out.trans (keptN k_)); have I26 := Lib.hid (I25.out.setValue (kc := vc) hk_ (fun b hb => by have := hS_ b hb; have := E23.out.sb.ltM; omega) hz_ (by have := exprT_meas en 400 _ _ _ hu; have := E23.out.sb.few; omega)); have K26 := Lib.hid (K25.out.trans (keptNM (put5_kept w25 M 7 v va vc))); obtain ⟨v7, c7, f7⟩ := I25.out.slot 7 (by decide); obtain ⟨v8, c8, f8⟩ := I25.out.slot 8 (by decide); obtain ⟨v9, c9, f9⟩ := I25.out.slot 9 (by decide); obtain ⟨v10, c10, f10⟩ := I25.out.slot 10 (by decide); obtain ⟨v11, c11, f11⟩ := I25.out.slot 11 (by decide); clear k_ r_ hS_ hz_ hk_ h_ hu))
                (first | go_end0 | (refine bodyPost_ret (results_none rfl _ _ _) rfl ?_))
                exact SbQ.done K26.out I26.out (by rw [er.out]; simp only [givenT, HU1.out, HQ.out, HR4.out, HU3.out, HG.out, HR16.out, HIT.out, HU5.out, if_true, if_false, Bool.false_eq_true, not_true, not_false_iff]; try rfl)
            · have ht2 : decide (isTarget p) = false := decide_eq_false ht
              have HIT := Lib.hid ht
              rw [ht2] at HT
              clear ht ht2
              go_wp2_with (first
                | (go_at_call 54; (refine HT.out.mono ?_); rintro e w21 ⟨rfl, k_⟩; have K21 := Lib.hid (K20.out.quiet k_); clear k_)
                | (go_at_call 48; (refine (lfail_any _ 8 (atT en l) _).mono ?_); rintro e w9 ⟨rfl, rfl⟩))
              exact ⟨rfl, SbQ.thrown K21.out (Kept.refl _ _) (by rw [er.out]; simp only [givenT, HU1.out, HQ.out, HR4.out, HU3.out, HG.out, HIT.out, if_true, if_false, Bool.false_eq_true, not_true, not_false_iff])⟩
      | false =>
        have HQ : Hid (signT (bs [63]) r = false) := hq
        go_upto_region 14 with (go_at_call 46; (with_reducible refine (lis_no ⟨#[63]⟩ E3.out.sb.rdr hq).mono ?_); rintro e w4 ⟨rfl, r_, k_⟩; have E4 := Lib.hid (E3.out.rdr_to k_ r_ (Nat.le_refl _)); have K4 := Lib.hid (K3.out.trans (keptN k_)); clear r_ k_)
        obtain ⟨x0, x1, x2, x3, x4, _⟩ := E4.out.x.cells
        obtain ⟨v1, c1, f1⟩ := E4.out.sb.slot 1 (by decide)
        obtain ⟨v7, c7, f7⟩ := E4.out.sb.slot 7 (by decide)
        obtain ⟨v8, c8, f8⟩ := E4.out.sb.slot 8 (by decide)
        obtain ⟨v9, c9, f9⟩ := E4.out.sb.slot 9 (by decide)
        obtain ⟨v10, c10, f10⟩ := E4.out.sb.slot 10 (by decide)
        obtain ⟨v11, c11, f11⟩ := E4.out.sb.slot 11 (by decide)
        have hxm : ¬ X = M := by have := E4.out.lt; omega
        have hmx : ¬ M = X := fun h => hxm h.symm
        go_cut [] (fun wx => Hid (EvI N T en M X { st1 lb with kind := 2, value := p } p ka kc r wx) ∧ Hid (Kept (fun b => b = N ∨ b = M) w wx))
        case first =>
          go_region
          all_goals go_wp2_with fail
          all_goals go_meet
          all_goals first
            | exact ⟨((E4.out.setKind 2).setValue).draw, (K4.out.trans (keptNM (setM.trans (put5_kept _ M 7 p ka kc)))).drew⟩
            | exact ⟨((E4.out.setValue).setKind 2).draw, (K4.out.trans (keptNM ((put5_kept _ M 7 p ka kc).trans setM))).drew⟩
        case rest =>
          obtain ⟨E5, K5⟩ := hcut
          obtain ⟨w5, rfl⟩ : ∃ x : World, x = wc := ⟨_, rfl⟩
          clear x0 x1 x2 x3 x4 c1 f1 c7 f7 c8 f8 c9 f9 c10 f10 c11 f11 hxm hmx
          go_upto_region 15 with fail
          cases hg : signT ⟨#[61]⟩ r with
          | false =>
            have HG : Hid (signT (bs [61]) r = false) := hg
            go_wp2_with (go_at_call 46; (with_reducible refine (lis_no ⟨#[61]⟩ E5.out.sb.rdr hg).mono ?_); rintro e w20 ⟨rfl, r_, k_⟩; have E20 := Lib.hid (E5.out.rdr_to k_ r_ (Nat.le_refl _)); have K20 := Lib.hid (K5.out.trans (keptN k_)); clear r_ k_)
            (first | go_end0 | (refine bodyPost_ret (results_none rfl _ _ _) rfl ?_))
            exact SbQ.done K20.out E20.out.sb (by rw [er.out]; simp only [givenT, HU1.out, HQ.out, HG.out, if_true, if_false, Bool.false_eq_true, not_true, not_false_iff]; try rfl)
          | true =>
            have HG : Hid (signT (bs [61]) r = true) := hg
            obtain ⟨r16, hr16⟩ : ∃ r16, r16 = r.tail := ⟨_, rfl⟩
            have HR16 : Hid (r.tail = r16) := hr16.symm
            go_upto_region 16 with (go_at_call 46; (with_reducible refine (lis_yes ⟨#[61]⟩ E5.out.sb.rdr hg).mono ?_); rintro e w20 ⟨rfl, r_, k_⟩; rw [← hr16] at r_; have E20 := Lib.hid (E5.out.rdr_to (l2 := r16) k_ r_ (by have := signT_len hg; rw [hr16]; omega)); have K20 := Lib.hid (K5.out.trans (keptN k_)); clear r_ k_)
            clear hr16
            obtain ⟨x0, x1, x2, x3, x4, _⟩ := E20.out.x.cells
            obtain ⟨Sp, hpv⟩ := E20.out.patV
            have HT := Lib.hid (targetX_any p _ Sp w20 hpv)
            clear hpv
            by_cases ht : isTarget p
            · have ht2 : decide (isTarget p) = true := decide_eq_true ht
              have HIT := Lib.hid ht
              rw [ht2] at HT
              clear ht ht2
              go_upto_region 18 with (go_at_call 54; (refine HT.out.mono ?_); rintro e w21 ⟨rfl, k_⟩; have E21 := Lib.hid (E20.out.quiet k_); have K21 := Lib.hid (K20.out.quiet k_); clear k_)
              clear x0 x1 x2 x3 x4
              obtain ⟨x0, x1, x2, x3, x4, _⟩ := E21.out.x.cells
              obtain ⟨v1, c1, f1⟩ := E21.out.sb.slot 1 (by decide)
              obtain ⟨v2, c2, f2⟩ := E21.out.sb.slot 2 (by decide)
              obtain ⟨v3, c3, f3⟩ := E21.out.sb.slot 3 (by decide)
              obtain ⟨v4, c4, f4⟩ := E21.out.sb.slot 4 (by decide)
              obtain ⟨v5, c5, f5⟩ := E21.out.sb.slot 5 (by decide)
              obtain ⟨v6, c6, f6⟩ := E21.out.sb.slot 6 (by decide)
              have hxm : ¬ X = M := by have := E21.out.lt; omega
              have hmx : ¬ M = X := fun h => hxm h.symm
              go_cut [] (fun wx => Hid (EvI N T en M X { { st1 lb with kind := 2, value := p } with kind := 3, target := p } p ka kc r16 wx) ∧ Hid (Kept (fun b => b = N ∨ b = M) w wx))
              case first =>
                go_region
                all_goals go_wp2_with fail
                all_goals go_meet
                all_goals first
                  | exact ⟨((E21.out.setKind 3).setTarget).draw, (K21.out.trans (keptNM (setM.trans (put5_kept _ M 2 p ka kc)))).drew⟩
                  | exact ⟨((E21.out.setTarget).setKind 3).draw, (K21.out.trans (keptNM ((put5_kept _ M 2 p ka kc).trans setM))).drew⟩
              case rest =>
                obtain ⟨E22, K22⟩ := hcut
                obtain ⟨w22, rfl⟩ : ∃ x : World, x = wc := ⟨_, rfl⟩
                clear x0 x1 x2 x3 x4 c1 f1 c2 f2 c3 f3 c4 f4 c5 f5 c6 f6 hxm hmx
                go_upto_region 21 with fail
                go_wp2_with (go_at_call 69; (refine (lexpr_any N T en r16 w22 E22.out.sb.rdr).mono ?_); intro e w25 h_; rcases hu : exprT en 400 r16 with e0 | ⟨v, r25⟩; (obtain ⟨k_, rfl⟩ := h_.bad hu; have f_ : SbQ N T en M (bodyT en (st1 lb) l) w (.panicked [{ v := lineOops e0, recovered := false }]) _ := SbQ.thrown K22.out k_ (by rw [er.out]; simp only [givenT, HU1.out, HQ.out, HG.out, HR16.out, HIT.out, hu, if_true, if_false, Bool.false_eq_true, not_true, not_false_iff]); exact ⟨rfl, f_⟩); (obtain ⟨k_, r_, S, va, vc, rfl, hS_, hz_, hk_⟩ := h_.ok hu; have HU5 := Lib.hid hu; have I25 := Lib.hid (E22.out.sb.rdr_to k_ r_ (by have := exprT_meas en 400 _ _ _ hu; omega)); have K25 := Lib.hid (K22.out.trans (keptN k_)); have I26 := Lib.hid (I25.out.setValue (kc := vc) hk_ (fun b hb => by have := hS_ b hb; have := E22.out.sb.ltM; omega) hz_ (by have := exprT_meas en 400 _ _ _ hu; have := E22.out.sb.few; omega)); have K26 := Lib.hid (K25.out.trans (keptNM (put5_kept w25 M 7 v va vc))); obtain ⟨v7, c7, f7⟩ := I25.out.slot 7 (by decide); obtain ⟨v8, c8, f8⟩ := I25.out.slot 8 (by decide); obtain ⟨v9, c9, f9⟩ := I25.out.slot 9 (by decide); obtain ⟨v10, c10, f10⟩ := I25.out.slot 10 (by decide); obtain ⟨v11, c11, f11⟩ := I25.out.slot 11 (by decide); clear k_ r_ hS_ hz_ hk_ h_ hu))
                (first | go_end0 | (refine bodyPost_ret (results_none rfl _ _ _) rfl ?_))
                exact SbQ.done K26.out I26.out (by rw [er.out]; simp only [givenT, HU1.out, HQ.out, HG.out, HR16.out, HIT.out, HU5.out, if_true, if_false, Bool.false_eq_true, not_true, not_false_iff]; try rfl)
            · have ht2 : decide (isTarget p) = false := decide_eq_false ht
              have HIT := Lib.hid ht
              rw [ht2] at HT
              clear ht ht2
              go_wp2_with (first
                | (go_at_call 54; (refine HT.out.mono ?_); rintro e w21 ⟨rfl, k_⟩; have K21 := Lib.hid (K20.out.quiet k_); clear k_)
                | (go_at_call 48; (refine (lfail_any _ 8 (atT en l) _).mono ?_); rintro e w9 ⟨rfl, rfl⟩))
              exact ⟨rfl, SbQ.thrown K21.out (Kept.refl _ _) (by rw [er.out]; simp only [givenT, HU1.out, HQ.out, HG.out, HIT.out, if_true, if_false, Bool.false_eq_true, not_true, not_false_iff])⟩
theorem lbody_any {N T en M : Nat} {lb : ByteArray} {l : List LTok} {w : World} (h : SbI N T en M (st1 lb) l w) : Calls Tryz.prog 45 #[.pointer (some ⟨N, 0, none⟩), .pointer (some ⟨M, 0, none⟩)] w (SbQ N T en M (bodyT en (st1 lb) l) w) := by
  cases hd : isDefine l with
  | true => exact lbody_define h hd
  | false => cases hr : isRule l with
    | true => exact lbody_rule h hd hr
    | false => exact lbody_eval h hd hr
end Go.Proofs.YtlnhcgihpclpaaaGreatDoor
