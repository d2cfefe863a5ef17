/- The program's reader of lines: define. -/
import Derived.Test.YtlnhcgihpclpaaaGreatDoorLm21
namespace Go.Proofs.YtlnhcgihpclpaaaGreatDoor
set_option linter.all false
open Go.RowKit

def st1 (lb : ByteArray) : StT := { st0 with label := lb }
theorem SbI.slot {N T en M : Nat} {s : StT} {l : List LTok} {w : World} (h : SbI N T en M s l w) (i : Nat) (hi : i < 24) : ∃ v, w.cell? ⟨M, i, none⟩ = some v ∧ w.frozen? ⟨M, i, none⟩ = false := by
  obtain ⟨a, S, hB, _⟩ := h.st
  have hf := hB.free i
  unfold StB at hB
  refine ⟨(stCells a s)[i]'(by simpa [stCells] using hi), ?_, hf⟩
  · rw [cell_of_row w M i _ _ _ hB]
    have e : ∀ (j : Nat) (hj : j < (stCells a s).length), (stCells a s).toArray[j]? = some (stCells a s)[j] := fun j hj => by simp [hj]
    exact e i (by simpa [stCells] using hi)
theorem SbI.ltM {N T en M : Nat} {s : StT} {l : List LTok} {w : World} (h : SbI N T en M s l w) : M < w.heap.size := by obtain ⟨a, S, h2, _⟩ := h.st; exact h2.lt
theorem keptNM {N M : Nat} {w w2 : World} (h : Kept (· = M) w w2) : Kept (fun b => b = N ∨ b = M) w w2 := h.more fun _ h => .inr h
theorem keptN {N M : Nat} {w w2 : World} (h : Kept (· = N) w w2) : Kept (fun b => b = N ∨ b = M) w w2 := h.more fun _ h => .inl h
theorem names_sz {c : Option ByteArray} {en : Nat} : ∀ (f : Nat) (ns : List ByteArray) (l : List LTok) (ns2 : List ByteArray) (r : List LTok), namesT c en f ns l = .ok (ns2, r) → (∀ x ∈ ns, x.size ≤ 16) → (∀ x ∈ ns2, x.size ≤ 16) ∧ ns2.length ≤ ns.length + f ∧ r.length ≤ l.length := by
  intro f
  induction f with
  | zero => intro ns l ns2 r h hx; simp only [namesT, Except.ok.injEq, Prod.mk.injEq] at h; obtain ⟨rfl, rfl⟩ := h; exact ⟨hx, by omega, by omega⟩
  | succ f ih =>
    intro ns l ns2 r h hx
    rw [namesT] at h
    split at h
    · cases h
    · split at h
      · cases h
      · next n r1 hn =>
        have hnl := nameT_len hn
        have hx2 : ∀ x ∈ ns ++ [n], x.size ≤ 16 := by
          intro x hm
          rcases List.mem_append.1 hm with hm | hm
          · exact hx x hm
          · rw [List.mem_singleton.1 hm]; exact name_size hn
        have hl2 : (ns ++ [n]).length = ns.length + 1 := by simp
        split at h
        · split at h
          · next hs => simp only [Except.ok.injEq, Prod.mk.injEq] at h; obtain ⟨rfl, rfl⟩ := h; have := signT_len hs; exact ⟨hx2, by omega, by omega⟩
          · split at h
            · cases h
            · next r2 hd =>
              obtain ⟨a, b, c⟩ := ih _ _ _ _ h hx2
              have := needT_len hd
              exact ⟨a, by omega, by omega⟩
        · split at h
          · next hs => obtain ⟨a, b, c⟩ := ih _ _ _ _ h hx2; have := signT_len hs; exact ⟨a, by omega, by omega⟩
          · simp only [Except.ok.injEq, Prod.mk.injEq] at h; obtain ⟨rfl, rfl⟩ := h; exact ⟨hx2, by omega, by omega⟩
theorem names_sz0 {c : Option ByteArray} {en : Nat} {l : List LTok} {ns2 : List ByteArray} {r : List LTok} (h : namesT c en 9 [] l = .ok (ns2, r)) : (ns2.length < 1000000000 ∧ ∀ x ∈ ns2, x.size < 1000000000) ∧ r.length ≤ l.length := by
  obtain ⟨a, b, c⟩ := names_sz _ _ _ _ _ h (fun x hx => by cases hx)
  simp only [List.length_nil] at b
  exact ⟨⟨by omega, fun x hx => by have := a x hx; omega⟩, c⟩
theorem list44 : ([44] : List UInt8) = (⟨#[44]⟩ : ByteArray).toList := by rw [ByteArray.toList_eq]
/-- The token behind the next. -/
theorem Psr.second {N T en n c d : Nat} {o : Nat} {t u : LTok} {r : List LTok} {w : World} (h : Psr N T en n (some ⟨T, o, none⟩) c (t :: u :: r) d w) : w.cell? ⟨T, o + 3, none⟩ = some (.int .i64 u.kind) ∧ w.cell? ⟨T, o + 4, none⟩ = some (.string u.text) := by
  obtain ⟨o', e, hc⟩ := h.toks (by simp)
  simp only [Option.some.injEq, Addr.mk.injEq, true_and, and_true] at e
  subst e
  have e2 : ltsC (t :: u :: r) = ltC t ++ (ltC u ++ ltsC r) := by simp [ltsC]
  rw [e2] at hc
  exact ⟨hc 3 _ rfl, hc 4 _ rfl⟩
set_option maxRecDepth 100000 in
set_option maxHeartbeats 8000000 in
theorem ldefine_any {N T en M : Nat} {lb : ByteArray} {l : List LTok} {w : World} (h : SbI N T en M (st1 lb) l w) : Calls Tryz.prog 66 #[.pointer (some ⟨N, 0, none⟩), .pointer (some ⟨M, 0, none⟩)] w (SbQ N T en M (defineT en (st1 lb) l) w) := by
  obtain ⟨v1, c1, f1⟩ := h.slot 1 (by decide)
  obtain ⟨w1, hw1⟩ : ∃ w1, w1 = w.setCell ⟨M, 1, none⟩ (.int .i64 7) := ⟨_, rfl⟩
  have I1 := h.setKind 7
  have K1 : Kept (fun b => b = N ∨ b = M) w (w.setCell ⟨M, 1, none⟩ (.int .i64 7)) := keptNM setM
  rw [← hw1] at I1 K1
  have I1 := Lib.hid I1; have K1 := Lib.hid K1; have HW1 := Lib.hid hw1
  clear h hw1
  go_enter Tryz.func66, Tryz.ntmps66
  go_upto_region 1 with fail
  rw [← HW1.out]
  clear c1 f1
  go_upto_region 2 with (go_at_call 43; (refine (lname_any I1.out.rdr).mono ?_); intro e w2 h_; rcases hu : nameT en l with e0 | ⟨nm, r1⟩; (obtain ⟨k_, rfl⟩ := h_.bad hu; have f_ : SbQ N T en M (defineT en (st1 lb) l) w (.panicked [{ v := lineOops e0, recovered := false }]) _ := SbQ.thrown K1.out k_ (by unfold defineT; simp only [hu, if_true, if_false, Bool.false_eq_true]); exact ⟨rfl, f_⟩); (obtain ⟨k_, rfl, r_⟩ := h_.ok hu; have HU1 := Lib.hid hu; have I2 := Lib.hid (I1.out.rdr_to k_ r_ (by have := nameT_len hu; omega)); have K2 := Lib.hid (K1.out.trans (keptN k_)); obtain ⟨v17, c17, f17⟩ := I2.out.slot 17 (by decide); clear k_ r_ h_ hu))
  have I3 := Lib.hid (I2.out.setName nm (by have := name_size HU1.out; omega))
  have K3 := Lib.hid (K2.out.trans (keptNM (setM (w := w2) (M := M) (i := 17) (v := .string nm))))
  obtain ⟨w3, hw3⟩ : ∃ w3, w3 = w2.setCell ⟨M, 17, none⟩ (.string nm) := ⟨_, rfl⟩
  rw [← hw3] at I3 K3
  rw [← hw3]
  clear hw3 c17 f17
  go_upto_region 3 with (go_at_call 67; (refine (lneed_any (bs [40]) I3.out.rdr).mono ?_); intro e w4 h_; rcases hu : needT (bs [40]) en r1 with e0 | r2; (obtain ⟨k_, rfl⟩ := h_.bad hu; have f_ : SbQ N T en M (defineT en (st1 lb) l) w (.panicked [{ v := lineOops e0, recovered := false }]) _ := SbQ.thrown K3.out k_ (by unfold defineT; simp only [HU1.out, hu, if_true, if_false, Bool.false_eq_true]); exact ⟨rfl, f_⟩); (obtain ⟨k_, rfl, r_⟩ := h_.ok hu; have HU2 := Lib.hid hu; have I4 := Lib.hid (I3.out.rdr_to k_ r_ (by have := needT_len hu; omega)); have K4 := Lib.hid (K3.out.trans (keptN k_)); clear k_ r_ h_ hu))
  cases hs : signT ⟨#[41]⟩ r2 with
  | true =>
    have HS : Hid (signT (bs [41]) r2 = true) := hs
    go_upto_region 5 with (go_at_call 46; (with_reducible refine (lis_yes ⟨#[41]⟩ I4.out.rdr hs).mono ?_); rintro e w5 ⟨rfl, r_, k_⟩; have I5 := Lib.hid (I4.out.rdr_to k_ r_ (by have := signT_len hs; omega)); have K5 := Lib.hid (K4.out.trans (keptN k_)); clear r_ k_)
    obtain ⟨r5, hr5⟩ : ∃ r5, r5 = r2.tail := ⟨_, rfl⟩
    have HR5 : Hid (r2.tail = r5) := hr5.symm
    rw [← hr5] at I5
    clear hr5
    obtain ⟨nq, aq, cq, hq⟩ := I5.out.rdr
    go_cut [57] (fun c wx => c = .bool (commaNext r5) ∧ wx = w5)
    case first =>
      obtain ⟨c0, c1, cd, cf⟩ := hq.c0
      have hn := hq.num
      rcases r5 with _ | ⟨t, _ | ⟨u, r9⟩⟩
      · have z : decide ((1 : Int) < (nq : Int)) = false := by rw [hn]; rfl
        have z' : decide (1 < nq) = false := by rw [hn]; rfl
        clear hn hq cf
        go_wp2_with fail
        go_meet
        exact ⟨rfl, rfl⟩
      · have z : decide ((1 : Int) < (nq : Int)) = false := by rw [hn]; rfl
        have z' : decide (1 < nq) = false := by rw [hn]; rfl
        clear hn hq cf
        go_wp2_with fail
        go_meet
        exact ⟨rfl, rfl⟩
      · rw [List.length_cons, List.length_cons] at hn
        have h0 : 1 < nq := by omega
        have h1 : (1 : Int) < (nq : Int) := by omega
        have z : decide ((1 : Int) < (nq : Int)) = true := decide_eq_true h1
        have z' : decide (1 < nq) = true := decide_eq_true h0
        obtain ⟨o, rfl, t0, t1, t2⟩ := hq.head
        obtain ⟨u0, u1⟩ := hq.second
        clear hn hq cf
        by_cases hk1 : u.kind = 1
        · have y : (u.kind == 1) = true := by simpa using hk1
          have fin : Hid (commaNext (t :: u :: r9) = true) := by show (decide (u.kind = 1) || decide (u.kind = 5 ∧ u.text = bs [44])) = _; rw [decide_eq_true hk1]; rfl
          clear hk1
          go_wp2_with fail
          go_meet
          exact ⟨by rw [fin.out], rfl⟩
        · have y : (u.kind == 1) = false := by simpa using hk1
          by_cases hk5 : u.kind = 5
          · have y5 : (u.kind == 5) = true := by simpa using hk5
            by_cases hx : u.text = bs [44]
            · have y2 : (u.text.toList == [44]) = true := by rw [list44, bytes_beqL]; exact decide_eq_true hx
              have fin : Hid (commaNext (t :: u :: r9) = true) := by show (decide (u.kind = 1) || decide (u.kind = 5 ∧ u.text = bs [44])) = _; rw [decide_eq_true (p := u.kind = 5 ∧ _) ⟨hk5, hx⟩, Bool.or_true]
              clear hk1 hk5 hx
              go_wp2_with fail
              go_meet
              exact ⟨by rw [fin.out], rfl⟩
            · have y2 : (u.text.toList == [44]) = false := by rw [list44, bytes_beqL]; exact decide_eq_false hx
              have fin : Hid (commaNext (t :: u :: r9) = false) := by show (decide (u.kind = 1) || decide (u.kind = 5 ∧ u.text = bs [44])) = _; rw [decide_eq_false hk1, decide_eq_false (p := u.kind = 5 ∧ _) (fun h => hx h.2)]; rfl
              clear hk1 hk5 hx
              go_wp2_with fail
              go_meet
              exact ⟨by rw [fin.out], rfl⟩
          · have y5 : (u.kind == 5) = false := by simpa using hk5
            have fin : Hid (commaNext (t :: u :: r9) = false) := by show (decide (u.kind = 1) || decide (u.kind = 5 ∧ u.text = bs [44])) = _; rw [decide_eq_false hk1, decide_eq_false (p := u.kind = 5 ∧ _) (fun h => hk5 h.1)]; rfl
            clear hk1 hk5
            go_wp2_with fail
            go_meet
            exact ⟨by rw [fin.out], rfl⟩
    case rest =>
      obtain ⟨rfl, rfl⟩ := hcut
      have HW := Lib.hid hq
      clear hq
      cases hc : commaNext r5 with
      | false =>
        go_wp2_with (go_at_call 43; (refine (lname_any I5.out.rdr).mono ?_); intro e w30 h_; rcases hu : nameT en r5 with e0 | ⟨en4, r4⟩; (obtain ⟨k_, rfl⟩ := h_.bad hu; have f_ : SbQ N T en M (defineT en (st1 lb) l) w (.panicked [{ v := lineOops e0, recovered := false }]) _ := SbQ.thrown K5.out k_ (by unfold defineT; simp only [HU1.out, HU2.out, HS.out, HR5.out, hc, hu, if_true, if_false, Bool.false_eq_true]); exact ⟨rfl, f_⟩); (obtain ⟨k_, rfl, r_⟩ := h_.ok hu; have HU4 := Lib.hid hu; have I30 := Lib.hid (I5.out.rdr_to k_ r_ (by have := nameT_len hu; omega)); have K30 := Lib.hid (K5.out.trans (keptN k_)); obtain ⟨v18, c18, f18⟩ := I30.out.slot 18 (by decide); clear k_ r_ h_ hu))
        (first | go_end0 | (refine bodyPost_ret (results_none rfl _ _ _) rfl ?_))
        exact SbQ.done (K30.out.trans (keptNM (setM (w := w30) (M := M) (i := 18) (v := .string en4)))) (I30.out.setEntry en4 (by have := name_size HU4.out; omega)) (by unfold defineT; simp only [HU1.out, HU2.out, HS.out, HR5.out, hc, HU4.out, if_true, if_false, Bool.false_eq_true]; try rfl)
      | true =>
        go_upto_region 7 with (go_at_call 85; (refine (lnames_open I5.out.rdr).mono ?_); intro e w21 h_; rcases hu : namesT none en 9 [] r5 with e0 | ⟨ls, r3⟩; (obtain ⟨k_, rfl⟩ := h_.bad hu; have f_ : SbQ N T en M (defineT en (st1 lb) l) w (.panicked [{ v := lineOops e0, recovered := false }]) _ := SbQ.thrown K5.out k_ (by unfold defineT; simp only [HU1.out, HU2.out, HS.out, HR5.out, hc, hu, if_true, if_false, Bool.false_eq_true]); exact ⟨rfl, f_⟩); (obtain ⟨k_, r_, la, lc, rfl, hw_⟩ := h_.ok hu; have HU5 := Lib.hid hu; have LN := Lib.hid (names_sz0 hu); have I21 := Lib.hid (I5.out.rdr_to k_ r_ LN.out.2); have I22 := Lib.hid (I5.out.setLocals k_ r_ LN.out.2 hw_ LN.out.1); have K21 := Lib.hid (K5.out.trans (keptN k_)); obtain ⟨v20, c20, f20⟩ := I21.out.slot 20 (by decide); clear k_ r_ h_ hu hw_))
        have K22 := Lib.hid (K21.out.trans (keptNM (setM (w := w21) (M := M) (i := 20) (v := .slice la ls.length lc))))
        obtain ⟨w22, hw22⟩ : ∃ w22, w22 = w21.setCell ⟨M, 20, none⟩ (.slice la ls.length lc) := ⟨_, rfl⟩
        rw [← hw22] at I22 K22
        rw [← hw22]
        clear hw22 c20 f20
        go_wp2_with (go_at_call 43; (refine (lname_any I22.out.rdr).mono ?_); intro e w30 h_; rcases hu : nameT en r3 with e0 | ⟨en4, r4⟩; (obtain ⟨k_, rfl⟩ := h_.bad hu; have f_ : SbQ N T en M (defineT en (st1 lb) l) w (.panicked [{ v := lineOops e0, recovered := false }]) _ := SbQ.thrown K22.out k_ (by unfold defineT; simp only [HU1.out, HU2.out, HS.out, HR5.out, hc, HU5.out, hu, if_true, if_false, Bool.false_eq_true]); exact ⟨rfl, f_⟩); (obtain ⟨k_, rfl, r_⟩ := h_.ok hu; have HU4 := Lib.hid hu; have I30 := Lib.hid (I22.out.rdr_to k_ r_ (by have := nameT_len hu; omega)); have K30 := Lib.hid (K22.out.trans (keptN k_)); obtain ⟨v18, c18, f18⟩ := I30.out.slot 18 (by decide); clear k_ r_ h_ hu))
        (first | go_end0 | (refine bodyPost_ret (results_none rfl _ _ _) rfl ?_))
        exact SbQ.done (K30.out.trans (keptNM (setM (w := w30) (M := M) (i := 18) (v := .string en4)))) (I30.out.setEntry en4 (by have := name_size HU4.out; omega)) (by unfold defineT; simp only [HU1.out, HU2.out, HS.out, HR5.out, hc, HU5.out, HU4.out, if_true, if_false, Bool.false_eq_true]; try rfl)
  | false =>
    have HS : Hid (signT (bs [41]) r2 = false) := hs
    go_upto_region 4 with (go_at_call 46; (with_reducible refine (lis_no ⟨#[41]⟩ I4.out.rdr hs).mono ?_); rintro e w5 ⟨rfl, r_, k_⟩; have I5 := Lib.hid (I4.out.rdr_to k_ r_ (Nat.le_refl _)); have K5 := Lib.hid (K4.out.trans (keptN k_)); clear r_ k_)
    go_upto_region 5 with (go_at_call 85; (refine (lnames_close I5.out.rdr).mono ?_); intro e w6 h_; rcases hu : namesT (some (bs [41])) en 9 [] r2 with e0 | ⟨ps, r5⟩; (obtain ⟨k_, rfl⟩ := h_.bad hu; have f_ : SbQ N T en M (defineT en (st1 lb) l) w (.panicked [{ v := lineOops e0, recovered := false }]) _ := SbQ.thrown K5.out k_ (by unfold defineT; simp only [HU1.out, HU2.out, HS.out, hu, if_true, if_false, Bool.false_eq_true]); exact ⟨rfl, f_⟩); (obtain ⟨k_, r_, pa, pc, rfl, hw_⟩ := h_.ok hu; have HU3 := Lib.hid hu; have LN := Lib.hid (names_sz0 hu); have I6 := Lib.hid (I5.out.rdr_to k_ r_ LN.out.2); have I7 := Lib.hid (I5.out.setParams k_ r_ LN.out.2 hw_ LN.out.1); have K6 := Lib.hid (K5.out.trans (keptN k_)); obtain ⟨v19, c19, f19⟩ := I6.out.slot 19 (by decide); clear k_ r_ h_ hu hw_))
    have K7 := Lib.hid (K6.out.trans (keptNM (setM (w := w6) (M := M) (i := 19) (v := .slice pa ps.length pc))))
    obtain ⟨w7, hw7⟩ : ∃ w7, w7 = w6.setCell ⟨M, 19, none⟩ (.slice pa ps.length pc) := ⟨_, rfl⟩
    rw [← hw7] at I7 K7
    rw [← hw7]
    clear hw7 c19 f19
    obtain ⟨nq, aq, cq, hq⟩ := I7.out.rdr
    go_cut [57] (fun c wx => c = .bool (commaNext r5) ∧ wx = w7)
    case first =>
      obtain ⟨c0, c1, cd, cf⟩ := hq.c0
      have hn := hq.num
      rcases r5 with _ | ⟨t, _ | ⟨u, r9⟩⟩
      · have z : decide ((1 : Int) < (nq : Int)) = false := by rw [hn]; rfl
        have z' : decide (1 < nq) = false := by rw [hn]; rfl
        clear hn hq cf
        go_wp2_with fail
        go_meet
        exact ⟨rfl, rfl⟩
      · have z : decide ((1 : Int) < (nq : Int)) = false := by rw [hn]; rfl
        have z' : decide (1 < nq) = false := by rw [hn]; rfl
        clear hn hq cf
        go_wp2_with fail
        go_meet
        exact ⟨rfl, rfl⟩
      · rw [List.length_cons, List.length_cons] at hn
        have h0 : 1 < nq := by omega
        have h1 : (1 : Int) < (nq : Int) := by omega
        have z : decide ((1 : Int) < (nq : Int)) = true := decide_eq_true h1
        have z' : decide (1 < nq) = true := decide_eq_true h0
        obtain ⟨o, rfl, t0, t1, t2⟩ := hq.head
        obtain ⟨u0, u1⟩ := hq.second
        clear hn hq cf
        by_cases hk1 : u.kind = 1
        · have y : (u.kind == 1) = true := by simpa using hk1
          have fin : Hid (commaNext (t :: u :: r9) = true) := by show (decide (u.kind = 1) || decide (u.kind = 5 ∧ u.text = bs [44])) = _; rw [decide_eq_true hk1]; rfl
          clear hk1
          go_wp2_with fail
          go_meet
          exact ⟨by rw [fin.out], rfl⟩
        · have y : (u.kind == 1) = false := by simpa using hk1
          by_cases hk5 : u.kind = 5
          · have y5 : (u.kind == 5) = true := by simpa using hk5
            by_cases hx : u.text = bs [44]
            · have y2 : (u.text.toList == [44]) = true := by rw [list44, bytes_beqL]; exact decide_eq_true hx
              have fin : Hid (commaNext (t :: u :: r9) = true) := by show (decide (u.kind = 1) || decide (u.kind = 5 ∧ u.text = bs [44])) = _; rw [decide_eq_true (p := u.kind = 5 ∧ _) ⟨hk5, hx⟩, Bool.or_true]
              clear hk1 hk5 hx
              go_wp2_with fail
              go_meet
              exact ⟨by rw [fin.out], rfl⟩
            · have y2 : (u.text.toList == [44]) = false := by rw [list44, bytes_beqL]; exact decide_eq_false hx
              have fin : Hid (commaNext (t :: u :: r9) = false) := by show (decide (u.kind = 1) || decide (u.kind = 5 ∧ u.text = bs [44])) = _; rw [decide_eq_false hk1, decide_eq_false (p := u.kind = 5 ∧ _) (fun h => hx h.2)]; rfl
              clear hk1 hk5 hx
              go_wp2_with fail
              go_meet
              exact ⟨by rw [fin.out], rfl⟩
          · have y5 : (u.kind == 5) = false := by simpa using hk5
            have fin : Hid (commaNext (t :: u :: r9) = false) := by show (decide (u.kind = 1) || decide (u.kind = 5 ∧ u.text = bs [44])) = _; rw [decide_eq_false hk1, decide_eq_false (p := u.kind = 5 ∧ _) (fun h => hk5 h.1)]; rfl
            clear hk1 hk5
            go_wp2_with fail
            go_meet
            exact ⟨by rw [fin.out], rfl⟩
    case rest =>
      obtain ⟨rfl, rfl⟩ := hcut
      have HW := Lib.hid hq
      clear hq
      cases hc : commaNext r5 with
      | false =>
        go_wp2_with (go_at_call 43; (refine (lname_any I7.out.rdr).mono ?_); intro e w30 h_; rcases hu : nameT en r5 with e0 | ⟨en4, r4⟩; (obtain ⟨k_, rfl⟩ := h_.bad hu; have f_ : SbQ N T en M (defineT en (st1 lb) l) w (.panicked [{ v := lineOops e0, recovered := false }]) _ := SbQ.thrown K7.out k_ (by unfold defineT; simp only [HU1.out, HU2.out, HS.out, HU3.out, hc, hu, if_true, if_false, Bool.false_eq_true]); exact ⟨rfl, f_⟩); (obtain ⟨k_, rfl, r_⟩ := h_.ok hu; have HU4 := Lib.hid hu; have I30 := Lib.hid (I7.out.rdr_to k_ r_ (by have := nameT_len hu; omega)); have K30 := Lib.hid (K7.out.trans (keptN k_)); obtain ⟨v18, c18, f18⟩ := I30.out.slot 18 (by decide); clear k_ r_ h_ hu))
        (first | go_end0 | (refine bodyPost_ret (results_none rfl _ _ _) rfl ?_))
        exact SbQ.done (K30.out.trans (keptNM (setM (w := w30) (M := M) (i := 18) (v := .string en4)))) (I30.out.setEntry en4 (by have := name_size HU4.out; omega)) (by unfold defineT; simp only [HU1.out, HU2.out, HS.out, HU3.out, hc, HU4.out, if_true, if_false, Bool.false_eq_true]; try rfl)
      | true =>
        go_upto_region 7 with (go_at_call 85; (refine (lnames_open I7.out.rdr).mono ?_); intro e w21 h_; rcases hu : namesT none en 9 [] r5 with e0 | ⟨ls, r3⟩; (obtain ⟨k_, rfl⟩ := h_.bad hu; have f_ : SbQ N T en M (defineT en (st1 lb) l) w (.panicked [{ v := lineOops e0, recovered := false }]) _ := SbQ.thrown K7.out k_ (by unfold defineT; simp only [HU1.out, HU2.out, HS.out, HU3.out, hc, hu, if_true, if_false, Bool.false_eq_true]); exact ⟨rfl, f_⟩); (obtain ⟨k_, r_, la, lc, rfl, hw_⟩ := h_.ok hu; have HU5 := Lib.hid hu; have LN := Lib.hid (names_sz0 hu); have I21 := Lib.hid (I7.out.rdr_to k_ r_ LN.out.2); have I22 := Lib.hid (I7.out.setLocals k_ r_ LN.out.2 hw_ LN.out.1); have K21 := Lib.hid (K7.out.trans (keptN k_)); obtain ⟨v20, c20, f20⟩ := I21.out.slot 20 (by decide); clear k_ r_ h_ hu hw_))
        have K22 := Lib.hid (K21.out.trans (keptNM (setM (w := w21) (M := M) (i := 20) (v := .slice la ls.length lc))))
        obtain ⟨w22, hw22⟩ : ∃ w22, w22 = w21.setCell ⟨M, 20, none⟩ (.slice la ls.length lc) := ⟨_, rfl⟩
        rw [← hw22] at I22 K22
        rw [← hw22]
        clear hw22 c20 f20
        go_wp2_with (go_at_call 43; (refine (lname_any I22.out.rdr).mono ?_); intro e w30 h_; rcases hu : nameT en r3 with e0 | ⟨en4, r4⟩; (obtain ⟨k_, rfl⟩ := h_.bad hu; have f_ : SbQ N T en M (defineT en (st1 lb) l) w (.panicked [{ v := lineOops e0, recovered := false }]) _ := SbQ.thrown K22.out k_ (by unfold defineT; simp only [HU1.out, HU2.out, HS.out, HU3.out, hc, HU5.out, hu, if_true, if_false, Bool.false_eq_true]); exact ⟨rfl, f_⟩); (obtain ⟨k_, rfl, r_⟩ := h_.ok hu; have HU4 := Lib.hid hu; have I30 := Lib.hid (I22.out.rdr_to k_ r_ (by have := nameT_len hu; omega)); have K30 := Lib.hid (K22.out.trans (keptN k_)); obtain ⟨v18, c18, f18⟩ := I30.out.slot 18 (by decide); clear k_ r_ h_ hu))
        (first | go_end0 | (refine bodyPost_ret (results_none rfl _ _ _) rfl ?_))
        exact SbQ.done (K30.out.trans (keptNM (setM (w := w30) (M := M) (i := 18) (v := .string en4)))) (I30.out.setEntry en4 (by have := name_size HU4.out; omega)) (by unfold defineT; simp only [HU1.out, HU2.out, HS.out, HU3.out, hc, HU5.out, HU4.out, if_true, if_false, Bool.false_eq_true]; try rfl)
end Go.Proofs.YtlnhcgihpclpaaaGreatDoor
