/- The program's reader of lines: jumps. -/
import Derived.Test.YtlnhcgihpclpaaaGreatDoorPs21
import Derived.LaidEql
namespace Go.Proofs.YtlnhcgihpclpaaaGreatDoor
set_option linter.all false
open Go.RowKit

theorem equalPtr (d M i j : Nat) (w : World) : (Op.equalIn (d + 1) 111 (.pointer (some ⟨M, i, none⟩)) (.pointer (some ⟨M, j, none⟩))).run Tryz.prog w = .ok (decide (i = j)) w := by
  have hsz : (sizeOf 9).run Tryz.prog w = .ok 1 w := by kernel_rfl
  by_cases h : i = j
  · subst h; simp [Op.equalIn, run_underlying Tryz.underlying111, hsz, sameAddr]
  · simp [Op.equalIn, run_underlying Tryz.underlying111, hsz, sameAddr, h]
theorem eqPtr (M i j : Nat) (w : World) : (binOp .eql 111 (.pointer (some ⟨M, i, none⟩)) (.pointer (some ⟨M, j, none⟩))).run Tryz.prog w = .ok (.bool (decide (i = j))) w := by
  simp only [binOp]
  simp [Op.equal, Op.maxDepth, equalPtr 9999]
theorem eqPtr_same (M : Nat) (w : World) : (binOp .eql 111 (.pointer (some ⟨M, 22, none⟩)) (.pointer (some ⟨M, 22, none⟩))).run Tryz.prog w = .ok (.bool true) w := eqPtr M 22 22 w
theorem eqPtr_not (M : Nat) (w : World) : (binOp .eql 111 (.pointer (some ⟨M, 23, none⟩)) (.pointer (some ⟨M, 22, none⟩))).run Tryz.prog w = .ok (.bool false) w := eqPtr M 23 22 w
/-- The rounds of jumps: so many left. -/
def jmpG (en : Nat) : Nat → StT → List LTok → TRes StT
  | 0, s, l => .ok (s, l)
  | f + 1, s, l =>
    if f = 0 ∧ l = [] then .ok (s, l)
    else match takeT 1 en l with
      | .error er => .error er
      | .ok (t, r) =>
        if t.text = bs [83] then
          if s.yes ≠ E0 ∨ f = 0 then .error (2, atT en l)
          else match labelT en r with
            | .error er => .error er
            | .ok (n, r1) => jmpG en f { s with yes := n } r1
        else if t.text = bs [70] then
          if s.noes ≠ E0 then .error (2, atT en l)
          else match labelT en r with
            | .error er => .error er
            | .ok (n, r1) => jmpG en f { s with noes := n } r1
        else .error (2, atT en l)
theorem takeT_bad {k : Int} {en : Nat} {l : List LTok} {er : Er} (h : takeT k en l = .error er) : er = (2, atT en l) := by
  cases l with
  | nil => simp only [takeT, Except.error.injEq] at h; exact h.symm
  | cons t r =>
    simp only [takeT] at h
    split at h
    · cases h
    · simp only [Except.error.injEq] at h; exact h.symm
theorem takeT_mem {k : Int} {en : Nat} {l r : List LTok} {t : LTok} (h : takeT k en l = .ok (t, r)) : l = t :: r ∧ t.kind = k := by
  cases l with
  | nil => cases h
  | cons u v =>
    simp only [takeT] at h
    split at h
    · next hk => simp only [Except.ok.injEq, Prod.mk.injEq] at h; obtain ⟨rfl, rfl⟩ := h; exact ⟨rfl, hk⟩
    · cases h
theorem needT_tail {x : ByteArray} {en : Nat} {l r : List LTok} (h : needT x en l = .ok r) : r = l.tail := by
  unfold needT at h
  split at h
  · simp only [Except.ok.injEq] at h; exact h.symm
  · cases h
theorem TokB.tail {l : List LTok} (h : TokB l) : TokB l.tail := by
  cases l with
  | nil => exact h
  | cons t r => exact fun u hu => h u (List.mem_cons_of_mem _ hu)
theorem name_ne {en : Nat} {l r : List LTok} {x : ByteArray} (hb : TokB l) (h : nameT en l = .ok (x, r)) : x ≠ E0 ∧ r = l.tail := by
  unfold nameT at h
  split at h
  · cases h
  · next t r1 ht =>
    obtain ⟨rfl, hk⟩ := takeT_mem ht
    split at h
    · cases h
    · simp only [Except.ok.injEq, Prod.mk.injEq] at h; obtain ⟨rfl, rfl⟩ := h
      exact ⟨fun e => (hb t (List.mem_cons_self ..)).2.2.2.2 hk (by rw [e]; rfl), rfl⟩
theorem label_ne {en : Nat} {l r : List LTok} {x : ByteArray} (hb : TokB l) (h : labelT en l = .ok (x, r)) : x ≠ E0 ∧ TokB r ∧ r.length ≤ l.length ∧ x.size ≤ 16 := by
  unfold labelT at h
  split at h
  · cases h
  · next r1 h1 =>
    split at h
    · cases h
    · next n r2 h2 =>
      split at h
      · cases h
      · next r3 h3 =>
        simp only [Except.ok.injEq, Prod.mk.injEq] at h; obtain ⟨rfl, rfl⟩ := h
        have e1 := needT_tail h1; have e3 := needT_tail h3
        have b1 : TokB r1 := by rw [e1]; exact hb.tail
        obtain ⟨hne, e2⟩ := name_ne b1 h2
        have b2 : TokB r2 := by rw [e2]; exact b1.tail
        have l1 := needT_len h1; have l2 := nameT_len h2; have l3 := needT_len h3
        exact ⟨hne, by rw [e3]; exact b2.tail, by omega, name_size h2⟩
theorem jmpG_eq {en : Nat} {s : StT} {l : List LTok} (hb : TokB l) (hy : s.yes = E0) (hn : s.noes = E0) (hs : signT (bs [40]) l = false) : jumpsT en s l = jmpG en 2 s l := by
  have e83 : bs [70] ≠ bs [83] := by decide
  unfold jumpsT jmpG
  rw [hs]
  simp only [if_false, Bool.false_eq_true, show ¬ ((1 : Nat) = 0 ∧ l = []) from fun h => by simp at h]
  cases ht : takeT 1 en l with
  | error er => rfl
  | ok x =>
    obtain ⟨t, r⟩ := x
    obtain ⟨rfl, hk⟩ := takeT_mem ht
    have hbr : TokB r := hb.tail
    dsimp only
    by_cases h1 : t.text = bs [83]
    · rw [if_pos h1, if_pos h1, if_neg (by rw [hy]; simp)]
      cases hl : labelT en r with
      | error er => rfl
      | ok y =>
        obtain ⟨n, r1⟩ := y
        obtain ⟨hne, hb1, _, _⟩ := label_ne hbr hl
        dsimp only
        unfold jmpG
        by_cases h0 : r1 = []
        · rw [if_pos h0, if_pos ⟨rfl, h0⟩]
        · rw [if_neg h0, if_neg (fun h => h0 h.2)]
          cases ht2 : takeT 1 en r1 with
          | error er => rfl
          | ok z =>
            obtain ⟨u, r2⟩ := z
            dsimp only
            by_cases h2 : u.text = bs [70]
            · rw [if_pos h2, if_neg (by rw [h2]; exact e83), if_pos h2, if_neg (by rw [hn]; simp)]
              cases labelT en r2 with
              | error er => rfl
              | ok y2 => rfl
            · rw [if_neg h2]
              by_cases h3 : u.text = bs [83]
              · rw [if_pos h3, if_pos (.inr rfl)]
              · rw [if_neg h3, if_neg h2]
    · rw [if_neg h1, if_neg h1]
      by_cases h2 : t.text = bs [70]
      · rw [if_pos h2, if_pos h2, if_neg (by rw [hn]; simp)]
        cases hl : labelT en r with
        | error er => rfl
        | ok y =>
          obtain ⟨n, r1⟩ := y
          obtain ⟨hne, hb1, _, _⟩ := label_ne hbr hl
          dsimp only
          unfold jmpG
          by_cases h0 : r1 = []
          · rw [if_pos h0, if_pos ⟨rfl, h0⟩]
          · rw [if_neg h0, if_neg (fun h => h0 h.2)]
            cases ht2 : takeT 1 en r1 with
            | error er => rw [takeT_bad ht2]
            | ok z =>
              obtain ⟨u, r2⟩ := z
              dsimp only
              by_cases h3 : u.text = bs [83]
              · rw [if_pos h3, if_pos (.inr rfl)]
              · rw [if_neg h3]
                by_cases h4 : u.text = bs [70]
                · rw [if_pos h4, if_pos hne]
                · rw [if_neg h4]
      · rw [if_neg h2, if_neg h2]
theorem SbI.yesno {N T en M : Nat} {s : StT} {l : List LTok} {w : World} (h : SbI N T en M s l w) : w.cell? ⟨M, 22, none⟩ = some (.string s.yes) ∧ w.cell? ⟨M, 23, none⟩ = some (.string s.noes) ∧ w.frozen? ⟨M, 22, none⟩ = false ∧ w.frozen? ⟨M, 23, none⟩ = false := by
  obtain ⟨a, S, hB, _⟩ := h.st
  exact ⟨by unfold StB at hB; rw [cell_of_row w M _ _ _ _ hB]; rfl, by unfold StB at hB; rw [cell_of_row w M _ _ _ _ hB]; rfl, hB.free 22, hB.free 23⟩
theorem list1 (x : UInt8) : ([x] : List UInt8) = (⟨#[x]⟩ : ByteArray).toList := by rw [ByteArray.toList_eq]
theorem text_is {x : ByteArray} {c : UInt8} (h : x = bs [c]) : (x.toList == [c]) = true := by rw [list1, bytes_beqL]; exact decide_eq_true h
theorem text_not {x : ByteArray} {c : UInt8} (h : x ≠ bs [c]) : (x.toList == [c]) = false := by rw [list1, bytes_beqL]; exact decide_eq_false h
theorem text_some {x : ByteArray} (h : x ≠ E0) : x.toList.isEmpty = false := by
  cases hx : x.toList.isEmpty with
  | false => rfl
  | true =>
    exfalso; apply h
    rw [List.isEmpty_iff, ByteArray.toList_eq] at hx
    apply ByteArray.ext
    exact Array.toList_inj.1 hx
theorem text_none : (E0 : ByteArray).toList.isEmpty = true := by rw [ByteArray.toList_eq]; rfl
set_option maxRecDepth 100000 in
set_option maxHeartbeats 16000000 in
theorem ljumps_any {N T en M : Nat} {s : StT} {l : List LTok} {w : World} (h : SbI N T en M s l w) (hy0 : s.yes = E0) (hn0 : s.noes = E0) : Calls Tryz.prog 47 #[.pointer (some ⟨N, 0, none⟩), .pointer (some ⟨M, 0, none⟩)] w (SbQ N T en M (jumpsT en s l) w) := by
  have HS : Hid (Calls Tryz.prog 44 #[.pointer (some ⟨N, 0, none⟩), .string ⟨#[40]⟩] w (BoolW (signT ⟨#[40]⟩ l) w)) := by obtain ⟨_, _, _, h⟩ := h.rdr; exact lsign_any _ h
  have HB : Hid (TokB l) := by obtain ⟨_, _, _, h⟩ := h.rdr; exact h.good
  have I0 := Lib.hid h
  have K0 : Hid (Kept (fun b => b = N ∨ b = M) w w) := Kept.refl _ _
  cases hs : signT ⟨#[40]⟩ l with
  | true =>
    rw [hs] at HS
    have er : Hid (jumpsT en s l = match labelT en l with | .error er => .error er | .ok (n, r) => .ok ({ s with always := n }, r)) := by unfold Hid jumpsT; rw [show signT (bs [40]) l = true from hs]; rfl
    clear h hs hy0 hn0
    go_enter Tryz.func47, Tryz.ntmps47
    go_wp2_with (first
      | (go_at_call 44; (refine HS.out.mono ?_); rintro e w' ⟨rfl, hw_⟩; obtain rfl := hw_.symm)
      | (go_at_call 70; (refine (llabel_any I0.out.rdr).mono ?_); intro e w4 h_; rcases hu : labelT en l with e0 | ⟨n, r⟩; (obtain ⟨k_, rfl⟩ := h_.bad hu; have f_ : SbQ N T en M (jumpsT en s l) w (.panicked [{ v := lineOops e0, recovered := false }]) _ := SbQ.thrown K0.out k_ (by rw [er.out, hu]); exact ⟨rfl, f_⟩); (obtain ⟨k_, rfl, r_⟩ := h_.ok hu; have HU := Lib.hid hu; have HLN := Lib.hid (label_ne HB.out hu); have I4 := Lib.hid (I0.out.rdr_to k_ r_ HLN.out.2.2.1); have K4 := Lib.hid (K0.out.trans (keptN k_)); obtain ⟨v4, c4, f4⟩ := I4.out.slot 21 (by decide); clear k_ r_ h_ hu)))
    (first | go_end0 | (refine bodyPost_ret (results_none rfl _ _ _) rfl ?_))
    exact SbQ.done (K4.out.trans (keptNM setM)) (I4.out.setAlways n (by have := HLN.out.2.2.2; omega)) (by rw [er.out, HU.out])
  | false =>
    rw [hs] at HS
    have er : Hid (jumpsT en s l = jmpG en 2 s l) := jmpG_eq HB.out hy0 hn0 hs
    clear h hs hy0 hn0
    have ep1 := eqPtr_same M; have ep2 := eqPtr_not M
    go_enter Tryz.func47, Tryz.ntmps47
    go_wp2_with (go_at_call 44; (refine HS.out.mono ?_); rintro e w' ⟨rfl, hw_⟩; obtain rfl := hw_.symm)
    go_loopg [4] 2 (fun f x wr => ∃ (n : Nat) (s2 : StT) (l2 : List LTok), x = .int .i64 n ∧ Hid (n + f = 2) ∧ Hid (SbI N T en M s2 l2 wr) ∧ Hid (Kept (fun b => b = N ∨ b = M) w wr) ∧ Hid (jumpsT en s l = jmpG en f s2 l2))
    case atStart => exact ⟨0, s, l, rfl, by unfold Hid; decide, I0, K0, er⟩
    case round =>
      obtain ⟨n, s2, l2, rfl, hnf, I, K, hch⟩ := hrel
      clear HS
      obtain rfl | rfl | rfl : n = 0 ∨ n = 1 ∨ n = 2 := by have := hnf.out; omega
      · obtain rfl : gk = 2 := by have := hnf.out; omega
        clear hnf
        have hch2 : Hid (jumpsT en s l = match takeT 1 en l2 with | .error er => .error er | .ok (t, r) => (if t.text = bs [83] then (if s2.yes ≠ E0 ∨ (1 : Nat) = 0 then .error (2, atT en l2) else match labelT en r with | .error er => .error er | .ok (n, r1) => jmpG en 1 { s2 with yes := n } r1) else if t.text = bs [70] then (if s2.noes ≠ E0 then .error (2, atT en l2) else match labelT en r with | .error er => .error er | .ok (n, r1) => jmpG en 1 { s2 with noes := n } r1) else .error (2, atT en l2) : TRes StT)) := by unfold Hid; rw [hch.out, jmpG, if_neg (fun h => by simp at h)]; try rfl
        clear hch
        have HA : Hid (Calls Tryz.prog 49 #[.pointer (some ⟨N, 0, none⟩)] wr (IntW (atT en l2) wr)) := by obtain ⟨_, _, _, h⟩ := I.out.rdr; exact lat_any h
        have hfld : ∀ (t : LTok) wx, (Instr.field 87 (.agg #[.int .i64 t.kind, .string t.text, .int .i64 t.at_]) 1).run Tryz.prog wx = .ok (.string t.text) wx := fun _ _ => by kernel_rfl
        go_upto_region 9 with (first
          | (go_at_call 49; (refine HA.out.mono ?_); rintro e w' ⟨rfl, hw_⟩; obtain rfl := hw_.symm)
          | (go_at_call 65; (refine (ltake_any 1 I.out.rdr).mono ?_); intro e w3 h_; rcases hu : takeT 1 en l2 with e0 | ⟨t, r⟩; (obtain ⟨k_, rfl⟩ := h_.bad hu; have f_ : SbQ N T en M (jumpsT en s l) w (.panicked [{ v := lineOops e0, recovered := false }]) _ := SbQ.thrown K.out k_ (by rw [hch2.out, hu]); exact ⟨rfl, f_⟩); (obtain ⟨k_, he_, r_⟩ := h_.ok hu; unfold ltV at he_; subst he_; have HU := Lib.hid hu; have hf1 := hfld t; have TB : Hid (TokB r) := (by obtain ⟨_, _, _, h⟩ := r_; exact h.good); have I3 := Lib.hid (I.out.rdr_to k_ r_ (by have := takeT_len hu; omega)); have K3 := Lib.hid (K.out.trans (keptN k_)); clear k_ r_ h_ hu)))
        clear hfld
        obtain ⟨y22, y23, g22, g23⟩ := I3.out.yesno
        by_cases hS : t.text = bs [83]
        · have q1 : (t.text.toList == [83]) = true := text_is hS
          by_cases hy : s2.yes = E0
          · have q2 : s2.yes.toList.isEmpty = true := by rw [hy]; exact text_none
            have hch3 : Hid (jumpsT en s l = match labelT en r with | .error er => .error er | .ok (n, r1) => jmpG en 1 { s2 with yes := n } r1) := by unfold Hid; rw [hch2.out, HU.out]; dsimp only; rw [if_pos hS, if_neg (by rw [hy]; simp)]
            clear hS hch2 hy
            cases hlb : labelT en r with
            | error e0 =>
              go_wp2_with (go_at_call 70; (refine (llabel_any I3.out.rdr).mono ?_); intro e w4 h_; obtain ⟨k_, rfl⟩ := h_.bad hlb; have K4 := Lib.hid k_; clear k_ h_)
              exact ⟨rfl, SbQ.thrown K3.out K4.out (by rw [hch3.out, hlb])⟩
            | ok y =>
              obtain ⟨n, r1⟩ := y
              have HLN := Lib.hid (label_ne TB.out hlb)
              have hch4 : Hid (jumpsT en s l = jmpG en 1 { s2 with yes := n } r1) := by unfold Hid; rw [hch3.out, hlb]
              go_wp2_with (go_at_call 70; (refine (llabel_any I3.out.rdr).mono ?_); intro e w4 h_; obtain ⟨k_, rfl, r_⟩ := h_.ok hlb; have I4 := Lib.hid (I3.out.rdr_to k_ r_ HLN.out.2.2.1); have K4 := Lib.hid (K3.out.trans (keptN k_)); obtain ⟨v4, c4, f4⟩ := I4.out.slot 22 (by decide); clear k_ r_ h_)
              go_roundg 1
              case measure => omega
              case rel => exact ⟨1, { s2 with yes := n }, r1, by go_num, by unfold Hid; decide, I4.out.setYes n (by have := HLN.out.2.2.2; omega), K4.out.trans (keptNM setM), hch4⟩
          · have q2 : s2.yes.toList.isEmpty = false := text_some hy
            have fin : Hid (jumpsT en s l = .error (2, atT en l2)) := by unfold Hid; rw [hch2.out, HU.out]; dsimp only; rw [if_pos hS, if_pos (.inl hy)]
            clear hS hch2 hy
            go_wp2_with (go_at_call 48; (refine (lfail_any _ 2 (atT en l2) _).mono ?_); rintro e w9 ⟨rfl, rfl⟩)
            exact ⟨rfl, SbQ.thrown K3.out (Kept.refl _ _) fin.out⟩
        · have q1 : (t.text.toList == [83]) = false := text_not hS
          by_cases hF : t.text = bs [70]
          · have q3 : (t.text.toList == [70]) = true := text_is hF
            by_cases hy : s2.noes = E0
            · have q2 : s2.noes.toList.isEmpty = true := by rw [hy]; exact text_none
              have hch3 : Hid (jumpsT en s l = match labelT en r with | .error er => .error er | .ok (n, r1) => jmpG en 1 { s2 with noes := n } r1) := by unfold Hid; rw [hch2.out, HU.out]; dsimp only; rw [if_neg hS, if_pos hF, if_neg (by rw [hy]; simp)]
              clear hS hF hch2 hy
              cases hlb : labelT en r with
              | error e0 =>
                go_wp2_with (go_at_call 70; (refine (llabel_any I3.out.rdr).mono ?_); intro e w4 h_; obtain ⟨k_, rfl⟩ := h_.bad hlb; have K4 := Lib.hid k_; clear k_ h_)
                exact ⟨rfl, SbQ.thrown K3.out K4.out (by rw [hch3.out, hlb])⟩
              | ok y =>
                obtain ⟨n, r1⟩ := y
                have HLN := Lib.hid (label_ne TB.out hlb)
                have hch4 : Hid (jumpsT en s l = jmpG en 1 { s2 with noes := n } r1) := by unfold Hid; rw [hch3.out, hlb]
                go_wp2_with (go_at_call 70; (refine (llabel_any I3.out.rdr).mono ?_); intro e w4 h_; obtain ⟨k_, rfl, r_⟩ := h_.ok hlb; have I4 := Lib.hid (I3.out.rdr_to k_ r_ HLN.out.2.2.1); have K4 := Lib.hid (K3.out.trans (keptN k_)); obtain ⟨v4, c4, f4⟩ := I4.out.slot 23 (by decide); clear k_ r_ h_)
                go_roundg 1
                case measure => omega
                case rel => exact ⟨1, { s2 with noes := n }, r1, by go_num, by unfold Hid; decide, I4.out.setNoes n (by have := HLN.out.2.2.2; omega), K4.out.trans (keptNM setM), hch4⟩
            · have q2 : s2.noes.toList.isEmpty = false := text_some hy
              have fin : Hid (jumpsT en s l = .error (2, atT en l2)) := by unfold Hid; rw [hch2.out, HU.out]; dsimp only; rw [if_neg hS, if_pos hF, if_pos hy]
              clear hS hF hch2 hy
              go_wp2_with (go_at_call 48; (refine (lfail_any _ 2 (atT en l2) _).mono ?_); rintro e w9 ⟨rfl, rfl⟩)
              exact ⟨rfl, SbQ.thrown K3.out (Kept.refl _ _) fin.out⟩
          · have q3 : (t.text.toList == [70]) = false := text_not hF
            have fin : Hid (jumpsT en s l = .error (2, atT en l2)) := by unfold Hid; rw [hch2.out, HU.out]; dsimp only; rw [if_neg hS, if_neg hF]
            clear hS hF hch2
            go_wp2_with (go_at_call 48; (refine (lfail_any _ 2 (atT en l2) _).mono ?_); rintro e w9 ⟨rfl, rfl⟩)
            exact ⟨rfl, SbQ.thrown K3.out (Kept.refl _ _) fin.out⟩
      · obtain rfl : gk = 1 := by have := hnf.out; omega
        clear hnf
        obtain ⟨n2, a2, c2, hP⟩ := I.out.rdr
        obtain ⟨c0, c1, cd, cf⟩ := hP.c0
        have hn := hP.num
        clear cf
        by_cases hl0 : l2 = []
        · have z : decide ((0 : Int) < (n2 : Int)) = false := by rw [hn, hl0]; rfl
          have z' : decide (0 < n2) = false := by rw [hn, hl0]; rfl
          have fin : Hid (jumpsT en s l = .ok (s2, l2)) := by unfold Hid; rw [hch.out, jmpG, if_pos ⟨rfl, hl0⟩]
          clear hn hP hl0
          go_wp2_with fail
          (first | go_end0 | (refine bodyPost_ret (results_none rfl _ _ _) rfl ?_))
          exact SbQ.done K.out I.out fin.out
        have h0 : 0 < n2 := by rw [hn]; exact List.length_pos_iff.2 hl0
        have h1 : (0 : Int) < (n2 : Int) := by omega
        have z : decide ((0 : Int) < (n2 : Int)) = true := decide_eq_true h1
        have z' : decide (0 < n2) = true := decide_eq_true h0
        have HL0 := Lib.hid hl0
        have hch : Hid (jumpsT en s l = jmpG en 1 s2 l2) := hch
        have hch2 : Hid (jumpsT en s l = match takeT 1 en l2 with | .error er => .error er | .ok (t, r) => (if t.text = bs [83] then (if s2.yes ≠ E0 ∨ (0 : Nat) = 0 then .error (2, atT en l2) else match labelT en r with | .error er => .error er | .ok (n, r1) => jmpG en 0 { s2 with yes := n } r1) else if t.text = bs [70] then (if s2.noes ≠ E0 then .error (2, atT en l2) else match labelT en r with | .error er => .error er | .ok (n, r1) => jmpG en 0 { s2 with noes := n } r1) else .error (2, atT en l2) : TRes StT)) := by unfold Hid; rw [hch.out, jmpG, if_neg (fun h => HL0.out h.2)]; try rfl
        clear hn hP hl0 hch
        have HA : Hid (Calls Tryz.prog 49 #[.pointer (some ⟨N, 0, none⟩)] wr (IntW (atT en l2) wr)) := by obtain ⟨_, _, _, h⟩ := I.out.rdr; exact lat_any h
        have hfld : ∀ (t : LTok) wx, (Instr.field 87 (.agg #[.int .i64 t.kind, .string t.text, .int .i64 t.at_]) 1).run Tryz.prog wx = .ok (.string t.text) wx := fun _ _ => by kernel_rfl
        go_upto_region 9 with (first
          | (go_at_call 49; (refine HA.out.mono ?_); rintro e w' ⟨rfl, hw_⟩; obtain rfl := hw_.symm)
          | (go_at_call 65; (refine (ltake_any 1 I.out.rdr).mono ?_); intro e w3 h_; rcases hu : takeT 1 en l2 with e0 | ⟨t, r⟩; (obtain ⟨k_, rfl⟩ := h_.bad hu; have f_ : SbQ N T en M (jumpsT en s l) w (.panicked [{ v := lineOops e0, recovered := false }]) _ := SbQ.thrown K.out k_ (by rw [hch2.out, hu]); exact ⟨rfl, f_⟩); (obtain ⟨k_, he_, r_⟩ := h_.ok hu; unfold ltV at he_; subst he_; have HU := Lib.hid hu; have hf1 := hfld t; have TB : Hid (TokB r) := (by obtain ⟨_, _, _, h⟩ := r_; exact h.good); have I3 := Lib.hid (I.out.rdr_to k_ r_ (by have := takeT_len hu; omega)); have K3 := Lib.hid (K.out.trans (keptN k_)); clear k_ r_ h_ hu)))
        clear hfld
        obtain ⟨y22, y23, g22, g23⟩ := I3.out.yesno
        by_cases hS : t.text = bs [83]
        · have q1 : (t.text.toList == [83]) = true := text_is hS
          have fin : Hid (jumpsT en s l = .error (2, atT en l2)) := by unfold Hid; rw [hch2.out, HU.out]; dsimp only; rw [if_pos hS, if_pos (by simp)]
          clear hS hch2
          go_upto_region 12 with fail
          cases he : s2.yes.toList.isEmpty with
          | true =>
            go_wp2_with (go_at_call 48; (refine (lfail_any _ 2 (atT en l2) _).mono ?_); rintro e w9 ⟨rfl, rfl⟩)
            exact ⟨rfl, SbQ.thrown K3.out (Kept.refl _ _) fin.out⟩
          | false =>
            go_wp2_with (go_at_call 48; (refine (lfail_any _ 2 (atT en l2) _).mono ?_); rintro e w9 ⟨rfl, rfl⟩)
            exact ⟨rfl, SbQ.thrown K3.out (Kept.refl _ _) fin.out⟩
        · have q1 : (t.text.toList == [83]) = false := text_not hS
          by_cases hF : t.text = bs [70]
          · have q3 : (t.text.toList == [70]) = true := text_is hF
            by_cases hy : s2.noes = E0
            · have q2 : s2.noes.toList.isEmpty = true := by rw [hy]; exact text_none
              have hch3 : Hid (jumpsT en s l = match labelT en r with | .error er => .error er | .ok (n, r1) => jmpG en 0 { s2 with noes := n } r1) := by unfold Hid; rw [hch2.out, HU.out]; dsimp only; rw [if_neg hS, if_pos hF, if_neg (by rw [hy]; simp)]
              clear hS hF hch2 hy
              cases hlb : labelT en r with
              | error e0 =>
                go_wp2_with (go_at_call 70; (refine (llabel_any I3.out.rdr).mono ?_); intro e w4 h_; obtain ⟨k_, rfl⟩ := h_.bad hlb; have K4 := Lib.hid k_; clear k_ h_)
                exact ⟨rfl, SbQ.thrown K3.out K4.out (by rw [hch3.out, hlb])⟩
              | ok y =>
                obtain ⟨n, r1⟩ := y
                have HLN := Lib.hid (label_ne TB.out hlb)
                have hch4 : Hid (jumpsT en s l = jmpG en 0 { s2 with noes := n } r1) := by unfold Hid; rw [hch3.out, hlb]
                go_wp2_with (go_at_call 70; (refine (llabel_any I3.out.rdr).mono ?_); intro e w4 h_; obtain ⟨k_, rfl, r_⟩ := h_.ok hlb; have I4 := Lib.hid (I3.out.rdr_to k_ r_ HLN.out.2.2.1); have K4 := Lib.hid (K3.out.trans (keptN k_)); obtain ⟨v4, c4, f4⟩ := I4.out.slot 23 (by decide); clear k_ r_ h_)
                go_roundg 0
                case measure => omega
                case rel => exact ⟨2, { s2 with noes := n }, r1, by go_num, by unfold Hid; decide, I4.out.setNoes n (by have := HLN.out.2.2.2; omega), K4.out.trans (keptNM setM), hch4⟩
            · have q2 : s2.noes.toList.isEmpty = false := text_some hy
              have fin : Hid (jumpsT en s l = .error (2, atT en l2)) := by unfold Hid; rw [hch2.out, HU.out]; dsimp only; rw [if_neg hS, if_pos hF, if_pos hy]
              clear hS hF hch2 hy
              go_wp2_with (go_at_call 48; (refine (lfail_any _ 2 (atT en l2) _).mono ?_); rintro e w9 ⟨rfl, rfl⟩)
              exact ⟨rfl, SbQ.thrown K3.out (Kept.refl _ _) fin.out⟩
          · have q3 : (t.text.toList == [70]) = false := text_not hF
            have fin : Hid (jumpsT en s l = .error (2, atT en l2)) := by unfold Hid; rw [hch2.out, HU.out]; dsimp only; rw [if_neg hS, if_neg hF]
            clear hS hF hch2
            go_wp2_with (go_at_call 48; (refine (lfail_any _ 2 (atT en l2) _).mono ?_); rintro e w9 ⟨rfl, rfl⟩)
            exact ⟨rfl, SbQ.thrown K3.out (Kept.refl _ _) fin.out⟩
      · obtain rfl : gk = 0 := by have := hnf.out; omega
        have fin : Hid (jumpsT en s l = .ok (s2, l2)) := hch
        clear hnf hch
        go_wp2_with fail
        (first | go_end0 | (refine bodyPost_ret (results_none rfl _ _ _) rfl ?_))
        exact SbQ.done K.out I.out fin.out
end Go.Proofs.YtlnhcgihpclpaaaGreatDoor
