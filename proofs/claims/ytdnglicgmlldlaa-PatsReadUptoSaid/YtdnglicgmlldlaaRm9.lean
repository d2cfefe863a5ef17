/- The reference of chapter 4: In, texts, numbers, Named, Node. The document's reader: name, comes. The document's reader: number. The document's signs against the reader's places (pure). The document's numbers against the reader's (pure). The document's reader: what a function that answers a pattern leaves; deeper. -/
import Derived.Test.YtdnglicgmlldlaaRm8
namespace Go.Proofs.Ytdnglicgmlldlaa
open Go.RowKit

theorem ints_cell {w : World} {b : Nat} {ks : List Int} {t : TypeId} {fr : Nat × Nat} (h : w.heap[b]? = some (.cells (ks.map (Value.int .i64)).toArray t fr)) {i : Nat} (hi : i < ks.length) :
    w.cell? ⟨b, i, none⟩ = some (.int .i64 ks[i]) := by
  rw [cell_of_row w b i _ t fr h]; simp [hi]

set_option maxRecDepth 100000 in
set_option maxHeartbeats 400000 in
theorem In_any (k : Int) (ks : List Int) (v : Bool) (hv : ks.contains k = v) (b cap : Nat) (t : TypeId) (fr : Nat × Nat) (w : World) (hb : w.heap[b]? = some (.cells (ks.map (Value.int .i64)).toArray t fr)) (hl : ks.length < 1000) :
    Calls Try.prog 34 #[.int .i64 k, .slice (some ⟨b, 0, none⟩) ks.length cap] w fun e w' => e = .returned (.bool v) ∧ w = w' := by
  have HB := Lib.hid hb; have HV := Lib.hid hv; clear hb hv
  go_enter Try.func34, Try.ntmps34
  go_wp2_with fail
  go_loop [9] (fun i => ∃ j : Nat, j ≤ ks.length ∧ i = .int .i64 j ∧ Hid (∀ x, x < j → ks.getD x 0 ≠ k)) (fun i => ks.length - (intOf i).toNat)
  case atStart => exact ⟨0, Nat.zero_le _, rfl, by intro x hx; omega⟩
  case round =>
    obtain ⟨j, hj, rfl, hno⟩ := hrel
    by_cases hlt : j < ks.length
    · have hc := ints_cell HB.out hlt
      by_cases he : ks[j] = k
      · have hq : (ks[j] == k) = true := by simpa using he
        have fin : Hid (v = true) := by unfold Hid; rw [← HV.out]; exact List.contains_iff_mem.2 (he ▸ List.getElem_mem hlt)
        clear he
        go_wp2_with fail
        go_ret
        exact ⟨ret_bool fin.out.symm, rfl⟩
      · have hq : (ks[j] == k) = false := by simpa using he
        have step : Hid (∀ x, x < j + 1 → ks.getD x 0 ≠ k) := by
          intro x hx
          rcases Nat.lt_or_ge x j with h | h
          · exact hno.out x h
          · obtain rfl : x = j := by omega
            rw [List.getD_eq_getElem?_getD, List.getElem?_eq_getElem hlt]; exact he
        clear he
        go_wp2_with fail
        go_round
        case rel => exact ⟨j + 1, by omega, by go_num, step⟩
        case measure => simp [intOf]; omega
    · have fin : Hid (v = false) := by
        unfold Hid; rw [← HV.out, ← Bool.not_eq_true, List.contains_iff_mem]
        intro hm
        obtain ⟨x, hx, he⟩ := List.getElem_of_mem hm
        have := hno.out x (by omega)
        rw [List.getD_eq_getElem?_getD, List.getElem?_eq_getElem hx] at this
        exact this he
      go_wp2_with fail
      go_ret
      exact ⟨ret_bool fin.out.symm, rfl⟩

theorem texts_list (k : Int) : ([3, 4, 5, 6, 7] : List Int).contains k = decide (isTextK k) := by
  rw [Bool.eq_iff_iff, decide_eq_true_eq]; unfold isTextK; simp; omega
theorem nums_list (k : Int) : ([2, 8, 9, 10, 11] : List Int).contains k = decide (isNumK k) := by
  rw [Bool.eq_iff_iff, decide_eq_true_eq]; unfold isNumK; simp; omega

def BoolQ (b : Bool) (w : World) (e : Ending) (w' : World) : Prop := e = .returned (.bool b) ∧ Kept Nix w w'

set_option maxRecDepth 100000 in
set_option maxHeartbeats 400000 in
theorem texts_any (k : Int) (w : World) : Calls Try.prog 41 #[.int .i64 k] w (BoolQ (decide (isTextK k)) w) := by
  go_enter Try.func41, Try.ntmps41
  go_wp2_with fail
  refine (In_any k [3, 4, 5, 6, 7] _ (texts_list k) w.heap.size 5 3 (0, 0) _ (heap_alloc_new w _) (by decide)).mono ?_
  rintro e w' ⟨rfl, rfl⟩
  go_wp2_with fail
  go_ret
  exact ⟨rfl, (Kept.refl _ _).alloc _⟩
set_option maxRecDepth 100000 in
set_option maxHeartbeats 400000 in
theorem numbers_any (k : Int) (w : World) : Calls Try.prog 42 #[.int .i64 k] w (BoolQ (decide (isNumK k)) w) := by
  go_enter Try.func42, Try.ntmps42
  go_wp2_with fail
  refine (In_any k [2, 8, 9, 10, 11] _ (nums_list k) w.heap.size 5 3 (0, 0) _ (heap_alloc_new w _) (by decide)).mono ?_
  rintro e w' ⟨rfl, rfl⟩
  go_wp2_with fail
  go_ret
  exact ⟨rfl, (Kept.refl _ _).alloc _⟩

set_option maxRecDepth 100000 in
set_option maxHeartbeats 600000 in
theorem refNamed_any (s : ByteArray) (w : World) (hs : s.size ≤ maxLen) : Calls Try.prog 11 #[.string s] w (BoolQ (namedF s) w) := by
  unfold maxLen at hs
  have hcv := run_bytes_of_string (P := Try.prog) w 9 64 5 s Try.underlying9 Try.underlying64 Try.underlying5
  obtain ⟨w1, hw1⟩ : ∃ w1, w1 = (w.drew.alloc (.cells (bytesRow s (grownCap w s.size 0 5)) 5 ((bytesRow s (grownCap w s.size 0 5)).size, (bytesRow s (grownCap w s.size 0 5)).size + 1))) := ⟨_, rfl⟩
  rw [← hw1] at hcv
  generalize grownCap w s.size 0 5 = gc at hcv hw1
  have hK : Kept Nix w w1 := by rw [hw1]; exact ((Kept.refl Nix w).drew).alloc _
  have hcell : ∀ j (h : j < s.size), w1.cell? ⟨w.heap.size, j, none⟩ = some (.int .u8 s[j].toNat) := by
    intro j h; rw [hw1]; show ((w.drew.alloc _).cell? ⟨w.drew.heap.size, j, none⟩) = _
    rw [World.cell?_alloc_mark, bytesRow_at s gc j h]; rfl
  have HK := Lib.hid hK; have HC := Lib.hid hcell; clear hw1 hK hcell
  go_enter Try.func11, Try.ntmps11
  go_wp2_with fail
  go_loop [10] (fun i => ∃ k : Nat, k ≤ s.size ∧ i = .int .i64 k ∧ Hid (∀ j, j < k → namedAt j (s.data.toList.getD j 0) = true)) (fun i => s.size - (intOf i).toNat)
  case atStart => exact ⟨0, Nat.zero_le _, rfl, by intro j hj; omega⟩
  case round =>
    obtain ⟨k, hk, rfl, hok⟩ := hrel
    by_cases hlt : k < s.size
    · have hcell := HC.out k hlt
      have step : namedAt k s[k] = true → ∀ j, j < k + 1 → namedAt j (s.data.toList.getD j 0) = true := by
        intro hn j hj
        rcases Nat.lt_or_ge j k with h | h
        · exact hok.out j h
        · obtain rfl : j = k := by omega
          rw [getD_at hlt]; exact hn
      have Step := Lib.hid step; clear step
      obtain ⟨c, hc⟩ : ∃ c, c = s[k] := ⟨_, rfl⟩
      rw [← hc] at hcell Step
      have hno : namedAt k c = false → namedF s = false := fun h => named_no hlt (by rw [← hc]; exact h)
      have HN := Lib.hid hno
      have b255 : c.toNat < 256 := c.toNat_lt
      clear hc hno
      have key : (namedAt k c = true ∧ ∃ x65 x90 x48 x57 x0 : Bool, decide ((65 : Int) ≤ (c.toNat : Int)) = x65 ∧ decide ((c.toNat : Int) ≤ 90) = x90 ∧ decide ((48 : Int) ≤ (c.toNat : Int)) = x48 ∧ decide ((c.toNat : Int) ≤ 57) = x57 ∧ decide ((0 : Int) < (k : Int)) = x0 ∧ ((x65 && x90) || (x48 && x57 && x0)) = true) ∨
          (namedAt k c = false ∧ ∃ x65 x90 x48 x57 x0 : Bool, decide ((65 : Int) ≤ (c.toNat : Int)) = x65 ∧ decide ((c.toNat : Int) ≤ 90) = x90 ∧ decide ((48 : Int) ≤ (c.toNat : Int)) = x48 ∧ decide ((c.toNat : Int) ≤ 57) = x57 ∧ decide ((0 : Int) < (k : Int)) = x0 ∧ ((x65 && x90) || (x48 && x57 && x0)) = false) := by
        have e : namedAt k c = ((decide ((65 : Int) ≤ (c.toNat : Int)) && decide ((c.toNat : Int) ≤ 90)) || (decide ((48 : Int) ≤ (c.toNat : Int)) && decide ((c.toNat : Int) ≤ 57) && decide ((0 : Int) < (k : Int)))) := by
          rw [Bool.eq_iff_iff]; simp [namedAt, upperN, digitN]; omega
        cases h : namedAt k c
        · exact .inr ⟨rfl, _, _, _, _, _, rfl, rfl, rfl, rfl, rfl, by rw [← e, h]⟩
        · exact .inl ⟨rfl, _, _, _, _, _, rfl, rfl, rfl, rfl, rfl, by rw [← e, h]⟩
      rcases key with ⟨hn, x65, x90, x48, x57, x0, h65, h90, h48, h57, h0, hx⟩ | ⟨hn, x65, x90, x48, x57, x0, h65, h90, h48, h57, h0, hx⟩
      · have h0' : decide (0 < k) = x0 := by rw [← h0]; exact decide_eq_decide.2 (by omega)
        have ST := Lib.hid (Step.out hn); clear hn b255
        cases x65 <;> cases x90 <;> cases x48 <;> cases x57 <;> cases x0 <;> first
          | (simp at hx; done)
          | (clear hx
             go_wp2_with fail
             go_round
             case rel => exact ⟨k + 1, by omega, by go_num, ST.out⟩
             case measure => simp [intOf]; omega)
          | (exfalso; simp only [decide_eq_true_eq, decide_eq_false_iff_not] at h65 h90 h48 h57 h0; omega)
      · have h0' : decide (0 < k) = x0 := by rw [← h0]; exact decide_eq_decide.2 (by omega)
        have fin := Lib.hid (HN.out hn); clear hn b255
        cases x65 <;> cases x90 <;> cases x48 <;> cases x57 <;> cases x0 <;> first
          | (simp at hx; done)
          | (clear hx
             go_wp2_with fail
             go_ret
             exact ⟨by rw [fin.out]; try rfl, HK.out⟩)
          | (exfalso; simp only [decide_eq_true_eq, decide_eq_false_iff_not] at h65 h90 h48 h57 h0; omega)
    · obtain rfl : k = s.size := by omega
      by_cases h1 : 1 ≤ s.size ∧ s.size ≤ 16
      · have fin := Lib.hid (named_yes h1.1 h1.2 hok.out)
        go_wp2_with fail
        go_ret
        exact ⟨ret_bool (by rw [fin.out]; exact decide_eq_true (by omega)), HK.out⟩
      · have fin : Hid (namedF s = false) := by unfold Hid namedF; rcases (show ¬ 1 ≤ s.size ∨ ¬ s.size ≤ 16 by omega) with h | h <;> simp [h]
        rcases (show s.size < 1 ∨ 16 < s.size by omega) with h2 | h2
        · go_wp2_with fail
          go_ret
          exact ⟨ret_bool (by rw [fin.out]), HK.out⟩
        · go_wp2_with fail
          go_ret
          exact ⟨ret_bool (by rw [fin.out]; exact decide_eq_false (by omega)), HK.out⟩
end Go.Proofs.Ytdnglicgmlldlaa
namespace Go.Proofs.Ytdnglicgmlldlaa
open Go.RowKit

def nameB (s : ByteArray) (x : Tok) (r : List Tok) (b : Er) : Er := if 16 < x.text.size then stopB (takeR s 303 x r b).2 (7, x.at_) else (takeR s 303 x r b).2
def NmPost (N G : Nat) (s : ByteArray) (x : Tok) (r : List Tok) (d : Nat) (b : Er) (w : World) (e : Ending) (w' : World) : Prop :=
  e = .returned (.string x.text) ∧ Wk N G s (takeR s 303 x r b).1 d (nameB s x r b) w' ∧ Kept (· = N) w w'
set_option maxRecDepth 100000 in
set_option maxHeartbeats 2000000 in
theorem rname_any (N G : Nat) (s : ByteArray) (x : Tok) (r : List Tok) (d : Nat) (b : Er) (w : World) (h : Wk N G s (x :: r) d b w) (hs : s.size ≤ 65536) :
    Calls Try.prog 63 #[.pointer (some ⟨N, 0, none⟩)] w (NmPost N G s x r d b w) := by
  have HH := Lib.hid h; have hN := h.ltN; have hG := h.lt; clear h
  go_enter Try.func63, Try.ntmps63
  go_wp2_with fail
  refine (take_any N G s 303 x r d b _ HH.out hs).mono ?_
  rintro e w1 ⟨rfl, W1, K1⟩
  have kA : Kept Nix w1 (w1.alloc (.cells #[.int .i64 x.kind, .string x.text, .int .i64 x.at_, .int .i64 x.stop] 58)) := (Kept.refl _ _).alloc _
  have W2 := Lib.hid (W1.kept kA (fun h => h) (fun h => h))
  have K2 := Lib.hid (K1.quiet kA)
  have X2 : Hid (Four w1.heap.size (.int .i64 x.kind) (.string x.text) (.int .i64 x.at_) (.int .i64 x.stop) (w1.alloc (.cells #[.int .i64 x.kind, .string x.text, .int .i64 x.at_, .int .i64 x.stop] 58))) := heap_alloc_new w1 _
  have hn1 := W1.ltN
  clear kA W1 K1
  unfold tokV
  by_cases hl : 16 < x.text.size
  · have eb : Hid (nameB s x r b = stopB (takeR s 303 x r b).2 (7, x.at_)) := if_pos hl
    go_wp2_with fail
    refine (stop_any N G s _ d _ (7, x.at_) _ W2.out).mono ?_
    rintro e w3 ⟨rfl, W3, K3⟩
    have X3 := X2.out.kept K3 (by omega)
    have fin : Hid (NmPost N G s x r d b w (.returned (.string x.text)) w3) := ⟨rfl, by rw [eb.out]; exact W3, K2.out.trans K3⟩
    obtain ⟨x0, x1, x2, x3, _⟩ := X3.cells
    clear X3 W3 K3
    go_wp2_with fail
    go_ret
    exact fin.out
  · have eb : Hid (nameB s x r b = (takeR s 303 x r b).2) := if_neg hl
    have fin : Hid (NmPost N G s x r d b w (.returned (.string x.text)) _) := ⟨rfl, by rw [eb.out]; exact W2.out, K2.out⟩
    go_wp2_with fail
    go_ret
    exact fin.out

def comesAt (k : Int) (c : UInt8) : Bool := (k == (c.toNat : Int) && (c.toNat : Int) != 65) || ((c.toNat : Int) == 39 && (k == 302 || k == 301)) || ((c.toNat : Int) == 65 && k == 303)
set_option maxRecDepth 100000 in
set_option maxHeartbeats 4000000 in
theorem comes_any (v : Bool) (N G : Nat) (s t : ByteArray) (x : Tok) (r : List Tok) (d : Nat) (b : Er) (w : World) (h : Wk N G s (x :: r) d b w) (ht : t.size ≤ 100) (hv : t.data.toList.any (comesAt x.kind) = v) :
    Calls Try.prog 39 #[.pointer (some ⟨N, 0, none⟩), .string t] w (BoolQ v w) := by
  have HH := Lib.hid h; have HV := Lib.hid hv; clear hv
  obtain ⟨o, c, x', r', e, hF, hL⟩ := h.open
  simp only [List.cons.injEq] at e
  obtain ⟨rfl, rfl⟩ := e
  obtain ⟨c0, _⟩ := hF.cells
  obtain ⟨l0, _⟩ := hL.head
  have hN := h.ltN; have hG := h.lt
  have hcv := run_bytes_of_string (P := Try.prog) w 9 64 5 t Try.underlying9 Try.underlying64 Try.underlying5
  obtain ⟨w1, hw1⟩ : ∃ w1, w1 = (w.drew.alloc (.cells (bytesRow t (grownCap w t.size 0 5)) 5 ((bytesRow t (grownCap w t.size 0 5)).size, (bytesRow t (grownCap w t.size 0 5)).size + 1))) := ⟨_, rfl⟩
  rw [← hw1] at hcv
  generalize grownCap w t.size 0 5 = gc at hcv hw1
  have hK : Kept Nix w w1 := by rw [hw1]; exact ((Kept.refl Nix w).drew).alloc _
  have hcell : ∀ j (h : j < t.size), w1.cell? ⟨w.heap.size, j, none⟩ = some (.int .u8 t[j].toNat) := by
    intro j h; rw [hw1]; show ((w.drew.alloc _).cell? ⟨w.drew.heap.size, j, none⟩) = _
    rw [World.cell?_alloc_mark, bytesRow_at t gc j h]; rfl
  have q0 := (hK.cell hN (fun h => h)).trans c0
  have p0 := (hK.cell hG (fun h => h)).trans l0
  have HK := Lib.hid hK; have HC := Lib.hid hcell
  clear hw1 hK hcell c0 l0 h hF hL
  go_enter Try.func39, Try.ntmps39
  go_wp2_with fail
  go_loop [11] (fun i => ∃ j : Nat, j ≤ t.size ∧ i = .int .i64 j ∧ Hid ((t.data.toList.take j).any (comesAt x.kind) = false)) (fun i => t.size - (intOf i).toNat)
  case atStart => exact ⟨0, Nat.zero_le _, rfl, by simp [Hid]⟩
  case round =>
    obtain ⟨j, hj, rfl, hno⟩ := hrel
    by_cases hlt : j < t.size
    · have hcell := HC.out j hlt
      have ht1 : t.data.toList.take (j + 1) = t.data.toList.take j ++ [t[j]] := by
        rw [List.take_succ_eq_append_getElem (by simpa using hlt)]; rfl
      have HT1 := Lib.hid ht1; clear ht1
      have hmem : t[j] ∈ t.data.toList := by
        have : t.data.toList[j]'(by simpa using hlt) = t[j] := rfl
        rw [← this]; exact List.getElem_mem _
      have fin : Hid (comesAt x.kind t[j] = true → t.data.toList.any (comesAt x.kind) = true) := fun h => List.any_eq_true.2 ⟨_, hmem, h⟩
      have step : Hid (comesAt x.kind t[j] = false → (t.data.toList.take (j + 1)).any (comesAt x.kind) = false) := fun h => by
        rw [HT1.out, List.any_append, hno.out]; simp [h]
      clear hmem HT1
      generalize t[j] = ch at *
      have hch := ch.toNat_lt
      have hwr : wrap64 (ch.toNat : Int) = ch.toNat := wrap_byte ch
      rcases (show (ch.toNat = 65 ∧ x.kind = 65) ∨ (ch.toNat = 65 ∧ x.kind = 303) ∨ (ch.toNat = 65 ∧ x.kind ≠ 65 ∧ x.kind ≠ 303) ∨ (ch.toNat = 39 ∧ x.kind = 39) ∨ (ch.toNat = 39 ∧ x.kind = 302) ∨ (ch.toNat = 39 ∧ x.kind = 301) ∨ (ch.toNat = 39 ∧ x.kind ≠ 39 ∧ x.kind ≠ 302 ∧ x.kind ≠ 301) ∨ (ch.toNat ≠ 39 ∧ ch.toNat ≠ 65 ∧ x.kind = (ch.toNat : Int)) ∨ (ch.toNat ≠ 39 ∧ ch.toNat ≠ 65 ∧ x.kind ≠ (ch.toNat : Int)) by omega) with h | h | h | h | h | h | h | h | h
      · have b0 : (x.kind == (ch.toNat : Int)) = true := by simp; omega
        have b1 : ((ch.toNat : Int) == 65) = true := by simp; omega
        have b1n : ((ch.toNat : Int) != 65) = false := by simp; omega
        have b2 : ((ch.toNat : Int) == 39) = false := by simp; omega
        have b5 : (x.kind == 303) = false := by simp; omega
        have S2 := Lib.hid (step.out (by unfold comesAt; simp only [b0, b1, b1n, b2, b5]; simp))
        clear h hch
        go_wp2_with fail
        go_round
        case rel => exact ⟨j + 1, by omega, by go_num, S2.out⟩
        case measure => simp [intOf]; omega
      · have b0 : (x.kind == (ch.toNat : Int)) = false := by simp; omega
        have b1 : ((ch.toNat : Int) == 65) = true := by simp; omega
        have b1n : ((ch.toNat : Int) != 65) = false := by simp; omega
        have b2 : ((ch.toNat : Int) == 39) = false := by simp; omega
        have b5 : (x.kind == 303) = true := by simp; omega
        have F2 : Hid (v = true) := by unfold Hid; rw [← HV.out]; exact fin.out (by unfold comesAt; simp only [b0, b1, b1n, b2, b5]; simp)
        clear h hch
        go_wp2_with fail
        go_ret
        exact ⟨ret_bool F2.out.symm, HK.out⟩
      · have b0 : (x.kind == (ch.toNat : Int)) = false := by simp; omega
        have b1 : ((ch.toNat : Int) == 65) = true := by simp; omega
        have b1n : ((ch.toNat : Int) != 65) = false := by simp; omega
        have b2 : ((ch.toNat : Int) == 39) = false := by simp; omega
        have b5 : (x.kind == 303) = false := by simp; omega
        have S2 := Lib.hid (step.out (by unfold comesAt; simp only [b0, b1, b1n, b2, b5]; simp))
        clear h hch
        go_wp2_with fail
        go_round
        case rel => exact ⟨j + 1, by omega, by go_num, S2.out⟩
        case measure => simp [intOf]; omega
      · have b0 : (x.kind == (ch.toNat : Int)) = true := by simp; omega
        have b1 : ((ch.toNat : Int) == 65) = false := by simp; omega
        have b1n : ((ch.toNat : Int) != 65) = true := by simp; omega
        have b2 : ((ch.toNat : Int) == 39) = true := by simp; omega
        have F2 : Hid (v = true) := by unfold Hid; rw [← HV.out]; exact fin.out (by unfold comesAt; simp only [b0, b1, b1n, b2]; simp)
        clear h hch
        go_wp2_with fail
        go_ret
        exact ⟨ret_bool F2.out.symm, HK.out⟩
      · have b0 : (x.kind == (ch.toNat : Int)) = false := by simp; omega
        have b1 : ((ch.toNat : Int) == 65) = false := by simp; omega
        have b1n : ((ch.toNat : Int) != 65) = true := by simp; omega
        have b2 : ((ch.toNat : Int) == 39) = true := by simp; omega
        have b3 : (x.kind == 302) = true := by simp; omega
        have F2 : Hid (v = true) := by unfold Hid; rw [← HV.out]; exact fin.out (by unfold comesAt; simp only [b0, b1, b1n, b2, b3]; simp)
        clear h hch
        go_wp2_with fail
        go_ret
        exact ⟨ret_bool F2.out.symm, HK.out⟩
      · have b0 : (x.kind == (ch.toNat : Int)) = false := by simp; omega
        have b1 : ((ch.toNat : Int) == 65) = false := by simp; omega
        have b1n : ((ch.toNat : Int) != 65) = true := by simp; omega
        have b2 : ((ch.toNat : Int) == 39) = true := by simp; omega
        have b3 : (x.kind == 302) = false := by simp; omega
        have b4 : (x.kind == 301) = true := by simp; omega
        have F2 : Hid (v = true) := by unfold Hid; rw [← HV.out]; exact fin.out (by unfold comesAt; simp only [b0, b1, b1n, b2, b3, b4]; simp)
        clear h hch
        go_wp2_with fail
        go_ret
        exact ⟨ret_bool F2.out.symm, HK.out⟩
      · have b0 : (x.kind == (ch.toNat : Int)) = false := by simp; omega
        have b1 : ((ch.toNat : Int) == 65) = false := by simp; omega
        have b1n : ((ch.toNat : Int) != 65) = true := by simp; omega
        have b2 : ((ch.toNat : Int) == 39) = true := by simp; omega
        have b3 : (x.kind == 302) = false := by simp; omega
        have b4 : (x.kind == 301) = false := by simp; omega
        have S2 := Lib.hid (step.out (by unfold comesAt; simp only [b0, b1, b1n, b2, b3, b4]; simp))
        clear h hch
        go_wp2_with fail
        go_round
        case rel => exact ⟨j + 1, by omega, by go_num, S2.out⟩
        case measure => simp [intOf]; omega
      · have b0 : (x.kind == (ch.toNat : Int)) = true := by simp; omega
        have b1 : ((ch.toNat : Int) == 65) = false := by simp; omega
        have b1n : ((ch.toNat : Int) != 65) = true := by simp; omega
        have b2 : ((ch.toNat : Int) == 39) = false := by simp; omega
        have F2 : Hid (v = true) := by unfold Hid; rw [← HV.out]; exact fin.out (by unfold comesAt; simp only [b0, b1, b1n, b2]; simp)
        clear h hch
        go_wp2_with fail
        go_ret
        exact ⟨ret_bool F2.out.symm, HK.out⟩
      · have b0 : (x.kind == (ch.toNat : Int)) = false := by simp; omega
        have b1 : ((ch.toNat : Int) == 65) = false := by simp; omega
        have b1n : ((ch.toNat : Int) != 65) = true := by simp; omega
        have b2 : ((ch.toNat : Int) == 39) = false := by simp; omega
        have S2 := Lib.hid (step.out (by unfold comesAt; simp only [b0, b1, b1n, b2]; simp))
        clear h hch
        go_wp2_with fail
        go_round
        case rel => exact ⟨j + 1, by omega, by go_num, S2.out⟩
        case measure => simp [intOf]; omega
    · have fin : Hid (v = false) := by
        unfold Hid; rw [← HV.out]
        have h := hno.out
        rw [List.take_of_length_le (by have e : t.data.toList.length = t.size := rfl; omega)] at h; exact h
      go_wp2_with fail
      go_ret
      exact ⟨ret_bool fin.out.symm, HK.out⟩
end Go.Proofs.Ytdnglicgmlldlaa
namespace Go.Proofs.Ytdnglicgmlldlaa
open Go.RowKit

theorem stop_at (N G : Nat) (s : ByteArray) (l : List Tok) (d : Nat) (b er : Er) (v : Int) (hv : v = er.2) (w : World) (h : Wk N G s l d b w) :
    Calls Try.prog 24 #[.pointer (some ⟨N, 0, none⟩), .int .i64 er.1, .int .i64 v] w (StopPost N G s l d (stopB b er) w) := by
  subst hv; exact stop_any N G s l d b er w h
def valS (n : Nat) (c : UInt8) : Nat := if n ≤ 65536 ∧ 48 ≤ c.toNat ∧ c.toNat ≤ 57 then 10 * n + (c.toNat - 48) else n
def valB (t : ByteArray) : Nat := t.data.toList.foldl valS 0
theorem valS_le (n : Nat) (c : UInt8) (h : n ≤ 655369) : valS n c ≤ 655369 := by unfold valS; split <;> omega
def numR (s : ByteArray) (x : Tok) (r : List Tok) (b : Er) : Nat × Er :=
  if 1 < x.text.size ∧ peek x.text 0 = 48 then (0, stopB (takeR s 304 x r b).2 (2, x.at_ + 1))
  else (valB x.text, if 65536 < valB x.text then stopB (takeR s 304 x r b).2 (3, x.at_) else (takeR s 304 x r b).2)
def NumPost (N G : Nat) (s : ByteArray) (x : Tok) (r : List Tok) (d : Nat) (b : Er) (w : World) (e : Ending) (w' : World) : Prop :=
  e = .returned (.int .i64 (numR s x r b).1) ∧ Wk N G s (takeR s 304 x r b).1 d (numR s x r b).2 w' ∧ Kept (· = N) w w'
set_option maxRecDepth 100000 in
set_option maxHeartbeats 4000000 in
theorem rnumber_any (N G : Nat) (s : ByteArray) (x : Tok) (r : List Tok) (d : Nat) (b : Er) (w : World) (h : Wk N G s (x :: r) d b w) (hs : s.size ≤ 65536) (hx : x.text.size ≤ 65536) (hat : x.at_ ≤ 65536) :
    Calls Try.prog 76 #[.pointer (some ⟨N, 0, none⟩)] w (NumPost N G s x r d b w) := by
  have HH := Lib.hid h; have hN := h.ltN; have hG := h.lt; clear h
  go_enter Try.func76, Try.ntmps76
  go_wp2_with fail
  refine (take_any N G s 304 x r d b _ HH.out hs).mono ?_
  rintro e w1 ⟨rfl, W1, K1⟩
  obtain ⟨w2, hw2⟩ : ∃ w2, w2 = w1.alloc (.cells #[.int .i64 x.kind, .string x.text, .int .i64 x.at_, .int .i64 x.stop] 58) := ⟨_, rfl⟩
  have kA : Kept Nix w1 w2 := by rw [hw2]; exact (Kept.refl _ _).alloc _
  have W2 := Lib.hid (W1.kept kA (fun h => h) (fun h => h))
  have K2 := Lib.hid (K1.quiet kA)
  have X2 : Four w1.heap.size (.int .i64 x.kind) (.string x.text) (.int .i64 x.at_) (.int .i64 x.stop) w2 := by rw [hw2]; exact heap_alloc_new w1 _
  have XX2 := Lib.hid X2
  have hn1 := W1.ltN
  obtain ⟨x0, x1, x2, x3, _⟩ := X2.cells
  have HW2 := Lib.hid hw2
  clear kA W1 K1 X2 hw2
  unfold tokV
  by_cases hz : 1 < x.text.size ∧ peek x.text 0 = 48
  · have eb : Hid (numR s x r b = (0, stopB (takeR s 304 x r b).2 (2, x.at_ + 1))) := if_pos hz
    obtain ⟨z1, z2⟩ := hz
    have h0 : 0 < x.text.size := by omega
    rw [peek_at h0] at z2
    have g1 : decide ((1 : Int) < (x.text.size : Int)) = true := decide_eq_true (by omega)
    have g2 : ((x.text[0].toNat : Int) == 48) = true := by simp; omega
    clear z2
    go_wp2_with fail
    rw [← HW2.out]
    refine (stop_at N G s _ d _ (2, x.at_ + 1) _ (by simp) _ W2.out).mono ?_
    rintro e w3 ⟨rfl, W3, K3⟩
    have fin : Hid (NumPost N G s x r d b w (.returned (.int .i64 0)) w3) := ⟨by rw [eb.out]; rfl, by rw [eb.out]; exact W3, K2.out.trans K3⟩
    clear W3 K3
    go_wp2_with fail
    go_ret
    exact fin.out
  · have eb : Hid (numR s x r b = (valB x.text, if 65536 < valB x.text then stopB (takeR s 304 x r b).2 (3, x.at_) else (takeR s 304 x r b).2)) := if_neg hz
    have hcv := run_bytes_of_string (P := Try.prog) w2 9 64 5 x.text Try.underlying9 Try.underlying64 Try.underlying5
    obtain ⟨w3, hw3⟩ : ∃ w3, w3 = (w2.drew.alloc (.cells (bytesRow x.text (grownCap w2 x.text.size 0 5)) 5 ((bytesRow x.text (grownCap w2 x.text.size 0 5)).size, (bytesRow x.text (grownCap w2 x.text.size 0 5)).size + 1))) := ⟨_, rfl⟩
    rw [← hw3] at hcv
    generalize grownCap w2 x.text.size 0 5 = gc at hcv hw3
    have kB : Kept Nix w2 w3 := by rw [hw3]; exact ((Kept.refl Nix w2).drew).alloc _
    have hcell : ∀ j (h : j < x.text.size), w3.cell? ⟨w2.heap.size, j, none⟩ = some (.int .u8 x.text[j].toNat) := by
      intro j h; rw [hw3]; show ((w2.drew.alloc _).cell? ⟨w2.drew.heap.size, j, none⟩) = _
      rw [World.cell?_alloc_mark, bytesRow_at x.text gc j h]; rfl
    have HC := Lib.hid hcell
    have W3 := Lib.hid (W2.out.kept kB (fun h => h) (fun h => h)); have K3 := Lib.hid (K2.out.quiet kB)
    obtain ⟨y0, y1, y2, y3, _⟩ := (XX2.out.kept kB (fun h => h)).cells
    have hz' : (decide ((1 : Int) < (x.text.size : Int)) = false) ∨ (decide ((1 : Int) < (x.text.size : Int)) = true ∧ ∃ h0 : 0 < x.text.size, ((x.text[0].toNat : Int) == 48) = false) := by
      by_cases h1 : 1 < x.text.size
      · refine .inr ⟨decide_eq_true (by omega), by omega, ?_⟩
        have h0 : 0 < x.text.size := by omega
        have : peek x.text 0 ≠ 48 := fun h => hz ⟨h1, h⟩
        rw [peek_at h0] at this
        simp; omega
      · exact .inl (decide_eq_false (by omega))
    clear hcell hw3 kB hz
    rcases hz' with g1 | ⟨g1, h0, g2⟩
    all_goals
      go_upto_region 6 with fail
      rw [← HW2.out]
      go_wp2_with fail
      go_loop [4, 28] (fun v i => ∃ j n : Nat, j ≤ x.text.size ∧ i = .int .i64 j ∧ v = .int .i64 n ∧ n ≤ 655369 ∧ Hid ((x.text.data.toList.take j).foldl valS 0 = n)) (fun _ i => x.text.size - (intOf i).toNat)
      case atStart => exact ⟨0, 0, Nat.zero_le _, rfl, rfl, by omega, by simp [Hid]⟩
      case round =>
        obtain ⟨j, n, hj, rfl, rfl, hn, hval⟩ := hrel
        by_cases hlt : j < x.text.size
        · have hcell := HC.out j hlt
          have ht1 : x.text.data.toList.take (j + 1) = x.text.data.toList.take j ++ [x.text[j]] := by
            rw [List.take_succ_eq_append_getElem (by simpa using hlt)]; rfl
          have step : Hid ((x.text.data.toList.take (j + 1)).foldl valS 0 = valS n x.text[j]) := by
            unfold Hid; rw [ht1, List.foldl_append, hval.out]; rfl
          clear ht1
          have hch := x.text[j].toNat_lt
          by_cases hy : n ≤ 65536 ∧ 48 ≤ x.text[j].toNat ∧ x.text[j].toNat ≤ 57
          · obtain ⟨m, hm⟩ : ∃ m : Nat, m = 10 * n + (x.text[j].toNat - 48) := ⟨_, rfl⟩
            have S2 : Hid ((x.text.data.toList.take (j + 1)).foldl valS 0 = m) := by unfold Hid; rw [step.out, hm]; unfold valS; rw [if_pos hy]
            obtain ⟨y1', y2', y3'⟩ := hy
            have d1 : decide ((n : Int) ≤ 65536) = true := decide_eq_true (by omega)
            have d2 : decide ((48 : Int) ≤ (x.text[j].toNat : Int)) = true := decide_eq_true (by omega)
            have d3 : decide ((x.text[j].toNat : Int) ≤ 57) = true := decide_eq_true (by omega)
            have hmi : (10 : Int) * (n : Int) + ((x.text[j].toNat : Int) - 48) = (m : Int) := by omega
            have hmb : m ≤ 655369 := by omega
            have hm1 : IntKind.i64.wrap (10 * (n : Int)) = 10 * (n : Int) := IntWalk.i64_in _ (by omega)
            have hm2 : IntKind.u8.wrap ((x.text[j].toNat : Int) - 48) = (x.text[j].toNat : Int) - 48 := by unfold IntKind.wrap; simp [IntKind.signed, IntKind.bits]; omega
            clear hm step
            go_wp2_with fail
            go_round
            case rel => exact ⟨j + 1, m, by omega, by go_num, rfl, hmb, S2⟩
            case measure => simp [intOf]; omega
          · have S2 : Hid ((x.text.data.toList.take (j + 1)).foldl valS 0 = n) := by unfold Hid; rw [step.out]; unfold valS; rw [if_neg hy]
            rcases (show 65536 < n ∨ (n ≤ 65536 ∧ x.text[j].toNat < 48) ∨ (n ≤ 65536 ∧ 48 ≤ x.text[j].toNat ∧ 57 < x.text[j].toNat) by omega) with h | ⟨h, h'⟩ | ⟨h, h', h''⟩
            · have d1 : decide ((n : Int) ≤ 65536) = false := decide_eq_false (by omega)
              clear step hy h
              go_wp2_with fail
              go_round
              case rel => exact ⟨j + 1, n, by omega, by go_num, rfl, hn, S2⟩
              case measure => simp [intOf]; omega
            · have d1 : decide ((n : Int) ≤ 65536) = true := decide_eq_true (by omega)
              have d2 : decide ((48 : Int) ≤ (x.text[j].toNat : Int)) = false := decide_eq_false (by omega)
              clear step hy h h'
              go_wp2_with fail
              go_round
              case rel => exact ⟨j + 1, n, by omega, by go_num, rfl, hn, S2⟩
              case measure => simp [intOf]; omega
            · have d1 : decide ((n : Int) ≤ 65536) = true := decide_eq_true (by omega)
              have d2 : decide ((48 : Int) ≤ (x.text[j].toNat : Int)) = true := decide_eq_true (by omega)
              have d3 : decide ((x.text[j].toNat : Int) ≤ 57) = false := decide_eq_false (by omega)
              clear step hy h h' h''
              go_wp2_with fail
              go_round
              case rel => exact ⟨j + 1, n, by omega, by go_num, rfl, hn, S2⟩
              case measure => simp [intOf]; omega
        · have ev : Hid (valB x.text = n) := by
            have h := hval.out
            rw [List.take_of_length_le (by have e : x.text.data.toList.length = x.text.size := rfl; omega)] at h; exact h
          by_cases hbig : 65536 < n
          · have hb : decide (65536 < (n : Int)) = true := decide_eq_true (by omega)
            have HB := Lib.hid hbig; clear hbig
            go_wp2_with fail
            refine (stop_any N G s _ d _ (3, x.at_) _ W3.out).mono ?_
            rintro e w4 ⟨rfl, W4, K4⟩
            have fin : Hid (NumPost N G s x r d b w (.returned (.int .i64 n)) w4) := ⟨by rw [eb.out, ev.out], by rw [eb.out, ev.out]; dsimp only; rw [if_pos HB.out]; exact W4, K3.out.trans K4⟩
            clear W4 K4
            go_wp2_with fail
            go_ret
            exact fin.out
          · have hb : decide (65536 < (n : Int)) = false := decide_eq_false (by omega)
            have fin : Hid (NumPost N G s x r d b w (.returned (.int .i64 n)) w3) := ⟨by rw [eb.out, ev.out], by rw [eb.out, ev.out]; dsimp only; rw [if_neg hbig]; exact W3.out, K3.out⟩
            clear hbig
            go_wp2_with fail
            go_ret
            exact fin.out
end Go.Proofs.Ytdnglicgmlldlaa
namespace Go.Proofs.Ytdnglicgmlldlaa
open Go.RowKit

def hd (s : ByteArray) (i : Nat) : Tok := if skip s i < s.size then tokAt s (skip s i) else endTok s
def tl (s : ByteArray) (i : Nat) : List Tok := if skip s i < s.size then (if (tokAt s (skip s i)).kind = 301 then [] else toks s (tokAt s (skip s i)).stop) else []
theorem toks_cons {s : ByteArray} {i : Nat} (hi : i ≤ s.size) : toks s i = hd s i :: tl s i := by
  rw [toks_eq hi]; unfold hd tl
  by_cases h : skip s i < s.size
  · rw [if_pos h, if_pos h, if_pos h]; split <;> rfl
  · rw [if_neg h, if_neg h, if_neg h]
theorem tokAt_at (s : ByteArray) (j : Nat) : (tokAt s j).at_ = j := by
  unfold tokAt; split
  · split <;> rfl
  · split
    · rfl
    · split <;> rfl
theorem hd_at {s : ByteArray} {i : Nat} (hi : i ≤ s.size) : (hd s i).at_ = skip s i := by
  unfold hd; split
  · exact tokAt_at _ _
  · have := skip_le hi; show s.size = _; omega
theorem hd_text (s : ByteArray) (i : Nat) : (hd s i).text.size ≤ s.size := by
  unfold hd; split
  · rename_i h
    unfold tokAt; split
    · split
      · show E0.size ≤ _; exact Nat.zero_le _
      · rename_i b n hb
        have := txtL_le _ _ _ hb
        rw [List.length_drop] at this
        have e : s.data.toList.length = s.size := rfl
        show b.toArray.size ≤ _
        rw [List.size_toArray]; omega
    · split
      · show (s.extract _ _).size ≤ _; rw [ByteArray.size_extract]; omega
      · split
        · show (s.extract _ _).size ≤ _; rw [ByteArray.size_extract]; omega
        · show (s.extract _ _).size ≤ _; rw [ByteArray.size_extract]; omega
  · exact Nat.zero_le _
theorem hd_stop {s : ByteArray} {i : Nat} (hi : i ≤ s.size) : (hd s i).stop ≤ s.size := by
  unfold hd; split
  · rename_i h; exact (tokAt_stop h).2
  · exact Nat.le_refl _
theorem peek_hi (s : ByteArray) (k : Nat) : peek s k ≤ 255 := by
  unfold peek; split
  · rename_i h; have := s[k].toNat_lt; omega
  · omega
theorem peek_neg {s : ByteArray} {k : Nat} (h : ¬ k < s.size) : peek s k = -1 := by unfold peek; rw [dif_neg h]
/-- The head's kind by the byte that comes. -/
theorem hd_kind (s : ByteArray) (i : Nat) : (hd s i).kind =
    if peek s (skip s i) = 39 then (if txtL (s.data.toList.drop (skip s i + 1)) = none then 301 else 302)
    else if 65 ≤ peek s (skip s i) ∧ peek s (skip s i) ≤ 90 then 303
    else if 48 ≤ peek s (skip s i) ∧ peek s (skip s i) ≤ 57 then 304
    else if peek s (skip s i) = -1 then 305 else peek s (skip s i) := by
  unfold hd
  by_cases h : skip s i < s.size
  · rw [if_pos h]
    have hp : peek s (skip s i) ≠ -1 := by rw [peek_at h]; omega
    unfold tokAt
    by_cases h1 : peek s (skip s i) = 39
    · rw [if_pos h1, if_pos h1]
      cases txtL (s.data.toList.drop (skip s i + 1)) with
      | none => rfl
      | some x => rfl
    · rw [if_neg h1, if_neg h1]
      by_cases h2 : 65 ≤ peek s (skip s i) ∧ peek s (skip s i) ≤ 90
      · rw [if_pos h2, if_pos h2]
      · rw [if_neg h2, if_neg h2]
        by_cases h3 : 48 ≤ peek s (skip s i) ∧ peek s (skip s i) ≤ 57
        · rw [if_pos h3, if_pos h3]
        · rw [if_neg h3, if_neg h3, if_neg hp]
  · rw [if_neg h, peek_neg h]; rfl
/-- A byte that is a sign by itself. -/
def Plain (c : Nat) : Prop := c ≠ 39 ∧ ¬ (65 ≤ c ∧ c ≤ 90) ∧ ¬ (48 ≤ c ∧ c ≤ 57) ∧ c ≤ 255
theorem kind_plain {s : ByteArray} {i c : Nat} (hc : Plain c) : (hd s i).kind = (c : Int) ↔ peek s (skip s i) = (c : Int) := by
  obtain ⟨h1, h2, h3, h4⟩ := hc
  have := peek_hi s (skip s i)
  rw [hd_kind]
  split
  · split <;> constructor <;> intro h <;> omega
  · split
    · constructor <;> intro h <;> omega
    · split
      · constructor <;> intro h <;> omega
      · split
        · constructor <;> intro h <;> omega
        · rfl
theorem stopB_ok (e : Er) : stopB (0, 0) e = e := if_pos rfl
theorem stopB_bad {b : Er} (e : Er) (hb : b.1 ≠ 0) : stopB b e = b := if_neg hb
/-- take of the sign that comes. -/
theorem take_yes {s : ByteArray} {i : Nat} {kd : Int} (hk : (hd s i).kind = kd) (h1 : kd ≠ 301) (h2 : kd ≠ 305) (b : Er) :
    takeR s kd (hd s i) (tl s i) b = (toks s (hd s i).stop, b) := by
  unfold takeR
  rw [if_neg (by rintro ⟨h, _⟩; omega), if_neg (by simp [hk])]
  have hj : skip s i < s.size := by
    rcases Nat.lt_or_ge (skip s i) s.size with h | h
    · exact h
    · exfalso; apply h2; rw [← hk]; unfold hd; rw [if_neg (by omega)]; rfl
  have e : tl s i = toks s (hd s i).stop := by
    unfold hd at hk ⊢; unfold tl
    rw [if_pos hj] at hk ⊢; rw [if_pos hj, if_neg (by rw [hk]; exact h1)]
  have hne : toks s (hd s i).stop ≠ [] := by
    unfold hd; rw [if_pos hj]; exact toks_ne (tokAt_stop hj).2
  rw [e, if_neg hne]
theorem take_no {s : ByteArray} {i : Nat} {kd : Int} (hi : i ≤ s.size) (hk : (hd s i).kind ≠ kd) (h1 : ¬ ((hd s i).kind = 301 ∧ kd = 302)) :
    takeR s kd (hd s i) (tl s i) (0, 0) = (toks s i, (2, skip s i)) := by
  unfold takeR
  rw [if_neg h1, if_pos hk, stopB_ok, hd_at hi, ← toks_cons hi]
theorem take_bad {s : ByteArray} {kd : Int} {x : Tok} {r : List Tok} {b : Er} (hb : b.1 ≠ 0) : (takeR s kd x r b).2 = b := by
  unfold takeR; split
  · exact stopB_bad _ hb
  · split
    · exact stopB_bad _ hb
    · rfl
theorem hd_stop_plain {s : ByteArray} {i c : Nat} (hc : Plain c) (h : peek s (skip s i) = (c : Int)) : (hd s i).stop = skip s i + 1 := by
  obtain ⟨h1, h2, h3, h4⟩ := hc
  have hj : skip s i < s.size := peek_lt (by omega)
  unfold hd tokAt
  rw [if_pos hj, if_neg (by omega), if_neg (by omega), if_neg (by omega)]
theorem take_need {s : ByteArray} {i c : Nat} (hi : i ≤ s.size) (hc : Plain c) : takeR s c (hd s i) (tl s i) (0, 0) = match needP c s i with
    | .ok k => (toks s k, (0, 0))
    | .error er => (toks s i, er) := by
  have h4 := hc.2.2.2
  unfold needP
  by_cases h : peek s (skip s i) = c
  · rw [if_pos h, take_yes ((kind_plain hc).2 h) (by omega) (by omega), hd_stop_plain hc h]
  · rw [if_neg h, take_no hi (fun e => h ((kind_plain hc).1 e)) (by omega)]
theorem kind_text (s : ByteArray) (i : Nat) : ((hd s i).kind = 301 ∨ (hd s i).kind = 302) ↔ peek s (skip s i) = 39 := by
  have := peek_hi s (skip s i)
  rw [hd_kind]
  split
  · rename_i h; rw [h]; split <;> simp
  · rename_i h
    split
    · simp [h]
    · split
      · simp [h]
      · split
        · simp [h]
        · simp only [h, iff_false, not_or]; omega
theorem kind_word (s : ByteArray) (i : Nat) : (hd s i).kind = 303 ↔ 65 ≤ peek s (skip s i) ∧ peek s (skip s i) ≤ 90 := by
  have := peek_hi s (skip s i)
  rw [hd_kind]
  split
  · split <;> constructor <;> intro h <;> omega
  · split
    · constructor <;> intro h <;> omega
    · split
      · constructor <;> intro h <;> omega
      · split <;> constructor <;> intro h <;> omega
theorem kind_digits (s : ByteArray) (i : Nat) : (hd s i).kind = 304 ↔ 48 ≤ peek s (skip s i) ∧ peek s (skip s i) ≤ 57 := by
  have := peek_hi s (skip s i)
  rw [hd_kind]
  split
  · split <;> constructor <;> intro h <;> omega
  · split
    · constructor <;> intro h <;> omega
    · split
      · constructor <;> intro h <;> omega
      · split <;> constructor <;> intro h <;> omega
theorem take_text {s : ByteArray} {i : Nat} (hi : i ≤ s.size) : match textP s i with
    | .ok ((t, a), k) => (hd s i).text = t ∧ (hd s i).at_ = a ∧ takeR s 302 (hd s i) (tl s i) (0, 0) = (toks s k, (0, 0))
    | .error er => takeR s 302 (hd s i) (tl s i) (0, 0) = (toks s i, er) := by
  unfold textP needP
  by_cases h : peek s (skip s i) = 39
  · have hj : skip s i < s.size := peek_lt (by omega)
    have hk := hd_kind s i
    rw [if_pos h] at hk
    rw [show ((39 : Nat) : Int) = 39 from rfl, if_pos h]
    dsimp only
    have ehd : hd s i = match txtL (s.data.toList.drop (skip s i + 1)) with
      | none => ⟨301, E0, skip s i, s.size⟩
      | some (b, n) => ⟨302, ⟨b.toArray⟩, skip s i, skip s i + 1 + n⟩ := by
      unfold hd tokAt; rw [if_pos hj, if_pos h]
      cases txtL (s.data.toList.drop (skip s i + 1)) <;> rfl
    cases ht : txtL (s.data.toList.drop (skip s i + 1)) with
    | none =>
      rw [ht] at hk
      have hk' : (hd s i).kind = 301 := hk
      dsimp only [textR]
      unfold takeR; rw [if_pos ⟨hk', rfl⟩, stopB_ok, ← toks_cons hi]
    | some x =>
      obtain ⟨b, n⟩ := x
      rw [ht] at ehd
      have e1 : hd s i = ⟨302, ⟨b.toArray⟩, skip s i, skip s i + 1 + n⟩ := ehd
      dsimp only [textR]
      refine ⟨by rw [e1]; simp, by rw [e1]; simp, ?_⟩
      rw [take_yes (by rw [e1]) (by decide) (by decide), e1]
  · rw [show ((39 : Nat) : Int) = 39 from rfl, if_neg h]
    dsimp only
    have hn : ¬ ((hd s i).kind = 301 ∨ (hd s i).kind = 302) := fun e => h ((kind_text s i).1 e)
    exact take_no hi (fun e => hn (.inr e)) (fun e => hn (.inl e.1))
theorem take_word {s : ByteArray} {i : Nat} (hi : i ≤ s.size) : match wordP s i with
    | .ok ((t, a), k) => (hd s i).text = t ∧ (hd s i).at_ = a ∧ takeR s 303 (hd s i) (tl s i) (0, 0) = (toks s k, (0, 0))
    | .error er => takeR s 303 (hd s i) (tl s i) (0, 0) = (toks s i, er) := by
  unfold wordP
  by_cases h : 65 ≤ peek s (skip s i) ∧ peek s (skip s i) ≤ 90
  · have hj : skip s i < s.size := peek_lt (by omega)
    have e1 : hd s i = ⟨303, s.extract (skip s i) (runEnd isW s (skip s i)), skip s i, runEnd isW s (skip s i)⟩ := by
      unfold hd tokAt; rw [if_pos hj, if_neg (by omega), if_pos h]
    rw [if_pos h]
    dsimp only
    refine ⟨by rw [e1], by rw [e1], ?_⟩
    rw [take_yes (by rw [e1]) (by decide) (by decide), e1]
  · rw [if_neg h]
    dsimp only
    exact take_no hi (fun e => h ((kind_word s i).1 e)) (by omega)
theorem take_name {s : ByteArray} {i : Nat} (hi : i ≤ s.size) : match nameP s i with
    | .ok (t, k) => (hd s i).text = t ∧ nameB s (hd s i) (tl s i) (0, 0) = (0, 0) ∧ (takeR s 303 (hd s i) (tl s i) (0, 0)).1 = toks s k
    | .error er => nameB s (hd s i) (tl s i) (0, 0) = er := by
  have h := take_word hi
  have key : ∀ er : Er, er.1 ≠ 0 → (takeR s 303 (hd s i) (tl s i) (0, 0)).2 = er → nameB s (hd s i) (tl s i) (0, 0) = er := fun er h0 e => by
    unfold nameB; rw [e]; split
    · exact stopB_bad _ h0
    · rfl
  unfold nameP
  cases hw : wordP s i with
  | error er =>
    rw [hw] at h
    dsimp only at h ⊢
    refine key er ?_ (by rw [h])
    unfold wordP at hw; split at hw
    · cases hw
    · cases hw; show (2 : Int) ≠ 0; decide
  | ok x =>
    obtain ⟨⟨t, a⟩, k⟩ := x
    rw [hw] at h
    dsimp only at h ⊢
    obtain ⟨h1, h2, h3⟩ := h
    by_cases hz : 16 < t.size
    · rw [if_pos hz]; dsimp only; unfold nameB; rw [h1, if_pos hz, h3, stopB_ok, h2]
    · rw [if_neg hz]; dsimp only; refine ⟨h1, ?_, by rw [h3]⟩; unfold nameB; rw [h1, if_neg hz, h3]
end Go.Proofs.Ytdnglicgmlldlaa
namespace Go.Proofs.Ytdnglicgmlldlaa
open Go.RowKit

theorem take_while (f : UInt8 → Bool) : ∀ l : List UInt8, l.take (l.takeWhile f).length = l.takeWhile f
  | [] => rfl
  | c :: r => by
    rw [List.takeWhile_cons]; split
    · rw [List.length_cons, List.take_succ_cons, take_while f r]
    · rfl
theorem run_list {s : ByteArray} {f : UInt8 → Bool} {j : Nat} : (s.extract j (runEnd f s j)).data.toList = (s.data.toList.drop j).takeWhile f := by
  have e : (s.extract j (runEnd f s j)).data.toList = (s.data.toList.drop j).take (runEnd f s j - j) := by
    rw [ByteArray.data_extract, Array.toList_extract]
  rw [e]; unfold runEnd
  rw [show j + ((s.data.toList.drop j).takeWhile f).length - j = ((s.data.toList.drop j).takeWhile f).length by omega, take_while]
theorem val_big : ∀ (l : List UInt8) (n : Nat), 65536 < n → l.foldl valS n = n
  | [], n, _ => rfl
  | c :: r, n, h => by
    have e : valS n c = n := by unfold valS; rw [if_neg (by omega)]
    rw [List.foldl_cons, e]; exact val_big r n h
theorem isD_at {s : ByteArray} {k : Nat} (h : k < s.size) : isD s k = digitN s[k] := by rw [digit_eq]; unfold isD; rw [peek_at h]
theorem isD_end {s : ByteArray} {k : Nat} (h : ¬ k < s.size) : isD s k = false := by unfold isD; rw [peek_neg h]; decide
theorem num_go {s : ByteArray} {j : Nat} : ∀ (f k n : Nat), s.size ≤ f + k → k ≤ s.size → n ≤ 65536 → j < k → (k = j + 1 → peek s j = 48 → isD s k = false) →
    numGo s j f k n = if 65536 < ((s.data.toList.drop k).takeWhile digitN).foldl valS n then .error (3, j) else .ok (((s.data.toList.drop k).takeWhile digitN).foldl valS n, k + ((s.data.toList.drop k).takeWhile digitN).length)
  | 0, k, n, h1, hk, h2, hj, h3 => by
    rw [drop_end (by omega)]
    show _ = if 65536 < n then (.error (3, j) : Res Nat) else .ok (n, k + 0)
    rw [if_neg (by omega)]; rfl
  | f + 1, k, n, h1, hk, h2, hj, h3 => by
    rw [numGo]
    by_cases hd : isD s k = true
    · have hlt : k < s.size := by
        rcases Nat.lt_or_ge k s.size with h | h
        · exact h
        · rw [isD_end (by omega)] at hd; cases hd
      have hg : digitN s[k] = true := by rw [← isD_at hlt]; exact hd
      rw [if_pos hd, if_neg (fun e => by rw [h3 e.1 e.2] at hd; cases hd), drop_cons hlt, List.takeWhile_cons, if_pos hg, List.foldl_cons]
      have hg' := hg
      rw [digit_eq] at hg'; simp at hg'
      have ep : (peek s k).toNat = s[k].toNat := by rw [peek_at hlt]; rfl
      have ev : valS n s[k] = 10 * n + (s[k].toNat - 48) := by unfold valS; rw [if_pos (by omega)]
      rw [ep, ev, List.length_cons]
      by_cases hb : 65536 < 10 * n + (s[k].toNat - 48)
      · rw [if_pos hb, val_big _ _ hb, if_pos hb]
      · rw [if_neg hb, num_go f (k + 1) _ (by omega) (by omega) (by omega) (by omega) (fun e e2 => by omega)]
        split
        · rfl
        · congr 2; omega
    · have hdf : isD s k = false := by simpa using hd
      have e : (s.data.toList.drop k).takeWhile digitN = [] := by
        rcases Nat.lt_or_ge k s.size with h | h
        · rw [drop_cons h, List.takeWhile_cons, if_neg (by rw [← isD_at h, hdf]; decide)]
        · rw [drop_end h]; rfl
      rw [if_neg hd, e]
      show _ = if 65536 < n then (.error (3, j) : Res Nat) else .ok (n, k + 0)
      rw [if_neg (by omega)]; rfl
theorem peek_list (t : ByteArray) (c : UInt8) (l : List UInt8) (h : t.data.toList = c :: l) : peek t 0 = c.toNat := by
  have h0 : 0 < t.size := by have e : t.data.toList.length = t.size := rfl; rw [h, List.length_cons] at e; omega
  have h1 := drop_cons h0
  rw [List.drop_zero, h] at h1
  rw [peek_at h0, (List.cons.inj h1).1]
theorem take_num {s : ByteArray} {i : Nat} (hi : i ≤ s.size) : match numP s i with
    | .ok (n, k) => numR s (hd s i) (tl s i) (0, 0) = (n, (0, 0)) ∧ (takeR s 304 (hd s i) (tl s i) (0, 0)).1 = toks s k
    | .error er => (numR s (hd s i) (tl s i) (0, 0)).2 = er := by
  unfold numP
  by_cases h : 48 ≤ peek s (skip s i) ∧ peek s (skip s i) ≤ 57
  · have hj : skip s i < s.size := peek_lt (by omega)
    have e1 : hd s i = ⟨304, s.extract (skip s i) (runEnd digitN s (skip s i)), skip s i, runEnd digitN s (skip s i)⟩ := by
      unfold hd tokAt; rw [if_pos hj, if_neg (by omega), if_neg (by omega), if_pos h]
    have hT : takeR s 304 (hd s i) (tl s i) (0, 0) = (toks s (runEnd digitN s (skip s i)), (0, 0)) := by
      rw [take_yes (by rw [e1]) (by decide) (by decide), e1]
    have hD : isD s (skip s i) = true := by unfold isD; simp [h.1, h.2]
    have hg : digitN s[skip s i] = true := by rw [← isD_at hj]; exact hD
    have hL : (hd s i).text.data.toList = s[skip s i] :: (s.data.toList.drop (skip s i + 1)).takeWhile digitN := by
      rw [e1]; show (s.extract _ _).data.toList = _
      rw [run_list, drop_cons hj, List.takeWhile_cons, if_pos hg]
    have hrun : runEnd digitN s (skip s i) = skip s i + 1 + ((s.data.toList.drop (skip s i + 1)).takeWhile digitN).length := by
      rw [run_yes hj hg]; rfl
    have hz : (hd s i).text.size = ((s.data.toList.drop (skip s i + 1)).takeWhile digitN).length + 1 := by
      have e : (hd s i).text.data.toList.length = (hd s i).text.size := rfl
      rw [← e, hL, List.length_cons]
    have hp0 : peek (hd s i).text 0 = peek s (skip s i) := by rw [peek_list _ _ _ hL, peek_at hj]
    have hat := hd_at hi
    have ep : (peek s (skip s i)).toNat = s[skip s i].toNat := by rw [peek_at hj]; rfl
    have hb : s[skip s i].toNat - 48 ≤ 9 := by have := h.2; rw [peek_at hj] at this; omega
    have ev : valB (hd s i).text = ((s.data.toList.drop (skip s i + 1)).takeWhile digitN).foldl valS (s[skip s i].toNat - 48) := by
      unfold valB; rw [hL, List.foldl_cons]
      have : valS 0 s[skip s i] = s[skip s i].toNat - 48 := by
        have h' := h; rw [peek_at hj] at h'
        unfold valS; rw [if_pos (by omega)]; omega
      rw [this]
    rw [if_pos h, show s.size - skip s i = (s.size - skip s i - 1) + 1 by omega, numGo, if_pos hD, if_neg (by omega), ep, if_neg (by omega), Nat.mul_zero, Nat.zero_add]
    by_cases hlead : peek s (skip s i) = 48 ∧ isD s (skip s i + 1) = true
    · have hl2 : skip s i + 1 < s.size := by
        rcases Nat.lt_or_ge (skip s i + 1) s.size with h' | h'
        · exact h'
        · rw [isD_end (by omega)] at hlead; cases hlead.2
      have hn : 1 < (hd s i).text.size := by
        rw [hz, drop_cons hl2, List.takeWhile_cons, if_pos (by rw [← isD_at hl2]; exact hlead.2), List.length_cons]; omega
      rw [show s.size - skip s i - 1 = (s.size - skip s i - 2) + 1 by omega, numGo, if_pos hlead.2, if_pos ⟨rfl, hlead.1⟩]
      dsimp only
      unfold numR
      rw [if_pos ⟨hn, by rw [hp0]; exact hlead.1⟩, hT, stopB_ok, hat]
    · rw [num_go _ _ _ (by omega) (by omega) (by omega) (by omega) (fun _ e2 => by simpa [e2] using hlead), ← ev]
      have hno : ¬ (1 < (hd s i).text.size ∧ peek (hd s i).text 0 = 48) := by
        rintro ⟨h1, h2⟩
        rw [hp0] at h2
        have hf : isD s (skip s i + 1) = false := by simpa [h2] using hlead
        rw [hz] at h1
        rcases Nat.lt_or_ge (skip s i + 1) s.size with h' | h'
        · rw [drop_cons h', List.takeWhile_cons, if_neg (by rw [← isD_at h', hf]; decide)] at h1; simp at h1
        · rw [drop_end h'] at h1; simp at h1
      by_cases hbig : 65536 < valB (hd s i).text
      · rw [if_pos hbig]; dsimp only
        unfold numR; rw [if_neg hno, if_pos hbig, hT, stopB_ok, hat]
      · rw [if_neg hbig]; dsimp only
        refine ⟨?_, by rw [hT, hrun]⟩
        unfold numR; rw [if_neg hno, if_neg hbig, hT]
  · rw [if_neg h]
    dsimp only
    have hT := take_no (kd := 304) hi (fun e => h ((kind_digits s i).1 e)) (by omega)
    unfold numR
    rw [hT]
    split
    · exact stopB_bad (b := (2, skip s i)) (2, (hd s i).at_ + 1) (by show (2 : Int) ≠ 0; decide)
    · dsimp only; split
      · exact stopB_bad (b := (2, skip s i)) _ (by show (2 : Int) ≠ 0; decide)
      · rfl
end Go.Proofs.Ytdnglicgmlldlaa
namespace Go.Proofs.Ytdnglicgmlldlaa
open Go.RowKit

/-- q: the answer; l, d', b: what is left, how deep, what is wrong; r: what the reader makes of it. -/
def RefOk (s : ByteArray) (d : Nat) (r : Res PatT) (q : PatT) (l : List Tok) (d' : Nat) (b : Er) : Prop :=
  match r with
  | .ok (p, k) => q = p ∧ l = toks s k ∧ d' = d ∧ b = (0, 0)
  | .error er => b = er ∧ er.1 ≠ 0 ∧ d ≤ d' ∧ d' ≤ 201
def RefPost (N G : Nat) (s : ByteArray) (d : Nat) (r : Res PatT) (w : World) (e : Ending) (w' : World) : Prop :=
  ∃ q v l d' b, e = .returned v ∧ patVal w.heap.size q w' v ∧ Wk N G s l d' b w' ∧ RefOk s d r q l d' b ∧ Kept (· = N) w w'
theorem results_fiveN {n : Nat} {f : Func} (hres : f.results = #[.cell n 24]) {tmps : Array Value} {M : Nat} (ht : tmps.getD n undef = .pointer (some ⟨M, 0, none⟩)) {c0 c1 c2 c3 c4 : Value} {w : World} (h : Five M c0 c1 c2 c3 c4 w) :
    (results f tmps).run Try.prog w = .ok (.agg #[c0, c1, c2, c3, c4]) w := by
  obtain ⟨h0, h1, h2, h3, h4, _⟩ := h.cells
  have ht' : tmps[n]?.getD undef = .pointer (some ⟨M, 0, none⟩) := by rw [← ht, Array.getD_eq_getD_getElem?]
  simp [results, hres, go_sem, ht', h0, h1, h2, h3, h4]
/-- The end: w2: before the answer's five cells are written; w': behind. -/
theorem ret_refG (n : Nat) {f : Func} (hres : f.results = #[.cell n 24]) {tmps : Array Value} {M N G : Nat} {s : ByteArray} {d d' : Nat} {b : Er} {l : List Tok} {r : Res PatT} {p : PatT} {w w2 w' : World} {ka : Option Addr} {cap : Nat} {S : Nat → Prop}
    (ht : tmps.getD n undef = .pointer (some ⟨M, 0, none⟩)) (F : Five M (.int .i64 p.kind) (.string p.text) (.int .i64 p.n) (.string p.name) (.slice ka p.kids.length cap) w') (K5 : Kept (· = M) w2 w') (R : Wk N G s l d' b w2) (K : Kept (· = N) w w2) (hM : w.heap.size ≤ M) (hN : N < w.heap.size) (hG : G < w.heap.size)
    (hr : RefOk s d r p l d' b) (hz : p.text.size < 1000000000 ∧ p.name.size < 1000000000 ∧ p.kids.length < 1000000000) (hS : ∀ b, S b → w.heap.size ≤ b ∧ b < w2.heap.size ∧ b ≠ M) (hp : PatsAt w2 S ka p.kids) :
    bodyPost Try.prog f (RefPost N G s d r w) .ret ⟨tmps, []⟩ w' := by
  refine bodyPost_ret (v := .agg #[.int .i64 p.kind, .string p.text, .int .i64 p.n, .string p.name, .slice ka p.kids.length cap]) (results_fiveN hres ht F) rfl ?_
  refine ⟨p, _, l, d', b, rfl, ⟨S, fun b hb => ⟨(hS b hb).1, Nat.lt_of_lt_of_le (hS b hb).2.1 K5.size⟩, ka, cap, rfl, hz, ?_⟩, R.kept K5 (by omega) (by omega), hr, K.step K5 (fun y hy => .inr (by omega))⟩
  exact hp.kept K5 fun b hb => ⟨(hS b hb).2.1, (hS b hb).2.2⟩
theorem ret_ref (n : Nat) {f : Func} (hres : f.results = #[.cell n 24]) {tmps : Array Value} {M N G : Nat} {s : ByteArray} {d d' : Nat} {b : Er} {l : List Tok} {r : Res PatT} {p : PatT} {w w2 : World} {ka : Option Addr} {cap : Nat} {S : Nat → Prop} {z0 z1 z2 z3 z4 : Value}
    (ht : tmps.getD n undef = .pointer (some ⟨M, 0, none⟩)) (F : Five M z0 z1 z2 z3 z4 w2) (R : Wk N G s l d' b w2) (K : Kept (· = N) w w2) (hM : w.heap.size ≤ M) (hN : N < w.heap.size) (hG : G < w.heap.size)
    (hr : RefOk s d r p l d' b) (hz : p.text.size < 1000000000 ∧ p.name.size < 1000000000 ∧ p.kids.length < 1000000000) (hS : ∀ b, S b → w.heap.size ≤ b ∧ b < w2.heap.size ∧ b ≠ M) (hp : PatsAt w2 S ka p.kids) :
    bodyPost Try.prog f (RefPost N G s d r w) .ret ⟨tmps, []⟩ (set5 w2 M (.int .i64 p.kind) (.string p.text) (.int .i64 p.n) (.string p.name) (.slice ka p.kids.length cap)) :=
  ret_refG n hres ht (F.set5 _ _ _ _ _) ((Kept.refl (· = M) w2).set5 (.inl rfl) _ _ _ _ _) R K hM hN hG hr hz hS hp
theorem row_depth {N : Nat} {v : Value} {s : ByteArray} {d : Nat} {b : Er} {w : World} (h : FiveW N v s d b w) (k : Nat) : FiveW N v s k b (w.setCell ⟨N, 2, none⟩ (.int .i64 (k : Int))) := by
  unfold FiveW at h ⊢; rw [row_setCell h]; rfl
theorem Wk.setDepth {N G : Nat} {s : ByteArray} {l : List Tok} {d : Nat} {b : Er} {w : World} (h : Wk N G s l d b w) (k : Nat) : Wk N G s l k b (w.setCell ⟨N, 2, none⟩ (.int .i64 (k : Int))) := by
  obtain ⟨v, hv, hl⟩ := h.blk
  have kk : Kept (· = N) w (w.setCell ⟨N, 2, none⟩ (.int .i64 (k : Int))) := (Kept.refl (· = N) w).setCell (p := ⟨N, 2, none⟩) (.inl rfl) _
  exact ⟨⟨v, row_depth hv k, hl.kept kk h.lt h.ne⟩, h.ne, Nat.lt_of_lt_of_le h.lt kk.size, h.nonnil, h.len⟩
theorem Wk.two {N G : Nat} {s : ByteArray} {l : List Tok} {d : Nat} {b : Er} {w : World} (h : Wk N G s l d b w) : w.cell? ⟨N, 2, none⟩ = some (.int .i64 d) ∧ w.frozen? ⟨N, 2, none⟩ = false := by
  obtain ⟨v, hv, hl⟩ := h.blk
  have := FiveW.cells hv
  exact ⟨this.2.2.1, this.2.2.2.2.2 2⟩
theorem Wk.bad {N G : Nat} {s : ByteArray} {l : List Tok} {d : Nat} {b : Er} {w : World} (h : Wk N G s l d b w) : w.cell? ⟨N, 3, none⟩ = some (.int .i64 b.1) ∧ w.cell? ⟨N, 4, none⟩ = some (.int .i64 b.2) := by
  obtain ⟨v, hv, hl⟩ := h.blk
  have := FiveW.cells hv
  exact ⟨this.2.2.2.1, this.2.2.2.2.1⟩
def AltR (N G : Nat) (s : ByteArray) (d : Nat) (alt : Nat → Res PatT) : Prop :=
  ∀ (i : Nat) (w : World), Wk N G s (toks s i) d (0, 0) w → i ≤ s.size → Calls Try.prog 23 #[.pointer (some ⟨N, 0, none⟩)] w (RefPost N G s d (alt i) w)
/-- Behind a bracket: the alternatives and the other bracket. -/
def deepP (inner : Nat → Res PatT) (s : ByteArray) (i : Nat) : Res PatT :=
  match inner i with
  | .error e => .error e
  | .ok (p, k) => match needP 41 s k with
    | .error e => .error e
    | .ok k1 => .ok (p, k1)
def DeepR (N G : Nat) (s : ByteArray) (d : Nat) (inner : Nat → Res PatT) : Prop :=
  ∀ (i : Nat) (x : Tok) (w : World), x.stop = i → Wk N G s (toks s i) d (0, 0) w → i ≤ s.size → Calls Try.prog 74 #[.pointer (some ⟨N, 0, none⟩), tokV x] w (RefPost N G s d (deepP inner s i) w)
theorem need_err {c : Nat} {s : ByteArray} {i : Nat} {e : Er} (h : needP c s i = .error e) : e.1 ≠ 0 := by
  unfold needP at h; split at h
  · cases h
  · cases h; show (2 : Int) ≠ 0; decide
theorem plain41 : Plain 41 := by unfold Plain; decide
/-- The other bracket behind what alternatives left. -/
theorem RefOk.close {s : ByteArray} {d : Nat} {inner : Nat → Res PatT} {i : Nat} {q : PatT} {x : Tok} {r : List Tok} {d' : Nat} {b : Er} (hd : d ≤ 200) (hk : ∀ p k, inner i = .ok (p, k) → k ≤ s.size) (h : RefOk s (d + 1) (inner i) q (x :: r) d' b) :
    RefOk s d (deepP inner s i) q (takeR s 41 x r b).1 (d' - 1) (takeR s 41 x r b).2 ∧ 1 ≤ d' ∧ d' ≤ d + 202 := by
  unfold deepP
  cases ht : inner i with
  | error er =>
    rw [ht] at h
    obtain ⟨rfl, h1, h2, h3⟩ := h
    exact ⟨⟨take_bad h1, h1, by omega, by omega⟩, by omega, by omega⟩
  | ok y =>
    obtain ⟨p, k⟩ := y
    rw [ht] at h
    obtain ⟨rfl, h1, rfl, rfl⟩ := h
    have hks := hk _ _ ht
    rw [toks_cons hks] at h1
    obtain ⟨rfl, rfl⟩ := List.cons.inj h1
    have hT := take_need (c := 41) hks plain41
    refine ⟨?_, by omega, by omega⟩
    dsimp only
    rw [show ((41 : Nat) : Int) = 41 from rfl] at hT
    rw [hT]
    cases hn : needP 41 s k with
    | error er => exact ⟨rfl, need_err hn, by omega, by show d + 1 - 1 ≤ 201; omega⟩
    | ok k1 => exact ⟨rfl, rfl, by omega, rfl⟩
end Go.Proofs.Ytdnglicgmlldlaa
