/- The document's Null: may a pattern match nothing, by which names may? -/
import Derived.Test.YtdkpdomggbiolaaGrd
namespace Go.Proofs.Ytdkpdomggbiolaa
set_option linter.all false
open Go.RowKit

def mL (L : List ByteArray) (n : ByteArray) : Bool := !moreF L n
/-- A gift has a kid. -/
def KidsOk (p : PatT) : Prop := ∀ x ∈ allT p, x.kind = 21 ∨ x.kind = 22 → 0 < x.kids.length
theorem KidsOk.get {k n : Int} {t nm : ByteArray} {kids : List PatT} (h : KidsOk (.mk k t n nm kids)) (j : Nat) (hj : j < kids.length) : KidsOk kids[j] := by
  intro x hx
  refine h x ?_
  rw [allT]
  refine List.mem_cons_of_mem _ ?_
  have key : ∀ (q : List PatT) (j : Nat) (hj : j < q.length), ∀ x ∈ allT q[j], x ∈ allL q := by
    intro q
    induction q with
    | nil => intro j hj; simp at hj
    | cons y r ih =>
      intro j hj x hx
      rw [allL]
      cases j with
      | zero => exact List.mem_append_left _ hx
      | succ j => exact List.mem_append_right _ (ih j (by simpa using hj) x hx)
  exact key kids j hj x hx
theorem emptyAll_drop (m : ByteArray → Bool) (q : List PatT) (j : Nat) (h : j < q.length) : emptyAll m (q.drop j) = (emptyF m q[j] && emptyAll m (q.drop (j + 1))) := by
  rw [List.drop_eq_getElem_cons h, emptyAll]
theorem emptyAny_drop (m : ByteArray → Bool) (q : List PatT) (j : Nat) (h : j < q.length) : emptyAny m (q.drop j) = (emptyF m q[j] || emptyAny m (q.drop (j + 1))) := by
  rw [List.drop_eq_getElem_cons h, emptyAny]
theorem emptyF_else (m : ByteArray → Bool) {k n : Int} {t nm : ByteArray} {kids : List PatT} (h : k ≠ 1 ∧ k ≠ 2 ∧ k ≠ 3 ∧ k ≠ 4 ∧ k ≠ 5 ∧ k ≠ 14 ∧ k ≠ 15 ∧ k ≠ 17 ∧ k ≠ 24 ∧ k ≠ 21 ∧ k ≠ 22 ∧ k ≠ 18 ∧ k ≠ 19) : emptyF m (.mk k t n nm kids) = true := by
  obtain ⟨h1, h2, h3, h4, h5, h6, h7, h8, h9, h10, h11, h12, h13⟩ := h
  rw [emptyF, if_neg h1, if_neg h2, if_neg (by omega), if_neg h9, if_neg (by omega), if_neg h12, if_neg h13]

theorem PutV.keep {w w' : World} {v : Value} {L : List ByteArray} (h : PutV w (fun b => b < w.heap.size) v L) (hk : Kept Nix w w') : PutV w' (fun b => b < w'.heap.size) v L := by
  rcases h with h | ⟨h0, b, o, cap, e, h1, h2, hb, hc⟩
  · exact .inl h
  · exact .inr ⟨h0, b, o, cap, e, h1, h2, Nat.lt_of_lt_of_le hb hk.size, fun i hi => (hk.cell hb (fun h => h)).trans (hc i hi)⟩
theorem PutV.zero {w : World} {v : Value} {L : List ByteArray} (h : PutV w (fun b => b < w.heap.size) v L) : PutV w (fun b => 0 ≤ b ∧ b < w.heap.size) v L := by
  rcases h with h | ⟨h0, b, o, cap, e, h1, h2, hb, hc⟩
  · exact .inl h
  · exact .inr ⟨h0, b, o, cap, e, h1, h2, ⟨Nat.zero_le _, hb⟩, hc⟩
set_option maxRecDepth 100000 in
set_option maxHeartbeats 4000000 in
theorem null_any (S : Nat → Prop) (L : List ByteArray) (hLU : L.length ≤ 70000000) : ∀ (m : Nat) (p : PatT) (v nv : Value) (w : World), sizeT p ≤ m → PatV w S v p → Safe S Nix w.heap.size → KidsOk p → PutV w (fun b => b < w.heap.size) nv L →
    Calls Try.prog 26 #[v, nv] w (BoolQ (emptyF (mL L) p) w) := by
  intro m
  induction m with
  | zero => intro p v nv w hm; have := sizeT_pos p; omega
  | succ m ih =>
  intro p v nv w hm hp hS hko hn
  obtain ⟨k, t, n, nm, kids⟩ := p
  have hih : ∀ (j : Nat) (hj : j < kids.length) (v nv : Value) (w : World), PatV w S v kids[j] → Safe S Nix w.heap.size → PutV w (fun b => b < w.heap.size) nv L → Calls Try.prog 26 #[v, nv] w (BoolQ (emptyF (mL L) kids[j]) w) :=
    fun j hj v nv w h1 h2 h3 => ih kids[j] v nv w (by have := sizeT_get kids j hj; simp only [sizeT] at hm; omega) h1 h2 (hko.get j hj) h3
  obtain ⟨ka, cap, rfl, hz, hks⟩ := hp
  dsimp only [PatT.kind_mk, PatT.text_mk, PatT.n_mk, PatT.name_mk, PatT.kids_mk] at hz hks ⊢
  obtain ⟨w1, hw1⟩ : ∃ w1, w1 = w.alloc (.cells #[.int .i64 k, .string t, .int .i64 n, .string nm, .slice ka kids.length cap] 25) := ⟨_, rfl⟩
  have B1 : Hid (Box5 w.heap.size (.int .i64 k) (.string t) (.int .i64 n) (.string nm) (.slice ka kids.length cap) w1) := by rw [hw1]; exact Box5.new ..
  have K1 : Hid (Kept Nix w w1) := by rw [hw1]; exact (Kept.refl _ _).alloc _
  have HKS := Lib.hid (hks.kept K1.out hS); have S1 := Lib.hid (hS.mono K1.out.size)
  obtain ⟨na, nc, rfl⟩ := hn.shape
  have hn1 : PutV w1 (fun b => b < w1.heap.size) (.slice na L.length nc) L := by
    rcases hn with h | ⟨h0, b, o, cap, e, h1, h2, hb, hc⟩
    · exact .inl h
    · exact .inr ⟨h0, b, o, cap, e, h1, h2, Nat.lt_of_lt_of_le hb K1.out.size, fun i hi => (K1.out.cell hb (fun h => h)).trans (hc i hi)⟩
  have HN := Lib.hid hn1; have HIH := Lib.hid hih; have HW1 := Lib.hid hw1
  have hko0 : Hid (k = 21 ∨ k = 22 → 0 < kids.length) := hko (.mk k t n nm kids) (by rw [allT]; exact List.mem_cons_self ..)
  have hkl := hz.2.2
  obtain ⟨b0, b1, b2, b3, b4⟩ : _ ∧ _ ∧ _ ∧ _ ∧ _ := ⟨B1.out.h0, B1.out.h1, B1.out.h2, B1.out.h3, B1.out.h4⟩
  clear hih ih hks hn hn1 hw1 hS hko hm
  have hstart : Hid (∀ e w', BoolQ (emptyF (mL L) (.mk k t n nm kids)) w1 e w' → BoolQ (emptyF (mL L) (.mk k t n nm kids)) w e w') := fun e w' h => ⟨h.1, K1.out.trans h.2⟩
  by_cases h1 : k = 1
  · subst h1
    have fin : Hid (emptyF (mL L) (.mk 1 t n nm kids) = t.toList.isEmpty) := by
      unfold Hid; rw [emptyF, if_pos rfl, Bool.eq_iff_iff, decide_eq_true_eq, isEmpty_size]
    go_enter Try.func26, Try.ntmps26
    go_upto_region 1 with fail
    rw [← HW1.out]
    clear HW1
    go_wp2_with fail
    go_ret
    exact ⟨by rw [fin.out]; try rfl, K1.out⟩
  by_cases h2 : k = 2
  · subst h2
    have fin : Hid (emptyF (mL L) (.mk 2 t n nm kids) = (n == 0)) := by
      unfold Hid; rw [emptyF, if_neg (by decide), if_pos rfl, Bool.eq_iff_iff]; simp
    go_enter Try.func26, Try.ntmps26
    go_upto_region 1 with fail
    rw [← HW1.out]
    clear HW1
    go_wp2_with fail
    go_ret
    exact ⟨by rw [fin.out]; try rfl, K1.out⟩
  by_cases h3 : k = 3 ∨ k = 4 ∨ k = 5 ∨ k = 14 ∨ k = 15 ∨ k = 17
  · have fin : Hid (emptyF (mL L) (.mk k t n nm kids) = false) := by unfold Hid; rw [emptyF, if_neg h1, if_neg h2, if_pos h3]
    clear h1 h2
    rcases h3 with rfl | rfl | rfl | rfl | rfl | rfl
    all_goals
      go_enter Try.func26, Try.ntmps26
      go_upto_region 1 with fail
      rw [← HW1.out]
      clear HW1
      go_wp2_with fail
      go_ret
      exact ⟨by rw [fin.out]; try rfl, K1.out⟩
  by_cases h24 : k = 24
  · subst h24
    have fin : Hid (emptyF (mL L) (.mk 24 t n nm kids) = !moreF L nm) := by unfold Hid; rw [emptyF]; simp [mL]
    have HPU := Lib.hid (put8_any L nm (.slice na L.length nc) 0 w1 (Nat.zero_le _) (HN.out.zero) (by omega))
    clear h1 h2 h3
    go_enter Try.func26, Try.ntmps26
    go_upto_region 1 with fail
    rw [← HW1.out]
    clear HW1
    go_wp2_with (go_at_call 19; (refine HPU.out.mono ?_); rintro e w2 ⟨v2, rfl, _, k2_⟩; have K2 := Lib.hid (K1.out.trans k2_); clear k2_)
    go_ret
    exact ⟨by rw [fin.out]; try rfl, K2.out⟩
  by_cases h21 : k = 21 ∨ k = 22
  · have hpos := hko0.out h21
    have hks1 := HKS.out
    obtain ⟨bb, oo, rfl⟩ := PatsAt_head hks1 hpos
    have hk0 := PatsAt_get kids bb oo 0 hpos hks1
    rw [Nat.zero_mul, Nat.add_zero] at hk0
    obtain ⟨_, hz2, p0, p1, p2, p3, ka2, cap2, p4, hk2⟩ := hk0.open
    have fin : Hid (emptyF (mL L) (.mk k t n nm kids) = emptyF (mL L) kids[0]) := by
      unfold Hid; rw [emptyF, if_neg h1, if_neg h2, if_neg h3, if_neg h24, if_pos h21]
      cases kids with
      | nil => simp at hpos
      | cons y r => rw [emptyHd]; rfl
    have HC := Lib.hid (HIH.out 0 hpos (.agg #[.int .i64 kids[0].kind, .string kids[0].text, .int .i64 kids[0].n, .string kids[0].name, .slice ka2 kids[0].kids.length cap2]) (.slice na L.length nc) w1 ⟨ka2, cap2, rfl, hz2, hk2⟩ S1.out HN.out)
    generalize kids[0] = y at *
    clear h1 h2 h3 h24 hks1 hk0 hk2 hz2
    rcases h21 with rfl | rfl
    all_goals
      go_enter Try.func26, Try.ntmps26
      go_upto_region 1 with fail
      rw [← HW1.out]
      clear HW1
      go_wp2_with (go_at_call 26; (refine HC.out.mono ?_); rintro e w2 ⟨rfl, k2_⟩; have K2 := Lib.hid (K1.out.trans k2_); clear k2_)
      go_ret
      exact ⟨by rw [fin.out]; try rfl, K2.out⟩
  by_cases h18 : k = 18
  · subst h18
    clear h1 h2 h3 h24 h21
    have hi18 : Hid (emptyF (mL L) (.mk 18 t n nm kids) = emptyAll (mL L) kids) := by unfold Hid; rw [emptyF]; simp
    go_enter Try.func26, Try.ntmps26
    go_upto_region 1 with fail
    rw [← HW1.out]
    clear HW1
    go_wp2_with fail
    go_loopw [55] (fun i wr => ∃ j : Nat, j ≤ kids.length ∧ i = .int .i64 j ∧ Hid (emptyAll (mL L) kids = emptyAll (mL L) (kids.drop j)) ∧ Kept Nix w1 wr) (fun i _ => kids.length - (intOf i).toNat)
    case atStart => exact ⟨0, Nat.zero_le _, rfl, by unfold Hid; rw [List.drop_zero], Kept.refl _ _⟩
    case round =>
      obtain ⟨j, hj, rfl, hno, hkw⟩ := hrel
      have KW := Lib.hid hkw
      by_cases hlt : j < kids.length
      · have hks2 := HKS.out.kept hkw S1.out
        obtain ⟨bb, oo, rfl⟩ := PatsAt_head hks2 (by omega)
        obtain ⟨_, hz2, p0, p1, p2, p3, ka2, cap2, p4, hk2⟩ := (PatsAt_get kids bb oo j hlt hks2).open
        have hd := emptyAll_drop (mL L) kids j hlt
        have SW := Lib.hid (S1.out.mono hkw.size)
        have kA : Kept Nix wr (wr.alloc (.cells #[.int .i64 kids[j].kind, .string kids[j].text, .int .i64 kids[j].n, .string kids[j].name, .slice ka2 kids[j].kids.length cap2] 25)) := (Kept.refl _ _).alloc _
        have HC := Lib.hid (HIH.out j hlt (.agg #[.int .i64 kids[j].kind, .string kids[j].text, .int .i64 kids[j].n, .string kids[j].name, .slice ka2 kids[j].kids.length cap2]) (.slice na L.length nc) _ ⟨ka2, cap2, rfl, hz2, hk2.kept kA SW.out⟩ (SW.out.mono kA.size) ((HN.out.keep hkw).keep kA))
        have KA := Lib.hid (hkw.trans kA)
        generalize kids[j] = y at *
        clear hkw hks2 hk2 kA hz2
        cases he : emptyF (mL L) y with
        | false =>
          rw [he] at hd HC
          have fin := Lib.hid (hno.out.trans hd)
          clear hd he hno
          go_wp2_with (go_at_call 26; (refine HC.out.mono ?_); rintro e w2 ⟨rfl, k2_⟩; have K2 := Lib.hid (K1.out.trans (KA.out.trans k2_)); clear k2_)
          go_ret
          exact ⟨by rw [hi18.out, fin.out]; simp, K2.out⟩
        | true =>
          rw [he] at hd HC
          have step : Hid (emptyAll (mL L) kids = emptyAll (mL L) (kids.drop (j + 1))) := by unfold Hid; rw [hno.out, hd]; simp
          clear hd he hno
          go_wp2_with (go_at_call 26; (refine HC.out.mono ?_); rintro e w2 ⟨rfl, k2_⟩; have K2 := Lib.hid (KA.out.trans k2_); clear k2_)
          go_roundw
          case rel => exact ⟨j + 1, by omega, by go_num, step, K2.out⟩
          case measure => simp [intOf]; omega
      · obtain rfl : j = kids.length := by omega
        have fin : Hid (emptyAll (mL L) kids = true) := by unfold Hid; rw [hno.out, List.drop_length, emptyAll]
        go_wp2_with fail
        go_ret
        exact ⟨by rw [hi18.out, fin.out]; try rfl, K1.out.trans KW.out⟩
  by_cases h19 : k = 19
  · subst h19
    clear h1 h2 h3 h24 h21 h18
    have hi19 : Hid (emptyF (mL L) (.mk 19 t n nm kids) = emptyAny (mL L) kids) := by unfold Hid; rw [emptyF]; simp
    go_enter Try.func26, Try.ntmps26
    go_upto_region 1 with fail
    rw [← HW1.out]
    clear HW1
    go_wp2_with fail
    go_loopw [69] (fun i wr => ∃ j : Nat, j ≤ kids.length ∧ i = .int .i64 j ∧ Hid (emptyAny (mL L) kids = emptyAny (mL L) (kids.drop j)) ∧ Kept Nix w1 wr) (fun i _ => kids.length - (intOf i).toNat)
    case atStart => exact ⟨0, Nat.zero_le _, rfl, by unfold Hid; rw [List.drop_zero], Kept.refl _ _⟩
    case round =>
      obtain ⟨j, hj, rfl, hno, hkw⟩ := hrel
      have KW := Lib.hid hkw
      by_cases hlt : j < kids.length
      · have hks2 := HKS.out.kept hkw S1.out
        obtain ⟨bb, oo, rfl⟩ := PatsAt_head hks2 (by omega)
        obtain ⟨_, hz2, p0, p1, p2, p3, ka2, cap2, p4, hk2⟩ := (PatsAt_get kids bb oo j hlt hks2).open
        have hd := emptyAny_drop (mL L) kids j hlt
        have SW := Lib.hid (S1.out.mono hkw.size)
        have kA : Kept Nix wr (wr.alloc (.cells #[.int .i64 kids[j].kind, .string kids[j].text, .int .i64 kids[j].n, .string kids[j].name, .slice ka2 kids[j].kids.length cap2] 25)) := (Kept.refl _ _).alloc _
        have HC := Lib.hid (HIH.out j hlt (.agg #[.int .i64 kids[j].kind, .string kids[j].text, .int .i64 kids[j].n, .string kids[j].name, .slice ka2 kids[j].kids.length cap2]) (.slice na L.length nc) _ ⟨ka2, cap2, rfl, hz2, hk2.kept kA SW.out⟩ (SW.out.mono kA.size) ((HN.out.keep hkw).keep kA))
        have KA := Lib.hid (hkw.trans kA)
        generalize kids[j] = y at *
        clear hkw hks2 hk2 kA hz2
        cases he : emptyF (mL L) y with
        | true =>
          rw [he] at hd HC
          have fin := Lib.hid (hno.out.trans hd)
          clear hd he hno
          go_wp2_with (go_at_call 26; (refine HC.out.mono ?_); rintro e w2 ⟨rfl, k2_⟩; have K2 := Lib.hid (K1.out.trans (KA.out.trans k2_)); clear k2_)
          go_ret
          exact ⟨by rw [hi19.out, fin.out]; simp, K2.out⟩
        | false =>
          rw [he] at hd HC
          have step : Hid (emptyAny (mL L) kids = emptyAny (mL L) (kids.drop (j + 1))) := by unfold Hid; rw [hno.out, hd]; simp
          clear hd he hno
          go_wp2_with (go_at_call 26; (refine HC.out.mono ?_); rintro e w2 ⟨rfl, k2_⟩; have K2 := Lib.hid (KA.out.trans k2_); clear k2_)
          go_roundw
          case rel => exact ⟨j + 1, by omega, by go_num, step, K2.out⟩
          case measure => simp [intOf]; omega
      · obtain rfl : j = kids.length := by omega
        have fin : Hid (emptyAny (mL L) kids = false) := by unfold Hid; rw [hno.out, List.drop_length, emptyAny]
        go_wp2_with fail
        go_ret
        exact ⟨by rw [hi19.out, fin.out]; try rfl, K1.out.trans KW.out⟩
  have fin : Hid (emptyF (mL L) (.mk k t n nm kids) = true) := emptyF_else _ ⟨h1, h2, fun h => h3 (by simp [h]), fun h => h3 (by simp [h]), fun h => h3 (by simp [h]), fun h => h3 (by simp [h]), fun h => h3 (by simp [h]), fun h => h3 (by simp [h]), h24, fun h => h21 (.inl h), fun h => h21 (.inr h), h18, h19⟩
  have z1 : (k == 1) = false := by simpa using h1
  have z2 : (k == 2) = false := by simpa using h2
  have z3 : (k == 3) = false := by simp; omega
  have z4 : (k == 4) = false := by simp; omega
  have z5 : (k == 5) = false := by simp; omega
  have z14 : (k == 14) = false := by simp; omega
  have z15 : (k == 15) = false := by simp; omega
  have z17 : (k == 17) = false := by simp; omega
  have z24 : (k == 24) = false := by simpa using h24
  have z21 : (k == 21) = false := by simp; omega
  have z22 : (k == 22) = false := by simp; omega
  have z18 : (k == 18) = false := by simpa using h18
  have z19 : (k == 19) = false := by simpa using h19
  clear h1 h2 h3 h24 h21 h18 h19
  go_enter Try.func26, Try.ntmps26
  go_upto_region 1 with fail
  rw [← HW1.out]
  clear HW1
  go_wp2_with fail
  go_ret
  exact ⟨by rw [fin.out]; try rfl, K1.out⟩
end Go.Proofs.Ytdkpdomggbiolaa
