/- The document's Show: kinds without kids. -/
import Derived.Test.YtcfcdobgpldoiaaGreatDoorShow1
import Derived.Test.YtcfcdobgpldoiaaGreatDoorSpell1
import Derived.Test.YtcfcdobgpldoiaaGreatDoorSm12
import Derived.Test.YtcfcdobgpldoiaaGreatDoorRef4c
import Derived.Deep.RegionWith
namespace Go.Proofs.YtcfcdobgpldoiaaGreatDoor
set_option linter.all false
open Go.RowKit

/-- The box of Show's argument, its kids, and that all old blocks are as they were. -/
structure ShI (N : Nat) (S : Nat → Prop) (p : PatT) (ka : Option Addr) (cap : Nat) (w0 w : World) : Prop where
  five : Five N (.int .i64 p.kind) (.string p.text) (.int .i64 p.n) (.string p.name) (.slice ka p.kids.length cap) w
  kids : PatsAt w S ka p.kids
  safe : Safe S Nix w.heap.size
  base : Kept Nix w0 w
theorem ShI.next {N : Nat} {S : Nat → Prop} {p : PatT} {ka : Option Addr} {cap : Nat} {w0 w w' : World} (h : ShI N S p ka cap w0 w) (k : Kept Nix w w') : ShI N S p ka cap w0 w' :=
  ⟨h.five.kept k (fun h => h), h.kids.kept k h.safe, h.safe.mono k.size, h.base.trans k⟩
theorem ShI.start {S : Nat → Prop} {p : PatT} {ka : Option Addr} {cap : Nat} {w : World} (hk : PatsAt w S ka p.kids) (hs : Safe S Nix w.heap.size) :
    ShI w.heap.size S p ka cap w (w.alloc (.cells #[.int .i64 p.kind, .string p.text, .int .i64 p.n, .string p.name, .slice ka p.kids.length cap] 30)) :=
  ⟨heap_alloc_new w _, hk.kept ((Kept.refl Nix w).alloc _) hs, hs.mono ((Kept.refl Nix w).alloc _).size, (Kept.refl Nix w).alloc _⟩
theorem ShI.kid {N : Nat} {S : Nat → Prop} {p : PatT} {ka : Option Addr} {cap : Nat} {w0 w : World} (h : ShI N S p ka cap w0 w) (j : Nat) (hj : j < p.kids.length) :
    ∃ kb ko kc kcap, ka = some ⟨kb, ko, none⟩ ∧ w.cell? ⟨kb, ko + j * 5, none⟩ = some (.int .i64 p.kids[j].kind) ∧ w.cell? ⟨kb, ko + j * 5 + 1, none⟩ = some (.string p.kids[j].text) ∧ w.cell? ⟨kb, ko + j * 5 + 2, none⟩ = some (.int .i64 p.kids[j].n) ∧ w.cell? ⟨kb, ko + j * 5 + 3, none⟩ = some (.string p.kids[j].name) ∧ w.cell? ⟨kb, ko + j * 5 + 4, none⟩ = some (.slice kc p.kids[j].kids.length kcap) ∧
      PatV w S (.agg #[.int .i64 p.kids[j].kind, .string p.kids[j].text, .int .i64 p.kids[j].n, .string p.kids[j].name, .slice kc p.kids[j].kids.length kcap]) p.kids[j] := by
  have hk := h.kids
  obtain ⟨kb, ko, rfl⟩ := PatsAt_head hk (by omega)
  obtain ⟨_, hz, p0, p1, p2, p3, kc, kcap, p4, hkk⟩ := (PatsAt_get p.kids kb ko j hj hk).open
  exact ⟨kb, ko, kc, kcap, rfl, p0, p1, p2, p3, p4, kc, kcap, rfl, hz, hkk⟩
def ShOk (p : PatT) (i : Nat) (v : Value) (w : World) : Prop := Calls Tryz.prog 46 #[v, .int .i64 i] w (StrQ (showF p i) w)
theorem str_ret {a b : ByteArray} (h : a = b) : Ending.returned (.string a) = Ending.returned (.string b) := by rw [h]

set_option maxRecDepth 100000 in
set_option maxHeartbeats 4000000 in
theorem show_lit (i : Nat) (k : Int) (t : ByteArray) (n : Int) (nm : ByteArray) (kids : List PatT) (ka : Option Addr) (cap : Nat) (S : Nat → Prop) (w : World) (hkk : PatsAt w S ka kids) (hsf : Safe S Nix w.heap.size) (hn : nodeF (.mk k t n nm kids) = 0) (hl : (showF (.mk k t n nm kids) i).length ≤ big) (hk : k = 1) :
    ShOk (.mk k t n nm kids) i (.agg #[.int .i64 k, .string t, .int .i64 n, .string nm, .slice ka kids.length cap]) w := by
  obtain ⟨hk24, ht, hnn, hnm, _⟩ := node_facts hn
  unfold ShOk
  unfold big at hl
  subst hk
  have hs : showF (.mk 1 t n nm kids) i = quoteL t := by rw [showF, if_pos rfl]
  rw [hs] at hl ⊢
  have ht1 := ht (.inl rfl)
  clear ht hnn hnm hs
  have I00 := ShI.start (p := .mk 1 t n nm kids) (cap := cap) hkk hsf
  dsimp only [PatT.kind_mk, PatT.text_mk, PatT.n_mk, PatT.name_mk, PatT.kids_mk] at I00
  obtain ⟨w0, hw0⟩ : ∃ w0, w0 = (w.alloc (.cells #[.int .i64 1, .string t, .int .i64 n, .string nm, .slice ka kids.length cap] 30)) := ⟨_, rfl⟩
  rw [← hw0] at I00
  obtain ⟨c0, c1, c2, c3, c4, _⟩ := I00.five.cells
  dsimp only [PatT.kind_mk, PatT.text_mk, PatT.n_mk, PatT.name_mk, PatT.kids_mk] at c0 c1 c2 c3 c4
  have I0 := Lib.hid I00; have HW0 := Lib.hid hw0
  clear I00 hw0 hkk hsf hn
  go_enter Tryz.func46, Tryz.ntmps46
  go_upto_region 2 with fail
  rw [← HW0.out]
  go_wp2_with fail
  refine (squoted_any t _ (by omega)).mono ?_
  rintro e w1 ⟨rfl, K1⟩
  have B := Lib.hid (I0.out.base.trans K1)
  go_wp2_with fail
  go_ret
  exact ⟨rfl, B.out⟩

set_option maxRecDepth 100000 in
set_option maxHeartbeats 4000000 in
theorem show_text (i : Nat) (k : Int) (t : ByteArray) (n : Int) (nm : ByteArray) (kids : List PatT) (ka : Option Addr) (cap : Nat) (S : Nat → Prop) (w : World) (hkk : PatsAt w S ka kids) (hsf : Safe S Nix w.heap.size) (hn : nodeF (.mk k t n nm kids) = 0) (hl : (showF (.mk k t n nm kids) i).length ≤ big) (hk : isTextK k) :
    ShOk (.mk k t n nm kids) i (.agg #[.int .i64 k, .string t, .int .i64 n, .string nm, .slice ka kids.length cap]) w := by
  obtain ⟨hk24, ht, hnn, hnm, _⟩ := node_facts hn
  unfold ShOk
  unfold big at hl
  have hk0 := hk
  unfold isTextK at hk
  obtain ⟨kk, rfl⟩ : ∃ kk : Nat, k = kk := ⟨k.toNat, by omega⟩
  have hs : showF (.mk kk t n nm kids) i = wordL kk ++ (40 :: (quoteL t ++ [41])) := by rw [showF, if_neg (by omega), if_pos hk0]
  rw [hs] at hl ⊢
  simp only [List.length_append, List.length_cons, List.length_nil] at hl
  have ht1 := ht (.inr hk0)
  have htq : t.size ≤ 100000 := by omega
  have hql := quote_len t
  have z1 : ((kk : Int) == 1) = false := by simp; omega
  have hw6 := word_len kk
  have hk20 : kk ≤ 20 := by omega
  have dT : decide (isTextK kk) = true := decide_eq_true hk0
  have fin : Hid ((⟨(wordL kk).toArray⟩ : ByteArray) ++ ⟨#[40]⟩ ++ ⟨(quoteL t).toArray⟩ ++ ⟨#[41]⟩ = ⟨(wordL kk ++ (40 :: (quoteL t ++ [41]))).toArray⟩) := by
    unfold Hid; rw [show (⟨#[40]⟩ : ByteArray) = ⟨[40].toArray⟩ from rfl, show (⟨#[41]⟩ : ByteArray) = ⟨[41].toArray⟩ from rfl, app_str, app_str, app_str]; simp
  clear ht hnn hnm hs
  have I00 := ShI.start (p := .mk kk t n nm kids) (cap := cap) hkk hsf
  dsimp only [PatT.kind_mk, PatT.text_mk, PatT.n_mk, PatT.name_mk, PatT.kids_mk] at I00
  obtain ⟨w0, hw0⟩ : ∃ w0, w0 = (w.alloc (.cells #[.int .i64 kk, .string t, .int .i64 n, .string nm, .slice ka kids.length cap] 30)) := ⟨_, rfl⟩
  rw [← hw0] at I00
  obtain ⟨c0, c1, c2, c3, c4, _⟩ := I00.five.cells
  dsimp only [PatT.kind_mk, PatT.text_mk, PatT.n_mk, PatT.name_mk, PatT.kids_mk] at c0 c1 c2 c3 c4
  have I0 := Lib.hid I00; have HW0 := Lib.hid hw0
  clear I00 hw0 hkk hsf hn
  go_enter Tryz.func46, Tryz.ntmps46
  go_upto_region 2 with fail
  rw [← HW0.out]
  go_wp2_with fail
  refine (texts_any (kk : Int) _).mono ?_
  rintro e w1 ⟨rfl, k_⟩
  have I1 := Lib.hid (I0.out.next k_)
  rw [dT]
  clear k_ c0 c1 c2 c3 c4
  obtain ⟨c0, c1, c2, c3, c4, _⟩ := I1.out.five.cells
  dsimp only [PatT.kind_mk, PatT.text_mk, PatT.n_mk, PatT.name_mk, PatT.kids_mk] at c0 c1 c2 c3 c4
  go_wp2_with fail
  go_region_with (first
    | (go_at_call 62; (with_reducible refine (sword_any kk hk20 _).mono ?_); (rintro e w3 ⟨rfl, K3⟩); (have I3 := Lib.hid (I1.out.next ((Kept.refl Nix w1).drew.trans K3))); (obtain ⟨d0, d1, d2, d3, d4, _⟩ := I3.out.five.cells); (dsimp only [PatT.kind_mk, PatT.text_mk, PatT.n_mk, PatT.name_mk, PatT.kids_mk] at d0 d1 d2 d3 d4))
    | (go_at_call 47; (with_reducible refine (squoted_any t _ htq).mono ?_); (rintro e w4 ⟨rfl, K4⟩); (have I4 := Lib.hid (I3.out.next K4)); (obtain ⟨e0, e1, e2, e3, e4, _⟩ := I4.out.five.cells); (dsimp only [PatT.kind_mk, PatT.text_mk, PatT.n_mk, PatT.name_mk, PatT.kids_mk] at e0 e1 e2 e3 e4)))
  all_goals
    go_wp2_with fail
    go_ret
    exact ⟨str_ret fin.out, I4.out.base⟩

set_option maxRecDepth 100000 in
set_option maxHeartbeats 4000000 in
theorem show_num (i : Nat) (k : Int) (t : ByteArray) (n : Int) (nm : ByteArray) (kids : List PatT) (ka : Option Addr) (cap : Nat) (S : Nat → Prop) (w : World) (hkk : PatsAt w S ka kids) (hsf : Safe S Nix w.heap.size) (hn : nodeF (.mk k t n nm kids) = 0) (hl : (showF (.mk k t n nm kids) i).length ≤ big) (hk : isNumK k) :
    ShOk (.mk k t n nm kids) i (.agg #[.int .i64 k, .string t, .int .i64 n, .string nm, .slice ka kids.length cap]) w := by
  obtain ⟨hk24, ht, hnn, hnm, _⟩ := node_facts hn
  unfold ShOk
  unfold big at hl
  have hk0 := hk
  unfold isNumK at hk
  obtain ⟨kk, rfl⟩ : ∃ kk : Nat, k = kk := ⟨k.toNat, by omega⟩
  have hs : showF (.mk kk t n nm kids) i = wordL kk ++ (40 :: (Lib.decDigits n.toNat ++ [41])) := by rw [showF, if_neg (by omega), if_neg (by unfold isTextK; omega), if_pos hk0]
  rw [hs] at hl ⊢
  simp only [List.length_append, List.length_cons, List.length_nil] at hl
  obtain ⟨hn0, hn1⟩ := hnn hk0
  have hql := dec_len 5 n.toNat (by omega)
  have hn7 : n < ((70000 : Nat) : Int) := by omega
  have z1 : ((kk : Int) == 1) = false := by simp; omega
  have hw6 := word_len kk
  have hk20 : kk ≤ 20 := by omega
  have dT : decide (isTextK kk) = false := decide_eq_false (by unfold isTextK; omega)
  have dN : decide (isNumK kk) = true := decide_eq_true hk0
  have fin : Hid ((⟨(wordL kk).toArray⟩ : ByteArray) ++ ⟨#[40]⟩ ++ ⟨(Lib.decDigits n.toNat).toArray⟩ ++ ⟨#[41]⟩ = ⟨(wordL kk ++ (40 :: (Lib.decDigits n.toNat ++ [41]))).toArray⟩) := by
    unfold Hid; rw [show (⟨#[40]⟩ : ByteArray) = ⟨[40].toArray⟩ from rfl, show (⟨#[41]⟩ : ByteArray) = ⟨[41].toArray⟩ from rfl, app_str, app_str, app_str]; simp
  clear ht hnn hnm hs
  have I00 := ShI.start (p := .mk kk t n nm kids) (cap := cap) hkk hsf
  dsimp only [PatT.kind_mk, PatT.text_mk, PatT.n_mk, PatT.name_mk, PatT.kids_mk] at I00
  obtain ⟨w0, hw0⟩ : ∃ w0, w0 = (w.alloc (.cells #[.int .i64 kk, .string t, .int .i64 n, .string nm, .slice ka kids.length cap] 30)) := ⟨_, rfl⟩
  rw [← hw0] at I00
  obtain ⟨c0, c1, c2, c3, c4, _⟩ := I00.five.cells
  dsimp only [PatT.kind_mk, PatT.text_mk, PatT.n_mk, PatT.name_mk, PatT.kids_mk] at c0 c1 c2 c3 c4
  have I0 := Lib.hid I00; have HW0 := Lib.hid hw0
  clear I00 hw0 hkk hsf hn
  go_enter Tryz.func46, Tryz.ntmps46
  go_upto_region 2 with fail
  rw [← HW0.out]
  go_wp2_with fail
  refine (texts_any (kk : Int) _).mono ?_
  rintro e w1 ⟨rfl, k_⟩
  have I1 := Lib.hid (I0.out.next k_)
  rw [dT]
  clear k_ c0 c1 c2 c3 c4
  obtain ⟨c0, c1, c2, c3, c4, _⟩ := I1.out.five.cells
  dsimp only [PatT.kind_mk, PatT.text_mk, PatT.n_mk, PatT.name_mk, PatT.kids_mk] at c0 c1 c2 c3 c4
  go_wp2_with fail
  refine (numbers_any (kk : Int) _).mono ?_
  rintro e w2 ⟨rfl, k_⟩
  have I2 := Lib.hid (I1.out.next k_)
  rw [dN]
  clear k_ c0 c1 c2 c3 c4
  obtain ⟨c0, c1, c2, c3, c4, _⟩ := I2.out.five.cells
  dsimp only [PatT.kind_mk, PatT.text_mk, PatT.n_mk, PatT.name_mk, PatT.kids_mk] at c0 c1 c2 c3 c4
  go_wp2_with fail
  go_region_with (first
    | (go_at_call 62; (with_reducible refine (sword_any kk hk20 _).mono ?_); (rintro e w3 ⟨rfl, K3⟩); (have I3 := Lib.hid (I2.out.next ((Kept.refl Nix w2).drew.trans K3))); (obtain ⟨d0, d1, d2, d3, d4, _⟩ := I3.out.five.cells); (dsimp only [PatT.kind_mk, PatT.text_mk, PatT.n_mk, PatT.name_mk, PatT.kids_mk] at d0 d1 d2 d3 d4))
    | (go_at_call 63; (with_reducible refine (sdigits_any 70000 n hn0 hn7 hn1 _).mono ?_); (rintro e w4 ⟨rfl, K4⟩); (have I4 := Lib.hid (I3.out.next K4)); (obtain ⟨e0, e1, e2, e3, e4, _⟩ := I4.out.five.cells); (dsimp only [PatT.kind_mk, PatT.text_mk, PatT.n_mk, PatT.name_mk, PatT.kids_mk] at e0 e1 e2 e3 e4)))
  all_goals
    go_wp2_with fail
    go_ret
    exact ⟨str_ret fin.out, I4.out.base⟩
end Go.Proofs.YtcfcdobgpldoiaaGreatDoor
