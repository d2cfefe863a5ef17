/- The document's Text of an expression: kinds with no kid, with one. The document's Text of an expression: kinds with one kid (printed by tx2.py). The document's Text of an expression: calls; what an operator is. The document's Text of an expression: operators; any right expression. -/
import Derived.Test.YtcfcdobgpldoiaaGreatDoorSm6
import Derived.Test.YtcfcdobgpldoiaaGreatDoorShow2
import Derived.Test.YtcfcdobgpldoiaaGreatDoorSm4
import Derived.Test.YtcfcdobgpldoiaaGreatDoorRef4b
import Derived.Deep.RegionWith
import Derived.Test.YtcfcdobgpldoiaaGreatDoorOrd
namespace Go.Proofs.YtcfcdobgpldoiaaGreatDoor
set_option linter.all false
open Go.RowKit

structure TxI (N : Nat) (S : Nat → Prop) (p : PatT) (ka : Option Addr) (cap : Nat) (w0 w : World) : Prop where
  five : Box5 N (.int .i64 p.kind) (.string p.text) (.int .i64 p.n) (.string p.name) (.slice ka p.kids.length cap) w
  kids : PatsAt w S ka p.kids
  safe : Safe S Nix w.heap.size
  base : Kept Nix w0 w
theorem TxI.next {N : Nat} {S : Nat → Prop} {p : PatT} {ka : Option Addr} {cap : Nat} {w0 w w' : World} (h : TxI N S p ka cap w0 w) (k : Kept Nix w w') : TxI N S p ka cap w0 w' :=
  ⟨h.five.kept k (fun h => h), h.kids.kept k h.safe, h.safe.mono k.size, h.base.trans k⟩
theorem TxI.start {S : Nat → Prop} {p : PatT} {ka : Option Addr} {cap : Nat} {w : World} (hk : PatsAt w S ka p.kids) (hs : Safe S Nix w.heap.size) :
    TxI w.heap.size S p ka cap w (w.alloc (.cells #[.int .i64 p.kind, .string p.text, .int .i64 p.n, .string p.name, .slice ka p.kids.length cap] 25)) :=
  ⟨Box5.new .., hk.kept ((Kept.refl Nix w).alloc _) hs, hs.mono ((Kept.refl Nix w).alloc _).size, (Kept.refl Nix w).alloc _⟩
theorem TxI.kid {N : Nat} {S : Nat → Prop} {p : PatT} {ka : Option Addr} {cap : Nat} {w0 w : World} (h : TxI N S p ka cap w0 w) (j : Nat) (hj : j < p.kids.length) :
    ∃ kb ko kc kcap, ka = some ⟨kb, ko, none⟩ ∧ w.cell? ⟨kb, ko + j * 5, none⟩ = some (.int .i64 p.kids[j].kind) ∧ w.cell? ⟨kb, ko + j * 5 + 1, none⟩ = some (.string p.kids[j].text) ∧ w.cell? ⟨kb, ko + j * 5 + 2, none⟩ = some (.int .i64 p.kids[j].n) ∧ w.cell? ⟨kb, ko + j * 5 + 3, none⟩ = some (.string p.kids[j].name) ∧
      w.cell? ⟨kb, ko + j * 5 + 4, none⟩ = some (.slice kc p.kids[j].kids.length kcap) ∧ PatV w S (.agg #[.int .i64 p.kids[j].kind, .string p.kids[j].text, .int .i64 p.kids[j].n, .string p.kids[j].name, .slice kc p.kids[j].kids.length kcap]) p.kids[j] := by
  have hk := h.kids
  obtain ⟨kb, ko, rfl⟩ := PatsAt_head hk (by omega)
  obtain ⟨_, hz, p0, p1, p2, p3, kc, kcap, p4, hkk⟩ := (PatsAt_get p.kids kb ko j hj hk).open
  exact ⟨kb, ko, kc, kcap, rfl, p0, p1, p2, p3, p4, kc, kcap, rfl, hz, hkk⟩
def TxOk (p : PatT) (i : Nat) (v : Value) (w : World) : Prop := Calls Tryz.prog 28 #[v, .int .i64 i] w (StrQ (expF p i) w)
def TxIH (S : Nat → Prop) (kids : List PatT) : Prop :=
  ∀ (j : Nat) (hj : j < kids.length) (v : Value) (i : Nat) (w : World), PatV w S v kids[j] → Safe S Nix w.heap.size → i ≤ 5 → (expF kids[j] i).length ≤ big → TxOk kids[j] i v w

section
variable (i : Nat) (t : ByteArray) (n : Int) (nm : ByteArray) (kids : List PatT) (ka : Option Addr) (cap : Nat) (S : Nat → Prop) (w : World)
set_option maxRecDepth 100000 in
set_option maxHeartbeats 4000000 in
theorem tx_text (hkk : PatsAt w S ka kids) (hsf : Safe S Nix w.heap.size) (hn : OkX (.mk 1 t n nm kids)) (hi : i ≤ 5) : TxOk (.mk 1 t n nm kids) i (.agg #[.int .i64 1, .string t, .int .i64 n, .string nm, .slice ka kids.length cap]) w := by
  obtain ⟨_, ht, _⟩ := hn.facts
  unfold TxOk
  have hs : expF (.mk 1 t n nm kids) i = quoteL t := by rw [expF, if_pos rfl]
  rw [hs]
  have ht1 : t.size ≤ 100000 := by have := ht rfl; omega
  have e0 : decide ((5 : Int) < (i : Int)) = false := decide_eq_false (by omega)
  have I00 := TxI.start (p := .mk 1 t n nm kids) (cap := cap) hkk hsf
  dsimp only [PatT.kind_mk, PatT.text_mk, PatT.n_mk, PatT.name_mk, PatT.kids_mk] at I00
  obtain ⟨w0, hw0⟩ : ∃ w0, w0 = (w.alloc (.cells #[.int .i64 1, .string t, .int .i64 n, .string nm, .slice ka kids.length cap] 25)) := ⟨_, rfl⟩
  rw [← hw0] at I00
  have c0 := I00.five.h0; have c1 := I00.five.h1
  dsimp only [PatT.kind_mk, PatT.text_mk] at c0 c1
  have I0 := Lib.hid I00; have HW0 := Lib.hid hw0
  clear I00 hw0 hkk hsf hn hs ht
  go_enter Tryz.func28, Tryz.ntmps28
  go_upto_region 1 with fail
  rw [← HW0.out]
  go_wp2_with (go_at_call 47; (refine (squoted_any t _ ht1).mono ?_); rintro e w1 ⟨rfl, K1⟩; have B := Lib.hid (I0.out.base.trans K1); clear K1)
  go_ret
  exact ⟨rfl, B.out⟩
set_option maxRecDepth 100000 in
set_option maxHeartbeats 4000000 in
theorem tx_num (u : Nat) (hkk : PatsAt w S ka kids) (hsf : Safe S Nix w.heap.size) (hu : u < 9223372036854775808) (hi : i ≤ 5) : TxOk (.mk 2 t u nm kids) i (.agg #[.int .i64 2, .string t, .int .i64 u, .string nm, .slice ka kids.length cap]) w := by
  unfold TxOk
  have hs : expF (.mk 2 t u nm kids) i = Lib.decDigits u := by rw [expF, if_neg (by decide), if_pos rfl]; rfl
  rw [hs]
  have e0 : decide ((5 : Int) < (i : Int)) = false := decide_eq_false (by omega)
  have I00 := TxI.start (p := .mk 2 t u nm kids) (cap := cap) hkk hsf
  dsimp only [PatT.kind_mk, PatT.text_mk, PatT.n_mk, PatT.name_mk, PatT.kids_mk] at I00
  obtain ⟨w0, hw0⟩ : ∃ w0, w0 = (w.alloc (.cells #[.int .i64 2, .string t, .int .i64 u, .string nm, .slice ka kids.length cap] 25)) := ⟨_, rfl⟩
  rw [← hw0] at I00
  have c0 := I00.five.h0; have c2 := I00.five.h2
  dsimp only [PatT.kind_mk, PatT.n_mk] at c0 c2
  have I0 := Lib.hid I00; have HW0 := Lib.hid hw0
  clear I00 hw0 hkk hsf hs
  go_enter Tryz.func28, Tryz.ntmps28
  go_upto_region 1 with fail
  rw [← HW0.out]
  go_wp2_with (go_at_call 48; (refine (base_any u hu _).mono ?_); rintro e w1 ⟨rfl, K1⟩; have B := Lib.hid (I0.out.base.trans K1); clear K1)
  go_ret
  exact ⟨rfl, B.out⟩
set_option maxRecDepth 100000 in
set_option maxHeartbeats 4000000 in
theorem tx_name (hkk : PatsAt w S ka kids) (hsf : Safe S Nix w.heap.size) (hi : i ≤ 5) : TxOk (.mk 3 t n nm kids) i (.agg #[.int .i64 3, .string t, .int .i64 n, .string nm, .slice ka kids.length cap]) w := by
  unfold TxOk
  have hs : expF (.mk 3 t n nm kids) i = nm.data.toList := by rw [expF, if_neg (by decide), if_neg (by decide), if_pos rfl]
  rw [hs]
  have e0 : decide ((5 : Int) < (i : Int)) = false := decide_eq_false (by omega)
  have I00 := TxI.start (p := .mk 3 t n nm kids) (cap := cap) hkk hsf
  dsimp only [PatT.kind_mk, PatT.text_mk, PatT.n_mk, PatT.name_mk, PatT.kids_mk] at I00
  obtain ⟨w0, hw0⟩ : ∃ w0, w0 = (w.alloc (.cells #[.int .i64 3, .string t, .int .i64 n, .string nm, .slice ka kids.length cap] 25)) := ⟨_, rfl⟩
  rw [← hw0] at I00
  have c0 := I00.five.h0; have c3 := I00.five.h3
  dsimp only [PatT.kind_mk, PatT.name_mk] at c0 c3
  have I0 := Lib.hid I00; have HW0 := Lib.hid hw0
  clear I00 hw0 hkk hsf hs
  go_enter Tryz.func28, Tryz.ntmps28
  go_upto_region 1 with fail
  rw [← HW0.out]
  go_wp2_with fail
  go_ret
  exact ⟨rfl, I0.out.base⟩
end
end Go.Proofs.YtcfcdobgpldoiaaGreatDoor

namespace Go.Proofs.YtcfcdobgpldoiaaGreatDoor
set_option linter.all false
open Go.RowKit

section
variable (i : Nat) (t : ByteArray) (n : Int) (nm : ByteArray) (kids : List PatT) (ka : Option Addr) (cap : Nat) (S : Nat → Prop) (w : World)
set_option maxRecDepth 100000 in
set_option maxHeartbeats 4000000 in
theorem tx_item (hkk : PatsAt w S ka kids) (hsf : Safe S Nix w.heap.size) (hn : OkX (.mk 4 t n nm kids)) (hi : i ≤ 5) (hl : (expF (.mk 4 t n nm kids) i).length ≤ big) (hih : TxIH S kids) : TxOk (.mk 4 t n nm kids) i (.agg #[.int .i64 4, .string t, .int .i64 n, .string nm, .slice ka kids.length cap]) w := by
  obtain ⟨q, rfl⟩ := hn.one (by decide)
  have hnm : nm.size ≤ 16 := hn.facts.2.2.2.2.1 (by omega)
  unfold TxOk
  unfold big at hl
  have hs : expF (.mk 4 t n nm [q]) i = nm.data.toList ++ (60 :: (expF q 1 ++ [62])) := by rw [expF]; simp only [eHead]; rfl
  rw [hs] at hl ⊢
  have e0 : decide ((5 : Int) < (i : Int)) = false := decide_eq_false (by omega)
  have enm : nm.data.toList.length = nm.size := rfl
  simp only [List.length_append, List.length_cons, List.length_nil] at hl
  have fin : Hid (nm ++ (⟨#[60]⟩ : ByteArray) ++ ⟨(expF q 1).toArray⟩ ++ ⟨#[62]⟩ = ⟨(nm.data.toList ++ (60 :: (expF q 1 ++ [62]))).toArray⟩) := by
    unfold Hid; show (⟨nm.data.toList.toArray⟩ : ByteArray) ++ ⟨[60].toArray⟩ ++ ⟨(expF q 1).toArray⟩ ++ ⟨[62].toArray⟩ = _; rw [app_str, app_str, app_str]; simp
  have hq2 : (expF q 1).length ≤ big := by unfold big; omega
  have HIH := Lib.hid hih
  have hcall : Hid (∀ (v : Value) (w : World), PatV w S v q → Safe S Nix w.heap.size → Calls Tryz.prog 28 #[v, .int .i64 1] w (StrQ (expF q 1) w)) := fun v w hv hs => by
    have h := HIH.out 0 (by simp) v 1 w hv hs (by omega) hq2
    exact h
  obtain ⟨w0, hw0⟩ : ∃ w0, w0 = (w.alloc (.cells #[.int .i64 4, .string t, .int .i64 n, .string nm, .slice ka 1 cap] 25)) := ⟨_, rfl⟩
  have I00 : TxI w.heap.size S (.mk 4 t n nm [q]) ka cap w w0 := by rw [hw0]; exact TxI.start (p := .mk 4 t n nm [q]) hkk hsf
  have c0 := I00.five.h0; have c3 := I00.five.h3
  have c4 : w0.cell? ⟨w.heap.size, 4, none⟩ = some (.slice ka 1 cap) := I00.five.h4
  dsimp only [PatT.kind_mk, PatT.name_mk, PatT.kids_mk] at c0 c3
  have I0 := Lib.hid I00; have HW0 := Lib.hid hw0
  obtain ⟨kb, ko, kc, kcap, hka, q0, q1, q2, q3, q4, hV⟩ := I0.out.kid 0 (by simp)
  subst hka
  simp only [PatT.kids_mk, List.getElem_cons_zero, Nat.zero_mul, Nat.add_zero] at q0 q1 q2 q3 q4 hV
  have HV := Lib.hid hV
  clear I00 hw0 hkk hsf hn hs hih hV
  go_enter Tryz.func28, Tryz.ntmps28
  go_upto_region 1 with fail
  rw [← HW0.out]
  clear HW0
  have kd : Kept Nix w0 w0.drew := (Kept.refl _ _).drew
  have VD := Lib.hid (show PatV w0.drew S _ q from by obtain ⟨x1, x2, x3, x4, x5⟩ := HV.out; exact ⟨x1, x2, x3, x4, x5.kept kd I0.out.safe⟩)
  have ID := Lib.hid (I0.out.next kd)
  clear kd
  go_upto_region 21 with fail
  go_region_with (go_at_call 28; (refine (hcall.out _ _ VD.out ID.out.safe).mono ?_); rintro e w3 ⟨rfl, K3⟩; have I3 := Lib.hid (ID.out.next K3); have d0 := I3.out.five.h0; have d3 := I3.out.five.h3; dsimp only [PatT.kind_mk, PatT.name_mk] at d0 d3; clear K3)
  all_goals
    go_wp2_with fail
    go_ret
    exact ⟨str_ret fin.out, I3.out.base⟩
set_option maxRecDepth 100000 in
set_option maxHeartbeats 4000000 in
theorem tx_ind (hkk : PatsAt w S ka kids) (hsf : Safe S Nix w.heap.size) (hn : OkX (.mk 5 t n nm kids)) (hi : i ≤ 5) (hl : (expF (.mk 5 t n nm kids) i).length ≤ big) (hih : TxIH S kids) : TxOk (.mk 5 t n nm kids) i (.agg #[.int .i64 5, .string t, .int .i64 n, .string nm, .slice ka kids.length cap]) w := by
  obtain ⟨q, rfl⟩ := hn.one (by decide)
  unfold TxOk
  unfold big at hl
  have hs : expF (.mk 5 t n nm [q]) i = 36 :: expF q 5 := by rw [expF]; simp only [eHead]; rfl
  rw [hs] at hl ⊢
  have e0 : decide ((5 : Int) < (i : Int)) = false := decide_eq_false (by omega)
  have enm : nm.data.toList.length = nm.size := rfl
  simp only [List.length_append, List.length_cons, List.length_nil] at hl
  have fin : Hid ((⟨#[36]⟩ : ByteArray) ++ ⟨(expF q 5).toArray⟩ = ⟨(36 :: expF q 5).toArray⟩) := by
    unfold Hid; show (⟨[36].toArray⟩ : ByteArray) ++ ⟨(expF q 5).toArray⟩ = _; rw [app_str]; simp
  have hq2 : (expF q 5).length ≤ big := by unfold big; omega
  have HIH := Lib.hid hih
  have hcall : Hid (∀ (v : Value) (w : World), PatV w S v q → Safe S Nix w.heap.size → Calls Tryz.prog 28 #[v, .int .i64 5] w (StrQ (expF q 5) w)) := fun v w hv hs => by
    have h := HIH.out 0 (by simp) v 5 w hv hs (by omega) hq2
    exact h
  obtain ⟨w0, hw0⟩ : ∃ w0, w0 = (w.alloc (.cells #[.int .i64 5, .string t, .int .i64 n, .string nm, .slice ka 1 cap] 25)) := ⟨_, rfl⟩
  have I00 : TxI w.heap.size S (.mk 5 t n nm [q]) ka cap w w0 := by rw [hw0]; exact TxI.start (p := .mk 5 t n nm [q]) hkk hsf
  have c0 := I00.five.h0; have c3 := I00.five.h3
  have c4 : w0.cell? ⟨w.heap.size, 4, none⟩ = some (.slice ka 1 cap) := I00.five.h4
  dsimp only [PatT.kind_mk, PatT.name_mk, PatT.kids_mk] at c0 c3
  have I0 := Lib.hid I00; have HW0 := Lib.hid hw0
  obtain ⟨kb, ko, kc, kcap, hka, q0, q1, q2, q3, q4, hV⟩ := I0.out.kid 0 (by simp)
  subst hka
  simp only [PatT.kids_mk, List.getElem_cons_zero, Nat.zero_mul, Nat.add_zero] at q0 q1 q2 q3 q4 hV
  have HV := Lib.hid hV
  clear I00 hw0 hkk hsf hn hs hih hV
  go_enter Tryz.func28, Tryz.ntmps28
  go_upto_region 1 with fail
  rw [← HW0.out]
  clear HW0
  go_wp2_with (go_at_call 28; (refine (hcall.out _ _ HV.out I0.out.safe).mono ?_); rintro e w3 ⟨rfl, K3⟩; have I3 := Lib.hid (I0.out.next K3); clear K3)
  go_ret
  exact ⟨str_ret fin.out, I3.out.base⟩
set_option maxRecDepth 100000 in
set_option maxHeartbeats 4000000 in
theorem tx_neg (hkk : PatsAt w S ka kids) (hsf : Safe S Nix w.heap.size) (hn : OkX (.mk 7 t n nm kids)) (hi : i ≤ 4) (hl : (expF (.mk 7 t n nm kids) i).length ≤ big) (hih : TxIH S kids) : TxOk (.mk 7 t n nm kids) i (.agg #[.int .i64 7, .string t, .int .i64 n, .string nm, .slice ka kids.length cap]) w := by
  obtain ⟨q, rfl⟩ := hn.one (by decide)
  unfold TxOk
  unfold big at hl
  have hs : expF (.mk 7 t n nm [q]) i = 45 :: expF q 4 := by rw [expF]; simp only [eHead]; show parL (decide (4 < i)) (45 :: expF q 4) = _; rw [decide_eq_false (by omega : ¬ 4 < i)]; rfl
  rw [hs] at hl ⊢
  have e0 : decide ((4 : Int) < (i : Int)) = false := decide_eq_false (by omega)
  have enm : nm.data.toList.length = nm.size := rfl
  simp only [List.length_append, List.length_cons, List.length_nil] at hl
  have fin : Hid ((⟨#[45]⟩ : ByteArray) ++ ⟨(expF q 4).toArray⟩ = ⟨(45 :: expF q 4).toArray⟩) := by
    unfold Hid; show (⟨[45].toArray⟩ : ByteArray) ++ ⟨(expF q 4).toArray⟩ = _; rw [app_str]; simp
  have hq2 : (expF q 4).length ≤ big := by unfold big; omega
  have HIH := Lib.hid hih
  have hcall : Hid (∀ (v : Value) (w : World), PatV w S v q → Safe S Nix w.heap.size → Calls Tryz.prog 28 #[v, .int .i64 4] w (StrQ (expF q 4) w)) := fun v w hv hs => by
    have h := HIH.out 0 (by simp) v 4 w hv hs (by omega) hq2
    exact h
  obtain ⟨w0, hw0⟩ : ∃ w0, w0 = (w.alloc (.cells #[.int .i64 7, .string t, .int .i64 n, .string nm, .slice ka 1 cap] 25)) := ⟨_, rfl⟩
  have I00 : TxI w.heap.size S (.mk 7 t n nm [q]) ka cap w w0 := by rw [hw0]; exact TxI.start (p := .mk 7 t n nm [q]) hkk hsf
  have c0 := I00.five.h0; have c3 := I00.five.h3
  have c4 : w0.cell? ⟨w.heap.size, 4, none⟩ = some (.slice ka 1 cap) := I00.five.h4
  dsimp only [PatT.kind_mk, PatT.name_mk, PatT.kids_mk] at c0 c3
  have I0 := Lib.hid I00; have HW0 := Lib.hid hw0
  obtain ⟨kb, ko, kc, kcap, hka, q0, q1, q2, q3, q4, hV⟩ := I0.out.kid 0 (by simp)
  subst hka
  simp only [PatT.kids_mk, List.getElem_cons_zero, Nat.zero_mul, Nat.add_zero] at q0 q1 q2 q3 q4 hV
  have HV := Lib.hid hV
  clear I00 hw0 hkk hsf hn hs hih hV
  go_enter Tryz.func28, Tryz.ntmps28
  go_upto_region 1 with fail
  rw [← HW0.out]
  clear HW0
  go_wp2_with (go_at_call 28; (refine (hcall.out _ _ HV.out I0.out.safe).mono ?_); rintro e w3 ⟨rfl, K3⟩; have I3 := Lib.hid (I0.out.next K3); clear K3)
  go_ret
  exact ⟨str_ret fin.out, I3.out.base⟩
set_option maxRecDepth 100000 in
set_option maxHeartbeats 4000000 in
theorem tx_negP (hkk : PatsAt w S ka kids) (hsf : Safe S Nix w.heap.size) (hn : OkX (.mk 7 t n nm kids)) (hi : i = 5) (hl : (expF (.mk 7 t n nm kids) i).length ≤ big) (hih : TxIH S kids) : TxOk (.mk 7 t n nm kids) i (.agg #[.int .i64 7, .string t, .int .i64 n, .string nm, .slice ka kids.length cap]) w := by
  obtain ⟨q, rfl⟩ := hn.one (by decide)
  unfold TxOk
  unfold big at hl
  have hs : expF (.mk 7 t n nm [q]) i = 40 :: ((45 :: expF q 4) ++ [41]) := by rw [expF]; simp only [eHead]; show parL (decide (4 < i)) (45 :: expF q 4) = _; rw [decide_eq_true (by omega : 4 < i)]; rfl
  rw [hs] at hl ⊢
  have e0 : decide ((4 : Int) < (i : Int)) = true := decide_eq_true (by omega)
  have enm : nm.data.toList.length = nm.size := rfl
  simp only [List.length_append, List.length_cons, List.length_nil] at hl
  have fin : Hid ((⟨#[40]⟩ : ByteArray) ++ ((⟨#[45]⟩ : ByteArray) ++ ⟨(expF q 4).toArray⟩) ++ ⟨#[41]⟩ = ⟨(40 :: ((45 :: expF q 4) ++ [41])).toArray⟩) := by
    unfold Hid; show (⟨[40].toArray⟩ : ByteArray) ++ ((⟨[45].toArray⟩ : ByteArray) ++ ⟨(expF q 4).toArray⟩) ++ ⟨[41].toArray⟩ = _; rw [app_str, app_str, app_str]; simp
  have hq2 : (expF q 4).length ≤ big := by unfold big; omega
  have HIH := Lib.hid hih
  have hcall : Hid (∀ (v : Value) (w : World), PatV w S v q → Safe S Nix w.heap.size → Calls Tryz.prog 28 #[v, .int .i64 4] w (StrQ (expF q 4) w)) := fun v w hv hs => by
    have h := HIH.out 0 (by simp) v 4 w hv hs (by omega) hq2
    exact h
  obtain ⟨w0, hw0⟩ : ∃ w0, w0 = (w.alloc (.cells #[.int .i64 7, .string t, .int .i64 n, .string nm, .slice ka 1 cap] 25)) := ⟨_, rfl⟩
  have I00 : TxI w.heap.size S (.mk 7 t n nm [q]) ka cap w w0 := by rw [hw0]; exact TxI.start (p := .mk 7 t n nm [q]) hkk hsf
  have c0 := I00.five.h0; have c3 := I00.five.h3
  have c4 : w0.cell? ⟨w.heap.size, 4, none⟩ = some (.slice ka 1 cap) := I00.five.h4
  dsimp only [PatT.kind_mk, PatT.name_mk, PatT.kids_mk] at c0 c3
  have I0 := Lib.hid I00; have HW0 := Lib.hid hw0
  obtain ⟨kb, ko, kc, kcap, hka, q0, q1, q2, q3, q4, hV⟩ := I0.out.kid 0 (by simp)
  subst hka
  simp only [PatT.kids_mk, List.getElem_cons_zero, Nat.zero_mul, Nat.add_zero] at q0 q1 q2 q3 q4 hV
  have HV := Lib.hid hV
  clear I00 hw0 hkk hsf hn hs hih hV
  go_enter Tryz.func28, Tryz.ntmps28
  go_upto_region 1 with fail
  rw [← HW0.out]
  clear HW0
  go_wp2_with (go_at_call 28; (refine (hcall.out _ _ HV.out I0.out.safe).mono ?_); rintro e w3 ⟨rfl, K3⟩; have I3 := Lib.hid (I0.out.next K3); clear K3)
  go_ret
  exact ⟨str_ret fin.out, I3.out.base⟩
end
end Go.Proofs.YtcfcdobgpldoiaaGreatDoor

namespace Go.Proofs.YtcfcdobgpldoiaaGreatDoor
set_option linter.all false
open Go.RowKit

set_option maxRecDepth 100000 in
set_option maxHeartbeats 8000000 in
theorem tx_call (i : Nat) (t : ByteArray) (n : Int) (nm : ByteArray) (kids : List PatT) (ka : Option Addr) (cap : Nat) (S : Nat → Prop) (w : World) (hkk : PatsAt w S ka kids) (hsf : Safe S Nix w.heap.size) (hn : OkX (.mk 6 t n nm kids)) (hi : i ≤ 5) (hl : (expF (.mk 6 t n nm kids) i).length ≤ big) (hih : TxIH S kids) : TxOk (.mk 6 t n nm kids) i (.agg #[.int .i64 6, .string t, .int .i64 n, .string nm, .slice ka kids.length cap]) w := by
  have hnm : nm.size ≤ 16 := hn.facts.2.2.2.2.1 (by omega)
  have hk8 : kids.length ≤ 8 := hn.facts.2.2.2.2.2.1 rfl
  unfold TxOk
  unfold big at hl
  have hs : expF (.mk 6 t n nm kids) i = nm.data.toList ++ (40 :: (eJoin true kids ++ [41])) := by rw [expF]; rfl
  rw [hs] at hl ⊢
  have e0 : decide ((5 : Int) < (i : Int)) = false := decide_eq_false (by omega)
  have enm : nm.data.toList.length = nm.size := rfl
  simp only [List.length_append, List.length_cons, List.length_nil] at hl
  have fin : Hid (nm ++ (⟨#[40]⟩ : ByteArray) ++ ⟨(eJoin true kids).toArray⟩ ++ ⟨#[41]⟩ = ⟨(nm.data.toList ++ (40 :: (eJoin true kids ++ [41]))).toArray⟩) := by
    unfold Hid; show (⟨nm.data.toList.toArray⟩ : ByteArray) ++ ⟨[40].toArray⟩ ++ ⟨(eJoin true kids).toArray⟩ ++ ⟨[41].toArray⟩ = _; rw [app_str, app_str, app_str]; simp
  have HIH := Lib.hid hih
  obtain ⟨w0, hw0⟩ : ∃ w0, w0 = (w.alloc (.cells #[.int .i64 6, .string t, .int .i64 n, .string nm, .slice ka kids.length cap] 25)) := ⟨_, rfl⟩
  have I00 : TxI w.heap.size S (.mk 6 t n nm kids) ka cap w w0 := by rw [hw0]; exact TxI.start (p := .mk 6 t n nm kids) hkk hsf
  have c0 := I00.five.h0; have c4 := I00.five.h4
  dsimp only [PatT.kind_mk, PatT.kids_mk] at c0 c4
  have I0 := Lib.hid I00; have HW0 := Lib.hid hw0
  clear I00 hw0 hkk hsf hn hs hih
  go_enter Tryz.func28, Tryz.ntmps28
  go_upto_region 1 with fail
  rw [← HW0.out]
  clear HW0
  go_upto_region 29 with fail
  clear c0 c4
  go_loopw [6, 100] (fun sv x wr => ∃ (j : Nat) (d : List UInt8), j ≤ kids.length ∧ x = .int .i64 j ∧ sv = .string ⟨d.toArray⟩ ∧ Hid (d ++ eJoin (decide (j = 0)) (kids.drop j) = eJoin true kids) ∧ TxI w.heap.size S (.mk 6 t n nm kids) ka cap w wr) (fun _ x _ => kids.length - (intOf x).toNat)
  case atStart => exact ⟨0, [], Nat.zero_le _, rfl, rfl, by unfold Hid; simp, I0.out⟩
  case round =>
    obtain ⟨j, d, hj, rfl, rfl, hd, hI⟩ := hrel
    have I := Lib.hid hI
    have hdl : d.length ≤ 1000000000000 := by have := congrArg List.length hd.out; simp only [List.length_append] at this; omega
    clear hI
    by_cases hlt : j < kids.length
    · have hst := eJoin_step kids j hlt
      have hlen := EpLoop.len hlt hd.out
      obtain ⟨kb, ko, kc, kcap, hka, q0, q1, q2, q3, q4, hV⟩ := I.out.kid j hlt
      subst hka
      simp only [PatT.kids_mk] at q0 q1 q2 q3 q4 hV
      have HST := Lib.hid hst
      have HCALL := Lib.hid (HIH.out j hlt)
      generalize kids[j] = y at *
      have kA : Kept Nix wr (wr.alloc (.cells #[.int .i64 y.kind, .string y.text, .int .i64 y.n, .string y.name, .slice kc y.kids.length kcap] 25)) := (Kept.refl Nix wr).alloc _
      have HI1 := Lib.hid (I.out.next kA)
      have hsl : (expF y 1).length ≤ 1000000000000 := by omega
      have hC : Hid (Calls Tryz.prog 28 #[.agg #[.int .i64 y.kind, .string y.text, .int .i64 y.n, .string y.name, .slice kc y.kids.length kcap], .int .i64 1] (wr.alloc (.cells #[.int .i64 y.kind, .string y.text, .int .i64 y.n, .string y.name, .slice kc y.kids.length kcap] 25)) (StrQ (expF y 1) (wr.alloc (.cells #[.int .i64 y.kind, .string y.text, .int .i64 y.n, .string y.name, .slice kc y.kids.length kcap] 25)))) := by
        obtain ⟨x1, x2, x3, x4, x5⟩ := hV
        exact HCALL.out _ 1 _ ⟨x1, x2, x3, x4, x5.kept kA I.out.safe⟩ HI1.out.safe (by omega) (by unfold big; omega)
      clear hV kA HCALL
      by_cases hj0 : j = 0
      · have y1 : decide ((0 : Int) < (j : Int)) = false := decide_eq_false (by omega)
        have y2 : decide (0 < j) = false := decide_eq_false (by omega)
        have stp : Hid ((d ++ expF y 1) ++ eJoin (decide (j + 1 = 0)) (kids.drop (j + 1)) = eJoin true kids) := by
          unfold Hid; have := hd.out; rw [HST.out, if_pos hj0, List.nil_append] at this; rw [List.append_assoc]; exact this
        have ES := Lib.hid (app_str d (expF y 1))
        clear hj0 HST hst hd hlen
        go_wp2_with (go_at_call 28; (refine hC.out.mono ?_); rintro e w3 ⟨rfl, K3⟩; have I3 := Lib.hid (HI1.out.next K3); clear K3)
        rw [ES.out]
        go_roundw
        case rel => exact ⟨j + 1, d ++ expF y 1, by omega, by go_num, rfl, stp, I3.out⟩
        case measure => simp [intOf]; omega
      · have y1 : decide ((0 : Int) < (j : Int)) = true := decide_eq_true (by omega)
        have y2 : decide (0 < j) = true := decide_eq_true (by omega)
        have stp : Hid ((d ++ ([44, 32] ++ expF y 1)) ++ eJoin (decide (j + 1 = 0)) (kids.drop (j + 1)) = eJoin true kids) := by
          unfold Hid; have := hd.out; rw [HST.out, if_neg hj0] at this; simpa [List.append_assoc] using this
        have es : (⟨d.toArray⟩ : ByteArray) ++ ⟨#[44, 32]⟩ ++ ⟨(expF y 1).toArray⟩ = ⟨(d ++ ([44, 32] ++ expF y 1)).toArray⟩ := by
          rw [show (⟨#[44, 32]⟩ : ByteArray) = ⟨([44, 32] : List UInt8).toArray⟩ from rfl, app_str, app_str, List.append_assoc]
        have ES := Lib.hid es
        clear hj0 HST hst hd hlen es
        go_wp2_with (go_at_call 28; (refine hC.out.mono ?_); rintro e w3 ⟨rfl, K3⟩; have I3 := Lib.hid (HI1.out.next K3); clear K3)
        rw [ES.out]
        go_roundw
        case rel => exact ⟨j + 1, d ++ ([44, 32] ++ expF y 1), by omega, by go_num, rfl, stp, I3.out⟩
        case measure => simp [intOf]; omega
    · obtain rfl : j = kids.length := by omega
      have hd2 : d = eJoin true kids := by have := hd.out; rw [List.drop_length] at this; simpa [eJoin] using this
      subst hd2
      have c3 := I.out.five.h3
      dsimp only [PatT.name_mk] at c3
      clear hd
      go_wp2_with fail
      go_ret
      exact ⟨str_ret fin.out, I.out.base⟩

def sgL : List UInt8 := [38, 43, 45, 42, 47, 37]
def sgA (a : Nat) : ByteArray := ⟨#[sgL.getD a 0]⟩
def lvA (a : Nat) : Nat := ownK (8 + (a : Int))
def opV (lv a : Nat) : Int := if lv = lvA a then 8 + (a : Int) else 0
def SgAt (G : Nat) (w : World) : Prop := w.heap[G]? = some (.cells #[.string ⟨#[38]⟩, .string ⟨#[43]⟩, .string ⟨#[45]⟩, .string ⟨#[42]⟩, .string ⟨#[47]⟩, .string ⟨#[37]⟩] 9 (0, 0))
theorem SgAt.kept {G : Nat} {w w' : World} (h : SgAt G w) (hk : Kept Nix w w') : SgAt G w' := by
  unfold SgAt; rw [hk.block G (Array.getElem?_eq_some_iff.1 h).1 (fun h => h)]; exact h
theorem SgAt.cell {G : Nat} {w : World} (h : SgAt G w) (a : Nat) (ha : a < 6) : w.cell? ⟨G, a, none⟩ = some (.string (sgA a)) := by
  rw [cell_of_row w G a _ _ _ h]
  rcases (show a = 0 ∨ a = 1 ∨ a = 2 ∨ a = 3 ∨ a = 4 ∨ a = 5 by omega) with rfl | rfl | rfl | rfl | rfl | rfl <;> rfl
set_option maxRecDepth 100000 in
theorem operator_any (lv a : Nat) (hl : 1 ≤ lv ∧ lv ≤ 3) (ha : a < 6) (w : World) : Calls Tryz.prog 49 #[.int .i64 lv, .string (sgA a)] w fun e w' => e = .returned (.int .i64 (opV lv a)) ∧ w' = w := by
  rcases (show lv = 1 ∨ lv = 2 ∨ lv = 3 by omega) with rfl | rfl | rfl <;> rcases (show a = 0 ∨ a = 1 ∨ a = 2 ∨ a = 3 ∨ a = 4 ∨ a = 5 by omega) with rfl | rfl | rfl | rfl | rfl | rfl
  all_goals
    show Calls _ _ #[_, .string ⟨#[_]⟩] w _
    simp only [sgL, List.getD_cons_zero, List.getD_cons_succ]
    go_enter Tryz.func49, Tryz.ntmps49
    go_wp2
    go_ret
    exact ⟨rfl, rfl⟩
end Go.Proofs.YtcfcdobgpldoiaaGreatDoor

namespace Go.Proofs.YtcfcdobgpldoiaaGreatDoor
set_option linter.all false
open Go.RowKit

theorem cell_lt4 {w : World} {a : Addr} {v : Value} (h : w.cell? a = some v) : a.block < w.heap.size := by
  unfold World.cell? at h
  cases hx : w.heap[a.block]? with
  | none => rw [hx] at h; cases h
  | some o => exact (Array.getElem?_eq_some_iff.1 hx).1
def OV (ow : Nat) (dn : Bool) : Value := if dn then .int .i64 ow else .int .i64 5
def SV (bd : List UInt8) (dn : Bool) : Value := if dn then .string ⟨bd.toArray⟩ else .string ⟨#[]⟩
set_option maxRecDepth 100000 in
set_option maxHeartbeats 16000000 in
theorem tx_two (i : Nat) (k : Int) (hk : 8 ≤ k) (t : ByteArray) (n : Int) (nm : ByteArray) (kids : List PatT) (ka : Option Addr) (cap : Nat) (S : Nat → Prop) (w : World) (hkk : PatsAt w S ka kids) (hsf : Safe S Nix w.heap.size) (hn : OkX (.mk k t n nm kids)) (hi : i ≤ 5) (hl : (expF (.mk k t n nm kids) i).length ≤ big) (hih : TxIH S kids) : TxOk (.mk k t n nm kids) i (.agg #[.int .i64 k, .string t, .int .i64 n, .string nm, .slice ka kids.length cap]) w := by
  obtain ⟨p, q, rfl⟩ := hn.two hk
  have hfc := hn.facts.1
  obtain ⟨a0, rfl⟩ : ∃ a0 : Nat, k = 8 + (a0 : Int) := ⟨(k - 8).toNat, by omega⟩
  have ha0 : a0 < 6 := by omega
  unfold TxOk
  unfold big at hl
  have hs : expF (.mk (8 + (a0 : Int)) t n nm [p, q]) i = parL (decide (ownK (8 + (a0 : Int)) < i)) (expF p (ownK (8 + (a0 : Int))) ++ ([32, signK (8 + (a0 : Int)), 32] ++ expF q (ownK (8 + (a0 : Int)) + 1))) := by
    rw [expF, if_neg (by omega), if_neg (by omega), if_neg (by omega), if_neg (by omega), if_neg (by omega), if_neg (by omega), if_neg (by omega)]
    simp only [eTwo, eHead]
  rw [hs] at hl ⊢
  have hlv : lvA a0 = ownK (8 + (a0 : Int)) := rfl
  have hsg : sgA a0 = ⟨[signK (8 + (a0 : Int))].toArray⟩ := by
    rcases (show a0 = 0 ∨ a0 = 1 ∨ a0 = 2 ∨ a0 = 3 ∨ a0 = 4 ∨ a0 = 5 by omega) with rfl | rfl | rfl | rfl | rfl | rfl <;> rfl
  have how : 1 ≤ ownK (8 + (a0 : Int)) ∧ ownK (8 + (a0 : Int)) ≤ 3 := by
    rcases (show a0 = 0 ∨ a0 = 1 ∨ a0 = 2 ∨ a0 = 3 ∨ a0 = 4 ∨ a0 = 5 by omega) with rfl | rfl | rfl | rfl | rfl | rfl <;> decide
  generalize ownK (8 + (a0 : Int)) = ow at *
  generalize signK (8 + (a0 : Int)) = sk at *
  have hbd : (expF p ow ++ ([32, sk, 32] ++ expF q (ow + 1))).length ≤ 1000000000000 := by unfold parL at hl; split at hl <;> (simp only [List.length_append, List.length_cons, List.length_nil] at hl ⊢; omega)
  have hpl : (expF p ow).length ≤ 1000000000000 ∧ (expF q (ow + 1)).length ≤ 1000000000000 := by simp only [List.length_append] at hbd; omega
  have ES : Hid ((⟨(expF p ow).toArray⟩ : ByteArray) ++ ⟨#[32]⟩ ++ sgA a0 ++ ⟨#[32]⟩ ++ ⟨(expF q (ow + 1)).toArray⟩ = ⟨(expF p ow ++ ([32, sk, 32] ++ expF q (ow + 1))).toArray⟩) := by
    unfold Hid; rw [hsg, show (⟨#[32]⟩ : ByteArray) = ⟨([32] : List UInt8).toArray⟩ from rfl, app_str, app_str, app_str, app_str]; simp
  have hsz : (sgA a0).size = 1 := rfl
  have HIH := Lib.hid hih
  have hcp : Hid (∀ (v : Value) (w : World), PatV w S v p → Safe S Nix w.heap.size → Calls Tryz.prog 28 #[v, .int .i64 ow] w (StrQ (expF p ow) w)) := fun v w hv hs => HIH.out 0 (by simp) v ow w hv hs (by omega) (by unfold big; exact hpl.1)
  have hcq : Hid (∀ (v : Value) (w : World), PatV w S v q → Safe S Nix w.heap.size → Calls Tryz.prog 28 #[v, .int .i64 ((ow : Int) + 1)] w (StrQ (expF q (ow + 1)) w)) := fun v w hv hs => HIH.out 1 (by simp) v (ow + 1) w hv hs (by omega) (by unfold big; exact hpl.2)
  obtain ⟨w0, hw0⟩ : ∃ w0, w0 = (w.alloc (.cells #[.int .i64 (8 + (a0 : Int)), .string t, .int .i64 n, .string nm, .slice ka 2 cap] 25)) := ⟨_, rfl⟩
  have I00 : TxI w.heap.size S (.mk (8 + (a0 : Int)) t n nm [p, q]) ka cap w w0 := by rw [hw0]; exact TxI.start (p := .mk (8 + (a0 : Int)) t n nm [p, q]) hkk hsf
  have c0 := I00.five.h0
  dsimp only [PatT.kind_mk] at c0
  obtain ⟨w1, hw1⟩ : ∃ w1, w1 = w0.alloc (.cells #[.string ⟨#[38]⟩, .string ⟨#[43]⟩, .string ⟨#[45]⟩, .string ⟨#[42]⟩, .string ⟨#[47]⟩, .string ⟨#[37]⟩] 9) := ⟨_, rfl⟩
  have G1 : Hid (SgAt w0.heap.size w1) := by rw [hw1]; exact heap_alloc_new w0 _
  have I1 := Lib.hid (I00.next (show Kept Nix w0 w1 by rw [hw1]; exact (Kept.refl _ _).alloc _))
  have HW0 := Lib.hid hw0; have HW1 := Lib.hid hw1
  obtain ⟨X, hX⟩ : ∃ X : Value, X = .int .i64 (8 + (a0 : Int)) := ⟨_, rfl⟩
  clear I00 hw0 hw1 hkk hsf hn hs hih hfc hX
  have z1 : ((8 + (a0 : Int)) == 1) = false := by simp; omega
  have z2 : ((8 + (a0 : Int)) == 2) = false := by simp; omega
  have z3 : ((8 + (a0 : Int)) == 3) = false := by simp; omega
  have z4 : ((8 + (a0 : Int)) == 4) = false := by simp; omega
  have z5 : ((8 + (a0 : Int)) == 5) = false := by simp; omega
  have z6 : ((8 + (a0 : Int)) == 6) = false := by simp; omega
  have z7 : ((8 + (a0 : Int)) == 7) = false := by simp; omega
  generalize hkk : 8 + (a0 : Int) = kx at *
  have HKX := Lib.hid hkk
  clear hkk hk hsg
  go_enter Tryz.func28, Tryz.ntmps28
  go_upto_region 1 with fail
  rw [← HW0.out]
  clear HW0
  go_upto_region 5 with fail
  rw [← HW1.out]
  clear HW1 c0 z1 z2 z3 z4 z5 z6 z7
  obtain ⟨G, hG⟩ : ∃ x, x = w0.heap.size := ⟨_, rfl⟩
  rw [← hG] at G1 ⊢
  clear hG
  generalize hbb : expF p ow ++ ([32, sk, 32] ++ expF q (ow + 1)) = bd at *
  have HBB : Hid (expF p ow ++ 32 :: sk :: 32 :: expF q (ow + 1) = bd) := hbb
  clear hbb
  go_loopw [5, 6, 16] (fun ownv sv x wr => ∃ (a : Nat) (dn : Bool), a ≤ 6 ∧ x = .int .i64 a ∧ Hid (ownv = OV ow dn) ∧ Hid (sv = SV bd dn) ∧ Hid (dn = decide (a0 < a)) ∧ Hid (TxI w.heap.size S (.mk kx t n nm [p, q]) ka cap w wr) ∧ SgAt G wr) (fun _ _ x _ => 6 - (intOf x).toNat)
  case atStart => exact ⟨0, false, Nat.zero_le _, rfl, rfl, rfl, by simp [Hid], I1, G1.out⟩
  case round =>
    clear I1 G1
    obtain ⟨a, dn, ha, rfl, hov, hsv, hdn, hI, hG⟩ := hrel
    have HG := Lib.hid hG
    clear hG
    by_cases hlt : a < 6
    · have g0 := HG.out.cell a hlt
      have d6 : decide ((a : Int) < 6) = true := decide_eq_true (by omega)
      have d6' : decide (a < 6) = true := decide_eq_true hlt
      go_upto_region 8 with fail
      clear g0
      obtain ⟨w7, hw7⟩ : ∃ x, x = wr := ⟨_, rfl⟩
      rw [← hw7] at hI HG ⊢
      clear hw7
      go_loopw [5, 6, 11] (fun ownv sv x wr => ∃ (lv : Nat) (dn : Bool), 1 ≤ lv ∧ lv ≤ 4 ∧ x = .int .i64 lv ∧ Hid (ownv = OV ow dn) ∧ Hid (sv = SV bd dn) ∧ Hid (dn = decide (a0 < a ∨ (a = a0 ∧ ow < lv))) ∧ Hid (TxI w.heap.size S (.mk kx t n nm [p, q]) ka cap w wr) ∧ SgAt G wr) (fun _ _ x _ => 4 - (intOf x).toNat)
      case atStart => exact ⟨1, dn, Nat.le_refl _, by omega, rfl, hov, hsv, by unfold Hid; rw [hdn.out]; exact decide_eq_decide.2 ⟨.inl, fun h => h.elim id (fun h => by omega)⟩, hI, HG.out⟩
      case round =>
        clear hov hsv hdn hI HG
        obtain ⟨lv, dn, h1, h4, rfl, hov, hsv, hdn, hI, hG⟩ := hrel
        have HG := Lib.hid hG
        clear hG
        by_cases hlv3 : lv ≤ 3
        · have I := hI.out
          have c0 := I.five.h0; have c4 : wr.cell? ⟨w.heap.size, 4, none⟩ = some (.slice ka 2 cap) := I.five.h4
          dsimp only [PatT.kind_mk] at c0
          have HOP := Lib.hid (operator_any lv a ⟨h1, hlv3⟩ hlt)
          have d3 : decide ((lv : Int) ≤ 3) = true := decide_eq_true (by omega)
          have d3' : decide (lv ≤ 3) = true := decide_eq_true hlv3
          by_cases hm : a = a0 ∧ lv = ow
          · obtain ⟨rfl, rfl⟩ := hm
            have zz : (opV lv a == kx) = true := by unfold opV; rw [if_pos hlv.symm, HKX.out]; simp
            have ID := Lib.hid (I.next ((Kept.refl Nix wr).drew))
            obtain ⟨kb, ko, kc, kcap, hka, q0, q1, q2, q3, q4, hV⟩ := ID.out.kid 0 (by simp)
            subst hka
            obtain ⟨kb', ko', rc, rcap, hka, r0, r1, r2, r3, r4, hV1⟩ := ID.out.kid 1 (by simp)
            simp only [Option.some.injEq, Addr.mk.injEq, and_true] at hka
            obtain ⟨rfl, rfl⟩ := hka
            simp only [PatT.kids_mk, List.getElem_cons_zero, List.getElem_cons_succ, Nat.zero_mul, Nat.add_zero, Nat.one_mul] at q0 q1 q2 q3 q4 hV r0 r1 r2 r3 r4 hV1
            have HK0 : Hid (∀ wy, Kept Nix wr.drew wy → wy.cell? ⟨kb, ko, none⟩ = some (.int .i64 p.kind) ∧ wy.cell? ⟨kb, ko + 1, none⟩ = some (.string p.text) ∧ wy.cell? ⟨kb, ko + 2, none⟩ = some (.int .i64 p.n) ∧ wy.cell? ⟨kb, ko + 3, none⟩ = some (.string p.name) ∧ wy.cell? ⟨kb, ko + 4, none⟩ = some (.slice kc p.kids.length kcap) ∧ PatV wy S (.agg #[.int .i64 p.kind, .string p.text, .int .i64 p.n, .string p.name, .slice kc p.kids.length kcap]) p) := by
              intro wy hk
              have hlt : kb < wr.drew.heap.size := cell_lt4 q0
              obtain ⟨x1, x2, x3, x4, x5⟩ := hV
              exact ⟨(hk.cell hlt (fun h => h)).trans q0, (hk.cell hlt (fun h => h)).trans q1, (hk.cell hlt (fun h => h)).trans q2, (hk.cell hlt (fun h => h)).trans q3, (hk.cell hlt (fun h => h)).trans q4, x1, x2, x3, x4, x5.kept hk ID.out.safe⟩
            have HK1 : Hid (∀ wy, Kept Nix wr.drew wy → wy.cell? ⟨kb, ko + 5, none⟩ = some (.int .i64 q.kind) ∧ wy.cell? ⟨kb, ko + 5 + 1, none⟩ = some (.string q.text) ∧ wy.cell? ⟨kb, ko + 5 + 2, none⟩ = some (.int .i64 q.n) ∧ wy.cell? ⟨kb, ko + 5 + 3, none⟩ = some (.string q.name) ∧ wy.cell? ⟨kb, ko + 5 + 4, none⟩ = some (.slice rc q.kids.length rcap) ∧ PatV wy S (.agg #[.int .i64 q.kind, .string q.text, .int .i64 q.n, .string q.name, .slice rc q.kids.length rcap]) q) := by
              intro wy hk
              have hlt : kb < wr.drew.heap.size := cell_lt4 q0
              obtain ⟨x1, x2, x3, x4, x5⟩ := hV1
              exact ⟨(hk.cell hlt (fun h => h)).trans r0, (hk.cell hlt (fun h => h)).trans r1, (hk.cell hlt (fun h => h)).trans r2, (hk.cell hlt (fun h => h)).trans r3, (hk.cell hlt (fun h => h)).trans r4, x1, x2, x3, x4, x5.kept hk ID.out.safe⟩
            have hdn2 : Hid (true = decide (a < a ∨ (a = a ∧ lv < lv + 1))) := (decide_eq_true (.inr ⟨rfl, by omega⟩)).symm
            have HGD := Lib.hid (HG.out.kept ((Kept.refl Nix wr).drew))
            clear I hV hV1 hov hsv hdn q0 q1 q2 q3 q4 r0 r1 r2 r3 r4
            go_upto_region 10 with fail
            go_region_with (go_at_call 49; (with_reducible refine (HOP.out _).mono ?_); rintro e w' ⟨rfl, hw_⟩; obtain rfl := hw_.symm)
            all_goals
              go_upto_region 12 with fail
            all_goals
              clear c0 c4 zz d3 d3'
              --REGION
              obtain ⟨Sp, hSp⟩ : ∃ Sp : Nat → Value → World → Prop, Sp = (fun i v wx => match i with
                | 0 => v = .pointer (some ⟨w.heap.size, 4, none⟩)
                | 1 => v = .slice (some ⟨kb, ko, none⟩) 2 cap
                | 2 => v = .pointer (some ⟨kb, ko, none⟩)
                | 3 => v = .agg #[.int .i64 p.kind, .string p.text, .int .i64 p.n, .string p.name, .slice kc p.kids.length kcap]
                | 4 => v = .int .i64 lv
                | 5 => v = .string (⟨(expF p lv).toArray⟩ : ByteArray)
                | 6 => v = .string ((⟨(expF p lv).toArray⟩ : ByteArray) ++ (⟨#[32]⟩ : ByteArray))
                | 7 => v = .string (sgA a)
                | 8 => v = .string ((⟨(expF p lv).toArray⟩ : ByteArray) ++ (⟨#[32]⟩ : ByteArray) ++ sgA a)
                | 9 => v = .string ((⟨(expF p lv).toArray⟩ : ByteArray) ++ (⟨#[32]⟩ : ByteArray) ++ sgA a ++ (⟨#[32]⟩ : ByteArray))
                | 10 => v = .pointer (some ⟨w.heap.size, 4, none⟩)
                | 11 => v = .slice (some ⟨kb, ko, none⟩) 2 cap
                | 12 => v = .pointer (some ⟨kb, ko + 5, none⟩)
                | 13 => v = .agg #[.int .i64 q.kind, .string q.text, .int .i64 q.n, .string q.name, .slice rc q.kids.length rcap]
                | 14 => v = .int .i64 lv
                | 15 => v = .int .i64 ((lv : Int) + 1)
                | 16 => v = .string (⟨(expF q (lv + 1)).toArray⟩ : ByteArray)
                | 17 => v = .string ((⟨(expF p lv).toArray⟩ : ByteArray) ++ (⟨#[32]⟩ : ByteArray) ++ sgA a ++ (⟨#[32]⟩ : ByteArray) ++ (⟨(expF q (lv + 1)).toArray⟩ : ByteArray))
                | _ => v = .string ((⟨(expF p lv).toArray⟩ : ByteArray) ++ (⟨#[32]⟩ : ByteArray) ++ sgA a ++ (⟨#[32]⟩ : ByteArray) ++ (⟨(expF q (lv + 1)).toArray⟩ : ByteArray))) := ⟨_, rfl⟩
              refine wp_specs2 Sp [31, 32, 33, 34, 35, 36, 37, 38, 39, 40, 41, 42, 43, 44, 45, 46, 47, 48, 6] (by kernel_rfl) (by kernel_rfl) (by kernel_rfl) (fun i v w w' h hk => by
                  subst hSp
                  rcases i with _ | _ | _ | _ | _ | _ | _ | _ | _ | _ | _ | _ | _ | _ | _ | _ | _ | _ | _ | i
                  all_goals (first
                    | exact h)) ?_ ?_
              · intro i o hi l x wy hI hlf haft
                have e2 : x.eval (.tmp 2) = .pointer (some ⟨w.heap.size, 0, none⟩) := hI.keep 2 _ rfl (by kernel_rfl)
                have e10 : x.eval (.tmp 10) = .string (sgA a) := hI.keep 10 _ rfl (by kernel_rfl)
                have e11 : x.eval (.tmp 11) = .int .i64 lv := hI.keep 11 _ rfl (by kernel_rfl)
                have hwl : IntKind.i64.wrap ((lv : Int) + 1) = (lv : Int) + 1 := by simp [IntKind.wrap, IntKind.bits, IntKind.signed]; omega
                have hl1 := hpl.1; have hl2 := hpl.2
                have J := ID.out.next hI.kept
                have c4 : wy.cell? ⟨w.heap.size, 4, none⟩ = some (.slice (some ⟨kb, ko, none⟩) 2 cap) := J.five.h4
                have k0 := HK0.out wy hI.kept; have k1 := HK1.out wy hI.kept
                obtain ⟨q0, q1, q2, q3, q4, HVp⟩ := k0; obtain ⟨r0, r1, r2, r3, r4, HVq⟩ := k1
                rcases i with _ | _ | _ | _ | _ | _ | _ | _ | _ | _ | _ | _ | _ | _ | _ | _ | _ | _ | _ | i
                all_goals (simp only [List.getElem?_toArray, List.getElem?_cons_zero, List.getElem?_cons_succ, List.getElem?_nil, Option.some.injEq, reduceCtorEq] at hi)
                all_goals subst hi
                · refine op_val (v := .pointer (some ⟨w.heap.size, 4, none⟩)) ?_ (by subst hSp; exact rfl)
                  simp only [execOp, resolve, invoke, List.map_toArray, List.map_cons, List.map_nil, e2]; go_simp <;> omega
                · have d31 : x.eval (.tmp 31) = .pointer (some ⟨w.heap.size, 4, none⟩) := by have h_ := hI.dep haft 0 31 rfl rfl rfl; rw [hSp] at h_; exact h_
                  refine op_val (v := .slice (some ⟨kb, ko, none⟩) 2 cap) ?_ (by subst hSp; exact rfl)
                  simp only [execOp, resolve, invoke, List.map_toArray, List.map_cons, List.map_nil, d31]; go_simp <;> omega
                · have d32 : x.eval (.tmp 32) = .slice (some ⟨kb, ko, none⟩) 2 cap := by have h_ := hI.dep haft 1 32 rfl rfl rfl; rw [hSp] at h_; exact h_
                  refine op_val (v := .pointer (some ⟨kb, ko, none⟩)) ?_ (by subst hSp; exact rfl)
                  simp only [execOp, resolve, invoke, List.map_toArray, List.map_cons, List.map_nil, d32]; go_simp <;> omega
                · have d33 : x.eval (.tmp 33) = .pointer (some ⟨kb, ko, none⟩) := by have h_ := hI.dep haft 2 33 rfl rfl rfl; rw [hSp] at h_; exact h_
                  refine op_val (v := .agg #[.int .i64 p.kind, .string p.text, .int .i64 p.n, .string p.name, .slice kc p.kids.length kcap]) ?_ (by subst hSp; exact rfl)
                  simp only [execOp, resolve, invoke, List.map_toArray, List.map_cons, List.map_nil, d33]; go_simp <;> omega
                · refine op_val (v := .int .i64 lv) ?_ (by subst hSp; exact rfl)
                  simp only [execOp, resolve, invoke, List.map_toArray, List.map_cons, List.map_nil, e11]; go_simp <;> omega
                · have d34 : x.eval (.tmp 34) = .agg #[.int .i64 p.kind, .string p.text, .int .i64 p.n, .string p.name, .slice kc p.kids.length kcap] := by have h_ := hI.dep haft 3 34 rfl rfl rfl; rw [hSp] at h_; exact h_
                  have d35 : x.eval (.tmp 35) = .int .i64 lv := by have h_ := hI.dep haft 4 35 rfl rfl rfl; rw [hSp] at h_; exact h_
                  refine op_call (f := 28) (args := #[.agg #[.int .i64 p.kind, .string p.text, .int .i64 p.n, .string p.name, .slice kc p.kids.length kcap], .int .i64 lv]) ?_ ?_
                  · simp only [execOp, resolve, invoke, List.map_toArray, List.map_cons, List.map_nil, d34, d35]; go_simp <;> omega
                  · exact (hcp.out _ _ HVp J.safe).mono fun e w' h => ⟨_, h.1, by subst hSp; exact rfl, h.2⟩
                · have d36 : x.eval (.tmp 36) = .string (⟨(expF p lv).toArray⟩ : ByteArray) := by have h_ := hI.dep haft 5 36 rfl rfl rfl; rw [hSp] at h_; exact h_
                  refine op_val (v := .string ((⟨(expF p lv).toArray⟩ : ByteArray) ++ (⟨#[32]⟩ : ByteArray))) ?_ (by subst hSp; exact rfl)
                  simp only [execOp, resolve, invoke, List.map_toArray, List.map_cons, List.map_nil, d36]; go_simp <;> omega
                · refine op_val (v := .string (sgA a)) ?_ (by subst hSp; exact rfl)
                  simp only [execOp, resolve, invoke, List.map_toArray, List.map_cons, List.map_nil, e10]; go_simp <;> omega
                · have d37 : x.eval (.tmp 37) = .string ((⟨(expF p lv).toArray⟩ : ByteArray) ++ (⟨#[32]⟩ : ByteArray)) := by have h_ := hI.dep haft 6 37 rfl rfl rfl; rw [hSp] at h_; exact h_
                  have d38 : x.eval (.tmp 38) = .string (sgA a) := by have h_ := hI.dep haft 7 38 rfl rfl rfl; rw [hSp] at h_; exact h_
                  refine op_val (v := .string ((⟨(expF p lv).toArray⟩ : ByteArray) ++ (⟨#[32]⟩ : ByteArray) ++ sgA a)) ?_ (by subst hSp; exact rfl)
                  simp only [execOp, resolve, invoke, List.map_toArray, List.map_cons, List.map_nil, d37, d38]; go_simp <;> omega
                · have d39 : x.eval (.tmp 39) = .string ((⟨(expF p lv).toArray⟩ : ByteArray) ++ (⟨#[32]⟩ : ByteArray) ++ sgA a) := by have h_ := hI.dep haft 8 39 rfl rfl rfl; rw [hSp] at h_; exact h_
                  refine op_val (v := .string ((⟨(expF p lv).toArray⟩ : ByteArray) ++ (⟨#[32]⟩ : ByteArray) ++ sgA a ++ (⟨#[32]⟩ : ByteArray))) ?_ (by subst hSp; exact rfl)
                  simp only [execOp, resolve, invoke, List.map_toArray, List.map_cons, List.map_nil, d39]; go_simp <;> omega
                · refine op_val (v := .pointer (some ⟨w.heap.size, 4, none⟩)) ?_ (by subst hSp; exact rfl)
                  simp only [execOp, resolve, invoke, List.map_toArray, List.map_cons, List.map_nil, e2]; go_simp <;> omega
                · have d41 : x.eval (.tmp 41) = .pointer (some ⟨w.heap.size, 4, none⟩) := by have h_ := hI.dep haft 10 41 rfl rfl rfl; rw [hSp] at h_; exact h_
                  refine op_val (v := .slice (some ⟨kb, ko, none⟩) 2 cap) ?_ (by subst hSp; exact rfl)
                  simp only [execOp, resolve, invoke, List.map_toArray, List.map_cons, List.map_nil, d41]; go_simp <;> omega
                · have d42 : x.eval (.tmp 42) = .slice (some ⟨kb, ko, none⟩) 2 cap := by have h_ := hI.dep haft 11 42 rfl rfl rfl; rw [hSp] at h_; exact h_
                  refine op_val (v := .pointer (some ⟨kb, ko + 5, none⟩)) ?_ (by subst hSp; exact rfl)
                  simp only [execOp, resolve, invoke, List.map_toArray, List.map_cons, List.map_nil, d42]; go_simp <;> omega
                · have d43 : x.eval (.tmp 43) = .pointer (some ⟨kb, ko + 5, none⟩) := by have h_ := hI.dep haft 12 43 rfl rfl rfl; rw [hSp] at h_; exact h_
                  refine op_val (v := .agg #[.int .i64 q.kind, .string q.text, .int .i64 q.n, .string q.name, .slice rc q.kids.length rcap]) ?_ (by subst hSp; exact rfl)
                  simp only [execOp, resolve, invoke, List.map_toArray, List.map_cons, List.map_nil, d43]; go_simp <;> omega
                · refine op_val (v := .int .i64 lv) ?_ (by subst hSp; exact rfl)
                  simp only [execOp, resolve, invoke, List.map_toArray, List.map_cons, List.map_nil, e11]; go_simp <;> omega
                · have d45 : x.eval (.tmp 45) = .int .i64 lv := by have h_ := hI.dep haft 14 45 rfl rfl rfl; rw [hSp] at h_; exact h_
                  refine op_val (v := .int .i64 ((lv : Int) + 1)) ?_ (by subst hSp; exact rfl)
                  simp only [execOp, resolve, invoke, List.map_toArray, List.map_cons, List.map_nil, d45]; go_simp <;> omega
                · have d44 : x.eval (.tmp 44) = .agg #[.int .i64 q.kind, .string q.text, .int .i64 q.n, .string q.name, .slice rc q.kids.length rcap] := by have h_ := hI.dep haft 13 44 rfl rfl rfl; rw [hSp] at h_; exact h_
                  have d46 : x.eval (.tmp 46) = .int .i64 ((lv : Int) + 1) := by have h_ := hI.dep haft 15 46 rfl rfl rfl; rw [hSp] at h_; exact h_
                  refine op_call (f := 28) (args := #[.agg #[.int .i64 q.kind, .string q.text, .int .i64 q.n, .string q.name, .slice rc q.kids.length rcap], .int .i64 ((lv : Int) + 1)]) ?_ ?_
                  · simp only [execOp, resolve, invoke, List.map_toArray, List.map_cons, List.map_nil, d44, d46]; go_simp <;> omega
                  · exact (hcq.out _ _ HVq J.safe).mono fun e w' h => ⟨_, h.1, by subst hSp; exact rfl, h.2⟩
                · have d40 : x.eval (.tmp 40) = .string ((⟨(expF p lv).toArray⟩ : ByteArray) ++ (⟨#[32]⟩ : ByteArray) ++ sgA a ++ (⟨#[32]⟩ : ByteArray)) := by have h_ := hI.dep haft 9 40 rfl rfl rfl; rw [hSp] at h_; exact h_
                  have d47 : x.eval (.tmp 47) = .string (⟨(expF q (lv + 1)).toArray⟩ : ByteArray) := by have h_ := hI.dep haft 16 47 rfl rfl rfl; rw [hSp] at h_; exact h_
                  refine op_val (v := .string ((⟨(expF p lv).toArray⟩ : ByteArray) ++ (⟨#[32]⟩ : ByteArray) ++ sgA a ++ (⟨#[32]⟩ : ByteArray) ++ (⟨(expF q (lv + 1)).toArray⟩ : ByteArray))) ?_ (by subst hSp; exact rfl)
                  simp only [execOp, resolve, invoke, List.map_toArray, List.map_cons, List.map_nil, d40, d47]; go_simp <;> omega
                · have d48 : x.eval (.tmp 48) = .string ((⟨(expF p lv).toArray⟩ : ByteArray) ++ (⟨#[32]⟩ : ByteArray) ++ sgA a ++ (⟨#[32]⟩ : ByteArray) ++ (⟨(expF q (lv + 1)).toArray⟩ : ByteArray)) := by have h_ := hI.dep haft 17 48 rfl rfl rfl; rw [hSp] at h_; exact h_
                  refine op_val (v := .string ((⟨(expF p lv).toArray⟩ : ByteArray) ++ (⟨#[32]⟩ : ByteArray) ++ sgA a ++ (⟨#[32]⟩ : ByteArray) ++ (⟨(expF q (lv + 1)).toArray⟩ : ByteArray))) ?_ (by subst hSp; exact rfl)
                  simp only [execOp, resolve, invoke, List.map_toArray, List.map_cons, List.map_nil, d48]; go_simp <;> omega
              · intro f wy hK hS
                have h6_ := hS 18 _ 6 rfl rfl
                rw [hSp] at h6_
                have e6 : f 6 = .string ((⟨(expF p lv).toArray⟩ : ByteArray) ++ (⟨#[32]⟩ : ByteArray) ++ sgA a ++ (⟨#[32]⟩ : ByteArray) ++ (⟨(expF q (lv + 1)).toArray⟩ : ByteArray)) := h6_
                rw [ES.out] at e6
                have K4 := Lib.hid hK
                clear hK hS h6_
                simp only [setAll, List.foldl_cons, List.foldl_nil, List.setIfInBounds_toArray, List.set_cons_zero, List.set_cons_succ, e6]
                clear e6
                --END
                go_wp2_with fail
                go_roundw
                case rel => exact ⟨lv + 1, true, by omega, by omega, by go_num, rfl, rfl, hdn2, Lib.hid (ID.out.next K4.out), HGD.out.kept K4.out⟩
                case measure => simp [intOf]; omega
          · have zz : (opV lv a == kx) = false := by
              unfold opV
              split
              · rename_i hla
                rw [← HKX.out]
                simp only [beq_eq_false_iff_ne, ne_eq]
                intro he
                have : a = a0 := by omega
                exact hm ⟨this, by rw [hla, this]; exact hlv⟩
              · rw [← HKX.out]; simp; omega
            have hdn2 : Hid (dn = decide (a0 < a ∨ (a = a0 ∧ ow < lv + 1))) := by
              unfold Hid; rw [hdn.out]
              exact decide_eq_decide.2 ⟨fun h => h.elim .inl fun h => .inr ⟨h.1, by omega⟩, fun h => h.elim .inl fun h => .inr ⟨h.1, by have h3 : lv ≠ ow := fun e => hm ⟨h.1, e⟩; omega⟩⟩
            have ID := Lib.hid (I.next ((Kept.refl Nix wr).drew))
            have HGD := Lib.hid (HG.out.kept ((Kept.refl Nix wr).drew))
            clear I hdn
            go_upto_region 10 with fail
            go_region_with (go_at_call 49; (with_reducible refine (HOP.out _).mono ?_); rintro e w' ⟨rfl, hw_⟩; obtain rfl := hw_.symm)
            all_goals
              go_wp2_with fail
              go_roundw
              case rel => exact ⟨lv + 1, dn, by omega, by omega, by go_num, hov, hsv, hdn2, ID, HGD.out⟩
              case measure => simp [intOf]; omega
        · have d3 : decide ((lv : Int) ≤ 3) = false := decide_eq_false (by omega)
          have d3' : decide (lv ≤ 3) = false := decide_eq_false hlv3
          have hdn2 : Hid (dn = decide (a0 < a + 1)) := by
            unfold Hid; rw [hdn.out]
            exact decide_eq_decide.2 ⟨fun h => by omega, fun h => by omega⟩
          go_wp2_with fail
          go_roundw
          case rel => exact ⟨a + 1, dn, by omega, by go_num, hov, hsv, hdn2, hI, HG.out⟩
          case measure => simp [intOf]; omega
    · obtain rfl : a = 6 := by omega
      have hd : dn = true := by rw [hdn.out]; exact decide_eq_true ha0
      have e5 : u5 = .int .i64 ow := by rw [hov.out, hd]; rfl
      have e6 : u6 = .string ⟨bd.toArray⟩ := by rw [hsv.out, hd]; rfl
      clear hov hsv
      subst e5 e6
      by_cases hp : ow < i
      · have e0 : decide ((ow : Int) < (i : Int)) = true := decide_eq_true (by omega)
        have e0' : decide (ow < i) = true := decide_eq_true hp
        have fin : Hid ((⟨#[40]⟩ : ByteArray) ++ ⟨bd.toArray⟩ ++ ⟨#[41]⟩ = ⟨(parL true bd).toArray⟩) := by
          unfold Hid; rw [show (⟨#[40]⟩ : ByteArray) = ⟨([40] : List UInt8).toArray⟩ from rfl, show (⟨#[41]⟩ : ByteArray) = ⟨([41] : List UInt8).toArray⟩ from rfl, app_str, app_str]; rfl
        have HI := Lib.hid hI.out.base
        clear hdn hI
        go_wp2_with fail
        go_ret
        rw [e0', HBB.out]
        exact ⟨str_ret fin.out, HI.out⟩
      · have e0 : decide ((ow : Int) < (i : Int)) = false := decide_eq_false (by omega)
        have e0' : decide (ow < i) = false := decide_eq_false hp
        have HI := Lib.hid hI.out.base
        clear hdn hI
        go_wp2_with fail
        go_ret
        rw [e0', HBB.out]
        exact ⟨rfl, HI.out⟩

theorem tx_all (S : Nat → Prop) : ∀ (m : Nat) (p : PatT) (v : Value) (i : Nat) (w : World), sizeT p ≤ m → OkX p → PatV w S v p → Safe S Nix w.heap.size → i ≤ 5 → (expF p i).length ≤ big → TxOk p i v w := by
  intro m
  induction m with
  | zero => intro p v i w hm; have := sizeT_pos p; omega
  | succ m ih =>
    intro p v i w hm hok hv hS hi hl
    obtain ⟨k, t, n, nm, kids⟩ := p
    have hih : TxIH S kids := fun j hj v i w h1 h2 h3 h4 => ih kids[j] v i w (by have := sizeT_get kids j hj; simp only [sizeT] at hm; omega) (hok.sub.get j hj) h1 h2 h3 h4
    obtain ⟨h1, h13⟩ := hok.facts.1
    obtain ⟨ka, cap, rfl, hz, hk⟩ := hv
    dsimp only [PatT.kind_mk, PatT.text_mk, PatT.n_mk, PatT.name_mk, PatT.kids_mk] at hk ⊢
    by_cases c1 : k = 1
    · subst c1; exact tx_text i t n nm kids ka cap S w hk hS hok hi
    by_cases c2 : k = 2
    · subst c2
      have h0 := hok.facts.2.2.1 rfl
      have h9 := hok.facts.2.2.2.1
      obtain ⟨u, rfl⟩ : ∃ u : Nat, n = u := ⟨n.toNat, by omega⟩
      exact tx_num i t nm kids ka cap S w u hk hS (by omega) hi
    by_cases c3 : k = 3
    · subst c3; exact tx_name i t n nm kids ka cap S w hk hS hi
    by_cases c4 : k = 4
    · subst c4; exact tx_item i t n nm kids ka cap S w hk hS hok hi hl hih
    by_cases c5 : k = 5
    · subst c5; exact tx_ind i t n nm kids ka cap S w hk hS hok hi hl hih
    by_cases c6 : k = 6
    · subst c6; exact tx_call i t n nm kids ka cap S w hk hS hok hi hl hih
    by_cases c7 : k = 7
    · subst c7
      by_cases hp : i = 5
      · exact tx_negP i t n nm kids ka cap S w hk hS hok hp hl hih
      · exact tx_neg i t n nm kids ka cap S w hk hS hok (by omega) hl hih
    · exact tx_two i k (by omega) t n nm kids ka cap S w hk hS hok hi hl hih
end Go.Proofs.YtcfcdobgpldoiaaGreatDoor
