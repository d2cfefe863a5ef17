/- The document's Show: kinds with one kid. -/
import Derived.Test.YtdnglicgmlldlaaDoorShow3
namespace Go.Proofs.YtdnglicgmlldlaaDoor
open Go.RowKit
def ShIH (S : Nat → Prop) (kids : List PatT) : Prop :=
  ∀ (j : Nat) (hj : j < kids.length) (v : Value) (i : Nat) (w : World), PatV w S v kids[j] → Safe S Nix w.heap.size → i ≤ 2 → (showF kids[j] i).length ≤ big → ShOk kids[j] i v w

set_option maxRecDepth 100000 in
set_option maxHeartbeats 4000000 in
theorem show_arbno (i : Nat) (t : ByteArray) (n : Int) (nm : ByteArray) (kids : List PatT) (ka : Option Addr) (cap : Nat) (S : Nat → Prop) (w : World) (hkk : PatsAt w S ka kids) (hsf : Safe S Nix w.heap.size) (hn : nodeF (.mk 20 t n nm kids) = 0) (hl : (showF (.mk 20 t n nm kids) i).length ≤ big) (hih : ShIH S kids) :
    ShOk (.mk 20 t n nm kids) i (.agg #[.int .i64 20, .string t, .int .i64 n, .string nm, .slice ka kids.length cap]) w := by
  obtain ⟨hk24, ht, hnn, hnm, h1⟩ := node_facts hn
  unfold ShOk
  unfold big at hl
  have h1' := h1 (by omega)
  have hl0 : 0 < kids.length := by omega
  obtain ⟨q, hqq⟩ : ∃ q, kids[0]'hl0 = q := ⟨_, rfl⟩
  have hs : showF (.mk 20 t n nm kids) i = arbnoL ++ (showF q 2 ++ [41]) := by
    have e : headF kids 2 = showF q 2 := by
      match kids, hl0, hqq with
      | p :: r, _, h => simp at h; rw [headF, h]
    rw [showF, ← e]; rfl
  rw [hs] at hl ⊢
  have ea : arbnoL.length = 6 := rfl
  simp only [List.length_append, List.length_cons, List.length_nil] at hl
  have fin : Hid ((⟨#[65, 82, 66, 78, 79, 40]⟩ : ByteArray) ++ ⟨(showF q 2).toArray⟩ ++ ⟨#[41]⟩ = ⟨(arbnoL ++ (showF q 2 ++ [41])).toArray⟩) := by
    unfold Hid; rw [show (⟨#[65, 82, 66, 78, 79, 40]⟩ : ByteArray) = ⟨arbnoL.toArray⟩ from rfl, show (⟨#[41]⟩ : ByteArray) = ⟨[41].toArray⟩ from rfl, app_str, app_str]; simp
  have hq2 : (showF q 2).length ≤ big := by unfold big; omega
  have HIH := Lib.hid hih
  have hcall : Hid (∀ (v : Value) (w : World), PatV w S v q → Safe S Nix w.heap.size → ShOk q 2 v w) := fun v w hv hs => by
    have := HIH.out 0 hl0 v 2 w
    rw [hqq] at this
    exact this hv hs (by omega) hq2
  clear ht hnn hnm hs h1 h1' hih
  have dT : decide (isTextK 20) = false := by decide
  have dN : decide (isNumK 20) = false := by decide
  have I00 := ShI.start (p := .mk 20 t n nm kids) (cap := cap) hkk hsf
  dsimp only [PatT.kind_mk, PatT.text_mk, PatT.n_mk, PatT.name_mk, PatT.kids_mk] at I00
  obtain ⟨w0, hw0⟩ : ∃ w0, w0 = (w.alloc (.cells #[.int .i64 20, .string t, .int .i64 n, .string nm, .slice ka kids.length cap] 24)) := ⟨_, rfl⟩
  rw [← hw0] at I00
  obtain ⟨c0, c1, c2, c3, c4, _⟩ := I00.five.cells
  dsimp only [PatT.kind_mk, PatT.text_mk, PatT.n_mk, PatT.name_mk, PatT.kids_mk] at c0 c1 c2 c3 c4
  have I0 := Lib.hid I00; have HW0 := Lib.hid hw0
  clear I00 hw0 hkk hsf hn
  go_enter Tryd.func17, Tryd.ntmps17
  go_upto_region 2 with fail
  rw [← HW0.out]
  go_wp2_with fail
  refine (texts_any 20 _).mono ?_
  rintro e w1 ⟨rfl, k_⟩
  have I1 := Lib.hid (I0.out.next k_)
  rw [dT]
  clear k_ c0 c1 c2 c3 c4
  obtain ⟨c0, c1, c2, c3, c4, _⟩ := I1.out.five.cells
  dsimp only [PatT.kind_mk, PatT.text_mk, PatT.n_mk, PatT.name_mk, PatT.kids_mk] at c0 c1 c2 c3 c4
  go_wp2_with fail
  refine (numbers_any 20 _).mono ?_
  rintro e w2 ⟨rfl, k_⟩
  have I2 := Lib.hid (I1.out.next k_)
  rw [dN]
  clear k_ c0 c1 c2 c3 c4
  obtain ⟨c0, c1, c2, c3, c4, _⟩ := I2.out.five.cells
  dsimp only [PatT.kind_mk, PatT.text_mk, PatT.n_mk, PatT.name_mk, PatT.kids_mk] at c0 c1 c2 c3 c4
  obtain ⟨kb, ko, kc, kcap, hka, q0, q1, q2, q3, q4, hV⟩ := I2.out.kid 0 hl0
  subst hka
  simp only [PatT.kids_mk, hqq, Nat.zero_mul, Nat.add_zero] at q0 q1 q2 q3 q4 hV
  have HV := Lib.hid hV
  clear hV hqq
  go_wp2_with fail
  refine Calls.mono (hcall.out _ _ HV.out I2.out.safe) ?_
  rintro e w3 ⟨rfl, K3⟩
  have I3 := Lib.hid (I2.out.next K3)
  go_wp2_with fail
  go_ret
  exact ⟨str_ret fin.out, I3.out.base⟩

set_option maxRecDepth 100000 in
set_option maxHeartbeats 4000000 in
theorem show_cond (i : Nat) (t : ByteArray) (n : Int) (nm : ByteArray) (kids : List PatT) (ka : Option Addr) (cap : Nat) (S : Nat → Prop) (w : World) (hkk : PatsAt w S ka kids) (hsf : Safe S Nix w.heap.size) (hn : nodeF (.mk 21 t n nm kids) = 0) (hl : (showF (.mk 21 t n nm kids) i).length ≤ big) (hih : ShIH S kids) :
    ShOk (.mk 21 t n nm kids) i (.agg #[.int .i64 21, .string t, .int .i64 n, .string nm, .slice ka kids.length cap]) w := by
  obtain ⟨hk24, ht, hnn, hnm, h1⟩ := node_facts hn
  unfold ShOk
  unfold big at hl
  have h1' := h1 (by omega)
  have hl0 : 0 < kids.length := by omega
  obtain ⟨q, hqq⟩ : ∃ q, kids[0]'hl0 = q := ⟨_, rfl⟩
  have hs : showF (.mk 21 t n nm kids) i = showF q 0 ++ (32 :: 46 :: 32 :: nm.data.toList) := by
    have e : headF kids 0 = showF q 0 := by
      match kids, hl0, hqq with
      | p :: r, _, h => simp at h; rw [headF, h]
    rw [showF, ← e]; rfl
  rw [hs] at hl ⊢
  have hnm1 := hnm (by decide)
  have enm : nm.data.toList.length = nm.size := rfl
  simp only [List.length_append, List.length_cons, List.length_nil] at hl
  have fin : Hid ((⟨(showF q 0).toArray⟩ : ByteArray) ++ ⟨#[32, 46, 32]⟩ ++ nm = ⟨(showF q 0 ++ (32 :: 46 :: 32 :: nm.data.toList)).toArray⟩) := by
    unfold Hid; show (⟨(showF q 0).toArray⟩ : ByteArray) ++ ⟨[32, 46, 32].toArray⟩ ++ ⟨nm.data.toList.toArray⟩ = _; rw [app_str, app_str]; simp
  have hq2 : (showF q 0).length ≤ big := by unfold big; omega
  have HIH := Lib.hid hih
  have hcall : Hid (∀ (v : Value) (w : World), PatV w S v q → Safe S Nix w.heap.size → ShOk q 0 v w) := fun v w hv hs => by
    have := HIH.out 0 hl0 v 0 w
    rw [hqq] at this
    exact this hv hs (by omega) hq2
  clear ht hnn hnm hs h1 h1' hih
  have dT : decide (isTextK 21) = false := by decide
  have dN : decide (isNumK 21) = false := by decide
  have I00 := ShI.start (p := .mk 21 t n nm kids) (cap := cap) hkk hsf
  dsimp only [PatT.kind_mk, PatT.text_mk, PatT.n_mk, PatT.name_mk, PatT.kids_mk] at I00
  obtain ⟨w0, hw0⟩ : ∃ w0, w0 = (w.alloc (.cells #[.int .i64 21, .string t, .int .i64 n, .string nm, .slice ka kids.length cap] 24)) := ⟨_, rfl⟩
  rw [← hw0] at I00
  obtain ⟨c0, c1, c2, c3, c4, _⟩ := I00.five.cells
  dsimp only [PatT.kind_mk, PatT.text_mk, PatT.n_mk, PatT.name_mk, PatT.kids_mk] at c0 c1 c2 c3 c4
  have I0 := Lib.hid I00; have HW0 := Lib.hid hw0
  clear I00 hw0 hkk hsf hn
  go_enter Tryd.func17, Tryd.ntmps17
  go_upto_region 2 with fail
  rw [← HW0.out]
  go_wp2_with fail
  refine (texts_any 21 _).mono ?_
  rintro e w1 ⟨rfl, k_⟩
  have I1 := Lib.hid (I0.out.next k_)
  rw [dT]
  clear k_ c0 c1 c2 c3 c4
  obtain ⟨c0, c1, c2, c3, c4, _⟩ := I1.out.five.cells
  dsimp only [PatT.kind_mk, PatT.text_mk, PatT.n_mk, PatT.name_mk, PatT.kids_mk] at c0 c1 c2 c3 c4
  go_wp2_with fail
  refine (numbers_any 21 _).mono ?_
  rintro e w2 ⟨rfl, k_⟩
  have I2 := Lib.hid (I1.out.next k_)
  rw [dN]
  clear k_ c0 c1 c2 c3 c4
  obtain ⟨c0, c1, c2, c3, c4, _⟩ := I2.out.five.cells
  dsimp only [PatT.kind_mk, PatT.text_mk, PatT.n_mk, PatT.name_mk, PatT.kids_mk] at c0 c1 c2 c3 c4
  obtain ⟨kb, ko, kc, kcap, hka, q0, q1, q2, q3, q4, hV⟩ := I2.out.kid 0 hl0
  subst hka
  simp only [PatT.kids_mk, hqq, Nat.zero_mul, Nat.add_zero] at q0 q1 q2 q3 q4 hV
  have HV := Lib.hid hV
  clear hV hqq
  have D2 := I2.out.safe.mono (Kept.refl Nix w2).drew.size
  have hC : Hid (Calls Tryd.prog 17 #[.agg #[.int .i64 q.kind, .string q.text, .int .i64 q.n, .string q.name, .slice kc q.kids.length kcap], .int .i64 0] w2.drew (StrQ (showF q 0) w2.drew)) := hcall.out _ _ (by
    obtain ⟨x1, x2, x3, x4, x5⟩ := HV.out
    exact ⟨x1, x2, x3, x4, x5.kept (Kept.refl Nix w2).drew I2.out.safe⟩) D2
  clear D2
  go_wp2_with fail
  go_region_with ((go_at_call 17; (with_reducible refine (Calls.mono hC.out ?_)); (rintro e w3 ⟨rfl, K3⟩); (have I3 := Lib.hid (I2.out.next ((Kept.refl Nix w2).drew.trans K3))); (obtain ⟨d0, d1, d2, d3, d4, _⟩ := I3.out.five.cells); (dsimp only [PatT.kind_mk, PatT.text_mk, PatT.n_mk, PatT.name_mk, PatT.kids_mk] at d0 d1 d2 d3 d4)))
  all_goals
    go_wp2_with fail
    go_ret
    exact ⟨str_ret fin.out, I3.out.base⟩

set_option maxRecDepth 100000 in
set_option maxHeartbeats 4000000 in
theorem show_imm (i : Nat) (t : ByteArray) (n : Int) (nm : ByteArray) (kids : List PatT) (ka : Option Addr) (cap : Nat) (S : Nat → Prop) (w : World) (hkk : PatsAt w S ka kids) (hsf : Safe S Nix w.heap.size) (hn : nodeF (.mk 22 t n nm kids) = 0) (hl : (showF (.mk 22 t n nm kids) i).length ≤ big) (hih : ShIH S kids) :
    ShOk (.mk 22 t n nm kids) i (.agg #[.int .i64 22, .string t, .int .i64 n, .string nm, .slice ka kids.length cap]) w := by
  obtain ⟨hk24, ht, hnn, hnm, h1⟩ := node_facts hn
  unfold ShOk
  unfold big at hl
  have h1' := h1 (by omega)
  have hl0 : 0 < kids.length := by omega
  obtain ⟨q, hqq⟩ : ∃ q, kids[0]'hl0 = q := ⟨_, rfl⟩
  have hs : showF (.mk 22 t n nm kids) i = showF q 0 ++ (32 :: 36 :: 32 :: nm.data.toList) := by
    have e : headF kids 0 = showF q 0 := by
      match kids, hl0, hqq with
      | p :: r, _, h => simp at h; rw [headF, h]
    rw [showF, ← e]; rfl
  rw [hs] at hl ⊢
  have hnm1 := hnm (by decide)
  have enm : nm.data.toList.length = nm.size := rfl
  simp only [List.length_append, List.length_cons, List.length_nil] at hl
  have fin : Hid ((⟨(showF q 0).toArray⟩ : ByteArray) ++ ⟨#[32, 36, 32]⟩ ++ nm = ⟨(showF q 0 ++ (32 :: 36 :: 32 :: nm.data.toList)).toArray⟩) := by
    unfold Hid; show (⟨(showF q 0).toArray⟩ : ByteArray) ++ ⟨[32, 36, 32].toArray⟩ ++ ⟨nm.data.toList.toArray⟩ = _; rw [app_str, app_str]; simp
  have hq2 : (showF q 0).length ≤ big := by unfold big; omega
  have HIH := Lib.hid hih
  have hcall : Hid (∀ (v : Value) (w : World), PatV w S v q → Safe S Nix w.heap.size → ShOk q 0 v w) := fun v w hv hs => by
    have := HIH.out 0 hl0 v 0 w
    rw [hqq] at this
    exact this hv hs (by omega) hq2
  clear ht hnn hnm hs h1 h1' hih
  have dT : decide (isTextK 22) = false := by decide
  have dN : decide (isNumK 22) = false := by decide
  have I00 := ShI.start (p := .mk 22 t n nm kids) (cap := cap) hkk hsf
  dsimp only [PatT.kind_mk, PatT.text_mk, PatT.n_mk, PatT.name_mk, PatT.kids_mk] at I00
  obtain ⟨w0, hw0⟩ : ∃ w0, w0 = (w.alloc (.cells #[.int .i64 22, .string t, .int .i64 n, .string nm, .slice ka kids.length cap] 24)) := ⟨_, rfl⟩
  rw [← hw0] at I00
  obtain ⟨c0, c1, c2, c3, c4, _⟩ := I00.five.cells
  dsimp only [PatT.kind_mk, PatT.text_mk, PatT.n_mk, PatT.name_mk, PatT.kids_mk] at c0 c1 c2 c3 c4
  have I0 := Lib.hid I00; have HW0 := Lib.hid hw0
  clear I00 hw0 hkk hsf hn
  go_enter Tryd.func17, Tryd.ntmps17
  go_upto_region 2 with fail
  rw [← HW0.out]
  go_wp2_with fail
  refine (texts_any 22 _).mono ?_
  rintro e w1 ⟨rfl, k_⟩
  have I1 := Lib.hid (I0.out.next k_)
  rw [dT]
  clear k_ c0 c1 c2 c3 c4
  obtain ⟨c0, c1, c2, c3, c4, _⟩ := I1.out.five.cells
  dsimp only [PatT.kind_mk, PatT.text_mk, PatT.n_mk, PatT.name_mk, PatT.kids_mk] at c0 c1 c2 c3 c4
  go_wp2_with fail
  refine (numbers_any 22 _).mono ?_
  rintro e w2 ⟨rfl, k_⟩
  have I2 := Lib.hid (I1.out.next k_)
  rw [dN]
  clear k_ c0 c1 c2 c3 c4
  obtain ⟨c0, c1, c2, c3, c4, _⟩ := I2.out.five.cells
  dsimp only [PatT.kind_mk, PatT.text_mk, PatT.n_mk, PatT.name_mk, PatT.kids_mk] at c0 c1 c2 c3 c4
  obtain ⟨kb, ko, kc, kcap, hka, q0, q1, q2, q3, q4, hV⟩ := I2.out.kid 0 hl0
  subst hka
  simp only [PatT.kids_mk, hqq, Nat.zero_mul, Nat.add_zero] at q0 q1 q2 q3 q4 hV
  have HV := Lib.hid hV
  clear hV hqq
  have D2 := I2.out.safe.mono (Kept.refl Nix w2).drew.size
  have hC : Hid (Calls Tryd.prog 17 #[.agg #[.int .i64 q.kind, .string q.text, .int .i64 q.n, .string q.name, .slice kc q.kids.length kcap], .int .i64 0] w2.drew (StrQ (showF q 0) w2.drew)) := hcall.out _ _ (by
    obtain ⟨x1, x2, x3, x4, x5⟩ := HV.out
    exact ⟨x1, x2, x3, x4, x5.kept (Kept.refl Nix w2).drew I2.out.safe⟩) D2
  clear D2
  go_wp2_with fail
  go_region_with ((go_at_call 17; (with_reducible refine (Calls.mono hC.out ?_)); (rintro e w3 ⟨rfl, K3⟩); (have I3 := Lib.hid (I2.out.next ((Kept.refl Nix w2).drew.trans K3))); (obtain ⟨d0, d1, d2, d3, d4, _⟩ := I3.out.five.cells); (dsimp only [PatT.kind_mk, PatT.text_mk, PatT.n_mk, PatT.name_mk, PatT.kids_mk] at d0 d1 d2 d3 d4)))
  all_goals
    go_wp2_with fail
    go_ret
    exact ⟨str_ret fin.out, I3.out.base⟩
end Go.Proofs.YtdnglicgmlldlaaDoor
