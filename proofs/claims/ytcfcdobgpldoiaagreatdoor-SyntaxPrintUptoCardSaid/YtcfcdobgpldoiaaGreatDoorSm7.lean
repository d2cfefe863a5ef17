/- The document's Show: kinds with a name, or a word alone. The document's Show: kinds with one kid. The document's Show: pieces and alternatives. The document's Show: alternatives. The document's Show of any right pattern, and its Print. -/
import Derived.Test.YtcfcdobgpldoiaaGreatDoorShow2
import Derived.Test.YtcfcdobgpldoiaaGreatDoorSm8
import Derived.Test.YtcfcdobgpldoiaaGreatDoorPrint
import Derived.Test.YtcfcdobgpldoiaaGreatDoorSm2
namespace Go.Proofs.YtcfcdobgpldoiaaGreatDoor
set_option linter.all false
open Go.RowKit

set_option maxRecDepth 100000 in
set_option maxHeartbeats 4000000 in
theorem show_name (i : Nat) (k : Int) (t : ByteArray) (n : Int) (nm : ByteArray) (kids : List PatT) (ka : Option Addr) (cap : Nat) (S : Nat → Prop) (w : World) (hkk : PatsAt w S ka kids) (hsf : Safe S Nix w.heap.size) (hn : nodeF (.mk k t n nm kids) = 0) (hl : (showF (.mk k t n nm kids) i).length ≤ big) (hk : k = 23 ∨ k = 24) :
    ShOk (.mk k t n nm kids) i (.agg #[.int .i64 k, .string t, .int .i64 n, .string nm, .slice ka kids.length cap]) w := by
  obtain ⟨hk24, ht, hnn, hnm, _⟩ := node_facts hn
  unfold ShOk
  unfold big at hl
  rcases hk with rfl | rfl
  · have hs : showF (.mk 23 t n nm kids) i = 64 :: nm.data.toList := by rw [showF]; rfl
    rw [hs] at hl ⊢
    have hnm1 := hnm (by decide)
    have fin : Hid ((⟨#[64]⟩ : ByteArray) ++ nm = ⟨(64 :: nm.data.toList).toArray⟩) := by
      unfold Hid; show (⟨[64].toArray⟩ : ByteArray) ++ ⟨nm.data.toList.toArray⟩ = _; rw [app_str]; rfl
    clear ht hnn hnm hs
    have dT : decide (isTextK 23) = false := by decide
    have dN : decide (isNumK 23) = false := by decide
    have I00 := ShI.start (p := .mk 23 t n nm kids) (cap := cap) hkk hsf
    dsimp only [PatT.kind_mk, PatT.text_mk, PatT.n_mk, PatT.name_mk, PatT.kids_mk] at I00
    obtain ⟨w0, hw0⟩ : ∃ w0, w0 = (w.alloc (.cells #[.int .i64 23, .string t, .int .i64 n, .string nm, .slice ka kids.length cap] 30)) := ⟨_, rfl⟩
    rw [← hw0] at I00
    obtain ⟨c0, c1, c2, c3, c4, _⟩ := I00.five.cells
    dsimp only [PatT.kind_mk, PatT.text_mk, PatT.n_mk, PatT.name_mk, PatT.kids_mk] at c0 c1 c2 c3 c4
    have I0 := Lib.hid I00; have HW0 := Lib.hid hw0
    clear I00 hw0 hkk hsf hn
    go_enter Tryz.func46, Tryz.ntmps46
    go_upto_region 2 with fail
    rw [← HW0.out]
    go_wp2_with fail
    refine (texts_any 23 _).mono ?_
    rintro e w1 ⟨rfl, k_⟩
    have I1 := Lib.hid (I0.out.next k_)
    rw [dT]
    clear k_ c0 c1 c2 c3 c4
    obtain ⟨c0, c1, c2, c3, c4, _⟩ := I1.out.five.cells
    dsimp only [PatT.kind_mk, PatT.text_mk, PatT.n_mk, PatT.name_mk, PatT.kids_mk] at c0 c1 c2 c3 c4
    go_wp2_with fail
    refine (numbers_any 23 _).mono ?_
    rintro e w2 ⟨rfl, k_⟩
    have I2 := Lib.hid (I1.out.next k_)
    rw [dN]
    clear k_ c0 c1 c2 c3 c4
    obtain ⟨c0, c1, c2, c3, c4, _⟩ := I2.out.five.cells
    dsimp only [PatT.kind_mk, PatT.text_mk, PatT.n_mk, PatT.name_mk, PatT.kids_mk] at c0 c1 c2 c3 c4
    go_wp2_with fail
    go_ret
    exact ⟨str_ret fin.out, I2.out.base⟩
  · have hs : showF (.mk 24 t n nm kids) i = 42 :: nm.data.toList := by rw [showF]; rfl
    rw [hs] at hl ⊢
    have hnm1 := hnm (by decide)
    have fin : Hid ((⟨#[42]⟩ : ByteArray) ++ nm = ⟨(42 :: nm.data.toList).toArray⟩) := by
      unfold Hid; show (⟨[42].toArray⟩ : ByteArray) ++ ⟨nm.data.toList.toArray⟩ = _; rw [app_str]; rfl
    clear ht hnn hnm hs
    have dT : decide (isTextK 24) = false := by decide
    have dN : decide (isNumK 24) = false := by decide
    have I00 := ShI.start (p := .mk 24 t n nm kids) (cap := cap) hkk hsf
    dsimp only [PatT.kind_mk, PatT.text_mk, PatT.n_mk, PatT.name_mk, PatT.kids_mk] at I00
    obtain ⟨w0, hw0⟩ : ∃ w0, w0 = (w.alloc (.cells #[.int .i64 24, .string t, .int .i64 n, .string nm, .slice ka kids.length cap] 30)) := ⟨_, rfl⟩
    rw [← hw0] at I00
    obtain ⟨c0, c1, c2, c3, c4, _⟩ := I00.five.cells
    dsimp only [PatT.kind_mk, PatT.text_mk, PatT.n_mk, PatT.name_mk, PatT.kids_mk] at c0 c1 c2 c3 c4
    have I0 := Lib.hid I00; have HW0 := Lib.hid hw0
    clear I00 hw0 hkk hsf hn
    go_enter Tryz.func46, Tryz.ntmps46
    go_upto_region 2 with fail
    rw [← HW0.out]
    go_wp2_with fail
    refine (texts_any 24 _).mono ?_
    rintro e w1 ⟨rfl, k_⟩
    have I1 := Lib.hid (I0.out.next k_)
    rw [dT]
    clear k_ c0 c1 c2 c3 c4
    obtain ⟨c0, c1, c2, c3, c4, _⟩ := I1.out.five.cells
    dsimp only [PatT.kind_mk, PatT.text_mk, PatT.n_mk, PatT.name_mk, PatT.kids_mk] at c0 c1 c2 c3 c4
    go_wp2_with fail
    refine (numbers_any 24 _).mono ?_
    rintro e w2 ⟨rfl, k_⟩
    have I2 := Lib.hid (I1.out.next k_)
    rw [dN]
    clear k_ c0 c1 c2 c3 c4
    obtain ⟨c0, c1, c2, c3, c4, _⟩ := I2.out.five.cells
    dsimp only [PatT.kind_mk, PatT.text_mk, PatT.n_mk, PatT.name_mk, PatT.kids_mk] at c0 c1 c2 c3 c4
    go_wp2_with fail
    go_ret
    exact ⟨str_ret fin.out, I2.out.base⟩

set_option maxRecDepth 100000 in
set_option maxHeartbeats 4000000 in
theorem show_word (i : Nat) (k : Int) (t : ByteArray) (n : Int) (nm : ByteArray) (kids : List PatT) (ka : Option Addr) (cap : Nat) (S : Nat → Prop) (w : World) (hkk : PatsAt w S ka kids) (hsf : Safe S Nix w.heap.size) (hn : nodeF (.mk k t n nm kids) = 0) (hl : (showF (.mk k t n nm kids) i).length ≤ big) (hk : k = 12 ∨ k = 13 ∨ k = 14 ∨ k = 15 ∨ k = 16 ∨ k = 17) :
    ShOk (.mk k t n nm kids) i (.agg #[.int .i64 k, .string t, .int .i64 n, .string nm, .slice ka kids.length cap]) w := by
  obtain ⟨hk24, ht, hnn, hnm, _⟩ := node_facts hn
  unfold ShOk
  unfold big at hl
  rcases hk with rfl | rfl | rfl | rfl | rfl | rfl
  · have hs : showF (.mk 12 t n nm kids) i = wordL 12 := by rw [showF]; rfl
    rw [hs] at hl ⊢
    clear ht hnn hnm hs
    have dT : decide (isTextK 12) = false := by decide
    have dN : decide (isNumK 12) = false := by decide
    have I00 := ShI.start (p := .mk 12 t n nm kids) (cap := cap) hkk hsf
    dsimp only [PatT.kind_mk, PatT.text_mk, PatT.n_mk, PatT.name_mk, PatT.kids_mk] at I00
    obtain ⟨w0, hw0⟩ : ∃ w0, w0 = (w.alloc (.cells #[.int .i64 12, .string t, .int .i64 n, .string nm, .slice ka kids.length cap] 30)) := ⟨_, rfl⟩
    rw [← hw0] at I00
    obtain ⟨c0, c1, c2, c3, c4, _⟩ := I00.five.cells
    dsimp only [PatT.kind_mk, PatT.text_mk, PatT.n_mk, PatT.name_mk, PatT.kids_mk] at c0 c1 c2 c3 c4
    have I0 := Lib.hid I00; have HW0 := Lib.hid hw0
    clear I00 hw0 hkk hsf hn
    go_enter Tryz.func46, Tryz.ntmps46
    go_upto_region 2 with fail
    rw [← HW0.out]
    go_wp2_with fail
    refine (texts_any 12 _).mono ?_
    rintro e w1 ⟨rfl, k_⟩
    have I1 := Lib.hid (I0.out.next k_)
    rw [dT]
    clear k_ c0 c1 c2 c3 c4
    obtain ⟨c0, c1, c2, c3, c4, _⟩ := I1.out.five.cells
    dsimp only [PatT.kind_mk, PatT.text_mk, PatT.n_mk, PatT.name_mk, PatT.kids_mk] at c0 c1 c2 c3 c4
    go_wp2_with fail
    refine (numbers_any 12 _).mono ?_
    rintro e w2 ⟨rfl, k_⟩
    have I2 := Lib.hid (I1.out.next k_)
    rw [dN]
    clear k_ c0 c1 c2 c3 c4
    obtain ⟨c0, c1, c2, c3, c4, _⟩ := I2.out.five.cells
    dsimp only [PatT.kind_mk, PatT.text_mk, PatT.n_mk, PatT.name_mk, PatT.kids_mk] at c0 c1 c2 c3 c4
    go_wp2_with fail
    refine (sword_any 12 (by decide) _).mono ?_
    rintro e w3 ⟨rfl, K3⟩
    have I3 := Lib.hid (I2.out.next K3)
    go_wp2_with fail
    go_ret
    exact ⟨rfl, I3.out.base⟩
  · have hs : showF (.mk 13 t n nm kids) i = wordL 13 := by rw [showF]; rfl
    rw [hs] at hl ⊢
    clear ht hnn hnm hs
    have dT : decide (isTextK 13) = false := by decide
    have dN : decide (isNumK 13) = false := by decide
    have I00 := ShI.start (p := .mk 13 t n nm kids) (cap := cap) hkk hsf
    dsimp only [PatT.kind_mk, PatT.text_mk, PatT.n_mk, PatT.name_mk, PatT.kids_mk] at I00
    obtain ⟨w0, hw0⟩ : ∃ w0, w0 = (w.alloc (.cells #[.int .i64 13, .string t, .int .i64 n, .string nm, .slice ka kids.length cap] 30)) := ⟨_, rfl⟩
    rw [← hw0] at I00
    obtain ⟨c0, c1, c2, c3, c4, _⟩ := I00.five.cells
    dsimp only [PatT.kind_mk, PatT.text_mk, PatT.n_mk, PatT.name_mk, PatT.kids_mk] at c0 c1 c2 c3 c4
    have I0 := Lib.hid I00; have HW0 := Lib.hid hw0
    clear I00 hw0 hkk hsf hn
    go_enter Tryz.func46, Tryz.ntmps46
    go_upto_region 2 with fail
    rw [← HW0.out]
    go_wp2_with fail
    refine (texts_any 13 _).mono ?_
    rintro e w1 ⟨rfl, k_⟩
    have I1 := Lib.hid (I0.out.next k_)
    rw [dT]
    clear k_ c0 c1 c2 c3 c4
    obtain ⟨c0, c1, c2, c3, c4, _⟩ := I1.out.five.cells
    dsimp only [PatT.kind_mk, PatT.text_mk, PatT.n_mk, PatT.name_mk, PatT.kids_mk] at c0 c1 c2 c3 c4
    go_wp2_with fail
    refine (numbers_any 13 _).mono ?_
    rintro e w2 ⟨rfl, k_⟩
    have I2 := Lib.hid (I1.out.next k_)
    rw [dN]
    clear k_ c0 c1 c2 c3 c4
    obtain ⟨c0, c1, c2, c3, c4, _⟩ := I2.out.five.cells
    dsimp only [PatT.kind_mk, PatT.text_mk, PatT.n_mk, PatT.name_mk, PatT.kids_mk] at c0 c1 c2 c3 c4
    go_wp2_with fail
    refine (sword_any 13 (by decide) _).mono ?_
    rintro e w3 ⟨rfl, K3⟩
    have I3 := Lib.hid (I2.out.next K3)
    go_wp2_with fail
    go_ret
    exact ⟨rfl, I3.out.base⟩
  · have hs : showF (.mk 14 t n nm kids) i = wordL 14 := by rw [showF]; rfl
    rw [hs] at hl ⊢
    clear ht hnn hnm hs
    have dT : decide (isTextK 14) = false := by decide
    have dN : decide (isNumK 14) = false := by decide
    have I00 := ShI.start (p := .mk 14 t n nm kids) (cap := cap) hkk hsf
    dsimp only [PatT.kind_mk, PatT.text_mk, PatT.n_mk, PatT.name_mk, PatT.kids_mk] at I00
    obtain ⟨w0, hw0⟩ : ∃ w0, w0 = (w.alloc (.cells #[.int .i64 14, .string t, .int .i64 n, .string nm, .slice ka kids.length cap] 30)) := ⟨_, rfl⟩
    rw [← hw0] at I00
    obtain ⟨c0, c1, c2, c3, c4, _⟩ := I00.five.cells
    dsimp only [PatT.kind_mk, PatT.text_mk, PatT.n_mk, PatT.name_mk, PatT.kids_mk] at c0 c1 c2 c3 c4
    have I0 := Lib.hid I00; have HW0 := Lib.hid hw0
    clear I00 hw0 hkk hsf hn
    go_enter Tryz.func46, Tryz.ntmps46
    go_upto_region 2 with fail
    rw [← HW0.out]
    go_wp2_with fail
    refine (texts_any 14 _).mono ?_
    rintro e w1 ⟨rfl, k_⟩
    have I1 := Lib.hid (I0.out.next k_)
    rw [dT]
    clear k_ c0 c1 c2 c3 c4
    obtain ⟨c0, c1, c2, c3, c4, _⟩ := I1.out.five.cells
    dsimp only [PatT.kind_mk, PatT.text_mk, PatT.n_mk, PatT.name_mk, PatT.kids_mk] at c0 c1 c2 c3 c4
    go_wp2_with fail
    refine (numbers_any 14 _).mono ?_
    rintro e w2 ⟨rfl, k_⟩
    have I2 := Lib.hid (I1.out.next k_)
    rw [dN]
    clear k_ c0 c1 c2 c3 c4
    obtain ⟨c0, c1, c2, c3, c4, _⟩ := I2.out.five.cells
    dsimp only [PatT.kind_mk, PatT.text_mk, PatT.n_mk, PatT.name_mk, PatT.kids_mk] at c0 c1 c2 c3 c4
    go_wp2_with fail
    refine (sword_any 14 (by decide) _).mono ?_
    rintro e w3 ⟨rfl, K3⟩
    have I3 := Lib.hid (I2.out.next K3)
    go_wp2_with fail
    go_ret
    exact ⟨rfl, I3.out.base⟩
  · have hs : showF (.mk 15 t n nm kids) i = wordL 15 := by rw [showF]; rfl
    rw [hs] at hl ⊢
    clear ht hnn hnm hs
    have dT : decide (isTextK 15) = false := by decide
    have dN : decide (isNumK 15) = false := by decide
    have I00 := ShI.start (p := .mk 15 t n nm kids) (cap := cap) hkk hsf
    dsimp only [PatT.kind_mk, PatT.text_mk, PatT.n_mk, PatT.name_mk, PatT.kids_mk] at I00
    obtain ⟨w0, hw0⟩ : ∃ w0, w0 = (w.alloc (.cells #[.int .i64 15, .string t, .int .i64 n, .string nm, .slice ka kids.length cap] 30)) := ⟨_, rfl⟩
    rw [← hw0] at I00
    obtain ⟨c0, c1, c2, c3, c4, _⟩ := I00.five.cells
    dsimp only [PatT.kind_mk, PatT.text_mk, PatT.n_mk, PatT.name_mk, PatT.kids_mk] at c0 c1 c2 c3 c4
    have I0 := Lib.hid I00; have HW0 := Lib.hid hw0
    clear I00 hw0 hkk hsf hn
    go_enter Tryz.func46, Tryz.ntmps46
    go_upto_region 2 with fail
    rw [← HW0.out]
    go_wp2_with fail
    refine (texts_any 15 _).mono ?_
    rintro e w1 ⟨rfl, k_⟩
    have I1 := Lib.hid (I0.out.next k_)
    rw [dT]
    clear k_ c0 c1 c2 c3 c4
    obtain ⟨c0, c1, c2, c3, c4, _⟩ := I1.out.five.cells
    dsimp only [PatT.kind_mk, PatT.text_mk, PatT.n_mk, PatT.name_mk, PatT.kids_mk] at c0 c1 c2 c3 c4
    go_wp2_with fail
    refine (numbers_any 15 _).mono ?_
    rintro e w2 ⟨rfl, k_⟩
    have I2 := Lib.hid (I1.out.next k_)
    rw [dN]
    clear k_ c0 c1 c2 c3 c4
    obtain ⟨c0, c1, c2, c3, c4, _⟩ := I2.out.five.cells
    dsimp only [PatT.kind_mk, PatT.text_mk, PatT.n_mk, PatT.name_mk, PatT.kids_mk] at c0 c1 c2 c3 c4
    go_wp2_with fail
    refine (sword_any 15 (by decide) _).mono ?_
    rintro e w3 ⟨rfl, K3⟩
    have I3 := Lib.hid (I2.out.next K3)
    go_wp2_with fail
    go_ret
    exact ⟨rfl, I3.out.base⟩
  · have hs : showF (.mk 16 t n nm kids) i = wordL 16 := by rw [showF]; rfl
    rw [hs] at hl ⊢
    clear ht hnn hnm hs
    have dT : decide (isTextK 16) = false := by decide
    have dN : decide (isNumK 16) = false := by decide
    have I00 := ShI.start (p := .mk 16 t n nm kids) (cap := cap) hkk hsf
    dsimp only [PatT.kind_mk, PatT.text_mk, PatT.n_mk, PatT.name_mk, PatT.kids_mk] at I00
    obtain ⟨w0, hw0⟩ : ∃ w0, w0 = (w.alloc (.cells #[.int .i64 16, .string t, .int .i64 n, .string nm, .slice ka kids.length cap] 30)) := ⟨_, rfl⟩
    rw [← hw0] at I00
    obtain ⟨c0, c1, c2, c3, c4, _⟩ := I00.five.cells
    dsimp only [PatT.kind_mk, PatT.text_mk, PatT.n_mk, PatT.name_mk, PatT.kids_mk] at c0 c1 c2 c3 c4
    have I0 := Lib.hid I00; have HW0 := Lib.hid hw0
    clear I00 hw0 hkk hsf hn
    go_enter Tryz.func46, Tryz.ntmps46
    go_upto_region 2 with fail
    rw [← HW0.out]
    go_wp2_with fail
    refine (texts_any 16 _).mono ?_
    rintro e w1 ⟨rfl, k_⟩
    have I1 := Lib.hid (I0.out.next k_)
    rw [dT]
    clear k_ c0 c1 c2 c3 c4
    obtain ⟨c0, c1, c2, c3, c4, _⟩ := I1.out.five.cells
    dsimp only [PatT.kind_mk, PatT.text_mk, PatT.n_mk, PatT.name_mk, PatT.kids_mk] at c0 c1 c2 c3 c4
    go_wp2_with fail
    refine (numbers_any 16 _).mono ?_
    rintro e w2 ⟨rfl, k_⟩
    have I2 := Lib.hid (I1.out.next k_)
    rw [dN]
    clear k_ c0 c1 c2 c3 c4
    obtain ⟨c0, c1, c2, c3, c4, _⟩ := I2.out.five.cells
    dsimp only [PatT.kind_mk, PatT.text_mk, PatT.n_mk, PatT.name_mk, PatT.kids_mk] at c0 c1 c2 c3 c4
    go_wp2_with fail
    refine (sword_any 16 (by decide) _).mono ?_
    rintro e w3 ⟨rfl, K3⟩
    have I3 := Lib.hid (I2.out.next K3)
    go_wp2_with fail
    go_ret
    exact ⟨rfl, I3.out.base⟩
  · have hs : showF (.mk 17 t n nm kids) i = wordL 17 := by rw [showF]; rfl
    rw [hs] at hl ⊢
    clear ht hnn hnm hs
    have dT : decide (isTextK 17) = false := by decide
    have dN : decide (isNumK 17) = false := by decide
    have I00 := ShI.start (p := .mk 17 t n nm kids) (cap := cap) hkk hsf
    dsimp only [PatT.kind_mk, PatT.text_mk, PatT.n_mk, PatT.name_mk, PatT.kids_mk] at I00
    obtain ⟨w0, hw0⟩ : ∃ w0, w0 = (w.alloc (.cells #[.int .i64 17, .string t, .int .i64 n, .string nm, .slice ka kids.length cap] 30)) := ⟨_, rfl⟩
    rw [← hw0] at I00
    obtain ⟨c0, c1, c2, c3, c4, _⟩ := I00.five.cells
    dsimp only [PatT.kind_mk, PatT.text_mk, PatT.n_mk, PatT.name_mk, PatT.kids_mk] at c0 c1 c2 c3 c4
    have I0 := Lib.hid I00; have HW0 := Lib.hid hw0
    clear I00 hw0 hkk hsf hn
    go_enter Tryz.func46, Tryz.ntmps46
    go_upto_region 2 with fail
    rw [← HW0.out]
    go_wp2_with fail
    refine (texts_any 17 _).mono ?_
    rintro e w1 ⟨rfl, k_⟩
    have I1 := Lib.hid (I0.out.next k_)
    rw [dT]
    clear k_ c0 c1 c2 c3 c4
    obtain ⟨c0, c1, c2, c3, c4, _⟩ := I1.out.five.cells
    dsimp only [PatT.kind_mk, PatT.text_mk, PatT.n_mk, PatT.name_mk, PatT.kids_mk] at c0 c1 c2 c3 c4
    go_wp2_with fail
    refine (numbers_any 17 _).mono ?_
    rintro e w2 ⟨rfl, k_⟩
    have I2 := Lib.hid (I1.out.next k_)
    rw [dN]
    clear k_ c0 c1 c2 c3 c4
    obtain ⟨c0, c1, c2, c3, c4, _⟩ := I2.out.five.cells
    dsimp only [PatT.kind_mk, PatT.text_mk, PatT.n_mk, PatT.name_mk, PatT.kids_mk] at c0 c1 c2 c3 c4
    go_wp2_with fail
    refine (sword_any 17 (by decide) _).mono ?_
    rintro e w3 ⟨rfl, K3⟩
    have I3 := Lib.hid (I2.out.next K3)
    go_wp2_with fail
    go_ret
    exact ⟨rfl, I3.out.base⟩
end Go.Proofs.YtcfcdobgpldoiaaGreatDoor

namespace Go.Proofs.YtcfcdobgpldoiaaGreatDoor
set_option linter.all false
open Go.RowKit
def ShIH (S : Nat → Prop) (kids : List PatT) : Prop :=
  ∀ (j : Nat) (hj : j < kids.length) (v : Value) (i : Nat) (w : World), PatV w S v kids[j] → Safe S Nix w.heap.size → i ≤ 2 → (showF kids[j] i).length ≤ big → ShOk kids[j] i v w

set_option maxRecDepth 100000 in
set_option maxHeartbeats 4000000 in
theorem show_arbno (i : Nat) (t : ByteArray) (n : Int) (nm : ByteArray) (kids : List PatT) (ka : Option Addr) (cap : Nat) (S : Nat → Prop) (w : World) (hkk : PatsAt w S ka kids) (hsf : Safe S Nix w.heap.size) (hn : nodeF (.mk 20 t n nm kids) = 0) (hl : (showF (.mk 20 t n nm kids) i).length ≤ big) (hih : ShIH S kids) :
    ShOk (.mk 20 t n nm kids) i (.agg #[.int .i64 20, .string t, .int .i64 n, .string nm, .slice ka kids.length cap]) w := by
  obtain ⟨hk24, ht, hnn, hnm, h1⟩ := node_facts hn
  unfold ShOk
  unfold big at hl
  have h1' := h1 (by omega)
  have hl0 : 0 < kids.length := by omega
  obtain ⟨q, hqq⟩ : ∃ q, kids[0]'hl0 = q := ⟨_, rfl⟩
  have hs : showF (.mk 20 t n nm kids) i = arbnoL ++ (showF q 2 ++ [41]) := by
    have e : headF kids 2 = showF q 2 := by
      match kids, hl0, hqq with
      | p :: r, _, h => simp at h; rw [headF, h]
    rw [showF, ← e]; rfl
  rw [hs] at hl ⊢
  have ea : arbnoL.length = 6 := rfl
  simp only [List.length_append, List.length_cons, List.length_nil] at hl
  have fin : Hid ((⟨#[65, 82, 66, 78, 79, 40]⟩ : ByteArray) ++ ⟨(showF q 2).toArray⟩ ++ ⟨#[41]⟩ = ⟨(arbnoL ++ (showF q 2 ++ [41])).toArray⟩) := by
    unfold Hid; rw [show (⟨#[65, 82, 66, 78, 79, 40]⟩ : ByteArray) = ⟨arbnoL.toArray⟩ from rfl, show (⟨#[41]⟩ : ByteArray) = ⟨[41].toArray⟩ from rfl, app_str, app_str]; simp
  have hq2 : (showF q 2).length ≤ big := by unfold big; omega
  have HIH := Lib.hid hih
  have hcall : Hid (∀ (v : Value) (w : World), PatV w S v q → Safe S Nix w.heap.size → ShOk q 2 v w) := fun v w hv hs => by
    have := HIH.out 0 hl0 v 2 w
    rw [hqq] at this
    exact this hv hs (by omega) hq2
  clear ht hnn hnm hs h1 h1' hih
  have dT : decide (isTextK 20) = false := by decide
  have dN : decide (isNumK 20) = false := by decide
  have I00 := ShI.start (p := .mk 20 t n nm kids) (cap := cap) hkk hsf
  dsimp only [PatT.kind_mk, PatT.text_mk, PatT.n_mk, PatT.name_mk, PatT.kids_mk] at I00
  obtain ⟨w0, hw0⟩ : ∃ w0, w0 = (w.alloc (.cells #[.int .i64 20, .string t, .int .i64 n, .string nm, .slice ka kids.length cap] 30)) := ⟨_, rfl⟩
  rw [← hw0] at I00
  obtain ⟨c0, c1, c2, c3, c4, _⟩ := I00.five.cells
  dsimp only [PatT.kind_mk, PatT.text_mk, PatT.n_mk, PatT.name_mk, PatT.kids_mk] at c0 c1 c2 c3 c4
  have I0 := Lib.hid I00; have HW0 := Lib.hid hw0
  clear I00 hw0 hkk hsf hn
  go_enter Tryz.func46, Tryz.ntmps46
  go_upto_region 2 with fail
  rw [← HW0.out]
  go_wp2_with fail
  refine (texts_any 20 _).mono ?_
  rintro e w1 ⟨rfl, k_⟩
  have I1 := Lib.hid (I0.out.next k_)
  rw [dT]
  clear k_ c0 c1 c2 c3 c4
  obtain ⟨c0, c1, c2, c3, c4, _⟩ := I1.out.five.cells
  dsimp only [PatT.kind_mk, PatT.text_mk, PatT.n_mk, PatT.name_mk, PatT.kids_mk] at c0 c1 c2 c3 c4
  go_wp2_with fail
  refine (numbers_any 20 _).mono ?_
  rintro e w2 ⟨rfl, k_⟩
  have I2 := Lib.hid (I1.out.next k_)
  rw [dN]
  clear k_ c0 c1 c2 c3 c4
  obtain ⟨c0, c1, c2, c3, c4, _⟩ := I2.out.five.cells
  dsimp only [PatT.kind_mk, PatT.text_mk, PatT.n_mk, PatT.name_mk, PatT.kids_mk] at c0 c1 c2 c3 c4
  obtain ⟨kb, ko, kc, kcap, hka, q0, q1, q2, q3, q4, hV⟩ := I2.out.kid 0 hl0
  subst hka
  simp only [PatT.kids_mk, hqq, Nat.zero_mul, Nat.add_zero] at q0 q1 q2 q3 q4 hV
  have HV := Lib.hid hV
  clear hV hqq
  go_wp2_with fail
  refine Calls.mono (hcall.out _ _ HV.out I2.out.safe) ?_
  rintro e w3 ⟨rfl, K3⟩
  have I3 := Lib.hid (I2.out.next K3)
  go_wp2_with fail
  go_ret
  exact ⟨str_ret fin.out, I3.out.base⟩

set_option maxRecDepth 100000 in
set_option maxHeartbeats 4000000 in
theorem show_cond (i : Nat) (t : ByteArray) (n : Int) (nm : ByteArray) (kids : List PatT) (ka : Option Addr) (cap : Nat) (S : Nat → Prop) (w : World) (hkk : PatsAt w S ka kids) (hsf : Safe S Nix w.heap.size) (hn : nodeF (.mk 21 t n nm kids) = 0) (hl : (showF (.mk 21 t n nm kids) i).length ≤ big) (hih : ShIH S kids) :
    ShOk (.mk 21 t n nm kids) i (.agg #[.int .i64 21, .string t, .int .i64 n, .string nm, .slice ka kids.length cap]) w := by
  obtain ⟨hk24, ht, hnn, hnm, h1⟩ := node_facts hn
  unfold ShOk
  unfold big at hl
  have h1' := h1 (by omega)
  have hl0 : 0 < kids.length := by omega
  obtain ⟨q, hqq⟩ : ∃ q, kids[0]'hl0 = q := ⟨_, rfl⟩
  have hs : showF (.mk 21 t n nm kids) i = showF q 0 ++ (32 :: 46 :: 32 :: nm.data.toList) := by
    have e : headF kids 0 = showF q 0 := by
      match kids, hl0, hqq with
      | p :: r, _, h => simp at h; rw [headF, h]
    rw [showF, ← e]; rfl
  rw [hs] at hl ⊢
  have hnm1 := hnm (by decide)
  have enm : nm.data.toList.length = nm.size := rfl
  simp only [List.length_append, List.length_cons, List.length_nil] at hl
  have fin : Hid ((⟨(showF q 0).toArray⟩ : ByteArray) ++ ⟨#[32, 46, 32]⟩ ++ nm = ⟨(showF q 0 ++ (32 :: 46 :: 32 :: nm.data.toList)).toArray⟩) := by
    unfold Hid; show (⟨(showF q 0).toArray⟩ : ByteArray) ++ ⟨[32, 46, 32].toArray⟩ ++ ⟨nm.data.toList.toArray⟩ = _; rw [app_str, app_str]; simp
  have hq2 : (showF q 0).length ≤ big := by unfold big; omega
  have HIH := Lib.hid hih
  have hcall : Hid (∀ (v : Value) (w : World), PatV w S v q → Safe S Nix w.heap.size → ShOk q 0 v w) := fun v w hv hs => by
    have := HIH.out 0 hl0 v 0 w
    rw [hqq] at this
    exact this hv hs (by omega) hq2
  clear ht hnn hnm hs h1 h1' hih
  have dT : decide (isTextK 21) = false := by decide
  have dN : decide (isNumK 21) = false := by decide
  have I00 := ShI.start (p := .mk 21 t n nm kids) (cap := cap) hkk hsf
  dsimp only [PatT.kind_mk, PatT.text_mk, PatT.n_mk, PatT.name_mk, PatT.kids_mk] at I00
  obtain ⟨w0, hw0⟩ : ∃ w0, w0 = (w.alloc (.cells #[.int .i64 21, .string t, .int .i64 n, .string nm, .slice ka kids.length cap] 30)) := ⟨_, rfl⟩
  rw [← hw0] at I00
  obtain ⟨c0, c1, c2, c3, c4, _⟩ := I00.five.cells
  dsimp only [PatT.kind_mk, PatT.text_mk, PatT.n_mk, PatT.name_mk, PatT.kids_mk] at c0 c1 c2 c3 c4
  have I0 := Lib.hid I00; have HW0 := Lib.hid hw0
  clear I00 hw0 hkk hsf hn
  go_enter Tryz.func46, Tryz.ntmps46
  go_upto_region 2 with fail
  rw [← HW0.out]
  go_wp2_with fail
  refine (texts_any 21 _).mono ?_
  rintro e w1 ⟨rfl, k_⟩
  have I1 := Lib.hid (I0.out.next k_)
  rw [dT]
  clear k_ c0 c1 c2 c3 c4
  obtain ⟨c0, c1, c2, c3, c4, _⟩ := I1.out.five.cells
  dsimp only [PatT.kind_mk, PatT.text_mk, PatT.n_mk, PatT.name_mk, PatT.kids_mk] at c0 c1 c2 c3 c4
  go_wp2_with fail
  refine (numbers_any 21 _).mono ?_
  rintro e w2 ⟨rfl, k_⟩
  have I2 := Lib.hid (I1.out.next k_)
  rw [dN]
  clear k_ c0 c1 c2 c3 c4
  obtain ⟨c0, c1, c2, c3, c4, _⟩ := I2.out.five.cells
  dsimp only [PatT.kind_mk, PatT.text_mk, PatT.n_mk, PatT.name_mk, PatT.kids_mk] at c0 c1 c2 c3 c4
  obtain ⟨kb, ko, kc, kcap, hka, q0, q1, q2, q3, q4, hV⟩ := I2.out.kid 0 hl0
  subst hka
  simp only [PatT.kids_mk, hqq, Nat.zero_mul, Nat.add_zero] at q0 q1 q2 q3 q4 hV
  have HV := Lib.hid hV
  clear hV hqq
  have D2 := I2.out.safe.mono (Kept.refl Nix w2).drew.size
  have hC : Hid (Calls Tryz.prog 46 #[.agg #[.int .i64 q.kind, .string q.text, .int .i64 q.n, .string q.name, .slice kc q.kids.length kcap], .int .i64 0] w2.drew (StrQ (showF q 0) w2.drew)) := hcall.out _ _ (by
    obtain ⟨x1, x2, x3, x4, x5⟩ := HV.out
    exact ⟨x1, x2, x3, x4, x5.kept (Kept.refl Nix w2).drew I2.out.safe⟩) D2
  clear D2
  go_wp2_with fail
  go_region_with ((go_at_call 46; (with_reducible refine (Calls.mono hC.out ?_)); (rintro e w3 ⟨rfl, K3⟩); (have I3 := Lib.hid (I2.out.next ((Kept.refl Nix w2).drew.trans K3))); (obtain ⟨d0, d1, d2, d3, d4, _⟩ := I3.out.five.cells); (dsimp only [PatT.kind_mk, PatT.text_mk, PatT.n_mk, PatT.name_mk, PatT.kids_mk] at d0 d1 d2 d3 d4)))
  all_goals
    go_wp2_with fail
    go_ret
    exact ⟨str_ret fin.out, I3.out.base⟩

set_option maxRecDepth 100000 in
set_option maxHeartbeats 4000000 in
theorem show_imm (i : Nat) (t : ByteArray) (n : Int) (nm : ByteArray) (kids : List PatT) (ka : Option Addr) (cap : Nat) (S : Nat → Prop) (w : World) (hkk : PatsAt w S ka kids) (hsf : Safe S Nix w.heap.size) (hn : nodeF (.mk 22 t n nm kids) = 0) (hl : (showF (.mk 22 t n nm kids) i).length ≤ big) (hih : ShIH S kids) :
    ShOk (.mk 22 t n nm kids) i (.agg #[.int .i64 22, .string t, .int .i64 n, .string nm, .slice ka kids.length cap]) w := by
  obtain ⟨hk24, ht, hnn, hnm, h1⟩ := node_facts hn
  unfold ShOk
  unfold big at hl
  have h1' := h1 (by omega)
  have hl0 : 0 < kids.length := by omega
  obtain ⟨q, hqq⟩ : ∃ q, kids[0]'hl0 = q := ⟨_, rfl⟩
  have hs : showF (.mk 22 t n nm kids) i = showF q 0 ++ (32 :: 36 :: 32 :: nm.data.toList) := by
    have e : headF kids 0 = showF q 0 := by
      match kids, hl0, hqq with
      | p :: r, _, h => simp at h; rw [headF, h]
    rw [showF, ← e]; rfl
  rw [hs] at hl ⊢
  have hnm1 := hnm (by decide)
  have enm : nm.data.toList.length = nm.size := rfl
  simp only [List.length_append, List.length_cons, List.length_nil] at hl
  have fin : Hid ((⟨(showF q 0).toArray⟩ : ByteArray) ++ ⟨#[32, 36, 32]⟩ ++ nm = ⟨(showF q 0 ++ (32 :: 36 :: 32 :: nm.data.toList)).toArray⟩) := by
    unfold Hid; show (⟨(showF q 0).toArray⟩ : ByteArray) ++ ⟨[32, 36, 32].toArray⟩ ++ ⟨nm.data.toList.toArray⟩ = _; rw [app_str, app_str]; simp
  have hq2 : (showF q 0).length ≤ big := by unfold big; omega
  have HIH := Lib.hid hih
  have hcall : Hid (∀ (v : Value) (w : World), PatV w S v q → Safe S Nix w.heap.size → ShOk q 0 v w) := fun v w hv hs => by
    have := HIH.out 0 hl0 v 0 w
    rw [hqq] at this
    exact this hv hs (by omega) hq2
  clear ht hnn hnm hs h1 h1' hih
  have dT : decide (isTextK 22) = false := by decide
  have dN : decide (isNumK 22) = false := by decide
  have I00 := ShI.start (p := .mk 22 t n nm kids) (cap := cap) hkk hsf
  dsimp only [PatT.kind_mk, PatT.text_mk, PatT.n_mk, PatT.name_mk, PatT.kids_mk] at I00
  obtain ⟨w0, hw0⟩ : ∃ w0, w0 = (w.alloc (.cells #[.int .i64 22, .string t, .int .i64 n, .string nm, .slice ka kids.length cap] 30)) := ⟨_, rfl⟩
  rw [← hw0] at I00
  obtain ⟨c0, c1, c2, c3, c4, _⟩ := I00.five.cells
  dsimp only [PatT.kind_mk, PatT.text_mk, PatT.n_mk, PatT.name_mk, PatT.kids_mk] at c0 c1 c2 c3 c4
  have I0 := Lib.hid I00; have HW0 := Lib.hid hw0
  clear I00 hw0 hkk hsf hn
  go_enter Tryz.func46, Tryz.ntmps46
  go_upto_region 2 with fail
  rw [← HW0.out]
  go_wp2_with fail
  refine (texts_any 22 _).mono ?_
  rintro e w1 ⟨rfl, k_⟩
  have I1 := Lib.hid (I0.out.next k_)
  rw [dT]
  clear k_ c0 c1 c2 c3 c4
  obtain ⟨c0, c1, c2, c3, c4, _⟩ := I1.out.five.cells
  dsimp only [PatT.kind_mk, PatT.text_mk, PatT.n_mk, PatT.name_mk, PatT.kids_mk] at c0 c1 c2 c3 c4
  go_wp2_with fail
  refine (numbers_any 22 _).mono ?_
  rintro e w2 ⟨rfl, k_⟩
  have I2 := Lib.hid (I1.out.next k_)
  rw [dN]
  clear k_ c0 c1 c2 c3 c4
  obtain ⟨c0, c1, c2, c3, c4, _⟩ := I2.out.five.cells
  dsimp only [PatT.kind_mk, PatT.text_mk, PatT.n_mk, PatT.name_mk, PatT.kids_mk] at c0 c1 c2 c3 c4
  obtain ⟨kb, ko, kc, kcap, hka, q0, q1, q2, q3, q4, hV⟩ := I2.out.kid 0 hl0
  subst hka
  simp only [PatT.kids_mk, hqq, Nat.zero_mul, Nat.add_zero] at q0 q1 q2 q3 q4 hV
  have HV := Lib.hid hV
  clear hV hqq
  have D2 := I2.out.safe.mono (Kept.refl Nix w2).drew.size
  have hC : Hid (Calls Tryz.prog 46 #[.agg #[.int .i64 q.kind, .string q.text, .int .i64 q.n, .string q.name, .slice kc q.kids.length kcap], .int .i64 0] w2.drew (StrQ (showF q 0) w2.drew)) := hcall.out _ _ (by
    obtain ⟨x1, x2, x3, x4, x5⟩ := HV.out
    exact ⟨x1, x2, x3, x4, x5.kept (Kept.refl Nix w2).drew I2.out.safe⟩) D2
  clear D2
  go_wp2_with fail
  go_region_with ((go_at_call 46; (with_reducible refine (Calls.mono hC.out ?_)); (rintro e w3 ⟨rfl, K3⟩); (have I3 := Lib.hid (I2.out.next ((Kept.refl Nix w2).drew.trans K3))); (obtain ⟨d0, d1, d2, d3, d4, _⟩ := I3.out.five.cells); (dsimp only [PatT.kind_mk, PatT.text_mk, PatT.n_mk, PatT.name_mk, PatT.kids_mk] at d0 d1 d2 d3 d4)))
  all_goals
    go_wp2_with fail
    go_ret
    exact ⟨str_ret fin.out, I3.out.base⟩
end Go.Proofs.YtcfcdobgpldoiaaGreatDoor

namespace Go.Proofs.YtcfcdobgpldoiaaGreatDoor
set_option linter.all false
open Go.RowKit

set_option maxRecDepth 100000 in
set_option maxHeartbeats 4000000 in
theorem show_cat (i : Nat) (t : ByteArray) (n : Int) (nm : ByteArray) (kids : List PatT) (ka : Option Addr) (cap : Nat) (S : Nat → Prop) (w : World) (hkk : PatsAt w S ka kids) (hsf : Safe S Nix w.heap.size) (hn : nodeF (.mk 18 t n nm kids) = 0) (hl : (showF (.mk 18 t n nm kids) i).length ≤ big) (hkl : kids.length < 1000000000) (hih : ShIH S kids) (hi : ¬ i < 1) :
    ShOk (.mk 18 t n nm kids) i (.agg #[.int .i64 18, .string t, .int .i64 n, .string nm, .slice ka kids.length cap]) w := by
  obtain ⟨hk24, ht, hnn, hnm, _⟩ := node_facts hn
  unfold ShOk
  unfold big at hl
  have hs : showF (.mk 18 t n nm kids) i = joinG [32] true kids 0 := by rw [showF]; show parL (decide (i < 1)) _ = _; rw [decide_eq_false (by omega : ¬ i < 1)]; rfl
  rw [hs] at hl ⊢
  try simp only [List.length_append, List.length_cons, List.length_nil] at hl
  have e0 : ((i : Int) == 0) = false := by simp; omega
  have eb : big = 1000000000000 := rfl
  have HIH := Lib.hid hih
  clear ht hnn hnm hs hih
  have dT : decide (isTextK 18) = false := by decide
  have dN : decide (isNumK 18) = false := by decide
  have I00 := ShI.start (p := .mk 18 t n nm kids) (cap := cap) hkk hsf
  dsimp only [PatT.kind_mk, PatT.text_mk, PatT.n_mk, PatT.name_mk, PatT.kids_mk] at I00
  obtain ⟨w0, hw0⟩ : ∃ w0, w0 = (w.alloc (.cells #[.int .i64 18, .string t, .int .i64 n, .string nm, .slice ka kids.length cap] 30)) := ⟨_, rfl⟩
  rw [← hw0] at I00
  obtain ⟨c0, c1, c2, c3, c4, _⟩ := I00.five.cells
  dsimp only [PatT.kind_mk, PatT.text_mk, PatT.n_mk, PatT.name_mk, PatT.kids_mk] at c0 c1 c2 c3 c4
  have I0 := Lib.hid I00; have HW0 := Lib.hid hw0
  clear I00 hw0 hkk hsf hn
  go_enter Tryz.func46, Tryz.ntmps46
  go_upto_region 2 with fail
  rw [← HW0.out]
  go_wp2_with fail
  refine (texts_any 18 _).mono ?_
  rintro e w1 ⟨rfl, k_⟩
  have I1 := Lib.hid (I0.out.next k_)
  rw [dT]
  clear k_ c0 c1 c2 c3 c4
  obtain ⟨c0, c1, c2, c3, c4, _⟩ := I1.out.five.cells
  dsimp only [PatT.kind_mk, PatT.text_mk, PatT.n_mk, PatT.name_mk, PatT.kids_mk] at c0 c1 c2 c3 c4
  go_wp2_with fail
  refine (numbers_any 18 _).mono ?_
  rintro e w2 ⟨rfl, k_⟩
  have I2 := Lib.hid (I1.out.next k_)
  rw [dN]
  clear k_ c0 c1 c2 c3 c4
  obtain ⟨c0, c1, c2, c3, c4, _⟩ := I2.out.five.cells
  dsimp only [PatT.kind_mk, PatT.text_mk, PatT.n_mk, PatT.name_mk, PatT.kids_mk] at c0 c1 c2 c3 c4
  go_wp2_with fail
  go_loopw [5, 101] (fun v x wr => ∃ (j : Nat) (d : List UInt8), j ≤ kids.length ∧ x = .int .i64 j ∧ v = .string ⟨d.toArray⟩ ∧ Hid (d ++ joinG [32] (decide (j = 0)) (kids.drop j) 0 = joinG [32] true kids 0) ∧ Hid (ShI w.heap.size S (.mk 18 t n nm kids) ka cap w wr)) (fun _ x _ => kids.length - (intOf x).toNat)
  case atStart => exact ⟨0, [], Nat.zero_le _, rfl, rfl, by simp [Hid], I2⟩
  case round =>
    obtain ⟨j, d, hj, rfl, rfl, hd, I⟩ := hrel
    clear c0 c1 c2 c3 c4
    by_cases hlt : j < kids.length
    · have hlen := SpLoop.len hlt hd.out
      have hst := Lib.hid (joinG_step [32] kids 0 j hlt)
      obtain ⟨kb, ko, kc, kcap, hka, q0, q1, q2, q3, q4, hV⟩ := I.out.kid j hlt
      subst hka
      simp only [PatT.kids_mk] at q0 q1 q2 q3 q4 hV
      have kA : Kept Nix wr (wr.alloc (.cells #[.int .i64 kids[j].kind, .string kids[j].text, .int .i64 kids[j].n, .string kids[j].name, .slice kc kids[j].kids.length kcap] 30)) := (Kept.refl Nix wr).alloc _
      have HI1 := Lib.hid (I.out.next kA)
      have HV : Hid (PatV (wr.alloc (.cells #[.int .i64 kids[j].kind, .string kids[j].text, .int .i64 kids[j].n, .string kids[j].name, .slice kc kids[j].kids.length kcap] 30)) S (.agg #[.int .i64 kids[j].kind, .string kids[j].text, .int .i64 kids[j].n, .string kids[j].name, .slice kc kids[j].kids.length kcap]) kids[j]) := by
        obtain ⟨x1, x2, x3, x4, x5⟩ := hV
        exact ⟨x1, x2, x3, x4, x5.kept kA I.out.safe⟩
      have hC : Hid (ShOk kids[j] 0 (.agg #[.int .i64 kids[j].kind, .string kids[j].text, .int .i64 kids[j].n, .string kids[j].name, .slice kc kids[j].kids.length kcap]) (wr.alloc (.cells #[.int .i64 kids[j].kind, .string kids[j].text, .int .i64 kids[j].n, .string kids[j].name, .slice kc kids[j].kids.length kcap] 30))) := HIH.out j hlt _ 0 _ HV.out HI1.out.safe (by omega) (by unfold big; omega)
      have hsl : (showF kids[j] 0).length ≤ 1000000000000 := by omega
      have hdl : d.length ≤ 1000000000000 := by omega
      clear hV kA HV
      by_cases hj0 : j = 0
      · have y1 : decide ((0 : Int) < (j : Int)) = false := decide_eq_false (by omega)
        have y2 : decide (0 < j) = false := decide_eq_false (by omega)
        have stp : Hid ((d ++ showF kids[j] 0) ++ joinG [32] (decide (j + 1 = 0)) (kids.drop (j + 1)) 0 = joinG [32] true kids 0) := by
          unfold Hid; have := hd.out; rw [hst.out, if_pos hj0, List.nil_append] at this; rw [List.append_assoc]; exact this
        clear hj0 hst hd hlen
        go_wp2_with fail
        refine Calls.mono hC.out ?_
        rintro e w3 ⟨rfl, K3⟩
        have I3 := Lib.hid (HI1.out.next K3)
        have es : (⟨d.toArray⟩ : ByteArray) ++ ⟨(showF kids[j] 0).toArray⟩ = ⟨(d ++ showF kids[j] 0).toArray⟩ := app_str _ _
        have ES := Lib.hid es
        clear q0 q1 q2 q3 q4 hC K3 es
        go_wp2_with fail
        rw [ES.out]
        go_roundw
        case rel => exact ⟨j + 1, d ++ showF kids[j] 0, by omega, by go_num, rfl, stp, I3⟩
        case measure => simp [intOf]; omega
      · have y1 : decide ((0 : Int) < (j : Int)) = true := decide_eq_true (by omega)
        have y2 : decide (0 < j) = true := decide_eq_true (by omega)
        have stp : Hid ((d ++ ([32] ++ showF kids[j] 0)) ++ joinG [32] (decide (j + 1 = 0)) (kids.drop (j + 1)) 0 = joinG [32] true kids 0) := by
          unfold Hid; have := hd.out; rw [hst.out, if_neg hj0] at this; simpa [List.append_assoc] using this
        have es : (⟨d.toArray⟩ : ByteArray) ++ ⟨#[32]⟩ ++ ⟨(showF kids[j] 0).toArray⟩ = ⟨(d ++ ([32] ++ showF kids[j] 0)).toArray⟩ := by
          rw [show (⟨#[32]⟩ : ByteArray) = ⟨([32] : List UInt8).toArray⟩ from rfl, app_str, app_str, List.append_assoc]
        have ES := Lib.hid es
        clear hj0 hst hd hlen es
        go_wp2_with fail
        refine Calls.mono hC.out ?_
        rintro e w3 ⟨rfl, K3⟩
        have I3 := Lib.hid (HI1.out.next K3)
        clear q0 q1 q2 q3 q4 hC K3
        go_wp2_with fail
        rw [ES.out]
        go_roundw
        case rel => exact ⟨j + 1, d ++ ([32] ++ showF kids[j] 0), by omega, by go_num, rfl, stp, I3⟩
        case measure => simp [intOf]; omega
    · obtain rfl : j = kids.length := by omega
      have hd2 : d = joinG [32] true kids 0 := by have := hd.out; rw [List.drop_length] at this; simpa [joinG] using this
      subst hd2
      clear hd
      go_wp2_with fail
      go_ret
      exact ⟨rfl, I.out.base⟩

set_option maxRecDepth 100000 in
set_option maxHeartbeats 4000000 in
theorem show_catP (i : Nat) (t : ByteArray) (n : Int) (nm : ByteArray) (kids : List PatT) (ka : Option Addr) (cap : Nat) (S : Nat → Prop) (w : World) (hkk : PatsAt w S ka kids) (hsf : Safe S Nix w.heap.size) (hn : nodeF (.mk 18 t n nm kids) = 0) (hl : (showF (.mk 18 t n nm kids) i).length ≤ big) (hkl : kids.length < 1000000000) (hih : ShIH S kids) (hi : i < 1) :
    ShOk (.mk 18 t n nm kids) i (.agg #[.int .i64 18, .string t, .int .i64 n, .string nm, .slice ka kids.length cap]) w := by
  obtain ⟨hk24, ht, hnn, hnm, _⟩ := node_facts hn
  unfold ShOk
  unfold big at hl
  have hs : showF (.mk 18 t n nm kids) i = 40 :: (joinG [32] true kids 0 ++ [41]) := by rw [showF]; show parL (decide (i < 1)) _ = _; rw [decide_eq_true (by omega : i < 1)]; rfl
  rw [hs] at hl ⊢
  try simp only [List.length_append, List.length_cons, List.length_nil] at hl
  have e0 : ((i : Int) == 0) = true := by simp; omega
  have fin : Hid ((⟨#[40]⟩ : ByteArray) ++ ⟨(joinG [32] true kids 0).toArray⟩ ++ ⟨#[41]⟩ = ⟨(40 :: (joinG [32] true kids 0 ++ [41])).toArray⟩) := by
    unfold Hid; rw [show (⟨#[40]⟩ : ByteArray) = ⟨[40].toArray⟩ from rfl, show (⟨#[41]⟩ : ByteArray) = ⟨[41].toArray⟩ from rfl, app_str, app_str]; simp
  have eb : big = 1000000000000 := rfl
  have HIH := Lib.hid hih
  clear ht hnn hnm hs hih
  have dT : decide (isTextK 18) = false := by decide
  have dN : decide (isNumK 18) = false := by decide
  have I00 := ShI.start (p := .mk 18 t n nm kids) (cap := cap) hkk hsf
  dsimp only [PatT.kind_mk, PatT.text_mk, PatT.n_mk, PatT.name_mk, PatT.kids_mk] at I00
  obtain ⟨w0, hw0⟩ : ∃ w0, w0 = (w.alloc (.cells #[.int .i64 18, .string t, .int .i64 n, .string nm, .slice ka kids.length cap] 30)) := ⟨_, rfl⟩
  rw [← hw0] at I00
  obtain ⟨c0, c1, c2, c3, c4, _⟩ := I00.five.cells
  dsimp only [PatT.kind_mk, PatT.text_mk, PatT.n_mk, PatT.name_mk, PatT.kids_mk] at c0 c1 c2 c3 c4
  have I0 := Lib.hid I00; have HW0 := Lib.hid hw0
  clear I00 hw0 hkk hsf hn
  go_enter Tryz.func46, Tryz.ntmps46
  go_upto_region 2 with fail
  rw [← HW0.out]
  go_wp2_with fail
  refine (texts_any 18 _).mono ?_
  rintro e w1 ⟨rfl, k_⟩
  have I1 := Lib.hid (I0.out.next k_)
  rw [dT]
  clear k_ c0 c1 c2 c3 c4
  obtain ⟨c0, c1, c2, c3, c4, _⟩ := I1.out.five.cells
  dsimp only [PatT.kind_mk, PatT.text_mk, PatT.n_mk, PatT.name_mk, PatT.kids_mk] at c0 c1 c2 c3 c4
  go_wp2_with fail
  refine (numbers_any 18 _).mono ?_
  rintro e w2 ⟨rfl, k_⟩
  have I2 := Lib.hid (I1.out.next k_)
  rw [dN]
  clear k_ c0 c1 c2 c3 c4
  obtain ⟨c0, c1, c2, c3, c4, _⟩ := I2.out.five.cells
  dsimp only [PatT.kind_mk, PatT.text_mk, PatT.n_mk, PatT.name_mk, PatT.kids_mk] at c0 c1 c2 c3 c4
  go_wp2_with fail
  go_loopw [5, 101] (fun v x wr => ∃ (j : Nat) (d : List UInt8), j ≤ kids.length ∧ x = .int .i64 j ∧ v = .string ⟨d.toArray⟩ ∧ Hid (d ++ joinG [32] (decide (j = 0)) (kids.drop j) 0 = joinG [32] true kids 0) ∧ Hid (ShI w.heap.size S (.mk 18 t n nm kids) ka cap w wr)) (fun _ x _ => kids.length - (intOf x).toNat)
  case atStart => exact ⟨0, [], Nat.zero_le _, rfl, rfl, by simp [Hid], I2⟩
  case round =>
    obtain ⟨j, d, hj, rfl, rfl, hd, I⟩ := hrel
    clear c0 c1 c2 c3 c4
    by_cases hlt : j < kids.length
    · have hlen := SpLoop.len hlt hd.out
      have hst := Lib.hid (joinG_step [32] kids 0 j hlt)
      obtain ⟨kb, ko, kc, kcap, hka, q0, q1, q2, q3, q4, hV⟩ := I.out.kid j hlt
      subst hka
      simp only [PatT.kids_mk] at q0 q1 q2 q3 q4 hV
      have kA : Kept Nix wr (wr.alloc (.cells #[.int .i64 kids[j].kind, .string kids[j].text, .int .i64 kids[j].n, .string kids[j].name, .slice kc kids[j].kids.length kcap] 30)) := (Kept.refl Nix wr).alloc _
      have HI1 := Lib.hid (I.out.next kA)
      have HV : Hid (PatV (wr.alloc (.cells #[.int .i64 kids[j].kind, .string kids[j].text, .int .i64 kids[j].n, .string kids[j].name, .slice kc kids[j].kids.length kcap] 30)) S (.agg #[.int .i64 kids[j].kind, .string kids[j].text, .int .i64 kids[j].n, .string kids[j].name, .slice kc kids[j].kids.length kcap]) kids[j]) := by
        obtain ⟨x1, x2, x3, x4, x5⟩ := hV
        exact ⟨x1, x2, x3, x4, x5.kept kA I.out.safe⟩
      have hC : Hid (ShOk kids[j] 0 (.agg #[.int .i64 kids[j].kind, .string kids[j].text, .int .i64 kids[j].n, .string kids[j].name, .slice kc kids[j].kids.length kcap]) (wr.alloc (.cells #[.int .i64 kids[j].kind, .string kids[j].text, .int .i64 kids[j].n, .string kids[j].name, .slice kc kids[j].kids.length kcap] 30))) := HIH.out j hlt _ 0 _ HV.out HI1.out.safe (by omega) (by unfold big; omega)
      have hsl : (showF kids[j] 0).length ≤ 1000000000000 := by omega
      have hdl : d.length ≤ 1000000000000 := by omega
      clear hV kA HV
      by_cases hj0 : j = 0
      · have y1 : decide ((0 : Int) < (j : Int)) = false := decide_eq_false (by omega)
        have y2 : decide (0 < j) = false := decide_eq_false (by omega)
        have stp : Hid ((d ++ showF kids[j] 0) ++ joinG [32] (decide (j + 1 = 0)) (kids.drop (j + 1)) 0 = joinG [32] true kids 0) := by
          unfold Hid; have := hd.out; rw [hst.out, if_pos hj0, List.nil_append] at this; rw [List.append_assoc]; exact this
        clear hj0 hst hd hlen
        go_wp2_with fail
        refine Calls.mono hC.out ?_
        rintro e w3 ⟨rfl, K3⟩
        have I3 := Lib.hid (HI1.out.next K3)
        have es : (⟨d.toArray⟩ : ByteArray) ++ ⟨(showF kids[j] 0).toArray⟩ = ⟨(d ++ showF kids[j] 0).toArray⟩ := app_str _ _
        have ES := Lib.hid es
        clear q0 q1 q2 q3 q4 hC K3 es
        go_wp2_with fail
        rw [ES.out]
        go_roundw
        case rel => exact ⟨j + 1, d ++ showF kids[j] 0, by omega, by go_num, rfl, stp, I3⟩
        case measure => simp [intOf]; omega
      · have y1 : decide ((0 : Int) < (j : Int)) = true := decide_eq_true (by omega)
        have y2 : decide (0 < j) = true := decide_eq_true (by omega)
        have stp : Hid ((d ++ ([32] ++ showF kids[j] 0)) ++ joinG [32] (decide (j + 1 = 0)) (kids.drop (j + 1)) 0 = joinG [32] true kids 0) := by
          unfold Hid; have := hd.out; rw [hst.out, if_neg hj0] at this; simpa [List.append_assoc] using this
        have es : (⟨d.toArray⟩ : ByteArray) ++ ⟨#[32]⟩ ++ ⟨(showF kids[j] 0).toArray⟩ = ⟨(d ++ ([32] ++ showF kids[j] 0)).toArray⟩ := by
          rw [show (⟨#[32]⟩ : ByteArray) = ⟨([32] : List UInt8).toArray⟩ from rfl, app_str, app_str, List.append_assoc]
        have ES := Lib.hid es
        clear hj0 hst hd hlen es
        go_wp2_with fail
        refine Calls.mono hC.out ?_
        rintro e w3 ⟨rfl, K3⟩
        have I3 := Lib.hid (HI1.out.next K3)
        clear q0 q1 q2 q3 q4 hC K3
        go_wp2_with fail
        rw [ES.out]
        go_roundw
        case rel => exact ⟨j + 1, d ++ ([32] ++ showF kids[j] 0), by omega, by go_num, rfl, stp, I3⟩
        case measure => simp [intOf]; omega
    · obtain rfl : j = kids.length := by omega
      have hd2 : d = joinG [32] true kids 0 := by have := hd.out; rw [List.drop_length] at this; simpa [joinG] using this
      subst hd2
      clear hd
      go_wp2_with fail
      go_ret
      exact ⟨str_ret fin.out, I.out.base⟩
end Go.Proofs.YtcfcdobgpldoiaaGreatDoor

namespace Go.Proofs.YtcfcdobgpldoiaaGreatDoor
set_option linter.all false
open Go.RowKit

set_option maxRecDepth 100000 in
set_option maxHeartbeats 4000000 in
theorem show_alt (i : Nat) (t : ByteArray) (n : Int) (nm : ByteArray) (kids : List PatT) (ka : Option Addr) (cap : Nat) (S : Nat → Prop) (w : World) (hkk : PatsAt w S ka kids) (hsf : Safe S Nix w.heap.size) (hn : nodeF (.mk 19 t n nm kids) = 0) (hl : (showF (.mk 19 t n nm kids) i).length ≤ big) (hkl : kids.length < 1000000000) (hih : ShIH S kids) (hi : ¬ i < 2) :
    ShOk (.mk 19 t n nm kids) i (.agg #[.int .i64 19, .string t, .int .i64 n, .string nm, .slice ka kids.length cap]) w := by
  obtain ⟨hk24, ht, hnn, hnm, _⟩ := node_facts hn
  unfold ShOk
  unfold big at hl
  have hs : showF (.mk 19 t n nm kids) i = joinG [32, 124, 32] true kids 1 := by rw [showF]; show parL (decide (i < 2)) _ = _; rw [decide_eq_false (by omega : ¬ i < 2)]; rfl
  rw [hs] at hl ⊢
  try simp only [List.length_append, List.length_cons, List.length_nil] at hl
  have e0 : decide ((i : Int) < 2) = false := decide_eq_false (by omega)
  have eb : big = 1000000000000 := rfl
  have HIH := Lib.hid hih
  clear ht hnn hnm hs hih
  have dT : decide (isTextK 19) = false := by decide
  have dN : decide (isNumK 19) = false := by decide
  have I00 := ShI.start (p := .mk 19 t n nm kids) (cap := cap) hkk hsf
  dsimp only [PatT.kind_mk, PatT.text_mk, PatT.n_mk, PatT.name_mk, PatT.kids_mk] at I00
  obtain ⟨w0, hw0⟩ : ∃ w0, w0 = (w.alloc (.cells #[.int .i64 19, .string t, .int .i64 n, .string nm, .slice ka kids.length cap] 30)) := ⟨_, rfl⟩
  rw [← hw0] at I00
  obtain ⟨c0, c1, c2, c3, c4, _⟩ := I00.five.cells
  dsimp only [PatT.kind_mk, PatT.text_mk, PatT.n_mk, PatT.name_mk, PatT.kids_mk] at c0 c1 c2 c3 c4
  have I0 := Lib.hid I00; have HW0 := Lib.hid hw0
  clear I00 hw0 hkk hsf hn
  go_enter Tryz.func46, Tryz.ntmps46
  go_upto_region 2 with fail
  rw [← HW0.out]
  go_wp2_with fail
  refine (texts_any 19 _).mono ?_
  rintro e w1 ⟨rfl, k_⟩
  have I1 := Lib.hid (I0.out.next k_)
  rw [dT]
  clear k_ c0 c1 c2 c3 c4
  obtain ⟨c0, c1, c2, c3, c4, _⟩ := I1.out.five.cells
  dsimp only [PatT.kind_mk, PatT.text_mk, PatT.n_mk, PatT.name_mk, PatT.kids_mk] at c0 c1 c2 c3 c4
  go_wp2_with fail
  refine (numbers_any 19 _).mono ?_
  rintro e w2 ⟨rfl, k_⟩
  have I2 := Lib.hid (I1.out.next k_)
  rw [dN]
  clear k_ c0 c1 c2 c3 c4
  obtain ⟨c0, c1, c2, c3, c4, _⟩ := I2.out.five.cells
  dsimp only [PatT.kind_mk, PatT.text_mk, PatT.n_mk, PatT.name_mk, PatT.kids_mk] at c0 c1 c2 c3 c4
  go_wp2_with fail
  go_loopw [5, 128] (fun v x wr => ∃ (j : Nat) (d : List UInt8), j ≤ kids.length ∧ x = .int .i64 j ∧ v = .string ⟨d.toArray⟩ ∧ Hid (d ++ joinG [32, 124, 32] (decide (j = 0)) (kids.drop j) 1 = joinG [32, 124, 32] true kids 1) ∧ Hid (ShI w.heap.size S (.mk 19 t n nm kids) ka cap w wr)) (fun _ x _ => kids.length - (intOf x).toNat)
  case atStart => exact ⟨0, [], Nat.zero_le _, rfl, rfl, by simp [Hid], I2⟩
  case round =>
    obtain ⟨j, d, hj, rfl, rfl, hd, I⟩ := hrel
    clear c0 c1 c2 c3 c4
    by_cases hlt : j < kids.length
    · have hlen := SpLoop.len hlt hd.out
      have hst := Lib.hid (joinG_step [32, 124, 32] kids 1 j hlt)
      obtain ⟨kb, ko, kc, kcap, hka, q0, q1, q2, q3, q4, hV⟩ := I.out.kid j hlt
      subst hka
      simp only [PatT.kids_mk] at q0 q1 q2 q3 q4 hV
      have kA : Kept Nix wr (wr.alloc (.cells #[.int .i64 kids[j].kind, .string kids[j].text, .int .i64 kids[j].n, .string kids[j].name, .slice kc kids[j].kids.length kcap] 30)) := (Kept.refl Nix wr).alloc _
      have HI1 := Lib.hid (I.out.next kA)
      have HV : Hid (PatV (wr.alloc (.cells #[.int .i64 kids[j].kind, .string kids[j].text, .int .i64 kids[j].n, .string kids[j].name, .slice kc kids[j].kids.length kcap] 30)) S (.agg #[.int .i64 kids[j].kind, .string kids[j].text, .int .i64 kids[j].n, .string kids[j].name, .slice kc kids[j].kids.length kcap]) kids[j]) := by
        obtain ⟨x1, x2, x3, x4, x5⟩ := hV
        exact ⟨x1, x2, x3, x4, x5.kept kA I.out.safe⟩
      have hC : Hid (ShOk kids[j] 1 (.agg #[.int .i64 kids[j].kind, .string kids[j].text, .int .i64 kids[j].n, .string kids[j].name, .slice kc kids[j].kids.length kcap]) (wr.alloc (.cells #[.int .i64 kids[j].kind, .string kids[j].text, .int .i64 kids[j].n, .string kids[j].name, .slice kc kids[j].kids.length kcap] 30))) := HIH.out j hlt _ 1 _ HV.out HI1.out.safe (by omega) (by unfold big; omega)
      have hsl : (showF kids[j] 1).length ≤ 1000000000000 := by omega
      have hdl : d.length ≤ 1000000000000 := by omega
      clear hV kA HV
      by_cases hj0 : j = 0
      · have y1 : decide ((0 : Int) < (j : Int)) = false := decide_eq_false (by omega)
        have y2 : decide (0 < j) = false := decide_eq_false (by omega)
        have stp : Hid ((d ++ showF kids[j] 1) ++ joinG [32, 124, 32] (decide (j + 1 = 0)) (kids.drop (j + 1)) 1 = joinG [32, 124, 32] true kids 1) := by
          unfold Hid; have := hd.out; rw [hst.out, if_pos hj0, List.nil_append] at this; rw [List.append_assoc]; exact this
        clear hj0 hst hd hlen
        go_wp2_with fail
        refine Calls.mono hC.out ?_
        rintro e w3 ⟨rfl, K3⟩
        have I3 := Lib.hid (HI1.out.next K3)
        have es : (⟨d.toArray⟩ : ByteArray) ++ ⟨(showF kids[j] 1).toArray⟩ = ⟨(d ++ showF kids[j] 1).toArray⟩ := app_str _ _
        have ES := Lib.hid es
        clear q0 q1 q2 q3 q4 hC K3 es
        go_wp2_with fail
        rw [ES.out]
        go_roundw
        case rel => exact ⟨j + 1, d ++ showF kids[j] 1, by omega, by go_num, rfl, stp, I3⟩
        case measure => simp [intOf]; omega
      · have y1 : decide ((0 : Int) < (j : Int)) = true := decide_eq_true (by omega)
        have y2 : decide (0 < j) = true := decide_eq_true (by omega)
        have stp : Hid ((d ++ ([32, 124, 32] ++ showF kids[j] 1)) ++ joinG [32, 124, 32] (decide (j + 1 = 0)) (kids.drop (j + 1)) 1 = joinG [32, 124, 32] true kids 1) := by
          unfold Hid; have := hd.out; rw [hst.out, if_neg hj0] at this; simpa [List.append_assoc] using this
        have es : (⟨d.toArray⟩ : ByteArray) ++ ⟨#[32, 124, 32]⟩ ++ ⟨(showF kids[j] 1).toArray⟩ = ⟨(d ++ ([32, 124, 32] ++ showF kids[j] 1)).toArray⟩ := by
          rw [show (⟨#[32, 124, 32]⟩ : ByteArray) = ⟨([32, 124, 32] : List UInt8).toArray⟩ from rfl, app_str, app_str, List.append_assoc]
        have ES := Lib.hid es
        clear hj0 hst hd hlen es
        go_wp2_with fail
        refine Calls.mono hC.out ?_
        rintro e w3 ⟨rfl, K3⟩
        have I3 := Lib.hid (HI1.out.next K3)
        clear q0 q1 q2 q3 q4 hC K3
        go_wp2_with fail
        rw [ES.out]
        go_roundw
        case rel => exact ⟨j + 1, d ++ ([32, 124, 32] ++ showF kids[j] 1), by omega, by go_num, rfl, stp, I3⟩
        case measure => simp [intOf]; omega
    · obtain rfl : j = kids.length := by omega
      have hd2 : d = joinG [32, 124, 32] true kids 1 := by have := hd.out; rw [List.drop_length] at this; simpa [joinG] using this
      subst hd2
      clear hd
      go_wp2_with fail
      go_ret
      exact ⟨rfl, I.out.base⟩

set_option maxRecDepth 100000 in
set_option maxHeartbeats 4000000 in
theorem show_altP (i : Nat) (t : ByteArray) (n : Int) (nm : ByteArray) (kids : List PatT) (ka : Option Addr) (cap : Nat) (S : Nat → Prop) (w : World) (hkk : PatsAt w S ka kids) (hsf : Safe S Nix w.heap.size) (hn : nodeF (.mk 19 t n nm kids) = 0) (hl : (showF (.mk 19 t n nm kids) i).length ≤ big) (hkl : kids.length < 1000000000) (hih : ShIH S kids) (hi : i < 2) :
    ShOk (.mk 19 t n nm kids) i (.agg #[.int .i64 19, .string t, .int .i64 n, .string nm, .slice ka kids.length cap]) w := by
  obtain ⟨hk24, ht, hnn, hnm, _⟩ := node_facts hn
  unfold ShOk
  unfold big at hl
  have hs : showF (.mk 19 t n nm kids) i = 40 :: (joinG [32, 124, 32] true kids 1 ++ [41]) := by rw [showF]; show parL (decide (i < 2)) _ = _; rw [decide_eq_true (by omega : i < 2)]; rfl
  rw [hs] at hl ⊢
  try simp only [List.length_append, List.length_cons, List.length_nil] at hl
  have e0 : decide ((i : Int) < 2) = true := decide_eq_true (by omega)
  have fin : Hid ((⟨#[40]⟩ : ByteArray) ++ ⟨(joinG [32, 124, 32] true kids 1).toArray⟩ ++ ⟨#[41]⟩ = ⟨(40 :: (joinG [32, 124, 32] true kids 1 ++ [41])).toArray⟩) := by
    unfold Hid; rw [show (⟨#[40]⟩ : ByteArray) = ⟨[40].toArray⟩ from rfl, show (⟨#[41]⟩ : ByteArray) = ⟨[41].toArray⟩ from rfl, app_str, app_str]; simp
  have eb : big = 1000000000000 := rfl
  have HIH := Lib.hid hih
  clear ht hnn hnm hs hih
  have dT : decide (isTextK 19) = false := by decide
  have dN : decide (isNumK 19) = false := by decide
  have I00 := ShI.start (p := .mk 19 t n nm kids) (cap := cap) hkk hsf
  dsimp only [PatT.kind_mk, PatT.text_mk, PatT.n_mk, PatT.name_mk, PatT.kids_mk] at I00
  obtain ⟨w0, hw0⟩ : ∃ w0, w0 = (w.alloc (.cells #[.int .i64 19, .string t, .int .i64 n, .string nm, .slice ka kids.length cap] 30)) := ⟨_, rfl⟩
  rw [← hw0] at I00
  obtain ⟨c0, c1, c2, c3, c4, _⟩ := I00.five.cells
  dsimp only [PatT.kind_mk, PatT.text_mk, PatT.n_mk, PatT.name_mk, PatT.kids_mk] at c0 c1 c2 c3 c4
  have I0 := Lib.hid I00; have HW0 := Lib.hid hw0
  clear I00 hw0 hkk hsf hn
  go_enter Tryz.func46, Tryz.ntmps46
  go_upto_region 2 with fail
  rw [← HW0.out]
  go_wp2_with fail
  refine (texts_any 19 _).mono ?_
  rintro e w1 ⟨rfl, k_⟩
  have I1 := Lib.hid (I0.out.next k_)
  rw [dT]
  clear k_ c0 c1 c2 c3 c4
  obtain ⟨c0, c1, c2, c3, c4, _⟩ := I1.out.five.cells
  dsimp only [PatT.kind_mk, PatT.text_mk, PatT.n_mk, PatT.name_mk, PatT.kids_mk] at c0 c1 c2 c3 c4
  go_wp2_with fail
  refine (numbers_any 19 _).mono ?_
  rintro e w2 ⟨rfl, k_⟩
  have I2 := Lib.hid (I1.out.next k_)
  rw [dN]
  clear k_ c0 c1 c2 c3 c4
  obtain ⟨c0, c1, c2, c3, c4, _⟩ := I2.out.five.cells
  dsimp only [PatT.kind_mk, PatT.text_mk, PatT.n_mk, PatT.name_mk, PatT.kids_mk] at c0 c1 c2 c3 c4
  go_wp2_with fail
  go_loopw [5, 128] (fun v x wr => ∃ (j : Nat) (d : List UInt8), j ≤ kids.length ∧ x = .int .i64 j ∧ v = .string ⟨d.toArray⟩ ∧ Hid (d ++ joinG [32, 124, 32] (decide (j = 0)) (kids.drop j) 1 = joinG [32, 124, 32] true kids 1) ∧ Hid (ShI w.heap.size S (.mk 19 t n nm kids) ka cap w wr)) (fun _ x _ => kids.length - (intOf x).toNat)
  case atStart => exact ⟨0, [], Nat.zero_le _, rfl, rfl, by simp [Hid], I2⟩
  case round =>
    obtain ⟨j, d, hj, rfl, rfl, hd, I⟩ := hrel
    clear c0 c1 c2 c3 c4
    by_cases hlt : j < kids.length
    · have hlen := SpLoop.len hlt hd.out
      have hst := Lib.hid (joinG_step [32, 124, 32] kids 1 j hlt)
      obtain ⟨kb, ko, kc, kcap, hka, q0, q1, q2, q3, q4, hV⟩ := I.out.kid j hlt
      subst hka
      simp only [PatT.kids_mk] at q0 q1 q2 q3 q4 hV
      have kA : Kept Nix wr (wr.alloc (.cells #[.int .i64 kids[j].kind, .string kids[j].text, .int .i64 kids[j].n, .string kids[j].name, .slice kc kids[j].kids.length kcap] 30)) := (Kept.refl Nix wr).alloc _
      have HI1 := Lib.hid (I.out.next kA)
      have HV : Hid (PatV (wr.alloc (.cells #[.int .i64 kids[j].kind, .string kids[j].text, .int .i64 kids[j].n, .string kids[j].name, .slice kc kids[j].kids.length kcap] 30)) S (.agg #[.int .i64 kids[j].kind, .string kids[j].text, .int .i64 kids[j].n, .string kids[j].name, .slice kc kids[j].kids.length kcap]) kids[j]) := by
        obtain ⟨x1, x2, x3, x4, x5⟩ := hV
        exact ⟨x1, x2, x3, x4, x5.kept kA I.out.safe⟩
      have hC : Hid (ShOk kids[j] 1 (.agg #[.int .i64 kids[j].kind, .string kids[j].text, .int .i64 kids[j].n, .string kids[j].name, .slice kc kids[j].kids.length kcap]) (wr.alloc (.cells #[.int .i64 kids[j].kind, .string kids[j].text, .int .i64 kids[j].n, .string kids[j].name, .slice kc kids[j].kids.length kcap] 30))) := HIH.out j hlt _ 1 _ HV.out HI1.out.safe (by omega) (by unfold big; omega)
      have hsl : (showF kids[j] 1).length ≤ 1000000000000 := by omega
      have hdl : d.length ≤ 1000000000000 := by omega
      clear hV kA HV
      by_cases hj0 : j = 0
      · have y1 : decide ((0 : Int) < (j : Int)) = false := decide_eq_false (by omega)
        have y2 : decide (0 < j) = false := decide_eq_false (by omega)
        have stp : Hid ((d ++ showF kids[j] 1) ++ joinG [32, 124, 32] (decide (j + 1 = 0)) (kids.drop (j + 1)) 1 = joinG [32, 124, 32] true kids 1) := by
          unfold Hid; have := hd.out; rw [hst.out, if_pos hj0, List.nil_append] at this; rw [List.append_assoc]; exact this
        clear hj0 hst hd hlen
        go_wp2_with fail
        refine Calls.mono hC.out ?_
        rintro e w3 ⟨rfl, K3⟩
        have I3 := Lib.hid (HI1.out.next K3)
        have es : (⟨d.toArray⟩ : ByteArray) ++ ⟨(showF kids[j] 1).toArray⟩ = ⟨(d ++ showF kids[j] 1).toArray⟩ := app_str _ _
        have ES := Lib.hid es
        clear q0 q1 q2 q3 q4 hC K3 es
        go_wp2_with fail
        rw [ES.out]
        go_roundw
        case rel => exact ⟨j + 1, d ++ showF kids[j] 1, by omega, by go_num, rfl, stp, I3⟩
        case measure => simp [intOf]; omega
      · have y1 : decide ((0 : Int) < (j : Int)) = true := decide_eq_true (by omega)
        have y2 : decide (0 < j) = true := decide_eq_true (by omega)
        have stp : Hid ((d ++ ([32, 124, 32] ++ showF kids[j] 1)) ++ joinG [32, 124, 32] (decide (j + 1 = 0)) (kids.drop (j + 1)) 1 = joinG [32, 124, 32] true kids 1) := by
          unfold Hid; have := hd.out; rw [hst.out, if_neg hj0] at this; simpa [List.append_assoc] using this
        have es : (⟨d.toArray⟩ : ByteArray) ++ ⟨#[32, 124, 32]⟩ ++ ⟨(showF kids[j] 1).toArray⟩ = ⟨(d ++ ([32, 124, 32] ++ showF kids[j] 1)).toArray⟩ := by
          rw [show (⟨#[32, 124, 32]⟩ : ByteArray) = ⟨([32, 124, 32] : List UInt8).toArray⟩ from rfl, app_str, app_str, List.append_assoc]
        have ES := Lib.hid es
        clear hj0 hst hd hlen es
        go_wp2_with fail
        refine Calls.mono hC.out ?_
        rintro e w3 ⟨rfl, K3⟩
        have I3 := Lib.hid (HI1.out.next K3)
        clear q0 q1 q2 q3 q4 hC K3
        go_wp2_with fail
        rw [ES.out]
        go_roundw
        case rel => exact ⟨j + 1, d ++ ([32, 124, 32] ++ showF kids[j] 1), by omega, by go_num, rfl, stp, I3⟩
        case measure => simp [intOf]; omega
    · obtain rfl : j = kids.length := by omega
      have hd2 : d = joinG [32, 124, 32] true kids 1 := by have := hd.out; rw [List.drop_length] at this; simpa [joinG] using this
      subst hd2
      clear hd
      go_wp2_with fail
      go_ret
      exact ⟨str_ret fin.out, I.out.base⟩
end Go.Proofs.YtcfcdobgpldoiaaGreatDoor

namespace Go.Proofs.YtcfcdobgpldoiaaGreatDoor
set_option linter.all false
open Go.RowKit

theorem show_all : ∀ (m : Nat) (p : PatT) (v : Value) (S : Nat → Prop) (i : Nat) (w : World), sizeT p ≤ m → okT p → PatV w S v p → Safe S Nix w.heap.size → i ≤ 2 → (showF p i).length ≤ big → ShOk p i v w := by
  intro m
  induction m with
  | zero => intro p v S i w hm; have := sizeT_pos p; omega
  | succ m ih =>
    intro p v S i w hm hok hp hS hi hl
    obtain ⟨k, t, n, nm, kids⟩ := p
    have hn := hok.self
    obtain ⟨ka, cap, rfl, hz, hk⟩ := hp
    dsimp only [PatT.kind_mk, PatT.text_mk, PatT.n_mk, PatT.name_mk, PatT.kids_mk] at hz hk ⊢
    obtain ⟨⟨h1, h24⟩, _⟩ := node_facts hn
    have hih : ShIH S kids := fun j hj v i w hv hs hi hl => ih kids[j] v S i w (by have := sizeT_get kids j hj; simp only [sizeT] at hm; omega) (hok.kids.get j hj) hv hs hi hl
    by_cases c1 : k = 1
    · exact show_lit i k t n nm kids ka cap S w hk hS hn hl c1
    by_cases c2 : isTextK k
    · exact show_text i k t n nm kids ka cap S w hk hS hn hl c2
    by_cases c3 : isNumK k
    · exact show_num i k t n nm kids ka cap S w hk hS hn hl c3
    by_cases c4 : k = 23 ∨ k = 24
    · exact show_name i k t n nm kids ka cap S w hk hS hn hl c4
    by_cases c5 : k = 12 ∨ k = 13 ∨ k = 14 ∨ k = 15 ∨ k = 16 ∨ k = 17
    · exact show_word i k t n nm kids ka cap S w hk hS hn hl c5
    by_cases c6 : k = 20
    · subst c6; exact show_arbno i t n nm kids ka cap S w hk hS hn hl hih
    by_cases c7 : k = 21
    · subst c7; exact show_cond i t n nm kids ka cap S w hk hS hn hl hih
    by_cases c8 : k = 22
    · subst c8; exact show_imm i t n nm kids ka cap S w hk hS hn hl hih
    by_cases c9 : k = 18
    · subst c9
      by_cases hp : i < 1
      · exact show_catP i t n nm kids ka cap S w hk hS hn hl hz.2.2 hih hp
      · exact show_cat i t n nm kids ka cap S w hk hS hn hl hz.2.2 hih hp
    by_cases c10 : k = 19
    · subst c10
      by_cases hp : i < 2
      · exact show_altP i t n nm kids ka cap S w hk hS hn hl hz.2.2 hih hp
      · exact show_alt i t n nm kids ka cap S w hk hS hn hl hz.2.2 hih hp
    · unfold isTextK isNumK at *; omega

set_option maxRecDepth 100000 in
set_option maxHeartbeats 4000000 in
theorem rprint_any (p : PatT) (v : Value) (w : World) (hp : PatV w (· < w.heap.size) v p) (hsz : sizeT p ≤ 100000000) : Calls Tryz.prog 27 #[v] w (PrintQ p w) := by
  obtain ⟨ka, cap, rfl, hz, hk⟩ := hp
  have kA : Kept Nix w (w.alloc (.cells #[.int .i64 p.kind, .string p.text, .int .i64 p.n, .string p.name, .slice ka p.kids.length cap] 30)) := (Kept.refl _ _).alloc _
  obtain ⟨w1, hw1⟩ : ∃ w1, w1 = (w.alloc (.cells #[.int .i64 p.kind, .string p.text, .int .i64 p.n, .string p.name, .slice ka p.kids.length cap] 30)) := ⟨_, rfl⟩
  rw [← hw1] at kA
  have PV : Hid (PatV w1 (· < w.heap.size) (.agg #[.int .i64 p.kind, .string p.text, .int .i64 p.n, .string p.name, .slice ka p.kids.length cap]) p) := ⟨ka, cap, rfl, hz, hk.kept kA (fun b hb => ⟨hb, fun h => h⟩)⟩
  have S1 : Hid (Safe (· < w.heap.size) Nix w1.heap.size) := fun b hb => ⟨Nat.lt_of_lt_of_le hb kA.size, fun h => h⟩
  have F1 : Hid (Five w.heap.size (.int .i64 p.kind) (.string p.text) (.int .i64 p.n) (.string p.name) (.slice ka p.kids.length cap) w1) := by rw [hw1]; exact heap_alloc_new w _
  obtain ⟨c0, c1, c2, c3, c4, _⟩ := F1.out.cells
  have KA := Lib.hid kA; have HW1 := Lib.hid hw1
  clear kA hz hk hw1
  go_enter Tryz.func27, Tryz.ntmps27
  go_upto_region 1 with fail
  rw [← HW1.out]
  go_wp2_with fail
  refine (refWrong_any p _ _ w1 hsz PV.out S1.out).mono ?_
  rintro e w2 ⟨rfl, K2⟩
  have hwr : refWrongR p = wrongF p := (wrongF_eq p).symm
  rw [hwr]
  have F2 := F1.out.kept K2 (fun h => h)
  obtain ⟨d0, d1, d2, d3, d4, _⟩ := F2.cells
  have KK2 := Lib.hid (KA.out.trans K2)
  have PV2 : Hid (PatV w2 (· < w.heap.size) (.agg #[.int .i64 p.kind, .string p.text, .int .i64 p.n, .string p.name, .slice ka p.kids.length cap]) p) := by
    obtain ⟨x1, x2, x3, x4, x5⟩ := PV.out
    exact ⟨x1, x2, x3, x4, x5.kept K2 S1.out⟩
  have S2 := Lib.hid (S1.out.mono K2.size)
  clear c0 c1 c2 c3 c4 F2 K2 hwr
  by_cases hw : wrongF p = 0
  · have hb : (wrongF p != 0) = false := by rw [hw]; rfl
    obtain ⟨hok, hsz4⟩ := wrong_ok hw
    have hlen := show_len p 2 hok
    have HOK := Lib.hid hok
    have HWZ := Lib.hid hw
    clear hok hw
    go_wp2_with fail
    refine Calls.mono (show_all 4096 p _ _ 2 w2 hsz4 HOK.out PV2.out S2.out (by omega) (by unfold big; omega)) ?_
    rintro e w3 ⟨rfl, K3⟩
    have KK3 := Lib.hid (KK2.out.trans K3)
    clear d0 d1 d2 d3 d4 K3
    by_cases hl : 65536 < (showF p 2).length
    · have hl1 : decide ((65536 : Int) < ((showF p 2).length : Int)) = true := decide_eq_true (by omega)
      have hr : printF p = ([], 4) := by unfold printF; rw [if_neg (by simp [HWZ.out]), if_pos hl]
      have HR := Lib.hid hr
      clear hr hlen
      go_wp2_with fail
      exact bodyPost_ret (v := .tuple #[.string ⟨#[]⟩, .int .i64 4]) (by simp [results, Tryz.results27, go_sem]) rfl ⟨by rw [HR.out], KK3.out⟩
    · have hl1 : decide ((65536 : Int) < ((showF p 2).length : Int)) = false := decide_eq_false (by omega)
      have hr : printF p = (showF p 2, 0) := by unfold printF; rw [if_neg (by simp [HWZ.out]), if_neg hl]
      have HR := Lib.hid hr
      clear hr hlen
      go_wp2_with fail
      exact bodyPost_ret (v := .tuple #[.string ⟨(showF p 2).toArray⟩, .int .i64 0]) (by simp [results, Tryz.results27, go_sem]) rfl ⟨by rw [HR.out], KK3.out⟩
  · have hb : (wrongF p != 0) = true := by simpa using hw
    have hr : printF p = ([], wrongF p) := by unfold printF; rw [if_pos hw]
    have HR := Lib.hid hr
    clear hr
    go_wp2_with fail
    exact bodyPost_ret (v := .tuple #[.string ⟨#[]⟩, .int .i64 (wrongF p)]) (by simp [results, Tryz.results27, go_sem]) rfl ⟨by rw [HR.out], KK2.out⟩
end Go.Proofs.YtcfcdobgpldoiaaGreatDoor
