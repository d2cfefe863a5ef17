/- The document's Show: kinds with a name, or a word alone. -/
import Derived.Test.YtdnglicgmlldlaaDoorShow2
namespace Go.Proofs.YtdnglicgmlldlaaDoor
open Go.RowKit

set_option maxRecDepth 100000 in
set_option maxHeartbeats 4000000 in
theorem show_name (i : Nat) (k : Int) (t : ByteArray) (n : Int) (nm : ByteArray) (kids : List PatT) (ka : Option Addr) (cap : Nat) (S : Nat → Prop) (w : World) (hkk : PatsAt w S ka kids) (hsf : Safe S Nix w.heap.size) (hn : nodeF (.mk k t n nm kids) = 0) (hl : (showF (.mk k t n nm kids) i).length ≤ big) (hk : k = 23 ∨ k = 24) :
    ShOk (.mk k t n nm kids) i (.agg #[.int .i64 k, .string t, .int .i64 n, .string nm, .slice ka kids.length cap]) w := by
  obtain ⟨hk24, ht, hnn, hnm, _⟩ := node_facts hn
  unfold ShOk
  unfold big at hl
  rcases hk with rfl | rfl
  · have hs : showF (.mk 23 t n nm kids) i = 64 :: nm.data.toList := by rw [showF]; rfl
    rw [hs] at hl ⊢
    have hnm1 := hnm (by decide)
    have fin : Hid ((⟨#[64]⟩ : ByteArray) ++ nm = ⟨(64 :: nm.data.toList).toArray⟩) := by
      unfold Hid; show (⟨[64].toArray⟩ : ByteArray) ++ ⟨nm.data.toList.toArray⟩ = _; rw [app_str]; rfl
    clear ht hnn hnm hs
    have dT : decide (isTextK 23) = false := by decide
    have dN : decide (isNumK 23) = false := by decide
    have I00 := ShI.start (p := .mk 23 t n nm kids) (cap := cap) hkk hsf
    dsimp only [PatT.kind_mk, PatT.text_mk, PatT.n_mk, PatT.name_mk, PatT.kids_mk] at I00
    obtain ⟨w0, hw0⟩ : ∃ w0, w0 = (w.alloc (.cells #[.int .i64 23, .string t, .int .i64 n, .string nm, .slice ka kids.length cap] 24)) := ⟨_, rfl⟩
    rw [← hw0] at I00
    obtain ⟨c0, c1, c2, c3, c4, _⟩ := I00.five.cells
    dsimp only [PatT.kind_mk, PatT.text_mk, PatT.n_mk, PatT.name_mk, PatT.kids_mk] at c0 c1 c2 c3 c4
    have I0 := Lib.hid I00; have HW0 := Lib.hid hw0
    clear I00 hw0 hkk hsf hn
    go_enter Tryd.func17, Tryd.ntmps17
    go_upto_region 2 with fail
    rw [← HW0.out]
    go_wp2_with fail
    refine (texts_any 23 _).mono ?_
    rintro e w1 ⟨rfl, k_⟩
    have I1 := Lib.hid (I0.out.next k_)
    rw [dT]
    clear k_ c0 c1 c2 c3 c4
    obtain ⟨c0, c1, c2, c3, c4, _⟩ := I1.out.five.cells
    dsimp only [PatT.kind_mk, PatT.text_mk, PatT.n_mk, PatT.name_mk, PatT.kids_mk] at c0 c1 c2 c3 c4
    go_wp2_with fail
    refine (numbers_any 23 _).mono ?_
    rintro e w2 ⟨rfl, k_⟩
    have I2 := Lib.hid (I1.out.next k_)
    rw [dN]
    clear k_ c0 c1 c2 c3 c4
    obtain ⟨c0, c1, c2, c3, c4, _⟩ := I2.out.five.cells
    dsimp only [PatT.kind_mk, PatT.text_mk, PatT.n_mk, PatT.name_mk, PatT.kids_mk] at c0 c1 c2 c3 c4
    go_wp2_with fail
    go_ret
    exact ⟨str_ret fin.out, I2.out.base⟩
  · have hs : showF (.mk 24 t n nm kids) i = 42 :: nm.data.toList := by rw [showF]; rfl
    rw [hs] at hl ⊢
    have hnm1 := hnm (by decide)
    have fin : Hid ((⟨#[42]⟩ : ByteArray) ++ nm = ⟨(42 :: nm.data.toList).toArray⟩) := by
      unfold Hid; show (⟨[42].toArray⟩ : ByteArray) ++ ⟨nm.data.toList.toArray⟩ = _; rw [app_str]; rfl
    clear ht hnn hnm hs
    have dT : decide (isTextK 24) = false := by decide
    have dN : decide (isNumK 24) = false := by decide
    have I00 := ShI.start (p := .mk 24 t n nm kids) (cap := cap) hkk hsf
    dsimp only [PatT.kind_mk, PatT.text_mk, PatT.n_mk, PatT.name_mk, PatT.kids_mk] at I00
    obtain ⟨w0, hw0⟩ : ∃ w0, w0 = (w.alloc (.cells #[.int .i64 24, .string t, .int .i64 n, .string nm, .slice ka kids.length cap] 24)) := ⟨_, rfl⟩
    rw [← hw0] at I00
    obtain ⟨c0, c1, c2, c3, c4, _⟩ := I00.five.cells
    dsimp only [PatT.kind_mk, PatT.text_mk, PatT.n_mk, PatT.name_mk, PatT.kids_mk] at c0 c1 c2 c3 c4
    have I0 := Lib.hid I00; have HW0 := Lib.hid hw0
    clear I00 hw0 hkk hsf hn
    go_enter Tryd.func17, Tryd.ntmps17
    go_upto_region 2 with fail
    rw [← HW0.out]
    go_wp2_with fail
    refine (texts_any 24 _).mono ?_
    rintro e w1 ⟨rfl, k_⟩
    have I1 := Lib.hid (I0.out.next k_)
    rw [dT]
    clear k_ c0 c1 c2 c3 c4
    obtain ⟨c0, c1, c2, c3, c4, _⟩ := I1.out.five.cells
    dsimp only [PatT.kind_mk, PatT.text_mk, PatT.n_mk, PatT.name_mk, PatT.kids_mk] at c0 c1 c2 c3 c4
    go_wp2_with fail
    refine (numbers_any 24 _).mono ?_
    rintro e w2 ⟨rfl, k_⟩
    have I2 := Lib.hid (I1.out.next k_)
    rw [dN]
    clear k_ c0 c1 c2 c3 c4
    obtain ⟨c0, c1, c2, c3, c4, _⟩ := I2.out.five.cells
    dsimp only [PatT.kind_mk, PatT.text_mk, PatT.n_mk, PatT.name_mk, PatT.kids_mk] at c0 c1 c2 c3 c4
    go_wp2_with fail
    go_ret
    exact ⟨str_ret fin.out, I2.out.base⟩

set_option maxRecDepth 100000 in
set_option maxHeartbeats 4000000 in
theorem show_word (i : Nat) (k : Int) (t : ByteArray) (n : Int) (nm : ByteArray) (kids : List PatT) (ka : Option Addr) (cap : Nat) (S : Nat → Prop) (w : World) (hkk : PatsAt w S ka kids) (hsf : Safe S Nix w.heap.size) (hn : nodeF (.mk k t n nm kids) = 0) (hl : (showF (.mk k t n nm kids) i).length ≤ big) (hk : k = 12 ∨ k = 13 ∨ k = 14 ∨ k = 15 ∨ k = 16 ∨ k = 17) :
    ShOk (.mk k t n nm kids) i (.agg #[.int .i64 k, .string t, .int .i64 n, .string nm, .slice ka kids.length cap]) w := by
  obtain ⟨hk24, ht, hnn, hnm, _⟩ := node_facts hn
  unfold ShOk
  unfold big at hl
  rcases hk with rfl | rfl | rfl | rfl | rfl | rfl
  · have hs : showF (.mk 12 t n nm kids) i = wordL 12 := by rw [showF]; rfl
    rw [hs] at hl ⊢
    clear ht hnn hnm hs
    have dT : decide (isTextK 12) = false := by decide
    have dN : decide (isNumK 12) = false := by decide
    have I00 := ShI.start (p := .mk 12 t n nm kids) (cap := cap) hkk hsf
    dsimp only [PatT.kind_mk, PatT.text_mk, PatT.n_mk, PatT.name_mk, PatT.kids_mk] at I00
    obtain ⟨w0, hw0⟩ : ∃ w0, w0 = (w.alloc (.cells #[.int .i64 12, .string t, .int .i64 n, .string nm, .slice ka kids.length cap] 24)) := ⟨_, rfl⟩
    rw [← hw0] at I00
    obtain ⟨c0, c1, c2, c3, c4, _⟩ := I00.five.cells
    dsimp only [PatT.kind_mk, PatT.text_mk, PatT.n_mk, PatT.name_mk, PatT.kids_mk] at c0 c1 c2 c3 c4
    have I0 := Lib.hid I00; have HW0 := Lib.hid hw0
    clear I00 hw0 hkk hsf hn
    go_enter Tryd.func17, Tryd.ntmps17
    go_upto_region 2 with fail
    rw [← HW0.out]
    go_wp2_with fail
    refine (texts_any 12 _).mono ?_
    rintro e w1 ⟨rfl, k_⟩
    have I1 := Lib.hid (I0.out.next k_)
    rw [dT]
    clear k_ c0 c1 c2 c3 c4
    obtain ⟨c0, c1, c2, c3, c4, _⟩ := I1.out.five.cells
    dsimp only [PatT.kind_mk, PatT.text_mk, PatT.n_mk, PatT.name_mk, PatT.kids_mk] at c0 c1 c2 c3 c4
    go_wp2_with fail
    refine (numbers_any 12 _).mono ?_
    rintro e w2 ⟨rfl, k_⟩
    have I2 := Lib.hid (I1.out.next k_)
    rw [dN]
    clear k_ c0 c1 c2 c3 c4
    obtain ⟨c0, c1, c2, c3, c4, _⟩ := I2.out.five.cells
    dsimp only [PatT.kind_mk, PatT.text_mk, PatT.n_mk, PatT.name_mk, PatT.kids_mk] at c0 c1 c2 c3 c4
    go_wp2_with fail
    refine (sword_any 12 (by decide) _).mono ?_
    rintro e w3 ⟨rfl, K3⟩
    have I3 := Lib.hid (I2.out.next K3)
    go_wp2_with fail
    go_ret
    exact ⟨rfl, I3.out.base⟩
  · have hs : showF (.mk 13 t n nm kids) i = wordL 13 := by rw [showF]; rfl
    rw [hs] at hl ⊢
    clear ht hnn hnm hs
    have dT : decide (isTextK 13) = false := by decide
    have dN : decide (isNumK 13) = false := by decide
    have I00 := ShI.start (p := .mk 13 t n nm kids) (cap := cap) hkk hsf
    dsimp only [PatT.kind_mk, PatT.text_mk, PatT.n_mk, PatT.name_mk, PatT.kids_mk] at I00
    obtain ⟨w0, hw0⟩ : ∃ w0, w0 = (w.alloc (.cells #[.int .i64 13, .string t, .int .i64 n, .string nm, .slice ka kids.length cap] 24)) := ⟨_, rfl⟩
    rw [← hw0] at I00
    obtain ⟨c0, c1, c2, c3, c4, _⟩ := I00.five.cells
    dsimp only [PatT.kind_mk, PatT.text_mk, PatT.n_mk, PatT.name_mk, PatT.kids_mk] at c0 c1 c2 c3 c4
    have I0 := Lib.hid I00; have HW0 := Lib.hid hw0
    clear I00 hw0 hkk hsf hn
    go_enter Tryd.func17, Tryd.ntmps17
    go_upto_region 2 with fail
    rw [← HW0.out]
    go_wp2_with fail
    refine (texts_any 13 _).mono ?_
    rintro e w1 ⟨rfl, k_⟩
    have I1 := Lib.hid (I0.out.next k_)
    rw [dT]
    clear k_ c0 c1 c2 c3 c4
    obtain ⟨c0, c1, c2, c3, c4, _⟩ := I1.out.five.cells
    dsimp only [PatT.kind_mk, PatT.text_mk, PatT.n_mk, PatT.name_mk, PatT.kids_mk] at c0 c1 c2 c3 c4
    go_wp2_with fail
    refine (numbers_any 13 _).mono ?_
    rintro e w2 ⟨rfl, k_⟩
    have I2 := Lib.hid (I1.out.next k_)
    rw [dN]
    clear k_ c0 c1 c2 c3 c4
    obtain ⟨c0, c1, c2, c3, c4, _⟩ := I2.out.five.cells
    dsimp only [PatT.kind_mk, PatT.text_mk, PatT.n_mk, PatT.name_mk, PatT.kids_mk] at c0 c1 c2 c3 c4
    go_wp2_with fail
    refine (sword_any 13 (by decide) _).mono ?_
    rintro e w3 ⟨rfl, K3⟩
    have I3 := Lib.hid (I2.out.next K3)
    go_wp2_with fail
    go_ret
    exact ⟨rfl, I3.out.base⟩
  · have hs : showF (.mk 14 t n nm kids) i = wordL 14 := by rw [showF]; rfl
    rw [hs] at hl ⊢
    clear ht hnn hnm hs
    have dT : decide (isTextK 14) = false := by decide
    have dN : decide (isNumK 14) = false := by decide
    have I00 := ShI.start (p := .mk 14 t n nm kids) (cap := cap) hkk hsf
    dsimp only [PatT.kind_mk, PatT.text_mk, PatT.n_mk, PatT.name_mk, PatT.kids_mk] at I00
    obtain ⟨w0, hw0⟩ : ∃ w0, w0 = (w.alloc (.cells #[.int .i64 14, .string t, .int .i64 n, .string nm, .slice ka kids.length cap] 24)) := ⟨_, rfl⟩
    rw [← hw0] at I00
    obtain ⟨c0, c1, c2, c3, c4, _⟩ := I00.five.cells
    dsimp only [PatT.kind_mk, PatT.text_mk, PatT.n_mk, PatT.name_mk, PatT.kids_mk] at c0 c1 c2 c3 c4
    have I0 := Lib.hid I00; have HW0 := Lib.hid hw0
    clear I00 hw0 hkk hsf hn
    go_enter Tryd.func17, Tryd.ntmps17
    go_upto_region 2 with fail
    rw [← HW0.out]
    go_wp2_with fail
    refine (texts_any 14 _).mono ?_
    rintro e w1 ⟨rfl, k_⟩
    have I1 := Lib.hid (I0.out.next k_)
    rw [dT]
    clear k_ c0 c1 c2 c3 c4
    obtain ⟨c0, c1, c2, c3, c4, _⟩ := I1.out.five.cells
    dsimp only [PatT.kind_mk, PatT.text_mk, PatT.n_mk, PatT.name_mk, PatT.kids_mk] at c0 c1 c2 c3 c4
    go_wp2_with fail
    refine (numbers_any 14 _).mono ?_
    rintro e w2 ⟨rfl, k_⟩
    have I2 := Lib.hid (I1.out.next k_)
    rw [dN]
    clear k_ c0 c1 c2 c3 c4
    obtain ⟨c0, c1, c2, c3, c4, _⟩ := I2.out.five.cells
    dsimp only [PatT.kind_mk, PatT.text_mk, PatT.n_mk, PatT.name_mk, PatT.kids_mk] at c0 c1 c2 c3 c4
    go_wp2_with fail
    refine (sword_any 14 (by decide) _).mono ?_
    rintro e w3 ⟨rfl, K3⟩
    have I3 := Lib.hid (I2.out.next K3)
    go_wp2_with fail
    go_ret
    exact ⟨rfl, I3.out.base⟩
  · have hs : showF (.mk 15 t n nm kids) i = wordL 15 := by rw [showF]; rfl
    rw [hs] at hl ⊢
    clear ht hnn hnm hs
    have dT : decide (isTextK 15) = false := by decide
    have dN : decide (isNumK 15) = false := by decide
    have I00 := ShI.start (p := .mk 15 t n nm kids) (cap := cap) hkk hsf
    dsimp only [PatT.kind_mk, PatT.text_mk, PatT.n_mk, PatT.name_mk, PatT.kids_mk] at I00
    obtain ⟨w0, hw0⟩ : ∃ w0, w0 = (w.alloc (.cells #[.int .i64 15, .string t, .int .i64 n, .string nm, .slice ka kids.length cap] 24)) := ⟨_, rfl⟩
    rw [← hw0] at I00
    obtain ⟨c0, c1, c2, c3, c4, _⟩ := I00.five.cells
    dsimp only [PatT.kind_mk, PatT.text_mk, PatT.n_mk, PatT.name_mk, PatT.kids_mk] at c0 c1 c2 c3 c4
    have I0 := Lib.hid I00; have HW0 := Lib.hid hw0
    clear I00 hw0 hkk hsf hn
    go_enter Tryd.func17, Tryd.ntmps17
    go_upto_region 2 with fail
    rw [← HW0.out]
    go_wp2_with fail
    refine (texts_any 15 _).mono ?_
    rintro e w1 ⟨rfl, k_⟩
    have I1 := Lib.hid (I0.out.next k_)
    rw [dT]
    clear k_ c0 c1 c2 c3 c4
    obtain ⟨c0, c1, c2, c3, c4, _⟩ := I1.out.five.cells
    dsimp only [PatT.kind_mk, PatT.text_mk, PatT.n_mk, PatT.name_mk, PatT.kids_mk] at c0 c1 c2 c3 c4
    go_wp2_with fail
    refine (numbers_any 15 _).mono ?_
    rintro e w2 ⟨rfl, k_⟩
    have I2 := Lib.hid (I1.out.next k_)
    rw [dN]
    clear k_ c0 c1 c2 c3 c4
    obtain ⟨c0, c1, c2, c3, c4, _⟩ := I2.out.five.cells
    dsimp only [PatT.kind_mk, PatT.text_mk, PatT.n_mk, PatT.name_mk, PatT.kids_mk] at c0 c1 c2 c3 c4
    go_wp2_with fail
    refine (sword_any 15 (by decide) _).mono ?_
    rintro e w3 ⟨rfl, K3⟩
    have I3 := Lib.hid (I2.out.next K3)
    go_wp2_with fail
    go_ret
    exact ⟨rfl, I3.out.base⟩
  · have hs : showF (.mk 16 t n nm kids) i = wordL 16 := by rw [showF]; rfl
    rw [hs] at hl ⊢
    clear ht hnn hnm hs
    have dT : decide (isTextK 16) = false := by decide
    have dN : decide (isNumK 16) = false := by decide
    have I00 := ShI.start (p := .mk 16 t n nm kids) (cap := cap) hkk hsf
    dsimp only [PatT.kind_mk, PatT.text_mk, PatT.n_mk, PatT.name_mk, PatT.kids_mk] at I00
    obtain ⟨w0, hw0⟩ : ∃ w0, w0 = (w.alloc (.cells #[.int .i64 16, .string t, .int .i64 n, .string nm, .slice ka kids.length cap] 24)) := ⟨_, rfl⟩
    rw [← hw0] at I00
    obtain ⟨c0, c1, c2, c3, c4, _⟩ := I00.five.cells
    dsimp only [PatT.kind_mk, PatT.text_mk, PatT.n_mk, PatT.name_mk, PatT.kids_mk] at c0 c1 c2 c3 c4
    have I0 := Lib.hid I00; have HW0 := Lib.hid hw0
    clear I00 hw0 hkk hsf hn
    go_enter Tryd.func17, Tryd.ntmps17
    go_upto_region 2 with fail
    rw [← HW0.out]
    go_wp2_with fail
    refine (texts_any 16 _).mono ?_
    rintro e w1 ⟨rfl, k_⟩
    have I1 := Lib.hid (I0.out.next k_)
    rw [dT]
    clear k_ c0 c1 c2 c3 c4
    obtain ⟨c0, c1, c2, c3, c4, _⟩ := I1.out.five.cells
    dsimp only [PatT.kind_mk, PatT.text_mk, PatT.n_mk, PatT.name_mk, PatT.kids_mk] at c0 c1 c2 c3 c4
    go_wp2_with fail
    refine (numbers_any 16 _).mono ?_
    rintro e w2 ⟨rfl, k_⟩
    have I2 := Lib.hid (I1.out.next k_)
    rw [dN]
    clear k_ c0 c1 c2 c3 c4
    obtain ⟨c0, c1, c2, c3, c4, _⟩ := I2.out.five.cells
    dsimp only [PatT.kind_mk, PatT.text_mk, PatT.n_mk, PatT.name_mk, PatT.kids_mk] at c0 c1 c2 c3 c4
    go_wp2_with fail
    refine (sword_any 16 (by decide) _).mono ?_
    rintro e w3 ⟨rfl, K3⟩
    have I3 := Lib.hid (I2.out.next K3)
    go_wp2_with fail
    go_ret
    exact ⟨rfl, I3.out.base⟩
  · have hs : showF (.mk 17 t n nm kids) i = wordL 17 := by rw [showF]; rfl
    rw [hs] at hl ⊢
    clear ht hnn hnm hs
    have dT : decide (isTextK 17) = false := by decide
    have dN : decide (isNumK 17) = false := by decide
    have I00 := ShI.start (p := .mk 17 t n nm kids) (cap := cap) hkk hsf
    dsimp only [PatT.kind_mk, PatT.text_mk, PatT.n_mk, PatT.name_mk, PatT.kids_mk] at I00
    obtain ⟨w0, hw0⟩ : ∃ w0, w0 = (w.alloc (.cells #[.int .i64 17, .string t, .int .i64 n, .string nm, .slice ka kids.length cap] 24)) := ⟨_, rfl⟩
    rw [← hw0] at I00
    obtain ⟨c0, c1, c2, c3, c4, _⟩ := I00.five.cells
    dsimp only [PatT.kind_mk, PatT.text_mk, PatT.n_mk, PatT.name_mk, PatT.kids_mk] at c0 c1 c2 c3 c4
    have I0 := Lib.hid I00; have HW0 := Lib.hid hw0
    clear I00 hw0 hkk hsf hn
    go_enter Tryd.func17, Tryd.ntmps17
    go_upto_region 2 with fail
    rw [← HW0.out]
    go_wp2_with fail
    refine (texts_any 17 _).mono ?_
    rintro e w1 ⟨rfl, k_⟩
    have I1 := Lib.hid (I0.out.next k_)
    rw [dT]
    clear k_ c0 c1 c2 c3 c4
    obtain ⟨c0, c1, c2, c3, c4, _⟩ := I1.out.five.cells
    dsimp only [PatT.kind_mk, PatT.text_mk, PatT.n_mk, PatT.name_mk, PatT.kids_mk] at c0 c1 c2 c3 c4
    go_wp2_with fail
    refine (numbers_any 17 _).mono ?_
    rintro e w2 ⟨rfl, k_⟩
    have I2 := Lib.hid (I1.out.next k_)
    rw [dN]
    clear k_ c0 c1 c2 c3 c4
    obtain ⟨c0, c1, c2, c3, c4, _⟩ := I2.out.five.cells
    dsimp only [PatT.kind_mk, PatT.text_mk, PatT.n_mk, PatT.name_mk, PatT.kids_mk] at c0 c1 c2 c3 c4
    go_wp2_with fail
    refine (sword_any 17 (by decide) _).mono ?_
    rintro e w3 ⟨rfl, K3⟩
    have I3 := Lib.hid (I2.out.next K3)
    go_wp2_with fail
    go_ret
    exact ⟨rfl, I3.out.base⟩
end Go.Proofs.YtdnglicgmlldlaaDoor
