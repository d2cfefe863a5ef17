/- pats.spell: kinds with a name, or a word alone. -/
import Derived.Test.YtdnglicgmlldlaaDoorSpell2
namespace Go.Proofs.YtdnglicgmlldlaaDoor
open Go.RowKit

set_option maxRecDepth 100000 in
set_option maxHeartbeats 4000000 in
theorem spell_name (N T W : Nat) (S : Nat → Prop) (b o i : Nat) (k : Int) (t : ByteArray) (n : Int) (nm : ByteArray) (kids : List PatT) (l : List UInt8) (w : World) (h : SpI N T W S b o (.mk k t n nm kids) l w) (hn : nodeF (.mk k t n nm kids) = 0) (hl : l.length + (showF (.mk k t n nm kids) i).length ≤ big) (hk : k = 23 ∨ k = 24) :
    SpOk N T W S b o i (.mk k t n nm kids) l w := by
  obtain ⟨hk24, ht, hnn, hnm, _⟩ := node_facts hn
  obtain ⟨hSb, hz, p0, p1, p2, p3, ka, cap, p4, hkk⟩ := h.pat.open
  dsimp only [PatT.kind_mk, PatT.text_mk, PatT.n_mk, PatT.name_mk, PatT.kids_mk] at p0 p1 p2 p3 p4
  unfold big at hl
  unfold SpOk
  have HH := Lib.hid h
  have hN : T ≤ N := h.hT
  have e0 : decide ((i : Int) < 0) = false := by simp
  clear hkk hz hn
  rcases hk with rfl | rfl
  · have hs : showF (.mk 23 t n nm kids) i = 64 :: nm.data.toList := by rw [showF]; rfl
    rw [hs] at hl ⊢
    have hnm1 := hnm (by decide)
    have e1 : nm.data.toList.length = nm.size := rfl
    have hstr : Hid ((⟨#[64]⟩ : ByteArray) ++ nm = ⟨(64 :: nm.data.toList).toArray⟩) := by
      unfold Hid; rw [str64]; show (⟨[64].toArray⟩ : ByteArray) ++ ⟨nm.data.toList.toArray⟩ = _; rw [app_str]; rfl
    have hln : l.length + (⟨(64 :: nm.data.toList).toArray⟩ : ByteArray).size ≤ 140737488355328 := by
      show l.length + (64 :: nm.data.toList).toArray.size ≤ _; rw [List.size_toArray]; omega
    clear hnn hnm hs h ht
    go_enter_defers Tryd.func12, Tryd.ntmps12
    go_wp2_with (go_at_call 30; (rw [hstr.out]); (refine (writeString_any N T l _ _ HH.out.bld hln HH.out.hw).mono ?_); (rintro e w2 ⟨rfl, Q, K2⟩))
    exact ⟨_, results_none rfl _ _ _, rfl, Q, K2⟩
  · have hs : showF (.mk 24 t n nm kids) i = 42 :: nm.data.toList := by rw [showF]; rfl
    rw [hs] at hl ⊢
    have hnm1 := hnm (by decide)
    have e1 : nm.data.toList.length = nm.size := rfl
    have hstr : Hid ((⟨#[42]⟩ : ByteArray) ++ nm = ⟨(42 :: nm.data.toList).toArray⟩) := by
      unfold Hid; rw [str42]; show (⟨[42].toArray⟩ : ByteArray) ++ ⟨nm.data.toList.toArray⟩ = _; rw [app_str]; rfl
    have hln : l.length + (⟨(42 :: nm.data.toList).toArray⟩ : ByteArray).size ≤ 140737488355328 := by
      show l.length + (42 :: nm.data.toList).toArray.size ≤ _; rw [List.size_toArray]; omega
    clear hnn hnm hs h ht
    go_enter_defers Tryd.func12, Tryd.ntmps12
    go_wp2_with (go_at_call 30; (rw [hstr.out]); (refine (writeString_any N T l _ _ HH.out.bld hln HH.out.hw).mono ?_); (rintro e w2 ⟨rfl, Q, K2⟩))
    exact ⟨_, results_none rfl _ _ _, rfl, Q, K2⟩

set_option maxRecDepth 100000 in
set_option maxHeartbeats 4000000 in
theorem spell_word (N T W : Nat) (S : Nat → Prop) (b o i : Nat) (k : Int) (t : ByteArray) (n : Int) (nm : ByteArray) (kids : List PatT) (l : List UInt8) (w : World) (h : SpI N T W S b o (.mk k t n nm kids) l w) (hn : nodeF (.mk k t n nm kids) = 0) (hl : l.length + (showF (.mk k t n nm kids) i).length ≤ big) (hk : k = 12 ∨ k = 13 ∨ k = 14 ∨ k = 15 ∨ k = 16 ∨ k = 17) :
    SpOk N T W S b o i (.mk k t n nm kids) l w := by
  obtain ⟨hk24, ht, hnn, hnm, _⟩ := node_facts hn
  obtain ⟨hSb, hz, p0, p1, p2, p3, ka, cap, p4, hkk⟩ := h.pat.open
  dsimp only [PatT.kind_mk, PatT.text_mk, PatT.n_mk, PatT.name_mk, PatT.kids_mk] at p0 p1 p2 p3 p4
  unfold big at hl
  unfold SpOk
  have HH := Lib.hid h
  have hN : T ≤ N := h.hT
  have e0 : decide ((i : Int) < 0) = false := by simp
  clear hkk hz hn
  rcases hk with rfl | rfl | rfl | rfl | rfl | rfl
  · have hs : showF (.mk 12 t n nm kids) i = wordL 12 := by rw [showF]; rfl
    rw [hs] at hl ⊢
    obtain ⟨x, x0, hx⟩ := HH.out.word 12 (by decide)
    have hw6 := word_len 12
    have hln : l.length + (⟨(wordL 12).toArray⟩ : ByteArray).size ≤ 140737488355328 := by
      show l.length + (wordL 12).toArray.size ≤ _; rw [List.size_toArray]; omega
    clear hnn hnm hs h ht
    go_enter_defers Tryd.func12, Tryd.ntmps12
    go_wp2_with (go_at_call 30; (try rw [hx]); (refine (writeString_any N T l _ _ HH.out.bld hln HH.out.hw).mono ?_); (rintro e w2 ⟨rfl, Q, K2⟩))
    exact ⟨_, results_none rfl _ _ _, rfl, Q, K2⟩
  · have hs : showF (.mk 13 t n nm kids) i = wordL 13 := by rw [showF]; rfl
    rw [hs] at hl ⊢
    obtain ⟨x, x0, hx⟩ := HH.out.word 13 (by decide)
    have hw6 := word_len 13
    have hln : l.length + (⟨(wordL 13).toArray⟩ : ByteArray).size ≤ 140737488355328 := by
      show l.length + (wordL 13).toArray.size ≤ _; rw [List.size_toArray]; omega
    clear hnn hnm hs h ht
    go_enter_defers Tryd.func12, Tryd.ntmps12
    go_wp2_with (go_at_call 30; (try rw [hx]); (refine (writeString_any N T l _ _ HH.out.bld hln HH.out.hw).mono ?_); (rintro e w2 ⟨rfl, Q, K2⟩))
    exact ⟨_, results_none rfl _ _ _, rfl, Q, K2⟩
  · have hs : showF (.mk 14 t n nm kids) i = wordL 14 := by rw [showF]; rfl
    rw [hs] at hl ⊢
    obtain ⟨x, x0, hx⟩ := HH.out.word 14 (by decide)
    have hw6 := word_len 14
    have hln : l.length + (⟨(wordL 14).toArray⟩ : ByteArray).size ≤ 140737488355328 := by
      show l.length + (wordL 14).toArray.size ≤ _; rw [List.size_toArray]; omega
    clear hnn hnm hs h ht
    go_enter_defers Tryd.func12, Tryd.ntmps12
    go_wp2_with (go_at_call 30; (try rw [hx]); (refine (writeString_any N T l _ _ HH.out.bld hln HH.out.hw).mono ?_); (rintro e w2 ⟨rfl, Q, K2⟩))
    exact ⟨_, results_none rfl _ _ _, rfl, Q, K2⟩
  · have hs : showF (.mk 15 t n nm kids) i = wordL 15 := by rw [showF]; rfl
    rw [hs] at hl ⊢
    obtain ⟨x, x0, hx⟩ := HH.out.word 15 (by decide)
    have hw6 := word_len 15
    have hln : l.length + (⟨(wordL 15).toArray⟩ : ByteArray).size ≤ 140737488355328 := by
      show l.length + (wordL 15).toArray.size ≤ _; rw [List.size_toArray]; omega
    clear hnn hnm hs h ht
    go_enter_defers Tryd.func12, Tryd.ntmps12
    go_wp2_with (go_at_call 30; (try rw [hx]); (refine (writeString_any N T l _ _ HH.out.bld hln HH.out.hw).mono ?_); (rintro e w2 ⟨rfl, Q, K2⟩))
    exact ⟨_, results_none rfl _ _ _, rfl, Q, K2⟩
  · have hs : showF (.mk 16 t n nm kids) i = wordL 16 := by rw [showF]; rfl
    rw [hs] at hl ⊢
    obtain ⟨x, x0, hx⟩ := HH.out.word 16 (by decide)
    have hw6 := word_len 16
    have hln : l.length + (⟨(wordL 16).toArray⟩ : ByteArray).size ≤ 140737488355328 := by
      show l.length + (wordL 16).toArray.size ≤ _; rw [List.size_toArray]; omega
    clear hnn hnm hs h ht
    go_enter_defers Tryd.func12, Tryd.ntmps12
    go_wp2_with (go_at_call 30; (try rw [hx]); (refine (writeString_any N T l _ _ HH.out.bld hln HH.out.hw).mono ?_); (rintro e w2 ⟨rfl, Q, K2⟩))
    exact ⟨_, results_none rfl _ _ _, rfl, Q, K2⟩
  · have hs : showF (.mk 17 t n nm kids) i = wordL 17 := by rw [showF]; rfl
    rw [hs] at hl ⊢
    obtain ⟨x, x0, hx⟩ := HH.out.word 17 (by decide)
    have hw6 := word_len 17
    have hln : l.length + (⟨(wordL 17).toArray⟩ : ByteArray).size ≤ 140737488355328 := by
      show l.length + (wordL 17).toArray.size ≤ _; rw [List.size_toArray]; omega
    clear hnn hnm hs h ht
    go_enter_defers Tryd.func12, Tryd.ntmps12
    go_wp2_with (go_at_call 30; (try rw [hx]); (refine (writeString_any N T l _ _ HH.out.bld hln HH.out.hw).mono ?_); (rintro e w2 ⟨rfl, Q, K2⟩))
    exact ⟨_, results_none rfl _ _ _, rfl, Q, K2⟩
end Go.Proofs.YtdnglicgmlldlaaDoor
