/- pats.spell: kinds with a name, or a word alone. pats.spell: kinds with one kid. pats.spell: pieces and alternatives. pats.spell: alternatives. -/
import Derived.Test.YtcfcdobgpldoiaaGreatDoorSpell2
import Derived.Test.YtcfcdobgpldoiaaGreatDoorBldD
namespace Go.Proofs.YtcfcdobgpldoiaaGreatDoor
set_option linter.all false
open Go.RowKit

set_option maxRecDepth 100000 in
set_option maxHeartbeats 4000000 in
theorem spell_name (N T W : Nat) (S : Nat → Prop) (b o i : Nat) (k : Int) (t : ByteArray) (n : Int) (nm : ByteArray) (kids : List PatT) (l : List UInt8) (w : World) (h : SpI N T W S b o (.mk k t n nm kids) l w) (hn : nodeF (.mk k t n nm kids) = 0) (hl : l.length + (showF (.mk k t n nm kids) i).length ≤ big) (hk : k = 23 ∨ k = 24) :
    SpOk N T W S b o i (.mk k t n nm kids) l w := by
  obtain ⟨hk24, ht, hnn, hnm, _⟩ := node_facts hn
  obtain ⟨hSb, hz, p0, p1, p2, p3, ka, cap, p4, hkk⟩ := h.pat.open
  dsimp only [PatT.kind_mk, PatT.text_mk, PatT.n_mk, PatT.name_mk, PatT.kids_mk] at p0 p1 p2 p3 p4
  unfold big at hl
  unfold SpOk
  have HH := Lib.hid h
  have hN : T ≤ N := h.hT
  have e0 : decide ((i : Int) < 0) = false := by simp
  clear hkk hz hn
  rcases hk with rfl | rfl
  · have hs : showF (.mk 23 t n nm kids) i = 64 :: nm.data.toList := by rw [showF]; rfl
    rw [hs] at hl ⊢
    have hnm1 := hnm (by decide)
    have e1 : nm.data.toList.length = nm.size := rfl
    have hstr : Hid ((⟨#[64]⟩ : ByteArray) ++ nm = ⟨(64 :: nm.data.toList).toArray⟩) := by
      unfold Hid; rw [str64]; show (⟨[64].toArray⟩ : ByteArray) ++ ⟨nm.data.toList.toArray⟩ = _; rw [app_str]; rfl
    have hln : l.length + (⟨(64 :: nm.data.toList).toArray⟩ : ByteArray).size ≤ 140737488355328 := by
      show l.length + (64 :: nm.data.toList).toArray.size ≤ _; rw [List.size_toArray]; omega
    clear hnn hnm hs h ht
    go_enter_defers Tryz.func41, Tryz.ntmps41
    go_wp2_with (go_at_call 30; (rw [hstr.out]); (refine (writeString_any N T l _ _ HH.out.bld hln HH.out.hw).mono ?_); (rintro e w2 ⟨rfl, Q, K2⟩))
    exact ⟨_, results_none rfl _ _ _, rfl, Q, K2⟩
  · have hs : showF (.mk 24 t n nm kids) i = 42 :: nm.data.toList := by rw [showF]; rfl
    rw [hs] at hl ⊢
    have hnm1 := hnm (by decide)
    have e1 : nm.data.toList.length = nm.size := rfl
    have hstr : Hid ((⟨#[42]⟩ : ByteArray) ++ nm = ⟨(42 :: nm.data.toList).toArray⟩) := by
      unfold Hid; rw [str42]; show (⟨[42].toArray⟩ : ByteArray) ++ ⟨nm.data.toList.toArray⟩ = _; rw [app_str]; rfl
    have hln : l.length + (⟨(42 :: nm.data.toList).toArray⟩ : ByteArray).size ≤ 140737488355328 := by
      show l.length + (42 :: nm.data.toList).toArray.size ≤ _; rw [List.size_toArray]; omega
    clear hnn hnm hs h ht
    go_enter_defers Tryz.func41, Tryz.ntmps41
    go_wp2_with (go_at_call 30; (rw [hstr.out]); (refine (writeString_any N T l _ _ HH.out.bld hln HH.out.hw).mono ?_); (rintro e w2 ⟨rfl, Q, K2⟩))
    exact ⟨_, results_none rfl _ _ _, rfl, Q, K2⟩

set_option maxRecDepth 100000 in
set_option maxHeartbeats 4000000 in
theorem spell_word (N T W : Nat) (S : Nat → Prop) (b o i : Nat) (k : Int) (t : ByteArray) (n : Int) (nm : ByteArray) (kids : List PatT) (l : List UInt8) (w : World) (h : SpI N T W S b o (.mk k t n nm kids) l w) (hn : nodeF (.mk k t n nm kids) = 0) (hl : l.length + (showF (.mk k t n nm kids) i).length ≤ big) (hk : k = 12 ∨ k = 13 ∨ k = 14 ∨ k = 15 ∨ k = 16 ∨ k = 17) :
    SpOk N T W S b o i (.mk k t n nm kids) l w := by
  obtain ⟨hk24, ht, hnn, hnm, _⟩ := node_facts hn
  obtain ⟨hSb, hz, p0, p1, p2, p3, ka, cap, p4, hkk⟩ := h.pat.open
  dsimp only [PatT.kind_mk, PatT.text_mk, PatT.n_mk, PatT.name_mk, PatT.kids_mk] at p0 p1 p2 p3 p4
  unfold big at hl
  unfold SpOk
  have HH := Lib.hid h
  have hN : T ≤ N := h.hT
  have e0 : decide ((i : Int) < 0) = false := by simp
  clear hkk hz hn
  rcases hk with rfl | rfl | rfl | rfl | rfl | rfl
  · have hs : showF (.mk 12 t n nm kids) i = wordL 12 := by rw [showF]; rfl
    rw [hs] at hl ⊢
    obtain ⟨x, x0, hx⟩ := HH.out.word 12 (by decide)
    have hw6 := word_len 12
    have hln : l.length + (⟨(wordL 12).toArray⟩ : ByteArray).size ≤ 140737488355328 := by
      show l.length + (wordL 12).toArray.size ≤ _; rw [List.size_toArray]; omega
    clear hnn hnm hs h ht
    go_enter_defers Tryz.func41, Tryz.ntmps41
    go_wp2_with (go_at_call 30; (try rw [hx]); (refine (writeString_any N T l _ _ HH.out.bld hln HH.out.hw).mono ?_); (rintro e w2 ⟨rfl, Q, K2⟩))
    exact ⟨_, results_none rfl _ _ _, rfl, Q, K2⟩
  · have hs : showF (.mk 13 t n nm kids) i = wordL 13 := by rw [showF]; rfl
    rw [hs] at hl ⊢
    obtain ⟨x, x0, hx⟩ := HH.out.word 13 (by decide)
    have hw6 := word_len 13
    have hln : l.length + (⟨(wordL 13).toArray⟩ : ByteArray).size ≤ 140737488355328 := by
      show l.length + (wordL 13).toArray.size ≤ _; rw [List.size_toArray]; omega
    clear hnn hnm hs h ht
    go_enter_defers Tryz.func41, Tryz.ntmps41
    go_wp2_with (go_at_call 30; (try rw [hx]); (refine (writeString_any N T l _ _ HH.out.bld hln HH.out.hw).mono ?_); (rintro e w2 ⟨rfl, Q, K2⟩))
    exact ⟨_, results_none rfl _ _ _, rfl, Q, K2⟩
  · have hs : showF (.mk 14 t n nm kids) i = wordL 14 := by rw [showF]; rfl
    rw [hs] at hl ⊢
    obtain ⟨x, x0, hx⟩ := HH.out.word 14 (by decide)
    have hw6 := word_len 14
    have hln : l.length + (⟨(wordL 14).toArray⟩ : ByteArray).size ≤ 140737488355328 := by
      show l.length + (wordL 14).toArray.size ≤ _; rw [List.size_toArray]; omega
    clear hnn hnm hs h ht
    go_enter_defers Tryz.func41, Tryz.ntmps41
    go_wp2_with (go_at_call 30; (try rw [hx]); (refine (writeString_any N T l _ _ HH.out.bld hln HH.out.hw).mono ?_); (rintro e w2 ⟨rfl, Q, K2⟩))
    exact ⟨_, results_none rfl _ _ _, rfl, Q, K2⟩
  · have hs : showF (.mk 15 t n nm kids) i = wordL 15 := by rw [showF]; rfl
    rw [hs] at hl ⊢
    obtain ⟨x, x0, hx⟩ := HH.out.word 15 (by decide)
    have hw6 := word_len 15
    have hln : l.length + (⟨(wordL 15).toArray⟩ : ByteArray).size ≤ 140737488355328 := by
      show l.length + (wordL 15).toArray.size ≤ _; rw [List.size_toArray]; omega
    clear hnn hnm hs h ht
    go_enter_defers Tryz.func41, Tryz.ntmps41
    go_wp2_with (go_at_call 30; (try rw [hx]); (refine (writeString_any N T l _ _ HH.out.bld hln HH.out.hw).mono ?_); (rintro e w2 ⟨rfl, Q, K2⟩))
    exact ⟨_, results_none rfl _ _ _, rfl, Q, K2⟩
  · have hs : showF (.mk 16 t n nm kids) i = wordL 16 := by rw [showF]; rfl
    rw [hs] at hl ⊢
    obtain ⟨x, x0, hx⟩ := HH.out.word 16 (by decide)
    have hw6 := word_len 16
    have hln : l.length + (⟨(wordL 16).toArray⟩ : ByteArray).size ≤ 140737488355328 := by
      show l.length + (wordL 16).toArray.size ≤ _; rw [List.size_toArray]; omega
    clear hnn hnm hs h ht
    go_enter_defers Tryz.func41, Tryz.ntmps41
    go_wp2_with (go_at_call 30; (try rw [hx]); (refine (writeString_any N T l _ _ HH.out.bld hln HH.out.hw).mono ?_); (rintro e w2 ⟨rfl, Q, K2⟩))
    exact ⟨_, results_none rfl _ _ _, rfl, Q, K2⟩
  · have hs : showF (.mk 17 t n nm kids) i = wordL 17 := by rw [showF]; rfl
    rw [hs] at hl ⊢
    obtain ⟨x, x0, hx⟩ := HH.out.word 17 (by decide)
    have hw6 := word_len 17
    have hln : l.length + (⟨(wordL 17).toArray⟩ : ByteArray).size ≤ 140737488355328 := by
      show l.length + (wordL 17).toArray.size ≤ _; rw [List.size_toArray]; omega
    clear hnn hnm hs h ht
    go_enter_defers Tryz.func41, Tryz.ntmps41
    go_wp2_with (go_at_call 30; (try rw [hx]); (refine (writeString_any N T l _ _ HH.out.bld hln HH.out.hw).mono ?_); (rintro e w2 ⟨rfl, Q, K2⟩))
    exact ⟨_, results_none rfl _ _ _, rfl, Q, K2⟩
end Go.Proofs.YtcfcdobgpldoiaaGreatDoor

namespace Go.Proofs.YtcfcdobgpldoiaaGreatDoor
set_option linter.all false
open Go.RowKit

theorem SpI.kid {N T W : Nat} {S : Nat → Prop} {b o : Nat} {k n : Int} {t nm : ByteArray} {kids : List PatT} {l : List UInt8} {w : World} (h : SpI N T W S b o (.mk k t n nm kids) l w) (j : Nat) (hj : j < kids.length) :
    ∃ kb ko cap, w.cell? ⟨b, o + 4, none⟩ = some (.slice (some ⟨kb, ko, none⟩) kids.length cap) ∧ SpI N T W S kb (ko + j * 5) kids[j] l w := by
  obtain ⟨_, _, _, _, _, _, ka, cap, p4, hk⟩ := h.pat.open
  dsimp only [PatT.kids_mk] at p4 hk
  obtain ⟨kb, ko, rfl⟩ := PatsAt_head hk (by omega)
  exact ⟨kb, ko, cap, p4, h.bld, h.wd, h.gl, h.hw, PatsAt_get kids kb ko j hj hk, h.hS, h.hT, h.hWN, h.hg⟩
theorem writeByte_at (N T : Nat) (l : List UInt8) (c : UInt8) (v : Int) (hv : v = c.toNat) (w : World) (h : Bld N T l w) (hl : l.length + 1 ≤ 140737488355328) (hT : T ≤ w.heap.size) :
    Calls Tryz.prog 55 #[.pointer (some ⟨N, 0, none⟩), .int .u8 v] w (WrPost N T (l ++ [c]) .nilIface w) := by
  subst hv; exact writeByte_any N T l c w h hl hT
def SpIH (N T W : Nat) (S : Nat → Prop) (kids : List PatT) : Prop :=
  ∀ (j : Nat) (hj : j < kids.length) (b o i : Nat) (l : List UInt8) (w : World), SpI N T W S b o kids[j] l w → i ≤ 2 → l.length + (showF kids[j] i).length ≤ big → SpOk N T W S b o i kids[j] l w

set_option maxRecDepth 100000 in
set_option maxHeartbeats 4000000 in
theorem spell_arbno (N T W : Nat) (S : Nat → Prop) (b o i : Nat) (t : ByteArray) (n : Int) (nm : ByteArray) (kids : List PatT) (l : List UInt8) (w : World) (h : SpI N T W S b o (.mk 20 t n nm kids) l w) (hn : nodeF (.mk 20 t n nm kids) = 0) (hl : l.length + (showF (.mk 20 t n nm kids) i).length ≤ big) (hih : SpIH N T W S kids) :
    SpOk N T W S b o i (.mk 20 t n nm kids) l w := by
  obtain ⟨hk24, ht, hnn, hnm, h1⟩ := node_facts hn
  obtain ⟨q, rfl⟩ : ∃ q, kids = [q] := List.length_eq_one_iff.1 (h1 (by omega))
  obtain ⟨hSb, hz, p0, p1, p2, p3, ka, cap, p4, hkk⟩ := h.pat.open
  dsimp only [PatT.kind_mk, PatT.text_mk, PatT.n_mk, PatT.name_mk, PatT.kids_mk] at p0 p1 p2 p3 p4
  unfold SpOk
  have HH := Lib.hid h; have HIH := Lib.hid hih
  have hN : T ≤ N := h.hT
  have e0 : decide ((i : Int) < 0) = false := by simp
  have hs : showF (.mk 20 t n nm [q]) i = arbnoL ++ (showF q 2 ++ [41]) := by rw [showF]; simp only [headF]; rfl
  rw [hs] at hl ⊢
  have eb : big = 1000000000000 := rfl
  have ea : arbnoL.length = 6 := rfl
  simp only [List.length_append, List.length_cons, List.length_nil] at hl
  clear hkk hz hn hs hih h ht hnn hnm h1
  go_enter_defers Tryz.func41, Tryz.ntmps41
  go_wp2_with fail
  refine (writeString_any N T l ⟨#[65, 82, 66, 78, 79, 40]⟩ _ HH.out.bld (by show l.length + 6 ≤ _; omega) HH.out.hw).mono ?_
  rintro e w1 ⟨rfl, B1, K1⟩
  have h1 := HH.out.wrote B1 K1
  obtain ⟨kb, ko, cap1, c4, hq⟩ := h1.kid 0 (by simp)
  rw [show (⟨#[65, 82, 66, 78, 79, 40]⟩ : ByteArray).data.toList = arbnoL from rfl] at h1 hq
  have H1 := Lib.hid h1; have HQ := Lib.hid hq; have HK1 := Lib.hid K1
  clear B1 K1 h1 hq p0 p1 p2 p3 p4
  go_wp2_with fail
  refine (HIH.out 0 (by simp) kb ko 2 (l ++ arbnoL) w1 (by have := HQ.out; simpa using this) (by omega) (by show (l ++ arbnoL).length + (showF q 2).length ≤ _; rw [List.length_append]; omega)).mono ?_
  rintro e w2 ⟨rfl, B2, K2⟩
  have H2 := Lib.hid (H1.out.wrote B2 K2)
  have K12 := Lib.hid (KB.trans HK1.out K2)
  clear B2 K2 c4
  go_wp2_with fail
  refine (writeByte_at N T _ 41 41 rfl _ H2.out.bld (by show ((l ++ arbnoL) ++ showF q 2).length + 1 ≤ _; simp only [List.length_append]; omega) H2.out.hw).mono ?_
  rintro e w3 ⟨rfl, B3, K3⟩
  have Q : Hid (Bld N T (l ++ (arbnoL ++ (showF q 2 ++ [41]))) w3) := by
    have := B3
    simp only [List.append_assoc] at this
    exact this
  have KK := Lib.hid (KB.trans K12.out K3)
  clear B3 K3
  go_wp2_with fail
  exact ⟨_, results_none rfl _ _ _, rfl, Q.out, KK.out⟩

set_option maxRecDepth 100000 in
set_option maxHeartbeats 4000000 in
theorem spell_cond (N T W : Nat) (S : Nat → Prop) (b o i : Nat) (t : ByteArray) (n : Int) (nm : ByteArray) (kids : List PatT) (l : List UInt8) (w : World) (h : SpI N T W S b o (.mk 21 t n nm kids) l w) (hn : nodeF (.mk 21 t n nm kids) = 0) (hl : l.length + (showF (.mk 21 t n nm kids) i).length ≤ big) (hih : SpIH N T W S kids) :
    SpOk N T W S b o i (.mk 21 t n nm kids) l w := by
  obtain ⟨hk24, ht, hnn, hnm, h1⟩ := node_facts hn
  obtain ⟨q, rfl⟩ : ∃ q, kids = [q] := List.length_eq_one_iff.1 (h1 (by omega))
  obtain ⟨hSb, hz, p0, p1, p2, p3, ka, cap, p4, hkk⟩ := h.pat.open
  dsimp only [PatT.kind_mk, PatT.text_mk, PatT.n_mk, PatT.name_mk, PatT.kids_mk] at p0 p1 p2 p3 p4
  unfold SpOk
  have HH := Lib.hid h; have HIH := Lib.hid hih
  have hN : T ≤ N := h.hT
  have e0 : decide ((i : Int) < 0) = false := by simp
  have hs : showF (.mk 21 t n nm [q]) i = showF q 0 ++ (32 :: 46 :: 32 :: nm.data.toList) := by rw [showF]; simp only [headF]; rfl
  rw [hs] at hl ⊢
  have eb : big = 1000000000000 := rfl
  have hnm1 := hnm (by decide)
  have enm : nm.data.toList.length = nm.size := rfl
  simp only [List.length_append, List.length_cons] at hl
  have hstr : Hid ((⟨#[32, 46, 32]⟩ : ByteArray) ++ nm = ⟨(32 :: 46 :: 32 :: nm.data.toList).toArray⟩) := by
    unfold Hid; show (⟨[32, 46, 32].toArray⟩ : ByteArray) ++ ⟨nm.data.toList.toArray⟩ = _; rw [app_str]; rfl
  clear hkk hz hn hs hih h ht hnn hnm h1
  obtain ⟨kb, ko, cap1, c4, hq⟩ := HH.out.kid 0 (by simp)
  have HQ := Lib.hid hq
  clear hq p4
  go_enter_defers Tryz.func41, Tryz.ntmps41
  go_wp2_with fail
  refine (HIH.out 0 (by simp) kb ko 0 l w (by have := HQ.out; simpa using this) (by omega) (by show l.length + (showF q 0).length ≤ _; omega)).mono ?_
  rintro e w1 ⟨rfl, B1, K1⟩
  have H1 := Lib.hid (HH.out.wrote B1 K1)
  have HK1 := Lib.hid K1
  obtain ⟨_, _, q0, q1, q2, q3, _⟩ := H1.out.pat.open
  dsimp only [PatT.kind_mk, PatT.text_mk, PatT.n_mk, PatT.name_mk, PatT.kids_mk] at q0 q1 q2 q3
  have hln : (l ++ showF [q][0] 0).length + (⟨(32 :: 46 :: 32 :: nm.data.toList).toArray⟩ : ByteArray).size ≤ 140737488355328 := by
    show (l ++ showF q 0).length + (32 :: 46 :: 32 :: nm.data.toList).toArray.size ≤ _; rw [List.size_toArray]; simp only [List.length_append, List.length_cons]; omega
  clear B1 K1 c4 p0 p1 p2 p3
  go_wp2_with (go_at_call 30; (rw [hstr.out]); (refine (writeString_any N T _ _ _ H1.out.bld hln H1.out.hw).mono ?_); (rintro e w2 ⟨rfl, B2, K2⟩))
  have Q : Hid (Bld N T (l ++ (showF q 0 ++ (32 :: 46 :: 32 :: nm.data.toList))) w2) := by
    have := B2
    simp only [List.append_assoc] at this
    exact this
  exact ⟨_, results_none rfl _ _ _, rfl, Q.out, KB.trans HK1.out K2⟩

set_option maxRecDepth 100000 in
set_option maxHeartbeats 4000000 in
theorem spell_imm (N T W : Nat) (S : Nat → Prop) (b o i : Nat) (t : ByteArray) (n : Int) (nm : ByteArray) (kids : List PatT) (l : List UInt8) (w : World) (h : SpI N T W S b o (.mk 22 t n nm kids) l w) (hn : nodeF (.mk 22 t n nm kids) = 0) (hl : l.length + (showF (.mk 22 t n nm kids) i).length ≤ big) (hih : SpIH N T W S kids) :
    SpOk N T W S b o i (.mk 22 t n nm kids) l w := by
  obtain ⟨hk24, ht, hnn, hnm, h1⟩ := node_facts hn
  obtain ⟨q, rfl⟩ : ∃ q, kids = [q] := List.length_eq_one_iff.1 (h1 (by omega))
  obtain ⟨hSb, hz, p0, p1, p2, p3, ka, cap, p4, hkk⟩ := h.pat.open
  dsimp only [PatT.kind_mk, PatT.text_mk, PatT.n_mk, PatT.name_mk, PatT.kids_mk] at p0 p1 p2 p3 p4
  unfold SpOk
  have HH := Lib.hid h; have HIH := Lib.hid hih
  have hN : T ≤ N := h.hT
  have e0 : decide ((i : Int) < 0) = false := by simp
  have hs : showF (.mk 22 t n nm [q]) i = showF q 0 ++ (32 :: 36 :: 32 :: nm.data.toList) := by rw [showF]; simp only [headF]; rfl
  rw [hs] at hl ⊢
  have eb : big = 1000000000000 := rfl
  have hnm1 := hnm (by decide)
  have enm : nm.data.toList.length = nm.size := rfl
  simp only [List.length_append, List.length_cons] at hl
  have hstr : Hid ((⟨#[32, 36, 32]⟩ : ByteArray) ++ nm = ⟨(32 :: 36 :: 32 :: nm.data.toList).toArray⟩) := by
    unfold Hid; show (⟨[32, 36, 32].toArray⟩ : ByteArray) ++ ⟨nm.data.toList.toArray⟩ = _; rw [app_str]; rfl
  clear hkk hz hn hs hih h ht hnn hnm h1
  obtain ⟨kb, ko, cap1, c4, hq⟩ := HH.out.kid 0 (by simp)
  have HQ := Lib.hid hq
  clear hq p4
  go_enter_defers Tryz.func41, Tryz.ntmps41
  go_wp2_with fail
  refine (HIH.out 0 (by simp) kb ko 0 l w (by have := HQ.out; simpa using this) (by omega) (by show l.length + (showF q 0).length ≤ _; omega)).mono ?_
  rintro e w1 ⟨rfl, B1, K1⟩
  have H1 := Lib.hid (HH.out.wrote B1 K1)
  have HK1 := Lib.hid K1
  obtain ⟨_, _, q0, q1, q2, q3, _⟩ := H1.out.pat.open
  dsimp only [PatT.kind_mk, PatT.text_mk, PatT.n_mk, PatT.name_mk, PatT.kids_mk] at q0 q1 q2 q3
  have hln : (l ++ showF [q][0] 0).length + (⟨(32 :: 36 :: 32 :: nm.data.toList).toArray⟩ : ByteArray).size ≤ 140737488355328 := by
    show (l ++ showF q 0).length + (32 :: 36 :: 32 :: nm.data.toList).toArray.size ≤ _; rw [List.size_toArray]; simp only [List.length_append, List.length_cons]; omega
  clear B1 K1 c4 p0 p1 p2 p3
  go_wp2_with (go_at_call 30; (rw [hstr.out]); (refine (writeString_any N T _ _ _ H1.out.bld hln H1.out.hw).mono ?_); (rintro e w2 ⟨rfl, B2, K2⟩))
  have Q : Hid (Bld N T (l ++ (showF q 0 ++ (32 :: 36 :: 32 :: nm.data.toList))) w2) := by
    have := B2
    simp only [List.append_assoc] at this
    exact this
  exact ⟨_, results_none rfl _ _ _, rfl, Q.out, KB.trans HK1.out K2⟩
end Go.Proofs.YtcfcdobgpldoiaaGreatDoor

namespace Go.Proofs.YtcfcdobgpldoiaaGreatDoor
set_option linter.all false
open Go.RowKit

theorem joinG_step (sep : List UInt8) (kids : List PatT) (i j : Nat) (hj : j < kids.length) :
    joinG sep (decide (j = 0)) (kids.drop j) i = (if j = 0 then [] else sep) ++ (showF kids[j] i ++ joinG sep (decide (j + 1 = 0)) (kids.drop (j + 1)) i) := by
  rw [List.drop_eq_getElem_cons hj, joinG]
  by_cases h : j = 0
  · subst h; simp
  · simp [h]
def SpLoop (N T W : Nat) (S : Nat → Prop) (b o : Nat) (p : PatT) (sep : List UInt8) (kids : List PatT) (i : Nat) (l : List UInt8) (w : World) (j : Nat) (wr : World) : Prop :=
  ∃ d, d ++ joinG sep (decide (j = 0)) (kids.drop j) i = joinG sep true kids i ∧ SpI N T W S b o p (l ++ d) wr ∧ KB N T w wr
theorem SpLoop.next {N T W : Nat} {S : Nat → Prop} {b o : Nat} {p : PatT} {sep : List UInt8} {kids : List PatT} {i : Nat} {l d : List UInt8} {w w' : World} {j : Nat} (hj : j < kids.length)
    (hd : d ++ joinG sep (decide (j = 0)) (kids.drop j) i = joinG sep true kids i) (h : SpI N T W S b o p ((l ++ d) ++ ((if j = 0 then [] else sep) ++ showF kids[j] i)) w') (k : KB N T w w') : SpLoop N T W S b o p sep kids i l w (j + 1) w' := by
  refine ⟨d ++ ((if j = 0 then [] else sep) ++ showF kids[j] i), ?_, by rw [List.append_assoc] at h; exact h, k⟩
  rw [joinG_step sep kids i j hj] at hd
  rw [← hd]; simp [List.append_assoc]
theorem SpLoop.len {sep : List UInt8} {kids : List PatT} {i j : Nat} {d : List UInt8} (hj : j < kids.length) (hd : d ++ joinG sep (decide (j = 0)) (kids.drop j) i = joinG sep true kids i) :
    d.length + (if j = 0 then 0 else sep.length) + (showF kids[j] i).length ≤ (joinG sep true kids i).length := by
  rw [joinG_step sep kids i j hj] at hd
  have := congrArg List.length hd
  simp only [List.length_append] at this
  split at this <;> split <;> simp_all <;> omega

set_option maxRecDepth 100000 in
set_option maxHeartbeats 8000000 in
theorem spell_cat (N T W : Nat) (S : Nat → Prop) (b o i : Nat) (t : ByteArray) (n : Int) (nm : ByteArray) (kids : List PatT) (l : List UInt8) (w : World) (h : SpI N T W S b o (.mk 18 t n nm kids) l w) (hi : ¬ i < 1) (hkl : kids.length < 1000000000) (hl : l.length + (showF (.mk 18 t n nm kids) i).length ≤ big) (hih : SpIH N T W S kids) :
    SpOk N T W S b o i (.mk 18 t n nm kids) l w := by
  obtain ⟨hSb, hz, p0, p1, p2, p3, ka, cap, p4, hkk⟩ := h.pat.open
  dsimp only [PatT.kind_mk, PatT.text_mk, PatT.n_mk, PatT.name_mk, PatT.kids_mk] at p0 p1 p2 p3 p4
  unfold SpOk
  have HH := Lib.hid h; have HIH := Lib.hid hih
  have hN : T ≤ N := h.hT
  have e0 : decide ((i : Int) < 1) = false := decide_eq_false (by omega)
  have hs : showF (.mk 18 t n nm kids) i = joinG [32] true kids 0 := by rw [showF]; show parL (decide (i < 1)) _ = _; rw [decide_eq_false (by omega : ¬ i < 1)]; rfl
  rw [hs] at hl ⊢
  have eb : big = 1000000000000 := rfl
  try simp only [List.length_append, List.length_cons, List.length_nil] at hl
  clear hkk hz hs hih h p1 p2 p3
  go_enter_defers Tryz.func41, Tryz.ntmps41
  go_wp2_with fail
  go_loopw [157] (fun x wr => ∃ j : Nat, j ≤ kids.length ∧ x = .int .i64 j ∧ Hid (SpLoop N T W S b o (.mk 18 t n nm kids) [32] kids 0 (l) w j wr)) (fun x _ => kids.length - (intOf x).toNat)
  case atStart => exact ⟨0, Nat.zero_le _, rfl, [], by simp, by simpa using HH.out, KB.refl _ _ _⟩
  case round =>
    obtain ⟨j, hj, rfl, hLp⟩ := hrel
    clear p0 p4
    obtain ⟨d, hd, HI, hK⟩ := hLp.out
    have I := Lib.hid HI; have HK := Lib.hid hK; have HD := Lib.hid hd
    by_cases hlt : j < kids.length
    · have hlen := SpLoop.len hlt hd
      obtain ⟨kb, ko, cap1, c4, hq⟩ := HI.kid j hlt
      have HQ := Lib.hid hq
      clear hd hK HI hq hLp
      by_cases hj0 : j = 0
      · have y1 : decide ((0 : Int) < (j : Int)) = false := decide_eq_false (by omega)
        have y2 : decide (0 < j) = false := decide_eq_false (by omega)
        have HE : Hid ((if j = 0 then [] else ([32] : List UInt8)) = []) := if_pos hj0
        rw [if_pos hj0] at hlen
        clear hj0
        go_wp2_with fail
        refine (HIH.out j hlt kb (ko + j * 5) 0 _ _ HQ.out (by omega) (by show ((l) ++ d).length + _ ≤ _; simp only [List.length_append, List.length_cons, List.length_nil]; omega)).mono ?_
        rintro e w3 ⟨rfl, B3, K3⟩
        have L3 : Hid (SpLoop N T W S b o (.mk 18 t n nm kids) [32] kids 0 (l) w (j + 1) w3) := SpLoop.next hlt HD.out (by rw [HE.out]; exact I.out.wrote B3 K3) (KB.trans HK.out K3)
        clear B3 K3 c4
        go_wp2_with fail
        go_roundw
        case rel => exact ⟨j + 1, by omega, by go_num, L3⟩
        case measure => simp [intOf]; omega
      · have y1 : decide ((0 : Int) < (j : Int)) = true := decide_eq_true (by omega)
        have y2 : decide (0 < j) = true := decide_eq_true (by omega)
        have HE : Hid ((if j = 0 then [] else ([32] : List UInt8)) = [32]) := if_neg hj0
        rw [if_neg hj0] at hlen
        clear hj0
        go_wp2_with fail
        refine (writeByte_at N T _ 32 32 rfl _ I.out.bld (by show ((l) ++ d).length + 1 ≤ _; simp only [List.length_append, List.length_cons, List.length_nil] at hlen ⊢; omega) I.out.hw).mono ?_
        rintro e w2 ⟨rfl, B2, K2⟩
        have I2 := Lib.hid (I.out.wrote B2 K2)
        have HK2 := Lib.hid (KB.trans HK.out K2)
        clear B2 K2 c4
        obtain ⟨kb, ko, cap1, c4, hq⟩ := I2.out.kid j hlt
        clear HQ
        have HQ := Lib.hid hq
        clear hq
        go_wp2_with fail
        refine (HIH.out j hlt kb (ko + j * 5) 0 _ _ HQ.out (by omega) (by simp only [List.length_append, List.length_cons, List.length_nil] at hlen ⊢; omega)).mono ?_
        rintro e w3 ⟨rfl, B3, K3⟩
        have L3 : Hid (SpLoop N T W S b o (.mk 18 t n nm kids) [32] kids 0 (l) w (j + 1) w3) := SpLoop.next hlt HD.out (by rw [HE.out, ← List.append_assoc]; exact I2.out.wrote B3 K3) (KB.trans HK2.out K3)
        clear B3 K3 c4
        go_wp2_with fail
        go_roundw
        case rel => exact ⟨j + 1, by omega, by go_num, L3⟩
        case measure => simp [intOf]; omega
    · obtain rfl : j = kids.length := by omega
      rw [List.drop_length] at hd
      have hd2 : d = joinG [32] true kids 0 := by simpa [joinG] using hd
      subst hd2
      clear hd hK HI hLp HD
      go_wp2_with fail
      exact ⟨_, results_none rfl _ _ _, rfl, I.out.bld, HK.out⟩

set_option maxRecDepth 100000 in
set_option maxHeartbeats 8000000 in
theorem spell_catP (N T W : Nat) (S : Nat → Prop) (b o i : Nat) (t : ByteArray) (n : Int) (nm : ByteArray) (kids : List PatT) (l : List UInt8) (w : World) (h : SpI N T W S b o (.mk 18 t n nm kids) l w) (hi : i < 1) (hkl : kids.length < 1000000000) (hl : l.length + (showF (.mk 18 t n nm kids) i).length ≤ big) (hih : SpIH N T W S kids) :
    SpOk N T W S b o i (.mk 18 t n nm kids) l w := by
  obtain ⟨hSb, hz, p0, p1, p2, p3, ka, cap, p4, hkk⟩ := h.pat.open
  dsimp only [PatT.kind_mk, PatT.text_mk, PatT.n_mk, PatT.name_mk, PatT.kids_mk] at p0 p1 p2 p3 p4
  unfold SpOk
  have HH := Lib.hid h; have HIH := Lib.hid hih
  have hN : T ≤ N := h.hT
  have e0 : decide ((i : Int) < 1) = true := decide_eq_true (by omega)
  have hs : showF (.mk 18 t n nm kids) i = 40 :: (joinG [32] true kids 0 ++ [41]) := by rw [showF]; show parL (decide (i < 1)) _ = _; rw [decide_eq_true (by omega : i < 1)]; rfl
  rw [hs] at hl ⊢
  have eb : big = 1000000000000 := rfl
  try simp only [List.length_append, List.length_cons, List.length_nil] at hl
  clear hkk hz hs hih h p1 p2 p3
  go_enter_defers Tryz.func41, Tryz.ntmps41
  go_wp2_with fail
  refine (writeByte_at N T l 40 40 rfl w HH.out.bld (by omega) HH.out.hw).mono ?_
  rintro e w1 ⟨rfl, B1, K1⟩
  have H1 := Lib.hid (HH.out.wrote B1 K1)
  have HK1 := Lib.hid K1
  clear B1 K1 p0 p4
  obtain ⟨_, _, p0, _, _, _, ka', cap', p4, _⟩ := H1.out.pat.open
  dsimp only [PatT.kind_mk, PatT.text_mk, PatT.n_mk, PatT.name_mk, PatT.kids_mk] at p0 p4
  go_wp2_with fail
  go_loopw [157] (fun x wr => ∃ j : Nat, j ≤ kids.length ∧ x = .int .i64 j ∧ Hid (SpLoop N T W S b o (.mk 18 t n nm kids) [32] kids 0 (l ++ [40]) w1 j wr)) (fun x _ => kids.length - (intOf x).toNat)
  case atStart => exact ⟨0, Nat.zero_le _, rfl, [], by simp, by simpa using H1.out, KB.refl _ _ _⟩
  case round =>
    obtain ⟨j, hj, rfl, hLp⟩ := hrel
    clear p0 p4
    obtain ⟨d, hd, HI, hK⟩ := hLp.out
    have I := Lib.hid HI; have HK := Lib.hid hK; have HD := Lib.hid hd
    by_cases hlt : j < kids.length
    · have hlen := SpLoop.len hlt hd
      obtain ⟨kb, ko, cap1, c4, hq⟩ := HI.kid j hlt
      have HQ := Lib.hid hq
      clear hd hK HI hq hLp
      by_cases hj0 : j = 0
      · have y1 : decide ((0 : Int) < (j : Int)) = false := decide_eq_false (by omega)
        have y2 : decide (0 < j) = false := decide_eq_false (by omega)
        have HE : Hid ((if j = 0 then [] else ([32] : List UInt8)) = []) := if_pos hj0
        rw [if_pos hj0] at hlen
        clear hj0
        go_wp2_with fail
        refine (HIH.out j hlt kb (ko + j * 5) 0 _ _ HQ.out (by omega) (by show ((l ++ [40]) ++ d).length + _ ≤ _; simp only [List.length_append, List.length_cons, List.length_nil]; omega)).mono ?_
        rintro e w3 ⟨rfl, B3, K3⟩
        have L3 : Hid (SpLoop N T W S b o (.mk 18 t n nm kids) [32] kids 0 (l ++ [40]) w1 (j + 1) w3) := SpLoop.next hlt HD.out (by rw [HE.out]; exact I.out.wrote B3 K3) (KB.trans HK.out K3)
        clear B3 K3 c4
        go_wp2_with fail
        go_roundw
        case rel => exact ⟨j + 1, by omega, by go_num, L3⟩
        case measure => simp [intOf]; omega
      · have y1 : decide ((0 : Int) < (j : Int)) = true := decide_eq_true (by omega)
        have y2 : decide (0 < j) = true := decide_eq_true (by omega)
        have HE : Hid ((if j = 0 then [] else ([32] : List UInt8)) = [32]) := if_neg hj0
        rw [if_neg hj0] at hlen
        clear hj0
        go_wp2_with fail
        refine (writeByte_at N T _ 32 32 rfl _ I.out.bld (by show ((l ++ [40]) ++ d).length + 1 ≤ _; simp only [List.length_append, List.length_cons, List.length_nil] at hlen ⊢; omega) I.out.hw).mono ?_
        rintro e w2 ⟨rfl, B2, K2⟩
        have I2 := Lib.hid (I.out.wrote B2 K2)
        have HK2 := Lib.hid (KB.trans HK.out K2)
        clear B2 K2 c4
        obtain ⟨kb, ko, cap1, c4, hq⟩ := I2.out.kid j hlt
        clear HQ
        have HQ := Lib.hid hq
        clear hq
        go_wp2_with fail
        refine (HIH.out j hlt kb (ko + j * 5) 0 _ _ HQ.out (by omega) (by simp only [List.length_append, List.length_cons, List.length_nil] at hlen ⊢; omega)).mono ?_
        rintro e w3 ⟨rfl, B3, K3⟩
        have L3 : Hid (SpLoop N T W S b o (.mk 18 t n nm kids) [32] kids 0 (l ++ [40]) w1 (j + 1) w3) := SpLoop.next hlt HD.out (by rw [HE.out, ← List.append_assoc]; exact I2.out.wrote B3 K3) (KB.trans HK2.out K3)
        clear B3 K3 c4
        go_wp2_with fail
        go_roundw
        case rel => exact ⟨j + 1, by omega, by go_num, L3⟩
        case measure => simp [intOf]; omega
    · obtain rfl : j = kids.length := by omega
      rw [List.drop_length] at hd
      have hd2 : d = joinG [32] true kids 0 := by simpa [joinG] using hd
      subst hd2
      clear hd hK HI hLp HD
      go_wp2_with fail
      refine leaves_cons (f := 55) (args := #[.pointer (some ⟨N, 0, none⟩), .int .u8 41]) (by simp) (by simp [go_sem]) ?_
      refine (writeByteD_any N T _ 41 _ _ I.out.bld (by simp only [List.length_append, List.length_cons, List.length_nil]; omega) I.out.hw).mono ?_
      rintro e u' w4 ⟨rfl, rfl, B4, K4⟩
      refine ⟨_, results_none rfl _ _ _, rfl, ?_, KB.trans HK1.out (KB.trans HK.out K4)⟩
      have := B4
      simp only [List.append_assoc, List.cons_append, List.nil_append] at this
      exact this
end Go.Proofs.YtcfcdobgpldoiaaGreatDoor

namespace Go.Proofs.YtcfcdobgpldoiaaGreatDoor
set_option linter.all false
open Go.RowKit

set_option maxRecDepth 100000 in
set_option maxHeartbeats 8000000 in
theorem spell_alt (N T W : Nat) (S : Nat → Prop) (b o i : Nat) (t : ByteArray) (n : Int) (nm : ByteArray) (kids : List PatT) (l : List UInt8) (w : World) (h : SpI N T W S b o (.mk 19 t n nm kids) l w) (hi : ¬ i < 2) (hkl : kids.length < 1000000000) (hl : l.length + (showF (.mk 19 t n nm kids) i).length ≤ big) (hih : SpIH N T W S kids) :
    SpOk N T W S b o i (.mk 19 t n nm kids) l w := by
  obtain ⟨hSb, hz, p0, p1, p2, p3, ka, cap, p4, hkk⟩ := h.pat.open
  dsimp only [PatT.kind_mk, PatT.text_mk, PatT.n_mk, PatT.name_mk, PatT.kids_mk] at p0 p1 p2 p3 p4
  unfold SpOk
  have HH := Lib.hid h; have HIH := Lib.hid hih
  have hN : T ≤ N := h.hT
  have e0 : decide ((i : Int) < 2) = false := decide_eq_false (by omega)
  have hs : showF (.mk 19 t n nm kids) i = joinG [32, 124, 32] true kids 1 := by rw [showF]; show parL (decide (i < 2)) _ = _; rw [decide_eq_false (by omega : ¬ i < 2)]; rfl
  rw [hs] at hl ⊢
  have eb : big = 1000000000000 := rfl
  try simp only [List.length_append, List.length_cons, List.length_nil] at hl
  clear hkk hz hs hih h p1 p2 p3
  go_enter_defers Tryz.func41, Tryz.ntmps41
  go_wp2_with fail
  go_loopw [157] (fun x wr => ∃ j : Nat, j ≤ kids.length ∧ x = .int .i64 j ∧ Hid (SpLoop N T W S b o (.mk 19 t n nm kids) [32, 124, 32] kids 1 (l) w j wr)) (fun x _ => kids.length - (intOf x).toNat)
  case atStart => exact ⟨0, Nat.zero_le _, rfl, [], by simp, by simpa using HH.out, KB.refl _ _ _⟩
  case round =>
    obtain ⟨j, hj, rfl, hLp⟩ := hrel
    clear p0 p4
    obtain ⟨d, hd, HI, hK⟩ := hLp.out
    have I := Lib.hid HI; have HK := Lib.hid hK; have HD := Lib.hid hd
    by_cases hlt : j < kids.length
    · have hlen := SpLoop.len hlt hd
      obtain ⟨kb, ko, cap1, c4, hq⟩ := HI.kid j hlt
      have HQ := Lib.hid hq
      clear hd hK HI hq hLp
      by_cases hj0 : j = 0
      · have y1 : decide ((0 : Int) < (j : Int)) = false := decide_eq_false (by omega)
        have y2 : decide (0 < j) = false := decide_eq_false (by omega)
        have HE : Hid ((if j = 0 then [] else ([32, 124, 32] : List UInt8)) = []) := if_pos hj0
        rw [if_pos hj0] at hlen
        clear hj0
        go_wp2_with fail
        refine (HIH.out j hlt kb (ko + j * 5) 1 _ _ HQ.out (by omega) (by show ((l) ++ d).length + _ ≤ _; simp only [List.length_append, List.length_cons, List.length_nil]; omega)).mono ?_
        rintro e w3 ⟨rfl, B3, K3⟩
        have L3 : Hid (SpLoop N T W S b o (.mk 19 t n nm kids) [32, 124, 32] kids 1 (l) w (j + 1) w3) := SpLoop.next hlt HD.out (by rw [HE.out]; exact I.out.wrote B3 K3) (KB.trans HK.out K3)
        clear B3 K3 c4
        go_wp2_with fail
        go_roundw
        case rel => exact ⟨j + 1, by omega, by go_num, L3⟩
        case measure => simp [intOf]; omega
      · have y1 : decide ((0 : Int) < (j : Int)) = true := decide_eq_true (by omega)
        have y2 : decide (0 < j) = true := decide_eq_true (by omega)
        have HE : Hid ((if j = 0 then [] else ([32, 124, 32] : List UInt8)) = [32, 124, 32]) := if_neg hj0
        rw [if_neg hj0] at hlen
        clear hj0
        go_wp2_with fail
        refine (writeString_any N T _ ⟨#[32, 124, 32]⟩ _ I.out.bld (by show ((l) ++ d).length + 3 ≤ _; simp only [List.length_append, List.length_cons, List.length_nil] at hlen ⊢; omega) I.out.hw).mono ?_
        rintro e w2 ⟨rfl, B2, K2⟩
        rw [show (⟨#[32, 124, 32]⟩ : ByteArray).data.toList = [32, 124, 32] from rfl] at B2
        have I2 := Lib.hid (I.out.wrote B2 K2)
        have HK2 := Lib.hid (KB.trans HK.out K2)
        clear B2 K2 c4
        obtain ⟨kb, ko, cap1, c4, hq⟩ := I2.out.kid j hlt
        clear HQ
        have HQ := Lib.hid hq
        clear hq
        go_wp2_with fail
        refine (HIH.out j hlt kb (ko + j * 5) 1 _ _ HQ.out (by omega) (by simp only [List.length_append, List.length_cons, List.length_nil] at hlen ⊢; omega)).mono ?_
        rintro e w3 ⟨rfl, B3, K3⟩
        have L3 : Hid (SpLoop N T W S b o (.mk 19 t n nm kids) [32, 124, 32] kids 1 (l) w (j + 1) w3) := SpLoop.next hlt HD.out (by rw [HE.out, ← List.append_assoc]; exact I2.out.wrote B3 K3) (KB.trans HK2.out K3)
        clear B3 K3 c4
        go_wp2_with fail
        go_roundw
        case rel => exact ⟨j + 1, by omega, by go_num, L3⟩
        case measure => simp [intOf]; omega
    · obtain rfl : j = kids.length := by omega
      rw [List.drop_length] at hd
      have hd2 : d = joinG [32, 124, 32] true kids 1 := by simpa [joinG] using hd
      subst hd2
      clear hd hK HI hLp HD
      go_wp2_with fail
      exact ⟨_, results_none rfl _ _ _, rfl, I.out.bld, HK.out⟩

set_option maxRecDepth 100000 in
set_option maxHeartbeats 8000000 in
theorem spell_altP (N T W : Nat) (S : Nat → Prop) (b o i : Nat) (t : ByteArray) (n : Int) (nm : ByteArray) (kids : List PatT) (l : List UInt8) (w : World) (h : SpI N T W S b o (.mk 19 t n nm kids) l w) (hi : i < 2) (hkl : kids.length < 1000000000) (hl : l.length + (showF (.mk 19 t n nm kids) i).length ≤ big) (hih : SpIH N T W S kids) :
    SpOk N T W S b o i (.mk 19 t n nm kids) l w := by
  obtain ⟨hSb, hz, p0, p1, p2, p3, ka, cap, p4, hkk⟩ := h.pat.open
  dsimp only [PatT.kind_mk, PatT.text_mk, PatT.n_mk, PatT.name_mk, PatT.kids_mk] at p0 p1 p2 p3 p4
  unfold SpOk
  have HH := Lib.hid h; have HIH := Lib.hid hih
  have hN : T ≤ N := h.hT
  have e0 : decide ((i : Int) < 2) = true := decide_eq_true (by omega)
  have hs : showF (.mk 19 t n nm kids) i = 40 :: (joinG [32, 124, 32] true kids 1 ++ [41]) := by rw [showF]; show parL (decide (i < 2)) _ = _; rw [decide_eq_true (by omega : i < 2)]; rfl
  rw [hs] at hl ⊢
  have eb : big = 1000000000000 := rfl
  try simp only [List.length_append, List.length_cons, List.length_nil] at hl
  clear hkk hz hs hih h p1 p2 p3
  go_enter_defers Tryz.func41, Tryz.ntmps41
  go_wp2_with fail
  refine (writeByte_at N T l 40 40 rfl w HH.out.bld (by omega) HH.out.hw).mono ?_
  rintro e w1 ⟨rfl, B1, K1⟩
  have H1 := Lib.hid (HH.out.wrote B1 K1)
  have HK1 := Lib.hid K1
  clear B1 K1 p0 p4
  obtain ⟨_, _, p0, _, _, _, ka', cap', p4, _⟩ := H1.out.pat.open
  dsimp only [PatT.kind_mk, PatT.text_mk, PatT.n_mk, PatT.name_mk, PatT.kids_mk] at p0 p4
  go_wp2_with fail
  go_loopw [157] (fun x wr => ∃ j : Nat, j ≤ kids.length ∧ x = .int .i64 j ∧ Hid (SpLoop N T W S b o (.mk 19 t n nm kids) [32, 124, 32] kids 1 (l ++ [40]) w1 j wr)) (fun x _ => kids.length - (intOf x).toNat)
  case atStart => exact ⟨0, Nat.zero_le _, rfl, [], by simp, by simpa using H1.out, KB.refl _ _ _⟩
  case round =>
    obtain ⟨j, hj, rfl, hLp⟩ := hrel
    clear p0 p4
    obtain ⟨d, hd, HI, hK⟩ := hLp.out
    have I := Lib.hid HI; have HK := Lib.hid hK; have HD := Lib.hid hd
    by_cases hlt : j < kids.length
    · have hlen := SpLoop.len hlt hd
      obtain ⟨kb, ko, cap1, c4, hq⟩ := HI.kid j hlt
      have HQ := Lib.hid hq
      clear hd hK HI hq hLp
      by_cases hj0 : j = 0
      · have y1 : decide ((0 : Int) < (j : Int)) = false := decide_eq_false (by omega)
        have y2 : decide (0 < j) = false := decide_eq_false (by omega)
        have HE : Hid ((if j = 0 then [] else ([32, 124, 32] : List UInt8)) = []) := if_pos hj0
        rw [if_pos hj0] at hlen
        clear hj0
        go_wp2_with fail
        refine (HIH.out j hlt kb (ko + j * 5) 1 _ _ HQ.out (by omega) (by show ((l ++ [40]) ++ d).length + _ ≤ _; simp only [List.length_append, List.length_cons, List.length_nil]; omega)).mono ?_
        rintro e w3 ⟨rfl, B3, K3⟩
        have L3 : Hid (SpLoop N T W S b o (.mk 19 t n nm kids) [32, 124, 32] kids 1 (l ++ [40]) w1 (j + 1) w3) := SpLoop.next hlt HD.out (by rw [HE.out]; exact I.out.wrote B3 K3) (KB.trans HK.out K3)
        clear B3 K3 c4
        go_wp2_with fail
        go_roundw
        case rel => exact ⟨j + 1, by omega, by go_num, L3⟩
        case measure => simp [intOf]; omega
      · have y1 : decide ((0 : Int) < (j : Int)) = true := decide_eq_true (by omega)
        have y2 : decide (0 < j) = true := decide_eq_true (by omega)
        have HE : Hid ((if j = 0 then [] else ([32, 124, 32] : List UInt8)) = [32, 124, 32]) := if_neg hj0
        rw [if_neg hj0] at hlen
        clear hj0
        go_wp2_with fail
        refine (writeString_any N T _ ⟨#[32, 124, 32]⟩ _ I.out.bld (by show ((l ++ [40]) ++ d).length + 3 ≤ _; simp only [List.length_append, List.length_cons, List.length_nil] at hlen ⊢; omega) I.out.hw).mono ?_
        rintro e w2 ⟨rfl, B2, K2⟩
        rw [show (⟨#[32, 124, 32]⟩ : ByteArray).data.toList = [32, 124, 32] from rfl] at B2
        have I2 := Lib.hid (I.out.wrote B2 K2)
        have HK2 := Lib.hid (KB.trans HK.out K2)
        clear B2 K2 c4
        obtain ⟨kb, ko, cap1, c4, hq⟩ := I2.out.kid j hlt
        clear HQ
        have HQ := Lib.hid hq
        clear hq
        go_wp2_with fail
        refine (HIH.out j hlt kb (ko + j * 5) 1 _ _ HQ.out (by omega) (by simp only [List.length_append, List.length_cons, List.length_nil] at hlen ⊢; omega)).mono ?_
        rintro e w3 ⟨rfl, B3, K3⟩
        have L3 : Hid (SpLoop N T W S b o (.mk 19 t n nm kids) [32, 124, 32] kids 1 (l ++ [40]) w1 (j + 1) w3) := SpLoop.next hlt HD.out (by rw [HE.out, ← List.append_assoc]; exact I2.out.wrote B3 K3) (KB.trans HK2.out K3)
        clear B3 K3 c4
        go_wp2_with fail
        go_roundw
        case rel => exact ⟨j + 1, by omega, by go_num, L3⟩
        case measure => simp [intOf]; omega
    · obtain rfl : j = kids.length := by omega
      rw [List.drop_length] at hd
      have hd2 : d = joinG [32, 124, 32] true kids 1 := by simpa [joinG] using hd
      subst hd2
      clear hd hK HI hLp HD
      go_wp2_with fail
      refine leaves_cons (f := 55) (args := #[.pointer (some ⟨N, 0, none⟩), .int .u8 41]) (by simp) (by simp [go_sem]) ?_
      refine (writeByteD_any N T _ 41 _ _ I.out.bld (by simp only [List.length_append, List.length_cons, List.length_nil]; omega) I.out.hw).mono ?_
      rintro e u' w4 ⟨rfl, rfl, B4, K4⟩
      refine ⟨_, results_none rfl _ _ _, rfl, ?_, KB.trans HK1.out (KB.trans HK.out K4)⟩
      have := B4
      simp only [List.append_assoc, List.cons_append, List.nil_append] at this
      exact this
end Go.Proofs.YtcfcdobgpldoiaaGreatDoor
