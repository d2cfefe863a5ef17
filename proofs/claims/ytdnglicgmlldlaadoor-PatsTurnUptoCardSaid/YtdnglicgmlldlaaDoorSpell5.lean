/- pats.spell: kinds with one kid. -/
import Derived.Test.YtdnglicgmlldlaaDoorSpell4
import Derived.Test.YtdnglicgmlldlaaDoorBldD
namespace Go.Proofs.YtdnglicgmlldlaaDoor
open Go.RowKit

theorem SpI.kid {N T W : Nat} {S : Nat → Prop} {b o : Nat} {k n : Int} {t nm : ByteArray} {kids : List PatT} {l : List UInt8} {w : World} (h : SpI N T W S b o (.mk k t n nm kids) l w) (j : Nat) (hj : j < kids.length) :
    ∃ kb ko cap, w.cell? ⟨b, o + 4, none⟩ = some (.slice (some ⟨kb, ko, none⟩) kids.length cap) ∧ SpI N T W S kb (ko + j * 5) kids[j] l w := by
  obtain ⟨_, _, _, _, _, _, ka, cap, p4, hk⟩ := h.pat.open
  dsimp only [PatT.kids_mk] at p4 hk
  obtain ⟨kb, ko, rfl⟩ := PatsAt_head hk (by omega)
  exact ⟨kb, ko, cap, p4, h.bld, h.wd, h.gl, h.hw, PatsAt_get kids kb ko j hj hk, h.hS, h.hT, h.hWN, h.hg⟩
theorem writeByte_at (N T : Nat) (l : List UInt8) (c : UInt8) (v : Int) (hv : v = c.toNat) (w : World) (h : Bld N T l w) (hl : l.length + 1 ≤ 140737488355328) (hT : T ≤ w.heap.size) :
    Calls Tryd.prog 29 #[.pointer (some ⟨N, 0, none⟩), .int .u8 v] w (WrPost N T (l ++ [c]) .nilIface w) := by
  subst hv; exact writeByte_any N T l c w h hl hT
def SpIH (N T W : Nat) (S : Nat → Prop) (kids : List PatT) : Prop :=
  ∀ (j : Nat) (hj : j < kids.length) (b o i : Nat) (l : List UInt8) (w : World), SpI N T W S b o kids[j] l w → i ≤ 2 → l.length + (showF kids[j] i).length ≤ big → SpOk N T W S b o i kids[j] l w

set_option maxRecDepth 100000 in
set_option maxHeartbeats 4000000 in
theorem spell_arbno (N T W : Nat) (S : Nat → Prop) (b o i : Nat) (t : ByteArray) (n : Int) (nm : ByteArray) (kids : List PatT) (l : List UInt8) (w : World) (h : SpI N T W S b o (.mk 20 t n nm kids) l w) (hn : nodeF (.mk 20 t n nm kids) = 0) (hl : l.length + (showF (.mk 20 t n nm kids) i).length ≤ big) (hih : SpIH N T W S kids) :
    SpOk N T W S b o i (.mk 20 t n nm kids) l w := by
  obtain ⟨hk24, ht, hnn, hnm, h1⟩ := node_facts hn
  obtain ⟨q, rfl⟩ : ∃ q, kids = [q] := List.length_eq_one_iff.1 (h1 (by omega))
  obtain ⟨hSb, hz, p0, p1, p2, p3, ka, cap, p4, hkk⟩ := h.pat.open
  dsimp only [PatT.kind_mk, PatT.text_mk, PatT.n_mk, PatT.name_mk, PatT.kids_mk] at p0 p1 p2 p3 p4
  unfold SpOk
  have HH := Lib.hid h; have HIH := Lib.hid hih
  have hN : T ≤ N := h.hT
  have e0 : decide ((i : Int) < 0) = false := by simp
  have hs : showF (.mk 20 t n nm [q]) i = arbnoL ++ (showF q 2 ++ [41]) := by rw [showF]; simp only [headF]; rfl
  rw [hs] at hl ⊢
  have eb : big = 1000000000000 := rfl
  have ea : arbnoL.length = 6 := rfl
  simp only [List.length_append, List.length_cons, List.length_nil] at hl
  clear hkk hz hn hs hih h ht hnn hnm h1
  go_enter_defers Tryd.func12, Tryd.ntmps12
  go_wp2_with fail
  refine (writeString_any N T l ⟨#[65, 82, 66, 78, 79, 40]⟩ _ HH.out.bld (by show l.length + 6 ≤ _; omega) HH.out.hw).mono ?_
  rintro e w1 ⟨rfl, B1, K1⟩
  have h1 := HH.out.wrote B1 K1
  obtain ⟨kb, ko, cap1, c4, hq⟩ := h1.kid 0 (by simp)
  rw [show (⟨#[65, 82, 66, 78, 79, 40]⟩ : ByteArray).data.toList = arbnoL from rfl] at h1 hq
  have H1 := Lib.hid h1; have HQ := Lib.hid hq; have HK1 := Lib.hid K1
  clear B1 K1 h1 hq p0 p1 p2 p3 p4
  go_wp2_with fail
  refine (HIH.out 0 (by simp) kb ko 2 (l ++ arbnoL) w1 (by have := HQ.out; simpa using this) (by omega) (by show (l ++ arbnoL).length + (showF q 2).length ≤ _; rw [List.length_append]; omega)).mono ?_
  rintro e w2 ⟨rfl, B2, K2⟩
  have H2 := Lib.hid (H1.out.wrote B2 K2)
  have K12 := Lib.hid (KB.trans HK1.out K2)
  clear B2 K2 c4
  go_wp2_with fail
  refine (writeByte_at N T _ 41 41 rfl _ H2.out.bld (by show ((l ++ arbnoL) ++ showF q 2).length + 1 ≤ _; simp only [List.length_append]; omega) H2.out.hw).mono ?_
  rintro e w3 ⟨rfl, B3, K3⟩
  have Q : Hid (Bld N T (l ++ (arbnoL ++ (showF q 2 ++ [41]))) w3) := by
    have := B3
    simp only [List.append_assoc] at this
    exact this
  have KK := Lib.hid (KB.trans K12.out K3)
  clear B3 K3
  go_wp2_with fail
  exact ⟨_, results_none rfl _ _ _, rfl, Q.out, KK.out⟩

set_option maxRecDepth 100000 in
set_option maxHeartbeats 4000000 in
theorem spell_cond (N T W : Nat) (S : Nat → Prop) (b o i : Nat) (t : ByteArray) (n : Int) (nm : ByteArray) (kids : List PatT) (l : List UInt8) (w : World) (h : SpI N T W S b o (.mk 21 t n nm kids) l w) (hn : nodeF (.mk 21 t n nm kids) = 0) (hl : l.length + (showF (.mk 21 t n nm kids) i).length ≤ big) (hih : SpIH N T W S kids) :
    SpOk N T W S b o i (.mk 21 t n nm kids) l w := by
  obtain ⟨hk24, ht, hnn, hnm, h1⟩ := node_facts hn
  obtain ⟨q, rfl⟩ : ∃ q, kids = [q] := List.length_eq_one_iff.1 (h1 (by omega))
  obtain ⟨hSb, hz, p0, p1, p2, p3, ka, cap, p4, hkk⟩ := h.pat.open
  dsimp only [PatT.kind_mk, PatT.text_mk, PatT.n_mk, PatT.name_mk, PatT.kids_mk] at p0 p1 p2 p3 p4
  unfold SpOk
  have HH := Lib.hid h; have HIH := Lib.hid hih
  have hN : T ≤ N := h.hT
  have e0 : decide ((i : Int) < 0) = false := by simp
  have hs : showF (.mk 21 t n nm [q]) i = showF q 0 ++ (32 :: 46 :: 32 :: nm.data.toList) := by rw [showF]; simp only [headF]; rfl
  rw [hs] at hl ⊢
  have eb : big = 1000000000000 := rfl
  have hnm1 := hnm (by decide)
  have enm : nm.data.toList.length = nm.size := rfl
  simp only [List.length_append, List.length_cons] at hl
  have hstr : Hid ((⟨#[32, 46, 32]⟩ : ByteArray) ++ nm = ⟨(32 :: 46 :: 32 :: nm.data.toList).toArray⟩) := by
    unfold Hid; show (⟨[32, 46, 32].toArray⟩ : ByteArray) ++ ⟨nm.data.toList.toArray⟩ = _; rw [app_str]; rfl
  clear hkk hz hn hs hih h ht hnn hnm h1
  obtain ⟨kb, ko, cap1, c4, hq⟩ := HH.out.kid 0 (by simp)
  have HQ := Lib.hid hq
  clear hq p4
  go_enter_defers Tryd.func12, Tryd.ntmps12
  go_wp2_with fail
  refine (HIH.out 0 (by simp) kb ko 0 l w (by have := HQ.out; simpa using this) (by omega) (by show l.length + (showF q 0).length ≤ _; omega)).mono ?_
  rintro e w1 ⟨rfl, B1, K1⟩
  have H1 := Lib.hid (HH.out.wrote B1 K1)
  have HK1 := Lib.hid K1
  obtain ⟨_, _, q0, q1, q2, q3, _⟩ := H1.out.pat.open
  dsimp only [PatT.kind_mk, PatT.text_mk, PatT.n_mk, PatT.name_mk, PatT.kids_mk] at q0 q1 q2 q3
  have hln : (l ++ showF [q][0] 0).length + (⟨(32 :: 46 :: 32 :: nm.data.toList).toArray⟩ : ByteArray).size ≤ 140737488355328 := by
    show (l ++ showF q 0).length + (32 :: 46 :: 32 :: nm.data.toList).toArray.size ≤ _; rw [List.size_toArray]; simp only [List.length_append, List.length_cons]; omega
  clear B1 K1 c4 p0 p1 p2 p3
  go_wp2_with (go_at_call 30; (rw [hstr.out]); (refine (writeString_any N T _ _ _ H1.out.bld hln H1.out.hw).mono ?_); (rintro e w2 ⟨rfl, B2, K2⟩))
  have Q : Hid (Bld N T (l ++ (showF q 0 ++ (32 :: 46 :: 32 :: nm.data.toList))) w2) := by
    have := B2
    simp only [List.append_assoc] at this
    exact this
  exact ⟨_, results_none rfl _ _ _, rfl, Q.out, KB.trans HK1.out K2⟩

set_option maxRecDepth 100000 in
set_option maxHeartbeats 4000000 in
theorem spell_imm (N T W : Nat) (S : Nat → Prop) (b o i : Nat) (t : ByteArray) (n : Int) (nm : ByteArray) (kids : List PatT) (l : List UInt8) (w : World) (h : SpI N T W S b o (.mk 22 t n nm kids) l w) (hn : nodeF (.mk 22 t n nm kids) = 0) (hl : l.length + (showF (.mk 22 t n nm kids) i).length ≤ big) (hih : SpIH N T W S kids) :
    SpOk N T W S b o i (.mk 22 t n nm kids) l w := by
  obtain ⟨hk24, ht, hnn, hnm, h1⟩ := node_facts hn
  obtain ⟨q, rfl⟩ : ∃ q, kids = [q] := List.length_eq_one_iff.1 (h1 (by omega))
  obtain ⟨hSb, hz, p0, p1, p2, p3, ka, cap, p4, hkk⟩ := h.pat.open
  dsimp only [PatT.kind_mk, PatT.text_mk, PatT.n_mk, PatT.name_mk, PatT.kids_mk] at p0 p1 p2 p3 p4
  unfold SpOk
  have HH := Lib.hid h; have HIH := Lib.hid hih
  have hN : T ≤ N := h.hT
  have e0 : decide ((i : Int) < 0) = false := by simp
  have hs : showF (.mk 22 t n nm [q]) i = showF q 0 ++ (32 :: 36 :: 32 :: nm.data.toList) := by rw [showF]; simp only [headF]; rfl
  rw [hs] at hl ⊢
  have eb : big = 1000000000000 := rfl
  have hnm1 := hnm (by decide)
  have enm : nm.data.toList.length = nm.size := rfl
  simp only [List.length_append, List.length_cons] at hl
  have hstr : Hid ((⟨#[32, 36, 32]⟩ : ByteArray) ++ nm = ⟨(32 :: 36 :: 32 :: nm.data.toList).toArray⟩) := by
    unfold Hid; show (⟨[32, 36, 32].toArray⟩ : ByteArray) ++ ⟨nm.data.toList.toArray⟩ = _; rw [app_str]; rfl
  clear hkk hz hn hs hih h ht hnn hnm h1
  obtain ⟨kb, ko, cap1, c4, hq⟩ := HH.out.kid 0 (by simp)
  have HQ := Lib.hid hq
  clear hq p4
  go_enter_defers Tryd.func12, Tryd.ntmps12
  go_wp2_with fail
  refine (HIH.out 0 (by simp) kb ko 0 l w (by have := HQ.out; simpa using this) (by omega) (by show l.length + (showF q 0).length ≤ _; omega)).mono ?_
  rintro e w1 ⟨rfl, B1, K1⟩
  have H1 := Lib.hid (HH.out.wrote B1 K1)
  have HK1 := Lib.hid K1
  obtain ⟨_, _, q0, q1, q2, q3, _⟩ := H1.out.pat.open
  dsimp only [PatT.kind_mk, PatT.text_mk, PatT.n_mk, PatT.name_mk, PatT.kids_mk] at q0 q1 q2 q3
  have hln : (l ++ showF [q][0] 0).length + (⟨(32 :: 36 :: 32 :: nm.data.toList).toArray⟩ : ByteArray).size ≤ 140737488355328 := by
    show (l ++ showF q 0).length + (32 :: 36 :: 32 :: nm.data.toList).toArray.size ≤ _; rw [List.size_toArray]; simp only [List.length_append, List.length_cons]; omega
  clear B1 K1 c4 p0 p1 p2 p3
  go_wp2_with (go_at_call 30; (rw [hstr.out]); (refine (writeString_any N T _ _ _ H1.out.bld hln H1.out.hw).mono ?_); (rintro e w2 ⟨rfl, B2, K2⟩))
  have Q : Hid (Bld N T (l ++ (showF q 0 ++ (32 :: 36 :: 32 :: nm.data.toList))) w2) := by
    have := B2
    simp only [List.append_assoc] at this
    exact this
  exact ⟨_, results_none rfl _ _ _, rfl, Q.out, KB.trans HK1.out K2⟩
end Go.Proofs.YtdnglicgmlldlaaDoor
