/- pats.spell: pieces and alternatives. -/
import Derived.Test.YtdnglicgmlldlaaDoorSpell5
namespace Go.Proofs.YtdnglicgmlldlaaDoor
open Go.RowKit

theorem joinG_step (sep : List UInt8) (kids : List PatT) (i j : Nat) (hj : j < kids.length) :
    joinG sep (decide (j = 0)) (kids.drop j) i = (if j = 0 then [] else sep) ++ (showF kids[j] i ++ joinG sep (decide (j + 1 = 0)) (kids.drop (j + 1)) i) := by
  rw [List.drop_eq_getElem_cons hj, joinG]
  by_cases h : j = 0
  · subst h; simp
  · simp [h]
def SpLoop (N T W : Nat) (S : Nat → Prop) (b o : Nat) (p : PatT) (sep : List UInt8) (kids : List PatT) (i : Nat) (l : List UInt8) (w : World) (j : Nat) (wr : World) : Prop :=
  ∃ d, d ++ joinG sep (decide (j = 0)) (kids.drop j) i = joinG sep true kids i ∧ SpI N T W S b o p (l ++ d) wr ∧ KB N T w wr
theorem SpLoop.next {N T W : Nat} {S : Nat → Prop} {b o : Nat} {p : PatT} {sep : List UInt8} {kids : List PatT} {i : Nat} {l d : List UInt8} {w w' : World} {j : Nat} (hj : j < kids.length)
    (hd : d ++ joinG sep (decide (j = 0)) (kids.drop j) i = joinG sep true kids i) (h : SpI N T W S b o p ((l ++ d) ++ ((if j = 0 then [] else sep) ++ showF kids[j] i)) w') (k : KB N T w w') : SpLoop N T W S b o p sep kids i l w (j + 1) w' := by
  refine ⟨d ++ ((if j = 0 then [] else sep) ++ showF kids[j] i), ?_, by rw [List.append_assoc] at h; exact h, k⟩
  rw [joinG_step sep kids i j hj] at hd
  rw [← hd]; simp [List.append_assoc]
theorem SpLoop.len {sep : List UInt8} {kids : List PatT} {i j : Nat} {d : List UInt8} (hj : j < kids.length) (hd : d ++ joinG sep (decide (j = 0)) (kids.drop j) i = joinG sep true kids i) :
    d.length + (if j = 0 then 0 else sep.length) + (showF kids[j] i).length ≤ (joinG sep true kids i).length := by
  rw [joinG_step sep kids i j hj] at hd
  have := congrArg List.length hd
  simp only [List.length_append] at this
  split at this <;> split <;> simp_all <;> omega

set_option maxRecDepth 100000 in
set_option maxHeartbeats 8000000 in
theorem spell_cat (N T W : Nat) (S : Nat → Prop) (b o i : Nat) (t : ByteArray) (n : Int) (nm : ByteArray) (kids : List PatT) (l : List UInt8) (w : World) (h : SpI N T W S b o (.mk 18 t n nm kids) l w) (hi : ¬ i < 1) (hkl : kids.length < 1000000000) (hl : l.length + (showF (.mk 18 t n nm kids) i).length ≤ big) (hih : SpIH N T W S kids) :
    SpOk N T W S b o i (.mk 18 t n nm kids) l w := by
  obtain ⟨hSb, hz, p0, p1, p2, p3, ka, cap, p4, hkk⟩ := h.pat.open
  dsimp only [PatT.kind_mk, PatT.text_mk, PatT.n_mk, PatT.name_mk, PatT.kids_mk] at p0 p1 p2 p3 p4
  unfold SpOk
  have HH := Lib.hid h; have HIH := Lib.hid hih
  have hN : T ≤ N := h.hT
  have e0 : decide ((i : Int) < 1) = false := decide_eq_false (by omega)
  have hs : showF (.mk 18 t n nm kids) i = joinG [32] true kids 0 := by rw [showF]; show parL (decide (i < 1)) _ = _; rw [decide_eq_false (by omega : ¬ i < 1)]; rfl
  rw [hs] at hl ⊢
  have eb : big = 1000000000000 := rfl
  try simp only [List.length_append, List.length_cons, List.length_nil] at hl
  clear hkk hz hs hih h p1 p2 p3
  go_enter_defers Tryd.func12, Tryd.ntmps12
  go_wp2_with fail
  go_loopw [157] (fun x wr => ∃ j : Nat, j ≤ kids.length ∧ x = .int .i64 j ∧ Hid (SpLoop N T W S b o (.mk 18 t n nm kids) [32] kids 0 (l) w j wr)) (fun x _ => kids.length - (intOf x).toNat)
  case atStart => exact ⟨0, Nat.zero_le _, rfl, [], by simp, by simpa using HH.out, KB.refl _ _ _⟩
  case round =>
    obtain ⟨j, hj, rfl, hLp⟩ := hrel
    clear p0 p4
    obtain ⟨d, hd, HI, hK⟩ := hLp.out
    have I := Lib.hid HI; have HK := Lib.hid hK; have HD := Lib.hid hd
    by_cases hlt : j < kids.length
    · have hlen := SpLoop.len hlt hd
      obtain ⟨kb, ko, cap1, c4, hq⟩ := HI.kid j hlt
      have HQ := Lib.hid hq
      clear hd hK HI hq hLp
      by_cases hj0 : j = 0
      · have y1 : decide ((0 : Int) < (j : Int)) = false := decide_eq_false (by omega)
        have y2 : decide (0 < j) = false := decide_eq_false (by omega)
        have HE : Hid ((if j = 0 then [] else ([32] : List UInt8)) = []) := if_pos hj0
        rw [if_pos hj0] at hlen
        clear hj0
        go_wp2_with fail
        refine (HIH.out j hlt kb (ko + j * 5) 0 _ _ HQ.out (by omega) (by show ((l) ++ d).length + _ ≤ _; simp only [List.length_append, List.length_cons, List.length_nil]; omega)).mono ?_
        rintro e w3 ⟨rfl, B3, K3⟩
        have L3 : Hid (SpLoop N T W S b o (.mk 18 t n nm kids) [32] kids 0 (l) w (j + 1) w3) := SpLoop.next hlt HD.out (by rw [HE.out]; exact I.out.wrote B3 K3) (KB.trans HK.out K3)
        clear B3 K3 c4
        go_wp2_with fail
        go_roundw
        case rel => exact ⟨j + 1, by omega, by go_num, L3⟩
        case measure => simp [intOf]; omega
      · have y1 : decide ((0 : Int) < (j : Int)) = true := decide_eq_true (by omega)
        have y2 : decide (0 < j) = true := decide_eq_true (by omega)
        have HE : Hid ((if j = 0 then [] else ([32] : List UInt8)) = [32]) := if_neg hj0
        rw [if_neg hj0] at hlen
        clear hj0
        go_wp2_with fail
        refine (writeByte_at N T _ 32 32 rfl _ I.out.bld (by show ((l) ++ d).length + 1 ≤ _; simp only [List.length_append, List.length_cons, List.length_nil] at hlen ⊢; omega) I.out.hw).mono ?_
        rintro e w2 ⟨rfl, B2, K2⟩
        have I2 := Lib.hid (I.out.wrote B2 K2)
        have HK2 := Lib.hid (KB.trans HK.out K2)
        clear B2 K2 c4
        obtain ⟨kb, ko, cap1, c4, hq⟩ := I2.out.kid j hlt
        clear HQ
        have HQ := Lib.hid hq
        clear hq
        go_wp2_with fail
        refine (HIH.out j hlt kb (ko + j * 5) 0 _ _ HQ.out (by omega) (by simp only [List.length_append, List.length_cons, List.length_nil] at hlen ⊢; omega)).mono ?_
        rintro e w3 ⟨rfl, B3, K3⟩
        have L3 : Hid (SpLoop N T W S b o (.mk 18 t n nm kids) [32] kids 0 (l) w (j + 1) w3) := SpLoop.next hlt HD.out (by rw [HE.out, ← List.append_assoc]; exact I2.out.wrote B3 K3) (KB.trans HK2.out K3)
        clear B3 K3 c4
        go_wp2_with fail
        go_roundw
        case rel => exact ⟨j + 1, by omega, by go_num, L3⟩
        case measure => simp [intOf]; omega
    · obtain rfl : j = kids.length := by omega
      rw [List.drop_length] at hd
      have hd2 : d = joinG [32] true kids 0 := by simpa [joinG] using hd
      subst hd2
      clear hd hK HI hLp HD
      go_wp2_with fail
      exact ⟨_, results_none rfl _ _ _, rfl, I.out.bld, HK.out⟩

set_option maxRecDepth 100000 in
set_option maxHeartbeats 8000000 in
theorem spell_catP (N T W : Nat) (S : Nat → Prop) (b o i : Nat) (t : ByteArray) (n : Int) (nm : ByteArray) (kids : List PatT) (l : List UInt8) (w : World) (h : SpI N T W S b o (.mk 18 t n nm kids) l w) (hi : i < 1) (hkl : kids.length < 1000000000) (hl : l.length + (showF (.mk 18 t n nm kids) i).length ≤ big) (hih : SpIH N T W S kids) :
    SpOk N T W S b o i (.mk 18 t n nm kids) l w := by
  obtain ⟨hSb, hz, p0, p1, p2, p3, ka, cap, p4, hkk⟩ := h.pat.open
  dsimp only [PatT.kind_mk, PatT.text_mk, PatT.n_mk, PatT.name_mk, PatT.kids_mk] at p0 p1 p2 p3 p4
  unfold SpOk
  have HH := Lib.hid h; have HIH := Lib.hid hih
  have hN : T ≤ N := h.hT
  have e0 : decide ((i : Int) < 1) = true := decide_eq_true (by omega)
  have hs : showF (.mk 18 t n nm kids) i = 40 :: (joinG [32] true kids 0 ++ [41]) := by rw [showF]; show parL (decide (i < 1)) _ = _; rw [decide_eq_true (by omega : i < 1)]; rfl
  rw [hs] at hl ⊢
  have eb : big = 1000000000000 := rfl
  try simp only [List.length_append, List.length_cons, List.length_nil] at hl
  clear hkk hz hs hih h p1 p2 p3
  go_enter_defers Tryd.func12, Tryd.ntmps12
  go_wp2_with fail
  refine (writeByte_at N T l 40 40 rfl w HH.out.bld (by omega) HH.out.hw).mono ?_
  rintro e w1 ⟨rfl, B1, K1⟩
  have H1 := Lib.hid (HH.out.wrote B1 K1)
  have HK1 := Lib.hid K1
  clear B1 K1 p0 p4
  obtain ⟨_, _, p0, _, _, _, ka', cap', p4, _⟩ := H1.out.pat.open
  dsimp only [PatT.kind_mk, PatT.text_mk, PatT.n_mk, PatT.name_mk, PatT.kids_mk] at p0 p4
  go_wp2_with fail
  go_loopw [157] (fun x wr => ∃ j : Nat, j ≤ kids.length ∧ x = .int .i64 j ∧ Hid (SpLoop N T W S b o (.mk 18 t n nm kids) [32] kids 0 (l ++ [40]) w1 j wr)) (fun x _ => kids.length - (intOf x).toNat)
  case atStart => exact ⟨0, Nat.zero_le _, rfl, [], by simp, by simpa using H1.out, KB.refl _ _ _⟩
  case round =>
    obtain ⟨j, hj, rfl, hLp⟩ := hrel
    clear p0 p4
    obtain ⟨d, hd, HI, hK⟩ := hLp.out
    have I := Lib.hid HI; have HK := Lib.hid hK; have HD := Lib.hid hd
    by_cases hlt : j < kids.length
    · have hlen := SpLoop.len hlt hd
      obtain ⟨kb, ko, cap1, c4, hq⟩ := HI.kid j hlt
      have HQ := Lib.hid hq
      clear hd hK HI hq hLp
      by_cases hj0 : j = 0
      · have y1 : decide ((0 : Int) < (j : Int)) = false := decide_eq_false (by omega)
        have y2 : decide (0 < j) = false := decide_eq_false (by omega)
        have HE : Hid ((if j = 0 then [] else ([32] : List UInt8)) = []) := if_pos hj0
        rw [if_pos hj0] at hlen
        clear hj0
        go_wp2_with fail
        refine (HIH.out j hlt kb (ko + j * 5) 0 _ _ HQ.out (by omega) (by show ((l ++ [40]) ++ d).length + _ ≤ _; simp only [List.length_append, List.length_cons, List.length_nil]; omega)).mono ?_
        rintro e w3 ⟨rfl, B3, K3⟩
        have L3 : Hid (SpLoop N T W S b o (.mk 18 t n nm kids) [32] kids 0 (l ++ [40]) w1 (j + 1) w3) := SpLoop.next hlt HD.out (by rw [HE.out]; exact I.out.wrote B3 K3) (KB.trans HK.out K3)
        clear B3 K3 c4
        go_wp2_with fail
        go_roundw
        case rel => exact ⟨j + 1, by omega, by go_num, L3⟩
        case measure => simp [intOf]; omega
      · have y1 : decide ((0 : Int) < (j : Int)) = true := decide_eq_true (by omega)
        have y2 : decide (0 < j) = true := decide_eq_true (by omega)
        have HE : Hid ((if j = 0 then [] else ([32] : List UInt8)) = [32]) := if_neg hj0
        rw [if_neg hj0] at hlen
        clear hj0
        go_wp2_with fail
        refine (writeByte_at N T _ 32 32 rfl _ I.out.bld (by show ((l ++ [40]) ++ d).length + 1 ≤ _; simp only [List.length_append, List.length_cons, List.length_nil] at hlen ⊢; omega) I.out.hw).mono ?_
        rintro e w2 ⟨rfl, B2, K2⟩
        have I2 := Lib.hid (I.out.wrote B2 K2)
        have HK2 := Lib.hid (KB.trans HK.out K2)
        clear B2 K2 c4
        obtain ⟨kb, ko, cap1, c4, hq⟩ := I2.out.kid j hlt
        clear HQ
        have HQ := Lib.hid hq
        clear hq
        go_wp2_with fail
        refine (HIH.out j hlt kb (ko + j * 5) 0 _ _ HQ.out (by omega) (by simp only [List.length_append, List.length_cons, List.length_nil] at hlen ⊢; omega)).mono ?_
        rintro e w3 ⟨rfl, B3, K3⟩
        have L3 : Hid (SpLoop N T W S b o (.mk 18 t n nm kids) [32] kids 0 (l ++ [40]) w1 (j + 1) w3) := SpLoop.next hlt HD.out (by rw [HE.out, ← List.append_assoc]; exact I2.out.wrote B3 K3) (KB.trans HK2.out K3)
        clear B3 K3 c4
        go_wp2_with fail
        go_roundw
        case rel => exact ⟨j + 1, by omega, by go_num, L3⟩
        case measure => simp [intOf]; omega
    · obtain rfl : j = kids.length := by omega
      rw [List.drop_length] at hd
      have hd2 : d = joinG [32] true kids 0 := by simpa [joinG] using hd
      subst hd2
      clear hd hK HI hLp HD
      go_wp2_with fail
      refine leaves_cons (f := 29) (args := #[.pointer (some ⟨N, 0, none⟩), .int .u8 41]) (by simp) (by simp [go_sem]) ?_
      refine (writeByteD_any N T _ 41 _ _ I.out.bld (by simp only [List.length_append, List.length_cons, List.length_nil]; omega) I.out.hw).mono ?_
      rintro e u' w4 ⟨rfl, rfl, B4, K4⟩
      refine ⟨_, results_none rfl _ _ _, rfl, ?_, KB.trans HK1.out (KB.trans HK.out K4)⟩
      have := B4
      simp only [List.append_assoc, List.cons_append, List.nil_append] at this
      exact this
end Go.Proofs.YtdnglicgmlldlaaDoor
