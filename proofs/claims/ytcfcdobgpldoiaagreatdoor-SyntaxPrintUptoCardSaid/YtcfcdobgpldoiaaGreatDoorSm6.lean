/- syntax.expr: kinds without kids. syntax.expr: kinds with one kid (printed by px2.py). syntax.expr: operators (printed by px2.py). syntax.expr: calls; any right expression. syntax.text. -/
import Derived.Test.YtcfcdobgpldoiaaGreatDoorPx0
import Derived.Test.YtcfcdobgpldoiaaGreatDoorSpell1
import Derived.Test.YtcfcdobgpldoiaaGreatDoorSm8
namespace Go.Proofs.YtcfcdobgpldoiaaGreatDoor
set_option linter.all false
open Go.RowKit

def signS (k : Int) : ByteArray := if 8 ≤ k ∧ k ≤ 13 then ⟨[signK k].toArray⟩ else ⟨#[]⟩
def ownS (k : Int) : Nat := if k = 7 then 5 else ownK k
theorem signs_any (k : Int) (w : World) : Calls Tryz.prog 58 #[.int .i64 k] w fun e w' => e = .returned (.tuple #[.string (signS k), .int .i64 (ownS k : Int)]) ∧ w' = w := by
  by_cases h : 8 ≤ k ∧ k ≤ 13
  · obtain rfl | rfl | rfl | rfl | rfl | rfl : k = 8 ∨ k = 9 ∨ k = 10 ∨ k = 11 ∨ k = 12 ∨ k = 13 := by omega
    all_goals
      go_enter Tryz.func58, Tryz.ntmps58
      go_wp2
      go_ret2
      exact ⟨rfl, rfl⟩
  · have e1 : signS k = ⟨#[]⟩ := if_neg h
    have e2 : ownS k = 5 := by unfold ownS ownK; repeat' split
                               all_goals first | rfl | omega
    have z8 : (k == 8) = false := by simp; omega
    have z9 : (k == 9) = false := by simp; omega
    have z10 : (k == 10) = false := by simp; omega
    have z11 : (k == 11) = false := by simp; omega
    have z12 : (k == 12) = false := by simp; omega
    have z13 : (k == 13) = false := by simp; omega
    rw [e1, e2]
    clear e1 e2 h
    go_enter Tryz.func58, Tryz.ntmps58
    go_wp2
    go_ret2
    exact ⟨rfl, rfl⟩
/-- A builder, and an expression to write. -/
structure EpI (N T : Nat) (S : Nat → Prop) (b o : Nat) (p : PatT) (l : List UInt8) (w : World) : Prop where
  bld : Bld N T l w
  gl : Glob w
  hw : T ≤ w.heap.size
  pat : PatAt w S b o p
  hS : ∀ y, S y → y < T
  hT : T ≤ N
  hg : 0 < T ∧ 1 < T
section
variable {N T : Nat} {S : Nat → Prop} {b o : Nat} {p : PatT} {l l' : List UInt8} {w w' : World}
theorem EpI.wrote (h : EpI N T S b o p l w) (B : Bld N T l' w') (k : KB N T w w') : EpI N T S b o p l' w' :=
  ⟨B, h.gl.below (k.below h.hT h.hw) h.hg, Nat.le_trans h.hw (Kept.size k), h.pat.kept k (safe_kb h.hS h.hT h.hw), h.hS, h.hT, h.hg⟩
theorem EpI.quiet (h : EpI N T S b o p l w) (k : Kept Nix w w') : EpI N T S b o p l w' :=
  h.wrote (h.bld.kept k) (Kept.more k fun _ h => h.elim)
theorem EpI.kid {k n : Int} {t nm : ByteArray} {kids : List PatT} (h : EpI N T S b o (.mk k t n nm kids) l w) (j : Nat) (hj : j < kids.length) :
    ∃ kb ko cap, w.cell? ⟨b, o + 4, none⟩ = some (.slice (some ⟨kb, ko, none⟩) kids.length cap) ∧ EpI N T S kb (ko + j * 5) kids[j] l w := by
  obtain ⟨_, _, _, _, _, _, ka, cap, p4, hk⟩ := h.pat.open
  dsimp only [PatT.kids_mk] at p4 hk
  obtain ⟨kb, ko, rfl⟩ := PatsAt_head hk (by omega)
  exact ⟨kb, ko, cap, p4, h.bld, h.gl, h.hw, PatsAt_get kids kb ko j hj hk, h.hS, h.hT, h.hg⟩
end
theorem format_any (n : Int) (w : World) (hg : Glob w) (h0 : 0 ≤ n) (h1 : n ≤ 9223372036854775807) : Calls Tryz.prog 59 #[.int .i64 n, .int .i64 10] w (StrQ (Lib.decDigits n.toNat) w) := by
  refine (Tryz.strconv_FormatInt_10 n (by omega) (by omega) w hg.2).mono ?_
  rintro e w' ⟨rfl, k, os, rfl⟩
  refine ⟨by unfold Lib.itoa; rw [if_neg (by omega)], ?_⟩
  refine ⟨rfl, rfl, rfl, ?_, fun j hj _ => ?_⟩
  · show w.heap.size ≤ (w.heap ++ os).size; simp
  · show (w.heap ++ os)[j]? = _; rw [Array.getElem?_append_left hj]
def EpOk (N T b o i : Nat) (p : PatT) (l : List UInt8) (w : World) : Prop :=
  Calls Tryz.prog 43 #[.pointer (some ⟨N, 0, none⟩), .pointer (some ⟨b, o, none⟩), .int .i64 i] w (SpPost N T (l ++ expF p i) w)
def EpIH (N T : Nat) (S : Nat → Prop) (kids : List PatT) : Prop :=
  ∀ (j : Nat) (hj : j < kids.length) (b o i : Nat) (l : List UInt8) (w : World), EpI N T S b o kids[j] l w → i ≤ 5 → l.length + (expF kids[j] i).length ≤ big → EpOk N T b o i kids[j] l w

section
variable (N T : Nat) (S : Nat → Prop) (b o i : Nat) (t : ByteArray) (n : Int) (nm : ByteArray) (kids : List PatT) (l : List UInt8) (w : World)
set_option maxRecDepth 100000 in
set_option maxHeartbeats 4000000 in
theorem exp_text (h : EpI N T S b o (.mk 1 t n nm kids) l w) (hn : OkX (.mk 1 t n nm kids)) (hi : i ≤ 5) (hl : l.length + (expF (.mk 1 t n nm kids) i).length ≤ big) : EpOk N T b o i (.mk 1 t n nm kids) l w := by
  obtain ⟨_, ht, _⟩ := hn.facts
  obtain ⟨_, _, p0, p1, p2, p3, ka, cap, p4, -⟩ := h.pat.open
  dsimp only [PatT.kind_mk, PatT.text_mk, PatT.n_mk, PatT.name_mk, PatT.kids_mk] at p0 p1 p2 p3 p4
  unfold big at hl
  unfold EpOk
  have HH := Lib.hid h
  have e0 : decide ((5 : Int) < (i : Int)) = false := decide_eq_false (by omega)
  have hs : expF (.mk 1 t n nm kids) i = quoteL t := by rw [expF, if_pos rfl]
  rw [hs] at hl ⊢
  have htq : t.size ≤ 100000 := by have := ht rfl; omega
  have hln : Hid (l.length + (⟨(quoteL t).toArray⟩ : ByteArray).size ≤ 140737488355328) := by unfold Hid; show l.length + (quoteL t).toArray.size ≤ _; rw [List.size_toArray]; omega
  clear hs h hn ht
  go_enter_defers Tryz.func43, Tryz.ntmps43
  go_wp2_with (first
    | (go_at_call 58; (refine (signs_any 1 w).mono ?_); rintro e w' ⟨rfl, hw_⟩; obtain rfl := hw_.symm; simp only [signS, ownS, ownK])
    | (go_at_call 56; (with_reducible refine (quote_any t _ HH.out.gl htq).mono ?_); (rintro e w1 ⟨rfl, K1⟩); (have h1 := Lib.hid (HH.out.quiet K1)); (have HK1 := Lib.hid K1); clear K1)
    | (go_at_call 30; go_loud ((refine (writeString_any N T l _ _ h1.out.bld hln.out h1.out.hw).mono ?_); (rintro e w2 ⟨rfl, Q, K2⟩); (have KK : Hid (KB N T w w2) := KB.trans (Kept.more HK1.out fun _ h => h.elim) K2); (have Q := Lib.hid Q); clear K2)))
  exact ⟨_, results_none rfl _ _ _, rfl, Q.out, KK.out⟩
set_option maxRecDepth 100000 in
set_option maxHeartbeats 4000000 in
theorem exp_num (h : EpI N T S b o (.mk 2 t n nm kids) l w) (hn : OkX (.mk 2 t n nm kids)) (hi : i ≤ 5) (hl : l.length + (expF (.mk 2 t n nm kids) i).length ≤ big) : EpOk N T b o i (.mk 2 t n nm kids) l w := by
  obtain ⟨_, _, hn0, hn1, _⟩ := hn.facts
  obtain ⟨_, _, p0, p1, p2, p3, ka, cap, p4, -⟩ := h.pat.open
  dsimp only [PatT.kind_mk, PatT.text_mk, PatT.n_mk, PatT.name_mk, PatT.kids_mk] at p0 p1 p2 p3 p4
  unfold big at hl
  unfold EpOk
  have HH := Lib.hid h
  have e0 : decide ((5 : Int) < (i : Int)) = false := decide_eq_false (by omega)
  have hs : expF (.mk 2 t n nm kids) i = Lib.decDigits n.toNat := by rw [expF, if_neg (by decide), if_pos rfl]
  rw [hs] at hl ⊢
  have hn2 := hn0 rfl
  have hln : Hid (l.length + (⟨(Lib.decDigits n.toNat).toArray⟩ : ByteArray).size ≤ 140737488355328) := by unfold Hid; show l.length + (Lib.decDigits n.toNat).toArray.size ≤ _; rw [List.size_toArray]; omega
  clear hs h hn hn0
  go_enter_defers Tryz.func43, Tryz.ntmps43
  go_wp2_with (first
    | (go_at_call 58; (refine (signs_any 2 w).mono ?_); rintro e w' ⟨rfl, hw_⟩; obtain rfl := hw_.symm; simp only [signS, ownS, ownK])
    | (go_at_call 59; (with_reducible refine (format_any n _ HH.out.gl hn2 hn1).mono ?_); (rintro e w1 ⟨rfl, K1⟩); (have h1 := Lib.hid (HH.out.quiet K1)); (have HK1 := Lib.hid K1); clear K1)
    | (go_at_call 30; (refine (writeString_any N T l _ _ h1.out.bld hln.out h1.out.hw).mono ?_); (rintro e w2 ⟨rfl, Q, K2⟩); (have KK : Hid (KB N T w w2) := KB.trans (Kept.more HK1.out fun _ h => h.elim) K2); (have Q := Lib.hid Q); clear K2))
  exact ⟨_, results_none rfl _ _ _, rfl, Q.out, KK.out⟩
set_option maxRecDepth 100000 in
set_option maxHeartbeats 4000000 in
theorem exp_name (h : EpI N T S b o (.mk 3 t n nm kids) l w) (hn : OkX (.mk 3 t n nm kids)) (hi : i ≤ 5) (hl : l.length + (expF (.mk 3 t n nm kids) i).length ≤ big) : EpOk N T b o i (.mk 3 t n nm kids) l w := by
  obtain ⟨_, _, p0, p1, p2, p3, ka, cap, p4, -⟩ := h.pat.open
  dsimp only [PatT.kind_mk, PatT.text_mk, PatT.n_mk, PatT.name_mk, PatT.kids_mk] at p0 p1 p2 p3 p4
  unfold big at hl
  unfold EpOk
  have HH := Lib.hid h
  have e0 : decide ((5 : Int) < (i : Int)) = false := decide_eq_false (by omega)
  have hs : expF (.mk 3 t n nm kids) i = nm.data.toList := by rw [expF, if_neg (by decide), if_neg (by decide), if_pos rfl]
  rw [hs] at hl ⊢
  have hln : Hid (l.length + nm.size ≤ 140737488355328) := by unfold Hid; have e : nm.data.toList.length = nm.size := rfl; omega
  clear hs h hn
  go_enter_defers Tryz.func43, Tryz.ntmps43
  go_wp2_with (first
    | (go_at_call 58; (refine (signs_any 3 w).mono ?_); rintro e w' ⟨rfl, hw_⟩; obtain rfl := hw_.symm; simp only [signS, ownS, ownK])
    | (go_at_call 30; (refine (writeString_any N T l _ _ HH.out.bld hln.out HH.out.hw).mono ?_); (rintro e w2 ⟨rfl, Q, K2⟩); (have KK : Hid (KB N T w w2) := K2); (have Q := Lib.hid Q); clear K2))
  exact ⟨_, results_none rfl _ _ _, rfl, Q.out, KK.out⟩
end
end Go.Proofs.YtcfcdobgpldoiaaGreatDoor

namespace Go.Proofs.YtcfcdobgpldoiaaGreatDoor
set_option linter.all false
open Go.RowKit

section
variable (N T : Nat) (S : Nat → Prop) (b o i : Nat) (t : ByteArray) (n : Int) (nm : ByteArray) (kids : List PatT) (l : List UInt8) (w : World)
set_option maxRecDepth 100000 in
set_option maxHeartbeats 4000000 in
theorem exp_item (h : EpI N T S b o (.mk 4 t n nm kids) l w) (hn : OkX (.mk 4 t n nm kids)) (hi : i ≤ 5) (hl : l.length + (expF (.mk 4 t n nm kids) i).length ≤ big) (hih : EpIH N T S kids) : EpOk N T b o i (.mk 4 t n nm kids) l w := by
  obtain ⟨q, rfl⟩ := hn.one (by decide)
  have hfc := hn.facts
  obtain ⟨_, _, p0, p1, p2, p3, ka, cap, p4, -⟩ := h.pat.open
  dsimp only [PatT.kind_mk, PatT.text_mk, PatT.n_mk, PatT.name_mk, PatT.kids_mk] at p0 p1 p2 p3 p4
  unfold EpOk
  have HH := Lib.hid h; have HIH := Lib.hid hih
  have e0 : decide ((5 : Int) < (i : Int)) = false := decide_eq_false (by omega)
  have hs : expF (.mk 4 t n nm [q]) i = nm.data.toList ++ (60 :: (expF q 1 ++ [62])) := by rw [expF]; simp only [eHead]; rfl
  rw [hs] at hl ⊢
  have eb : big = 1000000000000 := rfl
  have enm : nm.data.toList.length = nm.size := rfl
  simp only [List.length_append, List.length_cons, List.length_nil] at hl
  have hstr : Hid (nm ++ (⟨#[60]⟩ : ByteArray) = ⟨(nm.data.toList ++ [60]).toArray⟩) := by
    unfold Hid; show (⟨nm.data.toList.toArray⟩ : ByteArray) ++ ⟨[60].toArray⟩ = _; rw [app_str]
  have hnm : nm.size ≤ 16 := hfc.2.2.2.2.1 (by omega)
  clear hs hih h hn hfc p1 p2 p4
  go_enter_defers Tryz.func43, Tryz.ntmps43
  go_wp2_with (go_at_call 58; (refine (signs_any 4 w).mono ?_); rintro e w' ⟨rfl, hw_⟩; obtain rfl := hw_.symm; simp only [signS, ownS, ownK])
  rw [hstr.out]
  refine (writeString_any N T l _ _ HH.out.bld (by show l.length + (nm.data.toList ++ [60]).toArray.size ≤ _; rw [List.size_toArray]; (try simp only [List.length_append, List.length_cons, List.length_nil]); omega) HH.out.hw).mono ?_
  rintro e w1 ⟨rfl, B1, K1⟩
  have B1' : Bld N T (l ++ (nm.data.toList ++ [60])) w1 := B1
  have h1 := HH.out.wrote B1' K1
  obtain ⟨kb, ko, cap1, c4, hq⟩ := h1.kid 0 (by simp)
  have H1 := Lib.hid h1; have HQ := Lib.hid hq; have HK1 := Lib.hid K1
  clear B1 B1' K1 h1 hq p0 p3
  go_wp2_with fail
  refine (HIH.out 0 (by simp) kb ko 1 (l ++ (nm.data.toList ++ [60])) w1 (by have := HQ.out; simpa using this) (by omega) (by show (l ++ (nm.data.toList ++ [60])).length + (expF q 1).length ≤ _; (try simp only [List.length_append, List.length_cons, List.length_nil]); omega)).mono ?_
  rintro e w2 ⟨rfl, B2, K2⟩
  have H2 := Lib.hid (H1.out.wrote B2 K2)
  have K12 := Lib.hid (KB.trans HK1.out K2)
  clear B2 K2 c4
  go_wp2_with fail
  refine (writeByte_at N T _ 62 62 rfl _ H2.out.bld (by show ((l ++ (nm.data.toList ++ [60])) ++ expF q 1).length + 1 ≤ _; (try simp only [List.length_append, List.length_cons, List.length_nil]); omega) H2.out.hw).mono ?_
  rintro e w3 ⟨rfl, B3, K3⟩
  have Q : Hid (Bld N T (l ++ (nm.data.toList ++ (60 :: (expF q 1 ++ [62])))) w3) := by
    have B3' : Bld N T (((l ++ (nm.data.toList ++ [60])) ++ expF q 1) ++ [62]) w3 := B3
    simp only [List.append_assoc, List.cons_append, List.nil_append] at B3'
    exact B3'
  have KK := Lib.hid (KB.trans K12.out K3)
  clear B3 K3
  go_wp2_with fail
  exact ⟨_, results_none rfl _ _ _, rfl, Q.out, KK.out⟩
set_option maxRecDepth 100000 in
set_option maxHeartbeats 4000000 in
theorem exp_ind (h : EpI N T S b o (.mk 5 t n nm kids) l w) (hn : OkX (.mk 5 t n nm kids)) (hi : i ≤ 5) (hl : l.length + (expF (.mk 5 t n nm kids) i).length ≤ big) (hih : EpIH N T S kids) : EpOk N T b o i (.mk 5 t n nm kids) l w := by
  obtain ⟨q, rfl⟩ := hn.one (by decide)
  have hfc := hn.facts
  obtain ⟨_, _, p0, p1, p2, p3, ka, cap, p4, -⟩ := h.pat.open
  dsimp only [PatT.kind_mk, PatT.text_mk, PatT.n_mk, PatT.name_mk, PatT.kids_mk] at p0 p1 p2 p3 p4
  unfold EpOk
  have HH := Lib.hid h; have HIH := Lib.hid hih
  have e0 : decide ((5 : Int) < (i : Int)) = false := decide_eq_false (by omega)
  have hs : expF (.mk 5 t n nm [q]) i = 36 :: expF q 5 := by rw [expF]; simp only [eHead]; rfl
  rw [hs] at hl ⊢
  have eb : big = 1000000000000 := rfl
  have enm : nm.data.toList.length = nm.size := rfl
  simp only [List.length_append, List.length_cons, List.length_nil] at hl
  clear hs hih h hn hfc p1 p2 p4
  go_enter_defers Tryz.func43, Tryz.ntmps43
  go_wp2_with (go_at_call 58; (refine (signs_any 5 w).mono ?_); rintro e w' ⟨rfl, hw_⟩; obtain rfl := hw_.symm; simp only [signS, ownS, ownK])
  refine (writeByte_at N T (l) 36 36 rfl _ HH.out.bld (by (try simp only [List.length_append, List.length_cons, List.length_nil]); omega) HH.out.hw).mono ?_
  rintro e w4 ⟨rfl, B4, K4⟩
  have h4 := HH.out.wrote B4 K4
  obtain ⟨kb, ko, cap1, c4, hq⟩ := h4.kid 0 (by simp)
  have H4 := Lib.hid h4; have HQ := Lib.hid hq; have HK4 := Lib.hid K4
  clear B4 K4 h4 hq p0 p3
  go_wp2_with fail
  refine (HIH.out 0 (by simp) kb ko 5 ((l) ++ [36]) w4 (by have := HQ.out; simpa using this) (by omega) (by show ((l) ++ [36]).length + (expF q 5).length ≤ _; (try simp only [List.length_append, List.length_cons, List.length_nil]); omega)).mono ?_
  rintro e w5 ⟨rfl, B5, K5⟩
  have B5' : Bld N T (((l) ++ [36]) ++ expF q 5) w5 := B5
  have H5 := Lib.hid (H4.out.wrote B5' K5)
  have KK := Lib.hid (KB.trans HK4.out K5)
  clear B5 B5' K5 c4
  go_wp2_with fail
  refine ⟨_, results_none rfl _ _ _, rfl, ?_, KK.out⟩
  have := H5.out.bld
  simp only [List.append_assoc, List.cons_append, List.nil_append] at this ⊢
  exact this
set_option maxRecDepth 100000 in
set_option maxHeartbeats 4000000 in
theorem exp_neg (h : EpI N T S b o (.mk 7 t n nm kids) l w) (hn : OkX (.mk 7 t n nm kids)) (hi : i ≤ 4) (hl : l.length + (expF (.mk 7 t n nm kids) i).length ≤ big) (hih : EpIH N T S kids) : EpOk N T b o i (.mk 7 t n nm kids) l w := by
  obtain ⟨q, rfl⟩ := hn.one (by decide)
  have hfc := hn.facts
  obtain ⟨_, _, p0, p1, p2, p3, ka, cap, p4, -⟩ := h.pat.open
  dsimp only [PatT.kind_mk, PatT.text_mk, PatT.n_mk, PatT.name_mk, PatT.kids_mk] at p0 p1 p2 p3 p4
  unfold EpOk
  have HH := Lib.hid h; have HIH := Lib.hid hih
  have e0 : decide ((4 : Int) < (i : Int)) = false := decide_eq_false (by omega)
  have hs : expF (.mk 7 t n nm [q]) i = 45 :: expF q 4 := by rw [expF]; simp only [eHead]; show parL (decide (4 < i)) (45 :: expF q 4) = _; rw [decide_eq_false (by omega : ¬ 4 < i)]; rfl
  rw [hs] at hl ⊢
  have eb : big = 1000000000000 := rfl
  have enm : nm.data.toList.length = nm.size := rfl
  simp only [List.length_append, List.length_cons, List.length_nil] at hl
  clear hs hih h hn hfc p1 p2 p4
  go_enter_defers Tryz.func43, Tryz.ntmps43
  go_wp2_with (go_at_call 58; (refine (signs_any 7 w).mono ?_); rintro e w' ⟨rfl, hw_⟩; obtain rfl := hw_.symm; simp only [signS, ownS, ownK])
  refine (writeByte_at N T (l) 45 45 rfl _ HH.out.bld (by (try simp only [List.length_append, List.length_cons, List.length_nil]); omega) HH.out.hw).mono ?_
  rintro e w4 ⟨rfl, B4, K4⟩
  have h4 := HH.out.wrote B4 K4
  obtain ⟨kb, ko, cap1, c4, hq⟩ := h4.kid 0 (by simp)
  have H4 := Lib.hid h4; have HQ := Lib.hid hq; have HK4 := Lib.hid K4
  clear B4 K4 h4 hq p0 p3
  go_wp2_with fail
  refine (HIH.out 0 (by simp) kb ko 4 ((l) ++ [45]) w4 (by have := HQ.out; simpa using this) (by omega) (by show ((l) ++ [45]).length + (expF q 4).length ≤ _; (try simp only [List.length_append, List.length_cons, List.length_nil]); omega)).mono ?_
  rintro e w5 ⟨rfl, B5, K5⟩
  have B5' : Bld N T (((l) ++ [45]) ++ expF q 4) w5 := B5
  have H5 := Lib.hid (H4.out.wrote B5' K5)
  have KK := Lib.hid (KB.trans HK4.out K5)
  clear B5 B5' K5 c4
  go_wp2_with fail
  refine ⟨_, results_none rfl _ _ _, rfl, ?_, KK.out⟩
  have := H5.out.bld
  simp only [List.append_assoc, List.cons_append, List.nil_append] at this ⊢
  exact this
set_option maxRecDepth 100000 in
set_option maxHeartbeats 4000000 in
theorem exp_negP (h : EpI N T S b o (.mk 7 t n nm kids) l w) (hn : OkX (.mk 7 t n nm kids)) (hi : i = 5) (hl : l.length + (expF (.mk 7 t n nm kids) i).length ≤ big) (hih : EpIH N T S kids) : EpOk N T b o i (.mk 7 t n nm kids) l w := by
  obtain ⟨q, rfl⟩ := hn.one (by decide)
  have hfc := hn.facts
  obtain ⟨_, _, p0, p1, p2, p3, ka, cap, p4, -⟩ := h.pat.open
  dsimp only [PatT.kind_mk, PatT.text_mk, PatT.n_mk, PatT.name_mk, PatT.kids_mk] at p0 p1 p2 p3 p4
  unfold EpOk
  have HH := Lib.hid h; have HIH := Lib.hid hih
  have e0 : decide ((4 : Int) < (i : Int)) = true := decide_eq_true (by omega)
  have hs : expF (.mk 7 t n nm [q]) i = 40 :: ((45 :: expF q 4) ++ [41]) := by rw [expF]; simp only [eHead]; show parL (decide (4 < i)) (45 :: expF q 4) = _; rw [decide_eq_true (by omega : 4 < i)]; rfl
  rw [hs] at hl ⊢
  have eb : big = 1000000000000 := rfl
  have enm : nm.data.toList.length = nm.size := rfl
  simp only [List.length_append, List.length_cons, List.length_nil] at hl
  clear hs hih h hn hfc p1 p2 p4
  go_enter_defers Tryz.func43, Tryz.ntmps43
  go_wp2_with (go_at_call 58; (refine (signs_any 7 w).mono ?_); rintro e w' ⟨rfl, hw_⟩; obtain rfl := hw_.symm; simp only [signS, ownS, ownK])
  refine (writeByte_at N T l 40 40 rfl w HH.out.bld (by omega) HH.out.hw).mono ?_
  rintro e w1 ⟨rfl, B1, K1⟩
  have h1 := HH.out.wrote B1 K1
  have HK1 := Lib.hid K1
  obtain ⟨_, _, r0, -, -, -, _, _, -, -⟩ := h1.pat.open
  dsimp only [PatT.kind_mk] at r0
  have H1 := Lib.hid h1
  clear B1 K1 h1 p0 p3
  go_wp2_with fail
  refine (writeByte_at N T (l ++ [40]) 45 45 rfl _ H1.out.bld (by (try simp only [List.length_append, List.length_cons, List.length_nil]); omega) H1.out.hw).mono ?_
  rintro e w4 ⟨rfl, B4, K4⟩
  have h4 := H1.out.wrote B4 K4
  obtain ⟨kb, ko, cap1, c4, hq⟩ := h4.kid 0 (by simp)
  have H4 := Lib.hid h4; have HQ := Lib.hid hq; have HK4 := Lib.hid (KB.trans HK1.out K4)
  clear B4 K4 h4 hq r0
  go_wp2_with fail
  refine (HIH.out 0 (by simp) kb ko 4 ((l ++ [40]) ++ [45]) w4 (by have := HQ.out; simpa using this) (by omega) (by show ((l ++ [40]) ++ [45]).length + (expF q 4).length ≤ _; (try simp only [List.length_append, List.length_cons, List.length_nil]); omega)).mono ?_
  rintro e w5 ⟨rfl, B5, K5⟩
  have B5' : Bld N T (((l ++ [40]) ++ [45]) ++ expF q 4) w5 := B5
  have H5 := Lib.hid (H4.out.wrote B5' K5)
  have KK := Lib.hid (KB.trans HK4.out K5)
  clear B5 B5' K5 c4
  go_wp2_with fail
  refine leaves_cons (f := 55) (args := #[.pointer (some ⟨N, 0, none⟩), .int .u8 41]) (by simp) (by simp [go_sem]) ?_
  refine (writeByteD_any N T _ 41 _ _ H5.out.bld (by (try simp only [List.length_append, List.length_cons, List.length_nil]); omega) H5.out.hw).mono ?_
  rintro e u' w6 ⟨rfl, rfl, B6, K6⟩
  refine ⟨_, results_none rfl _ _ _, rfl, ?_, KB.trans KK.out K6⟩
  have := B6
  simp only [List.append_assoc, List.cons_append, List.nil_append] at this ⊢
  exact this
end
end Go.Proofs.YtcfcdobgpldoiaaGreatDoor

namespace Go.Proofs.YtcfcdobgpldoiaaGreatDoor
set_option linter.all false
open Go.RowKit

section
variable (N T : Nat) (S : Nat → Prop) (b o i : Nat) (t : ByteArray) (n : Int) (nm : ByteArray) (kids : List PatT) (l : List UInt8) (w : World)
set_option maxRecDepth 100000 in
set_option maxHeartbeats 4000000 in
theorem exp_two (k : Int) (hk : 8 ≤ k) (h : EpI N T S b o (.mk k t n nm kids) l w) (hn : OkX (.mk k t n nm kids)) (hi : i ≤ 5) (hp : ¬ ownK k < i) (hl : l.length + (expF (.mk k t n nm kids) i).length ≤ big) (hih : EpIH N T S kids) : EpOk N T b o i (.mk k t n nm kids) l w := by
  obtain ⟨p, q, rfl⟩ := hn.two hk
  have hfc := hn.facts.1
  obtain ⟨_, _, p0, p1, p2, p3, ka, cap, p4, -⟩ := h.pat.open
  dsimp only [PatT.kind_mk, PatT.text_mk, PatT.n_mk, PatT.name_mk, PatT.kids_mk] at p0 p1 p2 p3 p4
  unfold EpOk
  have HH := Lib.hid h; have HIH := Lib.hid hih
  have hs : expF (.mk k t n nm [p, q]) i = (expF p (ownK k) ++ ([32, signK k, 32] ++ expF q (ownK k + 1))) := by
    rw [expF, if_neg (by omega), if_neg (by omega), if_neg (by omega), if_neg (by omega), if_neg (by omega), if_neg (by omega), if_neg (by omega)]
    simp only [eTwo, eHead]
    rw [decide_eq_false hp]; rfl
  rw [hs] at hl ⊢
  have eb : big = 1000000000000 := rfl
  simp only [List.length_append, List.length_cons, List.length_nil] at hl
  have hsg : signS k = ⟨[signK k].toArray⟩ := if_pos (by omega)
  have hos : ownS k = ownK k := if_neg (by omega)
  have how : ownK k ≤ 3 := by unfold ownK; split; omega; split; omega; split; omega; omega
  have hstr : Hid ((⟨#[32]⟩ : ByteArray) ++ ⟨[signK k].toArray⟩ ++ ⟨#[32]⟩ = ⟨[32, signK k, 32].toArray⟩) := by
    unfold Hid; show (⟨[32].toArray⟩ : ByteArray) ++ ⟨[signK k].toArray⟩ ++ ⟨[32].toArray⟩ = _; rw [app_str, app_str]; rfl
  have hssz : (⟨[signK k].toArray⟩ : ByteArray).size = 1 := rfl
  generalize hsb : (⟨[signK k].toArray⟩ : ByteArray) = sb at hsg hstr hssz
  generalize ownK k = ow at *
  have HS := Lib.hid (show signS k = sb from hsg); have HO := Lib.hid hos
  have e0 : decide ((ow : Int) < (i : Int)) = false := decide_eq_false (by omega)
  have e0' : decide (ow < i) = false := decide_eq_false hp
  have z1 : (k == 1) = false := by simp; omega
  have z2 : (k == 2) = false := by simp; omega
  have z3 : (k == 3) = false := by simp; omega
  have z4 : (k == 4) = false := by simp; omega
  have z5 : (k == 5) = false := by simp; omega
  have z6 : (k == 6) = false := by simp; omega
  have z7 : (k == 7) = false := by simp; omega
  clear hs hih h hn hfc p1 p2 p3 hsg hos hsb hp
  obtain ⟨kb, ko, cap1, c4, hq⟩ := HH.out.kid 0 (by simp)
  have HQ := Lib.hid hq
  clear hq p4
  go_enter_defers Tryz.func43, Tryz.ntmps43
  go_wp2_with (go_at_call 58; (refine (signs_any k w).mono ?_); rintro e w' ⟨rfl, hw_⟩; obtain rfl := hw_.symm; rw [HS.out, HO.out])
  refine (HIH.out 0 (by simp) kb ko ow (l) w (by have := HQ.out; simpa using this) (by omega) (by show (l).length + (expF p ow).length ≤ _; (try simp only [List.length_append, List.length_cons, List.length_nil]); omega)).mono ?_
  rintro e w3 ⟨rfl, B3, K3⟩
  have B3' : Bld N T ((l) ++ expF p ow) w3 := B3
  have H3 := Lib.hid (HH.out.wrote B3' K3)
  have HK3 := Lib.hid K3
  clear B3 B3' K3 c4 p0
  go_wp2_with fail
  rw [hstr.out]
  refine (writeString_any N T _ _ _ H3.out.bld (by show ((l) ++ expF p ow).length + [32, signK k, 32].toArray.size ≤ _; rw [List.size_toArray]; (try simp only [List.length_append, List.length_cons, List.length_nil]); omega) H3.out.hw).mono ?_
  rintro e w4 ⟨rfl, B4, K4⟩
  have B4' : Bld N T (((l) ++ expF p ow) ++ [32, signK k, 32]) w4 := B4
  have h4 := H3.out.wrote B4' K4
  obtain ⟨kb2, ko2, cap2, c5, hq2⟩ := h4.kid 1 (by simp)
  have H4 := Lib.hid h4; have HQ2 := Lib.hid hq2; have HK4 := Lib.hid (KB.trans HK3.out K4)
  clear B4 B4' K4 h4 hq2
  go_wp2_with fail
  try rw [show (ow : Int) + 1 = ((ow + 1 : Nat) : Int) from rfl]
  refine (HIH.out 1 (by simp) kb2 (ko2 + 1 * 5) (ow + 1) (((l) ++ expF p ow) ++ [32, signK k, 32]) w4 (by have := HQ2.out; simpa using this) (by omega) (by show (((l) ++ expF p ow) ++ [32, signK k, 32]).length + (expF q (ow + 1)).length ≤ _; (try simp only [List.length_append, List.length_cons, List.length_nil]); omega)).mono ?_
  rintro e w5 ⟨rfl, B5, K5⟩
  have B5' : Bld N T ((((l) ++ expF p ow) ++ [32, signK k, 32]) ++ expF q (ow + 1)) w5 := B5
  have H5 := Lib.hid (H4.out.wrote B5' K5)
  have KK := Lib.hid (KB.trans HK4.out K5)
  clear B5 B5' K5 c5
  go_wp2_with fail
  refine ⟨_, results_none rfl _ _ _, rfl, ?_, KK.out⟩
  have := H5.out.bld
  simp only [List.append_assoc, List.cons_append, List.nil_append] at this ⊢
  exact this
set_option maxRecDepth 100000 in
set_option maxHeartbeats 4000000 in
theorem exp_twoP (k : Int) (hk : 8 ≤ k) (h : EpI N T S b o (.mk k t n nm kids) l w) (hn : OkX (.mk k t n nm kids)) (hi : i ≤ 5) (hp : ownK k < i) (hl : l.length + (expF (.mk k t n nm kids) i).length ≤ big) (hih : EpIH N T S kids) : EpOk N T b o i (.mk k t n nm kids) l w := by
  obtain ⟨p, q, rfl⟩ := hn.two hk
  have hfc := hn.facts.1
  obtain ⟨_, _, p0, p1, p2, p3, ka, cap, p4, -⟩ := h.pat.open
  dsimp only [PatT.kind_mk, PatT.text_mk, PatT.n_mk, PatT.name_mk, PatT.kids_mk] at p0 p1 p2 p3 p4
  unfold EpOk
  have HH := Lib.hid h; have HIH := Lib.hid hih
  have hs : expF (.mk k t n nm [p, q]) i = 40 :: ((expF p (ownK k) ++ ([32, signK k, 32] ++ expF q (ownK k + 1))) ++ [41]) := by
    rw [expF, if_neg (by omega), if_neg (by omega), if_neg (by omega), if_neg (by omega), if_neg (by omega), if_neg (by omega), if_neg (by omega)]
    simp only [eTwo, eHead]
    rw [decide_eq_true hp]; rfl
  rw [hs] at hl ⊢
  have eb : big = 1000000000000 := rfl
  simp only [List.length_append, List.length_cons, List.length_nil] at hl
  have hsg : signS k = ⟨[signK k].toArray⟩ := if_pos (by omega)
  have hos : ownS k = ownK k := if_neg (by omega)
  have how : ownK k ≤ 3 := by unfold ownK; split; omega; split; omega; split; omega; omega
  have hstr : Hid ((⟨#[32]⟩ : ByteArray) ++ ⟨[signK k].toArray⟩ ++ ⟨#[32]⟩ = ⟨[32, signK k, 32].toArray⟩) := by
    unfold Hid; show (⟨[32].toArray⟩ : ByteArray) ++ ⟨[signK k].toArray⟩ ++ ⟨[32].toArray⟩ = _; rw [app_str, app_str]; rfl
  have hssz : (⟨[signK k].toArray⟩ : ByteArray).size = 1 := rfl
  generalize hsb : (⟨[signK k].toArray⟩ : ByteArray) = sb at hsg hstr hssz
  generalize ownK k = ow at *
  have HS := Lib.hid (show signS k = sb from hsg); have HO := Lib.hid hos
  have e0 : decide ((ow : Int) < (i : Int)) = true := decide_eq_true (by omega)
  have e0' : decide (ow < i) = true := decide_eq_true hp
  have z1 : (k == 1) = false := by simp; omega
  have z2 : (k == 2) = false := by simp; omega
  have z3 : (k == 3) = false := by simp; omega
  have z4 : (k == 4) = false := by simp; omega
  have z5 : (k == 5) = false := by simp; omega
  have z6 : (k == 6) = false := by simp; omega
  have z7 : (k == 7) = false := by simp; omega
  clear hs hih h hn hfc p1 p2 p3 hsg hos hsb hp
  obtain ⟨kb, ko, cap1, c4, hq⟩ := HH.out.kid 0 (by simp)
  have HQ := Lib.hid hq
  clear hq p4
  go_enter_defers Tryz.func43, Tryz.ntmps43
  go_wp2_with (go_at_call 58; (refine (signs_any k w).mono ?_); rintro e w' ⟨rfl, hw_⟩; obtain rfl := hw_.symm; rw [HS.out, HO.out])
  refine (writeByte_at N T l 40 40 rfl w HH.out.bld (by omega) HH.out.hw).mono ?_
  rintro e w1 ⟨rfl, B1, K1⟩
  have h1 := HH.out.wrote B1 K1
  have HK1 := Lib.hid K1
  clear HQ c4
  obtain ⟨_, _, r0, -, -, -, _, _, -, -⟩ := h1.pat.open
  dsimp only [PatT.kind_mk] at r0
  obtain ⟨kb, ko, cap1, c4, hq⟩ := h1.kid 0 (by simp)
  have H1 := Lib.hid h1; have HQ := Lib.hid hq
  clear B1 K1 h1 p0 hq
  go_wp2_with fail
  refine (HIH.out 0 (by simp) kb ko ow (l ++ [40]) w1 (by have := HQ.out; simpa using this) (by omega) (by show (l ++ [40]).length + (expF p ow).length ≤ _; (try simp only [List.length_append, List.length_cons, List.length_nil]); omega)).mono ?_
  rintro e w3 ⟨rfl, B3, K3⟩
  have B3' : Bld N T ((l ++ [40]) ++ expF p ow) w3 := B3
  have H3 := Lib.hid (H1.out.wrote B3' K3)
  have HK3 := Lib.hid (KB.trans HK1.out K3)
  clear B3 B3' K3 c4 r0
  go_wp2_with fail
  rw [hstr.out]
  refine (writeString_any N T _ _ _ H3.out.bld (by show ((l ++ [40]) ++ expF p ow).length + [32, signK k, 32].toArray.size ≤ _; rw [List.size_toArray]; (try simp only [List.length_append, List.length_cons, List.length_nil]); omega) H3.out.hw).mono ?_
  rintro e w4 ⟨rfl, B4, K4⟩
  have B4' : Bld N T (((l ++ [40]) ++ expF p ow) ++ [32, signK k, 32]) w4 := B4
  have h4 := H3.out.wrote B4' K4
  obtain ⟨kb2, ko2, cap2, c5, hq2⟩ := h4.kid 1 (by simp)
  have H4 := Lib.hid h4; have HQ2 := Lib.hid hq2; have HK4 := Lib.hid (KB.trans HK3.out K4)
  clear B4 B4' K4 h4 hq2
  go_wp2_with fail
  try rw [show (ow : Int) + 1 = ((ow + 1 : Nat) : Int) from rfl]
  refine (HIH.out 1 (by simp) kb2 (ko2 + 1 * 5) (ow + 1) (((l ++ [40]) ++ expF p ow) ++ [32, signK k, 32]) w4 (by have := HQ2.out; simpa using this) (by omega) (by show (((l ++ [40]) ++ expF p ow) ++ [32, signK k, 32]).length + (expF q (ow + 1)).length ≤ _; (try simp only [List.length_append, List.length_cons, List.length_nil]); omega)).mono ?_
  rintro e w5 ⟨rfl, B5, K5⟩
  have B5' : Bld N T ((((l ++ [40]) ++ expF p ow) ++ [32, signK k, 32]) ++ expF q (ow + 1)) w5 := B5
  have H5 := Lib.hid (H4.out.wrote B5' K5)
  have KK := Lib.hid (KB.trans HK4.out K5)
  clear B5 B5' K5 c5
  go_wp2_with fail
  refine leaves_cons (f := 55) (args := #[.pointer (some ⟨N, 0, none⟩), .int .u8 41]) (by simp) (by simp [go_sem]) ?_
  refine (writeByteD_any N T _ 41 _ _ H5.out.bld (by (try simp only [List.length_append, List.length_cons, List.length_nil]); omega) H5.out.hw).mono ?_
  rintro e u' w6 ⟨rfl, rfl, B6, K6⟩
  refine ⟨_, results_none rfl _ _ _, rfl, ?_, KB.trans KK.out K6⟩
  have := B6
  simp only [List.append_assoc, List.cons_append, List.nil_append] at this ⊢
  exact this
end
end Go.Proofs.YtcfcdobgpldoiaaGreatDoor

namespace Go.Proofs.YtcfcdobgpldoiaaGreatDoor
set_option linter.all false
open Go.RowKit

theorem eJoin_step (kids : List PatT) (j : Nat) (hj : j < kids.length) : eJoin (decide (j = 0)) (kids.drop j) = (if j = 0 then [] else [44, 32]) ++ (expF kids[j] 1 ++ eJoin (decide (j + 1 = 0)) (kids.drop (j + 1))) := by
  rw [List.drop_eq_getElem_cons hj, eJoin]
  by_cases h : j = 0
  · subst h; simp
  · simp [h]
def EpLoop (N T : Nat) (S : Nat → Prop) (b o : Nat) (p : PatT) (kids : List PatT) (l : List UInt8) (w : World) (j : Nat) (wr : World) : Prop :=
  ∃ d, d ++ eJoin (decide (j = 0)) (kids.drop j) = eJoin true kids ∧ EpI N T S b o p (l ++ d) wr ∧ KB N T w wr
theorem EpLoop.next {N T : Nat} {S : Nat → Prop} {b o : Nat} {p : PatT} {kids : List PatT} {l d : List UInt8} {w w' : World} {j : Nat} (hj : j < kids.length)
    (hd : d ++ eJoin (decide (j = 0)) (kids.drop j) = eJoin true kids) (h : EpI N T S b o p ((l ++ d) ++ ((if j = 0 then [] else [44, 32]) ++ expF kids[j] 1)) w') (k : KB N T w w') : EpLoop N T S b o p kids l w (j + 1) w' := by
  refine ⟨d ++ ((if j = 0 then [] else [44, 32]) ++ expF kids[j] 1), ?_, by rw [List.append_assoc] at h; exact h, k⟩
  rw [eJoin_step kids j hj] at hd
  rw [← hd]; simp [List.append_assoc]
theorem EpLoop.len {kids : List PatT} {j : Nat} {d : List UInt8} (hj : j < kids.length) (hd : d ++ eJoin (decide (j = 0)) (kids.drop j) = eJoin true kids) :
    d.length + (if j = 0 then 0 else 2) + (expF kids[j] 1).length ≤ (eJoin true kids).length := by
  rw [eJoin_step kids j hj] at hd
  have := congrArg List.length hd
  simp only [List.length_append] at this
  split at this <;> split <;> simp_all <;> omega

set_option maxRecDepth 100000 in
set_option maxHeartbeats 8000000 in
theorem exp_call (N T : Nat) (S : Nat → Prop) (b o i : Nat) (t : ByteArray) (n : Int) (nm : ByteArray) (kids : List PatT) (l : List UInt8) (w : World) (h : EpI N T S b o (.mk 6 t n nm kids) l w) (hn : OkX (.mk 6 t n nm kids)) (hi : i ≤ 5) (hl : l.length + (expF (.mk 6 t n nm kids) i).length ≤ big) (hih : EpIH N T S kids) : EpOk N T b o i (.mk 6 t n nm kids) l w := by
  have hfc := hn.facts
  obtain ⟨_, _, p0, p1, p2, p3, ka, cap, p4, -⟩ := h.pat.open
  dsimp only [PatT.kind_mk, PatT.text_mk, PatT.n_mk, PatT.name_mk, PatT.kids_mk] at p0 p1 p2 p3 p4
  unfold EpOk
  have HH := Lib.hid h; have HIH := Lib.hid hih
  have e0 : decide ((5 : Int) < (i : Int)) = false := decide_eq_false (by omega)
  have hs : expF (.mk 6 t n nm kids) i = nm.data.toList ++ (40 :: (eJoin true kids ++ [41])) := by rw [expF]; rfl
  rw [hs] at hl ⊢
  have eb : big = 1000000000000 := rfl
  have enm : nm.data.toList.length = nm.size := rfl
  simp only [List.length_append, List.length_cons, List.length_nil] at hl
  have hstr : Hid (nm ++ (⟨#[40]⟩ : ByteArray) = ⟨(nm.data.toList ++ [40]).toArray⟩) := by
    unfold Hid; show (⟨nm.data.toList.toArray⟩ : ByteArray) ++ ⟨[40].toArray⟩ = _; rw [app_str]
  have hnm : nm.size ≤ 16 := hfc.2.2.2.2.1 (by omega)
  have hk8 : kids.length ≤ 8 := hfc.2.2.2.2.2.1 rfl
  clear hs hih h hn hfc p1 p2 p4
  go_enter_defers Tryz.func43, Tryz.ntmps43
  go_wp2_with (go_at_call 58; (refine (signs_any 6 w).mono ?_); rintro e w' ⟨rfl, hw_⟩; obtain rfl := hw_.symm; simp only [signS, ownS, ownK])
  rw [hstr.out]
  refine (writeString_any N T l _ _ HH.out.bld (by show l.length + (nm.data.toList ++ [40]).toArray.size ≤ _; rw [List.size_toArray]; simp only [List.length_append, List.length_cons, List.length_nil]; omega) HH.out.hw).mono ?_
  rintro e w1 ⟨rfl, B1, K1⟩
  have B1' : Bld N T (l ++ (nm.data.toList ++ [40])) w1 := B1
  have h1 := HH.out.wrote B1' K1
  obtain ⟨_, _, -, -, -, -, ka1, cap1, p4, -⟩ := h1.pat.open
  dsimp only [PatT.kids_mk] at p4
  have H1 := Lib.hid h1; have HK1 := Lib.hid K1
  clear B1 B1' K1 h1 p0 p3
  generalize hl1 : l ++ (nm.data.toList ++ [40]) = l1 at H1
  have HL1 := Lib.hid hl1
  have hll : l1.length + (eJoin true kids).length + 1 ≤ 1000000000000 := by rw [← hl1]; simp only [List.length_append, List.length_cons, List.length_nil]; omega
  clear hl1
  go_wp2_with fail
  go_loopw [134] (fun x wr => ∃ j : Nat, j ≤ kids.length ∧ x = .int .i64 j ∧ Hid (EpLoop N T S b o (.mk 6 t n nm kids) kids l1 w1 j wr)) (fun x _ => kids.length - (intOf x).toNat)
  case atStart => exact ⟨0, Nat.zero_le _, rfl, [], by simp, by simpa using H1.out, KB.refl _ _ _⟩
  case round =>
    obtain ⟨j, hj, rfl, hLp⟩ := hrel
    clear p4
    obtain ⟨d, hd, HI, hK⟩ := hLp.out
    have I := Lib.hid HI; have HK := Lib.hid hK; have HD := Lib.hid hd
    by_cases hlt : j < kids.length
    · have hlen := EpLoop.len hlt hd
      obtain ⟨kb, ko, cap1, c4, hq⟩ := HI.kid j hlt
      have HQ := Lib.hid hq
      clear hd hK HI hq hLp
      by_cases hj0 : j = 0
      · have y1 : decide ((0 : Int) < (j : Int)) = false := decide_eq_false (by omega)
        have y2 : decide (0 < j) = false := decide_eq_false (by omega)
        have HE : Hid ((if j = 0 then [] else ([44, 32] : List UInt8)) = []) := if_pos hj0
        rw [if_pos hj0] at hlen
        clear hj0
        go_wp2_with fail
        refine (HIH.out j hlt kb (ko + j * 5) 1 _ _ HQ.out (by omega) (by show (l1 ++ d).length + _ ≤ _; simp only [List.length_append, List.length_cons, List.length_nil]; omega)).mono ?_
        rintro e w3 ⟨rfl, B3, K3⟩
        have L3 : Hid (EpLoop N T S b o (.mk 6 t n nm kids) kids l1 w1 (j + 1) w3) := EpLoop.next hlt HD.out (by rw [HE.out]; exact I.out.wrote B3 K3) (KB.trans HK.out K3)
        clear B3 K3 c4
        go_wp2_with fail
        go_roundw
        case rel => exact ⟨j + 1, by omega, by go_num, L3⟩
        case measure => simp [intOf]; omega
      · have y1 : decide ((0 : Int) < (j : Int)) = true := decide_eq_true (by omega)
        have y2 : decide (0 < j) = true := decide_eq_true (by omega)
        have HE : Hid ((if j = 0 then [] else ([44, 32] : List UInt8)) = [44, 32]) := if_neg hj0
        rw [if_neg hj0] at hlen
        clear hj0
        go_wp2_with fail
        refine (writeString_any N T _ ⟨#[44, 32]⟩ _ I.out.bld (by show (l1 ++ d).length + 2 ≤ _; simp only [List.length_append, List.length_cons, List.length_nil] at hlen ⊢; omega) I.out.hw).mono ?_
        rintro e w2 ⟨rfl, B2, K2⟩
        rw [show (⟨#[44, 32]⟩ : ByteArray).data.toList = [44, 32] from rfl] at B2
        have I2 := Lib.hid (I.out.wrote B2 K2)
        have HK2 := Lib.hid (KB.trans HK.out K2)
        clear B2 K2 c4
        obtain ⟨kb, ko, cap1, c4, hq⟩ := I2.out.kid j hlt
        clear HQ
        have HQ := Lib.hid hq
        clear hq
        go_wp2_with fail
        refine (HIH.out j hlt kb (ko + j * 5) 1 _ _ HQ.out (by omega) (by simp only [List.length_append, List.length_cons, List.length_nil] at hlen ⊢; omega)).mono ?_
        rintro e w3 ⟨rfl, B3, K3⟩
        have L3 : Hid (EpLoop N T S b o (.mk 6 t n nm kids) kids l1 w1 (j + 1) w3) := EpLoop.next hlt HD.out (by rw [HE.out, ← List.append_assoc]; exact I2.out.wrote B3 K3) (KB.trans HK2.out K3)
        clear B3 K3 c4
        go_wp2_with fail
        go_roundw
        case rel => exact ⟨j + 1, by omega, by go_num, L3⟩
        case measure => simp [intOf]; omega
    · obtain rfl : j = kids.length := by omega
      rw [List.drop_length] at hd
      have hd2 : d = eJoin true kids := by simpa [eJoin] using hd
      subst hd2
      clear hd hK HI hLp HD
      go_wp2_with fail
      refine (writeByte_at N T _ 41 41 rfl _ I.out.bld (by simp only [List.length_append, List.length_cons, List.length_nil]; omega) I.out.hw).mono ?_
      rintro e w3 ⟨rfl, B3, K3⟩
      have KK := Lib.hid (KB.trans HK1.out (KB.trans HK.out K3))
      have Q : Hid (Bld N T (l ++ (nm.data.toList ++ (40 :: (eJoin true kids ++ [41])))) w3) := by
        have B3' : Bld N T ((l1 ++ eJoin true kids) ++ [41]) w3 := B3
        rw [← HL1.out] at B3'
        simp only [List.append_assoc, List.cons_append, List.nil_append] at B3'
        exact B3'
      clear B3 K3
      go_wp2_with fail
      exact ⟨_, results_none rfl _ _ _, rfl, Q.out, KK.out⟩

theorem exp_all (N T : Nat) (S : Nat → Prop) : ∀ (m : Nat) (p : PatT) (b o i : Nat) (l : List UInt8) (w : World), sizeT p ≤ m → OkX p → EpI N T S b o p l w → i ≤ 5 → l.length + (expF p i).length ≤ big → EpOk N T b o i p l w := by
  intro m
  induction m with
  | zero => intro p b o i l w hm; have := sizeT_pos p; omega
  | succ m ih =>
    intro p b o i l w hm hok h hi hl
    obtain ⟨k, t, n, nm, kids⟩ := p
    have hih : EpIH N T S kids := fun j hj b o i l w h hi hl => ih kids[j] b o i l w (by have := sizeT_get kids j hj; simp only [sizeT] at hm; omega) (hok.sub.get j hj) h hi hl
    obtain ⟨h1, h13⟩ := hok.facts.1
    by_cases c1 : k = 1
    · subst c1; exact exp_text N T S b o i t n nm kids l w h hok hi hl
    by_cases c2 : k = 2
    · subst c2; exact exp_num N T S b o i t n nm kids l w h hok hi hl
    by_cases c3 : k = 3
    · subst c3; exact exp_name N T S b o i t n nm kids l w h hok hi hl
    by_cases c4 : k = 4
    · subst c4; exact exp_item N T S b o i t n nm kids l w h hok hi hl hih
    by_cases c5 : k = 5
    · subst c5; exact exp_ind N T S b o i t n nm kids l w h hok hi hl hih
    by_cases c6 : k = 6
    · subst c6; exact exp_call N T S b o i t n nm kids l w h hok hi hl hih
    by_cases c7 : k = 7
    · subst c7
      by_cases hp : i = 5
      · exact exp_negP N T S b o i t n nm kids l w h hok hp hl hih
      · exact exp_neg N T S b o i t n nm kids l w h hok (by omega) hl hih
    · by_cases hp : ownK k < i
      · exact exp_twoP N T S b o i t n nm kids l w k (by omega) h hok hi hp hl hih
      · exact exp_two N T S b o i t n nm kids l w k (by omega) h hok hi hp hl hih
end Go.Proofs.YtcfcdobgpldoiaaGreatDoor

namespace Go.Proofs.YtcfcdobgpldoiaaGreatDoor
set_option linter.all false
open Go.RowKit

set_option maxRecDepth 100000 in
set_option maxHeartbeats 4000000 in
/-- syntax.text. -/
theorem etext_any (p : PatT) (v : Value) (w : World) (hp : PatV w (· < w.heap.size) v p) (hok : OkX p) (hsz : sizeT p ≤ 4096) (hg : Glob w) (hgl : 0 < w.heap.size ∧ 1 < w.heap.size) :
    Calls Tryz.prog 24 #[v] w (StrQ (expF p 1) w) := by
  obtain ⟨c, rfl, hb⟩ := hp.box 25 (fun b hb => hb)
  obtain ⟨ka, cap, hv, hz, hk⟩ := hp
  simp only [Value.agg.injEq] at hv
  subst hv
  have kA : Kept Nix w (w.alloc (.cells #[.int .i64 p.kind, .string p.text, .int .i64 p.n, .string p.name, .slice ka p.kids.length cap] 25)) := (Kept.refl _ _).alloc _
  obtain ⟨w1, hw1⟩ : ∃ w1, w1 = (w.alloc (.cells #[.int .i64 p.kind, .string p.text, .int .i64 p.n, .string p.name, .slice ka p.kids.length cap] 25)) := ⟨_, rfl⟩
  rw [← hw1] at hb kA
  have hs1 : w1.heap.size = w.heap.size + 1 := by rw [hw1]; simp
  have hb' : PatAt w1 (· < w1.heap.size) w.heap.size 0 p := PatAt.same (fun _ _ => rfl) (fun b hb => by rcases hb with hb | rfl <;> omega) _ _ _ hb
  obtain ⟨w2, hw2⟩ : ∃ w2, w2 = w1.alloc (.cells #[.pointer none, .slice none 0 0] 61) := ⟨_, rfl⟩
  have k2 : Kept Nix w1 w2 := by rw [hw2]; exact (Kept.refl Nix w1).alloc _
  have hs2 : w2.heap.size = w1.heap.size + 1 := by rw [hw2]; simp
  have hlen := exp_len p 1 hok
  have SP : Hid (EpI w1.heap.size w1.heap.size (· < w1.heap.size) w.heap.size 0 p [] w2) := by
    refine ⟨.inl ⟨Nat.le_refl _, .slice none 0 0, ?_, ⟨rfl, .inl ⟨rfl, rfl⟩⟩, by simp [Value.ownBlock]⟩, hg.below (kA.trans k2).below hgl, by omega, hb'.kept k2 (fun b hb => ⟨hb, fun h => h⟩), fun y hy => hy, Nat.le_refl _, by omega⟩
    rw [hw2]; exact heap_alloc_new w1 _
  have HW1 := Lib.hid hw1; have HW2 := Lib.hid hw2; have K02 := Lib.hid (kA.trans k2)
  have HX : Hid (Calls Tryz.prog 43 #[.pointer (some ⟨w1.heap.size, 0, none⟩), .pointer (some ⟨w.heap.size, 0, none⟩), .int .i64 1] w2 (SpPost w1.heap.size w1.heap.size (expF p 1) w2)) := by
    have h := exp_all w1.heap.size w1.heap.size _ 4096 p w.heap.size 0 1 [] w2 hsz hok SP.out (by omega) (by unfold big; simp only [List.length_nil]; omega)
    unfold EpOk at h
    rw [List.nil_append] at h
    exact h
  clear hb hb' hk hz hg hw1 hw2 k2 kA hok
  go_enter Tryz.func24, Tryz.ntmps24
  go_upto_region 1 with fail
  rw [← HW1.out]
  go_upto_region 2 with fail
  rw [← HW2.out]
  go_wp2_with fail
  rw [← hs1]
  refine HX.out.mono ?_
  rintro e w5 ⟨rfl, B5, K5⟩
  have hs5 := Kept.size K5
  have K05 : Hid (Kept Nix w w5) := K02.out.step K5 (fun y hy => .inr (by rcases hy with rfl | ⟨h, _⟩ <;> omega))
  have H5 := Lib.hid B5
  clear B5 K5
  go_wp2_with fail
  rw [← hs1]
  refine (Tryz.Builder_String_any_f w1.heap.size w1.heap.size (expF p 1) w5 H5.out (by omega)).mono ?_
  rintro e w6 ⟨rfl, _, hb6⟩
  have K06 : Hid (Kept Nix w w6) := K05.out.step (Y := fun y => w1.heap.size ≤ y) ⟨hb6.os, hb6.tape, hb6.output, hb6.size, fun k hk hy => hb6.block k (by omega)⟩ (fun y hy => .inr (by omega))
  clear hb6
  go_wp2_with fail
  go_ret
  exact ⟨rfl, K06.out⟩
end Go.Proofs.YtcfcdobgpldoiaaGreatDoor
