/- The document's In, texts, numbers. The reference of chapter 4: Node. library.Text: what it answers. Plain laws on patterns as trees: what a walk through a pattern finds. The words of kinds. -/
import Derived.Test.YtlnhcgihpclpaaaGreatDoorLm2
import Derived.Deep.QuietTactic
import Derived.BigQuiet
import Derived.Deep.LoopGhost
namespace Go.Proofs.YtlnhcgihpclpaaaGreatDoor
set_option linter.all false
open Go.RowKit

def isTextK (k : Int) : Prop := 3 ≤ k ∧ k ≤ 7
def isNumK (k : Int) : Prop := k = 2 ∨ (8 ≤ k ∧ k ≤ 11)
def isNameK (k : Int) : Prop := 21 ≤ k ∧ k ≤ 24
instance (k : Int) : Decidable (isTextK k) := by unfold isTextK; exact inferInstance
instance (k : Int) : Decidable (isNumK k) := by unfold isNumK; exact inferInstance
instance (k : Int) : Decidable (isNameK k) := by unfold isNameK; exact inferInstance
def leastK (k : Int) : Nat := if k = 18 ∨ k = 19 then 2 else if 20 ≤ k ∧ k ≤ 22 then 1 else 0
def mostK (k : Int) : Nat := if k = 18 ∨ k = 19 then 4096 else if 20 ≤ k ∧ k ≤ 22 then 1 else 0
def nodeF (p : PatT) : Int :=
  if p.kind < 1 ∨ 24 < p.kind then 1
  else if (p.kind = 1 ∨ isTextK p.kind) ∧ 65536 < p.text.size then 4
  else if isTextK p.kind ∧ p.text.size = 0 then 8
  else if isNumK p.kind ∧ (p.n < 0 ∨ 65536 < p.n) then 3
  else if isNameK p.kind ∧ namedF p.name = false then 7
  else if p.kids.length < leastK p.kind ∨ mostK p.kind < p.kids.length then 5 else 0

section
variable {k n : Int} {t nm : ByteArray} {kids : List PatT}
theorem node_lit : nodeF (.mk 1 t n nm kids) = if 65536 < t.size then 4 else if kids.length < leastK 1 ∨ mostK 1 < kids.length then 5 else 0 := by
  have b : ¬ isTextK 1 := by decide
  have c : ¬ isNameK 1 := by decide
  have d : ¬ isNumK 1 := by decide
  have a : ¬ ((1:Int) < 1 ∨ 24 < (1:Int)) := by omega
  simp only [nodeF, PatT.kind_mk, PatT.text_mk, PatT.n_mk, PatT.name_mk, PatT.kids_mk, a, b, c, d, if_false, true_and, true_or, false_and]
  rfl
theorem node_text (h : isTextK k) : nodeF (.mk k t n nm kids) = if 65536 < t.size then 4 else if t.size = 0 then 8 else if kids.length < leastK k ∨ mostK k < kids.length then 5 else 0 := by
  have h' := h; unfold isTextK at h'
  have a : ¬ (k < 1 ∨ 24 < k) := by omega
  have b : ¬ isNumK k := by unfold isNumK; omega
  have c : ¬ isNameK k := by unfold isNameK; omega
  simp only [nodeF, PatT.kind_mk, PatT.text_mk, PatT.n_mk, PatT.name_mk, PatT.kids_mk, a, b, c, h, if_false, true_and, or_true, false_and]
  rfl
theorem node_num (h : isNumK k) : nodeF (.mk k t n nm kids) = if n < 0 ∨ 65536 < n then 3 else if kids.length < leastK k ∨ mostK k < kids.length then 5 else 0 := by
  have h' := h; unfold isNumK at h'
  have a : ¬ (k < 1 ∨ 24 < k) := by omega
  have b : ¬ isTextK k := by unfold isTextK; omega
  have c : ¬ isNameK k := by unfold isNameK; omega
  have d : ¬ k = 1 := by omega
  simp only [nodeF, PatT.kind_mk, PatT.text_mk, PatT.n_mk, PatT.name_mk, PatT.kids_mk, a, b, c, d, h, if_false, true_and, or_false, false_and]
  rfl
theorem node_name (h : isNameK k) : nodeF (.mk k t n nm kids) = if namedF nm = false then 7 else if kids.length < leastK k ∨ mostK k < kids.length then 5 else 0 := by
  have h' := h; unfold isNameK at h'
  have a : ¬ (k < 1 ∨ 24 < k) := by omega
  have b : ¬ isTextK k := by unfold isTextK; omega
  have c : ¬ isNumK k := by unfold isNumK; omega
  have d : ¬ k = 1 := by omega
  simp only [nodeF, PatT.kind_mk, PatT.text_mk, PatT.n_mk, PatT.name_mk, PatT.kids_mk, a, b, c, d, h, if_false, true_and, or_false, false_and]
  rfl
theorem node_other (h : 12 ≤ k ∧ k ≤ 20) : nodeF (.mk k t n nm kids) = if kids.length < leastK k ∨ mostK k < kids.length then 5 else 0 := by
  have a : ¬ (k < 1 ∨ 24 < k) := by omega
  have b : ¬ isTextK k := by unfold isTextK; omega
  have c : ¬ isNumK k := by unfold isNumK; omega
  have c' : ¬ isNameK k := by unfold isNameK; omega
  have d : ¬ k = 1 := by omega
  simp only [nodeF, PatT.kind_mk, PatT.text_mk, PatT.n_mk, PatT.name_mk, PatT.kids_mk, a, b, c, c', d, if_false, or_false, false_and]
  rfl
/-- What the switch lets by. -/
def Tail (k : Int) (kids : List PatT) (r : Int) : Prop := r = if kids.length < leastK k ∨ mostK k < kids.length then 5 else 0
def CutR (k : Int) (t : ByteArray) (n : Int) (nm : ByteArray) (kids : List PatT) (l m : Value) : Prop :=
  l = .int .i64 (leastK k) ∧ m = .int .i64 (mostK k) ∧ Tail k kids (nodeF (.mk k t n nm kids))
theorem bnot_t {b : Bool} (h : (!b) = true) : b = false := by simpa using h
theorem bnot_f {b : Bool} (h : (!b) = false) : b = true := by simpa using h
theorem text_of {k : Int} (h : (k == 3) = true ∨ (k == 4) = true ∨ (k == 5) = true ∨ (k == 6) = true ∨ (k == 7) = true) : isTextK k := by
  simp only [beq_iff_eq] at h; unfold isTextK; omega
theorem num_of {k : Int} (h : (k == 2) = true ∨ (k == 8) = true ∨ (k == 9) = true ∨ (k == 10) = true ∨ (k == 11) = true) : isNumK k := by
  simp only [beq_iff_eq] at h; unfold isNumK; omega
theorem name_of {k : Int} (h : (k == 21) = true ∨ (k == 22) = true ∨ (k == 23) = true ∨ (k == 24) = true) : isNameK k := by
  simp only [beq_iff_eq] at h; unfold isNameK; omega
variable {k n : Int} {t nm : ByteArray} {kids : List PatT}
theorem r_lit (h : (k == 1) = true) (h1 : 65536 < (t.size : Int)) : nodeF (.mk k t n nm kids) = 4 := by
  obtain rfl : k = 1 := by simpa using h
  rw [node_lit, if_pos (by omega)]
theorem c_lit (h : (k == 1) = true) (h1 : (t.size : Int) ≤ 65536) : CutR k t n nm kids (.int .i64 0) (.int .i64 0) := by
  obtain rfl : k = 1 := by simpa using h
  refine ⟨rfl, rfl, ?_⟩; unfold Tail; rw [node_lit, if_neg (by omega)]
theorem r_text4 (h : isTextK k) (h1 : 65536 < (t.size : Int)) : nodeF (.mk k t n nm kids) = 4 := by rw [node_text h, if_pos (by omega)]
theorem r_text8 (h : isTextK k) (h1 : (t.size : Int) ≤ 65536) (h2 : t.toList.isEmpty = true) : nodeF (.mk k t n nm kids) = 8 := by rw [node_text h, if_neg (by omega), if_pos (isEmpty_size.1 h2)]
theorem plain_zero (h : k < 18 ∨ 22 < k) : leastK k = 0 ∧ mostK k = 0 := by
  have a : ¬ (k = 18 ∨ k = 19) := by omega
  have b : ¬ (20 ≤ k ∧ k ≤ 22) := by omega
  simp [leastK, mostK, a, b]
theorem c_of (h : k < 18 ∨ 22 < k) (h1 : Tail k kids (nodeF (.mk k t n nm kids))) : CutR k t n nm kids (.int .i64 0) (.int .i64 0) := by
  obtain ⟨a, b⟩ := plain_zero h; unfold CutR; rw [a, b]; exact ⟨rfl, rfl, h1⟩
theorem c_text (h : isTextK k) (h1 : (t.size : Int) ≤ 65536) (h2 : t.toList.isEmpty = false) : CutR k t n nm kids (.int .i64 0) (.int .i64 0) := by
  refine c_of (by unfold isTextK at h; omega) ?_; unfold Tail; rw [node_text h, if_neg (by omega), if_neg (by have := isEmpty_size'.1 h2; omega)]
theorem r_num (h : isNumK k) (h1 : n < 0 ∨ 65536 < n) : nodeF (.mk k t n nm kids) = 3 := by rw [node_num h, if_pos h1]
theorem c_num (h : isNumK k) (h1 : 0 ≤ n ∧ n ≤ 65536) : CutR k t n nm kids (.int .i64 0) (.int .i64 0) := by
  refine c_of (by unfold isNumK at h; omega) ?_; unfold Tail; rw [node_num h, if_neg (by omega)]
theorem r_name (h : isNameK k) (h1 : namedF nm = false) : nodeF (.mk k t n nm kids) = 7 := by rw [node_name h, if_pos h1]
theorem c_name2 (h : (k == 23) = true ∨ (k == 24) = true) (h1 : namedF nm = true) : CutR k t n nm kids (.int .i64 0) (.int .i64 0) := by
  simp only [beq_iff_eq] at h
  refine c_of (by omega) ?_; unfold Tail; rw [node_name (by unfold isNameK; omega), if_neg (by simp [h1])]
theorem c_name1 (h : (k == 21) = true ∨ (k == 22) = true) (h1 : namedF nm = true) : CutR k t n nm kids (.int .i64 1) (.int .i64 1) := by
  simp only [beq_iff_eq] at h
  have a : leastK k = 1 := by unfold leastK; rw [if_neg (by omega), if_pos (by omega)]
  have b : mostK k = 1 := by unfold mostK; rw [if_neg (by omega), if_pos (by omega)]
  unfold CutR; rw [a, b]; refine ⟨rfl, rfl, ?_⟩; unfold Tail; rw [node_name (by unfold isNameK; omega), if_neg (by simp [h1])]
theorem c_cat (h : (k == 18) = true ∨ (k == 19) = true) : CutR k t n nm kids (.int .i64 2) (.int .i64 4096) := by
  simp only [beq_iff_eq] at h
  have a : leastK k = 2 := by unfold leastK; rw [if_pos (by omega)]
  have b : mostK k = 4096 := by unfold mostK; rw [if_pos (by omega)]
  unfold CutR; rw [a, b]; exact ⟨rfl, rfl, node_other (by omega)⟩
theorem c_arbno (h : (k == 20) = true) : CutR k t n nm kids (.int .i64 1) (.int .i64 1) := by
  simp only [beq_iff_eq] at h; subst h; exact ⟨rfl, rfl, node_other (by omega)⟩
theorem c_other (h : 12 ≤ k ∧ k ≤ 17) : CutR k t n nm kids (.int .i64 0) (.int .i64 0) := c_of (by omega) (node_other (by omega))
theorem fin5 {l m : Value} (h : CutR k t n nm kids l m) : ∃ a b : Nat, l = .int .i64 a ∧ m = .int .i64 b ∧ nodeF (.mk k t n nm kids) = if (kids.length : Int) < a ∨ (b : Int) < kids.length then 5 else 0 := by
  obtain ⟨rfl, rfl, h⟩ := h
  refine ⟨_, _, rfl, rfl, ?_⟩
  unfold Tail at h; rw [h]
  by_cases hc : kids.length < leastK k ∨ mostK k < kids.length
  · rw [if_pos hc, if_pos (by omega)]
  · rw [if_neg hc, if_neg (by omega)]
end

set_option maxRecDepth 100000 in
set_option maxHeartbeats 4000000 in
theorem wrong_any (p : PatT) (b o : Nat) (S : Nat → Prop) (w : World) (hp : PatAt w S b o p) :
    Calls Tryz.prog 76 #[.pointer (some ⟨b, o, none⟩)] w fun e w' => e = .returned (.int .i64 (nodeF p)) ∧ w = w' := by
  obtain ⟨k, t, n, nm, kids⟩ := p
  unfold PatAt at hp
  obtain ⟨_, ⟨ht, hn0, hk⟩, h0, h1, h2, h3, ka, cap, h4, hks⟩ := hp
  clear hks
  have hn : nm.size ≤ maxLen := by unfold maxLen; omega
  by_cases hk0 : k < 1
  · go_enter Tryz.func76, Tryz.ntmps76
    go_wp2_with fail
    go_ret
    exact ⟨by simp [nodeF, hk0], rfl⟩
  by_cases hk1 : 24 < k
  · go_enter Tryz.func76, Tryz.ntmps76
    go_wp2_with fail
    go_ret
    exact ⟨by simp [nodeF, hk1], rfl⟩
  go_enter Tryz.func76, Tryz.ntmps76
  go_upto_block 0 with fail
  go_cut [3, 4] (fun l m w' => w = w' ∧ CutR k t n nm kids l m)
  case first =>
    go_wp2_with (go_at_call 51; refine (named_any _ _ hn).mono ?_; rintro e w' ⟨rfl, rfl⟩)
    all_goals
      first
        | (go_meet; go_light; refine ⟨rfl, ?_⟩; first
            | exact c_lit ‹_› ‹_›
            | exact c_text (text_of (by first | exact .inl ‹_› | exact .inr (.inl ‹_›) | exact .inr (.inr (.inl ‹_›)) | exact .inr (.inr (.inr (.inl ‹_›))) | exact .inr (.inr (.inr (.inr ‹_›))))) ‹_› ‹_›
            | exact c_num (num_of (by first | exact .inl ‹_› | exact .inr (.inl ‹_›) | exact .inr (.inr (.inl ‹_›)) | exact .inr (.inr (.inr (.inl ‹_›))) | exact .inr (.inr (.inr (.inr ‹_›))))) (by omega)
            | exact c_name1 (by first | exact .inl ‹_› | exact .inr ‹_›) (by first | assumption | exact bnot_f ‹_›)
            | exact c_name2 (by first | exact .inl ‹_› | exact .inr ‹_›) (by first | assumption | exact bnot_f ‹_›)
            | exact c_cat (by first | exact .inl ‹_› | exact .inr ‹_›)
            | exact c_arbno ‹_›
            | exact c_other (by simp only [beq_eq_false_iff_ne] at *; omega))
        | (go_ret; go_light; refine ⟨ret_int (Eq.symm ?_), rfl⟩; first
            | exact r_lit ‹_› ‹_›
            | exact r_text4 (text_of (by first | exact .inl ‹_› | exact .inr (.inl ‹_›) | exact .inr (.inr (.inl ‹_›)) | exact .inr (.inr (.inr (.inl ‹_›))) | exact .inr (.inr (.inr (.inr ‹_›))))) ‹_›
            | exact r_text8 (text_of (by first | exact .inl ‹_› | exact .inr (.inl ‹_›) | exact .inr (.inr (.inl ‹_›)) | exact .inr (.inr (.inr (.inl ‹_›))) | exact .inr (.inr (.inr (.inr ‹_›))))) ‹_› ‹_›
            | exact r_num (num_of (by first | exact .inl ‹_› | exact .inr (.inl ‹_›) | exact .inr (.inr (.inl ‹_›)) | exact .inr (.inr (.inr (.inl ‹_›))) | exact .inr (.inr (.inr (.inr ‹_›))))) (by omega)
            | exact r_name (name_of (by first | exact .inl ‹_› | exact .inr (.inl ‹_›) | exact .inr (.inr (.inl ‹_›)) | exact .inr (.inr (.inr ‹_›)))) (by first | assumption | exact bnot_t ‹_›))
  case rest =>
    obtain ⟨rfl, hc⟩ := hcut
    obtain ⟨a, b, rfl, rfl, he⟩ := fin5 hc
    have He := Lib.hid he; clear he hc
    go_wp2_with fail
    all_goals
      go_ret
      refine ⟨ret_int (Eq.symm ?_), rfl⟩
      rw [He.out]
      first | rw [if_pos (by omega)] | rw [if_neg (by omega)]
end Go.Proofs.YtlnhcgihpclpaaaGreatDoor

namespace Go.Proofs.YtlnhcgihpclpaaaGreatDoor
set_option linter.all false
open Go.RowKit

def BoolQ (b : Bool) (w : World) (e : Ending) (w' : World) : Prop := e = .returned (.bool b) ∧ Kept Nix w w'

end Go.Proofs.YtlnhcgihpclpaaaGreatDoor

namespace Go.Proofs.YtlnhcgihpclpaaaGreatDoor
set_option linter.all false
open Go.RowKit

def IntQ (b : Int) (w : World) (e : Ending) (w' : World) : Prop := e = .returned (.int .i64 b) ∧ Kept Nix w w'

/-- A box of five cells lies at block N. -/
structure Box5 (N : Nat) (c0 c1 c2 c3 c4 : Value) (w : World) : Prop where
  lt : N < w.heap.size
  h0 : w.cell? ⟨N, 0, none⟩ = some c0
  h1 : w.cell? ⟨N, 1, none⟩ = some c1
  h2 : w.cell? ⟨N, 2, none⟩ = some c2
  h3 : w.cell? ⟨N, 3, none⟩ = some c3
  h4 : w.cell? ⟨N, 4, none⟩ = some c4
theorem Box5.new (w : World) (c0 c1 c2 c3 c4 : Value) (t : TypeId) : Box5 w.heap.size c0 c1 c2 c3 c4 (w.alloc (.cells #[c0, c1, c2, c3, c4] t)) := ⟨by simp, by simp, by simp, by simp, by simp, by simp⟩
theorem Box5.kept {N : Nat} {c0 c1 c2 c3 c4 : Value} {w w' : World} {X : Nat → Prop} (h : Box5 N c0 c1 c2 c3 c4 w) (hk : Kept X w w') (hx : ¬ X N) : Box5 N c0 c1 c2 c3 c4 w' :=
  ⟨Nat.lt_of_lt_of_le h.lt hk.size, (hk.cell h.lt hx).trans h.h0, (hk.cell h.lt hx).trans h.h1, (hk.cell h.lt hx).trans h.h2, (hk.cell h.lt hx).trans h.h3, (hk.cell h.lt hx).trans h.h4⟩

end Go.Proofs.YtlnhcgihpclpaaaGreatDoor

namespace Go.Proofs.YtlnhcgihpclpaaaGreatDoor
set_option linter.all false
open Go.RowKit

def idxT (n : ByteArray) : Nat → ShelfT → Int
  | _, [] => -1
  | i, x :: q => if x.1 = n then (i : Int) else idxT n (i + 1) q
theorem idxT_drop (n : ByteArray) (l : ShelfT) (j : Nat) (h : j < l.length) : idxT n j (l.drop j) = if l[j].1 = n then (j : Int) else idxT n (j + 1) (l.drop (j + 1)) := by
  rw [List.drop_eq_getElem_cons h, idxT]
/-- A name's text, and whether there is none (7). -/
def textT (n : ByteArray) : ShelfT → ByteArray × Int
  | [] => (⟨#[]⟩, 7)
  | x :: q => if x.1 = n then (x.2, 0) else textT n q
theorem bytes_beqT {a b : ByteArray} : (a.toList == b.toList) = decide (a = b) := by
  rw [Bool.eq_iff_iff, decide_eq_true_eq, beq_iff_eq, ByteArray.toList_eq, ByteArray.toList_eq]
  constructor
  · intro h
    obtain ⟨x⟩ := a; obtain ⟨y⟩ := b
    have : x = y := by rw [← Array.toList_inj]; exact h
    rw [this]
  · rintro rfl; rfl
/-- The table in memory. -/
def TabAt (w : World) (a : Option Addr) (l : ShelfT) : Prop := ∃ g o, a = some ⟨g, o, none⟩ ∧ g < w.heap.size ∧ ∀ j (h : j < l.length), w.cell? ⟨g, o + j * 2, none⟩ = some (.string l[j].1) ∧ w.cell? ⟨g, o + (j * 2 + 1), none⟩ = some (.string l[j].2)
theorem TabAt.kept {w w2 : World} {a : Option Addr} {l : ShelfT} (h : TabAt w a l) (hk : Kept Nix w w2) : TabAt w2 a l := by
  obtain ⟨g, o, e, hg, hc⟩ := h
  exact ⟨g, o, e, Nat.lt_of_lt_of_le hg hk.size, fun j hj => ⟨(hk.cell hg (fun h => h)).trans (hc j hj).1, (hk.cell hg (fun h => h)).trans (hc j hj).2⟩⟩
theorem TabAt.of {w : World} {B : Nat} {a : Option Addr} {c n : Nat} {l : ShelfT} (h : Win w B 39 2 (.slice a n c) n (tabCs l)) (h0 : 0 < n) (hl : l.length = n) : TabAt w a l := by
  rcases h.cells with ⟨hv, hn⟩ | ⟨g, o, c', hv, _, hg, _, _, hc⟩
  · omega
  · simp only [Value.slice.injEq, true_and] at hv
    obtain ⟨rfl, rfl⟩ := hv
    exact ⟨g, o, rfl, hg, fun j hj => ⟨(hc (j * 2) _ (tabCs_at l j hj).1).1, (hc (j * 2 + 1) _ (tabCs_at l j hj).2).1⟩⟩
set_option maxRecDepth 100000 in
set_option maxHeartbeats 2000000 in
theorem text1_any (P : Nat) (a b n : ByteArray) (w : World) (hP : w.cell? ⟨P, 0, none⟩ = some (.string n)) (hPl : P < w.heap.size) : Calls Tryz.prog 13 #[.agg #[.string a, .string b], .pointer (some ⟨P, 0, none⟩)] w (BoolQ (decide (a = n)) w) := by
  have hb := Lib.hid (bytes_beqT (a := a) (b := n))
  have hP1 : (w.alloc (.cells #[.string a, .string b] 39)).cell? ⟨P, 0, none⟩ = some (.string n) := (((Kept.refl Nix w).alloc _).cell hPl (fun h => h)).trans hP
  go_enter Tryz.func13, Tryz.ntmps13
  go_wp2_with fail
  go_ret
  exact ⟨by rw [← hb.out]; try rfl, (Kept.refl _ _).alloc _⟩
set_option maxRecDepth 100000 in
set_option maxHeartbeats 4000000 in
theorem idxS_any (f : Nat) (lb : Array Value) (l : ShelfT) (al : Option Addr) (cl : Nat) (n : ByteArray) (eg : ∀ args wx, (callFunc f args).run Tryz.prog wx = .ok (.enter f args) wx) (w : World) (hl : TabAt w al l) (hP : ∀ (W : World) (a b : ByteArray), Kept Nix w W → Calls Tryz.prog f (#[.agg #[.string a, .string b]] ++ lb) W (BoolQ (decide (a = n)) W)) (hlen : l.length ≤ 1000) :
    Calls Tryz.prog 12 #[.slice al l.length cl, .func (.func f) #[] lb] w (IntQ (idxT n 0 l) w) := by
  have HL := Lib.hid hl; have HP := Lib.hid hP
  clear hl hP
  go_enter Tryz.func12, Tryz.ntmps12
  go_wp2_with fail
  go_loopw [8] (fun i wr => ∃ j : Nat, j ≤ l.length ∧ i = .int .i64 j ∧ Hid (idxT n 0 l = idxT n j (l.drop j)) ∧ Kept Nix w wr) (fun i _ => l.length - (intOf i).toNat)
  case atStart => exact ⟨0, Nat.zero_le _, rfl, by unfold Hid; rw [List.drop_zero], Kept.refl _ _⟩
  case round =>
    obtain ⟨j, hj, rfl, hno, hk⟩ := hrel
    have KW := Lib.hid hk
    by_cases hlt : j < l.length
    · obtain ⟨g, o, rfl, hg, hc⟩ := HL.out.kept hk
      obtain ⟨q0, q1⟩ := hc j hlt
      have hd := idxT_drop n l j hlt
      have hcall := Lib.hid (HP.out wr l[j].1 l[j].2 hk)
      obtain ⟨x1, hx1⟩ : ∃ x, x = l[j].1 := ⟨_, rfl⟩
      obtain ⟨x2, hx2⟩ : ∃ x, x = l[j].2 := ⟨_, rfl⟩
      rw [← hx1] at q0 hcall hd
      rw [← hx2] at q1 hcall
      have q1' : wr.cell? ⟨g, o + j * 2 + 1, none⟩ = some (.string x2) := q1
      clear hc hk hg hx1 hx2 q1
      by_cases hpr : x1 = n
      · rw [if_pos hpr] at hd
        have fin := Lib.hid (hno.out.trans hd)
        rw [decide_eq_true hpr] at hcall
        clear hd hpr hno
        go_wp2_with fail
        refine hcall.out.mono ?_
        rintro e w2 ⟨rfl, k2_⟩
        have K2 := Lib.hid (KW.out.trans k2_)
        clear k2_
        go_wp2_with fail
        go_ret
        exact ⟨by rw [fin.out]; try rfl, K2.out⟩
      · rw [if_neg hpr] at hd
        have step := Lib.hid (hno.out.trans hd)
        rw [decide_eq_false hpr] at hcall
        clear hd hpr hno
        go_wp2_with fail
        refine hcall.out.mono ?_
        rintro e w2 ⟨rfl, k2_⟩
        have K2 := Lib.hid (KW.out.trans k2_)
        clear k2_
        go_wp2_with fail
        go_roundw
        case rel => exact ⟨j + 1, by omega, by go_num, step, K2.out⟩
        case measure => simp [intOf]; omega
    · obtain rfl : j = l.length := by omega
      have fin : Hid (idxT n 0 l = -1) := by unfold Hid; rw [hno.out, List.drop_length, idxT]
      go_wp2_with fail
      go_ret
      exact ⟨by rw [fin.out]; try rfl, KW.out⟩
theorem idxT_text (n : ByteArray) : ∀ (l : ShelfT) (i : Nat), (idxT n i l = -1 ∧ textT n l = (⟨#[]⟩, 7)) ∨ ∃ j, ∃ h : j < l.length, idxT n i l = ((i + j : Nat) : Int) ∧ textT n l = (l[j].2, 0)
  | [], i => .inl ⟨rfl, rfl⟩
  | x :: q, i => by
    rw [idxT, textT]
    by_cases h : x.1 = n
    · rw [if_pos h, if_pos h]; exact .inr ⟨0, by simp, rfl, rfl⟩
    · rw [if_neg h, if_neg h]
      rcases idxT_text n q (i + 1) with ⟨a, b⟩ | ⟨j, hj, a, b⟩
      · exact .inl ⟨a, b⟩
      · exact .inr ⟨j + 1, by simpa using hj, by rw [a]; congr 1; omega, by rw [b]; rfl⟩
def LibTextQ (n : ByteArray) (w : World) (e : Ending) (w' : World) : Prop := e = .returned (.tuple #[.string (textT n tabA).1, .int .i64 (textT n tabA).2]) ∧ Kept Nix w w'
set_option maxRecDepth 100000 in
set_option maxHeartbeats 4000000 in
theorem libText_any (n : ByteArray) (w : World) : Calls Tryz.prog 4 #[.string n] w (LibTextQ n w) := by
  obtain ⟨w0, hw0⟩ : ∃ w0, w0 = w.alloc (.cells #[.string n] 9) := ⟨_, rfl⟩
  have k0 : Kept Nix w w0 := by rw [hw0]; exact (Kept.refl _ _).alloc _
  have c0 : w0.cell? ⟨w.heap.size, 0, none⟩ = some (.string n) := by have h : w0.heap[w.heap.size]? = some (.cells #[.string n] 9 (0, 0)) := (by rw [hw0]; exact heap_alloc_new w _); rw [cell_of_row w0 _ _ _ _ _ h]; rfl
  have hl0 : w.heap.size < w0.heap.size := by rw [hw0]; simp
  obtain ⟨P, hP⟩ : ∃ P, P = w.heap.size := ⟨_, rfl⟩
  rw [← hP] at c0 hl0
  have HW0 := Lib.hid hw0; have HPP := Lib.hid hP; have K0 := Lib.hid k0; have C0 := Lib.hid c0
  have hmf : ∀ (fn : Fn) (first cap : Array Value) (w : World), (Instr.makeFunc fn first cap).run Tryz.prog w = .ok (.func fn first cap) w := fun _ _ _ _ => rfl
  have hlen : tabA.length = 29 := rfl
  have hIT := idxT_text n tabA 0
  obtain ⟨T, hT⟩ : ∃ T, T = tabA := ⟨_, rfl⟩
  have HTX : Hid (textT n tabA = textT n T) := by rw [hT]; rfl
  have HSV : Hid (∀ wx, Calls Tryz.prog 11 #[] wx (fun e w' => ∃ a c, e = .returned (.slice a 29 c) ∧ TabAt w' a T ∧ Kept Nix wx w')) := fun wx => (shelves_any wx).mono (by
    rintro e w' ⟨a, c, rfl, hw, hk⟩
    exact ⟨a, c, rfl, by rw [hT]; exact TabAt.of hw (by decide) hlen, hk⟩)
  rw [← hT] at hlen hIT
  clear hw0 hP k0 hT c0
  rcases hIT with ⟨hi, ht⟩ | ⟨j, hj, hi, ht⟩
  · have HI := Lib.hid hi
    have fin : Hid (textT n tabA = (⟨#[]⟩, 7)) := HTX.out.trans ht
    clear hi ht
    go_enter Tryz.func4, Tryz.ntmps4
    go_upto_region 1 with fail
    rw [← HW0.out, ← HPP.out]
    go_wp2_with (first
      | (go_at_call 11; (refine (HSV.out w0).mono ?_); rintro e w1 ⟨a, c, rfl, t_, k_⟩; have T1 := Lib.hid t_; have K1 := Lib.hid k_; clear t_ k_)
      | (go_at_call 12; (have h_ := idxS_any 13 #[.pointer (some ⟨P, 0, none⟩)] T a c n (fun _ _ => by kernel_rfl) w1 T1.out (fun W a b hk => text1_any P a b n W ((hk.cell (Nat.lt_of_lt_of_le hl0 K1.out.size) (fun h => h)).trans ((K1.out.cell hl0 (fun h => h)).trans C0.out)) (Nat.lt_of_lt_of_le (Nat.lt_of_lt_of_le hl0 K1.out.size) hk.size)) (by omega)); rw [hlen, HI.out] at h_; (refine h_.mono ?_); rintro e w2 ⟨rfl, k_⟩; have K2 := Lib.hid k_; clear k_ h_))
    go_ret2
    exact ⟨by rw [fin.out]; rfl, (K0.out.trans K1.out).trans K2.out⟩
  · rw [Nat.zero_add] at hi
    have HI := Lib.hid hi
    have fin : Hid (textT n tabA = (T[j].2, 0)) := HTX.out.trans ht
    have hj2 : j < 29 := by omega
    have hjn : decide ((j : Int) < 0) = false := decide_eq_false (by omega)
    have bj : (j : Int) < (29 : Int) := by omega
    obtain ⟨x, hx⟩ : ∃ x, x = T[j].2 := ⟨_, rfl⟩
    rw [← hx] at fin
    have HX := Lib.hid hx
    clear hi ht hx
    go_enter Tryz.func4, Tryz.ntmps4
    go_upto_region 1 with fail
    rw [← HW0.out, ← HPP.out]
    go_wp2_with (first
      | (go_at_call 11; (refine (HSV.out w0).mono ?_); rintro e w1 ⟨a, c, rfl, t_, k_⟩; have T1 := Lib.hid t_; have K1 := Lib.hid k_; clear t_ k_)
      | (go_at_call 12; (have h_ := idxS_any 13 #[.pointer (some ⟨P, 0, none⟩)] T a c n (fun _ _ => by kernel_rfl) w1 T1.out (fun W a b hk => text1_any P a b n W ((hk.cell (Nat.lt_of_lt_of_le hl0 K1.out.size) (fun h => h)).trans ((K1.out.cell hl0 (fun h => h)).trans C0.out)) (Nat.lt_of_lt_of_le (Nat.lt_of_lt_of_le hl0 K1.out.size) hk.size)) (by omega)); rw [hlen, HI.out] at h_; (refine h_.mono ?_); rintro e w2 ⟨rfl, k_⟩; have K2 := Lib.hid k_; obtain ⟨g, o, rfl, _, hc_⟩ := T1.out.kept k_; have q1 := (hc_ j hj).2; rw [← HX.out] at q1; have q1' : w2.cell? ⟨g, o + j * 2 + 1, none⟩ = some (.string x) := q1; clear k_ h_ hc_ q1))
    go_ret2
    exact ⟨by rw [fin.out]; rfl, (K0.out.trans K1.out).trans K2.out⟩
end Go.Proofs.YtlnhcgihpclpaaaGreatDoor

namespace Go.Proofs.YtlnhcgihpclpaaaGreatDoor
set_option linter.all false
open Go.RowKit

def wrongStep (_ : Int) (p : PatT) (_ : Nat) : Int × Bool := (nodeF p, nodeF p == 0)
def WrongI (c : Nat) (e : Int) (w : World) : Prop := Cel w c 22 (.int .i64 e)

set_option maxRecDepth 100000 in
set_option maxHeartbeats 400000 in
theorem wrong1_any (c : Nat) (st : Int) (p : PatT) (b o d : Nat) (S : Nat → Prop) (w : World) (hI : WrongI c st w) (hp : PatAt w S b o p) :
    Calls Tryz.prog 75 #[.pointer (some ⟨b, o, none⟩), .int .i64 (d : Nat), .pointer (some ⟨c, 0, none⟩)] w
      (WalkPost (WrongI c) (· = c) (wrongStep st p d) w) := by
  have q1 := hI.cell; have f1 := hI.free
  have K : ∀ u, u = nodeF p → WalkPost (WrongI c) (· = c) (wrongStep st p d) w (.returned (.bool (u == 0))) (w.setCell ⟨c, 0, none⟩ (.int .i64 u)) := by
    rintro u rfl; exact ⟨rfl, hI.set _, (Kept.refl _ w).setCell (.inl (by simp)) _⟩
  have HK := Lib.hid K; clear K
  clear hI
  go_enter Tryz.func75, Tryz.ntmps75
  go_wp2_with fail
  refine (wrong_any p b o S _ hp).mono ?_
  rintro e w1 ⟨rfl, rfl⟩
  go_wp2_with fail
  go_ret
  exact HK.out _ rfl

/-- What is wrong with a pattern, as the program finds it. -/
def wrongF (p : PatT) : Int := if (walkF sizeStep (0, 0) p 1).2 then (walkF wrongStep 0 p 1).1 else 4

set_option maxRecDepth 100000 in
set_option maxHeartbeats 400000 in
theorem Wrong_any (p : PatT) (v : Value) (w : World) (hp : PatV w (· < w.heap.size) v p) (hsz : sizeT p ≤ 100000000) :
    Calls Tryz.prog 53 #[v] w (fun e w' => e = .returned (.int .i64 (wrongF p)) ∧ Kept Nix w w') := by
  obtain ⟨c, hv, hb⟩ := hp.box 47 (fun b hb => hb)
  have hp0 := hp
  obtain ⟨ka, cap, rfl, hz, hk⟩ := hp
  simp only [Value.agg.injEq] at hv; subst hv
  have hmf : ∀ (fn : Fn) (first cap : Array Value) (w : World), (Instr.makeFunc fn first cap).run Tryz.prog w = .ok (.func fn first cap) w := fun _ _ _ _ => rfl
  go_enter Tryz.func53, Tryz.ntmps53
  go_wp2_with fail
  refine (size_any p _ _ ⟨ka, cap, rfl, hz, PatsAt.same (fun b hb => Below.heap_alloc _ _ _ hb) (fun b hb => by simp; omega) _ _ hk⟩ hsz).mono ?_
  rintro e w1 ⟨rfl, hk1⟩
  have HK1 : Hid (Kept Nix w w1) := ((Kept.refl Nix w).alloc _).quiet hk1
  have hb1 := hb.kept hk1 (fun b hb => ⟨by simp; omega, fun h => h⟩)
  have hsz1 : w.heap.size + 1 ≤ w1.heap.size := by have := hk1.size; simpa using this
  clear hk hp0 hb hk1
  cases hr : walkF sizeStep (0, 0) p 1 with
  | mk st ok =>
  obtain ⟨n, d⟩ := st
  have e1 : sizeF p = sizeR ((n, d), ok) := by simp [sizeF, hr]
  cases ok with
  | false =>
    have Hf : Hid (wrongF p = 4) := by simp [wrongF, hr, Hid]
    rw [e1]; clear hr e1
    dsimp only [sizeR]
    go_wp2_with fail
    go_ret
    exact ⟨ret_int Hf.out.symm, HK1.out⟩
  | true =>
    have Hf : Hid (wrongF p = (walkF wrongStep 0 p 1).1) := by simp [wrongF, hr, Hid]
    rw [e1]; clear hr e1
    dsimp only [sizeR]
    go_wp2_with fail
    refine (walk_any 75 #[.pointer (some ⟨w1.heap.size, 0, none⟩)] (fun _ _ => by kernel_rfl) (WrongI w1.heap.size) (fun _ _ => True) wrongStep
      (fun _ _ _ _ _ _ => trivial) (· = w1.heap.size) (fun b => b < w.heap.size ∨ b = w.heap.size) 500000000 (by omega) ?cl 100000000 p 0 0 w.heap.size 0 1 _ hsz (by omega) ?i trivial ?pt ?sf).mono ?_
    case cl =>
      intro _ st p b o d w' hi _ hp' _ hd
      exact wrong1_any _ st p b o d _ w' hi hp'
    case i => exact Cel.new' rfl
    case pt => exact PatAt.same (fun b hb => by rw [Below.heap_alloc]; omega) (fun _ h => h) _ _ _ hb1
    case sf => intro b hb; simp; omega
    rintro e w2 ⟨rfl, hI2, hk2⟩
    have HK2 : Hid (Kept Nix w w2) := (HK1.out.alloc _).step hk2 (by simp; omega)
    have q1 := hI2.cell; have f1 := hI2.free
    clear hb1 hk2 hI2
    go_wp2_with fail
    go_ret
    exact ⟨ret_int Hf.out.symm, HK2.out⟩
end Go.Proofs.YtlnhcgihpclpaaaGreatDoor

namespace Go.Proofs.YtlnhcgihpclpaaaGreatDoor
set_option linter.all false
open Go.RowKit

mutual
def allT : PatT → List PatT
  | .mk k t n nm kids => .mk k t n nm kids :: allL kids
def allL : List PatT → List PatT
  | [] => []
  | p :: ps => allT p ++ allL ps
end
mutual
def depthT : PatT → Nat
  | .mk _ _ _ _ kids => 1 + depthL kids
def depthL : List PatT → Nat
  | [] => 0
  | p :: ps => max (depthT p) (depthL ps)
end
theorem sizeT_pos (p : PatT) : 1 ≤ sizeT p := by cases p; simp only [sizeT]; omega
theorem depthT_pos (p : PatT) : 1 ≤ depthT p := by cases p; simp only [depthT]; omega

mutual
theorem walk_size : ∀ (p : PatT) (n m d : Nat), n ≤ 4096 →
    (n + sizeT p ≤ 4096 ∧ d + depthT p ≤ 201 → walkF sizeStep (n, m) p d = ((n + sizeT p, max m (d + depthT p - 1)), true)) ∧
    (¬ (n + sizeT p ≤ 4096 ∧ d + depthT p ≤ 201) → (walkF sizeStep (n, m) p d).2 = false)
  | .mk k t n' nm kids, n, m, d, hn => by
    have ih := walkL_size kids (n + 1) (max m d) (d + 1)
    rw [sizeT, depthT, walkF]
    have e : sizeStep (n, m) (.mk k t n' nm kids) d = ((n + 1, max m d), decide (n + 1 ≤ 4096) && decide (d ≤ 200)) := rfl
    rw [e]
    by_cases h1 : n + 1 ≤ 4096 ∧ d ≤ 200
    · rw [decide_eq_true h1.1, decide_eq_true h1.2, Bool.and_true]
      obtain ⟨a, b⟩ := ih h1.1 (by omega)
      refine ⟨fun h => ?_, fun h => b (by omega)⟩
      show walkKids sizeStep (n + 1, max m d) kids (d + 1) = _
      rw [a (by omega)]
      refine Prod.ext (Prod.ext (by dsimp only; omega) ?_) rfl
      dsimp only
      cases kids with
      | nil => rw [if_pos rfl, depthL]; omega
      | cons q qs =>
        have : 1 ≤ depthL (q :: qs) := by have := depthT_pos q; rw [depthL]; omega
        rw [if_neg (by simp)]; omega
    · have : (decide (n + 1 ≤ 4096) && decide (d ≤ 200)) = false := by rw [Bool.and_eq_false_iff]; simp only [decide_eq_false_iff_not]; omega
      rw [this]
      exact ⟨fun h => absurd h (by omega), fun _ => rfl⟩
theorem walkL_size : ∀ (l : List PatT) (n m d : Nat), n ≤ 4096 → d ≤ 201 →
    (n + sizeL l ≤ 4096 ∧ d + depthL l ≤ 201 → walkKids sizeStep (n, m) l d = ((n + sizeL l, if l = [] then m else max m (d + depthL l - 1)), true)) ∧
    (¬ (n + sizeL l ≤ 4096 ∧ d + depthL l ≤ 201) → (walkKids sizeStep (n, m) l d).2 = false)
  | [], n, m, d, hn, hd => by
    rw [walkKids, sizeL, depthL]
    exact ⟨fun _ => rfl, fun h => absurd (by omega) h⟩
  | p :: ps, n, m, d, hn, hd => by
    obtain ⟨a1, b1⟩ := walk_size p n m d hn
    have hp := depthT_pos p
    rw [walkKids, sizeL, depthL]
    by_cases c1 : n + sizeT p ≤ 4096 ∧ d + depthT p ≤ 201
    · rw [a1 c1]
      obtain ⟨a2, b2⟩ := walkL_size ps (n + sizeT p) (max m (d + depthT p - 1)) d c1.1 hd
      refine ⟨fun h => ?_, fun h => b2 (by omega)⟩
      show walkKids sizeStep _ ps d = _
      rw [a2 (by omega)]
      refine Prod.ext (Prod.ext (by dsimp only; omega) ?_) rfl
      dsimp only
      rw [if_neg (by simp : ¬ (p :: ps = []))]
      cases ps with
      | nil => rw [if_pos rfl, depthL]; omega
      | cons q qs => rw [if_neg (by simp)]; omega
    · have h1 := b1 c1
      refine ⟨fun h => absurd h (by omega), fun _ => ?_⟩
      cases hr : walkF sizeStep (n, m) p d with
      | mk st ok => rw [hr] at h1; dsimp only at h1; subst h1; rfl
end
def fits (p : PatT) : Prop := sizeT p ≤ 4096 ∧ depthT p ≤ 200
instance (p : PatT) : Decidable (fits p) := by unfold fits; exact inferInstance
theorem sizeF_eq (p : PatT) : sizeF p = if fits p then .tuple #[.int .i64 (sizeT p), .int .i64 (depthT p), .int .i64 0] else .tuple #[.int .i64 0, .int .i64 0, .int .i64 4] := by
  obtain ⟨a, b⟩ := walk_size p 0 0 1 (by omega)
  have hd := depthT_pos p
  unfold sizeF
  by_cases h : fits p
  · have h' := h; unfold fits at h'
    rw [a (by omega), if_pos h]
    simp [sizeR]
  · have h' := h; unfold fits at h'
    have := b (by omega)
    rw [if_neg h]
    simp [sizeR, this]
end Go.Proofs.YtlnhcgihpclpaaaGreatDoor

namespace Go.Proofs.YtlnhcgihpclpaaaGreatDoor
set_option linter.all false
open Go.RowKit

def strB (l : List UInt8) : ByteArray := ⟨l.toArray⟩
def wordsL : List ByteArray := [strB [], strB [], strB [76, 69, 78], strB [65, 78, 89], strB [78, 79, 84, 65, 78, 89], strB [83, 80, 65, 78], strB [66, 82, 69, 65, 75], strB [66, 82, 69, 65, 75, 88], strB [84, 65, 66], strB [82, 84, 65, 66], strB [80, 79, 83], strB [82, 80, 79, 83], strB [82, 69, 77], strB [65, 82, 66], strB [66, 65, 76], strB [70, 65, 73, 76], strB [70, 69, 78, 67, 69], strB [65, 66, 79, 82, 84], strB [], strB [], strB [65, 82, 66, 78, 79]]
def WordsAt (W : Nat) (w : World) : Prop := w.heap[W]? = some (.cells (wordsL.map Value.string).toArray 9 (0, 0))
theorem WordsAt.lt {W : Nat} {w : World} (h : WordsAt W w) : W < w.heap.size := (Array.getElem?_eq_some_iff.1 h).1
theorem WordsAt.cell {W : Nat} {w : World} (h : WordsAt W w) (j : Nat) (hj : j < wordsL.length) : w.cell? ⟨W, 0 + j, none⟩ = some (.string (wordsL.getD j ByteArray.empty)) := by
  rw [cell_of_row w W (0 + j) _ _ _ h, Nat.zero_add]
  simp [List.getD_eq_getElem?_getD, List.getElem?_eq_getElem hj]
theorem WordsAt.kept {W : Nat} {w w' : World} {X : Nat → Prop} (h : WordsAt W w) (hk : Kept X w w') (hx : ¬ X W) : WordsAt W w' := by
  unfold WordsAt; rw [hk.block W h.lt hx]; exact h
end Go.Proofs.YtlnhcgihpclpaaaGreatDoor
