/- What a statement, a program is written as (plain). Names behind one another: strings.Join, and the document's commas. Printing a statement: what both walks hold. -/
import Derived.Test.YtcfcdobgpldoiaaGreatDoorPx0
import Derived.Test.YtcfcdobgpldoiaaGreatDoorSm13
import Derived.Test.YtcfcdobgpldoiaaGreatDoorSpell8
import Derived.Lib.Join
import Derived.Test.YtcfcdobgpldoiaaGreatDoorSt2
import Derived.Test.YtcfcdobgpldoiaaGreatDoorSm6
import Derived.Test.YtcfcdobgpldoiaaGreatDoorSm5
import Derived.Test.YtcfcdobgpldoiaaGreatDoorSt3
import Derived.Test.YtcfcdobgpldoiaaGreatDoorSt5
import Derived.Test.YtcfcdobgpldoiaaGreatDoorLd
import Derived.Test.YtcfcdobgpldoiaaGreatDoorPrint
import Derived.Test.YtcfcdobgpldoiaaGreatDoorSm7
namespace Go.Proofs.YtcfcdobgpldoiaaGreatDoor
set_option linter.all false
open Go.RowKit

def commaL (l : List ByteArray) : List UInt8 := Lib.join (l.map (·.data.toList)) [44]
def commaT : Bool → List ByteArray → List UInt8
  | _, [] => []
  | first, x :: r => (if first then [] else [44]) ++ (x.data.toList ++ commaT false r)
theorem commaT_eq : ∀ l : List ByteArray, commaT true l = commaL l := by
  have key : ∀ (l : List ByteArray) (x : ByteArray), x.data.toList ++ commaT false l = Lib.join ((x :: l).map (·.data.toList)) [44] := by
    intro l
    induction l with
    | nil => intro x; simp [commaT, Lib.join, List.intercalate]
    | cons y r ih =>
      intro x
      have h := ih y
      rw [commaT]
      simp only [Bool.false_eq_true, if_false]
      rw [h]
      simp [Lib.join, List.intercalate]
  intro l
  cases l with
  | nil => simp [commaT, commaL, Lib.join, List.intercalate]
  | cons x r => rw [commaT]; simp only [if_true, List.nil_append]; exact key r x
theorem commaT_drop (l : List ByteArray) (j : Nat) (h : j < l.length) : commaT (decide (j = 0)) (l.drop j) = (if j = 0 then [] else [44]) ++ (l[j].data.toList ++ commaT (decide (j + 1 = 0)) (l.drop (j + 1))) := by
  rw [List.drop_eq_getElem_cons h, commaT]
  by_cases hj : j = 0
  · subst hj; simp
  · simp [hj]
theorem commaT_len : ∀ (f : Bool) (l : List ByteArray), (∀ x ∈ l, x.size ≤ 16) → (commaT f l).length ≤ 17 * l.length
  | f, [], _ => by simp [commaT]
  | f, x :: r, h => by
    have h1 := commaT_len false r fun y hy => h y (List.mem_cons_of_mem _ hy)
    have h2 := h x (List.mem_cons_self ..)
    have e : x.data.toList.length = x.size := rfl
    rw [commaT]
    simp only [List.length_append, List.length_cons]
    split
    · simp only [List.length_nil]; omega
    · simp only [List.length_cons, List.length_nil]; omega
/-- What stands between the label and the jumps. -/
def bodyS (s : StT) (pat : List UInt8) : List UInt8 :=
  if s.kind = 2 then 32 :: expF s.value 1
  else if s.kind = 3 then 32 :: (expF s.target 1 ++ ([32, 61, 32] ++ expF s.value 1))
  else if s.kind = 4 then 32 :: (expF s.value 1 ++ ([32, 63, 32] ++ pat))
  else if s.kind = 5 then 32 :: (expF s.target 1 ++ ([32, 63, 32] ++ (pat ++ ([32, 61, 32] ++ expF s.value 1))))
  else if s.kind = 6 then 32 :: (s.name.data.toList ++ ([32, 58, 61, 32] ++ pat))
  else if s.kind = 7 then [32, 68, 69, 70, 73, 78, 69, 32] ++ (s.name.data.toList ++ (40 :: (commaL s.params ++ (41 :: (commaL s.locals ++ (32 :: s.entry.data.toList))))))
  else []
def jumpS (s : StT) : List UInt8 :=
  if s.always.size ≠ 0 then [32, 58, 40] ++ (s.always.data.toList ++ [41])
  else if s.yes.size ≠ 0 ∨ s.noes.size ≠ 0 then
    [32, 58] ++ ((if s.yes.size ≠ 0 then [83, 40] ++ (s.yes.data.toList ++ [41]) else []) ++ (if s.noes.size ≠ 0 then [70, 40] ++ (s.noes.data.toList ++ [41]) else []))
  else []
def hasPat (s : StT) : Prop := s.kind = 4 ∨ s.kind = 5 ∨ s.kind = 6
instance (s : StT) : Decidable (hasPat s) := by unfold hasPat; exact inferInstance
def patS (s : StT) : List UInt8 := if hasPat s then 91 :: ((printF s.pat).1 ++ [93]) else []
def lineS (s : StT) : List UInt8 := s.label.data.toList ++ (bodyS s (patS s) ++ jumpS s)
/-- The text of a statement, and what is wrong. -/
def printS (s : StT) : List UInt8 × Int :=
  if wrongS s ≠ 0 then ([], wrongS s)
  else if hasPat s ∧ (printF s.pat).2 ≠ 0 then ([], (printF s.pat).2)
  else if (10 : UInt8) ∈ lineS s then ([], 2)
  else if 2000 < (lineS s).length then ([], 4)
  else (lineS s, 0)
def PrintSQ (s : StT) (w : World) (e : Ending) (w' : World) : Prop := e = .returned (.tuple #[.string ⟨(printS s).1.toArray⟩, .int .i64 (printS s).2]) ∧ Kept Nix w w'
/-- What a right statement's parts are. -/
structure RightS (s : StT) : Prop where
  label : s.label.size ≤ 16
  always : s.always.size ≤ 16
  yes : s.yes.size ≤ 16
  noes : s.noes.size ≤ 16
  fit : s.always.size = 0 ∨ (s.yes.size = 0 ∧ s.noes.size = 0)
  kind : 1 ≤ s.kind ∧ s.kind ≤ 7
  target : s.kind = 3 ∨ s.kind = 5 → exprE s.target = 0
  value : s.kind = 2 ∨ s.kind = 3 ∨ s.kind = 4 ∨ s.kind = 5 → exprE s.value = 0
  name : s.kind = 6 ∨ s.kind = 7 → s.name.size ≤ 16
  entry : s.kind = 7 → s.entry.size ≤ 16
  params : s.kind = 7 → s.params.length ≤ 8 ∧ ∀ x ∈ s.params, x.size ≤ 16
  locals : s.kind = 7 → s.locals.length ≤ 8 ∧ ∀ x ∈ s.locals, x.size ≤ 16
theorem opt16 {x : ByteArray} (h : optE x = true) : x.size ≤ 16 := by
  unfold optE at h
  rw [Bool.or_eq_true, decide_eq_true_eq] at h
  rcases h with h | h
  · omega
  · exact named_size h
theorem firstE_zero : ∀ {l : List Int}, firstE l = 0 → ∀ e ∈ l, e = 0
  | [], _, e, he => by cases he
  | x :: r, h, e, he => by
    rw [firstE] at h
    by_cases hx : x = 0
    · rw [if_pos hx] at h
      rcases List.mem_cons.1 he with rfl | he
      · exact hx
      · exact firstE_zero h e he
    · rw [if_neg hx] at h; exact absurd h hx
theorem namedE_zero : ∀ {l : List ByteArray}, namedE l = 0 → ∀ x ∈ l, x.size ≤ 16
  | [], _, x, hx => by cases hx
  | y :: r, h, x, hx => by
    rw [namedE] at h
    by_cases hy : namedF y = true
    · rw [if_pos hy] at h
      rcases List.mem_cons.1 hx with rfl | hx
      · exact named_size hy
      · exact namedE_zero h x hx
    · rw [if_neg hy] at h; cases h
theorem right_st {s : StT} (h : wrongS s = 0) : RightS s := by
  unfold wrongS at h
  by_cases h1 : ¬ (optE s.label = true ∧ optE s.always = true ∧ optE s.yes = true ∧ optE s.noes = true)
  · rw [if_pos h1] at h; cases h
  rw [if_neg h1] at h
  obtain ⟨a1, a2, a3, a4⟩ := Classical.not_not.1 h1
  by_cases h2 : s.always.size ≠ 0 ∧ (s.yes.size ≠ 0 ∨ s.noes.size ≠ 0)
  · rw [if_pos h2] at h; cases h
  rw [if_neg h2] at h
  have hfit : s.always.size = 0 ∨ (s.yes.size = 0 ∧ s.noes.size = 0) := by omega
  by_cases k1 : s.kind = 1
  · exact ⟨opt16 a1, opt16 a2, opt16 a3, opt16 a4, hfit, by omega, by omega, by omega, by omega, by omega, by omega, by omega⟩
  rw [if_neg k1] at h
  by_cases k2 : s.kind = 2
  · rw [if_pos k2] at h
    exact ⟨opt16 a1, opt16 a2, opt16 a3, opt16 a4, hfit, by omega, by omega, fun _ => h, by omega, by omega, by omega, by omega⟩
  rw [if_neg k2] at h
  by_cases k4 : s.kind = 4
  · rw [if_pos k4] at h
    have hz := firstE_zero h
    exact ⟨opt16 a1, opt16 a2, opt16 a3, opt16 a4, hfit, by omega, by omega, fun _ => hz _ (by simp), by omega, by omega, by omega, by omega⟩
  rw [if_neg k4] at h
  by_cases k3 : s.kind = 3
  · rw [if_pos k3] at h
    have hz := firstE_zero h
    exact ⟨opt16 a1, opt16 a2, opt16 a3, opt16 a4, hfit, by omega, fun _ => hz _ (by simp), fun _ => hz _ (by simp), by omega, by omega, by omega, by omega⟩
  rw [if_neg k3] at h
  by_cases k5 : s.kind = 5
  · rw [if_pos k5] at h
    have hz := firstE_zero h
    exact ⟨opt16 a1, opt16 a2, opt16 a3, opt16 a4, hfit, by omega, fun _ => hz _ (by simp), fun _ => hz _ (by simp), by omega, by omega, by omega, by omega⟩
  rw [if_neg k5] at h
  by_cases k6 : s.kind = 6
  · rw [if_pos k6] at h
    have hz := firstE_zero h
    exact ⟨opt16 a1, opt16 a2, opt16 a3, opt16 a4, hfit, by omega, by omega, by omega, fun _ => namedE_zero (hz (namedE [s.name]) (by simp)) _ (by simp), by omega, by omega, by omega⟩
  rw [if_neg k6] at h
  by_cases k7 : s.kind = 7
  · rw [if_pos k7] at h
    have hz := firstE_zero h
    have h8 : ¬ (8 < s.params.length ∨ 8 < s.locals.length) := by
      intro hx
      have := hz (if 8 < s.params.length ∨ 8 < s.locals.length then 5 else 0) (by simp)
      rw [if_pos hx] at this; cases this
    exact ⟨opt16 a1, opt16 a2, opt16 a3, opt16 a4, hfit, by omega, by omega, by omega, fun _ => namedE_zero (hz (namedE [s.name]) (by simp)) _ (by simp), fun _ => namedE_zero (hz (namedE [s.entry]) (by simp)) _ (by simp), fun _ => ⟨by omega, namedE_zero (hz (namedE s.params) (by simp))⟩, fun _ => ⟨by omega, namedE_zero (hz (namedE s.locals) (by simp))⟩⟩
  · rw [if_neg k7] at h; cases h
theorem expr_ok {p : PatT} (h : exprE p = 0) (hn : NumOk p) : OkX p ∧ sizeT p ≤ 4096 := by
  unfold exprE at h
  by_cases hf : fits p
  · rw [if_pos hf] at h; exact ⟨⟨h, hn⟩, hf.1⟩
  · rw [if_neg hf] at h; cases h
end Go.Proofs.YtcfcdobgpldoiaaGreatDoor

namespace Go.Proofs.YtcfcdobgpldoiaaGreatDoor
set_option linter.all false
open Go.RowKit

theorem commaL_len {l : List ByteArray} (hl : l.length ≤ 8) (hx : ∀ x ∈ l, x.size ≤ 16) : (commaL l).length ≤ 136 := by
  rw [← commaT_eq]; have := commaT_len true l hx; omega
theorem join_any (l : List ByteArray) (a : Option Addr) (c : Nat) (S : Nat → Prop) (w : World) (h : StrsAt w S a l) (hS : Safe S Nix w.heap.size) (hc : l.length ≤ c) (hl : l.length ≤ 8) (hx : ∀ x ∈ l, x.size ≤ 16) :
    Calls Tryz.prog 25 #[.slice a l.length c, .string ⟨#[44]⟩] w (StrQ (commaL l) w) := by
  have hlen := commaL_len hl hx
  by_cases h0 : 0 < l.length
  · obtain ⟨b, o, rfl, hb, hcell⟩ := h h0
    refine (Tryz.strings_Join b o c l ⟨#[44]⟩ w (fun j x hj => ?_) (hS b hb).1 (by omega) hc (by show (commaL l).length ≤ _; omega)).mono ?_
    · obtain ⟨hjl, rfl⟩ := List.getElem?_eq_some_iff.1 hj
      exact hcell j hjl
    · rintro e w' ⟨rfl, hb⟩
      exact ⟨rfl, Kept.of_below hb⟩
  · obtain rfl : l = [] := List.eq_nil_of_length_eq_zero (by omega)
    refine (Tryz.strings_Join_none a c ⟨#[44]⟩ w).mono ?_
    rintro e w' ⟨rfl, rfl⟩
    exact ⟨rfl, Kept.refl _ _⟩
set_option maxRecDepth 100000 in
set_option maxHeartbeats 4000000 in
theorem commas_any (l : List ByteArray) (a : Option Addr) (c : Nat) (S : Nat → Prop) (w : World) (h : StrsAt w S a l) (hl : l.length ≤ 8) (hx : ∀ x ∈ l, x.size ≤ 16) :
    Calls Tryz.prog 29 #[.slice a l.length c] w (StrQ (commaL l) w) := by
  have hlen := commaL_len hl hx
  have HS := Lib.hid h
  clear h
  go_enter Tryz.func29, Tryz.ntmps29
  go_wp2_with fail
  go_loopw [3, 8] (fun sv i wr => ∃ (j : Nat) (d : List UInt8), j ≤ l.length ∧ i = .int .i64 j ∧ sv = .string ⟨d.toArray⟩ ∧ Hid (d ++ commaT (decide (j = 0)) (l.drop j) = commaL l) ∧ wr = w) (fun _ i _ => l.length - (intOf i).toNat)
  case atStart => exact ⟨0, [], Nat.zero_le _, rfl, rfl, by unfold Hid; rw [List.drop_zero, ← commaT_eq]; simp, rfl⟩
  case round =>
    obtain ⟨j, d, hj, rfl, rfl, hd, rfl⟩ := hrel
    have hdl : d.length ≤ 136 := by have := congrArg List.length hd.out; rw [List.length_append] at this; omega
    by_cases hlt : j < l.length
    · obtain ⟨b, o, rfl, _, hc⟩ := HS.out (by omega)
      have q := hc j hlt
      have hxs := hx _ (List.getElem_mem hlt)
      have hst := commaT_drop l j hlt
      generalize l[j] = x at *
      have ex : x = ⟨x.data.toList.toArray⟩ := rfl
      have HST := Lib.hid hst
      clear hc hst ex
      by_cases hj0 : j = 0
      · have y1 : decide ((0 : Int) < (j : Int)) = false := decide_eq_false (by omega)
        have y2 : decide (0 < j) = false := decide_eq_false (by omega)
        have stp : Hid ((d ++ x.data.toList) ++ commaT (decide (j + 1 = 0)) (l.drop (j + 1)) = commaL l) := by
          unfold Hid; have := hd.out; rw [HST.out, if_pos hj0, List.nil_append] at this; rw [List.append_assoc]; exact this
        have ES : Hid ((⟨d.toArray⟩ : ByteArray) ++ x = ⟨(d ++ x.data.toList).toArray⟩) := app_str d x.data.toList
        clear hj0 HST hd
        go_wp2_with fail
        rw [ES.out]
        go_roundw
        case rel => exact ⟨j + 1, d ++ x.data.toList, by omega, by go_num, rfl, stp, by trivial⟩
        case measure => simp [intOf]; omega
      · have y1 : decide ((0 : Int) < (j : Int)) = true := decide_eq_true (by omega)
        have y2 : decide (0 < j) = true := decide_eq_true (by omega)
        have stp : Hid ((d ++ ([44] ++ x.data.toList)) ++ commaT (decide (j + 1 = 0)) (l.drop (j + 1)) = commaL l) := by
          unfold Hid; have := hd.out; rw [HST.out, if_neg hj0] at this; simpa [List.append_assoc] using this
        have ES : Hid ((⟨d.toArray⟩ : ByteArray) ++ ⟨#[44]⟩ ++ x = ⟨(d ++ ([44] ++ x.data.toList)).toArray⟩) := by
          unfold Hid; show (⟨d.toArray⟩ : ByteArray) ++ ⟨([44] : List UInt8).toArray⟩ ++ ⟨x.data.toList.toArray⟩ = _; rw [app_str, app_str, List.append_assoc]
        clear hj0 HST hd
        go_wp2_with fail
        rw [ES.out]
        go_roundw
        case rel => exact ⟨j + 1, d ++ ([44] ++ x.data.toList), by omega, by go_num, rfl, stp, by trivial⟩
        case measure => simp [intOf]; omega
    · obtain rfl : j = l.length := by omega
      have fin : Hid (d = commaL l) := by have := hd.out; rw [List.drop_length] at this; unfold Hid; rw [← this]; simp [commaT]
      go_wp2_with fail
      go_ret
      exact ⟨by rw [← fin.out]; rfl, Kept.refl _ _⟩
end Go.Proofs.YtcfcdobgpldoiaaGreatDoor

namespace Go.Proofs.YtcfcdobgpldoiaaGreatDoor
set_option linter.all false
open Go.RowKit

theorem stB_hc {N : Nat} {a : StA} {s : StT} {w : World} (h : StB N a s w) : ∀ i (hi : i < 24), w.cell? ⟨N, 0 + i, none⟩ = some ((stCells a s)[i]'(by simpa [stCells] using hi)) := by
  intro i hi
  unfold StB at h
  rw [cell_of_row w N (0 + i) _ _ _ h, Nat.zero_add]
  show ((stCells a s).toArray)[i]? = _
  rw [List.getElem?_toArray, List.getElem?_eq_getElem (by simpa [stCells] using hi)]
/-- A statement's numbers are such as a word holds; its lists have room. -/
structure StX (a : StA) (s : StT) : Prop where
  target : NumOk s.target
  value : NumOk s.value
  params : s.params.length ≤ a.mc
  locals : s.locals.length ≤ a.lc
structure PrI (N : Nat) (a : StA) (s : StT) (w0 w : World) : Prop where
  box : StB N a s w
  ok : StOk w (· < w0.heap.size) a s
  keep : Kept Nix w0 w
theorem PrI.next {N : Nat} {a : StA} {s : StT} {w0 w w' : World} (h : PrI N a s w0 w) (k : Kept Nix w w') : PrI N a s w0 w' :=
  ⟨h.box.kept k (fun h => h), h.ok.to k (Safe.lt h.keep.size) (fun _ h => h), h.keep.trans k⟩
def aggT (a : StA) (s : StT) : Value := .agg #[.int .i64 s.target.kind, .string s.target.text, .int .i64 s.target.n, .string s.target.name, .slice a.ta s.target.kids.length a.tc]
def aggV (a : StA) (s : StT) : Value := .agg #[.int .i64 s.value.kind, .string s.value.text, .int .i64 s.value.n, .string s.value.name, .slice a.va s.value.kids.length a.vc]
def aggP (a : StA) (s : StT) : Value := .agg #[.int .i64 s.pat.kind, .string s.pat.text, .int .i64 s.pat.n, .string s.pat.name, .slice a.pa s.pat.kids.length a.pc]
section
variable {N : Nat} {a : StA} {s : StT} {w0 w : World}
theorem PrI.target (h : PrI N a s w0 w) (hz : StSz s) : PatV w (· < w0.heap.size) (aggT a s) s.target := ⟨a.ta, a.tc, rfl, hz.target.z, h.ok.target⟩
theorem PrI.value (h : PrI N a s w0 w) (hz : StSz s) : PatV w (· < w0.heap.size) (aggV a s) s.value := ⟨a.va, a.vc, rfl, hz.value.z, h.ok.value⟩
theorem PrI.pat (h : PrI N a s w0 w) (hz : StSz s) : PatV w (· < w0.heap.size) (aggP a s) s.pat := ⟨a.pa, a.pc, rfl, hz.pat.z, h.ok.pat⟩
theorem PrI.safe (h : PrI N a s w0 w) : Safe (· < w0.heap.size) Nix w.heap.size := Safe.lt h.keep.size
theorem PatV.here {v : Value} {p : PatT} (h : PatV w (· < w0.heap.size) v p) (hs : w0.heap.size ≤ w.heap.size) : PatV w (· < w.heap.size) v p := by
  obtain ⟨ka, cap, rfl, hz, hp⟩ := h
  exact ⟨ka, cap, rfl, hz, hp.to (Kept.refl Nix w) (Safe.lt hs) (fun _ hb => Nat.lt_of_lt_of_le hb hs)⟩
end
def GlobW (w : World) : Prop := Glob w ∧ 0 < w.heap.size ∧ 1 < w.heap.size
theorem GlobW.next {w w' : World} (h : GlobW w) (k : Kept Nix w w') : GlobW w' :=
  ⟨h.1.below k.below ⟨h.2.1, h.2.2⟩, Nat.lt_of_lt_of_le h.2.1 k.size, Nat.lt_of_lt_of_le h.2.2 k.size⟩
theorem bytes_eq {x y : ByteArray} (h : x.data.toList = y.data.toList) : x = y := by
  apply ByteArray.ext
  exact Array.toList_inj.1 h
theorem has_nl (l : List UInt8) : decide (0 ≤ Lib.indexByte l 10) = decide ((10 : UInt8) ∈ l) := by
  rw [decide_eq_decide]
  induction l with
  | nil => simp [Lib.indexByte]
  | cons x r ih =>
    rw [Lib.indexByte]
    by_cases hx : x = 10
    · subst hx; simp
    · have h1 : (x == (10 : UInt8)) = false := by simpa using hx
      have h2 := Lib.indexByte_ge r 10
      rw [h1]
      simp only [Bool.false_eq_true, if_false, List.mem_cons]
      by_cases h3 : Lib.indexByte r 10 = -1
      · have h4 : (Lib.indexByte r 10 == -1) = true := by simpa using h3
        rw [h4]
        simp only [if_true]
        constructor
        · intro h; omega
        · rintro (h | h)
          · exact absurd h.symm hx
          · have := ih.2 h; omega
      · have h4 : (Lib.indexByte r 10 == -1) = false := by simpa using h3
        rw [h4]
        simp only [Bool.false_eq_true, if_false]
        constructor
        · intro _; exact .inr (ih.1 (by omega))
        · intro _; omega
theorem exp_le {p : PatT} (h : OkX p ∧ sizeT p ≤ 4096) (i : Nat) : (expF p i).length ≤ 600000000 := by
  have := exp_len p i h.1; have := h.2; omega
theorem pat_le (s : StT) : (patS s).length ≤ 65540 := by
  unfold patS
  split
  · unfold printF
    split
    · simp
    · split
      · simp
      · simp only [List.length_cons, List.length_append, List.length_nil]; omega
  · simp
theorem empty_size (x : ByteArray) : x.toList.isEmpty = decide (x.size = 0) := by
  rw [ByteArray.toList_eq, Bool.eq_iff_iff, decide_eq_true_eq, List.isEmpty_iff]
  exact ⟨fun h => by show x.data.size = 0; rw [← Array.length_toList, h]; rfl, fun h => List.eq_nil_of_length_eq_zero (by rw [Array.length_toList]; exact h)⟩
theorem body_le {s : StT} (hr : RightS s) (hv : s.kind = 2 ∨ s.kind = 3 ∨ s.kind = 4 ∨ s.kind = 5 → OkX s.value ∧ sizeT s.value ≤ 4096) (ht : s.kind = 3 ∨ s.kind = 5 → OkX s.target ∧ sizeT s.target ≤ 4096) :
    (s.label.data.toList ++ bodyS s (patS s)).length ≤ 2000000000 := by
  have h1 := hr.label
  have e1 : s.label.data.toList.length = s.label.size := rfl
  have e2 : s.name.data.toList.length = s.name.size := rfl
  have e3 : s.entry.data.toList.length = s.entry.size := rfl
  have hp := pat_le s
  rw [List.length_append]
  unfold bodyS
  split
  · have := exp_le (hv (by omega)) 1; simp only [List.length_cons]; omega
  split
  · have := exp_le (hv (by omega)) 1; have := exp_le (ht (by omega)) 1; simp only [List.length_cons, List.length_append, List.length_nil]; omega
  split
  · have := exp_le (hv (by omega)) 1; simp only [List.length_cons, List.length_append, List.length_nil]; omega
  split
  · have := exp_le (hv (by omega)) 1; have := exp_le (ht (by omega)) 1; simp only [List.length_cons, List.length_append, List.length_nil]; omega
  split
  · have := hr.name (by omega); simp only [List.length_cons, List.length_append, List.length_nil]; omega
  split
  · rename_i hk
    have h2 := hr.name (by omega); have h3 := hr.entry hk; have h4 := hr.params hk; have h5 := hr.locals hk
    have := commaL_len h4.1 h4.2; have := commaL_len h5.1 h5.2
    simp only [List.length_cons, List.length_append, List.length_nil]; omega
  · simp only [List.length_nil]; omega
end Go.Proofs.YtcfcdobgpldoiaaGreatDoor
