/- What a pattern is written as: plain functions. strings.Builder: WriteByte and WriteString, laid for this seat, and their frame. pats.Quote, strconv.Itoa, and the package variables that they read. A pattern that comes in, as a tree. A text in quotes without its doubled quotes: strings.ReplaceAll. A fault's two cells. -/
import Derived.Test.YtlnhcgihpclpaaaGreatDoorLm3
import Derived.WalkLawsBesides
import Derived.Lib.ItoaNum
import Derived.Lib.Replace
import Derived.Lib.SplitLaws
import Derived.Test.YtlnhcgihpclpaaaGreatDoorShelf
import Derived.Test.YtlnhcgihpclpaaaGreatDoorLm1
import Derived.Shelf.Strings.BuilderK
import Derived.WalkSmall
import Derived.Lib.LaidTab
import Derived.Test.YtlnhcgihpclpaaaGreatDoorRows
import Derived.Test.YtlnhcgihpclpaaaGreatDoorLm2
import Derived.Deep.Slices
import Derived.ProofKit
import Derived.OpenShut
import Derived.Test.YtlnhcgihpclpaaaGreatDoorLm11
import Derived.Laws.IdiomStrings
namespace Go.Proofs.YtlnhcgihpclpaaaGreatDoor
set_option linter.all false
open Go.RowKit

def okT (p : PatT) : Prop := ∀ x ∈ allT p, nodeF x = 0
def okL (l : List PatT) : Prop := ∀ x ∈ allL l, nodeF x = 0
theorem okT.kids {k : Int} {t : ByteArray} {n : Int} {nm : ByteArray} {kids : List PatT} (h : okT (.mk k t n nm kids)) : okL kids := fun x hx => h x (by rw [allT]; exact List.mem_cons_of_mem _ hx)
theorem okL.head {p : PatT} {l : List PatT} (h : okL (p :: l)) : okT p := fun x hx => h x (by rw [allL]; exact List.mem_append_left _ hx)
theorem okL.tail {p : PatT} {l : List PatT} (h : okL (p :: l)) : okL l := fun x hx => h x (by rw [allL]; exact List.mem_append_right _ hx)
theorem okL.get : ∀ {l : List PatT}, okL l → ∀ (j : Nat) (hj : j < l.length), okT l[j]
  | p :: l, h, 0, _ => h.head
  | p :: l, h, j + 1, hj => okL.get h.tail j (by simpa using hj)
end Go.Proofs.YtlnhcgihpclpaaaGreatDoor

namespace Go.Proofs.YtlnhcgihpclpaaaGreatDoor
set_option linter.all false
open Go.RowKit

/-- What writing into it may turn: its own block, and rows of bytes that came behind T. -/
def XB (N T : Nat) (w : World) (y : Nat) : Prop := y = N ∨ (T ≤ y ∧ ∃ c fz, w.heap[y]? = some (.cells c 5 fz))
def KB (N T : Nat) (w w' : World) : Prop := Kept (XB N T w) w w'
theorem KB.refl (N T : Nat) (w : World) : KB N T w w := Kept.refl _ w
theorem KB.trans {N T : Nat} {a b c : World} (h : KB N T a b) (k : KB N T b c) : KB N T a c := by
  refine Kept.step h k fun y hy => ?_
  rcases hy with rfl | ⟨hT, cs, fz, hc⟩
  · exact .inl (.inl rfl)
  · by_cases hlt : y < a.heap.size
    · by_cases hx : XB N T a y
      · exact .inl hx
      · have := Kept.block h y hlt hx
        rw [hc] at this
        exact .inl (.inr ⟨hT, cs, fz, this.symm⟩)
    · exact .inr (by omega)
theorem KB.quiet {N T : Nat} {a b c : World} (h : KB N T a b) (k : Kept Nix b c) : KB N T a c := Kept.quiet h k
theorem KB.of {N T : Nat} {w w' : World} (h1 : Below T w w') (h2 : Lib.OthersKept 5 (some N) w w') : KB N T w w' := by
  refine ⟨h1.os, h1.tape, h1.output, h1.size, fun k hk hx => ?_⟩
  have hnN : k ≠ N := fun e => hx (.inl e)
  by_cases hT : k < T
  · exact h1.block k hT
  · have ho := Array.getElem?_eq_getElem hk
    rw [ho]
    refine h2 k _ ho (fun e => hnN (Option.some.inj e)) fun c fz e => hx (.inr ⟨by omega, c, fz, by rw [ho, e]⟩)
theorem KB.old {N T : Nat} {w : World} {y : Nat} (hy : y < T) (hT : T ≤ N) : ¬ XB N T w y := by
  rintro (rfl | ⟨h, _⟩) <;> omega
theorem KB.below {N T : Nat} {w w' : World} (h : KB N T w w') (hT : T ≤ N) (hw : T ≤ w.heap.size) : Below T w w' :=
  ⟨h.os, h.tape, h.output, h.size, fun k hk => h.block k (by omega) (KB.old hk hT)⟩
end Go.Proofs.YtlnhcgihpclpaaaGreatDoor

namespace Go.Proofs.YtlnhcgihpclpaaaGreatDoor
set_option linter.all false
open Go.RowKit

/-- What the library's package variables hold. -/
def Glob (w : World) : Prop := (∃ m, w.cell? ⟨0, 0, none⟩ = some (.int .i64 m)) ∧ Lib.TabIs Tryz.prog w "internal/strconv.uint64pow10" .u64 Lib.pow10Tab
theorem Glob.below {w w' : World} {B : Nat} (h : Glob w) (hb : Below B w w') (hB : 0 < B ∧ 5 < B) : Glob w' := by
  obtain ⟨⟨m, hm⟩, ht⟩ := h
  exact ⟨⟨m, (World.cell?_of_block (hb.block _ hB.1)).trans hm⟩, var?_below hb (by kernel_rfl : Tryz.prog.globalNamed "internal/strconv.uint64pow10" = some 5) hB.2 ht⟩
theorem Kept.of_below {w w' : World} (h : Below w.heap.size w w') : Kept Nix w w' := ⟨h.os, h.tape, h.output, h.size, fun k hk _ => h.block k hk⟩
def StrQ (l : List UInt8) (w : World) (e : Ending) (w' : World) : Prop := e = .returned (.string ⟨l.toArray⟩) ∧ Kept Nix w w'
end Go.Proofs.YtlnhcgihpclpaaaGreatDoor

namespace Go.Proofs.YtlnhcgihpclpaaaGreatDoor
set_option linter.all false
open Go.RowKit Go.Deep

section
variable {H : Type} {enc : TypeId × Value → H} {w : World} {spare : Nat → Bool} {held : Bool}

theorem cells_lt {a : Addr} {v : Value} (h : w.cell? a = some v) : a.block < w.heap.size := by
  unfold World.cell? at h
  cases hb : w.heap[a.block]? with
  | none => rw [hb] at h; simp at h
  | some o => exact (Array.getElem?_eq_some_iff.1 hb).1
end
end Go.Proofs.YtlnhcgihpclpaaaGreatDoor

namespace Go.Proofs.YtlnhcgihpclpaaaGreatDoor
set_option linter.all false
open Go.RowKit

def unqF (l : List UInt8) : List UInt8 := Lib.replaceK [39, 39] [39] (Lib.count l [39, 39]) l
theorem unq_all (l : List UInt8) : Lib.replaceAll l [39, 39] [39] = unqF l := by
  unfold Lib.replaceAll Lib.replace Lib.replaceNum unqF
  rw [if_neg (by decide), if_pos (.inl (by decide))]
theorem unq_nil : unqF [] = [] := by decide
theorem unq_two (r : List UInt8) : unqF (39 :: 39 :: r) = 39 :: unqF r := by
  have hi : Lib.index (39 :: 39 :: r) [39, 39] = ((0 : Nat) : Int) := by
    rw [Lib.index, if_pos (by simp [List.isPrefixOf])]; rfl
  unfold unqF
  rw [Lib.count_hit (by simp) hi, Nat.add_comm 1, Lib.replaceK_hit _ _ _ _ 0 hi]
  simp
theorem unq_one {c : UInt8} {r : List UInt8} (h : ([39, 39] : List UInt8).isPrefixOf (c :: r) = false) : unqF (c :: r) = c :: unqF r := by
  have hge := Lib.index_ge r [39, 39]
  by_cases hm : Lib.index r [39, 39] = -1
  · have hi : Lib.index (c :: r) [39, 39] = -1 := by
      rw [Lib.index, if_neg (by simp [h]), if_pos (by simp [hm])]
    unfold unqF
    rw [Lib.count_miss hi, Lib.count_miss hm, Lib.replaceK, Lib.replaceK]
  · obtain ⟨i, hi⟩ : ∃ i : Nat, Lib.index r [39, 39] = i := ⟨(Lib.index r [39, 39]).toNat, by omega⟩
    have hi2 : Lib.index (c :: r) [39, 39] = ((i + 1 : Nat) : Int) := by
      rw [Lib.index, if_neg (by simp [h]), if_neg (by simp [hm]), hi]
      try omega
    unfold unqF
    rw [Lib.count_hit (by simp) hi2, Lib.count_hit (by simp) hi, Nat.add_comm 1, Nat.add_comm 1, Lib.replaceK_hit _ _ _ _ (i + 1) hi2, Lib.replaceK_hit _ _ _ _ i hi]
    have e1 : i + 1 + ([39, 39] : List UInt8).length = (i + ([39, 39] : List UInt8).length) + 1 := by show i + 1 + 2 = i + 2 + 1; omega
    rw [e1, List.drop_succ_cons, List.take_succ_cons]
    rfl
theorem unq_txt : ∀ (l : List UInt8) (b : List UInt8) (n : Nat), txtL l = some (b, n) → unqF (l.take (n - 1)) = b
  | [], b, n, h => by simp [txtL] at h
  | [c], b, n, h => by
    rw [txtL] at h
    split at h
    · simp only [Option.some.injEq, Prod.mk.injEq] at h
      obtain ⟨rfl, rfl⟩ := h
      exact unq_nil
    · cases h
  | c :: d :: r, b, n, h => by
    rw [txtL] at h
    split at h
    · rename_i hc
      split at h
      · rename_i hd
        cases hr : txtL r with
        | none => rw [hr] at h; cases h
        | some x =>
          obtain ⟨b', n'⟩ := x
          rw [hr] at h
          simp only [Option.map_some, Option.some.injEq, Prod.mk.injEq] at h
          obtain ⟨rfl, rfl⟩ := h
          have hn := (txtL_le r b' n' hr).2
          have ih := unq_txt r b' n' hr
          rw [show n' + 2 - 1 = (n' - 1) + 1 + 1 by omega, List.take_succ_cons, List.take_succ_cons, hc, hd, unq_two, ih]
      · simp only [Option.some.injEq, Prod.mk.injEq] at h
        obtain ⟨rfl, rfl⟩ := h
        exact unq_nil
    · rename_i hc
      cases hr : txtL (d :: r) with
      | none => rw [hr] at h; cases h
      | some x =>
        obtain ⟨b', n'⟩ := x
        rw [hr] at h
        simp only [Option.map_some, Option.some.injEq, Prod.mk.injEq] at h
        obtain ⟨rfl, rfl⟩ := h
        have hn := (txtL_le (d :: r) b' n' hr).2
        have ih := unq_txt (d :: r) b' n' hr
        rw [show n' + 1 - 1 = (n' - 1) + 1 by omega, List.take_succ_cons, unq_one (by simp [List.isPrefixOf]; intro h; exact absurd h.symm hc), ih]
theorem extract_take (s : ByteArray) (a m : Nat) : (s.extract a (a + m)).data.toList = (s.data.toList.drop a).take m := by
  rw [ByteArray.data_extract, Array.toList_extract, List.extract_eq_drop_take, Nat.add_sub_cancel_left]
/-- The text between the quotes. -/
theorem unq_text {s : ByteArray} {i : Nat} {b : List UInt8} {n : Nat} (h : txtL (s.data.toList.drop i) = some (b, n)) : Lib.replaceAll (s.extract i (i + (n - 1))).data.toList [39, 39] [39] = b := by
  rw [unq_all, extract_take]
  exact unq_txt _ _ _ h
def MaxC (w : World) : Prop := ∃ m, w.cell? ⟨0, 0, none⟩ = some (.int .i64 m)
theorem MaxC.kept {w w' : World} {X : Nat → Prop} (h : MaxC w) (hk : Kept X w w') (hx : ¬ X 0) : MaxC w' := by
  obtain ⟨m, hm⟩ := h
  exact ⟨m, (hk.cell (cells_lt hm) hx).trans hm⟩
theorem unq_any (x : ByteArray) (w : World) (hg : MaxC w) (hs : x.size ≤ 1000000000) :
    Calls Tryz.prog 39 #[.string x, .string ⟨#[39, 39]⟩, .string ⟨#[39]⟩] w (StrQ (Lib.replaceAll x.data.toList [39, 39] [39]) w) := by
  obtain ⟨m, hm⟩ := hg
  have hc : Lib.countB x ⟨#[39, 39]⟩ ≤ x.size + 1 := by
    show Lib.count x.data.toList [39, 39] ≤ _
    exact Lib.count_le _ _
  refine (Tryz.strings_ReplaceAll x ⟨#[39, 39]⟩ ⟨#[39]⟩ m w (by omega) hm (by decide) (by show x.size + Lib.countB x ⟨#[39, 39]⟩ * 1 ≤ _; omega)).mono ?_
  rintro e w' ⟨rfl, h⟩
  exact ⟨rfl, Kept.of_below h⟩
end Go.Proofs.YtlnhcgihpclpaaaGreatDoor

namespace Go.Proofs.YtlnhcgihpclpaaaGreatDoor
set_option linter.all false
open Go.RowKit

/-- A fault's two cells at block N. -/
def Fl (N : Nat) (a b : Int) (w : World) : Prop := w.heap[N]? = some (.cells #[.int .i64 a, .int .i64 b] 30 (0, 0))
theorem Fl.lt {N : Nat} {a b : Int} {w : World} (h : Fl N a b w) : N < w.heap.size := (Array.getElem?_eq_some_iff.1 h).1
theorem Fl.kept {N : Nat} {a b : Int} {w w' : World} {X : Nat → Prop} (h : Fl N a b w) (hk : Kept X w w') (hx : ¬ X N) : Fl N a b w' := by
  unfold Fl; rw [hk.block N h.lt hx]; exact h
theorem Fl.cells {N : Nat} {a b : Int} {w : World} (h : Fl N a b w) : w.cell? ⟨N, 0, none⟩ = some (.int .i64 a) ∧ w.cell? ⟨N, 1, none⟩ = some (.int .i64 b) ∧ w.frozen? ⟨N, 0, none⟩ = false ∧ w.frozen? ⟨N, 1, none⟩ = false := by
  unfold Fl at h
  exact ⟨by rw [cell_of_row w N _ _ _ _ h]; rfl, by rw [cell_of_row w N _ _ _ _ h]; rfl, by simp [World.frozen?, h], by simp [World.frozen?, h]⟩
theorem Fl.set {N : Nat} {a b : Int} {w : World} (h : Fl N a b w) (c d : Int) : Fl N c d ((w.setCell ⟨N, 0, none⟩ (.int .i64 c)).setCell ⟨N, 1, none⟩ (.int .i64 d)) := by
  unfold Fl at *
  simp [World.setCell, Array.getElem?_modify, h]
theorem ret_vf {f : Func} {tmps : Array Value} {v : Value} {w2 : World} {F : Nat} {a b : Int} {Q : Ending → World → Prop} (hres : f.results = #[.tmp 2, .cell 3 30]) (h2 : tmps.getD 2 undef = v) (h3 : tmps.getD 3 undef = .pointer (some ⟨F, 0, none⟩)) (hF : Fl F a b w2)
    (hq : Q (.returned (.tuple #[v, .agg #[.int .i64 a, .int .i64 b]])) w2) : bodyPost Tryz.prog f Q .ret ⟨tmps, []⟩ w2 := by
  obtain ⟨h0, h1, _, _⟩ := hF.cells
  have ht2 : tmps[2]?.getD undef = v := by rw [← h2, Array.getD_eq_getD_getElem?]
  have ht3 : tmps[3]?.getD undef = .pointer (some ⟨F, 0, none⟩) := by rw [← h3, Array.getD_eq_getD_getElem?]
  exact bodyPost_ret (v := .tuple #[v, .agg #[.int .i64 a, .int .i64 b]]) (by simp [results, hres, go_sem, ht2, ht3, h0, h1]) rfl hq
end Go.Proofs.YtlnhcgihpclpaaaGreatDoor
