/- A fault's two cells. What a program is written as (plain). -/
import Derived.Test.YtcfcdobgpldoiaaGreatDoorBase
import Derived.Test.YtcfcdobgpldoiaaGreatDoorRx
namespace Go.Proofs.YtcfcdobgpldoiaaGreatDoor
set_option linter.all false
open Go.RowKit

/-- A fault's two cells at block N. -/
def Fl (N : Nat) (a b : Int) (w : World) : Prop := w.heap[N]? = some (.cells #[.int .i64 a, .int .i64 b] 38 (0, 0))
theorem Fl.lt {N : Nat} {a b : Int} {w : World} (h : Fl N a b w) : N < w.heap.size := (Array.getElem?_eq_some_iff.1 h).1
theorem Fl.kept {N : Nat} {a b : Int} {w w' : World} {X : Nat → Prop} (h : Fl N a b w) (hk : Kept X w w') (hx : ¬ X N) : Fl N a b w' := by
  unfold Fl; rw [hk.block N h.lt hx]; exact h
theorem Fl.cells {N : Nat} {a b : Int} {w : World} (h : Fl N a b w) : w.cell? ⟨N, 0, none⟩ = some (.int .i64 a) ∧ w.cell? ⟨N, 1, none⟩ = some (.int .i64 b) ∧ w.frozen? ⟨N, 0, none⟩ = false ∧ w.frozen? ⟨N, 1, none⟩ = false := by
  unfold Fl at h
  exact ⟨by rw [cell_of_row w N _ _ _ _ h]; rfl, by rw [cell_of_row w N _ _ _ _ h]; rfl, by simp [World.frozen?, h], by simp [World.frozen?, h]⟩
theorem Fl.set {N : Nat} {a b : Int} {w : World} (h : Fl N a b w) (c d : Int) : Fl N c d ((w.setCell ⟨N, 0, none⟩ (.int .i64 c)).setCell ⟨N, 1, none⟩ (.int .i64 d)) := by
  unfold Fl at *
  simp [World.setCell, Array.getElem?_modify, h]
theorem ret_show {f : Func} {tmps : Array Value} {x : ByteArray} {w2 : World} {F : Nat} {a b : Int} {Q : Ending → World → Prop} (hres : f.results = #[.tmp 2, .cell 3 38]) (h2 : tmps.getD 2 undef = .string x) (h3 : tmps.getD 3 undef = .pointer (some ⟨F, 0, none⟩)) (hF : Fl F a b w2)
    (hq : Q (.returned (.tuple #[.string x, .agg #[.int .i64 a, .int .i64 b]])) w2) : bodyPost Tryz.prog f Q .ret ⟨tmps, []⟩ w2 := by
  obtain ⟨h0, h1, _, _⟩ := hF.cells
  have ht2 : tmps[2]?.getD undef = .string x := by rw [← h2, Array.getD_eq_getD_getElem?]
  have ht3 : tmps[3]?.getD undef = .pointer (some ⟨F, 0, none⟩) := by rw [← h3, Array.getD_eq_getD_getElem?]
  exact bodyPost_ret (v := .tuple #[.string x, .agg #[.int .i64 a, .int .i64 b]]) (by simp [results, hres, go_sem, ht2, ht3, h0, h1]) rfl hq
end Go.Proofs.YtcfcdobgpldoiaaGreatDoor

namespace Go.Proofs.YtcfcdobgpldoiaaGreatDoor
set_option linter.all false
open Go.RowKit

def showAt : List StT → Nat → List UInt8 → List UInt8 × Int × Nat
  | [], _, d => if 65536 < d.length then ([], 4, 0) else (d, 0, 0)
  | s :: r, i, d => if (printS s).2 ≠ 0 then ([], (printS s).2, i) else showAt r (i + 1) (d ++ ((printS s).1 ++ [10]))
/-- A program's text; what is wrong, and where. -/
def progS (l : List StT) : List UInt8 × Int × Nat := if 1000 < l.length then ([], 5, 0) else showAt l 0 []
def ShowPQ (l : List StT) (w : World) (e : Ending) (w' : World) : Prop :=
  e = .returned (.tuple #[.string ⟨(progS l).1.toArray⟩, .agg #[.int .i64 (progS l).2.1, .int .i64 ((progS l).2.2 : Int)]]) ∧ Kept Nix w w'
theorem showAt_bad (l : List StT) (j : Nat) (d : List UInt8) (h : j < l.length) (hb : (printS l[j]).2 ≠ 0) : showAt (l.drop j) j d = ([], (printS l[j]).2, j) := by
  rw [List.drop_eq_getElem_cons h, showAt, if_pos hb]
theorem showAt_ok (l : List StT) (j : Nat) (d : List UInt8) (h : j < l.length) (hb : (printS l[j]).2 = 0) : showAt (l.drop j) j d = showAt (l.drop (j + 1)) (j + 1) (d ++ ((printS l[j]).1 ++ [10])) := by
  rw [List.drop_eq_getElem_cons h, showAt, if_neg (by simpa using hb)]
theorem showAt_end (l : List StT) (d : List UInt8) : showAt (l.drop l.length) l.length d = if 65536 < d.length then ([], 4, 0) else (d, 0, 0) := by
  rw [List.drop_length, showAt]
theorem printS_len (s : StT) : (printS s).1.length ≤ 2000 := by
  unfold printS
  split
  · simp
  split
  · simp
  split
  · simp
  split
  · simp
  · simp only; omega
end Go.Proofs.YtcfcdobgpldoiaaGreatDoor
