/- The words of kinds. Lists of bytes that the call owns, and the text of one. A block of five cells: a pattern alone. -/
import Derived.Test.YtcfcdobgpldoiaaGreatDoorLaw4
import Derived.Deep.QuietTactic
import Derived.BigQuiet
import Derived.Deep.LoopGhost
import Derived.Test.YtcfcdobgpldoiaaGreatDoorWin
import Derived.Test.YtcfcdobgpldoiaaGreatDoorBase
namespace Go.Proofs.YtcfcdobgpldoiaaGreatDoor
set_option linter.all false
open Go.RowKit

def strB (l : List UInt8) : ByteArray := ⟨l.toArray⟩
def wordsL : List ByteArray := [strB [], strB [], strB [76, 69, 78], strB [65, 78, 89], strB [78, 79, 84, 65, 78, 89], strB [83, 80, 65, 78], strB [66, 82, 69, 65, 75], strB [66, 82, 69, 65, 75, 88], strB [84, 65, 66], strB [82, 84, 65, 66], strB [80, 79, 83], strB [82, 80, 79, 83], strB [82, 69, 77], strB [65, 82, 66], strB [66, 65, 76], strB [70, 65, 73, 76], strB [70, 69, 78, 67, 69], strB [65, 66, 79, 82, 84], strB [], strB [], strB [65, 82, 66, 78, 79]]
def WordsAt (W : Nat) (w : World) : Prop := w.heap[W]? = some (.cells (wordsL.map Value.string).toArray 9 (0, 0))
theorem WordsAt.lt {W : Nat} {w : World} (h : WordsAt W w) : W < w.heap.size := (Array.getElem?_eq_some_iff.1 h).1
theorem WordsAt.cell {W : Nat} {w : World} (h : WordsAt W w) (j : Nat) (hj : j < wordsL.length) : w.cell? ⟨W, 0 + j, none⟩ = some (.string (wordsL.getD j ByteArray.empty)) := by
  rw [cell_of_row w W (0 + j) _ _ _ h, Nat.zero_add]
  simp [List.getD_eq_getElem?_getD, List.getElem?_eq_getElem hj]
theorem WordsAt.kept {W : Nat} {w w' : World} {X : Nat → Prop} (h : WordsAt W w) (hk : Kept X w w') (hx : ¬ X W) : WordsAt W w' := by
  unfold WordsAt; rw [hk.block W h.lt hx]; exact h
end Go.Proofs.YtcfcdobgpldoiaaGreatDoor

namespace Go.Proofs.YtcfcdobgpldoiaaGreatDoor
set_option linter.all false
open Go.RowKit

def byteCs (bs : List UInt8) : List Value := bs.map fun b => .int .u8 (b.toNat : Int)
theorem heap_new2 {N : Nat} {w : World} {o : Obj} (h : N = w.heap.size) : (w.alloc o).heap[N]? = some o := by subst h; exact heap_alloc_new w _
theorem Kept.drewN' (w : World) (n : Nat) : Kept Nix w (w.drewN n) := ⟨rfl, rfl, rfl, Nat.le_refl _, fun _ _ _ => rfl⟩
theorem Tryz.infoB : (Tryz.prog.info? 5).map (fun i => (i.zero, i.size, i.bytes)) = some (some (.int .u8 0), 1, 1) := by kernel_rfl
theorem Win.conv {w : World} {B : Nat} {a : Option Addr} {c : Nat} {bs : List UInt8} (h : Win w B 5 1 (.slice a bs.length c) bs.length (byteCs bs)) :
    (convert 58 9 (.slice a bs.length c)).run Tryz.prog w = .ok (.string ⟨bs.toArray⟩) w := by
  rcases h.cells with ⟨hv, hn⟩ | ⟨g, o, cap, hv, _, _, _, _, hc⟩
  · simp only [Value.slice.injEq] at hv
    obtain ⟨rfl, hl, rfl⟩ := hv
    rw [List.eq_nil_of_length_eq_zero hl]
    exact run_convert_bytes_nil w 58 5 Tryz.underlying58 Tryz.underlying5 0 0 9 Tryz.underlying9
  · simp only [Value.slice.injEq, true_and] at hv
    obtain ⟨rfl, rfl⟩ := hv
    refine run_convert_bytes_back w 58 9 5 _ c bs Tryz.underlying58 Tryz.underlying5 Tryz.underlying9 fun j hj => ?_
    have e1 : (⟨g, o, none⟩ : Addr).add j = ⟨g, o + j, none⟩ := by unfold Addr.add; split <;> simp_all
    rw [e1]; exact (hc j _ (by simp [byteCs, hj])).1
end Go.Proofs.YtcfcdobgpldoiaaGreatDoor

namespace Go.Proofs.YtcfcdobgpldoiaaGreatDoor
set_option linter.all false
open Go.RowKit

def Five (M : Nat) (c0 c1 c2 c3 c4 : Value) (w : World) : Prop := w.heap[M]? = some (.cells #[c0, c1, c2, c3, c4] 30 (0, 0))
theorem Five.lt {M : Nat} {c0 c1 c2 c3 c4 : Value} {w : World} (h : Five M c0 c1 c2 c3 c4 w) : M < w.heap.size := (Array.getElem?_eq_some_iff.1 h).1
theorem Five.kept {M : Nat} {c0 c1 c2 c3 c4 : Value} {w w' : World} {X : Nat → Prop} (h : Five M c0 c1 c2 c3 c4 w) (hk : Kept X w w') (hx : ¬ X M) : Five M c0 c1 c2 c3 c4 w' := by
  unfold Five; rw [hk.block M h.lt hx]; exact h
theorem Five.cells {M : Nat} {c0 c1 c2 c3 c4 : Value} {w : World} (h : Five M c0 c1 c2 c3 c4 w) : w.cell? ⟨M, 0, none⟩ = some c0 ∧ w.cell? ⟨M, 1, none⟩ = some c1 ∧ w.cell? ⟨M, 2, none⟩ = some c2 ∧ w.cell? ⟨M, 3, none⟩ = some c3 ∧ w.cell? ⟨M, 4, none⟩ = some c4 ∧ ∀ o, w.frozen? ⟨M, o, none⟩ = false := by
  unfold Five at h
  refine ⟨?_, ?_, ?_, ?_, ?_, fun o => by simp [World.frozen?, h]⟩ <;> (rw [cell_of_row w M _ _ _ _ h]; rfl)
def set5 (w : World) (M : Nat) (c0 c1 c2 c3 c4 : Value) : World := ((((w.setCell ⟨M, 0, none⟩ c0).setCell ⟨M, 1, none⟩ c1).setCell ⟨M, 2, none⟩ c2).setCell ⟨M, 3, none⟩ c3).setCell ⟨M, 4, none⟩ c4
end Go.Proofs.YtcfcdobgpldoiaaGreatDoor
