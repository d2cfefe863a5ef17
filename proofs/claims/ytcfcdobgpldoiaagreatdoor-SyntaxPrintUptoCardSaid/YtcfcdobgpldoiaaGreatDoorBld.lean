/- strings.Builder: WriteByte and WriteString, laid for this seat, and their frame. -/
import Derived.Test.YtcfcdobgpldoiaaGreatDoorShelf
import Derived.Test.YtcfcdobgpldoiaaGreatDoorBase
import Derived.Shelf.Strings.BuilderK
namespace Go.Proofs.YtcfcdobgpldoiaaGreatDoor
set_option linter.all false
open Go.RowKit

def bldRen : Go.Shelf.Ren := ⟨fun | 167 => 55 | 166 => 30 | 240 => 50 | 276 => 69 | n => n, fun | 0 => 0 | 3 => 3 | 4 => 4 | 5 => 5 | 9 => 9 | 20 => 20 | 37 => 58 | 70 => 59 | 72 => 61 | 75 => 63 | 80 => 67 | 164 => 107 | n => n, fun n => n⟩
theorem bldLay167 : Go.Proofs.Lays.n167 Tryz.prog bldRen := { mixed := by kernel_rfl, f167 := Tryz.func55.trans (congrArg some (by kernel_rfl)), f240 := Tryz.func50.trans (congrArg some (by kernel_rfl)), f276 := Tryz.func69.trans (congrArg some (by kernel_rfl)), t0 := Tryz.underlying0, a0 := Tryz.isAgg0, z0 := Tryz.sizeOf0, v0 := Tryz.zeroValue0, t4 := Tryz.underlying4, a4 := Tryz.isAgg4, z4 := Tryz.sizeOf4, v4 := Tryz.zeroValue4, t5 := Tryz.underlying5, a5 := Tryz.isAgg5, z5 := Tryz.sizeOf5, v5 := Tryz.zeroValue5, t9 := Tryz.underlying9, a9 := Tryz.isAgg9, z9 := Tryz.sizeOf9, v9 := Tryz.zeroValue9, t20 := Tryz.underlying20, a20 := Tryz.isAgg20, z20 := Tryz.sizeOf20, v20 := Tryz.zeroValue20, t37 := Tryz.underlying58, a37 := Tryz.isAgg58, z37 := Tryz.sizeOf58, v37 := Tryz.zeroValue58, t70 := Tryz.underlying59, a70 := Tryz.isAgg59, z70 := Tryz.sizeOf59, v70 := Tryz.zeroValue59, t72 := Tryz.underlying61, a72 := Tryz.isAgg61, z72 := Tryz.sizeOf61, v72 := Tryz.zeroValue61, t75 := Tryz.underlying63, a75 := Tryz.isAgg63, z75 := Tryz.sizeOf63, v75 := Tryz.zeroValue63, t164 := Tryz.underlying107, a164 := Tryz.isAgg107, z164 := Tryz.sizeOf107, v164 := Tryz.zeroValue107 }
theorem bldLay166 : Go.Proofs.Lays.n166 Tryz.prog bldRen := { mixed := by kernel_rfl, f166 := Tryz.func30.trans (congrArg some (by kernel_rfl)), f240 := Tryz.func50.trans (congrArg some (by kernel_rfl)), f276 := Tryz.func69.trans (congrArg some (by kernel_rfl)), t0 := Tryz.underlying0, a0 := Tryz.isAgg0, z0 := Tryz.sizeOf0, v0 := Tryz.zeroValue0, t3 := Tryz.underlying3, a3 := Tryz.isAgg3, z3 := Tryz.sizeOf3, v3 := Tryz.zeroValue3, t4 := Tryz.underlying4, a4 := Tryz.isAgg4, z4 := Tryz.sizeOf4, v4 := Tryz.zeroValue4, t9 := Tryz.underlying9, a9 := Tryz.isAgg9, z9 := Tryz.sizeOf9, v9 := Tryz.zeroValue9, t20 := Tryz.underlying20, a20 := Tryz.isAgg20, z20 := Tryz.sizeOf20, v20 := Tryz.zeroValue20, t37 := Tryz.underlying58, a37 := Tryz.isAgg58, z37 := Tryz.sizeOf58, v37 := Tryz.zeroValue58, t70 := Tryz.underlying59, a70 := Tryz.isAgg59, z70 := Tryz.sizeOf59, v70 := Tryz.zeroValue59, t72 := Tryz.underlying61, a72 := Tryz.isAgg61, z72 := Tryz.sizeOf61, v72 := Tryz.zeroValue61, t75 := Tryz.underlying63, a75 := Tryz.isAgg63, z75 := Tryz.sizeOf63, v75 := Tryz.zeroValue63, t164 := Tryz.underlying107, a164 := Tryz.isAgg107, z164 := Tryz.sizeOf107, v164 := Tryz.zeroValue107 }
theorem bldExtra : Builder.Extra Tryz.prog bldRen := { sizeBuilder := by kernel_rfl, liesBuilder := by kernel_rfl, t5 := Tryz.underlying5, a5 := Tryz.isAgg5, z5 := Tryz.sizeOf5, v5 := Tryz.zeroValue5, infoByte := by kernel_rfl, cellsByte := by kernel_rfl, sizeByte := by kernel_rfl, neB5 := by decide }

/-- The builder in block N, made when T blocks lay, holds the bytes l. -/
def Bld (N T : Nat) (l : List UInt8) (w : World) : Prop := Lib.IsBuilderF 61 5 T N (Lib.byteCells l) w
/-- What writing into it may turn: its own block, and rows of bytes that came behind T. -/
def XB (N T : Nat) (w : World) (y : Nat) : Prop := y = N ∨ (T ≤ y ∧ ∃ c fz, w.heap[y]? = some (.cells c 5 fz))
def KB (N T : Nat) (w w' : World) : Prop := Kept (XB N T w) w w'
theorem KB.refl (N T : Nat) (w : World) : KB N T w w := Kept.refl _ w
theorem KB.trans {N T : Nat} {a b c : World} (h : KB N T a b) (k : KB N T b c) : KB N T a c := by
  refine Kept.step h k fun y hy => ?_
  rcases hy with rfl | ⟨hT, cs, fz, hc⟩
  · exact .inl (.inl rfl)
  · by_cases hlt : y < a.heap.size
    · by_cases hx : XB N T a y
      · exact .inl hx
      · have := Kept.block h y hlt hx
        rw [hc] at this
        exact .inl (.inr ⟨hT, cs, fz, this.symm⟩)
    · exact .inr (by omega)
theorem KB.quiet {N T : Nat} {a b c : World} (h : KB N T a b) (k : Kept Nix b c) : KB N T a c := Kept.quiet h k
theorem KB.of {N T : Nat} {w w' : World} (h1 : Below T w w') (h2 : Lib.OthersKept 5 (some N) w w') : KB N T w w' := by
  refine ⟨h1.os, h1.tape, h1.output, h1.size, fun k hk hx => ?_⟩
  have hnN : k ≠ N := fun e => hx (.inl e)
  by_cases hT : k < T
  · exact h1.block k hT
  · have ho := Array.getElem?_eq_getElem hk
    rw [ho]
    refine h2 k _ ho (fun e => hnN (Option.some.inj e)) fun c fz e => hx (.inr ⟨by omega, c, fz, by rw [ho, e]⟩)
theorem KB.old {N T : Nat} {w : World} {y : Nat} (hy : y < T) (hT : T ≤ N) : ¬ XB N T w y := by
  rintro (rfl | ⟨h, _⟩) <;> omega
theorem KB.below {N T : Nat} {w w' : World} (h : KB N T w w') (hT : T ≤ N) (hw : T ≤ w.heap.size) : Below T w w' :=
  ⟨h.os, h.tape, h.output, h.size, fun k hk => h.block k (by omega) (KB.old hk hT)⟩
theorem bcells_append (a b : List UInt8) : Lib.byteCells (a ++ b) = Lib.byteCells a ++ Lib.byteCells b := by simp [Lib.byteCells]
def WrPost (N T : Nat) (l : List UInt8) (v : Value) (w : World) (e : Ending) (w' : World) : Prop := e = .returned v ∧ Bld N T l w' ∧ KB N T w w'
theorem writeByte_any (N T : Nat) (l : List UInt8) (c : UInt8) (w : World) (h : Bld N T l w) (hl : l.length + 1 ≤ 140737488355328) (hT : T ≤ w.heap.size) :
    Calls Tryz.prog 55 #[.pointer (some ⟨N, 0, none⟩), .int .u8 c.toNat] w (WrPost N T (l ++ [c]) .nilIface w) := by
  refine (Any.Builder_WriteByte_k bldLay167 bldExtra T N (Lib.byteCells l) c.toNat w h (by rw [Lib.byteCells_length]; exact hl) hT).mono ?_
  rintro e w' ⟨rfl, h1, h2, h3⟩
  exact ⟨rfl, .inr (by rw [bcells_append]; exact h1), KB.of h2 h3⟩
theorem writeString_any (N T : Nat) (l : List UInt8) (s : ByteArray) (w : World) (h : Bld N T l w) (hl : l.length + s.size ≤ 140737488355328) (hT : T ≤ w.heap.size) :
    Calls Tryz.prog 30 #[.pointer (some ⟨N, 0, none⟩), .string s] w (WrPost N T (l ++ s.data.toList) (.tuple #[.int .i64 s.size, .nilIface]) w) := by
  refine (Any.Builder_WriteString_k bldLay166 bldExtra T N (Lib.byteCells l) s w h (by rw [Lib.byteCells_length]; exact hl) hT).mono ?_
  rintro e w' ⟨rfl, h1, h2, h3⟩
  exact ⟨rfl, .inr (by rw [bcells_append]; exact h1), KB.of h2 h3⟩
end Go.Proofs.YtcfcdobgpldoiaaGreatDoor
