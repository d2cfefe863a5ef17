/- strings.Builder: WriteByte and WriteString, laid for this seat, and their frame. -/
import Derived.Test.YtdnglicgmlldlaaDoorShelf
import Derived.Test.YtdnglicgmlldlaaDoorTm1
import Derived.Shelf.Strings.BuilderK
namespace Go.Proofs.YtdnglicgmlldlaaDoor
open Go.RowKit

def bldRen : Go.Shelf.Ren := ⟨fun | 167 => 29 | 166 => 30 | 240 => 43 | 276 => 48 | n => n, fun | 0 => 0 | 3 => 3 | 4 => 4 | 5 => 5 | 9 => 9 | 20 => 20 | 37 => 39 | 70 => 38 | 72 => 41 | 75 => 64 | 80 => 47 | 164 => 81 | n => n, fun n => n⟩
theorem bldLay167 : Go.Proofs.Lays.n167 Tryd.prog bldRen := { mixed := by kernel_rfl, f167 := Tryd.func29.trans (congrArg some (by kernel_rfl)), f240 := Tryd.func43.trans (congrArg some (by kernel_rfl)), f276 := Tryd.func48.trans (congrArg some (by kernel_rfl)), t0 := Tryd.underlying0, a0 := Tryd.isAgg0, z0 := Tryd.sizeOf0, v0 := Tryd.zeroValue0, t4 := Tryd.underlying4, a4 := Tryd.isAgg4, z4 := Tryd.sizeOf4, v4 := Tryd.zeroValue4, t5 := Tryd.underlying5, a5 := Tryd.isAgg5, z5 := Tryd.sizeOf5, v5 := Tryd.zeroValue5, t9 := Tryd.underlying9, a9 := Tryd.isAgg9, z9 := Tryd.sizeOf9, v9 := Tryd.zeroValue9, t20 := Tryd.underlying20, a20 := Tryd.isAgg20, z20 := Tryd.sizeOf20, v20 := Tryd.zeroValue20, t37 := Tryd.underlying39, a37 := Tryd.isAgg39, z37 := Tryd.sizeOf39, v37 := Tryd.zeroValue39, t70 := Tryd.underlying38, a70 := Tryd.isAgg38, z70 := Tryd.sizeOf38, v70 := Tryd.zeroValue38, t72 := Tryd.underlying41, a72 := Tryd.isAgg41, z72 := Tryd.sizeOf41, v72 := Tryd.zeroValue41, t75 := Tryd.underlying64, a75 := Tryd.isAgg64, z75 := Tryd.sizeOf64, v75 := Tryd.zeroValue64, t164 := Tryd.underlying81, a164 := Tryd.isAgg81, z164 := Tryd.sizeOf81, v164 := Tryd.zeroValue81 }
theorem bldLay166 : Go.Proofs.Lays.n166 Tryd.prog bldRen := { mixed := by kernel_rfl, f166 := Tryd.func30.trans (congrArg some (by kernel_rfl)), f240 := Tryd.func43.trans (congrArg some (by kernel_rfl)), f276 := Tryd.func48.trans (congrArg some (by kernel_rfl)), t0 := Tryd.underlying0, a0 := Tryd.isAgg0, z0 := Tryd.sizeOf0, v0 := Tryd.zeroValue0, t3 := Tryd.underlying3, a3 := Tryd.isAgg3, z3 := Tryd.sizeOf3, v3 := Tryd.zeroValue3, t4 := Tryd.underlying4, a4 := Tryd.isAgg4, z4 := Tryd.sizeOf4, v4 := Tryd.zeroValue4, t9 := Tryd.underlying9, a9 := Tryd.isAgg9, z9 := Tryd.sizeOf9, v9 := Tryd.zeroValue9, t20 := Tryd.underlying20, a20 := Tryd.isAgg20, z20 := Tryd.sizeOf20, v20 := Tryd.zeroValue20, t37 := Tryd.underlying39, a37 := Tryd.isAgg39, z37 := Tryd.sizeOf39, v37 := Tryd.zeroValue39, t70 := Tryd.underlying38, a70 := Tryd.isAgg38, z70 := Tryd.sizeOf38, v70 := Tryd.zeroValue38, t72 := Tryd.underlying41, a72 := Tryd.isAgg41, z72 := Tryd.sizeOf41, v72 := Tryd.zeroValue41, t75 := Tryd.underlying64, a75 := Tryd.isAgg64, z75 := Tryd.sizeOf64, v75 := Tryd.zeroValue64, t164 := Tryd.underlying81, a164 := Tryd.isAgg81, z164 := Tryd.sizeOf81, v164 := Tryd.zeroValue81 }
theorem bldExtra : Builder.Extra Tryd.prog bldRen := { sizeBuilder := by kernel_rfl, liesBuilder := by kernel_rfl, t5 := Tryd.underlying5, a5 := Tryd.isAgg5, z5 := Tryd.sizeOf5, v5 := Tryd.zeroValue5, infoByte := by kernel_rfl, cellsByte := by kernel_rfl, sizeByte := by kernel_rfl, neB5 := by decide }

/-- The builder in block N, made when T blocks lay, holds the bytes l. -/
def Bld (N T : Nat) (l : List UInt8) (w : World) : Prop := Lib.IsBuilderF 41 5 T N (Lib.byteCells l) w
/-- What writing into it may turn: its own block, and rows of bytes that came behind T. -/
def XB (N T : Nat) (w : World) (y : Nat) : Prop := y = N ∨ (T ≤ y ∧ ∃ c fz, w.heap[y]? = some (.cells c 5 fz))
def KB (N T : Nat) (w w' : World) : Prop := Kept (XB N T w) w w'
theorem KB.refl (N T : Nat) (w : World) : KB N T w w := Kept.refl _ w
theorem KB.trans {N T : Nat} {a b c : World} (h : KB N T a b) (k : KB N T b c) : KB N T a c := by
  refine Kept.step h k fun y hy => ?_
  rcases hy with rfl | ⟨hT, cs, fz, hc⟩
  · exact .inl (.inl rfl)
  · by_cases hlt : y < a.heap.size
    · by_cases hx : XB N T a y
      · exact .inl hx
      · have := Kept.block h y hlt hx
        rw [hc] at this
        exact .inl (.inr ⟨hT, cs, fz, this.symm⟩)
    · exact .inr (by omega)
theorem KB.quiet {N T : Nat} {a b c : World} (h : KB N T a b) (k : Kept Nix b c) : KB N T a c := Kept.quiet h k
theorem KB.of {N T : Nat} {w w' : World} (h1 : Below T w w') (h2 : Lib.OthersKept 5 (some N) w w') : KB N T w w' := by
  refine ⟨h1.os, h1.tape, h1.output, h1.size, fun k hk hx => ?_⟩
  have hnN : k ≠ N := fun e => hx (.inl e)
  by_cases hT : k < T
  · exact h1.block k hT
  · have ho := Array.getElem?_eq_getElem hk
    rw [ho]
    refine h2 k _ ho (fun e => hnN (Option.some.inj e)) fun c fz e => hx (.inr ⟨by omega, c, fz, by rw [ho, e]⟩)
theorem KB.old {N T : Nat} {w : World} {y : Nat} (hy : y < T) (hT : T ≤ N) : ¬ XB N T w y := by
  rintro (rfl | ⟨h, _⟩) <;> omega
theorem KB.below {N T : Nat} {w w' : World} (h : KB N T w w') (hT : T ≤ N) (hw : T ≤ w.heap.size) : Below T w w' :=
  ⟨h.os, h.tape, h.output, h.size, fun k hk => h.block k (by omega) (KB.old hk hT)⟩
theorem bcells_append (a b : List UInt8) : Lib.byteCells (a ++ b) = Lib.byteCells a ++ Lib.byteCells b := by simp [Lib.byteCells]
def WrPost (N T : Nat) (l : List UInt8) (v : Value) (w : World) (e : Ending) (w' : World) : Prop := e = .returned v ∧ Bld N T l w' ∧ KB N T w w'
theorem writeByte_any (N T : Nat) (l : List UInt8) (c : UInt8) (w : World) (h : Bld N T l w) (hl : l.length + 1 ≤ 140737488355328) (hT : T ≤ w.heap.size) :
    Calls Tryd.prog 29 #[.pointer (some ⟨N, 0, none⟩), .int .u8 c.toNat] w (WrPost N T (l ++ [c]) .nilIface w) := by
  refine (Any.Builder_WriteByte_k bldLay167 bldExtra T N (Lib.byteCells l) c.toNat w h (by rw [Lib.byteCells_length]; exact hl) hT).mono ?_
  rintro e w' ⟨rfl, h1, h2, h3⟩
  exact ⟨rfl, .inr (by rw [bcells_append]; exact h1), KB.of h2 h3⟩
theorem writeString_any (N T : Nat) (l : List UInt8) (s : ByteArray) (w : World) (h : Bld N T l w) (hl : l.length + s.size ≤ 140737488355328) (hT : T ≤ w.heap.size) :
    Calls Tryd.prog 30 #[.pointer (some ⟨N, 0, none⟩), .string s] w (WrPost N T (l ++ s.data.toList) (.tuple #[.int .i64 s.size, .nilIface]) w) := by
  refine (Any.Builder_WriteString_k bldLay166 bldExtra T N (Lib.byteCells l) s w h (by rw [Lib.byteCells_length]; exact hl) hT).mono ?_
  rintro e w' ⟨rfl, h1, h2, h3⟩
  exact ⟨rfl, .inr (by rw [bcells_append]; exact h1), KB.of h2 h3⟩
end Go.Proofs.YtdnglicgmlldlaaDoor
