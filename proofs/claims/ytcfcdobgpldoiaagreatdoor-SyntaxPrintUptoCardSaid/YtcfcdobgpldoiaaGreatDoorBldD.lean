/- strings.Builder: a deferred WriteByte. -/
import Derived.Test.YtcfcdobgpldoiaaGreatDoorQuote
import Derived.Defers
import Derived.Lib.FrozenHead2
namespace Go.Proofs.YtcfcdobgpldoiaaGreatDoor
set_option linter.all false
open Go.RowKit

theorem bldLay240 : Go.Proofs.Lays.n240 Tryz.prog bldRen := { bldLay167 with }
set_option maxRecDepth 100000 in
set_option maxHeartbeats 2000000 in
theorem writeByteD_any (N T : Nat) (l : List UInt8) (c : UInt8) (u : FrameMode) (w : World) (h : Bld N T l w) (hl : l.length + 1 ≤ 140737488355328) (hT : T ≤ w.heap.size) :
    CallsD Tryz.prog 55 #[.pointer (some ⟨N, 0, none⟩), .int .u8 c.toNat] u w fun e u' w' => u' = u ∧ WrPost N T (l ++ [c]) .nilIface w e w' := by
  obtain ⟨i0, hi, hz0, hz1, hz2⟩ := info_parts bldExtra.infoByte
  have hl2 : (Lib.byteCells l).length + 1 ≤ 140737488355328 := by rw [Lib.byteCells_length]; exact hl
  refine callsD_of_wp Tryz.func55 rfl ?_
  rw [Tryz.ntmps55]
  show Code.wp _ _ _ ⟨#[.pointer (some ⟨N, 0, none⟩), .int .u8 c.toNat, undef, undef, undef, undef, undef, undef, undef, undef, undef, undef, undef, undef, undef, undef, undef], []⟩ _
  go_wp2_with (go_at_call 50; refine (Any.Builder_copyCheck_k bldLay240 bldExtra.toX72 T N (Lib.byteCells l) _ h).mono ?_)
  rintro e w1 ⟨rfl, h1, hb1, hk1⟩
  obtain ⟨hB, v, hbk, hown, hne⟩ := h1
  have c0 : w1.cell? ⟨N, 0, none⟩ = some (.pointer (some ⟨N, 0, none⟩)) := by rw [Lib.cell_of_heap hbk]; rfl
  have c1 : w1.cell? ⟨N, 1, none⟩ = some v := by rw [Lib.cell_of_heap hbk]; rfl
  go_wp2_with (at_builtin; refine wpList_append_ownF _ rfl _ _ 58 rfl T 5 i0 (.int .u8 0) 1 1 Tryz.underlying58 hi hz0 hz1 hz2 rfl (by decide) _ _ _ rfl (hown.alloc _) ⟨w1.heap.size, 0, none⟩ 1 1 [.int .u8 c.toNat] rfl rfl ?c1 ?c2 ?c3 ?c4 ?c5 ?_)
  case c1 =>
    intro j u hj
    match j, hj with
    | 0, hj => simp at hj; subst hj; simp [Addr.add]
  case c2 => intro u hu; simp at hu; subst hu; rfl
  case c3 => unfold maxLen; omega
  case c4 => omega
  case c5 => have := hb1.size; simp; omega
  intro v' w2 hown' hgrow _
  have hlt : N < w1.heap.size := (Array.getElem?_eq_some_iff.1 hbk).1
  have hb2 : w2.heap[N]? = some (.cells #[.pointer (some ⟨N, 0, none⟩), v] 61 (0, 0)) := by
    rw [hgrow.block N (by simp; omega) (fun e => hne e.symm), Lib.alloc_old w1 _ N hlt]
    exact hbk
  have d0 : w2.cell? ⟨N, 0, none⟩ = some (.pointer (some ⟨N, 0, none⟩)) := by rw [Lib.cell_of_heap hb2]; rfl
  have d1 : w2.cell? ⟨N, 1, none⟩ = some v := by rw [Lib.cell_of_heap hb2]; rfl
  have f1 : w2.frozen? ⟨N, 1, none⟩ = false := Lib.frozen_of_heap hb2 1
  obtain ⟨g, cap, rfl⟩ : ∃ g cap, v' = .slice (some ⟨g, 0, none⟩) ((Lib.byteCells l).length + 1) cap := by
    rcases hown'.2 with ⟨_, h0⟩ | ⟨g, cap, cur, fz, hv, _⟩
    · omega
    · exact ⟨g, cap, hv⟩
  go_wp2_with fail
  go_ret
  refine ⟨rfl, .inr ?_, KB.of ?_ (((hk1.alloc _).grown hgrow (Lib.ownsRowF_kind (hown.alloc _))).setCell ⟨N, 1, none⟩ rfl _)⟩
  · rw [bcells_append]; exact Lib.BuilderAtF.put (T := 61) (e := 5) hB hb2 (bs' := Lib.byteCells l ++ [.int .u8 c.toNat]) (by simpa using hown') bldExtra.neB5
  · exact ((hb1.alloc (by have := hb1.size; omega) _).grown hgrow (by have := hb1.size; simp; omega) (fun k hk => (hown.lt k hk).1)).setCell (p := ⟨N, 1, none⟩) hB _
end Go.Proofs.YtcfcdobgpldoiaaGreatDoor
