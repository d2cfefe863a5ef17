/- The reader of patterns: the closure that catches what a reader throws. -/
import Derived.Test.YtdnglicgmlldlaaDoorRd15
import Derived.Recover
import Derived.RegionTactic
import Derived.BigRegion
namespace Go.Proofs.YtdnglicgmlldlaaDoor
open Go.RowKit

def Two (M : Nat) (c0 c1 : Value) (w : World) : Prop := w.heap[M]? = some (.cells #[c0, c1] 31 (0, 0))
theorem Two.lt {M : Nat} {c0 c1 : Value} {w : World} (h : Two M c0 c1 w) : M < w.heap.size := (Array.getElem?_eq_some_iff.1 h).1
theorem Two.kept {M : Nat} {c0 c1 : Value} {w w' : World} {X : Nat → Prop} (h : Two M c0 c1 w) (hk : Kept X w w') (hx : ¬ X M) : Two M c0 c1 w' := by
  unfold Two; rw [hk.block M h.lt hx]; exact h
theorem Two.cells {M : Nat} {c0 c1 : Value} {w : World} (h : Two M c0 c1 w) : w.cell? ⟨M, 0, none⟩ = some c0 ∧ w.cell? ⟨M, 1, none⟩ = some c1 ∧ ∀ o, w.frozen? ⟨M, o, none⟩ = false := by
  unfold Two at h
  refine ⟨?_, ?_, fun o => by simp [World.frozen?, h]⟩ <;> (rw [cell_of_row w M _ _ _ _ h]; rfl)
def set2 (w : World) (M : Nat) (c0 c1 : Value) : World := (w.setCell ⟨M, 0, none⟩ c0).setCell ⟨M, 1, none⟩ c1
theorem Two.set2 {M : Nat} {z0 z1 : Value} {w : World} (h : Two M z0 z1 w) (c0 c1 : Value) : Two M c0 c1 (set2 w M c0 c1) := by
  unfold Two at h ⊢
  unfold Go.Proofs.YtdnglicgmlldlaaDoor.set2
  rw [row_setCell (row_setCell h _) _]; rfl
theorem Kept.set2 {X : Nat → Prop} {a w : World} (h : Kept X a w) {M : Nat} (hM : X M ∨ a.heap.size ≤ M) (c0 c1 : Value) : Kept X a (set2 w M c0 c1) :=
  (h.setCell (p := ⟨M, 0, none⟩) hM _).setCell (p := ⟨M, 1, none⟩) hM _

def CatchPost (A1 A2 : Nat) (er : Er) (w : World) (e : Ending) (u : FrameMode) (w' : World) : Prop :=
  e = .returned (.tuple #[]) ∧ u = .panicking [{ v := oopsV er, recovered := true }] ∧ Zero5 A1 w' ∧ Two A2 (.int .i64 er.1) (.int .i64 er.2) w' ∧ Kept (fun k => k = A1 ∨ k = A2) w w'
set_option maxRecDepth 100000 in
set_option maxHeartbeats 1000000 in
theorem catch_oops (A1 A2 : Nat) (hne : A1 ≠ A2) (er : Er) (w : World) (z0 z1 z2 z3 z4 y0 y1 : Value) (hF : Five A1 z0 z1 z2 z3 z4 w) (hT : Two A2 y0 y1 w) :
    CallsD Tryd.prog 18 #[.pointer (some ⟨A1, 0, none⟩), .pointer (some ⟨A2, 0, none⟩)] (.panicking [{ v := oopsV er, recovered := false }]) w (CatchPost A1 A2 er w) := by
  have hta : ∀ (x : Value) (w : World), (Instr.typeAssert (.iface 50 x) 20 50 true).run Tryd.prog w = .ok (.tuple #[x, .bool true]) w := fun _ _ => by kernel_rfl
  refine callsD_of_wpS Tryd.func18 rfl fun c₀ cs hu => ?_
  obtain ⟨c0, c1, c2, c3, c4, cf⟩ := hF.cells
  obtain ⟨d0, d1, df⟩ := hT.cells
  have f0 := cf 0; have f1 := cf 1; have f2 := cf 2; have f3 := cf 3; have f4 := cf 4; clear cf
  have g0 := df 0; have g1 := df 1; clear df
  have HF := Lib.hid hF; have HT := Lib.hid hT
  have hl1 := hF.lt; have hl2 := hT.lt
  obtain ⟨e1, e2⟩ := er
  have HU := Lib.hid hu
  apply wpS_seq
  apply wpS_region
  simp [wpOpsS, go_sem, recoverD, hu, Tryd.ntmps18, Exit.thenS]
  clear hF hT hu
  unfold oopsV
  dsimp only
  show Code.wpS _ _ _ ⟨#[.pointer (some ⟨A1, 0, none⟩), .pointer (some ⟨A2, 0, none⟩), undef, undef, undef, .iface 50 (.agg #[.int .i64 e1, .int .i64 e2]), undef, undef, undef, undef, undef, undef, undef, undef], []⟩ _ _
  refine wpS_of_wp ?_
  go_wp2_with fail
  go_region
  all_goals go_wp2_with fail
  have F5 : Zero5 A1 (set5 w A1 (.int .i64 0) (.string ⟨#[]⟩) (.int .i64 0) (.string ⟨#[]⟩) (.slice none 0 0)) := HF.out.set5 _ _ _ _ _
  have T5 : Two A2 y0 y1 (set5 w A1 (.int .i64 0) (.string ⟨#[]⟩) (.int .i64 0) (.string ⟨#[]⟩) (.slice none 0 0)) := HT.out.kept ((Kept.refl (· = A1) w).set5 (.inl rfl) _ _ _ _ _) (fun h => hne h.symm)
  have K : Kept (fun k => k = A1 ∨ k = A2) w (set2 (set5 w A1 (.int .i64 0) (.string ⟨#[]⟩) (.int .i64 0) (.string ⟨#[]⟩) (.slice none 0 0)) A2 (.int .i64 e1) (.int .i64 e2)) :=
    ((Kept.refl _ w).set5 (.inl (.inl rfl)) _ _ _ _ _).set2 (.inl (.inr rfl)) _ _
  refine ⟨rfl, _, rfl, .tuple #[], by simp [results, Tryd.results18, go_sem], rfl, rfl, ?_, ?_, (K.alloc _).drew⟩
  · exact Five.kept (Five.kept F5 ((Kept.refl (· = A2) _).set2 (.inl rfl) (.int .i64 e1) (.int .i64 e2)) hne) ((Kept.refl Nix _).alloc _).drew (fun h => h)
  · exact (T5.set2 (.int .i64 e1) (.int .i64 e2)).kept ((Kept.refl Nix _).alloc _).drew (fun h => h)
set_option maxRecDepth 100000 in
set_option maxHeartbeats 1000000 in
theorem catch_idle (a b : Value) (w : World) :
    CallsD Tryd.prog 18 #[a, b] .returning w fun e u' w' => e = .returned (.tuple #[]) ∧ u' = .returning ∧ w = w' := by
  refine callsD_of_wpS Tryd.func18 rfl fun c₀ cs hu => ?_
  have HU := Lib.hid hu
  apply wpS_seq
  apply wpS_region
  simp [wpOpsS, go_sem, recoverD, hu, Tryd.ntmps18, Exit.thenS]
  clear hu
  show Code.wpS _ _ _ ⟨#[a, b, undef, undef, undef, .nilIface, undef, undef, undef, undef, undef, undef, undef, undef], []⟩ _ _
  refine wpS_of_wp ?_
  go_wp2_with fail
  refine ⟨rfl, .returning, ?_, .tuple #[], by simp [results, Tryd.results18, go_sem], rfl, rfl, rfl⟩
  have h := HU.out
  cases c₀; simp_all
end Go.Proofs.YtdnglicgmlldlaaDoor
