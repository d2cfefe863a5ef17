/- What the law of PatsTurn asks first: its walk. -/
import Derived.Test.YtdnglicgmlldlaaDoorTurn8
import Derived.Test.YtdnglicgmlldlaaDoorRef4a
namespace Go.Proofs.YtdnglicgmlldlaaDoor
open Go.RowKit

/-- What Read answers, laid open. -/
theorem read_to {s : ByteArray} {w w' : World} {e : Ending} {p : PatT} {er : Er} (h : ReadPost s w e w') (hq : readQ s = (p, er)) :
    Kept Nix w w' ∧ ∃ (S : Nat → Prop) (ka : Option Addr) (cap : Nat), (∀ b, S b → w.heap.size ≤ b ∧ b < w'.heap.size) ∧
      e = .returned (.tuple #[.agg #[.int .i64 p.kind, .string p.text, .int .i64 p.n, .string p.name, .slice ka p.kids.length cap], .agg #[.int .i64 er.1, .int .i64 er.2]]) ∧
      (p.text.size < 1000000000 ∧ p.name.size < 1000000000 ∧ p.kids.length < 1000000000) ∧ PatsAt w' S ka p.kids := by
  obtain ⟨k, v, he, S, hS, ka, cap, hv, hz, hk⟩ := read_v h
  rw [hq] at he hv hz hk
  subst hv
  exact ⟨k, S, ka, cap, hS, he, hz, hk⟩

set_option maxRecDepth 100000 in
set_option maxHeartbeats 2000000 in
theorem alive_any (w : World) : Calls Tryd.prog 7 #[] w (BoolQ true w) := by
  go_enter Tryd.func7, Tryd.ntmps7
  go_wp2_with fail
  refine (read_any ⟨#[39, 97, 39, 32, 124, 32, 76, 69, 78, 40, 50, 41, 32, 46, 32, 88]⟩ w (by unfold maxLen; decide)).mono ?_
  intro e w1 h
  obtain ⟨K1, S1, ka, cap, hS1, rfl, hz, hk⟩ := read_to h alive_q
  clear h
  have e1 : aliveT.kind = 19 := rfl
  have e2 : aliveT.text = ⟨#[]⟩ := rfl
  have e3 : aliveT.n = 0 := rfl
  have e4 : aliveT.name = ⟨#[]⟩ := rfl
  have e5 : aliveT.kids = [.mk 1 ⟨#[97]⟩ 0 E0 [], .mk 21 E0 0 ⟨#[88]⟩ [.mk 2 E0 2 E0 []]] := rfl
  rw [e5] at hk hz
  rw [e1, e2, e3, e4, e5]
  dsimp only [List.length_cons, List.length_nil, Nat.reduceAdd]
  clear e1 e2 e3 e4 e5 hz
  obtain ⟨b, o, rfl⟩ := PatsAt_head hk (by decide)
  obtain ⟨w2, hw2⟩ : ∃ w2, w2 = ((w1.alloc (.cells #[.int .i64 19, .string ⟨#[]⟩, .int .i64 0, .string ⟨#[]⟩, .slice (some ⟨b, o, none⟩) 2 cap] 24)).alloc (.cells #[.int .i64 0, .int .i64 0] 31)) := ⟨_, rfl⟩
  have kA : Kept Nix w1 w2 := by rw [hw2]; exact ((Kept.refl Nix _).alloc _).alloc _
  have F2 : Five w1.heap.size (.int .i64 19) (.string ⟨#[]⟩) (.int .i64 0) (.string ⟨#[]⟩) (.slice (some ⟨b, o, none⟩) 2 cap) w2 := by rw [hw2]; exact Five.kept (heap_alloc_new w1 _) ((Kept.refl Nix _).alloc _) (fun h => h)
  have T2 : Two (w1.heap.size + 1) (.int .i64 0) (.int .i64 0) w2 := by rw [hw2]; exact heap_new2 (by simp)
  obtain ⟨_, _, p0, p1, p2, p3, ka1, cap1, p4, hk1⟩ := (PatsAt_get _ b o 1 (by decide) (hk.kept kA (fun b hb => ⟨(hS1 b hb).2, fun h => h⟩))).open
  have p3' : w2.cell? ⟨b, o + 5 + 3, none⟩ = some (.string ⟨#[88]⟩) := p3
  have p3'' : w2.cell? ⟨b, o + 8, none⟩ = some (.string ⟨#[88]⟩) := p3
  obtain ⟨c0, c1, c2, c3, c4, _⟩ := F2.cells
  obtain ⟨d0, d1, _⟩ := T2.cells
  have KK := Lib.hid (K1.trans kA)
  have HW2 := Lib.hid hw2
  clear hw2 kA F2 T2 hk K1 hS1 p0 p1 p2 p4 hk1
  go_upto_region 2 with fail
  rw [← HW2.out]
  go_wp2_with fail
  go_ret
  exact ⟨rfl, KK.out⟩
end Go.Proofs.YtdnglicgmlldlaaDoor
