/- The document's Exprs: a statement's expressions. -/
import Derived.Test.YtkhhinmhgjicgaaLb
import Derived.Test.YtkhhinmhgjicgaaExAll
namespace Go.Proofs.Ytkhhinmhgjicgaa
set_option linter.all false
open Go.RowKit

/-- A statement's expressions, in the order in which they are worked out. -/
def exprsS (s : StT) : List PatT := if s.kind = 2 ∨ s.kind = 4 then [s.value] else if s.kind = 3 ∨ s.kind = 5 then [s.target, s.value] else []
def ExprsPost (s : StT) (S : Nat → Prop) (w : World) (e : Ending) (w' : World) : Prop :=
  ∃ a c, e = .returned (.slice a (exprsS s).length c) ∧ PatsAt w' (fun b => S b ∨ (w.heap.size ≤ b ∧ b < w'.heap.size)) a (exprsS s) ∧ Kept Nix w w'
theorem patAt_row {w : World} {S' : Nat → Prop} {g o : Nat} {p : PatT} {ka : Option Addr} {kc : Nat} (hg : S' g) (hz : p.text.size < 1000000000 ∧ p.name.size < 1000000000 ∧ p.kids.length < 1000000000)
    (h0 : w.cell? ⟨g, o, none⟩ = some (.int .i64 p.kind)) (h1 : w.cell? ⟨g, o + 1, none⟩ = some (.string p.text)) (h2 : w.cell? ⟨g, o + 2, none⟩ = some (.int .i64 p.n)) (h3 : w.cell? ⟨g, o + 3, none⟩ = some (.string p.name))
    (h4 : w.cell? ⟨g, o + 4, none⟩ = some (.slice ka p.kids.length kc)) (hk : PatsAt w S' ka p.kids) : PatAt w S' g o p := by
  obtain ⟨k, t, n, nm, kids⟩ := p
  unfold PatAt
  exact ⟨hg, hz, h0, h1, h2, h3, ka, kc, h4, hk⟩

set_option maxRecDepth 100000 in
set_option maxHeartbeats 2000000 in
theorem exprs_any (s : StT) (v : Value) (S : Nat → Prop) (w : World) (hs : StV w S v s) (hS : Safe S Nix w.heap.size) : Calls Try.prog 20 #[v] w (ExprsPost s S w) := by
  obtain ⟨a, rfl, hz, ho⟩ := hs
  unfold stVal
  have B1 := StB.new w a s
  have k1 : Kept Nix w _ := (Kept.refl Nix w).alloc (.cells (stCells a s).toArray 41)
  unfold stCells at k1
  generalize hw1 : World.alloc w _ = w1 at B1 k1
  have HB1 := Lib.hid B1; have HK1 := Lib.hid k1; have HW1 := Lib.hid hw1
  obtain ⟨c0, c1, c2, c3, c4, c5, c6, c7, c8, c9, c10, c11, c12, c13, c14, c15, c16, c17, c18, c19, c20, c21, c22, c23⟩ := B1.cells
  have HZ := Lib.hid hz
  have HO := Lib.hid (ho.to k1 hS (fun _ h => h)); have HS := Lib.hid (hS.mono k1.size)
  have hsz1 := k1.size
  clear B1 k1 hw1 hz ho hS
  by_cases h24 : s.kind = 2 ∨ s.kind = 4
  · have he : exprsS s = [s.value] := if_pos h24
    have HE := Lib.hid he
    have z : ((s.kind == 2) = true) ∨ ((s.kind == 2) = false ∧ (s.kind == 4) = true) := by
      rcases h24 with h | h
      · exact .inl (by rw [h]; rfl)
      · exact .inr ⟨by rw [h]; rfl, by rw [h]; rfl⟩
    have K2 : Hid (Kept Nix w (w1.alloc (.cells #[.int .i64 s.value.kind, .string s.value.text, .int .i64 s.value.n, .string s.value.name, .slice a.va s.value.kids.length a.vc] 35))) := HK1.out.alloc _
    have P2 : Hid (PatsAt (w1.alloc (.cells #[.int .i64 s.value.kind, .string s.value.text, .int .i64 s.value.n, .string s.value.name, .slice a.va s.value.kids.length a.vc] 35)) (fun b => S b ∨ (w.heap.size ≤ b ∧ b < w1.heap.size + 1)) (some ⟨w1.heap.size, 0, none⟩) [s.value]) := by
      unfold Hid PatsAt
      refine ⟨_, _, rfl, patAt_row (ka := a.va) (kc := a.vc) (.inr ⟨hsz1, by omega⟩) HZ.out.value.z (by simp) (by simp) (by simp) (by simp) (by simp) (HO.out.value.to ((Kept.refl Nix w1).alloc _) HS.out (fun _ h => .inl h)), by unfold PatsAt; trivial⟩
    clear he h24
    rcases z with z1 | ⟨z1, z2⟩
    all_goals
      go_enter Try.func20, Try.ntmps20
      go_upto_region 1 with fail
      rw [HW1.out]
      go_wp2_with fail
      go_ret
      exact ⟨some ⟨w1.heap.size, 0, none⟩, 1, by rw [HE.out]; rfl, by rw [HE.out]; simpa using P2.out, K2.out⟩
  by_cases h35 : s.kind = 3 ∨ s.kind = 5
  · have he : exprsS s = [s.target, s.value] := by unfold exprsS; rw [if_neg h24, if_pos h35]
    have HE := Lib.hid he
    have z1 : (s.kind == 2) = false := by simp; omega
    have z2 : (s.kind == 4) = false := by simp; omega
    have z : ((s.kind == 3) = true) ∨ ((s.kind == 3) = false ∧ (s.kind == 5) = true) := by
      rcases h35 with h | h
      · exact .inl (by rw [h]; rfl)
      · exact .inr ⟨by rw [h]; rfl, by rw [h]; rfl⟩
    have K2 : Hid (Kept Nix w (w1.alloc (.cells #[.int .i64 s.target.kind, .string s.target.text, .int .i64 s.target.n, .string s.target.name, .slice a.ta s.target.kids.length a.tc, .int .i64 s.value.kind, .string s.value.text, .int .i64 s.value.n, .string s.value.name, .slice a.va s.value.kids.length a.vc] 35))) := HK1.out.alloc _
    have P2 : Hid (PatsAt (w1.alloc (.cells #[.int .i64 s.target.kind, .string s.target.text, .int .i64 s.target.n, .string s.target.name, .slice a.ta s.target.kids.length a.tc, .int .i64 s.value.kind, .string s.value.text, .int .i64 s.value.n, .string s.value.name, .slice a.va s.value.kids.length a.vc] 35)) (fun b => S b ∨ (w.heap.size ≤ b ∧ b < w1.heap.size + 1)) (some ⟨w1.heap.size, 0, none⟩) [s.target, s.value]) := by
      unfold Hid PatsAt PatsAt
      refine ⟨_, _, rfl, patAt_row (ka := a.ta) (kc := a.tc) (.inr ⟨hsz1, by omega⟩) HZ.out.target.z (by simp) (by simp) (by simp) (by simp) (by simp) (HO.out.target.to ((Kept.refl Nix w1).alloc _) HS.out (fun _ h => .inl h)),
        _, _, rfl, patAt_row (ka := a.va) (kc := a.vc) (.inr ⟨hsz1, by omega⟩) HZ.out.value.z (by simp) (by simp) (by simp) (by simp) (by simp) (HO.out.value.to ((Kept.refl Nix w1).alloc _) HS.out (fun _ h => .inl h)), by unfold PatsAt; trivial⟩
    clear he h24 h35
    rcases z with z3 | ⟨z3, z4⟩
    all_goals
      go_enter Try.func20, Try.ntmps20
      go_upto_region 1 with fail
      rw [HW1.out]
      go_wp2_with fail
      go_ret
      exact ⟨some ⟨w1.heap.size, 0, none⟩, 2, by rw [HE.out]; rfl, by rw [HE.out]; simpa using P2.out, K2.out⟩
  · have he : exprsS s = [] := by unfold exprsS; rw [if_neg h24, if_neg h35]
    have HE := Lib.hid he
    have z1 : (s.kind == 2) = false := by simp; omega
    have z2 : (s.kind == 4) = false := by simp; omega
    have z3 : (s.kind == 3) = false := by simp; omega
    have z4 : (s.kind == 5) = false := by simp; omega
    clear he h24 h35
    go_enter Try.func20, Try.ntmps20
    go_upto_region 1 with fail
    rw [HW1.out]
    go_wp2_with fail
    go_ret
    exact ⟨none, 0, by rw [HE.out]; rfl, by rw [HE.out]; unfold PatsAt; trivial, HK1.out⟩
end Go.Proofs.Ytkhhinmhgjicgaa
