/- Rules in memory. -/
import Derived.Test.YtdkpdomggbiolaaGm0
import Derived.Test.YtdkpdomggbiolaaRef4c
namespace Go.Proofs.Ytdkpdomggbiolaa
set_option linter.all false
open Go.RowKit

/-- A rule lies in six cells from o on. -/
def RuleAt (w : World) (S : Nat → Prop) (b o : Nat) (r : RuleT) : Prop :=
  S b ∧ r.name.size < 1000000000 ∧ sizeT r.pat ≤ 1048576 ∧ w.cell? ⟨b, o, none⟩ = some (.string r.name) ∧ PatAt w S b (o + 1) r.pat
theorem RuleAt.to {w w' : World} {S S' : Nat → Prop} {X : Nat → Prop} {b o : Nat} {r : RuleT} (h : RuleAt w S b o r) (hk : Kept X w w') (hs : Safe S X w.heap.size) (h' : ∀ b, S b → S' b) : RuleAt w' S' b o r := by
  obtain ⟨h1, h2, h3, h4, h5⟩ := h
  exact ⟨h' b h1, h2, h3, (hk.cell (hs b h1).1 (hs b h1).2).trans h4, h5.to hk hs h'⟩
def RulesAt (w : World) (S : Nat → Prop) (a : Option Addr) (l : List RuleT) : Prop := 0 < l.length → ∃ b o, a = some ⟨b, o, none⟩ ∧ ∀ i (h : i < l.length), RuleAt w S b (o + i * 6) l[i]
theorem RulesAt.to {w w' : World} {S S' : Nat → Prop} {X : Nat → Prop} {a : Option Addr} {l : List RuleT} (h : RulesAt w S a l) (hk : Kept X w w') (hs : Safe S X w.heap.size) (h' : ∀ b, S b → S' b) : RulesAt w' S' a l := by
  intro h0
  obtain ⟨b, o, rfl, hc⟩ := h h0
  exact ⟨b, o, rfl, fun i hi => (hc i hi).to hk hs h'⟩
theorem RulesAt.take {w : World} {S : Nat → Prop} {a : Option Addr} {l : List RuleT} (h : RulesAt w S a l) (k : Nat) (hk : k ≤ l.length) : RulesAt w S a (l.take k) := by
  intro h0
  obtain ⟨b, o, e, hc⟩ := h (by simp at h0; omega)
  exact ⟨b, o, e, fun i hi => by rw [List.getElem_take]; exact hc i (by simp at hi; omega)⟩
/-- The cells of a rule, as a value. -/
theorem RuleAt.cells {w : World} {S : Nat → Prop} {b o : Nat} {r : RuleT} (h : RuleAt w S b o r) : w.cell? ⟨b, o, none⟩ = some (.string r.name) ∧ w.cell? ⟨b, o + 1, none⟩ = some (.int .i64 r.pat.kind) ∧ w.cell? ⟨b, o + 2, none⟩ = some (.string r.pat.text) ∧
    w.cell? ⟨b, o + 3, none⟩ = some (.int .i64 r.pat.n) ∧ w.cell? ⟨b, o + 4, none⟩ = some (.string r.pat.name) ∧ ∃ ka cap, w.cell? ⟨b, o + 5, none⟩ = some (.slice ka r.pat.kids.length cap) ∧ PatsAt w S ka r.pat.kids := by
  obtain ⟨_, _, _, h4, h5⟩ := h
  obtain ⟨_, _, p0, p1, p2, p3, ka, cap, p4, hk⟩ := h5.open
  exact ⟨h4, p0, p1, p2, p3, ka, cap, p4, hk⟩
end Go.Proofs.Ytdkpdomggbiolaa
