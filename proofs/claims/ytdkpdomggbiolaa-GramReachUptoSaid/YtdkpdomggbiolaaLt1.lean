/- gram.Left: a rule's copy; slices.Clone; slices.SortFunc by strings.Compare; what is stored by name. -/
import Derived.Test.YtdkpdomggbiolaaLt0
import Derived.Test.YtdkpdomggbiolaaMapV
import Derived.Test.YtdkpdomggbiolaaRul2
namespace Go.Proofs.Ytdkpdomggbiolaa
set_option linter.all false
open Go.RowKit Go.Sort Go.Shelf

theorem ru_pat {w w6 : World} {S : Nat → Prop} {b o : Nat} {r : RuleT} {ka : Option Addr} {cap : Nat} (h : RuleAt w S b o r) (hks : PatsAt w S ka r.pat.kids) (hS : Safe S Nix w.heap.size) (hb : RuB w.heap.size r ka cap w6) (hk : Kept Nix w w6) :
    PatAt w6 (fun x => S x ∨ x = w.heap.size) w.heap.size 1 r.pat := by
  obtain ⟨x0, x1, x2, x3, x4, x5⟩ := hb.cells
  have h1 := hks.to hk hS (fun b hb => (.inl hb : S b ∨ b = w.heap.size))
  have hz := h.2.2.2.2.open.2.1
  obtain ⟨nm, ⟨k, t, n, pn, kids⟩⟩ := r
  unfold PatAt
  exact ⟨.inr rfl, hz, x1, x2, x3, x4, ka, cap, x5, h1⟩
theorem ru_safe {w w6 : World} {S X : Nat → Prop} {r : RuleT} {ka : Option Addr} {cap : Nat} (hS : Safe S Nix w.heap.size) (hX : ∀ b, b < w6.heap.size → ¬ X b) (hk : Kept Nix w w6) (hb : RuB w.heap.size r ka cap w6) :
    Safe (fun x => S x ∨ x = w.heap.size) X w6.heap.size := by
  intro b h
  have hlt : b < w6.heap.size := by
    rcases h with h | rfl
    · exact Nat.lt_of_lt_of_le (hS b h).1 hk.size
    · exact hb.lt
  exact ⟨hlt, hX b hlt⟩

def CloneQ (L : List ByteArray) (w : World) (e : Ending) (w' : World) : Prop := ∃ v', e = .returned v' ∧ OwnS w' w.heap.size v' L ∧ Kept Nix w w'
theorem clone_any {B : Nat} {v : Value} {L : List ByteArray} (w : World) (h : OwnS w B v L) (hl : L.length ≤ 400000000) : Calls Try.prog 23 #[v] w (CloneQ L w) := by
  by_cases h0 : 0 < L.length
  · obtain ⟨g, c, rfl, _, _, hc⟩ := h.cells h0
    refine (Try.slices_Clone_string g 0 L.length c L w (Nat.le_refl _) (by omega) (fun j hj => by rw [hc j hj, List.getD_eq_getElem?_getD, List.getElem?_eq_getElem hj]; rfl)).mono ?_
    rintro e w' ⟨v', rfl, ho, _, hb⟩
    rw [List.take_length] at ho
    exact ⟨v', rfl, ho, ⟨hb.os, hb.tape, hb.output, hb.size, fun k hk _ => hb.block k hk⟩⟩
  · obtain rfl : L = [] := List.eq_nil_of_length_eq_zero (by omega)
    rcases h.2 with ⟨rfl, _⟩ | ⟨g, cap, cur, rfl, _⟩
    · refine (Try.slices_Clone_string_nil 0 0 w).mono ?_
      rintro e w' ⟨rfl, rfl⟩
      exact ⟨_, rfl, OwnS.nil _ _, Kept.refl _ _⟩
    · refine (Try.slices_Clone_string g 0 0 cap [] w (Nat.le_refl _) (by omega) (fun j hj => absurd hj (by simp))).mono ?_
      rintro e w' ⟨v', rfl, ho, _, hb⟩
      exact ⟨v', rfl, ho, ⟨hb.os, hb.tape, hb.output, hb.size, fun k hk _ => hb.block k hk⟩⟩

theorem to_put {m : ByteArray → Bool} {l : List RuleT} {j TB : Nat} {r : RuleT} {mV : ByteArray → Option Value} {v8 : Value} {w6 w8 w9 : World} (HT : ∀ x, toL m (l.take (j + 1)) x = if x = r.name then beginsF m r.pat [] else toL m (l.take j) x)
    (hO : ∀ x, OwnS w6 (TB + 1) ((mV x).getD (.slice none 0 0)) (toL m (l.take j) x)) (h8 : OwnS w8 w6.heap.size v8 (beginsF m r.pat [])) (hTB : TB < w6.heap.size) (k8 : Kept (fun b => w6.heap.size ≤ b) w6 w8) (k9 : Kept (· = TB) w8 w9) :
    ∀ x, OwnS w9 (TB + 1) ((putV mV r.name v8 x).getD (.slice none 0 0)) (toL m (l.take (j + 1)) x) := by
  intro x
  rw [HT x]
  unfold putV
  by_cases hx : x = r.name
  · rw [if_pos hx, if_pos hx]
    exact (h8.base hTB).kept k9 fun k hk e => by have := (World.ownsRow.lt h8 k hk).1; omega
  · rw [if_neg hx, if_neg hx]
    have h1 := (hO x).kept k8 fun k hk e => by have := (World.ownsRow.lt (hO x) k hk).2; omega
    exact h1.kept k9 fun k hk e => by have := (World.ownsRow.lt h1 k hk).1; omega

/-- strings.Compare's order. -/
def cmpS (x y : List UInt8) : Int := Lib.compareBytes x y
theorem cmpS_lt (x y : List UInt8) : ltOf cmpS x y = decide (x < y) := by
  unfold ltOf cmpS
  exact decide_eq_decide.2 cmpB_lt
theorem cmpS_order : SWO (ltOf cmpS) where
  irrefl x := by rw [cmpS_lt]; exact decide_eq_false (lt_irr x)
  trans x y z h k := by rw [cmpS_lt, decide_eq_true_eq] at *; exact lt_tr h k
  ntrans x y z h k := by
    rw [cmpS_lt, decide_eq_false_iff_not] at *
    intro hz
    by_cases hyx : y < x
    · exact k (lt_tr hyx hz)
    · exact k (lt_tot h hyx ▸ hz)
end Go.Proofs.Ytdkpdomggbiolaa
