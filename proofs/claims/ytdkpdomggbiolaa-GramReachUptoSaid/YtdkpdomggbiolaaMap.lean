/- A map from texts to numbers that the call makes: as a function. -/
import Derived.Test.YtdkpdomggbiolaaBase
import Derived.Maps.Own
import Derived.Maps.OwnOps
import Derived.Maps.OwnSet
import Derived.Maps.Views
namespace Go.Proofs.Ytdkpdomggbiolaa
set_option linter.all false
open Go.RowKit Go.Maps Go.WideMaps

theorem mapLaw : Keyed Try.prog 9 := string_keyed Try.underlying9
theorem zeroInt (w : World) : (zeroValue 3).run Try.prog w = .ok (.int .i64 0) w := by kernel_rfl
/-- Block B is a map of at most n entries that has what m says. -/
def MapF (w : World) (B n : Nat) (m : ByteArray → Option Int) : Prop :=
  ∃ D : DataW Unit, w.ownsMap Try.prog 9 (plainElem Try.prog 3) B n D ∧ IsMap D ∧
    ∀ s : ByteArray, Maps.has D (.string s.data.toList) = (m s).isSome ∧ ∀ z, D.atKey (.string s.data.toList) z = match m s with | some c => .lit (.int .i64 c) | none => z
theorem MapF.made (w : World) : MapF (w.alloc (.map #[] 0)) w.heap.size 0 (fun _ => none) :=
  ⟨.map [], World.ownsMap_made w _ _ _, ⟨[], rfl⟩, fun s => ⟨rfl, fun z => rfl⟩⟩
theorem MapF.lt {w : World} {B n : Nat} {m : ByteArray → Option Int} (h : MapF w B n m) : B < w.heap.size := by
  obtain ⟨D, h, _⟩ := h; exact h.lt
theorem MapF.kept {w w' : World} {B n : Nat} {m : ByteArray → Option Int} {X : Nat → Prop} (h : MapF w B n m) (hk : Kept X w w') (hx : ¬ X B) : MapF w' B n m := by
  have hlt := h.lt
  obtain ⟨D, ⟨es, clock, hb, F, hs, hD⟩, h2⟩ := h
  exact ⟨D, ⟨es, clock, (hk.block B hlt hx).trans hb, F, hs, hD⟩, h2⟩
theorem bytes_ne {s t : ByteArray} (h : s ≠ t) : (Lit.string s.data.toList) ≠ .string t.data.toList := by
  intro e
  simp only [Lit.string.injEq] at e
  apply h
  obtain ⟨x⟩ := s; obtain ⟨y⟩ := t
  have : x = y := Array.toList_inj.1 e
  rw [this]
def putM (m : ByteArray → Option Int) (k : ByteArray) (c : Int) : ByteArray → Option Int := fun s => if s = k then some c else m s

theorem wpList_look_ok {w : World} {ops : Array Oper} {rest : List Oper} {o : Oper} {a : Act} {Q : Exit → Act → World → Prop} (hg : o.guard = none) (p x : Operand) (hop : o.op = Op.lookup 48 p x true)
    {B n : Nat} {m : ByteArray → Option Int} (hm : a.eval p = .map (some B)) (h : MapF w B n m) (s : ByteArray) (hx : a.eval x = .string s) (hs : s.size ≤ maxLen)
    (hK : wpList Try.prog ops Q rest (a.put o.dst (.tuple #[.int .i64 ((m s).getD 0), .bool (m s).isSome])) w) : wpList Try.prog ops Q (o :: rest) a w := by
  obtain ⟨D, hown, hmap, hD⟩ := h
  refine wpList_lookup_own_ok_int w hg p x _ hop 9 3 .i64 mapLaw Try.underlying48 Try.underlying3 (zeroInt w) B n D hm hown (.string s) _ hx (keyOf_string_mk Try.underlying9 hs) fun c hat _ => ?_
  obtain ⟨h1, h2⟩ := hD s
  rw [h2] at hat
  rw [h1]
  cases hms : m s with
  | none =>
    rw [hms] at hat hK
    simp only [DataW.lit.injEq, Lit.int.injEq, true_and] at hat
    subst hat
    exact hK
  | some d =>
    rw [hms] at hat hK
    simp only [DataW.lit.injEq, Lit.int.injEq, true_and] at hat
    subst hat
    exact hK
theorem wpList_look {w : World} {ops : Array Oper} {rest : List Oper} {o : Oper} {a : Act} {Q : Exit → Act → World → Prop} (hg : o.guard = none) (p x : Operand) (hop : o.op = Op.lookup 48 p x false)
    {B n : Nat} {m : ByteArray → Option Int} (hm : a.eval p = .map (some B)) (h : MapF w B n m) (s : ByteArray) (hx : a.eval x = .string s) (hs : s.size ≤ maxLen)
    (hK : wpList Try.prog ops Q rest (a.put o.dst (.int .i64 ((m s).getD 0))) w) : wpList Try.prog ops Q (o :: rest) a w := by
  obtain ⟨D, hown, hmap, hD⟩ := h
  refine wpList_lookup_own_int w hg p x _ hop 9 3 .i64 mapLaw Try.underlying48 Try.underlying3 (zeroInt w) B n D hm hown (.string s) _ hx (keyOf_string_mk Try.underlying9 hs) fun c hat _ => ?_
  obtain ⟨h1, h2⟩ := hD s
  rw [h2] at hat
  cases hms : m s with
  | none =>
    rw [hms] at hat hK
    simp only [DataW.lit.injEq, Lit.int.injEq, true_and] at hat
    subst hat
    exact hK
  | some d =>
    rw [hms] at hat hK
    simp only [DataW.lit.injEq, Lit.int.injEq, true_and] at hat
    subst hat
    exact hK
theorem wpList_mapput {w : World} {ops : Array Oper} {rest : List Oper} {o : Oper} {a : Act} {Q : Exit → Act → World → Prop} (hg : o.guard = none) (p x y : Operand) (hop : o.op = Op.mapUpdate 48 p x y)
    {B n : Nat} {m : ByteArray → Option Int} (hm : a.eval p = .map (some B)) (h : MapF w B n m) (hn : n < maxLen) (s : ByteArray) (hx : a.eval x = .string s) (hs : s.size ≤ maxLen) (c : Int) (hy : a.eval y = .int .i64 c) (hc : (Lit.int .i64 c).wf = true)
    (hK : ∀ w', MapF w' B (n + 1) (putM m s c) → Kept (· = B) w w' → wpList Try.prog ops Q rest (a.put o.dst undef) w') : wpList Try.prog ops Q (o :: rest) a w := by
  obtain ⟨D, hown, hmap, hD⟩ := h
  refine wpList_mapUpdate_own w hg p x y _ hop 9 3 mapLaw Try.underlying48 _ B n D hm hown hn (.string s) _ _ hx hy (keyOf_string_mk Try.underlying9 hs) (.lit (.int .i64 c)) [] (plainElem_int Try.underlying3 hc) fun w' hown' hgr => ?_
  refine hK w' ⟨_, hown', ?_, fun t => ?_⟩ ((Kept.refl (· = B) w).grown hgr fun k hk => .inl (by cases hk; rfl))
  · obtain ⟨es, rfl⟩ := hmap; exact ⟨_, rfl⟩
  · have hkl : WideAt.IsKeyLit (Lit.string s.data.toList) := by first | exact .string _ | trivial | (simp [WideAt.IsKeyLit])
    unfold putM
    by_cases ht : t = s
    · subst ht
      rw [if_pos rfl]
      exact ⟨has_put_same hmap hkl _, fun z => atKey_put_same hmap hkl _ z⟩
    · rw [if_neg ht]
      exact ⟨(has_put_other (bytes_ne ht) _).trans (hD t).1, fun z => (atKey_put_other (bytes_ne ht) _ z).trans ((hD t).2 z)⟩
theorem MapF.look {w : World} {B n : Nat} {m : ByteArray → Option Int} (h : MapF w B n m) (s : ByteArray) (hs : s.size ≤ maxLen) :
    (Instr.lookup 48 (.map (some B)) (.string s) false).run Try.prog w = .ok (.int .i64 ((m s).getD 0)) w := by
  obtain ⟨D, hown, hmap, hD⟩ := h
  obtain ⟨c, hrun, hat, _⟩ := hown.lookup_int mapLaw Try.underlying48 Try.underlying3 (zeroInt w) (keyOf_string_mk Try.underlying9 hs)
  obtain ⟨h1, h2⟩ := hD s
  rw [h2] at hat
  rw [hrun]
  cases hms : m s with
  | none => rw [hms] at hat; simp only [DataW.lit.injEq, Lit.int.injEq, true_and] at hat; subst hat; rfl
  | some d => rw [hms] at hat; simp only [DataW.lit.injEq, Lit.int.injEq, true_and] at hat; subst hat; rfl
end Go.Proofs.Ytdkpdomggbiolaa
