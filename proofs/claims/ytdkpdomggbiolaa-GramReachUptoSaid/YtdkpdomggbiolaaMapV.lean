/- A map from texts to lists of texts that the call makes: as a function. -/
import Derived.Test.YtdkpdomggbiolaaMap
namespace Go.Proofs.Ytdkpdomggbiolaa
set_option linter.all false
open Go.RowKit Go.Maps Go.WideMaps

theorem zeroStrs (w : World) : (zeroValue 26).run Try.prog w = .ok (.slice none 0 0) w := by kernel_rfl
/-- An element as it stands. -/
def rawElem (v : Value) : Option (DataW Value × List MemPlace) := some (.held v, [])
/-- Block B is a map of at most n entries that has what m says. -/
def MapV (w : World) (B n : Nat) (m : ByteArray → Option Value) : Prop :=
  ∃ D : DataW Value, w.ownsMap Try.prog 9 rawElem B n D ∧ IsMap D ∧
    ∀ s : ByteArray, ∀ z, D.atKey (.string s.data.toList) z = match m s with | some c => .held c | none => z
theorem MapV.made (w : World) : MapV (w.alloc (.map #[] 0)) w.heap.size 0 (fun _ => none) :=
  ⟨.map [], World.ownsMap_made w _ _ _, ⟨[], rfl⟩, fun s z => rfl⟩
theorem MapV.lt {w : World} {B n : Nat} {m : ByteArray → Option Value} (h : MapV w B n m) : B < w.heap.size := by
  obtain ⟨D, h, _⟩ := h; exact h.lt
theorem MapV.kept {w w' : World} {B n : Nat} {m : ByteArray → Option Value} {X : Nat → Prop} (h : MapV w B n m) (hk : Kept X w w') (hx : ¬ X B) : MapV w' B n m := by
  have hlt := h.lt
  obtain ⟨D, ⟨es, clock, hb, F, hs, hD⟩, h2⟩ := h
  exact ⟨D, ⟨es, clock, (hk.block B hlt hx).trans hb, F, hs, hD⟩, h2⟩
def putV (m : ByteArray → Option Value) (k : ByteArray) (c : Value) : ByteArray → Option Value := fun s => if s = k then some c else m s
theorem MapV.look {w : World} {B n : Nat} {m : ByteArray → Option Value} (h : MapV w B n m) (s : ByteArray) (hs : s.size ≤ maxLen) :
    (Instr.lookup 51 (.map (some B)) (.string s) false).run Try.prog w = .ok ((m s).getD (.slice none 0 0)) w := by
  obtain ⟨D, hown, hmap, hD⟩ := h
  obtain ⟨v, ps, hrun, hv⟩ := hown.lookup mapLaw Try.underlying51 (zeroStrs w) (zd := .held (.slice none 0 0)) (zp := []) rfl (keyOf_string_mk Try.underlying9 hs)
  rw [hD] at hv
  rw [hrun]
  unfold rawElem at hv
  cases hms : m s with
  | none => rw [hms] at hv; simp only [Option.some.injEq, Prod.mk.injEq, DataW.held.injEq] at hv; obtain ⟨rfl, _⟩ := hv; rfl
  | some d => rw [hms] at hv; simp only [Option.some.injEq, Prod.mk.injEq, DataW.held.injEq] at hv; obtain ⟨rfl, _⟩ := hv; rfl
theorem MapV.update {w : World} {B n : Nat} {m : ByteArray → Option Value} (h : MapV w B n m) (hn : n < maxLen) (s : ByteArray) (hs : s.size ≤ maxLen) (c : Value) :
    ∃ w', (Instr.mapUpdate 51 (.map (some B)) (.string s) c).run Try.prog w = .ok () w' ∧ MapV w' B (n + 1) (putV m s c) ∧ Kept (· = B) w w' := by
  obtain ⟨D, hown, hmap, hD⟩ := h
  obtain ⟨w', hrun, hown', hgr⟩ := hown.update mapLaw Try.underlying51 hn (val := c) (d := .held c) (ps := []) (keyOf_string_mk Try.underlying9 hs) rfl
  refine ⟨w', hrun, ⟨_, hown', ?_, fun t => ?_⟩, (Kept.refl (· = B) w).grown hgr fun k hk => .inl (by cases hk; rfl)⟩
  · obtain ⟨es, rfl⟩ := hmap; exact ⟨_, rfl⟩
  · have hkl : WideAt.IsKeyLit (Lit.string s.data.toList) := by first | exact .string _ | trivial | (simp [WideAt.IsKeyLit])
    unfold putV
    by_cases ht : t = s
    · subst ht
      rw [if_pos rfl]
      exact fun z => atKey_put_same hmap hkl _ z
    · rw [if_neg ht]
      exact fun z => (atKey_put_other (bytes_ne ht) _ z).trans (hD t z)
theorem wpList_vput {w : World} {ops : Array Oper} {rest : List Oper} {o : Oper} {a : Act} {Q : Exit → Act → World → Prop} (hg : o.guard = none) (p x y : Operand) (hop : o.op = Op.mapUpdate 51 p x y)
    {B n : Nat} {m : ByteArray → Option Value} (hm : a.eval p = .map (some B)) (h : MapV w B n m) (hn : n < maxLen) (s : ByteArray) (hx : a.eval x = .string s) (hs : s.size ≤ maxLen) (c : Value) (hy : a.eval y = c)
    (hK : ∀ w', MapV w' B (n + 1) (putV m s c) → Kept (· = B) w w' → wpList Try.prog ops Q rest (a.put o.dst undef) w') : wpList Try.prog ops Q (o :: rest) a w := by
  obtain ⟨w', hrun, hv, hk⟩ := h.update hn s hs c
  refine wpList_plain hg fun K' hK' => ?_
  unfold Oper.wp
  simp [execOp, hop, hm, hx, hy, hrun, Result.andThen]
  exact hK' _ _ (hK w' hv hk)
end Go.Proofs.Ytdkpdomggbiolaa
