/- Left recursion: paths of what begins with what; Warshall's rounds (plain). -/
import Derived.Test.YtdkpdomggbiolaaGm0
namespace Go.Proofs.Ytdkpdomggbiolaa
set_option linter.all false
open Go.RowKit

section
variable {α : Type} {E : α → α → Prop}
theorem pth_closed {seen : List α} {a : α} (h0 : ∀ b, E a b → b ∈ seen) (hc : ∀ b ∈ seen, ∀ c, E b c → c ∈ seen) (hs : ∀ b ∈ seen, Pth E a b) (b : α) : b ∈ seen ↔ Pth E a b := by
  refine ⟨hs b, fun h => ?_⟩
  induction h with
  | one b e => exact h0 b e
  | more b c _ e ih => exact hc b ih c e
end
/-- Rule a's pattern may begin with b. -/
def BegE (m : ByteArray → Bool) (l : List RuleT) (a b : ByteArray) : Prop := ∃ r ∈ l, r.name = a ∧ begM m b r.pat = true
def BegI (m : ByteArray → Bool) (l : List RuleT) (i j : Nat) : Prop := ∃ (hi : i < l.length) (hj : j < l.length), begM m l[j].name l[i].pat = true
theorem begI_E {m : ByteArray → Bool} {l : List RuleT} (hn : (l.map RuleT.name).Nodup) (i : Nat) (hi : i < l.length) (k : Nat) (hk : k < l.length) : Pth (BegI m l) i k ↔ Pth (BegE m l) l[i].name l[k].name := by
  constructor
  · intro h
    have key : ∀ b, Pth (BegI m l) i b → ∀ (hb : b < l.length), Pth (BegE m l) l[i].name l[b].name := by
      intro b h
      induction h with
      | one b e => intro hb; obtain ⟨_, _, e⟩ := e; exact .one _ ⟨l[i], List.getElem_mem hi, rfl, e⟩
      | more b c _ e ih =>
        intro hc
        obtain ⟨hb, _, e⟩ := e
        exact .more _ _ (ih hb) ⟨l[b], List.getElem_mem hb, rfl, e⟩
    exact key k h hk
  · intro h
    have key : ∀ c, Pth (BegE m l) l[i].name c → ∀ (k : Nat) (hk : k < l.length), l[k].name = c → Pth (BegI m l) i k := by
      intro c h
      induction h with
      | one c e =>
        rintro k hk rfl
        obtain ⟨r, hr, he, hb⟩ := e
        obtain rfl := name_unique hn hr (List.getElem_mem hi) he
        exact .one _ ⟨hi, hk, hb⟩
      | more b c _ e ih =>
        rintro k hk rfl
        obtain ⟨r, hr, he, hb⟩ := e
        obtain ⟨j, hj, rfl⟩ := List.mem_iff_getElem.1 hr
        exact .more _ _ (ih j hj he) ⟨hj, hk, hb⟩
    exact key _ h k hk rfl
/-- Which names come to themselves. -/
def LeftIs (m : ByteArray → Bool) (l : List RuleT) (n : ByteArray) : Prop := ∃ r ∈ l, r.name = n ∧ Pth (BegE m l) n n

/-- Warshall: after the rounds of the places below k. -/
structure War (E : Nat → Nat → Prop) (n k : Nat) (T : Nat → Nat → Bool) : Prop where
  sound : ∀ i j, T i j = true → Pth E i j
  comp : ∀ i j, i < n → j < n → PthK E k i j → T i j = true
structure WarIn (E : Nat → Nat → Prop) (n k : Nat) (T0 T : Nat → Nat → Bool) (i j : Nat) : Prop where
  sound : ∀ a b, T a b = true → Pth E a b
  mono : ∀ a b, T0 a b = true → T a b = true
  done : ∀ a b, a < n → b < n → (a < i ∨ (a = i ∧ b < j)) → T0 a k = true → T0 k b = true → T a b = true
def setT (T : Nat → Nat → Bool) (i j : Nat) (v : Bool) : Nat → Nat → Bool := fun a b => if a = i ∧ b = j then v else T a b
section
variable {E : Nat → Nat → Prop} {n k i j : Nat} {T0 T : Nat → Nat → Bool}
theorem War.start {T : Nat → Nat → Bool} (h : ∀ i j, i < n → j < n → (T i j = true ↔ E i j)) (ho : ∀ i j, ¬ (i < n ∧ j < n) → T i j = false) : War E n 0 T := by
  refine ⟨fun i j ht => ?_, fun i j hi hj hp => ?_⟩
  · by_cases hb : i < n ∧ j < n
    · exact .one _ ((h i j hb.1 hb.2).1 ht)
    · rw [ho i j hb] at ht; cases ht
  · cases hp with
    | one _ e => exact (h i j hi hj).2 e
    | more b _ _ hb _ => omega
theorem War.inside (h : War E n k T) : WarIn E n k T T 0 0 := ⟨h.sound, fun _ _ h => h, fun a b _ _ hab => by omega⟩
theorem WarIn.step (h : WarIn E n k T0 T i j) : WarIn E n k T0 (setT T i j (T i j || (T i k && T k j))) i (j + 1) := by
  refine ⟨fun a b hab => ?_, fun a b hab => ?_, fun a b ha hb hd h1 h2 => ?_⟩
  · unfold setT at hab
    split at hab
    · rename_i e
      obtain ⟨rfl, rfl⟩ := e
      rw [Bool.or_eq_true, Bool.and_eq_true] at hab
      rcases hab with h1 | ⟨h1, h2⟩
      · exact h.sound _ _ h1
      · exact (h.sound _ _ h1).join (h.sound _ _ h2)
    · exact h.sound a b hab
  · unfold setT
    split
    · rename_i e
      obtain ⟨rfl, rfl⟩ := e
      rw [Bool.or_eq_true]; exact .inl (h.mono _ _ hab)
    · exact h.mono a b hab
  · unfold setT
    split
    · rename_i e
      obtain ⟨rfl, rfl⟩ := e
      rw [Bool.or_eq_true, Bool.and_eq_true]
      exact .inr ⟨h.mono _ _ h1, h.mono _ _ h2⟩
    · rename_i e
      refine h.done a b ha hb ?_ h1 h2
      rcases hd with hd | ⟨rfl, hd⟩
      · exact .inl hd
      · exact .inr ⟨rfl, by
          rcases Nat.lt_or_ge b j with h3 | h3
          · exact h3
          · exact absurd ⟨rfl, by omega⟩ e⟩
theorem WarIn.row (h : WarIn E n k T0 T i n) : WarIn E n k T0 T (i + 1) 0 :=
  ⟨h.sound, h.mono, fun a b ha hb hd => h.done a b ha hb (by omega)⟩
theorem WarIn.end_ (h0 : War E n k T0) (hk : k < n) (h : WarIn E n k T0 T n 0) : War E n (k + 1) T :=
  ⟨h.sound, fun i j hi hj hp => by
    rcases hp.split with hp | ⟨hp1, hp2⟩
    · exact h.mono _ _ (h0.comp i j hi hj hp)
    · exact h.done i j hi hj (.inl hi) (h0.comp i k hi hk hp1) (h0.comp k j hk hj hp2)⟩
theorem War.full (h : War E n n T) (hE : ∀ a b, E a b → a < n) {i j : Nat} (hi : i < n) (hj : j < n) : T i j = true ↔ Pth E i j :=
  ⟨h.sound i j, fun hp => h.comp i j hi hj (PthK.full hE hp)⟩
end
end Go.Proofs.Ytdkpdomggbiolaa
