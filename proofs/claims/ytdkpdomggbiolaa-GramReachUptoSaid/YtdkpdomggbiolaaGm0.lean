/- Grammars (chapter 8): rules; what is called; what may match nothing; what begins with what (plain). -/
import Derived.Test.YtdkpdomggbiolaaSortLaw
namespace Go.Proofs.Ytdkpdomggbiolaa
set_option linter.all false
open Go.RowKit

instance memB (x : ByteArray) (l : List ByteArray) : Decidable (x ∈ l) := @List.instDecidableMemOfLawfulBEq ByteArray instBEqOfDecidableEq inferInstance x l
structure RuleT where
  name : ByteArray
  pat : PatT
def rGo : List ByteArray → List RuleT → Int
  | _, [] => 0
  | pr, r :: q => if namedF r.name = false ∨ r.name ∈ pr then 7 else if wrongF r.pat ≠ 0 then wrongF r.pat else rGo (pr ++ [r.name]) q
/-- What is wrong with rules. -/
def rulesF (l : List RuleT) : Int := if 64 < l.length then 5 else rGo [] l
theorem rGo_right : ∀ (q : List RuleT) (pr : List ByteArray), rGo pr q = 0 → (∀ r ∈ q, namedF r.name = true ∧ wrongF r.pat = 0) ∧ (q.map RuleT.name).Nodup ∧ ∀ r ∈ q, r.name ∉ pr
  | [], _, _ => ⟨fun _ h => (by cases h), by simp, fun _ h => (by cases h)⟩
  | r :: q, pr, h => by
    rw [rGo] at h
    split at h
    · cases h
    · rename_i h1
      split at h
      · rename_i h2; exact absurd h h2
      · rename_i h2
        obtain ⟨i1, i2, i3⟩ := rGo_right q _ h
        have hn : namedF r.name = true := by cases hx : namedF r.name with
          | true => rfl
          | false => exact absurd (.inl hx) h1
        have hw : wrongF r.pat = 0 := by
          by_cases hx : wrongF r.pat = 0
          · exact hx
          · exact absurd hx h2
        refine ⟨fun x hx => ?_, ?_, fun x hx => ?_⟩
        · rcases List.mem_cons.1 hx with rfl | hx
          · exact ⟨hn, hw⟩
          · exact i1 x hx
        · rw [List.map_cons, List.nodup_cons]
          refine ⟨fun hx => ?_, i2⟩
          obtain ⟨y, hy, he⟩ := List.mem_map.1 hx
          exact i3 y hy (by rw [he]; simp)
        · rcases List.mem_cons.1 hx with rfl | hx
          · exact fun e => h1 (.inr e)
          · exact fun e => i3 x hx (List.mem_append_left _ e)
theorem rules_right {l : List RuleT} (h : rulesF l = 0) : l.length ≤ 64 ∧ (∀ r ∈ l, namedF r.name = true ∧ wrongF r.pat = 0) ∧ (l.map RuleT.name).Nodup := by
  unfold rulesF at h
  split at h
  · cases h
  · obtain ⟨h1, h2, _⟩ := rGo_right l [] h
    exact ⟨by omega, h1, h2⟩
/-- The first rule of a name (below 0: there is none). -/
def findGo (n : ByteArray) : Nat → List RuleT → Int
  | _, [] => -1
  | i, r :: q => if r.name = n then (i : Int) else findGo n (i + 1) q
def findR (l : List RuleT) (n : ByteArray) : Int := findGo n 0 l
theorem findGo_drop (n : ByteArray) (l : List RuleT) (j : Nat) (h : j < l.length) : findGo n j (l.drop j) = if l[j].name = n then (j : Int) else findGo n (j + 1) (l.drop (j + 1)) := by
  rw [List.drop_eq_getElem_cons h, findGo]
theorem findGo_at (n : ByteArray) : ∀ (l : List RuleT) (i : Nat), (findGo n i l = -1 ∧ ∀ r ∈ l, r.name ≠ n) ∨ ∃ k : Nat, findGo n i l = ((i + k : Nat) : Int) ∧ ∃ h : k < l.length, l[k].name = n
  | [], i => .inl ⟨rfl, fun _ h => (by cases h)⟩
  | r :: q, i => by
    rw [findGo]
    split
    · rename_i h; exact .inr ⟨0, rfl, by simp, h⟩
    · rename_i hr
      rcases findGo_at n q (i + 1) with ⟨h, h2⟩ | ⟨k, h, hk, h2⟩
      · exact .inl ⟨h, fun x hx => (List.mem_cons.1 hx).elim (fun e => by rw [e]; exact hr) (h2 x)⟩
      · exact .inr ⟨k + 1, by rw [h]; omega, by simp; omega, h2⟩
theorem findR_at (l : List RuleT) (n : ByteArray) : (findR l n = -1 ∧ ∀ r ∈ l, r.name ≠ n) ∨ ∃ k : Nat, findR l n = (k : Int) ∧ ∃ h : k < l.length, l[k].name = n := by
  rcases findGo_at n l 0 with h | ⟨k, h, h2⟩
  · exact .inl h
  · exact .inr ⟨k, by unfold findR; rw [h, Nat.zero_add], h2⟩
theorem name_unique : ∀ {l : List RuleT}, (l.map RuleT.name).Nodup → ∀ {r s : RuleT}, r ∈ l → s ∈ l → r.name = s.name → r = s
  | [], _, _, _, h, _, _ => by cases h
  | x :: q, hn, r, s, hr, hs, he => by
    rw [List.map_cons, List.nodup_cons] at hn
    rcases List.mem_cons.1 hr with rfl | hr' <;> rcases List.mem_cons.1 hs with rfl | hs'
    · rfl
    · exact absurd (he ▸ List.mem_map_of_mem hs') hn.1
    · exact absurd (he ▸ List.mem_map_of_mem hr') hn.1
    · exact name_unique hn.2 hr' hs' he

/-- The names that a pattern calls. -/
def callsP (p : PatT) : List ByteArray := callNames (allT p)
theorem calledF_mem (p : PatT) (n : ByteArray) : n ∈ calledF p ↔ n ∈ callsP p := by
  rw [(given_eq p).2, namesFold_eq]
  have h := (foldPut (callNames (allT p)) [] (by unfold Rise; simp)).2 n
  rw [h]; simp [callsP]
theorem calledF_rise (p : PatT) : Rise ((calledF p).map bytesOf) := by
  rw [(given_eq p).2, namesFold_eq]
  exact (foldPut (callNames (allT p)) [] (by unfold Rise; simp)).1
inductive Rc (l : List RuleT) (p : PatT) : ByteArray → Prop
  | here (n : ByteArray) : n ∈ callsP p → Rc l p n
  | there (m : ByteArray) (r : RuleT) (n : ByteArray) : Rc l p m → r ∈ l → r.name = m → n ∈ callsP r.pat → Rc l p n
theorem rc_iff {l : List RuleT} {p : PatT} {L : List ByteArray} (h0 : ∀ n ∈ callsP p, n ∈ L) (hc : ∀ m ∈ L, ∀ r ∈ l, r.name = m → ∀ n ∈ callsP r.pat, n ∈ L) (hs : ∀ n ∈ L, Rc l p n) (n : ByteArray) : n ∈ L ↔ Rc l p n := by
  refine ⟨hs n, fun h => ?_⟩
  induction h with
  | here n h => exact h0 n h
  | there m r n _ hr he hn ih => exact hc m ih r hr he n hn
/-- All names that may come. -/
def allCalls (l : List RuleT) (p : PatT) : List ByteArray := callsP p ++ l.flatMap fun r => callsP r.pat
theorem rc_all {l : List RuleT} {p : PatT} {n : ByteArray} (h : Rc l p n) : n ∈ allCalls l p := by
  unfold allCalls
  cases h with
  | here n h => exact List.mem_append_left _ h
  | there m r n _ hr he hn => exact List.mem_append_right _ (List.mem_flatMap.2 ⟨r, hr, hn⟩)
theorem nodup_len {α : Type} [DecidableEq α] : ∀ (a b : List α), a.Nodup → (∀ x ∈ a, x ∈ b) → a.length ≤ b.length
  | [], _, _, _ => Nat.zero_le _
  | x :: q, b, hn, h => by
    obtain ⟨h1, h2⟩ := List.nodup_cons.1 hn
    have hx := h x (List.mem_cons_self ..)
    have ih := nodup_len q (b.erase x) h2 fun y hy => by
      have hne : y ≠ x := fun e => h1 (e ▸ hy)
      exact (List.mem_erase_of_ne hne).2 (h y (List.mem_cons_of_mem _ hy))
    rw [List.length_erase_of_mem hx] at ih
    have := List.length_pos_of_mem hx
    simp only [List.length_cons]; omega

mutual
/-- May a pattern match nothing, as far as is known? -/
def emptyF (m : ByteArray → Bool) : PatT → Bool
  | .mk k t n nm kids => if k = 1 then decide (t.size = 0) else if k = 2 then decide (n = 0) else if k = 3 ∨ k = 4 ∨ k = 5 ∨ k = 14 ∨ k = 15 ∨ k = 17 then false
    else if k = 24 then m nm else if k = 21 ∨ k = 22 then emptyHd m kids else if k = 18 then emptyAll m kids else if k = 19 then emptyAny m kids else true
def emptyHd (m : ByteArray → Bool) : List PatT → Bool
  | [] => false
  | x :: _ => emptyF m x
def emptyAll (m : ByteArray → Bool) : List PatT → Bool
  | [] => true
  | x :: q => emptyF m x && emptyAll m q
def emptyAny (m : ByteArray → Bool) : List PatT → Bool
  | [] => false
  | x :: q => emptyF m x || emptyAny m q
end
section
variable {m m' : ByteArray → Bool} (hm : ∀ n, m n = true → m' n = true)
include hm
mutual
theorem empty_mono : ∀ p : PatT, emptyF m p = true → emptyF m' p = true
  | .mk k t n nm kids => by
    rw [emptyF, emptyF]
    have h1 := emptyHd_mono kids; have h2 := emptyAll_mono kids; have h3 := emptyAny_mono kids
    intro h
    split at h
    · rename_i c; rw [if_pos c]; exact h
    · rename_i c1; rw [if_neg c1]
      split at h
      · rename_i c; rw [if_pos c]; exact h
      · rename_i c2; rw [if_neg c2]
        split at h
        · cases h
        · rename_i c3; rw [if_neg c3]
          split at h
          · rename_i c; rw [if_pos c]; exact hm _ h
          · rename_i c4; rw [if_neg c4]
            split at h
            · rename_i c; rw [if_pos c]; exact h1 h
            · rename_i c5; rw [if_neg c5]
              split at h
              · rename_i c; rw [if_pos c]; exact h2 h
              · rename_i c6; rw [if_neg c6]
                split at h
                · rename_i c; rw [if_pos c]; exact h3 h
                · rename_i c7; rw [if_neg c7]
theorem emptyHd_mono : ∀ q : List PatT, emptyHd m q = true → emptyHd m' q = true
  | [] => fun h => by rw [emptyHd] at h; cases h
  | x :: q => fun h => by rw [emptyHd] at h ⊢; exact empty_mono x h
theorem emptyAll_mono : ∀ q : List PatT, emptyAll m q = true → emptyAll m' q = true
  | [] => fun _ => by rw [emptyAll]
  | x :: q => fun h => by
    rw [emptyAll, Bool.and_eq_true] at h ⊢
    exact ⟨empty_mono x h.1, emptyAll_mono q h.2⟩
theorem emptyAny_mono : ∀ q : List PatT, emptyAny m q = true → emptyAny m' q = true
  | [] => fun h => by rw [emptyAny] at h; cases h
  | x :: q => fun h => by
    rw [emptyAny, Bool.or_eq_true] at h ⊢
    exact h.imp (empty_mono x) (emptyAny_mono q)
end
end
def ClosedM (l : List RuleT) (m : ByteArray → Bool) : Prop := ∀ r ∈ l, emptyF m r.pat = true → m r.name = true
def UnderM (l : List RuleT) (m : ByteArray → Bool) : Prop := ∀ m', ClosedM l m' → ∀ n, m n = true → m' n = true
theorem UnderM.none (l : List RuleT) : UnderM l (fun _ => false) := fun _ _ _ h => by cases h
def addM (m : ByteArray → Bool) (k : ByteArray) : ByteArray → Bool := fun n => if n = k then true else m n
theorem UnderM.add {l : List RuleT} {m : ByteArray → Bool} (h : UnderM l m) {r : RuleT} (hr : r ∈ l) (he : emptyF m r.pat = true) : UnderM l (addM m r.name) := fun m' hc n hn => by
  unfold addM at hn
  split at hn
  · rename_i e; subst e; exact hc r hr (empty_mono (h m' hc) r.pat he)
  · exact h m' hc n hn
/-- There is one set alone. -/
theorem least_unique {l : List RuleT} {a b : ByteArray → Bool} (ha : UnderM l a) (hca : ClosedM l a) (hb : UnderM l b) (hcb : ClosedM l b) : a = b := by
  funext n
  rw [Bool.eq_iff_iff]
  exact ⟨ha b hcb n, hb a hca n⟩

mutual
/-- May a pattern come to a name without a byte ahead? -/
def begM (m : ByteArray → Bool) (name : ByteArray) : PatT → Bool
  | .mk k _ _ nm kids => if k = 24 then decide (nm = name) else begL m name (decide (k = 18)) kids
def begL (m : ByteArray → Bool) (name : ByteArray) (cat : Bool) : List PatT → Bool
  | [] => false
  | x :: q => begM m name x || (if cat && !emptyF m x then false else begL m name cat q)
end
mutual
/-- The names that a pattern begins with, behind those that are there. -/
def beginsF (m : ByteArray → Bool) : PatT → List ByteArray → List ByteArray
  | .mk k _ _ nm kids, out => if k = 24 ∧ nm ∉ out then out ++ [nm] else beginsL m (decide (k = 18)) kids out
def beginsL (m : ByteArray → Bool) (cat : Bool) : List PatT → List ByteArray → List ByteArray
  | [], out => out
  | x :: q, out => if cat && !emptyF m x then beginsF m x out else beginsL m cat q (beginsF m x out)
end
/-- What is called has no kids. -/
def Leaf (p : PatT) : Prop := ∀ x ∈ allT p, x.kind = 24 → x.kids = []
mutual
theorem begins_mem (m : ByteArray → Bool) (name : ByteArray) : ∀ (p : PatT) (out : List ByteArray), (∀ x ∈ allT p, x.kind = 24 → x.kids = []) → (name ∈ beginsF m p out ↔ name ∈ out ∨ begM m name p = true)
  | .mk k t n nm kids, out, hl => by
    rw [beginsF, begM]
    by_cases h24 : k = 24
    · have hk : kids = [] := hl (.mk k t n nm kids) (by rw [allT]; exact List.mem_cons_self ..) h24
      rw [if_pos h24]
      by_cases hin : nm ∈ out
      · rw [if_neg (fun e => e.2 hin), hk, beginsL]
        refine ⟨.inl, fun h => h.elim id fun e => ?_⟩
        have := of_decide_eq_true e
        rw [← this]; exact hin
      · rw [if_pos ⟨h24, hin⟩, List.mem_append, List.mem_singleton, decide_eq_true_eq]
        exact or_congr Iff.rfl eq_comm
    · rw [if_neg (fun e => h24 e.1), if_neg h24]
      exact beginsL_mem m name (decide (k = 18)) kids out fun x hx => hl x (by rw [allT]; exact List.mem_cons_of_mem _ hx)
theorem beginsL_mem (m : ByteArray → Bool) (name : ByteArray) (cat : Bool) : ∀ (q : List PatT) (out : List ByteArray), (∀ x ∈ allL q, x.kind = 24 → x.kids = []) → (name ∈ beginsL m cat q out ↔ name ∈ out ∨ begL m name cat q = true)
  | [], out, _ => by rw [beginsL, begL]; simp
  | x :: q, out, hl => by
    have h1 := begins_mem m name x out fun y hy => hl y (by rw [allL]; exact List.mem_append_left _ hy)
    have h2 := beginsL_mem m name cat q (beginsF m x out) fun y hy => hl y (by rw [allL]; exact List.mem_append_right _ hy)
    rw [beginsL, begL, Bool.or_eq_true]
    by_cases hc : (cat && !emptyF m x) = true
    · rw [if_pos hc, if_pos hc, h1]; simp
    · rw [if_neg hc, if_neg hc, h2, h1, or_assoc]
end

inductive Pth {α : Type} (E : α → α → Prop) (a : α) : α → Prop
  | one (b : α) : E a b → Pth E a b
  | more (b c : α) : Pth E a b → E b c → Pth E a c
theorem Pth.join {α : Type} {E : α → α → Prop} {a b c : α} (h : Pth E a b) (k : Pth E b c) : Pth E a c := by
  induction k with
  | one c e => exact .more b c h e
  | more c d _ e ih => exact .more c d ih e
/-- Paths whose places between lie below k. -/
inductive PthK (E : Nat → Nat → Prop) (k a : Nat) : Nat → Prop
  | one (b : Nat) : E a b → PthK E k a b
  | more (b c : Nat) : PthK E k a b → b < k → E b c → PthK E k a c
theorem PthK.split {E : Nat → Nat → Prop} {k a c : Nat} (h : PthK E (k + 1) a c) : PthK E k a c ∨ (PthK E k a k ∧ PthK E k k c) := by
  induction h with
  | one b e => exact .inl (.one b e)
  | more b c _ hb e ih =>
    by_cases hbk : b = k
    · subst hbk
      refine .inr ⟨?_, .one _ e⟩
      rcases ih with h | ⟨h, _⟩ <;> exact h
    · rcases ih with h | ⟨h1, h2⟩
      · exact .inl (.more b c h (by omega) e)
      · exact .inr ⟨h1, .more b c h2 (by omega) e⟩
theorem PthK.full {E : Nat → Nat → Prop} {n : Nat} (hE : ∀ a b, E a b → a < n) {a c : Nat} (h : Pth E a c) : PthK E n a c := by
  induction h with
  | one b e => exact .one b e
  | more b c _ e ih => exact .more b c ih (hE b c e) e
end Go.Proofs.Ytdkpdomggbiolaa
