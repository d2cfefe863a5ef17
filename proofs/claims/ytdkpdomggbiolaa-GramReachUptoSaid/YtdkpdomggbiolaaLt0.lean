/- gram.Left: the least set of nulls, lists of what comes to what, in order (plain). -/
import Derived.Test.YtdkpdomggbiolaaGl
import Derived.Test.YtdkpdomggbiolaaBgn
namespace Go.Proofs.Ytdkpdomggbiolaa
set_option linter.all false
open Go.RowKit

/-- How many rules are not yet known to match nothing. -/
def cntM : List RuleT → (ByteArray → Bool) → Nat
  | [], _ => 0
  | r :: q, m => (if m r.name = true then 0 else 1) + cntM q m
theorem cntM_len (l : List RuleT) (m : ByteArray → Bool) : cntM l m ≤ l.length := by
  induction l with
  | nil => simp [cntM]
  | cons r q ih => rw [cntM, List.length_cons]; split <;> omega
theorem cntM_add (l : List RuleT) (m : ByteArray → Bool) (k : ByteArray) : cntM l (addM m k) ≤ cntM l m := by
  induction l with
  | nil => simp [cntM]
  | cons r q ih =>
    rw [cntM, cntM]
    by_cases h : m r.name = true
    · have h2 : addM m k r.name = true := by unfold addM; split <;> simp [h]
      rw [if_pos h, if_pos h2]; omega
    · rw [if_neg h]; split <;> omega
theorem cntM_lt (l : List RuleT) (m : ByteArray → Bool) (r : RuleT) (hr : r ∈ l) (h : m r.name = false) : cntM l (addM m r.name) < cntM l m := by
  induction l with
  | nil => cases hr
  | cons s q ih =>
    rw [cntM, cntM]
    have hle := cntM_add q m r.name
    rcases List.mem_cons.1 hr with rfl | hr
    · have h2 : addM m r.name r.name = true := by unfold addM; rw [if_pos rfl]
      rw [if_pos h2, if_neg (by rw [h]; simp)]; omega
    · have := ih hr
      by_cases h3 : m s.name = true
      · have h4 : addM m r.name s.name = true := by unfold addM; split <;> simp [h3]
        rw [if_pos h3, if_pos h4]; omega
      · rw [if_neg h3]; split <;> omega
theorem mB_none : mB (fun _ => none) = fun _ => false := by funext n; simp [mB]
theorem mB_put (mF : ByteArray → Option Int) (k : ByteArray) : mB (putM mF k 1) = addM (mB mF) k := by
  funext n
  unfold mB putM addM
  split <;> simp
/-- What is known to match nothing, in n entries. -/
structure NulP (l : List RuleT) (mF : ByteArray → Option Int) (n : Nat) : Prop where
  under : UnderM l (mB mF)
  ones : ∀ k c, mF k = some c → c = 1
  cnt : n + cntM l (mB mF) ≤ l.length
theorem NulP.none (l : List RuleT) : NulP l (fun _ => none) 0 :=
  ⟨by rw [mB_none]; exact UnderM.none l, fun _ _ h => (by cases h), by have := cntM_len l (mB fun _ => Option.none); omega⟩
theorem NulP.zero {l : List RuleT} {mF : ByteArray → Option Int} {n : Nat} (h : NulP l mF n) (k : ByteArray) : (((mF k).getD 0) == 0) = !(mB mF k) := by
  unfold mB
  cases hk : mF k with
  | none => rfl
  | some c => rw [h.ones k c hk]; rfl
theorem NulP.put {l : List RuleT} {mF : ByteArray → Option Int} {n : Nat} (h : NulP l mF n) {r : RuleT} (hr : r ∈ l) (hm : mB mF r.name = false) (he : emptyF (mB mF) r.pat = true) : NulP l (putM mF r.name 1) (n + 1) := by
  refine ⟨by rw [mB_put]; exact h.under.add hr he, fun k c hk => ?_, ?_⟩
  · unfold putM at hk
    split at hk
    · cases hk; rfl
    · exact h.ones k c hk
  · have h1 := cntM_lt l (mB mF) r hr hm
    have h2 := h.cnt
    rw [mB_put]; omega
/-- A round under way. -/
structure NulJ (l : List RuleT) (mF : ByteArray → Option Int) (j : Nat) (b : Bool) (mG : ByteArray → Option Int) (n : Nat) : Prop where
  nul : NulP l mG n
  le : cntM l (mB mG) + (if b = true then 1 else 0) ≤ cntM l (mB mF)
  done : b = false → mG = mF ∧ ∀ r ∈ l.take j, emptyF (mB mF) r.pat = true → mB mF r.name = true
theorem NulJ.start {l : List RuleT} {mF : ByteArray → Option Int} {n : Nat} (h : NulP l mF n) : NulJ l mF 0 false mF n :=
  ⟨h, by simp, fun _ => ⟨rfl, fun r hr => by rw [List.take_zero] at hr; cases hr⟩⟩
theorem NulJ.put {l : List RuleT} {mF mG : ByteArray → Option Int} {j n : Nat} {b : Bool} (h : NulJ l mF j b mG n) (hj : j < l.length) (hm : mB mG l[j].name = false) (he : emptyF (mB mG) l[j].pat = true) : NulJ l mF (j + 1) true (putM mG l[j].name 1) (n + 1) := by
  refine ⟨h.nul.put (List.getElem_mem hj) hm he, ?_, fun h => by cases h⟩
  have h1 := cntM_lt l (mB mG) l[j] (List.getElem_mem hj) hm
  have h2 := h.le
  rw [mB_put, if_pos rfl]; omega
theorem NulJ.next {l : List RuleT} {mF mG : ByteArray → Option Int} {j n : Nat} {b : Bool} (h : NulJ l mF j b mG n) (hj : j < l.length) (hd : emptyF (mB mG) l[j].pat = true → mB mG l[j].name = true) : NulJ l mF (j + 1) b mG n := by
  refine ⟨h.nul, h.le, fun hb => ?_⟩
  obtain ⟨rfl, h2⟩ := h.done hb
  refine ⟨rfl, fun r hr => ?_⟩
  rw [List.take_succ_eq_append_getElem hj] at hr
  rcases List.mem_append.1 hr with hr | hr
  · exact h2 r hr
  · rw [List.mem_singleton] at hr; rw [hr]; exact hd
theorem NulJ.closed {l : List RuleT} {mF mG : ByteArray → Option Int} {n : Nat} (h : NulJ l mF l.length false mG n) : mG = mF ∧ ClosedM l (mB mG) := by
  obtain ⟨rfl, h2⟩ := h.done rfl
  exact ⟨rfl, by rw [List.take_length] at h2; exact h2⟩

mutual
theorem beginsF_nodup (m : ByteArray → Bool) : ∀ (p : PatT) (out : List ByteArray), out.Nodup → (beginsF m p out).Nodup
  | .mk k t n nm kids, out => by
    intro h
    have h2 := beginsL_nodup m (decide (k = 18)) kids out h
    rw [beginsF]
    split
    · rename_i h3
      rw [List.nodup_append]
      exact ⟨h, by simp, fun a ha b hb => by rw [List.mem_singleton] at hb; subst hb; exact fun e => h3.2 (e ▸ ha)⟩
    · exact h2
theorem beginsL_nodup (m : ByteArray → Bool) (cat : Bool) : ∀ (q : List PatT) (out : List ByteArray), out.Nodup → (beginsL m cat q out).Nodup
  | [], out => fun h => by rw [beginsL]; exact h
  | x :: q, out => fun h => by
    have h1 := beginsF_nodup m x out h
    have h2 := beginsL_nodup m cat q _ h1
    rw [beginsL]
    split
    · exact h1
    · exact h2
end
/-- The names that come next, by the rules. -/
def toL (m : ByteArray → Bool) : List RuleT → ByteArray → List ByteArray
  | [], _ => []
  | r :: q, b => if b = r.name then beginsF m r.pat [] else toL m q b
theorem toL_none (m : ByteArray → Bool) (b : ByteArray) : ∀ (l : List RuleT), b ∉ l.map RuleT.name → toL m l b = []
  | [], _ => rfl
  | r :: q, h => by
    rw [toL, if_neg (fun e => h (by rw [e]; simp))]
    exact toL_none m b q fun h2 => h (by rw [List.map_cons]; exact List.mem_cons_of_mem _ h2)
theorem toL_snoc (m : ByteArray → Bool) (r : RuleT) (b : ByteArray) : ∀ (l : List RuleT), r.name ∉ l.map RuleT.name → toL m (l ++ [r]) b = if b = r.name then beginsF m r.pat [] else toL m l b
  | [], _ => by simp [toL]
  | s :: q, h => by
    have hs : s.name ≠ r.name := fun e => h (by rw [← e]; simp)
    have ih := toL_snoc m r b q fun h2 => h (by rw [List.map_cons]; exact List.mem_cons_of_mem _ h2)
    rw [List.cons_append, toL, toL, ih]
    by_cases h1 : b = s.name
    · rw [if_pos h1, if_pos h1, if_neg (fun e => hs (h1.symm.trans e))]
    · rw [if_neg h1, if_neg h1]
theorem toL_take (m : ByteArray → Bool) {l : List RuleT} (hn : (l.map RuleT.name).Nodup) (j : Nat) (hj : j < l.length) (b : ByteArray) : toL m (l.take (j + 1)) b = if b = l[j].name then beginsF m l[j].pat [] else toL m (l.take j) b := by
  rw [List.take_succ_eq_append_getElem hj]
  refine toL_snoc m l[j] b _ fun hx => ?_
  have h1 : (l.map RuleT.name).take (j + 1) = (l.take j).map RuleT.name ++ [l[j].name] := by
    rw [← List.map_take, List.take_succ_eq_append_getElem hj, List.map_append]; rfl
  have h2 : ((l.map RuleT.name).take (j + 1)).Nodup := hn.sublist (List.take_sublist _ _)
  rw [h1, List.nodup_append] at h2
  exact h2.2.2 _ hx _ (List.mem_singleton.2 rfl) rfl
theorem toL_mem {m : ByteArray → Bool} {l : List RuleT} (hn : (l.map RuleT.name).Nodup) (hw : ∀ r ∈ l, wrongF r.pat = 0) (b c : ByteArray) : c ∈ toL m l b ↔ BegE m l b c := by
  induction l with
  | nil => rw [toL]; exact ⟨fun h => (by cases h), fun ⟨r, hr, _⟩ => (by cases hr)⟩
  | cons r q ih =>
    rw [List.map_cons, List.nodup_cons] at hn
    have ih := ih hn.2 fun x hx => hw x (List.mem_cons_of_mem _ hx)
    rw [toL]
    by_cases hb : b = r.name
    · rw [if_pos hb, begins_mem m c r.pat [] (leaf_of (hw r (List.mem_cons_self ..)))]
      constructor
      · exact fun h => ⟨r, List.mem_cons_self .., hb.symm, h.resolve_left (by simp)⟩
      · rintro ⟨x, hx, e, h⟩
        rcases List.mem_cons.1 hx with rfl | hx
        · exact .inr h
        · exact absurd (List.mem_map_of_mem (f := RuleT.name) hx) (by rw [e, hb]; exact hn.1)
    · rw [if_neg hb, ih]
      constructor
      · rintro ⟨x, hx, e, h⟩; exact ⟨x, List.mem_cons_of_mem _ hx, e, h⟩
      · rintro ⟨x, hx, e, h⟩
        rcases List.mem_cons.1 hx with rfl | hx
        · exact absurd e.symm hb
        · exact ⟨x, hx, e, h⟩
theorem toL_ok (m : ByteArray → Bool) (b : ByteArray) : ∀ {l : List RuleT}, (∀ r ∈ l, wrongF r.pat = 0) → (toL m l b).Nodup ∧ (toL m l b).length ≤ 4096
  | [], _ => by rw [toL]; simp
  | r :: q, h => by
    rw [toL]
    split
    · refine ⟨beginsF_nodup m r.pat [] (by simp), ?_⟩
      have h1 := beginsF_len m r.pat []
      have h2 := (wrong_nodes (h r (List.mem_cons_self ..))).2
      simp only [List.length_nil] at h1; omega
    · exact toL_ok m b fun x hx => h x (List.mem_cons_of_mem _ hx)
/-- All names that may come. -/
def begU (m : ByteArray → Bool) (l : List RuleT) : List ByteArray := l.flatMap fun r => beginsF m r.pat []
theorem begU_len (m : ByteArray → Bool) : ∀ {l : List RuleT}, (∀ r ∈ l, wrongF r.pat = 0) → (begU m l).length ≤ l.length * 4096
  | [], _ => by simp [begU]
  | r :: q, h => by
    have ih := begU_len m (l := q) fun x hx => h x (List.mem_cons_of_mem _ hx)
    have h1 := beginsF_len m r.pat []
    have h2 := (wrong_nodes (h r (List.mem_cons_self ..))).2
    unfold begU at ih ⊢
    rw [List.flatMap_cons, List.length_append, List.length_cons]
    simp only [List.length_nil] at h1; omega
theorem begU_pth {m : ByteArray → Bool} {l : List RuleT} (hw : ∀ r ∈ l, wrongF r.pat = 0) {a b : ByteArray} (h : Pth (BegE m l) a b) : b ∈ begU m l := by
  have key : ∀ x, BegE m l x b → b ∈ begU m l := by
    rintro x ⟨r, hr, _, hb⟩
    exact List.mem_flatMap.2 ⟨r, hr, (begins_mem m b r.pat [] (leaf_of (hw r hr))).2 (.inr hb)⟩
  cases h with
  | one _ e => exact key _ e
  | more x _ _ e => exact key _ e
/-- What is come to from a, while it grows. -/
structure SeenP (E : ByteArray → ByteArray → Prop) (T : ByteArray → List ByteArray) (a : ByteArray) (i : Nat) (ys : List ByteArray) : Prop where
  nodup : ys.Nodup
  sound : ∀ b ∈ ys, Pth E a b
  first : ∀ b ∈ T a, b ∈ ys
  done : ∀ j (h : j < ys.length), j < i → ∀ c ∈ T ys[j], c ∈ ys
section
variable {E : ByteArray → ByteArray → Prop} {T : ByteArray → List ByteArray} {a : ByteArray} {i : Nat} {ys : List ByteArray}
theorem SeenP.start (hT : ∀ b c, c ∈ T b ↔ E b c) (hn : (T a).Nodup) : SeenP E T a 0 (T a) :=
  ⟨hn, fun b hb => .one b ((hT a b).1 hb), fun _ h => h, fun _ _ h => by omega⟩
theorem SeenP.add (h : SeenP E T a i ys) (hi : i ≤ ys.length) {c : ByteArray} (hc : c ∉ ys) (hp : Pth E a c) : SeenP E T a i (ys ++ [c]) := by
  refine ⟨?_, fun b hb => ?_, fun b hb => List.mem_append_left _ (h.first b hb), fun j hj hji x hx => ?_⟩
  · rw [List.nodup_append]
    exact ⟨h.nodup, by simp, fun x hx y hy => by rw [List.mem_singleton] at hy; subst hy; exact fun e => hc (e ▸ hx)⟩
  · rcases List.mem_append.1 hb with hb | hb
    · exact h.sound b hb
    · rw [List.mem_singleton] at hb; rw [hb]; exact hp
  · rw [List.getElem_append_left (by omega)] at hx
    exact List.mem_append_left _ (h.done j (by omega) hji x hx)
theorem SeenP.next (h : SeenP E T a i ys) (hi : i < ys.length) (hd : ∀ c ∈ T ys[i], c ∈ ys) : SeenP E T a (i + 1) ys :=
  ⟨h.nodup, h.sound, h.first, fun j hj hji c hc => by
    rcases Nat.lt_or_ge j i with h1 | h1
    · exact h.done j hj h1 c hc
    · obtain rfl : j = i := by omega
      exact hd c hc⟩
theorem SeenP.end_ (h : SeenP E T a ys.length ys) (hT : ∀ b c, c ∈ T b ↔ E b c) (b : ByteArray) : b ∈ ys ↔ Pth E a b := by
  refine pth_closed (fun b e => h.first b ((hT a b).2 e)) (fun b hb c e => ?_) h.sound b
  obtain ⟨j, hj, rfl⟩ := List.mem_iff_getElem.1 hb
  exact h.done j hj hj c ((hT _ c).2 e)
end
theorem SeenP.len {m : ByteArray → Bool} {l : List RuleT} {T : ByteArray → List ByteArray} {a : ByteArray} {i : Nat} {ys : List ByteArray} (h : SeenP (BegE m l) T a i ys) (hw : ∀ r ∈ l, wrongF r.pat = 0) (hl : l.length ≤ 64) : ys.length ≤ 262144 := by
  have h1 := nodup_len ys (begU m l) h.nodup fun x hx => begU_pth hw (h.sound x hx)
  have h2 := begU_len m hw
  omega
/-- The names that come to themselves, of the first j rules. -/
structure OutP (E : ByteArray → ByteArray → Prop) (l : List RuleT) (j : Nat) (out : List ByteArray) : Prop where
  sub : out.Sublist ((l.take j).map RuleT.name)
  mem : ∀ n, n ∈ out ↔ ∃ r ∈ l.take j, r.name = n ∧ Pth E n n
section
variable {E : ByteArray → ByteArray → Prop} {l : List RuleT} {j : Nat} {out : List ByteArray}
theorem OutP.start (E : ByteArray → ByteArray → Prop) (l : List RuleT) : OutP E l 0 [] := ⟨by rw [List.take_zero]; exact List.Sublist.refl _, fun n => by rw [List.take_zero]; simp⟩
theorem OutP.len (h : OutP E l j out) (hj : j ≤ l.length) : out.length ≤ j := by
  have := h.sub.length_le
  rw [List.length_map, List.length_take] at this; omega
theorem OutP.yes (h : OutP E l j out) (hj : j < l.length) (hp : Pth E l[j].name l[j].name) : OutP E l (j + 1) (out ++ [l[j].name]) := by
  refine ⟨?_, fun n => ?_⟩
  · rw [List.take_succ_eq_append_getElem hj, List.map_append]; exact h.sub.append (List.Sublist.refl _)
  · rw [List.mem_append, h.mem, List.mem_singleton, List.take_succ_eq_append_getElem hj]
    constructor
    · rintro (⟨r, hr, e, hx⟩ | rfl)
      · exact ⟨r, List.mem_append_left _ hr, e, hx⟩
      · exact ⟨l[j], List.mem_append_right _ (List.mem_singleton.2 rfl), rfl, hp⟩
    · rintro ⟨r, hr, e, hx⟩
      rcases List.mem_append.1 hr with hr | hr
      · exact .inl ⟨r, hr, e, hx⟩
      · rw [List.mem_singleton] at hr; exact .inr (by rw [← e, hr])
theorem OutP.no (h : OutP E l j out) (hj : j < l.length) (hp : ¬ Pth E l[j].name l[j].name) : OutP E l (j + 1) out := by
  refine ⟨?_, fun n => ?_⟩
  · rw [List.take_succ_eq_append_getElem hj, List.map_append]; exact h.sub.trans (List.sublist_append_left _ _)
  · rw [h.mem, List.take_succ_eq_append_getElem hj]
    constructor
    · rintro ⟨r, hr, e, hx⟩; exact ⟨r, List.mem_append_left _ hr, e, hx⟩
    · rintro ⟨r, hr, e, hx⟩
      rcases List.mem_append.1 hr with hr | hr
      · exact ⟨r, hr, e, hx⟩
      · rw [List.mem_singleton] at hr; subst hr; exact absurd (by rw [e]; exact hx) hp
end
theorem cmpB_lt : ∀ {a b : List UInt8}, Lib.compareBytes a b < 0 ↔ a < b
  | [], [] => by simp [Lib.compareBytes]
  | [], _ :: _ => by simp [Lib.compareBytes]
  | _ :: _, [] => by simp [Lib.compareBytes]
  | x :: a, y :: b => by
    have ih := cmpB_lt (a := a) (b := b)
    rw [Lib.compareBytes, List.cons_lt_cons_iff]
    by_cases h1 : x < y
    · simp [h1]
    · by_cases h2 : y < x
      · rw [if_neg h1, if_pos h2]
        constructor
        · intro h; omega
        · rintro (h | ⟨e, _⟩)
          · exact absurd h h1
          · subst e; exact absurd h2 (UInt8.lt_irrefl _)
      · rw [if_neg h1, if_neg h2, ih]
        have e : x = y := UInt8.le_antisymm (UInt8.not_lt.1 h2) (UInt8.not_lt.1 h1)
        exact ⟨fun h => .inr ⟨e, h⟩, fun h => h.elim (fun h => absurd h h1) (·.2)⟩
theorem named16 {s : ByteArray} (h : namedF s = true) : s.size ≤ 16 := by
  unfold namedF at h
  rw [Bool.and_eq_true, Bool.and_eq_true, decide_eq_true_eq, decide_eq_true_eq] at h
  exact h.1.2
theorem node_named {x : PatT} (h : nodeF x = 0) (hk : x.kind = 24) : namedF x.name = true := by
  cases hn : namedF x.name with
  | true => rfl
  | false =>
    have hN : isNameK x.kind ∧ namedF x.name = false := ⟨by rw [hk]; unfold isNameK; omega, hn⟩
    unfold nodeF at h
    rw [if_pos hN] at h
    exfalso
    repeat' split at h
    all_goals omega
mutual
theorem begM_node (m : ByteArray → Bool) (c : ByteArray) : ∀ p : PatT, begM m c p = true → ∃ x ∈ allT p, x.kind = 24 ∧ x.name = c
  | .mk k t n nm kids => fun h => by
    rw [begM] at h
    by_cases h24 : k = 24
    · rw [if_pos h24] at h
      exact ⟨.mk k t n nm kids, by rw [allT]; exact List.mem_cons_self .., h24, of_decide_eq_true h⟩
    · rw [if_neg h24] at h
      obtain ⟨x, hx, h2⟩ := begL_node m c (decide (k = 18)) kids h
      exact ⟨x, by rw [allT]; exact List.mem_cons_of_mem _ hx, h2⟩
theorem begL_node (m : ByteArray → Bool) (c : ByteArray) (cat : Bool) : ∀ q : List PatT, begL m c cat q = true → ∃ x ∈ allL q, x.kind = 24 ∧ x.name = c
  | [] => fun h => by rw [begL] at h; cases h
  | y :: q => fun h => by
    rw [begL, Bool.or_eq_true] at h
    rcases h with h | h
    · obtain ⟨x, hx, h2⟩ := begM_node m c y h
      exact ⟨x, by rw [allL]; exact List.mem_append_left _ hx, h2⟩
    · split at h
      · cases h
      · obtain ⟨x, hx, h2⟩ := begL_node m c cat q h
        exact ⟨x, by rw [allL]; exact List.mem_append_right _ hx, h2⟩
end
theorem beg_named {m : ByteArray → Bool} {l : List RuleT} (hw : ∀ r ∈ l, wrongF r.pat = 0) {a b : ByteArray} (h : BegE m l a b) : b.size ≤ 16 := by
  obtain ⟨r, hr, _, hb⟩ := h
  obtain ⟨x, hx, hk, rfl⟩ := begM_node m b r.pat hb
  exact named16 (node_named ((wrong_nodes (hw r hr)).1 x hx) hk)
theorem pth_named {m : ByteArray → Bool} {l : List RuleT} (hw : ∀ r ∈ l, wrongF r.pat = 0) {a b : ByteArray} (h : Pth (BegE m l) a b) : b.size ≤ 16 := by
  cases h with
  | one _ e => exact beg_named hw e
  | more x _ _ e => exact beg_named hw e
end Go.Proofs.Ytdkpdomggbiolaa
