/- Plain: inserting into a rising list is sorting and striking what is there twice. -/
import Derived.Test.YtdkpdomggbiolaaRef4f
import Derived.Sort.Walk0
namespace Go.Proofs.Ytdkpdomggbiolaa
set_option linter.all false
open Go.RowKit

abbrev Bs := List UInt8
theorem ltB_eq (a b : ByteArray) : ltB a b = decide (bytesOf a < bytesOf b) := by
  unfold ltB bytesOf; rw [ByteArray.toList_eq, ByteArray.toList_eq, Go.Proofs.bytesLess_eq]
theorem lt_irr (a : Bs) : ¬ a < a := by exact List.lt_irrefl a
theorem lt_tr {a b c : Bs} (h : a < b) (k : b < c) : a < c := List.lt_trans h k
theorem lt_tot {a b : Bs} (h : ¬ a < b) (k : ¬ b < a) : a = b := by
  exact List.le_antisymm (List.not_lt.1 k) (List.not_lt.1 h)
def Rise (l : List Bs) : Prop := l.Pairwise (· < ·)
theorem rise_unique {a b : List Bs} (ha : Rise a) (hb : Rise b) (h : ∀ x, x ∈ a ↔ x ∈ b) : a = b := by
  induction a generalizing b with
  | nil => cases b with
    | nil => rfl
    | cons y ys => have := (h y).2 (by simp); simp at this
  | cons x xs ih =>
    cases b with
    | nil => have := (h x).1 (by simp); simp at this
    | cons y ys =>
      obtain ⟨hx, hxs⟩ := List.pairwise_cons.1 ha
      obtain ⟨hy, hys⟩ := List.pairwise_cons.1 hb
      have e : x = y := by
        rcases List.mem_cons.1 ((h x).1 (by simp)) with e | e
        · exact e
        · rcases List.mem_cons.1 ((h y).2 (by simp)) with e' | e'
          · exact e'.symm
          · exact absurd (lt_tr (hy x e) (hx y e')) (lt_irr _)
      subst e
      rw [ih hxs hys fun z => ?_]
      have hz := h z
      constructor
      · intro hm
        rcases List.mem_cons.1 (hz.1 (List.mem_cons_of_mem _ hm)) with e | e
        · subst e; exact absurd (hx z hm) (lt_irr _)
        · exact e
      · intro hm
        rcases List.mem_cons.1 (hz.2 (List.mem_cons_of_mem _ hm)) with e | e
        · subst e; exact absurd (hy z hm) (lt_irr _)
        · exact e

theorem compUp (d : Array Bs) (hs : ∀ i j, i ≤ j → j < d.size → ¬ d[j]! < d[i]!) : ∀ m, m ≤ d.size →
    Rise (Lib.compactUpTo d m) ∧ (∀ x, x ∈ Lib.compactUpTo d m ↔ ∃ j, j < m ∧ d[j]! = x) ∧ (0 < m → ∀ x ∈ Lib.compactUpTo d m, ¬ d[m - 1]! < x) := by
  intro m
  induction m with
  | zero => intro _; refine ⟨by simp [Lib.compactUpTo, Rise], fun x => by simp [Lib.compactUpTo], fun h => by omega⟩
  | succ m ih =>
    intro hm
    obtain ⟨h1, h2, h3⟩ := ih (by omega)
    have hmem : ∀ x, x ∈ Lib.compactUpTo d (m + 1) ↔ ∃ j, j < m + 1 ∧ d[j]! = x := by
      intro x
      rw [Lib.compactUpTo_succ, List.mem_append, h2]
      constructor
      · rintro (⟨j, hj, e⟩ | h)
        · exact ⟨j, by omega, e⟩
        · split at h
          · exact ⟨m, by omega, (List.mem_singleton.1 h).symm⟩
          · simp at h
      · rintro ⟨j, hj, e⟩
        rcases Nat.lt_or_ge j m with h | h
        · exact .inl ⟨j, h, e⟩
        · obtain rfl : j = m := by omega
          by_cases hk : Lib.keeps d j = true
          · exact .inr (by rw [if_pos hk, e]; simp)
          · refine .inl ⟨j - 1, ?_, ?_⟩
            · have : j ≠ 0 := fun h => hk (by simp [Lib.keeps, h]); omega
            · have : ¬ (j = 0 ∨ d[j]! ≠ d[j - 1]!) := by simpa [Lib.keeps] using hk
              rw [← e]; by_cases e2 : d[j]! = d[j - 1]!
              · exact e2.symm
              · exact absurd (Or.inr e2) this
    refine ⟨?_, hmem, fun _ x hx => ?_⟩
    · rw [Lib.compactUpTo_succ]
      by_cases hk : Lib.keeps d m = true
      · rw [if_pos hk]
        refine List.pairwise_append.2 ⟨h1, by simp, fun a ha b hb => ?_⟩
        rw [List.mem_singleton] at hb; subst hb
        have hm0 : 0 < m := by obtain ⟨j, hj, _⟩ := (h2 a).1 ha; omega
        have hd : m = 0 ∨ d[m]! ≠ d[m - 1]! := by simpa [Lib.keeps] using hk
        have hne : d[m]! ≠ d[m - 1]! := by rcases hd with h | h; omega; exact h
        have hl : d[m - 1]! < d[m]! := by
          by_cases h : d[m - 1]! < d[m]!
          · exact h
          · exact absurd (lt_tot (hs (m - 1) m (by omega) (by omega)) h) hne
        by_cases h : a = d[m - 1]!
        · rw [h]; exact hl
        · have : a < d[m - 1]! := by
            by_cases h' : a < d[m - 1]!
            · exact h'
            · exact absurd (lt_tot h' (h3 hm0 a ha)) h
          exact lt_tr this hl
      · rw [if_neg hk, List.append_nil]; exact h1
    · obtain ⟨j, hj, rfl⟩ := (hmem x).1 hx
      exact hs j m (by omega) (by omega)
theorem comp_sorted (zs : List Bs) (hs : zs.Pairwise fun a b => ¬ b < a) : Rise (Lib.compact zs) ∧ ∀ x, x ∈ Lib.compact zs ↔ x ∈ zs := by
  have h := compUp zs.toArray (fun i j hij hj => by
    have hj' : j < zs.length := by simpa using hj
    rw [getElem!_pos zs.toArray i (by simp; omega), getElem!_pos zs.toArray j hj]
    simp only [List.getElem_toArray]
    rcases Nat.lt_or_ge i j with h | h
    · exact List.pairwise_iff_getElem.1 hs i j (by omega) hj' h
    · obtain rfl : i = j := by omega
      exact lt_irr _) zs.length (by simp)
  refine ⟨h.1, fun x => ?_⟩
  show x ∈ Lib.compactUpTo zs.toArray zs.length ↔ _
  rw [h.2.1]
  constructor
  · rintro ⟨j, hj, e⟩
    rw [getElem!_pos zs.toArray j (by simpa using hj)] at e
    simp only [List.getElem_toArray] at e
    exact e ▸ List.getElem_mem _
  · intro hx
    obtain ⟨j, hj, e⟩ := List.getElem_of_mem hx
    exact ⟨j, hj, by rw [getElem!_pos zs.toArray j (by simpa using hj)]; simpa using e⟩
theorem merge_sorted (l : List Bs) : (l.mergeSort fun x y => decide (x ≤ y)).Pairwise fun a b => ¬ b < a := by
  have := List.pairwise_mergeSort (le := fun x y : Bs => decide (x ≤ y)) (fun a b c h1 h2 => by simp at *; exact List.le_trans h1 h2) (fun a b => by simp; exact List.le_total a b) l
  refine this.imp fun {a b} h => ?_
  simp at h
  exact fun hlt => absurd hlt (List.not_lt.2 h)
theorem bytesOf_inj {a b : ByteArray} (h : bytesOf a = bytesOf b) : a = b := by
  have := congrArg ofBytes h; rwa [ofBytes_bytesOf, ofBytes_bytesOf] at this
theorem ofBytes_map (l : List ByteArray) : (l.map bytesOf).map ofBytes = l := by
  rw [List.map_map]; conv => rhs; rw [← List.map_id l]
  exact List.map_congr_left fun s _ => ofBytes_bytesOf s
theorem bytesOf_map (l : List Bs) : (l.map ofBytes).map bytesOf = l := by
  rw [List.map_map]; conv => rhs; rw [← List.map_id l]
  exact List.map_congr_left fun s _ => bytesOf_ofBytes s

theorem ahead_split (l : List ByteArray) (s : ByteArray) : (∀ x ∈ l.take (ahead l s), ltB x s = true) ∧ ∀ (h : ahead l s < l.length), ltB l[ahead l s] s = false := by
  unfold ahead
  induction l with
  | nil => simp
  | cons y ys ih =>
    by_cases hy : ltB y s = true
    · rw [List.takeWhile_cons, if_pos hy, List.length_cons, List.take_succ_cons]
      refine ⟨fun x hx => ?_, fun h => ?_⟩
      · rcases List.mem_cons.1 hx with rfl | hx
        · exact hy
        · exact ih.1 x hx
      · rw [List.getElem_cons_succ]; exact ih.2 (by simpa using h)
    · rw [List.takeWhile_cons, if_neg hy]
      exact ⟨fun x hx => by simp at hx, fun _ => by simpa using hy⟩
theorem putL_law (l : List ByteArray) (s : ByteArray) (hl : Rise (l.map bytesOf)) : Rise ((putL l s).map bytesOf) ∧ ∀ x, x ∈ putL l s ↔ x ∈ l ∨ x = s := by
  obtain ⟨h1, h2⟩ := ahead_split l s
  unfold putL
  generalize ahead l s = k at *
  by_cases he : l[k]? = some s
  · rw [if_pos he]
    refine ⟨hl, fun x => ⟨.inl, ?_⟩⟩
    rintro (h | rfl)
    · exact h
    · exact List.mem_of_getElem? he
  · rw [if_neg he]
    have hsplit := List.take_append_drop k l
    refine ⟨?_, fun x => ?_⟩
    · have hl' := hl
      rw [← hsplit, List.map_append] at hl'
      obtain ⟨p1, p2, p3⟩ := List.pairwise_append.1 hl'
      rw [List.map_append, List.map_cons]
      have hdrop : ∀ y ∈ (l.drop k).map bytesOf, bytesOf s < y := by
        intro y hy
        rcases Nat.lt_or_ge k l.length with hk | hk
        · rw [List.drop_eq_getElem_cons hk, List.map_cons] at hy p2
          have hh := h2 hk
          rw [ltB_eq, decide_eq_false_iff_not] at hh
          have hs : bytesOf s < bytesOf l[k] := by
            by_cases h : bytesOf s < bytesOf l[k]
            · exact h
            · exact absurd (bytesOf_inj (lt_tot hh h)) (fun e => he (by rw [List.getElem?_eq_getElem hk, e]))
          rcases List.mem_cons.1 hy with rfl | hy
          · exact hs
          · exact lt_tr hs ((List.pairwise_cons.1 p2).1 y hy)
        · rw [List.drop_of_length_le hk] at hy; simp at hy
      refine List.pairwise_append.2 ⟨p1, List.pairwise_cons.2 ⟨hdrop, p2⟩, fun a ha b hb => ?_⟩
      obtain ⟨x, hx, rfl⟩ := List.mem_map.1 ha
      have hxs := h1 x hx; rw [ltB_eq, decide_eq_true_eq] at hxs
      rcases List.mem_cons.1 hb with rfl | hb
      · exact hxs
      · exact lt_tr hxs (hdrop b hb)
    · rw [List.mem_append, List.mem_cons]
      conv => rhs; rw [← hsplit, List.mem_append]
      constructor
      · rintro (h | h | h); exact .inl (.inl h); exact .inr h; exact .inl (.inr h)
      · rintro ((h | h) | h); exact .inl h; exact .inr (.inr h); exact .inr (.inl h)
theorem foldPut (L : List ByteArray) : ∀ (acc : List ByteArray), Rise (acc.map bytesOf) → Rise ((L.foldl putL acc).map bytesOf) ∧ ∀ x, x ∈ L.foldl putL acc ↔ x ∈ acc ∨ x ∈ L := by
  induction L with
  | nil => intro acc h; exact ⟨h, fun x => by simp⟩
  | cons s r ih =>
    intro acc h
    obtain ⟨a, b⟩ := putL_law acc s h
    obtain ⟨c, d⟩ := ih _ a
    refine ⟨c, fun x => ?_⟩
    rw [List.foldl_cons, d, b, List.mem_cons, or_assoc]
theorem put_sort (L : List ByteArray) : L.foldl putL [] = compB (sortB L) := by
  obtain ⟨a, b⟩ := foldPut L [] (by simp [Rise])
  unfold compB sortB
  rw [bytesOf_map]
  obtain ⟨c, d⟩ := comp_sorted _ (merge_sorted (L.map bytesOf))
  rw [← rise_unique a c fun x => ?_, ofBytes_map]
  rw [d, List.mem_mergeSort, List.mem_map, List.mem_map]
  constructor
  · rintro ⟨y, hy, rfl⟩; exact ⟨y, by simpa using (b y).1 hy, rfl⟩
  · rintro ⟨y, hy, rfl⟩; exact ⟨y, (b y).2 (.inr hy), rfl⟩

def giftNames (l : List PatT) : List ByteArray := (l.filter fun p => decide (isGift p.kind)).map PatT.name
def callNames (l : List PatT) : List ByteArray := (l.filter fun p => decide (p.kind = 24)).map PatT.name
theorem namesFold_eq (l : List PatT) : namesFold l = ((giftNames l).foldl putL [], (callNames l).foldl putL []) := by
  have : ∀ (l : List PatT) (a b : List ByteArray), l.foldl nfStep (a, b) = ((giftNames l).foldl putL a, (callNames l).foldl putL b) := by
    intro l
    induction l with
    | nil => intro a b; rfl
    | cons p ps ih =>
      intro a b
      rw [List.foldl_cons]
      have e : nfStep (a, b) p = ((if isGift p.kind then putL a p.name else a), (if p.kind = 24 then putL b p.name else b)) := rfl
      rw [e, ih]
      refine Prod.ext ?_ ?_
      · dsimp only; unfold giftNames; by_cases h1 : isGift p.kind <;> simp [h1]
      · dsimp only; unfold callNames; by_cases h2 : p.kind = 24
        · rw [if_pos h2, List.filter_cons, if_pos (by simpa using h2)]; rfl
        · rw [if_neg h2, List.filter_cons, if_neg (by simpa using h2)]
  exact this l [] []
theorem namesRun_eq (p : PatT) : namesRun p = (giftNames (allT p), callNames (allT p)) := by
  unfold namesRun
  rw [walk_run]
  have : ∀ (l : List PatT) (a b : List ByteArray), (runL namesStep (a, b) l).1 = (a ++ giftNames l, b ++ callNames l) := by
    intro l
    induction l with
    | nil => intro a b; simp [runL, giftNames, callNames]
    | cons p ps ih =>
      intro a b
      have e : namesStep (a, b) p = (((namesStep (a, b) p).1.1, (namesStep (a, b) p).1.2), true) := rfl
      rw [runL, e]
      show (runL namesStep _ ps).1 = _
      rw [ih]
      unfold namesStep giftNames callNames
      by_cases h1 : isGift p.kind <;> by_cases h2 : p.kind = 24 <;> simp [h1, h2, isGift] <;> simp_all [isGift]
  have h := this (allT p) [] []
  simpa using h
theorem given_eq (p : PatT) : givenF p = (namesFold (allT p)).1 ∧ calledF p = (namesFold (allT p)).2 := by
  unfold givenF calledF
  rw [namesRun_eq, namesFold_eq, put_sort, put_sort]; exact ⟨rfl, rfl⟩
end Go.Proofs.Ytdkpdomggbiolaa
