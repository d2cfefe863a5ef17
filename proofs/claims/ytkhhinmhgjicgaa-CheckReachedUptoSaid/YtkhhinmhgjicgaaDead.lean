/- What can't be come to, replaced by empty statements with their labels: the program stays right, and as much of it is come to (plain). -/
import Derived.Test.YtkhhinmhgjicgaaCm2
namespace Go.Proofs.Ytkhhinmhgjicgaa
set_option linter.all false
open Go.RowKit

def noB : ByteArray := ⟨#[]⟩
def noP : PatT := .mk 0 noB 0 noB []
/-- The empty statement with a statement's label. -/
def emptyS (s : StT) : StT := ⟨s.label, 1, noP, noP, noP, noB, noB, [], [], noB, noB, noB⟩
def killS (o : Nat → Bool) (i : Nat) (s : StT) : StT := if o i = true ∨ s.kind = 7 then s else emptyS s
def killL (o : Nat → Bool) (l : List StT) : List StT := l.mapIdx (killS o)
section
variable {o : Nat → Bool} {l : List StT}
theorem kill_len : (killL o l).length = l.length := by unfold killL; simp
theorem kill_at (i : Nat) (h : i < l.length) : (killL o l)[i]'(by rw [kill_len]; exact h) = killS o i l[i] := by unfold killL; simp
theorem killS_label (i : Nat) (s : StT) : (killS o i s).label = s.label := by unfold killS; split <;> rfl
theorem killS_def (i : Nat) (s : StT) (h : s.kind = 7) : killS o i s = s := by unfold killS; rw [if_pos (.inr h)]
theorem killS_got (i : Nat) (s : StT) (h : o i = true) : killS o i s = s := by unfold killS; rw [if_pos (.inl h)]
theorem killS_kind (i : Nat) (s : StT) : (killS o i s).kind = 7 ↔ s.kind = 7 := by
  unfold killS
  split
  · exact Iff.rfl
  · rename_i h; exact ⟨fun e => absurd e (by show ¬ ((1 : Int) = 7); decide), fun e => absurd (.inr e) h⟩
theorem firstP_congr (p : StT → Prop) [DecidablePred p] : ∀ (a b : List StT) (i : Nat), a.length = b.length → (∀ j (h : j < a.length) (h' : j < b.length), p a[j] ↔ p b[j]) → firstP p i a = firstP p i b
  | [], [], _, _, _ => rfl
  | [], _ :: _, _, h, _ => by simp at h
  | _ :: _, [], _, h, _ => by simp at h
  | x :: r, y :: q, i, hl, h => by
    have h0 : p x ↔ p y := h 0 (by simp) (by simp)
    have ih := firstP_congr p r q (i + 1) (by simpa using hl) (fun j h1 h2 => by have := h (j + 1) (by simpa using h1) (by simpa using h2); simpa using this)
    rw [firstP, firstP, ih]
    by_cases hx : p x
    · rw [if_pos hx, if_pos (h0.1 hx)]
    · rw [if_neg hx, if_neg (fun e => hx (h0.2 e))]
theorem kill_label (n : ByteArray) : labelF (killL o l) n = labelF l n := by
  rw [labelF_first, labelF_first]
  refine firstP_congr _ _ _ 0 kill_len fun j h h' => ?_
  rw [kill_at j h']
  unfold isL; rw [killS_label]
theorem kill_func (n : ByteArray) : funcF (killL o l) n = funcF l n := by
  rw [funcF_first, funcF_first]
  refine firstP_congr _ _ _ 0 kill_len fun j h h' => ?_
  rw [kill_at j h']
  unfold isF
  by_cases h7 : l[j].kind = 7
  · rw [killS_def j _ h7]
  · exact ⟨fun e => absurd ((killS_kind j _).1 e.1) h7, fun e => absurd e.1 h7⟩
theorem kill_params (n : ByteArray) (h : 0 ≤ funcF l n) : paramsAt (killL o l) (funcF l n) = paramsAt l (funcF l n) := by
  rcases funcGo_at n l 0 with h1 | ⟨d, h1, hd, h7, _⟩
  · unfold funcF at h; omega
  · have hf : funcF l n = (d : Int) := by unfold funcF; rw [h1, Nat.zero_add]
    unfold paramsAt
    rw [hf, Int.toNat_natCast, List.getElem?_eq_getElem (show d < (killL o l).length by rw [kill_len]; exact hd), List.getElem?_eq_getElem hd, kill_at d hd, killS_def d _ h7]
theorem kill_goE (q : List ByteArray) : goE (killL o l) q = goE l q := by
  induction q with
  | nil => rfl
  | cons n r ih =>
    rw [goE, goE, ih]
    have e : gotoBad (killL o l) n ↔ gotoBad l n := by unfold gotoBad; rw [kill_label]
    by_cases h : gotoBad l n
    · rw [if_pos h, if_pos (e.2 h)]
    · rw [if_neg h, if_neg (fun x => h (e.1 x))]
theorem kill_callE (x : PatT) : callE (killL o l) x = callE l x := by
  unfold callE
  rw [kill_func]
  by_cases h : 0 ≤ funcF l x.name
  · rw [kill_params x.name h]
  · have hn : funcF l x.name < 0 := by omega
    by_cases h1 : x.kind ≠ 6
    · rw [if_pos h1, if_pos h1]
    · rw [if_neg h1, if_neg h1]
      by_cases h2 : 0 ≤ builtinF x.name ∧ builtinF x.name ≠ x.kids.length
      · rw [if_pos h2, if_pos h2]
      · rw [if_neg h2, if_neg h2]
        by_cases h3 : builtinF x.name < 0
        · rw [if_pos ⟨h3, hn⟩, if_pos ⟨h3, hn⟩]
        · rw [if_neg (fun e => h3 e.1), if_neg (fun e => h3 e.1), if_neg (fun e => h3 e.1), if_neg (fun e => h3 e.1)]
theorem kill_ndE (q : List PatT) : ndE (killL o l) q = ndE l q := by
  induction q with
  | nil => rfl
  | cons x r ih => rw [ndE, ndE, kill_callE, ih]
theorem kill_exE (q : List PatT) : exE (killL o l) q = exE l q := by
  induction q with
  | nil => rfl
  | cons x r ih => rw [exE, exE, kill_ndE, ih]
theorem kill_uses (s : StT) : usesF (killL o l) s = usesF l s := by unfold usesF; rw [kill_goE, kill_label, kill_exE]
theorem empty_gos (s : StT) : ∀ n ∈ gos (emptyS s), n.size = 0 := by
  intro n hn
  simp only [gos, emptyS, List.mem_cons, List.not_mem_nil, or_false] at hn
  rcases hn with rfl | rfl | rfl <;> rfl
theorem goE_none (l : List StT) : ∀ q : List ByteArray, (∀ n ∈ q, n.size = 0) → goE l q = 0
  | [], _ => rfl
  | n :: r, h => by
    rw [goE, if_neg (fun e => e.1 (h n (List.mem_cons_self ..)))]
    exact goE_none l r fun m hm => h m (List.mem_cons_of_mem _ hm)
theorem empty_uses (l : List StT) (s : StT) : usesF l (emptyS s) = 0 := by
  unfold usesF
  rw [goE_none l _ (empty_gos s), show exprsS (emptyS s) = [] from rfl, if_neg (fun e => absurd (show (1 : Int) = 7 from e.1) (by decide))]
  rfl
theorem optE_no : optE noB = true := rfl
theorem empty_wrong (s : StT) (h : wrongS s = 0) : wrongS (emptyS s) = 0 := by
  have hl : optE s.label = true := by
    unfold wrongS at h
    split at h
    · cases h
    · rename_i h1
      by_cases h2 : optE s.label = true ∧ optE s.always = true ∧ optE s.yes = true ∧ optE s.noes = true
      · exact h2.1
      · exact absurd h2 h1
  unfold wrongS
  rw [if_neg (fun e => e ⟨hl, optE_no, optE_no, optE_no⟩), if_neg (fun e => e.1 rfl), if_pos (show (emptyS s).kind = 1 from rfl)]
theorem wr_all : ∀ (l : List StT) (i : Nat), wrGo i l = none ↔ ∀ s ∈ l, wrongS s = 0
  | [], i => ⟨fun _ s hs => (by cases hs), fun _ => rfl⟩
  | s :: r, i => by
    rw [wrGo]
    by_cases h : wrongS s = 0
    · rw [if_pos h, wr_all r (i + 1)]
      exact ⟨fun e t ht => (List.mem_cons.1 ht).elim (fun x => by rw [x]; exact h) (e t), fun e t ht => e t (List.mem_cons_of_mem _ ht)⟩
    · rw [if_neg h]
      exact ⟨fun e => (by cases e), fun e => absurd (e s (List.mem_cons_self ..)) h⟩
theorem us_none (l : List StT) : ∀ (q : List StT) (i : Nat), (∀ s ∈ q, usesF l s = 0) → usGo l i q = none
  | [], _, _ => rfl
  | s :: r, i, h => by
    rw [usGo, if_pos (h s (List.mem_cons_self ..))]
    exact us_none l r _ fun t ht => h t (List.mem_cons_of_mem _ ht)
theorem nm_none (l : List StT) : ∀ (q : List StT) (i : Nat), (∀ j (h : j < q.length), namedP l (i + j) q[j]) → nmGo l i q = none
  | [], _, _ => rfl
  | s :: r, i, h => by
    rw [nmGo, if_pos (by have := h 0 (by simp); simpa using this)]
    exact nm_none l r _ fun j hj => by have := h (j + 1) (by simpa using hj); rw [show i + 1 + j = i + (j + 1) by omega]; simpa using this
theorem kill_right (hr : (checkF l).1 = 0) : checkF (killL o l) = (0, 0) := by
  obtain ⟨h1, h2, _, _⟩ := check_right hr
  refine check_ok (by rw [kill_len]; exact h1) ((wr_all _ _).2 fun s hs => ?_) (nm_none _ _ 0 fun j hj => ?_) (us_none _ _ _ fun s hs => ?_)
  · obtain ⟨i, hi, rfl⟩ := List.mem_iff_getElem.1 hs
    have hi' : i < l.length := by rw [kill_len] at hi; exact hi
    rw [kill_at i hi']
    have hw := (wr_all l 0).1 h2 l[i] (List.getElem_mem hi')
    unfold killS
    split
    · exact hw
    · exact empty_wrong _ hw
  · have hj' : j < l.length := by rw [kill_len] at hj; exact hj
    rw [kill_at j hj', Nat.zero_add]
    obtain ⟨n1, n2⟩ := right_named hr j hj'
    refine ⟨?_, fun h7 => ?_⟩
    · unfold labelOk at n1 ⊢
      rw [killS_label, kill_label]; exact n1
    · have h7' := (killS_kind j _).1 h7
      have := n2 h7'
      rw [killS_def j _ h7']
      refine ⟨?_, this.2⟩
      have h3 := this.1
      unfold funcOk at h3 ⊢
      rw [kill_func]; exact h3
  · obtain ⟨i, hi, rfl⟩ := List.mem_iff_getElem.1 hs
    have hi' : i < l.length := by rw [kill_len] at hi; exact hi
    rw [kill_at i hi', kill_uses]
    unfold killS
    split
    · exact right_uses hr i hi'
    · exact empty_uses l _
theorem kill_labM : labM (killL o l) = labM l := by funext n; unfold labM; rw [kill_label]
theorem kill_funM : funM (killL o l) = funM l := by funext n; unfold funM; rw [kill_func]
theorem kill_entry (ho : 0 < l.length → o 0 = true) (n : ByteArray) : entryAt (killL o l) ((funM l n).getD 0) = entryAt l ((funM l n).getD 0) := by
  unfold entryAt
  unfold funM
  rcases funcGo_at n l 0 with h1 | ⟨d, h1, hd, h7, _⟩
  · have hf : funcF l n < 0 := by unfold funcF; omega
    rw [if_pos hf]
    show (match (killL o l)[0]? with | some t => t.entry | none => ⟨#[]⟩) = match l[0]? with | some t => t.entry | none => ⟨#[]⟩
    by_cases h0 : 0 < l.length
    · rw [List.getElem?_eq_getElem h0, List.getElem?_eq_getElem (show 0 < (killL o l).length by rw [kill_len]; exact h0), kill_at 0 h0, killS_got 0 _ (ho h0)]
    · rw [List.getElem?_eq_none (by rw [kill_len]; omega), List.getElem?_eq_none (by omega)]
  · have hf : funcF l n = (d : Int) := by unfold funcF; rw [h1, Nat.zero_add]
    rw [if_neg (by omega), Option.getD_some, hf, Int.toNat_natCast, List.getElem?_eq_getElem hd, List.getElem?_eq_getElem (show d < (killL o l).length by rw [kill_len]; exact hd), kill_at d hd, killS_def d _ h7]
theorem kill_goP (ho : 0 < l.length → o 0 = true) (i : Nat) (s : StT) : goP (killL o l) i s = goP l i s := by
  unfold goP
  rw [kill_labM, kill_len]
  congr 1
  refine List.map_congr_left fun n _ => ?_
  unfold callT
  rw [kill_labM, kill_funM, kill_entry ho]
/-- As much is come to. -/
theorem kill_rch (ho : ∀ i, o i = true ↔ Rch l i) (i : Nat) : Rch (killL o l) i ↔ Rch l i := by
  have h0 : 0 < l.length → o 0 = true := fun h => (ho 0).2 (.zero h)
  constructor
  · intro h
    induction h with
    | zero h => exact .zero (by rw [kill_len] at h; exact h)
    | step i k hi _ hk hkl ih =>
      have hi' : i < l.length := by rw [kill_len] at hi; exact hi
      have hkl' : k < l.length := by rw [kill_len] at hkl; exact hkl
      refine .step i k hi' ih ?_ hkl'
      rw [kill_at i hi', killS_got i _ ((ho i).2 ih), kill_goP h0] at hk
      exact hk
  · intro h
    induction h with
    | zero h => exact .zero (by rw [kill_len]; exact h)
    | step i k hi hr hk hkl ih =>
      refine .step i k (by rw [kill_len]; exact hi) ih ?_ (by rw [kill_len]; exact hkl)
      rw [kill_at i hi, killS_got i _ ((ho i).2 hr), kill_goP h0]
      exact hk
end
/-- How an empty statement lies. -/
def noA : StA := ⟨none, 0, none, 0, none, 0, none, 0, none, 0⟩
theorem empty_sz {s : StT} (h : StSz s) : StSz (emptyS s) := by
  have hp : PatSz noP := by first | exact ⟨⟨by decide, by decide, by decide⟩, by decide⟩ | exact ⟨by decide, ⟨by decide, by decide, by decide⟩⟩
  exact { label := h.label, target := hp, value := hp, pat := hp, name := by show (0 : Nat) < _; decide, entry := by show (0 : Nat) < _; decide, params := by simp [emptyS], locals := by simp [emptyS], always := by show (0 : Nat) < _; decide, yes := by show (0 : Nat) < _; decide, noes := by show (0 : Nat) < _; decide }
theorem empty_ok (w : World) (S : Nat → Prop) (s : StT) : StOk w S noA (emptyS s) := by
  have hp : ∀ ka, PatsAt w S ka noP.kids := fun ka => by show PatsAt w S ka []; unfold PatsAt; trivial
  exact ⟨hp _, hp _, hp _, fun h => absurd h (by show ¬ (0 < 0); decide), fun h => absurd h (by show ¬ (0 < 0); decide)⟩
end Go.Proofs.Ytkhhinmhgjicgaa
