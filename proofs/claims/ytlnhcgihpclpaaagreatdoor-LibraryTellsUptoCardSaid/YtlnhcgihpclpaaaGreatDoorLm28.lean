/- What the program says first is what the document says (pure). check.Program: what it leaves; the return. append(slices.Concat(params, locals), name): the region's facts. -/
import Derived.Test.YtlnhcgihpclpaaaGreatDoorLm27
import Derived.Test.YtlnhcgihpclpaaaGreatDoorLm23
namespace Go.Proofs.YtlnhcgihpclpaaaGreatDoor
set_option linter.all false
open Go.RowKit

open Classical in
noncomputable def sayB (P : Prop) (i : Int) (r : Int × Int) : Int × Int := if P then sayF r (7, i) else r
theorem sayB_yes {P : Prop} (h : P) (i : Int) (r : Int × Int) : sayB P i r = sayF r (7, i) := if_pos h
theorem sayB_no {P : Prop} (h : ¬ P) (i : Int) (r : Int × Int) : sayB P i r = r := if_neg h
theorem sayF_stay {r : Int × Int} (h : r.1 ≠ 0) (q : Int × Int) : sayF r q = r := if_neg h
theorem sayF_zero (q : Int × Int) : sayF (0, 0) q = q := if_pos rfl
theorem sayE_stay {r : Int × Int} (h : r.1 ≠ 0) (e i : Int) : sayE r e i = r := by unfold sayE; split; rfl; exact sayF_stay h _
/-- What is wrong first with the names of the first j statements. -/
noncomputable def nR (l : List StT) : Nat → Int × Int
  | 0 => (0, 0)
  | j + 1 => match l[j]? with | some s => sayB (badN (mapN l j) s) j (sayB (badL (mapL l j) s) j (nR l j)) | none => nR l j
theorem nR_step (l : List StT) (j : Nat) (h : j < l.length) : nR l (j + 1) = sayB (badN (mapN l j) l[j]) j (sayB (badL (mapL l j) l[j]) j (nR l j)) := by
  rw [nR, List.getElem?_eq_getElem h]
theorem sayB_stay {P : Prop} {i : Int} {r : Int × Int} (h : r.1 ≠ 0) : sayB P i r = r := by unfold sayB; split; exact sayF_stay h _; rfl
theorem nR_stay (l : List StT) (j : Nat) (h0 : (nR l j).1 ≠ 0) : ∀ k, nR l (j + k) = nR l j
  | 0 => rfl
  | k + 1 => by
    rw [← Nat.add_assoc, nR]
    have ih := nR_stay l j h0 k
    cases l[j + k]? with
    | none => exact ih
    | some s => dsimp only; rw [ih, sayB_stay h0, sayB_stay h0]
theorem nR_spec (l : List StT) : ∀ (k j : Nat), j + k = l.length → nR l j = (0, 0) → nR l l.length = match nmGo l j (l.drop j) with | some (a, b) => (a, (b : Int)) | none => (0, 0)
  | 0, j, hj, h0 => by
    obtain rfl : j = l.length := by omega
    rw [List.drop_length, nmGo, h0]
  | k + 1, j, hj, h0 => by
    have hlt : j < l.length := by omega
    have hs := nR_step l j hlt
    by_cases hn : namedP l j l[j]
    · rw [nmGo_yes l j hlt hn]
      obtain ⟨h1, h2⟩ := (named_iff l j hlt).1 hn
      rw [sayB_no h2, sayB_no h1, h0] at hs
      exact nR_spec l k (j + 1) (by omega) hs
    · rw [nmGo_no l j hlt hn]
      have h7 : nR l (j + 1) = (7, (j : Int)) := by
        rw [hs, h0]
        by_cases h1 : badL (mapL l j) l[j]
        · rw [sayB_yes h1, sayF_zero, sayB_stay (by show (7 : Int) ≠ 0; decide)]
        · by_cases h2 : badN (mapN l j) l[j]
          · rw [sayB_yes h2, sayB_no h1, sayF_zero]
          · exact absurd ((named_iff l j hlt).2 ⟨h1, h2⟩) hn
      have := nR_stay l (j + 1) (by rw [h7]; show (7 : Int) ≠ 0; decide) (l.length - (j + 1))
      rw [show j + 1 + (l.length - (j + 1)) = l.length by omega] at this
      rw [this, h7]
theorem nm_all (l : List StT) : ∀ (k j : Nat), j + k = l.length → nmGo l j (l.drop j) = none → ∀ i (h : i < l.length), j ≤ i → namedP l i l[i]
  | 0, j, hj, h0, i, hi, hji => by omega
  | k + 1, j, hj, h0, i, hi, hji => by
    have hlt : j < l.length := by omega
    by_cases hn : namedP l j l[j]
    · rw [nmGo_yes l j hlt hn] at h0
      by_cases he : j = i
      · subst he; exact hn
      · exact nm_all l k (j + 1) (by omega) h0 i hi (by omega)
    · rw [nmGo_no l j hlt hn] at h0; cases h0
/-- A function's statement, a label's, as a map. -/
def labM (l : List StT) (n : ByteArray) : Option Int := if labelF l n < 0 then none else some (labelF l n)
def funM (l : List StT) (n : ByteArray) : Option Int := if funcF l n < 0 then none else some (funcF l n)
theorem mapL_all (l : List StT) (h : ∀ i (h : i < l.length), namedP l i l[i]) : mapL l l.length = labM l := by
  funext n
  rw [mapL_last, last_all, ← labelF_first]; rfl
  intro j hj hp
  rw [← labelF_first]
  rcases (h j hj).1 with h1 | h1
  · exact absurd h1 (by rw [hp.1]; exact hp.2)
  · rw [← hp.1]; exact h1.2
theorem mapN_all (l : List StT) (h : ∀ i (h : i < l.length), namedP l i l[i]) : mapN l l.length = funM l := by
  funext n
  rw [mapN_last, last_all, ← funcF_first]; rfl
  intro j hj hp
  rw [← funcF_first]
  have h1 := ((h j hj).2 hp.1).1.2
  rw [← hp.2]; exact h1
/-- A label that is gone to and does not stand. -/
def gotoB (m : ByteArray → Option Int) (n : ByteArray) : Prop := n.size ≠ 0 ∧ (m n).isSome = false ∧ keptF n = false
instance (m : ByteArray → Option Int) (n : ByteArray) : Decidable (gotoB m n) := by unfold gotoB; exact inferInstance
def goR (m : ByteArray → Option Int) (i : Int) : List ByteArray → Int × Int → Int × Int
  | [], r => r
  | n :: q, r => goR m i q (sayE r (if gotoB m n then 6 else 0) i)
def entE (m : ByteArray → Option Int) (s : StT) : Int := if s.kind = 7 ∧ (m s.entry).isSome = false then 6 else 0
def useR (m1 m2 : ByteArray → Option Int) (l : List StT) (i : Int) (s : StT) (r : Int × Int) : Int × Int :=
  callsL m2 l i (exprsS s) (sayE (goR m1 i (gos s) r) (entE m1 s) i)
def uR (m1 m2 : ByteArray → Option Int) (l : List StT) (r : Int × Int) : Nat → Int × Int
  | 0 => r
  | j + 1 => match l[j]? with | some s => useR m1 m2 l j s (uR m1 m2 l r j) | none => uR m1 m2 l r j
theorem uR_step (m1 m2 : ByteArray → Option Int) (l : List StT) (r : Int × Int) (j : Nat) (h : j < l.length) : uR m1 m2 l r (j + 1) = useR m1 m2 l j l[j] (uR m1 m2 l r j) := by
  rw [uR, List.getElem?_eq_getElem h]
theorem goR_drop (m : ByteArray → Option Int) (i : Int) (q : List ByteArray) (j : Nat) (h : j < q.length) (r : Int × Int) : goR m i (q.drop j) r = goR m i (q.drop (j + 1)) (sayE r (if gotoB m q[j] then 6 else 0) i) := by
  rw [List.drop_eq_getElem_cons h, goR]
theorem goR_stay (m : ByteArray → Option Int) (i : Int) (r : Int × Int) (h : r.1 ≠ 0) : ∀ q, goR m i q r = r
  | [] => rfl
  | n :: q => by rw [goR, sayE_stay h, goR_stay m i r h q]
mutual
theorem callsR_stay (m : ByteArray → Option Int) (l : List StT) (i : Int) (r : Int × Int) (h : r.1 ≠ 0) : ∀ x, callsR m l i x r = r
  | .mk k t n nm kids => by rw [callsR, sayE_stay h, callsL_stay m l i r h kids]
theorem callsL_stay (m : ByteArray → Option Int) (l : List StT) (i : Int) (r : Int × Int) (h : r.1 ≠ 0) : ∀ q, callsL m l i q r = r
  | [] => by rw [callsL]
  | x :: q => by rw [callsL, callsR_stay m l i r h x, callsL_stay m l i r h q]
end
theorem useR_stay (m1 m2 : ByteArray → Option Int) (l : List StT) (i : Int) (s : StT) (r : Int × Int) (h : r.1 ≠ 0) : useR m1 m2 l i s r = r := by
  unfold useR
  rw [goR_stay _ _ _ h, sayE_stay h, callsL_stay _ _ _ _ h]
theorem uR_stay (m1 m2 : ByteArray → Option Int) (l : List StT) (r : Int × Int) (j : Nat) (h : (uR m1 m2 l r j).1 ≠ 0) : ∀ k, uR m1 m2 l r (j + k) = uR m1 m2 l r j
  | 0 => rfl
  | k + 1 => by
    rw [← Nat.add_assoc, uR]
    have ih := uR_stay m1 m2 l r j h k
    cases l[j + k]? with
    | none => exact ih
    | some s => dsimp only; rw [ih, useR_stay _ _ _ _ _ _ h]
theorem sayE_sayE (r : Int × Int) (a b i : Int) : sayE (sayE r a i) b i = sayE r (if a = 0 then b else a) i := by
  by_cases ha : a = 0
  · rw [if_pos ha, show sayE r a i = r from if_pos ha]
  · rw [if_neg ha]
    by_cases hr : r.1 = 0
    · have : sayE r a i = (a, i) := (if_neg ha).trans (if_pos hr)
      rw [this, sayE_stay ha]
    · rw [sayE_stay hr, sayE_stay hr]
theorem goto_lab (l : List StT) (n : ByteArray) : gotoB (labM l) n ↔ gotoBad l n := by
  unfold gotoB gotoBad labM
  by_cases h : labelF l n < 0
  · simp [h]
  · simp [h]
theorem goR_lab (l : List StT) (i : Int) : ∀ q r, goR (labM l) i q r = sayE r (goE l q) i
  | [], r => (if_pos rfl).symm
  | n :: q, r => by
    rw [goR, goR_lab l i q, sayE_sayE, goE]
    by_cases h : gotoBad l n
    · rw [if_pos h, if_pos ((goto_lab l n).2 h), if_neg (by decide)]
    · rw [if_neg h, if_neg (fun e => h ((goto_lab l n).1 e)), if_pos rfl]
theorem ent_lab (l : List StT) (s : StT) : entE (labM l) s = if s.kind = 7 ∧ labelF l s.entry < 0 then 6 else 0 := by
  unfold entE labM
  by_cases h : labelF l s.entry < 0
  · simp [h]
  · simp [h]
theorem call_fun (l : List StT) (x : PatT) : callS (funM l) l x = callE l x := by
  unfold callS callE funM
  by_cases h : funcF l x.name < 0
  · simp [h]
    by_cases h1 : x.kind = 6
    · rw [if_pos h1, if_pos h1]
      by_cases h2 : 0 ≤ builtinF x.name ∧ ¬ builtinF x.name = x.kids.length
      · rw [if_pos h2, if_pos h2]
      · rw [if_neg h2, if_neg h2]
        by_cases h3 : builtinF x.name < 0
        · rw [if_pos h3, if_pos h3]
        · rw [if_neg h3, if_neg h3, if_neg (fun e => h3 e.1), if_neg (fun e => h3 e.1)]
    · rw [if_neg h1, if_neg h1]
  · simp [h]
theorem ndE_app (l : List StT) : ∀ a b, ndE l (a ++ b) = if ndE l a = 0 then ndE l b else ndE l a
  | [], b => (if_pos rfl).symm
  | y :: r, b => by
    rw [List.cons_append, ndE, ndE, ndE_app l r b]
    by_cases h : callE l y = 0
    · simp only [h, if_true]
    · simp only [h, if_false]
mutual
theorem callsR_fun (l : List StT) (i : Int) : ∀ x r, callsR (funM l) l i x r = sayE r (ndE l (allT x)) i
  | .mk k t n nm kids, r => by
    rw [callsR, callsL_fun l i kids, sayE_sayE, call_fun, allT, ndE]
theorem callsL_fun (l : List StT) (i : Int) : ∀ q r, callsL (funM l) l i q r = sayE r (ndE l (allL q)) i
  | [], r => by rw [callsL, allL, ndE]; exact (if_pos rfl).symm
  | x :: q, r => by
    rw [callsL, callsL_fun l i q, callsR_fun l i x, sayE_sayE, allL, ndE_app]
end
theorem exE_allL (l : List StT) : ∀ q, exE l q = ndE l (allL q)
  | [] => rfl
  | x :: q => by rw [exE, allL, ndE_app, exE_allL l q]
theorem useR_eq (l : List StT) (i : Int) (s : StT) (r : Int × Int) : useR (labM l) (funM l) l i s r = sayE r (usesF l s) i := by
  unfold useR usesF
  rw [callsL_fun, goR_lab, sayE_sayE, sayE_sayE, ent_lab, exE_allL]
  simp only [firstE]
  generalize goE l (gos s) = a
  generalize (if s.kind = 7 ∧ labelF l s.entry < 0 then (6 : Int) else 0) = b
  generalize ndE l (allL (exprsS s)) = c
  by_cases h1 : a = 0 <;> by_cases h2 : b = 0 <;> by_cases h3 : c = 0 <;> simp [h1, h2, h3]
theorem uR_spec (l : List StT) : ∀ (k j : Nat), j + k = l.length → uR (labM l) (funM l) l (0, 0) j = (0, 0) → uR (labM l) (funM l) l (0, 0) l.length = match usGo l j (l.drop j) with | some (a, b) => (a, (b : Int)) | none => (0, 0)
  | 0, j, hj, h0 => by
    obtain rfl : j = l.length := by omega
    rw [List.drop_length, usGo, h0]
  | k + 1, j, hj, h0 => by
    have hlt : j < l.length := by omega
    have hs := uR_step (labM l) (funM l) l (0, 0) j hlt
    rw [h0, useR_eq] at hs
    rw [usGo_drop l j hlt]
    by_cases hu : usesF l l[j] = 0
    · rw [if_pos hu]
      exact uR_spec l k (j + 1) (by omega) (hs.trans (if_pos hu))
    · rw [if_neg hu]
      have h7 : uR (labM l) (funM l) l (0, 0) (j + 1) = (usesF l l[j], (j : Int)) := hs.trans ((if_neg hu).trans (sayF_zero _))
      have := uR_stay (labM l) (funM l) l (0, 0) (j + 1) (by rw [h7]; exact hu) (l.length - (j + 1))
      rw [show j + 1 + (l.length - (j + 1)) = l.length by omega] at this
      rw [this, h7]
/-- What the program finds behind the first loop. -/
noncomputable def progR (l : List StT) : Int × Int := uR (mapL l l.length) (mapN l l.length) l (nR l l.length) l.length
theorem progR_eq (l : List StT) (hl : ¬ 1000 < l.length) (hw : wrGo 0 l = none) : progR l = ((checkF l).1, ((checkF l).2 : Int)) := by
  unfold progR
  have h1 := nR_spec l l.length 0 (by omega) rfl
  rw [List.drop_zero] at h1
  cases hn : nmGo l 0 l with
  | some r =>
    rw [hn] at h1
    rw [check_nm hl hw hn, h1]
    have hr : r.1 = 7 := by
      have : ∀ (q : List StT) (i : Nat) (r : Int × Nat), nmGo l i q = some r → r.1 = 7 := by
        intro q
        induction q with
        | nil => intro i r h; cases h
        | cons s q ih =>
          intro i r h
          rw [nmGo] at h
          split at h
          · exact ih _ _ h
          · cases h; rfl
      exact this l 0 r hn
    have := uR_stay (mapL l l.length) (mapN l l.length) l (r.1, (r.2 : Int)) 0 (by show r.1 ≠ 0; rw [hr]; decide) l.length
    rw [Nat.zero_add] at this
    exact this
  | none =>
    rw [hn] at h1
    have hall := nm_all l l.length 0 (by omega) (by rw [List.drop_zero]; exact hn)
    rw [h1, mapL_all l (fun i h => hall i h (Nat.zero_le _)), mapN_all l (fun i h => hall i h (Nat.zero_le _)), uR_spec l l.length 0 (by omega) rfl, List.drop_zero]
    cases hu : usGo l 0 l with
    | some r => rw [check_us hl hw hn hu]
    | none => rw [check_ok hl hw hn hu]; rfl
/-- A right program. -/
theorem right_maps (l : List StT) (hl : ¬ 1000 < l.length) (hw : wrGo 0 l = none) (hr : (progR l).1 = 0) : mapL l l.length = labM l ∧ mapN l l.length = funM l ∧ (checkF l).1 = 0 := by
  have h1 := progR_eq l hl hw
  have h2 : (checkF l).1 = 0 := by rw [h1] at hr; exact hr
  refine ⟨?_, ?_, h2⟩
  all_goals
    have hn : nmGo l 0 l = none := by
      cases hn : nmGo l 0 l with
      | none => rfl
      | some r =>
        rw [check_nm hl hw hn] at h2
        have : ∀ (q : List StT) (i : Nat) (r : Int × Nat), nmGo l i q = some r → r.1 = 7 := by
          intro q
          induction q with
          | nil => intro i r h; cases h
          | cons s q ih =>
            intro i r h
            rw [nmGo] at h
            split at h
            · exact ih _ _ h
            · cases h; rfl
        rw [this l 0 r hn] at h2; cases h2
    have hall := nm_all l l.length 0 (by omega) (by rw [List.drop_zero]; exact hn)
  · exact mapL_all l (fun i h => hall i h (Nat.zero_le _))
  · exact mapN_all l (fun i h => hall i h (Nat.zero_le _))
end Go.Proofs.YtlnhcgihpclpaaaGreatDoor

namespace Go.Proofs.YtlnhcgihpclpaaaGreatDoor
set_option linter.all false
open Go.RowKit

/-- The program's table at p, where nothing is wrong. -/
def TabQ (l : List StT) (B : Nat) (p : Option Addr) (w' : World) : Prop :=
  ∃ T B1 B2 n1 n2, p = some ⟨T, 0, none⟩ ∧ TabT w' T B1 B2 ∧ MapF w' B1 n1 (labM l) ∧ MapF w' B2 n2 (funM l) ∧ B ≤ T ∧ B ≤ B1 ∧ B ≤ B2
def ProgQ (l : List StT) (w : World) (e : Ending) (w' : World) : Prop :=
  ∃ p, e = .returned (.tuple #[.pointer p, .agg #[.int .i64 (checkF l).1, .int .i64 ((checkF l).2 : Int)]]) ∧ Kept Nix w w' ∧ ((checkF l).1 = 0 → TabQ l w.heap.size p w') ∧ ((checkF l).1 ≠ 0 → p = none)
theorem ret_prog {f : Func} {tmps : Array Value} {l : List StT} {w w2 : World} {F : Nat} {p : Option Addr} {a b : Int} (hres : f.results = #[.tmp 2, .cell 3 30]) (h2 : tmps.getD 2 undef = .pointer p) (h3 : tmps.getD 3 undef = .pointer (some ⟨F, 0, none⟩)) (hF : Fl F a b w2)
    (hr : (a, b) = ((checkF l).1, ((checkF l).2 : Int))) (K : Kept Nix w w2) (hp : (checkF l).1 = 0 → TabQ l w.heap.size p w2) (hn : (checkF l).1 ≠ 0 → p = none) : bodyPost Tryz.prog f (ProgQ l w) .ret ⟨tmps, []⟩ w2 := by
  obtain ⟨h0, h1, _, _⟩ := hF.cells
  simp only [Prod.mk.injEq] at hr
  obtain ⟨rfl, rfl⟩ := hr
  have ht2 : tmps[2]?.getD undef = .pointer p := by rw [← h2, Array.getD_eq_getD_getElem?]
  have ht3 : tmps[3]?.getD undef = .pointer (some ⟨F, 0, none⟩) := by rw [← h3, Array.getD_eq_getD_getElem?]
  exact bodyPost_ret (v := .tuple #[.pointer p, .agg #[.int .i64 (checkF l).1, .int .i64 ((checkF l).2 : Int)]]) (by simp [results, hres, go_sem, ht2, ht3, h0, h1]) rfl ⟨p, rfl, K, hp, hn⟩
theorem check_big {l : List StT} (h : 1000 < l.length) : checkF l = (5, 0) := if_pos h
section
open Go.Maps Go.WideMaps
theorem MapF.put {w : World} {B n : Nat} {m : ByteArray → Option Int} (h : MapF w B n m) (hn : n < maxLen) (s : ByteArray) (hs : s.size ≤ maxLen) (c : Int) (hc : (Lit.int .i64 c).wf = true) :
    ∃ w', (Instr.mapUpdate 69 (.map (some B)) (.string s) (.int .i64 c)).run Tryz.prog w = .ok () w' ∧ MapF w' B (n + 1) (putM m s c) ∧ Kept (· = B) w w' := by
  obtain ⟨D, hown, hmap, hD⟩ := h
  obtain ⟨w', hrun, hown', hgr⟩ := hown.update mapLaw Tryz.underlying69 hn (keyOf_string_mk Tryz.underlying9 hs) (plainElem_int (H := Unit) (a := c) Tryz.underlying3 hc)
  refine ⟨w', hrun, ⟨_, hown', ?_, fun t => ?_⟩, (Kept.refl (· = B) w).grown hgr fun k hk => .inl (by cases hk; rfl)⟩
  · obtain ⟨es, rfl⟩ := hmap; exact ⟨_, rfl⟩
  · have hkl : WideAt.IsKeyLit (Lit.string s.data.toList) := by first | exact .string _ | trivial | (simp [WideAt.IsKeyLit])
    unfold putM
    by_cases ht : t = s
    · subst ht
      rw [if_pos rfl]
      exact ⟨has_put_same hmap hkl _, fun z => atKey_put_same hmap hkl _ z⟩
    · rw [if_neg ht]
      exact ⟨(has_put_other (bytes_ne ht) _).trans (hD t).1, fun z => (atKey_put_other (bytes_ne ht) _ z).trans ((hD t).2 z)⟩
end
/-- The frame of the last two loops. -/
def PgX (N B1 B2 : Nat) (b : Nat) : Prop := b = N ∨ b = B1 ∨ b = B2

end Go.Proofs.YtlnhcgihpclpaaaGreatDoor

namespace Go.Proofs.YtlnhcgihpclpaaaGreatDoor
set_option linter.all false
open Go.RowKit

section
variable {P : Program} {Q : Exit → Act → World → Prop}
theorem opX_call {J : (Nat → Bool) → (Nat → Value) → World → Prop} {X : Nat → Prop} {l : Nat → Bool} {i : Nat} {o : Oper} {x : Act} {w : World} {f : FuncId} {args : Array Value} {R : Nat → Value → World → Prop} (hr : (execOp x.eval o).run P w = .ok (.enter f args) w)
    (hc : Calls P f args w fun e w' => ∃ v, e = .returned v ∧ R i v w' ∧ Kept X w w' ∧ ∀ l', (∀ j, l' j = true ↔ j = i ∨ l j = true) → J l' (fun t => (x.put o.dst v).tmps.getD t undef) w') :
    o.wp P x w (fun a' w' => ∃ v, a' = x.put o.dst v ∧ (∀ d, o.dst = some d → R i v w') ∧ Kept X w w' ∧ ∀ l', (∀ j, l' j = true ↔ j = i ∨ l j = true) → J l' (fun t => (x.put o.dst v).tmps.getD t undef) w') Q := by
  unfold Oper.wp
  rw [hr]
  refine Calls.mono hc ?_
  rintro e w' ⟨v, rfl, hs, hk, hj⟩
  exact ⟨v, rfl, fun _ _ => hs, hk, hj⟩
end
/-- A block that holds two lists of texts, one beside the other. -/
def TwoS (w : World) (u pv qv : Value) : Prop := ∃ g, u = .slice (some ⟨g, 0, none⟩) 2 2 ∧ g < w.heap.size ∧ w.cell? ⟨g, 0, none⟩ = some pv ∧ w.cell? ⟨g, 1, none⟩ = some qv
def One1 (w : World) (u : Value) (x : ByteArray) : Prop := ∃ g, u = .slice (some ⟨g, 0, none⟩) 1 1 ∧ g < w.heap.size ∧ w.heap[g]? = some (.cells #[.string x] 9 (0, 0))
theorem TwoS.kept {w w' : World} {u pv qv : Value} (h : TwoS w u pv qv) (hk : Kept Nix w w') : TwoS w' u pv qv := by
  obtain ⟨g, h1, h2, h3, h4⟩ := h
  exact ⟨g, h1, Nat.lt_of_lt_of_le h2 hk.size, (hk.cell h2 (fun h => h)).trans h3, (hk.cell h2 (fun h => h)).trans h4⟩
theorem One1.kept {w w' : World} {u : Value} {x : ByteArray} (h : One1 w u x) (hk : Kept Nix w w') : One1 w' u x := by
  obtain ⟨g, h1, h2, h3⟩ := h
  exact ⟨g, h1, Nat.lt_of_lt_of_le h2 hk.size, (hk.block g h2 (fun h => h)).trans h3⟩
theorem Ch.kept {w w' : World} {B n : Nat} {xs : List Value} {u : Value} (h : Ch w B n xs u) (hk : Kept Nix w w') : Ch w' B n xs u := by
  obtain ⟨a, c, rfl, hw⟩ := h
  exact ⟨a, c, rfl, hw.kept hk (fun _ _ h => h)⟩
theorem Ch.mono {w : World} {B B' n : Nat} {xs : List Value} {u : Value} (h : Ch w B n xs u) (hB : B' ≤ B) : Ch w B' n xs u := by
  obtain ⟨a, c, rfl, hw⟩ := h
  exact ⟨a, c, rfl, hw.mono hB⟩
structure OwnJ (B n : Nat) (xs ys : List Value) (pv qv : Value) (e : ByteArray) (b4 b5 b8 b9 b10 : Bool) (u95 u96 u99 u100 u13 : Value) (w : World) : Prop where
  base : B ≤ w.heap.size
  two : b9 = false → b4 = true → TwoS w u95 pv qv
  ch : b9 = false → b5 = true → Ch w B n xs u96
  one : b9 = false → b8 = true → One1 w u99 e
  fin : b9 = true → Ch w B (n + 1) ys u100
  set : b10 = true → u13 = u100
section
variable {B n : Nat} {xs ys : List Value} {pv qv : Value} {e : ByteArray} {b4 b5 b8 b9 b10 : Bool} {u95 u96 u99 u100 u13 : Value} {w w' : World}
theorem OwnJ.op4 (h : OwnJ B n xs ys pv qv e b4 b5 b8 false false u95 u96 u99 u100 u13 w) {v : Value} (hk : Kept Nix w w') (hv : TwoS w' v pv qv) : OwnJ B n xs ys pv qv e true b5 b8 false false v u96 u99 u100 u13 w' :=
  ⟨Nat.le_trans h.base hk.size, fun _ _ => hv, fun a b => (h.ch a b).kept hk, fun a b => (h.one a b).kept hk, fun h => (by cases h), fun h => (by cases h)⟩
theorem OwnJ.op5 (h : OwnJ B n xs ys pv qv e b4 b5 b8 false false u95 u96 u99 u100 u13 w) {v : Value} (hk : Kept Nix w w') (hv : Ch w' w.heap.size n xs v) : OwnJ B n xs ys pv qv e b4 true b8 false false u95 v u99 u100 u13 w' :=
  ⟨Nat.le_trans h.base hk.size, fun a b => (h.two a b).kept hk, fun _ _ => hv.mono h.base, fun a b => (h.one a b).kept hk, fun h => (by cases h), fun h => (by cases h)⟩
theorem OwnJ.op8 (h : OwnJ B n xs ys pv qv e b4 b5 b8 false false u95 u96 u99 u100 u13 w) {v : Value} (hk : Kept Nix w w') (hv : One1 w' v e) : OwnJ B n xs ys pv qv e b4 b5 true false false u95 u96 v u100 u13 w' :=
  ⟨Nat.le_trans h.base hk.size, fun a b => (h.two a b).kept hk, fun a b => (h.ch a b).kept hk, fun _ _ => hv, fun h => (by cases h), fun h => (by cases h)⟩
theorem OwnJ.op9 (h : OwnJ B n xs ys pv qv e b4 b5 b8 false false u95 u96 u99 u100 u13 w) {v : Value} (hk : w.heap.size ≤ w'.heap.size) (hv : Ch w' B (n + 1) ys v) : OwnJ B n xs ys pv qv e b4 b5 b8 true false u95 u96 u99 v u13 w' :=
  ⟨Nat.le_trans h.base hk, fun h => (by cases h), fun h => (by cases h), fun h => (by cases h), fun _ => hv, fun h => (by cases h)⟩
theorem OwnJ.op10 (h : OwnJ B n xs ys pv qv e b4 b5 b8 b9 b10 u95 u96 u99 u100 u13 w) : OwnJ B n xs ys pv qv e b4 b5 b8 b9 true u95 u96 u99 u100 u100 w :=
  ⟨h.base, h.two, h.ch, h.one, h.fin, fun _ => rfl⟩
end
/-- The same over the region's flags and slots. -/
def JO (B n : Nat) (xs ys : List Value) (pv qv : Value) (e : ByteArray) (l : Nat → Bool) (f : Nat → Value) (w : World) : Prop :=
  OwnJ B n xs ys pv qv e (l 4) (l 5) (l 8) (l 9) (l 10) (f 95) (f 96) (f 99) (f 100) (f 13) w
section
variable {B n : Nat} {xs ys : List Value} {pv qv : Value} {e : ByteArray} {l l' : Nat → Bool} {x : Act} {w w' : World} {v : Value}
theorem JO.other {i d : Nat} (h : JO B n xs ys pv qv e l (fun t => x.tmps.getD t undef) w) (hl : ∀ j, l' j = true ↔ j = i ∨ l j = true) (hi : 4 ≠ i ∧ 5 ≠ i ∧ 8 ≠ i ∧ 9 ≠ i ∧ 10 ≠ i) (hd : d ≠ 95 ∧ d ≠ 96 ∧ d ≠ 99 ∧ d ≠ 100 ∧ d ≠ 13) :
    JO B n xs ys pv qv e l' (fun t => (x.put (some d) v).tmps.getD t undef) w := by
  unfold JO at *
  rw [upd_ne hl 4 hi.1, upd_ne hl 5 hi.2.1, upd_ne hl 8 hi.2.2.1, upd_ne hl 9 hi.2.2.2.1, upd_ne hl 10 hi.2.2.2.2]
  dsimp only at *
  rw [put_ne x d 95 v hd.1, put_ne x d 96 v hd.2.1, put_ne x d 99 v hd.2.2.1, put_ne x d 100 v hd.2.2.2.1, put_ne x d 13 v hd.2.2.2.2]
  exact h
theorem JO.put4 (h : JO B n xs ys pv qv e l (fun t => x.tmps.getD t undef) w) (h9 : l 9 = false) (h10 : l 10 = false) (hs : 101 < x.tmps.size) (hk : Kept Nix w w') (hv : TwoS w' v pv qv) (hl : ∀ j, l' j = true ↔ j = 4 ∨ l j = true) :
    JO B n xs ys pv qv e l' (fun t => (x.put (some 95) v).tmps.getD t undef) w' := by
  unfold JO at *
  rw [upd_self hl, upd_ne hl 5 (by decide), upd_ne hl 8 (by decide), upd_ne hl 9 (by decide), upd_ne hl 10 (by decide)]
  dsimp only at *
  rw [put_self x 95 v (by omega), put_ne x 95 96 v (by decide), put_ne x 95 99 v (by decide), put_ne x 95 100 v (by decide), put_ne x 95 13 v (by decide)]
  rw [h9, h10] at h
  rw [h9, h10]
  exact h.op4 hk hv
theorem JO.put5 (h : JO B n xs ys pv qv e l (fun t => x.tmps.getD t undef) w) (h9 : l 9 = false) (h10 : l 10 = false) (hs : 101 < x.tmps.size) (hk : Kept Nix w w') (hv : Ch w' w.heap.size n xs v) (hl : ∀ j, l' j = true ↔ j = 5 ∨ l j = true) :
    JO B n xs ys pv qv e l' (fun t => (x.put (some 96) v).tmps.getD t undef) w' := by
  unfold JO at *
  rw [upd_ne hl 4 (by decide), upd_self hl, upd_ne hl 8 (by decide), upd_ne hl 9 (by decide), upd_ne hl 10 (by decide)]
  dsimp only at *
  rw [put_ne x 96 95 v (by decide), put_self x 96 v (by omega), put_ne x 96 99 v (by decide), put_ne x 96 100 v (by decide), put_ne x 96 13 v (by decide)]
  rw [h9, h10] at h
  rw [h9, h10]
  exact h.op5 hk hv
theorem JO.put8 (h : JO B n xs ys pv qv e l (fun t => x.tmps.getD t undef) w) (h9 : l 9 = false) (h10 : l 10 = false) (hs : 101 < x.tmps.size) (hk : Kept Nix w w') (hv : One1 w' v e) (hl : ∀ j, l' j = true ↔ j = 8 ∨ l j = true) :
    JO B n xs ys pv qv e l' (fun t => (x.put (some 99) v).tmps.getD t undef) w' := by
  unfold JO at *
  rw [upd_ne hl 4 (by decide), upd_ne hl 5 (by decide), upd_self hl, upd_ne hl 9 (by decide), upd_ne hl 10 (by decide)]
  dsimp only at *
  rw [put_ne x 99 95 v (by decide), put_ne x 99 96 v (by decide), put_self x 99 v (by omega), put_ne x 99 100 v (by decide), put_ne x 99 13 v (by decide)]
  rw [h9, h10] at h
  rw [h9, h10]
  exact h.op8 hk hv
theorem JO.put9 (h : JO B n xs ys pv qv e l (fun t => x.tmps.getD t undef) w) (h9 : l 9 = false) (h10 : l 10 = false) (hs : 101 < x.tmps.size) (hk : w.heap.size ≤ w'.heap.size) (hv : Ch w' B (n + 1) ys v) (hl : ∀ j, l' j = true ↔ j = 9 ∨ l j = true) :
    JO B n xs ys pv qv e l' (fun t => (x.put (some 100) v).tmps.getD t undef) w' := by
  unfold JO at *
  rw [upd_ne hl 4 (by decide), upd_ne hl 5 (by decide), upd_ne hl 8 (by decide), upd_self hl, upd_ne hl 10 (by decide)]
  dsimp only at *
  rw [put_ne x 100 95 v (by decide), put_ne x 100 96 v (by decide), put_ne x 100 99 v (by decide), put_self x 100 v (by omega), put_ne x 100 13 v (by decide)]
  rw [h9, h10] at h
  rw [h10]
  exact h.op9 hk hv
theorem JO.put10 (h : JO B n xs ys pv qv e l (fun t => x.tmps.getD t undef) w) (hs : 101 < x.tmps.size) (hv : v = x.tmps.getD 100 undef) (hl : ∀ j, l' j = true ↔ j = 10 ∨ l j = true) :
    JO B n xs ys pv qv e l' (fun t => (x.put (some 13) v).tmps.getD t undef) w := by
  unfold JO at *
  rw [upd_ne hl 4 (by decide), upd_ne hl 5 (by decide), upd_ne hl 8 (by decide), upd_ne hl 9 (by decide), upd_self hl]
  dsimp only at *
  rw [put_ne x 13 95 v (by decide), put_ne x 13 96 v (by decide), put_ne x 13 99 v (by decide), put_ne x 13 100 v (by decide), put_self x 13 v (by omega), hv]
  exact h.op10
theorem JO.start (hB : B ≤ w.heap.size) (hl : ∀ i, i < 11 → l i = false) {f : Nat → Value} : JO B n xs ys pv qv e l f w := by
  unfold JO
  rw [hl 4 (by decide), hl 5 (by decide), hl 8 (by decide), hl 9 (by decide), hl 10 (by decide)]
  exact ⟨hB, fun _ h => (by cases h), fun _ h => (by cases h), fun _ h => (by cases h), fun h => (by cases h), fun h => (by cases h)⟩
theorem JO.eqv {f : Nat → Value} (h : JO B n xs ys pv qv e l f w) (hl : ∀ i, i < 11 → l i = l' i) : JO B n xs ys pv qv e l' f w := by
  unfold JO at *
  rw [← hl 4 (by decide), ← hl 5 (by decide), ← hl 8 (by decide), ← hl 9 (by decide), ← hl 10 (by decide)]
  exact h
end
theorem has_iff (l : List ByteArray) (x : ByteArray) : Lib.containsS (l.take l.length) x = true ↔ x ∈ l := by
  rw [contains_iff l l.length (Nat.le_refl _) x, List.mem_iff_getElem]
theorem has_no {l : List ByteArray} {x : ByteArray} (h : x ∉ l) : Lib.containsS (l.take l.length) x = false := by
  cases hq : Lib.containsS (l.take l.length) x with
  | true => exact absurd ((has_iff l x).1 hq) h
  | false => rfl
theorem own_len (s : StT) : (own s).length = s.params.length + s.locals.length + 1 := by unfold own; simp; omega
theorem own_map (s : StT) : (own s).map Value.string = (s.params.map Value.string ++ s.locals.map Value.string) ++ [.string s.name] := by unfold own; simp
/-- A list that is owned can be read. -/
theorem Ch.strs {w : World} {B : Nat} {l : List ByteArray} {v : Value} (h : Ch w B l.length (l.map Value.string) v) : ∃ a c, v = .slice a l.length c ∧ l.length ≤ c ∧ StrsAt w (fun b => B ≤ b) a l := by
  obtain ⟨a, c, rfl, hw⟩ := h
  rcases hw.cells with ⟨hv, h0⟩ | ⟨g, o, cap, hv, hB, _, hcap, _, hc⟩
  · simp only [Value.slice.injEq] at hv
    exact ⟨a, c, rfl, by omega, fun h => by omega⟩
  · simp only [Value.slice.injEq] at hv
    obtain ⟨rfl, _, rfl⟩ := hv
    exact ⟨_, _, rfl, hcap, fun _ => ⟨g, o, rfl, hB, fun i hi => (hc i (.string l[i]) (by rw [List.getElem?_map, List.getElem?_eq_getElem hi]; rfl)).1⟩⟩
theorem parts_len (s : StT) : (partsO s.kind).length = (exprsS s).length := by
  unfold partsO exprsS
  by_cases h24 : s.kind = 2 ∨ s.kind = 4
  · rw [if_pos h24, if_pos h24]; rfl
  · rw [if_neg h24, if_neg h24]
    by_cases h35 : s.kind = 3 ∨ s.kind = 5
    · rw [if_pos h35, if_pos h35]; rfl
    · rw [if_neg h35, if_neg h35]; rfl
theorem parts_at {w : World} {S : Nat → Prop} {g : Nat} {a : StA} {s : StT} (hB : StB g a s w) (hz : StSz s) (ho : StOk w S a s) (hg : S g) :
    ∀ i (h : i < (exprsS s).length), PatAt w S g ((partsO s.kind)[i]'(by rw [parts_len]; exact h)) (exprsS s)[i] := by
  obtain ⟨c0, c1, c2, c3, c4, c5, c6, c7, c8, c9, c10, c11, _⟩ := hB.cells
  have ht : PatAt w S g 2 s.target := patAt_row hg hz.target.z c2 c3 c4 c5 c6 ho.target
  have hv : PatAt w S g 7 s.value := patAt_row hg hz.value.z c7 c8 c9 c10 c11 ho.value
  unfold partsO exprsS
  by_cases h24 : s.kind = 2 ∨ s.kind = 4
  · simp only [if_pos h24]
    intro i h
    obtain rfl : i = 0 := by simp at h; omega
    exact hv
  · simp only [if_neg h24]
    by_cases h35 : s.kind = 3 ∨ s.kind = 5
    · simp only [if_pos h35]
      intro i h
      rcases (show i = 0 ∨ i = 1 by simp at h; omega) with rfl | rfl
      · exact ht
      · exact hv
    · simp only [if_neg h35]
      intro i h
      simp at h
end Go.Proofs.YtlnhcgihpclpaaaGreatDoor
