/- (*first).say: the first thing that is wrong is kept; check.Parts: where a statement's expressions lie. A map from texts to numbers that the call makes: as a function. -/
import Derived.Test.YtkhhinmhgjicgaaCm4
import Derived.Maps.Own
import Derived.Maps.OwnOps
import Derived.Maps.OwnSet
import Derived.Maps.Views
namespace Go.Proofs.Ytkhhinmhgjicgaa
set_option linter.all false
open Go.RowKit

/-- What was wrong first, at block N. -/
def Fs (N : Nat) (r : Int × Int) (w : World) : Prop := w.heap[N]? = some (.cells #[.int .i64 r.1, .int .i64 r.2] 66 (0, 0))
theorem Fs.lt {N : Nat} {r : Int × Int} {w : World} (h : Fs N r w) : N < w.heap.size := (Array.getElem?_eq_some_iff.1 h).1
theorem Fs.kept {N : Nat} {r : Int × Int} {w w' : World} {X : Nat → Prop} (h : Fs N r w) (hk : Kept X w w') (hx : ¬ X N) : Fs N r w' := by
  unfold Fs; rw [hk.block N h.lt hx]; exact h
theorem Fs.cells {N : Nat} {r : Int × Int} {w : World} (h : Fs N r w) : w.cell? ⟨N, 0, none⟩ = some (.int .i64 r.1) ∧ w.cell? ⟨N, 1, none⟩ = some (.int .i64 r.2) ∧ w.frozen? ⟨N, 0, none⟩ = false ∧ w.frozen? ⟨N, 1, none⟩ = false := by
  unfold Fs at h
  exact ⟨by rw [cell_of_row w N _ _ _ _ h]; rfl, by rw [cell_of_row w N _ _ _ _ h]; rfl, by simp [World.frozen?, h], by simp [World.frozen?, h]⟩
theorem Fs.set {N : Nat} {r : Int × Int} {w : World} (h : Fs N r w) (c d : Int) : Fs N (c, d) ((w.setCell ⟨N, 0, none⟩ (.int .i64 c)).setCell ⟨N, 1, none⟩ (.int .i64 d)) := by
  unfold Fs at *
  simp [World.setCell, Array.getElem?_modify, h]
def sayF (r q : Int × Int) : Int × Int := if r.1 = 0 then q else r
def SayQ (N : Nat) (r : Int × Int) (w : World) (e : Ending) (w' : World) : Prop := e = .returned (.tuple #[]) ∧ Fs N r w' ∧ Kept (· = N) w w'
set_option maxRecDepth 100000 in
theorem say_any (N : Nat) (r : Int × Int) (err at_ : Int) (w : World) (h : Fs N r w) : Calls Try.prog 24 #[.pointer (some ⟨N, 0, none⟩), .int .i64 err, .int .i64 at_] w (SayQ N (sayF r (err, at_)) w) := by
  obtain ⟨a, b⟩ := r
  obtain ⟨f0, f1, f2, f3⟩ := h.cells
  have HF := Lib.hid h
  dsimp only at f0 f1
  clear h
  by_cases h0 : a = 0
  · have fin : Hid (sayF (a, b) (err, at_) = (err, at_)) := if_pos h0
    have e1 : (a == 0) = true := by simpa using h0
    clear h0
    go_enter Try.func24, Try.ntmps24
    go_wp2_with fail
    refine bodyPost_ret (v := .tuple #[]) (by simp [results, Try.results24, go_sem]) rfl ⟨rfl, by rw [fin.out]; exact HF.out.set err at_, ((Kept.refl (· = N) w).setCell (p := ⟨N, 0, none⟩) (.inl rfl) _).setCell (p := ⟨N, 1, none⟩) (.inl rfl) _⟩
  · have fin : Hid (sayF (a, b) (err, at_) = (a, b)) := if_neg h0
    have e1 : (a == 0) = false := by simpa using h0
    clear h0
    go_enter Try.func24, Try.ntmps24
    go_wp2_with fail
    refine bodyPost_ret (v := .tuple #[]) (by simp [results, Try.results24, go_sem]) rfl ⟨rfl, by rw [fin.out]; exact HF.out, Kept.refl _ _⟩

/-- Where a statement's expressions begin, in cells. -/
def partsO (k : Int) : List Nat := if k = 2 ∨ k = 4 then [7] else if k = 3 ∨ k = 5 then [2, 7] else []
/-- A row of pointers into block b. -/
def PtrRow (w : World) (a : Option Addr) (B b o : Nat) (l : List Nat) : Prop := 0 < l.length → ∃ g, a = some ⟨g, 0, none⟩ ∧ B ≤ g ∧ g < w.heap.size ∧ ∀ i (h : i < l.length), w.cell? ⟨g, i, none⟩ = some (.pointer (some ⟨b, o + l[i], none⟩))
def PartsQ (k : Int) (b o : Nat) (w : World) (e : Ending) (w' : World) : Prop := ∃ a, e = .returned (.slice a (partsO k).length (partsO k).length) ∧ PtrRow w' a w.heap.size b o (partsO k) ∧ Kept Nix w w'
set_option maxRecDepth 100000 in
set_option maxHeartbeats 1000000 in
theorem parts_any (k : Int) (b o : Nat) (w : World) (h1 : w.cell? ⟨b, o + 1, none⟩ = some (.int .i64 k)) : Calls Try.prog 17 #[.pointer (some ⟨b, o, none⟩)] w (PartsQ k b o w) := by
  by_cases h24 : k = 2 ∨ k = 4
  · have fin : Hid (partsO k = [7]) := if_pos h24
    have P2 : Hid (PtrRow (w.alloc (.cells #[.pointer (some ⟨b, o + 7, none⟩)] 56)) (some ⟨w.heap.size, 0, none⟩) w.heap.size b o [7]) := fun _ => ⟨_, rfl, Nat.le_refl _, by simp, fun i hi => by
      obtain rfl : i = 0 := by simpa using hi
      simp⟩
    rcases h24 with rfl | rfl
    all_goals
      go_enter Try.func17, Try.ntmps17
      go_wp2_with fail
      go_ret
      exact ⟨some ⟨w.heap.size, 0, none⟩, by rw [fin.out]; rfl, by rw [fin.out]; exact P2.out, (Kept.refl _ _).alloc _⟩
  by_cases h35 : k = 3 ∨ k = 5
  · have fin : Hid (partsO k = [2, 7]) := by unfold Hid partsO; rw [if_neg h24, if_pos h35]
    have P2 : Hid (∀ w' : World, w'.heap = w.heap → PtrRow (w'.alloc (.cells #[.pointer (some ⟨b, o + 2, none⟩), .pointer (some ⟨b, o + 7, none⟩)] 56)) (some ⟨w.heap.size, 0, none⟩) w.heap.size b o [2, 7]) := fun w' hw _ => ⟨_, rfl, Nat.le_refl _, by simp [hw], fun i hi => by
      rcases (show i = 0 ∨ i = 1 by simp at hi; omega) with rfl | rfl <;> (rw [← hw]; simp)⟩
    clear h24
    rcases h35 with rfl | rfl
    all_goals
      go_enter Try.func17, Try.ntmps17
      go_wp2_with fail
      go_region
      go_wp2_with fail
      go_ret
      exact ⟨some ⟨w.heap.size, 0, none⟩, by rw [fin.out]; rfl, by rw [fin.out]; exact P2.out _ rfl, (Kept.refl _ _).drew.alloc _⟩
  · have fin : Hid (partsO k = []) := by unfold Hid partsO; rw [if_neg h24, if_neg h35]
    have z1 : (k == 2) = false := by simp; omega
    have z2 : (k == 4) = false := by simp; omega
    have z3 : (k == 3) = false := by simp; omega
    have z4 : (k == 5) = false := by simp; omega
    clear h24 h35
    go_enter Try.func17, Try.ntmps17
    go_wp2_with fail
    go_ret
    exact ⟨none, by rw [fin.out]; rfl, by rw [fin.out]; exact fun h => by simp at h, Kept.refl _ _⟩
end Go.Proofs.Ytkhhinmhgjicgaa

namespace Go.Proofs.Ytkhhinmhgjicgaa
set_option linter.all false
open Go.RowKit Go.Maps Go.WideMaps

theorem mapLaw : Keyed Try.prog 9 := string_keyed Try.underlying9
theorem zeroInt (w : World) : (zeroValue 3).run Try.prog w = .ok (.int .i64 0) w := by kernel_rfl
/-- Block B is a map of at most n entries that has what m says. -/
def MapF (w : World) (B n : Nat) (m : ByteArray → Option Int) : Prop :=
  ∃ D : DataW Unit, w.ownsMap Try.prog 9 (plainElem Try.prog 3) B n D ∧ IsMap D ∧
    ∀ s : ByteArray, Maps.has D (.string s.data.toList) = (m s).isSome ∧ ∀ z, D.atKey (.string s.data.toList) z = match m s with | some c => .lit (.int .i64 c) | none => z
theorem MapF.made (w : World) : MapF (w.alloc (.map #[] 0)) w.heap.size 0 (fun _ => none) :=
  ⟨.map [], World.ownsMap_made w _ _ _, ⟨[], rfl⟩, fun s => ⟨rfl, fun z => rfl⟩⟩
theorem MapF.lt {w : World} {B n : Nat} {m : ByteArray → Option Int} (h : MapF w B n m) : B < w.heap.size := by
  obtain ⟨D, h, _⟩ := h; exact h.lt
theorem MapF.kept {w w' : World} {B n : Nat} {m : ByteArray → Option Int} {X : Nat → Prop} (h : MapF w B n m) (hk : Kept X w w') (hx : ¬ X B) : MapF w' B n m := by
  have hlt := h.lt
  obtain ⟨D, ⟨es, clock, hb, F, hs, hD⟩, h2⟩ := h
  exact ⟨D, ⟨es, clock, (hk.block B hlt hx).trans hb, F, hs, hD⟩, h2⟩
theorem bytes_ne {s t : ByteArray} (h : s ≠ t) : (Lit.string s.data.toList) ≠ .string t.data.toList := by
  intro e
  simp only [Lit.string.injEq] at e
  apply h
  obtain ⟨x⟩ := s; obtain ⟨y⟩ := t
  have : x = y := Array.toList_inj.1 e
  rw [this]
def putM (m : ByteArray → Option Int) (k : ByteArray) (c : Int) : ByteArray → Option Int := fun s => if s = k then some c else m s

theorem wpList_look_ok {w : World} {ops : Array Oper} {rest : List Oper} {o : Oper} {a : Act} {Q : Exit → Act → World → Prop} (hg : o.guard = none) (p x : Operand) (hop : o.op = Op.lookup 58 p x true)
    {B n : Nat} {m : ByteArray → Option Int} (hm : a.eval p = .map (some B)) (h : MapF w B n m) (s : ByteArray) (hx : a.eval x = .string s) (hs : s.size ≤ maxLen)
    (hK : wpList Try.prog ops Q rest (a.put o.dst (.tuple #[.int .i64 ((m s).getD 0), .bool (m s).isSome])) w) : wpList Try.prog ops Q (o :: rest) a w := by
  obtain ⟨D, hown, hmap, hD⟩ := h
  refine wpList_lookup_own_ok_int w hg p x _ hop 9 3 .i64 mapLaw Try.underlying58 Try.underlying3 (zeroInt w) B n D hm hown (.string s) _ hx (keyOf_string_mk Try.underlying9 hs) fun c hat _ => ?_
  obtain ⟨h1, h2⟩ := hD s
  rw [h2] at hat
  rw [h1]
  cases hms : m s with
  | none =>
    rw [hms] at hat hK
    simp only [DataW.lit.injEq, Lit.int.injEq, true_and] at hat
    subst hat
    exact hK
  | some d =>
    rw [hms] at hat hK
    simp only [DataW.lit.injEq, Lit.int.injEq, true_and] at hat
    subst hat
    exact hK
theorem wpList_look {w : World} {ops : Array Oper} {rest : List Oper} {o : Oper} {a : Act} {Q : Exit → Act → World → Prop} (hg : o.guard = none) (p x : Operand) (hop : o.op = Op.lookup 58 p x false)
    {B n : Nat} {m : ByteArray → Option Int} (hm : a.eval p = .map (some B)) (h : MapF w B n m) (s : ByteArray) (hx : a.eval x = .string s) (hs : s.size ≤ maxLen)
    (hK : wpList Try.prog ops Q rest (a.put o.dst (.int .i64 ((m s).getD 0))) w) : wpList Try.prog ops Q (o :: rest) a w := by
  obtain ⟨D, hown, hmap, hD⟩ := h
  refine wpList_lookup_own_int w hg p x _ hop 9 3 .i64 mapLaw Try.underlying58 Try.underlying3 (zeroInt w) B n D hm hown (.string s) _ hx (keyOf_string_mk Try.underlying9 hs) fun c hat _ => ?_
  obtain ⟨h1, h2⟩ := hD s
  rw [h2] at hat
  cases hms : m s with
  | none =>
    rw [hms] at hat hK
    simp only [DataW.lit.injEq, Lit.int.injEq, true_and] at hat
    subst hat
    exact hK
  | some d =>
    rw [hms] at hat hK
    simp only [DataW.lit.injEq, Lit.int.injEq, true_and] at hat
    subst hat
    exact hK
theorem wpList_mapput {w : World} {ops : Array Oper} {rest : List Oper} {o : Oper} {a : Act} {Q : Exit → Act → World → Prop} (hg : o.guard = none) (p x y : Operand) (hop : o.op = Op.mapUpdate 58 p x y)
    {B n : Nat} {m : ByteArray → Option Int} (hm : a.eval p = .map (some B)) (h : MapF w B n m) (hn : n < maxLen) (s : ByteArray) (hx : a.eval x = .string s) (hs : s.size ≤ maxLen) (c : Int) (hy : a.eval y = .int .i64 c) (hc : (Lit.int .i64 c).wf = true)
    (hK : ∀ w', MapF w' B (n + 1) (putM m s c) → Kept (· = B) w w' → wpList Try.prog ops Q rest (a.put o.dst undef) w') : wpList Try.prog ops Q (o :: rest) a w := by
  obtain ⟨D, hown, hmap, hD⟩ := h
  refine wpList_mapUpdate_own w hg p x y _ hop 9 3 mapLaw Try.underlying58 _ B n D hm hown hn (.string s) _ _ hx hy (keyOf_string_mk Try.underlying9 hs) (.lit (.int .i64 c)) [] (plainElem_int Try.underlying3 hc) fun w' hown' hgr => ?_
  refine hK w' ⟨_, hown', ?_, fun t => ?_⟩ ((Kept.refl (· = B) w).grown hgr fun k hk => .inl (by cases hk; rfl))
  · obtain ⟨es, rfl⟩ := hmap; exact ⟨_, rfl⟩
  · have hkl : WideAt.IsKeyLit (Lit.string s.data.toList) := by first | exact .string _ | trivial | (simp [WideAt.IsKeyLit])
    unfold putM
    by_cases ht : t = s
    · subst ht
      rw [if_pos rfl]
      exact ⟨has_put_same hmap hkl _, fun z => atKey_put_same hmap hkl _ z⟩
    · rw [if_neg ht]
      exact ⟨(has_put_other (bytes_ne ht) _).trans (hD t).1, fun z => (atKey_put_other (bytes_ne ht) _ z).trans ((hD t).2 z)⟩
end Go.Proofs.Ytkhhinmhgjicgaa
