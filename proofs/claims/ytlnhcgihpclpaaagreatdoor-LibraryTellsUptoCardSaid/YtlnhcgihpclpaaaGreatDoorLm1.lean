/- A slice that the call owns, wherever in its block it begins; what append makes of it, whatever the source. A block of five cells: a pattern alone. -/
import Derived.Test.YtlnhcgihpclpaaaGreatDoorProg
import Derived.WalkKit
import Derived.WalkSpells
import Derived.WalkLawsBesides
import Derived.Lib.Hide
import Derived.Deep.DeepCutAuto
import Derived.Deep.CutBlock
import Derived.Deep.Light
import Derived.Deep.DeepFit
import Derived.Deep.DeepMust
import Derived.Deep.AppendLies
import Derived.Deep.AppendSrc
import Derived.Deep.RegionLaw
namespace Go.Proofs.YtlnhcgihpclpaaaGreatDoor
set_option linter.all false
open Go.RowKit

/-- All blocks of w but those of X are in w' as they were. -/
structure Kept (X : Nat → Prop) (w w' : World) : Prop where
  os : w'.os = w.os
  tape : w'.tape = w.tape
  output : w'.output = w.output
  size : w.heap.size ≤ w'.heap.size
  block : ∀ k, k < w.heap.size → ¬ X k → w'.heap[k]? = w.heap[k]?
def Nix (_ : Nat) : Prop := False

theorem Kept.refl (X : Nat → Prop) (w : World) : Kept X w w := ⟨rfl, rfl, rfl, Nat.le_refl _, fun _ _ _ => rfl⟩
/-- Behind a callee: what it may write is ours, or new. -/
theorem Kept.step {X Y : Nat → Prop} {a b c : World} (h : Kept X a b) (k : Kept Y b c) (hy : ∀ y, Y y → X y ∨ a.heap.size ≤ y) : Kept X a c :=
  ⟨k.os.trans h.os, k.tape.trans h.tape, k.output.trans h.output, Nat.le_trans h.size k.size,
   fun i hi hx => (k.block i (Nat.lt_of_lt_of_le hi h.size) (fun hm => (hy i hm).elim hx (fun h1 => by omega))).trans (h.block i hi hx)⟩
theorem Kept.trans {X : Nat → Prop} {a b c : World} (h : Kept X a b) (k : Kept X b c) : Kept X a c := h.step k fun _ hy => .inl hy
theorem Kept.quiet {X : Nat → Prop} {a b c : World} (h : Kept X a b) (k : Kept Nix b c) : Kept X a c := h.step k fun _ hy => hy.elim
theorem Kept.more {X Y : Nat → Prop} {w w' : World} (h : Kept X w w') (hy : ∀ x, X x → Y x) : Kept Y w w' :=
  ⟨h.os, h.tape, h.output, h.size, fun k hk hn => h.block k hk fun hx => hn (hy k hx)⟩
theorem Kept.drew {X : Nat → Prop} {a w : World} (h : Kept X a w) : Kept X a w.drew := ⟨h.os, h.tape, h.output, h.size, h.block⟩
theorem Kept.drewN {X : Nat → Prop} {a w : World} (h : Kept X a w) (n : Nat) : Kept X a (w.drewN n) := ⟨h.os, h.tape, h.output, h.size, h.block⟩
theorem Kept.alloc {X : Nat → Prop} {a w : World} (h : Kept X a w) (o : Obj) : Kept X a (w.alloc o) :=
  h.quiet ⟨rfl, rfl, rfl, by simp, fun k hk _ => Below.heap_alloc _ _ _ hk⟩
theorem Kept.setCell {X : Nat → Prop} {a w : World} (h : Kept X a w) {p : Addr} (hp : X p.block ∨ a.heap.size ≤ p.block) (u : Value) : Kept X a (w.setCell p u) :=
  h.step (Y := (· = p.block)) ⟨rfl, rfl, rfl, by simp [World.setCell], fun k _ hn => Below.heap_setCell _ _ _ _ hn⟩ (by rintro y rfl; exact hp)
theorem Kept.grown {X : Nat → Prop} {a w w' : World} {row : Option Nat} (h : Kept X a w) (hg : w.grownBy w' row) (hr : ∀ k, row = some k → X k ∨ a.heap.size ≤ k) : Kept X a w' :=
  h.step (Y := fun k => row = some k) ⟨hg.os, hg.tape, hg.output, hg.size, fun k hk hn => hg.block k hk (fun e => hn e.symm)⟩ hr
theorem Kept.below {w w' : World} (h : Kept Nix w w') : Below w.heap.size w w' := ⟨h.os, h.tape, h.output, h.size, fun k hk => h.block k hk (fun h => h)⟩
theorem Kept.cell {X : Nat → Prop} {w w' : World} (h : Kept X w w') {b o : Nat} (hb : b < w.heap.size) (hx : ¬ X b) : w'.cell? ⟨b, o, none⟩ = w.cell? ⟨b, o, none⟩ :=
  World.cell?_of_block (h.block b hb hx)

/-- The one-cell variable of type t at block c holds v. -/
def Cel (w : World) (c : Nat) (t : TypeId) (v : Value) : Prop := w.heap[c]? = some (.cells #[v] t (0, 0))

theorem Cel.lt {w : World} {c : Nat} {t : TypeId} {v : Value} (h : Cel w c t v) : c < w.heap.size := (Array.getElem?_eq_some_iff.1 h).1
theorem Cel.cell {w : World} {c : Nat} {t : TypeId} {v : Value} (h : Cel w c t v) : w.cell? ⟨c, 0, none⟩ = some v := cell_of_one h
theorem Cel.free {w : World} {c : Nat} {t : TypeId} {v : Value} (h : Cel w c t v) : w.frozen? ⟨c, 0, none⟩ = false := free_of_one h
theorem Cel.set {w : World} {c : Nat} {t : TypeId} {v : Value} (h : Cel w c t v) (u : Value) : Cel (w.setCell ⟨c, 0, none⟩ u) c t u := one_setCell h
theorem Cel.other {w : World} {c : Nat} {t : TypeId} {v : Value} (h : Cel w c t v) {b o : Nat} (hn : c ≠ b) (u : Value) : Cel (w.setCell ⟨b, o, none⟩ u) c t v := by
  unfold Cel; rw [Below.heap_setCell _ _ _ _ hn]; exact h
theorem Cel.alloc {w : World} {c : Nat} {t : TypeId} {v : Value} (h : Cel w c t v) (o : Obj) : Cel (w.alloc o) c t v := by
  unfold Cel; rw [Below.heap_alloc _ _ _ h.lt]; exact h
theorem Cel.new (w : World) (t : TypeId) (v : Value) : Cel (w.alloc (.cells #[v] t)) w.heap.size t v := heap_alloc_new w _
theorem Cel.new' {w : World} {t : TypeId} {v : Value} {n : Nat} (h : n = w.heap.size) : Cel (w.alloc (.cells #[v] t)) n t v := by subst h; exact Cel.new w t v
theorem Cel.drew {w : World} {c : Nat} {t : TypeId} {v : Value} (h : Cel w c t v) : Cel w.drew c t v := h
theorem Cel.grown {w w' : World} {row : Option Nat} {c : Nat} {t : TypeId} {v : Value} (h : Cel w c t v) (hg : w.grownBy w' row) (hr : row ≠ some c) : Cel w' c t v := by
  unfold Cel; rw [hg.block c h.lt (fun e => hr e.symm)]; exact h
theorem Cel.kept {X : Nat → Prop} {w w' : World} {c : Nat} {t : TypeId} {v : Value} (h : Cel w c t v) (hk : Kept X w w') (hx : ¬ X c) : Cel w' c t v := by
  unfold Cel; rw [hk.block c h.lt hx]; exact h

theorem ret_int {k : IntKind} {a b : Int} (h : a = b) : Ending.returned (.int k a) = .returned (.int k b) := by rw [h]
inductive PatT where
  | mk (kind : Int) (text : ByteArray) (n : Int) (name : ByteArray) (kids : List PatT)

def PatT.kind : PatT → Int | .mk k _ _ _ _ => k
def PatT.text : PatT → ByteArray | .mk _ t _ _ _ => t
def PatT.n : PatT → Int | .mk _ _ n _ _ => n
def PatT.name : PatT → ByteArray | .mk _ _ _ nm _ => nm
def PatT.kids : PatT → List PatT | .mk _ _ _ _ l => l
section
variable (k : Int) (t : ByteArray) (n : Int) (nm : ByteArray) (l : List PatT)
@[simp] theorem PatT.kind_mk : (PatT.mk k t n nm l).kind = k := rfl
@[simp] theorem PatT.text_mk : (PatT.mk k t n nm l).text = t := rfl
@[simp] theorem PatT.n_mk : (PatT.mk k t n nm l).n = n := rfl
@[simp] theorem PatT.name_mk : (PatT.mk k t n nm l).name = nm := rfl
@[simp] theorem PatT.kids_mk : (PatT.mk k t n nm l).kids = l := rfl
end

mutual
/-- The pattern lies in five cells at block b from o on; all its memory is in blocks of S. -/
def PatAt (w : World) (S : Nat → Prop) (b o : Nat) : PatT → Prop
  | .mk k t n nm kids => S b ∧ (t.size < 1000000000 ∧ nm.size < 1000000000 ∧ kids.length < 1000000000) ∧ w.cell? ⟨b, o, none⟩ = some (.int .i64 k) ∧ w.cell? ⟨b, o + 1, none⟩ = some (.string t) ∧
      w.cell? ⟨b, o + 2, none⟩ = some (.int .i64 n) ∧ w.cell? ⟨b, o + 3, none⟩ = some (.string nm) ∧
      ∃ ka cap, w.cell? ⟨b, o + 4, none⟩ = some (.slice ka kids.length cap) ∧ PatsAt w S ka kids
def PatsAt (w : World) (S : Nat → Prop) (ka : Option Addr) : List PatT → Prop
  | [] => True
  | p :: ps => ∃ b o, ka = some ⟨b, o, none⟩ ∧ PatAt w S b o p ∧ PatsAt w S (some ⟨b, o + 5, none⟩) ps
end
/-- A pattern as a value. -/
def PatV (w : World) (S : Nat → Prop) (v : Value) (p : PatT) : Prop :=
  ∃ ka cap, v = .agg #[.int .i64 p.kind, .string p.text, .int .i64 p.n, .string p.name, .slice ka p.kids.length cap] ∧ (p.text.size < 1000000000 ∧ p.name.size < 1000000000 ∧ p.kids.length < 1000000000) ∧ PatsAt w S ka p.kids

theorem PatsAt_get {w : World} {S : Nat → Prop} : ∀ (ps : List PatT) (b o i : Nat) (h : i < ps.length), PatsAt w S (some ⟨b, o, none⟩) ps → PatAt w S b (o + i * 5) ps[i]
  | [], _, _, _, h, _ => by simp at h
  | p :: ps, b, o, 0, _, hp => by
    unfold PatsAt at hp; obtain ⟨b', o', e, h1, _⟩ := hp
    simp at e; obtain ⟨rfl, rfl⟩ := e; simpa using h1
  | p :: ps, b, o, i + 1, h, hp => by
    unfold PatsAt at hp; obtain ⟨b', o', e, _, h2⟩ := hp
    simp at e; obtain ⟨rfl, rfl⟩ := e
    have := PatsAt_get ps b (o + 5) i (by simpa using h) h2
    rw [show o + (i + 1) * 5 = o + 5 + i * 5 from by omega]; simpa using this
theorem PatsAt_head {w : World} {S : Nat → Prop} {ka : Option Addr} {ps : List PatT} (h : PatsAt w S ka ps) (h0 : 0 < ps.length) : ∃ b o, ka = some ⟨b, o, none⟩ := by
  cases ps with
  | nil => simp at h0
  | cons p ps => unfold PatsAt at h; obtain ⟨b, o, e, _⟩ := h; exact ⟨b, o, e⟩

mutual
theorem PatAt.same {w w' : World} {S S' : Nat → Prop} (h : ∀ b, S b → w'.heap[b]? = w.heap[b]?) (hs : ∀ b, S b → S' b) : ∀ (p : PatT) (b o : Nat), PatAt w S b o p → PatAt w' S' b o p
  | .mk k t n nm kids, b, o, hp => by
    unfold PatAt at hp ⊢
    obtain ⟨hb, hz, h0, h1, h2, h3, ka, cap, h4, hk⟩ := hp
    have hc : ∀ i, w'.cell? ⟨b, i, none⟩ = w.cell? ⟨b, i, none⟩ := fun i => World.cell?_of_block (h b hb)
    refine ⟨hs b hb, hz, ?_, ?_, ?_, ?_, ka, cap, ?_, PatsAt.same h hs kids ka hk⟩ <;> (rw [hc]; assumption)
theorem PatsAt.same {w w' : World} {S S' : Nat → Prop} (h : ∀ b, S b → w'.heap[b]? = w.heap[b]?) (hs : ∀ b, S b → S' b) : ∀ (ps : List PatT) (ka : Option Addr), PatsAt w S ka ps → PatsAt w' S' ka ps
  | [], _, _ => by unfold PatsAt; trivial
  | p :: ps, ka, hp => by
    unfold PatsAt at hp ⊢
    obtain ⟨b, o, e, h1, h2⟩ := hp
    exact ⟨b, o, e, PatAt.same h hs p b o h1, PatsAt.same h hs ps _ h2⟩
end
/-- S is of old blocks that X leaves alone. -/
def Safe (S : Nat → Prop) (X : Nat → Prop) (n : Nat) : Prop := ∀ b, S b → b < n ∧ ¬ X b
theorem Safe.mono {S : Nat → Prop} {X : Nat → Prop} {n m : Nat} (h : Safe S X n) (hm : n ≤ m) : Safe S X m := fun b hb => ⟨Nat.lt_of_lt_of_le (h b hb).1 hm, (h b hb).2⟩
theorem PatAt.kept {w w' : World} {S : Nat → Prop} {X : Nat → Prop} {p : PatT} {b o : Nat} (hp : PatAt w S b o p) (hk : Kept X w w') (hs : Safe S X w.heap.size) : PatAt w' S b o p :=
  PatAt.same (fun b hb => hk.block b (hs b hb).1 (hs b hb).2) (fun _ h => h) p b o hp
theorem PatsAt.kept {w w' : World} {S : Nat → Prop} {X : Nat → Prop} {ps : List PatT} {ka : Option Addr} (hp : PatsAt w S ka ps) (hk : Kept X w w') (hs : Safe S X w.heap.size) : PatsAt w' S ka ps :=
  PatsAt.same (fun b hb => hk.block b (hs b hb).1 (hs b hb).2) (fun _ h => h) ps ka hp

theorem PatAt.to {w w' : World} {S S' : Nat → Prop} {X : Nat → Prop} {p : PatT} {b o : Nat} (hp : PatAt w S b o p) (hk : Kept X w w') (hs : Safe S X w.heap.size) (h : ∀ b, S b → S' b) : PatAt w' S' b o p :=
  PatAt.same (fun b hb => hk.block b (hs b hb).1 (hs b hb).2) h p b o hp
theorem PatsAt.to {w w' : World} {S S' : Nat → Prop} {X : Nat → Prop} {ps : List PatT} {ka : Option Addr} (hp : PatsAt w S ka ps) (hk : Kept X w w') (hs : Safe S X w.heap.size) (h : ∀ b, S b → S' b) : PatsAt w' S' ka ps :=
  PatsAt.same (fun b hb => hk.block b (hs b hb).1 (hs b hb).2) h ps ka hp
theorem Safe.lt {n m : Nat} (h : n ≤ m) : Safe (· < n) Nix m := fun _ hb => ⟨Nat.lt_of_lt_of_le hb h, fun h => h⟩

variable {σ : Type}
mutual
def walkF (f : σ → PatT → Nat → σ × Bool) : σ → PatT → Nat → σ × Bool
  | st, .mk k t n nm kids, d => match f st (.mk k t n nm kids) d with
    | (st', false) => (st', false)
    | (st', true) => walkKids f st' kids (d + 1)
def walkKids (f : σ → PatT → Nat → σ × Bool) : σ → List PatT → Nat → σ × Bool
  | st, [], _ => (st, true)
  | st, p :: ps, d => match walkF f st p d with
    | (st', false) => (st', false)
    | (st', true) => walkKids f st' ps d
end
mutual
def sizeT : PatT → Nat
  | .mk _ _ _ _ kids => 1 + sizeL kids
def sizeL : List PatT → Nat
  | [] => 0
  | p :: ps => sizeT p + sizeL ps
end
theorem length_le_sizeL : ∀ l : List PatT, l.length ≤ sizeL l
  | [] => by simp [sizeL]
  | p :: ps => by cases p; have := length_le_sizeL ps; simp only [List.length_cons, sizeL, sizeT]; omega
theorem sizeT_get : ∀ (l : List PatT) (j : Nat) (hj : j < l.length), sizeT l[j] ≤ sizeL l
  | [], _, hj => by simp at hj
  | p :: ps, 0, _ => by simp only [List.getElem_cons_zero, sizeL]; omega
  | p :: ps, j + 1, hj => by have := sizeT_get ps j (by simpa using hj); simp only [List.getElem_cons_succ, sizeL]; omega
end Go.Proofs.YtlnhcgihpclpaaaGreatDoor

namespace Go.Proofs.YtlnhcgihpclpaaaGreatDoor
set_option linter.all false
open Go.RowKit

/-- The slice value v, n elements of type e (size cells each), owns the cells xs: in a block from B on, from some cell on. -/
def Win (w : World) (B : Nat) (e : TypeId) (size : Nat) (v : Value) (n : Nat) (xs : List Value) : Prop :=
  xs.length = n * size ∧
  ((v = .slice none 0 0 ∧ n = 0) ∨
   ∃ g o cap cur, v = .slice (some ⟨g, o, none⟩) n cap ∧ B ≤ g ∧ w.heap[g]? = some (.cells cur e (0, 0)) ∧ n ≤ cap ∧ cap ≤ maxLen ∧ o + cap * size ≤ cur.size ∧ (cur.toList.drop o).take (n * size) = xs)

section
variable {w w' : World} {B : Nat} {e : TypeId} {size : Nat} {v : Value} {n : Nat} {xs : List Value}
theorem Win.nil (w : World) (B : Nat) (e : TypeId) (size : Nat) : Win w B e size (.slice none 0 0) 0 [] := ⟨by simp, .inl ⟨rfl, rfl⟩⟩
theorem Win.lt (h : Win w B e size v n xs) : ∀ k, v.ownBlock = some k → B ≤ k ∧ k < w.heap.size := by
  intro k hk
  rcases h.2 with ⟨rfl, _⟩ | ⟨g, o, cap, cur, rfl, hb, hg, _⟩
  · simp [Value.ownBlock] at hk
  · simp [Value.ownBlock] at hk; subst hk
    exact ⟨hb, (Array.getElem?_eq_some_iff.1 hg).1⟩
theorem Win.same (h : Win w B e size v n xs) (hb : ∀ k, v.ownBlock = some k → w'.heap[k]? = w.heap[k]?) : Win w' B e size v n xs := by
  refine ⟨h.1, ?_⟩
  rcases h.2 with hn | ⟨g, o, cap, cur, rfl, hb', hg, r⟩
  · exact .inl hn
  · exact .inr ⟨g, o, cap, cur, rfl, hb', by rw [hb g rfl]; exact hg, r⟩
theorem Win.kept {X : Nat → Prop} (h : Win w B e size v n xs) (hk : Kept X w w') (hx : ∀ k, v.ownBlock = some k → ¬ X k) : Win w' B e size v n xs :=
  h.same fun k hk' => hk.block k (h.lt k hk').2 (hx k hk')
theorem Win.grown {row : Option Nat} (h : Win w B e size v n xs) (hg : w.grownBy w' row) (hx : ∀ k, v.ownBlock = some k → row ≠ some k) : Win w' B e size v n xs :=
  h.same fun k hk' => hg.block k (h.lt k hk').2 fun e => hx k hk' e.symm
theorem Win.alloc (h : Win w B e size v n xs) (o : Obj) : Win (w.alloc o) B e size v n xs := h.same fun k hk => Below.heap_alloc _ _ _ (h.lt k hk).2
theorem Win.drew (h : Win w B e size v n xs) : Win w.drew B e size v n xs := h
theorem Win.mono {B' : Nat} (h : Win w B e size v n xs) (hB : B' ≤ B) : Win w B' e size v n xs := by
  refine ⟨h.1, ?_⟩
  rcases h.2 with hn | ⟨g, o, cap, cur, rfl, hb', r⟩
  · exact .inl hn
  · exact .inr ⟨g, o, cap, cur, rfl, by omega, r⟩
theorem Win.setCell {p : Addr} (h : Win w B e size v n xs) (hp : v.ownBlock ≠ some p.block) (u : Value) : Win (w.setCell p u) B e size v n xs :=
  h.same fun k hk => Below.heap_setCell _ _ _ _ fun e => hp (by rw [hk, e])
/-- The cells that it owns. -/
theorem Win.cells (h : Win w B e size v n xs) : (v = .slice none 0 0 ∧ n = 0) ∨ ∃ g o cap, v = .slice (some ⟨g, o, none⟩) n cap ∧ B ≤ g ∧ g < w.heap.size ∧ n ≤ cap ∧ cap ≤ maxLen ∧
    ∀ j u, xs[j]? = some u → w.cell? ⟨g, o + j, none⟩ = some u ∧ w.frozen? ⟨g, o + j, none⟩ = false := by
  rcases h.2 with hn | ⟨g, o, cap, cur, rfl, hb, hg, h1, h2, h3, h4⟩
  · exact .inl hn
  · refine .inr ⟨g, o, cap, rfl, hb, (Array.getElem?_eq_some_iff.1 hg).1, h1, h2, fun j u hu => ⟨?_, by simp [World.frozen?, hg]⟩⟩
    rw [cell_of_row w g (o + j) cur e (0, 0) hg]
    rw [← h4, List.getElem?_take] at hu
    split at hu
    · rw [List.getElem?_drop] at hu; simpa using hu
    · cases hu
/-- The rest of it: 's[1:]'. -/
theorem Win.tail {g o cap : Nat} {ys zs : List Value} (h : Win w B e size (.slice (some ⟨g, o, none⟩) (n + 1) cap) (n + 1) (ys ++ zs)) (hy : ys.length = size) :
    Win w B e size (.slice (if cap = 1 then some ⟨g, o, none⟩ else some ⟨g, o + size, none⟩) n (cap - 1)) n zs := by
  obtain ⟨hl, hr⟩ := h
  rcases hr with ⟨hv, _⟩ | ⟨g', o', cap', cur, hv, hb, hg, h1, h2, h3, h4⟩
  · simp at hv
  · simp only [Value.slice.injEq, Option.some.injEq, Addr.mk.injEq, and_true, true_and] at hv
    obtain ⟨⟨rfl, rfl⟩, rfl⟩ := hv
    have hzl : zs.length = n * size := by rw [List.length_append, hy, Nat.add_mul, Nat.one_mul] at hl; omega
    refine ⟨hzl, .inr ?_⟩
    by_cases hc : cap = 1
    · subst hc
      obtain rfl : n = 0 := by omega
      obtain rfl : zs = [] := List.eq_nil_of_length_eq_zero (by simpa using hzl)
      exact ⟨g, o, 0, cur, by simp, hb, hg, Nat.le_refl _, by simp, by simp only [Nat.zero_mul, Nat.add_zero]; omega, by simp⟩
    · refine ⟨g, o + size, cap - 1, cur, by rw [if_neg hc], hb, hg, by omega, by omega, ?_, ?_⟩
      · have : cap * size = size + (cap - 1) * size := by rw [Nat.sub_mul, Nat.one_mul]; have := Nat.le_mul_of_pos_left size (show 0 < cap by omega); omega
        omega
      · have := congrArg (List.drop size) h4
        rw [List.drop_left' hy, List.drop_take, List.drop_drop] at this
        rw [← this]
        congr 1
        rw [Nat.add_mul, Nat.one_mul]; omega
end

section
variable {P : Program} (w : World)
/-- What append makes of a slice that the call owns. -/
theorem run_append_win (B : Nat) (t tx ty e : TypeId) (i : TypeInfo) (z : Value) (size bytes : Nat) (ht : P.underlying t = some (.slice e)) (hi : P.info? e = some i) (hz : i.zero = some z)
    (hsize : i.size = size) (hby : i.bytes = bytes) (hzs : z.cells.size = size)
    (v : Value) (n : Nat) (xs : List Value) (hown : Win w B e size v n xs) (x : Value) (m : Nat) (news : List Value) (hs : Src P size tx x m news w)
    (h63 : n + m ≤ maxLen) (hbytes : (n + m) * bytes ≤ 140737488355328) (hbase : B ≤ w.heap.size) :
    ∃ v' w', (Builtin.append_ #[t, tx] ty #[v, x]).run P w = .ok v' w' ∧ Win w' B e size v' (n + m) (xs ++ news) ∧ w.grownBy w' v.ownBlock ∧
      (v'.ownBlock = v.ownBlock ∨ v'.ownBlock = some w.heap.size) := by
  subst hsize
  subst hby
  have hl := hs.newsLen
  have hlen : (xs ++ news).length = (n + m) * i.size := by rw [List.length_append, hown.1, hl, Nat.add_mul]
  have h63' : ((n + m : Nat) : Int) ≤ 9223372036854775807 := by simp only [maxLen] at h63; omega
  have grown : ∀ (old : Nat), old < n + m → ∀ (row : Option Nat),
      Win (w.drew.alloc (.cells ((xs ++ news).toArray ++ Builtin.zeroCells z.cells (grownCap w (n + m) old e - (n + m))) e)) B e i.size (.slice (some ⟨w.heap.size, 0, none⟩) (n + m) (grownCap w (n + m) old e)) (n + m) (xs ++ news) ∧
      w.grownBy (w.drew.alloc (.cells ((xs ++ news).toArray ++ Builtin.zeroCells z.cells (grownCap w (n + m) old e - (n + m))) e)) row := by
    intro old ho row
    have hge := grownCap_ge w (n + m) old e
    have hcm : grownCap w (n + m) old e ≤ maxLen := grownCap_le_maxLen w (n + m) old e h63
    refine ⟨⟨hlen, .inr ⟨w.heap.size, 0, _, _, rfl, hbase, heap_alloc_new w.drew _, hge, hcm, ?_, ?_⟩⟩, ⟨rfl, rfl, rfl, by simp, fun k hk _ => Below.heap_alloc w.drew _ k hk⟩⟩
    · rw [Array.size_append, List.size_toArray, size_zeroCells, hzs, hlen, ← Nat.add_mul, Nat.zero_add, Nat.add_sub_cancel' hge]; exact Nat.le_refl _
    · rw [List.drop_zero, Array.toList_append, ← hlen]
      exact List.take_left
  rcases hown.2 with ⟨rfl, rfl⟩ | ⟨g, o, cap, cur, rfl, hbg, hg, hnc, hcm, hcs, htake⟩
  · have hx : xs = [] := List.eq_nil_of_length_eq_zero (by simpa using hown.1)
    subst hx
    by_cases hm : m = 0
    · subst hm
      have hn : news = [] := List.eq_nil_of_length_eq_zero (by simpa using hl)
      subst hn
      refine ⟨.slice none 0 0, w, ?_, Win.nil w B e i.size, ⟨rfl, rfl, rfl, Nat.le_refl _, fun _ _ _ => rfl⟩, .inl rfl⟩
      rcases hs.kind with ⟨e', hk⟩ | hk <;> simp [Builtin.append_, run_underlying ht, run_underlying hk, sizeOf, typeInfo, hi, hs.len, hs.cells]
    · have hr := run_append_grow_src (P := P) w t tx ty e i z ht hi hz none 0 0 [] (by simp [Builtin.firstCells]) x m news hs (by omega) h63' (growslice_fits (by omega) hbytes)
      have hgr := grown 0 (by omega) (Value.ownBlock (.slice none 0 0))
      exact ⟨_, _, hr, hgr.1, hgr.2, .inr rfl⟩
  · by_cases hroom : n + m ≤ cap
    · have hmul : (n + m) * i.size ≤ cap * i.size := Nat.mul_le_mul_right _ hroom
      have hadd : (n + m) * i.size = n * i.size + m * i.size := Nat.add_mul _ _ _
      have hfit : o + n * i.size + 0 + news.length ≤ cur.size := by rw [hl]; omega
      have hst := run_storeCells_at P g (o + n * i.size) e news 0 cur w hg hfit hs.one
      simp only [Nat.add_zero] at hst
      have hr : (Builtin.append_ #[t, tx] ty #[.slice (some ⟨g, o, none⟩) n cap, x]).run P w = .ok (.slice (some ⟨g, o, none⟩) (n + m) cap)
          (w.setRow g (cur.toList.take (o + n * i.size) ++ news ++ cur.toList.drop (o + n * i.size + news.length)).toArray) := by
        rcases hs.kind with ⟨e', hk⟩ | hk <;> simp [Builtin.append_, run_underlying ht, run_underlying hk, sizeOf, typeInfo, hi, hs.len, hroom, hs.cells, Addr.add_lit, hst]
      refine ⟨_, _, hr, ⟨hlen, .inr ⟨g, o, cap, _, rfl, hbg, setRow_heap w g cur _ e _ hg, hroom, hcm, ?_, ?_⟩⟩, ⟨rfl, rfl, rfl, by simp, fun k _ hk => setRow_other w g k _ (fun e => hk (by simp [Value.ownBlock, e]))⟩, .inl rfl⟩
      · simp only [List.size_toArray, List.length_append, List.length_take, List.length_drop, Array.length_toList]
        omega
      · have hlt : (cur.toList.take (o + n * i.size)).length = o + n * i.size := by rw [List.length_take, Array.length_toList]; omega
        show List.take _ (List.drop o (cur.toList.take (o + n * i.size) ++ news ++ cur.toList.drop (o + n * i.size + news.length))) = _
        rw [List.append_assoc, List.drop_append_of_le_length (by omega), List.drop_take, show o + n * i.size - o = n * i.size by omega, htake, ← List.append_assoc, ← hlen]
        exact List.take_left
    · have holds : (Builtin.firstCells i.size n (.slice (some ⟨g, o, none⟩) n cap)).run P w.drew = .ok xs.toArray w.drew := by
        refine run_firstCells_some w.drew i.size n _ n cap xs hown.1 fun j u hu => ?_
        have e1 : (⟨g, o, none⟩ : Addr).add j = ⟨g, o + j, none⟩ := by unfold Addr.add; split <;> simp_all
        rw [e1, World.cell?_drew, cell_of_row w g (o + j) cur e (0, 0) hg]
        rw [← htake, List.getElem?_take] at hu
        split at hu
        · rw [List.getElem?_drop] at hu; simpa using hu
        · cases hu
      have hr := run_append_grow_src (P := P) w t tx ty e i z ht hi hz (some ⟨g, o, none⟩) n cap xs holds x m news hs (by omega) h63' (growslice_fits (by omega) hbytes)
      have hgr := grown cap (by omega) (Value.ownBlock (.slice (some ⟨g, o, none⟩) n cap))
      exact ⟨_, _, hr, hgr.1, hgr.2, .inr rfl⟩

theorem Win.shape {w : World} {B : Nat} {e : TypeId} {size : Nat} {v : Value} {n : Nat} {xs : List Value} (h : Win w B e size v n xs) : ∃ a cap, v = .slice a n cap := by
  rcases h.2 with ⟨rfl, rfl⟩ | ⟨g, o, cap, cur, rfl, _⟩
  · exact ⟨_, _, rfl⟩
  · exact ⟨_, _, rfl⟩

theorem wp_append_win {o : Oper} {a : Act} {K : Act → World → Prop} {Q : Exit → Act → World → Prop} (s x : Operand) (t tx : TypeId)
    (ho : o.op = .call { callee := .builtin .append, args := #[s, x], argTypes := #[t, tx] })
    (B : Nat) (e : TypeId) (i : TypeInfo) (z : Value) (size bytes : Nat) (ht : P.underlying t = some (.slice e)) (hi : P.info? e = some i) (hz : i.zero = some z)
    (hsize : i.size = size) (hby : i.bytes = bytes) (hzs : z.cells.size = size)
    (v : Value) (n : Nat) (xs : List Value) (hs : a.eval s = v) (hown : Win w B e size v n xs)
    (xv : Value) (m : Nat) (news : List Value) (hx : a.eval x = xv) (hsrc : Src P size tx xv m news w)
    (h63 : n + m ≤ maxLen) (hbytes : (n + m) * bytes ≤ 140737488355328) (hbase : B ≤ w.heap.size)
    (h : ∀ a' c' w', Win w' B e size (.slice a' (n + m) c') (n + m) (xs ++ news) → w.grownBy w' v.ownBlock → ((Value.slice a' (n + m) c').ownBlock = v.ownBlock ∨ (Value.slice a' (n + m) c').ownBlock = some w.heap.size) → K (a.put o.dst (.slice a' (n + m) c')) w') : o.wp P a w K Q := by
  obtain ⟨v', w', hr, h2, h3, h4⟩ := run_append_win (P := P) w B t tx o.type e i z size bytes ht hi hz hsize hby hzs v n xs hown xv m news hsrc h63 hbytes hbase
  obtain ⟨a', c', rfl⟩ := h2.shape
  unfold Oper.wp execOp
  simp only [ho, resolve, invoke, builtin, Sem.run_bind, Sem.run_pure, Result.andThen_ok, List.map_toArray, List.map_cons, List.map_nil, hs, hx, hr]
  exact h a' c' w' h2 h3 h4

theorem wpList_append_win {ops : Array Oper} {rest : List Oper} {o : Oper} {a : Act} {Q : Exit → Act → World → Prop} (hgd : o.guard = none) (s x : Operand) (t tx : TypeId)
    (ho : o.op = .call { callee := .builtin .append, args := #[s, x], argTypes := #[t, tx] })
    (B : Nat) (e : TypeId) (i : TypeInfo) (z : Value) (size bytes : Nat) (ht : P.underlying t = some (.slice e)) (hi : P.info? e = some i) (hz : i.zero = some z)
    (hsize : i.size = size) (hby : i.bytes = bytes) (hzs : z.cells.size = size)
    (v : Value) (n : Nat) (xs : List Value) (hs : a.eval s = v) (hown : Win w B e size v n xs)
    (xv : Value) (m : Nat) (news : List Value) (hx : a.eval x = xv) (hsrc : Src P size tx xv m news w)
    (h63 : n + m ≤ maxLen) (hbytes : (n + m) * bytes ≤ 140737488355328) (hbase : B ≤ w.heap.size)
    (h : ∀ a' c' w', Win w' B e size (.slice a' (n + m) c') (n + m) (xs ++ news) → w.grownBy w' v.ownBlock → ((Value.slice a' (n + m) c').ownBlock = v.ownBlock ∨ (Value.slice a' (n + m) c').ownBlock = some w.heap.size) → wpList P ops Q rest (a.put o.dst (.slice a' (n + m) c')) w') :
    wpList P ops Q (o :: rest) a w :=
  wpList_plain hgd fun _ hK => wp_append_win w s x t tx ho B e i z size bytes ht hi hz hsize hby hzs v n xs hs hown xv m news hx hsrc h63 hbytes hbase fun a' c' w' h2 h3 h4 => hK _ _ (h a' c' w' h2 h3 h4)

theorem step_append_win {ops : Array Oper} {o : Oper} {a : Act} {K : Act → World → Prop} {Q : Exit → Act → World → Prop} {E : Prop} (hgd : o.guard = none) (s x : Operand) (t tx : TypeId)
    (ho : o.op = .call { callee := .builtin .append, args := #[s, x], argTypes := #[t, tx] })
    (B : Nat) (e : TypeId) (i : TypeInfo) (z : Value) (size bytes : Nat) (ht : P.underlying t = some (.slice e)) (hi : P.info? e = some i) (hz : i.zero = some z)
    (hsize : i.size = size) (hby : i.bytes = bytes) (hzs : z.cells.size = size)
    (v : Value) (n : Nat) (xs : List Value) (hs : a.eval s = v) (hown : Win w B e size v n xs)
    (xv : Value) (m : Nat) (news : List Value) (hx : a.eval x = xv) (hsrc : Src P size tx xv m news w)
    (h63 : n + m ≤ maxLen) (hbytes : (n + m) * bytes ≤ 140737488355328) (hbase : B ≤ w.heap.size)
    (h : ∀ a' c' w', Win w' B e size (.slice a' (n + m) c') (n + m) (xs ++ news) → w.grownBy w' v.ownBlock → ((Value.slice a' (n + m) c').ownBlock = v.ownBlock ∨ (Value.slice a' (n + m) c').ownBlock = some w.heap.size) → K (a.put o.dst (.slice a' (n + m) c')) w') :
    if Region.wanted o (yielded ops a.tmps) = true then Oper.wp P o a w K Q else E := by
  have hw : Region.wanted o (yielded ops a.tmps) = true := by simp [Region.wanted, hgd]
  rw [if_pos hw]
  exact wp_append_win w s x t tx ho B e i z size bytes ht hi hz hsize hby hzs v n xs hs hown xv m news hx hsrc h63 hbytes hbase h
end
end Go.Proofs.YtlnhcgihpclpaaaGreatDoor

namespace Go.Proofs.YtlnhcgihpclpaaaGreatDoor
set_option linter.all false
open Go.RowKit

def Five (M : Nat) (c0 c1 c2 c3 c4 : Value) (w : World) : Prop := w.heap[M]? = some (.cells #[c0, c1, c2, c3, c4] 47 (0, 0))
theorem Five.lt {M : Nat} {c0 c1 c2 c3 c4 : Value} {w : World} (h : Five M c0 c1 c2 c3 c4 w) : M < w.heap.size := (Array.getElem?_eq_some_iff.1 h).1
theorem Five.kept {M : Nat} {c0 c1 c2 c3 c4 : Value} {w w' : World} {X : Nat → Prop} (h : Five M c0 c1 c2 c3 c4 w) (hk : Kept X w w') (hx : ¬ X M) : Five M c0 c1 c2 c3 c4 w' := by
  unfold Five; rw [hk.block M h.lt hx]; exact h
theorem Five.cells {M : Nat} {c0 c1 c2 c3 c4 : Value} {w : World} (h : Five M c0 c1 c2 c3 c4 w) : w.cell? ⟨M, 0, none⟩ = some c0 ∧ w.cell? ⟨M, 1, none⟩ = some c1 ∧ w.cell? ⟨M, 2, none⟩ = some c2 ∧ w.cell? ⟨M, 3, none⟩ = some c3 ∧ w.cell? ⟨M, 4, none⟩ = some c4 ∧ ∀ o, w.frozen? ⟨M, o, none⟩ = false := by
  unfold Five at h
  refine ⟨?_, ?_, ?_, ?_, ?_, fun o => by simp [World.frozen?, h]⟩ <;> (rw [cell_of_row w M _ _ _ _ h]; rfl)
def set5 (w : World) (M : Nat) (c0 c1 c2 c3 c4 : Value) : World := ((((w.setCell ⟨M, 0, none⟩ c0).setCell ⟨M, 1, none⟩ c1).setCell ⟨M, 2, none⟩ c2).setCell ⟨M, 3, none⟩ c3).setCell ⟨M, 4, none⟩ c4
end Go.Proofs.YtlnhcgihpclpaaaGreatDoor
