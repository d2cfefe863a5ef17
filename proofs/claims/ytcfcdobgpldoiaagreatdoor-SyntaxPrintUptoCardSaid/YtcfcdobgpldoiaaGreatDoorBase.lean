/-  -/
import Derived.Test.YtcfcdobgpldoiaaGreatDoorProg
import Derived.WalkKit
import Derived.WalkSpells
import Derived.WalkLawsBesides
import Derived.Lib.Hide
import Derived.Deep.DeepCutAuto
import Derived.Deep.CutBlock
import Derived.Deep.Light
import Derived.Deep.DeepFit
import Derived.Deep.DeepMust
namespace Go.Proofs.YtcfcdobgpldoiaaGreatDoor
set_option linter.all false
open Go.RowKit

/-- All blocks of w but those of X are in w' as they were. -/
structure Kept (X : Nat → Prop) (w w' : World) : Prop where
  os : w'.os = w.os
  tape : w'.tape = w.tape
  output : w'.output = w.output
  size : w.heap.size ≤ w'.heap.size
  block : ∀ k, k < w.heap.size → ¬ X k → w'.heap[k]? = w.heap[k]?
def Nix (_ : Nat) : Prop := False

theorem Kept.refl (X : Nat → Prop) (w : World) : Kept X w w := ⟨rfl, rfl, rfl, Nat.le_refl _, fun _ _ _ => rfl⟩
/-- Behind a callee: what it may write is ours, or new. -/
theorem Kept.step {X Y : Nat → Prop} {a b c : World} (h : Kept X a b) (k : Kept Y b c) (hy : ∀ y, Y y → X y ∨ a.heap.size ≤ y) : Kept X a c :=
  ⟨k.os.trans h.os, k.tape.trans h.tape, k.output.trans h.output, Nat.le_trans h.size k.size,
   fun i hi hx => (k.block i (Nat.lt_of_lt_of_le hi h.size) (fun hm => (hy i hm).elim hx (fun h1 => by omega))).trans (h.block i hi hx)⟩
theorem Kept.trans {X : Nat → Prop} {a b c : World} (h : Kept X a b) (k : Kept X b c) : Kept X a c := h.step k fun _ hy => .inl hy
theorem Kept.quiet {X : Nat → Prop} {a b c : World} (h : Kept X a b) (k : Kept Nix b c) : Kept X a c := h.step k fun _ hy => hy.elim
theorem Kept.more {X Y : Nat → Prop} {w w' : World} (h : Kept X w w') (hy : ∀ x, X x → Y x) : Kept Y w w' :=
  ⟨h.os, h.tape, h.output, h.size, fun k hk hn => h.block k hk fun hx => hn (hy k hx)⟩
theorem Kept.drew {X : Nat → Prop} {a w : World} (h : Kept X a w) : Kept X a w.drew := ⟨h.os, h.tape, h.output, h.size, h.block⟩
theorem Kept.drewN {X : Nat → Prop} {a w : World} (h : Kept X a w) (n : Nat) : Kept X a (w.drewN n) := ⟨h.os, h.tape, h.output, h.size, h.block⟩
theorem Kept.alloc {X : Nat → Prop} {a w : World} (h : Kept X a w) (o : Obj) : Kept X a (w.alloc o) :=
  h.quiet ⟨rfl, rfl, rfl, by simp, fun k hk _ => Below.heap_alloc _ _ _ hk⟩
theorem Kept.setCell {X : Nat → Prop} {a w : World} (h : Kept X a w) {p : Addr} (hp : X p.block ∨ a.heap.size ≤ p.block) (u : Value) : Kept X a (w.setCell p u) :=
  h.step (Y := (· = p.block)) ⟨rfl, rfl, rfl, by simp [World.setCell], fun k _ hn => Below.heap_setCell _ _ _ _ hn⟩ (by rintro y rfl; exact hp)
theorem Kept.grown {X : Nat → Prop} {a w w' : World} {row : Option Nat} (h : Kept X a w) (hg : w.grownBy w' row) (hr : ∀ k, row = some k → X k ∨ a.heap.size ≤ k) : Kept X a w' :=
  h.step (Y := fun k => row = some k) ⟨hg.os, hg.tape, hg.output, hg.size, fun k hk hn => hg.block k hk (fun e => hn e.symm)⟩ hr
theorem Kept.below {w w' : World} (h : Kept Nix w w') : Below w.heap.size w w' := ⟨h.os, h.tape, h.output, h.size, fun k hk => h.block k hk (fun h => h)⟩
theorem Kept.cell {X : Nat → Prop} {w w' : World} (h : Kept X w w') {b o : Nat} (hb : b < w.heap.size) (hx : ¬ X b) : w'.cell? ⟨b, o, none⟩ = w.cell? ⟨b, o, none⟩ :=
  World.cell?_of_block (h.block b hb hx)

/-- The one-cell variable of type t at block c holds v. -/
def Cel (w : World) (c : Nat) (t : TypeId) (v : Value) : Prop := w.heap[c]? = some (.cells #[v] t (0, 0))

theorem Cel.lt {w : World} {c : Nat} {t : TypeId} {v : Value} (h : Cel w c t v) : c < w.heap.size := (Array.getElem?_eq_some_iff.1 h).1
theorem Cel.cell {w : World} {c : Nat} {t : TypeId} {v : Value} (h : Cel w c t v) : w.cell? ⟨c, 0, none⟩ = some v := cell_of_one h
theorem Cel.free {w : World} {c : Nat} {t : TypeId} {v : Value} (h : Cel w c t v) : w.frozen? ⟨c, 0, none⟩ = false := free_of_one h
theorem Cel.set {w : World} {c : Nat} {t : TypeId} {v : Value} (h : Cel w c t v) (u : Value) : Cel (w.setCell ⟨c, 0, none⟩ u) c t u := one_setCell h
theorem Cel.other {w : World} {c : Nat} {t : TypeId} {v : Value} (h : Cel w c t v) {b o : Nat} (hn : c ≠ b) (u : Value) : Cel (w.setCell ⟨b, o, none⟩ u) c t v := by
  unfold Cel; rw [Below.heap_setCell _ _ _ _ hn]; exact h
theorem Cel.alloc {w : World} {c : Nat} {t : TypeId} {v : Value} (h : Cel w c t v) (o : Obj) : Cel (w.alloc o) c t v := by
  unfold Cel; rw [Below.heap_alloc _ _ _ h.lt]; exact h
theorem Cel.new (w : World) (t : TypeId) (v : Value) : Cel (w.alloc (.cells #[v] t)) w.heap.size t v := heap_alloc_new w _
theorem Cel.new' {w : World} {t : TypeId} {v : Value} {n : Nat} (h : n = w.heap.size) : Cel (w.alloc (.cells #[v] t)) n t v := by subst h; exact Cel.new w t v
theorem Cel.drew {w : World} {c : Nat} {t : TypeId} {v : Value} (h : Cel w c t v) : Cel w.drew c t v := h
theorem Cel.grown {w w' : World} {row : Option Nat} {c : Nat} {t : TypeId} {v : Value} (h : Cel w c t v) (hg : w.grownBy w' row) (hr : row ≠ some c) : Cel w' c t v := by
  unfold Cel; rw [hg.block c h.lt (fun e => hr e.symm)]; exact h
theorem Cel.kept {X : Nat → Prop} {w w' : World} {c : Nat} {t : TypeId} {v : Value} (h : Cel w c t v) (hk : Kept X w w') (hx : ¬ X c) : Cel w' c t v := by
  unfold Cel; rw [hk.block c h.lt hx]; exact h

theorem ret_int {k : IntKind} {a b : Int} (h : a = b) : Ending.returned (.int k a) = .returned (.int k b) := by rw [h]
theorem ret_bool {a b : Bool} (h : a = b) : Ending.returned (.bool a) = .returned (.bool b) := by rw [h]
theorem int_eq {k : IntKind} {a b : Int} (h : a = b) : Value.int k a = .int k b := by rw [h]

inductive PatT where
  | mk (kind : Int) (text : ByteArray) (n : Int) (name : ByteArray) (kids : List PatT)

def PatT.kind : PatT → Int | .mk k _ _ _ _ => k
def PatT.text : PatT → ByteArray | .mk _ t _ _ _ => t
def PatT.n : PatT → Int | .mk _ _ n _ _ => n
def PatT.name : PatT → ByteArray | .mk _ _ _ nm _ => nm
def PatT.kids : PatT → List PatT | .mk _ _ _ _ l => l
section
variable (k : Int) (t : ByteArray) (n : Int) (nm : ByteArray) (l : List PatT)
@[simp] theorem PatT.kind_mk : (PatT.mk k t n nm l).kind = k := rfl
@[simp] theorem PatT.text_mk : (PatT.mk k t n nm l).text = t := rfl
@[simp] theorem PatT.n_mk : (PatT.mk k t n nm l).n = n := rfl
@[simp] theorem PatT.name_mk : (PatT.mk k t n nm l).name = nm := rfl
@[simp] theorem PatT.kids_mk : (PatT.mk k t n nm l).kids = l := rfl
end

mutual
/-- The pattern lies in five cells at block b from o on; all its memory is in blocks of S. -/
def PatAt (w : World) (S : Nat → Prop) (b o : Nat) : PatT → Prop
  | .mk k t n nm kids => S b ∧ (t.size < 1000000000 ∧ nm.size < 1000000000 ∧ kids.length < 1000000000) ∧ w.cell? ⟨b, o, none⟩ = some (.int .i64 k) ∧ w.cell? ⟨b, o + 1, none⟩ = some (.string t) ∧
      w.cell? ⟨b, o + 2, none⟩ = some (.int .i64 n) ∧ w.cell? ⟨b, o + 3, none⟩ = some (.string nm) ∧
      ∃ ka cap, w.cell? ⟨b, o + 4, none⟩ = some (.slice ka kids.length cap) ∧ PatsAt w S ka kids
def PatsAt (w : World) (S : Nat → Prop) (ka : Option Addr) : List PatT → Prop
  | [] => True
  | p :: ps => ∃ b o, ka = some ⟨b, o, none⟩ ∧ PatAt w S b o p ∧ PatsAt w S (some ⟨b, o + 5, none⟩) ps
end
/-- A pattern as a value. -/
def PatV (w : World) (S : Nat → Prop) (v : Value) (p : PatT) : Prop :=
  ∃ ka cap, v = .agg #[.int .i64 p.kind, .string p.text, .int .i64 p.n, .string p.name, .slice ka p.kids.length cap] ∧ (p.text.size < 1000000000 ∧ p.name.size < 1000000000 ∧ p.kids.length < 1000000000) ∧ PatsAt w S ka p.kids

theorem PatsAt_get {w : World} {S : Nat → Prop} : ∀ (ps : List PatT) (b o i : Nat) (h : i < ps.length), PatsAt w S (some ⟨b, o, none⟩) ps → PatAt w S b (o + i * 5) ps[i]
  | [], _, _, _, h, _ => by simp at h
  | p :: ps, b, o, 0, _, hp => by
    unfold PatsAt at hp; obtain ⟨b', o', e, h1, _⟩ := hp
    simp at e; obtain ⟨rfl, rfl⟩ := e; simpa using h1
  | p :: ps, b, o, i + 1, h, hp => by
    unfold PatsAt at hp; obtain ⟨b', o', e, _, h2⟩ := hp
    simp at e; obtain ⟨rfl, rfl⟩ := e
    have := PatsAt_get ps b (o + 5) i (by simpa using h) h2
    rw [show o + (i + 1) * 5 = o + 5 + i * 5 from by omega]; simpa using this
theorem PatsAt_head {w : World} {S : Nat → Prop} {ka : Option Addr} {ps : List PatT} (h : PatsAt w S ka ps) (h0 : 0 < ps.length) : ∃ b o, ka = some ⟨b, o, none⟩ := by
  cases ps with
  | nil => simp at h0
  | cons p ps => unfold PatsAt at h; obtain ⟨b, o, e, _⟩ := h; exact ⟨b, o, e⟩

mutual
theorem PatAt.same {w w' : World} {S S' : Nat → Prop} (h : ∀ b, S b → w'.heap[b]? = w.heap[b]?) (hs : ∀ b, S b → S' b) : ∀ (p : PatT) (b o : Nat), PatAt w S b o p → PatAt w' S' b o p
  | .mk k t n nm kids, b, o, hp => by
    unfold PatAt at hp ⊢
    obtain ⟨hb, hz, h0, h1, h2, h3, ka, cap, h4, hk⟩ := hp
    have hc : ∀ i, w'.cell? ⟨b, i, none⟩ = w.cell? ⟨b, i, none⟩ := fun i => World.cell?_of_block (h b hb)
    refine ⟨hs b hb, hz, ?_, ?_, ?_, ?_, ka, cap, ?_, PatsAt.same h hs kids ka hk⟩ <;> (rw [hc]; assumption)
theorem PatsAt.same {w w' : World} {S S' : Nat → Prop} (h : ∀ b, S b → w'.heap[b]? = w.heap[b]?) (hs : ∀ b, S b → S' b) : ∀ (ps : List PatT) (ka : Option Addr), PatsAt w S ka ps → PatsAt w' S' ka ps
  | [], _, _ => by unfold PatsAt; trivial
  | p :: ps, ka, hp => by
    unfold PatsAt at hp ⊢
    obtain ⟨b, o, e, h1, h2⟩ := hp
    exact ⟨b, o, e, PatAt.same h hs p b o h1, PatsAt.same h hs ps _ h2⟩
end
/-- S is of old blocks that X leaves alone. -/
def Safe (S : Nat → Prop) (X : Nat → Prop) (n : Nat) : Prop := ∀ b, S b → b < n ∧ ¬ X b
theorem Safe.mono {S : Nat → Prop} {X : Nat → Prop} {n m : Nat} (h : Safe S X n) (hm : n ≤ m) : Safe S X m := fun b hb => ⟨Nat.lt_of_lt_of_le (h b hb).1 hm, (h b hb).2⟩
theorem PatAt.kept {w w' : World} {S : Nat → Prop} {X : Nat → Prop} {p : PatT} {b o : Nat} (hp : PatAt w S b o p) (hk : Kept X w w') (hs : Safe S X w.heap.size) : PatAt w' S b o p :=
  PatAt.same (fun b hb => hk.block b (hs b hb).1 (hs b hb).2) (fun _ h => h) p b o hp
theorem PatsAt.kept {w w' : World} {S : Nat → Prop} {X : Nat → Prop} {ps : List PatT} {ka : Option Addr} (hp : PatsAt w S ka ps) (hk : Kept X w w') (hs : Safe S X w.heap.size) : PatsAt w' S ka ps :=
  PatsAt.same (fun b hb => hk.block b (hs b hb).1 (hs b hb).2) (fun _ h => h) ps ka hp

theorem PatAt.to {w w' : World} {S S' : Nat → Prop} {X : Nat → Prop} {p : PatT} {b o : Nat} (hp : PatAt w S b o p) (hk : Kept X w w') (hs : Safe S X w.heap.size) (h : ∀ b, S b → S' b) : PatAt w' S' b o p :=
  PatAt.same (fun b hb => hk.block b (hs b hb).1 (hs b hb).2) h p b o hp
theorem PatsAt.to {w w' : World} {S S' : Nat → Prop} {X : Nat → Prop} {ps : List PatT} {ka : Option Addr} (hp : PatsAt w S ka ps) (hk : Kept X w w') (hs : Safe S X w.heap.size) (h : ∀ b, S b → S' b) : PatsAt w' S' ka ps :=
  PatsAt.same (fun b hb => hk.block b (hs b hb).1 (hs b hb).2) h ps ka hp
theorem Safe.lt {n m : Nat} (h : n ≤ m) : Safe (· < n) Nix m := fun _ hb => ⟨Nat.lt_of_lt_of_le hb h, fun h => h⟩

variable {σ : Type}
mutual
def walkF (f : σ → PatT → Nat → σ × Bool) : σ → PatT → Nat → σ × Bool
  | st, .mk k t n nm kids, d => match f st (.mk k t n nm kids) d with
    | (st', false) => (st', false)
    | (st', true) => walkKids f st' kids (d + 1)
def walkKids (f : σ → PatT → Nat → σ × Bool) : σ → List PatT → Nat → σ × Bool
  | st, [], _ => (st, true)
  | st, p :: ps, d => match walkF f st p d with
    | (st', false) => (st', false)
    | (st', true) => walkKids f st' ps d
end
mutual
def sizeT : PatT → Nat
  | .mk _ _ _ _ kids => 1 + sizeL kids
def sizeL : List PatT → Nat
  | [] => 0
  | p :: ps => sizeT p + sizeL ps
end
theorem length_le_sizeL : ∀ l : List PatT, l.length ≤ sizeL l
  | [] => by simp [sizeL]
  | p :: ps => by cases p; have := length_le_sizeL ps; simp only [List.length_cons, sizeL, sizeT]; omega
theorem sizeT_get : ∀ (l : List PatT) (j : Nat) (hj : j < l.length), sizeT l[j] ≤ sizeL l
  | [], _, hj => by simp at hj
  | p :: ps, 0, _ => by simp only [List.getElem_cons_zero, sizeL]; omega
  | p :: ps, j + 1, hj => by have := sizeT_get ps j (by simpa using hj); simp only [List.getElem_cons_succ, sizeL]; omega
end Go.Proofs.YtcfcdobgpldoiaaGreatDoor
