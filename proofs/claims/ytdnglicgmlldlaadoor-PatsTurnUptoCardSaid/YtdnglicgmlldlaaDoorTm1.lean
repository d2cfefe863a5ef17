/-  -/
import Derived.Test.YtdnglicgmlldlaaDoorProg
import Derived.WalkKit
import Derived.WalkSpells
import Derived.WalkLawsBesides
import Derived.Lib.Hide
import Derived.Deep.DeepCutAuto
import Derived.Deep.CutBlock
import Derived.Deep.Light
import Derived.Deep.DeepFit
import Derived.Deep.DeepMust
namespace Go.Proofs.YtdnglicgmlldlaaDoor
open Go.RowKit

/-- All blocks of w but those of X are in w' as they were. -/
structure Kept (X : Nat → Prop) (w w' : World) : Prop where
  os : w'.os = w.os
  tape : w'.tape = w.tape
  output : w'.output = w.output
  size : w.heap.size ≤ w'.heap.size
  block : ∀ k, k < w.heap.size → ¬ X k → w'.heap[k]? = w.heap[k]?
def Nix (_ : Nat) : Prop := False

theorem Kept.refl (X : Nat → Prop) (w : World) : Kept X w w := ⟨rfl, rfl, rfl, Nat.le_refl _, fun _ _ _ => rfl⟩
/-- Behind a callee: what it may write is ours, or new. -/
theorem Kept.step {X Y : Nat → Prop} {a b c : World} (h : Kept X a b) (k : Kept Y b c) (hy : ∀ y, Y y → X y ∨ a.heap.size ≤ y) : Kept X a c :=
  ⟨k.os.trans h.os, k.tape.trans h.tape, k.output.trans h.output, Nat.le_trans h.size k.size,
   fun i hi hx => (k.block i (Nat.lt_of_lt_of_le hi h.size) (fun hm => (hy i hm).elim hx (fun h1 => by omega))).trans (h.block i hi hx)⟩
theorem Kept.trans {X : Nat → Prop} {a b c : World} (h : Kept X a b) (k : Kept X b c) : Kept X a c := h.step k fun _ hy => .inl hy
theorem Kept.quiet {X : Nat → Prop} {a b c : World} (h : Kept X a b) (k : Kept Nix b c) : Kept X a c := h.step k fun _ hy => hy.elim
theorem Kept.more {X Y : Nat → Prop} {w w' : World} (h : Kept X w w') (hy : ∀ x, X x → Y x) : Kept Y w w' :=
  ⟨h.os, h.tape, h.output, h.size, fun k hk hn => h.block k hk fun hx => hn (hy k hx)⟩
theorem Kept.drew {X : Nat → Prop} {a w : World} (h : Kept X a w) : Kept X a w.drew := ⟨h.os, h.tape, h.output, h.size, h.block⟩
theorem Kept.drewN {X : Nat → Prop} {a w : World} (h : Kept X a w) (n : Nat) : Kept X a (w.drewN n) := ⟨h.os, h.tape, h.output, h.size, h.block⟩
theorem Kept.alloc {X : Nat → Prop} {a w : World} (h : Kept X a w) (o : Obj) : Kept X a (w.alloc o) :=
  h.quiet ⟨rfl, rfl, rfl, by simp, fun k hk _ => Below.heap_alloc _ _ _ hk⟩
theorem Kept.setCell {X : Nat → Prop} {a w : World} (h : Kept X a w) {p : Addr} (hp : X p.block ∨ a.heap.size ≤ p.block) (u : Value) : Kept X a (w.setCell p u) :=
  h.step (Y := (· = p.block)) ⟨rfl, rfl, rfl, by simp [World.setCell], fun k _ hn => Below.heap_setCell _ _ _ _ hn⟩ (by rintro y rfl; exact hp)
theorem Kept.grown {X : Nat → Prop} {a w w' : World} {row : Option Nat} (h : Kept X a w) (hg : w.grownBy w' row) (hr : ∀ k, row = some k → X k ∨ a.heap.size ≤ k) : Kept X a w' :=
  h.step (Y := fun k => row = some k) ⟨hg.os, hg.tape, hg.output, hg.size, fun k hk hn => hg.block k hk (fun e => hn e.symm)⟩ hr
theorem Kept.below {w w' : World} (h : Kept Nix w w') : Below w.heap.size w w' := ⟨h.os, h.tape, h.output, h.size, fun k hk => h.block k hk (fun h => h)⟩
theorem Kept.cell {X : Nat → Prop} {w w' : World} (h : Kept X w w') {b o : Nat} (hb : b < w.heap.size) (hx : ¬ X b) : w'.cell? ⟨b, o, none⟩ = w.cell? ⟨b, o, none⟩ :=
  World.cell?_of_block (h.block b hb hx)

/-- The one-cell variable of type t at block c holds v. -/
def Cel (w : World) (c : Nat) (t : TypeId) (v : Value) : Prop := w.heap[c]? = some (.cells #[v] t (0, 0))

theorem Cel.lt {w : World} {c : Nat} {t : TypeId} {v : Value} (h : Cel w c t v) : c < w.heap.size := (Array.getElem?_eq_some_iff.1 h).1
theorem Cel.cell {w : World} {c : Nat} {t : TypeId} {v : Value} (h : Cel w c t v) : w.cell? ⟨c, 0, none⟩ = some v := cell_of_one h
theorem Cel.free {w : World} {c : Nat} {t : TypeId} {v : Value} (h : Cel w c t v) : w.frozen? ⟨c, 0, none⟩ = false := free_of_one h
theorem Cel.set {w : World} {c : Nat} {t : TypeId} {v : Value} (h : Cel w c t v) (u : Value) : Cel (w.setCell ⟨c, 0, none⟩ u) c t u := one_setCell h
theorem Cel.other {w : World} {c : Nat} {t : TypeId} {v : Value} (h : Cel w c t v) {b o : Nat} (hn : c ≠ b) (u : Value) : Cel (w.setCell ⟨b, o, none⟩ u) c t v := by
  unfold Cel; rw [Below.heap_setCell _ _ _ _ hn]; exact h
theorem Cel.alloc {w : World} {c : Nat} {t : TypeId} {v : Value} (h : Cel w c t v) (o : Obj) : Cel (w.alloc o) c t v := by
  unfold Cel; rw [Below.heap_alloc _ _ _ h.lt]; exact h
theorem Cel.new (w : World) (t : TypeId) (v : Value) : Cel (w.alloc (.cells #[v] t)) w.heap.size t v := heap_alloc_new w _
theorem Cel.new' {w : World} {t : TypeId} {v : Value} {n : Nat} (h : n = w.heap.size) : Cel (w.alloc (.cells #[v] t)) n t v := by subst h; exact Cel.new w t v
theorem Cel.drew {w : World} {c : Nat} {t : TypeId} {v : Value} (h : Cel w c t v) : Cel w.drew c t v := h
theorem Cel.grown {w w' : World} {row : Option Nat} {c : Nat} {t : TypeId} {v : Value} (h : Cel w c t v) (hg : w.grownBy w' row) (hr : row ≠ some c) : Cel w' c t v := by
  unfold Cel; rw [hg.block c h.lt (fun e => hr e.symm)]; exact h
theorem Cel.kept {X : Nat → Prop} {w w' : World} {c : Nat} {t : TypeId} {v : Value} (h : Cel w c t v) (hk : Kept X w w') (hx : ¬ X c) : Cel w' c t v := by
  unfold Cel; rw [hk.block c h.lt hx]; exact h

theorem ret_int {k : IntKind} {a b : Int} (h : a = b) : Ending.returned (.int k a) = .returned (.int k b) := by rw [h]
theorem ret_bool {a b : Bool} (h : a = b) : Ending.returned (.bool a) = .returned (.bool b) := by rw [h]
theorem int_eq {k : IntKind} {a b : Int} (h : a = b) : Value.int k a = .int k b := by rw [h]

inductive PatT where
  | mk (kind : Int) (text : ByteArray) (n : Int) (name : ByteArray) (kids : List PatT)

def PatT.kind : PatT → Int | .mk k _ _ _ _ => k
def PatT.text : PatT → ByteArray | .mk _ t _ _ _ => t
def PatT.n : PatT → Int | .mk _ _ n _ _ => n
def PatT.name : PatT → ByteArray | .mk _ _ _ nm _ => nm
def PatT.kids : PatT → List PatT | .mk _ _ _ _ l => l
section
variable (k : Int) (t : ByteArray) (n : Int) (nm : ByteArray) (l : List PatT)
@[simp] theorem PatT.kind_mk : (PatT.mk k t n nm l).kind = k := rfl
@[simp] theorem PatT.text_mk : (PatT.mk k t n nm l).text = t := rfl
@[simp] theorem PatT.n_mk : (PatT.mk k t n nm l).n = n := rfl
@[simp] theorem PatT.name_mk : (PatT.mk k t n nm l).name = nm := rfl
@[simp] theorem PatT.kids_mk : (PatT.mk k t n nm l).kids = l := rfl
end

mutual
/-- The pattern lies in five cells at block b from o on; all its memory is in blocks of S. -/
def PatAt (w : World) (S : Nat → Prop) (b o : Nat) : PatT → Prop
  | .mk k t n nm kids => S b ∧ (t.size < 1000000000 ∧ nm.size < 1000000000 ∧ kids.length < 1000000000) ∧ w.cell? ⟨b, o, none⟩ = some (.int .i64 k) ∧ w.cell? ⟨b, o + 1, none⟩ = some (.string t) ∧
      w.cell? ⟨b, o + 2, none⟩ = some (.int .i64 n) ∧ w.cell? ⟨b, o + 3, none⟩ = some (.string nm) ∧
      ∃ ka cap, w.cell? ⟨b, o + 4, none⟩ = some (.slice ka kids.length cap) ∧ PatsAt w S ka kids
def PatsAt (w : World) (S : Nat → Prop) (ka : Option Addr) : List PatT → Prop
  | [] => True
  | p :: ps => ∃ b o, ka = some ⟨b, o, none⟩ ∧ PatAt w S b o p ∧ PatsAt w S (some ⟨b, o + 5, none⟩) ps
end
/-- A pattern as a value. -/
def PatV (w : World) (S : Nat → Prop) (v : Value) (p : PatT) : Prop :=
  ∃ ka cap, v = .agg #[.int .i64 p.kind, .string p.text, .int .i64 p.n, .string p.name, .slice ka p.kids.length cap] ∧ (p.text.size < 1000000000 ∧ p.name.size < 1000000000 ∧ p.kids.length < 1000000000) ∧ PatsAt w S ka p.kids

theorem PatsAt_get {w : World} {S : Nat → Prop} : ∀ (ps : List PatT) (b o i : Nat) (h : i < ps.length), PatsAt w S (some ⟨b, o, none⟩) ps → PatAt w S b (o + i * 5) ps[i]
  | [], _, _, _, h, _ => by simp at h
  | p :: ps, b, o, 0, _, hp => by
    unfold PatsAt at hp; obtain ⟨b', o', e, h1, _⟩ := hp
    simp at e; obtain ⟨rfl, rfl⟩ := e; simpa using h1
  | p :: ps, b, o, i + 1, h, hp => by
    unfold PatsAt at hp; obtain ⟨b', o', e, _, h2⟩ := hp
    simp at e; obtain ⟨rfl, rfl⟩ := e
    have := PatsAt_get ps b (o + 5) i (by simpa using h) h2
    rw [show o + (i + 1) * 5 = o + 5 + i * 5 from by omega]; simpa using this
theorem PatsAt_head {w : World} {S : Nat → Prop} {ka : Option Addr} {ps : List PatT} (h : PatsAt w S ka ps) (h0 : 0 < ps.length) : ∃ b o, ka = some ⟨b, o, none⟩ := by
  cases ps with
  | nil => simp at h0
  | cons p ps => unfold PatsAt at h; obtain ⟨b, o, e, _⟩ := h; exact ⟨b, o, e⟩

mutual
theorem PatAt.same {w w' : World} {S S' : Nat → Prop} (h : ∀ b, S b → w'.heap[b]? = w.heap[b]?) (hs : ∀ b, S b → S' b) : ∀ (p : PatT) (b o : Nat), PatAt w S b o p → PatAt w' S' b o p
  | .mk k t n nm kids, b, o, hp => by
    unfold PatAt at hp ⊢
    obtain ⟨hb, hz, h0, h1, h2, h3, ka, cap, h4, hk⟩ := hp
    have hc : ∀ i, w'.cell? ⟨b, i, none⟩ = w.cell? ⟨b, i, none⟩ := fun i => World.cell?_of_block (h b hb)
    refine ⟨hs b hb, hz, ?_, ?_, ?_, ?_, ka, cap, ?_, PatsAt.same h hs kids ka hk⟩ <;> (rw [hc]; assumption)
theorem PatsAt.same {w w' : World} {S S' : Nat → Prop} (h : ∀ b, S b → w'.heap[b]? = w.heap[b]?) (hs : ∀ b, S b → S' b) : ∀ (ps : List PatT) (ka : Option Addr), PatsAt w S ka ps → PatsAt w' S' ka ps
  | [], _, _ => by unfold PatsAt; trivial
  | p :: ps, ka, hp => by
    unfold PatsAt at hp ⊢
    obtain ⟨b, o, e, h1, h2⟩ := hp
    exact ⟨b, o, e, PatAt.same h hs p b o h1, PatsAt.same h hs ps _ h2⟩
end
/-- S is of old blocks that X leaves alone. -/
def Safe (S : Nat → Prop) (X : Nat → Prop) (n : Nat) : Prop := ∀ b, S b → b < n ∧ ¬ X b
theorem Safe.mono {S : Nat → Prop} {X : Nat → Prop} {n m : Nat} (h : Safe S X n) (hm : n ≤ m) : Safe S X m := fun b hb => ⟨Nat.lt_of_lt_of_le (h b hb).1 hm, (h b hb).2⟩
theorem PatAt.kept {w w' : World} {S : Nat → Prop} {X : Nat → Prop} {p : PatT} {b o : Nat} (hp : PatAt w S b o p) (hk : Kept X w w') (hs : Safe S X w.heap.size) : PatAt w' S b o p :=
  PatAt.same (fun b hb => hk.block b (hs b hb).1 (hs b hb).2) (fun _ h => h) p b o hp
theorem PatsAt.kept {w w' : World} {S : Nat → Prop} {X : Nat → Prop} {ps : List PatT} {ka : Option Addr} (hp : PatsAt w S ka ps) (hk : Kept X w w') (hs : Safe S X w.heap.size) : PatsAt w' S ka ps :=
  PatsAt.same (fun b hb => hk.block b (hs b hb).1 (hs b hb).2) (fun _ h => h) ps ka hp

theorem PatAt.to {w w' : World} {S S' : Nat → Prop} {X : Nat → Prop} {p : PatT} {b o : Nat} (hp : PatAt w S b o p) (hk : Kept X w w') (hs : Safe S X w.heap.size) (h : ∀ b, S b → S' b) : PatAt w' S' b o p :=
  PatAt.same (fun b hb => hk.block b (hs b hb).1 (hs b hb).2) h p b o hp
theorem PatsAt.to {w w' : World} {S S' : Nat → Prop} {X : Nat → Prop} {ps : List PatT} {ka : Option Addr} (hp : PatsAt w S ka ps) (hk : Kept X w w') (hs : Safe S X w.heap.size) (h : ∀ b, S b → S' b) : PatsAt w' S' ka ps :=
  PatsAt.same (fun b hb => hk.block b (hs b hb).1 (hs b hb).2) h ps ka hp
theorem Safe.lt {n m : Nat} (h : n ≤ m) : Safe (· < n) Nix m := fun _ hb => ⟨Nat.lt_of_lt_of_le hb h, fun h => h⟩

variable {σ : Type}
mutual
def walkF (f : σ → PatT → Nat → σ × Bool) : σ → PatT → Nat → σ × Bool
  | st, .mk k t n nm kids, d => match f st (.mk k t n nm kids) d with
    | (st', false) => (st', false)
    | (st', true) => walkKids f st' kids (d + 1)
def walkKids (f : σ → PatT → Nat → σ × Bool) : σ → List PatT → Nat → σ × Bool
  | st, [], _ => (st, true)
  | st, p :: ps, d => match walkF f st p d with
    | (st', false) => (st', false)
    | (st', true) => walkKids f st' ps d
end
mutual
def sizeT : PatT → Nat
  | .mk _ _ _ _ kids => 1 + sizeL kids
def sizeL : List PatT → Nat
  | [] => 0
  | p :: ps => sizeT p + sizeL ps
end
theorem length_le_sizeL : ∀ l : List PatT, l.length ≤ sizeL l
  | [] => by simp [sizeL]
  | p :: ps => by cases p; have := length_le_sizeL ps; simp only [List.length_cons, sizeL, sizeT]; omega
theorem sizeT_get : ∀ (l : List PatT) (j : Nat) (hj : j < l.length), sizeT l[j] ≤ sizeL l
  | [], _, hj => by simp at hj
  | p :: ps, 0, _ => by simp only [List.getElem_cons_zero, sizeL]; omega
  | p :: ps, j + 1, hj => by have := sizeT_get ps j (by simpa using hj); simp only [List.getElem_cons_succ, sizeL]; omega
end Go.Proofs.YtdnglicgmlldlaaDoor

namespace Go.Proofs.YtdnglicgmlldlaaDoor
open Go.RowKit

def WalkPost {σ : Type} (I : σ → World → Prop) (X : Nat → Prop) (r : σ × Bool) (w : World) (e : Ending) (w' : World) : Prop :=
  e = .returned (.bool r.2) ∧ I r.1 w' ∧ Kept X w w'

mutual
theorem walkF_G {σ : Type} {G : Nat → σ → Prop} {f : σ → PatT → Nat → σ × Bool} (hG : ∀ n st p d, G (n + 1) st → (f st p d).2 = true → G n (f st p d).1) : ∀ (p : PatT) (r : Nat) (st : σ) (d : Nat), G (sizeT p + r) st → (walkF f st p d).2 = true → G r (walkF f st p d).1
  | .mk k t n nm kids, r, st, d, hg => by
    have h1 := hG (sizeL kids + r) st (.mk k t n nm kids) d (by rw [sizeT] at hg; rwa [show sizeL kids + r + 1 = 1 + sizeL kids + r by omega])
    rw [walkF]
    cases hr : f st (.mk k t n nm kids) d with
    | mk st1 ok => rw [hr] at h1; cases ok <;> simp_all; exact walkKids_G hG kids r st1 (d + 1) h1
theorem walkKids_G {σ : Type} {G : Nat → σ → Prop} {f : σ → PatT → Nat → σ × Bool} (hG : ∀ n st p d, G (n + 1) st → (f st p d).2 = true → G n (f st p d).1) : ∀ (l : List PatT) (r : Nat) (st : σ) (d : Nat), G (sizeL l + r) st → (walkKids f st l d).2 = true → G r (walkKids f st l d).1
  | [], r, st, d, hg => by intro _; rw [walkKids]; rw [sizeL, Nat.zero_add] at hg; exact hg
  | p :: ps, r, st, d, hg => by
    have h1 := walkF_G hG p (sizeL ps + r) st d (by rw [sizeL] at hg; rwa [← Nat.add_assoc])
    rw [walkKids]
    cases hr : walkF f st p d with
    | mk st1 ok => rw [hr] at h1; cases ok <;> simp_all; exact walkKids_G hG ps r st1 d h1
end
theorem sizeL_drop (l : List PatT) (j : Nat) (hj : j < l.length) : sizeL (l.drop j) = sizeT l[j] + sizeL (l.drop (j + 1)) := by
  rw [List.drop_eq_getElem_cons hj, sizeL]

set_option maxRecDepth 100000 in
set_option maxHeartbeats 400000 in
theorem walk_any {σ : Type} (F : FuncId) (caps : Array Value) (hF : ∀ (args : Array Value) (w : World), (callFunc F args).run Tryd.prog w = .ok (.enter F args) w)
    (I : σ → World → Prop) (G : Nat → σ → Prop) (f : σ → PatT → Nat → σ × Bool) (hG : ∀ n st p d, G (n + 1) st → (f st p d).2 = true → G n (f st p d).1) (X : Nat → Prop) (S : Nat → Prop) (D : Nat) (hD : D < 1000000000)
    (hcl : ∀ n st p b o d w, I st w → G (n + 1) st → PatAt w S b o p → Safe S X w.heap.size → d ≤ D → Calls Tryd.prog F (#[.pointer (some ⟨b, o, none⟩), .int .i64 (d : Nat)] ++ caps) w (WalkPost I X (f st p d) w)) :
    ∀ (m : Nat) (p : PatT) (r : Nat) (st : σ) (b o d : Nat) (w : World), sizeT p ≤ m → d + m ≤ D → I st w → G (sizeT p + r) st → PatAt w S b o p → Safe S X w.heap.size →
      Calls Tryd.prog 26 #[.pointer (some ⟨b, o, none⟩), .int .i64 (d : Nat), .func (.func F) #[] caps] w (WalkPost I X (walkF f st p d) w) := by
  intro m
  induction m with
  | zero => intro p r st b o d w hm; cases p; simp [sizeT] at hm
  | succ m ih =>
    rintro ⟨k, t, n, nm, kids⟩ r st b o d w hm hd hI hg hp hS
    replace hg : G (sizeL kids + r + 1) st := by rw [sizeT] at hg; rwa [show sizeL kids + r + 1 = 1 + sizeL kids + r by omega]
    go_enter Tryd.func26, Tryd.ntmps26
    go_wp2_with fail
    refine (hcl (sizeL kids + r) st _ b o d _ hI hg hp hS (by omega)).mono ?_
    rintro e w1 ⟨rfl, hI1, hb1⟩
    have hS1 := hS.mono hb1.size
    have hp1 := hp.kept hb1 hS
    unfold PatAt at hp1
    obtain ⟨hbB, ⟨_, _, hkl⟩, h0, h1, h2, h3, ka, cap, h4, hk⟩ := hp1
    clear h0 h1 h2 h3
    have hg1 := hG (sizeL kids + r) st (.mk k t n nm kids) d hg
    cases hr : (f st (.mk k t n nm kids) d) with
    | mk st1 ok =>
    rw [hr] at hI1 hg1
    cases ok with
    | false =>
      have Hr := Lib.hid hr; clear hr
      dsimp only at hI1 hg1
      go_wp2_with fail
      go_ret
      exact ⟨by simp [walkF, Hr.out], by simpa [walkF, Hr.out] using hI1, hb1⟩
    | true =>
      have Hr := Lib.hid hr; clear hr
      dsimp only at hI1 hg1
      have hlen : kids.length ≤ m := by have h := length_le_sizeL kids; simp only [sizeT] at hm; omega
      have hsz : ∀ j (hj : j < kids.length), sizeT kids[j] ≤ m := by intro j hj; have h := sizeT_get kids j hj; simp only [sizeT] at hm; omega
      replace hg1 := hg1 rfl
      have Hw : Hid (walkF f st (.mk k t n nm kids) d = walkKids f st1 kids (d + 1)) := by simp [walkF, Hr.out, Hid]
      clear hm
      go_wp2_with fail
      go_loopw [18] (fun i wr => ∃ (j : Nat) (st' : σ), j ≤ kids.length ∧ i = .int .i64 j ∧ Hid (walkKids f st' (kids.drop j) (d+1) = walkKids f st1 kids (d + 1)) ∧ I st' wr ∧ G (sizeL (kids.drop j) + r) st' ∧ Kept X w wr) (fun i _ => kids.length - (intOf i).toNat)
      case atStart => exact ⟨0, st1, Nat.zero_le _, rfl, by simp [Hid], hI1, by simpa using hg1, hb1⟩
      case round =>
        obtain ⟨j, st', hj, rfl, Hk, hI', hg', hb'⟩ := hrel
        have hp' := hp.kept hb' hS
        have hS' := hS.mono hb'.size
        unfold PatAt at hp'
        obtain ⟨hbB', _, _, _, _, _, ka', cap', h4', hk'⟩ := hp'
        by_cases hlt : j < kids.length
        · obtain ⟨kb, ko, rfl⟩ := PatsAt_head hk' (by omega)
          have hkid := PatsAt_get kids kb ko j hlt hk'
          have hszj := hsz j hlt
          replace hg' : G (sizeT kids[j] + (sizeL (kids.drop (j + 1)) + r)) st' := by rw [sizeL_drop kids j hlt] at hg'; rwa [← Nat.add_assoc]
          go_wp2_with fail
          refine (ih kids[j] (sizeL (kids.drop (j + 1)) + r) st' kb (ko + j * 5) (d + 1) _ hszj (by omega) hI' hg' hkid hS').mono ?_
          rintro e w2 ⟨rfl, hI2, hb2⟩
          have Hs : Hid (walkKids f st' (kids.drop j) (d + 1) = match walkF f st' kids[j] (d+1) with | (st', false) => (st', false) | (st', true) => walkKids f st' (kids.drop (j+1)) (d+1)) := by
            rw [List.drop_eq_getElem_cons hlt]; simp only [walkKids, Hid] <;> rfl
          cases hr2 : walkF f st' kids[j] (d+1) with
          | mk st2 ok2 =>
          rw [hr2] at hI2
          have hg2 := walkF_G hG kids[j] (sizeL (kids.drop (j + 1)) + r) st' (d + 1) hg'
          rw [hr2] at hg2
          have Hr2 := Lib.hid hr2; clear hr2
          dsimp only at hI2
          cases ok2 with
          | false =>
            go_wp2_with fail
            go_ret
            have e1 : walkF f st (.mk k t n nm kids) d = (st2, false) := by
              rw [Hw.out, ← Hk.out, Hs.out, Hr2.out]
            rw [e1]; exact ⟨rfl, hI2, hb'.trans hb2⟩
          | true =>
            go_wp2_with fail
            go_roundw
            case rel => exact ⟨j + 1, st2, by omega, by go_num, by unfold Hid; rw [← Hk.out, Hs.out, Hr2.out], hI2, hg2 trivial, hb'.trans hb2⟩
            case measure => simp [intOf]; omega
        · go_wp2_with fail
          go_ret
          have e1 : walkF f st (.mk k t n nm kids) d = (st', true) := by
            rw [Hw.out, ← Hk.out, List.drop_of_length_le (by omega)]; rfl
          rw [e1]; exact ⟨rfl, hI', hb'⟩
end Go.Proofs.YtdnglicgmlldlaaDoor

namespace Go.Proofs.YtdnglicgmlldlaaDoor
open Go.RowKit

def sizeStep (st : Nat × Nat) (_ : PatT) (d : Nat) : (Nat × Nat) × Bool :=
  ((st.1 + 1, max st.2 d), decide (st.1 + 1 ≤ 4096) && decide (d ≤ 200))

def SizeI (c1 c2 : Nat) (st : Nat × Nat) (w : World) : Prop := Cel w c1 3 (.int .i64 st.1) ∧ Cel w c2 3 (.int .i64 st.2)

theorem size1_fin {c1 c2 n k d : Nat} {p : PatT} {w : World} (hne : c1 ≠ c2) (h1 : Cel w c1 3 (.int .i64 n)) (h2 : Cel w c2 3 (.int .i64 k)) {u : Bool} {v : Int}
    (hu : u = (decide (n + 1 ≤ 4096) && decide (d ≤ 200))) (hv : v = (max k d : Nat)) :
    WalkPost (SizeI c1 c2) (fun b => b = c1 ∨ b = c2) (sizeStep (n, k) p d) w (.returned (.bool u)) ((w.setCell ⟨c1, 0, none⟩ (.int .i64 ((n : Int) + 1))).setCell ⟨c2, 0, none⟩ (.int .i64 v)) := by
  subst hu hv
  refine ⟨rfl, ⟨?_, (h2.other hne.symm _).set _⟩, ((Kept.refl _ w).setCell (.inl (by simp)) _).setCell (.inl (by simp)) _⟩
  simpa [sizeStep] using (h1.set (.int .i64 ((n : Int) + 1))).other (o := 0) hne (.int .i64 (max k d : Nat))

set_option maxRecDepth 100000 in
set_option maxHeartbeats 400000 in
theorem size1_any (c1 c2 : Nat) (hne : c1 ≠ c2) (st : Nat × Nat) (p : PatT) (a : Value) (d : Nat) (w : World)
    (hI : SizeI c1 c2 st w) (hd : d < 1000000000) (hs : st.1 ≤ 4096) :
    Calls Tryd.prog 41 #[a, .int .i64 (d : Nat), .pointer (some ⟨c1, 0, none⟩), .pointer (some ⟨c2, 0, none⟩)] w
      (WalkPost (SizeI c1 c2) (fun b => b = c1 ∨ b = c2) (sizeStep st p d) w) := by
  obtain ⟨n, k⟩ := st
  obtain ⟨h1, h2⟩ := hI
  dsimp only at h1 h2 hs
  have q1 := h1.cell; have q2 := h2.cell; have f1 := h1.free; have f2 := h2.free
  have H1 := Lib.hid h1; have H2 := Lib.hid h2; clear h1 h2
  go_enter Tryd.func41, Tryd.ntmps41
  go_wp2
  all_goals
    go_ret
    exact size1_fin hne H1.out H2.out (by first | (rw [decide_eq_true (show n + 1 ≤ 4096 from by omega), Bool.true_and]; exact decide_eq_decide.2 (by omega)) | rw [decide_eq_false (show ¬ n + 1 ≤ 4096 from by omega), Bool.false_and]) (by omega)

theorem PatV.box {w : World} {S : Nat → Prop} {v : Value} {p : PatT} (h : PatV w S v p) (t : TypeId) (hS : ∀ b, S b → b < w.heap.size) :
    ∃ c, v = .agg c ∧ PatAt (w.alloc (.cells c t)) (fun b => S b ∨ b = w.heap.size) w.heap.size 0 p := by
  obtain ⟨k, tx, n, nm, kids⟩ := p
  obtain ⟨ka, cap, rfl, hz, hk⟩ := h
  dsimp only [PatT.kind, PatT.text, PatT.n, PatT.name, PatT.kids] at hk hz
  refine ⟨_, rfl, ?_⟩
  unfold PatAt
  refine ⟨.inr rfl, hz, by simp, by simp, by simp, by simp, ka, cap, by simp, ?_⟩
  exact PatsAt.same (fun b hb => Below.heap_alloc _ _ _ (hS b hb)) (fun b hb => .inl hb) kids ka hk

def sizeR (r : (Nat × Nat) × Bool) : Value := if r.2 then .tuple #[.int .i64 r.1.1, .int .i64 r.1.2, .int .i64 0] else .tuple #[.int .i64 0, .int .i64 0, .int .i64 4]
def sizeF (p : PatT) : Value := sizeR (walkF sizeStep (0, 0) p 1)

set_option maxRecDepth 100000 in
set_option maxHeartbeats 400000 in
theorem size_any (p : PatT) (v : Value) (w : World) (hp : PatV w (· < w.heap.size) v p) (hsz : sizeT p ≤ 100000000) :
    Calls Tryd.prog 22 #[v] w (fun e w' => e = .returned (sizeF p) ∧ Kept Nix w w') := by
  obtain ⟨c, rfl, hb⟩ := hp.box 24 (fun b hb => hb)
  have hmf : ∀ (fn : Fn) (first cap : Array Value) (w : World), (Instr.makeFunc fn first cap).run Tryd.prog w = .ok (.func fn first cap) w := fun _ _ _ _ => rfl
  go_enter Tryd.func22, Tryd.ntmps22
  go_wp2_with fail
  refine (walk_any 41 #[.pointer (some ⟨w.heap.size + 1, 0, none⟩), .pointer (some ⟨w.heap.size + 1 + 1, 0, none⟩)] (fun _ _ => by kernel_rfl) (SizeI (w.heap.size + 1) (w.heap.size + 1 + 1)) (fun _ st => st.1 ≤ 4096) sizeStep
    (fun _ st p d _ h => by simp [sizeStep] at h ⊢; omega) (fun b => b = w.heap.size + 1 ∨ b = w.heap.size + 1 + 1) (fun b => b < w.heap.size ∨ b = w.heap.size) 500000000 (by omega) ?cl 100000000 p 0 (0, 0) w.heap.size 0 1 _ hsz (by omega) ?i (by simp) ?pt ?sf).mono ?_
  case cl =>
    intro _ st p b o d w' hi hg _ _ hd
    exact size1_any _ _ (by omega) st p _ d w' hi (by omega) hg
  case i => exact ⟨(Cel.new' (by simp)).alloc _, Cel.new' (by simp)⟩
  case pt => exact PatAt.same (fun b hb => by rw [Below.heap_alloc, Below.heap_alloc] <;> simp <;> omega) (fun _ h => h) _ _ _ hb
  case sf => intro b hb; simp; omega
  rintro e w1 ⟨rfl, hI1, hk1⟩
  obtain ⟨h1, h2⟩ := hI1
  have hK : Kept Nix w w1 := (((Kept.refl Nix w).alloc _).alloc _).alloc _ |>.step hk1 (by simp; omega)
  have q1 := h1.cell; have q2 := h2.cell; have f1 := h1.free; have f2 := h2.free
  have HK := Lib.hid hK; clear hK hk1 hb hp h1 h2
  cases hr : walkF sizeStep (0, 0) p 1 with
  | mk st ok =>
  obtain ⟨n, d⟩ := st
  have Hr : Hid (sizeF p = sizeR ((n, d), ok)) := by simp [sizeF, hr, Hid]
  rw [hr] at q1 q2; clear hr
  dsimp only at q1 q2
  have K1 : ∀ a b, Kept Nix w ((w1.setCell ⟨w.heap.size + 1, 0, none⟩ a).setCell ⟨w.heap.size + 1 + 1, 0, none⟩ b) := fun a b => (HK.out.setCell (.inr (by simp)) _).setCell (.inr (by simp; omega)) _
  have HK1 := Lib.hid K1; clear K1
  cases ok with
  | true =>
    go_wp2_with fail
    go_region
    all_goals go_wp2
    all_goals exact bodyPost_ret (v := .tuple #[.int .i64 n, .int .i64 d, .int .i64 0]) (by simp [results, Tryd.results22, go_sem, q1, q2]) rfl ⟨by rw [Hr.out]; rfl, by first | exact (HK1.out _ _).drew | exact (HK1.out _ _)⟩
  | false =>
    go_wp2_with fail
    exact bodyPost_ret (v := .tuple #[.int .i64 0, .int .i64 0, .int .i64 4]) (by simp [results, Tryd.results22, go_sem, q1, q2]) rfl ⟨by rw [Hr.out]; rfl, by first | exact (HK1.out _ _).drew | exact (HK1.out _ _)⟩
end Go.Proofs.YtdnglicgmlldlaaDoor

namespace Go.Proofs.YtdnglicgmlldlaaDoor
open Go.RowKit

theorem isEmpty_size {t : ByteArray} : t.toList.isEmpty = true ↔ t.size = 0 := by
  rw [ByteArray.toList_eq]; simp only [List.isEmpty_iff, ByteArray.size]
  rw [← Array.length_toList, List.length_eq_zero_iff]
theorem isEmpty_size' {t : ByteArray} : t.toList.isEmpty = false ↔ 0 < t.size := by
  rw [← Bool.not_eq_true, isEmpty_size]; omega
def upperN (c : UInt8) : Bool := decide (65 ≤ c.toNat) && decide (c.toNat ≤ 90)
def digitN (c : UInt8) : Bool := decide (48 ≤ c.toNat) && decide (c.toNat ≤ 57)
def namedAt (i : Nat) (c : UInt8) : Bool := upperN c || (i != 0 && digitN c)
def namedF (s : ByteArray) : Bool := decide (1 ≤ s.size) && decide (s.size ≤ 16) && (List.range s.size).all fun i => namedAt i (s.data.toList.getD i 0)
theorem getD_at {s : ByteArray} {k : Nat} (h : k < s.size) : s.data.toList.getD k 0 = s[k] := by
  have : k < s.data.toList.length := by simpa using h
  rw [List.getD_eq_getElem?_getD, List.getElem?_eq_getElem this]; rfl
theorem named_no {s : ByteArray} {k : Nat} (h : k < s.size) (hn : namedAt k s[k] = false) : namedF s = false := by
  unfold namedF
  rw [Bool.and_eq_false_iff]; right
  rw [List.all_eq_false]
  exact ⟨k, by simpa using h, by rw [getD_at h, hn]; simp⟩
theorem named_yes {s : ByteArray} (h1 : 1 ≤ s.size) (h2 : s.size ≤ 16) (h : ∀ j, j < s.size → namedAt j (s.data.toList.getD j 0) = true) : namedF s = true := by
  unfold namedF
  simp only [Bool.and_eq_true, decide_eq_true_eq, List.all_eq_true, List.mem_range]
  exact ⟨⟨h1, h2⟩, h⟩
theorem na_upper {i : Nat} {c : UInt8} (h1 : 65 ≤ c.toNat) (h2 : c.toNat ≤ 90) : namedAt i c = true := by simp [namedAt, upperN, h1, h2]
theorem na_digit {i : Nat} {c : UInt8} (h0 : i ≠ 0) (h1 : 48 ≤ c.toNat) (h2 : c.toNat ≤ 57) : namedAt i c = true := by simp [namedAt, digitN, h0, h1, h2]
theorem na_no {i : Nat} {c : UInt8} (h1 : c.toNat < 65 ∨ 90 < c.toNat) (h2 : i = 0 ∨ c.toNat < 48 ∨ 57 < c.toNat) : namedAt i c = false := by
  have a : upperN c = false := by unfold upperN; rcases h1 with h | h <;> simp <;> omega
  unfold namedAt; rw [a]
  rcases h2 with h | h | h
  · simp [h]
  · simp [digitN]; intro; omega
  · simp [digitN]; omega

set_option maxHeartbeats 400000 in
theorem named_any (s : ByteArray) (w : World) (hs : s.size ≤ maxLen) :
    Calls Tryd.prog 42 #[.string s] w fun e w' => e = .returned (.bool (namedF s)) ∧ w = w' := by
  unfold maxLen at hs
  by_cases h0 : s.size < 1
  · go_enter Tryd.func42, Tryd.ntmps42
    go_wp2
    go_ret
    exact ⟨by unfold namedF; rw [decide_eq_false (by omega)]; rfl, rfl⟩
  by_cases h1 : 16 < s.size
  · go_enter Tryd.func42, Tryd.ntmps42
    go_wp2
    go_ret
    exact ⟨by unfold namedF; rw [decide_eq_false (show ¬ s.size ≤ 16 by omega)]; simp, rfl⟩
  go_enter Tryd.func42, Tryd.ntmps42
  go_wp2
  go_loop [15] (fun i => ∃ k : Nat, k ≤ s.size ∧ i = .int .i64 k ∧ Hid (∀ j, j < k → namedAt j (s.data.toList.getD j 0) = true)) (fun i => s.size - (intOf i).toNat)
  case atStart => exact ⟨0, Nat.zero_le _, rfl, by intro j hj; omega⟩
  case round =>
    obtain ⟨k, hk, rfl, hok⟩ := hrel
    by_cases hlt : k < s.size
    · have step : namedAt k s[k] = true → ∀ j, j < k + 1 → namedAt j (s.data.toList.getD j 0) = true := by
        intro hn j hj
        rcases Nat.lt_or_ge j k with h | h
        · exact hok.out j h
        · obtain rfl : j = k := by omega
          rw [getD_at hlt]; exact hn
      have Step := Lib.hid step; clear step
      rcases (show (65 ≤ s[k].toNat ∧ s[k].toNat ≤ 90) ∨ ((s[k].toNat < 65 ∨ 90 < s[k].toNat) ∧ k = 0) ∨ ((48 ≤ s[k].toNat ∧ s[k].toNat ≤ 57) ∧ 0 < k) ∨ ((s[k].toNat < 48 ∨ (57 < s[k].toNat ∧ s[k].toNat < 65)) ∧ 0 < k) ∨ (90 < s[k].toNat ∧ 0 < k) by omega) with ⟨a, b⟩ | ⟨a, b⟩ | ⟨⟨a, b⟩, c⟩ | ⟨a, c⟩ | ⟨a, c⟩
      · go_wp2
        go_round
        case rel => exact ⟨k + 1, by omega, by go_num, Step.out (na_upper a b)⟩
        case measure => simp [intOf]; omega
      · have fin := Lib.hid (named_no hlt (na_no a (.inl b)))
        subst b
        rcases a with a | a
        · go_wp2
          go_ret
          exact ⟨by rw [fin.out]; try rfl, rfl⟩
        · have q : decide ((s[0].toNat : Int) ≤ 90) = false := decide_eq_false (by omega)
          go_wp2
          go_ret
          exact ⟨by rw [fin.out]; try rfl, rfl⟩
      · have z : ((k : Int) == 0) = false := by simp; omega
        have q : decide ((s[k].toNat : Int) ≤ 57) = true := decide_eq_true (by omega)
        go_wp2
        go_round
        case rel => exact ⟨k + 1, by omega, by go_num, Step.out (na_digit (by omega) a b)⟩
        case measure => simp [intOf]; omega
      · have fin := Lib.hid (named_no hlt (na_no (by omega) (.inr (by omega))))
        have z : ((k : Int) == 0) = false := by simp; omega
        rcases a with a | ⟨a, b⟩ <;>
        · try have q : decide ((s[k].toNat : Int) ≤ 57) = false := decide_eq_false (by omega)
          go_wp2
          go_ret
          exact ⟨by rw [fin.out]; try rfl, rfl⟩
      · have fin := Lib.hid (named_no hlt (na_no (by omega) (.inr (by omega))))
        have z : ((k : Int) == 0) = false := by simp; omega
        have q : decide ((s[k].toNat : Int) ≤ 90) = false := decide_eq_false (by omega)
        have q' : decide ((s[k].toNat : Int) ≤ 57) = false := decide_eq_false (by omega)
        go_wp2
        go_ret
        exact ⟨by rw [fin.out]; try rfl, rfl⟩
    · obtain rfl : k = s.size := by omega
      have fin := Lib.hid (named_yes (by omega) (by omega) hok.out)
      go_wp2
      go_ret
      exact ⟨by rw [fin.out]; try rfl, rfl⟩
end Go.Proofs.YtdnglicgmlldlaaDoor
