/- Expressions (trees of the same shape as patterns): what is wrong with one, and how the document counts (pure). Statements: as trees, in memory, as values. -/
import Derived.Test.YtcfcdobgpldoiaaGreatDoorLaw4
namespace Go.Proofs.YtcfcdobgpldoiaaGreatDoor
set_option linter.all false
open Go.RowKit

def exKids (k : Int) : Int := if k = 4 ∨ k = 5 ∨ k = 7 then 1 else if 8 ≤ k ∧ k ≤ 13 then 2 else 0
/-- What is wrong with a node alone. -/
def ownE (k : Int) (t : ByteArray) (n : Int) (nm : ByteArray) (len : Nat) : Int :=
  if k < 1 ∨ 13 < k then 1
  else if k = 1 ∧ 65536 < t.size then 4
  else if k = 2 ∧ n < 0 then 3
  else if (k = 3 ∨ k = 4 ∨ k = 6) ∧ namedF nm = false then 7
  else if (k = 6 ∧ 8 < len) ∨ (k ≠ 6 ∧ (len : Int) ≠ exKids k) then 5 else 0
mutual
def nodeE : PatT → Int
  | .mk k t n nm kids => if ownE k t n nm kids.length = 0 then nodesE kids else ownE k t n nm kids.length
def nodesE : List PatT → Int
  | [] => 0
  | p :: r => if nodeE p = 0 then nodesE r else nodeE p
end
theorem nodesE_drop (l : List PatT) (j : Nat) (h : j < l.length) : nodesE (l.drop j) = if nodeE l[j] = 0 then nodesE (l.drop (j + 1)) else nodeE l[j] := by
  rw [List.drop_eq_getElem_cons h, nodesE]
/-- What is wrong with an expression. -/
def exprE (p : PatT) : Int := if fits p then nodeE p else 4

mutual
/-- The document's count. -/
def countR : PatT → Nat → Nat × Nat
  | .mk _ _ _ _ kids, d => if 200 < d then (1, d) else countL kids d 1 d
def countL : List PatT → Nat → Nat → Nat → Nat × Nat
  | [], _, n, m => (n, m)
  | p :: r, d, n, m =>
    if 4096 < n + (countR p (d + 1)).1 ∨ 200 < max m (countR p (d + 1)).2 then (n + (countR p (d + 1)).1, max m (countR p (d + 1)).2)
    else countL r d (n + (countR p (d + 1)).1) (max m (countR p (d + 1)).2)
end
mutual
theorem count_fits : ∀ (p : PatT) (d : Nat), 1 ≤ d →
    (sizeT p ≤ 4096 ∧ d + depthT p ≤ 201 → countR p d = (sizeT p, d + depthT p - 1)) ∧
    (¬ (sizeT p ≤ 4096 ∧ d + depthT p ≤ 201) → 4096 < (countR p d).1 ∨ 200 < (countR p d).2)
  | .mk k t n nm kids, d, hd => by
    have ih := countL_fits kids d 1 d hd (by omega) (Nat.le_refl _)
    rw [countR, sizeT, depthT]
    by_cases h2 : 200 < d
    · rw [if_pos h2]
      exact ⟨fun h => by omega, fun _ => .inr h2⟩
    · rw [if_neg h2]
      obtain ⟨a, b⟩ := ih (by omega)
      refine ⟨fun h => ?_, fun h => b (by omega)⟩
      rw [a (by omega)]
      exact Prod.ext rfl (by dsimp only; omega)
theorem countL_fits : ∀ (l : List PatT) (d n m : Nat), 1 ≤ d → n ≤ 4096 → d ≤ m → m ≤ 200 →
    (n + sizeL l ≤ 4096 ∧ d + depthL l ≤ 200 → countL l d n m = (n + sizeL l, max m (d + depthL l))) ∧
    (¬ (n + sizeL l ≤ 4096 ∧ d + depthL l ≤ 200) → 4096 < (countL l d n m).1 ∨ 200 < (countL l d n m).2)
  | [], d, n, m, hd, hn, hdm, hm => by
    rw [countL, sizeL, depthL]
    exact ⟨fun _ => Prod.ext rfl (by dsimp only; omega), fun h => absurd ⟨by omega, by omega⟩ h⟩
  | p :: r, d, n, m, hd, hn, hdm, hm => by
    obtain ⟨a, b⟩ := count_fits p (d + 1) (by omega)
    have hp := depthT_pos p
    rw [countL, sizeL, depthL]
    by_cases hf : sizeT p ≤ 4096 ∧ d + 1 + depthT p ≤ 201
    · rw [a hf]
      dsimp only
      by_cases ho : 4096 < n + sizeT p ∨ 200 < max m (d + 1 + depthT p - 1)
      · rw [if_pos ho]
        exact ⟨fun h => by omega, fun _ => ho⟩
      · rw [if_neg ho]
        obtain ⟨x, y⟩ := countL_fits r d (n + sizeT p) (max m (d + 1 + depthT p - 1)) hd (by omega) (by omega) (by omega)
        refine ⟨fun h => ?_, fun h => y (by omega)⟩
        rw [x (by omega)]
        exact Prod.ext (by dsimp only; omega) (by dsimp only; omega)
    · have ho := b hf
      have ho' : 4096 < n + (countR p (d + 1)).1 ∨ 200 < max m (countR p (d + 1)).2 := by omega
      rw [if_pos ho']
      exact ⟨fun h => by omega, fun _ => ho'⟩
end
mutual
theorem count_le : ∀ (p : PatT) (d : Nat), (countR p d).1 ≤ sizeT p ∧ (countR p d).2 ≤ d + depthT p
  | .mk k t n nm kids, d => by
    have ih := countL_le kids d 1 d
    rw [countR, sizeT, depthT]
    by_cases h2 : 200 < d
    · rw [if_pos h2]; exact ⟨by dsimp only; omega, by dsimp only; omega⟩
    · rw [if_neg h2]; omega
theorem countL_le : ∀ (l : List PatT) (d n m : Nat), (countL l d n m).1 ≤ n + sizeL l ∧ (countL l d n m).2 ≤ max m (d + 1 + depthL l)
  | [], d, n, m => by rw [countL, sizeL, depthL]; exact ⟨by dsimp only; omega, by dsimp only; omega⟩
  | p :: r, d, n, m => by
    have h1 := count_le p (d + 1)
    have h2 := countL_le r d (n + (countR p (d + 1)).1) (max m (countR p (d + 1)).2)
    rw [countL, sizeL, depthL]
    split
    · exact ⟨by dsimp only; omega, by dsimp only; omega⟩
    · omega
end
/-- The document's answer is the program's. -/
theorem exprE_eq (p : PatT) : exprE p = if 4096 < (countR p 1).1 ∨ 200 < (countR p 1).2 then 4 else nodeE p := by
  obtain ⟨a, b⟩ := count_fits p 1 (Nat.le_refl _)
  have hp := depthT_pos p
  unfold exprE
  by_cases hf : fits p
  · have h := hf; unfold fits at h
    rw [if_pos hf, a (by omega), if_neg (by dsimp only; omega)]
  · have h := hf; unfold fits at h
    rw [if_neg hf, if_pos (b (by omega))]
end Go.Proofs.YtcfcdobgpldoiaaGreatDoor

namespace Go.Proofs.YtcfcdobgpldoiaaGreatDoor
set_option linter.all false
open Go.RowKit

structure StT where
  label : ByteArray
  kind : Int
  target : PatT
  value : PatT
  pat : PatT
  name : ByteArray
  entry : ByteArray
  params : List ByteArray
  locals : List ByteArray
  always : ByteArray
  yes : ByteArray
  noes : ByteArray
/-- Where its kids, its names lie. -/
structure StA where
  ta : Option Addr
  tc : Nat
  va : Option Addr
  vc : Nat
  pa : Option Addr
  pc : Nat
  ma : Option Addr
  mc : Nat
  la : Option Addr
  lc : Nat
def StrsAt (w : World) (S : Nat → Prop) (a : Option Addr) (l : List ByteArray) : Prop :=
  0 < l.length → ∃ b o, a = some ⟨b, o, none⟩ ∧ S b ∧ ∀ i (h : i < l.length), w.cell? ⟨b, o + i, none⟩ = some (.string l[i])
theorem StrsAt.to {w w' : World} {S S' : Nat → Prop} {X : Nat → Prop} {a : Option Addr} {l : List ByteArray} (h : StrsAt w S a l) (hk : Kept X w w') (hs : Safe S X w.heap.size) (h' : ∀ b, S b → S' b) : StrsAt w' S' a l := by
  intro h0
  obtain ⟨b, o, rfl, hb, hc⟩ := h h0
  exact ⟨b, o, rfl, h' b hb, fun i hi => (hk.cell (hs b hb).1 (hs b hb).2).trans (hc i hi)⟩
def stVal (a : StA) (s : StT) : Value :=
  .agg #[.string s.label, .int .i64 s.kind,
    .int .i64 s.target.kind, .string s.target.text, .int .i64 s.target.n, .string s.target.name, .slice a.ta s.target.kids.length a.tc,
    .int .i64 s.value.kind, .string s.value.text, .int .i64 s.value.n, .string s.value.name, .slice a.va s.value.kids.length a.vc,
    .int .i64 s.pat.kind, .string s.pat.text, .int .i64 s.pat.n, .string s.pat.name, .slice a.pa s.pat.kids.length a.pc,
    .string s.name, .string s.entry, .slice a.ma s.params.length a.mc, .slice a.la s.locals.length a.lc, .string s.always, .string s.yes, .string s.noes]
/-- Its cells, one behind the other. -/
def stCells (a : StA) (s : StT) : List Value :=
  [.string s.label, .int .i64 s.kind,
    .int .i64 s.target.kind, .string s.target.text, .int .i64 s.target.n, .string s.target.name, .slice a.ta s.target.kids.length a.tc,
    .int .i64 s.value.kind, .string s.value.text, .int .i64 s.value.n, .string s.value.name, .slice a.va s.value.kids.length a.vc,
    .int .i64 s.pat.kind, .string s.pat.text, .int .i64 s.pat.n, .string s.pat.name, .slice a.pa s.pat.kids.length a.pc,
    .string s.name, .string s.entry, .slice a.ma s.params.length a.mc, .slice a.la s.locals.length a.lc, .string s.always, .string s.yes, .string s.noes]
/-- It lies at block N. -/
def StB (N : Nat) (a : StA) (s : StT) (w : World) : Prop := w.heap[N]? = some (.cells #[.string s.label, .int .i64 s.kind,
    .int .i64 s.target.kind, .string s.target.text, .int .i64 s.target.n, .string s.target.name, .slice a.ta s.target.kids.length a.tc,
    .int .i64 s.value.kind, .string s.value.text, .int .i64 s.value.n, .string s.value.name, .slice a.va s.value.kids.length a.vc,
    .int .i64 s.pat.kind, .string s.pat.text, .int .i64 s.pat.n, .string s.pat.name, .slice a.pa s.pat.kids.length a.pc,
    .string s.name, .string s.entry, .slice a.ma s.params.length a.mc, .slice a.la s.locals.length a.lc, .string s.always, .string s.yes, .string s.noes] 33 (0, 0))
theorem StB.new (w : World) (a : StA) (s : StT) : StB w.heap.size a s (w.alloc (.cells #[.string s.label, .int .i64 s.kind,
    .int .i64 s.target.kind, .string s.target.text, .int .i64 s.target.n, .string s.target.name, .slice a.ta s.target.kids.length a.tc,
    .int .i64 s.value.kind, .string s.value.text, .int .i64 s.value.n, .string s.value.name, .slice a.va s.value.kids.length a.vc,
    .int .i64 s.pat.kind, .string s.pat.text, .int .i64 s.pat.n, .string s.pat.name, .slice a.pa s.pat.kids.length a.pc,
    .string s.name, .string s.entry, .slice a.ma s.params.length a.mc, .slice a.la s.locals.length a.lc, .string s.always, .string s.yes, .string s.noes] 33)) := heap_alloc_new w _
theorem StB.lt {N : Nat} {a : StA} {s : StT} {w : World} (h : StB N a s w) : N < w.heap.size := (Array.getElem?_eq_some_iff.1 h).1
theorem StB.kept {N : Nat} {a : StA} {s : StT} {w w' : World} {X : Nat → Prop} (h : StB N a s w) (hk : Kept X w w') (hx : ¬ X N) : StB N a s w' := by
  unfold StB; rw [hk.block N h.lt hx]; exact h
theorem StB.cells {N : Nat} {a : StA} {s : StT} {w : World} (h : StB N a s w) : w.cell? ⟨N, 0, none⟩ = some (.string s.label) ∧
    w.cell? ⟨N, 1, none⟩ = some (.int .i64 s.kind) ∧
    w.cell? ⟨N, 2, none⟩ = some (.int .i64 s.target.kind) ∧
    w.cell? ⟨N, 3, none⟩ = some (.string s.target.text) ∧
    w.cell? ⟨N, 4, none⟩ = some (.int .i64 s.target.n) ∧
    w.cell? ⟨N, 5, none⟩ = some (.string s.target.name) ∧
    w.cell? ⟨N, 6, none⟩ = some (.slice a.ta s.target.kids.length a.tc) ∧
    w.cell? ⟨N, 7, none⟩ = some (.int .i64 s.value.kind) ∧
    w.cell? ⟨N, 8, none⟩ = some (.string s.value.text) ∧
    w.cell? ⟨N, 9, none⟩ = some (.int .i64 s.value.n) ∧
    w.cell? ⟨N, 10, none⟩ = some (.string s.value.name) ∧
    w.cell? ⟨N, 11, none⟩ = some (.slice a.va s.value.kids.length a.vc) ∧
    w.cell? ⟨N, 12, none⟩ = some (.int .i64 s.pat.kind) ∧
    w.cell? ⟨N, 13, none⟩ = some (.string s.pat.text) ∧
    w.cell? ⟨N, 14, none⟩ = some (.int .i64 s.pat.n) ∧
    w.cell? ⟨N, 15, none⟩ = some (.string s.pat.name) ∧
    w.cell? ⟨N, 16, none⟩ = some (.slice a.pa s.pat.kids.length a.pc) ∧
    w.cell? ⟨N, 17, none⟩ = some (.string s.name) ∧
    w.cell? ⟨N, 18, none⟩ = some (.string s.entry) ∧
    w.cell? ⟨N, 19, none⟩ = some (.slice a.ma s.params.length a.mc) ∧
    w.cell? ⟨N, 20, none⟩ = some (.slice a.la s.locals.length a.lc) ∧
    w.cell? ⟨N, 21, none⟩ = some (.string s.always) ∧
    w.cell? ⟨N, 22, none⟩ = some (.string s.yes) ∧
    w.cell? ⟨N, 23, none⟩ = some (.string s.noes) := by
  unfold StB at h
  refine ⟨?_, ?_, ?_, ?_, ?_, ?_, ?_, ?_, ?_, ?_, ?_, ?_, ?_, ?_, ?_, ?_, ?_, ?_, ?_, ?_, ?_, ?_, ?_, ?_⟩ <;> (rw [cell_of_row w N _ _ _ _ h]; rfl)
structure PatSz (p : PatT) : Prop where
  z : p.text.size < 1000000000 ∧ p.name.size < 1000000000 ∧ p.kids.length < 1000000000
  t : sizeT p ≤ 1048576
structure StSz (s : StT) : Prop where
  label : s.label.size < 1000000000
  target : PatSz s.target
  value : PatSz s.value
  pat : PatSz s.pat
  name : s.name.size < 1000000000
  entry : s.entry.size < 1000000000
  params : s.params.length < 1000000000 ∧ ∀ x ∈ s.params, x.size < 1000000000
  locals : s.locals.length < 1000000000 ∧ ∀ x ∈ s.locals, x.size < 1000000000
  always : s.always.size < 1000000000
  yes : s.yes.size < 1000000000
  noes : s.noes.size < 1000000000
structure StOk (w : World) (S : Nat → Prop) (a : StA) (s : StT) : Prop where
  target : PatsAt w S a.ta s.target.kids
  value : PatsAt w S a.va s.value.kids
  pat : PatsAt w S a.pa s.pat.kids
  params : StrsAt w S a.ma s.params
  locals : StrsAt w S a.la s.locals
theorem StOk.to {w w' : World} {S S' : Nat → Prop} {X : Nat → Prop} {a : StA} {s : StT} (h : StOk w S a s) (hk : Kept X w w') (hs : Safe S X w.heap.size) (h' : ∀ b, S b → S' b) : StOk w' S' a s :=
  ⟨h.target.to hk hs h', h.value.to hk hs h', h.pat.to hk hs h', h.params.to hk hs h', h.locals.to hk hs h'⟩
def StV (w : World) (S : Nat → Prop) (v : Value) (s : StT) : Prop := ∃ a, v = stVal a s ∧ StSz s ∧ StOk w S a s
def StAt (w : World) (S : Nat → Prop) (b o : Nat) (s : StT) : Prop :=
  ∃ a, S b ∧ StSz s ∧ (∀ i (h : i < 24), w.cell? ⟨b, o + i, none⟩ = some ((stCells a s)[i]'(by simpa [stCells] using h))) ∧ StOk w S a s
theorem StAt.to {w w' : World} {S S' : Nat → Prop} {X : Nat → Prop} {b o : Nat} {s : StT} (h : StAt w S b o s) (hk : Kept X w w') (hs : Safe S X w.heap.size) (h' : ∀ b, S b → S' b) : StAt w' S' b o s := by
  obtain ⟨a, hb, hz, hc, ho⟩ := h
  exact ⟨a, h' b hb, hz, fun i hi => (hk.cell (hs b hb).1 (hs b hb).2).trans (hc i hi), ho.to hk hs h'⟩
/-- A list of statements. -/
def StsAt (w : World) (S : Nat → Prop) (a : Option Addr) (l : List StT) : Prop := 0 < l.length → ∃ b o, a = some ⟨b, o, none⟩ ∧ ∀ i (h : i < l.length), StAt w S b (o + i * 24) l[i]
theorem StsAt.to {w w' : World} {S S' : Nat → Prop} {X : Nat → Prop} {a : Option Addr} {l : List StT} (h : StsAt w S a l) (hk : Kept X w w') (hs : Safe S X w.heap.size) (h' : ∀ b, S b → S' b) : StsAt w' S' a l := by
  intro h0
  obtain ⟨b, o, rfl, hc⟩ := h h0
  exact ⟨b, o, rfl, fun i hi => (hc i hi).to hk hs h'⟩

/-- What is wrong with a list of names. -/
def namedE : List ByteArray → Int
  | [] => 0
  | x :: r => if namedF x = true then namedE r else 7
def isTarget (p : PatT) : Prop := p.kind = 3 ∨ p.kind = 4 ∨ p.kind = 5
instance (p : PatT) : Decidable (isTarget p) := by unfold isTarget; exact inferInstance
/-- The first that is not nothing. -/
def firstE : List Int → Int
  | [] => 0
  | e :: r => if e = 0 then firstE r else e
def optE (s : ByteArray) : Bool := decide (s.size = 0) || namedF s
/-- What is wrong with a statement. -/
def wrongS (s : StT) : Int :=
  if ¬ (optE s.label = true ∧ optE s.always = true ∧ optE s.yes = true ∧ optE s.noes = true) then 7
  else if s.always.size ≠ 0 ∧ (s.yes.size ≠ 0 ∨ s.noes.size ≠ 0) then 8
  else if s.kind = 1 then 0
  else if s.kind = 2 then exprE s.value
  else if s.kind = 4 then firstE [exprE s.value, wrongF s.pat]
  else if s.kind = 3 then firstE [exprE s.target, if isTarget s.target then 0 else 8, exprE s.value]
  else if s.kind = 5 then firstE [exprE s.target, if isTarget s.target then 0 else 8, wrongF s.pat, exprE s.value]
  else if s.kind = 6 then firstE [namedE [s.name], wrongF s.pat]
  else if s.kind = 7 then firstE [namedE [s.name], namedE s.params, namedE s.locals, namedE [s.entry], if 8 < s.params.length ∨ 8 < s.locals.length then 5 else 0]
  else 1
end Go.Proofs.YtcfcdobgpldoiaaGreatDoor
