/- Statements: as trees, in memory, as values. A line's statement out of its tokens, as plain functions. The program's lexer: letter, digit, quoted, bracketed; the document's word, digit. -/
import Derived.Test.YtlnhcgihpclpaaaGreatDoorLm10
import Derived.Test.YtlnhcgihpclpaaaGreatDoorLm5
import Derived.BigQuiet
namespace Go.Proofs.YtlnhcgihpclpaaaGreatDoor
set_option linter.all false
open Go.RowKit

structure StT where
  label : ByteArray
  kind : Int
  target : PatT
  value : PatT
  pat : PatT
  name : ByteArray
  entry : ByteArray
  params : List ByteArray
  locals : List ByteArray
  always : ByteArray
  yes : ByteArray
  noes : ByteArray
/-- Where its kids, its names lie. -/
structure StA where
  ta : Option Addr
  tc : Nat
  va : Option Addr
  vc : Nat
  pa : Option Addr
  pc : Nat
  ma : Option Addr
  mc : Nat
  la : Option Addr
  lc : Nat
def StrsAt (w : World) (S : Nat → Prop) (a : Option Addr) (l : List ByteArray) : Prop :=
  0 < l.length → ∃ b o, a = some ⟨b, o, none⟩ ∧ S b ∧ ∀ i (h : i < l.length), w.cell? ⟨b, o + i, none⟩ = some (.string l[i])
theorem StrsAt.to {w w' : World} {S S' : Nat → Prop} {X : Nat → Prop} {a : Option Addr} {l : List ByteArray} (h : StrsAt w S a l) (hk : Kept X w w') (hs : Safe S X w.heap.size) (h' : ∀ b, S b → S' b) : StrsAt w' S' a l := by
  intro h0
  obtain ⟨b, o, rfl, hb, hc⟩ := h h0
  exact ⟨b, o, rfl, h' b hb, fun i hi => (hk.cell (hs b hb).1 (hs b hb).2).trans (hc i hi)⟩
def stVal (a : StA) (s : StT) : Value :=
  .agg #[.string s.label, .int .i64 s.kind,
    .int .i64 s.target.kind, .string s.target.text, .int .i64 s.target.n, .string s.target.name, .slice a.ta s.target.kids.length a.tc,
    .int .i64 s.value.kind, .string s.value.text, .int .i64 s.value.n, .string s.value.name, .slice a.va s.value.kids.length a.vc,
    .int .i64 s.pat.kind, .string s.pat.text, .int .i64 s.pat.n, .string s.pat.name, .slice a.pa s.pat.kids.length a.pc,
    .string s.name, .string s.entry, .slice a.ma s.params.length a.mc, .slice a.la s.locals.length a.lc, .string s.always, .string s.yes, .string s.noes]
/-- Its cells, one behind the other. -/
def stCells (a : StA) (s : StT) : List Value :=
  [.string s.label, .int .i64 s.kind,
    .int .i64 s.target.kind, .string s.target.text, .int .i64 s.target.n, .string s.target.name, .slice a.ta s.target.kids.length a.tc,
    .int .i64 s.value.kind, .string s.value.text, .int .i64 s.value.n, .string s.value.name, .slice a.va s.value.kids.length a.vc,
    .int .i64 s.pat.kind, .string s.pat.text, .int .i64 s.pat.n, .string s.pat.name, .slice a.pa s.pat.kids.length a.pc,
    .string s.name, .string s.entry, .slice a.ma s.params.length a.mc, .slice a.la s.locals.length a.lc, .string s.always, .string s.yes, .string s.noes]
/-- It lies at block N. -/
def StB (N : Nat) (a : StA) (s : StT) (w : World) : Prop := w.heap[N]? = some (.cells #[.string s.label, .int .i64 s.kind,
    .int .i64 s.target.kind, .string s.target.text, .int .i64 s.target.n, .string s.target.name, .slice a.ta s.target.kids.length a.tc,
    .int .i64 s.value.kind, .string s.value.text, .int .i64 s.value.n, .string s.value.name, .slice a.va s.value.kids.length a.vc,
    .int .i64 s.pat.kind, .string s.pat.text, .int .i64 s.pat.n, .string s.pat.name, .slice a.pa s.pat.kids.length a.pc,
    .string s.name, .string s.entry, .slice a.ma s.params.length a.mc, .slice a.la s.locals.length a.lc, .string s.always, .string s.yes, .string s.noes] 49 (0, 0))
theorem StB.new (w : World) (a : StA) (s : StT) : StB w.heap.size a s (w.alloc (.cells #[.string s.label, .int .i64 s.kind,
    .int .i64 s.target.kind, .string s.target.text, .int .i64 s.target.n, .string s.target.name, .slice a.ta s.target.kids.length a.tc,
    .int .i64 s.value.kind, .string s.value.text, .int .i64 s.value.n, .string s.value.name, .slice a.va s.value.kids.length a.vc,
    .int .i64 s.pat.kind, .string s.pat.text, .int .i64 s.pat.n, .string s.pat.name, .slice a.pa s.pat.kids.length a.pc,
    .string s.name, .string s.entry, .slice a.ma s.params.length a.mc, .slice a.la s.locals.length a.lc, .string s.always, .string s.yes, .string s.noes] 49)) := heap_alloc_new w _
theorem StB.lt {N : Nat} {a : StA} {s : StT} {w : World} (h : StB N a s w) : N < w.heap.size := (Array.getElem?_eq_some_iff.1 h).1
theorem StB.kept {N : Nat} {a : StA} {s : StT} {w w' : World} {X : Nat → Prop} (h : StB N a s w) (hk : Kept X w w') (hx : ¬ X N) : StB N a s w' := by
  unfold StB; rw [hk.block N h.lt hx]; exact h
theorem StB.cells {N : Nat} {a : StA} {s : StT} {w : World} (h : StB N a s w) : w.cell? ⟨N, 0, none⟩ = some (.string s.label) ∧
    w.cell? ⟨N, 1, none⟩ = some (.int .i64 s.kind) ∧
    w.cell? ⟨N, 2, none⟩ = some (.int .i64 s.target.kind) ∧
    w.cell? ⟨N, 3, none⟩ = some (.string s.target.text) ∧
    w.cell? ⟨N, 4, none⟩ = some (.int .i64 s.target.n) ∧
    w.cell? ⟨N, 5, none⟩ = some (.string s.target.name) ∧
    w.cell? ⟨N, 6, none⟩ = some (.slice a.ta s.target.kids.length a.tc) ∧
    w.cell? ⟨N, 7, none⟩ = some (.int .i64 s.value.kind) ∧
    w.cell? ⟨N, 8, none⟩ = some (.string s.value.text) ∧
    w.cell? ⟨N, 9, none⟩ = some (.int .i64 s.value.n) ∧
    w.cell? ⟨N, 10, none⟩ = some (.string s.value.name) ∧
    w.cell? ⟨N, 11, none⟩ = some (.slice a.va s.value.kids.length a.vc) ∧
    w.cell? ⟨N, 12, none⟩ = some (.int .i64 s.pat.kind) ∧
    w.cell? ⟨N, 13, none⟩ = some (.string s.pat.text) ∧
    w.cell? ⟨N, 14, none⟩ = some (.int .i64 s.pat.n) ∧
    w.cell? ⟨N, 15, none⟩ = some (.string s.pat.name) ∧
    w.cell? ⟨N, 16, none⟩ = some (.slice a.pa s.pat.kids.length a.pc) ∧
    w.cell? ⟨N, 17, none⟩ = some (.string s.name) ∧
    w.cell? ⟨N, 18, none⟩ = some (.string s.entry) ∧
    w.cell? ⟨N, 19, none⟩ = some (.slice a.ma s.params.length a.mc) ∧
    w.cell? ⟨N, 20, none⟩ = some (.slice a.la s.locals.length a.lc) ∧
    w.cell? ⟨N, 21, none⟩ = some (.string s.always) ∧
    w.cell? ⟨N, 22, none⟩ = some (.string s.yes) ∧
    w.cell? ⟨N, 23, none⟩ = some (.string s.noes) := by
  unfold StB at h
  refine ⟨?_, ?_, ?_, ?_, ?_, ?_, ?_, ?_, ?_, ?_, ?_, ?_, ?_, ?_, ?_, ?_, ?_, ?_, ?_, ?_, ?_, ?_, ?_, ?_⟩ <;> (rw [cell_of_row w N _ _ _ _ h]; rfl)
structure PatSz (p : PatT) : Prop where
  z : p.text.size < 1000000000 ∧ p.name.size < 1000000000 ∧ p.kids.length < 1000000000
  t : sizeT p ≤ 1048576
structure StSz (s : StT) : Prop where
  label : s.label.size < 1000000000
  target : PatSz s.target
  value : PatSz s.value
  pat : PatSz s.pat
  name : s.name.size < 1000000000
  entry : s.entry.size < 1000000000
  params : s.params.length < 1000000000 ∧ ∀ x ∈ s.params, x.size < 1000000000
  locals : s.locals.length < 1000000000 ∧ ∀ x ∈ s.locals, x.size < 1000000000
  always : s.always.size < 1000000000
  yes : s.yes.size < 1000000000
  noes : s.noes.size < 1000000000
structure StOk (w : World) (S : Nat → Prop) (a : StA) (s : StT) : Prop where
  target : PatsAt w S a.ta s.target.kids
  value : PatsAt w S a.va s.value.kids
  pat : PatsAt w S a.pa s.pat.kids
  params : StrsAt w S a.ma s.params
  locals : StrsAt w S a.la s.locals
theorem StOk.to {w w' : World} {S S' : Nat → Prop} {X : Nat → Prop} {a : StA} {s : StT} (h : StOk w S a s) (hk : Kept X w w') (hs : Safe S X w.heap.size) (h' : ∀ b, S b → S' b) : StOk w' S' a s :=
  ⟨h.target.to hk hs h', h.value.to hk hs h', h.pat.to hk hs h', h.params.to hk hs h', h.locals.to hk hs h'⟩
def StV (w : World) (S : Nat → Prop) (v : Value) (s : StT) : Prop := ∃ a, v = stVal a s ∧ StSz s ∧ StOk w S a s
def StAt (w : World) (S : Nat → Prop) (b o : Nat) (s : StT) : Prop :=
  ∃ a, S b ∧ StSz s ∧ (∀ i (h : i < 24), w.cell? ⟨b, o + i, none⟩ = some ((stCells a s)[i]'(by simpa [stCells] using h))) ∧ StOk w S a s
theorem StAt.to {w w' : World} {S S' : Nat → Prop} {X : Nat → Prop} {b o : Nat} {s : StT} (h : StAt w S b o s) (hk : Kept X w w') (hs : Safe S X w.heap.size) (h' : ∀ b, S b → S' b) : StAt w' S' b o s := by
  obtain ⟨a, hb, hz, hc, ho⟩ := h
  exact ⟨a, h' b hb, hz, fun i hi => (hk.cell (hs b hb).1 (hs b hb).2).trans (hc i hi), ho.to hk hs h'⟩
/-- A list of statements. -/
def StsAt (w : World) (S : Nat → Prop) (a : Option Addr) (l : List StT) : Prop := 0 < l.length → ∃ b o, a = some ⟨b, o, none⟩ ∧ ∀ i (h : i < l.length), StAt w S b (o + i * 24) l[i]
theorem StsAt.to {w w' : World} {S S' : Nat → Prop} {X : Nat → Prop} {a : Option Addr} {l : List StT} (h : StsAt w S a l) (hk : Kept X w w') (hs : Safe S X w.heap.size) (h' : ∀ b, S b → S' b) : StsAt w' S' a l := by
  intro h0
  obtain ⟨b, o, rfl, hc⟩ := h h0
  exact ⟨b, o, rfl, fun i hi => (hc i hi).to hk hs h'⟩

/-- What is wrong with a list of names. -/
def namedE : List ByteArray → Int
  | [] => 0
  | x :: r => if namedF x = true then namedE r else 7
def isTarget (p : PatT) : Prop := p.kind = 3 ∨ p.kind = 4 ∨ p.kind = 5
instance (p : PatT) : Decidable (isTarget p) := by unfold isTarget; exact inferInstance
/-- The first that is not nothing. -/
def firstE : List Int → Int
  | [] => 0
  | e :: r => if e = 0 then firstE r else e
def optE (s : ByteArray) : Bool := decide (s.size = 0) || namedF s
/-- What is wrong with a statement. -/
def wrongS (s : StT) : Int :=
  if ¬ (optE s.label = true ∧ optE s.always = true ∧ optE s.yes = true ∧ optE s.noes = true) then 7
  else if s.always.size ≠ 0 ∧ (s.yes.size ≠ 0 ∨ s.noes.size ≠ 0) then 8
  else if s.kind = 1 then 0
  else if s.kind = 2 then exprE s.value
  else if s.kind = 4 then firstE [exprE s.value, wrongF s.pat]
  else if s.kind = 3 then firstE [exprE s.target, if isTarget s.target then 0 else 8, exprE s.value]
  else if s.kind = 5 then firstE [exprE s.target, if isTarget s.target then 0 else 8, wrongF s.pat, exprE s.value]
  else if s.kind = 6 then firstE [namedE [s.name], wrongF s.pat]
  else if s.kind = 7 then firstE [namedE [s.name], namedE s.params, namedE s.locals, namedE [s.entry], if 8 < s.params.length ∨ 8 < s.locals.length then 5 else 0]
  else 1
end Go.Proofs.YtlnhcgihpclpaaaGreatDoor

namespace Go.Proofs.YtlnhcgihpclpaaaGreatDoor
set_option linter.all false
open Go.RowKit

abbrev TRes (α : Type) := Except Er (α × List LTok)
def atT (en : Nat) : List LTok → Nat
  | [] => en
  | t :: _ => t.at_
def signT (x : ByteArray) : List LTok → Bool
  | [] => false
  | t :: _ => decide (t.kind = 5 ∧ t.text = x)
def needT (x : ByteArray) (en : Nat) (l : List LTok) : Except Er (List LTok) := if signT x l = true then .ok l.tail else .error (2, atT en l)
def takeT (k : Int) (en : Nat) : List LTok → TRes LTok
  | [] => .error (2, en)
  | t :: r => if t.kind = k then .ok (t, r) else .error (2, t.at_)
def nameT (en : Nat) (l : List LTok) : TRes ByteArray :=
  match takeT 1 en l with
  | .error er => .error er
  | .ok (t, r) => if 16 < t.text.size then .error (7, t.at_) else .ok (t.text, r)
def patT (en : Nat) (l : List LTok) : TRes PatT :=
  match takeT 4 en l with
  | .error er => .error er
  | .ok (t, r) => if (readQ t.text).2.1 ≠ 0 then .error ((readQ t.text).2.1, t.at_ + 1 + (readQ t.text).2.2) else .ok ((readQ t.text).1, r)
def bs (l : List UInt8) : ByteArray := ⟨l.toArray⟩
/-- The operators of a level: 1 cats, 2 sums, 3 products; 0: none. -/
def opT (lev : Nat) (x : ByteArray) : Int :=
  if lev = 1 then (if x = bs [38] then 8 else 0)
  else if lev = 2 then (if x = bs [43] then 9 else if x = bs [45] then 10 else 0)
  else if x = bs [42] then 11 else if x = bs [47] then 12 else if x = bs [37] then 13 else 0
def node2 (k : Int) (x y : PatT) : PatT := .mk k E0 0 E0 [x, y]
def node1 (k : Int) (x : PatT) : PatT := .mk k E0 0 E0 [x]
def opAt (lev : Nat) : List LTok → Int
  | [] => 0
  | t :: _ => if t.kind = 5 then opT lev t.text else 0
def chainT (lev : Nat) (sub : List LTok → TRes PatT) : Nat → PatT → List LTok → TRes PatT
  | 0, x, l => .ok (x, l)
  | f + 1, x, l =>
    if 0 < opAt lev l then
      match sub l.tail with
      | .error er => .error er
      | .ok (y, r) => chainT lev sub f (node2 (opAt lev l) x y) r
    else .ok (x, l)
def levT (lev : Nat) (sub : List LTok → TRes PatT) (l : List LTok) : TRes PatT :=
  match sub l with
  | .error er => .error er
  | .ok (x, r) => chainT lev sub r.length x r
def binT (un : List LTok → TRes PatT) : List LTok → TRes PatT := levT 1 (levT 2 (levT 3 un))
/-- What a text of digits is. -/
def numV (l : List UInt8) : Nat := l.foldl (fun n c => n * 10 + (c.toNat - 48)) 0
def numT (t : LTok) (r : List LTok) : TRes PatT :=
  if 1 < t.text.size ∧ t.text.data.toList.head? = some 48 then .error (2, t.at_)
  else if 9223372036854775807 < numV t.text.data.toList then .error (3, t.at_)
  else .ok (.mk 2 E0 (numV t.text.data.toList) E0 [], r)
/-- What stands in a call's brackets, behind the first. -/
def argsT (ex : List LTok → TRes PatT) (en : Nat) : Nat → List PatT → List LTok → TRes (List PatT)
  | 0, ks, l => .ok (ks, l)
  | f + 1, ks, l =>
    if ks.length = 8 then .error (5, atT en l)
    else match ex l with
      | .error er => .error er
      | .ok (x, r) =>
        if signT (bs [41]) r = true then .ok (ks ++ [x], r.tail)
        else match needT (bs [44]) en r with
          | .error er => .error er
          | .ok r2 => argsT ex en f (ks ++ [x]) r2
def primT (ex pr : List LTok → TRes PatT) (en : Nat) (l : List LTok) : TRes PatT :=
  if signT (bs [40]) l = true then
    match ex l.tail with
    | .error er => .error er
    | .ok (x, r) => match needT (bs [41]) en r with
      | .error er => .error er
      | .ok r2 => .ok (x, r2)
  else if signT (bs [36]) l = true then
    match pr l.tail with
    | .error er => .error er
    | .ok (x, r) => .ok (node1 5 x, r)
  else match takeT 3 en l with
    | .ok (t, r) => .ok (.mk 1 t.text 0 E0 [], r)
    | .error _ => match takeT 2 en l with
      | .ok (t, r) => numT t r
      | .error _ => match nameT en l with
        | .error er => .error er
        | .ok (nm, r) =>
          if signT (bs [60]) r = true then
            match ex r.tail with
            | .error er => .error er
            | .ok (x, r2) => match needT (bs [62]) en r2 with
              | .error er => .error er
              | .ok r3 => .ok (.mk 4 E0 0 nm [x], r3)
          else if signT (bs [40]) r = true then
            if signT (bs [41]) r.tail = true then .ok (.mk 6 E0 0 nm [], r.tail.tail)
            else match argsT ex en 9 [] r.tail with
              | .error er => .error er
              | .ok (ks, r2) => .ok (.mk 6 E0 0 nm ks, r2)
          else .ok (.mk 3 E0 0 nm [], r)
def unT (un pr : List LTok → TRes PatT) (l : List LTok) : TRes PatT :=
  if signT (bs [45]) l = true then
    match un l.tail with
    | .error er => .error er
    | .ok (x, r) => .ok (node1 7 x, r)
  else pr l
/-- A sign's, a piece's reading where so many levels are left. -/
def deepT (en : Nat) : Nat → (List LTok → TRes PatT) × (List LTok → TRes PatT)
  | 0 => (unT (fun l => .error (4, atT en l)) (primT (fun l => .error (4, atT en l)) (fun l => .error (4, atT en l)) en), primT (fun l => .error (4, atT en l)) (fun l => .error (4, atT en l)) en)
  | d + 1 => (unT (deepT en d).1 (primT (binT (deepT en d).1) (deepT en d).2 en), primT (binT (deepT en d).1) (deepT en d).2 en)
/-- An expression, so many levels left. -/
def exprT (en : Nat) : Nat → List LTok → TRes PatT
  | 0, l => .error (4, atT en l)
  | d + 1, l => binT (deepT en d).1 l
/-- Names with commas between, up to a sign (up to where no comma comes). -/
def namesT (close : Option ByteArray) (en : Nat) : Nat → List ByteArray → List LTok → TRes (List ByteArray)
  | 0, ns, l => .ok (ns, l)
  | f + 1, ns, l =>
    if ns.length = 8 then .error (5, atT en l)
    else match nameT en l with
      | .error er => .error er
      | .ok (n, r) =>
        match close with
        | some c => if signT c r = true then .ok (ns ++ [n], r.tail) else
            match needT (bs [44]) en r with
            | .error er => .error er
            | .ok r2 => namesT close en f (ns ++ [n]) r2
        | none => if signT (bs [44]) r = true then namesT close en f (ns ++ [n]) r.tail else .ok (ns ++ [n], r)
def zeroT : PatT := .mk 0 E0 0 E0 []
def st0 : StT := ⟨E0, 1, zeroT, zeroT, zeroT, E0, E0, [], [], E0, E0, E0⟩
def sDefine : ByteArray := bs [68, 69, 70, 73, 78, 69]
def sRule : ByteArray := bs [58, 61]
def commaNext : List LTok → Bool
  | _ :: t :: _ => decide (t.kind = 1) || decide (t.kind = 5 ∧ t.text = bs [44])
  | _ => false
def defineT (en : Nat) (s : StT) (l : List LTok) : TRes StT :=
  match nameT en l with
  | .error er => .error er
  | .ok (nm, r) => match needT (bs [40]) en r with
    | .error er => .error er
    | .ok r1 => match (if signT (bs [41]) r1 = true then .ok ([], r1.tail) else namesT (some (bs [41])) en 9 [] r1) with
      | .error er => .error er
      | .ok (ps, r2) => match (if commaNext r2 = true then namesT none en 9 [] r2 else .ok ([], r2)) with
        | .error er => .error er
        | .ok (ls, r3) => match nameT en r3 with
          | .error er => .error er
          | .ok (e, r4) => .ok ({ s with kind := 7, name := nm, params := ps, locals := ls, entry := e }, r4)
def isDefine : List LTok → Bool
  | t :: u :: _ => decide (t.kind = 1 ∧ t.text = sDefine ∧ u.kind = 1)
  | _ => false
def isRule : List LTok → Bool
  | t :: u :: _ => decide (t.kind = 1 ∧ u.kind = 5 ∧ u.text = sRule)
  | _ => false
def ruleT (en : Nat) (s : StT) (l : List LTok) : TRes StT :=
  match nameT en l with
  | .error er => .error er
  | .ok (nm, r) => match needT sRule en r with
    | .error er => .error er
    | .ok r1 => match patT en r1 with
      | .error er => .error er
      | .ok (p, r2) => .ok ({ s with kind := 6, name := nm, pat := p }, r2)
def givenT (en at_ : Nat) (s : StT) (x : PatT) (k : Int) (l : List LTok) : TRes StT :=
  if signT (bs [61]) l = true then
    if ¬ isTarget x then .error (8, at_)
    else match exprT en 400 l.tail with
      | .error er => .error er
      | .ok (v, r) => .ok ({ s with kind := k, target := x, value := v }, r)
  else .ok (s, l)
def evalT (en : Nat) (s : StT) (l : List LTok) : TRes StT :=
  match exprT en 400 l with
  | .error er => .error er
  | .ok (x, r) =>
    if signT (bs [63]) r = true then
      match patT en r.tail with
      | .error er => .error er
      | .ok (p, r2) => givenT en (atT en l) { s with kind := 4, value := x, pat := p } x 5 r2
    else givenT en (atT en l) { s with kind := 2, value := x } x 3 r
def bodyT (en : Nat) (s : StT) (l : List LTok) : TRes StT :=
  if isDefine l = true then defineT en s l.tail
  else if isRule l = true then ruleT en s l
  else evalT en s l
def labelT (en : Nat) (l : List LTok) : TRes ByteArray :=
  match needT (bs [40]) en l with
  | .error er => .error er
  | .ok r => match nameT en r with
    | .error er => .error er
    | .ok (n, r1) => match needT (bs [41]) en r1 with
      | .error er => .error er
      | .ok r2 => .ok (n, r2)
def jumpsT (en : Nat) (s : StT) (l : List LTok) : TRes StT :=
  if signT (bs [40]) l = true then
    match labelT en l with
    | .error er => .error er
    | .ok (n, r) => .ok ({ s with always := n }, r)
  else match takeT 1 en l with
    | .error er => .error er
    | .ok (t, r) =>
      if t.text = bs [83] then
        match labelT en r with
        | .error er => .error er
        | .ok (n, r1) =>
          if r1 = [] then .ok ({ s with yes := n }, r1)
          else match takeT 1 en r1 with
            | .error er => .error er
            | .ok (u, r2) => if u.text = bs [70] then
                match labelT en r2 with
                | .error er => .error er
                | .ok (m, r3) => .ok ({ s with yes := n, noes := m }, r3)
              else .error (2, atT en r1)
      else if t.text = bs [70] then
        match labelT en r with
        | .error er => .error er
        | .ok (n, r1) => if r1 = [] then .ok ({ s with noes := n }, r1) else .error (2, atT en r1)
      else .error (2, atT en l)
mutual
def depT : PatT → Nat
  | .mk _ _ _ _ l => depL l + 1
def depL : List PatT → Nat
  | [] => 0
  | p :: r => max (depT p) (depL r)
end
def tailT (en : Nat) (s : StT) (l : List LTok) : Except Er StT :=
  match (if signT (bs [58]) l = true then jumpsT en s l.tail else .ok (s, l)) with
  | .error er => .error er
  | .ok (s2, r) => if r ≠ [] then .error (2, atT en r) else if 200 < depT s2.target ∨ 200 < depT s2.value then .error (4, 0) else .ok s2
def stmtT (en : Nat) (labelled : Bool) (l : List LTok) : Except Er StT :=
  match (if labelled = true then (match nameT en l with | .error er => .error er | .ok (n, r) => .ok ({ st0 with label := n }, r)) else (.ok (st0, l) : TRes StT)) with
  | .error er => .error er
  | .ok (s1, r) =>
    match (if r ≠ [] ∧ signT (bs [58]) r = false then bodyT en s1 r else .ok (s1, r)) with
    | .error er => .error er
    | .ok (s2, r2) => tailT en s2 r2
/-- What a line says: none: a remark. -/
def lineT (s : ByteArray) : Except Er (Option StT) :=
  if peek s 0 = 42 ∧ s.size ≤ 2000 then .ok none
  else match lexF s with
    | .error er => .error er
    | .ok l => match stmtT s.size (decide (s.size ≠ 0 ∧ peek s 0 ≠ 32 ∧ peek s 0 ≠ 58)) l with
      | .error er => .error er
      | .ok x => .ok (some x)
end Go.Proofs.YtlnhcgihpclpaaaGreatDoor

namespace Go.Proofs.YtlnhcgihpclpaaaGreatDoor
set_option linter.all false
open Go.RowKit

def BoolW (b : Bool) (w : World) (e : Ending) (w' : World) : Prop := e = .returned (.bool b) ∧ w' = w
set_option maxRecDepth 100000 in
theorem letter_any (c : UInt8) (w : World) : Calls Tryz.prog 36 #[.int .u8 c.toNat] w (BoolW (upperN c) w) := by
  rcases (show c.toNat < 65 ∨ (65 ≤ c.toNat ∧ c.toNat ≤ 90) ∨ 90 < c.toNat by omega) with h | ⟨h, h2⟩ | h
  · have fin : Hid (upperN c = false) := by unfold Hid upperN; simp; omega
    have d1 : decide ((65 : Int) ≤ (c.toNat : Int)) = false := decide_eq_false (by omega)
    have d2 : decide (65 ≤ c.toNat) = false := decide_eq_false (by omega)
    clear h
    go_enter Tryz.func36, Tryz.ntmps36
    go_wp2_with fail
    go_ret
    exact ⟨by rw [fin.out]; rfl, rfl⟩
  · have fin : Hid (upperN c = true) := by unfold Hid upperN; simp; omega
    have d1 : decide ((65 : Int) ≤ (c.toNat : Int)) = true := decide_eq_true (by omega)
    have d2 : decide (65 ≤ c.toNat) = true := decide_eq_true (by omega)
    have d3 : decide ((c.toNat : Int) ≤ 90) = true := decide_eq_true (by omega)
    have d4 : decide (c.toNat ≤ 90) = true := decide_eq_true (by omega)
    clear h h2
    go_enter Tryz.func36, Tryz.ntmps36
    go_wp2_with fail
    go_ret
    exact ⟨by rw [fin.out]; rfl, rfl⟩
  · have fin : Hid (upperN c = false) := by unfold Hid upperN; simp; omega
    have d1 : decide ((65 : Int) ≤ (c.toNat : Int)) = true := decide_eq_true (by omega)
    have d2 : decide (65 ≤ c.toNat) = true := decide_eq_true (by omega)
    have d3 : decide ((c.toNat : Int) ≤ 90) = false := decide_eq_false (by omega)
    have d4 : decide (c.toNat ≤ 90) = false := decide_eq_false (by omega)
    clear h
    go_enter Tryz.func36, Tryz.ntmps36
    go_wp2_with fail
    go_ret
    exact ⟨by rw [fin.out]; rfl, rfl⟩
set_option maxRecDepth 100000 in
theorem ldigit_any (c : UInt8) (w : World) : Calls Tryz.prog 37 #[.int .u8 c.toNat] w (BoolW (digitN c) w) := by
  rcases (show c.toNat < 48 ∨ (48 ≤ c.toNat ∧ c.toNat ≤ 57) ∨ 57 < c.toNat by omega) with h | ⟨h, h2⟩ | h
  · have fin : Hid (digitN c = false) := by unfold Hid digitN; simp; omega
    have d1 : decide ((48 : Int) ≤ (c.toNat : Int)) = false := decide_eq_false (by omega)
    have d2 : decide (48 ≤ c.toNat) = false := decide_eq_false (by omega)
    clear h
    go_enter Tryz.func37, Tryz.ntmps37
    go_wp2_with fail
    go_ret
    exact ⟨by rw [fin.out]; rfl, rfl⟩
  · have fin : Hid (digitN c = true) := by unfold Hid digitN; simp; omega
    have d1 : decide ((48 : Int) ≤ (c.toNat : Int)) = true := decide_eq_true (by omega)
    have d2 : decide (48 ≤ c.toNat) = true := decide_eq_true (by omega)
    have d3 : decide ((c.toNat : Int) ≤ 57) = true := decide_eq_true (by omega)
    have d4 : decide (c.toNat ≤ 57) = true := decide_eq_true (by omega)
    clear h h2
    go_enter Tryz.func37, Tryz.ntmps37
    go_wp2_with fail
    go_ret
    exact ⟨by rw [fin.out]; rfl, rfl⟩
  · have fin : Hid (digitN c = false) := by unfold Hid digitN; simp; omega
    have d1 : decide ((48 : Int) ≤ (c.toNat : Int)) = true := decide_eq_true (by omega)
    have d2 : decide (48 ≤ c.toNat) = true := decide_eq_true (by omega)
    have d3 : decide ((c.toNat : Int) ≤ 57) = false := decide_eq_false (by omega)
    have d4 : decide (c.toNat ≤ 57) = false := decide_eq_false (by omega)
    clear h
    go_enter Tryz.func37, Tryz.ntmps37
    go_wp2_with fail
    go_ret
    exact ⟨by rw [fin.out]; rfl, rfl⟩
/-- How long a text in quotes is that begins a text; 0: it does not end. -/
def qL (t : ByteArray) (j : Nat) : Nat := match qAt t j with | none => 0 | some n => j + n
theorem qL_other {t : ByteArray} {j : Nat} (h : j < t.size) (hc : t[j].toNat ≠ 39) : qL t (j + 1) = qL t j := by
  unfold qL; rw [q_other h hc]
  cases qAt t (j + 1) with
  | none => rfl
  | some n => show j + 1 + n = j + (n + 1); omega
theorem qL_two {t : ByteArray} {j : Nat} (h : j + 1 < t.size) (hc : t[j].toNat = 39) (hd : t[j + 1].toNat = 39) : qL t (j + 2) = qL t j := by
  unfold qL; rw [q_two h hc hd]
  cases qAt t (j + 2) with
  | none => rfl
  | some n => show j + 2 + n = j + (n + 2); omega
theorem qL_one {t : ByteArray} {j : Nat} (h : j < t.size) (hc : t[j].toNat = 39) (hd : ¬ ∃ h : j + 1 < t.size, t[j + 1].toNat = 39) : qL t j = j + 1 := by
  unfold qL; rw [q_one h hc hd]
theorem qL_end {t : ByteArray} {j : Nat} (h : t.size ≤ j) : qL t j = 0 := by unfold qL; rw [q_end h]
def IntW (n : Nat) (w : World) (e : Ending) (w' : World) : Prop := e = .returned (.int .i64 n) ∧ w' = w
set_option maxRecDepth 100000 in
set_option maxHeartbeats 2000000 in
theorem quoted_any (t : ByteArray) (w : World) (hs : t.size ≤ 1000000000) : Calls Tryz.prog 38 #[.string t] w (IntW (qL t 1) w) := by
  go_enter Tryz.func38, Tryz.ntmps38
  go_wp2_with fail
  go_loopw [3] (fun i wr => ∃ j : Nat, i = .int .i64 j ∧ j ≤ t.size + 1 ∧ Hid (qL t j = qL t 1) ∧ wr = w) (fun i _ => t.size + 1 - (intOf i).toNat)
  case atStart => exact ⟨1, rfl, by omega, rfl, by trivial⟩
  case round =>
    obtain ⟨j, rfl, hj, hq, hw_⟩ := hrel
    obtain rfl := hw_.symm
    by_cases hlt : j < t.size
    · have c1 : decide ((j : Int) < (t.size : Int)) = true := decide_eq_true (by omega)
      have c1' : decide (j < t.size) = true := decide_eq_true hlt
      have cb : (j : Int) < (t.size : Int) := by omega
      by_cases hc : t[j].toNat = 39
      · have c2 : ((t[j].toNat : Int) != 39) = false := by simp; omega
        obtain ⟨m1, em1⟩ : ∃ m1 : Nat, m1 = j + 1 := ⟨_, rfl⟩
        have em1i : (j : Int) + 1 = (m1 : Int) := by omega
        have EM := Lib.hid em1
        by_cases hd : ∃ h : j + 1 < t.size, t[j + 1].toNat = 39
        · obtain ⟨h2, h3⟩ := hd
          have step := Lib.hid (qL_two h2 hc h3)
          have hl1 : m1 < t.size := by omega
          have h3' : t[m1].toNat = 39 := by simp only [em1]; exact h3
          have g3 : decide ((m1 : Int) < (t.size : Int)) = true := decide_eq_true (by omega)
          have g3' : decide (m1 < t.size) = true := decide_eq_true hl1
          have g4 : ((t[m1].toNat : Int) == 39) = true := by simp; omega
          have bi2 : (m1 : Int) < (t.size : Int) := by omega
          clear hc h3 h3' em1 h2
          go_wp2_with fail
          go_roundw
          case rel => exact ⟨j + 2, by have := EM.out; go_num, by have := EM.out; omega, step.out.trans hq.out, by trivial⟩
          case measure => have := EM.out; simp [intOf]; omega
        · have fin : Hid (qL t 1 = m1) := by unfold Hid; rw [← hq.out, qL_one hlt hc hd, EM.out]
          by_cases hl1 : m1 < t.size
          · have g3 : decide ((m1 : Int) < (t.size : Int)) = true := decide_eq_true (by omega)
            have g3' : decide (m1 < t.size) = true := decide_eq_true hl1
            have h3' : t[m1].toNat ≠ 39 := fun h => hd ⟨by omega, by simp only [em1] at h; exact h⟩
            have g4 : ((t[m1].toNat : Int) == 39) = false := by simp; omega
            have bi2 : (m1 : Int) < (t.size : Int) := by omega
            clear hc hd h3' em1 hq
            go_wp2_with fail
            go_ret
            exact ⟨by rw [fin.out]; rfl, rfl⟩
          · have g3 : decide ((m1 : Int) < (t.size : Int)) = false := decide_eq_false (by omega)
            have g3' : decide (m1 < t.size) = false := decide_eq_false hl1
            clear hc hd em1 hq
            go_wp2_with fail
            go_ret
            exact ⟨by rw [fin.out]; rfl, rfl⟩
      · have c2 : ((t[j].toNat : Int) != 39) = true := by simp; omega
        have step := Lib.hid (qL_other hlt hc)
        clear hc
        go_wp2_with fail
        go_roundw
        case rel => exact ⟨j + 1, by go_num, by omega, step.out.trans hq.out, by trivial⟩
        case measure => simp [intOf]; omega
    · have c1 : decide ((j : Int) < (t.size : Int)) = false := decide_eq_false (by omega)
      have c1' : decide (j < t.size) = false := decide_eq_false hlt
      have fin : Hid (qL t 1 = 0) := by unfold Hid; rw [← hq.out, qL_end (by omega)]
      clear hq
      go_wp2_with fail
      go_ret
      exact ⟨by rw [fin.out]; rfl, rfl⟩
def bL (t : ByteArray) (j : Nat) : Nat := match bAt t j with | none => 0 | some n => j + n
theorem bL_close {t : ByteArray} {j : Nat} (h : j < t.size) (hc : t[j].toNat = 93) : bL t j = j + 1 := by unfold bL; rw [b_step h, if_pos hc]
theorem bL_none {t : ByteArray} {j : Nat} (h : j < t.size) (hc : t[j].toNat = 39) (hq : qAt t (j + 1) = none) : bL t j = 0 := by
  unfold bL; rw [b_step h, if_neg (by omega), if_pos hc, hq]
theorem bL_text {t : ByteArray} {j n : Nat} (h : j < t.size) (hc : t[j].toNat = 39) (hq : qAt t (j + 1) = some n) : bL t (j + 1 + n) = bL t j := by
  unfold bL; rw [b_step h, if_neg (by omega), if_pos hc, hq]
  dsimp only
  cases bAt t (j + 1 + n) with
  | none => rfl
  | some m => show j + 1 + n + m = j + (m + (n + 1)); omega
theorem bL_other {t : ByteArray} {j : Nat} (h : j < t.size) (h1 : t[j].toNat ≠ 93) (h2 : t[j].toNat ≠ 39) : bL t (j + 1) = bL t j := by
  unfold bL; rw [b_step h, if_neg h1, if_neg h2]
  cases bAt t (j + 1) with
  | none => rfl
  | some m => show j + 1 + m = j + (m + 1); omega
theorem bL_end {t : ByteArray} {j : Nat} (h : t.size ≤ j) : bL t j = 0 := by unfold bL; rw [b_end h]
set_option maxRecDepth 100000 in
set_option maxHeartbeats 2000000 in
theorem bracketed_any (t : ByteArray) (w : World) (hs : t.size ≤ 1000000000) : Calls Tryz.prog 40 #[.string t] w (IntW (bL t 1) w) := by
  have hQ : Hid (∀ (j : Nat), Calls Tryz.prog 38 #[.string (t.extract j t.size)] w (IntW (qL (t.extract j t.size) 1) w)) := fun j => quoted_any _ w (by rw [extract_size']; omega)
  go_enter Tryz.func40, Tryz.ntmps40
  go_wp2_with fail
  go_loopw [3] (fun i wr => ∃ j : Nat, i = .int .i64 j ∧ j ≤ t.size + 1 ∧ Hid (bL t j = bL t 1) ∧ wr = w) (fun i _ => t.size + 1 - (intOf i).toNat)
  case atStart => exact ⟨1, rfl, by omega, rfl, by trivial⟩
  case round =>
    obtain ⟨j, rfl, hj, hq, hw_⟩ := hrel
    obtain rfl := hw_.symm
    by_cases hlt : j < t.size
    · have c1 : decide ((j : Int) < (t.size : Int)) = true := decide_eq_true (by omega)
      have c1' : decide (j < t.size) = true := decide_eq_true hlt
      have cb : (j : Int) < (t.size : Int) := by omega
      by_cases hc : t[j].toNat = 93
      · have c2 : ((t[j].toNat : Int) == 93) = true := by simp; omega
        have fin : Hid (bL t 1 = j + 1) := by unfold Hid; rw [← hq.out, bL_close hlt hc]
        clear hc hq
        go_wp2_with fail
        go_ret
        exact ⟨by rw [fin.out]; rfl, rfl⟩
      have c2 : ((t[j].toNat : Int) == 93) = false := by simp; omega
      by_cases hd : t[j].toNat = 39
      · have c3 : ((t[j].toNat : Int) == 39) = true := by simp; omega
        have eq1 : qL (t.extract j t.size) 1 = match qAt t (j + 1) with | none => 0 | some n => n + 1 := by
          unfold qL; rw [q_extract]
          cases qAt t (j + 1) with
          | none => rfl
          | some n => show 1 + n = n + 1; omega
        cases hqa : qAt t (j + 1) with
        | none =>
          rw [hqa] at eq1
          have fin : Hid (bL t 1 = 0) := by unfold Hid; rw [← hq.out, bL_none hlt hd hqa]
          have HQ : Hid (Calls Tryz.prog 38 #[.string (t.extract j t.size)] w (IntW 0 w)) := by have h := hQ.out j; rw [eq1] at h; exact h
          clear hc hd hq hqa eq1
          go_wp2_with (go_at_call 38; (refine HQ.out.mono ?_); rintro e w' ⟨rfl, hw_⟩; obtain rfl := hw_.symm)
          go_ret
          exact ⟨by rw [fin.out]; rfl, rfl⟩
        | some n =>
          rw [hqa] at eq1
          have hle := q_le hqa
          have step := Lib.hid (bL_text hlt hd hqa)
          have HQ : Hid (Calls Tryz.prog 38 #[.string (t.extract j t.size)] w (IntW (n + 1) w)) := by have h := hQ.out j; rw [eq1] at h; exact h
          obtain ⟨n1, en1⟩ : ∃ n1 : Nat, n1 = n + 1 := ⟨_, rfl⟩
          rw [← en1] at HQ
          have EN := Lib.hid en1
          have HW : Hid (wrap64 (wrap64 ((j : Int) + wrap64 ((n1 : Int) - 1)) + 1) = ((j + 1 + n : Nat) : Int)) := by unfold Hid wrap64; omega
          have zn : ((n1 : Int) == 0) = false := by simp; omega
          clear hc hd hqa eq1 en1
          go_wp2_with (go_at_call 38; (refine HQ.out.mono ?_); rintro e w' ⟨rfl, hw_⟩; obtain rfl := hw_.symm)
          go_roundw
          case rel => exact ⟨j + 1 + n, congrArg (Value.int .i64) HW.out, by omega, step.out.trans hq.out, by trivial⟩
          case measure => simp only [intOf, HW.out]; omega
      · have c3 : ((t[j].toNat : Int) == 39) = false := by simp; omega
        have step := Lib.hid (bL_other hlt hc hd)
        clear hc hd
        go_wp2_with fail
        go_roundw
        case rel => exact ⟨j + 1, by go_num, by omega, step.out.trans hq.out, by trivial⟩
        case measure => simp [intOf]; omega
    · have c1 : decide ((j : Int) < (t.size : Int)) = false := decide_eq_false (by omega)
      have c1' : decide (j < t.size) = false := decide_eq_false hlt
      have fin : Hid (bL t 1 = 0) := by unfold Hid; rw [← hq.out, bL_end (by omega)]
      clear hq
      go_wp2_with fail
      go_ret
      exact ⟨by rw [fin.out]; rfl, rfl⟩
end Go.Proofs.YtlnhcgihpclpaaaGreatDoor
