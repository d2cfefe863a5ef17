/- The reader of patterns: its recursion, as plain functions. -/
import Derived.Test.YtdnglicgmlldlaaDoorRd3
import Derived.Test.YtdnglicgmlldlaaDoorRd4
import Derived.Test.YtdnglicgmlldlaaDoorShelf
namespace Go.Proofs.YtdnglicgmlldlaaDoor
open Go.RowKit

def E0 : ByteArray := ⟨#[]⟩
def kindOf (x : ByteArray) : Int := Lib.idxOfS wordsL x
def pk (k : Int) (t : ByteArray) (n : Int) (nm : ByteArray) (l : List PatT) : PatT := .mk k t n nm l
/-- Brackets round a text, a number. -/
def argTextP (s : ByteArray) (k : Nat) (kd : Int) : Res PatT :=
  match needP 40 s k with
  | .error e => .error e
  | .ok k1 => match textP s k1 with
    | .error e => .error e
    | .ok ((t, a), k2) => if t.size = 0 then .error (8, a) else
      match needP 41 s k2 with
      | .error e => .error e
      | .ok k3 => .ok (.mk kd t 0 E0 [], k3)
def argNumP (s : ByteArray) (k : Nat) (kd : Int) : Res PatT :=
  match needP 40 s k with
  | .error e => .error e
  | .ok k1 => match numP s k1 with
    | .error e => .error e
    | .ok (n, k2) => match needP 41 s k2 with
      | .error e => .error e
      | .ok k3 => .ok (.mk kd E0 n E0 [], k3)
def argPatP (inner : Nat → Res PatT) (s : ByteArray) (k : Nat) (kd : Int) : Res PatT :=
  match needP 40 s k with
  | .error e => .error e
  | .ok k1 => match inner k1 with
    | .error e => .error e
    | .ok (p, k2) => match needP 41 s k2 with
      | .error e => .error e
      | .ok k3 => .ok (.mk kd E0 0 E0 [p], k3)
def kindP (inner : Nat → Res PatT) (s : ByteArray) (a k : Nat) (kd : Int) : Res PatT :=
  if kd = -1 ∨ kd = 0 then .error (7, a)
  else if 3 ≤ kd ∧ kd ≤ 7 then argTextP s k kd
  else if kd = 2 ∨ (8 ≤ kd ∧ kd ≤ 11) then argNumP s k kd
  else if kd = 20 then argPatP inner s k kd
  else .ok (.mk kd E0 0 E0 [], k)
def litP (s : ByteArray) (j : Nat) : Res PatT :=
  match textP s j with
  | .error e => .error e
  | .ok ((t, _), k) => .ok (.mk 1 t 0 E0 [], k)
def nmP (s : ByteArray) (j : Nat) (kd : Int) : Res PatT :=
  match nameP s j with
  | .error e => .error e
  | .ok (nm, k) => .ok (.mk kd E0 0 nm [], k)
def wdP (inner : Nat → Res PatT) (s : ByteArray) (j : Nat) : Res PatT :=
  match wordP s j with
  | .error e => .error e
  | .ok ((x, a), k) => kindP inner s a k (kindOf x)
def primaryP (inner : Nat → Res PatT) (s : ByteArray) (i : Nat) : Res PatT :=
  if peek s (skip s i) = 39 then litP s (skip s i)
  else if peek s (skip s i) = 64 then nmP s (skip s i + 1) 23
  else if peek s (skip s i) = 42 then nmP s (skip s i + 1) 24
  else wdP inner s (skip s i)
def giftsP (s : ByteArray) : Nat → PatT → Nat → Res PatT
  | 0, p, k => .ok (p, k)
  | f + 1, p, k =>
    if (isP 46 s k).1 = true then
      match nameP s (isP 46 s k).2 with
      | .error e => .error e
      | .ok (nm, k1) => giftsP s f (.mk 21 E0 0 nm [p]) k1
    else if (isP 36 s (isP 46 s k).2).1 = true then
      match nameP s (isP 36 s (isP 46 s k).2).2 with
      | .error e => .error e
      | .ok (nm, k1) => giftsP s f (.mk 22 E0 0 nm [p]) k1
    else .ok (p, (isP 36 s (isP 46 s k).2).2)
def headP (inner : Nat → Res PatT) (s : ByteArray) (i : Nat) : Res PatT :=
  if (isP 40 s i).1 = true then
    match inner (isP 40 s i).2 with
    | .error e => .error e
    | .ok (p, k) => match needP 41 s k with
      | .error e => .error e
      | .ok k1 => .ok (p, k1)
  else primaryP inner s (isP 40 s i).2
def itemP (inner : Nat → Res PatT) (s : ByteArray) (i : Nat) : Res PatT :=
  match headP inner s i with
  | .error e => .error e
  | .ok (p, k) => giftsP s (s.size + 1 - k) p k
def starts (c : Int) : Bool := c == 40 || c == 39 || c == 64 || c == 42 || (decide (65 ≤ c) && decide (c ≤ 90))
def oneOr (kd : Int) (l : List PatT) : PatT := match l with | [p] => p | l => .mk kd E0 0 E0 l
def catGo (inner : Nat → Res PatT) (s : ByteArray) : Nat → List PatT → Nat → Res PatT
  | 0, l, k => .ok (oneOr 18 l, k)
  | f + 1, l, k =>
    if starts (peek s (skip s k)) = true then
      match itemP inner s (skip s k) with
      | .error e => .error e
      | .ok (p, k1) => catGo inner s f (l ++ [p]) k1
    else .ok (oneOr 18 l, skip s k)
def catP (inner : Nat → Res PatT) (s : ByteArray) (i : Nat) : Res PatT :=
  match itemP inner s i with
  | .error e => .error e
  | .ok (p, k) => catGo inner s (s.size + 1 - k) [p] k
def altGo (inner : Nat → Res PatT) (s : ByteArray) : Nat → List PatT → Nat → Res PatT
  | 0, l, k => .ok (oneOr 19 l, k)
  | f + 1, l, k =>
    if (isP 124 s k).1 = true then
      match catP inner s (isP 124 s k).2 with
      | .error e => .error e
      | .ok (p, k1) => altGo inner s f (l ++ [p]) k1
    else .ok (oneOr 19 l, (isP 124 s k).2)
def altP (inner : Nat → Res PatT) (s : ByteArray) (i : Nat) : Res PatT :=
  match catP inner s i with
  | .error e => .error e
  | .ok (p, k) => altGo inner s (s.size + 1 - k) [p] k
/-- m more brackets may be opened. -/
def innerP (s : ByteArray) : Nat → Nat → Res PatT
  | 0, i => .error (4, i)
  | m + 1, i => altP (innerP s m) s i

/-- A parser goes forward, and stays in the text. -/
def Fwd (s : ByteArray) (f : Nat → Res PatT) : Prop := ∀ i p k, i ≤ s.size → f i = .ok (p, k) → i < k ∧ k ≤ s.size
end Go.Proofs.YtdnglicgmlldlaaDoor
