/-  -/
import Derived.Test.YtgoijmpahffnhaaGreatDoorBase
import Derived.Lib.ItoaNum
namespace Go.Proofs.YtgoijmpahffnhaaGreatDoor
set_option linter.all false
open Go.RowKit
def jw (n:Int):Prop :=-9223372036854775808≤n∧n≤9223372036854775807
instance (n:Int):Decidable (jw n):=by unfold jw;exact inferInstance
def vX (n:Int):Option Int:=if jw n then some n else none
def ajI (a b:Int):Option Int:=vX (a+b)
def ajJ (a b:Int):Option Int:=vX (a-b)
def BF (n:Nat) (below:Bool):Option Int:=if below=true then (if n≤9223372036854775808 then some (-(n:Int)) else none) else if n≤9223372036854775807 then some (n:Int) else none
def acK (a b:Int):Option Int:=BF (a.natAbs*b.natAbs) (decide (a<0) != decide (b<0))
def acL (a b:Int):Option Int:=if b=0 then none else BF (a.natAbs/b.natAbs) (decide (a<0) != decide (b<0))
def WY (a b:Int):Option Int:=if b=0 then none else BF (a.natAbs % b.natAbs) (decide (a<0))
def Na (out a:Int) (n:Nat):Option Int :=
 match (if n % 2=1 then acK out a else some out) with
 | none=>none
 | some o=>if h:n/2=0 then some o else match acK a a with
  | none=>none
  | some b=>Na o b (n/2)
 termination_by n
 decreasing_by omega
def acM (a n:Int):Option Int:=if n<0 then none else Na 1 a n.toNat
def ajK (a b:Int):Option Int:=BF (Nat.gcd a.natAbs b.natAbs) false
def Ah (a lo hi:Nat):Nat :=
 if h:lo<hi then (if ((lo+hi+1)/2)*((lo+hi+1)/2)≤a then Ah a ((lo+hi+1)/2) hi else Ah a lo ((lo+hi+1)/2-1)) else lo
 termination_by hi-lo
 decreasing_by all_goals omega
def WZ (a:Int):Option Int:=if a<0 then none else some (Ah a.toNat 0 3037000499:Nat)
def ZH (k:Nat):UInt8:=if k<10 then UInt8.ofNat (48+k) else UInt8.ofNat (87+k)
def Ai (b:Nat) (n:Nat):List UInt8:=if h:n<b∨b<2 then [ZH n] else Ai b (n/b)++[ZH (n % b)]
 termination_by n
 decreasing_by exact Nat.div_lt_self (by omega) (by omega)
def Pq (n:Int) (b:Nat):aj:=⟨((if n<0 then [45] else [])++Ai b n.natAbs).toArray⟩
def adL (n b:Int):Option aj:=if b<2∨36<b then none else some (Pq n b.toNat)
def iM (n:Int):aj:=⟨(Lib.itoa n).toArray⟩
def zK (c:UInt8):Bool:=([32,9]:List UInt8).contains c
def qj (c:UInt8):Bool:=decide (48≤c.toNat∧c.toNat≤57)
def trimB (l:List UInt8):List UInt8:=((l.reverse.dropWhile zK).reverse).dropWhile zK
def y9 (n:Nat) (l:List UInt8):Nat:=l.foldl (fun n c=>n*10+(c.toNat-48)) n
def uw (l:List UInt8):Option Int :=
 match l with
 | []=>some 0
 | c::r =>
  let d:=if c=43∨c=45 then r else c::r
  if d=[]∨d.all qj=false then none
  else vX (if c=45 then -(y9 0 d:Int) else (y9 0 d:Int))
def aY (t:aj):Option Int:=if 65536<t.size then none else uw (trimB t.data.toList)
def aic (c:UInt8):Option Nat:=if 48≤c.toNat∧c.toNat≤57 then some (c.toNat-48) else if 97≤c.toNat∧c.toNat≤122 then some (c.toNat-87) else none
def acN (b:Nat):List UInt8→Nat→Bool→Option (Nat×Bool)
 | [],n,m=>some (n,m)
 | c::r,n,m=>match aic c with
  | none=>none
  | some k=>if b≤k then none else acN b r ((n*b+k) % 18446744073709551616) (m||decide (18446744073709551616≤n*b)||decide (18446744073709551616≤n*b % 18446744073709551616+k))
def acO (t:aj) (b:Int):Option Int :=
 if b<2∨36<b then none
 else if 65536<t.size then none
 else
  let below:=match t.data.toList with|45::_=>true|_=>false
  let d:=if below then t.data.toList.tail else t.data.toList
  if d=[] then none
  else match acN b.toNat d 0 false with
   | none=>none
   | some (n,much)=>if much then none else BF n below
def adM (t:aj):Option aj:=if 65536<t.size then none else some ⟨((t.data.toList.reverse.dropWhile zK).reverse).toArray⟩
def Aj (l:List UInt8):Nat→List UInt8
 | 0=>[]
 | n+1=>l++Aj l n
def Xa (t:aj) (n:Int):Option aj :=
 if 65536<t.size then none else if n<0 then none else if 0<t.size∧((65536/t.size:Nat):Int)<n then none
 else if t.size=0 then some ⟨#[]⟩ else some ⟨(Aj t.data.toList n.toNat).toArray⟩
def Dz (t:aj):Option aj:=if 65536<t.size then none else some ⟨t.data.toList.reverse.toArray⟩
def sU:List UInt8→List UInt8→UInt8→UInt8
 | a::r,b::q,c=>if c∈r then sU r q c else if c=a then b else sU r q c
 | _,_,c=>c
def Bv (t a b:aj):Option aj :=
 if 65536<t.size∨65536<a.size∨65536<b.size then none else if a.size≠b.size∨a.size=0 then none
 else some ⟨(t.data.toList.map (sU a.data.toList b.data.toList)).toArray⟩
def JX (t:aj) (a n:Int):Option aj :=
 if 65536<t.size then none else if a<1∨(t.size:Int)+1<a∨n<0∨(t.size:Int)+1-a<n then none
 else some ⟨((t.data.toList.drop (a.toNat-1)).take n.toNat).toArray⟩
def Xb (t:aj) (n:Int) (f:aj):Option aj :=
 if 65536<t.size then none else if f.size≠1 then none else if 65536<n then none
 else if n≤t.size then some ⟨#[]⟩ else some ⟨(Aj f.data.toList (n.toNat-t.size)).toArray⟩
def aie (t:aj) (n:Int) (f:aj):Option aj:=(Xb t n f).map (· ++ t)
def aif (t:aj) (n:Int) (f:aj):Option aj:=(Xb t n f).map (t ++ ·)
def acP (t:aj) (n:Int):Option aj :=
 if 65536<t.size then none else if t.size=0 then some ⟨#[]⟩
 else some ⟨(t.data.toList.drop (n % t.size).toNat++t.data.toList.take (n % t.size).toNat).toArray⟩
def vF (p:List UInt8):Nat→List UInt8→Nat
 | 0,_=>0
 | _,[]=>0
 | f+1,c::r=>if p.isPrefixOf (c::r) then 1+vF p f ((c::r).drop p.length) else vF p f r
def ZI (t p:aj):Option Nat:=if 65536<t.size∨65536<p.size then none else if p.size=0 then none else some (vF p.data.toList t.size t.data.toList)
end Go.Proofs.YtgoijmpahffnhaaGreatDoor
