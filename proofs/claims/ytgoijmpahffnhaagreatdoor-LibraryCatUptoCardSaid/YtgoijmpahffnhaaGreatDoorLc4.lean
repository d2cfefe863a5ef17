/-  -/
import Derived.Test.YtgoijmpahffnhaaGreatDoorBase
import Derived.Lib.ItoaNum
namespace Go.Proofs.YtgoijmpahffnhaaGreatDoor
set_option linter.all false
open Go.RowKit
def nJ (n:Int):Prop :=-9223372036854775808≤n∧n≤9223372036854775807
instance (n:Int):Decidable (nJ n):=by unfold nJ;exact inferInstance
def GN (n:Int):Option Int:=if nJ n then some n else none
def agS (a b:Int):Option Int:=GN (a+b)
def agT (a b:Int):Option Int:=GN (a-b)
def AB (n:Nat) (below:Bool):Option Int:=if below=true then (if n≤9223372036854775808 then some (-(n:Int)) else none) else if n≤9223372036854775807 then some (n:Int) else none
def Zi (a b:Int):Option Int:=AB (a.natAbs*b.natAbs) (decide (a<0) != decide (b<0))
def Zj (a b:Int):Option Int:=if b=0 then none else AB (a.natAbs/b.natAbs) (decide (a<0) != decide (b<0))
def TF (a b:Int):Option Int:=if b=0 then none else AB (a.natAbs % b.natAbs) (decide (a<0))
def LK (out a:Int) (n:Nat):Option Int :=
 match (if n % 2=1 then Zi out a else some out) with
 | none=>none
 | some o=>if h:n/2=0 then some o else match Zi a a with
  | none=>none
  | some b=>LK o b (n/2)
 termination_by n
 decreasing_by omega
def Zk (a n:Int):Option Int:=if n<0 then none else LK 1 a n.toNat
def agU (a b:Int):Option Int:=AB (Nat.gcd a.natAbs b.natAbs) false
def zT (a lo hi:Nat):Nat :=
 if h:lo<hi then (if ((lo+hi+1)/2)*((lo+hi+1)/2)≤a then zT a ((lo+hi+1)/2) hi else zT a lo ((lo+hi+1)/2-1)) else lo
 termination_by hi-lo
 decreasing_by all_goals omega
def TG (a:Int):Option Int:=if a<0 then none else some (zT a.toNat 0 3037000499:Nat)
def V9 (k:Nat):UInt8:=if k<10 then UInt8.ofNat (48+k) else UInt8.ofNat (87+k)
def zU (b:Nat) (n:Nat):List UInt8:=if h:n<b∨b<2 then [V9 n] else zU b (n/b)++[V9 (n % b)]
 termination_by n
 decreasing_by exact Nat.div_lt_self (by omega) (by omega)
def NH (n:Int) (b:Nat):aj:=⟨((if n<0 then [45] else [])++zU b n.natAbs).toArray⟩
def aaz (n b:Int):Option aj:=if b<2∨36<b then none else some (NH n b.toNat)
def mW (n:Int):aj:=⟨(Lib.itoa n).toArray⟩
def TI (c:UInt8):Bool:=([32,9]:List UInt8).contains c
def adB (c:UInt8):Bool:=decide (48≤c.toNat∧c.toNat≤57)
def trimB (l:List UInt8):List UInt8:=((l.reverse.dropWhile TI).reverse).dropWhile TI
def aaA (n:Nat) (l:List UInt8):Nat:=l.foldl (fun n c=>n*10+(c.toNat-48)) n
def aaB (l:List UInt8):Option Int :=
 match l with
 | []=>some 0
 | c::r =>
  let d:=if c=43∨c=45 then r else c::r
  if d=[]∨d.all adB=false then none
  else GN (if c=45 then -(aaA 0 d:Int) else (aaA 0 d:Int))
def oW (t:aj):Option Int:=if 65536<t.size then none else aaB (trimB t.data.toList)
def afk (c:UInt8):Option Nat:=if 48≤c.toNat∧c.toNat≤57 then some (c.toNat-48) else if 97≤c.toNat∧c.toNat≤122 then some (c.toNat-87) else none
def Zl (b:Nat):List UInt8→Nat→Bool→Option (Nat×Bool)
 | [],n,m=>some (n,m)
 | c::r,n,m=>match afk c with
  | none=>none
  | some k=>if b≤k then none else Zl b r ((n*b+k) % 18446744073709551616) (m||decide (18446744073709551616≤n*b)||decide (18446744073709551616≤n*b % 18446744073709551616+k))
def Zm (t:aj) (b:Int):Option Int :=
 if b<2∨36<b then none
 else if 65536<t.size then none
 else
  let below:=match t.data.toList with|45::_=>true|_=>false
  let d:=if below then t.data.toList.tail else t.data.toList
  if d=[] then none
  else match Zl b.toNat d 0 false with
   | none=>none
   | some (n,much)=>if much then none else AB n below
def aaC (t:aj):Option aj:=if 65536<t.size then none else some ⟨((t.data.toList.reverse.dropWhile TI).reverse).toArray⟩
def zV (l:List UInt8):Nat→List UInt8
 | 0=>[]
 | n+1=>l++zV l n
def TJ (t:aj) (n:Int):Option aj :=
 if 65536<t.size then none else if n<0 then none else if 0<t.size∧((65536/t.size:Nat):Int)<n then none
 else if t.size=0 then some ⟨#[]⟩ else some ⟨(zV t.data.toList n.toNat).toArray⟩
def adC (t:aj):Option aj:=if 65536<t.size then none else some ⟨t.data.toList.reverse.toArray⟩
def byF:List UInt8→List UInt8→UInt8→UInt8
 | a::r,b::q,c=>if c∈r then byF r q c else if c=a then b else byF r q c
 | _,_,c=>c
def TL (t a b:aj):Option aj :=
 if 65536<t.size∨65536<a.size∨65536<b.size then none else if a.size≠b.size∨a.size=0 then none
 else some ⟨(t.data.toList.map (byF a.data.toList b.data.toList)).toArray⟩
def Jd (t:aj) (a n:Int):Option aj :=
 if 65536<t.size then none else if a<1∨(t.size:Int)+1<a∨n<0∨(t.size:Int)+1-a<n then none
 else some ⟨((t.data.toList.drop (a.toNat-1)).take n.toNat).toArray⟩
def TM (t:aj) (n:Int) (f:aj):Option aj :=
 if 65536<t.size then none else if f.size≠1 then none else if 65536<n then none
 else if n≤t.size then some ⟨#[]⟩ else some ⟨(zV f.data.toList (n.toNat-t.size)).toArray⟩
def afl (t:aj) (n:Int) (f:aj):Option aj:=(TM t n f).map (· ++ t)
def afm (t:aj) (n:Int) (f:aj):Option aj:=(TM t n f).map (t ++ ·)
def Zn (t:aj) (n:Int):Option aj :=
 if 65536<t.size then none else if t.size=0 then some ⟨#[]⟩
 else some ⟨(t.data.toList.drop (n % t.size).toNat++t.data.toList.take (n % t.size).toNat).toArray⟩
def vG (p:List UInt8):Nat→List UInt8→Nat
 | 0,_=>0
 | _,[]=>0
 | f+1,c::r=>if p.isPrefixOf (c::r) then 1+vG p f ((c::r).drop p.length) else vG p f r
def Wh (t p:aj):Option Nat:=if 65536<t.size∨65536<p.size then none else if p.size=0 then none else some (vG p.data.toList t.size t.data.toList)
end Go.Proofs.YtgoijmpahffnhaaGreatDoor

namespace Go.Proofs.YtgoijmpahffnhaaGreatDoor
set_option linter.all false
open Go.RowKit
set_option maxHeartbeats 400000
theorem jg {t:aj}:t.toList.isEmpty=true↔t.size=0:=by
 rw [ByteArray.toList_eq];simp only [List.isEmpty_iff,ByteArray.size]
 rw [←Array.length_toList,List.length_eq_zero_iff]
theorem gy {t:aj}:t.toList.isEmpty=false↔0<t.size:=by
 rw [←Bool.not_eq_true,jg];omega
def jD (c:UInt8):Bool:=decide (65≤c.toNat)&&decide (c.toNat≤90)
def dF (c:UInt8):Bool:=decide (48≤c.toNat)&&decide (c.toNat≤57)
def mJ (i:Nat) (c:UInt8):Bool:=jD c||(i != 0&&dF c)
def gW (s:aj):Bool:=decide (1≤s.size)&&decide (s.size≤16)&&(List.range s.size).all fun i=>mJ i (s.data.toList.getD i 0)
theorem getD_at {s:aj} {k:Nat} (h:k<s.size):s.data.toList.getD k 0=s[k]:=by
 have:k<s.data.toList.length:=by simpa using h
 rw [List.getD_eq_getElem?_getD,List.getElem?_eq_getElem this];rfl
theorem FK {s:aj} {k:Nat} (h:k<s.size) (hn:mJ k s[k]=false):gW s=false:=by
 unfold gW
 rw [Bool.and_eq_false_iff];right
 rw [List.all_eq_false]
 exact ⟨k,by simpa using h,by rw [getD_at h,hn];simp⟩
theorem V8 {s:aj} (h1:1≤s.size) (h2:s.size≤16) (h:∀j,j<s.size→mJ j (s.data.toList.getD j 0)=true):gW s=true:=by
 unfold gW
 simp only [Bool.and_eq_true,decide_eq_true_eq,List.all_eq_true,List.mem_range]
 exact ⟨⟨h1,h2⟩,h⟩
theorem Zg {i:Nat} {c:UInt8} (h1:65≤c.toNat) (h2:c.toNat≤90):mJ i c=true:=by simp [mJ,jD,h1,h2]
theorem Zh {i:Nat} {c:UInt8} (h0:i≠0) (h1:48≤c.toNat) (h2:c.toNat≤57):mJ i c=true:=by simp [mJ,dF,h0,h1,h2]
theorem TD {i:Nat} {c:UInt8} (h1:c.toNat<65∨90<c.toNat) (h2:i=0∨c.toNat<48∨57<c.toNat):mJ i c=false:=by
 have a:jD c=false:=by unfold jD;rcases h1 with h|h<;>simp<;>omega
 unfold mJ;rw [a]
 rcases h2 with h|h|h
 ·simp [h]
 ·simp [dF];intro;omega
 ·simp [dF];omega
theorem tC (s:aj) (w:World) (hs:s.size≤maxLen) :
  Calls Tryz.prog 93 #[.string s] w fun e w'=>e=.returned (.bool (gW s))∧w=w':=by
 unfold maxLen at hs
 by_cases h0:s.size<1
 ·go_enter Tryz.func93, Tryz.ntmps93
  go_wp2
  go_ret
  exact ⟨by unfold gW;rw [au (by omega)];rfl,rfl⟩
 by_cases h1:16<s.size
 ·go_enter Tryz.func93, Tryz.ntmps93
  go_wp2
  go_ret
  exact ⟨by unfold gW;rw [au (show ¬s.size≤16 by omega)];simp,rfl⟩
 go_enter Tryz.func93, Tryz.ntmps93
 go_wp2
 go_loop [15] (fun i=>∃k:Nat,k≤s.size∧i=.int .i64 k∧Hid (∀j,j<k→mJ j (s.data.toList.getD j 0)=true)) (fun i=>s.size-(intOf i).toNat)
 case atStart=>exact ⟨0,Nat.zero_le _,rfl,by intro j hj;omega⟩
 case round =>
  obtain ⟨k,hk,rfl,hok⟩:=hrel
  by_cases hlt:k<s.size
  ·have step:mJ k s[k]=true→∀j,j<k+1→mJ j (s.data.toList.getD j 0)=true:=by
    intro hn j hj
    rcases Nat.lt_or_ge j k with h|h
    ·exact hok.out j h
    ·obtain rfl:j=k:=by omega
     rw [getD_at hlt];exact hn
   have Step:=ah step;clear step
   rcases (show (65≤s[k].toNat∧s[k].toNat≤90)∨((s[k].toNat<65∨90<s[k].toNat)∧k=0)∨((48≤s[k].toNat∧s[k].toNat≤57)∧0<k)∨((s[k].toNat<48∨(57<s[k].toNat∧s[k].toNat<65))∧0<k)∨(90<s[k].toNat∧0<k) by omega) with ⟨a,b⟩|⟨a,b⟩|⟨⟨a,b⟩,c⟩|⟨a,c⟩|⟨a,c⟩
   ·go_wp2
    go_round
    case rel=>exact ⟨k+1,by omega,by go_num,Step.out (Zg a b)⟩
    case measure=>simp [intOf];omega
   ·have fin:=ah (FK hlt (TD a (.inl b)))
    subst b
    rcases a with a|a
    ·go_wp2
     go_ret
     exact ⟨by rw [fin.out];try rfl,rfl⟩
    ·have q:decide ((s[0].toNat:Int)≤90)=false:=au (by omega)
     go_wp2
     go_ret
     exact ⟨by rw [fin.out];try rfl,rfl⟩
   ·have z:((k:Int)==0)=false:=by simp;omega
    have q:decide ((s[k].toNat:Int)≤57)=true:=ak (by omega)
    go_wp2
    go_round
    case rel=>exact ⟨k+1,by omega,by go_num,Step.out (Zh (by omega) a b)⟩
    case measure=>simp [intOf];omega
   ·have fin:=ah (FK hlt (TD (by omega) (.inr (by omega))))
    have z:((k:Int)==0)=false:=by simp;omega
    rcases a with a|⟨a,b⟩ <;>
    ·try have q:decide ((s[k].toNat:Int)≤57)=false:=au (by omega)
     go_wp2
     go_ret
     exact ⟨by rw [fin.out];try rfl,rfl⟩
   ·have fin:=ah (FK hlt (TD (by omega) (.inr (by omega))))
    have z:((k:Int)==0)=false:=by simp;omega
    have q:decide ((s[k].toNat:Int)≤90)=false:=au (by omega)
    have q':decide ((s[k].toNat:Int)≤57)=false:=au (by omega)
    go_wp2
    go_ret
    exact ⟨by rw [fin.out];try rfl,rfl⟩
  ·obtain rfl:k=s.size:=by omega
   have fin:=ah (V8 (by omega) (by omega) hok.out)
   go_wp2
   go_ret
   exact ⟨by rw [fin.out];try rfl,rfl⟩
end Go.Proofs.YtgoijmpahffnhaaGreatDoor
