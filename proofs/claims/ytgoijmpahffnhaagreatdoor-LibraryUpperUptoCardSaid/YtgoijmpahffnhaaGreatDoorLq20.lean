/-  -/
import Derived.Test.YtgoijmpahffnhaaGreatDoorLq2
import Derived.Deep.QuietTactic
import Derived.BigQuiet
import Derived.Deep.LoopGhost
import Derived.WalkLawsBesides
import Derived.Test.YtgoijmpahffnhaaGreatDoorLq5
namespace Go.Proofs.YtgoijmpahffnhaaGreatDoor
set_option linter.all false
open Go.RowKit
abbrev Er:=Int×Nat
def skip (s:aj) (i:Nat):Nat:=i+((s.data.toList.drop i).takeWhile fun c=>c==32).length
def peek (s:aj) (i:Nat):Int:=if h:i<s.size then (s[i].toNat:Int) else -1
theorem drop_cons {s:aj} {i:Nat} (h:i<s.size):s.data.toList.drop i=s[i]::s.data.toList.drop (i+1):=by
 have h':i<s.data.toList.length:=by simpa using h
 rw [List.drop_eq_getElem_cons h'];rfl
theorem drop_end {s:aj} {i:Nat} (h:s.size≤i):s.data.toList.drop i=[]:=List.drop_of_length_le (by simpa using h)
def rE (c:UInt8):Bool:=jc c||cO c
def dI (f:UInt8→Bool) (s:aj) (i:Nat):Nat:=i+((s.data.toList.drop i).takeWhile f).length
theorem AB {f:UInt8→Bool} {s:aj} {i:Nat} (h:i<s.size) (hb:f s[i]=true):dI f s i=dI f s (i+1):=by
 unfold dI
 rw [drop_cons h,List.takeWhile_cons,if_pos hb,List.length_cons];omega
theorem aaM {f:UInt8→Bool} {s:aj} {i:Nat} (h:i<s.size) (hb:f s[i]=false):dI f s i=i:=by
 unfold dI
 rw [drop_cons h,List.takeWhile_cons,if_neg (by simp [hb])];simp
theorem run_end {f:UInt8→Bool} {s:aj} {i:Nat} (h:s.size≤i):dI f s i=i:=by
 unfold dI;rw [drop_end h];simp
theorem aaN (f:UInt8→Bool) (s:aj) (i:Nat):i≤dI f s i:=by unfold dI;omega
theorem aaO {f:UInt8→Bool} {s:aj} {i:Nat} (h:i≤s.size):dI f s i≤s.size:=by
 unfold dI
 have:=(List.takeWhile_sublist f (l:=s.data.toList.drop i)).length_le
 rw [List.length_drop] at this
 have e:s.data.toList.length=s.size:=rfl
 omega
theorem aT {w:World} {N o:Nat} {cs:Array Value} {t:TypeId} {fr:Nat×Nat} (h:w.heap[N]?=some (.cells cs t fr)) (u:Value) :
  (w.setCell ⟨N,o,none⟩ u).heap[N]?=some (.cells (cs.setIfInBounds o u) t fr):=by
 simp [World.setCell,Array.getElem?_modify,h]
end Go.Proofs.YtgoijmpahffnhaaGreatDoor

namespace Go.Proofs.YtgoijmpahffnhaaGreatDoor
set_option linter.all false
open Go.RowKit
theorem tN {s:aj} {k:Nat} (h:k<s.size):peek s k=s[k].toNat:=by unfold peek;rw [dif_pos h]
theorem UU {s:aj} {k:Nat} (h:0≤peek s k):k<s.size:=by
 unfold peek at h;split at h
 ·assumption
 ·omega
theorem ahG (c:UInt8):rE c=((decide ((65:Int)≤(c.toNat:Int))&&decide ((c.toNat:Int)≤90))||(decide ((48:Int)≤(c.toNat:Int))&&decide ((c.toNat:Int)≤57))):=by
 rw [Bool.eq_iff_iff];simp [rE,jc,cO];omega
end Go.Proofs.YtgoijmpahffnhaaGreatDoor

namespace Go.Proofs.YtgoijmpahffnhaaGreatDoor
set_option linter.all false
open Go.RowKit
def iL:List UInt8→Option (List UInt8×Nat)
 | []=>none
 | [c]=>if c=39 then some ([],1) else none
 | c::d::r=>if c=39 then (if d=39 then (iL r).map fun x=>(39::x.1,x.2+2) else some ([],1)) else (iL (d::r)).map fun x=>(c::x.1,x.2+1)
theorem vN:∀(l:List UInt8) (b:List UInt8) (n:Nat),iL l=some (b,n)→n≤l.length∧b.length<n
 | [],b,n,h=>by simp [iL] at h
 | [c],b,n,h=>by
  rw [iL] at h;split at h
  ·simp at h;obtain ⟨rfl,rfl⟩:=h;simp
  ·cases h
 | c::d::r,b,n,h=>by
  rw [iL] at h;split at h
  ·split at h
   ·cases hr:iL r with
    | none=>rw [hr] at h;cases h
    | some x =>
     obtain ⟨b',n'⟩:=x
     rw [hr] at h;simp at h;obtain ⟨rfl,rfl⟩:=h
     have:=vN r b' n' hr
     simp only [List.length_cons];omega
   ·simp at h;obtain ⟨rfl,rfl⟩:=h;simp
  ·cases hr:iL (d::r) with
   | none=>rw [hr] at h;cases h
   | some x =>
    obtain ⟨b',n'⟩:=x
    rw [hr] at h;simp at h;obtain ⟨rfl,rfl⟩:=h
    have:=vN (d::r) b' n' hr
    simp only [List.length_cons] at this⊢;omega
end Go.Proofs.YtgoijmpahffnhaaGreatDoor
