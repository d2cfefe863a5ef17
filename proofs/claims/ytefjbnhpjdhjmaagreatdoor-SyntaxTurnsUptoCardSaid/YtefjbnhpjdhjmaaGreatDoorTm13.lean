/-  -/
import Derived.Test.YtefjbnhpjdhjmaaGreatDoorTm3
import Derived.Test.YtefjbnhpjdhjmaaGreatDoorTm9
import Derived.WalkLawsBesides
import Derived.Lib.ItoaNum
import Derived.Lib.Replace
import Derived.Lib.SplitLaws
import Derived.Test.YtefjbnhpjdhjmaaGreatDoorTm1
import Derived.Test.YtefjbnhpjdhjmaaGreatDoorWrong
import Derived.Test.YtefjbnhpjdhjmaaGreatDoorShelf
import Derived.Shelf.Strings.BuilderK
import Derived.Test.YtefjbnhpjdhjmaaGreatDoorRows
import Derived.Test.YtefjbnhpjdhjmaaGreatDoorSize
import Derived.Deep.Slices
import Derived.ProofKit
import Derived.OpenShut
import Derived.Test.YtefjbnhpjdhjmaaGreatDoorEx2
import Derived.Deep.RegionWith
import Derived.Sort.OwnSorted
import Derived.Deep.AppendLies
import Derived.Deep.RegionLaw
namespace Go.Proofs.YtefjbnhpjdhjmaaGreatDoor
set_option linter.all false
open Go.RowKit
def nP:List UInt8→List UInt8
 | []=>[]
 | c::r=>if c=39 then 39::39::nP r else c::nP r
def gJ (t:aj):List UInt8:=39::(nP t.data.toList++[39])
def fK (k:Int):List UInt8:=(oU.getD k.toNat ByteArray.empty).data.toList
def wJ:List UInt8:=[65,82,66,78,79,40]
def sH (b:Bool) (l:List UInt8):List UInt8:=if b then 40::(l++[41]) else l
mutual
def aG:aA→Nat→List UInt8
 | .mk k t n nm kids,i =>
  if k=1 then gJ t
  else if aT k then fK k++(40::(gJ t++[41]))
  else if bD k then fK k++(40::(Lib.decDigits n.toNat++[41]))
  else if k=20 then wJ++(qm kids 2++[41])
  else if k=21 then qm kids 0++(32::46::32::nm.data.toList)
  else if k=22 then qm kids 0++(32::36::32::nm.data.toList)
  else if k=23 then 64::nm.data.toList
  else if k=24 then 42::nm.data.toList
  else if k=18 then sH (decide (i<1)) (bG [32] true kids 0)
  else if k=19 then sH (decide (i<2)) (bG [32,124,32] true kids 1)
  else fK k
def qm:List aA→Nat→List UInt8
 | [],_=>[]
 | p::_,i=>aG p i
def bG (sep:List UInt8):Bool→List aA→Nat→List UInt8
 | _,[],_=>[]
 | first,p::r,i=>(if first then [] else sep)++(aG p i++bG sep false r i)
end
def wR (p:aA):Prop:=∀x∈allT p,dH x=0
def yC (l:List aA):Prop:=∀x∈allL l,dH x=0
theorem wR.self {p:aA} (h:wR p):dH p=0:=h p (by cases p;rw [allT];simp)
theorem wR.kids {k:Int} {t:aj} {n:Int} {nm:aj} {kids:List aA} (h:wR (.mk k t n nm kids)):yC kids:=fun x hx=>h x (by rw [allT];exact List.mem_cons_of_mem _ hx)
theorem yC.head {p:aA} {l:List aA} (h:yC (p::l)):wR p:=fun x hx=>h x (by rw [allL];exact List.mem_append_left _ hx)
theorem yC.tail {p:aA} {l:List aA} (h:yC (p::l)):yC l:=fun x hx=>h x (by rw [allL];exact List.mem_append_right _ hx)
theorem yC.get:∀{l:List aA},yC l→∀(j:Nat) (hj:j<l.length),wR l[j]
 | p::l,h,0,_=>h.head
 | p::l,h,j+1,hj=>yC.get h.tail j (by simpa using hj)
theorem Hg:∀l:List UInt8,(nP l).length≤2*l.length
 | []=>by simp [nP]
 | c::r=>by have:=Hg r;rw [nP];split<;>simp<;>omega
theorem Ak (t:aj):(gJ t).length≤2*t.size+2:=by
 have:=Hg t.data.toList
 have e:t.data.toList.length=t.size:=rfl
 simp [gJ];omega
theorem qW (k:Int):(fK k).length≤6:=by
 have h:∀x∈oU,x.data.toList.length≤6:=by decide
 unfold fK
 rw [List.getD_eq_getElem?_getD]
 cases hx:oU[k.toNat]? with
 | none=>decide
 | some x=>exact h x (List.mem_of_getElem? hx)
theorem BK:∀(f u:Nat),u<10 ^ f→(Lib.decDigits u).length≤f+1
 | 0,u,h=>by
         have:u=0:=by simpa using h
         subst this;rw [Lib.decDigits,dif_pos (by omega)];simp
 | f+1,u,h=>by
  by_cases hu:u<10
  ·rw [Lib.decDigits,dif_pos hu];simp
  ·rw [Lib.decDigits,dif_neg hu]
   have:=BK f (u/10) (by rw [Nat.pow_succ] at h;omega)
   simp;omega
theorem jD {s:aj} (h:aS s=true):s.size≤16:=by
 unfold aS at h
 simp only [Bool.and_eq_true,decide_eq_true_eq] at h
 omega
theorem Fz (b:Bool) (l:List UInt8):(sH b l).length≤l.length+2:=by
 unfold sH;split<;>simp
theorem QE {p:aA} (h:dH p=0):(1≤p.kind∧p.kind≤24)∧(p.kind=1∨aT p.kind→p.text.size≤65536)∧(bD p.kind→0≤p.n∧p.n≤65536)∧(bf p.kind→p.name.size≤16)∧(20≤p.kind∧p.kind≤22→p.kids.length=1):=by
 unfold dH at h
 by_cases h1:p.kind<1∨24<p.kind
 ·rw [if_pos h1] at h;cases h
 rw [if_neg h1] at h
 by_cases h2:(p.kind=1∨aT p.kind)∧65536<p.text.size
 ·rw [if_pos h2] at h;cases h
 rw [if_neg h2] at h
 by_cases h3:aT p.kind∧p.text.size=0
 ·rw [if_pos h3] at h;cases h
 rw [if_neg h3] at h
 by_cases h4:bD p.kind∧(p.n<0∨65536<p.n)
 ·rw [if_pos h4] at h;cases h
 rw [if_neg h4] at h
 by_cases h5:bf p.kind∧aS p.name=false
 ·rw [if_pos h5] at h;cases h
 rw [if_neg h5] at h
 by_cases h6:p.kids.length<ig p.kind∨jE p.kind<p.kids.length
 ·rw [if_pos h6] at h;cases h
 refine ⟨by omega,fun hk=>?_,fun hk=>?_,fun hk=>?_,fun hk=>?_⟩
 ·exact Nat.le_of_not_lt fun hl=>h2 ⟨hk,hl⟩
 ·constructor
  ·exact Int.not_lt.1 fun hl=>h4 ⟨hk,.inl hl⟩
  ·exact Int.not_lt.1 fun hl=>h4 ⟨hk,.inr hl⟩
 ·refine jD ?_
  cases hn:aS p.name with
  | true=>rfl
  | false=>exact absurd ⟨hk,hn⟩ h5
 ·have e1:ig p.kind=1:=by unfold ig;rw [if_neg (by omega),if_pos hk]
  have e2:jE p.kind=1:=by unfold jE;rw [if_neg (by omega),if_pos hk]
  omega
theorem jF {k n:Int} {t nm:aj} {kids:List aA} (h:dH (.mk k t n nm kids)=0):(1≤k∧k≤24)∧(k=1∨aT k→t.size≤65536)∧(bD k→0≤n∧n≤65536)∧(bf k→nm.size≤16)∧(20≤k∧k≤22→kids.length=1):=QE h
mutual
theorem GV:∀(p:aA) (i:Nat),wR p→(aG p i).length+3≤140003*sizeT p
 | .mk k t n nm kids,i,h=>by
  obtain ⟨hk,ht,hn,hnm,hk1⟩:=jF h.self
  have hw:=qW k
  have hh0:=Pq kids 0 h.kids
  have hh2:=Pq kids 2 h.kids
  have hj1:=Hz [32] (by decide) true kids 0 h.kids
  have hj2:=Hz [32,124,32] (by decide) true kids 1 h.kids
  have hq:=Ak t
  have en:nm.data.toList.length=nm.size:=rfl
  rw [aG,sizeT]
  split
  ·have:=ht (.inl ‹_›);omega
  split
  ·rename_i hk2
   have:=ht (.inr hk2)
   simp only [List.length_append,List.length_cons,List.length_nil];omega
  split
  ·rename_i hk2
   have h3:=hn hk2
   have:=BK 5 n.toNat (by omega)
   simp only [List.length_append,List.length_cons,List.length_nil];omega
  split
  ·simp only [List.length_append,List.length_cons,List.length_nil,wJ];omega
  split
  ·have:=hnm (by unfold bf;omega)
   simp only [List.length_append,List.length_cons,List.length_nil];omega
  split
  ·have:=hnm (by unfold bf;omega)
   simp only [List.length_append,List.length_cons,List.length_nil];omega
  split
  ·have:=hnm (by unfold bf;omega)
   simp only [List.length_cons];omega
  split
  ·have:=hnm (by unfold bf;omega)
   simp only [List.length_cons];omega
  split
  ·have:=Fz (decide (i<1)) (bG [32] true kids 0);omega
  split
  ·have:=Fz (decide (i<2)) (bG [32,124,32] true kids 1);omega
  ·omega
theorem Pq:∀(l:List aA) (i:Nat),yC l→(qm l i).length≤140003*aO l
 | [],i,h=>by simp [qm]
 | p::r,i,h=>by have:=GV p i h.head;rw [qm,aO];omega
theorem Hz:∀(sep:List UInt8),sep.length≤3→∀(first:Bool) (l:List aA) (i:Nat),yC l→(bG sep first l i).length≤140003*aO l
 | sep,hs,first,[],i,h=>by simp [bG]
 | sep,hs,first,p::r,i,h=>by
  have h1:=GV p i h.head
  have h2:=Hz sep hs false r i h.tail
  have h3:=mF p
  rw [bG,aO]
  simp only [List.length_append]
  split
  ·simp only [List.length_nil];omega
  ·omega
end
theorem Gq:∀s:List UInt8,Lib.replaceK [39] [39,39] (Lib.count s [39]) s=nP s
 | []=>by rw [Lib.count_one];rfl
 | c::r=>by
  have ih:=Gq r
  by_cases hc:c=39
  ·subst hc
   rw [Lib.count_cons_eq,Nat.add_comm 1,Lib.replaceK_hit [39] [39,39] _ (39::r) 0 rfl,nP,if_pos rfl,←ih]
   rfl
  ·rw [Lib.count_cons_ne c 39 r hc,nP,if_neg hc]
   generalize Lib.count r [39]=k at ih
   cases k with
   | zero=>rw [←ih];rfl
   | succ m =>
    have hx:Lib.index (c::r) [39]=if Lib.index r [39] == -1 then -1 else Lib.index r [39]+1:=by
     rw [Lib.index]
     rw [if_neg (by simp [List.isPrefixOf];exact fun h=>hc h.symm)]
    rw [Lib.replaceK] at ih⊢
    rw [hx]
    have hge:=Lib.index_ge r [39]
    by_cases hi:Lib.index r [39] = -1
    ·rw [hi] at ih⊢
     rw [←ih];rfl
    ·have hb:(Lib.index r [39] == -1)=false:=by simpa using hi
     rw [hb] at ih
     rw [hb]
     have hb2:(Lib.index r [39]+1 == -1)=false:=by simp;omega
     simp only [Bool.false_eq_true,if_false] at ih⊢
     rw [hb2]
     simp only [Bool.false_eq_true,if_false]
     have e:(Lib.index r [39]+1).toNat=(Lib.index r [39]).toNat+1:=by omega
     rw [e,←ih]
     simp [List.take_succ_cons,Nat.add_right_comm]
theorem Kt (s:List UInt8):Lib.replaceAll s [39] [39,39]=nP s:=by
 unfold Lib.replaceAll Lib.replace Lib.replaceNum
 rw [if_neg (by decide),if_pos (.inl (by decide)),Gq]
end Go.Proofs.YtefjbnhpjdhjmaaGreatDoor

namespace Go.Proofs.YtefjbnhpjdhjmaaGreatDoor
set_option linter.all false
open Go.RowKit
def Five (M:Nat) (c0 c1 c2 c3 c4:Value) (w:World):Prop:=w.heap[M]?=some (.cells #[c0,c1,c2,c3,c4] 27 (0,0))
theorem Five.lt {M:Nat} {c0 c1 c2 c3 c4:Value} {w:World} (h:Five M c0 c1 c2 c3 c4 w):M<w.heap.size:=(Array.getElem?_eq_some_iff.1 h).1
theorem Five.kept {M:Nat} {c0 c1 c2 c3 c4:Value} {w w':World} {X:Nat→Prop} (h:Five M c0 c1 c2 c3 c4 w) (hk:Kept X w w') (hx:¬X M):Five M c0 c1 c2 c3 c4 w':=by
 unfold Five;rw [hk.block M h.lt hx];exact h
theorem Five.cells {M:Nat} {c0 c1 c2 c3 c4:Value} {w:World} (h:Five M c0 c1 c2 c3 c4 w):w.cell? ⟨M,0,none⟩=some c0∧w.cell? ⟨M,1,none⟩=some c1∧w.cell? ⟨M,2,none⟩=some c2∧w.cell? ⟨M,3,none⟩=some c3∧w.cell? ⟨M,4,none⟩=some c4∧∀o,w.frozen? ⟨M,o,none⟩=false:=by
 unfold Five at h
 refine ⟨?_,?_,?_,?_,?_,fun o=>by simp [World.frozen?,h]⟩<;>(rw [cell_of_row w M _ _ _ _ h];rfl)
def bI (w:World) (M:Nat) (c0 c1 c2 c3 c4:Value):World:=((((w.setCell ⟨M,0,none⟩ c0).setCell ⟨M,1,none⟩ c1).setCell ⟨M,2,none⟩ c2).setCell ⟨M,3,none⟩ c3).setCell ⟨M,4,none⟩ c4
end Go.Proofs.YtefjbnhpjdhjmaaGreatDoor

namespace Go.Proofs.YtefjbnhpjdhjmaaGreatDoor
set_option linter.all false
open Go.RowKit
set_option maxRecDepth 100000
set_option maxHeartbeats 400000
theorem WY {w:World} {b:Nat} {ks:List Int} {t:TypeId} {fr:Nat×Nat} (h:w.heap[b]?=some (.cells (ks.map (Value.int .i64)).toArray t fr)) {i:Nat} (hi:i<ks.length) :
  w.cell? ⟨b,i,none⟩=some (.int .i64 ks[i]):=by
 rw [cell_of_row w b i _ t fr h];simp [hi]
theorem zk (k:Int) (ks:List Int) (v:Bool) (hv:ks.contains k=v) (b cap:Nat) (t:TypeId) (fr:Nat×Nat) (w:World) (hb:w.heap[b]?=some (.cells (ks.map (Value.int .i64)).toArray t fr)) (hl:ks.length<1000) :
  Calls Tryz.prog 58 #[.int .i64 k,.slice (some ⟨b,0,none⟩) ks.length cap] w fun e w'=>e=.returned (.bool v)∧w=w':=by
 have HB:=ah hb;have HV:=ah hv;clear hb hv
 go_enter Tryz.func58, Tryz.ntmps58
 go_wp2_with fail
 go_loop [9] (fun i=>∃j:Nat,j≤ks.length∧i=.int .i64 j∧Hid (∀x,x<j→ks.getD x 0≠k)) (fun i=>ks.length-(intOf i).toNat)
 case atStart=>exact ⟨0,Nat.zero_le _,rfl,by intro x hx;omega⟩
 case round =>
  obtain ⟨j,hj,rfl,hno⟩:=hrel
  by_cases hlt:j<ks.length
  ·have hc:=WY HB.out hlt
   by_cases he:ks[j]=k
   ·have hq:(ks[j]==k)=true:=by simpa using he
    have fin:Hid (v=true):=by unfold Hid;rw [←HV.out];exact List.contains_iff_mem.2 (he ▸ List.getElem_mem hlt)
    clear he
    go_wp2_with fail
    go_ret
    exact ⟨zo fin.out.symm,rfl⟩
   ·have hq:(ks[j]==k)=false:=by simpa using he
    have step:Hid (∀x,x<j+1→ks.getD x 0≠k):=by
     intro x hx
     rcases Nat.lt_or_ge x j with h|h
     ·exact hno.out x h
     ·obtain rfl:x=j:=by omega
      rw [List.getD_eq_getElem?_getD,List.getElem?_eq_getElem hlt];exact he
    clear he
    go_wp2_with fail
    go_round
    case rel=>exact ⟨j+1,by omega,by go_num,step⟩
    case measure=>simp [intOf];omega
  ·have fin:Hid (v=false):=by
    unfold Hid;rw [←HV.out,←Bool.not_eq_true,List.contains_iff_mem]
    intro hm
    obtain ⟨x,hx,he⟩:=List.getElem_of_mem hm
    have:=hno.out x (by omega)
    rw [List.getD_eq_getElem?_getD,List.getElem?_eq_getElem hx] at this
    exact this he
   go_wp2_with fail
   go_ret
   exact ⟨zo fin.out.symm,rfl⟩
theorem Ui (k:Int):([3,4,5,6,7]:List Int).contains k=decide (aT k):=by
 rw [Bool.eq_iff_iff,decide_eq_true_eq];unfold aT;simp;omega
theorem WZ (k:Int):([2,8,9,10,11]:List Int).contains k=decide (bD k):=by
 rw [Bool.eq_iff_iff,decide_eq_true_eq];unfold bD;simp;omega
def nY (b:Bool) (w:World) (e:Ending) (w':World):Prop:=e=.returned (.bool b)∧Kept aF w w'
theorem zZ (k:Int) (w:World):Calls Tryz.prog 56 #[.int .i64 k] w (nY (decide (aT k)) w):=by
 go_enter Tryz.func56, Tryz.ntmps56
 go_wp2_with fail
 refine (zk k [3,4,5,6,7] _ (Ui k) w.heap.size 5 3 (0,0) _ (ay w _) (by decide)).mono ?_
 rintro e w' ⟨rfl,rfl⟩
 go_wp2_with fail
 go_ret
 exact ⟨rfl,(Kept.refl _ _).alloc _⟩
theorem uh (k:Int) (w:World):Calls Tryz.prog 57 #[.int .i64 k] w (nY (decide (bD k)) w):=by
 go_enter Tryz.func57, Tryz.ntmps57
 go_wp2_with fail
 refine (zk k [2,8,9,10,11] _ (WZ k) w.heap.size 5 3 (0,0) _ (ay w _) (by decide)).mono ?_
 rintro e w' ⟨rfl,rfl⟩
 go_wp2_with fail
 go_ret
 exact ⟨rfl,(Kept.refl _ _).alloc _⟩
end Go.Proofs.YtefjbnhpjdhjmaaGreatDoor

namespace Go.Proofs.YtefjbnhpjdhjmaaGreatDoor
set_option linter.all false
open Go.RowKit
structure aQ where
 label:aj
 kind:Int
 target:aA
 value:aA
 pat:aA
 name:aj
 entry:aj
 params:List aj
 locals:List aj
 always:aj
 yes:aj
 aW:aj
structure iM where
 ta:Option Addr
 tc:Nat
 va:Option Addr
 vc:Nat
 pa:Option Addr
 pc:Nat
 ma:Option Addr
 mc:Nat
 la:Option Addr
 lc:Nat
def nM (w:World) (S:Nat→Prop) (a:Option Addr) (l:List aj):Prop :=
 0<l.length→∃b o,a=some ⟨b,o,none⟩∧S b∧∀i (h:i<l.length),w.cell? ⟨b,o+i,none⟩=some (.string l[i])
theorem nM.to {w w':World} {S S':Nat→Prop} {X:Nat→Prop} {a:Option Addr} {l:List aj} (h:nM w S a l) (hk:Kept X w w') (hs:Safe S X w.heap.size) (h':∀b,S b→S' b):nM w' S' a l:=by
 intro h0
 obtain ⟨b,o,rfl,hb,hc⟩:=h h0
 exact ⟨b,o,rfl,h' b hb,fun i hi=>(hk.cell (hs b hb).1 (hs b hb).2).trans (hc i hi)⟩
def bV (a:iM) (s:aQ):Value :=
 .agg #[.string s.label,.int .i64 s.kind,
  .int .i64 s.target.kind,.string s.target.text,.int .i64 s.target.n,.string s.target.name,.slice a.ta s.target.kids.length a.tc,
  .int .i64 s.value.kind,.string s.value.text,.int .i64 s.value.n,.string s.value.name,.slice a.va s.value.kids.length a.vc,
  .int .i64 s.pat.kind,.string s.pat.text,.int .i64 s.pat.n,.string s.pat.name,.slice a.pa s.pat.kids.length a.pc,
  .string s.name,.string s.entry,.slice a.ma s.params.length a.mc,.slice a.la s.locals.length a.lc,.string s.always,.string s.yes,.string s.aW]
def bZ (a:iM) (s:aQ):List Value :=
 [.string s.label,.int .i64 s.kind,
  .int .i64 s.target.kind,.string s.target.text,.int .i64 s.target.n,.string s.target.name,.slice a.ta s.target.kids.length a.tc,
  .int .i64 s.value.kind,.string s.value.text,.int .i64 s.value.n,.string s.value.name,.slice a.va s.value.kids.length a.vc,
  .int .i64 s.pat.kind,.string s.pat.text,.int .i64 s.pat.n,.string s.pat.name,.slice a.pa s.pat.kids.length a.pc,
  .string s.name,.string s.entry,.slice a.ma s.params.length a.mc,.slice a.la s.locals.length a.lc,.string s.always,.string s.yes,.string s.aW]
def dP (N:Nat) (a:iM) (s:aQ) (w:World):Prop:=w.heap[N]?=some (.cells #[.string s.label,.int .i64 s.kind,
  .int .i64 s.target.kind,.string s.target.text,.int .i64 s.target.n,.string s.target.name,.slice a.ta s.target.kids.length a.tc,
  .int .i64 s.value.kind,.string s.value.text,.int .i64 s.value.n,.string s.value.name,.slice a.va s.value.kids.length a.vc,
  .int .i64 s.pat.kind,.string s.pat.text,.int .i64 s.pat.n,.string s.pat.name,.slice a.pa s.pat.kids.length a.pc,
  .string s.name,.string s.entry,.slice a.ma s.params.length a.mc,.slice a.la s.locals.length a.lc,.string s.always,.string s.yes,.string s.aW] 30 (0,0))
theorem dP.new (w:World) (a:iM) (s:aQ):dP w.heap.size a s (w.alloc (.cells #[.string s.label,.int .i64 s.kind,
  .int .i64 s.target.kind,.string s.target.text,.int .i64 s.target.n,.string s.target.name,.slice a.ta s.target.kids.length a.tc,
  .int .i64 s.value.kind,.string s.value.text,.int .i64 s.value.n,.string s.value.name,.slice a.va s.value.kids.length a.vc,
  .int .i64 s.pat.kind,.string s.pat.text,.int .i64 s.pat.n,.string s.pat.name,.slice a.pa s.pat.kids.length a.pc,
  .string s.name,.string s.entry,.slice a.ma s.params.length a.mc,.slice a.la s.locals.length a.lc,.string s.always,.string s.yes,.string s.aW] 30)):=ay w _
theorem dP.lt {N:Nat} {a:iM} {s:aQ} {w:World} (h:dP N a s w):N<w.heap.size:=(Array.getElem?_eq_some_iff.1 h).1
theorem dP.kept {N:Nat} {a:iM} {s:aQ} {w w':World} {X:Nat→Prop} (h:dP N a s w) (hk:Kept X w w') (hx:¬X N):dP N a s w':=by
 unfold dP;rw [hk.block N h.lt hx];exact h
theorem dP.cells {N:Nat} {a:iM} {s:aQ} {w:World} (h:dP N a s w):w.cell? ⟨N,0,none⟩=some (.string s.label)∧
  w.cell? ⟨N,1,none⟩=some (.int .i64 s.kind)∧
  w.cell? ⟨N,2,none⟩=some (.int .i64 s.target.kind)∧
  w.cell? ⟨N,3,none⟩=some (.string s.target.text)∧
  w.cell? ⟨N,4,none⟩=some (.int .i64 s.target.n)∧
  w.cell? ⟨N,5,none⟩=some (.string s.target.name)∧
  w.cell? ⟨N,6,none⟩=some (.slice a.ta s.target.kids.length a.tc)∧
  w.cell? ⟨N,7,none⟩=some (.int .i64 s.value.kind)∧
  w.cell? ⟨N,8,none⟩=some (.string s.value.text)∧
  w.cell? ⟨N,9,none⟩=some (.int .i64 s.value.n)∧
  w.cell? ⟨N,10,none⟩=some (.string s.value.name)∧
  w.cell? ⟨N,11,none⟩=some (.slice a.va s.value.kids.length a.vc)∧
  w.cell? ⟨N,12,none⟩=some (.int .i64 s.pat.kind)∧
  w.cell? ⟨N,13,none⟩=some (.string s.pat.text)∧
  w.cell? ⟨N,14,none⟩=some (.int .i64 s.pat.n)∧
  w.cell? ⟨N,15,none⟩=some (.string s.pat.name)∧
  w.cell? ⟨N,16,none⟩=some (.slice a.pa s.pat.kids.length a.pc)∧
  w.cell? ⟨N,17,none⟩=some (.string s.name)∧
  w.cell? ⟨N,18,none⟩=some (.string s.entry)∧
  w.cell? ⟨N,19,none⟩=some (.slice a.ma s.params.length a.mc)∧
  w.cell? ⟨N,20,none⟩=some (.slice a.la s.locals.length a.lc)∧
  w.cell? ⟨N,21,none⟩=some (.string s.always)∧
  w.cell? ⟨N,22,none⟩=some (.string s.yes)∧
  w.cell? ⟨N,23,none⟩=some (.string s.aW):=by
 unfold dP at h
 refine ⟨?_,?_,?_,?_,?_,?_,?_,?_,?_,?_,?_,?_,?_,?_,?_,?_,?_,?_,?_,?_,?_,?_,?_,?_⟩<;>(rw [cell_of_row w N _ _ _ _ h];rfl)
structure Af (p:aA):Prop where
 z:p.text.size<1000000000∧p.name.size<1000000000∧p.kids.length<1000000000
 t:sizeT p≤1048576
structure oP (s:aQ):Prop where
 label:s.label.size<1000000000
 target:Af s.target
 value:Af s.value
 pat:Af s.pat
 name:s.name.size<1000000000
 entry:s.entry.size<1000000000
 params:s.params.length<1000000000∧∀x∈s.params,x.size<1000000000
 locals:s.locals.length<1000000000∧∀x∈s.locals,x.size<1000000000
 always:s.always.size<1000000000
 yes:s.yes.size<1000000000
 aW:s.aW.size<1000000000
structure lT (w:World) (S:Nat→Prop) (a:iM) (s:aQ):Prop where
 target:aI w S a.ta s.target.kids
 value:aI w S a.va s.value.kids
 pat:aI w S a.pa s.pat.kids
 params:nM w S a.ma s.params
 locals:nM w S a.la s.locals
theorem lT.to {w w':World} {S S':Nat→Prop} {X:Nat→Prop} {a:iM} {s:aQ} (h:lT w S a s) (hk:Kept X w w') (hs:Safe S X w.heap.size) (h':∀b,S b→S' b):lT w' S' a s :=
 ⟨h.target.to hk hs h',h.value.to hk hs h',h.pat.to hk hs h',h.params.to hk hs h',h.locals.to hk hs h'⟩
def StV (w:World) (S:Nat→Prop) (v:Value) (s:aQ):Prop:=∃a,v=bV a s∧oP s∧lT w S a s
def aK:List aj→Int
 | []=>0
 | x::r=>if aS x=true then aK r else 7
def isTarget (p:aA):Prop:=p.kind=3∨p.kind=4∨p.kind=5
instance (p:aA):Decidable (isTarget p):=by unfold isTarget;exact inferInstance
def gy:List Int→Int
 | []=>0
 | e::r=>if e=0 then gy r else e
def nD (s:aj):Bool:=decide (s.size=0)||aS s
def jR (s:aQ):Int :=
 if ¬(nD s.label=true∧nD s.always=true∧nD s.yes=true∧nD s.aW=true) then 7
 else if s.always.size≠0∧(s.yes.size≠0∨s.aW.size≠0) then 8
 else if s.kind=1 then 0
 else if s.kind=2 then bg s.value
 else if s.kind=4 then gy [bg s.value,bJ s.pat]
 else if s.kind=3 then gy [bg s.target,if isTarget s.target then 0 else 8,bg s.value]
 else if s.kind=5 then gy [bg s.target,if isTarget s.target then 0 else 8,bJ s.pat,bg s.value]
 else if s.kind=6 then gy [aK [s.name],bJ s.pat]
 else if s.kind=7 then gy [aK [s.name],aK s.params,aK s.locals,aK [s.entry],if 8<s.params.length∨8<s.locals.length then 5 else 0]
 else 1
end Go.Proofs.YtefjbnhpjdhjmaaGreatDoor

namespace Go.Proofs.YtefjbnhpjdhjmaaGreatDoor
set_option linter.all false
open Go.RowKit
def Ij:Go.Shelf.Ren:=⟨fun|167=>67|166=>31|240=>65|276=>84|n=>n,fun|0=>0|3=>3|4=>4|5=>5|9=>9|20=>20|37=>48|70=>75|72=>77|75=>79|80=>83|164=>127|n=>n,fun n=>n⟩
theorem KH:Go.Proofs.Lays.n167 Tryz.prog Ij:={mixed:=by kernel_rfl,f167:=Tryz.func67.trans (congrArg some (by kernel_rfl)),f240:=Tryz.func65.trans (congrArg some (by kernel_rfl)),f276:=Tryz.func84.trans (congrArg some (by kernel_rfl)),t0:=Tryz.underlying0,a0:=Tryz.isAgg0,z0:=Tryz.sizeOf0,v0:=Tryz.zeroValue0,t4:=Tryz.underlying4,a4:=Tryz.isAgg4,z4:=Tryz.sizeOf4,v4:=Tryz.zeroValue4,t5:=Tryz.underlying5,a5:=Tryz.isAgg5,z5:=Tryz.sizeOf5,v5:=Tryz.zeroValue5,t9:=Tryz.underlying9,a9:=Tryz.isAgg9,z9:=Tryz.sizeOf9,v9:=Tryz.zeroValue9,t20:=Tryz.underlying20,a20:=Tryz.isAgg20,z20:=Tryz.sizeOf20,v20:=Tryz.zeroValue20,t37:=Tryz.underlying48,a37:=Tryz.isAgg48,z37:=Tryz.sizeOf48,v37:=Tryz.zeroValue48,t70:=Tryz.underlying75,a70:=Tryz.isAgg75,z70:=Tryz.sizeOf75,v70:=Tryz.zeroValue75,t72:=Tryz.underlying77,a72:=Tryz.isAgg77,z72:=Tryz.sizeOf77,v72:=Tryz.zeroValue77,t75:=Tryz.underlying79,a75:=Tryz.isAgg79,z75:=Tryz.sizeOf79,v75:=Tryz.zeroValue79,t164:=Tryz.underlying127,a164:=Tryz.isAgg127,z164:=Tryz.sizeOf127,v164:=Tryz.zeroValue127}
theorem Vg:Go.Proofs.Lays.n166 Tryz.prog Ij:={mixed:=by kernel_rfl,f166:=Tryz.func31.trans (congrArg some (by kernel_rfl)),f240:=Tryz.func65.trans (congrArg some (by kernel_rfl)),f276:=Tryz.func84.trans (congrArg some (by kernel_rfl)),t0:=Tryz.underlying0,a0:=Tryz.isAgg0,z0:=Tryz.sizeOf0,v0:=Tryz.zeroValue0,t3:=Tryz.underlying3,a3:=Tryz.isAgg3,z3:=Tryz.sizeOf3,v3:=Tryz.zeroValue3,t4:=Tryz.underlying4,a4:=Tryz.isAgg4,z4:=Tryz.sizeOf4,v4:=Tryz.zeroValue4,t9:=Tryz.underlying9,a9:=Tryz.isAgg9,z9:=Tryz.sizeOf9,v9:=Tryz.zeroValue9,t20:=Tryz.underlying20,a20:=Tryz.isAgg20,z20:=Tryz.sizeOf20,v20:=Tryz.zeroValue20,t37:=Tryz.underlying48,a37:=Tryz.isAgg48,z37:=Tryz.sizeOf48,v37:=Tryz.zeroValue48,t70:=Tryz.underlying75,a70:=Tryz.isAgg75,z70:=Tryz.sizeOf75,v70:=Tryz.zeroValue75,t72:=Tryz.underlying77,a72:=Tryz.isAgg77,z72:=Tryz.sizeOf77,v72:=Tryz.zeroValue77,t75:=Tryz.underlying79,a75:=Tryz.isAgg79,z75:=Tryz.sizeOf79,v75:=Tryz.zeroValue79,t164:=Tryz.underlying127,a164:=Tryz.isAgg127,z164:=Tryz.sizeOf127,v164:=Tryz.zeroValue127}
theorem zq:Builder.Extra Tryz.prog Ij:={sizeBuilder:=by kernel_rfl,liesBuilder:=by kernel_rfl,t5:=Tryz.underlying5,a5:=Tryz.isAgg5,z5:=Tryz.sizeOf5,v5:=Tryz.zeroValue5,infoByte:=by kernel_rfl,cellsByte:=by kernel_rfl,sizeByte:=by kernel_rfl,neB5:=by decide}
def oQ (N T:Nat) (l:List UInt8) (w:World):Prop:=Lib.IsBuilderF 77 5 T N (Lib.byteCells l) w
def XB (N T:Nat) (w:World) (y:Nat):Prop:=y=N∨(T≤y∧∃c fz,w.heap[y]?=some (.cells c 5 fz))
def KB (N T:Nat) (w w':World):Prop:=Kept (XB N T w) w w'
theorem KB.refl (N T:Nat) (w:World):KB N T w w:=Kept.refl _ w
theorem KB.trans {N T:Nat} {a b c:World} (h:KB N T a b) (k:KB N T b c):KB N T a c:=by
 refine Kept.step h k fun y hy=>?_
 rcases hy with rfl|⟨hT,cs,fz,hc⟩
 ·exact .inl (.inl rfl)
 ·by_cases hlt:y<a.heap.size
  ·by_cases hx:XB N T a y
   ·exact .inl hx
   ·have:=Kept.block h y hlt hx
    rw [hc] at this
    exact .inl (.inr ⟨hT,cs,fz,this.symm⟩)
  ·exact .inr (by omega)
theorem KB.of {N T:Nat} {w w':World} (h1:Below T w w') (h2:Lib.OthersKept 5 (some N) w w'):KB N T w w':=by
 refine ⟨h1.os,h1.tape,h1.output,h1.size,fun k hk hx=>?_⟩
 have hnN:k≠N:=fun e=>hx (.inl e)
 by_cases hT:k<T
 ·exact h1.block k hT
 ·have ho:=Array.getElem?_eq_getElem hk
  rw [ho]
  refine h2 k _ ho (fun e=>hnN (Option.some.inj e)) fun c fz e=>hx (.inr ⟨by omega,c,fz,by rw [ho,e]⟩)
theorem KB.old {N T:Nat} {w:World} {y:Nat} (hy:y<T) (hT:T≤N):¬XB N T w y:=by
 rintro (rfl|⟨h,_⟩)<;>omega
theorem KB.below {N T:Nat} {w w':World} (h:KB N T w w') (hT:T≤N) (hw:T≤w.heap.size):Below T w w' :=
 ⟨h.os,h.tape,h.output,h.size,fun k hk=>h.block k (by omega) (KB.old hk hT)⟩
theorem yc (a b:List UInt8):Lib.byteCells (a++b)=Lib.byteCells a++Lib.byteCells b:=by simp [Lib.byteCells]
def Ik (N T:Nat) (l:List UInt8) (v:Value) (w:World) (e:Ending) (w':World):Prop:=e=.returned v∧oQ N T l w'∧KB N T w w'
theorem MV (N T:Nat) (l:List UInt8) (c:UInt8) (w:World) (h:oQ N T l w) (hl:l.length+1≤140737488355328) (hT:T≤w.heap.size) :
  Calls Tryz.prog 67 #[.pointer (some ⟨N,0,none⟩),.int .u8 c.toNat] w (Ik N T (l++[c]) .nilIface w):=by
 refine (Any.Builder_WriteByte_k KH zq T N (Lib.byteCells l) c.toNat w h (by rw [Lib.byteCells_length];exact hl) hT).mono ?_
 rintro e w' ⟨rfl,h1,h2,h3⟩
 exact ⟨rfl,.inr (by rw [yc];exact h1),KB.of h2 h3⟩
theorem bW (N T:Nat) (l:List UInt8) (s:aj) (w:World) (h:oQ N T l w) (hl:l.length+s.size≤140737488355328) (hT:T≤w.heap.size) :
  Calls Tryz.prog 31 #[.pointer (some ⟨N,0,none⟩),.string s] w (Ik N T (l++s.data.toList) (.tuple #[.int .i64 s.size,.nilIface]) w):=by
 refine (Any.Builder_WriteString_k Vg zq T N (Lib.byteCells l) s w h (by rw [Lib.byteCells_length];exact hl) hT).mono ?_
 rintro e w' ⟨rfl,h1,h2,h3⟩
 exact ⟨rfl,.inr (by rw [yc];exact h1),KB.of h2 h3⟩
end Go.Proofs.YtefjbnhpjdhjmaaGreatDoor

namespace Go.Proofs.YtefjbnhpjdhjmaaGreatDoor
set_option linter.all false
open Go.RowKit Go.Deep
set_option maxRecDepth 100000
theorem AV {H:Type} (d:DataW H):1≤Rows.uptoBulk d:=by
 cases d with
 | lit l=>cases l<;>simp [Rows.uptoBulk]
 | nil=>simp [Rows.uptoBulk]
 | ptr d=>simp [Rows.uptoBulk]
 | slice elems spare=>simp [Rows.uptoBulk]
 | agg parts=>simp [Rows.uptoBulk]
 | iface t d=>simp [Rows.uptoBulk]
 | map entries=>simp [Rows.uptoBulk]
 | held h=>simp [Rows.uptoBulk]
theorem AX {H:Type} (s:aj):Rows.uptoBulk (DataW.lit (H:=H) (.string s.data.toList))=s.size+1:=by
 simp only [Rows.uptoBulk];rfl
theorem tK {H:Type}:∀(l:List (DataW H)),l.length≤Rows.uptoBulkAll l
 | []=>by simp [Rows.uptoBulkAll]
 | x::r=>by have:=AV x;have:=tK r;simp only [Rows.uptoBulkAll,List.length_cons];omega
section
variable {H:Type} {enc:TypeId×Value→H} {w:World} {spare:Nat→Bool} {held:Bool}
theorem cells_lt {a:Addr} {v:Value} (h:w.cell? a=some v):a.block<w.heap.size:=by
 unfold World.cell? at h
 cases hb:w.heap[a.block]? with
 | none=>rw [hb] at h;simp at h
 | some o=>exact (Array.getElem?_eq_some_iff.1 hb).1
theorem Rz (S:Nat→Prop) (b:Nat):∀(len o:Nat) (B:Nat→Nat),(∀i,i<len→∃p,dL w S b (o+i*5) p∧sizeT p≤B i)→
  ∃l:List aA,l.length=len∧aI w S (some ⟨b,o,none⟩) l∧aO l≤((List.range len).map B).sum
 | 0,o,B,_=>⟨[],rfl,by unfold aI;trivial,by simp [aO]⟩
 | len+1,o,B,h=>by
  obtain ⟨p,hp,hs⟩:=h 0 (by omega)
  obtain ⟨l,hl,hk,hsl⟩:=Rz S b len (o+5) (fun i=>B (i+1)) (fun i hi=>by
   obtain ⟨q,hq,hqs⟩:=h (i+1) (by omega)
   exact ⟨q,by rw [show o+5+i*5=o+(i+1)*5 by omega];exact hq,hqs⟩)
  refine ⟨p::l,by simp [hl],?_,?_⟩
  ·unfold aI;exact ⟨b,o,rfl,by simpa using hp,hk⟩
  ·rw [aO,List.range_succ_eq_map,List.map_cons,List.sum_cons,List.map_map]
   exact Nat.add_le_add hs hsl
theorem yK (f:Nat→Nat):∀(l:List Nat) (i:Nat),i∈l→f i≤(l.map f).sum
 | [],i,h=>by simp at h
 | j::r,i,h=>by
  rw [List.map_cons,List.sum_cons]
  rcases List.mem_cons.1 h with rfl|h
  ·omega
  ·have:=yK f r i h;omega
theorem CQ (D:Nat→DataW H):∀(l:List Nat),(l.map fun i=>Rows.uptoBulk (D i)).sum=Rows.uptoBulkAll (l.map D)
 | []=>by simp [Rows.uptoBulkAll]
 | i::r=>by simp only [List.map_cons,List.sum_cons,Rows.uptoBulkAll,CQ D r]
theorem Zi:∀(N:Nat),N≤1048576→∀(fuel:Nat) (cs:List Value) (x:DataW H×List MemPlace),DataW.trod enc Tryz.prog w 0 spare held fuel 27 cs=some x→Rows.uptoBulk x.1≤N→
  ∃p ka cap,cs=[.int .i64 (aA.kind p),.string p.text,.int .i64 p.n,.string p.name,.slice ka p.kids.length cap]∧(p.text.size<1000000000∧p.name.size<1000000000∧p.kids.length<1000000000)∧aI w (· < w.heap.size) ka p.kids∧sizeT p≤Rows.uptoBulk x.1:=by
 intro N
 induction N with
 | zero=>intro _ fuel cs x h hb;have:=AV x.1;omega
 | succ N ih =>
 intro hN fuel cs x h hb
 obtain ⟨xs,n,rfl,rfl,hlen,hxs,hf⟩:=DataW.trod_struct Tryz.underlying27 h
 have hcs:cs.length=5:=hlen
 match cs,hcs with
 | [v0,v1,v2,v3,v4],_ =>
 match xs,hxs with
 | [x0,x1,x2,x3,x4],_ =>
 have h0:=hf 0 _ rfl;have h1:=hf 1 _ rfl;have h2:=hf 2 _ rfl;have h3:=hf 3 _ rfl;have h4:=hf 4 _ rfl
 obtain ⟨k,e0,r0,_⟩:=DataW.trod_int (cs:=[v0]) (x:=x0) Tryz.underlying3 h0
 obtain ⟨t,e1,r1,_⟩:=DataW.trod_string (cs:=[v1]) (x:=x1) Tryz.underlying9 h1
 obtain ⟨nn,e2,r2,_⟩:=DataW.trod_int (cs:=[v2]) (x:=x2) Tryz.underlying3 h2
 obtain ⟨nm,e3,r3,_⟩:=DataW.trod_string (cs:=[v3]) (x:=x3) Tryz.underlying9 h3
 simp only [List.cons.injEq,and_true] at e0 e1 e2 e3
 subst e0 e1 e2 e3 r0 r1 r2 r3
 simp only [List.map_cons,List.map_nil,Rows.uptoBulk,Rows.uptoBulkAll] at hb⊢
 have zt:t.data.toList.length=t.size:=rfl
 have zn:nm.data.toList.length=nm.size:=rfl
 rw [zt,zn] at hb⊢
 rcases open_slice (cs:=[v4]) (x:=x4) Tryz.underlying25 h4 with ⟨e4,r4⟩|⟨a,len,cap,m,n',D,Pl,e4,_,hlc,hcm,hm,r4,hel⟩
 ·simp only [List.cons.injEq,and_true] at e4;subst e4 r4
  refine ⟨.mk k t nn nm [],none,0,rfl,⟨?_,?_,by simp⟩,by unfold aI;trivial,by simp only [sizeT,aO];omega⟩
  ·rw [aA.aX];omega
  ·rw [aA.aY];omega
 ·simp only [List.cons.injEq,and_true] at e4;subst e4
  rw [r4] at hb⊢
  simp only [Rows.uptoBulk] at hb⊢
  have hlm:len≤m:=by rw [hm];split<;>omega
  have hbl:=tK ((List.range len).map D)
  rw [List.length_map,List.length_range] at hbl
  have hsum:=CQ D (List.range len)
  have hfin:∃l:List aA,l.length=len∧aI w (· < w.heap.size) (some a) l∧aO l≤Rows.uptoBulkAll ((List.range len).map D):=by
   cases len with
   | zero=>exact ⟨[],rfl,by unfold aI;trivial,by simp [aO]⟩
   | succ len =>
    obtain ⟨cs0,hc0,_⟩:=hel 0 (by omega)
    have hc0':=(World.cells?_some hc0).2.2 0 (by decide)
    have hl0:=(World.cells?_some hc0).2.1
    obtain ⟨b,o,spot⟩:=a
    have hspot:spot=none:=by
     have hx:∃u,w.cell? ((⟨b,o,spot⟩:Addr).add (0*Tryz.prog.cellsOf 27))=some u:=by
      have:0<cs0.length:=by rw [hl0];decide
      exact ⟨cs0[0],by simpa [Addr.add,List.getElem?_eq_getElem this] using hc0'⟩
     obtain ⟨u,hu⟩:=hx
     simpa [Addr.add] using World.cell?_spot hu
    subst hspot
    obtain ⟨l,hl,hk,hs⟩:=Rz (w:=w) (· < w.heap.size) b (len+1) o (fun i=>Rows.uptoBulk (D i)) (fun i hi=>by
     obtain ⟨cs',hc,ht⟩:=hel i (by omega)
     have hbi:Rows.uptoBulk (D i)≤Rows.uptoBulkAll ((List.range (len+1)).map D):=by
      rw [←hsum];exact yK (fun i=>Rows.uptoBulk (D i)) _ i (List.mem_range.2 hi)
     obtain ⟨p,ka,cp,rfl,hz,hkk,hsz⟩:=ih (by omega) n' cs' _ ht (by simp only;omega)
     obtain ⟨_,_,hcell⟩:=World.cells?_some hc
     have ea:∀j,((⟨b,o,none⟩:Addr).add (i*Tryz.prog.cellsOf 27)).add j=⟨b,o+i*5+j,none⟩:=by
      intro j
      have e5:Tryz.prog.cellsOf 27=5:=by kernel_rfl
      rw [e5];unfold Addr.add;split<;>split<;>simp_all<;>omega
     have c0:=hcell 0 (by decide);have c1:=hcell 1 (by decide);have c2:=hcell 2 (by decide);have c3:=hcell 3 (by decide);have c4:=hcell 4 (by decide)
     rw [ea] at c0 c1 c2 c3 c4
     refine ⟨p,?_,hsz⟩
     obtain ⟨k,t,nn,nm,kids⟩:=p
     unfold dL
     exact ⟨cells_lt c0,hz,c0,c1,c2,c3,ka,cp,c4,hkk⟩)
    exact ⟨l,hl,hk,by rw [←hsum];exact hs⟩
  obtain ⟨l,rfl,hk,hs⟩:=hfin
  refine ⟨.mk k t nn nm l,some a,cap,rfl,⟨?_,?_,?_⟩,hk,?_⟩
  ·rw [aA.aX];omega
  ·rw [aA.aY];omega
  ·rw [aA.aV];omega
  ·simp only [sizeT];omega
end
end Go.Proofs.YtefjbnhpjdhjmaaGreatDoor

namespace Go.Proofs.YtefjbnhpjdhjmaaGreatDoor
set_option linter.all false
open Go.RowKit
def dA (k:Int):Nat:=if k=8 then 1 else if k=9∨k=10 then 2 else if k=11∨k=12∨k=13 then 3 else if k=7 then 4 else 5
def iq (k:Int):UInt8:=if k=8 then 38 else if k=9 then 43 else if k=10 then 45 else if k=11 then 42 else if k=12 then 47 else 37
mutual
def aP:aA→Nat→List UInt8
 | .mk k t n nm kids,i =>
  if k=1 then gJ t
  else if k=2 then Lib.decDigits n.toNat
  else if k=3 then nm.data.toList
  else if k=4 then nm.data.toList++(60::(o7 kids 1++[62]))
  else if k=5 then 36::o7 kids 5
  else if k=7 then sH (decide (4<i)) (45::o7 kids 4)
  else if k=6 then nm.data.toList++(40::(kH true kids++[41]))
  else sH (decide (dA k<i)) (xg (dA k) [32,iq k,32] kids)
def o7:List aA→Nat→List UInt8
 | [],_=>[]
 | p::_,i=>aP p i
def kH:Bool→List aA→List UInt8
 | _,[]=>[]
 | first,p::r=>(if first then [] else [44,32])++(aP p 1++kH false r)
def xg:Nat→List UInt8→List aA→List UInt8
 | own,sep,p::r=>aP p own++(sep++o7 r (own+1))
 | _,_,[]=>[]
end
def tH (p:aA):Prop:=∀x∈allT p,x.n≤9223372036854775807
def Jd (l:List aA):Prop:=∀x∈allL l,x.n≤9223372036854775807
structure lS (p:aA):Prop where
 node:kF p=0
 num:tH p
structure sJ (l:List aA):Prop where
 nodes:pJ l=0
 nums:Jd l
theorem sJ.head {p:aA} {l:List aA} (h:sJ (p::l)):lS p∧sJ l:=by
 have h1:=h.nodes
 rw [pJ] at h1
 by_cases hp:kF p=0
 ·rw [if_pos hp] at h1
  exact ⟨⟨hp,fun x hx=>h.nums x (by rw [allL];exact List.mem_append_left _ hx)⟩,⟨h1,fun x hx=>h.nums x (by rw [allL];exact List.mem_append_right _ hx)⟩⟩
 ·rw [if_neg hp] at h1;exact absurd h1 hp
theorem sJ.get:∀{l:List aA},sJ l→∀(j:Nat) (hj:j<l.length),lS l[j]
 | p::l,h,0,_=>h.head.1
 | p::l,h,j+1,hj=>sJ.get h.head.2 j (by simpa using hj)
theorem lS.sub {k n:Int} {t nm:aj} {l:List aA} (h:lS (.mk k t n nm l)):sJ l:=by
 have h1:=h.node
 rw [kF] at h1
 split at h1
 ·exact ⟨h1,fun x hx=>h.num x (by rw [allT];exact List.mem_cons_of_mem _ hx)⟩
 ·rename_i hx;exact absurd h1 hx
section
variable {k n:Int} {t nm:aj} {kids:List aA}
theorem lS.facts (h:lS (.mk k t n nm kids)):(1≤k∧k≤13)∧(k=1→t.size≤65536)∧(k=2→0≤n)∧n≤9223372036854775807∧(k=3∨k=4∨k=6→nm.size≤16)∧(k=6→kids.length≤8)∧(k≠6→(kids.length:Int)=iQ k):=by
 have h1:=h.node
 rw [kF] at h1
 have h2:zu k t n nm kids.length=0:=by
  split at h1
  ·assumption
  ·rename_i hx;exact absurd h1 hx
 have hn:n≤9223372036854775807:=h.num (.mk k t n nm kids) (by rw [allT];exact List.mem_cons_self ..)
 unfold zu at h2
 by_cases c1:k<1∨13<k
 ·rw [if_pos c1] at h2;cases h2
 rw [if_neg c1] at h2
 by_cases c2:k=1∧65536<t.size
 ·rw [if_pos c2] at h2;cases h2
 rw [if_neg c2] at h2
 by_cases c3:k=2∧n<0
 ·rw [if_pos c3] at h2;cases h2
 rw [if_neg c3] at h2
 by_cases c4:(k=3∨k=4∨k=6)∧aS nm=false
 ·rw [if_pos c4] at h2;cases h2
 rw [if_neg c4] at h2
 by_cases c5:(k=6∧8<kids.length)∨(k≠6∧(kids.length:Int)≠iQ k)
 ·rw [if_pos c5] at h2;cases h2
 refine ⟨by omega,fun e=>by omega,fun e=>by omega,hn,fun e=>?_,fun e=>by omega,fun e=>by omega⟩
 refine jD ?_
 cases hx:aS nm with
 | true=>rfl
 | false=>exact absurd ⟨e,hx⟩ c4
theorem lS.one (h:lS (.mk k t n nm kids)) (hk:k=4∨k=5∨k=7):∃q,kids=[q]:=by
 have h1:=h.facts.2.2.2.2.2.2 (by omega)
 rw [show iQ k=1 by unfold iQ;rw [if_pos hk]] at h1
 exact List.length_eq_one_iff.1 (by omega)
theorem lS.two (h:lS (.mk k t n nm kids)) (hk:8≤k):∃p q,kids=[p,q]:=by
 have h0:=h.facts.1
 have h1:=h.facts.2.2.2.2.2.2 (by omega)
 rw [show iQ k=2 by unfold iQ;rw [if_neg (by omega),if_pos (by omega)]] at h1
 have h2:kids.length=2:=by omega
 match kids,h2 with
 | [p,q],_=>exact ⟨p,q,rfl⟩
end
mutual
theorem BD:∀(p:aA) (i:Nat),lS p→(aP p i).length+3≤140010*sizeT p
 | .mk k t n nm kids,i,h=>by
  obtain ⟨hk,ht,hn,hn2,hnm,hk6,hkk⟩:=h.facts
  have hh1:=Aj kids 1 h.sub
  have hh5:=Aj kids 5 h.sub
  have hh4:=Aj kids 4 h.sub
  have hj:=LQ true kids h.sub
  have h2:=Y9 (dA k) [32,iq k,32] (by simp) kids h.sub
  have hq:=Ak t
  have en:nm.data.toList.length=nm.size:=rfl
  rw [aP,sizeT]
  split
  ·have:=ht ‹_›;omega
  split
  ·have h0:=hn ‹_›
   have:=BK 19 n.toNat (by omega);omega
  split
  ·have:=hnm (.inl ‹_›);omega
  split
  ·have:=hnm (.inr (.inl ‹_›));simp only [List.length_append,List.length_cons,List.length_nil];omega
  split
  ·simp only [List.length_cons];omega
  split
  ·have:=Fz (decide (4<i)) (45::o7 kids 4);simp only [List.length_cons] at this;omega
  split
  ·have:=hnm (.inr (.inr ‹_›));simp only [List.length_append,List.length_cons,List.length_nil];omega
  ·have:=Fz (decide (dA k<i)) (xg (dA k) [32,iq k,32] kids);omega
theorem Aj:∀(l:List aA) (i:Nat),sJ l→(o7 l i).length≤140010*aO l
 | [],i,h=>by simp [o7]
 | p::r,i,h=>by have:=BD p i h.head.1;rw [o7,aO];omega
theorem LQ:∀(first:Bool) (l:List aA),sJ l→(kH first l).length≤140010*aO l
 | first,[],h=>by simp [kH]
 | first,p::r,h=>by
  have h1:=BD p 1 h.head.1
  have h2:=LQ false r h.head.2
  rw [kH,aO]
  simp only [List.length_append]
  split
  ·simp only [List.length_nil];omega
  ·simp only [List.length_cons,List.length_nil];omega
theorem Y9:∀(own:Nat) (sep:List UInt8),sep.length≤3→∀(l:List aA),sJ l→(xg own sep l).length≤140010*aO l
 | own,sep,hs,[],h=>by simp [xg]
 | own,sep,hs,p::r,h=>by
  have h1:=BD p own h.head.1
  have h2:=Aj r (own+1) h.head.2
  rw [xg,aO]
  simp only [List.length_append];omega
end
end Go.Proofs.YtefjbnhpjdhjmaaGreatDoor

namespace Go.Proofs.YtefjbnhpjdhjmaaGreatDoor
set_option linter.all false
open Go.RowKit
def aas (w:World) (S:Nat→Prop) (v:Value) (l:List aj):Prop :=
 ∃a cap,v=.slice a l.length cap∧(0<l.length→∃b o,a=some ⟨b,o,none⟩∧S b∧∀i (h:i<l.length),w.cell? ⟨b,o+i,none⟩=some (.string l[i]))
end Go.Proofs.YtefjbnhpjdhjmaaGreatDoor

namespace Go.Proofs.YtefjbnhpjdhjmaaGreatDoor
set_option linter.all false
open Go.RowKit Go.Deep
section
variable {H:Type} {enc:TypeId×Value→H} {w:World} {spare:Nat→Bool} {held:Bool}
theorem Zj {H:Type} (D:Nat→DataW H) (len i:Nat) (hi:i<len):Rows.uptoBulk (D i)≤Rows.uptoBulkAll ((List.range len).map D):=by
 rw [←CQ D];exact yK (fun i=>Rows.uptoBulk (D i)) _ i (List.mem_range.2 hi)
end
end Go.Proofs.YtefjbnhpjdhjmaaGreatDoor
