/-  -/
import Derived.Test.YtodebjhalipefaaGreatDoorBi
import Derived.Test.YtodebjhalipefaaGreatDoorSt3
import Derived.Test.YtodebjhalipefaaGreatDoorLq20
import Derived.Test.YtodebjhalipefaaGreatDoorLq8
import Derived.Test.YtodebjhalipefaaGreatDoorLq2
import Derived.Test.YtodebjhalipefaaGreatDoorLq22
import Derived.BigQuiet
namespace Go.Proofs.YtodebjhalipefaaGreatDoor
set_option linter.all false
open Go.RowKit
def IY (n:aj):Nat→List aF→Int
 | _,[] => -1
 | i,s::r=>if s.label=n∧n.size≠0 then (i:Int) else IY n (i+1) r
def nS (l:List aF) (n:aj):Int:=IY n 0 l
def MX (n:aj):Nat→List aF→Int
 | _,[] => -1
 | i,s::r=>if s.kind=7∧s.name=n then (i:Int) else MX n (i+1) r
def funcF (l:List aF) (n:aj):Int:=MX n 0 l
end Go.Proofs.YtodebjhalipefaaGreatDoor

namespace Go.Proofs.YtodebjhalipefaaGreatDoor
set_option linter.all false
open Go.RowKit
def iW (s:aF):List aB:=if s.kind=2∨s.kind=4 then [s.value] else if s.kind=3∨s.kind=5 then [s.target,s.value] else []
theorem xW {w:World} {S':Nat→Prop} {g o:Nat} {p:aB} {ka:Option Addr} {kc:Nat} (hg:S' g) (hz:p.text.size<1000000000∧p.name.size<1000000000∧p.kids.length<1000000000)
  (h0:w.cell? ⟨g,o,none⟩=some (.int .i64 p.kind)) (h1:w.cell? ⟨g,o+1,none⟩=some (.string p.text)) (h2:w.cell? ⟨g,o+2,none⟩=some (.int .i64 p.n)) (h3:w.cell? ⟨g,o+3,none⟩=some (.string p.name))
  (h4:w.cell? ⟨g,o+4,none⟩=some (.slice ka p.kids.length kc)) (hk:aN w S' ka p.kids):aU w S' g o p:=by
 obtain ⟨k,t,n,nm,kids⟩:=p
 unfold aU
 exact ⟨hg,hz,h0,h1,h2,h3,ka,kc,h4,hk⟩
end Go.Proofs.YtodebjhalipefaaGreatDoor

namespace Go.Proofs.YtodebjhalipefaaGreatDoor
set_option linter.all false
open Go.RowKit
def GU (all:List aj):Prop:=∀a (h:a<all.length),all[a].toList≠[73,78,80,85,84]∧all[a].toList≠[79,85,84,80,85,84]∧∀b (hb:b<a),all[a]≠all[b]'(by omega)
def Jk (l:List aF) (i:Nat) (s:aF):Prop:=s.label.size=0∨(qN s.label=false∧nS l s.label=i)
def Oz (l:List aF) (i:Nat) (s:aF):Prop:=aI s.name<0∧funcF l s.name=i
def pF (l:List aF) (i:Nat) (s:aF):Prop:=Jk l i s∧(s.kind=7→Oz l i s∧GU (s.name::s.params++s.locals))
end Go.Proofs.YtodebjhalipefaaGreatDoor

namespace Go.Proofs.YtodebjhalipefaaGreatDoor
set_option linter.all false
open Go.RowKit
def wQ (l:List aF) (n:aj):Prop:=n.size≠0∧qN n=false∧nS l n<0
instance (l:List aF) (n:aj):Decidable (wQ l n):=by unfold wQ;exact inferInstance
def Yo (l:List aF):List aj→Int
 | []=>0
 | n::r=>if wQ l n then 6 else Yo l r
def zJ (s:aF):List aj:=[s.always,s.yes,s.bU]
def wU (l:List aF) (d:Int):Nat:=match l[d.toNat]? with|some t=>t.params.length|none=>0
def GZ (l:List aF) (x:aB):Int :=
 if x.kind≠6 then 0
 else if 0≤aI x.name∧aI x.name≠x.kids.length then 5
 else if aI x.name<0∧funcF l x.name<0 then 7
 else if aI x.name<0∧wU l (funcF l x.name)<x.kids.length then 5 else 0
def xw (l:List aF):List aB→Int
 | []=>0
 | y::r=>if GZ l y=0 then xw l r else GZ l y
def exE (l:List aF):List aB→Int
 | []=>0
 | x::r=>if xw l (allT x)=0 then exE l r else xw l (allT x)
def uX (l:List aF) (s:aF):Int:=dK [Yo l (zJ s),if s.kind=7∧nS l s.entry<0 then 6 else 0,exE l (iW s)]
theorem bT.hc {N:Nat} {a:gW} {s:aF} {w:World} (h:bT N a s w):∀i (hi:i<24),w.cell? ⟨N,0+i,none⟩=some ((bM a s)[i]'(by simpa [bM] using hi)):=by
 intro i hi
 unfold bT at h
 rw [cell_of_row w N (0+i) _ _ _ h,Nat.zero_add]
 show ((bM a s).toArray)[i]?=_
 rw [List.getElem?_toArray,List.getElem?_eq_getElem (by simpa [bM] using hi)]
end Go.Proofs.YtodebjhalipefaaGreatDoor

namespace Go.Proofs.YtodebjhalipefaaGreatDoor
set_option linter.all false
open Go.RowKit
def pG:Nat→List aF→Option (Int×Nat)
 | _,[]=>none
 | i,s::r=>if jG s=0 then pG (i+1) r else some (jG s,i)
open Classical in
noncomputable def kR (l:List aF):Nat→List aF→Option (Int×Nat)
 | _,[]=>none
 | i,s::r=>if pF l i s then kR l (i+1) r else some (7,i)
def vM (l:List aF):Nat→List aF→Option (Int×Nat)
 | _,[]=>none
 | i,s::r=>if uX l s=0 then vM l (i+1) r else some (uX l s,i)
noncomputable def bZ (l:List aF):Int×Nat :=
 if 1000<l.length then (5,0) else ((pG 0 l).orElse fun _=>(kR l 0 l).orElse fun _=>vM l 0 l).getD (0,0)
end Go.Proofs.YtodebjhalipefaaGreatDoor

namespace Go.Proofs.YtodebjhalipefaaGreatDoor
set_option linter.all false
open Go.RowKit
set_option maxRecDepth 100000
set_option maxHeartbeats 1000000
def Fs (N:Nat) (r:Int×Int) (w:World):Prop:=w.heap[N]?=some (.cells #[.int .i64 r.1,.int .i64 r.2] 142 (0,0))
theorem Fs.lt {N:Nat} {r:Int×Int} {w:World} (h:Fs N r w):N<w.heap.size:=(Array.getElem?_eq_some_iff.1 h).1
theorem Fs.kept {N:Nat} {r:Int×Int} {w w':World} {X:Nat→Prop} (h:Fs N r w) (hk:Kept X w w') (hx:¬X N):Fs N r w':=by
 unfold Fs;rw [hk.block N h.lt hx];exact h
theorem Fs.cells {N:Nat} {r:Int×Int} {w:World} (h:Fs N r w):w.cell? ⟨N,0,none⟩=some (.int .i64 r.1)∧w.cell? ⟨N,1,none⟩=some (.int .i64 r.2)∧w.frozen? ⟨N,0,none⟩=false∧w.frozen? ⟨N,1,none⟩=false:=by
 unfold Fs at h
 exact ⟨by rw [cell_of_row w N _ _ _ _ h];rfl,by rw [cell_of_row w N _ _ _ _ h];rfl,by simp [World.frozen?,h],by simp [World.frozen?,h]⟩
theorem Fs.set {N:Nat} {r:Int×Int} {w:World} (h:Fs N r w) (c d:Int):Fs N (c,d) ((w.setCell ⟨N,0,none⟩ (.int .i64 c)).setCell ⟨N,1,none⟩ (.int .i64 d)):=by
 unfold Fs at *
 simp [World.setCell,Array.getElem?_modify,h]
def vI (r q:Int×Int):Int×Int:=if r.1=0 then q else r
def ZG (N:Nat) (r:Int×Int) (w:World) (e:Ending) (w':World):Prop:=e=.returned (.tuple #[])∧Fs N r w'∧Kept (· = N) w w'
theorem pV (N:Nat) (r:Int×Int) (err at_:Int) (w:World) (h:Fs N r w):Calls Tryz.prog 73 #[.pointer (some ⟨N,0,none⟩),.int .i64 err,.int .i64 at_] w (ZG N (vI r (err,at_)) w):=by
 obtain ⟨a,b⟩:=r
 obtain ⟨f0,f1,f2,f3⟩:=h.cells
 have HF:=ah h
 dsimp only at f0 f1
 clear h
 by_cases h0:a=0
 ·have fin:Hid (vI (a,b) (err,at_)=(err,at_)):=if_pos h0
  have e1:(a==0)=true:=by simpa using h0
  clear h0
  go_enter Tryz.func73, Tryz.ntmps73
  go_wp2_with fail
  refine bodyPost_ret (v:=.tuple #[]) (by simp [results,Tryz.results73,go_sem]) rfl ⟨rfl,by rw [fin.out];exact HF.out.set err at_,((Kept.refl (· = N) w).setCell (p:=⟨N,0,none⟩) (.inl rfl) _).setCell (p:=⟨N,1,none⟩) (.inl rfl) _⟩
 ·have fin:Hid (vI (a,b) (err,at_)=(a,b)):=if_neg h0
  have e1:(a==0)=false:=by simpa using h0
  clear h0
  go_enter Tryz.func73, Tryz.ntmps73
  go_wp2_with fail
  refine bodyPost_ret (v:=.tuple #[]) (by simp [results,Tryz.results73,go_sem]) rfl ⟨rfl,by rw [fin.out];exact HF.out,Kept.refl _ _⟩
def jH (k:Int):List Nat:=if k=2∨k=4 then [7] else if k=3∨k=5 then [2,7] else []
def PtrRow (w:World) (a:Option Addr) (B b o:Nat) (l:List Nat):Prop:=0<l.length→∃g,a=some ⟨g,0,none⟩∧B≤g∧g<w.heap.size∧∀i (h:i<l.length),w.cell? ⟨g,i,none⟩=some (.pointer (some ⟨b,o+l[i],none⟩))
def agk (k:Int) (b o:Nat) (w:World) (e:Ending) (w':World):Prop:=∃a,e=.returned (.slice a (jH k).length (jH k).length)∧PtrRow w' a w.heap.size b o (jH k)∧Kept aA w w'
theorem Yw (k:Int) (b o:Nat) (w:World) (h1:w.cell? ⟨b,o+1,none⟩=some (.int .i64 k)):Calls Tryz.prog 80 #[.pointer (some ⟨b,o,none⟩)] w (agk k b o w):=by
 by_cases yD:k=2∨k=4
 ·have fin:Hid (jH k=[7]):=if_pos yD
  have P2:Hid (PtrRow (w.alloc (.cells #[.pointer (some ⟨b,o+7,none⟩)] 141)) (some ⟨w.heap.size,0,none⟩) w.heap.size b o [7]):=fun _=>⟨_,rfl,Nat.le_refl _,by simp,fun i hi=>by
   obtain rfl:i=0:=by simpa using hi
   simp⟩
  rcases yD with rfl|rfl
  all_goals
   go_enter Tryz.func80, Tryz.ntmps80
   go_wp2_with fail
   go_ret
   exact ⟨some ⟨w.heap.size,0,none⟩,by rw [fin.out];rfl,by rw [fin.out];exact P2.out,(Kept.refl _ _).alloc _⟩
 by_cases h35:k=3∨k=5
 ·have fin:Hid (jH k=[2,7]):=by unfold Hid jH;rw [if_neg yD,if_pos h35]
  have P2:Hid (∀w':World,w'.heap=w.heap→PtrRow (w'.alloc (.cells #[.pointer (some ⟨b,o+2,none⟩),.pointer (some ⟨b,o+7,none⟩)] 141)) (some ⟨w.heap.size,0,none⟩) w.heap.size b o [2,7]):=fun w' hw _=>⟨_,rfl,Nat.le_refl _,by simp [hw],fun i hi=>by
   rcases (show i=0∨i=1 by simp at hi;omega) with rfl|rfl<;>(rw [←hw];simp)⟩
  clear yD
  rcases h35 with rfl|rfl
  all_goals
   go_enter Tryz.func80, Tryz.ntmps80
   go_wp2_with fail
   go_region
   go_wp2_with fail
   go_ret
   exact ⟨some ⟨w.heap.size,0,none⟩,by rw [fin.out];rfl,by rw [fin.out];exact P2.out _ rfl,(Kept.refl _ _).drew.alloc _⟩
 ·have fin:Hid (jH k=[]):=by unfold Hid jH;rw [if_neg yD,if_neg h35]
  have z1:(k==2)=false:=by simp;omega
  have z2:(k==4)=false:=by simp;omega
  have z3:(k==3)=false:=by simp;omega
  have z4:(k==5)=false:=by simp;omega
  clear yD h35
  go_enter Tryz.func80, Tryz.ntmps80
  go_wp2_with fail
  go_ret
  exact ⟨none,by rw [fin.out];rfl,by rw [fin.out];exact fun h=>by simp at h,Kept.refl _ _⟩
end Go.Proofs.YtodebjhalipefaaGreatDoor
