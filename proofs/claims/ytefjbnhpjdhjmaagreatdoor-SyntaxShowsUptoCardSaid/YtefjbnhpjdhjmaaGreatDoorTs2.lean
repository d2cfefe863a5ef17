/-  -/
import Derived.Test.YtefjbnhpjdhjmaaGreatDoorTs11
import Derived.Test.YtefjbnhpjdhjmaaGreatDoorTs20
import Derived.Test.YtefjbnhpjdhjmaaGreatDoorTs19
import Derived.Test.YtefjbnhpjdhjmaaGreatDoorTk3
import Derived.WalkLawsBesides
namespace Go.Proofs.YtefjbnhpjdhjmaaGreatDoor
set_option linter.all false
open Go.RowKit
def nP (s:aj):aA×Er:=match mV s with | .ok p=>(p,(0,0)) | .error er=>(.mk 0 E0 0 E0 [],er)
def adw (s:aj) (w:World) (e:Ending) (w':World):Prop:=Kept aC w w'∧∃v,e=.returned (.tuple #[v,zO (nP s).2])∧gJ w.heap.size (nP s).1 w' v
theorem acd {s:aj} {w w':World} {e:Ending} (h:xu s w e w'):adw s w e w':=by
 obtain ⟨k,h⟩:=h
 refine ⟨k,?_⟩
 unfold nP
 cases hr:mV s with
 | ok p=>rw [hr] at h;exact h
 | error er =>
  rw [hr] at h
  exact ⟨zeroV,h,aC,fun b hb=>hb.elim,none,0,rfl,⟨by show E0.size<_;decide,by show E0.size<_;decide,by show 0<_;decide⟩,by unfold aI;trivial⟩
theorem Yu (s:aj):sizeT (nP s).1≤200000:=by
 unfold nP mV
 by_cases hl:65536<s.size
 ·rw [if_pos hl];dsimp only;simp [sizeT,aS]
 ·rw [if_neg hl]
  cases ha:lS (eY s 200) s 0 with
  | error e=>dsimp only;simp [sizeT,aS]
  | ok y =>
   obtain ⟨p,k⟩:=y
   have:=(QU (by omega) ha).1
   dsimp only
   by_cases h1:0≤peek s (skip s k)
   ·rw [if_pos h1];dsimp only;simp [sizeT,aS]
   ·rw [if_neg h1]
    by_cases h2:fits p
    ·rw [if_pos h2];exact this
    ·rw [if_neg h2];dsimp only;simp [sizeT,aS]
end Go.Proofs.YtefjbnhpjdhjmaaGreatDoor

namespace Go.Proofs.YtefjbnhpjdhjmaaGreatDoor
set_option linter.all false
open Go.RowKit
abbrev cO (α:Type):=Except Er (α×List aF)
def fO (en:Nat):List aF→Nat
 | []=>en
 | t::_=>t.at_
def aJ (x:aj):List aF→Bool
 | []=>false
 | t::_=>decide (t.kind=5∧t.text=x)
def gI (x:aj) (en:Nat) (l:List aF):Except Er (List aF):=if aJ x l=true then .ok l.tail else .error (2,fO en l)
def gU (k:Int) (en:Nat):List aF→cO aF
 | []=>.error (2,en)
 | t::r=>if t.kind=k then .ok (t,r) else .error (2,t.at_)
def fP (en:Nat) (l:List aF):cO aj :=
 match gU 1 en l with
 | .error er=>.error er
 | .ok (t,r)=>if 16<t.text.size then .error (7,t.at_) else .ok (t.text,r)
def oZ (en:Nat) (l:List aF):cO aA :=
 match gU 4 en l with
 | .error er=>.error er
 | .ok (t,r)=>if (nP t.text).2.1≠0 then .error ((nP t.text).2.1,t.at_+1+(nP t.text).2.2) else .ok ((nP t.text).1,r)
def bs (l:List UInt8):aj:=⟨l.toArray⟩
def Bo (bU:Nat) (x:aj):Int :=
 if bU=1 then (if x=bs [38] then 8 else 0)
 else if bU=2 then (if x=bs [43] then 9 else if x=bs [45] then 10 else 0)
 else if x=bs [42] then 11 else if x=bs [47] then 12 else if x=bs [37] then 13 else 0
def node2 (k:Int) (x y:aA):aA:=.mk k E0 0 E0 [x,y]
def node1 (k:Int) (x:aA):aA:=.mk k E0 0 E0 [x]
def opAt (bU:Nat):List aF→Int
 | []=>0
 | t::_=>if t.kind=5 then Bo bU t.text else 0
def ou (bU:Nat) (sub:List aF→cO aA):Nat→aA→List aF→cO aA
 | 0,x,l=>.ok (x,l)
 | f+1,x,l =>
  if 0<opAt bU l then
   match sub l.tail with
   | .error er=>.error er
   | .ok (y,r)=>ou bU sub f (node2 (opAt bU l) x y) r
  else .ok (x,l)
def nG (bU:Nat) (sub:List aF→cO aA) (l:List aF):cO aA :=
 match sub l with
 | .error er=>.error er
 | .ok (x,r)=>ou bU sub r.length x r
def Gz (un:List aF→cO aA):List aF→cO aA:=nG 1 (nG 2 (nG 3 un))
def qX (l:List UInt8):Nat:=l.foldl (fun n c=>n*10+(c.toNat-48)) 0
def D8 (t:aF) (r:List aF):cO aA :=
 if 1<t.text.size∧t.text.data.toList.head?=some 48 then .error (2,t.at_)
 else if 9223372036854775807<qX t.text.data.toList then .error (3,t.at_)
 else .ok (.mk 2 E0 (qX t.text.data.toList) E0 [],r)
def mX (ex:List aF→cO aA) (en:Nat):Nat→List aA→List aF→cO (List aA)
 | 0,ks,l=>.ok (ks,l)
 | f+1,ks,l =>
  if ks.length=8 then .error (5,fO en l)
  else match ex l with
   | .error er=>.error er
   | .ok (x,r) =>
    if aJ (bs [41]) r=true then .ok (ks++[x],r.tail)
    else match gI (bs [44]) en r with
     | .error er=>.error er
     | .ok r2=>mX ex en f (ks++[x]) r2
def bP (ex pr:List aF→cO aA) (en:Nat) (l:List aF):cO aA :=
 if aJ (bs [40]) l=true then
  match ex l.tail with
  | .error er=>.error er
  | .ok (x,r)=>match gI (bs [41]) en r with
   | .error er=>.error er
   | .ok r2=>.ok (x,r2)
 else if aJ (bs [36]) l=true then
  match pr l.tail with
  | .error er=>.error er
  | .ok (x,r)=>.ok (node1 5 x,r)
 else match gU 3 en l with
  | .ok (t,r)=>.ok (.mk 1 t.text 0 E0 [],r)
  | .error _=>match gU 2 en l with
   | .ok (t,r)=>D8 t r
   | .error _=>match fP en l with
    | .error er=>.error er
    | .ok (nm,r) =>
     if aJ (bs [60]) r=true then
      match ex r.tail with
      | .error er=>.error er
      | .ok (x,r2)=>match gI (bs [62]) en r2 with
       | .error er=>.error er
       | .ok r3=>.ok (.mk 4 E0 0 nm [x],r3)
     else if aJ (bs [40]) r=true then
      if aJ (bs [41]) r.tail=true then .ok (.mk 6 E0 0 nm [],r.tail.tail)
      else match mX ex en 9 [] r.tail with
       | .error er=>.error er
       | .ok (ks,r2)=>.ok (.mk 6 E0 0 nm ks,r2)
     else .ok (.mk 3 E0 0 nm [],r)
def vC (un pr:List aF→cO aA) (l:List aF):cO aA :=
 if aJ (bs [45]) l=true then
  match un l.tail with
  | .error er=>.error er
  | .ok (x,r)=>.ok (node1 7 x,r)
 else pr l
def jK (en:Nat):Nat→(List aF→cO aA)×(List aF→cO aA)
 | 0=>(vC (fun l=>.error (4,fO en l)) (bP (fun l=>.error (4,fO en l)) (fun l=>.error (4,fO en l)) en),bP (fun l=>.error (4,fO en l)) (fun l=>.error (4,fO en l)) en)
 | d+1=>(vC (jK en d).1 (bP (Gz (jK en d).1) (jK en d).2 en),bP (Gz (jK en d).1) (jK en d).2 en)
def vZ (en:Nat):Nat→List aF→cO aA
 | 0,l=>.error (4,fO en l)
 | d+1,l=>Gz (jK en d).1 l
def namesT (close:Option aj) (en:Nat):Nat→List aj→List aF→cO (List aj)
 | 0,ns,l=>.ok (ns,l)
 | f+1,ns,l =>
  if ns.length=8 then .error (5,fO en l)
  else match fP en l with
   | .error er=>.error er
   | .ok (n,r) =>
    match close with
    | some c=>if aJ c r=true then .ok (ns++[n],r.tail) else
      match gI (bs [44]) en r with
      | .error er=>.error er
      | .ok r2=>namesT close en f (ns++[n]) r2
    | none=>if aJ (bs [44]) r=true then namesT close en f (ns++[n]) r.tail else .ok (ns++[n],r)
def rW:aA:=.mk 0 E0 0 E0 []
def st0:aN:=⟨E0,1,rW,rW,rW,E0,E0,[],[],E0,E0,E0⟩
def oM:aj:=bs [68,69,70,73,78,69]
def rC:aj:=bs [58,61]
def jg:List aF→Bool
 | _::t::_=>decide (t.kind=1)||decide (t.kind=5∧t.text=bs [44])
 | _=>false
def gQ (en:Nat) (s:aN) (l:List aF):cO aN :=
 match fP en l with
 | .error er=>.error er
 | .ok (nm,r)=>match gI (bs [40]) en r with
  | .error er=>.error er
  | .ok r1=>match (if aJ (bs [41]) r1=true then .ok ([],r1.tail) else namesT (some (bs [41])) en 9 [] r1) with
   | .error er=>.error er
   | .ok (ps,r2)=>match (if jg r2=true then namesT none en 9 [] r2 else .ok ([],r2)) with
    | .error er=>.error er
    | .ok (ls,r3)=>match fP en r3 with
     | .error er=>.error er
     | .ok (e,r4)=>.ok ({s with kind:=7,name:=nm,params:=ps,locals:=ls,entry:=e},r4)
def dZ:List aF→Bool
 | t::u::_=>decide (t.kind=1∧t.text=oM∧u.kind=1)
 | _=>false
def lU:List aF→Bool
 | t::u::_=>decide (t.kind=1∧u.kind=5∧u.text=rC)
 | _=>false
def yQ (en:Nat) (s:aN) (l:List aF):cO aN :=
 match fP en l with
 | .error er=>.error er
 | .ok (nm,r)=>match gI rC en r with
  | .error er=>.error er
  | .ok r1=>match oZ en r1 with
   | .error er=>.error er
   | .ok (p,r2)=>.ok ({s with kind:=6,name:=nm,pat:=p},r2)
def mJ (en at_:Nat) (s:aN) (x:aA) (k:Int) (l:List aF):cO aN :=
 if aJ (bs [61]) l=true then
  if ¬isTarget x then .error (8,at_)
  else match vZ en 400 l.tail with
   | .error er=>.error er
   | .ok (v,r)=>.ok ({s with kind:=k,target:=x,value:=v},r)
 else .ok (s,l)
def CG (en:Nat) (s:aN) (l:List aF):cO aN :=
 match vZ en 400 l with
 | .error er=>.error er
 | .ok (x,r) =>
  if aJ (bs [63]) r=true then
   match oZ en r.tail with
   | .error er=>.error er
   | .ok (p,r2)=>mJ en (fO en l) {s with kind:=4,value:=x,pat:=p} x 5 r2
  else mJ en (fO en l) {s with kind:=2,value:=x} x 3 r
def bodyT (en:Nat) (s:aN) (l:List aF):cO aN :=
 if dZ l=true then gQ en s l.tail
 else if lU l=true then yQ en s l
 else CG en s l
def gq (en:Nat) (l:List aF):cO aj :=
 match gI (bs [40]) en l with
 | .error er=>.error er
 | .ok r=>match fP en r with
  | .error er=>.error er
  | .ok (n,r1)=>match gI (bs [41]) en r1 with
   | .error er=>.error er
   | .ok r2=>.ok (n,r2)
def gW (en:Nat) (s:aN) (l:List aF):cO aN :=
 if aJ (bs [40]) l=true then
  match gq en l with
  | .error er=>.error er
  | .ok (n,r)=>.ok ({s with always:=n},r)
 else match gU 1 en l with
  | .error er=>.error er
  | .ok (t,r) =>
   if t.text=bs [83] then
    match gq en r with
    | .error er=>.error er
    | .ok (n,r1) =>
     if r1=[] then .ok ({s with yes:=n},r1)
     else match gU 1 en r1 with
      | .error er=>.error er
      | .ok (u,r2)=>if u.text=bs [70] then
        match gq en r2 with
        | .error er=>.error er
        | .ok (m,r3)=>.ok ({s with yes:=n,aZ:=m},r3)
       else .error (2,fO en r1)
   else if t.text=bs [70] then
    match gq en r with
    | .error er=>.error er
    | .ok (n,r1)=>if r1=[] then .ok ({s with aZ:=n},r1) else .error (2,fO en r1)
   else .error (2,fO en l)
mutual
def lT:aA→Nat
 | .mk _ _ _ _ l=>pV l+1
def pV:List aA→Nat
 | []=>0
 | p::r=>max (lT p) (pV r)
end
def xG (en:Nat) (s:aN) (l:List aF):Except Er aN :=
 match (if aJ (bs [58]) l=true then gW en s l.tail else .ok (s,l)) with
 | .error er=>.error er
 | .ok (s2,r)=>if r≠[] then .error (2,fO en r) else if 200<lT s2.target∨200<lT s2.value then .error (4,0) else .ok s2
def iR (en:Nat) (labelled:Bool) (l:List aF):Except Er aN :=
 match (if labelled=true then (match fP en l with | .error er=>.error er | .ok (n,r)=>.ok ({st0 with label:=n},r)) else (.ok (st0,l):cO aN)) with
 | .error er=>.error er
 | .ok (s1,r) =>
  match (if r≠[]∧aJ (bs [58]) r=false then bodyT en s1 r else .ok (s1,r)) with
  | .error er=>.error er
  | .ok (s2,r2)=>xG en s2 r2
def kP (s:aj):Except Er (Option aN) :=
 if peek s 0=42∧s.size≤2000 then .ok none
 else match nH s with
  | .error er=>.error er
  | .ok l=>match iR s.size (decide (s.size≠0∧peek s 0≠32∧peek s 0≠58)) l with
   | .error er=>.error er
   | .ok x=>.ok (some x)
end Go.Proofs.YtefjbnhpjdhjmaaGreatDoor

namespace Go.Proofs.YtefjbnhpjdhjmaaGreatDoor
set_option linter.all false
open Go.RowKit
set_option maxRecDepth 100000
set_option maxHeartbeats 1000000
theorem fC {a b:aj}:(a.toList==b.toList)=decide (a=b):=by
 rw [Bool.eq_iff_iff,decide_eq_true_eq,beq_iff_eq,ByteArray.toList_eq,ByteArray.toList_eq]
 constructor
 ·intro h
  obtain ⟨x⟩:=a;obtain ⟨y⟩:=b
  have:x=y:=by rw [←Array.toList_inj];exact h
  rw [this]
 ·rintro rfl;rfl
def rV (l:List aF):Prop:=∀t∈l,t.at_≤1000000∧t.text.size≤1000000∧(nP t.text).2.2≤1000000∧(t.kind=2→t.text.size≠0∧∀c∈t.text.data.toList,48≤c.toNat∧c.toNat≤57)∧(t.kind=1→t.text.size≠0)
def mg (w:World):Prop:=∃ev,w.cell? ⟨7,0,none⟩=some ev∧(ev=.nilIface∨∃te pe,ev=.iface te pe)
structure uX (N T en n:Nat) (a:Option Addr) (c:Nat) (l:List aF) (d:Nat) (w:World):Prop where
 blk:w.heap[N]?=some (.cells #[.slice a n c,.int .i64 en,.int .i64 d] 62 (0,0))
 num:n=l.length
 cap:n≤c
 toks:l≠[]→∃o,a=some ⟨T,o,none⟩∧∀j u,(oz l)[j]?=some u→w.cell? ⟨T,o+j,none⟩=some u
 ne:N≠T
 lt:T<w.heap.size
 small:c≤9223372036854775807
 good:rV l
 old:7<N
 rng:mg w
theorem uX.mF {N T en n c d:Nat} {a:Option Addr} {l:List aF} {w:World} (h:uX N T en n a c l d w):N<w.heap.size:=(Array.getElem?_eq_some_iff.1 h.blk).1
theorem uX.c0 {N T en n c d:Nat} {a:Option Addr} {l:List aF} {w:World} (h:uX N T en n a c l d w):w.cell? ⟨N,0,none⟩=some (.slice a n c)∧w.cell? ⟨N,1,none⟩=some (.int .i64 en)∧w.cell? ⟨N,2,none⟩=some (.int .i64 d)∧∀o,w.frozen? ⟨N,o,none⟩=false:=by
 refine ⟨?_,?_,?_,fun o=>by simp [World.frozen?,h.blk]⟩<;>(rw [cell_of_row w N _ _ _ _ h.blk];rfl)
theorem uX.kept {N T en n c d:Nat} {a:Option Addr} {l:List aF} {w w':World} {X:Nat→Prop} (h:uX N T en n a c l d w) (hk:Kept X w w') (hx:¬X N) (hy:¬X T) (hz:¬X 7:=by exact fun h=>h):uX N T en n a c l d w' :=
 ⟨by rw [hk.block N h.mF hx];exact h.blk,h.num,h.cap,fun hl=>by obtain ⟨o,e,hc⟩:=h.toks hl;exact ⟨o,e,fun j u hu=>(hk.cell h.lt hy).trans (hc j u hu)⟩,h.ne,Nat.lt_of_lt_of_le h.lt hk.size,h.small,h.good,h.old,by obtain ⟨ev,h1,h2⟩:=h.rng;exact ⟨ev,(hk.cell (Nat.lt_trans h.old h.mF) hz).trans h1,h2⟩⟩
theorem uX.head {N T en n c d:Nat} {a:Option Addr} {t:aF} {r:List aF} {w:World} (h:uX N T en n a c (t::r) d w):∃o,a=some ⟨T,o,none⟩∧w.cell? ⟨T,o,none⟩=some (.int .i64 t.kind)∧w.cell? ⟨T,o+1,none⟩=some (.string t.text)∧w.cell? ⟨T,o+2,none⟩=some (.int .i64 t.at_):=by
 obtain ⟨o,e,hc⟩:=h.toks (by simp)
 have e2:oz (t::r)=DV t++oz r:=by simp [oz]
 rw [e2] at hc
 exact ⟨o,e,hc 0 _ rfl,hc 1 _ rfl,hc 2 _ rfl⟩
theorem uX.rest {N T en n c d:Nat} {a:Option Addr} {t:aF} {r:List aF} {w:World} (h:uX N T en n a c (t::r) d w) :
  ∃n' a' c',Hid (n'=r.length)∧(∀wx,(Instr.slice 55 (.slice a n c) (some (.int .i64 1)) none none).run Tryz.prog wx=.ok (.slice a' n' c') wx)∧uX N T en n' a' c' r d (w.setCell ⟨N,0,none⟩ (.slice a' n' c')):=by
 obtain ⟨o,e,hc⟩:=h.toks (by simp)
 have hn:=h.num;have hcap:=h.cap
 rw [List.length_cons] at hn
 subst e
 have hne:=h.ne
 refine ⟨n-1,if c=1 then some ⟨T,o,none⟩ else some ⟨T,o+3,none⟩,c-1,by unfold Hid;omega,fun wx=>?_,?_⟩
 ·have hsz:(sizeOf 94).run Tryz.prog wx=.ok 3 wx:=by kernel_rfl
  have hle:(1:Int)≤(n:Int):=by omega
  unfold Instr.slice Instr.sliceBounds Instr.sliceBound
  simp only [Sem.run_bind,run_underlying Tryz.underlying55,Result.andThen_ok,Sem.run_pure,asIntOf]
  rw [if_pos ⟨by decide,by omega⟩]
  simp only [Sem.run_pure,Result.andThen_ok,hsz]
  by_cases hc1:c=1
  ·subst hc1;simp
  ·have hc2:¬c=Int.toNat 1:=by simpa using hc1
   rw [if_neg hc2,if_neg hc1]
   simp [Addr.add]
 ·have hk:Kept (· = N) w (w.setCell ⟨N,0,none⟩ (.slice (if c=1 then some ⟨T,o,none⟩ else some ⟨T,o+3,none⟩) (n-1) (c-1))):=(Kept.refl (· = N) w).setCell (p:=⟨N,0,none⟩) (.inl rfl) _
  refine ⟨?_,by omega,by omega,fun hr=>?_,hne,Nat.lt_of_lt_of_le h.lt hk.size,by have:=h.small;omega,fun u hu=>h.good u (List.mem_cons_of_mem _ hu),h.old,by obtain ⟨ev,h1,h2⟩:=h.rng;exact ⟨ev,(hk.cell (Nat.lt_trans h.old h.mF) (Nat.ne_of_lt h.old)).trans h1,h2⟩⟩
  ·rw [aK h.blk];rfl
  ·have hr0:0<r.length:=List.length_pos_iff.2 hr
   refine ⟨o+3,by rw [if_neg (by omega)],fun j u hu=>(hk.cell h.lt (fun e=>hne e.symm)).trans ?_⟩
   rw [show o+3+j=o+(3+j) by omega]
   refine hc _ _ ?_
   have e2:oz (t::r)=DV t++oz r:=by simp [oz]
   rw [e2,List.getElem?_append_right (by simp [DV])]
   simpa [DV] using hu
def dQ (er:Er):Value:=.iface 59 (.agg #[.int .i64 er.1,.int .i64 er.2])
def mG (er:Er) (e:Ending):Prop:=e=.panicked [{v:=dQ er,recovered:=false}]
theorem fG (a:Value) (er:Int) (i:Nat) (w:World):Calls Tryz.prog 53 #[a,.int .i64 er,.int .i64 i] w fun e w'=>mG (er,i) e∧w=w':=by
 go_enter Tryz.func53, Tryz.ntmps53
 go_wp2_with fail
 exact ⟨rfl,rfl,rfl⟩
theorem o8 {N T en n c d:Nat} {a:Option Addr} {l:List aF} {w:World} (h:uX N T en n a c l d w):Calls Tryz.prog 54 #[.pointer (some ⟨N,0,none⟩)] w (yx (fO en l) w):=by
 obtain ⟨c0,c1,c2,_⟩:=h.c0
 have hn:=h.num
 cases l with
 | nil =>
  have z:((n:Int)==0)=true:=by rw [hn];rfl
  clear hn
  go_enter Tryz.func54, Tryz.ntmps54
  go_wp2_with fail
  go_ret
  exact ⟨rfl,rfl⟩
 | cons t r =>
  rw [List.length_cons] at hn
  have z:((n:Int)==0)=false:=by simp;omega
  have h0:0<n:=by omega
  have h1:(0:Int)<(n:Int):=by omega
  obtain ⟨o,rfl,t0,t1,t2⟩:=h.head
  clear hn h
  go_enter Tryz.func54, Tryz.ntmps54
  go_wp2_with fail
  go_ret
  exact ⟨rfl,rfl⟩
theorem Ah {N T en n c d:Nat} {a:Option Addr} {l:List aF} {w:World} (x:aj) (h:uX N T en n a c l d w):Calls Tryz.prog 49 #[.pointer (some ⟨N,0,none⟩),.string x] w (MH (aJ x l) w):=by
 obtain ⟨c0,c1,c2,_⟩:=h.c0
 have hn:=h.num
 cases l with
 | nil =>
  have z:decide ((0:Int)<(n:Int))=false:=by rw [hn];rfl
  have z':decide (0<n)=false:=by rw [hn];rfl
  clear hn
  go_enter Tryz.func49, Tryz.ntmps49
  go_wp2_with fail
  go_ret
  exact ⟨rfl,rfl⟩
 | cons t r =>
  rw [List.length_cons] at hn
  have h0:0<n:=by omega
  have h1:(0:Int)<(n:Int):=by omega
  have z:decide ((0:Int)<(n:Int))=true:=ak h1
  have z':decide (0<n)=true:=ak h0
  obtain ⟨o,rfl,t0,t1,t2⟩:=h.head
  clear hn h
  by_cases hk:t.kind=5
  ·have y:(t.kind==5)=true:=by simpa using hk
   by_cases hx:t.text=x
   ·have y2:(t.text.toList==x.toList)=true:=by rw [fC];simpa using hx
    have fin:Hid (aJ x (t::r)=true):=ak ⟨hk,hx⟩
    clear hk hx
    go_enter Tryz.func49, Tryz.ntmps49
    go_wp2_with fail
    go_ret
    exact ⟨by rw [fin.out];rfl,rfl⟩
   ·have y2:(t.text.toList==x.toList)=false:=by rw [fC];simpa using hx
    have fin:Hid (aJ x (t::r)=false):=au (fun h=>hx h.2)
    clear hk hx
    go_enter Tryz.func49, Tryz.ntmps49
    go_wp2_with fail
    go_ret
    exact ⟨by rw [fin.out];rfl,rfl⟩
  ·have y:(t.kind==5)=false:=by simpa using hk
   have fin:Hid (aJ x (t::r)=false):=au (fun h=>hk h.1)
   clear hk
   go_enter Tryz.func49, Tryz.ntmps49
   go_wp2_with fail
   go_ret
   exact ⟨by rw [fin.out];rfl,rfl⟩
end Go.Proofs.YtefjbnhpjdhjmaaGreatDoor

namespace Go.Proofs.YtefjbnhpjdhjmaaGreatDoor
set_option linter.all false
open Go.RowKit
set_option maxRecDepth 100000
set_option maxHeartbeats 2000000
def fA (N T en:Nat) (l:List aF) (d:Nat) (w:World):Prop:=∃n a c,uX N T en n a c l d w
theorem fA.kept {N T en d:Nat} {l:List aF} {w w':World} {X:Nat→Prop} (h:fA N T en l d w) (hk:Kept X w w') (hx:¬X N) (hy:¬X T) (hz:¬X 7:=by exact fun h=>h):fA N T en l d w':=by
 obtain ⟨n,a,c,h⟩:=h;exact ⟨n,a,c,h.kept hk hx hy hz⟩
def BU (x:aj) (N T en:Nat) (l:List aF) (d:Nat) (w:World) (e:Ending) (w':World):Prop :=
 e=.returned (.bool (aJ x l))∧fA N T en (if aJ x l=true then l.tail else l) d w'∧Kept (· = N) w w'
theorem yZ {N T en d:Nat} {l:List aF} {w:World} (x:aj) (h:fA N T en l d w):Calls Tryz.prog 51 #[.pointer (some ⟨N,0,none⟩),.string x] w (BU x N T en l d w):=by
 obtain ⟨n,a,c,h⟩:=h
 have HS:=ah (Ah x h)
 cases hs:aJ x l with
 | false =>
  rw [hs] at HS
  have fin:Hid (BU x N T en l d w (.returned (.bool false)) w):=by unfold Hid BU;rw [hs];exact ⟨rfl,⟨n,a,c,h⟩,Kept.refl _ _⟩
  clear h hs
  go_enter Tryz.func51, Tryz.ntmps51
  go_wp2_with (go_at_call 49;(refine HS.out.mono ?_);rintro e w' ⟨rfl,aQ⟩;obtain rfl:=aQ.symm)
  go_ret
  exact fin.out
 | true =>
  rw [hs] at HS
  cases l with
  | nil=>cases hs
  | cons t r =>
   obtain ⟨c0,c1,c2,cf⟩:=h.c0
   obtain ⟨n',a',c',hn',hsl,hR⟩:=h.rest
   have hs1:=hsl w
   have ZF:=cf 0
   have fin:Hid (BU x N T en (t::r) d w (.returned (.bool true)) (w.setCell ⟨N,0,none⟩ (.slice a' n' c'))):=by unfold Hid BU;rw [hs];exact ⟨rfl,⟨_,_,_,hR⟩,(Kept.refl (· = N) w).setCell (p:=⟨N,0,none⟩) (.inl rfl) _⟩
   clear h hs hsl hR cf
   go_enter Tryz.func51, Tryz.ntmps51
   go_wp2_with (go_at_call 49;(refine HS.out.mono ?_);rintro e w' ⟨rfl,aQ⟩;obtain rfl:=aQ.symm)
   go_ret
   exact fin.out
def ug (x:aj) (N T en:Nat) (l:List aF) (d:Nat) (w:World) (e:Ending) (w':World):Prop :=
 Kept (· = N) w w'∧match gI x en l with
  | .ok r=>e=.returned (.tuple #[])∧fA N T en r d w'
  | .error er=>mG er e
theorem lX {N T en d:Nat} {l:List aF} {w:World} (x:aj) (h:fA N T en l d w):Calls Tryz.prog 79 #[.pointer (some ⟨N,0,none⟩),.string x] w (ug x N T en l d w):=by
 have HS:=ah (yZ x h)
 unfold BU at HS
 cases hs:aJ x l with
 | true =>
  rw [hs] at HS
  have e2:Hid (gI x en l=.ok l.tail):=by unfold Hid gI;rw [if_pos hs]
  clear h hs
  go_enter Tryz.func79, Tryz.ntmps79
  go_wp2_with (go_at_call 51;(refine HS.out.mono ?_);rintro e w1 ⟨rfl,gK,eF⟩;have R1:=ah gK;have K1:=ah eF;clear gK eF)
  first|go_end0|(refine bodyPost_ret (results_none rfl _ _ _) rfl ?_)
  refine ⟨K1.out,?_⟩
  rw [e2.out]
  exact ⟨rfl,R1.out⟩
 | false =>
  rw [hs] at HS
  have e2:Hid (gI x en l=.error (2,fO en l)):=by unfold Hid gI;rw [if_neg (by simp [hs])]
  clear h hs
  go_enter Tryz.func79, Tryz.ntmps79
  go_wp2_with (first
   | (go_at_call 51;(refine HS.out.mono ?_);rintro e w1 ⟨rfl,gK,eF⟩;obtain ⟨n1,a1,c1,gK⟩:=gK;have R1:=ah gK;have K1:=ah eF;clear gK eF)
   | (go_at_call 54;(refine (o8 R1.out).mono ?_);rintro e w' ⟨rfl,aQ⟩;obtain rfl:=aQ.symm)
   | (go_at_call 53;(refine (fG _ 2 (fO en l) w1).mono ?_);rintro e w2 ⟨rfl,rfl⟩))
  refine ⟨rfl,K1.out,?_⟩
  rw [e2.out]
  exact rfl
def DW (t:aF):Value:=.agg #[.int .i64 t.kind,.string t.text,.int .i64 t.at_]
def BZ (w:World) (M:Nat) (c0 c1 c2:Value):World:=((w.setCell ⟨M,0,none⟩ c0).setCell ⟨M,1,none⟩ c1).setCell ⟨M,2,none⟩ c2
theorem qI.BZ {M:Nat} {t:aF} {w:World} (h:qI M t w) (t2:aF):qI M t2 (BZ w M (.int .i64 t2.kind) (.string t2.text) (.int .i64 t2.at_)):=by
 unfold qI at *
 simp [Go.Proofs.YtefjbnhpjdhjmaaGreatDoor.BZ,World.setCell,Array.getElem?_modify,h]
theorem Kept.BZ {X:Nat→Prop} {a w:World} (h:Kept X a w) {M:Nat} (hM:X M∨a.heap.size≤M) (c0 c1 c2:Value):Kept X a (BZ w M c0 c1 c2) :=
 ((h.setCell (p:=⟨M,0,none⟩) hM _).setCell (p:=⟨M,1,none⟩) hM _).setCell (p:=⟨M,2,none⟩) hM _
theorem Yl {f:Func} {tmps:Array Value} {M:Nat} {t:aF} {w2:World} {Q:Ending→World→Prop} (hres:f.results = #[.cell 4 94]) (ht:tmps.getD 4 undef=.pointer (some ⟨M,0,none⟩)) (hF:qI M t w2)
  (hq:Q (.returned (DW t)) w2):bodyPost Tryz.prog f Q .ret ⟨tmps,[]⟩ w2:=by
 obtain ⟨h0,h1,h2,_⟩:=hF.cells
 have ht':tmps[4]?.getD undef=.pointer (some ⟨M,0,none⟩):=by rw [←ht,Array.getD_eq_getD_getElem?]
 exact bodyPost_ret (v:=DW t) (by simp [results,hres,go_sem,ht',h0,h1,h2,DW]) rfl hq
def vU (k:Int) (N T en:Nat) (l:List aF) (d:Nat) (w:World) (e:Ending) (w':World):Prop :=
 Kept (· = N) w w'∧match gU k en l with
  | .ok (t,r)=>e=.returned (DW t)∧fA N T en r d w'
  | .error er=>mG er e
theorem uY {N T en d:Nat} {l:List aF} {w:World} (k:Int) (h:fA N T en l d w):Calls Tryz.prog 77 #[.pointer (some ⟨N,0,none⟩),.int .i64 k] w (vU k N T en l d w):=by
 obtain ⟨n,a,c,h⟩:=h
 have hN:=h.mF;have hT:=h.lt;have hne:=h.ne;have h7:=h.old
 obtain ⟨w0,hw0⟩:∃w0,w0=w.alloc (.cells #[.int .i64 0,.string ⟨#[]⟩,.int .i64 0] 94):=⟨_,rfl⟩
 have k0:Kept aC w w0:=by rw [hw0];exact (Kept.refl _ _).alloc _
 have Z0:Hid (qI w.heap.size ⟨0,⟨#[]⟩,0⟩ w0):=by rw [hw0];exact ay w _
 have P0:=h.kept k0 (fun h=>h) (fun h=>h)
 have K0:=ah k0;have HW0:=ah hw0
 obtain ⟨c0,c1,c2,cf⟩:=P0.c0
 have hn:=P0.num
 have HA:=ah (o8 P0)
 clear h k0 hw0
 cases l with
 | nil =>
  have z:((n:Int)==0)=true:=by rw [hn];rfl
  clear hn cf P0
  go_enter Tryz.func77, Tryz.ntmps77
  go_upto_region 1 with fail
  rw [←HW0.out]
  go_wp2_with (first
   | (go_at_call 54;(refine HA.out.mono ?_);rintro e w' ⟨rfl,aQ⟩;obtain rfl:=aQ.symm)
   | (go_at_call 53;(refine (fG _ 2 (fO en []) w0).mono ?_);rintro e w2 ⟨rfl,rfl⟩))
  exact ⟨rfl,K0.out.more (fun _ h=>h.elim),rfl⟩
 | cons t r =>
  rw [List.length_cons] at hn
  have h0:0<n:=by omega
  have h1:(0:Int)<(n:Int):=by omega
  have z:((n:Int)==0)=false:=by simp;omega
  obtain ⟨o,rfl,t0,t1,t2⟩:=P0.head
  by_cases hk:t.kind=k
  ·have y:(t.kind != k)=false:=by simpa using hk
   have fin:Hid (gU k en (t::r)=.ok (t,r)):=by unfold Hid;show (if t.kind=k then Except.ok (t,r) else Except.error (2,t.at_))=_;rw [if_pos hk]
   obtain ⟨w1,hw1⟩:∃w1,w1=w0.alloc (.cells #[.int .i64 t.kind,.string t.text,.int .i64 t.at_] 94):=⟨_,rfl⟩
   have k1:Kept aC w0 w1:=by rw [hw1];exact (Kept.refl _ _).alloc _
   have T1:Hid (qI w0.heap.size t w1):=by rw [hw1];exact ay w0 _
   have P1:=P0.kept k1 (fun h=>h) (fun h=>h)
   obtain ⟨q0,q1,q2,qf⟩:=P1.c0
   obtain ⟨n',a',c',hn',hsl,hR⟩:=P1.rest
   have hs1:=hsl w1
   have qg:=qf 0
   have kN:Kept (· = N) w1 (w1.setCell ⟨N,0,none⟩ (.slice a' n' c')):=(Kept.refl (· = N) w1).setCell (p:=⟨N,0,none⟩) (.inl rfl) _
   obtain ⟨w2,hw2⟩:∃w2,w2=w1.setCell ⟨N,0,none⟩ (.slice a' n' c'):=⟨_,rfl⟩
   rw [←hw2] at hR kN
   have hz0:w0.heap.size=w.heap.size+1:=by rw [HW0.out];simp
   have T2:=ah (T1.out.kept kN (by omega));have Z2:=ah ((Z0.out.kept k1 (fun h=>h)).kept kN (by omega))
   have HR2:=ah hR;have KN:=ah kN;have K1:=ah k1
   have HW1:=ah hw1;have HW2:=ah hw2;have HZ0:=ah hz0
   obtain ⟨M5,qh⟩:∃M,M=w0.heap.size:=⟨_,rfl⟩
   obtain ⟨M4,DX⟩:∃M,M=w.heap.size:=⟨_,rfl⟩
   rw [←qh] at T1 T2
   rw [←DX] at Z0 Z2
   have HM5:=ah qh;have vV:=ah DX
   clear hn hk hw1 hw2 hR kN k1 hsl qf P0 P1 hz0 qh DX
   go_enter Tryz.func77, Tryz.ntmps77
   go_upto_region 1 with fail
   rw [←HW0.out,←vV.out]
   go_upto_region 4 with fail
   rw [←HW1.out,←HM5.out]
   go_upto_region 5 with fail
   rw [←HW2.out]
   obtain ⟨u0,u1,u2,_⟩:=T2.out.cells
   obtain ⟨z0,z1,z2,zf⟩:=Z2.out.cells
   have xW:=zf 0;have xX:=zf 1;have xY:=zf 2
   clear zf
   go_wp2_with fail
   refine Yl rfl rfl (Z2.out.BZ t) ⟨?_,?_⟩
   ·exact (((K0.out.trans K1.out).more (fun _ h=>h.elim)).trans KN.out).BZ (.inr (Nat.le_of_eq vV.out.symm)) _ _ _
   ·rw [fin.out]
    have k3:Kept (· = M4) w2 (Go.Proofs.YtefjbnhpjdhjmaaGreatDoor.BZ w2 M4 (.int .i64 t.kind) (.string t.text) (.int .i64 t.at_)):=(Kept.refl (· = M4) w2).BZ (.inl rfl) _ _ _
    exact ⟨rfl,_,_,_,HR2.out.kept k3 (by have:=vV.out;omega) (by have:=vV.out;omega) (by have:=vV.out;omega)⟩
  ·have y:(t.kind != k)=true:=by simpa using hk
   have fin:Hid (gU k en (t::r)=.error (2,t.at_)):=by unfold Hid;show (if t.kind=k then Except.ok (t,r) else Except.error (2,t.at_))=_;rw [if_neg hk]
   clear hn hk cf P0
   go_enter Tryz.func77, Tryz.ntmps77
   go_upto_region 1 with fail
   rw [←HW0.out]
   go_wp2_with (first
    | (go_at_call 54;(refine HA.out.mono ?_);rintro e w' ⟨rfl,aQ⟩;obtain rfl:=aQ.symm)
    | (go_at_call 53;(refine (fG _ 2 (fO en (t::r)) w0).mono ?_);rintro e w2 ⟨rfl,rfl⟩))
   refine ⟨rfl,K0.out.more (fun _ h=>h.elim),?_⟩
   rw [fin.out]
   exact rfl
end Go.Proofs.YtefjbnhpjdhjmaaGreatDoor
