/-  -/
import Derived.Test.YtgoijmpahffnhaaGreatDoorLq2
import Derived.Test.YtgoijmpahffnhaaGreatDoorLq3
import Derived.Deep.RegionWith
import Derived.Test.YtgoijmpahffnhaaGreatDoorWin
import Derived.BigQuiet
import Derived.Test.YtgoijmpahffnhaaGreatDoorOrd
import Derived.Test.YtgoijmpahffnhaaGreatDoorShelf
import Derived.Test.YtgoijmpahffnhaaGreatDoorBase
import Derived.WalkSmall
import Derived.Lib.LaidTab
import Derived.WalkLawsBesides
import Derived.Lib.ItoaNum
import Derived.Lib.Replace
import Derived.Lib.SplitLaws
import Derived.Deep.QuietTactic
import Derived.Deep.LoopGhost
import Derived.Shelf.Strings.BuilderK
namespace Go.Proofs.YtgoijmpahffnhaaGreatDoor
set_option linter.all false
open Go.RowKit
def jm (k:Int):Int:=if k=4∨k=5∨k=7 then 1 else if 8≤k∧k≤13 then 2 else 0
def U2 (k:Int) (t:aj) (n:Int) (nm:aj) (len:Nat):Int :=
 if k<1∨13<k then 1
 else if k=1∧65536<t.size then 4
 else if k=2∧n<0 then 3
 else if (k=3∨k=4∨k=6)∧fV nm=false then 7
 else if (k=6∧8<len)∨(k≠6∧(len:Int)≠jm k) then 5 else 0
mutual
def jC:aB→Int
 | .mk k t n nm kids=>if U2 k t n nm kids.length=0 then qV kids else U2 k t n nm kids.length
def qV:List aB→Int
 | []=>0
 | p::r=>if jC p=0 then qV r else jC p
end
theorem QM (l:List aB) (j:Nat) (h:j<l.length):qV (l.drop j)=if jC l[j]=0 then qV (l.drop (j+1)) else jC l[j]:=by
 rw [List.drop_eq_getElem_cons h,qV]
def aW (p:aB):Int:=if fits p then jC p else 4
end Go.Proofs.YtgoijmpahffnhaaGreatDoor

namespace Go.Proofs.YtgoijmpahffnhaaGreatDoor
set_option linter.all false
open Go.RowKit
structure aF where
 label:aj
 kind:Int
 target:aB
 value:aB
 pat:aB
 name:aj
 entry:aj
 params:List aj
 locals:List aj
 always:aj
 yes:aj
 bW:aj
structure gZ where
 ta:Option Addr
 tc:Nat
 va:Option Addr
 vc:Nat
 pa:Option Addr
 pc:Nat
 ma:Option Addr
 mc:Nat
 la:Option Addr
 lc:Nat
def aQ (w:World) (S:Nat→Prop) (a:Option Addr) (l:List aj):Prop :=
 0<l.length→∃b o,a=some ⟨b,o,none⟩∧S b∧∀i (h:i<l.length),w.cell? ⟨b,o+i,none⟩=some (.string l[i])
theorem aQ.to {w w':World} {S S':Nat→Prop} {X:Nat→Prop} {a:Option Addr} {l:List aj} (h:aQ w S a l) (hk:Kept X w w') (hs:Safe S X w.heap.size) (h':∀b,S b→S' b):aQ w' S' a l:=by
 intro h0
 obtain ⟨b,o,rfl,hb,hc⟩:=h h0
 exact ⟨b,o,rfl,h' b hb,fun i hi=>(hk.cell (hs b hb).1 (hs b hb).2).trans (hc i hi)⟩
def dO (a:gZ) (s:aF):Value :=
 .agg #[.string s.label,.int .i64 s.kind,
  .int .i64 s.target.kind,.string s.target.text,.int .i64 s.target.n,.string s.target.name,.slice a.ta s.target.kids.length a.tc,
  .int .i64 s.value.kind,.string s.value.text,.int .i64 s.value.n,.string s.value.name,.slice a.va s.value.kids.length a.vc,
  .int .i64 s.pat.kind,.string s.pat.text,.int .i64 s.pat.n,.string s.pat.name,.slice a.pa s.pat.kids.length a.pc,
  .string s.name,.string s.entry,.slice a.ma s.params.length a.mc,.slice a.la s.locals.length a.lc,.string s.always,.string s.yes,.string s.bW]
def bQ (a:gZ) (s:aF):List Value :=
 [.string s.label,.int .i64 s.kind,
  .int .i64 s.target.kind,.string s.target.text,.int .i64 s.target.n,.string s.target.name,.slice a.ta s.target.kids.length a.tc,
  .int .i64 s.value.kind,.string s.value.text,.int .i64 s.value.n,.string s.value.name,.slice a.va s.value.kids.length a.vc,
  .int .i64 s.pat.kind,.string s.pat.text,.int .i64 s.pat.n,.string s.pat.name,.slice a.pa s.pat.kids.length a.pc,
  .string s.name,.string s.entry,.slice a.ma s.params.length a.mc,.slice a.la s.locals.length a.lc,.string s.always,.string s.yes,.string s.bW]
def bV (N:Nat) (a:gZ) (s:aF) (w:World):Prop:=w.heap[N]?=some (.cells #[.string s.label,.int .i64 s.kind,
  .int .i64 s.target.kind,.string s.target.text,.int .i64 s.target.n,.string s.target.name,.slice a.ta s.target.kids.length a.tc,
  .int .i64 s.value.kind,.string s.value.text,.int .i64 s.value.n,.string s.value.name,.slice a.va s.value.kids.length a.vc,
  .int .i64 s.pat.kind,.string s.pat.text,.int .i64 s.pat.n,.string s.pat.name,.slice a.pa s.pat.kids.length a.pc,
  .string s.name,.string s.entry,.slice a.ma s.params.length a.mc,.slice a.la s.locals.length a.lc,.string s.always,.string s.yes,.string s.bW] 59 (0,0))
theorem bV.new (w:World) (a:gZ) (s:aF):bV w.heap.size a s (w.alloc (.cells #[.string s.label,.int .i64 s.kind,
  .int .i64 s.target.kind,.string s.target.text,.int .i64 s.target.n,.string s.target.name,.slice a.ta s.target.kids.length a.tc,
  .int .i64 s.value.kind,.string s.value.text,.int .i64 s.value.n,.string s.value.name,.slice a.va s.value.kids.length a.vc,
  .int .i64 s.pat.kind,.string s.pat.text,.int .i64 s.pat.n,.string s.pat.name,.slice a.pa s.pat.kids.length a.pc,
  .string s.name,.string s.entry,.slice a.ma s.params.length a.mc,.slice a.la s.locals.length a.lc,.string s.always,.string s.yes,.string s.bW] 59)):=ay w _
theorem bV.lt {N:Nat} {a:gZ} {s:aF} {w:World} (h:bV N a s w):N<w.heap.size:=(Array.getElem?_eq_some_iff.1 h).1
theorem bV.kept {N:Nat} {a:gZ} {s:aF} {w w':World} {X:Nat→Prop} (h:bV N a s w) (hk:Kept X w w') (hx:¬X N):bV N a s w':=by
 unfold bV;rw [hk.block N h.lt hx];exact h
theorem bV.cells {N:Nat} {a:gZ} {s:aF} {w:World} (h:bV N a s w):w.cell? ⟨N,0,none⟩=some (.string s.label)∧
  w.cell? ⟨N,1,none⟩=some (.int .i64 s.kind)∧
  w.cell? ⟨N,2,none⟩=some (.int .i64 s.target.kind)∧
  w.cell? ⟨N,3,none⟩=some (.string s.target.text)∧
  w.cell? ⟨N,4,none⟩=some (.int .i64 s.target.n)∧
  w.cell? ⟨N,5,none⟩=some (.string s.target.name)∧
  w.cell? ⟨N,6,none⟩=some (.slice a.ta s.target.kids.length a.tc)∧
  w.cell? ⟨N,7,none⟩=some (.int .i64 s.value.kind)∧
  w.cell? ⟨N,8,none⟩=some (.string s.value.text)∧
  w.cell? ⟨N,9,none⟩=some (.int .i64 s.value.n)∧
  w.cell? ⟨N,10,none⟩=some (.string s.value.name)∧
  w.cell? ⟨N,11,none⟩=some (.slice a.va s.value.kids.length a.vc)∧
  w.cell? ⟨N,12,none⟩=some (.int .i64 s.pat.kind)∧
  w.cell? ⟨N,13,none⟩=some (.string s.pat.text)∧
  w.cell? ⟨N,14,none⟩=some (.int .i64 s.pat.n)∧
  w.cell? ⟨N,15,none⟩=some (.string s.pat.name)∧
  w.cell? ⟨N,16,none⟩=some (.slice a.pa s.pat.kids.length a.pc)∧
  w.cell? ⟨N,17,none⟩=some (.string s.name)∧
  w.cell? ⟨N,18,none⟩=some (.string s.entry)∧
  w.cell? ⟨N,19,none⟩=some (.slice a.ma s.params.length a.mc)∧
  w.cell? ⟨N,20,none⟩=some (.slice a.la s.locals.length a.lc)∧
  w.cell? ⟨N,21,none⟩=some (.string s.always)∧
  w.cell? ⟨N,22,none⟩=some (.string s.yes)∧
  w.cell? ⟨N,23,none⟩=some (.string s.bW):=by
 unfold bV at h
 refine ⟨?_,?_,?_,?_,?_,?_,?_,?_,?_,?_,?_,?_,?_,?_,?_,?_,?_,?_,?_,?_,?_,?_,?_,?_⟩<;>(rw [cell_of_row w N _ _ _ _ h];rfl)
structure Nh (p:aB):Prop where
 z:p.text.size<1000000000∧p.name.size<1000000000∧p.kids.length<1000000000
 t:sizeT p≤1048576
structure qM (s:aF):Prop where
 label:s.label.size<1000000000
 target:Nh s.target
 value:Nh s.value
 pat:Nh s.pat
 name:s.name.size<1000000000
 entry:s.entry.size<1000000000
 params:s.params.length<1000000000∧∀x∈s.params,x.size<1000000000
 locals:s.locals.length<1000000000∧∀x∈s.locals,x.size<1000000000
 always:s.always.size<1000000000
 yes:s.yes.size<1000000000
 bW:s.bW.size<1000000000
structure wQ (w:World) (S:Nat→Prop) (a:gZ) (s:aF):Prop where
 target:aN w S a.ta s.target.kids
 value:aN w S a.va s.value.kids
 pat:aN w S a.pa s.pat.kids
 params:aQ w S a.ma s.params
 locals:aQ w S a.la s.locals
theorem wQ.to {w w':World} {S S':Nat→Prop} {X:Nat→Prop} {a:gZ} {s:aF} (h:wQ w S a s) (hk:Kept X w w') (hs:Safe S X w.heap.size) (h':∀b,S b→S' b):wQ w' S' a s :=
 ⟨h.target.to hk hs h',h.value.to hk hs h',h.pat.to hk hs h',h.params.to hk hs h',h.locals.to hk hs h'⟩
def StV (w:World) (S:Nat→Prop) (v:Value) (s:aF):Prop:=∃a,v=dO a s∧qM s∧wQ w S a s
def AL (w:World) (S:Nat→Prop) (b o:Nat) (s:aF):Prop :=
 ∃a,S b∧qM s∧(∀i (h:i<24),w.cell? ⟨b,o+i,none⟩=some ((bQ a s)[i]'(by simpa [bQ] using h)))∧wQ w S a s
theorem AL.to {w w':World} {S S':Nat→Prop} {X:Nat→Prop} {b o:Nat} {s:aF} (h:AL w S b o s) (hk:Kept X w w') (hs:Safe S X w.heap.size) (h':∀b,S b→S' b):AL w' S' b o s:=by
 obtain ⟨a,hb,hz,hc,ho⟩:=h
 exact ⟨a,h' b hb,hz,fun i hi=>(hk.cell (hs b hb).1 (hs b hb).2).trans (hc i hi),ho.to hk hs h'⟩
def oh (w:World) (S:Nat→Prop) (a:Option Addr) (l:List aF):Prop:=0<l.length→∃b o,a=some ⟨b,o,none⟩∧∀i (h:i<l.length),AL w S b (o+i*24) l[i]
theorem oh.to {w w':World} {S S':Nat→Prop} {X:Nat→Prop} {a:Option Addr} {l:List aF} (h:oh w S a l) (hk:Kept X w w') (hs:Safe S X w.heap.size) (h':∀b,S b→S' b):oh w' S' a l:=by
 intro h0
 obtain ⟨b,o,rfl,hc⟩:=h h0
 exact ⟨b,o,rfl,fun i hi=>(hc i hi).to hk hs h'⟩
def aJ:List aj→Int
 | []=>0
 | x::r=>if fV x=true then aJ r else 7
def isTarget (p:aB):Prop:=p.kind=3∨p.kind=4∨p.kind=5
instance (p:aB):Decidable (isTarget p):=by unfold isTarget;exact inferInstance
def dL:List Int→Int
 | []=>0
 | e::r=>if e=0 then dL r else e
def vP (s:aj):Bool:=decide (s.size=0)||fV s
def jO (s:aF):Int :=
 if ¬(vP s.label=true∧vP s.always=true∧vP s.yes=true∧vP s.bW=true) then 7
 else if s.always.size≠0∧(s.yes.size≠0∨s.bW.size≠0) then 8
 else if s.kind=1 then 0
 else if s.kind=2 then aW s.value
 else if s.kind=4 then dL [aW s.value,bM s.pat]
 else if s.kind=3 then dL [aW s.target,if isTarget s.target then 0 else 8,aW s.value]
 else if s.kind=5 then dL [aW s.target,if isTarget s.target then 0 else 8,bM s.pat,aW s.value]
 else if s.kind=6 then dL [aJ [s.name],bM s.pat]
 else if s.kind=7 then dL [aJ [s.name],aJ s.params,aJ s.locals,aJ [s.entry],if 8<s.params.length∨8<s.locals.length then 5 else 0]
 else 1
end Go.Proofs.YtgoijmpahffnhaaGreatDoor

namespace Go.Proofs.YtgoijmpahffnhaaGreatDoor
set_option linter.all false
open Go.RowKit
set_option maxRecDepth 100000
set_option maxHeartbeats 1000000
def gu (k:Int) (t:aj) (n:Int) (nm:aj):Int :=
 if k<1∨13<k then 1
 else if k=1∧65536<t.size then 4
 else if k=2∧n<0 then 3
 else if (k=3∨k=4∨k=6)∧fV nm=false then 7 else 0
theorem Jw (k:Int) (t:aj) (n:Int) (nm:aj) (len:Nat):U2 k t n nm len=if gu k t n nm=0 then (if (k=6∧8<len)∨(k≠6∧(len:Int)≠jm k) then 5 else 0) else gu k t n nm:=by
 unfold U2 gu
 split
 ·simp
 ·split
  ·simp
  ·split
   ·simp
   ·split<;>simp
theorem xE {k:Int} {t:aj} {n:Int} {nm:aj} {kids:List aB} {e:Int} (h:gu k t n nm=e) (he:e≠0):jC (.mk k t n nm kids)=e:=by
 rw [jC,Jw,h,if_neg he,if_neg he]
theorem U3 {k:Int} {t:aj} {n:Int} {nm:aj} {kids:List aB} (h:gu k t n nm=0) (hc:(k=6∧8<kids.length)∨(k≠6∧(kids.length:Int)≠jm k)):jC (.mk k t n nm kids)=5:=by
 rw [jC,Jw,if_pos h,if_pos hc];rfl
theorem U4 {k:Int} {t:aj} {n:Int} {nm:aj} {kids:List aB} (h:gu k t n nm=0) (hc:¬((k=6∧8<kids.length)∨(k≠6∧(kids.length:Int)≠jm k))):jC (.mk k t n nm kids)=qV kids:=by
 rw [jC,Jw,if_pos h,if_neg hc];rfl
section
variable {k n:Int} {t nm:aj}
theorem aef (h:k<1∨13<k):gu k t n nm=1:=by unfold gu;rw [if_pos h]
theorem aeg (h:k=1) (hs:65536<t.size):gu k t n nm=4:=by unfold gu;rw [if_neg (by omega),if_pos ⟨h,hs⟩]
theorem afD (h:k=2) (hs:n<0):gu k t n nm=3:=by unfold gu;rw [if_neg (by omega),if_neg (by omega),if_pos ⟨h,hs⟩]
theorem aeh (h:k=3∨k=4∨k=6) (hs:fV nm=false):gu k t n nm=7:=by unfold gu;rw [if_neg (by omega),if_neg (by omega),if_neg (by omega),if_pos ⟨h,hs⟩]
theorem aei (h:k=1) (hs:¬65536<t.size):gu k t n nm=0:=by unfold gu;rw [if_neg (by omega),if_neg (by omega),if_neg (by omega),if_neg (by omega)]
theorem afE (h:k=2) (hs:¬n<0):gu k t n nm=0:=by unfold gu;rw [if_neg (by omega),if_neg (by omega),if_neg (by omega),if_neg (by omega)]
theorem Jy (h:k=3∨k=4∨k=6) (hs:fV nm=true):gu k t n nm=0:=by unfold gu;rw [if_neg (by omega),if_neg (by omega),if_neg (by omega),if_neg (by simp [hs])]
theorem Ny (h:k=5∨(7≤k∧k≤13)):gu k t n nm=0:=by unfold gu;rw [if_neg (by omega),if_neg (by omega),if_neg (by omega),if_neg (by omega)]
theorem afF (h:(k==1)=true) (hs:(t.size:Int)≤65536):Value.int .i64 0=Value.int .i64 (jm k)∧gu k t n nm=0:=by
 obtain rfl:k=1:=by simpa using h
 exact ⟨rfl,aei rfl (by omega)⟩
theorem m_num (h:(k==2)=true) (hs:0≤n):Value.int .i64 0=Value.int .i64 (jm k)∧gu k t n nm=0:=by
 obtain rfl:k=2:=by simpa using h
 exact ⟨rfl,afE rfl (by omega)⟩
theorem m_3 (h:(k==3)=true) (hs:(!fV nm)=false):Value.int .i64 0=Value.int .i64 (jm k)∧gu k t n nm=0:=by
 obtain rfl:k=3:=by simpa using h
 exact ⟨rfl,Jy (.inl rfl) (by simpa using hs)⟩
theorem m_4 (h:(k==4)=true) (hs:(!fV nm)=false):Value.int .i64 1=Value.int .i64 (jm k)∧gu k t n nm=0:=by
 obtain rfl:k=4:=by simpa using h
 exact ⟨rfl,Jy (.inr (.inl rfl)) (by simpa using hs)⟩
theorem m_6 (h:(k==6)=true) (hs:(!fV nm)=false):Value.int .i64 0=Value.int .i64 (jm k)∧gu k t n nm=0:=by
 obtain rfl:k=6:=by simpa using h
 exact ⟨rfl,Jy (.inr (.inr rfl)) (by simpa using hs)⟩
theorem adt (h:(k==5)=true∨(k==7)=true):Value.int .i64 1=Value.int .i64 (jm k)∧gu k t n nm=0:=by
 simp only [beq_iff_eq] at h
 rcases h with rfl|rfl<;>exact ⟨rfl,Ny (by omega)⟩
theorem EH (h:(k==8)=true∨(k==9)=true∨(k==10)=true∨(k==11)=true∨(k==12)=true∨(k==13)=true):Value.int .i64 2=Value.int .i64 (jm k)∧gu k t n nm=0:=by
 simp only [beq_iff_eq] at h
 rcases h with rfl|rfl|rfl|rfl|rfl|rfl<;>exact ⟨rfl,Ny (by omega)⟩
theorem afG (kids:List aB) (h:(k==1)=true) (hs:65536<(t.size:Int)):4=jC (.mk k t n nm kids):=(xE (aeg (by simpa using h) (by omega)) (by decide)).symm
theorem ahZ (kids:List aB) (h:(k==2)=true) (hs:n<0):3=jC (.mk k t n nm kids):=(xE (afD (by simpa using h) hs) (by decide)).symm
theorem Nz (kids:List aB) (h:(k==3)=true∨(k==4)=true∨(k==6)=true) (hs:(!fV nm)=true):7=jC (.mk k t n nm kids):=by
 simp only [beq_iff_eq] at h
 exact (xE (aeh h (by simpa using hs)) (by decide)).symm
end
theorem XP:∀(m:Nat) (p:aB) (b o:Nat) (S:Nat→Prop) (w:World),sizeT p≤m→aX w S b o p→
  Calls Tryz.prog 132 #[.pointer (some ⟨b,o,none⟩)] w fun e w'=>e=.returned (.int .i64 (jC p))∧w=w':=by
 intro m
 induction m with
 | zero=>intro p b o S w hm;have:=Dh p;omega
 | succ m ih =>
 intro p b o S w hm hp
 obtain ⟨k,t,n,nm,kids⟩:=p
 unfold aX at hp
 obtain ⟨_,⟨ht,hn0,hk⟩,h0,h1,h2,h3,ka,cap,h4,hks⟩:=hp
 have hn:nm.size≤maxLen:=by unfold maxLen;omega
 have HK:=ah hks;clear hks
 have hih:∀(j:Nat) (hj:j<kids.length) (b o:Nat) (w:World),aX w S b o kids[j]→Calls Tryz.prog 132 #[.pointer (some ⟨b,o,none⟩)] w fun e w'=>e=.returned (.int .i64 (jC kids[j]))∧w=w' :=
  fun j hj b o w h=>ih kids[j] b o S w (by have:=pI kids j hj;simp only [sizeT] at hm;omega) h
 have HIH:=ah hih;clear hih ih hm
 by_cases hk0:k<1∨13<k
 ·have hr:=xE (kids:=kids) (aef (t:=t) (n:=n) (nm:=nm) hk0) (by decide)
  have HR:=ah hr
  have e1:(k==1)=false:=by simp;omega
  have e2:(k==2)=false:=by simp;omega
  have e3:(k==3)=false:=by simp;omega
  have e4:(k==4)=false:=by simp;omega
  have e5:(k==5)=false:=by simp;omega
  have e6:(k==6)=false:=by simp;omega
  have e7:(k==7)=false:=by simp;omega
  have e8:(k==8)=false:=by simp;omega
  have e9:(k==9)=false:=by simp;omega
  have e10:(k==10)=false:=by simp;omega
  have e11:(k==11)=false:=by simp;omega
  have e12:(k==12)=false:=by simp;omega
  have e13:(k==13)=false:=by simp;omega
  clear hr hk0 h1 h2 h3 h4
  go_enter Tryz.func132, Tryz.ntmps132
  go_wp2_with fail
  go_ret
  exact ⟨by rw [HR.out];try rfl,rfl⟩
 go_enter Tryz.func132, Tryz.ntmps132
 go_upto_block 0 with fail
 go_cut [3] (fun l w'=>w=w'∧l=.int .i64 (jm k)∧gu k t n nm=0)
 case first =>
  go_wp2_with (go_at_call 93;refine (sD _ _ hn).mono ?_;rintro e w' ⟨rfl,rfl⟩)
  all_goals
   first
    | (go_meet;go_light;refine ⟨rfl,?_⟩;first
      | exact afF ‹(k==1)=true› ‹_›
      | exact m_num ‹(k==2)=true› ‹_›
      | exact m_3 ‹(k==3)=true› ‹_›
      | exact m_4 ‹(k==4)=true› ‹_›
      | exact m_6 ‹(k==6)=true› ‹_›
      | exact adt (.inl ‹(k==5)=true›)
      | exact adt (.inr ‹(k==7)=true›)
      | exact EH (.inl ‹(k==8)=true›)
      | exact EH (.inr (.inl ‹(k==9)=true›))
      | exact EH (.inr (.inr (.inl ‹(k==10)=true›)))
      | exact EH (.inr (.inr (.inr (.inl ‹(k==11)=true›))))
      | exact EH (.inr (.inr (.inr (.inr (.inl ‹(k==12)=true›)))))
      | exact EH (.inr (.inr (.inr (.inr (.inr ‹(k==13)=true›))))))
    | (go_ret;go_light;refine ⟨zQ ?_,rfl⟩;first
      | exact afG kids ‹(k==1)=true› ‹_›
      | exact ahZ kids ‹(k==2)=true› ‹_›
      | exact Nz kids (.inl ‹(k==3)=true›) ‹_›
      | exact Nz kids (.inr (.inl ‹(k==4)=true›)) ‹_›
      | exact Nz kids (.inr (.inr ‹(k==6)=true›)) ‹_›)
 case rest =>
  obtain ⟨rfl,rfl,hc⟩:=hcut
  have hx:jm k≤2∧0≤jm k:=by unfold jm;split<;>(try split)<;>omega
  by_cases h5:(k=6∧8<kids.length)∨(k≠6∧(kids.length:Int)≠jm k)
  ·have hr:=U3 hc h5
   have HR:=ah hr
   clear hr hc
   rcases h5 with ⟨a,c⟩|⟨a,c⟩
   ·have e1:(k==6)=true:=by simpa using a
    have e2:decide ((8:Int)<(kids.length:Int))=true:=ak (by omega)
    clear a c
    go_wp2_with fail
    go_ret
    exact ⟨by rw [HR.out];try rfl,rfl⟩
   ·have e1:(k==6)=false:=by simpa using a
    have e2:(k != 6)=true:=by simpa using a
    have e3:((kids.length:Int) != jm k)=true:=by simpa using c
    clear a c
    go_wp2_with fail
    go_ret
    exact ⟨by rw [HR.out];try rfl,rfl⟩
  ·have hr:=U4 hc h5
   have HR:=ah hr
   have hz:(k=6∧((k==6)=true)∧(k != 6)=false∧decide ((8:Int)<(kids.length:Int))=false)∨(k≠6∧((k==6)=false)∧(k != 6)=true∧((kids.length:Int) != jm k)=false):=by
    by_cases h6:k=6
    ·exact .inl ⟨h6,by simpa using h6,by simpa using h6,au (by omega)⟩
    ·exact .inr ⟨h6,by simpa using h6,by simpa using h6,by simp;omega⟩
   clear hr hc h5 h1 h2 h3
   rcases hz with ⟨rfl,e1,e2,e3⟩|⟨_,e1,e2,e3⟩
   all_goals
    go_wp2_with fail
    go_loop [84] (fun i=>∃j:Nat,j≤kids.length∧i=.int .i64 j∧Hid (qV kids=qV (kids.drop j))) (fun i=>kids.length-(intOf i).toNat)
    case atStart=>exact ⟨0,Nat.zero_le _,rfl,by unfold Hid;rw [List.drop_zero]⟩
    case round =>
     obtain ⟨j,hj,rfl,hno⟩:=hrel
     by_cases hlt:j<kids.length
     ·obtain ⟨b1,o1,rfl⟩:=oU HK.out (by omega)
      have hP:=ah (nZ kids b1 o1 j hlt HK.out)
      have hd:=QM kids j hlt
      by_cases hz:jC kids[j]=0
      ·rw [if_pos hz] at hd
       have step:=ah (hno.out.trans hd)
       have hb:(jC kids[j] != 0)=false:=by simpa using hz
       clear hd hz
       go_wp2_with (go_at_call 132;refine (HIH.out j hlt _ _ _ hP.out).mono ?_;rintro e w' ⟨rfl,rfl⟩)
       go_round
       case rel=>exact ⟨j+1,by omega,by go_num,step⟩
       case measure=>simp [intOf];omega
      ·rw [if_neg hz] at hd
       have fin:=ah (HR.out.trans (hno.out.trans hd))
       have hb:(jC kids[j] != 0)=true:=by simpa using hz
       clear hd hz
       go_wp2_with (go_at_call 132;refine (HIH.out j hlt _ _ _ hP.out).mono ?_;rintro e w' ⟨rfl,rfl⟩)
       go_ret
       exact ⟨by rw [fin.out];try rfl,rfl⟩
     ·obtain rfl:j=kids.length:=by omega
      have fin:=ah (HR.out.trans (hno.out.trans (show qV (kids.drop kids.length)=0 by rw [List.drop_length,qV])))
      go_wp2_with fail
      go_ret
      exact ⟨by rw [fin.out];try rfl,rfl⟩
end Go.Proofs.YtgoijmpahffnhaaGreatDoor

namespace Go.Proofs.YtgoijmpahffnhaaGreatDoor
set_option linter.all false
open Go.RowKit
set_option maxRecDepth 100000
set_option maxHeartbeats 2000000
mutual
def gG (n:Nat):aB→Nat→Nat×Bool
 | .mk _ _ _ _ kids,d=>if n+1≤4096∧d≤200 then o8 (n+1) kids (d+1) else (n+1,false)
def o8 (n:Nat):List aB→Nat→Nat×Bool
 | [],_=>(n,true)
 | p::r,d=>if (gG n p d).2=true then o8 (gG n p d).1 r d else ((gG n p d).1,false)
end
mutual
theorem look_size:∀(p:aB) (n d:Nat),n≤4096→
  (n+sizeT p≤4096∧d+xY p≤201→gG n p d=(n+sizeT p,true))∧(¬(n+sizeT p≤4096∧d+xY p≤201)→(gG n p d).2=false)
 | .mk k t n' nm kids,n,d,hn=>by
  rw [sizeT,xY,gG]
  by_cases h1:n+1≤4096∧d≤200
  ·obtain ⟨a,b⟩:=G9 kids (n+1) (d+1) h1.1 (by omega)
   rw [if_pos h1]
   refine ⟨fun h=>?_,fun h=>b (by omega)⟩
   rw [a (by omega)]
   exact Prod.ext (by dsimp only;omega) rfl
  ·rw [if_neg h1]
   exact ⟨fun h=>absurd h (by omega),fun _=>rfl⟩
theorem G9:∀(l:List aB) (n d:Nat),n≤4096→d≤201→
  (n+bP l≤4096∧d+zX l≤201→o8 n l d=(n+bP l,true))∧(¬(n+bP l≤4096∧d+zX l≤201)→(o8 n l d).2=false)
 | [],n,d,hn,hd=>by
  rw [o8,bP,zX]
  exact ⟨fun _=>rfl,fun h=>absurd (by omega) h⟩
 | p::r,n,d,hn,hd=>by
  obtain ⟨a,b⟩:=look_size p n d hn
  rw [o8,bP,zX]
  by_cases h1:n+sizeT p≤4096∧d+xY p≤201
  ·obtain ⟨x,y⟩:=G9 r (n+sizeT p) d h1.1 hd
   rw [a h1,if_pos rfl]
   refine ⟨fun h=>?_,fun h=>y (by omega)⟩
   rw [x (by omega)]
   exact Prod.ext (by dsimp only;omega) rfl
  ·rw [b h1]
   exact ⟨fun h=>absurd h (by omega),fun _=>rfl⟩
end
theorem KJ (p:aB):(gG 0 p 1).2=decide (fits p):=by
 obtain ⟨a,b⟩:=look_size p 0 1 (by omega)
 by_cases h:fits p
 ·have h':=h;unfold fits at h'
  rw [a (by omega),ak h]
 ·have h':=h;unfold fits at h'
  rw [b (by omega),au h]
theorem aej (p:aB) (n d:Nat) (hn:n≤4096) (h:(gG n p d).2=true):(gG n p d).1≤4096:=by
 obtain ⟨a,b⟩:=look_size p n d hn
 by_cases h1:n+sizeT p≤4096∧d+xY p≤201
 ·rw [a h1];exact h1.1
 ·rw [b h1] at h;cases h
theorem U5 (l:List aB) (n d j:Nat) (h:j<l.length):o8 n (l.drop j) d=if (gG n l[j] d).2=true then o8 (gG n l[j] d).1 (l.drop (j+1)) d else ((gG n l[j] d).1,false):=by
 rw [List.drop_eq_getElem_cons h,o8]
def NC (b:Bool):Int:=if b=true then 0 else 4
def ND (c1:Nat) (r:Nat×Bool) (w:World) (e:Ending) (w':World):Prop :=
 e=.returned (.int .i64 (NC r.2))∧dJ w' c1 3 (.int .i64 r.1)∧Kept (· = c1) w w'
def EI (c1 c2:Nat):Value:=.func (.func 131) #[] #[.pointer (some ⟨c1,0,none⟩),.pointer (some ⟨c2,0,none⟩)]
theorem abb (c1 c2:Nat) (T:TypeId) (hne:c2≠c1) (S:Nat→Prop):∀(m:Nat) (p:aB) (n b o d:Nat) (w:World),sizeT p≤m→n≤4096→d≤201→
  dJ w c1 3 (.int .i64 n)→dJ w c2 T (EI c1 c2)→aX w S b o p→Safe S (· = c1) w.heap.size→
  Calls Tryz.prog 131 #[.pointer (some ⟨b,o,none⟩),.int .i64 d,.pointer (some ⟨c1,0,none⟩),.pointer (some ⟨c2,0,none⟩)] w (ND c1 (gG n p d) w):=by
 intro m
 induction m with
 | zero=>intro p n b o d w hm;have:=Dh p;omega
 | succ m ih =>
 intro p n b o d w hm hn hd h1 h2 hp hS
 obtain ⟨k,t,n',nm,kids⟩:=p
 have hc1:=h1.cell
 have hf1:=h1.free
 have kA:Kept (· = c1) w (w.setCell ⟨c1,0,none⟩ (.int .i64 ((n:Int)+1))):=(Kept.refl (· = c1) w).setCell (.inl rfl) _
 obtain ⟨w1,hw1⟩:∃w1,w1=w.setCell ⟨c1,0,none⟩ (.int .i64 ((n:Int)+1)):=⟨_,rfl⟩
 have C1:Hid (dJ w1 c1 3 (.int .i64 ((n+1:Nat):Int))):=by rw [hw1];exact h1.set _
 rw [←hw1] at kA
 have HW1:=ah hw1;clear hw1
 by_cases h4:4096<n+1
 ·have hr:Hid (gG n (.mk k t n' nm kids) d=(n+1,false)):=by unfold Hid;rw [gG,if_neg (by omega)]
  have hc2:=C1.out.cell
  go_enter Tryz.func131, Tryz.ntmps131
  go_upto_region 2 with fail
  rw [←HW1.out]
  go_wp2_with fail
  go_ret
  exact ⟨by rw [hr.out];rfl,by rw [hr.out];exact C1.out,kA⟩
 by_cases h5:200<d
 ·have hr:Hid (gG n (.mk k t n' nm kids) d=(n+1,false)):=by unfold Hid;rw [gG,if_neg (by omega)]
  have hc2:=C1.out.cell
  have hb:decide ((4096:Int)<((n+1:Nat):Int))=false:=au (by omega)
  go_enter Tryz.func131, Tryz.ntmps131
  go_upto_region 2 with fail
  rw [←HW1.out]
  go_wp2_with fail
  go_ret
  exact ⟨by rw [hr.out];rfl,by rw [hr.out];exact C1.out,kA⟩
 have hr:Hid (gG n (.mk k t n' nm kids) d=o8 (n+1) kids (d+1)):=by unfold Hid;rw [gG,if_pos (by omega)]
 have hc2:=C1.out.cell
 have hb:decide ((4096:Int)<((n+1:Nat):Int))=false:=au (by omega)
 have hsz:∀j (hj:j<kids.length),sizeT kids[j]≤m:=by intro j hj;have h:=pI kids j hj;simp only [sizeT] at hm;omega
 have HP:=ah hp
 have C2:=ah h2
 have hpk:=hp.kept kA hS
 unfold aX at hpk
 obtain ⟨_,⟨_,_,hkl⟩,_,_,_,_,ka,cap,q4,_⟩:=hpk
 have KA:=ah kA;have HS:=ah hS
 clear hp hm kA h1 h2 hS
 go_enter Tryz.func131, Tryz.ntmps131
 go_upto_region 2 with fail
 rw [←HW1.out]
 clear hc1 hf1
 go_wp2_with fail
 go_loopw [22] (fun i wr=>∃(j n2:Nat),j≤kids.length∧i=.int .i64 j∧n2≤4096∧Hid (gG n (.mk k t n' nm kids) d=o8 n2 (kids.drop j) (d+1))∧dJ wr c1 3 (.int .i64 n2)∧Kept (· = c1) w wr) (fun i _=>kids.length-(intOf i).toNat)
 case atStart=>exact ⟨0,n+1,Nat.zero_le _,rfl,by omega,by unfold Hid;rw [hr.out,List.drop_zero],C1.out,KA.out⟩
 case round =>
  obtain ⟨j,n2,hj,rfl,hn2,hno,hcc,hkw⟩:=hrel
  have CC:=ah hcc;have KW:=ah hkw
  by_cases hlt:j<kids.length
  ·have hpk:=HP.out.kept hkw HS.out
   unfold aX at hpk
   obtain ⟨_,_,_,_,_,_,ka',cap',q5,hks⟩:=hpk
   obtain ⟨b1,o1,rfl⟩:=oU hks (by omega)
   have hP:=ah ((nZ kids b1 o1 j hlt hks).kept (Kept.refl (· = c1) _).drew (HS.out.mono hkw.size))
   have e2:=(C2.out.kept hkw hne).cell
   unfold EI at e2
   have hS2:Hid (Safe S (· = c1) wr.drew.heap.size):=HS.out.mono hkw.size
   have abd:=hsz j hlt
   have hdr:=ah (U5 kids n2 (d+1) j hlt)
   have hwr:IntKind.i64.wrap ((d:Int)+1)=(d:Int)+1:=IntWalk.i64_in _ (by omega)
   clear hks hcc hkw
   go_upto_region 7 with fail
   go_cut [8] (fun r wx=>ND c1 (gG n2 kids[j] (d+1)) wr (.returned r) wx)
   case first =>
    go_region_with (go_at_call 131;rw [show (d:Int)+1=((d+1:Nat):Int) from rfl];(with_reducible refine (ih kids[j] n2 b1 (o1+j*5) (d+1) _ abd hn2 (by omega) CC.out.drew (C2.out.kept KW.out hne).drew hP.out hS2.out).mono ?_);rintro e w2 ⟨rfl,x_,y_⟩;have X2:=ah x_;have Y2:=ah y_;clear x_ y_)
    all_goals (go_wp2_with fail;go_meet;exact ⟨rfl,X2.out,(Kept.refl (· = c1) wr).drew.trans Y2.out⟩)
   case rest =>
    obtain ⟨hr0,hx2,hy2⟩:=hcut
    have X2:=ah hx2;have Y2:=ah hy2
    simp only [Ending.returned.injEq] at hr0
    subst hr0
    clear hx2 hy2
    by_cases hz:(gG n2 kids[j] (d+1)).2=true
    ·have hle:=aej kids[j] n2 (d+1) hn2 hz
     have hd2:=hdr.out
     rw [if_pos hz] at hd2
     have step:=ah (hno.out.trans hd2)
     have hbb:(NC (gG n2 kids[j] (d+1)).2 != 0)=false:=by rw [hz];rfl
     clear hd2 hz
     go_wp2_with fail
     go_roundw
     case rel=>exact ⟨j+1,_,by omega,by go_num,hle,step,X2.out,KW.out.trans Y2.out⟩
     case measure=>simp [intOf];omega
    ·have hz':(gG n2 kids[j] (d+1)).2=false:=by simpa using hz
     have hd2:=hdr.out
     rw [if_neg hz] at hd2
     have fin:=ah (hno.out.trans hd2)
     have hbb:(NC (gG n2 kids[j] (d+1)).2 != 0)=true:=by rw [hz'];rfl
     have HZ:=ah hz'
     clear hd2 hz hz'
     go_wp2_with fail
     go_ret
     exact ⟨by rw [fin.out,HZ.out];try rfl,by rw [fin.out];exact X2.out,KW.out.trans Y2.out⟩
  ·obtain rfl:j=kids.length:=by omega
   have fin:Hid (gG n (.mk k t n' nm kids) d=(n2,true)):=by unfold Hid;rw [hno.out,List.drop_length,o8]
   go_wp2_with fail
   go_ret
   exact ⟨by rw [fin.out];try rfl,by rw [fin.out];exact CC.out,KW.out⟩
theorem abe {p:aB} (h:(gG 0 p 1).2=true):aW p=jC p:=by
 rw [KJ,decide_eq_true_eq] at h
 unfold aW;rw [if_pos h]
theorem abf {p:aB} (h:(gG 0 p 1).2=false):aW p=4:=by
 rw [KJ,decide_eq_false_iff_not] at h
 unfold aW;rw [if_neg h]
theorem pJ (p:aB) (v:Value) (S:Nat→Prop) (w:World) (hp:oV w S v p) (hS:Safe S aA w.heap.size) (hsz:sizeT p≤100000000):Calls Tryz.prog 94 #[v] w (abg (aW p) w):=by
 obtain ⟨c,hv,hb⟩:=hp.box 54 (fun b hb=>(hS b hb).1)
 obtain ⟨ka,cap,rfl,hz,hk⟩:=hp
 simp only [Value.agg.injEq] at hv;subst hv
 have hmf:∀(fn:Fn) (first cap:Array Value) (w:World),(Instr.makeFunc fn first cap).run Tryz.prog w=.ok (.func fn first cap) w:=fun _ _ _ _=>rfl
 have hst:∀(a:Addr) (fn:Fn) (first cap:Array Value) (m:Mode) (w:World),(store a (.func fn first cap) m).run Tryz.prog w=stored Tryz.prog w a (.func fn first cap) m:=fun _ _ _ _ _ _=>run_store _ _ _ _ _ rfl
 obtain ⟨w1,hw1⟩:∃w1,w1=(w.alloc (.cells #[.int .i64 p.kind,.string p.text,.int .i64 p.n,.string p.name,.slice ka p.kids.length cap] 54)):=⟨_,rfl⟩
 rw [←hw1] at hb
 have hs1:w1.heap.size=w.heap.size+1:=by rw [hw1];simp
 obtain ⟨w3,hw3⟩:∃w3,w3=(w1.alloc (.cells #[.int .i64 0] 3)).alloc (.cells #[EI (w.heap.size+1) (w.heap.size+1+1)] 204):=⟨_,rfl⟩
 have k1:Kept aA w w1:=by rw [hw1];exact (Kept.refl aA _).alloc _
 have k3:Kept aA w1 w3:=by rw [hw3];exact ((Kept.refl aA _).alloc _).alloc _
 have B3:Hid (aX w3 (fun b=>S b∨b=w.heap.size) w.heap.size 0 p):=hb.kept k3 (fun b hb=>⟨by rcases hb with hb|rfl;(have:=(hS b hb).1;omega);omega,fun h=>h⟩)
 have C1:Hid (dJ w3 (w.heap.size+1) 3 (.int .i64 (0:Nat))):=by rw [hw3,←hs1];exact (dJ.new _ _ _).alloc _
 have C2:Hid (dJ w3 (w.heap.size+1+1) 204 (EI (w.heap.size+1) (w.heap.size+1+1))):=by rw [hw3];exact dJ.new' (by simp [hs1])
 have hs3:=k3.size
 have SF:Hid (Safe (fun b=>S b∨b=w.heap.size) (· = w.heap.size+1) w3.heap.size):=by
  have h3:w3.heap.size=w.heap.size+3:=by rw [hw3];simp [hs1]
  intro b hb
  rcases hb with hb|rfl
  ·have:=(hS b hb).1;exact ⟨by omega,by omega⟩
  ·exact ⟨by omega,by omega⟩
 have KK3:=ah (k1.trans k3)
 unfold EI at hw3
 have HW1:=ah hw1;have HW3:=ah hw3
 clear hb hk hz hw1 hw3 k1 k3 hs3
 go_enter Tryz.func94, Tryz.ntmps94
 go_upto_region 4 with fail
 rw [←HW1.out,←HW3.out]
 have e2:=C2.out.cell
 unfold EI at e2
 go_wp2_with fail
 refine (abb (w.heap.size+1) (w.heap.size+1+1) _ (by omega) (fun b=>S b∨b=w.heap.size) 100000000 p 0 w.heap.size 0 1 w3 hsz (by omega) (by omega) C1.out C2.out B3.out SF.out).mono ?_
 rintro e w4 ⟨rfl,X4,Y4⟩
 have KK4:Hid (Kept aA w w4):=KK3.out.step Y4 (fun y hy=>.inr (by subst hy;omega))
 have B4:=ah (B3.out.kept Y4 SF.out)
 clear X4 Y4 e2
 cases hr:(gG 0 p 1).2 with
 | false =>
  have fin:=ah (abf hr)
  have hb:(NC false != 0)=true:=rfl
  clear hr
  go_wp2_with fail
  go_ret
  exact ⟨by rw [fin.out];try rfl,KK4.out⟩
 | true =>
  have fin:=ah (abe hr)
  have hb:(NC true != 0)=false:=rfl
  clear hr
  go_wp2_with fail
  refine (XP 100000000 p _ _ _ _ hsz B4.out).mono ?_
  rintro e w5 ⟨rfl,rfl⟩
  go_wp2_with fail
  go_ret
  exact ⟨by rw [fin.out];try rfl,KK4.out⟩
end Go.Proofs.YtgoijmpahffnhaaGreatDoor

namespace Go.Proofs.YtgoijmpahffnhaaGreatDoor
set_option linter.all false
open Go.RowKit
theorem aX.open {w:World} {S:Nat→Prop} {b o:Nat} {p:aB} (h:aX w S b o p):S b∧(p.text.size<1000000000∧p.name.size<1000000000∧p.kids.length<1000000000)∧
  w.cell? ⟨b,o,none⟩=some (.int .i64 p.kind)∧w.cell? ⟨b,o+1,none⟩=some (.string p.text)∧w.cell? ⟨b,o+2,none⟩=some (.int .i64 p.n)∧w.cell? ⟨b,o+3,none⟩=some (.string p.name)∧
  ∃ka cap,w.cell? ⟨b,o+4,none⟩=some (.slice ka p.kids.length cap)∧aN w S ka p.kids:=by
 obtain ⟨k,t,n,nm,kids⟩:=p;unfold aX at h;exact h
def zG (w:World) (S:Nat→Prop) (c:List Value) (p:aB):Prop :=
 ∃ka cap,c=[.int .i64 p.kind,.string p.text,.int .i64 p.n,.string p.name,.slice ka p.kids.length cap]∧(p.text.size<1000000000∧p.name.size<1000000000∧p.kids.length<1000000000)∧aN w S ka p.kids
def gK (w:World) (S:Nat→Prop):List Value→List aB→Prop
 | cs,[]=>cs=[]
 | cs,p::ps=>∃c rest,cs=c++rest∧zG w S c p∧gK w S rest ps
theorem zG.length {w:World} {S:Nat→Prop} {c:List Value} {p:aB} (h:zG w S c p):c.length=5:=by obtain ⟨_,_,rfl,_⟩:=h;rfl
theorem zG.one {w:World} {S:Nat→Prop} {c:List Value} {p:aB} (h:zG w S c p):∀u∈c,u.oneCell'=true:=by
 obtain ⟨_,_,rfl,_⟩:=h;intro u hu;simp at hu;rcases hu with rfl|rfl|rfl|rfl|rfl<;>rfl
theorem gK.length {w:World} {S:Nat→Prop}:∀{l:List aB} {cs:List Value},gK w S cs l→cs.length=l.length*5
 | [],cs,h=>by rw [gK] at h;subst h;rfl
 | p::ps,cs,h=>by
  rw [gK] at h;obtain ⟨c,r,rfl,h1,h2⟩:=h
  rw [List.length_append,h1.length,h2.length,List.length_cons];omega
theorem gK.one {w:World} {S:Nat→Prop}:∀{l:List aB} {cs:List Value},gK w S cs l→∀u∈cs,u.oneCell'=true
 | [],cs,h=>by rw [gK] at h;subst h;intro u hu;simp at hu
 | p::ps,cs,h=>by
  rw [gK] at h;obtain ⟨c,r,rfl,h1,h2⟩:=h
  intro u hu;rcases List.mem_append.1 hu with hu|hu;exact h1.one u hu;exact h2.one u hu
theorem gK.append {w:World} {S:Nat→Prop}:∀{l l':List aB} {cs cs':List Value},gK w S cs l→gK w S cs' l'→gK w S (cs++cs') (l++l')
 | [],_,cs,_,h,h'=>by rw [gK] at h;subst h;exact h'
 | p::ps,_,cs,_,h,h'=>by
  rw [gK] at h;obtain ⟨c,r,rfl,h1,h2⟩:=h
  rw [List.append_assoc,List.cons_append,gK]
  exact ⟨c,_,rfl,h1,h2.append h'⟩
theorem zG.kept {w w':World} {S:Nat→Prop} {X:Nat→Prop} {c:List Value} {p:aB} (h:zG w S c p) (hk:Kept X w w') (hs:Safe S X w.heap.size):zG w' S c p:=by
 obtain ⟨ka,cap,rfl,hz,hp⟩:=h;exact ⟨ka,cap,rfl,hz,hp.kept hk hs⟩
theorem gK.kept {w w':World} {S:Nat→Prop} {X:Nat→Prop}:∀{l:List aB} {cs:List Value},gK w S cs l→Kept X w w'→Safe S X w.heap.size→gK w' S cs l
 | [],_,h,_,_=>h
 | p::ps,cs,h,hk,hs=>by
  rw [gK] at h⊢;obtain ⟨c,r,rfl,h1,h2⟩:=h
  exact ⟨c,r,rfl,h1.kept hk hs,h2.kept hk hs⟩
theorem Xp (l:List aB) (j:Nat):bP (l.take j)≤bP l:=by
 induction l generalizing j with
 | nil=>simp
 | cons p ps ih=>cases j with
  | zero=>simp [bP]
  | succ j=>simp only [List.take_succ_cons,bP];have:=ih j;omega
end Go.Proofs.YtgoijmpahffnhaaGreatDoor

namespace Go.Proofs.YtgoijmpahffnhaaGreatDoor
set_option linter.all false
open Go.RowKit
set_option maxRecDepth 100000
set_option maxHeartbeats 1000000
theorem Tq (l:List aj) (j:Nat) (h:j<l.length):aJ (l.drop j)=if fV l[j]=true then aJ (l.drop (j+1)) else 7:=by
 rw [List.drop_eq_getElem_cons h,aJ]
theorem yI {w:World} {b:Nat} {l:List aj} {t:TypeId} {fr:Nat×Nat} (h:w.heap[b]?=some (.cells (l.map Value.string).toArray t fr)) {S:Nat→Prop} (hS:S b):aQ w S (some ⟨b,0,none⟩) l:=by
 intro _
 refine ⟨b,0,rfl,hS,fun i hi=>?_⟩
 rw [cell_of_row w b (0+i) _ t fr h];simp [hi]
theorem uQ (l:List aj) (a:Option Addr) (cap:Nat) (S:Nat→Prop) (w:World) (hl:aQ w S a l) (hz:l.length<1000000000∧∀x∈l,x.size<1000000000) :
  Calls Tryz.prog 96 #[.slice a l.length cap] w fun e w'=>e=.returned (.int .i64 (aJ l))∧w'=w:=by
 have HL:=ah hl;have HZ:=ah hz.2
 have hzl:=hz.1
 clear hl hz
 go_enter Tryz.func96, Tryz.ntmps96
 go_wp2_with fail
 go_loop [7] (fun i=>∃j:Nat,j≤l.length∧i=.int .i64 j∧Hid (aJ l=aJ (l.drop j))) (fun i=>l.length-(intOf i).toNat)
 case atStart=>exact ⟨0,Nat.zero_le _,rfl,by unfold Hid;rw [List.drop_zero]⟩
 case round =>
  obtain ⟨j,hj,rfl,hno⟩:=hrel
  by_cases hlt:j<l.length
  ·obtain ⟨b,o,rfl,_,hc⟩:=HL.out (by omega)
   have hcj:=hc j hlt
   have hn:(l[j]).size≤maxLen:=by have:=HZ.out l[j] (List.getElem_mem hlt);unfold maxLen;omega
   have hd:=Tq l j hlt
   clear hc
   cases hb:fV l[j] with
   | true =>
    rw [if_pos hb] at hd
    have step:=ah (hno.out.trans hd)
    have HB:=ah hb
    clear hd hb
    go_wp2_with (go_at_call 93;(with_reducible refine (sD _ _ hn).mono ?_);rintro e w' ⟨rfl,rfl⟩;rw [HB.out])
    go_round
    case rel=>exact ⟨j+1,by omega,by go_num,step⟩
    case measure=>simp [intOf];omega
   | false =>
    rw [if_neg (by simp [hb])] at hd
    have fin:=ah (hno.out.trans hd)
    have HB:=ah hb
    clear hd hb
    go_wp2_with (go_at_call 93;(with_reducible refine (sD _ _ hn).mono ?_);rintro e w' ⟨rfl,rfl⟩;rw [HB.out])
    go_ret
    exact ⟨by rw [fin.out];try rfl,rfl⟩
  ·obtain rfl:j=l.length:=by omega
   have fin:Hid (aJ l=0):=by unfold Hid;rw [hno.out,List.drop_length,aJ]
   go_wp2_with fail
   go_ret
   exact ⟨by rw [fin.out];try rfl,rfl⟩
theorem Jj (p:aB) (v:Value) (S:Nat→Prop) (w:World) (hp:oV w S v p):Calls Tryz.prog 91 #[v] w (ug (decide (isTarget p)) w):=by
 obtain ⟨ka,cap,rfl,hz,hk⟩:=hp
 by_cases h:isTarget p
 ·have hb:Hid (decide (isTarget p)=true):=ak h
  have h':=h;unfold isTarget at h'
  rcases h' with h'|h'|h'
  all_goals
   rw [h']
   clear h
   go_enter Tryz.func91, Tryz.ntmps91
   go_wp2_with fail
   go_ret
   exact ⟨by rw [hb.out];try rfl,(Kept.refl _ _).alloc _⟩
 ·have hb:Hid (decide (isTarget p)=false):=au h
  have h':=h;unfold isTarget at h'
  have e1:(p.kind==3)=false:=by simp;omega
  have e2:(p.kind==4)=false:=by simp;omega
  have e3:(p.kind==5)=false:=by simp;omega
  clear h h'
  go_enter Tryz.func91, Tryz.ntmps91
  go_wp2_with fail
  go_ret
  exact ⟨by rw [hb.out];try rfl,(Kept.refl _ _).alloc _⟩
end Go.Proofs.YtgoijmpahffnhaaGreatDoor

namespace Go.Proofs.YtgoijmpahffnhaaGreatDoor
set_option linter.all false
open Go.RowKit
theorem oV.o7 {w w':World} {S:Nat→Prop} {v:Value} {p:aB} (h:oV w S v p) (hk:Kept aA w w') (hS:Safe S aA w.heap.size):oV w' S v p:=by
 obtain ⟨a,c,e,z,k⟩:=h
 exact ⟨a,c,e,z,k.kept hk hS⟩
theorem oV.all {w:World} {S:Nat→Prop} {v:Value} {p:aB} (h:oV w S v p) (hS:Safe S aA w.heap.size):oV w (· < w.heap.size) v p:=by
 obtain ⟨a,c,e,z,k⟩:=h
 exact ⟨a,c,e,z,aN.same (fun _ _=>rfl) (fun b hb=>(hS b hb).1) _ _ k⟩
theorem QL (l:List Int) (j:Nat) (h:j<l.length):dL (l.drop j)=if l[j]=0 then dL (l.drop (j+1)) else l[j]:=by
 rw [List.drop_eq_getElem_cons h,dL]
theorem TA:(Tryz.prog.info? 25).map (fun i=>(i.zero,i.size,i.bytes))=some (some (.int .i64 0),1,8):=by kernel_rfl
theorem Nv {w:World} {g:Nat} {es:List Int} (hg:w.heap[g]?=some (.cells (es.map (Value.int .i64)).toArray 25 (0,0))) :
  Src Tryz.prog 1 163 (.slice (some ⟨g,0,none⟩) es.length es.length) es.length (es.map (Value.int .i64)) w:=by
 have h:=World.news_of_block (fr:=(0,0)) (cs:=(es.map (Value.int .i64)).toArray) hg
 simp only [List.toList_toArray,List.size_toArray,List.length_map] at h
 exact Src.ofSlice _ Tryz.underlying163 _ _ _ _ (by simp) h (by intro u hu;obtain ⟨e,_,rfl⟩:=List.mem_map.1 hu;rfl)
theorem ig {ops:Array Oper} {rest:List Oper} {o:Oper} {a:Act} {Q:Exit→Act→World→Prop} {w w0:World} (hgd:o.guard=none) (s x:Operand)
  (ho:o.op=.call {callee:=.builtin .append,args:=#[s,x],argTypes:=#[163,163]})
  (v:Value) (n:Nat) (xs:List Value) (hs:a.eval s=v) (B:Nat) (hown:aO w B 25 1 v n xs) (es:List Int) (g:Nat) (hx:a.eval x=.slice (some ⟨g,0,none⟩) es.length es.length)
  (hg:w.heap[g]?=some (.cells (es.map (Value.int .i64)).toArray 25 (0,0))) (hn:n+es.length≤1000) (hB:B≤w.heap.size) (K0:Kept aA w0 w) (hB0:w0.heap.size≤B)
  (h:∀a' c' w',aO w' B 25 1 (.slice a' (n+es.length) c') (n+es.length) (xs++es.map (Value.int .i64))→Kept aA w0 w'→w.heap.size≤w'.heap.size→wpList Tryz.prog ops Q rest (a.put o.dst (.slice a' (n+es.length) c')) w') :
  wpList Tryz.prog ops Q (o::rest) a w:=by
 obtain ⟨i0,hi0,hz0,hz1,hz2⟩:=info_parts TA
 refine dM w hgd s x _ _ ho B 25 i0 (.int .i64 0) 1 8 Tryz.underlying163 hi0 hz0 hz1 hz2 rfl v n xs hs hown _ es.length (es.map (Value.int .i64)) hx (Nv hg) (by unfold maxLen;omega) (by omega) hB ?_
 intro a' c' w' hW hgr _
 exact h a' c' w' hW (K0.grown hgr fun k hk=>.inr (by have:=(hown.lt k hk).1;omega)) hgr.size
theorem Nw {i:Nat} {o:Oper} {x:Act} {w:World} {R:Nat→Value→World→Prop} {Q:Exit→Act→World→Prop} (s y:Operand)
  (ho:o.op=.call {callee:=.builtin .append,args:=#[s,y],argTypes:=#[163,163]})
  (hs:x.eval s=.slice none 0 0) (es:List Int) (g:Nat) (hx:x.eval y=.slice (some ⟨g,0,none⟩) es.length es.length)
  (hg:w.heap[g]?=some (.cells (es.map (Value.int .i64)).toArray 25 (0,0))) (hn:es.length≤1000) (B:Nat) (hB:B≤w.heap.size)
  (h:∀a' c' w',aO w' B 25 1 (.slice a' es.length c') es.length (es.map (Value.int .i64))→R i (.slice a' es.length c') w') :
  o.wp Tryz.prog x w (fun a' w'=>∃v,a'=x.put o.dst v∧(∀d,o.dst=some d→R i v w')∧Kept aA w w') Q:=by
 obtain ⟨i0,hi0,hz0,hz1,hz2⟩:=info_parts TA
 refine rJ w s y _ _ ho B 25 i0 (.int .i64 0) 1 8 Tryz.underlying163 hi0 hz0 hz1 hz2 rfl (.slice none 0 0) 0 [] hs (aO.nil ..) _ es.length (es.map (Value.int .i64)) hx (Nv hg) (by unfold maxLen;omega) (by omega) hB ?_
 intro a' c' w' hW hgr _
 simp only [Nat.zero_add,List.nil_append] at hW⊢
 exact ⟨_,rfl,fun _ _=>h a' c' w' hW,(Kept.refl aA w).grown hgr fun k hk=>by cases hk⟩
end Go.Proofs.YtgoijmpahffnhaaGreatDoor

namespace Go.Proofs.YtgoijmpahffnhaaGreatDoor
set_option linter.all false
open Go.RowKit
theorem Kept.of_below {w w':World} (h:Below w.heap.size w w'):Kept aA w w':=⟨h.os,h.tape,h.output,h.size,fun k hk _=>h.block k hk⟩
def ajZ (l:List UInt8) (w:World) (e:Ending) (w':World):Prop:=e=.returned (.string ⟨l.toArray⟩)∧Kept aA w w'
end Go.Proofs.YtgoijmpahffnhaaGreatDoor
