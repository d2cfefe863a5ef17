/-  -/
import Derived.Test.YtodebjhalipefaaGreatDoorLq9
import Derived.Test.YtodebjhalipefaaGreatDoorLq11
import Derived.Test.YtodebjhalipefaaGreatDoorBase
import Derived.Deep.LoopGhost
import Derived.Deep.QuietTactic
import Derived.BigQuiet
import Derived.WalkLawsBesides
import Derived.Lib.ItoaNum
import Derived.Lib.Replace
import Derived.Lib.SplitLaws
namespace Go.Proofs.YtodebjhalipefaaGreatDoor
set_option linter.all false
open Go.RowKit
structure aF where
 label:aj
 kind:Int
 target:aB
 value:aB
 pat:aB
 name:aj
 entry:aj
 params:List aj
 locals:List aj
 always:aj
 yes:aj
 bU:aj
structure gW where
 ta:Option Addr
 tc:Nat
 va:Option Addr
 vc:Nat
 pa:Option Addr
 pc:Nat
 ma:Option Addr
 mc:Nat
 la:Option Addr
 lc:Nat
def aX (w:World) (S:Nat→Prop) (a:Option Addr) (l:List aj):Prop :=
 0<l.length→∃b o,a=some ⟨b,o,none⟩∧S b∧∀i (h:i<l.length),w.cell? ⟨b,o+i,none⟩=some (.string l[i])
theorem aX.to {w w':World} {S S':Nat→Prop} {X:Nat→Prop} {a:Option Addr} {l:List aj} (h:aX w S a l) (hk:Kept X w w') (hs:Safe S X w.heap.size) (h':∀b,S b→S' b):aX w' S' a l:=by
 intro h0
 obtain ⟨b,o,rfl,hb,hc⟩:=h h0
 exact ⟨b,o,rfl,h' b hb,fun i hi=>(hk.cell (hs b hb).1 (hs b hb).2).trans (hc i hi)⟩
def dN (a:gW) (s:aF):Value :=
 .agg #[.string s.label,.int .i64 s.kind,
  .int .i64 s.target.kind,.string s.target.text,.int .i64 s.target.n,.string s.target.name,.slice a.ta s.target.kids.length a.tc,
  .int .i64 s.value.kind,.string s.value.text,.int .i64 s.value.n,.string s.value.name,.slice a.va s.value.kids.length a.vc,
  .int .i64 s.pat.kind,.string s.pat.text,.int .i64 s.pat.n,.string s.pat.name,.slice a.pa s.pat.kids.length a.pc,
  .string s.name,.string s.entry,.slice a.ma s.params.length a.mc,.slice a.la s.locals.length a.lc,.string s.always,.string s.yes,.string s.bU]
def bM (a:gW) (s:aF):List Value :=
 [.string s.label,.int .i64 s.kind,
  .int .i64 s.target.kind,.string s.target.text,.int .i64 s.target.n,.string s.target.name,.slice a.ta s.target.kids.length a.tc,
  .int .i64 s.value.kind,.string s.value.text,.int .i64 s.value.n,.string s.value.name,.slice a.va s.value.kids.length a.vc,
  .int .i64 s.pat.kind,.string s.pat.text,.int .i64 s.pat.n,.string s.pat.name,.slice a.pa s.pat.kids.length a.pc,
  .string s.name,.string s.entry,.slice a.ma s.params.length a.mc,.slice a.la s.locals.length a.lc,.string s.always,.string s.yes,.string s.bU]
def bT (N:Nat) (a:gW) (s:aF) (w:World):Prop:=w.heap[N]?=some (.cells #[.string s.label,.int .i64 s.kind,
  .int .i64 s.target.kind,.string s.target.text,.int .i64 s.target.n,.string s.target.name,.slice a.ta s.target.kids.length a.tc,
  .int .i64 s.value.kind,.string s.value.text,.int .i64 s.value.n,.string s.value.name,.slice a.va s.value.kids.length a.vc,
  .int .i64 s.pat.kind,.string s.pat.text,.int .i64 s.pat.n,.string s.pat.name,.slice a.pa s.pat.kids.length a.pc,
  .string s.name,.string s.entry,.slice a.ma s.params.length a.mc,.slice a.la s.locals.length a.lc,.string s.always,.string s.yes,.string s.bU] 69 (0,0))
theorem bT.new (w:World) (a:gW) (s:aF):bT w.heap.size a s (w.alloc (.cells #[.string s.label,.int .i64 s.kind,
  .int .i64 s.target.kind,.string s.target.text,.int .i64 s.target.n,.string s.target.name,.slice a.ta s.target.kids.length a.tc,
  .int .i64 s.value.kind,.string s.value.text,.int .i64 s.value.n,.string s.value.name,.slice a.va s.value.kids.length a.vc,
  .int .i64 s.pat.kind,.string s.pat.text,.int .i64 s.pat.n,.string s.pat.name,.slice a.pa s.pat.kids.length a.pc,
  .string s.name,.string s.entry,.slice a.ma s.params.length a.mc,.slice a.la s.locals.length a.lc,.string s.always,.string s.yes,.string s.bU] 69)):=ay w _
theorem bT.lt {N:Nat} {a:gW} {s:aF} {w:World} (h:bT N a s w):N<w.heap.size:=(Array.getElem?_eq_some_iff.1 h).1
theorem bT.kept {N:Nat} {a:gW} {s:aF} {w w':World} {X:Nat→Prop} (h:bT N a s w) (hk:Kept X w w') (hx:¬X N):bT N a s w':=by
 unfold bT;rw [hk.block N h.lt hx];exact h
theorem bT.cells {N:Nat} {a:gW} {s:aF} {w:World} (h:bT N a s w):w.cell? ⟨N,0,none⟩=some (.string s.label)∧
  w.cell? ⟨N,1,none⟩=some (.int .i64 s.kind)∧
  w.cell? ⟨N,2,none⟩=some (.int .i64 s.target.kind)∧
  w.cell? ⟨N,3,none⟩=some (.string s.target.text)∧
  w.cell? ⟨N,4,none⟩=some (.int .i64 s.target.n)∧
  w.cell? ⟨N,5,none⟩=some (.string s.target.name)∧
  w.cell? ⟨N,6,none⟩=some (.slice a.ta s.target.kids.length a.tc)∧
  w.cell? ⟨N,7,none⟩=some (.int .i64 s.value.kind)∧
  w.cell? ⟨N,8,none⟩=some (.string s.value.text)∧
  w.cell? ⟨N,9,none⟩=some (.int .i64 s.value.n)∧
  w.cell? ⟨N,10,none⟩=some (.string s.value.name)∧
  w.cell? ⟨N,11,none⟩=some (.slice a.va s.value.kids.length a.vc)∧
  w.cell? ⟨N,12,none⟩=some (.int .i64 s.pat.kind)∧
  w.cell? ⟨N,13,none⟩=some (.string s.pat.text)∧
  w.cell? ⟨N,14,none⟩=some (.int .i64 s.pat.n)∧
  w.cell? ⟨N,15,none⟩=some (.string s.pat.name)∧
  w.cell? ⟨N,16,none⟩=some (.slice a.pa s.pat.kids.length a.pc)∧
  w.cell? ⟨N,17,none⟩=some (.string s.name)∧
  w.cell? ⟨N,18,none⟩=some (.string s.entry)∧
  w.cell? ⟨N,19,none⟩=some (.slice a.ma s.params.length a.mc)∧
  w.cell? ⟨N,20,none⟩=some (.slice a.la s.locals.length a.lc)∧
  w.cell? ⟨N,21,none⟩=some (.string s.always)∧
  w.cell? ⟨N,22,none⟩=some (.string s.yes)∧
  w.cell? ⟨N,23,none⟩=some (.string s.bU):=by
 unfold bT at h
 refine ⟨?_,?_,?_,?_,?_,?_,?_,?_,?_,?_,?_,?_,?_,?_,?_,?_,?_,?_,?_,?_,?_,?_,?_,?_⟩<;>(rw [cell_of_row w N _ _ _ _ h];rfl)
structure L6 (p:aB):Prop where
 z:p.text.size<1000000000∧p.name.size<1000000000∧p.kids.length<1000000000
 t:sizeT p≤1048576
structure ql (s:aF):Prop where
 label:s.label.size<1000000000
 target:L6 s.target
 value:L6 s.value
 pat:L6 s.pat
 name:s.name.size<1000000000
 entry:s.entry.size<1000000000
 params:s.params.length<1000000000∧∀x∈s.params,x.size<1000000000
 locals:s.locals.length<1000000000∧∀x∈s.locals,x.size<1000000000
 always:s.always.size<1000000000
 yes:s.yes.size<1000000000
 bU:s.bU.size<1000000000
structure vJ (w:World) (S:Nat→Prop) (a:gW) (s:aF):Prop where
 target:aN w S a.ta s.target.kids
 value:aN w S a.va s.value.kids
 pat:aN w S a.pa s.pat.kids
 params:aX w S a.ma s.params
 locals:aX w S a.la s.locals
theorem vJ.to {w w':World} {S S':Nat→Prop} {X:Nat→Prop} {a:gW} {s:aF} (h:vJ w S a s) (hk:Kept X w w') (hs:Safe S X w.heap.size) (h':∀b,S b→S' b):vJ w' S' a s :=
 ⟨h.target.to hk hs h',h.value.to hk hs h',h.pat.to hk hs h',h.params.to hk hs h',h.locals.to hk hs h'⟩
def StV (w:World) (S:Nat→Prop) (v:Value) (s:aF):Prop:=∃a,v=dN a s∧ql s∧vJ w S a s
def zV (w:World) (S:Nat→Prop) (b o:Nat) (s:aF):Prop :=
 ∃a,S b∧ql s∧(∀i (h:i<24),w.cell? ⟨b,o+i,none⟩=some ((bM a s)[i]'(by simpa [bM] using h)))∧vJ w S a s
theorem zV.to {w w':World} {S S':Nat→Prop} {X:Nat→Prop} {b o:Nat} {s:aF} (h:zV w S b o s) (hk:Kept X w w') (hs:Safe S X w.heap.size) (h':∀b,S b→S' b):zV w' S' b o s:=by
 obtain ⟨a,hb,hz,hc,ho⟩:=h
 exact ⟨a,h' b hb,hz,fun i hi=>(hk.cell (hs b hb).1 (hs b hb).2).trans (hc i hi),ho.to hk hs h'⟩
def mW (w:World) (S:Nat→Prop) (a:Option Addr) (l:List aF):Prop:=0<l.length→∃b o,a=some ⟨b,o,none⟩∧∀i (h:i<l.length),zV w S b (o+i*24) l[i]
theorem mW.to {w w':World} {S S':Nat→Prop} {X:Nat→Prop} {a:Option Addr} {l:List aF} (h:mW w S a l) (hk:Kept X w w') (hs:Safe S X w.heap.size) (h':∀b,S b→S' b):mW w' S' a l:=by
 intro h0
 obtain ⟨b,o,rfl,hc⟩:=h h0
 exact ⟨b,o,rfl,fun i hi=>(hc i hi).to hk hs h'⟩
def aJ:List aj→Int
 | []=>0
 | x::r=>if fQ x=true then aJ r else 7
def isTarget (p:aB):Prop:=p.kind=3∨p.kind=4∨p.kind=5
instance (p:aB):Decidable (isTarget p):=by unfold isTarget;exact inferInstance
def dK:List Int→Int
 | []=>0
 | e::r=>if e=0 then dK r else e
def uQ (s:aj):Bool:=decide (s.size=0)||fQ s
def jG (s:aF):Int :=
 if ¬(uQ s.label=true∧uQ s.always=true∧uQ s.yes=true∧uQ s.bU=true) then 7
 else if s.always.size≠0∧(s.yes.size≠0∨s.bU.size≠0) then 8
 else if s.kind=1 then 0
 else if s.kind=2 then aV s.value
 else if s.kind=4 then dK [aV s.value,bJ s.pat]
 else if s.kind=3 then dK [aV s.target,if isTarget s.target then 0 else 8,aV s.value]
 else if s.kind=5 then dK [aV s.target,if isTarget s.target then 0 else 8,bJ s.pat,aV s.value]
 else if s.kind=6 then dK [aJ [s.name],bJ s.pat]
 else if s.kind=7 then dK [aJ [s.name],aJ s.params,aJ s.locals,aJ [s.entry],if 8<s.params.length∨8<s.locals.length then 5 else 0]
 else 1
end Go.Proofs.YtodebjhalipefaaGreatDoor

namespace Go.Proofs.YtodebjhalipefaaGreatDoor
set_option linter.all false
open Go.RowKit
theorem aU.open {w:World} {S:Nat→Prop} {b o:Nat} {p:aB} (h:aU w S b o p):S b∧(p.text.size<1000000000∧p.name.size<1000000000∧p.kids.length<1000000000)∧
  w.cell? ⟨b,o,none⟩=some (.int .i64 p.kind)∧w.cell? ⟨b,o+1,none⟩=some (.string p.text)∧w.cell? ⟨b,o+2,none⟩=some (.int .i64 p.n)∧w.cell? ⟨b,o+3,none⟩=some (.string p.name)∧
  ∃ka cap,w.cell? ⟨b,o+4,none⟩=some (.slice ka p.kids.length cap)∧aN w S ka p.kids:=by
 obtain ⟨k,t,n,nm,kids⟩:=p;unfold aU at h;exact h
def yQ (w:World) (S:Nat→Prop) (c:List Value) (p:aB):Prop :=
 ∃ka cap,c=[.int .i64 p.kind,.string p.text,.int .i64 p.n,.string p.name,.slice ka p.kids.length cap]∧(p.text.size<1000000000∧p.name.size<1000000000∧p.kids.length<1000000000)∧aN w S ka p.kids
def gI (w:World) (S:Nat→Prop):List Value→List aB→Prop
 | cs,[]=>cs=[]
 | cs,p::ps=>∃c rest,cs=c++rest∧yQ w S c p∧gI w S rest ps
theorem yQ.length {w:World} {S:Nat→Prop} {c:List Value} {p:aB} (h:yQ w S c p):c.length=5:=by obtain ⟨_,_,rfl,_⟩:=h;rfl
theorem yQ.one {w:World} {S:Nat→Prop} {c:List Value} {p:aB} (h:yQ w S c p):∀u∈c,u.oneCell'=true:=by
 obtain ⟨_,_,rfl,_⟩:=h;intro u hu;simp at hu;rcases hu with rfl|rfl|rfl|rfl|rfl<;>rfl
theorem gI.length {w:World} {S:Nat→Prop}:∀{l:List aB} {cs:List Value},gI w S cs l→cs.length=l.length*5
 | [],cs,h=>by rw [gI] at h;subst h;rfl
 | p::ps,cs,h=>by
  rw [gI] at h;obtain ⟨c,r,rfl,h1,h2⟩:=h
  rw [List.length_append,h1.length,h2.length,List.length_cons];omega
theorem gI.one {w:World} {S:Nat→Prop}:∀{l:List aB} {cs:List Value},gI w S cs l→∀u∈cs,u.oneCell'=true
 | [],cs,h=>by rw [gI] at h;subst h;intro u hu;simp at hu
 | p::ps,cs,h=>by
  rw [gI] at h;obtain ⟨c,r,rfl,h1,h2⟩:=h
  intro u hu;rcases List.mem_append.1 hu with hu|hu;exact h1.one u hu;exact h2.one u hu
theorem gI.append {w:World} {S:Nat→Prop}:∀{l l':List aB} {cs cs':List Value},gI w S cs l→gI w S cs' l'→gI w S (cs++cs') (l++l')
 | [],_,cs,_,h,h'=>by rw [gI] at h;subst h;exact h'
 | p::ps,_,cs,_,h,h'=>by
  rw [gI] at h;obtain ⟨c,r,rfl,h1,h2⟩:=h
  rw [List.append_assoc,List.cons_append,gI]
  exact ⟨c,_,rfl,h1,h2.append h'⟩
theorem yQ.kept {w w':World} {S:Nat→Prop} {X:Nat→Prop} {c:List Value} {p:aB} (h:yQ w S c p) (hk:Kept X w w') (hs:Safe S X w.heap.size):yQ w' S c p:=by
 obtain ⟨ka,cap,rfl,hz,hp⟩:=h;exact ⟨ka,cap,rfl,hz,hp.kept hk hs⟩
theorem gI.kept {w w':World} {S:Nat→Prop} {X:Nat→Prop}:∀{l:List aB} {cs:List Value},gI w S cs l→Kept X w w'→Safe S X w.heap.size→gI w' S cs l
 | [],_,h,_,_=>h
 | p::ps,cs,h,hk,hs=>by
  rw [gI] at h⊢;obtain ⟨c,r,rfl,h1,h2⟩:=h
  exact ⟨c,r,rfl,h1.kept hk hs,h2.kept hk hs⟩
theorem Vr (l:List aB) (j:Nat):bK (l.take j)≤bK l:=by
 induction l generalizing j with
 | nil=>simp
 | cons p ps ih=>cases j with
  | zero=>simp [bK]
  | succ j=>simp only [List.take_succ_cons,bK];have:=ih j;omega
end Go.Proofs.YtodebjhalipefaaGreatDoor

namespace Go.Proofs.YtodebjhalipefaaGreatDoor
set_option linter.all false
open Go.RowKit
def yB (ops:Array Oper) (n:Nat):Bool :=
 (List.range ops.size).all fun i=>match ops[i]? with
  | none=>false
  | some o=>o.guard.isNone&&(match o.dst with
    | none=>true
    | some d=>decide (d<n)&&(List.range ops.size).all fun j=>decide (j=i)||(match ops[j]? with|some p=>p.dst != some d|none=>true))
    && o.after.toList.all fun e=>decide (e.on<i)
section
variable {P:Program} {ops:Array Oper} {Q:Exit→Act→World→Prop}
theorem uI {n i:Nat} {o:Oper} (h:yB ops n=true) (ho:ops[i]?=some o) :
  o.guard=none∧(∀d,o.dst=some d→d<n∧∀j p,ops[j]?=some p→j≠i→p.dst≠some d)∧∀e∈o.after,e.on<i:=by
 have hi:i<ops.size:=(Array.getElem?_eq_some_iff.1 ho).1
 unfold yB at h
 have h1:=List.all_eq_true.1 h i (List.mem_range.2 hi)
 simp only [ho,Bool.and_eq_true] at h1
 obtain ⟨⟨h2,h3⟩,h4⟩:=h1
 refine ⟨by simpa using h2,fun d hd=>?_,fun e he=>?_⟩
 ·rw [hd] at h3
  simp only [Bool.and_eq_true,decide_eq_true_eq] at h3
  refine ⟨h3.1,fun j p hj hji=>?_⟩
  have hjs:j<ops.size:=(Array.getElem?_eq_some_iff.1 hj).1
  have h5:=List.all_eq_true.1 h3.2 j (List.mem_range.2 hjs)
  simp only [Bool.or_eq_true,decide_eq_true_eq,hj] at h5
  rcases h5 with h5|h5
  ·exact absurd h5 hji
  ·simpa using h5
 ·have:=List.all_eq_true.1 h4 e (by simpa using he)
  simpa using this
structure vV (ops:Array Oper) (Spec:Nat→Value→World→Prop) (a0:Act) (w0:World) (l:Nat→Bool) (a:Act) (w:World):Prop where
 kept:Kept aA w0 w
 defers:a.defers=a0.defers
 size:a.tmps.size=a0.tmps.size
 rest:∀(t:Nat),(∀(i:Nat) (o:Oper),ops[i]?=some o→o.dst≠some t)→a.tmps.getD t undef=a0.tmps.getD t undef
 done:∀(i:Nat) (o:Oper) (d:Nat),ops[i]?=some o→l i=true→o.dst=some d→Spec i (a.tmps.getD d undef) w
 todo:∀(i:Nat) (o:Oper) (d:Nat),ops[i]?=some o→l i=false→o.dst=some d→a.tmps.getD d undef=a0.tmps.getD d undef
 closed:∀(i:Nat) (o:Oper),ops[i]?=some o→l i=true→∀e∈o.after,Region.binds .any e=true→l e.on=true
theorem vV.put {Spec:Nat→Value→World→Prop} {a0:Act} {w0:World} {l l':Nat→Bool} {a:Act} {w w':World} {i:Nat} {o:Oper} {v:Value}
  (hok:yB ops a0.tmps.size=true) (hst:∀i v w w',Spec i v w→Kept aA w w'→Spec i v w') (h:vV ops Spec a0 w0 l a w) (ho:ops[i]?=some o)
  (hv:∀d,o.dst=some d→Spec i v w') (hk:Kept aA w w') (hl:∀j,l' j=true↔j=i∨l j=true) (haft:∀e∈o.after,Region.binds .any e=true→l e.on=true):vV ops Spec a0 w0 l' (a.put o.dst v) w':=by
 obtain ⟨_,hd,_⟩:=uI hok ho
 refine ⟨h.kept.trans hk,?_,?_,fun t ht=>?_,fun j p d hj hlj l9=>?_,fun j p d hj hlj l9=>?_,fun j p hj hlj e he hb=>?_⟩
 ·unfold Act.put;cases o.dst<;>exact h.defers
 ·unfold Act.put;cases o.dst
  ·exact h.size
  ·simp only [Array.size_setIfInBounds];exact h.size
 ·rw [←h.rest t ht]
  unfold Act.put
  cases hdst:o.dst with
  | none=>rfl
  | some d =>
   have hne:d≠t:=fun e=>ht i o ho (by rw [hdst,e])
   simp only [Array.getD_eq_getD_getElem?,Array.getElem?_setIfInBounds_ne hne]
 ·by_cases hji:j=i
  ·subst hji
   rw [ho] at hj;cases hj
   unfold Act.put
   rw [l9]
   simp only [Array.getD_eq_getD_getElem?,Array.getElem?_setIfInBounds_self_of_lt (show d<a.tmps.size by rw [h.size];exact (hd d l9).1),Option.getD_some]
   exact hv d l9
  ·have hold:=hst _ _ _ _ (h.done j p d hj (((hl j).1 hlj).resolve_left hji) l9) hk
   unfold Act.put
   cases hdst:o.dst with
   | none=>exact hold
   | some d' =>
    have hne:d'≠d:=fun e=>(hd d' hdst).2 j p hj hji (by rw [l9,e])
    simp only [Array.getD_eq_getD_getElem?,Array.getElem?_setIfInBounds_ne hne] at hold⊢
    exact hold
 ·have OC:l j=false:=by
   cases hx:l j with
   | false=>rfl
   | true=>rw [(hl j).2 (.inr hx)] at hlj;cases hlj
  have hji:j≠i:=fun e=>by rw [(hl j).2 (.inl e)] at hlj;cases hlj
  rw [←h.todo j p d hj OC l9]
  unfold Act.put
  cases hdst:o.dst with
  | none=>rfl
  | some d' =>
   have hne:d'≠d:=fun e=>(hd d' hdst).2 j p hj hji (by rw [l9,e])
   simp only [Array.getD_eq_getD_getElem?,Array.getElem?_setIfInBounds_ne hne]
 ·rcases (hl j).1 hlj with rfl|hx
  ·rw [ho] at hj;cases hj
   exact (hl _).2 (.inr (haft e he hb))
  ·exact (hl _).2 (.inr (h.closed j p hj hx e he hb))
theorem aa6 (Spec:Nat→Value→World→Prop) {id:Nat} {a0:Act} {w0:World} (hm:P.follows .mixedOrders=true) (hok:yB ops a0.tmps.size=true)
  (hst:∀i v w w',Spec i v w→Kept aA w w'→Spec i v w')
  (hstep:∀(i:Nat) (o:Oper),ops[i]?=some o→∀(l:Nat→Bool) (a:Act) (w:World),vV ops Spec a0 w0 l a w→l i=false→(∀e∈o.after,l e.on=true∨Region.binds .any e=false)→
   o.wp P a w (fun a' w'=>∃v,a'=a.put o.dst v∧(∀d,o.dst=some d→Spec i v w')∧Kept aA w w') Q)
  (hend:∀(a:Act) (w:World),vV ops Spec a0 w0 (fun _=>true) a w→Q .normal a w):(Code.region id ops true).wp P Q a0 w0:=by
 refine wp_region_any hm ?_
 have hall:∀(l:Array Bool),l.size=ops.size→Region.ready .any ops l=[]→∀i,i<ops.size→l.getD i true=true:=by
  intro l hls hr i
  induction i using Nat.strongRecOn with
  | _ i ih =>
   intro hi
   cases hg:l.getD i true with
   | true=>rfl
   | false =>
    exfalso
    have ho:ops[i]?=some ops[i]:=Array.getElem?_eq_getElem hi
    have hm':i∈Region.ready .any ops l:=mem_ready.2 ⟨hg,ops[i],ho,fun e he _=>by
     have hlt:=(uI hok ho).2.2 e he
     have:=ih e.on hlt (by omega)
     rw [Array.getD_eq_getD_getElem?] at this⊢
     rw [Array.getElem?_eq_getElem (by omega)] at this⊢
     exact this⟩
    rw [hr] at hm';cases hm'
 have main:∀(fuel:Nat) (l:Array Bool) (a:Act) (w:World),l.size=ops.size→(List.range ops.size).countP (fun i=>!l.getD i true)≤fuel→
   vV ops Spec a0 w0 (fun i=>l.getD i true) a w→wpAny P .any ops Q fuel l a w:=by
  intro fuel
  have fin:∀(l:Array Bool) (a:Act) (w:World),l.size=ops.size→Region.ready .any ops l=[]→vV ops Spec a0 w0 (fun i=>l.getD i true) a w→Q .normal a w :=
   fun l a w hls hr h=>hend a w ⟨h.kept,h.defers,h.size,h.rest,fun i o d ho _ hd=>h.done i o d ho (hall l hls hr i (Array.getElem?_eq_some_iff.1 ho).1) hd,fun _ _ _ _ h=>(by cases h),fun _ _ _ _ _ _ _=>rfl⟩
  induction fuel with
  | zero =>
   intro l a w hls hc h
   have hr:Region.ready .any ops l=[]:=List.eq_nil_iff_forall_not_mem.2 fun i hi=>by
    obtain ⟨hg,o,ho,_⟩:=mem_ready.1 hi
    have hlt:=(Array.getElem?_eq_some_iff.1 ho).1
    have h0:(List.range ops.size).countP (fun i=>!l.getD i true)=0:=by omega
    have:=List.countP_eq_zero.1 h0 i (List.mem_range.2 hlt)
    rw [hg] at this;exact this rfl
   exact ⟨hr,fin l a w hls hr h⟩
  | succ fuel ih =>
   intro l a w hls hc h
   refine ⟨fun hr=>fin l a w hls hr h,fun i hi=>?_⟩
   obtain ⟨hg,o,ho,haft⟩:=mem_ready.1 hi
   have hlt:=(Array.getElem?_eq_some_iff.1 ho).1
   have hgd:=(uI hok ho).1
   have hw:Region.wanted o (yielded ops a.tmps)=true:=by simp [Region.wanted,hgd]
   unfold wpOp
   simp only [ho,hw,if_true]
   refine .inl (Oper.wp_mono ?_ (hstep i o ho _ a w h hg fun e he=>?_))
   ·rintro a' w' ⟨v,rfl,hv,hk⟩
    have hset:∀j,(l.setIfInBounds i true).getD j true=true↔j=i∨l.getD j true=true:=by
     intro j
     by_cases hji:j=i
     ·subst hji
      simp only [Array.getD_eq_getD_getElem?,Array.getElem?_setIfInBounds_self_of_lt (show j<l.size by omega),Option.getD_some,true_or]
     ·simp only [Array.getD_eq_getD_getElem?,Array.getElem?_setIfInBounds_ne (Ne.symm hji),hji,false_or]
    refine ih _ _ _ (by rw [Array.size_setIfInBounds];exact hls) ?_ (h.put hok hst ho hv hk (fun j=>hset j) fun e he hb=>?_)
    rotate_left
    ·have:=haft e he hb
     rw [Array.getD_eq_getD_getElem?] at this⊢
     cases hx:l[e.on]? with
     | none=>rw [hx] at this;cases this
     | some b=>rw [hx] at this;simpa using this
    have hc2:(List.range ops.size).countP (fun j=>!(l.setIfInBounds i true).getD j true)+1≤(List.range ops.size).countP (fun j=>!l.getD j true):=by
     have key:∀(r:List Nat),r.Nodup→(r.countP (fun j=>!(l.setIfInBounds i true).getD j true))+(if i∈r then 1 else 0)=r.countP (fun j=>!l.getD j true):=by
      intro r
      induction r with
      | nil=>intro _;rfl
      | cons j r ihr =>
       intro hn
       obtain ⟨hj1,hj2⟩:=List.nodup_cons.1 hn
       have ihr:=ihr hj2
       simp only [List.countP_cons,List.mem_cons]
       by_cases hji:j=i
       ·subst hji
        rw [if_neg hj1] at ihr
        have e1:(l.setIfInBounds j true).getD j true=true:=(hset j).2 (.inl rfl)
        rw [e1,hg]
        simp only [Bool.not_true,Bool.not_false,Bool.false_eq_true,if_false,if_true,true_or]
        omega
       ·have e1:(l.setIfInBounds i true).getD j true=l.getD j true:=by
         simp only [Array.getD_eq_getD_getElem?,Array.getElem?_setIfInBounds_ne (Ne.symm hji)]
        have e2:(i=j∨i∈r)↔i∈r:=⟨fun h=>h.resolve_left (Ne.symm hji),.inr⟩
        rw [e1]
        simp only [e2];omega
     have:=key (List.range ops.size) List.nodup_range
     rw [if_pos (List.mem_range.2 hlt)] at this
     omega
    omega
   ·cases hb:Region.binds .any e with
    | false=>exact .inr rfl
    | true =>
     left
     have:=haft e he hb
     rw [Array.getD_eq_getD_getElem?] at this⊢
     cases hx:l[e.on]? with
     | none=>rw [hx] at this;cases this
     | some b=>rw [hx] at this;simpa using this
 refine main _ _ _ _ (by simp) ?_ ⟨(Kept.refl aA w0).drew,rfl,rfl,fun _ _=>rfl,fun i o d ho hl _=>?_,fun _ _ _ _ _ _=>rfl,fun i o ho hl=>?_⟩
 ·exact Nat.le_trans List.countP_le_length (by simp)
 all_goals
  exfalso
  have hlt:=(Array.getElem?_eq_some_iff.1 ho).1
  simp [Array.getD_eq_getD_getElem?,hlt] at hl
theorem gZ {i:Nat} {o:Oper} {x:Act} {w:World} {v:Value} {R:Nat→Value→World→Prop} (hr:(execOp x.eval o).run P w=.ok (.value v) w) (hs:R i v w) :
  o.wp P x w (fun a' w'=>∃v,a'=x.put o.dst v∧(∀d,o.dst=some d→R i v w')∧Kept aA w w') Q:=by
 unfold Oper.wp
 rw [hr]
 exact ⟨v,rfl,fun _ _=>hs,Kept.refl _ _⟩
theorem zI {i:Nat} {o:Oper} {x:Act} {w w':World} {v:Value} {R:Nat→Value→World→Prop} (hr:(execOp x.eval o).run P w=.ok (.value v) w') (hk:Kept aA w w') (hs:R i v w') :
  o.wp P x w (fun a' w'=>∃v,a'=x.put o.dst v∧(∀d,o.dst=some d→R i v w')∧Kept aA w w') Q:=by
 unfold Oper.wp
 rw [hr]
 exact ⟨v,rfl,fun _ _=>hs,hk⟩
theorem rM {i:Nat} {o:Oper} {x:Act} {w:World} {f:FuncId} {args:Array Value} {R:Nat→Value→World→Prop} (hr:(execOp x.eval o).run P w=.ok (.enter f args) w)
  (hc:Calls P f args w fun e w'=>∃v,e=.returned v∧R i v w'∧Kept aA w w') :
  o.wp P x w (fun a' w'=>∃v,a'=x.put o.dst v∧(∀d,o.dst=some d→R i v w')∧Kept aA w w') Q:=by
 unfold Oper.wp
 rw [hr]
 refine Calls.mono hc ?_
 rintro e w' ⟨v,rfl,hs,hk⟩
 exact ⟨v,rfl,fun _ _=>hs,hk⟩
theorem vV.keep {Spec:Nat→Value→World→Prop} {a0:Act} {w0:World} {l:Nat→Bool} {a:Act} {w:World} (h:vV ops Spec a0 w0 l a w) (t:Nat) (v:Value) (hv:a0.tmps.getD t undef=v) (hn:(ops.toList.all fun o=>o.dst != some t)=true):a.eval (.tmp t)=v:=by
 show a.tmps.getD t undef=v
 rw [h.rest t fun i o ho e=>?_,hv]
 have:=List.all_eq_true.1 hn o (by rw [←Array.mem_def];exact Array.mem_of_getElem? ho)
 rw [e] at this;simp at this
theorem vV.dep {Spec:Nat→Value→World→Prop} {a0:Act} {w0:World} {l:Nat→Bool} {a:Act} {w:World} (h:vV ops Spec a0 w0 l a w) {after:Array Edge} (haft:∀e∈after,l e.on=true∨Region.binds .any e=false) (i t:Nat) {o:Oper}
  (ho:ops[i]?=some o) (hd:o.dst=some t) (he:(after.toList.any fun e=>e.on==i&&Region.binds .any e)=true):Spec i (a.eval (.tmp t)) w:=by
 obtain ⟨e,hm,hb⟩:=List.any_eq_true.1 he
 simp only [Bool.and_eq_true,beq_iff_eq] at hb
 obtain ⟨rfl,hb⟩:=hb
 refine h.done e.on o t ho ?_ hd
 rcases haft e (by simpa using hm) with h1|h1
 ·exact h1
 ·rw [hb] at h1;cases h1
theorem vV.late {Spec:Nat→Value→World→Prop} {a0:Act} {w0:World} {l:Nat→Bool} {a:Act} {w:World} (h:vV ops Spec a0 w0 l a w) {i:Nat} (hi:l i=false) (j t:Nat) {o:Oper}
  (ho:ops[j]?=some o) (hd:o.dst=some t) (he:(o.after.toList.any fun e=>e.on==i&&Region.binds .any e)=true) (v:Value) (hv:a0.tmps.getD t undef=v):a.eval (.tmp t)=v:=by
 show a.tmps.getD t undef=v
 rw [←hv]
 refine h.todo j o t ho ?_ hd
 cases hx:l j with
 | false=>rfl
 | true =>
  obtain ⟨e,hm,hb⟩:=List.any_eq_true.1 he
  simp only [Bool.and_eq_true,beq_iff_eq] at hb
  have:=h.closed j o ho hx e (by simpa using hm) hb.2
  rw [hb.1,hi] at this;cases this
def gQ (f:Nat→Value) (t:Array Value) (ds:List Nat):Array Value:=ds.foldl (fun t d=>t.setIfInBounds d (f d)) t
theorem Ar (f:Nat→Value) (k:Nat):∀(ds:List Nat) (t:Array Value),(gQ f t ds)[k]?=if k∈ds∧k<t.size then some (f k) else t[k]?
 | [],t=>by simp [gQ]
 | d::ds,t=>by
  have ih:=Ar f k ds (t.setIfInBounds d (f d))
  have e:gQ f t (d::ds)=gQ f (t.setIfInBounds d (f d)) ds:=rfl
  rw [e,ih,Array.size_setIfInBounds]
  by_cases h1:k∈ds∧k<t.size
  ·rw [if_pos h1,if_pos ⟨List.mem_cons_of_mem _ h1.1,h1.2⟩]
  ·rw [if_neg h1]
   by_cases h2:k=d
   ·subst h2
    by_cases h3:k<t.size
    ·rw [if_pos ⟨List.mem_cons_self ..,h3⟩,Array.getElem?_setIfInBounds_self_of_lt h3]
    ·rw [if_neg (fun h=>h3 h.2),Array.getElem?_eq_none (by rw [Array.size_setIfInBounds];omega),Array.getElem?_eq_none (by omega)]
   ·rw [if_neg (fun h=>by rcases List.mem_cons.1 h.1 with h4|h4;exact h2 h4;exact h1 ⟨h4,h.2⟩),Array.getElem?_setIfInBounds_ne (Ne.symm h2)]
theorem vV.act {Spec:Nat→Value→World→Prop} {a0:Act} {w0:World} {l:Nat→Bool} {a:Act} {w:World} (h:vV ops Spec a0 w0 l a w) (ds:List Nat) (hds:ops.toList.filterMap (·.dst)=ds) :
  a=⟨gQ (fun t=>a.tmps.getD t undef) a0.tmps ds,a0.defers⟩:=by
 obtain ⟨tm,df⟩:=a
 have e1:=h.defers
 have e2:=h.size
 dsimp only at e1 e2⊢
 rw [e1]
 congr 1
 refine Array.ext_getElem? fun k=>?_
 rw [Ar]
 by_cases hk:k∈ds∧k<a0.tmps.size
 ·rw [if_pos hk,Array.getElem?_eq_getElem (by omega),Array.getD_eq_getD_getElem?,Array.getElem?_eq_getElem (by omega)];rfl
 ·rw [if_neg hk]
  by_cases h2:k<a0.tmps.size
  ·have h3:=h.rest k fun i o ho e=>hk ⟨by rw [←hds];exact List.mem_filterMap.2 ⟨o,by rw [←Array.mem_def];exact Array.mem_of_getElem? ho,e⟩,h2⟩
   dsimp only at h3
   rw [Array.getD_eq_getD_getElem?,Array.getD_eq_getD_getElem?,Array.getElem?_eq_getElem (show k<tm.size by omega),Array.getElem?_eq_getElem h2] at h3
   rw [Array.getElem?_eq_getElem (show k<tm.size by omega),Array.getElem?_eq_getElem h2]
   simpa using h3
  ·rw [Array.getElem?_eq_none (by omega),Array.getElem?_eq_none (by omega)]
theorem CZ (Spec:Nat→Value→World→Prop) {id:Nat} {a0:Act} {w0:World} (ds:List Nat) (hds:ops.toList.filterMap (·.dst)=ds) (hm:P.follows .mixedOrders=true) (hok:yB ops a0.tmps.size=true)
  (hst:∀i v w w',Spec i v w→Kept aA w w'→Spec i v w')
  (hstep:∀(i:Nat) (o:Oper),ops[i]?=some o→∀(l:Nat→Bool) (a:Act) (w:World),vV ops Spec a0 w0 l a w→l i=false→(∀e∈o.after,l e.on=true∨Region.binds .any e=false)→
   o.wp P a w (fun a' w'=>∃v,a'=a.put o.dst v∧(∀d,o.dst=some d→Spec i v w')∧Kept aA w w') Q)
  (hend:∀(f:Nat→Value) (w:World),Kept aA w0 w→(∀(i:Nat) (o:Oper) (d:Nat),ops[i]?=some o→o.dst=some d→Spec i (f d) w)→Q .normal ⟨gQ f a0.tmps ds,a0.defers⟩ w):(Code.region id ops true).wp P Q a0 w0:=by
 refine aa6 Spec hm hok hst hstep fun a w h=>?_
 rw [h.act ds hds]
 exact hend _ w h.kept fun i o d ho hd=>h.done i o d ho rfl hd
end
end Go.Proofs.YtodebjhalipefaaGreatDoor

namespace Go.Proofs.YtodebjhalipefaaGreatDoor
set_option linter.all false
open Go.RowKit
theorem gI.at {w:World} {S:Nat→Prop}:∀{l:List aB} {cs:List Value},gI w S cs l→∀(g o:Nat),(∀j u,cs[j]?=some u→w.cell? ⟨g,o+j,none⟩=some u)→
  ∀(j:Nat) (hj:j<l.length),aU w (fun b=>S b∨b=g) g (o+j*5) l[j]
 | [],cs,h,g,o,hc,j,hj=>by simp at hj
 | p::ps,cs,h,g,o,hc,j,hj=>by
  rw [gI] at h;obtain ⟨c,r,rfl,⟨ka,cap,rfl,hz,hk⟩,h2⟩:=h
  cases j with
  | zero =>
   obtain ⟨k,t,n,nm,kids⟩:=p
   rw [List.getElem_cons_zero];unfold aU
   refine ⟨.inr rfl,hz,hc 0 _ rfl,hc 1 _ rfl,hc 2 _ rfl,hc 3 _ rfl,ka,cap,hc 4 _ rfl,aN.same (fun _ _=>rfl) (fun b h=>.inl h) _ _ hk⟩
  | succ j =>
   rw [List.getElem_cons_succ,show o+(j+1)*5=o+5+j*5 by omega]
   refine h2.at g (o+5) (fun i u hi=>?_) j (by simpa using hj)
   rw [show o+5+i=o+(5+i) by omega];exact hc _ _ (by rw [List.getElem?_append_right (by simp)];simpa using hi)
end Go.Proofs.YtodebjhalipefaaGreatDoor

namespace Go.Proofs.YtodebjhalipefaaGreatDoor
set_option linter.all false
open Go.RowKit
set_option maxRecDepth 100000
theorem MZ {w:World} {b o:Nat} {sa:gW} {s:aF} (hc:∀i (h:i<24),w.cell? ⟨b,o+i,none⟩=some ((bM sa s)[i]'(by simpa [bM] using h))) :
  (Instr.loadAt 69 (.pointer (some ⟨b,o,none⟩))).run Tryz.prog w=.ok (dN sa s) w:=by
 have h1:=run_loadCells_list (P:=Tryz.prog) w ⟨b,o,none⟩ (bM sa s) (fun j v hv=>by
  obtain ⟨hlt,rfl⟩:=List.getElem?_eq_some_iff.1 hv
  have e1:(⟨b,o,none⟩:Addr).add j=⟨b,o+j,none⟩:=by unfold Addr.add;split<;>simp_all
  rw [e1];exact hc j (by simpa [bM] using hlt))
 have hag:(isAgg 69).run Tryz.prog w=.ok true w:=by kernel_rfl
 have hsz:(sizeOf 69).run Tryz.prog w=.ok 24 w:=by kernel_rfl
 have hlen:(bM sa s).length=24:=rfl
 rw [hlen] at h1
 unfold Instr.loadAt loadVar
 simp only [Instr.sureAddr,Sem.run_bind,Sem.run_pure,Result.andThen_ok,hag,hsz,h1,if_true]
 rfl
theorem QZ {w:World} {g:Nat} {old:Array Value} {sa:gW} {s:aF} (hg:w.heap[g]?=some (.cells old 69 (0,0))) (ho:old.size=24) :
  ∃w',(Instr.storeAt 69 (.pointer (some ⟨g,0,none⟩)) (dN sa s)).run Tryz.prog w=.ok () w'∧bT g sa s w'∧Kept (· = g) w w':=by
 have h:=run_storeVar_row (P:=Tryz.prog) w g 69 69 old (bM sa s).toArray hg (by kernel_rfl) (by rw [ho];rfl) (by simp [bM,Value.oneCell'])
 refine ⟨_,h,?_,?_⟩
 ·exact setRow_heap w g old _ _ _ hg
 ·exact ⟨rfl,rfl,rfl,by simp,fun k _ hx=>setRow_other w g k _ hx⟩
theorem jS {ops:Array Oper} {rest:List Oper} {o:Oper} {a:Act} {Q:Exit→Act→World→Prop} {w:World} (hgd:o.guard=none) (p:Operand) (ho:o.op=.load 69 p)
  (b of:Nat) (hp:a.eval p=.pointer (some ⟨b,of,none⟩)) (sa:gW) (s:aF) (hc:∀i (h:i<24),w.cell? ⟨b,of+i,none⟩=some ((bM sa s)[i]'(by simpa [bM] using h)))
  (h:wpList Tryz.prog ops Q rest (a.put o.dst (dN sa s)) w):wpList Tryz.prog ops Q (o::rest) a w:=by
 refine wpList_plain hgd fun K hK=>?_
 have hr:(execOp a.eval o).run Tryz.prog w=.ok (.value (dN sa s)) w:=by
  unfold execOp
  rw [ho]
  simp only [hp,Sem.run_bind,MZ hc,Result.andThen_ok,Sem.run_pure]
 unfold Oper.wp
 rw [hr]
 exact hK _ _ h
theorem iC {ops:Array Oper} {rest:List Oper} {o:Oper} {a:Act} {Q:Exit→Act→World→Prop} {w:World} (hgd:o.guard=none) (p x:Operand) (ho:o.op=.store 69 p x)
  (g:Nat) (hp:a.eval p=.pointer (some ⟨g,0,none⟩)) (sa:gW) (s:aF) (hx:a.eval x=dN sa s) (old:Array Value) (hg:w.heap[g]?=some (.cells old 69 (0,0))) (hold:old.size=24)
  (h:∀w',bT g sa s w'→Kept (· = g) w w'→wpList Tryz.prog ops Q rest (a.put o.dst undef) w'):wpList Tryz.prog ops Q (o::rest) a w:=by
 refine wpList_plain hgd fun K hK=>?_
 obtain ⟨w',hr,hB,hk⟩:=QZ (sa:=sa) (s:=s) hg hold
 have hr2:(execOp a.eval o).run Tryz.prog w=.ok .skip w':=by
  unfold execOp
  rw [ho]
  simp only [hp,hx,Sem.run_bind,hr,Result.andThen_ok,Sem.run_pure]
 unfold Oper.wp
 rw [hr2]
 exact hK _ _ (h w' hB hk)
end Go.Proofs.YtodebjhalipefaaGreatDoor

namespace Go.Proofs.YtodebjhalipefaaGreatDoor
set_option linter.all false
open Go.RowKit
def Fl (N:Nat) (a b:Int) (w:World):Prop:=w.heap[N]?=some (.cells #[.int .i64 a,.int .i64 b] 39 (0,0))
theorem Fl.lt {N:Nat} {a b:Int} {w:World} (h:Fl N a b w):N<w.heap.size:=(Array.getElem?_eq_some_iff.1 h).1
theorem Fl.kept {N:Nat} {a b:Int} {w w':World} {X:Nat→Prop} (h:Fl N a b w) (hk:Kept X w w') (hx:¬X N):Fl N a b w':=by
 unfold Fl;rw [hk.block N h.lt hx];exact h
theorem Fl.cells {N:Nat} {a b:Int} {w:World} (h:Fl N a b w):w.cell? ⟨N,0,none⟩=some (.int .i64 a)∧w.cell? ⟨N,1,none⟩=some (.int .i64 b)∧w.frozen? ⟨N,0,none⟩=false∧w.frozen? ⟨N,1,none⟩=false:=by
 unfold Fl at h
 exact ⟨by rw [cell_of_row w N _ _ _ _ h];rfl,by rw [cell_of_row w N _ _ _ _ h];rfl,by simp [World.frozen?,h],by simp [World.frozen?,h]⟩
theorem Fl.set {N:Nat} {a b:Int} {w:World} (h:Fl N a b w) (c d:Int):Fl N c d ((w.setCell ⟨N,0,none⟩ (.int .i64 c)).setCell ⟨N,1,none⟩ (.int .i64 d)):=by
 unfold Fl at *
 simp [World.setCell,Array.getElem?_modify,h]
theorem rZ {f:Func} {tmps:Array Value} {v:Value} {w2:World} {F:Nat} {a b:Int} {Q:Ending→World→Prop} (hres:f.results = #[.tmp 2,.cell 3 39]) (h2:tmps.getD 2 undef=v) (h3:tmps.getD 3 undef=.pointer (some ⟨F,0,none⟩)) (hF:Fl F a b w2)
  (hq:Q (.returned (.tuple #[v,.agg #[.int .i64 a,.int .i64 b]])) w2):bodyPost Tryz.prog f Q .ret ⟨tmps,[]⟩ w2:=by
 obtain ⟨h0,h1,_,_⟩:=hF.cells
 have ht2:tmps[2]?.getD undef=v:=by rw [←h2,Array.getD_eq_getD_getElem?]
 have ht3:tmps[3]?.getD undef=.pointer (some ⟨F,0,none⟩):=by rw [←h3,Array.getD_eq_getD_getElem?]
 exact bodyPost_ret (v:=.tuple #[v,.agg #[.int .i64 a,.int .i64 b]]) (by simp [results,hres,go_sem,ht2,ht3,h0,h1]) rfl hq
end Go.Proofs.YtodebjhalipefaaGreatDoor

namespace Go.Proofs.YtodebjhalipefaaGreatDoor
set_option linter.all false
open Go.RowKit
def lK (l:List UInt8):aj:=⟨l.toArray⟩
def Qh:List aj:=[lK [],lK [],lK [76,69,78],lK [65,78,89],lK [78,79,84,65,78,89],lK [83,80,65,78],lK [66,82,69,65,75],lK [66,82,69,65,75,88],lK [84,65,66],lK [82,84,65,66],lK [80,79,83],lK [82,80,79,83],lK [82,69,77],lK [65,82,66],lK [66,65,76],lK [70,65,73,76],lK [70,69,78,67,69],lK [65,66,79,82,84],lK [],lK [],lK [65,82,66,78,79]]
def qg (W:Nat) (w:World):Prop:=w.heap[W]?=some (.cells (Qh.map Value.string).toArray 9 (0,0))
theorem qg.lt {W:Nat} {w:World} (h:qg W w):W<w.heap.size:=(Array.getElem?_eq_some_iff.1 h).1
theorem qg.cell {W:Nat} {w:World} (h:qg W w) (j:Nat) (hj:j<Qh.length):w.cell? ⟨W,0+j,none⟩=some (.string (Qh.getD j ByteArray.empty)):=by
 rw [cell_of_row w W (0+j) _ _ _ h,Nat.zero_add]
 simp [List.getD_eq_getElem?_getD,List.getElem?_eq_getElem hj]
theorem qg.kept {W:Nat} {w w':World} {X:Nat→Prop} (h:qg W w) (hk:Kept X w w') (hx:¬X W):qg W w':=by
 unfold qg;rw [hk.block W h.lt hx];exact h
end Go.Proofs.YtodebjhalipefaaGreatDoor

namespace Go.Proofs.YtodebjhalipefaaGreatDoor
set_option linter.all false
open Go.RowKit
set_option maxRecDepth 100000
set_option maxHeartbeats 1000000
abbrev Er:=Int×Nat
abbrev Res (α:Type):=Except Er (α×Nat)
def skip (s:aj) (i:Nat):Nat:=i+((s.data.toList.drop i).takeWhile fun c=>c==32).length
def peek (s:aj) (i:Nat):Int:=if h:i<s.size then (s[i].toNat:Int) else -1
theorem drop_cons {s:aj} {i:Nat} (h:i<s.size):s.data.toList.drop i=s[i]::s.data.toList.drop (i+1):=by
 have h':i<s.data.toList.length:=by simpa using h
 rw [List.drop_eq_getElem_cons h'];rfl
theorem drop_end {s:aj} {i:Nat} (h:s.size≤i):s.data.toList.drop i=[]:=List.drop_of_length_le (by simpa using h)
theorem VD {s:aj} {i:Nat} (h:i<s.size) (hb:s[i].toNat=32):skip s i=skip s (i+1):=by
 have:s[i]=32:=UInt8.toNat_inj.1 (by simpa using hb)
 unfold skip
 rw [drop_cons h,List.takeWhile_cons,if_pos (by simp [this]),List.length_cons];omega
theorem Zb {s:aj} {i:Nat} (h:i<s.size) (hb:s[i].toNat≠32):skip s i=i:=by
 unfold skip
 rw [drop_cons h,List.takeWhile_cons,if_neg (by simp;intro e;exact hb (by rw [e];rfl))];simp
theorem abw {s:aj} {i:Nat} (h:s.size≤i):skip s i=i:=by
 unfold skip;rw [drop_end h];simp
theorem adF (s:aj) (i:Nat):i≤skip s i:=by unfold skip;omega
theorem adG {s:aj} {i:Nat} (h:i≤s.size):skip s i≤s.size:=by
 unfold skip
 have:=(List.takeWhile_sublist (fun c=>c==(32:UInt8)) (l:=s.data.toList.drop i)).length_le
 rw [List.length_drop] at this
 have e:s.data.toList.length=s.size:=rfl
 omega
def qJ (c:UInt8):Bool:=iZ c||cu c
def dF (f:UInt8→Bool) (s:aj) (i:Nat):Nat:=i+((s.data.toList.drop i).takeWhile f).length
theorem zT {f:UInt8→Bool} {s:aj} {i:Nat} (h:i<s.size) (hb:f s[i]=true):dF f s i=dF f s (i+1):=by
 unfold dF
 rw [drop_cons h,List.takeWhile_cons,if_pos hb,List.length_cons];omega
theorem Zc {f:UInt8→Bool} {s:aj} {i:Nat} (h:i<s.size) (hb:f s[i]=false):dF f s i=i:=by
 unfold dF
 rw [drop_cons h,List.takeWhile_cons,if_neg (by simp [hb])];simp
theorem run_end {f:UInt8→Bool} {s:aj} {i:Nat} (h:s.size≤i):dF f s i=i:=by
 unfold dF;rw [drop_end h];simp
theorem Zd (f:UInt8→Bool) (s:aj) (i:Nat):i≤dF f s i:=by unfold dF;omega
theorem Ze {f:UInt8→Bool} {s:aj} {i:Nat} (h:i≤s.size):dF f s i≤s.size:=by
 unfold dF
 have:=(List.takeWhile_sublist f (l:=s.data.toList.drop i)).length_le
 rw [List.length_drop] at this
 have e:s.data.toList.length=s.size:=rfl
 omega
def EU (c:Nat) (s:aj) (i:Nat):Bool×Nat:=if peek s (skip s i)=c then (true,skip s i+1) else (false,skip s i)
def wO (c:Nat) (s:aj) (i:Nat):Except Er Nat:=if peek s (skip s i)=c then .ok (skip s i+1) else .error (2,skip s i)
def ag2 (er:Er):Value:=.iface 290 (.agg #[.int .i64 er.1,.int .i64 er.2])
structure jc (N W:Nat) (s:aj) (i d:Nat) (w:World):Prop where
 blk:w.heap[N]?=some (.cells #[.string s,.int .i64 i,.slice (some ⟨W,0,none⟩) 21 21,.int .i64 d] 294 (0,0))
 ne:N≠W
 words:qg W w
theorem jc.ltW {N W i d:Nat} {s:aj} {w:World} (h:jc N W s i d w):W<w.heap.size:=h.words.lt
theorem jc.lt {N W i d:Nat} {s:aj} {w:World} (h:jc N W s i d w):N<w.heap.size:=(Array.getElem?_eq_some_iff.1 h.blk).1
theorem jc.c0 {N W i d:Nat} {s:aj} {w:World} (h:jc N W s i d w):w.cell? ⟨N,0,none⟩=some (.string s):=by rw [cell_of_row w N 0 _ _ _ h.blk];rfl
theorem jc.c1 {N W i d:Nat} {s:aj} {w:World} (h:jc N W s i d w):w.cell? ⟨N,1,none⟩=some (.int .i64 i):=by rw [cell_of_row w N 1 _ _ _ h.blk];rfl
theorem jc.c2 {N W i d:Nat} {s:aj} {w:World} (h:jc N W s i d w):w.cell? ⟨N,2,none⟩=some (.slice (some ⟨W,0,none⟩) 21 21):=by rw [cell_of_row w N 2 _ _ _ h.blk];rfl
theorem jc.c3 {N W i d:Nat} {s:aj} {w:World} (h:jc N W s i d w):w.cell? ⟨N,3,none⟩=some (.int .i64 d):=by rw [cell_of_row w N 3 _ _ _ h.blk];rfl
theorem jc.fr {N W i d:Nat} {s:aj} {w:World} (h:jc N W s i d w) (o:Nat):w.frozen? ⟨N,o,none⟩=false:=by simp [World.frozen?,h.blk]
theorem aO {w:World} {N o:Nat} {cs:Array Value} {t:TypeId} {fr:Nat×Nat} (h:w.heap[N]?=some (.cells cs t fr)) (u:Value) :
  (w.setCell ⟨N,o,none⟩ u).heap[N]?=some (.cells (cs.setIfInBounds o u) t fr):=by
 simp [World.setCell,Array.getElem?_modify,h]
theorem jc.setAt {N W i d:Nat} {s:aj} {w:World} (h:jc N W s i d w) (k:Nat):jc N W s k d (w.setCell ⟨N,1,none⟩ (.int .i64 k)):=⟨by rw [aO h.blk];rfl,h.ne,h.words.kept ((Kept.refl (· = N) w).setCell (.inl rfl) _) (Ne.symm h.ne)⟩
theorem jc.kept {N W i d:Nat} {s:aj} {w w':World} {X:Nat→Prop} (h:jc N W s i d w) (hk:Kept X w w') (hx:¬X N) (hy:¬X W):jc N W s i d w':=⟨by rw [hk.block N h.lt hx];exact h.blk,h.ne,h.words.kept hk hy⟩
theorem jc.drewN {N W i d:Nat} {s:aj} {w:World} (h:jc N W s i d w) (n:Nat):jc N W s i d (w.drewN n):=⟨h.blk,h.ne,h.words⟩
theorem Zf (c:UInt8):wrap64 (c.toNat:Int)=c.toNat:=by have:=c.toNat_lt;unfold wrap64;omega
def xI (N W:Nat) (s:aj) (i d:Nat) (w:World) (e:Ending) (w':World):Prop :=
 e=.returned (.int .i64 (peek s (skip s i)))∧jc N W s (skip s i) d w'∧Kept (· = N) w w'
theorem next_any (N W:Nat) (s:aj) (i d:Nat) (w:World) (hr:jc N W s i d w) (hi:i≤s.size) (hs:s.size≤1000000000) :
  Calls Tryz.prog 206 #[.pointer (some ⟨N,0,none⟩)] w (xI N W s i d w):=by
 have HR:=ah hr;clear hr
 go_enter Tryz.func206, Tryz.ntmps206
 go_wp2_with fail
 go_loopg [] (s.size-i) (fun f wr=>∃k,i≤k∧k≤s.size∧f=s.size-k∧Hid (skip s k=skip s i)∧jc N W s k d wr∧Kept (· = N) w wr)
 case atStart=>exact ⟨i,Nat.le_refl _,hi,rfl,rfl,HR.out,Kept.refl _ _⟩
 case round =>
  obtain ⟨k,hk1,hk2,rfl,hsk,hR,hK⟩:=hrel
  have q0:=hR.c0;have q1:=hR.c1;have f1:=hR.fr 1
  have R1:=ah hR;have K1:=ah hK
  clear hR hK
  by_cases hlt:k<s.size
  ·have g1:decide ((k:Int)<(s.size:Int))=true:=ak (by omega)
   have bi:(k:Int)<(s.size:Int):=by omega
   by_cases hb:s[k].toNat=32
   ·have g2:((s[k].toNat:Int)==32)=true:=by simp;omega
    have hs1:Hid (skip s (k+1)=skip s i):=(VD hlt hb).symm.trans hsk.out
    clear hb
    go_wp2_with fail
    go_quiet (fail)
    have R2:=(R1.out.drewN nq).setAt (k+1)
    have K2:=(K1.out.drewN nq).setCell (p:=⟨N,1,none⟩) (.inl rfl) (.int .i64 ((k+1:Nat):Int))
    have RR:=ah R2;have KK:=ah K2;clear R2 K2
    go_wp2_with fail
    go_roundg (s.size-(k+1))
    case measure=>omega
    case rel=>exact ⟨k+1,by omega,by omega,rfl,hs1,RR.out,KK.out⟩
   ·have g2:((s[k].toNat:Int)==32)=false:=by simp;omega
    have e1:Hid (skip s i=k):=hsk.out.symm.trans (Zb hlt hb)
    have bsz:((k:Int)==(s.size:Int))=false:=by simp;omega
    have fin:Hid (∀x w',x=(s[k].toNat:Int)→jc N W s k d w'→Kept (· = N) w w'→xI N W s i d w (.returned (.int .i64 x)) w'):=fun x w' hx h1 h2=>by
     unfold xI;rw [e1.out];exact ⟨by unfold peek;rw [dif_pos hlt,hx],h1,h2⟩
    clear hb
    go_wp2_with fail
    go_quiet (fail)
    go_wp2_with fail
    go_quiet (fail)
    go_wp2_with fail
    go_quiet (fail)
    go_wp2_with fail
    go_ret
    exact fin.out _ _ (Zf _) (((R1.out.drewN _).drewN _).drewN _) (((K1.out.drewN _).drewN _).drewN _)
  ·have g1:decide ((k:Int)<(s.size:Int))=false:=au (by omega)
   have bsz:((k:Int)==(s.size:Int))=true:=by simp;omega
   have e1:Hid (skip s i=k):=hsk.out.symm.trans (abw (by omega))
   have fin:Hid (∀w',jc N W s k d w'→Kept (· = N) w w'→xI N W s i d w (.returned (.int .i64 (-1))) w'):=fun w' h1 h2=>by
    unfold xI;rw [e1.out];exact ⟨by unfold peek;rw [dif_neg hlt],h1,h2⟩
   go_wp2_with fail
   go_quiet (fail)
   go_wp2_with fail
   go_quiet (fail)
   go_wp2_with fail
   go_ret
   exact fin.out _ ((R1.out.drewN _).drewN _) ((K1.out.drewN _).drewN _)
end Go.Proofs.YtodebjhalipefaaGreatDoor

namespace Go.Proofs.YtodebjhalipefaaGreatDoor
set_option linter.all false
open Go.RowKit
set_option maxRecDepth 100000
set_option maxHeartbeats 1000000
def Threw (er:Er) (e:Ending):Prop:=e=.panicked [{v:=ag2 er,recovered:=false}]
theorem Qa (a:Value) (er:Int) (i:Nat) (w:World):Calls Tryz.prog 207 #[a,.int .i64 er,.int .i64 i] w fun e w'=>Threw (er,i) e∧w=w':=by
 go_enter Tryz.func207, Tryz.ntmps207
 go_wp2_with fail
 exact ⟨rfl,rfl,rfl⟩
def DV (c N W:Nat) (s:aj) (i d:Nat) (w:World) (e:Ending) (w':World):Prop :=
 e=.returned (.bool (EU c s i).1)∧jc N W s (EU c s i).2 d w'∧Kept (· = N) w w'
theorem agb (c N W:Nat) (hc:c<256) (s:aj) (i d:Nat) (w:World) (hr:jc N W s i d w) (hi:i≤s.size) (hs:s.size≤1000000000) :
  Calls Tryz.prog 249 #[.pointer (some ⟨N,0,none⟩),.int .u8 c] w (DV c N W s i d w):=by
 have HR:=ah hr;clear hr
 have hw:wrap64 (c:Int)=c:=by unfold wrap64;omega
 have hle:=adG hi
 go_enter Tryz.func249, Tryz.ntmps249
 go_wp2_with fail
 refine (next_any N W s i d _ HR.out hi hs).mono ?_
 rintro e w1 ⟨rfl,R1,K1⟩
 by_cases hp:peek s (skip s i)=c
 ·have hb:(peek s (skip s i) != (c:Int))=false:=by simpa using hp
  have hlt:skip s i<s.size:=by
   unfold peek at hp;split at hp
   ·assumption
   ·omega
  have e1:Hid (EU c s i=(true,skip s i+1)):=by unfold Hid EU;rw [if_pos hp]
  have q1:=R1.c1;have f1:=R1.fr 1
  have fin:Hid (∀w',w'=w1.setCell ⟨N,1,none⟩ (.int .i64 ((skip s i+1:Nat):Int))→DV c N W s i d w (.returned (.bool true)) w'):=by
   rintro w' rfl;unfold DV;rw [e1.out];exact ⟨rfl,R1.setAt _,K1.setCell (p:=⟨N,1,none⟩) (.inl rfl) _⟩
  clear R1 K1 hp
  go_wp2_with fail
  go_ret
  exact fin.out _ rfl
 ·have hb:(peek s (skip s i) != (c:Int))=true:=by simpa using hp
  have e1:Hid (EU c s i=(false,skip s i)):=by unfold Hid EU;rw [if_neg hp]
  have fin:Hid (DV c N W s i d w (.returned (.bool false)) w1):=by
   unfold Hid DV;rw [e1.out];exact ⟨rfl,R1,K1⟩
  clear R1 K1 hp
  go_wp2_with fail
  go_ret
  exact fin.out
def xJ (c N W:Nat) (s:aj) (i d:Nat) (w:World) (e:Ending) (w':World):Prop :=
 Kept (· = N) w w'∧match wO c s i with
  | .ok k=>e=.returned (.tuple #[])∧jc N W s k d w'
  | .error er=>Threw er e
theorem abx (c N W:Nat) (hc:c<256) (s:aj) (i d:Nat) (w:World) (hr:jc N W s i d w) (hi:i≤s.size) (hs:s.size≤1000000000) :
  Calls Tryz.prog 298 #[.pointer (some ⟨N,0,none⟩),.int .u8 c] w (xJ c N W s i d w):=by
 have HR:=ah hr;clear hr
 go_enter Tryz.func298, Tryz.ntmps298
 go_wp2_with fail
 refine (agb c N W hc s i d _ HR.out hi hs).mono ?_
 rintro e w1 ⟨rfl,R1,K1⟩
 by_cases hp:peek s (skip s i)=c
 ·have e1:EU c s i=(true,skip s i+1):=by unfold EU;rw [if_pos hp]
  have e2:wO c s i=.ok (skip s i+1):=by unfold wO;rw [if_pos hp]
  rw [e1] at R1⊢
  have fin:Hid (xJ c N W s i d w (.returned (.tuple #[])) w1):=by unfold Hid xJ;rw [e2];exact ⟨K1,rfl,R1⟩
  clear e1 e2 hp R1 K1
  go_wp2_with fail
  first|go_end0|(refine bodyPost_ret (results_none rfl _ _ _) rfl ?_)
  exact fin.out
 ·have e1:EU c s i=(false,skip s i):=by unfold EU;rw [if_neg hp]
  have e2:wO c s i=.error (2,skip s i):=by unfold wO;rw [if_neg hp]
  rw [e1] at R1⊢
  have q1:=R1.c1
  have fin:Hid (∀e,Threw (2,skip s i) e→xJ c N W s i d w e w1):=by intro e h;unfold xJ;rw [e2];exact ⟨K1,h⟩
  clear e1 e2 hp R1 K1
  go_wp2_with fail
  refine (Qa _ 2 (skip s i) w1).mono ?_
  rintro e w2 ⟨rfl,rfl⟩
  go_wp2_with fail
  exact ⟨rfl,fin.out _ rfl⟩
end Go.Proofs.YtodebjhalipefaaGreatDoor

namespace Go.Proofs.YtodebjhalipefaaGreatDoor
set_option linter.all false
open Go.RowKit
def yP {α:Type} (N W:Nat) (s:aj) (d:Nat) (r:Res α) (val:α→World→Value→Prop) (w:World) (e:Ending) (w':World):Prop :=
 Kept (· = N) w w'∧match r with
  | .ok (a,k)=>∃v,e=.returned v∧val a w' v∧jc N W s k d w'
  | .error er=>Threw er e
def Il (x:aj×Nat) (_:World) (v:Value):Prop:=v=.tuple #[.string x.1,.int .i64 x.2]
theorem rY {s:aj} {k:Nat} (h:k<s.size):peek s k=s[k].toNat:=by unfold peek;rw [dif_pos h]
theorem JG {s:aj} {k:Nat} (h:0≤peek s k):k<s.size:=by
 unfold peek at h;split at h
 ·assumption
 ·omega
theorem agc (c:UInt8):qJ c=((decide ((65:Int)≤(c.toNat:Int))&&decide ((c.toNat:Int)≤90))||(decide ((48:Int)≤(c.toNat:Int))&&decide ((c.toNat:Int)≤57))):=by
 rw [Bool.eq_iff_iff];simp [qJ,iZ,cu];omega
end Go.Proofs.YtodebjhalipefaaGreatDoor

namespace Go.Proofs.YtodebjhalipefaaGreatDoor
set_option linter.all false
open Go.RowKit
set_option maxRecDepth 100000
set_option maxHeartbeats 4000000
def dM:List UInt8→Option (List UInt8×Nat)
 | []=>none
 | [c]=>if c=39 then some ([],1) else none
 | c::d::r=>if c=39 then (if d=39 then (dM r).map fun x=>(39::x.1,x.2+2) else some ([],1)) else (dM (d::r)).map fun x=>(c::x.1,x.2+1)
def lD (s:aj) (j:Nat) (bs:List UInt8) (k:Nat):Option (List UInt8×Nat)→Res (aj×Nat)
 | none=>.error (2,s.size)
 | some (b,n)=>.ok ((⟨(bs++b).toArray⟩,j),k+n)
def oP (s:aj) (i:Nat):Res (aj×Nat) :=
 match wO 39 s i with
 | .error e=>.error e
 | .ok k=>lD s (k-1) [] k (dM (s.data.toList.drop k))
theorem adH {s:aj} {j k:Nat} {bs:List UInt8} (h:s.size≤k):lD s j bs k (dM (s.data.toList.drop k))=.error (2,s.size):=by
 rw [drop_end h];rfl
theorem aby {s:aj} {j k:Nat} {bs:List UInt8} (h:k<s.size) (hc:s[k].toNat≠39) :
  lD s j bs k (dM (s.data.toList.drop k))=lD s j (bs++[s[k]]) (k+1) (dM (s.data.toList.drop (k+1))):=by
 have hc':¬s[k]=39:=fun e=>hc (by rw [e];rfl)
 rw [drop_cons h]
 by_cases h2:k+1<s.size
 ·rw [drop_cons h2,dM,if_neg hc']
  cases dM (s[k+1]::s.data.toList.drop (k+1+1)) with
  | none=>rfl
  | some x=>obtain ⟨b,n⟩:=x;simp only [Option.map,lD,List.append_assoc,List.singleton_append];congr 2;omega
 ·have e:dM [s[k]]=none:=by rw [dM,if_neg hc']
  rw [drop_end (by omega),e];rfl
theorem Zg {s:aj} {j k:Nat} {bs:List UInt8} (h:k+1<s.size) (hc:s[k].toNat=39) (hd:s[k+1].toNat=39) :
  lD s j bs k (dM (s.data.toList.drop k))=lD s j (bs++[s[k]]) (k+2) (dM (s.data.toList.drop (k+2))):=by
 have hc':s[k]=39:=UInt8.toNat_inj.1 (by simpa using hc)
 have hd':s[k+1]=39:=UInt8.toNat_inj.1 (by simpa using hd)
 rw [drop_cons (show k<s.size by omega),drop_cons h,dM,if_pos hc',if_pos hd',hc']
 show lD s j bs k ((dM (s.data.toList.drop (k+2))).map _)=_
 cases dM (s.data.toList.drop (k+2)) with
 | none=>rfl
 | some x=>obtain ⟨b,n⟩:=x;simp only [Option.map,lD,List.append_assoc,List.singleton_append];congr 2;omega
theorem abz {s:aj} {j k:Nat} {bs:List UInt8} (h:k<s.size) (hc:s[k].toNat=39) (hd:∀(h:k+1<s.size),s[k+1].toNat≠39) :
  lD s j bs k (dM (s.data.toList.drop k))=.ok ((⟨bs.toArray⟩,j),k+1):=by
 have hc':s[k]=39:=UInt8.toNat_inj.1 (by simpa using hc)
 rw [drop_cons h]
 by_cases h2:k+1<s.size
 ·have hd':¬s[k+1]=39:=fun e=>hd h2 (by rw [e];rfl)
  rw [drop_cons h2,dM,if_pos hc',if_neg hd'];simp [lD]
 ·rw [drop_end (by omega),dM,if_pos hc'];simp [lD]
theorem uO:∀(l:List UInt8) (b:List UInt8) (n:Nat),dM l=some (b,n)→n≤l.length∧b.length<n
 | [],b,n,h=>by simp [dM] at h
 | [c],b,n,h=>by
  rw [dM] at h;split at h
  ·simp at h;obtain ⟨rfl,rfl⟩:=h;simp
  ·cases h
 | c::d::r,b,n,h=>by
  rw [dM] at h;split at h
  ·split at h
   ·cases hr:dM r with
    | none=>rw [hr] at h;cases h
    | some x =>
     obtain ⟨b',n'⟩:=x
     rw [hr] at h;simp at h;obtain ⟨rfl,rfl⟩:=h
     have:=uO r b' n' hr
     simp only [List.length_cons];omega
   ·simp at h;obtain ⟨rfl,rfl⟩:=h;simp
  ·cases hr:dM (d::r) with
   | none=>rw [hr] at h;cases h
   | some x =>
    obtain ⟨b',n'⟩:=x
    rw [hr] at h;simp at h;obtain ⟨rfl,rfl⟩:=h
    have:=uO (d::r) b' n' hr
    simp only [List.length_cons] at this⊢;omega
theorem adI {c:Nat} {s:aj} {i k:Nat} (h:wO c s i=.ok k):i<k∧k≤s.size∧k=skip s i+1:=by
 unfold wO at h
 split at h
 ·rename_i hp
  simp only [Except.ok.injEq] at h;subst h
  have h1:=adF s i
  have:skip s i<s.size:=JG (by omega)
  omega
 ·cases h
theorem NW (N W:Nat) (s:aj) (i d:Nat) (w:World) (hr:jc N W s i d w) (hi:i≤s.size) (hs:s.size≤1000000000) :
  Calls Tryz.prog 314 #[.pointer (some ⟨N,0,none⟩)] w (yP N W s d (oP s i) Il w):=by
 have HR:=ah hr
 have hN:=hr.lt;have hW:=hr.ltW;clear hr
 obtain ⟨i0,hi0,hz0,hz1,hz2⟩:=info_parts Tryz.infoB
 go_enter Tryz.func314, Tryz.ntmps314
 go_wp2_with fail
 refine (abx 39 N W (by decide) s i d _ HR.out hi hs).mono ?_
 rintro e w1 ⟨K1,h⟩
 cases hn:wO 39 s i with
 | error er =>
  rw [hn] at h
  obtain rfl:=h
  have e1:oP s i=.error er:=by unfold oP;rw [hn]
  have fin:Hid (∀e,Threw er e→yP N W s d (oP s i) Il w e w1):=by intro e h;unfold yP;rw [e1];exact ⟨K1,h⟩
  clear hn e1
  go_wp2_with fail
  exact ⟨rfl,fin.out _ rfl⟩
 | ok k0 =>
  rw [hn] at h
  obtain ⟨rfl,R1⟩:=h
  obtain ⟨hk0,aiN,agd⟩:=adI hn
  obtain ⟨j,rfl⟩:∃j,k0=j+1:=⟨skip s i,agd⟩
  have e1:Hid (oP s i=lD s j [] (j+1) (dM (s.data.toList.drop (j+1)))):=by unfold Hid oP;rw [hn];rfl
  have q1:=R1.c1
  have R1':=ah R1;have K1':=ah K1
  have ej:((j+1:Nat):Int)-1=j:=by omega
  have hsz:=K1.size
  clear R1 K1 hn agd
  go_wp2_with fail
  go_loopg [5] (s.size-(j+1)) (fun f v wr=>∃(k:Nat) (bs:List UInt8) (a:Option Addr) (c:Nat),j+1≤k∧k≤s.size∧f=s.size-k∧bs.length≤k∧v=.slice a bs.length c∧aP wr w.heap.size 5 1 v bs.length (oU bs)∧
   Hid (oP s i=lD s j bs k (dM (s.data.toList.drop k)))∧jc N W s k d wr∧Kept (· = N) w wr)
  case atStart=>exact ⟨j+1,[],none,0,Nat.le_refl _,aiN,rfl,by simp,rfl,aP.nil _ _ _ _,e1,R1'.out,K1'.out⟩
  case round =>
   obtain ⟨k,bs,a,c,hk1,hk2,rfl,hbl,rfl,hW,htx,hR,hK⟩:=hrel
   clear e1
   have q0:=hR.c0;have q1:=hR.c1;have f1:=hR.fr 1
   have RR:=ah hR;have KK:=ah hK;have WW:=ah hW
   clear hR hK R1' K1' hW
   by_cases hlt:k<s.size
   ·have g1:((k:Int)==(s.size:Int))=false:=by simp;omega
    have bi:(k:Int)<(s.size:Int):=by omega
    by_cases hc:s[k].toNat=39
    ·have g2:((s[k].toNat:Int)==39)=true:=by simp;omega
     have hcv:∀(n m:Nat) (u:Value),(convert 214 9 (.slice a bs.length c)).run Tryz.prog (((wr.drewN n).setCell ⟨N,1,none⟩ u).drewN m)=.ok (.string ⟨bs.toArray⟩) (((wr.drewN n).setCell ⟨N,1,none⟩ u).drewN m):=fun n m u =>
      aP.conv (((WW.out.kept (Kept.drewN' _ n) (fun _ _ h=>h)).setCell (p:=⟨N,1,none⟩) (fun h=>by have:=(WW.out.lt N h).1;omega) u).kept (Kept.drewN' _ m) (fun _ _ h=>h))
     obtain ⟨k1,Tj⟩:∃k1:Nat,k1=k+1:=⟨_,rfl⟩
     have ak8:(k:Int)+1=(k1:Int):=by omega
     have hka:k1≤k+1:=by omega
     have hkb:k+1≤k1:=by omega
     by_cases hd:∃h:k+1<s.size,s[k+1].toNat=39
     ·obtain ⟨h2,h3⟩:=hd
      have hl1:k1<s.size:=by omega
      have h3':s[k1].toNat=39:=by simp only [Tj];exact h3
      have g3:((k1:Int)==(s.size:Int))=false:=by simp;omega
      have g4:((s[k1].toNat:Int) != 39)=false:=by simp;omega
      have bi2:(k1:Int)<(s.size:Int):=by omega
      have abA:Hid (oP s i=lD s j (bs++[s[k]]) (k+2) (dM (s.data.toList.drop (k+2)))):=htx.out.trans (Zg h2 hc h3)
      clear hc htx h3 hcv h3' Tj h2
      go_wp2_with fail
      go_quiet (fail)
      revert nq;intro nq1
      go_wp2_with fail
      go_quiet (fail)
      revert nq;intro Io
      go_wp2_with fail
      go_quiet (fail)
      revert nq;intro nq3
      have RP:=ah ((((RR.out.drewN (nq1+Io)).setAt k1).drewN nq3).setAt (k1+1));have KP:=ah ((((KK.out.drewN (nq1+Io)).setCell (p:=⟨N,1,none⟩) (.inl rfl) (.int .i64 (k1:Int))).drewN nq3).setCell (p:=⟨N,1,none⟩) (.inl rfl) (.int .i64 ((k1+1:Nat):Int)))
      have WP:=ah ((((((WW.out.kept (Kept.drewN' _ (nq1+Io)) (fun _ _ h=>h)).setCell (p:=⟨N,1,none⟩) (fun h=>by have:=(WW.out.lt N h).1;omega) (.int .i64 (k1:Int)))).kept (Kept.drewN' _ nq3) (fun _ _ h=>h)).setCell (p:=⟨N,1,none⟩) (fun h=>by have:=(WW.out.lt N h).1;omega) (.int .i64 ((k1+1:Nat):Int))).alloc (.cells #[.int .u8 (s[k].toNat:Int)] 5))
      have hbs:(bs++[s[k]]).length=bs.length+1:=by simp
      have hcs:oU bs++[.int .u8 (s[k].toNat:Int)]=oU (bs++[s[k]]):=by simp [oU]
      have Qb:=ah hbs;have HCS:=ah hcs;clear hbs hcs
      go_wp2_with (at_builtin;go_loud (refine dw _ rfl (.tmp 80) (.tmp 82) 214 214 rfl w.heap.size 5 i0 (.int .u8 0) 1 1 Tryz.underlying214 hi0 hz0 hz1 hz2 rfl (.slice a bs.length c) bs.length (oU bs) rfl WP.out _ 1 [.int .u8 (s[k].toNat:Int)] rfl (Src.ofSlice _ Tryz.underlying214 _ _ _ _ rfl (World.news_of_block (fr:=(0,0)) (cs:=#[.int .u8 (s[k].toNat:Int)]) (iy (by simp))) (by intro u hu;simp at hu;subst hu;rfl)) (by unfold maxLen;omega) (by omega) (by have:=KP.out.size;simp at this⊢;omega) ?_);intro a3 c3 w3 hW3 hg3 ho3)
      rw [HCS.out] at hW3
      have hlow:∀g,(Value.slice a bs.length c).ownBlock=some g→w.heap.size≤g:=fun g hg=>(WW.out.lt g hg).1
      have K3:Hid (Kept (· = N) w w3):=(KP.out.alloc _).grown hg3 fun x hx=>.inr (hlow x hx)
      have R3:Hid (jc N W s (k1+1) d w3):=RP.out.kept (((Kept.refl _ _).alloc _).grown (X:=fun x=>w.heap.size≤x) hg3 fun x hx=>.inl (hlow x hx)) (by omega) (by omega)
      have W3:=ah hW3;have En:Hid (oP s i=lD s j (bs++[s[k]]) (k1+1) (dM (s.data.toList.drop (k1+1)))):=by rw [show k1+1=k+2 by omega];exact abA.out
      clear hW3 hg3 ho3 hlow
      go_wp2_with fail
      go_roundg (s.size-(k1+1))
      case measure=>omega
      case rel=>exact ⟨k1+1,bs++[s[k]],a3,c3,by omega,by omega,rfl,by rw [Qb.out];omega,by rw [Qb.out],by rw [Qb.out];exact W3.out,En.out,R3.out,K3.out⟩
     ·have fin:Hid (∀w',jc N W s (k+1) d w'→Kept (· = N) w w'→yP N W s d (oP s i) Il w (.returned (.tuple #[.string ⟨bs.toArray⟩,.int .i64 j])) w'):=by
       intro w' h1 h2;unfold yP;rw [htx.out,abz hlt hc (fun h e=>hd ⟨h,e⟩)];exact ⟨h2,_,rfl,rfl,h1⟩
      have fin2:Hid (∀w',jc N W s k1 d w'→Kept (· = N) w w'→yP N W s d (oP s i) Il w (.returned (.tuple #[.string ⟨bs.toArray⟩,.int .i64 j])) w'):=by rw [Tj];exact fin
      have RP:=ah (fun n m=>((RR.out.drewN n).setAt k1).drewN m);have KP:=ah (fun n m=>((KK.out.drewN n).setCell (p:=⟨N,1,none⟩) (.inl rfl) (.int .i64 (k1:Int))).drewN m)
      by_cases h2:k+1<s.size
      ·have hl1:k1<s.size:=by omega
       have h3':s[k1].toNat≠39:=by simp only [Tj];exact fun e=>hd ⟨h2,e⟩
       have g3:((k1:Int)==(s.size:Int))=false:=by simp;omega
       have g4:((s[k1].toNat:Int) != 39)=true:=by simp;omega
       have bi2:(k1:Int)<(s.size:Int):=by omega
       clear hc htx hd h3' Tj h2
       go_wp2_with fail
       go_quiet (fail)
       revert nq;intro nq1
       go_wp2_with fail
       go_quiet (fail)
       revert nq;intro Io
       go_wp2_with fail
       go_quiet (fail)
       go_wp2_with fail
       go_ret2
       exact fin2.out _ (RP.out _ _) (KP.out _ _)
      ·have g3:((k1:Int)==(s.size:Int))=true:=by simp;omega
       clear hc htx hd Tj
       go_wp2_with fail
       go_quiet (fail)
       revert nq;intro nq1
       go_wp2_with fail
       go_quiet (fail)
       revert nq;intro Io
       go_wp2_with fail
       go_quiet (fail)
       go_wp2_with fail
       go_ret2
       exact fin2.out _ (RP.out _ _) (KP.out _ _)
    ·have g2:((s[k].toNat:Int)==39)=false:=by simp;omega
     have abA:Hid (oP s i=lD s j (bs++[s[k]]) (k+1) (dM (s.data.toList.drop (k+1)))):=htx.out.trans (aby hlt hc)
     clear hc htx
     go_wp2_with fail
     go_quiet (fail)
     revert nq;intro nq1
     go_wp2_with fail
     go_quiet (fail)
     revert nq;intro Io
     have RP:=ah ((RR.out.drewN (nq1+Io)).setAt (k+1));have KP:=ah ((KK.out.drewN (nq1+Io)).setCell (p:=⟨N,1,none⟩) (.inl rfl) (.int .i64 ((k+1:Nat):Int)))
     have WP:=ah (((WW.out.kept (Kept.drewN' _ (nq1+Io)) (fun _ _ h=>h)).setCell (p:=⟨N,1,none⟩) (fun h=>by have:=(WW.out.lt N h).1;omega) (.int .i64 ((k+1:Nat):Int))).alloc (.cells #[.int .u8 (s[k].toNat:Int)] 5))
     have hbs:(bs++[s[k]]).length=bs.length+1:=by simp
     have hcs:oU bs++[.int .u8 (s[k].toNat:Int)]=oU (bs++[s[k]]):=by simp [oU]
     have Qb:=ah hbs;have HCS:=ah hcs;clear hbs hcs
     go_wp2_with (at_builtin;go_loud (refine dw _ rfl (.tmp 80) (.tmp 82) 214 214 rfl w.heap.size 5 i0 (.int .u8 0) 1 1 Tryz.underlying214 hi0 hz0 hz1 hz2 rfl (.slice a bs.length c) bs.length (oU bs) rfl WP.out _ 1 [.int .u8 (s[k].toNat:Int)] rfl (Src.ofSlice _ Tryz.underlying214 _ _ _ _ rfl (World.news_of_block (fr:=(0,0)) (cs:=#[.int .u8 (s[k].toNat:Int)]) (iy (by simp))) (by intro u hu;simp at hu;subst hu;rfl)) (by unfold maxLen;omega) (by omega) (by have:=KP.out.size;simp at this⊢;omega) ?_);intro a3 c3 w3 hW3 hg3 ho3)
     rw [HCS.out] at hW3
     have hlow:∀g,(Value.slice a bs.length c).ownBlock=some g→w.heap.size≤g:=fun g hg=>(WW.out.lt g hg).1
     have K3:Hid (Kept (· = N) w w3):=(KP.out.alloc _).grown hg3 fun x hx=>.inr (hlow x hx)
     have R3:Hid (jc N W s (k+1) d w3):=RP.out.kept (((Kept.refl _ _).alloc _).grown (X:=fun x=>w.heap.size≤x) hg3 fun x hx=>.inl (hlow x hx)) (by omega) (by omega)
     have W3:=ah hW3;have En:Hid _:=abA.out
     clear hW3 hg3 ho3 hlow
     go_wp2_with fail
     go_roundg (s.size-(k+1))
     case measure=>omega
     case rel=>exact ⟨k+1,bs++[s[k]],a3,c3,by omega,by omega,rfl,by rw [Qb.out];omega,by rw [Qb.out],by rw [Qb.out];exact W3.out,En.out,R3.out,K3.out⟩
   ·have g1:((k:Int)==(s.size:Int))=true:=by simp;omega
    have e2:Hid (oP s i=.error (2,k)):=by unfold Hid;rw [htx.out,adH (by omega)];rw [show s.size=k by omega]
    have fin:Hid (∀e w',Threw (2,k) e→Kept (· = N) w w'→yP N W s d (oP s i) Il w e w'):=by intro e w' h h2;unfold yP;rw [e2.out];exact ⟨h2,h⟩
    go_wp2_with fail
    go_quiet (fail)
    go_wp2_with fail
    refine (Qa _ 2 k _).mono ?_
    rintro e w2 ⟨rfl,rfl⟩
    go_wp2_with fail
    exact ⟨rfl,fin.out _ _ rfl (KK.out.drewN _)⟩
end Go.Proofs.YtodebjhalipefaaGreatDoor

namespace Go.Proofs.YtodebjhalipefaaGreatDoor
set_option linter.all false
open Go.RowKit
theorem QX:∀(f u:Nat),u<10 ^ f→(Lib.decDigits u).length≤f+1
 | 0,u,h=>by
         have:u=0:=by simpa using h
         subst this;rw [Lib.decDigits,dif_pos (by omega)];simp
 | f+1,u,h=>by
  by_cases hu:u<10
  ·rw [Lib.decDigits,dif_pos hu];simp
  ·rw [Lib.decDigits,dif_neg hu]
   have:=QX f (u/10) (by rw [Nat.pow_succ] at h;omega)
   simp;omega
end Go.Proofs.YtodebjhalipefaaGreatDoor
