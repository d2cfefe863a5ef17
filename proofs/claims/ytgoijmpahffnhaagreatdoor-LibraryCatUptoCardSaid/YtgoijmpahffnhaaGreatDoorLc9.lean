/-  -/
import Derived.Test.YtgoijmpahffnhaaGreatDoorLc14
import Derived.Test.YtgoijmpahffnhaaGreatDoorBase
namespace Go.Proofs.YtgoijmpahffnhaaGreatDoor
set_option linter.all false
open Go.RowKit
structure aG where
 label:aj
 kind:Int
 target:aA
 value:aA
 pat:aA
 name:aj
 entry:aj
 params:List aj
 locals:List aj
 always:aj
 yes:aj
 dh:aj
structure iM where
 ta:Option Addr
 tc:Nat
 va:Option Addr
 vc:Nat
 pa:Option Addr
 pc:Nat
 ma:Option Addr
 mc:Nat
 la:Option Addr
 lc:Nat
def bU (w:World) (S:Nat→Prop) (a:Option Addr) (l:List aj):Prop :=
 0<l.length→∃b o,a=some ⟨b,o,none⟩∧S b∧∀i (h:i<l.length),w.cell? ⟨b,o+i,none⟩=some (.string l[i])
theorem bU.to {w w':World} {S S':Nat→Prop} {X:Nat→Prop} {a:Option Addr} {l:List aj} (h:bU w S a l) (hk:Kept X w w') (hs:Safe S X w.heap.size) (h':∀b,S b→S' b):bU w' S' a l:=by
 intro h0
 obtain ⟨b,o,rfl,hb,hc⟩:=h h0
 exact ⟨b,o,rfl,h' b hb,fun i hi=>(hk.cell (hs b hb).1 (hs b hb).2).trans (hc i hi)⟩
def dY (a:iM) (s:aG):Value :=
 .agg #[.string s.label,.int .i64 s.kind,
  .int .i64 s.target.kind,.string s.target.text,.int .i64 s.target.n,.string s.target.name,.slice a.ta s.target.kids.length a.tc,
  .int .i64 s.value.kind,.string s.value.text,.int .i64 s.value.n,.string s.value.name,.slice a.va s.value.kids.length a.vc,
  .int .i64 s.pat.kind,.string s.pat.text,.int .i64 s.pat.n,.string s.pat.name,.slice a.pa s.pat.kids.length a.pc,
  .string s.name,.string s.entry,.slice a.ma s.params.length a.mc,.slice a.la s.locals.length a.lc,.string s.always,.string s.yes,.string s.dh]
def bV (a:iM) (s:aG):List Value :=
 [.string s.label,.int .i64 s.kind,
  .int .i64 s.target.kind,.string s.target.text,.int .i64 s.target.n,.string s.target.name,.slice a.ta s.target.kids.length a.tc,
  .int .i64 s.value.kind,.string s.value.text,.int .i64 s.value.n,.string s.value.name,.slice a.va s.value.kids.length a.vc,
  .int .i64 s.pat.kind,.string s.pat.text,.int .i64 s.pat.n,.string s.pat.name,.slice a.pa s.pat.kids.length a.pc,
  .string s.name,.string s.entry,.slice a.ma s.params.length a.mc,.slice a.la s.locals.length a.lc,.string s.always,.string s.yes,.string s.dh]
def bZ (N:Nat) (a:iM) (s:aG) (w:World):Prop:=w.heap[N]?=some (.cells #[.string s.label,.int .i64 s.kind,
  .int .i64 s.target.kind,.string s.target.text,.int .i64 s.target.n,.string s.target.name,.slice a.ta s.target.kids.length a.tc,
  .int .i64 s.value.kind,.string s.value.text,.int .i64 s.value.n,.string s.value.name,.slice a.va s.value.kids.length a.vc,
  .int .i64 s.pat.kind,.string s.pat.text,.int .i64 s.pat.n,.string s.pat.name,.slice a.pa s.pat.kids.length a.pc,
  .string s.name,.string s.entry,.slice a.ma s.params.length a.mc,.slice a.la s.locals.length a.lc,.string s.always,.string s.yes,.string s.dh] 59 (0,0))
theorem bZ.new (w:World) (a:iM) (s:aG):bZ w.heap.size a s (w.alloc (.cells #[.string s.label,.int .i64 s.kind,
  .int .i64 s.target.kind,.string s.target.text,.int .i64 s.target.n,.string s.target.name,.slice a.ta s.target.kids.length a.tc,
  .int .i64 s.value.kind,.string s.value.text,.int .i64 s.value.n,.string s.value.name,.slice a.va s.value.kids.length a.vc,
  .int .i64 s.pat.kind,.string s.pat.text,.int .i64 s.pat.n,.string s.pat.name,.slice a.pa s.pat.kids.length a.pc,
  .string s.name,.string s.entry,.slice a.ma s.params.length a.mc,.slice a.la s.locals.length a.lc,.string s.always,.string s.yes,.string s.dh] 59)):=ay w _
theorem bZ.lt {N:Nat} {a:iM} {s:aG} {w:World} (h:bZ N a s w):N<w.heap.size:=(Array.getElem?_eq_some_iff.1 h).1
theorem bZ.kept {N:Nat} {a:iM} {s:aG} {w w':World} {X:Nat→Prop} (h:bZ N a s w) (hk:Kept X w w') (hx:¬X N):bZ N a s w':=by
 unfold bZ;rw [hk.block N h.lt hx];exact h
theorem bZ.cells {N:Nat} {a:iM} {s:aG} {w:World} (h:bZ N a s w):w.cell? ⟨N,0,none⟩=some (.string s.label)∧
  w.cell? ⟨N,1,none⟩=some (.int .i64 s.kind)∧
  w.cell? ⟨N,2,none⟩=some (.int .i64 s.target.kind)∧
  w.cell? ⟨N,3,none⟩=some (.string s.target.text)∧
  w.cell? ⟨N,4,none⟩=some (.int .i64 s.target.n)∧
  w.cell? ⟨N,5,none⟩=some (.string s.target.name)∧
  w.cell? ⟨N,6,none⟩=some (.slice a.ta s.target.kids.length a.tc)∧
  w.cell? ⟨N,7,none⟩=some (.int .i64 s.value.kind)∧
  w.cell? ⟨N,8,none⟩=some (.string s.value.text)∧
  w.cell? ⟨N,9,none⟩=some (.int .i64 s.value.n)∧
  w.cell? ⟨N,10,none⟩=some (.string s.value.name)∧
  w.cell? ⟨N,11,none⟩=some (.slice a.va s.value.kids.length a.vc)∧
  w.cell? ⟨N,12,none⟩=some (.int .i64 s.pat.kind)∧
  w.cell? ⟨N,13,none⟩=some (.string s.pat.text)∧
  w.cell? ⟨N,14,none⟩=some (.int .i64 s.pat.n)∧
  w.cell? ⟨N,15,none⟩=some (.string s.pat.name)∧
  w.cell? ⟨N,16,none⟩=some (.slice a.pa s.pat.kids.length a.pc)∧
  w.cell? ⟨N,17,none⟩=some (.string s.name)∧
  w.cell? ⟨N,18,none⟩=some (.string s.entry)∧
  w.cell? ⟨N,19,none⟩=some (.slice a.ma s.params.length a.mc)∧
  w.cell? ⟨N,20,none⟩=some (.slice a.la s.locals.length a.lc)∧
  w.cell? ⟨N,21,none⟩=some (.string s.always)∧
  w.cell? ⟨N,22,none⟩=some (.string s.yes)∧
  w.cell? ⟨N,23,none⟩=some (.string s.dh):=by
 unfold bZ at h
 refine ⟨?_,?_,?_,?_,?_,?_,?_,?_,?_,?_,?_,?_,?_,?_,?_,?_,?_,?_,?_,?_,?_,?_,?_,?_⟩<;>(rw [cell_of_row w N _ _ _ _ h];rfl)
structure LU (p:aA):Prop where
 z:p.text.size<1000000000∧p.name.size<1000000000∧p.kids.length<1000000000
 t:sizeT p≤1048576
structure rE (s:aG):Prop where
 label:s.label.size<1000000000
 target:LU s.target
 value:LU s.value
 pat:LU s.pat
 name:s.name.size<1000000000
 entry:s.entry.size<1000000000
 params:s.params.length<1000000000∧∀x∈s.params,x.size<1000000000
 locals:s.locals.length<1000000000∧∀x∈s.locals,x.size<1000000000
 always:s.always.size<1000000000
 yes:s.yes.size<1000000000
 dh:s.dh.size<1000000000
structure wR (w:World) (S:Nat→Prop) (a:iM) (s:aG):Prop where
 target:aI w S a.ta s.target.kids
 value:aI w S a.va s.value.kids
 pat:aI w S a.pa s.pat.kids
 params:bU w S a.ma s.params
 locals:bU w S a.la s.locals
theorem wR.to {w w':World} {S S':Nat→Prop} {X:Nat→Prop} {a:iM} {s:aG} (h:wR w S a s) (hk:Kept X w w') (hs:Safe S X w.heap.size) (h':∀b,S b→S' b):wR w' S' a s :=
 ⟨h.target.to hk hs h',h.value.to hk hs h',h.pat.to hk hs h',h.params.to hk hs h',h.locals.to hk hs h'⟩
def StV (w:World) (S:Nat→Prop) (v:Value) (s:aG):Prop:=∃a,v=dY a s∧rE s∧wR w S a s
def Ah (w:World) (S:Nat→Prop) (b o:Nat) (s:aG):Prop :=
 ∃a,S b∧rE s∧(∀i (h:i<24),w.cell? ⟨b,o+i,none⟩=some ((bV a s)[i]'(by simpa [bV] using h)))∧wR w S a s
theorem Ah.to {w w':World} {S S':Nat→Prop} {X:Nat→Prop} {b o:Nat} {s:aG} (h:Ah w S b o s) (hk:Kept X w w') (hs:Safe S X w.heap.size) (h':∀b,S b→S' b):Ah w' S' b o s:=by
 obtain ⟨a,hb,hz,hc,ho⟩:=h
 exact ⟨a,h' b hb,hz,fun i hi=>(hk.cell (hs b hb).1 (hs b hb).2).trans (hc i hi),ho.to hk hs h'⟩
def oU (w:World) (S:Nat→Prop) (a:Option Addr) (l:List aG):Prop:=0<l.length→∃b o,a=some ⟨b,o,none⟩∧∀i (h:i<l.length),Ah w S b (o+i*24) l[i]
theorem oU.to {w w':World} {S S':Nat→Prop} {X:Nat→Prop} {a:Option Addr} {l:List aG} (h:oU w S a l) (hk:Kept X w w') (hs:Safe S X w.heap.size) (h':∀b,S b→S' b):oU w' S' a l:=by
 intro h0
 obtain ⟨b,o,rfl,hc⟩:=h h0
 exact ⟨b,o,rfl,fun i hi=>(hc i hi).to hk hs h'⟩
def aN:List aj→Int
 | []=>0
 | x::r=>if gW x=true then aN r else 7
def isTarget (p:aA):Prop:=p.kind=3∨p.kind=4∨p.kind=5
instance (p:aA):Decidable (isTarget p):=by unfold isTarget;exact inferInstance
def dR:List Int→Int
 | []=>0
 | e::r=>if e=0 then dR r else e
def vW (s:aj):Bool:=decide (s.size=0)||gW s
def kJ (s:aG):Int :=
 if ¬(vW s.label=true∧vW s.always=true∧vW s.yes=true∧vW s.dh=true) then 7
 else if s.always.size≠0∧(s.yes.size≠0∨s.dh.size≠0) then 8
 else if s.kind=1 then 0
 else if s.kind=2 then aX s.value
 else if s.kind=4 then dR [aX s.value,bQ s.pat]
 else if s.kind=3 then dR [aX s.target,if isTarget s.target then 0 else 8,aX s.value]
 else if s.kind=5 then dR [aX s.target,if isTarget s.target then 0 else 8,bQ s.pat,aX s.value]
 else if s.kind=6 then dR [aN [s.name],bQ s.pat]
 else if s.kind=7 then dR [aN [s.name],aN s.params,aN s.locals,aN [s.entry],if 8<s.params.length∨8<s.locals.length then 5 else 0]
 else 1
end Go.Proofs.YtgoijmpahffnhaaGreatDoor

namespace Go.Proofs.YtgoijmpahffnhaaGreatDoor
set_option linter.all false
open Go.RowKit
section
variable {K:Type} [DecidableEq K]
def lookA (l:List (K×aj)) (k:K):aj:=match l.find? (fun p=>p.1==k) with|some p=>p.2|none=>⟨#[]⟩
def jk (l:List (K×aj)) (k:K):List (K×aj):=l.filter (fun p=>!(p.1==k))
def mg (l:List (K×aj)) (k:K) (t:aj):List (K×aj):=if t.size=0 then jk l k else (k,t)::jk l k
def mZ (l:List (K×aj)):Prop:=l.Pairwise (fun p q=>p.1≠q.1)∧∀p∈l,0<p.2.size
def tu (f:K→Nat) (l:List (K×aj)):Nat:=(l.map fun p=>f p.1+p.2.size).sum
def heavy (f:K→Nat) (k:K) (t:aj):Nat:=if t.size=0 then 0 else f k+t.size
theorem zB {l:List (K×aj)} {k:K} {p:K×aj}:p∈jk l k↔p∈l∧p.1≠k:=by simp [jk]
theorem mZ.drop {l:List (K×aj)} (h:mZ l) (k:K):mZ (jk l k) :=
 ⟨h.1.filter _,fun p hp=>h.2 p (zB.1 hp).1⟩
theorem mZ.put {l:List (K×aj)} (h:mZ l) (k:K) (t:aj):mZ (mg l k t):=by
 unfold mg
 split
 ·exact h.drop k
 ·rename_i ht
  refine ⟨List.pairwise_cons.2 ⟨fun p hp=>?_,(h.drop k).1⟩,fun p hp=>?_⟩
  ·exact fun e=>(zB.1 hp).2 e.symm
  ·rcases List.mem_cons.1 hp with rfl|hp
   ·exact Nat.pos_of_ne_zero ht
   ·exact (h.drop k).2 p hp
theorem kS (p:K×aj) (l:List (K×aj)) (k:K):lookA (p::l) k=if p.1=k then p.2 else lookA l k:=by
 unfold lookA
 rw [List.find?_cons]
 by_cases h:p.1=k
 ·simp [h]
 ·have e:(p.1==k)=false:=by simpa using h
  rw [e,if_neg h]
theorem uG (l:List (K×aj)) (k:K):lookA (jk l k) k=⟨#[]⟩:=by
 induction l with
 | nil=>rfl
 | cons p l ih =>
  unfold jk at ih⊢
  rw [List.filter_cons]
  by_cases h:p.1=k
  ·simpa [h] using ih
  ·simp only [beq_iff_eq,h,Bool.not_eq_true',beq_eq_false_iff_ne,ne_eq,not_false_eq_true,if_true]
   rw [kS,if_neg h];exact ih
theorem sW (l:List (K×aj)) {k k':K} (hn:k'≠k):lookA (jk l k) k'=lookA l k':=by
 induction l with
 | nil=>rfl
 | cons p l ih =>
  unfold jk at ih⊢
  rw [List.filter_cons]
  by_cases h:p.1=k
  ·have h2:p.1≠k':=fun e=>hn (e.symm.trans h)
   rw [kS,if_neg h2]
   simpa [h] using ih
  ·simp only [beq_iff_eq,h,Bool.not_eq_true',beq_eq_false_iff_ne,ne_eq,not_false_eq_true,if_true]
   rw [kS,kS,ih]
theorem qF {t:aj} (h:t.size=0):t=⟨#[]⟩:=by
 obtain ⟨a⟩:=t
 have:a = #[]:=Array.eq_empty_of_size_eq_zero h
 rw [this]
theorem Jb (l:List (K×aj)) (k:K) (t:aj):lookA (mg l k t) k=t:=by
 unfold mg
 split
 ·rename_i h;rw [uG,qF h]
 ·rw [kS,if_pos rfl]
theorem GL (l:List (K×aj)) {k k':K} (hn:k'≠k) (t:aj):lookA (mg l k t) k'=lookA l k':=by
 unfold mg
 split
 ·exact sW l hn
 ·rw [kS,if_neg (fun e=>hn e.symm)];exact sW l hn
theorem CJ {l:List (K×aj)} {k:K} (h:(lookA l k).size≠0):(k,lookA l k)∈l:=by
 induction l with
 | nil=>exact absurd rfl h
 | cons q l ih =>
  rw [kS] at h⊢
  by_cases hk:q.1=k
  ·rw [if_pos hk] at h⊢
   exact List.mem_cons.2 (.inl (by rw [←hk]))
  ·rw [if_neg hk] at h⊢
   exact List.mem_cons_of_mem _ (ih h)
theorem GI {l:List (K×aj)} {k:K} (h:∀p∈l,p.1≠k):jk l k=l:=by
 unfold jk
 exact List.filter_eq_self.2 fun p hp=>by simpa using h p hp
theorem D6 (f:K→Nat) {l:List (K×aj)} (h:mZ l) (k:K):tu f (jk l k)+heavy f k (lookA l k)=tu f l:=by
 induction l with
 | nil=>rfl
 | cons q l ih =>
  have hl:mZ l:=⟨(List.pairwise_cons.1 h.1).2,fun x hx=>h.2 x (List.mem_cons_of_mem _ hx)⟩
  have ih:=ih hl
  rw [kS]
  unfold jk at ih⊢
  rw [List.filter_cons]
  by_cases hk:q.1=k
  ·have hno:∀p∈l,p.1≠k:=fun p hp=>hk ▸ ((List.pairwise_cons.1 h.1).1 p hp).symm
   have e:=GI hno
   unfold jk at e
   have hq:q.2.size≠0:=Nat.ne_of_gt (h.2 q (List.mem_cons_self ..))
   simp only [hk,beq_self_eq_true,Bool.not_true,Bool.false_eq_true,if_false,if_true]
   rw [e]
   unfold heavy
   rw [if_neg hq]
   simp only [tu,List.map_cons,List.sum_cons,hk]
   omega
  ·simp only [beq_iff_eq,hk,Bool.not_eq_true',beq_eq_false_iff_ne,ne_eq,not_false_eq_true,if_true,if_false]
   simp only [tu,List.map_cons,List.sum_cons] at ih⊢
   omega
theorem PD (f:K→Nat) {l:List (K×aj)} (h:mZ l) (k:K) (t:aj):tu f (mg l k t)+heavy f k (lookA l k)=tu f l+heavy f k t:=by
 have e:=D6 f h k
 unfold mg
 split
 ·rename_i ht;simp only [heavy,ht,if_true] at e⊢;omega
 ·rename_i ht
  have e2:heavy f k t=f k+t.size:=if_neg ht
  rw [e2]
  simp only [tu,List.map_cons,List.sum_cons] at e⊢
  omega
theorem zQ (f:K→Nat) {l:List (K×aj)} (h:mZ l):l.length≤tu f l:=by
 have h:=h.2
 clear ‹mZ l›
 induction l with
 | nil=>exact Nat.le_refl _
 | cons q l ih =>
  have:=ih fun x hx=>h x (List.mem_cons_of_mem _ hx)
  have:=h q (List.mem_cons_self ..)
  simp only [tu,List.map_cons,List.sum_cons,List.length_cons] at *
  omega
end
def qG:aj:=⟨#[73,78,80,85,84]⟩
def jV:aj:=⟨#[79,85,84,80,85,84]⟩
structure aY where
 vars:List (aj×aj)
 items:List ((aj×aj)×aj)
 bytes:Nat
 told:Nat
 output:List aj
 input:List aj
 how:Int
 rules:List (aj×aA)
 steps:Nat
 hits:List Nat
def jH (s:aY) (n:aj):(aj×Bool)×aY :=
 if n=jV then ((⟨#[]⟩,true),s)
 else if n=qG then match s.input with
  | []=>((⟨#[]⟩,false),s)
  | t::r=>((t,true),{s with input:=r})
 else ((lookA s.vars n,true),s)
def xF (s:aY) (t:aj):Bool×aY :=
 if 1048576<s.told+t.size+1 then (false,{s with how:=3}) else (true,{s with told:=s.told+(t.size+1),output:=s.output++[t]})
def gU (s:aY) (n t:aj):Bool×aY :=
 if n=qG∨65536<t.size then (false,s)
 else if n=jV then xF s t
 else if 1048576+(lookA s.vars n).size<s.bytes+t.size then (false,{s with how:=3})
 else (true,{s with bytes:=s.bytes+t.size-(lookA s.vars n).size,vars:=mg s.vars n t})
def uU (k:aj×aj):Nat:=k.2.size
def IY (s:aY) (k:aj×aj) (t:aj):Bool×aY :=
 if 65536<t.size then (false,s)
 else if 1048576+heavy uU k (lookA s.items k)<s.bytes+heavy uU k t then (false,{s with how:=3})
 else (true,{s with bytes:=s.bytes+heavy uU k t-heavy uU k (lookA s.items k),items:=mg s.items k t})
structure bM (s:aY):Prop where
 vars:mZ s.vars
 items:mZ s.items
 bytes:s.bytes=tu (fun _=>0) s.vars+tu uU s.items
 most:s.bytes≤1048576
 told:s.told=(s.output.map fun t=>t.size+1).sum
 much:s.told≤1048576
 vsz:∀p∈s.vars,p.2.size≤65536∧p.1≠qG∧p.1≠jV
 isz:∀p∈s.items,p.2.size≤65536
 osz:∀t∈s.output,t.size≤65536
 nsz:∀t∈s.input,t.size≤65536
theorem BI {K:Type} (k:K) (t:aj):heavy (fun _=>0) k t=t.size:=by
 unfold heavy
 split
 ·rename_i h;exact h.symm
 ·exact Nat.zero_add _
theorem PE {K:Type} [DecidableEq K] {l:List (K×aj)} {k:K} {t:aj} {p:K×aj} (h:p∈mg l k t):p=(k,t)∨p∈l:=by
 unfold mg at h
 split at h
 ·exact .inr (zB.1 h).1
 ·rcases List.mem_cons.1 h with rfl|h
  ·exact .inl rfl
  ·exact .inr (zB.1 h).1
theorem bM.get {s:aY} (h:bM s) (n:aj):bM (jH s n).2∧(jH s n).1.1.size≤65536:=by
 unfold jH
 split
 ·exact ⟨h,Nat.zero_le _⟩
 split
 ·split
  ·exact ⟨h,Nat.zero_le _⟩
  ·rename_i t r e
   exact ⟨{h with nsz:=fun x hx=>h.nsz x (by rw [e];exact List.mem_cons_of_mem _ hx)},h.nsz t (by rw [e];exact List.mem_cons_self ..)⟩
 ·refine ⟨h,?_⟩
  by_cases h0:(lookA s.vars n).size=0
  ·show (lookA s.vars n).size≤65536
   omega
  ·exact (h.vsz _ (CJ h0)).1
theorem Vt {s:aY} (h:bM s) (n:aj):(lookA s.vars n).size≤s.bytes:=by
 have:=D6 (fun _=>0) h.vars n
 rw [BI] at this
 have:=h.bytes
 omega
theorem aco {s:aY} (h:bM s) (k:aj×aj):heavy uU k (lookA s.items k)≤s.bytes:=by
 have:=D6 uU h.items k
 have:=h.bytes
 omega
theorem bM.how {s:aY} (h:bM s) (n:Int):bM {s with how:=n}:={h with}
theorem bM.tell {s:aY} (h:bM s) (t:aj) (ht:t.size≤65536):bM (xF s t).2:=by
 unfold xF
 split
 ·exact h.how 3
 ·rename_i hm
  refine {h with told:=?_,much:=?_,osz:=?_}
  ·show s.told+(t.size+1)=((s.output++[t]).map fun t=>t.size+1).sum
   rw [List.map_append,List.sum_append,h.told];simp
  ·show s.told+(t.size+1)≤1048576
   omega
  ·intro x hx
   rcases List.mem_append.1 hx with hx|hx
   ·exact h.osz x hx
   ·rw [List.mem_singleton.1 hx];exact ht
theorem bM.set {s:aY} (h:bM s) (n t:aj):bM (gU s n t).2:=by
 unfold gU
 split
 ·exact h
 rename_i hn
 split
 ·exact h.tell t (by omega)
 rename_i ho
 split
 ·exact h.how 3
 ·rename_i hr
  have e:=PD (fun _=>0) h.vars n t
  rw [BI,BI] at e
  have hb:=h.bytes
  have hl:=Vt h n
  refine {h with vars:=h.vars.put n t,bytes:=?_,most:=?_,vsz:=?_}
  ·show s.bytes+t.size-(lookA s.vars n).size=tu (fun _=>0) (mg s.vars n t)+tu uU s.items
   omega
  ·show s.bytes+t.size-(lookA s.vars n).size≤1048576
   omega
  ·intro p hp
   rcases PE hp with rfl|hp
   ·exact ⟨by show t.size≤65536;omega,fun e=>hn (.inl e),ho⟩
   ·exact h.vsz p hp
theorem bM.put {s:aY} (h:bM s) (k:aj×aj) (t:aj):bM (IY s k t).2:=by
 unfold IY
 split
 ·exact h
 rename_i hn
 split
 ·exact h.how 3
 ·rename_i hr
  have e:=PD uU h.items k t
  have hb:=h.bytes
  have hl:=aco h k
  refine {h with items:=h.items.put k t,bytes:=?_,most:=?_,isz:=?_}
  ·show s.bytes+heavy uU k t-heavy uU k (lookA s.items k)=tu (fun _=>0) s.vars+tu uU (mg s.items k t)
   omega
  ·show s.bytes+heavy uU k t-heavy uU k (lookA s.items k)≤1048576
   omega
  ·intro p hp
   rcases PE hp with rfl|hp
   ·show t.size≤65536;omega
   ·exact h.isz p hp
end Go.Proofs.YtgoijmpahffnhaaGreatDoor
