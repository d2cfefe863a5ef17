/-  -/
import Derived.Test.YtgoijmpahffnhaaGreatDoorBase
namespace Go.Proofs.YtgoijmpahffnhaaGreatDoor
set_option linter.all false
open Go.RowKit
section
variable {K:Type} [DecidableEq K]
def lookA (l:List (K×aj)) (k:K):aj:=match l.find? (fun p=>p.1==k) with|some p=>p.2|none=>⟨#[]⟩
def iF (l:List (K×aj)) (k:K):List (K×aj):=l.filter (fun p=>!(p.1==k))
def kL (l:List (K×aj)) (k:K) (t:aj):List (K×aj):=if t.size=0 then iF l k else (k,t)::iF l k
def kW (l:List (K×aj)):Prop:=l.Pairwise (fun p q=>p.1≠q.1)∧∀p∈l,0<p.2.size
def pY (f:K→Nat) (l:List (K×aj)):Nat:=(l.map fun p=>f p.1+p.2.size).sum
def heavy (f:K→Nat) (k:K) (t:aj):Nat:=if t.size=0 then 0 else f k+t.size
theorem sN {l:List (K×aj)} {k:K} {p:K×aj}:p∈iF l k↔p∈l∧p.1≠k:=by simp [iF]
theorem kW.drop {l:List (K×aj)} (h:kW l) (k:K):kW (iF l k) :=
 ⟨h.1.filter _,fun p hp=>h.2 p (sN.1 hp).1⟩
theorem kW.put {l:List (K×aj)} (h:kW l) (k:K) (t:aj):kW (kL l k t):=by
 unfold kL
 split
 ·exact h.drop k
 ·rename_i ht
  refine ⟨List.pairwise_cons.2 ⟨fun p hp=>?_,(h.drop k).1⟩,fun p hp=>?_⟩
  ·exact fun e=>(sN.1 hp).2 e.symm
  ·rcases List.mem_cons.1 hp with rfl|hp
   ·exact Nat.pos_of_ne_zero ht
   ·exact (h.drop k).2 p hp
theorem jU (p:K×aj) (l:List (K×aj)) (k:K):lookA (p::l) k=if p.1=k then p.2 else lookA l k:=by
 unfold lookA
 rw [List.find?_cons]
 by_cases h:p.1=k
 ·simp [h]
 ·have e:(p.1==k)=false:=by simpa using h
  rw [e,if_neg h]
theorem uz (l:List (K×aj)) (k:K):lookA (iF l k) k=⟨#[]⟩:=by
 induction l with
 | nil=>rfl
 | cons p l ih =>
  unfold iF at ih⊢
  rw [List.filter_cons]
  by_cases h:p.1=k
  ·simpa [h] using ih
  ·simp only [beq_iff_eq,h,Bool.not_eq_true',beq_eq_false_iff_ne,ne_eq,not_false_eq_true,if_true]
   rw [jU,if_neg h];exact ih
theorem rX (l:List (K×aj)) {k k':K} (hn:k'≠k):lookA (iF l k) k'=lookA l k':=by
 induction l with
 | nil=>rfl
 | cons p l ih =>
  unfold iF at ih⊢
  rw [List.filter_cons]
  by_cases h:p.1=k
  ·have h2:p.1≠k':=fun e=>hn (e.symm.trans h)
   rw [jU,if_neg h2]
   simpa [h] using ih
  ·simp only [beq_iff_eq,h,Bool.not_eq_true',beq_eq_false_iff_ne,ne_eq,not_false_eq_true,if_true]
   rw [jU,jU,ih]
theorem pR {t:aj} (h:t.size=0):t=⟨#[]⟩:=by
 obtain ⟨a⟩:=t
 have:a = #[]:=Array.eq_empty_of_size_eq_zero h
 rw [this]
theorem Ad (l:List (K×aj)) (k:K) (t:aj):lookA (kL l k t) k=t:=by
 unfold kL
 split
 ·rename_i h;rw [uz,pR h]
 ·rw [jU,if_pos rfl]
theorem y7 (l:List (K×aj)) {k k':K} (hn:k'≠k) (t:aj):lookA (kL l k t) k'=lookA l k':=by
 unfold kL
 split
 ·exact rX l hn
 ·rw [jU,if_neg (fun e=>hn e.symm)];exact rX l hn
theorem yP {l:List (K×aj)} {k:K} (h:(lookA l k).size≠0):(k,lookA l k)∈l:=by
 induction l with
 | nil=>exact absurd rfl h
 | cons q l ih =>
  rw [jU] at h⊢
  by_cases hk:q.1=k
  ·rw [if_pos hk] at h⊢
   exact List.mem_cons.2 (.inl (by rw [←hk]))
  ·rw [if_neg hk] at h⊢
   exact List.mem_cons_of_mem _ (ih h)
theorem Io {l:List (K×aj)} {k:K} (h:∀p∈l,p.1≠k):iF l k=l:=by
 unfold iF
 exact List.filter_eq_self.2 fun p hp=>by simpa using h p hp
theorem yZ (f:K→Nat) {l:List (K×aj)} (h:kW l) (k:K):pY f (iF l k)+heavy f k (lookA l k)=pY f l:=by
 induction l with
 | nil=>rfl
 | cons q l ih =>
  have hl:kW l:=⟨(List.pairwise_cons.1 h.1).2,fun x hx=>h.2 x (List.mem_cons_of_mem _ hx)⟩
  have ih:=ih hl
  rw [jU]
  unfold iF at ih⊢
  rw [List.filter_cons]
  by_cases hk:q.1=k
  ·have hno:∀p∈l,p.1≠k:=fun p hp=>hk ▸ ((List.pairwise_cons.1 h.1).1 p hp).symm
   have e:=Io hno
   unfold iF at e
   have hq:q.2.size≠0:=Nat.ne_of_gt (h.2 q (List.mem_cons_self ..))
   simp only [hk,beq_self_eq_true,Bool.not_true,Bool.false_eq_true,if_false,if_true]
   rw [e]
   unfold heavy
   rw [if_neg hq]
   simp only [pY,List.map_cons,List.sum_cons,hk]
   omega
  ·simp only [beq_iff_eq,hk,Bool.not_eq_true',beq_eq_false_iff_ne,ne_eq,not_false_eq_true,if_true,if_false]
   simp only [pY,List.map_cons,List.sum_cons] at ih⊢
   omega
theorem QE (f:K→Nat) {l:List (K×aj)} (h:kW l) (k:K) (t:aj):pY f (kL l k t)+heavy f k (lookA l k)=pY f l+heavy f k t:=by
 have e:=yZ f h k
 unfold kL
 split
 ·rename_i ht;simp only [heavy,ht,if_true] at e⊢;omega
 ·rename_i ht
  have e2:heavy f k t=f k+t.size:=if_neg ht
  rw [e2]
  simp only [pY,List.map_cons,List.sum_cons] at e⊢
  omega
theorem zZ (f:K→Nat) {l:List (K×aj)} (h:kW l):l.length≤pY f l:=by
 have h:=h.2
 clear ‹kW l›
 induction l with
 | nil=>exact Nat.le_refl _
 | cons q l ih =>
  have:=ih fun x hx=>h x (List.mem_cons_of_mem _ hx)
  have:=h q (List.mem_cons_self ..)
  simp only [pY,List.map_cons,List.sum_cons,List.length_cons] at *
  omega
end
def gW:aj:=⟨#[73,78,80,85,84]⟩
def dA:aj:=⟨#[79,85,84,80,85,84]⟩
structure aU where
 vars:List (aj×aj)
 items:List ((aj×aj)×aj)
 bytes:Nat
 told:Nat
 output:List aj
 input:List aj
 how:Int
 rules:List (aj×aB)
 steps:Nat
 hits:List Nat
def iK (s:aU) (n:aj):(aj×Bool)×aU :=
 if n=dA then ((⟨#[]⟩,true),s)
 else if n=gW then match s.input with
  | []=>((⟨#[]⟩,false),s)
  | t::r=>((t,true),{s with input:=r})
 else ((lookA s.vars n,true),s)
def vU (s:aU) (t:aj):Bool×aU :=
 if 1048576<s.told+t.size+1 then (false,{s with how:=3}) else (true,{s with told:=s.told+(t.size+1),output:=s.output++[t]})
def fH (s:aU) (n t:aj):Bool×aU :=
 if n=gW∨65536<t.size then (false,s)
 else if n=dA then vU s t
 else if 1048576+(lookA s.vars n).size<s.bytes+t.size then (false,{s with how:=3})
 else (true,{s with bytes:=s.bytes+t.size-(lookA s.vars n).size,vars:=kL s.vars n t})
def uP (k:aj×aj):Nat:=k.2.size
def JA (s:aU) (k:aj×aj) (t:aj):Bool×aU :=
 if 65536<t.size then (false,s)
 else if 1048576+heavy uP k (lookA s.items k)<s.bytes+heavy uP k t then (false,{s with how:=3})
 else (true,{s with bytes:=s.bytes+heavy uP k t-heavy uP k (lookA s.items k),items:=kL s.items k t})
structure bH (s:aU):Prop where
 vars:kW s.vars
 items:kW s.items
 bytes:s.bytes=pY (fun _=>0) s.vars+pY uP s.items
 most:s.bytes≤1048576
 told:s.told=(s.output.map fun t=>t.size+1).sum
 much:s.told≤1048576
 Yf:∀p∈s.vars,p.2.size≤65536∧p.1≠gW∧p.1≠dA
 isz:∀p∈s.items,p.2.size≤65536
 osz:∀t∈s.output,t.size≤65536
 nsz:∀t∈s.input,t.size≤65536
theorem xG {K:Type} (k:K) (t:aj):heavy (fun _=>0) k t=t.size:=by
 unfold heavy
 split
 ·rename_i h;exact h.symm
 ·exact Nat.zero_add _
theorem Gn {K:Type} [DecidableEq K] {l:List (K×aj)} {k:K} {t:aj} {p:K×aj} (h:p∈kL l k t):p=(k,t)∨p∈l:=by
 unfold kL at h
 split at h
 ·exact .inr (sN.1 h).1
 ·rcases List.mem_cons.1 h with rfl|h
  ·exact .inl rfl
  ·exact .inr (sN.1 h).1
theorem bH.get {s:aU} (h:bH s) (n:aj):bH (iK s n).2∧(iK s n).1.1.size≤65536:=by
 unfold iK
 split
 ·exact ⟨h,Nat.zero_le _⟩
 split
 ·split
  ·exact ⟨h,Nat.zero_le _⟩
  ·rename_i t r e
   exact ⟨{h with nsz:=fun x hx=>h.nsz x (by rw [e];exact List.mem_cons_of_mem _ hx)},h.nsz t (by rw [e];exact List.mem_cons_self ..)⟩
 ·refine ⟨h,?_⟩
  by_cases h0:(lookA s.vars n).size=0
  ·show (lookA s.vars n).size≤65536
   omega
  ·exact (h.Yf _ (yP h0)).1
theorem Ye {s:aU} (h:bH s) (n:aj):(lookA s.vars n).size≤s.bytes:=by
 have:=yZ (fun _=>0) h.vars n
 rw [xG] at this
 have:=h.bytes
 omega
theorem afk {s:aU} (h:bH s) (k:aj×aj):heavy uP k (lookA s.items k)≤s.bytes:=by
 have:=yZ uP h.items k
 have:=h.bytes
 omega
theorem bH.how {s:aU} (h:bH s) (n:Int):bH {s with how:=n}:={h with}
theorem bH.tell {s:aU} (h:bH s) (t:aj) (ht:t.size≤65536):bH (vU s t).2:=by
 unfold vU
 split
 ·exact h.how 3
 ·rename_i hm
  refine {h with told:=?_,much:=?_,osz:=?_}
  ·show s.told+(t.size+1)=((s.output++[t]).map fun t=>t.size+1).sum
   rw [List.map_append,List.sum_append,h.told];simp
  ·show s.told+(t.size+1)≤1048576
   omega
  ·intro x hx
   rcases List.mem_append.1 hx with hx|hx
   ·exact h.osz x hx
   ·rw [List.mem_singleton.1 hx];exact ht
theorem bH.set {s:aU} (h:bH s) (n t:aj):bH (fH s n t).2:=by
 unfold fH
 split
 ·exact h
 rename_i hn
 split
 ·exact h.tell t (by omega)
 rename_i ho
 split
 ·exact h.how 3
 ·rename_i hr
  have e:=QE (fun _=>0) h.vars n t
  rw [xG,xG] at e
  have hb:=h.bytes
  have hl:=Ye h n
  refine {h with vars:=h.vars.put n t,bytes:=?_,most:=?_,Yf:=?_}
  ·show s.bytes+t.size-(lookA s.vars n).size=pY (fun _=>0) (kL s.vars n t)+pY uP s.items
   omega
  ·show s.bytes+t.size-(lookA s.vars n).size≤1048576
   omega
  ·intro p hp
   rcases Gn hp with rfl|hp
   ·exact ⟨by show t.size≤65536;omega,fun e=>hn (.inl e),ho⟩
   ·exact h.Yf p hp
theorem bH.put {s:aU} (h:bH s) (k:aj×aj) (t:aj):bH (JA s k t).2:=by
 unfold JA
 split
 ·exact h
 rename_i hn
 split
 ·exact h.how 3
 ·rename_i hr
  have e:=QE uP h.items k t
  have hb:=h.bytes
  have hl:=afk h k
  refine {h with items:=h.items.put k t,bytes:=?_,most:=?_,isz:=?_}
  ·show s.bytes+heavy uP k t-heavy uP k (lookA s.items k)=pY (fun _=>0) s.vars+pY uP (kL s.items k t)
   omega
  ·show s.bytes+heavy uP k t-heavy uP k (lookA s.items k)≤1048576
   omega
  ·intro p hp
   rcases Gn hp with rfl|hp
   ·show t.size≤65536;omega
   ·exact h.isz p hp
end Go.Proofs.YtgoijmpahffnhaaGreatDoor
