/-  -/
import Derived.Test.YtodebjhalipefaaGreatDoorBase
import Derived.Test.YtodebjhalipefaaGreatDoorLq8
import Derived.Test.YtodebjhalipefaaGreatDoorLq11
import Derived.Test.YtodebjhalipefaaGreatDoorLq19
import Derived.Test.YtodebjhalipefaaGreatDoorLq20
import Derived.Deep.RegionWith
import Derived.RegionDies
import Derived.Recover
import Derived.RegionTactic
import Derived.BigRegion
import Derived.Test.YtodebjhalipefaaGreatDoorLq13
namespace Go.Proofs.YtodebjhalipefaaGreatDoor
set_option linter.all false
open Go.RowKit
section
variable {K:Type} [DecidableEq K]
def lookA (l:List (K×aj)) (k:K):aj:=match l.find? (fun p=>p.1==k) with|some p=>p.2|none=>⟨#[]⟩
def iE (l:List (K×aj)) (k:K):List (K×aj):=l.filter (fun p=>!(p.1==k))
def jV (l:List (K×aj)) (k:K) (t:aj):List (K×aj):=if t.size=0 then iE l k else (k,t)::iE l k
def kG (l:List (K×aj)):Prop:=l.Pairwise (fun p q=>p.1≠q.1)∧∀p∈l,0<p.2.size
def o8 (f:K→Nat) (l:List (K×aj)):Nat:=(l.map fun p=>f p.1+p.2.size).sum
def heavy (f:K→Nat) (k:K) (t:aj):Nat:=if t.size=0 then 0 else f k+t.size
theorem rG {l:List (K×aj)} {k:K} {p:K×aj}:p∈iE l k↔p∈l∧p.1≠k:=by simp [iE]
theorem kG.drop {l:List (K×aj)} (h:kG l) (k:K):kG (iE l k) :=
 ⟨h.1.filter _,fun p hp=>h.2 p (rG.1 hp).1⟩
theorem kG.put {l:List (K×aj)} (h:kG l) (k:K) (t:aj):kG (jV l k t):=by
 unfold jV
 split
 ·exact h.drop k
 ·rename_i ht
  refine ⟨List.pairwise_cons.2 ⟨fun p hp=>?_,(h.drop k).1⟩,fun p hp=>?_⟩
  ·exact fun e=>(rG.1 hp).2 e.symm
  ·rcases List.mem_cons.1 hp with rfl|hp
   ·exact Nat.pos_of_ne_zero ht
   ·exact (h.drop k).2 p hp
theorem jJ (p:K×aj) (l:List (K×aj)) (k:K):lookA (p::l) k=if p.1=k then p.2 else lookA l k:=by
 unfold lookA
 rw [List.find?_cons]
 by_cases h:p.1=k
 ·simp [h]
 ·have e:(p.1==k)=false:=by simpa using h
  rw [e,if_neg h]
theorem sV (l:List (K×aj)) (k:K):lookA (iE l k) k=⟨#[]⟩:=by
 induction l with
 | nil=>rfl
 | cons p l ih =>
  unfold iE at ih⊢
  rw [List.filter_cons]
  by_cases h:p.1=k
  ·simpa [h] using ih
  ·simp only [beq_iff_eq,h,Bool.not_eq_true',beq_eq_false_iff_ne,ne_eq,not_false_eq_true,if_true]
   rw [jJ,if_neg h];exact ih
theorem qW (l:List (K×aj)) {k k':K} (hn:k'≠k):lookA (iE l k) k'=lookA l k':=by
 induction l with
 | nil=>rfl
 | cons p l ih =>
  unfold iE at ih⊢
  rw [List.filter_cons]
  by_cases h:p.1=k
  ·have h2:p.1≠k':=fun e=>hn (e.symm.trans h)
   rw [jJ,if_neg h2]
   simpa [h] using ih
  ·simp only [beq_iff_eq,h,Bool.not_eq_true',beq_eq_false_iff_ne,ne_eq,not_false_eq_true,if_true]
   rw [jJ,jJ,ih]
theorem oZ {t:aj} (h:t.size=0):t=⟨#[]⟩:=by
 obtain ⟨a⟩:=t
 have:a = #[]:=Array.eq_empty_of_size_eq_zero h
 rw [this]
theorem zA (l:List (K×aj)) (k:K) (t:aj):lookA (jV l k t) k=t:=by
 unfold jV
 split
 ·rename_i h;rw [sV,oZ h]
 ·rw [jJ,if_pos rfl]
theorem yu (l:List (K×aj)) {k k':K} (hn:k'≠k) (t:aj):lookA (jV l k t) k'=lookA l k':=by
 unfold jV
 split
 ·exact qW l hn
 ·rw [jJ,if_neg (fun e=>hn e.symm)];exact qW l hn
theorem xX {l:List (K×aj)} {k:K} (h:(lookA l k).size≠0):(k,lookA l k)∈l:=by
 induction l with
 | nil=>exact absurd rfl h
 | cons q l ih =>
  rw [jJ] at h⊢
  by_cases hk:q.1=k
  ·rw [if_pos hk] at h⊢
   exact List.mem_cons.2 (.inl (by rw [←hk]))
  ·rw [if_neg hk] at h⊢
   exact List.mem_cons_of_mem _ (ih h)
theorem GV {l:List (K×aj)} {k:K} (h:∀p∈l,p.1≠k):iE l k=l:=by
 unfold iE
 exact List.filter_eq_self.2 fun p hp=>by simpa using h p hp
theorem yt (f:K→Nat) {l:List (K×aj)} (h:kG l) (k:K):o8 f (iE l k)+heavy f k (lookA l k)=o8 f l:=by
 induction l with
 | nil=>rfl
 | cons q l ih =>
  have hl:kG l:=⟨(List.pairwise_cons.1 h.1).2,fun x hx=>h.2 x (List.mem_cons_of_mem _ hx)⟩
  have ih:=ih hl
  rw [jJ]
  unfold iE at ih⊢
  rw [List.filter_cons]
  by_cases hk:q.1=k
  ·have hno:∀p∈l,p.1≠k:=fun p hp=>hk ▸ ((List.pairwise_cons.1 h.1).1 p hp).symm
   have e:=GV hno
   unfold iE at e
   have hq:q.2.size≠0:=Nat.ne_of_gt (h.2 q (List.mem_cons_self ..))
   simp only [hk,beq_self_eq_true,Bool.not_true,Bool.false_eq_true,if_false,if_true]
   rw [e]
   unfold heavy
   rw [if_neg hq]
   simp only [o8,List.map_cons,List.sum_cons,hk]
   omega
  ·simp only [beq_iff_eq,hk,Bool.not_eq_true',beq_eq_false_iff_ne,ne_eq,not_false_eq_true,if_true,if_false]
   simp only [o8,List.map_cons,List.sum_cons] at ih⊢
   omega
theorem Qc (f:K→Nat) {l:List (K×aj)} (h:kG l) (k:K) (t:aj):o8 f (jV l k t)+heavy f k (lookA l k)=o8 f l+heavy f k t:=by
 have e:=yt f h k
 unfold jV
 split
 ·rename_i ht;simp only [heavy,ht,if_true] at e⊢;omega
 ·rename_i ht
  have e2:heavy f k t=f k+t.size:=if_neg ht
  rw [e2]
  simp only [o8,List.map_cons,List.sum_cons] at e⊢
  omega
theorem zu (f:K→Nat) {l:List (K×aj)} (h:kG l):l.length≤o8 f l:=by
 have h:=h.2
 clear ‹kG l›
 induction l with
 | nil=>exact Nat.le_refl _
 | cons q l ih =>
  have:=ih fun x hx=>h x (List.mem_cons_of_mem _ hx)
  have:=h q (List.mem_cons_self ..)
  simp only [o8,List.map_cons,List.sum_cons,List.length_cons] at *
  omega
end
def iY:aj:=⟨#[73,78,80,85,84]⟩
def fH:aj:=⟨#[79,85,84,80,85,84]⟩
structure aW where
 vars:List (aj×aj)
 items:List ((aj×aj)×aj)
 bytes:Nat
 told:Nat
 output:List aj
 input:List aj
 how:Int
 rules:List (aj×aB)
 steps:Nat
 hits:List Nat
def jg (s:aW) (n:aj):(aj×Bool)×aW :=
 if n=fH then ((⟨#[]⟩,true),s)
 else if n=iY then match s.input with
  | []=>((⟨#[]⟩,false),s)
  | t::r=>((t,true),{s with input:=r})
 else ((lookA s.vars n,true),s)
def wF (s:aW) (t:aj):Bool×aW :=
 if 1048576<s.told+t.size+1 then (false,{s with how:=3}) else (true,{s with told:=s.told+(t.size+1),output:=s.output++[t]})
def fU (s:aW) (n t:aj):Bool×aW :=
 if n=iY∨65536<t.size then (false,s)
 else if n=fH then wF s t
 else if 1048576+(lookA s.vars n).size<s.bytes+t.size then (false,{s with how:=3})
 else (true,{s with bytes:=s.bytes+t.size-(lookA s.vars n).size,vars:=jV s.vars n t})
def tX (k:aj×aj):Nat:=k.2.size
def IZ (s:aW) (k:aj×aj) (t:aj):Bool×aW :=
 if 65536<t.size then (false,s)
 else if 1048576+heavy tX k (lookA s.items k)<s.bytes+heavy tX k t then (false,{s with how:=3})
 else (true,{s with bytes:=s.bytes+heavy tX k t-heavy tX k (lookA s.items k),items:=jV s.items k t})
structure bG (s:aW):Prop where
 vars:kG s.vars
 items:kG s.items
 bytes:s.bytes=o8 (fun _=>0) s.vars+o8 tX s.items
 most:s.bytes≤1048576
 told:s.told=(s.output.map fun t=>t.size+1).sum
 much:s.told≤1048576
 WA:∀p∈s.vars,p.2.size≤65536∧p.1≠iY∧p.1≠fH
 isz:∀p∈s.items,p.2.size≤65536
 osz:∀t∈s.output,t.size≤65536
 nsz:∀t∈s.input,t.size≤65536
theorem wH {K:Type} (k:K) (t:aj):heavy (fun _=>0) k t=t.size:=by
 unfold heavy
 split
 ·rename_i h;exact h.symm
 ·exact Nat.zero_add _
theorem Fh {K:Type} [DecidableEq K] {l:List (K×aj)} {k:K} {t:aj} {p:K×aj} (h:p∈jV l k t):p=(k,t)∨p∈l:=by
 unfold jV at h
 split at h
 ·exact .inr (rG.1 h).1
 ·rcases List.mem_cons.1 h with rfl|h
  ·exact .inl rfl
  ·exact .inr (rG.1 h).1
theorem bG.get {s:aW} (h:bG s) (n:aj):bG (jg s n).2∧(jg s n).1.1.size≤65536:=by
 unfold jg
 split
 ·exact ⟨h,Nat.zero_le _⟩
 split
 ·split
  ·exact ⟨h,Nat.zero_le _⟩
  ·rename_i t r e
   exact ⟨{h with nsz:=fun x hx=>h.nsz x (by rw [e];exact List.mem_cons_of_mem _ hx)},h.nsz t (by rw [e];exact List.mem_cons_self ..)⟩
 ·refine ⟨h,?_⟩
  by_cases h0:(lookA s.vars n).size=0
  ·show (lookA s.vars n).size≤65536
   omega
  ·exact (h.WA _ (xX h0)).1
theorem Wy {s:aW} (h:bG s) (n:aj):(lookA s.vars n).size≤s.bytes:=by
 have:=yt (fun _=>0) h.vars n
 rw [wH] at this
 have:=h.bytes
 omega
theorem adJ {s:aW} (h:bG s) (k:aj×aj):heavy tX k (lookA s.items k)≤s.bytes:=by
 have:=yt tX h.items k
 have:=h.bytes
 omega
theorem bG.how {s:aW} (h:bG s) (n:Int):bG {s with how:=n}:={h with}
theorem bG.tell {s:aW} (h:bG s) (t:aj) (ht:t.size≤65536):bG (wF s t).2:=by
 unfold wF
 split
 ·exact h.how 3
 ·rename_i hm
  refine {h with told:=?_,much:=?_,osz:=?_}
  ·show s.told+(t.size+1)=((s.output++[t]).map fun t=>t.size+1).sum
   rw [List.map_append,List.sum_append,h.told];simp
  ·show s.told+(t.size+1)≤1048576
   omega
  ·intro x hx
   rcases List.mem_append.1 hx with hx|hx
   ·exact h.osz x hx
   ·rw [List.mem_singleton.1 hx];exact ht
theorem bG.set {s:aW} (h:bG s) (n t:aj):bG (fU s n t).2:=by
 unfold fU
 split
 ·exact h
 rename_i hn
 split
 ·exact h.tell t (by omega)
 rename_i ho
 split
 ·exact h.how 3
 ·rename_i hr
  have e:=Qc (fun _=>0) h.vars n t
  rw [wH,wH] at e
  have hb:=h.bytes
  have hl:=Wy h n
  refine {h with vars:=h.vars.put n t,bytes:=?_,most:=?_,WA:=?_}
  ·show s.bytes+t.size-(lookA s.vars n).size=o8 (fun _=>0) (jV s.vars n t)+o8 tX s.items
   omega
  ·show s.bytes+t.size-(lookA s.vars n).size≤1048576
   omega
  ·intro p hp
   rcases Fh hp with rfl|hp
   ·exact ⟨by show t.size≤65536;omega,fun e=>hn (.inl e),ho⟩
   ·exact h.WA p hp
theorem bG.put {s:aW} (h:bG s) (k:aj×aj) (t:aj):bG (IZ s k t).2:=by
 unfold IZ
 split
 ·exact h
 rename_i hn
 split
 ·exact h.how 3
 ·rename_i hr
  have e:=Qc tX h.items k t
  have hb:=h.bytes
  have hl:=adJ h k
  refine {h with items:=h.items.put k t,bytes:=?_,most:=?_,isz:=?_}
  ·show s.bytes+heavy tX k t-heavy tX k (lookA s.items k)=o8 (fun _=>0) s.vars+o8 tX (jV s.items k t)
   omega
  ·show s.bytes+heavy tX k t-heavy tX k (lookA s.items k)≤1048576
   omega
  ·intro p hp
   rcases Fh hp with rfl|hp
   ·show t.size≤65536;omega
   ·exact h.isz p hp
end Go.Proofs.YtodebjhalipefaaGreatDoor

namespace Go.Proofs.YtodebjhalipefaaGreatDoor
set_option linter.all false
open Go.RowKit
section
variable {B n0 n1 n2:Nat} {xs0 xs1 xs2:List Value} {u0 u1 u2:Value} {w w':World}
theorem Ch.row {l:List Value} (hB:B≤w.heap.size) (hl:∀u∈l,True) (hz:l.length≤1000):Ch (w.alloc (.cells l.toArray 9)) B l.length l (.slice (some ⟨w.heap.size,0,none⟩) l.length l.length) :=
 ⟨_,_,rfl,by simp,.inr ⟨w.heap.size,0,l.length,l.toArray,rfl,hB,ay w _,Nat.le_refl _,by unfold maxLen;omega,by simp,by simp⟩⟩
end
end Go.Proofs.YtodebjhalipefaaGreatDoor

namespace Go.Proofs.YtodebjhalipefaaGreatDoor
set_option linter.all false
open Go.RowKit
def YX (B:Nat) (p:aB) (w':World) (v:Value):Prop:=∃S:Nat→Prop,(∀b,S b→B≤b∧b<w'.heap.size)∧ou w' S v p
theorem Five.eY {M:Nat} {z0 z1 z2 z3 z4:Value} {w:World} (h:Five M z0 z1 z2 z3 z4 w) (c0 c1 c2 c3 c4:Value):Five M c0 c1 c2 c3 c4 (eY w M c0 c1 c2 c3 c4):=by
 unfold Five at h⊢
 unfold Go.Proofs.YtodebjhalipefaaGreatDoor.eY
 rw [aO (aO (aO (aO (aO h _) _) _) _) _];rfl
theorem Kept.eY {X:Nat→Prop} {a w:World} (h:Kept X a w) {M:Nat} (hM:X M∨a.heap.size≤M) (c0 c1 c2 c3 c4:Value):Kept X a (eY w M c0 c1 c2 c3 c4) :=
 ((((h.setCell (p:=⟨M,0,none⟩) hM _).setCell (p:=⟨M,1,none⟩) hM _).setCell (p:=⟨M,2,none⟩) hM _).setCell (p:=⟨M,3,none⟩) hM _).setCell (p:=⟨M,4,none⟩) hM _
end Go.Proofs.YtodebjhalipefaaGreatDoor

namespace Go.Proofs.YtodebjhalipefaaGreatDoor
set_option linter.all false
open Go.RowKit
theorem gI.pats {w:World} {S:Nat→Prop}:∀{l:List aB} {cs:List Value},gI w S cs l→∀(g o:Nat),(∀j u,cs[j]?=some u→w.cell? ⟨g,o+j,none⟩=some u)→aN w (fun b=>S b∨b=g) (some ⟨g,o,none⟩) l
 | [],cs,h,g,o,hc=>by unfold aN;trivial
 | p::ps,cs,h,g,o,hc=>by
  rw [gI] at h;obtain ⟨c,r,rfl,⟨ka,cap,rfl,hz,hk⟩,h2⟩:=h
  unfold aN
  refine ⟨g,o,rfl,?_,h2.pats g (o+5) fun i u hi=>?_⟩
  ·obtain ⟨k,t,n,nm,kids⟩:=p
   unfold aU
   exact ⟨.inr rfl,hz,hc 0 _ rfl,hc 1 _ rfl,hc 2 _ rfl,hc 3 _ rfl,ka,cap,hc 4 _ rfl,aN.same (fun _ _=>rfl) (fun b h=>.inl h) _ _ hk⟩
  ·rw [show o+5+i=o+(5+i) by omega];exact hc _ _ (by rw [List.getElem?_append_right (by simp)];simpa using hi)
theorem gI.more {w:World} {S S':Nat→Prop}:∀{l:List aB} {cs:List Value},gI w S cs l→(∀b,S b→S' b)→gI w S' cs l
 | [],_,h,_=>h
 | p::ps,cs,h,hs=>by
  rw [gI] at h⊢;obtain ⟨c,r,rfl,⟨ka,cap,rfl,hz,hk⟩,h2⟩:=h
  exact ⟨_,r,rfl,⟨ka,cap,rfl,hz,aN.same (fun _ _=>rfl) hs _ _ hk⟩,h2.more hs⟩
theorem aN.one {w:World} {S:Nat→Prop} {g o:Nat} {p:aB} (h:aN w S (some ⟨g,o,none⟩) [p]):aU w S g o p:=by
 unfold aN at h;obtain ⟨b,o',e,h,_⟩:=h
 simp only [Option.some.injEq,Addr.mk.injEq,and_true] at e
 obtain ⟨rfl,rfl⟩:=e;exact h
end Go.Proofs.YtodebjhalipefaaGreatDoor

namespace Go.Proofs.YtodebjhalipefaaGreatDoor
set_option linter.all false
open Go.RowKit
def Two (M:Nat) (c0 c1:Value) (w:World):Prop:=w.heap[M]?=some (.cells #[c0,c1] 39 (0,0))
theorem Two.lt {M:Nat} {c0 c1:Value} {w:World} (h:Two M c0 c1 w):M<w.heap.size:=(Array.getElem?_eq_some_iff.1 h).1
theorem Two.kept {M:Nat} {c0 c1:Value} {w w':World} {X:Nat→Prop} (h:Two M c0 c1 w) (hk:Kept X w w') (hx:¬X M):Two M c0 c1 w':=by
 unfold Two;rw [hk.block M h.lt hx];exact h
theorem Two.cells {M:Nat} {c0 c1:Value} {w:World} (h:Two M c0 c1 w):w.cell? ⟨M,0,none⟩=some c0∧w.cell? ⟨M,1,none⟩=some c1∧∀o,w.frozen? ⟨M,o,none⟩=false:=by
 unfold Two at h
 refine ⟨?_,?_,fun o=>by simp [World.frozen?,h]⟩<;>(rw [cell_of_row w M _ _ _ _ h];rfl)
def set2 (w:World) (M:Nat) (c0 c1:Value):World:=(w.setCell ⟨M,0,none⟩ c0).setCell ⟨M,1,none⟩ c1
theorem Two.set2 {M:Nat} {z0 z1:Value} {w:World} (h:Two M z0 z1 w) (c0 c1:Value):Two M c0 c1 (set2 w M c0 c1):=by
 unfold Two at h⊢
 unfold Go.Proofs.YtodebjhalipefaaGreatDoor.set2
 rw [aO (aO h _) _];rfl
theorem Kept.set2 {X:Nat→Prop} {a w:World} (h:Kept X a w) {M:Nat} (hM:X M∨a.heap.size≤M) (c0 c1:Value):Kept X a (set2 w M c0 c1) :=
 (h.setCell (p:=⟨M,0,none⟩) hM _).setCell (p:=⟨M,1,none⟩) hM _
end Go.Proofs.YtodebjhalipefaaGreatDoor

namespace Go.Proofs.YtodebjhalipefaaGreatDoor
set_option linter.all false
open Go.RowKit
set_option maxRecDepth 100000
def V3:Value:=.agg #[.string ⟨#[]⟩,.int .i64 0,.int .i64 0,.string ⟨#[]⟩,.int .i64 0,.string ⟨#[]⟩,.slice none 0 0,.int .i64 0,.string ⟨#[]⟩,.int .i64 0,.string ⟨#[]⟩,.slice none 0 0,.int .i64 0,.string ⟨#[]⟩,.int .i64 0,.string ⟨#[]⟩,.slice none 0 0,.string ⟨#[]⟩,.string ⟨#[]⟩,.slice none 0 0,.slice none 0 0,.string ⟨#[]⟩,.string ⟨#[]⟩,.string ⟨#[]⟩]
theorem acM:(Tryz.prog.info? 69).map (fun i=>(i.zero,i.size,i.bytes))=some (some V3,24,368):=by kernel_rfl
theorem uT (sa:gW) (s:aF):(bM sa s).length=24:=rfl
theorem acN (w:World) (sa:gW) (s:aF):(Instr.buildSlice 37 1 #[(0,dN sa s)]).run Tryz.prog w=.ok (.slice (some ⟨w.heap.size,0,none⟩) 1 1) (w.alloc (.cells (bM sa s).toArray 69)):=by kernel_rfl
theorem Gj {ops:Array Oper} {rest:List Oper} {o:Oper} {a:Act} {Q:Exit→Act→World→Prop} {w:World} (hgd:o.guard=none) (x:Operand) (ho:o.op=.buildSlice 37 1 #[(0,x)])
  (sa:gW) (s:aF) (hx:a.eval x=dN sa s)
  (h:∀w',bT w.heap.size sa s w'→Kept aA w w'→wpList Tryz.prog ops Q rest (a.put o.dst (.slice (some ⟨w.heap.size,0,none⟩) 1 1)) w'):wpList Tryz.prog ops Q (o::rest) a w:=by
 refine wpList_plain hgd fun K hK=>?_
 have hr:(execOp a.eval o).run Tryz.prog w=.ok (.value (.slice (some ⟨w.heap.size,0,none⟩) 1 1)) (w.alloc (.cells (bM sa s).toArray 69)):=by
  unfold execOp
  rw [ho]
  simp only [List.map_toArray,List.map_cons,List.map_nil,hx,Sem.run_bind,acN w sa s,Result.andThen_ok,Sem.run_pure]
 unfold Oper.wp
 rw [hr]
 exact hK _ _ (h _ (ay w _) ((Kept.refl aA w).alloc _))
theorem ad7 {w:World} {g:Nat} {sa:gW} {s:aF} (h:bT g sa s w):Src Tryz.prog 24 37 (.slice (some ⟨g,0,none⟩) 1 1) 1 (bM sa s) w:=by
 have h':w.heap[g]?=some (.cells (bM sa s).toArray 69 (0,0)):=h
 refine Src.ofSlice w Tryz.underlying37 _ _ _ _ rfl (World.news_of_block (fr:=(0,0)) h') (by intro u hu;simp [bM] at hu;rcases hu with rfl|rfl|rfl|rfl|rfl|rfl|rfl|rfl|rfl|rfl|rfl|rfl|rfl|rfl|rfl|rfl|rfl|rfl|rfl|rfl|rfl|rfl|rfl|rfl<;>rfl)
def gJ (w:World) (S:Nat→Prop):List Value→List aF→Prop
 | cs,[]=>cs=[]
 | cs,s::q=>∃sa rest,cs=bM sa s++rest∧ql s∧vJ w S sa s∧gJ w S rest q
theorem gJ.append {w:World} {S:Nat→Prop}:∀{l l':List aF} {cs cs':List Value},gJ w S cs l→gJ w S cs' l'→gJ w S (cs++cs') (l++l')
 | [],_,cs,_,h,h'=>by rw [gJ] at h;subst h;exact h'
 | p::ps,_,cs,_,h,h'=>by
  rw [gJ] at h;obtain ⟨sa,r,rfl,hz,h1,h2⟩:=h
  rw [List.append_assoc,List.cons_append,gJ]
  exact ⟨sa,_,rfl,hz,h1,h2.append h'⟩
theorem gJ.one {w:World} {S:Nat→Prop} {sa:gW} {s:aF} (hz:ql s) (ho:vJ w S sa s):gJ w S (bM sa s) [s]:=by
 rw [gJ];exact ⟨sa,[],(List.append_nil _).symm,hz,ho,rfl⟩
theorem gJ.kept {w w':World} {S:Nat→Prop} {X:Nat→Prop}:∀{l:List aF} {cs:List Value},gJ w S cs l→Kept X w w'→Safe S X w.heap.size→gJ w' S cs l
 | [],_,h,_,_=>h
 | p::ps,cs,h,hk,hs=>by
  rw [gJ] at h⊢;obtain ⟨sa,r,rfl,hz,h1,h2⟩:=h
  exact ⟨sa,r,rfl,hz,h1.to hk hs (fun _ h=>h),h2.kept hk hs⟩
theorem gJ.at {w:World} {S S':Nat→Prop} {g:Nat} (hlt:Safe S aA w.heap.size) (hS:∀b,S b→S' b) (hg:S' g):∀{l:List aF} {cs:List Value} {o:Nat},gJ w S cs l→(∀j u,cs[j]?=some u→w.cell? ⟨g,o+j,none⟩=some u)→∀i (h:i<l.length),zV w S' g (o+i*24) l[i]
 | [],_,_,_,_,i,h=>by simp at h
 | p::ps,cs,o,h,hc,i,hi=>by
  rw [gJ] at h;obtain ⟨sa,r,rfl,hz,h1,h2⟩:=h
  cases i with
  | zero =>
   rw [Nat.zero_mul,Nat.add_zero]
   refine ⟨sa,hg,hz,fun j hj=>hc j _ ?_,h1.to (Kept.refl aA w) hlt hS⟩
   rw [List.getElem?_append_left (by rw [uT];exact hj),List.getElem?_eq_getElem (by rw [uT];exact hj)];rfl
  | succ i =>
   have h3:=h2.at hlt hS hg (o:=o+24) (fun j u hu=>by
    have:=hc (24+j) u (by rw [List.getElem?_append_right (by rw [uT];omega),uT,Nat.add_sub_cancel_left];exact hu)
    rw [←Nat.add_assoc] at this;exact this) i (by simpa using hi)
   rw [show o+(i+1)*24=o+24+i*24 by omega]
   simpa using h3
theorem aP.sts {w:World} {B:Nat} {S S':Nat→Prop} {v:Value} {l:List aF} {cs:List Value} (h:aP w B 69 24 v l.length cs) (hr:gJ w S cs l) (hlt:Safe S aA w.heap.size) (hS:∀b,S b→S' b) (hN:∀g,v.ownBlock=some g→S' g):∃a c,v=.slice a l.length c∧mW w S' a l:=by
 rcases h.cells with ⟨rfl,h0⟩|⟨g,o,c,rfl,_,hg,_,_,hc⟩
 ·exact ⟨none,0,by rw [h0],fun h=>by omega⟩
 ·exact ⟨_,c,rfl,fun _=>⟨g,o,rfl,hr.at hlt hS (hN g rfl) fun j u hu=>(hc j u hu).1⟩⟩
end Go.Proofs.YtodebjhalipefaaGreatDoor

namespace Go.Proofs.YtodebjhalipefaaGreatDoor
set_option linter.all false
open Go.RowKit
abbrev aZ (α:Type):=Except Er (α×List aC)
def dJ (en:Nat):List aC→Nat
 | []=>en
 | t::_=>t.at_
def aG (x:aj):List aC→Bool
 | []=>false
 | t::_=>decide (t.kind=5∧t.text=x)
def dW (x:aj) (en:Nat) (l:List aC):Except Er (List aC):=if aG x l=true then .ok l.tail else .error (2,dJ en l)
def dZ (k:Int) (en:Nat):List aC→aZ aC
 | []=>.error (2,en)
 | t::r=>if t.kind=k then .ok (t,r) else .error (2,t.at_)
def dL (en:Nat) (l:List aC):aZ aj :=
 match dZ 1 en l with
 | .error er=>.error er
 | .ok (t,r)=>if 16<t.text.size then .error (7,t.at_) else .ok (t.text,r)
def qx (en:Nat) (l:List aC):aZ aB :=
 match dZ 4 en l with
 | .error er=>.error er
 | .ok _=>.error (2,0)
def bs (l:List UInt8):aj:=⟨l.toArray⟩
def BN (rC:Nat) (x:aj):Int :=
 if rC=1 then (if x=bs [38] then 8 else 0)
 else if rC=2 then (if x=bs [43] then 9 else if x=bs [45] then 10 else 0)
 else if x=bs [42] then 11 else if x=bs [47] then 12 else if x=bs [37] then 13 else 0
def node2 (k:Int) (x y:aB):aB:=.mk k E0 0 E0 [x,y]
def node1 (k:Int) (x:aB):aB:=.mk k E0 0 E0 [x]
def opAt (rC:Nat):List aC→Int
 | []=>0
 | t::_=>if t.kind=5 then BN rC t.text else 0
def nY (rC:Nat) (sub:List aC→aZ aB):Nat→aB→List aC→aZ aB
 | 0,x,l=>.ok (x,l)
 | f+1,x,l =>
  if 0<opAt rC l then
   match sub l.tail with
   | .error er=>.error er
   | .ok (y,r)=>nY rC sub f (node2 (opAt rC l) x y) r
  else .ok (x,l)
def oG (rC:Nat) (sub:List aC→aZ aB) (l:List aC):aZ aB :=
 match sub l with
 | .error er=>.error er
 | .ok (x,r)=>nY rC sub r.length x r
def JA (un:List aC→aZ aB):List aC→aZ aB:=oG 1 (oG 2 (oG 3 un))
def qp (l:List UInt8):Nat:=l.foldl (fun n c=>n*10+(c.toNat-48)) 0
def FX (t:aC) (r:List aC):aZ aB :=
 if 1<t.text.size∧t.text.data.toList.head?=some 48 then .error (2,t.at_)
 else if 9223372036854775807<qp t.text.data.toList then .error (3,t.at_)
 else .ok (.mk 2 E0 (qp t.text.data.toList) E0 [],r)
def lg (ex:List aC→aZ aB) (en:Nat):Nat→List aB→List aC→aZ (List aB)
 | 0,ks,l=>.ok (ks,l)
 | f+1,ks,l =>
  if ks.length=8 then .error (5,dJ en l)
  else match ex l with
   | .error er=>.error er
   | .ok (x,r) =>
    if aG (bs [41]) r=true then .ok (ks++[x],r.tail)
    else match dW (bs [44]) en r with
     | .error er=>.error er
     | .ok r2=>lg ex en f (ks++[x]) r2
def bg (ex pr:List aC→aZ aB) (en:Nat) (l:List aC):aZ aB :=
 if aG (bs [40]) l=true then
  match ex l.tail with
  | .error er=>.error er
  | .ok (x,r)=>match dW (bs [41]) en r with
   | .error er=>.error er
   | .ok r2=>.ok (x,r2)
 else if aG (bs [36]) l=true then
  match pr l.tail with
  | .error er=>.error er
  | .ok (x,r)=>.ok (node1 5 x,r)
 else match dZ 3 en l with
  | .ok (t,r)=>.ok (.mk 1 t.text 0 E0 [],r)
  | .error _=>match dZ 2 en l with
   | .ok (t,r)=>FX t r
   | .error _=>match dL en l with
    | .error er=>.error er
    | .ok (nm,r) =>
     if aG (bs [60]) r=true then
      match ex r.tail with
      | .error er=>.error er
      | .ok (x,r2)=>match dW (bs [62]) en r2 with
       | .error er=>.error er
       | .ok r3=>.ok (.mk 4 E0 0 nm [x],r3)
     else if aG (bs [40]) r=true then
      if aG (bs [41]) r.tail=true then .ok (.mk 6 E0 0 nm [],r.tail.tail)
      else match lg ex en 9 [] r.tail with
       | .error er=>.error er
       | .ok (ks,r2)=>.ok (.mk 6 E0 0 nm ks,r2)
     else .ok (.mk 3 E0 0 nm [],r)
def yJ (un pr:List aC→aZ aB) (l:List aC):aZ aB :=
 if aG (bs [45]) l=true then
  match un l.tail with
  | .error er=>.error er
  | .ok (x,r)=>.ok (node1 7 x,r)
 else pr l
def tJ (en:Nat):Nat→(List aC→aZ aB)×(List aC→aZ aB)
 | 0=>(yJ (fun l=>.error (4,dJ en l)) (bg (fun l=>.error (4,dJ en l)) (fun l=>.error (4,dJ en l)) en),bg (fun l=>.error (4,dJ en l)) (fun l=>.error (4,dJ en l)) en)
 | d+1=>(yJ (tJ en d).1 (bg (JA (tJ en d).1) (tJ en d).2 en),bg (JA (tJ en d).1) (tJ en d).2 en)
def uY (en:Nat):Nat→List aC→aZ aB
 | 0,l=>.error (4,dJ en l)
 | d+1,l=>JA (tJ en d).1 l
def namesT (close:Option aj) (en:Nat):Nat→List aj→List aC→aZ (List aj)
 | 0,ns,l=>.ok (ns,l)
 | f+1,ns,l =>
  if ns.length=8 then .error (5,dJ en l)
  else match dL en l with
   | .error er=>.error er
   | .ok (n,r) =>
    match close with
    | some c=>if aG c r=true then .ok (ns++[n],r.tail) else
      match dW (bs [44]) en r with
      | .error er=>.error er
      | .ok r2=>namesT close en f (ns++[n]) r2
    | none=>if aG (bs [44]) r=true then namesT close en f (ns++[n]) r.tail else .ok (ns++[n],r)
def yL:aB:=.mk 0 E0 0 E0 []
def st0:aF:=⟨E0,1,yL,yL,yL,E0,E0,[],[],E0,E0,E0⟩
def rX:aj:=bs [68,69,70,73,78,69]
def AZ:aj:=bs [58,61]
def iP:List aC→Bool
 | _::t::_=>decide (t.kind=1)||decide (t.kind=5∧t.text=bs [44])
 | _=>false
def dY (en:Nat) (s:aF) (l:List aC):aZ aF :=
 match dL en l with
 | .error er=>.error er
 | .ok (nm,r)=>match dW (bs [40]) en r with
  | .error er=>.error er
  | .ok r1=>match (if aG (bs [41]) r1=true then .ok ([],r1.tail) else namesT (some (bs [41])) en 9 [] r1) with
   | .error er=>.error er
   | .ok (ps,r2)=>match (if iP r2=true then namesT none en 9 [] r2 else .ok ([],r2)) with
    | .error er=>.error er
    | .ok (ls,r3)=>match dL en r3 with
     | .error er=>.error er
     | .ok (e,r4)=>.ok ({s with kind:=7,name:=nm,params:=ps,locals:=ls,entry:=e},r4)
def dh:List aC→Bool
 | t::u::_=>decide (t.kind=1∧t.text=rX∧u.kind=1)
 | _=>false
def jI:List aC→Bool
 | t::u::_=>decide (t.kind=1∧u.kind=5∧u.text=AZ)
 | _=>false
def Ba (en:Nat) (s:aF) (l:List aC):aZ aF :=
 match dL en l with
 | .error er=>.error er
 | .ok (nm,r)=>match dW AZ en r with
  | .error er=>.error er
  | .ok r1=>match qx en r1 with
   | .error er=>.error er
   | .ok (p,r2)=>.ok ({s with kind:=6,name:=nm,pat:=p},r2)
def lu (en at_:Nat) (s:aF) (x:aB) (k:Int) (l:List aC):aZ aF :=
 if aG (bs [61]) l=true then
  if ¬isTarget x then .error (8,at_)
  else match uY en 400 l.tail with
   | .error er=>.error er
   | .ok (v,r)=>.ok ({s with kind:=k,target:=x,value:=v},r)
 else .ok (s,l)
def acu (en:Nat) (s:aF) (l:List aC):aZ aF :=
 match uY en 400 l with
 | .error er=>.error er
 | .ok (x,r) =>
  if aG (bs [63]) r=true then
   match qx en r.tail with
   | .error er=>.error er
   | .ok (p,r2)=>lu en (dJ en l) {s with kind:=4,value:=x,pat:=p} x 5 r2
  else lu en (dJ en l) {s with kind:=2,value:=x} x 3 r
def bodyT (en:Nat) (s:aF) (l:List aC):aZ aF :=
 if dh l=true then dY en s l.tail
 else if jI l=true then Ba en s l
 else acu en s l
def dQ (en:Nat) (l:List aC):aZ aj :=
 match dW (bs [40]) en l with
 | .error er=>.error er
 | .ok r=>match dL en r with
  | .error er=>.error er
  | .ok (n,r1)=>match dW (bs [41]) en r1 with
   | .error er=>.error er
   | .ok r2=>.ok (n,r2)
def eX (en:Nat) (s:aF) (l:List aC):aZ aF :=
 if aG (bs [40]) l=true then
  match dQ en l with
  | .error er=>.error er
  | .ok (n,r)=>.ok ({s with always:=n},r)
 else match dZ 1 en l with
  | .error er=>.error er
  | .ok (t,r) =>
   if t.text=bs [83] then
    match dQ en r with
    | .error er=>.error er
    | .ok (n,r1) =>
     if r1=[] then .ok ({s with yes:=n},r1)
     else match dZ 1 en r1 with
      | .error er=>.error er
      | .ok (u,r2)=>if u.text=bs [70] then
        match dQ en r2 with
        | .error er=>.error er
        | .ok (m,r3)=>.ok ({s with yes:=n,bU:=m},r3)
       else .error (2,dJ en r1)
   else if t.text=bs [70] then
    match dQ en r with
    | .error er=>.error er
    | .ok (n,r1)=>if r1=[] then .ok ({s with bU:=n},r1) else .error (2,dJ en r1)
   else .error (2,dJ en l)
mutual
def nG:aB→Nat
 | .mk _ _ _ _ l=>nD l+1
def nD:List aB→Nat
 | []=>0
 | p::r=>max (nG p) (nD r)
end
def Ee (en:Nat) (s:aF) (l:List aC):Except Er aF :=
 match (if aG (bs [58]) l=true then eX en s l.tail else .ok (s,l)) with
 | .error er=>.error er
 | .ok (s2,r)=>if r≠[] then .error (2,dJ en r) else if 200<nG s2.target∨200<nG s2.value then .error (4,0) else .ok s2
def gB (en:Nat) (labelled:Bool) (l:List aC):Except Er aF :=
 match (if labelled=true then (match dL en l with | .error er=>.error er | .ok (n,r)=>.ok ({st0 with label:=n},r)) else (.ok (st0,l):aZ aF)) with
 | .error er=>.error er
 | .ok (s1,r) =>
  match (if r≠[]∧aG (bs [58]) r=false then bodyT en s1 r else .ok (s1,r)) with
  | .error er=>.error er
  | .ok (s2,r2)=>Ee en s2 r2
def kH (s:aj):Except Er (Option aF) :=
 if peek s 0=42∧s.size≤2000 then .ok none
 else match jO s with
  | .error er=>.error er
  | .ok l=>match gB s.size (decide (s.size≠0∧peek s 0≠32∧peek s 0≠58)) l with
   | .error er=>.error er
   | .ok x=>.ok (some x)
end Go.Proofs.YtodebjhalipefaaGreatDoor

namespace Go.Proofs.YtodebjhalipefaaGreatDoor
set_option linter.all false
open Go.RowKit
set_option maxRecDepth 100000
set_option maxHeartbeats 4000000
theorem vg {s:aj} {l:List UInt8} (h:s.data.toList=l):s.toList=l:=by rw [ByteArray.toList_eq];exact h
theorem ext1 {s:aj} {c:UInt8} {r:List UInt8} (h:s.data.toList=c::r):(s.extract 1 s.size).data.toList=r:=by
 rw [ByteArray.data_extract,Array.toList_extract,h]
 have:s.size=(c::r).length:=by rw [←h];simp
 rw [this];simp [List.extract_eq_drop_take]
theorem zD {s:aj} {c:UInt8} {r:List UInt8} (h:s.data.toList=c::r) (h0:0<s.size):s[0]=c:=by
 obtain ⟨⟨l⟩⟩:=s
 have e:l=c::r:=h
 subst e;rfl
theorem X9 (t s d:aj) (c:UInt8) (r:List UInt8) (w:World) (hR:Ac w) (h:¬65536<t.size) (hs:s.data.toList=c::r) (hL:Lib.trimS t.data.toList [32,9]=c::r) (hc:c=43) (hd:d=s.extract 1 s.size):Calls Tryz.prog 211 #[.string t] w (iH (aS t) w):=by
 have hl:=CU t.data.toList [32,9]
 rw [hL,sW] at hl
 have hss:s.size=(c::r).length:=by rw [←hs];simp
 have fin:Hid (aS t=sU (c::r)):=by unfold Hid aS;rw [if_neg h,Ah,hL]
 have hrd:jA c r=d.data.toList:=by unfold jA;rw [if_pos (by first|exact .inl hc|exact .inr hc),hd,ext1 hs]
 have hds:d.size≤65536:=by rw [hd,ByteArray.size_extract];omega
 have HT:=ah (qX (cs:=[32,9]) hL w (by omega) (by decide) (by decide))
 have hst:(⟨(c::r).toArray⟩:aj)=s:=by obtain ⟨⟨l⟩⟩:=s;have e:l=c::r:=hs;subst e;rfl
 rw [hst] at HT
 have b0:decide ((65536:Int)<(t.size:Int))=false:=au (by omega)
 have b0':decide (65536<t.size)=false:=au h
 have e0:(s.toList==[])=false:=by rw [vg hs];rfl
 have h0:0<s.size:=by rw [hss];simp
 have h1:(0:Int)<(s.size:Int):=by omega
 have z:decide ((0:Int)<(s.size:Int))=true:=ak h1
 have z':decide (0<s.size)=true:=ak h0
 have y1:((s[0].toNat:Int)==43)=true:=by rw [zD hs h0,hc];rfl
 have HD:=ah hd;have HR:=ah hR;have HS:=ah hs;have vU:Hid (s.size≤65536):=by unfold Hid;omega
 clear hL hc hst h hl hss hd
 go_enter Tryz.func211, Tryz.ntmps211
 go_upto_region 7 with (go_at_call 252;(refine HT.out.mono ?_);rintro e w1 ⟨rfl,bF⟩;have K1:=ah bF;clear bF)
 go_upto_region 9 with fail
 rw [←HD.out]
 clear y1 z z' h1
 by_cases hn:d.data.toList=[]
 ·have e1:(d.toList==[])=true:=by rw [vg hn];rfl
  have fin2:Hid (aS t=none):=by unfold Hid;rw [fin.out,kZ,if_pos (.inl (hrd.trans hn))]
  go_wp2_with fail
  exact lT rfl rfl rfl (iH.none K1.out fin2.out (by decide))
 ·have e1:(d.toList==[])=false:=by rw [ByteArray.toList_eq];cases hq:d.data.toList with|nil=>exact absurd hq hn|cons _ _=>rfl
  obtain ⟨D,hD⟩:∃D,D=Lib.trimS d.data.toList Ai:=⟨_,rfl⟩
  have HT2:=fun w=>ah (qX (cs:=Ai) hD.symm w hds (by decide) (by decide))
  by_cases ha:d.data.toList.all pz=true
  ·have hDn:D=[]:=by rw [hD];exact (pY _).2 ha
   subst hDn
   have Kw:=Aj c r (by rw [hrd];exact hn) (by rw [hrd];exact ha)
   rw [←HS.out] at Kw
   rcases Kw with ⟨n,hr1,hr2⟩|⟨hr1,hr2⟩
   ·have fin2:Hid (aS t=some n):=by unfold Hid;rw [fin.out,←HS.out,hr1]
    have HP:=ah hr2
    clear hr1 hr2 hn ha hD hrd
    go_wp2_with (first
     | (go_at_call 252;(refine (HT2 _).out.mono ?_);rintro e w2 ⟨rfl,bQ⟩;have K2:=ah (K1.out.trans bQ);clear bQ)
     | (go_at_call 253;(refine (Tryz.strconv_ParseInt_10_at64_ok s (by have:=vU.out;omega) _ HP.out _).mono ?_);rintro e w3 ⟨rfl,CV⟩;have K3:=ah (K2.out.trans (show Kept aA _ w3 by rcases CV with rfl|⟨_,rfl⟩;exact Kept.refl _ _;exact Kept.under (Lib.bytesWorld_below _ _ _)));clear CV))
    exact lT rfl rfl rfl (iH.some K3.out fin2.out)
   ·have fin2:Hid (aS t=none):=by unfold Hid;rw [fin.out,←HS.out,hr1]
    have HP:=ah hr2
    clear hr1 hr2 hn ha hD hrd
    go_upto_region 11 with (go_at_call 252;(refine (HT2 _).out.mono ?_);rintro e w2 ⟨rfl,bQ⟩;have K2:=ah (K1.out.trans bQ);clear bQ)
    obtain ⟨_,ev,hev1,hev2⟩:=HR.out.kept K2.out (fun h=>h)
    have GX:=ah hev1;have HE2:=ah hev2;clear hev1 hev2
    go_wp2_with (go_at_call 253;(refine (Tryz.strconv_ParseInt_10_at64_range s (by have:=vU.out;omega) HP.out ev _ GX.out HE2.out).mono ?_);rintro e w3 ⟨np,rfl,-,-,CW⟩;have K3:=ah (K2.out.trans (Kept.under CW));clear CW)
    exact lT rfl rfl rfl (iH.none K3.out fin2.out (by decide))
  ·have hDn:D≠[]:=fun e=>ha ((pY _).1 (by rw [←hD];exact e))
   have fin2:Hid (aS t=none):=by unfold Hid;rw [fin.out,kZ,if_pos (.inr (by rw [hrd];simpa using ha))]
   have e2:((⟨D.toArray⟩:aj).toList==[])=false:=by rw [ByteArray.toList_eq];cases D with|nil=>exact absurd rfl hDn|cons _ _=>rfl
   have e2':(D==[])=false:=by cases D with|nil=>exact absurd rfl hDn|cons _ _=>rfl
   clear hn ha hD hrd hDn
   go_wp2_with (go_at_call 252;(refine (HT2 _).out.mono ?_);rintro e w2 ⟨rfl,bQ⟩;have K2:=ah (K1.out.trans bQ);clear bQ)
   exact lT rfl rfl rfl (iH.none K2.out fin2.out (by decide))
theorem Ya (t s d:aj) (c:UInt8) (r:List UInt8) (w:World) (hR:Ac w) (h:¬65536<t.size) (hs:s.data.toList=c::r) (hL:Lib.trimS t.data.toList [32,9]=c::r) (hc:c=45) (hd:d=s.extract 1 s.size):Calls Tryz.prog 211 #[.string t] w (iH (aS t) w):=by
 have hl:=CU t.data.toList [32,9]
 rw [hL,sW] at hl
 have hss:s.size=(c::r).length:=by rw [←hs];simp
 have fin:Hid (aS t=sU (c::r)):=by unfold Hid aS;rw [if_neg h,Ah,hL]
 have hrd:jA c r=d.data.toList:=by unfold jA;rw [if_pos (by first|exact .inl hc|exact .inr hc),hd,ext1 hs]
 have hds:d.size≤65536:=by rw [hd,ByteArray.size_extract];omega
 have HT:=ah (qX (cs:=[32,9]) hL w (by omega) (by decide) (by decide))
 have hst:(⟨(c::r).toArray⟩:aj)=s:=by obtain ⟨⟨l⟩⟩:=s;have e:l=c::r:=hs;subst e;rfl
 rw [hst] at HT
 have b0:decide ((65536:Int)<(t.size:Int))=false:=au (by omega)
 have b0':decide (65536<t.size)=false:=au h
 have e0:(s.toList==[])=false:=by rw [vg hs];rfl
 have h0:0<s.size:=by rw [hss];simp
 have h1:(0:Int)<(s.size:Int):=by omega
 have z:decide ((0:Int)<(s.size:Int))=true:=ak h1
 have z':decide (0<s.size)=true:=ak h0
 have y1:((s[0].toNat:Int)==43)=false:=by rw [zD hs h0,hc];rfl
 have y2:((s[0].toNat:Int)==45)=true:=by rw [zD hs h0,hc];rfl
 have HD:=ah hd;have HR:=ah hR;have HS:=ah hs;have vU:Hid (s.size≤65536):=by unfold Hid;omega
 clear hL hc hst h hl hss hd
 go_enter Tryz.func211, Tryz.ntmps211
 go_upto_region 7 with (go_at_call 252;(refine HT.out.mono ?_);rintro e w1 ⟨rfl,bF⟩;have K1:=ah bF;clear bF)
 go_upto_region 9 with fail
 rw [←HD.out]
 clear y1 y2 z z' h1
 by_cases hn:d.data.toList=[]
 ·have e1:(d.toList==[])=true:=by rw [vg hn];rfl
  have fin2:Hid (aS t=none):=by unfold Hid;rw [fin.out,kZ,if_pos (.inl (hrd.trans hn))]
  go_wp2_with fail
  exact lT rfl rfl rfl (iH.none K1.out fin2.out (by decide))
 ·have e1:(d.toList==[])=false:=by rw [ByteArray.toList_eq];cases hq:d.data.toList with|nil=>exact absurd hq hn|cons _ _=>rfl
  obtain ⟨D,hD⟩:∃D,D=Lib.trimS d.data.toList Ai:=⟨_,rfl⟩
  have HT2:=fun w=>ah (qX (cs:=Ai) hD.symm w hds (by decide) (by decide))
  by_cases ha:d.data.toList.all pz=true
  ·have hDn:D=[]:=by rw [hD];exact (pY _).2 ha
   subst hDn
   have Kw:=Aj c r (by rw [hrd];exact hn) (by rw [hrd];exact ha)
   rw [←HS.out] at Kw
   rcases Kw with ⟨n,hr1,hr2⟩|⟨hr1,hr2⟩
   ·have fin2:Hid (aS t=some n):=by unfold Hid;rw [fin.out,←HS.out,hr1]
    have HP:=ah hr2
    clear hr1 hr2 hn ha hD hrd
    go_wp2_with (first
     | (go_at_call 252;(refine (HT2 _).out.mono ?_);rintro e w2 ⟨rfl,bQ⟩;have K2:=ah (K1.out.trans bQ);clear bQ)
     | (go_at_call 253;(refine (Tryz.strconv_ParseInt_10_at64_ok s (by have:=vU.out;omega) _ HP.out _).mono ?_);rintro e w3 ⟨rfl,CV⟩;have K3:=ah (K2.out.trans (show Kept aA _ w3 by rcases CV with rfl|⟨_,rfl⟩;exact Kept.refl _ _;exact Kept.under (Lib.bytesWorld_below _ _ _)));clear CV))
    exact lT rfl rfl rfl (iH.some K3.out fin2.out)
   ·have fin2:Hid (aS t=none):=by unfold Hid;rw [fin.out,←HS.out,hr1]
    have HP:=ah hr2
    clear hr1 hr2 hn ha hD hrd
    go_upto_region 11 with (go_at_call 252;(refine (HT2 _).out.mono ?_);rintro e w2 ⟨rfl,bQ⟩;have K2:=ah (K1.out.trans bQ);clear bQ)
    obtain ⟨_,ev,hev1,hev2⟩:=HR.out.kept K2.out (fun h=>h)
    have GX:=ah hev1;have HE2:=ah hev2;clear hev1 hev2
    go_wp2_with (go_at_call 253;(refine (Tryz.strconv_ParseInt_10_at64_range s (by have:=vU.out;omega) HP.out ev _ GX.out HE2.out).mono ?_);rintro e w3 ⟨np,rfl,-,-,CW⟩;have K3:=ah (K2.out.trans (Kept.under CW));clear CW)
    exact lT rfl rfl rfl (iH.none K3.out fin2.out (by decide))
  ·have hDn:D≠[]:=fun e=>ha ((pY _).1 (by rw [←hD];exact e))
   have fin2:Hid (aS t=none):=by unfold Hid;rw [fin.out,kZ,if_pos (.inr (by rw [hrd];simpa using ha))]
   have e2:((⟨D.toArray⟩:aj).toList==[])=false:=by rw [ByteArray.toList_eq];cases D with|nil=>exact absurd rfl hDn|cons _ _=>rfl
   have e2':(D==[])=false:=by cases D with|nil=>exact absurd rfl hDn|cons _ _=>rfl
   clear hn ha hD hrd hDn
   go_wp2_with (go_at_call 252;(refine (HT2 _).out.mono ?_);rintro e w2 ⟨rfl,bQ⟩;have K2:=ah (K1.out.trans bQ);clear bQ)
   exact lT rfl rfl rfl (iH.none K2.out fin2.out (by decide))
theorem Yb (t s:aj) (c:UInt8) (r:List UInt8) (w:World) (hR:Ac w) (h:¬65536<t.size) (hs:s.data.toList=c::r) (hL:Lib.trimS t.data.toList [32,9]=c::r) (hc:c≠43∧c≠45):Calls Tryz.prog 211 #[.string t] w (iH (aS t) w):=by
 have hl:=CU t.data.toList [32,9]
 rw [hL,sW] at hl
 have hss:s.size=(c::r).length:=by rw [←hs];simp
 have fin:Hid (aS t=sU (c::r)):=by unfold Hid aS;rw [if_neg h,Ah,hL]
 have hrd:jA c r=s.data.toList:=by unfold jA;rw [if_neg (fun e=>e.elim hc.1 hc.2),hs]
 have hds:s.size≤65536:=by omega
 have HT:=ah (qX (cs:=[32,9]) hL w (by omega) (by decide) (by decide))
 have hst:(⟨(c::r).toArray⟩:aj)=s:=by obtain ⟨⟨l⟩⟩:=s;have e:l=c::r:=hs;subst e;rfl
 rw [hst] at HT
 have b0:decide ((65536:Int)<(t.size:Int))=false:=au (by omega)
 have b0':decide (65536<t.size)=false:=au h
 have e0:(s.toList==[])=false:=by rw [vg hs];rfl
 have h0:0<s.size:=by rw [hss];simp
 have h1:(0:Int)<(s.size:Int):=by omega
 have z:decide ((0:Int)<(s.size:Int))=true:=ak h1
 have z':decide (0<s.size)=true:=ak h0
 have y1:((s[0].toNat:Int)==43)=false:=by rw [zD hs h0];have:=hc.1;simp;intro e;exact this ((ab5 c).1 (by omega))
 have y2:((s[0].toNat:Int)==45)=false:=by rw [zD hs h0];have:=hc.2;simp;intro e;exact this ((LW c).1 (by omega))
 have HR:=ah hR;have HS:=ah hs;have vU:Hid (s.size≤65536):=by unfold Hid;omega
 clear hL hc hst h hl hss
 go_enter Tryz.func211, Tryz.ntmps211
 go_upto_region 7 with (go_at_call 252;(refine HT.out.mono ?_);rintro e w1 ⟨rfl,bF⟩;have K1:=ah bF;clear bF)
 go_upto_region 9 with fail
 clear y1 y2 z z' h1
 by_cases hn:s.data.toList=[]
 ·rw [HS.out] at hn;cases hn
 ·have e1:(s.toList==[])=false:=by rw [ByteArray.toList_eq];cases hq:s.data.toList with|nil=>exact absurd hq hn|cons _ _=>rfl
  obtain ⟨D,hD⟩:∃D,D=Lib.trimS s.data.toList Ai:=⟨_,rfl⟩
  have HT2:=fun w=>ah (qX (cs:=Ai) hD.symm w hds (by decide) (by decide))
  by_cases ha:s.data.toList.all pz=true
  ·have hDn:D=[]:=by rw [hD];exact (pY _).2 ha
   subst hDn
   have Kw:=Aj c r (by rw [hrd];exact hn) (by rw [hrd];exact ha)
   rw [←HS.out] at Kw
   rcases Kw with ⟨n,hr1,hr2⟩|⟨hr1,hr2⟩
   ·have fin2:Hid (aS t=some n):=by unfold Hid;rw [fin.out,←HS.out,hr1]
    have HP:=ah hr2
    clear hr1 hr2 hn ha hD hrd
    go_wp2_with (first
     | (go_at_call 252;(refine (HT2 _).out.mono ?_);rintro e w2 ⟨rfl,bQ⟩;have K2:=ah (K1.out.trans bQ);clear bQ)
     | (go_at_call 253;(refine (Tryz.strconv_ParseInt_10_at64_ok s (by have:=vU.out;omega) _ HP.out _).mono ?_);rintro e w3 ⟨rfl,CV⟩;have K3:=ah (K2.out.trans (show Kept aA _ w3 by rcases CV with rfl|⟨_,rfl⟩;exact Kept.refl _ _;exact Kept.under (Lib.bytesWorld_below _ _ _)));clear CV))
    exact lT rfl rfl rfl (iH.some K3.out fin2.out)
   ·have fin2:Hid (aS t=none):=by unfold Hid;rw [fin.out,←HS.out,hr1]
    have HP:=ah hr2
    clear hr1 hr2 hn ha hD hrd
    go_upto_region 11 with (go_at_call 252;(refine (HT2 _).out.mono ?_);rintro e w2 ⟨rfl,bQ⟩;have K2:=ah (K1.out.trans bQ);clear bQ)
    obtain ⟨_,ev,hev1,hev2⟩:=HR.out.kept K2.out (fun h=>h)
    have GX:=ah hev1;have HE2:=ah hev2;clear hev1 hev2
    go_wp2_with (go_at_call 253;(refine (Tryz.strconv_ParseInt_10_at64_range s (by have:=vU.out;omega) HP.out ev _ GX.out HE2.out).mono ?_);rintro e w3 ⟨np,rfl,-,-,CW⟩;have K3:=ah (K2.out.trans (Kept.under CW));clear CW)
    exact lT rfl rfl rfl (iH.none K3.out fin2.out (by decide))
  ·have hDn:D≠[]:=fun e=>ha ((pY _).1 (by rw [←hD];exact e))
   have fin2:Hid (aS t=none):=by unfold Hid;rw [fin.out,kZ,if_pos (.inr (by rw [hrd];simpa using ha))]
   have e2:((⟨D.toArray⟩:aj).toList==[])=false:=by rw [ByteArray.toList_eq];cases D with|nil=>exact absurd rfl hDn|cons _ _=>rfl
   have e2':(D==[])=false:=by cases D with|nil=>exact absurd rfl hDn|cons _ _=>rfl
   clear hn ha hD hrd hDn
   go_wp2_with (go_at_call 252;(refine (HT2 _).out.mono ?_);rintro e w2 ⟨rfl,bQ⟩;have K2:=ah (K1.out.trans bQ);clear bQ)
   exact lT rfl rfl rfl (iH.none K2.out fin2.out (by decide))
theorem Qu (t:aj) (w:World) (hR:Ac w):Calls Tryz.prog 211 #[.string t] w (iH (aS t) w):=by
 by_cases h:65536<t.size
 ·exact Oy t w h
 ·cases hL:Lib.trimS t.data.toList [32,9] with
  | nil=>exact QC t w h hL
  | cons c r =>
   by_cases h1:c=43
   ·exact X9 t ⟨(c::r).toArray⟩ _ c r w hR h (by simp) hL h1 rfl
   ·by_cases h2:c=45
    ·exact Ya t ⟨(c::r).toArray⟩ _ c r w hR h (by simp) hL h2 rfl
    ·exact Yb t ⟨(c::r).toArray⟩ c r w hR h (by simp) hL ⟨h1,h2⟩
end Go.Proofs.YtodebjhalipefaaGreatDoor

namespace Go.Proofs.YtodebjhalipefaaGreatDoor
set_option linter.all false
open Go.RowKit
theorem Af {k:Nat} (h:k<10):(UInt8.ofNat (48+k)).toNat=48+k:=by rw [UInt8.toNat_ofNat',Nat.mod_eq_of_lt (by omega)]
theorem GI (u:Nat):∀c∈Lib.decDigits u,pz c=true:=by
 induction u using Nat.strongRecOn with
 | ind u ih =>
  intro c hc
  rw [Lib.decDigits] at hc
  split at hc
  ·rename_i h
   obtain rfl:=List.mem_singleton.1 hc
   unfold pz
   rw [Af h];exact ak (by omega)
  ·rcases List.mem_append.1 hc with hc|hc
   ·exact ih (u/10) (by omega) c hc
   ·obtain rfl:=List.mem_singleton.1 hc
    unfold pz
    rw [Af (Nat.mod_lt _ (by decide))];exact ak (by have:=Nat.mod_lt u (y:=10) (by decide);omega)
theorem Xq (u:Nat):Lib.decDigits u≠[]:=by
 rw [Lib.decDigits]
 split<;>simp
theorem Ko (u:Nat):yA 0 (Lib.decDigits u)=u:=by
 induction u using Nat.strongRecOn with
 | ind u ih =>
  rw [Lib.decDigits]
  split
  ·rename_i h
   show 0*10+((UInt8.ofNat (48+u)).toNat-48)=u
   rw [Af h];omega
  ·rename_i h
   have e:=ih (u/10) (by omega)
   unfold yA at e⊢
   rw [List.foldl_append,e]
   show u/10*10+((UInt8.ofNat (48+u % 10)).toNat-48)=u
   rw [Af (Nat.mod_lt _ (by decide))];omega
theorem CS (p:UInt8→Bool):∀l:List UInt8,(∀c∈l,p c=false)→l.dropWhile p=l
 | [],_=>rfl
 | c::r,h=>by rw [List.dropWhile_cons,h c (List.mem_cons_self ..)];rfl
theorem Og {l:List UInt8} (h:∀c∈l,yU c=false):trimB l=l:=by
 unfold trimB
 rw [CS yU l.reverse (fun c hc=>h c (List.mem_reverse.1 hc)),List.reverse_reverse,CS yU l h]
theorem abZ {c:UInt8} (h:pz c=true):yU c=false∧c≠43∧c≠45:=by
 have h:=of_decide_eq_true h
 refine ⟨?_,fun e=>?_,fun e=>?_⟩
 ·unfold yU
  cases hc:([32,9]:List UInt8).contains c with
  | false=>rfl
  | true =>
   exfalso
   rw [List.contains_iff_mem] at hc
   rcases List.mem_cons.1 hc with rfl|hc
   ·exact absurd h (by decide)
   ·obtain rfl:=List.mem_singleton.1 hc
    exact absurd h (by decide)
 ·subst e;exact absurd h (by decide)
 ·subst e;exact absurd h (by decide)
theorem Xr (u:Nat):sU (Lib.decDigits u)=uV (u:Int):=by
 cases hd:Lib.decDigits u with
 | nil=>exact absurd hd (Xq u)
 | cons c r =>
  have hc:=GI u c (by rw [hd];exact List.mem_cons_self ..)
  obtain ⟨_,h1,h2⟩:=abZ hc
  have e:jA c r=c::r:=if_neg (fun e=>e.elim h1 h2)
  have ha:(c::r).all pz=true:=by rw [←hd];exact List.all_eq_true.2 (GI u)
  rw [kZ,e,if_neg (by rw [ha];simp),if_neg h2,←hd,Ko]
theorem Xt (u:Nat):sU (45::Lib.decDigits u)=uV (-(u:Int)):=by
 have e:jA 45 (Lib.decDigits u)=Lib.decDigits u:=if_pos (.inr rfl)
 have ha:(Lib.decDigits u).all pz=true:=List.all_eq_true.2 (GI u)
 rw [kZ,e,if_neg (by rw [ha];have:=Xq u;simp [this]),if_pos rfl,Ko]
theorem Ci {n:Int} (h:eH n):uV n=some n:=if_pos h
theorem wI {n:Int} (h:eH n):aS (bY n)=some n:=by
 have hl:=mX h
 unfold aS
 rw [if_neg (by omega)]
 show sU (trimB (Lib.itoa n))=_
 have hb:∀u,∀c∈Lib.decDigits u,yU c=false:=fun u c hc=>(abZ (GI u c hc)).1
 unfold Lib.itoa
 by_cases h0:n<0
 ·rw [if_pos h0,Og (fun c hc=>by
   rcases List.mem_cons.1 hc with rfl|hc
   ·decide
   ·exact hb _ c hc),Xt,show -((n.natAbs:Nat):Int)=n by omega,Ci h]
 ·rw [if_neg h0,Og (hb _),Xr,show ((n.toNat:Nat):Int)=n by omega,Ci h]
theorem NV:aS ⟨#[]⟩=some 0:=by decide +kernel
end Go.Proofs.YtodebjhalipefaaGreatDoor
