/-  -/
import Derived.Test.YtgoijmpahffnhaaGreatDoorLq6
import Derived.Test.YtgoijmpahffnhaaGreatDoorLq13
import Derived.Test.YtgoijmpahffnhaaGreatDoorLq14
import Derived.Test.YtgoijmpahffnhaaGreatDoorLq9
namespace Go.Proofs.YtgoijmpahffnhaaGreatDoor
set_option linter.all false
open Go.RowKit
structure je where
 v:List aj
 inp:List aj
 out:List aj
 told:Nat
def Ac:List aj→aj→Nat
 | [],_=>0
 | x::r,n=>if x=n then 0 else Ac r n+1
def Dp (ns:List aj) (s:je) (n:aj):Option aj×je :=
 if n=dA then (some ⟨#[]⟩,s)
 else if n=gW then match s.inp with
  | []=>(none,s)
  | t::r=>(some t,{s with inp:=r})
 else (some (s.v.getD (Ac ns n) ⟨#[]⟩),s)
mutual
def mW (ns:List aj):aB→je→Option aj×je
 | .mk k t n nm kids,s =>
  if k=1 then (some t,s) else if k=2 then (some (iM n),s) else if k=3 then Dp ns s nm
  else match pW ns kids s with
   | (none,s1)=>(none,s1)
   | (some a,s1)=>(wZ k nm a,s1)
def pW (ns:List aj):List aB→je→Option (List aj)×je
 | [],s=>(some [],s)
 | x::q,s=>match mW ns x s with
  | (none,s1)=>(none,s1)
  | (some t,s1)=>match pW ns q s1 with
   | (none,s2)=>(none,s2)
   | (some l,s2)=>(some (t::l),s2)
end
def yY (s:je) (t:aj):Option Bool×je :=
 if 1048576<s.told+t.size+1 then (none,s) else (some true,{s with told:=s.told+(t.size+1),out:=s.out++[t]})
def uh (ns:List aj) (s:je) (n t:aj):Option Bool×je :=
 if n=gW∨65536<t.size then (some false,s) else if n=dA then yY s t else (some true,{s with v:=s.v.set (Ac ns n) t})
def pX (ns:List aj) (st:aF) (s:je):Option Bool×je :=
 if st.kind=2 then (some (mW ns st.value s).1.isSome,(mW ns st.value s).2)
 else if st.kind=3 then match mW ns st.value s with
  | (none,s1)=>(some false,s1)
  | (some t,s1)=>uh ns s1 st.target.name t
 else (some true,s)
def uU (l:List aF) (ns:List aj):Nat→Nat→je→Int×je
 | 0,i,s=>if i<l.length then (2,s) else (1,s)
 | n+1,i,s=>if h:i<l.length then
   match pX ns l[i] s with
   | (none,s1)=>(3,s1)
   | (some b,s1)=>uU l ns n (nextL l i (toS l[i] b)) s1
  else (1,s)
structure uj (ns:List aj) (w:aU) (s:je):Prop where
 ok:bH w
 how:w.how=0
 len:s.v.length=ns.length
 look:∀n,lookA w.vars n=s.v.getD (Ac ns n) ⟨#[]⟩
 keys:∀p∈w.vars,p.1∈ns
 its:w.items=[]
 inp:w.input=s.inp
 out:w.output=s.out
 told:w.told=s.told
theorem Og:∀(ns:List aj) (l:List (aj×aj)),kW l→(∀p∈l,p.1∈ns)→(∀p∈l,p.2.size≤65536)→pY (fun _=>0) l≤65536*ns.length
 | [],l,_,h,_=>by
  cases l with
  | nil=>exact Nat.zero_le _
  | cons p r=>exact absurd (h p (List.mem_cons_self ..)) (by simp)
 | x::ns,l,ho,h,hz=>by
  have e:=yZ (fun _=>0) ho x
  rw [xG] at e
  have ih:=Og ns (iF l x) (ho.drop x) (fun p hp=>by
   obtain ⟨h1,h2⟩:=sN.1 hp
   exact (List.mem_cons.1 (h p h1)).resolve_left h2) (fun p hp=>hz p (sN.1 hp).1)
  have hl:(lookA l x).size≤65536:=by
   by_cases h0:(lookA l x).size=0
   ·omega
   ·exact hz _ (yP h0)
  rw [List.length_cons];omega
theorem Yl:∀(ns:List aj) (n:aj),n∈ns→Ac ns n<ns.length
 | x::ns,n,h=>by
  unfold Ac
  split
  ·simp
  ·rename_i hx
   have:=Yl ns n ((List.mem_cons.1 h).resolve_left (fun e=>hx e.symm))
   rw [List.length_cons];omega
theorem Ub:∀(ns:List aj) (n m:aj),n∈ns→Ac ns m=Ac ns n→m=n
 | x::ns,n,m,h,he=>by
  unfold Ac at he
  by_cases h1:x=m
  ·rw [if_pos h1] at he
   by_cases h2:x=n
   ·exact h1.symm.trans h2
   ·rw [if_neg h2] at he;omega
  ·rw [if_neg h1] at he
   by_cases h2:x=n
   ·rw [if_pos h2] at he;omega
   ·rw [if_neg h2] at he
    exact Ub ns n m ((List.mem_cons.1 h).resolve_left (fun e=>h2 e.symm)) (by omega)
section
variable {ns:List aj} {nb:aj→Bool} {kb:Int→Bool} (h4:kb 4=false)
theorem uj.get {w:aU} {s:je} (h:uj ns w s) (n:aj):(okO (iK w n)).1=(Dp ns s n).1∧uj ns (okO (iK w n)).2 (Dp ns s n).2:=by
 have ho:=(h.ok.get' n).1
 have hi:=h.inp
 unfold iK okO Dp at *
 by_cases h1:n=dA
 ·rw [if_pos h1,if_pos h1] at *;exact ⟨rfl,h⟩
 rw [if_neg h1,if_neg h1] at *
 by_cases h2:n=gW
 ·rw [if_pos h2,if_pos h2] at *
  obtain ⟨v,inp,out,told⟩:=s
  dsimp only at hi
  subst hi
  cases hw:w.input with
  | nil=>rw [hw] at ho;exact ⟨rfl,by simpa [hw] using h⟩
  | cons t r=>rw [hw] at ho;exact ⟨rfl,⟨ho,h.how,h.len,h.look,h.keys,h.its,rfl,h.out,h.told⟩⟩
 ·rw [if_neg h2,if_neg h2] at *
  exact ⟨congrArg some (h.look n),h⟩
include h4 in
mutual
theorem JE:∀(x:aB) (w:aU) (s:je),sH nb kb x=true→uj ns w s→(fK x w).1=(mW ns x s).1∧uj ns (fK x w).2 (mW ns x s).2
 | .mk k t n nm kids,w,s,hk,h=>by
  have ih:=Oh kids w s
  rw [fK,mW]
  rw [sH] at hk
  by_cases k1:k=1
  ·rw [if_pos k1,if_pos k1];exact ⟨rfl,h⟩
  rw [if_neg k1,if_neg k1]
  by_cases k2:k=2
  ·rw [if_pos k2,if_pos k2];exact ⟨rfl,h⟩
  rw [if_neg k2,if_neg k2]
  by_cases k3:k=3
  ·rw [if_pos k3,if_pos k3];exact h.get nm
  rw [if_neg k3,if_neg k3]
  rw [if_neg k1,if_neg k2,if_neg k3,Bool.and_eq_true] at hk
  have k4:k≠4:=fun e=>by
   have:=hk.2
   rw [if_pos e,h4] at this;cases this
  obtain ⟨e1,e2⟩:=ih hk.1 h
  generalize gJ kids w=a at e1 e2⊢
  generalize pW ns kids s=b at e1 e2⊢
  obtain ⟨o1,w1⟩:=a
  obtain ⟨o2,s1⟩:=b
  dsimp only at e1 e2
  subst e1
  cases o1 with
  | none=>exact ⟨rfl,e2⟩
  | some l=>dsimp only;rw [if_neg k4];exact ⟨rfl,e2⟩
theorem Oh:∀(l:List aB) (w:aU) (s:je),zJ nb kb l=true→uj ns w s→(gJ l w).1=(pW ns l s).1∧uj ns (gJ l w).2 (pW ns l s).2
 | [],w,s,_,h=>by rw [gJ,pW];exact ⟨rfl,h⟩
 | x::q,w,s,hk,h=>by
  rw [zJ,Bool.and_eq_true] at hk
  obtain ⟨e1,e2⟩:=JE x w s hk.1 h
  rw [gJ,pW]
  generalize fK x w=a at e1 e2⊢
  generalize mW ns x s=b at e1 e2⊢
  obtain ⟨o1,w1⟩:=a
  obtain ⟨o2,s1⟩:=b
  dsimp only at e1 e2
  subst e1
  cases o1 with
  | none=>exact ⟨rfl,e2⟩
  | some t =>
   dsimp only
   obtain ⟨e3,e4⟩:=Oh q w1 s1 hk.2 e2
   generalize gJ q w1=c at e3 e4⊢
   generalize pW ns q s1=d at e3 e4⊢
   obtain ⟨o3,w2⟩:=c
   obtain ⟨o4,s2⟩:=d
   dsimp only at e3 e4
   subst e3
   cases o3 with
   | none=>exact ⟨rfl,e4⟩
   | some r=>exact ⟨rfl,e4⟩
end
def agd (ns:List aj) (a:Bool×aU) (b:Option Bool×je):Prop :=
 match b with
 | (none,s)=>a.2.how=3∧a.2.output=s.out
 | (some y,s)=>a.1=y∧uj ns a.2 s
theorem uj.ajE {w:aU} {s:je} (h:uj ns w s) (hns:ns.length≤15) (n t:aj) (hn:n=dA∨n∈ns):agd ns (fH w n t) (uh ns s n t):=by
 have ho:=h.ok.set n t
 unfold fH uh at *
 by_cases h1:n=gW∨65536<t.size
 ·rw [if_pos h1,if_pos h1];exact ⟨rfl,h⟩
 rw [if_neg h1] at ho⊢
 rw [if_neg h1]
 by_cases h2:n=dA
 ·rw [if_pos h2] at ho⊢
  rw [if_pos h2]
  unfold vU yY at *
  rw [h.told] at ho⊢
  by_cases h3:1048576<s.told+t.size+1
  ·rw [if_pos h3,if_pos h3];exact ⟨rfl,h.out⟩
  ·rw [if_neg h3] at ho⊢
   rw [if_neg h3]
   exact ⟨rfl,⟨ho,h.how,h.len,h.look,h.keys,h.its,h.inp,by show w.output++[t]=_;rw [h.out],rfl⟩⟩
 ·rw [if_neg h2] at ho⊢
  rw [if_neg h2]
  have hb:=h.ok.bytes
  rw [h.its] at hb
  have hsum:=Og ns w.vars h.ok.vars h.keys (fun p hp=>(h.ok.Yf p hp).1)
  have hb':w.bytes=pY (fun _=>0) w.vars:=hb
  have hnm:=hn.resolve_left h2
  have h3:¬1048576+(lookA w.vars n).size<w.bytes+t.size:=by omega
  rw [if_neg h3] at ho⊢
  refine ⟨rfl,⟨ho,h.how,by rw [List.length_set];exact h.len,fun m=>?_,fun p hp=>?_,h.its,h.inp,h.out,h.told⟩⟩
  ·show lookA (kL w.vars n t) m=_
   by_cases hm:m=n
   ·subst hm
    rw [Ad,List.getD_eq_getElem?_getD,List.getElem?_set_self (by rw [h.len];exact Yl ns m hnm)];rfl
   ·rw [y7 _ hm,h.look m,List.getD_eq_getElem?_getD,List.getD_eq_getElem?_getD,List.getElem?_set_ne (fun e=>hm (Ub ns n m hnm e.symm))]
  ·rcases Gn hp with rfl|hp
   ·exact hnm
   ·exact h.keys p hp
def Vj (ns:List aj) (st:aF):Bool:=decide (st.kind≠3)||(decide (st.target.kind=3)&&(decide (st.target.name=dA)||ns.any (fun m=>decide (m=st.target.name))))
include h4 in
theorem aeA {w:aU} {s:je} (hns:ns.length≤15) (st:aF) (hk:okS nb kb st=true) (ha:Vj ns st=true) (h:uj ns w s):agd ns (lN st w) (pX ns st s):=by
 unfold lN pX
 unfold okS at hk
 by_cases k2:st.kind=2
 ·rw [if_pos k2,if_pos k2]
  rw [if_neg (by omega),if_pos k2] at hk
  obtain ⟨e1,e2⟩:=JE h4 st.value w s hk h
  exact ⟨congrArg Option.isSome e1,e2⟩
 rw [if_neg k2,if_neg k2]
 by_cases k3:st.kind=3
 ·rw [if_pos k3,if_pos k3]
  rw [if_neg (by omega),if_neg k2,Bool.and_eq_true,Bool.and_eq_true] at hk
  unfold Vj at ha
  rw [Bool.or_eq_true] at ha
  have ha:=ha.resolve_left (fun e=>of_decide_eq_true e k3)
  rw [Bool.and_eq_true] at ha
  have hp:lM st.target w=(some ⟨st.target.name,⟨#[]⟩,false⟩,w):=if_pos (of_decide_eq_true ha.1)
  rw [hp]
  dsimp only
  obtain ⟨e1,e2⟩:=JE h4 st.value w s hk.2.1 h
  have hn:st.target.name=dA∨st.target.name∈ns:=by
   rcases Bool.or_eq_true _ _ ▸ ha.2 with h|h
   ·exact .inl (of_decide_eq_true h)
   ·obtain ⟨m,hm,he⟩:=List.any_eq_true.1 h
    exact .inr (of_decide_eq_true he ▸ hm)
  generalize fK st.value w=a at e1 e2⊢
  generalize mW ns st.value s=b at e1 e2⊢
  obtain ⟨o1,w1⟩:=a
  obtain ⟨o2,s1⟩:=b
  dsimp only at e1 e2
  subst e1
  cases o1 with
  | none=>exact ⟨rfl,e2⟩
  | some t=>exact e2.ajE hns _ t hn
 ·rw [if_neg k3,if_neg k3];exact ⟨rfl,h⟩
theorem uj.tick {w:aU} {s:je} (h:uj ns w s):uj ns (tick w) s:=⟨h.ok.tick,h.how,h.len,h.look,h.keys,h.its,h.inp,h.out,h.told⟩
include h4 in
theorem Uc {l:List aF} (hns:ns.length≤15) (hk:∀st∈l,okS nb kb st=true) (ha:∀st∈l,Vj ns st=true):∀(n i:Nat) (w:aU) (s:je),uj ns w s→(gQ l n i w).how=(uU l ns n i s).1∧(gQ l n i w).output=(uU l ns n i s).2.out
 | 0,i,w,s,h=>by
  rw [gQ,uU]
  by_cases hi:i<l.length
  ·rw [dif_pos hi,if_pos hi];exact ⟨rfl,h.out⟩
  ·rw [dif_neg hi,if_neg hi];exact ⟨rfl,h.out⟩
 | n+1,i,w,s,h=>by
  rw [gQ,uU]
  by_cases hi:i<l.length
  ·rw [dif_pos hi,dif_pos hi]
   have hd:=aeA h4 hns l[i] (hk _ (List.getElem_mem hi)) (ha _ (List.getElem_mem hi)) h.tick
   generalize lN l[i] (Go.Proofs.YtgoijmpahffnhaaGreatDoor.tick w)=a at hd⊢
   generalize pX ns l[i] s=b at hd⊢
   obtain ⟨y,w1⟩:=a
   obtain ⟨o,s1⟩:=b
   cases o with
   | none =>
    have hh:w1.how=3:=hd.1
    have he:w1.output=s1.out:=hd.2
    dsimp only
    rw [if_pos (by rw [hh];decide)]
    exact ⟨hh,he⟩
   | some y2 =>
    obtain ⟨rfl,hr⟩:y=y2∧uj ns w1 s1:=hd
    dsimp only
    rw [if_neg (fun e=>e hr.how)]
    exact Uc hns hk ha n _ w1 s1 hr
  ·rw [dif_neg hi,dif_neg hi];exact ⟨rfl,h.out⟩
theorem uj.start {input:List aj} (h:∀t∈input,t.size≤65536):uj ns (pK input) ⟨List.replicate ns.length ⟨#[]⟩,input,[],0⟩ :=
 ⟨bH.start h,rfl,List.length_replicate,fun n=>by
  show (⟨#[]⟩:aj)=_
  rw [List.getD_eq_getElem?_getD,List.getElem?_replicate]
  split<;>rfl,fun p hp=>(by cases hp),rfl,rfl,rfl,rfl⟩
end
def gy (l:List aF) (ns:List aj) (i:Nat) (s:je) (k:Nat) (r:Int×je):Prop:=∀n,uU l ns (n+k) i s=r
section
variable {l:List aF} {ns:List aj} {i j k:Nat} {s s1:je} {r:Int×je}
theorem gy.fin (h:l.length≤i):gy l ns i s 0 (1,s):=fun n=>by
 cases n with
 | zero=>rw [uU,if_neg (by omega)]
 | succ n=>rw [Nat.add_zero,uU,dif_neg (by omega)]
theorem gy.step {st:aF} {b:Bool} (hi:l[i]?=some st) (hd:pX ns st s=(some b,s1)) (hj:nextL l i (toS st b)=j) (h:gy l ns j s1 k r):gy l ns i s (k+1) r:=fun n=>by
 obtain ⟨hl,rfl⟩:=List.getElem?_eq_some_iff.1 hi
 rw [←Nat.add_assoc,uU,dif_pos hl,hd]
 dsimp only
 rw [hj];exact h n
theorem gy.stop {st:aF} (hi:l[i]?=some st) (hd:pX ns st s=(none,s1)):gy l ns i s 1 (3,s1):=fun n=>by
 obtain ⟨hl,rfl⟩:=List.getElem?_eq_some_iff.1 hi
 rw [uU,dif_pos hl,hd]
theorem Oi (l:List aF) (ns:List aj):∀(n i:Nat) (s:je),(uU l ns n i s).1≠2→∀m,uU l ns (n+m) i s=uU l ns n i s
 | 0,i,s,h,m=>by
  rw [uU] at h⊢
  by_cases hi:i<l.length
  ·rw [if_pos hi] at h;exact absurd rfl h
  ·rw [if_neg hi]
   cases m with
   | zero=>rw [Nat.add_zero,uU,if_neg hi]
   | succ m=>rw [Nat.zero_add,uU,dif_neg hi]
 | n+1,i,s,h,m=>by
  rw [Nat.add_right_comm,uU]
  rw [uU] at h⊢
  by_cases hi:i<l.length
  ·rw [dif_pos hi] at h⊢
   rw [dif_pos hi]
   generalize pX ns l[i] s=b at h⊢
   obtain ⟨o,s1⟩:=b
   cases o with
   | none=>rfl
   | some y=>exact Oi l ns n _ s1 h m
  ·rw [dif_neg hi,dif_neg hi]
def abN (want:List aj) (r:Int×je):Prop:=(r.1=1∧r.2.out=want)∨(r.1=3∧1048576<jk want)
end
theorem Gp (a b:List aj):jk (a++b)=jk a+jk b:=by unfold jk;rw [List.map_append,List.sum_append]
theorem Gq (t:aj):jk [t]=t.size+1:=by simp [jk]
theorem Hy (s:je) (t:aj) (rest:List aj) (hs:s.told=jk s.out) :
  (yY s t=(some true,{s with told:=s.told+(t.size+1),out:=s.out++[t]})∧s.told+(t.size+1)=jk (s.out++[t]))∨(yY s t=(none,s)∧1048576<jk (s.out++t::rest)):=by
 unfold yY
 by_cases h:1048576<s.told+t.size+1
 ·refine .inr ⟨if_pos h,?_⟩
  rw [show s.out++t::rest=(s.out++[t])++rest by simp,Gp,Gp,Gq,←hs];omega
 ·exact .inl ⟨if_neg h,by rw [Gp,Gq,hs]⟩
theorem JF {input:List aj} (hb:¬pU input):∀t∈input,t.size≤65536:=fun t ht=>by
 obtain ⟨i,hi,rfl⟩:=List.mem_iff_getElem.1 ht
 exact Nat.le_of_not_lt fun h=>hb (.inr ⟨i,hi,h⟩)
theorem Ud {input:List aj} (hbg:kK 30 12 input=false):(∀t∈input,t.size≤30)∧input.length≤12:=by
 unfold kK at hbg
 rw [Bool.or_eq_false_iff] at hbg
 exact ⟨fun t ht=>by have:=List.any_eq_false.1 hbg.1 t ht;simpa using this,by have:=of_decide_eq_false hbg.2;omega⟩
theorem Oj {l:List aF} {ns:List aj} {nb:aj→Bool} {kb:Int→Bool} (h4:kb 4=false) (hns:ns.length≤15) (hk:∀st∈l,okS nb kb st=true) (ha:∀st∈l,Vj ns st=true) {input want:List aj}
  (H:¬pU input→∃k r,gy l ns 0 ⟨List.replicate ns.length ⟨#[]⟩,input,[],0⟩ k r∧abN want r∧(kK 30 12 input=false→k≤100000∧jk want≤1048576)):yh l input want:=by
 intro hb
 obtain ⟨e1,e2⟩:=Uc h4 hns hk ha 100000 0 _ _ (uj.start (ns:=ns) (JF hb))
 obtain ⟨k,r,hr,hres,hsm⟩:=H hb
 rw [e1,e2]
 refine ⟨fun hh=>?_,fun hh=>?_⟩
 ·cases hbg:kK 30 12 input with
  | true=>rfl
  | false =>
   exfalso
   obtain ⟨h1,h2⟩:=hsm hbg
   obtain ⟨m,hm⟩:∃m,100000=m+k:=⟨100000-k,by omega⟩
   rw [hm,hr m] at hh
   rcases hres with h|h
   ·exact hh h.1
   ·omega
 ·have h3:=Oi l ns 100000 0 _ (by rw [hh];decide) k
  rw [hr 100000] at h3
  rw [←h3] at hh⊢
  rcases hres with h|h
  ·exact h.2
  ·rw [h.1] at hh;exact absurd hh (by decide)
end Go.Proofs.YtgoijmpahffnhaaGreatDoor

namespace Go.Proofs.YtgoijmpahffnhaaGreatDoor
set_option linter.all false
open Go.RowKit
def sX:aj:=⟨#[88]⟩
def Ii:aj:=⟨#[82,69,86,69,82,83,69]⟩
def vE (n:aj):aB:=.mk 3 ⟨#[]⟩ 0 n []
def ab6:aj:=⟨#[69,78,68]⟩
def Bj (lab:aj) (tgt:aj) (no:aj):aF:=⟨lab,3,vE tgt,vE gW,Dx,⟨#[]⟩,⟨#[]⟩,[],[],⟨#[]⟩,⟨#[]⟩,no⟩
def VT:aF:=⟨⟨#[]⟩,2,Dx,.mk 6 ⟨#[]⟩ 0 qX [vE sX,.mk 6 ⟨#[]⟩ 0 Ii [vE sX]],Dx,⟨#[]⟩,⟨#[]⟩,[],[],⟨#[]⟩,⟨#[]⟩,qF⟩
def VU:aF:=⟨⟨#[]⟩,3,vE dA,vE sX,Dx,⟨#[]⟩,⟨#[]⟩,[],[],qF,⟨#[]⟩,⟨#[]⟩⟩
def vw:List aF:=[Bj qF sX ab6,VT,VU]
def jr (t:aj):Bool:=decide (t.data.toList.reverse=t.data.toList)
theorem xQ (ns:List aj) (n:aj) (s:je):mW ns (vE n) s=Dp ns s n:=by
 unfold vE;rw [mW,if_neg (by decide),if_neg (by decide),if_pos rfl]
theorem Dy (ns:List aj) (k:Int) (nm:aj) (kids:List aB) (s:je) (h:3<k):mW ns (.mk k ⟨#[]⟩ 0 nm kids) s=match pW ns kids s with
   | (none,s1)=>(none,s1)
   | (some a,s1)=>(wZ k nm a,s1):=by
 rw [mW,if_neg (by omega),if_neg (by omega),if_neg (by omega)]<;>rfl
theorem qh (ns:List aj) (x:aB) (q:List aB) {s s1:je} {t:aj} (h:mW ns x s=(some t,s1)):pW ns (x::q) s=match pW ns q s1 with
   | (none,s2)=>(none,s2)
   | (some l,s2)=>(some (t::l),s2):=by
 rw [pW,h]<;>rfl
theorem yu (nm:aj) (a:List aj):wZ 6 nm a=bJ nm a:=by unfold wZ;rw [if_neg (by decide),if_pos rfl]
theorem Ig (ns:List aj) (lab tgt no:aj) (s:je) (h1:tgt≠gW) (h2:tgt≠dA):pX ns (Bj lab tgt no) s=match s.inp with
  | []=>(some false,s)
  | t::r=>if 65536<t.size then (some false,{s with inp:=r}) else (some true,{s with v:=s.v.set (Ac ns tgt) t,inp:=r}):=by
 have k2:¬(Bj lab tgt no).kind=2:=show ¬(3:Int)=2 by decide
 have k3:(Bj lab tgt no).kind=3:=rfl
 unfold pX
 rw [if_neg k2,if_pos k3]
 show (match mW ns (vE gW) s with
  | (none,s1)=>(some false,s1)
  | (some t,s1)=>uh ns s1 tgt t)=_
 rw [xQ]
 unfold Dp
 rw [if_neg YA,if_pos rfl]
 cases s.inp with
 | nil=>rfl
 | cons t r =>
  dsimp only
  unfold uh
  by_cases h:65536<t.size
  ·rw [if_pos (.inr h),if_pos h]
  ·rw [if_neg (fun e=>e.elim h1 h),if_neg h2,if_neg h]
theorem yt (ns:List aj) (s:je) (n:aj) (h1:n≠gW) (h2:n≠dA):Dp ns s n=(some (s.v.getD (Ac ns n) ⟨#[]⟩),s):=by
 unfold Dp;rw [if_neg h2,if_neg h1]
def Af:List aj:=[sX]
theorem mP:sX≠gW∧sX≠dA:=by decide
theorem VW (x t:aj) (r out:List aj) (td:Nat) (h:t.size≤65536):pX Af (Bj qF sX ab6) ⟨[x],t::r,out,td⟩=(some true,⟨[t],r,out,td⟩):=by
 rw [Ig _ _ _ _ _ mP.1 mP.2]
 dsimp only
 rw [if_neg (by omega)];rfl
theorem agn (x:aj) (out:List aj) (td:Nat):pX Af (Bj qF sX ab6) ⟨[x],[],out,td⟩=(some false,⟨[x],[],out,td⟩):=by
 rw [Ig _ _ _ _ _ mP.1 mP.2]
theorem agp (t:aj) (h:t.size≤65536):bJ Ii [t]=some ⟨t.data.toList.reverse.toArray⟩:=by
 unfold bJ
 dsimp only
 rw [if_neg (by decide +kernel),if_neg (by decide +kernel),if_pos (by decide +kernel)]
 show Dz t=_
 unfold Dz
 rw [if_neg (by omega)]
theorem ab7 (t:aj):decide (t=(⟨t.data.toList.reverse.toArray⟩:aj))=jr t:=by
 unfold jr
 rw [decide_eq_decide]
 constructor
 ·intro h
  have h2:t.data.toList=t.data.toList.reverse:=by
   have:=congrArg (fun x:aj=>x.data.toList) h
   simpa using this
  exact h2.symm
 ·intro h
  apply ByteArray.ext
  rw [h]
theorem adG (t:aj) (inp out:List aj) (td:Nat) (h:t.size≤65536):pX Af VT ⟨[t],inp,out,td⟩=(some (jr t),⟨[t],inp,out,td⟩):=by
 have hv:mW Af (vE sX) ⟨[t],inp,out,td⟩=(some t,⟨[t],inp,out,td⟩):=by rw [xQ,yt _ _ _ mP.1 mP.2];rfl
 have h1:mW Af (.mk 6 ⟨#[]⟩ 0 Ii [vE sX]) ⟨[t],inp,out,td⟩=(some ⟨t.data.toList.reverse.toArray⟩,⟨[t],inp,out,td⟩):=by
  rw [Dy _ _ _ _ _ (by decide),qh _ _ _ hv,pW]
  dsimp only
  rw [yu,agp t h]
 have h2:mW Af VT.value ⟨[t],inp,out,td⟩=(rV (jr t),⟨[t],inp,out,td⟩):=by
  show mW Af (.mk 6 ⟨#[]⟩ 0 qX [vE sX,.mk 6 ⟨#[]⟩ 0 Ii [vE sX]]) _=_
  rw [Dy _ _ _ _ _ (by decide),qh _ _ _ hv,qh _ _ _ h1,pW]
  dsimp only
  rw [yu,Ue,ab7]
 unfold pX
 rw [if_pos (show VT.kind=2 from rfl),h2]
 unfold rV
 cases jr t<;>rfl
theorem ah8 (t:aj) (inp out:List aj) (td:Nat) (h:t.size≤65536):pX Af VU ⟨[t],inp,out,td⟩=yY ⟨[t],inp,out,td⟩ t:=by
 have k2:¬VU.kind=2:=show ¬(3:Int)=2 by decide
 have k3:VU.kind=3:=rfl
 unfold pX
 rw [if_neg k2,if_pos k3]
 show (match mW Af (vE sX) ⟨[t],inp,out,td⟩ with
  | (none,s1)=>(some false,s1)
  | (some t,s1)=>uh Af s1 dA t)=_
 rw [xQ,yt _ _ _ mP.1 mP.2]
 show uh Af _ dA t=_
 unfold uh
 rw [if_neg (fun e=>e.elim OA (by omega)),if_pos rfl]
theorem JM:∀(inp:List aj) (x:aj) (out:List aj) (td:Nat),(∀t∈inp,t.size≤65536)→td=jk out→
  ∃k r,gy vw Af 0 ⟨[x],inp,out,td⟩ k r∧abN (out++inp.filter jr) r∧k≤3*inp.length+1
 | [],x,out,td,_,_=>by
  refine ⟨_,_,gy.step (j:=3) rfl (agn x out td) rfl (gy.fin (by decide)),.inl ⟨rfl,by simp⟩,by simp⟩
 | t::r,x,out,td,hz,hs=>by
  have ht:=hz t (List.mem_cons_self ..)
  have hr:=fun y hy=>hz y (List.mem_cons_of_mem _ hy)
  cases hp:jr t with
  | false =>
   obtain ⟨k,q,h1,h2,h3⟩:=JM r t out td hr hs
   have hd:=adG t r out td ht
   rw [hp] at hd
   refine ⟨_,_,gy.step (j:=1) rfl (VW x t r out td ht) rfl (gy.step (j:=0) rfl hd rfl h1),?_,by simp;omega⟩
   rw [List.filter_cons,hp];exact h2
  | true =>
   have hd:=adG t r out td ht
   rw [hp] at hd
   have h2:=ah8 t r out td ht
   rw [List.filter_cons,if_pos hp]
   rcases Hy ⟨[t],r,out,td⟩ t (r.filter jr) hs with ⟨e,e2⟩|⟨e,e2⟩
   ·obtain ⟨k,q,h4,h5,h6⟩:=JM r t (out++[t]) (td+(t.size+1)) hr e2
    refine ⟨_,_,gy.step (j:=1) rfl (VW x t r out td ht) rfl (gy.step (j:=2) rfl hd rfl (gy.step (j:=0) rfl (h2.trans e) rfl h4)),?_,by simp;omega⟩
    rw [List.append_assoc] at h5;exact h5
   ·exact ⟨_,_,gy.step (j:=1) rfl (VW x t r out td ht) rfl (gy.step (j:=2) rfl hd rfl (gy.stop rfl (h2.trans e))),.inr ⟨rfl,e2⟩,by simp;omega⟩
theorem Fp (p:aj→Bool):∀l:List aj,jk (l.filter p)≤jk l
 | []=>Nat.le_refl _
 | t::r=>by
  have ih:=Fp p r
  rw [List.filter_cons]
  have e:jk (t::r)=t.size+1+jk r:=by simp [jk]
  split
  ·rw [show jk (t::r.filter p)=t.size+1+jk (r.filter p) by simp [jk]];omega
  ·omega
theorem aeM {nb:aj→Bool} {kb:Int→Bool} (h4:kb 4=false) (hk:∀st∈vw,okS nb kb st=true) (input:List aj):yh vw input (input.filter jr):=by
 refine Oj (ns:=Af) h4 (by decide) hk (by decide +kernel) fun hb=>?_
 obtain ⟨k,r,h1,h2,h3⟩:=JM input ⟨#[]⟩ [] 0 (JF hb) rfl
 refine ⟨k,r,h1,h2,fun hbg=>?_⟩
 obtain ⟨b1,b2⟩:=Ud hbg
 have:=JH input b1
 have:=Fp jr input
 omega
end Go.Proofs.YtgoijmpahffnhaaGreatDoor

namespace Go.Proofs.YtgoijmpahffnhaaGreatDoor
set_option linter.all false
open Go.RowKit
set_option maxRecDepth 100000
set_option maxHeartbeats 8000000
def VX (n:aj):Bool:=decide (n=Ii)||decide (n=qX)
theorem aeN {F:dF}:zY F VX (fun _=>false) where
 bu nm hn a al cl w hg hs hf hz:=by
  rcases Bool.or_eq_true _ _ ▸ hn with h|h
  ·obtain rfl:nm=DC:=of_decide_eq_true h
   have h1:a.length=1:=by
    have:aH DC=1:=by kernel_rfl
    rw [this] at hf;omega
   exact Fq a al cl w hs h1 hz
  ·obtain rfl:nm=qX:=of_decide_eq_true h
   have h1:a.length=2:=by
    have:aH qX=2:=by kernel_rfl
    rw [this] at hf;omega
   exact MO a al cl w hs h1
 bi k h:=absurd h Bool.false_ne_true
 nu h:=absurd h Bool.false_ne_true
set_option maxRecDepth 1000000 in
theorem ab8:lS ⟨#[109,105,114,114,111,114]⟩ pV=(sQ,0):=by kernel_rfl
set_option maxRecDepth 1000000 in
theorem aeO:AY sQ=true:=by kernel_rfl
set_option maxRecDepth 1000000 in
theorem ab9:sQ.size≤100000:=of_decide_eq_true (by kernel_rfl)
set_option maxRecDepth 1000000 in
theorem acd:kV sQ=.ok vw:=by kernel_rfl
theorem YI:bY vw=(0,0):=(wE (by kernel_rfl)).1
theorem YJ:∀st∈vw,okS VX (fun _=>false) st=true:=by decide +kernel
def DF (t:aj) (k:Nat):Bool:=(List.range k).all fun i=>decide (t.data.toList.getD i 0=t.data.toList.getD (t.size-1-i) 0)
theorem YK (t:aj) (k:Nat):DF t (k+1)=(DF t k&&decide (t.data.toList.getD k 0=t.data.toList.getD (t.size-1-k) 0)):=by
 unfold DF;rw [List.range_succ,List.all_append];simp
theorem ace (t:aj):DF t t.size=jr t:=by
 have hl:t.data.toList.length=t.size:=by rw [Array.length_toList];rfl
 unfold DF jr
 rw [Bool.eq_iff_iff,decide_eq_true_eq,List.all_eq_true]
 constructor
 ·intro h
  apply List.ext_getElem (by simp)
  intro i h1 h2
  have hi:i<t.size:=by rw [←hl];exact h2
  have:=of_decide_eq_true (h i (List.mem_range.2 hi))
  rw [List.getD_eq_getElem?_getD,List.getD_eq_getElem?_getD,List.getElem?_eq_getElem h2,List.getElem?_eq_getElem (by rw [hl];omega)] at this
  rw [List.getElem_reverse]
  simp only [hl]
  exact this.symm
 ·intro h i hi
  have hi:=List.mem_range.1 hi
  refine ak ?_
  rw [List.getD_eq_getElem?_getD,List.getD_eq_getElem?_getD]
  have e:t.data.toList[t.size-1-i]?=t.data.toList.reverse[i]?:=by
   rw [List.getElem?_reverse (by rw [hl];exact hi),hl]
  rw [e,h]
theorem Uo (t:aj) (k:Nat) (h:k<t.size):t.data.toList.getD k 0=t[k]:=by
 rw [List.getD_eq_getElem?_getD,List.getElem?_eq_getElem (by rw [Array.length_toList];exact h)];rfl
theorem aeP (t:aj) (k m:Nat) (hk:k<t.size) (hm:m<t.size) (e:m=t.size-1-k):DF t (k+1)=(DF t k&&((t[k].toNat:Int)==(t[m].toNat:Int))):=by
 rw [YK,←e,Uo t k hk,Uo t m hm]
 congr 1
 rw [Bool.eq_iff_iff,decide_eq_true_eq,beq_iff_eq]
 constructor
 ·intro h;rw [h]
 ·intro h;exact UInt8.toNat_inj.1 (by omega)
theorem vW (input:List aj) (p:aj→Bool) (j:Nat) (h:j<input.length):(input.take (j+1)).filter p=(input.take j).filter p++(if p input[j]=true then [input[j]] else []):=by
 rw [List.take_succ_eq_append_getElem h,List.filter_append]
 congr 1
 rw [List.filter_cons]
 split<;>rfl
theorem filter_lt (input:List aj) (p:aj→Bool) (j:Nat):((input.take j).filter p).length≤input.length :=
 Nat.le_trans (List.length_filter_le _ _) (by rw [List.length_take];omega)
theorem acf (input:List aj) (ia:Option Addr) (ic:Nat) (w:World) (hm:jR w) (hr:eU w) (hin:aQ w (· < w.heap.size) ia input) (hic:input.length≤ic) (hil:input.length≤1048576) (hsz:∀t∈input,t.size≤1000000000) :
  Calls Tryz.prog 6 #[.slice ia input.length ic] w (ug true w):=by
 have jL:Hid (∀wx,Kept aA w wx→aQ wx (· < wx.heap.size) ia input):=fun wx hk=>hin.to hk (Safe.lt (Nat.le_refl _)) (fun _ h=>Nat.lt_of_lt_of_le h hk.size)
 have HM:Hid (∀wx,Kept aA w wx→jR wx):=fun wx hk=>hm.kept hk (fun h=>h)
 have HR:Hid (∀wx,Kept aA w wx→eU wx):=fun wx hk=>by obtain ⟨ev,h1,h2⟩:=hr;exact ⟨ev,(hk.cell (cell_lt h1) (fun h=>h)).trans h1,h2⟩
 have H8:=ah hic
 have Ae:=ah hil
 have Dw:=ah hsz
 clear hm hr hin hic hsz
 go_enter Tryz.func6, Tryz.ntmps6
 go_wp2_with fail
 go_loopw [3,10] (fun v i wr=>∃(j n:Nat) (a:Option Addr) (c:Nat),j≤input.length∧i=.int .i64 (j:Int)∧v=.slice a n c∧Hid (n=((input.take j).filter jr).length)∧Hid (aO wr w.heap.size 9 1 v n (jI ((input.take j).filter jr)))∧Hid (Kept aA w wr)) (fun _ i _=>input.length-(intOf i).toNat)
 case atStart=>exact ⟨0,0,none,0,Nat.zero_le _,rfl,rfl,rfl,aO.nil ..,Kept.refl _ w⟩
 case round =>
  obtain ⟨j,n,a,c,hj,rfl,rfl,hn,hW,hK⟩:=hrel
  by_cases hlt:j<input.length
  ·obtain ⟨bi,oi,rfl,_,hc⟩:=jL.out wr hK.out (by omega)
   have cj:=hc j hlt
   obtain ⟨tj,htj⟩:∃tj,tj=input[j]:=⟨_,rfl⟩
   rw [←htj] at cj
   have bj:(j:Int)<(input.length:Int):=by omega
   have kJ:=ah htj
   have ztj:tj.size≤1000000000:=by rw [htj];exact Dw.out _ (List.getElem_mem hlt)
   have Du:Hid (((input.take j).filter jr).length≤2000000):=by unfold Hid;have:=filter_lt input jr j;omega
   clear hc htj
   obtain ⟨cap,w2,hcv,-,hk2,-⟩:=Bc wr tj
   have K2:=ah (hK.out.trans hk2)
   have W2:Hid (aO w2 w.heap.size 9 1 (.slice a n c) n (jI ((input.take j).filter jr))):=hW.out.kept hk2 (fun _ _ h=>h)
   clear hk2
   go_wp2_with fail
   go_loopw [6,17] (fun s i wx=>∃(k:Nat) (sm:Bool),k≤tj.size∧i=.int .i64 (k:Int)∧s=.bool sm∧Hid (Kept aA w2 wx)∧Hid (sm=DF tj k)) (fun _ i _=>tj.size-(intOf i).toNat)
   case atStart=>exact ⟨0,true,Nat.zero_le _,rfl,rfl,Kept.refl _ _,rfl⟩
   case round =>
    obtain ⟨k,sm,hk,rfl,rfl,hkx,hsm⟩:=hrel
    by_cases hlk:k<tj.size
    ·have bk:(k:Int)<(tj.size:Int):=by omega
     obtain ⟨m,hm⟩:∃m:Nat,m=tj.size-1-k:=⟨_,rfl⟩
     have em:(tj.size:Int)-1-(k:Int)=(m:Int):=by omega
     have hmt:m<tj.size:=by omega
     have bm:(m:Int)<(tj.size:Int):=by omega
     have hst:=ah (aeP tj k m hlk hmt hm)
     obtain ⟨cc,hcc⟩:∃cc,((tj[k].toNat:Int)==(tj[m].toNat:Int))=cc:=⟨_,rfl⟩
     rw [hcc] at hst
     clear hm
     go_upto_block 3 with fail
     go_cut [6] (fun v wx=>v=.bool (sm&&cc)∧Hid (Kept aA w2 wx))
     case first =>
      cases sm
      all_goals
       go_wp2_with fail
       go_region
       try go_wp2_with fail
       all_goals (go_meet;exact ⟨by first|rfl|(cases cc<;>rfl),by unfold Hid;repeat (first|exact hkx.out|refine Kept.drew ?_|refine Kept.drewN ?_ _)⟩)
     case rest =>
      obtain ⟨rfl,hk3⟩:=hcut
      clear hcc em
      go_wp2_with fail
      go_roundw
      case rel=>exact ⟨k+1,sm&&cc,by omega,by go_num,rfl,hk3,by unfold Hid;rw [hst.out,←hsm.out]⟩
      case measure=>simp [intOf];omega
    ·obtain rfl:k=tj.size:=by omega
     have hp:Hid (sm=jr tj):=by unfold Hid;rw [hsm.out,ace]
     clear hsm
     have K3:Hid (Kept aA w wr):=K2.out.trans hkx.out
     have W3:Hid (aO wr w.heap.size 9 1 (.slice a n c) n (jI ((input.take j).filter jr))):=W2.out.kept hkx.out (fun _ _ h=>h)
     clear hkx
     cases sm
     ·go_wp2_with fail
      go_roundw
      case rel =>
       refine ⟨j+1,n,a,c,by omega,by go_num,rfl,?_,?_,K3⟩
       ·unfold Hid;rw [vW input jr j hlt,←kJ.out,←hp.out,hn.out];simp
       ·unfold Hid;rw [vW input jr j hlt,←kJ.out,←hp.out];simpa using W3.out
      case measure=>simp [intOf];omega
     ·go_wp2_with (refine pz rfl _ _ rfl _ n ((input.take j).filter jr) tj hn.out rfl w.heap.size (W3.out.alloc _) _ rfl (ay _ _) Du.out (by have:=K3.out.size;simp;omega) ?_;intro a9 c9 n9 w9 um nC hk9;have W9:=ah nC;have K9:Hid (Kept aA w w9):=((K3.out.alloc _).step hk9 (fun y hy=>.inr hy));clear nC hk9)
      go_roundw
      case rel =>
       refine ⟨j+1,n9,a9,c9,by omega,by go_num,rfl,?_,?_,K9⟩
       ·unfold Hid;rw [vW input jr j hlt,←kJ.out,←hp.out];exact um.out
       ·unfold Hid;rw [vW input jr j hlt,←kJ.out,←hp.out];exact W9.out
      case measure=>simp [intOf];omega
  ·obtain rfl:j=input.length:=by omega
   rw [List.take_length] at hn hW
   have hn':n=(input.filter jr).length:=hn.out
   have wu:aQ wr (· < wr.heap.size) a (input.filter jr):=aO.strs hW.out hn'.symm
   have HT:=ah (wo ⟨#[109,105,114,114,111,114]⟩ sQ vw input (input.filter jr) ia a ic c wr (fun _=>True) VX (fun _=>false) (fun _ _=>aeN) rfl aeO ab8 ab9 acd YI (by decide) (by decide) YJ (HM.out wr hK.out) (HR.out wr hK.out) (jL.out wr hK.out) H8.out (by have:=Ae.out;omega) trivial (fun _ _ _ _ _ _=>trivial) wu (Nat.le_trans (List.length_filter_le _ _) Ae.out) (aeM rfl YJ input))
   rw [←hn'] at HT
   clear wu hn'
   go_wp2_with (go_at_call 9;(with_reducible refine HT.out.mono ?_);rintro e w1 ⟨rfl,k_⟩;have K1:=ah k_;clear k_)
   go_ret
   exact ⟨rfl,hK.out.trans K1.out⟩
end Go.Proofs.YtgoijmpahffnhaaGreatDoor

namespace Go.Proofs.YtgoijmpahffnhaaGreatDoor
set_option linter.all false
open Go.RowKit
set_option maxRecDepth 100000
set_option maxHeartbeats 2000000
def y8:aj:=⟨#[71,84]⟩
theorem Ug (a b:aj):bJ y8 [a,b]=(aY a).bind fun x=>(aY b).bind fun y=>rV (Oq y8.toList x y):=by
 unfold bJ
 dsimp only
 rw [if_neg (by decide +kernel),if_neg (by decide +kernel),if_neg (by decide +kernel),if_neg (by decide +kernel),if_neg (by decide +kernel),if_neg (by decide +kernel),if_neg (by decide +kernel),if_neg (by decide +kernel),if_neg (by decide +kernel),if_neg (by decide +kernel),if_neg (by decide +kernel),if_neg (by decide +kernel),if_neg (by decide +kernel),if_neg (by decide +kernel),if_neg (by decide +kernel),if_neg (by decide +kernel)]
 show ((aY a).bind fun x=>(aY b).bind fun y=>_)=_
 congr 1
 funext x
 congr 1
 funext y
 rw [if_neg (by decide +kernel),if_neg (by decide +kernel),if_neg (by decide +kernel),if_neg (by decide +kernel)]
theorem agh (a b:Int):Oq y8.toList a b=decide (b<a):=by
 unfold Oq
 rw [if_neg (by decide +kernel),if_neg (by decide +kernel),if_neg (by decide +kernel),if_neg (by decide +kernel),if_pos (by decide +kernel)]
theorem agi (t u:aj) (a b:Int) (h1:aY t=some a) (h2:aY u=some b):bJ y8 [t,u]=rV (decide (b<a)):=by
 rw [Ug,h1,h2]
 show rV (Oq y8.toList a b)=_
 rw [agh]
theorem QW (d:Int) (w:World):Calls Tryz.prog 162 #[.string ⟨#[71,84]⟩,.int .i64 d] w (Dt (.bool (decide (0<d))) w):=by
 go_enter Tryz.func162, Tryz.ntmps162
 go_wp2_with fail
 go_ret
 exact ⟨by first|rfl|simp,rfl⟩
theorem Vk (l:List aj) (al:Option Addr) (cl:Nat) (w:World) (hg:qg w) (hs:aQ w (· < w.heap.size) al l) (h1:l.length=2) :
  Calls Tryz.prog 101 #[.string y8,.slice al l.length cl] w (AZ (bJ y8 l) w):=by
 obtain ⟨t,u,b,o,rfl,rfl,c0,c1⟩:=args2 hs h1
 have HR:=Ym t u (some ⟨b,o,none⟩) cl w hg hs
 clear hs h1 hg
 show Calls Tryz.prog 101 #[.string ⟨#[71,84]⟩,.slice (some ⟨b,o,none⟩) 2 cl] w _
 by_cases hz:aY t=none∨aY u=none
 ·have FIN:Hid (bJ y8 [t,u]=none):=by
   unfold Hid;rw [Ug]
   rcases hz with h|h
   ·rw [h];rfl
   ·rw [h];cases aY t<;>rfl
  have H:Hid (Calls Tryz.prog 138 #[.slice (some ⟨b,o,none⟩) 2 cl] w (fun e w'=>e=.returned (.tuple #[.slice none 0 0,.bool false])∧Kept aA w w')):=HR.mono (by
   rintro e w' ⟨k,⟨_,he⟩|⟨x,y,_,_,_,hx,hy,_⟩⟩
   ·exact ⟨he,k⟩
   ·rcases hz with h|h
    ·rw [h] at hx;cases hx
    ·rw [h] at hy;cases hy)
  clear hz HR c0 c1
  go_enter Tryz.func101, Tryz.ntmps101
  go_wp2_with (go_at_call 138;(with_reducible refine H.out.mono ?_);rintro e w2 ⟨rfl,hk⟩;have K2:=ah hk;clear hk)
  go_ret2
  exact ⟨by rw [FIN.out];rfl,K2.out⟩
 ·obtain ⟨x,hx⟩:∃x,aY t=some x:=Option.ne_none_iff_exists'.1 (fun h=>hz (.inl h))
  obtain ⟨y,hy⟩:∃y,aY u=some y:=Option.ne_none_iff_exists'.1 (fun h=>hz (.inr h))
  obtain ⟨d,hd⟩:∃d:Int,d=(if x<y then -1 else if y<x then 1 else 0):=⟨_,rfl⟩
  obtain ⟨q,hq⟩:∃q,q=decide (0<d):=⟨_,rfl⟩
  have hqd:q=decide (y<x):=by
   rw [hq,decide_eq_decide,hd]
   split
   ·omega
   ·split<;>omega
  have FIN:Hid (bJ y8 [t,u]=rV q):=by unfold Hid;rw [agi t u x y hx hy,hqd]
  have H:Hid (Calls Tryz.prog 138 #[.slice (some ⟨b,o,none⟩) 2 cl] w (fun e w'=>Kept aA w w'∧∃g o c,e=.returned (.tuple #[.slice (some ⟨g,o,none⟩) 2 c,.bool true])∧w'.cell? ⟨g,o,none⟩=some (.int .i64 x)∧w'.cell? ⟨g,o+1,none⟩=some (.int .i64 y))):=HR.mono (by
   rintro e w' ⟨k,⟨h,_⟩|⟨x',y',g,o,c,hx',hy',he,h1,h2⟩⟩
   ·exact absurd h hz
   ·rw [hx] at hx';rw [hy] at hy';cases hx';cases hy';exact ⟨k,g,o,c,he,h1,h2⟩)
  have HO:Hid (∀wx,Calls Tryz.prog 163 #[.int .i64 x,.int .i64 y] wx (Dt (.int .i64 d) wx)):=fun wx=>by rw [hd];exact Yn x y wx
  have HC:Hid (∀wx,Calls Tryz.prog 162 #[.string ⟨#[71,84]⟩,.int .i64 d] wx (Dt (.bool q) wx)):=fun wx=>by rw [hq];exact QW d wx
  clear hz HR c0 c1 hqd hq hd hx hy
  go_enter Tryz.func101, Tryz.ntmps101
  go_upto_region 62 with (go_at_call 138;(with_reducible refine H.out.mono ?_);rintro e w2 ⟨hk,g9,o9,c9,rfl,u0,u1⟩;have K2:=ah hk;clear hk)
  go_wp2_with (go_region_with first
   | (go_at_call 163;(with_reducible refine (HO.out _).mono ?_);rintro e w3 ⟨rfl,hw3⟩;subst hw3)
   | (go_at_call 162;(with_reducible refine (HC.out _).mono ?_);rintro e w4 ⟨rfl,hw4⟩;subst hw4))
  all_goals exact rW rfl rfl rfl ⟨by rw [FIN.out];cases q<;>rfl,by repeat (first|exact K2.out|refine Kept.drew ?_|refine Kept.drewN ?_ _)⟩
end Go.Proofs.YtgoijmpahffnhaaGreatDoor

namespace Go.Proofs.YtgoijmpahffnhaaGreatDoor
set_option linter.all false
open Go.RowKit
def sM:aj:=⟨#[77]⟩
def Ie:aj:=⟨#[68,79,78,69]⟩
def VJ:aF:=⟨⟨#[]⟩,2,Dx,.mk 6 ⟨#[]⟩ 0 y8 [.mk 6 ⟨#[]⟩ 0 rM [vE sX],.mk 6 ⟨#[]⟩ 0 rM [vE sM]],Dx,⟨#[]⟩,⟨#[]⟩,[],[],⟨#[]⟩,⟨#[]⟩,qF⟩
def Bh (lab n m always:aj):aF:=⟨lab,3,vE n,vE m,Dx,⟨#[]⟩,⟨#[]⟩,[],[],always,⟨#[]⟩,⟨#[]⟩⟩
def vg:List aF:=[Bj qF sX Ie,VJ,Bh ⟨#[]⟩ sM sX qF,Bh Ie dA sM ⟨#[]⟩]
def vk:List aj:=[sX,sM]
theorem EP:sM≠gW∧sM≠dA:=by decide
def maxL (b t:aj):aj:=if b.size<t.size then t else b
theorem Um (ns:List aj) (lab n m always:aj) (s:je) (h1:m≠gW) (h2:m≠dA):pX ns (Bh lab n m always) s=uh ns s n (s.v.getD (Ac ns m) ⟨#[]⟩):=by
 have k2:¬(Bh lab n m always).kind=2:=show ¬(3:Int)=2 by decide
 have k3:(Bh lab n m always).kind=3:=rfl
 unfold pX
 rw [if_neg k2,if_pos k3]
 show (match mW ns (vE m) s with
  | (none,s1)=>(some false,s1)
  | (some t,s1)=>uh ns s1 n t)=_
 rw [xQ,yt _ _ _ h1 h2]
theorem abV (ns:List aj) (s:je) (t:aj) (h:t.size≤65536):uh ns s dA t=yY s t:=by
 unfold uh
 rw [if_neg (fun e=>e.elim OA (by omega)),if_pos rfl]
theorem abW (ns:List aj) (s:je) (n t:aj) (h1:n≠gW) (h2:n≠dA) (h:t.size≤65536):uh ns s n t=(some true,{s with v:=s.v.set (Ac ns n) t}):=by
 unfold uh
 rw [if_neg (fun e=>e.elim h1 (by omega)),if_neg h2]
section
variable (x m:aj) (inp out:List aj) (td:Nat)
theorem adE (t:aj) (h:t.size≤65536):pX vk (Bj qF sX Ie) ⟨[x,m],t::inp,out,td⟩=(some true,⟨[t,m],inp,out,td⟩):=by
 rw [Ig _ _ _ _ _ mP.1 mP.2]
 dsimp only
 rw [if_neg (by omega)];rfl
theorem YE:pX vk (Bj qF sX Ie) ⟨[x,m],[],out,td⟩=(some false,⟨[x,m],[],out,td⟩):=by
 rw [Ig _ _ _ _ _ mP.1 mP.2]
theorem ah6 (hx:x.size≤65536) (hm:m.size≤65536):pX vk VJ ⟨[x,m],inp,out,td⟩=(some (decide (m.size<x.size)),⟨[x,m],inp,out,td⟩):=by
 have e0:mW vk (vE sX) ⟨[x,m],inp,out,td⟩=(some x,⟨[x,m],inp,out,td⟩):=by rw [xQ,yt _ _ _ mP.1 mP.2];rfl
 have e1:mW vk (vE sM) ⟨[x,m],inp,out,td⟩=(some m,⟨[x,m],inp,out,td⟩):=by rw [xQ,yt _ _ _ EP.1 EP.2];rfl
 have f0:mW vk (.mk 6 ⟨#[]⟩ 0 rM [vE sX]) ⟨[x,m],inp,out,td⟩=(some (iM x.size),⟨[x,m],inp,out,td⟩):=by
  rw [Dy _ _ _ _ _ (by decide),qh _ _ _ e0,pW]
  dsimp only
  rw [yu,Ol]
 have f1:mW vk (.mk 6 ⟨#[]⟩ 0 rM [vE sM]) ⟨[x,m],inp,out,td⟩=(some (iM m.size),⟨[x,m],inp,out,td⟩):=by
  rw [Dy _ _ _ _ _ (by decide),qh _ _ _ e1,pW]
  dsimp only
  rw [yu,Ol]
 have h2:mW vk VJ.value ⟨[x,m],inp,out,td⟩=(rV (decide ((m.size:Int)<(x.size:Int))),⟨[x,m],inp,out,td⟩):=by
  show mW vk (.mk 6 ⟨#[]⟩ 0 y8 [.mk 6 ⟨#[]⟩ 0 rM [vE sX],.mk 6 ⟨#[]⟩ 0 rM [vE sM]]) _=_
  rw [Dy _ _ _ _ _ (by decide),qh _ _ _ f0,qh _ _ _ f1,pW]
  dsimp only
  rw [yu,agi _ _ _ _ (Ih (by unfold jw;omega)) (Ih (by unfold jw;omega))]
 unfold pX
 rw [if_pos (show VJ.kind=2 from rfl),h2]
 unfold rV
 by_cases h:m.size<x.size
 ·rw [ak h,ak (by omega)];rfl
 ·rw [au h,au (by omega)];rfl
theorem ah7 (hx:x.size≤65536):pX vk (Bh ⟨#[]⟩ sM sX qF) ⟨[x,m],inp,out,td⟩=(some true,⟨[x,x],inp,out,td⟩):=by
 rw [Um _ _ _ _ _ _ mP.1 mP.2]
 exact abW _ _ _ _ EP.1 EP.2 hx
theorem adF (hm:m.size≤65536):pX vk (Bh Ie dA sM ⟨#[]⟩) ⟨[x,m],inp,out,td⟩=yY ⟨[x,m],inp,out,td⟩ m:=by
 rw [Um _ _ _ _ _ _ EP.1 EP.2]
 exact abV _ _ _ hm
end
theorem JI:∀(inp:List aj) (x m:aj) (out:List aj) (td:Nat),(∀t∈inp,t.size≤65536)→m.size≤65536→td=jk out→
  ∃k r,gy vg vk 0 ⟨[x,m],inp,out,td⟩ k r∧abN (out++[inp.foldl maxL m]) r∧k≤3*inp.length+2
 | [],x,m,out,td,_,hm,hs=>by
  rcases Hy ⟨[x,m],[],out,td⟩ m [] hs with ⟨e,e2⟩|⟨e,e2⟩
  ·exact ⟨_,_,gy.step (j:=3) rfl (YE x m out td) rfl (gy.step (j:=4) rfl ((adF x m [] out td hm).trans e) rfl (gy.fin (by decide))),.inl ⟨rfl,rfl⟩,by simp⟩
  ·exact ⟨_,_,gy.step (j:=3) rfl (YE x m out td) rfl (gy.stop rfl ((adF x m [] out td hm).trans e)),.inr ⟨rfl,e2⟩,by simp⟩
 | t::r,x,m,out,td,hz,hm,hs=>by
  have ht:=hz t (List.mem_cons_self ..)
  have hr:=fun y hy=>hz y (List.mem_cons_of_mem _ hy)
  have hd:=ah6 t m r out td ht hm
  rw [List.foldl_cons]
  by_cases hp:m.size<t.size
  ·rw [ak hp] at hd
   obtain ⟨k,q,h1,h2,h3⟩:=JI r t t out td hr ht hs
   refine ⟨_,_,gy.step (j:=1) rfl (adE x m r out td t ht) rfl (gy.step (j:=2) rfl hd rfl (gy.step (j:=0) rfl (ah7 t m r out td ht) rfl h1)),?_,by simp;omega⟩
   rw [show maxL m t=t from if_pos hp];exact h2
  ·rw [au hp] at hd
   obtain ⟨k,q,h1,h2,h3⟩:=JI r t m out td hr hm hs
   refine ⟨_,_,gy.step (j:=1) rfl (adE x m r out td t ht) rfl (gy.step (j:=0) rfl hd rfl h1),?_,by simp;omega⟩
   rw [show maxL m t=m from if_neg hp];exact h2
theorem Un:∀(inp:List aj) (m:aj) (b:Nat),(∀t∈inp,t.size≤b)→m.size≤b→(inp.foldl maxL m).size≤b
 | [],m,b,_,hm=>hm
 | t::r,m,b,h,hm=>by
  rw [List.foldl_cons]
  refine Un r _ b (fun y hy=>h y (List.mem_cons_of_mem _ hy)) ?_
  unfold maxL
  split
  ·exact h t (List.mem_cons_self ..)
  ·exact hm
theorem aeJ {nb:aj→Bool} {kb:Int→Bool} (h4:kb 4=false) (hk:∀st∈vg,okS nb kb st=true) (input:List aj):yh vg input [input.foldl maxL ⟨#[]⟩]:=by
 refine Oj (ns:=vk) h4 (by decide) hk (by decide +kernel) fun hb=>?_
 obtain ⟨k,r,h1,h2,h3⟩:=JI input ⟨#[]⟩ ⟨#[]⟩ [] 0 (JF hb) (Nat.zero_le _) rfl
 refine ⟨k,r,h1,h2,fun hbg=>?_⟩
 obtain ⟨b1,b2⟩:=Ud hbg
 have:=Un input ⟨#[]⟩ 30 b1 (Nat.zero_le _)
 rw [Gq];omega
end Go.Proofs.YtgoijmpahffnhaaGreatDoor

namespace Go.Proofs.YtgoijmpahffnhaaGreatDoor
set_option linter.all false
open Go.RowKit
set_option maxRecDepth 100000
set_option maxHeartbeats 8000000
def VK (n:aj):Bool:=decide (n=y8)||decide (n=rM)
theorem aeK {F:dF} (hG:F.G=qg):zY F VK (fun _=>false) where
 bu nm hn a al cl w hg hs hf hz:=by
  rw [hG] at hg
  rcases Bool.or_eq_true _ _ ▸ hn with h|h
  ·obtain rfl:nm=y8:=of_decide_eq_true h
   have h1:a.length=2:=by
    have:aH y8=2:=by kernel_rfl
    rw [this] at hf;omega
   exact Vk a al cl w hg hs h1
  ·obtain rfl:nm=rM:=of_decide_eq_true h
   have h1:a.length=1:=by
    have:aH rM=1:=by kernel_rfl
    rw [this] at hf;omega
   exact Om a al cl w hg hs h1 hz
 bi k h:=absurd h Bool.false_ne_true
 nu h:=absurd h Bool.false_ne_true
set_option maxRecDepth 1000000 in
theorem abX:lS ⟨#[108,111,110,103,101,115,116]⟩ pV=(qG,0):=by kernel_rfl
set_option maxRecDepth 1000000 in
theorem aeL:AY qG=true:=by kernel_rfl
set_option maxRecDepth 1000000 in
theorem abY:qG.size≤100000:=of_decide_eq_true (by kernel_rfl)
set_option maxRecDepth 1000000 in
theorem abZ:kV qG=.ok vg:=by kernel_rfl
theorem YF:bY vg=(0,0):=(wE (by kernel_rfl)).1
theorem YG:∀st∈vg,okS VK (fun _=>false) st=true:=by decide +kernel
theorem Lm (input:List aj) (j:Nat) (h:j<input.length) (m:aj):(input.take (j+1)).foldl maxL m=maxL ((input.take j).foldl maxL m) input[j]:=by
 rw [List.take_succ_eq_append_getElem h,List.foldl_append];rfl
theorem ab1 (input:List aj) (ia:Option Addr) (ic:Nat) (w:World) (hm:jR w) (hr:eU w) (hg:qg w) (hin:aQ w (· < w.heap.size) ia input) (hic:input.length≤ic) (hil:input.length≤1048576) (hsz:∀t∈input,t.size≤1000000000) :
  Calls Tryz.prog 5 #[.slice ia input.length ic] w (ug true w):=by
 have jL:=ah hin
 have HM:=ah hm
 have HR:=ah hr
 have HG:=ah hg
 have H8:=ah hic
 have Ae:=ah hil
 have Dw:=ah hsz
 clear hm hr hin hic hsz hg
 go_enter Tryz.func5, Tryz.ntmps5
 go_wp2_with fail
 go_loopw [3,8] (fun b i wr=>∃(j:Nat) (best:aj),j≤input.length∧i=.int .i64 (j:Int)∧b=.string best∧best.size≤1000000000∧Hid (best=(input.take j).foldl maxL ⟨#[]⟩)∧wr=w) (fun _ i _=>input.length-(intOf i).toNat)
 case atStart=>exact ⟨0,⟨#[]⟩,Nat.zero_le _,rfl,rfl,Nat.zero_le _,rfl,rfl⟩
 case round =>
  obtain ⟨j,best,hj,rfl,rfl,hbz,hb,rfl⟩:=hrel
  by_cases hlt:j<input.length
  ·obtain ⟨bi,oi,rfl,_,hc⟩:=jL.out (by omega)
   have cj:=hc j hlt
   obtain ⟨tj,htj⟩:∃tj,tj=input[j]:=⟨_,rfl⟩
   rw [←htj] at cj
   have bj:(j:Int)<(input.length:Int):=by omega
   have kJ:=ah htj
   have ztj:tj.size≤1000000000:=by rw [htj];exact Dw.out _ (List.getElem_mem hlt)
   clear hc htj
   by_cases hg:best.size<tj.size
   ·have d1:decide ((best.size:Int)<(tj.size:Int))=true:=ak (by omega)
    have d2:decide (best.size<tj.size)=true:=ak hg
    have fin:Hid ((input.take (j+1)).foldl maxL ⟨#[]⟩=tj):=by
     unfold Hid;rw [Lm input j hlt,←hb.out,←kJ.out];exact if_pos hg
    go_wp2_with fail
    go_roundw
    case rel=>exact ⟨j+1,tj,by omega,by go_num,rfl,ztj,fin.out.symm,trivial⟩
    case measure=>simp [intOf];omega
   ·have d1:decide ((best.size:Int)<(tj.size:Int))=false:=au (by omega)
    have d2:decide (best.size<tj.size)=false:=au hg
    have fin:Hid ((input.take (j+1)).foldl maxL ⟨#[]⟩=best):=by
     unfold Hid;rw [Lm input j hlt,←hb.out,←kJ.out];exact if_neg hg
    go_wp2_with fail
    go_roundw
    case rel=>exact ⟨j+1,best,by omega,by go_num,rfl,hbz,fin.out.symm,trivial⟩
    case measure=>simp [intOf];omega
  ·obtain rfl:j=input.length:=by omega
   rw [List.take_length] at hb
   obtain ⟨w1,hw1⟩:∃w1,w1=wr.alloc (.cells #[.string best] 9):=⟨_,rfl⟩
   have k1:Kept aA wr w1:=by rw [hw1];exact (Kept.refl aA wr).alloc _
   have wu:aQ w1 (· < w1.heap.size) (some ⟨wr.heap.size,0,none⟩) [best]:=by
    intro _
    refine ⟨_,0,rfl,by rw [hw1];simp,fun i hi=>?_⟩
    obtain rfl:i=0:=by simpa using hi
    rw [hw1];exact (dJ.new wr 9 (.string best)).cell
   have law:=aeJ rfl YG input
   rw [←hb.out] at law
   have HT0:=(wo ⟨#[108,111,110,103,101,115,116]⟩ qG vg input [best] ia (some ⟨wr.heap.size,0,none⟩) ic 1 w1 qg VK (fun _=>false) (fun _ h=>aeK h) rfl aeL abX abY abZ YF (by decide) (by decide) YG (HM.out.kept k1 (fun h=>h)) (by obtain ⟨ev,h1,h2⟩:=HR.out;exact ⟨ev,(k1.cell (cell_lt h1) (fun h=>h)).trans h1,h2⟩) (jL.out.to k1 (Safe.lt (Nat.le_refl _)) (fun _ h=>Nat.lt_of_lt_of_le h k1.size)) H8.out (by have:=Ae.out;omega) (HG.out.kept k1 (fun h=>h) (fun h=>h)) (qg.gk _ (HG.out.kept k1 (fun h=>h) (fun h=>h))) wu (by simp) law)
   rw [show ([best]:List aj).length=1 from rfl] at HT0
   have HT:=ah HT0
   clear HT0
   have HW1:=ah hw1
   have K1:=ah k1
   clear wu law hw1 k1 hb
   go_upto_region 8 with fail
   go_wp2_with (go_at_call 9;go_loud (rw [←HW1.out];(with_reducible refine HT.out.mono ?_);rintro e w2 ⟨rfl,k_⟩;have K2:=ah k_;clear k_))
   go_ret
   exact ⟨rfl,K1.out.trans K2.out⟩
end Go.Proofs.YtgoijmpahffnhaaGreatDoor
