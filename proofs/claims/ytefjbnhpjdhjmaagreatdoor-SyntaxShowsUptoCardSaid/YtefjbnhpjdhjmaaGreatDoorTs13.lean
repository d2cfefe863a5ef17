/-  -/
import Derived.Test.YtefjbnhpjdhjmaaGreatDoorTs5
import Derived.Test.YtefjbnhpjdhjmaaGreatDoorTs11
import Derived.Test.YtefjbnhpjdhjmaaGreatDoorTs16
import Derived.Test.YtefjbnhpjdhjmaaGreatDoorSpell3
import Derived.Test.YtefjbnhpjdhjmaaGreatDoorTs15
import Derived.Test.YtefjbnhpjdhjmaaGreatDoorTs19
import Derived.Lib.Join
import Derived.Test.YtefjbnhpjdhjmaaGreatDoorTs1
import Derived.Test.YtefjbnhpjdhjmaaGreatDoorShelf
import Derived.Test.YtefjbnhpjdhjmaaGreatDoorTs3
import Derived.Deep.RegionWith
import Derived.Sort.OwnSorted
import Derived.Deep.AppendLies
import Derived.Deep.RegionLaw
namespace Go.Proofs.YtefjbnhpjdhjmaaGreatDoor
set_option linter.all false
open Go.RowKit
def jh (s:aj) (inner:Nat→cZ aA) (p:aA):Prop:=∀i r,Has s i (aG p 0) r→tH r→iZ inner s i=jA s (s.size+1-(i+(aG p 0).length)) (aB p) (i+(aG p 0).length)
def tY (s:aj) (inner:Nat→cZ aA) (p:aA):Prop:=∀i r,Has s i (aG p 1) r→tH r→yY s (i+(aG p 1).length)→kJ inner s i=.ok (aB p,skip s (i+(aG p 1).length))
def zl (s:aj) (inner:Nat→cZ aA) (p:aA):Prop:=∀i r,Has s i (aG p 2) r→tH r→AQ s (i+(aG p 2).length)→lS inner s i=.ok (aB p,skip s (i+(aG p 2).length))
theorem vI {p:aA} (h:dS p=0):(aT p.kind→p.text.size≠0)∧(bn p.kind→bF p.name=true)∧jT p.kind≤p.kids.length∧p.kids.length≤mD p.kind:=by
 unfold dS at h
 by_cases h1:p.kind<1∨24<p.kind
 ·rw [if_pos h1] at h;cases h
 rw [if_neg h1] at h
 by_cases h2:(p.kind=1∨aT p.kind)∧65536<p.text.size
 ·rw [if_pos h2] at h;cases h
 rw [if_neg h2] at h
 by_cases h3:aT p.kind∧p.text.size=0
 ·rw [if_pos h3] at h;cases h
 rw [if_neg h3] at h
 by_cases h4:bD p.kind∧(p.n<0∨65536<p.n)
 ·rw [if_pos h4] at h;cases h
 rw [if_neg h4] at h
 by_cases h5:bn p.kind∧bF p.name=false
 ·rw [if_pos h5] at h;cases h
 rw [if_neg h5] at h
 by_cases h6:p.kids.length<jT p.kind∨mD p.kind<p.kids.length
 ·rw [if_pos h6] at h;cases h
 refine ⟨fun a b=>h3 ⟨a,b⟩,fun a=>?_,by omega,by omega⟩
 cases hn:bF p.name with
 | true=>rfl
 | false=>exact absurd ⟨a,hn⟩ h5
theorem Xm {k:Int} (h:k<18∨22<k):mD k=0:=by unfold mD;rw [if_neg (by omega),if_neg (by omega)]
def nK:List Nat:=[2,3,4,5,6,7,8,9,10,11,12,13,14,15,16,17,20]
theorem Dh (kk:Nat) (h:kk∈nK):∃c l,fD kk=c::l∧(65≤c.toNat∧c.toNat≤90)∧(∀d∈c::l,iK d=true)∧kindOf ⟨(c::l).toArray⟩=kk:=by
 simp only [nK,List.mem_cons,List.not_mem_nil,or_false] at h
 rcases h with rfl|rfl|rfl|rfl|rfl|rfl|rfl|rfl|rfl|rfl|rfl|rfl|rfl|rfl|rfl|rfl|rfl<;>exact ⟨_,_,rfl,by decide,by decide,by decide⟩
theorem AU {inner:Nat→cZ aA} {s:aj} {i:Nat} {c:UInt8} {l r:List UInt8} (h:Has s i (c::l) r) (h32:c≠32) (h40:c≠40):lQ inner s i=aH inner s i:=by
 have e:fH 40 s i=(false,i):=by
  unfold fH;rw [h.skip h32]
  refine if_neg ?_
  rw [h.peek]
  intro e
  have e2:c.toNat=40:=by omega
  exact h40 (UInt8.toNat_inj.1 e2)
 unfold lQ;rw [e,if_neg (by simp)]
theorem AV {inner:Nat→cZ aA} {s:aj} {i kk:Nat} {m r:List UInt8} (hk:kk∈nK) (h:Has s i (fD kk++m) r) (hr:l9 iK (m++r)):lQ inner s i=lM inner s i (i+(fD kk).length) kk:=by
 obtain ⟨c,l,e,hc,hw,hko⟩:=Dh kk hk
 rw [e] at h⊢
 have hs:=h.split
 have h32:c≠32:=by intro e;subst e;revert hc;decide
 rw [AU hs h32 (by intro e;subst e;revert hc;decide)]
 have hp:=hs.peek
 unfold aH
 rw [hs.skip h32,if_neg (by rw [hp];omega),if_neg (by rw [hp];omega),if_neg (by rw [hp];omega)]
 unfold oq
 rw [L6 hw hc hs hr]
 dsimp only
 rw [hko]
theorem uT {s:aj} {k:Nat} {c:UInt8} {m r:List UInt8} (v:Nat) (hv:v=c.toNat) (hc:c≠32) (h:Has s k (c::m) r):dI v s k=.ok (k+1):=by
 subst hv;unfold dI;rw [h.skip hc,if_pos h.peek]
theorem Ua (r:List UInt8):l9 iK (40::r):=fun c t e=>by obtain rfl:=(List.cons.inj e).1.symm;decide
theorem nM {s:aj} {inner:Nat→cZ aA} {p:aA} (h:∀i r,Has s i (aG p 0) r→tH r→lQ inner s i=.ok (aB p,i+(aG p 0).length)):jh s inner p:=by
 intro i r hh hf
 unfold iZ;rw [h i r hh hf]
theorem Ad {kids:List aA} {k:Int} {t nm:aj} {n:Int} (hn:dS (.mk k t n nm kids)=0) (h:k<18∨22<k):kids=[]:=by
 have:=(vI hn).2.2.2
 rw [show (aA.mk k t n nm kids).kind=k from rfl,Xm h] at this
 exact List.length_eq_zero_iff.1 (by simpa using this)
theorem vK {k:Int} {t nm:aj} {n:Int}:aB (.mk k t n nm [])=.mk k (if k=1∨aT k then t else E0) (if bD k then n else 0) (if bn k then nm else E0) []:=by rw [aB,dD]
theorem Zm {s:aj} {inner:Nat→cZ aA} {t nm:aj} {n:Int} {kids:List aA} (hn:dS (.mk 1 t n nm kids)=0):jh s inner (.mk 1 t n nm kids):=by
 obtain rfl:=Ad hn (by omega)
 have hs:aG (.mk 1 t n nm []) 0=gu t:=by rw [aG,if_pos rfl]
 refine nM fun i r h hf=>?_
 rw [hs] at h⊢
 have h':=h;unfold gu at h'
 rw [AU h' (by decide) (by decide)]
 unfold aH
 rw [h'.skip (by decide),if_pos (by rw [h'.peek];rfl)]
 unfold DL
 rw [L8 h hf.quote,vK];rfl
theorem Xn {s:aj} {inner:Nat→cZ aA} {k:Int} {t nm:aj} {n:Int} {kids:List aA} (hk:k=23∨k=24) (hn:dS (.mk k t n nm kids)=0):jh s inner (.mk k t n nm kids):=by
 have hnm:bF nm=true:=(vI hn).2.1 (by show bn k;unfold bn;omega)
 obtain rfl:=Ad hn (by omega)
 rcases hk with rfl|rfl
 ·have hs:aG (.mk 23 t n nm []) 0=64::nm.data.toList:=by rw [aG];rfl
  refine nM fun i r h hf=>?_
  rw [hs] at h⊢
  rw [AU h (by decide) (by decide)]
  unfold aH
  rw [h.skip (by decide),if_neg (by rw [h.peek];decide),if_pos (by rw [h.peek];rfl)]
  unfold yE
  rw [EU hnm h.tail hf.word,vK]
  have e:i+1+nm.data.toList.length=i+(64::nm.data.toList).length:=by simp;omega
  dsimp only
  rw [e];rfl
 ·have hs:aG (.mk 24 t n nm []) 0=42::nm.data.toList:=by rw [aG];rfl
  refine nM fun i r h hf=>?_
  rw [hs] at h⊢
  rw [AU h (by decide) (by decide)]
  unfold aH
  rw [h.skip (by decide),if_neg (by rw [h.peek];decide),if_neg (by rw [h.peek];decide),if_pos (by rw [h.peek];rfl)]
  unfold yE
  rw [EU hnm h.tail hf.word,vK]
  have e:i+1+nm.data.toList.length=i+(42::nm.data.toList).length:=by simp;omega
  dsimp only
  rw [e];rfl
theorem Xo {s:aj} {inner:Nat→cZ aA} {kk:Nat} {t nm:aj} {n:Int} {kids:List aA} (hk:3≤kk∧kk≤7) (hn:dS (.mk kk t n nm kids)=0):jh s inner (.mk kk t n nm kids):=by
 have ht:t.size≠0:=(vI hn).1 (by show aT kk;unfold aT;omega)
 have hk0:aT kk:=by unfold aT;omega
 obtain rfl:=Ad hn (by omega)
 have hs:aG (.mk kk t n nm []) 0=fD kk++(40::(gu t++[41])):=by rw [aG,if_neg (by omega),if_pos hk0]
 refine nM fun i r h hf=>?_
 rw [hs] at h⊢
 rw [AV (by simp [nK];omega) h (Ua _)]
 have h2:=h.next
 have h3:=h2.tail
 unfold lM
 rw [if_neg (by omega),if_pos (by omega)]
 unfold dP
 rw [uT 40 rfl (by decide) h2]
 dsimp only
 rw [L8 h3.split (fun c t e=>by obtain rfl:=(List.cons.inj e).1.symm;decide)]
 dsimp only
 rw [if_neg ht,uT 41 rfl (by decide) h3.next,vK,if_pos (.inr hk0),if_neg (by unfold bD;omega),if_neg (by unfold bn;omega)]
 have e:i+(fD kk).length+1+(gu t).length+1=i+(fD kk++40::(gu t++[41])).length:=by simp;omega
 dsimp only
 rw [e]
theorem Zn {s:aj} {inner:Nat→cZ aA} {kk:Nat} {t nm:aj} {n:Int} {kids:List aA} (hk:kk=2∨(8≤kk∧kk≤11)) (hn:dS (.mk kk t n nm kids)=0):jh s inner (.mk kk t n nm kids):=by
 have hk0:bD kk:=by unfold bD;omega
 obtain ⟨hn0,hn1⟩:=(jD hn).2.2.1 hk0
 obtain rfl:=Ad hn (by omega)
 have hs:aG (.mk kk t n nm []) 0=fD kk++(40::(Lib.decDigits n.toNat++[41])):=by rw [aG,if_neg (by omega),if_neg (by unfold aT;omega),if_pos hk0]
 refine nM fun i r h hf=>?_
 rw [hs] at h⊢
 rw [AV (by simp [nK];omega) h (Ua _)]
 have h2:=h.next
 have h3:=h2.tail
 unfold lM
 rw [if_neg (by omega),if_neg (by omega),if_pos (by omega)]
 unfold fV
 rw [uT 40 rfl (by decide) h2]
 dsimp only
 rw [Zl (by omega) h3.split (fun c t e=>by obtain rfl:=(List.cons.inj e).1.symm;decide)]
 dsimp only
 rw [uT 41 rfl (by decide) h3.next,vK,if_neg (by unfold aT;omega),if_pos hk0,if_neg (by unfold bn;omega)]
 have e:i+(fD kk).length+1+(Lib.decDigits n.toNat).length+1=i+(fD kk++40::(Lib.decDigits n.toNat++[41])).length:=by simp;omega
 dsimp only
 rw [e,Int.toNat_of_nonneg hn0]
theorem Xp {s:aj} {inner:Nat→cZ aA} {kk:Nat} {t nm:aj} {n:Int} {kids:List aA} (hk:12≤kk∧kk≤17) (hn:dS (.mk kk t n nm kids)=0):jh s inner (.mk kk t n nm kids):=by
 obtain rfl:=Ad hn (by omega)
 have hs:aG (.mk kk t n nm []) 0=fD kk++[]:=by
  rw [aG,if_neg (by omega),if_neg (by unfold aT;omega),if_neg (by unfold bD;omega),if_neg (by omega),if_neg (by omega),if_neg (by omega),if_neg (by omega),if_neg (by omega),if_neg (by omega),if_neg (by omega),List.append_nil]
 refine nM fun i r h hf=>?_
 rw [hs] at h⊢
 rw [AV (by simp [nK];omega) h (by rw [List.nil_append];exact hf.word)]
 unfold lM
 rw [if_neg (by omega),if_neg (by omega),if_neg (by omega),if_neg (by omega),vK,if_neg (by unfold aT;omega),if_neg (by unfold bD;omega),if_neg (by unfold bn;omega),List.append_nil]
end Go.Proofs.YtefjbnhpjdhjmaaGreatDoor

namespace Go.Proofs.YtefjbnhpjdhjmaaGreatDoor
set_option linter.all false
open Go.RowKit
theorem EW:∀(N:Nat) (p:aA),sizeT p≤N→yJ p→∃c t,aG p 0=c::t∧starts (c.toNat:Int)=true∧c≠32:=by
 intro N
 induction N with
 | zero=>intro p h;have:=lW p;omega
 | succ N ih =>
  intro p hN hok
  obtain ⟨k,t,n,nm,kids⟩:=p
  have hn:=hok.self
  obtain ⟨⟨h1,h24⟩,_,_,_,hk1⟩:=jD hn
  have wd:∀(kk:Nat) (m:List UInt8),kk∈nK→∃c t,fD kk++m=c::t∧starts (c.toNat:Int)=true∧c≠32:=by
   intro kk m hkk
   obtain ⟨c,l,e,hc,_,_⟩:=Dh kk hkk
   rw [e]
   refine ⟨c,l++m,rfl,?_,?_⟩
   ·unfold starts;simp only [Bool.or_eq_true,Bool.and_eq_true,decide_eq_true_eq];right;omega
   ·intro e;subst e;revert hc;decide
  have kid:20<k→k≤22→∀m,∃c t,qo kids 0++m=c::t∧starts (c.toNat:Int)=true∧c≠32:=by
   intro ha hb m
   match kids,hk1 (by omega),hok.kids,hN with
   | [q],_,hkq,hN =>
    obtain ⟨c,t,e,h2,h3⟩:=ih q (by simp only [sizeT,aS] at hN;omega) hkq.head
    rw [qo,e];exact ⟨c,t++m,rfl,h2,h3⟩
  by_cases c1:k=1
  ·subst c1;rw [aG,if_pos rfl];exact ⟨39,_,rfl,by decide,by decide⟩
  rw [aG,if_neg c1]
  by_cases c2:aT k
  ·rw [if_pos c2]
   unfold aT at c2
   obtain ⟨kk,rfl⟩:∃kk:Nat,k=kk:=⟨k.toNat,by omega⟩
   exact wd kk _ (by simp [nK];omega)
  rw [if_neg c2]
  by_cases c3:bD k
  ·rw [if_pos c3]
   unfold bD at c3
   obtain ⟨kk,rfl⟩:∃kk:Nat,k=kk:=⟨k.toNat,by omega⟩
   exact wd kk _ (by simp [nK];omega)
  rw [if_neg c3]
  unfold aT at c2;unfold bD at c3
  by_cases c4:k=20
  ·rw [if_pos c4];exact ⟨65,_,rfl,by decide,by decide⟩
  rw [if_neg c4]
  by_cases c5:k=21
  ·rw [if_pos c5];exact kid (by omega) (by omega) _
  rw [if_neg c5]
  by_cases c6:k=22
  ·rw [if_pos c6];exact kid (by omega) (by omega) _
  rw [if_neg c6]
  by_cases c7:k=23
  ·rw [if_pos c7];exact ⟨64,_,rfl,by decide,by decide⟩
  rw [if_neg c7]
  by_cases c8:k=24
  ·rw [if_pos c8];exact ⟨42,_,rfl,by decide,by decide⟩
  rw [if_neg c8]
  by_cases c9:k=18
  ·rw [if_pos c9];exact ⟨40,_,rfl,by decide,by decide⟩
  rw [if_neg c9]
  by_cases c10:k=19
  ·rw [if_pos c10];exact ⟨40,_,rfl,by decide,by decide⟩
  rw [if_neg c10]
  obtain ⟨kk,rfl⟩:∃kk:Nat,k=kk:=⟨k.toNat,by omega⟩
  have:=wd kk [] (by simp [nK];omega)
  rwa [List.append_nil] at this
theorem Ht {s:aj} {inner:Nat→cZ aA} {p:aA} (h:jh s inner p) {i:Nat} {r:List UInt8} (hh:Has s i (aG p 0) r) (hf:tH r) (hg:yh s (i+(aG p 0).length)):iZ inner s i=.ok (aB p,skip s (i+(aG p 0).length)):=by
 rw [h i r hh hf]
 have:=hh.size
 obtain ⟨f,hf⟩:∃f,s.size+1-(i+(aG p 0).length)=f+1:=⟨s.size-(i+(aG p 0).length),by omega⟩
 rw [hf];exact Xk (by omega) hg
theorem Xq {s:aj} {inner:Nat→cZ aA} {k:Int} {t nm:aj} {n:Int} {q:aA} (hk:k=21∨k=22) (hn:dS (.mk k t n nm [q])=0) (hq:jh s inner q):jh s inner (.mk k t n nm [q]):=by
 have hnm:bF nm=true:=(vI hn).2.1 (by show bn k;unfold bn;omega)
 obtain ⟨c,hc,hs⟩:∃c:UInt8,((c=46∧k=21)∨(c=36∧k=22))∧aG (.mk k t n nm [q]) 0=aG q 0++(32::c::32::nm.data.toList):=by
  rcases hk with rfl|rfl
  ·exact ⟨46,.inl ⟨rfl,rfl⟩,by rw [aG];simp only [qo];rfl⟩
  ·exact ⟨36,.inr ⟨rfl,rfl⟩,by rw [aG];simp only [qo];rfl⟩
 have hb:aB (.mk k t n nm [q])=.mk k E0 0 nm [aB q]:=by
  rw [aB,dD,dD,if_neg (by unfold aT;omega),if_neg (by unfold bD;omega),if_pos (by unfold bn;omega)]
 intro i r h hf
 rw [hs] at h
 rw [hs,hb,hq i _ h.split (tH.sp _)]
 have hnx:=h.next
 have hsz:=hnx.size
 obtain ⟨f,hfe⟩:∃f,s.size+1-(i+(aG q 0).length)=f+1:=⟨s.size-(i+(aG q 0).length),by omega⟩
 rw [hfe,aa7 hc hnm hnx hf.word,List.length_append]
 rw [←Nat.add_assoc]
 simp only [List.length_cons] at hsz⊢
 exact TY _ _ _ _ (by omega) (by omega) (by omega)
theorem Ub {s:aj} {inner:Nat→cZ aA} {t nm:aj} {n:Int} {q:aA} (hq:∀i r,Has s i (aG q 2) r→tH r→AQ s (i+(aG q 2).length)→inner i=.ok (aB q,skip s (i+(aG q 2).length))):jh s inner (.mk 20 t n nm [q]):=by
 have hs:aG (.mk 20 t n nm [q]) 0=fD 20++(40::(aG q 2++[41])):=by rw [aG];simp only [qo];rfl
 refine nM fun i r h hf=>?_
 rw [hs] at h⊢
 rw [AV (kk:=20) (by decide) h (Ua _),show ((20:Nat):Int)=(20:Int) from rfl]
 have h2:=h.next
 have h3:=h2.tail
 have h4:=h3.next
 have hst:AQ s (i+(fD 20).length+1+(aG q 2).length):=.inr (by rw [h4.skip (by decide),h4.peek];rfl)
 unfold lM
 rw [if_neg (by decide),if_neg (by decide),if_neg (by decide),if_pos (by decide)]
 unfold qp
 rw [uT 40 rfl (by decide) h2]
 dsimp only
 rw [hq _ _ h3.split (tH.br _) hst]
 dsimp only
 rw [h4.skip (by decide),uT 41 rfl (by decide) h4]
 have hb:aB (.mk 20 t n nm [q])=.mk 20 E0 0 E0 [aB q]:=by
  rw [aB,dD,dD,if_neg (by decide),if_neg (by decide),if_neg (by decide)]
 have e:i+(fD 20).length+1+(aG q 2).length+1=i+(fD 20++40::(aG q 2++[41])).length:=by simp;omega
 dsimp only
 rw [hb,e]
theorem Po {s:aj} {inner:Nat→cZ aA} {p:aA} (hs:aG p 0=40::(aG p 2++[41])) (hq:∀i r,Has s i (aG p 2) r→tH r→AQ s (i+(aG p 2).length)→inner i=.ok (aB p,skip s (i+(aG p 2).length))):jh s inner p:=by
 refine nM fun i r h hf=>?_
 rw [hs] at h⊢
 have h3:=h.tail
 have h4:=h3.next
 have hst:AQ s (i+1+(aG p 2).length):=.inr (by rw [h4.skip (by decide),h4.peek];rfl)
 have e:fH 40 s i=(true,i+1):=by unfold fH;rw [h.skip (by decide)];exact if_pos (by rw [h.peek];rfl)
 unfold lQ
 rw [e,if_pos rfl]
 dsimp only
 rw [hq _ _ h3.split (tH.br _) hst]
 dsimp only
 rw [h4.skip (by decide),uT 41 rfl (by decide) h4]
 have e:i+1+(aG p 2).length+1=i+(40::(aG p 2++[41])).length:=by simp;omega
 dsimp only
 rw [e]
theorem Dn {ps:List aA} {sep:List UInt8} {i:Nat} {r:List UInt8} (hsep:∃t,sep=32::t) (hf:tH r):tH (bH sep false ps i++r):=by
 obtain ⟨t,rfl⟩:=hsep
 cases ps with
 | nil=>simpa [bH] using hf
 | cons p ps=>rw [bH];exact tH.sp _
theorem Pq {s:aj} {inner:Nat→cZ aA}:∀(ps:List aA),(∀q∈ps,jh s inner q∧yJ q)→∀(l:List aA) (K k0 f:Nat) (r:List UInt8),Has s k0 (bH [32] false ps 0) r→tH r→yY s (k0+(bH [32] false ps 0).length)→
  skip s K=skip s k0→K≤s.size→s.size+1-K≤f→pG inner s f l K=.ok (tV 18 (l++dD ps),skip s (k0+(bH [32] false ps 0).length))
 | [],_,l,K,k0,f,r,h,hf,hst,hsk,hK,hff=>by
  obtain ⟨f,rfl⟩:∃f',f=f'+1:=⟨f-1,by omega⟩
  have e:k0+(bH [32] false [] 0).length=k0:=by simp [bH]
  rw [e] at hst⊢
  rw [pG,hsk,if_neg (by simp [hst.start]),dD,List.append_nil]
 | q::ps,hps,l,K,k0,f,r,h,hf,hst,hsk,hK,hff=>by
  obtain ⟨hq,hoq⟩:=hps q (by simp)
  obtain ⟨c,t,hc,hcs,hc32⟩:=EW _ q (Nat.le_refl _) hoq
  obtain ⟨f,rfl⟩:∃f',f=f'+1:=⟨f-1,by omega⟩
  have hj:bH [32] false (q::ps) 0=32::(aG q 0++bH [32] false ps 0):=by rw [bH];rfl
  rw [hj] at h hst⊢
  have h1:=h.tail
  have h2:=h1.split
  have h3:=h1.next
  have hc':=h2;rw [hc] at hc'
  have hcl:=hc'.peek
  have hk1:skip s k0=k0+1:=by rw [wF h.lt (by rw [h.byte];rfl),hc'.skip hc32]
  have Zo:=Dn (ps:=ps) (i:=0) ⟨[],rfl⟩ hf
  have hng:yh s (k0+1+(aG q 0).length):=by
   cases ps with
   | nil =>
    have:k0+(32::(aG q 0++bH [32] false [] 0)).length=k0+1+(aG q 0).length:=by simp [bH];omega
    rw [this] at hst;exact hst.adg
   | cons q2 ps =>
    obtain ⟨c2,t2,hc2,hs2,Zp⟩:=EW _ q2 (Nat.le_refl _) (hps q2 (by simp)).2
    have hx:bH [32] false (q2::ps) 0=32::c2::(t2++bH [32] false ps 0):=by rw [bH,hc2];rfl
    rw [hx] at h3
    unfold yh
    rw [h3.Fz Zp,h3.tail.peek]
    constructor<;>intro e<;>rw [e] at hs2<;>revert hs2<;>decide
  have hsz:=h3.size
  have hlen:1≤(aG q 0).length:=by rw [hc];simp
  have hkk:=kR s K
  have hge:=kR s (k0+1+(aG q 0).length)
  rw [pG,hsk,hk1,if_pos (by rw [hcl];exact hcs),Ht hq h2 Zo hng]
  dsimp only
  have ih:=Pq ps (fun q hq=>hps q (by simp [hq])) (l++[aB q]) (skip s (k0+1+(aG q 0).length)) (k0+1+(aG q 0).length) f r h3 hf (by
   have:k0+(32::(aG q 0++bH [32] false ps 0)).length=k0+1+(aG q 0).length+(bH [32] false ps 0).length:=by simp;omega
   rw [this] at hst;exact hst) (qU (by omega)) (dG (by omega)) (by omega)
  rw [ih]
  have e1:k0+1+(aG q 0).length+(bH [32] false ps 0).length=k0+(32::(aG q 0++bH [32] false ps 0)).length:=by simp;omega
  rw [e1,dD,List.append_assoc];rfl
end Go.Proofs.YtefjbnhpjdhjmaaGreatDoor

namespace Go.Proofs.YtefjbnhpjdhjmaaGreatDoor
set_option linter.all false
open Go.RowKit
theorem Ba {s:aj} {inner:Nat→cZ aA} {p:aA} (h:jh s inner p) (hs:aG p 1=aG p 0):tY s inner p:=by
 intro i r hh hf hst
 rw [hs] at hh hst⊢
 have hsz:=hh.size
 have hge:=kR s (i+(aG p 0).length)
 have hle:skip s (i+(aG p 0).length)≤s.size:=dG (by omega)
 rw [kJ,Ht h hh hf hst.adg]
 dsimp only
 obtain ⟨f,hfe⟩:∃f,s.size+1-skip s (i+(aG p 0).length)=f+1:=⟨s.size-skip s (i+(aG p 0).length),by omega⟩
 rw [hfe,pG,qU (by omega),if_neg (by simp [hst.start])]
 rfl
theorem Dp {s:aj} {inner:Nat→cZ aA} {p:aA} (h:tY s inner p) (hs:aG p 2=aG p 1):zl s inner p:=by
 intro i r hh hf hst
 rw [hs] at hh hst⊢
 have hsz:=hh.size
 have hge:=kR s (i+(aG p 1).length)
 have hle:skip s (i+(aG p 1).length)≤s.size:=dG (by omega)
 have hno:fH 124 s (skip s (i+(aG p 1).length))=(false,skip s (i+(aG p 1).length)):=by
  unfold fH;rw [qU (by omega)]
  exact if_neg (by rcases hst with h|h<;>rw [h]<;>decide)
 rw [lS,h i r hh hf hst.one]
 dsimp only
 obtain ⟨f,hfe⟩:∃f,s.size+1-skip s (i+(aG p 1).length)=f+1:=⟨s.size-skip s (i+(aG p 1).length),by omega⟩
 rw [hfe,pI,hno,if_neg (by simp)]
 rfl
theorem adI {s:aj} {inner:Nat→cZ aA} {t nm:aj} {n:Int} {kids:List aA} (h2:2≤kids.length) (hk:∀q∈kids,jh s inner q∧yJ q):tY s inner (.mk 18 t n nm kids):=by
 match kids,h2 with
 | q::q2::ps,_ =>
  obtain ⟨hq,hoq⟩:=hk q (by simp)
  intro i r hh hf hst
  have hs:aG (.mk 18 t n nm (q::q2::ps)) 1=aG q 0++bH [32] false (q2::ps) 0:=by rw [aG];show sW (decide (1<1)) _=_;rw [bH];rfl
  rw [hs] at hh hst⊢
  have h3:=hh.next
  obtain ⟨c2,t2,hc2,hs2,Zp⟩:=EW _ q2 (Nat.le_refl _) (hk q2 (by simp)).2
  have hng:yh s (i+(aG q 0).length):=by
   have hx:bH [32] false (q2::ps) 0=32::c2::(t2++bH [32] false ps 0):=by rw [bH,hc2];rfl
   rw [hx] at h3
   unfold yh
   rw [h3.Fz Zp,h3.tail.peek]
   constructor<;>intro e<;>rw [e] at hs2<;>revert hs2<;>decide
  have hsz:=h3.size
  have hge:=kR s (i+(aG q 0).length)
  have hle:skip s (i+(aG q 0).length)≤s.size:=dG (by omega)
  rw [kJ,Ht hq hh.split (Dn ⟨[],rfl⟩ hf) hng]
  dsimp only
  rw [Pq (q2::ps) (fun x hx=>hk x (by simp at hx⊢;right;exact hx)) [aB q] _ (i+(aG q 0).length) _ r h3 hf (by rw [List.length_append,←Nat.add_assoc] at hst;exact hst) (qU (by omega)) hle (Nat.le_refl _)]
  rw [List.length_append,←Nat.add_assoc]
  have hb:aB (.mk 18 t n nm (q::q2::ps))=.mk 18 E0 0 E0 (aB q::aB q2::dD ps):=by
   rw [aB,dD,dD,if_neg (by decide),if_neg (by decide),if_neg (by decide)]
  rw [hb,dD];rfl
theorem Pv {s:aj} {inner:Nat→cZ aA}:∀(ps:List aA),(∀q∈ps,tY s inner q)→∀(l:List aA) (K k0 f:Nat) (r:List UInt8),Has s k0 (bH [32,124,32] false ps 1) r→tH r→AQ s (k0+(bH [32,124,32] false ps 1).length)→
  skip s K=skip s k0→K≤s.size→s.size+1-K≤f→pI inner s f l K=.ok (tV 19 (l++dD ps),skip s (k0+(bH [32,124,32] false ps 1).length))
 | [],_,l,K,k0,f,r,h,hf,hst,hsk,hK,hff=>by
  obtain ⟨f,rfl⟩:∃f',f=f'+1:=⟨f-1,by omega⟩
  have e:k0+(bH [32,124,32] false [] 1).length=k0:=by simp [bH]
  rw [e] at hst⊢
  have hno:fH 124 s K=(false,skip s k0):=by unfold fH;rw [hsk];exact if_neg (by rcases hst with h|h<;>rw [h]<;>decide)
  rw [pI,hno,if_neg (by simp),dD,List.append_nil]
 | q::ps,hps,l,K,k0,f,r,h,hf,hst,hsk,hK,hff=>by
  have hq:=hps q (by simp)
  obtain ⟨f,rfl⟩:∃f',f=f'+1:=⟨f-1,by omega⟩
  have hj:bH [32,124,32] false (q::ps) 1=32::124::32::(aG q 1++bH [32,124,32] false ps 1):=by rw [bH];rfl
  rw [hj] at h hst⊢
  have h1:=h.tail.tail
  have h2:=h1.tail.split
  have h3:=h1.tail.next
  have hk1:skip s k0=k0+1:=h.Fz (by decide)
  have hyes:fH 124 s K=(true,k0+1+1):=by unfold fH;rw [hsk,hk1];exact if_pos (by rw [h.tail.peek];rfl)
  have hs2:skip s (k0+1+1)=skip s (k0+1+1+1):=wF h1.lt (by rw [h1.byte];rfl)
  have hsz:=h3.size
  have Zo:=Dn (ps:=ps) (i:=1) ⟨[124,32],rfl⟩ hf
  have hst1:yY s (k0+1+1+1+(aG q 1).length):=by
   cases ps with
   | nil =>
    have:k0+(32::124::32::(aG q 1++bH [32,124,32] false [] 1)).length=k0+1+1+1+(aG q 1).length:=by simp [bH];omega
    rw [this] at hst;exact hst.one
   | cons q2 ps =>
    have hx:bH [32,124,32] false (q2::ps) 1=32::124::32::(aG q2 1++bH [32,124,32] false ps 1):=by rw [bH];rfl
    rw [hx] at h3
    exact .inr (.inr (by rw [h3.Fz (by decide),h3.tail.peek];rfl))
  have hkk:=kR s K
  have hge:=kR s (k0+1+1+1+(aG q 1).length)
  have aeY:kJ inner s (k0+1+1)=kJ inner s (k0+1+1+1):=by rw [←Pn (i:=k0+1+1) (by omega),hs2,Pn (by omega)]
  rw [pI,hyes,if_pos rfl]
  dsimp only
  rw [aeY,hq _ _ h2 Zo hst1]
  dsimp only
  have ih:=Pv ps (fun q hq=>hps q (by simp [hq])) (l++[aB q]) (skip s (k0+1+1+1+(aG q 1).length)) (k0+1+1+1+(aG q 1).length) f r h3 hf (by
   have:k0+(32::124::32::(aG q 1++bH [32,124,32] false ps 1)).length=k0+1+1+1+(aG q 1).length+(bH [32,124,32] false ps 1).length:=by simp;omega
   rw [this] at hst;exact hst) (qU (by omega)) (dG (by omega)) (by omega)
  rw [ih]
  have e1:k0+1+1+1+(aG q 1).length+(bH [32,124,32] false ps 1).length=k0+(32::124::32::(aG q 1++bH [32,124,32] false ps 1)).length:=by simp;omega
  rw [e1,dD,List.append_assoc];rfl
theorem adJ {s:aj} {inner:Nat→cZ aA} {t nm:aj} {n:Int} {kids:List aA} (h2:2≤kids.length) (hk:∀q∈kids,tY s inner q):zl s inner (.mk 19 t n nm kids):=by
 match kids,h2 with
 | q::q2::ps,_ =>
  have hq:=hk q (by simp)
  intro i r hh hf hst
  have hs:aG (.mk 19 t n nm (q::q2::ps)) 2=aG q 1++bH [32,124,32] false (q2::ps) 1:=by rw [aG];show sW (decide (2<2)) _=_;rw [bH];rfl
  rw [hs] at hh hst⊢
  have h3:=hh.next
  have hst1:yY s (i+(aG q 1).length):=by
   have hx:bH [32,124,32] false (q2::ps) 1=32::124::32::(aG q2 1++bH [32,124,32] false ps 1):=by rw [bH];rfl
   rw [hx] at h3
   exact .inr (.inr (by rw [h3.Fz (by decide),h3.tail.peek];rfl))
  have hsz:=h3.size
  have hge:=kR s (i+(aG q 1).length)
  have hle:skip s (i+(aG q 1).length)≤s.size:=dG (by omega)
  rw [lS,hq _ _ hh.split (Dn ⟨[124,32],rfl⟩ hf) hst1]
  dsimp only
  rw [Pv (q2::ps) (fun x hx=>hk x (by simp at hx⊢;right;exact hx)) [aB q] _ (i+(aG q 1).length) _ r h3 hf (by rw [List.length_append,←Nat.add_assoc] at hst;exact hst) (qU (by omega)) hle (Nat.le_refl _)]
  rw [List.length_append,←Nat.add_assoc]
  have hb:aB (.mk 19 t n nm (q::q2::ps))=.mk 19 E0 0 E0 (aB q::aB q2::dD ps):=by
   rw [aB,dD,dD,if_neg (by decide),if_neg (by decide),if_neg (by decide)]
  rw [hb,dD];rfl
end Go.Proofs.YtefjbnhpjdhjmaaGreatDoor

namespace Go.Proofs.YtefjbnhpjdhjmaaGreatDoor
set_option linter.all false
open Go.RowKit
theorem Px:∀{l:List aA} {q:aA},q∈l→sizeT q≤aS l
 | p::r,q,h=>by
  rw [aS]
  rcases List.mem_cons.1 h with rfl|h
  ·omega
  ·have:=Px h;omega
theorem Md:∀{l:List aA} {q:aA},q∈l→eP q≤iq l
 | p::r,q,h=>by
  rw [iq]
  rcases List.mem_cons.1 h with rfl|h
  ·omega
  ·have:=Md h;omega
theorem yK.mem:∀{l:List aA} {q:aA},yK l→q∈l→yJ q
 | p::r,q,hk,h=>by
  rcases List.mem_cons.1 h with rfl|h
  ·exact hk.head
  ·exact yK.mem hk.tail h
theorem Hu {k:Int} {t nm:aj} {n:Int} {kids:List aA} (h18:¬k=18) (h19:¬k=19) (i j:Nat):aG (.mk k t n nm kids) i=aG (.mk k t n nm kids) j:=by
 rw [aG,aG];simp only [if_neg h18,if_neg h19]
theorem Zq {t nm:aj} {n:Int} {kids:List aA}:aG (.mk 18 t n nm kids) 0=40::(aG (.mk 18 t n nm kids) 2++[41]):=by
 rw [aG,aG];rfl
theorem Py {t nm:aj} {n:Int} {kids:List aA}:aG (.mk 18 t n nm kids) 2=aG (.mk 18 t n nm kids) 1:=by
 rw [aG,aG];rfl
theorem Zr {t nm:aj} {n:Int} {kids:List aA}:aG (.mk 19 t n nm kids) 0=40::(aG (.mk 19 t n nm kids) 2++[41]):=by
 rw [aG,aG];rfl
theorem Zt {t nm:aj} {n:Int} {kids:List aA}:aG (.mk 19 t n nm kids) 1=aG (.mk 19 t n nm kids) 0:=by
 rw [aG,aG];rfl
theorem adl (s:aj):∀(N:Nat) (p:aA),sizeT p≤N→yJ p→∀m,eP p≤m+1→jh s (eY s m) p∧tY s (eY s m) p∧zl s (eY s m) p:=by
 intro N
 induction N with
 | zero=>intro p h;have:=lW p;omega
 | succ N ih =>
  intro p hN hok m hd
  obtain ⟨k,t,n,nm,kids⟩:=p
  have hn:=hok.self
  obtain ⟨⟨h1,h24⟩,_,_,_,hk1⟩:=jD hn
  have hmore:=vI hn
  rw [VG,aA.aU] at hd
  have Uc:∀q∈kids,∀m',eP q≤m'+1→jh s (eY s m') q∧tY s (eY s m') q∧zl s (eY s m') q:=fun q hq m' h =>
   ih q (by have:=Px hq;simp only [sizeT] at hN;omega) (hok.kids.mem hq) m' h
  have kd:∀q∈kids,eP q≤m∧1≤eP q:=fun q hq=>⟨by have:=Md hq;omega,yM q⟩
  have fin:¬k=18→¬k=19→jh s (eY s m) (.mk k t n nm kids)→jh s (eY s m) (.mk k t n nm kids)∧tY s (eY s m) (.mk k t n nm kids)∧zl s (eY s m) (.mk k t n nm kids):=fun a b h =>
   ⟨h,Ba h (Hu a b _ _),Dp (Ba h (Hu a b _ _)) (Hu a b _ _)⟩
  have hal:∀m' i,eY s (m'+1) i=lS (eY s m') s i:=fun m' i=>by rw [eY]
  by_cases c1:k=1
  ·subst c1;exact fin (by decide) (by decide) (Zm hn)
  by_cases c2:aT k
  ·unfold aT at c2
   obtain ⟨kk,rfl⟩:∃kk:Nat,k=kk:=⟨k.toNat,by omega⟩
   exact fin (by omega) (by omega) (Xo (by omega) hn)
  by_cases c3:bD k
  ·unfold bD at c3
   obtain ⟨kk,rfl⟩:∃kk:Nat,k=kk:=⟨k.toNat,by omega⟩
   exact fin (by omega) (by omega) (Zn (by omega) hn)
  unfold aT at c2;unfold bD at c3
  by_cases c4:k=23∨k=24
  ·exact fin (by omega) (by omega) (Xn c4 hn)
  by_cases c5:12≤k∧k≤17
  ·obtain ⟨kk,rfl⟩:∃kk:Nat,k=kk:=⟨k.toNat,by omega⟩
   exact fin (by omega) (by omega) (Xp (by omega) hn)
  by_cases c6:20≤k∧k≤22
  ·obtain ⟨q,rfl⟩:=List.length_eq_one_iff.1 (hk1 c6)
   have hkd:=kd q (by simp)
   by_cases c7:k=20
   ·subst c7
    obtain ⟨m',rfl⟩:∃m',m=m'+1:=⟨m-1,by omega⟩
    refine fin (by decide) (by decide) (Ub fun i r h hf hst=>?_)
    rw [hal];exact (Uc q (by simp) m' (by omega)).2.2 i r h hf hst
   ·exact fin (by omega) (by omega) (Xq (by omega) hn (Uc q (by simp) m (by omega)).1)
  have h2:k=18∨k=19:=by omega
  have hlen:2≤kids.length:=by
   have:=hmore.2.2.1
   have e:jT (aA.mk k t n nm kids).kind=2:=by show jT k=2;unfold jT;rw [if_pos h2]
   rw [e] at this;simpa using this
  obtain ⟨q0,hq0⟩:∃q,q∈kids:=⟨kids[0],List.getElem_mem _⟩
  obtain ⟨m',rfl⟩:∃m',m=m'+1:=⟨m-1,by have:=kd q0 hq0;omega⟩
  rcases h2 with rfl|rfl
  ·have hA:∀x,(∀q∈kids,eP q≤x+1)→tY s (eY s x) (.mk 18 t n nm kids):=fun x hx=>adI hlen fun q hq=>⟨(Uc q hq x (hx q hq)).1,hok.kids.mem hq⟩
   have hC:=hA (m'+1) (fun q hq=>by have:=kd q hq;omega)
   have hC':=hA m' (fun q hq=>(kd q hq).1)
   exact ⟨Po Zq fun i r h hf hst=>by rw [hal];exact Dp hC' Py i r h hf hst,hC,Dp hC Py⟩
  ·have hA:∀x,(∀q∈kids,eP q≤x+1)→zl s (eY s x) (.mk 19 t n nm kids):=fun x hx=>adJ hlen fun q hq=>(Uc q hq x (hx q hq)).2.1
   have hC:=hA (m'+1) (fun q hq=>by have:=kd q hq;omega)
   have hC':=hA m' (fun q hq=>(kd q hq).1)
   have hI:jh s (eY s (m'+1)) (.mk 19 t n nm kids):=Po Zr fun i r h hf hst=>by rw [hal];exact hC' i r h hf hst
   exact ⟨hI,Ba hI Zt,hC⟩
theorem Pz (p:aA) (hok:yJ p) (hf:fits p) (hl:(aG p 2).length≤65536):mV ⟨(aG p 2).toArray⟩=.ok (aB p):=by
 obtain ⟨s,hs⟩:∃s:aj,s=⟨(aG p 2).toArray⟩:=⟨_,rfl⟩
 have hsz:s.size=(aG p 2).length:=by rw [hs];show (aG p 2).toArray.size=_;rw [List.size_toArray]
 have hh:Has s 0 (aG p 2) []:=⟨by rw [hs];simp,Nat.zero_le _⟩
 have hend:skip s (0+(aG p 2).length)=s.size:=by rw [Nat.zero_add,←hsz];exact CU (Nat.le_refl _)
 have hpe:peek s s.size = -1:=by unfold peek;rw [dif_neg (by omega)]
 have hr:=(adl s _ p (Nat.le_refl _) hok 200 (by have:=hf.2;omega)).2.2 0 [] hh (fun c t e=>by cases e) (.inl (by rw [hend,hpe]))
 rw [←hs]
 unfold mV
 rw [if_neg (by omega),hr,hend]
 dsimp only
 rw [CU (Nat.le_refl _),hpe,if_neg (by decide),if_pos (by unfold fits;rw [Mc,Jt];exact hf)]
end Go.Proofs.YtefjbnhpjdhjmaaGreatDoor

namespace Go.Proofs.YtefjbnhpjdhjmaaGreatDoor
set_option linter.all false
open Go.RowKit
theorem UL (N T W:Nat) (S:Nat→Prop):∀(m:Nat) (p:aA) (b o i:Nat) (l:List UInt8) (w:World),sizeT p≤m→yJ p→pY N T W S b o p l w→i≤2→l.length+(aG p i).length≤big→nJ N T W S b o i p l w:=by
 intro m
 induction m with
 | zero=>intro p b o i l w hm;have:=lW p;omega
 | succ m ih =>
  intro p b o i l w hm hok h hi hl
  obtain ⟨k,t,n,nm,kids⟩:=p
  have hn:=hok.self
  have hkl:kids.length<1000000000:=by have:=h.pat.open.2.1.2.2;simpa using this
  obtain ⟨⟨h1,h24⟩,_⟩:=jD hn
  have hih:EG N T W S kids:=fun j hj b o i l w h hi hl=>ih kids[j] b o i l w (by have:=ng kids j hj;simp only [sizeT] at hm;omega) (hok.kids.get j hj) h hi hl
  by_cases c1:k=1
  ·exact WH N T W S b o i k t n nm kids l w h hn hl c1
  by_cases c2:aT k
  ·exact TD N T W S b o i k t n nm kids l w h hn hl c2
  by_cases c3:bD k
  ·exact WI N T W S b o i k t n nm kids l w h hn hl c3
  by_cases c4:k=23∨k=24
  ·exact TF N T W S b o i k t n nm kids l w h hn hl c4
  by_cases c5:k=12∨k=13∨k=14∨k=15∨k=16∨k=17
  ·exact TG N T W S b o i k t n nm kids l w h hn hl c5
  by_cases c6:k=20
  ·subst c6;exact Qg N T W S b o i t n nm kids l w h hn hl hih
  by_cases c7:k=21
  ·subst c7;exact TI N T W S b o i t n nm kids l w h hn hl hih
  by_cases c8:k=22
  ·subst c8;exact WJ N T W S b o i t n nm kids l w h hn hl hih
  by_cases c9:k=18
  ·subst c9
   by_cases hp:i<1
   ·exact TJ N T W S b o i t n nm kids l w h hp hkl hl hih
   ·exact WL N T W S b o i t n nm kids l w h hp hkl hl hih
  by_cases c10:k=19
  ·subst c10
   by_cases hp:i<2
   ·exact TL N T W S b o i t n nm kids l w h hp hkl hl hih
   ·exact WM N T W S b o i t n nm kids l w h hp hkl hl hih
  ·unfold aT bD at *;omega
def fQ (p:aA):List UInt8×Int:=if bW p≠0 then ([],bW p) else if 65536<(aG p 2).length then ([],4) else (aG p 2,0)
def UH (p:aA) (w:World) (e:Ending) (w':World):Prop:=e=.returned (.tuple #[.string ⟨(fQ p).1.toArray⟩,.int .i64 (fQ p).2])∧Kept aC w w'
theorem Gf:∀(l:List aA),zH l=0→∀x∈l,dS x=0
 | [],_,x,hx=>by simp at hx
 | p::r,h,x,hx=>by
  rw [zH] at h
  by_cases hp:dS p=0
  ·rcases List.mem_cons.1 hx with rfl|hx
   ·exact hp
   ·rw [if_pos hp] at h;exact Gf r h x hx
  ·rw [if_neg hp] at h;exact absurd h hp
theorem BR {p:aA} (h:bW p=0):yJ p∧sizeT p≤4096:=by
 rw [Ku] at h
 by_cases hf:fits p
 ·rw [if_pos hf] at h
  exact ⟨Gf _ h,hf.1⟩
 ·rw [if_neg hf] at h;cases h
end Go.Proofs.YtefjbnhpjdhjmaaGreatDoor

namespace Go.Proofs.YtefjbnhpjdhjmaaGreatDoor
set_option linter.all false
open Go.RowKit
def dA (l:List aj):List UInt8:=Lib.join (l.map (·.data.toList)) [44]
def lu:Bool→List aj→List UInt8
 | _,[]=>[]
 | first,x::r=>(if first then [] else [44])++(x.data.toList++lu false r)
theorem Ky:∀l:List aj,lu true l=dA l:=by
 have key:∀(l:List aj) (x:aj),x.data.toList++lu false l=Lib.join ((x::l).map (·.data.toList)) [44]:=by
  intro l
  induction l with
  | nil=>intro x;simp [lu,Lib.join,List.intercalate]
  | cons y r ih =>
   intro x
   have h:=ih y
   rw [lu]
   simp only [Bool.false_eq_true,if_false]
   rw [h]
   simp [Lib.join,List.intercalate]
 intro l
 cases l with
 | nil=>simp [lu,dA,Lib.join,List.intercalate]
 | cons x r=>rw [lu];simp only [if_true,List.nil_append];exact key r x
theorem Ie:∀(f:Bool) (l:List aj),(∀x∈l,x.size≤16)→(lu f l).length≤17*l.length
 | f,[],_=>by simp [lu]
 | f,x::r,h=>by
  have h1:=Ie false r fun y hy=>h y (List.mem_cons_of_mem _ hy)
  have h2:=h x (List.mem_cons_self ..)
  have e:x.data.toList.length=x.size:=rfl
  rw [lu]
  simp only [List.length_append,List.length_cons]
  split
  ·simp only [List.length_nil];omega
  ·simp only [List.length_cons,List.length_nil];omega
def jI (s:aN) (pat:List UInt8):List UInt8 :=
 if s.kind=2 then 32::aP s.value 1
 else if s.kind=3 then 32::(aP s.target 1++([32,61,32]++aP s.value 1))
 else if s.kind=4 then 32::(aP s.value 1++([32,63,32]++pat))
 else if s.kind=5 then 32::(aP s.target 1++([32,63,32]++(pat++([32,61,32]++aP s.value 1))))
 else if s.kind=6 then 32::(s.name.data.toList++([32,58,61,32]++pat))
 else if s.kind=7 then [32,68,69,70,73,78,69,32]++(s.name.data.toList++(40::(dA s.params++(41::(dA s.locals++(32::s.entry.data.toList))))))
 else []
def qW (s:aN):List UInt8 :=
 if s.always.size≠0 then [32,58,40]++(s.always.data.toList++[41])
 else if s.yes.size≠0∨s.aZ.size≠0 then
  [32,58]++((if s.yes.size≠0 then [83,40]++(s.yes.data.toList++[41]) else [])++(if s.aZ.size≠0 then [70,40]++(s.aZ.data.toList++[41]) else []))
 else []
def eG (s:aN):Prop:=s.kind=4∨s.kind=5∨s.kind=6
instance (s:aN):Decidable (eG s):=by unfold eG;exact inferInstance
def iE (s:aN):List UInt8:=if eG s then 91::((fQ s.pat).1++[93]) else []
def lineS (s:aN):List UInt8:=s.label.data.toList++(jI s (iE s)++qW s)
def fE (s:aN):List UInt8×Int :=
 if lC s≠0 then ([],lC s)
 else if eG s∧(fQ s.pat).2≠0 then ([],(fQ s.pat).2)
 else if (10:UInt8)∈lineS s then ([],2)
 else if 2000<(lineS s).length then ([],4)
 else (lineS s,0)
def aay (s:aN) (w:World) (e:Ending) (w':World):Prop:=e=.returned (.tuple #[.string ⟨(fE s).1.toArray⟩,.int .i64 (fE s).2])∧Kept aC w w'
structure UA (s:aN):Prop where
 label:s.label.size≤16
 always:s.always.size≤16
 yes:s.yes.size≤16
 aZ:s.aZ.size≤16
 fit:s.always.size=0∨(s.yes.size=0∧s.aZ.size=0)
 kind:1≤s.kind∧s.kind≤7
 target:s.kind=3∨s.kind=5→bC s.target=0
 value:s.kind=2∨s.kind=3∨s.kind=4∨s.kind=5→bC s.value=0
 name:s.kind=6∨s.kind=7→s.name.size≤16
 entry:s.kind=7→s.entry.size≤16
 params:s.kind=7→s.params.length≤8∧∀x∈s.params,x.size≤16
 locals:s.kind=7→s.locals.length≤8∧∀x∈s.locals,x.size≤16
theorem jJ {x:aj} (h:nY x=true):x.size≤16:=by
 unfold nY at h
 rw [Bool.or_eq_true,decide_eq_true_eq] at h
 rcases h with h|h
 ·omega
 ·exact jC h
theorem kT:∀{l:List Int},fZ l=0→∀e∈l,e=0
 | [],_,e,he=>by cases he
 | x::r,h,e,he=>by
  rw [fZ] at h
  by_cases hx:x=0
  ·rw [if_pos hx] at h
   rcases List.mem_cons.1 he with rfl|he
   ·exact hx
   ·exact kT h e he
  ·rw [if_neg hx] at h;exact absurd h hx
theorem rQ:∀{l:List aj},aO l=0→∀x∈l,x.size≤16
 | [],_,x,hx=>by cases hx
 | y::r,h,x,hx=>by
  rw [aO] at h
  by_cases hy:bF y=true
  ·rw [if_pos hy] at h
   rcases List.mem_cons.1 hx with rfl|hx
   ·exact jC hy
   ·exact rQ h x hx
  ·rw [if_neg hy] at h;cases h
theorem XV {s:aN} (h:lC s=0):UA s:=by
 unfold lC at h
 by_cases h1:¬(nY s.label=true∧nY s.always=true∧nY s.yes=true∧nY s.aZ=true)
 ·rw [if_pos h1] at h;cases h
 rw [if_neg h1] at h
 obtain ⟨a1,a2,a3,a4⟩:=Classical.not_not.1 h1
 by_cases h2:s.always.size≠0∧(s.yes.size≠0∨s.aZ.size≠0)
 ·rw [if_pos h2] at h;cases h
 rw [if_neg h2] at h
 have hfit:s.always.size=0∨(s.yes.size=0∧s.aZ.size=0):=by omega
 by_cases k1:s.kind=1
 ·exact ⟨jJ a1,jJ a2,jJ a3,jJ a4,hfit,by omega,by omega,by omega,by omega,by omega,by omega,by omega⟩
 rw [if_neg k1] at h
 by_cases k2:s.kind=2
 ·rw [if_pos k2] at h
  exact ⟨jJ a1,jJ a2,jJ a3,jJ a4,hfit,by omega,by omega,fun _=>h,by omega,by omega,by omega,by omega⟩
 rw [if_neg k2] at h
 by_cases k4:s.kind=4
 ·rw [if_pos k4] at h
  have hz:=kT h
  exact ⟨jJ a1,jJ a2,jJ a3,jJ a4,hfit,by omega,by omega,fun _=>hz _ (by simp),by omega,by omega,by omega,by omega⟩
 rw [if_neg k4] at h
 by_cases k3:s.kind=3
 ·rw [if_pos k3] at h
  have hz:=kT h
  exact ⟨jJ a1,jJ a2,jJ a3,jJ a4,hfit,by omega,fun _=>hz _ (by simp),fun _=>hz _ (by simp),by omega,by omega,by omega,by omega⟩
 rw [if_neg k3] at h
 by_cases k5:s.kind=5
 ·rw [if_pos k5] at h
  have hz:=kT h
  exact ⟨jJ a1,jJ a2,jJ a3,jJ a4,hfit,by omega,fun _=>hz _ (by simp),fun _=>hz _ (by simp),by omega,by omega,by omega,by omega⟩
 rw [if_neg k5] at h
 by_cases k6:s.kind=6
 ·rw [if_pos k6] at h
  have hz:=kT h
  exact ⟨jJ a1,jJ a2,jJ a3,jJ a4,hfit,by omega,by omega,by omega,fun _=>rQ (hz (aO [s.name]) (by simp)) _ (by simp),by omega,by omega,by omega⟩
 rw [if_neg k6] at h
 by_cases k7:s.kind=7
 ·rw [if_pos k7] at h
  have hz:=kT h
  have h8:¬(8<s.params.length∨8<s.locals.length):=by
   intro hx
   have:=hz (if 8<s.params.length∨8<s.locals.length then 5 else 0) (by simp)
   rw [if_pos hx] at this;cases this
  exact ⟨jJ a1,jJ a2,jJ a3,jJ a4,hfit,by omega,by omega,by omega,fun _=>rQ (hz (aO [s.name]) (by simp)) _ (by simp),fun _=>rQ (hz (aO [s.entry]) (by simp)) _ (by simp),fun _=>⟨by omega,rQ (hz (aO s.params) (by simp))⟩,fun _=>⟨by omega,rQ (hz (aO s.locals) (by simp))⟩⟩
 ·rw [if_neg k7] at h;cases h
theorem tN {p:aA} (h:bC p=0) (hn:vS p):lI p∧sizeT p≤4096:=by
 unfold bC at h
 by_cases hf:fits p
 ·rw [if_pos hf] at h;exact ⟨⟨h,hn⟩,hf.1⟩
 ·rw [if_neg hf] at h;cases h
end Go.Proofs.YtefjbnhpjdhjmaaGreatDoor

namespace Go.Proofs.YtefjbnhpjdhjmaaGreatDoor
set_option linter.all false
open Go.RowKit
set_option maxRecDepth 100000
set_option maxHeartbeats 4000000
theorem Kz (p:aA) (v:Value) (w:World) (hp:gV w (· < w.heap.size) v p) (hok:lI p) (hsz:sizeT p≤4096) (hg:Glob w) (hgl:0<w.heap.size∧1<w.heap.size) :
  Calls Tryz.prog 15 #[v] w (zI (aP p 1) w):=by
 obtain ⟨c,rfl,hb⟩:=hp.box 24 (fun b hb=>hb)
 obtain ⟨ka,cap,hv,hz,hk⟩:=hp
 simp only [Value.agg.injEq] at hv
 subst hv
 have kA:Kept aC w (w.alloc (.cells #[.int .i64 p.kind,.string p.text,.int .i64 p.n,.string p.name,.slice ka p.kids.length cap] 24)):=(Kept.refl _ _).alloc _
 obtain ⟨w1,hw1⟩:∃w1,w1=(w.alloc (.cells #[.int .i64 p.kind,.string p.text,.int .i64 p.n,.string p.name,.slice ka p.kids.length cap] 24)):=⟨_,rfl⟩
 rw [←hw1] at hb kA
 have hs1:w1.heap.size=w.heap.size+1:=by rw [hw1];simp
 have hb':dH w1 (· < w1.heap.size) w.heap.size 0 p:=dH.same (fun _ _=>rfl) (fun b hb=>by rcases hb with hb|rfl<;>omega) _ _ _ hb
 obtain ⟨w2,hw2⟩:∃w2,w2=w1.alloc (.cells #[.pointer none,.slice none 0 0] 77):=⟨_,rfl⟩
 have k2:Kept aC w1 w2:=by rw [hw2];exact (Kept.refl aC w1).alloc _
 have hs2:w2.heap.size=w1.heap.size+1:=by rw [hw2];simp
 have hlen:=Bv p 1 hok
 have SP:Hid (sG w1.heap.size w1.heap.size (· < w1.heap.size) w.heap.size 0 p [] w2):=by
  refine ⟨.inl ⟨Nat.le_refl _,.slice none 0 0,?_,⟨rfl,.inl ⟨rfl,rfl⟩⟩,by simp [Value.ownBlock]⟩,hg.below (kA.trans k2).below hgl,by omega,hb'.kept k2 (fun b hb=>⟨hb,fun h=>h⟩),fun y hy=>hy,Nat.le_refl _,by omega⟩
  rw [hw2];exact ay w1 _
 have HW1:=ah hw1;have HW2:=ah hw2;have Em:=ah (kA.trans k2)
 have HX:Hid (Calls Tryz.prog 38 #[.pointer (some ⟨w1.heap.size,0,none⟩),.pointer (some ⟨w.heap.size,0,none⟩),.int .i64 1] w2 (Oj w1.heap.size w1.heap.size (aP p 1) w2)):=by
  have h:=aaG w1.heap.size w1.heap.size _ 4096 p w.heap.size 0 1 [] w2 hsz hok SP.out (by omega) (by unfold big;simp only [List.length_nil];omega)
  unfold oQ at h
  rw [List.nil_append] at h
  exact h
 clear hb hb' hk hz hg hw1 hw2 k2 kA hok
 go_enter Tryz.func15, Tryz.ntmps15
 go_upto_region 1 with fail
 rw [←HW1.out]
 go_upto_region 2 with fail
 rw [←HW2.out]
 go_wp2_with fail
 rw [←hs1]
 refine HX.out.mono ?_
 rintro e w5 ⟨rfl,B5,K5⟩
 have hs5:=Kept.size K5
 have ZE:Hid (Kept aC w w5):=Em.out.step K5 (fun y hy=>.inr (by rcases hy with rfl|⟨h,_⟩<;>omega))
 have H5:=ah B5
 clear B5 K5
 go_wp2_with fail
 rw [←hs1]
 refine (Tryz.Builder_String_any_f w1.heap.size w1.heap.size (aP p 1) w5 H5.out (by omega)).mono ?_
 rintro e w6 ⟨rfl,_,hb6⟩
 have Ns:Hid (Kept aC w w6):=ZE.out.step (Y:=fun y=>w1.heap.size≤y) ⟨hb6.os,hb6.tape,hb6.output,hb6.size,fun k hk hy=>hb6.block k (by omega)⟩ (fun y hy=>.inr (by omega))
 clear hb6
 go_wp2_with fail
 go_ret
 exact ⟨rfl,Ns.out⟩
end Go.Proofs.YtefjbnhpjdhjmaaGreatDoor

namespace Go.Proofs.YtefjbnhpjdhjmaaGreatDoor
set_option linter.all false
open Go.RowKit
def ZA (w:World) (S:Nat→Prop) (v:Value) (l:List aj):Prop :=
 ∃a cap,v=.slice a l.length cap∧(0<l.length→∃b o,a=some ⟨b,o,none⟩∧S b∧∀i (h:i<l.length),w.cell? ⟨b,o+i,none⟩=some (.string l[i]))
end Go.Proofs.YtefjbnhpjdhjmaaGreatDoor

namespace Go.Proofs.YtefjbnhpjdhjmaaGreatDoor
set_option linter.all false
open Go.RowKit
theorem toList_inj {a b:aj} (h:a.toList=b.toList):a=b:=by
 rw [ByteArray.toList_eq,ByteArray.toList_eq] at h
 cases a;cases b;simpa using h
theorem Sl {a b:aj} (h:¬a=b):(a.toList==b.toList)=false:=by
 rw [Bool.eq_false_iff];intro e;exact h (toList_inj (by simpa using e))
theorem VD {a b:aj} (h:a=b):(a.toList==b.toList)=true:=by subst h;simp
end Go.Proofs.YtefjbnhpjdhjmaaGreatDoor
