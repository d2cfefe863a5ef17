/-  -/
import Derived.Test.YtefjbnhpjdhjmaaGreatDoorTm19
import Derived.Test.YtefjbnhpjdhjmaaGreatDoorTm5
import Derived.Test.YtefjbnhpjdhjmaaGreatDoorSpell7
import Derived.Test.YtefjbnhpjdhjmaaGreatDoorSpell3
import Derived.Test.YtefjbnhpjdhjmaaGreatDoorTm18
import Derived.Test.YtefjbnhpjdhjmaaGreatDoorTm6
import Derived.Test.YtefjbnhpjdhjmaaGreatDoorTm3
import Derived.Test.YtefjbnhpjdhjmaaGreatDoorTm9
import Derived.Test.YtefjbnhpjdhjmaaGreatDoorTm13
namespace Go.Proofs.YtefjbnhpjdhjmaaGreatDoor
set_option linter.all false
open Go.RowKit
mutual
def aB:aA→aA
 | .mk k t n nm kids=>.mk k (if k=1∨aT k then t else E0) (if bD k then n else 0) (if bf k then nm else E0) (dw kids)
def dw:List aA→List aA
 | []=>[]
 | p::r=>aB p::dw r
end
theorem mD:∀l:List aA,(dw l).length=l.length
 | []=>rfl
 | p::r=>by rw [dw,List.length_cons,mD r,List.length_cons]
mutual
theorem EZ:∀p:aA,sizeT (aB p)=sizeT p
 | .mk k t n nm kids=>by rw [aB,sizeT,sizeT,JG kids]
theorem JG:∀l:List aA,aO (dw l)=aO l
 | []=>rfl
 | p::r=>by rw [dw,aO,aO,EZ p,JG r]
end
mutual
theorem JH:∀p:aA,fA (aB p)=fA p
 | .mk k t n nm kids=>by rw [aB,fA,fA,GH kids]
theorem GH:∀l:List aA,iy (dw l)=iy l
 | []=>rfl
 | p::r=>by rw [dw,iy,iy,JH p,GH r]
end
theorem qM {s:aj} {i:Nat} (hi:i≤s.size):skip s (skip s i)=skip s i:=by
 by_cases h:skip s i<s.size
 ·refine Ez h ?_
  intro hb
  have h2:=hb
  have key:∀(l:List UInt8),∀c t,l.drop (l.takeWhile fun c=>c==(32:UInt8)).length=c::t→c≠32:=by
   intro l
   induction l with
   | nil=>intro c t h;simp at h
   | cons a l ih =>
    intro c t h
    rw [List.takeWhile_cons] at h
    split at h
    ·exact ih c t (by simpa using h)
    ·rename_i ha
     simp at h
     intro e;subst e;rw [h.1] at ha;simp at ha
  have hd:=drop_cons h
  have:s.data.toList.drop (skip s i)=(s.data.toList.drop i).drop ((s.data.toList.drop i).takeWhile fun c=>c==(32:UInt8)).length:=by
   rw [List.drop_drop];unfold skip;rfl
  rw [this] at hd
  exact key _ _ _ hd (UInt8.toNat_inj.1 (by simpa using hb))
 ·exact CS (by omega)
def sV (r:List UInt8):Prop:=∀c t,r=c::t→c=32∨c=41
theorem sV.word {r:List UInt8} (h:sV r):mW gu r:=fun c t e=>by rcases h c t e with rfl|rfl<;>decide
theorem sV.quote {r:List UInt8} (h:sV r):mW (fun c=>c==39) r:=fun c t e=>by rcases h c t e with rfl|rfl<;>decide
theorem sV.sp (r:List UInt8):sV (32::r):=fun c t e=>.inl (List.cons.inj e).1.symm
theorem sV.br (r:List UInt8):sV (41::r):=fun c t e=>.inr (List.cons.inj e).1.symm
def xY (s:aj) (k:Nat):Prop:=peek s (skip s k)≠46∧peek s (skip s k)≠36
def yO (s:aj) (k:Nat):Prop:=peek s (skip s k) = -1∨peek s (skip s k)=41∨peek s (skip s k)=124
def Az (s:aj) (k:Nat):Prop:=peek s (skip s k) = -1∨peek s (skip s k)=41
theorem Az.one {s:aj} {k:Nat} (h:Az s k):yO s k:=h.elim .inl fun h=>.inr (.inl h)
theorem yO.ad4 {s:aj} {k:Nat} (h:yO s k):xY s k:=by unfold xY;rcases h with h|h|h<;>rw [h]<;>decide
theorem yO.start {s:aj} {k:Nat} (h:yO s k):starts (peek s (skip s k))=false:=by rcases h with h|h|h<;>rw [h]<;>decide
theorem UQ {s:aj}:∀(f g:Nat) (p:aA) (k:Nat),k≤s.size→s.size+1-k≤f→s.size+1-k≤g→iK s f p k=iK s g p k:=by
 intro f
 induction f with
 | zero=>intro g p k hk hf;omega
 | succ f ih =>
  intro g p k hk hf hg
  obtain ⟨g,rfl⟩:∃g',g=g'+1:=⟨g-1,by omega⟩
  rw [iK,iK]
  have ad5:=kY (c:=46) hk
  have afx:=kY (c:=36) ad5.1
  split
  ·cases hn:nameP s (fG 46 s k).2 with
   | error e=>rfl
   | ok y =>
    obtain ⟨nm,k1⟩:=y
    have:=qo ad5.1 hn
    exact ih g _ k1 this.2 (by omega) (by omega)
  ·split
   ·cases hn:nameP s (fG 36 s (fG 46 s k).2).2 with
    | error e=>rfl
    | ok y =>
     obtain ⟨nm,k1⟩:=y
     have:=qo afx.1 hn
     exact ih g _ k1 this.2 (by omega) (by omega)
   ·rfl
theorem XR {s:aj} {f k:Nat} {p:aA} (hk:k≤s.size) (h:xY s k):iK s (f+1) p k=.ok (p,skip s k):=by
 have e:fG 46 s k=(false,skip s k):=if_neg h.1
 have e2:fG 36 s (skip s k)=(false,skip s k):=by unfold fG;rw [qM hk];exact if_neg h.2
 rw [iK,e,if_neg (by simp)]
 dsimp only
 rw [e2,if_neg (by simp)]
theorem abS {s:aj} {k:Nat} {nm:aj} {r:List UInt8} (hn:aS nm=true) (h:Has s k (32::nm.data.toList) r) (hr:mW gu r):nameP s k=.ok (nm,k+1+nm.data.toList.length):=by
 have h1:=Fe hn h.tail hr
 have hsk:skip s k=skip s (k+1):=wH h.lt (by rw [h.byte];rfl)
 have hw:gK s k=gK s (k+1):=by unfold gK;rw [hsk]
 unfold nameP at h1⊢
 rw [hw];exact h1
theorem abT {s:aj} {f k:Nat} {p:aA} {c:UInt8} {kd:Int} {nm:aj} {r:List UInt8} (hc:(c=46∧kd=21)∨(c=36∧kd=22)) (hn:aS nm=true) (h:Has s k (32::c::32::nm.data.toList) r) (hr:mW gu r) :
  iK s (f+1) p k=iK s f (.mk kd E0 0 nm [p]) (k+(32::c::32::nm.data.toList).length):=by
 have hsk:skip s k=k+1:=h.FP (by rcases hc with ⟨rfl,_⟩|⟨rfl,_⟩<;>decide)
 have hpk:=h.tail.peek
 have hnm:=abS hn h.tail.tail hr
 have el:k+(32::c::32::nm.data.toList).length=k+1+1+1+nm.data.toList.length:=by simp;omega
 rw [iK,el]
 rcases hc with ⟨rfl,rfl⟩|⟨rfl,rfl⟩
 ·have e:fG 46 s k=(true,k+1+1):=by unfold fG;rw [hsk];exact if_pos (by rw [hpk];rfl)
  rw [e,if_pos rfl,hnm]
 ·have e:fG 46 s k=(false,k+1):=by unfold fG;rw [hsk];exact if_neg (by rw [hpk];decide)
  have e2:fG 36 s (k+1)=(true,k+1+1):=by
   unfold fG;rw [show skip s (k+1)=k+1 from h.tail.skip (by decide)];exact if_pos (by rw [hpk];rfl)
  rw [e,if_neg (by simp)]
  dsimp only
  rw [e2,if_pos rfl,hnm]
theorem XT {inner:Nat→bT aA} {s:aj} {i:Nat} (hi:i≤s.size):iE inner s (skip s i)=iE inner s i:=by unfold iE jL fG;rw [qM hi]
theorem Qd {inner:Nat→bT aA} {s:aj} {i:Nat} (hi:i≤s.size):jl inner s (skip s i)=jl inner s i:=by unfold jl;rw [XT hi]
end Go.Proofs.YtefjbnhpjdhjmaaGreatDoor

namespace Go.Proofs.YtefjbnhpjdhjmaaGreatDoor
set_option linter.all false
open Go.RowKit
def jm (s:aj) (inner:Nat→bT aA) (p:aA):Prop:=∀i r,Has s i (aG p 0) r→sV r→iE inner s i=iK s (s.size+1-(i+(aG p 0).length)) (aB p) (i+(aG p 0).length)
def tX (s:aj) (inner:Nat→bT aA) (p:aA):Prop:=∀i r,Has s i (aG p 1) r→sV r→yO s (i+(aG p 1).length)→jl inner s i=.ok (aB p,skip s (i+(aG p 1).length))
def yV (s:aj) (inner:Nat→bT aA) (p:aA):Prop:=∀i r,Has s i (aG p 2) r→sV r→Az s (i+(aG p 2).length)→ku inner s i=.ok (aB p,skip s (i+(aG p 2).length))
theorem vK {p:aA} (h:dH p=0):(aT p.kind→p.text.size≠0)∧(bf p.kind→aS p.name=true)∧ig p.kind≤p.kids.length∧p.kids.length≤jE p.kind:=by
 unfold dH at h
 by_cases h1:p.kind<1∨24<p.kind
 ·rw [if_pos h1] at h;cases h
 rw [if_neg h1] at h
 by_cases h2:(p.kind=1∨aT p.kind)∧65536<p.text.size
 ·rw [if_pos h2] at h;cases h
 rw [if_neg h2] at h
 by_cases h3:aT p.kind∧p.text.size=0
 ·rw [if_pos h3] at h;cases h
 rw [if_neg h3] at h
 by_cases h4:bD p.kind∧(p.n<0∨65536<p.n)
 ·rw [if_pos h4] at h;cases h
 rw [if_neg h4] at h
 by_cases h5:bf p.kind∧aS p.name=false
 ·rw [if_pos h5] at h;cases h
 rw [if_neg h5] at h
 by_cases h6:p.kids.length<ig p.kind∨jE p.kind<p.kids.length
 ·rw [if_pos h6] at h;cases h
 refine ⟨fun a b=>h3 ⟨a,b⟩,fun a=>?_,by omega,by omega⟩
 cases hn:aS p.name with
 | true=>rfl
 | false=>exact absurd ⟨a,hn⟩ h5
theorem XU {k:Int} (h:k<18∨22<k):jE k=0:=by unfold jE;rw [if_neg (by omega),if_neg (by omega)]
def lN:List Nat:=[2,3,4,5,6,7,8,9,10,11,12,13,14,15,16,17,20]
theorem Dc (kk:Nat) (h:kk∈lN):∃c l,fK kk=c::l∧(65≤c.toNat∧c.toNat≤90)∧(∀d∈c::l,gu d=true)∧kindOf ⟨(c::l).toArray⟩=kk:=by
 simp only [lN,List.mem_cons,List.not_mem_nil,or_false] at h
 rcases h with rfl|rfl|rfl|rfl|rfl|rfl|rfl|rfl|rfl|rfl|rfl|rfl|rfl|rfl|rfl|rfl|rfl<;>exact ⟨_,_,rfl,by decide,by decide,by decide⟩
theorem AB {inner:Nat→bT aA} {s:aj} {i:Nat} {c:UInt8} {l r:List UInt8} (h:Has s i (c::l) r) (h32:c≠32) (h40:c≠40):jL inner s i=aH inner s i:=by
 have e:fG 40 s i=(false,i):=by
  unfold fG;rw [h.skip h32]
  refine if_neg ?_
  rw [h.peek]
  intro e
  have e2:c.toNat=40:=by omega
  exact h40 (UInt8.toNat_inj.1 e2)
 unfold jL;rw [e,if_neg (by simp)]
theorem AL {inner:Nat→bT aA} {s:aj} {i kk:Nat} {m r:List UInt8} (hk:kk∈lN) (h:Has s i (fK kk++m) r) (hr:mW gu (m++r)):jL inner s i=kT inner s i (i+(fK kk).length) kk:=by
 obtain ⟨c,l,e,hc,hw,hko⟩:=Dc kk hk
 rw [e] at h⊢
 have hs:=h.split
 have h32:c≠32:=by intro e;subst e;revert hc;decide
 rw [AB hs h32 (by intro e;subst e;revert hc;decide)]
 have hp:=hs.peek
 unfold aH
 rw [hs.skip h32,if_neg (by rw [hp];omega),if_neg (by rw [hp];omega),if_neg (by rw [hp];omega)]
 unfold nJ
 rw [MJ hw hc hs hr]
 dsimp only
 rw [hko]
theorem uV {s:aj} {k:Nat} {c:UInt8} {m r:List UInt8} (v:Nat) (hv:v=c.toNat) (hc:c≠32) (h:Has s k (c::m) r):dh v s k=.ok (k+1):=by
 subst hv;unfold dh;rw [h.skip hc,if_pos h.peek]
theorem UR (r:List UInt8):mW gu (40::r):=fun c t e=>by obtain rfl:=(List.cons.inj e).1.symm;decide
theorem nS {s:aj} {inner:Nat→bT aA} {p:aA} (h:∀i r,Has s i (aG p 0) r→sV r→jL inner s i=.ok (aB p,i+(aG p 0).length)):jm s inner p:=by
 intro i r hh hf
 unfold iE;rw [h i r hh hf]
theorem zV {kids:List aA} {k:Int} {t nm:aj} {n:Int} (hn:dH (.mk k t n nm kids)=0) (h:k<18∨22<k):kids=[]:=by
 have:=(vK hn).2.2.2
 rw [show (aA.mk k t n nm kids).kind=k from rfl,XU h] at this
 exact List.length_eq_zero_iff.1 (by simpa using this)
theorem mP {k:Int} {t nm:aj} {n:Int}:aB (.mk k t n nm [])=.mk k (if k=1∨aT k then t else E0) (if bD k then n else 0) (if bf k then nm else E0) []:=by rw [aB,dw]
theorem aad {s:aj} {inner:Nat→bT aA} {t nm:aj} {n:Int} {kids:List aA} (hn:dH (.mk 1 t n nm kids)=0):jm s inner (.mk 1 t n nm kids):=by
 obtain rfl:=zV hn (by omega)
 have hs:aG (.mk 1 t n nm []) 0=gJ t:=by rw [aG,if_pos rfl]
 refine nS fun i r h hf=>?_
 rw [hs] at h⊢
 have h':=h;unfold gJ at h'
 rw [AB h' (by decide) (by decide)]
 unfold aH
 rw [h'.skip (by decide),if_pos (by rw [h'.peek];rfl)]
 unfold AU
 rw [MK h hf.quote,mP];rfl
theorem XV {s:aj} {inner:Nat→bT aA} {k:Int} {t nm:aj} {n:Int} {kids:List aA} (hk:k=23∨k=24) (hn:dH (.mk k t n nm kids)=0):jm s inner (.mk k t n nm kids):=by
 have hnm:aS nm=true:=(vK hn).2.1 (by show bf k;unfold bf;omega)
 obtain rfl:=zV hn (by omega)
 rcases hk with rfl|rfl
 ·have hs:aG (.mk 23 t n nm []) 0=64::nm.data.toList:=by rw [aG];rfl
  refine nS fun i r h hf=>?_
  rw [hs] at h⊢
  rw [AB h (by decide) (by decide)]
  unfold aH
  rw [h.skip (by decide),if_neg (by rw [h.peek];decide),if_pos (by rw [h.peek];rfl)]
  unfold uX
  rw [Fe hnm h.tail hf.word,mP]
  have e:i+1+nm.data.toList.length=i+(64::nm.data.toList).length:=by simp;omega
  dsimp only
  rw [e];rfl
 ·have hs:aG (.mk 24 t n nm []) 0=42::nm.data.toList:=by rw [aG];rfl
  refine nS fun i r h hf=>?_
  rw [hs] at h⊢
  rw [AB h (by decide) (by decide)]
  unfold aH
  rw [h.skip (by decide),if_neg (by rw [h.peek];decide),if_neg (by rw [h.peek];decide),if_pos (by rw [h.peek];rfl)]
  unfold uX
  rw [Fe hnm h.tail hf.word,mP]
  have e:i+1+nm.data.toList.length=i+(42::nm.data.toList).length:=by simp;omega
  dsimp only
  rw [e];rfl
theorem XW {s:aj} {inner:Nat→bT aA} {kk:Nat} {t nm:aj} {n:Int} {kids:List aA} (hk:3≤kk∧kk≤7) (hn:dH (.mk kk t n nm kids)=0):jm s inner (.mk kk t n nm kids):=by
 have ht:t.size≠0:=(vK hn).1 (by show aT kk;unfold aT;omega)
 have hk0:aT kk:=by unfold aT;omega
 obtain rfl:=zV hn (by omega)
 have hs:aG (.mk kk t n nm []) 0=fK kk++(40::(gJ t++[41])):=by rw [aG,if_neg (by omega),if_pos hk0]
 refine nS fun i r h hf=>?_
 rw [hs] at h⊢
 rw [AL (by simp [lN];omega) h (UR _)]
 have h2:=h.next
 have h3:=h2.tail
 unfold kT
 rw [if_neg (by omega),if_pos (by omega)]
 unfold dD
 rw [uV 40 rfl (by decide) h2]
 dsimp only
 rw [MK h3.split (fun c t e=>by obtain rfl:=(List.cons.inj e).1.symm;decide)]
 dsimp only
 rw [if_neg ht,uV 41 rfl (by decide) h3.next,mP,if_pos (.inr hk0),if_neg (by unfold bD;omega),if_neg (by unfold bf;omega)]
 have e:i+(fK kk).length+1+(gJ t).length+1=i+(fK kk++40::(gJ t++[41])).length:=by simp;omega
 dsimp only
 rw [e]
theorem aae {s:aj} {inner:Nat→bT aA} {kk:Nat} {t nm:aj} {n:Int} {kids:List aA} (hk:kk=2∨(8≤kk∧kk≤11)) (hn:dH (.mk kk t n nm kids)=0):jm s inner (.mk kk t n nm kids):=by
 have hk0:bD kk:=by unfold bD;omega
 obtain ⟨hn0,hn1⟩:=(jF hn).2.2.1 hk0
 obtain rfl:=zV hn (by omega)
 have hs:aG (.mk kk t n nm []) 0=fK kk++(40::(Lib.decDigits n.toNat++[41])):=by rw [aG,if_neg (by omega),if_neg (by unfold aT;omega),if_pos hk0]
 refine nS fun i r h hf=>?_
 rw [hs] at h⊢
 rw [AL (by simp [lN];omega) h (UR _)]
 have h2:=h.next
 have h3:=h2.tail
 unfold kT
 rw [if_neg (by omega),if_neg (by omega),if_pos (by omega)]
 unfold fO
 rw [uV 40 rfl (by decide) h2]
 dsimp only
 rw [aac (by omega) h3.split (fun c t e=>by obtain rfl:=(List.cons.inj e).1.symm;decide)]
 dsimp only
 rw [uV 41 rfl (by decide) h3.next,mP,if_neg (by unfold aT;omega),if_pos hk0,if_neg (by unfold bf;omega)]
 have e:i+(fK kk).length+1+(Lib.decDigits n.toNat).length+1=i+(fK kk++40::(Lib.decDigits n.toNat++[41])).length:=by simp;omega
 dsimp only
 rw [e,Int.toNat_of_nonneg hn0]
theorem XY {s:aj} {inner:Nat→bT aA} {kk:Nat} {t nm:aj} {n:Int} {kids:List aA} (hk:12≤kk∧kk≤17) (hn:dH (.mk kk t n nm kids)=0):jm s inner (.mk kk t n nm kids):=by
 obtain rfl:=zV hn (by omega)
 have hs:aG (.mk kk t n nm []) 0=fK kk++[]:=by
  rw [aG,if_neg (by omega),if_neg (by unfold aT;omega),if_neg (by unfold bD;omega),if_neg (by omega),if_neg (by omega),if_neg (by omega),if_neg (by omega),if_neg (by omega),if_neg (by omega),if_neg (by omega),List.append_nil]
 refine nS fun i r h hf=>?_
 rw [hs] at h⊢
 rw [AL (by simp [lN];omega) h (by rw [List.nil_append];exact hf.word)]
 unfold kT
 rw [if_neg (by omega),if_neg (by omega),if_neg (by omega),if_neg (by omega),mP,if_neg (by unfold aT;omega),if_neg (by unfold bD;omega),if_neg (by unfold bf;omega),List.append_nil]
end Go.Proofs.YtefjbnhpjdhjmaaGreatDoor

namespace Go.Proofs.YtefjbnhpjdhjmaaGreatDoor
set_option linter.all false
open Go.RowKit
def NZ {α:Type} (r:Except Er α):Prop:=∀er,r=.error er→er.1≠0
theorem Bz (c:Nat) (s:aj) (i:Nat):NZ (dh c s i):=by
 intro er h;unfold dh at h;split at h<;>cases h;simp
theorem Q5 (s:aj) (i:Nat):NZ (gK s i):=by
 intro er h;unfold gK at h;split at h<;>cases h;simp
theorem JR (s:aj) (i:Nat):NZ (nameP s i):=by
 intro er h;unfold nameP at h
 repeat' split at h
 all_goals first|(cases h;done)|(cases h;first|(simp;done)|exact Q5 _ _ _ ‹_›)
theorem Q7 (s:aj) (i:Nat):NZ (iL s i):=by
 intro er h;unfold iL at h
 split at h
 ·cases h;exact Bz _ _ _ _ ‹_›
 ·revert h
  generalize fM _=x
  cases x with
  | none=>intro h;unfold mX at h;cases h;simp
  | some y=>intro h;unfold mX at h;cases h
theorem Nv (s:aj) (j:Nat):∀(f k n:Nat),NZ (nH s j f k n)
 | 0,k,n=>by intro er h;rw [nH] at h;cases h
 | f+1,k,n=>by
  intro er h;rw [nH] at h
  repeat' split at h
  all_goals first|(cases h;done)|(cases h;simp;done)|exact Nv s j f _ _ er h
theorem ab8 (s:aj) (i:Nat):NZ (lW s i):=by
 intro er h;unfold lW at h
 split at h
 ·exact Nv _ _ _ _ _ _ h
 ·cases h;simp
theorem SG (s:aj) (k:Nat) (kd:Int):NZ (dD s k kd):=by
 intro er h;unfold dD at h
 repeat' split at h
 all_goals first|(cases h;done)|(cases h;first|(simp;done)|exact Bz _ _ _ _ ‹_› | exact Q7 _ _ _ ‹_›)
theorem Vk (s:aj) (k:Nat) (kd:Int):NZ (fO s k kd):=by
 intro er h;unfold fO at h
 repeat' split at h
 all_goals first|(cases h;done)|(cases h;first|exact Bz _ _ _ _ ‹_› | exact ab8 _ _ _ ‹_›)
theorem Vl {inner:Nat→bT aA} (hi:∀i,NZ (inner i)) (s:aj) (k:Nat) (kd:Int):NZ (nT inner s k kd):=by
 intro er h;unfold nT at h
 repeat' split at h
 all_goals first|(cases h;done)|(cases h;first|exact Bz _ _ _ _ ‹_› | exact hi _ _ ‹_›)
theorem aa1 {inner:Nat→bT aA} (hi:∀i,NZ (inner i)) (s:aj) (a k:Nat) (kd:Int):NZ (kT inner s a k kd):=by
 intro er h;unfold kT at h
 repeat' split at h
 ·cases h;simp
 ·exact SG _ _ _ _ h
 ·exact Vk _ _ _ _ h
 ·exact Vl hi _ _ _ _ h
 ·cases h
theorem SH {inner:Nat→bT aA} (hi:∀i,NZ (inner i)) (s:aj) (i:Nat):NZ (aH inner s i):=by
 intro er h;unfold aH at h
 repeat' split at h
 ·unfold AU at h
  repeat' split at h
  all_goals first|(cases h;done)|(cases h;exact Q7 _ _ _ ‹_›)
 ·unfold uX at h
  repeat' split at h
  all_goals first|(cases h;done)|(cases h;exact JR _ _ _ ‹_›)
 ·unfold uX at h
  repeat' split at h
  all_goals first|(cases h;done)|(cases h;exact JR _ _ _ ‹_›)
 ·unfold nJ at h
  repeat' split at h
  ·cases h;exact Q5 _ _ _ ‹_›
  ·exact aa1 hi _ _ _ _ _ h
theorem Nw (s:aj):∀(f:Nat) (p:aA) (k:Nat),NZ (iK s f p k)
 | 0,p,k=>by intro er h;rw [iK] at h;cases h
 | f+1,p,k=>by
  intro er h;rw [iK] at h
  repeat' split at h
  all_goals first|(cases h;done)|(cases h;exact JR _ _ _ ‹_›)|exact Nw s f _ _ er h
theorem aa2 {inner:Nat→bT aA} (hi:∀i,NZ (inner i)) (s:aj) (i:Nat):NZ (jL inner s i):=by
 intro er h;unfold jL at h
 repeat' split at h
 all_goals first|(cases h;done)|(cases h;first|exact Bz _ _ _ _ ‹_› | exact hi _ _ ‹_›)|exact SH hi _ _ _ h
theorem Q8 {inner:Nat→bT aA} (hi:∀i,NZ (inner i)) (s:aj) (i:Nat):NZ (iE inner s i):=by
 intro er h;unfold iE at h
 split at h
 ·cases h;exact aa2 hi _ _ _ ‹_›
 ·exact Nw _ _ _ _ _ h
theorem Ny {inner:Nat→bT aA} (hi:∀i,NZ (inner i)) (s:aj):∀(f:Nat) (l:List aA) (k:Nat),NZ (lX inner s f l k)
 | 0,l,k=>by intro er h;rw [lX] at h;cases h
 | f+1,l,k=>by
  intro er h;rw [lX] at h
  repeat' split at h
  all_goals first|(cases h;done)|(cases h;exact Q8 hi _ _ _ ‹_›)|exact Ny hi s f _ _ er h
theorem Vm {inner:Nat→bT aA} (hi:∀i,NZ (inner i)) (s:aj) (i:Nat):NZ (jl inner s i):=by
 intro er h;unfold jl at h
 split at h
 ·cases h;exact Q8 hi _ _ _ ‹_›
 ·exact Ny hi _ _ _ _ _ h
theorem Nz {inner:Nat→bT aA} (hi:∀i,NZ (inner i)) (s:aj):∀(f:Nat) (l:List aA) (k:Nat),NZ (lY inner s f l k)
 | 0,l,k=>by intro er h;rw [lY] at h;cases h
 | f+1,l,k=>by
  intro er h;rw [lY] at h
  repeat' split at h
  all_goals first|(cases h;done)|(cases h;exact Vm hi _ _ _ ‹_›)|exact Nz hi s f _ _ er h
theorem Vo {inner:Nat→bT aA} (hi:∀i,NZ (inner i)) (s:aj) (i:Nat):NZ (ku inner s i):=by
 intro er h;unfold ku at h
 split at h
 ·cases h;exact Vm hi _ _ _ ‹_›
 ·exact Nz hi _ _ _ _ _ h
theorem NC (s:aj):∀(m i:Nat),NZ (dX s m i)
 | 0,i=>by intro er h;rw [dX] at h;cases h;simp
 | m+1,i=>by intro er h;rw [dX] at h;exact Vo (fun i=>NC s m i) _ _ _ h
theorem aa3 (s:aj):NZ (kE s):=by
 intro er h;unfold kE at h
 repeat' split at h
 all_goals first|(cases h;done)|(cases h;first|(simp;done)|exact Vo (fun i=>NC s 200 i) _ _ _ ‹_›)
end Go.Proofs.YtefjbnhpjdhjmaaGreatDoor

namespace Go.Proofs.YtefjbnhpjdhjmaaGreatDoor
set_option linter.all false
open Go.RowKit
theorem Vx (N T W:Nat) (S:Nat→Prop):∀(m:Nat) (p:aA) (b o i:Nat) (l:List UInt8) (w:World),sizeT p≤m→wR p→qg N T W S b o p l w→i≤2→l.length+(aG p i).length≤big→nR N T W S b o i p l w:=by
 intro m
 induction m with
 | zero=>intro p b o i l w hm;have:=mF p;omega
 | succ m ih =>
  intro p b o i l w hm hok h hi hl
  obtain ⟨k,t,n,nm,kids⟩:=p
  have hn:=hok.self
  have hkl:kids.length<1000000000:=by have:=h.pat.open.2.1.2.2;simpa using this
  obtain ⟨⟨h1,h24⟩,_⟩:=jF hn
  have hih:EO N T W S kids:=fun j hj b o i l w h hi hl=>ih kids[j] b o i l w (by have:=nI kids j hj;simp only [sizeT] at hm;omega) (hok.kids.get j hj) h hi hl
  by_cases c1:k=1
  ·exact Xe N T W S b o i k t n nm kids l w h hn hl c1
  by_cases c2:aT k
  ·exact Uj N T W S b o i k t n nm kids l w h hn hl c2
  by_cases c3:bD k
  ·exact Xf N T W S b o i k t n nm kids l w h hn hl c3
  by_cases c4:k=23∨k=24
  ·exact Uk N T W S b o i k t n nm kids l w h hn hl c4
  by_cases c5:k=12∨k=13∨k=14∨k=15∨k=16∨k=17
  ·exact Ul N T W S b o i k t n nm kids l w h hn hl c5
  by_cases c6:k=20
  ·subst c6;exact QF N T W S b o i t n nm kids l w h hn hl hih
  by_cases c7:k=21
  ·subst c7;exact Um N T W S b o i t n nm kids l w h hn hl hih
  by_cases c8:k=22
  ·subst c8;exact Xg N T W S b o i t n nm kids l w h hn hl hih
  by_cases c9:k=18
  ·subst c9
   by_cases hp:i<1
   ·exact Un N T W S b o i t n nm kids l w h hp hkl hl hih
   ·exact Xh N T W S b o i t n nm kids l w h hp hkl hl hih
  by_cases c10:k=19
  ·subst c10
   by_cases hp:i<2
   ·exact Uo N T W S b o i t n nm kids l w h hp hkl hl hih
   ·exact Xi N T W S b o i t n nm kids l w h hp hkl hl hih
  ·unfold aT bD at *;omega
def fU (p:aA):List UInt8×Int:=if bJ p≠0 then ([],bJ p) else if 65536<(aG p 2).length then ([],4) else (aG p 2,0)
def Vu (p:aA) (w:World) (e:Ending) (w':World):Prop:=e=.returned (.tuple #[.string ⟨(fU p).1.toArray⟩,.int .i64 (fU p).2])∧Kept aF w w'
theorem Gs:∀(l:List aA),uj l=0→∀x∈l,dH x=0
 | [],_,x,hx=>by simp at hx
 | p::r,h,x,hx=>by
  rw [uj] at h
  by_cases hp:dH p=0
  ·rcases List.mem_cons.1 hx with rfl|hx
   ·exact hp
   ·rw [if_pos hp] at h;exact Gs r h x hx
  ·rw [if_neg hp] at h;exact absurd h hp
theorem BU {p:aA} (h:bJ p=0):wR p∧sizeT p≤4096:=by
 rw [DX] at h
 by_cases hf:fits p
 ·rw [if_pos hf] at h
  exact ⟨Gs _ h,hf.1⟩
 ·rw [if_neg hf] at h;cases h
end Go.Proofs.YtefjbnhpjdhjmaaGreatDoor

namespace Go.Proofs.YtefjbnhpjdhjmaaGreatDoor
set_option linter.all false
open Go.RowKit
set_option maxRecDepth 100000
set_option maxHeartbeats 4000000
section
variable (N T:Nat) (S:Nat→Prop) (b o i:Nat) (t:aj) (n:Int) (nm:aj) (kids:List aA) (l:List UInt8) (w:World)
theorem Zc (h:rP N T S b o (.mk 4 t n nm kids) l w) (hn:lS (.mk 4 t n nm kids)) (hi:i≤5) (hl:l.length+(aP (.mk 4 t n nm kids) i).length≤big) (hih:Ew N T S kids):oZ N T b o i (.mk 4 t n nm kids) l w:=by
 obtain ⟨q,rfl⟩:=hn.one (by decide)
 have hfc:=hn.facts
 obtain ⟨_,_,p0,p1,p2,p3,ka,cap,p4,-⟩:=h.pat.open
 dsimp only [aA.aZ,aA.aX,aA.eG,aA.aY,aA.aV] at p0 p1 p2 p3 p4
 unfold oZ
 have HH:=ah h;have HIH:=ah hih
 have e0:decide ((5:Int)<(i:Int))=false:=au (by omega)
 have hs:aP (.mk 4 t n nm [q]) i=nm.data.toList++(60::(aP q 1++[62])):=by rw [aP];simp only [o7];rfl
 rw [hs] at hl⊢
 have eb:big=1000000000000:=rfl
 have Ry:nm.data.toList.length=nm.size:=rfl
 simp only [List.length_append,List.length_cons,List.length_nil] at hl
 have hstr:Hid (nm++(⟨#[60]⟩:aj)=⟨(nm.data.toList++[60]).toArray⟩):=by
  unfold Hid;show (⟨nm.data.toList.toArray⟩:aj)++⟨[60].toArray⟩=_;rw [kX]
 have hnm:nm.size≤16:=hfc.2.2.2.2.1 (by omega)
 clear hs hih h hn hfc p1 p2 p4
 go_enter_defers Tryz.func38, Tryz.ntmps38
 go_wp2_with (go_at_call 70;(refine (oJ 4 w).mono ?_);rintro e w' ⟨rfl,aU⟩;obtain rfl:=aU.symm;simp only [rO,xk,dA])
 rw [hstr.out]
 refine (bW N T l _ _ HH.out.jy (by show l.length+(nm.data.toList++[60]).toArray.size≤_;rw [List.size_toArray];(try simp only [List.length_append,List.length_cons,List.length_nil]);omega) HH.out.hw).mono ?_
 rintro e w1 ⟨rfl,B1,K1⟩
 have Wx:oQ N T (l++(nm.data.toList++[60])) w1:=B1
 have h1:=HH.out.wrote Wx K1
 obtain ⟨kb,ko,cap1,c4,hq⟩:=h1.kid 0 (by simp)
 have H1:=ah h1;have HQ:=ah hq;have iH:=ah K1
 clear B1 Wx K1 h1 hq p0 p3
 go_wp2_with fail
 refine (HIH.out 0 (by simp) kb ko 1 (l++(nm.data.toList++[60])) w1 (by have:=HQ.out;simpa using this) (by omega) (by show (l++(nm.data.toList++[60])).length+(aP q 1).length≤_;(try simp only [List.length_append,List.length_cons,List.length_nil]);omega)).mono ?_
 rintro e w2 ⟨rfl,B2,K2⟩
 have H2:=ah (H1.out.wrote B2 K2)
 have vH:=ah (KB.trans iH.out K2)
 clear B2 K2 c4
 go_wp2_with fail
 refine (jq N T _ 62 62 rfl _ H2.out.jy (by show ((l++(nm.data.toList++[60]))++aP q 1).length+1≤_;(try simp only [List.length_append,List.length_cons,List.length_nil]);omega) H2.out.hw).mono ?_
 rintro e w3 ⟨rfl,B3,K3⟩
 have Q:Hid (oQ N T (l++(nm.data.toList++(60::(aP q 1++[62])))) w3):=by
  have B3':oQ N T (((l++(nm.data.toList++[60]))++aP q 1)++[62]) w3:=B3
  simp only [List.append_assoc,List.cons_append,List.nil_append] at B3'
  exact B3'
 have KK:=ah (KB.trans vH.out K3)
 clear B3 K3
 go_wp2_with fail
 exact ⟨_,results_none rfl _ _ _,rfl,Q.out,KK.out⟩
theorem abk (h:rP N T S b o (.mk 5 t n nm kids) l w) (hn:lS (.mk 5 t n nm kids)) (hi:i≤5) (hl:l.length+(aP (.mk 5 t n nm kids) i).length≤big) (hih:Ew N T S kids):oZ N T b o i (.mk 5 t n nm kids) l w:=by
 obtain ⟨q,rfl⟩:=hn.one (by decide)
 have hfc:=hn.facts
 obtain ⟨_,_,p0,p1,p2,p3,ka,cap,p4,-⟩:=h.pat.open
 dsimp only [aA.aZ,aA.aX,aA.eG,aA.aY,aA.aV] at p0 p1 p2 p3 p4
 unfold oZ
 have HH:=ah h;have HIH:=ah hih
 have e0:decide ((5:Int)<(i:Int))=false:=au (by omega)
 have hs:aP (.mk 5 t n nm [q]) i=36::aP q 5:=by rw [aP];simp only [o7];rfl
 rw [hs] at hl⊢
 have eb:big=1000000000000:=rfl
 have Ry:nm.data.toList.length=nm.size:=rfl
 simp only [List.length_append,List.length_cons,List.length_nil] at hl
 clear hs hih h hn hfc p1 p2 p4
 go_enter_defers Tryz.func38, Tryz.ntmps38
 go_wp2_with (go_at_call 70;(refine (oJ 5 w).mono ?_);rintro e w' ⟨rfl,aU⟩;obtain rfl:=aU.symm;simp only [rO,xk,dA])
 refine (jq N T (l) 36 36 rfl _ HH.out.jy (by (try simp only [List.length_append,List.length_cons,List.length_nil]);omega) HH.out.hw).mono ?_
 rintro e w4 ⟨rfl,B4,K4⟩
 have h4:=HH.out.wrote B4 K4
 obtain ⟨kb,ko,cap1,c4,hq⟩:=h4.kid 0 (by simp)
 have H4:=ah h4;have HQ:=ah hq;have D5:=ah K4
 clear B4 K4 h4 hq p0 p3
 go_wp2_with fail
 refine (HIH.out 0 (by simp) kb ko 5 ((l)++[36]) w4 (by have:=HQ.out;simpa using this) (by omega) (by show ((l)++[36]).length+(aP q 5).length≤_;(try simp only [List.length_append,List.length_cons,List.length_nil]);omega)).mono ?_
 rintro e w5 ⟨rfl,B5,K5⟩
 have Am:oQ N T (((l)++[36])++aP q 5) w5:=B5
 have H5:=ah (H4.out.wrote Am K5)
 have KK:=ah (KB.trans D5.out K5)
 clear B5 Am K5 c4
 go_wp2_with fail
 refine ⟨_,results_none rfl _ _ _,rfl,?_,KK.out⟩
 have:=H5.out.jy
 simp only [List.append_assoc,List.cons_append,List.nil_append] at this⊢
 exact this
theorem abl (h:rP N T S b o (.mk 7 t n nm kids) l w) (hn:lS (.mk 7 t n nm kids)) (hi:i≤4) (hl:l.length+(aP (.mk 7 t n nm kids) i).length≤big) (hih:Ew N T S kids):oZ N T b o i (.mk 7 t n nm kids) l w:=by
 obtain ⟨q,rfl⟩:=hn.one (by decide)
 have hfc:=hn.facts
 obtain ⟨_,_,p0,p1,p2,p3,ka,cap,p4,-⟩:=h.pat.open
 dsimp only [aA.aZ,aA.aX,aA.eG,aA.aY,aA.aV] at p0 p1 p2 p3 p4
 unfold oZ
 have HH:=ah h;have HIH:=ah hih
 have e0:decide ((4:Int)<(i:Int))=false:=au (by omega)
 have hs:aP (.mk 7 t n nm [q]) i=45::aP q 4:=by rw [aP];simp only [o7];show sH (decide (4<i)) (45::aP q 4)=_;rw [au (by omega:¬4<i)];rfl
 rw [hs] at hl⊢
 have eb:big=1000000000000:=rfl
 have Ry:nm.data.toList.length=nm.size:=rfl
 simp only [List.length_append,List.length_cons,List.length_nil] at hl
 clear hs hih h hn hfc p1 p2 p4
 go_enter_defers Tryz.func38, Tryz.ntmps38
 go_wp2_with (go_at_call 70;(refine (oJ 7 w).mono ?_);rintro e w' ⟨rfl,aU⟩;obtain rfl:=aU.symm;simp only [rO,xk,dA])
 refine (jq N T (l) 45 45 rfl _ HH.out.jy (by (try simp only [List.length_append,List.length_cons,List.length_nil]);omega) HH.out.hw).mono ?_
 rintro e w4 ⟨rfl,B4,K4⟩
 have h4:=HH.out.wrote B4 K4
 obtain ⟨kb,ko,cap1,c4,hq⟩:=h4.kid 0 (by simp)
 have H4:=ah h4;have HQ:=ah hq;have D5:=ah K4
 clear B4 K4 h4 hq p0 p3
 go_wp2_with fail
 refine (HIH.out 0 (by simp) kb ko 4 ((l)++[45]) w4 (by have:=HQ.out;simpa using this) (by omega) (by show ((l)++[45]).length+(aP q 4).length≤_;(try simp only [List.length_append,List.length_cons,List.length_nil]);omega)).mono ?_
 rintro e w5 ⟨rfl,B5,K5⟩
 have Am:oQ N T (((l)++[45])++aP q 4) w5:=B5
 have H5:=ah (H4.out.wrote Am K5)
 have KK:=ah (KB.trans D5.out K5)
 clear B5 Am K5 c4
 go_wp2_with fail
 refine ⟨_,results_none rfl _ _ _,rfl,?_,KK.out⟩
 have:=H5.out.jy
 simp only [List.append_assoc,List.cons_append,List.nil_append] at this⊢
 exact this
theorem Zd (h:rP N T S b o (.mk 7 t n nm kids) l w) (hn:lS (.mk 7 t n nm kids)) (hi:i=5) (hl:l.length+(aP (.mk 7 t n nm kids) i).length≤big) (hih:Ew N T S kids):oZ N T b o i (.mk 7 t n nm kids) l w:=by
 obtain ⟨q,rfl⟩:=hn.one (by decide)
 have hfc:=hn.facts
 obtain ⟨_,_,p0,p1,p2,p3,ka,cap,p4,-⟩:=h.pat.open
 dsimp only [aA.aZ,aA.aX,aA.eG,aA.aY,aA.aV] at p0 p1 p2 p3 p4
 unfold oZ
 have HH:=ah h;have HIH:=ah hih
 have e0:decide ((4:Int)<(i:Int))=true:=ak (by omega)
 have hs:aP (.mk 7 t n nm [q]) i=40::((45::aP q 4)++[41]):=by rw [aP];simp only [o7];show sH (decide (4<i)) (45::aP q 4)=_;rw [ak (by omega:4<i)];rfl
 rw [hs] at hl⊢
 have eb:big=1000000000000:=rfl
 have Ry:nm.data.toList.length=nm.size:=rfl
 simp only [List.length_append,List.length_cons,List.length_nil] at hl
 clear hs hih h hn hfc p1 p2 p4
 go_enter_defers Tryz.func38, Tryz.ntmps38
 go_wp2_with (go_at_call 70;(refine (oJ 7 w).mono ?_);rintro e w' ⟨rfl,aU⟩;obtain rfl:=aU.symm;simp only [rO,xk,dA])
 refine (jq N T l 40 40 rfl w HH.out.jy (by omega) HH.out.hw).mono ?_
 rintro e w1 ⟨rfl,B1,K1⟩
 have h1:=HH.out.wrote B1 K1
 have iH:=ah K1
 obtain ⟨_,_,r0,-,-,-,_,_,-,-⟩:=h1.pat.open
 dsimp only [aA.aZ] at r0
 have H1:=ah h1
 clear B1 K1 h1 p0 p3
 go_wp2_with fail
 refine (jq N T (l++[40]) 45 45 rfl _ H1.out.jy (by (try simp only [List.length_append,List.length_cons,List.length_nil]);omega) H1.out.hw).mono ?_
 rintro e w4 ⟨rfl,B4,K4⟩
 have h4:=H1.out.wrote B4 K4
 obtain ⟨kb,ko,cap1,c4,hq⟩:=h4.kid 0 (by simp)
 have H4:=ah h4;have HQ:=ah hq;have D5:=ah (KB.trans iH.out K4)
 clear B4 K4 h4 hq r0
 go_wp2_with fail
 refine (HIH.out 0 (by simp) kb ko 4 ((l++[40])++[45]) w4 (by have:=HQ.out;simpa using this) (by omega) (by show ((l++[40])++[45]).length+(aP q 4).length≤_;(try simp only [List.length_append,List.length_cons,List.length_nil]);omega)).mono ?_
 rintro e w5 ⟨rfl,B5,K5⟩
 have Am:oQ N T (((l++[40])++[45])++aP q 4) w5:=B5
 have H5:=ah (H4.out.wrote Am K5)
 have KK:=ah (KB.trans D5.out K5)
 clear B5 Am K5 c4
 go_wp2_with fail
 refine leaves_cons (f:=67) (args:=#[.pointer (some ⟨N,0,none⟩),.int .u8 41]) (by simp) (by simp [go_sem]) ?_
 refine (sZ N T _ 41 _ _ H5.out.jy (by (try simp only [List.length_append,List.length_cons,List.length_nil]);omega) H5.out.hw).mono ?_
 rintro e u' w6 ⟨rfl,rfl,B6,K6⟩
 refine ⟨_,results_none rfl _ _ _,rfl,?_,KB.trans KK.out K6⟩
 have:=B6
 simp only [List.append_assoc,List.cons_append,List.nil_append] at this⊢
 exact this
end
end Go.Proofs.YtefjbnhpjdhjmaaGreatDoor

namespace Go.Proofs.YtefjbnhpjdhjmaaGreatDoor
set_option linter.all false
open Go.RowKit
set_option maxRecDepth 100000
set_option maxHeartbeats 8000000
theorem Je (kids:List aA) (j:Nat) (hj:j<kids.length):kH (decide (j=0)) (kids.drop j)=(if j=0 then [] else [44,32])++(aP kids[j] 1++kH (decide (j+1=0)) (kids.drop (j+1))):=by
 rw [List.drop_eq_getElem_cons hj,kH]
 by_cases h:j=0
 ·subst h;simp
 ·simp [h]
def wF (N T:Nat) (S:Nat→Prop) (b o:Nat) (p:aA) (kids:List aA) (l:List UInt8) (w:World) (j:Nat) (wr:World):Prop :=
 ∃d,d++kH (decide (j=0)) (kids.drop j)=kH true kids∧rP N T S b o p (l++d) wr∧KB N T w wr
theorem wF.next {N T:Nat} {S:Nat→Prop} {b o:Nat} {p:aA} {kids:List aA} {l d:List UInt8} {w w':World} {j:Nat} (hj:j<kids.length)
  (hd:d++kH (decide (j=0)) (kids.drop j)=kH true kids) (h:rP N T S b o p ((l++d)++((if j=0 then [] else [44,32])++aP kids[j] 1)) w') (k:KB N T w w'):wF N T S b o p kids l w (j+1) w':=by
 refine ⟨d++((if j=0 then [] else [44,32])++aP kids[j] 1),?_,by rw [List.append_assoc] at h;exact h,k⟩
 rw [Je kids j hj] at hd
 rw [←hd];simp [List.append_assoc]
theorem wF.len {kids:List aA} {j:Nat} {d:List UInt8} (hj:j<kids.length) (hd:d++kH (decide (j=0)) (kids.drop j)=kH true kids) :
  d.length+(if j=0 then 0 else 2)+(aP kids[j] 1).length≤(kH true kids).length:=by
 rw [Je kids j hj] at hd
 have:=congrArg List.length hd
 simp only [List.length_append] at this
 split at this<;>split<;>simp_all<;>omega
theorem Zg (N T:Nat) (S:Nat→Prop) (b o i:Nat) (t:aj) (n:Int) (nm:aj) (kids:List aA) (l:List UInt8) (w:World) (h:rP N T S b o (.mk 6 t n nm kids) l w) (hn:lS (.mk 6 t n nm kids)) (hi:i≤5) (hl:l.length+(aP (.mk 6 t n nm kids) i).length≤big) (hih:Ew N T S kids):oZ N T b o i (.mk 6 t n nm kids) l w:=by
 have hfc:=hn.facts
 obtain ⟨_,_,p0,p1,p2,p3,ka,cap,p4,-⟩:=h.pat.open
 dsimp only [aA.aZ,aA.aX,aA.eG,aA.aY,aA.aV] at p0 p1 p2 p3 p4
 unfold oZ
 have HH:=ah h;have HIH:=ah hih
 have e0:decide ((5:Int)<(i:Int))=false:=au (by omega)
 have hs:aP (.mk 6 t n nm kids) i=nm.data.toList++(40::(kH true kids++[41])):=by rw [aP];rfl
 rw [hs] at hl⊢
 have eb:big=1000000000000:=rfl
 have Ry:nm.data.toList.length=nm.size:=rfl
 simp only [List.length_append,List.length_cons,List.length_nil] at hl
 have hstr:Hid (nm++(⟨#[40]⟩:aj)=⟨(nm.data.toList++[40]).toArray⟩):=by
  unfold Hid;show (⟨nm.data.toList.toArray⟩:aj)++⟨[40].toArray⟩=_;rw [kX]
 have hnm:nm.size≤16:=hfc.2.2.2.2.1 (by omega)
 have hk8:kids.length≤8:=hfc.2.2.2.2.2.1 rfl
 clear hs hih h hn hfc p1 p2 p4
 go_enter_defers Tryz.func38, Tryz.ntmps38
 go_wp2_with (go_at_call 70;(refine (oJ 6 w).mono ?_);rintro e w' ⟨rfl,aU⟩;obtain rfl:=aU.symm;simp only [rO,xk,dA])
 rw [hstr.out]
 refine (bW N T l _ _ HH.out.jy (by show l.length+(nm.data.toList++[40]).toArray.size≤_;rw [List.size_toArray];simp only [List.length_append,List.length_cons,List.length_nil];omega) HH.out.hw).mono ?_
 rintro e w1 ⟨rfl,B1,K1⟩
 have Wx:oQ N T (l++(nm.data.toList++[40])) w1:=B1
 have h1:=HH.out.wrote Wx K1
 obtain ⟨_,_,-,-,-,-,ka1,cap1,p4,-⟩:=h1.pat.open
 dsimp only [aA.aV] at p4
 have H1:=ah h1;have iH:=ah K1
 clear B1 Wx K1 h1 p0 p3
 generalize hl1:l++(nm.data.toList++[40])=l1 at H1
 have HL1:=ah hl1
 have hll:l1.length+(kH true kids).length+1≤1000000000000:=by rw [←hl1];simp only [List.length_append,List.length_cons,List.length_nil];omega
 clear hl1
 go_wp2_with fail
 go_loopw [134] (fun x wr=>∃j:Nat,j≤kids.length∧x=.int .i64 j∧Hid (wF N T S b o (.mk 6 t n nm kids) kids l1 w1 j wr)) (fun x _=>kids.length-(intOf x).toNat)
 case atStart=>exact ⟨0,Nat.zero_le _,rfl,[],by simp,by simpa using H1.out,KB.refl _ _ _⟩
 case round =>
  obtain ⟨j,hj,rfl,wG⟩:=hrel
  clear p4
  obtain ⟨d,hd,HI,hK⟩:=wG.out
  have I:=ah HI;have HK:=ah hK;have HD:=ah hd
  by_cases hlt:j<kids.length
  ·have hlen:=wF.len hlt hd
   obtain ⟨kb,ko,cap1,c4,hq⟩:=HI.kid j hlt
   have HQ:=ah hq
   clear hd hK HI hq wG
   by_cases hj0:j=0
   ·have y1:decide ((0:Int)<(j:Int))=false:=au (by omega)
    have y2:decide (0<j)=false:=au (by omega)
    have HE:Hid ((if j=0 then [] else ([44,32]:List UInt8))=[]):=if_pos hj0
    rw [if_pos hj0] at hlen
    clear hj0
    go_wp2_with fail
    refine (HIH.out j hlt kb (ko+j*5) 1 _ _ HQ.out (by omega) (by show (l1++d).length+_≤_;simp only [List.length_append,List.length_cons,List.length_nil];omega)).mono ?_
    rintro e w3 ⟨rfl,B3,K3⟩
    have L3:Hid (wF N T S b o (.mk 6 t n nm kids) kids l1 w1 (j+1) w3):=wF.next hlt HD.out (by rw [HE.out];exact I.out.wrote B3 K3) (KB.trans HK.out K3)
    clear B3 K3 c4
    go_wp2_with fail
    go_roundw
    case rel=>exact ⟨j+1,by omega,by go_num,L3⟩
    case measure=>simp [intOf];omega
   ·have y1:decide ((0:Int)<(j:Int))=true:=ak (by omega)
    have y2:decide (0<j)=true:=ak (by omega)
    have HE:Hid ((if j=0 then [] else ([44,32]:List UInt8))=[44,32]):=if_neg hj0
    rw [if_neg hj0] at hlen
    clear hj0
    go_wp2_with fail
    refine (bW N T _ ⟨#[44,32]⟩ _ I.out.jy (by show (l1++d).length+2≤_;simp only [List.length_append,List.length_cons,List.length_nil] at hlen⊢;omega) I.out.hw).mono ?_
    rintro e w2 ⟨rfl,B2,K2⟩
    rw [show (⟨#[44,32]⟩:aj).data.toList=[44,32] from rfl] at B2
    have I2:=ah (I.out.wrote B2 K2)
    have qw:=ah (KB.trans HK.out K2)
    clear B2 K2 c4
    obtain ⟨kb,ko,cap1,c4,hq⟩:=I2.out.kid j hlt
    clear HQ
    have HQ:=ah hq
    clear hq
    go_wp2_with fail
    refine (HIH.out j hlt kb (ko+j*5) 1 _ _ HQ.out (by omega) (by simp only [List.length_append,List.length_cons,List.length_nil] at hlen⊢;omega)).mono ?_
    rintro e w3 ⟨rfl,B3,K3⟩
    have L3:Hid (wF N T S b o (.mk 6 t n nm kids) kids l1 w1 (j+1) w3):=wF.next hlt HD.out (by rw [HE.out,←List.append_assoc];exact I2.out.wrote B3 K3) (KB.trans qw.out K3)
    clear B3 K3 c4
    go_wp2_with fail
    go_roundw
    case rel=>exact ⟨j+1,by omega,by go_num,L3⟩
    case measure=>simp [intOf];omega
  ·obtain rfl:j=kids.length:=by omega
   rw [List.drop_length] at hd
   have hd2:d=kH true kids:=by simpa [kH] using hd
   subst hd2
   clear hd hK HI wG HD
   go_wp2_with fail
   refine (jq N T _ 41 41 rfl _ I.out.jy (by simp only [List.length_append,List.length_cons,List.length_nil];omega) I.out.hw).mono ?_
   rintro e w3 ⟨rfl,B3,K3⟩
   have KK:=ah (KB.trans iH.out (KB.trans HK.out K3))
   have Q:Hid (oQ N T (l++(nm.data.toList++(40::(kH true kids++[41])))) w3):=by
    have B3':oQ N T ((l1++kH true kids)++[41]) w3:=B3
    rw [←HL1.out] at B3'
    simp only [List.append_assoc,List.cons_append,List.nil_append] at B3'
    exact B3'
   clear B3 K3
   go_wp2_with fail
   exact ⟨_,results_none rfl _ _ _,rfl,Q.out,KK.out⟩
theorem abn (N T:Nat) (S:Nat→Prop):∀(m:Nat) (p:aA) (b o i:Nat) (l:List UInt8) (w:World),sizeT p≤m→lS p→rP N T S b o p l w→i≤5→l.length+(aP p i).length≤big→oZ N T b o i p l w:=by
 intro m
 induction m with
 | zero=>intro p b o i l w hm;have:=mF p;omega
 | succ m ih =>
  intro p b o i l w hm hok h hi hl
  obtain ⟨k,t,n,nm,kids⟩:=p
  have hih:Ew N T S kids:=fun j hj b o i l w h hi hl=>ih kids[j] b o i l w (by have:=nI kids j hj;simp only [sizeT] at hm;omega) (hok.sub.get j hj) h hi hl
  obtain ⟨h1,h13⟩:=hok.facts.1
  by_cases c1:k=1
  ·subst c1;exact Za N T S b o i t n nm kids l w h hok hi hl
  by_cases c2:k=2
  ·subst c2;exact abj N T S b o i t n nm kids l w h hok hi hl
  by_cases c3:k=3
  ·subst c3;exact Zb N T S b o i t n nm kids l w h hok hi hl
  by_cases c4:k=4
  ·subst c4;exact Zc N T S b o i t n nm kids l w h hok hi hl hih
  by_cases c5:k=5
  ·subst c5;exact abk N T S b o i t n nm kids l w h hok hi hl hih
  by_cases c6:k=6
  ·subst c6;exact Zg N T S b o i t n nm kids l w h hok hi hl hih
  by_cases c7:k=7
  ·subst c7
   by_cases hp:i=5
   ·exact Zd N T S b o i t n nm kids l w h hok hp hl hih
   ·exact abl N T S b o i t n nm kids l w h hok (by omega) hl hih
  ·by_cases hp:dA k<i
   ·exact Zf N T S b o i t n nm kids l w k (by omega) h hok hi hp hl hih
   ·exact abm N T S b o i t n nm kids l w k (by omega) h hok hi hp hl hih
end Go.Proofs.YtefjbnhpjdhjmaaGreatDoor

namespace Go.Proofs.YtefjbnhpjdhjmaaGreatDoor
set_option linter.all false
open Go.RowKit
set_option maxRecDepth 100000
set_option maxHeartbeats 4000000
theorem Lh (p:aA) (v:Value) (w:World) (hp:gZ w (· < w.heap.size) v p) (hok:lS p) (hsz:sizeT p≤4096) (hg:Glob w) (hgl:0<w.heap.size∧1<w.heap.size) :
  Calls Tryz.prog 15 #[v] w (zy (aP p 1) w):=by
 obtain ⟨c,rfl,hb⟩:=hp.box 24 (fun b hb=>hb)
 obtain ⟨ka,cap,hv,hz,hk⟩:=hp
 simp only [Value.agg.injEq] at hv
 subst hv
 have kA:Kept aF w (w.alloc (.cells #[.int .i64 p.kind,.string p.text,.int .i64 p.n,.string p.name,.slice ka p.kids.length cap] 24)):=(Kept.refl _ _).alloc _
 obtain ⟨w1,hw1⟩:∃w1,w1=(w.alloc (.cells #[.int .i64 p.kind,.string p.text,.int .i64 p.n,.string p.name,.slice ka p.kids.length cap] 24)):=⟨_,rfl⟩
 rw [←hw1] at hb kA
 have hs1:w1.heap.size=w.heap.size+1:=by rw [hw1];simp
 have hb':dL w1 (· < w1.heap.size) w.heap.size 0 p:=dL.same (fun _ _=>rfl) (fun b hb=>by rcases hb with hb|rfl<;>omega) _ _ _ hb
 obtain ⟨w2,hw2⟩:∃w2,w2=w1.alloc (.cells #[.pointer none,.slice none 0 0] 77):=⟨_,rfl⟩
 have k2:Kept aF w1 w2:=by rw [hw2];exact (Kept.refl aF w1).alloc _
 have hs2:w2.heap.size=w1.heap.size+1:=by rw [hw2];simp
 have hlen:=BD p 1 hok
 have SP:Hid (rP w1.heap.size w1.heap.size (· < w1.heap.size) w.heap.size 0 p [] w2):=by
  refine ⟨.inl ⟨Nat.le_refl _,.slice none 0 0,?_,⟨rfl,.inl ⟨rfl,rfl⟩⟩,by simp [Value.ownBlock]⟩,hg.below (kA.trans k2).below hgl,by omega,hb'.kept k2 (fun b hb=>⟨hb,fun h=>h⟩),fun y hy=>hy,Nat.le_refl _,by omega⟩
  rw [hw2];exact ay w1 _
 have HW1:=ah hw1;have HW2:=ah hw2;have Eu:=ah (kA.trans k2)
 have HX:Hid (Calls Tryz.prog 38 #[.pointer (some ⟨w1.heap.size,0,none⟩),.pointer (some ⟨w.heap.size,0,none⟩),.int .i64 1] w2 (OJ w1.heap.size w1.heap.size (aP p 1) w2)):=by
  have h:=abn w1.heap.size w1.heap.size _ 4096 p w.heap.size 0 1 [] w2 hsz hok SP.out (by omega) (by unfold big;simp only [List.length_nil];omega)
  unfold oZ at h
  rw [List.nil_append] at h
  exact h
 clear hb hb' hk hz hg hw1 hw2 k2 kA hok
 go_enter Tryz.func15, Tryz.ntmps15
 go_upto_region 1 with fail
 rw [←HW1.out]
 go_upto_region 2 with fail
 rw [←HW2.out]
 go_wp2_with fail
 rw [←hs1]
 refine HX.out.mono ?_
 rintro e w5 ⟨rfl,B5,K5⟩
 have hs5:=Kept.size K5
 have K05:Hid (Kept aF w w5):=Eu.out.step K5 (fun y hy=>.inr (by rcases hy with rfl|⟨h,_⟩<;>omega))
 have H5:=ah B5
 clear B5 K5
 go_wp2_with fail
 rw [←hs1]
 refine (Tryz.Builder_String_any_f w1.heap.size w1.heap.size (aP p 1) w5 H5.out (by omega)).mono ?_
 rintro e w6 ⟨rfl,_,hb6⟩
 have NS:Hid (Kept aF w w6):=K05.out.step (Y:=fun y=>w1.heap.size≤y) ⟨hb6.os,hb6.tape,hb6.output,hb6.size,fun k hk hy=>hb6.block k (by omega)⟩ (fun y hy=>.inr (by omega))
 clear hb6
 go_wp2_with fail
 go_ret
 exact ⟨rfl,NS.out⟩
end Go.Proofs.YtefjbnhpjdhjmaaGreatDoor

namespace Go.Proofs.YtefjbnhpjdhjmaaGreatDoor
set_option linter.all false
open Go.RowKit
set_option maxRecDepth 100000
set_option maxHeartbeats 4000000
theorem Vw (w:World):Calls Tryz.prog 37 #[] w fun e w'=>e=.returned (.slice (some ⟨w.heap.size,0,none⟩) 21 21)∧w'=w.alloc (.cells (oU.map Value.string).toArray 9):=by
 go_enter Tryz.func37, Tryz.ntmps37
 go_wp2
 go_ret
 exact ⟨rfl,rfl⟩
theorem print_any (p:aA) (v:Value) (w:World) (hp:gZ w (· < w.heap.size) v p) (hsz:sizeT p≤100000000) (hg:Glob w) (hgl:0<w.heap.size∧1<w.heap.size) :
  Calls Tryz.prog 14 #[v] w (Vu p w):=by
 obtain ⟨c,rfl,hb⟩:=hp.box 27 (fun b hb=>hb)
 obtain ⟨ka,cap,hv,hz,hk⟩:=hp
 simp only [Value.agg.injEq] at hv
 subst hv
 have kA:Kept aF w (w.alloc (.cells #[.int .i64 p.kind,.string p.text,.int .i64 p.n,.string p.name,.slice ka p.kids.length cap] 27)):=(Kept.refl _ _).alloc _
 obtain ⟨w1,hw1⟩:∃w1,w1=(w.alloc (.cells #[.int .i64 p.kind,.string p.text,.int .i64 p.n,.string p.name,.slice ka p.kids.length cap] 27)):=⟨_,rfl⟩
 rw [←hw1] at hb kA
 have hs1:w1.heap.size=w.heap.size+1:=by rw [hw1];simp
 have hb':dL w1 (· < w1.heap.size) w.heap.size 0 p:=dL.same (fun _ _=>rfl) (fun b hb=>by rcases hb with hb|rfl<;>omega) _ _ _ hb
 have PV:Hid (gZ w1 (· < w1.heap.size) (.agg #[.int .i64 p.kind,.string p.text,.int .i64 p.n,.string p.name,.slice ka p.kids.length cap]) p):=⟨ka,cap,rfl,hz,hk.to kA (fun b hb=>⟨hb,fun h=>h⟩) (fun b hb=>by omega)⟩
 have HB:=ah hb';have KA:=ah kA;have HG:=ah hg;have HW1:=ah hw1
 obtain ⟨_,_,p0,p1,p2,p3,ka',cap',p4,_⟩:=hb'.open
 have e4:w1.cell? ⟨w.heap.size,0+4,none⟩=some (.slice ka p.kids.length cap):=by rw [hw1];rw [cell_of_row _ _ _ _ _ _ (ay w _)];rfl
 clear p4 hb hb' kA hk hz hg hw1
 go_enter Tryz.func14, Tryz.ntmps14
 go_upto_region 1 with fail
 rw [←HW1.out]
 go_wp2_with fail
 refine (xO p _ w1 PV.out hsz).mono ?_
 rintro e w2 ⟨rfl,K2⟩
 have hs2:=K2.size
 have KK2:=ah (KA.out.trans K2)
 by_cases hw:bJ p=0
 ·have hb:(bJ p != 0)=false:=by rw [hw];rfl
  obtain ⟨hok,afh⟩:=BU hw
  have hlen:=GV p 2 hok
  have hB2:=HB.out.kept K2 (fun b hb=>⟨hb,fun h=>h⟩)
  obtain ⟨w4,hw4⟩:∃w4,w4=(w2.alloc (.cells #[.pointer none,.slice none 0 0] 77)).alloc (.cells (oU.map Value.string).toArray 9):=⟨_,rfl⟩
  have k24:Kept aF w2 w4:=by rw [hw4];exact ((Kept.refl aF w2).alloc _).alloc _
  have hs4:w4.heap.size=w2.heap.size+2:=by rw [hw4];simp
  have SP:Hid (qg w2.heap.size w2.heap.size (w2.heap.size+1) (· < w1.heap.size) w.heap.size 0 p [] w4):=by
   refine ⟨.inl ⟨Nat.le_refl _,.slice none 0 0,?_,⟨rfl,.inl ⟨rfl,rfl⟩⟩,by simp [Value.ownBlock]⟩,?_,HG.out.below (KK2.out.trans k24).below hgl,by omega,hB2.kept k24 (fun b hb=>⟨Nat.lt_of_lt_of_le hb hs2,fun h=>h⟩),fun y hy=>Nat.lt_of_lt_of_le hy hs2,Nat.le_refl _,by omega,by omega⟩
   ·rw [hw4,Below.heap_alloc _ _ _ (by simp)];exact ay w2 _
   ·rw [hw4];exact dK (by simp)
  have zA:=ah hw4;have D5:=ah (KK2.out.trans k24)
  have hw0:=hw
  clear hB2 k24 hw4 K2 hok p0 p1 p2 p3 e4 PV
  go_wp2_with fail
  refine (Vw _).mono ?_
  rintro e w' ⟨rfl,rfl⟩
  have en:(w2.alloc (.cells #[.pointer none,.slice none 0 0] 77)).heap.size=w2.heap.size+1:=by simp
  rw [←zA.out]
  simp only [en]
  go_wp2_with fail
  refine (Vx _ _ _ _ 4096 p w.heap.size 0 2 [] w4 afh (BU hw0).1 SP.out (by omega) (by unfold big;simp only [List.length_nil];omega)).mono ?_
  rintro e w5 ⟨rfl,B5,K5⟩
  rw [List.nil_append] at B5
  have hs5:=Kept.size K5
  have K05:Hid (Kept aF w w5):=D5.out.step K5 (fun y hy=>.inr (by rcases hy with rfl|⟨h,_⟩<;>omega))
  have H5:=ah B5
  clear B5 K5
  go_wp2_with fail
  refine (Tryz.Builder_Len_f w2.heap.size w2.heap.size _ w5 H5.out).mono ?_
  rintro e w' ⟨rfl,rfl⟩
  rw [Lib.byteCells_length]
  by_cases hl:65536<(aG p 2).length
  ·have hl1:decide ((65536:Int)<((aG p 2).length:Int))=true:=ak (by omega)
   have hr:fU p=([],4):=by unfold fU;rw [if_neg (by simp [hw0]),if_pos hl]
   have HR:=ah hr
   clear hr hlen
   go_wp2_with fail
   exact bodyPost_ret (v:=.tuple #[.string ⟨#[]⟩,.int .i64 4]) (by simp [results,Tryz.results14,go_sem]) rfl ⟨by rw [HR.out],K05.out⟩
  ·have hl1:decide ((65536:Int)<((aG p 2).length:Int))=false:=au (by omega)
   have hr:fU p=(aG p 2,0):=by unfold fU;rw [if_neg (by simp [hw0]),if_neg hl]
   have HR:=ah hr
   clear hr hlen
   go_wp2_with fail
   refine (Tryz.Builder_String_any_f w2.heap.size w2.heap.size (aG p 2) w' H5.out (by omega)).mono ?_
   rintro e w6 ⟨rfl,_,hb6⟩
   have NS:Hid (Kept aF w w6):=K05.out.step (Y:=fun y=>w2.heap.size≤y) ⟨hb6.os,hb6.tape,hb6.output,hb6.size,fun k hk hy=>hb6.block k (by omega)⟩ (fun y hy=>.inr (by omega))
   clear hb6
   go_wp2_with fail
   exact bodyPost_ret (v:=.tuple #[.string ⟨(aG p 2).toArray⟩,.int .i64 0]) (by simp [results,Tryz.results14,go_sem]) rfl ⟨by rw [HR.out],NS.out⟩
 ·have hb:(bJ p != 0)=true:=by simpa using hw
  have hr:fU p=([],bJ p):=by unfold fU;rw [if_pos hw]
  have HR:=ah hr
  clear hr K2
  go_wp2_with fail
  exact bodyPost_ret (v:=.tuple #[.string ⟨#[]⟩,.int .i64 (bJ p)]) (by simp [results,Tryz.results14,go_sem]) rfl ⟨by rw [HR.out],KK2.out⟩
end Go.Proofs.YtefjbnhpjdhjmaaGreatDoor

namespace Go.Proofs.YtefjbnhpjdhjmaaGreatDoor
set_option linter.all false
open Go.RowKit
theorem toList_inj {a b:aj} (h:a.toList=b.toList):a=b:=by
 rw [ByteArray.toList_eq,ByteArray.toList_eq] at h
 cases a;cases b;simpa using h
theorem TL {a b:aj} (h:¬a=b):(a.toList==b.toList)=false:=by
 rw [Bool.eq_false_iff];intro e;exact h (toList_inj (by simpa using e))
theorem Wv {a b:aj} (h:a=b):(a.toList==b.toList)=true:=by subst h;simp
end Go.Proofs.YtefjbnhpjdhjmaaGreatDoor
