/-  -/
import Derived.Test.YtefjbnhpjdhjmaaGreatDoorTm13
import Derived.Test.YtefjbnhpjdhjmaaGreatDoorTm2
import Derived.Test.YtefjbnhpjdhjmaaGreatDoorRd3
import Derived.BigQuiet
import Derived.WalkSmall
import Derived.Lib.LaidTab
import Derived.Test.YtefjbnhpjdhjmaaGreatDoorTm9
import Derived.Laws.IdiomStrings
import Derived.Test.YtefjbnhpjdhjmaaGreatDoorTm1
import Derived.Maps.Own
import Derived.Maps.OwnOps
import Derived.Maps.OwnSet
import Derived.Maps.Views
import Derived.Recover
import Derived.Defers
import Derived.Deep.RegionWith
import Derived.Deep.CutRange
namespace Go.Proofs.YtefjbnhpjdhjmaaGreatDoor
set_option linter.all false
open Go.RowKit
structure Has (s:aj) (i:Nat) (l r:List UInt8):Prop where
 eq:s.data.toList.drop i=l++r
 le:i≤s.size
section
variable {s:aj} {i:Nat} {l m r:List UInt8} {c:UInt8}
theorem Has.size (h:Has s i l r):i+l.length+r.length=s.size:=by
 have:=congrArg List.length h.eq
 rw [List.length_drop,List.length_append] at this
 have e:s.data.toList.length=s.size:=rfl
 have:=h.le
 omega
theorem Has.next (h:Has s i (l++m) r):Has s (i+l.length) m r:=by
 refine ⟨?_,by have:=h.size;simp at this;omega⟩
 rw [←List.drop_drop,h.eq,List.append_assoc,List.drop_left]
theorem Has.split (h:Has s i (l++m) r):Has s i l (m++r):=⟨by rw [h.eq,List.append_assoc],h.le⟩
theorem Has.tail (h:Has s i (c::l) r):Has s (i+1) l r:=by simpa using Has.next (l:=[c]) (m:=l) (by simpa using h)
theorem Has.lt (h:Has s i (c::l) r):i<s.size:=by have:=h.size;simp at this;omega
theorem Has.byte (h:Has s i (c::l) r):s[i]'h.lt=c:=by
 have:=h.eq
 rw [drop_cons h.lt] at this
 exact (List.cons.inj this).1
theorem Has.peek (h:Has s i (c::l) r):peek s i=c.toNat:=by unfold Go.Proofs.YtefjbnhpjdhjmaaGreatDoor.peek;rw [dif_pos h.lt,h.byte]
theorem Has.skip (h:Has s i (c::l) r) (hc:c≠32):skip s i=i:=Ez h.lt (by rw [h.byte];intro e;exact hc (UInt8.toNat_inj.1 (by simpa using e)))
theorem Has.FP {d:UInt8} (h:Has s i (32::d::l) r) (hd:d≠32):Go.Proofs.YtefjbnhpjdhjmaaGreatDoor.skip s i=i+1:=by
 rw [wH h.lt (by rw [h.byte];rfl),h.tail.skip hd]
theorem Has.ends (h:Has s i [] []):i=s.size:=by have:=h.size;simpa using this
theorem Has.rest (h:Has s i [] (c::r)):Has s i [c] r:=⟨by rw [h.eq];rfl,h.le⟩
theorem Has.done (h:Has s i l r):Has s (i+l.length) [] r:=Has.next (m:=[]) (by simpa using h)
end
def mW (f:UInt8→Bool) (r:List UInt8):Prop:=∀c t,r=c::t→f c=false
theorem yu {f:UInt8→Bool}:∀{l r:List UInt8},(∀c∈l,f c=true)→mW f r→(l++r).takeWhile f=l
 | [],[],_,_=>rfl
 | [],c::t,_,h=>by rw [List.nil_append,List.takeWhile_cons,if_neg (by simp [h c t rfl])]
 | c::l,r,h,hr=>by
  rw [List.cons_append,List.takeWhile_cons,if_pos (h c (by simp)),yu (fun d hd=>h d (by simp [hd])) hr]
theorem MJ {s:aj} {i:Nat} {c:UInt8} {l r:List UInt8} (hw:∀d∈c::l,gu d=true) (hc:65≤c.toNat∧c.toNat≤90) (h:Has s i (c::l) r) (hr:mW gu r) :
  gK s i=.ok ((⟨(c::l).toArray⟩,i),i+(c::l).length):=by
 have h1:skip s i=i:=h.skip (by intro e;subst e;revert hc;decide)
 have h2:bQ gu s i=i+(c::l).length:=by unfold bQ;rw [h.eq,yu hw hr]
 have h3:s.extract i (i+(c::l).length)=⟨(c::l).toArray⟩:=by
  apply ByteArray.ext
  apply Array.ext'
  have:(s.extract i (i+(c::l).length)).data.toList=(s.data.toList.drop i).take (c::l).length:=by simp
  rw [this,h.eq,List.take_left]
 unfold gK
 rw [h1,if_pos (by rw [h.peek];omega),h2,h3]
theorem Fe {s:aj} {i:Nat} {nm:aj} {r:List UInt8} (hn:aS nm=true) (h:Has s i nm.data.toList r) (hr:mW gu r):nameP s i=.ok (nm,i+nm.data.toList.length):=by
 obtain ⟨x,hx⟩:∃x,x=nm.data.toList:=⟨_,rfl⟩
 have e:nm.data.toList.length=nm.size:=rfl
 have hs:=jD hn
 unfold aS at hn
 simp only [Bool.and_eq_true,decide_eq_true_eq,List.all_eq_true,List.mem_range] at hn
 obtain ⟨⟨h1,_⟩,h2⟩:=hn
 rw [←hx] at h h2⊢
 rw [←e,←hx] at h1 h2
 cases x with
 | nil=>simp at h1
 | cons c l =>
  have h0:=h2 0 (by simp)
  have hw:∀d∈c::l,gu d=true:=by
   intro d hd
   obtain ⟨j,hj,rfl⟩:=List.getElem_of_mem hd
   have:=h2 j hj
   rw [List.getD_eq_getElem?_getD,List.getElem?_eq_getElem hj] at this
   simp only [Option.getD_some] at this
   unfold kW at this
   unfold gu
   revert this
   cases iR (c::l)[j]<;>cases dS (c::l)[j]<;>simp
  have hc:65≤c.toNat∧c.toNat≤90:=by
   simp only [List.getD_cons_zero] at h0
   unfold kW iR at h0
   simpa using h0
  unfold nameP
  rw [MJ hw hc h hr]
  have en:(⟨(c::l).toArray⟩:aj)=nm:=by rw [hx]
  rw [en]
  dsimp only
  rw [if_neg (by omega)]
theorem CY:∀(l r:List UInt8),mW (fun c=>c==39) r→fM (nP l++39::r)=some (l,(nP l).length+1)
 | [],[],_=>rfl
 | [],d::r,h=>by
  have hd:¬d=39:=by have:=h d r rfl;simpa using this
  show fM (39::d::r)=_
  rw [fM,if_pos rfl,if_neg hd];rfl
 | c::l,r,h=>by
  have ih:=CY l r h
  by_cases hc:c=39
  ·subst hc
   rw [nP,if_pos rfl]
   show fM (39::39::(nP l++39::r))=_
   rw [fM,if_pos rfl,if_pos rfl,ih];rfl
  ·rw [nP,if_neg hc,List.cons_append]
   cases hx:nP l++39::r with
   | nil=>simp at hx
   | cons d t =>
    rw [fM,if_neg hc,←hx,ih];rfl
theorem MK {s:aj} {i:Nat} {t:aj} {r:List UInt8} (h:Has s i (gJ t) r) (hr:mW (fun c=>c==39) r):iL s i=.ok ((t,i),i+(gJ t).length):=by
 unfold gJ at h
 have hn:dh 39 s i=.ok (i+1):=by
  unfold dh;rw [h.skip (by decide),if_pos (by rw [h.peek];rfl)]
 unfold iL
 rw [hn]
 dsimp only
 have ht:=h.tail
 rw [ht.eq,List.append_assoc,List.singleton_append,CY _ _ hr]
 unfold mX
 simp only [List.nil_append,gJ,List.length_cons,List.length_append,List.length_nil]
 have e1:i+1-1=i:=by omega
 have e2:i+1+((nP t.data.toList).length+1)=i+((nP t.data.toList).length+(0+1)+1):=by omega
 rw [e1,e2]
theorem Dq {s:aj} {k:Nat} {c:UInt8} {r:List UInt8} {d:Nat} (hd:d<10) (hc:c=UInt8.ofNat (48+d)) (h:Has s k [c] r):DT s k=true∧(peek s k).toNat-48=d∧peek s k=48+(d:Int):=by
 have hp:=h.peek
 have:c.toNat=48+d:=by rw [hc];simp;omega
 unfold DT
 rw [hp,this]
 refine ⟨by simp;omega,by omega,by omega⟩
theorem ML {s:aj} {j:Nat}:∀(g u:Nat),u<10 ^ g→u≤65536→∀(r:List UInt8) (f:Nat),Has s j (Lib.decDigits u) r→(Lib.decDigits u).length≤f→
  nH s j f j 0=nH s j (f-(Lib.decDigits u).length) (j+(Lib.decDigits u).length) u
 | 0,u,h,_,r,f,hh,hf=>by
  have:u=0:=by simpa using h
  subst this
  rw [Lib.decDigits,dif_pos (by omega)] at hh hf⊢
  obtain ⟨f,rfl⟩:∃f',f=f'+1:=⟨f-1,by simp at hf;omega⟩
  obtain ⟨h1,h2,_⟩:=Dq (d:=0) (by omega) rfl hh
  rw [nH,if_pos h1,if_neg (by omega),if_neg (by rw [h2];omega),h2]
  simp
 | g+1,u,hg,h6,r,f,hh,hf=>by
  by_cases hu:u<10
  ·rw [Lib.decDigits,dif_pos hu] at hh hf⊢
   obtain ⟨f,rfl⟩:∃f',f=f'+1:=⟨f-1,by simp at hf;omega⟩
   obtain ⟨h1,h2,_⟩:=Dq hu rfl hh
   rw [nH,if_pos h1,if_neg (by omega),if_neg (by rw [h2];omega),h2]
   simp
  ·have hd:Lib.decDigits u=Lib.decDigits (u/10)++[UInt8.ofNat (48+u % 10)]:=by rw [Lib.decDigits,dif_neg hu]
   rw [hd] at hh hf⊢
   rw [List.length_append] at hf⊢
   simp only [List.length_cons,List.length_nil] at hf⊢
   have ih:=ML (s:=s) (j:=j) g (u/10) (by rw [Nat.pow_succ] at hg;omega) (by omega) _ f hh.split (by omega)
   rw [ih]
   have hn:=hh.next
   obtain ⟨h1,h2,_⟩:=Dq (d:=u % 10) (by omega) rfl hn
   obtain ⟨f',hf'⟩:∃f',f-(Lib.decDigits (u/10)).length=f'+1:=⟨f-(Lib.decDigits (u/10)).length-1,by omega⟩
   rw [hf',nH,if_pos h1,h2]
   rw [if_neg,if_neg (by omega)]
   ·have e1:f-((Lib.decDigits (u/10)).length+(0+1))=f':=by omega
    have e2:10*(u/10)+u % 10=u:=by omega
    rw [e1,e2];rfl
   ·rintro ⟨hk,hz⟩
    have hl:(Lib.decDigits (u/10)).length=1:=by omega
    by_cases hq:u/10<10
    ·have hx:=hh.split
     rw [Lib.decDigits,dif_pos hq] at hx
     have:=(Dq hq rfl ⟨hx.eq,hx.le⟩).2.2
     omega
    ·rw [Lib.decDigits,dif_neg hq,List.length_append] at hl
     have:0<(Lib.decDigits (u/10/10)).length:=by rw [Lib.decDigits];split<;>simp
     simp only [List.length_cons,List.length_nil] at hl;omega
theorem aac {s:aj} {i n:Nat} {r:List UInt8} (hn:n≤65536) (h:Has s i (Lib.decDigits n) r) (hr:mW dS r):lW s i=.ok (n,i+(Lib.decDigits n).length):=by
 obtain ⟨c,l,hd,hc⟩:∃c l,Lib.decDigits n=c::l∧48≤c.toNat∧c.toNat≤57:=by
  have key:∀(g u:Nat),u<10 ^ g→∃c l,Lib.decDigits u=c::l∧48≤c.toNat∧c.toNat≤57:=by
   intro g
   induction g with
   | zero =>
        intro u hu;have:u=0:=by simpa using hu
        subst this;exact ⟨48,[],by rw [Lib.decDigits,dif_pos (by omega)];rfl,by decide,by decide⟩
   | succ g ih =>
    intro u hu
    by_cases h10:u<10
    ·refine ⟨UInt8.ofNat (48+u),[],by rw [Lib.decDigits,dif_pos h10],?_,?_⟩<;>simp<;>omega
    ·obtain ⟨c,l,h1,h2⟩:=ih (u/10) (by rw [Nat.pow_succ] at hu;omega)
     exact ⟨c,l++[UInt8.ofNat (48+u % 10)],by rw [Lib.decDigits,dif_neg h10,h1];rfl,h2⟩
  exact key 5 n (by omega)
 have h':=h
 rw [hd] at h'
 have h1:skip s i=i:=h'.skip (by intro e;subst e;revert hc;decide)
 have hlen:=BK 5 n (by omega)
 have hsz:=h.size
 unfold lW
 rw [h1,if_pos (by rw [h'.peek];omega),ML 5 n (by omega) hn r _ h (by omega)]
 have hdone:=h.done
 cases hf:s.size-i-(Lib.decDigits n).length with
 | zero=>rw [nH]
 | succ f =>
  rw [nH,if_neg]
  intro hD
  cases r with
  | nil=>simp at hsz;omega
  | cons d t =>
   have hp:=hdone.rest.peek
   unfold DT at hD
   rw [hp] at hD
   have:=hr d t rfl
   unfold dS at this
   simp only [Bool.and_eq_true,decide_eq_true_eq] at hD
   rw [Bool.and_eq_false_iff] at this
   simp only [decide_eq_false_iff_not] at this
   omega
end Go.Proofs.YtefjbnhpjdhjmaaGreatDoor

namespace Go.Proofs.YtefjbnhpjdhjmaaGreatDoor
set_option linter.all false
open Go.RowKit
theorem vT (k:Int):([21,22,23,24]:List Int).contains k=decide (bf k):=by
 rw [Bool.eq_iff_iff,decide_eq_true_eq];unfold bf;simp;omega
def SQ (b:Int) (w:World) (e:Ending) (w':World):Prop:=e=.returned (.int .i64 b)∧Kept aF w w'
end Go.Proofs.YtefjbnhpjdhjmaaGreatDoor

namespace Go.Proofs.YtefjbnhpjdhjmaaGreatDoor
set_option linter.all false
open Go.RowKit
structure aC where
 kind:Int
 text:aj
 at_:Nat
def oK (s:aj) (i:Nat):Option Nat:=(fM (s.data.toList.drop i)).map (·.2)
theorem aes {s:aj} {i:Nat} (h:s.size≤i):oK s i=none:=by unfold oK;rw [drop_end h];rfl
theorem abN {s:aj} {i:Nat} (h:i<s.size) (hc:s[i].toNat≠39):oK s i=(oK s (i+1)).map (· + 1):=by
 have hc':¬s[i]=39:=fun e=>hc (by rw [e];rfl)
 unfold oK
 rw [drop_cons h]
 by_cases h2:i+1<s.size
 ·rw [drop_cons h2,fM,if_neg hc']
  cases fM (s[i+1]::s.data.toList.drop (i+1+1))<;>rfl
 ·rw [drop_end (by omega)]
  have e:fM [s[i]]=none:=by rw [fM,if_neg hc']
  rw [e];rfl
theorem aeu {s:aj} {i:Nat} (h:i+1<s.size) (hc:s[i].toNat=39) (hd:s[i+1].toNat=39):oK s i=(oK s (i+2)).map (· + 2):=by
 have hc':s[i]=39:=UInt8.toNat_inj.1 hc
 have hd':s[i+1]=39:=UInt8.toNat_inj.1 hd
 unfold oK
 rw [drop_cons (show i<s.size by omega),drop_cons h,fM,if_pos hc',if_pos hd']
 show ((fM (s.data.toList.drop (i+2))).map _).map _=_
 cases fM (s.data.toList.drop (i+2))<;>rfl
theorem aev {s:aj} {i:Nat} (h:i<s.size) (hc:s[i].toNat=39) (hd:¬∃h:i+1<s.size,s[i+1].toNat=39):oK s i=some 1:=by
 have hc':s[i]=39:=UInt8.toNat_inj.1 hc
 unfold oK
 rw [drop_cons h]
 by_cases h2:i+1<s.size
 ·have hd':¬s[i+1]=39:=fun e=>hd ⟨h2,by rw [e];rfl⟩
  rw [drop_cons h2,fM,if_pos hc',if_neg hd'];rfl
 ·rw [drop_end (by omega),fM,if_pos hc'];rfl
theorem adS {s:aj} {i n:Nat} (h:oK s i=some n):0<n∧i+n≤s.size:=by
 unfold oK at h
 cases ht:fM (s.data.toList.drop i) with
 | none=>rw [ht] at h;cases h
 | some x =>
  obtain ⟨b,m⟩:=x
  rw [ht] at h
  simp only [Option.map_some,Option.some.injEq] at h
  subst h
  have h1:=vJ _ _ _ ht
  rw [List.length_drop] at h1
  have e:s.data.toList.length=s.size:=rfl
  omega
theorem extract_drop (s:aj) (a:Nat):(s.extract a s.size).data.toList=s.data.toList.drop a:=by
 have e:s.data.size=s.size:=rfl
 rw [ByteArray.data_extract,Array.toList_extract,List.extract_eq_drop_take]
 refine List.take_of_length_le ?_
 rw [List.length_drop,Array.length_toList];omega
theorem Fb (s:aj) (a i:Nat):oK (s.extract a s.size) i=oK s (a+i):=by
 unfold oK;rw [extract_drop,List.drop_drop]
def DK (s:aj):Nat→Nat→Option Nat
 | 0,_=>none
 | f+1,i =>
  if h:i<s.size then
   if s[i].toNat=93 then some 1
   else if s[i].toNat=39 then
    match oK s (i+1) with
    | none=>none
    | some n=>(DK s f (i+1+n)).map (· + (n+1))
   else (DK s f (i+1)).map (· + 1)
  else none
theorem Dp {s:aj}:∀(f g i:Nat),s.size-i≤f→s.size-i≤g→DK s f i=DK s g i
 | 0,0,_,_,_=>rfl
 | 0,g+1,i,h,_=>by rw [DK,DK,dif_neg (by omega)]
 | f+1,0,i,_,h=>by rw [DK,DK,dif_neg (by omega)]
 | f+1,g+1,i,h1,h2=>by
  rw [DK,DK]
  split
  ·split
   ·rfl
   ·split
    ·cases hq:oK s (i+1) with
     | none=>rfl
     | some n=>dsimp only;rw [Dp f g _ (by omega) (by omega)]
    ·rw [Dp f g _ (by omega) (by omega)]
  ·rfl
def pO (s:aj) (i:Nat):Option Nat:=DK s (s.size-i) i
theorem FI {s:aj} {i:Nat} (h:s.size≤i):pO s i=none:=by
 unfold pO;rw [show s.size-i=0 by omega];rfl
theorem uG {s:aj} {i:Nat} (h:i<s.size):pO s i=if s[i].toNat=93 then some 1 else if s[i].toNat=39 then (match oK s (i+1) with|none=>none|some n=>(pO s (i+1+n)).map (· + (n+1))) else (pO s (i+1)).map (· + 1):=by
 have e:s.size-i=(s.size-i-1)+1:=by omega
 unfold pO
 rw [e,DK,dif_pos h]
 split
 ·rfl
 ·split
  ·cases hq:oK s (i+1) with
   | none=>rfl
   | some n=>dsimp only;rw [Dp _ (s.size-(i+1+n)) _ (by omega) (Nat.le_refl _)]
  ·rw [Dp _ (s.size-(i+1)) _ (by omega) (Nat.le_refl _)]
theorem UL {s:aj}:∀(m i n:Nat),s.size-i≤m→pO s i=some n→0<n∧i+n≤s.size
 | m,i,n,hm,h=>by
  by_cases hi:i<s.size
  ·rw [uG hi] at h
   split at h
   ·simp only [Option.some.injEq] at h;omega
   ·cases m with
    | zero=>omega
    | succ m =>
     split at h
     ·cases hq:oK s (i+1) with
      | none=>rw [hq] at h;cases h
      | some k =>
       rw [hq] at h
       dsimp only at h
       have hk:=adS hq
       cases hb:pO s (i+1+k) with
       | none=>rw [hb] at h;cases h
       | some x =>
        rw [hb] at h
        simp only [Option.map_some,Option.some.injEq] at h
        have:=UL m (i+1+k) x (by omega) hb
        omega
     ·cases hb:pO s (i+1) with
      | none=>rw [hb] at h;cases h
      | some x =>
       rw [hb] at h
       simp only [Option.map_some,Option.some.injEq] at h
       have:=UL m (i+1) x (by omega) hb
       omega
  ·rw [FI (by omega)] at h;cases h
theorem UM {s:aj} {a i:Nat} (h:a+i<s.size) (h':i<(s.extract a s.size).size):(s.extract a s.size)[i]=s[a+i]:=by
 have e1:(s.extract a s.size)[i]=(s.extract a s.size).data.toList[i]'(by simpa using h'):=by rw [Array.getElem_toList];rfl
 have e2:s[a+i]=s.data.toList[a+i]'(by simpa using h):=by rw [Array.getElem_toList];rfl
 rw [e1,e2]
 simp only [extract_drop,List.getElem_drop]
theorem uM (s:aj) (a:Nat):(s.extract a s.size).size=s.size-a:=by
 have h:=congrArg List.length (extract_drop s a)
 rw [List.length_drop] at h
 exact h
theorem XM (s:aj) (a:Nat):∀(m i:Nat),s.size-(a+i)≤m→pO (s.extract a s.size) i=pO s (a+i):=by
 have hz:=uM s a
 intro m
 induction m with
 | zero=>intro i h;rw [FI (by omega),FI (by omega)]
 | succ m ih =>
  intro i h
  by_cases hi:a+i<s.size
  ·have hi':i<(s.extract a s.size).size:=by omega
   rw [uG hi,uG hi',UM hi hi',Fb]
   split
   ·rfl
   ·split
    ·cases hq:oK s (a+(i+1)) with
     | none=>rfl
     | some n =>
      show (pO (s.extract a s.size) (i+1+n)).map _=(pO s (a+i+1+n)).map _
      rw [ih (i+1+n) (by omega),show a+(i+1+n)=a+i+1+n by omega]
    ·rw [ih (i+1) (by omega),show a+(i+1)=a+i+1 by omega]
  ·rw [FI (by omega),FI (by omega)]
def Aq:List Nat:=[61,63,38,43,45,42,47,37,40,41,60,62,44,58,36]
inductive mY where
 | blank
 | tok (t:aC) (next:Nat)
 | bad (er:Er)
def dI (s:aj) (i:Nat) (h:i<s.size):mY :=
 if s[i].toNat=32 then .blank
 else if 65≤s[i].toNat∧s[i].toNat≤90 then .tok ⟨1,s.extract i (bQ gu s i),i⟩ (bQ gu s i)
 else if 48≤s[i].toNat∧s[i].toNat≤57 then .tok ⟨2,s.extract i (bQ dS s i),i⟩ (bQ dS s i)
 else if s[i].toNat=39 then
  match fM (s.data.toList.drop (i+1)) with
  | none=>.bad (2,s.size)
  | some (b,n)=>.tok ⟨3,⟨b.toArray⟩,i⟩ (i+1+n)
 else if s[i].toNat=91 then
  match pO s (i+1) with
  | none=>.bad (2,s.size)
  | some n=>.tok ⟨4,s.extract (i+1) (i+n),i⟩ (i+1+n)
 else if s[i].toNat=58∧peek s (i+1)=61 then .tok ⟨5,s.extract i (i+2),i⟩ (i+2)
 else if s[i].toNat∈Aq then .tok ⟨5,s.extract i (i+1),i⟩ (i+1)
 else .bad (2,i)
def nZ (s:aj):Nat→Nat→List aC→Except Er (List aC)
 | 0,_,out=>.ok out
 | f+1,i,out =>
  if h:i<s.size then
   match dI s i h with
   | .blank=>nZ s f (i+1) out
   | .tok t k=>nZ s f k (out++[t])
   | .bad er=>.error er
  else .ok out
theorem LK (c:UInt8):dS c=(decide (48≤c.toNat)&&decide (c.toNat≤57)):=by
 rw [Bool.eq_iff_iff];simp [dS]
theorem nO {s:aj} {i:Nat} {h:i<s.size} {t:aC} {k:Nat} (e:dI s i h=.tok t k):i<k∧k≤s.size∧t.at_=i∧t.text.size≤s.size:=by
 have hx:∀a b:Nat,(s.extract a b).size≤s.size:=by
  intro a b
  rw [ByteArray.size_extract];omega
 unfold dI at e
 split at e
 ·cases e
 split at e
 ·rename_i h1
  simp only [mY.tok.injEq] at e
  obtain ⟨rfl,rfl⟩:=e
  have hw:gu s[i]=true:=by rw [Pe];simp;omega
  have h2:=OO gu s (i+1);have h3:=OQ (f:=gu) (show i≤s.size by omega)
  rw [xq h hw] at h3⊢
  exact ⟨by omega,h3,rfl,hx _ _⟩
 split at e
 ·rename_i h1
  simp only [mY.tok.injEq] at e
  obtain ⟨rfl,rfl⟩:=e
  have hw:dS s[i]=true:=by rw [LK];simp;omega
  have h2:=OO dS s (i+1);have h3:=OQ (f:=dS) (show i≤s.size by omega)
  rw [xq h hw] at h3⊢
  exact ⟨by omega,h3,rfl,hx _ _⟩
 split at e
 ·cases ht:fM (s.data.toList.drop (i+1)) with
  | none=>rw [ht] at e;cases e
  | some x =>
   obtain ⟨b,n⟩:=x
   rw [ht] at e
   simp only [mY.tok.injEq] at e
   obtain ⟨rfl,rfl⟩:=e
   have h1:=vJ _ _ _ ht
   rw [List.length_drop] at h1
   have e0:s.data.toList.length=s.size:=rfl
   have e1:(⟨b.toArray⟩:aj).size=b.length:=by show b.toArray.size=_;simp
   exact ⟨by omega,by omega,rfl,by rw [e1];omega⟩
 split at e
 ·cases hb:pO s (i+1) with
  | none=>rw [hb] at e;cases e
  | some n =>
   rw [hb] at e
   simp only [mY.tok.injEq] at e
   obtain ⟨rfl,rfl⟩:=e
   have:=UL _ _ _ (Nat.le_refl _) hb
   exact ⟨by omega,by omega,rfl,hx _ _⟩
 split at e
 ·rename_i h1
  simp only [mY.tok.injEq] at e
  obtain ⟨rfl,rfl⟩:=e
  have:i+1<s.size:=oN (by omega)
  exact ⟨by omega,by omega,rfl,hx _ _⟩
 split at e
 ·simp only [mY.tok.injEq] at e
  obtain ⟨rfl,rfl⟩:=e
  exact ⟨by omega,by omega,rfl,hx _ _⟩
 ·cases e
theorem yN {s:aj}:∀(f g i:Nat) (out:List aC),s.size-i≤f→s.size-i≤g→nZ s f i out=nZ s g i out
 | 0,0,_,_,_,_=>rfl
 | 0,g+1,i,out,h,_=>by rw [nZ,nZ,dif_neg (by omega)]
 | f+1,0,i,out,_,h=>by rw [nZ,nZ,dif_neg (by omega)]
 | f+1,g+1,i,out,h1,h2=>by
  rw [nZ,nZ]
  split
  ·rename_i hi
   cases hs:dI s i hi with
   | blank=>dsimp only;rw [yN f g _ _ (by omega) (by omega)]
   | tok t k=>have:=nO hs;dsimp only;rw [yN f g _ _ (by omega) (by omega)]
   | bad er=>rfl
  ·rfl
def wZ (s:aj) (i:Nat) (out:List aC):Except Er (List aC):=nZ s (s.size-i) i out
theorem Pv {s:aj} {i:Nat} {out:List aC} (h:s.size≤i):wZ s i out=.ok out:=by
 unfold wZ;rw [show s.size-i=0 by omega];rfl
theorem EP {s:aj} {i:Nat} (out:List aC) (h:i<s.size):wZ s i out=match dI s i h with | .blank=>wZ s (i+1) out | .tok t k=>wZ s k (out++[t]) | .bad er=>.error er:=by
 have e:s.size-i=(s.size-i-1)+1:=by omega
 unfold wZ
 rw [e,nZ,dif_pos h]
 cases hs:dI s i h with
 | blank=>dsimp only;rw [yN _ (s.size-(i+1)) _ _ (by omega) (Nat.le_refl _)]
 | tok t k=>have:=nO hs;dsimp only;rw [yN _ (s.size-k) _ _ (by omega) (Nat.le_refl _)]
 | bad er=>rfl
def mV (s:aj):Except Er (List aC):=if 2000<s.size then .error (4,0) else wZ s 0 []
def D6 (t:aC):List Value:=[.int .i64 t.kind,.string t.text,.int .i64 t.at_]
def oD (l:List aC):List Value:=l.flatMap D6
theorem QM (a b:List aC):oD (a++b)=oD a++oD b:=by unfold oD;rw [List.flatMap_append]
theorem ZW (t:aC):oD [t]=D6 t:=by simp [oD]
end Go.Proofs.YtefjbnhpjdhjmaaGreatDoor

namespace Go.Proofs.YtefjbnhpjdhjmaaGreatDoor
set_option linter.all false
open Go.RowKit
set_option maxRecDepth 100000
set_option maxHeartbeats 2000000
def Na (b:Bool) (w:World) (e:Ending) (w':World):Prop:=e=.returned (.bool b)∧w'=w
theorem jd (c:UInt8) (w:World):Calls Tryz.prog 41 #[.int .u8 c.toNat] w (Na (iR c) w):=by
 rcases (show c.toNat<65∨(65≤c.toNat∧c.toNat≤90)∨90<c.toNat by omega) with h|⟨h,h2⟩|h
 ·have fin:Hid (iR c=false):=by unfold Hid iR;simp;omega
  have d1:decide ((65:Int)≤(c.toNat:Int))=false:=au (by omega)
  have d2:decide (65≤c.toNat)=false:=au (by omega)
  clear h
  go_enter Tryz.func41, Tryz.ntmps41
  go_wp2_with fail
  go_ret
  exact ⟨by rw [fin.out];rfl,rfl⟩
 ·have fin:Hid (iR c=true):=by unfold Hid iR;simp;omega
  have d1:decide ((65:Int)≤(c.toNat:Int))=true:=ak (by omega)
  have d2:decide (65≤c.toNat)=true:=ak (by omega)
  have d3:decide ((c.toNat:Int)≤90)=true:=ak (by omega)
  have d4:decide (c.toNat≤90)=true:=ak (by omega)
  clear h h2
  go_enter Tryz.func41, Tryz.ntmps41
  go_wp2_with fail
  go_ret
  exact ⟨by rw [fin.out];rfl,rfl⟩
 ·have fin:Hid (iR c=false):=by unfold Hid iR;simp;omega
  have d1:decide ((65:Int)≤(c.toNat:Int))=true:=ak (by omega)
  have d2:decide (65≤c.toNat)=true:=ak (by omega)
  have d3:decide ((c.toNat:Int)≤90)=false:=au (by omega)
  have d4:decide (c.toNat≤90)=false:=au (by omega)
  clear h
  go_enter Tryz.func41, Tryz.ntmps41
  go_wp2_with fail
  go_ret
  exact ⟨by rw [fin.out];rfl,rfl⟩
theorem je (c:UInt8) (w:World):Calls Tryz.prog 42 #[.int .u8 c.toNat] w (Na (dS c) w):=by
 rcases (show c.toNat<48∨(48≤c.toNat∧c.toNat≤57)∨57<c.toNat by omega) with h|⟨h,h2⟩|h
 ·have fin:Hid (dS c=false):=by unfold Hid dS;simp;omega
  have d1:decide ((48:Int)≤(c.toNat:Int))=false:=au (by omega)
  have d2:decide (48≤c.toNat)=false:=au (by omega)
  clear h
  go_enter Tryz.func42, Tryz.ntmps42
  go_wp2_with fail
  go_ret
  exact ⟨by rw [fin.out];rfl,rfl⟩
 ·have fin:Hid (dS c=true):=by unfold Hid dS;simp;omega
  have d1:decide ((48:Int)≤(c.toNat:Int))=true:=ak (by omega)
  have d2:decide (48≤c.toNat)=true:=ak (by omega)
  have d3:decide ((c.toNat:Int)≤57)=true:=ak (by omega)
  have d4:decide (c.toNat≤57)=true:=ak (by omega)
  clear h h2
  go_enter Tryz.func42, Tryz.ntmps42
  go_wp2_with fail
  go_ret
  exact ⟨by rw [fin.out];rfl,rfl⟩
 ·have fin:Hid (dS c=false):=by unfold Hid dS;simp;omega
  have d1:decide ((48:Int)≤(c.toNat:Int))=true:=ak (by omega)
  have d2:decide (48≤c.toNat)=true:=ak (by omega)
  have d3:decide ((c.toNat:Int)≤57)=false:=au (by omega)
  have d4:decide (c.toNat≤57)=false:=au (by omega)
  clear h
  go_enter Tryz.func42, Tryz.ntmps42
  go_wp2_with fail
  go_ret
  exact ⟨by rw [fin.out];rfl,rfl⟩
def qL (t:aj) (j:Nat):Nat:=match oK t j with|none=>0|some n=>j+n
theorem ZX {t:aj} {j:Nat} (h:j<t.size) (hc:t[j].toNat≠39):qL t (j+1)=qL t j:=by
 unfold qL;rw [abN h hc]
 cases oK t (j+1) with
 | none=>rfl
 | some n=>show j+1+n=j+(n+1);omega
theorem adT {t:aj} {j:Nat} (h:j+1<t.size) (hc:t[j].toNat=39) (hd:t[j+1].toNat=39):qL t (j+2)=qL t j:=by
 unfold qL;rw [aeu h hc hd]
 cases oK t (j+2) with
 | none=>rfl
 | some n=>show j+2+n=j+(n+2);omega
theorem adU {t:aj} {j:Nat} (h:j<t.size) (hc:t[j].toNat=39) (hd:¬∃h:j+1<t.size,t[j+1].toNat=39):qL t j=j+1:=by
 unfold qL;rw [aev h hc hd]
theorem adV {t:aj} {j:Nat} (h:t.size≤j):qL t j=0:=by unfold qL;rw [aes h]
def yj (n:Nat) (w:World) (e:Ending) (w':World):Prop:=e=.returned (.int .i64 n)∧w'=w
theorem JE (t:aj) (w:World) (hs:t.size≤1000000000):Calls Tryz.prog 43 #[.string t] w (yj (qL t 1) w):=by
 go_enter Tryz.func43, Tryz.ntmps43
 go_wp2_with fail
 go_loopw [3] (fun i wr=>∃j:Nat,i=.int .i64 j∧j≤t.size+1∧Hid (qL t j=qL t 1)∧wr=w) (fun i _=>t.size+1-(intOf i).toNat)
 case atStart=>exact ⟨1,rfl,by omega,rfl,by trivial⟩
 case round =>
  obtain ⟨j,rfl,hj,hq,aU⟩:=hrel
  obtain rfl:=aU.symm
  by_cases hlt:j<t.size
  ·have c1:decide ((j:Int)<(t.size:Int))=true:=ak (by omega)
   have c1':decide (j<t.size)=true:=ak hlt
   have cb:(j:Int)<(t.size:Int):=by omega
   by_cases hc:t[j].toNat=39
   ·have c2:((t[j].toNat:Int) != 39)=false:=by simp;omega
    obtain ⟨m1,Sz⟩:∃m1:Nat,m1=j+1:=⟨_,rfl⟩
    have ag6:(j:Int)+1=(m1:Int):=by omega
    have EM:=ah Sz
    by_cases hd:∃h:j+1<t.size,t[j+1].toNat=39
    ·obtain ⟨h2,h3⟩:=hd
     have step:=ah (adT h2 hc h3)
     have hl1:m1<t.size:=by omega
     have h3':t[m1].toNat=39:=by simp only [Sz];exact h3
     have g3:decide ((m1:Int)<(t.size:Int))=true:=ak (by omega)
     have g3':decide (m1<t.size)=true:=ak hl1
     have g4:((t[m1].toNat:Int)==39)=true:=by simp;omega
     have bi2:(m1:Int)<(t.size:Int):=by omega
     clear hc h3 h3' Sz h2
     go_wp2_with fail
     go_roundw
     case rel=>exact ⟨j+2,by have:=EM.out;go_num,by have:=EM.out;omega,step.out.trans hq.out,by trivial⟩
     case measure=>have:=EM.out;simp [intOf];omega
    ·have fin:Hid (qL t 1=m1):=by unfold Hid;rw [←hq.out,adU hlt hc hd,EM.out]
     by_cases hl1:m1<t.size
     ·have g3:decide ((m1:Int)<(t.size:Int))=true:=ak (by omega)
      have g3':decide (m1<t.size)=true:=ak hl1
      have h3':t[m1].toNat≠39:=fun h=>hd ⟨by omega,by simp only [Sz] at h;exact h⟩
      have g4:((t[m1].toNat:Int)==39)=false:=by simp;omega
      have bi2:(m1:Int)<(t.size:Int):=by omega
      clear hc hd h3' Sz hq
      go_wp2_with fail
      go_ret
      exact ⟨by rw [fin.out];rfl,rfl⟩
     ·have g3:decide ((m1:Int)<(t.size:Int))=false:=au (by omega)
      have g3':decide (m1<t.size)=false:=au hl1
      clear hc hd Sz hq
      go_wp2_with fail
      go_ret
      exact ⟨by rw [fin.out];rfl,rfl⟩
   ·have c2:((t[j].toNat:Int) != 39)=true:=by simp;omega
    have step:=ah (ZX hlt hc)
    clear hc
    go_wp2_with fail
    go_roundw
    case rel=>exact ⟨j+1,by go_num,by omega,step.out.trans hq.out,by trivial⟩
    case measure=>simp [intOf];omega
  ·have c1:decide ((j:Int)<(t.size:Int))=false:=au (by omega)
   have c1':decide (j<t.size)=false:=au hlt
   have fin:Hid (qL t 1=0):=by unfold Hid;rw [←hq.out,adV (by omega)]
   clear hq
   go_wp2_with fail
   go_ret
   exact ⟨by rw [fin.out];rfl,rfl⟩
def bL (t:aj) (j:Nat):Nat:=match pO t j with|none=>0|some n=>j+n
theorem ZY {t:aj} {j:Nat} (h:j<t.size) (hc:t[j].toNat=93):bL t j=j+1:=by unfold bL;rw [uG h,if_pos hc]
theorem abO {t:aj} {j:Nat} (h:j<t.size) (hc:t[j].toNat=39) (hq:oK t (j+1)=none):bL t j=0:=by
 unfold bL;rw [uG h,if_neg (by omega),if_pos hc,hq]
theorem abP {t:aj} {j n:Nat} (h:j<t.size) (hc:t[j].toNat=39) (hq:oK t (j+1)=some n):bL t (j+1+n)=bL t j:=by
 unfold bL;rw [uG h,if_neg (by omega),if_pos hc,hq]
 dsimp only
 cases pO t (j+1+n) with
 | none=>rfl
 | some m=>show j+1+n+m=j+(m+(n+1));omega
theorem Z7 {t:aj} {j:Nat} (h:j<t.size) (h1:t[j].toNat≠93) (h2:t[j].toNat≠39):bL t (j+1)=bL t j:=by
 unfold bL;rw [uG h,if_neg h1,if_neg h2]
 cases pO t (j+1) with
 | none=>rfl
 | some m=>show j+1+m=j+(m+1);omega
theorem adW {t:aj} {j:Nat} (h:t.size≤j):bL t j=0:=by unfold bL;rw [FI h]
theorem MZ (t:aj) (w:World) (hs:t.size≤1000000000):Calls Tryz.prog 45 #[.string t] w (yj (bL t 1) w):=by
 have hQ:Hid (∀(j:Nat),Calls Tryz.prog 43 #[.string (t.extract j t.size)] w (yj (qL (t.extract j t.size) 1) w)):=fun j=>JE _ w (by rw [uM];omega)
 go_enter Tryz.func45, Tryz.ntmps45
 go_wp2_with fail
 go_loopw [3] (fun i wr=>∃j:Nat,i=.int .i64 j∧j≤t.size+1∧Hid (bL t j=bL t 1)∧wr=w) (fun i _=>t.size+1-(intOf i).toNat)
 case atStart=>exact ⟨1,rfl,by omega,rfl,by trivial⟩
 case round =>
  obtain ⟨j,rfl,hj,hq,aU⟩:=hrel
  obtain rfl:=aU.symm
  by_cases hlt:j<t.size
  ·have c1:decide ((j:Int)<(t.size:Int))=true:=ak (by omega)
   have c1':decide (j<t.size)=true:=ak hlt
   have cb:(j:Int)<(t.size:Int):=by omega
   by_cases hc:t[j].toNat=93
   ·have c2:((t[j].toNat:Int)==93)=true:=by simp;omega
    have fin:Hid (bL t 1=j+1):=by unfold Hid;rw [←hq.out,ZY hlt hc]
    clear hc hq
    go_wp2_with fail
    go_ret
    exact ⟨by rw [fin.out];rfl,rfl⟩
   have c2:((t[j].toNat:Int)==93)=false:=by simp;omega
   by_cases hd:t[j].toNat=39
   ·have c3:((t[j].toNat:Int)==39)=true:=by simp;omega
    have eq1:qL (t.extract j t.size) 1=match oK t (j+1) with|none=>0|some n=>n+1:=by
     unfold qL;rw [Fb]
     cases oK t (j+1) with
     | none=>rfl
     | some n=>show 1+n=n+1;omega
    cases hqa:oK t (j+1) with
    | none =>
     rw [hqa] at eq1
     have fin:Hid (bL t 1=0):=by unfold Hid;rw [←hq.out,abO hlt hd hqa]
     have HQ:Hid (Calls Tryz.prog 43 #[.string (t.extract j t.size)] w (yj 0 w)):=by have h:=hQ.out j;rw [eq1] at h;exact h
     clear hc hd hq hqa eq1
     go_wp2_with (go_at_call 43;(refine HQ.out.mono ?_);rintro e w' ⟨rfl,aU⟩;obtain rfl:=aU.symm)
     go_ret
     exact ⟨by rw [fin.out];rfl,rfl⟩
    | some n =>
     rw [hqa] at eq1
     have hle:=adS hqa
     have step:=ah (abP hlt hd hqa)
     have HQ:Hid (Calls Tryz.prog 43 #[.string (t.extract j t.size)] w (yj (n+1) w)):=by have h:=hQ.out j;rw [eq1] at h;exact h
     obtain ⟨n1,JF⟩:∃n1:Nat,n1=n+1:=⟨_,rfl⟩
     rw [←JF] at HQ
     have EN:=ah JF
     have HW:Hid (wrap64 (wrap64 ((j:Int)+wrap64 ((n1:Int)-1))+1)=((j+1+n:Nat):Int)):=by unfold Hid wrap64;omega
     have zn:((n1:Int)==0)=false:=by simp;omega
     clear hc hd hqa eq1 JF
     go_wp2_with (go_at_call 43;(refine HQ.out.mono ?_);rintro e w' ⟨rfl,aU⟩;obtain rfl:=aU.symm)
     go_roundw
     case rel=>exact ⟨j+1+n,congrArg (Value.int .i64) HW.out,by omega,step.out.trans hq.out,by trivial⟩
     case measure=>simp only [intOf,HW.out];omega
   ·have c3:((t[j].toNat:Int)==39)=false:=by simp;omega
    have step:=ah (Z7 hlt hc hd)
    clear hc hd
    go_wp2_with fail
    go_roundw
    case rel=>exact ⟨j+1,by go_num,by omega,step.out.trans hq.out,by trivial⟩
    case measure=>simp [intOf];omega
  ·have c1:decide ((j:Int)<(t.size:Int))=false:=au (by omega)
   have c1':decide (j<t.size)=false:=au hlt
   have fin:Hid (bL t 1=0):=by unfold Hid;rw [←hq.out,adW (by omega)]
   clear hq
   go_wp2_with fail
   go_ret
   exact ⟨by rw [fin.out];rfl,rfl⟩
end Go.Proofs.YtefjbnhpjdhjmaaGreatDoor

namespace Go.Proofs.YtefjbnhpjdhjmaaGreatDoor
set_option linter.all false
open Go.RowKit
set_option maxRecDepth 100000
def Glob (w:World):Prop:=(∃m,w.cell? ⟨0,0,none⟩=some (.int .i64 m))∧Lib.TabIs Tryz.prog w "internal/strconv.uint64pow10" .u64 Lib.pow10Tab
theorem Glob.below {w w':World} {B:Nat} (h:Glob w) (hb:Below B w w') (hB:0<B∧1<B):Glob w':=by
 obtain ⟨⟨m,hm⟩,ht⟩:=h
 exact ⟨⟨m,(World.cell?_of_block (hb.block _ hB.1)).trans hm⟩,var?_below hb (by kernel_rfl:Tryz.prog.globalNamed "internal/strconv.uint64pow10" = some 1) hB.2 ht⟩
theorem Kept.of_below {w w':World} (h:Below w.heap.size w w'):Kept aF w w':=⟨h.os,h.tape,h.output,h.size,fun k hk _=>h.block k hk⟩
def zy (l:List UInt8) (w:World) (e:Ending) (w':World):Prop:=e=.returned (.string ⟨l.toArray⟩)∧Kept aF w w'
theorem Qz (s:aj) (w:World) (hg:Glob w) (hs:s.size≤1000000000) :
  Calls Tryz.prog 44 #[.string s,.string ⟨#[39]⟩,.string ⟨#[39,39]⟩] w (zy (nP s.data.toList) w):=by
 obtain ⟨⟨m,hm⟩,_⟩:=hg
 have hc:Lib.countB s ⟨#[39]⟩≤s.size:=by
  show Lib.count s.data.toList [39]≤_
  rw [Lib.count_one]
  exact List.count_le_length
 refine (Tryz.strings_ReplaceAll s ⟨#[39]⟩ ⟨#[39,39]⟩ m w (by omega) hm (by decide) (by show s.size+Lib.countB s ⟨#[39]⟩*2≤_;omega)).mono ?_
 rintro e w' ⟨rfl,h⟩
 exact ⟨by rw [show (⟨#[39]⟩:aj).data.toList=[39] from rfl,show (⟨#[39,39]⟩:aj).data.toList=[39,39] from rfl,Kt],Kept.of_below h⟩
theorem Zh (n:Int) (w:World) (hg:Glob w) (h0:0≤n) (h1:n≤65536):Calls Tryz.prog 69 #[.int .i64 n] w (zy (Lib.decDigits n.toNat) w):=by
 refine (Tryz.strconv_Itoa n (by omega) (by omega) w hg.2).mono ?_
 rintro e w' ⟨rfl,k,os,rfl⟩
 refine ⟨by unfold Lib.itoa;rw [if_neg (by omega)],?_⟩
 refine ⟨rfl,rfl,rfl,?_,fun j hj _=>?_⟩
 ·show w.heap.size≤(w.heap++os).size;simp
 ·show (w.heap++os)[j]?=_;rw [Array.getElem?_append_left hj]
theorem kX (a b:List UInt8):(⟨a.toArray⟩:aj)++⟨b.toArray⟩=⟨(a++b).toArray⟩:=by
 apply ByteArray.ext;simp [ByteArray.data_append]
theorem str39:(⟨#[39]⟩:aj)=⟨[39].toArray⟩:=rfl
theorem Ey (s:aj) (w:World) (hg:Glob w) (hs:s.size≤100000):Calls Tryz.prog 68 #[.string s] w (zy (gJ s) w):=by
 have HG:=ah hg;clear hg
 have hl:=Hg s.data.toList
 have el:s.data.toList.length=s.size:=rfl
 go_enter Tryz.func68, Tryz.ntmps68
 go_wp2_with fail
 refine (Qz s w HG.out (by omega)).mono ?_
 rintro e w1 ⟨rfl,K1⟩
 go_wp2_with fail
 go_ret
 have e:((⟨#[39]⟩:aj)++⟨(nP s.data.toList).toArray⟩++⟨#[39]⟩)=⟨(gJ s).toArray⟩:=by
  rw [str39,kX,kX];simp [gJ]
 exact ⟨congrArg (fun b=>Ending.returned (.string b)) e,K1⟩
end Go.Proofs.YtefjbnhpjdhjmaaGreatDoor

namespace Go.Proofs.YtefjbnhpjdhjmaaGreatDoor
set_option linter.all false
open Go.RowKit
def zW (l:List UInt8):List UInt8:=Lib.replaceK [39,39] [39] (Lib.count l [39,39]) l
theorem abV (l:List UInt8):Lib.replaceAll l [39,39] [39]=zW l:=by
 unfold Lib.replaceAll Lib.replace Lib.replaceNum zW
 rw [if_neg (by decide),if_pos (.inl (by decide))]
theorem SA:zW []=[]:=by decide
theorem abW (r:List UInt8):zW (39::39::r)=39::zW r:=by
 have hi:Lib.index (39::39::r) [39,39]=((0:Nat):Int):=by
  rw [Lib.index,if_pos (by simp [List.isPrefixOf])];rfl
 unfold zW
 rw [Lib.count_hit (by simp) hi,Nat.add_comm 1,Lib.replaceK_hit _ _ _ _ 0 hi]
 simp
theorem abX {c:UInt8} {r:List UInt8} (h:([39,39]:List UInt8).isPrefixOf (c::r)=false):zW (c::r)=c::zW r:=by
 have hge:=Lib.index_ge r [39,39]
 by_cases hm:Lib.index r [39,39] = -1
 ·have hi:Lib.index (c::r) [39,39] = -1:=by
   rw [Lib.index,if_neg (by simp [h]),if_pos (by simp [hm])]
  unfold zW
  rw [Lib.count_miss hi,Lib.count_miss hm,Lib.replaceK,Lib.replaceK]
 ·obtain ⟨i,hi⟩:∃i:Nat,Lib.index r [39,39]=i:=⟨(Lib.index r [39,39]).toNat,by omega⟩
  have hi2:Lib.index (c::r) [39,39]=((i+1:Nat):Int):=by
   rw [Lib.index,if_neg (by simp [h]),if_neg (by simp [hm]),hi]
   try omega
  unfold zW
  rw [Lib.count_hit (by simp) hi2,Lib.count_hit (by simp) hi,Nat.add_comm 1,Nat.add_comm 1,Lib.replaceK_hit _ _ _ _ (i+1) hi2,Lib.replaceK_hit _ _ _ _ i hi]
  have e1:i+1+([39,39]:List UInt8).length=(i+([39,39]:List UInt8).length)+1:=by show i+1+2=i+2+1;omega
  rw [e1,List.drop_succ_cons,List.take_succ_cons]
  rfl
theorem KF:∀(l:List UInt8) (b:List UInt8) (n:Nat),fM l=some (b,n)→zW (l.take (n-1))=b
 | [],b,n,h=>by simp [fM] at h
 | [c],b,n,h=>by
  rw [fM] at h
  split at h
  ·simp only [Option.some.injEq,Prod.mk.injEq] at h
   obtain ⟨rfl,rfl⟩:=h
   exact SA
  ·cases h
 | c::d::r,b,n,h=>by
  rw [fM] at h
  split at h
  ·rename_i hc
   split at h
   ·rename_i hd
    cases hr:fM r with
    | none=>rw [hr] at h;cases h
    | some x =>
     obtain ⟨b',n'⟩:=x
     rw [hr] at h
     simp only [Option.map_some,Option.some.injEq,Prod.mk.injEq] at h
     obtain ⟨rfl,rfl⟩:=h
     have hn:=(vJ r b' n' hr).2
     have ih:=KF r b' n' hr
     rw [show n'+2-1=(n'-1)+1+1 by omega,List.take_succ_cons,List.take_succ_cons,hc,hd,abW,ih]
   ·simp only [Option.some.injEq,Prod.mk.injEq] at h
    obtain ⟨rfl,rfl⟩:=h
    exact SA
  ·rename_i hc
   cases hr:fM (d::r) with
   | none=>rw [hr] at h;cases h
   | some x =>
    obtain ⟨b',n'⟩:=x
    rw [hr] at h
    simp only [Option.map_some,Option.some.injEq,Prod.mk.injEq] at h
    obtain ⟨rfl,rfl⟩:=h
    have hn:=(vJ (d::r) b' n' hr).2
    have ih:=KF (d::r) b' n' hr
    rw [show n'+1-1=(n'-1)+1 by omega,List.take_succ_cons,abX (by simp [List.isPrefixOf];intro h;exact absurd h.symm hc),ih]
theorem zF (s:aj) (a m:Nat):(s.extract a (a+m)).data.toList=(s.data.toList.drop a).take m:=by
 rw [ByteArray.data_extract,Array.toList_extract,List.extract_eq_drop_take,Nat.add_sub_cancel_left]
theorem Z9 {s:aj} {i:Nat} {b:List UInt8} {n:Nat} (h:fM (s.data.toList.drop i)=some (b,n)):Lib.replaceAll (s.extract i (i+(n-1))).data.toList [39,39] [39]=b:=by
 rw [abV,zF]
 exact KF _ _ _ h
def zI (w:World):Prop:=∃m,w.cell? ⟨0,0,none⟩=some (.int .i64 m)
theorem zI.kept {w w':World} {X:Nat→Prop} (h:zI w) (hk:Kept X w w') (hx:¬X 0):zI w':=by
 obtain ⟨m,hm⟩:=h
 exact ⟨m,(hk.cell (cells_lt hm) hx).trans hm⟩
theorem abR (x:aj) (w:World) (hg:zI w) (hs:x.size≤1000000000) :
  Calls Tryz.prog 44 #[.string x,.string ⟨#[39,39]⟩,.string ⟨#[39]⟩] w (zy (Lib.replaceAll x.data.toList [39,39] [39]) w):=by
 obtain ⟨m,hm⟩:=hg
 have hc:Lib.countB x ⟨#[39,39]⟩≤x.size+1:=by
  show Lib.count x.data.toList [39,39]≤_
  exact Lib.count_le _ _
 refine (Tryz.strings_ReplaceAll x ⟨#[39,39]⟩ ⟨#[39]⟩ m w (by omega) hm (by decide) (by show x.size+Lib.countB x ⟨#[39,39]⟩*1≤_;omega)).mono ?_
 rintro e w' ⟨rfl,h⟩
 exact ⟨rfl,Kept.of_below h⟩
end Go.Proofs.YtefjbnhpjdhjmaaGreatDoor

namespace Go.Proofs.YtefjbnhpjdhjmaaGreatDoor
set_option linter.all false
open Go.RowKit
def Fl (N:Nat) (a b:Int) (w:World):Prop:=w.heap[N]?=some (.cells #[.int .i64 a,.int .i64 b] 36 (0,0))
theorem Fl.lt {N:Nat} {a b:Int} {w:World} (h:Fl N a b w):N<w.heap.size:=(Array.getElem?_eq_some_iff.1 h).1
theorem Fl.kept {N:Nat} {a b:Int} {w w':World} {X:Nat→Prop} (h:Fl N a b w) (hk:Kept X w w') (hx:¬X N):Fl N a b w':=by
 unfold Fl;rw [hk.block N h.lt hx];exact h
theorem Fl.cells {N:Nat} {a b:Int} {w:World} (h:Fl N a b w):w.cell? ⟨N,0,none⟩=some (.int .i64 a)∧w.cell? ⟨N,1,none⟩=some (.int .i64 b)∧w.frozen? ⟨N,0,none⟩=false∧w.frozen? ⟨N,1,none⟩=false:=by
 unfold Fl at h
 exact ⟨by rw [cell_of_row w N _ _ _ _ h];rfl,by rw [cell_of_row w N _ _ _ _ h];rfl,by simp [World.frozen?,h],by simp [World.frozen?,h]⟩
theorem Fl.set {N:Nat} {a b:Int} {w:World} (h:Fl N a b w) (c d:Int):Fl N c d ((w.setCell ⟨N,0,none⟩ (.int .i64 c)).setCell ⟨N,1,none⟩ (.int .i64 d)):=by
 unfold Fl at *
 simp [World.setCell,Array.getElem?_modify,h]
theorem DV {f:Func} {tmps:Array Value} {v:Value} {w2:World} {F:Nat} {a b:Int} {Q:Ending→World→Prop} (hres:f.results = #[.tmp 2,.cell 3 36]) (h2:tmps.getD 2 undef=v) (h3:tmps.getD 3 undef=.pointer (some ⟨F,0,none⟩)) (hF:Fl F a b w2)
  (hq:Q (.returned (.tuple #[v,.agg #[.int .i64 a,.int .i64 b]])) w2):bodyPost Tryz.prog f Q .ret ⟨tmps,[]⟩ w2:=by
 obtain ⟨h0,h1,_,_⟩:=hF.cells
 have ht2:tmps[2]?.getD undef=v:=by rw [←h2,Array.getD_eq_getD_getElem?]
 have ht3:tmps[3]?.getD undef=.pointer (some ⟨F,0,none⟩):=by rw [←h3,Array.getD_eq_getD_getElem?]
 exact bodyPost_ret (v:=.tuple #[v,.agg #[.int .i64 a,.int .i64 b]]) (by simp [results,hres,go_sem,ht2,ht3,h0,h1]) rfl hq
end Go.Proofs.YtefjbnhpjdhjmaaGreatDoor

namespace Go.Proofs.YtefjbnhpjdhjmaaGreatDoor
set_option linter.all false
open Go.RowKit Go.Maps Go.WideMaps
theorem Vq:Keyed Tryz.prog 9:=string_keyed Tryz.underlying9
theorem abb (w:World):(zeroValue 3).run Tryz.prog w=.ok (.int .i64 0) w:=by kernel_rfl
def pV (w:World) (B n:Nat) (m:aj→Option Int):Prop :=
 ∃D:DataW Unit,w.ownsMap Tryz.prog 9 (plainElem Tryz.prog 3) B n D∧IsMap D∧
  ∀s:aj,Maps.has D (.string s.data.toList)=(m s).isSome∧∀z,D.atKey (.string s.data.toList) z=match m s with|some c=>.lit (.int .i64 c)|none=>z
theorem pV.made (w:World):pV (w.alloc (.map #[] 0)) w.heap.size 0 (fun _=>none) :=
 ⟨.map [],World.ownsMap_made w _ _ _,⟨[],rfl⟩,fun s=>⟨rfl,fun z=>rfl⟩⟩
theorem pV.lt {w:World} {B n:Nat} {m:aj→Option Int} (h:pV w B n m):B<w.heap.size:=by
 obtain ⟨D,h,_⟩:=h;exact h.lt
theorem pV.kept {w w':World} {B n:Nat} {m:aj→Option Int} {X:Nat→Prop} (h:pV w B n m) (hk:Kept X w w') (hx:¬X B):pV w' B n m:=by
 have hlt:=h.lt
 obtain ⟨D,⟨es,clock,hb,F,hs,hD⟩,h2⟩:=h
 exact ⟨D,⟨es,clock,(hk.block B hlt hx).trans hb,F,hs,hD⟩,h2⟩
theorem NM {s t:aj} (h:s≠t):(Lit.string s.data.toList)≠.string t.data.toList:=by
 intro e
 simp only [Lit.string.injEq] at e
 apply h
 obtain ⟨x⟩:=s;obtain ⟨y⟩:=t
 have:x=y:=Array.toList_inj.1 e
 rw [this]
def yh (m:aj→Option Int) (k:aj) (c:Int):aj→Option Int:=fun s=>if s=k then some c else m s
end Go.Proofs.YtefjbnhpjdhjmaaGreatDoor

namespace Go.Proofs.YtefjbnhpjdhjmaaGreatDoor
set_option linter.all false
open Go.RowKit
set_option maxRecDepth 100000
set_option maxHeartbeats 4000000
theorem oQ.kept {N T:Nat} {l:List UInt8} {w w':World} (h:oQ N T l w) (k:Kept aF w w'):oQ N T l w':=by
 have one:∀p,Lib.BuilderAtF 77 5 T N p (Lib.byteCells l) w→Lib.BuilderAtF 77 5 T N p (Lib.byteCells l) w':=by
  rintro p ⟨h1,v,h2,⟨h3,h4⟩,h5⟩
  refine ⟨h1,v,by rw [k.block _ (Array.getElem?_eq_some_iff.1 h2).1 (fun h=>h)];exact h2,⟨h3,?_⟩,h5⟩
  rcases h4 with h4|⟨g,cap,cur,fz,e1,e2,e3,e4⟩
  ·exact .inl h4
  ·exact .inr ⟨g,cap,cur,fz,e1,e2,by rw [k.block _ (Array.getElem?_eq_some_iff.1 e3).1 (fun h=>h)];exact e3,e4⟩
 exact h.elim (fun h=>.inl (one _ h)) (fun h=>.inr (one _ h))
structure qg (N T W:Nat) (S:Nat→Prop) (b o:Nat) (p:aA) (l:List UInt8) (w:World):Prop where
 jy:oQ N T l w
 wd:oh W w
 gl:Glob w
 hw:T≤w.heap.size
 pat:dL w S b o p
 hS:∀y,S y→y<T
 hT:T≤N
 hWN:W≠N
 hg:0<T∧1<T
theorem Rx {S:Nat→Prop} {N T:Nat} {w:World} (hS:∀y,S y→y<T) (hT:T≤N) (hw:T≤w.heap.size):Safe S (XB N T w) w.heap.size:=fun y hy=>⟨Nat.lt_of_lt_of_le (hS y hy) hw,KB.old (hS y hy) hT⟩
section
variable {N T W:Nat} {S:Nat→Prop} {b o:Nat} {p:aA} {l l':List UInt8} {w w':World}
theorem qg.wrote (h:qg N T W S b o p l w) (B:oQ N T l' w') (k:KB N T w w'):qg N T W S b o p l' w':=by
 refine ⟨B,?_,h.gl.below (k.below h.hT h.hw) h.hg,Nat.le_trans h.hw (Kept.size k),h.pat.kept k (Rx h.hS h.hT h.hw),h.hS,h.hT,h.hWN,h.hg⟩
 have hb:=Kept.block k W h.wd.lt (by
  rintro (h1|⟨_,c,fz,h1⟩)
  ·exact h.hWN h1
  ·have:=h.wd;unfold oh at this;rw [this] at h1
   simp at h1)
 unfold oh;rw [hb];exact h.wd
theorem qg.quiet (h:qg N T W S b o p l w) (k:Kept aF w w'):qg N T W S b o p l w' :=
 h.wrote (h.jy.kept k) (Kept.more k fun _ h=>h.elim)
theorem qg.word (h:qg N T W S b o p l w) (j:Nat) (hj:j<21):∃x:aj,w.cell? ⟨W,j,none⟩=some (.string x)∧x=⟨(fK j).toArray⟩:=by
 have h1:=h.wd.cell j hj
 rw [Nat.zero_add] at h1
 exact ⟨_,h1,by unfold fK;simp⟩
end
def NoPanic (Q:Exit→Act→World→Prop):Exit→Act→World→Prop
 | .panic _,_,_=>False
 | x,a,w=>Q x a w
theorem Jo {Q:Exit→Act→World→Prop}:∀e a w,NoPanic Q e a w→Q e a w:=by
 intro e a w h;cases e<;>first|exact h|exact h.elim
def OJ (N T:Nat) (l:List UInt8) (w:World) (e:Ending) (w':World):Prop:=e=.returned (.tuple #[])∧oQ N T l w'∧KB N T w w'
def big:Nat:=1000000000000
def nR (N T W:Nat) (S:Nat→Prop) (b o i:Nat) (p:aA) (l:List UInt8) (w:World):Prop :=
 Calls Tryz.prog 36 #[.pointer (some ⟨N,0,none⟩),.pointer (some ⟨b,o,none⟩),.slice (some ⟨W,0,none⟩) 21 21,.int .i64 i] w (OJ N T (l++aG p i) w)
theorem Xe (N T W:Nat) (S:Nat→Prop) (b o i:Nat) (k:Int) (t:aj) (n:Int) (nm:aj) (kids:List aA) (l:List UInt8) (w:World) (h:qg N T W S b o (.mk k t n nm kids) l w) (hn:dH (.mk k t n nm kids)=0) (hl:l.length+(aG (.mk k t n nm kids) i).length≤big) (hk:k=1) :
  nR N T W S b o i (.mk k t n nm kids) l w:=by
 obtain ⟨H7,ht,hnn,hnm,_⟩:=jF hn
 obtain ⟨hSb,hz,p0,p1,p2,p3,ka,cap,p4,hkk⟩:=h.pat.open
 dsimp only [aA.aZ,aA.aX,aA.eG,aA.aY,aA.aV] at p0 p1 p2 p3 p4
 unfold big at hl
 unfold nR
 have HH:=ah h
 have hN:T≤N:=h.hT
 have e0:decide ((i:Int)<0)=false:=by simp
 clear hkk hz hn
 subst hk
 have hs:aG (.mk 1 t n nm kids) i=gJ t:=by rw [aG,if_pos rfl]
 rw [hs] at hl⊢
 have ht1:=ht (.inl rfl)
 have HT:=ah ht1
 have hql:=Ak t
 clear ht hnn hnm hs h
 go_enter_defers Tryz.func36, Tryz.ntmps36
 go_wp2_with fail
 refine (Ey t w HH.out.gl (by omega)).mono ?_
 rintro e w1 ⟨rfl,K1⟩
 have h1:=ah (HH.out.quiet K1)
 have iH:=ah K1
 clear K1
 go_wp2_with fail
 refine (bW N T l ⟨(gJ t).toArray⟩ _ h1.out.jy (by show l.length+(gJ t).toArray.size≤_;rw [List.size_toArray];omega) h1.out.hw).mono ?_
 rintro e w2 ⟨rfl,Q,K2⟩
 have Q:=ah Q
 have KK:Hid (KB N T w w2):=KB.trans (Kept.more iH.out fun _ h=>h.elim) K2
 clear K2
 go_wp2_with fail
 exact ⟨_,results_none rfl _ _ _,rfl,Q.out,KK.out⟩
end Go.Proofs.YtefjbnhpjdhjmaaGreatDoor

namespace Go.Proofs.YtefjbnhpjdhjmaaGreatDoor
set_option linter.all false
open Go.RowKit
def Iq (ops:Array Oper) (n:Nat):Bool :=
 (List.range ops.size).all fun i=>match ops[i]? with
  | none=>false
  | some o=>o.guard.isNone&&(match o.dst with
    | none=>true
    | some d=>decide (d<n)&&(List.range ops.size).all fun j=>decide (j=i)||(match ops[j]? with|some p=>p.dst != some d|none=>true))
    && o.after.toList.all fun e=>decide (e.on<i)
section
variable {P:Program} {ops:Array Oper} {Q:Exit→Act→World→Prop}
theorem GU {n i:Nat} {o:Oper} (h:Iq ops n=true) (ho:ops[i]?=some o) :
  o.guard=none∧(∀d,o.dst=some d→d<n∧∀j p,ops[j]?=some p→j≠i→p.dst≠some d)∧∀e∈o.after,e.on<i:=by
 have hi:i<ops.size:=(Array.getElem?_eq_some_iff.1 ho).1
 unfold Iq at h
 have h1:=List.all_eq_true.1 h i (List.mem_range.2 hi)
 simp only [ho,Bool.and_eq_true] at h1
 obtain ⟨⟨h2,h3⟩,h4⟩:=h1
 refine ⟨by simpa using h2,fun d hd=>?_,fun e he=>?_⟩
 ·rw [hd] at h3
  simp only [Bool.and_eq_true,decide_eq_true_eq] at h3
  refine ⟨h3.1,fun j p hj hji=>?_⟩
  have hjs:j<ops.size:=(Array.getElem?_eq_some_iff.1 hj).1
  have h5:=List.all_eq_true.1 h3.2 j (List.mem_range.2 hjs)
  simp only [Bool.or_eq_true,decide_eq_true_eq,hj] at h5
  rcases h5 with h5|h5
  ·exact absurd h5 hji
  ·simpa using h5
 ·have:=List.all_eq_true.1 h4 e (by simpa using he)
  simpa using this
structure yw (ops:Array Oper) (Spec:Nat→Value→World→Prop) (a0:Act) (w0:World) (l:Nat→Bool) (a:Act) (w:World):Prop where
 kept:Kept aF w0 w
 defers:a.defers=a0.defers
 size:a.tmps.size=a0.tmps.size
 rest:∀(t:Nat),(∀(i:Nat) (o:Oper),ops[i]?=some o→o.dst≠some t)→a.tmps.getD t undef=a0.tmps.getD t undef
 done:∀(i:Nat) (o:Oper) (d:Nat),ops[i]?=some o→l i=true→o.dst=some d→Spec i (a.tmps.getD d undef) w
 todo:∀(i:Nat) (o:Oper) (d:Nat),ops[i]?=some o→l i=false→o.dst=some d→a.tmps.getD d undef=a0.tmps.getD d undef
 closed:∀(i:Nat) (o:Oper),ops[i]?=some o→l i=true→∀e∈o.after,Region.binds .any e=true→l e.on=true
theorem yw.put {Spec:Nat→Value→World→Prop} {a0:Act} {w0:World} {l l':Nat→Bool} {a:Act} {w w':World} {i:Nat} {o:Oper} {v:Value}
  (hok:Iq ops a0.tmps.size=true) (hst:∀i v w w',Spec i v w→Kept aF w w'→Spec i v w') (h:yw ops Spec a0 w0 l a w) (ho:ops[i]?=some o)
  (hv:∀d,o.dst=some d→Spec i v w') (hk:Kept aF w w') (hl:∀j,l' j=true↔j=i∨l j=true) (haft:∀e∈o.after,Region.binds .any e=true→l e.on=true):yw ops Spec a0 w0 l' (a.put o.dst v) w':=by
 obtain ⟨_,hd,_⟩:=GU hok ho
 refine ⟨h.kept.trans hk,?_,?_,fun t ht=>?_,fun j p d hj hlj xK=>?_,fun j p d hj hlj xK=>?_,fun j p hj hlj e he hb=>?_⟩
 ·unfold Act.put;cases o.dst<;>exact h.defers
 ·unfold Act.put;cases o.dst
  ·exact h.size
  ·simp only [Array.size_setIfInBounds];exact h.size
 ·rw [←h.rest t ht]
  unfold Act.put
  cases hdst:o.dst with
  | none=>rfl
  | some d =>
   have hne:d≠t:=fun e=>ht i o ho (by rw [hdst,e])
   simp only [Array.getD_eq_getD_getElem?,Array.getElem?_setIfInBounds_ne hne]
 ·by_cases hji:j=i
  ·subst hji
   rw [ho] at hj;cases hj
   unfold Act.put
   rw [xK]
   simp only [Array.getD_eq_getD_getElem?,Array.getElem?_setIfInBounds_self_of_lt (show d<a.tmps.size by rw [h.size];exact (hd d xK).1),Option.getD_some]
   exact hv d xK
  ·have hold:=hst _ _ _ _ (h.done j p d hj (((hl j).1 hlj).resolve_left hji) xK) hk
   unfold Act.put
   cases hdst:o.dst with
   | none=>exact hold
   | some d' =>
    have hne:d'≠d:=fun e=>(hd d' hdst).2 j p hj hji (by rw [xK,e])
    simp only [Array.getD_eq_getD_getElem?,Array.getElem?_setIfInBounds_ne hne] at hold⊢
    exact hold
 ·have Yx:l j=false:=by
   cases hx:l j with
   | false=>rfl
   | true=>rw [(hl j).2 (.inr hx)] at hlj;cases hlj
  have hji:j≠i:=fun e=>by rw [(hl j).2 (.inl e)] at hlj;cases hlj
  rw [←h.todo j p d hj Yx xK]
  unfold Act.put
  cases hdst:o.dst with
  | none=>rfl
  | some d' =>
   have hne:d'≠d:=fun e=>(hd d' hdst).2 j p hj hji (by rw [xK,e])
   simp only [Array.getD_eq_getD_getElem?,Array.getElem?_setIfInBounds_ne hne]
 ·rcases (hl j).1 hlj with rfl|hx
  ·rw [ho] at hj;cases hj
   exact (hl _).2 (.inr (haft e he hb))
  ·exact (hl _).2 (.inr (h.closed j p hj hx e he hb))
theorem Yy (Spec:Nat→Value→World→Prop) {id:Nat} {a0:Act} {w0:World} (hm:P.follows .mixedOrders=true) (hok:Iq ops a0.tmps.size=true)
  (hst:∀i v w w',Spec i v w→Kept aF w w'→Spec i v w')
  (hstep:∀(i:Nat) (o:Oper),ops[i]?=some o→∀(l:Nat→Bool) (a:Act) (w:World),yw ops Spec a0 w0 l a w→l i=false→(∀e∈o.after,l e.on=true∨Region.binds .any e=false)→
   o.wp P a w (fun a' w'=>∃v,a'=a.put o.dst v∧(∀d,o.dst=some d→Spec i v w')∧Kept aF w w') Q)
  (hend:∀(a:Act) (w:World),yw ops Spec a0 w0 (fun _=>true) a w→Q .normal a w):(Code.region id ops true).wp P Q a0 w0:=by
 refine wp_region_any hm ?_
 have hall:∀(l:Array Bool),l.size=ops.size→Region.ready .any ops l=[]→∀i,i<ops.size→l.getD i true=true:=by
  intro l hls hr i
  induction i using Nat.strongRecOn with
  | _ i ih =>
   intro hi
   cases hg:l.getD i true with
   | true=>rfl
   | false =>
    exfalso
    have ho:ops[i]?=some ops[i]:=Array.getElem?_eq_getElem hi
    have hm':i∈Region.ready .any ops l:=mem_ready.2 ⟨hg,ops[i],ho,fun e he _=>by
     have hlt:=(GU hok ho).2.2 e he
     have:=ih e.on hlt (by omega)
     rw [Array.getD_eq_getD_getElem?] at this⊢
     rw [Array.getElem?_eq_getElem (by omega)] at this⊢
     exact this⟩
    rw [hr] at hm';cases hm'
 have main:∀(fuel:Nat) (l:Array Bool) (a:Act) (w:World),l.size=ops.size→(List.range ops.size).countP (fun i=>!l.getD i true)≤fuel→
   yw ops Spec a0 w0 (fun i=>l.getD i true) a w→wpAny P .any ops Q fuel l a w:=by
  intro fuel
  have fin:∀(l:Array Bool) (a:Act) (w:World),l.size=ops.size→Region.ready .any ops l=[]→yw ops Spec a0 w0 (fun i=>l.getD i true) a w→Q .normal a w :=
   fun l a w hls hr h=>hend a w ⟨h.kept,h.defers,h.size,h.rest,fun i o d ho _ hd=>h.done i o d ho (hall l hls hr i (Array.getElem?_eq_some_iff.1 ho).1) hd,fun _ _ _ _ h=>(by cases h),fun _ _ _ _ _ _ _=>rfl⟩
  induction fuel with
  | zero =>
   intro l a w hls hc h
   have hr:Region.ready .any ops l=[]:=List.eq_nil_iff_forall_not_mem.2 fun i hi=>by
    obtain ⟨hg,o,ho,_⟩:=mem_ready.1 hi
    have hlt:=(Array.getElem?_eq_some_iff.1 ho).1
    have h0:(List.range ops.size).countP (fun i=>!l.getD i true)=0:=by omega
    have:=List.countP_eq_zero.1 h0 i (List.mem_range.2 hlt)
    rw [hg] at this;exact this rfl
   exact ⟨hr,fin l a w hls hr h⟩
  | succ fuel ih =>
   intro l a w hls hc h
   refine ⟨fun hr=>fin l a w hls hr h,fun i hi=>?_⟩
   obtain ⟨hg,o,ho,haft⟩:=mem_ready.1 hi
   have hlt:=(Array.getElem?_eq_some_iff.1 ho).1
   have hgd:=(GU hok ho).1
   have hw:Region.wanted o (yielded ops a.tmps)=true:=by simp [Region.wanted,hgd]
   unfold wpOp
   simp only [ho,hw,if_true]
   refine .inl (Oper.wp_mono ?_ (hstep i o ho _ a w h hg fun e he=>?_))
   ·rintro a' w' ⟨v,rfl,hv,hk⟩
    have hset:∀j,(l.setIfInBounds i true).getD j true=true↔j=i∨l.getD j true=true:=by
     intro j
     by_cases hji:j=i
     ·subst hji
      simp only [Array.getD_eq_getD_getElem?,Array.getElem?_setIfInBounds_self_of_lt (show j<l.size by omega),Option.getD_some,true_or]
     ·simp only [Array.getD_eq_getD_getElem?,Array.getElem?_setIfInBounds_ne (Ne.symm hji),hji,false_or]
    refine ih _ _ _ (by rw [Array.size_setIfInBounds];exact hls) ?_ (h.put hok hst ho hv hk (fun j=>hset j) fun e he hb=>?_)
    rotate_left
    ·have:=haft e he hb
     rw [Array.getD_eq_getD_getElem?] at this⊢
     cases hx:l[e.on]? with
     | none=>rw [hx] at this;cases this
     | some b=>rw [hx] at this;simpa using this
    have hc2:(List.range ops.size).countP (fun j=>!(l.setIfInBounds i true).getD j true)+1≤(List.range ops.size).countP (fun j=>!l.getD j true):=by
     have key:∀(r:List Nat),r.Nodup→(r.countP (fun j=>!(l.setIfInBounds i true).getD j true))+(if i∈r then 1 else 0)=r.countP (fun j=>!l.getD j true):=by
      intro r
      induction r with
      | nil=>intro _;rfl
      | cons j r ihr =>
       intro hn
       obtain ⟨hj1,hj2⟩:=List.nodup_cons.1 hn
       have ihr:=ihr hj2
       simp only [List.countP_cons,List.mem_cons]
       by_cases hji:j=i
       ·subst hji
        rw [if_neg hj1] at ihr
        have e1:(l.setIfInBounds j true).getD j true=true:=(hset j).2 (.inl rfl)
        rw [e1,hg]
        simp only [Bool.not_true,Bool.not_false,Bool.false_eq_true,if_false,if_true,true_or]
        omega
       ·have e1:(l.setIfInBounds i true).getD j true=l.getD j true:=by
         simp only [Array.getD_eq_getD_getElem?,Array.getElem?_setIfInBounds_ne (Ne.symm hji)]
        have e2:(i=j∨i∈r)↔i∈r:=⟨fun h=>h.resolve_left (Ne.symm hji),.inr⟩
        rw [e1]
        simp only [e2];omega
     have:=key (List.range ops.size) List.nodup_range
     rw [if_pos (List.mem_range.2 hlt)] at this
     omega
    omega
   ·cases hb:Region.binds .any e with
    | false=>exact .inr rfl
    | true =>
     left
     have:=haft e he hb
     rw [Array.getD_eq_getD_getElem?] at this⊢
     cases hx:l[e.on]? with
     | none=>rw [hx] at this;cases this
     | some b=>rw [hx] at this;simpa using this
 refine main _ _ _ _ (by simp) ?_ ⟨(Kept.refl aF w0).drew,rfl,rfl,fun _ _=>rfl,fun i o d ho hl _=>?_,fun _ _ _ _ _ _=>rfl,fun i o ho hl=>?_⟩
 ·exact Nat.le_trans List.countP_le_length (by simp)
 all_goals
  exfalso
  have hlt:=(Array.getElem?_eq_some_iff.1 ho).1
  simp [Array.getD_eq_getD_getElem?,hlt] at hl
theorem bU {i:Nat} {o:Oper} {x:Act} {w:World} {v:Value} {R:Nat→Value→World→Prop} (hr:(execOp x.eval o).run P w=.ok (.value v) w) (hs:R i v w) :
  o.wp P x w (fun a' w'=>∃v,a'=x.put o.dst v∧(∀d,o.dst=some d→R i v w')∧Kept aF w w') Q:=by
 unfold Oper.wp
 rw [hr]
 exact ⟨v,rfl,fun _ _=>hs,Kept.refl _ _⟩
theorem BA {i:Nat} {o:Oper} {x:Act} {w w':World} {v:Value} {R:Nat→Value→World→Prop} (hr:(execOp x.eval o).run P w=.ok (.value v) w') (hk:Kept aF w w') (hs:R i v w') :
  o.wp P x w (fun a' w'=>∃v,a'=x.put o.dst v∧(∀d,o.dst=some d→R i v w')∧Kept aF w w') Q:=by
 unfold Oper.wp
 rw [hr]
 exact ⟨v,rfl,fun _ _=>hs,hk⟩
theorem nU {i:Nat} {o:Oper} {x:Act} {w:World} {f:FuncId} {args:Array Value} {R:Nat→Value→World→Prop} (hr:(execOp x.eval o).run P w=.ok (.enter f args) w)
  (hc:Calls P f args w fun e w'=>∃v,e=.returned v∧R i v w'∧Kept aF w w') :
  o.wp P x w (fun a' w'=>∃v,a'=x.put o.dst v∧(∀d,o.dst=some d→R i v w')∧Kept aF w w') Q:=by
 unfold Oper.wp
 rw [hr]
 refine Calls.mono hc ?_
 rintro e w' ⟨v,rfl,hs,hk⟩
 exact ⟨v,rfl,fun _ _=>hs,hk⟩
theorem yw.keep {Spec:Nat→Value→World→Prop} {a0:Act} {w0:World} {l:Nat→Bool} {a:Act} {w:World} (h:yw ops Spec a0 w0 l a w) (t:Nat) (v:Value) (hv:a0.tmps.getD t undef=v) (hn:(ops.toList.all fun o=>o.dst != some t)=true):a.eval (.tmp t)=v:=by
 show a.tmps.getD t undef=v
 rw [h.rest t fun i o ho e=>?_,hv]
 have:=List.all_eq_true.1 hn o (by rw [←Array.mem_def];exact Array.mem_of_getElem? ho)
 rw [e] at this;simp at this
theorem yw.dep {Spec:Nat→Value→World→Prop} {a0:Act} {w0:World} {l:Nat→Bool} {a:Act} {w:World} (h:yw ops Spec a0 w0 l a w) {after:Array Edge} (haft:∀e∈after,l e.on=true∨Region.binds .any e=false) (i t:Nat) {o:Oper}
  (ho:ops[i]?=some o) (hd:o.dst=some t) (he:(after.toList.any fun e=>e.on==i&&Region.binds .any e)=true):Spec i (a.eval (.tmp t)) w:=by
 obtain ⟨e,hm,hb⟩:=List.any_eq_true.1 he
 simp only [Bool.and_eq_true,beq_iff_eq] at hb
 obtain ⟨rfl,hb⟩:=hb
 refine h.done e.on o t ho ?_ hd
 rcases haft e (by simpa using hm) with h1|h1
 ·exact h1
 ·rw [hb] at h1;cases h1
theorem yw.late {Spec:Nat→Value→World→Prop} {a0:Act} {w0:World} {l:Nat→Bool} {a:Act} {w:World} (h:yw ops Spec a0 w0 l a w) {i:Nat} (hi:l i=false) (j t:Nat) {o:Oper}
  (ho:ops[j]?=some o) (hd:o.dst=some t) (he:(o.after.toList.any fun e=>e.on==i&&Region.binds .any e)=true) (v:Value) (hv:a0.tmps.getD t undef=v):a.eval (.tmp t)=v:=by
 show a.tmps.getD t undef=v
 rw [←hv]
 refine h.todo j o t ho ?_ hd
 cases hx:l j with
 | false=>rfl
 | true =>
  obtain ⟨e,hm,hb⟩:=List.any_eq_true.1 he
  simp only [Bool.and_eq_true,beq_iff_eq] at hb
  have:=h.closed j o ho hx e (by simpa using hm) hb.2
  rw [hb.1,hi] at this;cases this
def kP (f:Nat→Value) (t:Array Value) (ds:List Nat):Array Value:=ds.foldl (fun t d=>t.setIfInBounds d (f d)) t
theorem BR (f:Nat→Value) (k:Nat):∀(ds:List Nat) (t:Array Value),(kP f t ds)[k]?=if k∈ds∧k<t.size then some (f k) else t[k]?
 | [],t=>by simp [kP]
 | d::ds,t=>by
  have ih:=BR f k ds (t.setIfInBounds d (f d))
  have e:kP f t (d::ds)=kP f (t.setIfInBounds d (f d)) ds:=rfl
  rw [e,ih,Array.size_setIfInBounds]
  by_cases h1:k∈ds∧k<t.size
  ·rw [if_pos h1,if_pos ⟨List.mem_cons_of_mem _ h1.1,h1.2⟩]
  ·rw [if_neg h1]
   by_cases h2:k=d
   ·subst h2
    by_cases h3:k<t.size
    ·rw [if_pos ⟨List.mem_cons_self ..,h3⟩,Array.getElem?_setIfInBounds_self_of_lt h3]
    ·rw [if_neg (fun h=>h3 h.2),Array.getElem?_eq_none (by rw [Array.size_setIfInBounds];omega),Array.getElem?_eq_none (by omega)]
   ·rw [if_neg (fun h=>by rcases List.mem_cons.1 h.1 with h4|h4;exact h2 h4;exact h1 ⟨h4,h.2⟩),Array.getElem?_setIfInBounds_ne (Ne.symm h2)]
theorem yw.act {Spec:Nat→Value→World→Prop} {a0:Act} {w0:World} {l:Nat→Bool} {a:Act} {w:World} (h:yw ops Spec a0 w0 l a w) (ds:List Nat) (hds:ops.toList.filterMap (·.dst)=ds) :
  a=⟨kP (fun t=>a.tmps.getD t undef) a0.tmps ds,a0.defers⟩:=by
 obtain ⟨tm,df⟩:=a
 have e1:=h.defers
 have e2:=h.size
 dsimp only at e1 e2⊢
 rw [e1]
 congr 1
 refine Array.ext_getElem? fun k=>?_
 rw [BR]
 by_cases hk:k∈ds∧k<a0.tmps.size
 ·rw [if_pos hk,Array.getElem?_eq_getElem (by omega),Array.getD_eq_getD_getElem?,Array.getElem?_eq_getElem (by omega)];rfl
 ·rw [if_neg hk]
  by_cases h2:k<a0.tmps.size
  ·have h3:=h.rest k fun i o ho e=>hk ⟨by rw [←hds];exact List.mem_filterMap.2 ⟨o,by rw [←Array.mem_def];exact Array.mem_of_getElem? ho,e⟩,h2⟩
   dsimp only at h3
   rw [Array.getD_eq_getD_getElem?,Array.getD_eq_getD_getElem?,Array.getElem?_eq_getElem (show k<tm.size by omega),Array.getElem?_eq_getElem h2] at h3
   rw [Array.getElem?_eq_getElem (show k<tm.size by omega),Array.getElem?_eq_getElem h2]
   simpa using h3
  ·rw [Array.getElem?_eq_none (by omega),Array.getElem?_eq_none (by omega)]
theorem uZ (Spec:Nat→Value→World→Prop) {id:Nat} {a0:Act} {w0:World} (ds:List Nat) (hds:ops.toList.filterMap (·.dst)=ds) (hm:P.follows .mixedOrders=true) (hok:Iq ops a0.tmps.size=true)
  (hst:∀i v w w',Spec i v w→Kept aF w w'→Spec i v w')
  (hstep:∀(i:Nat) (o:Oper),ops[i]?=some o→∀(l:Nat→Bool) (a:Act) (w:World),yw ops Spec a0 w0 l a w→l i=false→(∀e∈o.after,l e.on=true∨Region.binds .any e=false)→
   o.wp P a w (fun a' w'=>∃v,a'=a.put o.dst v∧(∀d,o.dst=some d→Spec i v w')∧Kept aF w w') Q)
  (hend:∀(f:Nat→Value) (w:World),Kept aF w0 w→(∀(i:Nat) (o:Oper) (d:Nat),ops[i]?=some o→o.dst=some d→Spec i (f d) w)→Q .normal ⟨kP f a0.tmps ds,a0.defers⟩ w):(Code.region id ops true).wp P Q a0 w0:=by
 refine Yy Spec hm hok hst hstep fun a w h=>?_
 rw [h.act ds hds]
 exact hend _ w h.kept fun i o d ho hd=>h.done i o d ho rfl hd
end
end Go.Proofs.YtefjbnhpjdhjmaaGreatDoor

namespace Go.Proofs.YtefjbnhpjdhjmaaGreatDoor
set_option linter.all false
open Go.RowKit
section
variable {P:Program} {ops:Array Oper} {Q:Exit→Act→World→Prop}
structure yx (X:Nat→Prop) (ops:Array Oper) (Spec:Nat→Value→World→Prop) (a0:Act) (w0:World) (l:Nat→Bool) (a:Act) (w:World):Prop where
 kept:Kept X w0 w
 defers:a.defers=a0.defers
 size:a.tmps.size=a0.tmps.size
 rest:∀(t:Nat),(∀(i:Nat) (o:Oper),ops[i]?=some o→o.dst≠some t)→a.tmps.getD t undef=a0.tmps.getD t undef
 done:∀(i:Nat) (o:Oper) (d:Nat),ops[i]?=some o→l i=true→o.dst=some d→Spec i (a.tmps.getD d undef) w
 todo:∀(i:Nat) (o:Oper) (d:Nat),ops[i]?=some o→l i=false→o.dst=some d→a.tmps.getD d undef=a0.tmps.getD d undef
 closed:∀(i:Nat) (o:Oper),ops[i]?=some o→l i=true→∀e∈o.after,Region.binds .any e=true→l e.on=true
theorem yx.keep {X:Nat→Prop} {Spec:Nat→Value→World→Prop} {a0:Act} {w0:World} {l:Nat→Bool} {a:Act} {w:World} (h:yx X ops Spec a0 w0 l a w) (t:Nat) (v:Value) (hv:a0.tmps.getD t undef=v) (hn:(ops.toList.all fun o=>o.dst != some t)=true):a.eval (.tmp t)=v:=by
 show a.tmps.getD t undef=v
 rw [h.rest t fun i o ho e=>?_,hv]
 have:=List.all_eq_true.1 hn o (by rw [←Array.mem_def];exact Array.mem_of_getElem? ho)
 rw [e] at this;simp at this
theorem yx.dep {X:Nat→Prop} {Spec:Nat→Value→World→Prop} {a0:Act} {w0:World} {l:Nat→Bool} {a:Act} {w:World} (h:yx X ops Spec a0 w0 l a w) {after:Array Edge} (haft:∀e∈after,l e.on=true∨Region.binds .any e=false) (i t:Nat) {o:Oper}
  (ho:ops[i]?=some o) (hd:o.dst=some t) (he:(after.toList.any fun e=>e.on==i&&Region.binds .any e)=true):Spec i (a.eval (.tmp t)) w:=by
 obtain ⟨e,hm,hb⟩:=List.any_eq_true.1 he
 simp only [Bool.and_eq_true,beq_iff_eq] at hb
 obtain ⟨rfl,hb⟩:=hb
 refine h.done e.on o t ho ?_ hd
 rcases haft e (by simpa using hm) with h1|h1
 ·exact h1
 ·rw [hb] at h1;cases h1
theorem yx.act {X:Nat→Prop} {Spec:Nat→Value→World→Prop} {a0:Act} {w0:World} {l:Nat→Bool} {a:Act} {w:World} (h:yx X ops Spec a0 w0 l a w) (ds:List Nat) (hds:ops.toList.filterMap (·.dst)=ds) :
  a=⟨kP (fun t=>a.tmps.getD t undef) a0.tmps ds,a0.defers⟩:=by
 obtain ⟨tm,df⟩:=a
 have e1:=h.defers
 have e2:=h.size
 dsimp only at e1 e2⊢
 rw [e1]
 congr 1
 refine Array.ext_getElem? fun k=>?_
 rw [BR]
 by_cases hk:k∈ds∧k<a0.tmps.size
 ·rw [if_pos hk,Array.getElem?_eq_getElem (by omega),Array.getD_eq_getD_getElem?,Array.getElem?_eq_getElem (by omega)];rfl
 ·rw [if_neg hk]
  by_cases h2:k<a0.tmps.size
  ·have h3:=h.rest k fun i o ho e=>hk ⟨by rw [←hds];exact List.mem_filterMap.2 ⟨o,by rw [←Array.mem_def];exact Array.mem_of_getElem? ho,e⟩,h2⟩
   dsimp only at h3
   rw [Array.getD_eq_getD_getElem?,Array.getD_eq_getD_getElem?,Array.getElem?_eq_getElem (show k<tm.size by omega),Array.getElem?_eq_getElem h2] at h3
   rw [Array.getElem?_eq_getElem (show k<tm.size by omega),Array.getElem?_eq_getElem h2]
   simpa using h3
  ·rw [Array.getElem?_eq_none (by omega),Array.getElem?_eq_none (by omega)]
theorem yx.no {X:Nat→Prop} {Spec:Nat→Value→World→Prop} {a0:Act} {w0:World} {l:Nat→Bool} {a:Act} {w:World} (h:yx X ops Spec a0 w0 l a w) {i:Nat} (hi:l i=false) (j:Nat) {o:Oper}
  (ho:ops[j]?=some o) (he:(o.after.toList.any fun e=>e.on==i&&Region.binds .any e)=true):l j=false:=by
 cases hx:l j with
 | false=>rfl
 | true =>
  obtain ⟨e,hm,hb⟩:=List.any_eq_true.1 he
  simp only [Bool.and_eq_true,beq_iff_eq] at hb
  have:=h.closed j o ho hx e (by simpa using hm) hb.2
  rw [hb.1,hi] at this;cases this
theorem upd_ne {l l':Nat→Bool} {i:Nat} (h:∀j,l' j=true↔j=i∨l j=true) (j:Nat) (hj:j≠i):l' j=l j:=by
 rw [Bool.eq_iff_iff,h j];simp [hj]
theorem qO {l l':Nat→Bool} {i:Nat} (h:∀j,l' j=true↔j=i∨l j=true):l' i=true:=(h i).2 (.inl rfl)
theorem cu {J:(Nat→Bool)→(Nat→Value)→World→Prop} {X:Nat→Prop} {l:Nat→Bool} {i:Nat} {o:Oper} {x:Act} {w:World} {v:Value} {R:Nat→Value→World→Prop} (hr:(execOp x.eval o).run P w=.ok (.value v) w) (hs:R i v w)
  (hj:∀l',(∀j,l' j=true↔j=i∨l j=true)→J l' (fun t=>(x.put o.dst v).tmps.getD t undef) w) :
  o.wp P x w (fun a' w'=>∃v,a'=x.put o.dst v∧(∀d,o.dst=some d→R i v w')∧Kept X w w'∧∀l',(∀j,l' j=true↔j=i∨l j=true)→J l' (fun t=>(x.put o.dst v).tmps.getD t undef) w') Q:=by
 unfold Oper.wp
 rw [hr]
 exact ⟨v,rfl,fun _ _=>hs,Kept.refl _ _,hj⟩
end
end Go.Proofs.YtefjbnhpjdhjmaaGreatDoor

namespace Go.Proofs.YtefjbnhpjdhjmaaGreatDoor
set_option linter.all false
open Go.RowKit
def DZ (ops:Array Oper) (n:Nat):Bool :=
 (List.range ops.size).all fun i=>match ops[i]? with
  | none=>false
  | some o=>(match o.dst with
    | none=>true
    | some d=>decide (d<n)&&(List.range ops.size).all fun j=>decide (j=i)||(match ops[j]? with|some p=>p.dst != some d|none=>true))
    && o.after.toList.all fun e=>decide (e.on<i)||!(Region.binds .any e)
section
variable {P:Program} {ops:Array Oper} {Q:Exit→Act→World→Prop}
theorem La {n i:Nat} {o:Oper} (h:DZ ops n=true) (ho:ops[i]?=some o) :
  (∀d,o.dst=some d→d<n∧∀j p,ops[j]?=some p→j≠i→p.dst≠some d)∧∀e∈o.after,Region.binds .any e=true→e.on<i:=by
 have hi:i<ops.size:=(Array.getElem?_eq_some_iff.1 ho).1
 unfold DZ at h
 have h1:=List.all_eq_true.1 h i (List.mem_range.2 hi)
 simp only [ho,Bool.and_eq_true] at h1
 obtain ⟨h3,h4⟩:=h1
 refine ⟨fun d hd=>?_,fun e he hb=>?_⟩
 ·rw [hd] at h3
  simp only [Bool.and_eq_true,decide_eq_true_eq] at h3
  refine ⟨h3.1,fun j p hj hji=>?_⟩
  have hjs:j<ops.size:=(Array.getElem?_eq_some_iff.1 hj).1
  have h5:=List.all_eq_true.1 h3.2 j (List.mem_range.2 hjs)
  simp only [Bool.or_eq_true,decide_eq_true_eq,hj] at h5
  rcases h5 with h5|h5
  ·exact absurd h5 hji
  ·simpa using h5
 ·have:=List.all_eq_true.1 h4 e (by simpa using he)
  simpa [hb] using this
theorem yx.afe {X:Nat→Prop} {Spec:Nat→Value→World→Prop} {a0:Act} {w0:World} {l l':Nat→Bool} {a:Act} {w w':World} {i:Nat} {o:Oper} {v:Value}
  (hok:DZ ops a0.tmps.size=true) (hst:∀i v w w',Spec i v w→Kept X w w'→Spec i v w') (h:yx X ops Spec a0 w0 l a w) (ho:ops[i]?=some o)
  (hv:∀d,o.dst=some d→Spec i v w') (hk:Kept X w w') (hl:∀j,l' j=true↔j=i∨l j=true) (haft:∀e∈o.after,Region.binds .any e=true→l e.on=true):yx X ops Spec a0 w0 l' (a.put o.dst v) w':=by
 obtain ⟨hd,_⟩:=La hok ho
 refine ⟨h.kept.trans hk,?_,?_,fun t ht=>?_,fun j p d hj hlj xK=>?_,fun j p d hj hlj xK=>?_,fun j p hj hlj e he hb=>?_⟩
 ·unfold Act.put;cases o.dst<;>exact h.defers
 ·unfold Act.put;cases o.dst
  ·exact h.size
  ·simp only [Array.size_setIfInBounds];exact h.size
 ·rw [←h.rest t ht]
  unfold Act.put
  cases hdst:o.dst with
  | none=>rfl
  | some d =>
   have hne:d≠t:=fun e=>ht i o ho (by rw [hdst,e])
   simp only [Array.getD_eq_getD_getElem?,Array.getElem?_setIfInBounds_ne hne]
 ·by_cases hji:j=i
  ·subst hji
   rw [ho] at hj;cases hj
   unfold Act.put
   rw [xK]
   simp only [Array.getD_eq_getD_getElem?,Array.getElem?_setIfInBounds_self_of_lt (show d<a.tmps.size by rw [h.size];exact (hd d xK).1),Option.getD_some]
   exact hv d xK
  ·have hold:=hst _ _ _ _ (h.done j p d hj (((hl j).1 hlj).resolve_left hji) xK) hk
   unfold Act.put
   cases hdst:o.dst with
   | none=>exact hold
   | some d' =>
    have hne:d'≠d:=fun e=>(hd d' hdst).2 j p hj hji (by rw [xK,e])
    simp only [Array.getD_eq_getD_getElem?,Array.getElem?_setIfInBounds_ne hne] at hold⊢
    exact hold
 ·have Yx:l j=false:=by
   cases hx:l j with
   | false=>rfl
   | true=>rw [(hl j).2 (.inr hx)] at hlj;cases hlj
  have hji:j≠i:=fun e=>by rw [(hl j).2 (.inl e)] at hlj;cases hlj
  rw [←h.todo j p d hj Yx xK]
  unfold Act.put
  cases hdst:o.dst with
  | none=>rfl
  | some d' =>
   have hne:d'≠d:=fun e=>(hd d' hdst).2 j p hj hji (by rw [xK,e])
   simp only [Array.getD_eq_getD_getElem?,Array.getElem?_setIfInBounds_ne hne]
 ·rcases (hl j).1 hlj with rfl|hx
  ·rw [ho] at hj;cases hj
   exact (hl _).2 (.inr (haft e he hb))
  ·exact (hl _).2 (.inr (h.closed j p hj hx e he hb))
theorem SX (X:Nat→Prop) (J:(Nat→Bool)→(Nat→Value)→World→Prop) (Spec:Nat→Value→World→Prop) {id:Nat} {a0:Act} {w0:World} (hm:P.follows .mixedOrders=true) (hok:DZ ops a0.tmps.size=true)
  (hst:∀i v w w',Spec i v w→Kept X w w'→Spec i v w')
  (hstep:∀(i:Nat) (o:Oper),ops[i]?=some o→∀(l:Nat→Bool) (a:Act) (w:World),yx X ops Spec a0 w0 l a w→J l (fun t=>a.tmps.getD t undef) w→l i=false→(∀e∈o.after,l e.on=true∨Region.binds .any e=false)→
   if Region.wanted o (yielded ops a.tmps)=true then o.wp P a w (fun a' w'=>∃v,a'=a.put o.dst v∧(∀d,o.dst=some d→Spec i v w')∧Kept X w w'∧∀l',(∀j,l' j=true↔j=i∨l j=true)→J l' (fun t=>(a.put o.dst v).tmps.getD t undef) w') Q
   else (∀d,o.dst=some d→Spec i undef w)∧∀l',(∀j,l' j=true↔j=i∨l j=true)→J l' (fun t=>(a.put o.dst undef).tmps.getD t undef) w)
  (hJ0:∀l:Nat→Bool,(∀i,i<ops.size→l i=false)→J l (fun t=>a0.tmps.getD t undef) w0.drew) (hJe:∀(l l':Nat→Bool) f w,(∀i,i<ops.size→l i=l' i)→J l f w→J l' f w)
  (hend:∀(a:Act) (w:World),yx X ops Spec a0 w0 (fun _=>true) a w→J (fun _=>true) (fun t=>a.tmps.getD t undef) w→Q .normal a w):(Code.region id ops true).wp P Q a0 w0:=by
 refine wp_region_any hm ?_
 have hall:∀(l:Array Bool),l.size=ops.size→Region.ready .any ops l=[]→∀i,i<ops.size→l.getD i true=true:=by
  intro l hls hr i
  induction i using Nat.strongRecOn with
  | _ i ih =>
   intro hi
   cases hg:l.getD i true with
   | true=>rfl
   | false =>
    exfalso
    have ho:ops[i]?=some ops[i]:=Array.getElem?_eq_getElem hi
    have hm':i∈Region.ready .any ops l:=mem_ready.2 ⟨hg,ops[i],ho,fun e he hbe=>by
     have hlt:=(La hok ho).2 e he hbe
     have:=ih e.on hlt (by omega)
     rw [Array.getD_eq_getD_getElem?] at this⊢
     rw [Array.getElem?_eq_getElem (by omega)] at this⊢
     exact this⟩
    rw [hr] at hm';cases hm'
 have main:∀(fuel:Nat) (l:Array Bool) (a:Act) (w:World),l.size=ops.size→(List.range ops.size).countP (fun i=>!l.getD i true)≤fuel→
   yx X ops Spec a0 w0 (fun i=>l.getD i true) a w→J (fun i=>l.getD i true) (fun t=>a.tmps.getD t undef) w→wpAny P .any ops Q fuel l a w:=by
  intro fuel
  have fin:∀(l:Array Bool) (a:Act) (w:World),l.size=ops.size→Region.ready .any ops l=[]→yx X ops Spec a0 w0 (fun i=>l.getD i true) a w→J (fun i=>l.getD i true) (fun t=>a.tmps.getD t undef) w→Q .normal a w :=
   fun l a w hls hr h hj=>hend a w ⟨h.kept,h.defers,h.size,h.rest,fun i o d ho _ hd=>h.done i o d ho (hall l hls hr i (Array.getElem?_eq_some_iff.1 ho).1) hd,fun _ _ _ _ h=>(by cases h),fun _ _ _ _ _ _ _=>rfl⟩ (hJe _ _ _ _ (fun i hi=>hall l hls hr i hi) hj)
  induction fuel with
  | zero =>
   intro l a w hls hc h hj
   have hr:Region.ready .any ops l=[]:=List.eq_nil_iff_forall_not_mem.2 fun i hi=>by
    obtain ⟨hg,o,ho,_⟩:=mem_ready.1 hi
    have hlt:=(Array.getElem?_eq_some_iff.1 ho).1
    have h0:(List.range ops.size).countP (fun i=>!l.getD i true)=0:=by omega
    have:=List.countP_eq_zero.1 h0 i (List.mem_range.2 hlt)
    rw [hg] at this;exact this rfl
   exact ⟨hr,fin l a w hls hr h hj⟩
  | succ fuel ih =>
   intro l a w hls hc h hj
   refine ⟨fun hr=>fin l a w hls hr h hj,fun i hi=>?_⟩
   obtain ⟨hg,o,ho,haft⟩:=mem_ready.1 hi
   have hlt:=(Array.getElem?_eq_some_iff.1 ho).1
   have cont:∀(v:Value) (w':World),(∀d,o.dst=some d→Spec i v w')→Kept X w w'→(∀l',(∀j,l' j=true↔j=i∨l.getD j true=true)→J l' (fun t=>(a.put o.dst v).tmps.getD t undef) w')→wpAny P .any ops Q fuel (l.setIfInBounds i true) (a.put o.dst v) w':=by
    intro v w' hv hk hj'
    have hset:∀j,(l.setIfInBounds i true).getD j true=true↔j=i∨l.getD j true=true:=by
     intro j
     by_cases hji:j=i
     ·subst hji
      simp only [Array.getD_eq_getD_getElem?,Array.getElem?_setIfInBounds_self_of_lt (show j<l.size by omega),Option.getD_some,true_or]
     ·simp only [Array.getD_eq_getD_getElem?,Array.getElem?_setIfInBounds_ne (Ne.symm hji),hji,false_or]
    refine ih _ _ _ (by rw [Array.size_setIfInBounds];exact hls) ?_ (h.afe hok hst ho hv hk (fun j=>hset j) fun e he hb=>?_) (hj' _ fun j=>hset j)
    rotate_left
    ·have:=haft e he hb
     rw [Array.getD_eq_getD_getElem?] at this⊢
     cases hx:l[e.on]? with
     | none=>rw [hx] at this;cases this
     | some b=>rw [hx] at this;simpa using this
    have hc2:(List.range ops.size).countP (fun j=>!(l.setIfInBounds i true).getD j true)+1≤(List.range ops.size).countP (fun j=>!l.getD j true):=by
     have key:∀(r:List Nat),r.Nodup→(r.countP (fun j=>!(l.setIfInBounds i true).getD j true))+(if i∈r then 1 else 0)=r.countP (fun j=>!l.getD j true):=by
      intro r
      induction r with
      | nil=>intro _;rfl
      | cons j r ihr =>
       intro hn
       obtain ⟨hj1,hj2⟩:=List.nodup_cons.1 hn
       have ihr:=ihr hj2
       simp only [List.countP_cons,List.mem_cons]
       by_cases hji:j=i
       ·subst hji
        rw [if_neg hj1] at ihr
        have e1:(l.setIfInBounds j true).getD j true=true:=(hset j).2 (.inl rfl)
        rw [e1,hg]
        simp only [Bool.not_true,Bool.not_false,Bool.false_eq_true,if_false,if_true,true_or]
        omega
       ·have e1:(l.setIfInBounds i true).getD j true=l.getD j true:=by
         simp only [Array.getD_eq_getD_getElem?,Array.getElem?_setIfInBounds_ne (Ne.symm hji)]
        have e2:(i=j∨i∈r)↔i∈r:=⟨fun h=>h.resolve_left (Ne.symm hji),.inr⟩
        rw [e1]
        simp only [e2];omega
     have:=key (List.range ops.size) List.nodup_range
     rw [if_pos (List.mem_range.2 hlt)] at this
     omega
    omega
   have hs:=hstep i o ho (fun i=>l.getD i true) a w h hj hg fun e he=>by
     cases hb:Region.binds .any e with
     | false=>exact .inr rfl
     | true =>
      left
      have:=haft e he hb
      rw [Array.getD_eq_getD_getElem?] at this⊢
      cases hx:l[e.on]? with
      | none=>rw [hx] at this;cases this
      | some b=>rw [hx] at this;simpa using this
   unfold wpOp
   simp only [ho]
   by_cases hw:Region.wanted o (yielded ops a.tmps)=true
   ·rw [if_pos hw] at hs⊢
    refine .inl (Oper.wp_mono ?_ hs)
    rintro a' w' ⟨v,rfl,hv,hk,hj'⟩
    exact cont v w' hv hk hj'
   ·rw [if_neg hw] at hs⊢
    exact cont undef w hs.1 (Kept.refl _ _) hs.2
 refine main _ _ _ _ (by simp) ?_ ⟨(Kept.refl X w0).drew,rfl,rfl,fun _ _=>rfl,fun i o d ho hl _=>?_,fun _ _ _ _ _ _=>rfl,fun i o ho hl=>?_⟩ (hJ0 _ fun i hi=>by simp [Array.getD_eq_getD_getElem?,hi])
 ·exact Nat.le_trans List.countP_le_length (by simp)
 all_goals
  exfalso
  have hlt:=(Array.getElem?_eq_some_iff.1 ho).1
  simp [Array.getD_eq_getD_getElem?,hlt] at hl
theorem oH (X:Nat→Prop) (J:(Nat→Bool)→(Nat→Value)→World→Prop) (Spec:Nat→Value→World→Prop) {id:Nat} {a0:Act} {w0:World} (ds:List Nat) (hds:ops.toList.filterMap (·.dst)=ds) (hm:P.follows .mixedOrders=true) (hok:DZ ops a0.tmps.size=true)
  (hst:∀i v w w',Spec i v w→Kept X w w'→Spec i v w')
  (hstep:∀(i:Nat) (o:Oper),ops[i]?=some o→∀(l:Nat→Bool) (a:Act) (w:World),yx X ops Spec a0 w0 l a w→J l (fun t=>a.tmps.getD t undef) w→l i=false→(∀e∈o.after,l e.on=true∨Region.binds .any e=false)→
   if Region.wanted o (yielded ops a.tmps)=true then o.wp P a w (fun a' w'=>∃v,a'=a.put o.dst v∧(∀d,o.dst=some d→Spec i v w')∧Kept X w w'∧∀l',(∀j,l' j=true↔j=i∨l j=true)→J l' (fun t=>(a.put o.dst v).tmps.getD t undef) w') Q
   else (∀d,o.dst=some d→Spec i undef w)∧∀l',(∀j,l' j=true↔j=i∨l j=true)→J l' (fun t=>(a.put o.dst undef).tmps.getD t undef) w)
  (hJ0:∀l:Nat→Bool,(∀i,i<ops.size→l i=false)→J l (fun t=>a0.tmps.getD t undef) w0.drew) (hJe:∀(l l':Nat→Bool) f w,(∀i,i<ops.size→l i=l' i)→J l f w→J l' f w)
  (hend:∀(f:Nat→Value) (w:World),Kept X w0 w→(∀(i:Nat) (o:Oper) (d:Nat),ops[i]?=some o→o.dst=some d→Spec i (f d) w)→J (fun _=>true) f w→Q .normal ⟨kP f a0.tmps ds,a0.defers⟩ w):(Code.region id ops true).wp P Q a0 w0:=by
 refine SX X J Spec hm hok hst hstep hJ0 hJe fun a w h hj=>?_
 rw [h.act ds hds]
 exact hend _ w h.kept (fun i o d ho hd=>h.done i o d ho rfl hd) hj
theorem dY {o:Oper} {a:Act} {p q:Prop} (h:o.guard=none) (hp:p):if Region.wanted o (yielded ops a.tmps)=true then p else q:=by
 rw [if_pos (by simp [Region.wanted,h])];exact hp
theorem lG {J:(Nat→Bool)→(Nat→Value)→World→Prop} {X:Nat→Prop} {l:Nat→Bool} {i:Nat} {o:Oper} {x:Act} {w w':World} {R:Nat→Value→World→Prop} (hr:(execOp x.eval o).run P w=.ok .skip w') (hd:o.dst=none) (hk:Kept X w w')
  (hj:∀l',(∀j,l' j=true↔j=i∨l j=true)→J l' (fun t=>(x.put o.dst undef).tmps.getD t undef) w') :
  o.wp P x w (fun a' w'=>∃v,a'=x.put o.dst v∧(∀d,o.dst=some d→R i v w')∧Kept X w w'∧∀l',(∀j,l' j=true↔j=i∨l j=true)→J l' (fun t=>(x.put o.dst v).tmps.getD t undef) w') Q:=by
 unfold Oper.wp
 rw [hr]
 exact ⟨undef,by first|rfl|(rw [hd];rfl),fun d (h:o.dst=some d)=>(by rw [hd] at h;cases h),hk,hj⟩
theorem uN {J:(Nat→Bool)→(Nat→Value)→World→Prop} {X:Nat→Prop} {l:Nat→Bool} {i:Nat} {o:Oper} {x:Act} {w:World} {R:Nat→Value→World→Prop} {F:World→Prop} (hr:∃w',(execOp x.eval o).run P w=.ok .skip w'∧F w') (hd:o.dst=none) (hk:∀w',F w'→Kept X w w')
  (hj:∀w',F w'→∀l',(∀j,l' j=true↔j=i∨l j=true)→J l' (fun t=>(x.put o.dst undef).tmps.getD t undef) w') :
  o.wp P x w (fun a' w'=>∃v,a'=x.put o.dst v∧(∀d,o.dst=some d→R i v w')∧Kept X w w'∧∀l',(∀j,l' j=true↔j=i∨l j=true)→J l' (fun t=>(x.put o.dst v).tmps.getD t undef) w') Q:=by
 obtain ⟨w',hr,hf⟩:=hr
 exact lG hr hd (hk w' hf) (hj w' hf)
theorem Lc {J:(Nat→Bool)→(Nat→Value)→World→Prop} {X:Nat→Prop} {l:Nat→Bool} {i:Nat} {o:Oper} {x:Act} {w:World} {f:FuncId} {args:Array Value} {R:Nat→Value→World→Prop} (hr:(execOp x.eval o).run P w=.ok (.enter f args) w)
  (hc:Calls P f args w fun e w'=>(∃v,e=.returned v∧R i v w'∧Kept X w w'∧∀l',(∀j,l' j=true↔j=i∨l j=true)→J l' (fun t=>(x.put o.dst v).tmps.getD t undef) w')∨∃ps,e=.panicked ps∧Q (.panic ps) x w') :
  o.wp P x w (fun a' w'=>∃v,a'=x.put o.dst v∧(∀d,o.dst=some d→R i v w')∧Kept X w w'∧∀l',(∀j,l' j=true↔j=i∨l j=true)→J l' (fun t=>(x.put o.dst v).tmps.getD t undef) w') Q:=by
 unfold Oper.wp
 rw [hr]
 refine Calls.mono hc ?_
 rintro e w' (⟨v,rfl,hs,hk,hj⟩|⟨ps,rfl,hq⟩)
 ·exact ⟨v,rfl,fun _ _=>hs,hk,hj⟩
 ·exact hq
end
end Go.Proofs.YtefjbnhpjdhjmaaGreatDoor
