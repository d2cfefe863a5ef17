/-  -/
import Derived.Test.YtefjbnhpjdhjmaaGreatDoorTs15
import Derived.Test.YtefjbnhpjdhjmaaGreatDoorTs23
import Derived.Test.YtefjbnhpjdhjmaaGreatDoorTs20
import Derived.Test.YtefjbnhpjdhjmaaGreatDoorTs19
import Derived.Laws.IdiomStrings
import Derived.Test.YtefjbnhpjdhjmaaGreatDoorTs22
namespace Go.Proofs.YtefjbnhpjdhjmaaGreatDoor
set_option linter.all false
open Go.RowKit
structure Has (s:aj) (i:Nat) (l r:List UInt8):Prop where
 eq:s.data.toList.drop i=l++r
 le:i≤s.size
section
variable {s:aj} {i:Nat} {l m r:List UInt8} {c:UInt8}
theorem Has.size (h:Has s i l r):i+l.length+r.length=s.size:=by
 have:=congrArg List.length h.eq
 rw [List.length_drop,List.length_append] at this
 have e:s.data.toList.length=s.size:=rfl
 have:=h.le
 omega
theorem Has.next (h:Has s i (l++m) r):Has s (i+l.length) m r:=by
 refine ⟨?_,by have:=h.size;simp at this;omega⟩
 rw [←List.drop_drop,h.eq,List.append_assoc,List.drop_left]
theorem Has.split (h:Has s i (l++m) r):Has s i l (m++r):=⟨by rw [h.eq,List.append_assoc],h.le⟩
theorem Has.tail (h:Has s i (c::l) r):Has s (i+1) l r:=by simpa using Has.next (l:=[c]) (m:=l) (by simpa using h)
theorem Has.lt (h:Has s i (c::l) r):i<s.size:=by have:=h.size;simp at this;omega
theorem Has.byte (h:Has s i (c::l) r):s[i]'h.lt=c:=by
 have:=h.eq
 rw [drop_cons h.lt] at this
 exact (List.cons.inj this).1
theorem Has.peek (h:Has s i (c::l) r):peek s i=c.toNat:=by unfold Go.Proofs.YtefjbnhpjdhjmaaGreatDoor.peek;rw [dif_pos h.lt,h.byte]
theorem Has.skip (h:Has s i (c::l) r) (hc:c≠32):skip s i=i:=Ep h.lt (by rw [h.byte];intro e;exact hc (UInt8.toNat_inj.1 (by simpa using e)))
theorem Has.Fz {d:UInt8} (h:Has s i (32::d::l) r) (hd:d≠32):Go.Proofs.YtefjbnhpjdhjmaaGreatDoor.skip s i=i+1:=by
 rw [wF h.lt (by rw [h.byte];rfl),h.tail.skip hd]
theorem Has.ends (h:Has s i [] []):i=s.size:=by have:=h.size;simpa using this
theorem Has.rest (h:Has s i [] (c::r)):Has s i [c] r:=⟨by rw [h.eq];rfl,h.le⟩
theorem Has.done (h:Has s i l r):Has s (i+l.length) [] r:=Has.next (m:=[]) (by simpa using h)
end
def l9 (f:UInt8→Bool) (r:List UInt8):Prop:=∀c t,r=c::t→f c=false
theorem yB {f:UInt8→Bool}:∀{l r:List UInt8},(∀c∈l,f c=true)→l9 f r→(l++r).takeWhile f=l
 | [],[],_,_=>rfl
 | [],c::t,_,h=>by rw [List.nil_append,List.takeWhile_cons,if_neg (by simp [h c t rfl])]
 | c::l,r,h,hr=>by
  rw [List.cons_append,List.takeWhile_cons,if_pos (h c (by simp)),yB (fun d hd=>h d (by simp [hd])) hr]
theorem L6 {s:aj} {i:Nat} {c:UInt8} {l r:List UInt8} (hw:∀d∈c::l,iK d=true) (hc:65≤c.toNat∧c.toNat≤90) (h:Has s i (c::l) r) (hr:l9 iK r) :
  gX s i=.ok ((⟨(c::l).toArray⟩,i),i+(c::l).length):=by
 have h1:skip s i=i:=h.skip (by intro e;subst e;revert hc;decide)
 have h2:dn iK s i=i+(c::l).length:=by unfold dn;rw [h.eq,yB hw hr]
 have h3:s.extract i (i+(c::l).length)=⟨(c::l).toArray⟩:=by
  apply ByteArray.ext
  apply Array.ext'
  have:(s.extract i (i+(c::l).length)).data.toList=(s.data.toList.drop i).take (c::l).length:=by simp
  rw [this,h.eq,List.take_left]
 unfold gX
 rw [h1,if_pos (by rw [h.peek];omega),h2,h3]
theorem EU {s:aj} {i:Nat} {nm:aj} {r:List UInt8} (hn:bF nm=true) (h:Has s i nm.data.toList r) (hr:l9 iK r):nameP s i=.ok (nm,i+nm.data.toList.length):=by
 obtain ⟨x,hx⟩:∃x,x=nm.data.toList:=⟨_,rfl⟩
 have e:nm.data.toList.length=nm.size:=rfl
 have hs:=jC hn
 unfold bF at hn
 simp only [Bool.and_eq_true,decide_eq_true_eq,List.all_eq_true,List.mem_range] at hn
 obtain ⟨⟨h1,_⟩,h2⟩:=hn
 rw [←hx] at h h2⊢
 rw [←e,←hx] at h1 h2
 cases x with
 | nil=>simp at h1
 | cons c l =>
  have h0:=h2 0 (by simp)
  have hw:∀d∈c::l,iK d=true:=by
   intro d hd
   obtain ⟨j,hj,rfl⟩:=List.getElem_of_mem hd
   have:=h2 j hj
   rw [List.getD_eq_getElem?_getD,List.getElem?_eq_getElem hj] at this
   simp only [Option.getD_some] at this
   unfold lV at this
   unfold iK
   revert this
   cases jO (c::l)[j]<;>cases dL (c::l)[j]<;>simp
  have hc:65≤c.toNat∧c.toNat≤90:=by
   simp only [List.getD_cons_zero] at h0
   unfold lV jO at h0
   simpa using h0
  unfold nameP
  rw [L6 hw hc h hr]
  have en:(⟨(c::l).toArray⟩:aj)=nm:=by rw [hx]
  rw [en]
  dsimp only
  rw [if_neg (by omega)]
theorem C9:∀(l r:List UInt8),l9 (fun c=>c==39) r→fF (nI l++39::r)=some (l,(nI l).length+1)
 | [],[],_=>rfl
 | [],d::r,h=>by
  have hd:¬d=39:=by have:=h d r rfl;simpa using this
  show fF (39::d::r)=_
  rw [fF,if_pos rfl,if_neg hd];rfl
 | c::l,r,h=>by
  have ih:=C9 l r h
  by_cases hc:c=39
  ·subst hc
   rw [nI,if_pos rfl]
   show fF (39::39::(nI l++39::r))=_
   rw [fF,if_pos rfl,if_pos rfl,ih];rfl
  ·rw [nI,if_neg hc,List.cons_append]
   cases hx:nI l++39::r with
   | nil=>simp at hx
   | cons d t =>
    rw [fF,if_neg hc,←hx,ih];rfl
theorem L8 {s:aj} {i:Nat} {t:aj} {r:List UInt8} (h:Has s i (gu t) r) (hr:l9 (fun c=>c==39) r):iY s i=.ok ((t,i),i+(gu t).length):=by
 unfold gu at h
 have hn:dI 39 s i=.ok (i+1):=by
  unfold dI;rw [h.skip (by decide),if_pos (by rw [h.peek];rfl)]
 unfold iY
 rw [hn]
 dsimp only
 have ht:=h.tail
 rw [ht.eq,List.append_assoc,List.singleton_append,C9 _ _ hr]
 unfold nN
 simp only [List.nil_append,gu,List.length_cons,List.length_append,List.length_nil]
 have e1:i+1-1=i:=by omega
 have e2:i+1+((nI t.data.toList).length+1)=i+((nI t.data.toList).length+(0+1)+1):=by omega
 rw [e1,e2]
theorem Dl {s:aj} {k:Nat} {c:UInt8} {r:List UInt8} {d:Nat} (hd:d<10) (hc:c=UInt8.ofNat (48+d)) (h:Has s k [c] r):DK s k=true∧(peek s k).toNat-48=d∧peek s k=48+(d:Int):=by
 have hp:=h.peek
 have:c.toNat=48+d:=by rw [hc];simp;omega
 unfold DK
 rw [hp,this]
 refine ⟨by simp;omega,by omega,by omega⟩
theorem L9 {s:aj} {j:Nat}:∀(g u:Nat),u<10 ^ g→u≤65536→∀(r:List UInt8) (f:Nat),Has s j (Lib.decDigits u) r→(Lib.decDigits u).length≤f→
  oU s j f j 0=oU s j (f-(Lib.decDigits u).length) (j+(Lib.decDigits u).length) u
 | 0,u,h,_,r,f,hh,hf=>by
  have:u=0:=by simpa using h
  subst this
  rw [Lib.decDigits,dif_pos (by omega)] at hh hf⊢
  obtain ⟨f,rfl⟩:∃f',f=f'+1:=⟨f-1,by simp at hf;omega⟩
  obtain ⟨h1,h2,_⟩:=Dl (d:=0) (by omega) rfl hh
  rw [oU,if_pos h1,if_neg (by omega),if_neg (by rw [h2];omega),h2]
  simp
 | g+1,u,hg,h6,r,f,hh,hf=>by
  by_cases hu:u<10
  ·rw [Lib.decDigits,dif_pos hu] at hh hf⊢
   obtain ⟨f,rfl⟩:∃f',f=f'+1:=⟨f-1,by simp at hf;omega⟩
   obtain ⟨h1,h2,_⟩:=Dl hu rfl hh
   rw [oU,if_pos h1,if_neg (by omega),if_neg (by rw [h2];omega),h2]
   simp
  ·have hd:Lib.decDigits u=Lib.decDigits (u/10)++[UInt8.ofNat (48+u % 10)]:=by rw [Lib.decDigits,dif_neg hu]
   rw [hd] at hh hf⊢
   rw [List.length_append] at hf⊢
   simp only [List.length_cons,List.length_nil] at hf⊢
   have ih:=L9 (s:=s) (j:=j) g (u/10) (by rw [Nat.pow_succ] at hg;omega) (by omega) _ f hh.split (by omega)
   rw [ih]
   have hn:=hh.next
   obtain ⟨h1,h2,_⟩:=Dl (d:=u % 10) (by omega) rfl hn
   obtain ⟨f',hf'⟩:∃f',f-(Lib.decDigits (u/10)).length=f'+1:=⟨f-(Lib.decDigits (u/10)).length-1,by omega⟩
   rw [hf',oU,if_pos h1,h2]
   rw [if_neg,if_neg (by omega)]
   ·have e1:f-((Lib.decDigits (u/10)).length+(0+1))=f':=by omega
    have e2:10*(u/10)+u % 10=u:=by omega
    rw [e1,e2];rfl
   ·rintro ⟨hk,hz⟩
    have hl:(Lib.decDigits (u/10)).length=1:=by omega
    by_cases hq:u/10<10
    ·have hx:=hh.split
     rw [Lib.decDigits,dif_pos hq] at hx
     have:=(Dl hq rfl ⟨hx.eq,hx.le⟩).2.2
     omega
    ·rw [Lib.decDigits,dif_neg hq,List.length_append] at hl
     have:0<(Lib.decDigits (u/10/10)).length:=by rw [Lib.decDigits];split<;>simp
     simp only [List.length_cons,List.length_nil] at hl;omega
theorem Zl {s:aj} {i n:Nat} {r:List UInt8} (hn:n≤65536) (h:Has s i (Lib.decDigits n) r) (hr:l9 dL r):ny s i=.ok (n,i+(Lib.decDigits n).length):=by
 obtain ⟨c,l,hd,hc⟩:∃c l,Lib.decDigits n=c::l∧48≤c.toNat∧c.toNat≤57:=by
  have key:∀(g u:Nat),u<10 ^ g→∃c l,Lib.decDigits u=c::l∧48≤c.toNat∧c.toNat≤57:=by
   intro g
   induction g with
   | zero =>
        intro u hu;have:u=0:=by simpa using hu
        subst this;exact ⟨48,[],by rw [Lib.decDigits,dif_pos (by omega)];rfl,by decide,by decide⟩
   | succ g ih =>
    intro u hu
    by_cases h10:u<10
    ·refine ⟨UInt8.ofNat (48+u),[],by rw [Lib.decDigits,dif_pos h10],?_,?_⟩<;>simp<;>omega
    ·obtain ⟨c,l,h1,h2⟩:=ih (u/10) (by rw [Nat.pow_succ] at hu;omega)
     exact ⟨c,l++[UInt8.ofNat (48+u % 10)],by rw [Lib.decDigits,dif_neg h10,h1];rfl,h2⟩
  exact key 5 n (by omega)
 have h':=h
 rw [hd] at h'
 have h1:skip s i=i:=h'.skip (by intro e;subst e;revert hc;decide)
 have hlen:=BH 5 n (by omega)
 have hsz:=h.size
 unfold ny
 rw [h1,if_pos (by rw [h'.peek];omega),L9 5 n (by omega) hn r _ h (by omega)]
 have hdone:=h.done
 cases hf:s.size-i-(Lib.decDigits n).length with
 | zero=>rw [oU]
 | succ f =>
  rw [oU,if_neg]
  intro hD
  cases r with
  | nil=>simp at hsz;omega
  | cons d t =>
   have hp:=hdone.rest.peek
   unfold DK at hD
   rw [hp] at hD
   have:=hr d t rfl
   unfold dL at this
   simp only [Bool.and_eq_true,decide_eq_true_eq] at hD
   rw [Bool.and_eq_false_iff] at this
   simp only [decide_eq_false_iff_not] at this
   omega
end Go.Proofs.YtefjbnhpjdhjmaaGreatDoor

namespace Go.Proofs.YtefjbnhpjdhjmaaGreatDoor
set_option linter.all false
open Go.RowKit
def Ae (l:List UInt8):List UInt8:=Lib.replaceK [39,39] [39] (Lib.count l [39,39]) l
theorem aa8 (l:List UInt8):Lib.replaceAll l [39,39] [39]=Ae l:=by
 unfold Lib.replaceAll Lib.replace Lib.replaceNum Ae
 rw [if_neg (by decide),if_pos (.inl (by decide))]
theorem Rj:Ae []=[]:=by decide
theorem aa9 (r:List UInt8):Ae (39::39::r)=39::Ae r:=by
 have hi:Lib.index (39::39::r) [39,39]=((0:Nat):Int):=by
  rw [Lib.index,if_pos (by simp [List.isPrefixOf])];rfl
 unfold Ae
 rw [Lib.count_hit (by simp) hi,Nat.add_comm 1,Lib.replaceK_hit _ _ _ _ 0 hi]
 simp
theorem abb {c:UInt8} {r:List UInt8} (h:([39,39]:List UInt8).isPrefixOf (c::r)=false):Ae (c::r)=c::Ae r:=by
 have hge:=Lib.index_ge r [39,39]
 by_cases hm:Lib.index r [39,39] = -1
 ·have hi:Lib.index (c::r) [39,39] = -1:=by
   rw [Lib.index,if_neg (by simp [h]),if_pos (by simp [hm])]
  unfold Ae
  rw [Lib.count_miss hi,Lib.count_miss hm,Lib.replaceK,Lib.replaceK]
 ·obtain ⟨i,hi⟩:∃i:Nat,Lib.index r [39,39]=i:=⟨(Lib.index r [39,39]).toNat,by omega⟩
  have hi2:Lib.index (c::r) [39,39]=((i+1:Nat):Int):=by
   rw [Lib.index,if_neg (by simp [h]),if_neg (by simp [hm]),hi]
   try omega
  unfold Ae
  rw [Lib.count_hit (by simp) hi2,Lib.count_hit (by simp) hi,Nat.add_comm 1,Nat.add_comm 1,Lib.replaceK_hit _ _ _ _ (i+1) hi2,Lib.replaceK_hit _ _ _ _ i hi]
  have e1:i+1+([39,39]:List UInt8).length=(i+([39,39]:List UInt8).length)+1:=by show i+1+2=i+2+1;omega
  rw [e1,List.drop_succ_cons,List.take_succ_cons]
  rfl
theorem JW:∀(l:List UInt8) (b:List UInt8) (n:Nat),fF l=some (b,n)→Ae (l.take (n-1))=b
 | [],b,n,h=>by simp [fF] at h
 | [c],b,n,h=>by
  rw [fF] at h
  split at h
  ·simp only [Option.some.injEq,Prod.mk.injEq] at h
   obtain ⟨rfl,rfl⟩:=h
   exact Rj
  ·cases h
 | c::d::r,b,n,h=>by
  rw [fF] at h
  split at h
  ·rename_i hc
   split at h
   ·rename_i hd
    cases hr:fF r with
    | none=>rw [hr] at h;cases h
    | some x =>
     obtain ⟨b',n'⟩:=x
     rw [hr] at h
     simp only [Option.map_some,Option.some.injEq,Prod.mk.injEq] at h
     obtain ⟨rfl,rfl⟩:=h
     have hn:=(vH r b' n' hr).2
     have ih:=JW r b' n' hr
     rw [show n'+2-1=(n'-1)+1+1 by omega,List.take_succ_cons,List.take_succ_cons,hc,hd,aa9,ih]
   ·simp only [Option.some.injEq,Prod.mk.injEq] at h
    obtain ⟨rfl,rfl⟩:=h
    exact Rj
  ·rename_i hc
   cases hr:fF (d::r) with
   | none=>rw [hr] at h;cases h
   | some x =>
    obtain ⟨b',n'⟩:=x
    rw [hr] at h
    simp only [Option.map_some,Option.some.injEq,Prod.mk.injEq] at h
    obtain ⟨rfl,rfl⟩:=h
    have hn:=(vH (d::r) b' n' hr).2
    have ih:=JW (d::r) b' n' hr
    rw [show n'+1-1=(n'-1)+1 by omega,List.take_succ_cons,abb (by simp [List.isPrefixOf];intro h;exact absurd h.symm hc),ih]
theorem zM (s:aj) (a m:Nat):(s.extract a (a+m)).data.toList=(s.data.toList.drop a).take m:=by
 rw [ByteArray.data_extract,Array.toList_extract,List.extract_eq_drop_take,Nat.add_sub_cancel_left]
theorem Zk {s:aj} {i:Nat} {b:List UInt8} {n:Nat} (h:fF (s.data.toList.drop i)=some (b,n)):Lib.replaceAll (s.extract i (i+(n-1))).data.toList [39,39] [39]=b:=by
 rw [aa8,zM]
 exact JW _ _ _ h
def uN (w:World):Prop:=∃m,w.cell? ⟨0,0,none⟩=some (.int .i64 m)
theorem uN.kept {w w':World} {X:Nat→Prop} (h:uN w) (hk:Kept X w w') (hx:¬X 0):uN w':=by
 obtain ⟨m,hm⟩:=h
 exact ⟨m,(hk.cell (cells_lt hm) hx).trans hm⟩
theorem aa5 (x:aj) (w:World) (hg:uN w) (hs:x.size≤1000000000) :
  Calls Tryz.prog 44 #[.string x,.string ⟨#[39,39]⟩,.string ⟨#[39]⟩] w (zI (Lib.replaceAll x.data.toList [39,39] [39]) w):=by
 obtain ⟨m,hm⟩:=hg
 have hc:Lib.countB x ⟨#[39,39]⟩≤x.size+1:=by
  show Lib.count x.data.toList [39,39]≤_
  exact Lib.count_le _ _
 refine (Tryz.strings_ReplaceAll x ⟨#[39,39]⟩ ⟨#[39]⟩ m w (by omega) hm (by decide) (by show x.size+Lib.countB x ⟨#[39,39]⟩*1≤_;omega)).mono ?_
 rintro e w' ⟨rfl,h⟩
 exact ⟨rfl,Kept.of_below h⟩
end Go.Proofs.YtefjbnhpjdhjmaaGreatDoor

namespace Go.Proofs.YtefjbnhpjdhjmaaGreatDoor
set_option linter.all false
open Go.RowKit
set_option maxRecDepth 100000
set_option maxHeartbeats 4000000
section
variable (N T:Nat) (S:Nat→Prop) (b o i:Nat) (t:aj) (n:Int) (nm:aj) (kids:List aA) (l:List UInt8) (w:World)
theorem aaF (k:Int) (hk:8≤k) (h:sG N T S b o (.mk k t n nm kids) l w) (hn:lI (.mk k t n nm kids)) (hi:i≤5) (hp:¬dw k<i) (hl:l.length+(aP (.mk k t n nm kids) i).length≤big) (hih:En N T S kids):oQ N T b o i (.mk k t n nm kids) l w:=by
 obtain ⟨p,q,rfl⟩:=hn.two hk
 have hfc:=hn.facts.1
 obtain ⟨_,_,p0,p1,p2,p3,ka,cap,p4,-⟩:=h.pat.open
 dsimp only [aA.aY,aA.aW,aA.dY,aA.aX,aA.aU] at p0 p1 p2 p3 p4
 unfold oQ
 have HH:=ah h;have HIH:=ah hih
 have hs:aP (.mk k t n nm [p,q]) i=(aP p (dw k)++([32,gY k,32]++aP q (dw k+1))):=by
  rw [aP,if_neg (by omega),if_neg (by omega),if_neg (by omega),if_neg (by omega),if_neg (by omega),if_neg (by omega),if_neg (by omega)]
  simp only [wZ,oV]
  rw [au hp];rfl
 rw [hs] at hl⊢
 have eb:big=1000000000000:=rfl
 simp only [List.length_append,List.length_cons,List.length_nil] at hl
 have hsg:sD k=⟨[gY k].toArray⟩:=if_pos (by omega)
 have hos:xg k=dw k:=if_neg (by omega)
 have how:dw k≤3:=by unfold dw;split;omega;split;omega;split;omega;omega
 have hstr:Hid ((⟨#[32]⟩:aj)++⟨[gY k].toArray⟩++⟨#[32]⟩=⟨[32,gY k,32].toArray⟩):=by
  unfold Hid;show (⟨[32].toArray⟩:aj)++⟨[gY k].toArray⟩++⟨[32].toArray⟩=_;rw [kQ,kQ];rfl
 have YF:(⟨[gY k].toArray⟩:aj).size=1:=rfl
 generalize hsb:(⟨[gY k].toArray⟩:aj)=sb at hsg hstr YF
 generalize dw k=ow at *
 have HS:=ah (show sD k=sb from hsg);have HO:=ah hos
 have e0:decide ((ow:Int)<(i:Int))=false:=au (by omega)
 have e0':decide (ow<i)=false:=au hp
 have z1:(k==1)=false:=by simp;omega
 have z2:(k==2)=false:=by simp;omega
 have z3:(k==3)=false:=by simp;omega
 have z4:(k==4)=false:=by simp;omega
 have z5:(k==5)=false:=by simp;omega
 have z6:(k==6)=false:=by simp;omega
 have z7:(k==7)=false:=by simp;omega
 clear hs hih h hn hfc p1 p2 p3 hsg hos hsb hp
 obtain ⟨kb,ko,cap1,c4,hq⟩:=HH.out.kid 0 (by simp)
 have HQ:=ah hq
 clear hq p4
 go_enter_defers Tryz.func38, Tryz.ntmps38
 go_wp2_with (go_at_call 70;(refine (oJ k w).mono ?_);rintro e w' ⟨rfl,aQ⟩;obtain rfl:=aQ.symm;rw [HS.out,HO.out])
 refine (HIH.out 0 (by simp) kb ko ow (l) w (by have:=HQ.out;simpa using this) (by omega) (by show (l).length+(aP p ow).length≤_;(try simp only [List.length_append,List.length_cons,List.length_nil]);omega)).mono ?_
 rintro e w3 ⟨rfl,B3,K3⟩
 have B3':ni N T ((l)++aP p ow) w3:=B3
 have H3:=ah (HH.out.wrote B3' K3)
 have FT:=ah K3
 clear B3 B3' K3 c4 p0
 go_wp2_with fail
 rw [hstr.out]
 refine (bM N T _ _ _ H3.out.jd (by show ((l)++aP p ow).length + [32,gY k,32].toArray.size≤_;rw [List.size_toArray];(try simp only [List.length_append,List.length_cons,List.length_nil]);omega) H3.out.hw).mono ?_
 rintro e w4 ⟨rfl,B4,K4⟩
 have VF:ni N T (((l)++aP p ow)++[32,gY k,32]) w4:=B4
 have h4:=H3.out.wrote VF K4
 obtain ⟨kb2,ko2,cap2,c5,hq2⟩:=h4.kid 1 (by simp)
 have H4:=ah h4;have HQ2:=ah hq2;have xU:=ah (KB.trans FT.out K4)
 clear B4 VF K4 h4 hq2
 go_wp2_with fail
 try rw [show (ow:Int)+1=((ow+1:Nat):Int) from rfl]
 refine (HIH.out 1 (by simp) kb2 (ko2+1*5) (ow+1) (((l)++aP p ow)++[32,gY k,32]) w4 (by have:=HQ2.out;simpa using this) (by omega) (by show (((l)++aP p ow)++[32,gY k,32]).length+(aP q (ow+1)).length≤_;(try simp only [List.length_append,List.length_cons,List.length_nil]);omega)).mono ?_
 rintro e w5 ⟨rfl,B5,K5⟩
 have Az:ni N T ((((l)++aP p ow)++[32,gY k,32])++aP q (ow+1)) w5:=B5
 have H5:=ah (H4.out.wrote Az K5)
 have KK:=ah (KB.trans xU.out K5)
 clear B5 Az K5 c5
 go_wp2_with fail
 refine ⟨_,results_none rfl _ _ _,rfl,?_,KK.out⟩
 have:=H5.out.jd
 simp only [List.append_assoc,List.cons_append,List.nil_append] at this⊢
 exact this
theorem YG (k:Int) (hk:8≤k) (h:sG N T S b o (.mk k t n nm kids) l w) (hn:lI (.mk k t n nm kids)) (hi:i≤5) (hp:dw k<i) (hl:l.length+(aP (.mk k t n nm kids) i).length≤big) (hih:En N T S kids):oQ N T b o i (.mk k t n nm kids) l w:=by
 obtain ⟨p,q,rfl⟩:=hn.two hk
 have hfc:=hn.facts.1
 obtain ⟨_,_,p0,p1,p2,p3,ka,cap,p4,-⟩:=h.pat.open
 dsimp only [aA.aY,aA.aW,aA.dY,aA.aX,aA.aU] at p0 p1 p2 p3 p4
 unfold oQ
 have HH:=ah h;have HIH:=ah hih
 have hs:aP (.mk k t n nm [p,q]) i=40::((aP p (dw k)++([32,gY k,32]++aP q (dw k+1)))++[41]):=by
  rw [aP,if_neg (by omega),if_neg (by omega),if_neg (by omega),if_neg (by omega),if_neg (by omega),if_neg (by omega),if_neg (by omega)]
  simp only [wZ,oV]
  rw [ak hp];rfl
 rw [hs] at hl⊢
 have eb:big=1000000000000:=rfl
 simp only [List.length_append,List.length_cons,List.length_nil] at hl
 have hsg:sD k=⟨[gY k].toArray⟩:=if_pos (by omega)
 have hos:xg k=dw k:=if_neg (by omega)
 have how:dw k≤3:=by unfold dw;split;omega;split;omega;split;omega;omega
 have hstr:Hid ((⟨#[32]⟩:aj)++⟨[gY k].toArray⟩++⟨#[32]⟩=⟨[32,gY k,32].toArray⟩):=by
  unfold Hid;show (⟨[32].toArray⟩:aj)++⟨[gY k].toArray⟩++⟨[32].toArray⟩=_;rw [kQ,kQ];rfl
 have YF:(⟨[gY k].toArray⟩:aj).size=1:=rfl
 generalize hsb:(⟨[gY k].toArray⟩:aj)=sb at hsg hstr YF
 generalize dw k=ow at *
 have HS:=ah (show sD k=sb from hsg);have HO:=ah hos
 have e0:decide ((ow:Int)<(i:Int))=true:=ak (by omega)
 have e0':decide (ow<i)=true:=ak hp
 have z1:(k==1)=false:=by simp;omega
 have z2:(k==2)=false:=by simp;omega
 have z3:(k==3)=false:=by simp;omega
 have z4:(k==4)=false:=by simp;omega
 have z5:(k==5)=false:=by simp;omega
 have z6:(k==6)=false:=by simp;omega
 have z7:(k==7)=false:=by simp;omega
 clear hs hih h hn hfc p1 p2 p3 hsg hos hsb hp
 obtain ⟨kb,ko,cap1,c4,hq⟩:=HH.out.kid 0 (by simp)
 have HQ:=ah hq
 clear hq p4
 go_enter_defers Tryz.func38, Tryz.ntmps38
 go_wp2_with (go_at_call 70;(refine (oJ k w).mono ?_);rintro e w' ⟨rfl,aQ⟩;obtain rfl:=aQ.symm;rw [HS.out,HO.out])
 refine (jk N T l 40 40 rfl w HH.out.jd (by omega) HH.out.hw).mono ?_
 rintro e w1 ⟨rfl,B1,K1⟩
 have h1:=HH.out.wrote B1 K1
 have iG:=ah K1
 clear HQ c4
 obtain ⟨_,_,r0,-,-,-,_,_,-,-⟩:=h1.pat.open
 dsimp only [aA.aY] at r0
 obtain ⟨kb,ko,cap1,c4,hq⟩:=h1.kid 0 (by simp)
 have H1:=ah h1;have HQ:=ah hq
 clear B1 K1 h1 p0 hq
 go_wp2_with fail
 refine (HIH.out 0 (by simp) kb ko ow (l++[40]) w1 (by have:=HQ.out;simpa using this) (by omega) (by show (l++[40]).length+(aP p ow).length≤_;(try simp only [List.length_append,List.length_cons,List.length_nil]);omega)).mono ?_
 rintro e w3 ⟨rfl,B3,K3⟩
 have B3':ni N T ((l++[40])++aP p ow) w3:=B3
 have H3:=ah (H1.out.wrote B3' K3)
 have FT:=ah (KB.trans iG.out K3)
 clear B3 B3' K3 c4 r0
 go_wp2_with fail
 rw [hstr.out]
 refine (bM N T _ _ _ H3.out.jd (by show ((l++[40])++aP p ow).length + [32,gY k,32].toArray.size≤_;rw [List.size_toArray];(try simp only [List.length_append,List.length_cons,List.length_nil]);omega) H3.out.hw).mono ?_
 rintro e w4 ⟨rfl,B4,K4⟩
 have VF:ni N T (((l++[40])++aP p ow)++[32,gY k,32]) w4:=B4
 have h4:=H3.out.wrote VF K4
 obtain ⟨kb2,ko2,cap2,c5,hq2⟩:=h4.kid 1 (by simp)
 have H4:=ah h4;have HQ2:=ah hq2;have xU:=ah (KB.trans FT.out K4)
 clear B4 VF K4 h4 hq2
 go_wp2_with fail
 try rw [show (ow:Int)+1=((ow+1:Nat):Int) from rfl]
 refine (HIH.out 1 (by simp) kb2 (ko2+1*5) (ow+1) (((l++[40])++aP p ow)++[32,gY k,32]) w4 (by have:=HQ2.out;simpa using this) (by omega) (by show (((l++[40])++aP p ow)++[32,gY k,32]).length+(aP q (ow+1)).length≤_;(try simp only [List.length_append,List.length_cons,List.length_nil]);omega)).mono ?_
 rintro e w5 ⟨rfl,B5,K5⟩
 have Az:ni N T ((((l++[40])++aP p ow)++[32,gY k,32])++aP q (ow+1)) w5:=B5
 have H5:=ah (H4.out.wrote Az K5)
 have KK:=ah (KB.trans xU.out K5)
 clear B5 Az K5 c5
 go_wp2_with fail
 refine leaves_cons (f:=67) (args:=#[.pointer (some ⟨N,0,none⟩),.int .u8 41]) (by simp) (by simp [go_sem]) ?_
 refine (tJ N T _ 41 _ _ H5.out.jd (by (try simp only [List.length_append,List.length_cons,List.length_nil]);omega) H5.out.hw).mono ?_
 rintro e u' w6 ⟨rfl,rfl,B6,K6⟩
 refine ⟨_,results_none rfl _ _ _,rfl,?_,KB.trans KK.out K6⟩
 have:=B6
 simp only [List.append_assoc,List.cons_append,List.nil_append] at this⊢
 exact this
end
end Go.Proofs.YtefjbnhpjdhjmaaGreatDoor
