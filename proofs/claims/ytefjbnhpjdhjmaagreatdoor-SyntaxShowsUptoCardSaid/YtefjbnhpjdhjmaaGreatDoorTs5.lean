/-  -/
import Derived.Test.YtefjbnhpjdhjmaaGreatDoorTs6
import Derived.Test.YtefjbnhpjdhjmaaGreatDoorTs11
import Derived.Test.YtefjbnhpjdhjmaaGreatDoorTs19
import Derived.Test.YtefjbnhpjdhjmaaGreatDoorBase
import Derived.Maps.Own
import Derived.Maps.OwnOps
import Derived.Maps.OwnSet
import Derived.Maps.Views
import Derived.Test.YtefjbnhpjdhjmaaGreatDoorTs22
import Derived.Test.YtefjbnhpjdhjmaaGreatDoorTs15
import Derived.Deep.LoopGhost
namespace Go.Proofs.YtefjbnhpjdhjmaaGreatDoor
set_option linter.all false
open Go.RowKit
mutual
def aB:aA→aA
 | .mk k t n nm kids=>.mk k (if k=1∨aT k then t else E0) (if bD k then n else 0) (if bn k then nm else E0) (dD kids)
def dD:List aA→List aA
 | []=>[]
 | p::r=>aB p::dD r
end
theorem mZ:∀l:List aA,(dD l).length=l.length
 | []=>rfl
 | p::r=>by rw [dD,List.length_cons,mZ r,List.length_cons]
mutual
theorem Mc:∀p:aA,sizeT (aB p)=sizeT p
 | .mk k t n nm kids=>by rw [aB,sizeT,sizeT,Js kids]
theorem Js:∀l:List aA,aS (dD l)=aS l
 | []=>rfl
 | p::r=>by rw [dD,aS,aS,Mc p,Js r]
end
mutual
theorem Jt:∀p:aA,eP (aB p)=eP p
 | .mk k t n nm kids=>by rw [aB,eP,eP,Gp kids]
theorem Gp:∀l:List aA,iq (dD l)=iq l
 | []=>rfl
 | p::r=>by rw [dD,iq,iq,Jt p,Gp r]
end
theorem qU {s:aj} {i:Nat} (hi:i≤s.size):skip s (skip s i)=skip s i:=by
 by_cases h:skip s i<s.size
 ·refine Ep h ?_
  intro hb
  have h2:=hb
  have key:∀(l:List UInt8),∀c t,l.drop (l.takeWhile fun c=>c==(32:UInt8)).length=c::t→c≠32:=by
   intro l
   induction l with
   | nil=>intro c t h;simp at h
   | cons a l ih =>
    intro c t h
    rw [List.takeWhile_cons] at h
    split at h
    ·exact ih c t (by simpa using h)
    ·rename_i ha
     simp at h
     intro e;subst e;rw [h.1] at ha;simp at ha
  have hd:=drop_cons h
  have:s.data.toList.drop (skip s i)=(s.data.toList.drop i).drop ((s.data.toList.drop i).takeWhile fun c=>c==(32:UInt8)).length:=by
   rw [List.drop_drop];unfold skip;rfl
  rw [this] at hd
  exact key _ _ _ hd (UInt8.toNat_inj.1 (by simpa using hb))
 ·exact CU (by omega)
def tH (r:List UInt8):Prop:=∀c t,r=c::t→c=32∨c=41
theorem tH.word {r:List UInt8} (h:tH r):l9 iK r:=fun c t e=>by rcases h c t e with rfl|rfl<;>decide
theorem tH.quote {r:List UInt8} (h:tH r):l9 (fun c=>c==39) r:=fun c t e=>by rcases h c t e with rfl|rfl<;>decide
theorem tH.sp (r:List UInt8):tH (32::r):=fun c t e=>.inl (List.cons.inj e).1.symm
theorem tH.br (r:List UInt8):tH (41::r):=fun c t e=>.inr (List.cons.inj e).1.symm
def yh (s:aj) (k:Nat):Prop:=peek s (skip s k)≠46∧peek s (skip s k)≠36
def yY (s:aj) (k:Nat):Prop:=peek s (skip s k) = -1∨peek s (skip s k)=41∨peek s (skip s k)=124
def AQ (s:aj) (k:Nat):Prop:=peek s (skip s k) = -1∨peek s (skip s k)=41
theorem AQ.one {s:aj} {k:Nat} (h:AQ s k):yY s k:=h.elim .inl fun h=>.inr (.inl h)
theorem yY.adg {s:aj} {k:Nat} (h:yY s k):yh s k:=by unfold yh;rcases h with h|h|h<;>rw [h]<;>decide
theorem yY.start {s:aj} {k:Nat} (h:yY s k):starts (peek s (skip s k))=false:=by rcases h with h|h|h<;>rw [h]<;>decide
theorem TY {s:aj}:∀(f g:Nat) (p:aA) (k:Nat),k≤s.size→s.size+1-k≤f→s.size+1-k≤g→jA s f p k=jA s g p k:=by
 intro f
 induction f with
 | zero=>intro g p k hk hf;omega
 | succ f ih =>
  intro g p k hk hf hg
  obtain ⟨g,rfl⟩:∃g',g=g'+1:=⟨g-1,by omega⟩
  rw [jA,jA]
  have adh:=lN (c:=46) hk
  have aeX:=lN (c:=36) adh.1
  split
  ·cases hn:nameP s (fH 46 s k).2 with
   | error e=>rfl
   | ok y =>
    obtain ⟨nm,k1⟩:=y
    have:=qw adh.1 hn
    exact ih g _ k1 this.2 (by omega) (by omega)
  ·split
   ·cases hn:nameP s (fH 36 s (fH 46 s k).2).2 with
    | error e=>rfl
    | ok y =>
     obtain ⟨nm,k1⟩:=y
     have:=qw aeX.1 hn
     exact ih g _ k1 this.2 (by omega) (by omega)
   ·rfl
theorem Xk {s:aj} {f k:Nat} {p:aA} (hk:k≤s.size) (h:yh s k):jA s (f+1) p k=.ok (p,skip s k):=by
 have e:fH 46 s k=(false,skip s k):=if_neg h.1
 have e2:fH 36 s (skip s k)=(false,skip s k):=by unfold fH;rw [qU hk];exact if_neg h.2
 rw [jA,e,if_neg (by simp)]
 dsimp only
 rw [e2,if_neg (by simp)]
theorem aa6 {s:aj} {k:Nat} {nm:aj} {r:List UInt8} (hn:bF nm=true) (h:Has s k (32::nm.data.toList) r) (hr:l9 iK r):nameP s k=.ok (nm,k+1+nm.data.toList.length):=by
 have h1:=EU hn h.tail hr
 have hsk:skip s k=skip s (k+1):=wF h.lt (by rw [h.byte];rfl)
 have hw:gX s k=gX s (k+1):=by unfold gX;rw [hsk]
 unfold nameP at h1⊢
 rw [hw];exact h1
theorem aa7 {s:aj} {f k:Nat} {p:aA} {c:UInt8} {kd:Int} {nm:aj} {r:List UInt8} (hc:(c=46∧kd=21)∨(c=36∧kd=22)) (hn:bF nm=true) (h:Has s k (32::c::32::nm.data.toList) r) (hr:l9 iK r) :
  jA s (f+1) p k=jA s f (.mk kd E0 0 nm [p]) (k+(32::c::32::nm.data.toList).length):=by
 have hsk:skip s k=k+1:=h.Fz (by rcases hc with ⟨rfl,_⟩|⟨rfl,_⟩<;>decide)
 have hpk:=h.tail.peek
 have hnm:=aa6 hn h.tail.tail hr
 have el:k+(32::c::32::nm.data.toList).length=k+1+1+1+nm.data.toList.length:=by simp;omega
 rw [jA,el]
 rcases hc with ⟨rfl,rfl⟩|⟨rfl,rfl⟩
 ·have e:fH 46 s k=(true,k+1+1):=by unfold fH;rw [hsk];exact if_pos (by rw [hpk];rfl)
  rw [e,if_pos rfl,hnm]
 ·have e:fH 46 s k=(false,k+1):=by unfold fH;rw [hsk];exact if_neg (by rw [hpk];decide)
  have e2:fH 36 s (k+1)=(true,k+1+1):=by
   unfold fH;rw [show skip s (k+1)=k+1 from h.tail.skip (by decide)];exact if_pos (by rw [hpk];rfl)
  rw [e,if_neg (by simp)]
  dsimp only
  rw [e2,if_pos rfl,hnm]
theorem Xl {inner:Nat→cZ aA} {s:aj} {i:Nat} (hi:i≤s.size):iZ inner s (skip s i)=iZ inner s i:=by unfold iZ lQ fH;rw [qU hi]
theorem Pn {inner:Nat→cZ aA} {s:aj} {i:Nat} (hi:i≤s.size):kJ inner s (skip s i)=kJ inner s i:=by unfold kJ;rw [Xl hi]
end Go.Proofs.YtefjbnhpjdhjmaaGreatDoor

namespace Go.Proofs.YtefjbnhpjdhjmaaGreatDoor
set_option linter.all false
open Go.RowKit
theorem vO (k:Int):([21,22,23,24]:List Int).contains k=decide (bn k):=by
 rw [Bool.eq_iff_iff,decide_eq_true_eq];unfold bn;simp;omega
def XJ (b:Int) (w:World) (e:Ending) (w':World):Prop:=e=.returned (.int .i64 b)∧Kept aC w w'
end Go.Proofs.YtefjbnhpjdhjmaaGreatDoor

namespace Go.Proofs.YtefjbnhpjdhjmaaGreatDoor
set_option linter.all false
open Go.RowKit Go.Maps Go.WideMaps
theorem Uy:Keyed Tryz.prog 9:=string_keyed Tryz.underlying9
theorem aav (w:World):(zeroValue 3).run Tryz.prog w=.ok (.int .i64 0) w:=by kernel_rfl
def pU (w:World) (B n:Nat) (m:aj→Option Int):Prop :=
 ∃D:DataW Unit,w.ownsMap Tryz.prog 9 (plainElem Tryz.prog 3) B n D∧IsMap D∧
  ∀s:aj,Maps.has D (.string s.data.toList)=(m s).isSome∧∀z,D.atKey (.string s.data.toList) z=match m s with|some c=>.lit (.int .i64 c)|none=>z
theorem pU.made (w:World):pU (w.alloc (.map #[] 0)) w.heap.size 0 (fun _=>none) :=
 ⟨.map [],World.ownsMap_made w _ _ _,⟨[],rfl⟩,fun s=>⟨rfl,fun z=>rfl⟩⟩
theorem pU.lt {w:World} {B n:Nat} {m:aj→Option Int} (h:pU w B n m):B<w.heap.size:=by
 obtain ⟨D,h,_⟩:=h;exact h.lt
theorem pU.kept {w w':World} {B n:Nat} {m:aj→Option Int} {X:Nat→Prop} (h:pU w B n m) (hk:Kept X w w') (hx:¬X B):pU w' B n m:=by
 have hlt:=h.lt
 obtain ⟨D,⟨es,clock,hb,F,hs,hD⟩,h2⟩:=h
 exact ⟨D,⟨es,clock,(hk.block B hlt hx).trans hb,F,hs,hD⟩,h2⟩
theorem Np {s t:aj} (h:s≠t):(Lit.string s.data.toList)≠.string t.data.toList:=by
 intro e
 simp only [Lit.string.injEq] at e
 apply h
 obtain ⟨x⟩:=s;obtain ⟨y⟩:=t
 have:x=y:=Array.toList_inj.1 e
 rw [this]
def yw (m:aj→Option Int) (k:aj) (c:Int):aj→Option Int:=fun s=>if s=k then some c else m s
end Go.Proofs.YtefjbnhpjdhjmaaGreatDoor

namespace Go.Proofs.YtefjbnhpjdhjmaaGreatDoor
set_option linter.all false
open Go.RowKit
set_option maxRecDepth 100000
set_option maxHeartbeats 8000000
theorem IQ (kids:List aA) (j:Nat) (hj:j<kids.length):kE (decide (j=0)) (kids.drop j)=(if j=0 then [] else [44,32])++(aP kids[j] 1++kE (decide (j+1=0)) (kids.drop (j+1))):=by
 rw [List.drop_eq_getElem_cons hj,kE]
 by_cases h:j=0
 ·subst h;simp
 ·simp [h]
def wu (N T:Nat) (S:Nat→Prop) (b o:Nat) (p:aA) (kids:List aA) (l:List UInt8) (w:World) (j:Nat) (wr:World):Prop :=
 ∃d,d++kE (decide (j=0)) (kids.drop j)=kE true kids∧sG N T S b o p (l++d) wr∧KB N T w wr
theorem wu.next {N T:Nat} {S:Nat→Prop} {b o:Nat} {p:aA} {kids:List aA} {l d:List UInt8} {w w':World} {j:Nat} (hj:j<kids.length)
  (hd:d++kE (decide (j=0)) (kids.drop j)=kE true kids) (h:sG N T S b o p ((l++d)++((if j=0 then [] else [44,32])++aP kids[j] 1)) w') (k:KB N T w w'):wu N T S b o p kids l w (j+1) w':=by
 refine ⟨d++((if j=0 then [] else [44,32])++aP kids[j] 1),?_,by rw [List.append_assoc] at h;exact h,k⟩
 rw [IQ kids j hj] at hd
 rw [←hd];simp [List.append_assoc]
theorem wu.len {kids:List aA} {j:Nat} {d:List UInt8} (hj:j<kids.length) (hd:d++kE (decide (j=0)) (kids.drop j)=kE true kids) :
  d.length+(if j=0 then 0 else 2)+(aP kids[j] 1).length≤(kE true kids).length:=by
 rw [IQ kids j hj] at hd
 have:=congrArg List.length hd
 simp only [List.length_append] at this
 split at this<;>split<;>simp_all<;>omega
theorem YH (N T:Nat) (S:Nat→Prop) (b o i:Nat) (t:aj) (n:Int) (nm:aj) (kids:List aA) (l:List UInt8) (w:World) (h:sG N T S b o (.mk 6 t n nm kids) l w) (hn:lI (.mk 6 t n nm kids)) (hi:i≤5) (hl:l.length+(aP (.mk 6 t n nm kids) i).length≤big) (hih:En N T S kids):oQ N T b o i (.mk 6 t n nm kids) l w:=by
 have hfc:=hn.facts
 obtain ⟨_,_,p0,p1,p2,p3,ka,cap,p4,-⟩:=h.pat.open
 dsimp only [aA.aY,aA.aW,aA.dY,aA.aX,aA.aU] at p0 p1 p2 p3 p4
 unfold oQ
 have HH:=ah h;have HIH:=ah hih
 have e0:decide ((5:Int)<(i:Int))=false:=au (by omega)
 have hs:aP (.mk 6 t n nm kids) i=nm.data.toList++(40::(kE true kids++[41])):=by rw [aP];rfl
 rw [hs] at hl⊢
 have eb:big=1000000000000:=rfl
 have QN:nm.data.toList.length=nm.size:=rfl
 simp only [List.length_append,List.length_cons,List.length_nil] at hl
 have hstr:Hid (nm++(⟨#[40]⟩:aj)=⟨(nm.data.toList++[40]).toArray⟩):=by
  unfold Hid;show (⟨nm.data.toList.toArray⟩:aj)++⟨[40].toArray⟩=_;rw [kQ]
 have hnm:nm.size≤16:=hfc.2.2.2.2.1 (by omega)
 have hk8:kids.length≤8:=hfc.2.2.2.2.2.1 rfl
 clear hs hih h hn hfc p1 p2 p4
 go_enter_defers Tryz.func38, Tryz.ntmps38
 go_wp2_with (go_at_call 70;(refine (oJ 6 w).mono ?_);rintro e w' ⟨rfl,aQ⟩;obtain rfl:=aQ.symm;simp only [sD,xg,dw])
 rw [hstr.out]
 refine (bM N T l _ _ HH.out.jd (by show l.length+(nm.data.toList++[40]).toArray.size≤_;rw [List.size_toArray];simp only [List.length_append,List.length_cons,List.length_nil];omega) HH.out.hw).mono ?_
 rintro e w1 ⟨rfl,B1,K1⟩
 have VE:ni N T (l++(nm.data.toList++[40])) w1:=B1
 have h1:=HH.out.wrote VE K1
 obtain ⟨_,_,-,-,-,-,ka1,cap1,p4,-⟩:=h1.pat.open
 dsimp only [aA.aU] at p4
 have H1:=ah h1;have iG:=ah K1
 clear B1 VE K1 h1 p0 p3
 generalize hl1:l++(nm.data.toList++[40])=l1 at H1
 have ZV:=ah hl1
 have hll:l1.length+(kE true kids).length+1≤1000000000000:=by rw [←hl1];simp only [List.length_append,List.length_cons,List.length_nil];omega
 clear hl1
 go_wp2_with fail
 go_loopw [134] (fun x wr=>∃j:Nat,j≤kids.length∧x=.int .i64 j∧Hid (wu N T S b o (.mk 6 t n nm kids) kids l1 w1 j wr)) (fun x _=>kids.length-(intOf x).toNat)
 case atStart=>exact ⟨0,Nat.zero_le _,rfl,[],by simp,by simpa using H1.out,KB.refl _ _ _⟩
 case round =>
  obtain ⟨j,hj,rfl,wE⟩:=hrel
  clear p4
  obtain ⟨d,hd,HI,hK⟩:=wE.out
  have I:=ah HI;have HK:=ah hK;have HD:=ah hd
  by_cases hlt:j<kids.length
  ·have hlen:=wu.len hlt hd
   obtain ⟨kb,ko,cap1,c4,hq⟩:=HI.kid j hlt
   have HQ:=ah hq
   clear hd hK HI hq wE
   by_cases hj0:j=0
   ·have y1:decide ((0:Int)<(j:Int))=false:=au (by omega)
    have y2:decide (0<j)=false:=au (by omega)
    have HE:Hid ((if j=0 then [] else ([44,32]:List UInt8))=[]):=if_pos hj0
    rw [if_pos hj0] at hlen
    clear hj0
    go_wp2_with fail
    refine (HIH.out j hlt kb (ko+j*5) 1 _ _ HQ.out (by omega) (by show (l1++d).length+_≤_;simp only [List.length_append,List.length_cons,List.length_nil];omega)).mono ?_
    rintro e w3 ⟨rfl,B3,K3⟩
    have L3:Hid (wu N T S b o (.mk 6 t n nm kids) kids l1 w1 (j+1) w3):=wu.next hlt HD.out (by rw [HE.out];exact I.out.wrote B3 K3) (KB.trans HK.out K3)
    clear B3 K3 c4
    go_wp2_with fail
    go_roundw
    case rel=>exact ⟨j+1,by omega,by go_num,L3⟩
    case measure=>simp [intOf];omega
   ·have y1:decide ((0:Int)<(j:Int))=true:=ak (by omega)
    have y2:decide (0<j)=true:=ak (by omega)
    have HE:Hid ((if j=0 then [] else ([44,32]:List UInt8))=[44,32]):=if_neg hj0
    rw [if_neg hj0] at hlen
    clear hj0
    go_wp2_with fail
    refine (bM N T _ ⟨#[44,32]⟩ _ I.out.jd (by show (l1++d).length+2≤_;simp only [List.length_append,List.length_cons,List.length_nil] at hlen⊢;omega) I.out.hw).mono ?_
    rintro e w2 ⟨rfl,B2,K2⟩
    rw [show (⟨#[44,32]⟩:aj).data.toList=[44,32] from rfl] at B2
    have I2:=ah (I.out.wrote B2 K2)
    have uZ:=ah (KB.trans HK.out K2)
    clear B2 K2 c4
    obtain ⟨kb,ko,cap1,c4,hq⟩:=I2.out.kid j hlt
    clear HQ
    have HQ:=ah hq
    clear hq
    go_wp2_with fail
    refine (HIH.out j hlt kb (ko+j*5) 1 _ _ HQ.out (by omega) (by simp only [List.length_append,List.length_cons,List.length_nil] at hlen⊢;omega)).mono ?_
    rintro e w3 ⟨rfl,B3,K3⟩
    have L3:Hid (wu N T S b o (.mk 6 t n nm kids) kids l1 w1 (j+1) w3):=wu.next hlt HD.out (by rw [HE.out,←List.append_assoc];exact I2.out.wrote B3 K3) (KB.trans uZ.out K3)
    clear B3 K3 c4
    go_wp2_with fail
    go_roundw
    case rel=>exact ⟨j+1,by omega,by go_num,L3⟩
    case measure=>simp [intOf];omega
  ·obtain rfl:j=kids.length:=by omega
   rw [List.drop_length] at hd
   have hd2:d=kE true kids:=by simpa [kE] using hd
   subst hd2
   clear hd hK HI wE HD
   go_wp2_with fail
   refine (jk N T _ 41 41 rfl _ I.out.jd (by simp only [List.length_append,List.length_cons,List.length_nil];omega) I.out.hw).mono ?_
   rintro e w3 ⟨rfl,B3,K3⟩
   have KK:=ah (KB.trans iG.out (KB.trans HK.out K3))
   have Q:Hid (ni N T (l++(nm.data.toList++(40::(kE true kids++[41])))) w3):=by
    have B3':ni N T ((l1++kE true kids)++[41]) w3:=B3
    rw [←ZV.out] at B3'
    simp only [List.append_assoc,List.cons_append,List.nil_append] at B3'
    exact B3'
   clear B3 K3
   go_wp2_with fail
   exact ⟨_,results_none rfl _ _ _,rfl,Q.out,KK.out⟩
theorem aaG (N T:Nat) (S:Nat→Prop):∀(m:Nat) (p:aA) (b o i:Nat) (l:List UInt8) (w:World),sizeT p≤m→lI p→sG N T S b o p l w→i≤5→l.length+(aP p i).length≤big→oQ N T b o i p l w:=by
 intro m
 induction m with
 | zero=>intro p b o i l w hm;have:=lW p;omega
 | succ m ih =>
  intro p b o i l w hm hok h hi hl
  obtain ⟨k,t,n,nm,kids⟩:=p
  have hih:En N T S kids:=fun j hj b o i l w h hi hl=>ih kids[j] b o i l w (by have:=ng kids j hj;simp only [sizeT] at hm;omega) (hok.sub.get j hj) h hi hl
  obtain ⟨h1,h13⟩:=hok.facts.1
  by_cases c1:k=1
  ·subst c1;exact YB N T S b o i t n nm kids l w h hok hi hl
  by_cases c2:k=2
  ·subst c2;exact aaC N T S b o i t n nm kids l w h hok hi hl
  by_cases c3:k=3
  ·subst c3;exact YC N T S b o i t n nm kids l w h hok hi hl
  by_cases c4:k=4
  ·subst c4;exact YD N T S b o i t n nm kids l w h hok hi hl hih
  by_cases c5:k=5
  ·subst c5;exact aaD N T S b o i t n nm kids l w h hok hi hl hih
  by_cases c6:k=6
  ·subst c6;exact YH N T S b o i t n nm kids l w h hok hi hl hih
  by_cases c7:k=7
  ·subst c7
   by_cases hp:i=5
   ·exact YE N T S b o i t n nm kids l w h hok hp hl hih
   ·exact aaE N T S b o i t n nm kids l w h hok (by omega) hl hih
  ·by_cases hp:dw k<i
   ·exact YG N T S b o i t n nm kids l w k (by omega) h hok hi hp hl hih
   ·exact aaF N T S b o i t n nm kids l w k (by omega) h hok hi hp hl hih
end Go.Proofs.YtefjbnhpjdhjmaaGreatDoor

namespace Go.Proofs.YtefjbnhpjdhjmaaGreatDoor
set_option linter.all false
open Go.RowKit
theorem fU.at {w:World} {S:Nat→Prop}:∀{l:List aA} {cs:List Value},fU w S cs l→∀(g o:Nat),(∀j u,cs[j]?=some u→w.cell? ⟨g,o+j,none⟩=some u)→
  ∀(j:Nat) (hj:j<l.length),dH w (fun b=>S b∨b=g) g (o+j*5) l[j]
 | [],cs,h,g,o,hc,j,hj=>by simp at hj
 | p::ps,cs,h,g,o,hc,j,hj=>by
  rw [fU] at h;obtain ⟨c,r,rfl,⟨ka,cap,rfl,hz,hk⟩,h2⟩:=h
  cases j with
  | zero =>
   obtain ⟨k,t,n,nm,kids⟩:=p
   rw [List.getElem_cons_zero];unfold dH
   refine ⟨.inr rfl,hz,hc 0 _ rfl,hc 1 _ rfl,hc 2 _ rfl,hc 3 _ rfl,ka,cap,hc 4 _ rfl,aI.same (fun _ _=>rfl) (fun b h=>.inl h) _ _ hk⟩
  | succ j =>
   rw [List.getElem_cons_succ,show o+(j+1)*5=o+5+j*5 by omega]
   refine h2.at g (o+5) (fun i u hi=>?_) j (by simpa using hj)
   rw [show o+5+i=o+(5+i) by omega];exact hc _ _ (by rw [List.getElem?_append_right (by simp)];simpa using hi)
end Go.Proofs.YtefjbnhpjdhjmaaGreatDoor
