/-  -/
import Derived.Test.YtgoijmpahffnhaaGreatDoorLc1
import Derived.Test.YtgoijmpahffnhaaGreatDoorLc4
import Derived.Deep.QuietTactic
import Derived.BigQuiet
import Derived.Deep.LoopGhost
import Derived.WalkLawsBesides
namespace Go.Proofs.YtgoijmpahffnhaaGreatDoor
set_option linter.all false
open Go.RowKit
set_option maxRecDepth 100000
set_option maxHeartbeats 4000000
def iR (k:Int):Prop:=3≤k∧k≤7
def jS (k:Int):Prop:=k=2∨(8≤k∧k≤11)
def jr (k:Int):Prop:=21≤k∧k≤24
instance (k:Int):Decidable (iR k):=by unfold iR;exact inferInstance
instance (k:Int):Decidable (jS k):=by unfold jS;exact inferInstance
instance (k:Int):Decidable (jr k):=by unfold jr;exact inferInstance
def lQ (k:Int):Nat:=if k=18∨k=19 then 2 else if 20≤k∧k≤22 then 1 else 0
def pG (k:Int):Nat:=if k=18∨k=19 then 4096 else if 20≤k∧k≤22 then 1 else 0
def jw (p:aA):Int :=
 if p.kind<1∨24<p.kind then 1
 else if (p.kind=1∨iR p.kind)∧65536<p.text.size then 4
 else if iR p.kind∧p.text.size=0 then 8
 else if jS p.kind∧(p.n<0∨65536<p.n) then 3
 else if jr p.kind∧gW p.name=false then 7
 else if p.kids.length<lQ p.kind∨pG p.kind<p.kids.length then 5 else 0
section
variable {k n:Int} {t nm:aj} {kids:List aA}
theorem PL:jw (.mk 1 t n nm kids)=if 65536<t.size then 4 else if kids.length<lQ 1∨pG 1<kids.length then 5 else 0:=by
 have b:¬iR 1:=by decide
 have c:¬jr 1:=by decide
 have d:¬jS 1:=by decide
 have a:¬((1:Int)<1∨24<(1:Int)):=by omega
 simp only [jw,aA.zK,aA.zL,aA.L6,aA.zM,aA.zN,a,b,c,d,if_false,true_and,true_or,false_and]
 rfl
theorem Ea (h:iR k):jw (.mk k t n nm kids)=if 65536<t.size then 4 else if t.size=0 then 8 else if kids.length<lQ k∨pG k<kids.length then 5 else 0:=by
 have h':=h;unfold iR at h'
 have a:¬(k<1∨24<k):=by omega
 have b:¬jS k:=by unfold jS;omega
 have c:¬jr k:=by unfold jr;omega
 simp only [jw,aA.zK,aA.zL,aA.L6,aA.zM,aA.zN,a,b,c,h,if_false,true_and,or_true,false_and]
 rfl
theorem PN (h:jS k):jw (.mk k t n nm kids)=if n<0∨65536<n then 3 else if kids.length<lQ k∨pG k<kids.length then 5 else 0:=by
 have h':=h;unfold jS at h'
 have a:¬(k<1∨24<k):=by omega
 have b:¬iR k:=by unfold iR;omega
 have c:¬jr k:=by unfold jr;omega
 have d:¬k=1:=by omega
 simp only [jw,aA.zK,aA.zL,aA.L6,aA.zM,aA.zN,a,b,c,d,h,if_false,true_and,or_false,false_and]
 rfl
theorem Eb (h:jr k):jw (.mk k t n nm kids)=if gW nm=false then 7 else if kids.length<lQ k∨pG k<kids.length then 5 else 0:=by
 have h':=h;unfold jr at h'
 have a:¬(k<1∨24<k):=by omega
 have b:¬iR k:=by unfold iR;omega
 have c:¬jS k:=by unfold jS;omega
 have d:¬k=1:=by omega
 simp only [jw,aA.zK,aA.zL,aA.L6,aA.zM,aA.zN,a,b,c,d,h,if_false,true_and,or_false,false_and]
 rfl
theorem BL (h:12≤k∧k≤20):jw (.mk k t n nm kids)=if kids.length<lQ k∨pG k<kids.length then 5 else 0:=by
 have a:¬(k<1∨24<k):=by omega
 have b:¬iR k:=by unfold iR;omega
 have c:¬jS k:=by unfold jS;omega
 have c':¬jr k:=by unfold jr;omega
 have d:¬k=1:=by omega
 simp only [jw,aA.zK,aA.zL,aA.L6,aA.zM,aA.zN,a,b,c,c',d,if_false,or_false,false_and]
 rfl
def Tail (k:Int) (kids:List aA) (r:Int):Prop:=r=if kids.length<lQ k∨pG k<kids.length then 5 else 0
def uY (k:Int) (t:aj) (n:Int) (nm:aj) (kids:List aA) (l m:Value):Prop :=
 l=.int .i64 (lQ k)∧m=.int .i64 (pG k)∧Tail k kids (jw (.mk k t n nm kids))
theorem ae9 {b:Bool} (h:(!b)=true):b=false:=by simpa using h
theorem Yc {b:Bool} (h:(!b)=false):b=true:=by simpa using h
theorem text_of {k:Int} (h:(k==3)=true∨(k==4)=true∨(k==5)=true∨(k==6)=true∨(k==7)=true):iR k:=by
 simp only [beq_iff_eq] at h;unfold iR;omega
theorem Yd {k:Int} (h:(k==2)=true∨(k==8)=true∨(k==9)=true∨(k==10)=true∨(k==11)=true):jS k:=by
 simp only [beq_iff_eq] at h;unfold jS;omega
theorem acA {k:Int} (h:(k==21)=true∨(k==22)=true∨(k==23)=true∨(k==24)=true):jr k:=by
 simp only [beq_iff_eq] at h;unfold jr;omega
variable {k n:Int} {t nm:aj} {kids:List aA}
theorem afA (h:(k==1)=true) (h1:65536<(t.size:Int)):jw (.mk k t n nm kids)=4:=by
 obtain rfl:k=1:=by simpa using h
 rw [PL,if_pos (by omega)]
theorem afB (h:(k==1)=true) (h1:(t.size:Int)≤65536):uY k t n nm kids (.int .i64 0) (.int .i64 0):=by
 obtain rfl:k=1:=by simpa using h
 refine ⟨rfl,rfl,?_⟩;unfold Tail;rw [PL,if_neg (by omega)]
theorem acB (h:iR k) (h1:65536<(t.size:Int)):jw (.mk k t n nm kids)=4:=by rw [Ea h,if_pos (by omega)]
theorem acC (h:iR k) (h1:(t.size:Int)≤65536) (h2:t.toList.isEmpty=true):jw (.mk k t n nm kids)=8:=by rw [Ea h,if_neg (by omega),if_pos (jg.1 h2)]
theorem UZ (h:k<18∨22<k):lQ k=0∧pG k=0:=by
 have a:¬(k=18∨k=19):=by omega
 have b:¬(20≤k∧k≤22):=by omega
 simp [lQ,pG,a,b]
theorem U0 (h:k<18∨22<k) (h1:Tail k kids (jw (.mk k t n nm kids))):uY k t n nm kids (.int .i64 0) (.int .i64 0):=by
 obtain ⟨a,b⟩:=UZ h;unfold uY;rw [a,b];exact ⟨rfl,rfl,h1⟩
theorem afa (h:iR k) (h1:(t.size:Int)≤65536) (h2:t.toList.isEmpty=false):uY k t n nm kids (.int .i64 0) (.int .i64 0):=by
 refine U0 (by unfold iR at h;omega) ?_;unfold Tail;rw [Ea h,if_neg (by omega),if_neg (by have:=gy.1 h2;omega)]
theorem afC (h:jS k) (h1:n<0∨65536<n):jw (.mk k t n nm kids)=3:=by rw [PN h,if_pos h1]
theorem afD (h:jS k) (h1:0≤n∧n≤65536):uY k t n nm kids (.int .i64 0) (.int .i64 0):=by
 refine U0 (by unfold jS at h;omega) ?_;unfold Tail;rw [PN h,if_neg (by omega)]
theorem afb (h:jr k) (h1:gW nm=false):jw (.mk k t n nm kids)=7:=by rw [Eb h,if_pos h1]
theorem acD (h:(k==23)=true∨(k==24)=true) (h1:gW nm=true):uY k t n nm kids (.int .i64 0) (.int .i64 0):=by
 simp only [beq_iff_eq] at h
 refine U0 (by omega) ?_;unfold Tail;rw [Eb (by unfold jr;omega),if_neg (by simp [h1])]
theorem acE (h:(k==21)=true∨(k==22)=true) (h1:gW nm=true):uY k t n nm kids (.int .i64 1) (.int .i64 1):=by
 simp only [beq_iff_eq] at h
 have a:lQ k=1:=by unfold lQ;rw [if_neg (by omega),if_pos (by omega)]
 have b:pG k=1:=by unfold pG;rw [if_neg (by omega),if_pos (by omega)]
 unfold uY;rw [a,b];refine ⟨rfl,rfl,?_⟩;unfold Tail;rw [Eb (by unfold jr;omega),if_neg (by simp [h1])]
theorem afE (h:(k==18)=true∨(k==19)=true):uY k t n nm kids (.int .i64 2) (.int .i64 4096):=by
 simp only [beq_iff_eq] at h
 have a:lQ k=2:=by unfold lQ;rw [if_pos (by omega)]
 have b:pG k=4096:=by unfold pG;rw [if_pos (by omega)]
 unfold uY;rw [a,b];exact ⟨rfl,rfl,BL (by omega)⟩
theorem acF (h:(k==20)=true):uY k t n nm kids (.int .i64 1) (.int .i64 1):=by
 simp only [beq_iff_eq] at h;subst h;exact ⟨rfl,rfl,BL (by omega)⟩
theorem acG (h:12≤k∧k≤17):uY k t n nm kids (.int .i64 0) (.int .i64 0):=U0 (by omega) (BL (by omega))
theorem ahw {l m:Value} (h:uY k t n nm kids l m):∃a b:Nat,l=.int .i64 a∧m=.int .i64 b∧jw (.mk k t n nm kids)=if (kids.length:Int)<a∨(b:Int)<kids.length then 5 else 0:=by
 obtain ⟨rfl,rfl,h⟩:=h
 refine ⟨_,_,rfl,rfl,?_⟩
 unfold Tail at h;rw [h]
 by_cases hc:kids.length<lQ k∨pG k<kids.length
 ·rw [if_pos hc,if_pos (by omega)]
 ·rw [if_neg hc,if_neg (by omega)]
end
theorem Ye (p:aA) (b o:Nat) (S:Nat→Prop) (w:World) (hp:aW w S b o p) :
  Calls Tryz.prog 136 #[.pointer (some ⟨b,o,none⟩)] w fun e w'=>e=.returned (.int .i64 (jw p))∧w=w':=by
 obtain ⟨k,t,n,nm,kids⟩:=p
 unfold aW at hp
 obtain ⟨_,⟨ht,hn0,hk⟩,h0,h1,h2,h3,ka,cap,h4,hks⟩:=hp
 clear hks
 have hn:nm.size≤maxLen:=by unfold maxLen;omega
 by_cases hk0:k<1
 ·go_enter Tryz.func136, Tryz.ntmps136
  go_wp2_with fail
  go_ret
  exact ⟨by simp [jw,hk0],rfl⟩
 by_cases hk1:24<k
 ·go_enter Tryz.func136, Tryz.ntmps136
  go_wp2_with fail
  go_ret
  exact ⟨by simp [jw,hk1],rfl⟩
 go_enter Tryz.func136, Tryz.ntmps136
 go_upto_block 0 with fail
 go_cut [3,4] (fun l m w'=>w=w'∧uY k t n nm kids l m)
 case first =>
  go_wp2_with (go_at_call 93;refine (tC _ _ hn).mono ?_;rintro e w' ⟨rfl,rfl⟩)
  all_goals
   first
    | (go_meet;go_light;refine ⟨rfl,?_⟩;first
      | exact afB ‹_› ‹_›
      | exact afa (text_of (by first|exact .inl ‹_› | exact .inr (.inl ‹_›)|exact .inr (.inr (.inl ‹_›))|exact .inr (.inr (.inr (.inl ‹_›)))|exact .inr (.inr (.inr (.inr ‹_›))))) ‹_› ‹_›
      | exact afD (Yd (by first|exact .inl ‹_› | exact .inr (.inl ‹_›)|exact .inr (.inr (.inl ‹_›))|exact .inr (.inr (.inr (.inl ‹_›)))|exact .inr (.inr (.inr (.inr ‹_›))))) (by omega)
      | exact acE (by first|exact .inl ‹_› | exact .inr ‹_›) (by first|assumption|exact Yc ‹_›)
      | exact acD (by first|exact .inl ‹_› | exact .inr ‹_›) (by first|assumption|exact Yc ‹_›)
      | exact afE (by first|exact .inl ‹_› | exact .inr ‹_›)
      | exact acF ‹_›
      | exact acG (by simp only [beq_eq_false_iff_ne] at *;omega))
    | (go_ret;go_light;refine ⟨zJ (Eq.symm ?_),rfl⟩;first
      | exact afA ‹_› ‹_›
      | exact acB (text_of (by first|exact .inl ‹_› | exact .inr (.inl ‹_›)|exact .inr (.inr (.inl ‹_›))|exact .inr (.inr (.inr (.inl ‹_›)))|exact .inr (.inr (.inr (.inr ‹_›))))) ‹_›
      | exact acC (text_of (by first|exact .inl ‹_› | exact .inr (.inl ‹_›)|exact .inr (.inr (.inl ‹_›))|exact .inr (.inr (.inr (.inl ‹_›)))|exact .inr (.inr (.inr (.inr ‹_›))))) ‹_› ‹_›
      | exact afC (Yd (by first|exact .inl ‹_› | exact .inr (.inl ‹_›)|exact .inr (.inr (.inl ‹_›))|exact .inr (.inr (.inr (.inl ‹_›)))|exact .inr (.inr (.inr (.inr ‹_›))))) (by omega)
      | exact afb (acA (by first|exact .inl ‹_› | exact .inr (.inl ‹_›)|exact .inr (.inr (.inl ‹_›))|exact .inr (.inr (.inr ‹_›)))) (by first|assumption|exact ae9 ‹_›))
 case rest =>
  obtain ⟨rfl,hc⟩:=hcut
  obtain ⟨a,b,rfl,rfl,he⟩:=ahw hc
  have He:=ah he;clear he hc
  go_wp2_with fail
  all_goals
   go_ret
   refine ⟨zJ (Eq.symm ?_),rfl⟩
   rw [He.out]
   first|rw [if_pos (by omega)]|rw [if_neg (by omega)]
end Go.Proofs.YtgoijmpahffnhaaGreatDoor

namespace Go.Proofs.YtgoijmpahffnhaaGreatDoor
set_option linter.all false
open Go.RowKit
set_option maxRecDepth 100000
set_option maxHeartbeats 400000
def wP (_:Int) (p:aA) (_:Nat):Int×Bool:=(jw p,jw p==0)
def IJ (c:Nat) (e:Int) (w:World):Prop:=dW w c 25 (.int .i64 e)
theorem U1 (c:Nat) (st:Int) (p:aA) (b o d:Nat) (S:Nat→Prop) (w:World) (hI:IJ c st w) (hp:aW w S b o p) :
  Calls Tryz.prog 135 #[.pointer (some ⟨b,o,none⟩),.int .i64 (d:Nat),.pointer (some ⟨c,0,none⟩)] w
   (vV (IJ c) (· = c) (wP st p d) w):=by
 have q1:=hI.cell;have f1:=hI.free
 have K:∀u,u=jw p→vV (IJ c) (· = c) (wP st p d) w (.returned (.bool (u==0))) (w.setCell ⟨c,0,none⟩ (.int .i64 u)):=by
  rintro u rfl;exact ⟨rfl,hI.set _,(Kept.refl _ w).setCell (.inl (by simp)) _⟩
 have HK:=ah K;clear K
 clear hI
 go_enter Tryz.func135, Tryz.ntmps135
 go_wp2_with fail
 refine (Ye p b o S _ hp).mono ?_
 rintro e w1 ⟨rfl,rfl⟩
 go_wp2_with fail
 go_ret
 exact HK.out _ rfl
def bQ (p:aA):Int:=if (jv iH (0,0) p 1).2 then (jv wP 0 p 1).1 else 4
theorem zC (p:aA) (v:Value) (w:World) (hp:kP w (· < w.heap.size) v p) (hsz:sizeT p≤100000000) :
  Calls Tryz.prog 95 #[v] w (fun e w'=>e=.returned (.int .i64 (bQ p))∧Kept aB w w'):=by
 obtain ⟨c,hv,hb⟩:=hp.box 57 (fun b hb=>hb)
 have hp0:=hp
 obtain ⟨ka,cap,rfl,hz,hk⟩:=hp
 simp only [Value.agg.injEq] at hv;subst hv
 have hmf:∀(fn:Fn) (first cap:Array Value) (w:World),(Instr.makeFunc fn first cap).run Tryz.prog w=.ok (.func fn first cap) w:=fun _ _ _ _=>rfl
 go_enter Tryz.func95, Tryz.ntmps95
 go_wp2_with fail
 refine (size_any p _ _ ⟨ka,cap,rfl,hz,aI.same (fun b hb=>Below.heap_alloc _ _ _ hb) (fun b hb=>by simp;omega) _ _ hk⟩ hsz).mono ?_
 rintro e w1 ⟨rfl,hk1⟩
 have rC:Hid (Kept aB w w1):=((Kept.refl aB w).alloc _).quiet hk1
 have hb1:=hb.kept hk1 (fun b hb=>⟨by simp;omega,fun h=>h⟩)
 have hsz1:w.heap.size+1≤w1.heap.size:=by have:=hk1.size;simpa using this
 clear hk hp0 hb hk1
 cases hr:jv iH (0,0) p 1 with
 | mk st ok =>
 obtain ⟨n,d⟩:=st
 have e1:Aj p=Ak ((n,d),ok):=by simp [Aj,hr]
 cases ok with
 | false =>
  have Hf:Hid (bQ p=4):=by simp [bQ,hr,Hid]
  rw [e1];clear hr e1
  dsimp only [Ak]
  go_wp2_with fail
  go_ret
  exact ⟨zJ Hf.out.symm,rC.out⟩
 | true =>
  have Hf:Hid (bQ p=(jv wP 0 p 1).1):=by simp [bQ,hr,Hid]
  rw [e1];clear hr e1
  dsimp only [Ak]
  go_wp2_with fail
  refine (walk_any 135 #[.pointer (some ⟨w1.heap.size,0,none⟩)] (fun _ _=>by kernel_rfl) (IJ w1.heap.size) (fun _ _=>True) wP
   (fun _ _ _ _ _ _=>trivial) (· = w1.heap.size) (fun b=>b<w.heap.size∨b=w.heap.size) 500000000 (by omega) ?cl 100000000 p 0 0 w.heap.size 0 1 _ hsz (by omega) ?i trivial ?pt ?sf).mono ?_
  case cl =>
   intro _ st p b o d w' hi _ hp' _ hd
   exact U1 _ st p b o d _ w' hi hp'
  case i=>exact dW.new' rfl
  case pt=>exact aW.same (fun b hb=>by rw [Below.heap_alloc];omega) (fun _ h=>h) _ _ _ hb1
  case sf=>intro b hb;simp;omega
  rintro e w2 ⟨rfl,hI2,hk2⟩
  have BM:Hid (Kept aB w w2):=(rC.out.alloc _).step hk2 (by simp;omega)
  have q1:=hI2.cell;have f1:=hI2.free
  clear hb1 hk2 hI2
  go_wp2_with fail
  go_ret
  exact ⟨zJ Hf.out.symm,BM.out⟩
end Go.Proofs.YtgoijmpahffnhaaGreatDoor

namespace Go.Proofs.YtgoijmpahffnhaaGreatDoor
set_option linter.all false
open Go.RowKit
mutual
def allT:aA→List aA
 | .mk k t n nm kids=>.mk k t n nm kids::allL kids
def allL:List aA→List aA
 | []=>[]
 | p::ps=>allT p++allL ps
end
mutual
def kG:aA→Nat
 | .mk _ _ _ _ kids=>1+lD kids
def lD:List aA→Nat
 | []=>0
 | p::ps=>max (kG p) (lD ps)
end
theorem Ci (p:aA):1≤sizeT p:=by cases p;simp only [sizeT];omega
theorem Ai (p:aA):1≤kG p:=by cases p;simp only [kG];omega
mutual
theorem JJ:∀(p:aA) (n m d:Nat),n≤4096→
  (n+sizeT p≤4096∧d+kG p≤201→jv iH (n,m) p d=((n+sizeT p,max m (d+kG p-1)),true))∧
  (¬(n+sizeT p≤4096∧d+kG p≤201)→(jv iH (n,m) p d).2=false)
 | .mk k t n' nm kids,n,m,d,hn=>by
  have ih:=Gq kids (n+1) (max m d) (d+1)
  rw [sizeT,kG,jv]
  have e:iH (n,m) (.mk k t n' nm kids) d=((n+1,max m d),decide (n+1≤4096)&&decide (d≤200)):=rfl
  rw [e]
  by_cases h1:n+1≤4096∧d≤200
  ·rw [ak h1.1,ak h1.2,Bool.and_true]
   obtain ⟨a,b⟩:=ih h1.1 (by omega)
   refine ⟨fun h=>?_,fun h=>b (by omega)⟩
   show iw iH (n+1,max m d) kids (d+1)=_
   rw [a (by omega)]
   refine Prod.ext (Prod.ext (by dsimp only;omega) ?_) rfl
   dsimp only
   cases kids with
   | nil=>rw [if_pos rfl,lD];omega
   | cons q qs =>
    have:1≤lD (q::qs):=by have:=Ai q;rw [lD];omega
    rw [if_neg (by simp)];omega
  ·have:(decide (n+1≤4096)&&decide (d≤200))=false:=by rw [Bool.and_eq_false_iff];simp only [decide_eq_false_iff_not];omega
   rw [this]
   exact ⟨fun h=>absurd h (by omega),fun _=>rfl⟩
theorem Gq:∀(l:List aA) (n m d:Nat),n≤4096→d≤201→
  (n+aT l≤4096∧d+lD l≤201→iw iH (n,m) l d=((n+aT l,if l=[] then m else max m (d+lD l-1)),true))∧
  (¬(n+aT l≤4096∧d+lD l≤201)→(iw iH (n,m) l d).2=false)
 | [],n,m,d,hn,hd=>by
  rw [iw,aT,lD]
  exact ⟨fun _=>rfl,fun h=>absurd (by omega) h⟩
 | p::ps,n,m,d,hn,hd=>by
  obtain ⟨a1,b1⟩:=JJ p n m d hn
  have hp:=Ai p
  rw [iw,aT,lD]
  by_cases c1:n+sizeT p≤4096∧d+kG p≤201
  ·rw [a1 c1]
   obtain ⟨a2,b2⟩:=Gq ps (n+sizeT p) (max m (d+kG p-1)) d c1.1 hd
   refine ⟨fun h=>?_,fun h=>b2 (by omega)⟩
   show iw iH _ ps d=_
   rw [a2 (by omega)]
   refine Prod.ext (Prod.ext (by dsimp only;omega) ?_) rfl
   dsimp only
   rw [if_neg (by simp:¬(p::ps=[]))]
   cases ps with
   | nil=>rw [if_pos rfl,lD];omega
   | cons q qs=>rw [if_neg (by simp)];omega
  ·have h1:=b1 c1
   refine ⟨fun h=>absurd h (by omega),fun _=>?_⟩
   cases hr:jv iH (n,m) p d with
   | mk st ok=>rw [hr] at h1;dsimp only at h1;subst h1;rfl
end
def fits (p:aA):Prop:=sizeT p≤4096∧kG p≤200
instance (p:aA):Decidable (fits p):=by unfold fits;exact inferInstance
theorem Yo (p:aA):Aj p=if fits p then .tuple #[.int .i64 (sizeT p),.int .i64 (kG p),.int .i64 0] else .tuple #[.int .i64 0,.int .i64 0,.int .i64 4]:=by
 obtain ⟨a,b⟩:=JJ p 0 0 1 (by omega)
 have hd:=Ai p
 unfold Aj
 by_cases h:fits p
 ·have h':=h;unfold fits at h'
  rw [a (by omega),if_pos h]
  simp [Ak]
 ·have h':=h;unfold fits at h'
  have:=b (by omega)
  rw [if_neg h]
  simp [Ak,this]
end Go.Proofs.YtgoijmpahffnhaaGreatDoor

namespace Go.Proofs.YtgoijmpahffnhaaGreatDoor
set_option linter.all false
open Go.RowKit
def nG (l:List UInt8):aj:=⟨l.toArray⟩
def yD:List aj:=[nG [],nG [],nG [76,69,78],nG [65,78,89],nG [78,79,84,65,78,89],nG [83,80,65,78],nG [66,82,69,65,75],nG [66,82,69,65,75,88],nG [84,65,66],nG [82,84,65,66],nG [80,79,83],nG [82,80,79,83],nG [82,69,77],nG [65,82,66],nG [66,65,76],nG [70,65,73,76],nG [70,69,78,67,69],nG [65,66,79,82,84],nG [],nG [],nG [65,82,66,78,79]]
def ou (W:Nat) (w:World):Prop:=w.heap[W]?=some (.cells (yD.map Value.string).toArray 9 (0,0))
theorem ou.lt {W:Nat} {w:World} (h:ou W w):W<w.heap.size:=(Array.getElem?_eq_some_iff.1 h).1
theorem ou.cell {W:Nat} {w:World} (h:ou W w) (j:Nat) (hj:j<yD.length):w.cell? ⟨W,0+j,none⟩=some (.string (yD.getD j ByteArray.empty)):=by
 rw [cell_of_row w W (0+j) _ _ _ h,Nat.zero_add]
 simp [List.getD_eq_getElem?_getD,List.getElem?_eq_getElem hj]
theorem ou.kept {W:Nat} {w w':World} {X:Nat→Prop} (h:ou W w) (hk:Kept X w w') (hx:¬X W):ou W w':=by
 unfold ou;rw [hk.block W h.lt hx];exact h
end Go.Proofs.YtgoijmpahffnhaaGreatDoor

namespace Go.Proofs.YtgoijmpahffnhaaGreatDoor
set_option linter.all false
open Go.RowKit
set_option maxRecDepth 100000
set_option maxHeartbeats 1000000
abbrev Er:=Int×Nat
abbrev cu (α:Type):=Except Er (α×Nat)
def skip (s:aj) (i:Nat):Nat:=i+((s.data.toList.drop i).takeWhile fun c=>c==32).length
def peek (s:aj) (i:Nat):Int:=if h:i<s.size then (s[i].toNat:Int) else -1
theorem drop_cons {s:aj} {i:Nat} (h:i<s.size):s.data.toList.drop i=s[i]::s.data.toList.drop (i+1):=by
 have h':i<s.data.toList.length:=by simpa using h
 rw [List.drop_eq_getElem_cons h'];rfl
theorem drop_end {s:aj} {i:Nat} (h:s.size≤i):s.data.toList.drop i=[]:=List.drop_of_length_le (by simpa using h)
theorem Ur {s:aj} {i:Nat} (h:i<s.size) (hb:s[i].toNat=32):skip s i=skip s (i+1):=by
 have:s[i]=32:=UInt8.toNat_inj.1 (by simpa using hb)
 unfold skip
 rw [drop_cons h,List.takeWhile_cons,if_pos (by simp [this]),List.length_cons];omega
theorem Xz {s:aj} {i:Nat} (h:i<s.size) (hb:s[i].toNat≠32):skip s i=i:=by
 unfold skip
 rw [drop_cons h,List.takeWhile_cons,if_neg (by simp;intro e;exact hb (by rw [e];rfl))];simp
theorem ZV {s:aj} {i:Nat} (h:s.size≤i):skip s i=i:=by
 unfold skip;rw [drop_end h];simp
theorem pW (s:aj) (i:Nat):i≤skip s i:=by unfold skip;omega
theorem cO {s:aj} {i:Nat} (h:i≤s.size):skip s i≤s.size:=by
 unfold skip
 have:=(List.takeWhile_sublist (fun c=>c==(32:UInt8)) (l:=s.data.toList.drop i)).length_le
 rw [List.length_drop] at this
 have e:s.data.toList.length=s.size:=rfl
 omega
def jO (c:UInt8):Bool:=jD c||dF c
def bJ (f:UInt8→Bool) (s:aj) (i:Nat):Nat:=i+((s.data.toList.drop i).takeWhile f).length
theorem vP {f:UInt8→Bool} {s:aj} {i:Nat} (h:i<s.size) (hb:f s[i]=true):bJ f s i=bJ f s (i+1):=by
 unfold bJ
 rw [drop_cons h,List.takeWhile_cons,if_pos hb,List.length_cons];omega
theorem OX {f:UInt8→Bool} {s:aj} {i:Nat} (h:i<s.size) (hb:f s[i]=false):bJ f s i=i:=by
 unfold bJ
 rw [drop_cons h,List.takeWhile_cons,if_neg (by simp [hb])];simp
theorem run_end {f:UInt8→Bool} {s:aj} {i:Nat} (h:s.size≤i):bJ f s i=i:=by
 unfold bJ;rw [drop_end h];simp
theorem OY (f:UInt8→Bool) (s:aj) (i:Nat):i≤bJ f s i:=by unfold bJ;omega
theorem OZ {f:UInt8→Bool} {s:aj} {i:Nat} (h:i≤s.size):bJ f s i≤s.size:=by
 unfold bJ
 have:=(List.takeWhile_sublist f (l:=s.data.toList.drop i)).length_le
 rw [List.length_drop] at this
 have e:s.data.toList.length=s.size:=rfl
 omega
def fV (c:Nat) (s:aj) (i:Nat):Bool×Nat:=if peek s (skip s i)=c then (true,skip s i+1) else (false,skip s i)
def bT (c:Nat) (s:aj) (i:Nat):Except Er Nat:=if peek s (skip s i)=c then .ok (skip s i+1) else .error (2,skip s i)
def fQ (s:aj) (i:Nat):cu (aj×Nat) :=
 if 65≤peek s (skip s i)∧peek s (skip s i)≤90 then .ok ((s.extract (skip s i) (bJ jO s (skip s i)),skip s i),bJ jO s (skip s i)) else .error (2,skip s i)
def nameP (s:aj) (i:Nat):cu aj :=
 match fQ s i with
 | .error e=>.error e
 | .ok ((w,at_),k)=>if 16<w.size then .error (7,at_) else .ok (w,k)
def BD (er:Er):Value:=.iface 270 (.agg #[.int .i64 er.1,.int .i64 er.2])
structure dw (N W:Nat) (s:aj) (i d:Nat) (w:World):Prop where
 blk:w.heap[N]?=some (.cells #[.string s,.int .i64 i,.slice (some ⟨W,0,none⟩) 21 21,.int .i64 d] 274 (0,0))
 ne:N≠W
 words:ou W w
theorem dw.qO {N W i d:Nat} {s:aj} {w:World} (h:dw N W s i d w):W<w.heap.size:=h.words.lt
theorem dw.lt {N W i d:Nat} {s:aj} {w:World} (h:dw N W s i d w):N<w.heap.size:=(Array.getElem?_eq_some_iff.1 h.blk).1
theorem dw.c0 {N W i d:Nat} {s:aj} {w:World} (h:dw N W s i d w):w.cell? ⟨N,0,none⟩=some (.string s):=by rw [cell_of_row w N 0 _ _ _ h.blk];rfl
theorem dw.c1 {N W i d:Nat} {s:aj} {w:World} (h:dw N W s i d w):w.cell? ⟨N,1,none⟩=some (.int .i64 i):=by rw [cell_of_row w N 1 _ _ _ h.blk];rfl
theorem dw.c2 {N W i d:Nat} {s:aj} {w:World} (h:dw N W s i d w):w.cell? ⟨N,2,none⟩=some (.slice (some ⟨W,0,none⟩) 21 21):=by rw [cell_of_row w N 2 _ _ _ h.blk];rfl
theorem dw.c3 {N W i d:Nat} {s:aj} {w:World} (h:dw N W s i d w):w.cell? ⟨N,3,none⟩=some (.int .i64 d):=by rw [cell_of_row w N 3 _ _ _ h.blk];rfl
theorem dw.fr {N W i d:Nat} {s:aj} {w:World} (h:dw N W s i d w) (o:Nat):w.frozen? ⟨N,o,none⟩=false:=by simp [World.frozen?,h.blk]
theorem aP {w:World} {N o:Nat} {cs:Array Value} {t:TypeId} {fr:Nat×Nat} (h:w.heap[N]?=some (.cells cs t fr)) (u:Value) :
  (w.setCell ⟨N,o,none⟩ u).heap[N]?=some (.cells (cs.setIfInBounds o u) t fr):=by
 simp [World.setCell,Array.getElem?_modify,h]
theorem dw.setAt {N W i d:Nat} {s:aj} {w:World} (h:dw N W s i d w) (k:Nat):dw N W s k d (w.setCell ⟨N,1,none⟩ (.int .i64 k)):=⟨by rw [aP h.blk];rfl,h.ne,h.words.kept ((Kept.refl (· = N) w).setCell (.inl rfl) _) (Ne.symm h.ne)⟩
theorem dw.O1 {N W i d:Nat} {s:aj} {w:World} (h:dw N W s i d w) (k:Nat):dw N W s i k (w.setCell ⟨N,3,none⟩ (.int .i64 k)):=⟨by rw [aP h.blk];rfl,h.ne,h.words.kept ((Kept.refl (· = N) w).setCell (.inl rfl) _) (Ne.symm h.ne)⟩
theorem dw.kept {N W i d:Nat} {s:aj} {w w':World} {X:Nat→Prop} (h:dw N W s i d w) (hk:Kept X w w') (hx:¬X N) (hy:¬X W):dw N W s i d w':=⟨by rw [hk.block N h.lt hx];exact h.blk,h.ne,h.words.kept hk hy⟩
theorem dw.drewN {N W i d:Nat} {s:aj} {w:World} (h:dw N W s i d w) (n:Nat):dw N W s i d (w.drewN n):=⟨h.blk,h.ne,h.words⟩
theorem XA (c:UInt8):wrap64 (c.toNat:Int)=c.toNat:=by have:=c.toNat_lt;unfold wrap64;omega
def yB (N W:Nat) (s:aj) (i d:Nat) (w:World) (e:Ending) (w':World):Prop :=
 e=.returned (.int .i64 (peek s (skip s i)))∧dw N W s (skip s i) d w'∧Kept (· = N) w w'
theorem next_any (N W:Nat) (s:aj) (i d:Nat) (w:World) (hr:dw N W s i d w) (hi:i≤s.size) (hs:s.size≤1000000000) :
  Calls Tryz.prog 191 #[.pointer (some ⟨N,0,none⟩)] w (yB N W s i d w):=by
 have HR:=ah hr;clear hr
 go_enter Tryz.func191, Tryz.ntmps191
 go_wp2_with fail
 go_loopg [] (s.size-i) (fun f wr=>∃k,i≤k∧k≤s.size∧f=s.size-k∧Hid (skip s k=skip s i)∧dw N W s k d wr∧Kept (· = N) w wr)
 case atStart=>exact ⟨i,Nat.le_refl _,hi,rfl,rfl,HR.out,Kept.refl _ _⟩
 case round =>
  obtain ⟨k,hk1,hk2,rfl,hsk,hR,hK⟩:=hrel
  have q0:=hR.c0;have q1:=hR.c1;have f1:=hR.fr 1
  have R1:=ah hR;have K1:=ah hK
  clear hR hK
  by_cases hlt:k<s.size
  ·have g1:decide ((k:Int)<(s.size:Int))=true:=ak (by omega)
   have bi:(k:Int)<(s.size:Int):=by omega
   by_cases hb:s[k].toNat=32
   ·have g2:((s[k].toNat:Int)==32)=true:=by simp;omega
    have hs1:Hid (skip s (k+1)=skip s i):=(Ur hlt hb).symm.trans hsk.out
    clear hb
    go_wp2_with fail
    go_quiet (fail)
    have R2:=(R1.out.drewN nq).setAt (k+1)
    have K2:=(K1.out.drewN nq).setCell (p:=⟨N,1,none⟩) (.inl rfl) (.int .i64 ((k+1:Nat):Int))
    have RR:=ah R2;have KK:=ah K2;clear R2 K2
    go_wp2_with fail
    go_roundg (s.size-(k+1))
    case measure=>omega
    case rel=>exact ⟨k+1,by omega,by omega,rfl,hs1,RR.out,KK.out⟩
   ·have g2:((s[k].toNat:Int)==32)=false:=by simp;omega
    have e1:Hid (skip s i=k):=hsk.out.symm.trans (Xz hlt hb)
    have bsz:((k:Int)==(s.size:Int))=false:=by simp;omega
    have fin:Hid (∀x w',x=(s[k].toNat:Int)→dw N W s k d w'→Kept (· = N) w w'→yB N W s i d w (.returned (.int .i64 x)) w'):=fun x w' hx h1 h2=>by
     unfold yB;rw [e1.out];exact ⟨by unfold peek;rw [dif_pos hlt,hx],h1,h2⟩
    clear hb
    go_wp2_with fail
    go_quiet (fail)
    go_wp2_with fail
    go_quiet (fail)
    go_wp2_with fail
    go_quiet (fail)
    go_wp2_with fail
    go_ret
    exact fin.out _ _ (XA _) (((R1.out.drewN _).drewN _).drewN _) (((K1.out.drewN _).drewN _).drewN _)
  ·have g1:decide ((k:Int)<(s.size:Int))=false:=au (by omega)
   have bsz:((k:Int)==(s.size:Int))=true:=by simp;omega
   have e1:Hid (skip s i=k):=hsk.out.symm.trans (ZV (by omega))
   have fin:Hid (∀w',dw N W s k d w'→Kept (· = N) w w'→yB N W s i d w (.returned (.int .i64 (-1))) w'):=fun w' h1 h2=>by
    unfold yB;rw [e1.out];exact ⟨by unfold peek;rw [dif_neg hlt],h1,h2⟩
   go_wp2_with fail
   go_quiet (fail)
   go_wp2_with fail
   go_quiet (fail)
   go_wp2_with fail
   go_ret
   exact fin.out _ ((R1.out.drewN _).drewN _) ((K1.out.drewN _).drewN _)
end Go.Proofs.YtgoijmpahffnhaaGreatDoor

namespace Go.Proofs.YtgoijmpahffnhaaGreatDoor
set_option linter.all false
open Go.RowKit
set_option maxRecDepth 100000
set_option maxHeartbeats 1000000
def Threw (er:Er) (e:Ending):Prop:=e=.panicked [{v:=BD er,recovered:=false}]
theorem iy (a:Value) (er:Int) (i:Nat) (w:World):Calls Tryz.prog 192 #[a,.int .i64 er,.int .i64 i] w fun e w'=>Threw (er,i) e∧w=w':=by
 go_enter Tryz.func192, Tryz.ntmps192
 go_wp2_with fail
 exact ⟨rfl,rfl,rfl⟩
def DV (c N W:Nat) (s:aj) (i d:Nat) (w:World) (e:Ending) (w':World):Prop :=
 e=.returned (.bool (fV c s i).1)∧dw N W s (fV c s i).2 d w'∧Kept (· = N) w w'
theorem DW (c N W:Nat) (hc:c<256) (s:aj) (i d:Nat) (w:World) (hr:dw N W s i d w) (hi:i≤s.size) (hs:s.size≤1000000000) :
  Calls Tryz.prog 234 #[.pointer (some ⟨N,0,none⟩),.int .u8 c] w (DV c N W s i d w):=by
 have HR:=ah hr;clear hr
 have hw:wrap64 (c:Int)=c:=by unfold wrap64;omega
 have hle:=cO hi
 go_enter Tryz.func234, Tryz.ntmps234
 go_wp2_with fail
 refine (next_any N W s i d _ HR.out hi hs).mono ?_
 rintro e w1 ⟨rfl,R1,K1⟩
 by_cases hp:peek s (skip s i)=c
 ·have hb:(peek s (skip s i) != (c:Int))=false:=by simpa using hp
  have hlt:skip s i<s.size:=by
   unfold peek at hp;split at hp
   ·assumption
   ·omega
  have e1:Hid (fV c s i=(true,skip s i+1)):=by unfold Hid fV;rw [if_pos hp]
  have q1:=R1.c1;have f1:=R1.fr 1
  have fin:Hid (∀w',w'=w1.setCell ⟨N,1,none⟩ (.int .i64 ((skip s i+1:Nat):Int))→DV c N W s i d w (.returned (.bool true)) w'):=by
   rintro w' rfl;unfold DV;rw [e1.out];exact ⟨rfl,R1.setAt _,K1.setCell (p:=⟨N,1,none⟩) (.inl rfl) _⟩
  clear R1 K1 hp
  go_wp2_with fail
  go_ret
  exact fin.out _ rfl
 ·have hb:(peek s (skip s i) != (c:Int))=true:=by simpa using hp
  have e1:Hid (fV c s i=(false,skip s i)):=by unfold Hid fV;rw [if_neg hp]
  have fin:Hid (DV c N W s i d w (.returned (.bool false)) w1):=by
   unfold Hid DV;rw [e1.out];exact ⟨rfl,R1,K1⟩
  clear R1 K1 hp
  go_wp2_with fail
  go_ret
  exact fin.out
def yC (c N W:Nat) (s:aj) (i d:Nat) (w:World) (e:Ending) (w':World):Prop :=
 Kept (· = N) w w'∧match bT c s i with
  | .ok k=>e=.returned (.tuple #[])∧dw N W s k d w'
  | .error er=>Threw er e
theorem eX (c N W:Nat) (hc:c<256) (s:aj) (i d:Nat) (w:World) (hr:dw N W s i d w) (hi:i≤s.size) (hs:s.size≤1000000000) :
  Calls Tryz.prog 283 #[.pointer (some ⟨N,0,none⟩),.int .u8 c] w (yC c N W s i d w):=by
 have HR:=ah hr;clear hr
 go_enter Tryz.func283, Tryz.ntmps283
 go_wp2_with fail
 refine (DW c N W hc s i d _ HR.out hi hs).mono ?_
 rintro e w1 ⟨rfl,R1,K1⟩
 by_cases hp:peek s (skip s i)=c
 ·have e1:fV c s i=(true,skip s i+1):=by unfold fV;rw [if_pos hp]
  have e2:bT c s i=.ok (skip s i+1):=by unfold bT;rw [if_pos hp]
  rw [e1] at R1⊢
  have fin:Hid (yC c N W s i d w (.returned (.tuple #[])) w1):=by unfold Hid yC;rw [e2];exact ⟨K1,rfl,R1⟩
  clear e1 e2 hp R1 K1
  go_wp2_with fail
  first|go_end0|(refine bodyPost_ret (results_none rfl _ _ _) rfl ?_)
  exact fin.out
 ·have e1:fV c s i=(false,skip s i):=by unfold fV;rw [if_neg hp]
  have e2:bT c s i=.error (2,skip s i):=by unfold bT;rw [if_neg hp]
  rw [e1] at R1⊢
  have q1:=R1.c1
  have fin:Hid (∀e,Threw (2,skip s i) e→yC c N W s i d w e w1):=by intro e h;unfold yC;rw [e2];exact ⟨K1,h⟩
  clear e1 e2 hp R1 K1
  go_wp2_with fail
  refine (iy _ 2 (skip s i) w1).mono ?_
  rintro e w2 ⟨rfl,rfl⟩
  go_wp2_with fail
  exact ⟨rfl,fin.out _ rfl⟩
end Go.Proofs.YtgoijmpahffnhaaGreatDoor
