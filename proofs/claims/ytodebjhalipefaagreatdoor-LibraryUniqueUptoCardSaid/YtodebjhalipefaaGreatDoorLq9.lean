/-  -/
import Derived.Test.YtodebjhalipefaaGreatDoorWrong
namespace Go.Proofs.YtodebjhalipefaaGreatDoor
set_option linter.all false
open Go.RowKit
set_option maxRecDepth 100000
set_option maxHeartbeats 400000
def vH (_:Int) (p:aB) (_:Nat):Int×Bool:=(iR p,iR p==0)
def IJ (c:Nat) (e:Int) (w:World):Prop:=dH w c 33 (.int .i64 e)
theorem VO (c:Nat) (st:Int) (p:aB) (b o d:Nat) (S:Nat→Prop) (w:World) (hI:IJ c st w) (hp:aU w S b o p) :
  Calls Tryz.prog 150 #[.pointer (some ⟨b,o,none⟩),.int .i64 (d:Nat),.pointer (some ⟨c,0,none⟩)] w
   (uP (IJ c) (· = c) (vH st p d) w):=by
 have q1:=hI.cell;have f1:=hI.free
 have K:∀u,u=iR p→uP (IJ c) (· = c) (vH st p d) w (.returned (.bool (u==0))) (w.setCell ⟨c,0,none⟩ (.int .i64 u)):=by
  rintro u rfl;exact ⟨rfl,hI.set _,(Kept.refl _ w).setCell (.inl (by simp)) _⟩
 have HK:=ah K;clear K
 clear hI
 go_enter Tryz.func150, Tryz.ntmps150
 go_wp2_with fail
 refine (Zz p b o S _ hp).mono ?_
 rintro e w1 ⟨rfl,rfl⟩
 go_wp2_with fail
 go_ret
 exact HK.out _ rfl
def bJ (p:aB):Int:=if (jw nK (0,0) p 1).2 then (jw vH 0 p 1).1 else 4
theorem yR (p:aB) (v:Value) (w:World) (hp:ou w (· < w.heap.size) v p) (hsz:sizeT p≤100000000) :
  Calls Tryz.prog 110 #[v] w (fun e w'=>e=.returned (.int .i64 (bJ p))∧Kept aA w w'):=by
 obtain ⟨c,hv,hb⟩:=hp.box 67 (fun b hb=>hb)
 have hp0:=hp
 obtain ⟨ka,cap,rfl,hz,hk⟩:=hp
 simp only [Value.agg.injEq] at hv;subst hv
 have hmf:∀(fn:Fn) (first cap:Array Value) (w:World),(Instr.makeFunc fn first cap).run Tryz.prog w=.ok (.func fn first cap) w:=fun _ _ _ _=>rfl
 go_enter Tryz.func110, Tryz.ntmps110
 go_wp2_with fail
 refine (size_any p _ _ ⟨ka,cap,rfl,hz,aN.same (fun b hb=>Below.heap_alloc _ _ _ hb) (fun b hb=>by simp;omega) _ _ hk⟩ hsz).mono ?_
 rintro e w1 ⟨rfl,hk1⟩
 have uj:Hid (Kept aA w w1):=((Kept.refl aA w).alloc _).quiet hk1
 have hb1:=hb.kept hk1 (fun b hb=>⟨by simp;omega,fun h=>h⟩)
 have hsz1:w.heap.size+1≤w1.heap.size:=by have:=hk1.size;simpa using this
 clear hk hp0 hb hk1
 cases hr:jw nK (0,0) p 1 with
 | mk st ok =>
 obtain ⟨n,d⟩:=st
 have e1:Iq p=Ip ((n,d),ok):=by simp [Iq,hr]
 cases ok with
 | false =>
  have Hf:Hid (bJ p=4):=by simp [bJ,hr,Hid]
  rw [e1];clear hr e1
  dsimp only [Ip]
  go_wp2_with fail
  go_ret
  exact ⟨y7 Hf.out.symm,uj.out⟩
 | true =>
  have Hf:Hid (bJ p=(jw vH 0 p 1).1):=by simp [bJ,hr,Hid]
  rw [e1];clear hr e1
  dsimp only [Ip]
  go_wp2_with fail
  refine (walk_any 150 #[.pointer (some ⟨w1.heap.size,0,none⟩)] (fun _ _=>by kernel_rfl) (IJ w1.heap.size) (fun _ _=>True) vH
   (fun _ _ _ _ _ _=>trivial) (· = w1.heap.size) (fun b=>b<w.heap.size∨b=w.heap.size) 500000000 (by omega) ?cl 100000000 p 0 0 w.heap.size 0 1 _ hsz (by omega) ?i trivial ?pt ?sf).mono ?_
  case cl =>
   intro _ st p b o d w' hi _ hp' _ hd
   exact VO _ st p b o d _ w' hi hp'
  case i=>exact dH.new' rfl
  case pt=>exact aU.same (fun b hb=>by rw [Below.heap_alloc];omega) (fun _ h=>h) _ _ _ hb1
  case sf=>intro b hb;simp;omega
  rintro e w2 ⟨rfl,hI2,hk2⟩
  have Bl:Hid (Kept aA w w2):=(uj.out.alloc _).step hk2 (by simp;omega)
  have q1:=hI2.cell;have f1:=hI2.free
  clear hb1 hk2 hI2
  go_wp2_with fail
  go_ret
  exact ⟨y7 Hf.out.symm,Bl.out⟩
end Go.Proofs.YtodebjhalipefaaGreatDoor

namespace Go.Proofs.YtodebjhalipefaaGreatDoor
set_option linter.all false
open Go.RowKit
mutual
def allT:aB→List aB
 | .mk k t n nm kids=>.mk k t n nm kids::allL kids
def allL:List aB→List aB
 | []=>[]
 | p::ps=>allT p++allL ps
end
mutual
def wV:aB→Nat
 | .mk _ _ _ _ kids=>1+zo kids
def zo:List aB→Nat
 | []=>0
 | p::ps=>max (wV p) (zo ps)
end
theorem BM (p:aB):1≤sizeT p:=by cases p;simp only [sizeT];omega
def fits (p:aB):Prop:=sizeT p≤4096∧wV p≤200
instance (p:aB):Decidable (fits p):=by unfold fits;exact inferInstance
end Go.Proofs.YtodebjhalipefaaGreatDoor

namespace Go.Proofs.YtodebjhalipefaaGreatDoor
set_option linter.all false
open Go.RowKit
def jk (k:Int):Int:=if k=4∨k=5∨k=7 then 1 else if 8≤k∧k≤13 then 2 else 0
def TI (k:Int) (t:aj) (n:Int) (nm:aj) (len:Nat):Int :=
 if k<1∨13<k then 1
 else if k=1∧65536<t.size then 4
 else if k=2∧n<0 then 3
 else if (k=3∨k=4∨k=6)∧fQ nm=false then 7
 else if (k=6∧8<len)∨(k≠6∧(len:Int)≠jk k) then 5 else 0
mutual
def jy:aB→Int
 | .mk k t n nm kids=>if TI k t n nm kids.length=0 then qA kids else TI k t n nm kids.length
def qA:List aB→Int
 | []=>0
 | p::r=>if jy p=0 then qA r else jy p
end
theorem Qn (l:List aB) (j:Nat) (h:j<l.length):qA (l.drop j)=if jy l[j]=0 then qA (l.drop (j+1)) else jy l[j]:=by
 rw [List.drop_eq_getElem_cons h,qA]
def aV (p:aB):Int:=if fits p then jy p else 4
end Go.Proofs.YtodebjhalipefaaGreatDoor

namespace Go.Proofs.YtodebjhalipefaaGreatDoor
set_option linter.all false
open Go.RowKit
set_option maxRecDepth 100000
set_option maxHeartbeats 1000000
def gq (k:Int) (t:aj) (n:Int) (nm:aj):Int :=
 if k<1∨13<k then 1
 else if k=1∧65536<t.size then 4
 else if k=2∧n<0 then 3
 else if (k=3∨k=4∨k=6)∧fQ nm=false then 7 else 0
theorem IW (k:Int) (t:aj) (n:Int) (nm:aj) (len:Nat):TI k t n nm len=if gq k t n nm=0 then (if (k=6∧8<len)∨(k≠6∧(len:Int)≠jk k) then 5 else 0) else gq k t n nm:=by
 unfold TI gq
 split
 ·simp
 ·split
  ·simp
  ·split
   ·simp
   ·split<;>simp
theorem wu {k:Int} {t:aj} {n:Int} {nm:aj} {kids:List aB} {e:Int} (h:gq k t n nm=e) (he:e≠0):jy (.mk k t n nm kids)=e:=by
 rw [jy,IW,h,if_neg he,if_neg he]
theorem TJ {k:Int} {t:aj} {n:Int} {nm:aj} {kids:List aB} (h:gq k t n nm=0) (hc:(k=6∧8<kids.length)∨(k≠6∧(kids.length:Int)≠jk k)):jy (.mk k t n nm kids)=5:=by
 rw [jy,IW,if_pos h,if_pos hc];rfl
theorem TL {k:Int} {t:aj} {n:Int} {nm:aj} {kids:List aB} (h:gq k t n nm=0) (hc:¬((k=6∧8<kids.length)∨(k≠6∧(kids.length:Int)≠jk k))):jy (.mk k t n nm kids)=qA kids:=by
 rw [jy,IW,if_pos h,if_neg hc];rfl
section
variable {k n:Int} {t nm:aj}
theorem acO (h:k<1∨13<k):gq k t n nm=1:=by unfold gq;rw [if_pos h]
theorem acP (h:k=1) (hs:65536<t.size):gq k t n nm=4:=by unfold gq;rw [if_neg (by omega),if_pos ⟨h,hs⟩]
theorem ad8 (h:k=2) (hs:n<0):gq k t n nm=3:=by unfold gq;rw [if_neg (by omega),if_neg (by omega),if_pos ⟨h,hs⟩]
theorem acQ (h:k=3∨k=4∨k=6) (hs:fQ nm=false):gq k t n nm=7:=by unfold gq;rw [if_neg (by omega),if_neg (by omega),if_neg (by omega),if_pos ⟨h,hs⟩]
theorem acR (h:k=1) (hs:¬65536<t.size):gq k t n nm=0:=by unfold gq;rw [if_neg (by omega),if_neg (by omega),if_neg (by omega),if_neg (by omega)]
theorem ad9 (h:k=2) (hs:¬n<0):gq k t n nm=0:=by unfold gq;rw [if_neg (by omega),if_neg (by omega),if_neg (by omega),if_neg (by omega)]
theorem IX (h:k=3∨k=4∨k=6) (hs:fQ nm=true):gq k t n nm=0:=by unfold gq;rw [if_neg (by omega),if_neg (by omega),if_neg (by omega),if_neg (by simp [hs])]
theorem MP (h:k=5∨(7≤k∧k≤13)):gq k t n nm=0:=by unfold gq;rw [if_neg (by omega),if_neg (by omega),if_neg (by omega),if_neg (by omega)]
theorem aea (h:(k==1)=true) (hs:(t.size:Int)≤65536):Value.int .i64 0=Value.int .i64 (jk k)∧gq k t n nm=0:=by
 obtain rfl:k=1:=by simpa using h
 exact ⟨rfl,acR rfl (by omega)⟩
theorem m_num (h:(k==2)=true) (hs:0≤n):Value.int .i64 0=Value.int .i64 (jk k)∧gq k t n nm=0:=by
 obtain rfl:k=2:=by simpa using h
 exact ⟨rfl,ad9 rfl (by omega)⟩
theorem m_3 (h:(k==3)=true) (hs:(!fQ nm)=false):Value.int .i64 0=Value.int .i64 (jk k)∧gq k t n nm=0:=by
 obtain rfl:k=3:=by simpa using h
 exact ⟨rfl,IX (.inl rfl) (by simpa using hs)⟩
theorem m_4 (h:(k==4)=true) (hs:(!fQ nm)=false):Value.int .i64 1=Value.int .i64 (jk k)∧gq k t n nm=0:=by
 obtain rfl:k=4:=by simpa using h
 exact ⟨rfl,IX (.inr (.inl rfl)) (by simpa using hs)⟩
theorem m_6 (h:(k==6)=true) (hs:(!fQ nm)=false):Value.int .i64 0=Value.int .i64 (jk k)∧gq k t n nm=0:=by
 obtain rfl:k=6:=by simpa using h
 exact ⟨rfl,IX (.inr (.inr rfl)) (by simpa using hs)⟩
theorem abN (h:(k==5)=true∨(k==7)=true):Value.int .i64 1=Value.int .i64 (jk k)∧gq k t n nm=0:=by
 simp only [beq_iff_eq] at h
 rcases h with rfl|rfl<;>exact ⟨rfl,MP (by omega)⟩
theorem DZ (h:(k==8)=true∨(k==9)=true∨(k==10)=true∨(k==11)=true∨(k==12)=true∨(k==13)=true):Value.int .i64 2=Value.int .i64 (jk k)∧gq k t n nm=0:=by
 simp only [beq_iff_eq] at h
 rcases h with rfl|rfl|rfl|rfl|rfl|rfl<;>exact ⟨rfl,MP (by omega)⟩
theorem aeb (kids:List aB) (h:(k==1)=true) (hs:65536<(t.size:Int)):4=jy (.mk k t n nm kids):=(wu (acP (by simpa using h) (by omega)) (by decide)).symm
theorem agE (kids:List aB) (h:(k==2)=true) (hs:n<0):3=jy (.mk k t n nm kids):=(wu (ad8 (by simpa using h) hs) (by decide)).symm
theorem MQ (kids:List aB) (h:(k==3)=true∨(k==4)=true∨(k==6)=true) (hs:(!fQ nm)=true):7=jy (.mk k t n nm kids):=by
 simp only [beq_iff_eq] at h
 exact (wu (acQ h (by simpa using hs)) (by decide)).symm
end
theorem V4:∀(m:Nat) (p:aB) (b o:Nat) (S:Nat→Prop) (w:World),sizeT p≤m→aU w S b o p→
  Calls Tryz.prog 147 #[.pointer (some ⟨b,o,none⟩)] w fun e w'=>e=.returned (.int .i64 (jy p))∧w=w':=by
 intro m
 induction m with
 | zero=>intro p b o S w hm;have:=BM p;omega
 | succ m ih =>
 intro p b o S w hm hp
 obtain ⟨k,t,n,nm,kids⟩:=p
 unfold aU at hp
 obtain ⟨_,⟨ht,hn0,hk⟩,h0,h1,h2,h3,ka,cap,h4,hks⟩:=hp
 have hn:nm.size≤maxLen:=by unfold maxLen;omega
 have HK:=ah hks;clear hks
 have hih:∀(j:Nat) (hj:j<kids.length) (b o:Nat) (w:World),aU w S b o kids[j]→Calls Tryz.prog 147 #[.pointer (some ⟨b,o,none⟩)] w fun e w'=>e=.returned (.int .i64 (jy kids[j]))∧w=w' :=
  fun j hj b o w h=>ih kids[j] b o S w (by have:=oQ kids j hj;simp only [sizeT] at hm;omega) h
 have HIH:=ah hih;clear hih ih hm
 by_cases hk0:k<1∨13<k
 ·have hr:=wu (kids:=kids) (acO (t:=t) (n:=n) (nm:=nm) hk0) (by decide)
  have HR:=ah hr
  have e1:(k==1)=false:=by simp;omega
  have e2:(k==2)=false:=by simp;omega
  have e3:(k==3)=false:=by simp;omega
  have e4:(k==4)=false:=by simp;omega
  have e5:(k==5)=false:=by simp;omega
  have e6:(k==6)=false:=by simp;omega
  have e7:(k==7)=false:=by simp;omega
  have e8:(k==8)=false:=by simp;omega
  have e9:(k==9)=false:=by simp;omega
  have e10:(k==10)=false:=by simp;omega
  have e11:(k==11)=false:=by simp;omega
  have e12:(k==12)=false:=by simp;omega
  have e13:(k==13)=false:=by simp;omega
  clear hr hk0 h1 h2 h3 h4
  go_enter Tryz.func147, Tryz.ntmps147
  go_wp2_with fail
  go_ret
  exact ⟨by rw [HR.out];try rfl,rfl⟩
 go_enter Tryz.func147, Tryz.ntmps147
 go_upto_block 0 with fail
 go_cut [3] (fun l w'=>w=w'∧l=.int .i64 (jk k)∧gq k t n nm=0)
 case first =>
  go_wp2_with (go_at_call 108;refine (ru _ _ hn).mono ?_;rintro e w' ⟨rfl,rfl⟩)
  all_goals
   first
    | (go_meet;go_light;refine ⟨rfl,?_⟩;first
      | exact aea ‹(k==1)=true› ‹_›
      | exact m_num ‹(k==2)=true› ‹_›
      | exact m_3 ‹(k==3)=true› ‹_›
      | exact m_4 ‹(k==4)=true› ‹_›
      | exact m_6 ‹(k==6)=true› ‹_›
      | exact abN (.inl ‹(k==5)=true›)
      | exact abN (.inr ‹(k==7)=true›)
      | exact DZ (.inl ‹(k==8)=true›)
      | exact DZ (.inr (.inl ‹(k==9)=true›))
      | exact DZ (.inr (.inr (.inl ‹(k==10)=true›)))
      | exact DZ (.inr (.inr (.inr (.inl ‹(k==11)=true›))))
      | exact DZ (.inr (.inr (.inr (.inr (.inl ‹(k==12)=true›)))))
      | exact DZ (.inr (.inr (.inr (.inr (.inr ‹(k==13)=true›))))))
    | (go_ret;go_light;refine ⟨y7 ?_,rfl⟩;first
      | exact aeb kids ‹(k==1)=true› ‹_›
      | exact agE kids ‹(k==2)=true› ‹_›
      | exact MQ kids (.inl ‹(k==3)=true›) ‹_›
      | exact MQ kids (.inr (.inl ‹(k==4)=true›)) ‹_›
      | exact MQ kids (.inr (.inr ‹(k==6)=true›)) ‹_›)
 case rest =>
  obtain ⟨rfl,rfl,hc⟩:=hcut
  have hx:jk k≤2∧0≤jk k:=by unfold jk;split<;>(try split)<;>omega
  by_cases h5:(k=6∧8<kids.length)∨(k≠6∧(kids.length:Int)≠jk k)
  ·have hr:=TJ hc h5
   have HR:=ah hr
   clear hr hc
   rcases h5 with ⟨a,c⟩|⟨a,c⟩
   ·have e1:(k==6)=true:=by simpa using a
    have e2:decide ((8:Int)<(kids.length:Int))=true:=ak (by omega)
    clear a c
    go_wp2_with fail
    go_ret
    exact ⟨by rw [HR.out];try rfl,rfl⟩
   ·have e1:(k==6)=false:=by simpa using a
    have e2:(k != 6)=true:=by simpa using a
    have e3:((kids.length:Int) != jk k)=true:=by simpa using c
    clear a c
    go_wp2_with fail
    go_ret
    exact ⟨by rw [HR.out];try rfl,rfl⟩
  ·have hr:=TL hc h5
   have HR:=ah hr
   have hz:(k=6∧((k==6)=true)∧(k != 6)=false∧decide ((8:Int)<(kids.length:Int))=false)∨(k≠6∧((k==6)=false)∧(k != 6)=true∧((kids.length:Int) != jk k)=false):=by
    by_cases h6:k=6
    ·exact .inl ⟨h6,by simpa using h6,by simpa using h6,au (by omega)⟩
    ·exact .inr ⟨h6,by simpa using h6,by simpa using h6,by simp;omega⟩
   clear hr hc h5 h1 h2 h3
   rcases hz with ⟨rfl,e1,e2,e3⟩|⟨_,e1,e2,e3⟩
   all_goals
    go_wp2_with fail
    go_loop [84] (fun i=>∃j:Nat,j≤kids.length∧i=.int .i64 j∧Hid (qA kids=qA (kids.drop j))) (fun i=>kids.length-(intOf i).toNat)
    case atStart=>exact ⟨0,Nat.zero_le _,rfl,by unfold Hid;rw [List.drop_zero]⟩
    case round =>
     obtain ⟨j,hj,rfl,hno⟩:=hrel
     by_cases hlt:j<kids.length
     ·obtain ⟨b1,o1,rfl⟩:=oh HK.out (by omega)
      have hP:=ah (mV kids b1 o1 j hlt HK.out)
      have hd:=Qn kids j hlt
      by_cases hz:jy kids[j]=0
      ·rw [if_pos hz] at hd
       have step:=ah (hno.out.trans hd)
       have hb:(jy kids[j] != 0)=false:=by simpa using hz
       clear hd hz
       go_wp2_with (go_at_call 147;refine (HIH.out j hlt _ _ _ hP.out).mono ?_;rintro e w' ⟨rfl,rfl⟩)
       go_round
       case rel=>exact ⟨j+1,by omega,by go_num,step⟩
       case measure=>simp [intOf];omega
      ·rw [if_neg hz] at hd
       have fin:=ah (HR.out.trans (hno.out.trans hd))
       have hb:(jy kids[j] != 0)=true:=by simpa using hz
       clear hd hz
       go_wp2_with (go_at_call 147;refine (HIH.out j hlt _ _ _ hP.out).mono ?_;rintro e w' ⟨rfl,rfl⟩)
       go_ret
       exact ⟨by rw [fin.out];try rfl,rfl⟩
     ·obtain rfl:j=kids.length:=by omega
      have fin:=ah (HR.out.trans (hno.out.trans (show qA (kids.drop kids.length)=0 by rw [List.drop_length,qA])))
      go_wp2_with fail
      go_ret
      exact ⟨by rw [fin.out];try rfl,rfl⟩
end Go.Proofs.YtodebjhalipefaaGreatDoor
