/-  -/
import Derived.Test.YtgoijmpahffnhaaGreatDoorLc6
import Derived.Test.YtgoijmpahffnhaaGreatDoorWin
import Derived.Test.YtgoijmpahffnhaaGreatDoorLc19
namespace Go.Proofs.YtgoijmpahffnhaaGreatDoor
set_option linter.all false
open Go.RowKit
def jK (k:Int):Int:=if k=4∨k=5∨k=7 then 1 else if 8≤k∧k≤13 then 2 else 0
def Sv (k:Int) (t:aj) (n:Int) (nm:aj) (len:Nat):Int :=
 if k<1∨13<k then 1
 else if k=1∧65536<t.size then 4
 else if k=2∧n<0 then 3
 else if (k=3∨k=4∨k=6)∧gW nm=false then 7
 else if (k=6∧8<len)∨(k≠6∧(len:Int)≠jK k) then 5 else 0
mutual
def jU:aA→Int
 | .mk k t n nm kids=>if Sv k t n nm kids.length=0 then rP kids else Sv k t n nm kids.length
def rP:List aA→Int
 | []=>0
 | p::r=>if jU p=0 then rP r else jU p
end
theorem PX (l:List aA) (j:Nat) (h:j<l.length):rP (l.drop j)=if jU l[j]=0 then rP (l.drop (j+1)) else jU l[j]:=by
 rw [List.drop_eq_getElem_cons h,rP]
def aX (p:aA):Int:=if fits p then jU p else 4
end Go.Proofs.YtgoijmpahffnhaaGreatDoor

namespace Go.Proofs.YtgoijmpahffnhaaGreatDoor
set_option linter.all false
open Go.RowKit
set_option maxRecDepth 100000
set_option maxHeartbeats 1000000
def gZ (k:Int) (t:aj) (n:Int) (nm:aj):Int :=
 if k<1∨13<k then 1
 else if k=1∧65536<t.size then 4
 else if k=2∧n<0 then 3
 else if (k=3∨k=4∨k=6)∧gW nm=false then 7 else 0
theorem IV (k:Int) (t:aj) (n:Int) (nm:aj) (len:Nat):Sv k t n nm len=if gZ k t n nm=0 then (if (k=6∧8<len)∨(k≠6∧(len:Int)≠jK k) then 5 else 0) else gZ k t n nm:=by
 unfold Sv gZ
 split
 ·simp
 ·split
  ·simp
  ·split
   ·simp
   ·split<;>simp
theorem xB {k:Int} {t:aj} {n:Int} {nm:aj} {kids:List aA} {e:Int} (h:gZ k t n nm=e) (he:e≠0):jU (.mk k t n nm kids)=e:=by
 rw [jU,IV,h,if_neg he,if_neg he]
theorem Sz {k:Int} {t:aj} {n:Int} {nm:aj} {kids:List aA} (h:gZ k t n nm=0) (hc:(k=6∧8<kids.length)∨(k≠6∧(kids.length:Int)≠jK k)):jU (.mk k t n nm kids)=5:=by
 rw [jU,IV,if_pos h,if_pos hc];rfl
theorem SA {k:Int} {t:aj} {n:Int} {nm:aj} {kids:List aA} (h:gZ k t n nm=0) (hc:¬((k=6∧8<kids.length)∨(k≠6∧(kids.length:Int)≠jK k))):jU (.mk k t n nm kids)=rP kids:=by
 rw [jU,IV,if_pos h,if_neg hc];rfl
section
variable {k n:Int} {t nm:aj}
theorem aa8 (h:k<1∨13<k):gZ k t n nm=1:=by unfold gZ;rw [if_pos h]
theorem aa9 (h:k=1) (hs:65536<t.size):gZ k t n nm=4:=by unfold gZ;rw [if_neg (by omega),if_pos ⟨h,hs⟩]
theorem acK (h:k=2) (hs:n<0):gZ k t n nm=3:=by unfold gZ;rw [if_neg (by omega),if_neg (by omega),if_pos ⟨h,hs⟩]
theorem abb (h:k=3∨k=4∨k=6) (hs:gW nm=false):gZ k t n nm=7:=by unfold gZ;rw [if_neg (by omega),if_neg (by omega),if_neg (by omega),if_pos ⟨h,hs⟩]
theorem abd (h:k=1) (hs:¬65536<t.size):gZ k t n nm=0:=by unfold gZ;rw [if_neg (by omega),if_neg (by omega),if_neg (by omega),if_neg (by omega)]
theorem acL (h:k=2) (hs:¬n<0):gZ k t n nm=0:=by unfold gZ;rw [if_neg (by omega),if_neg (by omega),if_neg (by omega),if_neg (by omega)]
theorem IW (h:k=3∨k=4∨k=6) (hs:gW nm=true):gZ k t n nm=0:=by unfold gZ;rw [if_neg (by omega),if_neg (by omega),if_neg (by omega),if_neg (by simp [hs])]
theorem MH (h:k=5∨(7≤k∧k≤13)):gZ k t n nm=0:=by unfold gZ;rw [if_neg (by omega),if_neg (by omega),if_neg (by omega),if_neg (by omega)]
theorem acM (h:(k==1)=true) (hs:(t.size:Int)≤65536):Value.int .i64 0=Value.int .i64 (jK k)∧gZ k t n nm=0:=by
 obtain rfl:k=1:=by simpa using h
 exact ⟨rfl,abd rfl (by omega)⟩
theorem m_num (h:(k==2)=true) (hs:0≤n):Value.int .i64 0=Value.int .i64 (jK k)∧gZ k t n nm=0:=by
 obtain rfl:k=2:=by simpa using h
 exact ⟨rfl,acL rfl (by omega)⟩
theorem m_3 (h:(k==3)=true) (hs:(!gW nm)=false):Value.int .i64 0=Value.int .i64 (jK k)∧gZ k t n nm=0:=by
 obtain rfl:k=3:=by simpa using h
 exact ⟨rfl,IW (.inl rfl) (by simpa using hs)⟩
theorem m_4 (h:(k==4)=true) (hs:(!gW nm)=false):Value.int .i64 1=Value.int .i64 (jK k)∧gZ k t n nm=0:=by
 obtain rfl:k=4:=by simpa using h
 exact ⟨rfl,IW (.inr (.inl rfl)) (by simpa using hs)⟩
theorem m_6 (h:(k==6)=true) (hs:(!gW nm)=false):Value.int .i64 0=Value.int .i64 (jK k)∧gZ k t n nm=0:=by
 obtain rfl:k=6:=by simpa using h
 exact ⟨rfl,IW (.inr (.inr rfl)) (by simpa using hs)⟩
theorem aao (h:(k==5)=true∨(k==7)=true):Value.int .i64 1=Value.int .i64 (jK k)∧gZ k t n nm=0:=by
 simp only [beq_iff_eq] at h
 rcases h with rfl|rfl<;>exact ⟨rfl,MH (by omega)⟩
theorem Ec (h:(k==8)=true∨(k==9)=true∨(k==10)=true∨(k==11)=true∨(k==12)=true∨(k==13)=true):Value.int .i64 2=Value.int .i64 (jK k)∧gZ k t n nm=0:=by
 simp only [beq_iff_eq] at h
 rcases h with rfl|rfl|rfl|rfl|rfl|rfl<;>exact ⟨rfl,MH (by omega)⟩
theorem acN (kids:List aA) (h:(k==1)=true) (hs:65536<(t.size:Int)):4=jU (.mk k t n nm kids):=(xB (aa9 (by simpa using h) (by omega)) (by decide)).symm
theorem afc (kids:List aA) (h:(k==2)=true) (hs:n<0):3=jU (.mk k t n nm kids):=(xB (acK (by simpa using h) hs) (by decide)).symm
theorem MI (kids:List aA) (h:(k==3)=true∨(k==4)=true∨(k==6)=true) (hs:(!gW nm)=true):7=jU (.mk k t n nm kids):=by
 simp only [beq_iff_eq] at h
 exact (xB (abb h (by simpa using hs)) (by decide)).symm
end
theorem U7:∀(m:Nat) (p:aA) (b o:Nat) (S:Nat→Prop) (w:World),sizeT p≤m→aW w S b o p→
  Calls Tryz.prog 132 #[.pointer (some ⟨b,o,none⟩)] w fun e w'=>e=.returned (.int .i64 (jU p))∧w=w':=by
 intro m
 induction m with
 | zero=>intro p b o S w hm;have:=Ci p;omega
 | succ m ih =>
 intro p b o S w hm hp
 obtain ⟨k,t,n,nm,kids⟩:=p
 unfold aW at hp
 obtain ⟨_,⟨ht,hn0,hk⟩,h0,h1,h2,h3,ka,cap,h4,hks⟩:=hp
 have hn:nm.size≤maxLen:=by unfold maxLen;omega
 have HK:=ah hks;clear hks
 have hih:∀(j:Nat) (hj:j<kids.length) (b o:Nat) (w:World),aW w S b o kids[j]→Calls Tryz.prog 132 #[.pointer (some ⟨b,o,none⟩)] w fun e w'=>e=.returned (.int .i64 (jU kids[j]))∧w=w' :=
  fun j hj b o w h=>ih kids[j] b o S w (by have:=qy kids j hj;simp only [sizeT] at hm;omega) h
 have HIH:=ah hih;clear hih ih hm
 by_cases hk0:k<1∨13<k
 ·have hr:=xB (kids:=kids) (aa8 (t:=t) (n:=n) (nm:=nm) hk0) (by decide)
  have HR:=ah hr
  have e1:(k==1)=false:=by simp;omega
  have e2:(k==2)=false:=by simp;omega
  have e3:(k==3)=false:=by simp;omega
  have e4:(k==4)=false:=by simp;omega
  have e5:(k==5)=false:=by simp;omega
  have e6:(k==6)=false:=by simp;omega
  have e7:(k==7)=false:=by simp;omega
  have e8:(k==8)=false:=by simp;omega
  have e9:(k==9)=false:=by simp;omega
  have e10:(k==10)=false:=by simp;omega
  have e11:(k==11)=false:=by simp;omega
  have e12:(k==12)=false:=by simp;omega
  have e13:(k==13)=false:=by simp;omega
  clear hr hk0 h1 h2 h3 h4
  go_enter Tryz.func132, Tryz.ntmps132
  go_wp2_with fail
  go_ret
  exact ⟨by rw [HR.out];try rfl,rfl⟩
 go_enter Tryz.func132, Tryz.ntmps132
 go_upto_block 0 with fail
 go_cut [3] (fun l w'=>w=w'∧l=.int .i64 (jK k)∧gZ k t n nm=0)
 case first =>
  go_wp2_with (go_at_call 93;refine (tC _ _ hn).mono ?_;rintro e w' ⟨rfl,rfl⟩)
  all_goals
   first
    | (go_meet;go_light;refine ⟨rfl,?_⟩;first
      | exact acM ‹(k==1)=true› ‹_›
      | exact m_num ‹(k==2)=true› ‹_›
      | exact m_3 ‹(k==3)=true› ‹_›
      | exact m_4 ‹(k==4)=true› ‹_›
      | exact m_6 ‹(k==6)=true› ‹_›
      | exact aao (.inl ‹(k==5)=true›)
      | exact aao (.inr ‹(k==7)=true›)
      | exact Ec (.inl ‹(k==8)=true›)
      | exact Ec (.inr (.inl ‹(k==9)=true›))
      | exact Ec (.inr (.inr (.inl ‹(k==10)=true›)))
      | exact Ec (.inr (.inr (.inr (.inl ‹(k==11)=true›))))
      | exact Ec (.inr (.inr (.inr (.inr (.inl ‹(k==12)=true›)))))
      | exact Ec (.inr (.inr (.inr (.inr (.inr ‹(k==13)=true›))))))
    | (go_ret;go_light;refine ⟨zJ ?_,rfl⟩;first
      | exact acN kids ‹(k==1)=true› ‹_›
      | exact afc kids ‹(k==2)=true› ‹_›
      | exact MI kids (.inl ‹(k==3)=true›) ‹_›
      | exact MI kids (.inr (.inl ‹(k==4)=true›)) ‹_›
      | exact MI kids (.inr (.inr ‹(k==6)=true›)) ‹_›)
 case rest =>
  obtain ⟨rfl,rfl,hc⟩:=hcut
  have hx:jK k≤2∧0≤jK k:=by unfold jK;split<;>(try split)<;>omega
  by_cases h5:(k=6∧8<kids.length)∨(k≠6∧(kids.length:Int)≠jK k)
  ·have hr:=Sz hc h5
   have HR:=ah hr
   clear hr hc
   rcases h5 with ⟨a,c⟩|⟨a,c⟩
   ·have e1:(k==6)=true:=by simpa using a
    have e2:decide ((8:Int)<(kids.length:Int))=true:=ak (by omega)
    clear a c
    go_wp2_with fail
    go_ret
    exact ⟨by rw [HR.out];try rfl,rfl⟩
   ·have e1:(k==6)=false:=by simpa using a
    have e2:(k != 6)=true:=by simpa using a
    have e3:((kids.length:Int) != jK k)=true:=by simpa using c
    clear a c
    go_wp2_with fail
    go_ret
    exact ⟨by rw [HR.out];try rfl,rfl⟩
  ·have hr:=SA hc h5
   have HR:=ah hr
   have hz:(k=6∧((k==6)=true)∧(k != 6)=false∧decide ((8:Int)<(kids.length:Int))=false)∨(k≠6∧((k==6)=false)∧(k != 6)=true∧((kids.length:Int) != jK k)=false):=by
    by_cases h6:k=6
    ·exact .inl ⟨h6,by simpa using h6,by simpa using h6,au (by omega)⟩
    ·exact .inr ⟨h6,by simpa using h6,by simpa using h6,by simp;omega⟩
   clear hr hc h5 h1 h2 h3
   rcases hz with ⟨rfl,e1,e2,e3⟩|⟨_,e1,e2,e3⟩
   all_goals
    go_wp2_with fail
    go_loop [84] (fun i=>∃j:Nat,j≤kids.length∧i=.int .i64 j∧Hid (rP kids=rP (kids.drop j))) (fun i=>kids.length-(intOf i).toNat)
    case atStart=>exact ⟨0,Nat.zero_le _,rfl,by unfold Hid;rw [List.drop_zero]⟩
    case round =>
     obtain ⟨j,hj,rfl,hno⟩:=hrel
     by_cases hlt:j<kids.length
     ·obtain ⟨b1,o1,rfl⟩:=pU HK.out (by omega)
      have hP:=ah (oQ kids b1 o1 j hlt HK.out)
      have hd:=PX kids j hlt
      by_cases hz:jU kids[j]=0
      ·rw [if_pos hz] at hd
       have step:=ah (hno.out.trans hd)
       have hb:(jU kids[j] != 0)=false:=by simpa using hz
       clear hd hz
       go_wp2_with (go_at_call 132;refine (HIH.out j hlt _ _ _ hP.out).mono ?_;rintro e w' ⟨rfl,rfl⟩)
       go_round
       case rel=>exact ⟨j+1,by omega,by go_num,step⟩
       case measure=>simp [intOf];omega
      ·rw [if_neg hz] at hd
       have fin:=ah (HR.out.trans (hno.out.trans hd))
       have hb:(jU kids[j] != 0)=true:=by simpa using hz
       clear hd hz
       go_wp2_with (go_at_call 132;refine (HIH.out j hlt _ _ _ hP.out).mono ?_;rintro e w' ⟨rfl,rfl⟩)
       go_ret
       exact ⟨by rw [fin.out];try rfl,rfl⟩
     ·obtain rfl:j=kids.length:=by omega
      have fin:=ah (HR.out.trans (hno.out.trans (show rP (kids.drop kids.length)=0 by rw [List.drop_length,rP])))
      go_wp2_with fail
      go_ret
      exact ⟨by rw [fin.out];try rfl,rfl⟩
end Go.Proofs.YtgoijmpahffnhaaGreatDoor

namespace Go.Proofs.YtgoijmpahffnhaaGreatDoor
set_option linter.all false
open Go.RowKit
def Aw (b:Bool) (w:World) (e:Ending) (w':World):Prop:=e=.returned (.bool b)∧Kept aB w w'
end Go.Proofs.YtgoijmpahffnhaaGreatDoor

namespace Go.Proofs.YtgoijmpahffnhaaGreatDoor
set_option linter.all false
open Go.RowKit
def Yn (b:Int) (w:World) (e:Ending) (w':World):Prop:=e=.returned (.int .i64 b)∧Kept aB w w'
end Go.Proofs.YtgoijmpahffnhaaGreatDoor

namespace Go.Proofs.YtgoijmpahffnhaaGreatDoor
set_option linter.all false
open Go.RowKit
theorem aW.open {w:World} {S:Nat→Prop} {b o:Nat} {p:aA} (h:aW w S b o p):S b∧(p.text.size<1000000000∧p.name.size<1000000000∧p.kids.length<1000000000)∧
  w.cell? ⟨b,o,none⟩=some (.int .i64 p.kind)∧w.cell? ⟨b,o+1,none⟩=some (.string p.text)∧w.cell? ⟨b,o+2,none⟩=some (.int .i64 p.n)∧w.cell? ⟨b,o+3,none⟩=some (.string p.name)∧
  ∃ka cap,w.cell? ⟨b,o+4,none⟩=some (.slice ka p.kids.length cap)∧aI w S ka p.kids:=by
 obtain ⟨k,t,n,nm,kids⟩:=p;unfold aW at h;exact h
def zA (w:World) (S:Nat→Prop) (c:List Value) (p:aA):Prop :=
 ∃ka cap,c=[.int .i64 p.kind,.string p.text,.int .i64 p.n,.string p.name,.slice ka p.kids.length cap]∧(p.text.size<1000000000∧p.name.size<1000000000∧p.kids.length<1000000000)∧aI w S ka p.kids
def gG (w:World) (S:Nat→Prop):List Value→List aA→Prop
 | cs,[]=>cs=[]
 | cs,p::ps=>∃c rest,cs=c++rest∧zA w S c p∧gG w S rest ps
theorem zA.length {w:World} {S:Nat→Prop} {c:List Value} {p:aA} (h:zA w S c p):c.length=5:=by obtain ⟨_,_,rfl,_⟩:=h;rfl
theorem zA.one {w:World} {S:Nat→Prop} {c:List Value} {p:aA} (h:zA w S c p):∀u∈c,u.oneCell'=true:=by
 obtain ⟨_,_,rfl,_⟩:=h;intro u hu;simp at hu;rcases hu with rfl|rfl|rfl|rfl|rfl<;>rfl
theorem gG.length {w:World} {S:Nat→Prop}:∀{l:List aA} {cs:List Value},gG w S cs l→cs.length=l.length*5
 | [],cs,h=>by rw [gG] at h;subst h;rfl
 | p::ps,cs,h=>by
  rw [gG] at h;obtain ⟨c,r,rfl,h1,h2⟩:=h
  rw [List.length_append,h1.length,h2.length,List.length_cons];omega
theorem gG.one {w:World} {S:Nat→Prop}:∀{l:List aA} {cs:List Value},gG w S cs l→∀u∈cs,u.oneCell'=true
 | [],cs,h=>by rw [gG] at h;subst h;intro u hu;simp at hu
 | p::ps,cs,h=>by
  rw [gG] at h;obtain ⟨c,r,rfl,h1,h2⟩:=h
  intro u hu;rcases List.mem_append.1 hu with hu|hu;exact h1.one u hu;exact h2.one u hu
theorem gG.append {w:World} {S:Nat→Prop}:∀{l l':List aA} {cs cs':List Value},gG w S cs l→gG w S cs' l'→gG w S (cs++cs') (l++l')
 | [],_,cs,_,h,h'=>by rw [gG] at h;subst h;exact h'
 | p::ps,_,cs,_,h,h'=>by
  rw [gG] at h;obtain ⟨c,r,rfl,h1,h2⟩:=h
  rw [List.append_assoc,List.cons_append,gG]
  exact ⟨c,_,rfl,h1,h2.append h'⟩
theorem zA.kept {w w':World} {S:Nat→Prop} {X:Nat→Prop} {c:List Value} {p:aA} (h:zA w S c p) (hk:Kept X w w') (hs:Safe S X w.heap.size):zA w' S c p:=by
 obtain ⟨ka,cap,rfl,hz,hp⟩:=h;exact ⟨ka,cap,rfl,hz,hp.kept hk hs⟩
theorem gG.kept {w w':World} {S:Nat→Prop} {X:Nat→Prop}:∀{l:List aA} {cs:List Value},gG w S cs l→Kept X w w'→Safe S X w.heap.size→gG w' S cs l
 | [],_,h,_,_=>h
 | p::ps,cs,h,hk,hs=>by
  rw [gG] at h⊢;obtain ⟨c,r,rfl,h1,h2⟩:=h
  exact ⟨c,r,rfl,h1.kept hk hs,h2.kept hk hs⟩
theorem Tryz.infoP:(Tryz.prog.info? 57).map (fun i=>(i.zero,i.size,i.bytes))=some (some (.agg #[.int .i64 0,.string ⟨#[]⟩,.int .i64 0,.string ⟨#[]⟩,.slice none 0 0]),5,72):=by kernel_rfl
theorem Uf (l:List aA) (j:Nat):aT (l.take j)≤aT l:=by
 induction l generalizing j with
 | nil=>simp
 | cons p ps ih=>cases j with
  | zero=>simp [aT]
  | succ j=>simp only [List.take_succ_cons,aT];have:=ih j;omega
end Go.Proofs.YtgoijmpahffnhaaGreatDoor

namespace Go.Proofs.YtgoijmpahffnhaaGreatDoor
set_option linter.all false
open Go.RowKit
def CZ (ops:Array Oper) (n:Nat):Bool :=
 (List.range ops.size).all fun i=>match ops[i]? with
  | none=>false
  | some o=>(match o.dst with
    | none=>true
    | some d=>decide (d<n)&&(List.range ops.size).all fun j=>decide (j=i)||(match ops[j]? with|some p=>p.dst != some d|none=>true))
    && o.after.toList.all fun e=>decide (e.on<i)||!(Region.binds .any e)
section
variable {P:Program} {ops:Array Oper} {Q:Exit→Act→World→Prop}
theorem Ko {n i:Nat} {o:Oper} (h:CZ ops n=true) (ho:ops[i]?=some o) :
  (∀d,o.dst=some d→d<n∧∀j p,ops[j]?=some p→j≠i→p.dst≠some d)∧∀e∈o.after,Region.binds .any e=true→e.on<i:=by
 have hi:i<ops.size:=(Array.getElem?_eq_some_iff.1 ho).1
 unfold CZ at h
 have h1:=List.all_eq_true.1 h i (List.mem_range.2 hi)
 simp only [ho,Bool.and_eq_true] at h1
 obtain ⟨h3,h4⟩:=h1
 refine ⟨fun d hd=>?_,fun e he hb=>?_⟩
 ·rw [hd] at h3
  simp only [Bool.and_eq_true,decide_eq_true_eq] at h3
  refine ⟨h3.1,fun j p hj hji=>?_⟩
  have hjs:j<ops.size:=(Array.getElem?_eq_some_iff.1 hj).1
  have h5:=List.all_eq_true.1 h3.2 j (List.mem_range.2 hjs)
  simp only [Bool.or_eq_true,decide_eq_true_eq,hj] at h5
  rcases h5 with h5|h5
  ·exact absurd h5 hji
  ·simpa using h5
 ·have:=List.all_eq_true.1 h4 e (by simpa using he)
  simpa [hb] using this
theorem qo.agW {X:Nat→Prop} {Spec:Nat→Value→World→Prop} {a0:Act} {w0:World} {l l':Nat→Bool} {a:Act} {w w':World} {i:Nat} {o:Oper} {v:Value}
  (hok:CZ ops a0.tmps.size=true) (hst:∀i v w w',Spec i v w→Kept X w w'→Spec i v w') (h:qo X ops Spec a0 w0 l a w) (ho:ops[i]?=some o)
  (hv:∀d,o.dst=some d→Spec i v w') (hk:Kept X w w') (hl:∀j,l' j=true↔j=i∨l j=true) (haft:∀e∈o.after,Region.binds .any e=true→l e.on=true):qo X ops Spec a0 w0 l' (a.put o.dst v) w':=by
 obtain ⟨hd,_⟩:=Ko hok ho
 refine ⟨h.kept.trans hk,?_,?_,fun t ht=>?_,fun j p d hj hlj oD=>?_,fun j p d hj hlj oD=>?_,fun j p hj hlj e he hb=>?_⟩
 ·unfold Act.put;cases o.dst<;>exact h.defers
 ·unfold Act.put;cases o.dst
  ·exact h.size
  ·simp only [Array.size_setIfInBounds];exact h.size
 ·rw [←h.rest t ht]
  unfold Act.put
  cases hdst:o.dst with
  | none=>rfl
  | some d =>
   have hne:d≠t:=fun e=>ht i o ho (by rw [hdst,e])
   simp only [Array.getD_eq_getD_getElem?,Array.getElem?_setIfInBounds_ne hne]
 ·by_cases hji:j=i
  ·subst hji
   rw [ho] at hj;cases hj
   unfold Act.put
   rw [oD]
   simp only [Array.getD_eq_getD_getElem?,Array.getElem?_setIfInBounds_self_of_lt (show d<a.tmps.size by rw [h.size];exact (hd d oD).1),Option.getD_some]
   exact hv d oD
  ·have hold:=hst _ _ _ _ (h.done j p d hj (((hl j).1 hlj).resolve_left hji) oD) hk
   unfold Act.put
   cases hdst:o.dst with
   | none=>exact hold
   | some d' =>
    have hne:d'≠d:=fun e=>(hd d' hdst).2 j p hj hji (by rw [oD,e])
    simp only [Array.getD_eq_getD_getElem?,Array.getElem?_setIfInBounds_ne hne] at hold⊢
    exact hold
 ·have NJ:l j=false:=by
   cases hx:l j with
   | false=>rfl
   | true=>rw [(hl j).2 (.inr hx)] at hlj;cases hlj
  have hji:j≠i:=fun e=>by rw [(hl j).2 (.inl e)] at hlj;cases hlj
  rw [←h.todo j p d hj NJ oD]
  unfold Act.put
  cases hdst:o.dst with
  | none=>rfl
  | some d' =>
   have hne:d'≠d:=fun e=>(hd d' hdst).2 j p hj hji (by rw [oD,e])
   simp only [Array.getD_eq_getD_getElem?,Array.getElem?_setIfInBounds_ne hne]
 ·rcases (hl j).1 hlj with rfl|hx
  ·rw [ho] at hj;cases hj
   exact (hl _).2 (.inr (haft e he hb))
  ·exact (hl _).2 (.inr (h.closed j p hj hx e he hb))
theorem TP (X:Nat→Prop) (J:(Nat→Bool)→(Nat→Value)→World→Prop) (Spec:Nat→Value→World→Prop) {id:Nat} {a0:Act} {w0:World} (hm:P.follows .mixedOrders=true) (hok:CZ ops a0.tmps.size=true)
  (hst:∀i v w w',Spec i v w→Kept X w w'→Spec i v w')
  (hstep:∀(i:Nat) (o:Oper),ops[i]?=some o→∀(l:Nat→Bool) (a:Act) (w:World),qo X ops Spec a0 w0 l a w→J l (fun t=>a.tmps.getD t undef) w→l i=false→(∀e∈o.after,l e.on=true∨Region.binds .any e=false)→
   if Region.wanted o (yielded ops a.tmps)=true then o.wp P a w (fun a' w'=>∃v,a'=a.put o.dst v∧(∀d,o.dst=some d→Spec i v w')∧Kept X w w'∧∀l',(∀j,l' j=true↔j=i∨l j=true)→J l' (fun t=>(a.put o.dst v).tmps.getD t undef) w') Q
   else (∀d,o.dst=some d→Spec i undef w)∧∀l',(∀j,l' j=true↔j=i∨l j=true)→J l' (fun t=>(a.put o.dst undef).tmps.getD t undef) w)
  (hJ0:∀l:Nat→Bool,(∀i,i<ops.size→l i=false)→J l (fun t=>a0.tmps.getD t undef) w0.drew) (hJe:∀(l l':Nat→Bool) f w,(∀i,i<ops.size→l i=l' i)→J l f w→J l' f w)
  (hend:∀(a:Act) (w:World),qo X ops Spec a0 w0 (fun _=>true) a w→J (fun _=>true) (fun t=>a.tmps.getD t undef) w→Q .normal a w):(Code.region id ops true).wp P Q a0 w0:=by
 refine wp_region_any hm ?_
 have hall:∀(l:Array Bool),l.size=ops.size→Region.ready .any ops l=[]→∀i,i<ops.size→l.getD i true=true:=by
  intro l hls hr i
  induction i using Nat.strongRecOn with
  | _ i ih =>
   intro hi
   cases hg:l.getD i true with
   | true=>rfl
   | false =>
    exfalso
    have ho:ops[i]?=some ops[i]:=Array.getElem?_eq_getElem hi
    have hm':i∈Region.ready .any ops l:=mem_ready.2 ⟨hg,ops[i],ho,fun e he hbe=>by
     have hlt:=(Ko hok ho).2 e he hbe
     have:=ih e.on hlt (by omega)
     rw [Array.getD_eq_getD_getElem?] at this⊢
     rw [Array.getElem?_eq_getElem (by omega)] at this⊢
     exact this⟩
    rw [hr] at hm';cases hm'
 have main:∀(fuel:Nat) (l:Array Bool) (a:Act) (w:World),l.size=ops.size→(List.range ops.size).countP (fun i=>!l.getD i true)≤fuel→
   qo X ops Spec a0 w0 (fun i=>l.getD i true) a w→J (fun i=>l.getD i true) (fun t=>a.tmps.getD t undef) w→wpAny P .any ops Q fuel l a w:=by
  intro fuel
  have fin:∀(l:Array Bool) (a:Act) (w:World),l.size=ops.size→Region.ready .any ops l=[]→qo X ops Spec a0 w0 (fun i=>l.getD i true) a w→J (fun i=>l.getD i true) (fun t=>a.tmps.getD t undef) w→Q .normal a w :=
   fun l a w hls hr h hj=>hend a w ⟨h.kept,h.defers,h.size,h.rest,fun i o d ho _ hd=>h.done i o d ho (hall l hls hr i (Array.getElem?_eq_some_iff.1 ho).1) hd,fun _ _ _ _ h=>(by cases h),fun _ _ _ _ _ _ _=>rfl⟩ (hJe _ _ _ _ (fun i hi=>hall l hls hr i hi) hj)
  induction fuel with
  | zero =>
   intro l a w hls hc h hj
   have hr:Region.ready .any ops l=[]:=List.eq_nil_iff_forall_not_mem.2 fun i hi=>by
    obtain ⟨hg,o,ho,_⟩:=mem_ready.1 hi
    have hlt:=(Array.getElem?_eq_some_iff.1 ho).1
    have h0:(List.range ops.size).countP (fun i=>!l.getD i true)=0:=by omega
    have:=List.countP_eq_zero.1 h0 i (List.mem_range.2 hlt)
    rw [hg] at this;exact this rfl
   exact ⟨hr,fin l a w hls hr h hj⟩
  | succ fuel ih =>
   intro l a w hls hc h hj
   refine ⟨fun hr=>fin l a w hls hr h hj,fun i hi=>?_⟩
   obtain ⟨hg,o,ho,haft⟩:=mem_ready.1 hi
   have hlt:=(Array.getElem?_eq_some_iff.1 ho).1
   have cont:∀(v:Value) (w':World),(∀d,o.dst=some d→Spec i v w')→Kept X w w'→(∀l',(∀j,l' j=true↔j=i∨l.getD j true=true)→J l' (fun t=>(a.put o.dst v).tmps.getD t undef) w')→wpAny P .any ops Q fuel (l.setIfInBounds i true) (a.put o.dst v) w':=by
    intro v w' hv hk hj'
    have hset:∀j,(l.setIfInBounds i true).getD j true=true↔j=i∨l.getD j true=true:=by
     intro j
     by_cases hji:j=i
     ·subst hji
      simp only [Array.getD_eq_getD_getElem?,Array.getElem?_setIfInBounds_self_of_lt (show j<l.size by omega),Option.getD_some,true_or]
     ·simp only [Array.getD_eq_getD_getElem?,Array.getElem?_setIfInBounds_ne (Ne.symm hji),hji,false_or]
    refine ih _ _ _ (by rw [Array.size_setIfInBounds];exact hls) ?_ (h.agW hok hst ho hv hk (fun j=>hset j) fun e he hb=>?_) (hj' _ fun j=>hset j)
    rotate_left
    ·have:=haft e he hb
     rw [Array.getD_eq_getD_getElem?] at this⊢
     cases hx:l[e.on]? with
     | none=>rw [hx] at this;cases this
     | some b=>rw [hx] at this;simpa using this
    have hc2:(List.range ops.size).countP (fun j=>!(l.setIfInBounds i true).getD j true)+1≤(List.range ops.size).countP (fun j=>!l.getD j true):=by
     have key:∀(r:List Nat),r.Nodup→(r.countP (fun j=>!(l.setIfInBounds i true).getD j true))+(if i∈r then 1 else 0)=r.countP (fun j=>!l.getD j true):=by
      intro r
      induction r with
      | nil=>intro _;rfl
      | cons j r ihr =>
       intro hn
       obtain ⟨hj1,hj2⟩:=List.nodup_cons.1 hn
       have ihr:=ihr hj2
       simp only [List.countP_cons,List.mem_cons]
       by_cases hji:j=i
       ·subst hji
        rw [if_neg hj1] at ihr
        have e1:(l.setIfInBounds j true).getD j true=true:=(hset j).2 (.inl rfl)
        rw [e1,hg]
        simp only [Bool.not_true,Bool.not_false,Bool.false_eq_true,if_false,if_true,true_or]
        omega
       ·have e1:(l.setIfInBounds i true).getD j true=l.getD j true:=by
         simp only [Array.getD_eq_getD_getElem?,Array.getElem?_setIfInBounds_ne (Ne.symm hji)]
        have e2:(i=j∨i∈r)↔i∈r:=⟨fun h=>h.resolve_left (Ne.symm hji),.inr⟩
        rw [e1]
        simp only [e2];omega
     have:=key (List.range ops.size) List.nodup_range
     rw [if_pos (List.mem_range.2 hlt)] at this
     omega
    omega
   have hs:=hstep i o ho (fun i=>l.getD i true) a w h hj hg fun e he=>by
     cases hb:Region.binds .any e with
     | false=>exact .inr rfl
     | true =>
      left
      have:=haft e he hb
      rw [Array.getD_eq_getD_getElem?] at this⊢
      cases hx:l[e.on]? with
      | none=>rw [hx] at this;cases this
      | some b=>rw [hx] at this;simpa using this
   unfold wpOp
   simp only [ho]
   by_cases hw:Region.wanted o (yielded ops a.tmps)=true
   ·rw [if_pos hw] at hs⊢
    refine .inl (Oper.wp_mono ?_ hs)
    rintro a' w' ⟨v,rfl,hv,hk,hj'⟩
    exact cont v w' hv hk hj'
   ·rw [if_neg hw] at hs⊢
    exact cont undef w hs.1 (Kept.refl _ _) hs.2
 refine main _ _ _ _ (by simp) ?_ ⟨(Kept.refl X w0).drew,rfl,rfl,fun _ _=>rfl,fun i o d ho hl _=>?_,fun _ _ _ _ _ _=>rfl,fun i o ho hl=>?_⟩ (hJ0 _ fun i hi=>by simp [Array.getD_eq_getD_getElem?,hi])
 ·exact Nat.le_trans List.countP_le_length (by simp)
 all_goals
  exfalso
  have hlt:=(Array.getElem?_eq_some_iff.1 ho).1
  simp [Array.getD_eq_getD_getElem?,hlt] at hl
theorem jA (X:Nat→Prop) (J:(Nat→Bool)→(Nat→Value)→World→Prop) (Spec:Nat→Value→World→Prop) {id:Nat} {a0:Act} {w0:World} (ds:List Nat) (hds:ops.toList.filterMap (·.dst)=ds) (hm:P.follows .mixedOrders=true) (hok:CZ ops a0.tmps.size=true)
  (hst:∀i v w w',Spec i v w→Kept X w w'→Spec i v w')
  (hstep:∀(i:Nat) (o:Oper),ops[i]?=some o→∀(l:Nat→Bool) (a:Act) (w:World),qo X ops Spec a0 w0 l a w→J l (fun t=>a.tmps.getD t undef) w→l i=false→(∀e∈o.after,l e.on=true∨Region.binds .any e=false)→
   if Region.wanted o (yielded ops a.tmps)=true then o.wp P a w (fun a' w'=>∃v,a'=a.put o.dst v∧(∀d,o.dst=some d→Spec i v w')∧Kept X w w'∧∀l',(∀j,l' j=true↔j=i∨l j=true)→J l' (fun t=>(a.put o.dst v).tmps.getD t undef) w') Q
   else (∀d,o.dst=some d→Spec i undef w)∧∀l',(∀j,l' j=true↔j=i∨l j=true)→J l' (fun t=>(a.put o.dst undef).tmps.getD t undef) w)
  (hJ0:∀l:Nat→Bool,(∀i,i<ops.size→l i=false)→J l (fun t=>a0.tmps.getD t undef) w0.drew) (hJe:∀(l l':Nat→Bool) f w,(∀i,i<ops.size→l i=l' i)→J l f w→J l' f w)
  (hend:∀(f:Nat→Value) (w:World),Kept X w0 w→(∀(i:Nat) (o:Oper) (d:Nat),ops[i]?=some o→o.dst=some d→Spec i (f d) w)→J (fun _=>true) f w→Q .normal ⟨iI f a0.tmps ds,a0.defers⟩ w):(Code.region id ops true).wp P Q a0 w0:=by
 refine TP X J Spec hm hok hst hstep hJ0 hJe fun a w h hj=>?_
 rw [h.act ds hds]
 exact hend _ w h.kept (fun i o d ho hd=>h.done i o d ho rfl hd) hj
theorem aU {o:Oper} {a:Act} {p q:Prop} (h:o.guard=none) (hp:p):if Region.wanted o (yielded ops a.tmps)=true then p else q:=by
 rw [if_pos (by simp [Region.wanted,h])];exact hp
theorem iU {J:(Nat→Bool)→(Nat→Value)→World→Prop} {X:Nat→Prop} {l:Nat→Bool} {i:Nat} {o:Oper} {x:Act} {w w':World} {R:Nat→Value→World→Prop} (hr:(execOp x.eval o).run P w=.ok .skip w') (hd:o.dst=none) (hk:Kept X w w')
  (hj:∀l',(∀j,l' j=true↔j=i∨l j=true)→J l' (fun t=>(x.put o.dst undef).tmps.getD t undef) w') :
  o.wp P x w (fun a' w'=>∃v,a'=x.put o.dst v∧(∀d,o.dst=some d→R i v w')∧Kept X w w'∧∀l',(∀j,l' j=true↔j=i∨l j=true)→J l' (fun t=>(x.put o.dst v).tmps.getD t undef) w') Q:=by
 unfold Oper.wp
 rw [hr]
 exact ⟨undef,by first|rfl|(rw [hd];rfl),fun d (h:o.dst=some d)=>(by rw [hd] at h;cases h),hk,hj⟩
theorem sZ {J:(Nat→Bool)→(Nat→Value)→World→Prop} {X:Nat→Prop} {l:Nat→Bool} {i:Nat} {o:Oper} {x:Act} {w:World} {R:Nat→Value→World→Prop} {F:World→Prop} (hr:∃w',(execOp x.eval o).run P w=.ok .skip w'∧F w') (hd:o.dst=none) (hk:∀w',F w'→Kept X w w')
  (hj:∀w',F w'→∀l',(∀j,l' j=true↔j=i∨l j=true)→J l' (fun t=>(x.put o.dst undef).tmps.getD t undef) w') :
  o.wp P x w (fun a' w'=>∃v,a'=x.put o.dst v∧(∀d,o.dst=some d→R i v w')∧Kept X w w'∧∀l',(∀j,l' j=true↔j=i∨l j=true)→J l' (fun t=>(x.put o.dst v).tmps.getD t undef) w') Q:=by
 obtain ⟨w',hr,hf⟩:=hr
 exact iU hr hd (hk w' hf) (hj w' hf)
theorem Kq {J:(Nat→Bool)→(Nat→Value)→World→Prop} {X:Nat→Prop} {l:Nat→Bool} {i:Nat} {o:Oper} {x:Act} {w:World} {f:FuncId} {args:Array Value} {R:Nat→Value→World→Prop} (hr:(execOp x.eval o).run P w=.ok (.enter f args) w)
  (hc:Calls P f args w fun e w'=>(∃v,e=.returned v∧R i v w'∧Kept X w w'∧∀l',(∀j,l' j=true↔j=i∨l j=true)→J l' (fun t=>(x.put o.dst v).tmps.getD t undef) w')∨∃ps,e=.panicked ps∧Q (.panic ps) x w') :
  o.wp P x w (fun a' w'=>∃v,a'=x.put o.dst v∧(∀d,o.dst=some d→R i v w')∧Kept X w w'∧∀l',(∀j,l' j=true↔j=i∨l j=true)→J l' (fun t=>(x.put o.dst v).tmps.getD t undef) w') Q:=by
 unfold Oper.wp
 rw [hr]
 refine Calls.mono hc ?_
 rintro e w' (⟨v,rfl,hs,hk,hj⟩|⟨ps,rfl,hq⟩)
 ·exact ⟨v,rfl,fun _ _=>hs,hk,hj⟩
 ·exact hq
end
end Go.Proofs.YtgoijmpahffnhaaGreatDoor

namespace Go.Proofs.YtgoijmpahffnhaaGreatDoor
set_option linter.all false
open Go.RowKit
theorem mY {ops:Array Oper} {o oj:Oper} {x:Act} {j d:Nat} {b:Bool} {p q:Prop} (hg:o.guard=some (j,b)) (ho:ops[j]?=some oj) (hd:oj.dst=some d) (hv:x.eval (.tmp d)=.bool b) (hlt:d<x.tmps.size) (hp:p) :
  if Region.wanted o (yielded ops x.tmps)=true then p else q:=by
 have hv':x.tmps[d]?=some (.bool b):=by
  have:x.tmps.getD d undef=.bool b:=hv
  rw [Array.getD_eq_getD_getElem?,Array.getElem?_eq_getElem hlt] at this
  rw [Array.getElem?_eq_getElem hlt]
  exact congrArg some this
 have hw:Region.wanted o (yielded ops x.tmps)=true:=by
  simp only [Region.wanted,hg,yielded,ho,Option.bind_some,hd,hv']
  cases b<;>rfl
 rw [if_pos hw];exact hp
end Go.Proofs.YtgoijmpahffnhaaGreatDoor

namespace Go.Proofs.YtgoijmpahffnhaaGreatDoor
set_option linter.all false
open Go.RowKit
def qA (bs:List UInt8):List Value:=bs.map fun b=>.int .u8 (b.toNat:Int)
theorem dX {N:Nat} {w:World} {o:Obj} (h:N=w.heap.size):(w.alloc o).heap[N]?=some o:=by subst h;exact ay w _
theorem Kept.drewN' (w:World) (n:Nat):Kept aB w (w.drewN n):=⟨rfl,rfl,rfl,Nat.le_refl _,fun _ _ _=>rfl⟩
theorem Tryz.infoB:(Tryz.prog.info? 5).map (fun i=>(i.zero,i.size,i.bytes))=some (some (.int .u8 0),1,1):=by kernel_rfl
theorem aS.conv {w:World} {B:Nat} {a:Option Addr} {c:Nat} {bs:List UInt8} (h:aS w B 5 1 (.slice a bs.length c) bs.length (qA bs)) :
  (convert 28 9 (.slice a bs.length c)).run Tryz.prog w=.ok (.string ⟨bs.toArray⟩) w:=by
 rcases h.cells with ⟨hv,hn⟩|⟨g,o,cap,hv,_,_,_,_,hc⟩
 ·simp only [Value.slice.injEq] at hv
  obtain ⟨rfl,hl,rfl⟩:=hv
  rw [List.eq_nil_of_length_eq_zero hl]
  exact run_convert_bytes_nil w 28 5 Tryz.underlying28 Tryz.underlying5 0 0 9 Tryz.underlying9
 ·simp only [Value.slice.injEq,true_and] at hv
  obtain ⟨rfl,rfl⟩:=hv
  refine run_convert_bytes_back w 28 9 5 _ c bs Tryz.underlying28 Tryz.underlying5 Tryz.underlying9 fun j hj=>?_
  have e1:(⟨g,o,none⟩:Addr).add j=⟨g,o+j,none⟩:=by unfold Addr.add;split<;>simp_all
  rw [e1];exact (hc j _ (by simp [qA,hj])).1
end Go.Proofs.YtgoijmpahffnhaaGreatDoor
