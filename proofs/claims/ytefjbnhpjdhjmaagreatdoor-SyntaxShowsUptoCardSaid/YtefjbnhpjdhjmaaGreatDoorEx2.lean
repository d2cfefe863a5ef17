/-  -/
import Derived.Test.YtefjbnhpjdhjmaaGreatDoorTs19
namespace Go.Proofs.YtefjbnhpjdhjmaaGreatDoor
set_option linter.all false
open Go.RowKit
set_option maxRecDepth 100000
set_option maxHeartbeats 1000000
def jm (k:Int) (t:aj) (n:Int) (nm:aj):Int :=
 if k<1∨13<k then 1
 else if k=1∧65536<t.size then 4
 else if k=2∧n<0 then 3
 else if (k=3∨k=4∨k=6)∧bF nm=false then 7 else 0
theorem Jy (k:Int) (t:aj) (n:Int) (nm:aj) (len:Nat):DR k t n nm len=if jm k t n nm=0 then (if (k=6∧8<len)∨(k≠6∧(len:Int)≠jf k) then 5 else 0) else jm k t n nm:=by
 unfold DR jm
 split
 ·simp
 ·split
  ·simp
  ·split
   ·simp
   ·split<;>simp
theorem yL {k:Int} {t:aj} {n:Int} {nm:aj} {kids:List aA} {e:Int} (h:jm k t n nm=e) (he:e≠0):kX (.mk k t n nm kids)=e:=by
 rw [kX,Jy,h,if_neg he,if_neg he]
theorem Rn {k:Int} {t:aj} {n:Int} {nm:aj} {kids:List aA} (h:jm k t n nm=0) (hc:(k=6∧8<kids.length)∨(k≠6∧(kids.length:Int)≠jf k)):kX (.mk k t n nm kids)=5:=by
 rw [kX,Jy,if_pos h,if_pos hc];rfl
theorem Ro {k:Int} {t:aj} {n:Int} {nm:aj} {kids:List aA} (h:jm k t n nm=0) (hc:¬((k=6∧8<kids.length)∨(k≠6∧(kids.length:Int)≠jf k))):kX (.mk k t n nm kids)=rH kids:=by
 rw [kX,Jy,if_pos h,if_neg hc];rfl
section
variable {k n:Int} {t nm:aj}
theorem aap (h:k<1∨13<k):jm k t n nm=1:=by unfold jm;rw [if_pos h]
theorem aaq (h:k=1) (hs:65536<t.size):jm k t n nm=4:=by unfold jm;rw [if_neg (by omega),if_pos ⟨h,hs⟩]
theorem abp (h:k=2) (hs:n<0):jm k t n nm=3:=by unfold jm;rw [if_neg (by omega),if_neg (by omega),if_pos ⟨h,hs⟩]
theorem aar (h:k=3∨k=4∨k=6) (hs:bF nm=false):jm k t n nm=7:=by unfold jm;rw [if_neg (by omega),if_neg (by omega),if_neg (by omega),if_pos ⟨h,hs⟩]
theorem aas (h:k=1) (hs:¬65536<t.size):jm k t n nm=0:=by unfold jm;rw [if_neg (by omega),if_neg (by omega),if_neg (by omega),if_neg (by omega)]
theorem abq (h:k=2) (hs:¬n<0):jm k t n nm=0:=by unfold jm;rw [if_neg (by omega),if_neg (by omega),if_neg (by omega),if_neg (by omega)]
theorem Jz (h:k=3∨k=4∨k=6) (hs:bF nm=true):jm k t n nm=0:=by unfold jm;rw [if_neg (by omega),if_neg (by omega),if_neg (by omega),if_neg (by simp [hs])]
theorem Nb (h:k=5∨(7≤k∧k≤13)):jm k t n nm=0:=by unfold jm;rw [if_neg (by omega),if_neg (by omega),if_neg (by omega),if_neg (by omega)]
theorem abr (h:(k==1)=true) (hs:(t.size:Int)≤65536):Value.int .i64 0=Value.int .i64 (jf k)∧jm k t n nm=0:=by
 obtain rfl:k=1:=by simpa using h
 exact ⟨rfl,aas rfl (by omega)⟩
theorem m_num (h:(k==2)=true) (hs:0≤n):Value.int .i64 0=Value.int .i64 (jf k)∧jm k t n nm=0:=by
 obtain rfl:k=2:=by simpa using h
 exact ⟨rfl,abq rfl (by omega)⟩
theorem m_3 (h:(k==3)=true) (hs:(!bF nm)=false):Value.int .i64 0=Value.int .i64 (jf k)∧jm k t n nm=0:=by
 obtain rfl:k=3:=by simpa using h
 exact ⟨rfl,Jz (.inl rfl) (by simpa using hs)⟩
theorem m_4 (h:(k==4)=true) (hs:(!bF nm)=false):Value.int .i64 1=Value.int .i64 (jf k)∧jm k t n nm=0:=by
 obtain rfl:k=4:=by simpa using h
 exact ⟨rfl,Jz (.inr (.inl rfl)) (by simpa using hs)⟩
theorem m_6 (h:(k==6)=true) (hs:(!bF nm)=false):Value.int .i64 0=Value.int .i64 (jf k)∧jm k t n nm=0:=by
 obtain rfl:k=6:=by simpa using h
 exact ⟨rfl,Jz (.inr (.inr rfl)) (by simpa using hs)⟩
theorem Zy (h:(k==5)=true∨(k==7)=true):Value.int .i64 1=Value.int .i64 (jf k)∧jm k t n nm=0:=by
 simp only [beq_iff_eq] at h
 rcases h with rfl|rfl<;>exact ⟨rfl,Nb (by omega)⟩
theorem EZ (h:(k==8)=true∨(k==9)=true∨(k==10)=true∨(k==11)=true∨(k==12)=true∨(k==13)=true):Value.int .i64 2=Value.int .i64 (jf k)∧jm k t n nm=0:=by
 simp only [beq_iff_eq] at h
 rcases h with rfl|rfl|rfl|rfl|rfl|rfl<;>exact ⟨rfl,Nb (by omega)⟩
theorem abt (kids:List aA) (h:(k==1)=true) (hs:65536<(t.size:Int)):4=kX (.mk k t n nm kids):=(yL (aaq (by simpa using h) (by omega)) (by decide)).symm
theorem adr (kids:List aA) (h:(k==2)=true) (hs:n<0):3=kX (.mk k t n nm kids):=(yL (abp (by simpa using h) hs) (by decide)).symm
theorem Nc (kids:List aA) (h:(k==3)=true∨(k==4)=true∨(k==6)=true) (hs:(!bF nm)=true):7=kX (.mk k t n nm kids):=by
 simp only [beq_iff_eq] at h
 exact (yL (aar h (by simpa using hs)) (by decide)).symm
end
theorem Ux:∀(m:Nat) (p:aA) (b o:Nat) (S:Nat→Prop) (w:World),sizeT p≤m→dH w S b o p→
  Calls Tryz.prog 60 #[.pointer (some ⟨b,o,none⟩)] w fun e w'=>e=.returned (.int .i64 (kX p))∧w=w':=by
 intro m
 induction m with
 | zero=>intro p b o S w hm;have:=lW p;omega
 | succ m ih =>
 intro p b o S w hm hp
 obtain ⟨k,t,n,nm,kids⟩:=p
 unfold dH at hp
 obtain ⟨_,⟨ht,hn0,hk⟩,h0,h1,h2,h3,ka,cap,h4,hks⟩:=hp
 have hn:nm.size≤maxLen:=by unfold maxLen;omega
 have HK:=ah hks;clear hks
 have hih:∀(j:Nat) (hj:j<kids.length) (b o:Nat) (w:World),dH w S b o kids[j]→Calls Tryz.prog 60 #[.pointer (some ⟨b,o,none⟩)] w fun e w'=>e=.returned (.int .i64 (kX kids[j]))∧w=w' :=
  fun j hj b o w h=>ih kids[j] b o S w (by have:=ng kids j hj;simp only [sizeT] at hm;omega) h
 have HIH:=ah hih;clear hih ih hm
 by_cases hk0:k<1∨13<k
 ·have hr:=yL (kids:=kids) (aap (t:=t) (n:=n) (nm:=nm) hk0) (by decide)
  have HR:=ah hr
  have e1:(k==1)=false:=by simp;omega
  have e2:(k==2)=false:=by simp;omega
  have e3:(k==3)=false:=by simp;omega
  have e4:(k==4)=false:=by simp;omega
  have e5:(k==5)=false:=by simp;omega
  have e6:(k==6)=false:=by simp;omega
  have e7:(k==7)=false:=by simp;omega
  have e8:(k==8)=false:=by simp;omega
  have e9:(k==9)=false:=by simp;omega
  have e10:(k==10)=false:=by simp;omega
  have e11:(k==11)=false:=by simp;omega
  have e12:(k==12)=false:=by simp;omega
  have e13:(k==13)=false:=by simp;omega
  clear hr hk0 h1 h2 h3 h4
  go_enter Tryz.func60, Tryz.ntmps60
  go_wp2_with fail
  go_ret
  exact ⟨by rw [HR.out];try rfl,rfl⟩
 go_enter Tryz.func60, Tryz.ntmps60
 go_upto_block 0 with fail
 go_cut [3] (fun l w'=>w=w'∧l=.int .i64 (jf k)∧jm k t n nm=0)
 case first =>
  go_wp2_with (go_at_call 26;refine (uU _ _ hn).mono ?_;rintro e w' ⟨rfl,rfl⟩)
  all_goals
   first
    | (go_meet;go_light;refine ⟨rfl,?_⟩;first
      | exact abr ‹(k==1)=true› ‹_›
      | exact m_num ‹(k==2)=true› ‹_›
      | exact m_3 ‹(k==3)=true› ‹_›
      | exact m_4 ‹(k==4)=true› ‹_›
      | exact m_6 ‹(k==6)=true› ‹_›
      | exact Zy (.inl ‹(k==5)=true›)
      | exact Zy (.inr ‹(k==7)=true›)
      | exact EZ (.inl ‹(k==8)=true›)
      | exact EZ (.inr (.inl ‹(k==9)=true›))
      | exact EZ (.inr (.inr (.inl ‹(k==10)=true›)))
      | exact EZ (.inr (.inr (.inr (.inl ‹(k==11)=true›))))
      | exact EZ (.inr (.inr (.inr (.inr (.inl ‹(k==12)=true›)))))
      | exact EZ (.inr (.inr (.inr (.inr (.inr ‹(k==13)=true›))))))
    | (go_ret;go_light;refine ⟨Bl ?_,rfl⟩;first
      | exact abt kids ‹(k==1)=true› ‹_›
      | exact adr kids ‹(k==2)=true› ‹_›
      | exact Nc kids (.inl ‹(k==3)=true›) ‹_›
      | exact Nc kids (.inr (.inl ‹(k==4)=true›)) ‹_›
      | exact Nc kids (.inr (.inr ‹(k==6)=true›)) ‹_›)
 case rest =>
  obtain ⟨rfl,rfl,hc⟩:=hcut
  have hx:jf k≤2∧0≤jf k:=by unfold jf;split<;>(try split)<;>omega
  by_cases h5:(k=6∧8<kids.length)∨(k≠6∧(kids.length:Int)≠jf k)
  ·have hr:=Rn hc h5
   have HR:=ah hr
   clear hr hc
   rcases h5 with ⟨a,c⟩|⟨a,c⟩
   ·have e1:(k==6)=true:=by simpa using a
    have e2:decide ((8:Int)<(kids.length:Int))=true:=ak (by omega)
    clear a c
    go_wp2_with fail
    go_ret
    exact ⟨by rw [HR.out];try rfl,rfl⟩
   ·have e1:(k==6)=false:=by simpa using a
    have e2:(k != 6)=true:=by simpa using a
    have e3:((kids.length:Int) != jf k)=true:=by simpa using c
    clear a c
    go_wp2_with fail
    go_ret
    exact ⟨by rw [HR.out];try rfl,rfl⟩
  ·have hr:=Ro hc h5
   have HR:=ah hr
   have hz:(k=6∧((k==6)=true)∧(k != 6)=false∧decide ((8:Int)<(kids.length:Int))=false)∨(k≠6∧((k==6)=false)∧(k != 6)=true∧((kids.length:Int) != jf k)=false):=by
    by_cases h6:k=6
    ·exact .inl ⟨h6,by simpa using h6,by simpa using h6,au (by omega)⟩
    ·exact .inr ⟨h6,by simpa using h6,by simpa using h6,by simp;omega⟩
   clear hr hc h5 h1 h2 h3
   rcases hz with ⟨rfl,e1,e2,e3⟩|⟨_,e1,e2,e3⟩
   all_goals
    go_wp2_with fail
    go_loop [84] (fun i=>∃j:Nat,j≤kids.length∧i=.int .i64 j∧Hid (rH kids=rH (kids.drop j))) (fun i=>kids.length-(intOf i).toNat)
    case atStart=>exact ⟨0,Nat.zero_le _,rfl,by unfold Hid;rw [List.drop_zero]⟩
    case round =>
     obtain ⟨j,hj,rfl,hno⟩:=hrel
     by_cases hlt:j<kids.length
     ·obtain ⟨b1,o1,rfl⟩:=iF HK.out (by omega)
      have hP:=ah (iH kids b1 o1 j hlt HK.out)
      have hd:=PL kids j hlt
      by_cases hz:kX kids[j]=0
      ·rw [if_pos hz] at hd
       have step:=ah (hno.out.trans hd)
       have hb:(kX kids[j] != 0)=false:=by simpa using hz
       clear hd hz
       go_wp2_with (go_at_call 60;refine (HIH.out j hlt _ _ _ hP.out).mono ?_;rintro e w' ⟨rfl,rfl⟩)
       go_round
       case rel=>exact ⟨j+1,by omega,by go_num,step⟩
       case measure=>simp [intOf];omega
      ·rw [if_neg hz] at hd
       have fin:=ah (HR.out.trans (hno.out.trans hd))
       have hb:(kX kids[j] != 0)=true:=by simpa using hz
       clear hd hz
       go_wp2_with (go_at_call 60;refine (HIH.out j hlt _ _ _ hP.out).mono ?_;rintro e w' ⟨rfl,rfl⟩)
       go_ret
       exact ⟨by rw [fin.out];try rfl,rfl⟩
     ·obtain rfl:j=kids.length:=by omega
      have fin:=ah (HR.out.trans (hno.out.trans (show rH (kids.drop kids.length)=0 by rw [List.drop_length,rH])))
      go_wp2_with fail
      go_ret
      exact ⟨by rw [fin.out];try rfl,rfl⟩
end Go.Proofs.YtefjbnhpjdhjmaaGreatDoor
