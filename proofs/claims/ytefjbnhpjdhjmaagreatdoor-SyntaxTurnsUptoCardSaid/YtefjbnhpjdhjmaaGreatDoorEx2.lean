/-  -/
import Derived.Test.YtefjbnhpjdhjmaaGreatDoorTm9
namespace Go.Proofs.YtefjbnhpjdhjmaaGreatDoor
set_option linter.all false
open Go.RowKit
set_option maxRecDepth 100000
set_option maxHeartbeats 1000000
def jr (k:Int) (t:aj) (n:Int) (nm:aj):Int :=
 if k<1∨13<k then 1
 else if k=1∧65536<t.size then 4
 else if k=2∧n<0 then 3
 else if (k=3∨k=4∨k=6)∧aS nm=false then 7 else 0
theorem JU (k:Int) (t:aj) (n:Int) (nm:aj) (len:Nat):zu k t n nm len=if jr k t n nm=0 then (if (k=6∧8<len)∨(k≠6∧(len:Int)≠iQ k) then 5 else 0) else jr k t n nm:=by
 unfold zu jr
 split
 ·simp
 ·split
  ·simp
  ·split
   ·simp
   ·split<;>simp
theorem yE {k:Int} {t:aj} {n:Int} {nm:aj} {kids:List aA} {e:Int} (h:jr k t n nm=e) (he:e≠0):kF (.mk k t n nm kids)=e:=by
 rw [kF,JU,h,if_neg he,if_neg he]
theorem SI {k:Int} {t:aj} {n:Int} {nm:aj} {kids:List aA} (h:jr k t n nm=0) (hc:(k=6∧8<kids.length)∨(k≠6∧(kids.length:Int)≠iQ k)):kF (.mk k t n nm kids)=5:=by
 rw [kF,JU,if_pos h,if_pos hc];rfl
theorem SK {k:Int} {t:aj} {n:Int} {nm:aj} {kids:List aA} (h:jr k t n nm=0) (hc:¬((k=6∧8<kids.length)∨(k≠6∧(kids.length:Int)≠iQ k))):kF (.mk k t n nm kids)=pJ kids:=by
 rw [kF,JU,if_pos h,if_neg hc];rfl
section
variable {k n:Int} {t nm:aj}
theorem aa4 (h:k<1∨13<k):jr k t n nm=1:=by unfold jr;rw [if_pos h]
theorem aa5 (h:k=1) (hs:65536<t.size):jr k t n nm=4:=by unfold jr;rw [if_neg (by omega),if_pos ⟨h,hs⟩]
theorem ab9 (h:k=2) (hs:n<0):jr k t n nm=3:=by unfold jr;rw [if_neg (by omega),if_neg (by omega),if_pos ⟨h,hs⟩]
theorem aa6 (h:k=3∨k=4∨k=6) (hs:aS nm=false):jr k t n nm=7:=by unfold jr;rw [if_neg (by omega),if_neg (by omega),if_neg (by omega),if_pos ⟨h,hs⟩]
theorem aa7 (h:k=1) (hs:¬65536<t.size):jr k t n nm=0:=by unfold jr;rw [if_neg (by omega),if_neg (by omega),if_neg (by omega),if_neg (by omega)]
theorem acd (h:k=2) (hs:¬n<0):jr k t n nm=0:=by unfold jr;rw [if_neg (by omega),if_neg (by omega),if_neg (by omega),if_neg (by omega)]
theorem JV (h:k=3∨k=4∨k=6) (hs:aS nm=true):jr k t n nm=0:=by unfold jr;rw [if_neg (by omega),if_neg (by omega),if_neg (by omega),if_neg (by simp [hs])]
theorem ND (h:k=5∨(7≤k∧k≤13)):jr k t n nm=0:=by unfold jr;rw [if_neg (by omega),if_neg (by omega),if_neg (by omega),if_neg (by omega)]
theorem ace (h:(k==1)=true) (hs:(t.size:Int)≤65536):Value.int .i64 0=Value.int .i64 (iQ k)∧jr k t n nm=0:=by
 obtain rfl:k=1:=by simpa using h
 exact ⟨rfl,aa7 rfl (by omega)⟩
theorem m_num (h:(k==2)=true) (hs:0≤n):Value.int .i64 0=Value.int .i64 (iQ k)∧jr k t n nm=0:=by
 obtain rfl:k=2:=by simpa using h
 exact ⟨rfl,acd rfl (by omega)⟩
theorem m_3 (h:(k==3)=true) (hs:(!aS nm)=false):Value.int .i64 0=Value.int .i64 (iQ k)∧jr k t n nm=0:=by
 obtain rfl:k=3:=by simpa using h
 exact ⟨rfl,JV (.inl rfl) (by simpa using hs)⟩
theorem m_4 (h:(k==4)=true) (hs:(!aS nm)=false):Value.int .i64 1=Value.int .i64 (iQ k)∧jr k t n nm=0:=by
 obtain rfl:k=4:=by simpa using h
 exact ⟨rfl,JV (.inr (.inl rfl)) (by simpa using hs)⟩
theorem m_6 (h:(k==6)=true) (hs:(!aS nm)=false):Value.int .i64 0=Value.int .i64 (iQ k)∧jr k t n nm=0:=by
 obtain rfl:k=6:=by simpa using h
 exact ⟨rfl,JV (.inr (.inr rfl)) (by simpa using hs)⟩
theorem aaq (h:(k==5)=true∨(k==7)=true):Value.int .i64 1=Value.int .i64 (iQ k)∧jr k t n nm=0:=by
 simp only [beq_iff_eq] at h
 rcases h with rfl|rfl<;>exact ⟨rfl,ND (by omega)⟩
theorem Fh (h:(k==8)=true∨(k==9)=true∨(k==10)=true∨(k==11)=true∨(k==12)=true∨(k==13)=true):Value.int .i64 2=Value.int .i64 (iQ k)∧jr k t n nm=0:=by
 simp only [beq_iff_eq] at h
 rcases h with rfl|rfl|rfl|rfl|rfl|rfl<;>exact ⟨rfl,ND (by omega)⟩
theorem acf (kids:List aA) (h:(k==1)=true) (hs:65536<(t.size:Int)):4=kF (.mk k t n nm kids):=(yE (aa5 (by simpa using h) (by omega)) (by decide)).symm
theorem aed (kids:List aA) (h:(k==2)=true) (hs:n<0):3=kF (.mk k t n nm kids):=(yE (ab9 (by simpa using h) hs) (by decide)).symm
theorem NG (kids:List aA) (h:(k==3)=true∨(k==4)=true∨(k==6)=true) (hs:(!aS nm)=true):7=kF (.mk k t n nm kids):=by
 simp only [beq_iff_eq] at h
 exact (yE (aa6 h (by simpa using hs)) (by decide)).symm
end
theorem Vp:∀(m:Nat) (p:aA) (b o:Nat) (S:Nat→Prop) (w:World),sizeT p≤m→dL w S b o p→
  Calls Tryz.prog 60 #[.pointer (some ⟨b,o,none⟩)] w fun e w'=>e=.returned (.int .i64 (kF p))∧w=w':=by
 intro m
 induction m with
 | zero=>intro p b o S w hm;have:=mF p;omega
 | succ m ih =>
 intro p b o S w hm hp
 obtain ⟨k,t,n,nm,kids⟩:=p
 unfold dL at hp
 obtain ⟨_,⟨ht,hn0,hk⟩,h0,h1,h2,h3,ka,cap,h4,hks⟩:=hp
 have hn:nm.size≤maxLen:=by unfold maxLen;omega
 have HK:=ah hks;clear hks
 have hih:∀(j:Nat) (hj:j<kids.length) (b o:Nat) (w:World),dL w S b o kids[j]→Calls Tryz.prog 60 #[.pointer (some ⟨b,o,none⟩)] w fun e w'=>e=.returned (.int .i64 (kF kids[j]))∧w=w' :=
  fun j hj b o w h=>ih kids[j] b o S w (by have:=nI kids j hj;simp only [sizeT] at hm;omega) h
 have HIH:=ah hih;clear hih ih hm
 by_cases hk0:k<1∨13<k
 ·have hr:=yE (kids:=kids) (aa4 (t:=t) (n:=n) (nm:=nm) hk0) (by decide)
  have HR:=ah hr
  have e1:(k==1)=false:=by simp;omega
  have e2:(k==2)=false:=by simp;omega
  have e3:(k==3)=false:=by simp;omega
  have e4:(k==4)=false:=by simp;omega
  have e5:(k==5)=false:=by simp;omega
  have e6:(k==6)=false:=by simp;omega
  have e7:(k==7)=false:=by simp;omega
  have e8:(k==8)=false:=by simp;omega
  have e9:(k==9)=false:=by simp;omega
  have e10:(k==10)=false:=by simp;omega
  have e11:(k==11)=false:=by simp;omega
  have e12:(k==12)=false:=by simp;omega
  have e13:(k==13)=false:=by simp;omega
  clear hr hk0 h1 h2 h3 h4
  go_enter Tryz.func60, Tryz.ntmps60
  go_wp2_with fail
  go_ret
  exact ⟨by rw [HR.out];try rfl,rfl⟩
 go_enter Tryz.func60, Tryz.ntmps60
 go_upto_block 0 with fail
 go_cut [3] (fun l w'=>w=w'∧l=.int .i64 (iQ k)∧jr k t n nm=0)
 case first =>
  go_wp2_with (go_at_call 26;refine (uY _ _ hn).mono ?_;rintro e w' ⟨rfl,rfl⟩)
  all_goals
   first
    | (go_meet;go_light;refine ⟨rfl,?_⟩;first
      | exact ace ‹(k==1)=true› ‹_›
      | exact m_num ‹(k==2)=true› ‹_›
      | exact m_3 ‹(k==3)=true› ‹_›
      | exact m_4 ‹(k==4)=true› ‹_›
      | exact m_6 ‹(k==6)=true› ‹_›
      | exact aaq (.inl ‹(k==5)=true›)
      | exact aaq (.inr ‹(k==7)=true›)
      | exact Fh (.inl ‹(k==8)=true›)
      | exact Fh (.inr (.inl ‹(k==9)=true›))
      | exact Fh (.inr (.inr (.inl ‹(k==10)=true›)))
      | exact Fh (.inr (.inr (.inr (.inl ‹(k==11)=true›))))
      | exact Fh (.inr (.inr (.inr (.inr (.inl ‹(k==12)=true›)))))
      | exact Fh (.inr (.inr (.inr (.inr (.inr ‹(k==13)=true›))))))
    | (go_ret;go_light;refine ⟨Bv ?_,rfl⟩;first
      | exact acf kids ‹(k==1)=true› ‹_›
      | exact aed kids ‹(k==2)=true› ‹_›
      | exact NG kids (.inl ‹(k==3)=true›) ‹_›
      | exact NG kids (.inr (.inl ‹(k==4)=true›)) ‹_›
      | exact NG kids (.inr (.inr ‹(k==6)=true›)) ‹_›)
 case rest =>
  obtain ⟨rfl,rfl,hc⟩:=hcut
  have hx:iQ k≤2∧0≤iQ k:=by unfold iQ;split<;>(try split)<;>omega
  by_cases h5:(k=6∧8<kids.length)∨(k≠6∧(kids.length:Int)≠iQ k)
  ·have hr:=SI hc h5
   have HR:=ah hr
   clear hr hc
   rcases h5 with ⟨a,c⟩|⟨a,c⟩
   ·have e1:(k==6)=true:=by simpa using a
    have e2:decide ((8:Int)<(kids.length:Int))=true:=ak (by omega)
    clear a c
    go_wp2_with fail
    go_ret
    exact ⟨by rw [HR.out];try rfl,rfl⟩
   ·have e1:(k==6)=false:=by simpa using a
    have e2:(k != 6)=true:=by simpa using a
    have e3:((kids.length:Int) != iQ k)=true:=by simpa using c
    clear a c
    go_wp2_with fail
    go_ret
    exact ⟨by rw [HR.out];try rfl,rfl⟩
  ·have hr:=SK hc h5
   have HR:=ah hr
   have hz:(k=6∧((k==6)=true)∧(k != 6)=false∧decide ((8:Int)<(kids.length:Int))=false)∨(k≠6∧((k==6)=false)∧(k != 6)=true∧((kids.length:Int) != iQ k)=false):=by
    by_cases h6:k=6
    ·exact .inl ⟨h6,by simpa using h6,by simpa using h6,au (by omega)⟩
    ·exact .inr ⟨h6,by simpa using h6,by simpa using h6,by simp;omega⟩
   clear hr hc h5 h1 h2 h3
   rcases hz with ⟨rfl,e1,e2,e3⟩|⟨_,e1,e2,e3⟩
   all_goals
    go_wp2_with fail
    go_loop [84] (fun i=>∃j:Nat,j≤kids.length∧i=.int .i64 j∧Hid (pJ kids=pJ (kids.drop j))) (fun i=>kids.length-(intOf i).toNat)
    case atStart=>exact ⟨0,Nat.zero_le _,rfl,by unfold Hid;rw [List.drop_zero]⟩
    case round =>
     obtain ⟨j,hj,rfl,hno⟩:=hrel
     by_cases hlt:j<kids.length
     ·obtain ⟨b1,o1,rfl⟩:=iJ HK.out (by omega)
      have hP:=ah (iO kids b1 o1 j hlt HK.out)
      have hd:=Qs kids j hlt
      by_cases hz:kF kids[j]=0
      ·rw [if_pos hz] at hd
       have step:=ah (hno.out.trans hd)
       have hb:(kF kids[j] != 0)=false:=by simpa using hz
       clear hd hz
       go_wp2_with (go_at_call 60;refine (HIH.out j hlt _ _ _ hP.out).mono ?_;rintro e w' ⟨rfl,rfl⟩)
       go_round
       case rel=>exact ⟨j+1,by omega,by go_num,step⟩
       case measure=>simp [intOf];omega
      ·rw [if_neg hz] at hd
       have fin:=ah (HR.out.trans (hno.out.trans hd))
       have hb:(kF kids[j] != 0)=true:=by simpa using hz
       clear hd hz
       go_wp2_with (go_at_call 60;refine (HIH.out j hlt _ _ _ hP.out).mono ?_;rintro e w' ⟨rfl,rfl⟩)
       go_ret
       exact ⟨by rw [fin.out];try rfl,rfl⟩
     ·obtain rfl:j=kids.length:=by omega
      have fin:=ah (HR.out.trans (hno.out.trans (show pJ (kids.drop kids.length)=0 by rw [List.drop_length,pJ])))
      go_wp2_with fail
      go_ret
      exact ⟨by rw [fin.out];try rfl,rfl⟩
end Go.Proofs.YtefjbnhpjdhjmaaGreatDoor
