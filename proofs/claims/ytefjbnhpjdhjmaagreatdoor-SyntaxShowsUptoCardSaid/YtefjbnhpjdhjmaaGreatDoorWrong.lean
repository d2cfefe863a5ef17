/-  -/
import Derived.Test.YtefjbnhpjdhjmaaGreatDoorTs1
import Derived.Test.YtefjbnhpjdhjmaaGreatDoorNamed
namespace Go.Proofs.YtefjbnhpjdhjmaaGreatDoor
set_option linter.all false
open Go.RowKit
set_option maxRecDepth 100000
set_option maxHeartbeats 4000000
def aT (k:Int):Prop:=3≤k∧k≤7
def bD (k:Int):Prop:=k=2∨(8≤k∧k≤11)
def bn (k:Int):Prop:=21≤k∧k≤24
instance (k:Int):Decidable (aT k):=by unfold aT;exact inferInstance
instance (k:Int):Decidable (bD k):=by unfold bD;exact inferInstance
instance (k:Int):Decidable (bn k):=by unfold bn;exact inferInstance
def jT (k:Int):Nat:=if k=18∨k=19 then 2 else if 20≤k∧k≤22 then 1 else 0
def mD (k:Int):Nat:=if k=18∨k=19 then 4096 else if 20≤k∧k≤22 then 1 else 0
def dS (p:aA):Int :=
 if p.kind<1∨24<p.kind then 1
 else if (p.kind=1∨aT p.kind)∧65536<p.text.size then 4
 else if aT p.kind∧p.text.size=0 then 8
 else if bD p.kind∧(p.n<0∨65536<p.n) then 3
 else if bn p.kind∧bF p.name=false then 7
 else if p.kids.length<jT p.kind∨mD p.kind<p.kids.length then 5 else 0
section
variable {k n:Int} {t nm:aj} {kids:List aA}
theorem PD:dS (.mk 1 t n nm kids)=if 65536<t.size then 4 else if kids.length<jT 1∨mD 1<kids.length then 5 else 0:=by
 have b:¬aT 1:=by decide
 have c:¬bn 1:=by decide
 have d:¬bD 1:=by decide
 have a:¬((1:Int)<1∨24<(1:Int)):=by omega
 simp only [dS,aA.aY,aA.aW,aA.dY,aA.aX,aA.aU,a,b,c,d,if_false,true_and,true_or,false_and]
 rfl
theorem EX (h:aT k):dS (.mk k t n nm kids)=if 65536<t.size then 4 else if t.size=0 then 8 else if kids.length<jT k∨mD k<kids.length then 5 else 0:=by
 have h':=h;unfold aT at h'
 have a:¬(k<1∨24<k):=by omega
 have b:¬bD k:=by unfold bD;omega
 have c:¬bn k:=by unfold bn;omega
 simp only [dS,aA.aY,aA.aW,aA.dY,aA.aX,aA.aU,a,b,c,h,if_false,true_and,or_true,false_and]
 rfl
theorem PE (h:bD k):dS (.mk k t n nm kids)=if n<0∨65536<n then 3 else if kids.length<jT k∨mD k<kids.length then 5 else 0:=by
 have h':=h;unfold bD at h'
 have a:¬(k<1∨24<k):=by omega
 have b:¬aT k:=by unfold aT;omega
 have c:¬bn k:=by unfold bn;omega
 have d:¬k=1:=by omega
 simp only [dS,aA.aY,aA.aW,aA.dY,aA.aX,aA.aU,a,b,c,d,h,if_false,true_and,or_false,false_and]
 rfl
theorem EY (h:bn k):dS (.mk k t n nm kids)=if bF nm=false then 7 else if kids.length<jT k∨mD k<kids.length then 5 else 0:=by
 have h':=h;unfold bn at h'
 have a:¬(k<1∨24<k):=by omega
 have b:¬aT k:=by unfold aT;omega
 have c:¬bD k:=by unfold bD;omega
 have d:¬k=1:=by omega
 simp only [dS,aA.aY,aA.aW,aA.dY,aA.aX,aA.aU,a,b,c,d,h,if_false,true_and,or_false,false_and]
 rfl
theorem Dq (h:12≤k∧k≤20):dS (.mk k t n nm kids)=if kids.length<jT k∨mD k<kids.length then 5 else 0:=by
 have a:¬(k<1∨24<k):=by omega
 have b:¬aT k:=by unfold aT;omega
 have c:¬bD k:=by unfold bD;omega
 have c':¬bn k:=by unfold bn;omega
 have d:¬k=1:=by omega
 simp only [dS,aA.aY,aA.aW,aA.dY,aA.aX,aA.aU,a,b,c,c',d,if_false,or_false,false_and]
 rfl
def Tail (k:Int) (kids:List aA) (r:Int):Prop:=r=if kids.length<jT k∨mD k<kids.length then 5 else 0
def wM (k:Int) (t:aj) (n:Int) (nm:aj) (kids:List aA) (l m:Value):Prop :=
 l=.int .i64 (jT k)∧m=.int .i64 (mD k)∧Tail k kids (dS (.mk k t n nm kids))
theorem adn {b:Bool} (h:(!b)=true):b=false:=by simpa using h
theorem Xr {b:Bool} (h:(!b)=false):b=true:=by simpa using h
theorem text_of {k:Int} (h:(k==3)=true∨(k==4)=true∨(k==5)=true∨(k==6)=true∨(k==7)=true):aT k:=by
 simp only [beq_iff_eq] at h;unfold aT;omega
theorem Xt {k:Int} (h:(k==2)=true∨(k==8)=true∨(k==9)=true∨(k==10)=true∨(k==11)=true):bD k:=by
 simp only [beq_iff_eq] at h;unfold bD;omega
theorem abd {k:Int} (h:(k==21)=true∨(k==22)=true∨(k==23)=true∨(k==24)=true):bn k:=by
 simp only [beq_iff_eq] at h;unfold bn;omega
variable {k n:Int} {t nm:aj} {kids:List aA}
theorem adK (h:(k==1)=true) (h1:65536<(t.size:Int)):dS (.mk k t n nm kids)=4:=by
 obtain rfl:k=1:=by simpa using h
 rw [PD,if_pos (by omega)]
theorem adL (h:(k==1)=true) (h1:(t.size:Int)≤65536):wM k t n nm kids (.int .i64 0) (.int .i64 0):=by
 obtain rfl:k=1:=by simpa using h
 refine ⟨rfl,rfl,?_⟩;unfold Tail;rw [PD,if_neg (by omega)]
theorem abe (h:aT k) (h1:65536<(t.size:Int)):dS (.mk k t n nm kids)=4:=by rw [EX h,if_pos (by omega)]
theorem abf (h:aT k) (h1:(t.size:Int)≤65536) (h2:t.toList.isEmpty=true):dS (.mk k t n nm kids)=8:=by rw [EX h,if_neg (by omega),if_pos (nC.1 h2)]
theorem Uf (h:k<18∨22<k):jT k=0∧mD k=0:=by
 have a:¬(k=18∨k=19):=by omega
 have b:¬(20≤k∧k≤22):=by omega
 simp [jT,mD,a,b]
theorem Ug (h:k<18∨22<k) (h1:Tail k kids (dS (.mk k t n nm kids))):wM k t n nm kids (.int .i64 0) (.int .i64 0):=by
 obtain ⟨a,b⟩:=Uf h;unfold wM;rw [a,b];exact ⟨rfl,rfl,h1⟩
theorem ado (h:aT k) (h1:(t.size:Int)≤65536) (h2:t.toList.isEmpty=false):wM k t n nm kids (.int .i64 0) (.int .i64 0):=by
 refine Ug (by unfold aT at h;omega) ?_;unfold Tail;rw [EX h,if_neg (by omega),if_neg (by have:=jV.1 h2;omega)]
theorem adM (h:bD k) (h1:n<0∨65536<n):dS (.mk k t n nm kids)=3:=by rw [PE h,if_pos h1]
theorem adN (h:bD k) (h1:0≤n∧n≤65536):wM k t n nm kids (.int .i64 0) (.int .i64 0):=by
 refine Ug (by unfold bD at h;omega) ?_;unfold Tail;rw [PE h,if_neg (by omega)]
theorem adp (h:bn k) (h1:bF nm=false):dS (.mk k t n nm kids)=7:=by rw [EY h,if_pos h1]
theorem abg (h:(k==23)=true∨(k==24)=true) (h1:bF nm=true):wM k t n nm kids (.int .i64 0) (.int .i64 0):=by
 simp only [beq_iff_eq] at h
 refine Ug (by omega) ?_;unfold Tail;rw [EY (by unfold bn;omega),if_neg (by simp [h1])]
theorem abh (h:(k==21)=true∨(k==22)=true) (h1:bF nm=true):wM k t n nm kids (.int .i64 1) (.int .i64 1):=by
 simp only [beq_iff_eq] at h
 have a:jT k=1:=by unfold jT;rw [if_neg (by omega),if_pos (by omega)]
 have b:mD k=1:=by unfold mD;rw [if_neg (by omega),if_pos (by omega)]
 unfold wM;rw [a,b];refine ⟨rfl,rfl,?_⟩;unfold Tail;rw [EY (by unfold bn;omega),if_neg (by simp [h1])]
theorem adO (h:(k==18)=true∨(k==19)=true):wM k t n nm kids (.int .i64 2) (.int .i64 4096):=by
 simp only [beq_iff_eq] at h
 have a:jT k=2:=by unfold jT;rw [if_pos (by omega)]
 have b:mD k=4096:=by unfold mD;rw [if_pos (by omega)]
 unfold wM;rw [a,b];exact ⟨rfl,rfl,Dq (by omega)⟩
theorem abj (h:(k==20)=true):wM k t n nm kids (.int .i64 1) (.int .i64 1):=by
 simp only [beq_iff_eq] at h;subst h;exact ⟨rfl,rfl,Dq (by omega)⟩
theorem abk (h:12≤k∧k≤17):wM k t n nm kids (.int .i64 0) (.int .i64 0):=Ug (by omega) (Dq (by omega))
theorem ae0 {l m:Value} (h:wM k t n nm kids l m):∃a b:Nat,l=.int .i64 a∧m=.int .i64 b∧dS (.mk k t n nm kids)=if (kids.length:Int)<a∨(b:Int)<kids.length then 5 else 0:=by
 obtain ⟨rfl,rfl,h⟩:=h
 refine ⟨_,_,rfl,rfl,?_⟩
 unfold Tail at h;rw [h]
 by_cases hc:kids.length<jT k∨mD k<kids.length
 ·rw [if_pos hc,if_pos (by omega)]
 ·rw [if_neg hc,if_neg (by omega)]
end
theorem Xu (p:aA) (b o:Nat) (S:Nat→Prop) (w:World) (hp:dH w S b o p) :
  Calls Tryz.prog 64 #[.pointer (some ⟨b,o,none⟩)] w fun e w'=>e=.returned (.int .i64 (dS p))∧w=w':=by
 obtain ⟨k,t,n,nm,kids⟩:=p
 unfold dH at hp
 obtain ⟨_,⟨ht,hn0,hk⟩,h0,h1,h2,h3,ka,cap,h4,hks⟩:=hp
 clear hks
 have hn:nm.size≤maxLen:=by unfold maxLen;omega
 by_cases hk0:k<1
 ·go_enter Tryz.func64, Tryz.ntmps64
  go_wp2_with fail
  go_ret
  exact ⟨by simp [dS,hk0],rfl⟩
 by_cases hk1:24<k
 ·go_enter Tryz.func64, Tryz.ntmps64
  go_wp2_with fail
  go_ret
  exact ⟨by simp [dS,hk1],rfl⟩
 go_enter Tryz.func64, Tryz.ntmps64
 go_upto_block 0 with fail
 go_cut [3,4] (fun l m w'=>w=w'∧wM k t n nm kids l m)
 case first =>
  go_wp2_with (go_at_call 26;refine (uU _ _ hn).mono ?_;rintro e w' ⟨rfl,rfl⟩)
  all_goals
   first
    | (go_meet;go_light;refine ⟨rfl,?_⟩;first
      | exact adL ‹_› ‹_›
      | exact ado (text_of (by first|exact .inl ‹_› | exact .inr (.inl ‹_›)|exact .inr (.inr (.inl ‹_›))|exact .inr (.inr (.inr (.inl ‹_›)))|exact .inr (.inr (.inr (.inr ‹_›))))) ‹_› ‹_›
      | exact adN (Xt (by first|exact .inl ‹_› | exact .inr (.inl ‹_›)|exact .inr (.inr (.inl ‹_›))|exact .inr (.inr (.inr (.inl ‹_›)))|exact .inr (.inr (.inr (.inr ‹_›))))) (by omega)
      | exact abh (by first|exact .inl ‹_› | exact .inr ‹_›) (by first|assumption|exact Xr ‹_›)
      | exact abg (by first|exact .inl ‹_› | exact .inr ‹_›) (by first|assumption|exact Xr ‹_›)
      | exact adO (by first|exact .inl ‹_› | exact .inr ‹_›)
      | exact abj ‹_›
      | exact abk (by simp only [beq_eq_false_iff_ne] at *;omega))
    | (go_ret;go_light;refine ⟨Bl (Eq.symm ?_),rfl⟩;first
      | exact adK ‹_› ‹_›
      | exact abe (text_of (by first|exact .inl ‹_› | exact .inr (.inl ‹_›)|exact .inr (.inr (.inl ‹_›))|exact .inr (.inr (.inr (.inl ‹_›)))|exact .inr (.inr (.inr (.inr ‹_›))))) ‹_›
      | exact abf (text_of (by first|exact .inl ‹_› | exact .inr (.inl ‹_›)|exact .inr (.inr (.inl ‹_›))|exact .inr (.inr (.inr (.inl ‹_›)))|exact .inr (.inr (.inr (.inr ‹_›))))) ‹_› ‹_›
      | exact adM (Xt (by first|exact .inl ‹_› | exact .inr (.inl ‹_›)|exact .inr (.inr (.inl ‹_›))|exact .inr (.inr (.inr (.inl ‹_›)))|exact .inr (.inr (.inr (.inr ‹_›))))) (by omega)
      | exact adp (abd (by first|exact .inl ‹_› | exact .inr (.inl ‹_›)|exact .inr (.inr (.inl ‹_›))|exact .inr (.inr (.inr ‹_›)))) (by first|assumption|exact adn ‹_›))
 case rest =>
  obtain ⟨rfl,hc⟩:=hcut
  obtain ⟨a,b,rfl,rfl,he⟩:=ae0 hc
  have He:=ah he;clear he hc
  go_wp2_with fail
  all_goals
   go_ret
   refine ⟨Bl (Eq.symm ?_),rfl⟩
   rw [He.out]
   first|rw [if_pos (by omega)]|rw [if_neg (by omega)]
end Go.Proofs.YtefjbnhpjdhjmaaGreatDoor
