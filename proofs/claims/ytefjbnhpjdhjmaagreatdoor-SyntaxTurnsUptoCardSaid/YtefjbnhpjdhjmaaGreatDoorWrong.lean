/-  -/
import Derived.Test.YtefjbnhpjdhjmaaGreatDoorSize
import Derived.Test.YtefjbnhpjdhjmaaGreatDoorNamed
namespace Go.Proofs.YtefjbnhpjdhjmaaGreatDoor
set_option linter.all false
open Go.RowKit
set_option maxRecDepth 100000
set_option maxHeartbeats 4000000
def aT (k:Int):Prop:=3≤k∧k≤7
def bD (k:Int):Prop:=k=2∨(8≤k∧k≤11)
def bf (k:Int):Prop:=21≤k∧k≤24
instance (k:Int):Decidable (aT k):=by unfold aT;exact inferInstance
instance (k:Int):Decidable (bD k):=by unfold bD;exact inferInstance
instance (k:Int):Decidable (bf k):=by unfold bf;exact inferInstance
def ig (k:Int):Nat:=if k=18∨k=19 then 2 else if 20≤k∧k≤22 then 1 else 0
def jE (k:Int):Nat:=if k=18∨k=19 then 4096 else if 20≤k∧k≤22 then 1 else 0
def dH (p:aA):Int :=
 if p.kind<1∨24<p.kind then 1
 else if (p.kind=1∨aT p.kind)∧65536<p.text.size then 4
 else if aT p.kind∧p.text.size=0 then 8
 else if bD p.kind∧(p.n<0∨65536<p.n) then 3
 else if bf p.kind∧aS p.name=false then 7
 else if p.kids.length<ig p.kind∨jE p.kind<p.kids.length then 5 else 0
section
variable {k n:Int} {t nm:aj} {kids:List aA}
theorem Ii:dH (.mk 1 t n nm kids)=if 65536<t.size then 4 else if kids.length<ig 1∨jE 1<kids.length then 5 else 0:=by
 have b:¬aT 1:=by decide
 have c:¬bf 1:=by decide
 have d:¬bD 1:=by decide
 have a:¬((1:Int)<1∨24<(1:Int)):=by omega
 simp only [dH,aA.aZ,aA.aX,aA.eG,aA.aY,aA.aV,a,b,c,d,if_false,true_and,true_or,false_and]
 rfl
theorem AP (h:aT k):dH (.mk k t n nm kids)=if 65536<t.size then 4 else if t.size=0 then 8 else if kids.length<ig k∨jE k<kids.length then 5 else 0:=by
 have h':=h;unfold aT at h'
 have a:¬(k<1∨24<k):=by omega
 have b:¬bD k:=by unfold bD;omega
 have c:¬bf k:=by unfold bf;omega
 simp only [dH,aA.aZ,aA.aX,aA.eG,aA.aY,aA.aV,a,b,c,h,if_false,true_and,or_true,false_and]
 rfl
theorem Ih (h:bD k):dH (.mk k t n nm kids)=if n<0∨65536<n then 3 else if kids.length<ig k∨jE k<kids.length then 5 else 0:=by
 have h':=h;unfold bD at h'
 have a:¬(k<1∨24<k):=by omega
 have b:¬aT k:=by unfold aT;omega
 have c:¬bf k:=by unfold bf;omega
 have d:¬k=1:=by omega
 simp only [dH,aA.aZ,aA.aX,aA.eG,aA.aY,aA.aV,a,b,c,d,h,if_false,true_and,or_false,false_and]
 rfl
theorem sW (h:bf k):dH (.mk k t n nm kids)=if aS nm=false then 7 else if kids.length<ig k∨jE k<kids.length then 5 else 0:=by
 have h':=h;unfold bf at h'
 have a:¬(k<1∨24<k):=by omega
 have b:¬aT k:=by unfold aT;omega
 have c:¬bD k:=by unfold bD;omega
 have d:¬k=1:=by omega
 simp only [dH,aA.aZ,aA.aX,aA.eG,aA.aY,aA.aV,a,b,c,d,h,if_false,true_and,or_false,false_and]
 rfl
theorem tZ (h:12≤k∧k≤20):dH (.mk k t n nm kids)=if kids.length<ig k∨jE k<kids.length then 5 else 0:=by
 have a:¬(k<1∨24<k):=by omega
 have b:¬aT k:=by unfold aT;omega
 have c:¬bD k:=by unfold bD;omega
 have c':¬bf k:=by unfold bf;omega
 have d:¬k=1:=by omega
 simp only [dH,aA.aZ,aA.aX,aA.eG,aA.aY,aA.aV,a,b,c,c',d,if_false,or_false,false_and]
 rfl
def Tail (k:Int) (kids:List aA) (r:Int):Prop:=r=if kids.length<ig k∨jE k<kids.length then 5 else 0
def wP (k:Int) (t:aj) (n:Int) (nm:aj) (kids:List aA) (l m:Value):Prop :=
 l=.int .i64 (ig k)∧m=.int .i64 (jE k)∧Tail k kids (dH (.mk k t n nm kids))
theorem ad9 {b:Bool} (h:(!b)=true):b=false:=by simpa using h
theorem Ya {b:Bool} (h:(!b)=false):b=true:=by simpa using h
theorem text_of {k:Int} (h:(k==3)=true∨(k==4)=true∨(k==5)=true∨(k==6)=true∨(k==7)=true):aT k:=by
 simp only [beq_iff_eq] at h;unfold aT;omega
theorem Yb {k:Int} (h:(k==2)=true∨(k==8)=true∨(k==9)=true∨(k==10)=true∨(k==11)=true):bD k:=by
 simp only [beq_iff_eq] at h;unfold bD;omega
theorem abY {k:Int} (h:(k==21)=true∨(k==22)=true∨(k==23)=true∨(k==24)=true):bf k:=by
 simp only [beq_iff_eq] at h;unfold bf;omega
variable {k n:Int} {t nm:aj} {kids:List aA}
theorem aey (h:(k==1)=true) (h1:65536<(t.size:Int)):dH (.mk k t n nm kids)=4:=by
 obtain rfl:k=1:=by simpa using h
 rw [Ii,if_pos (by omega)]
theorem aez (h:(k==1)=true) (h1:(t.size:Int)≤65536):wP k t n nm kids (.int .i64 0) (.int .i64 0):=by
 obtain rfl:k=1:=by simpa using h
 refine ⟨rfl,rfl,?_⟩;unfold Tail;rw [Ii,if_neg (by omega)]
theorem abZ (h:aT k) (h1:65536<(t.size:Int)):dH (.mk k t n nm kids)=4:=by rw [AP h,if_pos (by omega)]
theorem ab1 (h:aT k) (h1:(t.size:Int)≤65536) (h2:t.toList.isEmpty=true):dH (.mk k t n nm kids)=8:=by rw [AP h,if_neg (by omega),if_pos (nK.1 h2)]
theorem U4 (h:k<18∨22<k):ig k=0∧jE k=0:=by
 have a:¬(k=18∨k=19):=by omega
 have b:¬(20≤k∧k≤22):=by omega
 simp [ig,jE,a,b]
theorem U5 (h:k<18∨22<k) (h1:Tail k kids (dH (.mk k t n nm kids))):wP k t n nm kids (.int .i64 0) (.int .i64 0):=by
 obtain ⟨a,b⟩:=U4 h;unfold wP;rw [a,b];exact ⟨rfl,rfl,h1⟩
theorem aea (h:aT k) (h1:(t.size:Int)≤65536) (h2:t.toList.isEmpty=false):wP k t n nm kids (.int .i64 0) (.int .i64 0):=by
 refine U5 (by unfold aT at h;omega) ?_;unfold Tail;rw [AP h,if_neg (by omega),if_neg (by have:=jW.1 h2;omega)]
theorem aeA (h:bD k) (h1:n<0∨65536<n):dH (.mk k t n nm kids)=3:=by rw [Ih h,if_pos h1]
theorem aeB (h:bD k) (h1:0≤n∧n≤65536):wP k t n nm kids (.int .i64 0) (.int .i64 0):=by
 refine U5 (by unfold bD at h;omega) ?_;unfold Tail;rw [Ih h,if_neg (by omega)]
theorem aeb (h:bf k) (h1:aS nm=false):dH (.mk k t n nm kids)=7:=by rw [sW h,if_pos h1]
theorem ab2 (h:(k==23)=true∨(k==24)=true) (h1:aS nm=true):wP k t n nm kids (.int .i64 0) (.int .i64 0):=by
 simp only [beq_iff_eq] at h
 refine U5 (by omega) ?_;unfold Tail;rw [sW (by unfold bf;omega),if_neg (by simp [h1])]
theorem ab3 (h:(k==21)=true∨(k==22)=true) (h1:aS nm=true):wP k t n nm kids (.int .i64 1) (.int .i64 1):=by
 simp only [beq_iff_eq] at h
 have a:ig k=1:=by unfold ig;rw [if_neg (by omega),if_pos (by omega)]
 have b:jE k=1:=by unfold jE;rw [if_neg (by omega),if_pos (by omega)]
 unfold wP;rw [a,b];refine ⟨rfl,rfl,?_⟩;unfold Tail;rw [sW (by unfold bf;omega),if_neg (by simp [h1])]
theorem aeC (h:(k==18)=true∨(k==19)=true):wP k t n nm kids (.int .i64 2) (.int .i64 4096):=by
 simp only [beq_iff_eq] at h
 have a:ig k=2:=by unfold ig;rw [if_pos (by omega)]
 have b:jE k=4096:=by unfold jE;rw [if_pos (by omega)]
 unfold wP;rw [a,b];exact ⟨rfl,rfl,tZ (by omega)⟩
theorem ab4 (h:(k==20)=true):wP k t n nm kids (.int .i64 1) (.int .i64 1):=by
 simp only [beq_iff_eq] at h;subst h;exact ⟨rfl,rfl,tZ (by omega)⟩
theorem ab5 (h:12≤k∧k≤17):wP k t n nm kids (.int .i64 0) (.int .i64 0):=U5 (by omega) (tZ (by omega))
theorem afA {l m:Value} (h:wP k t n nm kids l m):∃a b:Nat,l=.int .i64 a∧m=.int .i64 b∧dH (.mk k t n nm kids)=if (kids.length:Int)<a∨(b:Int)<kids.length then 5 else 0:=by
 obtain ⟨rfl,rfl,h⟩:=h
 refine ⟨_,_,rfl,rfl,?_⟩
 unfold Tail at h;rw [h]
 by_cases hc:kids.length<ig k∨jE k<kids.length
 ·rw [if_pos hc,if_pos (by omega)]
 ·rw [if_neg hc,if_neg (by omega)]
end
theorem Yc (p:aA) (b o:Nat) (S:Nat→Prop) (w:World) (hp:dL w S b o p) :
  Calls Tryz.prog 64 #[.pointer (some ⟨b,o,none⟩)] w fun e w'=>e=.returned (.int .i64 (dH p))∧w=w':=by
 obtain ⟨k,t,n,nm,kids⟩:=p
 unfold dL at hp
 obtain ⟨_,⟨ht,hn0,hk⟩,h0,h1,h2,h3,ka,cap,h4,hks⟩:=hp
 clear hks
 have hn:nm.size≤maxLen:=by unfold maxLen;omega
 by_cases hk0:k<1
 ·go_enter Tryz.func64, Tryz.ntmps64
  go_wp2_with fail
  go_ret
  exact ⟨by simp [dH,hk0],rfl⟩
 by_cases hk1:24<k
 ·go_enter Tryz.func64, Tryz.ntmps64
  go_wp2_with fail
  go_ret
  exact ⟨by simp [dH,hk1],rfl⟩
 go_enter Tryz.func64, Tryz.ntmps64
 go_upto_block 0 with fail
 go_cut [3,4] (fun l m w'=>w=w'∧wP k t n nm kids l m)
 case first =>
  go_wp2_with (go_at_call 26;refine (uY _ _ hn).mono ?_;rintro e w' ⟨rfl,rfl⟩)
  all_goals
   first
    | (go_meet;go_light;refine ⟨rfl,?_⟩;first
      | exact aez ‹_› ‹_›
      | exact aea (text_of (by first|exact .inl ‹_› | exact .inr (.inl ‹_›)|exact .inr (.inr (.inl ‹_›))|exact .inr (.inr (.inr (.inl ‹_›)))|exact .inr (.inr (.inr (.inr ‹_›))))) ‹_› ‹_›
      | exact aeB (Yb (by first|exact .inl ‹_› | exact .inr (.inl ‹_›)|exact .inr (.inr (.inl ‹_›))|exact .inr (.inr (.inr (.inl ‹_›)))|exact .inr (.inr (.inr (.inr ‹_›))))) (by omega)
      | exact ab3 (by first|exact .inl ‹_› | exact .inr ‹_›) (by first|assumption|exact Ya ‹_›)
      | exact ab2 (by first|exact .inl ‹_› | exact .inr ‹_›) (by first|assumption|exact Ya ‹_›)
      | exact aeC (by first|exact .inl ‹_› | exact .inr ‹_›)
      | exact ab4 ‹_›
      | exact ab5 (by simp only [beq_eq_false_iff_ne] at *;omega))
    | (go_ret;go_light;refine ⟨Bv (Eq.symm ?_),rfl⟩;first
      | exact aey ‹_› ‹_›
      | exact abZ (text_of (by first|exact .inl ‹_› | exact .inr (.inl ‹_›)|exact .inr (.inr (.inl ‹_›))|exact .inr (.inr (.inr (.inl ‹_›)))|exact .inr (.inr (.inr (.inr ‹_›))))) ‹_›
      | exact ab1 (text_of (by first|exact .inl ‹_› | exact .inr (.inl ‹_›)|exact .inr (.inr (.inl ‹_›))|exact .inr (.inr (.inr (.inl ‹_›)))|exact .inr (.inr (.inr (.inr ‹_›))))) ‹_› ‹_›
      | exact aeA (Yb (by first|exact .inl ‹_› | exact .inr (.inl ‹_›)|exact .inr (.inr (.inl ‹_›))|exact .inr (.inr (.inr (.inl ‹_›)))|exact .inr (.inr (.inr (.inr ‹_›))))) (by omega)
      | exact aeb (abY (by first|exact .inl ‹_› | exact .inr (.inl ‹_›)|exact .inr (.inr (.inl ‹_›))|exact .inr (.inr (.inr ‹_›)))) (by first|assumption|exact ad9 ‹_›))
 case rest =>
  obtain ⟨rfl,hc⟩:=hcut
  obtain ⟨a,b,rfl,rfl,he⟩:=afA hc
  have He:=ah he;clear he hc
  go_wp2_with fail
  all_goals
   go_ret
   refine ⟨Bv (Eq.symm ?_),rfl⟩
   rw [He.out]
   first|rw [if_pos (by omega)]|rw [if_neg (by omega)]
end Go.Proofs.YtefjbnhpjdhjmaaGreatDoor
