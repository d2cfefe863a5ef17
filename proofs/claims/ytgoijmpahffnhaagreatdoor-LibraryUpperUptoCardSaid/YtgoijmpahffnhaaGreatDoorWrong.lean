/-  -/
import Derived.Test.YtgoijmpahffnhaaGreatDoorLq4
import Derived.Test.YtgoijmpahffnhaaGreatDoorNamed
namespace Go.Proofs.YtgoijmpahffnhaaGreatDoor
set_option linter.all false
open Go.RowKit
set_option maxRecDepth 100000
set_option maxHeartbeats 4000000
def iq (k:Int):Prop:=3≤k∧k≤7
def jA (k:Int):Prop:=k=2∨(8≤k∧k≤11)
def iT (k:Int):Prop:=21≤k∧k≤24
instance (k:Int):Decidable (iq k):=by unfold iq;exact inferInstance
instance (k:Int):Decidable (jA k):=by unfold jA;exact inferInstance
instance (k:Int):Decidable (iT k):=by unfold iT;exact inferInstance
def kU (k:Int):Nat:=if k=18∨k=19 then 2 else if 20≤k∧k≤22 then 1 else 0
def oK (k:Int):Nat:=if k=18∨k=19 then 4096 else if 20≤k∧k≤22 then 1 else 0
def iU (p:aB):Int :=
 if p.kind<1∨24<p.kind then 1
 else if (p.kind=1∨iq p.kind)∧65536<p.text.size then 4
 else if iq p.kind∧p.text.size=0 then 8
 else if jA p.kind∧(p.n<0∨65536<p.n) then 3
 else if iT p.kind∧fV p.name=false then 7
 else if p.kids.length<kU p.kind∨oK p.kind<p.kids.length then 5 else 0
section
variable {k n:Int} {t nm:aj} {kids:List aB}
theorem QI:iU (.mk 1 t n nm kids)=if 65536<t.size then 4 else if kids.length<kU 1∨oK 1<kids.length then 5 else 0:=by
 have b:¬iq 1:=by decide
 have c:¬iT 1:=by decide
 have d:¬jA 1:=by decide
 have a:¬((1:Int)<1∨24<(1:Int)):=by omega
 simp only [iU,aB.zS,aB.zT,aB.Nq,aB.zU,aB.zV,a,b,c,d,if_false,true_and,true_or,false_and]
 rfl
theorem ED (h:iq k):iU (.mk k t n nm kids)=if 65536<t.size then 4 else if t.size=0 then 8 else if kids.length<kU k∨oK k<kids.length then 5 else 0:=by
 have h':=h;unfold iq at h'
 have a:¬(k<1∨24<k):=by omega
 have b:¬jA k:=by unfold jA;omega
 have c:¬iT k:=by unfold iT;omega
 simp only [iU,aB.zS,aB.zT,aB.Nq,aB.zU,aB.zV,a,b,c,h,if_false,true_and,or_true,false_and]
 rfl
theorem QJ (h:jA k):iU (.mk k t n nm kids)=if n<0∨65536<n then 3 else if kids.length<kU k∨oK k<kids.length then 5 else 0:=by
 have h':=h;unfold jA at h'
 have a:¬(k<1∨24<k):=by omega
 have b:¬iq k:=by unfold iq;omega
 have c:¬iT k:=by unfold iT;omega
 have d:¬k=1:=by omega
 simp only [iU,aB.zS,aB.zT,aB.Nq,aB.zU,aB.zV,a,b,c,d,h,if_false,true_and,or_false,false_and]
 rfl
theorem EG (h:iT k):iU (.mk k t n nm kids)=if fV nm=false then 7 else if kids.length<kU k∨oK k<kids.length then 5 else 0:=by
 have h':=h;unfold iT at h'
 have a:¬(k<1∨24<k):=by omega
 have b:¬iq k:=by unfold iq;omega
 have c:¬jA k:=by unfold jA;omega
 have d:¬k=1:=by omega
 simp only [iU,aB.zS,aB.zT,aB.Nq,aB.zU,aB.zV,a,b,c,d,h,if_false,true_and,or_false,false_and]
 rfl
theorem CQ (h:12≤k∧k≤20):iU (.mk k t n nm kids)=if kids.length<kU k∨oK k<kids.length then 5 else 0:=by
 have a:¬(k<1∨24<k):=by omega
 have b:¬iq k:=by unfold iq;omega
 have c:¬jA k:=by unfold jA;omega
 have c':¬iT k:=by unfold iT;omega
 have d:¬k=1:=by omega
 simp only [iU,aB.zS,aB.zT,aB.Nq,aB.zU,aB.zV,a,b,c,c',d,if_false,or_false,false_and]
 rfl
def Tail (k:Int) (kids:List aB) (r:Int):Prop:=r=if kids.length<kU k∨oK k<kids.length then 5 else 0
def uT (k:Int) (t:aj) (n:Int) (nm:aj) (kids:List aB) (l m:Value):Prop :=
 l=.int .i64 (kU k)∧m=.int .i64 (oK k)∧Tail k kids (iU (.mk k t n nm kids))
theorem ahW {b:Bool} (h:(!b)=true):b=false:=by simpa using h
theorem aa4 {b:Bool} (h:(!b)=false):b=true:=by simpa using h
theorem text_of {k:Int} (h:(k==3)=true∨(k==4)=true∨(k==5)=true∨(k==6)=true∨(k==7)=true):iq k:=by
 simp only [beq_iff_eq] at h;unfold iq;omega
theorem aa5 {k:Int} (h:(k==2)=true∨(k==8)=true∨(k==9)=true∨(k==10)=true∨(k==11)=true):jA k:=by
 simp only [beq_iff_eq] at h;unfold jA;omega
theorem aft {k:Int} (h:(k==21)=true∨(k==22)=true∨(k==23)=true∨(k==24)=true):iT k:=by
 simp only [beq_iff_eq] at h;unfold iT;omega
variable {k n:Int} {t nm:aj} {kids:List aB}
theorem ait (h:(k==1)=true) (h1:65536<(t.size:Int)):iU (.mk k t n nm kids)=4:=by
 obtain rfl:k=1:=by simpa using h
 rw [QI,if_pos (by omega)]
theorem aiu (h:(k==1)=true) (h1:(t.size:Int)≤65536):uT k t n nm kids (.int .i64 0) (.int .i64 0):=by
 obtain rfl:k=1:=by simpa using h
 refine ⟨rfl,rfl,?_⟩;unfold Tail;rw [QI,if_neg (by omega)]
theorem afu (h:iq k) (h1:65536<(t.size:Int)):iU (.mk k t n nm kids)=4:=by rw [ED h,if_pos (by omega)]
theorem afv (h:iq k) (h1:(t.size:Int)≤65536) (h2:t.toList.isEmpty=true):iU (.mk k t n nm kids)=8:=by rw [ED h,if_neg (by omega),if_pos (qo.1 h2)]
theorem XH (h:k<18∨22<k):kU k=0∧oK k=0:=by
 have a:¬(k=18∨k=19):=by omega
 have b:¬(20≤k∧k≤22):=by omega
 simp [kU,oK,a,b]
theorem XI (h:k<18∨22<k) (h1:Tail k kids (iU (.mk k t n nm kids))):uT k t n nm kids (.int .i64 0) (.int .i64 0):=by
 obtain ⟨a,b⟩:=XH h;unfold uT;rw [a,b];exact ⟨rfl,rfl,h1⟩
theorem ahX (h:iq k) (h1:(t.size:Int)≤65536) (h2:t.toList.isEmpty=false):uT k t n nm kids (.int .i64 0) (.int .i64 0):=by
 refine XI (by unfold iq at h;omega) ?_;unfold Tail;rw [ED h,if_neg (by omega),if_neg (by have:=jJ.1 h2;omega)]
theorem aiv (h:jA k) (h1:n<0∨65536<n):iU (.mk k t n nm kids)=3:=by rw [QJ h,if_pos h1]
theorem aiw (h:jA k) (h1:0≤n∧n≤65536):uT k t n nm kids (.int .i64 0) (.int .i64 0):=by
 refine XI (by unfold jA at h;omega) ?_;unfold Tail;rw [QJ h,if_neg (by omega)]
theorem ahY (h:iT k) (h1:fV nm=false):iU (.mk k t n nm kids)=7:=by rw [EG h,if_pos h1]
theorem afw (h:(k==23)=true∨(k==24)=true) (h1:fV nm=true):uT k t n nm kids (.int .i64 0) (.int .i64 0):=by
 simp only [beq_iff_eq] at h
 refine XI (by omega) ?_;unfold Tail;rw [EG (by unfold iT;omega),if_neg (by simp [h1])]
theorem afx (h:(k==21)=true∨(k==22)=true) (h1:fV nm=true):uT k t n nm kids (.int .i64 1) (.int .i64 1):=by
 simp only [beq_iff_eq] at h
 have a:kU k=1:=by unfold kU;rw [if_neg (by omega),if_pos (by omega)]
 have b:oK k=1:=by unfold oK;rw [if_neg (by omega),if_pos (by omega)]
 unfold uT;rw [a,b];refine ⟨rfl,rfl,?_⟩;unfold Tail;rw [EG (by unfold iT;omega),if_neg (by simp [h1])]
theorem aix (h:(k==18)=true∨(k==19)=true):uT k t n nm kids (.int .i64 2) (.int .i64 4096):=by
 simp only [beq_iff_eq] at h
 have a:kU k=2:=by unfold kU;rw [if_pos (by omega)]
 have b:oK k=4096:=by unfold oK;rw [if_pos (by omega)]
 unfold uT;rw [a,b];exact ⟨rfl,rfl,CQ (by omega)⟩
theorem afy (h:(k==20)=true):uT k t n nm kids (.int .i64 1) (.int .i64 1):=by
 simp only [beq_iff_eq] at h;subst h;exact ⟨rfl,rfl,CQ (by omega)⟩
theorem afz (h:12≤k∧k≤17):uT k t n nm kids (.int .i64 0) (.int .i64 0):=XI (by omega) (CQ (by omega))
theorem akm {l m:Value} (h:uT k t n nm kids l m):∃a b:Nat,l=.int .i64 a∧m=.int .i64 b∧iU (.mk k t n nm kids)=if (kids.length:Int)<a∨(b:Int)<kids.length then 5 else 0:=by
 obtain ⟨rfl,rfl,h⟩:=h
 refine ⟨_,_,rfl,rfl,?_⟩
 unfold Tail at h;rw [h]
 by_cases hc:kids.length<kU k∨oK k<kids.length
 ·rw [if_pos hc,if_pos (by omega)]
 ·rw [if_neg hc,if_neg (by omega)]
end
theorem aa6 (p:aB) (b o:Nat) (S:Nat→Prop) (w:World) (hp:aX w S b o p) :
  Calls Tryz.prog 136 #[.pointer (some ⟨b,o,none⟩)] w fun e w'=>e=.returned (.int .i64 (iU p))∧w=w':=by
 obtain ⟨k,t,n,nm,kids⟩:=p
 unfold aX at hp
 obtain ⟨_,⟨ht,hn0,hk⟩,h0,h1,h2,h3,ka,cap,h4,hks⟩:=hp
 clear hks
 have hn:nm.size≤maxLen:=by unfold maxLen;omega
 by_cases hk0:k<1
 ·go_enter Tryz.func136, Tryz.ntmps136
  go_wp2_with fail
  go_ret
  exact ⟨by simp [iU,hk0],rfl⟩
 by_cases hk1:24<k
 ·go_enter Tryz.func136, Tryz.ntmps136
  go_wp2_with fail
  go_ret
  exact ⟨by simp [iU,hk1],rfl⟩
 go_enter Tryz.func136, Tryz.ntmps136
 go_upto_block 0 with fail
 go_cut [3,4] (fun l m w'=>w=w'∧uT k t n nm kids l m)
 case first =>
  go_wp2_with (go_at_call 93;refine (sD _ _ hn).mono ?_;rintro e w' ⟨rfl,rfl⟩)
  all_goals
   first
    | (go_meet;go_light;refine ⟨rfl,?_⟩;first
      | exact aiu ‹_› ‹_›
      | exact ahX (text_of (by first|exact .inl ‹_› | exact .inr (.inl ‹_›)|exact .inr (.inr (.inl ‹_›))|exact .inr (.inr (.inr (.inl ‹_›)))|exact .inr (.inr (.inr (.inr ‹_›))))) ‹_› ‹_›
      | exact aiw (aa5 (by first|exact .inl ‹_› | exact .inr (.inl ‹_›)|exact .inr (.inr (.inl ‹_›))|exact .inr (.inr (.inr (.inl ‹_›)))|exact .inr (.inr (.inr (.inr ‹_›))))) (by omega)
      | exact afx (by first|exact .inl ‹_› | exact .inr ‹_›) (by first|assumption|exact aa4 ‹_›)
      | exact afw (by first|exact .inl ‹_› | exact .inr ‹_›) (by first|assumption|exact aa4 ‹_›)
      | exact aix (by first|exact .inl ‹_› | exact .inr ‹_›)
      | exact afy ‹_›
      | exact afz (by simp only [beq_eq_false_iff_ne] at *;omega))
    | (go_ret;go_light;refine ⟨zQ (Eq.symm ?_),rfl⟩;first
      | exact ait ‹_› ‹_›
      | exact afu (text_of (by first|exact .inl ‹_› | exact .inr (.inl ‹_›)|exact .inr (.inr (.inl ‹_›))|exact .inr (.inr (.inr (.inl ‹_›)))|exact .inr (.inr (.inr (.inr ‹_›))))) ‹_›
      | exact afv (text_of (by first|exact .inl ‹_› | exact .inr (.inl ‹_›)|exact .inr (.inr (.inl ‹_›))|exact .inr (.inr (.inr (.inl ‹_›)))|exact .inr (.inr (.inr (.inr ‹_›))))) ‹_› ‹_›
      | exact aiv (aa5 (by first|exact .inl ‹_› | exact .inr (.inl ‹_›)|exact .inr (.inr (.inl ‹_›))|exact .inr (.inr (.inr (.inl ‹_›)))|exact .inr (.inr (.inr (.inr ‹_›))))) (by omega)
      | exact ahY (aft (by first|exact .inl ‹_› | exact .inr (.inl ‹_›)|exact .inr (.inr (.inl ‹_›))|exact .inr (.inr (.inr ‹_›)))) (by first|assumption|exact ahW ‹_›))
 case rest =>
  obtain ⟨rfl,hc⟩:=hcut
  obtain ⟨a,b,rfl,rfl,he⟩:=akm hc
  have He:=ah he;clear he hc
  go_wp2_with fail
  all_goals
   go_ret
   refine ⟨zQ (Eq.symm ?_),rfl⟩
   rw [He.out]
   first|rw [if_pos (by omega)]|rw [if_neg (by omega)]
end Go.Proofs.YtgoijmpahffnhaaGreatDoor
