/-  -/
import Derived.Test.YtodebjhalipefaaGreatDoorLq1
import Derived.Test.YtodebjhalipefaaGreatDoorNamed
namespace Go.Proofs.YtodebjhalipefaaGreatDoor
set_option linter.all false
open Go.RowKit
set_option maxRecDepth 100000
set_option maxHeartbeats 4000000
def gY (k:Int):Prop:=3≤k∧k≤7
def jv (k:Int):Prop:=k=2∨(8≤k∧k≤11)
def iQ (k:Int):Prop:=21≤k∧k≤24
instance (k:Int):Decidable (gY k):=by unfold gY;exact inferInstance
instance (k:Int):Decidable (jv k):=by unfold jv;exact inferInstance
instance (k:Int):Decidable (iQ k):=by unfold iQ;exact inferInstance
def kE (k:Int):Nat:=if k=18∨k=19 then 2 else if 20≤k∧k≤22 then 1 else 0
def nM (k:Int):Nat:=if k=18∨k=19 then 4096 else if 20≤k∧k≤22 then 1 else 0
def iR (p:aB):Int :=
 if p.kind<1∨24<p.kind then 1
 else if (p.kind=1∨gY p.kind)∧65536<p.text.size then 4
 else if gY p.kind∧p.text.size=0 then 8
 else if jv p.kind∧(p.n<0∨65536<p.n) then 3
 else if iQ p.kind∧fQ p.name=false then 7
 else if p.kids.length<kE p.kind∨nM p.kind<p.kids.length then 5 else 0
section
variable {k n:Int} {t nm:aj} {kids:List aB}
theorem Qi:iR (.mk 1 t n nm kids)=if 65536<t.size then 4 else if kids.length<kE 1∨nM 1<kids.length then 5 else 0:=by
 have b:¬gY 1:=by decide
 have c:¬iQ 1:=by decide
 have d:¬jv 1:=by decide
 have a:¬((1:Int)<1∨24<(1:Int)):=by omega
 simp only [iR,aB.y8,aB.y9,aB.MG,aB.zh,aB.zi,a,b,c,d,if_false,true_and,true_or,false_and]
 rfl
theorem DX (h:gY k):iR (.mk k t n nm kids)=if 65536<t.size then 4 else if t.size=0 then 8 else if kids.length<kE k∨nM k<kids.length then 5 else 0:=by
 have h':=h;unfold gY at h'
 have a:¬(k<1∨24<k):=by omega
 have b:¬jv k:=by unfold jv;omega
 have c:¬iQ k:=by unfold iQ;omega
 simp only [iR,aB.y8,aB.y9,aB.MG,aB.zh,aB.zi,a,b,c,h,if_false,true_and,or_true,false_and]
 rfl
theorem Qj (h:jv k):iR (.mk k t n nm kids)=if n<0∨65536<n then 3 else if kids.length<kE k∨nM k<kids.length then 5 else 0:=by
 have h':=h;unfold jv at h'
 have a:¬(k<1∨24<k):=by omega
 have b:¬gY k:=by unfold gY;omega
 have c:¬iQ k:=by unfold iQ;omega
 have d:¬k=1:=by omega
 simp only [iR,aB.y8,aB.y9,aB.MG,aB.zh,aB.zi,a,b,c,d,h,if_false,true_and,or_false,false_and]
 rfl
theorem DY (h:iQ k):iR (.mk k t n nm kids)=if fQ nm=false then 7 else if kids.length<kE k∨nM k<kids.length then 5 else 0:=by
 have h':=h;unfold iQ at h'
 have a:¬(k<1∨24<k):=by omega
 have b:¬gY k:=by unfold gY;omega
 have c:¬jv k:=by unfold jv;omega
 have d:¬k=1:=by omega
 simp only [iR,aB.y8,aB.y9,aB.MG,aB.zh,aB.zi,a,b,c,d,h,if_false,true_and,or_false,false_and]
 rfl
theorem Bj (h:12≤k∧k≤20):iR (.mk k t n nm kids)=if kids.length<kE k∨nM k<kids.length then 5 else 0:=by
 have a:¬(k<1∨24<k):=by omega
 have b:¬gY k:=by unfold gY;omega
 have c:¬jv k:=by unfold jv;omega
 have c':¬iQ k:=by unfold iQ;omega
 have d:¬k=1:=by omega
 simp only [iR,aB.y8,aB.y9,aB.MG,aB.zh,aB.zi,a,b,c,c',d,if_false,or_false,false_and]
 rfl
def Tail (k:Int) (kids:List aB) (r:Int):Prop:=r=if kids.length<kE k∨nM k<kids.length then 5 else 0
def ug (k:Int) (t:aj) (n:Int) (nm:aj) (kids:List aB) (l m:Value):Prop :=
 l=.int .i64 (kE k)∧m=.int .i64 (nM k)∧Tail k kids (iR (.mk k t n nm kids))
theorem agz {b:Bool} (h:(!b)=true):b=false:=by simpa using h
theorem Zx {b:Bool} (h:(!b)=false):b=true:=by simpa using h
theorem text_of {k:Int} (h:(k==3)=true∨(k==4)=true∨(k==5)=true∨(k==6)=true∨(k==7)=true):gY k:=by
 simp only [beq_iff_eq] at h;unfold gY;omega
theorem Zy {k:Int} (h:(k==2)=true∨(k==8)=true∨(k==9)=true∨(k==10)=true∨(k==11)=true):jv k:=by
 simp only [beq_iff_eq] at h;unfold jv;omega
theorem adS {k:Int} (h:(k==21)=true∨(k==22)=true∨(k==23)=true∨(k==24)=true):iQ k:=by
 simp only [beq_iff_eq] at h;unfold iQ;omega
variable {k n:Int} {t nm:aj} {kids:List aB}
theorem ag8 (h:(k==1)=true) (h1:65536<(t.size:Int)):iR (.mk k t n nm kids)=4:=by
 obtain rfl:k=1:=by simpa using h
 rw [Qi,if_pos (by omega)]
theorem ag9 (h:(k==1)=true) (h1:(t.size:Int)≤65536):ug k t n nm kids (.int .i64 0) (.int .i64 0):=by
 obtain rfl:k=1:=by simpa using h
 refine ⟨rfl,rfl,?_⟩;unfold Tail;rw [Qi,if_neg (by omega)]
theorem adT (h:gY k) (h1:65536<(t.size:Int)):iR (.mk k t n nm kids)=4:=by rw [DX h,if_pos (by omega)]
theorem adU (h:gY k) (h1:(t.size:Int)≤65536) (h2:t.toList.isEmpty=true):iR (.mk k t n nm kids)=8:=by rw [DX h,if_neg (by omega),if_pos (pI.1 h2)]
theorem VL (h:k<18∨22<k):kE k=0∧nM k=0:=by
 have a:¬(k=18∨k=19):=by omega
 have b:¬(20≤k∧k≤22):=by omega
 simp [kE,nM,a,b]
theorem VN (h:k<18∨22<k) (h1:Tail k kids (iR (.mk k t n nm kids))):ug k t n nm kids (.int .i64 0) (.int .i64 0):=by
 obtain ⟨a,b⟩:=VL h;unfold ug;rw [a,b];exact ⟨rfl,rfl,h1⟩
theorem agA (h:gY k) (h1:(t.size:Int)≤65536) (h2:t.toList.isEmpty=false):ug k t n nm kids (.int .i64 0) (.int .i64 0):=by
 refine VN (by unfold gY at h;omega) ?_;unfold Tail;rw [DX h,if_neg (by omega),if_neg (by have:=jD.1 h2;omega)]
theorem aha (h:jv k) (h1:n<0∨65536<n):iR (.mk k t n nm kids)=3:=by rw [Qj h,if_pos h1]
theorem ahb (h:jv k) (h1:0≤n∧n≤65536):ug k t n nm kids (.int .i64 0) (.int .i64 0):=by
 refine VN (by unfold jv at h;omega) ?_;unfold Tail;rw [Qj h,if_neg (by omega)]
theorem agB (h:iQ k) (h1:fQ nm=false):iR (.mk k t n nm kids)=7:=by rw [DY h,if_pos h1]
theorem adV (h:(k==23)=true∨(k==24)=true) (h1:fQ nm=true):ug k t n nm kids (.int .i64 0) (.int .i64 0):=by
 simp only [beq_iff_eq] at h
 refine VN (by omega) ?_;unfold Tail;rw [DY (by unfold iQ;omega),if_neg (by simp [h1])]
theorem adW (h:(k==21)=true∨(k==22)=true) (h1:fQ nm=true):ug k t n nm kids (.int .i64 1) (.int .i64 1):=by
 simp only [beq_iff_eq] at h
 have a:kE k=1:=by unfold kE;rw [if_neg (by omega),if_pos (by omega)]
 have b:nM k=1:=by unfold nM;rw [if_neg (by omega),if_pos (by omega)]
 unfold ug;rw [a,b];refine ⟨rfl,rfl,?_⟩;unfold Tail;rw [DY (by unfold iQ;omega),if_neg (by simp [h1])]
theorem ahc (h:(k==18)=true∨(k==19)=true):ug k t n nm kids (.int .i64 2) (.int .i64 4096):=by
 simp only [beq_iff_eq] at h
 have a:kE k=2:=by unfold kE;rw [if_pos (by omega)]
 have b:nM k=4096:=by unfold nM;rw [if_pos (by omega)]
 unfold ug;rw [a,b];exact ⟨rfl,rfl,Bj (by omega)⟩
theorem adX (h:(k==20)=true):ug k t n nm kids (.int .i64 1) (.int .i64 1):=by
 simp only [beq_iff_eq] at h;subst h;exact ⟨rfl,rfl,Bj (by omega)⟩
theorem adY (h:12≤k∧k≤17):ug k t n nm kids (.int .i64 0) (.int .i64 0):=VN (by omega) (Bj (by omega))
theorem ai7 {l m:Value} (h:ug k t n nm kids l m):∃a b:Nat,l=.int .i64 a∧m=.int .i64 b∧iR (.mk k t n nm kids)=if (kids.length:Int)<a∨(b:Int)<kids.length then 5 else 0:=by
 obtain ⟨rfl,rfl,h⟩:=h
 refine ⟨_,_,rfl,rfl,?_⟩
 unfold Tail at h;rw [h]
 by_cases hc:kids.length<kE k∨nM k<kids.length
 ·rw [if_pos hc,if_pos (by omega)]
 ·rw [if_neg hc,if_neg (by omega)]
end
theorem Zz (p:aB) (b o:Nat) (S:Nat→Prop) (w:World) (hp:aU w S b o p) :
  Calls Tryz.prog 151 #[.pointer (some ⟨b,o,none⟩)] w fun e w'=>e=.returned (.int .i64 (iR p))∧w=w':=by
 obtain ⟨k,t,n,nm,kids⟩:=p
 unfold aU at hp
 obtain ⟨_,⟨ht,hn0,hk⟩,h0,h1,h2,h3,ka,cap,h4,hks⟩:=hp
 clear hks
 have hn:nm.size≤maxLen:=by unfold maxLen;omega
 by_cases hk0:k<1
 ·go_enter Tryz.func151, Tryz.ntmps151
  go_wp2_with fail
  go_ret
  exact ⟨by simp [iR,hk0],rfl⟩
 by_cases hk1:24<k
 ·go_enter Tryz.func151, Tryz.ntmps151
  go_wp2_with fail
  go_ret
  exact ⟨by simp [iR,hk1],rfl⟩
 go_enter Tryz.func151, Tryz.ntmps151
 go_upto_block 0 with fail
 go_cut [3,4] (fun l m w'=>w=w'∧ug k t n nm kids l m)
 case first =>
  go_wp2_with (go_at_call 108;refine (ru _ _ hn).mono ?_;rintro e w' ⟨rfl,rfl⟩)
  all_goals
   first
    | (go_meet;go_light;refine ⟨rfl,?_⟩;first
      | exact ag9 ‹_› ‹_›
      | exact agA (text_of (by first|exact .inl ‹_› | exact .inr (.inl ‹_›)|exact .inr (.inr (.inl ‹_›))|exact .inr (.inr (.inr (.inl ‹_›)))|exact .inr (.inr (.inr (.inr ‹_›))))) ‹_› ‹_›
      | exact ahb (Zy (by first|exact .inl ‹_› | exact .inr (.inl ‹_›)|exact .inr (.inr (.inl ‹_›))|exact .inr (.inr (.inr (.inl ‹_›)))|exact .inr (.inr (.inr (.inr ‹_›))))) (by omega)
      | exact adW (by first|exact .inl ‹_› | exact .inr ‹_›) (by first|assumption|exact Zx ‹_›)
      | exact adV (by first|exact .inl ‹_› | exact .inr ‹_›) (by first|assumption|exact Zx ‹_›)
      | exact ahc (by first|exact .inl ‹_› | exact .inr ‹_›)
      | exact adX ‹_›
      | exact adY (by simp only [beq_eq_false_iff_ne] at *;omega))
    | (go_ret;go_light;refine ⟨y7 (Eq.symm ?_),rfl⟩;first
      | exact ag8 ‹_› ‹_›
      | exact adT (text_of (by first|exact .inl ‹_› | exact .inr (.inl ‹_›)|exact .inr (.inr (.inl ‹_›))|exact .inr (.inr (.inr (.inl ‹_›)))|exact .inr (.inr (.inr (.inr ‹_›))))) ‹_›
      | exact adU (text_of (by first|exact .inl ‹_› | exact .inr (.inl ‹_›)|exact .inr (.inr (.inl ‹_›))|exact .inr (.inr (.inr (.inl ‹_›)))|exact .inr (.inr (.inr (.inr ‹_›))))) ‹_› ‹_›
      | exact aha (Zy (by first|exact .inl ‹_› | exact .inr (.inl ‹_›)|exact .inr (.inr (.inl ‹_›))|exact .inr (.inr (.inr (.inl ‹_›)))|exact .inr (.inr (.inr (.inr ‹_›))))) (by omega)
      | exact agB (adS (by first|exact .inl ‹_› | exact .inr (.inl ‹_›)|exact .inr (.inr (.inl ‹_›))|exact .inr (.inr (.inr ‹_›)))) (by first|assumption|exact agz ‹_›))
 case rest =>
  obtain ⟨rfl,hc⟩:=hcut
  obtain ⟨a,b,rfl,rfl,he⟩:=ai7 hc
  have He:=ah he;clear he hc
  go_wp2_with fail
  all_goals
   go_ret
   refine ⟨y7 (Eq.symm ?_),rfl⟩
   rw [He.out]
   first|rw [if_pos (by omega)]|rw [if_neg (by omega)]
end Go.Proofs.YtodebjhalipefaaGreatDoor
