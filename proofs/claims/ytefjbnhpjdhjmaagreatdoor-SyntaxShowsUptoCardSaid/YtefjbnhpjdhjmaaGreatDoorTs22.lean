/-  -/
import Derived.Test.YtefjbnhpjdhjmaaGreatDoorSpell2
import Derived.Test.YtefjbnhpjdhjmaaGreatDoorTs20
namespace Go.Proofs.YtefjbnhpjdhjmaaGreatDoor
set_option linter.all false
open Go.RowKit
set_option maxRecDepth 100000
set_option maxHeartbeats 4000000
theorem TF (N T W:Nat) (S:Nat→Prop) (b o i:Nat) (k:Int) (t:aj) (n:Int) (nm:aj) (kids:List aA) (l:List UInt8) (w:World) (h:pY N T W S b o (.mk k t n nm kids) l w) (hn:dS (.mk k t n nm kids)=0) (hl:l.length+(aG (.mk k t n nm kids) i).length≤big) (hk:k=23∨k=24) :
  nJ N T W S b o i (.mk k t n nm kids) l w:=by
 obtain ⟨Hg,ht,hnn,hnm,_⟩:=jD hn
 obtain ⟨hSb,hz,p0,p1,p2,p3,ka,cap,p4,hkk⟩:=h.pat.open
 dsimp only [aA.aY,aA.aW,aA.dY,aA.aX,aA.aU] at p0 p1 p2 p3 p4
 unfold big at hl
 unfold nJ
 have HH:=ah h
 have hN:T≤N:=h.hT
 have e0:decide ((i:Int)<0)=false:=by simp
 clear hkk hz hn
 rcases hk with rfl|rfl
 ·have hs:aG (.mk 23 t n nm kids) i=64::nm.data.toList:=by rw [aG];rfl
  rw [hs] at hl⊢
  have Y0:=hnm (by decide)
  have e1:nm.data.toList.length=nm.size:=rfl
  have hstr:Hid ((⟨#[64]⟩:aj)++nm=⟨(64::nm.data.toList).toArray⟩):=by
   unfold Hid;rw [adA];show (⟨[64].toArray⟩:aj)++⟨nm.data.toList.toArray⟩=_;rw [kQ];rfl
  have hln:l.length+(⟨(64::nm.data.toList).toArray⟩:aj).size≤140737488355328:=by
   show l.length+(64::nm.data.toList).toArray.size≤_;rw [List.size_toArray];omega
  clear hnn hnm hs h ht
  go_enter_defers Tryz.func36, Tryz.ntmps36
  go_wp2_with (go_at_call 31;(rw [hstr.out]);(refine (bM N T l _ _ HH.out.jd hln HH.out.hw).mono ?_);(rintro e w2 ⟨rfl,Q,K2⟩))
  exact ⟨_,results_none rfl _ _ _,rfl,Q,K2⟩
 ·have hs:aG (.mk 24 t n nm kids) i=42::nm.data.toList:=by rw [aG];rfl
  rw [hs] at hl⊢
  have Y0:=hnm (by decide)
  have e1:nm.data.toList.length=nm.size:=rfl
  have hstr:Hid ((⟨#[42]⟩:aj)++nm=⟨(42::nm.data.toList).toArray⟩):=by
   unfold Hid;rw [adz];show (⟨[42].toArray⟩:aj)++⟨nm.data.toList.toArray⟩=_;rw [kQ];rfl
  have hln:l.length+(⟨(42::nm.data.toList).toArray⟩:aj).size≤140737488355328:=by
   show l.length+(42::nm.data.toList).toArray.size≤_;rw [List.size_toArray];omega
  clear hnn hnm hs h ht
  go_enter_defers Tryz.func36, Tryz.ntmps36
  go_wp2_with (go_at_call 31;(rw [hstr.out]);(refine (bM N T l _ _ HH.out.jd hln HH.out.hw).mono ?_);(rintro e w2 ⟨rfl,Q,K2⟩))
  exact ⟨_,results_none rfl _ _ _,rfl,Q,K2⟩
theorem TG (N T W:Nat) (S:Nat→Prop) (b o i:Nat) (k:Int) (t:aj) (n:Int) (nm:aj) (kids:List aA) (l:List UInt8) (w:World) (h:pY N T W S b o (.mk k t n nm kids) l w) (hn:dS (.mk k t n nm kids)=0) (hl:l.length+(aG (.mk k t n nm kids) i).length≤big) (hk:k=12∨k=13∨k=14∨k=15∨k=16∨k=17) :
  nJ N T W S b o i (.mk k t n nm kids) l w:=by
 obtain ⟨Hg,ht,hnn,hnm,_⟩:=jD hn
 obtain ⟨hSb,hz,p0,p1,p2,p3,ka,cap,p4,hkk⟩:=h.pat.open
 dsimp only [aA.aY,aA.aW,aA.dY,aA.aX,aA.aU] at p0 p1 p2 p3 p4
 unfold big at hl
 unfold nJ
 have HH:=ah h
 have hN:T≤N:=h.hT
 have e0:decide ((i:Int)<0)=false:=by simp
 clear hkk hz hn
 rcases hk with rfl|rfl|rfl|rfl|rfl|rfl
 ·have hs:aG (.mk 12 t n nm kids) i=fD 12:=by rw [aG];rfl
  rw [hs] at hl⊢
  obtain ⟨x,x0,hx⟩:=HH.out.word 12 (by decide)
  have hw6:=rE 12
  have hln:l.length+(⟨(fD 12).toArray⟩:aj).size≤140737488355328:=by
   show l.length+(fD 12).toArray.size≤_;rw [List.size_toArray];omega
  clear hnn hnm hs h ht
  go_enter_defers Tryz.func36, Tryz.ntmps36
  go_wp2_with (go_at_call 31;(try rw [hx]);(refine (bM N T l _ _ HH.out.jd hln HH.out.hw).mono ?_);(rintro e w2 ⟨rfl,Q,K2⟩))
  exact ⟨_,results_none rfl _ _ _,rfl,Q,K2⟩
 ·have hs:aG (.mk 13 t n nm kids) i=fD 13:=by rw [aG];rfl
  rw [hs] at hl⊢
  obtain ⟨x,x0,hx⟩:=HH.out.word 13 (by decide)
  have hw6:=rE 13
  have hln:l.length+(⟨(fD 13).toArray⟩:aj).size≤140737488355328:=by
   show l.length+(fD 13).toArray.size≤_;rw [List.size_toArray];omega
  clear hnn hnm hs h ht
  go_enter_defers Tryz.func36, Tryz.ntmps36
  go_wp2_with (go_at_call 31;(try rw [hx]);(refine (bM N T l _ _ HH.out.jd hln HH.out.hw).mono ?_);(rintro e w2 ⟨rfl,Q,K2⟩))
  exact ⟨_,results_none rfl _ _ _,rfl,Q,K2⟩
 ·have hs:aG (.mk 14 t n nm kids) i=fD 14:=by rw [aG];rfl
  rw [hs] at hl⊢
  obtain ⟨x,x0,hx⟩:=HH.out.word 14 (by decide)
  have hw6:=rE 14
  have hln:l.length+(⟨(fD 14).toArray⟩:aj).size≤140737488355328:=by
   show l.length+(fD 14).toArray.size≤_;rw [List.size_toArray];omega
  clear hnn hnm hs h ht
  go_enter_defers Tryz.func36, Tryz.ntmps36
  go_wp2_with (go_at_call 31;(try rw [hx]);(refine (bM N T l _ _ HH.out.jd hln HH.out.hw).mono ?_);(rintro e w2 ⟨rfl,Q,K2⟩))
  exact ⟨_,results_none rfl _ _ _,rfl,Q,K2⟩
 ·have hs:aG (.mk 15 t n nm kids) i=fD 15:=by rw [aG];rfl
  rw [hs] at hl⊢
  obtain ⟨x,x0,hx⟩:=HH.out.word 15 (by decide)
  have hw6:=rE 15
  have hln:l.length+(⟨(fD 15).toArray⟩:aj).size≤140737488355328:=by
   show l.length+(fD 15).toArray.size≤_;rw [List.size_toArray];omega
  clear hnn hnm hs h ht
  go_enter_defers Tryz.func36, Tryz.ntmps36
  go_wp2_with (go_at_call 31;(try rw [hx]);(refine (bM N T l _ _ HH.out.jd hln HH.out.hw).mono ?_);(rintro e w2 ⟨rfl,Q,K2⟩))
  exact ⟨_,results_none rfl _ _ _,rfl,Q,K2⟩
 ·have hs:aG (.mk 16 t n nm kids) i=fD 16:=by rw [aG];rfl
  rw [hs] at hl⊢
  obtain ⟨x,x0,hx⟩:=HH.out.word 16 (by decide)
  have hw6:=rE 16
  have hln:l.length+(⟨(fD 16).toArray⟩:aj).size≤140737488355328:=by
   show l.length+(fD 16).toArray.size≤_;rw [List.size_toArray];omega
  clear hnn hnm hs h ht
  go_enter_defers Tryz.func36, Tryz.ntmps36
  go_wp2_with (go_at_call 31;(try rw [hx]);(refine (bM N T l _ _ HH.out.jd hln HH.out.hw).mono ?_);(rintro e w2 ⟨rfl,Q,K2⟩))
  exact ⟨_,results_none rfl _ _ _,rfl,Q,K2⟩
 ·have hs:aG (.mk 17 t n nm kids) i=fD 17:=by rw [aG];rfl
  rw [hs] at hl⊢
  obtain ⟨x,x0,hx⟩:=HH.out.word 17 (by decide)
  have hw6:=rE 17
  have hln:l.length+(⟨(fD 17).toArray⟩:aj).size≤140737488355328:=by
   show l.length+(fD 17).toArray.size≤_;rw [List.size_toArray];omega
  clear hnn hnm hs h ht
  go_enter_defers Tryz.func36, Tryz.ntmps36
  go_wp2_with (go_at_call 31;(try rw [hx]);(refine (bM N T l _ _ HH.out.jd hln HH.out.hw).mono ?_);(rintro e w2 ⟨rfl,Q,K2⟩))
  exact ⟨_,results_none rfl _ _ _,rfl,Q,K2⟩
end Go.Proofs.YtefjbnhpjdhjmaaGreatDoor

namespace Go.Proofs.YtefjbnhpjdhjmaaGreatDoor
set_option linter.all false
open Go.RowKit
set_option maxRecDepth 100000
set_option maxHeartbeats 4000000
theorem pY.kid {N T W:Nat} {S:Nat→Prop} {b o:Nat} {k n:Int} {t nm:aj} {kids:List aA} {l:List UInt8} {w:World} (h:pY N T W S b o (.mk k t n nm kids) l w) (j:Nat) (hj:j<kids.length) :
  ∃kb ko cap,w.cell? ⟨b,o+4,none⟩=some (.slice (some ⟨kb,ko,none⟩) kids.length cap)∧pY N T W S kb (ko+j*5) kids[j] l w:=by
 obtain ⟨_,_,_,_,_,_,ka,cap,p4,hk⟩:=h.pat.open
 dsimp only [aA.aU] at p4 hk
 obtain ⟨kb,ko,rfl⟩:=iF hk (by omega)
 exact ⟨kb,ko,cap,p4,h.jd,h.wd,h.gl,h.hw,iH kids kb ko j hj hk,h.hS,h.hT,h.hWN,h.hg⟩
theorem jk (N T:Nat) (l:List UInt8) (c:UInt8) (v:Int) (hv:v=c.toNat) (w:World) (h:ni N T l w) (hl:l.length+1≤140737488355328) (hT:T≤w.heap.size) :
  Calls Tryz.prog 67 #[.pointer (some ⟨N,0,none⟩),.int .u8 v] w (Hz N T (l++[c]) .nilIface w):=by
 subst hv;exact Me N T l c w h hl hT
def EG (N T W:Nat) (S:Nat→Prop) (kids:List aA):Prop :=
 ∀(j:Nat) (hj:j<kids.length) (b o i:Nat) (l:List UInt8) (w:World),pY N T W S b o kids[j] l w→i≤2→l.length+(aG kids[j] i).length≤big→nJ N T W S b o i kids[j] l w
theorem Qg (N T W:Nat) (S:Nat→Prop) (b o i:Nat) (t:aj) (n:Int) (nm:aj) (kids:List aA) (l:List UInt8) (w:World) (h:pY N T W S b o (.mk 20 t n nm kids) l w) (hn:dS (.mk 20 t n nm kids)=0) (hl:l.length+(aG (.mk 20 t n nm kids) i).length≤big) (hih:EG N T W S kids) :
  nJ N T W S b o i (.mk 20 t n nm kids) l w:=by
 obtain ⟨Hg,ht,hnn,hnm,h1⟩:=jD hn
 obtain ⟨q,rfl⟩:∃q,kids=[q]:=List.length_eq_one_iff.1 (h1 (by omega))
 obtain ⟨hSb,hz,p0,p1,p2,p3,ka,cap,p4,hkk⟩:=h.pat.open
 dsimp only [aA.aY,aA.aW,aA.dY,aA.aX,aA.aU] at p0 p1 p2 p3 p4
 unfold nJ
 have HH:=ah h;have HIH:=ah hih
 have hN:T≤N:=h.hT
 have e0:decide ((i:Int)<0)=false:=by simp
 have hs:aG (.mk 20 t n nm [q]) i=wH++(aG q 2++[41]):=by rw [aG];simp only [qo];rfl
 rw [hs] at hl⊢
 have eb:big=1000000000000:=rfl
 have ea:wH.length=6:=rfl
 simp only [List.length_append,List.length_cons,List.length_nil] at hl
 clear hkk hz hn hs hih h ht hnn hnm h1
 go_enter_defers Tryz.func36, Tryz.ntmps36
 go_wp2_with fail
 refine (bM N T l ⟨#[65,82,66,78,79,40]⟩ _ HH.out.jd (by show l.length+6≤_;omega) HH.out.hw).mono ?_
 rintro e w1 ⟨rfl,B1,K1⟩
 have h1:=HH.out.wrote B1 K1
 obtain ⟨kb,ko,cap1,c4,hq⟩:=h1.kid 0 (by simp)
 rw [show (⟨#[65,82,66,78,79,40]⟩:aj).data.toList=wH from rfl] at h1 hq
 have H1:=ah h1;have HQ:=ah hq;have iG:=ah K1
 clear B1 K1 h1 hq p0 p1 p2 p3 p4
 go_wp2_with fail
 refine (HIH.out 0 (by simp) kb ko 2 (l++wH) w1 (by have:=HQ.out;simpa using this) (by omega) (by show (l++wH).length+(aG q 2).length≤_;rw [List.length_append];omega)).mono ?_
 rintro e w2 ⟨rfl,B2,K2⟩
 have H2:=ah (H1.out.wrote B2 K2)
 have rP:=ah (KB.trans iG.out K2)
 clear B2 K2 c4
 go_wp2_with fail
 refine (jk N T _ 41 41 rfl _ H2.out.jd (by show ((l++wH)++aG q 2).length+1≤_;simp only [List.length_append];omega) H2.out.hw).mono ?_
 rintro e w3 ⟨rfl,B3,K3⟩
 have Q:Hid (ni N T (l++(wH++(aG q 2++[41]))) w3):=by
  have:=B3
  simp only [List.append_assoc] at this
  exact this
 have KK:=ah (KB.trans rP.out K3)
 clear B3 K3
 go_wp2_with fail
 exact ⟨_,results_none rfl _ _ _,rfl,Q.out,KK.out⟩
theorem TI (N T W:Nat) (S:Nat→Prop) (b o i:Nat) (t:aj) (n:Int) (nm:aj) (kids:List aA) (l:List UInt8) (w:World) (h:pY N T W S b o (.mk 21 t n nm kids) l w) (hn:dS (.mk 21 t n nm kids)=0) (hl:l.length+(aG (.mk 21 t n nm kids) i).length≤big) (hih:EG N T W S kids) :
  nJ N T W S b o i (.mk 21 t n nm kids) l w:=by
 obtain ⟨Hg,ht,hnn,hnm,h1⟩:=jD hn
 obtain ⟨q,rfl⟩:∃q,kids=[q]:=List.length_eq_one_iff.1 (h1 (by omega))
 obtain ⟨hSb,hz,p0,p1,p2,p3,ka,cap,p4,hkk⟩:=h.pat.open
 dsimp only [aA.aY,aA.aW,aA.dY,aA.aX,aA.aU] at p0 p1 p2 p3 p4
 unfold nJ
 have HH:=ah h;have HIH:=ah hih
 have hN:T≤N:=h.hT
 have e0:decide ((i:Int)<0)=false:=by simp
 have hs:aG (.mk 21 t n nm [q]) i=aG q 0++(32::46::32::nm.data.toList):=by rw [aG];simp only [qo];rfl
 rw [hs] at hl⊢
 have eb:big=1000000000000:=rfl
 have Y0:=hnm (by decide)
 have QN:nm.data.toList.length=nm.size:=rfl
 simp only [List.length_append,List.length_cons] at hl
 have hstr:Hid ((⟨#[32,46,32]⟩:aj)++nm=⟨(32::46::32::nm.data.toList).toArray⟩):=by
  unfold Hid;show (⟨[32,46,32].toArray⟩:aj)++⟨nm.data.toList.toArray⟩=_;rw [kQ];rfl
 clear hkk hz hn hs hih h ht hnn hnm h1
 obtain ⟨kb,ko,cap1,c4,hq⟩:=HH.out.kid 0 (by simp)
 have HQ:=ah hq
 clear hq p4
 go_enter_defers Tryz.func36, Tryz.ntmps36
 go_wp2_with fail
 refine (HIH.out 0 (by simp) kb ko 0 l w (by have:=HQ.out;simpa using this) (by omega) (by show l.length+(aG q 0).length≤_;omega)).mono ?_
 rintro e w1 ⟨rfl,B1,K1⟩
 have H1:=ah (HH.out.wrote B1 K1)
 have iG:=ah K1
 obtain ⟨_,_,q0,q1,q2,q3,_⟩:=H1.out.pat.open
 dsimp only [aA.aY,aA.aW,aA.dY,aA.aX,aA.aU] at q0 q1 q2 q3
 have hln:(l++aG [q][0] 0).length+(⟨(32::46::32::nm.data.toList).toArray⟩:aj).size≤140737488355328:=by
  show (l++aG q 0).length+(32::46::32::nm.data.toList).toArray.size≤_;rw [List.size_toArray];simp only [List.length_append,List.length_cons];omega
 clear B1 K1 c4 p0 p1 p2 p3
 go_wp2_with (go_at_call 31;(rw [hstr.out]);(refine (bM N T _ _ _ H1.out.jd hln H1.out.hw).mono ?_);(rintro e w2 ⟨rfl,B2,K2⟩))
 have Q:Hid (ni N T (l++(aG q 0++(32::46::32::nm.data.toList))) w2):=by
  have:=B2
  simp only [List.append_assoc] at this
  exact this
 exact ⟨_,results_none rfl _ _ _,rfl,Q.out,KB.trans iG.out K2⟩
theorem WJ (N T W:Nat) (S:Nat→Prop) (b o i:Nat) (t:aj) (n:Int) (nm:aj) (kids:List aA) (l:List UInt8) (w:World) (h:pY N T W S b o (.mk 22 t n nm kids) l w) (hn:dS (.mk 22 t n nm kids)=0) (hl:l.length+(aG (.mk 22 t n nm kids) i).length≤big) (hih:EG N T W S kids) :
  nJ N T W S b o i (.mk 22 t n nm kids) l w:=by
 obtain ⟨Hg,ht,hnn,hnm,h1⟩:=jD hn
 obtain ⟨q,rfl⟩:∃q,kids=[q]:=List.length_eq_one_iff.1 (h1 (by omega))
 obtain ⟨hSb,hz,p0,p1,p2,p3,ka,cap,p4,hkk⟩:=h.pat.open
 dsimp only [aA.aY,aA.aW,aA.dY,aA.aX,aA.aU] at p0 p1 p2 p3 p4
 unfold nJ
 have HH:=ah h;have HIH:=ah hih
 have hN:T≤N:=h.hT
 have e0:decide ((i:Int)<0)=false:=by simp
 have hs:aG (.mk 22 t n nm [q]) i=aG q 0++(32::36::32::nm.data.toList):=by rw [aG];simp only [qo];rfl
 rw [hs] at hl⊢
 have eb:big=1000000000000:=rfl
 have Y0:=hnm (by decide)
 have QN:nm.data.toList.length=nm.size:=rfl
 simp only [List.length_append,List.length_cons] at hl
 have hstr:Hid ((⟨#[32,36,32]⟩:aj)++nm=⟨(32::36::32::nm.data.toList).toArray⟩):=by
  unfold Hid;show (⟨[32,36,32].toArray⟩:aj)++⟨nm.data.toList.toArray⟩=_;rw [kQ];rfl
 clear hkk hz hn hs hih h ht hnn hnm h1
 obtain ⟨kb,ko,cap1,c4,hq⟩:=HH.out.kid 0 (by simp)
 have HQ:=ah hq
 clear hq p4
 go_enter_defers Tryz.func36, Tryz.ntmps36
 go_wp2_with fail
 refine (HIH.out 0 (by simp) kb ko 0 l w (by have:=HQ.out;simpa using this) (by omega) (by show l.length+(aG q 0).length≤_;omega)).mono ?_
 rintro e w1 ⟨rfl,B1,K1⟩
 have H1:=ah (HH.out.wrote B1 K1)
 have iG:=ah K1
 obtain ⟨_,_,q0,q1,q2,q3,_⟩:=H1.out.pat.open
 dsimp only [aA.aY,aA.aW,aA.dY,aA.aX,aA.aU] at q0 q1 q2 q3
 have hln:(l++aG [q][0] 0).length+(⟨(32::36::32::nm.data.toList).toArray⟩:aj).size≤140737488355328:=by
  show (l++aG q 0).length+(32::36::32::nm.data.toList).toArray.size≤_;rw [List.size_toArray];simp only [List.length_append,List.length_cons];omega
 clear B1 K1 c4 p0 p1 p2 p3
 go_wp2_with (go_at_call 31;(rw [hstr.out]);(refine (bM N T _ _ _ H1.out.jd hln H1.out.hw).mono ?_);(rintro e w2 ⟨rfl,B2,K2⟩))
 have Q:Hid (ni N T (l++(aG q 0++(32::36::32::nm.data.toList))) w2):=by
  have:=B2
  simp only [List.append_assoc] at this
  exact this
 exact ⟨_,results_none rfl _ _ _,rfl,Q.out,KB.trans iG.out K2⟩
end Go.Proofs.YtefjbnhpjdhjmaaGreatDoor

namespace Go.Proofs.YtefjbnhpjdhjmaaGreatDoor
set_option linter.all false
open Go.RowKit
set_option maxRecDepth 100000
set_option maxHeartbeats 4000000
section
variable (N T:Nat) (S:Nat→Prop) (b o i:Nat) (t:aj) (n:Int) (nm:aj) (kids:List aA) (l:List UInt8) (w:World)
theorem YD (h:sG N T S b o (.mk 4 t n nm kids) l w) (hn:lI (.mk 4 t n nm kids)) (hi:i≤5) (hl:l.length+(aP (.mk 4 t n nm kids) i).length≤big) (hih:En N T S kids):oQ N T b o i (.mk 4 t n nm kids) l w:=by
 obtain ⟨q,rfl⟩:=hn.one (by decide)
 have hfc:=hn.facts
 obtain ⟨_,_,p0,p1,p2,p3,ka,cap,p4,-⟩:=h.pat.open
 dsimp only [aA.aY,aA.aW,aA.dY,aA.aX,aA.aU] at p0 p1 p2 p3 p4
 unfold oQ
 have HH:=ah h;have HIH:=ah hih
 have e0:decide ((5:Int)<(i:Int))=false:=au (by omega)
 have hs:aP (.mk 4 t n nm [q]) i=nm.data.toList++(60::(aP q 1++[62])):=by rw [aP];simp only [oV];rfl
 rw [hs] at hl⊢
 have eb:big=1000000000000:=rfl
 have QN:nm.data.toList.length=nm.size:=rfl
 simp only [List.length_append,List.length_cons,List.length_nil] at hl
 have hstr:Hid (nm++(⟨#[60]⟩:aj)=⟨(nm.data.toList++[60]).toArray⟩):=by
  unfold Hid;show (⟨nm.data.toList.toArray⟩:aj)++⟨[60].toArray⟩=_;rw [kQ]
 have hnm:nm.size≤16:=hfc.2.2.2.2.1 (by omega)
 clear hs hih h hn hfc p1 p2 p4
 go_enter_defers Tryz.func38, Tryz.ntmps38
 go_wp2_with (go_at_call 70;(refine (oJ 4 w).mono ?_);rintro e w' ⟨rfl,aQ⟩;obtain rfl:=aQ.symm;simp only [sD,xg,dw])
 rw [hstr.out]
 refine (bM N T l _ _ HH.out.jd (by show l.length+(nm.data.toList++[60]).toArray.size≤_;rw [List.size_toArray];(try simp only [List.length_append,List.length_cons,List.length_nil]);omega) HH.out.hw).mono ?_
 rintro e w1 ⟨rfl,B1,K1⟩
 have VE:ni N T (l++(nm.data.toList++[60])) w1:=B1
 have h1:=HH.out.wrote VE K1
 obtain ⟨kb,ko,cap1,c4,hq⟩:=h1.kid 0 (by simp)
 have H1:=ah h1;have HQ:=ah hq;have iG:=ah K1
 clear B1 VE K1 h1 hq p0 p3
 go_wp2_with fail
 refine (HIH.out 0 (by simp) kb ko 1 (l++(nm.data.toList++[60])) w1 (by have:=HQ.out;simpa using this) (by omega) (by show (l++(nm.data.toList++[60])).length+(aP q 1).length≤_;(try simp only [List.length_append,List.length_cons,List.length_nil]);omega)).mono ?_
 rintro e w2 ⟨rfl,B2,K2⟩
 have H2:=ah (H1.out.wrote B2 K2)
 have rP:=ah (KB.trans iG.out K2)
 clear B2 K2 c4
 go_wp2_with fail
 refine (jk N T _ 62 62 rfl _ H2.out.jd (by show ((l++(nm.data.toList++[60]))++aP q 1).length+1≤_;(try simp only [List.length_append,List.length_cons,List.length_nil]);omega) H2.out.hw).mono ?_
 rintro e w3 ⟨rfl,B3,K3⟩
 have Q:Hid (ni N T (l++(nm.data.toList++(60::(aP q 1++[62])))) w3):=by
  have B3':ni N T (((l++(nm.data.toList++[60]))++aP q 1)++[62]) w3:=B3
  simp only [List.append_assoc,List.cons_append,List.nil_append] at B3'
  exact B3'
 have KK:=ah (KB.trans rP.out K3)
 clear B3 K3
 go_wp2_with fail
 exact ⟨_,results_none rfl _ _ _,rfl,Q.out,KK.out⟩
theorem aaD (h:sG N T S b o (.mk 5 t n nm kids) l w) (hn:lI (.mk 5 t n nm kids)) (hi:i≤5) (hl:l.length+(aP (.mk 5 t n nm kids) i).length≤big) (hih:En N T S kids):oQ N T b o i (.mk 5 t n nm kids) l w:=by
 obtain ⟨q,rfl⟩:=hn.one (by decide)
 have hfc:=hn.facts
 obtain ⟨_,_,p0,p1,p2,p3,ka,cap,p4,-⟩:=h.pat.open
 dsimp only [aA.aY,aA.aW,aA.dY,aA.aX,aA.aU] at p0 p1 p2 p3 p4
 unfold oQ
 have HH:=ah h;have HIH:=ah hih
 have e0:decide ((5:Int)<(i:Int))=false:=au (by omega)
 have hs:aP (.mk 5 t n nm [q]) i=36::aP q 5:=by rw [aP];simp only [oV];rfl
 rw [hs] at hl⊢
 have eb:big=1000000000000:=rfl
 have QN:nm.data.toList.length=nm.size:=rfl
 simp only [List.length_append,List.length_cons,List.length_nil] at hl
 clear hs hih h hn hfc p1 p2 p4
 go_enter_defers Tryz.func38, Tryz.ntmps38
 go_wp2_with (go_at_call 70;(refine (oJ 5 w).mono ?_);rintro e w' ⟨rfl,aQ⟩;obtain rfl:=aQ.symm;simp only [sD,xg,dw])
 refine (jk N T (l) 36 36 rfl _ HH.out.jd (by (try simp only [List.length_append,List.length_cons,List.length_nil]);omega) HH.out.hw).mono ?_
 rintro e w4 ⟨rfl,B4,K4⟩
 have h4:=HH.out.wrote B4 K4
 obtain ⟨kb,ko,cap1,c4,hq⟩:=h4.kid 0 (by simp)
 have H4:=ah h4;have HQ:=ah hq;have xU:=ah K4
 clear B4 K4 h4 hq p0 p3
 go_wp2_with fail
 refine (HIH.out 0 (by simp) kb ko 5 ((l)++[36]) w4 (by have:=HQ.out;simpa using this) (by omega) (by show ((l)++[36]).length+(aP q 5).length≤_;(try simp only [List.length_append,List.length_cons,List.length_nil]);omega)).mono ?_
 rintro e w5 ⟨rfl,B5,K5⟩
 have Az:ni N T (((l)++[36])++aP q 5) w5:=B5
 have H5:=ah (H4.out.wrote Az K5)
 have KK:=ah (KB.trans xU.out K5)
 clear B5 Az K5 c4
 go_wp2_with fail
 refine ⟨_,results_none rfl _ _ _,rfl,?_,KK.out⟩
 have:=H5.out.jd
 simp only [List.append_assoc,List.cons_append,List.nil_append] at this⊢
 exact this
theorem aaE (h:sG N T S b o (.mk 7 t n nm kids) l w) (hn:lI (.mk 7 t n nm kids)) (hi:i≤4) (hl:l.length+(aP (.mk 7 t n nm kids) i).length≤big) (hih:En N T S kids):oQ N T b o i (.mk 7 t n nm kids) l w:=by
 obtain ⟨q,rfl⟩:=hn.one (by decide)
 have hfc:=hn.facts
 obtain ⟨_,_,p0,p1,p2,p3,ka,cap,p4,-⟩:=h.pat.open
 dsimp only [aA.aY,aA.aW,aA.dY,aA.aX,aA.aU] at p0 p1 p2 p3 p4
 unfold oQ
 have HH:=ah h;have HIH:=ah hih
 have e0:decide ((4:Int)<(i:Int))=false:=au (by omega)
 have hs:aP (.mk 7 t n nm [q]) i=45::aP q 4:=by rw [aP];simp only [oV];show sW (decide (4<i)) (45::aP q 4)=_;rw [au (by omega:¬4<i)];rfl
 rw [hs] at hl⊢
 have eb:big=1000000000000:=rfl
 have QN:nm.data.toList.length=nm.size:=rfl
 simp only [List.length_append,List.length_cons,List.length_nil] at hl
 clear hs hih h hn hfc p1 p2 p4
 go_enter_defers Tryz.func38, Tryz.ntmps38
 go_wp2_with (go_at_call 70;(refine (oJ 7 w).mono ?_);rintro e w' ⟨rfl,aQ⟩;obtain rfl:=aQ.symm;simp only [sD,xg,dw])
 refine (jk N T (l) 45 45 rfl _ HH.out.jd (by (try simp only [List.length_append,List.length_cons,List.length_nil]);omega) HH.out.hw).mono ?_
 rintro e w4 ⟨rfl,B4,K4⟩
 have h4:=HH.out.wrote B4 K4
 obtain ⟨kb,ko,cap1,c4,hq⟩:=h4.kid 0 (by simp)
 have H4:=ah h4;have HQ:=ah hq;have xU:=ah K4
 clear B4 K4 h4 hq p0 p3
 go_wp2_with fail
 refine (HIH.out 0 (by simp) kb ko 4 ((l)++[45]) w4 (by have:=HQ.out;simpa using this) (by omega) (by show ((l)++[45]).length+(aP q 4).length≤_;(try simp only [List.length_append,List.length_cons,List.length_nil]);omega)).mono ?_
 rintro e w5 ⟨rfl,B5,K5⟩
 have Az:ni N T (((l)++[45])++aP q 4) w5:=B5
 have H5:=ah (H4.out.wrote Az K5)
 have KK:=ah (KB.trans xU.out K5)
 clear B5 Az K5 c4
 go_wp2_with fail
 refine ⟨_,results_none rfl _ _ _,rfl,?_,KK.out⟩
 have:=H5.out.jd
 simp only [List.append_assoc,List.cons_append,List.nil_append] at this⊢
 exact this
theorem YE (h:sG N T S b o (.mk 7 t n nm kids) l w) (hn:lI (.mk 7 t n nm kids)) (hi:i=5) (hl:l.length+(aP (.mk 7 t n nm kids) i).length≤big) (hih:En N T S kids):oQ N T b o i (.mk 7 t n nm kids) l w:=by
 obtain ⟨q,rfl⟩:=hn.one (by decide)
 have hfc:=hn.facts
 obtain ⟨_,_,p0,p1,p2,p3,ka,cap,p4,-⟩:=h.pat.open
 dsimp only [aA.aY,aA.aW,aA.dY,aA.aX,aA.aU] at p0 p1 p2 p3 p4
 unfold oQ
 have HH:=ah h;have HIH:=ah hih
 have e0:decide ((4:Int)<(i:Int))=true:=ak (by omega)
 have hs:aP (.mk 7 t n nm [q]) i=40::((45::aP q 4)++[41]):=by rw [aP];simp only [oV];show sW (decide (4<i)) (45::aP q 4)=_;rw [ak (by omega:4<i)];rfl
 rw [hs] at hl⊢
 have eb:big=1000000000000:=rfl
 have QN:nm.data.toList.length=nm.size:=rfl
 simp only [List.length_append,List.length_cons,List.length_nil] at hl
 clear hs hih h hn hfc p1 p2 p4
 go_enter_defers Tryz.func38, Tryz.ntmps38
 go_wp2_with (go_at_call 70;(refine (oJ 7 w).mono ?_);rintro e w' ⟨rfl,aQ⟩;obtain rfl:=aQ.symm;simp only [sD,xg,dw])
 refine (jk N T l 40 40 rfl w HH.out.jd (by omega) HH.out.hw).mono ?_
 rintro e w1 ⟨rfl,B1,K1⟩
 have h1:=HH.out.wrote B1 K1
 have iG:=ah K1
 obtain ⟨_,_,r0,-,-,-,_,_,-,-⟩:=h1.pat.open
 dsimp only [aA.aY] at r0
 have H1:=ah h1
 clear B1 K1 h1 p0 p3
 go_wp2_with fail
 refine (jk N T (l++[40]) 45 45 rfl _ H1.out.jd (by (try simp only [List.length_append,List.length_cons,List.length_nil]);omega) H1.out.hw).mono ?_
 rintro e w4 ⟨rfl,B4,K4⟩
 have h4:=H1.out.wrote B4 K4
 obtain ⟨kb,ko,cap1,c4,hq⟩:=h4.kid 0 (by simp)
 have H4:=ah h4;have HQ:=ah hq;have xU:=ah (KB.trans iG.out K4)
 clear B4 K4 h4 hq r0
 go_wp2_with fail
 refine (HIH.out 0 (by simp) kb ko 4 ((l++[40])++[45]) w4 (by have:=HQ.out;simpa using this) (by omega) (by show ((l++[40])++[45]).length+(aP q 4).length≤_;(try simp only [List.length_append,List.length_cons,List.length_nil]);omega)).mono ?_
 rintro e w5 ⟨rfl,B5,K5⟩
 have Az:ni N T (((l++[40])++[45])++aP q 4) w5:=B5
 have H5:=ah (H4.out.wrote Az K5)
 have KK:=ah (KB.trans xU.out K5)
 clear B5 Az K5 c4
 go_wp2_with fail
 refine leaves_cons (f:=67) (args:=#[.pointer (some ⟨N,0,none⟩),.int .u8 41]) (by simp) (by simp [go_sem]) ?_
 refine (tJ N T _ 41 _ _ H5.out.jd (by (try simp only [List.length_append,List.length_cons,List.length_nil]);omega) H5.out.hw).mono ?_
 rintro e u' w6 ⟨rfl,rfl,B6,K6⟩
 refine ⟨_,results_none rfl _ _ _,rfl,?_,KB.trans KK.out K6⟩
 have:=B6
 simp only [List.append_assoc,List.cons_append,List.nil_append] at this⊢
 exact this
end
end Go.Proofs.YtefjbnhpjdhjmaaGreatDoor
