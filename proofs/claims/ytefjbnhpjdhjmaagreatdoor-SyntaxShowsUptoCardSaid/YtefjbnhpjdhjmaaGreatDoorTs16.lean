/-  -/
import Derived.Test.YtefjbnhpjdhjmaaGreatDoorTs22
namespace Go.Proofs.YtefjbnhpjdhjmaaGreatDoor
set_option linter.all false
open Go.RowKit
set_option maxRecDepth 100000
set_option maxHeartbeats 8000000
theorem Jg (sep:List UInt8) (kids:List aA) (i j:Nat) (hj:j<kids.length) :
  bH sep (decide (j=0)) (kids.drop j) i=(if j=0 then [] else sep)++(aG kids[j] i++bH sep (decide (j+1=0)) (kids.drop (j+1)) i):=by
 rw [List.drop_eq_getElem_cons hj,bH]
 by_cases h:j=0
 ·subst h;simp
 ·simp [h]
def iV (N T W:Nat) (S:Nat→Prop) (b o:Nat) (p:aA) (sep:List UInt8) (kids:List aA) (i:Nat) (l:List UInt8) (w:World) (j:Nat) (wr:World):Prop :=
 ∃d,d++bH sep (decide (j=0)) (kids.drop j) i=bH sep true kids i∧pY N T W S b o p (l++d) wr∧KB N T w wr
theorem iV.next {N T W:Nat} {S:Nat→Prop} {b o:Nat} {p:aA} {sep:List UInt8} {kids:List aA} {i:Nat} {l d:List UInt8} {w w':World} {j:Nat} (hj:j<kids.length)
  (hd:d++bH sep (decide (j=0)) (kids.drop j) i=bH sep true kids i) (h:pY N T W S b o p ((l++d)++((if j=0 then [] else sep)++aG kids[j] i)) w') (k:KB N T w w'):iV N T W S b o p sep kids i l w (j+1) w':=by
 refine ⟨d++((if j=0 then [] else sep)++aG kids[j] i),?_,by rw [List.append_assoc] at h;exact h,k⟩
 rw [Jg sep kids i j hj] at hd
 rw [←hd];simp [List.append_assoc]
theorem iV.len {sep:List UInt8} {kids:List aA} {i j:Nat} {d:List UInt8} (hj:j<kids.length) (hd:d++bH sep (decide (j=0)) (kids.drop j) i=bH sep true kids i) :
  d.length+(if j=0 then 0 else sep.length)+(aG kids[j] i).length≤(bH sep true kids i).length:=by
 rw [Jg sep kids i j hj] at hd
 have:=congrArg List.length hd
 simp only [List.length_append] at this
 split at this<;>split<;>simp_all<;>omega
theorem WL (N T W:Nat) (S:Nat→Prop) (b o i:Nat) (t:aj) (n:Int) (nm:aj) (kids:List aA) (l:List UInt8) (w:World) (h:pY N T W S b o (.mk 18 t n nm kids) l w) (hi:¬i<1) (hkl:kids.length<1000000000) (hl:l.length+(aG (.mk 18 t n nm kids) i).length≤big) (hih:EG N T W S kids) :
  nJ N T W S b o i (.mk 18 t n nm kids) l w:=by
 obtain ⟨hSb,hz,p0,p1,p2,p3,ka,cap,p4,hkk⟩:=h.pat.open
 dsimp only [aA.aY,aA.aW,aA.dY,aA.aX,aA.aU] at p0 p1 p2 p3 p4
 unfold nJ
 have HH:=ah h;have HIH:=ah hih
 have hN:T≤N:=h.hT
 have e0:decide ((i:Int)<1)=false:=au (by omega)
 have hs:aG (.mk 18 t n nm kids) i=bH [32] true kids 0:=by rw [aG];show sW (decide (i<1)) _=_;rw [au (by omega:¬i<1)];rfl
 rw [hs] at hl⊢
 have eb:big=1000000000000:=rfl
 try simp only [List.length_append,List.length_cons,List.length_nil] at hl
 clear hkk hz hs hih h p1 p2 p3
 go_enter_defers Tryz.func36, Tryz.ntmps36
 go_wp2_with fail
 go_loopw [157] (fun x wr=>∃j:Nat,j≤kids.length∧x=.int .i64 j∧Hid (iV N T W S b o (.mk 18 t n nm kids) [32] kids 0 (l) w j wr)) (fun x _=>kids.length-(intOf x).toNat)
 case atStart=>exact ⟨0,Nat.zero_le _,rfl,[],by simp,by simpa using HH.out,KB.refl _ _ _⟩
 case round =>
  obtain ⟨j,hj,rfl,wE⟩:=hrel
  clear p0 p4
  obtain ⟨d,hd,HI,hK⟩:=wE.out
  have I:=ah HI;have HK:=ah hK;have HD:=ah hd
  by_cases hlt:j<kids.length
  ·have hlen:=iV.len hlt hd
   obtain ⟨kb,ko,cap1,c4,hq⟩:=HI.kid j hlt
   have HQ:=ah hq
   clear hd hK HI hq wE
   by_cases hj0:j=0
   ·have y1:decide ((0:Int)<(j:Int))=false:=au (by omega)
    have y2:decide (0<j)=false:=au (by omega)
    have HE:Hid ((if j=0 then [] else ([32]:List UInt8))=[]):=if_pos hj0
    rw [if_pos hj0] at hlen
    clear hj0
    go_wp2_with fail
    refine (HIH.out j hlt kb (ko+j*5) 0 _ _ HQ.out (by omega) (by show ((l)++d).length+_≤_;simp only [List.length_append,List.length_cons,List.length_nil];omega)).mono ?_
    rintro e w3 ⟨rfl,B3,K3⟩
    have L3:Hid (iV N T W S b o (.mk 18 t n nm kids) [32] kids 0 (l) w (j+1) w3):=iV.next hlt HD.out (by rw [HE.out];exact I.out.wrote B3 K3) (KB.trans HK.out K3)
    clear B3 K3 c4
    go_wp2_with fail
    go_roundw
    case rel=>exact ⟨j+1,by omega,by go_num,L3⟩
    case measure=>simp [intOf];omega
   ·have y1:decide ((0:Int)<(j:Int))=true:=ak (by omega)
    have y2:decide (0<j)=true:=ak (by omega)
    have HE:Hid ((if j=0 then [] else ([32]:List UInt8))=[32]):=if_neg hj0
    rw [if_neg hj0] at hlen
    clear hj0
    go_wp2_with fail
    refine (jk N T _ 32 32 rfl _ I.out.jd (by show ((l)++d).length+1≤_;simp only [List.length_append,List.length_cons,List.length_nil] at hlen⊢;omega) I.out.hw).mono ?_
    rintro e w2 ⟨rfl,B2,K2⟩
    have I2:=ah (I.out.wrote B2 K2)
    have uZ:=ah (KB.trans HK.out K2)
    clear B2 K2 c4
    obtain ⟨kb,ko,cap1,c4,hq⟩:=I2.out.kid j hlt
    clear HQ
    have HQ:=ah hq
    clear hq
    go_wp2_with fail
    refine (HIH.out j hlt kb (ko+j*5) 0 _ _ HQ.out (by omega) (by simp only [List.length_append,List.length_cons,List.length_nil] at hlen⊢;omega)).mono ?_
    rintro e w3 ⟨rfl,B3,K3⟩
    have L3:Hid (iV N T W S b o (.mk 18 t n nm kids) [32] kids 0 (l) w (j+1) w3):=iV.next hlt HD.out (by rw [HE.out,←List.append_assoc];exact I2.out.wrote B3 K3) (KB.trans uZ.out K3)
    clear B3 K3 c4
    go_wp2_with fail
    go_roundw
    case rel=>exact ⟨j+1,by omega,by go_num,L3⟩
    case measure=>simp [intOf];omega
  ·obtain rfl:j=kids.length:=by omega
   rw [List.drop_length] at hd
   have hd2:d=bH [32] true kids 0:=by simpa [bH] using hd
   subst hd2
   clear hd hK HI wE HD
   go_wp2_with fail
   exact ⟨_,results_none rfl _ _ _,rfl,I.out.jd,HK.out⟩
theorem TJ (N T W:Nat) (S:Nat→Prop) (b o i:Nat) (t:aj) (n:Int) (nm:aj) (kids:List aA) (l:List UInt8) (w:World) (h:pY N T W S b o (.mk 18 t n nm kids) l w) (hi:i<1) (hkl:kids.length<1000000000) (hl:l.length+(aG (.mk 18 t n nm kids) i).length≤big) (hih:EG N T W S kids) :
  nJ N T W S b o i (.mk 18 t n nm kids) l w:=by
 obtain ⟨hSb,hz,p0,p1,p2,p3,ka,cap,p4,hkk⟩:=h.pat.open
 dsimp only [aA.aY,aA.aW,aA.dY,aA.aX,aA.aU] at p0 p1 p2 p3 p4
 unfold nJ
 have HH:=ah h;have HIH:=ah hih
 have hN:T≤N:=h.hT
 have e0:decide ((i:Int)<1)=true:=ak (by omega)
 have hs:aG (.mk 18 t n nm kids) i=40::(bH [32] true kids 0++[41]):=by rw [aG];show sW (decide (i<1)) _=_;rw [ak (by omega:i<1)];rfl
 rw [hs] at hl⊢
 have eb:big=1000000000000:=rfl
 try simp only [List.length_append,List.length_cons,List.length_nil] at hl
 clear hkk hz hs hih h p1 p2 p3
 go_enter_defers Tryz.func36, Tryz.ntmps36
 go_wp2_with fail
 refine (jk N T l 40 40 rfl w HH.out.jd (by omega) HH.out.hw).mono ?_
 rintro e w1 ⟨rfl,B1,K1⟩
 have H1:=ah (HH.out.wrote B1 K1)
 have iG:=ah K1
 clear B1 K1 p0 p4
 obtain ⟨_,_,p0,_,_,_,Zz,cap',p4,_⟩:=H1.out.pat.open
 dsimp only [aA.aY,aA.aW,aA.dY,aA.aX,aA.aU] at p0 p4
 go_wp2_with fail
 go_loopw [157] (fun x wr=>∃j:Nat,j≤kids.length∧x=.int .i64 j∧Hid (iV N T W S b o (.mk 18 t n nm kids) [32] kids 0 (l++[40]) w1 j wr)) (fun x _=>kids.length-(intOf x).toNat)
 case atStart=>exact ⟨0,Nat.zero_le _,rfl,[],by simp,by simpa using H1.out,KB.refl _ _ _⟩
 case round =>
  obtain ⟨j,hj,rfl,wE⟩:=hrel
  clear p0 p4
  obtain ⟨d,hd,HI,hK⟩:=wE.out
  have I:=ah HI;have HK:=ah hK;have HD:=ah hd
  by_cases hlt:j<kids.length
  ·have hlen:=iV.len hlt hd
   obtain ⟨kb,ko,cap1,c4,hq⟩:=HI.kid j hlt
   have HQ:=ah hq
   clear hd hK HI hq wE
   by_cases hj0:j=0
   ·have y1:decide ((0:Int)<(j:Int))=false:=au (by omega)
    have y2:decide (0<j)=false:=au (by omega)
    have HE:Hid ((if j=0 then [] else ([32]:List UInt8))=[]):=if_pos hj0
    rw [if_pos hj0] at hlen
    clear hj0
    go_wp2_with fail
    refine (HIH.out j hlt kb (ko+j*5) 0 _ _ HQ.out (by omega) (by show ((l++[40])++d).length+_≤_;simp only [List.length_append,List.length_cons,List.length_nil];omega)).mono ?_
    rintro e w3 ⟨rfl,B3,K3⟩
    have L3:Hid (iV N T W S b o (.mk 18 t n nm kids) [32] kids 0 (l++[40]) w1 (j+1) w3):=iV.next hlt HD.out (by rw [HE.out];exact I.out.wrote B3 K3) (KB.trans HK.out K3)
    clear B3 K3 c4
    go_wp2_with fail
    go_roundw
    case rel=>exact ⟨j+1,by omega,by go_num,L3⟩
    case measure=>simp [intOf];omega
   ·have y1:decide ((0:Int)<(j:Int))=true:=ak (by omega)
    have y2:decide (0<j)=true:=ak (by omega)
    have HE:Hid ((if j=0 then [] else ([32]:List UInt8))=[32]):=if_neg hj0
    rw [if_neg hj0] at hlen
    clear hj0
    go_wp2_with fail
    refine (jk N T _ 32 32 rfl _ I.out.jd (by show ((l++[40])++d).length+1≤_;simp only [List.length_append,List.length_cons,List.length_nil] at hlen⊢;omega) I.out.hw).mono ?_
    rintro e w2 ⟨rfl,B2,K2⟩
    have I2:=ah (I.out.wrote B2 K2)
    have uZ:=ah (KB.trans HK.out K2)
    clear B2 K2 c4
    obtain ⟨kb,ko,cap1,c4,hq⟩:=I2.out.kid j hlt
    clear HQ
    have HQ:=ah hq
    clear hq
    go_wp2_with fail
    refine (HIH.out j hlt kb (ko+j*5) 0 _ _ HQ.out (by omega) (by simp only [List.length_append,List.length_cons,List.length_nil] at hlen⊢;omega)).mono ?_
    rintro e w3 ⟨rfl,B3,K3⟩
    have L3:Hid (iV N T W S b o (.mk 18 t n nm kids) [32] kids 0 (l++[40]) w1 (j+1) w3):=iV.next hlt HD.out (by rw [HE.out,←List.append_assoc];exact I2.out.wrote B3 K3) (KB.trans uZ.out K3)
    clear B3 K3 c4
    go_wp2_with fail
    go_roundw
    case rel=>exact ⟨j+1,by omega,by go_num,L3⟩
    case measure=>simp [intOf];omega
  ·obtain rfl:j=kids.length:=by omega
   rw [List.drop_length] at hd
   have hd2:d=bH [32] true kids 0:=by simpa [bH] using hd
   subst hd2
   clear hd hK HI wE HD
   go_wp2_with fail
   refine leaves_cons (f:=67) (args:=#[.pointer (some ⟨N,0,none⟩),.int .u8 41]) (by simp) (by simp [go_sem]) ?_
   refine (tJ N T _ 41 _ _ I.out.jd (by simp only [List.length_append,List.length_cons,List.length_nil];omega) I.out.hw).mono ?_
   rintro e u' w4 ⟨rfl,rfl,B4,K4⟩
   refine ⟨_,results_none rfl _ _ _,rfl,?_,KB.trans iG.out (KB.trans HK.out K4)⟩
   have:=B4
   simp only [List.append_assoc,List.cons_append,List.nil_append] at this
   exact this
end Go.Proofs.YtefjbnhpjdhjmaaGreatDoor

namespace Go.Proofs.YtefjbnhpjdhjmaaGreatDoor
set_option linter.all false
open Go.RowKit
set_option maxRecDepth 100000
set_option maxHeartbeats 8000000
theorem WM (N T W:Nat) (S:Nat→Prop) (b o i:Nat) (t:aj) (n:Int) (nm:aj) (kids:List aA) (l:List UInt8) (w:World) (h:pY N T W S b o (.mk 19 t n nm kids) l w) (hi:¬i<2) (hkl:kids.length<1000000000) (hl:l.length+(aG (.mk 19 t n nm kids) i).length≤big) (hih:EG N T W S kids) :
  nJ N T W S b o i (.mk 19 t n nm kids) l w:=by
 obtain ⟨hSb,hz,p0,p1,p2,p3,ka,cap,p4,hkk⟩:=h.pat.open
 dsimp only [aA.aY,aA.aW,aA.dY,aA.aX,aA.aU] at p0 p1 p2 p3 p4
 unfold nJ
 have HH:=ah h;have HIH:=ah hih
 have hN:T≤N:=h.hT
 have e0:decide ((i:Int)<2)=false:=au (by omega)
 have hs:aG (.mk 19 t n nm kids) i=bH [32,124,32] true kids 1:=by rw [aG];show sW (decide (i<2)) _=_;rw [au (by omega:¬i<2)];rfl
 rw [hs] at hl⊢
 have eb:big=1000000000000:=rfl
 try simp only [List.length_append,List.length_cons,List.length_nil] at hl
 clear hkk hz hs hih h p1 p2 p3
 go_enter_defers Tryz.func36, Tryz.ntmps36
 go_wp2_with fail
 go_loopw [157] (fun x wr=>∃j:Nat,j≤kids.length∧x=.int .i64 j∧Hid (iV N T W S b o (.mk 19 t n nm kids) [32,124,32] kids 1 (l) w j wr)) (fun x _=>kids.length-(intOf x).toNat)
 case atStart=>exact ⟨0,Nat.zero_le _,rfl,[],by simp,by simpa using HH.out,KB.refl _ _ _⟩
 case round =>
  obtain ⟨j,hj,rfl,wE⟩:=hrel
  clear p0 p4
  obtain ⟨d,hd,HI,hK⟩:=wE.out
  have I:=ah HI;have HK:=ah hK;have HD:=ah hd
  by_cases hlt:j<kids.length
  ·have hlen:=iV.len hlt hd
   obtain ⟨kb,ko,cap1,c4,hq⟩:=HI.kid j hlt
   have HQ:=ah hq
   clear hd hK HI hq wE
   by_cases hj0:j=0
   ·have y1:decide ((0:Int)<(j:Int))=false:=au (by omega)
    have y2:decide (0<j)=false:=au (by omega)
    have HE:Hid ((if j=0 then [] else ([32,124,32]:List UInt8))=[]):=if_pos hj0
    rw [if_pos hj0] at hlen
    clear hj0
    go_wp2_with fail
    refine (HIH.out j hlt kb (ko+j*5) 1 _ _ HQ.out (by omega) (by show ((l)++d).length+_≤_;simp only [List.length_append,List.length_cons,List.length_nil];omega)).mono ?_
    rintro e w3 ⟨rfl,B3,K3⟩
    have L3:Hid (iV N T W S b o (.mk 19 t n nm kids) [32,124,32] kids 1 (l) w (j+1) w3):=iV.next hlt HD.out (by rw [HE.out];exact I.out.wrote B3 K3) (KB.trans HK.out K3)
    clear B3 K3 c4
    go_wp2_with fail
    go_roundw
    case rel=>exact ⟨j+1,by omega,by go_num,L3⟩
    case measure=>simp [intOf];omega
   ·have y1:decide ((0:Int)<(j:Int))=true:=ak (by omega)
    have y2:decide (0<j)=true:=ak (by omega)
    have HE:Hid ((if j=0 then [] else ([32,124,32]:List UInt8))=[32,124,32]):=if_neg hj0
    rw [if_neg hj0] at hlen
    clear hj0
    go_wp2_with fail
    refine (bM N T _ ⟨#[32,124,32]⟩ _ I.out.jd (by show ((l)++d).length+3≤_;simp only [List.length_append,List.length_cons,List.length_nil] at hlen⊢;omega) I.out.hw).mono ?_
    rintro e w2 ⟨rfl,B2,K2⟩
    rw [show (⟨#[32,124,32]⟩:aj).data.toList=[32,124,32] from rfl] at B2
    have I2:=ah (I.out.wrote B2 K2)
    have uZ:=ah (KB.trans HK.out K2)
    clear B2 K2 c4
    obtain ⟨kb,ko,cap1,c4,hq⟩:=I2.out.kid j hlt
    clear HQ
    have HQ:=ah hq
    clear hq
    go_wp2_with fail
    refine (HIH.out j hlt kb (ko+j*5) 1 _ _ HQ.out (by omega) (by simp only [List.length_append,List.length_cons,List.length_nil] at hlen⊢;omega)).mono ?_
    rintro e w3 ⟨rfl,B3,K3⟩
    have L3:Hid (iV N T W S b o (.mk 19 t n nm kids) [32,124,32] kids 1 (l) w (j+1) w3):=iV.next hlt HD.out (by rw [HE.out,←List.append_assoc];exact I2.out.wrote B3 K3) (KB.trans uZ.out K3)
    clear B3 K3 c4
    go_wp2_with fail
    go_roundw
    case rel=>exact ⟨j+1,by omega,by go_num,L3⟩
    case measure=>simp [intOf];omega
  ·obtain rfl:j=kids.length:=by omega
   rw [List.drop_length] at hd
   have hd2:d=bH [32,124,32] true kids 1:=by simpa [bH] using hd
   subst hd2
   clear hd hK HI wE HD
   go_wp2_with fail
   exact ⟨_,results_none rfl _ _ _,rfl,I.out.jd,HK.out⟩
theorem TL (N T W:Nat) (S:Nat→Prop) (b o i:Nat) (t:aj) (n:Int) (nm:aj) (kids:List aA) (l:List UInt8) (w:World) (h:pY N T W S b o (.mk 19 t n nm kids) l w) (hi:i<2) (hkl:kids.length<1000000000) (hl:l.length+(aG (.mk 19 t n nm kids) i).length≤big) (hih:EG N T W S kids) :
  nJ N T W S b o i (.mk 19 t n nm kids) l w:=by
 obtain ⟨hSb,hz,p0,p1,p2,p3,ka,cap,p4,hkk⟩:=h.pat.open
 dsimp only [aA.aY,aA.aW,aA.dY,aA.aX,aA.aU] at p0 p1 p2 p3 p4
 unfold nJ
 have HH:=ah h;have HIH:=ah hih
 have hN:T≤N:=h.hT
 have e0:decide ((i:Int)<2)=true:=ak (by omega)
 have hs:aG (.mk 19 t n nm kids) i=40::(bH [32,124,32] true kids 1++[41]):=by rw [aG];show sW (decide (i<2)) _=_;rw [ak (by omega:i<2)];rfl
 rw [hs] at hl⊢
 have eb:big=1000000000000:=rfl
 try simp only [List.length_append,List.length_cons,List.length_nil] at hl
 clear hkk hz hs hih h p1 p2 p3
 go_enter_defers Tryz.func36, Tryz.ntmps36
 go_wp2_with fail
 refine (jk N T l 40 40 rfl w HH.out.jd (by omega) HH.out.hw).mono ?_
 rintro e w1 ⟨rfl,B1,K1⟩
 have H1:=ah (HH.out.wrote B1 K1)
 have iG:=ah K1
 clear B1 K1 p0 p4
 obtain ⟨_,_,p0,_,_,_,Zz,cap',p4,_⟩:=H1.out.pat.open
 dsimp only [aA.aY,aA.aW,aA.dY,aA.aX,aA.aU] at p0 p4
 go_wp2_with fail
 go_loopw [157] (fun x wr=>∃j:Nat,j≤kids.length∧x=.int .i64 j∧Hid (iV N T W S b o (.mk 19 t n nm kids) [32,124,32] kids 1 (l++[40]) w1 j wr)) (fun x _=>kids.length-(intOf x).toNat)
 case atStart=>exact ⟨0,Nat.zero_le _,rfl,[],by simp,by simpa using H1.out,KB.refl _ _ _⟩
 case round =>
  obtain ⟨j,hj,rfl,wE⟩:=hrel
  clear p0 p4
  obtain ⟨d,hd,HI,hK⟩:=wE.out
  have I:=ah HI;have HK:=ah hK;have HD:=ah hd
  by_cases hlt:j<kids.length
  ·have hlen:=iV.len hlt hd
   obtain ⟨kb,ko,cap1,c4,hq⟩:=HI.kid j hlt
   have HQ:=ah hq
   clear hd hK HI hq wE
   by_cases hj0:j=0
   ·have y1:decide ((0:Int)<(j:Int))=false:=au (by omega)
    have y2:decide (0<j)=false:=au (by omega)
    have HE:Hid ((if j=0 then [] else ([32,124,32]:List UInt8))=[]):=if_pos hj0
    rw [if_pos hj0] at hlen
    clear hj0
    go_wp2_with fail
    refine (HIH.out j hlt kb (ko+j*5) 1 _ _ HQ.out (by omega) (by show ((l++[40])++d).length+_≤_;simp only [List.length_append,List.length_cons,List.length_nil];omega)).mono ?_
    rintro e w3 ⟨rfl,B3,K3⟩
    have L3:Hid (iV N T W S b o (.mk 19 t n nm kids) [32,124,32] kids 1 (l++[40]) w1 (j+1) w3):=iV.next hlt HD.out (by rw [HE.out];exact I.out.wrote B3 K3) (KB.trans HK.out K3)
    clear B3 K3 c4
    go_wp2_with fail
    go_roundw
    case rel=>exact ⟨j+1,by omega,by go_num,L3⟩
    case measure=>simp [intOf];omega
   ·have y1:decide ((0:Int)<(j:Int))=true:=ak (by omega)
    have y2:decide (0<j)=true:=ak (by omega)
    have HE:Hid ((if j=0 then [] else ([32,124,32]:List UInt8))=[32,124,32]):=if_neg hj0
    rw [if_neg hj0] at hlen
    clear hj0
    go_wp2_with fail
    refine (bM N T _ ⟨#[32,124,32]⟩ _ I.out.jd (by show ((l++[40])++d).length+3≤_;simp only [List.length_append,List.length_cons,List.length_nil] at hlen⊢;omega) I.out.hw).mono ?_
    rintro e w2 ⟨rfl,B2,K2⟩
    rw [show (⟨#[32,124,32]⟩:aj).data.toList=[32,124,32] from rfl] at B2
    have I2:=ah (I.out.wrote B2 K2)
    have uZ:=ah (KB.trans HK.out K2)
    clear B2 K2 c4
    obtain ⟨kb,ko,cap1,c4,hq⟩:=I2.out.kid j hlt
    clear HQ
    have HQ:=ah hq
    clear hq
    go_wp2_with fail
    refine (HIH.out j hlt kb (ko+j*5) 1 _ _ HQ.out (by omega) (by simp only [List.length_append,List.length_cons,List.length_nil] at hlen⊢;omega)).mono ?_
    rintro e w3 ⟨rfl,B3,K3⟩
    have L3:Hid (iV N T W S b o (.mk 19 t n nm kids) [32,124,32] kids 1 (l++[40]) w1 (j+1) w3):=iV.next hlt HD.out (by rw [HE.out,←List.append_assoc];exact I2.out.wrote B3 K3) (KB.trans uZ.out K3)
    clear B3 K3 c4
    go_wp2_with fail
    go_roundw
    case rel=>exact ⟨j+1,by omega,by go_num,L3⟩
    case measure=>simp [intOf];omega
  ·obtain rfl:j=kids.length:=by omega
   rw [List.drop_length] at hd
   have hd2:d=bH [32,124,32] true kids 1:=by simpa [bH] using hd
   subst hd2
   clear hd hK HI wE HD
   go_wp2_with fail
   refine leaves_cons (f:=67) (args:=#[.pointer (some ⟨N,0,none⟩),.int .u8 41]) (by simp) (by simp [go_sem]) ?_
   refine (tJ N T _ 41 _ _ I.out.jd (by simp only [List.length_append,List.length_cons,List.length_nil];omega) I.out.hw).mono ?_
   rintro e u' w4 ⟨rfl,rfl,B4,K4⟩
   refine ⟨_,results_none rfl _ _ _,rfl,?_,KB.trans iG.out (KB.trans HK.out K4)⟩
   have:=B4
   simp only [List.append_assoc,List.cons_append,List.nil_append] at this
   exact this
end Go.Proofs.YtefjbnhpjdhjmaaGreatDoor
