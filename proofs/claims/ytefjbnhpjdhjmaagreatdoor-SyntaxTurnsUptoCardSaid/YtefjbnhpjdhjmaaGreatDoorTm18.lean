/-  -/
import Derived.Test.YtefjbnhpjdhjmaaGreatDoorTm6
import Derived.Test.YtefjbnhpjdhjmaaGreatDoorTm13
import Derived.Test.YtefjbnhpjdhjmaaGreatDoorTm19
namespace Go.Proofs.YtefjbnhpjdhjmaaGreatDoor
set_option linter.all false
open Go.RowKit
set_option maxRecDepth 100000
set_option maxHeartbeats 8000000
theorem Jp (sep:List UInt8) (kids:List aA) (i j:Nat) (hj:j<kids.length) :
  bG sep (decide (j=0)) (kids.drop j) i=(if j=0 then [] else sep)++(aG kids[j] i++bG sep (decide (j+1=0)) (kids.drop (j+1)) i):=by
 rw [List.drop_eq_getElem_cons hj,bG]
 by_cases h:j=0
 ·subst h;simp
 ·simp [h]
def jf (N T W:Nat) (S:Nat→Prop) (b o:Nat) (p:aA) (sep:List UInt8) (kids:List aA) (i:Nat) (l:List UInt8) (w:World) (j:Nat) (wr:World):Prop :=
 ∃d,d++bG sep (decide (j=0)) (kids.drop j) i=bG sep true kids i∧qg N T W S b o p (l++d) wr∧KB N T w wr
theorem jf.next {N T W:Nat} {S:Nat→Prop} {b o:Nat} {p:aA} {sep:List UInt8} {kids:List aA} {i:Nat} {l d:List UInt8} {w w':World} {j:Nat} (hj:j<kids.length)
  (hd:d++bG sep (decide (j=0)) (kids.drop j) i=bG sep true kids i) (h:qg N T W S b o p ((l++d)++((if j=0 then [] else sep)++aG kids[j] i)) w') (k:KB N T w w'):jf N T W S b o p sep kids i l w (j+1) w':=by
 refine ⟨d++((if j=0 then [] else sep)++aG kids[j] i),?_,by rw [List.append_assoc] at h;exact h,k⟩
 rw [Jp sep kids i j hj] at hd
 rw [←hd];simp [List.append_assoc]
theorem jf.len {sep:List UInt8} {kids:List aA} {i j:Nat} {d:List UInt8} (hj:j<kids.length) (hd:d++bG sep (decide (j=0)) (kids.drop j) i=bG sep true kids i) :
  d.length+(if j=0 then 0 else sep.length)+(aG kids[j] i).length≤(bG sep true kids i).length:=by
 rw [Jp sep kids i j hj] at hd
 have:=congrArg List.length hd
 simp only [List.length_append] at this
 split at this<;>split<;>simp_all<;>omega
theorem Xh (N T W:Nat) (S:Nat→Prop) (b o i:Nat) (t:aj) (n:Int) (nm:aj) (kids:List aA) (l:List UInt8) (w:World) (h:qg N T W S b o (.mk 18 t n nm kids) l w) (hi:¬i<1) (hkl:kids.length<1000000000) (hl:l.length+(aG (.mk 18 t n nm kids) i).length≤big) (hih:EO N T W S kids) :
  nR N T W S b o i (.mk 18 t n nm kids) l w:=by
 obtain ⟨hSb,hz,p0,p1,p2,p3,ka,cap,p4,hkk⟩:=h.pat.open
 dsimp only [aA.aZ,aA.aX,aA.eG,aA.aY,aA.aV] at p0 p1 p2 p3 p4
 unfold nR
 have HH:=ah h;have HIH:=ah hih
 have hN:T≤N:=h.hT
 have e0:decide ((i:Int)<1)=false:=au (by omega)
 have hs:aG (.mk 18 t n nm kids) i=bG [32] true kids 0:=by rw [aG];show sH (decide (i<1)) _=_;rw [au (by omega:¬i<1)];rfl
 rw [hs] at hl⊢
 have eb:big=1000000000000:=rfl
 try simp only [List.length_append,List.length_cons,List.length_nil] at hl
 clear hkk hz hs hih h p1 p2 p3
 go_enter_defers Tryz.func36, Tryz.ntmps36
 go_wp2_with fail
 go_loopw [157] (fun x wr=>∃j:Nat,j≤kids.length∧x=.int .i64 j∧Hid (jf N T W S b o (.mk 18 t n nm kids) [32] kids 0 (l) w j wr)) (fun x _=>kids.length-(intOf x).toNat)
 case atStart=>exact ⟨0,Nat.zero_le _,rfl,[],by simp,by simpa using HH.out,KB.refl _ _ _⟩
 case round =>
  obtain ⟨j,hj,rfl,wG⟩:=hrel
  clear p0 p4
  obtain ⟨d,hd,HI,hK⟩:=wG.out
  have I:=ah HI;have HK:=ah hK;have HD:=ah hd
  by_cases hlt:j<kids.length
  ·have hlen:=jf.len hlt hd
   obtain ⟨kb,ko,cap1,c4,hq⟩:=HI.kid j hlt
   have HQ:=ah hq
   clear hd hK HI hq wG
   by_cases hj0:j=0
   ·have y1:decide ((0:Int)<(j:Int))=false:=au (by omega)
    have y2:decide (0<j)=false:=au (by omega)
    have HE:Hid ((if j=0 then [] else ([32]:List UInt8))=[]):=if_pos hj0
    rw [if_pos hj0] at hlen
    clear hj0
    go_wp2_with fail
    refine (HIH.out j hlt kb (ko+j*5) 0 _ _ HQ.out (by omega) (by show ((l)++d).length+_≤_;simp only [List.length_append,List.length_cons,List.length_nil];omega)).mono ?_
    rintro e w3 ⟨rfl,B3,K3⟩
    have L3:Hid (jf N T W S b o (.mk 18 t n nm kids) [32] kids 0 (l) w (j+1) w3):=jf.next hlt HD.out (by rw [HE.out];exact I.out.wrote B3 K3) (KB.trans HK.out K3)
    clear B3 K3 c4
    go_wp2_with fail
    go_roundw
    case rel=>exact ⟨j+1,by omega,by go_num,L3⟩
    case measure=>simp [intOf];omega
   ·have y1:decide ((0:Int)<(j:Int))=true:=ak (by omega)
    have y2:decide (0<j)=true:=ak (by omega)
    have HE:Hid ((if j=0 then [] else ([32]:List UInt8))=[32]):=if_neg hj0
    rw [if_neg hj0] at hlen
    clear hj0
    go_wp2_with fail
    refine (jq N T _ 32 32 rfl _ I.out.jy (by show ((l)++d).length+1≤_;simp only [List.length_append,List.length_cons,List.length_nil] at hlen⊢;omega) I.out.hw).mono ?_
    rintro e w2 ⟨rfl,B2,K2⟩
    have I2:=ah (I.out.wrote B2 K2)
    have qw:=ah (KB.trans HK.out K2)
    clear B2 K2 c4
    obtain ⟨kb,ko,cap1,c4,hq⟩:=I2.out.kid j hlt
    clear HQ
    have HQ:=ah hq
    clear hq
    go_wp2_with fail
    refine (HIH.out j hlt kb (ko+j*5) 0 _ _ HQ.out (by omega) (by simp only [List.length_append,List.length_cons,List.length_nil] at hlen⊢;omega)).mono ?_
    rintro e w3 ⟨rfl,B3,K3⟩
    have L3:Hid (jf N T W S b o (.mk 18 t n nm kids) [32] kids 0 (l) w (j+1) w3):=jf.next hlt HD.out (by rw [HE.out,←List.append_assoc];exact I2.out.wrote B3 K3) (KB.trans qw.out K3)
    clear B3 K3 c4
    go_wp2_with fail
    go_roundw
    case rel=>exact ⟨j+1,by omega,by go_num,L3⟩
    case measure=>simp [intOf];omega
  ·obtain rfl:j=kids.length:=by omega
   rw [List.drop_length] at hd
   have hd2:d=bG [32] true kids 0:=by simpa [bG] using hd
   subst hd2
   clear hd hK HI wG HD
   go_wp2_with fail
   exact ⟨_,results_none rfl _ _ _,rfl,I.out.jy,HK.out⟩
theorem Un (N T W:Nat) (S:Nat→Prop) (b o i:Nat) (t:aj) (n:Int) (nm:aj) (kids:List aA) (l:List UInt8) (w:World) (h:qg N T W S b o (.mk 18 t n nm kids) l w) (hi:i<1) (hkl:kids.length<1000000000) (hl:l.length+(aG (.mk 18 t n nm kids) i).length≤big) (hih:EO N T W S kids) :
  nR N T W S b o i (.mk 18 t n nm kids) l w:=by
 obtain ⟨hSb,hz,p0,p1,p2,p3,ka,cap,p4,hkk⟩:=h.pat.open
 dsimp only [aA.aZ,aA.aX,aA.eG,aA.aY,aA.aV] at p0 p1 p2 p3 p4
 unfold nR
 have HH:=ah h;have HIH:=ah hih
 have hN:T≤N:=h.hT
 have e0:decide ((i:Int)<1)=true:=ak (by omega)
 have hs:aG (.mk 18 t n nm kids) i=40::(bG [32] true kids 0++[41]):=by rw [aG];show sH (decide (i<1)) _=_;rw [ak (by omega:i<1)];rfl
 rw [hs] at hl⊢
 have eb:big=1000000000000:=rfl
 try simp only [List.length_append,List.length_cons,List.length_nil] at hl
 clear hkk hz hs hih h p1 p2 p3
 go_enter_defers Tryz.func36, Tryz.ntmps36
 go_wp2_with fail
 refine (jq N T l 40 40 rfl w HH.out.jy (by omega) HH.out.hw).mono ?_
 rintro e w1 ⟨rfl,B1,K1⟩
 have H1:=ah (HH.out.wrote B1 K1)
 have iH:=ah K1
 clear B1 K1 p0 p4
 obtain ⟨_,_,p0,_,_,_,ka',cap',p4,_⟩:=H1.out.pat.open
 dsimp only [aA.aZ,aA.aX,aA.eG,aA.aY,aA.aV] at p0 p4
 go_wp2_with fail
 go_loopw [157] (fun x wr=>∃j:Nat,j≤kids.length∧x=.int .i64 j∧Hid (jf N T W S b o (.mk 18 t n nm kids) [32] kids 0 (l++[40]) w1 j wr)) (fun x _=>kids.length-(intOf x).toNat)
 case atStart=>exact ⟨0,Nat.zero_le _,rfl,[],by simp,by simpa using H1.out,KB.refl _ _ _⟩
 case round =>
  obtain ⟨j,hj,rfl,wG⟩:=hrel
  clear p0 p4
  obtain ⟨d,hd,HI,hK⟩:=wG.out
  have I:=ah HI;have HK:=ah hK;have HD:=ah hd
  by_cases hlt:j<kids.length
  ·have hlen:=jf.len hlt hd
   obtain ⟨kb,ko,cap1,c4,hq⟩:=HI.kid j hlt
   have HQ:=ah hq
   clear hd hK HI hq wG
   by_cases hj0:j=0
   ·have y1:decide ((0:Int)<(j:Int))=false:=au (by omega)
    have y2:decide (0<j)=false:=au (by omega)
    have HE:Hid ((if j=0 then [] else ([32]:List UInt8))=[]):=if_pos hj0
    rw [if_pos hj0] at hlen
    clear hj0
    go_wp2_with fail
    refine (HIH.out j hlt kb (ko+j*5) 0 _ _ HQ.out (by omega) (by show ((l++[40])++d).length+_≤_;simp only [List.length_append,List.length_cons,List.length_nil];omega)).mono ?_
    rintro e w3 ⟨rfl,B3,K3⟩
    have L3:Hid (jf N T W S b o (.mk 18 t n nm kids) [32] kids 0 (l++[40]) w1 (j+1) w3):=jf.next hlt HD.out (by rw [HE.out];exact I.out.wrote B3 K3) (KB.trans HK.out K3)
    clear B3 K3 c4
    go_wp2_with fail
    go_roundw
    case rel=>exact ⟨j+1,by omega,by go_num,L3⟩
    case measure=>simp [intOf];omega
   ·have y1:decide ((0:Int)<(j:Int))=true:=ak (by omega)
    have y2:decide (0<j)=true:=ak (by omega)
    have HE:Hid ((if j=0 then [] else ([32]:List UInt8))=[32]):=if_neg hj0
    rw [if_neg hj0] at hlen
    clear hj0
    go_wp2_with fail
    refine (jq N T _ 32 32 rfl _ I.out.jy (by show ((l++[40])++d).length+1≤_;simp only [List.length_append,List.length_cons,List.length_nil] at hlen⊢;omega) I.out.hw).mono ?_
    rintro e w2 ⟨rfl,B2,K2⟩
    have I2:=ah (I.out.wrote B2 K2)
    have qw:=ah (KB.trans HK.out K2)
    clear B2 K2 c4
    obtain ⟨kb,ko,cap1,c4,hq⟩:=I2.out.kid j hlt
    clear HQ
    have HQ:=ah hq
    clear hq
    go_wp2_with fail
    refine (HIH.out j hlt kb (ko+j*5) 0 _ _ HQ.out (by omega) (by simp only [List.length_append,List.length_cons,List.length_nil] at hlen⊢;omega)).mono ?_
    rintro e w3 ⟨rfl,B3,K3⟩
    have L3:Hid (jf N T W S b o (.mk 18 t n nm kids) [32] kids 0 (l++[40]) w1 (j+1) w3):=jf.next hlt HD.out (by rw [HE.out,←List.append_assoc];exact I2.out.wrote B3 K3) (KB.trans qw.out K3)
    clear B3 K3 c4
    go_wp2_with fail
    go_roundw
    case rel=>exact ⟨j+1,by omega,by go_num,L3⟩
    case measure=>simp [intOf];omega
  ·obtain rfl:j=kids.length:=by omega
   rw [List.drop_length] at hd
   have hd2:d=bG [32] true kids 0:=by simpa [bG] using hd
   subst hd2
   clear hd hK HI wG HD
   go_wp2_with fail
   refine leaves_cons (f:=67) (args:=#[.pointer (some ⟨N,0,none⟩),.int .u8 41]) (by simp) (by simp [go_sem]) ?_
   refine (sZ N T _ 41 _ _ I.out.jy (by simp only [List.length_append,List.length_cons,List.length_nil];omega) I.out.hw).mono ?_
   rintro e u' w4 ⟨rfl,rfl,B4,K4⟩
   refine ⟨_,results_none rfl _ _ _,rfl,?_,KB.trans iH.out (KB.trans HK.out K4)⟩
   have:=B4
   simp only [List.append_assoc,List.cons_append,List.nil_append] at this
   exact this
end Go.Proofs.YtefjbnhpjdhjmaaGreatDoor

namespace Go.Proofs.YtefjbnhpjdhjmaaGreatDoor
set_option linter.all false
open Go.RowKit
set_option maxRecDepth 100000
set_option maxHeartbeats 4000000
def rO (k:Int):aj:=if 8≤k∧k≤13 then ⟨[iq k].toArray⟩ else ⟨#[]⟩
def xk (k:Int):Nat:=if k=7 then 5 else dA k
theorem oJ (k:Int) (w:World):Calls Tryz.prog 70 #[.int .i64 k] w fun e w'=>e=.returned (.tuple #[.string (rO k),.int .i64 (xk k:Int)])∧w'=w:=by
 by_cases h:8≤k∧k≤13
 ·obtain rfl|rfl|rfl|rfl|rfl|rfl:k=8∨k=9∨k=10∨k=11∨k=12∨k=13:=by omega
  all_goals
   go_enter Tryz.func70, Tryz.ntmps70
   go_wp2
   go_ret2
   exact ⟨rfl,rfl⟩
 ·have e1:rO k=⟨#[]⟩:=if_neg h
  have e2:xk k=5:=by
                unfold xk dA;repeat' split
                all_goals first|rfl|omega
  have z8:(k==8)=false:=by simp;omega
  have z9:(k==9)=false:=by simp;omega
  have z10:(k==10)=false:=by simp;omega
  have z11:(k==11)=false:=by simp;omega
  have z12:(k==12)=false:=by simp;omega
  have z13:(k==13)=false:=by simp;omega
  rw [e1,e2]
  clear e1 e2 h
  go_enter Tryz.func70, Tryz.ntmps70
  go_wp2
  go_ret2
  exact ⟨rfl,rfl⟩
structure rP (N T:Nat) (S:Nat→Prop) (b o:Nat) (p:aA) (l:List UInt8) (w:World):Prop where
 jy:oQ N T l w
 gl:Glob w
 hw:T≤w.heap.size
 pat:dL w S b o p
 hS:∀y,S y→y<T
 hT:T≤N
 hg:0<T∧1<T
section
variable {N T:Nat} {S:Nat→Prop} {b o:Nat} {p:aA} {l l':List UInt8} {w w':World}
theorem rP.wrote (h:rP N T S b o p l w) (B:oQ N T l' w') (k:KB N T w w'):rP N T S b o p l' w' :=
 ⟨B,h.gl.below (k.below h.hT h.hw) h.hg,Nat.le_trans h.hw (Kept.size k),h.pat.kept k (Rx h.hS h.hT h.hw),h.hS,h.hT,h.hg⟩
theorem rP.quiet (h:rP N T S b o p l w) (k:Kept aF w w'):rP N T S b o p l w' :=
 h.wrote (h.jy.kept k) (Kept.more k fun _ h=>h.elim)
theorem rP.kid {k n:Int} {t nm:aj} {kids:List aA} (h:rP N T S b o (.mk k t n nm kids) l w) (j:Nat) (hj:j<kids.length) :
  ∃kb ko cap,w.cell? ⟨b,o+4,none⟩=some (.slice (some ⟨kb,ko,none⟩) kids.length cap)∧rP N T S kb (ko+j*5) kids[j] l w:=by
 obtain ⟨_,_,_,_,_,_,ka,cap,p4,hk⟩:=h.pat.open
 dsimp only [aA.aV] at p4 hk
 obtain ⟨kb,ko,rfl⟩:=iJ hk (by omega)
 exact ⟨kb,ko,cap,p4,h.jy,h.gl,h.hw,iO kids kb ko j hj hk,h.hS,h.hT,h.hg⟩
end
theorem TM (n:Int) (w:World) (hg:Glob w) (h0:0≤n) (h1:n≤9223372036854775807):Calls Tryz.prog 71 #[.int .i64 n,.int .i64 10] w (zy (Lib.decDigits n.toNat) w):=by
 refine (Tryz.strconv_FormatInt_10 n (by omega) (by omega) w hg.2).mono ?_
 rintro e w' ⟨rfl,k,os,rfl⟩
 refine ⟨by unfold Lib.itoa;rw [if_neg (by omega)],?_⟩
 refine ⟨rfl,rfl,rfl,?_,fun j hj _=>?_⟩
 ·show w.heap.size≤(w.heap++os).size;simp
 ·show (w.heap++os)[j]?=_;rw [Array.getElem?_append_left hj]
def oZ (N T b o i:Nat) (p:aA) (l:List UInt8) (w:World):Prop :=
 Calls Tryz.prog 38 #[.pointer (some ⟨N,0,none⟩),.pointer (some ⟨b,o,none⟩),.int .i64 i] w (OJ N T (l++aP p i) w)
def Ew (N T:Nat) (S:Nat→Prop) (kids:List aA):Prop :=
 ∀(j:Nat) (hj:j<kids.length) (b o i:Nat) (l:List UInt8) (w:World),rP N T S b o kids[j] l w→i≤5→l.length+(aP kids[j] i).length≤big→oZ N T b o i kids[j] l w
section
variable (N T:Nat) (S:Nat→Prop) (b o i:Nat) (t:aj) (n:Int) (nm:aj) (kids:List aA) (l:List UInt8) (w:World)
theorem Za (h:rP N T S b o (.mk 1 t n nm kids) l w) (hn:lS (.mk 1 t n nm kids)) (hi:i≤5) (hl:l.length+(aP (.mk 1 t n nm kids) i).length≤big):oZ N T b o i (.mk 1 t n nm kids) l w:=by
 obtain ⟨_,ht,_⟩:=hn.facts
 obtain ⟨_,_,p0,p1,p2,p3,ka,cap,p4,-⟩:=h.pat.open
 dsimp only [aA.aZ,aA.aX,aA.eG,aA.aY,aA.aV] at p0 p1 p2 p3 p4
 unfold big at hl
 unfold oZ
 have HH:=ah h
 have e0:decide ((5:Int)<(i:Int))=false:=au (by omega)
 have hs:aP (.mk 1 t n nm kids) i=gJ t:=by rw [aP,if_pos rfl]
 rw [hs] at hl⊢
 have htq:t.size≤100000:=by have:=ht rfl;omega
 have hln:Hid (l.length+(⟨(gJ t).toArray⟩:aj).size≤140737488355328):=by unfold Hid;show l.length+(gJ t).toArray.size≤_;rw [List.size_toArray];omega
 clear hs h hn ht
 go_enter_defers Tryz.func38, Tryz.ntmps38
 go_wp2_with (first
  | (go_at_call 70;(refine (oJ 1 w).mono ?_);rintro e w' ⟨rfl,aU⟩;obtain rfl:=aU.symm;simp only [rO,xk,dA])
  | (go_at_call 68;(with_reducible refine (Ey t _ HH.out.gl htq).mono ?_);(rintro e w1 ⟨rfl,K1⟩);(have h1:=ah (HH.out.quiet K1));(have iH:=ah K1);clear K1)
  | (go_at_call 31;go_loud ((refine (bW N T l _ _ h1.out.jy hln.out h1.out.hw).mono ?_);(rintro e w2 ⟨rfl,Q,K2⟩);(have KK:Hid (KB N T w w2):=KB.trans (Kept.more iH.out fun _ h=>h.elim) K2);(have Q:=ah Q);clear K2)))
 exact ⟨_,results_none rfl _ _ _,rfl,Q.out,KK.out⟩
theorem abj (h:rP N T S b o (.mk 2 t n nm kids) l w) (hn:lS (.mk 2 t n nm kids)) (hi:i≤5) (hl:l.length+(aP (.mk 2 t n nm kids) i).length≤big):oZ N T b o i (.mk 2 t n nm kids) l w:=by
 obtain ⟨_,_,hn0,hn1,_⟩:=hn.facts
 obtain ⟨_,_,p0,p1,p2,p3,ka,cap,p4,-⟩:=h.pat.open
 dsimp only [aA.aZ,aA.aX,aA.eG,aA.aY,aA.aV] at p0 p1 p2 p3 p4
 unfold big at hl
 unfold oZ
 have HH:=ah h
 have e0:decide ((5:Int)<(i:Int))=false:=au (by omega)
 have hs:aP (.mk 2 t n nm kids) i=Lib.decDigits n.toNat:=by rw [aP,if_neg (by decide),if_pos rfl]
 rw [hs] at hl⊢
 have hn2:=hn0 rfl
 have hln:Hid (l.length+(⟨(Lib.decDigits n.toNat).toArray⟩:aj).size≤140737488355328):=by unfold Hid;show l.length+(Lib.decDigits n.toNat).toArray.size≤_;rw [List.size_toArray];omega
 clear hs h hn hn0
 go_enter_defers Tryz.func38, Tryz.ntmps38
 go_wp2_with (first
  | (go_at_call 70;(refine (oJ 2 w).mono ?_);rintro e w' ⟨rfl,aU⟩;obtain rfl:=aU.symm;simp only [rO,xk,dA])
  | (go_at_call 71;(with_reducible refine (TM n _ HH.out.gl hn2 hn1).mono ?_);(rintro e w1 ⟨rfl,K1⟩);(have h1:=ah (HH.out.quiet K1));(have iH:=ah K1);clear K1)
  | (go_at_call 31;(refine (bW N T l _ _ h1.out.jy hln.out h1.out.hw).mono ?_);(rintro e w2 ⟨rfl,Q,K2⟩);(have KK:Hid (KB N T w w2):=KB.trans (Kept.more iH.out fun _ h=>h.elim) K2);(have Q:=ah Q);clear K2))
 exact ⟨_,results_none rfl _ _ _,rfl,Q.out,KK.out⟩
theorem Zb (h:rP N T S b o (.mk 3 t n nm kids) l w) (hn:lS (.mk 3 t n nm kids)) (hi:i≤5) (hl:l.length+(aP (.mk 3 t n nm kids) i).length≤big):oZ N T b o i (.mk 3 t n nm kids) l w:=by
 obtain ⟨_,_,p0,p1,p2,p3,ka,cap,p4,-⟩:=h.pat.open
 dsimp only [aA.aZ,aA.aX,aA.eG,aA.aY,aA.aV] at p0 p1 p2 p3 p4
 unfold big at hl
 unfold oZ
 have HH:=ah h
 have e0:decide ((5:Int)<(i:Int))=false:=au (by omega)
 have hs:aP (.mk 3 t n nm kids) i=nm.data.toList:=by rw [aP,if_neg (by decide),if_neg (by decide),if_pos rfl]
 rw [hs] at hl⊢
 have hln:Hid (l.length+nm.size≤140737488355328):=by unfold Hid;have e:nm.data.toList.length=nm.size:=rfl;omega
 clear hs h hn
 go_enter_defers Tryz.func38, Tryz.ntmps38
 go_wp2_with (first
  | (go_at_call 70;(refine (oJ 3 w).mono ?_);rintro e w' ⟨rfl,aU⟩;obtain rfl:=aU.symm;simp only [rO,xk,dA])
  | (go_at_call 31;(refine (bW N T l _ _ HH.out.jy hln.out HH.out.hw).mono ?_);(rintro e w2 ⟨rfl,Q,K2⟩);(have KK:Hid (KB N T w w2):=K2);(have Q:=ah Q);clear K2))
 exact ⟨_,results_none rfl _ _ _,rfl,Q.out,KK.out⟩
end
end Go.Proofs.YtefjbnhpjdhjmaaGreatDoor

namespace Go.Proofs.YtefjbnhpjdhjmaaGreatDoor
set_option linter.all false
open Go.RowKit
set_option maxRecDepth 100000
set_option maxHeartbeats 4000000
section
variable (N T:Nat) (S:Nat→Prop) (b o i:Nat) (t:aj) (n:Int) (nm:aj) (kids:List aA) (l:List UInt8) (w:World)
theorem abm (k:Int) (hk:8≤k) (h:rP N T S b o (.mk k t n nm kids) l w) (hn:lS (.mk k t n nm kids)) (hi:i≤5) (hp:¬dA k<i) (hl:l.length+(aP (.mk k t n nm kids) i).length≤big) (hih:Ew N T S kids):oZ N T b o i (.mk k t n nm kids) l w:=by
 obtain ⟨p,q,rfl⟩:=hn.two hk
 have hfc:=hn.facts.1
 obtain ⟨_,_,p0,p1,p2,p3,ka,cap,p4,-⟩:=h.pat.open
 dsimp only [aA.aZ,aA.aX,aA.eG,aA.aY,aA.aV] at p0 p1 p2 p3 p4
 unfold oZ
 have HH:=ah h;have HIH:=ah hih
 have hs:aP (.mk k t n nm [p,q]) i=(aP p (dA k)++([32,iq k,32]++aP q (dA k+1))):=by
  rw [aP,if_neg (by omega),if_neg (by omega),if_neg (by omega),if_neg (by omega),if_neg (by omega),if_neg (by omega),if_neg (by omega)]
  simp only [xg,o7]
  rw [au hp];rfl
 rw [hs] at hl⊢
 have eb:big=1000000000000:=rfl
 simp only [List.length_append,List.length_cons,List.length_nil] at hl
 have hsg:rO k=⟨[iq k].toArray⟩:=if_pos (by omega)
 have hos:xk k=dA k:=if_neg (by omega)
 have how:dA k≤3:=by unfold dA;split;omega;split;omega;split;omega;omega
 have hstr:Hid ((⟨#[32]⟩:aj)++⟨[iq k].toArray⟩++⟨#[32]⟩=⟨[32,iq k,32].toArray⟩):=by
  unfold Hid;show (⟨[32].toArray⟩:aj)++⟨[iq k].toArray⟩++⟨[32].toArray⟩=_;rw [kX,kX];rfl
 have Ze:(⟨[iq k].toArray⟩:aj).size=1:=rfl
 generalize hsb:(⟨[iq k].toArray⟩:aj)=sb at hsg hstr Ze
 generalize dA k=ow at *
 have HS:=ah (show rO k=sb from hsg);have HO:=ah hos
 have e0:decide ((ow:Int)<(i:Int))=false:=au (by omega)
 have e0':decide (ow<i)=false:=au hp
 have z1:(k==1)=false:=by simp;omega
 have z2:(k==2)=false:=by simp;omega
 have z3:(k==3)=false:=by simp;omega
 have z4:(k==4)=false:=by simp;omega
 have z5:(k==5)=false:=by simp;omega
 have z6:(k==6)=false:=by simp;omega
 have z7:(k==7)=false:=by simp;omega
 clear hs hih h hn hfc p1 p2 p3 hsg hos hsb hp
 obtain ⟨kb,ko,cap1,c4,hq⟩:=HH.out.kid 0 (by simp)
 have HQ:=ah hq
 clear hq p4
 go_enter_defers Tryz.func38, Tryz.ntmps38
 go_wp2_with (go_at_call 70;(refine (oJ k w).mono ?_);rintro e w' ⟨rfl,aU⟩;obtain rfl:=aU.symm;rw [HS.out,HO.out])
 refine (HIH.out 0 (by simp) kb ko ow (l) w (by have:=HQ.out;simpa using this) (by omega) (by show (l).length+(aP p ow).length≤_;(try simp only [List.length_append,List.length_cons,List.length_nil]);omega)).mono ?_
 rintro e w3 ⟨rfl,B3,K3⟩
 have B3':oQ N T ((l)++aP p ow) w3:=B3
 have H3:=ah (HH.out.wrote B3' K3)
 have HK3:=ah K3
 clear B3 B3' K3 c4 p0
 go_wp2_with fail
 rw [hstr.out]
 refine (bW N T _ _ _ H3.out.jy (by show ((l)++aP p ow).length + [32,iq k,32].toArray.size≤_;rw [List.size_toArray];(try simp only [List.length_append,List.length_cons,List.length_nil]);omega) H3.out.hw).mono ?_
 rintro e w4 ⟨rfl,B4,K4⟩
 have Wy:oQ N T (((l)++aP p ow)++[32,iq k,32]) w4:=B4
 have h4:=H3.out.wrote Wy K4
 obtain ⟨kb2,ko2,cap2,c5,hq2⟩:=h4.kid 1 (by simp)
 have H4:=ah h4;have HQ2:=ah hq2;have D5:=ah (KB.trans HK3.out K4)
 clear B4 Wy K4 h4 hq2
 go_wp2_with fail
 try rw [show (ow:Int)+1=((ow+1:Nat):Int) from rfl]
 refine (HIH.out 1 (by simp) kb2 (ko2+1*5) (ow+1) (((l)++aP p ow)++[32,iq k,32]) w4 (by have:=HQ2.out;simpa using this) (by omega) (by show (((l)++aP p ow)++[32,iq k,32]).length+(aP q (ow+1)).length≤_;(try simp only [List.length_append,List.length_cons,List.length_nil]);omega)).mono ?_
 rintro e w5 ⟨rfl,B5,K5⟩
 have Am:oQ N T ((((l)++aP p ow)++[32,iq k,32])++aP q (ow+1)) w5:=B5
 have H5:=ah (H4.out.wrote Am K5)
 have KK:=ah (KB.trans D5.out K5)
 clear B5 Am K5 c5
 go_wp2_with fail
 refine ⟨_,results_none rfl _ _ _,rfl,?_,KK.out⟩
 have:=H5.out.jy
 simp only [List.append_assoc,List.cons_append,List.nil_append] at this⊢
 exact this
theorem Zf (k:Int) (hk:8≤k) (h:rP N T S b o (.mk k t n nm kids) l w) (hn:lS (.mk k t n nm kids)) (hi:i≤5) (hp:dA k<i) (hl:l.length+(aP (.mk k t n nm kids) i).length≤big) (hih:Ew N T S kids):oZ N T b o i (.mk k t n nm kids) l w:=by
 obtain ⟨p,q,rfl⟩:=hn.two hk
 have hfc:=hn.facts.1
 obtain ⟨_,_,p0,p1,p2,p3,ka,cap,p4,-⟩:=h.pat.open
 dsimp only [aA.aZ,aA.aX,aA.eG,aA.aY,aA.aV] at p0 p1 p2 p3 p4
 unfold oZ
 have HH:=ah h;have HIH:=ah hih
 have hs:aP (.mk k t n nm [p,q]) i=40::((aP p (dA k)++([32,iq k,32]++aP q (dA k+1)))++[41]):=by
  rw [aP,if_neg (by omega),if_neg (by omega),if_neg (by omega),if_neg (by omega),if_neg (by omega),if_neg (by omega),if_neg (by omega)]
  simp only [xg,o7]
  rw [ak hp];rfl
 rw [hs] at hl⊢
 have eb:big=1000000000000:=rfl
 simp only [List.length_append,List.length_cons,List.length_nil] at hl
 have hsg:rO k=⟨[iq k].toArray⟩:=if_pos (by omega)
 have hos:xk k=dA k:=if_neg (by omega)
 have how:dA k≤3:=by unfold dA;split;omega;split;omega;split;omega;omega
 have hstr:Hid ((⟨#[32]⟩:aj)++⟨[iq k].toArray⟩++⟨#[32]⟩=⟨[32,iq k,32].toArray⟩):=by
  unfold Hid;show (⟨[32].toArray⟩:aj)++⟨[iq k].toArray⟩++⟨[32].toArray⟩=_;rw [kX,kX];rfl
 have Ze:(⟨[iq k].toArray⟩:aj).size=1:=rfl
 generalize hsb:(⟨[iq k].toArray⟩:aj)=sb at hsg hstr Ze
 generalize dA k=ow at *
 have HS:=ah (show rO k=sb from hsg);have HO:=ah hos
 have e0:decide ((ow:Int)<(i:Int))=true:=ak (by omega)
 have e0':decide (ow<i)=true:=ak hp
 have z1:(k==1)=false:=by simp;omega
 have z2:(k==2)=false:=by simp;omega
 have z3:(k==3)=false:=by simp;omega
 have z4:(k==4)=false:=by simp;omega
 have z5:(k==5)=false:=by simp;omega
 have z6:(k==6)=false:=by simp;omega
 have z7:(k==7)=false:=by simp;omega
 clear hs hih h hn hfc p1 p2 p3 hsg hos hsb hp
 obtain ⟨kb,ko,cap1,c4,hq⟩:=HH.out.kid 0 (by simp)
 have HQ:=ah hq
 clear hq p4
 go_enter_defers Tryz.func38, Tryz.ntmps38
 go_wp2_with (go_at_call 70;(refine (oJ k w).mono ?_);rintro e w' ⟨rfl,aU⟩;obtain rfl:=aU.symm;rw [HS.out,HO.out])
 refine (jq N T l 40 40 rfl w HH.out.jy (by omega) HH.out.hw).mono ?_
 rintro e w1 ⟨rfl,B1,K1⟩
 have h1:=HH.out.wrote B1 K1
 have iH:=ah K1
 clear HQ c4
 obtain ⟨_,_,r0,-,-,-,_,_,-,-⟩:=h1.pat.open
 dsimp only [aA.aZ] at r0
 obtain ⟨kb,ko,cap1,c4,hq⟩:=h1.kid 0 (by simp)
 have H1:=ah h1;have HQ:=ah hq
 clear B1 K1 h1 p0 hq
 go_wp2_with fail
 refine (HIH.out 0 (by simp) kb ko ow (l++[40]) w1 (by have:=HQ.out;simpa using this) (by omega) (by show (l++[40]).length+(aP p ow).length≤_;(try simp only [List.length_append,List.length_cons,List.length_nil]);omega)).mono ?_
 rintro e w3 ⟨rfl,B3,K3⟩
 have B3':oQ N T ((l++[40])++aP p ow) w3:=B3
 have H3:=ah (H1.out.wrote B3' K3)
 have HK3:=ah (KB.trans iH.out K3)
 clear B3 B3' K3 c4 r0
 go_wp2_with fail
 rw [hstr.out]
 refine (bW N T _ _ _ H3.out.jy (by show ((l++[40])++aP p ow).length + [32,iq k,32].toArray.size≤_;rw [List.size_toArray];(try simp only [List.length_append,List.length_cons,List.length_nil]);omega) H3.out.hw).mono ?_
 rintro e w4 ⟨rfl,B4,K4⟩
 have Wy:oQ N T (((l++[40])++aP p ow)++[32,iq k,32]) w4:=B4
 have h4:=H3.out.wrote Wy K4
 obtain ⟨kb2,ko2,cap2,c5,hq2⟩:=h4.kid 1 (by simp)
 have H4:=ah h4;have HQ2:=ah hq2;have D5:=ah (KB.trans HK3.out K4)
 clear B4 Wy K4 h4 hq2
 go_wp2_with fail
 try rw [show (ow:Int)+1=((ow+1:Nat):Int) from rfl]
 refine (HIH.out 1 (by simp) kb2 (ko2+1*5) (ow+1) (((l++[40])++aP p ow)++[32,iq k,32]) w4 (by have:=HQ2.out;simpa using this) (by omega) (by show (((l++[40])++aP p ow)++[32,iq k,32]).length+(aP q (ow+1)).length≤_;(try simp only [List.length_append,List.length_cons,List.length_nil]);omega)).mono ?_
 rintro e w5 ⟨rfl,B5,K5⟩
 have Am:oQ N T ((((l++[40])++aP p ow)++[32,iq k,32])++aP q (ow+1)) w5:=B5
 have H5:=ah (H4.out.wrote Am K5)
 have KK:=ah (KB.trans D5.out K5)
 clear B5 Am K5 c5
 go_wp2_with fail
 refine leaves_cons (f:=67) (args:=#[.pointer (some ⟨N,0,none⟩),.int .u8 41]) (by simp) (by simp [go_sem]) ?_
 refine (sZ N T _ 41 _ _ H5.out.jy (by (try simp only [List.length_append,List.length_cons,List.length_nil]);omega) H5.out.hw).mono ?_
 rintro e u' w6 ⟨rfl,rfl,B6,K6⟩
 refine ⟨_,results_none rfl _ _ _,rfl,?_,KB.trans KK.out K6⟩
 have:=B6
 simp only [List.append_assoc,List.cons_append,List.nil_append] at this⊢
 exact this
end
end Go.Proofs.YtefjbnhpjdhjmaaGreatDoor
