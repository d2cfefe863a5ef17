/-  -/
import Derived.Test.YtodebjhalipefaaGreatDoorLy1
import Derived.Test.YtodebjhalipefaaGreatDoorLq11
import Derived.Test.YtodebjhalipefaaGreatDoorLq10
namespace Go.Proofs.YtodebjhalipefaaGreatDoor
set_option linter.all false
open Go.RowKit
set_option maxRecDepth 100000
set_option maxHeartbeats 4000000
def vK (n:aj):Nat→jF→Int
 | _,[] => -1
 | i,x::q=>if x.1=n then (i:Int) else vK n (i+1) q
theorem XU (n:aj) (l:jF) (j:Nat) (h:j<l.length):vK n j (l.drop j)=if l[j].1=n then (j:Int) else vK n (j+1) (l.drop (j+1)):=by
 rw [List.drop_eq_getElem_cons h,vK]
def oK (n:aj):jF→aj×Int
 | []=>(⟨#[]⟩,7)
 | x::q=>if x.1=n then (x.2,0) else oK n q
theorem U4 {a b:aj}:(a.toList==b.toList)=decide (a=b):=by
 rw [Bool.eq_iff_iff,decide_eq_true_eq,beq_iff_eq,ByteArray.toList_eq,ByteArray.toList_eq]
 constructor
 ·intro h
  obtain ⟨x⟩:=a;obtain ⟨y⟩:=b
  have:x=y:=by rw [←Array.toList_inj];exact h
  rw [this]
 ·rintro rfl;rfl
def TabAt (w:World) (a:Option Addr) (l:jF):Prop:=∃g o,a=some ⟨g,o,none⟩∧g<w.heap.size∧∀j (h:j<l.length),w.cell? ⟨g,o+j*2,none⟩=some (.string l[j].1)∧w.cell? ⟨g,o+(j*2+1),none⟩=some (.string l[j].2)
theorem TabAt.kept {w w2:World} {a:Option Addr} {l:jF} (h:TabAt w a l) (hk:Kept aA w w2):TabAt w2 a l:=by
 obtain ⟨g,o,e,hg,hc⟩:=h
 exact ⟨g,o,e,Nat.lt_of_lt_of_le hg hk.size,fun j hj=>⟨(hk.cell hg (fun h=>h)).trans (hc j hj).1,(hk.cell hg (fun h=>h)).trans (hc j hj).2⟩⟩
theorem TabAt.of {w:World} {B:Nat} {a:Option Addr} {c n:Nat} {l:jF} (h:aP w B 59 2 (.slice a n c) n (gu l)) (h0:0<n) (hl:l.length=n):TabAt w a l:=by
 rcases h.cells with ⟨hv,hn⟩|⟨g,o,c',hv,_,hg,_,_,hc⟩
 ·omega
 ·simp only [Value.slice.injEq,true_and] at hv
  obtain ⟨rfl,rfl⟩:=hv
  exact ⟨g,o,rfl,hg,fun j hj=>⟨(hc (j*2) _ (Ou l j hj).1).1,(hc (j*2+1) _ (Ou l j hj).2).1⟩⟩
theorem Ku (P:Nat) (a b n:aj) (w:World) (hP:w.cell? ⟨P,0,none⟩=some (.string n)) (hPl:P<w.heap.size):Calls Tryz.prog 22 #[.agg #[.string a,.string b],.pointer (some ⟨P,0,none⟩)] w (wG (decide (a=n)) w):=by
 have hb:=ah (U4 (a:=a) (b:=n))
 have hP1:(w.alloc (.cells #[.string a,.string b] 59)).cell? ⟨P,0,none⟩=some (.string n):=(((Kept.refl aA w).alloc _).cell hPl (fun h=>h)).trans hP
 go_enter Tryz.func22, Tryz.ntmps22
 go_wp2_with fail
 go_ret
 exact ⟨by rw [←hb.out];try rfl,(Kept.refl _ _).alloc _⟩
theorem Ov (f:Nat) (lb:Array Value) (l:jF) (al:Option Addr) (cl:Nat) (n:aj) (eg:∀args wx,(callFunc f args).run Tryz.prog wx=.ok (.enter f args) wx) (w:World) (hl:TabAt w al l) (hP:∀(W:World) (a b:aj),Kept aA w W→Calls Tryz.prog f (#[.agg #[.string a,.string b]]++lb) W (wG (decide (a=n)) W)) (hlen:l.length≤1000) :
  Calls Tryz.prog 21 #[.slice al l.length cl,.func (.func f) #[] lb] w (ZM (vK n 0 l) w):=by
 have HL:=ah hl;have HP:=ah hP
 clear hl hP
 go_enter Tryz.func21, Tryz.ntmps21
 go_wp2_with fail
 go_loopw [8] (fun i wr=>∃j:Nat,j≤l.length∧i=.int .i64 j∧Hid (vK n 0 l=vK n j (l.drop j))∧Kept aA w wr) (fun i _=>l.length-(intOf i).toNat)
 case atStart=>exact ⟨0,Nat.zero_le _,rfl,by unfold Hid;rw [List.drop_zero],Kept.refl _ _⟩
 case round =>
  obtain ⟨j,hj,rfl,hno,hk⟩:=hrel
  have KW:=ah hk
  by_cases hlt:j<l.length
  ·obtain ⟨g,o,rfl,hg,hc⟩:=HL.out.kept hk
   obtain ⟨q0,q1⟩:=hc j hlt
   have hd:=XU n l j hlt
   have hcall:=ah (HP.out wr l[j].1 l[j].2 hk)
   obtain ⟨x1,hx1⟩:∃x,x=l[j].1:=⟨_,rfl⟩
   obtain ⟨x2,hx2⟩:∃x,x=l[j].2:=⟨_,rfl⟩
   rw [←hx1] at q0 hcall hd
   rw [←hx2] at q1 hcall
   have q1':wr.cell? ⟨g,o+j*2+1,none⟩=some (.string x2):=q1
   clear hc hk hg hx1 hx2 q1
   by_cases hpr:x1=n
   ·rw [if_pos hpr] at hd
    have fin:=ah (hno.out.trans hd)
    rw [ak hpr] at hcall
    clear hd hpr hno
    go_wp2_with fail
    refine hcall.out.mono ?_
    rintro e w2 ⟨rfl,bQ⟩
    have K2:=ah (KW.out.trans bQ)
    clear bQ
    go_wp2_with fail
    go_ret
    exact ⟨by rw [fin.out];try rfl,K2.out⟩
   ·rw [if_neg hpr] at hd
    have step:=ah (hno.out.trans hd)
    rw [au hpr] at hcall
    clear hd hpr hno
    go_wp2_with fail
    refine hcall.out.mono ?_
    rintro e w2 ⟨rfl,bQ⟩
    have K2:=ah (KW.out.trans bQ)
    clear bQ
    go_wp2_with fail
    go_roundw
    case rel=>exact ⟨j+1,by omega,by go_num,step,K2.out⟩
    case measure=>simp [intOf];omega
  ·obtain rfl:j=l.length:=by omega
   have fin:Hid (vK n 0 l = -1):=by unfold Hid;rw [hno.out,List.drop_length,vK]
   go_wp2_with fail
   go_ret
   exact ⟨by rw [fin.out];try rfl,KW.out⟩
theorem Kv (n:aj):∀(l:jF) (i:Nat),(vK n i l = -1∧oK n l=(⟨#[]⟩,7))∨∃j,∃h:j<l.length,vK n i l=((i+j:Nat):Int)∧oK n l=(l[j].2,0)
 | [],i=>.inl ⟨rfl,rfl⟩
 | x::q,i=>by
  rw [vK,oK]
  by_cases h:x.1=n
  ·rw [if_pos h,if_pos h];exact .inr ⟨0,by simp,rfl,rfl⟩
  ·rw [if_neg h,if_neg h]
   rcases Kv n q (i+1) with ⟨a,b⟩|⟨j,hj,a,b⟩
   ·exact .inl ⟨a,b⟩
   ·exact .inr ⟨j+1,by simpa using hj,by rw [a];congr 1;omega,by rw [b];rfl⟩
def ND (n:aj) (w:World) (e:Ending) (w':World):Prop:=e=.returned (.tuple #[.string (oK n sK).1,.int .i64 (oK n sK).2])∧Kept aA w w'
theorem Qq (n:aj) (w:World):Calls Tryz.prog 12 #[.string n] w (ND n w):=by
 obtain ⟨w0,hw0⟩:∃w0,w0=w.alloc (.cells #[.string n] 9):=⟨_,rfl⟩
 have k0:Kept aA w w0:=by rw [hw0];exact (Kept.refl _ _).alloc _
 have c0:w0.cell? ⟨w.heap.size,0,none⟩=some (.string n):=by have h:w0.heap[w.heap.size]?=some (.cells #[.string n] 9 (0,0)):=(by rw [hw0];exact ay w _);rw [cell_of_row w0 _ _ _ _ _ h];rfl
 have hl0:w.heap.size<w0.heap.size:=by rw [hw0];simp
 obtain ⟨P,hP⟩:∃P,P=w.heap.size:=⟨_,rfl⟩
 rw [←hP] at c0 hl0
 have HW0:=ah hw0;have HPP:=ah hP;have K0:=ah k0;have C0:=ah c0
 have hmf:∀(fn:Fn) (first cap:Array Value) (w:World),(Instr.makeFunc fn first cap).run Tryz.prog w=.ok (.func fn first cap) w:=fun _ _ _ _=>rfl
 have hlen:sK.length=29:=rfl
 have hIT:=Kv n sK 0
 obtain ⟨T,hT⟩:∃T,T=sK:=⟨_,rfl⟩
 have En:Hid (oK n sK=oK n T):=by rw [hT];rfl
 have HSV:Hid (∀wx,Calls Tryz.prog 20 #[] wx (fun e w'=>∃a c,e=.returned (.slice a 29 c)∧TabAt w' a T∧Kept aA wx w')):=fun wx=>(QB wx).mono (by
  rintro e w' ⟨a,c,rfl,hw,hk⟩
  exact ⟨a,c,rfl,by rw [hT];exact TabAt.of hw (by decide) hlen,hk⟩)
 rw [←hT] at hlen hIT
 clear hw0 hP k0 hT c0
 rcases hIT with ⟨hi,ht⟩|⟨j,hj,hi,ht⟩
 ·have HI:=ah hi
  have fin:Hid (oK n sK=(⟨#[]⟩,7)):=En.out.trans ht
  clear hi ht
  go_enter Tryz.func12, Tryz.ntmps12
  go_upto_region 1 with fail
  rw [←HW0.out,←HPP.out]
  go_wp2_with (first
   | (go_at_call 20;(refine (HSV.out w0).mono ?_);rintro e w1 ⟨a,c,rfl,t_,k_⟩;have T1:=ah t_;have K1:=ah k_;clear t_ k_)
   | (go_at_call 21;(have h_:=Ov 22 #[.pointer (some ⟨P,0,none⟩)] T a c n (fun _ _=>by kernel_rfl) w1 T1.out (fun W a b hk=>Ku P a b n W ((hk.cell (Nat.lt_of_lt_of_le hl0 K1.out.size) (fun h=>h)).trans ((K1.out.cell hl0 (fun h=>h)).trans C0.out)) (Nat.lt_of_lt_of_le (Nat.lt_of_lt_of_le hl0 K1.out.size) hk.size)) (by omega));rw [hlen,HI.out] at h_;(refine h_.mono ?_);rintro e w2 ⟨rfl,k_⟩;have K2:=ah k_;clear k_ h_))
  go_ret2
  exact ⟨by rw [fin.out];rfl,(K0.out.trans K1.out).trans K2.out⟩
 ·rw [Nat.zero_add] at hi
  have HI:=ah hi
  have fin:Hid (oK n sK=(T[j].2,0)):=En.out.trans ht
  have hj2:j<29:=by omega
  have hjn:decide ((j:Int)<0)=false:=au (by omega)
  have bj:(j:Int)<(29:Int):=by omega
  obtain ⟨x,hx⟩:∃x,x=T[j].2:=⟨_,rfl⟩
  rw [←hx] at fin
  have HX:=ah hx
  clear hi ht hx
  go_enter Tryz.func12, Tryz.ntmps12
  go_upto_region 1 with fail
  rw [←HW0.out,←HPP.out]
  go_wp2_with (first
   | (go_at_call 20;(refine (HSV.out w0).mono ?_);rintro e w1 ⟨a,c,rfl,t_,k_⟩;have T1:=ah t_;have K1:=ah k_;clear t_ k_)
   | (go_at_call 21;(have h_:=Ov 22 #[.pointer (some ⟨P,0,none⟩)] T a c n (fun _ _=>by kernel_rfl) w1 T1.out (fun W a b hk=>Ku P a b n W ((hk.cell (Nat.lt_of_lt_of_le hl0 K1.out.size) (fun h=>h)).trans ((K1.out.cell hl0 (fun h=>h)).trans C0.out)) (Nat.lt_of_lt_of_le (Nat.lt_of_lt_of_le hl0 K1.out.size) hk.size)) (by omega));rw [hlen,HI.out] at h_;(refine h_.mono ?_);rintro e w2 ⟨rfl,k_⟩;have K2:=ah k_;obtain ⟨g,o,rfl,_,hc_⟩:=T1.out.kept k_;have q1:=(hc_ j hj).2;rw [←HX.out] at q1;have q1':w2.cell? ⟨g,o+j*2+1,none⟩=some (.string x):=q1;clear k_ h_ hc_ q1))
  go_ret2
  exact ⟨by rw [fin.out];rfl,(K0.out.trans K1.out).trans K2.out⟩
end Go.Proofs.YtodebjhalipefaaGreatDoor

namespace Go.Proofs.YtodebjhalipefaaGreatDoor
set_option linter.all false
open Go.RowKit
set_option maxRecDepth 100000
set_option maxHeartbeats 8000000
theorem Ht {x y:aj} {l:List aC} (h:aG x l=true) (hne:x≠y):aG y l=false:=by
 cases l with
 | nil=>rfl
 | cons t r=>exact au (fun h2=>hne ((of_decide_eq_true h).2.symm.trans h2.2))
theorem fO.afp {N T en d M4 M5:Nat} {w:World} {x:aB} {ka:Option Addr} {cap:Nat} {l:List aC} {wx:World} (h:fO N T en d M4 M5 w x ka cap l wx) (hn4:N≠M4) (yF:N≠M5) (d2:Nat):fO N T en d2 M4 M5 w x ka cap l (wx.setCell ⟨N,2,none⟩ (.int .i64 (d2:Int))):=by
 obtain ⟨h1,h2,⟨S,h3,h4⟩,h5,h6,h7⟩:=h
 have hk:Kept (· = N) wx (wx.setCell ⟨N,2,none⟩ (.int .i64 (d2:Int))):=(Kept.refl (· = N) wx).setCell (p:=⟨N,2,none⟩) (.inl rfl) _
 exact ⟨h1.lU d2,h2.kept hk (Ne.symm yF),⟨S,h3.kept hk (fun b hb=>⟨(h4 b hb).2.1,(h4 b hb).2.2.2.2⟩),fun b hb=>by have:=h4 b hb;have:=hk.size;omega⟩,h5,h6.kept hk (Ne.symm hn4),h7.trans hk⟩
theorem Jv {N T en d:Nat} {ex pr:List aC→aZ aB} {l:List aC} {w:World} (h:bV N T en l d w) (hd:d=400) (hs:aG (bs [36]) l=true):Calls Tryz.prog 250 #[.pointer (some ⟨N,0,none⟩)] w (XQ N T en d (bg ex (fun l=>.error (4,dJ en l)) en l) w):=by
 have S1:Hid (aG ⟨#[40]⟩ l=false):=Ht hs (by decide)
 have er:Hid (bg ex (fun l=>.error (4,dJ en l)) en l=.error (4,dJ en l.tail)):=by unfold Hid bg;rw [show aG (bs [40]) l=false from S1.out,hs];rfl
 have S2:Hid (aG ⟨#[36]⟩ l=true):=hs
 obtain ⟨lr,hlr⟩:∃lr,lr=l.tail:=⟨_,rfl⟩
 rw [←hlr] at er
 have HLR:=ah hlr
 obtain ⟨d1,hd1⟩:∃d1:Nat,d1=d+1:=⟨_,rfl⟩
 have hdi:(d:Int)+1=(d1:Int):=by omega
 have g1:decide ((400:Int)<(d1:Int))=true:=ak (by omega)
 have g2:decide (400<d1)=true:=ak (by omega)
 have hb:d1≤1000:=by omega
 obtain ⟨hN,hT,hne,h7⟩:=h.jm
 obtain ⟨w0,hw0⟩:∃w0,w0=w.alloc (.cells #[.int .i64 0,.string ⟨#[]⟩,.int .i64 0,.string ⟨#[]⟩,.slice none 0 0] 64):=⟨_,rfl⟩
 have k0:Kept aA w w0:=by rw [hw0];exact (Kept.refl _ _).alloc _
 obtain ⟨M2,hM2⟩:∃M,M=w.heap.size:=⟨_,rfl⟩
 have Z0:Hid (dR M2 (.int .i64 0) (.string ⟨#[]⟩) (.int .i64 0) (.string ⟨#[]⟩) (.slice none 0 0) w0):=by rw [hw0,hM2];exact ay w _
 have R0:=ah (h.kept k0 (fun h=>h) (fun h=>h))
 have K0:Hid (Kept (· = N) w w0):=k0.more (fun _ h=>h.elim)
 have HW0:=ah hw0;have bC:=ah hM2
 clear k0 hw0 hM2 h hs hlr hd hd1
 go_enter Tryz.func250, Tryz.ntmps250
 go_upto_region 1 with fail
 rw [←HW0.out,←bC.out]
 go_upto_region 6 with (first
  | (go_at_call 68;(with_reducible refine (dX ⟨#[40]⟩ R0.out S1.out).mono ?_);rintro e w1 ⟨rfl,dV,bF⟩;have R1:=ah dV;have K1:Hid (Kept (· = N) w w1):=K0.out.trans bF;have Z1:=ah (Z0.out.kept bF (by have:=bC.out;omega));clear dV bF)
  | (go_at_call 68;(with_reducible refine (jB ⟨#[36]⟩ R1.out S2.out).mono ?_);rintro e w2 ⟨rfl,iI,bQ⟩;have R2:=ah iI;have K2:Hid (Kept (· = N) w w2):=K1.out.trans bQ;have Z2:=ah (Z1.out.kept bQ (by have:=bC.out;omega));obtain ⟨q2,mG⟩:=iI.deep;clear iI bQ))
 go_upto_region 7 with fail
 obtain ⟨w3,hw3⟩:∃w3,w3=w2.setCell ⟨N,2,none⟩ (.int .i64 (d1:Int)):=⟨_,rfl⟩
 have r3:=R2.out.lU d1
 rw [←hw3] at r3⊢
 rw [←HLR.out] at r3
 have k3:Kept (· = N) w2 w3:=by rw [hw3];exact (Kept.refl (· = N) w2).setCell (p:=⟨N,2,none⟩) (.inl rfl) _
 have K3:=ah k3
 clear hw3 k3 q2 mG
 obtain ⟨q2,mG⟩:=r3.deep
 obtain ⟨n3,a3,c3,r3⟩:=r3
 have HA:=ah (kU r3)
 clear r3
 go_wp2_with (first
  | (go_at_call 71;(refine HA.out.mono ?_);rintro e w' ⟨rfl,aH⟩;obtain rfl:=aH.symm)
  | (go_at_call 70;(refine (dD _ 4 (dJ en lr) w3).mono ?_);rintro e w4 ⟨rfl,rfl⟩))
 exact ⟨rfl,XQ.thrown K2.out K3.out er.out⟩
theorem Jw {N T en d:Nat} {ex pr:List aC→aZ aB} {l:List aC} {w:World} (hd:d<400) (HP:Jy N T en (d+1) pr) (h:bV N T en l d w) (hs:aG (bs [36]) l=true):Calls Tryz.prog 250 #[.pointer (some ⟨N,0,none⟩)] w (XQ N T en d (bg ex pr en l) w):=by
 have S1:Hid (aG ⟨#[40]⟩ l=false):=Ht hs (by decide)
 have er:Hid (bg ex pr en l=match pr l.tail with | .error er=>.error er | .ok (x,r)=>.ok (node1 5 x,r)):=by unfold Hid bg;rw [show aG (bs [40]) l=false from S1.out,hs];rfl
 have S2:Hid (aG ⟨#[36]⟩ l=true):=hs
 obtain ⟨lr,hlr⟩:∃lr,lr=l.tail:=⟨_,rfl⟩
 rw [←hlr] at er
 have HLR:=ah hlr
 obtain ⟨d1,hd1⟩:∃d1:Nat,d1=d+1:=⟨_,rfl⟩
 have hdi:(d:Int)+1=(d1:Int):=by omega
 rw [←hd1] at HP
 have g1:decide ((400:Int)<(d1:Int))=false:=au (by omega)
 have g2:decide (400<d1)=false:=au (by omega)
 have hb:d1≤1000:=by omega
 have hb1:1≤d1:=by omega
 have hdj:(d1:Int)-1=(d:Int):=by omega
 have YC:=ah HP
 obtain ⟨hN,hT,hne,h7⟩:=h.jm
 obtain ⟨w0,hw0⟩:∃w0,w0=w.alloc (.cells #[.int .i64 0,.string ⟨#[]⟩,.int .i64 0,.string ⟨#[]⟩,.slice none 0 0] 64):=⟨_,rfl⟩
 have k0:Kept aA w w0:=by rw [hw0];exact (Kept.refl _ _).alloc _
 obtain ⟨M2,hM2⟩:∃M,M=w.heap.size:=⟨_,rfl⟩
 have Z0:Hid (dR M2 (.int .i64 0) (.string ⟨#[]⟩) (.int .i64 0) (.string ⟨#[]⟩) (.slice none 0 0) w0):=by rw [hw0,hM2];exact ay w _
 have R0:=ah (h.kept k0 (fun h=>h) (fun h=>h))
 have K0:Hid (Kept (· = N) w w0):=k0.more (fun _ h=>h.elim)
 have HW0:=ah hw0;have bC:=ah hM2
 clear k0 hw0 hM2 h hs hlr hd hd1 HP
 go_enter Tryz.func250, Tryz.ntmps250
 go_upto_region 1 with fail
 rw [←HW0.out,←bC.out]
 go_upto_region 6 with (first
  | (go_at_call 68;(with_reducible refine (dX ⟨#[40]⟩ R0.out S1.out).mono ?_);rintro e w1 ⟨rfl,dV,bF⟩;have R1:=ah dV;have K1:Hid (Kept (· = N) w w1):=K0.out.trans bF;have Z1:=ah (Z0.out.kept bF (by have:=bC.out;omega));clear dV bF)
  | (go_at_call 68;(with_reducible refine (jB ⟨#[36]⟩ R1.out S2.out).mono ?_);rintro e w2 ⟨rfl,iI,bQ⟩;have R2:=ah iI;have K2:Hid (Kept (· = N) w w2):=K1.out.trans bQ;have Z2:=ah (Z1.out.kept bQ (by have:=bC.out;omega));obtain ⟨q2,mG⟩:=iI.deep;clear iI bQ))
 go_upto_region 7 with fail
 obtain ⟨w3,hw3⟩:∃w3,w3=w2.setCell ⟨N,2,none⟩ (.int .i64 (d1:Int)):=⟨_,rfl⟩
 have r3:=R2.out.lU d1
 rw [←hw3] at r3⊢
 rw [←HLR.out] at r3
 have k3:Kept (· = N) w2 w3:=by rw [hw3];exact (Kept.refl (· = N) w2).setCell (p:=⟨N,2,none⟩) (.inl rfl) _
 have K3:Hid (Kept (· = N) w w3):=K2.out.trans k3
 have Z3:=ah (Z2.out.kept k3 (by have:=bC.out;omega))
 have R3:=ah r3
 clear hw3 k3 q2 mG
 obtain ⟨q2,mG⟩:=r3.deep
 clear r3
 cases hu:pr lr with
 | error e0 =>
  go_wp2_with (go_at_call 250;(refine (YC.out lr w3 R3.out).mono ?_);intro e w4 YD;obtain ⟨Dl,rfl⟩:=YD.bad hu;have K4:=ah Dl;clear Dl YD)
  exact ⟨rfl,XQ.thrown K3.out K4.out (by rw [er.out,hu])⟩
 | ok x =>
  obtain ⟨p,r⟩:=x
  have pJ:Hid (bg ex pr en l=.ok (node1 5 p,r)):=by unfold Hid;rw [er.out,hu]
  clear er
  go_upto_region 10 with (go_at_call 250;(refine (YC.out lr w3 R3.out).mono ?_);intro e w4 YD;obtain ⟨Dl,r4_,S,ka,cap,rfl,iM,iO,fV⟩:=YD.ok hu;have I5:=ah (fO.afm (w1:=w3) (cap:=cap) 5 (Z3.out.kept Dl (by have:=bC.out;omega)) (K3.out.trans Dl) r4_ iM iO fV hN K3.out.size Z3.out.lt Dl.size);have HL4:Hid (w.heap.size<w4.heap.size):=(by have:=Z3.out.lt;have:=bC.out;have:=Dl.size;unfold Hid;omega);clear Dl r4_ iM iO fV YD)
  obtain ⟨w5,hw5⟩:∃w5,w5=(w4.alloc (.cells #[.int .i64 p.kind,.string p.text,.int .i64 p.n,.string p.name,.slice ka p.kids.length cap] 64)).alloc (.cells #[.int .i64 5,.string ⟨#[]⟩,.int .i64 0,.string ⟨#[]⟩,.slice (some ⟨w4.heap.size,0,none⟩) 1 1] 64):=⟨_,rfl⟩
  rw [←hw5] at I5⊢
  obtain ⟨B,hB⟩:∃B,B=w4.heap.size:=⟨_,rfl⟩
  rw [←hB] at I5 HL4⊢
  clear hw5 hB q2 mG
  obtain ⟨q2,mG⟩:=I5.out.bH.deep
  have hM:Hid (N≠M2∧N≠B+1∧T≠M2∧w.heap.size≤M2):=by have:=bC.out;have:=HL4.out;unfold Hid;omega
  go_upto_region 11 with fail
  have I6:=ah (I5.out.afp hM.out.1 hM.out.2.1 d)
  obtain ⟨w6,hw6⟩:∃w6,w6=w5.setCell ⟨N,2,none⟩ (.int .i64 (d:Int)):=⟨_,rfl⟩
  rw [←hw6] at I6⊢
  clear hw6 q2 mG
  obtain ⟨x0,x1,x2,x3,x4,_⟩:=I6.out.five.cells
  obtain ⟨z0,z1,z2,z3,z4,zf⟩:=I6.out.zero.cells
  have vY:=zf 0;have vZ:=zf 1;have wo:=zf 2;have xA:=zf 3;have xB:=zf 4
  clear zf
  go_wp2_with fail
  exact iw 2 rfl rfl (I6.out.zero.eY _ _ _ _ _) (I6.out.fin hM.out.1 hM.out.2.2.1 hM.out.2.2.2 hN pJ.out)
end Go.Proofs.YtodebjhalipefaaGreatDoor

namespace Go.Proofs.YtodebjhalipefaaGreatDoor
set_option linter.all false
open Go.RowKit
set_option maxRecDepth 100000
set_option maxHeartbeats 8000000
theorem iF {en:Nat} {l r:List aC} {x:aj} (h:dL en l=.ok (x,r)):x.size≤16:=by
 unfold dL at h
 split at h
 ·cases h
 ·split at h
  ·cases h
  ·simp only [Except.ok.injEq,Prod.mk.injEq] at h;obtain ⟨rfl,_⟩:=h;omega
theorem YE {N T en d:Nat} {ex pr:List aC→aZ aB} {w:World} (h:bV N T en [] d w):Calls Tryz.prog 250 #[.pointer (some ⟨N,0,none⟩)] w (XQ N T en d (bg ex pr en []) w):=by
 have er:Hid (bg ex pr en []=.error (2,en)):=rfl
 have S1:Hid (aG ⟨#[40]⟩ ([]:List aC)=false):=rfl
 have S2:Hid (aG ⟨#[36]⟩ ([]:List aC)=false):=rfl
 obtain ⟨hN,hT,hne,h7⟩:=h.jm
 obtain ⟨w0,hw0⟩:∃w0,w0=w.alloc (.cells #[.int .i64 0,.string ⟨#[]⟩,.int .i64 0,.string ⟨#[]⟩,.slice none 0 0] 64):=⟨_,rfl⟩
 have k0:Kept aA w w0:=by rw [hw0];exact (Kept.refl _ _).alloc _
 obtain ⟨M2,hM2⟩:∃M,M=w.heap.size:=⟨_,rfl⟩
 have Z0:Hid (dR M2 (.int .i64 0) (.string ⟨#[]⟩) (.int .i64 0) (.string ⟨#[]⟩) (.slice none 0 0) w0):=by rw [hw0,hM2];exact ay w _
 have R0:=ah (h.kept k0 (fun h=>h) (fun h=>h))
 have K0:Hid (Kept (· = N) w w0):=k0.more (fun _ h=>h.elim)
 have HW0:=ah hw0;have bC:=ah hM2
 clear k0 hw0 hM2 h
 go_enter Tryz.func250, Tryz.ntmps250
 go_upto_region 1 with fail
 rw [←HW0.out,←bC.out]
 go_upto_region 12 with (first
  | (go_at_call 68;(with_reducible refine (dX ⟨#[40]⟩ R0.out S1.out).mono ?_);rintro e w1 ⟨rfl,dV,bF⟩;have R1:=ah dV;have K1:Hid (Kept (· = N) w w1):=K0.out.trans bF;have Z1:=ah (Z0.out.kept bF (by have:=bC.out;omega));clear dV bF)
  | (go_at_call 68;(with_reducible refine (dX ⟨#[36]⟩ R1.out S2.out).mono ?_);rintro e w2 ⟨rfl,iI,bQ⟩;have R2:=ah iI;have K2:Hid (Kept (· = N) w w2):=K1.out.trans bQ;have Z2:=ah (Z1.out.kept bQ (by have:=bC.out;omega));clear iI bQ))
 obtain ⟨n2,a2,c2,hP⟩:=R2.out
 obtain ⟨c0,c1,cd,cf⟩:=hP.c0
 have hn:=hP.num
 have z:decide ((0:Int)<(n2:Int))=false:=by rw [hn];rfl
 have z':decide (0<n2)=false:=by rw [hn];rfl
 clear hn hP cf
 go_wp2_with (go_at_call 65;(refine (fB R2.out).mono ?_);intro e w3 eu;obtain ⟨bD,rfl⟩:=eu.bad (er:=(2,en)) rfl;have K3:=ah bD;clear bD eu)
 exact ⟨rfl,XQ.thrown K2.out K3.out er.out⟩
theorem Jz {N T en d:Nat} {ex pr:List aC→aZ aB} {t:aC} {r:List aC} {w:World} (h:bV N T en (t::r) d w) (hk:t.kind≠3∧t.kind≠2) (hs1:aG (bs [40]) (t::r)=false) (hs2:aG (bs [36]) (t::r)=false) {e0:Er} (hnm:dL en (t::r)=.error e0):Calls Tryz.prog 250 #[.pointer (some ⟨N,0,none⟩)] w (XQ N T en d (bg ex pr en (t::r)) w):=by
 have er:Hid (bg ex pr en (t::r)=match dL en (t::r) with
    | .error er=>.error er
    | .ok (nm,r) =>
     if aG (bs [60]) r=true then
      match ex r.tail with
      | .error er=>.error er
      | .ok (x,r2)=>match dW (bs [62]) en r2 with
       | .error er=>.error er
       | .ok r3=>.ok (.mk 4 E0 0 nm [x],r3)
     else if aG (bs [40]) r=true then
      if aG (bs [41]) r.tail=true then .ok (.mk 6 E0 0 nm [],r.tail.tail)
      else match lg ex en 9 [] r.tail with
       | .error er=>.error er
       | .ok (ks,r2)=>.ok (.mk 6 E0 0 nm ks,r2)
     else .ok (.mk 3 E0 0 nm [],r)):=by unfold Hid bg;rw [hs1,hs2];simp only [dZ,hk.1,hk.2,if_false,Bool.false_eq_true];rfl
 have S1:Hid (aG ⟨#[40]⟩ (t::r)=false):=hs1;have S2:Hid (aG ⟨#[36]⟩ (t::r)=false):=hs2;have HK:=ah hk
 have yG:=ah hnm
 obtain ⟨hN,hT,hne,h7⟩:=h.jm
 obtain ⟨w0,hw0⟩:∃w0,w0=w.alloc (.cells #[.int .i64 0,.string ⟨#[]⟩,.int .i64 0,.string ⟨#[]⟩,.slice none 0 0] 64):=⟨_,rfl⟩
 have k0:Kept aA w w0:=by rw [hw0];exact (Kept.refl _ _).alloc _
 obtain ⟨M2,hM2⟩:∃M,M=w.heap.size:=⟨_,rfl⟩
 have Z0:Hid (dR M2 (.int .i64 0) (.string ⟨#[]⟩) (.int .i64 0) (.string ⟨#[]⟩) (.slice none 0 0) w0):=by rw [hw0,hM2];exact ay w _
 have R0:=ah (h.kept k0 (fun h=>h) (fun h=>h))
 have K0:Hid (Kept (· = N) w w0):=k0.more (fun _ h=>h.elim)
 have HW0:=ah hw0;have bC:=ah hM2
 clear k0 hw0 hM2 h hk hs1 hs2 hnm
 go_enter Tryz.func250, Tryz.ntmps250
 go_upto_region 1 with fail
 rw [←HW0.out,←bC.out]
 go_upto_region 12 with (first
  | (go_at_call 68;(with_reducible refine (dX ⟨#[40]⟩ R0.out S1.out).mono ?_);rintro e w1 ⟨rfl,dV,bF⟩;have R1:=ah dV;have K1:Hid (Kept (· = N) w w1):=K0.out.trans bF;have Z1:=ah (Z0.out.kept bF (by have:=bC.out;omega));clear dV bF)
  | (go_at_call 68;(with_reducible refine (dX ⟨#[36]⟩ R1.out S2.out).mono ?_);rintro e w2 ⟨rfl,iI,bQ⟩;have R2:=ah iI;have K2:Hid (Kept (· = N) w w2):=K1.out.trans bQ;have Z2:=ah (Z1.out.kept bQ (by have:=bC.out;omega));clear iI bQ))
 obtain ⟨n2,a2,c2,hP⟩:=R2.out
 obtain ⟨c0,c1,cd,cf⟩:=hP.c0
 have hn:=hP.num
 rw [List.length_cons] at hn
 have h0:0<n2:=by omega
 have h1:(0:Int)<(n2:Int):=by omega
 have z:decide ((0:Int)<(n2:Int))=true:=ak h1
 have z':decide (0<n2)=true:=ak h0
 obtain ⟨o,rfl,t0,t1,t2⟩:=hP.head
 have y3:(t.kind==3)=false:=by simpa using HK.out.1
 have y2:(t.kind==2)=false:=by simpa using HK.out.2
 clear hn hP cf
 go_upto_region 22 with fail
 clear c0 c1 cd t0 t1 t2 y3 y2 z z'
 go_wp2_with (go_at_call 65;(refine (fB R2.out).mono ?_);intro e w3 eu;obtain ⟨bD,rfl⟩:=eu.bad yG.out;have K3:=ah bD;clear bD eu)
 exact ⟨rfl,XQ.thrown K2.out K3.out (by rw [er.out,yG.out])⟩
theorem Vk {N T en d:Nat} {ex pr:List aC→aZ aB} {t:aC} {r:List aC} {w:World} (h:bV N T en (t::r) d w) (hk:t.kind≠3∧t.kind≠2) (hs1:aG (bs [40]) (t::r)=false) (hs2:aG (bs [36]) (t::r)=false) {nm:aj} {r1:List aC} (hnm:dL en (t::r)=.ok (nm,r1)) (hs3:aG (bs [60]) r1=false) (hs4:aG (bs [40]) r1=false):Calls Tryz.prog 250 #[.pointer (some ⟨N,0,none⟩)] w (XQ N T en d (bg ex pr en (t::r)) w):=by
 have er:Hid (bg ex pr en (t::r)=match dL en (t::r) with
    | .error er=>.error er
    | .ok (nm,r) =>
     if aG (bs [60]) r=true then
      match ex r.tail with
      | .error er=>.error er
      | .ok (x,r2)=>match dW (bs [62]) en r2 with
       | .error er=>.error er
       | .ok r3=>.ok (.mk 4 E0 0 nm [x],r3)
     else if aG (bs [40]) r=true then
      if aG (bs [41]) r.tail=true then .ok (.mk 6 E0 0 nm [],r.tail.tail)
      else match lg ex en 9 [] r.tail with
       | .error er=>.error er
       | .ok (ks,r2)=>.ok (.mk 6 E0 0 nm ks,r2)
     else .ok (.mk 3 E0 0 nm [],r)):=by unfold Hid bg;rw [hs1,hs2];simp only [dZ,hk.1,hk.2,if_false,Bool.false_eq_true];rfl
 have S1:Hid (aG ⟨#[40]⟩ (t::r)=false):=hs1;have S2:Hid (aG ⟨#[36]⟩ (t::r)=false):=hs2;have HK:=ah hk
 have pJ:Hid (bg ex pr en (t::r)=.ok (.mk 3 E0 0 nm [],r1)):=by unfold Hid;rw [er.out,hnm];simp only [hs3,hs4,if_false,Bool.false_eq_true]
 have yG:=ah hnm;have S3:Hid (aG ⟨#[60]⟩ r1=false):=hs3;have S4:Hid (aG ⟨#[40]⟩ r1=false):=hs4
 obtain ⟨hN,hT,hne,h7⟩:=h.jm
 obtain ⟨w0,hw0⟩:∃w0,w0=w.alloc (.cells #[.int .i64 0,.string ⟨#[]⟩,.int .i64 0,.string ⟨#[]⟩,.slice none 0 0] 64):=⟨_,rfl⟩
 have k0:Kept aA w w0:=by rw [hw0];exact (Kept.refl _ _).alloc _
 obtain ⟨M2,hM2⟩:∃M,M=w.heap.size:=⟨_,rfl⟩
 have Z0:Hid (dR M2 (.int .i64 0) (.string ⟨#[]⟩) (.int .i64 0) (.string ⟨#[]⟩) (.slice none 0 0) w0):=by rw [hw0,hM2];exact ay w _
 have R0:=ah (h.kept k0 (fun h=>h) (fun h=>h))
 have K0:Hid (Kept (· = N) w w0):=k0.more (fun _ h=>h.elim)
 have HW0:=ah hw0;have bC:=ah hM2
 clear k0 hw0 hM2 h hk hs1 hs2 hnm hs3 hs4 er
 go_enter Tryz.func250, Tryz.ntmps250
 go_upto_region 1 with fail
 rw [←HW0.out,←bC.out]
 go_upto_region 12 with (first
  | (go_at_call 68;(with_reducible refine (dX ⟨#[40]⟩ R0.out S1.out).mono ?_);rintro e w1 ⟨rfl,dV,bF⟩;have R1:=ah dV;have K1:Hid (Kept (· = N) w w1):=K0.out.trans bF;have Z1:=ah (Z0.out.kept bF (by have:=bC.out;omega));clear dV bF)
  | (go_at_call 68;(with_reducible refine (dX ⟨#[36]⟩ R1.out S2.out).mono ?_);rintro e w2 ⟨rfl,iI,bQ⟩;have R2:=ah iI;have K2:Hid (Kept (· = N) w w2):=K1.out.trans bQ;have Z2:=ah (Z1.out.kept bQ (by have:=bC.out;omega));clear iI bQ))
 obtain ⟨n2,a2,c2,hP⟩:=R2.out
 obtain ⟨c0,c1,cd,cf⟩:=hP.c0
 have hn:=hP.num
 rw [List.length_cons] at hn
 have h0:0<n2:=by omega
 have h1:(0:Int)<(n2:Int):=by omega
 have z:decide ((0:Int)<(n2:Int))=true:=ak h1
 have z':decide (0<n2)=true:=ak h0
 obtain ⟨o,rfl,t0,t1,t2⟩:=hP.head
 have y3:(t.kind==3)=false:=by simpa using HK.out.1
 have y2:(t.kind==2)=false:=by simpa using HK.out.2
 clear hn hP cf
 go_upto_region 22 with fail
 clear c0 c1 cd t0 t1 t2 y3 y2 z z'
 go_upto_region 23 with (go_at_call 65;(refine (fB R2.out).mono ?_);intro e w3 eu;obtain ⟨bD,rfl,iL⟩:=eu.ok yG.out;have R3:=ah iL;have K3:Hid (Kept (· = N) w w3):=K2.out.trans bD;have Z3:=ah (Z2.out.kept bD (by have:=bC.out;omega));clear bD iL eu)
 have I4:Hid (fO N T en d M2 w3.heap.size w (.mk 3 E0 0 nm []) none 0 r1 (w3.alloc (.cells #[.int .i64 3,.string ⟨#[]⟩,.int .i64 0,.string nm,.slice none 0 0] 64))):=fO.start (w1:=w3) (p:=.mk 3 E0 0 nm []) (ka:=none) (cap:=0) (S:=aA) Z3.out K3.out R3.out (fun b hb=>hb.elim) ⟨by show E0.size<_;decide,by show nm.size<_;have:=iF yG.out;omega,by show 0<_;decide⟩ (by show aN _ aA none [];unfold aN;trivial) hN K3.out.size Z3.out.lt
 have hsz:Hid (w.heap.size<w3.heap.size):=by have:=Z3.out.lt;have:=bC.out;unfold Hid;omega
 obtain ⟨w4,hw4⟩:∃w4,w4=w3.alloc (.cells #[.int .i64 3,.string ⟨#[]⟩,.int .i64 0,.string nm,.slice none 0 0] 64):=⟨_,rfl⟩
 obtain ⟨M5,lM⟩:∃M,M=w3.heap.size:=⟨_,rfl⟩
 rw [←hw4,←lM] at I4
 rw [←hw4,←lM]
 rw [←lM] at hsz
 have hM:Hid (N≠M2∧N≠M5∧T≠M2∧w.heap.size≤M2∧M2<M5):=by have:=bC.out;have:=hsz.out;unfold Hid;omega
 clear hw4 lM
 go_upto_region 36 with (first
  | (go_at_call 68;(with_reducible refine (dX ⟨#[60]⟩ I4.out.bH S3.out).mono ?_);rintro e w5 ⟨rfl,Dw,vC⟩;have I5:=ah (I4.out.aQ hM.out.1 (by have:=hM.out;omega) vC Dw);clear Dw vC)
  | (go_at_call 68;(with_reducible refine (dX ⟨#[40]⟩ I5.out.bH S4.out).mono ?_);rintro e w6 ⟨rfl,xC,mg⟩;have I6:=ah (I5.out.aQ hM.out.1 (by have:=hM.out;omega) mg xC);clear xC mg))
 obtain ⟨x0,x1,x2,x3,x4,_⟩:=I6.out.five.cells
 obtain ⟨z0,z1,z2,z3,z4,zf⟩:=I6.out.zero.cells
 have vY:=zf 0;have vZ:=zf 1;have wo:=zf 2;have xA:=zf 3;have xB:=zf 4
 clear zf
 go_wp2_with fail
 exact iw 2 rfl rfl (I6.out.zero.eY _ _ _ _ _) (I6.out.fin hM.out.1 hM.out.2.2.1 hM.out.2.2.2.1 hN pJ.out)
theorem Vl {N T en d:Nat} {ex pr:List aC→aZ aB} {t:aC} {r:List aC} {w:World} (h:bV N T en (t::r) d w) (hk:t.kind≠3∧t.kind≠2) (hs1:aG (bs [40]) (t::r)=false) (hs2:aG (bs [36]) (t::r)=false) {nm:aj} {r1:List aC} (hnm:dL en (t::r)=.ok (nm,r1)) (HE:FU N T en d ex) (hs3:aG (bs [60]) r1=true):Calls Tryz.prog 250 #[.pointer (some ⟨N,0,none⟩)] w (XQ N T en d (bg ex pr en (t::r)) w):=by
 have er:Hid (bg ex pr en (t::r)=match dL en (t::r) with
    | .error er=>.error er
    | .ok (nm,r) =>
     if aG (bs [60]) r=true then
      match ex r.tail with
      | .error er=>.error er
      | .ok (x,r2)=>match dW (bs [62]) en r2 with
       | .error er=>.error er
       | .ok r3=>.ok (.mk 4 E0 0 nm [x],r3)
     else if aG (bs [40]) r=true then
      if aG (bs [41]) r.tail=true then .ok (.mk 6 E0 0 nm [],r.tail.tail)
      else match lg ex en 9 [] r.tail with
       | .error er=>.error er
       | .ok (ks,r2)=>.ok (.mk 6 E0 0 nm ks,r2)
     else .ok (.mk 3 E0 0 nm [],r)):=by unfold Hid bg;rw [hs1,hs2];simp only [dZ,hk.1,hk.2,if_false,Bool.false_eq_true];rfl
 have S1:Hid (aG ⟨#[40]⟩ (t::r)=false):=hs1;have S2:Hid (aG ⟨#[36]⟩ (t::r)=false):=hs2;have HK:=ah hk
 have pJ:Hid (bg ex pr en (t::r)=match ex r1.tail with | .error er=>.error er | .ok (x,r2)=>match dW (bs [62]) en r2 with | .error er=>.error er | .ok r3=>.ok (.mk 4 E0 0 nm [x],r3)):=by unfold Hid;rw [er.out,hnm];simp only [hs3,if_true]
 have yG:=ah hnm;have S3:Hid (aG ⟨#[60]⟩ r1=true):=hs3;have HEX:=ah HE
 obtain ⟨hN,hT,hne,h7⟩:=h.jm
 obtain ⟨w0,hw0⟩:∃w0,w0=w.alloc (.cells #[.int .i64 0,.string ⟨#[]⟩,.int .i64 0,.string ⟨#[]⟩,.slice none 0 0] 64):=⟨_,rfl⟩
 have k0:Kept aA w w0:=by rw [hw0];exact (Kept.refl _ _).alloc _
 obtain ⟨M2,hM2⟩:∃M,M=w.heap.size:=⟨_,rfl⟩
 have Z0:Hid (dR M2 (.int .i64 0) (.string ⟨#[]⟩) (.int .i64 0) (.string ⟨#[]⟩) (.slice none 0 0) w0):=by rw [hw0,hM2];exact ay w _
 have R0:=ah (h.kept k0 (fun h=>h) (fun h=>h))
 have K0:Hid (Kept (· = N) w w0):=k0.more (fun _ h=>h.elim)
 have HW0:=ah hw0;have bC:=ah hM2
 clear k0 hw0 hM2 h hk hs1 hs2 hnm hs3 er HE
 go_enter Tryz.func250, Tryz.ntmps250
 go_upto_region 1 with fail
 rw [←HW0.out,←bC.out]
 go_upto_region 12 with (first
  | (go_at_call 68;(with_reducible refine (dX ⟨#[40]⟩ R0.out S1.out).mono ?_);rintro e w1 ⟨rfl,dV,bF⟩;have R1:=ah dV;have K1:Hid (Kept (· = N) w w1):=K0.out.trans bF;have Z1:=ah (Z0.out.kept bF (by have:=bC.out;omega));clear dV bF)
  | (go_at_call 68;(with_reducible refine (dX ⟨#[36]⟩ R1.out S2.out).mono ?_);rintro e w2 ⟨rfl,iI,bQ⟩;have R2:=ah iI;have K2:Hid (Kept (· = N) w w2):=K1.out.trans bQ;have Z2:=ah (Z1.out.kept bQ (by have:=bC.out;omega));clear iI bQ))
 obtain ⟨n2,a2,c2,hP⟩:=R2.out
 obtain ⟨c0,c1,cd,cf⟩:=hP.c0
 have hn:=hP.num
 rw [List.length_cons] at hn
 have h0:0<n2:=by omega
 have h1:(0:Int)<(n2:Int):=by omega
 have z:decide ((0:Int)<(n2:Int))=true:=ak h1
 have z':decide (0<n2)=true:=ak h0
 obtain ⟨o,rfl,t0,t1,t2⟩:=hP.head
 have y3:(t.kind==3)=false:=by simpa using HK.out.1
 have y2:(t.kind==2)=false:=by simpa using HK.out.2
 clear hn hP cf
 go_upto_region 22 with fail
 clear c0 c1 cd t0 t1 t2 y3 y2 z z'
 go_upto_region 23 with (go_at_call 65;(refine (fB R2.out).mono ?_);intro e w3 eu;obtain ⟨bD,rfl,iL⟩:=eu.ok yG.out;have R3:=ah iL;have K3:Hid (Kept (· = N) w w3):=K2.out.trans bD;have Z3:=ah (Z2.out.kept bD (by have:=bC.out;omega));clear bD iL eu)
 have I4:Hid (fO N T en d M2 w3.heap.size w (.mk 3 E0 0 nm []) none 0 r1 (w3.alloc (.cells #[.int .i64 3,.string ⟨#[]⟩,.int .i64 0,.string nm,.slice none 0 0] 64))):=fO.start (w1:=w3) (p:=.mk 3 E0 0 nm []) (ka:=none) (cap:=0) (S:=aA) Z3.out K3.out R3.out (fun b hb=>hb.elim) ⟨by show E0.size<_;decide,by show nm.size<_;have:=iF yG.out;omega,by show 0<_;decide⟩ (by show aN _ aA none [];unfold aN;trivial) hN K3.out.size Z3.out.lt
 have hsz:Hid (w.heap.size<w3.heap.size):=by have:=Z3.out.lt;have:=bC.out;unfold Hid;omega
 obtain ⟨w4,hw4⟩:∃w4,w4=w3.alloc (.cells #[.int .i64 3,.string ⟨#[]⟩,.int .i64 0,.string nm,.slice none 0 0] 64):=⟨_,rfl⟩
 obtain ⟨M5,lM⟩:∃M,M=w3.heap.size:=⟨_,rfl⟩
 rw [←hw4,←lM] at I4
 rw [←hw4,←lM]
 rw [←lM] at hsz
 have hM:Hid (N≠M2∧N≠M5∧T≠M2∧w.heap.size≤M2∧M2<M5):=by have:=bC.out;have:=hsz.out;unfold Hid;omega
 clear hw4 lM
 go_upto_region 24 with (go_at_call 68;(with_reducible refine (jB ⟨#[60]⟩ I4.out.bH S3.out).mono ?_);rintro e w5 ⟨rfl,Dw,vC⟩;have I5:=ah (I4.out.aQ hM.out.1 (by have:=hM.out;omega) vC Dw);clear Dw vC)
 cases hu:ex r1.tail with
 | error e0 =>
  go_wp2_with (go_at_call 105;(refine (HEX.out r1.tail w5 I5.out.bH).mono ?_);intro e w6 Hq;obtain ⟨mg,rfl⟩:=Hq.bad hu;have K6:=ah mg;clear mg Hq)
  exact ⟨rfl,XQ.thrown I5.out.kept K6.out (by rw [pJ.out,hu])⟩
 | ok x =>
  obtain ⟨p,r2⟩:=x
  have jY:Hid (bg ex pr en (t::r)=match dW (bs [62]) en r2 with | .error er=>.error er | .ok r3=>.ok (.mk 4 E0 0 nm [p],r3)):=by unfold Hid;rw [pJ.out,hu]
  clear pJ
  go_upto_region 25 with (go_at_call 105;(refine (HEX.out r1.tail w5 I5.out.bH).mono ?_);intro e w6 Hq;obtain ⟨mg,xC,S,ka,cap,rfl,iM,iO,fV⟩:=Hq.ok hu;have I7:=ah (fO.item (cap:=cap) I5.out hM.out.1 hM.out.2.1 (by have:=hM.out;omega) (by have:=hM.out;omega) hT hN mg xC iM iO fV rfl);have I6:=ah (I5.out.aQ hM.out.1 hM.out.2.1 mg xC);obtain ⟨g0,g1,g2,g3,g4,gf⟩:=(I6.out.five.kept ((Kept.refl aA w6).alloc (.cells #[.int .i64 p.kind,.string p.text,.int .i64 p.n,.string p.name,.slice ka p.kids.length cap] 64)) (fun h=>h)).cells;have gf0:=gf 0;have gf4:=gf 4;clear gf mg xC iM iO fV Hq)
  obtain ⟨w7,hw7⟩:∃w7,w7=((w6.alloc (.cells #[.int .i64 p.kind,.string p.text,.int .i64 p.n,.string p.name,.slice ka p.kids.length cap] 64)).setCell ⟨M5,0,none⟩ (.int .i64 4)).setCell ⟨M5,4,none⟩ (.slice (some ⟨w6.heap.size,0,none⟩) 1 1):=⟨_,rfl⟩
  rw [←hw7] at I7
  rw [←hw7]
  clear hw7 g0 g1 g2 g3 g4 gf0 gf4
  cases hv:dW (bs [62]) en r2 with
  | error e0 =>
   go_wp2_with (go_at_call 103;(refine (jd (bs [62]) I7.out.bH).mono ?_);intro e w8 yH;obtain ⟨oO,rfl⟩:=yH.bad hv;have K8:=ah oO;clear oO yH)
   exact ⟨rfl,XQ.thrown I7.out.kept K8.out (by rw [jY.out,hv])⟩
  | ok r3 =>
   have xE:Hid (bg ex pr en (t::r)=.ok (.mk 4 E0 0 nm [p],r3)):=by unfold Hid;rw [jY.out,hv]
   clear jY
   go_upto_region 36 with (go_at_call 103;(refine (jd (bs [62]) I7.out.bH).mono ?_);intro e w8 yH;obtain ⟨oO,rfl,yI⟩:=yH.ok hv;have I8:=ah (I7.out.aQ hM.out.1 hM.out.2.1 oO yI);clear oO yI yH)
   obtain ⟨x0,x1,x2,x3,x4,_⟩:=I8.out.five.cells
   obtain ⟨z0,z1,z2,z3,z4,zf⟩:=I8.out.zero.cells
   have vY:=zf 0;have vZ:=zf 1;have wo:=zf 2;have xA:=zf 3;have xB:=zf 4
   clear zf
   go_wp2_with fail
   exact iw 2 rfl rfl (I8.out.zero.eY _ _ _ _ _) (I8.out.fin hM.out.1 hM.out.2.2.1 hM.out.2.2.2.1 hN xE.out)
end Go.Proofs.YtodebjhalipefaaGreatDoor
