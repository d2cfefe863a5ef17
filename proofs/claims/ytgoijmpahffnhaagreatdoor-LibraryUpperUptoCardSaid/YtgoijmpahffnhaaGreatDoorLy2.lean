/-  -/
import Derived.Test.YtgoijmpahffnhaaGreatDoorLy1
import Derived.Test.YtgoijmpahffnhaaGreatDoorLq3
namespace Go.Proofs.YtgoijmpahffnhaaGreatDoor
set_option linter.all false
open Go.RowKit
set_option maxRecDepth 100000
set_option maxHeartbeats 4000000
def wR (n:aj):Nat→jM→Int
 | _,[] => -1
 | i,x::q=>if x.1=n then (i:Int) else wR n (i+1) q
theorem Zv (n:aj) (l:jM) (j:Nat) (h:j<l.length):wR n j (l.drop j)=if l[j].1=n then (j:Int) else wR n (j+1) (l.drop (j+1)):=by
 rw [List.drop_eq_getElem_cons h,wR]
def lS (n:aj):jM→aj×Int
 | []=>(⟨#[]⟩,7)
 | x::q=>if x.1=n then (x.2,0) else lS n q
theorem WU {a b:aj}:(a.toList==b.toList)=decide (a=b):=by
 rw [Bool.eq_iff_iff,decide_eq_true_eq,beq_iff_eq,ByteArray.toList_eq,ByteArray.toList_eq]
 constructor
 ·intro h
  obtain ⟨x⟩:=a;obtain ⟨y⟩:=b
  have:x=y:=by rw [←Array.toList_inj];exact h
  rw [this]
 ·rintro rfl;rfl
def TabAt (w:World) (a:Option Addr) (l:jM):Prop:=∃g o,a=some ⟨g,o,none⟩∧g<w.heap.size∧∀j (h:j<l.length),w.cell? ⟨g,o+j*2,none⟩=some (.string l[j].1)∧w.cell? ⟨g,o+(j*2+1),none⟩=some (.string l[j].2)
theorem TabAt.kept {w w2:World} {a:Option Addr} {l:jM} (h:TabAt w a l) (hk:Kept aA w w2):TabAt w2 a l:=by
 obtain ⟨g,o,e,hg,hc⟩:=h
 exact ⟨g,o,e,Nat.lt_of_lt_of_le hg hk.size,fun j hj=>⟨(hk.cell hg (fun h=>h)).trans (hc j hj).1,(hk.cell hg (fun h=>h)).trans (hc j hj).2⟩⟩
theorem TabAt.of {w:World} {B:Nat} {a:Option Addr} {c n:Nat} {l:jM} (h:aO w B 49 2 (.slice a n c) n (gB l)) (h0:0<n) (hl:l.length=n):TabAt w a l:=by
 rcases h.cells with ⟨hv,hn⟩|⟨g,o,c',hv,_,hg,_,_,hc⟩
 ·omega
 ·simp only [Value.slice.injEq,true_and] at hv
  obtain ⟨rfl,rfl⟩:=hv
  exact ⟨g,o,rfl,hg,fun j hj=>⟨(hc (j*2) _ (Ph l j hj).1).1,(hc (j*2+1) _ (Ph l j hj).2).1⟩⟩
theorem LD (P:Nat) (a b n:aj) (w:World) (hP:w.cell? ⟨P,0,none⟩=some (.string n)) (hPl:P<w.heap.size):Calls Tryz.prog 21 #[.agg #[.string a,.string b],.pointer (some ⟨P,0,none⟩)] w (ug (decide (a=n)) w):=by
 have hb:=ah (WU (a:=a) (b:=n))
 have hP1:(w.alloc (.cells #[.string a,.string b] 49)).cell? ⟨P,0,none⟩=some (.string n):=(((Kept.refl aA w).alloc _).cell hPl (fun h=>h)).trans hP
 go_enter Tryz.func21, Tryz.ntmps21
 go_wp2_with fail
 go_ret
 exact ⟨by rw [←hb.out];try rfl,(Kept.refl _ _).alloc _⟩
theorem Pj (f:Nat) (lb:Array Value) (l:jM) (al:Option Addr) (cl:Nat) (n:aj) (eg:∀args wx,(callFunc f args).run Tryz.prog wx=.ok (.enter f args) wx) (w:World) (hl:TabAt w al l) (hP:∀(W:World) (a b:aj),Kept aA w W→Calls Tryz.prog f (#[.agg #[.string a,.string b]]++lb) W (ug (decide (a=n)) W)) (hlen:l.length≤1000) :
  Calls Tryz.prog 20 #[.slice al l.length cl,.func (.func f) #[] lb] w (abg (wR n 0 l) w):=by
 have HL:=ah hl;have HP:=ah hP
 clear hl hP
 go_enter Tryz.func20, Tryz.ntmps20
 go_wp2_with fail
 go_loopw [8] (fun i wr=>∃j:Nat,j≤l.length∧i=.int .i64 j∧Hid (wR n 0 l=wR n j (l.drop j))∧Kept aA w wr) (fun i _=>l.length-(intOf i).toNat)
 case atStart=>exact ⟨0,Nat.zero_le _,rfl,by unfold Hid;rw [List.drop_zero],Kept.refl _ _⟩
 case round =>
  obtain ⟨j,hj,rfl,hno,hk⟩:=hrel
  have KW:=ah hk
  by_cases hlt:j<l.length
  ·obtain ⟨g,o,rfl,hg,hc⟩:=HL.out.kept hk
   obtain ⟨q0,q1⟩:=hc j hlt
   have hd:=Zv n l j hlt
   have hcall:=ah (HP.out wr l[j].1 l[j].2 hk)
   obtain ⟨x1,hx1⟩:∃x,x=l[j].1:=⟨_,rfl⟩
   obtain ⟨x2,hx2⟩:∃x,x=l[j].2:=⟨_,rfl⟩
   rw [←hx1] at q0 hcall hd
   rw [←hx2] at q1 hcall
   have q1':wr.cell? ⟨g,o+j*2+1,none⟩=some (.string x2):=q1
   clear hc hk hg hx1 hx2 q1
   by_cases hpr:x1=n
   ·rw [if_pos hpr] at hd
    have fin:=ah (hno.out.trans hd)
    rw [ak hpr] at hcall
    clear hd hpr hno
    go_wp2_with fail
    refine hcall.out.mono ?_
    rintro e w2 ⟨rfl,bU⟩
    have K2:=ah (KW.out.trans bU)
    clear bU
    go_wp2_with fail
    go_ret
    exact ⟨by rw [fin.out];try rfl,K2.out⟩
   ·rw [if_neg hpr] at hd
    have step:=ah (hno.out.trans hd)
    rw [au hpr] at hcall
    clear hd hpr hno
    go_wp2_with fail
    refine hcall.out.mono ?_
    rintro e w2 ⟨rfl,bU⟩
    have K2:=ah (KW.out.trans bU)
    clear bU
    go_wp2_with fail
    go_roundw
    case rel=>exact ⟨j+1,by omega,by go_num,step,K2.out⟩
    case measure=>simp [intOf];omega
  ·obtain rfl:j=l.length:=by omega
   have fin:Hid (wR n 0 l = -1):=by unfold Hid;rw [hno.out,List.drop_length,wR]
   go_wp2_with fail
   go_ret
   exact ⟨by rw [fin.out];try rfl,KW.out⟩
theorem LG (n:aj):∀(l:jM) (i:Nat),(wR n i l = -1∧lS n l=(⟨#[]⟩,7))∨∃j,∃h:j<l.length,wR n i l=((i+j:Nat):Int)∧lS n l=(l[j].2,0)
 | [],i=>.inl ⟨rfl,rfl⟩
 | x::q,i=>by
  rw [wR,lS]
  by_cases h:x.1=n
  ·rw [if_pos h,if_pos h];exact .inr ⟨0,by simp,rfl,rfl⟩
  ·rw [if_neg h,if_neg h]
   rcases LG n q (i+1) with ⟨a,b⟩|⟨j,hj,a,b⟩
   ·exact .inl ⟨a,b⟩
   ·exact .inr ⟨j+1,by simpa using hj,by rw [a];congr 1;omega,by rw [b];rfl⟩
def Oc (n:aj) (w:World) (e:Ending) (w':World):Prop:=e=.returned (.tuple #[.string (lS n pV).1,.int .i64 (lS n pV).2])∧Kept aA w w'
theorem QS (n:aj) (w:World):Calls Tryz.prog 16 #[.string n] w (Oc n w):=by
 obtain ⟨w0,hw0⟩:∃w0,w0=w.alloc (.cells #[.string n] 9):=⟨_,rfl⟩
 have k0:Kept aA w w0:=by rw [hw0];exact (Kept.refl _ _).alloc _
 have c0:w0.cell? ⟨w.heap.size,0,none⟩=some (.string n):=by have h:w0.heap[w.heap.size]?=some (.cells #[.string n] 9 (0,0)):=(by rw [hw0];exact ay w _);rw [cell_of_row w0 _ _ _ _ _ h];rfl
 have hl0:w.heap.size<w0.heap.size:=by rw [hw0];simp
 obtain ⟨P,hP⟩:∃P,P=w.heap.size:=⟨_,rfl⟩
 rw [←hP] at c0 hl0
 have HW0:=ah hw0;have HPP:=ah hP;have K0:=ah k0;have C0:=ah c0
 have hmf:∀(fn:Fn) (first cap:Array Value) (w:World),(Instr.makeFunc fn first cap).run Tryz.prog w=.ok (.func fn first cap) w:=fun _ _ _ _=>rfl
 have hlen:pV.length=29:=rfl
 have hIT:=LG n pV 0
 obtain ⟨T,hT⟩:∃T,T=pV:=⟨_,rfl⟩
 have TR:Hid (lS n pV=lS n T):=by rw [hT];rfl
 have HSV:Hid (∀wx,Calls Tryz.prog 19 #[] wx (fun e w'=>∃a c,e=.returned (.slice a 29 c)∧TabAt w' a T∧Kept aA wx w')):=fun wx=>(SI wx).mono (by
  rintro e w' ⟨a,c,rfl,hw,hk⟩
  exact ⟨a,c,rfl,by rw [hT];exact TabAt.of hw (by decide) hlen,hk⟩)
 rw [←hT] at hlen hIT
 clear hw0 hP k0 hT c0
 rcases hIT with ⟨hi,ht⟩|⟨j,hj,hi,ht⟩
 ·have HI:=ah hi
  have fin:Hid (lS n pV=(⟨#[]⟩,7)):=TR.out.trans ht
  clear hi ht
  go_enter Tryz.func16, Tryz.ntmps16
  go_upto_region 1 with fail
  rw [←HW0.out,←HPP.out]
  go_wp2_with (first
   | (go_at_call 19;(refine (HSV.out w0).mono ?_);rintro e w1 ⟨a,c,rfl,t_,k_⟩;have T1:=ah t_;have K1:=ah k_;clear t_ k_)
   | (go_at_call 20;(have h_:=Pj 21 #[.pointer (some ⟨P,0,none⟩)] T a c n (fun _ _=>by kernel_rfl) w1 T1.out (fun W a b hk=>LD P a b n W ((hk.cell (Nat.lt_of_lt_of_le hl0 K1.out.size) (fun h=>h)).trans ((K1.out.cell hl0 (fun h=>h)).trans C0.out)) (Nat.lt_of_lt_of_le (Nat.lt_of_lt_of_le hl0 K1.out.size) hk.size)) (by omega));rw [hlen,HI.out] at h_;(refine h_.mono ?_);rintro e w2 ⟨rfl,k_⟩;have K2:=ah k_;clear k_ h_))
  go_ret2
  exact ⟨by rw [fin.out];rfl,(K0.out.trans K1.out).trans K2.out⟩
 ·rw [Nat.zero_add] at hi
  have HI:=ah hi
  have fin:Hid (lS n pV=(T[j].2,0)):=TR.out.trans ht
  have hj2:j<29:=by omega
  have hjn:decide ((j:Int)<0)=false:=au (by omega)
  have bj:(j:Int)<(29:Int):=by omega
  obtain ⟨x,hx⟩:∃x,x=T[j].2:=⟨_,rfl⟩
  rw [←hx] at fin
  have HX:=ah hx
  clear hi ht hx
  go_enter Tryz.func16, Tryz.ntmps16
  go_upto_region 1 with fail
  rw [←HW0.out,←HPP.out]
  go_wp2_with (first
   | (go_at_call 19;(refine (HSV.out w0).mono ?_);rintro e w1 ⟨a,c,rfl,t_,k_⟩;have T1:=ah t_;have K1:=ah k_;clear t_ k_)
   | (go_at_call 20;(have h_:=Pj 21 #[.pointer (some ⟨P,0,none⟩)] T a c n (fun _ _=>by kernel_rfl) w1 T1.out (fun W a b hk=>LD P a b n W ((hk.cell (Nat.lt_of_lt_of_le hl0 K1.out.size) (fun h=>h)).trans ((K1.out.cell hl0 (fun h=>h)).trans C0.out)) (Nat.lt_of_lt_of_le (Nat.lt_of_lt_of_le hl0 K1.out.size) hk.size)) (by omega));rw [hlen,HI.out] at h_;(refine h_.mono ?_);rintro e w2 ⟨rfl,k_⟩;have K2:=ah k_;obtain ⟨g,o,rfl,_,hc_⟩:=T1.out.kept k_;have q1:=(hc_ j hj).2;rw [←HX.out] at q1;have q1':w2.cell? ⟨g,o+j*2+1,none⟩=some (.string x):=q1;clear k_ h_ hc_ q1))
  go_ret2
  exact ⟨by rw [fin.out];rfl,(K0.out.trans K1.out).trans K2.out⟩
end Go.Proofs.YtgoijmpahffnhaaGreatDoor
