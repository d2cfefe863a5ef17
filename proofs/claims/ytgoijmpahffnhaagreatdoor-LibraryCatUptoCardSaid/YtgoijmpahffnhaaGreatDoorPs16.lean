/-  -/
import Derived.Test.YtgoijmpahffnhaaGreatDoorLc10
namespace Go.Proofs.YtgoijmpahffnhaaGreatDoor
set_option linter.all false
open Go.RowKit
set_option maxRecDepth 100000
set_option maxHeartbeats 8000000
theorem ZH:(Tryz.prog.info? 54).map (fun i=>(i.zero,i.size,i.bytes))=some (some (.agg #[.int .i64 0,.string ⟨#[]⟩,.int .i64 0,.string ⟨#[]⟩,.slice none 0 0]),5,72):=by kernel_rfl
theorem Qi {N T en d:Nat} {ex pr:List aC→bD aA} {t:aC} {r:List aC} {w:World} (h:dB N T en (t::r) d w) (hk:t.kind≠3∧t.kind≠2) (hs1:aH (bs [40]) (t::r)=false) (hs2:aH (bs [36]) (t::r)=false) {nm:aj} {r1:List aC} (hnm:dU en (t::r)=.ok (nm,r1)) (hs3:aH (bs [60]) r1=false) (hs4:aH (bs [40]) r1=true) (hs5:aH (bs [41]) r1.tail=true):Calls Tryz.prog 235 #[.pointer (some ⟨N,0,none⟩)] w (XQ N T en d (bG ex pr en (t::r)) w):=by
 have er:Hid (bG ex pr en (t::r)=match dU en (t::r) with
    | .error er=>.error er
    | .ok (nm,r) =>
     if aH (bs [60]) r=true then
      match ex r.tail with
      | .error er=>.error er
      | .ok (x,r2)=>match eU (bs [62]) en r2 with
       | .error er=>.error er
       | .ok r3=>.ok (.mk 4 E0 0 nm [x],r3)
     else if aH (bs [40]) r=true then
      if aH (bs [41]) r.tail=true then .ok (.mk 6 E0 0 nm [],r.tail.tail)
      else match ng ex en 9 [] r.tail with
       | .error er=>.error er
       | .ok (ks,r2)=>.ok (.mk 6 E0 0 nm ks,r2)
     else .ok (.mk 3 E0 0 nm [],r)):=by unfold Hid bG;rw [hs1,hs2];simp only [fF,hk.1,hk.2,if_false,Bool.false_eq_true];rfl
 have S1:Hid (aH ⟨#[40]⟩ (t::r)=false):=hs1;have S2:Hid (aH ⟨#[36]⟩ (t::r)=false):=hs2;have HK:=ah hk
 have qJ:Hid (bG ex pr en (t::r)=.ok (.mk 6 E0 0 nm [],r1.tail.tail)):=by unfold Hid;rw [er.out,hnm];simp only [hs3,hs4,hs5,if_true,if_false,Bool.false_eq_true]
 have zh:=ah hnm;have S3:Hid (aH ⟨#[60]⟩ r1=false):=hs3;have S4:Hid (aH ⟨#[40]⟩ r1=true):=hs4;have S5:Hid (aH ⟨#[41]⟩ r1.tail=true):=hs5
 obtain ⟨hN,hT,hne,h7⟩:=h.jL
 obtain ⟨w0,hw0⟩:∃w0,w0=w.alloc (.cells #[.int .i64 0,.string ⟨#[]⟩,.int .i64 0,.string ⟨#[]⟩,.slice none 0 0] 54):=⟨_,rfl⟩
 have k0:Kept aB w w0:=by rw [hw0];exact (Kept.refl _ _).alloc _
 obtain ⟨M2,hM2⟩:∃M,M=w.heap.size:=⟨_,rfl⟩
 have Z0:Hid (eH M2 (.int .i64 0) (.string ⟨#[]⟩) (.int .i64 0) (.string ⟨#[]⟩) (.slice none 0 0) w0):=by rw [hw0,hM2];exact ay w _
 have R0:=ah (h.kept k0 (fun h=>h) (fun h=>h))
 have K0:Hid (Kept (· = N) w w0):=k0.more (fun _ h=>h.elim)
 have HW0:=ah hw0;have bF:=ah hM2
 clear k0 hw0 hM2 h hk hs1 hs2 hnm hs3 hs4 hs5 er
 go_enter Tryz.func235, Tryz.ntmps235
 go_upto_region 1 with fail
 rw [←HW0.out,←bF.out]
 go_upto_region 12 with (first
  | (go_at_call 53;(with_reducible refine (fA ⟨#[40]⟩ R0.out S1.out).mono ?_);rintro e w1 ⟨rfl,eF,bY⟩;have R1:=ah eF;have K1:Hid (Kept (· = N) w w1):=K0.out.trans bY;have Z1:=ah (Z0.out.kept bY (by have:=bF.out;omega));clear eF bY)
  | (go_at_call 53;(with_reducible refine (fA ⟨#[36]⟩ R1.out S2.out).mono ?_);rintro e w2 ⟨rfl,jh,eY⟩;have R2:=ah jh;have K2:Hid (Kept (· = N) w w2):=K1.out.trans eY;have Z2:=ah (Z1.out.kept eY (by have:=bF.out;omega));clear jh eY))
 obtain ⟨n2,a2,c2,hP⟩:=R2.out
 obtain ⟨c0,c1,cd,cf⟩:=hP.c0
 have hn:=hP.num
 rw [List.length_cons] at hn
 have h0:0<n2:=by omega
 have h1:(0:Int)<(n2:Int):=by omega
 have z:decide ((0:Int)<(n2:Int))=true:=ak h1
 have z':decide (0<n2)=true:=ak h0
 obtain ⟨o,rfl,t0,t1,t2⟩:=hP.head
 have y3:(t.kind==3)=false:=by simpa using HK.out.1
 have y2:(t.kind==2)=false:=by simpa using HK.out.2
 clear hn hP cf
 go_upto_region 22 with fail
 clear c0 c1 cd t0 t1 t2 y3 y2 z z'
 go_upto_region 23 with (go_at_call 50;(refine (fZ R2.out).mono ?_);intro e w3 fH;obtain ⟨bH,rfl,jo⟩:=fH.ok zh.out;have R3:=ah jo;have K3:Hid (Kept (· = N) w w3):=K2.out.trans bH;have Z3:=ah (Z2.out.kept bH (by have:=bF.out;omega));clear bH jo fH)
 have I4:Hid (gK N T en d M2 w3.heap.size w (.mk 3 E0 0 nm []) none 0 r1 (w3.alloc (.cells #[.int .i64 3,.string ⟨#[]⟩,.int .i64 0,.string nm,.slice none 0 0] 54))):=gK.start (w1:=w3) (p:=.mk 3 E0 0 nm []) (ka:=none) (cap:=0) (S:=aB) Z3.out K3.out R3.out (fun b hb=>hb.elim) ⟨by show E0.size<_;decide,by show nm.size<_;have:=jf zh.out;omega,by show 0<_;decide⟩ (by show aI _ aB none [];unfold aI;trivial) hN K3.out.size Z3.out.lt
 have hsz:Hid (w.heap.size<w3.heap.size):=by have:=Z3.out.lt;have:=bF.out;unfold Hid;omega
 obtain ⟨w4,hw4⟩:∃w4,w4=w3.alloc (.cells #[.int .i64 3,.string ⟨#[]⟩,.int .i64 0,.string nm,.slice none 0 0] 54):=⟨_,rfl⟩
 obtain ⟨M5,nK⟩:∃M,M=w3.heap.size:=⟨_,rfl⟩
 rw [←hw4,←nK] at I4
 rw [←hw4,←nK]
 rw [←nK] at hsz
 have hM:Hid (N≠M2∧N≠M5∧T≠M2∧w.heap.size≤M2∧M2<M5):=by have:=bF.out;have:=hsz.out;unfold Hid;omega
 clear hw4 nK
 go_upto_region 27 with (first
  | (go_at_call 53;(with_reducible refine (fA ⟨#[60]⟩ I4.out.bf S3.out).mono ?_);rintro e w5 ⟨rfl,Dw,wI⟩;have I5:=ah (I4.out.aQ hM.out.1 (by have:=hM.out;omega) wI Dw);clear Dw wI)
  | (go_at_call 53;(with_reducible refine (jW ⟨#[40]⟩ I5.out.bf S4.out).mono ?_);rintro e w6 ⟨rfl,yh,oG⟩;have I6:=ah (I5.out.aQ hM.out.1 (by have:=hM.out;omega) oG yh);clear yh oG))
 obtain ⟨x0,x1,x2,x3,x4,xf⟩:=I6.out.five.cells
 have xf0:=xf 0
 clear xf
 have J7:Hid (o7 N T en d M2 M5 w nm [] (.slice none 0 0) r1.tail (w6.setCell ⟨M5,0,none⟩ (.int .i64 6))):=o7.start I6.out hM.out.2.1 (by have:=hM.out;omega) (by have:=hM.out;omega) hT hN
 go_upto_region 28 with fail
 obtain ⟨w7,hw7⟩:∃w7,w7=w6.setCell ⟨M5,0,none⟩ (.int .i64 6):=⟨_,rfl⟩
 rw [←hw7] at J7
 rw [←hw7]
 clear hw7 x0 x1 x2 x3 x4 xf0
 go_upto_region 29 with (go_at_call 53;(with_reducible refine (jW ⟨#[41]⟩ J7.out.bf S5.out).mono ?_);rintro e w8 ⟨rfl,zk,qp⟩;have J8:=ah (J7.out.aQ hM.out.1 (by have:=hM.out;omega) qp zk);clear zk qp)
 have I8:Hid (gK N T en d M2 M5 w (.mk 6 E0 0 nm []) none 0 r1.tail.tail w8):=o7.done (ks:=[]) J8.out hM.out.2.2.2.2 (by have:=hM.out;omega) hN (by decide)
 obtain ⟨x0,x1,x2,x3,x4,_⟩:=I8.out.five.cells
 obtain ⟨z0,z1,z2,z3,z4,zf⟩:=I8.out.zero.cells
 have wK:=zf 0;have wL:=zf 1;have wM:=zf 2;have xw:=zf 3;have xA:=zf 4
 clear zf
 go_wp2_with fail
 exact iW 2 rfl rfl (I8.out.zero.aZ _ _ _ _ _) (I8.out.fin hM.out.1 hM.out.2.2.1 hM.out.2.2.2.1 hN qJ.out)
theorem Ub {N T en d:Nat} {ex pr:List aC→bD aA} {t:aC} {r:List aC} {w:World} (h:dB N T en (t::r) d w) (hk:t.kind≠3∧t.kind≠2) (hs1:aH (bs [40]) (t::r)=false) (hs2:aH (bs [36]) (t::r)=false) {nm:aj} {r1:List aC} (hnm:dU en (t::r)=.ok (nm,r1)) (hs3:aH (bs [60]) r1=false) (hs4:aH (bs [40]) r1=true) (HE:FT N T en d ex) (hs5:aH (bs [41]) r1.tail=false):Calls Tryz.prog 235 #[.pointer (some ⟨N,0,none⟩)] w (XQ N T en d (bG ex pr en (t::r)) w):=by
 have er:Hid (bG ex pr en (t::r)=match dU en (t::r) with
    | .error er=>.error er
    | .ok (nm,r) =>
     if aH (bs [60]) r=true then
      match ex r.tail with
      | .error er=>.error er
      | .ok (x,r2)=>match eU (bs [62]) en r2 with
       | .error er=>.error er
       | .ok r3=>.ok (.mk 4 E0 0 nm [x],r3)
     else if aH (bs [40]) r=true then
      if aH (bs [41]) r.tail=true then .ok (.mk 6 E0 0 nm [],r.tail.tail)
      else match ng ex en 9 [] r.tail with
       | .error er=>.error er
       | .ok (ks,r2)=>.ok (.mk 6 E0 0 nm ks,r2)
     else .ok (.mk 3 E0 0 nm [],r)):=by unfold Hid bG;rw [hs1,hs2];simp only [fF,hk.1,hk.2,if_false,Bool.false_eq_true];rfl
 have S1:Hid (aH ⟨#[40]⟩ (t::r)=false):=hs1;have S2:Hid (aH ⟨#[36]⟩ (t::r)=false):=hs2;have HK:=ah hk
 have qJ:Hid (bG ex pr en (t::r)=match ng ex en 9 [] r1.tail with | .error er=>.error er | .ok (ks,r2)=>.ok (.mk 6 E0 0 nm ks,r2)):=by unfold Hid;rw [er.out,hnm];simp only [hs3,hs4,hs5,if_true,if_false,Bool.false_eq_true]
 have zh:=ah hnm;have S3:Hid (aH ⟨#[60]⟩ r1=false):=hs3;have S4:Hid (aH ⟨#[40]⟩ r1=true):=hs4;have S5:Hid (aH ⟨#[41]⟩ r1.tail=false):=hs5;have HEX:=ah HE
 have ajs:nm.size≤16:=jf hnm
 obtain ⟨i0,hi0,hz0,hz1,hz2⟩:=info_parts ZH
 obtain ⟨hN,hT,hne,h7⟩:=h.jL
 obtain ⟨w0,hw0⟩:∃w0,w0=w.alloc (.cells #[.int .i64 0,.string ⟨#[]⟩,.int .i64 0,.string ⟨#[]⟩,.slice none 0 0] 54):=⟨_,rfl⟩
 have k0:Kept aB w w0:=by rw [hw0];exact (Kept.refl _ _).alloc _
 obtain ⟨M2,hM2⟩:∃M,M=w.heap.size:=⟨_,rfl⟩
 have Z0:Hid (eH M2 (.int .i64 0) (.string ⟨#[]⟩) (.int .i64 0) (.string ⟨#[]⟩) (.slice none 0 0) w0):=by rw [hw0,hM2];exact ay w _
 have R0:=ah (h.kept k0 (fun h=>h) (fun h=>h))
 have K0:Hid (Kept (· = N) w w0):=k0.more (fun _ h=>h.elim)
 have HW0:=ah hw0;have bF:=ah hM2
 clear k0 hw0 hM2 h hk hs1 hs2 hnm hs3 hs4 hs5 er HE
 go_enter Tryz.func235, Tryz.ntmps235
 go_upto_region 1 with fail
 rw [←HW0.out,←bF.out]
 go_upto_region 12 with (first
  | (go_at_call 53;(with_reducible refine (fA ⟨#[40]⟩ R0.out S1.out).mono ?_);rintro e w1 ⟨rfl,eF,bY⟩;have R1:=ah eF;have K1:Hid (Kept (· = N) w w1):=K0.out.trans bY;have Z1:=ah (Z0.out.kept bY (by have:=bF.out;omega));clear eF bY)
  | (go_at_call 53;(with_reducible refine (fA ⟨#[36]⟩ R1.out S2.out).mono ?_);rintro e w2 ⟨rfl,jh,eY⟩;have R2:=ah jh;have K2:Hid (Kept (· = N) w w2):=K1.out.trans eY;have Z2:=ah (Z1.out.kept eY (by have:=bF.out;omega));clear jh eY))
 obtain ⟨n2,a2,c2,hP⟩:=R2.out
 obtain ⟨c0,c1,cd,cf⟩:=hP.c0
 have hn:=hP.num
 rw [List.length_cons] at hn
 have h0:0<n2:=by omega
 have h1:(0:Int)<(n2:Int):=by omega
 have z:decide ((0:Int)<(n2:Int))=true:=ak h1
 have z':decide (0<n2)=true:=ak h0
 obtain ⟨o,rfl,t0,t1,t2⟩:=hP.head
 have y3:(t.kind==3)=false:=by simpa using HK.out.1
 have y2:(t.kind==2)=false:=by simpa using HK.out.2
 clear hn hP cf
 go_upto_region 22 with fail
 clear c0 c1 cd t0 t1 t2 y3 y2 z z'
 go_upto_region 23 with (go_at_call 50;(refine (fZ R2.out).mono ?_);intro e w3 fH;obtain ⟨bH,rfl,jo⟩:=fH.ok zh.out;have R3:=ah jo;have K3:Hid (Kept (· = N) w w3):=K2.out.trans bH;have Z3:=ah (Z2.out.kept bH (by have:=bF.out;omega));clear bH jo fH)
 have I4:Hid (gK N T en d M2 w3.heap.size w (.mk 3 E0 0 nm []) none 0 r1 (w3.alloc (.cells #[.int .i64 3,.string ⟨#[]⟩,.int .i64 0,.string nm,.slice none 0 0] 54))):=gK.start (w1:=w3) (p:=.mk 3 E0 0 nm []) (ka:=none) (cap:=0) (S:=aB) Z3.out K3.out R3.out (fun b hb=>hb.elim) ⟨by show E0.size<_;decide,by show nm.size<_;have:=jf zh.out;omega,by show 0<_;decide⟩ (by show aI _ aB none [];unfold aI;trivial) hN K3.out.size Z3.out.lt
 have hsz:Hid (w.heap.size<w3.heap.size):=by have:=Z3.out.lt;have:=bF.out;unfold Hid;omega
 obtain ⟨w4,hw4⟩:∃w4,w4=w3.alloc (.cells #[.int .i64 3,.string ⟨#[]⟩,.int .i64 0,.string nm,.slice none 0 0] 54):=⟨_,rfl⟩
 obtain ⟨M5,nK⟩:∃M,M=w3.heap.size:=⟨_,rfl⟩
 rw [←hw4,←nK] at I4
 rw [←hw4,←nK]
 rw [←nK] at hsz
 have hM:Hid (N≠M2∧N≠M5∧T≠M2∧w.heap.size≤M2∧M2<M5):=by have:=bF.out;have:=hsz.out;unfold Hid;omega
 clear hw4 nK
 go_upto_region 27 with (first
  | (go_at_call 53;(with_reducible refine (fA ⟨#[60]⟩ I4.out.bf S3.out).mono ?_);rintro e w5 ⟨rfl,Dw,wI⟩;have I5:=ah (I4.out.aQ hM.out.1 (by have:=hM.out;omega) wI Dw);clear Dw wI)
  | (go_at_call 53;(with_reducible refine (jW ⟨#[40]⟩ I5.out.bf S4.out).mono ?_);rintro e w6 ⟨rfl,yh,oG⟩;have I6:=ah (I5.out.aQ hM.out.1 (by have:=hM.out;omega) oG yh);clear yh oG))
 obtain ⟨x0,x1,x2,x3,x4,xf⟩:=I6.out.five.cells
 have xf0:=xf 0
 clear xf
 have J7:Hid (o7 N T en d M2 M5 w nm [] (.slice none 0 0) r1.tail (w6.setCell ⟨M5,0,none⟩ (.int .i64 6))):=o7.start I6.out hM.out.2.1 (by have:=hM.out;omega) (by have:=hM.out;omega) hT hN
 go_upto_region 28 with fail
 obtain ⟨w7,hw7⟩:∃w7,w7=w6.setCell ⟨M5,0,none⟩ (.int .i64 6):=⟨_,rfl⟩
 rw [←hw7] at J7
 rw [←hw7]
 clear hw7 x0 x1 x2 x3 x4 xf0
 go_upto_block 0 with (go_at_call 53;(with_reducible refine (fA ⟨#[41]⟩ J7.out.bf S5.out).mono ?_);rintro e w8 ⟨rfl,zk,qp⟩;have J8:=ah (J7.out.aQ hM.out.1 (by have:=hM.out;omega) qp zk);clear zk qp)
 clear J7 I4 I5 I6
 go_loopg [] 9 (fun f wr=>∃(ks:List aA) (a:Option Addr) (c:Nat) (l:List aC),Hid (ks.length+f=9∧ks.length≤8)∧Hid (o7 N T en d M2 M5 w nm ks (.slice a ks.length c) l wr)∧Hid (bG ex pr en (t::r)=match ng ex en f ks l with | .error er=>.error er | .ok (ks,r2)=>.ok (.mk 6 E0 0 nm ks,r2)))
 case atStart=>exact ⟨[],none,0,_,by unfold Hid;decide,J8,qJ⟩
 case round =>
  obtain ⟨ks,a,c,l,hf,J,hch⟩:=hrel
  obtain ⟨x0,x1,x2,x3,x4,xf⟩:=J.out.five.cells
  have xf4:=xf 4
  clear xf
  by_cases h8:ks.length=8
  ·have z:((ks.length:Int)==8)=true:=by rw [h8];rfl
   obtain rfl:gk=1:=by have:=hf.out;omega
   have lK:Hid (bG ex pr en (t::r)=.error (5,dP en l)):=by unfold Hid;rw [hch.out,ng,if_pos h8]
   obtain ⟨n9,a9,c9,r9⟩:=J.out.bf
   have HA:=ah (mM r9)
   clear r9 h8 hf hch
   go_wp2_with (first
    | (go_at_call 56;(refine HA.out.mono ?_);rintro e w' ⟨rfl,aK⟩;obtain rfl:=aK.symm)
    | (go_at_call 55;(refine (dG _ 5 (dP en l) wr).mono ?_);rintro e w9 ⟨rfl,rfl⟩))
   exact ⟨rfl,XQ.thrown J.out.kept (Kept.refl _ _) lK.out⟩
  ·have z:((ks.length:Int)==8)=false:=by simp;omega
   obtain ⟨g,rfl⟩:∃g,gk=g+1:=by have:=hf.out;exact ⟨gk-1,by omega⟩
   have Dx:Hid (ks.length+g=8∧ks.length<8):=by have:=hf.out;unfold Hid;omega
   have hkl:ks.length≤8:=by have:=Dx.out;omega
   have lK:Hid (bG ex pr en (t::r)=match (match ex l with | .error er=>.error er | .ok (x,r)=>if aH (bs [41]) r=true then .ok (ks++[x],r.tail) else match eU (bs [44]) en r with | .error er=>.error er | .ok r2=>ng ex en g (ks++[x]) r2:bD (List aA)) with | .error er=>.error er | .ok (ks,r2)=>.ok (.mk 6 E0 0 nm ks,r2)):=by unfold Hid;rw [hch.out,ng,if_neg h8];rfl
   clear h8 hf hch
   have JD:=ah (J.out.aQ hM.out.1 (by have:=hM.out;omega) ((Kept.refl (· = N) wr).drew) (J.out.bf.kept (Kept.refl aB wr).drew (fun h=>h) (fun h=>h)))
   go_upto_region 32 with fail
   go_cut [] (fun wx=>∃(q:aA) (r2:List aC) (a':Option Addr) (c':Nat),Hid (ex l=.ok (q,r2))∧Hid (o7 N T en d M2 M5 w nm (ks++[q]) (.slice a' (ks++[q]).length c') r2 wx))
   case first =>
    go_region_law (first
     | (refine yQ (w:=w9.alloc (.cells #[.int .i64 q.kind,.string q.text,.int .i64 q.n,.string q.name,.slice kc q.kids.length rM] 54)) rfl (.tmp 145) (.tmp 148) 52 52 rfl (M5+1) 54 i0 (.agg #[.int .i64 0,.string ⟨#[]⟩,.int .i64 0,.string ⟨#[]⟩,.slice none 0 0]) 5 72 Tryz.underlying52 hi0 hz0 hz1 hz2 rfl (.slice a ks.length c) ks.length cs (by simp [Act.eval]) WB.out _ 1 [.int .i64 q.kind,.string q.text,.int .i64 q.n,.string q.name,.slice kc q.kids.length rM] (by simp [Act.eval]) SR.out (by unfold maxLen;omega) (by omega) hb3 ?_;intro a4 c4 w10 Eu hg4 Gw;have LM4:=ah (LM.out a4 c4 w10 Eu hg4 (by simpa using Gw));have of4:=(HF.out w10 hg4).1;have oc4:=(HF.out w10 hg4).2)
     | (go_simp;go_at_call 90;(refine (HEX.out l wr.drew JD.out.bf).mono ?_);intro e w9 h9_;rcases hu:ex l with e0|⟨q,r2⟩;(obtain ⟨G7,rfl⟩:=h9_.bad hu;have f_:XQ N T en d (bG ex pr en (t::r)) w (.panicked [{v:=bK e0,recovered:=false}]) w9:=XQ.thrown JD.out.kept G7 (by rw [lK.out,hu]);exact ⟨rfl,f_⟩);obtain ⟨G7,r9_,S2,kc,rM,rfl,ad6,ad7,ad8⟩:=h9_.ok hu;have HU:=ah hu;obtain ⟨cs,S1,hw1,hr1,hS1⟩:=JD.out.own;have WB:=ah ((hw1.kept G7 (fun b hb=>by have:=(hw1.lt b hb).1;have:=hM.out;omega)).alloc (.cells #[.int .i64 q.kind,.string q.text,.int .i64 q.n,.string q.name,.slice kc q.kids.length rM] 54));have SR:Hid (Src Tryz.prog 5 52 (.slice (some ⟨w9.heap.size,0,none⟩) 1 1) 1 [.int .i64 q.kind,.string q.text,.int .i64 q.n,.string q.name,.slice kc q.kids.length rM] (w9.alloc (.cells #[.int .i64 q.kind,.string q.text,.int .i64 q.n,.string q.name,.slice kc q.kids.length rM] 54))):=Src.ofSlice _ Tryz.underlying52 _ _ _ _ rfl (World.news_of_block (fr:=(0,0)) (cs:=#[.int .i64 q.kind,.string q.text,.int .i64 q.n,.string q.name,.slice kc q.kids.length rM]) (ay w9 _)) (by intro u hu;simp at hu;rcases hu with rfl|rfl|rfl|rfl|rfl<;>rfl);have I9:=ah (JD.out.aQ hM.out.1 (by have:=hM.out;omega) G7 r9_);have hb3:M5+1≤(w9.alloc (.cells #[.int .i64 q.kind,.string q.text,.int .i64 q.n,.string q.name,.slice kc q.kids.length rM] 54)).heap.size:=(by have:=I9.out.five.lt;simp;omega);obtain ⟨p0,p1,p2,p3,p4,pf⟩:=I9.out.five.cells;have p4':(w9.alloc (.cells #[.int .i64 q.kind,.string q.text,.int .i64 q.n,.string q.name,.slice kc q.kids.length rM] 54)).cell? ⟨M5,4,none⟩=some (.slice a ks.length c):=(((Kept.refl aB w9).alloc _).cell I9.out.five.lt (fun h=>h)).trans p4;have LM:Hid (∀(a':Option Addr) (c':Nat) (w4:World),aS w4 (M5+1) 54 5 (.slice a' (ks.length+1) c') (ks.length+1) (cs++[.int .i64 q.kind,.string q.text,.int .i64 q.n,.string q.name,.slice kc q.kids.length rM])→(w9.alloc (.cells #[.int .i64 q.kind,.string q.text,.int .i64 q.n,.string q.name,.slice kc q.kids.length rM] 54)).grownBy w4 (Value.slice a ks.length c).ownBlock→((Value.slice a' (ks.length+1) c').ownBlock=(Value.slice a ks.length c).ownBlock∨(Value.slice a' (ks.length+1) c').ownBlock=some (w9.heap.size+1))→o7 N T en d M2 M5 w nm (ks++[q]) (.slice a' (ks.length+1) c') r2 (w4.setCell ⟨M5,4,none⟩ (.slice a' (ks.length+1) c'))):=(fun a' c' w4 y1 y2 y3=>JD.out.step hw1 hr1 hS1 hM.out.2.2.2.2 (by have:=hM.out;omega) hN hT (by have:=hM.out;omega) G7 r9_ ad7 ad6 ad8 y1 y2 y3);have HF:Hid (∀w4:World,(w9.alloc (.cells #[.int .i64 q.kind,.string q.text,.int .i64 q.n,.string q.name,.slice kc q.kids.length rM] 54)).grownBy w4 (Value.slice a ks.length c).ownBlock→w4.frozen? ⟨M5,4,none⟩=false∧w4.cell? ⟨M5,4,none⟩=some (.slice a ks.length c)):=(fun w4 hg=>by have hlt3:=I9.out.five.lt;have hx:=hg.block M5 (by simp;omega) (fun e=>by have:=(hw1.lt _ e.symm).1;omega);have hy:=I9.out.five;unfold eH at hy;exact ⟨by simp [World.frozen?,hx,Below.heap_alloc _ _ _ hlt3,hy],by simp [World.cell?,hx,Below.heap_alloc _ _ _ hlt3,hy]⟩);clear G7 r9_ ad6 ad7 ad8 h9_ hw1 hr1 hS1 hu))
    all_goals
     go_wp2_with fail
     go_meet
     exact ⟨q,r2,a4,c4,HU,by rw [List.length_append];exact LM4⟩
   case rest =>
    obtain ⟨q,r2,a5,c5,HU,J9⟩:=hcut
    obtain ⟨Dy,Uc⟩:∃k2,k2=ks++[q]:=⟨_,rfl⟩
    have QH:Hid (Dy.length=ks.length+1):=by unfold Hid;rw [Uc,List.length_append];rfl
    rw [←Uc] at J9
    have yj:Hid (bG ex pr en (t::r)=match (if aH (bs [41]) r2=true then .ok (Dy,r2.tail) else match eU (bs [44]) en r2 with | .error er=>.error er | .ok r2=>ng ex en g (Dy) r2:bD (List aA)) with | .error er=>.error er | .ok (ks,r2)=>.ok (.mk 6 E0 0 nm ks,r2)):=by unfold Hid;rw [lK.out,HU.out,Uc]
    clear Uc
    cases hs:aH ⟨#[41]⟩ r2 with
    | true =>
     have WS:Hid (bG ex pr en (t::r)=.ok (.mk 6 E0 0 nm (Dy),r2.tail)):=by unfold Hid;rw [yj.out,show aH (bs [41]) r2=true from hs];rfl
     go_upto_region 34 with (go_at_call 53;(with_reducible refine (jW ⟨#[41]⟩ J9.out.bf hs).mono ?_);rintro e w10 ⟨rfl,qK,qM⟩;have Oh:=ah (J9.out.aQ hM.out.1 (by have:=hM.out;omega) qM qK);clear qK qM)
     have I10:Hid (gK N T en d M2 M5 w (.mk 6 E0 0 nm (Dy)) a5 c5 r2.tail w10):=o7.done Oh.out hM.out.2.2.2.2 (by have:=hM.out;omega) hN (by have:=Dx.out;have:=QH.out;omega)
     obtain ⟨x0,x1,x2,x3,x4,_⟩:=I10.out.five.cells
     obtain ⟨z0,z1,z2,z3,z4,zf⟩:=I10.out.zero.cells
     have wK:=zf 0;have wL:=zf 1;have wM:=zf 2;have xw:=zf 3;have xA:=zf 4
     clear zf
     go_wp2_with fail
     exact iW 2 rfl rfl (I10.out.zero.aZ _ _ _ _ _) (I10.out.fin hM.out.1 hM.out.2.2.1 hM.out.2.2.2.1 hN WS.out)
    | false =>
     cases hv:eU (bs [44]) en r2 with
     | error e0 =>
      have WS:Hid (bG ex pr en (t::r)=.error e0):=by unfold Hid;rw [yj.out,show aH (bs [41]) r2=false from hs];simp only [hv,if_false,Bool.false_eq_true]
      go_wp2_with (first
       | (go_at_call 53;(with_reducible refine (fA ⟨#[41]⟩ J9.out.bf hs).mono ?_);rintro e w10 ⟨rfl,qK,qM⟩;have Oh:=ah (J9.out.aQ hM.out.1 (by have:=hM.out;omega) qM qK);clear qK qM)
       | (go_at_call 88;(refine (jE (bs [44]) Oh.out.bf).mono ?_);intro e w11 Oi;obtain ⟨Oj,rfl⟩:=Oi.bad hv;have K11:=ah Oj;clear Oj Oi))
      exact ⟨rfl,XQ.thrown Oh.out.kept K11.out WS.out⟩
     | ok r3 =>
      have WS:Hid (bG ex pr en (t::r)=match ng ex en g (Dy) r3 with | .error er=>.error er | .ok (ks,r2)=>.ok (.mk 6 E0 0 nm ks,r2)):=by unfold Hid;rw [yj.out,show aH (bs [41]) r2=false from hs];simp only [hv,if_false,Bool.false_eq_true]
      go_wp2_with (first
       | (go_at_call 53;(with_reducible refine (fA ⟨#[41]⟩ J9.out.bf hs).mono ?_);rintro e w10 ⟨rfl,qK,qM⟩;have Oh:=ah (J9.out.aQ hM.out.1 (by have:=hM.out;omega) qM qK);clear qK qM)
       | (go_at_call 88;(refine (jE (bs [44]) Oh.out.bf).mono ?_);intro e w11 Oi;obtain ⟨Oj,rfl,ad9⟩:=Oi.ok hv;have J11:=ah (Oh.out.aQ hM.out.1 (by have:=hM.out;omega) Oj ad9);clear Oj ad9 Oi))
      go_roundg g
      case measure=>omega
      case rel=>exact ⟨Dy,a5,c5,r3,by have:=Dx.out;have:=QH.out;unfold Hid;omega,J11,WS⟩
end Go.Proofs.YtgoijmpahffnhaaGreatDoor
