/-  -/
import Derived.Test.YtefjbnhpjdhjmaaGreatDoorTs8
namespace Go.Proofs.YtefjbnhpjdhjmaaGreatDoor
set_option linter.all false
open Go.RowKit
set_option maxRecDepth 100000
set_option maxHeartbeats 8000000
theorem Ym:(Tryz.prog.info? 24).map (fun i=>(i.zero,i.size,i.bytes))=some (some (.agg #[.int .i64 0,.string ⟨#[]⟩,.int .i64 0,.string ⟨#[]⟩,.slice none 0 0]),5,72):=by kernel_rfl
theorem PN {N T en d:Nat} {ex pr:List aF→cO aA} {t:aF} {r:List aF} {w:World} (h:fA N T en (t::r) d w) (hk:t.kind≠3∧t.kind≠2) (hs1:aJ (bs [40]) (t::r)=false) (hs2:aJ (bs [36]) (t::r)=false) {nm:aj} {r1:List aF} (hnm:fP en (t::r)=.ok (nm,r1)) (hs3:aJ (bs [60]) r1=false) (hs4:aJ (bs [40]) r1=true) (hs5:aJ (bs [41]) r1.tail=true):Calls Tryz.prog 119 #[.pointer (some ⟨N,0,none⟩)] w (XQ N T en d (bP ex pr en (t::r)) w):=by
 have er:Hid (bP ex pr en (t::r)=match fP en (t::r) with
    | .error er=>.error er
    | .ok (nm,r) =>
     if aJ (bs [60]) r=true then
      match ex r.tail with
      | .error er=>.error er
      | .ok (x,r2)=>match gI (bs [62]) en r2 with
       | .error er=>.error er
       | .ok r3=>.ok (.mk 4 E0 0 nm [x],r3)
     else if aJ (bs [40]) r=true then
      if aJ (bs [41]) r.tail=true then .ok (.mk 6 E0 0 nm [],r.tail.tail)
      else match mX ex en 9 [] r.tail with
       | .error er=>.error er
       | .ok (ks,r2)=>.ok (.mk 6 E0 0 nm ks,r2)
     else .ok (.mk 3 E0 0 nm [],r)):=by unfold Hid bP;rw [hs1,hs2];simp only [gU,hk.1,hk.2,if_false,Bool.false_eq_true];rfl
 have S1:Hid (aJ ⟨#[40]⟩ (t::r)=false):=hs1;have S2:Hid (aJ ⟨#[36]⟩ (t::r)=false):=hs2;have HK:=ah hk
 have sO:Hid (bP ex pr en (t::r)=.ok (.mk 6 E0 0 nm [],r1.tail.tail)):=by unfold Hid;rw [er.out,hnm];simp only [hs3,hs4,hs5,if_true,if_false,Bool.false_eq_true]
 have Aj:=ah hnm;have S3:Hid (aJ ⟨#[60]⟩ r1=false):=hs3;have S4:Hid (aJ ⟨#[40]⟩ r1=true):=hs4;have S5:Hid (aJ ⟨#[41]⟩ r1.tail=true):=hs5
 obtain ⟨hN,hT,hne,h7⟩:=h.mF
 obtain ⟨w0,hw0⟩:∃w0,w0=w.alloc (.cells #[.int .i64 0,.string ⟨#[]⟩,.int .i64 0,.string ⟨#[]⟩,.slice none 0 0] 24):=⟨_,rfl⟩
 have k0:Kept aC w w0:=by rw [hw0];exact (Kept.refl _ _).alloc _
 obtain ⟨M2,hM2⟩:∃M,M=w.heap.size:=⟨_,rfl⟩
 have Z0:Hid (dJ M2 (.int .i64 0) (.string ⟨#[]⟩) (.int .i64 0) (.string ⟨#[]⟩) (.slice none 0 0) w0):=by rw [hw0,hM2];exact ay w _
 have R0:=ah (h.kept k0 (fun h=>h) (fun h=>h))
 have K0:Hid (Kept (· = N) w w0):=k0.more (fun _ h=>h.elim)
 have HW0:=ah hw0;have dB:=ah hM2
 clear k0 hw0 hM2 h hk hs1 hs2 hnm hs3 hs4 hs5 er
 go_enter Tryz.func119, Tryz.ntmps119
 go_upto_region 1 with fail
 rw [←HW0.out,←dB.out]
 go_upto_region 12 with (first
  | (go_at_call 51;(with_reducible refine (iy ⟨#[40]⟩ R0.out S1.out).mono ?_);rintro e w1 ⟨rfl,gK,eF⟩;have R1:=ah gK;have K1:Hid (Kept (· = N) w w1):=K0.out.trans eF;have Z1:=ah (Z0.out.kept eF (by have:=dB.out;omega));clear gK eF)
  | (go_at_call 51;(with_reducible refine (iy ⟨#[36]⟩ R1.out S2.out).mono ?_);rintro e w2 ⟨rfl,kU,iw⟩;have R2:=ah kU;have K2:Hid (Kept (· = N) w w2):=K1.out.trans iw;have Z2:=ah (Z1.out.kept iw (by have:=dB.out;omega));clear kU iw))
 obtain ⟨n2,a2,c2,hP⟩:=R2.out
 obtain ⟨c0,c1,cd,cf⟩:=hP.c0
 have hn:=hP.num
 rw [List.length_cons] at hn
 have h0:0<n2:=by omega
 have h1:(0:Int)<(n2:Int):=by omega
 have z:decide ((0:Int)<(n2:Int))=true:=ak h1
 have z':decide (0<n2)=true:=ak h0
 obtain ⟨o,rfl,t0,t1,t2⟩:=hP.head
 have y3:(t.kind==3)=false:=by simpa using HK.out.1
 have y2:(t.kind==2)=false:=by simpa using HK.out.2
 clear hn hP cf
 go_upto_region 22 with fail
 clear c0 c1 cd t0 t1 t2 y3 y2 z z'
 go_upto_region 23 with (go_at_call 48;(refine (iQ R2.out).mono ?_);intro e w3 iD;obtain ⟨eu,rfl,lD⟩:=iD.ok Aj.out;have R3:=ah lD;have K3:Hid (Kept (· = N) w w3):=K2.out.trans eu;have Z3:=ah (Z2.out.kept eu (by have:=dB.out;omega));clear eu lD iD)
 have I4:Hid (je N T en d M2 w3.heap.size w (.mk 3 E0 0 nm []) none 0 r1 (w3.alloc (.cells #[.int .i64 3,.string ⟨#[]⟩,.int .i64 0,.string nm,.slice none 0 0] 24))):=je.start (w1:=w3) (p:=.mk 3 E0 0 nm []) (ka:=none) (cap:=0) (S:=aC) Z3.out K3.out R3.out (fun b hb=>hb.elim) ⟨by show E0.size<_;decide,by show nm.size<_;have:=kL Aj.out;omega,by show 0<_;decide⟩ (by show aI _ aC none [];unfold aI;trivial) hN K3.out.size Z3.out.lt
 have hsz:Hid (w.heap.size<w3.heap.size):=by have:=Z3.out.lt;have:=dB.out;unfold Hid;omega
 obtain ⟨w4,hw4⟩:∃w4,w4=w3.alloc (.cells #[.int .i64 3,.string ⟨#[]⟩,.int .i64 0,.string nm,.slice none 0 0] 24):=⟨_,rfl⟩
 obtain ⟨M5,qh⟩:∃M,M=w3.heap.size:=⟨_,rfl⟩
 rw [←hw4,←qh] at I4
 rw [←hw4,←qh]
 rw [←qh] at hsz
 have hM:Hid (N≠M2∧N≠M5∧T≠M2∧w.heap.size≤M2∧M2<M5):=by have:=dB.out;have:=hsz.out;unfold Hid;omega
 clear hw4 qh
 go_upto_region 27 with (first
  | (go_at_call 51;(with_reducible refine (iy ⟨#[60]⟩ I4.out.bY S3.out).mono ?_);rintro e w5 ⟨rfl,D5,xQ⟩;have I5:=ah (I4.out.bg hM.out.1 (by have:=hM.out;omega) xQ D5);clear D5 xQ)
  | (go_at_call 51;(with_reducible refine (nS ⟨#[40]⟩ I5.out.bY S4.out).mono ?_);rintro e w6 ⟨rfl,zK,vg⟩;have I6:=ah (I5.out.bg hM.out.1 (by have:=hM.out;omega) vg zK);clear zK vg))
 obtain ⟨x0,x1,x2,x3,x4,xf⟩:=I6.out.five.cells
 have ZI:=xf 0
 clear xf
 have J7:Hid (qY N T en d M2 M5 w nm [] (.slice none 0 0) r1.tail (w6.setCell ⟨M5,0,none⟩ (.int .i64 6))):=qY.start I6.out hM.out.2.1 (by have:=hM.out;omega) (by have:=hM.out;omega) hT hN
 go_upto_region 28 with fail
 obtain ⟨w7,hw7⟩:∃w7,w7=w6.setCell ⟨M5,0,none⟩ (.int .i64 6):=⟨_,rfl⟩
 rw [←hw7] at J7
 rw [←hw7]
 clear hw7 x0 x1 x2 x3 x4 ZI
 go_upto_region 29 with (go_at_call 51;(with_reducible refine (nS ⟨#[41]⟩ J7.out.bY S5.out).mono ?_);rintro e w8 ⟨rfl,Ak,qA⟩;have J8:=ah (J7.out.bg hM.out.1 (by have:=hM.out;omega) qA Ak);clear Ak qA)
 have I8:Hid (je N T en d M2 M5 w (.mk 6 E0 0 nm []) none 0 r1.tail.tail w8):=qY.done (ks:=[]) J8.out hM.out.2.2.2.2 (by have:=hM.out;omega) hN (by decide)
 obtain ⟨x0,x1,x2,x3,x4,_⟩:=I8.out.five.cells
 obtain ⟨z0,z1,z2,z3,z4,zf⟩:=I8.out.zero.cells
 have xW:=zf 0;have xX:=zf 1;have xY:=zf 2;have yH:=zf 3;have yI:=zf 4
 clear zf
 go_wp2_with fail
 exact kK 2 rfl rfl (I8.out.zero.bI _ _ _ _ _) (I8.out.fin hM.out.1 hM.out.2.2.1 hM.out.2.2.2.1 hN sO.out)
theorem RD {N T en d:Nat} {ex pr:List aF→cO aA} {t:aF} {r:List aF} {w:World} (h:fA N T en (t::r) d w) (hk:t.kind≠3∧t.kind≠2) (hs1:aJ (bs [40]) (t::r)=false) (hs2:aJ (bs [36]) (t::r)=false) {nm:aj} {r1:List aF} (hnm:fP en (t::r)=.ok (nm,r1)) (hs3:aJ (bs [60]) r1=false) (hs4:aJ (bs [40]) r1=true) (HE:Gx N T en d ex) (hs5:aJ (bs [41]) r1.tail=false):Calls Tryz.prog 119 #[.pointer (some ⟨N,0,none⟩)] w (XQ N T en d (bP ex pr en (t::r)) w):=by
 have er:Hid (bP ex pr en (t::r)=match fP en (t::r) with
    | .error er=>.error er
    | .ok (nm,r) =>
     if aJ (bs [60]) r=true then
      match ex r.tail with
      | .error er=>.error er
      | .ok (x,r2)=>match gI (bs [62]) en r2 with
       | .error er=>.error er
       | .ok r3=>.ok (.mk 4 E0 0 nm [x],r3)
     else if aJ (bs [40]) r=true then
      if aJ (bs [41]) r.tail=true then .ok (.mk 6 E0 0 nm [],r.tail.tail)
      else match mX ex en 9 [] r.tail with
       | .error er=>.error er
       | .ok (ks,r2)=>.ok (.mk 6 E0 0 nm ks,r2)
     else .ok (.mk 3 E0 0 nm [],r)):=by unfold Hid bP;rw [hs1,hs2];simp only [gU,hk.1,hk.2,if_false,Bool.false_eq_true];rfl
 have S1:Hid (aJ ⟨#[40]⟩ (t::r)=false):=hs1;have S2:Hid (aJ ⟨#[36]⟩ (t::r)=false):=hs2;have HK:=ah hk
 have sO:Hid (bP ex pr en (t::r)=match mX ex en 9 [] r1.tail with | .error er=>.error er | .ok (ks,r2)=>.ok (.mk 6 E0 0 nm ks,r2)):=by unfold Hid;rw [er.out,hnm];simp only [hs3,hs4,hs5,if_true,if_false,Bool.false_eq_true]
 have Aj:=ah hnm;have S3:Hid (aJ ⟨#[60]⟩ r1=false):=hs3;have S4:Hid (aJ ⟨#[40]⟩ r1=true):=hs4;have S5:Hid (aJ ⟨#[41]⟩ r1.tail=false):=hs5;have HEX:=ah HE
 have agk:nm.size≤16:=kL hnm
 obtain ⟨i0,hi0,hz0,hz1,hz2⟩:=info_parts Ym
 obtain ⟨hN,hT,hne,h7⟩:=h.mF
 obtain ⟨w0,hw0⟩:∃w0,w0=w.alloc (.cells #[.int .i64 0,.string ⟨#[]⟩,.int .i64 0,.string ⟨#[]⟩,.slice none 0 0] 24):=⟨_,rfl⟩
 have k0:Kept aC w w0:=by rw [hw0];exact (Kept.refl _ _).alloc _
 obtain ⟨M2,hM2⟩:∃M,M=w.heap.size:=⟨_,rfl⟩
 have Z0:Hid (dJ M2 (.int .i64 0) (.string ⟨#[]⟩) (.int .i64 0) (.string ⟨#[]⟩) (.slice none 0 0) w0):=by rw [hw0,hM2];exact ay w _
 have R0:=ah (h.kept k0 (fun h=>h) (fun h=>h))
 have K0:Hid (Kept (· = N) w w0):=k0.more (fun _ h=>h.elim)
 have HW0:=ah hw0;have dB:=ah hM2
 clear k0 hw0 hM2 h hk hs1 hs2 hnm hs3 hs4 hs5 er HE
 go_enter Tryz.func119, Tryz.ntmps119
 go_upto_region 1 with fail
 rw [←HW0.out,←dB.out]
 go_upto_region 12 with (first
  | (go_at_call 51;(with_reducible refine (iy ⟨#[40]⟩ R0.out S1.out).mono ?_);rintro e w1 ⟨rfl,gK,eF⟩;have R1:=ah gK;have K1:Hid (Kept (· = N) w w1):=K0.out.trans eF;have Z1:=ah (Z0.out.kept eF (by have:=dB.out;omega));clear gK eF)
  | (go_at_call 51;(with_reducible refine (iy ⟨#[36]⟩ R1.out S2.out).mono ?_);rintro e w2 ⟨rfl,kU,iw⟩;have R2:=ah kU;have K2:Hid (Kept (· = N) w w2):=K1.out.trans iw;have Z2:=ah (Z1.out.kept iw (by have:=dB.out;omega));clear kU iw))
 obtain ⟨n2,a2,c2,hP⟩:=R2.out
 obtain ⟨c0,c1,cd,cf⟩:=hP.c0
 have hn:=hP.num
 rw [List.length_cons] at hn
 have h0:0<n2:=by omega
 have h1:(0:Int)<(n2:Int):=by omega
 have z:decide ((0:Int)<(n2:Int))=true:=ak h1
 have z':decide (0<n2)=true:=ak h0
 obtain ⟨o,rfl,t0,t1,t2⟩:=hP.head
 have y3:(t.kind==3)=false:=by simpa using HK.out.1
 have y2:(t.kind==2)=false:=by simpa using HK.out.2
 clear hn hP cf
 go_upto_region 22 with fail
 clear c0 c1 cd t0 t1 t2 y3 y2 z z'
 go_upto_region 23 with (go_at_call 48;(refine (iQ R2.out).mono ?_);intro e w3 iD;obtain ⟨eu,rfl,lD⟩:=iD.ok Aj.out;have R3:=ah lD;have K3:Hid (Kept (· = N) w w3):=K2.out.trans eu;have Z3:=ah (Z2.out.kept eu (by have:=dB.out;omega));clear eu lD iD)
 have I4:Hid (je N T en d M2 w3.heap.size w (.mk 3 E0 0 nm []) none 0 r1 (w3.alloc (.cells #[.int .i64 3,.string ⟨#[]⟩,.int .i64 0,.string nm,.slice none 0 0] 24))):=je.start (w1:=w3) (p:=.mk 3 E0 0 nm []) (ka:=none) (cap:=0) (S:=aC) Z3.out K3.out R3.out (fun b hb=>hb.elim) ⟨by show E0.size<_;decide,by show nm.size<_;have:=kL Aj.out;omega,by show 0<_;decide⟩ (by show aI _ aC none [];unfold aI;trivial) hN K3.out.size Z3.out.lt
 have hsz:Hid (w.heap.size<w3.heap.size):=by have:=Z3.out.lt;have:=dB.out;unfold Hid;omega
 obtain ⟨w4,hw4⟩:∃w4,w4=w3.alloc (.cells #[.int .i64 3,.string ⟨#[]⟩,.int .i64 0,.string nm,.slice none 0 0] 24):=⟨_,rfl⟩
 obtain ⟨M5,qh⟩:∃M,M=w3.heap.size:=⟨_,rfl⟩
 rw [←hw4,←qh] at I4
 rw [←hw4,←qh]
 rw [←qh] at hsz
 have hM:Hid (N≠M2∧N≠M5∧T≠M2∧w.heap.size≤M2∧M2<M5):=by have:=dB.out;have:=hsz.out;unfold Hid;omega
 clear hw4 qh
 go_upto_region 27 with (first
  | (go_at_call 51;(with_reducible refine (iy ⟨#[60]⟩ I4.out.bY S3.out).mono ?_);rintro e w5 ⟨rfl,D5,xQ⟩;have I5:=ah (I4.out.bg hM.out.1 (by have:=hM.out;omega) xQ D5);clear D5 xQ)
  | (go_at_call 51;(with_reducible refine (nS ⟨#[40]⟩ I5.out.bY S4.out).mono ?_);rintro e w6 ⟨rfl,zK,vg⟩;have I6:=ah (I5.out.bg hM.out.1 (by have:=hM.out;omega) vg zK);clear zK vg))
 obtain ⟨x0,x1,x2,x3,x4,xf⟩:=I6.out.five.cells
 have ZI:=xf 0
 clear xf
 have J7:Hid (qY N T en d M2 M5 w nm [] (.slice none 0 0) r1.tail (w6.setCell ⟨M5,0,none⟩ (.int .i64 6))):=qY.start I6.out hM.out.2.1 (by have:=hM.out;omega) (by have:=hM.out;omega) hT hN
 go_upto_region 28 with fail
 obtain ⟨w7,hw7⟩:∃w7,w7=w6.setCell ⟨M5,0,none⟩ (.int .i64 6):=⟨_,rfl⟩
 rw [←hw7] at J7
 rw [←hw7]
 clear hw7 x0 x1 x2 x3 x4 ZI
 go_upto_block 0 with (go_at_call 51;(with_reducible refine (iy ⟨#[41]⟩ J7.out.bY S5.out).mono ?_);rintro e w8 ⟨rfl,Ak,qA⟩;have J8:=ah (J7.out.bg hM.out.1 (by have:=hM.out;omega) qA Ak);clear Ak qA)
 clear J7 I4 I5 I6
 go_loopg [] 9 (fun f wr=>∃(ks:List aA) (a:Option Addr) (c:Nat) (l:List aF),Hid (ks.length+f=9∧ks.length≤8)∧Hid (qY N T en d M2 M5 w nm ks (.slice a ks.length c) l wr)∧Hid (bP ex pr en (t::r)=match mX ex en f ks l with | .error er=>.error er | .ok (ks,r2)=>.ok (.mk 6 E0 0 nm ks,r2)))
 case atStart=>exact ⟨[],none,0,_,by unfold Hid;decide,J8,sO⟩
 case round =>
  obtain ⟨ks,a,c,l,hf,J,hch⟩:=hrel
  obtain ⟨x0,x1,x2,x3,x4,xf⟩:=J.out.five.cells
  have xf4:=xf 4
  clear xf
  by_cases h8:ks.length=8
  ·have z:((ks.length:Int)==8)=true:=by rw [h8];rfl
   obtain rfl:gk=1:=by have:=hf.out;omega
   have oO:Hid (bP ex pr en (t::r)=.error (5,fO en l)):=by unfold Hid;rw [hch.out,mX,if_pos h8]
   obtain ⟨n9,a9,c9,r9⟩:=J.out.bY
   have HA:=ah (o8 r9)
   clear r9 h8 hf hch
   go_wp2_with (first
    | (go_at_call 54;(refine HA.out.mono ?_);rintro e w' ⟨rfl,aQ⟩;obtain rfl:=aQ.symm)
    | (go_at_call 53;(refine (fG _ 5 (fO en l) wr).mono ?_);rintro e w9 ⟨rfl,rfl⟩))
   exact ⟨rfl,XQ.thrown J.out.kept (Kept.refl _ _) oO.out⟩
  ·have z:((ks.length:Int)==8)=false:=by simp;omega
   obtain ⟨g,rfl⟩:∃g,gk=g+1:=by have:=hf.out;exact ⟨gk-1,by omega⟩
   have D6:Hid (ks.length+g=8∧ks.length<8):=by have:=hf.out;unfold Hid;omega
   have hkl:ks.length≤8:=by have:=D6.out;omega
   have oO:Hid (bP ex pr en (t::r)=match (match ex l with | .error er=>.error er | .ok (x,r)=>if aJ (bs [41]) r=true then .ok (ks++[x],r.tail) else match gI (bs [44]) en r with | .error er=>.error er | .ok r2=>mX ex en g (ks++[x]) r2:cO (List aA)) with | .error er=>.error er | .ok (ks,r2)=>.ok (.mk 6 E0 0 nm ks,r2)):=by unfold Hid;rw [hch.out,mX,if_neg h8];rfl
   clear h8 hf hch
   have JD:=ah (J.out.bg hM.out.1 (by have:=hM.out;omega) ((Kept.refl (· = N) wr).drew) (J.out.bY.kept (Kept.refl aC wr).drew (fun h=>h) (fun h=>h)))
   go_upto_region 32 with fail
   go_cut [] (fun wx=>∃(q:aA) (r2:List aF) (a':Option Addr) (c':Nat),Hid (ex l=.ok (q,r2))∧Hid (qY N T en d M2 M5 w nm (ks++[q]) (.slice a' (ks++[q]).length c') r2 wx))
   case first =>
    go_region_law (first
     | (refine lK (w:=w9.alloc (.cells #[.int .i64 q.kind,.string q.text,.int .i64 q.n,.string q.name,.slice kc q.kids.length dK] 24)) rfl (.tmp 145) (.tmp 148) 22 22 rfl (M5+1) 24 i0 (.agg #[.int .i64 0,.string ⟨#[]⟩,.int .i64 0,.string ⟨#[]⟩,.slice none 0 0]) 5 72 Tryz.underlying22 hi0 hz0 hz1 hz2 rfl (.slice a ks.length c) ks.length cs (by simp [Act.eval]) WB.out _ 1 [.int .i64 q.kind,.string q.text,.int .i64 q.n,.string q.name,.slice kc q.kids.length dK] (by simp [Act.eval]) SR.out (by unfold maxLen;omega) (by omega) hb3 ?_;intro a4 c4 w10 Bf hg4 Bg;have Bh:=ah (LM.out a4 c4 w10 Bf hg4 (by simpa using Bg));have Qo:=(HF.out w10 hg4).1;have Qp:=(HF.out w10 hg4).2)
     | (go_simp;go_at_call 81;(refine (HEX.out l wr.drew JD.out.bY).mono ?_);intro e w9 h9_;rcases hu:ex l with e0|⟨q,r2⟩;(obtain ⟨QA,rfl⟩:=h9_.bad hu;have f_:XQ N T en d (bP ex pr en (t::r)) w (.panicked [{v:=dQ e0,recovered:=false}]) w9:=XQ.thrown JD.out.kept QA (by rw [oO.out,hu]);exact ⟨rfl,f_⟩);obtain ⟨QA,r9_,S2,kc,dK,rfl,abS,abT,abU⟩:=h9_.ok hu;have HU:=ah hu;obtain ⟨cs,S1,hw1,hr1,hS1⟩:=JD.out.own;have WB:=ah ((hw1.kept QA (fun b hb=>by have:=(hw1.lt b hb).1;have:=hM.out;omega)).alloc (.cells #[.int .i64 q.kind,.string q.text,.int .i64 q.n,.string q.name,.slice kc q.kids.length dK] 24));have SR:Hid (Src Tryz.prog 5 22 (.slice (some ⟨w9.heap.size,0,none⟩) 1 1) 1 [.int .i64 q.kind,.string q.text,.int .i64 q.n,.string q.name,.slice kc q.kids.length dK] (w9.alloc (.cells #[.int .i64 q.kind,.string q.text,.int .i64 q.n,.string q.name,.slice kc q.kids.length dK] 24))):=Src.ofSlice _ Tryz.underlying22 _ _ _ _ rfl (World.news_of_block (fr:=(0,0)) (cs:=#[.int .i64 q.kind,.string q.text,.int .i64 q.n,.string q.name,.slice kc q.kids.length dK]) (ay w9 _)) (by intro u hu;simp at hu;rcases hu with rfl|rfl|rfl|rfl|rfl<;>rfl);have I9:=ah (JD.out.bg hM.out.1 (by have:=hM.out;omega) QA r9_);have hb3:M5+1≤(w9.alloc (.cells #[.int .i64 q.kind,.string q.text,.int .i64 q.n,.string q.name,.slice kc q.kids.length dK] 24)).heap.size:=(by have:=I9.out.five.lt;simp;omega);obtain ⟨p0,p1,p2,p3,p4,pf⟩:=I9.out.five.cells;have MR:(w9.alloc (.cells #[.int .i64 q.kind,.string q.text,.int .i64 q.n,.string q.name,.slice kc q.kids.length dK] 24)).cell? ⟨M5,4,none⟩=some (.slice a ks.length c):=(((Kept.refl aC w9).alloc _).cell I9.out.five.lt (fun h=>h)).trans p4;have LM:Hid (∀(a':Option Addr) (c':Nat) (w4:World),bT w4 (M5+1) 24 5 (.slice a' (ks.length+1) c') (ks.length+1) (cs++[.int .i64 q.kind,.string q.text,.int .i64 q.n,.string q.name,.slice kc q.kids.length dK])→(w9.alloc (.cells #[.int .i64 q.kind,.string q.text,.int .i64 q.n,.string q.name,.slice kc q.kids.length dK] 24)).grownBy w4 (Value.slice a ks.length c).ownBlock→((Value.slice a' (ks.length+1) c').ownBlock=(Value.slice a ks.length c).ownBlock∨(Value.slice a' (ks.length+1) c').ownBlock=some (w9.heap.size+1))→qY N T en d M2 M5 w nm (ks++[q]) (.slice a' (ks.length+1) c') r2 (w4.setCell ⟨M5,4,none⟩ (.slice a' (ks.length+1) c'))):=(fun a' c' w4 y1 y2 y3=>JD.out.step hw1 hr1 hS1 hM.out.2.2.2.2 (by have:=hM.out;omega) hN hT (by have:=hM.out;omega) QA r9_ abT abS abU y1 y2 y3);have HF:Hid (∀w4:World,(w9.alloc (.cells #[.int .i64 q.kind,.string q.text,.int .i64 q.n,.string q.name,.slice kc q.kids.length dK] 24)).grownBy w4 (Value.slice a ks.length c).ownBlock→w4.frozen? ⟨M5,4,none⟩=false∧w4.cell? ⟨M5,4,none⟩=some (.slice a ks.length c)):=(fun w4 hg=>by have hlt3:=I9.out.five.lt;have hx:=hg.block M5 (by simp;omega) (fun e=>by have:=(hw1.lt _ e.symm).1;omega);have hy:=I9.out.five;unfold dJ at hy;exact ⟨by simp [World.frozen?,hx,Below.heap_alloc _ _ _ hlt3,hy],by simp [World.cell?,hx,Below.heap_alloc _ _ _ hlt3,hy]⟩);clear QA r9_ abS abT abU h9_ hw1 hr1 hS1 hu))
    all_goals
     go_wp2_with fail
     go_meet
     exact ⟨q,r2,a4,c4,HU,by rw [List.length_append];exact Bh⟩
   case rest =>
    obtain ⟨q,r2,a5,c5,HU,J9⟩:=hcut
    obtain ⟨D7,RF⟩:∃k2,k2=ks++[q]:=⟨_,rfl⟩
    have HKL:Hid (D7.length=ks.length+1):=by unfold Hid;rw [RF,List.length_append];rfl
    rw [←RF] at J9
    have zL:Hid (bP ex pr en (t::r)=match (if aJ (bs [41]) r2=true then .ok (D7,r2.tail) else match gI (bs [44]) en r2 with | .error er=>.error er | .ok r2=>mX ex en g (D7) r2:cO (List aA)) with | .error er=>.error er | .ok (ks,r2)=>.ok (.mk 6 E0 0 nm ks,r2)):=by unfold Hid;rw [oO.out,HU.out,RF]
    clear RF
    cases hs:aJ ⟨#[41]⟩ r2 with
    | true =>
     have UZ:Hid (bP ex pr en (t::r)=.ok (.mk 6 E0 0 nm (D7),r2.tail)):=by unfold Hid;rw [zL.out,show aJ (bs [41]) r2=true from hs];rfl
     go_upto_region 34 with (go_at_call 51;(with_reducible refine (nS ⟨#[41]⟩ J9.out.bY hs).mono ?_);rintro e w10 ⟨rfl,sQ,sU⟩;have Nv:=ah (J9.out.bg hM.out.1 (by have:=hM.out;omega) sU sQ);clear sQ sU)
     have I10:Hid (je N T en d M2 M5 w (.mk 6 E0 0 nm (D7)) a5 c5 r2.tail w10):=qY.done Nv.out hM.out.2.2.2.2 (by have:=hM.out;omega) hN (by have:=D6.out;have:=HKL.out;omega)
     obtain ⟨x0,x1,x2,x3,x4,_⟩:=I10.out.five.cells
     obtain ⟨z0,z1,z2,z3,z4,zf⟩:=I10.out.zero.cells
     have xW:=zf 0;have xX:=zf 1;have xY:=zf 2;have yH:=zf 3;have yI:=zf 4
     clear zf
     go_wp2_with fail
     exact kK 2 rfl rfl (I10.out.zero.bI _ _ _ _ _) (I10.out.fin hM.out.1 hM.out.2.2.1 hM.out.2.2.2.1 hN UZ.out)
    | false =>
     cases hv:gI (bs [44]) en r2 with
     | error e0 =>
      have UZ:Hid (bP ex pr en (t::r)=.error e0):=by unfold Hid;rw [zL.out,show aJ (bs [41]) r2=false from hs];simp only [hv,if_false,Bool.false_eq_true]
      go_wp2_with (first
       | (go_at_call 51;(with_reducible refine (iy ⟨#[41]⟩ J9.out.bY hs).mono ?_);rintro e w10 ⟨rfl,sQ,sU⟩;have Nv:=ah (J9.out.bg hM.out.1 (by have:=hM.out;omega) sU sQ);clear sQ sU)
       | (go_at_call 79;(refine (lX (bs [44]) Nv.out.bY).mono ?_);intro e w11 Nw;obtain ⟨Ny,rfl⟩:=Nw.bad hv;have QB:=ah Ny;clear Ny Nw))
      exact ⟨rfl,XQ.thrown Nv.out.kept QB.out UZ.out⟩
     | ok r3 =>
      have UZ:Hid (bP ex pr en (t::r)=match mX ex en g (D7) r3 with | .error er=>.error er | .ok (ks,r2)=>.ok (.mk 6 E0 0 nm ks,r2)):=by unfold Hid;rw [zL.out,show aJ (bs [41]) r2=false from hs];simp only [hv,if_false,Bool.false_eq_true]
      go_wp2_with (first
       | (go_at_call 51;(with_reducible refine (iy ⟨#[41]⟩ J9.out.bY hs).mono ?_);rintro e w10 ⟨rfl,sQ,sU⟩;have Nv:=ah (J9.out.bg hM.out.1 (by have:=hM.out;omega) sU sQ);clear sQ sU)
       | (go_at_call 79;(refine (lX (bs [44]) Nv.out.bY).mono ?_);intro e w11 Nw;obtain ⟨Ny,rfl,abV⟩:=Nw.ok hv;have J11:=ah (Nv.out.bg hM.out.1 (by have:=hM.out;omega) Ny abV);clear Ny abV Nw))
      go_roundg g
      case measure=>omega
      case rel=>exact ⟨D7,a5,c5,r3,by have:=D6.out;have:=HKL.out;unfold Hid;omega,J11,UZ⟩
end Go.Proofs.YtefjbnhpjdhjmaaGreatDoor

namespace Go.Proofs.YtefjbnhpjdhjmaaGreatDoor
set_option linter.all false
open Go.RowKit
set_option maxRecDepth 100000
set_option maxHeartbeats 8000000
theorem Kept.Fa {w w':World} (b:Below w.heap.size w w'):Kept aC w w':=⟨b.os,b.tape,b.output,b.size,fun k hk _=>b.block k hk⟩
theorem ZJ {x:aj} (h:0<x.size):x.data.toList.head?=some x[0]:=by
 obtain ⟨⟨l⟩⟩:=x
 cases l with
 | nil=>simp [ByteArray.size] at h
 | cons c r=>rfl
theorem U0 {t:aF} {r:List aF} (h:0<t.text.size) (h1:1<t.text.size) (h2:t.text[0].toNat=48):D8 t r=.error (2,t.at_):=by
 unfold D8;rw [if_pos ⟨h1,by rw [ZJ h];congr 1;exact UInt8.toNat_inj.1 h2⟩]
theorem KF {t:aF} {r:List aF} (h:0<t.text.size) (h1:¬(1<t.text.size∧t.text[0].toNat=48)):D8 t r=if 9223372036854775807<qX t.text.data.toList then .error (3,t.at_) else .ok (.mk 2 E0 (qX t.text.data.toList) E0 [],r):=by
 unfold D8;rw [if_neg (fun ⟨a,b⟩=>h1 ⟨a,by rw [ZJ h] at b;simp only [Option.some.injEq] at b;rw [b];rfl⟩)]
theorem U1 {N T en d:Nat} {ex pr:List aF→cO aA} {t:aF} {r:List aF} {w:World} (h:fA N T en (t::r) d w) (hk:t.kind=2):Calls Tryz.prog 119 #[.pointer (some ⟨N,0,none⟩)] w (XQ N T en d (bP ex pr en (t::r)) w):=by
 have er:Hid (bP ex pr en (t::r)=D8 t r):=by unfold Hid bP;rw [qJ (by omega),qJ (by omega)];simp only [gU,hk,if_true,if_false,Bool.false_eq_true,show ¬((2:Int)=3) by decide]
 have S1:Hid (aJ ⟨#[40]⟩ (t::r)=false):=qJ (by omega)
 have S2:Hid (aJ ⟨#[36]⟩ (t::r)=false):=qJ (by omega)
 have TK:Hid (gU 2 en (t::r)=.ok (t,r)):=Cb hk
 have HK:=ah hk
 have hgood:t.at_≤1000000∧t.text.size≤1000000∧(nP t.text).2.2≤1000000∧(t.kind=2→t.text.size≠0∧∀c∈t.text.data.toList,48≤c.toNat∧c.toNat≤57)∧(t.kind=1→t.text.size≠0):=by obtain ⟨_,_,_,h⟩:=h;exact h.good t (List.mem_cons_self ..)
 obtain ⟨_,htb,_,hdig,_⟩:=hgood
 obtain ⟨hd0,hd1⟩:=hdig hk
 have ZK:=ah (abL t.text.data.toList (fun e=>hd0 (by rw [ByteArray.size,←Array.length_toList,e];rfl)) hd1)
 have htp:0<t.text.size:=by omega
 clear hd0 hd1 hdig
 obtain ⟨hN,hT,hne,h7⟩:=h.mF
 obtain ⟨w0,hw0⟩:∃w0,w0=w.alloc (.cells #[.int .i64 0,.string ⟨#[]⟩,.int .i64 0,.string ⟨#[]⟩,.slice none 0 0] 24):=⟨_,rfl⟩
 have k0:Kept aC w w0:=by rw [hw0];exact (Kept.refl _ _).alloc _
 obtain ⟨M2,hM2⟩:∃M,M=w.heap.size:=⟨_,rfl⟩
 have Z0:Hid (dJ M2 (.int .i64 0) (.string ⟨#[]⟩) (.int .i64 0) (.string ⟨#[]⟩) (.slice none 0 0) w0):=by rw [hw0,hM2];exact ay w _
 have R0:=ah (h.kept k0 (fun h=>h) (fun h=>h))
 have K0:Hid (Kept (· = N) w w0):=k0.more (fun _ h=>h.elim)
 have HW0:=ah hw0;have dB:=ah hM2
 clear k0 hw0 hM2 h hk
 go_enter Tryz.func119, Tryz.ntmps119
 go_upto_region 1 with fail
 rw [←HW0.out,←dB.out]
 go_upto_region 12 with (first
  | (go_at_call 51;(with_reducible refine (iy ⟨#[40]⟩ R0.out S1.out).mono ?_);rintro e w1 ⟨rfl,gK,eF⟩;have R1:=ah gK;have K1:Hid (Kept (· = N) w w1):=K0.out.trans eF;have Z1:=ah (Z0.out.kept eF (by have:=dB.out;omega));clear gK eF)
  | (go_at_call 51;(with_reducible refine (iy ⟨#[36]⟩ R1.out S2.out).mono ?_);rintro e w2 ⟨rfl,kU,iw⟩;have R2:=ah kU;have K2:Hid (Kept (· = N) w w2):=K1.out.trans iw;have Z2:=ah (Z1.out.kept iw (by have:=dB.out;omega));clear kU iw))
 obtain ⟨n2,a2,c2,hP⟩:=R2.out
 obtain ⟨c0,c1,cd,cf⟩:=hP.c0
 have hn:=hP.num
 rw [List.length_cons] at hn
 have h0:0<n2:=by omega
 have h1:(0:Int)<(n2:Int):=by omega
 have z:decide ((0:Int)<(n2:Int))=true:=ak h1
 have z':decide (0<n2)=true:=ak h0
 obtain ⟨o,rfl,t0,t1,t2⟩:=hP.head
 have y:(t.kind==3)=false:=by rw [HK.out];rfl
 have y2:(t.kind==2)=true:=by rw [HK.out];rfl
 clear hn hP cf
 go_upto_region 15 with fail
 clear c0 c1 cd t0 t1 t2 y y2 z z'
 go_upto_region 16 with (go_at_call 77;(refine (uY 2 R2.out).mono ?_);intro e w3 iD;obtain ⟨eu,DZ,lD⟩:=iD.ok TK.out;unfold DW at DZ;subst DZ;have R3:=ah lD;have K3:Hid (Kept (· = N) w w3):=K2.out.trans eu;have Z3:=ah (Z2.out.kept eu (by have:=dB.out;omega));clear lD eu iD)
 obtain ⟨w4,hw4⟩:∃w4,w4=w3.alloc (.cells #[.int .i64 t.kind,.string t.text,.int .i64 t.at_] 94):=⟨_,rfl⟩
 have T4:Hid (qI w3.heap.size t w4):=by rw [hw4];exact ay w3 _
 have k4:Kept aC w3 w4:=by rw [hw4];exact (Kept.refl _ _).alloc _
 have R4:=ah (R3.out.kept k4 (fun h=>h) (fun h=>h))
 have K4:Hid (Kept (· = N) w w4):=K3.out.trans (k4.more (fun _ h=>h.elim))
 have Z4:=ah (Z3.out.kept k4 (fun h=>h))
 rw [←hw4]
 obtain ⟨M,hM⟩:∃M,M=w3.heap.size:=⟨_,rfl⟩
 rw [←hM] at T4⊢
 clear hw4 k4 hM
 obtain ⟨t0,t1,t2,_⟩:=T4.out.cells
 have bi:(0:Int)<(t.text.size:Int):=by omega
 by_cases h1:1<t.text.size
 ·have d1:decide ((1:Int)<(t.text.size:Int))=true:=ak (by omega)
  have d2:decide (1<t.text.size)=true:=ak h1
  by_cases h2:t.text[0].toNat=48
  ·have y:((t.text[0].toNat:Int)==48)=true:=by rw [h2];rfl
   have sO:Hid (bP ex pr en (t::r)=.error (2,t.at_)):=by unfold Hid;rw [er.out,U0 htp h1 h2]
   clear h2 er
   go_wp2_with (go_at_call 53;(refine (fG _ 2 t.at_ w4).mono ?_);rintro e w6 ⟨rfl,rfl⟩)
   exact ⟨rfl,XQ.thrown K4.out (Kept.refl _ _) sO.out⟩
  ·have y:((t.text[0].toNat:Int)==48)=false:=by simp;omega
   have sO:Hid (bP ex pr en (t::r)=if 9223372036854775807<qX t.text.data.toList then .error (3,t.at_) else .ok (.mk 2 E0 (qX t.text.data.toList) E0 [],r)):=by unfold Hid;rw [er.out,KF htp (fun ⟨_,b⟩=>h2 b)]
   clear h2 er
   go_upto_region 18 with fail
   by_cases hle:qX t.text.data.toList≤9223372036854775807
   ·have oO:Hid (bP ex pr en (t::r)=.ok (.mk 2 E0 (qX t.text.data.toList) E0 [],r)):=by unfold Hid;rw [sO.out,if_neg (by omega)]
    have Ih:=ah (ZK.out.1 hle)
    clear hle sO
    go_upto_region 21 with (go_at_call 123;(refine (Tryz.strconv_ParseInt_10_at64_ok t.text (by omega) _ Ih.out w4).mono ?_);rintro e w5 ⟨rfl,Nz⟩;have k5:Kept aC w4 w5:=(by rcases Nz with rfl|⟨_,rfl⟩;exact Kept.refl _ _;exact Kept.Fa (Lib.bytesWorld_below _ _ _));have R5:=ah (R4.out.kept k5 (fun h=>h) (fun h=>h));have K5:Hid (Kept (· = N) w w5):=K4.out.trans (k5.more (fun _ h=>h.elim));have Z5:=ah (Z4.out.kept k5 (fun h=>h));clear k5 Nz)
    obtain ⟨z0,z1,z2,z3,z4,zf⟩:=Z5.out.cells
    have xW:=zf 0;have xX:=zf 1;have xY:=zf 2;have yH:=zf 3;have yI:=zf 4
    clear zf t0 t1 t2
    go_wp2_with fail
    exact kK 2 rfl rfl (Z5.out.bI _ _ _ _ _) (Gy Z5.out K5.out R5.out dB.out hN hT (by decide) (by decide) oO.out)
   ·have oO:Hid (bP ex pr en (t::r)=.error (3,t.at_)):=by unfold Hid;rw [sO.out,if_pos (by omega)]
    have Ih:=ah (ZK.out.2 (by omega))
    obtain ⟨ev,hev1,hev2⟩:mg w4:=by obtain ⟨_,_,_,h⟩:=R4.out;exact h.rng
    have QC:=ah hev1;have HE2:=ah hev2
    clear hle sO hev1 hev2
    go_wp2_with (first
     | (go_at_call 123;(refine (Tryz.strconv_ParseInt_10_at64_range t.text (by omega) Ih.out ev w4 QC.out HE2.out).mono ?_);rintro e w5 ⟨np,rfl,-,-,NC⟩;have k5:=Kept.Fa NC;have K5:Hid (Kept (· = N) w4 w5):=k5.more (fun _ h=>h.elim);have T5:=T4.out.kept k5 (fun h=>h);obtain ⟨u0,u1,u2,_⟩:=T5.cells;clear T5 k5 NC)
     | (go_at_call 53;(refine (fG _ 3 t.at_ _).mono ?_);rintro e w6 ⟨rfl,rfl⟩))
    exact ⟨rfl,XQ.thrown K4.out K5.out oO.out⟩
 ·have d1:decide ((1:Int)<(t.text.size:Int))=false:=au (by omega)
  have d2:decide (1<t.text.size)=false:=au h1
  have sO:Hid (bP ex pr en (t::r)=if 9223372036854775807<qX t.text.data.toList then .error (3,t.at_) else .ok (.mk 2 E0 (qX t.text.data.toList) E0 [],r)):=by unfold Hid;rw [er.out,KF htp (fun ⟨b,_⟩=>h1 b)]
  clear h1 er
  go_upto_region 18 with fail
  by_cases hle:qX t.text.data.toList≤9223372036854775807
  ·have oO:Hid (bP ex pr en (t::r)=.ok (.mk 2 E0 (qX t.text.data.toList) E0 [],r)):=by unfold Hid;rw [sO.out,if_neg (by omega)]
   have Ih:=ah (ZK.out.1 hle)
   clear hle sO
   go_upto_region 21 with (go_at_call 123;(refine (Tryz.strconv_ParseInt_10_at64_ok t.text (by omega) _ Ih.out w4).mono ?_);rintro e w5 ⟨rfl,Nz⟩;have k5:Kept aC w4 w5:=(by rcases Nz with rfl|⟨_,rfl⟩;exact Kept.refl _ _;exact Kept.Fa (Lib.bytesWorld_below _ _ _));have R5:=ah (R4.out.kept k5 (fun h=>h) (fun h=>h));have K5:Hid (Kept (· = N) w w5):=K4.out.trans (k5.more (fun _ h=>h.elim));have Z5:=ah (Z4.out.kept k5 (fun h=>h));clear k5 Nz)
   obtain ⟨z0,z1,z2,z3,z4,zf⟩:=Z5.out.cells
   have xW:=zf 0;have xX:=zf 1;have xY:=zf 2;have yH:=zf 3;have yI:=zf 4
   clear zf t0 t1 t2
   go_wp2_with fail
   exact kK 2 rfl rfl (Z5.out.bI _ _ _ _ _) (Gy Z5.out K5.out R5.out dB.out hN hT (by decide) (by decide) oO.out)
  ·have oO:Hid (bP ex pr en (t::r)=.error (3,t.at_)):=by unfold Hid;rw [sO.out,if_pos (by omega)]
   have Ih:=ah (ZK.out.2 (by omega))
   obtain ⟨ev,hev1,hev2⟩:mg w4:=by obtain ⟨_,_,_,h⟩:=R4.out;exact h.rng
   have QC:=ah hev1;have HE2:=ah hev2
   clear hle sO hev1 hev2
   go_wp2_with (first
    | (go_at_call 123;(refine (Tryz.strconv_ParseInt_10_at64_range t.text (by omega) Ih.out ev w4 QC.out HE2.out).mono ?_);rintro e w5 ⟨np,rfl,-,-,NC⟩;have k5:=Kept.Fa NC;have K5:Hid (Kept (· = N) w4 w5):=k5.more (fun _ h=>h.elim);have T5:=T4.out.kept k5 (fun h=>h);obtain ⟨u0,u1,u2,_⟩:=T5.cells;clear T5 k5 NC)
    | (go_at_call 53;(refine (fG _ 3 t.at_ _).mono ?_);rintro e w6 ⟨rfl,rfl⟩))
   exact ⟨rfl,XQ.thrown K4.out K5.out oO.out⟩
end Go.Proofs.YtefjbnhpjdhjmaaGreatDoor

namespace Go.Proofs.YtefjbnhpjdhjmaaGreatDoor
set_option linter.all false
open Go.RowKit
theorem vk {k:Int} {en:Nat} {l r:List aF} {t:aF} (h:gU k en l=.ok (t,r)):r.length+1=l.length:=by
 cases l with
 | nil=>cases h
 | cons u v =>
  simp only [gU] at h
  split at h
  ·simp only [Except.ok.injEq,Prod.mk.injEq] at h;obtain ⟨rfl,rfl⟩:=h;rfl
  ·cases h
theorem oH {en:Nat} {l r:List aF} {x:aj} (h:fP en l=.ok (x,r)):r.length+1=l.length:=by
 unfold fP at h
 split at h
 ·cases h
 ·next t r' hh =>
  split at h
  ·cases h
  ·simp only [Except.ok.injEq,Prod.mk.injEq] at h;obtain ⟨rfl,rfl⟩:=h;exact vk hh
theorem jQ {x:aj} {l:List aF} (h:aJ x l=true):l.tail.length+1=l.length:=by
 cases l with
 | nil=>cases h
 | cons u v=>rfl
theorem qM {x:aj} {en:Nat} {l r:List aF} (h:gI x en l=.ok r):r.length+1=l.length:=by
 unfold gI at h
 split at h
 ·next hs=>simp only [Except.ok.injEq] at h;subst h;exact jQ hs
 ·cases h
theorem ND {en:Nat} {l r:List aF} {p:aA} (h:oZ en l=.ok (p,r)):r.length+1=l.length:=by
 unfold oZ at h
 split at h
 ·cases h
 ·next t r' hh =>
  split at h
  ·cases h
  ·simp only [Except.ok.injEq,Prod.mk.injEq] at h;obtain ⟨rfl,rfl⟩:=h;exact vk hh
def qZ (f:List aF→cO aA):Prop:=∀l y r,f l=.ok (y,r)→sizeT y+r.length≤l.length
theorem qZ.shr {f:List aF→cO aA} (h:qZ f):Shr f:=fun l y r hl=>by have:=h l y r hl;omega
theorem FD (k:Int) (x:aA):sizeT (node1 k x)=1+sizeT x:=by simp [node1,sizeT,aS]
theorem PO (k:Int) (x y:aA):sizeT (node2 k x y)=1+(sizeT x+sizeT y):=by simp [node2,sizeT,aS]
theorem Ik (l:List aA) (x:aA):aS (l++[x])=aS l+sizeT x:=by
 induction l with
 | nil=>simp [aS]
 | cons p r ih=>simp only [List.cons_append,aS,ih];omega
theorem PS {bU:Nat} {sub:List aF→cO aA} (h:qZ sub):∀(f:Nat) (x:aA) (l:List aF) (y:aA) (r:List aF),ou bU sub f x l=.ok (y,r)→sizeT y+r.length≤sizeT x+l.length:=by
 intro f
 induction f with
 | zero=>intro x l y r hc;simp only [ou,Except.ok.injEq,Prod.mk.injEq] at hc;obtain ⟨rfl,rfl⟩:=hc;omega
 | succ f ih =>
  intro x l y r hc
  rw [ou] at hc
  split at hc
  ·next ho =>
   split at hc
   ·cases hc
   ·next z r1 hz =>
    have h1:=ih _ _ _ _ hc
    have h2:=h _ _ _ hz
    rw [PO] at h1
    cases l with
    | nil=>simp [opAt] at ho
    | cons t l2=>simp only [List.tail_cons] at h2;rw [List.length_cons];omega
  ·simp only [Except.ok.injEq,Prod.mk.injEq] at hc;obtain ⟨rfl,rfl⟩:=hc;omega
theorem vw {bU:Nat} {sub:List aF→cO aA} (h:qZ sub):qZ (nG bU sub):=by
 intro l y r hl
 unfold nG at hl
 split at hl
 ·cases hl
 ·next z r1 hz =>
  have h1:=PS h _ _ _ _ _ hl
  have h2:=h _ _ _ hz
  omega
theorem D9 {un:List aF→cO aA} (h:qZ un):qZ (Gz un):=vw (vw (vw h))
theorem RG {ex:List aF→cO aA} {en:Nat} (h:qZ ex):∀(f:Nat) (ks:List aA) (l:List aF) (D7:List aA) (r:List aF),mX ex en f ks l=.ok (D7,r)→aS D7+r.length≤aS ks+l.length:=by
 intro f
 induction f with
 | zero=>intro x l y r hc;simp only [mX,Except.ok.injEq,Prod.mk.injEq] at hc;obtain ⟨rfl,rfl⟩:=hc;omega
 | succ f ih =>
  intro ks l D7 r hc
  rw [mX] at hc
  split at hc
  ·cases hc
  ·split at hc
   ·cases hc
   ·next x r1 hx =>
    have h2:=h _ _ _ hx
    split at hc
    ·next hs =>
     simp only [Except.ok.injEq,Prod.mk.injEq] at hc;obtain ⟨rfl,rfl⟩:=hc
     have:=jQ hs
     rw [Ik];omega
    ·split at hc
     ·cases hc
     ·next r2 hn =>
      have h1:=ih _ _ _ _ hc
      have:=qM hn
      rw [Ik] at h1;omega
theorem yO {ex pr:List aF→cO aA} {en:Nat} (he:qZ ex) (hp:qZ pr):qZ (bP ex pr en):=by
 intro l y r hl
 unfold bP at hl
 split at hl
 ·next hs =>
  have:=jQ hs
  split at hl
  ·cases hl
  ·next x r1 hx =>
   have h2:=he _ _ _ hx
   split at hl
   ·cases hl
   ·next r2 hn =>
    have:=qM hn
    simp only [Except.ok.injEq,Prod.mk.injEq] at hl;obtain ⟨rfl,rfl⟩:=hl;omega
 ·split at hl
  ·next hs =>
   have:=jQ hs
   split at hl
   ·cases hl
   ·next x r1 hx =>
    have h2:=hp _ _ _ hx
    simp only [Except.ok.injEq,Prod.mk.injEq] at hl;obtain ⟨rfl,rfl⟩:=hl;rw [FD];omega
  ·split at hl
   ·next t r1 ht =>
    have:=vk ht
    simp only [Except.ok.injEq,Prod.mk.injEq] at hl;obtain ⟨rfl,rfl⟩:=hl;simp only [sizeT,aS];omega
   ·split at hl
    ·next t r1 ht =>
     have:=vk ht
     unfold D8 at hl
     split at hl
     ·cases hl
     ·split at hl
      ·cases hl
      ·simp only [Except.ok.injEq,Prod.mk.injEq] at hl;obtain ⟨rfl,rfl⟩:=hl;simp only [sizeT,aS];omega
    ·split at hl
     ·cases hl
     ·next nm r1 hn =>
      have:=oH hn
      split at hl
      ·next hs =>
       have:=jQ hs
       split at hl
       ·cases hl
       ·next x r2 hx =>
        have h2:=he _ _ _ hx
        split at hl
        ·cases hl
        ·next r3 hn3 =>
         have:=qM hn3
         simp only [Except.ok.injEq,Prod.mk.injEq] at hl;obtain ⟨rfl,rfl⟩:=hl;simp only [sizeT,aS];omega
      ·split at hl
       ·next hs =>
        have:=jQ hs
        split at hl
        ·next hs2 =>
         have:=jQ hs2
         simp only [Except.ok.injEq,Prod.mk.injEq] at hl;obtain ⟨rfl,rfl⟩:=hl;simp only [sizeT,aS];omega
        ·split at hl
         ·cases hl
         ·next ks r2 hk =>
          have h2:=RG he _ _ _ _ _ hk
          simp only [Except.ok.injEq,Prod.mk.injEq] at hl;obtain ⟨rfl,rfl⟩:=hl;simp only [sizeT,aS] at *;omega
       ·simp only [Except.ok.injEq,Prod.mk.injEq] at hl;obtain ⟨rfl,rfl⟩:=hl;simp only [sizeT,aS];omega
theorem NG {un pr:List aF→cO aA} (hu:qZ un) (hp:qZ pr):qZ (vC un pr):=by
 intro l y r hl
 unfold vC at hl
 split at hl
 ·next hs =>
  have:=jQ hs
  split at hl
  ·cases hl
  ·next x r1 hx =>
   have h2:=hu _ _ _ hx
   simp only [Except.ok.injEq,Prod.mk.injEq] at hl;obtain ⟨rfl,rfl⟩:=hl;rw [FD];omega
 ·exact hp _ _ _ hl
theorem yP (en:Nat):∀k,qZ (jK en k).1∧qZ (jK en k).2
 | 0=>by
  have e:qZ (fun l=>.error (4,fO en l)):=fun l y r h=>by cases h
  exact ⟨NG e (yO e e),yO e e⟩
 | k+1=>by
  obtain ⟨h1,h2⟩:=yP en k
  exact ⟨NG h1 (yO (D9 h1) h2),yO (D9 h1) h2⟩
theorem vY (en:Nat):∀k,qZ (vZ en k)
 | 0=>by intro l y r h;rw [vZ] at h;cases h
 | k+1=>by intro l y r h;rw [vZ] at h;exact D9 (yP en k).1 l y r h
theorem KG {N T en d:Nat} {ex pr:List aF→cO aA} (HE:Gx N T en d ex) (HD:(d=400∧pr=fun l=>.error (4,fO en l))∨(d<400∧JC N T en (d+1) pr)):JC N T en d (bP ex pr en):=by
 intro l w h
 cases l with
 | nil=>exact UY h
 | cons t r =>
  cases hs1:aJ (bs [40]) (t::r) with
  | true=>exact UR HE h hs1
  | false =>
   cases hs2:aJ (bs [36]) (t::r) with
   | true =>
    rcases HD with ⟨hd,rfl⟩|⟨hd,HP⟩
    ·exact JA (pr:=fun l=>.error (4,fO en l)) h hd hs2
    ·exact JB hd HP h hs2
   | false =>
    by_cases h3:t.kind=3
    ·exact Rx h h3
    ·by_cases h2:t.kind=2
     ·exact U1 h h2
     ·cases hn:fP en (t::r) with
      | error e0=>exact JE h ⟨h3,h2⟩ hs1 hs2 hn
      | ok x =>
       obtain ⟨nm,r1⟩:=x
       cases hs3:aJ (bs [60]) r1 with
       | true=>exact Rz h ⟨h3,h2⟩ hs1 hs2 hn HE hs3
       | false =>
        cases hs4:aJ (bs [40]) r1 with
        | false=>exact Ry h ⟨h3,h2⟩ hs1 hs2 hn hs3 hs4
        | true =>
         cases hs5:aJ (bs [41]) r1.tail with
         | true=>exact PN h ⟨h3,h2⟩ hs1 hs2 hn hs3 hs4 hs5
         | false=>exact RD h ⟨h3,h2⟩ hs1 hs2 hn hs3 hs4 HE hs5
theorem QD {N T en d:Nat} {un pr:List aF→cO aA} (HP:JC N T en d pr) (HD:(d=400∧un=fun l=>.error (4,fO en l))∨(d<400∧JF N T en (d+1) un)):JF N T en d (vC un pr):=by
 intro l w h
 cases hs:aJ (bs [45]) l with
 | false=>exact U2 HP h hs
 | true =>
  rcases HD with ⟨rfl,rfl⟩|⟨hd,HU⟩
  ·exact Yn h hs
  ·exact Yo hd HU h hs
theorem NH {N T en d:Nat} {un:List aF→cO aA} (HU:JF N T en d un) (hm:qZ un):Ig N T en d 0 (Gz un) :=
 DY (by omega) (DY (by omega) (DY (by omega) (U3 HU) hm.shr) (vw hm).shr) (vw (vw hm)).shr
theorem NI (N T en:Nat):∀k,k≤400→JF N T en (400-k) (jK en k).1∧JC N T en (400-k) (jK en k).2
 | 0,_=>by
  have HE:Gx N T en 400 (fun l=>.error (4,fO en l)):=fun l w h=>RH h
  have HP:=KG HE (.inl ⟨rfl,rfl⟩)
  exact ⟨QD HP (.inl ⟨rfl,rfl⟩),HP⟩
 | k+1,hk=>by
  obtain ⟨h1,h2⟩:=NI N T en k (by omega)
  have e:400-k=400-(k+1)+1:=by omega
  rw [e] at h1 h2
  have HB:=NH h1 (yP en k).1
  have HE:Gx N T en (400-(k+1)) (Gz (jK en k).1):=fun l w h=>Il (by omega) HB h
  have HP:=KG HE (.inr ⟨by omega,h2⟩)
  exact ⟨QD HP (.inr ⟨by omega,h1⟩),HP⟩
theorem Ea (N T en:Nat):Gx N T en 0 (vZ en 400):=by
 intro l w h
 have HB:=NH (NI N T en 399 (by omega)).1 (yP en 399).1
 exact Il (by omega) HB h
end Go.Proofs.YtefjbnhpjdhjmaaGreatDoor

namespace Go.Proofs.YtefjbnhpjdhjmaaGreatDoor
set_option linter.all false
open Go.RowKit
set_option maxRecDepth 100000
set_option maxHeartbeats 8000000
def wU (l:List aj):List Value:=l.map Value.string
theorem Yp:(Tryz.prog.info? 9).map (fun i=>(i.zero,i.size,i.bytes))=some (some (.string ⟨#[]⟩),1,16):=by kernel_rfl
theorem U4 (l:List aj) (x:aj):wU l++[.string x]=wU (l++[x]):=by simp [wU]
theorem Am {ops:Array Oper} {rest:List Oper} {o:Oper} {a:Act} {Q:Exit→Act→World→Prop} {w:World} (hgd:o.guard=none) (s x:Operand)
  (ho:o.op=.call {callee:=.builtin .append,args:=#[s,x],argTypes:=#[28,28]})
  (v:Value) (n:Nat) (l:List aj) (t:aj) (hnd:n=l.length) (hs:a.eval s=v) (B:Nat) (hown:bT w B 9 1 v n (wU l)) (g:Nat) (hx:a.eval x=.slice (some ⟨g,0,none⟩) 1 1)
  (hg:w.heap[g]?=some (.cells #[.string t] 9 (0,0))) (hn:l.length≤1000000) (hB:B≤w.heap.size)
  (h:∀a' c' n' w',Hid (n'=(l++[t]).length)→bT w' B 9 1 (.slice a' n' c') n' (wU (l++[t]))→Kept (fun b=>B≤b) w w'→wpList Tryz.prog ops Q rest (a.put o.dst (.slice a' n' c')) w') :
  wpList Tryz.prog ops Q (o::rest) a w:=by
 obtain ⟨i0,hi0,hz0,hz1,hz2⟩:=info_parts Yp
 have hsr:Src Tryz.prog 1 28 (.slice (some ⟨g,0,none⟩) 1 1) 1 [.string t] w :=
  Src.ofSlice _ Tryz.underlying28 _ _ _ _ rfl (World.news_of_block (fr:=(0,0)) (cs:=#[.string t]) hg) (by intro u hu;simp at hu;subst hu;rfl)
 refine jq w hgd s x _ _ ho B 9 i0 (.string ⟨#[]⟩) 1 16 Tryz.underlying28 hi0 hz0 hz1 hz2 rfl v n (wU l) hs hown _ 1 _ hx hsr (by unfold maxLen;omega) (by omega) hB ?_
 intro a' c' w' hW hgr _
 rw [U4] at hW
 exact h a' c' _ w' (by unfold Hid;rw [List.length_append,hnd];rfl) hW ((Kept.refl _ w).grown hgr fun k hk=>.inl (hown.lt k hk).1)
def oL (N T en d:Nat) (res:cO (List aj)) (w:World) (e:Ending) (w':World):Prop :=
 Kept (· = N) w w'∧match res with
  | .ok (ns,r)=>(∃a c,e=.returned (.slice a ns.length c)∧bT w' w.heap.size 9 1 (.slice a ns.length c) ns.length (wU ns))∧fA N T en r d w'
  | .error er=>mG er e
theorem oL.thrown {N T en d:Nat} {r:cO (List aj)} {w w2 w3:World} {er:Er} (K:Kept (· = N) w w2) (k:Kept (· = N) w2 w3) (hr:r=.error er):oL N T en d r w (.panicked [{v:=dQ er,recovered:=false}]) w3:=by
 subst hr;exact ⟨K.trans k,rfl⟩
structure Io (N T en d:Nat) (w:World) (ns:List aj) (v:Value) (n:Nat) (l:List aF) (wx:World):Prop where
 num:n=ns.length
 bY:fA N T en l d wx
 win:bT wx w.heap.size 9 1 v n (wU ns)
 kept:Kept (· = N) w wx
theorem Io.bg {N T en d:Nat} {w wx wy:World} {ns:List aj} {v:Value} {n:Nat} {l l2:List aF} (h:Io N T en d w ns v n l wx) (hN:N<w.heap.size) (hk:Kept (· = N) wx wy) (hr:fA N T en l2 d wy):Io N T en d w ns v n l2 wy :=
 ⟨h.num,hr,h.win.kept hk (fun k hk2 e=>by have:=(h.win.lt k hk2).1;omega),h.kept.trans hk⟩
theorem NJ {N T en d:Nat} {l:List aF} {w:World} (h:fA N T en l d w):Calls Tryz.prog 95 #[.pointer (some ⟨N,0,none⟩),.string ⟨#[41]⟩] w (oL N T en d (namesT (some (bs [41])) en 9 [] l) w):=by
 obtain ⟨hN,hT,hne,h7⟩:=h.mF
 have I0:Hid (Io N T en d w [] (.slice none 0 0) 0 l w):=⟨rfl,h,bT.nil _ _ _ _,Kept.refl _ _⟩
 clear h
 go_enter Tryz.func95, Tryz.ntmps95
 go_wp2_with fail
 go_loopg [5] 9 (fun f x wr=>∃(ns:List aj) (a:Option Addr) (n c:Nat) (l2:List aF),x=.slice a n c∧Hid (ns.length+f=9∧ns.length≤8)∧Hid (Io N T en d w ns (.slice a n c) n l2 wr)∧Hid (namesT (some (bs [41])) en 9 [] l=namesT (some (bs [41])) en f ns l2))
 case atStart=>exact ⟨[],none,0,0,l,rfl,by unfold Hid;decide,I0,rfl⟩
 case round =>
  obtain ⟨ns,a,n,c,l2,rfl,hf,I,hch⟩:=hrel
  have hnn:=I.out.num
  by_cases h8:ns.length=8
  ·have z:((n:Int)==8)=true:=by rw [hnn,h8];rfl
   obtain rfl:gk=1:=by have:=hf.out;omega
   have oO:Hid (namesT (some (bs [41])) en 9 [] l=.error (5,fO en l2)):=by unfold Hid;rw [hch.out,namesT,if_pos h8]
   obtain ⟨n9,a9,c9,r9⟩:=I.out.bY
   have HA:=ah (o8 r9)
   clear r9 h8 hf hch hnn
   go_wp2_with (first
    | (go_at_call 54;(refine HA.out.mono ?_);rintro e w' ⟨rfl,aQ⟩;obtain rfl:=aQ.symm)
    | (go_at_call 53;(refine (fG _ 5 (fO en l2) wr).mono ?_);rintro e w9 ⟨rfl,rfl⟩))
   exact ⟨rfl,oL.thrown I.out.kept (Kept.refl _ _) oO.out⟩
  ·have z:((n:Int)==8)=false:=by simp;omega
   obtain ⟨g,rfl⟩:∃g,gk=g+1:=by have:=hf.out;exact ⟨gk-1,by omega⟩
   have D6:Hid (ns.length+g=8∧ns.length<8):=by have:=hf.out;unfold Hid;omega
   cases hu:fP en l2 with
   | error e0 =>
    have oO:Hid (namesT (some (bs [41])) en 9 [] l=.error e0):=by unfold Hid;rw [hch.out,namesT,if_neg h8,hu]
    have HU:=ah hu
    clear h8 hf hch hnn hu
    go_wp2_with (go_at_call 48;(refine (iQ I.out.bY).mono ?_);intro e w3 iD;obtain ⟨eu,rfl⟩:=iD.bad HU.out;have K3:=ah eu;clear eu iD)
    exact ⟨rfl,oL.thrown I.out.kept K3.out oO.out⟩
   | ok y =>
    obtain ⟨nm,r⟩:=y
    have HU:=ah hu
    have oO:Hid (namesT (some (bs [41])) en 9 [] l=if aJ (bs [41]) r=true then .ok (ns++[nm],r.tail) else match gI (bs [44]) en r with | .error er=>.error er | .ok r2=>namesT (some (bs [41])) en g (ns++[nm]) r2):=by unfold Hid;rw [hch.out,namesT,if_neg h8,hu];try rfl
    clear h8 hf hch hnn hu
    go_upto_region 5 with (first
     | (go_at_call 48;(refine (iQ I.out.bY).mono ?_);intro e w3 iD;obtain ⟨eu,rfl,lD⟩:=iD.ok HU.out;have I3:=ah (I.out.bg hN eu lD);clear eu lD iD)
     | (refine Am rfl _ _ rfl _ n ns nm I3.out.num rfl w.heap.size (I3.out.win.alloc _) _ rfl (ay w3 _) (by have:=D6.out;omega) (by have:=I3.out.kept.size;simp;omega) ?_;intro a9 c9 n9 w9 NK KI hk9;have K9:Kept (fun b=>w.heap.size≤b) w3 w9:=((Kept.refl _ w3).alloc _).trans hk9;have I9:Hid (Io N T en d w (ns++[nm]) (.slice a9 n9 c9) n9 r w9):=⟨NK.out,I3.out.bY.kept K9 (by omega) (by omega) (by omega),KI,I3.out.kept.step K9 (fun y hy=>.inr hy)⟩;clear KI hk9 K9 NK))
    cases hs:aJ ⟨#[41]⟩ r with
    | true =>
     have zL:Hid (namesT (some (bs [41])) en 9 [] l=.ok (ns++[nm],r.tail)):=by unfold Hid;rw [oO.out];exact if_pos hs
     go_wp2_with (go_at_call 51;(with_reducible refine (nS ⟨#[41]⟩ I9.out.bY hs).mono ?_);rintro e w10 ⟨rfl,sQ,sU⟩;have I10:=ah (I9.out.bg hN sU sQ);clear sQ sU)
     go_ret
     refine ⟨I10.out.kept,?_⟩
     rw [zL.out]
     exact ⟨⟨a9,c9,by rw [←I10.out.num];rfl,by rw [←I10.out.num];exact I10.out.win⟩,I10.out.bY⟩
    | false =>
     cases hv:gI (bs [44]) en r with
     | error e0 =>
      have zL:Hid (namesT (some (bs [41])) en 9 [] l=.error e0):=by unfold Hid;rw [oO.out,if_neg (by rw [show aJ (bs [41]) r=false from hs];decide),hv]
      go_wp2_with (first
       | (go_at_call 51;(with_reducible refine (iy ⟨#[41]⟩ I9.out.bY hs).mono ?_);rintro e w10 ⟨rfl,sQ,sU⟩;have I10:=ah (I9.out.bg hN sU sQ);clear sQ sU)
       | (go_at_call 79;(refine (lX (bs [44]) I10.out.bY).mono ?_);intro e w8 qH;obtain ⟨qA,rfl⟩:=qH.bad hv;have K8:=ah qA;clear qA qH))
      exact ⟨rfl,oL.thrown I10.out.kept K8.out zL.out⟩
     | ok r2 =>
      have zL:Hid (namesT (some (bs [41])) en 9 [] l=namesT (some (bs [41])) en g (ns++[nm]) r2):=by unfold Hid;rw [oO.out,if_neg (by rw [show aJ (bs [41]) r=false from hs];decide),hv]
      go_wp2_with (first
       | (go_at_call 51;(with_reducible refine (iy ⟨#[41]⟩ I9.out.bY hs).mono ?_);rintro e w10 ⟨rfl,sQ,sU⟩;have I10:=ah (I9.out.bg hN sU sQ);clear sQ sU)
       | (go_at_call 79;(refine (lX (bs [44]) I10.out.bY).mono ?_);intro e w8 qH;obtain ⟨qA,rfl,Ak⟩:=qH.ok hv;have I11:=ah (I10.out.bg hN qA Ak);clear qA Ak qH))
      go_roundg g
      case measure=>omega
      case rel=>exact ⟨ns++[nm],a9,n9,c9,r2,rfl,by have:=D6.out;unfold Hid;rw [List.length_append];simp;omega,I11,zL⟩
theorem FH {N T en d:Nat} {l:List aF} {w:World} (h:fA N T en l d w):Calls Tryz.prog 95 #[.pointer (some ⟨N,0,none⟩),.string ⟨#[]⟩] w (oL N T en d (namesT none en 9 [] l) w):=by
 obtain ⟨hN,hT,hne,h7⟩:=h.mF
 have I0:Hid (Io N T en d w [] (.slice none 0 0) 0 l w):=⟨rfl,h,bT.nil _ _ _ _,Kept.refl _ _⟩
 clear h
 go_enter Tryz.func95, Tryz.ntmps95
 go_wp2_with fail
 go_loopg [5] 9 (fun f x wr=>∃(ns:List aj) (a:Option Addr) (n c:Nat) (l2:List aF),x=.slice a n c∧Hid (ns.length+f=9∧ns.length≤8)∧Hid (Io N T en d w ns (.slice a n c) n l2 wr)∧Hid (namesT none en 9 [] l=namesT none en f ns l2))
 case atStart=>exact ⟨[],none,0,0,l,rfl,by unfold Hid;decide,I0,rfl⟩
 case round =>
  obtain ⟨ns,a,n,c,l2,rfl,hf,I,hch⟩:=hrel
  have hnn:=I.out.num
  by_cases h8:ns.length=8
  ·have z:((n:Int)==8)=true:=by rw [hnn,h8];rfl
   obtain rfl:gk=1:=by have:=hf.out;omega
   have oO:Hid (namesT none en 9 [] l=.error (5,fO en l2)):=by unfold Hid;rw [hch.out,namesT,if_pos h8]
   obtain ⟨n9,a9,c9,r9⟩:=I.out.bY
   have HA:=ah (o8 r9)
   clear r9 h8 hf hch hnn
   go_wp2_with (first
    | (go_at_call 54;(refine HA.out.mono ?_);rintro e w' ⟨rfl,aQ⟩;obtain rfl:=aQ.symm)
    | (go_at_call 53;(refine (fG _ 5 (fO en l2) wr).mono ?_);rintro e w9 ⟨rfl,rfl⟩))
   exact ⟨rfl,oL.thrown I.out.kept (Kept.refl _ _) oO.out⟩
  ·have z:((n:Int)==8)=false:=by simp;omega
   obtain ⟨g,rfl⟩:∃g,gk=g+1:=by have:=hf.out;exact ⟨gk-1,by omega⟩
   have D6:Hid (ns.length+g=8∧ns.length<8):=by have:=hf.out;unfold Hid;omega
   cases hu:fP en l2 with
   | error e0 =>
    have oO:Hid (namesT none en 9 [] l=.error e0):=by unfold Hid;rw [hch.out,namesT,if_neg h8,hu]
    have HU:=ah hu
    clear h8 hf hch hnn hu
    go_wp2_with (go_at_call 48;(refine (iQ I.out.bY).mono ?_);intro e w3 iD;obtain ⟨eu,rfl⟩:=iD.bad HU.out;have K3:=ah eu;clear eu iD)
    exact ⟨rfl,oL.thrown I.out.kept K3.out oO.out⟩
   | ok y =>
    obtain ⟨nm,r⟩:=y
    have HU:=ah hu
    have oO:Hid (namesT none en 9 [] l=if aJ (bs [44]) r=true then namesT none en g (ns++[nm]) r.tail else .ok (ns++[nm],r)):=by unfold Hid;rw [hch.out,namesT,if_neg h8,hu];try rfl
    clear h8 hf hch hnn hu
    go_upto_region 5 with (first
     | (go_at_call 48;(refine (iQ I.out.bY).mono ?_);intro e w3 iD;obtain ⟨eu,rfl,lD⟩:=iD.ok HU.out;have I3:=ah (I.out.bg hN eu lD);clear eu lD iD)
     | (refine Am rfl _ _ rfl _ n ns nm I3.out.num rfl w.heap.size (I3.out.win.alloc _) _ rfl (ay w3 _) (by have:=D6.out;omega) (by have:=I3.out.kept.size;simp;omega) ?_;intro a9 c9 n9 w9 NK KI hk9;have K9:Kept (fun b=>w.heap.size≤b) w3 w9:=((Kept.refl _ w3).alloc _).trans hk9;have I9:Hid (Io N T en d w (ns++[nm]) (.slice a9 n9 c9) n9 r w9):=⟨NK.out,I3.out.bY.kept K9 (by omega) (by omega) (by omega),KI,I3.out.kept.step K9 (fun y hy=>.inr hy)⟩;clear KI hk9 K9 NK))
    obtain ⟨n9',a9',c9',r9⟩:=I9.out.bY
    have HS:=ah (Ah ⟨#[44]⟩ r9)
    clear r9
    cases hs:aJ ⟨#[44]⟩ r with
    | false =>
     rw [hs] at HS
     have zL:Hid (namesT none en 9 [] l=.ok (ns++[nm],r)):=by unfold Hid;rw [oO.out];exact if_neg (by rw [show aJ (bs [44]) r=false from hs];decide)
     go_wp2_with (go_at_call 49;(refine HS.out.mono ?_);rintro e w' ⟨rfl,aQ⟩;obtain rfl:=aQ.symm)
     go_ret
     refine ⟨I9.out.kept,?_⟩
     rw [zL.out]
     exact ⟨⟨a9,c9,by rw [←I9.out.num];rfl,by rw [←I9.out.num];exact I9.out.win⟩,I9.out.bY⟩
    | true =>
     rw [hs] at HS
     have zL:Hid (namesT none en 9 [] l=namesT none en g (ns++[nm]) r.tail):=by unfold Hid;rw [oO.out];exact if_pos hs
     have hv:gI (bs [44]) en r=.ok r.tail:=if_pos hs
     go_wp2_with (first
      | (go_at_call 49;(refine HS.out.mono ?_);rintro e w' ⟨rfl,aQ⟩;obtain rfl:=aQ.symm)
      | (go_at_call 79;(refine (lX (bs [44]) I9.out.bY).mono ?_);intro e w8 qH;obtain ⟨qA,rfl,Ak⟩:=qH.ok hv;have I11:=ah (I9.out.bg hN qA Ak);clear qA Ak qH))
     go_roundg g
     case measure=>omega
     case rel=>exact ⟨ns++[nm],a9,n9,c9,r.tail,rfl,by have:=D6.out;unfold Hid;rw [List.length_append];simp;omega,I11,zL⟩
end Go.Proofs.YtefjbnhpjdhjmaaGreatDoor

namespace Go.Proofs.YtefjbnhpjdhjmaaGreatDoor
set_option linter.all false
open Go.RowKit
set_option maxRecDepth 100000
set_option maxHeartbeats 4000000
theorem JG:MI rW:=⟨⟨by decide,by decide,by decide⟩,by simp [rW,sizeT,aS]⟩
theorem abW {lb:aj} (h:lb.size<1000000000):nX {st0 with label:=lb} :=
 by
 have e0:E0.size<1000000000:=by decide
 have en:([]:List aj).length<1000000000:=by decide
 exact ⟨h,JG,JG,JG,e0,e0,⟨en,fun x hx=>by cases hx⟩,⟨en,fun x hx=>by cases hx⟩,e0,e0,e0⟩
theorem dF.free {N:Nat} {a:ig} {s:aN} {w:World} (h:dF N a s w) (o:Nat):w.frozen? ⟨N,o,none⟩=false:=by
 unfold dF at h;simp [World.frozen?,h]
structure uM (w:World) (S:Nat→Prop) (a:ig) (s:aN):Prop where
 target:aI w S a.ta s.target.kids
 value:aI w S a.va s.value.kids
 pat:aI w S a.pa s.pat.kids
 params:nD w S a.ma s.params
 locals:nD w S a.la s.locals
 pc:s.params.length≤a.mc
 lc:s.locals.length≤a.lc
theorem uM.ok {w:World} {S:Nat→Prop} {a:ig} {s:aN} (h:uM w S a s):lH w S a s:=⟨h.target,h.value,h.pat,h.params,h.locals⟩
theorem uM.to {w w':World} {S S':Nat→Prop} {X:Nat→Prop} {a:ig} {s:aN} (h:uM w S a s) (hk:Kept X w w') (hs:Safe S X w.heap.size) (h':∀b,S b→S' b):uM w' S' a s :=
 ⟨h.target.to hk hs h',h.value.to hk hs h',h.pat.to hk hs h',h.params.to hk hs h',h.locals.to hk hs h',h.pc,h.lc⟩
structure fK (N T en M:Nat) (s:aN) (l:List aF) (w:World):Prop where
 bY:fA N T en l 0 w
 st:∃a S,dF M a s w∧uM w S a s∧∀b,S b→M<b∧b<w.heap.size
 sz:nX s
 lt:N<M∧T<M
 few:l.length≤100000
theorem fK.bg {N T en M:Nat} {s:aN} {l l2:List aF} {w w2:World} (h:fK N T en M s l w) (hk:Kept (· = N) w w2) (hr:fA N T en l2 0 w2) (hl:l2.length≤l.length):fK N T en M s l2 w2:=by
 obtain ⟨h1,⟨a,S,h2,h3,h4⟩,h5,h6,h7⟩:=h
 exact ⟨hr,⟨a,S,h2.kept hk (by omega),h3.to hk (fun b hb=>⟨(h4 b hb).2,by have:=h4 b hb;omega⟩) (fun _ h=>h),fun b hb=>⟨(h4 b hb).1,Nat.lt_of_lt_of_le (h4 b hb).2 hk.size⟩⟩,h5,h6,by omega⟩
theorem fK.quiet {N T en M:Nat} {s:aN} {l:List aF} {w w2:World} (h:fK N T en M s l w) (hk:Kept aC w w2):fK N T en M s l w2 :=
 h.bg (hk.more fun _ h=>h.elim) (h.bY.kept hk (fun h=>h) (fun h=>h)) (Nat.le_refl _)
theorem fK.uH {N T en M:Nat} {l:List aF} {w:World} (h:fA N T en l 0 w) (hlt:N<M∧T<M) {w2:World} (hk:Kept (· = M) w w2):fA N T en l 0 w2 :=
 h.kept hk (by omega) (by omega) (by have:=h.mF;omega)
def fM (N T en M:Nat) (res:cO aN) (w:World) (e:Ending) (w':World):Prop :=
 Kept (fun b=>b=N∨b=M) w w'∧match res with
  | .ok (s,r)=>e=.returned (.tuple #[])∧fK N T en M s r w'
  | .error er=>mG er e
theorem fM.thrown {N T en M:Nat} {r:cO aN} {w w2 w3:World} {er:Er} (K:Kept (fun b=>b=N∨b=M) w w2) (k:Kept (· = N) w2 w3) (hr:r=.error er):fM N T en M r w (.panicked [{v:=dQ er,recovered:=false}]) w3:=by
 subst hr;exact ⟨K.trans (k.more (fun _ h=>.inl h)),rfl⟩
theorem fM.done {N T en M:Nat} {r:cO aN} {w w2:World} {s:aN} {l:List aF} (K:Kept (fun b=>b=N∨b=M) w w2) (h:fK N T en M s l w2) (hr:r=.ok (s,l)):fM N T en M r w (.returned (.tuple #[])) w2:=by
 subst hr;exact ⟨K,rfl,h⟩
theorem fM.ok {N T en M:Nat} {r:cO aN} {w w':World} {s:aN} {l:List aF} {e:Ending} (h:fM N T en M r w e w') (hr:r=.ok (s,l)):Kept (fun b=>b=N∨b=M) w w'∧e=.returned (.tuple #[])∧fK N T en M s l w':=by
 subst hr;exact ⟨h.1,h.2.1,h.2.2⟩
theorem fM.bad {N T en M:Nat} {r:cO aN} {w w':World} {er:Er} {e:Ending} (h:fM N T en M r w e w') (hr:r=.error er):Kept (fun b=>b=N∨b=M) w w'∧mG er e:=by
 subst hr;exact h
theorem wV.ok {N T en d:Nat} {l r:List aF} {w w':World} {e:Ending} {x:aj} (h:wV N T en l d w e w') (hr:gq en l=.ok (x,r)):Kept (· = N) w w'∧e=.returned (.string x)∧fA N T en r d w':=by
 unfold wV at h;rw [hr] at h;exact ⟨h.1,h.2.1,h.2.2⟩
theorem wV.bad {N T en d:Nat} {l:List aF} {w w':World} {e:Ending} {er:Er} (h:wV N T en l d w e w') (hr:gq en l=.error er):Kept (· = N) w w'∧mG er e:=by
 unfold wV at h;rw [hr] at h;exact h
theorem Cc.ok {N T en d:Nat} {l r:List aF} {w w':World} {e:Ending} {p:aA} (h:Cc N T en l d w e w') (hr:oZ en l=.ok (p,r)) :
  Kept (· = N) w w'∧fA N T en r d w'∧∃S ka cap,e=.returned (.agg #[.int .i64 p.kind,.string p.text,.int .i64 p.n,.string p.name,.slice ka p.kids.length cap])∧(∀b,S b→w.heap.size≤b∧b<w'.heap.size)∧(p.text.size<1000000000∧p.name.size<1000000000∧p.kids.length<1000000000)∧aI w' S ka p.kids:=by
 unfold Cc at h;rw [hr] at h
 obtain ⟨k,⟨v,rfl,S,hS,ka,cap,rfl,hz,hk⟩,hp⟩:=h
 exact ⟨k,hp,S,ka,cap,rfl,hS,hz,hk⟩
theorem Cc.bad {N T en d:Nat} {l:List aF} {w w':World} {e:Ending} {er:Er} (h:Cc N T en l d w e w') (hr:oZ en l=.error er):Kept (· = N) w w'∧mG er e:=by
 unfold Cc at h;rw [hr] at h;exact h
theorem oL.ok {N T en d:Nat} {res:cO (List aj)} {ns:List aj} {r:List aF} {w w':World} {e:Ending} (h:oL N T en d res w e w') (hr:res=.ok (ns,r)) :
  Kept (· = N) w w'∧fA N T en r d w'∧∃a c,e=.returned (.slice a ns.length c)∧bT w' w.heap.size 9 1 (.slice a ns.length c) ns.length (wU ns):=by
 subst hr
 obtain ⟨k,⟨a,c,rfl,hw⟩,hp⟩:=h
 exact ⟨k,hp,a,c,rfl,hw⟩
theorem oL.bad {N T en d:Nat} {res:cO (List aj)} {w w':World} {e:Ending} {er:Er} (h:oL N T en d res w e w') (hr:res=.error er):Kept (· = N) w w'∧mG er e:=by
 subst hr;exact h
theorem dW {w:World} {M i:Nat} {v:Value}:Kept (· = M) w (w.setCell ⟨M,i,none⟩ v):=(Kept.refl (· = M) w).setCell (p:=⟨M,i,none⟩) (.inl rfl) v
theorem fK.Yq {N T en M:Nat} {s:aN} {l:List aF} {w:World} (h:fK N T en M s l w) (x:aj) (hx:x.size<1000000000):fK N T en M {s with label:=x} l (w.setCell ⟨M,0,none⟩ (.string x)):=by
 obtain ⟨h1,⟨a,S,h2,h3,h4⟩,h5,h6,h7⟩:=h
 have hB:dF M a {s with label:=x} (w.setCell ⟨M,0,none⟩ (.string x)):=by unfold dF at h2⊢;rw [aK h2 _];rfl
 have h3':=h3.to (S':=S) (dW (w:=w) (M:=M) (i:=0) (v:=.string x)) (fun b hb=>⟨(h4 b hb).2,by have:=h4 b hb;omega⟩) (fun _ h=>h)
 exact ⟨fK.uH h1 h6 dW,⟨a,S,hB,⟨h3'.target,h3'.value,h3'.pat,h3'.params,h3'.locals,h3'.pc,h3'.lc⟩,fun b hb=>⟨(h4 b hb).1,Nat.lt_of_lt_of_le (h4 b hb).2 (dW (w:=w) (M:=M) (i:=0) (v:=.string x)).size⟩⟩,⟨hx,h5.target,h5.value,h5.pat,h5.name,h5.entry,h5.params,h5.locals,h5.always,h5.yes,h5.aZ⟩,h6,h7⟩
theorem fK.setKind {N T en M:Nat} {s:aN} {l:List aF} {w:World} (h:fK N T en M s l w) (x:Int):fK N T en M {s with kind:=x} l (w.setCell ⟨M,1,none⟩ (.int .i64 x)):=by
 obtain ⟨h1,⟨a,S,h2,h3,h4⟩,h5,h6,h7⟩:=h
 have hB:dF M a {s with kind:=x} (w.setCell ⟨M,1,none⟩ (.int .i64 x)):=by unfold dF at h2⊢;rw [aK h2 _];rfl
 have h3':=h3.to (S':=S) (dW (w:=w) (M:=M) (i:=1) (v:=.int .i64 x)) (fun b hb=>⟨(h4 b hb).2,by have:=h4 b hb;omega⟩) (fun _ h=>h)
 exact ⟨fK.uH h1 h6 dW,⟨a,S,hB,⟨h3'.target,h3'.value,h3'.pat,h3'.params,h3'.locals,h3'.pc,h3'.lc⟩,fun b hb=>⟨(h4 b hb).1,Nat.lt_of_lt_of_le (h4 b hb).2 (dW (w:=w) (M:=M) (i:=1) (v:=.int .i64 x)).size⟩⟩,⟨h5.label,h5.target,h5.value,h5.pat,h5.name,h5.entry,h5.params,h5.locals,h5.always,h5.yes,h5.aZ⟩,h6,h7⟩
theorem fK.setName {N T en M:Nat} {s:aN} {l:List aF} {w:World} (h:fK N T en M s l w) (x:aj) (hx:x.size<1000000000):fK N T en M {s with name:=x} l (w.setCell ⟨M,17,none⟩ (.string x)):=by
 obtain ⟨h1,⟨a,S,h2,h3,h4⟩,h5,h6,h7⟩:=h
 have hB:dF M a {s with name:=x} (w.setCell ⟨M,17,none⟩ (.string x)):=by unfold dF at h2⊢;rw [aK h2 _];rfl
 have h3':=h3.to (S':=S) (dW (w:=w) (M:=M) (i:=17) (v:=.string x)) (fun b hb=>⟨(h4 b hb).2,by have:=h4 b hb;omega⟩) (fun _ h=>h)
 exact ⟨fK.uH h1 h6 dW,⟨a,S,hB,⟨h3'.target,h3'.value,h3'.pat,h3'.params,h3'.locals,h3'.pc,h3'.lc⟩,fun b hb=>⟨(h4 b hb).1,Nat.lt_of_lt_of_le (h4 b hb).2 (dW (w:=w) (M:=M) (i:=17) (v:=.string x)).size⟩⟩,⟨h5.label,h5.target,h5.value,h5.pat,hx,h5.entry,h5.params,h5.locals,h5.always,h5.yes,h5.aZ⟩,h6,h7⟩
theorem fK.Ce {N T en M:Nat} {s:aN} {l:List aF} {w:World} (h:fK N T en M s l w) (x:aj) (hx:x.size<1000000000):fK N T en M {s with entry:=x} l (w.setCell ⟨M,18,none⟩ (.string x)):=by
 obtain ⟨h1,⟨a,S,h2,h3,h4⟩,h5,h6,h7⟩:=h
 have hB:dF M a {s with entry:=x} (w.setCell ⟨M,18,none⟩ (.string x)):=by unfold dF at h2⊢;rw [aK h2 _];rfl
 have h3':=h3.to (S':=S) (dW (w:=w) (M:=M) (i:=18) (v:=.string x)) (fun b hb=>⟨(h4 b hb).2,by have:=h4 b hb;omega⟩) (fun _ h=>h)
 exact ⟨fK.uH h1 h6 dW,⟨a,S,hB,⟨h3'.target,h3'.value,h3'.pat,h3'.params,h3'.locals,h3'.pc,h3'.lc⟩,fun b hb=>⟨(h4 b hb).1,Nat.lt_of_lt_of_le (h4 b hb).2 (dW (w:=w) (M:=M) (i:=18) (v:=.string x)).size⟩⟩,⟨h5.label,h5.target,h5.value,h5.pat,h5.name,hx,h5.params,h5.locals,h5.always,h5.yes,h5.aZ⟩,h6,h7⟩
theorem fK.U5 {N T en M:Nat} {s:aN} {l:List aF} {w:World} (h:fK N T en M s l w) (x:aj) (hx:x.size<1000000000):fK N T en M {s with always:=x} l (w.setCell ⟨M,21,none⟩ (.string x)):=by
 obtain ⟨h1,⟨a,S,h2,h3,h4⟩,h5,h6,h7⟩:=h
 have hB:dF M a {s with always:=x} (w.setCell ⟨M,21,none⟩ (.string x)):=by unfold dF at h2⊢;rw [aK h2 _];rfl
 have h3':=h3.to (S':=S) (dW (w:=w) (M:=M) (i:=21) (v:=.string x)) (fun b hb=>⟨(h4 b hb).2,by have:=h4 b hb;omega⟩) (fun _ h=>h)
 exact ⟨fK.uH h1 h6 dW,⟨a,S,hB,⟨h3'.target,h3'.value,h3'.pat,h3'.params,h3'.locals,h3'.pc,h3'.lc⟩,fun b hb=>⟨(h4 b hb).1,Nat.lt_of_lt_of_le (h4 b hb).2 (dW (w:=w) (M:=M) (i:=21) (v:=.string x)).size⟩⟩,⟨h5.label,h5.target,h5.value,h5.pat,h5.name,h5.entry,h5.params,h5.locals,hx,h5.yes,h5.aZ⟩,h6,h7⟩
theorem fK.abX {N T en M:Nat} {s:aN} {l:List aF} {w:World} (h:fK N T en M s l w) (x:aj) (hx:x.size<1000000000):fK N T en M {s with yes:=x} l (w.setCell ⟨M,22,none⟩ (.string x)):=by
 obtain ⟨h1,⟨a,S,h2,h3,h4⟩,h5,h6,h7⟩:=h
 have hB:dF M a {s with yes:=x} (w.setCell ⟨M,22,none⟩ (.string x)):=by unfold dF at h2⊢;rw [aK h2 _];rfl
 have h3':=h3.to (S':=S) (dW (w:=w) (M:=M) (i:=22) (v:=.string x)) (fun b hb=>⟨(h4 b hb).2,by have:=h4 b hb;omega⟩) (fun _ h=>h)
 exact ⟨fK.uH h1 h6 dW,⟨a,S,hB,⟨h3'.target,h3'.value,h3'.pat,h3'.params,h3'.locals,h3'.pc,h3'.lc⟩,fun b hb=>⟨(h4 b hb).1,Nat.lt_of_lt_of_le (h4 b hb).2 (dW (w:=w) (M:=M) (i:=22) (v:=.string x)).size⟩⟩,⟨h5.label,h5.target,h5.value,h5.pat,h5.name,h5.entry,h5.params,h5.locals,h5.always,hx,h5.aZ⟩,h6,h7⟩
theorem fK.QE {N T en M:Nat} {s:aN} {l:List aF} {w:World} (h:fK N T en M s l w) (x:aj) (hx:x.size<1000000000):fK N T en M {s with aZ:=x} l (w.setCell ⟨M,23,none⟩ (.string x)):=by
 obtain ⟨h1,⟨a,S,h2,h3,h4⟩,h5,h6,h7⟩:=h
 have hB:dF M a {s with aZ:=x} (w.setCell ⟨M,23,none⟩ (.string x)):=by unfold dF at h2⊢;rw [aK h2 _];rfl
 have h3':=h3.to (S':=S) (dW (w:=w) (M:=M) (i:=23) (v:=.string x)) (fun b hb=>⟨(h4 b hb).2,by have:=h4 b hb;omega⟩) (fun _ h=>h)
 exact ⟨fK.uH h1 h6 dW,⟨a,S,hB,⟨h3'.target,h3'.value,h3'.pat,h3'.params,h3'.locals,h3'.pc,h3'.lc⟩,fun b hb=>⟨(h4 b hb).1,Nat.lt_of_lt_of_le (h4 b hb).2 (dW (w:=w) (M:=M) (i:=23) (v:=.string x)).size⟩⟩,⟨h5.label,h5.target,h5.value,h5.pat,h5.name,h5.entry,h5.params,h5.locals,h5.always,h5.yes,hx⟩,h6,h7⟩
theorem bT.few {w:World} {B e size n c:Nat} {a:Option Addr} {xs:List Value} (h:bT w B e size (.slice a n c) n xs):n≤c:=by
 rcases h.cells with ⟨_,hn⟩|⟨g,o,cap,hv,_,_,h1,_⟩
 ·omega
 ·simp only [Value.slice.injEq,true_and] at hv
  obtain ⟨_,rfl⟩:=hv
  exact h1
theorem fK.U6 {N T en M:Nat} {s:aN} {l l2:List aF} {w w2:World} (h:fK N T en M s l w) (hk:Kept (· = N) w w2) (hr:fA N T en l2 0 w2) (hl:l2.length≤l.length) {ns:List aj} {na:Option Addr} {nc:Nat} (hw:bT w2 w.heap.size 9 1 (.slice na ns.length nc) ns.length (wU ns)) (hx:ns.length<1000000000∧∀x∈ns,x.size<1000000000) :
  fK N T en M {s with params:=ns} l2 (w2.setCell ⟨M,19,none⟩ (.slice na ns.length nc)):=by
 have hM:M<w.heap.size:=by obtain ⟨a,S,h2,_⟩:=h.st;exact h2.lt
 obtain ⟨h1,⟨a,S,h2,h3,h4⟩,h5,h6,h7⟩:=h.bg hk hr hl
 have hB:dF M {a with ma:=na,mc:=nc} {s with params:=ns} (w2.setCell ⟨M,19,none⟩ (.slice na ns.length nc)):=by unfold dF at h2⊢;rw [aK h2 _];rfl
 have kM:=dW (w:=w2) (M:=M) (i:=19) (v:=.slice na ns.length nc)
 have h3':=h3.to (S':=fun b=>S b∨(Value.slice na ns.length nc).ownBlock=some b) kM (fun b hb=>⟨(h4 b hb).2,by have:=h4 b hb;omega⟩) (fun _ h=>.inl h)
 have x3:nD (w2.setCell ⟨M,19,none⟩ (.slice na ns.length nc)) (fun b=>S b∨(Value.slice na ns.length nc).ownBlock=some b) na ns:=by
  intro h0
  rcases hw.cells with ⟨_,hn⟩|⟨g,o,c',hv,hg1,hg2,_,_,hc⟩
  ·omega
  ·simp only [Value.slice.injEq,true_and] at hv
   obtain ⟨rfl,rfl⟩:=hv
   exact ⟨g,o,rfl,.inr rfl,fun j hj=>(kM.cell hg2 (by omega)).trans (hc j _ (by simp [wU,hj])).1⟩
 refine ⟨fK.uH h1 h6 kM,⟨_,_,hB,⟨h3'.target,h3'.value,h3'.pat,x3,h3'.locals,hw.few,h3'.lc⟩,fun b hb=>?_⟩,⟨h5.label,h5.target,h5.value,h5.pat,h5.name,h5.entry,hx,h5.locals,h5.always,h5.yes,h5.aZ⟩,h6,h7⟩
 rcases hb with hb|hb
 ·exact ⟨(h4 b hb).1,Nat.lt_of_lt_of_le (h4 b hb).2 kM.size⟩
 ·have:=hw.lt b hb;have:=kM.size;omega
theorem fK.KJ {N T en M:Nat} {s:aN} {l l2:List aF} {w w2:World} (h:fK N T en M s l w) (hk:Kept (· = N) w w2) (hr:fA N T en l2 0 w2) (hl:l2.length≤l.length) {ns:List aj} {na:Option Addr} {nc:Nat} (hw:bT w2 w.heap.size 9 1 (.slice na ns.length nc) ns.length (wU ns)) (hx:ns.length<1000000000∧∀x∈ns,x.size<1000000000) :
  fK N T en M {s with locals:=ns} l2 (w2.setCell ⟨M,20,none⟩ (.slice na ns.length nc)):=by
 have hM:M<w.heap.size:=by obtain ⟨a,S,h2,_⟩:=h.st;exact h2.lt
 obtain ⟨h1,⟨a,S,h2,h3,h4⟩,h5,h6,h7⟩:=h.bg hk hr hl
 have hB:dF M {a with la:=na,lc:=nc} {s with locals:=ns} (w2.setCell ⟨M,20,none⟩ (.slice na ns.length nc)):=by unfold dF at h2⊢;rw [aK h2 _];rfl
 have kM:=dW (w:=w2) (M:=M) (i:=20) (v:=.slice na ns.length nc)
 have h3':=h3.to (S':=fun b=>S b∨(Value.slice na ns.length nc).ownBlock=some b) kM (fun b hb=>⟨(h4 b hb).2,by have:=h4 b hb;omega⟩) (fun _ h=>.inl h)
 have x3:nD (w2.setCell ⟨M,20,none⟩ (.slice na ns.length nc)) (fun b=>S b∨(Value.slice na ns.length nc).ownBlock=some b) na ns:=by
  intro h0
  rcases hw.cells with ⟨_,hn⟩|⟨g,o,c',hv,hg1,hg2,_,_,hc⟩
  ·omega
  ·simp only [Value.slice.injEq,true_and] at hv
   obtain ⟨rfl,rfl⟩:=hv
   exact ⟨g,o,rfl,.inr rfl,fun j hj=>(kM.cell hg2 (by omega)).trans (hc j _ (by simp [wU,hj])).1⟩
 refine ⟨fK.uH h1 h6 kM,⟨_,_,hB,⟨h3'.target,h3'.value,h3'.pat,h3'.params,x3,h3'.pc,hw.few⟩,fun b hb=>?_⟩,⟨h5.label,h5.target,h5.value,h5.pat,h5.name,h5.entry,h5.params,hx,h5.always,h5.yes,h5.aZ⟩,h6,h7⟩
 rcases hb with hb|hb
 ·exact ⟨(h4 b hb).1,Nat.lt_of_lt_of_le (h4 b hb).2 kM.size⟩
 ·have:=hw.lt b hb;have:=kM.size;omega
theorem fK.vF {N T en M:Nat} {s:aN} {l:List aF} {w2:World} (h:fK N T en M s l w2) {p:aA} {ka:Option Addr} {kc:Nat} {S2:Nat→Prop} (hk2:aI w2 S2 ka p.kids) (hS2:∀b,S2 b→M<b∧b<w2.heap.size) (hz:p.text.size<1000000000∧p.name.size<1000000000∧p.kids.length<1000000000) (hx:sizeT p≤1048576) :
  fK N T en M {s with target:=p} l (((((w2.setCell ⟨M,2,none⟩ (.int .i64 p.kind)).setCell ⟨M,3,none⟩ (.string p.text)).setCell ⟨M,4,none⟩ (.int .i64 p.n)).setCell ⟨M,5,none⟩ (.string p.name)).setCell ⟨M,6,none⟩ (.slice ka p.kids.length kc)):=by
 obtain ⟨h1,⟨a,S,h2,h3,h4⟩,h5,h6,h7⟩:=h
 have hB:dF M {a with ta:=ka,tc:=kc} {s with target:=p} (((((w2.setCell ⟨M,2,none⟩ (.int .i64 p.kind)).setCell ⟨M,3,none⟩ (.string p.text)).setCell ⟨M,4,none⟩ (.int .i64 p.n)).setCell ⟨M,5,none⟩ (.string p.name)).setCell ⟨M,6,none⟩ (.slice ka p.kids.length kc)):=by unfold dF at h2⊢;rw [aK (aK (aK (aK (aK h2 _) _) _) _) _];rfl
 have kM:Kept (· = M) w2 (((((w2.setCell ⟨M,2,none⟩ (.int .i64 p.kind)).setCell ⟨M,3,none⟩ (.string p.text)).setCell ⟨M,4,none⟩ (.int .i64 p.n)).setCell ⟨M,5,none⟩ (.string p.name)).setCell ⟨M,6,none⟩ (.slice ka p.kids.length kc)):=((((dW).trans dW).trans dW).trans dW).trans dW
 have h3':=h3.to (S':=fun b=>S b∨S2 b) kM (fun b hb=>⟨(h4 b hb).2,by have:=h4 b hb;omega⟩) (fun _ h=>.inl h)
 have x3:=hk2.to (S':=fun b=>S b∨S2 b) kM (fun b hb=>⟨(hS2 b hb).2,by have:=hS2 b hb;omega⟩) (fun _ h=>.inr h)
 refine ⟨fK.uH h1 h6 kM,⟨_,_,hB,⟨x3,h3'.value,h3'.pat,h3'.params,h3'.locals,h3'.pc,h3'.lc⟩,fun b hb=>?_⟩,⟨h5.label,⟨hz,hx⟩,h5.value,h5.pat,h5.name,h5.entry,h5.params,h5.locals,h5.always,h5.yes,h5.aZ⟩,h6,h7⟩
 have:=kM.size
 rcases hb with hb|hb
 ·have:=h4 b hb;omega
 ·have:=hS2 b hb;omega
theorem fK.setValue {N T en M:Nat} {s:aN} {l:List aF} {w2:World} (h:fK N T en M s l w2) {p:aA} {ka:Option Addr} {kc:Nat} {S2:Nat→Prop} (hk2:aI w2 S2 ka p.kids) (hS2:∀b,S2 b→M<b∧b<w2.heap.size) (hz:p.text.size<1000000000∧p.name.size<1000000000∧p.kids.length<1000000000) (hx:sizeT p≤1048576) :
  fK N T en M {s with value:=p} l (((((w2.setCell ⟨M,7,none⟩ (.int .i64 p.kind)).setCell ⟨M,8,none⟩ (.string p.text)).setCell ⟨M,9,none⟩ (.int .i64 p.n)).setCell ⟨M,10,none⟩ (.string p.name)).setCell ⟨M,11,none⟩ (.slice ka p.kids.length kc)):=by
 obtain ⟨h1,⟨a,S,h2,h3,h4⟩,h5,h6,h7⟩:=h
 have hB:dF M {a with va:=ka,vc:=kc} {s with value:=p} (((((w2.setCell ⟨M,7,none⟩ (.int .i64 p.kind)).setCell ⟨M,8,none⟩ (.string p.text)).setCell ⟨M,9,none⟩ (.int .i64 p.n)).setCell ⟨M,10,none⟩ (.string p.name)).setCell ⟨M,11,none⟩ (.slice ka p.kids.length kc)):=by unfold dF at h2⊢;rw [aK (aK (aK (aK (aK h2 _) _) _) _) _];rfl
 have kM:Kept (· = M) w2 (((((w2.setCell ⟨M,7,none⟩ (.int .i64 p.kind)).setCell ⟨M,8,none⟩ (.string p.text)).setCell ⟨M,9,none⟩ (.int .i64 p.n)).setCell ⟨M,10,none⟩ (.string p.name)).setCell ⟨M,11,none⟩ (.slice ka p.kids.length kc)):=((((dW).trans dW).trans dW).trans dW).trans dW
 have h3':=h3.to (S':=fun b=>S b∨S2 b) kM (fun b hb=>⟨(h4 b hb).2,by have:=h4 b hb;omega⟩) (fun _ h=>.inl h)
 have x3:=hk2.to (S':=fun b=>S b∨S2 b) kM (fun b hb=>⟨(hS2 b hb).2,by have:=hS2 b hb;omega⟩) (fun _ h=>.inr h)
 refine ⟨fK.uH h1 h6 kM,⟨_,_,hB,⟨h3'.target,x3,h3'.pat,h3'.params,h3'.locals,h3'.pc,h3'.lc⟩,fun b hb=>?_⟩,⟨h5.label,h5.target,⟨hz,hx⟩,h5.pat,h5.name,h5.entry,h5.params,h5.locals,h5.always,h5.yes,h5.aZ⟩,h6,h7⟩
 have:=kM.size
 rcases hb with hb|hb
 ·have:=h4 b hb;omega
 ·have:=hS2 b hb;omega
theorem fK.U7 {N T en M:Nat} {s:aN} {l:List aF} {w2:World} (h:fK N T en M s l w2) {p:aA} {ka:Option Addr} {kc:Nat} {S2:Nat→Prop} (hk2:aI w2 S2 ka p.kids) (hS2:∀b,S2 b→M<b∧b<w2.heap.size) (hz:p.text.size<1000000000∧p.name.size<1000000000∧p.kids.length<1000000000) (hx:sizeT p≤1048576) :
  fK N T en M {s with pat:=p} l (((((w2.setCell ⟨M,12,none⟩ (.int .i64 p.kind)).setCell ⟨M,13,none⟩ (.string p.text)).setCell ⟨M,14,none⟩ (.int .i64 p.n)).setCell ⟨M,15,none⟩ (.string p.name)).setCell ⟨M,16,none⟩ (.slice ka p.kids.length kc)):=by
 obtain ⟨h1,⟨a,S,h2,h3,h4⟩,h5,h6,h7⟩:=h
 have hB:dF M {a with pa:=ka,pc:=kc} {s with pat:=p} (((((w2.setCell ⟨M,12,none⟩ (.int .i64 p.kind)).setCell ⟨M,13,none⟩ (.string p.text)).setCell ⟨M,14,none⟩ (.int .i64 p.n)).setCell ⟨M,15,none⟩ (.string p.name)).setCell ⟨M,16,none⟩ (.slice ka p.kids.length kc)):=by unfold dF at h2⊢;rw [aK (aK (aK (aK (aK h2 _) _) _) _) _];rfl
 have kM:Kept (· = M) w2 (((((w2.setCell ⟨M,12,none⟩ (.int .i64 p.kind)).setCell ⟨M,13,none⟩ (.string p.text)).setCell ⟨M,14,none⟩ (.int .i64 p.n)).setCell ⟨M,15,none⟩ (.string p.name)).setCell ⟨M,16,none⟩ (.slice ka p.kids.length kc)):=((((dW).trans dW).trans dW).trans dW).trans dW
 have h3':=h3.to (S':=fun b=>S b∨S2 b) kM (fun b hb=>⟨(h4 b hb).2,by have:=h4 b hb;omega⟩) (fun _ h=>.inl h)
 have x3:=hk2.to (S':=fun b=>S b∨S2 b) kM (fun b hb=>⟨(hS2 b hb).2,by have:=hS2 b hb;omega⟩) (fun _ h=>.inr h)
 refine ⟨fK.uH h1 h6 kM,⟨_,_,hB,⟨h3'.target,h3'.value,x3,h3'.params,h3'.locals,h3'.pc,h3'.lc⟩,fun b hb=>?_⟩,⟨h5.label,h5.target,h5.value,⟨hz,hx⟩,h5.name,h5.entry,h5.params,h5.locals,h5.always,h5.yes,h5.aZ⟩,h6,h7⟩
 have:=kM.size
 rcases hb with hb|hb
 ·have:=h4 b hb;omega
 ·have:=hS2 b hb;omega
theorem KO (l:List aA) (j:Nat) (hj:j<l.length):pV (l.take (j+1))=max (pV (l.take j)) (lT l[j]):=by
 induction l generalizing j with
 | nil=>simp at hj
 | cons p ps ih =>
  cases j with
  | zero=>simp [pV]
  | succ j=>simp only [List.take_succ_cons,pV,List.getElem_cons_succ];rw [ih j (by simpa using hj)];omega
mutual
theorem GH:∀p:aA,lT p≤sizeT p
 | .mk k t n nm kids=>by rw [lT,sizeT];have:=Ap kids;omega
theorem Ap:∀l:List aA,pV l≤aS l
 | []=>Nat.le_refl _
 | p::ps=>by rw [pV,aS];have:=GH p;have:=Ap ps;omega
end
theorem NM (l:List aA) (j:Nat):pV (l.take j)≤aS l:=Nat.le_trans (Ap _) (RI l j)
theorem KQ:∀(n:Nat) (p:aA) (b o:Nat) (S:Nat→Prop) (w:World),sizeT p≤n→n≤100000000→dH w S b o p→Calls Tryz.prog 55 #[.pointer (some ⟨b,o,none⟩)] w (yx (lT p) w):=by
 intro n
 induction n with
 | zero=>intro p b o S w hn _ _;obtain ⟨k,t,m,nm,kids⟩:=p;simp [sizeT] at hn
 | succ n ih =>
  intro p b o S w hn hmax hp
  obtain ⟨k,t,m,nm,kids⟩:=p
  obtain ⟨hSb,hz,c0,c1,c2,c3,ka,cap,c4,hk⟩:=hp.open
  have hks:aS kids≤n:=by rw [sizeT] at hn;omega
  have hkl:kids.length<1000000000:=hz.2.2
  dsimp only [aA.kids] at c4 hk
  have HIH:=ah ih;have HK:=ah hk;have Ip:=ah hks
  have HD:Hid (lT (.mk k t m nm kids)=pV kids+1):=rfl
  clear hp hz hk hn ih
  go_enter Tryz.func55, Tryz.ntmps55
  go_wp2_with fail
  go_loopw [10,3] (fun x y wr=>∃j:Nat,j≤kids.length∧x=.int .i64 j∧y=.int .i64 ((pV (kids.take j):Nat):Int)∧wr=w) (fun x _ _=>kids.length-(intOf x).toNat)
  case atStart=>exact ⟨0,Nat.zero_le _,rfl,rfl,rfl⟩
  case round =>
   obtain ⟨j,hj,rfl,rfl,rfl⟩:=hrel
   by_cases hlt:j<kids.length
   ·have hb1:decide ((j:Int)<(kids.length:Int))=true:=ak (by omega)
    have hb2:decide (j<kids.length)=true:=ak hlt
    obtain ⟨kb,ko,rfl⟩:=iF HK.out (by omega)
    have hC:=ah (HIH.out kids[j] kb (ko+j*5) S _ (by have:=ng kids j hlt;have:=Ip.out;omega) (by omega) (iH kids kb ko j hlt HK.out))
    have hmx:((max (pV (kids.take j)) (lT kids[j]):Nat):Int)=((pV (kids.take (j+1)):Nat):Int):=by rw [KO kids j hlt]
    have aeE:max ((pV (kids.take j):Nat):Int) ((lT kids[j]:Nat):Int)=((pV (kids.take (j+1)):Nat):Int):=by rw [KO kids j hlt];omega
    have hd1:pV (kids.take j)≤100000000:=Nat.le_trans (NM kids j) (by have:=Ip.out;omega)
    obtain ⟨x,hx⟩:∃x,x=pV (kids.take j):=⟨_,rfl⟩
    obtain ⟨y,hy⟩:∃y,y=lT kids[j]:=⟨_,rfl⟩
    obtain ⟨z,hzz⟩:∃z,z=pV (kids.take (j+1)):=⟨_,rfl⟩
    rw [←hy] at hC
    rw [←hx,←hy,←hzz] at aeE
    rw [←hx] at hd1⊢
    have HZZ:=ah hzz
    clear hmx hx hy hzz
    go_wp2_with (go_at_call 55;(refine hC.out.mono ?_);rintro e w' ⟨rfl,aQ⟩;obtain rfl:=aQ)
    go_roundw
    case measure=>simp [intOf];omega
    case rel=>exact ⟨j+1,by omega,by go_num,by rw [HZZ.out],trivial⟩
   ·obtain rfl:j=kids.length:=by omega
    have hb1:decide ((kids.length:Int)<(kids.length:Int))=false:=au (by omega)
    have hb2:decide (kids.length<kids.length)=false:=au (by omega)
    have hd1:pV kids≤100000000:=Nat.le_trans (Ap kids) (by have:=Ip.out;omega)
    rw [List.take_length]
    go_wp2_with fail
    go_ret
    exact ⟨by rw [HD.out];rfl,rfl⟩
end Go.Proofs.YtefjbnhpjdhjmaaGreatDoor
