/-  -/
import Derived.Test.YtefjbnhpjdhjmaaGreatDoorTm7
namespace Go.Proofs.YtefjbnhpjdhjmaaGreatDoor
set_option linter.all false
open Go.RowKit
set_option maxRecDepth 100000
set_option maxHeartbeats 8000000
theorem YS:(Tryz.prog.info? 24).map (fun i=>(i.zero,i.size,i.bytes))=some (some (.agg #[.int .i64 0,.string ⟨#[]⟩,.int .i64 0,.string ⟨#[]⟩,.slice none 0 0]),5,72):=by kernel_rfl
theorem Qu {N T en d:Nat} {ex pr:List aC→bK aA} {t:aC} {r:List aC} {w:World} (h:fE N T en (t::r) d w) (hk:t.kind≠3∧t.kind≠2) (hs1:aJ (bs [40]) (t::r)=false) (hs2:aJ (bs [36]) (t::r)=false) {nm:aj} {r1:List aC} (hnm:eF en (t::r)=.ok (nm,r1)) (hs3:aJ (bs [60]) r1=false) (hs4:aJ (bs [40]) r1=true) (hs5:aJ (bs [41]) r1.tail=true):Calls Tryz.prog 119 #[.pointer (some ⟨N,0,none⟩)] w (XQ N T en d (bP ex pr en (t::r)) w):=by
 have er:Hid (bP ex pr en (t::r)=match eF en (t::r) with
    | .error er=>.error er
    | .ok (nm,r) =>
     if aJ (bs [60]) r=true then
      match ex r.tail with
      | .error er=>.error er
      | .ok (x,r2)=>match eY (bs [62]) en r2 with
       | .error er=>.error er
       | .ok r3=>.ok (.mk 4 E0 0 nm [x],r3)
     else if aJ (bs [40]) r=true then
      if aJ (bs [41]) r.tail=true then .ok (.mk 6 E0 0 nm [],r.tail.tail)
      else match lD ex en 9 [] r.tail with
       | .error er=>.error er
       | .ok (ks,r2)=>.ok (.mk 6 E0 0 nm ks,r2)
     else .ok (.mk 3 E0 0 nm [],r)):=by unfold Hid bP;rw [hs1,hs2];simp only [fP,hk.1,hk.2,if_false,Bool.false_eq_true];rfl
 have S1:Hid (aJ ⟨#[40]⟩ (t::r)=false):=hs1;have S2:Hid (aJ ⟨#[36]⟩ (t::r)=false):=hs2;have HK:=ah hk
 have rY:Hid (bP ex pr en (t::r)=.ok (.mk 6 E0 0 nm [],r1.tail.tail)):=by unfold Hid;rw [er.out,hnm];simp only [hs3,hs4,hs5,if_true,if_false,Bool.false_eq_true]
 have Ac:=ah hnm;have S3:Hid (aJ ⟨#[60]⟩ r1=false):=hs3;have S4:Hid (aJ ⟨#[40]⟩ r1=true):=hs4;have S5:Hid (aJ ⟨#[41]⟩ r1.tail=true):=hs5
 obtain ⟨hN,hT,hne,h7⟩:=h.ng
 obtain ⟨w0,hw0⟩:∃w0,w0=w.alloc (.cells #[.int .i64 0,.string ⟨#[]⟩,.int .i64 0,.string ⟨#[]⟩,.slice none 0 0] 24):=⟨_,rfl⟩
 have k0:Kept aF w w0:=by rw [hw0];exact (Kept.refl _ _).alloc _
 obtain ⟨M2,hM2⟩:∃M,M=w.heap.size:=⟨_,rfl⟩
 have Z0:Hid (dO M2 (.int .i64 0) (.string ⟨#[]⟩) (.int .i64 0) (.string ⟨#[]⟩) (.slice none 0 0) w0):=by rw [hw0,hM2];exact ay w _
 have R0:=ah (h.kept k0 (fun h=>h) (fun h=>h))
 have K0:Hid (Kept (· = N) w w0):=k0.more (fun _ h=>h.elim)
 have HW0:=ah hw0;have dG:=ah hM2
 clear k0 hw0 hM2 h hk hs1 hs2 hnm hs3 hs4 hs5 er
 go_enter Tryz.func119, Tryz.ntmps119
 go_upto_region 1 with fail
 rw [←HW0.out,←dG.out]
 go_upto_region 12 with (first
  | (go_at_call 51;(with_reducible refine (iD ⟨#[40]⟩ R0.out S1.out).mono ?_);rintro e w1 ⟨rfl,gY,eX⟩;have R1:=ah gY;have K1:Hid (Kept (· = N) w w1):=K0.out.trans eX;have Z1:=ah (Z0.out.kept eX (by have:=dG.out;omega));clear gY eX)
  | (go_at_call 51;(with_reducible refine (iD ⟨#[36]⟩ R1.out S2.out).mono ?_);rintro e w2 ⟨rfl,lg,iC⟩;have R2:=ah lg;have K2:Hid (Kept (· = N) w w2):=K1.out.trans iC;have Z2:=ah (Z1.out.kept iC (by have:=dG.out;omega));clear lg iC))
 obtain ⟨n2,a2,c2,hP⟩:=R2.out
 obtain ⟨c0,c1,cd,cf⟩:=hP.c0
 have hn:=hP.num
 rw [List.length_cons] at hn
 have h0:0<n2:=by omega
 have h1:(0:Int)<(n2:Int):=by omega
 have z:decide ((0:Int)<(n2:Int))=true:=ak h1
 have z':decide (0<n2)=true:=ak h0
 obtain ⟨o,rfl,t0,t1,t2⟩:=hP.head
 have y3:(t.kind==3)=false:=by simpa using HK.out.1
 have y2:(t.kind==2)=false:=by simpa using HK.out.2
 clear hn hP cf
 go_upto_region 22 with fail
 clear c0 c1 cd t0 t1 t2 y3 y2 z z'
 go_upto_region 23 with (go_at_call 48;(refine (iZ R2.out).mono ?_);intro e w3 iF;obtain ⟨eP,rfl,lJ⟩:=iF.ok Ac.out;have R3:=ah lJ;have K3:Hid (Kept (· = N) w w3):=K2.out.trans eP;have Z3:=ah (Z2.out.kept eP (by have:=dG.out;omega));clear eP lJ iF)
 have I4:Hid (jk N T en d M2 w3.heap.size w (.mk 3 E0 0 nm []) none 0 r1 (w3.alloc (.cells #[.int .i64 3,.string ⟨#[]⟩,.int .i64 0,.string nm,.slice none 0 0] 24))):=jk.start (w1:=w3) (p:=.mk 3 E0 0 nm []) (ka:=none) (cap:=0) (S:=aF) Z3.out K3.out R3.out (fun b hb=>hb.elim) ⟨by show E0.size<_;decide,by show nm.size<_;have:=kU Ac.out;omega,by show 0<_;decide⟩ (by show aI _ aF none [];unfold aI;trivial) hN K3.out.size Z3.out.lt
 have hsz:Hid (w.heap.size<w3.heap.size):=by have:=Z3.out.lt;have:=dG.out;unfold Hid;omega
 obtain ⟨w4,hw4⟩:∃w4,w4=w3.alloc (.cells #[.int .i64 3,.string ⟨#[]⟩,.int .i64 0,.string nm,.slice none 0 0] 24):=⟨_,rfl⟩
 obtain ⟨M5,qh⟩:∃M,M=w3.heap.size:=⟨_,rfl⟩
 rw [←hw4,←qh] at I4
 rw [←hw4,←qh]
 rw [←qh] at hsz
 have hM:Hid (N≠M2∧N≠M5∧T≠M2∧w.heap.size≤M2∧M2<M5):=by have:=dG.out;have:=hsz.out;unfold Hid;omega
 clear hw4 qh
 go_upto_region 27 with (first
  | (go_at_call 51;(with_reducible refine (iD ⟨#[60]⟩ I4.out.bY S3.out).mono ?_);rintro e w5 ⟨rfl,Eb,xM⟩;have I5:=ah (I4.out.bC hM.out.1 (by have:=hM.out;omega) xM Eb);clear Eb xM)
  | (go_at_call 51;(with_reducible refine (nX ⟨#[40]⟩ I5.out.bY S4.out).mono ?_);rintro e w6 ⟨rfl,zB,vw⟩;have I6:=ah (I5.out.bC hM.out.1 (by have:=hM.out;omega) vw zB);clear zB vw))
 obtain ⟨x0,x1,x2,x3,x4,xf⟩:=I6.out.five.cells
 have xf0:=xf 0
 clear xf
 have J7:Hid (qR N T en d M2 M5 w nm [] (.slice none 0 0) r1.tail (w6.setCell ⟨M5,0,none⟩ (.int .i64 6))):=qR.start I6.out hM.out.2.1 (by have:=hM.out;omega) (by have:=hM.out;omega) hT hN
 go_upto_region 28 with fail
 obtain ⟨w7,hw7⟩:∃w7,w7=w6.setCell ⟨M5,0,none⟩ (.int .i64 6):=⟨_,rfl⟩
 rw [←hw7] at J7
 rw [←hw7]
 clear hw7 x0 x1 x2 x3 x4 xf0
 go_upto_region 29 with (go_at_call 51;(with_reducible refine (nX ⟨#[41]⟩ J7.out.bY S5.out).mono ?_);rintro e w8 ⟨rfl,Ad,rJ⟩;have J8:=ah (J7.out.bC hM.out.1 (by have:=hM.out;omega) rJ Ad);clear Ad rJ)
 have I8:Hid (jk N T en d M2 M5 w (.mk 6 E0 0 nm []) none 0 r1.tail.tail w8):=qR.done (ks:=[]) J8.out hM.out.2.2.2.2 (by have:=hM.out;omega) hN (by decide)
 obtain ⟨x0,x1,x2,x3,x4,_⟩:=I8.out.five.cells
 obtain ⟨z0,z1,z2,z3,z4,zf⟩:=I8.out.zero.cells
 have xP:=zf 0;have xQ:=zf 1;have xR:=zf 2;have yA:=zf 3;have yB:=zf 4
 clear zf
 go_wp2_with fail
 exact kR 2 rfl rfl (I8.out.zero.bI _ _ _ _ _) (I8.out.fin hM.out.1 hM.out.2.2.1 hM.out.2.2.2.1 hN rY.out)
theorem Tf {N T en d:Nat} {ex pr:List aC→bK aA} {t:aC} {r:List aC} {w:World} (h:fE N T en (t::r) d w) (hk:t.kind≠3∧t.kind≠2) (hs1:aJ (bs [40]) (t::r)=false) (hs2:aJ (bs [36]) (t::r)=false) {nm:aj} {r1:List aC} (hnm:eF en (t::r)=.ok (nm,r1)) (hs3:aJ (bs [60]) r1=false) (hs4:aJ (bs [40]) r1=true) (HE:GY N T en d ex) (hs5:aJ (bs [41]) r1.tail=false):Calls Tryz.prog 119 #[.pointer (some ⟨N,0,none⟩)] w (XQ N T en d (bP ex pr en (t::r)) w):=by
 have er:Hid (bP ex pr en (t::r)=match eF en (t::r) with
    | .error er=>.error er
    | .ok (nm,r) =>
     if aJ (bs [60]) r=true then
      match ex r.tail with
      | .error er=>.error er
      | .ok (x,r2)=>match eY (bs [62]) en r2 with
       | .error er=>.error er
       | .ok r3=>.ok (.mk 4 E0 0 nm [x],r3)
     else if aJ (bs [40]) r=true then
      if aJ (bs [41]) r.tail=true then .ok (.mk 6 E0 0 nm [],r.tail.tail)
      else match lD ex en 9 [] r.tail with
       | .error er=>.error er
       | .ok (ks,r2)=>.ok (.mk 6 E0 0 nm ks,r2)
     else .ok (.mk 3 E0 0 nm [],r)):=by unfold Hid bP;rw [hs1,hs2];simp only [fP,hk.1,hk.2,if_false,Bool.false_eq_true];rfl
 have S1:Hid (aJ ⟨#[40]⟩ (t::r)=false):=hs1;have S2:Hid (aJ ⟨#[36]⟩ (t::r)=false):=hs2;have HK:=ah hk
 have rY:Hid (bP ex pr en (t::r)=match lD ex en 9 [] r1.tail with | .error er=>.error er | .ok (ks,r2)=>.ok (.mk 6 E0 0 nm ks,r2)):=by unfold Hid;rw [er.out,hnm];simp only [hs3,hs4,hs5,if_true,if_false,Bool.false_eq_true]
 have Ac:=ah hnm;have S3:Hid (aJ ⟨#[60]⟩ r1=false):=hs3;have S4:Hid (aJ ⟨#[40]⟩ r1=true):=hs4;have S5:Hid (aJ ⟨#[41]⟩ r1.tail=false):=hs5;have HEX:=ah HE
 have agZ:nm.size≤16:=kU hnm
 obtain ⟨i0,hi0,hz0,hz1,hz2⟩:=info_parts YS
 obtain ⟨hN,hT,hne,h7⟩:=h.ng
 obtain ⟨w0,hw0⟩:∃w0,w0=w.alloc (.cells #[.int .i64 0,.string ⟨#[]⟩,.int .i64 0,.string ⟨#[]⟩,.slice none 0 0] 24):=⟨_,rfl⟩
 have k0:Kept aF w w0:=by rw [hw0];exact (Kept.refl _ _).alloc _
 obtain ⟨M2,hM2⟩:∃M,M=w.heap.size:=⟨_,rfl⟩
 have Z0:Hid (dO M2 (.int .i64 0) (.string ⟨#[]⟩) (.int .i64 0) (.string ⟨#[]⟩) (.slice none 0 0) w0):=by rw [hw0,hM2];exact ay w _
 have R0:=ah (h.kept k0 (fun h=>h) (fun h=>h))
 have K0:Hid (Kept (· = N) w w0):=k0.more (fun _ h=>h.elim)
 have HW0:=ah hw0;have dG:=ah hM2
 clear k0 hw0 hM2 h hk hs1 hs2 hnm hs3 hs4 hs5 er HE
 go_enter Tryz.func119, Tryz.ntmps119
 go_upto_region 1 with fail
 rw [←HW0.out,←dG.out]
 go_upto_region 12 with (first
  | (go_at_call 51;(with_reducible refine (iD ⟨#[40]⟩ R0.out S1.out).mono ?_);rintro e w1 ⟨rfl,gY,eX⟩;have R1:=ah gY;have K1:Hid (Kept (· = N) w w1):=K0.out.trans eX;have Z1:=ah (Z0.out.kept eX (by have:=dG.out;omega));clear gY eX)
  | (go_at_call 51;(with_reducible refine (iD ⟨#[36]⟩ R1.out S2.out).mono ?_);rintro e w2 ⟨rfl,lg,iC⟩;have R2:=ah lg;have K2:Hid (Kept (· = N) w w2):=K1.out.trans iC;have Z2:=ah (Z1.out.kept iC (by have:=dG.out;omega));clear lg iC))
 obtain ⟨n2,a2,c2,hP⟩:=R2.out
 obtain ⟨c0,c1,cd,cf⟩:=hP.c0
 have hn:=hP.num
 rw [List.length_cons] at hn
 have h0:0<n2:=by omega
 have h1:(0:Int)<(n2:Int):=by omega
 have z:decide ((0:Int)<(n2:Int))=true:=ak h1
 have z':decide (0<n2)=true:=ak h0
 obtain ⟨o,rfl,t0,t1,t2⟩:=hP.head
 have y3:(t.kind==3)=false:=by simpa using HK.out.1
 have y2:(t.kind==2)=false:=by simpa using HK.out.2
 clear hn hP cf
 go_upto_region 22 with fail
 clear c0 c1 cd t0 t1 t2 y3 y2 z z'
 go_upto_region 23 with (go_at_call 48;(refine (iZ R2.out).mono ?_);intro e w3 iF;obtain ⟨eP,rfl,lJ⟩:=iF.ok Ac.out;have R3:=ah lJ;have K3:Hid (Kept (· = N) w w3):=K2.out.trans eP;have Z3:=ah (Z2.out.kept eP (by have:=dG.out;omega));clear eP lJ iF)
 have I4:Hid (jk N T en d M2 w3.heap.size w (.mk 3 E0 0 nm []) none 0 r1 (w3.alloc (.cells #[.int .i64 3,.string ⟨#[]⟩,.int .i64 0,.string nm,.slice none 0 0] 24))):=jk.start (w1:=w3) (p:=.mk 3 E0 0 nm []) (ka:=none) (cap:=0) (S:=aF) Z3.out K3.out R3.out (fun b hb=>hb.elim) ⟨by show E0.size<_;decide,by show nm.size<_;have:=kU Ac.out;omega,by show 0<_;decide⟩ (by show aI _ aF none [];unfold aI;trivial) hN K3.out.size Z3.out.lt
 have hsz:Hid (w.heap.size<w3.heap.size):=by have:=Z3.out.lt;have:=dG.out;unfold Hid;omega
 obtain ⟨w4,hw4⟩:∃w4,w4=w3.alloc (.cells #[.int .i64 3,.string ⟨#[]⟩,.int .i64 0,.string nm,.slice none 0 0] 24):=⟨_,rfl⟩
 obtain ⟨M5,qh⟩:∃M,M=w3.heap.size:=⟨_,rfl⟩
 rw [←hw4,←qh] at I4
 rw [←hw4,←qh]
 rw [←qh] at hsz
 have hM:Hid (N≠M2∧N≠M5∧T≠M2∧w.heap.size≤M2∧M2<M5):=by have:=dG.out;have:=hsz.out;unfold Hid;omega
 clear hw4 qh
 go_upto_region 27 with (first
  | (go_at_call 51;(with_reducible refine (iD ⟨#[60]⟩ I4.out.bY S3.out).mono ?_);rintro e w5 ⟨rfl,Eb,xM⟩;have I5:=ah (I4.out.bC hM.out.1 (by have:=hM.out;omega) xM Eb);clear Eb xM)
  | (go_at_call 51;(with_reducible refine (nX ⟨#[40]⟩ I5.out.bY S4.out).mono ?_);rintro e w6 ⟨rfl,zB,vw⟩;have I6:=ah (I5.out.bC hM.out.1 (by have:=hM.out;omega) vw zB);clear zB vw))
 obtain ⟨x0,x1,x2,x3,x4,xf⟩:=I6.out.five.cells
 have xf0:=xf 0
 clear xf
 have J7:Hid (qR N T en d M2 M5 w nm [] (.slice none 0 0) r1.tail (w6.setCell ⟨M5,0,none⟩ (.int .i64 6))):=qR.start I6.out hM.out.2.1 (by have:=hM.out;omega) (by have:=hM.out;omega) hT hN
 go_upto_region 28 with fail
 obtain ⟨w7,hw7⟩:∃w7,w7=w6.setCell ⟨M5,0,none⟩ (.int .i64 6):=⟨_,rfl⟩
 rw [←hw7] at J7
 rw [←hw7]
 clear hw7 x0 x1 x2 x3 x4 xf0
 go_upto_block 0 with (go_at_call 51;(with_reducible refine (iD ⟨#[41]⟩ J7.out.bY S5.out).mono ?_);rintro e w8 ⟨rfl,Ad,rJ⟩;have J8:=ah (J7.out.bC hM.out.1 (by have:=hM.out;omega) rJ Ad);clear Ad rJ)
 clear J7 I4 I5 I6
 go_loopg [] 9 (fun f wr=>∃(ks:List aA) (a:Option Addr) (c:Nat) (l:List aC),Hid (ks.length+f=9∧ks.length≤8)∧Hid (qR N T en d M2 M5 w nm ks (.slice a ks.length c) l wr)∧Hid (bP ex pr en (t::r)=match lD ex en f ks l with | .error er=>.error er | .ok (ks,r2)=>.ok (.mk 6 E0 0 nm ks,r2)))
 case atStart=>exact ⟨[],none,0,_,by unfold Hid;decide,J8,rY⟩
 case round =>
  obtain ⟨ks,a,c,l,hf,J,hch⟩:=hrel
  obtain ⟨x0,x1,x2,x3,x4,xf⟩:=J.out.five.cells
  have xf4:=xf 4
  clear xf
  by_cases h8:ks.length=8
  ·have z:((ks.length:Int)==8)=true:=by rw [h8];rfl
   obtain rfl:gk=1:=by have:=hf.out;omega
   have oV:Hid (bP ex pr en (t::r)=.error (5,fV en l)):=by unfold Hid;rw [hch.out,lD,if_pos h8]
   obtain ⟨n9,a9,c9,r9⟩:=J.out.bY
   have HA:=ah (pq r9)
   clear r9 h8 hf hch
   go_wp2_with (first
    | (go_at_call 54;(refine HA.out.mono ?_);rintro e w' ⟨rfl,aU⟩;obtain rfl:=aU.symm)
    | (go_at_call 53;(refine (fQ _ 5 (fV en l) wr).mono ?_);rintro e w9 ⟨rfl,rfl⟩))
   exact ⟨rfl,XQ.thrown J.out.kept (Kept.refl _ _) oV.out⟩
  ·have z:((ks.length:Int)==8)=false:=by simp;omega
   obtain ⟨g,rfl⟩:∃g,gk=g+1:=by have:=hf.out;exact ⟨gk-1,by omega⟩
   have Ec:Hid (ks.length+g=8∧ks.length<8):=by have:=hf.out;unfold Hid;omega
   have hkl:ks.length≤8:=by have:=Ec.out;omega
   have oV:Hid (bP ex pr en (t::r)=match (match ex l with | .error er=>.error er | .ok (x,r)=>if aJ (bs [41]) r=true then .ok (ks++[x],r.tail) else match eY (bs [44]) en r with | .error er=>.error er | .ok r2=>lD ex en g (ks++[x]) r2:bK (List aA)) with | .error er=>.error er | .ok (ks,r2)=>.ok (.mk 6 E0 0 nm ks,r2)):=by unfold Hid;rw [hch.out,lD,if_neg h8];rfl
   clear h8 hf hch
   have JD:=ah (J.out.bC hM.out.1 (by have:=hM.out;omega) ((Kept.refl (· = N) wr).drew) (J.out.bY.kept (Kept.refl aF wr).drew (fun h=>h) (fun h=>h)))
   go_upto_region 32 with fail
   go_cut [] (fun wx=>∃(q:aA) (r2:List aC) (a':Option Addr) (c':Nat),Hid (ex l=.ok (q,r2))∧Hid (qR N T en d M2 M5 w nm (ks++[q]) (.slice a' (ks++[q]).length c') r2 wx))
   case first =>
    go_region_law (first
     | (refine lV (w:=w9.alloc (.cells #[.int .i64 q.kind,.string q.text,.int .i64 q.n,.string q.name,.slice kc q.kids.length dR] 24)) rfl (.tmp 145) (.tmp 148) 22 22 rfl (M5+1) 24 i0 (.agg #[.int .i64 0,.string ⟨#[]⟩,.int .i64 0,.string ⟨#[]⟩,.slice none 0 0]) 5 72 Tryz.underlying22 hi0 hz0 hz1 hz2 rfl (.slice a ks.length c) ks.length cs (by simp [Act.eval]) WB.out _ 1 [.int .i64 q.kind,.string q.text,.int .i64 q.n,.string q.name,.slice kc q.kids.length dR] (by simp [Act.eval]) SR.out (by unfold maxLen;omega) (by omega) hb3 ?_;intro a4 c4 w10 Bj hg4 Bl;have Bo:=ah (LM.out a4 c4 w10 Bj hg4 (by simpa using Bl));have QS:=(HF.out w10 hg4).1;have QU:=(HF.out w10 hg4).2)
     | (go_simp;go_at_call 81;(refine (HEX.out l wr.drew JD.out.bY).mono ?_);intro e w9 h9_;rcases hu:ex l with e0|⟨q,r2⟩;(obtain ⟨Rk,rfl⟩:=h9_.bad hu;have f_:XQ N T en d (bP ex pr en (t::r)) w (.panicked [{v:=dV e0,recovered:=false}]) w9:=XQ.thrown JD.out.kept Rk (by rw [oV.out,hu]);exact ⟨rfl,f_⟩);obtain ⟨Rk,r9_,S2,kc,dR,rfl,acK,acL,acM⟩:=h9_.ok hu;have HU:=ah hu;obtain ⟨cs,S1,hw1,hr1,hS1⟩:=JD.out.own;have WB:=ah ((hw1.kept Rk (fun b hb=>by have:=(hw1.lt b hb).1;have:=hM.out;omega)).alloc (.cells #[.int .i64 q.kind,.string q.text,.int .i64 q.n,.string q.name,.slice kc q.kids.length dR] 24));have SR:Hid (Src Tryz.prog 5 22 (.slice (some ⟨w9.heap.size,0,none⟩) 1 1) 1 [.int .i64 q.kind,.string q.text,.int .i64 q.n,.string q.name,.slice kc q.kids.length dR] (w9.alloc (.cells #[.int .i64 q.kind,.string q.text,.int .i64 q.n,.string q.name,.slice kc q.kids.length dR] 24))):=Src.ofSlice _ Tryz.underlying22 _ _ _ _ rfl (World.news_of_block (fr:=(0,0)) (cs:=#[.int .i64 q.kind,.string q.text,.int .i64 q.n,.string q.name,.slice kc q.kids.length dR]) (ay w9 _)) (by intro u hu;simp at hu;rcases hu with rfl|rfl|rfl|rfl|rfl<;>rfl);have I9:=ah (JD.out.bC hM.out.1 (by have:=hM.out;omega) Rk r9_);have hb3:M5+1≤(w9.alloc (.cells #[.int .i64 q.kind,.string q.text,.int .i64 q.n,.string q.name,.slice kc q.kids.length dR] 24)).heap.size:=(by have:=I9.out.five.lt;simp;omega);obtain ⟨p0,p1,p2,p3,p4,pf⟩:=I9.out.five.cells;have Nl:(w9.alloc (.cells #[.int .i64 q.kind,.string q.text,.int .i64 q.n,.string q.name,.slice kc q.kids.length dR] 24)).cell? ⟨M5,4,none⟩=some (.slice a ks.length c):=(((Kept.refl aF w9).alloc _).cell I9.out.five.lt (fun h=>h)).trans p4;have LM:Hid (∀(a':Option Addr) (c':Nat) (w4:World),cZ w4 (M5+1) 24 5 (.slice a' (ks.length+1) c') (ks.length+1) (cs++[.int .i64 q.kind,.string q.text,.int .i64 q.n,.string q.name,.slice kc q.kids.length dR])→(w9.alloc (.cells #[.int .i64 q.kind,.string q.text,.int .i64 q.n,.string q.name,.slice kc q.kids.length dR] 24)).grownBy w4 (Value.slice a ks.length c).ownBlock→((Value.slice a' (ks.length+1) c').ownBlock=(Value.slice a ks.length c).ownBlock∨(Value.slice a' (ks.length+1) c').ownBlock=some (w9.heap.size+1))→qR N T en d M2 M5 w nm (ks++[q]) (.slice a' (ks.length+1) c') r2 (w4.setCell ⟨M5,4,none⟩ (.slice a' (ks.length+1) c'))):=(fun a' c' w4 y1 y2 y3=>JD.out.step hw1 hr1 hS1 hM.out.2.2.2.2 (by have:=hM.out;omega) hN hT (by have:=hM.out;omega) Rk r9_ acL acK acM y1 y2 y3);have HF:Hid (∀w4:World,(w9.alloc (.cells #[.int .i64 q.kind,.string q.text,.int .i64 q.n,.string q.name,.slice kc q.kids.length dR] 24)).grownBy w4 (Value.slice a ks.length c).ownBlock→w4.frozen? ⟨M5,4,none⟩=false∧w4.cell? ⟨M5,4,none⟩=some (.slice a ks.length c)):=(fun w4 hg=>by have hlt3:=I9.out.five.lt;have hx:=hg.block M5 (by simp;omega) (fun e=>by have:=(hw1.lt _ e.symm).1;omega);have hy:=I9.out.five;unfold dO at hy;exact ⟨by simp [World.frozen?,hx,Below.heap_alloc _ _ _ hlt3,hy],by simp [World.cell?,hx,Below.heap_alloc _ _ _ hlt3,hy]⟩);clear Rk r9_ acK acL acM h9_ hw1 hr1 hS1 hu))
    all_goals
     go_wp2_with fail
     go_meet
     exact ⟨q,r2,a4,c4,HU,by rw [List.length_append];exact Bo⟩
   case rest =>
    obtain ⟨q,r2,a5,c5,HU,J9⟩:=hcut
    obtain ⟨Ed,Ti⟩:∃k2,k2=ks++[q]:=⟨_,rfl⟩
    have HKL:Hid (Ed.length=ks.length+1):=by unfold Hid;rw [Ti,List.length_append];rfl
    rw [←Ti] at J9
    have zC:Hid (bP ex pr en (t::r)=match (if aJ (bs [41]) r2=true then .ok (Ed,r2.tail) else match eY (bs [44]) en r2 with | .error er=>.error er | .ok r2=>lD ex en g (Ed) r2:bK (List aA)) with | .error er=>.error er | .ok (ks,r2)=>.ok (.mk 6 E0 0 nm ks,r2)):=by unfold Hid;rw [oV.out,HU.out,Ti]
    clear Ti
    cases hs:aJ ⟨#[41]⟩ r2 with
    | true =>
     have VG:Hid (bP ex pr en (t::r)=.ok (.mk 6 E0 0 nm (Ed),r2.tail)):=by unfold Hid;rw [zC.out,show aJ (bs [41]) r2=true from hs];rfl
     go_upto_region 34 with (go_at_call 51;(with_reducible refine (nX ⟨#[41]⟩ J9.out.bY hs).mono ?_);rintro e w10 ⟨rfl,rZ,su⟩;have NU:=ah (J9.out.bC hM.out.1 (by have:=hM.out;omega) su rZ);clear rZ su)
     have I10:Hid (jk N T en d M2 M5 w (.mk 6 E0 0 nm (Ed)) a5 c5 r2.tail w10):=qR.done NU.out hM.out.2.2.2.2 (by have:=hM.out;omega) hN (by have:=Ec.out;have:=HKL.out;omega)
     obtain ⟨x0,x1,x2,x3,x4,_⟩:=I10.out.five.cells
     obtain ⟨z0,z1,z2,z3,z4,zf⟩:=I10.out.zero.cells
     have xP:=zf 0;have xQ:=zf 1;have xR:=zf 2;have yA:=zf 3;have yB:=zf 4
     clear zf
     go_wp2_with fail
     exact kR 2 rfl rfl (I10.out.zero.bI _ _ _ _ _) (I10.out.fin hM.out.1 hM.out.2.2.1 hM.out.2.2.2.1 hN VG.out)
    | false =>
     cases hv:eY (bs [44]) en r2 with
     | error e0 =>
      have VG:Hid (bP ex pr en (t::r)=.error e0):=by unfold Hid;rw [zC.out,show aJ (bs [41]) r2=false from hs];simp only [hv,if_false,Bool.false_eq_true]
      go_wp2_with (first
       | (go_at_call 51;(with_reducible refine (iD ⟨#[41]⟩ J9.out.bY hs).mono ?_);rintro e w10 ⟨rfl,rZ,su⟩;have NU:=ah (J9.out.bC hM.out.1 (by have:=hM.out;omega) su rZ);clear rZ su)
       | (go_at_call 79;(refine (mJ (bs [44]) NU.out.bY).mono ?_);intro e FT NV;obtain ⟨NW,rfl⟩:=NV.bad hv;have K11:=ah NW;clear NW NV))
      exact ⟨rfl,XQ.thrown NU.out.kept K11.out VG.out⟩
     | ok r3 =>
      have VG:Hid (bP ex pr en (t::r)=match lD ex en g (Ed) r3 with | .error er=>.error er | .ok (ks,r2)=>.ok (.mk 6 E0 0 nm ks,r2)):=by unfold Hid;rw [zC.out,show aJ (bs [41]) r2=false from hs];simp only [hv,if_false,Bool.false_eq_true]
      go_wp2_with (first
       | (go_at_call 51;(with_reducible refine (iD ⟨#[41]⟩ J9.out.bY hs).mono ?_);rintro e w10 ⟨rfl,rZ,su⟩;have NU:=ah (J9.out.bC hM.out.1 (by have:=hM.out;omega) su rZ);clear rZ su)
       | (go_at_call 79;(refine (mJ (bs [44]) NU.out.bY).mono ?_);intro e FT NV;obtain ⟨NW,rfl,acN⟩:=NV.ok hv;have J11:=ah (NU.out.bC hM.out.1 (by have:=hM.out;omega) NW acN);clear NW acN NV))
      go_roundg g
      case measure=>omega
      case rel=>exact ⟨Ed,a5,c5,r3,by have:=Ec.out;have:=HKL.out;unfold Hid;omega,J11,VG⟩
end Go.Proofs.YtefjbnhpjdhjmaaGreatDoor
