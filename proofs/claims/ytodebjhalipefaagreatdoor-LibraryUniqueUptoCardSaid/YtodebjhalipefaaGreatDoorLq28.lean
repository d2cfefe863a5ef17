/-  -/
import Derived.Test.YtodebjhalipefaaGreatDoorLq27
namespace Go.Proofs.YtodebjhalipefaaGreatDoor
set_option linter.all false
open Go.RowKit
set_option maxRecDepth 100000
set_option maxHeartbeats 8000000
theorem abm:(Tryz.prog.info? 64).map (fun i=>(i.zero,i.size,i.bytes))=some (some (.agg #[.int .i64 0,.string ⟨#[]⟩,.int .i64 0,.string ⟨#[]⟩,.slice none 0 0]),5,72):=by kernel_rfl
theorem QF {N T en d:Nat} {ex pr:List aC→aZ aB} {t:aC} {r:List aC} {w:World} (h:bV N T en (t::r) d w) (hk:t.kind≠3∧t.kind≠2) (hs1:aG (bs [40]) (t::r)=false) (hs2:aG (bs [36]) (t::r)=false) {nm:aj} {r1:List aC} (hnm:dL en (t::r)=.ok (nm,r1)) (hs3:aG (bs [60]) r1=false) (hs4:aG (bs [40]) r1=true) (hs5:aG (bs [41]) r1.tail=true):Calls Tryz.prog 250 #[.pointer (some ⟨N,0,none⟩)] w (XQ N T en d (bg ex pr en (t::r)) w):=by
 have er:Hid (bg ex pr en (t::r)=match dL en (t::r) with
    | .error er=>.error er
    | .ok (nm,r) =>
     if aG (bs [60]) r=true then
      match ex r.tail with
      | .error er=>.error er
      | .ok (x,r2)=>match dW (bs [62]) en r2 with
       | .error er=>.error er
       | .ok r3=>.ok (.mk 4 E0 0 nm [x],r3)
     else if aG (bs [40]) r=true then
      if aG (bs [41]) r.tail=true then .ok (.mk 6 E0 0 nm [],r.tail.tail)
      else match lg ex en 9 [] r.tail with
       | .error er=>.error er
       | .ok (ks,r2)=>.ok (.mk 6 E0 0 nm ks,r2)
     else .ok (.mk 3 E0 0 nm [],r)):=by unfold Hid bg;rw [hs1,hs2];simp only [dZ,hk.1,hk.2,if_false,Bool.false_eq_true];rfl
 have S1:Hid (aG ⟨#[40]⟩ (t::r)=false):=hs1;have S2:Hid (aG ⟨#[36]⟩ (t::r)=false):=hs2;have HK:=ah hk
 have pJ:Hid (bg ex pr en (t::r)=.ok (.mk 6 E0 0 nm [],r1.tail.tail)):=by unfold Hid;rw [er.out,hnm];simp only [hs3,hs4,hs5,if_true,if_false,Bool.false_eq_true]
 have yG:=ah hnm;have S3:Hid (aG ⟨#[60]⟩ r1=false):=hs3;have S4:Hid (aG ⟨#[40]⟩ r1=true):=hs4;have S5:Hid (aG ⟨#[41]⟩ r1.tail=true):=hs5
 obtain ⟨hN,hT,hne,h7⟩:=h.jm
 obtain ⟨w0,hw0⟩:∃w0,w0=w.alloc (.cells #[.int .i64 0,.string ⟨#[]⟩,.int .i64 0,.string ⟨#[]⟩,.slice none 0 0] 64):=⟨_,rfl⟩
 have k0:Kept aA w w0:=by rw [hw0];exact (Kept.refl _ _).alloc _
 obtain ⟨M2,hM2⟩:∃M,M=w.heap.size:=⟨_,rfl⟩
 have Z0:Hid (dR M2 (.int .i64 0) (.string ⟨#[]⟩) (.int .i64 0) (.string ⟨#[]⟩) (.slice none 0 0) w0):=by rw [hw0,hM2];exact ay w _
 have R0:=ah (h.kept k0 (fun h=>h) (fun h=>h))
 have K0:Hid (Kept (· = N) w w0):=k0.more (fun _ h=>h.elim)
 have HW0:=ah hw0;have bC:=ah hM2
 clear k0 hw0 hM2 h hk hs1 hs2 hnm hs3 hs4 hs5 er
 go_enter Tryz.func250, Tryz.ntmps250
 go_upto_region 1 with fail
 rw [←HW0.out,←bC.out]
 go_upto_region 12 with (first
  | (go_at_call 68;(with_reducible refine (dX ⟨#[40]⟩ R0.out S1.out).mono ?_);rintro e w1 ⟨rfl,dV,bF⟩;have R1:=ah dV;have K1:Hid (Kept (· = N) w w1):=K0.out.trans bF;have Z1:=ah (Z0.out.kept bF (by have:=bC.out;omega));clear dV bF)
  | (go_at_call 68;(with_reducible refine (dX ⟨#[36]⟩ R1.out S2.out).mono ?_);rintro e w2 ⟨rfl,iI,bQ⟩;have R2:=ah iI;have K2:Hid (Kept (· = N) w w2):=K1.out.trans bQ;have Z2:=ah (Z1.out.kept bQ (by have:=bC.out;omega));clear iI bQ))
 obtain ⟨n2,a2,c2,hP⟩:=R2.out
 obtain ⟨c0,c1,cd,cf⟩:=hP.c0
 have hn:=hP.num
 rw [List.length_cons] at hn
 have h0:0<n2:=by omega
 have h1:(0:Int)<(n2:Int):=by omega
 have z:decide ((0:Int)<(n2:Int))=true:=ak h1
 have z':decide (0<n2)=true:=ak h0
 obtain ⟨o,rfl,t0,t1,t2⟩:=hP.head
 have y3:(t.kind==3)=false:=by simpa using HK.out.1
 have y2:(t.kind==2)=false:=by simpa using HK.out.2
 clear hn hP cf
 go_upto_region 22 with fail
 clear c0 c1 cd t0 t1 t2 y3 y2 z z'
 go_upto_region 23 with (go_at_call 65;(refine (fB R2.out).mono ?_);intro e w3 eu;obtain ⟨bD,rfl,iL⟩:=eu.ok yG.out;have R3:=ah iL;have K3:Hid (Kept (· = N) w w3):=K2.out.trans bD;have Z3:=ah (Z2.out.kept bD (by have:=bC.out;omega));clear bD iL eu)
 have I4:Hid (fO N T en d M2 w3.heap.size w (.mk 3 E0 0 nm []) none 0 r1 (w3.alloc (.cells #[.int .i64 3,.string ⟨#[]⟩,.int .i64 0,.string nm,.slice none 0 0] 64))):=fO.start (w1:=w3) (p:=.mk 3 E0 0 nm []) (ka:=none) (cap:=0) (S:=aA) Z3.out K3.out R3.out (fun b hb=>hb.elim) ⟨by show E0.size<_;decide,by show nm.size<_;have:=iF yG.out;omega,by show 0<_;decide⟩ (by show aN _ aA none [];unfold aN;trivial) hN K3.out.size Z3.out.lt
 have hsz:Hid (w.heap.size<w3.heap.size):=by have:=Z3.out.lt;have:=bC.out;unfold Hid;omega
 obtain ⟨w4,hw4⟩:∃w4,w4=w3.alloc (.cells #[.int .i64 3,.string ⟨#[]⟩,.int .i64 0,.string nm,.slice none 0 0] 64):=⟨_,rfl⟩
 obtain ⟨M5,lM⟩:∃M,M=w3.heap.size:=⟨_,rfl⟩
 rw [←hw4,←lM] at I4
 rw [←hw4,←lM]
 rw [←lM] at hsz
 have hM:Hid (N≠M2∧N≠M5∧T≠M2∧w.heap.size≤M2∧M2<M5):=by have:=bC.out;have:=hsz.out;unfold Hid;omega
 clear hw4 lM
 go_upto_region 27 with (first
  | (go_at_call 68;(with_reducible refine (dX ⟨#[60]⟩ I4.out.bH S3.out).mono ?_);rintro e w5 ⟨rfl,Dw,vC⟩;have I5:=ah (I4.out.aQ hM.out.1 (by have:=hM.out;omega) vC Dw);clear Dw vC)
  | (go_at_call 68;(with_reducible refine (jB ⟨#[40]⟩ I5.out.bH S4.out).mono ?_);rintro e w6 ⟨rfl,xC,mg⟩;have I6:=ah (I5.out.aQ hM.out.1 (by have:=hM.out;omega) mg xC);clear xC mg))
 obtain ⟨x0,x1,x2,x3,x4,xf⟩:=I6.out.five.cells
 have xf0:=xf 0
 clear xf
 have J7:Hid (ni N T en d M2 M5 w nm [] (.slice none 0 0) r1.tail (w6.setCell ⟨M5,0,none⟩ (.int .i64 6))):=ni.start I6.out hM.out.2.1 (by have:=hM.out;omega) (by have:=hM.out;omega) hT hN
 go_upto_region 28 with fail
 obtain ⟨w7,hw7⟩:∃w7,w7=w6.setCell ⟨M5,0,none⟩ (.int .i64 6):=⟨_,rfl⟩
 rw [←hw7] at J7
 rw [←hw7]
 clear hw7 x0 x1 x2 x3 x4 xf0
 go_upto_region 29 with (go_at_call 68;(with_reducible refine (jB ⟨#[41]⟩ J7.out.bH S5.out).mono ?_);rintro e w8 ⟨rfl,yI,oO⟩;have J8:=ah (J7.out.aQ hM.out.1 (by have:=hM.out;omega) oO yI);clear yI oO)
 have I8:Hid (fO N T en d M2 M5 w (.mk 6 E0 0 nm []) none 0 r1.tail.tail w8):=ni.done (ks:=[]) J8.out hM.out.2.2.2.2 (by have:=hM.out;omega) hN (by decide)
 obtain ⟨x0,x1,x2,x3,x4,_⟩:=I8.out.five.cells
 obtain ⟨z0,z1,z2,z3,z4,zf⟩:=I8.out.zero.cells
 have vY:=zf 0;have vZ:=zf 1;have wo:=zf 2;have xA:=zf 3;have xB:=zf 4
 clear zf
 go_wp2_with fail
 exact iw 2 rfl rfl (I8.out.zero.eY _ _ _ _ _) (I8.out.fin hM.out.1 hM.out.2.2.1 hM.out.2.2.2.1 hN pJ.out)
theorem Vm {N T en d:Nat} {ex pr:List aC→aZ aB} {t:aC} {r:List aC} {w:World} (h:bV N T en (t::r) d w) (hk:t.kind≠3∧t.kind≠2) (hs1:aG (bs [40]) (t::r)=false) (hs2:aG (bs [36]) (t::r)=false) {nm:aj} {r1:List aC} (hnm:dL en (t::r)=.ok (nm,r1)) (hs3:aG (bs [60]) r1=false) (hs4:aG (bs [40]) r1=true) (HE:FU N T en d ex) (hs5:aG (bs [41]) r1.tail=false):Calls Tryz.prog 250 #[.pointer (some ⟨N,0,none⟩)] w (XQ N T en d (bg ex pr en (t::r)) w):=by
 have er:Hid (bg ex pr en (t::r)=match dL en (t::r) with
    | .error er=>.error er
    | .ok (nm,r) =>
     if aG (bs [60]) r=true then
      match ex r.tail with
      | .error er=>.error er
      | .ok (x,r2)=>match dW (bs [62]) en r2 with
       | .error er=>.error er
       | .ok r3=>.ok (.mk 4 E0 0 nm [x],r3)
     else if aG (bs [40]) r=true then
      if aG (bs [41]) r.tail=true then .ok (.mk 6 E0 0 nm [],r.tail.tail)
      else match lg ex en 9 [] r.tail with
       | .error er=>.error er
       | .ok (ks,r2)=>.ok (.mk 6 E0 0 nm ks,r2)
     else .ok (.mk 3 E0 0 nm [],r)):=by unfold Hid bg;rw [hs1,hs2];simp only [dZ,hk.1,hk.2,if_false,Bool.false_eq_true];rfl
 have S1:Hid (aG ⟨#[40]⟩ (t::r)=false):=hs1;have S2:Hid (aG ⟨#[36]⟩ (t::r)=false):=hs2;have HK:=ah hk
 have pJ:Hid (bg ex pr en (t::r)=match lg ex en 9 [] r1.tail with | .error er=>.error er | .ok (ks,r2)=>.ok (.mk 6 E0 0 nm ks,r2)):=by unfold Hid;rw [er.out,hnm];simp only [hs3,hs4,hs5,if_true,if_false,Bool.false_eq_true]
 have yG:=ah hnm;have S3:Hid (aG ⟨#[60]⟩ r1=false):=hs3;have S4:Hid (aG ⟨#[40]⟩ r1=true):=hs4;have S5:Hid (aG ⟨#[41]⟩ r1.tail=false):=hs5;have HEX:=ah HE
 have ak2:nm.size≤16:=iF hnm
 obtain ⟨i0,hi0,hz0,hz1,hz2⟩:=info_parts abm
 obtain ⟨hN,hT,hne,h7⟩:=h.jm
 obtain ⟨w0,hw0⟩:∃w0,w0=w.alloc (.cells #[.int .i64 0,.string ⟨#[]⟩,.int .i64 0,.string ⟨#[]⟩,.slice none 0 0] 64):=⟨_,rfl⟩
 have k0:Kept aA w w0:=by rw [hw0];exact (Kept.refl _ _).alloc _
 obtain ⟨M2,hM2⟩:∃M,M=w.heap.size:=⟨_,rfl⟩
 have Z0:Hid (dR M2 (.int .i64 0) (.string ⟨#[]⟩) (.int .i64 0) (.string ⟨#[]⟩) (.slice none 0 0) w0):=by rw [hw0,hM2];exact ay w _
 have R0:=ah (h.kept k0 (fun h=>h) (fun h=>h))
 have K0:Hid (Kept (· = N) w w0):=k0.more (fun _ h=>h.elim)
 have HW0:=ah hw0;have bC:=ah hM2
 clear k0 hw0 hM2 h hk hs1 hs2 hnm hs3 hs4 hs5 er HE
 go_enter Tryz.func250, Tryz.ntmps250
 go_upto_region 1 with fail
 rw [←HW0.out,←bC.out]
 go_upto_region 12 with (first
  | (go_at_call 68;(with_reducible refine (dX ⟨#[40]⟩ R0.out S1.out).mono ?_);rintro e w1 ⟨rfl,dV,bF⟩;have R1:=ah dV;have K1:Hid (Kept (· = N) w w1):=K0.out.trans bF;have Z1:=ah (Z0.out.kept bF (by have:=bC.out;omega));clear dV bF)
  | (go_at_call 68;(with_reducible refine (dX ⟨#[36]⟩ R1.out S2.out).mono ?_);rintro e w2 ⟨rfl,iI,bQ⟩;have R2:=ah iI;have K2:Hid (Kept (· = N) w w2):=K1.out.trans bQ;have Z2:=ah (Z1.out.kept bQ (by have:=bC.out;omega));clear iI bQ))
 obtain ⟨n2,a2,c2,hP⟩:=R2.out
 obtain ⟨c0,c1,cd,cf⟩:=hP.c0
 have hn:=hP.num
 rw [List.length_cons] at hn
 have h0:0<n2:=by omega
 have h1:(0:Int)<(n2:Int):=by omega
 have z:decide ((0:Int)<(n2:Int))=true:=ak h1
 have z':decide (0<n2)=true:=ak h0
 obtain ⟨o,rfl,t0,t1,t2⟩:=hP.head
 have y3:(t.kind==3)=false:=by simpa using HK.out.1
 have y2:(t.kind==2)=false:=by simpa using HK.out.2
 clear hn hP cf
 go_upto_region 22 with fail
 clear c0 c1 cd t0 t1 t2 y3 y2 z z'
 go_upto_region 23 with (go_at_call 65;(refine (fB R2.out).mono ?_);intro e w3 eu;obtain ⟨bD,rfl,iL⟩:=eu.ok yG.out;have R3:=ah iL;have K3:Hid (Kept (· = N) w w3):=K2.out.trans bD;have Z3:=ah (Z2.out.kept bD (by have:=bC.out;omega));clear bD iL eu)
 have I4:Hid (fO N T en d M2 w3.heap.size w (.mk 3 E0 0 nm []) none 0 r1 (w3.alloc (.cells #[.int .i64 3,.string ⟨#[]⟩,.int .i64 0,.string nm,.slice none 0 0] 64))):=fO.start (w1:=w3) (p:=.mk 3 E0 0 nm []) (ka:=none) (cap:=0) (S:=aA) Z3.out K3.out R3.out (fun b hb=>hb.elim) ⟨by show E0.size<_;decide,by show nm.size<_;have:=iF yG.out;omega,by show 0<_;decide⟩ (by show aN _ aA none [];unfold aN;trivial) hN K3.out.size Z3.out.lt
 have hsz:Hid (w.heap.size<w3.heap.size):=by have:=Z3.out.lt;have:=bC.out;unfold Hid;omega
 obtain ⟨w4,hw4⟩:∃w4,w4=w3.alloc (.cells #[.int .i64 3,.string ⟨#[]⟩,.int .i64 0,.string nm,.slice none 0 0] 64):=⟨_,rfl⟩
 obtain ⟨M5,lM⟩:∃M,M=w3.heap.size:=⟨_,rfl⟩
 rw [←hw4,←lM] at I4
 rw [←hw4,←lM]
 rw [←lM] at hsz
 have hM:Hid (N≠M2∧N≠M5∧T≠M2∧w.heap.size≤M2∧M2<M5):=by have:=bC.out;have:=hsz.out;unfold Hid;omega
 clear hw4 lM
 go_upto_region 27 with (first
  | (go_at_call 68;(with_reducible refine (dX ⟨#[60]⟩ I4.out.bH S3.out).mono ?_);rintro e w5 ⟨rfl,Dw,vC⟩;have I5:=ah (I4.out.aQ hM.out.1 (by have:=hM.out;omega) vC Dw);clear Dw vC)
  | (go_at_call 68;(with_reducible refine (jB ⟨#[40]⟩ I5.out.bH S4.out).mono ?_);rintro e w6 ⟨rfl,xC,mg⟩;have I6:=ah (I5.out.aQ hM.out.1 (by have:=hM.out;omega) mg xC);clear xC mg))
 obtain ⟨x0,x1,x2,x3,x4,xf⟩:=I6.out.five.cells
 have xf0:=xf 0
 clear xf
 have J7:Hid (ni N T en d M2 M5 w nm [] (.slice none 0 0) r1.tail (w6.setCell ⟨M5,0,none⟩ (.int .i64 6))):=ni.start I6.out hM.out.2.1 (by have:=hM.out;omega) (by have:=hM.out;omega) hT hN
 go_upto_region 28 with fail
 obtain ⟨w7,hw7⟩:∃w7,w7=w6.setCell ⟨M5,0,none⟩ (.int .i64 6):=⟨_,rfl⟩
 rw [←hw7] at J7
 rw [←hw7]
 clear hw7 x0 x1 x2 x3 x4 xf0
 go_upto_block 0 with (go_at_call 68;(with_reducible refine (dX ⟨#[41]⟩ J7.out.bH S5.out).mono ?_);rintro e w8 ⟨rfl,yI,oO⟩;have J8:=ah (J7.out.aQ hM.out.1 (by have:=hM.out;omega) oO yI);clear yI oO)
 clear J7 I4 I5 I6
 go_loopg [] 9 (fun f wr=>∃(ks:List aB) (a:Option Addr) (c:Nat) (l:List aC),Hid (ks.length+f=9∧ks.length≤8)∧Hid (ni N T en d M2 M5 w nm ks (.slice a ks.length c) l wr)∧Hid (bg ex pr en (t::r)=match lg ex en f ks l with | .error er=>.error er | .ok (ks,r2)=>.ok (.mk 6 E0 0 nm ks,r2)))
 case atStart=>exact ⟨[],none,0,_,by unfold Hid;decide,J8,pJ⟩
 case round =>
  obtain ⟨ks,a,c,l,hf,J,hch⟩:=hrel
  obtain ⟨x0,x1,x2,x3,x4,xf⟩:=J.out.five.cells
  have xf4:=xf 4
  clear xf
  by_cases h8:ks.length=8
  ·have z:((ks.length:Int)==8)=true:=by rw [h8];rfl
   obtain rfl:gk=1:=by have:=hf.out;omega
   have jY:Hid (bg ex pr en (t::r)=.error (5,dJ en l)):=by unfold Hid;rw [hch.out,lg,if_pos h8]
   obtain ⟨n9,a9,c9,r9⟩:=J.out.bH
   have HA:=ah (kU r9)
   clear r9 h8 hf hch
   go_wp2_with (first
    | (go_at_call 71;(refine HA.out.mono ?_);rintro e w' ⟨rfl,aH⟩;obtain rfl:=aH.symm)
    | (go_at_call 70;(refine (dD _ 5 (dJ en l) wr).mono ?_);rintro e w9 ⟨rfl,rfl⟩))
   exact ⟨rfl,XQ.thrown J.out.kept (Kept.refl _ _) jY.out⟩
  ·have z:((ks.length:Int)==8)=false:=by simp;omega
   obtain ⟨g,rfl⟩:∃g,gk=g+1:=by have:=hf.out;exact ⟨gk-1,by omega⟩
   have Hu:Hid (ks.length+g=8∧ks.length<8):=by have:=hf.out;unfold Hid;omega
   have hkl:ks.length≤8:=by have:=Hu.out;omega
   have jY:Hid (bg ex pr en (t::r)=match (match ex l with | .error er=>.error er | .ok (x,r)=>if aG (bs [41]) r=true then .ok (ks++[x],r.tail) else match dW (bs [44]) en r with | .error er=>.error er | .ok r2=>lg ex en g (ks++[x]) r2:aZ (List aB)) with | .error er=>.error er | .ok (ks,r2)=>.ok (.mk 6 E0 0 nm ks,r2)):=by unfold Hid;rw [hch.out,lg,if_neg h8];rfl
   clear h8 hf hch
   have JD:=ah (J.out.aQ hM.out.1 (by have:=hM.out;omega) ((Kept.refl (· = N) wr).drew) (J.out.bH.kept (Kept.refl aA wr).drew (fun h=>h) (fun h=>h)))
   go_upto_region 32 with fail
   go_cut [] (fun wx=>∃(q:aB) (r2:List aC) (a':Option Addr) (c':Nat),Hid (ex l=.ok (q,r2))∧Hid (ni N T en d M2 M5 w nm (ks++[q]) (.slice a' (ks++[q]).length c') r2 wx))
   case first =>
    go_region_law (first
     | (refine x9 (w:=w9.alloc (.cells #[.int .i64 q.kind,.string q.text,.int .i64 q.n,.string q.name,.slice kc q.kids.length qw] 64)) rfl (.tmp 145) (.tmp 148) 62 62 rfl (M5+1) 64 i0 (.agg #[.int .i64 0,.string ⟨#[]⟩,.int .i64 0,.string ⟨#[]⟩,.slice none 0 0]) 5 72 Tryz.underlying62 hi0 hz0 hz1 hz2 rfl (.slice a ks.length c) ks.length cs (by simp [Act.eval]) WB.out _ 1 [.int .i64 q.kind,.string q.text,.int .i64 q.n,.string q.name,.slice kc q.kids.length qw] (by simp [Act.eval]) SR.out (by unfold maxLen;omega) (by omega) hb3 ?_;intro a4 c4 w10 Ej hg4 Gs;have LM4:=ah (LM.out a4 c4 w10 Ej hg4 (by simpa using Gs));have of4:=(HF.out w10 hg4).1;have oc4:=(HF.out w10 hg4).2)
     | (go_simp;go_at_call 105;(refine (HEX.out l wr.drew JD.out.bH).mono ?_);intro e w9 h9_;rcases hu:ex l with e0|⟨q,r2⟩;(obtain ⟨G9,rfl⟩:=h9_.bad hu;have f_:XQ N T en d (bg ex pr en (t::r)) w (.panicked [{v:=bI e0,recovered:=false}]) w9:=XQ.thrown JD.out.kept G9 (by rw [jY.out,hu]);exact ⟨rfl,f_⟩);obtain ⟨G9,r9_,S2,kc,qw,rfl,aft,afu,afv⟩:=h9_.ok hu;have HU:=ah hu;obtain ⟨cs,S1,hw1,hr1,hS1⟩:=JD.out.own;have WB:=ah ((hw1.kept G9 (fun b hb=>by have:=(hw1.lt b hb).1;have:=hM.out;omega)).alloc (.cells #[.int .i64 q.kind,.string q.text,.int .i64 q.n,.string q.name,.slice kc q.kids.length qw] 64));have SR:Hid (Src Tryz.prog 5 62 (.slice (some ⟨w9.heap.size,0,none⟩) 1 1) 1 [.int .i64 q.kind,.string q.text,.int .i64 q.n,.string q.name,.slice kc q.kids.length qw] (w9.alloc (.cells #[.int .i64 q.kind,.string q.text,.int .i64 q.n,.string q.name,.slice kc q.kids.length qw] 64))):=Src.ofSlice _ Tryz.underlying62 _ _ _ _ rfl (World.news_of_block (fr:=(0,0)) (cs:=#[.int .i64 q.kind,.string q.text,.int .i64 q.n,.string q.name,.slice kc q.kids.length qw]) (ay w9 _)) (by intro u hu;simp at hu;rcases hu with rfl|rfl|rfl|rfl|rfl<;>rfl);have I9:=ah (JD.out.aQ hM.out.1 (by have:=hM.out;omega) G9 r9_);have hb3:M5+1≤(w9.alloc (.cells #[.int .i64 q.kind,.string q.text,.int .i64 q.n,.string q.name,.slice kc q.kids.length qw] 64)).heap.size:=(by have:=I9.out.five.lt;simp;omega);obtain ⟨p0,p1,p2,p3,p4,pf⟩:=I9.out.five.cells;have p4':(w9.alloc (.cells #[.int .i64 q.kind,.string q.text,.int .i64 q.n,.string q.name,.slice kc q.kids.length qw] 64)).cell? ⟨M5,4,none⟩=some (.slice a ks.length c):=(((Kept.refl aA w9).alloc _).cell I9.out.five.lt (fun h=>h)).trans p4;have LM:Hid (∀(a':Option Addr) (c':Nat) (w4:World),aP w4 (M5+1) 64 5 (.slice a' (ks.length+1) c') (ks.length+1) (cs++[.int .i64 q.kind,.string q.text,.int .i64 q.n,.string q.name,.slice kc q.kids.length qw])→(w9.alloc (.cells #[.int .i64 q.kind,.string q.text,.int .i64 q.n,.string q.name,.slice kc q.kids.length qw] 64)).grownBy w4 (Value.slice a ks.length c).ownBlock→((Value.slice a' (ks.length+1) c').ownBlock=(Value.slice a ks.length c).ownBlock∨(Value.slice a' (ks.length+1) c').ownBlock=some (w9.heap.size+1))→ni N T en d M2 M5 w nm (ks++[q]) (.slice a' (ks.length+1) c') r2 (w4.setCell ⟨M5,4,none⟩ (.slice a' (ks.length+1) c'))):=(fun a' c' w4 y1 y2 y3=>JD.out.step hw1 hr1 hS1 hM.out.2.2.2.2 (by have:=hM.out;omega) hN hT (by have:=hM.out;omega) G9 r9_ afu aft afv y1 y2 y3);have HF:Hid (∀w4:World,(w9.alloc (.cells #[.int .i64 q.kind,.string q.text,.int .i64 q.n,.string q.name,.slice kc q.kids.length qw] 64)).grownBy w4 (Value.slice a ks.length c).ownBlock→w4.frozen? ⟨M5,4,none⟩=false∧w4.cell? ⟨M5,4,none⟩=some (.slice a ks.length c)):=(fun w4 hg=>by have hlt3:=I9.out.five.lt;have hx:=hg.block M5 (by simp;omega) (fun e=>by have:=(hw1.lt _ e.symm).1;omega);have hy:=I9.out.five;unfold dR at hy;exact ⟨by simp [World.frozen?,hx,Below.heap_alloc _ _ _ hlt3,hy],by simp [World.cell?,hx,Below.heap_alloc _ _ _ hlt3,hy]⟩);clear G9 r9_ aft afu afv h9_ hw1 hr1 hS1 hu))
    all_goals
     go_wp2_with fail
     go_meet
     exact ⟨q,r2,a4,c4,HU,by rw [List.length_append];exact LM4⟩
   case rest =>
    obtain ⟨q,r2,a5,c5,HU,J9⟩:=hcut
    obtain ⟨Dx,Vo⟩:∃k2,k2=ks++[q]:=⟨_,rfl⟩
    have Ri:Hid (Dx.length=ks.length+1):=by unfold Hid;rw [Vo,List.length_append];rfl
    rw [←Vo] at J9
    have xE:Hid (bg ex pr en (t::r)=match (if aG (bs [41]) r2=true then .ok (Dx,r2.tail) else match dW (bs [44]) en r2 with | .error er=>.error er | .ok r2=>lg ex en g (Dx) r2:aZ (List aB)) with | .error er=>.error er | .ok (ks,r2)=>.ok (.mk 6 E0 0 nm ks,r2)):=by unfold Hid;rw [jY.out,HU.out,Vo]
    clear Vo
    cases hs:aG ⟨#[41]⟩ r2 with
    | true =>
     have YF:Hid (bg ex pr en (t::r)=.ok (.mk 6 E0 0 nm (Dx),r2.tail)):=by unfold Hid;rw [xE.out,show aG (bs [41]) r2=true from hs];rfl
     go_upto_region 34 with (go_at_call 68;(with_reducible refine (jB ⟨#[41]⟩ J9.out.bH hs).mono ?_);rintro e w10 ⟨rfl,pK,pO⟩;have O1:=ah (J9.out.aQ hM.out.1 (by have:=hM.out;omega) pO pK);clear pK pO)
     have I10:Hid (fO N T en d M2 M5 w (.mk 6 E0 0 nm (Dx)) a5 c5 r2.tail w10):=ni.done O1.out hM.out.2.2.2.2 (by have:=hM.out;omega) hN (by have:=Hu.out;have:=Ri.out;omega)
     obtain ⟨x0,x1,x2,x3,x4,_⟩:=I10.out.five.cells
     obtain ⟨z0,z1,z2,z3,z4,zf⟩:=I10.out.zero.cells
     have vY:=zf 0;have vZ:=zf 1;have wo:=zf 2;have xA:=zf 3;have xB:=zf 4
     clear zf
     go_wp2_with fail
     exact iw 2 rfl rfl (I10.out.zero.eY _ _ _ _ _) (I10.out.fin hM.out.1 hM.out.2.2.1 hM.out.2.2.2.1 hN YF.out)
    | false =>
     cases hv:dW (bs [44]) en r2 with
     | error e0 =>
      have YF:Hid (bg ex pr en (t::r)=.error e0):=by unfold Hid;rw [xE.out,show aG (bs [41]) r2=false from hs];simp only [hv,if_false,Bool.false_eq_true]
      go_wp2_with (first
       | (go_at_call 68;(with_reducible refine (dX ⟨#[41]⟩ J9.out.bH hs).mono ?_);rintro e w10 ⟨rfl,pK,pO⟩;have O1:=ah (J9.out.aQ hM.out.1 (by have:=hM.out;omega) pO pK);clear pK pO)
       | (go_at_call 103;(refine (jd (bs [44]) O1.out.bH).mono ?_);intro e w11 Pe;obtain ⟨Pg,rfl⟩:=Pe.bad hv;have K11:=ah Pg;clear Pg Pe))
      exact ⟨rfl,XQ.thrown O1.out.kept K11.out YF.out⟩
     | ok r3 =>
      have YF:Hid (bg ex pr en (t::r)=match lg ex en g (Dx) r3 with | .error er=>.error er | .ok (ks,r2)=>.ok (.mk 6 E0 0 nm ks,r2)):=by unfold Hid;rw [xE.out,show aG (bs [41]) r2=false from hs];simp only [hv,if_false,Bool.false_eq_true]
      go_wp2_with (first
       | (go_at_call 68;(with_reducible refine (dX ⟨#[41]⟩ J9.out.bH hs).mono ?_);rintro e w10 ⟨rfl,pK,pO⟩;have O1:=ah (J9.out.aQ hM.out.1 (by have:=hM.out;omega) pO pK);clear pK pO)
       | (go_at_call 103;(refine (jd (bs [44]) O1.out.bH).mono ?_);intro e w11 Pe;obtain ⟨Pg,rfl,afw⟩:=Pe.ok hv;have J11:=ah (O1.out.aQ hM.out.1 (by have:=hM.out;omega) Pg afw);clear Pg afw Pe))
      go_roundg g
      case measure=>omega
      case rel=>exact ⟨Dx,a5,c5,r3,by have:=Hu.out;have:=Ri.out;unfold Hid;omega,J11,YF⟩
end Go.Proofs.YtodebjhalipefaaGreatDoor

namespace Go.Proofs.YtodebjhalipefaaGreatDoor
set_option linter.all false
open Go.RowKit
set_option maxRecDepth 100000
set_option maxHeartbeats 8000000
theorem Kept.Ec {w w':World} (b:Below w.heap.size w w'):Kept aA w w':=⟨b.os,b.tape,b.output,b.size,fun k hk _=>b.block k hk⟩
theorem acn {x:aj} (h:0<x.size):x.data.toList.head?=some x[0]:=by
 obtain ⟨⟨l⟩⟩:=x
 cases l with
 | nil=>simp [ByteArray.size] at h
 | cons c r=>rfl
theorem YG {t:aC} {r:List aC} (h:0<t.text.size) (h1:1<t.text.size) (h2:t.text[0].toNat=48):FX t r=.error (2,t.at_):=by
 unfold FX;rw [if_pos ⟨h1,by rw [acn h];congr 1;exact UInt8.toNat_inj.1 h2⟩]
theorem KI {t:aC} {r:List aC} (h:0<t.text.size) (h1:¬(1<t.text.size∧t.text[0].toNat=48)):FX t r=if 9223372036854775807<qp t.text.data.toList then .error (3,t.at_) else .ok (.mk 2 E0 (qp t.text.data.toList) E0 [],r):=by
 unfold FX;rw [if_neg (fun ⟨a,b⟩=>h1 ⟨a,by rw [acn h] at b;simp only [Option.some.injEq] at b;rw [b];rfl⟩)]
theorem YH {N T en d:Nat} {ex pr:List aC→aZ aB} {t:aC} {r:List aC} {w:World} (h:bV N T en (t::r) d w) (hk:t.kind=2):Calls Tryz.prog 250 #[.pointer (some ⟨N,0,none⟩)] w (XQ N T en d (bg ex pr en (t::r)) w):=by
 have er:Hid (bg ex pr en (t::r)=FX t r):=by unfold Hid bg;rw [mD (by omega),mD (by omega)];simp only [dZ,hk,if_true,if_false,Bool.false_eq_true,show ¬((2:Int)=3) by decide]
 have S1:Hid (aG ⟨#[40]⟩ (t::r)=false):=mD (by omega)
 have S2:Hid (aG ⟨#[36]⟩ (t::r)=false):=mD (by omega)
 have TK:Hid (dZ 2 en (t::r)=.ok (t,r)):=AQ hk
 have HK:=ah hk
 have hgood:t.at_≤1000000∧t.text.size≤1000000∧t.kind≠4∧(t.kind=2→t.text.size≠0∧∀c∈t.text.data.toList,48≤c.toNat∧c.toNat≤57)∧(t.kind=1→t.text.size≠0):=by obtain ⟨_,_,_,h⟩:=h;exact h.good t (List.mem_cons_self ..)
 obtain ⟨_,htb,_,hdig,_⟩:=hgood
 obtain ⟨hd0,hd1⟩:=hdig hk
 have HPI:=ah (afl t.text.data.toList (fun e=>hd0 (by rw [ByteArray.size,←Array.length_toList,e];rfl)) hd1)
 have htp:0<t.text.size:=by omega
 clear hd0 hd1 hdig
 obtain ⟨hN,hT,hne,h7⟩:=h.jm
 obtain ⟨w0,hw0⟩:∃w0,w0=w.alloc (.cells #[.int .i64 0,.string ⟨#[]⟩,.int .i64 0,.string ⟨#[]⟩,.slice none 0 0] 64):=⟨_,rfl⟩
 have k0:Kept aA w w0:=by rw [hw0];exact (Kept.refl _ _).alloc _
 obtain ⟨M2,hM2⟩:∃M,M=w.heap.size:=⟨_,rfl⟩
 have Z0:Hid (dR M2 (.int .i64 0) (.string ⟨#[]⟩) (.int .i64 0) (.string ⟨#[]⟩) (.slice none 0 0) w0):=by rw [hw0,hM2];exact ay w _
 have R0:=ah (h.kept k0 (fun h=>h) (fun h=>h))
 have K0:Hid (Kept (· = N) w w0):=k0.more (fun _ h=>h.elim)
 have HW0:=ah hw0;have bC:=ah hM2
 clear k0 hw0 hM2 h hk
 go_enter Tryz.func250, Tryz.ntmps250
 go_upto_region 1 with fail
 rw [←HW0.out,←bC.out]
 go_upto_region 12 with (first
  | (go_at_call 68;(with_reducible refine (dX ⟨#[40]⟩ R0.out S1.out).mono ?_);rintro e w1 ⟨rfl,dV,bF⟩;have R1:=ah dV;have K1:Hid (Kept (· = N) w w1):=K0.out.trans bF;have Z1:=ah (Z0.out.kept bF (by have:=bC.out;omega));clear dV bF)
  | (go_at_call 68;(with_reducible refine (dX ⟨#[36]⟩ R1.out S2.out).mono ?_);rintro e w2 ⟨rfl,iI,bQ⟩;have R2:=ah iI;have K2:Hid (Kept (· = N) w w2):=K1.out.trans bQ;have Z2:=ah (Z1.out.kept bQ (by have:=bC.out;omega));clear iI bQ))
 obtain ⟨n2,a2,c2,hP⟩:=R2.out
 obtain ⟨c0,c1,cd,cf⟩:=hP.c0
 have hn:=hP.num
 rw [List.length_cons] at hn
 have h0:0<n2:=by omega
 have h1:(0:Int)<(n2:Int):=by omega
 have z:decide ((0:Int)<(n2:Int))=true:=ak h1
 have z':decide (0<n2)=true:=ak h0
 obtain ⟨o,rfl,t0,t1,t2⟩:=hP.head
 have y:(t.kind==3)=false:=by rw [HK.out];rfl
 have y2:(t.kind==2)=true:=by rw [HK.out];rfl
 clear hn hP cf
 go_upto_region 15 with fail
 clear c0 c1 cd t0 t1 t2 y y2 z z'
 go_upto_region 16 with (go_at_call 101;(refine (rU 2 R2.out).mono ?_);intro e w3 eu;obtain ⟨bD,Dv,iL⟩:=eu.ok TK.out;unfold EI at Dv;subst Dv;have R3:=ah iL;have K3:Hid (Kept (· = N) w w3):=K2.out.trans bD;have Z3:=ah (Z2.out.kept bD (by have:=bC.out;omega));clear iL bD eu)
 obtain ⟨w4,hw4⟩:∃w4,w4=w3.alloc (.cells #[.int .i64 t.kind,.string t.text,.int .i64 t.at_] 130):=⟨_,rfl⟩
 have T4:Hid (nX w3.heap.size t w4):=by rw [hw4];exact ay w3 _
 have k4:Kept aA w3 w4:=by rw [hw4];exact (Kept.refl _ _).alloc _
 have R4:=ah (R3.out.kept k4 (fun h=>h) (fun h=>h))
 have K4:Hid (Kept (· = N) w w4):=K3.out.trans (k4.more (fun _ h=>h.elim))
 have Z4:=ah (Z3.out.kept k4 (fun h=>h))
 rw [←hw4]
 obtain ⟨M,hM⟩:∃M,M=w3.heap.size:=⟨_,rfl⟩
 rw [←hM] at T4⊢
 clear hw4 k4 hM
 obtain ⟨t0,t1,t2,_⟩:=T4.out.cells
 have bi:(0:Int)<(t.text.size:Int):=by omega
 by_cases h1:1<t.text.size
 ·have d1:decide ((1:Int)<(t.text.size:Int))=true:=ak (by omega)
  have d2:decide (1<t.text.size)=true:=ak h1
  by_cases h2:t.text[0].toNat=48
  ·have y:((t.text[0].toNat:Int)==48)=true:=by rw [h2];rfl
   have pJ:Hid (bg ex pr en (t::r)=.error (2,t.at_)):=by unfold Hid;rw [er.out,YG htp h1 h2]
   clear h2 er
   go_wp2_with (go_at_call 70;(refine (dD _ 2 t.at_ w4).mono ?_);rintro e w6 ⟨rfl,rfl⟩)
   exact ⟨rfl,XQ.thrown K4.out (Kept.refl _ _) pJ.out⟩
  ·have y:((t.text[0].toNat:Int)==48)=false:=by simp;omega
   have pJ:Hid (bg ex pr en (t::r)=if 9223372036854775807<qp t.text.data.toList then .error (3,t.at_) else .ok (.mk 2 E0 (qp t.text.data.toList) E0 [],r)):=by unfold Hid;rw [er.out,KI htp (fun ⟨_,b⟩=>h2 b)]
   clear h2 er
   go_upto_region 18 with fail
   by_cases hle:qp t.text.data.toList≤9223372036854775807
   ·have jY:Hid (bg ex pr en (t::r)=.ok (.mk 2 E0 (qp t.text.data.toList) E0 [],r)):=by unfold Hid;rw [pJ.out,if_neg (by omega)]
    have Ho:=ah (HPI.out.1 hle)
    clear hle pJ
    go_upto_region 21 with (go_at_call 253;(refine (Tryz.strconv_ParseInt_10_at64_ok t.text (by omega) _ Ho.out w4).mono ?_);rintro e w5 ⟨rfl,Ph⟩;have k5:Kept aA w4 w5:=(by rcases Ph with rfl|⟨_,rfl⟩;exact Kept.refl _ _;exact Kept.Ec (Lib.bytesWorld_below _ _ _));have R5:=ah (R4.out.kept k5 (fun h=>h) (fun h=>h));have K5:Hid (Kept (· = N) w w5):=K4.out.trans (k5.more (fun _ h=>h.elim));have Z5:=ah (Z4.out.kept k5 (fun h=>h));clear k5 Ph)
    obtain ⟨z0,z1,z2,z3,z4,zf⟩:=Z5.out.cells
    have vY:=zf 0;have vZ:=zf 1;have wo:=zf 2;have xA:=zf 3;have xB:=zf 4
    clear zf t0 t1 t2
    go_wp2_with fail
    exact iw 2 rfl rfl (Z5.out.eY _ _ _ _ _) (FW Z5.out K5.out R5.out bC.out hN hT (by decide) (by decide) jY.out)
   ·have jY:Hid (bg ex pr en (t::r)=.error (3,t.at_)):=by unfold Hid;rw [pJ.out,if_pos (by omega)]
    have Ho:=ah (HPI.out.2 (by omega))
    obtain ⟨ev,hev1,hev2⟩:iD w4:=by obtain ⟨_,_,_,h⟩:=R4.out;exact h.rng
    have GX:=ah hev1;have HE2:=ah hev2
    clear hle pJ hev1 hev2
    go_wp2_with (first
     | (go_at_call 253;(refine (Tryz.strconv_ParseInt_10_at64_range t.text (by omega) Ho.out ev w4 GX.out HE2.out).mono ?_);rintro e w5 ⟨np,rfl,-,-,Pj⟩;have k5:=Kept.Ec Pj;have K5:Hid (Kept (· = N) w4 w5):=k5.more (fun _ h=>h.elim);have T5:=T4.out.kept k5 (fun h=>h);obtain ⟨u0,u1,u2,_⟩:=T5.cells;clear T5 k5 Pj)
     | (go_at_call 70;(refine (dD _ 3 t.at_ _).mono ?_);rintro e w6 ⟨rfl,rfl⟩))
    exact ⟨rfl,XQ.thrown K4.out K5.out jY.out⟩
 ·have d1:decide ((1:Int)<(t.text.size:Int))=false:=au (by omega)
  have d2:decide (1<t.text.size)=false:=au h1
  have pJ:Hid (bg ex pr en (t::r)=if 9223372036854775807<qp t.text.data.toList then .error (3,t.at_) else .ok (.mk 2 E0 (qp t.text.data.toList) E0 [],r)):=by unfold Hid;rw [er.out,KI htp (fun ⟨b,_⟩=>h1 b)]
  clear h1 er
  go_upto_region 18 with fail
  by_cases hle:qp t.text.data.toList≤9223372036854775807
  ·have jY:Hid (bg ex pr en (t::r)=.ok (.mk 2 E0 (qp t.text.data.toList) E0 [],r)):=by unfold Hid;rw [pJ.out,if_neg (by omega)]
   have Ho:=ah (HPI.out.1 hle)
   clear hle pJ
   go_upto_region 21 with (go_at_call 253;(refine (Tryz.strconv_ParseInt_10_at64_ok t.text (by omega) _ Ho.out w4).mono ?_);rintro e w5 ⟨rfl,Ph⟩;have k5:Kept aA w4 w5:=(by rcases Ph with rfl|⟨_,rfl⟩;exact Kept.refl _ _;exact Kept.Ec (Lib.bytesWorld_below _ _ _));have R5:=ah (R4.out.kept k5 (fun h=>h) (fun h=>h));have K5:Hid (Kept (· = N) w w5):=K4.out.trans (k5.more (fun _ h=>h.elim));have Z5:=ah (Z4.out.kept k5 (fun h=>h));clear k5 Ph)
   obtain ⟨z0,z1,z2,z3,z4,zf⟩:=Z5.out.cells
   have vY:=zf 0;have vZ:=zf 1;have wo:=zf 2;have xA:=zf 3;have xB:=zf 4
   clear zf t0 t1 t2
   go_wp2_with fail
   exact iw 2 rfl rfl (Z5.out.eY _ _ _ _ _) (FW Z5.out K5.out R5.out bC.out hN hT (by decide) (by decide) jY.out)
  ·have jY:Hid (bg ex pr en (t::r)=.error (3,t.at_)):=by unfold Hid;rw [pJ.out,if_pos (by omega)]
   have Ho:=ah (HPI.out.2 (by omega))
   obtain ⟨ev,hev1,hev2⟩:iD w4:=by obtain ⟨_,_,_,h⟩:=R4.out;exact h.rng
   have GX:=ah hev1;have HE2:=ah hev2
   clear hle pJ hev1 hev2
   go_wp2_with (first
    | (go_at_call 253;(refine (Tryz.strconv_ParseInt_10_at64_range t.text (by omega) Ho.out ev w4 GX.out HE2.out).mono ?_);rintro e w5 ⟨np,rfl,-,-,Pj⟩;have k5:=Kept.Ec Pj;have K5:Hid (Kept (· = N) w4 w5):=k5.more (fun _ h=>h.elim);have T5:=T4.out.kept k5 (fun h=>h);obtain ⟨u0,u1,u2,_⟩:=T5.cells;clear T5 k5 Pj)
    | (go_at_call 70;(refine (dD _ 3 t.at_ _).mono ?_);rintro e w6 ⟨rfl,rfl⟩))
   exact ⟨rfl,XQ.thrown K4.out K5.out jY.out⟩
end Go.Proofs.YtodebjhalipefaaGreatDoor
