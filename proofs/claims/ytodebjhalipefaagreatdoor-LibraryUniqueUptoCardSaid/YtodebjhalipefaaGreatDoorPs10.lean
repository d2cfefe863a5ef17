/-  -/
import Derived.Test.YtodebjhalipefaaGreatDoorLq18
import Derived.Deep.RegionWith
import Derived.Deep.Quiet
namespace Go.Proofs.YtodebjhalipefaaGreatDoor
set_option linter.all false
open Go.RowKit
set_option maxRecDepth 100000
set_option maxHeartbeats 8000000
theorem Du {N T en d j:Nat} {sub:List aC→aZ aB} (hj:j<3) (HB:Hl N T en d (j+1) sub) (hsub:Shr sub):Hl N T en d j (oG (j+1) sub):=by
 intro l w lo B h OZ hlo
 obtain ⟨hN,hT,hne,h7⟩:=h.jm
 rw [Yx hj]
 obtain ⟨m,hm⟩:∃m,m=3-j:=⟨_,rfl⟩
 have hsl:=fun wx=>Yy (B:=B) hj hm wx
 rw [←hm]
 have m0:0<m:=by omega
 have m1:(0:Int)<(m:Int):=by omega
 have zm:((m:Int)==0)=false:=by simp;omega
 obtain ⟨w0,hw0⟩:∃w0,w0=w.alloc (.cells #[.int .i64 0,.string ⟨#[]⟩,.int .i64 0,.string ⟨#[]⟩,.slice none 0 0] 64):=⟨_,rfl⟩
 have k0:Kept aA w w0:=by rw [hw0];exact (Kept.refl _ _).alloc _
 obtain ⟨M4,Dt⟩:∃M,M=w.heap.size:=⟨_,rfl⟩
 have Z0:Hid (dR M4 (.int .i64 0) (.string ⟨#[]⟩) (.int .i64 0) (.string ⟨#[]⟩) (.slice none 0 0) w0):=by rw [hw0,Dt];exact ay w _
 have R0:=ah (h.kept k0 (fun h=>h) (fun h=>h))
 have L0:=ah (OZ.kept k0 (fun _ h=>h.elim))
 have K0:=ah k0;have HW0:=ah hw0;have tC:=ah Dt;have KH:=ah HB
 have hs0:=hsl w0
 have HSL:=ah hsl;have HLV:=ah OZ;have SK:=ah hlo;have HJ:=ah hj;have HSH:=ah hsub
 clear k0 hw0 h Dt HB OZ hlo hj hsub hm hsl
 cases hu:sub l with
 | error e0 =>
  have er:Hid (oG (j+1) sub l=.error e0):=by unfold Hid oG;rw [hu]
  go_enter Tryz.func144, Tryz.ntmps144
  go_upto_region 1 with fail
  rw [←HW0.out,←tC.out]
  go_wp2_with (go_at_call 144;(refine (KH.out l w0 lo B R0.out L0.out SK.out).mono ?_);intro e w3 eu;obtain ⟨bD,rfl⟩:=eu.bad hu;have K3:=ah bD;clear bD eu)
  refine ⟨rfl,(K0.out.more (fun _ h=>h.elim)).trans K3.out,?_⟩
  rw [er.out];exact rfl
 | ok z =>
  obtain ⟨p,r⟩:=z
  have er:Hid (oG (j+1) sub l=nY (j+1) sub r.length p r):=by unfold Hid oG;rw [hu]
  have HU:=ah hu
  clear hu
  go_enter Tryz.func144, Tryz.ntmps144
  go_upto_region 1 with fail
  rw [←HW0.out,←tC.out]
  go_upto_block 0 with (go_at_call 144;(refine (KH.out l w0 lo B R0.out L0.out SK.out).mono ?_);intro e w3 eu;obtain ⟨bD,iL,S,ka,cap,rfl,iM,iO,fV⟩:=eu.ok HU.out;have K3:=ah bD;have R3:=ah iL;have HS:=ah iM;have HZ:=ah iO;have HK:=ah fV;clear bD iL iM iO fV eu)
  obtain ⟨w5,hw5⟩:∃w5,w5=w3.alloc (.cells #[.int .i64 p.kind,.string p.text,.int .i64 p.n,.string p.name,.slice ka p.kids.length cap] 64):=⟨_,rfl⟩
  obtain ⟨M5,lM⟩:∃M,M=w3.heap.size:=⟨_,rfl⟩
  have k5:Kept aA w3 w5:=by rw [hw5];exact (Kept.refl _ _).alloc _
  have hsz:Hid (w.heap.size<w0.heap.size∧w0.heap.size≤w3.heap.size∧w5.heap.size=w3.heap.size+1∧M5=w3.heap.size∧M4=w.heap.size∧N<w.heap.size∧T<w.heap.size):=⟨by have:=Z0.out.lt;have:=tC.out;omega,K3.out.size,by rw [hw5];simp,lM,tC.out,hN,hT⟩
  have I0:Hid (fO N T en d M4 M5 w p ka cap r w5):=by
   have hz:=hsz.out
   refine ⟨R3.out.kept k5 (fun h=>h) (fun h=>h),by rw [hw5,lM];exact ay w3 _,⟨S,HK.out.kept k5 (fun b hb=>⟨(HS.out b hb).2,fun h=>h⟩),fun b hb=>by have:=HS.out b hb;omega⟩,HZ.out,(Z0.out.kept K3.out (by omega)).kept k5 (fun h=>h),((K0.out.more (fun _ h=>h.elim)).trans K3.out).trans (k5.more (fun _ h=>h.elim))⟩
  rw [←hw5,←lM]
  clear hw5 lM k5 hs0
  go_wp2_with fail
  go_loopg [] r.length (fun f wr=>∃(x:aB) (l2:List aC) (kb:Option Addr) (cb:Nat),l2.length≤f∧Hid (fO N T en d M4 M5 w x kb cb l2 wr)∧Hid (oG (j+1) sub l=nY (j+1) sub f x l2))
  case atStart=>exact ⟨p,r,ka,cap,Nat.le_refl _,I0,er⟩
  case round =>
   obtain ⟨x,l2,kb,cb,hlf,I,hch⟩:=hrel
   obtain ⟨n2,a2,c2,hP⟩:=ah I.out.bH
   have HP:=ah hP
   obtain ⟨c0,c1,cd,cf⟩:=hP.c0
   have hn:=hP.num
   cases l2 with
   | nil =>
    have z:decide ((0:Int)<(n2:Int))=false:=by rw [hn];rfl
    have z':decide (0<n2)=false:=by rw [hn];rfl
    have fin:Hid (oG (j+1) sub l=.ok (x,[])):=by unfold Hid;rw [hch.out];cases gk<;>rfl
    clear hn hP cf hch hlf
    go_wp2_with fail
    go_quiet (fail)
    have I2:=ah (I.out.quiet ((Kept.refl aA wr).drewN nq))
    obtain ⟨x0,x1,x2,x3,x4,_⟩:=I2.out.five.cells
    obtain ⟨z0,z1,z2,z3,z4,zf⟩:=I2.out.zero.cells
    have vY:=zf 0;have vZ:=zf 1;have wo:=zf 2;have xA:=zf 3;have xB:=zf 4
    clear zf
    go_wp2_with fail
    exact iw 4 rfl rfl (I2.out.zero.eY _ _ _ _ _) (I2.out.fin (by have:=hsz.out;omega) (by have:=hsz.out;omega) (by have:=hsz.out;omega) hN fin.out)
   | cons t r2 =>
    rw [List.length_cons] at hn
    have h0:0<n2:=by omega
    have h1:(0:Int)<(n2:Int):=by omega
    have z:decide ((0:Int)<(n2:Int))=true:=ak h1
    have z':decide (0<n2)=true:=ak h0
    obtain ⟨o,rfl,t0,t1,t2⟩:=hP.head
    have htb:=(hP.good t (List.mem_cons_self ..)).2.1
    obtain ⟨mj,nj,lv,lm⟩:=(HLV.out.kept I.out.kept (fun b hb=>by have:=SK.out;omega)).get HJ.out
    have LV:=ah lv;have LM:=ah lm
    obtain ⟨op,hop⟩:∃op,op=BN (j+1) t.text:=⟨_,rfl⟩
    have hlook:∀i,(Instr.lookup 295 (.map (some mj)) (.string t.text) false).run Tryz.prog (wr.drewN i)=.ok (.int .i64 op) (wr.drewN i):=fun i=>by
     have:=(lm.kept ((Kept.refl aA wr).drewN i) (fun h=>h)).oI t.text (by unfold maxLen;omega)
     rw [this,acU,hop]
    by_cases hk:t.kind=5
    ·have y:(t.kind==5)=true:=by simpa using hk
     by_cases ho:0<op
     ·have y3:decide (0<op)=true:=ak ho
      obtain ⟨g,rfl⟩:∃g,gk=g+1:=by cases gk with|zero=>simp at hlf|succ g=>exact ⟨g,rfl⟩
      have jL:Hid (oG (j+1) sub l=match sub r2 with | .error er=>.error er | .ok (y,r)=>nY (j+1) sub g (node2 op x y) r):=by
       unfold Hid
       have e:opAt (j+1) (t::r2)=op:=by show (if t.kind=5 then BN (j+1) t.text else 0)=op;rw [if_pos hk,←hop]
       rw [hch.out,nY,e,if_pos ho];rfl
      have HLF:Hid (r2.length≤g):=by unfold Hid;simp at hlf;omega
      clear hn hP cf hch hlf hop hk ho lm
      go_upto_region 5 with fail
      go_quiet (fail)
      obtain ⟨wA,hwA⟩:∃wA,wA=wr.drewN nq:=⟨_,rfl⟩
      have kA:Kept aA wr wA:=by rw [hwA];exact (Kept.refl aA wr).drewN nq
      have IA:=ah (I.out.quiet kA)
      have hPA:=HP.out.kept kA (fun h=>h) (fun h=>h)
      have Ho:=ah hPA
      have lvA:=kA.cell (HLV.out.kept I.out.kept (fun b hb=>by have:=SK.out;omega)).lt (fun h=>h) (o:=j)
      rw [LV.out] at lvA
      have afj:∀i,(Instr.lookup 295 (.map (some mj)) (.string t.text) false).run Tryz.prog (wA.drewN i)=.ok (.int .i64 op) (wA.drewN i):=by
       intro i;rw [hwA,World.drewN_drewN];exact hlook _
      rw [←hwA]
      clear hwA hlook lv c0 c1 cd t0 t1 t2
      obtain ⟨c0,c1,cd,cf⟩:=hPA.c0
      obtain ⟨o',ho',t0,t1,t2⟩:=hPA.head
      simp only [Option.some.injEq,Addr.mk.injEq,true_and,and_true] at ho'
      subst ho'
      clear hPA cf
      go_upto_region 6 with fail
      go_quiet (fail)
      obtain ⟨wB,hwB⟩:∃wB,wB=wA.drewN nq:=⟨_,rfl⟩
      have kB:Kept aA wA wB:=by rw [hwB];exact (Kept.refl aA wA).drewN nq
      have IB:=ah (IA.out.quiet kB)
      have hPB:=Ho.out.kept kB (fun h=>h) (fun h=>h)
      rw [←hwB]
      clear hwB afj lvA c0 c1 cd t0 t1 t2
      obtain ⟨c0,c1,cd,cf⟩:=hPB.c0
      obtain ⟨n',a',c',hn',hslB,hR⟩:=hPB.rest
      have hs1:=hslB wB
      have Ro:=cf 0
      obtain ⟨wC,hwC⟩:∃wC,wC=wB.setCell ⟨N,0,none⟩ (.slice a' n' c'):=⟨_,rfl⟩
      have kC:Kept (· = N) wB wC:=by rw [hwC];exact (Kept.refl (· = N) wB).setCell (p:=⟨N,0,none⟩) (.inl rfl) _
      rw [←hwC] at hR
      have IC:=ah (IB.out.aQ (by have:=hsz.out;omega) (by have:=hsz.out;omega) kC ⟨_,_,_,hR⟩)
      have HWC:=ah hwC
      clear hslB hPB hR cf hwC kC kB kA
      go_upto_region 7 with fail
      rw [←HWC.out]
      clear hs1 c0 c1 cd Ro
      obtain ⟨x0,x1,x2,x3,x4,xf⟩:=IC.out.five.cells
      have xf0:=xf 0;have xf1:=xf 1;have xf2:=xf 2;have xf3:=xf 3;have xf4:=xf 4
      clear xf
      have hs2:=HSL.out wC.drew
      have CB:=ah (KH.out r2 wC.drew lo B (IC.out.bH.kept (Kept.refl aA wC).drew (fun h=>h) (fun h=>h)) (HLV.out.kept (IC.out.kept.trans ((Kept.refl _ wC).drew)) (fun b hb=>by have:=SK.out;omega)) SK.out)
      go_region_with (go_at_call 144;(refine CB.out.mono ?_);intro e w3 eu;rcases hu:sub r2 with e0|⟨y,r3⟩;(obtain ⟨bD,rfl⟩:=eu.bad hu;have er0:oG (j+1) sub l=.error e0:=(by rw [jL.out,hu]);have fin0:XQ N T en d (oG (j+1) sub l) w (.panicked [{v:=bI e0,recovered:=false}]) w3:=⟨IC.out.kept.trans ((Kept.refl (· = N) wC).drew.trans bD),by rw [er0];exact rfl⟩;exact ⟨rfl,fin0⟩);(obtain ⟨bD,iL,S2,kc,cc,rfl,iM,iO,fV⟩:=eu.ok hu;have K3:=ah ((Kept.refl (· = N) wC).drew.trans bD);have R3:=ah iL;have HS2:=ah iM;have HZ2:=ah iO;have Bl:=ah fV;have HU:=ah hu;have I3:=ah (IC.out.aQ (by have:=hsz.out;omega) (by have:=hsz.out;omega) K3.out R3.out);obtain ⟨y0,y1,y2,y3,y4,-⟩:=I3.out.five.cells;obtain ⟨g0,g1,g2,g3,g4,gf⟩:=(I3.out.five.kept ((Kept.refl aA w3).alloc (.cells #[.int .i64 x.kind,.string x.text,.int .i64 x.n,.string x.name,.slice kb x.kids.length cb,.int .i64 y.kind,.string y.text,.int .i64 y.n,.string y.name,.slice kc y.kids.length cc] 64)) (fun h=>h)).cells;have gf0:=gf 0;have gf1:=gf 1;have gf2:=gf 2;have gf3:=gf 3;have gf4:=gf 4;clear gf bD iL iM iO fV eu hu))
      all_goals
       have er:Hid (oG (j+1) sub l=nY (j+1) sub g (node2 op x y) r3):=by unfold Hid;rw [jL.out,HU.out]
       have HR3:Hid (r3.length≤g):=by have:=HSH.out r2 y r3 HU.out;have:=HLF.out;unfold Hid;omega
       have I5:Hid (fO N T en d M4 M5 w (node2 op x y) (some ⟨w3.heap.size,0,none⟩) 2 r3 (eY (w3.alloc (.cells #[.int .i64 x.kind,.string x.text,.int .i64 x.n,.string x.name,.slice kb x.kids.length cb,.int .i64 y.kind,.string y.text,.int .i64 y.n,.string y.name,.slice kc y.kids.length cc] 64)) M5 (.int .i64 op) (.string ⟨#[]⟩) (.int .i64 0) (.string ⟨#[]⟩) (.slice (some ⟨w3.heap.size,0,none⟩) 2 2))):=(IC.out.step op (by have:=hsz.out;omega) (by have:=hsz.out;omega) (by have:=hsz.out;omega) (by have:=hsz.out;omega) hN hT K3.out R3.out (fun b hb=>HS2.out b hb) HZ2.out Bl.out rfl)
       go_wp2_with fail
       go_roundg g
       case measure=>omega
       case rel=>exact ⟨node2 op x y,r3,_,_,HR3.out,I5,er⟩
     ·have y3:decide (0<op)=false:=au ho
      have fin:Hid (oG (j+1) sub l=.ok (x,t::r2)):=by unfold Hid;rw [hch.out];cases gk with
       | zero=>rfl
       | succ g=>rw [nY,if_neg (by show ¬0<(if t.kind=5 then BN (j+1) t.text else 0);rw [if_pos hk,←hop];exact ho)]
      clear hn hP cf hch hlf hop hk ho lm
      go_wp2_with fail
      go_quiet (fail)
      have I2:=ah (I.out.quiet ((Kept.refl aA wr).drewN nq))
      obtain ⟨x0,x1,x2,x3,x4,_⟩:=I2.out.five.cells
      obtain ⟨z0,z1,z2,z3,z4,zf⟩:=I2.out.zero.cells
      have vY:=zf 0;have vZ:=zf 1;have wo:=zf 2;have xA:=zf 3;have xB:=zf 4
      clear zf
      go_wp2_with fail
      exact iw 4 rfl rfl (I2.out.zero.eY _ _ _ _ _) (I2.out.fin (by have:=hsz.out;omega) (by have:=hsz.out;omega) (by have:=hsz.out;omega) hN fin.out)
    ·have y:(t.kind==5)=false:=by simpa using hk
     have fin:Hid (oG (j+1) sub l=.ok (x,t::r2)):=by unfold Hid;rw [hch.out];cases gk with
      | zero=>rfl
      | succ g=>rw [nY,if_neg (by show ¬0<(if t.kind=5 then BN (j+1) t.text else 0);rw [if_neg hk];decide)]
     clear hn hP cf hch hlf hop hk lm hlook
     go_wp2_with fail
     go_quiet (fail)
     have I2:=ah (I.out.quiet ((Kept.refl aA wr).drewN nq))
     obtain ⟨x0,x1,x2,x3,x4,_⟩:=I2.out.five.cells
     obtain ⟨z0,z1,z2,z3,z4,zf⟩:=I2.out.zero.cells
     have vY:=zf 0;have vZ:=zf 1;have wo:=zf 2;have xA:=zf 3;have xB:=zf 4
     clear zf
     go_wp2_with fail
     exact iw 4 rfl rfl (I2.out.zero.eY _ _ _ _ _) (I2.out.fin (by have:=hsz.out;omega) (by have:=hsz.out;omega) (by have:=hsz.out;omega) hN fin.out)
end Go.Proofs.YtodebjhalipefaaGreatDoor
