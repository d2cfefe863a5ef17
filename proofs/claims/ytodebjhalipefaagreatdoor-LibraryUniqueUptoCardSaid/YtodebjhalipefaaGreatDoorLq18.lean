/-  -/
import Derived.Test.YtodebjhalipefaaGreatDoorLq24
namespace Go.Proofs.YtodebjhalipefaaGreatDoor
set_option linter.all false
open Go.RowKit
def dR (M:Nat) (c0 c1 c2 c3 c4:Value) (w:World):Prop:=w.heap[M]?=some (.cells #[c0,c1,c2,c3,c4] 64 (0,0))
theorem dR.lt {M:Nat} {c0 c1 c2 c3 c4:Value} {w:World} (h:dR M c0 c1 c2 c3 c4 w):M<w.heap.size:=(Array.getElem?_eq_some_iff.1 h).1
theorem dR.kept {M:Nat} {c0 c1 c2 c3 c4:Value} {w w':World} {X:Nat→Prop} (h:dR M c0 c1 c2 c3 c4 w) (hk:Kept X w w') (hx:¬X M):dR M c0 c1 c2 c3 c4 w':=by
 unfold dR;rw [hk.block M h.lt hx];exact h
theorem dR.cells {M:Nat} {c0 c1 c2 c3 c4:Value} {w:World} (h:dR M c0 c1 c2 c3 c4 w):w.cell? ⟨M,0,none⟩=some c0∧w.cell? ⟨M,1,none⟩=some c1∧w.cell? ⟨M,2,none⟩=some c2∧w.cell? ⟨M,3,none⟩=some c3∧w.cell? ⟨M,4,none⟩=some c4∧∀o,w.frozen? ⟨M,o,none⟩=false:=by
 unfold dR at h
 refine ⟨?_,?_,?_,?_,?_,fun o=>by simp [World.frozen?,h]⟩<;>(rw [cell_of_row w M _ _ _ _ h];rfl)
theorem dR.eY {M:Nat} {z0 z1 z2 z3 z4:Value} {w:World} (h:dR M z0 z1 z2 z3 z4 w) (c0 c1 c2 c3 c4:Value):dR M c0 c1 c2 c3 c4 (eY w M c0 c1 c2 c3 c4):=by
 unfold dR at h⊢
 unfold Go.Proofs.YtodebjhalipefaaGreatDoor.eY
 rw [aO (aO (aO (aO (aO h _) _) _) _) _];rfl
theorem iw (n:Nat) {f:Func} (hres:f.results = #[.cell n 64]) {tmps:Array Value} {M:Nat} (ht:tmps.getD n undef=.pointer (some ⟨M,0,none⟩)) {c0 c1 c2 c3 c4:Value} {w2:World} {Q:Ending→World→Prop} (h:dR M c0 c1 c2 c3 c4 w2)
  (hq:Q (.returned (.agg #[c0,c1,c2,c3,c4])) w2):bodyPost Tryz.prog f Q .ret ⟨tmps,[]⟩ w2:=by
 obtain ⟨h0,h1,h2,h3,h4,_⟩:=h.cells
 have ht':tmps[n]?.getD undef=.pointer (some ⟨M,0,none⟩):=by rw [←ht,Array.getD_eq_getD_getElem?]
 exact bodyPost_ret (v:=.agg #[c0,c1,c2,c3,c4]) (by simp [results,hres,go_sem,ht',h0,h1,h2,h3,h4]) rfl hq
def XQ (N T en d:Nat) (r:aZ aB) (w:World) (e:Ending) (w':World):Prop :=
 Kept (· = N) w w'∧match r with
  | .ok (p,l)=>(∃v,e=.returned v∧YX w.heap.size p w' v)∧bV N T en l d w'
  | .error er=>jo er e
theorem XQ.ok {N T en d:Nat} {r:aZ aB} {w:World} {e:Ending} {w':World} {p:aB} {l:List aC} (h:XQ N T en d r w e w') (hr:r=.ok (p,l)) :
  Kept (· = N) w w'∧bV N T en l d w'∧∃S ka cap,e=.returned (.agg #[.int .i64 p.kind,.string p.text,.int .i64 p.n,.string p.name,.slice ka p.kids.length cap])∧(∀b,S b→w.heap.size≤b∧b<w'.heap.size)∧(p.text.size<1000000000∧p.name.size<1000000000∧p.kids.length<1000000000)∧aN w' S ka p.kids:=by
 subst hr
 obtain ⟨k,⟨v,rfl,S,hS,ka,cap,rfl,hz,hk⟩,hp⟩:=h
 exact ⟨k,hp,S,ka,cap,rfl,hS,hz,hk⟩
theorem XQ.bad {N T en d:Nat} {r:aZ aB} {w:World} {e:Ending} {w':World} {er:Er} (h:XQ N T en d r w e w') (hr:r=.error er):Kept (· = N) w w'∧jo er e:=by
 subst hr;exact h
def JB (N T en d:Nat) (f:List aC→aZ aB):Prop:=∀(l:List aC) (w:World),bV N T en l d w→Calls Tryz.prog 208 #[.pointer (some ⟨N,0,none⟩)] w (XQ N T en d (f l) w)
def Jy (N T en d:Nat) (f:List aC→aZ aB):Prop:=∀(l:List aC) (w:World),bV N T en l d w→Calls Tryz.prog 250 #[.pointer (some ⟨N,0,none⟩)] w (XQ N T en d (f l) w)
def FU (N T en d:Nat) (f:List aC→aZ aB):Prop:=∀(l:List aC) (w:World),bV N T en l d w→Calls Tryz.prog 105 #[.pointer (some ⟨N,0,none⟩)] w (XQ N T en d (f l) w)
theorem rQ.lU {N T en n c d:Nat} {a:Option Addr} {l:List aC} {w:World} (h:rQ N T en n a c l d w) (k:Nat):rQ N T en n a c l k (w.setCell ⟨N,2,none⟩ (.int .i64 k)):=by
 have hk:Kept (· = N) w (w.setCell ⟨N,2,none⟩ (.int .i64 k)):=(Kept.refl (· = N) w).setCell (p:=⟨N,2,none⟩) (.inl rfl) _
 exact ⟨by rw [aO h.blk];rfl,h.num,h.cap,fun hl=>by obtain ⟨o,e,hc⟩:=h.toks hl;exact ⟨o,e,fun j u hu=>(hk.cell h.lt (fun e=>h.ne e.symm)).trans (hc j u hu)⟩,h.ne,Nat.lt_of_lt_of_le h.lt hk.size,h.small,h.good,h.old,by obtain ⟨ev,h1,h2⟩:=h.rng;exact ⟨ev,(hk.cell (Nat.lt_trans h.old h.jm) (Nat.ne_of_lt h.old)).trans h1,h2⟩⟩
theorem bV.lU {N T en d:Nat} {l:List aC} {w:World} (h:bV N T en l d w) (k:Nat):bV N T en l k (w.setCell ⟨N,2,none⟩ (.int .i64 k)):=by
 obtain ⟨n,a,c,h⟩:=h;exact ⟨n,a,c,h.lU k⟩
theorem bV.deep {N T en d:Nat} {l:List aC} {w:World} (h:bV N T en l d w):w.cell? ⟨N,2,none⟩=some (.int .i64 d)∧w.frozen? ⟨N,2,none⟩=false:=by
 obtain ⟨n,a,c,h⟩:=h;exact ⟨h.c0.2.2.1,h.c0.2.2.2 2⟩
end Go.Proofs.YtodebjhalipefaaGreatDoor

namespace Go.Proofs.YtodebjhalipefaaGreatDoor
set_option linter.all false
open Go.RowKit
set_option maxRecDepth 100000
set_option maxHeartbeats 4000000
theorem Vh {g:Nat} {q:aB} {ka:Option Addr} {cap:Nat} {w:World} {S:Nat→Prop} (F:dR g (.int .i64 q.kind) (.string q.text) (.int .i64 q.n) (.string q.name) (.slice ka q.kids.length cap) w) (hz:q.text.size<1000000000∧q.name.size<1000000000∧q.kids.length<1000000000) (hk:aN w S ka q.kids) (hS:∀b,S b→b<w.heap.size) :
  aN w (fun b=>S b∨b=g) (some ⟨g,0,none⟩) [q]:=by
 obtain ⟨c0,c1,c2,c3,c4,_⟩:=F.cells
 obtain ⟨k,t,n,nm,kids⟩:=q
 have hk':aN w (fun b=>S b∨b=g) ka kids:=aN.to hk (Kept.refl aA w) (fun b hb=>⟨hS b hb,fun h=>h⟩) (fun _ h=>.inl h)
 have hp:aU w (fun b=>S b∨b=g) g 0 (.mk k t n nm kids):=by
  unfold aU
  exact ⟨.inr rfl,hz,c0,c1,c2,c3,ka,cap,c4,hk'⟩
 unfold aN
 exact ⟨g,0,rfl,hp,by unfold aN;trivial⟩
theorem YI {N T en d:Nat} {un pr:List aC→aZ aB} (HP:Jy N T en d pr) {l:List aC} {w:World} (h:bV N T en l d w) (hs:aG (bs [45]) l=false):Calls Tryz.prog 208 #[.pointer (some ⟨N,0,none⟩)] w (XQ N T en d (yJ un pr l) w):=by
 obtain ⟨hN,hT,hne,h7⟩:=h.jm
 obtain ⟨w0,hw0⟩:∃w0,w0=w.alloc (.cells #[.int .i64 0,.string ⟨#[]⟩,.int .i64 0,.string ⟨#[]⟩,.slice none 0 0] 64):=⟨_,rfl⟩
 have k0:Kept aA w w0:=by rw [hw0];exact (Kept.refl _ _).alloc _
 obtain ⟨M2,hM2⟩:∃M,M=w.heap.size:=⟨_,rfl⟩
 have Z0:Hid (dR M2 (.int .i64 0) (.string ⟨#[]⟩) (.int .i64 0) (.string ⟨#[]⟩) (.slice none 0 0) w0):=by rw [hw0,hM2];exact ay w _
 have HI:=ah (wR (bs [45]) (h.kept k0 (fun h=>h) (fun h=>h)))
 unfold AO at HI
 rw [hs] at HI
 have er:yJ un pr l=pr l:=by unfold yJ;rw [hs];rfl
 rw [er]
 have K0:=ah k0;have HW0:=ah hw0;have bC:=ah hM2;have YC:=ah HP
 clear k0 hw0 hM2 HP h hs er
 cases hp:pr l with
 | error er =>
  go_enter Tryz.func208, Tryz.ntmps208
  go_upto_region 1 with fail
  rw [←HW0.out,←bC.out]
  go_wp2_with (first
   | (go_at_call 68;(refine HI.out.mono ?_);rintro e w1 ⟨rfl,dV,bF⟩;have R1:=ah dV;have K1:=ah bF;clear dV bF)
   | (go_at_call 250;(refine (YC.out l w1 R1.out).mono ?_);intro e w2 Lr;obtain ⟨bQ,rfl⟩:=Lr.bad hp;have K2:=ah bQ;clear bQ Lr))
  exact ⟨rfl,((K0.out.more (fun _ h=>h.elim)).trans K1.out).trans K2.out,rfl⟩
 | ok x =>
  obtain ⟨p,r⟩:=x
  go_enter Tryz.func208, Tryz.ntmps208
  go_upto_region 1 with fail
  rw [←HW0.out,←bC.out]
  go_wp2_with (first
   | (go_at_call 68;(refine HI.out.mono ?_);rintro e w1 ⟨rfl,dV,bF⟩;have R1:=ah dV;have K1:=ah bF;have Z1:=ah (Z0.out.kept bF (by have:=bC.out;omega));clear dV bF)
   | (go_at_call 250;(refine (YC.out l w1 R1.out).mono ?_);intro e w2 Lr;obtain ⟨bQ,iI,S,ka,cap,rfl,iM,iO,fV⟩:=Lr.ok hp;have K2:=ah bQ;have R2:=ah iI;have HS:=ah iM;have HZ:=ah iO;have HK:=ah fV;have Z2:=ah (Z1.out.kept bQ (by have:=bC.out;omega));obtain ⟨z0,z1,z2,z3,z4,zf⟩:=Z2.out.cells;have vY:=zf 0;have vZ:=zf 1;have wo:=zf 2;have xA:=zf 3;have xB:=zf 4;clear zf bQ iI iM iO fV Lr))
  refine iw 2 rfl rfl (Z2.out.eY _ _ _ _ _) ?_
  have k6:Kept (· = M2) w2 (eY w2 M2 (.int .i64 p.kind) (.string p.text) (.int .i64 p.n) (.string p.name) (.slice ka p.kids.length cap)):=(Kept.refl (· = M2) w2).eY (.inl rfl) _ _ _ _ _
  have K5:Kept (· = N) w w2:=((K0.out.more (fun _ h=>h.elim)).trans K1.out).trans K2.out
  have hS:∀b,S b→w.heap.size≤b∧b<w2.heap.size∧b≠M2:=by
   intro b hb
   obtain ⟨x1,x2⟩:=HS.out b hb
   have:=K0.out.size;have:=K1.out.size;have:=Z1.out.lt;have:=bC.out
   omega
  exact ⟨K5.step k6 (fun y hy=>.inr (by have:=bC.out;omega)),⟨_,rfl,S,fun b hb=>⟨(hS b hb).1,Nat.lt_of_lt_of_le (hS b hb).2.1 k6.size⟩,ka,cap,rfl,HZ.out,HK.out.kept k6 (fun b hb=>⟨(hS b hb).2.1,(hS b hb).2.2⟩)⟩,R2.out.kept k6 (by have:=bC.out;omega) (by have:=bC.out;omega) (by have:=bC.out;omega)⟩
end Go.Proofs.YtodebjhalipefaaGreatDoor

namespace Go.Proofs.YtodebjhalipefaaGreatDoor
set_option linter.all false
open Go.RowKit
set_option maxRecDepth 100000
set_option maxHeartbeats 8000000
theorem ag0 (q:aB):(E0.size<1000000000)∧(E0.size<1000000000)∧([q]:List aB).length<1000000000:=⟨by decide,by decide,by simp⟩
theorem abn {N T en:Nat} {pr:List aC→aZ aB} {l:List aC} {w:World} (h:bV N T en l 400 w) (hs:aG (bs [45]) l=true):Calls Tryz.prog 208 #[.pointer (some ⟨N,0,none⟩)] w (XQ N T en 400 (yJ (fun l=>.error (4,dJ en l)) pr l) w):=by
 obtain ⟨d,hd⟩:∃d:Nat,d=400:=⟨_,rfl⟩
 rw [←hd] at h⊢
 have er:Hid (yJ (fun l=>.error (4,dJ en l)) pr l=.error (4,dJ en l.tail)):=by unfold Hid yJ;rw [hs];rfl
 obtain ⟨hN,hT,hne,h7⟩:=h.jm
 obtain ⟨w0,hw0⟩:∃w0,w0=w.alloc (.cells #[.int .i64 0,.string ⟨#[]⟩,.int .i64 0,.string ⟨#[]⟩,.slice none 0 0] 64):=⟨_,rfl⟩
 have k0:Kept aA w w0:=by rw [hw0];exact (Kept.refl _ _).alloc _
 obtain ⟨M2,hM2⟩:∃M,M=w.heap.size:=⟨_,rfl⟩
 have Z0:Hid (dR M2 (.int .i64 0) (.string ⟨#[]⟩) (.int .i64 0) (.string ⟨#[]⟩) (.slice none 0 0) w0):=by rw [hw0,hM2];exact ay w _
 have HI:=ah (wR (bs [45]) (h.kept k0 (fun h=>h) (fun h=>h)))
 unfold AO at HI
 rw [hs] at HI
 simp only [if_true] at HI
 obtain ⟨lr,hlr⟩:∃lr,lr=l.tail:=⟨_,rfl⟩
 rw [←hlr] at HI
 have K0:=ah k0;have HW0:=ah hw0;have bC:=ah hM2
 obtain ⟨d1,hd1⟩:∃d1:Nat,d1=d+1:=⟨_,rfl⟩
 have hdi:(d:Int)+1=(d1:Int):=by omega
 clear k0 hw0 hM2 h
 rw [←hlr] at er
 have g1:decide ((400:Int)<(d1:Int))=true:=ak (by omega)
 have g2:decide (400<d1)=true:=ak (by omega)
 have hb:d1≤1000:=by omega
 have HD:=ah hd1
 clear hs hlr hd hd1
 go_enter Tryz.func208, Tryz.ntmps208
 go_upto_region 1 with fail
 rw [←HW0.out,←bC.out]
 go_upto_region 4 with (go_at_call 68;(refine HI.out.mono ?_);rintro e w1 ⟨rfl,dV,bF⟩;have R1:=ah dV;have K1:=ah bF;have Z1:=ah (Z0.out.kept bF (by have:=bC.out;omega));obtain ⟨q2,mG⟩:=dV.deep;clear dV bF)
 obtain ⟨w2,hw2⟩:∃w2,w2=w1.setCell ⟨N,2,none⟩ (.int .i64 (d1:Int)):=⟨_,rfl⟩
 have r2:=R1.out.lU d1
 rw [←hw2] at r2⊢
 have k2:Kept (· = N) w1 w2:=by rw [hw2];exact (Kept.refl (· = N) w1).setCell (p:=⟨N,2,none⟩) (.inl rfl) _
 have K2:=ah k2
 clear hw2 k2 q2 mG
 obtain ⟨q2,mG⟩:=r2.deep
 obtain ⟨n2,a2,c2,r2⟩:=r2
 have HA:=ah (kU r2)
 clear r2
 go_wp2_with (first
  | (go_at_call 71;(refine HA.out.mono ?_);rintro e w' ⟨rfl,aH⟩;obtain rfl:=aH.symm)
  | (go_at_call 70;(refine (dD _ 4 (dJ en lr) w2).mono ?_);rintro e w3 ⟨rfl,rfl⟩))
 refine ⟨rfl,((K0.out.more (fun _ h=>h.elim)).trans K1.out).trans K2.out,?_⟩
 rw [er.out]
 exact rfl
theorem abo {N T en d:Nat} {un pr:List aC→aZ aB} (hd:d<400) (HU:JB N T en (d+1) un) {l:List aC} {w:World} (h:bV N T en l d w) (hs:aG (bs [45]) l=true):Calls Tryz.prog 208 #[.pointer (some ⟨N,0,none⟩)] w (XQ N T en d (yJ un pr l) w):=by
 have er:Hid (yJ un pr l=match un l.tail with | .error er=>.error er | .ok (x,r)=>.ok (node1 7 x,r)):=by unfold Hid yJ;rw [hs];rfl
 obtain ⟨hN,hT,hne,h7⟩:=h.jm
 obtain ⟨w0,hw0⟩:∃w0,w0=w.alloc (.cells #[.int .i64 0,.string ⟨#[]⟩,.int .i64 0,.string ⟨#[]⟩,.slice none 0 0] 64):=⟨_,rfl⟩
 have k0:Kept aA w w0:=by rw [hw0];exact (Kept.refl _ _).alloc _
 obtain ⟨M2,hM2⟩:∃M,M=w.heap.size:=⟨_,rfl⟩
 have Z0:Hid (dR M2 (.int .i64 0) (.string ⟨#[]⟩) (.int .i64 0) (.string ⟨#[]⟩) (.slice none 0 0) w0):=by rw [hw0,hM2];exact ay w _
 have HI:=ah (wR (bs [45]) (h.kept k0 (fun h=>h) (fun h=>h)))
 unfold AO at HI
 rw [hs] at HI
 simp only [if_true] at HI
 obtain ⟨lr,hlr⟩:∃lr,lr=l.tail:=⟨_,rfl⟩
 rw [←hlr] at HI
 have K0:=ah k0;have HW0:=ah hw0;have bC:=ah hM2
 obtain ⟨d1,hd1⟩:∃d1:Nat,d1=d+1:=⟨_,rfl⟩
 have hdi:(d:Int)+1=(d1:Int):=by omega
 clear k0 hw0 hM2 h
 rw [←hlr] at er
 rw [←hd1] at HU
 have g1:decide ((400:Int)<(d1:Int))=false:=au (by omega)
 have g2:decide (400<d1)=false:=au (by omega)
 have hb:d1≤1000:=by omega
 have hb1:1≤d1:=by omega
 have hdj:(d1:Int)-1=(d:Int):=by omega
 have Y8:=ah HU
 clear hs hlr hd1 HU
 go_enter Tryz.func208, Tryz.ntmps208
 go_upto_region 1 with fail
 rw [←HW0.out,←bC.out]
 go_upto_region 4 with (go_at_call 68;(refine HI.out.mono ?_);rintro e w1 ⟨rfl,dV,bF⟩;have R1:=ah dV;have K1:=ah bF;have Z1:=ah (Z0.out.kept bF (by have:=bC.out;omega));obtain ⟨q2,mG⟩:=dV.deep;clear dV bF)
 obtain ⟨w2,hw2⟩:∃w2,w2=w1.setCell ⟨N,2,none⟩ (.int .i64 (d1:Int)):=⟨_,rfl⟩
 have r2:=R1.out.lU d1
 rw [←hw2] at r2⊢
 have k2:Kept (· = N) w1 w2:=by rw [hw2];exact (Kept.refl (· = N) w1).setCell (p:=⟨N,2,none⟩) (.inl rfl) _
 have K2:=ah k2;have R2:=ah r2
 have Z2:=ah (Z1.out.kept k2 (by have:=bC.out;omega))
 have BL:Hid (Kept (· = N) w w2):=((K0.out.more (fun _ h=>h.elim)).trans K1.out).trans k2
 clear hw2 k2 q2 mG
 obtain ⟨q2,mG⟩:=r2.deep
 clear r2
 cases hu:un lr with
 | error e0 =>
  rw [hu] at er
  go_wp2_with (go_at_call 208;(refine (Y8.out lr w2 R2.out).mono ?_);intro e w3 eu;obtain ⟨bD,rfl⟩:=eu.bad hu;have K3:=ah bD;clear bD eu)
  refine ⟨rfl,BL.out.trans K3.out,?_⟩
  rw [er.out]
  exact rfl
 | ok x =>
  obtain ⟨p,r⟩:=x
  rw [hu] at er
  dsimp only at er
  go_upto_region 7 with (go_at_call 208;(refine (Y8.out lr w2 R2.out).mono ?_);intro e w3 eu;obtain ⟨bD,iL,S,ka,cap,rfl,iM,iO,fV⟩:=eu.ok hu;have K3:=ah bD;have R3:=ah iL;have HS:=ah iM;have HZ:=ah iO;have HK:=ah fV;clear bD iL iM iO fV eu)
  obtain ⟨w5,hw5⟩:∃w5,w5=(w3.alloc (.cells #[.int .i64 p.kind,.string p.text,.int .i64 p.n,.string p.name,.slice ka p.kids.length cap] 64)).alloc (.cells #[.int .i64 7,.string ⟨#[]⟩,.int .i64 0,.string ⟨#[]⟩,.slice (some ⟨w3.heap.size,0,none⟩) 1 1] 64):=⟨_,rfl⟩
  have k5:Kept aA w3 w5:=by rw [hw5];exact ((Kept.refl _ _).alloc _).alloc _
  have G5:Hid (dR w3.heap.size (.int .i64 p.kind) (.string p.text) (.int .i64 p.n) (.string p.name) (.slice ka p.kids.length cap) w5):=by rw [hw5];exact dR.kept (ay w3 _) ((Kept.refl aA _).alloc _) (fun h=>h)
  have X5:Hid (dR (w3.heap.size+1) (.int .i64 7) (.string ⟨#[]⟩) (.int .i64 0) (.string ⟨#[]⟩) (.slice (some ⟨w3.heap.size,0,none⟩) 1 1) w5):=by rw [hw5];exact iy (by simp)
  have r5:=R3.out.kept k5 (fun h=>h) (fun h=>h)
  have Z5:=ah ((Z2.out.kept K3.out (by have:=bC.out;omega)).kept k5 (fun h=>h))
  have Y9:w5.heap.size=w3.heap.size+2:=by rw [hw5];simp
  rw [←hw5]
  obtain ⟨B,hB⟩:∃B,B=w3.heap.size:=⟨_,rfl⟩
  rw [←hB] at G5 X5⊢
  have HB:=ah hB;have SY:=ah Y9;have K5:=ah k5;have R5:=ah r5
  clear hw5 k5 Y9 hB q2 mG
  obtain ⟨q2,mG⟩:=r5.deep
  clear r5
  go_upto_region 8 with fail
  obtain ⟨w6,hw6⟩:∃w6,w6=w5.setCell ⟨N,2,none⟩ (.int .i64 (d:Int)):=⟨_,rfl⟩
  have r6:=R5.out.lU d
  rw [←hw6] at r6⊢
  have k6:Kept (· = N) w5 w6:=by rw [hw6];exact (Kept.refl (· = N) w5).setCell (p:=⟨N,2,none⟩) (.inl rfl) _
  have hN5:N<B:=by have:=HB.out;have:=K0.out.size;have:=K1.out.size;have:=K2.out.size;have:=K3.out.size;omega
  have G6:=ah (G5.out.kept k6 (by omega));have X6:=ah (X5.out.kept k6 (by omega));have Z6:=ah (Z5.out.kept k6 (by have:=bC.out;omega))
  have R6:=ah r6;have K6:=ah k6
  clear hw6 k6 r6 q2 mG
  obtain ⟨x0,x1,x2,x3,x4,_⟩:=X6.out.cells
  obtain ⟨z0,z1,z2,z3,z4,zf⟩:=Z6.out.cells
  have vY:=zf 0;have vZ:=zf 1;have wo:=zf 2;have xA:=zf 3;have xB:=zf 4
  clear zf
  go_wp2_with fail
  refine iw 2 rfl rfl (Z6.out.eY _ _ _ _ _) ?_
  have k7:Kept (· = M2) w6 (eY w6 M2 (.int .i64 7) (.string ⟨#[]⟩) (.int .i64 0) (.string ⟨#[]⟩) (.slice (some ⟨B,0,none⟩) 1 1)):=(Kept.refl (· = M2) w6).eY (.inl rfl) _ _ _ _ _
  have K06:Kept (· = N) w w6:=((BL.out.trans K3.out).trans (K5.out.more (fun _ h=>h.elim))).trans K6.out
  have hlt:∀b,(S b∨b=B)→w.heap.size≤b∧b<w6.heap.size∧b≠M2∧b≠N:=by
   intro b hb
   have e1:=bC.out;have e2:=HB.out;have e3:=SY.out;have e4:=K6.out.size;have e5:=BL.out.size;have e6:=K3.out.size;have e7:=Z2.out.lt
   rcases hb with hb|rfl
   ·obtain ⟨x1,x2⟩:=HS.out b hb
    omega
   ·omega
  have hk6:aN w6 S ka p.kids:=(HK.out.kept K5.out (fun b hb=>⟨(HS.out b hb).2,fun h=>h⟩)).kept K6.out (fun b hb=>⟨by have:=(HS.out b hb).2;have:=SY.out;have:=HB.out;omega,by have:=(hlt b (.inl hb)).2.2.2;exact this⟩)
  have hp1:aN w6 (fun b=>S b∨b=B) (some ⟨B,0,none⟩) [p]:=Vh G6.out HZ.out hk6 (fun b hb=>(hlt b (.inl hb)).2.1)
  refine ⟨K06.step k7 (fun y hy=>.inr (by have:=bC.out;omega)),?_⟩
  rw [er.out]
  exact ⟨⟨_,rfl,fun b=>S b∨b=B,fun b hb=>⟨(hlt b hb).1,Nat.lt_of_lt_of_le (hlt b hb).2.1 k7.size⟩,_,_,rfl,ag0 p,hp1.kept k7 (fun b hb=>⟨(hlt b hb).2.1,(hlt b hb).2.2.1⟩)⟩,R6.out.kept k7 (by have:=bC.out;omega) (by have:=bC.out;omega) (by have:=bC.out;omega)⟩
end Go.Proofs.YtodebjhalipefaaGreatDoor

namespace Go.Proofs.YtodebjhalipefaaGreatDoor
set_option linter.all false
open Go.RowKit
set_option maxRecDepth 100000
set_option maxHeartbeats 8000000
def JF (B j:Nat):Value:=if j=3 then .slice (some ⟨B,2,none⟩) 0 0 else .slice (some ⟨B,j,none⟩) (3-j) (3-j)
def Hl (N T en d j:Nat) (f:List aC→aZ aB):Prop:=∀(l:List aC) (w:World) (lo B:Nat),bV N T en l d w→wE lo B w→N<lo→Calls Tryz.prog 144 #[.pointer (some ⟨N,0,none⟩),JF B j] w (XQ N T en d (f l) w)
theorem Vq {N T en:Nat} {l:List aC} {w:World} (h:bV N T en l 400 w):Calls Tryz.prog 105 #[.pointer (some ⟨N,0,none⟩)] w (XQ N T en 400 (.error (4,dJ en l)) w):=by
 obtain ⟨d,hd⟩:∃d:Nat,d=400:=⟨_,rfl⟩
 rw [←hd] at h⊢
 obtain ⟨hN,hT,hne,h7⟩:=h.jm
 obtain ⟨w0,hw0⟩:∃w0,w0=w.alloc (.cells #[.int .i64 0,.string ⟨#[]⟩,.int .i64 0,.string ⟨#[]⟩,.slice none 0 0] 64):=⟨_,rfl⟩
 have k0:Kept aA w w0:=by rw [hw0];exact (Kept.refl _ _).alloc _
 have R0:=ah (h.kept k0 (fun h=>h) (fun h=>h))
 have K0:=ah k0;have HW0:=ah hw0
 obtain ⟨d1,hd1⟩:∃d1:Nat,d1=d+1:=⟨_,rfl⟩
 have hdi:(d:Int)+1=(d1:Int):=by omega
 have g1:decide ((400:Int)<(d1:Int))=true:=ak (by omega)
 have g2:decide (400<d1)=true:=ak (by omega)
 have hb:d1≤1000:=by omega
 obtain ⟨q2,mG⟩:=R0.out.deep
 clear k0 hw0 h hd hd1
 go_enter Tryz.func105, Tryz.ntmps105
 go_upto_region 1 with fail
 rw [←HW0.out]
 go_upto_region 2 with fail
 obtain ⟨w2,hw2⟩:∃w2,w2=w0.setCell ⟨N,2,none⟩ (.int .i64 (d1:Int)):=⟨_,rfl⟩
 have r2:=R0.out.lU d1
 rw [←hw2] at r2⊢
 have k2:Kept (· = N) w0 w2:=by rw [hw2];exact (Kept.refl (· = N) w0).setCell (p:=⟨N,2,none⟩) (.inl rfl) _
 have K2:=ah k2
 clear hw2 k2 q2 mG
 obtain ⟨q2,mG⟩:=r2.deep
 obtain ⟨n2,a2,c2,r2⟩:=r2
 have HA:=ah (kU r2)
 clear r2
 go_wp2_with (first
  | (go_at_call 71;(refine HA.out.mono ?_);rintro e w' ⟨rfl,aH⟩;obtain rfl:=aH.symm)
  | (go_at_call 70;(refine (dD _ 4 (dJ en l) w2).mono ?_);rintro e w3 ⟨rfl,rfl⟩))
 exact ⟨rfl,(K0.out.more (fun _ h=>h.elim)).trans K2.out,rfl⟩
theorem Hz {N T en d:Nat} {f:List aC→aZ aB} (hd:d<400) (HB:Hl N T en (d+1) 0 f) {l:List aC} {w:World} (h:bV N T en l d w):Calls Tryz.prog 105 #[.pointer (some ⟨N,0,none⟩)] w (XQ N T en d (f l) w):=by
 obtain ⟨hN,hT,hne,h7⟩:=h.jm
 obtain ⟨w0,hw0⟩:∃w0,w0=w.alloc (.cells #[.int .i64 0,.string ⟨#[]⟩,.int .i64 0,.string ⟨#[]⟩,.slice none 0 0] 64):=⟨_,rfl⟩
 have k0:Kept aA w w0:=by rw [hw0];exact (Kept.refl _ _).alloc _
 obtain ⟨M2,hM2⟩:∃M,M=w.heap.size:=⟨_,rfl⟩
 have Z0:Hid (dR M2 (.int .i64 0) (.string ⟨#[]⟩) (.int .i64 0) (.string ⟨#[]⟩) (.slice none 0 0) w0):=by rw [hw0,hM2];exact ay w _
 have R0:=ah (h.kept k0 (fun h=>h) (fun h=>h))
 have K0:=ah k0;have HW0:=ah hw0;have bC:=ah hM2
 obtain ⟨d1,hd1⟩:∃d1:Nat,d1=d+1:=⟨_,rfl⟩
 have hdi:(d:Int)+1=(d1:Int):=by omega
 rw [←hd1] at HB
 have g1:decide ((400:Int)<(d1:Int))=false:=au (by omega)
 have g2:decide (400<d1)=false:=au (by omega)
 have hb:d1≤1000:=by omega
 have hb1:1≤d1:=by omega
 have hdj:(d1:Int)-1=(d:Int):=by omega
 have KH:=ah HB
 obtain ⟨q2,mG⟩:=R0.out.deep
 clear k0 hw0 h hd1 HB hM2
 go_enter Tryz.func105, Tryz.ntmps105
 go_upto_region 1 with fail
 rw [←HW0.out,←bC.out]
 go_upto_region 2 with fail
 obtain ⟨w2,hw2⟩:∃w2,w2=w0.setCell ⟨N,2,none⟩ (.int .i64 (d1:Int)):=⟨_,rfl⟩
 have r2:=R0.out.lU d1
 rw [←hw2] at r2⊢
 have k2:Kept (· = N) w0 w2:=by rw [hw2];exact (Kept.refl (· = N) w0).setCell (p:=⟨N,2,none⟩) (.inl rfl) _
 have K2:=ah k2;have R2:=ah r2
 have Z2:=ah (Z0.out.kept k2 (by have:=bC.out;omega))
 have BL:Hid (Kept (· = N) w w2):=(K0.out.more (fun _ h=>h.elim)).trans k2
 clear hw2 k2 q2 mG
 obtain ⟨q2,mG⟩:=r2.deep
 clear r2
 cases hu:f l with
 | error e0 =>
  go_wp2_with (first
   | (go_at_call 145;(refine (Gm w2).mono ?_);rintro e wl ⟨B,rfl,Za,PZ⟩;have LV:=ah Za;have KL:=ah PZ;have RL:=ah (R2.out.kept PZ (fun h=>h) (fun h=>h));clear Za PZ)
   | (go_at_call 144;(refine (KH.out l wl _ B RL.out LV.out (by have:=BL.out.size;omega)).mono ?_);intro e w3 eu;obtain ⟨bD,rfl⟩:=eu.bad hu;have K3:=ah bD;clear bD eu))
  exact ⟨rfl,(BL.out.trans (KL.out.more (fun _ h=>h.elim))).trans K3.out,rfl⟩
 | ok x =>
  obtain ⟨p,r⟩:=x
  go_upto_region 5 with (first
   | (go_at_call 145;(refine (Gm w2).mono ?_);rintro e wl ⟨B,rfl,Za,PZ⟩;have LV:=ah Za;have KL:=ah PZ;have RL:=ah (R2.out.kept PZ (fun h=>h) (fun h=>h));clear Za PZ)
   | (go_at_call 144;(refine (KH.out l wl _ B RL.out LV.out (by have:=BL.out.size;omega)).mono ?_);intro e w3 eu;obtain ⟨bD,iL,S,ka,cap,rfl,iM,iO,fV⟩:=eu.ok hu;have K3:=ah bD;have R3:=ah iL;have HS:=ah iM;have HZ:=ah iO;have HK:=ah fV;clear bD iL iM iO fV eu))
  obtain ⟨w5,hw5⟩:∃w5,w5=w3.alloc (.cells #[.int .i64 p.kind,.string p.text,.int .i64 p.n,.string p.name,.slice ka p.kids.length cap] 64):=⟨_,rfl⟩
  have k5:Kept aA w3 w5:=by rw [hw5];exact (Kept.refl _ _).alloc _
  have X5:Hid (dR w3.heap.size (.int .i64 p.kind) (.string p.text) (.int .i64 p.n) (.string p.name) (.slice ka p.kids.length cap) w5):=by rw [hw5];exact ay w3 _
  have r5:=R3.out.kept k5 (fun h=>h) (fun h=>h)
  have Z5:=ah (((Z2.out.kept KL.out (fun h=>h)).kept K3.out (by have:=bC.out;omega)).kept k5 (fun h=>h))
  have Y9:w5.heap.size=w3.heap.size+1:=by rw [hw5];simp
  rw [←hw5]
  obtain ⟨G,hG⟩:∃G,G=w3.heap.size:=⟨_,rfl⟩
  rw [←hG] at X5⊢
  have HG:=ah hG;have SY:=ah Y9;have K5:=ah k5;have R5:=ah r5
  clear hw5 k5 Y9 hG q2 mG
  obtain ⟨q2,mG⟩:=r5.deep
  clear r5
  go_upto_region 6 with fail
  obtain ⟨w6,hw6⟩:∃w6,w6=w5.setCell ⟨N,2,none⟩ (.int .i64 (d:Int)):=⟨_,rfl⟩
  have r6:=R5.out.lU d
  rw [←hw6] at r6⊢
  have k6:Kept (· = N) w5 w6:=by rw [hw6];exact (Kept.refl (· = N) w5).setCell (p:=⟨N,2,none⟩) (.inl rfl) _
  have hsz:Hid (w.heap.size≤w2.heap.size∧w2.heap.size≤wl.heap.size∧wl.heap.size≤w3.heap.size):=⟨BL.out.size,KL.out.size,K3.out.size⟩
  have X6:=ah (X5.out.kept k6 (by have:=hsz.out;have:=HG.out;omega));have Z6:=ah (Z5.out.kept k6 (by have:=bC.out;omega))
  have R6:=ah r6;have K6:=ah k6
  clear hw6 k6 r6 q2 mG
  obtain ⟨x0,x1,x2,x3,x4,_⟩:=X6.out.cells
  obtain ⟨z0,z1,z2,z3,z4,zf⟩:=Z6.out.cells
  have vY:=zf 0;have vZ:=zf 1;have wo:=zf 2;have xA:=zf 3;have xB:=zf 4
  clear zf
  go_wp2_with fail
  refine iw 2 rfl rfl (Z6.out.eY _ _ _ _ _) ?_
  have k7:Kept (· = M2) w6 (eY w6 M2 (.int .i64 p.kind) (.string p.text) (.int .i64 p.n) (.string p.name) (.slice ka p.kids.length cap)):=(Kept.refl (· = M2) w6).eY (.inl rfl) _ _ _ _ _
  have K06:Kept (· = N) w w6:=(((BL.out.trans (KL.out.more (fun _ h=>h.elim))).trans K3.out).trans (K5.out.more (fun _ h=>h.elim))).trans K6.out
  have hlt:∀b,S b→w.heap.size≤b∧b<w6.heap.size∧b≠M2∧b≠N∧b<w5.heap.size:=by
   intro b hb
   have e1:=bC.out;have e2:=HG.out;have e3:=SY.out;have e4:=K6.out.size;have e5:=hsz.out;have e7:=Z2.out.lt
   obtain ⟨x1,x2⟩:=HS.out b hb
   omega
  have hk6:aN w6 S ka p.kids:=(HK.out.kept K5.out (fun b hb=>⟨(HS.out b hb).2,fun h=>h⟩)).kept K6.out (fun b hb=>⟨(hlt b hb).2.2.2.2,(hlt b hb).2.2.2.1⟩)
  refine ⟨K06.step k7 (fun y hy=>.inr (by have:=bC.out;omega)),?_⟩
  rw [hu]
  exact ⟨⟨_,rfl,S,fun b hb=>⟨(hlt b hb).1,Nat.lt_of_lt_of_le (hlt b hb).2.1 k7.size⟩,_,_,rfl,HZ.out,hk6.kept k7 (fun b hb=>⟨(hlt b hb).2.1,(hlt b hb).2.2.1⟩)⟩,R6.out.kept k7 (by have:=bC.out;omega) (by have:=bC.out;omega) (by have:=bC.out;omega)⟩
end Go.Proofs.YtodebjhalipefaaGreatDoor

namespace Go.Proofs.YtodebjhalipefaaGreatDoor
set_option linter.all false
open Go.RowKit
set_option maxRecDepth 100000
set_option maxHeartbeats 4000000
theorem YJ {N T en d:Nat} {un:List aC→aZ aB} (HU:JB N T en d un):Hl N T en d 3 un:=by
 intro l w lo B h OZ hlo
 obtain ⟨hN,hT,hne,h7⟩:=h.jm
 obtain ⟨w0,hw0⟩:∃w0,w0=w.alloc (.cells #[.int .i64 0,.string ⟨#[]⟩,.int .i64 0,.string ⟨#[]⟩,.slice none 0 0] 64):=⟨_,rfl⟩
 have k0:Kept aA w w0:=by rw [hw0];exact (Kept.refl _ _).alloc _
 obtain ⟨M4,Dt⟩:∃M,M=w.heap.size:=⟨_,rfl⟩
 have Z0:Hid (dR M4 (.int .i64 0) (.string ⟨#[]⟩) (.int .i64 0) (.string ⟨#[]⟩) (.slice none 0 0) w0):=by rw [hw0,Dt];exact ay w _
 have R0:=ah (h.kept k0 (fun h=>h) (fun h=>h))
 have K0:=ah k0;have HW0:=ah hw0;have tC:=ah Dt;have Y8:=ah HU
 have hv:JF B 3=.slice (some ⟨B,2,none⟩) 0 0:=rfl
 rw [hv]
 clear k0 hw0 h Dt HU hv OZ
 cases hu:un l with
 | error e0 =>
  go_enter Tryz.func144, Tryz.ntmps144
  go_upto_region 1 with fail
  rw [←HW0.out,←tC.out]
  go_wp2_with (go_at_call 208;(refine (Y8.out l w0 R0.out).mono ?_);intro e w3 eu;obtain ⟨bD,rfl⟩:=eu.bad hu;have K3:=ah bD;clear bD eu)
  exact ⟨rfl,(K0.out.more (fun _ h=>h.elim)).trans K3.out,rfl⟩
 | ok x =>
  obtain ⟨p,r⟩:=x
  go_enter Tryz.func144, Tryz.ntmps144
  go_upto_region 1 with fail
  rw [←HW0.out,←tC.out]
  go_wp2_with (go_at_call 208;(refine (Y8.out l w0 R0.out).mono ?_);intro e w2 Lr;obtain ⟨bQ,iI,S,ka,cap,rfl,iM,iO,fV⟩:=Lr.ok hu;have K2:=ah bQ;have R2:=ah iI;have HS:=ah iM;have HZ:=ah iO;have HK:=ah fV;have Z2:=ah (Z0.out.kept bQ (by have:=tC.out;omega));obtain ⟨z0,z1,z2,z3,z4,zf⟩:=Z2.out.cells;have vY:=zf 0;have vZ:=zf 1;have wo:=zf 2;have xA:=zf 3;have xB:=zf 4;clear zf bQ iI iM iO fV Lr)
  refine iw 4 rfl rfl (Z2.out.eY _ _ _ _ _) ?_
  have k6:Kept (· = M4) w2 (eY w2 M4 (.int .i64 p.kind) (.string p.text) (.int .i64 p.n) (.string p.name) (.slice ka p.kids.length cap)):=(Kept.refl (· = M4) w2).eY (.inl rfl) _ _ _ _ _
  have K5:Kept (· = N) w w2:=(K0.out.more (fun _ h=>h.elim)).trans K2.out
  have hS:∀b,S b→w.heap.size≤b∧b<w2.heap.size∧b≠M4:=by
   intro b hb
   obtain ⟨x1,x2⟩:=HS.out b hb
   have:=K0.out.size;have:=Z0.out.lt;have:=tC.out
   omega
  refine ⟨K5.step k6 (fun y hy=>.inr (by have:=tC.out;omega)),?_⟩
  (try rw [hu])
  exact ⟨⟨_,rfl,S,fun b hb=>⟨(hS b hb).1,Nat.lt_of_lt_of_le (hS b hb).2.1 k6.size⟩,ka,cap,rfl,HZ.out,HK.out.kept k6 (fun b hb=>⟨(hS b hb).2.1,(hS b hb).2.2⟩)⟩,R2.out.kept k6 (by have:=tC.out;omega) (by have:=tC.out;omega) (by have:=tC.out;omega)⟩
end Go.Proofs.YtodebjhalipefaaGreatDoor

namespace Go.Proofs.YtodebjhalipefaaGreatDoor
set_option linter.all false
open Go.RowKit
def Shr (f:List aC→aZ aB):Prop:=∀l y r,f l=.ok (y,r)→r.length≤l.length
theorem wE.get {lo B:Nat} {w:World} (h:wE lo B w) {j:Nat} (hj:j<3):∃m n,w.cell? ⟨B,j,none⟩=some (.map (some m))∧eG w m n (Bq (j+1)):=by
 obtain ⟨h0,m1,m2,m3,n1,n2,n3,l1,l2,l3,hb,a1,a2,a3⟩:=h
 obtain rfl|rfl|rfl:j=0∨j=1∨j=2:=by omega
 ·exact ⟨m1,n1,by rw [cell_of_row w B _ _ _ _ hb];rfl,a1⟩
 ·exact ⟨m2,n2,by rw [cell_of_row w B _ _ _ _ hb];rfl,a2⟩
 ·exact ⟨m3,n3,by rw [cell_of_row w B _ _ _ _ hb];rfl,a3⟩
theorem Yx {B j:Nat} (hj:j<3):JF B j=.slice (some ⟨B,j,none⟩) (3-j) (3-j):=by unfold JF;rw [if_neg (by omega)]
theorem Yy {B j m:Nat} (hj:j<3) (hm:m=3-j) (wx:World):(Instr.slice 226 (.slice (some ⟨B,j,none⟩) m m) (some (.int .i64 1)) none none).run Tryz.prog wx=.ok (JF B (j+1)) wx:=by
 have hsz:(sizeOf 295).run Tryz.prog wx=.ok 1 wx:=by kernel_rfl
 have hle:(1:Int)≤(m:Int):=by omega
 unfold Instr.slice Instr.sliceBounds Instr.sliceBound
 simp only [Sem.run_bind,run_underlying Tryz.underlying226,Result.andThen_ok,Sem.run_pure,asIntOf]
 rw [if_pos ⟨by decide,by omega⟩]
 simp only [Sem.run_pure,Result.andThen_ok,hsz]
 obtain rfl|rfl|rfl:j=0∨j=1∨j=2:=by omega
 all_goals
  subst hm
  simp [JF,Addr.add]
structure fO (N T en d M4 M5:Nat) (w:World) (x:aB) (ka:Option Addr) (cap:Nat) (l:List aC) (wx:World):Prop where
 bH:bV N T en l d wx
 five:dR M5 (.int .i64 x.kind) (.string x.text) (.int .i64 x.n) (.string x.name) (.slice ka x.kids.length cap) wx
 mem:∃S:Nat→Prop,aN wx S ka x.kids∧∀b,S b→w.heap.size≤b∧b<wx.heap.size∧b≠M4∧b≠M5∧b≠N
 sz:x.text.size<1000000000∧x.name.size<1000000000∧x.kids.length<1000000000
 zero:dR M4 (.int .i64 0) (.string ⟨#[]⟩) (.int .i64 0) (.string ⟨#[]⟩) (.slice none 0 0) wx
 kept:Kept (· = N) w wx
theorem fO.quiet {N T en d M4 M5:Nat} {w:World} {x:aB} {ka:Option Addr} {cap:Nat} {l:List aC} {wx wy:World} (h:fO N T en d M4 M5 w x ka cap l wx) (hk:Kept aA wx wy):fO N T en d M4 M5 w x ka cap l wy:=by
 obtain ⟨h1,h2,⟨S,h3,h4⟩,h5,h6,h7⟩:=h
 exact ⟨h1.kept hk (fun h=>h) (fun h=>h),h2.kept hk (fun h=>h),⟨S,h3.kept hk (fun b hb=>⟨(h4 b hb).2.1,fun h=>h⟩),fun b hb=>by have:=h4 b hb;have:=hk.size;omega⟩,h5,h6.kept hk (fun h=>h),h7.trans (hk.more (fun _ h=>h.elim))⟩
theorem fO.aQ {N T en d M4 M5:Nat} {w:World} {x:aB} {ka:Option Addr} {cap:Nat} {l l2:List aC} {wx wy:World} (h:fO N T en d M4 M5 w x ka cap l wx) (hn4:N≠M4) (yF:N≠M5) (hk:Kept (· = N) wx wy) (hr:bV N T en l2 d wy):fO N T en d M4 M5 w x ka cap l2 wy:=by
 obtain ⟨h1,h2,⟨S,h3,h4⟩,h5,h6,h7⟩:=h
 exact ⟨hr,h2.kept hk (Ne.symm yF),⟨S,h3.kept hk (fun b hb=>⟨(h4 b hb).2.1,(h4 b hb).2.2.2.2⟩),fun b hb=>by have:=h4 b hb;have:=hk.size;omega⟩,h5,h6.kept hk (Ne.symm hn4),h7.trans hk⟩
def af9 (B:Nat) (x y:aB) (ka kb:Option Addr) (ca cb:Nat) (w:World):Prop:=w.heap[B]?=some (.cells #[.int .i64 x.kind,.string x.text,.int .i64 x.n,.string x.name,.slice ka x.kids.length ca,.int .i64 y.kind,.string y.text,.int .i64 y.n,.string y.name,.slice kb y.kids.length cb] 64 (0,0))
theorem ag1 {g:Nat} {x y:aB} {ka kb:Option Addr} {ca cb:Nat} {w:World} {S:Nat→Prop} (F:af9 g x y ka kb ca cb w) (hx:x.text.size<1000000000∧x.name.size<1000000000∧x.kids.length<1000000000) (hy:y.text.size<1000000000∧y.name.size<1000000000∧y.kids.length<1000000000)
  (hkx:aN w S ka x.kids) (hky:aN w S kb y.kids) (hS:∀b,S b→b<w.heap.size):aN w (fun b=>S b∨b=g) (some ⟨g,0,none⟩) [x,y]:=by
 have hc:∀i,w.cell? ⟨g,i,none⟩=_:=fun i=>cell_of_row w g i _ _ _ F
 obtain ⟨k,t,n,nm,kids⟩:=x
 obtain ⟨k2,t2,n2,nm2,acC⟩:=y
 have e1:aN w (fun b=>S b∨b=g) ka kids:=aN.to hkx (Kept.refl aA w) (fun b hb=>⟨hS b hb,fun h=>h⟩) (fun _ h=>.inl h)
 have e2:aN w (fun b=>S b∨b=g) kb acC:=aN.to hky (Kept.refl aA w) (fun b hb=>⟨hS b hb,fun h=>h⟩) (fun _ h=>.inl h)
 have p1:aU w (fun b=>S b∨b=g) g 0 (.mk k t n nm kids):=by
  unfold aU
  exact ⟨.inr rfl,hx,by rw [hc];rfl,by rw [hc];rfl,by rw [hc];rfl,by rw [hc];rfl,ka,ca,by rw [hc];rfl,e1⟩
 have p2:aU w (fun b=>S b∨b=g) g 5 (.mk k2 t2 n2 nm2 acC):=by
  unfold aU
  exact ⟨.inr rfl,hy,by rw [hc];rfl,by rw [hc];rfl,by rw [hc];rfl,by rw [hc];rfl,kb,cb,by rw [hc];rfl,e2⟩
 unfold aN
 refine ⟨g,0,rfl,p1,?_⟩
 unfold aN
 exact ⟨g,5,rfl,p2,by unfold aN;trivial⟩
theorem fO.step {N T en d M4 M5:Nat} {w:World} {x y:aB} {ka kb:Option Addr} {ca cb:Nat} {l r:List aC} {w1 w3:World} (k:Int) (h:fO N T en d M4 M5 w x ka ca l w1) (hn4:N≠M4) (yF:N≠M5) (h45:M4≠M5) (hw5:w.heap.size≤M5) (YA:N<w.heap.size) (hTw:T<w.heap.size)
  (hk:Kept (· = N) w1 w3) (hr:bV N T en r d w3) {S:Nat→Prop} (hS:∀b,S b→w1.heap.size≤b∧b<w3.heap.size) (hz:y.text.size<1000000000∧y.name.size<1000000000∧y.kids.length<1000000000) (hy:aN w3 S kb y.kids) {w5:World}
  (hw:w5=w3.alloc (.cells #[.int .i64 x.kind,.string x.text,.int .i64 x.n,.string x.name,.slice ka x.kids.length ca,.int .i64 y.kind,.string y.text,.int .i64 y.n,.string y.name,.slice kb y.kids.length cb] 64)) :
  fO N T en d M4 M5 w (node2 k x y) (some ⟨w3.heap.size,0,none⟩) 2 r (eY w5 M5 (.int .i64 k) (.string ⟨#[]⟩) (.int .i64 0) (.string ⟨#[]⟩) (.slice (some ⟨w3.heap.size,0,none⟩) 2 2)):=by
 have h3:=h.aQ hn4 yF hk hr
 obtain ⟨_,f3,⟨S3,s3,s4⟩,z3,o3,k3⟩:=h3
 have k5:Kept aA w3 w5:=by rw [hw];exact (Kept.refl _ _).alloc _
 have hsz:w5.heap.size=w3.heap.size+1:=by rw [hw];simp
 have g5:af9 w3.heap.size x y ka kb ca cb w5:=by rw [hw];exact ay w3 _
 have f5:=f3.kept k5 (fun h=>h)
 have k6:Kept (· = M5) w5 (eY w5 M5 (.int .i64 k) (.string ⟨#[]⟩) (.int .i64 0) (.string ⟨#[]⟩) (.slice (some ⟨w3.heap.size,0,none⟩) 2 2)):=(Kept.refl (· = M5) w5).eY (.inl rfl) _ _ _ _ _
 have hw1:w.heap.size≤w1.heap.size:=h.kept.size
 have l3:=f3.lt;have o3l:=o3.lt;have afn:=hk.size
 have l1:=h.five.lt;have l2:=h.zero.lt
 refine ⟨(hr.kept k5 (fun h=>h) (fun h=>h)).kept k6 yF (by omega) (by have:=hr.jm;omega),f5.eY _ _ _ _ _,⟨fun b=>(S3 b∨S b)∨b=w3.heap.size,?_,?_⟩,⟨by show E0.size<_;decide,by show E0.size<_;decide,by simp [node2,aB.kids]⟩,(o3.kept k5 (fun h=>h)).kept k6 h45,(k3.trans (k5.more (fun _ h=>h.elim))).step k6 (fun y hy=>.inr (by omega))⟩
 ·refine aN.kept (X:=(· = M5)) ?_ k6 ?_
  ·refine ag1 g5 z3 hz ((s3.kept k5 (fun b hb=>⟨(s4 b hb).2.1,fun h=>h⟩)).to (Kept.refl aA w5) (fun b hb=>⟨by have:=s4 b hb;omega,fun h=>h⟩) (fun _ h=>.inl h)) ((hy.kept k5 (fun b hb=>⟨(hS b hb).2,fun h=>h⟩)).to (Kept.refl aA w5) (fun b hb=>⟨by have:=hS b hb;omega,fun h=>h⟩) (fun _ h=>.inr h)) ?_
   rintro b (hb|hb)
   ·have:=s4 b hb;omega
   ·have:=hS b hb;omega
  ·rintro b ((hb|hb)|rfl)
   ·have:=s4 b hb;exact ⟨by omega,by omega⟩
   ·have:=hS b hb;exact ⟨by omega,by omega⟩
   ·exact ⟨by omega,by omega⟩
 ·have:=k6.size
  rintro b ((hb|hb)|rfl)
  ·have:=s4 b hb;omega
  ·have:=hS b hb;omega
  ·omega
theorem fO.fin {N T en d M4 M5:Nat} {w:World} {x:aB} {ka:Option Addr} {cap:Nat} {l2:List aC} {wx:World} (h:fO N T en d M4 M5 w x ka cap l2 wx) (hn4:N≠M4) (NC:T≠M4) (hw4:w.heap.size≤M4) (YA:N<w.heap.size) {r:aZ aB} (hr:r=.ok (x,l2)) :
  XQ N T en d r w (.returned (.agg #[.int .i64 x.kind,.string x.text,.int .i64 x.n,.string x.name,.slice ka x.kids.length cap])) (eY wx M4 (.int .i64 x.kind) (.string x.text) (.int .i64 x.n) (.string x.name) (.slice ka x.kids.length cap)):=by
 subst hr
 obtain ⟨h1,h2,⟨S,h3,h4⟩,h5,h6,h7⟩:=h
 have k6:Kept (· = M4) wx (eY wx M4 (.int .i64 x.kind) (.string x.text) (.int .i64 x.n) (.string x.name) (.slice ka x.kids.length cap)):=(Kept.refl (· = M4) wx).eY (.inl rfl) _ _ _ _ _
 exact ⟨h7.step k6 (fun y hy=>.inr (by omega)),⟨_,rfl,S,fun b hb=>⟨(h4 b hb).1,Nat.lt_of_lt_of_le (h4 b hb).2.1 k6.size⟩,ka,cap,rfl,h5,h3.kept k6 (fun b hb=>⟨(h4 b hb).2.1,(h4 b hb).2.2.1⟩)⟩,h1.kept k6 hn4 NC (by have:=h1.jm;omega)⟩
end Go.Proofs.YtodebjhalipefaaGreatDoor
