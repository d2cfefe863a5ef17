/-  -/
import Derived.Test.YtefjbnhpjdhjmaaGreatDoorTs2
import Derived.Test.YtefjbnhpjdhjmaaGreatDoorTs15
import Derived.Test.YtefjbnhpjdhjmaaGreatDoorTs5
namespace Go.Proofs.YtefjbnhpjdhjmaaGreatDoor
set_option linter.all false
open Go.RowKit
set_option maxRecDepth 100000
set_option maxHeartbeats 2000000
def vX (N T en:Nat) (l:List aF) (d:Nat) (w:World) (e:Ending) (w':World):Prop :=
 Kept (· = N) w w'∧match fP en l with
  | .ok (x,r)=>e=.returned (.string x)∧fA N T en r d w'
  | .error er=>mG er e
theorem fA.mF {N T en d:Nat} {l:List aF} {w:World} (h:fA N T en l d w):N<w.heap.size∧T<w.heap.size∧N≠T∧7<N:=by
 obtain ⟨n,a,c,h⟩:=h;exact ⟨h.mF,h.lt,h.ne,h.old⟩
theorem iQ {N T en d:Nat} {l:List aF} {w:World} (h:fA N T en l d w):Calls Tryz.prog 48 #[.pointer (some ⟨N,0,none⟩)] w (vX N T en l d w):=by
 have HT:=ah (uY 1 h)
 unfold vU at HT
 cases ht:gU 1 en l with
 | error er =>
  rw [ht] at HT
  have fin:Hid (fP en l=.error er):=by unfold Hid fP;rw [ht]
  clear h ht
  go_enter Tryz.func48, Tryz.ntmps48
  go_wp2_with (go_at_call 77;(refine HT.out.mono ?_);rintro e w1 ⟨eF,rfl⟩;have K1:=ah eF;clear eF)
  refine ⟨rfl,K1.out,?_⟩
  rw [fin.out]
  exact rfl
 | ok x =>
  obtain ⟨t,r⟩:=x
  rw [ht] at HT
  dsimp only at HT
  unfold DW at HT
  go_enter Tryz.func48, Tryz.ntmps48
  go_upto_region 2 with (go_at_call 77;(refine HT.out.mono ?_);rintro e w1 ⟨eF,rfl,gK⟩;have K1:=ah eF;have R1:=ah gK;clear eF gK)
  obtain ⟨w2,hw2⟩:∃w2,w2=w1.alloc (.cells #[.int .i64 t.kind,.string t.text,.int .i64 t.at_] 94):=⟨_,rfl⟩
  have T2:Hid (qI w1.heap.size t w2):=by rw [hw2];exact ay w1 _
  have k2:Kept aC w1 w2:=by rw [hw2];exact (Kept.refl _ _).alloc _
  have R2:=ah (R1.out.kept k2 (fun h=>h) (fun h=>h))
  have K2:Hid (Kept (· = N) w w2):=K1.out.trans (k2.more (fun _ h=>h.elim))
  rw [←hw2]
  obtain ⟨M,hM⟩:∃M,M=w1.heap.size:=⟨_,rfl⟩
  rw [←hM] at T2⊢
  clear hw2 k2 hM
  obtain ⟨t0,t1,t2,_⟩:=T2.out.cells
  by_cases hl:16<t.text.size
  ·have d1:decide ((16:Int)<(t.text.size:Int))=true:=ak (by omega)
   have d2:decide (16<t.text.size)=true:=ak hl
   have fin:Hid (fP en l=.error (7,t.at_)):=by unfold Hid fP;rw [ht];dsimp only;rw [if_pos hl]
   clear h ht hl
   go_wp2_with (go_at_call 53;(refine (fG _ 7 t.at_ w2).mono ?_);rintro e w3 ⟨rfl,rfl⟩)
   refine ⟨rfl,K2.out,?_⟩
   rw [fin.out]
   exact rfl
  ·have d1:decide ((16:Int)<(t.text.size:Int))=false:=au (by omega)
   have d2:decide (16<t.text.size)=false:=au hl
   have fin:Hid (fP en l=.ok (t.text,r)):=by unfold Hid fP;rw [ht];dsimp only;rw [if_neg hl]
   clear h ht hl
   go_wp2_with fail
   go_ret
   refine ⟨K2.out,?_⟩
   rw [fin.out]
   exact ⟨rfl,R2.out⟩
def wV (N T en:Nat) (l:List aF) (d:Nat) (w:World) (e:Ending) (w':World):Prop :=
 Kept (· = N) w w'∧match gq en l with
  | .ok (x,r)=>e=.returned (.string x)∧fA N T en r d w'
  | .error er=>mG er e
theorem ru {N T en d:Nat} {l:List aF} {w:World} (h:fA N T en l d w):Calls Tryz.prog 82 #[.pointer (some ⟨N,0,none⟩)] w (wV N T en l d w):=by
 have HA:=ah (lX ⟨#[40]⟩ h)
 unfold ug at HA
 have e40:(⟨#[40]⟩:aj)=bs [40]:=rfl
 have e41:(⟨#[41]⟩:aj)=bs [41]:=rfl
 rw [e40] at HA
 cases h1:gI (bs [40]) en l with
 | error er =>
  rw [h1] at HA
  have fin:Hid (gq en l=.error er):=by unfold Hid gq;rw [h1]
  clear h h1 e41
  rw [←e40] at HA
  clear e40
  go_enter Tryz.func82, Tryz.ntmps82
  go_wp2_with (go_at_call 79;(with_reducible refine HA.out.mono ?_);rintro e w1 ⟨eF,rfl⟩;have K1:=ah eF;clear eF)
  refine ⟨rfl,K1.out,?_⟩
  rw [fin.out]
  exact rfl
 | ok r1 =>
  rw [h1] at HA
  dsimp only at HA
  rw [←e40] at HA
  have HB:Hid (∀wy,fA N T en r1 d wy→Calls Tryz.prog 48 #[.pointer (some ⟨N,0,none⟩)] wy (vX N T en r1 d wy)):=fun wy hy=>iQ hy
  unfold vX at HB
  cases h2:fP en r1 with
  | error er =>
   rw [h2] at HB
   have fin:Hid (gq en l=.error er):=by unfold Hid gq;rw [h1];dsimp only;rw [h2]
   clear h h1 h2 e40 e41
   go_enter Tryz.func82, Tryz.ntmps82
   go_wp2_with (first
    | (go_at_call 79;(with_reducible refine HA.out.mono ?_);rintro e w1 ⟨eF,rfl,gK⟩;have K1:=ah eF;have R1:=ah gK;clear eF gK)
    | (go_at_call 48;(refine (HB.out w1 R1.out).mono ?_);rintro e w2 ⟨iw,rfl⟩;have K2:=ah iw;clear iw))
   refine ⟨rfl,K1.out.trans K2.out,?_⟩
   rw [fin.out]
   exact rfl
  | ok x =>
   obtain ⟨nm,r2⟩:=x
   rw [h2] at HB
   dsimp only at HB
   have HC:Hid (∀wy,fA N T en r2 d wy→Calls Tryz.prog 79 #[.pointer (some ⟨N,0,none⟩),.string ⟨#[41]⟩] wy (ug ⟨#[41]⟩ N T en r2 d wy)):=fun wy hy=>lX _ hy
   unfold ug at HC
   rw [e41] at HC
   cases h3:gI (bs [41]) en r2 with
   | error er =>
    rw [h3] at HC
    have fin:Hid (gq en l=.error er):=by unfold Hid gq;rw [h1];dsimp only;rw [h2];dsimp only;rw [h3]
    rw [←e41] at HC
    clear h h1 h2 h3 e40 e41
    go_enter Tryz.func82, Tryz.ntmps82
    go_wp2_with (first
     | (go_at_call 79;(with_reducible refine HA.out.mono ?_);rintro e w1 ⟨eF,rfl,gK⟩;have K1:=ah eF;have R1:=ah gK;clear eF gK)
     | (go_at_call 48;(refine (HB.out w1 R1.out).mono ?_);rintro e w2 ⟨iw,rfl,kU⟩;have K2:=ah iw;have R2:=ah kU;clear iw kU)
     | (go_at_call 79;(with_reducible refine (HC.out w2 R2.out).mono ?_);rintro e w3 ⟨eu,rfl⟩;have K3:=ah eu;clear eu))
    refine ⟨rfl,(K1.out.trans K2.out).trans K3.out,?_⟩
    rw [fin.out]
    exact rfl
   | ok r3 =>
    rw [h3] at HC
    dsimp only at HC
    have fin:Hid (gq en l=.ok (nm,r3)):=by unfold Hid gq;rw [h1];dsimp only;rw [h2];dsimp only;rw [h3]
    rw [←e41] at HC
    clear h h1 h2 h3 e40 e41
    go_enter Tryz.func82, Tryz.ntmps82
    go_wp2_with (first
     | (go_at_call 79;(with_reducible refine HA.out.mono ?_);rintro e w1 ⟨eF,rfl,gK⟩;have K1:=ah eF;have R1:=ah gK;clear eF gK)
     | (go_at_call 48;(refine (HB.out w1 R1.out).mono ?_);rintro e w2 ⟨iw,rfl,kU⟩;have K2:=ah iw;have R2:=ah kU;clear iw kU)
     | (go_at_call 79;(with_reducible refine (HC.out w2 R2.out).mono ?_);rintro e w3 ⟨eu,rfl,lD⟩;have K3:=ah eu;have R3:=ah lD;clear eu lD))
    go_ret
    refine ⟨(K1.out.trans K2.out).trans K3.out,?_⟩
    rw [fin.out]
    exact ⟨rfl,R3.out⟩
end Go.Proofs.YtefjbnhpjdhjmaaGreatDoor

namespace Go.Proofs.YtefjbnhpjdhjmaaGreatDoor
set_option linter.all false
open Go.RowKit
set_option maxRecDepth 100000
set_option maxHeartbeats 4000000
def Cc (N T en:Nat) (l:List aF) (d:Nat) (w:World) (e:Ending) (w':World):Prop :=
 Kept (· = N) w w'∧match oZ en l with
  | .ok (p,r)=>(∃v,e=.returned v∧gJ w.heap.size p w' v)∧fA N T en r d w'
  | .error er=>mG er e
theorem MB {n:Nat} {f:Func} (hres:f.results = #[.cell n 27]) {tmps:Array Value} {M:Nat} (ht:tmps.getD n undef=.pointer (some ⟨M,0,none⟩)) {c0 c1 c2 c3 c4:Value} {w:World} (h:Five M c0 c1 c2 c3 c4 w) :
  (results f tmps).run Tryz.prog w=.ok (.agg #[c0,c1,c2,c3,c4]) w:=by
 obtain ⟨h0,h1,h2,h3,h4,_⟩:=h.cells
 have ht':tmps[n]?.getD undef=.pointer (some ⟨M,0,none⟩):=by rw [←ht,Array.getD_eq_getD_getElem?]
 simp [results,hres,go_sem,ht',h0,h1,h2,h3,h4]
theorem Yw {f:Func} (hres:f.results = #[.cell 2 27]) {tmps:Array Value} {M:Nat} (ht:tmps.getD 2 undef=.pointer (some ⟨M,0,none⟩)) {c0 c1 c2 c3 c4:Value} {w2:World} {Q:Ending→World→Prop} (h:Five M c0 c1 c2 c3 c4 w2)
  (hq:Q (.returned (.agg #[c0,c1,c2,c3,c4])) w2):bodyPost Tryz.prog f Q .ret ⟨tmps,[]⟩ w2 :=
 bodyPost_ret (v:=.agg #[c0,c1,c2,c3,c4]) (MB hres ht h) rfl hq
theorem Ef {N T en d:Nat} {l:List aF} {w:World} (h:fA N T en l d w):Calls Tryz.prog 80 #[.pointer (some ⟨N,0,none⟩)] w (Cc N T en l d w):=by
 obtain ⟨hN,hT,hne,h7⟩:=h.mF
 have hb:rV l:=by obtain ⟨_,_,_,h⟩:=h;exact h.good
 obtain ⟨w0,hw0⟩:∃w0,w0=w.alloc (.cells #[.int .i64 0,.string ⟨#[]⟩,.int .i64 0,.string ⟨#[]⟩,.slice none 0 0] 27):=⟨_,rfl⟩
 have k0:Kept aC w w0:=by rw [hw0];exact (Kept.refl _ _).alloc _
 have Z0:Hid (Five w.heap.size (.int .i64 0) (.string ⟨#[]⟩) (.int .i64 0) (.string ⟨#[]⟩) (.slice none 0 0) w0):=by rw [hw0];exact ay w _
 have P0:=h.kept k0 (fun h=>h) (fun h=>h)
 have HT:=ah (uY 4 P0)
 unfold vU at HT
 have K0:=ah k0;have HW0:=ah hw0
 clear k0 hw0 P0 h
 cases ht:gU 4 en l with
 | error er =>
  rw [ht] at HT
  have fin:Hid (oZ en l=.error er):=by unfold Hid oZ;rw [ht]
  clear ht hb
  go_enter Tryz.func80, Tryz.ntmps80
  go_upto_region 1 with fail
  rw [←HW0.out]
  go_wp2_with (go_at_call 77;(refine HT.out.mono ?_);rintro e w1 ⟨eF,rfl⟩;have K1:=ah eF;clear eF)
  refine ⟨rfl,(K0.out.more (fun _ h=>h.elim)).trans K1.out,?_⟩
  rw [fin.out]
  exact rfl
 | ok x =>
  obtain ⟨t,r⟩:=x
  rw [ht] at HT
  dsimp only at HT
  unfold DW at HT
  have htl:t∈l:=by
   cases l with
   | nil=>cases ht
   | cons u v =>
    simp only [gU] at ht
    split at ht
    ·simp only [Except.ok.injEq,Prod.mk.injEq] at ht;obtain ⟨rfl,rfl⟩:=ht;exact List.mem_cons_self ..
    ·cases ht
  obtain ⟨hb1,hb2,hb3,-⟩:=hb t htl
  obtain ⟨p,hp⟩:∃p,p=(nP t.text).1:=⟨_,rfl⟩
  obtain ⟨e1,he1⟩:∃e1,e1=(nP t.text).2.1:=⟨_,rfl⟩
  obtain ⟨e2,he2⟩:∃e2,e2=(nP t.text).2.2:=⟨_,rfl⟩
  rw [←he2] at hb3
  have ZT:Hid (oZ en l=if e1≠0 then .error (e1,t.at_+1+e2) else .ok (p,r)):=by unfold Hid oZ;rw [ht];dsimp only;rw [hp,he1,he2]
  have HRD:Hid (∀wy,Calls Tryz.prog 96 #[.string t.text] wy (fun e w'=>Kept aC wy w'∧∃S ka cap,e=.returned (.tuple #[.agg #[.int .i64 p.kind,.string p.text,.int .i64 p.n,.string p.name,.slice ka p.kids.length cap],.agg #[.int .i64 e1,.int .i64 e2]])∧(∀b,S b→wy.heap.size≤b∧b<w'.heap.size)∧(p.text.size<1000000000∧p.name.size<1000000000∧p.kids.length<1000000000)∧aI w' S ka p.kids)):=by
   intro wy
   refine (Yx t.text wy (by unfold maxLen;omega)).mono ?_
   intro e w' hr
   obtain ⟨k,v,rfl,S,hS,ka,cap,rfl,hz,hk⟩:=acd hr
   rw [←hp] at hz hk
   refine ⟨k,S,ka,cap,?_,hS,hz,hk⟩
   unfold zO
   rw [←hp,←he1,←he2]
  clear hp he1 he2 ht hb htl
  go_enter Tryz.func80, Tryz.ntmps80
  go_upto_region 1 with fail
  rw [←HW0.out]
  go_upto_region 2 with (go_at_call 77;(refine HT.out.mono ?_);rintro e w1 ⟨eF,rfl,gK⟩;have K1:=ah eF;have R1:=ah gK;clear eF gK)
  obtain ⟨w2,hw2⟩:∃w2,w2=w1.alloc (.cells #[.int .i64 t.kind,.string t.text,.int .i64 t.at_] 94):=⟨_,rfl⟩
  have T2:Hid (qI w1.heap.size t w2):=by rw [hw2];exact ay w1 _
  have k2:Kept aC w1 w2:=by rw [hw2];exact (Kept.refl _ _).alloc _
  have R2:=ah (R1.out.kept k2 (fun h=>h) (fun h=>h))
  have K2:Hid (Kept (· = N) w w2):=((K0.out.more (fun _ h=>h.elim)).trans K1.out).trans (k2.more (fun _ h=>h.elim))
  have Z2:=ah ((Z0.out.kept K1.out (by omega)).kept k2 (fun h=>h))
  rw [←hw2]
  obtain ⟨M,hM⟩:∃M,M=w1.heap.size:=⟨_,rfl⟩
  obtain ⟨M2,hM2⟩:∃M,M=w.heap.size:=⟨_,rfl⟩
  rw [←hM] at T2⊢
  rw [←hM2] at Z0 Z2⊢
  have dB:=ah hM2
  clear hw2 k2 hM hM2
  obtain ⟨t0,t1,t2,_⟩:=T2.out.cells
  go_upto_region 3 with (go_at_call 96;(refine (HRD.out w2).mono ?_);rintro e w3 ⟨eu,S,ka,cap,rfl,gy,iL,fJ⟩;have K3:=ah eu;have HS:=ah gy;have HZ:=ah iL;have HK:=ah fJ;clear eu gy iL fJ)
  obtain ⟨w5,hw5⟩:∃w5,w5=(w3.alloc (.cells #[.int .i64 p.kind,.string p.text,.int .i64 p.n,.string p.name,.slice ka p.kids.length cap] 27)).alloc (.cells #[.int .i64 e1,.int .i64 e2] 36):=⟨_,rfl⟩
  have k5:Kept aC w3 w5:=by rw [hw5];exact ((Kept.refl _ _).alloc _).alloc _
  have G5:Hid (Five w3.heap.size (.int .i64 p.kind) (.string p.text) (.int .i64 p.n) (.string p.name) (.slice ka p.kids.length cap) w5):=by rw [hw5];exact Five.kept (ay w3 _) ((Kept.refl aC _).alloc _) (fun h=>h)
  have F5:Hid (Fl (w3.heap.size+1) e1 e2 w5):=by rw [hw5];exact dO (by simp)
  have T5:=ah ((T2.out.kept K3.out (fun h=>h)).kept k5 (fun h=>h))
  have Z5:=ah ((Z2.out.kept K3.out (fun h=>h)).kept k5 (fun h=>h))
  have R5:=ah ((R2.out.kept K3.out (fun h=>h) (fun h=>h)).kept k5 (fun h=>h) (fun h=>h))
  have K5:Hid (Kept (· = N) w w5):=(K2.out.trans (K3.out.more (fun _ h=>h.elim))).trans (k5.more (fun _ h=>h.elim))
  have Vk:Hid (∀b,S b→w.heap.size≤b∧b<w5.heap.size∧b≠M2):=by
   intro b hb
   obtain ⟨x1,x2⟩:=HS.out b hb
   have:=K2.out.size;have:=k5.size;have:=Z2.out.lt
   have:=dB.out
   omega
  have ZU:=ah (HK.out.kept k5 (fun b hb=>⟨(HS.out b hb).2,fun h=>h⟩))
  rw [←hw5]
  obtain ⟨g0,g1,g2,g3,g4,_⟩:=G5.out.cells
  obtain ⟨f0,f1,_,_⟩:=F5.out.cells
  obtain ⟨z0,z1,z2,z3,z4,zf⟩:=Z5.out.cells
  have xW:=zf 0;have xX:=zf 1;have xY:=zf 2;have yH:=zf 3;have yI:=zf 4
  clear t0 t1 t2 zf hw5 k5
  obtain ⟨t0,t1,t2,_⟩:=T5.out.cells
  by_cases he:e1=0
  ·have y:(e1 != 0)=false:=by simpa using he
   have fin:Hid (oZ en l=.ok (p,r)):=by unfold Hid;rw [ZT.out,if_neg (by simp [he])]
   clear he
   go_wp2_with fail
   refine Yw rfl rfl (Z5.out.bI _ _ _ _ _) ?_
   have k6:Kept (· = M2) w5 (bI w5 M2 (.int .i64 p.kind) (.string p.text) (.int .i64 p.n) (.string p.name) (.slice ka p.kids.length cap)):=(Kept.refl (· = M2) w5).bI (.inl rfl) _ _ _ _ _
   refine ⟨K5.out.step k6 (fun y hy=>.inr (by have:=dB.out;omega)),?_⟩
   rw [fin.out]
   exact ⟨⟨_,rfl,S,fun b hb=>⟨(Vk.out b hb).1,Nat.lt_of_lt_of_le (Vk.out b hb).2.1 k6.size⟩,ka,cap,rfl,HZ.out,ZU.out.kept k6 (fun b hb=>⟨(Vk.out b hb).2.1,(Vk.out b hb).2.2⟩)⟩,R5.out.kept k6 (by have:=dB.out;omega) (by have:=dB.out;omega) (by have:=dB.out;omega)⟩
  ·have y:(e1 != 0)=true:=by simpa using he
   have fin:Hid (oZ en l=.error (e1,t.at_+1+e2)):=by unfold Hid;rw [ZT.out,if_pos he]
   have hsum:(t.at_:Int)+1+(e2:Int)=((t.at_+1+e2:Nat):Int):=by omega
   obtain ⟨s3,hs3⟩:∃s3:Nat,s3=t.at_+1+e2:=⟨_,rfl⟩
   rw [←hs3] at hsum fin
   clear he hs3
   go_wp2_with (go_at_call 53;(refine (fG _ e1 s3 w5).mono ?_);rintro e w6 ⟨rfl,rfl⟩)
   refine ⟨rfl,K5.out,?_⟩
   rw [fin.out]
   exact rfl
end Go.Proofs.YtefjbnhpjdhjmaaGreatDoor

namespace Go.Proofs.YtefjbnhpjdhjmaaGreatDoor
set_option linter.all false
open Go.RowKit Go.Maps Go.WideMaps
set_option maxRecDepth 100000
set_option maxHeartbeats 4000000
theorem pU.su {w:World} {B n:Nat} {m:aj→Option Int} (h:pU w B n m) (s:aj) (hs:s.size≤maxLen) :
  (Instr.lookup 155 (.map (some B)) (.string s) false).run Tryz.prog w=.ok (.int .i64 ((m s).getD 0)) w:=by
 obtain ⟨D,hown,hmap,hD⟩:=h
 obtain ⟨c,hrun,hat,_⟩:=hown.lookup_int Uy Tryz.underlying155 Tryz.underlying3 (aav w) (keyOf_string_mk Tryz.underlying9 hs)
 obtain ⟨h1,h2⟩:=hD s
 rw [h2] at hat
 rw [hrun]
 cases hms:m s with
 | none=>rw [hms] at hat;simp only [DataW.lit.injEq,Lit.int.injEq,true_and] at hat;subst hat;rfl
 | some d=>rw [hms] at hat;simp only [DataW.lit.injEq,Lit.int.injEq,true_and] at hat;subst hat;rfl
theorem pU.aaw {w:World} {B n:Nat} {m:aj→Option Int} (h:pU w B n m) (hn:n<maxLen) (s:aj) (hs:s.size≤maxLen) (c:Int) (hc:(Lit.int .i64 c).wf=true) :
  ∃w',(Instr.mapUpdate 155 (.map (some B)) (.string s) (.int .i64 c)).run Tryz.prog w=.ok () w'∧pU w' B (n+1) (yw m s c)∧Kept (· = B) w w':=by
 obtain ⟨D,hown,hmap,hD⟩:=h
 obtain ⟨w',hrun,hown',hgr⟩:=hown.update Uy Tryz.underlying155 hn (val:=.int .i64 c) (d:=.lit (.int .i64 c)) (ps:=[]) (keyOf_string_mk Tryz.underlying9 hs) (plainElem_int Tryz.underlying3 hc)
 refine ⟨w',hrun,⟨_,hown',?_,fun t=>?_⟩,(Kept.refl (· = B) w).grown hgr fun k hk=>.inl (by cases hk;rfl)⟩
 ·obtain ⟨es,rfl⟩:=hmap;exact ⟨_,rfl⟩
 ·have hkl:WideAt.IsKeyLit (Lit.string s.data.toList):=by first|exact .string _|trivial|(simp [WideAt.IsKeyLit])
  unfold yw
  by_cases ht:t=s
  ·subst ht
   rw [if_pos rfl]
   exact ⟨has_put_same hmap hkl _,fun z=>atKey_put_same hmap hkl _ z⟩
  ·rw [if_neg ht]
   exact ⟨(has_put_other (Np ht) _).trans (hD t).1,fun z=>(atKey_put_other (Np ht) _ z).trans ((hD t).2 z)⟩
theorem tK {w:World} {ops:Array Oper} {rest:List Oper} {o:Oper} {a:Act} {Q:Exit→Act→World→Prop} (hg:o.guard=none) (p x y:Operand) (hop:o.op=Op.insert 155 p x y)
  {B n:Nat} {m:aj→Option Int} (hm:a.eval p=.map (some B)) (h:pU w B n m) (hn:n<maxLen) (s:aj) (hx:a.eval x=.string s) (hs:s.size≤maxLen) (c:Int) (hy:a.eval y=.int .i64 c) (hc:(Lit.int .i64 c).wf=true)
  (hK:∀w',pU w' B (n+1) (yw m s c)→Kept (· = B) w w'→wpList Tryz.prog ops Q rest (a.put o.dst undef) w'):wpList Tryz.prog ops Q (o::rest) a w:=by
 obtain ⟨w',hrun,hv,hk⟩:=h.aaw hn s hs c hc
 refine wpList_plain hg fun K' hK'=>?_
 unfold Oper.wp
 simp [execOp,hop,hm,hx,hy,hrun,Result.andThen]
 exact hK' _ _ (hK w' hv hk)
def Du (bU:Nat) (s:aj):Option Int:=if Bo bU s=0 then none else some (Bo bU s)
theorem aax (bU:Nat) (s:aj):(Du bU s).getD 0=Bo bU s:=by
 unfold Du;split
 ·rename_i h;rw [h];rfl
 ·rfl
theorem aew:yw (fun _=>none) ⟨#[38]⟩ 8=Du 1:=by
 funext s
 have e:bs [38]=⟨#[38]⟩:=rfl
 unfold yw Du Bo
 rw [e]
 by_cases h:s=⟨#[38]⟩<;>simp [h]
theorem aex:yw (yw (fun _=>none) ⟨#[43]⟩ 9) ⟨#[45]⟩ 10=Du 2:=by
 funext s
 have e1:bs [43]=⟨#[43]⟩:=rfl
 have e2:bs [45]=⟨#[45]⟩:=rfl
 have n12:¬(⟨#[45]⟩:aj)=⟨#[43]⟩:=by decide
 unfold yw Du Bo
 rw [e1,e2]
 by_cases h:s=⟨#[43]⟩
 ·subst h;simp
 ·by_cases h2:s=⟨#[45]⟩<;>simp [h,h2]
theorem aey:yw (yw (yw (fun _=>none) ⟨#[42]⟩ 11) ⟨#[47]⟩ 12) ⟨#[37]⟩ 13=Du 3:=by
 funext s
 have e1:bs [42]=⟨#[42]⟩:=rfl
 have e2:bs [47]=⟨#[47]⟩:=rfl
 have e3:bs [37]=⟨#[37]⟩:=rfl
 unfold yw Du Bo
 rw [e1,e2,e3]
 by_cases h:s=⟨#[42]⟩
 ·subst h;simp
 ·by_cases h2:s=⟨#[47]⟩
  ·subst h2;simp
  ·by_cases h3:s=⟨#[37]⟩<;>simp [h,h2,h3]
structure yN (lo B:Nat) (w:World):Prop where
 low:lo≤B
 maps:∃m1 m2 m3 n1 n2 n3,lo≤m1∧lo≤m2∧lo≤m3∧w.heap[B]?=some (.cells #[.map (some m1),.map (some m2),.map (some m3)] 155 (0,0))∧pU w m1 n1 (Du 1)∧pU w m2 n2 (Du 2)∧pU w m3 n3 (Du 3)
theorem yN.kept {lo B:Nat} {w w':World} {X:Nat→Prop} (h:yN lo B w) (hk:Kept X w w') (hx:∀b,X b→b<lo):yN lo B w':=by
 obtain ⟨h0,m1,m2,m3,n1,n2,n3,l1,l2,l3,hb,a1,a2,a3⟩:=h
 have hB:B<w.heap.size:=(Array.getElem?_eq_some_iff.1 hb).1
 exact ⟨h0,m1,m2,m3,n1,n2,n3,l1,l2,l3,by rw [hk.block B hB (fun h=>by have:=hx _ h;omega)];exact hb,a1.kept hk (fun h=>by have:=hx _ h;omega),a2.kept hk (fun h=>by have:=hx _ h;omega),a3.kept hk (fun h=>by have:=hx _ h;omega)⟩
theorem yN.lt {lo B:Nat} {w:World} (h:yN lo B w):B<w.heap.size:=by
 obtain ⟨h0,m1,m2,m3,n1,n2,n3,l1,l2,l3,hb,_⟩:=h
 exact (Array.getElem?_eq_some_iff.1 hb).1
def aez (w:World) (e:Ending) (w':World):Prop:=∃B,e=.returned (.slice (some ⟨B,0,none⟩) 3 3)∧yN w.heap.size B w'∧Kept aC w w'
theorem Ib (w:World):Calls Tryz.prog 98 #[] w (aez w):=by
 have hmk:=fun (wx:World)=>run_makeMap (P:=Tryz.prog) 155 wx
 have M1:=ah (pU.made w)
 have K1:Hid (Kept aC w (w.alloc (.map #[] 0))):=(Kept.refl _ _).alloc _
 go_enter Tryz.func98, Tryz.ntmps98
 go_wp2_with (first
  | (refine tK rfl _ _ _ rfl rfl M1.out (by decide) ⟨#[38]⟩ rfl (by decide) 8 rfl (by decide) ?_;intro w2 m_ k_;have M2:=ah m_;have K2:Hid (Kept aC w w2):=K1.out.step k_ (fun y hy=>.inr (Nat.le_of_eq hy.symm));have N2:=ah (pU.made w2);have M2':=ah (M2.out.kept ((Kept.refl aC w2).alloc (.map #[] 0)) (fun h=>h));have qx:Hid (Kept aC w (w2.alloc (.map #[] 0))):=K2.out.alloc _;have H2:Hid (w.heap.size<w2.heap.size):=M2.out.lt;clear m_ k_)
  | (refine tK rfl _ _ _ rfl rfl N2.out (by decide) ⟨#[43]⟩ rfl (by decide) 9 rfl (by decide) ?_;intro w3 m_ k_;have N3:=ah m_;have M3:=ah (M2'.out.kept k_ (by have:=H2.out;omega));have K3:Hid (Kept aC w w3):=qx.out.step k_ (fun y hy=>.inr (by have:=H2.out;omega));clear m_ k_)
  | (refine tK rfl _ _ _ rfl rfl N3.out (by decide) ⟨#[45]⟩ rfl (by decide) 10 rfl (by decide) ?_;intro w4 m_ k_;have N4:=ah m_;have M4:=ah (M3.out.kept k_ (by have:=H2.out;omega));have K4:Hid (Kept aC w w4):=K3.out.step k_ (fun y hy=>.inr (by have:=H2.out;omega));have O4:=ah (pU.made w4);have M4':=ah (M4.out.kept ((Kept.refl aC w4).alloc (.map #[] 0)) (fun h=>h));have N4':=ah (N4.out.kept ((Kept.refl aC w4).alloc (.map #[] 0)) (fun h=>h));have K4':Hid (Kept aC w (w4.alloc (.map #[] 0))):=K4.out.alloc _;have H4:Hid (w2.heap.size<w4.heap.size):=N4.out.lt;clear m_ k_)
  | (refine tK rfl _ _ _ rfl rfl O4.out (by decide) ⟨#[42]⟩ rfl (by decide) 11 rfl (by decide) ?_;intro w5 m_ k_;have O5:=ah m_;have M5:=ah (M4'.out.kept k_ (by have:=H2.out;have:=H4.out;omega));have N5:=ah (N4'.out.kept k_ (by have:=H4.out;omega));have K5:Hid (Kept aC w w5):=K4'.out.step k_ (fun y hy=>.inr (by have:=H2.out;have:=H4.out;omega));clear m_ k_)
  | (refine tK rfl _ _ _ rfl rfl O5.out (by decide) ⟨#[47]⟩ rfl (by decide) 12 rfl (by decide) ?_;intro w6 m_ k_;have O6:=ah m_;have M6:=ah (M5.out.kept k_ (by have:=H2.out;have:=H4.out;omega));have N6:=ah (N5.out.kept k_ (by have:=H4.out;omega));have K6:Hid (Kept aC w w6):=K5.out.step k_ (fun y hy=>.inr (by have:=H2.out;have:=H4.out;omega));clear m_ k_)
  | (refine tK rfl _ _ _ rfl rfl O6.out (by decide) ⟨#[37]⟩ rfl (by decide) 13 rfl (by decide) ?_;intro w7 m_ k_;have O7:=ah m_;have M7:=ah (M6.out.kept k_ (by have:=H2.out;have:=H4.out;omega));have N7:=ah (N6.out.kept k_ (by have:=H4.out;omega));have K7:Hid (Kept aC w w7):=K6.out.step k_ (fun y hy=>.inr (by have:=H2.out;have:=H4.out;omega));clear m_ k_))
 go_ret
 have k8:Kept aC w7 (w7.alloc (.cells #[.map (some w.heap.size),.map (some w2.heap.size),.map (some w4.heap.size)] 155)):=(Kept.refl _ _).alloc _
 have M8:=M7.out.kept k8 (fun h=>h)
 have N8:=N7.out.kept k8 (fun h=>h)
 have O8:=O7.out.kept k8 (fun h=>h)
 rw [aew] at M8
 rw [aex] at N8
 rw [aey] at O8
 have h2:=H2.out;have h4:=H4.out
 exact ⟨w7.heap.size,rfl,⟨K7.out.size,_,_,_,_,_,_,Nat.le_refl _,by omega,by omega,ay w7 _,M8,N8,O8⟩,K7.out.trans k8⟩
end Go.Proofs.YtefjbnhpjdhjmaaGreatDoor

namespace Go.Proofs.YtefjbnhpjdhjmaaGreatDoor
set_option linter.all false
open Go.RowKit
def dJ (M:Nat) (c0 c1 c2 c3 c4:Value) (w:World):Prop:=w.heap[M]?=some (.cells #[c0,c1,c2,c3,c4] 24 (0,0))
theorem dJ.lt {M:Nat} {c0 c1 c2 c3 c4:Value} {w:World} (h:dJ M c0 c1 c2 c3 c4 w):M<w.heap.size:=(Array.getElem?_eq_some_iff.1 h).1
theorem dJ.kept {M:Nat} {c0 c1 c2 c3 c4:Value} {w w':World} {X:Nat→Prop} (h:dJ M c0 c1 c2 c3 c4 w) (hk:Kept X w w') (hx:¬X M):dJ M c0 c1 c2 c3 c4 w':=by
 unfold dJ;rw [hk.block M h.lt hx];exact h
theorem dJ.cells {M:Nat} {c0 c1 c2 c3 c4:Value} {w:World} (h:dJ M c0 c1 c2 c3 c4 w):w.cell? ⟨M,0,none⟩=some c0∧w.cell? ⟨M,1,none⟩=some c1∧w.cell? ⟨M,2,none⟩=some c2∧w.cell? ⟨M,3,none⟩=some c3∧w.cell? ⟨M,4,none⟩=some c4∧∀o,w.frozen? ⟨M,o,none⟩=false:=by
 unfold dJ at h
 refine ⟨?_,?_,?_,?_,?_,fun o=>by simp [World.frozen?,h]⟩<;>(rw [cell_of_row w M _ _ _ _ h];rfl)
theorem dJ.bI {M:Nat} {z0 z1 z2 z3 z4:Value} {w:World} (h:dJ M z0 z1 z2 z3 z4 w) (c0 c1 c2 c3 c4:Value):dJ M c0 c1 c2 c3 c4 (bI w M c0 c1 c2 c3 c4):=by
 unfold dJ at h⊢
 unfold Go.Proofs.YtefjbnhpjdhjmaaGreatDoor.bI
 rw [aK (aK (aK (aK (aK h _) _) _) _) _];rfl
theorem kK (n:Nat) {f:Func} (hres:f.results = #[.cell n 24]) {tmps:Array Value} {M:Nat} (ht:tmps.getD n undef=.pointer (some ⟨M,0,none⟩)) {c0 c1 c2 c3 c4:Value} {w2:World} {Q:Ending→World→Prop} (h:dJ M c0 c1 c2 c3 c4 w2)
  (hq:Q (.returned (.agg #[c0,c1,c2,c3,c4])) w2):bodyPost Tryz.prog f Q .ret ⟨tmps,[]⟩ w2:=by
 obtain ⟨h0,h1,h2,h3,h4,_⟩:=h.cells
 have ht':tmps[n]?.getD undef=.pointer (some ⟨M,0,none⟩):=by rw [←ht,Array.getD_eq_getD_getElem?]
 exact bodyPost_ret (v:=.agg #[c0,c1,c2,c3,c4]) (by simp [results,hres,go_sem,ht',h0,h1,h2,h3,h4]) rfl hq
def XQ (N T en d:Nat) (r:cO aA) (w:World) (e:Ending) (w':World):Prop :=
 Kept (· = N) w w'∧match r with
  | .ok (p,l)=>(∃v,e=.returned v∧gJ w.heap.size p w' v)∧fA N T en l d w'
  | .error er=>mG er e
theorem XQ.ok {N T en d:Nat} {r:cO aA} {w:World} {e:Ending} {w':World} {p:aA} {l:List aF} (h:XQ N T en d r w e w') (hr:r=.ok (p,l)) :
  Kept (· = N) w w'∧fA N T en l d w'∧∃S ka cap,e=.returned (.agg #[.int .i64 p.kind,.string p.text,.int .i64 p.n,.string p.name,.slice ka p.kids.length cap])∧(∀b,S b→w.heap.size≤b∧b<w'.heap.size)∧(p.text.size<1000000000∧p.name.size<1000000000∧p.kids.length<1000000000)∧aI w' S ka p.kids:=by
 subst hr
 obtain ⟨k,⟨v,rfl,S,hS,ka,cap,rfl,hz,hk⟩,hp⟩:=h
 exact ⟨k,hp,S,ka,cap,rfl,hS,hz,hk⟩
theorem XQ.bad {N T en d:Nat} {r:cO aA} {w:World} {e:Ending} {w':World} {er:Er} (h:XQ N T en d r w e w') (hr:r=.error er):Kept (· = N) w w'∧mG er e:=by
 subst hr;exact h
def JF (N T en d:Nat) (f:List aF→cO aA):Prop:=∀(l:List aF) (w:World),fA N T en l d w→Calls Tryz.prog 111 #[.pointer (some ⟨N,0,none⟩)] w (XQ N T en d (f l) w)
def JC (N T en d:Nat) (f:List aF→cO aA):Prop:=∀(l:List aF) (w:World),fA N T en l d w→Calls Tryz.prog 119 #[.pointer (some ⟨N,0,none⟩)] w (XQ N T en d (f l) w)
def Gx (N T en d:Nat) (f:List aF→cO aA):Prop:=∀(l:List aF) (w:World),fA N T en l d w→Calls Tryz.prog 81 #[.pointer (some ⟨N,0,none⟩)] w (XQ N T en d (f l) w)
theorem uX.qy {N T en n c d:Nat} {a:Option Addr} {l:List aF} {w:World} (h:uX N T en n a c l d w) (k:Nat):uX N T en n a c l k (w.setCell ⟨N,2,none⟩ (.int .i64 k)):=by
 have hk:Kept (· = N) w (w.setCell ⟨N,2,none⟩ (.int .i64 k)):=(Kept.refl (· = N) w).setCell (p:=⟨N,2,none⟩) (.inl rfl) _
 exact ⟨by rw [aK h.blk];rfl,h.num,h.cap,fun hl=>by obtain ⟨o,e,hc⟩:=h.toks hl;exact ⟨o,e,fun j u hu=>(hk.cell h.lt (fun e=>h.ne e.symm)).trans (hc j u hu)⟩,h.ne,Nat.lt_of_lt_of_le h.lt hk.size,h.small,h.good,h.old,by obtain ⟨ev,h1,h2⟩:=h.rng;exact ⟨ev,(hk.cell (Nat.lt_trans h.old h.mF) (Nat.ne_of_lt h.old)).trans h1,h2⟩⟩
theorem fA.qy {N T en d:Nat} {l:List aF} {w:World} (h:fA N T en l d w) (k:Nat):fA N T en l k (w.setCell ⟨N,2,none⟩ (.int .i64 k)):=by
 obtain ⟨n,a,c,h⟩:=h;exact ⟨n,a,c,h.qy k⟩
theorem fA.deep {N T en d:Nat} {l:List aF} {w:World} (h:fA N T en l d w):w.cell? ⟨N,2,none⟩=some (.int .i64 d)∧w.frozen? ⟨N,2,none⟩=false:=by
 obtain ⟨n,a,c,h⟩:=h;exact ⟨h.c0.2.2.1,h.c0.2.2.2 2⟩
end Go.Proofs.YtefjbnhpjdhjmaaGreatDoor

namespace Go.Proofs.YtefjbnhpjdhjmaaGreatDoor
set_option linter.all false
open Go.RowKit
set_option maxRecDepth 100000
set_option maxHeartbeats 4000000
theorem Rw {g:Nat} {q:aA} {ka:Option Addr} {cap:Nat} {w:World} {S:Nat→Prop} (F:dJ g (.int .i64 q.kind) (.string q.text) (.int .i64 q.n) (.string q.name) (.slice ka q.kids.length cap) w) (hz:q.text.size<1000000000∧q.name.size<1000000000∧q.kids.length<1000000000) (hk:aI w S ka q.kids) (hS:∀b,S b→b<w.heap.size) :
  aI w (fun b=>S b∨b=g) (some ⟨g,0,none⟩) [q]:=by
 obtain ⟨c0,c1,c2,c3,c4,_⟩:=F.cells
 obtain ⟨k,t,n,nm,kids⟩:=q
 have hk':aI w (fun b=>S b∨b=g) ka kids:=aI.to hk (Kept.refl aC w) (fun b hb=>⟨hS b hb,fun h=>h⟩) (fun _ h=>.inl h)
 have hp:dH w (fun b=>S b∨b=g) g 0 (.mk k t n nm kids):=by
  unfold dH
  exact ⟨.inr rfl,hz,c0,c1,c2,c3,ka,cap,c4,hk'⟩
 unfold aI
 exact ⟨g,0,rfl,hp,by unfold aI;trivial⟩
theorem U2 {N T en d:Nat} {un pr:List aF→cO aA} (HP:JC N T en d pr) {l:List aF} {w:World} (h:fA N T en l d w) (hs:aJ (bs [45]) l=false):Calls Tryz.prog 111 #[.pointer (some ⟨N,0,none⟩)] w (XQ N T en d (vC un pr l) w):=by
 obtain ⟨hN,hT,hne,h7⟩:=h.mF
 obtain ⟨w0,hw0⟩:∃w0,w0=w.alloc (.cells #[.int .i64 0,.string ⟨#[]⟩,.int .i64 0,.string ⟨#[]⟩,.slice none 0 0] 24):=⟨_,rfl⟩
 have k0:Kept aC w w0:=by rw [hw0];exact (Kept.refl _ _).alloc _
 obtain ⟨M2,hM2⟩:∃M,M=w.heap.size:=⟨_,rfl⟩
 have Z0:Hid (dJ M2 (.int .i64 0) (.string ⟨#[]⟩) (.int .i64 0) (.string ⟨#[]⟩) (.slice none 0 0) w0):=by rw [hw0,hM2];exact ay w _
 have HI:=ah (yZ (bs [45]) (h.kept k0 (fun h=>h) (fun h=>h)))
 unfold BU at HI
 rw [hs] at HI
 have er:vC un pr l=pr l:=by unfold vC;rw [hs];rfl
 rw [er]
 have K0:=ah k0;have HW0:=ah hw0;have dB:=ah hM2;have UU:=ah HP
 clear k0 hw0 hM2 HP h hs er
 cases hp:pr l with
 | error er =>
  go_enter Tryz.func111, Tryz.ntmps111
  go_upto_region 1 with fail
  rw [←HW0.out,←dB.out]
  go_wp2_with (first
   | (go_at_call 51;(refine HI.out.mono ?_);rintro e w1 ⟨rfl,gK,eF⟩;have R1:=ah gK;have K1:=ah eF;clear gK eF)
   | (go_at_call 119;(refine (UU.out l w1 R1.out).mono ?_);intro e w2 Ll;obtain ⟨iw,rfl⟩:=Ll.bad hp;have K2:=ah iw;clear iw Ll))
  exact ⟨rfl,((K0.out.more (fun _ h=>h.elim)).trans K1.out).trans K2.out,rfl⟩
 | ok x =>
  obtain ⟨p,r⟩:=x
  go_enter Tryz.func111, Tryz.ntmps111
  go_upto_region 1 with fail
  rw [←HW0.out,←dB.out]
  go_wp2_with (first
   | (go_at_call 51;(refine HI.out.mono ?_);rintro e w1 ⟨rfl,gK,eF⟩;have R1:=ah gK;have K1:=ah eF;have Z1:=ah (Z0.out.kept eF (by have:=dB.out;omega));clear gK eF)
   | (go_at_call 119;(refine (UU.out l w1 R1.out).mono ?_);intro e w2 Ll;obtain ⟨iw,kU,S,ka,cap,rfl,gy,iL,fJ⟩:=Ll.ok hp;have K2:=ah iw;have R2:=ah kU;have HS:=ah gy;have HZ:=ah iL;have HK:=ah fJ;have Z2:=ah (Z1.out.kept iw (by have:=dB.out;omega));obtain ⟨z0,z1,z2,z3,z4,zf⟩:=Z2.out.cells;have xW:=zf 0;have xX:=zf 1;have xY:=zf 2;have yH:=zf 3;have yI:=zf 4;clear zf iw kU gy iL fJ Ll))
  refine kK 2 rfl rfl (Z2.out.bI _ _ _ _ _) ?_
  have k6:Kept (· = M2) w2 (bI w2 M2 (.int .i64 p.kind) (.string p.text) (.int .i64 p.n) (.string p.name) (.slice ka p.kids.length cap)):=(Kept.refl (· = M2) w2).bI (.inl rfl) _ _ _ _ _
  have K5:Kept (· = N) w w2:=((K0.out.more (fun _ h=>h.elim)).trans K1.out).trans K2.out
  have hS:∀b,S b→w.heap.size≤b∧b<w2.heap.size∧b≠M2:=by
   intro b hb
   obtain ⟨x1,x2⟩:=HS.out b hb
   have:=K0.out.size;have:=K1.out.size;have:=Z1.out.lt;have:=dB.out
   omega
  exact ⟨K5.step k6 (fun y hy=>.inr (by have:=dB.out;omega)),⟨_,rfl,S,fun b hb=>⟨(hS b hb).1,Nat.lt_of_lt_of_le (hS b hb).2.1 k6.size⟩,ka,cap,rfl,HZ.out,HK.out.kept k6 (fun b hb=>⟨(hS b hb).2.1,(hS b hb).2.2⟩)⟩,R2.out.kept k6 (by have:=dB.out;omega) (by have:=dB.out;omega) (by have:=dB.out;omega)⟩
end Go.Proofs.YtefjbnhpjdhjmaaGreatDoor

namespace Go.Proofs.YtefjbnhpjdhjmaaGreatDoor
set_option linter.all false
open Go.RowKit
set_option maxRecDepth 100000
set_option maxHeartbeats 8000000
theorem ads (q:aA):(E0.size<1000000000)∧(E0.size<1000000000)∧([q]:List aA).length<1000000000:=⟨by decide,by decide,by simp⟩
theorem Yn {N T en:Nat} {pr:List aF→cO aA} {l:List aF} {w:World} (h:fA N T en l 400 w) (hs:aJ (bs [45]) l=true):Calls Tryz.prog 111 #[.pointer (some ⟨N,0,none⟩)] w (XQ N T en 400 (vC (fun l=>.error (4,fO en l)) pr l) w):=by
 obtain ⟨d,hd⟩:∃d:Nat,d=400:=⟨_,rfl⟩
 rw [←hd] at h⊢
 have er:Hid (vC (fun l=>.error (4,fO en l)) pr l=.error (4,fO en l.tail)):=by unfold Hid vC;rw [hs];rfl
 obtain ⟨hN,hT,hne,h7⟩:=h.mF
 obtain ⟨w0,hw0⟩:∃w0,w0=w.alloc (.cells #[.int .i64 0,.string ⟨#[]⟩,.int .i64 0,.string ⟨#[]⟩,.slice none 0 0] 24):=⟨_,rfl⟩
 have k0:Kept aC w w0:=by rw [hw0];exact (Kept.refl _ _).alloc _
 obtain ⟨M2,hM2⟩:∃M,M=w.heap.size:=⟨_,rfl⟩
 have Z0:Hid (dJ M2 (.int .i64 0) (.string ⟨#[]⟩) (.int .i64 0) (.string ⟨#[]⟩) (.slice none 0 0) w0):=by rw [hw0,hM2];exact ay w _
 have HI:=ah (yZ (bs [45]) (h.kept k0 (fun h=>h) (fun h=>h)))
 unfold BU at HI
 rw [hs] at HI
 simp only [if_true] at HI
 obtain ⟨lr,hlr⟩:∃lr,lr=l.tail:=⟨_,rfl⟩
 rw [←hlr] at HI
 have K0:=ah k0;have HW0:=ah hw0;have dB:=ah hM2
 obtain ⟨d1,hd1⟩:∃d1:Nat,d1=d+1:=⟨_,rfl⟩
 have hdi:(d:Int)+1=(d1:Int):=by omega
 clear k0 hw0 hM2 h
 rw [←hlr] at er
 have g1:decide ((400:Int)<(d1:Int))=true:=ak (by omega)
 have g2:decide (400<d1)=true:=ak (by omega)
 have hb:d1≤1000:=by omega
 have HD:=ah hd1
 clear hs hlr hd hd1
 go_enter Tryz.func111, Tryz.ntmps111
 go_upto_region 1 with fail
 rw [←HW0.out,←dB.out]
 go_upto_region 4 with (go_at_call 51;(refine HI.out.mono ?_);rintro e w1 ⟨rfl,gK,eF⟩;have R1:=ah gK;have K1:=ah eF;have Z1:=ah (Z0.out.kept eF (by have:=dB.out;omega));obtain ⟨q2,qK⟩:=gK.deep;clear gK eF)
 obtain ⟨w2,hw2⟩:∃w2,w2=w1.setCell ⟨N,2,none⟩ (.int .i64 (d1:Int)):=⟨_,rfl⟩
 have r2:=R1.out.qy d1
 rw [←hw2] at r2⊢
 have k2:Kept (· = N) w1 w2:=by rw [hw2];exact (Kept.refl (· = N) w1).setCell (p:=⟨N,2,none⟩) (.inl rfl) _
 have K2:=ah k2
 clear hw2 k2 q2 qK
 obtain ⟨q2,qK⟩:=r2.deep
 obtain ⟨n2,a2,c2,r2⟩:=r2
 have HA:=ah (o8 r2)
 clear r2
 go_wp2_with (first
  | (go_at_call 54;(refine HA.out.mono ?_);rintro e w' ⟨rfl,aQ⟩;obtain rfl:=aQ.symm)
  | (go_at_call 53;(refine (fG _ 4 (fO en lr) w2).mono ?_);rintro e w3 ⟨rfl,rfl⟩))
 refine ⟨rfl,((K0.out.more (fun _ h=>h.elim)).trans K1.out).trans K2.out,?_⟩
 rw [er.out]
 exact rfl
theorem Yo {N T en d:Nat} {un pr:List aF→cO aA} (hd:d<400) (HU:JF N T en (d+1) un) {l:List aF} {w:World} (h:fA N T en l d w) (hs:aJ (bs [45]) l=true):Calls Tryz.prog 111 #[.pointer (some ⟨N,0,none⟩)] w (XQ N T en d (vC un pr l) w):=by
 have er:Hid (vC un pr l=match un l.tail with | .error er=>.error er | .ok (x,r)=>.ok (node1 7 x,r)):=by unfold Hid vC;rw [hs];rfl
 obtain ⟨hN,hT,hne,h7⟩:=h.mF
 obtain ⟨w0,hw0⟩:∃w0,w0=w.alloc (.cells #[.int .i64 0,.string ⟨#[]⟩,.int .i64 0,.string ⟨#[]⟩,.slice none 0 0] 24):=⟨_,rfl⟩
 have k0:Kept aC w w0:=by rw [hw0];exact (Kept.refl _ _).alloc _
 obtain ⟨M2,hM2⟩:∃M,M=w.heap.size:=⟨_,rfl⟩
 have Z0:Hid (dJ M2 (.int .i64 0) (.string ⟨#[]⟩) (.int .i64 0) (.string ⟨#[]⟩) (.slice none 0 0) w0):=by rw [hw0,hM2];exact ay w _
 have HI:=ah (yZ (bs [45]) (h.kept k0 (fun h=>h) (fun h=>h)))
 unfold BU at HI
 rw [hs] at HI
 simp only [if_true] at HI
 obtain ⟨lr,hlr⟩:∃lr,lr=l.tail:=⟨_,rfl⟩
 rw [←hlr] at HI
 have K0:=ah k0;have HW0:=ah hw0;have dB:=ah hM2
 obtain ⟨d1,hd1⟩:∃d1:Nat,d1=d+1:=⟨_,rfl⟩
 have hdi:(d:Int)+1=(d1:Int):=by omega
 clear k0 hw0 hM2 h
 rw [←hlr] at er
 rw [←hd1] at HU
 have g1:decide ((400:Int)<(d1:Int))=false:=au (by omega)
 have g2:decide (400<d1)=false:=au (by omega)
 have hb:d1≤1000:=by omega
 have hb1:1≤d1:=by omega
 have hdj:(d1:Int)-1=(d:Int):=by omega
 have Vz:=ah HU
 clear hs hlr hd1 HU
 go_enter Tryz.func111, Tryz.ntmps111
 go_upto_region 1 with fail
 rw [←HW0.out,←dB.out]
 go_upto_region 4 with (go_at_call 51;(refine HI.out.mono ?_);rintro e w1 ⟨rfl,gK,eF⟩;have R1:=ah gK;have K1:=ah eF;have Z1:=ah (Z0.out.kept eF (by have:=dB.out;omega));obtain ⟨q2,qK⟩:=gK.deep;clear gK eF)
 obtain ⟨w2,hw2⟩:∃w2,w2=w1.setCell ⟨N,2,none⟩ (.int .i64 (d1:Int)):=⟨_,rfl⟩
 have r2:=R1.out.qy d1
 rw [←hw2] at r2⊢
 have k2:Kept (· = N) w1 w2:=by rw [hw2];exact (Kept.refl (· = N) w1).setCell (p:=⟨N,2,none⟩) (.inl rfl) _
 have K2:=ah k2;have R2:=ah r2
 have Z2:=ah (Z1.out.kept k2 (by have:=dB.out;omega))
 have Em:Hid (Kept (· = N) w w2):=((K0.out.more (fun _ h=>h.elim)).trans K1.out).trans k2
 clear hw2 k2 q2 qK
 obtain ⟨q2,qK⟩:=r2.deep
 clear r2
 cases hu:un lr with
 | error e0 =>
  rw [hu] at er
  go_wp2_with (go_at_call 111;(refine (Vz.out lr w2 R2.out).mono ?_);intro e w3 iD;obtain ⟨eu,rfl⟩:=iD.bad hu;have K3:=ah eu;clear eu iD)
  refine ⟨rfl,Em.out.trans K3.out,?_⟩
  rw [er.out]
  exact rfl
 | ok x =>
  obtain ⟨p,r⟩:=x
  rw [hu] at er
  dsimp only at er
  go_upto_region 7 with (go_at_call 111;(refine (Vz.out lr w2 R2.out).mono ?_);intro e w3 iD;obtain ⟨eu,lD,S,ka,cap,rfl,gy,iL,fJ⟩:=iD.ok hu;have K3:=ah eu;have R3:=ah lD;have HS:=ah gy;have HZ:=ah iL;have HK:=ah fJ;clear eu lD gy iL fJ iD)
  obtain ⟨w5,hw5⟩:∃w5,w5=(w3.alloc (.cells #[.int .i64 p.kind,.string p.text,.int .i64 p.n,.string p.name,.slice ka p.kids.length cap] 24)).alloc (.cells #[.int .i64 7,.string ⟨#[]⟩,.int .i64 0,.string ⟨#[]⟩,.slice (some ⟨w3.heap.size,0,none⟩) 1 1] 24):=⟨_,rfl⟩
  have k5:Kept aC w3 w5:=by rw [hw5];exact ((Kept.refl _ _).alloc _).alloc _
  have G5:Hid (dJ w3.heap.size (.int .i64 p.kind) (.string p.text) (.int .i64 p.n) (.string p.name) (.slice ka p.kids.length cap) w5):=by rw [hw5];exact dJ.kept (ay w3 _) ((Kept.refl aC _).alloc _) (fun h=>h)
  have X5:Hid (dJ (w3.heap.size+1) (.int .i64 7) (.string ⟨#[]⟩) (.int .i64 0) (.string ⟨#[]⟩) (.slice (some ⟨w3.heap.size,0,none⟩) 1 1) w5):=by rw [hw5];exact dO (by simp)
  have r5:=R3.out.kept k5 (fun h=>h) (fun h=>h)
  have Z5:=ah ((Z2.out.kept K3.out (by have:=dB.out;omega)).kept k5 (fun h=>h))
  have VA:w5.heap.size=w3.heap.size+2:=by rw [hw5];simp
  rw [←hw5]
  obtain ⟨B,hB⟩:∃B,B=w3.heap.size:=⟨_,rfl⟩
  rw [←hB] at G5 X5⊢
  have HB:=ah hB;have QG:=ah VA;have K5:=ah k5;have R5:=ah r5
  clear hw5 k5 VA hB q2 qK
  obtain ⟨q2,qK⟩:=r5.deep
  clear r5
  go_upto_region 8 with fail
  obtain ⟨w6,hw6⟩:∃w6,w6=w5.setCell ⟨N,2,none⟩ (.int .i64 (d:Int)):=⟨_,rfl⟩
  have r6:=R5.out.qy d
  rw [←hw6] at r6⊢
  have k6:Kept (· = N) w5 w6:=by rw [hw6];exact (Kept.refl (· = N) w5).setCell (p:=⟨N,2,none⟩) (.inl rfl) _
  have hN5:N<B:=by have:=HB.out;have:=K0.out.size;have:=K1.out.size;have:=K2.out.size;have:=K3.out.size;omega
  have G6:=ah (G5.out.kept k6 (by omega));have X6:=ah (X5.out.kept k6 (by omega));have Z6:=ah (Z5.out.kept k6 (by have:=dB.out;omega))
  have R6:=ah r6;have K6:=ah k6
  clear hw6 k6 r6 q2 qK
  obtain ⟨x0,x1,x2,x3,x4,_⟩:=X6.out.cells
  obtain ⟨z0,z1,z2,z3,z4,zf⟩:=Z6.out.cells
  have xW:=zf 0;have xX:=zf 1;have xY:=zf 2;have yH:=zf 3;have yI:=zf 4
  clear zf
  go_wp2_with fail
  refine kK 2 rfl rfl (Z6.out.bI _ _ _ _ _) ?_
  have k7:Kept (· = M2) w6 (bI w6 M2 (.int .i64 7) (.string ⟨#[]⟩) (.int .i64 0) (.string ⟨#[]⟩) (.slice (some ⟨B,0,none⟩) 1 1)):=(Kept.refl (· = M2) w6).bI (.inl rfl) _ _ _ _ _
  have Ns:Kept (· = N) w w6:=((Em.out.trans K3.out).trans (K5.out.more (fun _ h=>h.elim))).trans K6.out
  have hlt:∀b,(S b∨b=B)→w.heap.size≤b∧b<w6.heap.size∧b≠M2∧b≠N:=by
   intro b hb
   have e1:=dB.out;have e2:=HB.out;have e3:=QG.out;have e4:=K6.out.size;have e5:=Em.out.size;have e6:=K3.out.size;have e7:=Z2.out.lt
   rcases hb with hb|rfl
   ·obtain ⟨x1,x2⟩:=HS.out b hb
    omega
   ·omega
  have hk6:aI w6 S ka p.kids:=(HK.out.kept K5.out (fun b hb=>⟨(HS.out b hb).2,fun h=>h⟩)).kept K6.out (fun b hb=>⟨by have:=(HS.out b hb).2;have:=QG.out;have:=HB.out;omega,by have:=(hlt b (.inl hb)).2.2.2;exact this⟩)
  have hp1:aI w6 (fun b=>S b∨b=B) (some ⟨B,0,none⟩) [p]:=Rw G6.out HZ.out hk6 (fun b hb=>(hlt b (.inl hb)).2.1)
  refine ⟨Ns.step k7 (fun y hy=>.inr (by have:=dB.out;omega)),?_⟩
  rw [er.out]
  exact ⟨⟨_,rfl,fun b=>S b∨b=B,fun b hb=>⟨(hlt b hb).1,Nat.lt_of_lt_of_le (hlt b hb).2.1 k7.size⟩,_,_,rfl,ads p,hp1.kept k7 (fun b hb=>⟨(hlt b hb).2.1,(hlt b hb).2.2.1⟩)⟩,R6.out.kept k7 (by have:=dB.out;omega) (by have:=dB.out;omega) (by have:=dB.out;omega)⟩
end Go.Proofs.YtefjbnhpjdhjmaaGreatDoor

namespace Go.Proofs.YtefjbnhpjdhjmaaGreatDoor
set_option linter.all false
open Go.RowKit
set_option maxRecDepth 100000
set_option maxHeartbeats 8000000
def JJ (B j:Nat):Value:=if j=3 then .slice (some ⟨B,2,none⟩) 0 0 else .slice (some ⟨B,j,none⟩) (3-j) (3-j)
def Ig (N T en d j:Nat) (f:List aF→cO aA):Prop:=∀(l:List aF) (w:World) (lo B:Nat),fA N T en l d w→yN lo B w→N<lo→Calls Tryz.prog 97 #[.pointer (some ⟨N,0,none⟩),JJ B j] w (XQ N T en d (f l) w)
theorem RH {N T en:Nat} {l:List aF} {w:World} (h:fA N T en l 400 w):Calls Tryz.prog 81 #[.pointer (some ⟨N,0,none⟩)] w (XQ N T en 400 (.error (4,fO en l)) w):=by
 obtain ⟨d,hd⟩:∃d:Nat,d=400:=⟨_,rfl⟩
 rw [←hd] at h⊢
 obtain ⟨hN,hT,hne,h7⟩:=h.mF
 obtain ⟨w0,hw0⟩:∃w0,w0=w.alloc (.cells #[.int .i64 0,.string ⟨#[]⟩,.int .i64 0,.string ⟨#[]⟩,.slice none 0 0] 24):=⟨_,rfl⟩
 have k0:Kept aC w w0:=by rw [hw0];exact (Kept.refl _ _).alloc _
 have R0:=ah (h.kept k0 (fun h=>h) (fun h=>h))
 have K0:=ah k0;have HW0:=ah hw0
 obtain ⟨d1,hd1⟩:∃d1:Nat,d1=d+1:=⟨_,rfl⟩
 have hdi:(d:Int)+1=(d1:Int):=by omega
 have g1:decide ((400:Int)<(d1:Int))=true:=ak (by omega)
 have g2:decide (400<d1)=true:=ak (by omega)
 have hb:d1≤1000:=by omega
 obtain ⟨q2,qK⟩:=R0.out.deep
 clear k0 hw0 h hd hd1
 go_enter Tryz.func81, Tryz.ntmps81
 go_upto_region 1 with fail
 rw [←HW0.out]
 go_upto_region 2 with fail
 obtain ⟨w2,hw2⟩:∃w2,w2=w0.setCell ⟨N,2,none⟩ (.int .i64 (d1:Int)):=⟨_,rfl⟩
 have r2:=R0.out.qy d1
 rw [←hw2] at r2⊢
 have k2:Kept (· = N) w0 w2:=by rw [hw2];exact (Kept.refl (· = N) w0).setCell (p:=⟨N,2,none⟩) (.inl rfl) _
 have K2:=ah k2
 clear hw2 k2 q2 qK
 obtain ⟨q2,qK⟩:=r2.deep
 obtain ⟨n2,a2,c2,r2⟩:=r2
 have HA:=ah (o8 r2)
 clear r2
 go_wp2_with (first
  | (go_at_call 54;(refine HA.out.mono ?_);rintro e w' ⟨rfl,aQ⟩;obtain rfl:=aQ.symm)
  | (go_at_call 53;(refine (fG _ 4 (fO en l) w2).mono ?_);rintro e w3 ⟨rfl,rfl⟩))
 exact ⟨rfl,(K0.out.more (fun _ h=>h.elim)).trans K2.out,rfl⟩
theorem Il {N T en d:Nat} {f:List aF→cO aA} (hd:d<400) (HB:Ig N T en (d+1) 0 f) {l:List aF} {w:World} (h:fA N T en l d w):Calls Tryz.prog 81 #[.pointer (some ⟨N,0,none⟩)] w (XQ N T en d (f l) w):=by
 obtain ⟨hN,hT,hne,h7⟩:=h.mF
 obtain ⟨w0,hw0⟩:∃w0,w0=w.alloc (.cells #[.int .i64 0,.string ⟨#[]⟩,.int .i64 0,.string ⟨#[]⟩,.slice none 0 0] 24):=⟨_,rfl⟩
 have k0:Kept aC w w0:=by rw [hw0];exact (Kept.refl _ _).alloc _
 obtain ⟨M2,hM2⟩:∃M,M=w.heap.size:=⟨_,rfl⟩
 have Z0:Hid (dJ M2 (.int .i64 0) (.string ⟨#[]⟩) (.int .i64 0) (.string ⟨#[]⟩) (.slice none 0 0) w0):=by rw [hw0,hM2];exact ay w _
 have R0:=ah (h.kept k0 (fun h=>h) (fun h=>h))
 have K0:=ah k0;have HW0:=ah hw0;have dB:=ah hM2
 obtain ⟨d1,hd1⟩:∃d1:Nat,d1=d+1:=⟨_,rfl⟩
 have hdi:(d:Int)+1=(d1:Int):=by omega
 rw [←hd1] at HB
 have g1:decide ((400:Int)<(d1:Int))=false:=au (by omega)
 have g2:decide (400<d1)=false:=au (by omega)
 have hb:d1≤1000:=by omega
 have hb1:1≤d1:=by omega
 have hdj:(d1:Int)-1=(d:Int):=by omega
 have Qy:=ah HB
 obtain ⟨q2,qK⟩:=R0.out.deep
 clear k0 hw0 h hd1 HB hM2
 go_enter Tryz.func81, Tryz.ntmps81
 go_upto_region 1 with fail
 rw [←HW0.out,←dB.out]
 go_upto_region 2 with fail
 obtain ⟨w2,hw2⟩:∃w2,w2=w0.setCell ⟨N,2,none⟩ (.int .i64 (d1:Int)):=⟨_,rfl⟩
 have r2:=R0.out.qy d1
 rw [←hw2] at r2⊢
 have k2:Kept (· = N) w0 w2:=by rw [hw2];exact (Kept.refl (· = N) w0).setCell (p:=⟨N,2,none⟩) (.inl rfl) _
 have K2:=ah k2;have R2:=ah r2
 have Z2:=ah (Z0.out.kept k2 (by have:=dB.out;omega))
 have Em:Hid (Kept (· = N) w w2):=(K0.out.more (fun _ h=>h.elim)).trans k2
 clear hw2 k2 q2 qK
 obtain ⟨q2,qK⟩:=r2.deep
 clear r2
 cases hu:f l with
 | error e0 =>
  go_wp2_with (first
   | (go_at_call 98;(refine (Ib w2).mono ?_);rintro e wl ⟨B,rfl,VB,Og⟩;have LV:=ah VB;have KL:=ah Og;have RL:=ah (R2.out.kept Og (fun h=>h) (fun h=>h));clear VB Og)
   | (go_at_call 97;(refine (Qy.out l wl _ B RL.out LV.out (by have:=Em.out.size;omega)).mono ?_);intro e w3 iD;obtain ⟨eu,rfl⟩:=iD.bad hu;have K3:=ah eu;clear eu iD))
  exact ⟨rfl,(Em.out.trans (KL.out.more (fun _ h=>h.elim))).trans K3.out,rfl⟩
 | ok x =>
  obtain ⟨p,r⟩:=x
  go_upto_region 5 with (first
   | (go_at_call 98;(refine (Ib w2).mono ?_);rintro e wl ⟨B,rfl,VB,Og⟩;have LV:=ah VB;have KL:=ah Og;have RL:=ah (R2.out.kept Og (fun h=>h) (fun h=>h));clear VB Og)
   | (go_at_call 97;(refine (Qy.out l wl _ B RL.out LV.out (by have:=Em.out.size;omega)).mono ?_);intro e w3 iD;obtain ⟨eu,lD,S,ka,cap,rfl,gy,iL,fJ⟩:=iD.ok hu;have K3:=ah eu;have R3:=ah lD;have HS:=ah gy;have HZ:=ah iL;have HK:=ah fJ;clear eu lD gy iL fJ iD))
  obtain ⟨w5,hw5⟩:∃w5,w5=w3.alloc (.cells #[.int .i64 p.kind,.string p.text,.int .i64 p.n,.string p.name,.slice ka p.kids.length cap] 24):=⟨_,rfl⟩
  have k5:Kept aC w3 w5:=by rw [hw5];exact (Kept.refl _ _).alloc _
  have X5:Hid (dJ w3.heap.size (.int .i64 p.kind) (.string p.text) (.int .i64 p.n) (.string p.name) (.slice ka p.kids.length cap) w5):=by rw [hw5];exact ay w3 _
  have r5:=R3.out.kept k5 (fun h=>h) (fun h=>h)
  have Z5:=ah (((Z2.out.kept KL.out (fun h=>h)).kept K3.out (by have:=dB.out;omega)).kept k5 (fun h=>h))
  have VA:w5.heap.size=w3.heap.size+1:=by rw [hw5];simp
  rw [←hw5]
  obtain ⟨G,hG⟩:∃G,G=w3.heap.size:=⟨_,rfl⟩
  rw [←hG] at X5⊢
  have HG:=ah hG;have QG:=ah VA;have K5:=ah k5;have R5:=ah r5
  clear hw5 k5 VA hG q2 qK
  obtain ⟨q2,qK⟩:=r5.deep
  clear r5
  go_upto_region 6 with fail
  obtain ⟨w6,hw6⟩:∃w6,w6=w5.setCell ⟨N,2,none⟩ (.int .i64 (d:Int)):=⟨_,rfl⟩
  have r6:=R5.out.qy d
  rw [←hw6] at r6⊢
  have k6:Kept (· = N) w5 w6:=by rw [hw6];exact (Kept.refl (· = N) w5).setCell (p:=⟨N,2,none⟩) (.inl rfl) _
  have hsz:Hid (w.heap.size≤w2.heap.size∧w2.heap.size≤wl.heap.size∧wl.heap.size≤w3.heap.size):=⟨Em.out.size,KL.out.size,K3.out.size⟩
  have X6:=ah (X5.out.kept k6 (by have:=hsz.out;have:=HG.out;omega));have Z6:=ah (Z5.out.kept k6 (by have:=dB.out;omega))
  have R6:=ah r6;have K6:=ah k6
  clear hw6 k6 r6 q2 qK
  obtain ⟨x0,x1,x2,x3,x4,_⟩:=X6.out.cells
  obtain ⟨z0,z1,z2,z3,z4,zf⟩:=Z6.out.cells
  have xW:=zf 0;have xX:=zf 1;have xY:=zf 2;have yH:=zf 3;have yI:=zf 4
  clear zf
  go_wp2_with fail
  refine kK 2 rfl rfl (Z6.out.bI _ _ _ _ _) ?_
  have k7:Kept (· = M2) w6 (bI w6 M2 (.int .i64 p.kind) (.string p.text) (.int .i64 p.n) (.string p.name) (.slice ka p.kids.length cap)):=(Kept.refl (· = M2) w6).bI (.inl rfl) _ _ _ _ _
  have Ns:Kept (· = N) w w6:=(((Em.out.trans (KL.out.more (fun _ h=>h.elim))).trans K3.out).trans (K5.out.more (fun _ h=>h.elim))).trans K6.out
  have hlt:∀b,S b→w.heap.size≤b∧b<w6.heap.size∧b≠M2∧b≠N∧b<w5.heap.size:=by
   intro b hb
   have e1:=dB.out;have e2:=HG.out;have e3:=QG.out;have e4:=K6.out.size;have e5:=hsz.out;have e7:=Z2.out.lt
   obtain ⟨x1,x2⟩:=HS.out b hb
   omega
  have hk6:aI w6 S ka p.kids:=(HK.out.kept K5.out (fun b hb=>⟨(HS.out b hb).2,fun h=>h⟩)).kept K6.out (fun b hb=>⟨(hlt b hb).2.2.2.2,(hlt b hb).2.2.2.1⟩)
  refine ⟨Ns.step k7 (fun y hy=>.inr (by have:=dB.out;omega)),?_⟩
  rw [hu]
  exact ⟨⟨_,rfl,S,fun b hb=>⟨(hlt b hb).1,Nat.lt_of_lt_of_le (hlt b hb).2.1 k7.size⟩,_,_,rfl,HZ.out,hk6.kept k7 (fun b hb=>⟨(hlt b hb).2.1,(hlt b hb).2.2.1⟩)⟩,R6.out.kept k7 (by have:=dB.out;omega) (by have:=dB.out;omega) (by have:=dB.out;omega)⟩
end Go.Proofs.YtefjbnhpjdhjmaaGreatDoor

namespace Go.Proofs.YtefjbnhpjdhjmaaGreatDoor
set_option linter.all false
open Go.RowKit
set_option maxRecDepth 100000
set_option maxHeartbeats 4000000
theorem U3 {N T en d:Nat} {un:List aF→cO aA} (HU:JF N T en d un):Ig N T en d 3 un:=by
 intro l w lo B h Nu hlo
 obtain ⟨hN,hT,hne,h7⟩:=h.mF
 obtain ⟨w0,hw0⟩:∃w0,w0=w.alloc (.cells #[.int .i64 0,.string ⟨#[]⟩,.int .i64 0,.string ⟨#[]⟩,.slice none 0 0] 24):=⟨_,rfl⟩
 have k0:Kept aC w w0:=by rw [hw0];exact (Kept.refl _ _).alloc _
 obtain ⟨M4,DX⟩:∃M,M=w.heap.size:=⟨_,rfl⟩
 have Z0:Hid (dJ M4 (.int .i64 0) (.string ⟨#[]⟩) (.int .i64 0) (.string ⟨#[]⟩) (.slice none 0 0) w0):=by rw [hw0,DX];exact ay w _
 have R0:=ah (h.kept k0 (fun h=>h) (fun h=>h))
 have K0:=ah k0;have HW0:=ah hw0;have vV:=ah DX;have Vz:=ah HU
 have hv:JJ B 3=.slice (some ⟨B,2,none⟩) 0 0:=rfl
 rw [hv]
 clear k0 hw0 h DX HU hv Nu
 cases hu:un l with
 | error e0 =>
  go_enter Tryz.func97, Tryz.ntmps97
  go_upto_region 1 with fail
  rw [←HW0.out,←vV.out]
  go_wp2_with (go_at_call 111;(refine (Vz.out l w0 R0.out).mono ?_);intro e w3 iD;obtain ⟨eu,rfl⟩:=iD.bad hu;have K3:=ah eu;clear eu iD)
  exact ⟨rfl,(K0.out.more (fun _ h=>h.elim)).trans K3.out,rfl⟩
 | ok x =>
  obtain ⟨p,r⟩:=x
  go_enter Tryz.func97, Tryz.ntmps97
  go_upto_region 1 with fail
  rw [←HW0.out,←vV.out]
  go_wp2_with (go_at_call 111;(refine (Vz.out l w0 R0.out).mono ?_);intro e w2 Ll;obtain ⟨iw,kU,S,ka,cap,rfl,gy,iL,fJ⟩:=Ll.ok hu;have K2:=ah iw;have R2:=ah kU;have HS:=ah gy;have HZ:=ah iL;have HK:=ah fJ;have Z2:=ah (Z0.out.kept iw (by have:=vV.out;omega));obtain ⟨z0,z1,z2,z3,z4,zf⟩:=Z2.out.cells;have xW:=zf 0;have xX:=zf 1;have xY:=zf 2;have yH:=zf 3;have yI:=zf 4;clear zf iw kU gy iL fJ Ll)
  refine kK 4 rfl rfl (Z2.out.bI _ _ _ _ _) ?_
  have k6:Kept (· = M4) w2 (bI w2 M4 (.int .i64 p.kind) (.string p.text) (.int .i64 p.n) (.string p.name) (.slice ka p.kids.length cap)):=(Kept.refl (· = M4) w2).bI (.inl rfl) _ _ _ _ _
  have K5:Kept (· = N) w w2:=(K0.out.more (fun _ h=>h.elim)).trans K2.out
  have hS:∀b,S b→w.heap.size≤b∧b<w2.heap.size∧b≠M4:=by
   intro b hb
   obtain ⟨x1,x2⟩:=HS.out b hb
   have:=K0.out.size;have:=Z0.out.lt;have:=vV.out
   omega
  refine ⟨K5.step k6 (fun y hy=>.inr (by have:=vV.out;omega)),?_⟩
  (try rw [hu])
  exact ⟨⟨_,rfl,S,fun b hb=>⟨(hS b hb).1,Nat.lt_of_lt_of_le (hS b hb).2.1 k6.size⟩,ka,cap,rfl,HZ.out,HK.out.kept k6 (fun b hb=>⟨(hS b hb).2.1,(hS b hb).2.2⟩)⟩,R2.out.kept k6 (by have:=vV.out;omega) (by have:=vV.out;omega) (by have:=vV.out;omega)⟩
end Go.Proofs.YtefjbnhpjdhjmaaGreatDoor

namespace Go.Proofs.YtefjbnhpjdhjmaaGreatDoor
set_option linter.all false
open Go.RowKit
def Shr (f:List aF→cO aA):Prop:=∀l y r,f l=.ok (y,r)→r.length≤l.length
theorem yN.get {lo B:Nat} {w:World} (h:yN lo B w) {j:Nat} (hj:j<3):∃m n,w.cell? ⟨B,j,none⟩=some (.map (some m))∧pU w m n (Du (j+1)):=by
 obtain ⟨h0,m1,m2,m3,n1,n2,n3,l1,l2,l3,hb,a1,a2,a3⟩:=h
 obtain rfl|rfl|rfl:j=0∨j=1∨j=2:=by omega
 ·exact ⟨m1,n1,by rw [cell_of_row w B _ _ _ _ hb];rfl,a1⟩
 ·exact ⟨m2,n2,by rw [cell_of_row w B _ _ _ _ hb];rfl,a2⟩
 ·exact ⟨m3,n3,by rw [cell_of_row w B _ _ _ _ hb];rfl,a3⟩
theorem UM {B j:Nat} (hj:j<3):JJ B j=.slice (some ⟨B,j,none⟩) (3-j) (3-j):=by unfold JJ;rw [if_neg (by omega)]
theorem UN {B j m:Nat} (hj:j<3) (hm:m=3-j) (wx:World):(Instr.slice 139 (.slice (some ⟨B,j,none⟩) m m) (some (.int .i64 1)) none none).run Tryz.prog wx=.ok (JJ B (j+1)) wx:=by
 have hsz:(sizeOf 155).run Tryz.prog wx=.ok 1 wx:=by kernel_rfl
 have hle:(1:Int)≤(m:Int):=by omega
 unfold Instr.slice Instr.sliceBounds Instr.sliceBound
 simp only [Sem.run_bind,run_underlying Tryz.underlying139,Result.andThen_ok,Sem.run_pure,asIntOf]
 rw [if_pos ⟨by decide,by omega⟩]
 simp only [Sem.run_pure,Result.andThen_ok,hsz]
 obtain rfl|rfl|rfl:j=0∨j=1∨j=2:=by omega
 all_goals
  subst hm
  simp [JJ,Addr.add]
structure je (N T en d M4 M5:Nat) (w:World) (x:aA) (ka:Option Addr) (cap:Nat) (l:List aF) (wx:World):Prop where
 bY:fA N T en l d wx
 five:dJ M5 (.int .i64 x.kind) (.string x.text) (.int .i64 x.n) (.string x.name) (.slice ka x.kids.length cap) wx
 mem:∃S:Nat→Prop,aI wx S ka x.kids∧∀b,S b→w.heap.size≤b∧b<wx.heap.size∧b≠M4∧b≠M5∧b≠N
 sz:x.text.size<1000000000∧x.name.size<1000000000∧x.kids.length<1000000000
 zero:dJ M4 (.int .i64 0) (.string ⟨#[]⟩) (.int .i64 0) (.string ⟨#[]⟩) (.slice none 0 0) wx
 kept:Kept (· = N) w wx
theorem je.quiet {N T en d M4 M5:Nat} {w:World} {x:aA} {ka:Option Addr} {cap:Nat} {l:List aF} {wx wy:World} (h:je N T en d M4 M5 w x ka cap l wx) (hk:Kept aC wx wy):je N T en d M4 M5 w x ka cap l wy:=by
 obtain ⟨h1,h2,⟨S,h3,h4⟩,h5,h6,h7⟩:=h
 exact ⟨h1.kept hk (fun h=>h) (fun h=>h),h2.kept hk (fun h=>h),⟨S,h3.kept hk (fun b hb=>⟨(h4 b hb).2.1,fun h=>h⟩),fun b hb=>by have:=h4 b hb;have:=hk.size;omega⟩,h5,h6.kept hk (fun h=>h),h7.trans (hk.more (fun _ h=>h.elim))⟩
theorem je.bg {N T en d M4 M5:Nat} {w:World} {x:aA} {ka:Option Addr} {cap:Nat} {l l2:List aF} {wx wy:World} (h:je N T en d M4 M5 w x ka cap l wx) (hn4:N≠M4) (Ai:N≠M5) (hk:Kept (· = N) wx wy) (hr:fA N T en l2 d wy):je N T en d M4 M5 w x ka cap l2 wy:=by
 obtain ⟨h1,h2,⟨S,h3,h4⟩,h5,h6,h7⟩:=h
 exact ⟨hr,h2.kept hk (Ne.symm Ai),⟨S,h3.kept hk (fun b hb=>⟨(h4 b hb).2.1,(h4 b hb).2.2.2.2⟩),fun b hb=>by have:=h4 b hb;have:=hk.size;omega⟩,h5,h6.kept hk (Ne.symm hn4),h7.trans hk⟩
def acs (B:Nat) (x y:aA) (ka kb:Option Addr) (ca cb:Nat) (w:World):Prop:=w.heap[B]?=some (.cells #[.int .i64 x.kind,.string x.text,.int .i64 x.n,.string x.name,.slice ka x.kids.length ca,.int .i64 y.kind,.string y.text,.int .i64 y.n,.string y.name,.slice kb y.kids.length cb] 24 (0,0))
theorem adt {g:Nat} {x y:aA} {ka kb:Option Addr} {ca cb:Nat} {w:World} {S:Nat→Prop} (F:acs g x y ka kb ca cb w) (hx:x.text.size<1000000000∧x.name.size<1000000000∧x.kids.length<1000000000) (hy:y.text.size<1000000000∧y.name.size<1000000000∧y.kids.length<1000000000)
  (hkx:aI w S ka x.kids) (hky:aI w S kb y.kids) (hS:∀b,S b→b<w.heap.size):aI w (fun b=>S b∨b=g) (some ⟨g,0,none⟩) [x,y]:=by
 have hc:∀i,w.cell? ⟨g,i,none⟩=_:=fun i=>cell_of_row w g i _ _ _ F
 obtain ⟨k,t,n,nm,kids⟩:=x
 obtain ⟨k2,t2,n2,nm2,ZY⟩:=y
 have e1:aI w (fun b=>S b∨b=g) ka kids:=aI.to hkx (Kept.refl aC w) (fun b hb=>⟨hS b hb,fun h=>h⟩) (fun _ h=>.inl h)
 have e2:aI w (fun b=>S b∨b=g) kb ZY:=aI.to hky (Kept.refl aC w) (fun b hb=>⟨hS b hb,fun h=>h⟩) (fun _ h=>.inl h)
 have p1:dH w (fun b=>S b∨b=g) g 0 (.mk k t n nm kids):=by
  unfold dH
  exact ⟨.inr rfl,hx,by rw [hc];rfl,by rw [hc];rfl,by rw [hc];rfl,by rw [hc];rfl,ka,ca,by rw [hc];rfl,e1⟩
 have p2:dH w (fun b=>S b∨b=g) g 5 (.mk k2 t2 n2 nm2 ZY):=by
  unfold dH
  exact ⟨.inr rfl,hy,by rw [hc];rfl,by rw [hc];rfl,by rw [hc];rfl,by rw [hc];rfl,kb,cb,by rw [hc];rfl,e2⟩
 unfold aI
 refine ⟨g,0,rfl,p1,?_⟩
 unfold aI
 exact ⟨g,5,rfl,p2,by unfold aI;trivial⟩
theorem je.step {N T en d M4 M5:Nat} {w:World} {x y:aA} {ka kb:Option Addr} {ca cb:Nat} {l r:List aF} {w1 w3:World} (k:Int) (h:je N T en d M4 M5 w x ka ca l w1) (hn4:N≠M4) (Ai:N≠M5) (h45:M4≠M5) (hw5:w.heap.size≤M5) (UQ:N<w.heap.size) (hTw:T<w.heap.size)
  (hk:Kept (· = N) w1 w3) (hr:fA N T en r d w3) {S:Nat→Prop} (hS:∀b,S b→w1.heap.size≤b∧b<w3.heap.size) (hz:y.text.size<1000000000∧y.name.size<1000000000∧y.kids.length<1000000000) (hy:aI w3 S kb y.kids) {w5:World}
  (hw:w5=w3.alloc (.cells #[.int .i64 x.kind,.string x.text,.int .i64 x.n,.string x.name,.slice ka x.kids.length ca,.int .i64 y.kind,.string y.text,.int .i64 y.n,.string y.name,.slice kb y.kids.length cb] 24)) :
  je N T en d M4 M5 w (node2 k x y) (some ⟨w3.heap.size,0,none⟩) 2 r (bI w5 M5 (.int .i64 k) (.string ⟨#[]⟩) (.int .i64 0) (.string ⟨#[]⟩) (.slice (some ⟨w3.heap.size,0,none⟩) 2 2)):=by
 have h3:=h.bg hn4 Ai hk hr
 obtain ⟨_,f3,⟨S3,s3,s4⟩,z3,o3,k3⟩:=h3
 have k5:Kept aC w3 w5:=by rw [hw];exact (Kept.refl _ _).alloc _
 have hsz:w5.heap.size=w3.heap.size+1:=by rw [hw];simp
 have g5:acs w3.heap.size x y ka kb ca cb w5:=by rw [hw];exact ay w3 _
 have f5:=f3.kept k5 (fun h=>h)
 have k6:Kept (· = M5) w5 (bI w5 M5 (.int .i64 k) (.string ⟨#[]⟩) (.int .i64 0) (.string ⟨#[]⟩) (.slice (some ⟨w3.heap.size,0,none⟩) 2 2)):=(Kept.refl (· = M5) w5).bI (.inl rfl) _ _ _ _ _
 have hw1:w.heap.size≤w1.heap.size:=h.kept.size
 have l3:=f3.lt;have o3l:=o3.lt;have vW:=hk.size
 have l1:=h.five.lt;have l2:=h.zero.lt
 refine ⟨(hr.kept k5 (fun h=>h) (fun h=>h)).kept k6 Ai (by omega) (by have:=hr.mF;omega),f5.bI _ _ _ _ _,⟨fun b=>(S3 b∨S b)∨b=w3.heap.size,?_,?_⟩,⟨by show E0.size<_;decide,by show E0.size<_;decide,by simp [node2,aA.kids]⟩,(o3.kept k5 (fun h=>h)).kept k6 h45,(k3.trans (k5.more (fun _ h=>h.elim))).step k6 (fun y hy=>.inr (by omega))⟩
 ·refine aI.kept (X:=(· = M5)) ?_ k6 ?_
  ·refine adt g5 z3 hz ((s3.kept k5 (fun b hb=>⟨(s4 b hb).2.1,fun h=>h⟩)).to (Kept.refl aC w5) (fun b hb=>⟨by have:=s4 b hb;omega,fun h=>h⟩) (fun _ h=>.inl h)) ((hy.kept k5 (fun b hb=>⟨(hS b hb).2,fun h=>h⟩)).to (Kept.refl aC w5) (fun b hb=>⟨by have:=hS b hb;omega,fun h=>h⟩) (fun _ h=>.inr h)) ?_
   rintro b (hb|hb)
   ·have:=s4 b hb;omega
   ·have:=hS b hb;omega
  ·rintro b ((hb|hb)|rfl)
   ·have:=s4 b hb;exact ⟨by omega,by omega⟩
   ·have:=hS b hb;exact ⟨by omega,by omega⟩
   ·exact ⟨by omega,by omega⟩
 ·have:=k6.size
  rintro b ((hb|hb)|rfl)
  ·have:=s4 b hb;omega
  ·have:=hS b hb;omega
  ·omega
theorem je.fin {N T en d M4 M5:Nat} {w:World} {x:aA} {ka:Option Addr} {cap:Nat} {l2:List aF} {wx:World} (h:je N T en d M4 M5 w x ka cap l2 wx) (hn4:N≠M4) (ht4:T≠M4) (hw4:w.heap.size≤M4) (UQ:N<w.heap.size) {r:cO aA} (hr:r=.ok (x,l2)) :
  XQ N T en d r w (.returned (.agg #[.int .i64 x.kind,.string x.text,.int .i64 x.n,.string x.name,.slice ka x.kids.length cap])) (bI wx M4 (.int .i64 x.kind) (.string x.text) (.int .i64 x.n) (.string x.name) (.slice ka x.kids.length cap)):=by
 subst hr
 obtain ⟨h1,h2,⟨S,h3,h4⟩,h5,h6,h7⟩:=h
 have k6:Kept (· = M4) wx (bI wx M4 (.int .i64 x.kind) (.string x.text) (.int .i64 x.n) (.string x.name) (.slice ka x.kids.length cap)):=(Kept.refl (· = M4) wx).bI (.inl rfl) _ _ _ _ _
 exact ⟨h7.step k6 (fun y hy=>.inr (by omega)),⟨_,rfl,S,fun b hb=>⟨(h4 b hb).1,Nat.lt_of_lt_of_le (h4 b hb).2.1 k6.size⟩,ka,cap,rfl,h5,h3.kept k6 (fun b hb=>⟨(h4 b hb).2.1,(h4 b hb).2.2.1⟩)⟩,h1.kept k6 hn4 ht4 (by have:=h1.mF;omega)⟩
end Go.Proofs.YtefjbnhpjdhjmaaGreatDoor
