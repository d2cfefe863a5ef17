/-  -/
import Derived.Test.YtodebjhalipefaaGreatDoorLq29
namespace Go.Proofs.YtodebjhalipefaaGreatDoor
set_option linter.all false
open Go.RowKit
set_option maxRecDepth 100000
set_option maxHeartbeats 16000000
theorem jZ.start {N T en M:Nat} {s:aF} {p:aB} {ka:Option Addr} {kc:Nat} {l r:List aC} {w w2:World} {S:Nat→Prop} (h:dA N T en M s l w) (hk:Kept (· = N) w w2) (hr:bV N T en r 0 w2) (hS:∀b,S b→w.heap.size≤b∧b<w2.heap.size) (hz:p.text.size<1000000000∧p.name.size<1000000000∧p.kids.length<1000000000) (hp:aN w2 S ka p.kids) (hm:sizeT p+r.length≤l.length) :
  jZ N T en M w2.heap.size s p ka kc r (w2.alloc (.cells #[.int .i64 p.kind,.string p.text,.int .i64 p.n,.string p.name,.slice ka p.kids.length kc] 64)):=by
 have h2:=h.aQ hk hr (by omega)
 have kA:Kept aA w2 (w2.alloc (.cells #[.int .i64 p.kind,.string p.text,.int .i64 p.n,.string p.name,.slice ka p.kids.length kc] 64)):=(Kept.refl _ _).alloc _
 have hM:=h.SQ;have hM2:=h2.SQ
 exact ⟨h2.quiet kA,ay w2 _,⟨S,hp.kept kA (fun b hb=>⟨(hS b hb).2,fun h=>h⟩),fun b hb=>by have:=hS b hb;have:=kA.size;omega⟩,hz,by have:=h.few;omega,hM2⟩
theorem jZ.afA {N T en M X:Nat} {s:aF} {p:aB} {ka:Option Addr} {kc:Nat} {l:List aC} {w:World} (h:jZ N T en M X s p ka kc l w):∃S,ou w S (.agg #[.int .i64 p.kind,.string p.text,.int .i64 p.n,.string p.name,.slice ka p.kids.length kc]) p:=by
 obtain ⟨S,h3,h4⟩:=h.kids
 exact ⟨S,ka,kc,rfl,h.z,h3⟩
theorem Vw {N T en M:Nat} {lb:aj} {l:List aC} {w:World} (h:dA N T en M (st1 lb) l w) (hd:dh l=false) (hr:jI l=false):Calls Tryz.prog 67 #[.pointer (some ⟨N,0,none⟩),.pointer (some ⟨M,0,none⟩)] w (dB N T en M (bodyT en (st1 lb) l) w):=by
 have I0:=ah h
 have K0:Hid (Kept (fun b=>b=N∨b=M) w w):=Kept.refl _ _
 have er:Hid (bodyT en (st1 lb) l=match uY en 400 l with
 | .error er=>.error er
 | .ok (x,r) =>
  if aG (bs [63]) r=true then
   match qx en r.tail with
   | .error er=>.error er
   | .ok (p,r2)=>lu en (dJ en l) {st1 lb with kind:=4,value:=x,pat:=p} x 5 r2
  else lu en (dJ en l) {st1 lb with kind:=2,value:=x} x 3 r):=by unfold Hid bodyT;rw [hd,hr];rfl
 have HD:=ah hd;have HR:=ah hr
 have HA:Hid (Calls Tryz.prog 71 #[.pointer (some ⟨N,0,none⟩)] w (vP (dJ en l) w)):=by obtain ⟨_,_,_,h⟩:=h.bH;exact kU h
 clear h hd hr
 go_enter Tryz.func67, Tryz.ntmps67
 go_upto_region 0 with fail
 obtain ⟨nq,aq,cq,hq⟩:=I0.out.bH
 go_cut [50] (fun c wx=>c=.bool (dh l)∧w=wx)
 case first =>
  obtain ⟨c0,c1,cd,cf⟩:=hq.c0
  have hn:=hq.num
  rcases l with _|⟨t,l1⟩
  ·have z:decide ((0:Int)<(nq:Int))=false:=by rw [hn];rfl
   have z':decide (0<nq)=false:=by rw [hn];rfl
   have za:decide ((1:Int)<(nq:Int))=false:=by rw [hn];rfl
   have yO:decide (1<nq)=false:=by rw [hn];rfl
   clear hn hq cf
   go_wp2_with fail
   go_meet
   exact ⟨rfl,rfl⟩
  rw [List.length_cons] at hn
  have z:decide ((0:Int)<(nq:Int))=true:=ak (by omega)
  have z':decide (0<nq)=true:=ak (by omega)
  have h0:0<nq:=by omega
  have h1:(0:Int)<(nq:Int):=by omega
  obtain ⟨o,rfl,t0,t1,t2⟩:=hq.head
  rcases l1 with _|⟨u,l3⟩
  ·have za:decide ((1:Int)<(nq:Int))=false:=by rw [hn];rfl
   have yO:decide (1<nq)=false:=by rw [hn];rfl
   by_cases hk1:t.kind=1
   ·have y1:(t.kind==1)=true:=by simpa using hk1
    by_cases hx:t.text=rX
    ·have y2:(t.text.toList==[68,69,70,73,78,69])=true:=by rw [kV,bW];exact ak hx
     have fin:Hid (dh (t::[])=false):=rfl
     clear hn hq cf hk1 hx
     go_wp2_with fail
     go_meet
     exact ⟨by rw [fin.out],rfl⟩
    ·have y2:(t.text.toList==[68,69,70,73,78,69])=false:=by rw [kV,bW];exact au hx
     have fin:Hid (dh (t::[])=false):=rfl
     clear hn hq cf hk1 hx
     go_wp2_with fail
     go_meet
     exact ⟨by rw [fin.out],rfl⟩
   ·have y1:(t.kind==1)=false:=by simpa using hk1
    have fin:Hid (dh (t::[])=false):=rfl
    clear hn hq cf hk1
    go_wp2_with fail
    go_meet
    exact ⟨by rw [fin.out],rfl⟩
  ·rw [List.length_cons] at hn
   have za:decide ((1:Int)<(nq:Int))=true:=ak (by omega)
   have yO:decide (1<nq)=true:=ak (by omega)
   have h3:1<nq:=by omega
   have h4:(1:Int)<(nq:Int):=by omega
   obtain ⟨u0,u1⟩:=hq.second
   by_cases hk1:t.kind=1
   ·have y1:(t.kind==1)=true:=by simpa using hk1
    by_cases hx:t.text=rX
    ·have y2:(t.text.toList==[68,69,70,73,78,69])=true:=by rw [kV,bW];exact ak hx
     by_cases hk2:u.kind=1
     ·have y3:(u.kind==1)=true:=by simpa using hk2
      have fin:Hid (dh (t::u::l3)=true):=ak ⟨hk1,hx,hk2⟩
      clear hn hq cf hk1 hx hk2
      go_wp2_with fail
      go_meet
      exact ⟨by rw [fin.out],rfl⟩
     ·have y3:(u.kind==1)=false:=by simpa using hk2
      have fin:Hid (dh (t::u::l3)=false):=au (fun h=>hk2 h.2.2)
      clear hn hq cf hk1 hx hk2
      go_wp2_with fail
      go_meet
      exact ⟨by rw [fin.out],rfl⟩
    ·have y2:(t.text.toList==[68,69,70,73,78,69])=false:=by rw [kV,bW];exact au hx
     have fin:Hid (dh (t::u::l3)=false):=au (fun h=>hx h.2.1)
     clear hn hq cf hk1 hx
     go_wp2_with fail
     go_meet
     exact ⟨by rw [fin.out],rfl⟩
   ·have y1:(t.kind==1)=false:=by simpa using hk1
    have fin:Hid (dh (t::u::l3)=false):=au (fun h=>hk1 h.1)
    clear hn hq cf hk1
    go_wp2_with fail
    go_meet
    exact ⟨by rw [fin.out],rfl⟩
 case rest =>
  obtain ⟨rfl,rfl⟩:=hcut
  clear hq
  rw [HD.out]
  go_upto_region 3 with fail
  obtain ⟨nq,aq,cq,hq⟩:=I0.out.bH
  go_cut [97] (fun c wx=>c=.bool (jI l)∧w=wx)
  case first =>
   obtain ⟨c0,c1,cd,cf⟩:=hq.c0
   have hn:=hq.num
   rcases l with _|⟨t,l1⟩
   ·have z:decide ((0:Int)<(nq:Int))=false:=by rw [hn];rfl
    have z':decide (0<nq)=false:=by rw [hn];rfl
    have za:decide ((1:Int)<(nq:Int))=false:=by rw [hn];rfl
    have yO:decide (1<nq)=false:=by rw [hn];rfl
    clear hn hq cf
    go_wp2_with fail
    go_meet
    exact ⟨rfl,rfl⟩
   rw [List.length_cons] at hn
   have z:decide ((0:Int)<(nq:Int))=true:=ak (by omega)
   have z':decide (0<nq)=true:=ak (by omega)
   have h0:0<nq:=by omega
   have h1:(0:Int)<(nq:Int):=by omega
   obtain ⟨o,rfl,t0,t1,t2⟩:=hq.head
   rcases l1 with _|⟨u,l3⟩
   ·have za:decide ((1:Int)<(nq:Int))=false:=by rw [hn];rfl
    have yO:decide (1<nq)=false:=by rw [hn];rfl
    have fin:Hid (jI [t]=false):=rfl
    clear hn hq cf
    go_wp2_with fail
    go_meet
    exact ⟨by rw [fin.out],rfl⟩
   ·rw [List.length_cons] at hn
    have za:decide ((1:Int)<(nq:Int))=true:=ak (by omega)
    have yO:decide (1<nq)=true:=ak (by omega)
    have h3:1<nq:=by omega
    have h4:(1:Int)<(nq:Int):=by omega
    obtain ⟨u0,u1⟩:=hq.second
    by_cases hk1:t.kind=1
    ·have y1:(t.kind==1)=true:=by simpa using hk1
     by_cases hk2:u.kind=5
     ·have y2:(u.kind==5)=true:=by simpa using hk2
      by_cases hx:u.text=AZ
      ·have y3:(u.text.toList==[58,61])=true:=by rw [AY,bW];exact ak hx
       have fin:Hid (jI (t::u::l3)=true):=ak ⟨hk1,hk2,hx⟩
       clear hn hq cf hk1 hk2 hx
       go_wp2_with fail
       go_meet
       exact ⟨by rw [fin.out],rfl⟩
      ·have y3:(u.text.toList==[58,61])=false:=by rw [AY,bW];exact au hx
       have fin:Hid (jI (t::u::l3)=false):=au (fun h=>hx h.2.2)
       clear hn hq cf hk1 hk2 hx
       go_wp2_with fail
       go_meet
       exact ⟨by rw [fin.out],rfl⟩
     ·have y2:(u.kind==5)=false:=by simpa using hk2
      have fin:Hid (jI (t::u::l3)=false):=au (fun h=>hk2 h.2.1)
      clear hn hq cf hk1 hk2
      go_wp2_with fail
      go_meet
      exact ⟨by rw [fin.out],rfl⟩
    ·have y1:(t.kind==1)=false:=by simpa using hk1
     have fin:Hid (jI (t::u::l3)=false):=au (fun h=>hk1 h.1)
     clear hn hq cf hk1
     go_wp2_with fail
     go_meet
     exact ⟨by rw [fin.out],rfl⟩
  case rest =>
   obtain ⟨rfl,rfl⟩:=hcut
   clear hq
   rw [HR.out]
   go_upto_region 10 with (first
    | (go_at_call 71;(refine HA.out.mono ?_);rintro e w' ⟨rfl,aH⟩;obtain rfl:=aH.symm)
    | (go_at_call 105;(refine (Dz N T en l w I0.out.bH).mono ?_);intro e w2 h_;rcases hu:uY en 400 l with e0|⟨p,r⟩;(obtain ⟨k_,rfl⟩:=h_.bad hu;have f_:dB N T en M (bodyT en (st1 lb) l) w (.panicked [{v:=bI e0,recovered:=false}]) _:=dB.thrown K0.out k_ (by rw [er.out,hu]);exact ⟨rfl,f_⟩);(obtain ⟨k_,r_,S,ka,kc,rfl,iM,iO,fV⟩:=h_.ok hu;have lN:=ah hu;have E3:=ah (jZ.start (kc:=kc) I0.out k_ r_ iM iO fV (tK en 400 _ _ _ hu));have K3:=ah ((K0.out.trans (fK k_)).alloc (.cells #[.int .i64 p.kind,.string p.text,.int .i64 p.n,.string p.name,.slice ka p.kids.length kc] 64));clear k_ r_ iM iO fV h_ hu)))
   obtain ⟨w3,hw3⟩:∃w3,w3=w2.alloc (.cells #[.int .i64 p.kind,.string p.text,.int .i64 p.n,.string p.name,.slice ka p.kids.length kc] 64):=⟨_,rfl⟩
   rw [←hw3] at E3 K3
   rw [←hw3]
   obtain ⟨X,hX⟩:∃X,X=w2.heap.size:=⟨_,rfl⟩
   rw [←hX] at E3
   rw [←hX]
   clear hw3 hX
   cases hq:aG ⟨#[63]⟩ r with
   | true =>
    have HQ:Hid (aG (bs [63]) r=true):=hq
    obtain ⟨r4,hr4⟩:∃r4,r4=r.tail:=⟨_,rfl⟩
    have HR4:Hid (r.tail=r4):=hr4.symm
    go_upto_region 12 with (go_at_call 68;(with_reducible refine (jB ⟨#[63]⟩ E3.out.sb.bH hq).mono ?_);rintro e w4 ⟨rfl,r_,k_⟩;rw [←hr4] at r_;have E4:=ah (E3.out.aQ (l2:=r4) k_ r_ (by have:=gU hq;rw [hr4];omega));have K4:=ah (K3.out.trans (fK k_));clear r_ k_)
    clear hr4
    obtain ⟨x0,x1,x2,x3,x4,_⟩:=E4.out.x.cells
    obtain ⟨v1,c1,f1⟩:=E4.out.sb.slot 1 (by decide)
    obtain ⟨v7,c7,f7⟩:=E4.out.sb.slot 7 (by decide)
    obtain ⟨v8,c8,f8⟩:=E4.out.sb.slot 8 (by decide)
    obtain ⟨v9,c9,f9⟩:=E4.out.sb.slot 9 (by decide)
    obtain ⟨v10,c10,f10⟩:=E4.out.sb.slot 10 (by decide)
    obtain ⟨v11,c11,f11⟩:=E4.out.sb.slot 11 (by decide)
    have hxm:¬X=M:=by have:=E4.out.lt;omega
    have hmx:¬M=X:=fun h=>hxm h.symm
    go_cut [] (fun wx=>Hid (jZ N T en M X {st1 lb with kind:=4,value:=p} p ka kc r4 wx)∧Hid (Kept (fun b=>b=N∨b=M) w wx))
    case first =>
     go_region
     all_goals go_wp2_with fail
     all_goals go_meet
     all_goals first
      | exact ⟨((E4.out.setKind 4).setValue).draw,(K4.out.trans (eU (bP.trans (gV _ M 7 p ka kc)))).drew⟩
      | exact ⟨((E4.out.setValue).setKind 4).draw,(K4.out.trans (eU ((gV _ M 7 p ka kc).trans bP))).drew⟩
    case rest =>
     obtain ⟨E5,K5⟩:=hcut
     obtain ⟨w5,rfl⟩:∃x:World,x=wc:=⟨_,rfl⟩
     clear x0 x1 x2 x3 x4 c1 f1 c7 f7 c8 f8 c9 f9 c10 f10 c11 f11 hxm hmx
     go_upto_region 15 with (go_at_call 104;(refine (DK E5.out.sb.bH).mono ?_);intro e w6 h_;rcases hu:qx en r4 with e0|⟨q,r6⟩;(obtain ⟨k_,rfl⟩:=h_.bad hu;have f_:dB N T en M (bodyT en (st1 lb) l) w (.panicked [{v:=bI e0,recovered:=false}]) _:=dB.thrown K5.out k_ (by rw [er.out];simp only [lN.out,HQ.out,HR4.out,hu,if_true,if_false,Bool.false_eq_true,not_true,not_false_iff]);exact ⟨rfl,f_⟩);(obtain ⟨k_,r_,S,qa,qc,rfl,iM,iO,fV⟩:=h_.ok hu;have BF:=ah hu;have E6:=ah (E5.out.aQ k_ r_ (by have:=Pm hu;omega));have K6:=ah (K5.out.trans (fK k_));have E7:=ah (E6.out.upd (E6.out.sb.YM (kc:=qc) fV (fun b hb=>by have:=iM b hb;have:=E5.out.sb.SQ;omega) iO (by have:=PE hu;omega)) (gV w6 M 12 q qa qc));have K7:=ah (K6.out.trans (eU (gV w6 M 12 q qa qc)));obtain ⟨v12,c12,f12⟩:=E6.out.sb.slot 12 (by decide);obtain ⟨v13,c13,f13⟩:=E6.out.sb.slot 13 (by decide);obtain ⟨v14,c14,f14⟩:=E6.out.sb.slot 14 (by decide);obtain ⟨v15,c15,f15⟩:=E6.out.sb.slot 15 (by decide);obtain ⟨v16,c16,f16⟩:=E6.out.sb.slot 16 (by decide);clear k_ r_ iM iO fV h_ hu))
     show Code.wp _ _ _ _ (Di w6 M 12 q qa qc)
     obtain ⟨w7,hw7⟩:∃w7,w7=Di w6 M 12 q qa qc:=⟨_,rfl⟩
     have E7:Hid (jZ N T en M X {st1 lb with kind:=4,value:=p,pat:=q} p ka kc r6 (Di w6 M 12 q qa qc)):=E7
     rw [←hw7] at E7 K7
     rw [←hw7]
     clear hw7 c12 c13 c14 c15 c16 f12 f13 f14 f15 f16
     cases hg:aG ⟨#[61]⟩ r6 with
     | false =>
      have HG:Hid (aG (bs [61]) r6=false):=hg
      go_wp2_with (go_at_call 68;(with_reducible refine (dX ⟨#[61]⟩ E7.out.sb.bH hg).mono ?_);rintro e YQ ⟨rfl,r_,k_⟩;have DL:=ah (E7.out.aQ k_ r_ (Nat.le_refl _));have Ie:=ah (K7.out.trans (fK k_));clear r_ k_)
      (first|go_end0|(refine bodyPost_ret (results_none rfl _ _ _) rfl ?_))
      exact dB.done Ie.out DL.out.sb (by rw [er.out];simp only [lu,lN.out,HQ.out,HR4.out,BF.out,HG.out,if_true,if_false,Bool.false_eq_true,not_true,not_false_iff];try rfl)
     | true =>
      have HG:Hid (aG (bs [61]) r6=true):=hg
      obtain ⟨r16,Bc⟩:∃r16,r16=r6.tail:=⟨_,rfl⟩
      have PI:Hid (r6.tail=r16):=Bc.symm
      go_upto_region 16 with (go_at_call 68;(with_reducible refine (jB ⟨#[61]⟩ E7.out.sb.bH hg).mono ?_);rintro e YQ ⟨rfl,r_,k_⟩;rw [←Bc] at r_;have DL:=ah (E7.out.aQ (l2:=r16) k_ r_ (by have:=gU hg;rw [Bc];omega));have Ie:=ah (K7.out.trans (fK k_));clear r_ k_)
      clear Bc
      obtain ⟨x0,x1,x2,x3,x4,_⟩:=DL.out.x.cells
      obtain ⟨Sp,hpv⟩:=DL.out.afA
      have HT:=ah (ER p _ Sp YQ hpv)
      clear hpv
      by_cases ht:isTarget p
      ·have ht2:decide (isTarget p)=true:=ak ht
       have HIT:=ah ht
       rw [ht2] at HT
       clear ht ht2
       go_upto_region 18 with (go_at_call 106;(refine HT.out.mono ?_);rintro e Ia ⟨rfl,k_⟩;have qF:=ah (DL.out.quiet k_);have zL:=ah (Ie.out.quiet k_);clear k_)
       clear x0 x1 x2 x3 x4
       obtain ⟨x0,x1,x2,x3,x4,_⟩:=qF.out.x.cells
       obtain ⟨v1,c1,f1⟩:=qF.out.sb.slot 1 (by decide)
       obtain ⟨v2,c2,f2⟩:=qF.out.sb.slot 2 (by decide)
       obtain ⟨v3,c3,f3⟩:=qF.out.sb.slot 3 (by decide)
       obtain ⟨v4,c4,f4⟩:=qF.out.sb.slot 4 (by decide)
       obtain ⟨v5,c5,f5⟩:=qF.out.sb.slot 5 (by decide)
       obtain ⟨v6,c6,f6⟩:=qF.out.sb.slot 6 (by decide)
       have hxm:¬X=M:=by have:=qF.out.lt;omega
       have hmx:¬M=X:=fun h=>hxm h.symm
       go_cut [] (fun wx=>Hid (jZ N T en M X {{st1 lb with kind:=4,value:=p,pat:=q} with kind:=3,target:=p} p ka kc r16 wx)∧Hid (Kept (fun b=>b=N∨b=M) w wx))
       case first =>
        go_region
        all_goals go_wp2_with fail
        all_goals go_meet
        all_goals first
         | exact ⟨((qF.out.setKind 3).rW).draw,(zL.out.trans (eU (bP.trans (gV _ M 2 p ka kc)))).drew⟩
         | exact ⟨((qF.out.rW).setKind 3).draw,(zL.out.trans (eU ((gV _ M 2 p ka kc).trans bP))).drew⟩
       case rest =>
        obtain ⟨PK,K22⟩:=hcut
        obtain ⟨EP,rfl⟩:∃x:World,x=wc:=⟨_,rfl⟩
        clear x0 x1 x2 x3 x4 c1 f1 c2 f2 c3 f3 c4 f4 c5 f5 c6 f6 hxm hmx
        obtain ⟨v1,c1,f1⟩:=PK.out.sb.slot 1 (by decide)
        go_upto_region 21 with fail
        have YR:=ah (PK.out.setKind 5)
        have K23:=ah (K22.out.trans (eU (bP (w:=EP) (M:=M) (i:=1) (v:=.int .i64 5))))
        obtain ⟨w23,abt⟩:∃w23,w23=EP.setCell ⟨M,1,none⟩ (.int .i64 5):=⟨_,rfl⟩
        rw [←abt] at YR K23
        rw [←abt]
        clear abt c1 f1
        go_wp2_with (go_at_call 105;(refine (Dz N T en r16 w23 YR.out.sb.bH).mono ?_);intro e w25 h_;rcases hu:uY en 400 r16 with e0|⟨v,r25⟩;(obtain ⟨k_,rfl⟩:=h_.bad hu;have f_:dB N T en M (bodyT en (st1 lb) l) w (.panicked [{v:=bI e0,recovered:=false}]) _:=dB.thrown K23.out k_ (by rw [er.out];simp only [lu,lN.out,HQ.out,HR4.out,BF.out,HG.out,PI.out,HIT.out,hu,if_true,if_false,Bool.false_eq_true,not_true,not_false_iff]);exact ⟨rfl,f_⟩);(obtain ⟨k_,r_,S,va,vc,rfl,iM,iO,fV⟩:=h_.ok hu;have Ib:=ah hu;have I25:=ah (YR.out.sb.aQ k_ r_ (by have:=tK en 400 _ _ _ hu;omega));have K25:=ah (K23.out.trans (fK k_));have I26:=ah (I25.out.setValue (kc:=vc) fV (fun b hb=>by have:=iM b hb;have:=YR.out.sb.SQ;omega) iO (by have:=tK en 400 _ _ _ hu;have:=YR.out.sb.few;omega));have K26:=ah (K25.out.trans (eU (gV w25 M 7 v va vc)));obtain ⟨v7,c7,f7⟩:=I25.out.slot 7 (by decide);obtain ⟨v8,c8,f8⟩:=I25.out.slot 8 (by decide);obtain ⟨v9,c9,f9⟩:=I25.out.slot 9 (by decide);obtain ⟨v10,c10,f10⟩:=I25.out.slot 10 (by decide);obtain ⟨v11,c11,f11⟩:=I25.out.slot 11 (by decide);clear k_ r_ iM iO fV h_ hu))
        (first|go_end0|(refine bodyPost_ret (results_none rfl _ _ _) rfl ?_))
        exact dB.done K26.out I26.out (by rw [er.out];simp only [lu,lN.out,HQ.out,HR4.out,BF.out,HG.out,PI.out,HIT.out,Ib.out,if_true,if_false,Bool.false_eq_true,not_true,not_false_iff];try rfl)
      ·have ht2:decide (isTarget p)=false:=au ht
       have HIT:=ah ht
       rw [ht2] at HT
       clear ht ht2
       go_wp2_with (first
        | (go_at_call 106;(refine HT.out.mono ?_);rintro e Ia ⟨rfl,k_⟩;have zL:=ah (Ie.out.quiet k_);clear k_)
        | (go_at_call 70;(refine (dD _ 8 (dJ en l) _).mono ?_);rintro e w9 ⟨rfl,rfl⟩))
       exact ⟨rfl,dB.thrown zL.out (Kept.refl _ _) (by rw [er.out];simp only [lu,lN.out,HQ.out,HR4.out,BF.out,HG.out,HIT.out,if_true,if_false,Bool.false_eq_true,not_true,not_false_iff])⟩
   | false =>
    have HQ:Hid (aG (bs [63]) r=false):=hq
    go_upto_region 14 with (go_at_call 68;(with_reducible refine (dX ⟨#[63]⟩ E3.out.sb.bH hq).mono ?_);rintro e w4 ⟨rfl,r_,k_⟩;have E4:=ah (E3.out.aQ k_ r_ (Nat.le_refl _));have K4:=ah (K3.out.trans (fK k_));clear r_ k_)
    obtain ⟨x0,x1,x2,x3,x4,_⟩:=E4.out.x.cells
    obtain ⟨v1,c1,f1⟩:=E4.out.sb.slot 1 (by decide)
    obtain ⟨v7,c7,f7⟩:=E4.out.sb.slot 7 (by decide)
    obtain ⟨v8,c8,f8⟩:=E4.out.sb.slot 8 (by decide)
    obtain ⟨v9,c9,f9⟩:=E4.out.sb.slot 9 (by decide)
    obtain ⟨v10,c10,f10⟩:=E4.out.sb.slot 10 (by decide)
    obtain ⟨v11,c11,f11⟩:=E4.out.sb.slot 11 (by decide)
    have hxm:¬X=M:=by have:=E4.out.lt;omega
    have hmx:¬M=X:=fun h=>hxm h.symm
    go_cut [] (fun wx=>Hid (jZ N T en M X {st1 lb with kind:=2,value:=p} p ka kc r wx)∧Hid (Kept (fun b=>b=N∨b=M) w wx))
    case first =>
     go_region
     all_goals go_wp2_with fail
     all_goals go_meet
     all_goals first
      | exact ⟨((E4.out.setKind 2).setValue).draw,(K4.out.trans (eU (bP.trans (gV _ M 7 p ka kc)))).drew⟩
      | exact ⟨((E4.out.setValue).setKind 2).draw,(K4.out.trans (eU ((gV _ M 7 p ka kc).trans bP))).drew⟩
    case rest =>
     obtain ⟨E5,K5⟩:=hcut
     obtain ⟨w5,rfl⟩:∃x:World,x=wc:=⟨_,rfl⟩
     clear x0 x1 x2 x3 x4 c1 f1 c7 f7 c8 f8 c9 f9 c10 f10 c11 f11 hxm hmx
     go_upto_region 15 with fail
     cases hg:aG ⟨#[61]⟩ r with
     | false =>
      have HG:Hid (aG (bs [61]) r=false):=hg
      go_wp2_with (go_at_call 68;(with_reducible refine (dX ⟨#[61]⟩ E5.out.sb.bH hg).mono ?_);rintro e YQ ⟨rfl,r_,k_⟩;have DL:=ah (E5.out.aQ k_ r_ (Nat.le_refl _));have Ie:=ah (K5.out.trans (fK k_));clear r_ k_)
      (first|go_end0|(refine bodyPost_ret (results_none rfl _ _ _) rfl ?_))
      exact dB.done Ie.out DL.out.sb (by rw [er.out];simp only [lu,lN.out,HQ.out,HG.out,if_true,if_false,Bool.false_eq_true,not_true,not_false_iff];try rfl)
     | true =>
      have HG:Hid (aG (bs [61]) r=true):=hg
      obtain ⟨r16,Bc⟩:∃r16,r16=r.tail:=⟨_,rfl⟩
      have PI:Hid (r.tail=r16):=Bc.symm
      go_upto_region 16 with (go_at_call 68;(with_reducible refine (jB ⟨#[61]⟩ E5.out.sb.bH hg).mono ?_);rintro e YQ ⟨rfl,r_,k_⟩;rw [←Bc] at r_;have DL:=ah (E5.out.aQ (l2:=r16) k_ r_ (by have:=gU hg;rw [Bc];omega));have Ie:=ah (K5.out.trans (fK k_));clear r_ k_)
      clear Bc
      obtain ⟨x0,x1,x2,x3,x4,_⟩:=DL.out.x.cells
      obtain ⟨Sp,hpv⟩:=DL.out.afA
      have HT:=ah (ER p _ Sp YQ hpv)
      clear hpv
      by_cases ht:isTarget p
      ·have ht2:decide (isTarget p)=true:=ak ht
       have HIT:=ah ht
       rw [ht2] at HT
       clear ht ht2
       go_upto_region 18 with (go_at_call 106;(refine HT.out.mono ?_);rintro e Ia ⟨rfl,k_⟩;have qF:=ah (DL.out.quiet k_);have zL:=ah (Ie.out.quiet k_);clear k_)
       clear x0 x1 x2 x3 x4
       obtain ⟨x0,x1,x2,x3,x4,_⟩:=qF.out.x.cells
       obtain ⟨v1,c1,f1⟩:=qF.out.sb.slot 1 (by decide)
       obtain ⟨v2,c2,f2⟩:=qF.out.sb.slot 2 (by decide)
       obtain ⟨v3,c3,f3⟩:=qF.out.sb.slot 3 (by decide)
       obtain ⟨v4,c4,f4⟩:=qF.out.sb.slot 4 (by decide)
       obtain ⟨v5,c5,f5⟩:=qF.out.sb.slot 5 (by decide)
       obtain ⟨v6,c6,f6⟩:=qF.out.sb.slot 6 (by decide)
       have hxm:¬X=M:=by have:=qF.out.lt;omega
       have hmx:¬M=X:=fun h=>hxm h.symm
       go_cut [] (fun wx=>Hid (jZ N T en M X {{st1 lb with kind:=2,value:=p} with kind:=3,target:=p} p ka kc r16 wx)∧Hid (Kept (fun b=>b=N∨b=M) w wx))
       case first =>
        go_region
        all_goals go_wp2_with fail
        all_goals go_meet
        all_goals first
         | exact ⟨((qF.out.setKind 3).rW).draw,(zL.out.trans (eU (bP.trans (gV _ M 2 p ka kc)))).drew⟩
         | exact ⟨((qF.out.rW).setKind 3).draw,(zL.out.trans (eU ((gV _ M 2 p ka kc).trans bP))).drew⟩
       case rest =>
        obtain ⟨PK,K22⟩:=hcut
        obtain ⟨EP,rfl⟩:∃x:World,x=wc:=⟨_,rfl⟩
        clear x0 x1 x2 x3 x4 c1 f1 c2 f2 c3 f3 c4 f4 c5 f5 c6 f6 hxm hmx
        go_upto_region 21 with fail
        go_wp2_with (go_at_call 105;(refine (Dz N T en r16 EP PK.out.sb.bH).mono ?_);intro e w25 h_;rcases hu:uY en 400 r16 with e0|⟨v,r25⟩;(obtain ⟨k_,rfl⟩:=h_.bad hu;have f_:dB N T en M (bodyT en (st1 lb) l) w (.panicked [{v:=bI e0,recovered:=false}]) _:=dB.thrown K22.out k_ (by rw [er.out];simp only [lu,lN.out,HQ.out,HG.out,PI.out,HIT.out,hu,if_true,if_false,Bool.false_eq_true,not_true,not_false_iff]);exact ⟨rfl,f_⟩);(obtain ⟨k_,r_,S,va,vc,rfl,iM,iO,fV⟩:=h_.ok hu;have Ib:=ah hu;have I25:=ah (PK.out.sb.aQ k_ r_ (by have:=tK en 400 _ _ _ hu;omega));have K25:=ah (K22.out.trans (fK k_));have I26:=ah (I25.out.setValue (kc:=vc) fV (fun b hb=>by have:=iM b hb;have:=PK.out.sb.SQ;omega) iO (by have:=tK en 400 _ _ _ hu;have:=PK.out.sb.few;omega));have K26:=ah (K25.out.trans (eU (gV w25 M 7 v va vc)));obtain ⟨v7,c7,f7⟩:=I25.out.slot 7 (by decide);obtain ⟨v8,c8,f8⟩:=I25.out.slot 8 (by decide);obtain ⟨v9,c9,f9⟩:=I25.out.slot 9 (by decide);obtain ⟨v10,c10,f10⟩:=I25.out.slot 10 (by decide);obtain ⟨v11,c11,f11⟩:=I25.out.slot 11 (by decide);clear k_ r_ iM iO fV h_ hu))
        (first|go_end0|(refine bodyPost_ret (results_none rfl _ _ _) rfl ?_))
        exact dB.done K26.out I26.out (by rw [er.out];simp only [lu,lN.out,HQ.out,HG.out,PI.out,HIT.out,Ib.out,if_true,if_false,Bool.false_eq_true,not_true,not_false_iff];try rfl)
      ·have ht2:decide (isTarget p)=false:=au ht
       have HIT:=ah ht
       rw [ht2] at HT
       clear ht ht2
       go_wp2_with (first
        | (go_at_call 106;(refine HT.out.mono ?_);rintro e Ia ⟨rfl,k_⟩;have zL:=ah (Ie.out.quiet k_);clear k_)
        | (go_at_call 70;(refine (dD _ 8 (dJ en l) _).mono ?_);rintro e w9 ⟨rfl,rfl⟩))
       exact ⟨rfl,dB.thrown zL.out (Kept.refl _ _) (by rw [er.out];simp only [lu,lN.out,HQ.out,HG.out,HIT.out,if_true,if_false,Bool.false_eq_true,not_true,not_false_iff])⟩
theorem YS {N T en M:Nat} {lb:aj} {l:List aC} {w:World} (h:dA N T en M (st1 lb) l w):Calls Tryz.prog 67 #[.pointer (some ⟨N,0,none⟩),.pointer (some ⟨M,0,none⟩)] w (dB N T en M (bodyT en (st1 lb) l) w):=by
 cases hd:dh l with
 | true=>exact PG h hd
 | false=>cases hr:jI l with
  | true=>exact Vu h hd hr
  | false=>exact Vw h hd hr
end Go.Proofs.YtodebjhalipefaaGreatDoor
