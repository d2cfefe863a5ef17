/-  -/
import Derived.Test.YtgoijmpahffnhaaGreatDoorPs22
import Derived.Test.YtgoijmpahffnhaaGreatDoorLq3
namespace Go.Proofs.YtgoijmpahffnhaaGreatDoor
set_option linter.all false
open Go.RowKit
set_option maxRecDepth 100000
set_option maxHeartbeats 16000000
theorem FT (p:aB) (v:Value) (S:Nat→Prop) (w:World) (hp:oV w S v p):Calls Tryz.prog 91 #[v] w (ug (decide (isTarget p)) w):=by
 obtain ⟨ka,cap,rfl,hz,hk⟩:=hp
 by_cases h:isTarget p
 ·have hb:Hid (decide (isTarget p)=true):=ak h
  have h':=h;unfold isTarget at h'
  rcases h' with h'|h'|h'
  all_goals
   rw [h']
   clear h
   go_enter Tryz.func91, Tryz.ntmps91
   go_wp2_with fail
   go_ret
   exact ⟨by rw [hb.out];try rfl,(Kept.refl _ _).alloc _⟩
 ·have hb:Hid (decide (isTarget p)=false):=au h
  have h':=h;unfold isTarget at h'
  have e1:(p.kind==3)=false:=by simp;omega
  have e2:(p.kind==4)=false:=by simp;omega
  have e3:(p.kind==5)=false:=by simp;omega
  clear h h'
  go_enter Tryz.func91, Tryz.ntmps91
  go_wp2_with fail
  go_ret
  exact ⟨by rw [hb.out];try rfl,(Kept.refl _ _).alloc _⟩
structure kS (N T en M X:Nat) (s:aF) (p:aB) (ka:Option Addr) (kc:Nat) (l:List aC) (w:World):Prop where
 sb:dB N T en M s l w
 x:dS X (.int .i64 p.kind) (.string p.text) (.int .i64 p.n) (.string p.name) (.slice ka p.kids.length kc) w
 kids:∃S,aN w S ka p.kids∧∀b,S b→M<b∧b<w.heap.size
 z:p.text.size<1000000000∧p.name.size<1000000000∧p.kids.length<1000000000
 sz:sizeT p≤100000
 lt:M<X
theorem kS.aS {N T en M X:Nat} {s:aF} {p:aB} {ka:Option Addr} {kc:Nat} {l l2:List aC} {w w2:World} (h:kS N T en M X s p ka kc l w) (hk:Kept (· = N) w w2) (hr:bZ N T en l2 0 w2) (hl:l2.length≤l.length):kS N T en M X s p ka kc l2 w2:=by
 obtain ⟨h1,h2,⟨S,h3,h4⟩,h5,h6,h7⟩:=h
 have:=h1.lt
 exact ⟨h1.aS hk hr hl,h2.kept hk (by omega),⟨S,h3.kept hk (fun b hb=>⟨(h4 b hb).2,by have:=h4 b hb;omega⟩),fun b hb=>⟨(h4 b hb).1,Nat.lt_of_lt_of_le (h4 b hb).2 hk.size⟩⟩,h5,h6,h7⟩
theorem kS.quiet {N T en M X:Nat} {s:aF} {p:aB} {ka:Option Addr} {kc:Nat} {l:List aC} {w w2:World} (h:kS N T en M X s p ka kc l w) (hk:Kept aA w w2):kS N T en M X s p ka kc l w2 :=
 h.aS (hk.more fun _ h=>h.elim) (h.sb.bI.kept hk (fun h=>h) (fun h=>h)) (Nat.le_refl _)
theorem kS.upd {N T en M X:Nat} {s s2:aF} {p:aB} {ka:Option Addr} {kc:Nat} {l:List aC} {w w2:World} (h:kS N T en M X s p ka kc l w) (hs:dB N T en M s2 l w2) (hk:Kept (· = M) w w2):kS N T en M X s2 p ka kc l w2:=by
 obtain ⟨h1,h2,⟨S,h3,h4⟩,h5,h6,h7⟩:=h
 exact ⟨hs,h2.kept hk (by omega),⟨S,h3.kept hk (fun b hb=>⟨(h4 b hb).2,by have:=h4 b hb;omega⟩),fun b hb=>⟨(h4 b hb).1,Nat.lt_of_lt_of_le (h4 b hb).2 hk.size⟩⟩,h5,h6,h7⟩
def DX (w:World) (M i:Nat) (p:aB) (ka:Option Addr) (kc:Nat):World:=(((((w.setCell ⟨M,i,none⟩ (.int .i64 p.kind)).setCell ⟨M,i+1,none⟩ (.string p.text)).setCell ⟨M,i+2,none⟩ (.int .i64 p.n)).setCell ⟨M,i+3,none⟩ (.string p.name)).setCell ⟨M,i+4,none⟩ (.slice ka p.kids.length kc))
theorem gY (w:World) (M i:Nat) (p:aB) (ka:Option Addr) (kc:Nat):Kept (· = M) w (DX w M i p ka kc):=((((bT).trans bT).trans bT).trans bT).trans bT
theorem kS.setKind {N T en M X:Nat} {s:aF} {p:aB} {ka:Option Addr} {kc:Nat} {l:List aC} {w:World} (h:kS N T en M X s p ka kc l w) (k:Int):kS N T en M X {s with kind:=k} p ka kc l (w.setCell ⟨M,1,none⟩ (.int .i64 k)):=h.upd (h.sb.setKind k) bT
theorem kS.setValue {N T en M X:Nat} {s:aF} {p:aB} {ka:Option Addr} {kc:Nat} {l:List aC} {w:World} (h:kS N T en M X s p ka kc l w):kS N T en M X {s with value:=p} p ka kc l (DX w M 7 p ka kc):=by
 obtain ⟨S,h3,h4⟩:=h.kids
 exact h.upd (h.sb.setValue h3 h4 h.z (by have:=h.sz;omega)) (gY w M 7 p ka kc)
theorem kS.tJ {N T en M X:Nat} {s:aF} {p:aB} {ka:Option Addr} {kc:Nat} {l:List aC} {w:World} (h:kS N T en M X s p ka kc l w):kS N T en M X {s with target:=p} p ka kc l (DX w M 2 p ka kc):=by
 obtain ⟨S,h3,h4⟩:=h.kids
 exact h.upd (h.sb.tJ h3 h4 h.z (by have:=h.sz;omega)) (gY w M 2 p ka kc)
theorem kS.draw {N T en M X:Nat} {s:aF} {p:aB} {ka:Option Addr} {kc:Nat} {l:List aC} {w:World} (h:kS N T en M X s p ka kc l w):kS N T en M X s p ka kc l w.drew:=h.quiet (Kept.refl aA w).drew
theorem Qo {en:Nat} {l r:List aC} {p:aB} (h:qR en l=.ok (p,r)):sizeT p≤200000:=by
 unfold qR at h
 split at h<;>cases h
theorem lK:([68,69,70,73,78,69]:List UInt8)=tK.toList:=by rw [ByteArray.toList_eq];rfl
theorem Ce:([58,61]:List UInt8)=Ci.toList:=by rw [ByteArray.toList_eq];rfl
theorem Qp {N T en M:Nat} {lb:aj} {l:List aC} {w:World} (h:dB N T en M (st1 lb) l w) (hd:dw l=true):Calls Tryz.prog 52 #[.pointer (some ⟨N,0,none⟩),.pointer (some ⟨M,0,none⟩)] w (dD N T en M (bodyT en (st1 lb) l) w):=by
 have I0:=ah h
 have K0:Hid (Kept (fun b=>b=N∨b=M) w w):=Kept.refl _ _
 have er:Hid (bodyT en (st1 lb) l=dZ en (st1 lb) l.tail):=by unfold Hid bodyT;rw [if_pos hd]
 have HD:=ah hd
 clear h hd
 go_enter Tryz.func52, Tryz.ntmps52
 go_upto_region 0 with fail
 obtain ⟨nq,aq,cq,hq⟩:=I0.out.bI
 go_cut [50] (fun c wx=>c=.bool (dw l)∧w=wx)
 case first =>
  obtain ⟨c0,c1,cd,cf⟩:=hq.c0
  have hn:=hq.num
  rcases l with _|⟨t,l1⟩
  ·have z:decide ((0:Int)<(nq:Int))=false:=by rw [hn];rfl
   have z':decide (0<nq)=false:=by rw [hn];rfl
   have za:decide ((1:Int)<(nq:Int))=false:=by rw [hn];rfl
   have zF:decide (1<nq)=false:=by rw [hn];rfl
   clear hn hq cf
   go_wp2_with fail
   go_meet
   exact ⟨rfl,rfl⟩
  rw [List.length_cons] at hn
  have z:decide ((0:Int)<(nq:Int))=true:=ak (by omega)
  have z':decide (0<nq)=true:=ak (by omega)
  have h0:0<nq:=by omega
  have h1:(0:Int)<(nq:Int):=by omega
  obtain ⟨o,rfl,t0,t1,t2⟩:=hq.head
  rcases l1 with _|⟨u,l3⟩
  ·have za:decide ((1:Int)<(nq:Int))=false:=by rw [hn];rfl
   have zF:decide (1<nq)=false:=by rw [hn];rfl
   by_cases hk1:t.kind=1
   ·have y1:(t.kind==1)=true:=by simpa using hk1
    by_cases hx:t.text=tK
    ·have y2:(t.text.toList==[68,69,70,73,78,69])=true:=by rw [lK,cu];exact ak hx
     have fin:Hid (dw (t::[])=false):=rfl
     clear hn hq cf hk1 hx
     go_wp2_with fail
     go_meet
     exact ⟨by rw [fin.out],rfl⟩
    ·have y2:(t.text.toList==[68,69,70,73,78,69])=false:=by rw [lK,cu];exact au hx
     have fin:Hid (dw (t::[])=false):=rfl
     clear hn hq cf hk1 hx
     go_wp2_with fail
     go_meet
     exact ⟨by rw [fin.out],rfl⟩
   ·have y1:(t.kind==1)=false:=by simpa using hk1
    have fin:Hid (dw (t::[])=false):=rfl
    clear hn hq cf hk1
    go_wp2_with fail
    go_meet
    exact ⟨by rw [fin.out],rfl⟩
  ·rw [List.length_cons] at hn
   have za:decide ((1:Int)<(nq:Int))=true:=ak (by omega)
   have zF:decide (1<nq)=true:=ak (by omega)
   have h3:1<nq:=by omega
   have h4:(1:Int)<(nq:Int):=by omega
   obtain ⟨u0,u1⟩:=hq.second
   by_cases hk1:t.kind=1
   ·have y1:(t.kind==1)=true:=by simpa using hk1
    by_cases hx:t.text=tK
    ·have y2:(t.text.toList==[68,69,70,73,78,69])=true:=by rw [lK,cu];exact ak hx
     by_cases hk2:u.kind=1
     ·have y3:(u.kind==1)=true:=by simpa using hk2
      have fin:Hid (dw (t::u::l3)=true):=ak ⟨hk1,hx,hk2⟩
      clear hn hq cf hk1 hx hk2
      go_wp2_with fail
      go_meet
      exact ⟨by rw [fin.out],rfl⟩
     ·have y3:(u.kind==1)=false:=by simpa using hk2
      have fin:Hid (dw (t::u::l3)=false):=au (fun h=>hk2 h.2.2)
      clear hn hq cf hk1 hx hk2
      go_wp2_with fail
      go_meet
      exact ⟨by rw [fin.out],rfl⟩
    ·have y2:(t.text.toList==[68,69,70,73,78,69])=false:=by rw [lK,cu];exact au hx
     have fin:Hid (dw (t::u::l3)=false):=au (fun h=>hx h.2.1)
     clear hn hq cf hk1 hx
     go_wp2_with fail
     go_meet
     exact ⟨by rw [fin.out],rfl⟩
   ·have y1:(t.kind==1)=false:=by simpa using hk1
    have fin:Hid (dw (t::u::l3)=false):=au (fun h=>hk1 h.1)
    clear hn hq cf hk1
    go_wp2_with fail
    go_meet
    exact ⟨by rw [fin.out],rfl⟩
 case rest =>
  obtain ⟨rfl,rfl⟩:=hcut
  clear hq
  rw [HD.out]
  obtain ⟨t,l1,rfl⟩:∃t l1,l=t::l1:=by cases l with|nil=>cases HD.out|cons t l1=>exact ⟨t,l1,rfl⟩
  obtain ⟨nq,aq,cq,hq⟩:=I0.out.bI
  obtain ⟨c0,c1,cd,cf⟩:=hq.c0
  obtain ⟨n',a',c',hn',hsl,hR⟩:=hq.rest
  have hs1:=hsl w
  have TQ:=cf 0
  have kN:Kept (· = N) w (w.setCell ⟨N,0,none⟩ (.slice a' n' c')):=(Kept.refl (· = N) w).setCell (p:=⟨N,0,none⟩) (.inl rfl) _
  have I1:=ah (I0.out.aS kN ⟨_,_,_,hR⟩ (by simp))
  have K1:Hid (Kept (fun b=>b=N∨b=M) w (w.setCell ⟨N,0,none⟩ (.slice a' n' c'))):=fO kN
  clear hq hsl hR cf kN
  go_upto_region 2 with fail
  obtain ⟨w1,hw1⟩:∃w1,w1=w.setCell ⟨N,0,none⟩ (.slice a' n' c'):=⟨_,rfl⟩
  rw [←hw1] at I1 K1
  rw [←hw1]
  clear hw1 hs1 c0 c1 cd TQ
  cases hu:dZ en (st1 lb) l1 with
  | error e0 =>
   go_wp2_with (go_at_call 87;(refine (FP I1.out).mono ?_);intro e w4 h_;obtain ⟨k_,rfl⟩:=h_.bad hu;have K4:=ah (K1.out.trans k_);clear k_ h_)
   exact ⟨rfl,dD.thrown K4.out (Kept.refl _ _) (by rw [er.out];exact hu)⟩
  | ok y =>
   obtain ⟨s2,r⟩:=y
   go_wp2_with (go_at_call 87;(refine (FP I1.out).mono ?_);intro e w4 h_;obtain ⟨k_,rfl,s_⟩:=h_.ok hu;have K4:=ah (K1.out.trans k_);have I4:=ah s_;clear k_ h_ s_)
   (first|go_end0|(refine bodyPost_ret (results_none rfl _ _ _) rfl ?_))
   exact dD.done K4.out I4.out (by rw [er.out];exact hu)
theorem Xt {N T en M:Nat} {lb:aj} {l:List aC} {w:World} (h:dB N T en M (st1 lb) l w) (hd:dw l=false) (hr:jQ l=true):Calls Tryz.prog 52 #[.pointer (some ⟨N,0,none⟩),.pointer (some ⟨M,0,none⟩)] w (dD N T en M (bodyT en (st1 lb) l) w):=by
 have I0:=ah h
 have K0:Hid (Kept (fun b=>b=N∨b=M) w w):=Kept.refl _ _
 have er:Hid (bodyT en (st1 lb) l=Cj en (st1 lb) l):=by unfold Hid bodyT;rw [hd,hr];rfl
 have HD:=ah hd;have HR:=ah hr
 clear h hd hr
 go_enter Tryz.func52, Tryz.ntmps52
 go_upto_region 0 with fail
 obtain ⟨nq,aq,cq,hq⟩:=I0.out.bI
 go_cut [50] (fun c wx=>c=.bool (dw l)∧w=wx)
 case first =>
  obtain ⟨c0,c1,cd,cf⟩:=hq.c0
  have hn:=hq.num
  rcases l with _|⟨t,l1⟩
  ·have z:decide ((0:Int)<(nq:Int))=false:=by rw [hn];rfl
   have z':decide (0<nq)=false:=by rw [hn];rfl
   have za:decide ((1:Int)<(nq:Int))=false:=by rw [hn];rfl
   have zF:decide (1<nq)=false:=by rw [hn];rfl
   clear hn hq cf
   go_wp2_with fail
   go_meet
   exact ⟨rfl,rfl⟩
  rw [List.length_cons] at hn
  have z:decide ((0:Int)<(nq:Int))=true:=ak (by omega)
  have z':decide (0<nq)=true:=ak (by omega)
  have h0:0<nq:=by omega
  have h1:(0:Int)<(nq:Int):=by omega
  obtain ⟨o,rfl,t0,t1,t2⟩:=hq.head
  rcases l1 with _|⟨u,l3⟩
  ·have za:decide ((1:Int)<(nq:Int))=false:=by rw [hn];rfl
   have zF:decide (1<nq)=false:=by rw [hn];rfl
   by_cases hk1:t.kind=1
   ·have y1:(t.kind==1)=true:=by simpa using hk1
    by_cases hx:t.text=tK
    ·have y2:(t.text.toList==[68,69,70,73,78,69])=true:=by rw [lK,cu];exact ak hx
     have fin:Hid (dw (t::[])=false):=rfl
     clear hn hq cf hk1 hx
     go_wp2_with fail
     go_meet
     exact ⟨by rw [fin.out],rfl⟩
    ·have y2:(t.text.toList==[68,69,70,73,78,69])=false:=by rw [lK,cu];exact au hx
     have fin:Hid (dw (t::[])=false):=rfl
     clear hn hq cf hk1 hx
     go_wp2_with fail
     go_meet
     exact ⟨by rw [fin.out],rfl⟩
   ·have y1:(t.kind==1)=false:=by simpa using hk1
    have fin:Hid (dw (t::[])=false):=rfl
    clear hn hq cf hk1
    go_wp2_with fail
    go_meet
    exact ⟨by rw [fin.out],rfl⟩
  ·rw [List.length_cons] at hn
   have za:decide ((1:Int)<(nq:Int))=true:=ak (by omega)
   have zF:decide (1<nq)=true:=ak (by omega)
   have h3:1<nq:=by omega
   have h4:(1:Int)<(nq:Int):=by omega
   obtain ⟨u0,u1⟩:=hq.second
   by_cases hk1:t.kind=1
   ·have y1:(t.kind==1)=true:=by simpa using hk1
    by_cases hx:t.text=tK
    ·have y2:(t.text.toList==[68,69,70,73,78,69])=true:=by rw [lK,cu];exact ak hx
     by_cases hk2:u.kind=1
     ·have y3:(u.kind==1)=true:=by simpa using hk2
      have fin:Hid (dw (t::u::l3)=true):=ak ⟨hk1,hx,hk2⟩
      clear hn hq cf hk1 hx hk2
      go_wp2_with fail
      go_meet
      exact ⟨by rw [fin.out],rfl⟩
     ·have y3:(u.kind==1)=false:=by simpa using hk2
      have fin:Hid (dw (t::u::l3)=false):=au (fun h=>hk2 h.2.2)
      clear hn hq cf hk1 hx hk2
      go_wp2_with fail
      go_meet
      exact ⟨by rw [fin.out],rfl⟩
    ·have y2:(t.text.toList==[68,69,70,73,78,69])=false:=by rw [lK,cu];exact au hx
     have fin:Hid (dw (t::u::l3)=false):=au (fun h=>hx h.2.1)
     clear hn hq cf hk1 hx
     go_wp2_with fail
     go_meet
     exact ⟨by rw [fin.out],rfl⟩
   ·have y1:(t.kind==1)=false:=by simpa using hk1
    have fin:Hid (dw (t::u::l3)=false):=au (fun h=>hk1 h.1)
    clear hn hq cf hk1
    go_wp2_with fail
    go_meet
    exact ⟨by rw [fin.out],rfl⟩
 case rest =>
  obtain ⟨rfl,rfl⟩:=hcut
  clear hq
  rw [HD.out]
  go_upto_region 3 with fail
  obtain ⟨nq,aq,cq,hq⟩:=I0.out.bI
  go_cut [97] (fun c wx=>c=.bool (jQ l)∧w=wx)
  case first =>
   obtain ⟨c0,c1,cd,cf⟩:=hq.c0
   have hn:=hq.num
   rcases l with _|⟨t,l1⟩
   ·have z:decide ((0:Int)<(nq:Int))=false:=by rw [hn];rfl
    have z':decide (0<nq)=false:=by rw [hn];rfl
    have za:decide ((1:Int)<(nq:Int))=false:=by rw [hn];rfl
    have zF:decide (1<nq)=false:=by rw [hn];rfl
    clear hn hq cf
    go_wp2_with fail
    go_meet
    exact ⟨rfl,rfl⟩
   rw [List.length_cons] at hn
   have z:decide ((0:Int)<(nq:Int))=true:=ak (by omega)
   have z':decide (0<nq)=true:=ak (by omega)
   have h0:0<nq:=by omega
   have h1:(0:Int)<(nq:Int):=by omega
   obtain ⟨o,rfl,t0,t1,t2⟩:=hq.head
   rcases l1 with _|⟨u,l3⟩
   ·have za:decide ((1:Int)<(nq:Int))=false:=by rw [hn];rfl
    have zF:decide (1<nq)=false:=by rw [hn];rfl
    have fin:Hid (jQ [t]=false):=rfl
    clear hn hq cf
    go_wp2_with fail
    go_meet
    exact ⟨by rw [fin.out],rfl⟩
   ·rw [List.length_cons] at hn
    have za:decide ((1:Int)<(nq:Int))=true:=ak (by omega)
    have zF:decide (1<nq)=true:=ak (by omega)
    have h3:1<nq:=by omega
    have h4:(1:Int)<(nq:Int):=by omega
    obtain ⟨u0,u1⟩:=hq.second
    by_cases hk1:t.kind=1
    ·have y1:(t.kind==1)=true:=by simpa using hk1
     by_cases hk2:u.kind=5
     ·have y2:(u.kind==5)=true:=by simpa using hk2
      by_cases hx:u.text=Ci
      ·have y3:(u.text.toList==[58,61])=true:=by rw [Ce,cu];exact ak hx
       have fin:Hid (jQ (t::u::l3)=true):=ak ⟨hk1,hk2,hx⟩
       clear hn hq cf hk1 hk2 hx
       go_wp2_with fail
       go_meet
       exact ⟨by rw [fin.out],rfl⟩
      ·have y3:(u.text.toList==[58,61])=false:=by rw [Ce,cu];exact au hx
       have fin:Hid (jQ (t::u::l3)=false):=au (fun h=>hx h.2.2)
       clear hn hq cf hk1 hk2 hx
       go_wp2_with fail
       go_meet
       exact ⟨by rw [fin.out],rfl⟩
     ·have y2:(u.kind==5)=false:=by simpa using hk2
      have fin:Hid (jQ (t::u::l3)=false):=au (fun h=>hk2 h.2.1)
      clear hn hq cf hk1 hk2
      go_wp2_with fail
      go_meet
      exact ⟨by rw [fin.out],rfl⟩
    ·have y1:(t.kind==1)=false:=by simpa using hk1
     have fin:Hid (jQ (t::u::l3)=false):=au (fun h=>hk1 h.1)
     clear hn hq cf hk1
     go_wp2_with fail
     go_meet
     exact ⟨by rw [fin.out],rfl⟩
  case rest =>
   obtain ⟨rfl,rfl⟩:=hcut
   clear hq
   rw [HR.out]
   obtain ⟨v1,c1,f1⟩:=I0.out.slot 1 (by decide)
   go_upto_region 5 with fail
   have I1:=ah (I0.out.setKind 6)
   have K1:Hid (Kept (fun b=>b=N∨b=M) w (w.setCell ⟨M,1,none⟩ (.int .i64 6))):=fA bT
   obtain ⟨w1,hw1⟩:∃w1,w1=w.setCell ⟨M,1,none⟩ (.int .i64 6):=⟨_,rfl⟩
   rw [←hw1] at I1 K1
   rw [←hw1]
   clear hw1 c1 f1
   go_upto_region 6 with (go_at_call 50;(refine (fD I1.out.bI).mono ?_);intro e w2 h_;rcases hu:dN en l with e0|⟨nm,r1⟩;(obtain ⟨k_,rfl⟩:=h_.bad hu;have f_:dD N T en M (bodyT en (st1 lb) l) w (.panicked [{v:=bK e0,recovered:=false}]) _:=dD.thrown K1.out k_ (by rw [er.out];unfold Cj;simp only [hu]);exact ⟨rfl,f_⟩);(obtain ⟨k_,rfl,r_⟩:=h_.ok hu;have mO:=ah hu;have I2:=ah (I1.out.aS k_ r_ (by have:=jZ hu;omega));have K2:=ah (K1.out.trans (fO k_));obtain ⟨v17,c17,f17⟩:=I2.out.slot 17 (by decide);clear k_ r_ h_ hu))
   have I3:=ah (I2.out.setName nm (by have:=iG mO.out;omega))
   have K3:=ah (K2.out.trans (fA (bT (w:=w2) (M:=M) (i:=17) (v:=.string nm))))
   obtain ⟨w3,hw3⟩:∃w3,w3=w2.setCell ⟨M,17,none⟩ (.string nm):=⟨_,rfl⟩
   rw [←hw3] at I3 K3
   rw [←hw3]
   clear hw3 c17 f17
   go_upto_region 7 with (go_at_call 88;(refine (jf Ci I3.out.bI).mono ?_);intro e w4 h_;rcases hu:dX Ci en r1 with e0|r2;(obtain ⟨k_,rfl⟩:=h_.bad hu;have f_:dD N T en M (bodyT en (st1 lb) l) w (.panicked [{v:=bK e0,recovered:=false}]) _:=dD.thrown K3.out k_ (by rw [er.out];unfold Cj;simp only [mO.out,hu]);exact ⟨rfl,f_⟩);(obtain ⟨k_,rfl,r_⟩:=h_.ok hu;have zD:=ah hu;have I4:=ah (I3.out.aS k_ r_ (by have:=nP hu;omega));have K4:=ah (K3.out.trans (fO k_));clear k_ r_ h_ hu))
   go_wp2_with (go_at_call 89;(refine (Es I4.out.bI).mono ?_);intro e w5 h_;rcases hu:qR en r2 with e0|⟨q,r3⟩;(obtain ⟨k_,rfl⟩:=h_.bad hu;have f_:dD N T en M (bodyT en (st1 lb) l) w (.panicked [{v:=bK e0,recovered:=false}]) _:=dD.thrown K4.out k_ (by rw [er.out];unfold Cj;simp only [mO.out,zD.out,hu]);exact ⟨rfl,f_⟩);(obtain ⟨k_,r_,S,ka,kc,rfl,iP,iQ,fZ⟩:=h_.ok hu;have C9:=ah hu;have I5:=ah (I4.out.aS k_ r_ (by have:=Qe hu;omega));have K5:=ah (K4.out.trans (fO k_));have I6:=ah (I5.out.aaq (kc:=kc) fZ (fun b hb=>by have:=iP b hb;have:=I4.out.UK;omega) iQ (by have:=Qo hu;omega));have K6:=ah (K5.out.trans (fA (gY w5 M 12 q ka kc)));obtain ⟨v12,c12,f12⟩:=I5.out.slot 12 (by decide);obtain ⟨v13,c13,f13⟩:=I5.out.slot 13 (by decide);obtain ⟨v14,c14,f14⟩:=I5.out.slot 14 (by decide);obtain ⟨v15,c15,f15⟩:=I5.out.slot 15 (by decide);obtain ⟨v16,c16,f16⟩:=I5.out.slot 16 (by decide);clear k_ r_ iP iQ fZ h_ hu))
   (first|go_end0|(refine bodyPost_ret (results_none rfl _ _ _) rfl ?_))
   exact dD.done K6.out I6.out (by rw [er.out];unfold Cj;simp only [mO.out,zD.out,C9.out];try rfl)
end Go.Proofs.YtgoijmpahffnhaaGreatDoor
