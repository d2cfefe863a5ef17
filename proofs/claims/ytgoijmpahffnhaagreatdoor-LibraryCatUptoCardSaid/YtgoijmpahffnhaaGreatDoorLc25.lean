/-  -/
import Derived.Test.YtgoijmpahffnhaaGreatDoorLc11
import Derived.LaidEql
namespace Go.Proofs.YtgoijmpahffnhaaGreatDoor
set_option linter.all false
open Go.RowKit
set_option maxRecDepth 100000
set_option maxHeartbeats 8000000
def st1 (lb:aj):aG:={st0 with label:=lb}
theorem dL.slot {N T en M:Nat} {s:aG} {l:List aC} {w:World} (h:dL N T en M s l w) (i:Nat) (hi:i<24):∃v,w.cell? ⟨M,i,none⟩=some v∧w.frozen? ⟨M,i,none⟩=false:=by
 obtain ⟨a,S,hB,_⟩:=h.st
 have hf:=hB.free i
 unfold bZ at hB
 refine ⟨(bV a s)[i]'(by simpa [bV] using hi),?_,hf⟩
 ·rw [cell_of_row w M i _ _ _ hB]
  have e:∀(j:Nat) (hj:j<(bV a s).length),(bV a s).toArray[j]?=some (bV a s)[j]:=fun j hj=>by simp [hj]
  exact e i (by simpa [bV] using hi)
theorem dL.RF {N T en M:Nat} {s:aG} {l:List aC} {w:World} (h:dL N T en M s l w):M<w.heap.size:=by obtain ⟨a,S,h2,_⟩:=h.st;exact h2.lt
theorem fO {N M:Nat} {w w2:World} (h:Kept (· = M) w w2):Kept (fun b=>b=N∨b=M) w w2:=h.more fun _ h=>.inr h
theorem gJ {N M:Nat} {w w2:World} (h:Kept (· = N) w w2):Kept (fun b=>b=N∨b=M) w w2:=h.more fun _ h=>.inl h
theorem ZM {c:Option aj} {en:Nat}:∀(f:Nat) (ns:List aj) (l:List aC) (Hy:List aj) (r:List aC),namesT c en f ns l=.ok (Hy,r)→(∀x∈ns,x.size≤16)→(∀x∈Hy,x.size≤16)∧Hy.length≤ns.length+f∧r.length≤l.length:=by
 intro f
 induction f with
 | zero=>intro ns l Hy r h hx;simp only [namesT,Except.ok.injEq,Prod.mk.injEq] at h;obtain ⟨rfl,rfl⟩:=h;exact ⟨hx,by omega,by omega⟩
 | succ f ih =>
  intro ns l Hy r h hx
  rw [namesT] at h
  split at h
  ·cases h
  ·split at h
   ·cases h
   ·next n r1 hn =>
    have hnl:=kY hn
    have hx2:∀x∈ns++[n],x.size≤16:=by
     intro x hm
     rcases List.mem_append.1 hm with hm|hm
     ·exact hx x hm
     ·rw [List.mem_singleton.1 hm];exact jf hn
    have hl2:(ns++[n]).length=ns.length+1:=by simp
    split at h
    ·split at h
     ·next hs=>simp only [Except.ok.injEq,Prod.mk.injEq] at h;obtain ⟨rfl,rfl⟩:=h;have:=iJ hs;exact ⟨hx2,by omega,by omega⟩
     ·split at h
      ·cases h
      ·next r2 hd =>
       obtain ⟨a,b,c⟩:=ih _ _ _ _ h hx2
       have:=oK hd
       exact ⟨a,by omega,by omega⟩
    ·split at h
     ·next hs=>obtain ⟨a,b,c⟩:=ih _ _ _ _ h hx2;have:=iJ hs;exact ⟨a,by omega,by omega⟩
     ·simp only [Except.ok.injEq,Prod.mk.injEq] at h;obtain ⟨rfl,rfl⟩:=h;exact ⟨hx2,by omega,by omega⟩
theorem DF {c:Option aj} {en:Nat} {l:List aC} {Hy:List aj} {r:List aC} (h:namesT c en 9 [] l=.ok (Hy,r)):(Hy.length<1000000000∧∀x∈Hy,x.size<1000000000)∧r.length≤l.length:=by
 obtain ⟨a,b,c⟩:=ZM _ _ _ _ _ h (fun x hx=>by cases hx)
 simp only [List.length_nil] at b
 exact ⟨⟨by omega,fun x hx=>by have:=a x hx;omega⟩,c⟩
theorem Hz:([44]:List UInt8)=(⟨#[44]⟩:aj).toList:=by rw [ByteArray.toList_eq]
theorem tZ.second {N T en n c d:Nat} {o:Nat} {t u:aC} {r:List aC} {w:World} (h:tZ N T en n (some ⟨T,o,none⟩) c (t::u::r) d w):w.cell? ⟨T,o+3,none⟩=some (.int .i64 u.kind)∧w.cell? ⟨T,o+4,none⟩=some (.string u.text):=by
 obtain ⟨o',e,hc⟩:=h.toks (by simp)
 simp only [Option.some.injEq,Addr.mk.injEq,true_and,and_true] at e
 subst e
 have e2:kT (t::u::r)=Dp t++(Dp u++kT r):=by simp [kT]
 rw [e2] at hc
 exact ⟨hc 3 _ rfl,hc 4 _ rfl⟩
theorem EU {N T en M:Nat} {lb:aj} {l:List aC} {w:World} (h:dL N T en M (st1 lb) l w):Calls Tryz.prog 87 #[.pointer (some ⟨N,0,none⟩),.pointer (some ⟨M,0,none⟩)] w (dM N T en M (fD en (st1 lb) l) w):=by
 obtain ⟨v1,c1,f1⟩:=h.slot 1 (by decide)
 obtain ⟨w1,hw1⟩:∃w1,w1=w.setCell ⟨M,1,none⟩ (.int .i64 7):=⟨_,rfl⟩
 have I1:=h.setKind 7
 have K1:Kept (fun b=>b=N∨b=M) w (w.setCell ⟨M,1,none⟩ (.int .i64 7)):=fO bW
 rw [←hw1] at I1 K1
 have I1:=ah I1;have K1:=ah K1;have HW1:=ah hw1
 clear h hw1
 go_enter Tryz.func87, Tryz.ntmps87
 go_upto_region 1 with fail
 rw [←HW1.out]
 clear c1 f1
 go_upto_region 2 with (go_at_call 50;(refine (fZ I1.out.bf).mono ?_);intro e w2 h_;rcases hu:dU en l with e0|⟨nm,r1⟩;(obtain ⟨k_,rfl⟩:=h_.bad hu;have f_:dM N T en M (fD en (st1 lb) l) w (.panicked [{v:=bK e0,recovered:=false}]) _:=dM.thrown K1.out k_ (by unfold fD;simp only [hu,if_true,if_false,Bool.false_eq_true]);exact ⟨rfl,f_⟩);(obtain ⟨k_,rfl,r_⟩:=h_.ok hu;have nM:=ah hu;have I2:=ah (I1.out.aQ k_ r_ (by have:=kY hu;omega));have K2:=ah (K1.out.trans (gJ k_));obtain ⟨v17,c17,f17⟩:=I2.out.slot 17 (by decide);clear k_ r_ h_ hu))
 have I3:=ah (I2.out.setName nm (by have:=jf nM.out;omega))
 have K3:=ah (K2.out.trans (fO (bW (w:=w2) (M:=M) (i:=17) (v:=.string nm))))
 obtain ⟨w3,hw3⟩:∃w3,w3=w2.setCell ⟨M,17,none⟩ (.string nm):=⟨_,rfl⟩
 rw [←hw3] at I3 K3
 rw [←hw3]
 clear hw3 c17 f17
 go_upto_region 3 with (go_at_call 88;(refine (jE (bs [40]) I3.out.bf).mono ?_);intro e w4 h_;rcases hu:eU (bs [40]) en r1 with e0|r2;(obtain ⟨k_,rfl⟩:=h_.bad hu;have f_:dM N T en M (fD en (st1 lb) l) w (.panicked [{v:=bK e0,recovered:=false}]) _:=dM.thrown K3.out k_ (by unfold fD;simp only [nM.out,hu,if_true,if_false,Bool.false_eq_true]);exact ⟨rfl,f_⟩);(obtain ⟨k_,rfl,r_⟩:=h_.ok hu;have zx:=ah hu;have I4:=ah (I3.out.aQ k_ r_ (by have:=oK hu;omega));have K4:=ah (K3.out.trans (gJ k_));clear k_ r_ h_ hu))
 cases hs:aH ⟨#[41]⟩ r2 with
 | true =>
  have HS:Hid (aH (bs [41]) r2=true):=hs
  go_upto_region 5 with (go_at_call 53;(with_reducible refine (jW ⟨#[41]⟩ I4.out.bf hs).mono ?_);rintro e w5 ⟨rfl,r_,k_⟩;have I5:=ah (I4.out.aQ k_ r_ (by have:=iJ hs;omega));have K5:=ah (K4.out.trans (gJ k_));clear r_ k_)
  obtain ⟨r5,hr5⟩:∃r5,r5=r2.tail:=⟨_,rfl⟩
  have Xd:Hid (r2.tail=r5):=hr5.symm
  rw [←hr5] at I5
  clear hr5
  obtain ⟨nq,aq,cq,hq⟩:=I5.out.bf
  go_cut [57] (fun c wx=>c=.bool (jq r5)∧wx=w5)
  case first =>
   obtain ⟨c0,c1,cd,cf⟩:=hq.c0
   have hn:=hq.num
   rcases r5 with _|⟨t,_|⟨u,r9⟩⟩
   ·have z:decide ((1:Int)<(nq:Int))=false:=by rw [hn];rfl
    have z':decide (1<nq)=false:=by rw [hn];rfl
    clear hn hq cf
    go_wp2_with fail
    go_meet
    exact ⟨rfl,rfl⟩
   ·have z:decide ((1:Int)<(nq:Int))=false:=by rw [hn];rfl
    have z':decide (1<nq)=false:=by rw [hn];rfl
    clear hn hq cf
    go_wp2_with fail
    go_meet
    exact ⟨rfl,rfl⟩
   ·rw [List.length_cons,List.length_cons] at hn
    have h0:1<nq:=by omega
    have h1:(1:Int)<(nq:Int):=by omega
    have z:decide ((1:Int)<(nq:Int))=true:=ak h1
    have z':decide (1<nq)=true:=ak h0
    obtain ⟨o,rfl,t0,t1,t2⟩:=hq.head
    obtain ⟨u0,u1⟩:=hq.second
    clear hn hq cf
    by_cases hk1:u.kind=1
    ·have y:(u.kind==1)=true:=by simpa using hk1
     have fin:Hid (jq (t::u::r9)=true):=by show (decide (u.kind=1)||decide (u.kind=5∧u.text=bs [44]))=_;rw [ak hk1];rfl
     clear hk1
     go_wp2_with fail
     go_meet
     exact ⟨by rw [fin.out],rfl⟩
    ·have y:(u.kind==1)=false:=by simpa using hk1
     by_cases hk5:u.kind=5
     ·have y5:(u.kind==5)=true:=by simpa using hk5
      by_cases hx:u.text=bs [44]
      ·have y2:(u.text.toList==[44])=true:=by rw [Hz,dD];exact ak hx
       have fin:Hid (jq (t::u::r9)=true):=by show (decide (u.kind=1)||decide (u.kind=5∧u.text=bs [44]))=_;rw [ak (p:=u.kind=5∧_) ⟨hk5,hx⟩,Bool.or_true]
       clear hk1 hk5 hx
       go_wp2_with fail
       go_meet
       exact ⟨by rw [fin.out],rfl⟩
      ·have y2:(u.text.toList==[44])=false:=by rw [Hz,dD];exact au hx
       have fin:Hid (jq (t::u::r9)=false):=by show (decide (u.kind=1)||decide (u.kind=5∧u.text=bs [44]))=_;rw [au hk1,au (p:=u.kind=5∧_) (fun h=>hx h.2)];rfl
       clear hk1 hk5 hx
       go_wp2_with fail
       go_meet
       exact ⟨by rw [fin.out],rfl⟩
     ·have y5:(u.kind==5)=false:=by simpa using hk5
      have fin:Hid (jq (t::u::r9)=false):=by show (decide (u.kind=1)||decide (u.kind=5∧u.text=bs [44]))=_;rw [au hk1,au (p:=u.kind=5∧_) (fun h=>hk5 h.1)];rfl
      clear hk1 hk5
      go_wp2_with fail
      go_meet
      exact ⟨by rw [fin.out],rfl⟩
  case rest =>
   obtain ⟨rfl,rfl⟩:=hcut
   have HW:=ah hq
   clear hq
   cases hc:jq r5 with
   | false =>
    go_wp2_with (go_at_call 50;(refine (fZ I5.out.bf).mono ?_);intro e Oz h_;rcases hu:dU en r5 with e0|⟨DI,r4⟩;(obtain ⟨k_,rfl⟩:=h_.bad hu;have f_:dM N T en M (fD en (st1 lb) l) w (.panicked [{v:=bK e0,recovered:=false}]) _:=dM.thrown K5.out k_ (by unfold fD;simp only [nM.out,zx.out,HS.out,Xd.out,hc,hu,if_true,if_false,Bool.false_eq_true]);exact ⟨rfl,f_⟩);(obtain ⟨k_,rfl,r_⟩:=h_.ok hu;have DJ:=ah hu;have I30:=ah (I5.out.aQ k_ r_ (by have:=kY hu;omega));have OA:=ah (K5.out.trans (gJ k_));obtain ⟨v18,c18,f18⟩:=I30.out.slot 18 (by decide);clear k_ r_ h_ hu))
    (first|go_end0|(refine bodyPost_ret (results_none rfl _ _ _) rfl ?_))
    exact dM.done (OA.out.trans (fO (bW (w:=Oz) (M:=M) (i:=18) (v:=.string DI)))) (I30.out.Bh DI (by have:=jf DJ.out;omega)) (by unfold fD;simp only [nM.out,zx.out,HS.out,Xd.out,hc,DJ.out,if_true,if_false,Bool.false_eq_true];try rfl)
   | true =>
    go_upto_region 7 with (go_at_call 127;(refine (ET I5.out.bf).mono ?_);intro e H7 h_;rcases hu:namesT none en 9 [] r5 with e0|⟨ls,r3⟩;(obtain ⟨k_,rfl⟩:=h_.bad hu;have f_:dM N T en M (fD en (st1 lb) l) w (.panicked [{v:=bK e0,recovered:=false}]) _:=dM.thrown K5.out k_ (by unfold fD;simp only [nM.out,zx.out,HS.out,Xd.out,hc,hu,if_true,if_false,Bool.false_eq_true]);exact ⟨rfl,f_⟩);(obtain ⟨k_,r_,la,lc,rfl,aK⟩:=h_.ok hu;have H8:=ah hu;have LN:=ah (DF hu);have I21:=ah (I5.out.aQ k_ r_ LN.out.2);have I22:=ah (I5.out.Kz k_ r_ LN.out.2 aK LN.out.1);have Aa:=ah (K5.out.trans (gJ k_));obtain ⟨v20,c20,f20⟩:=I21.out.slot 20 (by decide);clear k_ r_ h_ hu aK))
    have K22:=ah (Aa.out.trans (fO (bW (w:=H7) (M:=M) (i:=20) (v:=.slice la ls.length lc))))
    obtain ⟨EW,Gf⟩:∃EW,EW=H7.setCell ⟨M,20,none⟩ (.slice la ls.length lc):=⟨_,rfl⟩
    rw [←Gf] at I22 K22
    rw [←Gf]
    clear Gf c20 f20
    go_wp2_with (go_at_call 50;(refine (fZ I22.out.bf).mono ?_);intro e Oz h_;rcases hu:dU en r3 with e0|⟨DI,r4⟩;(obtain ⟨k_,rfl⟩:=h_.bad hu;have f_:dM N T en M (fD en (st1 lb) l) w (.panicked [{v:=bK e0,recovered:=false}]) _:=dM.thrown K22.out k_ (by unfold fD;simp only [nM.out,zx.out,HS.out,Xd.out,hc,H8.out,hu,if_true,if_false,Bool.false_eq_true]);exact ⟨rfl,f_⟩);(obtain ⟨k_,rfl,r_⟩:=h_.ok hu;have DJ:=ah hu;have I30:=ah (I22.out.aQ k_ r_ (by have:=kY hu;omega));have OA:=ah (K22.out.trans (gJ k_));obtain ⟨v18,c18,f18⟩:=I30.out.slot 18 (by decide);clear k_ r_ h_ hu))
    (first|go_end0|(refine bodyPost_ret (results_none rfl _ _ _) rfl ?_))
    exact dM.done (OA.out.trans (fO (bW (w:=Oz) (M:=M) (i:=18) (v:=.string DI)))) (I30.out.Bh DI (by have:=jf DJ.out;omega)) (by unfold fD;simp only [nM.out,zx.out,HS.out,Xd.out,hc,H8.out,DJ.out,if_true,if_false,Bool.false_eq_true];try rfl)
 | false =>
  have HS:Hid (aH (bs [41]) r2=false):=hs
  go_upto_region 4 with (go_at_call 53;(with_reducible refine (fA ⟨#[41]⟩ I4.out.bf hs).mono ?_);rintro e w5 ⟨rfl,r_,k_⟩;have I5:=ah (I4.out.aQ k_ r_ (Nat.le_refl _));have K5:=ah (K4.out.trans (gJ k_));clear r_ k_)
  go_upto_region 5 with (go_at_call 127;(refine (Ov I5.out.bf).mono ?_);intro e w6 h_;rcases hu:namesT (some (bs [41])) en 9 [] r2 with e0|⟨ps,r5⟩;(obtain ⟨k_,rfl⟩:=h_.bad hu;have f_:dM N T en M (fD en (st1 lb) l) w (.panicked [{v:=bK e0,recovered:=false}]) _:=dM.thrown K5.out k_ (by unfold fD;simp only [nM.out,zx.out,HS.out,hu,if_true,if_false,Bool.false_eq_true]);exact ⟨rfl,f_⟩);(obtain ⟨k_,r_,pa,pc,rfl,aK⟩:=h_.ok hu;have Cb:=ah hu;have LN:=ah (DF hu);have I6:=ah (I5.out.aQ k_ r_ LN.out.2);have I7:=ah (I5.out.Xb k_ r_ LN.out.2 aK LN.out.1);have K6:=ah (K5.out.trans (gJ k_));obtain ⟨v19,c19,f19⟩:=I6.out.slot 19 (by decide);clear k_ r_ h_ hu aK))
  have K7:=ah (K6.out.trans (fO (bW (w:=w6) (M:=M) (i:=19) (v:=.slice pa ps.length pc))))
  obtain ⟨w7,hw7⟩:∃w7,w7=w6.setCell ⟨M,19,none⟩ (.slice pa ps.length pc):=⟨_,rfl⟩
  rw [←hw7] at I7 K7
  rw [←hw7]
  clear hw7 c19 f19
  obtain ⟨nq,aq,cq,hq⟩:=I7.out.bf
  go_cut [57] (fun c wx=>c=.bool (jq r5)∧wx=w7)
  case first =>
   obtain ⟨c0,c1,cd,cf⟩:=hq.c0
   have hn:=hq.num
   rcases r5 with _|⟨t,_|⟨u,r9⟩⟩
   ·have z:decide ((1:Int)<(nq:Int))=false:=by rw [hn];rfl
    have z':decide (1<nq)=false:=by rw [hn];rfl
    clear hn hq cf
    go_wp2_with fail
    go_meet
    exact ⟨rfl,rfl⟩
   ·have z:decide ((1:Int)<(nq:Int))=false:=by rw [hn];rfl
    have z':decide (1<nq)=false:=by rw [hn];rfl
    clear hn hq cf
    go_wp2_with fail
    go_meet
    exact ⟨rfl,rfl⟩
   ·rw [List.length_cons,List.length_cons] at hn
    have h0:1<nq:=by omega
    have h1:(1:Int)<(nq:Int):=by omega
    have z:decide ((1:Int)<(nq:Int))=true:=ak h1
    have z':decide (1<nq)=true:=ak h0
    obtain ⟨o,rfl,t0,t1,t2⟩:=hq.head
    obtain ⟨u0,u1⟩:=hq.second
    clear hn hq cf
    by_cases hk1:u.kind=1
    ·have y:(u.kind==1)=true:=by simpa using hk1
     have fin:Hid (jq (t::u::r9)=true):=by show (decide (u.kind=1)||decide (u.kind=5∧u.text=bs [44]))=_;rw [ak hk1];rfl
     clear hk1
     go_wp2_with fail
     go_meet
     exact ⟨by rw [fin.out],rfl⟩
    ·have y:(u.kind==1)=false:=by simpa using hk1
     by_cases hk5:u.kind=5
     ·have y5:(u.kind==5)=true:=by simpa using hk5
      by_cases hx:u.text=bs [44]
      ·have y2:(u.text.toList==[44])=true:=by rw [Hz,dD];exact ak hx
       have fin:Hid (jq (t::u::r9)=true):=by show (decide (u.kind=1)||decide (u.kind=5∧u.text=bs [44]))=_;rw [ak (p:=u.kind=5∧_) ⟨hk5,hx⟩,Bool.or_true]
       clear hk1 hk5 hx
       go_wp2_with fail
       go_meet
       exact ⟨by rw [fin.out],rfl⟩
      ·have y2:(u.text.toList==[44])=false:=by rw [Hz,dD];exact au hx
       have fin:Hid (jq (t::u::r9)=false):=by show (decide (u.kind=1)||decide (u.kind=5∧u.text=bs [44]))=_;rw [au hk1,au (p:=u.kind=5∧_) (fun h=>hx h.2)];rfl
       clear hk1 hk5 hx
       go_wp2_with fail
       go_meet
       exact ⟨by rw [fin.out],rfl⟩
     ·have y5:(u.kind==5)=false:=by simpa using hk5
      have fin:Hid (jq (t::u::r9)=false):=by show (decide (u.kind=1)||decide (u.kind=5∧u.text=bs [44]))=_;rw [au hk1,au (p:=u.kind=5∧_) (fun h=>hk5 h.1)];rfl
      clear hk1 hk5
      go_wp2_with fail
      go_meet
      exact ⟨by rw [fin.out],rfl⟩
  case rest =>
   obtain ⟨rfl,rfl⟩:=hcut
   have HW:=ah hq
   clear hq
   cases hc:jq r5 with
   | false =>
    go_wp2_with (go_at_call 50;(refine (fZ I7.out.bf).mono ?_);intro e Oz h_;rcases hu:dU en r5 with e0|⟨DI,r4⟩;(obtain ⟨k_,rfl⟩:=h_.bad hu;have f_:dM N T en M (fD en (st1 lb) l) w (.panicked [{v:=bK e0,recovered:=false}]) _:=dM.thrown K7.out k_ (by unfold fD;simp only [nM.out,zx.out,HS.out,Cb.out,hc,hu,if_true,if_false,Bool.false_eq_true]);exact ⟨rfl,f_⟩);(obtain ⟨k_,rfl,r_⟩:=h_.ok hu;have DJ:=ah hu;have I30:=ah (I7.out.aQ k_ r_ (by have:=kY hu;omega));have OA:=ah (K7.out.trans (gJ k_));obtain ⟨v18,c18,f18⟩:=I30.out.slot 18 (by decide);clear k_ r_ h_ hu))
    (first|go_end0|(refine bodyPost_ret (results_none rfl _ _ _) rfl ?_))
    exact dM.done (OA.out.trans (fO (bW (w:=Oz) (M:=M) (i:=18) (v:=.string DI)))) (I30.out.Bh DI (by have:=jf DJ.out;omega)) (by unfold fD;simp only [nM.out,zx.out,HS.out,Cb.out,hc,DJ.out,if_true,if_false,Bool.false_eq_true];try rfl)
   | true =>
    go_upto_region 7 with (go_at_call 127;(refine (ET I7.out.bf).mono ?_);intro e H7 h_;rcases hu:namesT none en 9 [] r5 with e0|⟨ls,r3⟩;(obtain ⟨k_,rfl⟩:=h_.bad hu;have f_:dM N T en M (fD en (st1 lb) l) w (.panicked [{v:=bK e0,recovered:=false}]) _:=dM.thrown K7.out k_ (by unfold fD;simp only [nM.out,zx.out,HS.out,Cb.out,hc,hu,if_true,if_false,Bool.false_eq_true]);exact ⟨rfl,f_⟩);(obtain ⟨k_,r_,la,lc,rfl,aK⟩:=h_.ok hu;have H8:=ah hu;have LN:=ah (DF hu);have I21:=ah (I7.out.aQ k_ r_ LN.out.2);have I22:=ah (I7.out.Kz k_ r_ LN.out.2 aK LN.out.1);have Aa:=ah (K7.out.trans (gJ k_));obtain ⟨v20,c20,f20⟩:=I21.out.slot 20 (by decide);clear k_ r_ h_ hu aK))
    have K22:=ah (Aa.out.trans (fO (bW (w:=H7) (M:=M) (i:=20) (v:=.slice la ls.length lc))))
    obtain ⟨EW,Gf⟩:∃EW,EW=H7.setCell ⟨M,20,none⟩ (.slice la ls.length lc):=⟨_,rfl⟩
    rw [←Gf] at I22 K22
    rw [←Gf]
    clear Gf c20 f20
    go_wp2_with (go_at_call 50;(refine (fZ I22.out.bf).mono ?_);intro e Oz h_;rcases hu:dU en r3 with e0|⟨DI,r4⟩;(obtain ⟨k_,rfl⟩:=h_.bad hu;have f_:dM N T en M (fD en (st1 lb) l) w (.panicked [{v:=bK e0,recovered:=false}]) _:=dM.thrown K22.out k_ (by unfold fD;simp only [nM.out,zx.out,HS.out,Cb.out,hc,H8.out,hu,if_true,if_false,Bool.false_eq_true]);exact ⟨rfl,f_⟩);(obtain ⟨k_,rfl,r_⟩:=h_.ok hu;have DJ:=ah hu;have I30:=ah (I22.out.aQ k_ r_ (by have:=kY hu;omega));have OA:=ah (K22.out.trans (gJ k_));obtain ⟨v18,c18,f18⟩:=I30.out.slot 18 (by decide);clear k_ r_ h_ hu))
    (first|go_end0|(refine bodyPost_ret (results_none rfl _ _ _) rfl ?_))
    exact dM.done (OA.out.trans (fO (bW (w:=Oz) (M:=M) (i:=18) (v:=.string DI)))) (I30.out.Bh DI (by have:=jf DJ.out;omega)) (by unfold fD;simp only [nM.out,zx.out,HS.out,Cb.out,hc,H8.out,DJ.out,if_true,if_false,Bool.false_eq_true];try rfl)
end Go.Proofs.YtgoijmpahffnhaaGreatDoor

namespace Go.Proofs.YtgoijmpahffnhaaGreatDoor
set_option linter.all false
open Go.RowKit
set_option maxRecDepth 100000
set_option maxHeartbeats 16000000
theorem ZN (d M i j:Nat) (w:World):(Op.equalIn (d+1) 162 (.pointer (some ⟨M,i,none⟩)) (.pointer (some ⟨M,j,none⟩))).run Tryz.prog w=.ok (decide (i=j)) w:=by
 have hsz:(sizeOf 9).run Tryz.prog w=.ok 1 w:=by kernel_rfl
 by_cases h:i=j
 ·subst h;simp [Op.equalIn,run_underlying Tryz.underlying162,hsz,sameAddr]
 ·simp [Op.equalIn,run_underlying Tryz.underlying162,hsz,sameAddr,h]
theorem aaO (M i j:Nat) (w:World):(binOp .eql 162 (.pointer (some ⟨M,i,none⟩)) (.pointer (some ⟨M,j,none⟩))).run Tryz.prog w=.ok (.bool (decide (i=j))) w:=by
 simp only [binOp]
 simp [Op.equal,Op.maxDepth,ZN 9999]
theorem Ug (M:Nat) (w:World):(binOp .eql 162 (.pointer (some ⟨M,22,none⟩)) (.pointer (some ⟨M,22,none⟩))).run Tryz.prog w=.ok (.bool true) w:=aaO M 22 22 w
theorem Xe (M:Nat) (w:World):(binOp .eql 162 (.pointer (some ⟨M,23,none⟩)) (.pointer (some ⟨M,22,none⟩))).run Tryz.prog w=.ok (.bool false) w:=aaO M 23 22 w
def mG (en:Nat):Nat→aG→List aC→bD aG
 | 0,s,l=>.ok (s,l)
 | f+1,s,l =>
  if f=0∧l=[] then .ok (s,l)
  else match fF 1 en l with
   | .error er=>.error er
   | .ok (t,r) =>
    if t.text=bs [83] then
     if s.yes≠E0∨f=0 then .error (2,dP en l)
     else match eG en r with
      | .error er=>.error er
      | .ok (n,r1)=>mG en f {s with yes:=n} r1
    else if t.text=bs [70] then
     if s.dh≠E0 then .error (2,dP en l)
     else match eG en r with
      | .error er=>.error er
      | .ok (n,r1)=>mG en f {s with dh:=n} r1
    else .error (2,dP en l)
theorem Xf {k:Int} {en:Nat} {l:List aC} {er:Er} (h:fF k en l=.error er):er=(2,dP en l):=by
 cases l with
 | nil=>simp only [fF,Except.error.injEq] at h;exact h.symm
 | cons t r =>
  simp only [fF] at h
  split at h
  ·cases h
  ·simp only [Except.error.injEq] at h;exact h.symm
theorem KH {k:Int} {en:Nat} {l r:List aC} {t:aC} (h:fF k en l=.ok (t,r)):l=t::r∧t.kind=k:=by
 cases l with
 | nil=>cases h
 | cons u v =>
  simp only [fF] at h
  split at h
  ·next hk=>simp only [Except.ok.injEq,Prod.mk.injEq] at h;obtain ⟨rfl,rfl⟩:=h;exact ⟨rfl,hk⟩
  ·cases h
theorem H9 {x:aj} {en:Nat} {l r:List aC} (h:eU x en l=.ok r):r=l.tail:=by
 unfold eU at h
 split at h
 ·simp only [Except.ok.injEq] at h;exact h.symm
 ·cases h
theorem pX.tail {l:List aC} (h:pX l):pX l.tail:=by
 cases l with
 | nil=>exact h
 | cons t r=>exact fun u hu=>h u (List.mem_cons_of_mem _ hu)
theorem acd {en:Nat} {l r:List aC} {x:aj} (hb:pX l) (h:dU en l=.ok (x,r)):x≠E0∧r=l.tail:=by
 unfold dU at h
 split at h
 ·cases h
 ·next t r1 ht =>
  obtain ⟨rfl,hk⟩:=KH ht
  split at h
  ·cases h
  ·simp only [Except.ok.injEq,Prod.mk.injEq] at h;obtain ⟨rfl,rfl⟩:=h
   exact ⟨fun e=>(hb t (List.mem_cons_self ..)).2.2.2.2 hk (by rw [e];rfl),rfl⟩
theorem vO {en:Nat} {l r:List aC} {x:aj} (hb:pX l) (h:eG en l=.ok (x,r)):x≠E0∧pX r∧r.length≤l.length∧x.size≤16:=by
 unfold eG at h
 split at h
 ·cases h
 ·next r1 h1 =>
  split at h
  ·cases h
  ·next n r2 h2 =>
   split at h
   ·cases h
   ·next r3 h3 =>
    simp only [Except.ok.injEq,Prod.mk.injEq] at h;obtain ⟨rfl,rfl⟩:=h
    have e1:=H9 h1;have e3:=H9 h3
    have b1:pX r1:=by rw [e1];exact hb.tail
    obtain ⟨hne,e2⟩:=acd b1 h2
    have b2:pX r2:=by rw [e2];exact b1.tail
    have l1:=oK h1;have l2:=kY h2;have l3:=oK h3
    exact ⟨hne,by rw [e3];exact b2.tail,by omega,jf h2⟩
theorem ace {en:Nat} {s:aG} {l:List aC} (hb:pX l) (hy:s.yes=E0) (hn:s.dh=E0) (hs:aH (bs [40]) l=false):fP en s l=mG en 2 s l:=by
 have e83:bs [70]≠bs [83]:=by decide
 unfold fP mG
 rw [hs]
 simp only [if_false,Bool.false_eq_true,show ¬((1:Nat)=0∧l=[]) from fun h=>by simp at h]
 cases ht:fF 1 en l with
 | error er=>rfl
 | ok x =>
  obtain ⟨t,r⟩:=x
  obtain ⟨rfl,hk⟩:=KH ht
  have hbr:pX r:=hb.tail
  dsimp only
  by_cases h1:t.text=bs [83]
  ·rw [if_pos h1,if_pos h1,if_neg (by rw [hy];simp)]
   cases hl:eG en r with
   | error er=>rfl
   | ok y =>
    obtain ⟨n,r1⟩:=y
    obtain ⟨hne,hb1,_,_⟩:=vO hbr hl
    dsimp only
    unfold mG
    by_cases h0:r1=[]
    ·rw [if_pos h0,if_pos ⟨rfl,h0⟩]
    ·rw [if_neg h0,if_neg (fun h=>h0 h.2)]
     cases ht2:fF 1 en r1 with
     | error er=>rfl
     | ok z =>
      obtain ⟨u,r2⟩:=z
      dsimp only
      by_cases h2:u.text=bs [70]
      ·rw [if_pos h2,if_neg (by rw [h2];exact e83),if_pos h2,if_neg (by rw [hn];simp)]
       cases eG en r2 with
       | error er=>rfl
       | ok y2=>rfl
      ·rw [if_neg h2]
       by_cases h3:u.text=bs [83]
       ·rw [if_pos h3,if_pos (.inr rfl)]
       ·rw [if_neg h3,if_neg h2]
  ·rw [if_neg h1,if_neg h1]
   by_cases h2:t.text=bs [70]
   ·rw [if_pos h2,if_pos h2,if_neg (by rw [hn];simp)]
    cases hl:eG en r with
    | error er=>rfl
    | ok y =>
     obtain ⟨n,r1⟩:=y
     obtain ⟨hne,hb1,_,_⟩:=vO hbr hl
     dsimp only
     unfold mG
     by_cases h0:r1=[]
     ·rw [if_pos h0,if_pos ⟨rfl,h0⟩]
     ·rw [if_neg h0,if_neg (fun h=>h0 h.2)]
      cases ht2:fF 1 en r1 with
      | error er=>rw [Xf ht2]
      | ok z =>
       obtain ⟨u,r2⟩:=z
       dsimp only
       by_cases h3:u.text=bs [83]
       ·rw [if_pos h3,if_pos (.inr rfl)]
       ·rw [if_neg h3]
        by_cases h4:u.text=bs [70]
        ·rw [if_pos h4,if_pos hne]
        ·rw [if_neg h4]
   ·rw [if_neg h2,if_neg h2]
theorem dL.aaP {N T en M:Nat} {s:aG} {l:List aC} {w:World} (h:dL N T en M s l w):w.cell? ⟨M,22,none⟩=some (.string s.yes)∧w.cell? ⟨M,23,none⟩=some (.string s.dh)∧w.frozen? ⟨M,22,none⟩=false∧w.frozen? ⟨M,23,none⟩=false:=by
 obtain ⟨a,S,hB,_⟩:=h.st
 exact ⟨by unfold bZ at hB;rw [cell_of_row w M _ _ _ _ hB];rfl,by unfold bZ at hB;rw [cell_of_row w M _ _ _ _ hB];rfl,hB.free 22,hB.free 23⟩
theorem aaQ (x:UInt8):([x]:List UInt8)=(⟨#[x]⟩:aj).toList:=by rw [ByteArray.toList_eq]
theorem Ej {x:aj} {c:UInt8} (h:x=bs [c]):(x.toList==[c])=true:=by rw [aaQ,dD];exact ak h
theorem Bj {x:aj} {c:UInt8} (h:x≠bs [c]):(x.toList==[c])=false:=by rw [aaQ,dD];exact au h
theorem oL {x:aj} (h:x≠E0):x.toList.isEmpty=false:=by
 cases hx:x.toList.isEmpty with
 | false=>rfl
 | true =>
  exfalso;apply h
  rw [List.isEmpty_iff,ByteArray.toList_eq] at hx
  apply ByteArray.ext
  exact Array.toList_inj.1 hx
theorem kZ:(E0:aj).toList.isEmpty=true:=by rw [ByteArray.toList_eq];rfl
theorem Uh {N T en M:Nat} {s:aG} {l:List aC} {w:World} (h:dL N T en M s l w) (hy0:s.yes=E0) (hn0:s.dh=E0):Calls Tryz.prog 54 #[.pointer (some ⟨N,0,none⟩),.pointer (some ⟨M,0,none⟩)] w (dM N T en M (fP en s l) w):=by
 have HS:Hid (Calls Tryz.prog 51 #[.pointer (some ⟨N,0,none⟩),.string ⟨#[40]⟩] w (LQ (aH ⟨#[40]⟩ l) w)):=by obtain ⟨_,_,_,h⟩:=h.bf;exact yY _ h
 have HB:Hid (pX l):=by obtain ⟨_,_,_,h⟩:=h.bf;exact h.good
 have I0:=ah h
 have K0:Hid (Kept (fun b=>b=N∨b=M) w w):=Kept.refl _ _
 cases hs:aH ⟨#[40]⟩ l with
 | true =>
  rw [hs] at HS
  have er:Hid (fP en s l=match eG en l with | .error er=>.error er | .ok (n,r)=>.ok ({s with always:=n},r)):=by unfold Hid fP;rw [show aH (bs [40]) l=true from hs];rfl
  clear h hs hy0 hn0
  go_enter Tryz.func54, Tryz.ntmps54
  go_wp2_with (first
   | (go_at_call 51;(refine HS.out.mono ?_);rintro e w' ⟨rfl,aK⟩;obtain rfl:=aK.symm)
   | (go_at_call 92;(refine (o9 I0.out.bf).mono ?_);intro e w4 h_;rcases hu:eG en l with e0|⟨n,r⟩;(obtain ⟨k_,rfl⟩:=h_.bad hu;have f_:dM N T en M (fP en s l) w (.panicked [{v:=bK e0,recovered:=false}]) _:=dM.thrown K0.out k_ (by rw [er.out,hu]);exact ⟨rfl,f_⟩);(obtain ⟨k_,rfl,r_⟩:=h_.ok hu;have HU:=ah hu;have yt:=ah (vO HB.out hu);have I4:=ah (I0.out.aQ k_ r_ yt.out.2.2.1);have K4:=ah (K0.out.trans (gJ k_));obtain ⟨v4,c4,f4⟩:=I4.out.slot 21 (by decide);clear k_ r_ h_ hu)))
  (first|go_end0|(refine bodyPost_ret (results_none rfl _ _ _) rfl ?_))
  exact dM.done (K4.out.trans (fO bW)) (I4.out.Xa n (by have:=yt.out.2.2.2;omega)) (by rw [er.out,HU.out])
 | false =>
  rw [hs] at HS
  have er:Hid (fP en s l=mG en 2 s l):=ace HB.out hy0 hn0 hs
  clear h hs hy0 hn0
  have ep1:=Ug M;have ep2:=Xe M
  go_enter Tryz.func54, Tryz.ntmps54
  go_wp2_with (go_at_call 51;(refine HS.out.mono ?_);rintro e w' ⟨rfl,aK⟩;obtain rfl:=aK.symm)
  go_loopg [4] 2 (fun f x wr=>∃(n:Nat) (s2:aG) (l2:List aC),x=.int .i64 n∧Hid (n+f=2)∧Hid (dL N T en M s2 l2 wr)∧Hid (Kept (fun b=>b=N∨b=M) w wr)∧Hid (fP en s l=mG en f s2 l2))
  case atStart=>exact ⟨0,s,l,rfl,by unfold Hid;decide,I0,K0,er⟩
  case round =>
   obtain ⟨n,s2,l2,rfl,hnf,I,K,hch⟩:=hrel
   clear HS
   obtain rfl|rfl|rfl:n=0∨n=1∨n=2:=by have:=hnf.out;omega
   ·obtain rfl:gk=2:=by have:=hnf.out;omega
    clear hnf
    have kU:Hid (fP en s l=match fF 1 en l2 with | .error er=>.error er | .ok (t,r)=>(if t.text=bs [83] then (if s2.yes≠E0∨(1:Nat)=0 then .error (2,dP en l2) else match eG en r with | .error er=>.error er | .ok (n,r1)=>mG en 1 {s2 with yes:=n} r1) else if t.text=bs [70] then (if s2.dh≠E0 then .error (2,dP en l2) else match eG en r with | .error er=>.error er | .ok (n,r1)=>mG en 1 {s2 with dh:=n} r1) else .error (2,dP en l2):bD aG)):=by unfold Hid;rw [hch.out,mG,if_neg (fun h=>by simp at h)];try rfl
    clear hch
    have HA:Hid (Calls Tryz.prog 56 #[.pointer (some ⟨N,0,none⟩)] wr (wX (dP en l2) wr)):=by obtain ⟨_,_,_,h⟩:=I.out.bf;exact mM h
    have hfld:∀(t:aC) wx,(Instr.field 105 (.agg #[.int .i64 t.kind,.string t.text,.int .i64 t.at_]) 1).run Tryz.prog wx=.ok (.string t.text) wx:=fun _ _=>by kernel_rfl
    go_upto_region 9 with (first
     | (go_at_call 56;(refine HA.out.mono ?_);rintro e w' ⟨rfl,aK⟩;obtain rfl:=aK.symm)
     | (go_at_call 86;(refine (ug 1 I.out.bf).mono ?_);intro e w3 h_;rcases hu:fF 1 en l2 with e0|⟨t,r⟩;(obtain ⟨k_,rfl⟩:=h_.bad hu;have f_:dM N T en M (fP en s l) w (.panicked [{v:=bK e0,recovered:=false}]) _:=dM.thrown K.out k_ (by rw [kU.out,hu]);exact ⟨rfl,f_⟩);(obtain ⟨k_,Dv,r_⟩:=h_.ok hu;unfold Dq at Dv;subst Dv;have HU:=ah hu;have hf1:=hfld t;have TB:Hid (pX r):=(by obtain ⟨_,_,_,h⟩:=r_;exact h.good);have I3:=ah (I.out.aQ k_ r_ (by have:=uh hu;omega));have K3:=ah (K.out.trans (gJ k_));clear k_ r_ h_ hu)))
    clear hfld
    obtain ⟨y22,y23,g22,g23⟩:=I3.out.aaP
    by_cases hS:t.text=bs [83]
    ·have q1:(t.text.toList==[83])=true:=Ej hS
     by_cases hy:s2.yes=E0
     ·have q2:s2.yes.toList.isEmpty=true:=by rw [hy];exact kZ
      have DK:Hid (fP en s l=match eG en r with | .error er=>.error er | .ok (n,r1)=>mG en 1 {s2 with yes:=n} r1):=by unfold Hid;rw [kU.out,HU.out];dsimp only;rw [if_pos hS,if_neg (by rw [hy];simp)]
      clear hS kU hy
      cases hlb:eG en r with
      | error e0 =>
       go_wp2_with (go_at_call 92;(refine (o9 I3.out.bf).mono ?_);intro e w4 h_;obtain ⟨k_,rfl⟩:=h_.bad hlb;have K4:=ah k_;clear k_ h_)
       exact ⟨rfl,dM.thrown K3.out K4.out (by rw [DK.out,hlb])⟩
      | ok y =>
       obtain ⟨n,r1⟩:=y
       have yt:=ah (vO TB.out hlb)
       have OB:Hid (fP en s l=mG en 1 {s2 with yes:=n} r1):=by unfold Hid;rw [DK.out,hlb]
       go_wp2_with (go_at_call 92;(refine (o9 I3.out.bf).mono ?_);intro e w4 h_;obtain ⟨k_,rfl,r_⟩:=h_.ok hlb;have I4:=ah (I3.out.aQ k_ r_ yt.out.2.2.1);have K4:=ah (K3.out.trans (gJ k_));obtain ⟨v4,c4,f4⟩:=I4.out.slot 22 (by decide);clear k_ r_ h_)
       go_roundg 1
       case measure=>omega
       case rel=>exact ⟨1,{s2 with yes:=n},r1,by go_num,by unfold Hid;decide,I4.out.aeb n (by have:=yt.out.2.2.2;omega),K4.out.trans (fO bW),OB⟩
     ·have q2:s2.yes.toList.isEmpty=false:=oL hy
      have fin:Hid (fP en s l=.error (2,dP en l2)):=by unfold Hid;rw [kU.out,HU.out];dsimp only;rw [if_pos hS,if_pos (.inl hy)]
      clear hS kU hy
      go_wp2_with (go_at_call 55;(refine (dG _ 2 (dP en l2) _).mono ?_);rintro e w9 ⟨rfl,rfl⟩)
      exact ⟨rfl,dM.thrown K3.out (Kept.refl _ _) fin.out⟩
    ·have q1:(t.text.toList==[83])=false:=Bj hS
     by_cases hF:t.text=bs [70]
     ·have q3:(t.text.toList==[70])=true:=Ej hF
      by_cases hy:s2.dh=E0
      ·have q2:s2.dh.toList.isEmpty=true:=by rw [hy];exact kZ
       have DK:Hid (fP en s l=match eG en r with | .error er=>.error er | .ok (n,r1)=>mG en 1 {s2 with dh:=n} r1):=by unfold Hid;rw [kU.out,HU.out];dsimp only;rw [if_neg hS,if_pos hF,if_neg (by rw [hy];simp)]
       clear hS hF kU hy
       cases hlb:eG en r with
       | error e0 =>
        go_wp2_with (go_at_call 92;(refine (o9 I3.out.bf).mono ?_);intro e w4 h_;obtain ⟨k_,rfl⟩:=h_.bad hlb;have K4:=ah k_;clear k_ h_)
        exact ⟨rfl,dM.thrown K3.out K4.out (by rw [DK.out,hlb])⟩
       | ok y =>
        obtain ⟨n,r1⟩:=y
        have yt:=ah (vO TB.out hlb)
        have OB:Hid (fP en s l=mG en 1 {s2 with dh:=n} r1):=by unfold Hid;rw [DK.out,hlb]
        go_wp2_with (go_at_call 92;(refine (o9 I3.out.bf).mono ?_);intro e w4 h_;obtain ⟨k_,rfl,r_⟩:=h_.ok hlb;have I4:=ah (I3.out.aQ k_ r_ yt.out.2.2.1);have K4:=ah (K3.out.trans (gJ k_));obtain ⟨v4,c4,f4⟩:=I4.out.slot 23 (by decide);clear k_ r_ h_)
        go_roundg 1
        case measure=>omega
        case rel=>exact ⟨1,{s2 with dh:=n},r1,by go_num,by unfold Hid;decide,I4.out.RD n (by have:=yt.out.2.2.2;omega),K4.out.trans (fO bW),OB⟩
      ·have q2:s2.dh.toList.isEmpty=false:=oL hy
       have fin:Hid (fP en s l=.error (2,dP en l2)):=by unfold Hid;rw [kU.out,HU.out];dsimp only;rw [if_neg hS,if_pos hF,if_pos hy]
       clear hS hF kU hy
       go_wp2_with (go_at_call 55;(refine (dG _ 2 (dP en l2) _).mono ?_);rintro e w9 ⟨rfl,rfl⟩)
       exact ⟨rfl,dM.thrown K3.out (Kept.refl _ _) fin.out⟩
     ·have q3:(t.text.toList==[70])=false:=Bj hF
      have fin:Hid (fP en s l=.error (2,dP en l2)):=by unfold Hid;rw [kU.out,HU.out];dsimp only;rw [if_neg hS,if_neg hF]
      clear hS hF kU
      go_wp2_with (go_at_call 55;(refine (dG _ 2 (dP en l2) _).mono ?_);rintro e w9 ⟨rfl,rfl⟩)
      exact ⟨rfl,dM.thrown K3.out (Kept.refl _ _) fin.out⟩
   ·obtain rfl:gk=1:=by have:=hnf.out;omega
    clear hnf
    obtain ⟨n2,a2,c2,hP⟩:=I.out.bf
    obtain ⟨c0,c1,cd,cf⟩:=hP.c0
    have hn:=hP.num
    clear cf
    by_cases hl0:l2=[]
    ·have z:decide ((0:Int)<(n2:Int))=false:=by rw [hn,hl0];rfl
     have z':decide (0<n2)=false:=by rw [hn,hl0];rfl
     have fin:Hid (fP en s l=.ok (s2,l2)):=by unfold Hid;rw [hch.out,mG,if_pos ⟨rfl,hl0⟩]
     clear hn hP hl0
     go_wp2_with fail
     (first|go_end0|(refine bodyPost_ret (results_none rfl _ _ _) rfl ?_))
     exact dM.done K.out I.out fin.out
    have h0:0<n2:=by rw [hn];exact List.length_pos_iff.2 hl0
    have h1:(0:Int)<(n2:Int):=by omega
    have z:decide ((0:Int)<(n2:Int))=true:=ak h1
    have z':decide (0<n2)=true:=ak h0
    have HL0:=ah hl0
    have hch:Hid (fP en s l=mG en 1 s2 l2):=hch
    have kU:Hid (fP en s l=match fF 1 en l2 with | .error er=>.error er | .ok (t,r)=>(if t.text=bs [83] then (if s2.yes≠E0∨(0:Nat)=0 then .error (2,dP en l2) else match eG en r with | .error er=>.error er | .ok (n,r1)=>mG en 0 {s2 with yes:=n} r1) else if t.text=bs [70] then (if s2.dh≠E0 then .error (2,dP en l2) else match eG en r with | .error er=>.error er | .ok (n,r1)=>mG en 0 {s2 with dh:=n} r1) else .error (2,dP en l2):bD aG)):=by unfold Hid;rw [hch.out,mG,if_neg (fun h=>HL0.out h.2)];try rfl
    clear hn hP hl0 hch
    have HA:Hid (Calls Tryz.prog 56 #[.pointer (some ⟨N,0,none⟩)] wr (wX (dP en l2) wr)):=by obtain ⟨_,_,_,h⟩:=I.out.bf;exact mM h
    have hfld:∀(t:aC) wx,(Instr.field 105 (.agg #[.int .i64 t.kind,.string t.text,.int .i64 t.at_]) 1).run Tryz.prog wx=.ok (.string t.text) wx:=fun _ _=>by kernel_rfl
    go_upto_region 9 with (first
     | (go_at_call 56;(refine HA.out.mono ?_);rintro e w' ⟨rfl,aK⟩;obtain rfl:=aK.symm)
     | (go_at_call 86;(refine (ug 1 I.out.bf).mono ?_);intro e w3 h_;rcases hu:fF 1 en l2 with e0|⟨t,r⟩;(obtain ⟨k_,rfl⟩:=h_.bad hu;have f_:dM N T en M (fP en s l) w (.panicked [{v:=bK e0,recovered:=false}]) _:=dM.thrown K.out k_ (by rw [kU.out,hu]);exact ⟨rfl,f_⟩);(obtain ⟨k_,Dv,r_⟩:=h_.ok hu;unfold Dq at Dv;subst Dv;have HU:=ah hu;have hf1:=hfld t;have TB:Hid (pX r):=(by obtain ⟨_,_,_,h⟩:=r_;exact h.good);have I3:=ah (I.out.aQ k_ r_ (by have:=uh hu;omega));have K3:=ah (K.out.trans (gJ k_));clear k_ r_ h_ hu)))
    clear hfld
    obtain ⟨y22,y23,g22,g23⟩:=I3.out.aaP
    by_cases hS:t.text=bs [83]
    ·have q1:(t.text.toList==[83])=true:=Ej hS
     have fin:Hid (fP en s l=.error (2,dP en l2)):=by unfold Hid;rw [kU.out,HU.out];dsimp only;rw [if_pos hS,if_pos (by simp)]
     clear hS kU
     go_upto_region 12 with fail
     cases he:s2.yes.toList.isEmpty with
     | true =>
      go_wp2_with (go_at_call 55;(refine (dG _ 2 (dP en l2) _).mono ?_);rintro e w9 ⟨rfl,rfl⟩)
      exact ⟨rfl,dM.thrown K3.out (Kept.refl _ _) fin.out⟩
     | false =>
      go_wp2_with (go_at_call 55;(refine (dG _ 2 (dP en l2) _).mono ?_);rintro e w9 ⟨rfl,rfl⟩)
      exact ⟨rfl,dM.thrown K3.out (Kept.refl _ _) fin.out⟩
    ·have q1:(t.text.toList==[83])=false:=Bj hS
     by_cases hF:t.text=bs [70]
     ·have q3:(t.text.toList==[70])=true:=Ej hF
      by_cases hy:s2.dh=E0
      ·have q2:s2.dh.toList.isEmpty=true:=by rw [hy];exact kZ
       have DK:Hid (fP en s l=match eG en r with | .error er=>.error er | .ok (n,r1)=>mG en 0 {s2 with dh:=n} r1):=by unfold Hid;rw [kU.out,HU.out];dsimp only;rw [if_neg hS,if_pos hF,if_neg (by rw [hy];simp)]
       clear hS hF kU hy
       cases hlb:eG en r with
       | error e0 =>
        go_wp2_with (go_at_call 92;(refine (o9 I3.out.bf).mono ?_);intro e w4 h_;obtain ⟨k_,rfl⟩:=h_.bad hlb;have K4:=ah k_;clear k_ h_)
        exact ⟨rfl,dM.thrown K3.out K4.out (by rw [DK.out,hlb])⟩
       | ok y =>
        obtain ⟨n,r1⟩:=y
        have yt:=ah (vO TB.out hlb)
        have OB:Hid (fP en s l=mG en 0 {s2 with dh:=n} r1):=by unfold Hid;rw [DK.out,hlb]
        go_wp2_with (go_at_call 92;(refine (o9 I3.out.bf).mono ?_);intro e w4 h_;obtain ⟨k_,rfl,r_⟩:=h_.ok hlb;have I4:=ah (I3.out.aQ k_ r_ yt.out.2.2.1);have K4:=ah (K3.out.trans (gJ k_));obtain ⟨v4,c4,f4⟩:=I4.out.slot 23 (by decide);clear k_ r_ h_)
        go_roundg 0
        case measure=>omega
        case rel=>exact ⟨2,{s2 with dh:=n},r1,by go_num,by unfold Hid;decide,I4.out.RD n (by have:=yt.out.2.2.2;omega),K4.out.trans (fO bW),OB⟩
      ·have q2:s2.dh.toList.isEmpty=false:=oL hy
       have fin:Hid (fP en s l=.error (2,dP en l2)):=by unfold Hid;rw [kU.out,HU.out];dsimp only;rw [if_neg hS,if_pos hF,if_pos hy]
       clear hS hF kU hy
       go_wp2_with (go_at_call 55;(refine (dG _ 2 (dP en l2) _).mono ?_);rintro e w9 ⟨rfl,rfl⟩)
       exact ⟨rfl,dM.thrown K3.out (Kept.refl _ _) fin.out⟩
     ·have q3:(t.text.toList==[70])=false:=Bj hF
      have fin:Hid (fP en s l=.error (2,dP en l2)):=by unfold Hid;rw [kU.out,HU.out];dsimp only;rw [if_neg hS,if_neg hF]
      clear hS hF kU
      go_wp2_with (go_at_call 55;(refine (dG _ 2 (dP en l2) _).mono ?_);rintro e w9 ⟨rfl,rfl⟩)
      exact ⟨rfl,dM.thrown K3.out (Kept.refl _ _) fin.out⟩
   ·obtain rfl:gk=0:=by have:=hnf.out;omega
    have fin:Hid (fP en s l=.ok (s2,l2)):=hch
    clear hnf hch
    go_wp2_with fail
    (first|go_end0|(refine bodyPost_ret (results_none rfl _ _ _) rfl ?_))
    exact dM.done K.out I.out fin.out
end Go.Proofs.YtgoijmpahffnhaaGreatDoor
