/-  -/
import Derived.Test.YtodebjhalipefaaGreatDoorLq22
import Derived.Test.YtodebjhalipefaaGreatDoorPs24
import Derived.Recover
import Derived.RegionTactic
import Derived.BigRegion
import Derived.Test.YtodebjhalipefaaGreatDoorLq19
import Derived.Test.YtodebjhalipefaaGreatDoorLq11
import Derived.Test.YtodebjhalipefaaGreatDoorLq20
import Derived.Test.YtodebjhalipefaaGreatDoorLq14
import Derived.Test.YtodebjhalipefaaGreatDoorLr6
import Derived.Shelf.SlicesE.Reverse
import Derived.Deep.LoopGhost
namespace Go.Proofs.YtodebjhalipefaaGreatDoor
set_option linter.all false
open Go.RowKit
set_option maxRecDepth 100000
set_option maxHeartbeats 16000000
theorem bT.hc0 {M:Nat} {a:gW} {s:aF} {w:World} (h:bT M a s w) (i:Nat) (hi:i<24):w.cell? ⟨M,0+i,none⟩=some ((bM a s)[i]'(by simpa [bM] using hi)):=by
 unfold bT at h
 rw [Nat.zero_add,cell_of_row w M i _ _ _ h]
 have e:∀(j:Nat) (hj:j<(bM a s).length),(bM a s).toArray[j]?=some (bM a s)[j]:=fun j hj=>by simp [hj]
 exact e i (by simpa [bM] using hi)
theorem Lc {w:World} {M:Nat} {a:gW} {s:aF} (h:bT M a s w):(loadVar 69 ⟨M,0,none⟩).run Tryz.prog w=.ok (dN a s) w:=by
 have h1:=MZ h.hc0
 unfold Instr.loadAt at h1
 simpa only [Instr.sureAddr,Sem.run_bind,Sem.run_pure,Result.andThen_ok] using h1
theorem afG (n:Nat) {f:Func} (hres:f.results = #[.cell n 69]) {tmps:Array Value} {M:Nat} (ht:tmps.getD n undef=.pointer (some ⟨M,0,none⟩)) {a:gW} {s:aF} {w2:World} {Q:Ending→World→Prop} (h:bT M a s w2)
  (hq:Q (.returned (dN a s)) w2):bodyPost Tryz.prog f Q .ret ⟨tmps,[]⟩ w2:=by
 have ht':tmps[n]?.getD undef=.pointer (some ⟨M,0,none⟩):=by rw [←ht,Array.getD_eq_getD_getElem?]
 refine bodyPost_ret (v:=dN a s) ?_ rfl hq
 have hl:=Lc h
 simp [results,hres,ht',asAddr,hl,Sem.run_bind,Sem.run_pure,Result.andThen_ok]
def nilA:gW:=⟨none,0,none,0,none,0,none,0,none,0⟩
def cZ:aF:={st0 with kind:=0}
theorem afH (w:World) (S:Nat→Prop) {s:aF} (h1:s.target=yL) (h2:s.value=yL) (h3:s.pat=yL) (h4:s.params=[]) (h5:s.locals=[]):qZ w S nilA s:=by
 have hp:aN w S none []:=by unfold aN;trivial
 have hs:aX w S none []:=fun h=>by cases h
 exact ⟨by rw [h1];exact hp,by rw [h2];exact hp,by rw [h3];exact hp,by rw [h4];exact hs,by rw [h5];exact hs,by rw [h4];exact Nat.zero_le _,by rw [h5];exact Nat.zero_le _⟩
structure zM (N T en R M:Nat) (w:World) (s:aF) (l:List aC) (wx:World):Prop where
 sb:dA N T en M s l wx
 z:bT R nilA cZ wx
 k:Kept (· = N) w wx
 lt:N<w.heap.size∧T<w.heap.size∧w.heap.size≤R∧R<M
theorem zM.step {N T en R M:Nat} {w wx wy:World} {s s2:aF} {l l2:List aC} (h:zM N T en R M w s l wx) (hk:Kept (fun b=>b=N∨b=M) wx wy) (hs:dA N T en M s2 l2 wy):zM N T en R M w s2 l2 wy :=
 ⟨hs,h.z.kept hk (by have:=h.lt;omega),h.k.step hk (fun y hy=>by have:=h.lt;rcases hy with rfl|rfl;exact .inl rfl;exact .inr (by omega)),h.lt⟩
theorem zM.aQ {N T en R M:Nat} {w wx wy:World} {s:aF} {l l2:List aC} (h:zM N T en R M w s l wx) (hk:Kept (· = N) wx wy) (hr:bV N T en l2 0 wy) (hl:l2.length≤l.length):zM N T en R M w s l2 wy :=
 h.step (fK hk) (h.sb.aQ hk hr hl)
def BG (N:Nat) (res:Except Er aF) (w:World) (e:Ending) (w':World):Prop :=
 Kept (· = N) w w'∧match res with
  | .ok s=>∃a S,e=.returned (dN a s)∧ql s∧qZ w' S a s∧∀b,S b→w.heap.size≤b∧b<w'.heap.size
  | .error er=>jo er e
theorem BG.thrown {N:Nat} {r:Except Er aF} {w w2 w3:World} {er:Er} (K:Kept (· = N) w w2) (k:Kept (· = N) w2 w3) (hr:r=.error er):BG N r w (.panicked [{v:=bI er,recovered:=false}]) w3:=by
 subst hr;exact ⟨K.trans k,rfl⟩
def L9 (en:Nat) (s:aF) (r:List aC):Except Er aF:=match (if r≠[]∧aG (bs [58]) r=false then bodyT en s r else .ok (s,r)) with
 | .error er=>.error er
 | .ok (s2,r2)=>Ee en s2 r2
def tail3 (en:Nat) (s2:aF) (r:List aC):Except Er aF:=if r≠[] then .error (2,dJ en r) else if 200<nG s2.target∨200<nG s2.value then .error (4,0) else .ok s2
theorem Ig {en a:Nat} {s s2:aF} {x:aB} {k:Int} {l r:List aC} (h:lu en a s x k l=.ok (s2,r)):s2.yes=s.yes∧s2.bU=s.bU:=by
 unfold lu at h
 split at h
 ·split at h
  ·cases h
  ·split at h
   ·cases h
   ·simp only [Except.ok.injEq,Prod.mk.injEq] at h;obtain ⟨rfl,_⟩:=h;exact ⟨rfl,rfl⟩
 ·simp only [Except.ok.injEq,Prod.mk.injEq] at h;obtain ⟨rfl,_⟩:=h;exact ⟨rfl,rfl⟩
theorem YT {en:Nat} {s s2:aF} {l r:List aC} (h:bodyT en s l=.ok (s2,r)):s2.yes=s.yes∧s2.bU=s.bU:=by
 unfold bodyT at h
 split at h
 ·unfold dY at h
  repeat' split at h
  all_goals first|cases h;done|(simp only [Except.ok.injEq,Prod.mk.injEq] at h;obtain ⟨rfl,_⟩:=h;exact ⟨rfl,rfl⟩)
 ·split at h
  ·unfold Ba at h
   repeat' split at h
   all_goals first|cases h;done|(simp only [Except.ok.injEq,Prod.mk.injEq] at h;obtain ⟨rfl,_⟩:=h;exact ⟨rfl,rfl⟩)
  ·unfold acu at h
   split at h
   ·cases h
   ·split at h
    ·split at h
     ·cases h
     ·have:=Ig h;exact this
    ·have:=Ig h;exact this
theorem dA.qx {N T en M:Nat} {s:aF} {l:List aC} {w:World} (h:dA N T en M s l w):(∃S,aU w S M 2 s.target)∧∃S,aU w S M 7 s.value:=by
 obtain ⟨a,S,hB,hO,hS⟩:=h.st
 have hlt:=hB.lt
 obtain ⟨c0,c1,c2,c3,c4,c5,c6,c7,c8,c9,c10,c11,c12,c13,c14,c15,c16,c17,c18,c19,c20,c21,dS,c23⟩:=hB.cells
 have hk1:=hO.target.to (S':=fun b=>S b∨b=M) (Kept.refl aA w) (fun b hb=>⟨(hS b hb).2,fun h=>h⟩) (fun _ h=>.inl h)
 have hk2:=hO.value.to (S':=fun b=>S b∨b=M) (Kept.refl aA w) (fun b hb=>⟨(hS b hb).2,fun h=>h⟩) (fun _ h=>.inl h)
 have z1:=h.sz.target.z;have z2:=h.sz.value.z
 refine ⟨⟨fun b=>S b∨b=M,?_⟩,⟨fun b=>S b∨b=M,?_⟩⟩
 ·generalize s.target=p at *
  obtain ⟨k,t,n,nm,kids⟩:=p
  unfold aU
  exact ⟨.inr rfl,z1,c2,c3,c4,c5,a.ta,a.tc,c6,hk1⟩
 ·generalize s.value=p at *
  obtain ⟨k,t,n,nm,kids⟩:=p
  unfold aU
  exact ⟨.inr rfl,z2,c7,c8,c9,c10,a.va,a.vc,c11,hk2⟩
theorem Ld {N T en:Nat} (lab:Bool) {l:List aC} {w:World} (h:bV N T en l 0 w) (hl:l.length≤100000):Calls Tryz.prog 40 #[.pointer (some ⟨N,0,none⟩),.bool lab] w (BG N (gB en lab l) w):=by
 obtain ⟨hN,hT,hne,h7⟩:=h.jm
 obtain ⟨w0,hw0⟩:∃w0,w0=w.alloc (.cells #[.string ⟨#[]⟩,.int .i64 0,.int .i64 0,.string ⟨#[]⟩,.int .i64 0,.string ⟨#[]⟩,.slice none 0 0,.int .i64 0,.string ⟨#[]⟩,.int .i64 0,.string ⟨#[]⟩,.slice none 0 0,.int .i64 0,.string ⟨#[]⟩,.int .i64 0,.string ⟨#[]⟩,.slice none 0 0,.string ⟨#[]⟩,.string ⟨#[]⟩,.slice none 0 0,.slice none 0 0,.string ⟨#[]⟩,.string ⟨#[]⟩,.string ⟨#[]⟩] 69):=⟨_,rfl⟩
 have k0:Kept aA w w0:=by rw [hw0];exact (Kept.refl _ _).alloc _
 obtain ⟨R,hR⟩:∃R,R=w.heap.size:=⟨_,rfl⟩
 have Z0:Hid (bT R nilA cZ w0):=by rw [hw0,hR];exact bT.new w nilA cZ
 have R0:=ah (h.kept k0 (fun h=>h) (fun h=>h))
 have K0:=ah k0;have HW0:=ah hw0;have HR:=ah hR;have HL:=ah hl
 have hz0:Hid (w0.heap.size=w.heap.size+1):=by unfold Hid;rw [hw0];simp
 clear k0 hw0 hR h hl
 go_enter Tryz.func40, Tryz.ntmps40
 go_upto_region 1 with fail
 rw [←HW0.out,←HR.out]
 go_upto_region 2 with (refine iC rfl _ _ rfl w0.heap.size rfl nilA st0 rfl _ (ay w0 _) rfl ?_;intro w1 hB1 hk1;have kA:=(Kept.refl aA w0).alloc (.cells #[.string ⟨#[]⟩,.int .i64 0,.int .i64 0,.string ⟨#[]⟩,.int .i64 0,.string ⟨#[]⟩,.slice none 0 0,.int .i64 0,.string ⟨#[]⟩,.int .i64 0,.string ⟨#[]⟩,.slice none 0 0,.int .i64 0,.string ⟨#[]⟩,.int .i64 0,.string ⟨#[]⟩,.slice none 0 0,.string ⟨#[]⟩,.string ⟨#[]⟩,.slice none 0 0,.slice none 0 0,.string ⟨#[]⟩,.string ⟨#[]⟩,.string ⟨#[]⟩] 69);have hlt1:=hB1.lt;have I1:Hid (zM N T en R w0.heap.size w (st1 E0) l w1):=(by have hz:=hz0.out;have hr:=HR.out;have hs1:=hk1.size;refine ⟨⟨(R0.out.kept kA (fun h=>h) (fun h=>h)).kept hk1 (by omega) (by omega) (by omega),⟨nilA,aA,hB1,afH _ _ rfl rfl rfl rfl rfl,fun b hb=>hb.elim⟩,afx (lb:=E0) (by decide),by omega,HL.out⟩,(Z0.out.kept kA (fun h=>h)).kept hk1 (by omega),((K0.out.trans kA).more (fun _ h=>h.elim)).step hk1 (fun y hy=>.inr (by omega)),by omega⟩);clear hB1 hk1 kA hlt1)
 obtain ⟨M,hM⟩:∃M,M=w0.heap.size:=⟨_,rfl⟩
 rw [←hM] at I1
 rw [←hM]
 clear hM
 try dsimp only [Act.put]
 go_upto_if 7 with fail
 go_cut [] (fun wx=>∃(lb:aj) (r:List aC),Hid (zM N T en R M w (st1 lb) r wx)∧Hid (gB en lab l=L9 en (st1 lb) r))
 case first =>
  cases lab with
  | true =>
   go_wp2_with (go_at_call 65;(refine (fB I1.out.sb.bH).mono ?_);intro e w2 h_;rcases hu:dL en l with e0|⟨lb,r⟩;(obtain ⟨k_,rfl⟩:=h_.bad hu;have f_:BG N (gB en true l) w (.panicked [{v:=bI e0,recovered:=false}]) _:=BG.thrown I1.out.k k_ (by unfold gB;simp only [if_true,hu]);exact ⟨rfl,f_⟩);(obtain ⟨k_,rfl,r_⟩:=h_.ok hu;have HU:=ah hu;have I2:=ah (I1.out.aQ k_ r_ (by have:=jQ hu;omega));obtain ⟨v0,c0,f0⟩:=I2.out.sb.slot 0 (by decide);clear k_ r_ h_ hu))
   go_meet
   exact ⟨lb,r,I2.out.step (eU bP) (I2.out.sb.abp lb (by have:=iF HU.out;omega)),by unfold Hid gB;simp only [if_true,HU.out];rfl⟩
  | false =>
   go_wp2_with fail
   go_meet
   exact ⟨E0,l,I1,by unfold Hid gB;rfl⟩
 case rest =>
  obtain ⟨lb,r,I2,H2⟩:=hcut
  obtain ⟨w2,rfl⟩:∃x:World,x=wc:=⟨_,rfl⟩
  clear I1 Z0 R0
  go_upto_region 4 with fail
  obtain ⟨nq,aq,cq,hq⟩:=I2.out.sb.bH
  have HS:=ah (yE ⟨#[58]⟩ hq)
  go_cut [21] (fun c wx=>c=.bool (decide (r≠[]∧aG (bs [58]) r=false))∧w2=wx)
  case first =>
   obtain ⟨c0,c1,cd,cf⟩:=hq.c0
   have hn:=hq.num
   by_cases h0:r=[]
   ·have z:decide ((0:Int)<(nq:Int))=false:=by rw [hn,h0];rfl
    have z':decide (0<nq)=false:=by rw [hn,h0];rfl
    have fin:Hid (decide (r≠[]∧aG (bs [58]) r=false)=false):=au (fun h=>h.1 h0)
    clear hn hq cf h0
    go_wp2_with fail
    go_meet
    exact ⟨by rw [fin.out],rfl⟩
   ·have hp:0<nq:=by rw [hn];exact List.length_pos_iff.2 h0
    have z:decide ((0:Int)<(nq:Int))=true:=ak (by omega)
    have z':decide (0<nq)=true:=ak hp
    have fin:Hid (decide (r≠[]∧aG (bs [58]) r=false)=!(aG ⟨#[58]⟩ r)):=by
     unfold Hid
     cases hs:aG ⟨#[58]⟩ r with
     | true=>exact au (fun h=>by rw [show aG (bs [58]) r=true from hs] at h;cases h.2)
     | false=>exact ak ⟨h0,hs⟩
    clear hn hq cf h0
    go_wp2_with (go_at_call 66;(refine HS.out.mono ?_);rintro e w' ⟨rfl,aH⟩;obtain rfl:=aH.symm)
    go_meet
    exact ⟨by rw [fin.out],rfl⟩
  case rest =>
   obtain ⟨rfl,rfl⟩:=hcut
   clear hq
   go_upto_if 21 with fail
   go_cut [] (fun wx=>∃(s2:aF) (r2:List aC),Hid (zM N T en R M w s2 r2 wx)∧Hid (s2.yes=E0∧s2.bU=E0)∧Hid (gB en lab l=Ee en s2 r2))
   case first =>
    by_cases hb:r≠[]∧aG (bs [58]) r=false
    ·have HB:=ah hb
     rw [ak hb]
     clear hb
     go_wp2_with (go_at_call 67;(refine (YS I2.out.sb).mono ?_);intro e w3 h_;rcases hu:bodyT en (st1 lb) r with e0|⟨s2,r2⟩;(obtain ⟨k_,rfl⟩:=h_.bad hu;have f_:BG N (gB en lab l) w (.panicked [{v:=bI e0,recovered:=false}]) _:=BG.thrown (I2.out.k.step k_ (fun y hy=>by have:=I2.out.lt;rcases hy with rfl|rfl;exact .inl rfl;exact .inr (by omega))) (Kept.refl _ _) (by rw [H2.out];unfold L9;rw [if_pos HB.out,hu]);exact ⟨rfl,f_⟩);(obtain ⟨k_,rfl,s_⟩:=h_.ok hu;have HU:=ah hu;have I3:=ah (I2.out.step k_ s_);clear k_ s_ h_ hu))
     go_meet
     exact ⟨s2,r2,I3,by have:=YT HU.out;exact this,by unfold Hid;rw [H2.out];unfold L9;rw [if_pos HB.out,HU.out]⟩
    ·have HB:=ah hb
     rw [au hb]
     clear hb
     go_wp2_with fail
     go_meet
     exact ⟨st1 lb,r,I2,⟨rfl,rfl⟩,by unfold Hid;rw [H2.out];unfold L9;rw [if_neg HB.out]⟩
   case rest =>
    obtain ⟨s2,r2,I3,HY,H3⟩:=hcut
    obtain ⟨w3,rfl⟩:∃x:World,x=wc:=⟨_,rfl⟩
    clear I2 HS H2
    go_upto_region 6 with fail
    go_cut [25] (fun c wx=>c=.bool (aG ⟨#[58]⟩ r2)∧Hid (zM N T en R M w s2 (if aG ⟨#[58]⟩ r2=true then r2.tail else r2) wx))
    case first =>
     cases hs:aG ⟨#[58]⟩ r2 with
     | true =>
      go_wp2_with (go_at_call 68;(with_reducible refine (jB ⟨#[58]⟩ I3.out.sb.bH hs).mono ?_);rintro e w4 ⟨rfl,r_,k_⟩;have I4:=ah (I3.out.aQ k_ r_ (by have:=gU hs;omega));clear r_ k_)
      go_meet
      rw [hs]
      exact ⟨rfl,I4⟩
     | false =>
      go_wp2_with (go_at_call 68;(with_reducible refine (dX ⟨#[58]⟩ I3.out.sb.bH hs).mono ?_);rintro e w4 ⟨rfl,r_,k_⟩;have I4:=ah (I3.out.aQ k_ r_ (Nat.le_refl _));clear r_ k_)
      go_meet
      rw [hs]
      exact ⟨rfl,I4⟩
    case rest =>
     obtain ⟨rfl,I4⟩:=hcut
     obtain ⟨w4,rfl⟩:∃x:World,x=wc:=⟨_,rfl⟩
     clear I3
     go_upto_if 25 with fail
     go_cut [] (fun wx=>∃(s3:aF) (r3:List aC),Hid (zM N T en R M w s3 r3 wx)∧Hid (gB en lab l=tail3 en s3 r3))
     case first =>
      cases hs:aG ⟨#[58]⟩ r2 with
      | true =>
       rw [hs] at I4
       have I4:Hid (zM N T en R M w s2 r2.tail w4):=I4
       go_wp2_with (go_at_call 69;(refine (Vt I4.out.sb HY.out.1 HY.out.2).mono ?_);intro e w5 h_;rcases hu:eX en s2 r2.tail with e0|⟨s3,r3⟩;(obtain ⟨k_,rfl⟩:=h_.bad hu;have f_:BG N (gB en lab l) w (.panicked [{v:=bI e0,recovered:=false}]) _:=BG.thrown (I4.out.k.step k_ (fun y hy=>by have:=I4.out.lt;rcases hy with rfl|rfl;exact .inl rfl;exact .inr (by omega))) (Kept.refl _ _) (by rw [H3.out];unfold Ee;rw [show aG (bs [58]) r2=true from hs,if_pos rfl,hu]);exact ⟨rfl,f_⟩);(obtain ⟨k_,rfl,s_⟩:=h_.ok hu;have HU:=ah hu;have I5:=ah (I4.out.step k_ s_);clear k_ s_ h_ hu))
       go_meet
       exact ⟨s3,r3,I5,by unfold Hid;rw [H3.out];unfold Ee;rw [show aG (bs [58]) r2=true from hs,if_pos rfl,HU.out];rfl⟩
      | false =>
       rw [hs] at I4
       have I4:Hid (zM N T en R M w s2 r2 w4):=I4
       go_wp2_with fail
       go_meet
       exact ⟨s2,r2,I4,by unfold Hid;rw [H3.out];unfold Ee;rw [show aG (bs [58]) r2=false from hs,if_neg (by decide)];rfl⟩
     case rest =>
      obtain ⟨s3,r3,I5,H5⟩:=hcut
      obtain ⟨w5,rfl⟩:∃x:World,x=wc:=⟨_,rfl⟩
      clear I4 H3 HY
      go_upto_region 8 with fail
      obtain ⟨nq,aq,cq,hq⟩:=I5.out.sb.bH
      obtain ⟨c0,c1,cd,cf⟩:=hq.c0
      have hn:=hq.num
      have HA:=ah (kU hq)
      clear hq cf
      by_cases h0:r3=[]
      ·have z:decide ((0:Int)<(nq:Int))=false:=by rw [hn,h0];rfl
       have z':decide (0<nq)=false:=by rw [hn,h0];rfl
       have H6:Hid (gB en lab l=if 200<nG s3.target∨200<nG s3.value then .error (4,0) else .ok s3):=by unfold Hid;rw [H5.out];unfold tail3;rw [if_neg (fun h=>h h0)]
       clear hn h0 H5
       obtain ⟨⟨S1,hp1⟩,⟨S2,hp2⟩⟩:=I5.out.sb.qx
       have hs1:=I5.out.sb.sz.target.t;have hs2:=I5.out.sb.sz.value.t
       have hC1:=ah (KY _ s3.target M 2 S1 w5 (Nat.le_refl _) (by omega) hp1)
       have hC2:=ah (KY _ s3.value M 7 S2 w5 (Nat.le_refl _) (by omega) hp2)
       have hd1:=FY s3.target;have hd2:=FY s3.value
       have hb1:nG s3.target≤1048576:=by omega
       have hb2:nG s3.value≤1048576:=by omega
       obtain ⟨da,hda⟩:∃d,d=nG s3.target:=⟨_,rfl⟩
       obtain ⟨db,hdb⟩:∃d,d=nG s3.value:=⟨_,rfl⟩
       rw [←hda] at hC1 hb1 H6
       rw [←hdb] at hC2 hb2 H6
       clear hp1 hp2 hs1 hs2 hd1 hd2 hda hdb
       by_cases hx:200<da
       ·have y1:decide ((200:Int)<(da:Int))=true:=ak (by omega)
        have y2:decide (200<da)=true:=ak hx
        have fin:Hid (gB en lab l=.error (4,0)):=by unfold Hid;rw [H6.out,if_pos (.inl hx)]
        clear hx H6
        go_wp2_with (first
         | (go_at_call 72;(refine hC1.out.mono ?_);rintro e w' ⟨rfl,aH⟩;obtain rfl:=aH.symm)
         | (go_at_call 70;(refine (dD _ 4 0 w5).mono ?_);rintro e w9 ⟨rfl,rfl⟩))
        exact ⟨rfl,BG.thrown I5.out.k (Kept.refl _ _) fin.out⟩
       ·have y1:decide ((200:Int)<(da:Int))=false:=au (by omega)
        have y2:decide (200<da)=false:=au hx
        by_cases hy:200<db
        ·have y3:decide ((200:Int)<(db:Int))=true:=ak (by omega)
         have y4:decide (200<db)=true:=ak hy
         have fin:Hid (gB en lab l=.error (4,0)):=by unfold Hid;rw [H6.out,if_pos (.inr hy)]
         clear hx hy H6
         go_wp2_with (first
          | (go_at_call 72;(with_reducible refine hC1.out.mono ?_);rintro e w' ⟨rfl,aH⟩;obtain rfl:=aH.symm)
          | (go_at_call 72;(with_reducible refine hC2.out.mono ?_);rintro e w' ⟨rfl,aH⟩;obtain rfl:=aH.symm)
          | (go_at_call 70;(refine (dD _ 4 0 w5).mono ?_);rintro e w9 ⟨rfl,rfl⟩))
         exact ⟨rfl,BG.thrown I5.out.k (Kept.refl _ _) fin.out⟩
        ·have y3:decide ((200:Int)<(db:Int))=false:=au (by omega)
         have y4:decide (200<db)=false:=au hy
         have fin:Hid (gB en lab l=.ok s3):=by unfold Hid;rw [H6.out,if_neg (by omega)]
         clear hx hy H6
         obtain ⟨a,S,hB,hO,hS⟩:=I5.out.sb.st
         have HBB:=ah hB;have HO:=ah hO;have vU:=ah hS
         have SY:=ah I5.out.z
         clear hB hO hS
         go_wp2_with (first
          | (go_at_call 72;(with_reducible refine hC1.out.mono ?_);rintro e w' ⟨rfl,aH⟩;obtain rfl:=aH.symm)
          | (go_at_call 72;(with_reducible refine hC2.out.mono ?_);rintro e w' ⟨rfl,aH⟩;obtain rfl:=aH.symm)
          | (refine jS rfl _ rfl M 0 rfl a s3 HBB.out.hc0 ?_)
          | (refine iC rfl _ _ rfl R rfl a s3 rfl _ SY.out rfl ?_;intro w6 YU hk6;have HB6:=ah YU;have WH:=ah hk6;clear YU hk6))
         have hlt:=I5.out.lt
         refine afG 4 rfl rfl HB6.out ⟨I5.out.k.step WH.out (fun y hy=>.inr (by omega)),?_⟩
         rw [fin.out]
         exact ⟨a,S,rfl,I5.out.sb.sz,HO.out.to WH.out (fun b hb=>⟨(vU.out b hb).2,by have:=vU.out b hb;omega⟩) (fun _ h=>h),fun b hb=>⟨by have:=vU.out b hb;omega,Nat.lt_of_lt_of_le (vU.out b hb).2 WH.out.size⟩⟩
      ·have hp:0<nq:=by rw [hn];exact List.length_pos_iff.2 h0
       have z:decide ((0:Int)<(nq:Int))=true:=ak (by omega)
       have z':decide (0<nq)=true:=ak hp
       have fin:Hid (gB en lab l=.error (2,dJ en r3)):=by unfold Hid;rw [H5.out];unfold tail3;rw [if_pos h0]
       clear hn h0
       go_wp2_with (first
        | (go_at_call 71;(refine HA.out.mono ?_);rintro e w' ⟨rfl,aH⟩;obtain rfl:=aH.symm)
        | (go_at_call 70;(refine (dD _ 2 (dJ en r3) w5).mono ?_);rintro e w9 ⟨rfl,rfl⟩))
       exact ⟨rfl,BG.thrown I5.out.k (Kept.refl _ _) fin.out⟩
end Go.Proofs.YtodebjhalipefaaGreatDoor

namespace Go.Proofs.YtodebjhalipefaaGreatDoor
set_option linter.all false
open Go.RowKit
theorem Le {f:UInt8→Bool} {c:UInt8}:∀{l:List UInt8},c∈l.takeWhile f→f c=true
 | [],h=>by cases h
 | x::r,h=>by
  rw [List.takeWhile_cons] at h
  split at h
  ·rcases List.mem_cons.1 h with rfl|h
   ·assumption
   ·exact Le h
  ·cases h
theorem Vx {s:aj} {i:Nat}:∀c∈(s.extract i (dF cu s i)).data.toList,48≤c.toNat∧c.toNat≤57:=by
 intro c hc
 have e:(s.extract i (dF cu s i)).data.toList=(s.data.toList.drop i).takeWhile cu:=by
  unfold dF
  rw [xG]
  exact (List.prefix_iff_eq_take.1 (List.takeWhile_prefix _)).symm
 rw [e] at hc
 have:=Le hc
 rw [Lh] at this
 simpa using this
theorem ES {s:aj} {i k:Nat} (h:i<k) (hk:k≤s.size):(s.extract i k).size≠0:=by
 rw [ByteArray.size_extract];omega
def ET (s:aj):Prop:=∀c∈s.data.toList,c.toNat≠91
theorem QI {s:aj} (hnb:ET s) {i:Nat} {h:i<s.size} {t:aC} {k:Nat} (e:cO s i h=.tok t k):t.kind≠4:=by
 intro hk
 have hm:s[i]∈s.data.toList:=by
  have:s[i]=s.data[i]:=rfl
  rw [this];simp
 unfold cO at e
 split at e
 ·cases e
 split at e
 ·simp only [jM.tok.injEq] at e;obtain ⟨rfl,rfl⟩:=e;simp at hk
 split at e
 ·simp only [jM.tok.injEq] at e;obtain ⟨rfl,rfl⟩:=e;simp at hk
 split at e
 ·split at e
  ·cases e
  ·simp only [jM.tok.injEq] at e;obtain ⟨rfl,rfl⟩:=e;simp at hk
 split at e
 ·rename_i hb _;exact hnb _ hm (by assumption)
 split at e
 ·simp only [jM.tok.injEq] at e;obtain ⟨rfl,rfl⟩:=e;simp at hk
 split at e
 ·simp only [jM.tok.injEq] at e;obtain ⟨rfl,rfl⟩:=e;simp at hk
 ·cases e
theorem PL {s:aj} (hnb:ET s) (hs:s.size≤2000) {i:Nat} {h:i<s.size} {t:aC} {k:Nat} (e:cO s i h=.tok t k):t.at_≤1000000∧t.text.size≤1000000∧t.kind≠4∧(t.kind=2→t.text.size≠0∧∀c∈t.text.data.toList,48≤c.toNat∧c.toNat≤57)∧(t.kind=1→t.text.size≠0):=by
 obtain ⟨h1,h2,h3,h4⟩:=lX e
 refine ⟨by omega,by omega,QI hnb e,?_,?_⟩
 all_goals
  intro hk
  unfold cO at e
  split at e
  ·cases e
  split at e
  ·simp only [jM.tok.injEq] at e
   obtain ⟨rfl,rfl⟩:=e
   first|(simp at hk;done)|exact ES h1 h2
  split at e
  ·simp only [jM.tok.injEq] at e
   obtain ⟨rfl,rfl⟩:=e
   first|(simp at hk;done)|exact ⟨ES h1 h2,Vx⟩
  split at e
  ·split at e
   ·cases e
   ·simp only [jM.tok.injEq] at e;obtain ⟨rfl,rfl⟩:=e;simp at hk
  split at e
  ·split at e
   ·cases e
   ·simp only [jM.tok.injEq] at e;obtain ⟨rfl,rfl⟩:=e;simp at hk
  split at e
  ·simp only [jM.tok.injEq] at e;obtain ⟨rfl,rfl⟩:=e;simp at hk
  split at e
  ·simp only [jM.tok.injEq] at e;obtain ⟨rfl,rfl⟩:=e;simp at hk
  ·cases e
theorem Bd {s:aj} (hnb:ET s) (hs:s.size≤2000):∀(f i:Nat) (out l:List aC),lC s f i out=.ok l→oD out→out.length≤i→i≤s.size→oD l∧l.length≤s.size
 | 0,i,out,l,h,hb,hl,hi=>by
  simp only [lC,Except.ok.injEq] at h;subst h;exact ⟨hb,by omega⟩
 | f+1,i,out,l,h,hb,hl,hi=>by
  rw [lC] at h
  split at h
  ·next hi2 =>
   split at h
   ·exact Bd hnb hs f _ _ _ h hb (by omega) (by omega)
   ·next t k e =>
    obtain ⟨h1,h2,_,_⟩:=lX e
    refine Bd hnb hs f _ _ _ h ?_ (by simp;omega) h2
    intro u hu
    rcases List.mem_append.1 hu with hu|hu
    ·exact hb u hu
    ·rw [List.mem_singleton.1 hu];exact PL hnb hs e
   ·cases h
  ·simp only [Except.ok.injEq] at h;subst h;exact ⟨hb,by omega⟩
theorem DN {s:aj} (hnb:ET s) {l:List aC} (h:jO s=.ok l):oD l∧l.length≤2000∧s.size≤2000:=by
 unfold jO vS at h
 split at h
 ·cases h
 ·obtain ⟨a,b⟩:=Bd hnb (by omega) _ _ _ _ h (fun u hu=>by cases hu) (Nat.zero_le _) (Nat.zero_le _)
  exact ⟨a,by omega,by omega⟩
end Go.Proofs.YtodebjhalipefaaGreatDoor

namespace Go.Proofs.YtodebjhalipefaaGreatDoor
set_option linter.all false
open Go.RowKit
def Lj (er:Er):Value:=.agg #[.int .i64 er.1,.int .i64 er.2]
def Ih (s:aj) (w:World) (e:Ending) (w':World):Prop :=
 Kept aA w w'∧match kH s with
  | .ok none=>e=.returned (.tuple #[dN nilA cZ,.bool false,Lj (0,0)])
  | .ok (some st)=>∃a S,e=.returned (.tuple #[dN a st,.bool true,Lj (0,0)])∧ql st∧qZ w' S a st∧∀b,S b→w.heap.size≤b∧b<w'.heap.size
  | .error er=>e=.returned (.tuple #[dN nilA cZ,.bool false,Lj er])
theorem ak6.of {M:Nat} {c0 c1:Value} {w:World} (h:Two M c0 c1 w):w.cell? ⟨M,0,none⟩=some c0∧w.cell? ⟨M,1,none⟩=some c1∧∀o,w.frozen? ⟨M,o,none⟩=false:=h.cells
structure fP (A B C:Nat) (a:gW) (s:aF) (v c0 c1:Value) (w:World):Prop where
 st:bT A a s w
 bo:dH w B 4 v
 fl:Two C c0 c1 w
theorem fP.kept {A B C:Nat} {a:gW} {s:aF} {v c0 c1:Value} {w w2:World} {X:Nat→Prop} (h:fP A B C a s v c0 c1 w) (hk:Kept X w w2) (hx:¬X A∧¬X B∧¬X C):fP A B C a s v c0 c1 w2 :=
 ⟨h.st.kept hk hx.1,by unfold dH;rw [hk.block B h.bo.lt hx.2.1];exact h.bo,h.fl.kept hk hx.2.2⟩
theorem fP.drew {A B C:Nat} {a:gW} {s:aF} {v c0 c1:Value} {w:World} (h:fP A B C a s v c0 c1 w):fP A B C a s v c0 c1 w.drew:=h.kept (Kept.refl aA w).drew ⟨fun h=>h,fun h=>h,fun h=>h⟩
theorem fP.setB {A B C:Nat} {a:gW} {s:aF} {v c0 c1:Value} {w:World} (h:fP A B C a s v c0 c1 w) (hne:A≠B∧A≠C∧B≠C) (v2:Value):fP A B C a s v2 c0 c1 (w.setCell ⟨B,0,none⟩ v2):=by
 have k:Kept (· = B) w (w.setCell ⟨B,0,none⟩ v2):=(Kept.refl (· = B) w).setCell (p:=⟨B,0,none⟩) (.inl rfl) _
 exact ⟨h.st.kept k hne.1,h.bo.set v2,h.fl.kept k (fun e=>hne.2.2 e.symm)⟩
theorem fP.fU {A B C:Nat} {a:gW} {s:aF} {v c0 c1:Value} {w:World} (h:fP A B C a s v c0 c1 w) (hne:A≠B∧A≠C∧B≠C) (d0 d1:Value):fP A B C a s v d0 d1 ((w.setCell ⟨C,0,none⟩ d0).setCell ⟨C,1,none⟩ d1):=by
 have k:Kept (· = C) w ((w.setCell ⟨C,0,none⟩ d0).setCell ⟨C,1,none⟩ d1):=((Kept.refl (· = C) w).setCell (p:=⟨C,0,none⟩) (.inl rfl) _).setCell (p:=⟨C,1,none⟩) (.inl rfl) _
 exact ⟨h.st.kept k hne.2.1,by unfold dH;rw [k.block B h.bo.lt hne.2.2];exact h.bo,by have:=h.fl.set2 d0 d1;exact this⟩
theorem fP.JE {A B C:Nat} {a a2:gW} {s s2:aF} {v c0 c1:Value} {w w2:World} (h:fP A B C a s v c0 c1 w) (hne:A≠B∧A≠C∧B≠C) (hk:Kept (· = A) w w2) (hB:bT A a2 s2 w2):fP A B C a2 s2 v c0 c1 w2 :=
 ⟨hB,by unfold dH;rw [hk.block B h.bo.lt (fun e=>hne.1 e.symm)];exact h.bo,h.fl.kept hk (fun e=>hne.2.1 e.symm)⟩
def pR (A B C:Nat) (w:World):Prop:=∃a s v c0 c1,fP A B C a s v c0 c1 w
section
variable {A B C:Nat} {w:World}
theorem pR.kept {w2:World} {X:Nat→Prop} (h:pR A B C w) (hk:Kept X w w2) (hx:¬X A∧¬X B∧¬X C):pR A B C w2:=by
 obtain ⟨a,s,v,c0,c1,h⟩:=h;exact ⟨_,_,_,_,_,h.kept hk hx⟩
theorem PN (h:pR A B C w):pR A B C w.drew:=h.kept (Kept.refl aA w).drew ⟨fun h=>h,fun h=>h,fun h=>h⟩
theorem acw (hne:A≠B∧A≠C∧B≠C) {v2:Value} (h:pR A B C w):pR A B C (w.setCell ⟨B,0,none⟩ v2):=by
 obtain ⟨a,s,v,c0,c1,h⟩:=h;exact ⟨_,_,_,_,_,h.setB hne v2⟩
theorem YV (hne:A≠B∧A≠C∧B≠C) {d:Value} (h:pR A B C w):pR A B C (w.setCell ⟨C,0,none⟩ d):=by
 obtain ⟨a,s,v,c0,c1,h⟩:=h
 have k:Kept (· = C) w (w.setCell ⟨C,0,none⟩ d):=(Kept.refl (· = C) w).setCell (p:=⟨C,0,none⟩) (.inl rfl) _
 have hf:=h.fl
 refine ⟨_,_,_,d,c1,h.st.kept k hne.2.1,by unfold dH;rw [k.block B h.bo.lt hne.2.2];exact h.bo,?_⟩
 unfold Two at hf⊢;rw [aO hf _];rfl
theorem YW (hne:A≠B∧A≠C∧B≠C) {d:Value} (h:pR A B C w):pR A B C (w.setCell ⟨C,1,none⟩ d):=by
 obtain ⟨a,s,v,c0,c1,h⟩:=h
 have k:Kept (· = C) w (w.setCell ⟨C,1,none⟩ d):=(Kept.refl (· = C) w).setCell (p:=⟨C,1,none⟩) (.inl rfl) _
 have hf:=h.fl
 refine ⟨_,_,_,c0,d,h.st.kept k hne.2.1,by unfold dH;rw [k.block B h.bo.lt hne.2.2];exact h.bo,?_⟩
 unfold Two at hf⊢;rw [aO hf _];rfl
theorem S9 {v:Value} (h:pR A B C w):dH (w.setCell ⟨B,0,none⟩ v) B 4 v:=by obtain ⟨a,s,v0,c0,c1,h⟩:=h;exact h.bo.set v
theorem MB (hne:A≠B∧A≠C∧B≠C) {v d:Value} {i:Nat} (h:dH w B 4 v):dH (w.setCell ⟨C,i,none⟩ d) B 4 v:=by
 have k:Kept (· = C) w (w.setCell ⟨C,i,none⟩ d):=(Kept.refl (· = C) w).setCell (p:=⟨C,i,none⟩) (.inl rfl) _
 unfold dH;rw [k.block B h.lt hne.2.2];exact h
theorem Tc {d0 d1:Value} (h:pR A B C w):Two C d0 d1 ((w.setCell ⟨C,0,none⟩ d0).setCell ⟨C,1,none⟩ d1):=by obtain ⟨a,s,v0,c0,c1,h⟩:=h;have:=h.fl.set2 d0 d1;exact this
theorem acy (hne:A≠B∧A≠C∧B≠C) {c0 c1 d:Value} (h:Two C c0 c1 w):Two C c0 c1 (w.setCell ⟨B,0,none⟩ d) :=
 h.kept ((Kept.refl (· = B) w).setCell (p:=⟨B,0,none⟩) (.inl rfl) d) (fun e=>hne.2.2 e.symm)
theorem afI (hne:A≠B∧A≠C∧B≠C) {a:gW} {s:aF} {d:Value} (h:bT A a s w):bT A a s (w.setCell ⟨B,0,none⟩ d) :=
 h.kept ((Kept.refl (· = B) w).setCell (p:=⟨B,0,none⟩) (.inl rfl) d) hne.1
theorem Vy (hne:A≠B∧A≠C∧B≠C) {a:gW} {s:aF} {d:Value} {i:Nat} (h:bT A a s w):bT A a s (w.setCell ⟨C,i,none⟩ d) :=
 h.kept ((Kept.refl (· = C) w).setCell (p:=⟨C,i,none⟩) (.inl rfl) d) hne.2.1
theorem pR.cells (h:pR A B C w):(∃v,w.cell? ⟨B,0,none⟩=some v)∧w.frozen? ⟨B,0,none⟩=false∧(∃v,w.cell? ⟨C,0,none⟩=some v)∧(∃v,w.cell? ⟨C,1,none⟩=some v)∧w.frozen? ⟨C,0,none⟩=false∧w.frozen? ⟨C,1,none⟩=false:=by
 obtain ⟨a,s,v0,c0,c1,h⟩:=h
 obtain ⟨x0,x1,xf⟩:=h.fl.cells
 exact ⟨⟨_,h.bo.cell⟩,h.bo.free,⟨_,x0⟩,⟨_,x1⟩,xf 0,xf 1⟩
def kJ (A B C:Nat) (b:Nat):Prop:=b=A∨b=B∨b=C
theorem PO {w0:World} {d:Value} (h:Kept (kJ A B C) w0 w):Kept (kJ A B C) w0 (w.setCell ⟨B,0,none⟩ d):=h.setCell (p:=⟨B,0,none⟩) (.inl (.inr (.inl rfl))) _
theorem lY {w0:World} {d:Value} {i:Nat} (h:Kept (kJ A B C) w0 w):Kept (kJ A B C) w0 (w.setCell ⟨C,i,none⟩ d):=h.setCell (p:=⟨C,i,none⟩) (.inl (.inr (.inr rfl))) _
end
theorem lZ {f:Func} {tmps:Array Value} (hres:f.results = #[.cell 2 69,.cell 3 4,.cell 4 39]) {A B C:Nat} (h2:tmps.getD 2 undef=.pointer (some ⟨A,0,none⟩)) (h3:tmps.getD 3 undef=.pointer (some ⟨B,0,none⟩)) (h4:tmps.getD 4 undef=.pointer (some ⟨C,0,none⟩))
  {a:gW} {s:aF} {v c0 c1:Value} {w:World} (h:fP A B C a s v c0 c1 w):(results f tmps).run Tryz.prog w=.ok (.tuple #[dN a s,v,.agg #[c0,c1]]) w:=by
 have ht2:tmps[2]?.getD undef=.pointer (some ⟨A,0,none⟩):=by rw [←h2,Array.getD_eq_getD_getElem?]
 have ht3:tmps[3]?.getD undef=.pointer (some ⟨B,0,none⟩):=by rw [←h3,Array.getD_eq_getD_getElem?]
 have NC:tmps[4]?.getD undef=.pointer (some ⟨C,0,none⟩):=by rw [←h4,Array.getD_eq_getD_getElem?]
 have e1:=Lc h.st
 have e2:(loadVar 4 ⟨B,0,none⟩).run Tryz.prog w=.ok v w:=by have:=h.bo.cell;simp [go_sem,this]
 have e3:(loadVar 39 ⟨C,0,none⟩).run Tryz.prog w=.ok (.agg #[c0,c1]) w:=by obtain ⟨x0,x1,_⟩:=h.fl.cells;simp [go_sem,x0,x1]
 simp [results,hres,ht2,ht3,NC,asAddr,e1,e2,e3,Sem.run_bind,Sem.run_pure,Result.andThen_ok]
end Go.Proofs.YtodebjhalipefaaGreatDoor

namespace Go.Proofs.YtodebjhalipefaaGreatDoor
set_option linter.all false
open Go.RowKit
set_option maxRecDepth 100000
set_option maxHeartbeats 4000000
def JT (A B C:Nat) (p3 p4 p5:Bool) (a:gW) (s:aF) (v c0 c1:Value) (w:World):Prop:=pR A B C w∧(p3=true→bT A a s w)∧(p4=true→dH w B 4 v)∧(p5=true→Two C c0 c1 w)
section
variable {A B C:Nat} {p3 p4 p5:Bool} {a:gW} {s:aF} {v c0 c1:Value} {w:World}
theorem JT.sB (hne:A≠B∧A≠C∧B≠C) (h:JT A B C p3 p4 p5 a s v c0 c1 w):JT A B C p3 true p5 a s v c0 c1 (w.setCell ⟨B,0,none⟩ v) :=
 ⟨acw hne h.1,fun e=>afI hne (h.2.1 e),fun _=>S9 h.1,fun e=>acy hne (h.2.2.2 e)⟩
theorem JT.sF (hne:A≠B∧A≠C∧B≠C) (h:JT A B C p3 p4 p5 a s v c0 c1 w):JT A B C p3 p4 true a s v c0 c1 ((w.setCell ⟨C,0,none⟩ c0).setCell ⟨C,1,none⟩ c1) :=
 ⟨YW hne (YV hne h.1),fun e=>Vy hne (Vy hne (h.2.1 e)),fun e=>MB hne (MB hne (h.2.2.1 e)),fun _=>Tc h.1⟩
theorem JT.sS {w2:World} (hne:A≠B∧A≠C∧B≠C) (h:JT A B C p3 p4 p5 a s v c0 c1 w) (hk:Kept (· = A) w w2) (hB:bT A a s w2):JT A B C true p4 p5 a s v c0 c1 w2:=by
 obtain ⟨⟨a0,s0,v0,d0,d1,hT⟩,h3,h4,h5⟩:=h
 refine ⟨⟨_,_,_,_,_,hT.JE hne hk hB⟩,fun _=>hB,fun e=>?_,fun e=>(h5 e).kept hk (fun e=>hne.2.1 e.symm)⟩
 unfold dH;rw [hk.block B (h4 e).lt (fun e=>hne.1 e.symm)];exact h4 e
theorem JT.start (h:pR A B C w):JT A B C false false false a s v c0 c1 w.drew:=⟨PN h,fun e=>(by cases e),fun e=>(by cases e),fun e=>(by cases e)⟩
end
theorem jE {x:Act} {o:Oper} {p y:Operand} {A:Nat} {a0:gW} {s0:aF} {w:World} (ho:o.op=.store 69 p y) (hB0:bT A a0 s0 w) (hp:x.eval p=.pointer (some ⟨A,0,none⟩)) (sa:gW) (s:aF) (hx:x.eval y=dN sa s) :
  ∃w',(execOp x.eval o).run Tryz.prog w=.ok .skip w'∧bT A sa s w'∧Kept (· = A) w w':=by
 unfold bT at hB0
 obtain ⟨w',hr,hB,hk⟩:=QZ (sa:=sa) (s:=s) hB0 rfl
 refine ⟨w',?_,hB,hk⟩
 unfold execOp
 rw [ho]
 simp only [hp,hx,Sem.run_bind,hr,Result.andThen_ok,Sem.run_pure]
theorem tN {x:Act} {o:Oper} {p:Operand} {A:Nat} {sa:gW} {s:aF} {w:World} (ho:o.op=.load 69 p) (hB:bT A sa s w) (hp:x.eval p=.pointer (some ⟨A,0,none⟩)) :
  (execOp x.eval o).run Tryz.prog w=.ok (.value (dN sa s)) w:=by
 unfold execOp
 rw [ho]
 simp only [hp,Sem.run_bind,MZ hB.hc0,Result.andThen_ok,Sem.run_pure]
def afJ (A B C:Nat) (er:Er) (w:World) (e:Ending) (u:FrameMode) (w':World):Prop :=
 e=.returned (.tuple #[])∧u=.panicking [{v:=bI er,recovered:=true}]∧fP A B C nilA cZ (.bool false) (.int .i64 er.1) (.int .i64 er.2) w'∧Kept (kJ A B C) w w'
theorem Vz (A B C:Nat) (hne:A≠B∧A≠C∧B≠C) (er:Er) (w:World) (hT:pR A B C w) :
  CallsD Tryz.prog 39 #[.pointer (some ⟨A,0,none⟩),.pointer (some ⟨B,0,none⟩),.pointer (some ⟨C,0,none⟩)] (.panicking [{v:=bI er,recovered:=false}]) w (afJ A B C er w):=by
 have hta:∀(x:Value) (w:World),(Instr.typeAssert (.iface 96 x) 20 96 true).run Tryz.prog w=.ok (.tuple #[x,.bool true]) w:=fun _ _=>by kernel_rfl
 refine callsD_of_wpS Tryz.func39 rfl fun c₀ cs hu=>?_
 obtain ⟨e1,e2⟩:=er
 have HU:=ah hu;have HT:=ah hT
 have hlA:A<w.heap.size∧B<w.heap.size∧C<w.heap.size:=by obtain ⟨a,s,v,c0,c1,h⟩:=hT;exact ⟨h.st.lt,h.bo.lt,h.fl.lt⟩
 apply wpS_seq
 apply wpS_region
 simp [wpOpsS,go_sem,recoverD,hu,Tryz.ntmps39,Exit.thenS]
 clear hT hu
 unfold bI
 dsimp only
 show Code.wpS _ _ _ ⟨#[.pointer (some ⟨A,0,none⟩),.pointer (some ⟨B,0,none⟩),.pointer (some ⟨C,0,none⟩),undef,undef,undef,.iface 96 (.agg #[.int .i64 e1,.int .i64 e2]),undef,undef,undef,undef,undef,undef,undef,undef],[]⟩ _ _
 refine wpS_of_wp ?_
 go_upto_region 7 with fail
 obtain ⟨w6,hw6⟩:∃w6,w6=w.alloc (.cells #[.int .i64 e1,.int .i64 e2] 96):=⟨_,rfl⟩
 have k6:Kept aA w w6:=by rw [hw6];exact (Kept.refl aA w).alloc _
 have T6:=ah (HT.out.kept k6 ⟨fun h=>h,fun h=>h,fun h=>h⟩)
 have X6:w6.heap[w.heap.size]?=some (.cells #[.int .i64 e1,.int .i64 e2] 96 (0,0)):=by rw [hw6];exact ay w _
 obtain ⟨X,hX⟩:∃X,X=w.heap.size:=⟨_,rfl⟩
 rw [←hX] at X6 hlA
 rw [←hw6,←hX]
 have cx0:w6.cell? ⟨X,0,none⟩=some (.int .i64 e1):=by rw [cell_of_row w6 X _ _ _ _ X6];rfl
 have cx1:w6.cell? ⟨X,1,none⟩=some (.int .i64 e2):=by rw [cell_of_row w6 X _ _ _ _ X6];rfl
 have hXl:Hid (X<w6.heap.size∧¬kJ A B C X):=⟨(Array.getElem?_eq_some_iff.1 X6).1,fun h=>by rcases h with h|h|h<;>omega⟩
 have K6:=ah k6
 have CX:=ah (And.intro cx0 cx1)
 clear hw6 k6 hX X6 cx0 cx1
 obtain ⟨Sp,hSp⟩:∃Sp:Nat→Value→World→Prop,Sp=(fun i v wx=>match i with
  | 0=>v=dN nilA cZ
  | 1=>v=.pointer (some ⟨X,0,none⟩)
  | 2=>v=.agg #[.int .i64 e1,.int .i64 e2]
  | _=>True):=⟨_,rfl⟩
 obtain ⟨J,hJd⟩:∃J:(Nat→Bool)→(Nat→Value)→World→Prop,J=(fun pp f wx=>JT A B C (pp 3) (pp 4) (pp 5) nilA cZ (.bool false) (.int .i64 e1) (.int .i64 e2) wx):=⟨_,rfl⟩
 refine iU (kJ A B C) J Sp [12,13,14] (by kernel_rfl) (by kernel_rfl) (by kernel_rfl) (fun i v w w' h hk=>by subst hSp;exact h) ?_ ?_ ?_ ?_
 ·intro i o hi lq x wy hI hJ hlf haft
  rw [hJd] at hJ
  have hJ:JT A B C (lq 3) (lq 4) (lq 5) nilA cZ (.bool false) (.int .i64 e1) (.int .i64 e2) wy:=hJ
  have s0:x.eval (.tmp 0)=.pointer (some ⟨A,0,none⟩):=hI.keep 0 _ rfl (by kernel_rfl)
  have s1:x.eval (.tmp 1)=.pointer (some ⟨B,0,none⟩):=hI.keep 1 _ rfl (by kernel_rfl)
  have s2:x.eval (.tmp 2)=.pointer (some ⟨C,0,none⟩):=hI.keep 2 _ rfl (by kernel_rfl)
  have s4:x.eval (.tmp 4)=.pointer (some ⟨X,0,none⟩):=hI.keep 4 _ rfl (by kernel_rfl)
  obtain ⟨⟨vb,cb⟩,fb,⟨vc,lS⟩,⟨vd,mO⟩,mP,mQ⟩:=hJ.1.cells
  have cx0:=(hI.kept.cell hXl.out.1 hXl.out.2 (o:=0)).trans CX.out.1
  have cx1:=(hI.kept.cell hXl.out.1 hXl.out.2 (o:=1)).trans CX.out.2
  have hjn:∀(l':Nat→Bool),(∀j,l' j=true↔j=i∨lq j=true)→(∀j∈([3,4,5]:List Nat),i≠j)→∀f,J l' f wy:=by
   intro l' hl hne f
   rw [hJd]
   show JT A B C (l' 3) (l' 4) (l' 5) nilA cZ (.bool false) (.int .i64 e1) (.int .i64 e2) wy
   rw [upd_ne hl 3 (Ne.symm (hne 3 (by simp)))]
   rw [upd_ne hl 4 (Ne.symm (hne 4 (by simp)))]
   rw [upd_ne hl 5 (Ne.symm (hne 5 (by simp)))]
   exact hJ
  rcases i with _|_|_|_|_|_|i
  all_goals (simp only [List.getElem?_toArray,List.getElem?_cons_zero,List.getElem?_cons_succ,List.getElem?_nil,Option.some.injEq,reduceCtorEq] at hi)
  all_goals subst hi
  ·refine aT rfl ?_
   refine aK (v:=dN nilA cZ) ?_ (by subst hSp;exact rfl) (fun l' hl=>hjn l' hl (by decide) _)
   simp only [execOp,resolve,invoke,List.map_toArray,List.map_cons,List.map_nil,List.map_nil];go_simp;try rfl
  ·refine aT rfl ?_
   refine aK (v:=.pointer (some ⟨X,0,none⟩)) ?_ (by subst hSp;exact rfl) (fun l' hl=>hjn l' hl (by decide) _)
   simp only [execOp,resolve,invoke,List.map_toArray,List.map_cons,List.map_nil,s4];go_simp
  ·refine aT rfl ?_
   have d13:x.eval (.tmp 13)=.pointer (some ⟨X,0,none⟩):=by have h_:=hI.dep haft 1 13 rfl rfl rfl;rw [hSp] at h_;exact h_
   refine aK (v:=.agg #[.int .i64 e1,.int .i64 e2]) ?_ (by subst hSp;exact rfl) (fun l' hl=>hjn l' hl (by decide) _)
   simp only [execOp,resolve,invoke,List.map_toArray,List.map_cons,List.map_nil,d13];go_simp
  ·refine aT rfl ?_
   have d12:x.eval (.tmp 12)=dN nilA cZ:=by have h_:=hI.dep haft 0 12 rfl rfl rfl;rw [hSp] at h_;exact h_
   obtain ⟨a0,s0_,v0_,c0_,c1_,hT0⟩:=hJ.1
   refine qY (F:=fun w'=>bT A nilA cZ w'∧Kept (· = A) wy w') (jE rfl hT0.st s0 nilA cZ d12) rfl (fun w' hf=>hf.2.more fun _ h=>.inl h) (fun w' hf l' hl=>?_)
   rw [hJd]
   show JT A B C (l' 3) (l' 4) (l' 5) nilA cZ (.bool false) (.int .i64 e1) (.int .i64 e2) w'
   rw [iq hl,upd_ne hl 4 (by decide),upd_ne hl 5 (by decide)]
   exact hJ.sS hne hf.2 hf.1
  ·refine aT rfl ?_
   refine ig (w':=wy.setCell ⟨B,0,none⟩ (.bool false)) ?_ rfl (PO (Kept.refl _ _)) (fun l' hl=>?_)
   ·simp only [execOp,resolve,invoke,List.map_toArray,List.map_cons,List.map_nil,s1];go_simp
   ·rw [hJd]
    show JT A B C (l' 3) (l' 4) (l' 5) nilA cZ (.bool false) (.int .i64 e1) (.int .i64 e2) _
    rw [iq hl,upd_ne hl 3 (by decide),upd_ne hl 5 (by decide)]
    exact hJ.sB hne
  ·refine aT rfl ?_
   have V8:x.eval (.tmp 14)=.agg #[.int .i64 e1,.int .i64 e2]:=by have h_:=hI.dep haft 2 14 rfl rfl rfl;rw [hSp] at h_;exact h_
   refine ig (w':=(wy.setCell ⟨C,0,none⟩ (.int .i64 e1)).setCell ⟨C,1,none⟩ (.int .i64 e2)) ?_ rfl (lY (lY (Kept.refl _ _))) (fun l' hl=>?_)
   ·simp only [execOp,resolve,invoke,List.map_toArray,List.map_cons,List.map_nil,s2,V8];go_simp
   ·rw [hJd]
    show JT A B C (l' 3) (l' 4) (l' 5) nilA cZ (.bool false) (.int .i64 e1) (.int .i64 e2) _
    rw [iq hl,upd_ne hl 3 (by decide),upd_ne hl 4 (by decide)]
    exact hJ.sF hne
 ·intro lq hl
  rw [hJd]
  show JT A B C (lq 3) (lq 4) (lq 5) nilA cZ (.bool false) (.int .i64 e1) (.int .i64 e2) w6.drew
  rw [hl 3 (by decide)]
  rw [hl 4 (by decide)]
  rw [hl 5 (by decide)]
  exact JT.start T6.out
 ·intro lq l' f wx hl h
  rw [hJd] at h⊢
  have h:JT A B C (lq 3) (lq 4) (lq 5) nilA cZ (.bool false) (.int .i64 e1) (.int .i64 e2) wx:=h
  show JT A B C (l' 3) (l' 4) (l' 5) nilA cZ (.bool false) (.int .i64 e1) (.int .i64 e2) wx
  rw [←hl 3 (by decide)]
  rw [←hl 4 (by decide)]
  rw [←hl 5 (by decide)]
  exact h
 ·intro f wy hK hS hJ
  rw [hJd] at hJ
  have hJ:JT A B C ((fun _=>true) 3) ((fun _=>true) 4) ((fun _=>true) 5) nilA cZ (.bool false) (.int .i64 e1) (.int .i64 e2) wy:=hJ
  have K7:Kept (kJ A B C) w6 wy:=hK
  simp only [gQ,List.foldl_cons,List.foldl_nil,List.setIfInBounds_toArray,List.set_cons_zero,List.set_cons_succ]
  go_wp2_with fail
  exact ⟨rfl,_,rfl,.tuple #[],by simp [results,Tryz.results39,go_sem],rfl,rfl,⟨hJ.2.1 rfl,hJ.2.2.1 rfl,hJ.2.2.2 rfl⟩,(K6.out.more (fun _ h=>h.elim)).trans K7⟩
theorem Ii (a b c:Value) (w:World) :
  CallsD Tryz.prog 39 #[a,b,c] .returning w fun e u' w'=>e=.returned (.tuple #[])∧u'=.returning∧w=w':=by
 refine callsD_of_wpS Tryz.func39 rfl fun c₀ cs hu=>?_
 have HU:=ah hu
 apply wpS_seq
 apply wpS_region
 simp [wpOpsS,go_sem,recoverD,hu,Tryz.ntmps39,Exit.thenS]
 clear hu
 show Code.wpS _ _ _ ⟨#[a,b,c,undef,undef,undef,.nilIface,undef,undef,undef,undef,undef,undef,undef,undef],[]⟩ _ _
 refine wpS_of_wp ?_
 go_wp2_with fail
 refine ⟨rfl,.returning,?_,.tuple #[],by simp [results,Tryz.results39,go_sem],rfl,rfl,rfl⟩
 have h:=HU.out
 cases c₀;simp_all
end Go.Proofs.YtodebjhalipefaaGreatDoor

namespace Go.Proofs.YtodebjhalipefaaGreatDoor
set_option linter.all false
open Go.RowKit
theorem QJ {s:aj} {i:Nat} {h:i<s.size} {er:Er} (e:cO s i h=.bad er):er.1=2:=by
 unfold cO at e
 repeat' split at e
 all_goals first|(cases e;done)|(simp only [jM.bad.injEq] at e;subst e;rfl)
theorem DR {s:aj}:∀(f i:Nat) (out:List aC) {er:Er},lC s f i out=.error er→er.1=2
 | 0,_,_,er,h=>by cases h
 | f+1,i,out,er,h=>by
  rw [lC] at h
  split at h
  ·split at h
   ·exact DR f _ _ h
   ·exact DR f _ _ h
   ·next e=>simp only [Except.error.injEq] at h;subst h;exact QJ e
  ·cases h
theorem Gg {s:aj} {er:Er} (h:jO s=.error er):er.1≠0:=by
 unfold jO at h
 split at h
 ·simp only [Except.error.injEq] at h;subst h;decide
 ·have:=DR _ _ _ h;omega
theorem PS {f:Func} {R:Ending→World→Prop} {w1:World} {tmps:Array Value} {A B C:Nat} {a:gW} {s:aF} {v c0 c1:Value} (hres:f.results = #[.cell 2 69,.cell 3 4,.cell 4 39]) (h2:tmps.getD 2 undef=.pointer (some ⟨A,0,none⟩)) (h3:tmps.getD 3 undef=.pointer (some ⟨B,0,none⟩)) (h4:tmps.getD 4 undef=.pointer (some ⟨C,0,none⟩))
  (hT:fP A B C a s v c0 c1 w1) (hR:R (.returned (.tuple #[dN a s,v,.agg #[c0,c1]])) w1) :
  bodyPostD Tryz.prog f R .ret ⟨tmps,[{target:=.fn (.func 39) #[.pointer (some ⟨A,0,none⟩),.pointer (some ⟨B,0,none⟩),.pointer (some ⟨C,0,none⟩)],args:=#[]}]⟩ w1:=by
 refine leaves_cons (f:=39) (args:=#[.pointer (some ⟨A,0,none⟩),.pointer (some ⟨B,0,none⟩),.pointer (some ⟨C,0,none⟩)]) (by simp) (by simp [go_sem]) ?_
 refine (Ii _ _ _ w1).mono ?_
 rintro e u' w2 ⟨rfl,rfl,rfl⟩
 exact ⟨_,lZ hres h2 h3 h4 hT,hR⟩
theorem Ij {f:Func} {R:Ending→World→Prop} {w1:World} {tmps:Array Value} {A B C:Nat} {er:Er} (hne:A≠B∧A≠C∧B≠C) (hres:f.results = #[.cell 2 69,.cell 3 4,.cell 4 39]) (h2:tmps.getD 2 undef=.pointer (some ⟨A,0,none⟩)) (h3:tmps.getD 3 undef=.pointer (some ⟨B,0,none⟩)) (h4:tmps.getD 4 undef=.pointer (some ⟨C,0,none⟩))
  (hT:pR A B C w1) (hR:∀w2,Kept (kJ A B C) w1 w2→R (.returned (.tuple #[dN nilA cZ,.bool false,.agg #[.int .i64 er.1,.int .i64 er.2]])) w2) :
  bodyPostD Tryz.prog f R (.panic [{v:=bI er,recovered:=false}]) ⟨tmps,[{target:=.fn (.func 39) #[.pointer (some ⟨A,0,none⟩),.pointer (some ⟨B,0,none⟩),.pointer (some ⟨C,0,none⟩)],args:=#[]}]⟩ w1:=by
 refine leaves_cons (f:=39) (args:=#[.pointer (some ⟨A,0,none⟩),.pointer (some ⟨B,0,none⟩),.pointer (some ⟨C,0,none⟩)]) (by simp) (by simp [go_sem]) ?_
 refine (Vz A B C hne er w1 hT).mono ?_
 rintro e u' w2 ⟨rfl,rfl,T,k⟩
 show Leaves _ _ _ _ [] (settle (.panicking [{v:=bI er,recovered:=true}])) w2
 exact ⟨_,lZ hres h2 h3 h4 T,hR w2 k⟩
theorem nZ {ops:Array Oper} {o oj:Oper} {x:Act} {j d:Nat} {b:Bool} {p q:Prop} (hg:o.guard=some (j,true)) (ho:ops[j]?=some oj) (hd:oj.dst=some d) (hv:x.eval (.tmp d)=.bool b) (hlt:d<x.tmps.size) (hp:b=true→p) (hq:b=false→q) :
  if Region.wanted o (yielded ops x.tmps)=true then p else q:=by
 have hv':x.tmps[d]?=some (.bool b):=by
  have:x.tmps.getD d undef=.bool b:=hv
  rw [Array.getD_eq_getD_getElem?,Array.getElem?_eq_getElem hlt] at this
  rw [Array.getElem?_eq_getElem hlt]
  exact congrArg some this
 have hw:Region.wanted o (yielded ops x.tmps)=b:=by
  simp only [Region.wanted,hg,yielded,ho,Option.bind_some,hd,hv']
  cases b<;>rfl
 rw [hw]
 cases b with
 | true=>exact hp rfl
 | false=>exact hq rfl
end Go.Proofs.YtodebjhalipefaaGreatDoor

namespace Go.Proofs.YtodebjhalipefaaGreatDoor
set_option linter.all false
open Go.RowKit
def Jg (v:Value) (w:World) (e:Ending) (w':World):Prop:=e=.returned v∧w'=w
theorem Fq (k:Int) (w:World):Calls Tryz.prog 120 #[.int .i64 k] w (Jg (.bool (decide (k=0))) w):=by
 go_enter Tryz.func120, Tryz.ntmps120
 go_wp2_with fail
 go_ret
 exact ⟨rfl,rfl⟩
end Go.Proofs.YtodebjhalipefaaGreatDoor
