/-  -/
import Derived.Test.YtefjbnhpjdhjmaaGreatDoorTs20
import Derived.Test.YtefjbnhpjdhjmaaGreatDoorPs24
namespace Go.Proofs.YtefjbnhpjdhjmaaGreatDoor
set_option linter.all false
open Go.RowKit
set_option maxRecDepth 100000
set_option maxHeartbeats 16000000
theorem dF.hc0 {M:Nat} {a:ig} {s:aN} {w:World} (h:dF M a s w) (i:Nat) (hi:i<24):w.cell? ⟨M,0+i,none⟩=some ((aV a s)[i]'(by simpa [aV] using hi)):=by
 unfold dF at h
 rw [Nat.zero_add,cell_of_row w M i _ _ _ h]
 have e:∀(j:Nat) (hj:j<(aV a s).length),(aV a s).toArray[j]?=some (aV a s)[j]:=fun j hj=>by simp [hj]
 exact e i (by simpa [aV] using hi)
theorem KX {w:World} {M:Nat} {a:ig} {s:aN} (h:dF M a s w):(loadVar 30 ⟨M,0,none⟩).run Tryz.prog w=.ok (bV a s) w:=by
 have h1:=Ia h.hc0
 unfold Instr.loadAt at h1
 simpa only [Instr.sureAddr,Sem.run_bind,Sem.run_pure,Result.andThen_ok] using h1
theorem Ul (n:Nat) {f:Func} (hres:f.results = #[.cell n 30]) {tmps:Array Value} {M:Nat} (ht:tmps.getD n undef=.pointer (some ⟨M,0,none⟩)) {a:ig} {s:aN} {w2:World} {Q:Ending→World→Prop} (h:dF M a s w2)
  (hq:Q (.returned (bV a s)) w2):bodyPost Tryz.prog f Q .ret ⟨tmps,[]⟩ w2:=by
 have ht':tmps[n]?.getD undef=.pointer (some ⟨M,0,none⟩):=by rw [←ht,Array.getD_eq_getD_getElem?]
 refine bodyPost_ret (v:=bV a s) ?_ rfl hq
 have hl:=KX h
 simp [results,hres,ht',asAddr,hl,Sem.run_bind,Sem.run_pure,Result.andThen_ok]
def nilA:ig:=⟨none,0,none,0,none,0,none,0,none,0⟩
def dU:aN:={st0 with kind:=0}
theorem Uk (w:World) (S:Nat→Prop) {s:aN} (h1:s.target=rW) (h2:s.value=rW) (h3:s.pat=rW) (h4:s.params=[]) (h5:s.locals=[]):uM w S nilA s:=by
 have hp:aI w S none []:=by unfold aI;trivial
 have hs:nD w S none []:=fun h=>by cases h
 exact ⟨by rw [h1];exact hp,by rw [h2];exact hp,by rw [h3];exact hp,by rw [h4];exact hs,by rw [h5];exact hs,by rw [h4];exact Nat.zero_le _,by rw [h5];exact Nat.zero_le _⟩
structure BD (N T en R M:Nat) (w:World) (s:aN) (l:List aF) (wx:World):Prop where
 sb:fK N T en M s l wx
 z:dF R nilA dU wx
 k:Kept (· = N) w wx
 lt:N<w.heap.size∧T<w.heap.size∧w.heap.size≤R∧R<M
theorem BD.step {N T en R M:Nat} {w wx wy:World} {s s2:aN} {l l2:List aF} (h:BD N T en R M w s l wx) (hk:Kept (fun b=>b=N∨b=M) wx wy) (hs:fK N T en M s2 l2 wy):BD N T en R M w s2 l2 wy :=
 ⟨hs,h.z.kept hk (by have:=h.lt;omega),h.k.step hk (fun y hy=>by have:=h.lt;rcases hy with rfl|rfl;exact .inl rfl;exact .inr (by omega)),h.lt⟩
theorem BD.bg {N T en R M:Nat} {w wx wy:World} {s:aN} {l l2:List aF} (h:BD N T en R M w s l wx) (hk:Kept (· = N) wx wy) (hr:fA N T en l2 0 wy) (hl:l2.length≤l.length):BD N T en R M w s l2 wy :=
 h.step (jc hk) (h.sb.bg hk hr hl)
def Dw (N:Nat) (res:Except Er aN) (w:World) (e:Ending) (w':World):Prop :=
 Kept (· = N) w w'∧match res with
  | .ok s=>∃a S,e=.returned (bV a s)∧nX s∧uM w' S a s∧∀b,S b→w.heap.size≤b∧b<w'.heap.size
  | .error er=>mG er e
theorem Dw.thrown {N:Nat} {r:Except Er aN} {w w2 w3:World} {er:Er} (K:Kept (· = N) w w2) (k:Kept (· = N) w2 w3) (hr:r=.error er):Dw N r w (.panicked [{v:=dQ er,recovered:=false}]) w3:=by
 subst hr;exact ⟨K.trans k,rfl⟩
def MJ (en:Nat) (s:aN) (r:List aF):Except Er aN:=match (if r≠[]∧aJ (bs [58]) r=false then bodyT en s r else .ok (s,r)) with
 | .error er=>.error er
 | .ok (s2,r2)=>xG en s2 r2
def tail3 (en:Nat) (s2:aN) (r:List aF):Except Er aN:=if r≠[] then .error (2,fO en r) else if 200<lT s2.target∨200<lT s2.value then .error (4,0) else .ok s2
theorem IE {en a:Nat} {s s2:aN} {x:aA} {k:Int} {l r:List aF} (h:mJ en a s x k l=.ok (s2,r)):s2.yes=s.yes∧s2.aZ=s.aZ:=by
 unfold mJ at h
 split at h
 ·split at h
  ·cases h
  ·split at h
   ·cases h
   ·simp only [Except.ok.injEq,Prod.mk.injEq] at h;obtain ⟨rfl,_⟩:=h;exact ⟨rfl,rfl⟩
 ·simp only [Except.ok.injEq,Prod.mk.injEq] at h;obtain ⟨rfl,_⟩:=h;exact ⟨rfl,rfl⟩
theorem Vf {en:Nat} {s s2:aN} {l r:List aF} (h:bodyT en s l=.ok (s2,r)):s2.yes=s.yes∧s2.aZ=s.aZ:=by
 unfold bodyT at h
 split at h
 ·unfold gQ at h
  repeat' split at h
  all_goals first|cases h;done|(simp only [Except.ok.injEq,Prod.mk.injEq] at h;obtain ⟨rfl,_⟩:=h;exact ⟨rfl,rfl⟩)
 ·split at h
  ·unfold yQ at h
   repeat' split at h
   all_goals first|cases h;done|(simp only [Except.ok.injEq,Prod.mk.injEq] at h;obtain ⟨rfl,_⟩:=h;exact ⟨rfl,rfl⟩)
  ·unfold CG at h
   split at h
   ·cases h
   ·split at h
    ·split at h
     ·cases h
     ·have:=IE h;exact this
    ·have:=IE h;exact this
theorem fK.oZ {N T en M:Nat} {s:aN} {l:List aF} {w:World} (h:fK N T en M s l w):(∃S,dH w S M 2 s.target)∧∃S,dH w S M 7 s.value:=by
 obtain ⟨a,S,hB,hO,hS⟩:=h.st
 have hlt:=hB.lt
 obtain ⟨c0,c1,c2,c3,c4,c5,c6,c7,c8,c9,c10,c11,c12,c13,c14,c15,c16,c17,c18,c19,c20,c21,dX,c23⟩:=hB.cells
 have hk1:=hO.target.to (S':=fun b=>S b∨b=M) (Kept.refl aC w) (fun b hb=>⟨(hS b hb).2,fun h=>h⟩) (fun _ h=>.inl h)
 have hk2:=hO.value.to (S':=fun b=>S b∨b=M) (Kept.refl aC w) (fun b hb=>⟨(hS b hb).2,fun h=>h⟩) (fun _ h=>.inl h)
 have z1:=h.sz.target.z;have z2:=h.sz.value.z
 refine ⟨⟨fun b=>S b∨b=M,?_⟩,⟨fun b=>S b∨b=M,?_⟩⟩
 ·generalize s.target=p at *
  obtain ⟨k,t,n,nm,kids⟩:=p
  unfold dH
  exact ⟨.inr rfl,z1,c2,c3,c4,c5,a.ta,a.tc,c6,hk1⟩
 ·generalize s.value=p at *
  obtain ⟨k,t,n,nm,kids⟩:=p
  unfold dH
  exact ⟨.inr rfl,z2,c7,c8,c9,c10,a.va,a.vc,c11,hk2⟩
theorem KY {N T en:Nat} (lab:Bool) {l:List aF} {w:World} (h:fA N T en l 0 w) (hl:l.length≤100000):Calls Tryz.prog 20 #[.pointer (some ⟨N,0,none⟩),.bool lab] w (Dw N (iR en lab l) w):=by
 obtain ⟨hN,hT,hne,h7⟩:=h.mF
 obtain ⟨w0,hw0⟩:∃w0,w0=w.alloc (.cells #[.string ⟨#[]⟩,.int .i64 0,.int .i64 0,.string ⟨#[]⟩,.int .i64 0,.string ⟨#[]⟩,.slice none 0 0,.int .i64 0,.string ⟨#[]⟩,.int .i64 0,.string ⟨#[]⟩,.slice none 0 0,.int .i64 0,.string ⟨#[]⟩,.int .i64 0,.string ⟨#[]⟩,.slice none 0 0,.string ⟨#[]⟩,.string ⟨#[]⟩,.slice none 0 0,.slice none 0 0,.string ⟨#[]⟩,.string ⟨#[]⟩,.string ⟨#[]⟩] 30):=⟨_,rfl⟩
 have k0:Kept aC w w0:=by rw [hw0];exact (Kept.refl _ _).alloc _
 obtain ⟨R,hR⟩:∃R,R=w.heap.size:=⟨_,rfl⟩
 have Z0:Hid (dF R nilA dU w0):=by rw [hw0,hR];exact dF.new w nilA dU
 have R0:=ah (h.kept k0 (fun h=>h) (fun h=>h))
 have K0:=ah k0;have HW0:=ah hw0;have HR:=ah hR;have HL:=ah hl
 have hz0:Hid (w0.heap.size=w.heap.size+1):=by unfold Hid;rw [hw0];simp
 clear k0 hw0 hR h hl
 go_enter Tryz.func20, Tryz.ntmps20
 go_upto_region 1 with fail
 rw [←HW0.out,←HR.out]
 go_upto_region 2 with (refine jw rfl _ _ rfl w0.heap.size rfl nilA st0 rfl _ (ay w0 _) rfl ?_;intro w1 hB1 hk1;have kA:=(Kept.refl aC w0).alloc (.cells #[.string ⟨#[]⟩,.int .i64 0,.int .i64 0,.string ⟨#[]⟩,.int .i64 0,.string ⟨#[]⟩,.slice none 0 0,.int .i64 0,.string ⟨#[]⟩,.int .i64 0,.string ⟨#[]⟩,.slice none 0 0,.int .i64 0,.string ⟨#[]⟩,.int .i64 0,.string ⟨#[]⟩,.slice none 0 0,.string ⟨#[]⟩,.string ⟨#[]⟩,.slice none 0 0,.slice none 0 0,.string ⟨#[]⟩,.string ⟨#[]⟩,.string ⟨#[]⟩] 30);have hlt1:=hB1.lt;have I1:Hid (BD N T en R w0.heap.size w (st1 E0) l w1):=(by have hz:=hz0.out;have hr:=HR.out;have hs1:=hk1.size;refine ⟨⟨(R0.out.kept kA (fun h=>h) (fun h=>h)).kept hk1 (by omega) (by omega) (by omega),⟨nilA,aC,hB1,Uk _ _ rfl rfl rfl rfl rfl,fun b hb=>hb.elim⟩,abW (lb:=E0) (by decide),by omega,HL.out⟩,(Z0.out.kept kA (fun h=>h)).kept hk1 (by omega),((K0.out.trans kA).more (fun _ h=>h.elim)).step hk1 (fun y hy=>.inr (by omega)),by omega⟩);clear hB1 hk1 kA hlt1)
 obtain ⟨M,hM⟩:∃M,M=w0.heap.size:=⟨_,rfl⟩
 rw [←hM] at I1
 rw [←hM]
 clear hM
 try dsimp only [Act.put]
 go_upto_if 7 with fail
 go_cut [] (fun wx=>∃(lb:aj) (r:List aF),Hid (BD N T en R M w (st1 lb) r wx)∧Hid (iR en lab l=MJ en (st1 lb) r))
 case first =>
  cases lab with
  | true =>
   go_wp2_with (go_at_call 48;(refine (iQ I1.out.sb.bY).mono ?_);intro e w2 h_;rcases hu:fP en l with e0|⟨lb,r⟩;(obtain ⟨k_,rfl⟩:=h_.bad hu;have f_:Dw N (iR en true l) w (.panicked [{v:=dQ e0,recovered:=false}]) _:=Dw.thrown I1.out.k k_ (by unfold iR;simp only [if_true,hu]);exact ⟨rfl,f_⟩);(obtain ⟨k_,rfl,r_⟩:=h_.ok hu;have HU:=ah hu;have I2:=ah (I1.out.bg k_ r_ (by have:=oH hu;omega));obtain ⟨v0,c0,f0⟩:=I2.out.sb.slot 0 (by decide);clear k_ r_ h_ hu))
   go_meet
   exact ⟨lb,r,I2.out.step (iI dW) (I2.out.sb.Yq lb (by have:=kL HU.out;omega)),by unfold Hid iR;simp only [if_true,HU.out];rfl⟩
  | false =>
   go_wp2_with fail
   go_meet
   exact ⟨E0,l,I1,by unfold Hid iR;rfl⟩
 case rest =>
  obtain ⟨lb,r,I2,H2⟩:=hcut
  obtain ⟨w2,rfl⟩:∃x:World,x=wc:=⟨_,rfl⟩
  clear I1 Z0 R0
  go_upto_region 4 with fail
  obtain ⟨nq,aq,cq,hq⟩:=I2.out.sb.bY
  have HS:=ah (Ah ⟨#[58]⟩ hq)
  go_cut [21] (fun c wx=>c=.bool (decide (r≠[]∧aJ (bs [58]) r=false))∧w2=wx)
  case first =>
   obtain ⟨c0,c1,cd,cf⟩:=hq.c0
   have hn:=hq.num
   by_cases h0:r=[]
   ·have z:decide ((0:Int)<(nq:Int))=false:=by rw [hn,h0];rfl
    have z':decide (0<nq)=false:=by rw [hn,h0];rfl
    have fin:Hid (decide (r≠[]∧aJ (bs [58]) r=false)=false):=au (fun h=>h.1 h0)
    clear hn hq cf h0
    go_wp2_with fail
    go_meet
    exact ⟨by rw [fin.out],rfl⟩
   ·have hp:0<nq:=by rw [hn];exact List.length_pos_iff.2 h0
    have z:decide ((0:Int)<(nq:Int))=true:=ak (by omega)
    have z':decide (0<nq)=true:=ak hp
    have fin:Hid (decide (r≠[]∧aJ (bs [58]) r=false)=!(aJ ⟨#[58]⟩ r)):=by
     unfold Hid
     cases hs:aJ ⟨#[58]⟩ r with
     | true=>exact au (fun h=>by rw [show aJ (bs [58]) r=true from hs] at h;cases h.2)
     | false=>exact ak ⟨h0,hs⟩
    clear hn hq cf h0
    go_wp2_with (go_at_call 49;(refine HS.out.mono ?_);rintro e w' ⟨rfl,aQ⟩;obtain rfl:=aQ.symm)
    go_meet
    exact ⟨by rw [fin.out],rfl⟩
  case rest =>
   obtain ⟨rfl,rfl⟩:=hcut
   clear hq
   go_upto_if 21 with fail
   go_cut [] (fun wx=>∃(s2:aN) (r2:List aF),Hid (BD N T en R M w s2 r2 wx)∧Hid (s2.yes=E0∧s2.aZ=E0)∧Hid (iR en lab l=xG en s2 r2))
   case first =>
    by_cases hb:r≠[]∧aJ (bs [58]) r=false
    ·have HB:=ah hb
     rw [ak hb]
     clear hb
     go_wp2_with (go_at_call 50;(refine (Ve I2.out.sb).mono ?_);intro e w3 h_;rcases hu:bodyT en (st1 lb) r with e0|⟨s2,r2⟩;(obtain ⟨k_,rfl⟩:=h_.bad hu;have f_:Dw N (iR en lab l) w (.panicked [{v:=dQ e0,recovered:=false}]) _:=Dw.thrown (I2.out.k.step k_ (fun y hy=>by have:=I2.out.lt;rcases hy with rfl|rfl;exact .inl rfl;exact .inr (by omega))) (Kept.refl _ _) (by rw [H2.out];unfold MJ;rw [if_pos HB.out,hu]);exact ⟨rfl,f_⟩);(obtain ⟨k_,rfl,s_⟩:=h_.ok hu;have HU:=ah hu;have I3:=ah (I2.out.step k_ s_);clear k_ s_ h_ hu))
     go_meet
     exact ⟨s2,r2,I3,by have:=Vf HU.out;exact this,by unfold Hid;rw [H2.out];unfold MJ;rw [if_pos HB.out,HU.out]⟩
    ·have HB:=ah hb
     rw [au hb]
     clear hb
     go_wp2_with fail
     go_meet
     exact ⟨st1 lb,r,I2,⟨rfl,rfl⟩,by unfold Hid;rw [H2.out];unfold MJ;rw [if_neg HB.out]⟩
   case rest =>
    obtain ⟨s2,r2,I3,HY,H3⟩:=hcut
    obtain ⟨w3,rfl⟩:∃x:World,x=wc:=⟨_,rfl⟩
    clear I2 HS H2
    go_upto_region 6 with fail
    go_cut [25] (fun c wx=>c=.bool (aJ ⟨#[58]⟩ r2)∧Hid (BD N T en R M w s2 (if aJ ⟨#[58]⟩ r2=true then r2.tail else r2) wx))
    case first =>
     cases hs:aJ ⟨#[58]⟩ r2 with
     | true =>
      go_wp2_with (go_at_call 51;(with_reducible refine (nS ⟨#[58]⟩ I3.out.sb.bY hs).mono ?_);rintro e w4 ⟨rfl,r_,k_⟩;have I4:=ah (I3.out.bg k_ r_ (by have:=jQ hs;omega));clear r_ k_)
      go_meet
      rw [hs]
      exact ⟨rfl,I4⟩
     | false =>
      go_wp2_with (go_at_call 51;(with_reducible refine (iy ⟨#[58]⟩ I3.out.sb.bY hs).mono ?_);rintro e w4 ⟨rfl,r_,k_⟩;have I4:=ah (I3.out.bg k_ r_ (Nat.le_refl _));clear r_ k_)
      go_meet
      rw [hs]
      exact ⟨rfl,I4⟩
    case rest =>
     obtain ⟨rfl,I4⟩:=hcut
     obtain ⟨w4,rfl⟩:∃x:World,x=wc:=⟨_,rfl⟩
     clear I3
     go_upto_if 25 with fail
     go_cut [] (fun wx=>∃(s3:aN) (r3:List aF),Hid (BD N T en R M w s3 r3 wx)∧Hid (iR en lab l=tail3 en s3 r3))
     case first =>
      cases hs:aJ ⟨#[58]⟩ r2 with
      | true =>
       rw [hs] at I4
       have I4:Hid (BD N T en R M w s2 r2.tail w4):=I4
       go_wp2_with (go_at_call 52;(refine (RN I4.out.sb HY.out.1 HY.out.2).mono ?_);intro e w5 h_;rcases hu:gW en s2 r2.tail with e0|⟨s3,r3⟩;(obtain ⟨k_,rfl⟩:=h_.bad hu;have f_:Dw N (iR en lab l) w (.panicked [{v:=dQ e0,recovered:=false}]) _:=Dw.thrown (I4.out.k.step k_ (fun y hy=>by have:=I4.out.lt;rcases hy with rfl|rfl;exact .inl rfl;exact .inr (by omega))) (Kept.refl _ _) (by rw [H3.out];unfold xG;rw [show aJ (bs [58]) r2=true from hs,if_pos rfl,hu]);exact ⟨rfl,f_⟩);(obtain ⟨k_,rfl,s_⟩:=h_.ok hu;have HU:=ah hu;have I5:=ah (I4.out.step k_ s_);clear k_ s_ h_ hu))
       go_meet
       exact ⟨s3,r3,I5,by unfold Hid;rw [H3.out];unfold xG;rw [show aJ (bs [58]) r2=true from hs,if_pos rfl,HU.out];rfl⟩
      | false =>
       rw [hs] at I4
       have I4:Hid (BD N T en R M w s2 r2 w4):=I4
       go_wp2_with fail
       go_meet
       exact ⟨s2,r2,I4,by unfold Hid;rw [H3.out];unfold xG;rw [show aJ (bs [58]) r2=false from hs,if_neg (by decide)];rfl⟩
     case rest =>
      obtain ⟨s3,r3,I5,H5⟩:=hcut
      obtain ⟨w5,rfl⟩:∃x:World,x=wc:=⟨_,rfl⟩
      clear I4 H3 HY
      go_upto_region 8 with fail
      obtain ⟨nq,aq,cq,hq⟩:=I5.out.sb.bY
      obtain ⟨c0,c1,cd,cf⟩:=hq.c0
      have hn:=hq.num
      have HA:=ah (o8 hq)
      clear hq cf
      by_cases h0:r3=[]
      ·have z:decide ((0:Int)<(nq:Int))=false:=by rw [hn,h0];rfl
       have z':decide (0<nq)=false:=by rw [hn,h0];rfl
       have H6:Hid (iR en lab l=if 200<lT s3.target∨200<lT s3.value then .error (4,0) else .ok s3):=by unfold Hid;rw [H5.out];unfold tail3;rw [if_neg (fun h=>h h0)]
       clear hn h0 H5
       obtain ⟨⟨S1,hp1⟩,⟨S2,hp2⟩⟩:=I5.out.sb.oZ
       have hs1:=I5.out.sb.sz.target.t;have hs2:=I5.out.sb.sz.value.t
       have ZO:=ah (KQ _ s3.target M 2 S1 w5 (Nat.le_refl _) (by omega) hp1)
       have hC2:=ah (KQ _ s3.value M 7 S2 w5 (Nat.le_refl _) (by omega) hp2)
       have hd1:=GH s3.target;have hd2:=GH s3.value
       have hb1:lT s3.target≤1048576:=by omega
       have hb2:lT s3.value≤1048576:=by omega
       obtain ⟨da,hda⟩:∃d,d=lT s3.target:=⟨_,rfl⟩
       obtain ⟨db,hdb⟩:∃d,d=lT s3.value:=⟨_,rfl⟩
       rw [←hda] at ZO hb1 H6
       rw [←hdb] at hC2 hb2 H6
       clear hp1 hp2 hs1 hs2 hd1 hd2 hda hdb
       by_cases hx:200<da
       ·have y1:decide ((200:Int)<(da:Int))=true:=ak (by omega)
        have y2:decide (200<da)=true:=ak hx
        have fin:Hid (iR en lab l=.error (4,0)):=by unfold Hid;rw [H6.out,if_pos (.inl hx)]
        clear hx H6
        go_wp2_with (first
         | (go_at_call 55;(refine ZO.out.mono ?_);rintro e w' ⟨rfl,aQ⟩;obtain rfl:=aQ.symm)
         | (go_at_call 53;(refine (fG _ 4 0 w5).mono ?_);rintro e w9 ⟨rfl,rfl⟩))
        exact ⟨rfl,Dw.thrown I5.out.k (Kept.refl _ _) fin.out⟩
       ·have y1:decide ((200:Int)<(da:Int))=false:=au (by omega)
        have y2:decide (200<da)=false:=au hx
        by_cases hy:200<db
        ·have y3:decide ((200:Int)<(db:Int))=true:=ak (by omega)
         have y4:decide (200<db)=true:=ak hy
         have fin:Hid (iR en lab l=.error (4,0)):=by unfold Hid;rw [H6.out,if_pos (.inr hy)]
         clear hx hy H6
         go_wp2_with (first
          | (go_at_call 55;(with_reducible refine ZO.out.mono ?_);rintro e w' ⟨rfl,aQ⟩;obtain rfl:=aQ.symm)
          | (go_at_call 55;(with_reducible refine hC2.out.mono ?_);rintro e w' ⟨rfl,aQ⟩;obtain rfl:=aQ.symm)
          | (go_at_call 53;(refine (fG _ 4 0 w5).mono ?_);rintro e w9 ⟨rfl,rfl⟩))
         exact ⟨rfl,Dw.thrown I5.out.k (Kept.refl _ _) fin.out⟩
        ·have y3:decide ((200:Int)<(db:Int))=false:=au (by omega)
         have y4:decide (200<db)=false:=au hy
         have fin:Hid (iR en lab l=.ok s3):=by unfold Hid;rw [H6.out,if_neg (by omega)]
         clear hx hy H6
         obtain ⟨a,S,hB,hO,hS⟩:=I5.out.sb.st
         have HBB:=ah hB;have HO:=ah hO;have xZ:=ah hS
         have QG:=ah I5.out.z
         clear hB hO hS
         go_wp2_with (first
          | (go_at_call 55;(with_reducible refine ZO.out.mono ?_);rintro e w' ⟨rfl,aQ⟩;obtain rfl:=aQ.symm)
          | (go_at_call 55;(with_reducible refine hC2.out.mono ?_);rintro e w' ⟨rfl,aQ⟩;obtain rfl:=aQ.symm)
          | (refine mP rfl _ rfl M 0 rfl a s3 HBB.out.hc0 ?_)
          | (refine jw rfl _ _ rfl R rfl a s3 rfl _ QG.out rfl ?_;intro w6 KZ hk6;have Vg:=ah KZ;have NW:=ah hk6;clear KZ hk6))
         have hlt:=I5.out.lt
         refine Ul 4 rfl rfl Vg.out ⟨I5.out.k.step NW.out (fun y hy=>.inr (by omega)),?_⟩
         rw [fin.out]
         exact ⟨a,S,rfl,I5.out.sb.sz,HO.out.to NW.out (fun b hb=>⟨(xZ.out b hb).2,by have:=xZ.out b hb;omega⟩) (fun _ h=>h),fun b hb=>⟨by have:=xZ.out b hb;omega,Nat.lt_of_lt_of_le (xZ.out b hb).2 NW.out.size⟩⟩
      ·have hp:0<nq:=by rw [hn];exact List.length_pos_iff.2 h0
       have z:decide ((0:Int)<(nq:Int))=true:=ak (by omega)
       have z':decide (0<nq)=true:=ak hp
       have fin:Hid (iR en lab l=.error (2,fO en r3)):=by unfold Hid;rw [H5.out];unfold tail3;rw [if_pos h0]
       clear hn h0
       go_wp2_with (first
        | (go_at_call 54;(refine HA.out.mono ?_);rintro e w' ⟨rfl,aQ⟩;obtain rfl:=aQ.symm)
        | (go_at_call 53;(refine (fG _ 2 (fO en r3) w5).mono ?_);rintro e w9 ⟨rfl,rfl⟩))
       exact ⟨rfl,Dw.thrown I5.out.k (Kept.refl _ _) fin.out⟩
end Go.Proofs.YtefjbnhpjdhjmaaGreatDoor
