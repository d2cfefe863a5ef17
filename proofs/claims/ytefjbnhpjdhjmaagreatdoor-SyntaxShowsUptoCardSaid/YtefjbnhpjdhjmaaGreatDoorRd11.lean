/-  -/
import Derived.Test.YtefjbnhpjdhjmaaGreatDoorTs23
import Derived.Deep.RegionWith
import Derived.RegionDies
namespace Go.Proofs.YtefjbnhpjdhjmaaGreatDoor
set_option linter.all false
open Go.RowKit
set_option maxRecDepth 100000
set_option maxHeartbeats 4000000
def uG (M:Nat) (w:World):Prop:=Five M (.int .i64 0) (.string ⟨#[]⟩) (.int .i64 0) (.string ⟨#[]⟩) (.slice none 0 0) w
structure xI (N W:Nat) (s:aj) (d:Nat) (w:World) (p:aA) (k:Nat) (ka:Option Addr) (cap:Nat) (wx:World):Prop where
 bY:eU N W s k d wx
 five:Five (w.heap.size+1) (.int .i64 p.kind) (.string p.text) (.int .i64 p.n) (.string p.name) (.slice ka p.kids.length cap) wx
 mem:∃S:Nat→Prop,aI wx S ka p.kids∧∀b,S b→w.heap.size+1<b∧b<wx.heap.size
 sz:p.text.size<1000000000∧p.name.size<1000000000∧p.kids.length<1000000000
 zero:uG w.heap.size wx
 kept:Kept (· = N) w wx
theorem Z7 {c:Nat} {s:aj} {i:Nat} (h:(fH c s i).1=true):(fH c s i).2=skip s i+1∧skip s i<s.size:=by
 unfold fH at h⊢;split at h
 ·rename_i hp;rw [if_pos hp];exact ⟨rfl,pq (by omega)⟩
 ·cases h
theorem adu {c:Nat} {s:aj} {i:Nat} (h:(fH c s i).1=false):(fH c s i).2=skip s i:=by
 unfold fH at h⊢;split at h
 ·cases h
 ·rename_i hp;rw [if_neg hp]
theorem lN {c:Nat} {s:aj} {i:Nat} (hi:i≤s.size):(fH c s i).2≤s.size∧i≤(fH c s i).2:=by
 have h1:=kR s i;have h2:=dG hi
 cases h:(fH c s i).1 with
 | true=>have:=Z7 h;omega
 | false=>have:=adu h;omega
theorem Ou {c:Nat} {s:aj} {i:Nat} (h:(fH c s i).1=true):i<(fH c s i).2:=by
 have h1:=kR s i;have:=Z7 h;omega
def Ov (N W:Nat) (s:aj) (d:Nat) (w:World) (r:cZ aA) (wx:World):Prop:=∃p k ka cap,r=.ok (p,k)∧k≤s.size∧xI N W s d w p k ka cap wx
theorem IU {N W:Nat} {s:aj} {d:Nat} {w w1 w2:World} {p:aA} {k:Nat} {ka:Option Addr} {cap:Nat} {S:Nat→Prop} {z0 z1 z2 z3 z4:Value}
  (hN:N<w.heap.size) (hW:W<w.heap.size) (h1:w.heap.size+1<w1.heap.size) (R:eU N W s k d w2) (F:Five (w.heap.size+1) z0 z1 z2 z3 z4 w2) (Z:uG w.heap.size w2) (K:Kept (· = N) w w2)
  (hz:p.text.size<1000000000∧p.name.size<1000000000∧p.kids.length<1000000000) (hS:∀b,S b→w1.heap.size≤b∧b<w2.heap.size) (hk:aI w2 S ka p.kids) :
  xI N W s d w p k ka cap (bI w2 (w.heap.size+1) (.int .i64 p.kind) (.string p.text) (.int .i64 p.n) (.string p.name) (.slice ka p.kids.length cap)):=by
 have K5:Kept (· = w.heap.size+1) w2 (bI w2 (w.heap.size+1) (.int .i64 p.kind) (.string p.text) (.int .i64 p.n) (.string p.name) (.slice ka p.kids.length cap)):=(Kept.refl (· = w.heap.size+1) w2).bI (.inl rfl) _ _ _ _ _
 refine ⟨R.kept K5 (by omega) (by omega),F.bI _ _ _ _ _,⟨S,hk.kept K5 (fun b hb=>⟨(hS b hb).2,by have:=hS b hb;omega⟩),fun b hb=>⟨by have:=hS b hb;omega,Nat.lt_of_lt_of_le (hS b hb).2 K5.size⟩⟩,hz,Five.kept Z K5 (by omega),K.step K5 (fun y hy=>.inr (by omega))⟩
theorem xI.next {N W:Nat} {s:aj} {d:Nat} {w wx w':World} {p:aA} {k k':Nat} {ka:Option Addr} {cap:Nat} (h:xI N W s d w p k ka cap wx) (hN:N<w.heap.size) (hk:Kept (· = N) wx w') (hr:eU N W s k' d w'):xI N W s d w p k' ka cap w':=by
 obtain ⟨S,h1,h2⟩:=h.mem
 exact ⟨hr,h.five.kept hk (by omega),⟨S,h1.kept hk (fun b hb=>⟨(h2 b hb).2,by have:=h2 b hb;omega⟩),fun b hb=>⟨(h2 b hb).1,Nat.lt_of_lt_of_le (h2 b hb).2 hk.size⟩⟩,h.sz,Five.kept h.zero hk (by omega),h.kept.trans hk⟩
theorem IV {N W:Nat} {s:aj} {d:Nat} {w w2:World} {p:aA} {k:Nat} {ka:Option Addr} {cap:Nat} {nm:aj} {box:Obj} (hbox:box=.cells #[.int .i64 p.kind,.string p.text,.int .i64 p.n,.string p.name,.slice ka p.kids.length cap] 27)
  (hN:N<w.heap.size) (hW:W<w.heap.size) (hnm:nm.size<1000000000) (I:xI N W s d w p k ka cap w2) (kd:Int) :
  xI N W s d w (.mk kd E0 0 nm [p]) k (some ⟨w2.heap.size,0,none⟩) 1 ((bI w2 (w.heap.size+1) (.int .i64 kd) (.string E0) (.int .i64 0) (.string nm) (.slice (some ⟨w2.heap.size,0,none⟩) 1 1)).alloc box):=by
 subst hbox
 have hP:=I.five.lt
 obtain ⟨S,h1,h2⟩:=I.mem
 have V:gV w2 S (.agg #[.int .i64 p.kind,.string p.text,.int .i64 p.n,.string p.name,.slice ka p.kids.length cap]) p:=⟨ka,cap,rfl,I.sz,h1⟩
 obtain ⟨cc,hcc,hb⟩:=V.box 27 (fun b hb=>(h2 b hb).2)
 simp only [Value.agg.injEq] at hcc
 subst hcc
 have k5:Kept (· = w.heap.size+1) w2 (bI w2 (w.heap.size+1) (.int .i64 kd) (.string E0) (.int .i64 0) (.string nm) (.slice (some ⟨w2.heap.size,0,none⟩) 1 1)):=(Kept.refl (· = w.heap.size+1) w2).bI (.inl rfl) _ _ _ _ _
 have K:=IW (.cells #[.int .i64 p.kind,.string p.text,.int .i64 p.n,.string p.name,.slice ka p.kids.length cap] 27) k5 (vG _ _ _ _ _ _ _)
 have kA:Kept aC w2 (w2.alloc (.cells #[.int .i64 p.kind,.string p.text,.int .i64 p.n,.string p.name,.slice ka p.kids.length cap] 27)):=(Kept.refl _ _).alloc _
 have hz:=kA.size
 refine ⟨(I.bY.kept kA (fun h=>h) (fun h=>h)).kept K (by omega) (by omega),(I.five.bI _ _ _ _ _).kept ((Kept.refl aC _).alloc _) (fun h=>h),⟨fun b=>S b∨b=w2.heap.size,(CW hb).kept K (fun b hb=>?_),fun b hb=>?_⟩,⟨jL,hnm,JM p⟩,Five.kept (Five.kept I.zero kA (fun h=>h)) K (by omega),(I.kept.quiet kA).step K (fun y hy=>.inr (by omega))⟩
 ·rcases hb with hb|rfl
  ·have:=h2 b hb;simp;omega
  ·simp;omega
 ·have:=K.size
  rcases hb with hb|rfl
  ·have:=h2 b hb;simp [vG];omega
  ·simp [vG];omega
theorem IX {N W:Nat} {s:aj} {d:Nat} {w w1 w2:World} {p:aA} {k:Nat} {ka:Option Addr} {cap:Nat} {nm:aj}
  (hN:N<w.heap.size) (hW:W<w.heap.size) (hnm:nm.size<1000000000) (h1:w.heap.size+1<w1.heap.size) (I:xI N W s d w p k ka cap w2)
  (G:Five w1.heap.size (.int .i64 p.kind) (.string p.text) (.int .i64 p.n) (.string p.name) (.slice ka p.kids.length cap) w2) (kd:Int) :
  xI N W s d w (.mk kd E0 0 nm [p]) k (some ⟨w1.heap.size,0,none⟩) 1 (bI w2 (w.heap.size+1) (.int .i64 kd) (.string E0) (.int .i64 0) (.string nm) (.slice (some ⟨w1.heap.size,0,none⟩) 1 1)):=by
 obtain ⟨S,hs1,h2⟩:=I.mem
 have hG:=G.lt
 have hb:dH w2 (fun b=>S b∨b=w1.heap.size) w1.heap.size 0 p:=by
  obtain ⟨g0,g1,g2,g3,g4,_⟩:=G.cells
  obtain ⟨kk,t,n,nm',kids⟩:=p
  unfold dH
  exact ⟨.inr rfl,I.sz,g0,g1,g2,g3,ka,cap,g4,aI.same (fun _ _=>rfl) (fun b h=>.inl h) _ _ hs1⟩
 have K:Kept (· = w.heap.size+1) w2 (bI w2 (w.heap.size+1) (.int .i64 kd) (.string E0) (.int .i64 0) (.string nm) (.slice (some ⟨w1.heap.size,0,none⟩) 1 1)):=(Kept.refl (· = w.heap.size+1) w2).bI (.inl rfl) _ _ _ _ _
 refine ⟨I.bY.kept K (by omega) (by omega),I.five.bI _ _ _ _ _,⟨fun b=>S b∨b=w1.heap.size,(CW hb).kept K (fun b hb=>?_),fun b hb=>?_⟩,⟨jL,hnm,JM p⟩,Five.kept I.zero K (by omega),I.kept.step K (fun y hy=>.inr (by omega))⟩
 ·rcases hb with hb|rfl
  ·have:=h2 b hb;omega
  ·omega
 ·rw [vG]
  rcases hb with hb|rfl
  ·exact h2 b hb
  ·omega
theorem Ox {s:aj} {k k':Nat} {kd:Int} {p:aA} (h:dP s k kd=.ok (p,k')):k<k'∧k'≤s.size:=by
 unfold dP at h
 cases h1:dI 40 s k with
 | error e=>rw [h1] at h;cases h
 | ok k1 =>
  rw [h1] at h;dsimp only at h
  cases h2:iY s k1 with
  | error e=>rw [h2] at h;cases h
  | ok y =>
   obtain ⟨⟨t,a⟩,k2⟩:=y
   rw [h2] at h;dsimp only at h
   split at h
   ·cases h
   ·cases h3:dI 41 s k2 with
    | error e=>rw [h3] at h;cases h
    | ok k3 =>
     rw [h3] at h;simp only [Except.ok.injEq,Prod.mk.injEq] at h;obtain ⟨_,rfl⟩:=h
     have:=iC h1;have:=nO h2;have:=iC h3;omega
theorem P6 {s:aj} {k k':Nat} {kd:Int} {p:aA} (h:fV s k kd=.ok (p,k')):k<k'∧k'≤s.size:=by
 unfold fV at h
 cases h1:dI 40 s k with
 | error e=>rw [h1] at h;cases h
 | ok k1 =>
  rw [h1] at h;dsimp only at h
  have a1:=iC h1
  cases h2:ny s k1 with
  | error e=>rw [h2] at h;cases h
  | ok y =>
   obtain ⟨n,k2⟩:=y
   rw [h2] at h;dsimp only at h
   cases h3:dI 41 s k2 with
   | error e=>rw [h3] at h;cases h
   | ok k3 =>
    rw [h3] at h;simp only [Except.ok.injEq,Prod.mk.injEq] at h;obtain ⟨_,rfl⟩:=h
    have:=zG a1.2.1 h2;have:=iC h3;omega
theorem P7 {inner:Nat→cZ aA} {s:aj} (hf:eH s inner) {k k':Nat} {kd:Int} {p:aA} (h:qp inner s k kd=.ok (p,k')):k<k'∧k'≤s.size:=by
 unfold qp at h
 cases h1:dI 40 s k with
 | error e=>rw [h1] at h;cases h
 | ok k1 =>
  rw [h1] at h;dsimp only at h
  have a1:=iC h1
  cases h2:inner k1 with
  | error e=>rw [h2] at h;cases h
  | ok y =>
   obtain ⟨n,k2⟩:=y
   rw [h2] at h;dsimp only at h
   cases h3:dI 41 s k2 with
   | error e=>rw [h3] at h;cases h
   | ok k3 =>
    rw [h3] at h;simp only [Except.ok.injEq,Prod.mk.injEq] at h;obtain ⟨_,rfl⟩:=h
    have:=hf _ _ _ a1.2.1 h2;have:=iC h3;omega
theorem VI {s:aj} {j k:Nat} {kd:Int} {p:aA} (hj:j≤s.size) (h:yE s j kd=.ok (p,k)):j<k∧k≤s.size:=by
 unfold yE at h
 cases h1:nameP s j with
 | error e=>rw [h1] at h;cases h
 | ok y =>
  obtain ⟨nm,k1⟩:=y
  rw [h1] at h;simp only [Except.ok.injEq,Prod.mk.injEq] at h;obtain ⟨_,rfl⟩:=h
  exact qw hj h1
theorem AY {inner:Nat→cZ aA} {s:aj} (hf:eH s inner) {i k:Nat} {p:aA} (hi:i≤s.size) (h:aH inner s i=.ok (p,k)):i<k∧k≤s.size:=by
 have h1:=kR s i;have h2:=dG hi
 unfold aH at h
 split at h
 ·unfold DL at h
  cases h1:iY s (skip s i) with
  | error e=>rw [h1] at h;cases h
  | ok y =>
   obtain ⟨⟨t,a⟩,k1⟩:=y
   rw [h1] at h;simp only [Except.ok.injEq,Prod.mk.injEq] at h;obtain ⟨_,rfl⟩:=h
   have:=nO h1;omega
 ·split at h
  ·rename_i hp
   have:skip s i<s.size:=pq (by omega)
   have:=VI (by omega) h;omega
  ·split at h
   ·rename_i hp
    have:skip s i<s.size:=pq (by omega)
    have:=VI (by omega) h;omega
   ·unfold oq at h
    cases h1:gX s (skip s i) with
    | error e=>rw [h1] at h;cases h
    | ok y =>
     obtain ⟨⟨x,a⟩,k1⟩:=y
     rw [h1] at h;dsimp only at h
     have a1:=jZ h2 h1
     unfold lM at h
     split at h
     ·cases h
     ·split at h
      ·have:=Ox h;omega
      ·split at h
       ·have:=P6 h;omega
       ·split at h
        ·have:=P7 hf h;omega
        ·simp only [Except.ok.injEq,Prod.mk.injEq] at h;obtain ⟨_,rfl⟩:=h;omega
theorem Gs {inner:Nat→cZ aA} {s:aj} (hf:eH s inner) {i k:Nat} {p:aA} (hi:i≤s.size) (h:lQ inner s i=.ok (p,k)):i<k∧k≤s.size:=by
 have a0:=lN (c:=40) hi
 unfold lQ at h
 split at h
 ·cases h1:inner (fH 40 s i).2 with
  | error e=>rw [h1] at h;cases h
  | ok y =>
   obtain ⟨q,k1⟩:=y
   rw [h1] at h;dsimp only at h
   cases h3:dI 41 s k1 with
   | error e=>rw [h3] at h;cases h
   | ok k3 =>
    rw [h3] at h;simp only [Except.ok.injEq,Prod.mk.injEq] at h;obtain ⟨_,rfl⟩:=h
    have:=hf _ _ _ a0.1 h1;have:=iC h3;omega
 ·have:=AY hf a0.1 h;omega
theorem YK (N W:Nat) (s:aj) (i d:Nat) (w:World) (inner:Nat→cZ aA) (hin:xq N W s d inner) (hfw:eH s inner) (hr:eU N W s i d w) (hi:i≤s.size) (hs6:s.size≤65536) :
  Calls Tryz.prog 122 #[.pointer (some ⟨N,0,none⟩)] w (dh N W s d (iZ inner s i) (gJ w.heap.size) w):=by
 have HR:=ah hr;have Z8:=ah hin;have VJ:=ah hfw
 have hN:=hr.lt;have hW:=hr.tq;clear hr hin hfw
 have hs:s.size≤1000000000:=by omega
 go_enter Tryz.func122, Tryz.ntmps122
 go_wp2_with fail
 refine (Et 40 N W (by decide) s i d _ (HR.out.kept (((Kept.refl aC w).alloc _).alloc _) (fun h=>h) (fun h=>h)) hi hs).mono ?_
 rintro e w1 ⟨rfl,R1,K1⟩
 have F1:Hid (Five (w.heap.size+1) (.int .i64 0) (.string ⟨#[]⟩) (.int .i64 0) (.string ⟨#[]⟩) (.slice none 0 0) w1):=Five.kept (dO (by simp)) K1 (by omega)
 have Z1:Hid (uG w.heap.size w1):=Five.kept (Five.kept (ay w _) ((Kept.refl aC _).alloc _) (fun h=>h)) K1 (by omega)
 have jS:Hid (Kept (· = N) w w1):=(((Kept.refl _ w).alloc _).alloc _).trans K1
 have hw1:w.heap.size+1<w1.heap.size:=F1.out.lt
 have mO:=ah R1
 have hj:=(lN (c:=40) hi).1
 clear R1 K1
 go_upto_if 6 with fail
 go_cut [] (fun wx=>Ov N W s d w (lQ inner s i) wx)
 case first =>
  cases hb:(fH 40 s i).1 with
  | true =>
   go_wp2_with fail
   refine (Z8.out _ _ mO.out hj).mono ?_
   rintro e w2 ⟨k_,h⟩
   have F2:=ah (F1.out.kept k_ (by omega));have Z2:=ah (Five.kept Z1.out k_ (by omega));have K2:=ah (jS.out.trans k_)
   clear k_
   cases ht:inner (fH 40 s i).2 with
   | error er =>
    rw [ht] at h
    obtain rfl:=h
    have hr:Hid (iZ inner s i=.error er):=by unfold Hid iZ lQ;rw [if_pos hb,ht]
    clear ht
    go_wp2_with fail
    exact bK rfl hr.out K2.out
   | ok y =>
    obtain ⟨p,k⟩:=y
    rw [ht] at h
    obtain ⟨_,rfl,⟨S,hS,⟨ka,cap,rfl,hz,hk⟩⟩,R2⟩:=h
    have hst:=ah (IU (cap:=cap) hN hW hw1 R2 F2.out Z2.out K2.out hz hS hk)
    obtain ⟨c0,c1,c2,c3,c4,cf⟩:=F2.out.cells
    have f0:=cf 0;have f1:=cf 1;have f2:=cf 2;have f3:=cf 3;have f4:=cf 4;clear cf
    have hk2:k≤s.size:=(VJ.out _ _ _ hj ht).2
    have HT:=ah ht;clear ht R2 hz hS hk
    go_wp2_with fail
    refine (gZ 41 N W (by decide) s k d _ hst.out.bY hk2 hs).mono ?_
    rintro e w3 ⟨k_,h⟩
    cases hn:dI 41 s k with
    | error er =>
     rw [hn] at h
     obtain rfl:=h
     have hr:Hid (iZ inner s i=.error er):=by unfold Hid iZ lQ;rw [if_pos hb,HT.out];dsimp only;rw [hn]
     have KK:=ah (hst.out.kept.trans k_)
     clear hn k_
     go_wp2_with fail
     exact bK rfl hr.out KK.out
    | ok k1 =>
     rw [hn] at h
     obtain ⟨rfl,R3⟩:=h
     have fin:Hid (Ov N W s d w (lQ inner s i) w3):=⟨p,k1,ka,cap,by unfold lQ;rw [if_pos hb,HT.out];dsimp only;rw [hn],(iC hn).2.1,hst.out.next hN k_ R3⟩
     clear hn k_ R3 c0 c1 c2 c3 c4 f0 f1 f2 f3 f4
     go_wp2_with fail
     go_meet
     exact fin.out
  | false =>
   go_wp2_with fail
   refine (P8 N W s _ d _ inner Z8.out VJ.out mO.out hj hs6).mono ?_
   rintro e w2 ⟨k_,h⟩
   have F2:=ah (F1.out.kept k_ (by omega));have Z2:=ah (Five.kept Z1.out k_ (by omega));have K2:=ah (jS.out.trans k_)
   clear k_
   cases ht:aH inner s (fH 40 s i).2 with
   | error er =>
    rw [ht] at h
    obtain rfl:=h
    have hr:Hid (iZ inner s i=.error er):=by unfold Hid iZ lQ;rw [if_neg (by simp [hb]),ht]
    clear ht
    go_wp2_with fail
    exact bK rfl hr.out K2.out
   | ok y =>
    obtain ⟨p,k⟩:=y
    rw [ht] at h
    obtain ⟨_,rfl,⟨S,hS,⟨ka,cap,rfl,hz,hk⟩⟩,R2⟩:=h
    have hst:=ah (IU (cap:=cap) hN hW hw1 R2 F2.out Z2.out K2.out hz hS hk)
    obtain ⟨c0,c1,c2,c3,c4,cf⟩:=F2.out.cells
    have f0:=cf 0;have f1:=cf 1;have f2:=cf 2;have f3:=cf 3;have f4:=cf 4;clear cf
    have fin:Hid (Ov N W s d w (lQ inner s i) (bI w2 (w.heap.size+1) (.int .i64 p.kind) (.string p.text) (.int .i64 p.n) (.string p.name) (.slice ka p.kids.length cap))) :=
     ⟨p,k,ka,cap,by unfold lQ;rw [if_neg (by simp [hb]),ht],(AY VJ.out hj ht).2,hst.out⟩
    clear ht R2 hz hS hk
    go_wp2_with fail
    go_meet
    exact fin.out
 case rest =>
  obtain ⟨p0,k0,ka0,cap0,e0,hk0,I0⟩:=hcut
  have II0:=ah I0
  have E0':Hid (iZ inner s i=jA s (s.size+1-k0) p0 k0):=by unfold Hid iZ;rw [e0]
  clear e0 I0 F1 Z1 jS mO HR
  go_wp2_with fail
  go_loopg [] (s.size+1-k0) (fun f wr=>∃(p:aA) (k:Nat) (ka:Option Addr) (cap:Nat),s.size+1-k≤f∧k≤s.size∧Hid (xI N W s d w p k ka cap wr)∧Hid (iZ inner s i=jA s f p k))
  case atStart=>exact ⟨p0,k0,ka0,cap0,Nat.le_refl _,hk0,II0,E0'⟩
  case round =>
   obtain ⟨p,k,ka,cap,hf,hk,I,E⟩:=hrel
   obtain ⟨f,hgk⟩:∃f,gk=f+1:=⟨gk-1,by omega⟩
   have E1:=E.out
   rw [hgk,jA] at E1
   have hf2:s.size-k≤f:=by omega
   have hfl:f<gk:=by omega
   have EE:=ah E1
   clear hgk hf E II0 E0' hk0 E1
   go_wp2_with fail
   refine (Et 46 N W (by decide) s k d _ I.out.bY hk hs).mono ?_
   rintro e w1 ⟨rfl,R1,K1⟩
   have E1:=EE.out;clear EE
   have hj:=lN (c:=46) hk
   cases hb:(fH 46 s k).1 with
   | true =>
    rw [if_pos hb] at E1
    have I1:=ah (I.out.next hN K1 R1)
    have hlt1:=Ou hb
    generalize (fH 46 s k).2=j at *
    clear I R1 K1 hb
    obtain ⟨c0,c1,c2,c3,c4,cf⟩:=I1.out.five.cells
    have f0:=cf 0;have f1:=cf 1;have f2:=cf 2;have f3:=cf 3;have f4:=cf 4;clear cf
    have SA:w.heap.size+1<w1.heap.size:=I1.out.five.lt
    cases hn:nameP s j with
    | error er =>
     rw [hn] at E1
     have HE:=ah E1
     have HN:=ah hn
     clear E1 hn
     go_wp2_with fail
     go_region_dies
     all_goals first
      | ((with_reducible refine (name_any N W s j d _ (I1.out.bY.kept ((Kept.refl aC w1).drew) (fun h=>h) (fun h=>h)) hj.1 hs).mono ?_);rintro e w2 ⟨k_,h⟩;rw [HN.out] at h;obtain rfl:=h;exact bK rfl HE.out (I1.out.kept.trans ((Kept.refl (· = N) w1).drew.trans k_)))
      | ((with_reducible refine (name_any N W s j d _ (I1.out.bY.kept (((Kept.refl aC w1).alloc _).drew) (fun h=>h) (fun h=>h)) hj.1 hs).mono ?_);rintro e w2 ⟨k_,h⟩;rw [HN.out] at h;obtain rfl:=h;exact bK rfl HE.out (I1.out.kept.trans (((Kept.refl (· = N) w1).alloc _).drew.trans k_)))
    | ok y =>
     obtain ⟨nm,k2⟩:=y
     rw [hn] at E1
     have HE:=ah E1
     have HN:=ah hn
     have hk2:=qw hj.1 hn
     have hnl:=Fh hj.1 hn
     clear E1 hn
     go_wp2_with fail
     go_region_with (first
      | (go_at_call 127;(with_reducible refine (name_any N W s j d _ (I1.out.bY.kept ((Kept.refl aC w1).drew) (fun h=>h) (fun h=>h)) hj.1 hs).mono ?_);rintro e w2 ⟨k_,h⟩;rw [HN.out] at h;obtain ⟨_,rfl,rfl,R2⟩:=h;have I2:=ah (I1.out.next hN ((Kept.refl (· = N) w1).drew.trans k_) R2);clear k_ R2;obtain ⟨c0,c1,c2,c3,c4,cf⟩:=I2.out.five.cells;have f0:=cf 0;have f1:=cf 1;have f2:=cf 2;have f3:=cf 3;have f4:=cf 4;have YL:w.heap.size+1<w2.heap.size:=I2.out.five.lt;clear cf)
      | (go_at_call 127;(with_reducible refine (name_any N W s j d _ (I1.out.bY.kept (((Kept.refl aC w1).alloc _).drew) (fun h=>h) (fun h=>h)) hj.1 hs).mono ?_);rintro e w2 ⟨k_,h⟩;rw [HN.out] at h;obtain ⟨_,rfl,rfl,R2⟩:=h;have I2:=ah (I1.out.next hN (((Kept.refl (· = N) w1).alloc _).drew.trans k_) R2);have G2:Hid (Five w1.heap.size (.int .i64 p.kind) (.string p.text) (.int .i64 p.n) (.string p.name) (.slice ka p.kids.length cap) w2):=Five.kept (ay w1 _) ((Kept.refl (· = N) _).drew.trans k_) (by omega);clear k_ R2;obtain ⟨c0,c1,c2,c3,c4,cf⟩:=I2.out.five.cells;have f0:=cf 0;have f1:=cf 1;have f2:=cf 2;have f3:=cf 3;have f4:=cf 4;have YL:w.heap.size+1<w2.heap.size:=I2.out.five.lt;clear cf))
     all_goals
      go_wp2_with fail
      clear c0 c1 c2 c3 c4 f0 f1 f2 f3 f4
      go_roundg f
      case measure=>exact hfl
      case rel=>first
       | exact ⟨_,k2,_,_,by omega,hk2.2,IV (box:=.cells #[.int .i64 p.kind,.string p.text,.int .i64 p.n,.string p.name,.slice ka p.kids.length cap] 27) rfl hN hW hnl I2.out 21,HE⟩
       | exact ⟨_,k2,_,_,by omega,hk2.2,IX hN hW hnl SA I2.out G2.out 21,HE⟩
   | false =>
    rw [if_neg (by simp [hb])] at E1
    have I1:=ah (I.out.next hN K1 R1)
    have hkj:=lN (c:=46) hk
    have E2:=ah E1
    clear I R1 K1 hb E1
    go_wp2_with fail
    refine (Et 36 N W (by decide) s _ d _ I1.out.bY hkj.1 hs).mono ?_
    rintro e Eu ⟨rfl,R1,K1⟩
    generalize (fH 46 s k).2=kk at *
    have hj:=lN (c:=36) hkj.1
    have E1:=E2.out
    have Z9:=I1
    cases hb:(fH 36 s kk).1 with
    | true =>
     rw [if_pos hb] at E1
     have I1:=ah (Z9.out.next hN K1 R1)
     have hlt1:=Ou hb
     generalize (fH 36 s kk).2=j at *
     clear Z9 E2 R1 K1 hb
     obtain ⟨c0,c1,c2,c3,c4,cf⟩:=I1.out.five.cells
     have f0:=cf 0;have f1:=cf 1;have f2:=cf 2;have f3:=cf 3;have f4:=cf 4;clear cf
     have SA:w.heap.size+1<Eu.heap.size:=I1.out.five.lt
     cases hn:nameP s j with
     | error er =>
      rw [hn] at E1
      have HE:=ah E1
      have HN:=ah hn
      clear E1 hn
      go_wp2_with fail
      go_region_dies
      all_goals first
       | ((with_reducible refine (name_any N W s j d _ (I1.out.bY.kept ((Kept.refl aC Eu).drew) (fun h=>h) (fun h=>h)) hj.1 hs).mono ?_);rintro e w2 ⟨k_,h⟩;rw [HN.out] at h;obtain rfl:=h;exact bK rfl HE.out (I1.out.kept.trans ((Kept.refl (· = N) Eu).drew.trans k_)))
       | ((with_reducible refine (name_any N W s j d _ (I1.out.bY.kept (((Kept.refl aC Eu).alloc _).drew) (fun h=>h) (fun h=>h)) hj.1 hs).mono ?_);rintro e w2 ⟨k_,h⟩;rw [HN.out] at h;obtain rfl:=h;exact bK rfl HE.out (I1.out.kept.trans (((Kept.refl (· = N) Eu).alloc _).drew.trans k_)))
     | ok y =>
      obtain ⟨nm,k2⟩:=y
      rw [hn] at E1
      have HE:=ah E1
      have HN:=ah hn
      have hk2:=qw hj.1 hn
      have hnl:=Fh hj.1 hn
      clear E1 hn
      go_wp2_with fail
      go_region_with (first
       | (go_at_call 127;(with_reducible refine (name_any N W s j d _ (I1.out.bY.kept ((Kept.refl aC Eu).drew) (fun h=>h) (fun h=>h)) hj.1 hs).mono ?_);rintro e w2 ⟨k_,h⟩;rw [HN.out] at h;obtain ⟨_,rfl,rfl,R2⟩:=h;have I2:=ah (I1.out.next hN ((Kept.refl (· = N) Eu).drew.trans k_) R2);clear k_ R2;obtain ⟨c0,c1,c2,c3,c4,cf⟩:=I2.out.five.cells;have f0:=cf 0;have f1:=cf 1;have f2:=cf 2;have f3:=cf 3;have f4:=cf 4;have YL:w.heap.size+1<w2.heap.size:=I2.out.five.lt;clear cf)
       | (go_at_call 127;(with_reducible refine (name_any N W s j d _ (I1.out.bY.kept (((Kept.refl aC Eu).alloc _).drew) (fun h=>h) (fun h=>h)) hj.1 hs).mono ?_);rintro e w2 ⟨k_,h⟩;rw [HN.out] at h;obtain ⟨_,rfl,rfl,R2⟩:=h;have I2:=ah (I1.out.next hN (((Kept.refl (· = N) Eu).alloc _).drew.trans k_) R2);have G2:Hid (Five Eu.heap.size (.int .i64 p.kind) (.string p.text) (.int .i64 p.n) (.string p.name) (.slice ka p.kids.length cap) w2):=Five.kept (ay Eu _) ((Kept.refl (· = N) _).drew.trans k_) (by omega);clear k_ R2;obtain ⟨c0,c1,c2,c3,c4,cf⟩:=I2.out.five.cells;have f0:=cf 0;have f1:=cf 1;have f2:=cf 2;have f3:=cf 3;have f4:=cf 4;have YL:w.heap.size+1<w2.heap.size:=I2.out.five.lt;clear cf))
      all_goals
       go_wp2_with fail
       clear c0 c1 c2 c3 c4 f0 f1 f2 f3 f4
       go_roundg f
       case measure=>exact hfl
       case rel=>first
       | exact ⟨_,k2,_,_,by omega,hk2.2,IV (box:=.cells #[.int .i64 p.kind,.string p.text,.int .i64 p.n,.string p.name,.slice ka p.kids.length cap] 27) rfl hN hW hnl I2.out 22,HE⟩
       | exact ⟨_,k2,_,_,by omega,hk2.2,IX hN hW hnl SA I2.out G2.out 22,HE⟩
    | false =>
     rw [if_neg (by simp [hb])] at E1
     have I2:=ah (Z9.out.next hN K1 R1)
     have HE:=ah E1
     generalize (fH 36 s kk).2=j at *
     clear I1 Z9 R1 K1 hb E1 E2
     obtain ⟨p0',p1',p2',p3',MR,_⟩:=I2.out.five.cells
     obtain ⟨c0,c1,c2,c3,c4,cf⟩:=Five.cells I2.out.zero
     have f0:=cf 0;have f1:=cf 1;have f2:=cf 2;have f3:=cf 3;have f4:=cf 4;clear cf
     obtain ⟨S,hS1,hS2⟩:=I2.out.mem
     have QL:=ah hS1;have HS2:=ah hS2
     clear hS1 hS2
     go_wp2_with fail
     exact jE (p:=p) (S:=S) rfl rfl I2.out.zero I2.out.bY I2.out.kept (Nat.le_refl _) hN hW HE.out I2.out.sz (fun b hb=>by have:=HS2.out b hb;omega) QL.out
end Go.Proofs.YtefjbnhpjdhjmaaGreatDoor
