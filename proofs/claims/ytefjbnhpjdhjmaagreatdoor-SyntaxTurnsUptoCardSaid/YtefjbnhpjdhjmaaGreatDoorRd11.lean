/-  -/
import Derived.Test.YtefjbnhpjdhjmaaGreatDoorTm15
import Derived.Deep.RegionWith
import Derived.RegionDies
namespace Go.Proofs.YtefjbnhpjdhjmaaGreatDoor
set_option linter.all false
open Go.RowKit
set_option maxRecDepth 100000
set_option maxHeartbeats 4000000
def uJ (M:Nat) (w:World):Prop:=Five M (.int .i64 0) (.string ⟨#[]⟩) (.int .i64 0) (.string ⟨#[]⟩) (.slice none 0 0) w
structure xG (N W:Nat) (s:aj) (d:Nat) (w:World) (p:aA) (k:Nat) (ka:Option Addr) (cap:Nat) (wx:World):Prop where
 bY:fB N W s k d wx
 five:Five (w.heap.size+1) (.int .i64 p.kind) (.string p.text) (.int .i64 p.n) (.string p.name) (.slice ka p.kids.length cap) wx
 mem:∃S:Nat→Prop,aI wx S ka p.kids∧∀b,S b→w.heap.size+1<b∧b<wx.heap.size
 sz:p.text.size<1000000000∧p.name.size<1000000000∧p.kids.length<1000000000
 zero:uJ w.heap.size wx
 kept:Kept (· = N) w wx
theorem aaL {c:Nat} {s:aj} {i:Nat} (h:(fG c s i).1=true):(fG c s i).2=skip s i+1∧skip s i<s.size:=by
 unfold fG at h⊢;split at h
 ·rename_i hp;rw [if_pos hp];exact ⟨rfl,oN (by omega)⟩
 ·cases h
theorem aeg {c:Nat} {s:aj} {i:Nat} (h:(fG c s i).1=false):(fG c s i).2=skip s i:=by
 unfold fG at h⊢;split at h
 ·cases h
 ·rename_i hp;rw [if_neg hp]
theorem kY {c:Nat} {s:aj} {i:Nat} (hi:i≤s.size):(fG c s i).2≤s.size∧i≤(fG c s i).2:=by
 have h1:=kJ s i;have h2:=dB hi
 cases h:(fG c s i).1 with
 | true=>have:=aaL h;omega
 | false=>have:=aeg h;omega
theorem OU {c:Nat} {s:aj} {i:Nat} (h:(fG c s i).1=true):i<(fG c s i).2:=by
 have h1:=kJ s i;have:=aaL h;omega
def OV (N W:Nat) (s:aj) (d:Nat) (w:World) (r:bT aA) (wx:World):Prop:=∃p k ka cap,r=.ok (p,k)∧k≤s.size∧xG N W s d w p k ka cap wx
theorem Jf {N W:Nat} {s:aj} {d:Nat} {w w1 w2:World} {p:aA} {k:Nat} {ka:Option Addr} {cap:Nat} {S:Nat→Prop} {z0 z1 z2 z3 z4:Value}
  (hN:N<w.heap.size) (hW:W<w.heap.size) (h1:w.heap.size+1<w1.heap.size) (R:fB N W s k d w2) (F:Five (w.heap.size+1) z0 z1 z2 z3 z4 w2) (Z:uJ w.heap.size w2) (K:Kept (· = N) w w2)
  (hz:p.text.size<1000000000∧p.name.size<1000000000∧p.kids.length<1000000000) (hS:∀b,S b→w1.heap.size≤b∧b<w2.heap.size) (hk:aI w2 S ka p.kids) :
  xG N W s d w p k ka cap (bI w2 (w.heap.size+1) (.int .i64 p.kind) (.string p.text) (.int .i64 p.n) (.string p.name) (.slice ka p.kids.length cap)):=by
 have K5:Kept (· = w.heap.size+1) w2 (bI w2 (w.heap.size+1) (.int .i64 p.kind) (.string p.text) (.int .i64 p.n) (.string p.name) (.slice ka p.kids.length cap)):=(Kept.refl (· = w.heap.size+1) w2).bI (.inl rfl) _ _ _ _ _
 refine ⟨R.kept K5 (by omega) (by omega),F.bI _ _ _ _ _,⟨S,hk.kept K5 (fun b hb=>⟨(hS b hb).2,by have:=hS b hb;omega⟩),fun b hb=>⟨by have:=hS b hb;omega,Nat.lt_of_lt_of_le (hS b hb).2 K5.size⟩⟩,hz,Five.kept Z K5 (by omega),K.step K5 (fun y hy=>.inr (by omega))⟩
theorem xG.next {N W:Nat} {s:aj} {d:Nat} {w wx w':World} {p:aA} {k k':Nat} {ka:Option Addr} {cap:Nat} (h:xG N W s d w p k ka cap wx) (hN:N<w.heap.size) (hk:Kept (· = N) wx w') (hr:fB N W s k' d w'):xG N W s d w p k' ka cap w':=by
 obtain ⟨S,h1,h2⟩:=h.mem
 exact ⟨hr,h.five.kept hk (by omega),⟨S,h1.kept hk (fun b hb=>⟨(h2 b hb).2,by have:=h2 b hb;omega⟩),fun b hb=>⟨(h2 b hb).1,Nat.lt_of_lt_of_le (h2 b hb).2 hk.size⟩⟩,h.sz,Five.kept h.zero hk (by omega),h.kept.trans hk⟩
theorem Jg {N W:Nat} {s:aj} {d:Nat} {w w2:World} {p:aA} {k:Nat} {ka:Option Addr} {cap:Nat} {nm:aj} {box:Obj} (hbox:box=.cells #[.int .i64 p.kind,.string p.text,.int .i64 p.n,.string p.name,.slice ka p.kids.length cap] 27)
  (hN:N<w.heap.size) (hW:W<w.heap.size) (hnm:nm.size<1000000000) (I:xG N W s d w p k ka cap w2) (kd:Int) :
  xG N W s d w (.mk kd E0 0 nm [p]) k (some ⟨w2.heap.size,0,none⟩) 1 ((bI w2 (w.heap.size+1) (.int .i64 kd) (.string E0) (.int .i64 0) (.string nm) (.slice (some ⟨w2.heap.size,0,none⟩) 1 1)).alloc box):=by
 subst hbox
 have hP:=I.five.lt
 obtain ⟨S,h1,h2⟩:=I.mem
 have V:gZ w2 S (.agg #[.int .i64 p.kind,.string p.text,.int .i64 p.n,.string p.name,.slice ka p.kids.length cap]) p:=⟨ka,cap,rfl,I.sz,h1⟩
 obtain ⟨cc,hcc,hb⟩:=V.box 27 (fun b hb=>(h2 b hb).2)
 simp only [Value.agg.injEq] at hcc
 subst hcc
 have k5:Kept (· = w.heap.size+1) w2 (bI w2 (w.heap.size+1) (.int .i64 kd) (.string E0) (.int .i64 0) (.string nm) (.slice (some ⟨w2.heap.size,0,none⟩) 1 1)):=(Kept.refl (· = w.heap.size+1) w2).bI (.inl rfl) _ _ _ _ _
 have K:=Jh (.cells #[.int .i64 p.kind,.string p.text,.int .i64 p.n,.string p.name,.slice ka p.kids.length cap] 27) k5 (vI _ _ _ _ _ _ _)
 have kA:Kept aF w2 (w2.alloc (.cells #[.int .i64 p.kind,.string p.text,.int .i64 p.n,.string p.name,.slice ka p.kids.length cap] 27)):=(Kept.refl _ _).alloc _
 have hz:=kA.size
 refine ⟨(I.bY.kept kA (fun h=>h) (fun h=>h)).kept K (by omega) (by omega),(I.five.bI _ _ _ _ _).kept ((Kept.refl aF _).alloc _) (fun h=>h),⟨fun b=>S b∨b=w2.heap.size,(CV hb).kept K (fun b hb=>?_),fun b hb=>?_⟩,⟨jQ,hnm,Ku p⟩,Five.kept (Five.kept I.zero kA (fun h=>h)) K (by omega),(I.kept.quiet kA).step K (fun y hy=>.inr (by omega))⟩
 ·rcases hb with hb|rfl
  ·have:=h2 b hb;simp;omega
  ·simp;omega
 ·have:=K.size
  rcases hb with hb|rfl
  ·have:=h2 b hb;simp [vI];omega
  ·simp [vI];omega
theorem Ji {N W:Nat} {s:aj} {d:Nat} {w w1 w2:World} {p:aA} {k:Nat} {ka:Option Addr} {cap:Nat} {nm:aj}
  (hN:N<w.heap.size) (hW:W<w.heap.size) (hnm:nm.size<1000000000) (h1:w.heap.size+1<w1.heap.size) (I:xG N W s d w p k ka cap w2)
  (G:Five w1.heap.size (.int .i64 p.kind) (.string p.text) (.int .i64 p.n) (.string p.name) (.slice ka p.kids.length cap) w2) (kd:Int) :
  xG N W s d w (.mk kd E0 0 nm [p]) k (some ⟨w1.heap.size,0,none⟩) 1 (bI w2 (w.heap.size+1) (.int .i64 kd) (.string E0) (.int .i64 0) (.string nm) (.slice (some ⟨w1.heap.size,0,none⟩) 1 1)):=by
 obtain ⟨S,hs1,h2⟩:=I.mem
 have hG:=G.lt
 have hb:dL w2 (fun b=>S b∨b=w1.heap.size) w1.heap.size 0 p:=by
  obtain ⟨g0,g1,g2,g3,g4,_⟩:=G.cells
  obtain ⟨kk,t,n,nm',kids⟩:=p
  unfold dL
  exact ⟨.inr rfl,I.sz,g0,g1,g2,g3,ka,cap,g4,aI.same (fun _ _=>rfl) (fun b h=>.inl h) _ _ hs1⟩
 have K:Kept (· = w.heap.size+1) w2 (bI w2 (w.heap.size+1) (.int .i64 kd) (.string E0) (.int .i64 0) (.string nm) (.slice (some ⟨w1.heap.size,0,none⟩) 1 1)):=(Kept.refl (· = w.heap.size+1) w2).bI (.inl rfl) _ _ _ _ _
 refine ⟨I.bY.kept K (by omega) (by omega),I.five.bI _ _ _ _ _,⟨fun b=>S b∨b=w1.heap.size,(CV hb).kept K (fun b hb=>?_),fun b hb=>?_⟩,⟨jQ,hnm,Ku p⟩,Five.kept I.zero K (by omega),I.kept.step K (fun y hy=>.inr (by omega))⟩
 ·rcases hb with hb|rfl
  ·have:=h2 b hb;omega
  ·omega
 ·rw [vI]
  rcases hb with hb|rfl
  ·exact h2 b hb
  ·omega
theorem OW {s:aj} {k k':Nat} {kd:Int} {p:aA} (h:dD s k kd=.ok (p,k')):k<k'∧k'≤s.size:=by
 unfold dD at h
 cases h1:dh 40 s k with
 | error e=>rw [h1] at h;cases h
 | ok k1 =>
  rw [h1] at h;dsimp only at h
  cases h2:iL s k1 with
  | error e=>rw [h2] at h;cases h
  | ok y =>
   obtain ⟨⟨t,a⟩,k2⟩:=y
   rw [h2] at h;dsimp only at h
   split at h
   ·cases h
   ·cases h3:dh 41 s k2 with
    | error e=>rw [h3] at h;cases h
    | ok k3 =>
     rw [h3] at h;simp only [Except.ok.injEq,Prod.mk.injEq] at h;obtain ⟨_,rfl⟩:=h
     have:=gX h1;have:=mg h2;have:=gX h3;omega
theorem QA {s:aj} {k k':Nat} {kd:Int} {p:aA} (h:fO s k kd=.ok (p,k')):k<k'∧k'≤s.size:=by
 unfold fO at h
 cases h1:dh 40 s k with
 | error e=>rw [h1] at h;cases h
 | ok k1 =>
  rw [h1] at h;dsimp only at h
  have a1:=gX h1
  cases h2:lW s k1 with
  | error e=>rw [h2] at h;cases h
  | ok y =>
   obtain ⟨n,k2⟩:=y
   rw [h2] at h;dsimp only at h
   cases h3:dh 41 s k2 with
   | error e=>rw [h3] at h;cases h
   | ok k3 =>
    rw [h3] at h;simp only [Except.ok.injEq,Prod.mk.injEq] at h;obtain ⟨_,rfl⟩:=h
    have:=xJ a1.2.1 h2;have:=gX h3;omega
theorem QB {inner:Nat→bT aA} {s:aj} (hf:dU s inner) {k k':Nat} {kd:Int} {p:aA} (h:nT inner s k kd=.ok (p,k')):k<k'∧k'≤s.size:=by
 unfold nT at h
 cases h1:dh 40 s k with
 | error e=>rw [h1] at h;cases h
 | ok k1 =>
  rw [h1] at h;dsimp only at h
  have a1:=gX h1
  cases h2:inner k1 with
  | error e=>rw [h2] at h;cases h
  | ok y =>
   obtain ⟨n,k2⟩:=y
   rw [h2] at h;dsimp only at h
   cases h3:dh 41 s k2 with
   | error e=>rw [h3] at h;cases h
   | ok k3 =>
    rw [h3] at h;simp only [Except.ok.injEq,Prod.mk.injEq] at h;obtain ⟨_,rfl⟩:=h
    have:=hf _ _ _ a1.2.1 h2;have:=gX h3;omega
theorem WE {s:aj} {j k:Nat} {kd:Int} {p:aA} (hj:j≤s.size) (h:uX s j kd=.ok (p,k)):j<k∧k≤s.size:=by
 unfold uX at h
 cases h1:nameP s j with
 | error e=>rw [h1] at h;cases h
 | ok y =>
  obtain ⟨nm,k1⟩:=y
  rw [h1] at h;simp only [Except.ok.injEq,Prod.mk.injEq] at h;obtain ⟨_,rfl⟩:=h
  exact qo hj h1
theorem AY {inner:Nat→bT aA} {s:aj} (hf:dU s inner) {i k:Nat} {p:aA} (hi:i≤s.size) (h:aH inner s i=.ok (p,k)):i<k∧k≤s.size:=by
 have h1:=kJ s i;have h2:=dB hi
 unfold aH at h
 split at h
 ·unfold AU at h
  cases h1:iL s (skip s i) with
  | error e=>rw [h1] at h;cases h
  | ok y =>
   obtain ⟨⟨t,a⟩,k1⟩:=y
   rw [h1] at h;simp only [Except.ok.injEq,Prod.mk.injEq] at h;obtain ⟨_,rfl⟩:=h
   have:=mg h1;omega
 ·split at h
  ·rename_i hp
   have:skip s i<s.size:=oN (by omega)
   have:=WE (by omega) h;omega
  ·split at h
   ·rename_i hp
    have:skip s i<s.size:=oN (by omega)
    have:=WE (by omega) h;omega
   ·unfold nJ at h
    cases h1:gK s (skip s i) with
    | error e=>rw [h1] at h;cases h
    | ok y =>
     obtain ⟨⟨x,a⟩,k1⟩:=y
     rw [h1] at h;dsimp only at h
     have a1:=jH h2 h1
     unfold kT at h
     split at h
     ·cases h
     ·split at h
      ·have:=OW h;omega
      ·split at h
       ·have:=QA h;omega
       ·split at h
        ·have:=QB hf h;omega
        ·simp only [Except.ok.injEq,Prod.mk.injEq] at h;obtain ⟨_,rfl⟩:=h;omega
theorem GK {inner:Nat→bT aA} {s:aj} (hf:dU s inner) {i k:Nat} {p:aA} (hi:i≤s.size) (h:jL inner s i=.ok (p,k)):i<k∧k≤s.size:=by
 have a0:=kY (c:=40) hi
 unfold jL at h
 split at h
 ·cases h1:inner (fG 40 s i).2 with
  | error e=>rw [h1] at h;cases h
  | ok y =>
   obtain ⟨q,k1⟩:=y
   rw [h1] at h;dsimp only at h
   cases h3:dh 41 s k1 with
   | error e=>rw [h3] at h;cases h
   | ok k3 =>
    rw [h3] at h;simp only [Except.ok.injEq,Prod.mk.injEq] at h;obtain ⟨_,rfl⟩:=h
    have:=hf _ _ _ a0.1 h1;have:=gX h3;omega
 ·have:=AY hf a0.1 h;omega
theorem Zk (N W:Nat) (s:aj) (i d:Nat) (w:World) (inner:Nat→bT aA) (hin:xu N W s d inner) (hfw:dU s inner) (hr:fB N W s i d w) (hi:i≤s.size) (hs6:s.size≤65536) :
  Calls Tryz.prog 122 #[.pointer (some ⟨N,0,none⟩)] w (dn N W s d (iE inner s i) (gW w.heap.size) w):=by
 have HR:=ah hr;have HIN:=ah hin;have WG:=ah hfw
 have hN:=hr.lt;have hW:=hr.sK;clear hr hin hfw
 have hs:s.size≤1000000000:=by omega
 go_enter Tryz.func122, Tryz.ntmps122
 go_wp2_with fail
 refine (ED 40 N W (by decide) s i d _ (HR.out.kept (((Kept.refl aF w).alloc _).alloc _) (fun h=>h) (fun h=>h)) hi hs).mono ?_
 rintro e w1 ⟨rfl,R1,K1⟩
 have F1:Hid (Five (w.heap.size+1) (.int .i64 0) (.string ⟨#[]⟩) (.int .i64 0) (.string ⟨#[]⟩) (.slice none 0 0) w1):=Five.kept (dK (by simp)) K1 (by omega)
 have Z1:Hid (uJ w.heap.size w1):=Five.kept (Five.kept (ay w _) ((Kept.refl aF _).alloc _) (fun h=>h)) K1 (by omega)
 have jU:Hid (Kept (· = N) w w1):=(((Kept.refl _ w).alloc _).alloc _).trans K1
 have hw1:w.heap.size+1<w1.heap.size:=F1.out.lt
 have ny:=ah R1
 have hj:=(kY (c:=40) hi).1
 clear R1 K1
 go_upto_if 6 with fail
 go_cut [] (fun wx=>OV N W s d w (jL inner s i) wx)
 case first =>
  cases hb:(fG 40 s i).1 with
  | true =>
   go_wp2_with fail
   refine (HIN.out _ _ ny.out hj).mono ?_
   rintro e w2 ⟨k_,h⟩
   have F2:=ah (F1.out.kept k_ (by omega));have Z2:=ah (Five.kept Z1.out k_ (by omega));have K2:=ah (jU.out.trans k_)
   clear k_
   cases ht:inner (fG 40 s i).2 with
   | error er =>
    rw [ht] at h
    obtain rfl:=h
    have hr:Hid (iE inner s i=.error er):=by unfold Hid iE jL;rw [if_pos hb,ht]
    clear ht
    go_wp2_with fail
    exact bM rfl hr.out K2.out
   | ok y =>
    obtain ⟨p,k⟩:=y
    rw [ht] at h
    obtain ⟨_,rfl,⟨S,hS,⟨ka,cap,rfl,hz,hk⟩⟩,R2⟩:=h
    have hst:=ah (Jf (cap:=cap) hN hW hw1 R2 F2.out Z2.out K2.out hz hS hk)
    obtain ⟨c0,c1,c2,c3,c4,cf⟩:=F2.out.cells
    have f0:=cf 0;have f1:=cf 1;have f2:=cf 2;have f3:=cf 3;have f4:=cf 4;clear cf
    have hk2:k≤s.size:=(WG.out _ _ _ hj ht).2
    have HT:=ah ht;clear ht R2 hz hS hk
    go_wp2_with fail
    refine (iw 41 N W (by decide) s k d _ hst.out.bY hk2 hs).mono ?_
    rintro e w3 ⟨k_,h⟩
    cases hn:dh 41 s k with
    | error er =>
     rw [hn] at h
     obtain rfl:=h
     have hr:Hid (iE inner s i=.error er):=by unfold Hid iE jL;rw [if_pos hb,HT.out];dsimp only;rw [hn]
     have KK:=ah (hst.out.kept.trans k_)
     clear hn k_
     go_wp2_with fail
     exact bM rfl hr.out KK.out
    | ok k1 =>
     rw [hn] at h
     obtain ⟨rfl,R3⟩:=h
     have fin:Hid (OV N W s d w (jL inner s i) w3):=⟨p,k1,ka,cap,by unfold jL;rw [if_pos hb,HT.out];dsimp only;rw [hn],(gX hn).2.1,hst.out.next hN k_ R3⟩
     clear hn k_ R3 c0 c1 c2 c3 c4 f0 f1 f2 f3 f4
     go_wp2_with fail
     go_meet
     exact fin.out
  | false =>
   go_wp2_with fail
   refine (QC N W s _ d _ inner HIN.out WG.out ny.out hj hs6).mono ?_
   rintro e w2 ⟨k_,h⟩
   have F2:=ah (F1.out.kept k_ (by omega));have Z2:=ah (Five.kept Z1.out k_ (by omega));have K2:=ah (jU.out.trans k_)
   clear k_
   cases ht:aH inner s (fG 40 s i).2 with
   | error er =>
    rw [ht] at h
    obtain rfl:=h
    have hr:Hid (iE inner s i=.error er):=by unfold Hid iE jL;rw [if_neg (by simp [hb]),ht]
    clear ht
    go_wp2_with fail
    exact bM rfl hr.out K2.out
   | ok y =>
    obtain ⟨p,k⟩:=y
    rw [ht] at h
    obtain ⟨_,rfl,⟨S,hS,⟨ka,cap,rfl,hz,hk⟩⟩,R2⟩:=h
    have hst:=ah (Jf (cap:=cap) hN hW hw1 R2 F2.out Z2.out K2.out hz hS hk)
    obtain ⟨c0,c1,c2,c3,c4,cf⟩:=F2.out.cells
    have f0:=cf 0;have f1:=cf 1;have f2:=cf 2;have f3:=cf 3;have f4:=cf 4;clear cf
    have fin:Hid (OV N W s d w (jL inner s i) (bI w2 (w.heap.size+1) (.int .i64 p.kind) (.string p.text) (.int .i64 p.n) (.string p.name) (.slice ka p.kids.length cap))) :=
     ⟨p,k,ka,cap,by unfold jL;rw [if_neg (by simp [hb]),ht],(AY WG.out hj ht).2,hst.out⟩
    clear ht R2 hz hS hk
    go_wp2_with fail
    go_meet
    exact fin.out
 case rest =>
  obtain ⟨p0,k0,ka0,cap0,e0,hk0,I0⟩:=hcut
  have II0:=ah I0
  have E0':Hid (iE inner s i=iK s (s.size+1-k0) p0 k0):=by unfold Hid iE;rw [e0]
  clear e0 I0 F1 Z1 jU ny HR
  go_wp2_with fail
  go_loopg [] (s.size+1-k0) (fun f wr=>∃(p:aA) (k:Nat) (ka:Option Addr) (cap:Nat),s.size+1-k≤f∧k≤s.size∧Hid (xG N W s d w p k ka cap wr)∧Hid (iE inner s i=iK s f p k))
  case atStart=>exact ⟨p0,k0,ka0,cap0,Nat.le_refl _,hk0,II0,E0'⟩
  case round =>
   obtain ⟨p,k,ka,cap,hf,hk,I,E⟩:=hrel
   obtain ⟨f,hgk⟩:∃f,gk=f+1:=⟨gk-1,by omega⟩
   have E1:=E.out
   rw [hgk,iK] at E1
   have hf2:s.size-k≤f:=by omega
   have hfl:f<gk:=by omega
   have EE:=ah E1
   clear hgk hf E II0 E0' hk0 E1
   go_wp2_with fail
   refine (ED 46 N W (by decide) s k d _ I.out.bY hk hs).mono ?_
   rintro e w1 ⟨rfl,R1,K1⟩
   have E1:=EE.out;clear EE
   have hj:=kY (c:=46) hk
   cases hb:(fG 46 s k).1 with
   | true =>
    rw [if_pos hb] at E1
    have I1:=ah (I.out.next hN K1 R1)
    have hlt1:=OU hb
    generalize (fG 46 s k).2=j at *
    clear I R1 K1 hb
    obtain ⟨c0,c1,c2,c3,c4,cf⟩:=I1.out.five.cells
    have f0:=cf 0;have f1:=cf 1;have f2:=cf 2;have f3:=cf 3;have f4:=cf 4;clear cf
    have TR:w.heap.size+1<w1.heap.size:=I1.out.five.lt
    cases hn:nameP s j with
    | error er =>
     rw [hn] at E1
     have HE:=ah E1
     have HN:=ah hn
     clear E1 hn
     go_wp2_with fail
     go_region_dies
     all_goals first
      | ((with_reducible refine (name_any N W s j d _ (I1.out.bY.kept ((Kept.refl aF w1).drew) (fun h=>h) (fun h=>h)) hj.1 hs).mono ?_);rintro e w2 ⟨k_,h⟩;rw [HN.out] at h;obtain rfl:=h;exact bM rfl HE.out (I1.out.kept.trans ((Kept.refl (· = N) w1).drew.trans k_)))
      | ((with_reducible refine (name_any N W s j d _ (I1.out.bY.kept (((Kept.refl aF w1).alloc _).drew) (fun h=>h) (fun h=>h)) hj.1 hs).mono ?_);rintro e w2 ⟨k_,h⟩;rw [HN.out] at h;obtain rfl:=h;exact bM rfl HE.out (I1.out.kept.trans (((Kept.refl (· = N) w1).alloc _).drew.trans k_)))
    | ok y =>
     obtain ⟨nm,k2⟩:=y
     rw [hn] at E1
     have HE:=ah E1
     have HN:=ah hn
     have hk2:=qo hj.1 hn
     have hnl:=FB hj.1 hn
     clear E1 hn
     go_wp2_with fail
     go_region_with (first
      | (go_at_call 127;(with_reducible refine (name_any N W s j d _ (I1.out.bY.kept ((Kept.refl aF w1).drew) (fun h=>h) (fun h=>h)) hj.1 hs).mono ?_);rintro e w2 ⟨k_,h⟩;rw [HN.out] at h;obtain ⟨_,rfl,rfl,R2⟩:=h;have I2:=ah (I1.out.next hN ((Kept.refl (· = N) w1).drew.trans k_) R2);clear k_ R2;obtain ⟨c0,c1,c2,c3,c4,cf⟩:=I2.out.five.cells;have f0:=cf 0;have f1:=cf 1;have f2:=cf 2;have f3:=cf 3;have f4:=cf 4;have Zl:w.heap.size+1<w2.heap.size:=I2.out.five.lt;clear cf)
      | (go_at_call 127;(with_reducible refine (name_any N W s j d _ (I1.out.bY.kept (((Kept.refl aF w1).alloc _).drew) (fun h=>h) (fun h=>h)) hj.1 hs).mono ?_);rintro e w2 ⟨k_,h⟩;rw [HN.out] at h;obtain ⟨_,rfl,rfl,R2⟩:=h;have I2:=ah (I1.out.next hN (((Kept.refl (· = N) w1).alloc _).drew.trans k_) R2);have G2:Hid (Five w1.heap.size (.int .i64 p.kind) (.string p.text) (.int .i64 p.n) (.string p.name) (.slice ka p.kids.length cap) w2):=Five.kept (ay w1 _) ((Kept.refl (· = N) _).drew.trans k_) (by omega);clear k_ R2;obtain ⟨c0,c1,c2,c3,c4,cf⟩:=I2.out.five.cells;have f0:=cf 0;have f1:=cf 1;have f2:=cf 2;have f3:=cf 3;have f4:=cf 4;have Zl:w.heap.size+1<w2.heap.size:=I2.out.five.lt;clear cf))
     all_goals
      go_wp2_with fail
      clear c0 c1 c2 c3 c4 f0 f1 f2 f3 f4
      go_roundg f
      case measure=>exact hfl
      case rel=>first
       | exact ⟨_,k2,_,_,by omega,hk2.2,Jg (box:=.cells #[.int .i64 p.kind,.string p.text,.int .i64 p.n,.string p.name,.slice ka p.kids.length cap] 27) rfl hN hW hnl I2.out 21,HE⟩
       | exact ⟨_,k2,_,_,by omega,hk2.2,Ji hN hW hnl TR I2.out G2.out 21,HE⟩
   | false =>
    rw [if_neg (by simp [hb])] at E1
    have I1:=ah (I.out.next hN K1 R1)
    have hkj:=kY (c:=46) hk
    have E2:=ah E1
    clear I R1 K1 hb E1
    go_wp2_with fail
    refine (ED 36 N W (by decide) s _ d _ I1.out.bY hkj.1 hs).mono ?_
    rintro e EF ⟨rfl,R1,K1⟩
    generalize (fG 46 s k).2=kk at *
    have hj:=kY (c:=36) hkj.1
    have E1:=E2.out
    have I0b:=I1
    cases hb:(fG 36 s kk).1 with
    | true =>
     rw [if_pos hb] at E1
     have I1:=ah (I0b.out.next hN K1 R1)
     have hlt1:=OU hb
     generalize (fG 36 s kk).2=j at *
     clear I0b E2 R1 K1 hb
     obtain ⟨c0,c1,c2,c3,c4,cf⟩:=I1.out.five.cells
     have f0:=cf 0;have f1:=cf 1;have f2:=cf 2;have f3:=cf 3;have f4:=cf 4;clear cf
     have TR:w.heap.size+1<EF.heap.size:=I1.out.five.lt
     cases hn:nameP s j with
     | error er =>
      rw [hn] at E1
      have HE:=ah E1
      have HN:=ah hn
      clear E1 hn
      go_wp2_with fail
      go_region_dies
      all_goals first
       | ((with_reducible refine (name_any N W s j d _ (I1.out.bY.kept ((Kept.refl aF EF).drew) (fun h=>h) (fun h=>h)) hj.1 hs).mono ?_);rintro e w2 ⟨k_,h⟩;rw [HN.out] at h;obtain rfl:=h;exact bM rfl HE.out (I1.out.kept.trans ((Kept.refl (· = N) EF).drew.trans k_)))
       | ((with_reducible refine (name_any N W s j d _ (I1.out.bY.kept (((Kept.refl aF EF).alloc _).drew) (fun h=>h) (fun h=>h)) hj.1 hs).mono ?_);rintro e w2 ⟨k_,h⟩;rw [HN.out] at h;obtain rfl:=h;exact bM rfl HE.out (I1.out.kept.trans (((Kept.refl (· = N) EF).alloc _).drew.trans k_)))
     | ok y =>
      obtain ⟨nm,k2⟩:=y
      rw [hn] at E1
      have HE:=ah E1
      have HN:=ah hn
      have hk2:=qo hj.1 hn
      have hnl:=FB hj.1 hn
      clear E1 hn
      go_wp2_with fail
      go_region_with (first
       | (go_at_call 127;(with_reducible refine (name_any N W s j d _ (I1.out.bY.kept ((Kept.refl aF EF).drew) (fun h=>h) (fun h=>h)) hj.1 hs).mono ?_);rintro e w2 ⟨k_,h⟩;rw [HN.out] at h;obtain ⟨_,rfl,rfl,R2⟩:=h;have I2:=ah (I1.out.next hN ((Kept.refl (· = N) EF).drew.trans k_) R2);clear k_ R2;obtain ⟨c0,c1,c2,c3,c4,cf⟩:=I2.out.five.cells;have f0:=cf 0;have f1:=cf 1;have f2:=cf 2;have f3:=cf 3;have f4:=cf 4;have Zl:w.heap.size+1<w2.heap.size:=I2.out.five.lt;clear cf)
       | (go_at_call 127;(with_reducible refine (name_any N W s j d _ (I1.out.bY.kept (((Kept.refl aF EF).alloc _).drew) (fun h=>h) (fun h=>h)) hj.1 hs).mono ?_);rintro e w2 ⟨k_,h⟩;rw [HN.out] at h;obtain ⟨_,rfl,rfl,R2⟩:=h;have I2:=ah (I1.out.next hN (((Kept.refl (· = N) EF).alloc _).drew.trans k_) R2);have G2:Hid (Five EF.heap.size (.int .i64 p.kind) (.string p.text) (.int .i64 p.n) (.string p.name) (.slice ka p.kids.length cap) w2):=Five.kept (ay EF _) ((Kept.refl (· = N) _).drew.trans k_) (by omega);clear k_ R2;obtain ⟨c0,c1,c2,c3,c4,cf⟩:=I2.out.five.cells;have f0:=cf 0;have f1:=cf 1;have f2:=cf 2;have f3:=cf 3;have f4:=cf 4;have Zl:w.heap.size+1<w2.heap.size:=I2.out.five.lt;clear cf))
      all_goals
       go_wp2_with fail
       clear c0 c1 c2 c3 c4 f0 f1 f2 f3 f4
       go_roundg f
       case measure=>exact hfl
       case rel=>first
       | exact ⟨_,k2,_,_,by omega,hk2.2,Jg (box:=.cells #[.int .i64 p.kind,.string p.text,.int .i64 p.n,.string p.name,.slice ka p.kids.length cap] 27) rfl hN hW hnl I2.out 22,HE⟩
       | exact ⟨_,k2,_,_,by omega,hk2.2,Ji hN hW hnl TR I2.out G2.out 22,HE⟩
    | false =>
     rw [if_neg (by simp [hb])] at E1
     have I2:=ah (I0b.out.next hN K1 R1)
     have HE:=ah E1
     generalize (fG 36 s kk).2=j at *
     clear I1 I0b R1 K1 hb E1 E2
     obtain ⟨p0',p1',p2',p3',Nl,_⟩:=I2.out.five.cells
     obtain ⟨c0,c1,c2,c3,c4,cf⟩:=Five.cells I2.out.zero
     have f0:=cf 0;have f1:=cf 1;have f2:=cf 2;have f3:=cf 3;have f4:=cf 4;clear cf
     obtain ⟨S,hS1,hS2⟩:=I2.out.mem
     have HS1:=ah hS1;have HS2:=ah hS2
     clear hS1 hS2
     go_wp2_with fail
     exact jI (p:=p) (S:=S) rfl rfl I2.out.zero I2.out.bY I2.out.kept (Nat.le_refl _) hN hW HE.out I2.out.sz (fun b hb=>by have:=HS2.out b hb;omega) HS1.out
end Go.Proofs.YtefjbnhpjdhjmaaGreatDoor
