/-  -/
import Derived.Test.YtgoijmpahffnhaaGreatDoorLc23
import Derived.Deep.RegionWith
import Derived.RegionDies
namespace Go.Proofs.YtgoijmpahffnhaaGreatDoor
set_option linter.all false
open Go.RowKit
set_option maxRecDepth 100000
set_option maxHeartbeats 4000000
def uQ (M:Nat) (w:World):Prop:=Five M (.int .i64 0) (.string ⟨#[]⟩) (.int .i64 0) (.string ⟨#[]⟩) (.slice none 0 0) w
structure wE (N W:Nat) (s:aj) (d:Nat) (w:World) (p:aA) (k:Nat) (ka:Option Addr) (cap:Nat) (wx:World):Prop where
 bf:dw N W s k d wx
 five:Five (w.heap.size+1) (.int .i64 p.kind) (.string p.text) (.int .i64 p.n) (.string p.name) (.slice ka p.kids.length cap) wx
 mem:∃S:Nat→Prop,aI wx S ka p.kids∧∀b,S b→w.heap.size+1<b∧b<wx.heap.size
 sz:p.text.size<1000000000∧p.name.size<1000000000∧p.kids.length<1000000000
 zero:uQ w.heap.size wx
 kept:Kept (· = N) w wx
theorem aaZ {c:Nat} {s:aj} {i:Nat} (h:(fV c s i).1=true):(fV c s i).2=skip s i+1∧skip s i<s.size:=by
 unfold fV at h⊢;split at h
 ·rename_i hp;rw [if_pos hp];exact ⟨rfl,oz (by omega)⟩
 ·cases h
theorem afs {c:Nat} {s:aj} {i:Nat} (h:(fV c s i).1=false):(fV c s i).2=skip s i:=by
 unfold fV at h⊢;split at h
 ·cases h
 ·rename_i hp;rw [if_neg hp]
theorem jR {c:Nat} {s:aj} {i:Nat} (hi:i≤s.size):(fV c s i).2≤s.size∧i≤(fV c s i).2:=by
 have h1:=pW s i;have h2:=cO hi
 cases h:(fV c s i).1 with
 | true=>have:=aaZ h;omega
 | false=>have:=afs h;omega
theorem Pe {c:Nat} {s:aj} {i:Nat} (h:(fV c s i).1=true):i<(fV c s i).2:=by
 have h1:=pW s i;have:=aaZ h;omega
def Pg (N W:Nat) (s:aj) (d:Nat) (w:World) (r:cu aA) (wx:World):Prop:=∃p k ka cap,r=.ok (p,k)∧k≤s.size∧wE N W s d w p k ka cap wx
theorem Ij {N W:Nat} {s:aj} {d:Nat} {w w1 w2:World} {p:aA} {k:Nat} {ka:Option Addr} {cap:Nat} {S:Nat→Prop} {z0 z1 z2 z3 z4:Value}
  (hN:N<w.heap.size) (hW:W<w.heap.size) (h1:w.heap.size+1<w1.heap.size) (R:dw N W s k d w2) (F:Five (w.heap.size+1) z0 z1 z2 z3 z4 w2) (Z:uQ w.heap.size w2) (K:Kept (· = N) w w2)
  (hz:p.text.size<1000000000∧p.name.size<1000000000∧p.kids.length<1000000000) (hS:∀b,S b→w1.heap.size≤b∧b<w2.heap.size) (hk:aI w2 S ka p.kids) :
  wE N W s d w p k ka cap (aZ w2 (w.heap.size+1) (.int .i64 p.kind) (.string p.text) (.int .i64 p.n) (.string p.name) (.slice ka p.kids.length cap)):=by
 have K5:Kept (· = w.heap.size+1) w2 (aZ w2 (w.heap.size+1) (.int .i64 p.kind) (.string p.text) (.int .i64 p.n) (.string p.name) (.slice ka p.kids.length cap)):=(Kept.refl (· = w.heap.size+1) w2).aZ (.inl rfl) _ _ _ _ _
 refine ⟨R.kept K5 (by omega) (by omega),F.aZ _ _ _ _ _,⟨S,hk.kept K5 (fun b hb=>⟨(hS b hb).2,by have:=hS b hb;omega⟩),fun b hb=>⟨by have:=hS b hb;omega,Nat.lt_of_lt_of_le (hS b hb).2 K5.size⟩⟩,hz,Five.kept Z K5 (by omega),K.step K5 (fun y hy=>.inr (by omega))⟩
theorem wE.next {N W:Nat} {s:aj} {d:Nat} {w wx w':World} {p:aA} {k k':Nat} {ka:Option Addr} {cap:Nat} (h:wE N W s d w p k ka cap wx) (hN:N<w.heap.size) (hk:Kept (· = N) wx w') (hr:dw N W s k' d w'):wE N W s d w p k' ka cap w':=by
 obtain ⟨S,h1,h2⟩:=h.mem
 exact ⟨hr,h.five.kept hk (by omega),⟨S,h1.kept hk (fun b hb=>⟨(h2 b hb).2,by have:=h2 b hb;omega⟩),fun b hb=>⟨(h2 b hb).1,Nat.lt_of_lt_of_le (h2 b hb).2 hk.size⟩⟩,h.sz,Five.kept h.zero hk (by omega),h.kept.trans hk⟩
theorem Ik {N W:Nat} {s:aj} {d:Nat} {w w2:World} {p:aA} {k:Nat} {ka:Option Addr} {cap:Nat} {nm:aj} {box:Obj} (hbox:box=.cells #[.int .i64 p.kind,.string p.text,.int .i64 p.n,.string p.name,.slice ka p.kids.length cap] 57)
  (hN:N<w.heap.size) (hW:W<w.heap.size) (hnm:nm.size<1000000000) (I:wE N W s d w p k ka cap w2) (kd:Int) :
  wE N W s d w (.mk kd E0 0 nm [p]) k (some ⟨w2.heap.size,0,none⟩) 1 ((aZ w2 (w.heap.size+1) (.int .i64 kd) (.string E0) (.int .i64 0) (.string nm) (.slice (some ⟨w2.heap.size,0,none⟩) 1 1)).alloc box):=by
 subst hbox
 have hP:=I.five.lt
 obtain ⟨S,h1,h2⟩:=I.mem
 have V:kP w2 S (.agg #[.int .i64 p.kind,.string p.text,.int .i64 p.n,.string p.name,.slice ka p.kids.length cap]) p:=⟨ka,cap,rfl,I.sz,h1⟩
 obtain ⟨cc,hcc,hb⟩:=V.box 57 (fun b hb=>(h2 b hb).2)
 simp only [Value.agg.injEq] at hcc
 subst hcc
 have k5:Kept (· = w.heap.size+1) w2 (aZ w2 (w.heap.size+1) (.int .i64 kd) (.string E0) (.int .i64 0) (.string nm) (.slice (some ⟨w2.heap.size,0,none⟩) 1 1)):=(Kept.refl (· = w.heap.size+1) w2).aZ (.inl rfl) _ _ _ _ _
 have K:=Il (.cells #[.int .i64 p.kind,.string p.text,.int .i64 p.n,.string p.name,.slice ka p.kids.length cap] 57) k5 (uq _ _ _ _ _ _ _)
 have kA:Kept aB w2 (w2.alloc (.cells #[.int .i64 p.kind,.string p.text,.int .i64 p.n,.string p.name,.slice ka p.kids.length cap] 57)):=(Kept.refl _ _).alloc _
 have hz:=kA.size
 refine ⟨(I.bf.kept kA (fun h=>h) (fun h=>h)).kept K (by omega) (by omega),(I.five.aZ _ _ _ _ _).kept ((Kept.refl aB _).alloc _) (fun h=>h),⟨fun b=>S b∨b=w2.heap.size,(BF hb).kept K (fun b hb=>?_),fun b hb=>?_⟩,⟨iG,hnm,Jy p⟩,Five.kept (Five.kept I.zero kA (fun h=>h)) K (by omega),(I.kept.quiet kA).step K (fun y hy=>.inr (by omega))⟩
 ·rcases hb with hb|rfl
  ·have:=h2 b hb;simp;omega
  ·simp;omega
 ·have:=K.size
  rcases hb with hb|rfl
  ·have:=h2 b hb;simp [uq];omega
  ·simp [uq];omega
theorem Io {N W:Nat} {s:aj} {d:Nat} {w w1 w2:World} {p:aA} {k:Nat} {ka:Option Addr} {cap:Nat} {nm:aj}
  (hN:N<w.heap.size) (hW:W<w.heap.size) (hnm:nm.size<1000000000) (h1:w.heap.size+1<w1.heap.size) (I:wE N W s d w p k ka cap w2)
  (G:Five w1.heap.size (.int .i64 p.kind) (.string p.text) (.int .i64 p.n) (.string p.name) (.slice ka p.kids.length cap) w2) (kd:Int) :
  wE N W s d w (.mk kd E0 0 nm [p]) k (some ⟨w1.heap.size,0,none⟩) 1 (aZ w2 (w.heap.size+1) (.int .i64 kd) (.string E0) (.int .i64 0) (.string nm) (.slice (some ⟨w1.heap.size,0,none⟩) 1 1)):=by
 obtain ⟨S,hs1,h2⟩:=I.mem
 have hG:=G.lt
 have hb:aW w2 (fun b=>S b∨b=w1.heap.size) w1.heap.size 0 p:=by
  obtain ⟨g0,g1,g2,g3,g4,_⟩:=G.cells
  obtain ⟨kk,t,n,nm',kids⟩:=p
  unfold aW
  exact ⟨.inr rfl,I.sz,g0,g1,g2,g3,ka,cap,g4,aI.same (fun _ _=>rfl) (fun b h=>.inl h) _ _ hs1⟩
 have K:Kept (· = w.heap.size+1) w2 (aZ w2 (w.heap.size+1) (.int .i64 kd) (.string E0) (.int .i64 0) (.string nm) (.slice (some ⟨w1.heap.size,0,none⟩) 1 1)):=(Kept.refl (· = w.heap.size+1) w2).aZ (.inl rfl) _ _ _ _ _
 refine ⟨I.bf.kept K (by omega) (by omega),I.five.aZ _ _ _ _ _,⟨fun b=>S b∨b=w1.heap.size,(BF hb).kept K (fun b hb=>?_),fun b hb=>?_⟩,⟨iG,hnm,Jy p⟩,Five.kept I.zero K (by omega),I.kept.step K (fun y hy=>.inr (by omega))⟩
 ·rcases hb with hb|rfl
  ·have:=h2 b hb;omega
  ·omega
 ·rw [uq]
  rcases hb with hb|rfl
  ·exact h2 b hb
  ·omega
theorem Ph {s:aj} {k k':Nat} {kd:Int} {p:aA} (h:bP s k kd=.ok (p,k')):k<k'∧k'≤s.size:=by
 unfold bP at h
 cases h1:bT 40 s k with
 | error e=>rw [h1] at h;cases h
 | ok k1 =>
  rw [h1] at h;dsimp only at h
  cases h2:gY s k1 with
  | error e=>rw [h2] at h;cases h
  | ok y =>
   obtain ⟨⟨t,a⟩,k2⟩:=y
   rw [h2] at h;dsimp only at h
   split at h
   ·cases h
   ·cases h3:bT 41 s k2 with
    | error e=>rw [h3] at h;cases h
    | ok k3 =>
     rw [h3] at h;simp only [Except.ok.injEq,Prod.mk.injEq] at h;obtain ⟨_,rfl⟩:=h
     have:=fC h1;have:=jT h2;have:=fC h3;omega
theorem Qq {s:aj} {k k':Nat} {kd:Int} {p:aA} (h:dV s k kd=.ok (p,k')):k<k'∧k'≤s.size:=by
 unfold dV at h
 cases h1:bT 40 s k with
 | error e=>rw [h1] at h;cases h
 | ok k1 =>
  rw [h1] at h;dsimp only at h
  have a1:=fC h1
  cases h2:kR s k1 with
  | error e=>rw [h2] at h;cases h
  | ok y =>
   obtain ⟨n,k2⟩:=y
   rw [h2] at h;dsimp only at h
   cases h3:bT 41 s k2 with
   | error e=>rw [h3] at h;cases h
   | ok k3 =>
    rw [h3] at h;simp only [Except.ok.injEq,Prod.mk.injEq] at h;obtain ⟨_,rfl⟩:=h
    have:=xW a1.2.1 h2;have:=fC h3;omega
theorem Qr {inner:Nat→cu aA} {s:aj} (hf:cZ s inner) {k k':Nat} {kd:Int} {p:aA} (h:pV inner s k kd=.ok (p,k')):k<k'∧k'≤s.size:=by
 unfold pV at h
 cases h1:bT 40 s k with
 | error e=>rw [h1] at h;cases h
 | ok k1 =>
  rw [h1] at h;dsimp only at h
  have a1:=fC h1
  cases h2:inner k1 with
  | error e=>rw [h2] at h;cases h
  | ok y =>
   obtain ⟨n,k2⟩:=y
   rw [h2] at h;dsimp only at h
   cases h3:bT 41 s k2 with
   | error e=>rw [h3] at h;cases h
   | ok k3 =>
    rw [h3] at h;simp only [Except.ok.injEq,Prod.mk.injEq] at h;obtain ⟨_,rfl⟩:=h
    have:=hf _ _ _ a1.2.1 h2;have:=fC h3;omega
theorem XB {s:aj} {j k:Nat} {kd:Int} {p:aA} (hj:j≤s.size) (h:yL s j kd=.ok (p,k)):j<k∧k≤s.size:=by
 unfold yL at h
 cases h1:nameP s j with
 | error e=>rw [h1] at h;cases h
 | ok y =>
  obtain ⟨nm,k1⟩:=y
  rw [h1] at h;simp only [Except.ok.injEq,Prod.mk.injEq] at h;obtain ⟨_,rfl⟩:=h
  exact qR hj h1
theorem zI {inner:Nat→cu aA} {s:aj} (hf:cZ s inner) {i k:Nat} {p:aA} (hi:i≤s.size) (h:aF inner s i=.ok (p,k)):i<k∧k≤s.size:=by
 have h1:=pW s i;have h2:=cO hi
 unfold aF at h
 split at h
 ·unfold Fv at h
  cases h1:gY s (skip s i) with
  | error e=>rw [h1] at h;cases h
  | ok y =>
   obtain ⟨⟨t,a⟩,k1⟩:=y
   rw [h1] at h;simp only [Except.ok.injEq,Prod.mk.injEq] at h;obtain ⟨_,rfl⟩:=h
   have:=jT h1;omega
 ·split at h
  ·rename_i hp
   have:skip s i<s.size:=oz (by omega)
   have:=XB (by omega) h;omega
  ·split at h
   ·rename_i hp
    have:skip s i<s.size:=oz (by omega)
    have:=XB (by omega) h;omega
   ·unfold kW at h
    cases h1:fQ s (skip s i) with
    | error e=>rw [h1] at h;cases h
    | ok y =>
     obtain ⟨⟨x,a⟩,k1⟩:=y
     rw [h1] at h;dsimp only at h
     have a1:=iP h2 h1
     unfold lS at h
     split at h
     ·cases h
     ·split at h
      ·have:=Ph h;omega
      ·split at h
       ·have:=Qq h;omega
       ·split at h
        ·have:=Qr hf h;omega
        ·simp only [Except.ok.injEq,Prod.mk.injEq] at h;obtain ⟨_,rfl⟩:=h;omega
theorem Fz {inner:Nat→cu aA} {s:aj} (hf:cZ s inner) {i k:Nat} {p:aA} (hi:i≤s.size) (h:mQ inner s i=.ok (p,k)):i<k∧k≤s.size:=by
 have a0:=jR (c:=40) hi
 unfold mQ at h
 split at h
 ·cases h1:inner (fV 40 s i).2 with
  | error e=>rw [h1] at h;cases h
  | ok y =>
   obtain ⟨q,k1⟩:=y
   rw [h1] at h;dsimp only at h
   cases h3:bT 41 s k1 with
   | error e=>rw [h3] at h;cases h
   | ok k3 =>
    rw [h3] at h;simp only [Except.ok.injEq,Prod.mk.injEq] at h;obtain ⟨_,rfl⟩:=h
    have:=hf _ _ _ a0.1 h1;have:=fC h3;omega
 ·have:=zI hf a0.1 h;omega
theorem ZX (N W:Nat) (s:aj) (i d:Nat) (w:World) (inner:Nat→cu aA) (hin:vS N W s d inner) (hfw:cZ s inner) (hr:dw N W s i d w) (hi:i≤s.size) (hs6:s.size≤65536) :
  Calls Tryz.prog 262 #[.pointer (some ⟨N,0,none⟩)] w (bC N W s d (iY inner s i) (fB w.heap.size) w):=by
 have HR:=ah hr;have wF:=ah hin;have JZ:=ah hfw
 have hN:=hr.lt;have hW:=hr.qO;clear hr hin hfw
 have hs:s.size≤1000000000:=by omega
 go_enter Tryz.func262, Tryz.ntmps262
 go_wp2_with fail
 refine (DW 40 N W (by decide) s i d _ (HR.out.kept (((Kept.refl aB w).alloc _).alloc _) (fun h=>h) (fun h=>h)) hi hs).mono ?_
 rintro e w1 ⟨rfl,R1,K1⟩
 have F1:Hid (Five (w.heap.size+1) (.int .i64 0) (.string ⟨#[]⟩) (.int .i64 0) (.string ⟨#[]⟩) (.slice none 0 0) w1):=Five.kept (dX (by simp)) K1 (by omega)
 have Z1:Hid (uQ w.heap.size w1):=Five.kept (Five.kept (ay w _) ((Kept.refl aB _).alloc _) (fun h=>h)) K1 (by omega)
 have iL:Hid (Kept (· = N) w w1):=(((Kept.refl _ w).alloc _).alloc _).trans K1
 have hw1:w.heap.size+1<w1.heap.size:=F1.out.lt
 have jP:=ah R1
 have hj:=(jR (c:=40) hi).1
 clear R1 K1
 go_upto_if 6 with fail
 go_cut [] (fun wx=>Pg N W s d w (mQ inner s i) wx)
 case first =>
  cases hb:(fV 40 s i).1 with
  | true =>
   go_wp2_with fail
   refine (wF.out _ _ jP.out hj).mono ?_
   rintro e w2 ⟨k_,h⟩
   have F2:=ah (F1.out.kept k_ (by omega));have Z2:=ah (Five.kept Z1.out k_ (by omega));have K2:=ah (iL.out.trans k_)
   clear k_
   cases ht:inner (fV 40 s i).2 with
   | error er =>
    rw [ht] at h
    obtain rfl:=h
    have hr:Hid (iY inner s i=.error er):=by unfold Hid iY mQ;rw [if_pos hb,ht]
    clear ht
    go_wp2_with fail
    exact aV rfl hr.out K2.out
   | ok y =>
    obtain ⟨p,k⟩:=y
    rw [ht] at h
    obtain ⟨_,rfl,⟨S,hS,⟨ka,cap,rfl,hz,hk⟩⟩,R2⟩:=h
    have hst:=ah (Ij (cap:=cap) hN hW hw1 R2 F2.out Z2.out K2.out hz hS hk)
    obtain ⟨c0,c1,c2,c3,c4,cf⟩:=F2.out.cells
    have f0:=cf 0;have f1:=cf 1;have f2:=cf 2;have f3:=cf 3;have f4:=cf 4;clear cf
    have hk2:k≤s.size:=(JZ.out _ _ _ hj ht).2
    have HT:=ah ht;clear ht R2 hz hS hk
    go_wp2_with fail
    refine (eX 41 N W (by decide) s k d _ hst.out.bf hk2 hs).mono ?_
    rintro e w3 ⟨k_,h⟩
    cases hn:bT 41 s k with
    | error er =>
     rw [hn] at h
     obtain rfl:=h
     have hr:Hid (iY inner s i=.error er):=by unfold Hid iY mQ;rw [if_pos hb,HT.out];dsimp only;rw [hn]
     have KK:=ah (hst.out.kept.trans k_)
     clear hn k_
     go_wp2_with fail
     exact aV rfl hr.out KK.out
    | ok k1 =>
     rw [hn] at h
     obtain ⟨rfl,R3⟩:=h
     have fin:Hid (Pg N W s d w (mQ inner s i) w3):=⟨p,k1,ka,cap,by unfold mQ;rw [if_pos hb,HT.out];dsimp only;rw [hn],(fC hn).2.1,hst.out.next hN k_ R3⟩
     clear hn k_ R3 c0 c1 c2 c3 c4 f0 f1 f2 f3 f4
     go_wp2_with fail
     go_meet
     exact fin.out
  | false =>
   go_wp2_with fail
   refine (Qs N W s _ d _ inner wF.out JZ.out jP.out hj hs6).mono ?_
   rintro e w2 ⟨k_,h⟩
   have F2:=ah (F1.out.kept k_ (by omega));have Z2:=ah (Five.kept Z1.out k_ (by omega));have K2:=ah (iL.out.trans k_)
   clear k_
   cases ht:aF inner s (fV 40 s i).2 with
   | error er =>
    rw [ht] at h
    obtain rfl:=h
    have hr:Hid (iY inner s i=.error er):=by unfold Hid iY mQ;rw [if_neg (by simp [hb]),ht]
    clear ht
    go_wp2_with fail
    exact aV rfl hr.out K2.out
   | ok y =>
    obtain ⟨p,k⟩:=y
    rw [ht] at h
    obtain ⟨_,rfl,⟨S,hS,⟨ka,cap,rfl,hz,hk⟩⟩,R2⟩:=h
    have hst:=ah (Ij (cap:=cap) hN hW hw1 R2 F2.out Z2.out K2.out hz hS hk)
    obtain ⟨c0,c1,c2,c3,c4,cf⟩:=F2.out.cells
    have f0:=cf 0;have f1:=cf 1;have f2:=cf 2;have f3:=cf 3;have f4:=cf 4;clear cf
    have fin:Hid (Pg N W s d w (mQ inner s i) (aZ w2 (w.heap.size+1) (.int .i64 p.kind) (.string p.text) (.int .i64 p.n) (.string p.name) (.slice ka p.kids.length cap))) :=
     ⟨p,k,ka,cap,by unfold mQ;rw [if_neg (by simp [hb]),ht],(zI JZ.out hj ht).2,hst.out⟩
    clear ht R2 hz hS hk
    go_wp2_with fail
    go_meet
    exact fin.out
 case rest =>
  obtain ⟨p0,k0,ka0,cap0,e0,hk0,I0⟩:=hcut
  have II0:=ah I0
  have E0':Hid (iY inner s i=mP s (s.size+1-k0) p0 k0):=by unfold Hid iY;rw [e0]
  clear e0 I0 F1 Z1 iL jP HR
  go_wp2_with fail
  go_loopg [] (s.size+1-k0) (fun f wr=>∃(p:aA) (k:Nat) (ka:Option Addr) (cap:Nat),s.size+1-k≤f∧k≤s.size∧Hid (wE N W s d w p k ka cap wr)∧Hid (iY inner s i=mP s f p k))
  case atStart=>exact ⟨p0,k0,ka0,cap0,Nat.le_refl _,hk0,II0,E0'⟩
  case round =>
   obtain ⟨p,k,ka,cap,hf,hk,I,E⟩:=hrel
   obtain ⟨f,hgk⟩:∃f,gk=f+1:=⟨gk-1,by omega⟩
   have E1:=E.out
   rw [hgk,mP] at E1
   have hf2:s.size-k≤f:=by omega
   have hfl:f<gk:=by omega
   have EE:=ah E1
   clear hgk hf E II0 E0' hk0 E1
   go_wp2_with fail
   refine (DW 46 N W (by decide) s k d _ I.out.bf hk hs).mono ?_
   rintro e w1 ⟨rfl,R1,K1⟩
   have E1:=EE.out;clear EE
   have hj:=jR (c:=46) hk
   cases hb:(fV 46 s k).1 with
   | true =>
    rw [if_pos hb] at E1
    have I1:=ah (I.out.next hN K1 R1)
    have hlt1:=Pe hb
    generalize (fV 46 s k).2=j at *
    clear I R1 K1 hb
    obtain ⟨c0,c1,c2,c3,c4,cf⟩:=I1.out.five.cells
    have f0:=cf 0;have f1:=cf 1;have f2:=cf 2;have f3:=cf 3;have f4:=cf 4;clear cf
    have Uw:w.heap.size+1<w1.heap.size:=I1.out.five.lt
    cases hn:nameP s j with
    | error er =>
     rw [hn] at E1
     have HE:=ah E1
     have HN:=ah hn
     clear E1 hn
     go_wp2_with fail
     go_region_dies
     all_goals first
      | ((with_reducible refine (name_any N W s j d _ (I1.out.bf.kept ((Kept.refl aB w1).drew) (fun h=>h) (fun h=>h)) hj.1 hs).mono ?_);rintro e w2 ⟨k_,h⟩;rw [HN.out] at h;obtain rfl:=h;exact aV rfl HE.out (I1.out.kept.trans ((Kept.refl (· = N) w1).drew.trans k_)))
      | ((with_reducible refine (name_any N W s j d _ (I1.out.bf.kept (((Kept.refl aB w1).alloc _).drew) (fun h=>h) (fun h=>h)) hj.1 hs).mono ?_);rintro e w2 ⟨k_,h⟩;rw [HN.out] at h;obtain rfl:=h;exact aV rfl HE.out (I1.out.kept.trans (((Kept.refl (· = N) w1).alloc _).drew.trans k_)))
    | ok y =>
     obtain ⟨nm,k2⟩:=y
     rw [hn] at E1
     have HE:=ah E1
     have HN:=ah hn
     have hk2:=qR hj.1 hn
     have hnl:=En hj.1 hn
     clear E1 hn
     go_wp2_with fail
     go_region_with (first
      | (go_at_call 285;(with_reducible refine (name_any N W s j d _ (I1.out.bf.kept ((Kept.refl aB w1).drew) (fun h=>h) (fun h=>h)) hj.1 hs).mono ?_);rintro e w2 ⟨k_,h⟩;rw [HN.out] at h;obtain ⟨_,rfl,rfl,R2⟩:=h;have I2:=ah (I1.out.next hN ((Kept.refl (· = N) w1).drew.trans k_) R2);clear k_ R2;obtain ⟨c0,c1,c2,c3,c4,cf⟩:=I2.out.five.cells;have f0:=cf 0;have f1:=cf 1;have f2:=cf 2;have f3:=cf 3;have f4:=cf 4;have ZY:w.heap.size+1<w2.heap.size:=I2.out.five.lt;clear cf)
      | (go_at_call 285;(with_reducible refine (name_any N W s j d _ (I1.out.bf.kept (((Kept.refl aB w1).alloc _).drew) (fun h=>h) (fun h=>h)) hj.1 hs).mono ?_);rintro e w2 ⟨k_,h⟩;rw [HN.out] at h;obtain ⟨_,rfl,rfl,R2⟩:=h;have I2:=ah (I1.out.next hN (((Kept.refl (· = N) w1).alloc _).drew.trans k_) R2);have G2:Hid (Five w1.heap.size (.int .i64 p.kind) (.string p.text) (.int .i64 p.n) (.string p.name) (.slice ka p.kids.length cap) w2):=Five.kept (ay w1 _) ((Kept.refl (· = N) _).drew.trans k_) (by omega);clear k_ R2;obtain ⟨c0,c1,c2,c3,c4,cf⟩:=I2.out.five.cells;have f0:=cf 0;have f1:=cf 1;have f2:=cf 2;have f3:=cf 3;have f4:=cf 4;have ZY:w.heap.size+1<w2.heap.size:=I2.out.five.lt;clear cf))
     all_goals
      go_wp2_with fail
      clear c0 c1 c2 c3 c4 f0 f1 f2 f3 f4
      go_roundg f
      case measure=>exact hfl
      case rel=>first
       | exact ⟨_,k2,_,_,by omega,hk2.2,Ik (box:=.cells #[.int .i64 p.kind,.string p.text,.int .i64 p.n,.string p.name,.slice ka p.kids.length cap] 57) rfl hN hW hnl I2.out 21,HE⟩
       | exact ⟨_,k2,_,_,by omega,hk2.2,Io hN hW hnl Uw I2.out G2.out 21,HE⟩
   | false =>
    rw [if_neg (by simp [hb])] at E1
    have I1:=ah (I.out.next hN K1 R1)
    have hkj:=jR (c:=46) hk
    have E2:=ah E1
    clear I R1 K1 hb E1
    go_wp2_with fail
    refine (DW 36 N W (by decide) s _ d _ I1.out.bf hkj.1 hs).mono ?_
    rintro e DX ⟨rfl,R1,K1⟩
    generalize (fV 46 s k).2=kk at *
    have hj:=jR (c:=36) hkj.1
    have E1:=E2.out
    have I0b:=I1
    cases hb:(fV 36 s kk).1 with
    | true =>
     rw [if_pos hb] at E1
     have I1:=ah (I0b.out.next hN K1 R1)
     have hlt1:=Pe hb
     generalize (fV 36 s kk).2=j at *
     clear I0b E2 R1 K1 hb
     obtain ⟨c0,c1,c2,c3,c4,cf⟩:=I1.out.five.cells
     have f0:=cf 0;have f1:=cf 1;have f2:=cf 2;have f3:=cf 3;have f4:=cf 4;clear cf
     have Uw:w.heap.size+1<DX.heap.size:=I1.out.five.lt
     cases hn:nameP s j with
     | error er =>
      rw [hn] at E1
      have HE:=ah E1
      have HN:=ah hn
      clear E1 hn
      go_wp2_with fail
      go_region_dies
      all_goals first
       | ((with_reducible refine (name_any N W s j d _ (I1.out.bf.kept ((Kept.refl aB DX).drew) (fun h=>h) (fun h=>h)) hj.1 hs).mono ?_);rintro e w2 ⟨k_,h⟩;rw [HN.out] at h;obtain rfl:=h;exact aV rfl HE.out (I1.out.kept.trans ((Kept.refl (· = N) DX).drew.trans k_)))
       | ((with_reducible refine (name_any N W s j d _ (I1.out.bf.kept (((Kept.refl aB DX).alloc _).drew) (fun h=>h) (fun h=>h)) hj.1 hs).mono ?_);rintro e w2 ⟨k_,h⟩;rw [HN.out] at h;obtain rfl:=h;exact aV rfl HE.out (I1.out.kept.trans (((Kept.refl (· = N) DX).alloc _).drew.trans k_)))
     | ok y =>
      obtain ⟨nm,k2⟩:=y
      rw [hn] at E1
      have HE:=ah E1
      have HN:=ah hn
      have hk2:=qR hj.1 hn
      have hnl:=En hj.1 hn
      clear E1 hn
      go_wp2_with fail
      go_region_with (first
       | (go_at_call 285;(with_reducible refine (name_any N W s j d _ (I1.out.bf.kept ((Kept.refl aB DX).drew) (fun h=>h) (fun h=>h)) hj.1 hs).mono ?_);rintro e w2 ⟨k_,h⟩;rw [HN.out] at h;obtain ⟨_,rfl,rfl,R2⟩:=h;have I2:=ah (I1.out.next hN ((Kept.refl (· = N) DX).drew.trans k_) R2);clear k_ R2;obtain ⟨c0,c1,c2,c3,c4,cf⟩:=I2.out.five.cells;have f0:=cf 0;have f1:=cf 1;have f2:=cf 2;have f3:=cf 3;have f4:=cf 4;have ZY:w.heap.size+1<w2.heap.size:=I2.out.five.lt;clear cf)
       | (go_at_call 285;(with_reducible refine (name_any N W s j d _ (I1.out.bf.kept (((Kept.refl aB DX).alloc _).drew) (fun h=>h) (fun h=>h)) hj.1 hs).mono ?_);rintro e w2 ⟨k_,h⟩;rw [HN.out] at h;obtain ⟨_,rfl,rfl,R2⟩:=h;have I2:=ah (I1.out.next hN (((Kept.refl (· = N) DX).alloc _).drew.trans k_) R2);have G2:Hid (Five DX.heap.size (.int .i64 p.kind) (.string p.text) (.int .i64 p.n) (.string p.name) (.slice ka p.kids.length cap) w2):=Five.kept (ay DX _) ((Kept.refl (· = N) _).drew.trans k_) (by omega);clear k_ R2;obtain ⟨c0,c1,c2,c3,c4,cf⟩:=I2.out.five.cells;have f0:=cf 0;have f1:=cf 1;have f2:=cf 2;have f3:=cf 3;have f4:=cf 4;have ZY:w.heap.size+1<w2.heap.size:=I2.out.five.lt;clear cf))
      all_goals
       go_wp2_with fail
       clear c0 c1 c2 c3 c4 f0 f1 f2 f3 f4
       go_roundg f
       case measure=>exact hfl
       case rel=>first
       | exact ⟨_,k2,_,_,by omega,hk2.2,Ik (box:=.cells #[.int .i64 p.kind,.string p.text,.int .i64 p.n,.string p.name,.slice ka p.kids.length cap] 57) rfl hN hW hnl I2.out 22,HE⟩
       | exact ⟨_,k2,_,_,by omega,hk2.2,Io hN hW hnl Uw I2.out G2.out 22,HE⟩
    | false =>
     rw [if_neg (by simp [hb])] at E1
     have I2:=ah (I0b.out.next hN K1 R1)
     have HE:=ah E1
     generalize (fV 36 s kk).2=j at *
     clear I1 I0b R1 K1 hb E1 E2
     obtain ⟨p0',p1',p2',p3',p4',_⟩:=I2.out.five.cells
     obtain ⟨c0,c1,c2,c3,c4,cf⟩:=Five.cells I2.out.zero
     have f0:=cf 0;have f1:=cf 1;have f2:=cf 2;have f3:=cf 3;have f4:=cf 4;clear cf
     obtain ⟨S,hS1,hS2⟩:=I2.out.mem
     have J3:=ah hS1;have HS2:=ah hS2
     clear hS1 hS2
     go_wp2_with fail
     exact iE (p:=p) (S:=S) rfl rfl I2.out.zero I2.out.bf I2.out.kept (Nat.le_refl _) hN hW HE.out I2.out.sz (fun b hb=>by have:=HS2.out b hb;omega) J3.out
end Go.Proofs.YtgoijmpahffnhaaGreatDoor
