/-  -/
import Derived.Test.YtgoijmpahffnhaaGreatDoorLc2
namespace Go.Proofs.YtgoijmpahffnhaaGreatDoor
set_option linter.all false
open Go.RowKit
set_option maxRecDepth 100000
set_option maxHeartbeats 4000000
theorem UE (N W:Nat) (s:aj) (i d:Nat) (w:World) (inner:Nat→cu aA) (hr:dw N W s i d w) (hi:i≤s.size) (hs6:s.size≤65536) (dA:peek s (skip s i)≠39) (h64:peek s (skip s i)≠64) (h42:peek s (skip s i)≠42) (x:aj) (a k:Nat) (ht:fQ s (skip s i)=.ok ((x,a),k)) (hkd:kindOf x=3) :
  Calls Tryz.prog 284 #[.pointer (some ⟨N,0,none⟩)] w (bC N W s d (aF inner s i) (fB w.heap.size) w):=by
 have e0:Hid (aF inner s i=kW inner s (skip s i)):=by unfold Hid aF;rw [if_neg dA,if_neg h64,if_neg h42]
 have HR:=ah hr
 have hN:=hr.lt;have hW:=hr.qO;clear hr
 have hle:=cO hi
 have hs:s.size≤1000000000:=by omega
 go_enter Tryz.func284, Tryz.ntmps284
 go_wp2_with fail
 refine (next_any N W s i d _ (HR.out.kept ((Kept.refl aB w).alloc _) (fun h=>h) (fun h=>h)) hi hs).mono ?_
 rintro e w1 ⟨rfl,R1,K1⟩
 have b1:(peek s (skip s i)==39)=false:=by simpa using dA
 have b2:(peek s (skip s i)==64)=false:=by simpa using h64
 have b3:(peek s (skip s i)==42)=false:=by simpa using h42
 have F1:Hid (Five w.heap.size (.int .i64 0) (.string ⟨#[]⟩) (.int .i64 0) (.string ⟨#[]⟩) (.slice none 0 0) w1):=Five.kept (ay w _) K1 (by omega)
 have iL:Hid (Kept (· = N) w w1):=((Kept.refl _ w).alloc _).trans K1
 have jP:=ah R1
 clear R1 K1 dA h64 h42
 have hk:=iP hle ht
 have hx:x.size≤1000000:=by omega
 have hks:k≤s.size:=by omega
 have hp:Hid (aF inner s i=bP s k 3):=by
  unfold Hid;rw [e0.out];unfold kW;rw [ht];dsimp only;unfold lS;rw [hkd,if_neg (by omega),if_pos (by omega)]
 go_wp2_with fail
 refine (jm N W s (skip s i) d _ jP.out hle hs).mono ?_
 rintro e w2 ⟨K2,h⟩
 rw [ht] at h
 obtain ⟨_,rfl,rfl,R2⟩:=h
 have F2:=ah (F1.out.kept K2 (by omega))
 have nS:Hid (Kept (· = N) w w2):=iL.out.trans K2
 have q2:=R2.c2
 have ji:=ah R2
 clear R2 K2 ht hk b1 b2 b3
 go_wp2_with fail
 refine (iq W x _ ji.out.words).mono ?_
 rintro e w3 ⟨rfl,rfl⟩
 rw [hkd]
 clear hkd q2
 go_wp2_with fail
 refine (eX 40 N W (by decide) s k d _ ji.out hks hs).mono ?_
 rintro e w3 ⟨k_,h⟩
 have F3:=ah (F2.out.kept k_ (by omega))
 have K3:=ah (nS.out.trans k_);clear k_
 cases hn:bT 40 s k with
 | error er =>
  rw [hn] at h
  obtain rfl:=h
  have hr:Hid (aF inner s i=.error er):=by unfold Hid;rw [hp.out];unfold bP;rw [hn]
  clear hn
  go_wp2_with fail
  exact aV rfl hr.out K3.out
 | ok k1 =>
  rw [hn] at h
  obtain ⟨rfl,R3⟩:=h
  have rZ:=ah R3;clear R3
  have hk1:k1≤s.size:=(fC hn).2.1
  have HN:=ah hn;clear hn
  go_wp2_with fail
  refine (vU N W s k1 d _ rZ.out hk1 hs).mono ?_
  rintro e w4 ⟨k_,h⟩
  have F4:=ah (F3.out.kept k_ (by omega))
  have K4:=ah (K3.out.trans k_);clear k_
  cases ht:gY s k1 with
  | error er =>
   rw [ht] at h
   obtain rfl:=h
   have hr:Hid (aF inner s i=.error er):=by unfold Hid;rw [hp.out];unfold bP;rw [HN.out];dsimp only;rw [ht]
   clear ht
   go_wp2_with fail
   exact aV rfl hr.out K4.out
  | ok y =>
   obtain ⟨⟨t,a'⟩,k2⟩:=y
   rw [ht] at h
   obtain ⟨_,rfl,rfl,R4⟩:=h
   have su:=ah R4;clear R4
   have hk2:k2≤s.size:=(jT ht).2.1
   have hts:t.size≤100000:=by have:=jT ht;omega
   have HT:=ah ht;clear ht
   by_cases h0:t.size=0
   ·have he:t.toList.isEmpty=true:=jg.2 h0
    have hr:Hid (aF inner s i=.error (8,a')):=by unfold Hid;rw [hp.out];unfold bP;rw [HN.out];dsimp only;rw [HT.out];dsimp only;rw [if_pos h0]
    clear h0
    go_wp2_with fail
    refine (iy _ 8 a' _).mono ?_
    rintro e w5 ⟨rfl,rfl⟩
    go_wp2_with fail
    exact aV rfl hr.out K4.out
   ·have he:t.toList.isEmpty=false:=gy.2 (by omega)
    go_wp2_with fail
    refine (eX 41 N W (by decide) s k2 d _ su.out hk2 hs).mono ?_
    rintro e w5 ⟨k_,h⟩
    have F5:=ah (F4.out.kept k_ (by omega))
    have K5:=ah (K4.out.trans k_);clear k_
    cases hn:bT 41 s k2 with
    | error er =>
     rw [hn] at h
     obtain rfl:=h
     have hr:Hid (aF inner s i=.error er):=by unfold Hid;rw [hp.out];unfold bP;rw [HN.out];dsimp only;rw [HT.out];dsimp only;rw [if_neg h0,hn]
     clear hn h0
     go_wp2_with fail
     exact aV rfl hr.out K5.out
    | ok k3 =>
     rw [hn] at h
     obtain ⟨rfl,R5⟩:=h
     have sD:=ah R5;clear R5
     have hr:Hid (aF inner s i=.ok (.mk 3 t 0 E0 [],k3)):=by unfold Hid;rw [hp.out];unfold bP;rw [HN.out];dsimp only;rw [HT.out];dsimp only;rw [if_neg h0,hn]
     clear hn h0
     have ts:t.size<1000000000:=by omega
     obtain ⟨c0,c1,c2,c3,c4,cf⟩:=F5.out.cells
     have f0:=cf 0;have f1:=cf 1;have f2:=cf 2;have f3:=cf 3;have f4:=cf 4;clear cf
     go_wp2_with fail
     exact iE (p:=.mk 3 t 0 E0 []) (S:=aB) rfl rfl F5.out sD.out K5.out (Nat.le_refl _) hN hW hr.out ⟨ts,iG,jY⟩ (fun b hb=>hb.elim) (by unfold aI;trivial)
theorem UF (N W:Nat) (s:aj) (i d:Nat) (w:World) (inner:Nat→cu aA) (hr:dw N W s i d w) (hi:i≤s.size) (hs6:s.size≤65536) (dA:peek s (skip s i)≠39) (h64:peek s (skip s i)≠64) (h42:peek s (skip s i)≠42) (x:aj) (a k:Nat) (ht:fQ s (skip s i)=.ok ((x,a),k)) (hkd:kindOf x=4) :
  Calls Tryz.prog 284 #[.pointer (some ⟨N,0,none⟩)] w (bC N W s d (aF inner s i) (fB w.heap.size) w):=by
 have e0:Hid (aF inner s i=kW inner s (skip s i)):=by unfold Hid aF;rw [if_neg dA,if_neg h64,if_neg h42]
 have HR:=ah hr
 have hN:=hr.lt;have hW:=hr.qO;clear hr
 have hle:=cO hi
 have hs:s.size≤1000000000:=by omega
 go_enter Tryz.func284, Tryz.ntmps284
 go_wp2_with fail
 refine (next_any N W s i d _ (HR.out.kept ((Kept.refl aB w).alloc _) (fun h=>h) (fun h=>h)) hi hs).mono ?_
 rintro e w1 ⟨rfl,R1,K1⟩
 have b1:(peek s (skip s i)==39)=false:=by simpa using dA
 have b2:(peek s (skip s i)==64)=false:=by simpa using h64
 have b3:(peek s (skip s i)==42)=false:=by simpa using h42
 have F1:Hid (Five w.heap.size (.int .i64 0) (.string ⟨#[]⟩) (.int .i64 0) (.string ⟨#[]⟩) (.slice none 0 0) w1):=Five.kept (ay w _) K1 (by omega)
 have iL:Hid (Kept (· = N) w w1):=((Kept.refl _ w).alloc _).trans K1
 have jP:=ah R1
 clear R1 K1 dA h64 h42
 have hk:=iP hle ht
 have hx:x.size≤1000000:=by omega
 have hks:k≤s.size:=by omega
 have hp:Hid (aF inner s i=bP s k 4):=by
  unfold Hid;rw [e0.out];unfold kW;rw [ht];dsimp only;unfold lS;rw [hkd,if_neg (by omega),if_pos (by omega)]
 go_wp2_with fail
 refine (jm N W s (skip s i) d _ jP.out hle hs).mono ?_
 rintro e w2 ⟨K2,h⟩
 rw [ht] at h
 obtain ⟨_,rfl,rfl,R2⟩:=h
 have F2:=ah (F1.out.kept K2 (by omega))
 have nS:Hid (Kept (· = N) w w2):=iL.out.trans K2
 have q2:=R2.c2
 have ji:=ah R2
 clear R2 K2 ht hk b1 b2 b3
 go_wp2_with fail
 refine (iq W x _ ji.out.words).mono ?_
 rintro e w3 ⟨rfl,rfl⟩
 rw [hkd]
 clear hkd q2
 go_wp2_with fail
 refine (eX 40 N W (by decide) s k d _ ji.out hks hs).mono ?_
 rintro e w3 ⟨k_,h⟩
 have F3:=ah (F2.out.kept k_ (by omega))
 have K3:=ah (nS.out.trans k_);clear k_
 cases hn:bT 40 s k with
 | error er =>
  rw [hn] at h
  obtain rfl:=h
  have hr:Hid (aF inner s i=.error er):=by unfold Hid;rw [hp.out];unfold bP;rw [hn]
  clear hn
  go_wp2_with fail
  exact aV rfl hr.out K3.out
 | ok k1 =>
  rw [hn] at h
  obtain ⟨rfl,R3⟩:=h
  have rZ:=ah R3;clear R3
  have hk1:k1≤s.size:=(fC hn).2.1
  have HN:=ah hn;clear hn
  go_wp2_with fail
  refine (vU N W s k1 d _ rZ.out hk1 hs).mono ?_
  rintro e w4 ⟨k_,h⟩
  have F4:=ah (F3.out.kept k_ (by omega))
  have K4:=ah (K3.out.trans k_);clear k_
  cases ht:gY s k1 with
  | error er =>
   rw [ht] at h
   obtain rfl:=h
   have hr:Hid (aF inner s i=.error er):=by unfold Hid;rw [hp.out];unfold bP;rw [HN.out];dsimp only;rw [ht]
   clear ht
   go_wp2_with fail
   exact aV rfl hr.out K4.out
  | ok y =>
   obtain ⟨⟨t,a'⟩,k2⟩:=y
   rw [ht] at h
   obtain ⟨_,rfl,rfl,R4⟩:=h
   have su:=ah R4;clear R4
   have hk2:k2≤s.size:=(jT ht).2.1
   have hts:t.size≤100000:=by have:=jT ht;omega
   have HT:=ah ht;clear ht
   by_cases h0:t.size=0
   ·have he:t.toList.isEmpty=true:=jg.2 h0
    have hr:Hid (aF inner s i=.error (8,a')):=by unfold Hid;rw [hp.out];unfold bP;rw [HN.out];dsimp only;rw [HT.out];dsimp only;rw [if_pos h0]
    clear h0
    go_wp2_with fail
    refine (iy _ 8 a' _).mono ?_
    rintro e w5 ⟨rfl,rfl⟩
    go_wp2_with fail
    exact aV rfl hr.out K4.out
   ·have he:t.toList.isEmpty=false:=gy.2 (by omega)
    go_wp2_with fail
    refine (eX 41 N W (by decide) s k2 d _ su.out hk2 hs).mono ?_
    rintro e w5 ⟨k_,h⟩
    have F5:=ah (F4.out.kept k_ (by omega))
    have K5:=ah (K4.out.trans k_);clear k_
    cases hn:bT 41 s k2 with
    | error er =>
     rw [hn] at h
     obtain rfl:=h
     have hr:Hid (aF inner s i=.error er):=by unfold Hid;rw [hp.out];unfold bP;rw [HN.out];dsimp only;rw [HT.out];dsimp only;rw [if_neg h0,hn]
     clear hn h0
     go_wp2_with fail
     exact aV rfl hr.out K5.out
    | ok k3 =>
     rw [hn] at h
     obtain ⟨rfl,R5⟩:=h
     have sD:=ah R5;clear R5
     have hr:Hid (aF inner s i=.ok (.mk 4 t 0 E0 [],k3)):=by unfold Hid;rw [hp.out];unfold bP;rw [HN.out];dsimp only;rw [HT.out];dsimp only;rw [if_neg h0,hn]
     clear hn h0
     have ts:t.size<1000000000:=by omega
     obtain ⟨c0,c1,c2,c3,c4,cf⟩:=F5.out.cells
     have f0:=cf 0;have f1:=cf 1;have f2:=cf 2;have f3:=cf 3;have f4:=cf 4;clear cf
     go_wp2_with fail
     exact iE (p:=.mk 4 t 0 E0 []) (S:=aB) rfl rfl F5.out sD.out K5.out (Nat.le_refl _) hN hW hr.out ⟨ts,iG,jY⟩ (fun b hb=>hb.elim) (by unfold aI;trivial)
theorem UG (N W:Nat) (s:aj) (i d:Nat) (w:World) (inner:Nat→cu aA) (hr:dw N W s i d w) (hi:i≤s.size) (hs6:s.size≤65536) (dA:peek s (skip s i)≠39) (h64:peek s (skip s i)≠64) (h42:peek s (skip s i)≠42) (x:aj) (a k:Nat) (ht:fQ s (skip s i)=.ok ((x,a),k)) (hkd:kindOf x=5) :
  Calls Tryz.prog 284 #[.pointer (some ⟨N,0,none⟩)] w (bC N W s d (aF inner s i) (fB w.heap.size) w):=by
 have e0:Hid (aF inner s i=kW inner s (skip s i)):=by unfold Hid aF;rw [if_neg dA,if_neg h64,if_neg h42]
 have HR:=ah hr
 have hN:=hr.lt;have hW:=hr.qO;clear hr
 have hle:=cO hi
 have hs:s.size≤1000000000:=by omega
 go_enter Tryz.func284, Tryz.ntmps284
 go_wp2_with fail
 refine (next_any N W s i d _ (HR.out.kept ((Kept.refl aB w).alloc _) (fun h=>h) (fun h=>h)) hi hs).mono ?_
 rintro e w1 ⟨rfl,R1,K1⟩
 have b1:(peek s (skip s i)==39)=false:=by simpa using dA
 have b2:(peek s (skip s i)==64)=false:=by simpa using h64
 have b3:(peek s (skip s i)==42)=false:=by simpa using h42
 have F1:Hid (Five w.heap.size (.int .i64 0) (.string ⟨#[]⟩) (.int .i64 0) (.string ⟨#[]⟩) (.slice none 0 0) w1):=Five.kept (ay w _) K1 (by omega)
 have iL:Hid (Kept (· = N) w w1):=((Kept.refl _ w).alloc _).trans K1
 have jP:=ah R1
 clear R1 K1 dA h64 h42
 have hk:=iP hle ht
 have hx:x.size≤1000000:=by omega
 have hks:k≤s.size:=by omega
 have hp:Hid (aF inner s i=bP s k 5):=by
  unfold Hid;rw [e0.out];unfold kW;rw [ht];dsimp only;unfold lS;rw [hkd,if_neg (by omega),if_pos (by omega)]
 go_wp2_with fail
 refine (jm N W s (skip s i) d _ jP.out hle hs).mono ?_
 rintro e w2 ⟨K2,h⟩
 rw [ht] at h
 obtain ⟨_,rfl,rfl,R2⟩:=h
 have F2:=ah (F1.out.kept K2 (by omega))
 have nS:Hid (Kept (· = N) w w2):=iL.out.trans K2
 have q2:=R2.c2
 have ji:=ah R2
 clear R2 K2 ht hk b1 b2 b3
 go_wp2_with fail
 refine (iq W x _ ji.out.words).mono ?_
 rintro e w3 ⟨rfl,rfl⟩
 rw [hkd]
 clear hkd q2
 go_wp2_with fail
 refine (eX 40 N W (by decide) s k d _ ji.out hks hs).mono ?_
 rintro e w3 ⟨k_,h⟩
 have F3:=ah (F2.out.kept k_ (by omega))
 have K3:=ah (nS.out.trans k_);clear k_
 cases hn:bT 40 s k with
 | error er =>
  rw [hn] at h
  obtain rfl:=h
  have hr:Hid (aF inner s i=.error er):=by unfold Hid;rw [hp.out];unfold bP;rw [hn]
  clear hn
  go_wp2_with fail
  exact aV rfl hr.out K3.out
 | ok k1 =>
  rw [hn] at h
  obtain ⟨rfl,R3⟩:=h
  have rZ:=ah R3;clear R3
  have hk1:k1≤s.size:=(fC hn).2.1
  have HN:=ah hn;clear hn
  go_wp2_with fail
  refine (vU N W s k1 d _ rZ.out hk1 hs).mono ?_
  rintro e w4 ⟨k_,h⟩
  have F4:=ah (F3.out.kept k_ (by omega))
  have K4:=ah (K3.out.trans k_);clear k_
  cases ht:gY s k1 with
  | error er =>
   rw [ht] at h
   obtain rfl:=h
   have hr:Hid (aF inner s i=.error er):=by unfold Hid;rw [hp.out];unfold bP;rw [HN.out];dsimp only;rw [ht]
   clear ht
   go_wp2_with fail
   exact aV rfl hr.out K4.out
  | ok y =>
   obtain ⟨⟨t,a'⟩,k2⟩:=y
   rw [ht] at h
   obtain ⟨_,rfl,rfl,R4⟩:=h
   have su:=ah R4;clear R4
   have hk2:k2≤s.size:=(jT ht).2.1
   have hts:t.size≤100000:=by have:=jT ht;omega
   have HT:=ah ht;clear ht
   by_cases h0:t.size=0
   ·have he:t.toList.isEmpty=true:=jg.2 h0
    have hr:Hid (aF inner s i=.error (8,a')):=by unfold Hid;rw [hp.out];unfold bP;rw [HN.out];dsimp only;rw [HT.out];dsimp only;rw [if_pos h0]
    clear h0
    go_wp2_with fail
    refine (iy _ 8 a' _).mono ?_
    rintro e w5 ⟨rfl,rfl⟩
    go_wp2_with fail
    exact aV rfl hr.out K4.out
   ·have he:t.toList.isEmpty=false:=gy.2 (by omega)
    go_wp2_with fail
    refine (eX 41 N W (by decide) s k2 d _ su.out hk2 hs).mono ?_
    rintro e w5 ⟨k_,h⟩
    have F5:=ah (F4.out.kept k_ (by omega))
    have K5:=ah (K4.out.trans k_);clear k_
    cases hn:bT 41 s k2 with
    | error er =>
     rw [hn] at h
     obtain rfl:=h
     have hr:Hid (aF inner s i=.error er):=by unfold Hid;rw [hp.out];unfold bP;rw [HN.out];dsimp only;rw [HT.out];dsimp only;rw [if_neg h0,hn]
     clear hn h0
     go_wp2_with fail
     exact aV rfl hr.out K5.out
    | ok k3 =>
     rw [hn] at h
     obtain ⟨rfl,R5⟩:=h
     have sD:=ah R5;clear R5
     have hr:Hid (aF inner s i=.ok (.mk 5 t 0 E0 [],k3)):=by unfold Hid;rw [hp.out];unfold bP;rw [HN.out];dsimp only;rw [HT.out];dsimp only;rw [if_neg h0,hn]
     clear hn h0
     have ts:t.size<1000000000:=by omega
     obtain ⟨c0,c1,c2,c3,c4,cf⟩:=F5.out.cells
     have f0:=cf 0;have f1:=cf 1;have f2:=cf 2;have f3:=cf 3;have f4:=cf 4;clear cf
     go_wp2_with fail
     exact iE (p:=.mk 5 t 0 E0 []) (S:=aB) rfl rfl F5.out sD.out K5.out (Nat.le_refl _) hN hW hr.out ⟨ts,iG,jY⟩ (fun b hb=>hb.elim) (by unfold aI;trivial)
theorem UH (N W:Nat) (s:aj) (i d:Nat) (w:World) (inner:Nat→cu aA) (hr:dw N W s i d w) (hi:i≤s.size) (hs6:s.size≤65536) (dA:peek s (skip s i)≠39) (h64:peek s (skip s i)≠64) (h42:peek s (skip s i)≠42) (x:aj) (a k:Nat) (ht:fQ s (skip s i)=.ok ((x,a),k)) (hkd:kindOf x=6) :
  Calls Tryz.prog 284 #[.pointer (some ⟨N,0,none⟩)] w (bC N W s d (aF inner s i) (fB w.heap.size) w):=by
 have e0:Hid (aF inner s i=kW inner s (skip s i)):=by unfold Hid aF;rw [if_neg dA,if_neg h64,if_neg h42]
 have HR:=ah hr
 have hN:=hr.lt;have hW:=hr.qO;clear hr
 have hle:=cO hi
 have hs:s.size≤1000000000:=by omega
 go_enter Tryz.func284, Tryz.ntmps284
 go_wp2_with fail
 refine (next_any N W s i d _ (HR.out.kept ((Kept.refl aB w).alloc _) (fun h=>h) (fun h=>h)) hi hs).mono ?_
 rintro e w1 ⟨rfl,R1,K1⟩
 have b1:(peek s (skip s i)==39)=false:=by simpa using dA
 have b2:(peek s (skip s i)==64)=false:=by simpa using h64
 have b3:(peek s (skip s i)==42)=false:=by simpa using h42
 have F1:Hid (Five w.heap.size (.int .i64 0) (.string ⟨#[]⟩) (.int .i64 0) (.string ⟨#[]⟩) (.slice none 0 0) w1):=Five.kept (ay w _) K1 (by omega)
 have iL:Hid (Kept (· = N) w w1):=((Kept.refl _ w).alloc _).trans K1
 have jP:=ah R1
 clear R1 K1 dA h64 h42
 have hk:=iP hle ht
 have hx:x.size≤1000000:=by omega
 have hks:k≤s.size:=by omega
 have hp:Hid (aF inner s i=bP s k 6):=by
  unfold Hid;rw [e0.out];unfold kW;rw [ht];dsimp only;unfold lS;rw [hkd,if_neg (by omega),if_pos (by omega)]
 go_wp2_with fail
 refine (jm N W s (skip s i) d _ jP.out hle hs).mono ?_
 rintro e w2 ⟨K2,h⟩
 rw [ht] at h
 obtain ⟨_,rfl,rfl,R2⟩:=h
 have F2:=ah (F1.out.kept K2 (by omega))
 have nS:Hid (Kept (· = N) w w2):=iL.out.trans K2
 have q2:=R2.c2
 have ji:=ah R2
 clear R2 K2 ht hk b1 b2 b3
 go_wp2_with fail
 refine (iq W x _ ji.out.words).mono ?_
 rintro e w3 ⟨rfl,rfl⟩
 rw [hkd]
 clear hkd q2
 go_wp2_with fail
 refine (eX 40 N W (by decide) s k d _ ji.out hks hs).mono ?_
 rintro e w3 ⟨k_,h⟩
 have F3:=ah (F2.out.kept k_ (by omega))
 have K3:=ah (nS.out.trans k_);clear k_
 cases hn:bT 40 s k with
 | error er =>
  rw [hn] at h
  obtain rfl:=h
  have hr:Hid (aF inner s i=.error er):=by unfold Hid;rw [hp.out];unfold bP;rw [hn]
  clear hn
  go_wp2_with fail
  exact aV rfl hr.out K3.out
 | ok k1 =>
  rw [hn] at h
  obtain ⟨rfl,R3⟩:=h
  have rZ:=ah R3;clear R3
  have hk1:k1≤s.size:=(fC hn).2.1
  have HN:=ah hn;clear hn
  go_wp2_with fail
  refine (vU N W s k1 d _ rZ.out hk1 hs).mono ?_
  rintro e w4 ⟨k_,h⟩
  have F4:=ah (F3.out.kept k_ (by omega))
  have K4:=ah (K3.out.trans k_);clear k_
  cases ht:gY s k1 with
  | error er =>
   rw [ht] at h
   obtain rfl:=h
   have hr:Hid (aF inner s i=.error er):=by unfold Hid;rw [hp.out];unfold bP;rw [HN.out];dsimp only;rw [ht]
   clear ht
   go_wp2_with fail
   exact aV rfl hr.out K4.out
  | ok y =>
   obtain ⟨⟨t,a'⟩,k2⟩:=y
   rw [ht] at h
   obtain ⟨_,rfl,rfl,R4⟩:=h
   have su:=ah R4;clear R4
   have hk2:k2≤s.size:=(jT ht).2.1
   have hts:t.size≤100000:=by have:=jT ht;omega
   have HT:=ah ht;clear ht
   by_cases h0:t.size=0
   ·have he:t.toList.isEmpty=true:=jg.2 h0
    have hr:Hid (aF inner s i=.error (8,a')):=by unfold Hid;rw [hp.out];unfold bP;rw [HN.out];dsimp only;rw [HT.out];dsimp only;rw [if_pos h0]
    clear h0
    go_wp2_with fail
    refine (iy _ 8 a' _).mono ?_
    rintro e w5 ⟨rfl,rfl⟩
    go_wp2_with fail
    exact aV rfl hr.out K4.out
   ·have he:t.toList.isEmpty=false:=gy.2 (by omega)
    go_wp2_with fail
    refine (eX 41 N W (by decide) s k2 d _ su.out hk2 hs).mono ?_
    rintro e w5 ⟨k_,h⟩
    have F5:=ah (F4.out.kept k_ (by omega))
    have K5:=ah (K4.out.trans k_);clear k_
    cases hn:bT 41 s k2 with
    | error er =>
     rw [hn] at h
     obtain rfl:=h
     have hr:Hid (aF inner s i=.error er):=by unfold Hid;rw [hp.out];unfold bP;rw [HN.out];dsimp only;rw [HT.out];dsimp only;rw [if_neg h0,hn]
     clear hn h0
     go_wp2_with fail
     exact aV rfl hr.out K5.out
    | ok k3 =>
     rw [hn] at h
     obtain ⟨rfl,R5⟩:=h
     have sD:=ah R5;clear R5
     have hr:Hid (aF inner s i=.ok (.mk 6 t 0 E0 [],k3)):=by unfold Hid;rw [hp.out];unfold bP;rw [HN.out];dsimp only;rw [HT.out];dsimp only;rw [if_neg h0,hn]
     clear hn h0
     have ts:t.size<1000000000:=by omega
     obtain ⟨c0,c1,c2,c3,c4,cf⟩:=F5.out.cells
     have f0:=cf 0;have f1:=cf 1;have f2:=cf 2;have f3:=cf 3;have f4:=cf 4;clear cf
     go_wp2_with fail
     exact iE (p:=.mk 6 t 0 E0 []) (S:=aB) rfl rfl F5.out sD.out K5.out (Nat.le_refl _) hN hW hr.out ⟨ts,iG,jY⟩ (fun b hb=>hb.elim) (by unfold aI;trivial)
theorem UJ (N W:Nat) (s:aj) (i d:Nat) (w:World) (inner:Nat→cu aA) (hr:dw N W s i d w) (hi:i≤s.size) (hs6:s.size≤65536) (dA:peek s (skip s i)≠39) (h64:peek s (skip s i)≠64) (h42:peek s (skip s i)≠42) (x:aj) (a k:Nat) (ht:fQ s (skip s i)=.ok ((x,a),k)) (hkd:kindOf x=7) :
  Calls Tryz.prog 284 #[.pointer (some ⟨N,0,none⟩)] w (bC N W s d (aF inner s i) (fB w.heap.size) w):=by
 have e0:Hid (aF inner s i=kW inner s (skip s i)):=by unfold Hid aF;rw [if_neg dA,if_neg h64,if_neg h42]
 have HR:=ah hr
 have hN:=hr.lt;have hW:=hr.qO;clear hr
 have hle:=cO hi
 have hs:s.size≤1000000000:=by omega
 go_enter Tryz.func284, Tryz.ntmps284
 go_wp2_with fail
 refine (next_any N W s i d _ (HR.out.kept ((Kept.refl aB w).alloc _) (fun h=>h) (fun h=>h)) hi hs).mono ?_
 rintro e w1 ⟨rfl,R1,K1⟩
 have b1:(peek s (skip s i)==39)=false:=by simpa using dA
 have b2:(peek s (skip s i)==64)=false:=by simpa using h64
 have b3:(peek s (skip s i)==42)=false:=by simpa using h42
 have F1:Hid (Five w.heap.size (.int .i64 0) (.string ⟨#[]⟩) (.int .i64 0) (.string ⟨#[]⟩) (.slice none 0 0) w1):=Five.kept (ay w _) K1 (by omega)
 have iL:Hid (Kept (· = N) w w1):=((Kept.refl _ w).alloc _).trans K1
 have jP:=ah R1
 clear R1 K1 dA h64 h42
 have hk:=iP hle ht
 have hx:x.size≤1000000:=by omega
 have hks:k≤s.size:=by omega
 have hp:Hid (aF inner s i=bP s k 7):=by
  unfold Hid;rw [e0.out];unfold kW;rw [ht];dsimp only;unfold lS;rw [hkd,if_neg (by omega),if_pos (by omega)]
 go_wp2_with fail
 refine (jm N W s (skip s i) d _ jP.out hle hs).mono ?_
 rintro e w2 ⟨K2,h⟩
 rw [ht] at h
 obtain ⟨_,rfl,rfl,R2⟩:=h
 have F2:=ah (F1.out.kept K2 (by omega))
 have nS:Hid (Kept (· = N) w w2):=iL.out.trans K2
 have q2:=R2.c2
 have ji:=ah R2
 clear R2 K2 ht hk b1 b2 b3
 go_wp2_with fail
 refine (iq W x _ ji.out.words).mono ?_
 rintro e w3 ⟨rfl,rfl⟩
 rw [hkd]
 clear hkd q2
 go_wp2_with fail
 refine (eX 40 N W (by decide) s k d _ ji.out hks hs).mono ?_
 rintro e w3 ⟨k_,h⟩
 have F3:=ah (F2.out.kept k_ (by omega))
 have K3:=ah (nS.out.trans k_);clear k_
 cases hn:bT 40 s k with
 | error er =>
  rw [hn] at h
  obtain rfl:=h
  have hr:Hid (aF inner s i=.error er):=by unfold Hid;rw [hp.out];unfold bP;rw [hn]
  clear hn
  go_wp2_with fail
  exact aV rfl hr.out K3.out
 | ok k1 =>
  rw [hn] at h
  obtain ⟨rfl,R3⟩:=h
  have rZ:=ah R3;clear R3
  have hk1:k1≤s.size:=(fC hn).2.1
  have HN:=ah hn;clear hn
  go_wp2_with fail
  refine (vU N W s k1 d _ rZ.out hk1 hs).mono ?_
  rintro e w4 ⟨k_,h⟩
  have F4:=ah (F3.out.kept k_ (by omega))
  have K4:=ah (K3.out.trans k_);clear k_
  cases ht:gY s k1 with
  | error er =>
   rw [ht] at h
   obtain rfl:=h
   have hr:Hid (aF inner s i=.error er):=by unfold Hid;rw [hp.out];unfold bP;rw [HN.out];dsimp only;rw [ht]
   clear ht
   go_wp2_with fail
   exact aV rfl hr.out K4.out
  | ok y =>
   obtain ⟨⟨t,a'⟩,k2⟩:=y
   rw [ht] at h
   obtain ⟨_,rfl,rfl,R4⟩:=h
   have su:=ah R4;clear R4
   have hk2:k2≤s.size:=(jT ht).2.1
   have hts:t.size≤100000:=by have:=jT ht;omega
   have HT:=ah ht;clear ht
   by_cases h0:t.size=0
   ·have he:t.toList.isEmpty=true:=jg.2 h0
    have hr:Hid (aF inner s i=.error (8,a')):=by unfold Hid;rw [hp.out];unfold bP;rw [HN.out];dsimp only;rw [HT.out];dsimp only;rw [if_pos h0]
    clear h0
    go_wp2_with fail
    refine (iy _ 8 a' _).mono ?_
    rintro e w5 ⟨rfl,rfl⟩
    go_wp2_with fail
    exact aV rfl hr.out K4.out
   ·have he:t.toList.isEmpty=false:=gy.2 (by omega)
    go_wp2_with fail
    refine (eX 41 N W (by decide) s k2 d _ su.out hk2 hs).mono ?_
    rintro e w5 ⟨k_,h⟩
    have F5:=ah (F4.out.kept k_ (by omega))
    have K5:=ah (K4.out.trans k_);clear k_
    cases hn:bT 41 s k2 with
    | error er =>
     rw [hn] at h
     obtain rfl:=h
     have hr:Hid (aF inner s i=.error er):=by unfold Hid;rw [hp.out];unfold bP;rw [HN.out];dsimp only;rw [HT.out];dsimp only;rw [if_neg h0,hn]
     clear hn h0
     go_wp2_with fail
     exact aV rfl hr.out K5.out
    | ok k3 =>
     rw [hn] at h
     obtain ⟨rfl,R5⟩:=h
     have sD:=ah R5;clear R5
     have hr:Hid (aF inner s i=.ok (.mk 7 t 0 E0 [],k3)):=by unfold Hid;rw [hp.out];unfold bP;rw [HN.out];dsimp only;rw [HT.out];dsimp only;rw [if_neg h0,hn]
     clear hn h0
     have ts:t.size<1000000000:=by omega
     obtain ⟨c0,c1,c2,c3,c4,cf⟩:=F5.out.cells
     have f0:=cf 0;have f1:=cf 1;have f2:=cf 2;have f3:=cf 3;have f4:=cf 4;clear cf
     go_wp2_with fail
     exact iE (p:=.mk 7 t 0 E0 []) (S:=aB) rfl rfl F5.out sD.out K5.out (Nat.le_refl _) hN hW hr.out ⟨ts,iG,jY⟩ (fun b hb=>hb.elim) (by unfold aI;trivial)
theorem XK (N W:Nat) (s:aj) (i d:Nat) (w:World) (inner:Nat→cu aA) (hr:dw N W s i d w) (hi:i≤s.size) (hs6:s.size≤65536) (dA:peek s (skip s i)≠39) (h64:peek s (skip s i)≠64) (h42:peek s (skip s i)≠42) (x:aj) (a k:Nat) (ht:fQ s (skip s i)=.ok ((x,a),k)) (hkd:kindOf x=2) :
  Calls Tryz.prog 284 #[.pointer (some ⟨N,0,none⟩)] w (bC N W s d (aF inner s i) (fB w.heap.size) w):=by
 have e0:Hid (aF inner s i=kW inner s (skip s i)):=by unfold Hid aF;rw [if_neg dA,if_neg h64,if_neg h42]
 have HR:=ah hr
 have hN:=hr.lt;have hW:=hr.qO;clear hr
 have hle:=cO hi
 have hs:s.size≤1000000000:=by omega
 go_enter Tryz.func284, Tryz.ntmps284
 go_wp2_with fail
 refine (next_any N W s i d _ (HR.out.kept ((Kept.refl aB w).alloc _) (fun h=>h) (fun h=>h)) hi hs).mono ?_
 rintro e w1 ⟨rfl,R1,K1⟩
 have b1:(peek s (skip s i)==39)=false:=by simpa using dA
 have b2:(peek s (skip s i)==64)=false:=by simpa using h64
 have b3:(peek s (skip s i)==42)=false:=by simpa using h42
 have F1:Hid (Five w.heap.size (.int .i64 0) (.string ⟨#[]⟩) (.int .i64 0) (.string ⟨#[]⟩) (.slice none 0 0) w1):=Five.kept (ay w _) K1 (by omega)
 have iL:Hid (Kept (· = N) w w1):=((Kept.refl _ w).alloc _).trans K1
 have jP:=ah R1
 clear R1 K1 dA h64 h42
 have hk:=iP hle ht
 have hx:x.size≤1000000:=by omega
 have hks:k≤s.size:=by omega
 have hp:Hid (aF inner s i=dV s k 2):=by
  unfold Hid;rw [e0.out];unfold kW;rw [ht];dsimp only;unfold lS;rw [hkd,if_neg (by omega),if_neg (by omega),if_pos (by omega)]
 go_wp2_with fail
 refine (jm N W s (skip s i) d _ jP.out hle hs).mono ?_
 rintro e w2 ⟨K2,h⟩
 rw [ht] at h
 obtain ⟨_,rfl,rfl,R2⟩:=h
 have F2:=ah (F1.out.kept K2 (by omega))
 have nS:Hid (Kept (· = N) w w2):=iL.out.trans K2
 have q2:=R2.c2
 have ji:=ah R2
 clear R2 K2 ht hk b1 b2 b3
 go_wp2_with fail
 refine (iq W x _ ji.out.words).mono ?_
 rintro e w3 ⟨rfl,rfl⟩
 rw [hkd]
 clear hkd q2
 go_wp2_with fail
 refine (eX 40 N W (by decide) s k d _ ji.out hks hs).mono ?_
 rintro e w3 ⟨k_,h⟩
 have F3:=ah (F2.out.kept k_ (by omega))
 have K3:=ah (nS.out.trans k_);clear k_
 cases hn:bT 40 s k with
 | error er =>
  rw [hn] at h
  obtain rfl:=h
  have hr:Hid (aF inner s i=.error er):=by unfold Hid;rw [hp.out];unfold dV;rw [hn]
  clear hn
  go_wp2_with fail
  exact aV rfl hr.out K3.out
 | ok k1 =>
  rw [hn] at h
  obtain ⟨rfl,R3⟩:=h
  have rZ:=ah R3;clear R3
  have hk1:k1≤s.size:=(fC hn).2.1
  have HN:=ah hn;clear hn
  go_wp2_with fail
  refine (uT N W s k1 d _ rZ.out hk1 hs).mono ?_
  rintro e w4 ⟨k_,h⟩
  have F4:=ah (F3.out.kept k_ (by omega))
  have K4:=ah (K3.out.trans k_);clear k_
  cases ht:kR s k1 with
  | error er =>
   rw [ht] at h
   obtain rfl:=h
   have hr:Hid (aF inner s i=.error er):=by unfold Hid;rw [hp.out];unfold dV;rw [HN.out];dsimp only;rw [ht]
   clear ht
   go_wp2_with fail
   exact aV rfl hr.out K4.out
  | ok y =>
   obtain ⟨n,k2⟩:=y
   rw [ht] at h
   obtain ⟨_,rfl,rfl,R4⟩:=h
   have su:=ah R4;clear R4
   have hk2:k2≤s.size:=(xW hk1 ht).2.1
   have HT:=ah ht;clear ht
   go_wp2_with fail
   refine (eX 41 N W (by decide) s k2 d _ su.out hk2 hs).mono ?_
   rintro e w5 ⟨k_,h⟩
   have F5:=ah (F4.out.kept k_ (by omega))
   have K5:=ah (K4.out.trans k_);clear k_
   cases hn:bT 41 s k2 with
   | error er =>
    rw [hn] at h
    obtain rfl:=h
    have hr:Hid (aF inner s i=.error er):=by unfold Hid;rw [hp.out];unfold dV;rw [HN.out];dsimp only;rw [HT.out];dsimp only;rw [hn]
    clear hn
    go_wp2_with fail
    exact aV rfl hr.out K5.out
   | ok k3 =>
    rw [hn] at h
    obtain ⟨rfl,R5⟩:=h
    have sD:=ah R5;clear R5
    have hr:Hid (aF inner s i=.ok (.mk 2 E0 n E0 [],k3)):=by unfold Hid;rw [hp.out];unfold dV;rw [HN.out];dsimp only;rw [HT.out];dsimp only;rw [hn]
    clear hn
    obtain ⟨c0,c1,c2,c3,c4,cf⟩:=F5.out.cells
    have f0:=cf 0;have f1:=cf 1;have f2:=cf 2;have f3:=cf 3;have f4:=cf 4;clear cf
    go_wp2_with fail
    exact iE (p:=.mk 2 E0 n E0 []) (S:=aB) rfl rfl F5.out sD.out K5.out (Nat.le_refl _) hN hW hr.out ⟨iG,iG,jY⟩ (fun b hb=>hb.elim) (by unfold aI;trivial)
theorem XL (N W:Nat) (s:aj) (i d:Nat) (w:World) (inner:Nat→cu aA) (hr:dw N W s i d w) (hi:i≤s.size) (hs6:s.size≤65536) (dA:peek s (skip s i)≠39) (h64:peek s (skip s i)≠64) (h42:peek s (skip s i)≠42) (x:aj) (a k:Nat) (ht:fQ s (skip s i)=.ok ((x,a),k)) (hkd:kindOf x=8) :
  Calls Tryz.prog 284 #[.pointer (some ⟨N,0,none⟩)] w (bC N W s d (aF inner s i) (fB w.heap.size) w):=by
 have e0:Hid (aF inner s i=kW inner s (skip s i)):=by unfold Hid aF;rw [if_neg dA,if_neg h64,if_neg h42]
 have HR:=ah hr
 have hN:=hr.lt;have hW:=hr.qO;clear hr
 have hle:=cO hi
 have hs:s.size≤1000000000:=by omega
 go_enter Tryz.func284, Tryz.ntmps284
 go_wp2_with fail
 refine (next_any N W s i d _ (HR.out.kept ((Kept.refl aB w).alloc _) (fun h=>h) (fun h=>h)) hi hs).mono ?_
 rintro e w1 ⟨rfl,R1,K1⟩
 have b1:(peek s (skip s i)==39)=false:=by simpa using dA
 have b2:(peek s (skip s i)==64)=false:=by simpa using h64
 have b3:(peek s (skip s i)==42)=false:=by simpa using h42
 have F1:Hid (Five w.heap.size (.int .i64 0) (.string ⟨#[]⟩) (.int .i64 0) (.string ⟨#[]⟩) (.slice none 0 0) w1):=Five.kept (ay w _) K1 (by omega)
 have iL:Hid (Kept (· = N) w w1):=((Kept.refl _ w).alloc _).trans K1
 have jP:=ah R1
 clear R1 K1 dA h64 h42
 have hk:=iP hle ht
 have hx:x.size≤1000000:=by omega
 have hks:k≤s.size:=by omega
 have hp:Hid (aF inner s i=dV s k 8):=by
  unfold Hid;rw [e0.out];unfold kW;rw [ht];dsimp only;unfold lS;rw [hkd,if_neg (by omega),if_neg (by omega),if_pos (by omega)]
 go_wp2_with fail
 refine (jm N W s (skip s i) d _ jP.out hle hs).mono ?_
 rintro e w2 ⟨K2,h⟩
 rw [ht] at h
 obtain ⟨_,rfl,rfl,R2⟩:=h
 have F2:=ah (F1.out.kept K2 (by omega))
 have nS:Hid (Kept (· = N) w w2):=iL.out.trans K2
 have q2:=R2.c2
 have ji:=ah R2
 clear R2 K2 ht hk b1 b2 b3
 go_wp2_with fail
 refine (iq W x _ ji.out.words).mono ?_
 rintro e w3 ⟨rfl,rfl⟩
 rw [hkd]
 clear hkd q2
 go_wp2_with fail
 refine (eX 40 N W (by decide) s k d _ ji.out hks hs).mono ?_
 rintro e w3 ⟨k_,h⟩
 have F3:=ah (F2.out.kept k_ (by omega))
 have K3:=ah (nS.out.trans k_);clear k_
 cases hn:bT 40 s k with
 | error er =>
  rw [hn] at h
  obtain rfl:=h
  have hr:Hid (aF inner s i=.error er):=by unfold Hid;rw [hp.out];unfold dV;rw [hn]
  clear hn
  go_wp2_with fail
  exact aV rfl hr.out K3.out
 | ok k1 =>
  rw [hn] at h
  obtain ⟨rfl,R3⟩:=h
  have rZ:=ah R3;clear R3
  have hk1:k1≤s.size:=(fC hn).2.1
  have HN:=ah hn;clear hn
  go_wp2_with fail
  refine (uT N W s k1 d _ rZ.out hk1 hs).mono ?_
  rintro e w4 ⟨k_,h⟩
  have F4:=ah (F3.out.kept k_ (by omega))
  have K4:=ah (K3.out.trans k_);clear k_
  cases ht:kR s k1 with
  | error er =>
   rw [ht] at h
   obtain rfl:=h
   have hr:Hid (aF inner s i=.error er):=by unfold Hid;rw [hp.out];unfold dV;rw [HN.out];dsimp only;rw [ht]
   clear ht
   go_wp2_with fail
   exact aV rfl hr.out K4.out
  | ok y =>
   obtain ⟨n,k2⟩:=y
   rw [ht] at h
   obtain ⟨_,rfl,rfl,R4⟩:=h
   have su:=ah R4;clear R4
   have hk2:k2≤s.size:=(xW hk1 ht).2.1
   have HT:=ah ht;clear ht
   go_wp2_with fail
   refine (eX 41 N W (by decide) s k2 d _ su.out hk2 hs).mono ?_
   rintro e w5 ⟨k_,h⟩
   have F5:=ah (F4.out.kept k_ (by omega))
   have K5:=ah (K4.out.trans k_);clear k_
   cases hn:bT 41 s k2 with
   | error er =>
    rw [hn] at h
    obtain rfl:=h
    have hr:Hid (aF inner s i=.error er):=by unfold Hid;rw [hp.out];unfold dV;rw [HN.out];dsimp only;rw [HT.out];dsimp only;rw [hn]
    clear hn
    go_wp2_with fail
    exact aV rfl hr.out K5.out
   | ok k3 =>
    rw [hn] at h
    obtain ⟨rfl,R5⟩:=h
    have sD:=ah R5;clear R5
    have hr:Hid (aF inner s i=.ok (.mk 8 E0 n E0 [],k3)):=by unfold Hid;rw [hp.out];unfold dV;rw [HN.out];dsimp only;rw [HT.out];dsimp only;rw [hn]
    clear hn
    obtain ⟨c0,c1,c2,c3,c4,cf⟩:=F5.out.cells
    have f0:=cf 0;have f1:=cf 1;have f2:=cf 2;have f3:=cf 3;have f4:=cf 4;clear cf
    go_wp2_with fail
    exact iE (p:=.mk 8 E0 n E0 []) (S:=aB) rfl rfl F5.out sD.out K5.out (Nat.le_refl _) hN hW hr.out ⟨iG,iG,jY⟩ (fun b hb=>hb.elim) (by unfold aI;trivial)
theorem XM (N W:Nat) (s:aj) (i d:Nat) (w:World) (inner:Nat→cu aA) (hr:dw N W s i d w) (hi:i≤s.size) (hs6:s.size≤65536) (dA:peek s (skip s i)≠39) (h64:peek s (skip s i)≠64) (h42:peek s (skip s i)≠42) (x:aj) (a k:Nat) (ht:fQ s (skip s i)=.ok ((x,a),k)) (hkd:kindOf x=9) :
  Calls Tryz.prog 284 #[.pointer (some ⟨N,0,none⟩)] w (bC N W s d (aF inner s i) (fB w.heap.size) w):=by
 have e0:Hid (aF inner s i=kW inner s (skip s i)):=by unfold Hid aF;rw [if_neg dA,if_neg h64,if_neg h42]
 have HR:=ah hr
 have hN:=hr.lt;have hW:=hr.qO;clear hr
 have hle:=cO hi
 have hs:s.size≤1000000000:=by omega
 go_enter Tryz.func284, Tryz.ntmps284
 go_wp2_with fail
 refine (next_any N W s i d _ (HR.out.kept ((Kept.refl aB w).alloc _) (fun h=>h) (fun h=>h)) hi hs).mono ?_
 rintro e w1 ⟨rfl,R1,K1⟩
 have b1:(peek s (skip s i)==39)=false:=by simpa using dA
 have b2:(peek s (skip s i)==64)=false:=by simpa using h64
 have b3:(peek s (skip s i)==42)=false:=by simpa using h42
 have F1:Hid (Five w.heap.size (.int .i64 0) (.string ⟨#[]⟩) (.int .i64 0) (.string ⟨#[]⟩) (.slice none 0 0) w1):=Five.kept (ay w _) K1 (by omega)
 have iL:Hid (Kept (· = N) w w1):=((Kept.refl _ w).alloc _).trans K1
 have jP:=ah R1
 clear R1 K1 dA h64 h42
 have hk:=iP hle ht
 have hx:x.size≤1000000:=by omega
 have hks:k≤s.size:=by omega
 have hp:Hid (aF inner s i=dV s k 9):=by
  unfold Hid;rw [e0.out];unfold kW;rw [ht];dsimp only;unfold lS;rw [hkd,if_neg (by omega),if_neg (by omega),if_pos (by omega)]
 go_wp2_with fail
 refine (jm N W s (skip s i) d _ jP.out hle hs).mono ?_
 rintro e w2 ⟨K2,h⟩
 rw [ht] at h
 obtain ⟨_,rfl,rfl,R2⟩:=h
 have F2:=ah (F1.out.kept K2 (by omega))
 have nS:Hid (Kept (· = N) w w2):=iL.out.trans K2
 have q2:=R2.c2
 have ji:=ah R2
 clear R2 K2 ht hk b1 b2 b3
 go_wp2_with fail
 refine (iq W x _ ji.out.words).mono ?_
 rintro e w3 ⟨rfl,rfl⟩
 rw [hkd]
 clear hkd q2
 go_wp2_with fail
 refine (eX 40 N W (by decide) s k d _ ji.out hks hs).mono ?_
 rintro e w3 ⟨k_,h⟩
 have F3:=ah (F2.out.kept k_ (by omega))
 have K3:=ah (nS.out.trans k_);clear k_
 cases hn:bT 40 s k with
 | error er =>
  rw [hn] at h
  obtain rfl:=h
  have hr:Hid (aF inner s i=.error er):=by unfold Hid;rw [hp.out];unfold dV;rw [hn]
  clear hn
  go_wp2_with fail
  exact aV rfl hr.out K3.out
 | ok k1 =>
  rw [hn] at h
  obtain ⟨rfl,R3⟩:=h
  have rZ:=ah R3;clear R3
  have hk1:k1≤s.size:=(fC hn).2.1
  have HN:=ah hn;clear hn
  go_wp2_with fail
  refine (uT N W s k1 d _ rZ.out hk1 hs).mono ?_
  rintro e w4 ⟨k_,h⟩
  have F4:=ah (F3.out.kept k_ (by omega))
  have K4:=ah (K3.out.trans k_);clear k_
  cases ht:kR s k1 with
  | error er =>
   rw [ht] at h
   obtain rfl:=h
   have hr:Hid (aF inner s i=.error er):=by unfold Hid;rw [hp.out];unfold dV;rw [HN.out];dsimp only;rw [ht]
   clear ht
   go_wp2_with fail
   exact aV rfl hr.out K4.out
  | ok y =>
   obtain ⟨n,k2⟩:=y
   rw [ht] at h
   obtain ⟨_,rfl,rfl,R4⟩:=h
   have su:=ah R4;clear R4
   have hk2:k2≤s.size:=(xW hk1 ht).2.1
   have HT:=ah ht;clear ht
   go_wp2_with fail
   refine (eX 41 N W (by decide) s k2 d _ su.out hk2 hs).mono ?_
   rintro e w5 ⟨k_,h⟩
   have F5:=ah (F4.out.kept k_ (by omega))
   have K5:=ah (K4.out.trans k_);clear k_
   cases hn:bT 41 s k2 with
   | error er =>
    rw [hn] at h
    obtain rfl:=h
    have hr:Hid (aF inner s i=.error er):=by unfold Hid;rw [hp.out];unfold dV;rw [HN.out];dsimp only;rw [HT.out];dsimp only;rw [hn]
    clear hn
    go_wp2_with fail
    exact aV rfl hr.out K5.out
   | ok k3 =>
    rw [hn] at h
    obtain ⟨rfl,R5⟩:=h
    have sD:=ah R5;clear R5
    have hr:Hid (aF inner s i=.ok (.mk 9 E0 n E0 [],k3)):=by unfold Hid;rw [hp.out];unfold dV;rw [HN.out];dsimp only;rw [HT.out];dsimp only;rw [hn]
    clear hn
    obtain ⟨c0,c1,c2,c3,c4,cf⟩:=F5.out.cells
    have f0:=cf 0;have f1:=cf 1;have f2:=cf 2;have f3:=cf 3;have f4:=cf 4;clear cf
    go_wp2_with fail
    exact iE (p:=.mk 9 E0 n E0 []) (S:=aB) rfl rfl F5.out sD.out K5.out (Nat.le_refl _) hN hW hr.out ⟨iG,iG,jY⟩ (fun b hb=>hb.elim) (by unfold aI;trivial)
theorem UK (N W:Nat) (s:aj) (i d:Nat) (w:World) (inner:Nat→cu aA) (hr:dw N W s i d w) (hi:i≤s.size) (hs6:s.size≤65536) (dA:peek s (skip s i)≠39) (h64:peek s (skip s i)≠64) (h42:peek s (skip s i)≠42) (x:aj) (a k:Nat) (ht:fQ s (skip s i)=.ok ((x,a),k)) (hkd:kindOf x=10) :
  Calls Tryz.prog 284 #[.pointer (some ⟨N,0,none⟩)] w (bC N W s d (aF inner s i) (fB w.heap.size) w):=by
 have e0:Hid (aF inner s i=kW inner s (skip s i)):=by unfold Hid aF;rw [if_neg dA,if_neg h64,if_neg h42]
 have HR:=ah hr
 have hN:=hr.lt;have hW:=hr.qO;clear hr
 have hle:=cO hi
 have hs:s.size≤1000000000:=by omega
 go_enter Tryz.func284, Tryz.ntmps284
 go_wp2_with fail
 refine (next_any N W s i d _ (HR.out.kept ((Kept.refl aB w).alloc _) (fun h=>h) (fun h=>h)) hi hs).mono ?_
 rintro e w1 ⟨rfl,R1,K1⟩
 have b1:(peek s (skip s i)==39)=false:=by simpa using dA
 have b2:(peek s (skip s i)==64)=false:=by simpa using h64
 have b3:(peek s (skip s i)==42)=false:=by simpa using h42
 have F1:Hid (Five w.heap.size (.int .i64 0) (.string ⟨#[]⟩) (.int .i64 0) (.string ⟨#[]⟩) (.slice none 0 0) w1):=Five.kept (ay w _) K1 (by omega)
 have iL:Hid (Kept (· = N) w w1):=((Kept.refl _ w).alloc _).trans K1
 have jP:=ah R1
 clear R1 K1 dA h64 h42
 have hk:=iP hle ht
 have hx:x.size≤1000000:=by omega
 have hks:k≤s.size:=by omega
 have hp:Hid (aF inner s i=dV s k 10):=by
  unfold Hid;rw [e0.out];unfold kW;rw [ht];dsimp only;unfold lS;rw [hkd,if_neg (by omega),if_neg (by omega),if_pos (by omega)]
 go_wp2_with fail
 refine (jm N W s (skip s i) d _ jP.out hle hs).mono ?_
 rintro e w2 ⟨K2,h⟩
 rw [ht] at h
 obtain ⟨_,rfl,rfl,R2⟩:=h
 have F2:=ah (F1.out.kept K2 (by omega))
 have nS:Hid (Kept (· = N) w w2):=iL.out.trans K2
 have q2:=R2.c2
 have ji:=ah R2
 clear R2 K2 ht hk b1 b2 b3
 go_wp2_with fail
 refine (iq W x _ ji.out.words).mono ?_
 rintro e w3 ⟨rfl,rfl⟩
 rw [hkd]
 clear hkd q2
 go_wp2_with fail
 refine (eX 40 N W (by decide) s k d _ ji.out hks hs).mono ?_
 rintro e w3 ⟨k_,h⟩
 have F3:=ah (F2.out.kept k_ (by omega))
 have K3:=ah (nS.out.trans k_);clear k_
 cases hn:bT 40 s k with
 | error er =>
  rw [hn] at h
  obtain rfl:=h
  have hr:Hid (aF inner s i=.error er):=by unfold Hid;rw [hp.out];unfold dV;rw [hn]
  clear hn
  go_wp2_with fail
  exact aV rfl hr.out K3.out
 | ok k1 =>
  rw [hn] at h
  obtain ⟨rfl,R3⟩:=h
  have rZ:=ah R3;clear R3
  have hk1:k1≤s.size:=(fC hn).2.1
  have HN:=ah hn;clear hn
  go_wp2_with fail
  refine (uT N W s k1 d _ rZ.out hk1 hs).mono ?_
  rintro e w4 ⟨k_,h⟩
  have F4:=ah (F3.out.kept k_ (by omega))
  have K4:=ah (K3.out.trans k_);clear k_
  cases ht:kR s k1 with
  | error er =>
   rw [ht] at h
   obtain rfl:=h
   have hr:Hid (aF inner s i=.error er):=by unfold Hid;rw [hp.out];unfold dV;rw [HN.out];dsimp only;rw [ht]
   clear ht
   go_wp2_with fail
   exact aV rfl hr.out K4.out
  | ok y =>
   obtain ⟨n,k2⟩:=y
   rw [ht] at h
   obtain ⟨_,rfl,rfl,R4⟩:=h
   have su:=ah R4;clear R4
   have hk2:k2≤s.size:=(xW hk1 ht).2.1
   have HT:=ah ht;clear ht
   go_wp2_with fail
   refine (eX 41 N W (by decide) s k2 d _ su.out hk2 hs).mono ?_
   rintro e w5 ⟨k_,h⟩
   have F5:=ah (F4.out.kept k_ (by omega))
   have K5:=ah (K4.out.trans k_);clear k_
   cases hn:bT 41 s k2 with
   | error er =>
    rw [hn] at h
    obtain rfl:=h
    have hr:Hid (aF inner s i=.error er):=by unfold Hid;rw [hp.out];unfold dV;rw [HN.out];dsimp only;rw [HT.out];dsimp only;rw [hn]
    clear hn
    go_wp2_with fail
    exact aV rfl hr.out K5.out
   | ok k3 =>
    rw [hn] at h
    obtain ⟨rfl,R5⟩:=h
    have sD:=ah R5;clear R5
    have hr:Hid (aF inner s i=.ok (.mk 10 E0 n E0 [],k3)):=by unfold Hid;rw [hp.out];unfold dV;rw [HN.out];dsimp only;rw [HT.out];dsimp only;rw [hn]
    clear hn
    obtain ⟨c0,c1,c2,c3,c4,cf⟩:=F5.out.cells
    have f0:=cf 0;have f1:=cf 1;have f2:=cf 2;have f3:=cf 3;have f4:=cf 4;clear cf
    go_wp2_with fail
    exact iE (p:=.mk 10 E0 n E0 []) (S:=aB) rfl rfl F5.out sD.out K5.out (Nat.le_refl _) hN hW hr.out ⟨iG,iG,jY⟩ (fun b hb=>hb.elim) (by unfold aI;trivial)
theorem UL (N W:Nat) (s:aj) (i d:Nat) (w:World) (inner:Nat→cu aA) (hr:dw N W s i d w) (hi:i≤s.size) (hs6:s.size≤65536) (dA:peek s (skip s i)≠39) (h64:peek s (skip s i)≠64) (h42:peek s (skip s i)≠42) (x:aj) (a k:Nat) (ht:fQ s (skip s i)=.ok ((x,a),k)) (hkd:kindOf x=11) :
  Calls Tryz.prog 284 #[.pointer (some ⟨N,0,none⟩)] w (bC N W s d (aF inner s i) (fB w.heap.size) w):=by
 have e0:Hid (aF inner s i=kW inner s (skip s i)):=by unfold Hid aF;rw [if_neg dA,if_neg h64,if_neg h42]
 have HR:=ah hr
 have hN:=hr.lt;have hW:=hr.qO;clear hr
 have hle:=cO hi
 have hs:s.size≤1000000000:=by omega
 go_enter Tryz.func284, Tryz.ntmps284
 go_wp2_with fail
 refine (next_any N W s i d _ (HR.out.kept ((Kept.refl aB w).alloc _) (fun h=>h) (fun h=>h)) hi hs).mono ?_
 rintro e w1 ⟨rfl,R1,K1⟩
 have b1:(peek s (skip s i)==39)=false:=by simpa using dA
 have b2:(peek s (skip s i)==64)=false:=by simpa using h64
 have b3:(peek s (skip s i)==42)=false:=by simpa using h42
 have F1:Hid (Five w.heap.size (.int .i64 0) (.string ⟨#[]⟩) (.int .i64 0) (.string ⟨#[]⟩) (.slice none 0 0) w1):=Five.kept (ay w _) K1 (by omega)
 have iL:Hid (Kept (· = N) w w1):=((Kept.refl _ w).alloc _).trans K1
 have jP:=ah R1
 clear R1 K1 dA h64 h42
 have hk:=iP hle ht
 have hx:x.size≤1000000:=by omega
 have hks:k≤s.size:=by omega
 have hp:Hid (aF inner s i=dV s k 11):=by
  unfold Hid;rw [e0.out];unfold kW;rw [ht];dsimp only;unfold lS;rw [hkd,if_neg (by omega),if_neg (by omega),if_pos (by omega)]
 go_wp2_with fail
 refine (jm N W s (skip s i) d _ jP.out hle hs).mono ?_
 rintro e w2 ⟨K2,h⟩
 rw [ht] at h
 obtain ⟨_,rfl,rfl,R2⟩:=h
 have F2:=ah (F1.out.kept K2 (by omega))
 have nS:Hid (Kept (· = N) w w2):=iL.out.trans K2
 have q2:=R2.c2
 have ji:=ah R2
 clear R2 K2 ht hk b1 b2 b3
 go_wp2_with fail
 refine (iq W x _ ji.out.words).mono ?_
 rintro e w3 ⟨rfl,rfl⟩
 rw [hkd]
 clear hkd q2
 go_wp2_with fail
 refine (eX 40 N W (by decide) s k d _ ji.out hks hs).mono ?_
 rintro e w3 ⟨k_,h⟩
 have F3:=ah (F2.out.kept k_ (by omega))
 have K3:=ah (nS.out.trans k_);clear k_
 cases hn:bT 40 s k with
 | error er =>
  rw [hn] at h
  obtain rfl:=h
  have hr:Hid (aF inner s i=.error er):=by unfold Hid;rw [hp.out];unfold dV;rw [hn]
  clear hn
  go_wp2_with fail
  exact aV rfl hr.out K3.out
 | ok k1 =>
  rw [hn] at h
  obtain ⟨rfl,R3⟩:=h
  have rZ:=ah R3;clear R3
  have hk1:k1≤s.size:=(fC hn).2.1
  have HN:=ah hn;clear hn
  go_wp2_with fail
  refine (uT N W s k1 d _ rZ.out hk1 hs).mono ?_
  rintro e w4 ⟨k_,h⟩
  have F4:=ah (F3.out.kept k_ (by omega))
  have K4:=ah (K3.out.trans k_);clear k_
  cases ht:kR s k1 with
  | error er =>
   rw [ht] at h
   obtain rfl:=h
   have hr:Hid (aF inner s i=.error er):=by unfold Hid;rw [hp.out];unfold dV;rw [HN.out];dsimp only;rw [ht]
   clear ht
   go_wp2_with fail
   exact aV rfl hr.out K4.out
  | ok y =>
   obtain ⟨n,k2⟩:=y
   rw [ht] at h
   obtain ⟨_,rfl,rfl,R4⟩:=h
   have su:=ah R4;clear R4
   have hk2:k2≤s.size:=(xW hk1 ht).2.1
   have HT:=ah ht;clear ht
   go_wp2_with fail
   refine (eX 41 N W (by decide) s k2 d _ su.out hk2 hs).mono ?_
   rintro e w5 ⟨k_,h⟩
   have F5:=ah (F4.out.kept k_ (by omega))
   have K5:=ah (K4.out.trans k_);clear k_
   cases hn:bT 41 s k2 with
   | error er =>
    rw [hn] at h
    obtain rfl:=h
    have hr:Hid (aF inner s i=.error er):=by unfold Hid;rw [hp.out];unfold dV;rw [HN.out];dsimp only;rw [HT.out];dsimp only;rw [hn]
    clear hn
    go_wp2_with fail
    exact aV rfl hr.out K5.out
   | ok k3 =>
    rw [hn] at h
    obtain ⟨rfl,R5⟩:=h
    have sD:=ah R5;clear R5
    have hr:Hid (aF inner s i=.ok (.mk 11 E0 n E0 [],k3)):=by unfold Hid;rw [hp.out];unfold dV;rw [HN.out];dsimp only;rw [HT.out];dsimp only;rw [hn]
    clear hn
    obtain ⟨c0,c1,c2,c3,c4,cf⟩:=F5.out.cells
    have f0:=cf 0;have f1:=cf 1;have f2:=cf 2;have f3:=cf 3;have f4:=cf 4;clear cf
    go_wp2_with fail
    exact iE (p:=.mk 11 E0 n E0 []) (S:=aB) rfl rfl F5.out sD.out K5.out (Nat.le_refl _) hN hW hr.out ⟨iG,iG,jY⟩ (fun b hb=>hb.elim) (by unfold aI;trivial)
end Go.Proofs.YtgoijmpahffnhaaGreatDoor

namespace Go.Proofs.YtgoijmpahffnhaaGreatDoor
set_option linter.all false
open Go.RowKit
set_option maxRecDepth 100000
set_option maxHeartbeats 4000000
theorem BF {w:World} {S:Nat→Prop} {b o:Nat} {p:aA} (h:aW w S b o p):aI w S (some ⟨b,o,none⟩) [p]:=by
 unfold aI;exact ⟨b,o,rfl,h,by unfold aI;trivial⟩
theorem kP.kept' {w w':World} {S X:Nat→Prop} {v:Value} {p:aA} (h:kP w S v p) (hk:Kept X w w') (hs:Safe S X w.heap.size):kP w' S v p:=by
 obtain ⟨ka,cap,rfl,hz,hp⟩:=h;exact ⟨ka,cap,rfl,hz,hp.kept hk hs⟩
def cZ (s:aj) (inner:Nat→cu aA):Prop:=∀i p k,i≤s.size→inner i=.ok (p,k)→i<k∧k≤s.size
theorem UM (N W:Nat) (s:aj) (i d:Nat) (w:World) (inner:Nat→cu aA) (hr:dw N W s i d w) (hi:i≤s.size) (hs6:s.size≤65536) (dA:peek s (skip s i)≠39) (h64:peek s (skip s i)≠64) (h42:peek s (skip s i)≠42) (x:aj) (a k:Nat) (ht:fQ s (skip s i)=.ok ((x,a),k)) (hkd:kindOf x=20) (hin:vS N W s d inner) (hfw:cZ s inner) :
  Calls Tryz.prog 284 #[.pointer (some ⟨N,0,none⟩)] w (bC N W s d (aF inner s i) (fB w.heap.size) w):=by
 have e0:Hid (aF inner s i=kW inner s (skip s i)):=by unfold Hid aF;rw [if_neg dA,if_neg h64,if_neg h42]
 have HR:=ah hr
 have hN:=hr.lt;have hW:=hr.qO;clear hr
 have hle:=cO hi
 have hs:s.size≤1000000000:=by omega
 go_enter Tryz.func284, Tryz.ntmps284
 go_wp2_with fail
 refine (next_any N W s i d _ (HR.out.kept ((Kept.refl aB w).alloc _) (fun h=>h) (fun h=>h)) hi hs).mono ?_
 rintro e w1 ⟨rfl,R1,K1⟩
 have b1:(peek s (skip s i)==39)=false:=by simpa using dA
 have b2:(peek s (skip s i)==64)=false:=by simpa using h64
 have b3:(peek s (skip s i)==42)=false:=by simpa using h42
 have F1:Hid (Five w.heap.size (.int .i64 0) (.string ⟨#[]⟩) (.int .i64 0) (.string ⟨#[]⟩) (.slice none 0 0) w1):=Five.kept (ay w _) K1 (by omega)
 have iL:Hid (Kept (· = N) w w1):=((Kept.refl _ w).alloc _).trans K1
 have jP:=ah R1
 clear R1 K1 dA h64 h42
 have hk:=iP hle ht
 have hx:x.size≤1000000:=by omega
 have hks:k≤s.size:=by omega
 have hp:Hid (aF inner s i=pV inner s k 20):=by
  unfold Hid;rw [e0.out];unfold kW;rw [ht];dsimp only;unfold lS;rw [hkd,if_neg (by omega),if_neg (by omega),if_neg (by omega),if_pos rfl]
 go_wp2_with fail
 refine (jm N W s (skip s i) d _ jP.out hle hs).mono ?_
 rintro e w2 ⟨K2,h⟩
 rw [ht] at h
 obtain ⟨_,rfl,rfl,R2⟩:=h
 have F2:=ah (F1.out.kept K2 (by omega))
 have nS:Hid (Kept (· = N) w w2):=iL.out.trans K2
 have q2:=R2.c2
 have ji:=ah R2
 clear R2 K2 ht hk b1 b2 b3
 go_wp2_with fail
 refine (iq W x _ ji.out.words).mono ?_
 rintro e w3 ⟨rfl,rfl⟩
 rw [hkd]
 clear hkd q2
 have wF:=ah hin;have JZ:=ah hfw;clear hin hfw
 go_wp2_with fail
 refine (eX 40 N W (by decide) s k d _ ji.out hks hs).mono ?_
 rintro e w3 ⟨k_,h⟩
 have F3:=ah (F2.out.kept k_ (by omega))
 have K3:=ah (nS.out.trans k_);clear k_
 cases hn:bT 40 s k with
 | error er =>
  rw [hn] at h
  obtain rfl:=h
  have hr:Hid (aF inner s i=.error er):=by unfold Hid;rw [hp.out];unfold pV;rw [hn]
  clear hn
  go_wp2_with fail
  exact aV rfl hr.out K3.out
 | ok k1 =>
  rw [hn] at h
  obtain ⟨rfl,R3⟩:=h
  have rZ:=ah R3;clear R3
  have hk1:k1≤s.size:=(fC hn).2.1
  have HN:=ah hn;clear hn
  go_wp2_with fail
  refine (wF.out k1 _ rZ.out hk1).mono ?_
  rintro e w4 ⟨k_,h⟩
  have F4:=ah (F3.out.kept k_ (by omega))
  have K4:=ah (K3.out.trans k_);clear k_
  cases ht:inner k1 with
  | error er =>
   rw [ht] at h
   obtain rfl:=h
   have hr:Hid (aF inner s i=.error er):=by unfold Hid;rw [hp.out];unfold pV;rw [HN.out];dsimp only;rw [ht]
   clear ht
   go_wp2_with fail
   exact aV rfl hr.out K4.out
  | ok y =>
   obtain ⟨q,k2⟩:=y
   rw [ht] at h
   obtain ⟨_,rfl,⟨S,hS,hq⟩,R4⟩:=h
   obtain ⟨ka,cap,rfl,hz,hk⟩:=hq
   have hk2:k2≤s.size:=(JZ.out _ _ _ hk1 ht).2
   have HT:=ah ht;clear ht
   have h34:=K3.out.size
   have hlt4:N<w4.heap.size∧W<w4.heap.size:=⟨R4.lt,R4.qO⟩
   have su:=ah (R4.kept ((Kept.refl aB w4).alloc (.cells #[.int .i64 q.kind,.string q.text,.int .i64 q.n,.string q.name,.slice ka q.kids.length cap] 57)) (fun h=>h) (fun h=>h))
   have P4:Hid (Five w4.heap.size (.int .i64 q.kind) (.string q.text) (.int .i64 q.n) (.string q.name) (.slice ka q.kids.length cap) (w4.alloc (.cells #[.int .i64 q.kind,.string q.text,.int .i64 q.n,.string q.name,.slice ka q.kids.length cap] 57))):=ay w4 _
   have V4:Hid (kP w4 S (.agg #[.int .i64 q.kind,.string q.text,.int .i64 q.n,.string q.name,.slice ka q.kids.length cap]) q):=⟨ka,cap,rfl,hz,hk⟩
   have HS:=ah hS
   clear R4 hz hk hS
   go_wp2_with fail
   refine (eX 41 N W (by decide) s k2 d _ su.out hk2 hs).mono ?_
   rintro e w5 ⟨k_,h⟩
   have F5:=ah ((F4.out.kept ((Kept.refl aB w4).alloc (.cells #[.int .i64 q.kind,.string q.text,.int .i64 q.n,.string q.name,.slice ka q.kids.length cap] 57)) (fun h=>h)).kept k_ (by omega))
   have K5:=ah ((K4.out.alloc (.cells #[.int .i64 q.kind,.string q.text,.int .i64 q.n,.string q.name,.slice ka q.kids.length cap] 57)).trans k_)
   have P5:=ah (P4.out.kept k_ (by omega))
   have V5:=ah (V4.out.kept' (((Kept.refl (· = N) w4).alloc (.cells #[.int .i64 q.kind,.string q.text,.int .i64 q.n,.string q.name,.slice ka q.kids.length cap] 57)).trans k_) (fun b hb=>⟨(HS.out b hb).2,by have:=(HS.out b hb).1;omega⟩))
   have hsz5:w4.heap.size<w5.heap.size:=by have:=k_.size;simp at this;omega
   clear k_
   cases hn:bT 41 s k2 with
   | error er =>
    rw [hn] at h
    obtain rfl:=h
    have hr:Hid (aF inner s i=.error er):=by unfold Hid;rw [hp.out];unfold pV;rw [HN.out];dsimp only;rw [HT.out];dsimp only;rw [hn]
    clear hn
    go_wp2_with fail
    exact aV rfl hr.out K5.out
   | ok k3 =>
    rw [hn] at h
    obtain ⟨rfl,R5⟩:=h
    have sD:=ah R5;clear R5
    have hr:Hid (aF inner s i=.ok (.mk 20 E0 0 E0 [q],k3)):=by unfold Hid;rw [hp.out];unfold pV;rw [HN.out];dsimp only;rw [HT.out];dsimp only;rw [hn]
    clear hn
    obtain ⟨c0,c1,c2,c3,c4,cf⟩:=F5.out.cells
    have f0:=cf 0;have f1:=cf 1;have f2:=cf 2;have f3:=cf 3;have f4:=cf 4;clear cf
    obtain ⟨p0,p1,p2,p3,p4,_⟩:=P5.out.cells
    have hS5:∀b,S b→b<w5.heap.size:=fun b hb=>Nat.lt_trans (HS.out b hb).2 hsz5
    obtain ⟨cc,hcc,hbx⟩:=V5.out.box 57 hS5
    simp only [Value.agg.injEq] at hcc
    subst hcc
    have BX:=ah (BF hbx)
    have Xn:=ah hS5
    have hw5:=K5.out.size
    have Uw:w.heap.size<w5.heap.size:=F5.out.lt
    clear hbx hS5
    go_wp2_with fail
    refine aac (p:=.mk 20 E0 0 E0 [q]) (ka:=some ⟨w5.heap.size,0,none⟩) (cap:=1) (S:=fun b=>S b∨b=w5.heap.size) rfl rfl F5.out sD.out K5.out (Nat.le_refl _) hN hW hr.out ⟨iG,iG,Jy q⟩ (fun b hb=>?_) BX.out
    have h3:=K3.out.size;have h3l:=F3.out.lt
    rcases hb with hb|rfl
    ·have:=HS.out b hb;omega
    ·omega
theorem Qs (N W:Nat) (s:aj) (i d:Nat) (w:World) (inner:Nat→cu aA) (hin:vS N W s d inner) (hfw:cZ s inner) (hr:dw N W s i d w) (hi:i≤s.size) (hs6:s.size≤65536) :
  Calls Tryz.prog 284 #[.pointer (some ⟨N,0,none⟩)] w (bC N W s d (aF inner s i) (fB w.heap.size) w):=by
 by_cases dA:peek s (skip s i)=39
 ·exact aad N W s i d w inner hr hi hs6 dA
 by_cases h64:peek s (skip s i)=64
 ·exact acn N W s i d w inner hr hi hs6 h64
 by_cases h42:peek s (skip s i)=42
 ·exact XJ N W s i d w inner hr hi hs6 h42
 cases ht:fQ s (skip s i) with
 | error er=>exact Qu N W s i d w inner hr hi hs6 dA h64 h42 er ht
 | ok x =>
  obtain ⟨⟨x,a⟩,k⟩:=x
  by_cases hb:kindOf x = -1∨kindOf x=0
  ·exact aae N W s i d w inner hr hi hs6 dA h64 h42 x a k ht hb
  by_cases h20:kindOf x=20
  ·exact UM N W s i d w inner hr hi hs6 dA h64 h42 x a k ht h20 hin hfw
  by_cases h2:kindOf x=2
  ·exact XK N W s i d w inner hr hi hs6 dA h64 h42 x a k ht h2
  by_cases h3:kindOf x=3
  ·exact UE N W s i d w inner hr hi hs6 dA h64 h42 x a k ht h3
  by_cases h4:kindOf x=4
  ·exact UF N W s i d w inner hr hi hs6 dA h64 h42 x a k ht h4
  by_cases h5:kindOf x=5
  ·exact UG N W s i d w inner hr hi hs6 dA h64 h42 x a k ht h5
  by_cases h6:kindOf x=6
  ·exact UH N W s i d w inner hr hi hs6 dA h64 h42 x a k ht h6
  by_cases h7:kindOf x=7
  ·exact UJ N W s i d w inner hr hi hs6 dA h64 h42 x a k ht h7
  by_cases h8:kindOf x=8
  ·exact XL N W s i d w inner hr hi hs6 dA h64 h42 x a k ht h8
  by_cases h9:kindOf x=9
  ·exact XM N W s i d w inner hr hi hs6 dA h64 h42 x a k ht h9
  by_cases h10:kindOf x=10
  ·exact UK N W s i d w inner hr hi hs6 dA h64 h42 x a k ht h10
  by_cases h11:kindOf x=11
  ·exact UL N W s i d w inner hr hi hs6 dA h64 h42 x a k ht h11
  exact UD N W s i d w inner hr hi hs6 dA h64 h42 x a k ht (kindOf x) rfl (by omega)
end Go.Proofs.YtgoijmpahffnhaaGreatDoor

namespace Go.Proofs.YtgoijmpahffnhaaGreatDoor
set_option linter.all false
open Go.RowKit
set_option maxRecDepth 100000
set_option maxHeartbeats 1000000
theorem Kept.ZW {N:Nat} {a w:World} (h:Kept (· = N) a w) (o:Nat) (u:Value):Kept (· = N) a (w.setCell ⟨N,o,none⟩ u):=h.setCell (p:=⟨N,o,none⟩) (.inl rfl) u
def Us (N W:Nat) (s:aj) (d:Nat) (alt:Nat→cu aA):Prop :=
 ∀(i:Nat) (w:World),dw N W s i d w→i≤s.size→Calls Tryz.prog 190 #[.pointer (some ⟨N,0,none⟩)] w (bC N W s d (alt i) (fB w.heap.size) w)
theorem Ut (N W:Nat) (s:aj):vS N W s 200 (gQ s 0):=by
 intro i w hr hi
 have HR:=ah hr;clear hr
 have R1:=(HR.out.kept ((Kept.refl aB w).alloc (.cells #[.int .i64 0,.string ⟨#[]⟩,.int .i64 0,.string ⟨#[]⟩,.slice none 0 0] 57)) (fun h=>h) (fun h=>h))
 have q3:=R1.c3;have f3:=R1.fr 3;have q1:=R1.c1
 have K:Hid (∀u,Kept (· = N) w ((w.alloc (.cells #[.int .i64 0,.string ⟨#[]⟩,.int .i64 0,.string ⟨#[]⟩,.slice none 0 0] 57)).setCell ⟨N,3,none⟩ u)):=fun u=>((Kept.refl _ w).alloc _).ZW 3 u
 clear R1
 go_enter Tryz.func282, Tryz.ntmps282
 go_wp2_with fail
 refine (iy _ 4 i _).mono ?_
 rintro e w2 ⟨rfl,rfl⟩
 go_wp2_with fail
 first|exact aV rfl rfl (K.out _)|trace_state
theorem Uu (N W:Nat) (s:aj) (d m:Nat) (hm:200=d+(m+1)) (ha:Us N W s (d+1) (ku (gQ s m) s)):vS N W s d (gQ s (m+1)):=by
 intro i w hr hi
 have HR:=ah hr;have HA:=ah ha
 have hN:=hr.lt;have hW:=hr.qO;clear hr ha
 have q3:=HR.out.c3;have f3:=HR.out.fr 3;have q1:=HR.out.c1
 have K:Hid (Kept (· = N) w ((w.setCell ⟨N,3,none⟩ (.int .i64 ((d+1:Nat):Int))).alloc (.cells #[.int .i64 0,.string ⟨#[]⟩,.int .i64 0,.string ⟨#[]⟩,.slice none 0 0] 57))):=((Kept.refl _ w).ZW 3 _).alloc _
 have R2:=ah ((HR.out.O1 (d+1)).kept ((Kept.refl aB _).alloc (.cells #[.int .i64 0,.string ⟨#[]⟩,.int .i64 0,.string ⟨#[]⟩,.slice none 0 0] 57)) (fun h=>h) (fun h=>h))
 have F0:Hid (Five w.heap.size (.int .i64 0) (.string ⟨#[]⟩) (.int .i64 0) (.string ⟨#[]⟩) (.slice none 0 0) ((w.setCell ⟨N,3,none⟩ (.int .i64 ((d+1:Nat):Int))).alloc (.cells #[.int .i64 0,.string ⟨#[]⟩,.int .i64 0,.string ⟨#[]⟩,.slice none 0 0] 57))) :=
  dX (by simp [World.setCell])
 have hd1:d≤199:=by omega
 have e0:Hid (gQ s (m+1) i=ku (gQ s m) s i):=rfl
 clear hm
 go_enter Tryz.func282, Tryz.ntmps282
 go_wp2_with fail
 refine (HA.out i _ R2.out hi).mono ?_
 rintro e w2 ⟨k_,h⟩
 have F2:=ah (F0.out.kept k_ (by omega))
 have K2:=ah (K.out.trans k_)
 have hsz:=k_.size
 simp at hsz
 clear k_
 cases ht:ku (gQ s m) s i with
 | error er =>
  rw [ht] at h
  obtain rfl:=h
  have hr:Hid (gQ s (m+1) i=.error er):=by unfold Hid;rw [e0.out,ht]
  clear ht q3 f3 q1
  go_wp2_with fail
  exact aV rfl hr.out K2.out
 | ok y =>
  obtain ⟨p,k⟩:=y
  rw [ht] at h
  obtain ⟨_,rfl,⟨S,hS,⟨ka,cap,rfl,hz,hk⟩⟩,R3⟩:=h
  have hr:Hid (gQ s (m+1) i=.ok (p,k)):=by unfold Hid;rw [e0.out,ht]
  have hlt3:=R3.lt
  have g3:=R3.c3;have gf:=R3.fr 3
  obtain ⟨W2,hW2⟩:∃W2:World,W2=(w2.setCell ⟨N,3,none⟩ (.int .i64 (d:Int))).alloc (.cells #[.int .i64 p.kind,.string p.text,.int .i64 p.n,.string p.name,.slice ka p.kids.length cap] 57):=⟨_,rfl⟩
  have kw:Kept (· = N) w2 W2:=by rw [hW2];exact ((Kept.refl _ w2).ZW 3 _).alloc _
  have RW:=(R3.O1 d).kept ((Kept.refl aB _).alloc (.cells #[.int .i64 p.kind,.string p.text,.int .i64 p.n,.string p.name,.slice ka p.kids.length cap] 57)) (fun h=>h) (fun h=>h)
  rw [←hW2] at RW
  have FW:=ah (F2.out.kept kw (by omega))
  have PW:Five w2.heap.size (.int .i64 p.kind) (.string p.text) (.int .i64 p.n) (.string p.name) (.slice ka p.kids.length cap) W2:=by
   rw [hW2];exact dX (by simp [World.setCell])
  have KW:=ah (K2.out.trans kw)
  have HKK:=ah (hk.kept kw (fun b hb=>⟨(hS b hb).2,by have:=(hS b hb).1;simp at this;omega⟩))
  have HS:=ah hS;have HZ:=ah hz
  have hsW:Hid (w2.heap.size<W2.heap.size):=PW.lt
  obtain ⟨c0,c1,c2,c3,c4,cf⟩:=FW.out.cells
  have f0:=cf 0;have f1:=cf 1;have f2:=cf 2;have f3':=cf 3;have f4:=cf 4;clear cf
  obtain ⟨p0,p1,p2,p3,p4,_⟩:=PW.cells
  have RWW:=ah RW
  clear ht q3 f3 q1 R3 hk hz hS RW PW kw
  have ed:((d+1:Nat):Int)-1=d:=by omega
  have ed2:(d:Int)+1-1=d:=by omega
  go_upto_region 6 with fail
  rw [←hW2]
  clear hW2 g3 gf
  go_wp2_with fail
  refine iE (p:=p) (S:=S) rfl rfl FW.out RWW.out KW.out (Nat.le_refl _) hN hW hr.out HZ.out (fun b hb=>?_) HKK.out
  have h1:=HS.out b hb;have h2:=hsW.out;simp at h1;omega
end Go.Proofs.YtgoijmpahffnhaaGreatDoor
