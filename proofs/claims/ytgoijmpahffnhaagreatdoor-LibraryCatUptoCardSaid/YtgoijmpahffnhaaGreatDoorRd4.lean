/-  -/
import Derived.Test.YtgoijmpahffnhaaGreatDoorRd2
namespace Go.Proofs.YtgoijmpahffnhaaGreatDoor
set_option linter.all false
open Go.RowKit
set_option maxRecDepth 100000
set_option maxHeartbeats 4000000
def JC (s:aj) (k:Nat):Bool:=decide (48≤peek s k)&&decide (peek s k≤57)
def uy (s:aj) (j:Nat):Nat→Nat→Nat→cu Nat
 | 0,k,n=>.ok (n,k)
 | f+1,k,n =>
  if JC s k=true then
   (if k=j+1∧peek s j=48 then .error (2,k)
    else if 65536<10*n+((peek s k).toNat-48) then .error (3,j) else uy s j f (k+1) (10*n+((peek s k).toNat-48)))
  else .ok (n,k)
def kR (s:aj) (i:Nat):cu Nat :=
 if 48≤peek s (skip s i)∧peek s (skip s i)≤57 then uy s (skip s i) (s.size-skip s i) (skip s i) 0 else .error (2,skip s i)
def Gm (x:Nat) (_:World) (v:Value):Prop:=v=.int .i64 x
theorem uT (N W:Nat) (s:aj) (i d:Nat) (w:World) (hr:dw N W s i d w) (hi:i≤s.size) (hs:s.size≤1000000000) :
  Calls Tryz.prog 301 #[.pointer (some ⟨N,0,none⟩)] w (bC N W s d (kR s i) Gm w):=by
 have HR:=ah hr;clear hr
 go_enter Tryz.func301, Tryz.ntmps301
 go_wp2_with fail
 refine (next_any N W s i d _ HR.out hi hs).mono ?_
 rintro e w1 ⟨rfl,R1,K1⟩
 have hle:=cO hi
 have q1:=R1.c1
 by_cases hp:48≤peek s (skip s i)∧peek s (skip s i)≤57
 ·obtain ⟨p1,p2⟩:=hp
  have g1:decide (peek s (skip s i)<48)=false:=au (by omega)
  have g2:decide (57<peek s (skip s i))=false:=au (by omega)
  have e2:Hid (kR s i=uy s (skip s i) (s.size-skip s i) (skip s i) 0):=by unfold Hid kR;rw [if_pos ⟨p1,p2⟩]
  have Lr:=ah R1;have iL:=ah K1
  have hjl:skip s i<s.size:=oz (by omega)
  clear R1 K1
  go_wp2_with fail
  generalize hj:skip s i=j at *
  clear g1 g2 p1 p2 hj
  go_loopg [5] (s.size-j) (fun f v wr=>∃k n:Nat,j≤k∧k≤s.size∧f=s.size-k∧v=.int .i64 n∧n≤65536∧Hid (kR s i=uy s j (s.size-k) k n)∧dw N W s k d wr∧Kept (· = N) w wr)
  case atStart=>exact ⟨j,0,Nat.le_refl _,hle,rfl,rfl,by omega,e2,Lr.out,iL.out⟩
  case round =>
   obtain ⟨k,n,hk1,hk2,rfl,rfl,hn,hnum,hR,hK⟩:=hrel
   have q0:=hR.c0;have q1:=hR.c1;have f1:=hR.fr 1
   have RR:=ah hR;have KK:=ah hK
   clear hR hK Lr iL e2
   by_cases hlt:k<s.size
   ·have g1:decide ((k:Int)<(s.size:Int))=true:=ak (by omega)
    have bi:(k:Int)<(s.size:Int):=by omega
    have hstep:s.size-k=(s.size-(k+1))+1:=by omega
    rw [hstep,uy] at hnum
    by_cases hd:48≤s[k].toNat∧s[k].toNat≤57
    ·have h48:decide ((48:Int)≤(s[k].toNat:Int))=true:=ak (by omega)
     have h57:decide ((s[k].toNat:Int)≤57)=true:=ak (by omega)
     have hD:JC s k=true:=by unfold JC;rw [jX hlt];simp;omega
     rw [if_pos hD] at hnum
     have bj:(j:Int)<(s.size:Int):=by omega
     have hjw:s[j].toNat<256:=s[j].toNat_lt
     by_cases hz:k=j+1∧s[j].toNat=48
     ·obtain ⟨hz1,hz2⟩:=hz
      have fin:Hid (∀e w',Threw (2,k) e→Kept (· = N) w w'→bC N W s d (kR s i) Gm w e w'):=by
       intro e w' h h2;unfold bC;rw [hnum.out,if_pos ⟨hz1,by rw [jX hjl,hz2];rfl⟩];exact ⟨h2,h⟩
      have g3:((k:Int)==(j:Int)+1)=true:=by simp;omega
      have g4:((s[j].toNat:Int)==48)=true:=by simp;omega
      clear hz1 hz2 hnum
      go_wp2_with fail
      go_quiet (fail)
      go_wp2_with fail
      refine (iy _ 2 k _).mono ?_
      rintro e w2 ⟨rfl,rfl⟩
      go_wp2_with fail
      exact ⟨rfl,fin.out _ _ rfl (KK.out.drewN _)⟩
     ·rw [if_neg (by rw [jX hjl];omega)] at hnum
      have hpk:(peek s k).toNat=s[k].toNat:=by rw [jX hlt];omega
      rw [hpk] at hnum
      obtain ⟨x,hx⟩:∃x:Nat,x=10*n+(s[k].toNat-48):=⟨_,rfl⟩
      rw [←hx] at hnum
      have hxi:(10:Int)*(n:Int)+((s[k].toNat:Int)-48)=(x:Int):=by omega
      have hxb:x≤655369:=by omega
      obtain ⟨hd1,hd2⟩:=hd
      have hm1:IntKind.i64.wrap (10*(n:Int))=10*(n:Int):=IntWalk.i64_in _ (by omega)
      have hm2:IntKind.u8.wrap ((s[k].toNat:Int)-48)=(s[k].toNat:Int)-48:=by unfold IntKind.wrap;simp [IntKind.signed,IntKind.bits];omega
      clear hx
      by_cases hk0:k=j+1
      ·have g3:((k:Int)==(j:Int)+1)=true:=by simp;omega
       have g4:((s[j].toNat:Int)==48)=false:=by simp;omega
       clear hz hk0
       by_cases hx6:65536<x
       ·rw [if_pos hx6] at hnum
        have fin:Hid (∀e w',Threw (3,j) e→Kept (· = N) w w'→bC N W s d (kR s i) Gm w e w'):=by intro e w' h h2;unfold bC;rw [hnum.out];exact ⟨h2,h⟩
        clear hnum
        go_wp2_with fail
        go_quiet (fail)
        revert nq;intro nq1
        go_wp2_with fail
        go_quiet (fail)
        revert nq;intro wO
        go_wp2_with fail
        refine (iy _ 3 j _).mono ?_
        rintro e w2 ⟨rfl,rfl⟩
        go_wp2_with fail
        exact ⟨rfl,fin.out _ _ rfl (KK.out.drewN _)⟩
       ·rw [if_neg hx6] at hnum
        have UC:=hnum
        clear hnum
        have hx7:x≤65536:=by omega
        clear hx6
        go_wp2_with fail
        go_quiet (fail)
        revert nq;intro nq1
        go_wp2_with fail
        go_quiet (fail)
        revert nq;intro wO
        have R2:=ah ((RR.out.drewN (nq1+wO)).setAt (k+1));have K2:=ah ((KK.out.drewN (nq1+wO)).setCell (p:=⟨N,1,none⟩) (.inl rfl) (.int .i64 ((k+1:Nat):Int)))
        go_wp2_with fail
        go_roundg (s.size-(k+1))
        case measure=>omega
        case rel=>exact ⟨k+1,x,by omega,by omega,rfl,rfl,hx7,UC,R2.out,K2.out⟩
      ·have g3:((k:Int)==(j:Int)+1)=false:=by simp;omega
       clear hz hk0
       by_cases hx6:65536<x
       ·rw [if_pos hx6] at hnum
        have fin:Hid (∀e w',Threw (3,j) e→Kept (· = N) w w'→bC N W s d (kR s i) Gm w e w'):=by intro e w' h h2;unfold bC;rw [hnum.out];exact ⟨h2,h⟩
        clear hnum
        go_wp2_with fail
        go_quiet (fail)
        revert nq;intro nq1
        go_wp2_with fail
        go_quiet (fail)
        revert nq;intro wO
        go_wp2_with fail
        refine (iy _ 3 j _).mono ?_
        rintro e w2 ⟨rfl,rfl⟩
        go_wp2_with fail
        exact ⟨rfl,fin.out _ _ rfl (KK.out.drewN _)⟩
       ·rw [if_neg hx6] at hnum
        have UC:=hnum
        clear hnum
        have hx7:x≤65536:=by omega
        clear hx6
        go_wp2_with fail
        go_quiet (fail)
        revert nq;intro nq1
        go_wp2_with fail
        go_quiet (fail)
        revert nq;intro wO
        have R2:=ah ((RR.out.drewN (nq1+wO)).setAt (k+1));have K2:=ah ((KK.out.drewN (nq1+wO)).setCell (p:=⟨N,1,none⟩) (.inl rfl) (.int .i64 ((k+1:Nat):Int)))
        go_wp2_with fail
        go_roundg (s.size-(k+1))
        case measure=>omega
        case rel=>exact ⟨k+1,x,by omega,by omega,rfl,rfl,hx7,UC,R2.out,K2.out⟩
    ·have hD:JC s k=false:=by unfold JC;rw [jX hlt];simp;omega
     rw [if_neg (by rw [hD];simp)] at hnum
     have fin:Hid (∀w',dw N W s k d w'→Kept (· = N) w w'→bC N W s d (kR s i) Gm w (.returned (.int .i64 n)) w'):=by
      intro w' h1 h2;unfold bC;rw [hnum.out];exact ⟨h2,_,rfl,rfl,h1⟩
     clear hnum hD
     rcases (show s[k].toNat<48∨(48≤s[k].toNat∧57<s[k].toNat) by omega) with h|⟨h0,h⟩
     ·have h48:decide ((48:Int)≤(s[k].toNat:Int))=false:=au (by omega)
      clear hd h
      go_wp2_with fail
      go_quiet (fail)
      go_wp2_with fail
      go_ret
      exact fin.out _ (RR.out.drewN _) (KK.out.drewN _)
     ·have h48:decide ((48:Int)≤(s[k].toNat:Int))=true:=ak (by omega)
      have h57:decide ((s[k].toNat:Int)≤57)=false:=au (by omega)
      clear hd h0 h
      go_wp2_with fail
      go_quiet (fail)
      go_wp2_with fail
      go_ret
      exact fin.out _ (RR.out.drewN _) (KK.out.drewN _)
   ·have g1:decide ((k:Int)<(s.size:Int))=false:=au (by omega)
    rw [show s.size-k=0 by omega,uy] at hnum
    have fin:Hid (∀w',dw N W s k d w'→Kept (· = N) w w'→bC N W s d (kR s i) Gm w (.returned (.int .i64 n)) w'):=by
     intro w' h1 h2;unfold bC;rw [hnum.out];exact ⟨h2,_,rfl,rfl,h1⟩
    clear hnum
    go_wp2_with fail
    go_quiet (fail)
    go_wp2_with fail
    go_ret
    exact fin.out _ (RR.out.drewN _) (KK.out.drewN _)
 ·have e2:kR s i=.error (2,skip s i):=by unfold kR;rw [if_neg hp]
  have fin:Hid (∀e,Threw (2,skip s i) e→bC N W s d (kR s i) Gm w e w1):=by intro e h;unfold bC;rw [e2];exact ⟨K1,h⟩
  clear R1 K1 e2
  rcases (show peek s (skip s i)<48∨(48≤peek s (skip s i)∧57<peek s (skip s i)) by omega) with h|⟨h0,h⟩
  ·have g1:decide (peek s (skip s i)<48)=true:=ak h
   clear hp h
   go_wp2_with fail
   refine (iy _ 2 (skip s i) w1).mono ?_
   rintro e w2 ⟨rfl,rfl⟩
   go_wp2_with fail
   exact ⟨rfl,fin.out _ rfl⟩
  ·have g1:decide (peek s (skip s i)<48)=false:=au (by omega)
   have g2:decide (57<peek s (skip s i))=true:=ak h
   clear hp h h0
   go_wp2_with fail
   refine (iy _ 2 (skip s i) w1).mono ?_
   rintro e w2 ⟨rfl,rfl⟩
   go_wp2_with fail
   exact ⟨rfl,fin.out _ rfl⟩
theorem Px {s:aj} {j:Nat}:∀(f k n:Nat) {m k':Nat},uy s j f k n=.ok (m,k')→k≤s.size→n≤65536→k≤k'∧k'≤s.size∧m≤65536
 | 0,k,n,m,k',h,hk,hn=>by simp [uy] at h;omega
 | f+1,k,n,m,k',h,hk,hn=>by
  rw [uy] at h
  split at h
  ·rename_i hd
   have hlt:k<s.size:=by
    unfold JC at hd
    simp only [Bool.and_eq_true,decide_eq_true_eq] at hd
    exact oz (by omega)
   split at h
   ·cases h
   ·split at h
    ·cases h
    ·have:=Px f _ _ h (by omega) (by omega);omega
  ·simp at h;omega
theorem xW {s:aj} {i m k:Nat} (hi:i≤s.size) (h:kR s i=.ok (m,k)):i≤k∧k≤s.size∧m≤65536:=by
 unfold kR at h
 split at h
 ·have h1:=Px _ _ _ h (cO hi) (by omega)
  have h2:=pW s i
  omega
 ·cases h
end Go.Proofs.YtgoijmpahffnhaaGreatDoor
