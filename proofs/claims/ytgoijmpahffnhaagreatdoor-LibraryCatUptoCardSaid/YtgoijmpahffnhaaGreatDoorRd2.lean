/-  -/
import Derived.Test.YtgoijmpahffnhaaGreatDoorLc6
namespace Go.Proofs.YtgoijmpahffnhaaGreatDoor
set_option linter.all false
open Go.RowKit
set_option maxRecDepth 100000
set_option maxHeartbeats 4000000
def bC {α:Type} (N W:Nat) (s:aj) (d:Nat) (r:cu α) (val:α→World→Value→Prop) (w:World) (e:Ending) (w':World):Prop :=
 Kept (· = N) w w'∧match r with
  | .ok (a,k)=>∃v,e=.returned v∧val a w' v∧dw N W s k d w'
  | .error er=>Threw er e
def xM (x:aj×Nat) (_:World) (v:Value):Prop:=v=.tuple #[.string x.1,.int .i64 x.2]
def UA (x:aj) (_:World) (v:Value):Prop:=v=.string x
theorem jX {s:aj} {k:Nat} (h:k<s.size):peek s k=s[k].toNat:=by unfold peek;rw [dif_pos h]
theorem oz {s:aj} {k:Nat} (h:0≤peek s k):k<s.size:=by
 unfold peek at h;split at h
 ·assumption
 ·omega
theorem Pq (c:UInt8):jO c=((decide ((65:Int)≤(c.toNat:Int))&&decide ((c.toNat:Int)≤90))||(decide ((48:Int)≤(c.toNat:Int))&&decide ((c.toNat:Int)≤57))):=by
 rw [Bool.eq_iff_iff];simp [jO,jD,dF];omega
theorem jm (N W:Nat) (s:aj) (i d:Nat) (w:World) (hr:dw N W s i d w) (hi:i≤s.size) (hs:s.size≤1000000000) :
  Calls Tryz.prog 300 #[.pointer (some ⟨N,0,none⟩)] w (bC N W s d (fQ s i) xM w):=by
 have HR:=ah hr;clear hr
 go_enter Tryz.func300, Tryz.ntmps300
 go_wp2_with fail
 refine (next_any N W s i d _ HR.out hi hs).mono ?_
 rintro e w1 ⟨rfl,R1,K1⟩
 have hle:=cO hi
 have q1:=R1.c1
 by_cases hp:65≤peek s (skip s i)∧peek s (skip s i)≤90
 ·obtain ⟨p1,p2⟩:=hp
  have g1:decide (peek s (skip s i)<65)=false:=au (by omega)
  have g2:decide (90<peek s (skip s i))=false:=au (by omega)
  have e2:Hid (fQ s i=.ok ((s.extract (skip s i) (bJ jO s (skip s i)),skip s i),bJ jO s (skip s i))):=by unfold Hid fQ;rw [if_pos ⟨p1,p2⟩]
  have Lr:=ah R1;have iL:=ah K1
  have G1:=ah g1;have G2:=ah g2
  clear R1 K1
  go_wp2_with fail
  generalize hj:skip s i=j at *
  clear g1 g2 G1 G2 p1 p2
  go_loopg [] (s.size-j) (fun f wr=>∃k,j≤k∧k≤s.size∧f=s.size-k∧Hid (bJ jO s k=bJ jO s j)∧dw N W s k d wr∧Kept (· = N) w wr)
  case atStart=>exact ⟨j,Nat.le_refl _,hle,rfl,rfl,Lr.out,iL.out⟩
  case round =>
   obtain ⟨k,hk1,hk2,rfl,hrun,hR,hK⟩:=hrel
   have q0:=hR.c0;have q1:=hR.c1;have f1:=hR.fr 1
   have RR:=ah hR;have KK:=ah hK
   clear hR hK Lr iL
   by_cases hlt:k<s.size
   ·have g1:decide ((k:Int)<(s.size:Int))=true:=ak (by omega)
    have bi:(k:Int)<(s.size:Int):=by omega
    have key:(jO s[k]=false∧∃E9 x90 Fa Fb:Bool,decide ((65:Int)≤(s[k].toNat:Int))=E9∧decide ((s[k].toNat:Int)≤90)=x90∧decide ((48:Int)≤(s[k].toNat:Int))=Fa∧decide ((s[k].toNat:Int)≤57)=Fb∧
       ((E9=false∧x90=true∧Fa=false∧Fb=true)∨(E9=false∧x90=true∧Fa=true∧Fb=false)∨(E9=true∧x90=false∧Fa=true∧Fb=false)))∨
      (jO s[k]=true∧∃E9 x90 Fa Fb:Bool,decide ((65:Int)≤(s[k].toNat:Int))=E9∧decide ((s[k].toNat:Int)≤90)=x90∧decide ((48:Int)≤(s[k].toNat:Int))=Fa∧decide ((s[k].toNat:Int)≤57)=Fb∧
       ((E9=false∧x90=true∧Fa=true∧Fb=true)∨(E9=true∧x90=true∧Fa=true∧Fb=false))):=by
     rw [Pq]
     rcases (show s[k].toNat<48∨(48≤s[k].toNat∧s[k].toNat≤57)∨(57<s[k].toNat∧s[k].toNat<65)∨(65≤s[k].toNat∧s[k].toNat≤90)∨90<s[k].toNat by omega) with h|h|h|h|h
     ·exact .inl ⟨by simp;omega,_,_,_,_,rfl,rfl,rfl,rfl,.inl ⟨au (by omega),ak (by omega),au (by omega),ak (by omega)⟩⟩
     ·exact .inr ⟨by simp;omega,_,_,_,_,rfl,rfl,rfl,rfl,.inl ⟨au (by omega),ak (by omega),ak (by omega),ak (by omega)⟩⟩
     ·exact .inl ⟨by simp;omega,_,_,_,_,rfl,rfl,rfl,rfl,.inr (.inl ⟨au (by omega),ak (by omega),ak (by omega),au (by omega)⟩)⟩
     ·exact .inr ⟨by simp;omega,_,_,_,_,rfl,rfl,rfl,rfl,.inr ⟨ak (by omega),ak (by omega),ak (by omega),au (by omega)⟩⟩
     ·exact .inl ⟨by simp;omega,_,_,_,_,rfl,rfl,rfl,rfl,.inr (.inr ⟨ak (by omega),au (by omega),ak (by omega),au (by omega)⟩)⟩
    rcases key with ⟨hw,E9,x90,Fa,Fb,h65,h90,h48,h57,hx⟩|⟨hw,E9,x90,Fa,Fb,h65,h90,h48,h57,hx⟩
    ·have e3:Hid (bJ jO s j=k):=hrun.out.symm.trans (OX hlt hw)
     have fin:Hid (∀w',dw N W s k d w'→Kept (· = N) w w'→bC N W s d (fQ s i) xM w (.returned (.tuple #[.string (s.extract j k),.int .i64 j])) w'):=by
      intro w' h1 h2;unfold bC;rw [e2.out,e3.out];exact ⟨h2,_,rfl,rfl,h1⟩
     clear hw
     rcases hx with ⟨rfl,rfl,rfl,rfl⟩|⟨rfl,rfl,rfl,rfl⟩|⟨rfl,rfl,rfl,rfl⟩
     all_goals
      go_wp2_with fail
      go_quiet (fail)
      go_wp2_with fail
      go_quiet (fail)
      go_wp2_with fail
      go_ret2
      exact fin.out _ ((RR.out.drewN _).drewN _) ((KK.out.drewN _).drewN _)
    ·have hr1:Hid (bJ jO s (k+1)=bJ jO s j):=(vP hlt hw).symm.trans hrun.out
     clear hw
     rcases hx with ⟨rfl,rfl,rfl,rfl⟩|⟨rfl,rfl,rfl,rfl⟩
     all_goals
      go_wp2_with fail
      go_quiet (fail)
      have R2:=ah ((RR.out.drewN nq).setAt (k+1));have K2:=ah ((KK.out.drewN nq).setCell (p:=⟨N,1,none⟩) (.inl rfl) (.int .i64 ((k+1:Nat):Int)))
      go_wp2_with fail
      go_roundg (s.size-(k+1))
      case measure=>omega
      case rel=>exact ⟨k+1,by omega,by omega,rfl,hr1,R2.out,K2.out⟩
   ·have g1:decide ((k:Int)<(s.size:Int))=false:=au (by omega)
    have e3:Hid (bJ jO s j=k):=hrun.out.symm.trans (run_end (by omega))
    have fin:Hid (∀w',dw N W s k d w'→Kept (· = N) w w'→bC N W s d (fQ s i) xM w (.returned (.tuple #[.string (s.extract j k),.int .i64 j])) w'):=by
     intro w' h1 h2;unfold bC;rw [e2.out,e3.out];exact ⟨h2,_,rfl,rfl,h1⟩
    go_wp2_with fail
    go_quiet (fail)
    go_wp2_with fail
    go_quiet (fail)
    go_wp2_with fail
    go_ret2
    exact fin.out _ ((RR.out.drewN _).drewN _) ((KK.out.drewN _).drewN _)
 ·have e2:fQ s i=.error (2,skip s i):=by unfold fQ;rw [if_neg hp]
  have fin:Hid (∀e,Threw (2,skip s i) e→bC N W s d (fQ s i) xM w e w1):=by intro e h;unfold bC;rw [e2];exact ⟨K1,h⟩
  clear R1 K1 e2
  rcases (show peek s (skip s i)<65∨(65≤peek s (skip s i)∧90<peek s (skip s i)) by omega) with h|⟨h0,h⟩
  ·have g1:decide (peek s (skip s i)<65)=true:=ak h
   clear hp h
   go_wp2_with fail
   refine (iy _ 2 (skip s i) w1).mono ?_
   rintro e w2 ⟨rfl,rfl⟩
   go_wp2_with fail
   exact ⟨rfl,fin.out _ rfl⟩
  ·have g1:decide (peek s (skip s i)<65)=false:=au (by omega)
   have g2:decide (90<peek s (skip s i))=true:=ak h
   clear hp h h0
   go_wp2_with fail
   refine (iy _ 2 (skip s i) w1).mono ?_
   rintro e w2 ⟨rfl,rfl⟩
   go_wp2_with fail
   exact ⟨rfl,fin.out _ rfl⟩
theorem iP {s:aj} {i k a:Nat} {x:aj} (hi:i≤s.size) (h:fQ s i=.ok ((x,a),k)):i<k∧k≤s.size∧x.size≤s.size∧a≤s.size∧0<x.size:=by
 unfold fQ at h
 split at h
 ·rename_i hp
  simp only [Except.ok.injEq,Prod.mk.injEq] at h
  obtain ⟨⟨rfl,rfl⟩,rfl⟩:=h
  have h1:=pW s i
  have hlt:skip s i<s.size:=oz (by omega)
  have h2:skip s i<bJ jO s (skip s i):=by
   have hw:jO s[skip s i]=true:=by
    rw [jX hlt] at hp;rw [Pq];simp;omega
   rw [vP hlt hw];have:=OY jO s (skip s i+1);omega
  have h3:=OZ (f:=jO) (cO hi)
  refine ⟨by omega,h3,?_,by omega,?_⟩<;>rw [ByteArray.size_extract]<;>omega
 ·cases h
theorem name_any (N W:Nat) (s:aj) (i d:Nat) (w:World) (hr:dw N W s i d w) (hi:i≤s.size) (hs:s.size≤1000000000) :
  Calls Tryz.prog 285 #[.pointer (some ⟨N,0,none⟩)] w (bC N W s d (nameP s i) UA w):=by
 have HR:=ah hr;clear hr
 go_enter Tryz.func285, Tryz.ntmps285
 go_wp2_with fail
 refine (jm N W s i d _ HR.out hi hs).mono ?_
 rintro e w1 ⟨K1,h⟩
 cases hw:fQ s i with
 | error er =>
  rw [hw] at h
  obtain rfl:=h
  have e1:nameP s i=.error er:=by unfold nameP;rw [hw]
  have fin:Hid (∀e,Threw er e→bC N W s d (nameP s i) UA w e w1):=by intro e h;unfold bC;rw [e1];exact ⟨K1,h⟩
  clear hw e1
  go_wp2_with fail
  exact ⟨rfl,fin.out _ rfl⟩
 | ok x =>
  obtain ⟨⟨x,a⟩,k⟩:=x
  rw [hw] at h
  obtain ⟨_,rfl,rfl,R1⟩:=h
  have hx:=(iP hi hw).2.2.1
  by_cases hl:16<x.size
  ·have e1:nameP s i=.error (7,a):=by unfold nameP;rw [hw];dsimp only;rw [if_pos hl]
   have fin:Hid (∀e,Threw (7,a) e→bC N W s d (nameP s i) UA w e w1):=by intro e h;unfold bC;rw [e1];exact ⟨K1,h⟩
   clear hw e1 R1 K1
   go_wp2_with fail
   refine (iy _ 7 a w1).mono ?_
   rintro e w2 ⟨rfl,rfl⟩
   go_wp2_with fail
   exact ⟨rfl,fin.out _ rfl⟩
  ·have e1:nameP s i=.ok (x,k):=by unfold nameP;rw [hw];dsimp only;rw [if_neg hl]
   have fin:Hid (bC N W s d (nameP s i) UA w (.returned (.string x)) w1):=by unfold Hid bC;rw [e1];exact ⟨K1,_,rfl,rfl,R1⟩
   clear hw e1 R1 K1
   go_wp2_with fail
   go_ret
   exact fin.out
end Go.Proofs.YtgoijmpahffnhaaGreatDoor
