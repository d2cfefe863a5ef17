/-  -/
import Derived.Test.YtgoijmpahffnhaaGreatDoorRd3
import Derived.Test.YtgoijmpahffnhaaGreatDoorRd4
import Derived.Test.YtgoijmpahffnhaaGreatDoorShelf
import Derived.Test.YtgoijmpahffnhaaGreatDoorLc8
namespace Go.Proofs.YtgoijmpahffnhaaGreatDoor
set_option linter.all false
open Go.RowKit
def E0:aj:=⟨#[]⟩
def kindOf (x:aj):Int:=Lib.idxOfS yD x
def bP (s:aj) (k:Nat) (kd:Int):cu aA :=
 match bT 40 s k with
 | .error e=>.error e
 | .ok k1=>match gY s k1 with
  | .error e=>.error e
  | .ok ((t,a),k2)=>if t.size=0 then .error (8,a) else
   match bT 41 s k2 with
   | .error e=>.error e
   | .ok k3=>.ok (.mk kd t 0 E0 [],k3)
def dV (s:aj) (k:Nat) (kd:Int):cu aA :=
 match bT 40 s k with
 | .error e=>.error e
 | .ok k1=>match kR s k1 with
  | .error e=>.error e
  | .ok (n,k2)=>match bT 41 s k2 with
   | .error e=>.error e
   | .ok k3=>.ok (.mk kd E0 n E0 [],k3)
def pV (inner:Nat→cu aA) (s:aj) (k:Nat) (kd:Int):cu aA :=
 match bT 40 s k with
 | .error e=>.error e
 | .ok k1=>match inner k1 with
  | .error e=>.error e
  | .ok (p,k2)=>match bT 41 s k2 with
   | .error e=>.error e
   | .ok k3=>.ok (.mk kd E0 0 E0 [p],k3)
def lS (inner:Nat→cu aA) (s:aj) (a k:Nat) (kd:Int):cu aA :=
 if kd = -1∨kd=0 then .error (7,a)
 else if 3≤kd∧kd≤7 then bP s k kd
 else if kd=2∨(8≤kd∧kd≤11) then dV s k kd
 else if kd=20 then pV inner s k kd
 else .ok (.mk kd E0 0 E0 [],k)
def Fv (s:aj) (j:Nat):cu aA :=
 match gY s j with
 | .error e=>.error e
 | .ok ((t,_),k)=>.ok (.mk 1 t 0 E0 [],k)
def yL (s:aj) (j:Nat) (kd:Int):cu aA :=
 match nameP s j with
 | .error e=>.error e
 | .ok (nm,k)=>.ok (.mk kd E0 0 nm [],k)
def kW (inner:Nat→cu aA) (s:aj) (j:Nat):cu aA :=
 match fQ s j with
 | .error e=>.error e
 | .ok ((x,a),k)=>lS inner s a k (kindOf x)
def aF (inner:Nat→cu aA) (s:aj) (i:Nat):cu aA :=
 if peek s (skip s i)=39 then Fv s (skip s i)
 else if peek s (skip s i)=64 then yL s (skip s i+1) 23
 else if peek s (skip s i)=42 then yL s (skip s i+1) 24
 else kW inner s (skip s i)
def mP (s:aj):Nat→aA→Nat→cu aA
 | 0,p,k=>.ok (p,k)
 | f+1,p,k =>
  if (fV 46 s k).1=true then
   match nameP s (fV 46 s k).2 with
   | .error e=>.error e
   | .ok (nm,k1)=>mP s f (.mk 21 E0 0 nm [p]) k1
  else if (fV 36 s (fV 46 s k).2).1=true then
   match nameP s (fV 36 s (fV 46 s k).2).2 with
   | .error e=>.error e
   | .ok (nm,k1)=>mP s f (.mk 22 E0 0 nm [p]) k1
  else .ok (p,(fV 36 s (fV 46 s k).2).2)
def mQ (inner:Nat→cu aA) (s:aj) (i:Nat):cu aA :=
 if (fV 40 s i).1=true then
  match inner (fV 40 s i).2 with
  | .error e=>.error e
  | .ok (p,k)=>match bT 41 s k with
   | .error e=>.error e
   | .ok k1=>.ok (p,k1)
 else aF inner s (fV 40 s i).2
def iY (inner:Nat→cu aA) (s:aj) (i:Nat):cu aA :=
 match mQ inner s i with
 | .error e=>.error e
 | .ok (p,k)=>mP s (s.size+1-k) p k
def starts (c:Int):Bool:=c==40||c==39||c==64||c==42||(decide (65≤c)&&decide (c≤90))
def uS (kd:Int) (l:List aA):aA:=match l with | [p]=>p|l=>.mk kd E0 0 E0 l
def qU (inner:Nat→cu aA) (s:aj):Nat→List aA→Nat→cu aA
 | 0,l,k=>.ok (uS 18 l,k)
 | f+1,l,k =>
  if starts (peek s (skip s k))=true then
   match iY inner s (skip s k) with
   | .error e=>.error e
   | .ok (p,k1)=>qU inner s f (l++[p]) k1
  else .ok (uS 18 l,skip s k)
def jZ (inner:Nat→cu aA) (s:aj) (i:Nat):cu aA :=
 match iY inner s i with
 | .error e=>.error e
 | .ok (p,k)=>qU inner s (s.size+1-k) [p] k
def qV (inner:Nat→cu aA) (s:aj):Nat→List aA→Nat→cu aA
 | 0,l,k=>.ok (uS 19 l,k)
 | f+1,l,k =>
  if (fV 124 s k).1=true then
   match jZ inner s (fV 124 s k).2 with
   | .error e=>.error e
   | .ok (p,k1)=>qV inner s f (l++[p]) k1
  else .ok (uS 19 l,(fV 124 s k).2)
def ku (inner:Nat→cu aA) (s:aj) (i:Nat):cu aA :=
 match jZ inner s i with
 | .error e=>.error e
 | .ok (p,k)=>qV inner s (s.size+1-k) [p] k
def gQ (s:aj):Nat→Nat→cu aA
 | 0,i=>.error (4,i)
 | m+1,i=>ku (gQ s m) s i
end Go.Proofs.YtgoijmpahffnhaaGreatDoor

namespace Go.Proofs.YtgoijmpahffnhaaGreatDoor
set_option linter.all false
open Go.RowKit
set_option maxRecDepth 100000
set_option maxHeartbeats 1000000
theorem iG:E0.size<1000000000:=by decide
theorem jY:([]:List aA).length<1000000000:=by decide
theorem Jy (p:aA):[p].length<1000000000:=by simp
def fB (B:Nat) (p:aA) (w':World) (v:Value):Prop:=∃S:Nat→Prop,(∀b,S b→B≤b∧b<w'.heap.size)∧kP w' S v p
def vS (N W:Nat) (s:aj) (d:Nat) (inner:Nat→cu aA):Prop :=
 ∀(i:Nat) (w:World),dw N W s i d w→i≤s.size→Calls Tryz.prog 282 #[.pointer (some ⟨N,0,none⟩)] w (bC N W s d (inner i) (fB w.heap.size) w)
theorem Five.aZ {M:Nat} {z0 z1 z2 z3 z4:Value} {w:World} (h:Five M z0 z1 z2 z3 z4 w) (c0 c1 c2 c3 c4:Value):Five M c0 c1 c2 c3 c4 (aZ w M c0 c1 c2 c3 c4):=by
 unfold Five at h⊢
 unfold Go.Proofs.YtgoijmpahffnhaaGreatDoor.aZ
 rw [aP (aP (aP (aP (aP h _) _) _) _) _];rfl
theorem Kept.aZ {X:Nat→Prop} {a w:World} (h:Kept X a w) {M:Nat} (hM:X M∨a.heap.size≤M) (c0 c1 c2 c3 c4:Value):Kept X a (aZ w M c0 c1 c2 c3 c4) :=
 ((((h.setCell (p:=⟨M,0,none⟩) hM _).setCell (p:=⟨M,1,none⟩) hM _).setCell (p:=⟨M,2,none⟩) hM _).setCell (p:=⟨M,3,none⟩) hM _).setCell (p:=⟨M,4,none⟩) hM _
theorem Py {f:Func} (hres:f.results = #[.cell 2 57]) {tmps:Array Value} {M:Nat} (ht:tmps.getD 2 undef=.pointer (some ⟨M,0,none⟩)) {c0 c1 c2 c3 c4:Value} {w:World} (h:Five M c0 c1 c2 c3 c4 w) :
  (results f tmps).run Tryz.prog w=.ok (.agg #[c0,c1,c2,c3,c4]) w:=by
 obtain ⟨h0,h1,h2,h3,h4,_⟩:=h.cells
 have ht':tmps[2]?.getD undef=.pointer (some ⟨M,0,none⟩):=by rw [←ht,Array.getD_eq_getD_getElem?]
 simp [results,hres,go_sem,ht',h0,h1,h2,h3,h4]
theorem Pz {f:Func} (hres:f.results = #[.cell 2 57]) {tmps:Array Value} {M N W:Nat} {s:aj} {d k:Nat} {r:cu aA} {p:aA} {w w2 w':World} {ka:Option Addr} {cap:Nat} {S:Nat→Prop}
  (ht:tmps.getD 2 undef=.pointer (some ⟨M,0,none⟩)) (F:Five M (.int .i64 p.kind) (.string p.text) (.int .i64 p.n) (.string p.name) (.slice ka p.kids.length cap) w') (K5:Kept (· = M) w2 w') (R:dw N W s k d w2) (K:Kept (· = N) w w2) (hM:w.heap.size≤M) (hN:N<w.heap.size) (hW:W<w.heap.size)
  (hr:r=.ok (p,k)) (hz:p.text.size<1000000000∧p.name.size<1000000000∧p.kids.length<1000000000) (hS:∀b,S b→w.heap.size≤b∧b<w2.heap.size∧b≠M) (hp:aI w2 S ka p.kids) :
  bodyPost Tryz.prog f (bC N W s d r (fB w.heap.size) w) .ret ⟨tmps,[]⟩ w':=by
 refine bodyPost_ret (v:=.agg #[.int .i64 p.kind,.string p.text,.int .i64 p.n,.string p.name,.slice ka p.kids.length cap]) (Py hres ht F) rfl ?_
 unfold bC
 rw [hr]
 refine ⟨K.step K5 (fun y hy=>.inr (by omega)),_,rfl,⟨S,fun b hb=>⟨(hS b hb).1,Nat.lt_of_lt_of_le (hS b hb).2.1 K5.size⟩,ka,cap,rfl,hz,?_⟩,R.kept K5 (by omega) (by omega)⟩
 exact hp.kept K5 fun b hb=>⟨(hS b hb).2.1,(hS b hb).2.2⟩
theorem iE {f:Func} (hres:f.results = #[.cell 2 57]) {tmps:Array Value} {M N W:Nat} {s:aj} {d k:Nat} {r:cu aA} {p:aA} {w w2:World} {ka:Option Addr} {cap:Nat} {S:Nat→Prop} {z0 z1 z2 z3 z4:Value}
  (ht:tmps.getD 2 undef=.pointer (some ⟨M,0,none⟩)) (F:Five M z0 z1 z2 z3 z4 w2) (R:dw N W s k d w2) (K:Kept (· = N) w w2) (hM:w.heap.size≤M) (hN:N<w.heap.size) (hW:W<w.heap.size)
  (hr:r=.ok (p,k)) (hz:p.text.size<1000000000∧p.name.size<1000000000∧p.kids.length<1000000000) (hS:∀b,S b→w.heap.size≤b∧b<w2.heap.size∧b≠M) (hp:aI w2 S ka p.kids) :
  bodyPost Tryz.prog f (bC N W s d r (fB w.heap.size) w) .ret ⟨tmps,[]⟩ (aZ w2 M (.int .i64 p.kind) (.string p.text) (.int .i64 p.n) (.string p.name) (.slice ka p.kids.length cap)) :=
 Pz hres ht (F.aZ _ _ _ _ _) ((Kept.refl (· = M) w2).aZ (.inl rfl) _ _ _ _ _) R K hM hN hW hr hz hS hp
theorem Il {w w1:World} {M:Nat} (o:Obj) (h:Kept (· = M) w w1) (hs:w1.heap.size=w.heap.size):Kept (· = M) (w.alloc o) (w1.alloc o):=by
 refine ⟨h.os,h.tape,h.output,by simp [hs],fun k hk hn=>?_⟩
 simp at hk
 by_cases e:k=w.heap.size
 ·subst e
  rw [show (w.alloc o).heap[w.heap.size]?=some o from ay w o,←hs];exact ay w1 o
 ·rw [Below.heap_alloc _ _ _ (show k<w.heap.size by omega),Below.heap_alloc _ _ _ (show k<w1.heap.size by omega)]
  exact h.block k (by omega) hn
theorem uq (w:World) (M:Nat) (c0 c1 c2 c3 c4:Value):(aZ w M c0 c1 c2 c3 c4).heap.size=w.heap.size:=by simp [aZ,World.setCell]
theorem aac {f:Func} (hres:f.results = #[.cell 2 57]) {tmps:Array Value} {M N W:Nat} {s:aj} {d k:Nat} {r:cu aA} {p:aA} {w w2:World} {o:Obj} {ka:Option Addr} {cap:Nat} {S:Nat→Prop} {z0 z1 z2 z3 z4:Value}
  (ht:tmps.getD 2 undef=.pointer (some ⟨M,0,none⟩)) (F:Five M z0 z1 z2 z3 z4 w2) (R:dw N W s k d w2) (K:Kept (· = N) w w2) (hM:w.heap.size≤M) (hN:N<w.heap.size) (hW:W<w.heap.size)
  (hr:r=.ok (p,k)) (hz:p.text.size<1000000000∧p.name.size<1000000000∧p.kids.length<1000000000) (hS:∀b,S b→w.heap.size≤b∧b<w2.heap.size+1∧b≠M) (hp:aI (w2.alloc o) S ka p.kids) :
  bodyPost Tryz.prog f (bC N W s d r (fB w.heap.size) w) .ret ⟨tmps,[]⟩ ((aZ w2 M (.int .i64 p.kind) (.string p.text) (.int .i64 p.n) (.string p.name) (.slice ka p.kids.length cap)).alloc o):=by
 have k5:Kept (· = M) w2 (aZ w2 M (.int .i64 p.kind) (.string p.text) (.int .i64 p.n) (.string p.name) (.slice ka p.kids.length cap)):=(Kept.refl (· = M) w2).aZ (.inl rfl) _ _ _ _ _
 refine Pz (w2:=w2.alloc o) (S:=S) hres ht ((F.aZ _ _ _ _ _).kept ((Kept.refl aB _).alloc o) (fun h=>h)) (Il o k5 (uq _ _ _ _ _ _ _)) (R.kept ((Kept.refl aB w2).alloc o) (fun h=>h) (fun h=>h)) (K.alloc o) hM hN hW hr hz (fun b hb=>?_) hp
 have:=hS b hb;simp;omega
theorem aV {α:Type} {f:Func} {a:Act} {N W:Nat} {s:aj} {d:Nat} {r:cu α} {er:Er} {val:α→World→Value→Prop} {w w':World} (ha:a.defers=[]) (hr:r=.error er) (K:Kept (· = N) w w') :
  bodyPost Tryz.prog f (bC N W s d r val w) (.panic [{v:=BD er,recovered:=false}]) a w':=by
 refine ⟨ha,?_⟩
 unfold bC;rw [hr];exact ⟨K,rfl⟩
theorem aad (N W:Nat) (s:aj) (i d:Nat) (w:World) (inner:Nat→cu aA) (hr:dw N W s i d w) (hi:i≤s.size) (hs6:s.size≤65536) (hc:peek s (skip s i)=39) :
  Calls Tryz.prog 284 #[.pointer (some ⟨N,0,none⟩)] w (bC N W s d (aF inner s i) (fB w.heap.size) w):=by
 have e0:Hid (aF inner s i=Fv s (skip s i)):=by unfold Hid aF;rw [if_pos hc]
 have HR:=ah hr
 have hN:=hr.lt;have hW:=hr.qO;clear hr
 have hle:=cO hi
 have hs:s.size≤1000000000:=by omega
 go_enter Tryz.func284, Tryz.ntmps284
 go_wp2_with fail
 refine (next_any N W s i d _ (HR.out.kept ((Kept.refl aB w).alloc _) (fun h=>h) (fun h=>h)) hi hs).mono ?_
 rintro e w1 ⟨rfl,R1,K1⟩
 have hb:(peek s (skip s i)==39)=true:=by simpa using hc
 have F1:Hid (Five w.heap.size (.int .i64 0) (.string ⟨#[]⟩) (.int .i64 0) (.string ⟨#[]⟩) (.slice none 0 0) w1):=Five.kept (ay w _) K1 (by omega)
 have iL:Hid (Kept (· = N) w w1):=((Kept.refl _ w).alloc _).trans K1
 have jP:=ah R1
 clear R1 K1 hc
 go_wp2_with fail
 refine (vU N W s (skip s i) d _ jP.out hle hs).mono ?_
 rintro e w2 ⟨K2,h⟩
 have F2:=ah (F1.out.kept K2 (by omega))
 cases ht:gY s (skip s i) with
 | error er =>
  rw [ht] at h
  obtain rfl:=h
  have hr:Hid (aF inner s i=.error er):=by unfold Hid;rw [e0.out];unfold Fv;rw [ht]
  clear ht
  go_wp2_with fail
  exact aV rfl hr.out (iL.out.trans K2)
 | ok x =>
  obtain ⟨⟨t,a⟩,k⟩:=x
  rw [ht] at h
  obtain ⟨_,rfl,rfl,R2⟩:=h
  obtain ⟨c0,c1,c2,c3,c4,cf⟩:=F2.out.cells
  have ji:=ah R2;clear R2
  have hts:t.size<1000000000:=by have:=jT ht;omega
  have hr:Hid (aF inner s i=.ok (.mk 1 t 0 E0 [],k)):=by unfold Hid;rw [e0.out];unfold Fv;rw [ht]
  clear ht
  have f0:=cf 0;have f1:=cf 1;have f2:=cf 2;have f3:=cf 3;have f4:=cf 4;clear cf
  go_wp2_with fail
  exact iE (p:=.mk 1 t 0 E0 []) (S:=aB) rfl rfl F2.out ji.out (iL.out.trans K2) (Nat.le_refl _) hN hW hr.out ⟨hts,iG,jY⟩ (fun b hb=>hb.elim) (by unfold aI;trivial)
end Go.Proofs.YtgoijmpahffnhaaGreatDoor

namespace Go.Proofs.YtgoijmpahffnhaaGreatDoor
set_option linter.all false
open Go.RowKit
set_option maxRecDepth 100000
set_option maxHeartbeats 4000000
theorem iq (W:Nat) (x:aj) (w:World) (h:ou W w) :
  Calls Tryz.prog 98 #[.slice (some ⟨W,0,none⟩) 21 21,.string x] w fun e w'=>e=.returned (.int .i64 (kindOf x))∧w=w':=by
 refine (Tryz.slices_Index_string W 0 21 21 yD x w (by decide) (by decide) fun j hj=>h.cell j hj).mono ?_
 rintro e w' ⟨rfl,rfl⟩
 exact ⟨rfl,rfl⟩
theorem En {s:aj} {i k:Nat} {nm:aj} (hi:i≤s.size) (h:nameP s i=.ok (nm,k)):nm.size<1000000000:=by
 unfold nameP at h
 cases hw:fQ s i with
 | error e=>rw [hw] at h;cases h
 | ok x =>
  obtain ⟨⟨x,a⟩,k'⟩:=x
  rw [hw] at h
  dsimp only at h
  split at h
  ·cases h
  ·simp only [Except.ok.injEq,Prod.mk.injEq] at h;obtain ⟨rfl,rfl⟩:=h;omega
theorem qR {s:aj} {i k:Nat} {nm:aj} (hi:i≤s.size) (h:nameP s i=.ok (nm,k)):i<k∧k≤s.size:=by
 unfold nameP at h
 cases hw:fQ s i with
 | error e=>rw [hw] at h;cases h
 | ok x =>
  obtain ⟨⟨x,a⟩,k'⟩:=x
  rw [hw] at h
  dsimp only at h
  split at h
  ·cases h
  ·simp only [Except.ok.injEq,Prod.mk.injEq] at h;obtain ⟨rfl,rfl⟩:=h;have:=iP hi hw;omega
theorem acn (N W:Nat) (s:aj) (i d:Nat) (w:World) (inner:Nat→cu aA) (hr:dw N W s i d w) (hi:i≤s.size) (hs6:s.size≤65536) (hc:peek s (skip s i)=64) :
  Calls Tryz.prog 284 #[.pointer (some ⟨N,0,none⟩)] w (bC N W s d (aF inner s i) (fB w.heap.size) w):=by
 have e0:Hid (aF inner s i=yL s (skip s i+1) 23):=by unfold Hid aF;rw [hc];rfl
 have hlt:skip s i<s.size:=oz (by omega)
 have HR:=ah hr
 have hN:=hr.lt;have hW:=hr.qO;clear hr
 have hle:=cO hi
 have hs:s.size≤1000000000:=by omega
 go_enter Tryz.func284, Tryz.ntmps284
 go_wp2_with fail
 refine (next_any N W s i d _ (HR.out.kept ((Kept.refl aB w).alloc _) (fun h=>h) (fun h=>h)) hi hs).mono ?_
 rintro e w1 ⟨rfl,R1,K1⟩
 have b1:(peek s (skip s i)==39)=false:=by simp;omega
 have b2:(peek s (skip s i)==64)=true:=by simpa using hc
 have F1:Hid (Five w.heap.size (.int .i64 0) (.string ⟨#[]⟩) (.int .i64 0) (.string ⟨#[]⟩) (.slice none 0 0) w1):=Five.kept (ay w _) K1 (by omega)
 have iL:Hid (Kept (· = N) w w1):=((Kept.refl _ w).alloc _).trans K1
 have q1:=R1.c1;have f1:=R1.fr 1
 have jP:=ah (R1.setAt (skip s i+1));have XI:=ah (iL.out.setCell (p:=⟨N,1,none⟩) (.inl rfl) (.int .i64 ((skip s i+1:Nat):Int)))
 have FF1:=ah (F1.out.kept ((Kept.refl (· = N) w1).setCell (p:=⟨N,1,none⟩) (.inl rfl) (.int .i64 ((skip s i+1:Nat):Int))) (by omega))
 clear R1 K1 hc
 go_wp2_with fail
 refine (name_any N W s (skip s i+1) d _ jP.out hlt hs).mono ?_
 rintro e w2 ⟨K2,h⟩
 have F2:=ah (FF1.out.kept K2 (by omega))
 cases ht:nameP s (skip s i+1) with
 | error er =>
  rw [ht] at h
  obtain rfl:=h
  have hr:Hid (aF inner s i=.error er):=by unfold Hid;rw [e0.out];unfold yL;rw [ht]
  clear ht
  go_wp2_with fail
  exact aV rfl hr.out (XI.out.trans K2)
 | ok x =>
  obtain ⟨nm,k⟩:=x
  rw [ht] at h
  obtain ⟨_,rfl,rfl,R2⟩:=h
  obtain ⟨c0,c1,c2,c3,c4,cf⟩:=F2.out.cells
  have ji:=ah R2;clear R2
  have hts:=En (show skip s i+1≤s.size from hlt) ht
  have hr:Hid (aF inner s i=.ok (.mk 23 E0 0 nm [],k)):=by unfold Hid;rw [e0.out];unfold yL;rw [ht]
  clear ht
  have f0:=cf 0;have f1':=cf 1;have f2:=cf 2;have f3:=cf 3;have f4:=cf 4;clear cf q1 f1
  go_wp2_with fail
  exact iE (p:=.mk 23 E0 0 nm []) (S:=aB) rfl rfl F2.out ji.out (XI.out.trans K2) (Nat.le_refl _) hN hW hr.out ⟨iG,hts,jY⟩ (fun b hb=>hb.elim) (by unfold aI;trivial)
theorem XJ (N W:Nat) (s:aj) (i d:Nat) (w:World) (inner:Nat→cu aA) (hr:dw N W s i d w) (hi:i≤s.size) (hs6:s.size≤65536) (hc:peek s (skip s i)=42) :
  Calls Tryz.prog 284 #[.pointer (some ⟨N,0,none⟩)] w (bC N W s d (aF inner s i) (fB w.heap.size) w):=by
 have e0:Hid (aF inner s i=yL s (skip s i+1) 24):=by unfold Hid aF;rw [hc];rfl
 have hlt:skip s i<s.size:=oz (by omega)
 have HR:=ah hr
 have hN:=hr.lt;have hW:=hr.qO;clear hr
 have hle:=cO hi
 have hs:s.size≤1000000000:=by omega
 go_enter Tryz.func284, Tryz.ntmps284
 go_wp2_with fail
 refine (next_any N W s i d _ (HR.out.kept ((Kept.refl aB w).alloc _) (fun h=>h) (fun h=>h)) hi hs).mono ?_
 rintro e w1 ⟨rfl,R1,K1⟩
 have b1:(peek s (skip s i)==39)=false:=by simp;omega
 have b2:(peek s (skip s i)==64)=false:=by simp;omega
 have b3:(peek s (skip s i)==42)=true:=by simpa using hc
 have F1:Hid (Five w.heap.size (.int .i64 0) (.string ⟨#[]⟩) (.int .i64 0) (.string ⟨#[]⟩) (.slice none 0 0) w1):=Five.kept (ay w _) K1 (by omega)
 have iL:Hid (Kept (· = N) w w1):=((Kept.refl _ w).alloc _).trans K1
 have q1:=R1.c1;have f1:=R1.fr 1
 have jP:=ah (R1.setAt (skip s i+1));have XI:=ah (iL.out.setCell (p:=⟨N,1,none⟩) (.inl rfl) (.int .i64 ((skip s i+1:Nat):Int)))
 have FF1:=ah (F1.out.kept ((Kept.refl (· = N) w1).setCell (p:=⟨N,1,none⟩) (.inl rfl) (.int .i64 ((skip s i+1:Nat):Int))) (by omega))
 clear R1 K1 hc
 go_wp2_with fail
 refine (name_any N W s (skip s i+1) d _ jP.out hlt hs).mono ?_
 rintro e w2 ⟨K2,h⟩
 have F2:=ah (FF1.out.kept K2 (by omega))
 cases ht:nameP s (skip s i+1) with
 | error er =>
  rw [ht] at h
  obtain rfl:=h
  have hr:Hid (aF inner s i=.error er):=by unfold Hid;rw [e0.out];unfold yL;rw [ht]
  clear ht
  go_wp2_with fail
  exact aV rfl hr.out (XI.out.trans K2)
 | ok x =>
  obtain ⟨nm,k⟩:=x
  rw [ht] at h
  obtain ⟨_,rfl,rfl,R2⟩:=h
  obtain ⟨c0,c1,c2,c3,c4,cf⟩:=F2.out.cells
  have ji:=ah R2;clear R2
  have hts:=En (show skip s i+1≤s.size from hlt) ht
  have hr:Hid (aF inner s i=.ok (.mk 24 E0 0 nm [],k)):=by unfold Hid;rw [e0.out];unfold yL;rw [ht]
  clear ht
  have f0:=cf 0;have f1':=cf 1;have f2:=cf 2;have f3:=cf 3;have f4:=cf 4;clear cf q1 f1
  go_wp2_with fail
  exact iE (p:=.mk 24 E0 0 nm []) (S:=aB) rfl rfl F2.out ji.out (XI.out.trans K2) (Nat.le_refl _) hN hW hr.out ⟨iG,hts,jY⟩ (fun b hb=>hb.elim) (by unfold aI;trivial)
theorem Qu (N W:Nat) (s:aj) (i d:Nat) (w:World) (inner:Nat→cu aA) (hr:dw N W s i d w) (hi:i≤s.size) (hs6:s.size≤65536) (dA:peek s (skip s i)≠39) (h64:peek s (skip s i)≠64) (h42:peek s (skip s i)≠42) (er:Er) (ht:fQ s (skip s i)=.error er) :
  Calls Tryz.prog 284 #[.pointer (some ⟨N,0,none⟩)] w (bC N W s d (aF inner s i) (fB w.heap.size) w):=by
 have e0:Hid (aF inner s i=kW inner s (skip s i)):=by unfold Hid aF;rw [if_neg dA,if_neg h64,if_neg h42]
 have HR:=ah hr
 have hN:=hr.lt;have hW:=hr.qO;clear hr
 have hle:=cO hi
 have hs:s.size≤1000000000:=by omega
 go_enter Tryz.func284, Tryz.ntmps284
 go_wp2_with fail
 refine (next_any N W s i d _ (HR.out.kept ((Kept.refl aB w).alloc _) (fun h=>h) (fun h=>h)) hi hs).mono ?_
 rintro e w1 ⟨rfl,R1,K1⟩
 have b1:(peek s (skip s i)==39)=false:=by simpa using dA
 have b2:(peek s (skip s i)==64)=false:=by simpa using h64
 have b3:(peek s (skip s i)==42)=false:=by simpa using h42
 have F1:Hid (Five w.heap.size (.int .i64 0) (.string ⟨#[]⟩) (.int .i64 0) (.string ⟨#[]⟩) (.slice none 0 0) w1):=Five.kept (ay w _) K1 (by omega)
 have iL:Hid (Kept (· = N) w w1):=((Kept.refl _ w).alloc _).trans K1
 have jP:=ah R1
 clear R1 K1 dA h64 h42
 have hr:Hid (aF inner s i=.error er):=by unfold Hid;rw [e0.out];unfold kW;rw [ht]
 go_wp2_with fail
 refine (jm N W s (skip s i) d _ jP.out hle hs).mono ?_
 rintro e w2 ⟨K2,h⟩
 rw [ht] at h
 obtain rfl:=h
 clear ht
 go_wp2_with fail
 exact aV rfl hr.out (iL.out.trans K2)
theorem aae (N W:Nat) (s:aj) (i d:Nat) (w:World) (inner:Nat→cu aA) (hr:dw N W s i d w) (hi:i≤s.size) (hs6:s.size≤65536) (dA:peek s (skip s i)≠39) (h64:peek s (skip s i)≠64) (h42:peek s (skip s i)≠42) (x:aj) (a k:Nat) (ht:fQ s (skip s i)=.ok ((x,a),k)) (hkd:kindOf x = -1∨kindOf x=0) :
  Calls Tryz.prog 284 #[.pointer (some ⟨N,0,none⟩)] w (bC N W s d (aF inner s i) (fB w.heap.size) w):=by
 have e0:Hid (aF inner s i=kW inner s (skip s i)):=by unfold Hid aF;rw [if_neg dA,if_neg h64,if_neg h42]
 have HR:=ah hr
 have hN:=hr.lt;have hW:=hr.qO;clear hr
 have hle:=cO hi
 have hs:s.size≤1000000000:=by omega
 go_enter Tryz.func284, Tryz.ntmps284
 go_wp2_with fail
 refine (next_any N W s i d _ (HR.out.kept ((Kept.refl aB w).alloc _) (fun h=>h) (fun h=>h)) hi hs).mono ?_
 rintro e w1 ⟨rfl,R1,K1⟩
 have b1:(peek s (skip s i)==39)=false:=by simpa using dA
 have b2:(peek s (skip s i)==64)=false:=by simpa using h64
 have b3:(peek s (skip s i)==42)=false:=by simpa using h42
 have F1:Hid (Five w.heap.size (.int .i64 0) (.string ⟨#[]⟩) (.int .i64 0) (.string ⟨#[]⟩) (.slice none 0 0) w1):=Five.kept (ay w _) K1 (by omega)
 have iL:Hid (Kept (· = N) w w1):=((Kept.refl _ w).alloc _).trans K1
 have jP:=ah R1
 clear R1 K1 dA h64 h42
 have hk:=iP hle ht
 have hx:x.size≤1000000:=by omega
 have hks:k≤s.size:=by omega
 have hr:Hid (aF inner s i=.error (7,a)):=by unfold Hid;rw [e0.out];unfold kW;rw [ht];dsimp only;unfold lS;rw [if_pos hkd]
 go_wp2_with fail
 refine (jm N W s (skip s i) d _ jP.out hle hs).mono ?_
 rintro e w2 ⟨K2,h⟩
 rw [ht] at h
 obtain ⟨_,rfl,rfl,R2⟩:=h
 have F2:=ah (F1.out.kept K2 (by omega))
 have nS:Hid (Kept (· = N) w w2):=iL.out.trans K2
 have q2:=R2.c2
 have ji:=ah R2
 clear R2 K2 ht hk b1 b2 b3
 go_wp2_with fail
 refine (iq W x _ ji.out.words).mono ?_
 rintro e w3 ⟨rfl,rfl⟩
 rcases hkd with hkd|hkd
 all_goals
  rw [hkd]
  clear hkd q2
  go_wp2_with fail
  refine (iy _ 7 a _).mono ?_
  rintro e w4 ⟨rfl,rfl⟩
  go_wp2_with fail
  exact aV rfl hr.out nS.out
theorem UD (N W:Nat) (s:aj) (i d:Nat) (w:World) (inner:Nat→cu aA) (hr:dw N W s i d w) (hi:i≤s.size) (hs6:s.size≤65536) (dA:peek s (skip s i)≠39) (h64:peek s (skip s i)≠64) (h42:peek s (skip s i)≠42) (x:aj) (a k:Nat) (ht:fQ s (skip s i)=.ok ((x,a),k)) (kd:Int) (hkd:kindOf x=kd) (ha:kd≠-1∧kd≠0∧kd≠2∧(kd<3∨11<kd)∧kd≠20) :
  Calls Tryz.prog 284 #[.pointer (some ⟨N,0,none⟩)] w (bC N W s d (aF inner s i) (fB w.heap.size) w):=by
 have e0:Hid (aF inner s i=kW inner s (skip s i)):=by unfold Hid aF;rw [if_neg dA,if_neg h64,if_neg h42]
 have HR:=ah hr
 have hN:=hr.lt;have hW:=hr.qO;clear hr
 have hle:=cO hi
 have hs:s.size≤1000000000:=by omega
 go_enter Tryz.func284, Tryz.ntmps284
 go_wp2_with fail
 refine (next_any N W s i d _ (HR.out.kept ((Kept.refl aB w).alloc _) (fun h=>h) (fun h=>h)) hi hs).mono ?_
 rintro e w1 ⟨rfl,R1,K1⟩
 have b1:(peek s (skip s i)==39)=false:=by simpa using dA
 have b2:(peek s (skip s i)==64)=false:=by simpa using h64
 have b3:(peek s (skip s i)==42)=false:=by simpa using h42
 have F1:Hid (Five w.heap.size (.int .i64 0) (.string ⟨#[]⟩) (.int .i64 0) (.string ⟨#[]⟩) (.slice none 0 0) w1):=Five.kept (ay w _) K1 (by omega)
 have iL:Hid (Kept (· = N) w w1):=((Kept.refl _ w).alloc _).trans K1
 have jP:=ah R1
 clear R1 K1 dA h64 h42
 have hk:=iP hle ht
 have hx:x.size≤1000000:=by omega
 have hks:k≤s.size:=by omega
 have hr:Hid (aF inner s i=.ok (.mk kd E0 0 E0 [],k)):=by
  unfold Hid;rw [e0.out];unfold kW;rw [ht];dsimp only;unfold lS;rw [hkd,if_neg (by omega),if_neg (by omega),if_neg (by omega),if_neg (by omega)]
 obtain ⟨a1,a2,a3,a4,a5⟩:=ha
 go_wp2_with fail
 refine (jm N W s (skip s i) d _ jP.out hle hs).mono ?_
 rintro e w2 ⟨K2,h⟩
 rw [ht] at h
 obtain ⟨_,rfl,rfl,R2⟩:=h
 have F2:=ah (F1.out.kept K2 (by omega))
 have nS:Hid (Kept (· = N) w w2):=iL.out.trans K2
 have q2:=R2.c2
 have ji:=ah R2
 clear R2 K2 ht hk b1 b2 b3
 go_wp2_with fail
 refine (iq W x _ ji.out.words).mono ?_
 rintro e w3 ⟨rfl,rfl⟩
 rw [hkd]
 clear hkd q2
 have z1:(kd == -1)=false:=by simpa using a1
 have z2:(kd==0)=false:=by simpa using a2
 have z3:(kd==2)=false:=by simpa using a3
 have z4:(kd==20)=false:=by simpa using a5
 have y3:(kd==3)=false:=by simp;omega
 have y4:(kd==4)=false:=by simp;omega
 have y5:(kd==5)=false:=by simp;omega
 have y6:(kd==6)=false:=by simp;omega
 have y7:(kd==7)=false:=by simp;omega
 have y8:(kd==8)=false:=by simp;omega
 have y9:(kd==9)=false:=by simp;omega
 have y10:(kd==10)=false:=by simp;omega
 have y11:(kd==11)=false:=by simp;omega
 clear a1 a2 a3 a4 a5
 obtain ⟨c0,c1,c2,c3,c4,cf⟩:=F2.out.cells
 have f0:=cf 0;have f1:=cf 1;have f2:=cf 2;have f3:=cf 3;have f4:=cf 4;clear cf
 go_wp2_with fail
 exact iE (p:=.mk kd E0 0 E0 []) (S:=aB) rfl rfl F2.out ji.out nS.out (Nat.le_refl _) hN hW hr.out ⟨iG,iG,jY⟩ (fun b hb=>hb.elim) (by unfold aI;trivial)
end Go.Proofs.YtgoijmpahffnhaaGreatDoor
