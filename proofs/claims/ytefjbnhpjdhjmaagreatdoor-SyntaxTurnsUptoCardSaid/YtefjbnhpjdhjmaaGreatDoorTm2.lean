/-  -/
import Derived.Test.YtefjbnhpjdhjmaaGreatDoorRd3
import Derived.Test.YtefjbnhpjdhjmaaGreatDoorRd4
import Derived.Test.YtefjbnhpjdhjmaaGreatDoorShelf
import Derived.Test.YtefjbnhpjdhjmaaGreatDoorTm13
namespace Go.Proofs.YtefjbnhpjdhjmaaGreatDoor
set_option linter.all false
open Go.RowKit
def E0:aj:=⟨#[]⟩
def kindOf (x:aj):Int:=Lib.idxOfS oU x
def pk (k:Int) (t:aj) (n:Int) (nm:aj) (l:List aA):aA:=.mk k t n nm l
def dD (s:aj) (k:Nat) (kd:Int):bT aA :=
 match dh 40 s k with
 | .error e=>.error e
 | .ok k1=>match iL s k1 with
  | .error e=>.error e
  | .ok ((t,a),k2)=>if t.size=0 then .error (8,a) else
   match dh 41 s k2 with
   | .error e=>.error e
   | .ok k3=>.ok (.mk kd t 0 E0 [],k3)
def fO (s:aj) (k:Nat) (kd:Int):bT aA :=
 match dh 40 s k with
 | .error e=>.error e
 | .ok k1=>match lW s k1 with
  | .error e=>.error e
  | .ok (n,k2)=>match dh 41 s k2 with
   | .error e=>.error e
   | .ok k3=>.ok (.mk kd E0 n E0 [],k3)
def nT (inner:Nat→bT aA) (s:aj) (k:Nat) (kd:Int):bT aA :=
 match dh 40 s k with
 | .error e=>.error e
 | .ok k1=>match inner k1 with
  | .error e=>.error e
  | .ok (p,k2)=>match dh 41 s k2 with
   | .error e=>.error e
   | .ok k3=>.ok (.mk kd E0 0 E0 [p],k3)
def kT (inner:Nat→bT aA) (s:aj) (a k:Nat) (kd:Int):bT aA :=
 if kd = -1∨kd=0 then .error (7,a)
 else if 3≤kd∧kd≤7 then dD s k kd
 else if kd=2∨(8≤kd∧kd≤11) then fO s k kd
 else if kd=20 then nT inner s k kd
 else .ok (.mk kd E0 0 E0 [],k)
def AU (s:aj) (j:Nat):bT aA :=
 match iL s j with
 | .error e=>.error e
 | .ok ((t,_),k)=>.ok (.mk 1 t 0 E0 [],k)
def uX (s:aj) (j:Nat) (kd:Int):bT aA :=
 match nameP s j with
 | .error e=>.error e
 | .ok (nm,k)=>.ok (.mk kd E0 0 nm [],k)
def nJ (inner:Nat→bT aA) (s:aj) (j:Nat):bT aA :=
 match gK s j with
 | .error e=>.error e
 | .ok ((x,a),k)=>kT inner s a k (kindOf x)
def aH (inner:Nat→bT aA) (s:aj) (i:Nat):bT aA :=
 if peek s (skip s i)=39 then AU s (skip s i)
 else if peek s (skip s i)=64 then uX s (skip s i+1) 23
 else if peek s (skip s i)=42 then uX s (skip s i+1) 24
 else nJ inner s (skip s i)
def iK (s:aj):Nat→aA→Nat→bT aA
 | 0,p,k=>.ok (p,k)
 | f+1,p,k =>
  if (fG 46 s k).1=true then
   match nameP s (fG 46 s k).2 with
   | .error e=>.error e
   | .ok (nm,k1)=>iK s f (.mk 21 E0 0 nm [p]) k1
  else if (fG 36 s (fG 46 s k).2).1=true then
   match nameP s (fG 36 s (fG 46 s k).2).2 with
   | .error e=>.error e
   | .ok (nm,k1)=>iK s f (.mk 22 E0 0 nm [p]) k1
  else .ok (p,(fG 36 s (fG 46 s k).2).2)
def jL (inner:Nat→bT aA) (s:aj) (i:Nat):bT aA :=
 if (fG 40 s i).1=true then
  match inner (fG 40 s i).2 with
  | .error e=>.error e
  | .ok (p,k)=>match dh 41 s k with
   | .error e=>.error e
   | .ok k1=>.ok (p,k1)
 else aH inner s (fG 40 s i).2
def iE (inner:Nat→bT aA) (s:aj) (i:Nat):bT aA :=
 match jL inner s i with
 | .error e=>.error e
 | .ok (p,k)=>iK s (s.size+1-k) p k
def starts (c:Int):Bool:=c==40||c==39||c==64||c==42||(decide (65≤c)&&decide (c≤90))
def rU (kd:Int) (l:List aA):aA:=match l with | [p]=>p|l=>.mk kd E0 0 E0 l
def lX (inner:Nat→bT aA) (s:aj):Nat→List aA→Nat→bT aA
 | 0,l,k=>.ok (rU 18 l,k)
 | f+1,l,k =>
  if starts (peek s (skip s k))=true then
   match iE inner s (skip s k) with
   | .error e=>.error e
   | .ok (p,k1)=>lX inner s f (l++[p]) k1
  else .ok (rU 18 l,skip s k)
def jl (inner:Nat→bT aA) (s:aj) (i:Nat):bT aA :=
 match iE inner s i with
 | .error e=>.error e
 | .ok (p,k)=>lX inner s (s.size+1-k) [p] k
def lY (inner:Nat→bT aA) (s:aj):Nat→List aA→Nat→bT aA
 | 0,l,k=>.ok (rU 19 l,k)
 | f+1,l,k =>
  if (fG 124 s k).1=true then
   match jl inner s (fG 124 s k).2 with
   | .error e=>.error e
   | .ok (p,k1)=>lY inner s f (l++[p]) k1
  else .ok (rU 19 l,(fG 124 s k).2)
def ku (inner:Nat→bT aA) (s:aj) (i:Nat):bT aA :=
 match jl inner s i with
 | .error e=>.error e
 | .ok (p,k)=>lY inner s (s.size+1-k) [p] k
def dX (s:aj):Nat→Nat→bT aA
 | 0,i=>.error (4,i)
 | m+1,i=>ku (dX s m) s i
end Go.Proofs.YtefjbnhpjdhjmaaGreatDoor

namespace Go.Proofs.YtefjbnhpjdhjmaaGreatDoor
set_option linter.all false
open Go.RowKit
set_option maxRecDepth 100000
set_option maxHeartbeats 1000000
theorem jQ:E0.size<1000000000:=by decide
theorem oq:([]:List aA).length<1000000000:=by decide
theorem Ku (p:aA):[p].length<1000000000:=by simp
def gW (B:Nat) (p:aA) (w':World) (v:Value):Prop:=∃S:Nat→Prop,(∀b,S b→B≤b∧b<w'.heap.size)∧gZ w' S v p
def xu (N W:Nat) (s:aj) (d:Nat) (inner:Nat→bT aA):Prop :=
 ∀(i:Nat) (w:World),fB N W s i d w→i≤s.size→Calls Tryz.prog 124 #[.pointer (some ⟨N,0,none⟩)] w (dn N W s d (inner i) (gW w.heap.size) w)
theorem Five.bI {M:Nat} {z0 z1 z2 z3 z4:Value} {w:World} (h:Five M z0 z1 z2 z3 z4 w) (c0 c1 c2 c3 c4:Value):Five M c0 c1 c2 c3 c4 (bI w M c0 c1 c2 c3 c4):=by
 unfold Five at h⊢
 unfold Go.Proofs.YtefjbnhpjdhjmaaGreatDoor.bI
 rw [aN (aN (aN (aN (aN h _) _) _) _) _];rfl
theorem Kept.bI {X:Nat→Prop} {a w:World} (h:Kept X a w) {M:Nat} (hM:X M∨a.heap.size≤M) (c0 c1 c2 c3 c4:Value):Kept X a (bI w M c0 c1 c2 c3 c4) :=
 ((((h.setCell (p:=⟨M,0,none⟩) hM _).setCell (p:=⟨M,1,none⟩) hM _).setCell (p:=⟨M,2,none⟩) hM _).setCell (p:=⟨M,3,none⟩) hM _).setCell (p:=⟨M,4,none⟩) hM _
theorem Pj {f:Func} (hres:f.results = #[.cell 2 27]) {tmps:Array Value} {M:Nat} (ht:tmps.getD 2 undef=.pointer (some ⟨M,0,none⟩)) {c0 c1 c2 c3 c4:Value} {w:World} (h:Five M c0 c1 c2 c3 c4 w) :
  (results f tmps).run Tryz.prog w=.ok (.agg #[c0,c1,c2,c3,c4]) w:=by
 obtain ⟨h0,h1,h2,h3,h4,_⟩:=h.cells
 have ht':tmps[2]?.getD undef=.pointer (some ⟨M,0,none⟩):=by rw [←ht,Array.getD_eq_getD_getElem?]
 simp [results,hres,go_sem,ht',h0,h1,h2,h3,h4]
theorem Pm {f:Func} (hres:f.results = #[.cell 2 27]) {tmps:Array Value} {M N W:Nat} {s:aj} {d k:Nat} {r:bT aA} {p:aA} {w w2 w':World} {ka:Option Addr} {cap:Nat} {S:Nat→Prop}
  (ht:tmps.getD 2 undef=.pointer (some ⟨M,0,none⟩)) (F:Five M (.int .i64 p.kind) (.string p.text) (.int .i64 p.n) (.string p.name) (.slice ka p.kids.length cap) w') (K5:Kept (· = M) w2 w') (R:fB N W s k d w2) (K:Kept (· = N) w w2) (hM:w.heap.size≤M) (hN:N<w.heap.size) (hW:W<w.heap.size)
  (hr:r=.ok (p,k)) (hz:p.text.size<1000000000∧p.name.size<1000000000∧p.kids.length<1000000000) (hS:∀b,S b→w.heap.size≤b∧b<w2.heap.size∧b≠M) (hp:aI w2 S ka p.kids) :
  bodyPost Tryz.prog f (dn N W s d r (gW w.heap.size) w) .ret ⟨tmps,[]⟩ w':=by
 refine bodyPost_ret (v:=.agg #[.int .i64 p.kind,.string p.text,.int .i64 p.n,.string p.name,.slice ka p.kids.length cap]) (Pj hres ht F) rfl ?_
 unfold dn
 rw [hr]
 refine ⟨K.step K5 (fun y hy=>.inr (by omega)),_,rfl,⟨S,fun b hb=>⟨(hS b hb).1,Nat.lt_of_lt_of_le (hS b hb).2.1 K5.size⟩,ka,cap,rfl,hz,?_⟩,R.kept K5 (by omega) (by omega)⟩
 exact hp.kept K5 fun b hb=>⟨(hS b hb).2.1,(hS b hb).2.2⟩
theorem jI {f:Func} (hres:f.results = #[.cell 2 27]) {tmps:Array Value} {M N W:Nat} {s:aj} {d k:Nat} {r:bT aA} {p:aA} {w w2:World} {ka:Option Addr} {cap:Nat} {S:Nat→Prop} {z0 z1 z2 z3 z4:Value}
  (ht:tmps.getD 2 undef=.pointer (some ⟨M,0,none⟩)) (F:Five M z0 z1 z2 z3 z4 w2) (R:fB N W s k d w2) (K:Kept (· = N) w w2) (hM:w.heap.size≤M) (hN:N<w.heap.size) (hW:W<w.heap.size)
  (hr:r=.ok (p,k)) (hz:p.text.size<1000000000∧p.name.size<1000000000∧p.kids.length<1000000000) (hS:∀b,S b→w.heap.size≤b∧b<w2.heap.size∧b≠M) (hp:aI w2 S ka p.kids) :
  bodyPost Tryz.prog f (dn N W s d r (gW w.heap.size) w) .ret ⟨tmps,[]⟩ (bI w2 M (.int .i64 p.kind) (.string p.text) (.int .i64 p.n) (.string p.name) (.slice ka p.kids.length cap)) :=
 Pm hres ht (F.bI _ _ _ _ _) ((Kept.refl (· = M) w2).bI (.inl rfl) _ _ _ _ _) R K hM hN hW hr hz hS hp
theorem Jh {w w1:World} {M:Nat} (o:Obj) (h:Kept (· = M) w w1) (hs:w1.heap.size=w.heap.size):Kept (· = M) (w.alloc o) (w1.alloc o):=by
 refine ⟨h.os,h.tape,h.output,by simp [hs],fun k hk hn=>?_⟩
 simp at hk
 by_cases e:k=w.heap.size
 ·subst e
  rw [show (w.alloc o).heap[w.heap.size]?=some o from ay w o,←hs];exact ay w1 o
 ·rw [Below.heap_alloc _ _ _ (show k<w.heap.size by omega),Below.heap_alloc _ _ _ (show k<w1.heap.size by omega)]
  exact h.block k (by omega) hn
theorem vI (w:World) (M:Nat) (c0 c1 c2 c3 c4:Value):(bI w M c0 c1 c2 c3 c4).heap.size=w.heap.size:=by simp [bI,World.setCell]
theorem Zp {f:Func} (hres:f.results = #[.cell 2 27]) {tmps:Array Value} {M N W:Nat} {s:aj} {d k:Nat} {r:bT aA} {p:aA} {w w2:World} {o:Obj} {ka:Option Addr} {cap:Nat} {S:Nat→Prop} {z0 z1 z2 z3 z4:Value}
  (ht:tmps.getD 2 undef=.pointer (some ⟨M,0,none⟩)) (F:Five M z0 z1 z2 z3 z4 w2) (R:fB N W s k d w2) (K:Kept (· = N) w w2) (hM:w.heap.size≤M) (hN:N<w.heap.size) (hW:W<w.heap.size)
  (hr:r=.ok (p,k)) (hz:p.text.size<1000000000∧p.name.size<1000000000∧p.kids.length<1000000000) (hS:∀b,S b→w.heap.size≤b∧b<w2.heap.size+1∧b≠M) (hp:aI (w2.alloc o) S ka p.kids) :
  bodyPost Tryz.prog f (dn N W s d r (gW w.heap.size) w) .ret ⟨tmps,[]⟩ ((bI w2 M (.int .i64 p.kind) (.string p.text) (.int .i64 p.n) (.string p.name) (.slice ka p.kids.length cap)).alloc o):=by
 have k5:Kept (· = M) w2 (bI w2 M (.int .i64 p.kind) (.string p.text) (.int .i64 p.n) (.string p.name) (.slice ka p.kids.length cap)):=(Kept.refl (· = M) w2).bI (.inl rfl) _ _ _ _ _
 refine Pm (w2:=w2.alloc o) (S:=S) hres ht ((F.bI _ _ _ _ _).kept ((Kept.refl aF _).alloc o) (fun h=>h)) (Jh o k5 (vI _ _ _ _ _ _ _)) (R.kept ((Kept.refl aF w2).alloc o) (fun h=>h) (fun h=>h)) (K.alloc o) hM hN hW hr hz (fun b hb=>?_) hp
 have:=hS b hb;simp;omega
theorem bM {α:Type} {f:Func} {a:Act} {N W:Nat} {s:aj} {d:Nat} {r:bT α} {er:Er} {val:α→World→Value→Prop} {w w':World} (ha:a.defers=[]) (hr:r=.error er) (K:Kept (· = N) w w') :
  bodyPost Tryz.prog f (dn N W s d r val w) (.panic [{v:=CU er,recovered:=false}]) a w':=by
 refine ⟨ha,?_⟩
 unfold dn;rw [hr];exact ⟨K,rfl⟩
theorem Zq (N W:Nat) (s:aj) (i d:Nat) (w:World) (inner:Nat→bT aA) (hr:fB N W s i d w) (hi:i≤s.size) (hs6:s.size≤65536) (hc:peek s (skip s i)=39) :
  Calls Tryz.prog 126 #[.pointer (some ⟨N,0,none⟩)] w (dn N W s d (aH inner s i) (gW w.heap.size) w):=by
 have e0:Hid (aH inner s i=AU s (skip s i)):=by unfold Hid aH;rw [if_pos hc]
 have HR:=ah hr
 have hN:=hr.lt;have hW:=hr.sK;clear hr
 have hle:=dB hi
 have hs:s.size≤1000000000:=by omega
 go_enter Tryz.func126, Tryz.ntmps126
 go_wp2_with fail
 refine (next_any N W s i d _ (HR.out.kept ((Kept.refl aF w).alloc _) (fun h=>h) (fun h=>h)) hi hs).mono ?_
 rintro e w1 ⟨rfl,R1,K1⟩
 have hb:(peek s (skip s i)==39)=true:=by simpa using hc
 have F1:Hid (Five w.heap.size (.int .i64 0) (.string ⟨#[]⟩) (.int .i64 0) (.string ⟨#[]⟩) (.slice none 0 0) w1):=Five.kept (ay w _) K1 (by omega)
 have jU:Hid (Kept (· = N) w w1):=((Kept.refl _ w).alloc _).trans K1
 have ny:=ah R1
 clear R1 K1 hc
 go_wp2_with fail
 refine (xA N W s (skip s i) d _ ny.out hle hs).mono ?_
 rintro e w2 ⟨K2,h⟩
 have F2:=ah (F1.out.kept K2 (by omega))
 cases ht:iL s (skip s i) with
 | error er =>
  rw [ht] at h
  obtain rfl:=h
  have hr:Hid (aH inner s i=.error er):=by unfold Hid;rw [e0.out];unfold AU;rw [ht]
  clear ht
  go_wp2_with fail
  exact bM rfl hr.out (jU.out.trans K2)
 | ok x =>
  obtain ⟨⟨t,a⟩,k⟩:=x
  rw [ht] at h
  obtain ⟨_,rfl,rfl,R2⟩:=h
  obtain ⟨c0,c1,c2,c3,c4,cf⟩:=F2.out.cells
  have lu:=ah R2;clear R2
  have hts:t.size<1000000000:=by have:=mg ht;omega
  have hr:Hid (aH inner s i=.ok (.mk 1 t 0 E0 [],k)):=by unfold Hid;rw [e0.out];unfold AU;rw [ht]
  clear ht
  have f0:=cf 0;have f1:=cf 1;have f2:=cf 2;have f3:=cf 3;have f4:=cf 4;clear cf
  go_wp2_with fail
  exact jI (p:=.mk 1 t 0 E0 []) (S:=aF) rfl rfl F2.out lu.out (jU.out.trans K2) (Nat.le_refl _) hN hW hr.out ⟨hts,jQ,oq⟩ (fun b hb=>hb.elim) (by unfold aI;trivial)
end Go.Proofs.YtefjbnhpjdhjmaaGreatDoor

namespace Go.Proofs.YtefjbnhpjdhjmaaGreatDoor
set_option linter.all false
open Go.RowKit
set_option maxRecDepth 100000
set_option maxHeartbeats 4000000
theorem jw (W:Nat) (x:aj) (w:World) (h:oh W w) :
  Calls Tryz.prog 132 #[.slice (some ⟨W,0,none⟩) 21 21,.string x] w fun e w'=>e=.returned (.int .i64 (kindOf x))∧w=w':=by
 refine (Tryz.slices_Index_string W 0 21 21 oU x w (by decide) (by decide) fun j hj=>h.cell j hj).mono ?_
 rintro e w' ⟨rfl,rfl⟩
 exact ⟨rfl,rfl⟩
theorem FB {s:aj} {i k:Nat} {nm:aj} (hi:i≤s.size) (h:nameP s i=.ok (nm,k)):nm.size<1000000000:=by
 unfold nameP at h
 cases hw:gK s i with
 | error e=>rw [hw] at h;cases h
 | ok x =>
  obtain ⟨⟨x,a⟩,k'⟩:=x
  rw [hw] at h
  dsimp only at h
  split at h
  ·cases h
  ·simp only [Except.ok.injEq,Prod.mk.injEq] at h;obtain ⟨rfl,rfl⟩:=h;omega
theorem qo {s:aj} {i k:Nat} {nm:aj} (hi:i≤s.size) (h:nameP s i=.ok (nm,k)):i<k∧k≤s.size:=by
 unfold nameP at h
 cases hw:gK s i with
 | error e=>rw [hw] at h;cases h
 | ok x =>
  obtain ⟨⟨x,a⟩,k'⟩:=x
  rw [hw] at h
  dsimp only at h
  split at h
  ·cases h
  ·simp only [Except.ok.injEq,Prod.mk.injEq] at h;obtain ⟨rfl,rfl⟩:=h;have:=jH hi hw;omega
theorem abu (N W:Nat) (s:aj) (i d:Nat) (w:World) (inner:Nat→bT aA) (hr:fB N W s i d w) (hi:i≤s.size) (hs6:s.size≤65536) (hc:peek s (skip s i)=64) :
  Calls Tryz.prog 126 #[.pointer (some ⟨N,0,none⟩)] w (dn N W s d (aH inner s i) (gW w.heap.size) w):=by
 have e0:Hid (aH inner s i=uX s (skip s i+1) 23):=by unfold Hid aH;rw [hc];rfl
 have hlt:skip s i<s.size:=oN (by omega)
 have HR:=ah hr
 have hN:=hr.lt;have hW:=hr.sK;clear hr
 have hle:=dB hi
 have hs:s.size≤1000000000:=by omega
 go_enter Tryz.func126, Tryz.ntmps126
 go_wp2_with fail
 refine (next_any N W s i d _ (HR.out.kept ((Kept.refl aF w).alloc _) (fun h=>h) (fun h=>h)) hi hs).mono ?_
 rintro e w1 ⟨rfl,R1,K1⟩
 have b1:(peek s (skip s i)==39)=false:=by simp;omega
 have b2:(peek s (skip s i)==64)=true:=by simpa using hc
 have F1:Hid (Five w.heap.size (.int .i64 0) (.string ⟨#[]⟩) (.int .i64 0) (.string ⟨#[]⟩) (.slice none 0 0) w1):=Five.kept (ay w _) K1 (by omega)
 have jU:Hid (Kept (· = N) w w1):=((Kept.refl _ w).alloc _).trans K1
 have q1:=R1.c1;have f1:=R1.fr 1
 have ny:=ah (R1.setAt (skip s i+1));have WR:=ah (jU.out.setCell (p:=⟨N,1,none⟩) (.inl rfl) (.int .i64 ((skip s i+1:Nat):Int)))
 have EI:=ah (F1.out.kept ((Kept.refl (· = N) w1).setCell (p:=⟨N,1,none⟩) (.inl rfl) (.int .i64 ((skip s i+1:Nat):Int))) (by omega))
 clear R1 K1 hc
 go_wp2_with fail
 refine (name_any N W s (skip s i+1) d _ ny.out hlt hs).mono ?_
 rintro e w2 ⟨K2,h⟩
 have F2:=ah (EI.out.kept K2 (by omega))
 cases ht:nameP s (skip s i+1) with
 | error er =>
  rw [ht] at h
  obtain rfl:=h
  have hr:Hid (aH inner s i=.error er):=by unfold Hid;rw [e0.out];unfold uX;rw [ht]
  clear ht
  go_wp2_with fail
  exact bM rfl hr.out (WR.out.trans K2)
 | ok x =>
  obtain ⟨nm,k⟩:=x
  rw [ht] at h
  obtain ⟨_,rfl,rfl,R2⟩:=h
  obtain ⟨c0,c1,c2,c3,c4,cf⟩:=F2.out.cells
  have lu:=ah R2;clear R2
  have hts:=FB (show skip s i+1≤s.size from hlt) ht
  have hr:Hid (aH inner s i=.ok (.mk 23 E0 0 nm [],k)):=by unfold Hid;rw [e0.out];unfold uX;rw [ht]
  clear ht
  have f0:=cf 0;have f1':=cf 1;have f2:=cf 2;have f3:=cf 3;have f4:=cf 4;clear cf q1 f1
  go_wp2_with fail
  exact jI (p:=.mk 23 E0 0 nm []) (S:=aF) rfl rfl F2.out lu.out (WR.out.trans K2) (Nat.le_refl _) hN hW hr.out ⟨jQ,hts,oq⟩ (fun b hb=>hb.elim) (by unfold aI;trivial)
theorem WS (N W:Nat) (s:aj) (i d:Nat) (w:World) (inner:Nat→bT aA) (hr:fB N W s i d w) (hi:i≤s.size) (hs6:s.size≤65536) (hc:peek s (skip s i)=42) :
  Calls Tryz.prog 126 #[.pointer (some ⟨N,0,none⟩)] w (dn N W s d (aH inner s i) (gW w.heap.size) w):=by
 have e0:Hid (aH inner s i=uX s (skip s i+1) 24):=by unfold Hid aH;rw [hc];rfl
 have hlt:skip s i<s.size:=oN (by omega)
 have HR:=ah hr
 have hN:=hr.lt;have hW:=hr.sK;clear hr
 have hle:=dB hi
 have hs:s.size≤1000000000:=by omega
 go_enter Tryz.func126, Tryz.ntmps126
 go_wp2_with fail
 refine (next_any N W s i d _ (HR.out.kept ((Kept.refl aF w).alloc _) (fun h=>h) (fun h=>h)) hi hs).mono ?_
 rintro e w1 ⟨rfl,R1,K1⟩
 have b1:(peek s (skip s i)==39)=false:=by simp;omega
 have b2:(peek s (skip s i)==64)=false:=by simp;omega
 have b3:(peek s (skip s i)==42)=true:=by simpa using hc
 have F1:Hid (Five w.heap.size (.int .i64 0) (.string ⟨#[]⟩) (.int .i64 0) (.string ⟨#[]⟩) (.slice none 0 0) w1):=Five.kept (ay w _) K1 (by omega)
 have jU:Hid (Kept (· = N) w w1):=((Kept.refl _ w).alloc _).trans K1
 have q1:=R1.c1;have f1:=R1.fr 1
 have ny:=ah (R1.setAt (skip s i+1));have WR:=ah (jU.out.setCell (p:=⟨N,1,none⟩) (.inl rfl) (.int .i64 ((skip s i+1:Nat):Int)))
 have EI:=ah (F1.out.kept ((Kept.refl (· = N) w1).setCell (p:=⟨N,1,none⟩) (.inl rfl) (.int .i64 ((skip s i+1:Nat):Int))) (by omega))
 clear R1 K1 hc
 go_wp2_with fail
 refine (name_any N W s (skip s i+1) d _ ny.out hlt hs).mono ?_
 rintro e w2 ⟨K2,h⟩
 have F2:=ah (EI.out.kept K2 (by omega))
 cases ht:nameP s (skip s i+1) with
 | error er =>
  rw [ht] at h
  obtain rfl:=h
  have hr:Hid (aH inner s i=.error er):=by unfold Hid;rw [e0.out];unfold uX;rw [ht]
  clear ht
  go_wp2_with fail
  exact bM rfl hr.out (WR.out.trans K2)
 | ok x =>
  obtain ⟨nm,k⟩:=x
  rw [ht] at h
  obtain ⟨_,rfl,rfl,R2⟩:=h
  obtain ⟨c0,c1,c2,c3,c4,cf⟩:=F2.out.cells
  have lu:=ah R2;clear R2
  have hts:=FB (show skip s i+1≤s.size from hlt) ht
  have hr:Hid (aH inner s i=.ok (.mk 24 E0 0 nm [],k)):=by unfold Hid;rw [e0.out];unfold uX;rw [ht]
  clear ht
  have f0:=cf 0;have f1':=cf 1;have f2:=cf 2;have f3:=cf 3;have f4:=cf 4;clear cf q1 f1
  go_wp2_with fail
  exact jI (p:=.mk 24 E0 0 nm []) (S:=aF) rfl rfl F2.out lu.out (WR.out.trans K2) (Nat.le_refl _) hN hW hr.out ⟨jQ,hts,oq⟩ (fun b hb=>hb.elim) (by unfold aI;trivial)
theorem QD (N W:Nat) (s:aj) (i d:Nat) (w:World) (inner:Nat→bT aA) (hr:fB N W s i d w) (hi:i≤s.size) (hs6:s.size≤65536) (fC:peek s (skip s i)≠39) (h64:peek s (skip s i)≠64) (h42:peek s (skip s i)≠42) (er:Er) (ht:gK s (skip s i)=.error er) :
  Calls Tryz.prog 126 #[.pointer (some ⟨N,0,none⟩)] w (dn N W s d (aH inner s i) (gW w.heap.size) w):=by
 have e0:Hid (aH inner s i=nJ inner s (skip s i)):=by unfold Hid aH;rw [if_neg fC,if_neg h64,if_neg h42]
 have HR:=ah hr
 have hN:=hr.lt;have hW:=hr.sK;clear hr
 have hle:=dB hi
 have hs:s.size≤1000000000:=by omega
 go_enter Tryz.func126, Tryz.ntmps126
 go_wp2_with fail
 refine (next_any N W s i d _ (HR.out.kept ((Kept.refl aF w).alloc _) (fun h=>h) (fun h=>h)) hi hs).mono ?_
 rintro e w1 ⟨rfl,R1,K1⟩
 have b1:(peek s (skip s i)==39)=false:=by simpa using fC
 have b2:(peek s (skip s i)==64)=false:=by simpa using h64
 have b3:(peek s (skip s i)==42)=false:=by simpa using h42
 have F1:Hid (Five w.heap.size (.int .i64 0) (.string ⟨#[]⟩) (.int .i64 0) (.string ⟨#[]⟩) (.slice none 0 0) w1):=Five.kept (ay w _) K1 (by omega)
 have jU:Hid (Kept (· = N) w w1):=((Kept.refl _ w).alloc _).trans K1
 have ny:=ah R1
 clear R1 K1 fC h64 h42
 have hr:Hid (aH inner s i=.error er):=by unfold Hid;rw [e0.out];unfold nJ;rw [ht]
 go_wp2_with fail
 refine (lH N W s (skip s i) d _ ny.out hle hs).mono ?_
 rintro e w2 ⟨K2,h⟩
 rw [ht] at h
 obtain rfl:=h
 clear ht
 go_wp2_with fail
 exact bM rfl hr.out (jU.out.trans K2)
theorem Zr (N W:Nat) (s:aj) (i d:Nat) (w:World) (inner:Nat→bT aA) (hr:fB N W s i d w) (hi:i≤s.size) (hs6:s.size≤65536) (fC:peek s (skip s i)≠39) (h64:peek s (skip s i)≠64) (h42:peek s (skip s i)≠42) (x:aj) (a k:Nat) (ht:gK s (skip s i)=.ok ((x,a),k)) (hkd:kindOf x = -1∨kindOf x=0) :
  Calls Tryz.prog 126 #[.pointer (some ⟨N,0,none⟩)] w (dn N W s d (aH inner s i) (gW w.heap.size) w):=by
 have e0:Hid (aH inner s i=nJ inner s (skip s i)):=by unfold Hid aH;rw [if_neg fC,if_neg h64,if_neg h42]
 have HR:=ah hr
 have hN:=hr.lt;have hW:=hr.sK;clear hr
 have hle:=dB hi
 have hs:s.size≤1000000000:=by omega
 go_enter Tryz.func126, Tryz.ntmps126
 go_wp2_with fail
 refine (next_any N W s i d _ (HR.out.kept ((Kept.refl aF w).alloc _) (fun h=>h) (fun h=>h)) hi hs).mono ?_
 rintro e w1 ⟨rfl,R1,K1⟩
 have b1:(peek s (skip s i)==39)=false:=by simpa using fC
 have b2:(peek s (skip s i)==64)=false:=by simpa using h64
 have b3:(peek s (skip s i)==42)=false:=by simpa using h42
 have F1:Hid (Five w.heap.size (.int .i64 0) (.string ⟨#[]⟩) (.int .i64 0) (.string ⟨#[]⟩) (.slice none 0 0) w1):=Five.kept (ay w _) K1 (by omega)
 have jU:Hid (Kept (· = N) w w1):=((Kept.refl _ w).alloc _).trans K1
 have ny:=ah R1
 clear R1 K1 fC h64 h42
 have hk:=jH hle ht
 have hx:x.size≤1000000:=by omega
 have hks:k≤s.size:=by omega
 have hr:Hid (aH inner s i=.error (7,a)):=by unfold Hid;rw [e0.out];unfold nJ;rw [ht];dsimp only;unfold kT;rw [if_pos hkd]
 go_wp2_with fail
 refine (lH N W s (skip s i) d _ ny.out hle hs).mono ?_
 rintro e w2 ⟨K2,h⟩
 rw [ht] at h
 obtain ⟨_,rfl,rfl,R2⟩:=h
 have F2:=ah (F1.out.kept K2 (by omega))
 have qp:Hid (Kept (· = N) w w2):=jU.out.trans K2
 have q2:=R2.c2
 have lu:=ah R2
 clear R2 K2 ht hk b1 b2 b3
 go_wp2_with fail
 refine (jw W x _ lu.out.words).mono ?_
 rintro e w3 ⟨rfl,rfl⟩
 rcases hkd with hkd|hkd
 all_goals
  rw [hkd]
  clear hkd q2
  go_wp2_with fail
  refine (jB _ 7 a _).mono ?_
  rintro e w4 ⟨rfl,rfl⟩
  go_wp2_with fail
  exact bM rfl hr.out qp.out
theorem TY (N W:Nat) (s:aj) (i d:Nat) (w:World) (inner:Nat→bT aA) (hr:fB N W s i d w) (hi:i≤s.size) (hs6:s.size≤65536) (fC:peek s (skip s i)≠39) (h64:peek s (skip s i)≠64) (h42:peek s (skip s i)≠42) (x:aj) (a k:Nat) (ht:gK s (skip s i)=.ok ((x,a),k)) (kd:Int) (hkd:kindOf x=kd) (ha:kd≠-1∧kd≠0∧kd≠2∧(kd<3∨11<kd)∧kd≠20) :
  Calls Tryz.prog 126 #[.pointer (some ⟨N,0,none⟩)] w (dn N W s d (aH inner s i) (gW w.heap.size) w):=by
 have e0:Hid (aH inner s i=nJ inner s (skip s i)):=by unfold Hid aH;rw [if_neg fC,if_neg h64,if_neg h42]
 have HR:=ah hr
 have hN:=hr.lt;have hW:=hr.sK;clear hr
 have hle:=dB hi
 have hs:s.size≤1000000000:=by omega
 go_enter Tryz.func126, Tryz.ntmps126
 go_wp2_with fail
 refine (next_any N W s i d _ (HR.out.kept ((Kept.refl aF w).alloc _) (fun h=>h) (fun h=>h)) hi hs).mono ?_
 rintro e w1 ⟨rfl,R1,K1⟩
 have b1:(peek s (skip s i)==39)=false:=by simpa using fC
 have b2:(peek s (skip s i)==64)=false:=by simpa using h64
 have b3:(peek s (skip s i)==42)=false:=by simpa using h42
 have F1:Hid (Five w.heap.size (.int .i64 0) (.string ⟨#[]⟩) (.int .i64 0) (.string ⟨#[]⟩) (.slice none 0 0) w1):=Five.kept (ay w _) K1 (by omega)
 have jU:Hid (Kept (· = N) w w1):=((Kept.refl _ w).alloc _).trans K1
 have ny:=ah R1
 clear R1 K1 fC h64 h42
 have hk:=jH hle ht
 have hx:x.size≤1000000:=by omega
 have hks:k≤s.size:=by omega
 have hr:Hid (aH inner s i=.ok (.mk kd E0 0 E0 [],k)):=by
  unfold Hid;rw [e0.out];unfold nJ;rw [ht];dsimp only;unfold kT;rw [hkd,if_neg (by omega),if_neg (by omega),if_neg (by omega),if_neg (by omega)]
 obtain ⟨a1,a2,a3,a4,a5⟩:=ha
 go_wp2_with fail
 refine (lH N W s (skip s i) d _ ny.out hle hs).mono ?_
 rintro e w2 ⟨K2,h⟩
 rw [ht] at h
 obtain ⟨_,rfl,rfl,R2⟩:=h
 have F2:=ah (F1.out.kept K2 (by omega))
 have qp:Hid (Kept (· = N) w w2):=jU.out.trans K2
 have q2:=R2.c2
 have lu:=ah R2
 clear R2 K2 ht hk b1 b2 b3
 go_wp2_with fail
 refine (jw W x _ lu.out.words).mono ?_
 rintro e w3 ⟨rfl,rfl⟩
 rw [hkd]
 clear hkd q2
 have z1:(kd == -1)=false:=by simpa using a1
 have z2:(kd==0)=false:=by simpa using a2
 have z3:(kd==2)=false:=by simpa using a3
 have z4:(kd==20)=false:=by simpa using a5
 have y3:(kd==3)=false:=by simp;omega
 have y4:(kd==4)=false:=by simp;omega
 have y5:(kd==5)=false:=by simp;omega
 have y6:(kd==6)=false:=by simp;omega
 have y7:(kd==7)=false:=by simp;omega
 have y8:(kd==8)=false:=by simp;omega
 have y9:(kd==9)=false:=by simp;omega
 have y10:(kd==10)=false:=by simp;omega
 have y11:(kd==11)=false:=by simp;omega
 clear a1 a2 a3 a4 a5
 obtain ⟨c0,c1,c2,c3,c4,cf⟩:=F2.out.cells
 have f0:=cf 0;have f1:=cf 1;have f2:=cf 2;have f3:=cf 3;have f4:=cf 4;clear cf
 go_wp2_with fail
 exact jI (p:=.mk kd E0 0 E0 []) (S:=aF) rfl rfl F2.out lu.out qp.out (Nat.le_refl _) hN hW hr.out ⟨jQ,jQ,oq⟩ (fun b hb=>hb.elim) (by unfold aI;trivial)
end Go.Proofs.YtefjbnhpjdhjmaaGreatDoor
