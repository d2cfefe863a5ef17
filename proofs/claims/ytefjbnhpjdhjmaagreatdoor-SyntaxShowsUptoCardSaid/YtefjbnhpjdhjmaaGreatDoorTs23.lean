/-  -/
import Derived.Test.YtefjbnhpjdhjmaaGreatDoorRd3
import Derived.Test.YtefjbnhpjdhjmaaGreatDoorRd4
import Derived.Test.YtefjbnhpjdhjmaaGreatDoorShelf
import Derived.Test.YtefjbnhpjdhjmaaGreatDoorTs15
namespace Go.Proofs.YtefjbnhpjdhjmaaGreatDoor
set_option linter.all false
open Go.RowKit
def E0:aj:=⟨#[]⟩
def kindOf (x:aj):Int:=Lib.idxOfS rM x
def pk (k:Int) (t:aj) (n:Int) (nm:aj) (l:List aA):aA:=.mk k t n nm l
def dP (s:aj) (k:Nat) (kd:Int):cZ aA :=
 match dI 40 s k with
 | .error e=>.error e
 | .ok k1=>match iY s k1 with
  | .error e=>.error e
  | .ok ((t,a),k2)=>if t.size=0 then .error (8,a) else
   match dI 41 s k2 with
   | .error e=>.error e
   | .ok k3=>.ok (.mk kd t 0 E0 [],k3)
def fV (s:aj) (k:Nat) (kd:Int):cZ aA :=
 match dI 40 s k with
 | .error e=>.error e
 | .ok k1=>match ny s k1 with
  | .error e=>.error e
  | .ok (n,k2)=>match dI 41 s k2 with
   | .error e=>.error e
   | .ok k3=>.ok (.mk kd E0 n E0 [],k3)
def qp (inner:Nat→cZ aA) (s:aj) (k:Nat) (kd:Int):cZ aA :=
 match dI 40 s k with
 | .error e=>.error e
 | .ok k1=>match inner k1 with
  | .error e=>.error e
  | .ok (p,k2)=>match dI 41 s k2 with
   | .error e=>.error e
   | .ok k3=>.ok (.mk kd E0 0 E0 [p],k3)
def lM (inner:Nat→cZ aA) (s:aj) (a k:Nat) (kd:Int):cZ aA :=
 if kd = -1∨kd=0 then .error (7,a)
 else if 3≤kd∧kd≤7 then dP s k kd
 else if kd=2∨(8≤kd∧kd≤11) then fV s k kd
 else if kd=20 then qp inner s k kd
 else .ok (.mk kd E0 0 E0 [],k)
def DL (s:aj) (j:Nat):cZ aA :=
 match iY s j with
 | .error e=>.error e
 | .ok ((t,_),k)=>.ok (.mk 1 t 0 E0 [],k)
def yE (s:aj) (j:Nat) (kd:Int):cZ aA :=
 match nameP s j with
 | .error e=>.error e
 | .ok (nm,k)=>.ok (.mk kd E0 0 nm [],k)
def oq (inner:Nat→cZ aA) (s:aj) (j:Nat):cZ aA :=
 match gX s j with
 | .error e=>.error e
 | .ok ((x,a),k)=>lM inner s a k (kindOf x)
def aH (inner:Nat→cZ aA) (s:aj) (i:Nat):cZ aA :=
 if peek s (skip s i)=39 then DL s (skip s i)
 else if peek s (skip s i)=64 then yE s (skip s i+1) 23
 else if peek s (skip s i)=42 then yE s (skip s i+1) 24
 else oq inner s (skip s i)
def jA (s:aj):Nat→aA→Nat→cZ aA
 | 0,p,k=>.ok (p,k)
 | f+1,p,k =>
  if (fH 46 s k).1=true then
   match nameP s (fH 46 s k).2 with
   | .error e=>.error e
   | .ok (nm,k1)=>jA s f (.mk 21 E0 0 nm [p]) k1
  else if (fH 36 s (fH 46 s k).2).1=true then
   match nameP s (fH 36 s (fH 46 s k).2).2 with
   | .error e=>.error e
   | .ok (nm,k1)=>jA s f (.mk 22 E0 0 nm [p]) k1
  else .ok (p,(fH 36 s (fH 46 s k).2).2)
def lQ (inner:Nat→cZ aA) (s:aj) (i:Nat):cZ aA :=
 if (fH 40 s i).1=true then
  match inner (fH 40 s i).2 with
  | .error e=>.error e
  | .ok (p,k)=>match dI 41 s k with
   | .error e=>.error e
   | .ok k1=>.ok (p,k1)
 else aH inner s (fH 40 s i).2
def iZ (inner:Nat→cZ aA) (s:aj) (i:Nat):cZ aA :=
 match lQ inner s i with
 | .error e=>.error e
 | .ok (p,k)=>jA s (s.size+1-k) p k
def starts (c:Int):Bool:=c==40||c==39||c==64||c==42||(decide (65≤c)&&decide (c≤90))
def tV (kd:Int) (l:List aA):aA:=match l with | [p]=>p|l=>.mk kd E0 0 E0 l
def pG (inner:Nat→cZ aA) (s:aj):Nat→List aA→Nat→cZ aA
 | 0,l,k=>.ok (tV 18 l,k)
 | f+1,l,k =>
  if starts (peek s (skip s k))=true then
   match iZ inner s (skip s k) with
   | .error e=>.error e
   | .ok (p,k1)=>pG inner s f (l++[p]) k1
  else .ok (tV 18 l,skip s k)
def kJ (inner:Nat→cZ aA) (s:aj) (i:Nat):cZ aA :=
 match iZ inner s i with
 | .error e=>.error e
 | .ok (p,k)=>pG inner s (s.size+1-k) [p] k
def pI (inner:Nat→cZ aA) (s:aj):Nat→List aA→Nat→cZ aA
 | 0,l,k=>.ok (tV 19 l,k)
 | f+1,l,k =>
  if (fH 124 s k).1=true then
   match kJ inner s (fH 124 s k).2 with
   | .error e=>.error e
   | .ok (p,k1)=>pI inner s f (l++[p]) k1
  else .ok (tV 19 l,(fH 124 s k).2)
def lS (inner:Nat→cZ aA) (s:aj) (i:Nat):cZ aA :=
 match kJ inner s i with
 | .error e=>.error e
 | .ok (p,k)=>pI inner s (s.size+1-k) [p] k
def eY (s:aj):Nat→Nat→cZ aA
 | 0,i=>.error (4,i)
 | m+1,i=>lS (eY s m) s i
end Go.Proofs.YtefjbnhpjdhjmaaGreatDoor

namespace Go.Proofs.YtefjbnhpjdhjmaaGreatDoor
set_option linter.all false
open Go.RowKit
set_option maxRecDepth 100000
set_option maxHeartbeats 1000000
theorem jL:E0.size<1000000000:=by decide
theorem nV:([]:List aA).length<1000000000:=by decide
theorem JM (p:aA):[p].length<1000000000:=by simp
def gJ (B:Nat) (p:aA) (w':World) (v:Value):Prop:=∃S:Nat→Prop,(∀b,S b→B≤b∧b<w'.heap.size)∧gV w' S v p
def xq (N W:Nat) (s:aj) (d:Nat) (inner:Nat→cZ aA):Prop :=
 ∀(i:Nat) (w:World),eU N W s i d w→i≤s.size→Calls Tryz.prog 124 #[.pointer (some ⟨N,0,none⟩)] w (dh N W s d (inner i) (gJ w.heap.size) w)
theorem Five.bI {M:Nat} {z0 z1 z2 z3 z4:Value} {w:World} (h:Five M z0 z1 z2 z3 z4 w) (c0 c1 c2 c3 c4:Value):Five M c0 c1 c2 c3 c4 (bI w M c0 c1 c2 c3 c4):=by
 unfold Five at h⊢
 unfold Go.Proofs.YtefjbnhpjdhjmaaGreatDoor.bI
 rw [aK (aK (aK (aK (aK h _) _) _) _) _];rfl
theorem Kept.bI {X:Nat→Prop} {a w:World} (h:Kept X a w) {M:Nat} (hM:X M∨a.heap.size≤M) (c0 c1 c2 c3 c4:Value):Kept X a (bI w M c0 c1 c2 c3 c4) :=
 ((((h.setCell (p:=⟨M,0,none⟩) hM _).setCell (p:=⟨M,1,none⟩) hM _).setCell (p:=⟨M,2,none⟩) hM _).setCell (p:=⟨M,3,none⟩) hM _).setCell (p:=⟨M,4,none⟩) hM _
theorem OG {f:Func} (hres:f.results = #[.cell 2 27]) {tmps:Array Value} {M:Nat} (ht:tmps.getD 2 undef=.pointer (some ⟨M,0,none⟩)) {c0 c1 c2 c3 c4:Value} {w:World} (h:Five M c0 c1 c2 c3 c4 w) :
  (results f tmps).run Tryz.prog w=.ok (.agg #[c0,c1,c2,c3,c4]) w:=by
 obtain ⟨h0,h1,h2,h3,h4,_⟩:=h.cells
 have ht':tmps[2]?.getD undef=.pointer (some ⟨M,0,none⟩):=by rw [←ht,Array.getD_eq_getD_getElem?]
 simp [results,hres,go_sem,ht',h0,h1,h2,h3,h4]
theorem OH {f:Func} (hres:f.results = #[.cell 2 27]) {tmps:Array Value} {M N W:Nat} {s:aj} {d k:Nat} {r:cZ aA} {p:aA} {w w2 w':World} {ka:Option Addr} {cap:Nat} {S:Nat→Prop}
  (ht:tmps.getD 2 undef=.pointer (some ⟨M,0,none⟩)) (F:Five M (.int .i64 p.kind) (.string p.text) (.int .i64 p.n) (.string p.name) (.slice ka p.kids.length cap) w') (K5:Kept (· = M) w2 w') (R:eU N W s k d w2) (K:Kept (· = N) w w2) (hM:w.heap.size≤M) (hN:N<w.heap.size) (hW:W<w.heap.size)
  (hr:r=.ok (p,k)) (hz:p.text.size<1000000000∧p.name.size<1000000000∧p.kids.length<1000000000) (hS:∀b,S b→w.heap.size≤b∧b<w2.heap.size∧b≠M) (hp:aI w2 S ka p.kids) :
  bodyPost Tryz.prog f (dh N W s d r (gJ w.heap.size) w) .ret ⟨tmps,[]⟩ w':=by
 refine bodyPost_ret (v:=.agg #[.int .i64 p.kind,.string p.text,.int .i64 p.n,.string p.name,.slice ka p.kids.length cap]) (OG hres ht F) rfl ?_
 unfold dh
 rw [hr]
 refine ⟨K.step K5 (fun y hy=>.inr (by omega)),_,rfl,⟨S,fun b hb=>⟨(hS b hb).1,Nat.lt_of_lt_of_le (hS b hb).2.1 K5.size⟩,ka,cap,rfl,hz,?_⟩,R.kept K5 (by omega) (by omega)⟩
 exact hp.kept K5 fun b hb=>⟨(hS b hb).2.1,(hS b hb).2.2⟩
theorem jE {f:Func} (hres:f.results = #[.cell 2 27]) {tmps:Array Value} {M N W:Nat} {s:aj} {d k:Nat} {r:cZ aA} {p:aA} {w w2:World} {ka:Option Addr} {cap:Nat} {S:Nat→Prop} {z0 z1 z2 z3 z4:Value}
  (ht:tmps.getD 2 undef=.pointer (some ⟨M,0,none⟩)) (F:Five M z0 z1 z2 z3 z4 w2) (R:eU N W s k d w2) (K:Kept (· = N) w w2) (hM:w.heap.size≤M) (hN:N<w.heap.size) (hW:W<w.heap.size)
  (hr:r=.ok (p,k)) (hz:p.text.size<1000000000∧p.name.size<1000000000∧p.kids.length<1000000000) (hS:∀b,S b→w.heap.size≤b∧b<w2.heap.size∧b≠M) (hp:aI w2 S ka p.kids) :
  bodyPost Tryz.prog f (dh N W s d r (gJ w.heap.size) w) .ret ⟨tmps,[]⟩ (bI w2 M (.int .i64 p.kind) (.string p.text) (.int .i64 p.n) (.string p.name) (.slice ka p.kids.length cap)) :=
 OH hres ht (F.bI _ _ _ _ _) ((Kept.refl (· = M) w2).bI (.inl rfl) _ _ _ _ _) R K hM hN hW hr hz hS hp
theorem IW {w w1:World} {M:Nat} (o:Obj) (h:Kept (· = M) w w1) (hs:w1.heap.size=w.heap.size):Kept (· = M) (w.alloc o) (w1.alloc o):=by
 refine ⟨h.os,h.tape,h.output,by simp [hs],fun k hk hn=>?_⟩
 simp at hk
 by_cases e:k=w.heap.size
 ·subst e
  rw [show (w.alloc o).heap[w.heap.size]?=some o from ay w o,←hs];exact ay w1 o
 ·rw [Below.heap_alloc _ _ _ (show k<w.heap.size by omega),Below.heap_alloc _ _ _ (show k<w1.heap.size by omega)]
  exact h.block k (by omega) hn
theorem vG (w:World) (M:Nat) (c0 c1 c2 c3 c4:Value):(bI w M c0 c1 c2 c3 c4).heap.size=w.heap.size:=by simp [bI,World.setCell]
theorem YP {f:Func} (hres:f.results = #[.cell 2 27]) {tmps:Array Value} {M N W:Nat} {s:aj} {d k:Nat} {r:cZ aA} {p:aA} {w w2:World} {o:Obj} {ka:Option Addr} {cap:Nat} {S:Nat→Prop} {z0 z1 z2 z3 z4:Value}
  (ht:tmps.getD 2 undef=.pointer (some ⟨M,0,none⟩)) (F:Five M z0 z1 z2 z3 z4 w2) (R:eU N W s k d w2) (K:Kept (· = N) w w2) (hM:w.heap.size≤M) (hN:N<w.heap.size) (hW:W<w.heap.size)
  (hr:r=.ok (p,k)) (hz:p.text.size<1000000000∧p.name.size<1000000000∧p.kids.length<1000000000) (hS:∀b,S b→w.heap.size≤b∧b<w2.heap.size+1∧b≠M) (hp:aI (w2.alloc o) S ka p.kids) :
  bodyPost Tryz.prog f (dh N W s d r (gJ w.heap.size) w) .ret ⟨tmps,[]⟩ ((bI w2 M (.int .i64 p.kind) (.string p.text) (.int .i64 p.n) (.string p.name) (.slice ka p.kids.length cap)).alloc o):=by
 have k5:Kept (· = M) w2 (bI w2 M (.int .i64 p.kind) (.string p.text) (.int .i64 p.n) (.string p.name) (.slice ka p.kids.length cap)):=(Kept.refl (· = M) w2).bI (.inl rfl) _ _ _ _ _
 refine OH (w2:=w2.alloc o) (S:=S) hres ht ((F.bI _ _ _ _ _).kept ((Kept.refl aC _).alloc o) (fun h=>h)) (IW o k5 (vG _ _ _ _ _ _ _)) (R.kept ((Kept.refl aC w2).alloc o) (fun h=>h) (fun h=>h)) (K.alloc o) hM hN hW hr hz (fun b hb=>?_) hp
 have:=hS b hb;simp;omega
theorem bK {α:Type} {f:Func} {a:Act} {N W:Nat} {s:aj} {d:Nat} {r:cZ α} {er:Er} {val:α→World→Value→Prop} {w w':World} (ha:a.defers=[]) (hr:r=.error er) (K:Kept (· = N) w w') :
  bodyPost Tryz.prog f (dh N W s d r val w) (.panic [{v:=CV er,recovered:=false}]) a w':=by
 refine ⟨ha,?_⟩
 unfold dh;rw [hr];exact ⟨K,rfl⟩
theorem YQ (N W:Nat) (s:aj) (i d:Nat) (w:World) (inner:Nat→cZ aA) (hr:eU N W s i d w) (hi:i≤s.size) (hs6:s.size≤65536) (hc:peek s (skip s i)=39) :
  Calls Tryz.prog 126 #[.pointer (some ⟨N,0,none⟩)] w (dh N W s d (aH inner s i) (gJ w.heap.size) w):=by
 have e0:Hid (aH inner s i=DL s (skip s i)):=by unfold Hid aH;rw [if_pos hc]
 have HR:=ah hr
 have hN:=hr.lt;have hW:=hr.tq;clear hr
 have hle:=dG hi
 have hs:s.size≤1000000000:=by omega
 go_enter Tryz.func126, Tryz.ntmps126
 go_wp2_with fail
 refine (next_any N W s i d _ (HR.out.kept ((Kept.refl aC w).alloc _) (fun h=>h) (fun h=>h)) hi hs).mono ?_
 rintro e w1 ⟨rfl,R1,K1⟩
 have hb:(peek s (skip s i)==39)=true:=by simpa using hc
 have F1:Hid (Five w.heap.size (.int .i64 0) (.string ⟨#[]⟩) (.int .i64 0) (.string ⟨#[]⟩) (.slice none 0 0) w1):=Five.kept (ay w _) K1 (by omega)
 have jS:Hid (Kept (· = N) w w1):=((Kept.refl _ w).alloc _).trans K1
 have mO:=ah R1
 clear R1 K1 hc
 go_wp2_with fail
 refine (xw N W s (skip s i) d _ mO.out hle hs).mono ?_
 rintro e w2 ⟨K2,h⟩
 have F2:=ah (F1.out.kept K2 (by omega))
 cases ht:iY s (skip s i) with
 | error er =>
  rw [ht] at h
  obtain rfl:=h
  have hr:Hid (aH inner s i=.error er):=by unfold Hid;rw [e0.out];unfold DL;rw [ht]
  clear ht
  go_wp2_with fail
  exact bK rfl hr.out (jS.out.trans K2)
 | ok x =>
  obtain ⟨⟨t,a⟩,k⟩:=x
  rw [ht] at h
  obtain ⟨_,rfl,rfl,R2⟩:=h
  obtain ⟨c0,c1,c2,c3,c4,cf⟩:=F2.out.cells
  have kV:=ah R2;clear R2
  have hts:t.size<1000000000:=by have:=nO ht;omega
  have hr:Hid (aH inner s i=.ok (.mk 1 t 0 E0 [],k)):=by unfold Hid;rw [e0.out];unfold DL;rw [ht]
  clear ht
  have f0:=cf 0;have f1:=cf 1;have f2:=cf 2;have f3:=cf 3;have f4:=cf 4;clear cf
  go_wp2_with fail
  exact jE (p:=.mk 1 t 0 E0 []) (S:=aC) rfl rfl F2.out kV.out (jS.out.trans K2) (Nat.le_refl _) hN hW hr.out ⟨hts,jL,nV⟩ (fun b hb=>hb.elim) (by unfold aI;trivial)
end Go.Proofs.YtefjbnhpjdhjmaaGreatDoor

namespace Go.Proofs.YtefjbnhpjdhjmaaGreatDoor
set_option linter.all false
open Go.RowKit
set_option maxRecDepth 100000
set_option maxHeartbeats 4000000
theorem jo (W:Nat) (x:aj) (w:World) (h:nU W w) :
  Calls Tryz.prog 132 #[.slice (some ⟨W,0,none⟩) 21 21,.string x] w fun e w'=>e=.returned (.int .i64 (kindOf x))∧w=w':=by
 refine (Tryz.slices_Index_string W 0 21 21 rM x w (by decide) (by decide) fun j hj=>h.cell j hj).mono ?_
 rintro e w' ⟨rfl,rfl⟩
 exact ⟨rfl,rfl⟩
theorem Fh {s:aj} {i k:Nat} {nm:aj} (hi:i≤s.size) (h:nameP s i=.ok (nm,k)):nm.size<1000000000:=by
 unfold nameP at h
 cases hw:gX s i with
 | error e=>rw [hw] at h;cases h
 | ok x =>
  obtain ⟨⟨x,a⟩,k'⟩:=x
  rw [hw] at h
  dsimp only at h
  split at h
  ·cases h
  ·simp only [Except.ok.injEq,Prod.mk.injEq] at h;obtain ⟨rfl,rfl⟩:=h;omega
theorem qw {s:aj} {i k:Nat} {nm:aj} (hi:i≤s.size) (h:nameP s i=.ok (nm,k)):i<k∧k≤s.size:=by
 unfold nameP at h
 cases hw:gX s i with
 | error e=>rw [hw] at h;cases h
 | ok x =>
  obtain ⟨⟨x,a⟩,k'⟩:=x
  rw [hw] at h
  dsimp only at h
  split at h
  ·cases h
  ·simp only [Except.ok.injEq,Prod.mk.injEq] at h;obtain ⟨rfl,rfl⟩:=h;have:=jZ hi hw;omega
theorem aaM (N W:Nat) (s:aj) (i d:Nat) (w:World) (inner:Nat→cZ aA) (hr:eU N W s i d w) (hi:i≤s.size) (hs6:s.size≤65536) (hc:peek s (skip s i)=64) :
  Calls Tryz.prog 126 #[.pointer (some ⟨N,0,none⟩)] w (dh N W s d (aH inner s i) (gJ w.heap.size) w):=by
 have e0:Hid (aH inner s i=yE s (skip s i+1) 23):=by unfold Hid aH;rw [hc];rfl
 have hlt:skip s i<s.size:=pq (by omega)
 have HR:=ah hr
 have hN:=hr.lt;have hW:=hr.tq;clear hr
 have hle:=dG hi
 have hs:s.size≤1000000000:=by omega
 go_enter Tryz.func126, Tryz.ntmps126
 go_wp2_with fail
 refine (next_any N W s i d _ (HR.out.kept ((Kept.refl aC w).alloc _) (fun h=>h) (fun h=>h)) hi hs).mono ?_
 rintro e w1 ⟨rfl,R1,K1⟩
 have b1:(peek s (skip s i)==39)=false:=by simp;omega
 have b2:(peek s (skip s i)==64)=true:=by simpa using hc
 have F1:Hid (Five w.heap.size (.int .i64 0) (.string ⟨#[]⟩) (.int .i64 0) (.string ⟨#[]⟩) (.slice none 0 0) w1):=Five.kept (ay w _) K1 (by omega)
 have jS:Hid (Kept (· = N) w w1):=((Kept.refl _ w).alloc _).trans K1
 have q1:=R1.c1;have f1:=R1.fr 1
 have mO:=ah (R1.setAt (skip s i+1));have VT:=ah (jS.out.setCell (p:=⟨N,1,none⟩) (.inl rfl) (.int .i64 ((skip s i+1:Nat):Int)))
 have OI:=ah (F1.out.kept ((Kept.refl (· = N) w1).setCell (p:=⟨N,1,none⟩) (.inl rfl) (.int .i64 ((skip s i+1:Nat):Int))) (by omega))
 clear R1 K1 hc
 go_wp2_with fail
 refine (name_any N W s (skip s i+1) d _ mO.out hlt hs).mono ?_
 rintro e w2 ⟨K2,h⟩
 have F2:=ah (OI.out.kept K2 (by omega))
 cases ht:nameP s (skip s i+1) with
 | error er =>
  rw [ht] at h
  obtain rfl:=h
  have hr:Hid (aH inner s i=.error er):=by unfold Hid;rw [e0.out];unfold yE;rw [ht]
  clear ht
  go_wp2_with fail
  exact bK rfl hr.out (VT.out.trans K2)
 | ok x =>
  obtain ⟨nm,k⟩:=x
  rw [ht] at h
  obtain ⟨_,rfl,rfl,R2⟩:=h
  obtain ⟨c0,c1,c2,c3,c4,cf⟩:=F2.out.cells
  have kV:=ah R2;clear R2
  have hts:=Fh (show skip s i+1≤s.size from hlt) ht
  have hr:Hid (aH inner s i=.ok (.mk 23 E0 0 nm [],k)):=by unfold Hid;rw [e0.out];unfold yE;rw [ht]
  clear ht
  have f0:=cf 0;have f1':=cf 1;have f2:=cf 2;have f3:=cf 3;have f4:=cf 4;clear cf q1 f1
  go_wp2_with fail
  exact jE (p:=.mk 23 E0 0 nm []) (S:=aC) rfl rfl F2.out kV.out (VT.out.trans K2) (Nat.le_refl _) hN hW hr.out ⟨jL,hts,nV⟩ (fun b hb=>hb.elim) (by unfold aI;trivial)
theorem VU (N W:Nat) (s:aj) (i d:Nat) (w:World) (inner:Nat→cZ aA) (hr:eU N W s i d w) (hi:i≤s.size) (hs6:s.size≤65536) (hc:peek s (skip s i)=42) :
  Calls Tryz.prog 126 #[.pointer (some ⟨N,0,none⟩)] w (dh N W s d (aH inner s i) (gJ w.heap.size) w):=by
 have e0:Hid (aH inner s i=yE s (skip s i+1) 24):=by unfold Hid aH;rw [hc];rfl
 have hlt:skip s i<s.size:=pq (by omega)
 have HR:=ah hr
 have hN:=hr.lt;have hW:=hr.tq;clear hr
 have hle:=dG hi
 have hs:s.size≤1000000000:=by omega
 go_enter Tryz.func126, Tryz.ntmps126
 go_wp2_with fail
 refine (next_any N W s i d _ (HR.out.kept ((Kept.refl aC w).alloc _) (fun h=>h) (fun h=>h)) hi hs).mono ?_
 rintro e w1 ⟨rfl,R1,K1⟩
 have b1:(peek s (skip s i)==39)=false:=by simp;omega
 have b2:(peek s (skip s i)==64)=false:=by simp;omega
 have b3:(peek s (skip s i)==42)=true:=by simpa using hc
 have F1:Hid (Five w.heap.size (.int .i64 0) (.string ⟨#[]⟩) (.int .i64 0) (.string ⟨#[]⟩) (.slice none 0 0) w1):=Five.kept (ay w _) K1 (by omega)
 have jS:Hid (Kept (· = N) w w1):=((Kept.refl _ w).alloc _).trans K1
 have q1:=R1.c1;have f1:=R1.fr 1
 have mO:=ah (R1.setAt (skip s i+1));have VT:=ah (jS.out.setCell (p:=⟨N,1,none⟩) (.inl rfl) (.int .i64 ((skip s i+1:Nat):Int)))
 have OI:=ah (F1.out.kept ((Kept.refl (· = N) w1).setCell (p:=⟨N,1,none⟩) (.inl rfl) (.int .i64 ((skip s i+1:Nat):Int))) (by omega))
 clear R1 K1 hc
 go_wp2_with fail
 refine (name_any N W s (skip s i+1) d _ mO.out hlt hs).mono ?_
 rintro e w2 ⟨K2,h⟩
 have F2:=ah (OI.out.kept K2 (by omega))
 cases ht:nameP s (skip s i+1) with
 | error er =>
  rw [ht] at h
  obtain rfl:=h
  have hr:Hid (aH inner s i=.error er):=by unfold Hid;rw [e0.out];unfold yE;rw [ht]
  clear ht
  go_wp2_with fail
  exact bK rfl hr.out (VT.out.trans K2)
 | ok x =>
  obtain ⟨nm,k⟩:=x
  rw [ht] at h
  obtain ⟨_,rfl,rfl,R2⟩:=h
  obtain ⟨c0,c1,c2,c3,c4,cf⟩:=F2.out.cells
  have kV:=ah R2;clear R2
  have hts:=Fh (show skip s i+1≤s.size from hlt) ht
  have hr:Hid (aH inner s i=.ok (.mk 24 E0 0 nm [],k)):=by unfold Hid;rw [e0.out];unfold yE;rw [ht]
  clear ht
  have f0:=cf 0;have f1':=cf 1;have f2:=cf 2;have f3:=cf 3;have f4:=cf 4;clear cf q1 f1
  go_wp2_with fail
  exact jE (p:=.mk 24 E0 0 nm []) (S:=aC) rfl rfl F2.out kV.out (VT.out.trans K2) (Nat.le_refl _) hN hW hr.out ⟨jL,hts,nV⟩ (fun b hb=>hb.elim) (by unfold aI;trivial)
theorem P9 (N W:Nat) (s:aj) (i d:Nat) (w:World) (inner:Nat→cZ aA) (hr:eU N W s i d w) (hi:i≤s.size) (hs6:s.size≤65536) (eX:peek s (skip s i)≠39) (h64:peek s (skip s i)≠64) (h42:peek s (skip s i)≠42) (er:Er) (ht:gX s (skip s i)=.error er) :
  Calls Tryz.prog 126 #[.pointer (some ⟨N,0,none⟩)] w (dh N W s d (aH inner s i) (gJ w.heap.size) w):=by
 have e0:Hid (aH inner s i=oq inner s (skip s i)):=by unfold Hid aH;rw [if_neg eX,if_neg h64,if_neg h42]
 have HR:=ah hr
 have hN:=hr.lt;have hW:=hr.tq;clear hr
 have hle:=dG hi
 have hs:s.size≤1000000000:=by omega
 go_enter Tryz.func126, Tryz.ntmps126
 go_wp2_with fail
 refine (next_any N W s i d _ (HR.out.kept ((Kept.refl aC w).alloc _) (fun h=>h) (fun h=>h)) hi hs).mono ?_
 rintro e w1 ⟨rfl,R1,K1⟩
 have b1:(peek s (skip s i)==39)=false:=by simpa using eX
 have b2:(peek s (skip s i)==64)=false:=by simpa using h64
 have b3:(peek s (skip s i)==42)=false:=by simpa using h42
 have F1:Hid (Five w.heap.size (.int .i64 0) (.string ⟨#[]⟩) (.int .i64 0) (.string ⟨#[]⟩) (.slice none 0 0) w1):=Five.kept (ay w _) K1 (by omega)
 have jS:Hid (Kept (· = N) w w1):=((Kept.refl _ w).alloc _).trans K1
 have mO:=ah R1
 clear R1 K1 eX h64 h42
 have hr:Hid (aH inner s i=.error er):=by unfold Hid;rw [e0.out];unfold oq;rw [ht]
 go_wp2_with fail
 refine (lg N W s (skip s i) d _ mO.out hle hs).mono ?_
 rintro e w2 ⟨K2,h⟩
 rw [ht] at h
 obtain rfl:=h
 clear ht
 go_wp2_with fail
 exact bK rfl hr.out (jS.out.trans K2)
theorem YR (N W:Nat) (s:aj) (i d:Nat) (w:World) (inner:Nat→cZ aA) (hr:eU N W s i d w) (hi:i≤s.size) (hs6:s.size≤65536) (eX:peek s (skip s i)≠39) (h64:peek s (skip s i)≠64) (h42:peek s (skip s i)≠42) (x:aj) (a k:Nat) (ht:gX s (skip s i)=.ok ((x,a),k)) (hkd:kindOf x = -1∨kindOf x=0) :
  Calls Tryz.prog 126 #[.pointer (some ⟨N,0,none⟩)] w (dh N W s d (aH inner s i) (gJ w.heap.size) w):=by
 have e0:Hid (aH inner s i=oq inner s (skip s i)):=by unfold Hid aH;rw [if_neg eX,if_neg h64,if_neg h42]
 have HR:=ah hr
 have hN:=hr.lt;have hW:=hr.tq;clear hr
 have hle:=dG hi
 have hs:s.size≤1000000000:=by omega
 go_enter Tryz.func126, Tryz.ntmps126
 go_wp2_with fail
 refine (next_any N W s i d _ (HR.out.kept ((Kept.refl aC w).alloc _) (fun h=>h) (fun h=>h)) hi hs).mono ?_
 rintro e w1 ⟨rfl,R1,K1⟩
 have b1:(peek s (skip s i)==39)=false:=by simpa using eX
 have b2:(peek s (skip s i)==64)=false:=by simpa using h64
 have b3:(peek s (skip s i)==42)=false:=by simpa using h42
 have F1:Hid (Five w.heap.size (.int .i64 0) (.string ⟨#[]⟩) (.int .i64 0) (.string ⟨#[]⟩) (.slice none 0 0) w1):=Five.kept (ay w _) K1 (by omega)
 have jS:Hid (Kept (· = N) w w1):=((Kept.refl _ w).alloc _).trans K1
 have mO:=ah R1
 clear R1 K1 eX h64 h42
 have hk:=jZ hle ht
 have hx:x.size≤1000000:=by omega
 have hks:k≤s.size:=by omega
 have hr:Hid (aH inner s i=.error (7,a)):=by unfold Hid;rw [e0.out];unfold oq;rw [ht];dsimp only;unfold lM;rw [if_pos hkd]
 go_wp2_with fail
 refine (lg N W s (skip s i) d _ mO.out hle hs).mono ?_
 rintro e w2 ⟨K2,h⟩
 rw [ht] at h
 obtain ⟨_,rfl,rfl,R2⟩:=h
 have F2:=ah (F1.out.kept K2 (by omega))
 have qx:Hid (Kept (· = N) w w2):=jS.out.trans K2
 have q2:=R2.c2
 have kV:=ah R2
 clear R2 K2 ht hk b1 b2 b3
 go_wp2_with fail
 refine (jo W x _ kV.out.words).mono ?_
 rintro e w3 ⟨rfl,rfl⟩
 rcases hkd with hkd|hkd
 all_goals
  rw [hkd]
  clear hkd q2
  go_wp2_with fail
  refine (jv _ 7 a _).mono ?_
  rintro e w4 ⟨rfl,rfl⟩
  go_wp2_with fail
  exact bK rfl hr.out qx.out
theorem SI (N W:Nat) (s:aj) (i d:Nat) (w:World) (inner:Nat→cZ aA) (hr:eU N W s i d w) (hi:i≤s.size) (hs6:s.size≤65536) (eX:peek s (skip s i)≠39) (h64:peek s (skip s i)≠64) (h42:peek s (skip s i)≠42) (x:aj) (a k:Nat) (ht:gX s (skip s i)=.ok ((x,a),k)) (kd:Int) (hkd:kindOf x=kd) (ha:kd≠-1∧kd≠0∧kd≠2∧(kd<3∨11<kd)∧kd≠20) :
  Calls Tryz.prog 126 #[.pointer (some ⟨N,0,none⟩)] w (dh N W s d (aH inner s i) (gJ w.heap.size) w):=by
 have e0:Hid (aH inner s i=oq inner s (skip s i)):=by unfold Hid aH;rw [if_neg eX,if_neg h64,if_neg h42]
 have HR:=ah hr
 have hN:=hr.lt;have hW:=hr.tq;clear hr
 have hle:=dG hi
 have hs:s.size≤1000000000:=by omega
 go_enter Tryz.func126, Tryz.ntmps126
 go_wp2_with fail
 refine (next_any N W s i d _ (HR.out.kept ((Kept.refl aC w).alloc _) (fun h=>h) (fun h=>h)) hi hs).mono ?_
 rintro e w1 ⟨rfl,R1,K1⟩
 have b1:(peek s (skip s i)==39)=false:=by simpa using eX
 have b2:(peek s (skip s i)==64)=false:=by simpa using h64
 have b3:(peek s (skip s i)==42)=false:=by simpa using h42
 have F1:Hid (Five w.heap.size (.int .i64 0) (.string ⟨#[]⟩) (.int .i64 0) (.string ⟨#[]⟩) (.slice none 0 0) w1):=Five.kept (ay w _) K1 (by omega)
 have jS:Hid (Kept (· = N) w w1):=((Kept.refl _ w).alloc _).trans K1
 have mO:=ah R1
 clear R1 K1 eX h64 h42
 have hk:=jZ hle ht
 have hx:x.size≤1000000:=by omega
 have hks:k≤s.size:=by omega
 have hr:Hid (aH inner s i=.ok (.mk kd E0 0 E0 [],k)):=by
  unfold Hid;rw [e0.out];unfold oq;rw [ht];dsimp only;unfold lM;rw [hkd,if_neg (by omega),if_neg (by omega),if_neg (by omega),if_neg (by omega)]
 obtain ⟨a1,a2,a3,a4,a5⟩:=ha
 go_wp2_with fail
 refine (lg N W s (skip s i) d _ mO.out hle hs).mono ?_
 rintro e w2 ⟨K2,h⟩
 rw [ht] at h
 obtain ⟨_,rfl,rfl,R2⟩:=h
 have F2:=ah (F1.out.kept K2 (by omega))
 have qx:Hid (Kept (· = N) w w2):=jS.out.trans K2
 have q2:=R2.c2
 have kV:=ah R2
 clear R2 K2 ht hk b1 b2 b3
 go_wp2_with fail
 refine (jo W x _ kV.out.words).mono ?_
 rintro e w3 ⟨rfl,rfl⟩
 rw [hkd]
 clear hkd q2
 have z1:(kd == -1)=false:=by simpa using a1
 have z2:(kd==0)=false:=by simpa using a2
 have z3:(kd==2)=false:=by simpa using a3
 have z4:(kd==20)=false:=by simpa using a5
 have y3:(kd==3)=false:=by simp;omega
 have y4:(kd==4)=false:=by simp;omega
 have y5:(kd==5)=false:=by simp;omega
 have y6:(kd==6)=false:=by simp;omega
 have y7:(kd==7)=false:=by simp;omega
 have y8:(kd==8)=false:=by simp;omega
 have y9:(kd==9)=false:=by simp;omega
 have y10:(kd==10)=false:=by simp;omega
 have y11:(kd==11)=false:=by simp;omega
 clear a1 a2 a3 a4 a5
 obtain ⟨c0,c1,c2,c3,c4,cf⟩:=F2.out.cells
 have f0:=cf 0;have f1:=cf 1;have f2:=cf 2;have f3:=cf 3;have f4:=cf 4;clear cf
 go_wp2_with fail
 exact jE (p:=.mk kd E0 0 E0 []) (S:=aC) rfl rfl F2.out kV.out qx.out (Nat.le_refl _) hN hW hr.out ⟨jL,jL,nV⟩ (fun b hb=>hb.elim) (by unfold aI;trivial)
end Go.Proofs.YtefjbnhpjdhjmaaGreatDoor

namespace Go.Proofs.YtefjbnhpjdhjmaaGreatDoor
set_option linter.all false
open Go.RowKit
set_option maxRecDepth 100000
set_option maxHeartbeats 4000000
theorem SK (N W:Nat) (s:aj) (i d:Nat) (w:World) (inner:Nat→cZ aA) (hr:eU N W s i d w) (hi:i≤s.size) (hs6:s.size≤65536) (eX:peek s (skip s i)≠39) (h64:peek s (skip s i)≠64) (h42:peek s (skip s i)≠42) (x:aj) (a k:Nat) (ht:gX s (skip s i)=.ok ((x,a),k)) (hkd:kindOf x=3) :
  Calls Tryz.prog 126 #[.pointer (some ⟨N,0,none⟩)] w (dh N W s d (aH inner s i) (gJ w.heap.size) w):=by
 have e0:Hid (aH inner s i=oq inner s (skip s i)):=by unfold Hid aH;rw [if_neg eX,if_neg h64,if_neg h42]
 have HR:=ah hr
 have hN:=hr.lt;have hW:=hr.tq;clear hr
 have hle:=dG hi
 have hs:s.size≤1000000000:=by omega
 go_enter Tryz.func126, Tryz.ntmps126
 go_wp2_with fail
 refine (next_any N W s i d _ (HR.out.kept ((Kept.refl aC w).alloc _) (fun h=>h) (fun h=>h)) hi hs).mono ?_
 rintro e w1 ⟨rfl,R1,K1⟩
 have b1:(peek s (skip s i)==39)=false:=by simpa using eX
 have b2:(peek s (skip s i)==64)=false:=by simpa using h64
 have b3:(peek s (skip s i)==42)=false:=by simpa using h42
 have F1:Hid (Five w.heap.size (.int .i64 0) (.string ⟨#[]⟩) (.int .i64 0) (.string ⟨#[]⟩) (.slice none 0 0) w1):=Five.kept (ay w _) K1 (by omega)
 have jS:Hid (Kept (· = N) w w1):=((Kept.refl _ w).alloc _).trans K1
 have mO:=ah R1
 clear R1 K1 eX h64 h42
 have hk:=jZ hle ht
 have hx:x.size≤1000000:=by omega
 have hks:k≤s.size:=by omega
 have hp:Hid (aH inner s i=dP s k 3):=by
  unfold Hid;rw [e0.out];unfold oq;rw [ht];dsimp only;unfold lM;rw [hkd,if_neg (by omega),if_pos (by omega)]
 go_wp2_with fail
 refine (lg N W s (skip s i) d _ mO.out hle hs).mono ?_
 rintro e w2 ⟨K2,h⟩
 rw [ht] at h
 obtain ⟨_,rfl,rfl,R2⟩:=h
 have F2:=ah (F1.out.kept K2 (by omega))
 have qx:Hid (Kept (· = N) w w2):=jS.out.trans K2
 have q2:=R2.c2
 have kV:=ah R2
 clear R2 K2 ht hk b1 b2 b3
 go_wp2_with fail
 refine (jo W x _ kV.out.words).mono ?_
 rintro e w3 ⟨rfl,rfl⟩
 rw [hkd]
 clear hkd q2
 go_wp2_with fail
 refine (gZ 40 N W (by decide) s k d _ kV.out hks hs).mono ?_
 rintro e w3 ⟨k_,h⟩
 have F3:=ah (F2.out.kept k_ (by omega))
 have K3:=ah (qx.out.trans k_);clear k_
 cases hn:dI 40 s k with
 | error er =>
  rw [hn] at h
  obtain rfl:=h
  have hr:Hid (aH inner s i=.error er):=by unfold Hid;rw [hp.out];unfold dP;rw [hn]
  clear hn
  go_wp2_with fail
  exact bK rfl hr.out K3.out
 | ok k1 =>
  rw [hn] at h
  obtain ⟨rfl,R3⟩:=h
  have uq:=ah R3;clear R3
  have hk1:k1≤s.size:=(iC hn).2.1
  have HN:=ah hn;clear hn
  go_wp2_with fail
  refine (xw N W s k1 d _ uq.out hk1 hs).mono ?_
  rintro e w4 ⟨k_,h⟩
  have F4:=ah (F3.out.kept k_ (by omega))
  have K4:=ah (K3.out.trans k_);clear k_
  cases ht:iY s k1 with
  | error er =>
   rw [ht] at h
   obtain rfl:=h
   have hr:Hid (aH inner s i=.error er):=by unfold Hid;rw [hp.out];unfold dP;rw [HN.out];dsimp only;rw [ht]
   clear ht
   go_wp2_with fail
   exact bK rfl hr.out K4.out
  | ok y =>
   obtain ⟨⟨t,a'⟩,k2⟩:=y
   rw [ht] at h
   obtain ⟨_,rfl,rfl,R4⟩:=h
   have uw:=ah R4;clear R4
   have hk2:k2≤s.size:=(nO ht).2.1
   have hts:t.size≤100000:=by have:=nO ht;omega
   have HT:=ah ht;clear ht
   by_cases h0:t.size=0
   ·have he:t.toList.isEmpty=true:=nC.2 h0
    have hr:Hid (aH inner s i=.error (8,a')):=by unfold Hid;rw [hp.out];unfold dP;rw [HN.out];dsimp only;rw [HT.out];dsimp only;rw [if_pos h0]
    clear h0
    go_wp2_with fail
    refine (jv _ 8 a' _).mono ?_
    rintro e w5 ⟨rfl,rfl⟩
    go_wp2_with fail
    exact bK rfl hr.out K4.out
   ·have he:t.toList.isEmpty=false:=jV.2 (by omega)
    go_wp2_with fail
    refine (gZ 41 N W (by decide) s k2 d _ uw.out hk2 hs).mono ?_
    rintro e w5 ⟨k_,h⟩
    have F5:=ah (F4.out.kept k_ (by omega))
    have K5:=ah (K4.out.trans k_);clear k_
    cases hn:dI 41 s k2 with
    | error er =>
     rw [hn] at h
     obtain rfl:=h
     have hr:Hid (aH inner s i=.error er):=by unfold Hid;rw [hp.out];unfold dP;rw [HN.out];dsimp only;rw [HT.out];dsimp only;rw [if_neg h0,hn]
     clear hn h0
     go_wp2_with fail
     exact bK rfl hr.out K5.out
    | ok k3 =>
     rw [hn] at h
     obtain ⟨rfl,R5⟩:=h
     have uy:=ah R5;clear R5
     have hr:Hid (aH inner s i=.ok (.mk 3 t 0 E0 [],k3)):=by unfold Hid;rw [hp.out];unfold dP;rw [HN.out];dsimp only;rw [HT.out];dsimp only;rw [if_neg h0,hn]
     clear hn h0
     have ts:t.size<1000000000:=by omega
     obtain ⟨c0,c1,c2,c3,c4,cf⟩:=F5.out.cells
     have f0:=cf 0;have f1:=cf 1;have f2:=cf 2;have f3:=cf 3;have f4:=cf 4;clear cf
     go_wp2_with fail
     exact jE (p:=.mk 3 t 0 E0 []) (S:=aC) rfl rfl F5.out uy.out K5.out (Nat.le_refl _) hN hW hr.out ⟨ts,jL,nV⟩ (fun b hb=>hb.elim) (by unfold aI;trivial)
theorem SL (N W:Nat) (s:aj) (i d:Nat) (w:World) (inner:Nat→cZ aA) (hr:eU N W s i d w) (hi:i≤s.size) (hs6:s.size≤65536) (eX:peek s (skip s i)≠39) (h64:peek s (skip s i)≠64) (h42:peek s (skip s i)≠42) (x:aj) (a k:Nat) (ht:gX s (skip s i)=.ok ((x,a),k)) (hkd:kindOf x=4) :
  Calls Tryz.prog 126 #[.pointer (some ⟨N,0,none⟩)] w (dh N W s d (aH inner s i) (gJ w.heap.size) w):=by
 have e0:Hid (aH inner s i=oq inner s (skip s i)):=by unfold Hid aH;rw [if_neg eX,if_neg h64,if_neg h42]
 have HR:=ah hr
 have hN:=hr.lt;have hW:=hr.tq;clear hr
 have hle:=dG hi
 have hs:s.size≤1000000000:=by omega
 go_enter Tryz.func126, Tryz.ntmps126
 go_wp2_with fail
 refine (next_any N W s i d _ (HR.out.kept ((Kept.refl aC w).alloc _) (fun h=>h) (fun h=>h)) hi hs).mono ?_
 rintro e w1 ⟨rfl,R1,K1⟩
 have b1:(peek s (skip s i)==39)=false:=by simpa using eX
 have b2:(peek s (skip s i)==64)=false:=by simpa using h64
 have b3:(peek s (skip s i)==42)=false:=by simpa using h42
 have F1:Hid (Five w.heap.size (.int .i64 0) (.string ⟨#[]⟩) (.int .i64 0) (.string ⟨#[]⟩) (.slice none 0 0) w1):=Five.kept (ay w _) K1 (by omega)
 have jS:Hid (Kept (· = N) w w1):=((Kept.refl _ w).alloc _).trans K1
 have mO:=ah R1
 clear R1 K1 eX h64 h42
 have hk:=jZ hle ht
 have hx:x.size≤1000000:=by omega
 have hks:k≤s.size:=by omega
 have hp:Hid (aH inner s i=dP s k 4):=by
  unfold Hid;rw [e0.out];unfold oq;rw [ht];dsimp only;unfold lM;rw [hkd,if_neg (by omega),if_pos (by omega)]
 go_wp2_with fail
 refine (lg N W s (skip s i) d _ mO.out hle hs).mono ?_
 rintro e w2 ⟨K2,h⟩
 rw [ht] at h
 obtain ⟨_,rfl,rfl,R2⟩:=h
 have F2:=ah (F1.out.kept K2 (by omega))
 have qx:Hid (Kept (· = N) w w2):=jS.out.trans K2
 have q2:=R2.c2
 have kV:=ah R2
 clear R2 K2 ht hk b1 b2 b3
 go_wp2_with fail
 refine (jo W x _ kV.out.words).mono ?_
 rintro e w3 ⟨rfl,rfl⟩
 rw [hkd]
 clear hkd q2
 go_wp2_with fail
 refine (gZ 40 N W (by decide) s k d _ kV.out hks hs).mono ?_
 rintro e w3 ⟨k_,h⟩
 have F3:=ah (F2.out.kept k_ (by omega))
 have K3:=ah (qx.out.trans k_);clear k_
 cases hn:dI 40 s k with
 | error er =>
  rw [hn] at h
  obtain rfl:=h
  have hr:Hid (aH inner s i=.error er):=by unfold Hid;rw [hp.out];unfold dP;rw [hn]
  clear hn
  go_wp2_with fail
  exact bK rfl hr.out K3.out
 | ok k1 =>
  rw [hn] at h
  obtain ⟨rfl,R3⟩:=h
  have uq:=ah R3;clear R3
  have hk1:k1≤s.size:=(iC hn).2.1
  have HN:=ah hn;clear hn
  go_wp2_with fail
  refine (xw N W s k1 d _ uq.out hk1 hs).mono ?_
  rintro e w4 ⟨k_,h⟩
  have F4:=ah (F3.out.kept k_ (by omega))
  have K4:=ah (K3.out.trans k_);clear k_
  cases ht:iY s k1 with
  | error er =>
   rw [ht] at h
   obtain rfl:=h
   have hr:Hid (aH inner s i=.error er):=by unfold Hid;rw [hp.out];unfold dP;rw [HN.out];dsimp only;rw [ht]
   clear ht
   go_wp2_with fail
   exact bK rfl hr.out K4.out
  | ok y =>
   obtain ⟨⟨t,a'⟩,k2⟩:=y
   rw [ht] at h
   obtain ⟨_,rfl,rfl,R4⟩:=h
   have uw:=ah R4;clear R4
   have hk2:k2≤s.size:=(nO ht).2.1
   have hts:t.size≤100000:=by have:=nO ht;omega
   have HT:=ah ht;clear ht
   by_cases h0:t.size=0
   ·have he:t.toList.isEmpty=true:=nC.2 h0
    have hr:Hid (aH inner s i=.error (8,a')):=by unfold Hid;rw [hp.out];unfold dP;rw [HN.out];dsimp only;rw [HT.out];dsimp only;rw [if_pos h0]
    clear h0
    go_wp2_with fail
    refine (jv _ 8 a' _).mono ?_
    rintro e w5 ⟨rfl,rfl⟩
    go_wp2_with fail
    exact bK rfl hr.out K4.out
   ·have he:t.toList.isEmpty=false:=jV.2 (by omega)
    go_wp2_with fail
    refine (gZ 41 N W (by decide) s k2 d _ uw.out hk2 hs).mono ?_
    rintro e w5 ⟨k_,h⟩
    have F5:=ah (F4.out.kept k_ (by omega))
    have K5:=ah (K4.out.trans k_);clear k_
    cases hn:dI 41 s k2 with
    | error er =>
     rw [hn] at h
     obtain rfl:=h
     have hr:Hid (aH inner s i=.error er):=by unfold Hid;rw [hp.out];unfold dP;rw [HN.out];dsimp only;rw [HT.out];dsimp only;rw [if_neg h0,hn]
     clear hn h0
     go_wp2_with fail
     exact bK rfl hr.out K5.out
    | ok k3 =>
     rw [hn] at h
     obtain ⟨rfl,R5⟩:=h
     have uy:=ah R5;clear R5
     have hr:Hid (aH inner s i=.ok (.mk 4 t 0 E0 [],k3)):=by unfold Hid;rw [hp.out];unfold dP;rw [HN.out];dsimp only;rw [HT.out];dsimp only;rw [if_neg h0,hn]
     clear hn h0
     have ts:t.size<1000000000:=by omega
     obtain ⟨c0,c1,c2,c3,c4,cf⟩:=F5.out.cells
     have f0:=cf 0;have f1:=cf 1;have f2:=cf 2;have f3:=cf 3;have f4:=cf 4;clear cf
     go_wp2_with fail
     exact jE (p:=.mk 4 t 0 E0 []) (S:=aC) rfl rfl F5.out uy.out K5.out (Nat.le_refl _) hN hW hr.out ⟨ts,jL,nV⟩ (fun b hb=>hb.elim) (by unfold aI;trivial)
theorem SN (N W:Nat) (s:aj) (i d:Nat) (w:World) (inner:Nat→cZ aA) (hr:eU N W s i d w) (hi:i≤s.size) (hs6:s.size≤65536) (eX:peek s (skip s i)≠39) (h64:peek s (skip s i)≠64) (h42:peek s (skip s i)≠42) (x:aj) (a k:Nat) (ht:gX s (skip s i)=.ok ((x,a),k)) (hkd:kindOf x=5) :
  Calls Tryz.prog 126 #[.pointer (some ⟨N,0,none⟩)] w (dh N W s d (aH inner s i) (gJ w.heap.size) w):=by
 have e0:Hid (aH inner s i=oq inner s (skip s i)):=by unfold Hid aH;rw [if_neg eX,if_neg h64,if_neg h42]
 have HR:=ah hr
 have hN:=hr.lt;have hW:=hr.tq;clear hr
 have hle:=dG hi
 have hs:s.size≤1000000000:=by omega
 go_enter Tryz.func126, Tryz.ntmps126
 go_wp2_with fail
 refine (next_any N W s i d _ (HR.out.kept ((Kept.refl aC w).alloc _) (fun h=>h) (fun h=>h)) hi hs).mono ?_
 rintro e w1 ⟨rfl,R1,K1⟩
 have b1:(peek s (skip s i)==39)=false:=by simpa using eX
 have b2:(peek s (skip s i)==64)=false:=by simpa using h64
 have b3:(peek s (skip s i)==42)=false:=by simpa using h42
 have F1:Hid (Five w.heap.size (.int .i64 0) (.string ⟨#[]⟩) (.int .i64 0) (.string ⟨#[]⟩) (.slice none 0 0) w1):=Five.kept (ay w _) K1 (by omega)
 have jS:Hid (Kept (· = N) w w1):=((Kept.refl _ w).alloc _).trans K1
 have mO:=ah R1
 clear R1 K1 eX h64 h42
 have hk:=jZ hle ht
 have hx:x.size≤1000000:=by omega
 have hks:k≤s.size:=by omega
 have hp:Hid (aH inner s i=dP s k 5):=by
  unfold Hid;rw [e0.out];unfold oq;rw [ht];dsimp only;unfold lM;rw [hkd,if_neg (by omega),if_pos (by omega)]
 go_wp2_with fail
 refine (lg N W s (skip s i) d _ mO.out hle hs).mono ?_
 rintro e w2 ⟨K2,h⟩
 rw [ht] at h
 obtain ⟨_,rfl,rfl,R2⟩:=h
 have F2:=ah (F1.out.kept K2 (by omega))
 have qx:Hid (Kept (· = N) w w2):=jS.out.trans K2
 have q2:=R2.c2
 have kV:=ah R2
 clear R2 K2 ht hk b1 b2 b3
 go_wp2_with fail
 refine (jo W x _ kV.out.words).mono ?_
 rintro e w3 ⟨rfl,rfl⟩
 rw [hkd]
 clear hkd q2
 go_wp2_with fail
 refine (gZ 40 N W (by decide) s k d _ kV.out hks hs).mono ?_
 rintro e w3 ⟨k_,h⟩
 have F3:=ah (F2.out.kept k_ (by omega))
 have K3:=ah (qx.out.trans k_);clear k_
 cases hn:dI 40 s k with
 | error er =>
  rw [hn] at h
  obtain rfl:=h
  have hr:Hid (aH inner s i=.error er):=by unfold Hid;rw [hp.out];unfold dP;rw [hn]
  clear hn
  go_wp2_with fail
  exact bK rfl hr.out K3.out
 | ok k1 =>
  rw [hn] at h
  obtain ⟨rfl,R3⟩:=h
  have uq:=ah R3;clear R3
  have hk1:k1≤s.size:=(iC hn).2.1
  have HN:=ah hn;clear hn
  go_wp2_with fail
  refine (xw N W s k1 d _ uq.out hk1 hs).mono ?_
  rintro e w4 ⟨k_,h⟩
  have F4:=ah (F3.out.kept k_ (by omega))
  have K4:=ah (K3.out.trans k_);clear k_
  cases ht:iY s k1 with
  | error er =>
   rw [ht] at h
   obtain rfl:=h
   have hr:Hid (aH inner s i=.error er):=by unfold Hid;rw [hp.out];unfold dP;rw [HN.out];dsimp only;rw [ht]
   clear ht
   go_wp2_with fail
   exact bK rfl hr.out K4.out
  | ok y =>
   obtain ⟨⟨t,a'⟩,k2⟩:=y
   rw [ht] at h
   obtain ⟨_,rfl,rfl,R4⟩:=h
   have uw:=ah R4;clear R4
   have hk2:k2≤s.size:=(nO ht).2.1
   have hts:t.size≤100000:=by have:=nO ht;omega
   have HT:=ah ht;clear ht
   by_cases h0:t.size=0
   ·have he:t.toList.isEmpty=true:=nC.2 h0
    have hr:Hid (aH inner s i=.error (8,a')):=by unfold Hid;rw [hp.out];unfold dP;rw [HN.out];dsimp only;rw [HT.out];dsimp only;rw [if_pos h0]
    clear h0
    go_wp2_with fail
    refine (jv _ 8 a' _).mono ?_
    rintro e w5 ⟨rfl,rfl⟩
    go_wp2_with fail
    exact bK rfl hr.out K4.out
   ·have he:t.toList.isEmpty=false:=jV.2 (by omega)
    go_wp2_with fail
    refine (gZ 41 N W (by decide) s k2 d _ uw.out hk2 hs).mono ?_
    rintro e w5 ⟨k_,h⟩
    have F5:=ah (F4.out.kept k_ (by omega))
    have K5:=ah (K4.out.trans k_);clear k_
    cases hn:dI 41 s k2 with
    | error er =>
     rw [hn] at h
     obtain rfl:=h
     have hr:Hid (aH inner s i=.error er):=by unfold Hid;rw [hp.out];unfold dP;rw [HN.out];dsimp only;rw [HT.out];dsimp only;rw [if_neg h0,hn]
     clear hn h0
     go_wp2_with fail
     exact bK rfl hr.out K5.out
    | ok k3 =>
     rw [hn] at h
     obtain ⟨rfl,R5⟩:=h
     have uy:=ah R5;clear R5
     have hr:Hid (aH inner s i=.ok (.mk 5 t 0 E0 [],k3)):=by unfold Hid;rw [hp.out];unfold dP;rw [HN.out];dsimp only;rw [HT.out];dsimp only;rw [if_neg h0,hn]
     clear hn h0
     have ts:t.size<1000000000:=by omega
     obtain ⟨c0,c1,c2,c3,c4,cf⟩:=F5.out.cells
     have f0:=cf 0;have f1:=cf 1;have f2:=cf 2;have f3:=cf 3;have f4:=cf 4;clear cf
     go_wp2_with fail
     exact jE (p:=.mk 5 t 0 E0 []) (S:=aC) rfl rfl F5.out uy.out K5.out (Nat.le_refl _) hN hW hr.out ⟨ts,jL,nV⟩ (fun b hb=>hb.elim) (by unfold aI;trivial)
theorem SQ (N W:Nat) (s:aj) (i d:Nat) (w:World) (inner:Nat→cZ aA) (hr:eU N W s i d w) (hi:i≤s.size) (hs6:s.size≤65536) (eX:peek s (skip s i)≠39) (h64:peek s (skip s i)≠64) (h42:peek s (skip s i)≠42) (x:aj) (a k:Nat) (ht:gX s (skip s i)=.ok ((x,a),k)) (hkd:kindOf x=6) :
  Calls Tryz.prog 126 #[.pointer (some ⟨N,0,none⟩)] w (dh N W s d (aH inner s i) (gJ w.heap.size) w):=by
 have e0:Hid (aH inner s i=oq inner s (skip s i)):=by unfold Hid aH;rw [if_neg eX,if_neg h64,if_neg h42]
 have HR:=ah hr
 have hN:=hr.lt;have hW:=hr.tq;clear hr
 have hle:=dG hi
 have hs:s.size≤1000000000:=by omega
 go_enter Tryz.func126, Tryz.ntmps126
 go_wp2_with fail
 refine (next_any N W s i d _ (HR.out.kept ((Kept.refl aC w).alloc _) (fun h=>h) (fun h=>h)) hi hs).mono ?_
 rintro e w1 ⟨rfl,R1,K1⟩
 have b1:(peek s (skip s i)==39)=false:=by simpa using eX
 have b2:(peek s (skip s i)==64)=false:=by simpa using h64
 have b3:(peek s (skip s i)==42)=false:=by simpa using h42
 have F1:Hid (Five w.heap.size (.int .i64 0) (.string ⟨#[]⟩) (.int .i64 0) (.string ⟨#[]⟩) (.slice none 0 0) w1):=Five.kept (ay w _) K1 (by omega)
 have jS:Hid (Kept (· = N) w w1):=((Kept.refl _ w).alloc _).trans K1
 have mO:=ah R1
 clear R1 K1 eX h64 h42
 have hk:=jZ hle ht
 have hx:x.size≤1000000:=by omega
 have hks:k≤s.size:=by omega
 have hp:Hid (aH inner s i=dP s k 6):=by
  unfold Hid;rw [e0.out];unfold oq;rw [ht];dsimp only;unfold lM;rw [hkd,if_neg (by omega),if_pos (by omega)]
 go_wp2_with fail
 refine (lg N W s (skip s i) d _ mO.out hle hs).mono ?_
 rintro e w2 ⟨K2,h⟩
 rw [ht] at h
 obtain ⟨_,rfl,rfl,R2⟩:=h
 have F2:=ah (F1.out.kept K2 (by omega))
 have qx:Hid (Kept (· = N) w w2):=jS.out.trans K2
 have q2:=R2.c2
 have kV:=ah R2
 clear R2 K2 ht hk b1 b2 b3
 go_wp2_with fail
 refine (jo W x _ kV.out.words).mono ?_
 rintro e w3 ⟨rfl,rfl⟩
 rw [hkd]
 clear hkd q2
 go_wp2_with fail
 refine (gZ 40 N W (by decide) s k d _ kV.out hks hs).mono ?_
 rintro e w3 ⟨k_,h⟩
 have F3:=ah (F2.out.kept k_ (by omega))
 have K3:=ah (qx.out.trans k_);clear k_
 cases hn:dI 40 s k with
 | error er =>
  rw [hn] at h
  obtain rfl:=h
  have hr:Hid (aH inner s i=.error er):=by unfold Hid;rw [hp.out];unfold dP;rw [hn]
  clear hn
  go_wp2_with fail
  exact bK rfl hr.out K3.out
 | ok k1 =>
  rw [hn] at h
  obtain ⟨rfl,R3⟩:=h
  have uq:=ah R3;clear R3
  have hk1:k1≤s.size:=(iC hn).2.1
  have HN:=ah hn;clear hn
  go_wp2_with fail
  refine (xw N W s k1 d _ uq.out hk1 hs).mono ?_
  rintro e w4 ⟨k_,h⟩
  have F4:=ah (F3.out.kept k_ (by omega))
  have K4:=ah (K3.out.trans k_);clear k_
  cases ht:iY s k1 with
  | error er =>
   rw [ht] at h
   obtain rfl:=h
   have hr:Hid (aH inner s i=.error er):=by unfold Hid;rw [hp.out];unfold dP;rw [HN.out];dsimp only;rw [ht]
   clear ht
   go_wp2_with fail
   exact bK rfl hr.out K4.out
  | ok y =>
   obtain ⟨⟨t,a'⟩,k2⟩:=y
   rw [ht] at h
   obtain ⟨_,rfl,rfl,R4⟩:=h
   have uw:=ah R4;clear R4
   have hk2:k2≤s.size:=(nO ht).2.1
   have hts:t.size≤100000:=by have:=nO ht;omega
   have HT:=ah ht;clear ht
   by_cases h0:t.size=0
   ·have he:t.toList.isEmpty=true:=nC.2 h0
    have hr:Hid (aH inner s i=.error (8,a')):=by unfold Hid;rw [hp.out];unfold dP;rw [HN.out];dsimp only;rw [HT.out];dsimp only;rw [if_pos h0]
    clear h0
    go_wp2_with fail
    refine (jv _ 8 a' _).mono ?_
    rintro e w5 ⟨rfl,rfl⟩
    go_wp2_with fail
    exact bK rfl hr.out K4.out
   ·have he:t.toList.isEmpty=false:=jV.2 (by omega)
    go_wp2_with fail
    refine (gZ 41 N W (by decide) s k2 d _ uw.out hk2 hs).mono ?_
    rintro e w5 ⟨k_,h⟩
    have F5:=ah (F4.out.kept k_ (by omega))
    have K5:=ah (K4.out.trans k_);clear k_
    cases hn:dI 41 s k2 with
    | error er =>
     rw [hn] at h
     obtain rfl:=h
     have hr:Hid (aH inner s i=.error er):=by unfold Hid;rw [hp.out];unfold dP;rw [HN.out];dsimp only;rw [HT.out];dsimp only;rw [if_neg h0,hn]
     clear hn h0
     go_wp2_with fail
     exact bK rfl hr.out K5.out
    | ok k3 =>
     rw [hn] at h
     obtain ⟨rfl,R5⟩:=h
     have uy:=ah R5;clear R5
     have hr:Hid (aH inner s i=.ok (.mk 6 t 0 E0 [],k3)):=by unfold Hid;rw [hp.out];unfold dP;rw [HN.out];dsimp only;rw [HT.out];dsimp only;rw [if_neg h0,hn]
     clear hn h0
     have ts:t.size<1000000000:=by omega
     obtain ⟨c0,c1,c2,c3,c4,cf⟩:=F5.out.cells
     have f0:=cf 0;have f1:=cf 1;have f2:=cf 2;have f3:=cf 3;have f4:=cf 4;clear cf
     go_wp2_with fail
     exact jE (p:=.mk 6 t 0 E0 []) (S:=aC) rfl rfl F5.out uy.out K5.out (Nat.le_refl _) hN hW hr.out ⟨ts,jL,nV⟩ (fun b hb=>hb.elim) (by unfold aI;trivial)
theorem SV (N W:Nat) (s:aj) (i d:Nat) (w:World) (inner:Nat→cZ aA) (hr:eU N W s i d w) (hi:i≤s.size) (hs6:s.size≤65536) (eX:peek s (skip s i)≠39) (h64:peek s (skip s i)≠64) (h42:peek s (skip s i)≠42) (x:aj) (a k:Nat) (ht:gX s (skip s i)=.ok ((x,a),k)) (hkd:kindOf x=7) :
  Calls Tryz.prog 126 #[.pointer (some ⟨N,0,none⟩)] w (dh N W s d (aH inner s i) (gJ w.heap.size) w):=by
 have e0:Hid (aH inner s i=oq inner s (skip s i)):=by unfold Hid aH;rw [if_neg eX,if_neg h64,if_neg h42]
 have HR:=ah hr
 have hN:=hr.lt;have hW:=hr.tq;clear hr
 have hle:=dG hi
 have hs:s.size≤1000000000:=by omega
 go_enter Tryz.func126, Tryz.ntmps126
 go_wp2_with fail
 refine (next_any N W s i d _ (HR.out.kept ((Kept.refl aC w).alloc _) (fun h=>h) (fun h=>h)) hi hs).mono ?_
 rintro e w1 ⟨rfl,R1,K1⟩
 have b1:(peek s (skip s i)==39)=false:=by simpa using eX
 have b2:(peek s (skip s i)==64)=false:=by simpa using h64
 have b3:(peek s (skip s i)==42)=false:=by simpa using h42
 have F1:Hid (Five w.heap.size (.int .i64 0) (.string ⟨#[]⟩) (.int .i64 0) (.string ⟨#[]⟩) (.slice none 0 0) w1):=Five.kept (ay w _) K1 (by omega)
 have jS:Hid (Kept (· = N) w w1):=((Kept.refl _ w).alloc _).trans K1
 have mO:=ah R1
 clear R1 K1 eX h64 h42
 have hk:=jZ hle ht
 have hx:x.size≤1000000:=by omega
 have hks:k≤s.size:=by omega
 have hp:Hid (aH inner s i=dP s k 7):=by
  unfold Hid;rw [e0.out];unfold oq;rw [ht];dsimp only;unfold lM;rw [hkd,if_neg (by omega),if_pos (by omega)]
 go_wp2_with fail
 refine (lg N W s (skip s i) d _ mO.out hle hs).mono ?_
 rintro e w2 ⟨K2,h⟩
 rw [ht] at h
 obtain ⟨_,rfl,rfl,R2⟩:=h
 have F2:=ah (F1.out.kept K2 (by omega))
 have qx:Hid (Kept (· = N) w w2):=jS.out.trans K2
 have q2:=R2.c2
 have kV:=ah R2
 clear R2 K2 ht hk b1 b2 b3
 go_wp2_with fail
 refine (jo W x _ kV.out.words).mono ?_
 rintro e w3 ⟨rfl,rfl⟩
 rw [hkd]
 clear hkd q2
 go_wp2_with fail
 refine (gZ 40 N W (by decide) s k d _ kV.out hks hs).mono ?_
 rintro e w3 ⟨k_,h⟩
 have F3:=ah (F2.out.kept k_ (by omega))
 have K3:=ah (qx.out.trans k_);clear k_
 cases hn:dI 40 s k with
 | error er =>
  rw [hn] at h
  obtain rfl:=h
  have hr:Hid (aH inner s i=.error er):=by unfold Hid;rw [hp.out];unfold dP;rw [hn]
  clear hn
  go_wp2_with fail
  exact bK rfl hr.out K3.out
 | ok k1 =>
  rw [hn] at h
  obtain ⟨rfl,R3⟩:=h
  have uq:=ah R3;clear R3
  have hk1:k1≤s.size:=(iC hn).2.1
  have HN:=ah hn;clear hn
  go_wp2_with fail
  refine (xw N W s k1 d _ uq.out hk1 hs).mono ?_
  rintro e w4 ⟨k_,h⟩
  have F4:=ah (F3.out.kept k_ (by omega))
  have K4:=ah (K3.out.trans k_);clear k_
  cases ht:iY s k1 with
  | error er =>
   rw [ht] at h
   obtain rfl:=h
   have hr:Hid (aH inner s i=.error er):=by unfold Hid;rw [hp.out];unfold dP;rw [HN.out];dsimp only;rw [ht]
   clear ht
   go_wp2_with fail
   exact bK rfl hr.out K4.out
  | ok y =>
   obtain ⟨⟨t,a'⟩,k2⟩:=y
   rw [ht] at h
   obtain ⟨_,rfl,rfl,R4⟩:=h
   have uw:=ah R4;clear R4
   have hk2:k2≤s.size:=(nO ht).2.1
   have hts:t.size≤100000:=by have:=nO ht;omega
   have HT:=ah ht;clear ht
   by_cases h0:t.size=0
   ·have he:t.toList.isEmpty=true:=nC.2 h0
    have hr:Hid (aH inner s i=.error (8,a')):=by unfold Hid;rw [hp.out];unfold dP;rw [HN.out];dsimp only;rw [HT.out];dsimp only;rw [if_pos h0]
    clear h0
    go_wp2_with fail
    refine (jv _ 8 a' _).mono ?_
    rintro e w5 ⟨rfl,rfl⟩
    go_wp2_with fail
    exact bK rfl hr.out K4.out
   ·have he:t.toList.isEmpty=false:=jV.2 (by omega)
    go_wp2_with fail
    refine (gZ 41 N W (by decide) s k2 d _ uw.out hk2 hs).mono ?_
    rintro e w5 ⟨k_,h⟩
    have F5:=ah (F4.out.kept k_ (by omega))
    have K5:=ah (K4.out.trans k_);clear k_
    cases hn:dI 41 s k2 with
    | error er =>
     rw [hn] at h
     obtain rfl:=h
     have hr:Hid (aH inner s i=.error er):=by unfold Hid;rw [hp.out];unfold dP;rw [HN.out];dsimp only;rw [HT.out];dsimp only;rw [if_neg h0,hn]
     clear hn h0
     go_wp2_with fail
     exact bK rfl hr.out K5.out
    | ok k3 =>
     rw [hn] at h
     obtain ⟨rfl,R5⟩:=h
     have uy:=ah R5;clear R5
     have hr:Hid (aH inner s i=.ok (.mk 7 t 0 E0 [],k3)):=by unfold Hid;rw [hp.out];unfold dP;rw [HN.out];dsimp only;rw [HT.out];dsimp only;rw [if_neg h0,hn]
     clear hn h0
     have ts:t.size<1000000000:=by omega
     obtain ⟨c0,c1,c2,c3,c4,cf⟩:=F5.out.cells
     have f0:=cf 0;have f1:=cf 1;have f2:=cf 2;have f3:=cf 3;have f4:=cf 4;clear cf
     go_wp2_with fail
     exact jE (p:=.mk 7 t 0 E0 []) (S:=aC) rfl rfl F5.out uy.out K5.out (Nat.le_refl _) hN hW hr.out ⟨ts,jL,nV⟩ (fun b hb=>hb.elim) (by unfold aI;trivial)
theorem VW (N W:Nat) (s:aj) (i d:Nat) (w:World) (inner:Nat→cZ aA) (hr:eU N W s i d w) (hi:i≤s.size) (hs6:s.size≤65536) (eX:peek s (skip s i)≠39) (h64:peek s (skip s i)≠64) (h42:peek s (skip s i)≠42) (x:aj) (a k:Nat) (ht:gX s (skip s i)=.ok ((x,a),k)) (hkd:kindOf x=2) :
  Calls Tryz.prog 126 #[.pointer (some ⟨N,0,none⟩)] w (dh N W s d (aH inner s i) (gJ w.heap.size) w):=by
 have e0:Hid (aH inner s i=oq inner s (skip s i)):=by unfold Hid aH;rw [if_neg eX,if_neg h64,if_neg h42]
 have HR:=ah hr
 have hN:=hr.lt;have hW:=hr.tq;clear hr
 have hle:=dG hi
 have hs:s.size≤1000000000:=by omega
 go_enter Tryz.func126, Tryz.ntmps126
 go_wp2_with fail
 refine (next_any N W s i d _ (HR.out.kept ((Kept.refl aC w).alloc _) (fun h=>h) (fun h=>h)) hi hs).mono ?_
 rintro e w1 ⟨rfl,R1,K1⟩
 have b1:(peek s (skip s i)==39)=false:=by simpa using eX
 have b2:(peek s (skip s i)==64)=false:=by simpa using h64
 have b3:(peek s (skip s i)==42)=false:=by simpa using h42
 have F1:Hid (Five w.heap.size (.int .i64 0) (.string ⟨#[]⟩) (.int .i64 0) (.string ⟨#[]⟩) (.slice none 0 0) w1):=Five.kept (ay w _) K1 (by omega)
 have jS:Hid (Kept (· = N) w w1):=((Kept.refl _ w).alloc _).trans K1
 have mO:=ah R1
 clear R1 K1 eX h64 h42
 have hk:=jZ hle ht
 have hx:x.size≤1000000:=by omega
 have hks:k≤s.size:=by omega
 have hp:Hid (aH inner s i=fV s k 2):=by
  unfold Hid;rw [e0.out];unfold oq;rw [ht];dsimp only;unfold lM;rw [hkd,if_neg (by omega),if_neg (by omega),if_pos (by omega)]
 go_wp2_with fail
 refine (lg N W s (skip s i) d _ mO.out hle hs).mono ?_
 rintro e w2 ⟨K2,h⟩
 rw [ht] at h
 obtain ⟨_,rfl,rfl,R2⟩:=h
 have F2:=ah (F1.out.kept K2 (by omega))
 have qx:Hid (Kept (· = N) w w2):=jS.out.trans K2
 have q2:=R2.c2
 have kV:=ah R2
 clear R2 K2 ht hk b1 b2 b3
 go_wp2_with fail
 refine (jo W x _ kV.out.words).mono ?_
 rintro e w3 ⟨rfl,rfl⟩
 rw [hkd]
 clear hkd q2
 go_wp2_with fail
 refine (gZ 40 N W (by decide) s k d _ kV.out hks hs).mono ?_
 rintro e w3 ⟨k_,h⟩
 have F3:=ah (F2.out.kept k_ (by omega))
 have K3:=ah (qx.out.trans k_);clear k_
 cases hn:dI 40 s k with
 | error er =>
  rw [hn] at h
  obtain rfl:=h
  have hr:Hid (aH inner s i=.error er):=by unfold Hid;rw [hp.out];unfold fV;rw [hn]
  clear hn
  go_wp2_with fail
  exact bK rfl hr.out K3.out
 | ok k1 =>
  rw [hn] at h
  obtain ⟨rfl,R3⟩:=h
  have uq:=ah R3;clear R3
  have hk1:k1≤s.size:=(iC hn).2.1
  have HN:=ah hn;clear hn
  go_wp2_with fail
  refine (wG N W s k1 d _ uq.out hk1 hs).mono ?_
  rintro e w4 ⟨k_,h⟩
  have F4:=ah (F3.out.kept k_ (by omega))
  have K4:=ah (K3.out.trans k_);clear k_
  cases ht:ny s k1 with
  | error er =>
   rw [ht] at h
   obtain rfl:=h
   have hr:Hid (aH inner s i=.error er):=by unfold Hid;rw [hp.out];unfold fV;rw [HN.out];dsimp only;rw [ht]
   clear ht
   go_wp2_with fail
   exact bK rfl hr.out K4.out
  | ok y =>
   obtain ⟨n,k2⟩:=y
   rw [ht] at h
   obtain ⟨_,rfl,rfl,R4⟩:=h
   have uw:=ah R4;clear R4
   have hk2:k2≤s.size:=(zG hk1 ht).2.1
   have HT:=ah ht;clear ht
   go_wp2_with fail
   refine (gZ 41 N W (by decide) s k2 d _ uw.out hk2 hs).mono ?_
   rintro e w5 ⟨k_,h⟩
   have F5:=ah (F4.out.kept k_ (by omega))
   have K5:=ah (K4.out.trans k_);clear k_
   cases hn:dI 41 s k2 with
   | error er =>
    rw [hn] at h
    obtain rfl:=h
    have hr:Hid (aH inner s i=.error er):=by unfold Hid;rw [hp.out];unfold fV;rw [HN.out];dsimp only;rw [HT.out];dsimp only;rw [hn]
    clear hn
    go_wp2_with fail
    exact bK rfl hr.out K5.out
   | ok k3 =>
    rw [hn] at h
    obtain ⟨rfl,R5⟩:=h
    have uy:=ah R5;clear R5
    have hr:Hid (aH inner s i=.ok (.mk 2 E0 n E0 [],k3)):=by unfold Hid;rw [hp.out];unfold fV;rw [HN.out];dsimp only;rw [HT.out];dsimp only;rw [hn]
    clear hn
    obtain ⟨c0,c1,c2,c3,c4,cf⟩:=F5.out.cells
    have f0:=cf 0;have f1:=cf 1;have f2:=cf 2;have f3:=cf 3;have f4:=cf 4;clear cf
    go_wp2_with fail
    exact jE (p:=.mk 2 E0 n E0 []) (S:=aC) rfl rfl F5.out uy.out K5.out (Nat.le_refl _) hN hW hr.out ⟨jL,jL,nV⟩ (fun b hb=>hb.elim) (by unfold aI;trivial)
theorem VX (N W:Nat) (s:aj) (i d:Nat) (w:World) (inner:Nat→cZ aA) (hr:eU N W s i d w) (hi:i≤s.size) (hs6:s.size≤65536) (eX:peek s (skip s i)≠39) (h64:peek s (skip s i)≠64) (h42:peek s (skip s i)≠42) (x:aj) (a k:Nat) (ht:gX s (skip s i)=.ok ((x,a),k)) (hkd:kindOf x=8) :
  Calls Tryz.prog 126 #[.pointer (some ⟨N,0,none⟩)] w (dh N W s d (aH inner s i) (gJ w.heap.size) w):=by
 have e0:Hid (aH inner s i=oq inner s (skip s i)):=by unfold Hid aH;rw [if_neg eX,if_neg h64,if_neg h42]
 have HR:=ah hr
 have hN:=hr.lt;have hW:=hr.tq;clear hr
 have hle:=dG hi
 have hs:s.size≤1000000000:=by omega
 go_enter Tryz.func126, Tryz.ntmps126
 go_wp2_with fail
 refine (next_any N W s i d _ (HR.out.kept ((Kept.refl aC w).alloc _) (fun h=>h) (fun h=>h)) hi hs).mono ?_
 rintro e w1 ⟨rfl,R1,K1⟩
 have b1:(peek s (skip s i)==39)=false:=by simpa using eX
 have b2:(peek s (skip s i)==64)=false:=by simpa using h64
 have b3:(peek s (skip s i)==42)=false:=by simpa using h42
 have F1:Hid (Five w.heap.size (.int .i64 0) (.string ⟨#[]⟩) (.int .i64 0) (.string ⟨#[]⟩) (.slice none 0 0) w1):=Five.kept (ay w _) K1 (by omega)
 have jS:Hid (Kept (· = N) w w1):=((Kept.refl _ w).alloc _).trans K1
 have mO:=ah R1
 clear R1 K1 eX h64 h42
 have hk:=jZ hle ht
 have hx:x.size≤1000000:=by omega
 have hks:k≤s.size:=by omega
 have hp:Hid (aH inner s i=fV s k 8):=by
  unfold Hid;rw [e0.out];unfold oq;rw [ht];dsimp only;unfold lM;rw [hkd,if_neg (by omega),if_neg (by omega),if_pos (by omega)]
 go_wp2_with fail
 refine (lg N W s (skip s i) d _ mO.out hle hs).mono ?_
 rintro e w2 ⟨K2,h⟩
 rw [ht] at h
 obtain ⟨_,rfl,rfl,R2⟩:=h
 have F2:=ah (F1.out.kept K2 (by omega))
 have qx:Hid (Kept (· = N) w w2):=jS.out.trans K2
 have q2:=R2.c2
 have kV:=ah R2
 clear R2 K2 ht hk b1 b2 b3
 go_wp2_with fail
 refine (jo W x _ kV.out.words).mono ?_
 rintro e w3 ⟨rfl,rfl⟩
 rw [hkd]
 clear hkd q2
 go_wp2_with fail
 refine (gZ 40 N W (by decide) s k d _ kV.out hks hs).mono ?_
 rintro e w3 ⟨k_,h⟩
 have F3:=ah (F2.out.kept k_ (by omega))
 have K3:=ah (qx.out.trans k_);clear k_
 cases hn:dI 40 s k with
 | error er =>
  rw [hn] at h
  obtain rfl:=h
  have hr:Hid (aH inner s i=.error er):=by unfold Hid;rw [hp.out];unfold fV;rw [hn]
  clear hn
  go_wp2_with fail
  exact bK rfl hr.out K3.out
 | ok k1 =>
  rw [hn] at h
  obtain ⟨rfl,R3⟩:=h
  have uq:=ah R3;clear R3
  have hk1:k1≤s.size:=(iC hn).2.1
  have HN:=ah hn;clear hn
  go_wp2_with fail
  refine (wG N W s k1 d _ uq.out hk1 hs).mono ?_
  rintro e w4 ⟨k_,h⟩
  have F4:=ah (F3.out.kept k_ (by omega))
  have K4:=ah (K3.out.trans k_);clear k_
  cases ht:ny s k1 with
  | error er =>
   rw [ht] at h
   obtain rfl:=h
   have hr:Hid (aH inner s i=.error er):=by unfold Hid;rw [hp.out];unfold fV;rw [HN.out];dsimp only;rw [ht]
   clear ht
   go_wp2_with fail
   exact bK rfl hr.out K4.out
  | ok y =>
   obtain ⟨n,k2⟩:=y
   rw [ht] at h
   obtain ⟨_,rfl,rfl,R4⟩:=h
   have uw:=ah R4;clear R4
   have hk2:k2≤s.size:=(zG hk1 ht).2.1
   have HT:=ah ht;clear ht
   go_wp2_with fail
   refine (gZ 41 N W (by decide) s k2 d _ uw.out hk2 hs).mono ?_
   rintro e w5 ⟨k_,h⟩
   have F5:=ah (F4.out.kept k_ (by omega))
   have K5:=ah (K4.out.trans k_);clear k_
   cases hn:dI 41 s k2 with
   | error er =>
    rw [hn] at h
    obtain rfl:=h
    have hr:Hid (aH inner s i=.error er):=by unfold Hid;rw [hp.out];unfold fV;rw [HN.out];dsimp only;rw [HT.out];dsimp only;rw [hn]
    clear hn
    go_wp2_with fail
    exact bK rfl hr.out K5.out
   | ok k3 =>
    rw [hn] at h
    obtain ⟨rfl,R5⟩:=h
    have uy:=ah R5;clear R5
    have hr:Hid (aH inner s i=.ok (.mk 8 E0 n E0 [],k3)):=by unfold Hid;rw [hp.out];unfold fV;rw [HN.out];dsimp only;rw [HT.out];dsimp only;rw [hn]
    clear hn
    obtain ⟨c0,c1,c2,c3,c4,cf⟩:=F5.out.cells
    have f0:=cf 0;have f1:=cf 1;have f2:=cf 2;have f3:=cf 3;have f4:=cf 4;clear cf
    go_wp2_with fail
    exact jE (p:=.mk 8 E0 n E0 []) (S:=aC) rfl rfl F5.out uy.out K5.out (Nat.le_refl _) hN hW hr.out ⟨jL,jL,nV⟩ (fun b hb=>hb.elim) (by unfold aI;trivial)
theorem VY (N W:Nat) (s:aj) (i d:Nat) (w:World) (inner:Nat→cZ aA) (hr:eU N W s i d w) (hi:i≤s.size) (hs6:s.size≤65536) (eX:peek s (skip s i)≠39) (h64:peek s (skip s i)≠64) (h42:peek s (skip s i)≠42) (x:aj) (a k:Nat) (ht:gX s (skip s i)=.ok ((x,a),k)) (hkd:kindOf x=9) :
  Calls Tryz.prog 126 #[.pointer (some ⟨N,0,none⟩)] w (dh N W s d (aH inner s i) (gJ w.heap.size) w):=by
 have e0:Hid (aH inner s i=oq inner s (skip s i)):=by unfold Hid aH;rw [if_neg eX,if_neg h64,if_neg h42]
 have HR:=ah hr
 have hN:=hr.lt;have hW:=hr.tq;clear hr
 have hle:=dG hi
 have hs:s.size≤1000000000:=by omega
 go_enter Tryz.func126, Tryz.ntmps126
 go_wp2_with fail
 refine (next_any N W s i d _ (HR.out.kept ((Kept.refl aC w).alloc _) (fun h=>h) (fun h=>h)) hi hs).mono ?_
 rintro e w1 ⟨rfl,R1,K1⟩
 have b1:(peek s (skip s i)==39)=false:=by simpa using eX
 have b2:(peek s (skip s i)==64)=false:=by simpa using h64
 have b3:(peek s (skip s i)==42)=false:=by simpa using h42
 have F1:Hid (Five w.heap.size (.int .i64 0) (.string ⟨#[]⟩) (.int .i64 0) (.string ⟨#[]⟩) (.slice none 0 0) w1):=Five.kept (ay w _) K1 (by omega)
 have jS:Hid (Kept (· = N) w w1):=((Kept.refl _ w).alloc _).trans K1
 have mO:=ah R1
 clear R1 K1 eX h64 h42
 have hk:=jZ hle ht
 have hx:x.size≤1000000:=by omega
 have hks:k≤s.size:=by omega
 have hp:Hid (aH inner s i=fV s k 9):=by
  unfold Hid;rw [e0.out];unfold oq;rw [ht];dsimp only;unfold lM;rw [hkd,if_neg (by omega),if_neg (by omega),if_pos (by omega)]
 go_wp2_with fail
 refine (lg N W s (skip s i) d _ mO.out hle hs).mono ?_
 rintro e w2 ⟨K2,h⟩
 rw [ht] at h
 obtain ⟨_,rfl,rfl,R2⟩:=h
 have F2:=ah (F1.out.kept K2 (by omega))
 have qx:Hid (Kept (· = N) w w2):=jS.out.trans K2
 have q2:=R2.c2
 have kV:=ah R2
 clear R2 K2 ht hk b1 b2 b3
 go_wp2_with fail
 refine (jo W x _ kV.out.words).mono ?_
 rintro e w3 ⟨rfl,rfl⟩
 rw [hkd]
 clear hkd q2
 go_wp2_with fail
 refine (gZ 40 N W (by decide) s k d _ kV.out hks hs).mono ?_
 rintro e w3 ⟨k_,h⟩
 have F3:=ah (F2.out.kept k_ (by omega))
 have K3:=ah (qx.out.trans k_);clear k_
 cases hn:dI 40 s k with
 | error er =>
  rw [hn] at h
  obtain rfl:=h
  have hr:Hid (aH inner s i=.error er):=by unfold Hid;rw [hp.out];unfold fV;rw [hn]
  clear hn
  go_wp2_with fail
  exact bK rfl hr.out K3.out
 | ok k1 =>
  rw [hn] at h
  obtain ⟨rfl,R3⟩:=h
  have uq:=ah R3;clear R3
  have hk1:k1≤s.size:=(iC hn).2.1
  have HN:=ah hn;clear hn
  go_wp2_with fail
  refine (wG N W s k1 d _ uq.out hk1 hs).mono ?_
  rintro e w4 ⟨k_,h⟩
  have F4:=ah (F3.out.kept k_ (by omega))
  have K4:=ah (K3.out.trans k_);clear k_
  cases ht:ny s k1 with
  | error er =>
   rw [ht] at h
   obtain rfl:=h
   have hr:Hid (aH inner s i=.error er):=by unfold Hid;rw [hp.out];unfold fV;rw [HN.out];dsimp only;rw [ht]
   clear ht
   go_wp2_with fail
   exact bK rfl hr.out K4.out
  | ok y =>
   obtain ⟨n,k2⟩:=y
   rw [ht] at h
   obtain ⟨_,rfl,rfl,R4⟩:=h
   have uw:=ah R4;clear R4
   have hk2:k2≤s.size:=(zG hk1 ht).2.1
   have HT:=ah ht;clear ht
   go_wp2_with fail
   refine (gZ 41 N W (by decide) s k2 d _ uw.out hk2 hs).mono ?_
   rintro e w5 ⟨k_,h⟩
   have F5:=ah (F4.out.kept k_ (by omega))
   have K5:=ah (K4.out.trans k_);clear k_
   cases hn:dI 41 s k2 with
   | error er =>
    rw [hn] at h
    obtain rfl:=h
    have hr:Hid (aH inner s i=.error er):=by unfold Hid;rw [hp.out];unfold fV;rw [HN.out];dsimp only;rw [HT.out];dsimp only;rw [hn]
    clear hn
    go_wp2_with fail
    exact bK rfl hr.out K5.out
   | ok k3 =>
    rw [hn] at h
    obtain ⟨rfl,R5⟩:=h
    have uy:=ah R5;clear R5
    have hr:Hid (aH inner s i=.ok (.mk 9 E0 n E0 [],k3)):=by unfold Hid;rw [hp.out];unfold fV;rw [HN.out];dsimp only;rw [HT.out];dsimp only;rw [hn]
    clear hn
    obtain ⟨c0,c1,c2,c3,c4,cf⟩:=F5.out.cells
    have f0:=cf 0;have f1:=cf 1;have f2:=cf 2;have f3:=cf 3;have f4:=cf 4;clear cf
    go_wp2_with fail
    exact jE (p:=.mk 9 E0 n E0 []) (S:=aC) rfl rfl F5.out uy.out K5.out (Nat.le_refl _) hN hW hr.out ⟨jL,jL,nV⟩ (fun b hb=>hb.elim) (by unfold aI;trivial)
theorem SX (N W:Nat) (s:aj) (i d:Nat) (w:World) (inner:Nat→cZ aA) (hr:eU N W s i d w) (hi:i≤s.size) (hs6:s.size≤65536) (eX:peek s (skip s i)≠39) (h64:peek s (skip s i)≠64) (h42:peek s (skip s i)≠42) (x:aj) (a k:Nat) (ht:gX s (skip s i)=.ok ((x,a),k)) (hkd:kindOf x=10) :
  Calls Tryz.prog 126 #[.pointer (some ⟨N,0,none⟩)] w (dh N W s d (aH inner s i) (gJ w.heap.size) w):=by
 have e0:Hid (aH inner s i=oq inner s (skip s i)):=by unfold Hid aH;rw [if_neg eX,if_neg h64,if_neg h42]
 have HR:=ah hr
 have hN:=hr.lt;have hW:=hr.tq;clear hr
 have hle:=dG hi
 have hs:s.size≤1000000000:=by omega
 go_enter Tryz.func126, Tryz.ntmps126
 go_wp2_with fail
 refine (next_any N W s i d _ (HR.out.kept ((Kept.refl aC w).alloc _) (fun h=>h) (fun h=>h)) hi hs).mono ?_
 rintro e w1 ⟨rfl,R1,K1⟩
 have b1:(peek s (skip s i)==39)=false:=by simpa using eX
 have b2:(peek s (skip s i)==64)=false:=by simpa using h64
 have b3:(peek s (skip s i)==42)=false:=by simpa using h42
 have F1:Hid (Five w.heap.size (.int .i64 0) (.string ⟨#[]⟩) (.int .i64 0) (.string ⟨#[]⟩) (.slice none 0 0) w1):=Five.kept (ay w _) K1 (by omega)
 have jS:Hid (Kept (· = N) w w1):=((Kept.refl _ w).alloc _).trans K1
 have mO:=ah R1
 clear R1 K1 eX h64 h42
 have hk:=jZ hle ht
 have hx:x.size≤1000000:=by omega
 have hks:k≤s.size:=by omega
 have hp:Hid (aH inner s i=fV s k 10):=by
  unfold Hid;rw [e0.out];unfold oq;rw [ht];dsimp only;unfold lM;rw [hkd,if_neg (by omega),if_neg (by omega),if_pos (by omega)]
 go_wp2_with fail
 refine (lg N W s (skip s i) d _ mO.out hle hs).mono ?_
 rintro e w2 ⟨K2,h⟩
 rw [ht] at h
 obtain ⟨_,rfl,rfl,R2⟩:=h
 have F2:=ah (F1.out.kept K2 (by omega))
 have qx:Hid (Kept (· = N) w w2):=jS.out.trans K2
 have q2:=R2.c2
 have kV:=ah R2
 clear R2 K2 ht hk b1 b2 b3
 go_wp2_with fail
 refine (jo W x _ kV.out.words).mono ?_
 rintro e w3 ⟨rfl,rfl⟩
 rw [hkd]
 clear hkd q2
 go_wp2_with fail
 refine (gZ 40 N W (by decide) s k d _ kV.out hks hs).mono ?_
 rintro e w3 ⟨k_,h⟩
 have F3:=ah (F2.out.kept k_ (by omega))
 have K3:=ah (qx.out.trans k_);clear k_
 cases hn:dI 40 s k with
 | error er =>
  rw [hn] at h
  obtain rfl:=h
  have hr:Hid (aH inner s i=.error er):=by unfold Hid;rw [hp.out];unfold fV;rw [hn]
  clear hn
  go_wp2_with fail
  exact bK rfl hr.out K3.out
 | ok k1 =>
  rw [hn] at h
  obtain ⟨rfl,R3⟩:=h
  have uq:=ah R3;clear R3
  have hk1:k1≤s.size:=(iC hn).2.1
  have HN:=ah hn;clear hn
  go_wp2_with fail
  refine (wG N W s k1 d _ uq.out hk1 hs).mono ?_
  rintro e w4 ⟨k_,h⟩
  have F4:=ah (F3.out.kept k_ (by omega))
  have K4:=ah (K3.out.trans k_);clear k_
  cases ht:ny s k1 with
  | error er =>
   rw [ht] at h
   obtain rfl:=h
   have hr:Hid (aH inner s i=.error er):=by unfold Hid;rw [hp.out];unfold fV;rw [HN.out];dsimp only;rw [ht]
   clear ht
   go_wp2_with fail
   exact bK rfl hr.out K4.out
  | ok y =>
   obtain ⟨n,k2⟩:=y
   rw [ht] at h
   obtain ⟨_,rfl,rfl,R4⟩:=h
   have uw:=ah R4;clear R4
   have hk2:k2≤s.size:=(zG hk1 ht).2.1
   have HT:=ah ht;clear ht
   go_wp2_with fail
   refine (gZ 41 N W (by decide) s k2 d _ uw.out hk2 hs).mono ?_
   rintro e w5 ⟨k_,h⟩
   have F5:=ah (F4.out.kept k_ (by omega))
   have K5:=ah (K4.out.trans k_);clear k_
   cases hn:dI 41 s k2 with
   | error er =>
    rw [hn] at h
    obtain rfl:=h
    have hr:Hid (aH inner s i=.error er):=by unfold Hid;rw [hp.out];unfold fV;rw [HN.out];dsimp only;rw [HT.out];dsimp only;rw [hn]
    clear hn
    go_wp2_with fail
    exact bK rfl hr.out K5.out
   | ok k3 =>
    rw [hn] at h
    obtain ⟨rfl,R5⟩:=h
    have uy:=ah R5;clear R5
    have hr:Hid (aH inner s i=.ok (.mk 10 E0 n E0 [],k3)):=by unfold Hid;rw [hp.out];unfold fV;rw [HN.out];dsimp only;rw [HT.out];dsimp only;rw [hn]
    clear hn
    obtain ⟨c0,c1,c2,c3,c4,cf⟩:=F5.out.cells
    have f0:=cf 0;have f1:=cf 1;have f2:=cf 2;have f3:=cf 3;have f4:=cf 4;clear cf
    go_wp2_with fail
    exact jE (p:=.mk 10 E0 n E0 []) (S:=aC) rfl rfl F5.out uy.out K5.out (Nat.le_refl _) hN hW hr.out ⟨jL,jL,nV⟩ (fun b hb=>hb.elim) (by unfold aI;trivial)
theorem SY (N W:Nat) (s:aj) (i d:Nat) (w:World) (inner:Nat→cZ aA) (hr:eU N W s i d w) (hi:i≤s.size) (hs6:s.size≤65536) (eX:peek s (skip s i)≠39) (h64:peek s (skip s i)≠64) (h42:peek s (skip s i)≠42) (x:aj) (a k:Nat) (ht:gX s (skip s i)=.ok ((x,a),k)) (hkd:kindOf x=11) :
  Calls Tryz.prog 126 #[.pointer (some ⟨N,0,none⟩)] w (dh N W s d (aH inner s i) (gJ w.heap.size) w):=by
 have e0:Hid (aH inner s i=oq inner s (skip s i)):=by unfold Hid aH;rw [if_neg eX,if_neg h64,if_neg h42]
 have HR:=ah hr
 have hN:=hr.lt;have hW:=hr.tq;clear hr
 have hle:=dG hi
 have hs:s.size≤1000000000:=by omega
 go_enter Tryz.func126, Tryz.ntmps126
 go_wp2_with fail
 refine (next_any N W s i d _ (HR.out.kept ((Kept.refl aC w).alloc _) (fun h=>h) (fun h=>h)) hi hs).mono ?_
 rintro e w1 ⟨rfl,R1,K1⟩
 have b1:(peek s (skip s i)==39)=false:=by simpa using eX
 have b2:(peek s (skip s i)==64)=false:=by simpa using h64
 have b3:(peek s (skip s i)==42)=false:=by simpa using h42
 have F1:Hid (Five w.heap.size (.int .i64 0) (.string ⟨#[]⟩) (.int .i64 0) (.string ⟨#[]⟩) (.slice none 0 0) w1):=Five.kept (ay w _) K1 (by omega)
 have jS:Hid (Kept (· = N) w w1):=((Kept.refl _ w).alloc _).trans K1
 have mO:=ah R1
 clear R1 K1 eX h64 h42
 have hk:=jZ hle ht
 have hx:x.size≤1000000:=by omega
 have hks:k≤s.size:=by omega
 have hp:Hid (aH inner s i=fV s k 11):=by
  unfold Hid;rw [e0.out];unfold oq;rw [ht];dsimp only;unfold lM;rw [hkd,if_neg (by omega),if_neg (by omega),if_pos (by omega)]
 go_wp2_with fail
 refine (lg N W s (skip s i) d _ mO.out hle hs).mono ?_
 rintro e w2 ⟨K2,h⟩
 rw [ht] at h
 obtain ⟨_,rfl,rfl,R2⟩:=h
 have F2:=ah (F1.out.kept K2 (by omega))
 have qx:Hid (Kept (· = N) w w2):=jS.out.trans K2
 have q2:=R2.c2
 have kV:=ah R2
 clear R2 K2 ht hk b1 b2 b3
 go_wp2_with fail
 refine (jo W x _ kV.out.words).mono ?_
 rintro e w3 ⟨rfl,rfl⟩
 rw [hkd]
 clear hkd q2
 go_wp2_with fail
 refine (gZ 40 N W (by decide) s k d _ kV.out hks hs).mono ?_
 rintro e w3 ⟨k_,h⟩
 have F3:=ah (F2.out.kept k_ (by omega))
 have K3:=ah (qx.out.trans k_);clear k_
 cases hn:dI 40 s k with
 | error er =>
  rw [hn] at h
  obtain rfl:=h
  have hr:Hid (aH inner s i=.error er):=by unfold Hid;rw [hp.out];unfold fV;rw [hn]
  clear hn
  go_wp2_with fail
  exact bK rfl hr.out K3.out
 | ok k1 =>
  rw [hn] at h
  obtain ⟨rfl,R3⟩:=h
  have uq:=ah R3;clear R3
  have hk1:k1≤s.size:=(iC hn).2.1
  have HN:=ah hn;clear hn
  go_wp2_with fail
  refine (wG N W s k1 d _ uq.out hk1 hs).mono ?_
  rintro e w4 ⟨k_,h⟩
  have F4:=ah (F3.out.kept k_ (by omega))
  have K4:=ah (K3.out.trans k_);clear k_
  cases ht:ny s k1 with
  | error er =>
   rw [ht] at h
   obtain rfl:=h
   have hr:Hid (aH inner s i=.error er):=by unfold Hid;rw [hp.out];unfold fV;rw [HN.out];dsimp only;rw [ht]
   clear ht
   go_wp2_with fail
   exact bK rfl hr.out K4.out
  | ok y =>
   obtain ⟨n,k2⟩:=y
   rw [ht] at h
   obtain ⟨_,rfl,rfl,R4⟩:=h
   have uw:=ah R4;clear R4
   have hk2:k2≤s.size:=(zG hk1 ht).2.1
   have HT:=ah ht;clear ht
   go_wp2_with fail
   refine (gZ 41 N W (by decide) s k2 d _ uw.out hk2 hs).mono ?_
   rintro e w5 ⟨k_,h⟩
   have F5:=ah (F4.out.kept k_ (by omega))
   have K5:=ah (K4.out.trans k_);clear k_
   cases hn:dI 41 s k2 with
   | error er =>
    rw [hn] at h
    obtain rfl:=h
    have hr:Hid (aH inner s i=.error er):=by unfold Hid;rw [hp.out];unfold fV;rw [HN.out];dsimp only;rw [HT.out];dsimp only;rw [hn]
    clear hn
    go_wp2_with fail
    exact bK rfl hr.out K5.out
   | ok k3 =>
    rw [hn] at h
    obtain ⟨rfl,R5⟩:=h
    have uy:=ah R5;clear R5
    have hr:Hid (aH inner s i=.ok (.mk 11 E0 n E0 [],k3)):=by unfold Hid;rw [hp.out];unfold fV;rw [HN.out];dsimp only;rw [HT.out];dsimp only;rw [hn]
    clear hn
    obtain ⟨c0,c1,c2,c3,c4,cf⟩:=F5.out.cells
    have f0:=cf 0;have f1:=cf 1;have f2:=cf 2;have f3:=cf 3;have f4:=cf 4;clear cf
    go_wp2_with fail
    exact jE (p:=.mk 11 E0 n E0 []) (S:=aC) rfl rfl F5.out uy.out K5.out (Nat.le_refl _) hN hW hr.out ⟨jL,jL,nV⟩ (fun b hb=>hb.elim) (by unfold aI;trivial)
end Go.Proofs.YtefjbnhpjdhjmaaGreatDoor

namespace Go.Proofs.YtefjbnhpjdhjmaaGreatDoor
set_option linter.all false
open Go.RowKit
set_option maxRecDepth 100000
set_option maxHeartbeats 4000000
theorem CW {w:World} {S:Nat→Prop} {b o:Nat} {p:aA} (h:dH w S b o p):aI w S (some ⟨b,o,none⟩) [p]:=by
 unfold aI;exact ⟨b,o,rfl,h,by unfold aI;trivial⟩
theorem gV.kept' {w w':World} {S X:Nat→Prop} {v:Value} {p:aA} (h:gV w S v p) (hk:Kept X w w') (hs:Safe S X w.heap.size):gV w' S v p:=by
 obtain ⟨ka,cap,rfl,hz,hp⟩:=h;exact ⟨ka,cap,rfl,hz,hp.kept hk hs⟩
def eH (s:aj) (inner:Nat→cZ aA):Prop:=∀i p k,i≤s.size→inner i=.ok (p,k)→i<k∧k≤s.size
theorem S9 (N W:Nat) (s:aj) (i d:Nat) (w:World) (inner:Nat→cZ aA) (hr:eU N W s i d w) (hi:i≤s.size) (hs6:s.size≤65536) (eX:peek s (skip s i)≠39) (h64:peek s (skip s i)≠64) (h42:peek s (skip s i)≠42) (x:aj) (a k:Nat) (ht:gX s (skip s i)=.ok ((x,a),k)) (hkd:kindOf x=20) (hin:xq N W s d inner) (hfw:eH s inner) :
  Calls Tryz.prog 126 #[.pointer (some ⟨N,0,none⟩)] w (dh N W s d (aH inner s i) (gJ w.heap.size) w):=by
 have e0:Hid (aH inner s i=oq inner s (skip s i)):=by unfold Hid aH;rw [if_neg eX,if_neg h64,if_neg h42]
 have HR:=ah hr
 have hN:=hr.lt;have hW:=hr.tq;clear hr
 have hle:=dG hi
 have hs:s.size≤1000000000:=by omega
 go_enter Tryz.func126, Tryz.ntmps126
 go_wp2_with fail
 refine (next_any N W s i d _ (HR.out.kept ((Kept.refl aC w).alloc _) (fun h=>h) (fun h=>h)) hi hs).mono ?_
 rintro e w1 ⟨rfl,R1,K1⟩
 have b1:(peek s (skip s i)==39)=false:=by simpa using eX
 have b2:(peek s (skip s i)==64)=false:=by simpa using h64
 have b3:(peek s (skip s i)==42)=false:=by simpa using h42
 have F1:Hid (Five w.heap.size (.int .i64 0) (.string ⟨#[]⟩) (.int .i64 0) (.string ⟨#[]⟩) (.slice none 0 0) w1):=Five.kept (ay w _) K1 (by omega)
 have jS:Hid (Kept (· = N) w w1):=((Kept.refl _ w).alloc _).trans K1
 have mO:=ah R1
 clear R1 K1 eX h64 h42
 have hk:=jZ hle ht
 have hx:x.size≤1000000:=by omega
 have hks:k≤s.size:=by omega
 have hp:Hid (aH inner s i=qp inner s k 20):=by
  unfold Hid;rw [e0.out];unfold oq;rw [ht];dsimp only;unfold lM;rw [hkd,if_neg (by omega),if_neg (by omega),if_neg (by omega),if_pos rfl]
 go_wp2_with fail
 refine (lg N W s (skip s i) d _ mO.out hle hs).mono ?_
 rintro e w2 ⟨K2,h⟩
 rw [ht] at h
 obtain ⟨_,rfl,rfl,R2⟩:=h
 have F2:=ah (F1.out.kept K2 (by omega))
 have qx:Hid (Kept (· = N) w w2):=jS.out.trans K2
 have q2:=R2.c2
 have kV:=ah R2
 clear R2 K2 ht hk b1 b2 b3
 go_wp2_with fail
 refine (jo W x _ kV.out.words).mono ?_
 rintro e w3 ⟨rfl,rfl⟩
 rw [hkd]
 clear hkd q2
 have Z8:=ah hin;have VJ:=ah hfw;clear hin hfw
 go_wp2_with fail
 refine (gZ 40 N W (by decide) s k d _ kV.out hks hs).mono ?_
 rintro e w3 ⟨k_,h⟩
 have F3:=ah (F2.out.kept k_ (by omega))
 have K3:=ah (qx.out.trans k_);clear k_
 cases hn:dI 40 s k with
 | error er =>
  rw [hn] at h
  obtain rfl:=h
  have hr:Hid (aH inner s i=.error er):=by unfold Hid;rw [hp.out];unfold qp;rw [hn]
  clear hn
  go_wp2_with fail
  exact bK rfl hr.out K3.out
 | ok k1 =>
  rw [hn] at h
  obtain ⟨rfl,R3⟩:=h
  have uq:=ah R3;clear R3
  have hk1:k1≤s.size:=(iC hn).2.1
  have HN:=ah hn;clear hn
  go_wp2_with fail
  refine (Z8.out k1 _ uq.out hk1).mono ?_
  rintro e w4 ⟨k_,h⟩
  have F4:=ah (F3.out.kept k_ (by omega))
  have K4:=ah (K3.out.trans k_);clear k_
  cases ht:inner k1 with
  | error er =>
   rw [ht] at h
   obtain rfl:=h
   have hr:Hid (aH inner s i=.error er):=by unfold Hid;rw [hp.out];unfold qp;rw [HN.out];dsimp only;rw [ht]
   clear ht
   go_wp2_with fail
   exact bK rfl hr.out K4.out
  | ok y =>
   obtain ⟨q,k2⟩:=y
   rw [ht] at h
   obtain ⟨_,rfl,⟨S,hS,hq⟩,R4⟩:=h
   obtain ⟨ka,cap,rfl,hz,hk⟩:=hq
   have hk2:k2≤s.size:=(VJ.out _ _ _ hk1 ht).2
   have HT:=ah ht;clear ht
   have h34:=K3.out.size
   have hlt4:N<w4.heap.size∧W<w4.heap.size:=⟨R4.lt,R4.tq⟩
   have uw:=ah (R4.kept ((Kept.refl aC w4).alloc (.cells #[.int .i64 q.kind,.string q.text,.int .i64 q.n,.string q.name,.slice ka q.kids.length cap] 27)) (fun h=>h) (fun h=>h))
   have P4:Hid (Five w4.heap.size (.int .i64 q.kind) (.string q.text) (.int .i64 q.n) (.string q.name) (.slice ka q.kids.length cap) (w4.alloc (.cells #[.int .i64 q.kind,.string q.text,.int .i64 q.n,.string q.name,.slice ka q.kids.length cap] 27))):=ay w4 _
   have V4:Hid (gV w4 S (.agg #[.int .i64 q.kind,.string q.text,.int .i64 q.n,.string q.name,.slice ka q.kids.length cap]) q):=⟨ka,cap,rfl,hz,hk⟩
   have HS:=ah hS
   clear R4 hz hk hS
   go_wp2_with fail
   refine (gZ 41 N W (by decide) s k2 d _ uw.out hk2 hs).mono ?_
   rintro e w5 ⟨k_,h⟩
   have F5:=ah ((F4.out.kept ((Kept.refl aC w4).alloc (.cells #[.int .i64 q.kind,.string q.text,.int .i64 q.n,.string q.name,.slice ka q.kids.length cap] 27)) (fun h=>h)).kept k_ (by omega))
   have K5:=ah ((K4.out.alloc (.cells #[.int .i64 q.kind,.string q.text,.int .i64 q.n,.string q.name,.slice ka q.kids.length cap] 27)).trans k_)
   have P5:=ah (P4.out.kept k_ (by omega))
   have V5:=ah (V4.out.kept' (((Kept.refl (· = N) w4).alloc (.cells #[.int .i64 q.kind,.string q.text,.int .i64 q.n,.string q.name,.slice ka q.kids.length cap] 27)).trans k_) (fun b hb=>⟨(HS.out b hb).2,by have:=(HS.out b hb).1;omega⟩))
   have hsz5:w4.heap.size<w5.heap.size:=by have:=k_.size;simp at this;omega
   clear k_
   cases hn:dI 41 s k2 with
   | error er =>
    rw [hn] at h
    obtain rfl:=h
    have hr:Hid (aH inner s i=.error er):=by unfold Hid;rw [hp.out];unfold qp;rw [HN.out];dsimp only;rw [HT.out];dsimp only;rw [hn]
    clear hn
    go_wp2_with fail
    exact bK rfl hr.out K5.out
   | ok k3 =>
    rw [hn] at h
    obtain ⟨rfl,R5⟩:=h
    have uy:=ah R5;clear R5
    have hr:Hid (aH inner s i=.ok (.mk 20 E0 0 E0 [q],k3)):=by unfold Hid;rw [hp.out];unfold qp;rw [HN.out];dsimp only;rw [HT.out];dsimp only;rw [hn]
    clear hn
    obtain ⟨c0,c1,c2,c3,c4,cf⟩:=F5.out.cells
    have f0:=cf 0;have f1:=cf 1;have f2:=cf 2;have f3:=cf 3;have f4:=cf 4;clear cf
    obtain ⟨p0,p1,p2,p3,p4,_⟩:=P5.out.cells
    have hS5:∀b,S b→b<w5.heap.size:=fun b hb=>Nat.lt_trans (HS.out b hb).2 hsz5
    obtain ⟨cc,hcc,hbx⟩:=V5.out.box 27 hS5
    simp only [Value.agg.injEq] at hcc
    subst hcc
    have BX:=ah (CW hbx)
    have Vk:=ah hS5
    have hw5:=K5.out.size
    have SA:w.heap.size<w5.heap.size:=F5.out.lt
    clear hbx hS5
    go_wp2_with fail
    refine YP (p:=.mk 20 E0 0 E0 [q]) (ka:=some ⟨w5.heap.size,0,none⟩) (cap:=1) (S:=fun b=>S b∨b=w5.heap.size) rfl rfl F5.out uy.out K5.out (Nat.le_refl _) hN hW hr.out ⟨jL,jL,JM q⟩ (fun b hb=>?_) BX.out
    have h3:=K3.out.size;have h3l:=F3.out.lt
    rcases hb with hb|rfl
    ·have:=HS.out b hb;omega
    ·omega
theorem P8 (N W:Nat) (s:aj) (i d:Nat) (w:World) (inner:Nat→cZ aA) (hin:xq N W s d inner) (hfw:eH s inner) (hr:eU N W s i d w) (hi:i≤s.size) (hs6:s.size≤65536) :
  Calls Tryz.prog 126 #[.pointer (some ⟨N,0,none⟩)] w (dh N W s d (aH inner s i) (gJ w.heap.size) w):=by
 by_cases eX:peek s (skip s i)=39
 ·exact YQ N W s i d w inner hr hi hs6 eX
 by_cases h64:peek s (skip s i)=64
 ·exact aaM N W s i d w inner hr hi hs6 h64
 by_cases h42:peek s (skip s i)=42
 ·exact VU N W s i d w inner hr hi hs6 h42
 cases ht:gX s (skip s i) with
 | error er=>exact P9 N W s i d w inner hr hi hs6 eX h64 h42 er ht
 | ok x =>
  obtain ⟨⟨x,a⟩,k⟩:=x
  by_cases hb:kindOf x = -1∨kindOf x=0
  ·exact YR N W s i d w inner hr hi hs6 eX h64 h42 x a k ht hb
  by_cases h20:kindOf x=20
  ·exact S9 N W s i d w inner hr hi hs6 eX h64 h42 x a k ht h20 hin hfw
  by_cases h2:kindOf x=2
  ·exact VW N W s i d w inner hr hi hs6 eX h64 h42 x a k ht h2
  by_cases h3:kindOf x=3
  ·exact SK N W s i d w inner hr hi hs6 eX h64 h42 x a k ht h3
  by_cases h4:kindOf x=4
  ·exact SL N W s i d w inner hr hi hs6 eX h64 h42 x a k ht h4
  by_cases h5:kindOf x=5
  ·exact SN N W s i d w inner hr hi hs6 eX h64 h42 x a k ht h5
  by_cases h6:kindOf x=6
  ·exact SQ N W s i d w inner hr hi hs6 eX h64 h42 x a k ht h6
  by_cases h7:kindOf x=7
  ·exact SV N W s i d w inner hr hi hs6 eX h64 h42 x a k ht h7
  by_cases h8:kindOf x=8
  ·exact VX N W s i d w inner hr hi hs6 eX h64 h42 x a k ht h8
  by_cases h9:kindOf x=9
  ·exact VY N W s i d w inner hr hi hs6 eX h64 h42 x a k ht h9
  by_cases h10:kindOf x=10
  ·exact SX N W s i d w inner hr hi hs6 eX h64 h42 x a k ht h10
  by_cases h11:kindOf x=11
  ·exact SY N W s i d w inner hr hi hs6 eX h64 h42 x a k ht h11
  exact SI N W s i d w inner hr hi hs6 eX h64 h42 x a k ht (kindOf x) rfl (by omega)
end Go.Proofs.YtefjbnhpjdhjmaaGreatDoor

namespace Go.Proofs.YtefjbnhpjdhjmaaGreatDoor
set_option linter.all false
open Go.RowKit
set_option maxRecDepth 100000
set_option maxHeartbeats 1000000
theorem Kept.jW {N:Nat} {a w:World} (h:Kept (· = N) a w) (o:Nat) (u:Value):Kept (· = N) a (w.setCell ⟨N,o,none⟩ u):=h.setCell (p:=⟨N,o,none⟩) (.inl rfl) u
def Sr (N W:Nat) (s:aj) (d:Nat) (alt:Nat→cZ aA):Prop :=
 ∀(i:Nat) (w:World),eU N W s i d w→i≤s.size→Calls Tryz.prog 108 #[.pointer (some ⟨N,0,none⟩)] w (dh N W s d (alt i) (gJ w.heap.size) w)
theorem Sv (N W:Nat) (s:aj):xq N W s 200 (eY s 0):=by
 intro i w hr hi
 have HR:=ah hr;clear hr
 have R1:=(HR.out.kept ((Kept.refl aC w).alloc (.cells #[.int .i64 0,.string ⟨#[]⟩,.int .i64 0,.string ⟨#[]⟩,.slice none 0 0] 27)) (fun h=>h) (fun h=>h))
 have q3:=R1.c3;have f3:=R1.fr 3;have q1:=R1.c1
 have K:Hid (∀u,Kept (· = N) w ((w.alloc (.cells #[.int .i64 0,.string ⟨#[]⟩,.int .i64 0,.string ⟨#[]⟩,.slice none 0 0] 27)).setCell ⟨N,3,none⟩ u)):=fun u=>((Kept.refl _ w).alloc _).jW 3 u
 clear R1
 go_enter Tryz.func124, Tryz.ntmps124
 go_wp2_with fail
 refine (jv _ 4 i _).mono ?_
 rintro e w2 ⟨rfl,rfl⟩
 go_wp2_with fail
 first|exact bK rfl rfl (K.out _)|trace_state
theorem Sz (N W:Nat) (s:aj) (d m:Nat) (hm:200=d+(m+1)) (ha:Sr N W s (d+1) (lS (eY s m) s)):xq N W s d (eY s (m+1)):=by
 intro i w hr hi
 have HR:=ah hr;have HA:=ah ha
 have hN:=hr.lt;have hW:=hr.tq;clear hr ha
 have q3:=HR.out.c3;have f3:=HR.out.fr 3;have q1:=HR.out.c1
 have K:Hid (Kept (· = N) w ((w.setCell ⟨N,3,none⟩ (.int .i64 ((d+1:Nat):Int))).alloc (.cells #[.int .i64 0,.string ⟨#[]⟩,.int .i64 0,.string ⟨#[]⟩,.slice none 0 0] 27))):=((Kept.refl _ w).jW 3 _).alloc _
 have R2:=ah ((HR.out.Ot (d+1)).kept ((Kept.refl aC _).alloc (.cells #[.int .i64 0,.string ⟨#[]⟩,.int .i64 0,.string ⟨#[]⟩,.slice none 0 0] 27)) (fun h=>h) (fun h=>h))
 have F0:Hid (Five w.heap.size (.int .i64 0) (.string ⟨#[]⟩) (.int .i64 0) (.string ⟨#[]⟩) (.slice none 0 0) ((w.setCell ⟨N,3,none⟩ (.int .i64 ((d+1:Nat):Int))).alloc (.cells #[.int .i64 0,.string ⟨#[]⟩,.int .i64 0,.string ⟨#[]⟩,.slice none 0 0] 27))) :=
  dO (by simp [World.setCell])
 have hd1:d≤199:=by omega
 have e0:Hid (eY s (m+1) i=lS (eY s m) s i):=rfl
 clear hm
 go_enter Tryz.func124, Tryz.ntmps124
 go_wp2_with fail
 refine (HA.out i _ R2.out hi).mono ?_
 rintro e w2 ⟨k_,h⟩
 have F2:=ah (F0.out.kept k_ (by omega))
 have K2:=ah (K.out.trans k_)
 have hsz:=k_.size
 simp at hsz
 clear k_
 cases ht:lS (eY s m) s i with
 | error er =>
  rw [ht] at h
  obtain rfl:=h
  have hr:Hid (eY s (m+1) i=.error er):=by unfold Hid;rw [e0.out,ht]
  clear ht q3 f3 q1
  go_wp2_with fail
  exact bK rfl hr.out K2.out
 | ok y =>
  obtain ⟨p,k⟩:=y
  rw [ht] at h
  obtain ⟨_,rfl,⟨S,hS,⟨ka,cap,rfl,hz,hk⟩⟩,R3⟩:=h
  have hr:Hid (eY s (m+1) i=.ok (p,k)):=by unfold Hid;rw [e0.out,ht]
  have hlt3:=R3.lt
  have g3:=R3.c3;have gf:=R3.fr 3
  obtain ⟨W2,hW2⟩:∃W2:World,W2=(w2.setCell ⟨N,3,none⟩ (.int .i64 (d:Int))).alloc (.cells #[.int .i64 p.kind,.string p.text,.int .i64 p.n,.string p.name,.slice ka p.kids.length cap] 27):=⟨_,rfl⟩
  have kw:Kept (· = N) w2 W2:=by rw [hW2];exact ((Kept.refl _ w2).jW 3 _).alloc _
  have RW:=(R3.Ot d).kept ((Kept.refl aC _).alloc (.cells #[.int .i64 p.kind,.string p.text,.int .i64 p.n,.string p.name,.slice ka p.kids.length cap] 27)) (fun h=>h) (fun h=>h)
  rw [←hW2] at RW
  have FW:=ah (F2.out.kept kw (by omega))
  have PW:Five w2.heap.size (.int .i64 p.kind) (.string p.text) (.int .i64 p.n) (.string p.name) (.slice ka p.kids.length cap) W2:=by
   rw [hW2];exact dO (by simp [World.setCell])
  have KW:=ah (K2.out.trans kw)
  have HKK:=ah (hk.kept kw (fun b hb=>⟨(hS b hb).2,by have:=(hS b hb).1;simp at this;omega⟩))
  have HS:=ah hS;have HZ:=ah hz
  have hsW:Hid (w2.heap.size<W2.heap.size):=PW.lt
  obtain ⟨c0,c1,c2,c3,c4,cf⟩:=FW.out.cells
  have f0:=cf 0;have f1:=cf 1;have f2:=cf 2;have f3':=cf 3;have f4:=cf 4;clear cf
  obtain ⟨p0,p1,p2,p3,p4,_⟩:=PW.cells
  have RWW:=ah RW
  clear ht q3 f3 q1 R3 hk hz hS RW PW kw
  have ed:((d+1:Nat):Int)-1=d:=by omega
  have ed2:(d:Int)+1-1=d:=by omega
  go_upto_region 6 with fail
  rw [←hW2]
  clear hW2 g3 gf
  go_wp2_with fail
  refine jE (p:=p) (S:=S) rfl rfl FW.out RWW.out KW.out (Nat.le_refl _) hN hW hr.out HZ.out (fun b hb=>?_) HKK.out
  have h1:=HS.out b hb;have h2:=hsW.out;simp at h1;omega
end Go.Proofs.YtefjbnhpjdhjmaaGreatDoor
