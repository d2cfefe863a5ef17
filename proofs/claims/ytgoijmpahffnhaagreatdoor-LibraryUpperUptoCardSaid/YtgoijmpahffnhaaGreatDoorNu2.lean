/-  -/
import Derived.Test.YtgoijmpahffnhaaGreatDoorNu0
import Derived.Lib.ParseIntB
import Derived.Lib.SlTrimSet
namespace Go.Proofs.YtgoijmpahffnhaaGreatDoor
set_option linter.all false
open Go.RowKit
theorem Bz (l:List UInt8):trimB l=Lib.trimS l [32,9]:=rfl
theorem ZL (p:UInt8→Bool):∀l:List UInt8,l.dropWhile p=[]↔∀c∈l,p c=true
 | []=>⟨fun _ c h=>(by cases h),fun _=>rfl⟩
 | c::r=>by
  rw [List.dropWhile_cons]
  by_cases h:p c=true
  ·rw [if_pos h,ZL p r]
   exact ⟨fun e x hx=>(List.mem_cons.1 hx).elim (fun y=>by rw [y];exact h) (e x),fun e x hx=>e x (List.mem_cons_of_mem _ hx)⟩
  ·rw [if_neg h]
   exact ⟨fun e=>(by cases e),fun e=>absurd (e c (List.mem_cons_self ..)) h⟩
theorem ZM (p:UInt8→Bool):∀(l:List UInt8) (c:UInt8),c∈l→c∈l.dropWhile p∨p c=true
 | [],c,h=>by cases h
 | x::r,c,h=>by
  rw [List.dropWhile_cons]
  by_cases hx:p x=true
  ·rw [if_pos hx]
   rcases List.mem_cons.1 h with rfl|h
   ·exact .inr hx
   ·exact ZM p r c h
  ·rw [if_neg hx];exact .inl h
theorem ZN (l cs:List UInt8):Lib.trimS l cs=[]↔∀c∈l,cs.contains c=true:=by
 unfold Lib.trimS Lib.trimLeftS Lib.trimRightS
 rw [ZL]
 constructor
 ·intro h c hc
  rcases ZM (cs.contains ·) l.reverse c (List.mem_reverse.2 hc) with h1|h1
  ·exact h c (List.mem_reverse.2 h1)
  ·exact h1
 ·intro h c hc
  exact h c (List.mem_reverse.1 ((List.dropWhile_suffix _).subset (List.mem_reverse.1 hc)))
def BA:List UInt8:=[48,49,50,51,52,53,54,55,56,57]
set_option maxRecDepth 20000 in
theorem Uu (c:UInt8):BA.contains c=qj c:=by
 have h:∀n:Fin 256,BA.contains (UInt8.ofNat n.val)=qj (UInt8.ofNat n.val):=by decide
 have:=h ⟨c.toNat,UInt8.toNat_lt c⟩
 simpa using this
theorem qI (d:List UInt8):Lib.trimS d BA=[]↔d.all qj=true:=by
 rw [ZN,List.all_eq_true]
 exact ⟨fun h c hc=>by rw [←Uu];exact h c hc,fun h c hc=>by rw [Uu];exact h c hc⟩
theorem agA:∀(l:List UInt8) (acc:Nat),(∀c∈l,48≤c.toNat∧c.toNat≤57)→
  (l.foldl (fun n c=>n*10+(c.toNat-48)) acc≤18446744073709551615→Lib.parseUintM (2 ^ 64-1) acc l=.ok (l.foldl (fun n c=>n*10+(c.toNat-48)) acc))∧
  (18446744073709551615<l.foldl (fun n c=>n*10+(c.toNat-48)) acc→acc≤18446744073709551615→Lib.parseUintM (2 ^ 64-1) acc l=.range):=by
 have grow:∀(l:List UInt8) (acc:Nat),acc≤l.foldl (fun n c=>n*10+(c.toNat-48)) acc:=by
  intro l
  induction l with
  | nil=>intro acc;exact Nat.le_refl _
  | cons c r ih=>intro acc;rw [List.foldl_cons];exact Nat.le_trans (by omega) (ih _)
 intro l
 induction l with
 | nil=>intro acc _;exact ⟨fun _=>rfl,fun h h2=>by simp at h;omega⟩
 | cons c r ih =>
  intro acc hd
  have hc:=hd c (List.mem_cons_self ..)
  have ih':=ih (acc*10+(c.toNat-48)) (fun x hx=>hd x (List.mem_cons_of_mem _ hx))
  rw [List.foldl_cons]
  have hg:=grow r (acc*10+(c.toNat-48))
  refine ⟨fun hle=>?_,fun hlt hacc=>?_⟩
  ·rw [Lib.parseUintM,if_pos hc,if_neg (by omega),if_neg (by omega)]
   exact ih'.1 hle
  ·rw [Lib.parseUintM,if_pos hc]
   by_cases h1:1844674407370955162≤acc
   ·rw [if_pos h1]
   ·rw [if_neg h1]
    by_cases h2:2 ^ 64-1<acc*10+(c.toNat-48)
    ·rw [if_pos h2]
    ·rw [if_neg h2];exact ih'.2 hlt (by omega)
theorem parseM (l:List UInt8) (hd:l.all qj=true) (u:Nat) (hu:u=y9 0 l) :
  (u≤18446744073709551615→Lib.parseUintM (2 ^ 64-1) 0 l=.ok u)∧(18446744073709551615<u→Lib.parseUintM (2 ^ 64-1) 0 l=.range):=by
 have:=agA l 0 fun c hc=>of_decide_eq_true (List.all_eq_true.1 hd c hc)
 rw [show l.foldl (fun n c=>n*10+(c.toNat-48)) 0=u from hu.symm] at this
 exact ⟨this.1,fun h=>this.2 h (Nat.zero_le _)⟩
def jE (c:UInt8) (r:List UInt8):List UInt8:=if c=43∨c=45 then r else c::r
theorem lZ (c:UInt8) (r:List UInt8):uw (c::r)=if jE c r=[]∨(jE c r).all qj=false then none else vX (if c=45 then -(y9 0 (jE c r):Int) else (y9 0 (jE c r):Int)):=rfl
theorem adK (c:UInt8):c.toNat=43↔c=43:=⟨fun h=>UInt8.toNat_inj.1 h,fun h=>by rw [h];rfl⟩
theorem MZ (c:UInt8):c.toNat=45↔c=45:=⟨fun h=>UInt8.toNat_inj.1 h,fun h=>by rw [h];rfl⟩
theorem BD (c:UInt8) (r:List UInt8) (h0:jE c r≠[]) (h1:(jE c r).all qj=true) :
  (∃n,uw (c::r)=some n∧Lib.parseIntB 64 (c::r)=.ok n)∨(uw (c::r)=none∧Lib.parseIntB 64 (c::r)=.range):=by
 rw [lZ,if_neg (fun e=>by rcases e with e|e;exact h0 e;rw [h1] at e;cases e)]
 have hp:=parseM (jE c r) h1 _ rfl
 have e:Lib.parseIntB 64 (c::r)=match Lib.parseUintB 64 (jE c r) with
   | .syntax=>.syntax
   | .range=>.range
   | .ok u=>if ¬c.toNat=45∧2 ^ (64-1)≤u then .range else if c.toNat=45∧2 ^ (64-1)<u then .range else .ok (if c.toNat=45 then -(u:Int) else u):=by
  unfold Lib.parseIntB jE
  dsimp only
  simp only [adK,MZ]
  rfl
 have e2:Lib.parseUintB 64 (jE c r)=Lib.parseUintM (2 ^ 64-1) 0 (jE c r):=by unfold Lib.parseUintB;rw [if_neg h0]
 rw [e,e2]
 generalize y9 0 (jE c r)=u at hp⊢
 unfold vX jw
 by_cases hu:u≤18446744073709551615
 ·rw [hp.1 hu]
  dsimp only
  by_cases h45:c=45
  ·have Gy:c.toNat=45:=(MZ c).2 h45
   rw [if_pos h45,if_neg (fun x=>x.1 Gy)]
   by_cases hb:2 ^ (64-1)<u
   ·rw [if_pos ⟨Gy,hb⟩];exact .inr ⟨if_neg (by omega),rfl⟩
   ·rw [if_neg (fun x=>hb x.2),if_pos Gy];exact .inl ⟨_,if_pos (by omega),rfl⟩
  ·have Gy:¬c.toNat=45:=fun x=>h45 ((MZ c).1 x)
   rw [if_neg h45]
   by_cases hb:2 ^ (64-1)≤u
   ·rw [if_pos ⟨Gy,hb⟩];exact .inr ⟨if_neg (by omega),rfl⟩
   ·rw [if_neg (fun x=>hb x.2),if_neg (fun x=>Gy x.1),if_neg Gy];exact .inl ⟨_,if_pos (by omega),rfl⟩
 ·rw [hp.2 (by omega)]
  refine .inr ⟨?_,rfl⟩
  split<;>exact if_neg (by omega)
end Go.Proofs.YtgoijmpahffnhaaGreatDoor
