/-  -/
import Derived.Test.YtefjbnhpjdhjmaaGreatDoorSpell2
namespace Go.Proofs.YtefjbnhpjdhjmaaGreatDoor
set_option linter.all false
open Go.RowKit
set_option maxRecDepth 100000
set_option maxHeartbeats 4000000
theorem Uk (N T W:Nat) (S:Nat→Prop) (b o i:Nat) (k:Int) (t:aj) (n:Int) (nm:aj) (kids:List aA) (l:List UInt8) (w:World) (h:qg N T W S b o (.mk k t n nm kids) l w) (hn:dH (.mk k t n nm kids)=0) (hl:l.length+(aG (.mk k t n nm kids) i).length≤big) (hk:k=23∨k=24) :
  nR N T W S b o i (.mk k t n nm kids) l w:=by
 obtain ⟨H7,ht,hnn,hnm,_⟩:=jF hn
 obtain ⟨hSb,hz,p0,p1,p2,p3,ka,cap,p4,hkk⟩:=h.pat.open
 dsimp only [aA.aZ,aA.aX,aA.eG,aA.aY,aA.aV] at p0 p1 p2 p3 p4
 unfold big at hl
 unfold nR
 have HH:=ah h
 have hN:T≤N:=h.hT
 have e0:decide ((i:Int)<0)=false:=by simp
 clear hkk hz hn
 rcases hk with rfl|rfl
 ·have hs:aG (.mk 23 t n nm kids) i=64::nm.data.toList:=by rw [aG];rfl
  rw [hs] at hl⊢
  have Zw:=hnm (by decide)
  have e1:nm.data.toList.length=nm.size:=rfl
  have hstr:Hid ((⟨#[64]⟩:aj)++nm=⟨(64::nm.data.toList).toArray⟩):=by
   unfold Hid;rw [ael];show (⟨[64].toArray⟩:aj)++⟨nm.data.toList.toArray⟩=_;rw [kX];rfl
  have hln:l.length+(⟨(64::nm.data.toList).toArray⟩:aj).size≤140737488355328:=by
   show l.length+(64::nm.data.toList).toArray.size≤_;rw [List.size_toArray];omega
  clear hnn hnm hs h ht
  go_enter_defers Tryz.func36, Tryz.ntmps36
  go_wp2_with (go_at_call 31;(rw [hstr.out]);(refine (bW N T l _ _ HH.out.jy hln HH.out.hw).mono ?_);(rintro e w2 ⟨rfl,Q,K2⟩))
  exact ⟨_,results_none rfl _ _ _,rfl,Q,K2⟩
 ·have hs:aG (.mk 24 t n nm kids) i=42::nm.data.toList:=by rw [aG];rfl
  rw [hs] at hl⊢
  have Zw:=hnm (by decide)
  have e1:nm.data.toList.length=nm.size:=rfl
  have hstr:Hid ((⟨#[42]⟩:aj)++nm=⟨(42::nm.data.toList).toArray⟩):=by
   unfold Hid;rw [aek];show (⟨[42].toArray⟩:aj)++⟨nm.data.toList.toArray⟩=_;rw [kX];rfl
  have hln:l.length+(⟨(42::nm.data.toList).toArray⟩:aj).size≤140737488355328:=by
   show l.length+(42::nm.data.toList).toArray.size≤_;rw [List.size_toArray];omega
  clear hnn hnm hs h ht
  go_enter_defers Tryz.func36, Tryz.ntmps36
  go_wp2_with (go_at_call 31;(rw [hstr.out]);(refine (bW N T l _ _ HH.out.jy hln HH.out.hw).mono ?_);(rintro e w2 ⟨rfl,Q,K2⟩))
  exact ⟨_,results_none rfl _ _ _,rfl,Q,K2⟩
theorem Ul (N T W:Nat) (S:Nat→Prop) (b o i:Nat) (k:Int) (t:aj) (n:Int) (nm:aj) (kids:List aA) (l:List UInt8) (w:World) (h:qg N T W S b o (.mk k t n nm kids) l w) (hn:dH (.mk k t n nm kids)=0) (hl:l.length+(aG (.mk k t n nm kids) i).length≤big) (hk:k=12∨k=13∨k=14∨k=15∨k=16∨k=17) :
  nR N T W S b o i (.mk k t n nm kids) l w:=by
 obtain ⟨H7,ht,hnn,hnm,_⟩:=jF hn
 obtain ⟨hSb,hz,p0,p1,p2,p3,ka,cap,p4,hkk⟩:=h.pat.open
 dsimp only [aA.aZ,aA.aX,aA.eG,aA.aY,aA.aV] at p0 p1 p2 p3 p4
 unfold big at hl
 unfold nR
 have HH:=ah h
 have hN:T≤N:=h.hT
 have e0:decide ((i:Int)<0)=false:=by simp
 clear hkk hz hn
 rcases hk with rfl|rfl|rfl|rfl|rfl|rfl
 ·have hs:aG (.mk 12 t n nm kids) i=fK 12:=by rw [aG];rfl
  rw [hs] at hl⊢
  obtain ⟨x,x0,hx⟩:=HH.out.word 12 (by decide)
  have hw6:=qW 12
  have hln:l.length+(⟨(fK 12).toArray⟩:aj).size≤140737488355328:=by
   show l.length+(fK 12).toArray.size≤_;rw [List.size_toArray];omega
  clear hnn hnm hs h ht
  go_enter_defers Tryz.func36, Tryz.ntmps36
  go_wp2_with (go_at_call 31;(try rw [hx]);(refine (bW N T l _ _ HH.out.jy hln HH.out.hw).mono ?_);(rintro e w2 ⟨rfl,Q,K2⟩))
  exact ⟨_,results_none rfl _ _ _,rfl,Q,K2⟩
 ·have hs:aG (.mk 13 t n nm kids) i=fK 13:=by rw [aG];rfl
  rw [hs] at hl⊢
  obtain ⟨x,x0,hx⟩:=HH.out.word 13 (by decide)
  have hw6:=qW 13
  have hln:l.length+(⟨(fK 13).toArray⟩:aj).size≤140737488355328:=by
   show l.length+(fK 13).toArray.size≤_;rw [List.size_toArray];omega
  clear hnn hnm hs h ht
  go_enter_defers Tryz.func36, Tryz.ntmps36
  go_wp2_with (go_at_call 31;(try rw [hx]);(refine (bW N T l _ _ HH.out.jy hln HH.out.hw).mono ?_);(rintro e w2 ⟨rfl,Q,K2⟩))
  exact ⟨_,results_none rfl _ _ _,rfl,Q,K2⟩
 ·have hs:aG (.mk 14 t n nm kids) i=fK 14:=by rw [aG];rfl
  rw [hs] at hl⊢
  obtain ⟨x,x0,hx⟩:=HH.out.word 14 (by decide)
  have hw6:=qW 14
  have hln:l.length+(⟨(fK 14).toArray⟩:aj).size≤140737488355328:=by
   show l.length+(fK 14).toArray.size≤_;rw [List.size_toArray];omega
  clear hnn hnm hs h ht
  go_enter_defers Tryz.func36, Tryz.ntmps36
  go_wp2_with (go_at_call 31;(try rw [hx]);(refine (bW N T l _ _ HH.out.jy hln HH.out.hw).mono ?_);(rintro e w2 ⟨rfl,Q,K2⟩))
  exact ⟨_,results_none rfl _ _ _,rfl,Q,K2⟩
 ·have hs:aG (.mk 15 t n nm kids) i=fK 15:=by rw [aG];rfl
  rw [hs] at hl⊢
  obtain ⟨x,x0,hx⟩:=HH.out.word 15 (by decide)
  have hw6:=qW 15
  have hln:l.length+(⟨(fK 15).toArray⟩:aj).size≤140737488355328:=by
   show l.length+(fK 15).toArray.size≤_;rw [List.size_toArray];omega
  clear hnn hnm hs h ht
  go_enter_defers Tryz.func36, Tryz.ntmps36
  go_wp2_with (go_at_call 31;(try rw [hx]);(refine (bW N T l _ _ HH.out.jy hln HH.out.hw).mono ?_);(rintro e w2 ⟨rfl,Q,K2⟩))
  exact ⟨_,results_none rfl _ _ _,rfl,Q,K2⟩
 ·have hs:aG (.mk 16 t n nm kids) i=fK 16:=by rw [aG];rfl
  rw [hs] at hl⊢
  obtain ⟨x,x0,hx⟩:=HH.out.word 16 (by decide)
  have hw6:=qW 16
  have hln:l.length+(⟨(fK 16).toArray⟩:aj).size≤140737488355328:=by
   show l.length+(fK 16).toArray.size≤_;rw [List.size_toArray];omega
  clear hnn hnm hs h ht
  go_enter_defers Tryz.func36, Tryz.ntmps36
  go_wp2_with (go_at_call 31;(try rw [hx]);(refine (bW N T l _ _ HH.out.jy hln HH.out.hw).mono ?_);(rintro e w2 ⟨rfl,Q,K2⟩))
  exact ⟨_,results_none rfl _ _ _,rfl,Q,K2⟩
 ·have hs:aG (.mk 17 t n nm kids) i=fK 17:=by rw [aG];rfl
  rw [hs] at hl⊢
  obtain ⟨x,x0,hx⟩:=HH.out.word 17 (by decide)
  have hw6:=qW 17
  have hln:l.length+(⟨(fK 17).toArray⟩:aj).size≤140737488355328:=by
   show l.length+(fK 17).toArray.size≤_;rw [List.size_toArray];omega
  clear hnn hnm hs h ht
  go_enter_defers Tryz.func36, Tryz.ntmps36
  go_wp2_with (go_at_call 31;(try rw [hx]);(refine (bW N T l _ _ HH.out.jy hln HH.out.hw).mono ?_);(rintro e w2 ⟨rfl,Q,K2⟩))
  exact ⟨_,results_none rfl _ _ _,rfl,Q,K2⟩
end Go.Proofs.YtefjbnhpjdhjmaaGreatDoor
