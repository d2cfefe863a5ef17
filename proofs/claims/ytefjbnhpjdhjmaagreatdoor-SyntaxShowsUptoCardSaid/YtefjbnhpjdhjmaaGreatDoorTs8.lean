/-  -/
import Derived.Test.YtefjbnhpjdhjmaaGreatDoorPs10
namespace Go.Proofs.YtefjbnhpjdhjmaaGreatDoor
set_option linter.all false
open Go.RowKit
theorem UO:∀(l:List UInt8) (acc:Nat),(∀c∈l,48≤c.toNat∧c.toNat≤57)→
  (l.foldl (fun n c=>n*10+(c.toNat-48)) acc≤18446744073709551615→Lib.parseUintM (2 ^ 64-1) acc l=.ok (l.foldl (fun n c=>n*10+(c.toNat-48)) acc))∧
  (18446744073709551615<l.foldl (fun n c=>n*10+(c.toNat-48)) acc→acc≤18446744073709551615→Lib.parseUintM (2 ^ 64-1) acc l=.range):=by
 have grow:∀(l:List UInt8) (acc:Nat),acc≤l.foldl (fun n c=>n*10+(c.toNat-48)) acc:=by
  intro l
  induction l with
  | nil=>intro acc;exact Nat.le_refl _
  | cons c r ih=>intro acc;rw [List.foldl_cons];exact Nat.le_trans (by omega) (ih _)
 intro l
 induction l with
 | nil=>intro acc _;exact ⟨fun _=>rfl,fun h h2=>by simp at h;omega⟩
 | cons c r ih =>
  intro acc hd
  have hc:=hd c (List.mem_cons_self ..)
  have ih':=ih (acc*10+(c.toNat-48)) (fun x hx=>hd x (List.mem_cons_of_mem _ hx))
  rw [List.foldl_cons]
  have hg:=grow r (acc*10+(c.toNat-48))
  refine ⟨fun hle=>?_,fun hlt hacc=>?_⟩
  ·rw [Lib.parseUintM,if_pos hc,if_neg (by omega),if_neg (by omega)]
   exact ih'.1 hle
  ·rw [Lib.parseUintM,if_pos hc]
   by_cases h1:1844674407370955162≤acc
   ·rw [if_pos h1]
   ·rw [if_neg h1]
    by_cases h2:2 ^ 64-1<acc*10+(c.toNat-48)
    ·rw [if_pos h2]
    ·rw [if_neg h2];exact ih'.2 hlt (by omega)
theorem abL (l:List UInt8) (h0:l≠[]) (hd:∀c∈l,48≤c.toNat∧c.toNat≤57) :
  (qX l≤9223372036854775807→Lib.parseIntB 64 l=.ok (qX l))∧(9223372036854775807<qX l→Lib.parseIntB 64 l=.range):=by
 cases l with
 | nil=>exact absurd rfl h0
 | cons c r =>
  have hc:=hd c (List.mem_cons_self ..)
  have hp:=UO (c::r) 0 hd
  have e:Lib.parseUintB 64 (c::r)=Lib.parseUintM (2 ^ 64-1) 0 (c::r):=by unfold Lib.parseUintB;rw [if_neg (by simp)]
  have en:qX (c::r)=(c::r).foldl (fun n c=>n*10+(c.toNat-48)) 0:=rfl
  rw [en]
  refine ⟨fun hle=>?_,fun hlt=>?_⟩
  ·unfold Lib.parseIntB
   dsimp only
   rw [if_neg (by omega),e,hp.1 (by omega)]
   dsimp only
   rw [if_neg (by omega),if_neg (by omega),if_neg (by omega)]
  ·unfold Lib.parseIntB
   dsimp only
   rw [if_neg (by omega),e]
   by_cases h2:(c::r).foldl (fun n c=>n*10+(c.toNat-48)) 0≤18446744073709551615
   ·rw [hp.1 h2]
    dsimp only
    rw [if_pos (by omega)]
   ·rw [hp.2 (by omega) (by omega)]
theorem je.start {N T en d M4:Nat} {w w1 w3:World} {p:aA} {ka:Option Addr} {cap:Nat} {r:List aF} {S:Nat→Prop} (Z:dJ M4 (.int .i64 0) (.string ⟨#[]⟩) (.int .i64 0) (.string ⟨#[]⟩) (.slice none 0 0) w3) (K:Kept (· = N) w w3) (hR:fA N T en r d w3)
  (hS:∀b,S b→w1.heap.size≤b∧b<w3.heap.size) (hz:p.text.size<1000000000∧p.name.size<1000000000∧p.kids.length<1000000000) (hk:aI w3 S ka p.kids) (hN:N<w.heap.size) (hw:w.heap.size≤w1.heap.size) (h4:M4<w1.heap.size) :
  je N T en d M4 w3.heap.size w p ka cap r (w3.alloc (.cells #[.int .i64 p.kind,.string p.text,.int .i64 p.n,.string p.name,.slice ka p.kids.length cap] 24)):=by
 have k5:Kept aC w3 (w3.alloc (.cells #[.int .i64 p.kind,.string p.text,.int .i64 p.n,.string p.name,.slice ka p.kids.length cap] 24)):=(Kept.refl _ _).alloc _
 have hsz:(w3.alloc (.cells #[.int .i64 p.kind,.string p.text,.int .i64 p.n,.string p.name,.slice ka p.kids.length cap] 24)).heap.size=w3.heap.size+1:=by simp
 refine ⟨hR.kept k5 (fun h=>h) (fun h=>h),ay w3 _,⟨S,hk.kept k5 (fun b hb=>⟨(hS b hb).2,fun h=>h⟩),fun b hb=>by have:=hS b hb;omega⟩,hz,Z.kept k5 (fun h=>h),K.trans (k5.more (fun _ h=>h.elim))⟩
theorem je.abM {N T en d M4:Nat} {w w1 w3:World} {p:aA} {ka:Option Addr} {cap:Nat} {r:List aF} {S:Nat→Prop} (k:Int) (Z:dJ M4 (.int .i64 0) (.string ⟨#[]⟩) (.int .i64 0) (.string ⟨#[]⟩) (.slice none 0 0) w3) (K:Kept (· = N) w w3) (hR:fA N T en r d w3)
  (hS:∀b,S b→w1.heap.size≤b∧b<w3.heap.size) (hz:p.text.size<1000000000∧p.name.size<1000000000∧p.kids.length<1000000000) (hk:aI w3 S ka p.kids) (hN:N<w.heap.size) (hw:w.heap.size≤w1.heap.size) (h4:M4<w1.heap.size) (h13:w1.heap.size≤w3.heap.size) :
  je N T en d M4 (w3.heap.size+1) w (node1 k p) (some ⟨w3.heap.size,0,none⟩) 1 r ((w3.alloc (.cells #[.int .i64 p.kind,.string p.text,.int .i64 p.n,.string p.name,.slice ka p.kids.length cap] 24)).alloc (.cells #[.int .i64 k,.string ⟨#[]⟩,.int .i64 0,.string ⟨#[]⟩,.slice (some ⟨w3.heap.size,0,none⟩) 1 1] 24)):=by
 obtain ⟨w4,hw4⟩:∃w4,w4=w3.alloc (.cells #[.int .i64 p.kind,.string p.text,.int .i64 p.n,.string p.name,.slice ka p.kids.length cap] 24):=⟨_,rfl⟩
 rw [←hw4]
 have k4:Kept aC w3 w4:=by rw [hw4];exact (Kept.refl _ _).alloc _
 have z4:w4.heap.size=w3.heap.size+1:=by rw [hw4];simp
 have f4:dJ w3.heap.size (.int .i64 p.kind) (.string p.text) (.int .i64 p.n) (.string p.name) (.slice ka p.kids.length cap) w4:=by rw [hw4];exact ay w3 _
 have hp1:=Rw f4 hz (hk.kept k4 (fun b hb=>⟨(hS b hb).2,fun h=>h⟩)) (fun b hb=>by have:=hS b hb;omega)
 have vW:w.heap.size≤w3.heap.size:=K.size
 have hl:=Z.lt
 have:=je.start (w1:=w1) (S:=fun b=>S b∨b=w3.heap.size) (p:=node1 k p) (cap:=1) (Z.kept k4 (fun h=>h)) (K.trans (k4.more (fun _ h=>h.elim))) (hR.kept k4 (fun h=>h) (fun h=>h)) ?_ ⟨by show E0.size<_;decide,by show E0.size<_;decide,by simp [node1,aA.kids]⟩ hp1 hN hw h4
 ·rw [z4] at this;exact this
 ·rintro b (hb|rfl)
  ·have:=hS b hb;omega
  ·omega
theorem je.item {N T en d M4 M5:Nat} {w w1 w3:World} {nm:aj} {p:aA} {ka:Option Addr} {cap:Nat} {l1 r:List aF} {S:Nat→Prop} (h:je N T en d M4 M5 w (.mk 3 E0 0 nm []) none 0 l1 w1) (hn4:N≠M4) (Ai:N≠M5) (h45:M4≠M5) (hw5:w.heap.size≤M5) (hTw:T<w.heap.size) (UQ:N<w.heap.size)
  (hk:Kept (· = N) w1 w3) (hr:fA N T en r d w3) (hS:∀b,S b→w1.heap.size≤b∧b<w3.heap.size) (hz:p.text.size<1000000000∧p.name.size<1000000000∧p.kids.length<1000000000) (hp:aI w3 S ka p.kids) {w4:World}
  (hw:w4=w3.alloc (.cells #[.int .i64 p.kind,.string p.text,.int .i64 p.n,.string p.name,.slice ka p.kids.length cap] 24)) :
  je N T en d M4 M5 w (.mk 4 E0 0 nm [p]) (some ⟨w3.heap.size,0,none⟩) 1 r ((w4.setCell ⟨M5,0,none⟩ (.int .i64 4)).setCell ⟨M5,4,none⟩ (.slice (some ⟨w3.heap.size,0,none⟩) 1 1)):=by
 have h3:=h.bg hn4 Ai hk hr
 obtain ⟨_,f3,_,z3,o3,k3⟩:=h3
 have k4:Kept aC w3 w4:=by rw [hw];exact (Kept.refl _ _).alloc _
 have hsz:w4.heap.size=w3.heap.size+1:=by rw [hw];simp
 have f4:dJ w3.heap.size (.int .i64 p.kind) (.string p.text) (.int .i64 p.n) (.string p.name) (.slice ka p.kids.length cap) w4:=by rw [hw];exact ay w3 _
 have g4:=f3.kept k4 (fun h=>h)
 have k6:Kept (· = M5) w4 ((w4.setCell ⟨M5,0,none⟩ (.int .i64 4)).setCell ⟨M5,4,none⟩ (.slice (some ⟨w3.heap.size,0,none⟩) 1 1)):=((Kept.refl (· = M5) w4).setCell (p:=⟨M5,0,none⟩) (.inl rfl) _).setCell (p:=⟨M5,4,none⟩) (.inl rfl) _
 have hw1:w.heap.size≤w1.heap.size:=h.kept.size
 have l3:=f3.lt;have o3l:=o3.lt;have vW:=hk.size
 have l1':=h.five.lt
 have hp1:=Rw f4 hz (hp.kept k4 (fun b hb=>⟨(hS b hb).2,fun h=>h⟩)) (fun b hb=>by have:=hS b hb;omega)
 have hout:∀b,(S b∨b=w3.heap.size)→w.heap.size≤b∧b<w4.heap.size∧b≠M4∧b≠M5∧b≠N:=by
  have:=h.zero.lt
  rintro b (hb|rfl)
  ·have:=hS b hb;omega
  ·omega
 refine ⟨(hr.kept k4 (fun h=>h) (fun h=>h)).kept k6 Ai (by omega) (by have:=hr.mF;omega),?_,⟨fun b=>S b∨b=w3.heap.size,hp1.kept k6 (fun b hb=>⟨(hout b hb).2.1,(hout b hb).2.2.2.1⟩),fun b hb=>by have:=hout b hb;have:=k6.size;omega⟩,⟨z3.1,z3.2.1,by simp [aA.kids]⟩,(o3.kept k4 (fun h=>h)).kept k6 h45,(k3.trans (k4.more (fun _ h=>h.elim))).step k6 (fun y hy=>.inr (by omega))⟩
 unfold dJ at g4⊢
 rw [aK (aK g4 _) _];rfl
structure qY (N T en d M4 M5:Nat) (w:World) (nm:aj) (ks:List aA) (v:Value) (l:List aF) (wx:World):Prop where
 bY:fA N T en l d wx
 five:dJ M5 (.int .i64 6) (.string ⟨#[]⟩) (.int .i64 0) (.string nm) v wx
 own:∃(cs:List Value) (S:Nat→Prop),bT wx (M5+1) 24 5 v ks.length cs∧fU wx S cs ks∧∀b,S b→M5<b∧b<wx.heap.size∧v.ownBlock≠some b
 sz:nm.size<1000000000
 zero:dJ M4 (.int .i64 0) (.string ⟨#[]⟩) (.int .i64 0) (.string ⟨#[]⟩) (.slice none 0 0) wx
 kept:Kept (· = N) w wx
theorem qY.start {N T en d M4 M5:Nat} {w w1:World} {nm:aj} {l:List aF} (h:je N T en d M4 M5 w (.mk 3 E0 0 nm []) none 0 l w1) (Ai:N≠M5) (h45:M4≠M5) (hw5:w.heap.size≤M5) (hTw:T<w.heap.size) (UQ:N<w.heap.size) :
  qY N T en d M4 M5 w nm [] (.slice none 0 0) l (w1.setCell ⟨M5,0,none⟩ (.int .i64 6)):=by
 obtain ⟨h1,h2,_,h5,h6,h7⟩:=h
 have k6:Kept (· = M5) w1 (w1.setCell ⟨M5,0,none⟩ (.int .i64 6)):=(Kept.refl (· = M5) w1).setCell (p:=⟨M5,0,none⟩) (.inl rfl) _
 refine ⟨h1.kept k6 Ai (by omega) (by have:=h1.mF;omega),?_,⟨[],aC,bT.nil _ _ _ _,by rw [fU],fun b hb=>hb.elim⟩,h5.2.1,h6.kept k6 h45,h7.step k6 (fun y hy=>.inr (by omega))⟩
 unfold dJ at h2⊢
 rw [aK h2 _];rfl
theorem qY.bg {N T en d M4 M5:Nat} {w:World} {nm:aj} {ks:List aA} {v:Value} {l l2:List aF} {wx wy:World} (h:qY N T en d M4 M5 w nm ks v l wx) (hn4:N≠M4) (Ai:N<M5) (hk:Kept (· = N) wx wy) (hr:fA N T en l2 d wy):qY N T en d M4 M5 w nm ks v l2 wy:=by
 obtain ⟨h1,h2,⟨cs,S,h3,h4,h5⟩,h6,h7,h8⟩:=h
 exact ⟨hr,h2.kept hk (by omega),⟨cs,S,h3.kept hk (fun k hk e=>by have:=(h3.lt k hk).1;omega),h4.kept hk (fun b hb=>⟨(h5 b hb).2.1,fun e=>by have:=(h5 b hb).1;omega⟩),fun b hb=>⟨(h5 b hb).1,Nat.lt_of_lt_of_le (h5 b hb).2.1 hk.size,(h5 b hb).2.2⟩⟩,h6,h7.kept hk (Ne.symm hn4),h8.trans hk⟩
theorem qY.done {N T en d M4 M5:Nat} {w:World} {nm:aj} {ks:List aA} {a:Option Addr} {c:Nat} {l:List aF} {wx:World} (h:qY N T en d M4 M5 w nm ks (.slice a ks.length c) l wx) (h45:M4<M5) (hw5:w.heap.size≤M5) (UQ:N<w.heap.size) (hks:ks.length≤8) :
  je N T en d M4 M5 w (.mk 6 E0 0 nm ks) a c l wx:=by
 obtain ⟨h1,h2,⟨cs,S,h3,h4,h5⟩,h6,h7,h8⟩:=h
 refine ⟨h1,h2,?_,⟨by show E0.size<_;decide,h6,by show ks.length<_;omega⟩,h7,h8⟩
 rcases h3.cells with ⟨hv,hn⟩|⟨g,o,c',hv,hg1,hg2,_,_,hc⟩
 ·obtain rfl:=List.length_eq_zero_iff.1 hn
  exact ⟨aC,by show aI wx aC a [];unfold aI;trivial,fun b hb=>hb.elim⟩
 ·simp only [Value.slice.injEq,true_and] at hv
  obtain ⟨rfl,rfl⟩:=hv
  refine ⟨fun b=>S b∨b=g,h4.pats g o (fun j u hu=>(hc j u hu).1),fun b hb=>?_⟩
  rcases hb with hb|rfl
  ·have:=h5 b hb;omega
  ·omega
theorem qY.step {N T en d M4 M5:Nat} {w:World} {nm:aj} {ks:List aA} {v:Value} {l r:List aF} {w1 w3 w4:World} {q:aA} {kc:Option Addr} {dK:Nat} {a':Option Addr} {c':Nat} {cs:List Value} {S1 S2:Nat→Prop}
  (I:qY N T en d M4 M5 w nm ks v l w1) (h1:bT w1 (M5+1) 24 5 v ks.length cs) (h2:fU w1 S1 cs ks) (h3:∀b,S1 b→M5<b∧b<w1.heap.size∧v.ownBlock≠some b) (h45:M4<M5) (hw5:w.heap.size≤M5) (UQ:N<w.heap.size) (hTw:T<w.heap.size) (hw4:w.heap.size≤M4)
  (K3:Kept (· = N) w1 w3) (hr:fA N T en r d w3) (hz:q.text.size<1000000000∧q.name.size<1000000000∧q.kids.length<1000000000) (hS2:∀b,S2 b→w1.heap.size≤b∧b<w3.heap.size) (hq:aI w3 S2 kc q.kids)
  (hw:bT w4 (M5+1) 24 5 (.slice a' (ks.length+1) c') (ks.length+1) (cs++[.int .i64 q.kind,.string q.text,.int .i64 q.n,.string q.name,.slice kc q.kids.length dK])) (hg:(w3.alloc (.cells #[.int .i64 q.kind,.string q.text,.int .i64 q.n,.string q.name,.slice kc q.kids.length dK] 24)).grownBy w4 v.ownBlock)
  (ho:(Value.slice a' (ks.length+1) c').ownBlock=v.ownBlock∨(Value.slice a' (ks.length+1) c').ownBlock=some (w3.heap.size+1)) :
  qY N T en d M4 M5 w nm (ks++[q]) (.slice a' (ks.length+1) c') r (w4.setCell ⟨M5,4,none⟩ (.slice a' (ks.length+1) c')):=by
 have kA:Kept aC w3 (w3.alloc (.cells #[.int .i64 q.kind,.string q.text,.int .i64 q.n,.string q.name,.slice kc q.kids.length dK] 24)):=(Kept.refl _ _).alloc _
 have hlow:∀b,v.ownBlock=some b→M5+1≤b∧b<w1.heap.size:=h1.lt
 have hs3:=K3.size
 have hl5:=I.five.lt
 have zy:Kept (fun b=>v.ownBlock=some b) w3 w4:=(kA.more fun _ h=>h.elim).grown hg fun b hb=>.inl hb
 have K5:Kept (· = M5) w4 (w4.setCell ⟨M5,4,none⟩ (.slice a' (ks.length+1) c')):=(Kept.refl (· = M5) w4).setCell (p:=⟨M5,4,none⟩) (.inl rfl) _
 have MQ:=zy.size
 have hnew:∀g,(Value.slice a' (ks.length+1) c').ownBlock=some g→M5+1≤g:=fun g hg=>(hw.lt g hg).1
 have I3:=I.bg (by omega) (by omega) K3 hr
 have x4:dJ M5 (.int .i64 6) (.string ⟨#[]⟩) (.int .i64 0) (.string nm) v w4:=I3.five.kept zy (fun h=>by have:=hlow _ h;omega)
 refine ⟨(hr.kept zy (fun h=>by have:=hlow _ h;omega) (fun h=>by have:=hlow _ h;omega) (fun h=>by have:=hlow _ h;have:=hr.mF;omega)).kept K5 (by omega) (by omega) (by have:=hr.mF;omega),?_,?_,I.sz,(I3.zero.kept zy (fun h=>by have:=hlow _ h;omega)).kept K5 (by omega),(I3.kept.step zy (fun y hy=>.inr (by have:=hlow y hy;omega))).step K5 (fun y hy=>.inr (by omega))⟩
 ·unfold dJ at x4⊢
  rw [aK x4 _];rfl
 refine ⟨_,fun b=>S1 b∨S2 b,by rw [List.length_append];exact hw.kept K5 (fun g hg=>by have:=hnew g hg;omega),?_,fun b hb=>?_⟩
 ·refine fU.kept (X:=(· = M5)) (w:=w4) ?_ K5 (fun b hb=>⟨by rcases hb with hb|hb;have:=(h3 b hb).2.1;omega;exact Nat.lt_of_lt_of_le (hS2 b hb).2 MQ,by rcases hb with hb|hb;have:=h3 b hb;omega;have:=hS2 b hb;omega⟩)
  refine fU.append ?_ ?_
  ·exact ((h2.kept K3 (fun b hb=>⟨(h3 b hb).2.1,by have:=h3 b hb;omega⟩)).kept zy (fun b hb=>⟨by have:=h3 b hb;omega,(h3 b hb).2.2⟩)).more fun b h=>.inl h
  ·rw [fU];refine ⟨_,[],(List.append_nil _).symm,⟨kc,dK,rfl,hz,?_⟩,rfl⟩
   exact aI.to hq zy (fun b hb=>⟨(hS2 b hb).2,fun h=>by have:=hlow b h;have:=(hS2 b hb).1;omega⟩) (fun b h=>.inr h)
 ·have hs5:=K5.size
  rcases hb with hb|hb
  ·have:=h3 b hb
   refine ⟨this.1,by omega,?_⟩
   rcases ho with h|h
   ·rw [h];exact this.2.2
   ·rw [h];simp;omega
  ·have:=hS2 b hb
   refine ⟨by omega,by omega,?_⟩
   rcases ho with h|h
   ·rw [h];intro h';have:=hlow b h';omega
   ·rw [h];simp;omega
end Go.Proofs.YtefjbnhpjdhjmaaGreatDoor

namespace Go.Proofs.YtefjbnhpjdhjmaaGreatDoor
set_option linter.all false
open Go.RowKit
set_option maxRecDepth 100000
set_option maxHeartbeats 8000000
theorem ug.ok {x:aj} {N T en d:Nat} {l r:List aF} {w w':World} {e:Ending} (h:ug x N T en l d w e w') (hr:gI x en l=.ok r):Kept (· = N) w w'∧e=.returned (.tuple #[])∧fA N T en r d w':=by
 unfold ug at h;rw [hr] at h;exact ⟨h.1,h.2.1,h.2.2⟩
theorem ug.bad {x:aj} {N T en d:Nat} {l:List aF} {w w':World} {e:Ending} {er:Er} (h:ug x N T en l d w e w') (hr:gI x en l=.error er):Kept (· = N) w w'∧mG er e:=by
 unfold ug at h;rw [hr] at h;exact h
theorem vX.ok {N T en d:Nat} {l r:List aF} {w w':World} {e:Ending} {x:aj} (h:vX N T en l d w e w') (hr:fP en l=.ok (x,r)):Kept (· = N) w w'∧e=.returned (.string x)∧fA N T en r d w':=by
 unfold vX at h;rw [hr] at h;exact ⟨h.1,h.2.1,h.2.2⟩
theorem vX.bad {N T en d:Nat} {l:List aF} {w w':World} {e:Ending} {er:Er} (h:vX N T en l d w e w') (hr:fP en l=.error er):Kept (· = N) w w'∧mG er e:=by
 unfold vX at h;rw [hr] at h;exact h
theorem vU.ok {k:Int} {N T en d:Nat} {l r:List aF} {w w':World} {e:Ending} {t:aF} (h:vU k N T en l d w e w') (hr:gU k en l=.ok (t,r)):Kept (· = N) w w'∧e=.returned (DW t)∧fA N T en r d w':=by
 unfold vU at h;rw [hr] at h;exact ⟨h.1,h.2.1,h.2.2⟩
theorem vU.bad {k:Int} {N T en d:Nat} {l:List aF} {w w':World} {e:Ending} {er:Er} (h:vU k N T en l d w e w') (hr:gU k en l=.error er):Kept (· = N) w w'∧mG er e:=by
 unfold vU at h;rw [hr] at h;exact h
theorem XQ.thrown {N T en d:Nat} {r:cO aA} {w w2 w3:World} {er:Er} (K:Kept (· = N) w w2) (k:Kept (· = N) w2 w3) (hr:r=.error er):XQ N T en d r w (.panicked [{v:=dQ er,recovered:=false}]) w3:=by
 subst hr;exact ⟨K.trans k,rfl⟩
theorem nS {N T en d:Nat} {l:List aF} {w:World} (x:aj) (h:fA N T en l d w) (hs:aJ x l=true):Calls Tryz.prog 51 #[.pointer (some ⟨N,0,none⟩),.string x] w (fun e w'=>e=.returned (.bool true)∧fA N T en l.tail d w'∧Kept (· = N) w w'):=by
 refine (yZ x h).mono ?_
 rintro e w' ⟨h1,h2,h3⟩
 rw [hs] at h1 h2
 exact ⟨h1,h2,h3⟩
theorem iy {N T en d:Nat} {l:List aF} {w:World} (x:aj) (h:fA N T en l d w) (hs:aJ x l=false):Calls Tryz.prog 51 #[.pointer (some ⟨N,0,none⟩),.string x] w (fun e w'=>e=.returned (.bool false)∧fA N T en l d w'∧Kept (· = N) w w'):=by
 refine (yZ x h).mono ?_
 rintro e w' ⟨h1,h2,h3⟩
 rw [hs] at h1 h2
 exact ⟨h1,h2,h3⟩
theorem UR {N T en d:Nat} {ex pr:List aF→cO aA} (HE:Gx N T en d ex) {l:List aF} {w:World} (h:fA N T en l d w) (hs:aJ (bs [40]) l=true):Calls Tryz.prog 119 #[.pointer (some ⟨N,0,none⟩)] w (XQ N T en d (bP ex pr en l) w):=by
 have er:Hid (bP ex pr en l=match ex l.tail with | .error er=>.error er | .ok (x,r)=>match gI (bs [41]) en r with | .error er=>.error er | .ok r2=>.ok (x,r2)):=by unfold Hid bP;rw [if_pos hs];rfl
 obtain ⟨hN,hT,hne,h7⟩:=h.mF
 obtain ⟨w0,hw0⟩:∃w0,w0=w.alloc (.cells #[.int .i64 0,.string ⟨#[]⟩,.int .i64 0,.string ⟨#[]⟩,.slice none 0 0] 24):=⟨_,rfl⟩
 have k0:Kept aC w w0:=by rw [hw0];exact (Kept.refl _ _).alloc _
 obtain ⟨M2,hM2⟩:∃M,M=w.heap.size:=⟨_,rfl⟩
 have Z0:Hid (dJ M2 (.int .i64 0) (.string ⟨#[]⟩) (.int .i64 0) (.string ⟨#[]⟩) (.slice none 0 0) w0):=by rw [hw0,hM2];exact ay w _
 have R0:=ah (h.kept k0 (fun h=>h) (fun h=>h))
 have K0:Hid (Kept (· = N) w w0):=k0.more (fun _ h=>h.elim)
 have HW0:=ah hw0;have dB:=ah hM2
 have hsz0:Hid (w0.heap.size=w.heap.size+1):=by unfold Hid;rw [hw0];simp
 have HEX:=ah HE;have HS:=ah hs
 clear k0 hw0 hM2 h HE hs
 go_enter Tryz.func119, Tryz.ntmps119
 go_upto_region 1 with fail
 rw [←HW0.out,←dB.out]
 go_upto_region 3 with (first
  | (go_at_call 51;(refine (nS (bs [40]) R0.out HS.out).mono ?_);rintro e w1 ⟨rfl,gK,eF⟩;have R1:=ah gK;have K1:Hid (Kept (· = N) w w1):=K0.out.trans eF;have Z1:=ah (Z0.out.kept eF (by have:=dB.out;omega));clear gK eF)
  | (go_at_call 81;(refine (HEX.out l.tail w1 R1.out).mono ?_);intro e w3 iD;rcases hu:ex l.tail with e0|⟨p,r⟩;(obtain ⟨eu,rfl⟩:=iD.bad hu;have f_:XQ N T en d (bP ex pr en l) w (.panicked [{v:=dQ e0,recovered:=false}]) _:=XQ.thrown K1.out eu (by rw [er.out,hu]);exact ⟨rfl,f_⟩);(obtain ⟨eu,lD,S,ka,cap,rfl,gy,iL,fJ⟩:=iD.ok hu;have K3:Hid (Kept (· = N) w w3):=K1.out.trans eu;have I5:=ah (je.start (cap:=cap) (Z1.out.kept eu (by have:=dB.out;omega)) K3.out lD gy iL fJ hN K1.out.size Z1.out.lt);have L3:Hid (w1.heap.size≤w3.heap.size):=eu.size;have HU:=ah hu;clear eu lD gy iL fJ iD hu)))
 have hM:Hid (N≠M2∧N≠w3.heap.size∧T≠M2∧w.heap.size≤M2):=by have:=dB.out;have:=K3.out.size;unfold Hid;omega
 go_upto_region 4 with (go_at_call 79;(refine (lX (bs [41]) I5.out.bY).mono ?_);intro e w6 Ii;rcases hv:gI (bs [41]) en r with e0|r2;(obtain ⟨vg,rfl⟩:=Ii.bad hv;have f_:XQ N T en d (bP ex pr en l) w (.panicked [{v:=dQ e0,recovered:=false}]) _:=XQ.thrown I5.out.kept vg (by rw [er.out,HU.out];dsimp only;rw [hv]);exact ⟨rfl,f_⟩);(obtain ⟨vg,rfl,zK⟩:=Ii.ok hv;have I6:=ah (I5.out.bg hM.out.1 hM.out.2.1 vg zK);have fin:Hid (bP ex pr en l=.ok (p,r2)):=(by unfold Hid;rw [er.out,HU.out];dsimp only;rw [hv]);clear vg zK Ii hv))
 obtain ⟨x0,x1,x2,x3,x4,_⟩:=I6.out.five.cells
 obtain ⟨z0,z1,z2,z3,z4,zf⟩:=I6.out.zero.cells
 have xW:=zf 0;have xX:=zf 1;have xY:=zf 2;have yH:=zf 3;have yI:=zf 4
 clear zf
 go_wp2_with fail
 exact kK 2 rfl rfl (I6.out.zero.bI _ _ _ _ _) (I6.out.fin hM.out.1 hM.out.2.2.1 hM.out.2.2.2 hN fin.out)
end Go.Proofs.YtefjbnhpjdhjmaaGreatDoor

namespace Go.Proofs.YtefjbnhpjdhjmaaGreatDoor
set_option linter.all false
open Go.RowKit
set_option maxRecDepth 100000
set_option maxHeartbeats 8000000
theorem Gy {N T en d M2:Nat} {w w3:World} {k n:Int} {tx nm:aj} {r:List aF} {res:cO aA} {z0 z1 z2 z3 z4:Value} (Z:dJ M2 z0 z1 z2 z3 z4 w3) (K:Kept (· = N) w w3) (R:fA N T en r d w3) (hM:M2=w.heap.size) (hN:N<w.heap.size) (hT:T<w.heap.size)
  (htx:tx.size<1000000000) (hnm:nm.size<1000000000) (hr:res=.ok (.mk k tx n nm [],r)) :
  XQ N T en d res w (.returned (.agg #[.int .i64 k,.string tx,.int .i64 n,.string nm,.slice none 0 0])) (bI w3 M2 (.int .i64 k) (.string tx) (.int .i64 n) (.string nm) (.slice none 0 0)):=by
 subst hr
 have k7:Kept (· = M2) w3 (bI w3 M2 (.int .i64 k) (.string tx) (.int .i64 n) (.string nm) (.slice none 0 0)):=(Kept.refl (· = M2) w3).bI (.inl rfl) _ _ _ _ _
 exact ⟨K.step k7 (fun y hy=>.inr (by omega)),⟨_,rfl,aC,fun b hb=>hb.elim,none,0,rfl,⟨htx,hnm,by simp [aA.kids]⟩,by show aI _ aC none [];unfold aI;trivial⟩,R.kept k7 (by omega) (by omega) (by have:=R.mF;omega)⟩
theorem Cb {k:Int} {en:Nat} {t:aF} {r:List aF} (h:t.kind=k):gU k en (t::r)=.ok (t,r):=if_pos h
theorem qJ {x:aj} {t:aF} {r:List aF} (h:t.kind≠5):aJ x (t::r)=false:=au (fun h2=>h h2.1)
theorem Rx {N T en d:Nat} {ex pr:List aF→cO aA} {t:aF} {r:List aF} {w:World} (h:fA N T en (t::r) d w) (hk:t.kind=3):Calls Tryz.prog 119 #[.pointer (some ⟨N,0,none⟩)] w (XQ N T en d (bP ex pr en (t::r)) w):=by
 have er:Hid (bP ex pr en (t::r)=.ok (.mk 1 t.text 0 E0 [],r)):=by unfold Hid bP;rw [qJ (by omega),qJ (by omega),Cb hk];rfl
 have hfld:∀wx,(Instr.field 94 (.agg #[.int .i64 t.kind,.string t.text,.int .i64 t.at_]) 1).run Tryz.prog wx=.ok (.string t.text) wx:=fun _=>by kernel_rfl
 have S1:Hid (aJ ⟨#[40]⟩ (t::r)=false):=qJ (by omega)
 have S2:Hid (aJ ⟨#[36]⟩ (t::r)=false):=qJ (by omega)
 have TK:Hid (gU 3 en (t::r)=.ok (t,r)):=Cb hk
 have HK:=ah hk
 have htb:Hid (t.text.size<1000000000):=by obtain ⟨_,_,_,h⟩:=h;have:=(h.good t (List.mem_cons_self ..)).2.1;unfold Hid;omega
 obtain ⟨hN,hT,hne,h7⟩:=h.mF
 obtain ⟨w0,hw0⟩:∃w0,w0=w.alloc (.cells #[.int .i64 0,.string ⟨#[]⟩,.int .i64 0,.string ⟨#[]⟩,.slice none 0 0] 24):=⟨_,rfl⟩
 have k0:Kept aC w w0:=by rw [hw0];exact (Kept.refl _ _).alloc _
 obtain ⟨M2,hM2⟩:∃M,M=w.heap.size:=⟨_,rfl⟩
 have Z0:Hid (dJ M2 (.int .i64 0) (.string ⟨#[]⟩) (.int .i64 0) (.string ⟨#[]⟩) (.slice none 0 0) w0):=by rw [hw0,hM2];exact ay w _
 have R0:=ah (h.kept k0 (fun h=>h) (fun h=>h))
 have K0:Hid (Kept (· = N) w w0):=k0.more (fun _ h=>h.elim)
 have HW0:=ah hw0;have dB:=ah hM2
 clear k0 hw0 hM2 h hk
 go_enter Tryz.func119, Tryz.ntmps119
 go_upto_region 1 with fail
 rw [←HW0.out,←dB.out]
 go_upto_region 12 with (first
  | (go_at_call 51;(with_reducible refine (iy ⟨#[40]⟩ R0.out S1.out).mono ?_);rintro e w1 ⟨rfl,gK,eF⟩;have R1:=ah gK;have K1:Hid (Kept (· = N) w w1):=K0.out.trans eF;have Z1:=ah (Z0.out.kept eF (by have:=dB.out;omega));clear gK eF)
  | (go_at_call 51;(with_reducible refine (iy ⟨#[36]⟩ R1.out S2.out).mono ?_);rintro e w2 ⟨rfl,kU,iw⟩;have R2:=ah kU;have K2:Hid (Kept (· = N) w w2):=K1.out.trans iw;have Z2:=ah (Z1.out.kept iw (by have:=dB.out;omega));clear kU iw))
 obtain ⟨n2,a2,c2,hP⟩:=R2.out
 obtain ⟨c0,c1,cd,cf⟩:=hP.c0
 have hn:=hP.num
 rw [List.length_cons] at hn
 have h0:0<n2:=by omega
 have h1:(0:Int)<(n2:Int):=by omega
 have z:decide ((0:Int)<(n2:Int))=true:=ak h1
 have z':decide (0<n2)=true:=ak h0
 obtain ⟨o,rfl,t0,t1,t2⟩:=hP.head
 have y:(t.kind==3)=true:=by simpa using HK.out
 clear hn hP cf
 go_upto_region 13 with fail
 clear c0 c1 cd t0 t1 t2 y z z'
 go_wp2_with (go_at_call 77;(refine (uY 3 R2.out).mono ?_);intro e w3 iD;obtain ⟨eu,DZ,lD⟩:=iD.ok TK.out;unfold DW at DZ;subst DZ;have R3:=ah lD;have K3:Hid (Kept (· = N) w w3):=K2.out.trans eu;have Z3:=ah (Z2.out.kept eu (by have:=dB.out;omega));obtain ⟨z0,z1,z2,z3,z4,zf⟩:=Z3.out.cells;have xW:=zf 0;have xX:=zf 1;have xY:=zf 2;have yH:=zf 3;have yI:=zf 4;clear zf lD eu iD)
 exact kK 2 rfl rfl (Z3.out.bI _ _ _ _ _) (Gy Z3.out K3.out R3.out dB.out hN hT htb.out (by decide) er.out)
end Go.Proofs.YtefjbnhpjdhjmaaGreatDoor

namespace Go.Proofs.YtefjbnhpjdhjmaaGreatDoor
set_option linter.all false
open Go.RowKit
set_option maxRecDepth 100000
set_option maxHeartbeats 8000000
theorem Ij {x y:aj} {l:List aF} (h:aJ x l=true) (hne:x≠y):aJ y l=false:=by
 cases l with
 | nil=>rfl
 | cons t r=>exact au (fun h2=>hne ((of_decide_eq_true h).2.symm.trans h2.2))
theorem je.abO {N T en d M4 M5:Nat} {w:World} {x:aA} {ka:Option Addr} {cap:Nat} {l:List aF} {wx:World} (h:je N T en d M4 M5 w x ka cap l wx) (hn4:N≠M4) (Ai:N≠M5) (d2:Nat):je N T en d2 M4 M5 w x ka cap l (wx.setCell ⟨N,2,none⟩ (.int .i64 (d2:Int))):=by
 obtain ⟨h1,h2,⟨S,h3,h4⟩,h5,h6,h7⟩:=h
 have hk:Kept (· = N) wx (wx.setCell ⟨N,2,none⟩ (.int .i64 (d2:Int))):=(Kept.refl (· = N) wx).setCell (p:=⟨N,2,none⟩) (.inl rfl) _
 exact ⟨h1.qy d2,h2.kept hk (Ne.symm Ai),⟨S,h3.kept hk (fun b hb=>⟨(h4 b hb).2.1,(h4 b hb).2.2.2.2⟩),fun b hb=>by have:=h4 b hb;have:=hk.size;omega⟩,h5,h6.kept hk (Ne.symm hn4),h7.trans hk⟩
theorem JA {N T en d:Nat} {ex pr:List aF→cO aA} {l:List aF} {w:World} (h:fA N T en l d w) (hd:d=400) (hs:aJ (bs [36]) l=true):Calls Tryz.prog 119 #[.pointer (some ⟨N,0,none⟩)] w (XQ N T en d (bP ex (fun l=>.error (4,fO en l)) en l) w):=by
 have S1:Hid (aJ ⟨#[40]⟩ l=false):=Ij hs (by decide)
 have er:Hid (bP ex (fun l=>.error (4,fO en l)) en l=.error (4,fO en l.tail)):=by unfold Hid bP;rw [show aJ (bs [40]) l=false from S1.out,hs];rfl
 have S2:Hid (aJ ⟨#[36]⟩ l=true):=hs
 obtain ⟨lr,hlr⟩:∃lr,lr=l.tail:=⟨_,rfl⟩
 rw [←hlr] at er
 have HLR:=ah hlr
 obtain ⟨d1,hd1⟩:∃d1:Nat,d1=d+1:=⟨_,rfl⟩
 have hdi:(d:Int)+1=(d1:Int):=by omega
 have g1:decide ((400:Int)<(d1:Int))=true:=ak (by omega)
 have g2:decide (400<d1)=true:=ak (by omega)
 have hb:d1≤1000:=by omega
 obtain ⟨hN,hT,hne,h7⟩:=h.mF
 obtain ⟨w0,hw0⟩:∃w0,w0=w.alloc (.cells #[.int .i64 0,.string ⟨#[]⟩,.int .i64 0,.string ⟨#[]⟩,.slice none 0 0] 24):=⟨_,rfl⟩
 have k0:Kept aC w w0:=by rw [hw0];exact (Kept.refl _ _).alloc _
 obtain ⟨M2,hM2⟩:∃M,M=w.heap.size:=⟨_,rfl⟩
 have Z0:Hid (dJ M2 (.int .i64 0) (.string ⟨#[]⟩) (.int .i64 0) (.string ⟨#[]⟩) (.slice none 0 0) w0):=by rw [hw0,hM2];exact ay w _
 have R0:=ah (h.kept k0 (fun h=>h) (fun h=>h))
 have K0:Hid (Kept (· = N) w w0):=k0.more (fun _ h=>h.elim)
 have HW0:=ah hw0;have dB:=ah hM2
 clear k0 hw0 hM2 h hs hlr hd hd1
 go_enter Tryz.func119, Tryz.ntmps119
 go_upto_region 1 with fail
 rw [←HW0.out,←dB.out]
 go_upto_region 6 with (first
  | (go_at_call 51;(with_reducible refine (iy ⟨#[40]⟩ R0.out S1.out).mono ?_);rintro e w1 ⟨rfl,gK,eF⟩;have R1:=ah gK;have K1:Hid (Kept (· = N) w w1):=K0.out.trans eF;have Z1:=ah (Z0.out.kept eF (by have:=dB.out;omega));clear gK eF)
  | (go_at_call 51;(with_reducible refine (nS ⟨#[36]⟩ R1.out S2.out).mono ?_);rintro e w2 ⟨rfl,kU,iw⟩;have R2:=ah kU;have K2:Hid (Kept (· = N) w w2):=K1.out.trans iw;have Z2:=ah (Z1.out.kept iw (by have:=dB.out;omega));obtain ⟨q2,qK⟩:=kU.deep;clear kU iw))
 go_upto_region 7 with fail
 obtain ⟨w3,hw3⟩:∃w3,w3=w2.setCell ⟨N,2,none⟩ (.int .i64 (d1:Int)):=⟨_,rfl⟩
 have r3:=R2.out.qy d1
 rw [←hw3] at r3⊢
 rw [←HLR.out] at r3
 have k3:Kept (· = N) w2 w3:=by rw [hw3];exact (Kept.refl (· = N) w2).setCell (p:=⟨N,2,none⟩) (.inl rfl) _
 have K3:=ah k3
 clear hw3 k3 q2 qK
 obtain ⟨q2,qK⟩:=r3.deep
 obtain ⟨n3,a3,c3,r3⟩:=r3
 have HA:=ah (o8 r3)
 clear r3
 go_wp2_with (first
  | (go_at_call 54;(refine HA.out.mono ?_);rintro e w' ⟨rfl,aQ⟩;obtain rfl:=aQ.symm)
  | (go_at_call 53;(refine (fG _ 4 (fO en lr) w3).mono ?_);rintro e w4 ⟨rfl,rfl⟩))
 exact ⟨rfl,XQ.thrown K2.out K3.out er.out⟩
theorem JB {N T en d:Nat} {ex pr:List aF→cO aA} {l:List aF} {w:World} (hd:d<400) (HP:JC N T en (d+1) pr) (h:fA N T en l d w) (hs:aJ (bs [36]) l=true):Calls Tryz.prog 119 #[.pointer (some ⟨N,0,none⟩)] w (XQ N T en d (bP ex pr en l) w):=by
 have S1:Hid (aJ ⟨#[40]⟩ l=false):=Ij hs (by decide)
 have er:Hid (bP ex pr en l=match pr l.tail with | .error er=>.error er | .ok (x,r)=>.ok (node1 5 x,r)):=by unfold Hid bP;rw [show aJ (bs [40]) l=false from S1.out,hs];rfl
 have S2:Hid (aJ ⟨#[36]⟩ l=true):=hs
 obtain ⟨lr,hlr⟩:∃lr,lr=l.tail:=⟨_,rfl⟩
 rw [←hlr] at er
 have HLR:=ah hlr
 obtain ⟨d1,hd1⟩:∃d1:Nat,d1=d+1:=⟨_,rfl⟩
 have hdi:(d:Int)+1=(d1:Int):=by omega
 rw [←hd1] at HP
 have g1:decide ((400:Int)<(d1:Int))=false:=au (by omega)
 have g2:decide (400<d1)=false:=au (by omega)
 have hb:d1≤1000:=by omega
 have hb1:1≤d1:=by omega
 have hdj:(d1:Int)-1=(d:Int):=by omega
 have UU:=ah HP
 obtain ⟨hN,hT,hne,h7⟩:=h.mF
 obtain ⟨w0,hw0⟩:∃w0,w0=w.alloc (.cells #[.int .i64 0,.string ⟨#[]⟩,.int .i64 0,.string ⟨#[]⟩,.slice none 0 0] 24):=⟨_,rfl⟩
 have k0:Kept aC w w0:=by rw [hw0];exact (Kept.refl _ _).alloc _
 obtain ⟨M2,hM2⟩:∃M,M=w.heap.size:=⟨_,rfl⟩
 have Z0:Hid (dJ M2 (.int .i64 0) (.string ⟨#[]⟩) (.int .i64 0) (.string ⟨#[]⟩) (.slice none 0 0) w0):=by rw [hw0,hM2];exact ay w _
 have R0:=ah (h.kept k0 (fun h=>h) (fun h=>h))
 have K0:Hid (Kept (· = N) w w0):=k0.more (fun _ h=>h.elim)
 have HW0:=ah hw0;have dB:=ah hM2
 clear k0 hw0 hM2 h hs hlr hd hd1 HP
 go_enter Tryz.func119, Tryz.ntmps119
 go_upto_region 1 with fail
 rw [←HW0.out,←dB.out]
 go_upto_region 6 with (first
  | (go_at_call 51;(with_reducible refine (iy ⟨#[40]⟩ R0.out S1.out).mono ?_);rintro e w1 ⟨rfl,gK,eF⟩;have R1:=ah gK;have K1:Hid (Kept (· = N) w w1):=K0.out.trans eF;have Z1:=ah (Z0.out.kept eF (by have:=dB.out;omega));clear gK eF)
  | (go_at_call 51;(with_reducible refine (nS ⟨#[36]⟩ R1.out S2.out).mono ?_);rintro e w2 ⟨rfl,kU,iw⟩;have R2:=ah kU;have K2:Hid (Kept (· = N) w w2):=K1.out.trans iw;have Z2:=ah (Z1.out.kept iw (by have:=dB.out;omega));obtain ⟨q2,qK⟩:=kU.deep;clear kU iw))
 go_upto_region 7 with fail
 obtain ⟨w3,hw3⟩:∃w3,w3=w2.setCell ⟨N,2,none⟩ (.int .i64 (d1:Int)):=⟨_,rfl⟩
 have r3:=R2.out.qy d1
 rw [←hw3] at r3⊢
 rw [←HLR.out] at r3
 have k3:Kept (· = N) w2 w3:=by rw [hw3];exact (Kept.refl (· = N) w2).setCell (p:=⟨N,2,none⟩) (.inl rfl) _
 have K3:Hid (Kept (· = N) w w3):=K2.out.trans k3
 have Z3:=ah (Z2.out.kept k3 (by have:=dB.out;omega))
 have R3:=ah r3
 clear hw3 k3 q2 qK
 obtain ⟨q2,qK⟩:=r3.deep
 clear r3
 cases hu:pr lr with
 | error e0 =>
  go_wp2_with (go_at_call 119;(refine (UU.out lr w3 R3.out).mono ?_);intro e w4 UW;obtain ⟨KD,rfl⟩:=UW.bad hu;have K4:=ah KD;clear KD UW)
  exact ⟨rfl,XQ.thrown K3.out K4.out (by rw [er.out,hu])⟩
 | ok x =>
  obtain ⟨p,r⟩:=x
  have sO:Hid (bP ex pr en l=.ok (node1 5 p,r)):=by unfold Hid;rw [er.out,hu]
  clear er
  go_upto_region 10 with (go_at_call 119;(refine (UU.out lr w3 R3.out).mono ?_);intro e w4 UW;obtain ⟨KD,r4_,S,ka,cap,rfl,gy,iL,fJ⟩:=UW.ok hu;have I5:=ah (je.abM (w1:=w3) (cap:=cap) 5 (Z3.out.kept KD (by have:=dB.out;omega)) (K3.out.trans KD) r4_ gy iL fJ hN K3.out.size Z3.out.lt KD.size);have HL4:Hid (w.heap.size<w4.heap.size):=(by have:=Z3.out.lt;have:=dB.out;have:=KD.size;unfold Hid;omega);clear KD r4_ gy iL fJ UW)
  obtain ⟨w5,hw5⟩:∃w5,w5=(w4.alloc (.cells #[.int .i64 p.kind,.string p.text,.int .i64 p.n,.string p.name,.slice ka p.kids.length cap] 24)).alloc (.cells #[.int .i64 5,.string ⟨#[]⟩,.int .i64 0,.string ⟨#[]⟩,.slice (some ⟨w4.heap.size,0,none⟩) 1 1] 24):=⟨_,rfl⟩
  rw [←hw5] at I5⊢
  obtain ⟨B,hB⟩:∃B,B=w4.heap.size:=⟨_,rfl⟩
  rw [←hB] at I5 HL4⊢
  clear hw5 hB q2 qK
  obtain ⟨q2,qK⟩:=I5.out.bY.deep
  have hM:Hid (N≠M2∧N≠B+1∧T≠M2∧w.heap.size≤M2):=by have:=dB.out;have:=HL4.out;unfold Hid;omega
  go_upto_region 11 with fail
  have I6:=ah (I5.out.abO hM.out.1 hM.out.2.1 d)
  obtain ⟨w6,hw6⟩:∃w6,w6=w5.setCell ⟨N,2,none⟩ (.int .i64 (d:Int)):=⟨_,rfl⟩
  rw [←hw6] at I6⊢
  clear hw6 q2 qK
  obtain ⟨x0,x1,x2,x3,x4,_⟩:=I6.out.five.cells
  obtain ⟨z0,z1,z2,z3,z4,zf⟩:=I6.out.zero.cells
  have xW:=zf 0;have xX:=zf 1;have xY:=zf 2;have yH:=zf 3;have yI:=zf 4
  clear zf
  go_wp2_with fail
  exact kK 2 rfl rfl (I6.out.zero.bI _ _ _ _ _) (I6.out.fin hM.out.1 hM.out.2.2.1 hM.out.2.2.2 hN sO.out)
end Go.Proofs.YtefjbnhpjdhjmaaGreatDoor

namespace Go.Proofs.YtefjbnhpjdhjmaaGreatDoor
set_option linter.all false
open Go.RowKit
set_option maxRecDepth 100000
set_option maxHeartbeats 8000000
theorem kL {en:Nat} {l r:List aF} {x:aj} (h:fP en l=.ok (x,r)):x.size≤16:=by
 unfold fP at h
 split at h
 ·cases h
 ·split at h
  ·cases h
  ·simp only [Except.ok.injEq,Prod.mk.injEq] at h;obtain ⟨rfl,_⟩:=h;omega
theorem UY {N T en d:Nat} {ex pr:List aF→cO aA} {w:World} (h:fA N T en [] d w):Calls Tryz.prog 119 #[.pointer (some ⟨N,0,none⟩)] w (XQ N T en d (bP ex pr en []) w):=by
 have er:Hid (bP ex pr en []=.error (2,en)):=rfl
 have S1:Hid (aJ ⟨#[40]⟩ ([]:List aF)=false):=rfl
 have S2:Hid (aJ ⟨#[36]⟩ ([]:List aF)=false):=rfl
 obtain ⟨hN,hT,hne,h7⟩:=h.mF
 obtain ⟨w0,hw0⟩:∃w0,w0=w.alloc (.cells #[.int .i64 0,.string ⟨#[]⟩,.int .i64 0,.string ⟨#[]⟩,.slice none 0 0] 24):=⟨_,rfl⟩
 have k0:Kept aC w w0:=by rw [hw0];exact (Kept.refl _ _).alloc _
 obtain ⟨M2,hM2⟩:∃M,M=w.heap.size:=⟨_,rfl⟩
 have Z0:Hid (dJ M2 (.int .i64 0) (.string ⟨#[]⟩) (.int .i64 0) (.string ⟨#[]⟩) (.slice none 0 0) w0):=by rw [hw0,hM2];exact ay w _
 have R0:=ah (h.kept k0 (fun h=>h) (fun h=>h))
 have K0:Hid (Kept (· = N) w w0):=k0.more (fun _ h=>h.elim)
 have HW0:=ah hw0;have dB:=ah hM2
 clear k0 hw0 hM2 h
 go_enter Tryz.func119, Tryz.ntmps119
 go_upto_region 1 with fail
 rw [←HW0.out,←dB.out]
 go_upto_region 12 with (first
  | (go_at_call 51;(with_reducible refine (iy ⟨#[40]⟩ R0.out S1.out).mono ?_);rintro e w1 ⟨rfl,gK,eF⟩;have R1:=ah gK;have K1:Hid (Kept (· = N) w w1):=K0.out.trans eF;have Z1:=ah (Z0.out.kept eF (by have:=dB.out;omega));clear gK eF)
  | (go_at_call 51;(with_reducible refine (iy ⟨#[36]⟩ R1.out S2.out).mono ?_);rintro e w2 ⟨rfl,kU,iw⟩;have R2:=ah kU;have K2:Hid (Kept (· = N) w w2):=K1.out.trans iw;have Z2:=ah (Z1.out.kept iw (by have:=dB.out;omega));clear kU iw))
 obtain ⟨n2,a2,c2,hP⟩:=R2.out
 obtain ⟨c0,c1,cd,cf⟩:=hP.c0
 have hn:=hP.num
 have z:decide ((0:Int)<(n2:Int))=false:=by rw [hn];rfl
 have z':decide (0<n2)=false:=by rw [hn];rfl
 clear hn hP cf
 go_wp2_with (go_at_call 48;(refine (iQ R2.out).mono ?_);intro e w3 iD;obtain ⟨eu,rfl⟩:=iD.bad (er:=(2,en)) rfl;have K3:=ah eu;clear eu iD)
 exact ⟨rfl,XQ.thrown K2.out K3.out er.out⟩
theorem JE {N T en d:Nat} {ex pr:List aF→cO aA} {t:aF} {r:List aF} {w:World} (h:fA N T en (t::r) d w) (hk:t.kind≠3∧t.kind≠2) (hs1:aJ (bs [40]) (t::r)=false) (hs2:aJ (bs [36]) (t::r)=false) {e0:Er} (hnm:fP en (t::r)=.error e0):Calls Tryz.prog 119 #[.pointer (some ⟨N,0,none⟩)] w (XQ N T en d (bP ex pr en (t::r)) w):=by
 have er:Hid (bP ex pr en (t::r)=match fP en (t::r) with
    | .error er=>.error er
    | .ok (nm,r) =>
     if aJ (bs [60]) r=true then
      match ex r.tail with
      | .error er=>.error er
      | .ok (x,r2)=>match gI (bs [62]) en r2 with
       | .error er=>.error er
       | .ok r3=>.ok (.mk 4 E0 0 nm [x],r3)
     else if aJ (bs [40]) r=true then
      if aJ (bs [41]) r.tail=true then .ok (.mk 6 E0 0 nm [],r.tail.tail)
      else match mX ex en 9 [] r.tail with
       | .error er=>.error er
       | .ok (ks,r2)=>.ok (.mk 6 E0 0 nm ks,r2)
     else .ok (.mk 3 E0 0 nm [],r)):=by unfold Hid bP;rw [hs1,hs2];simp only [gU,hk.1,hk.2,if_false,Bool.false_eq_true];rfl
 have S1:Hid (aJ ⟨#[40]⟩ (t::r)=false):=hs1;have S2:Hid (aJ ⟨#[36]⟩ (t::r)=false):=hs2;have HK:=ah hk
 have Aj:=ah hnm
 obtain ⟨hN,hT,hne,h7⟩:=h.mF
 obtain ⟨w0,hw0⟩:∃w0,w0=w.alloc (.cells #[.int .i64 0,.string ⟨#[]⟩,.int .i64 0,.string ⟨#[]⟩,.slice none 0 0] 24):=⟨_,rfl⟩
 have k0:Kept aC w w0:=by rw [hw0];exact (Kept.refl _ _).alloc _
 obtain ⟨M2,hM2⟩:∃M,M=w.heap.size:=⟨_,rfl⟩
 have Z0:Hid (dJ M2 (.int .i64 0) (.string ⟨#[]⟩) (.int .i64 0) (.string ⟨#[]⟩) (.slice none 0 0) w0):=by rw [hw0,hM2];exact ay w _
 have R0:=ah (h.kept k0 (fun h=>h) (fun h=>h))
 have K0:Hid (Kept (· = N) w w0):=k0.more (fun _ h=>h.elim)
 have HW0:=ah hw0;have dB:=ah hM2
 clear k0 hw0 hM2 h hk hs1 hs2 hnm
 go_enter Tryz.func119, Tryz.ntmps119
 go_upto_region 1 with fail
 rw [←HW0.out,←dB.out]
 go_upto_region 12 with (first
  | (go_at_call 51;(with_reducible refine (iy ⟨#[40]⟩ R0.out S1.out).mono ?_);rintro e w1 ⟨rfl,gK,eF⟩;have R1:=ah gK;have K1:Hid (Kept (· = N) w w1):=K0.out.trans eF;have Z1:=ah (Z0.out.kept eF (by have:=dB.out;omega));clear gK eF)
  | (go_at_call 51;(with_reducible refine (iy ⟨#[36]⟩ R1.out S2.out).mono ?_);rintro e w2 ⟨rfl,kU,iw⟩;have R2:=ah kU;have K2:Hid (Kept (· = N) w w2):=K1.out.trans iw;have Z2:=ah (Z1.out.kept iw (by have:=dB.out;omega));clear kU iw))
 obtain ⟨n2,a2,c2,hP⟩:=R2.out
 obtain ⟨c0,c1,cd,cf⟩:=hP.c0
 have hn:=hP.num
 rw [List.length_cons] at hn
 have h0:0<n2:=by omega
 have h1:(0:Int)<(n2:Int):=by omega
 have z:decide ((0:Int)<(n2:Int))=true:=ak h1
 have z':decide (0<n2)=true:=ak h0
 obtain ⟨o,rfl,t0,t1,t2⟩:=hP.head
 have y3:(t.kind==3)=false:=by simpa using HK.out.1
 have y2:(t.kind==2)=false:=by simpa using HK.out.2
 clear hn hP cf
 go_upto_region 22 with fail
 clear c0 c1 cd t0 t1 t2 y3 y2 z z'
 go_wp2_with (go_at_call 48;(refine (iQ R2.out).mono ?_);intro e w3 iD;obtain ⟨eu,rfl⟩:=iD.bad Aj.out;have K3:=ah eu;clear eu iD)
 exact ⟨rfl,XQ.thrown K2.out K3.out (by rw [er.out,Aj.out])⟩
theorem Ry {N T en d:Nat} {ex pr:List aF→cO aA} {t:aF} {r:List aF} {w:World} (h:fA N T en (t::r) d w) (hk:t.kind≠3∧t.kind≠2) (hs1:aJ (bs [40]) (t::r)=false) (hs2:aJ (bs [36]) (t::r)=false) {nm:aj} {r1:List aF} (hnm:fP en (t::r)=.ok (nm,r1)) (hs3:aJ (bs [60]) r1=false) (hs4:aJ (bs [40]) r1=false):Calls Tryz.prog 119 #[.pointer (some ⟨N,0,none⟩)] w (XQ N T en d (bP ex pr en (t::r)) w):=by
 have er:Hid (bP ex pr en (t::r)=match fP en (t::r) with
    | .error er=>.error er
    | .ok (nm,r) =>
     if aJ (bs [60]) r=true then
      match ex r.tail with
      | .error er=>.error er
      | .ok (x,r2)=>match gI (bs [62]) en r2 with
       | .error er=>.error er
       | .ok r3=>.ok (.mk 4 E0 0 nm [x],r3)
     else if aJ (bs [40]) r=true then
      if aJ (bs [41]) r.tail=true then .ok (.mk 6 E0 0 nm [],r.tail.tail)
      else match mX ex en 9 [] r.tail with
       | .error er=>.error er
       | .ok (ks,r2)=>.ok (.mk 6 E0 0 nm ks,r2)
     else .ok (.mk 3 E0 0 nm [],r)):=by unfold Hid bP;rw [hs1,hs2];simp only [gU,hk.1,hk.2,if_false,Bool.false_eq_true];rfl
 have S1:Hid (aJ ⟨#[40]⟩ (t::r)=false):=hs1;have S2:Hid (aJ ⟨#[36]⟩ (t::r)=false):=hs2;have HK:=ah hk
 have sO:Hid (bP ex pr en (t::r)=.ok (.mk 3 E0 0 nm [],r1)):=by unfold Hid;rw [er.out,hnm];simp only [hs3,hs4,if_false,Bool.false_eq_true]
 have Aj:=ah hnm;have S3:Hid (aJ ⟨#[60]⟩ r1=false):=hs3;have S4:Hid (aJ ⟨#[40]⟩ r1=false):=hs4
 obtain ⟨hN,hT,hne,h7⟩:=h.mF
 obtain ⟨w0,hw0⟩:∃w0,w0=w.alloc (.cells #[.int .i64 0,.string ⟨#[]⟩,.int .i64 0,.string ⟨#[]⟩,.slice none 0 0] 24):=⟨_,rfl⟩
 have k0:Kept aC w w0:=by rw [hw0];exact (Kept.refl _ _).alloc _
 obtain ⟨M2,hM2⟩:∃M,M=w.heap.size:=⟨_,rfl⟩
 have Z0:Hid (dJ M2 (.int .i64 0) (.string ⟨#[]⟩) (.int .i64 0) (.string ⟨#[]⟩) (.slice none 0 0) w0):=by rw [hw0,hM2];exact ay w _
 have R0:=ah (h.kept k0 (fun h=>h) (fun h=>h))
 have K0:Hid (Kept (· = N) w w0):=k0.more (fun _ h=>h.elim)
 have HW0:=ah hw0;have dB:=ah hM2
 clear k0 hw0 hM2 h hk hs1 hs2 hnm hs3 hs4 er
 go_enter Tryz.func119, Tryz.ntmps119
 go_upto_region 1 with fail
 rw [←HW0.out,←dB.out]
 go_upto_region 12 with (first
  | (go_at_call 51;(with_reducible refine (iy ⟨#[40]⟩ R0.out S1.out).mono ?_);rintro e w1 ⟨rfl,gK,eF⟩;have R1:=ah gK;have K1:Hid (Kept (· = N) w w1):=K0.out.trans eF;have Z1:=ah (Z0.out.kept eF (by have:=dB.out;omega));clear gK eF)
  | (go_at_call 51;(with_reducible refine (iy ⟨#[36]⟩ R1.out S2.out).mono ?_);rintro e w2 ⟨rfl,kU,iw⟩;have R2:=ah kU;have K2:Hid (Kept (· = N) w w2):=K1.out.trans iw;have Z2:=ah (Z1.out.kept iw (by have:=dB.out;omega));clear kU iw))
 obtain ⟨n2,a2,c2,hP⟩:=R2.out
 obtain ⟨c0,c1,cd,cf⟩:=hP.c0
 have hn:=hP.num
 rw [List.length_cons] at hn
 have h0:0<n2:=by omega
 have h1:(0:Int)<(n2:Int):=by omega
 have z:decide ((0:Int)<(n2:Int))=true:=ak h1
 have z':decide (0<n2)=true:=ak h0
 obtain ⟨o,rfl,t0,t1,t2⟩:=hP.head
 have y3:(t.kind==3)=false:=by simpa using HK.out.1
 have y2:(t.kind==2)=false:=by simpa using HK.out.2
 clear hn hP cf
 go_upto_region 22 with fail
 clear c0 c1 cd t0 t1 t2 y3 y2 z z'
 go_upto_region 23 with (go_at_call 48;(refine (iQ R2.out).mono ?_);intro e w3 iD;obtain ⟨eu,rfl,lD⟩:=iD.ok Aj.out;have R3:=ah lD;have K3:Hid (Kept (· = N) w w3):=K2.out.trans eu;have Z3:=ah (Z2.out.kept eu (by have:=dB.out;omega));clear eu lD iD)
 have I4:Hid (je N T en d M2 w3.heap.size w (.mk 3 E0 0 nm []) none 0 r1 (w3.alloc (.cells #[.int .i64 3,.string ⟨#[]⟩,.int .i64 0,.string nm,.slice none 0 0] 24))):=je.start (w1:=w3) (p:=.mk 3 E0 0 nm []) (ka:=none) (cap:=0) (S:=aC) Z3.out K3.out R3.out (fun b hb=>hb.elim) ⟨by show E0.size<_;decide,by show nm.size<_;have:=kL Aj.out;omega,by show 0<_;decide⟩ (by show aI _ aC none [];unfold aI;trivial) hN K3.out.size Z3.out.lt
 have hsz:Hid (w.heap.size<w3.heap.size):=by have:=Z3.out.lt;have:=dB.out;unfold Hid;omega
 obtain ⟨w4,hw4⟩:∃w4,w4=w3.alloc (.cells #[.int .i64 3,.string ⟨#[]⟩,.int .i64 0,.string nm,.slice none 0 0] 24):=⟨_,rfl⟩
 obtain ⟨M5,qh⟩:∃M,M=w3.heap.size:=⟨_,rfl⟩
 rw [←hw4,←qh] at I4
 rw [←hw4,←qh]
 rw [←qh] at hsz
 have hM:Hid (N≠M2∧N≠M5∧T≠M2∧w.heap.size≤M2∧M2<M5):=by have:=dB.out;have:=hsz.out;unfold Hid;omega
 clear hw4 qh
 go_upto_region 36 with (first
  | (go_at_call 51;(with_reducible refine (iy ⟨#[60]⟩ I4.out.bY S3.out).mono ?_);rintro e w5 ⟨rfl,D5,xQ⟩;have I5:=ah (I4.out.bg hM.out.1 (by have:=hM.out;omega) xQ D5);clear D5 xQ)
  | (go_at_call 51;(with_reducible refine (iy ⟨#[40]⟩ I5.out.bY S4.out).mono ?_);rintro e w6 ⟨rfl,zK,vg⟩;have I6:=ah (I5.out.bg hM.out.1 (by have:=hM.out;omega) vg zK);clear zK vg))
 obtain ⟨x0,x1,x2,x3,x4,_⟩:=I6.out.five.cells
 obtain ⟨z0,z1,z2,z3,z4,zf⟩:=I6.out.zero.cells
 have xW:=zf 0;have xX:=zf 1;have xY:=zf 2;have yH:=zf 3;have yI:=zf 4
 clear zf
 go_wp2_with fail
 exact kK 2 rfl rfl (I6.out.zero.bI _ _ _ _ _) (I6.out.fin hM.out.1 hM.out.2.2.1 hM.out.2.2.2.1 hN sO.out)
theorem Rz {N T en d:Nat} {ex pr:List aF→cO aA} {t:aF} {r:List aF} {w:World} (h:fA N T en (t::r) d w) (hk:t.kind≠3∧t.kind≠2) (hs1:aJ (bs [40]) (t::r)=false) (hs2:aJ (bs [36]) (t::r)=false) {nm:aj} {r1:List aF} (hnm:fP en (t::r)=.ok (nm,r1)) (HE:Gx N T en d ex) (hs3:aJ (bs [60]) r1=true):Calls Tryz.prog 119 #[.pointer (some ⟨N,0,none⟩)] w (XQ N T en d (bP ex pr en (t::r)) w):=by
 have er:Hid (bP ex pr en (t::r)=match fP en (t::r) with
    | .error er=>.error er
    | .ok (nm,r) =>
     if aJ (bs [60]) r=true then
      match ex r.tail with
      | .error er=>.error er
      | .ok (x,r2)=>match gI (bs [62]) en r2 with
       | .error er=>.error er
       | .ok r3=>.ok (.mk 4 E0 0 nm [x],r3)
     else if aJ (bs [40]) r=true then
      if aJ (bs [41]) r.tail=true then .ok (.mk 6 E0 0 nm [],r.tail.tail)
      else match mX ex en 9 [] r.tail with
       | .error er=>.error er
       | .ok (ks,r2)=>.ok (.mk 6 E0 0 nm ks,r2)
     else .ok (.mk 3 E0 0 nm [],r)):=by unfold Hid bP;rw [hs1,hs2];simp only [gU,hk.1,hk.2,if_false,Bool.false_eq_true];rfl
 have S1:Hid (aJ ⟨#[40]⟩ (t::r)=false):=hs1;have S2:Hid (aJ ⟨#[36]⟩ (t::r)=false):=hs2;have HK:=ah hk
 have sO:Hid (bP ex pr en (t::r)=match ex r1.tail with | .error er=>.error er | .ok (x,r2)=>match gI (bs [62]) en r2 with | .error er=>.error er | .ok r3=>.ok (.mk 4 E0 0 nm [x],r3)):=by unfold Hid;rw [er.out,hnm];simp only [hs3,if_true]
 have Aj:=ah hnm;have S3:Hid (aJ ⟨#[60]⟩ r1=true):=hs3;have HEX:=ah HE
 obtain ⟨hN,hT,hne,h7⟩:=h.mF
 obtain ⟨w0,hw0⟩:∃w0,w0=w.alloc (.cells #[.int .i64 0,.string ⟨#[]⟩,.int .i64 0,.string ⟨#[]⟩,.slice none 0 0] 24):=⟨_,rfl⟩
 have k0:Kept aC w w0:=by rw [hw0];exact (Kept.refl _ _).alloc _
 obtain ⟨M2,hM2⟩:∃M,M=w.heap.size:=⟨_,rfl⟩
 have Z0:Hid (dJ M2 (.int .i64 0) (.string ⟨#[]⟩) (.int .i64 0) (.string ⟨#[]⟩) (.slice none 0 0) w0):=by rw [hw0,hM2];exact ay w _
 have R0:=ah (h.kept k0 (fun h=>h) (fun h=>h))
 have K0:Hid (Kept (· = N) w w0):=k0.more (fun _ h=>h.elim)
 have HW0:=ah hw0;have dB:=ah hM2
 clear k0 hw0 hM2 h hk hs1 hs2 hnm hs3 er HE
 go_enter Tryz.func119, Tryz.ntmps119
 go_upto_region 1 with fail
 rw [←HW0.out,←dB.out]
 go_upto_region 12 with (first
  | (go_at_call 51;(with_reducible refine (iy ⟨#[40]⟩ R0.out S1.out).mono ?_);rintro e w1 ⟨rfl,gK,eF⟩;have R1:=ah gK;have K1:Hid (Kept (· = N) w w1):=K0.out.trans eF;have Z1:=ah (Z0.out.kept eF (by have:=dB.out;omega));clear gK eF)
  | (go_at_call 51;(with_reducible refine (iy ⟨#[36]⟩ R1.out S2.out).mono ?_);rintro e w2 ⟨rfl,kU,iw⟩;have R2:=ah kU;have K2:Hid (Kept (· = N) w w2):=K1.out.trans iw;have Z2:=ah (Z1.out.kept iw (by have:=dB.out;omega));clear kU iw))
 obtain ⟨n2,a2,c2,hP⟩:=R2.out
 obtain ⟨c0,c1,cd,cf⟩:=hP.c0
 have hn:=hP.num
 rw [List.length_cons] at hn
 have h0:0<n2:=by omega
 have h1:(0:Int)<(n2:Int):=by omega
 have z:decide ((0:Int)<(n2:Int))=true:=ak h1
 have z':decide (0<n2)=true:=ak h0
 obtain ⟨o,rfl,t0,t1,t2⟩:=hP.head
 have y3:(t.kind==3)=false:=by simpa using HK.out.1
 have y2:(t.kind==2)=false:=by simpa using HK.out.2
 clear hn hP cf
 go_upto_region 22 with fail
 clear c0 c1 cd t0 t1 t2 y3 y2 z z'
 go_upto_region 23 with (go_at_call 48;(refine (iQ R2.out).mono ?_);intro e w3 iD;obtain ⟨eu,rfl,lD⟩:=iD.ok Aj.out;have R3:=ah lD;have K3:Hid (Kept (· = N) w w3):=K2.out.trans eu;have Z3:=ah (Z2.out.kept eu (by have:=dB.out;omega));clear eu lD iD)
 have I4:Hid (je N T en d M2 w3.heap.size w (.mk 3 E0 0 nm []) none 0 r1 (w3.alloc (.cells #[.int .i64 3,.string ⟨#[]⟩,.int .i64 0,.string nm,.slice none 0 0] 24))):=je.start (w1:=w3) (p:=.mk 3 E0 0 nm []) (ka:=none) (cap:=0) (S:=aC) Z3.out K3.out R3.out (fun b hb=>hb.elim) ⟨by show E0.size<_;decide,by show nm.size<_;have:=kL Aj.out;omega,by show 0<_;decide⟩ (by show aI _ aC none [];unfold aI;trivial) hN K3.out.size Z3.out.lt
 have hsz:Hid (w.heap.size<w3.heap.size):=by have:=Z3.out.lt;have:=dB.out;unfold Hid;omega
 obtain ⟨w4,hw4⟩:∃w4,w4=w3.alloc (.cells #[.int .i64 3,.string ⟨#[]⟩,.int .i64 0,.string nm,.slice none 0 0] 24):=⟨_,rfl⟩
 obtain ⟨M5,qh⟩:∃M,M=w3.heap.size:=⟨_,rfl⟩
 rw [←hw4,←qh] at I4
 rw [←hw4,←qh]
 rw [←qh] at hsz
 have hM:Hid (N≠M2∧N≠M5∧T≠M2∧w.heap.size≤M2∧M2<M5):=by have:=dB.out;have:=hsz.out;unfold Hid;omega
 clear hw4 qh
 go_upto_region 24 with (go_at_call 51;(with_reducible refine (nS ⟨#[60]⟩ I4.out.bY S3.out).mono ?_);rintro e w5 ⟨rfl,D5,xQ⟩;have I5:=ah (I4.out.bg hM.out.1 (by have:=hM.out;omega) xQ D5);clear D5 xQ)
 cases hu:ex r1.tail with
 | error e0 =>
  go_wp2_with (go_at_call 81;(refine (HEX.out r1.tail w5 I5.out.bY).mono ?_);intro e w6 Ii;obtain ⟨vg,rfl⟩:=Ii.bad hu;have K6:=ah vg;clear vg Ii)
  exact ⟨rfl,XQ.thrown I5.out.kept K6.out (by rw [sO.out,hu])⟩
 | ok x =>
  obtain ⟨p,r2⟩:=x
  have oO:Hid (bP ex pr en (t::r)=match gI (bs [62]) en r2 with | .error er=>.error er | .ok r3=>.ok (.mk 4 E0 0 nm [p],r3)):=by unfold Hid;rw [sO.out,hu]
  clear sO
  go_upto_region 25 with (go_at_call 81;(refine (HEX.out r1.tail w5 I5.out.bY).mono ?_);intro e w6 Ii;obtain ⟨vg,zK,S,ka,cap,rfl,gy,iL,fJ⟩:=Ii.ok hu;have I7:=ah (je.item (cap:=cap) I5.out hM.out.1 hM.out.2.1 (by have:=hM.out;omega) (by have:=hM.out;omega) hT hN vg zK gy iL fJ rfl);have I6:=ah (I5.out.bg hM.out.1 hM.out.2.1 vg zK);obtain ⟨g0,g1,g2,g3,g4,gf⟩:=(I6.out.five.kept ((Kept.refl aC w6).alloc (.cells #[.int .i64 p.kind,.string p.text,.int .i64 p.n,.string p.name,.slice ka p.kids.length cap] 24)) (fun h=>h)).cells;have gf0:=gf 0;have gf4:=gf 4;clear gf vg zK gy iL fJ Ii)
  obtain ⟨w7,hw7⟩:∃w7,w7=((w6.alloc (.cells #[.int .i64 p.kind,.string p.text,.int .i64 p.n,.string p.name,.slice ka p.kids.length cap] 24)).setCell ⟨M5,0,none⟩ (.int .i64 4)).setCell ⟨M5,4,none⟩ (.slice (some ⟨w6.heap.size,0,none⟩) 1 1):=⟨_,rfl⟩
  rw [←hw7] at I7
  rw [←hw7]
  clear hw7 g0 g1 g2 g3 g4 gf0 gf4
  cases hv:gI (bs [62]) en r2 with
  | error e0 =>
   go_wp2_with (go_at_call 79;(refine (lX (bs [62]) I7.out.bY).mono ?_);intro e w8 qH;obtain ⟨qA,rfl⟩:=qH.bad hv;have K8:=ah qA;clear qA qH)
   exact ⟨rfl,XQ.thrown I7.out.kept K8.out (by rw [oO.out,hv])⟩
  | ok r3 =>
   have zL:Hid (bP ex pr en (t::r)=.ok (.mk 4 E0 0 nm [p],r3)):=by unfold Hid;rw [oO.out,hv]
   clear oO
   go_upto_region 36 with (go_at_call 79;(refine (lX (bs [62]) I7.out.bY).mono ?_);intro e w8 qH;obtain ⟨qA,rfl,Ak⟩:=qH.ok hv;have I8:=ah (I7.out.bg hM.out.1 hM.out.2.1 qA Ak);clear qA Ak qH)
   obtain ⟨x0,x1,x2,x3,x4,_⟩:=I8.out.five.cells
   obtain ⟨z0,z1,z2,z3,z4,zf⟩:=I8.out.zero.cells
   have xW:=zf 0;have xX:=zf 1;have xY:=zf 2;have yH:=zf 3;have yI:=zf 4
   clear zf
   go_wp2_with fail
   exact kK 2 rfl rfl (I8.out.zero.bI _ _ _ _ _) (I8.out.fin hM.out.1 hM.out.2.2.1 hM.out.2.2.2.1 hN zL.out)
end Go.Proofs.YtefjbnhpjdhjmaaGreatDoor
