/-  -/
import Derived.Test.YtefjbnhpjdhjmaaGreatDoorPs10
namespace Go.Proofs.YtefjbnhpjdhjmaaGreatDoor
set_option linter.all false
open Go.RowKit
theorem VA:∀(l:List UInt8) (acc:Nat),(∀c∈l,48≤c.toNat∧c.toNat≤57)→
  (l.foldl (fun n c=>n*10+(c.toNat-48)) acc≤18446744073709551615→Lib.parseUintM (2 ^ 64-1) acc l=.ok (l.foldl (fun n c=>n*10+(c.toNat-48)) acc))∧
  (18446744073709551615<l.foldl (fun n c=>n*10+(c.toNat-48)) acc→acc≤18446744073709551615→Lib.parseUintM (2 ^ 64-1) acc l=.range):=by
 have grow:∀(l:List UInt8) (acc:Nat),acc≤l.foldl (fun n c=>n*10+(c.toNat-48)) acc:=by
  intro l
  induction l with
  | nil=>intro acc;exact Nat.le_refl _
  | cons c r ih=>intro acc;rw [List.foldl_cons];exact Nat.le_trans (by omega) (ih _)
 intro l
 induction l with
 | nil=>intro acc _;exact ⟨fun _=>rfl,fun h h2=>by simp at h;omega⟩
 | cons c r ih =>
  intro acc hd
  have hc:=hd c (List.mem_cons_self ..)
  have ih':=ih (acc*10+(c.toNat-48)) (fun x hx=>hd x (List.mem_cons_of_mem _ hx))
  rw [List.foldl_cons]
  have hg:=grow r (acc*10+(c.toNat-48))
  refine ⟨fun hle=>?_,fun hlt hacc=>?_⟩
  ·rw [Lib.parseUintM,if_pos hc,if_neg (by omega),if_neg (by omega)]
   exact ih'.1 hle
  ·rw [Lib.parseUintM,if_pos hc]
   by_cases h1:1844674407370955162≤acc
   ·rw [if_pos h1]
   ·rw [if_neg h1]
    by_cases h2:2 ^ 64-1<acc*10+(c.toNat-48)
    ·rw [if_pos h2]
    ·rw [if_neg h2];exact ih'.2 hlt (by omega)
theorem acC (l:List UInt8) (h0:l≠[]) (hd:∀c∈l,48≤c.toNat∧c.toNat≤57) :
  (qQ l≤9223372036854775807→Lib.parseIntB 64 l=.ok (qQ l))∧(9223372036854775807<qQ l→Lib.parseIntB 64 l=.range):=by
 cases l with
 | nil=>exact absurd rfl h0
 | cons c r =>
  have hc:=hd c (List.mem_cons_self ..)
  have hp:=VA (c::r) 0 hd
  have e:Lib.parseUintB 64 (c::r)=Lib.parseUintM (2 ^ 64-1) 0 (c::r):=by unfold Lib.parseUintB;rw [if_neg (by simp)]
  have en:qQ (c::r)=(c::r).foldl (fun n c=>n*10+(c.toNat-48)) 0:=rfl
  rw [en]
  refine ⟨fun hle=>?_,fun hlt=>?_⟩
  ·unfold Lib.parseIntB
   dsimp only
   rw [if_neg (by omega),e,hp.1 (by omega)]
   dsimp only
   rw [if_neg (by omega),if_neg (by omega),if_neg (by omega)]
  ·unfold Lib.parseIntB
   dsimp only
   rw [if_neg (by omega),e]
   by_cases h2:(c::r).foldl (fun n c=>n*10+(c.toNat-48)) 0≤18446744073709551615
   ·rw [hp.1 h2]
    dsimp only
    rw [if_pos (by omega)]
   ·rw [hp.2 (by omega) (by omega)]
theorem jk.start {N T en d M4:Nat} {w w1 w3:World} {p:aA} {ka:Option Addr} {cap:Nat} {r:List aC} {S:Nat→Prop} (Z:dO M4 (.int .i64 0) (.string ⟨#[]⟩) (.int .i64 0) (.string ⟨#[]⟩) (.slice none 0 0) w3) (K:Kept (· = N) w w3) (hR:fE N T en r d w3)
  (hS:∀b,S b→w1.heap.size≤b∧b<w3.heap.size) (hz:p.text.size<1000000000∧p.name.size<1000000000∧p.kids.length<1000000000) (hk:aI w3 S ka p.kids) (hN:N<w.heap.size) (hw:w.heap.size≤w1.heap.size) (h4:M4<w1.heap.size) :
  jk N T en d M4 w3.heap.size w p ka cap r (w3.alloc (.cells #[.int .i64 p.kind,.string p.text,.int .i64 p.n,.string p.name,.slice ka p.kids.length cap] 24)):=by
 have k5:Kept aF w3 (w3.alloc (.cells #[.int .i64 p.kind,.string p.text,.int .i64 p.n,.string p.name,.slice ka p.kids.length cap] 24)):=(Kept.refl _ _).alloc _
 have hsz:(w3.alloc (.cells #[.int .i64 p.kind,.string p.text,.int .i64 p.n,.string p.name,.slice ka p.kids.length cap] 24)).heap.size=w3.heap.size+1:=by simp
 refine ⟨hR.kept k5 (fun h=>h) (fun h=>h),ay w3 _,⟨S,hk.kept k5 (fun b hb=>⟨(hS b hb).2,fun h=>h⟩),fun b hb=>by have:=hS b hb;omega⟩,hz,Z.kept k5 (fun h=>h),K.trans (k5.more (fun _ h=>h.elim))⟩
theorem jk.acD {N T en d M4:Nat} {w w1 w3:World} {p:aA} {ka:Option Addr} {cap:Nat} {r:List aC} {S:Nat→Prop} (k:Int) (Z:dO M4 (.int .i64 0) (.string ⟨#[]⟩) (.int .i64 0) (.string ⟨#[]⟩) (.slice none 0 0) w3) (K:Kept (· = N) w w3) (hR:fE N T en r d w3)
  (hS:∀b,S b→w1.heap.size≤b∧b<w3.heap.size) (hz:p.text.size<1000000000∧p.name.size<1000000000∧p.kids.length<1000000000) (hk:aI w3 S ka p.kids) (hN:N<w.heap.size) (hw:w.heap.size≤w1.heap.size) (h4:M4<w1.heap.size) (h13:w1.heap.size≤w3.heap.size) :
  jk N T en d M4 (w3.heap.size+1) w (node1 k p) (some ⟨w3.heap.size,0,none⟩) 1 r ((w3.alloc (.cells #[.int .i64 p.kind,.string p.text,.int .i64 p.n,.string p.name,.slice ka p.kids.length cap] 24)).alloc (.cells #[.int .i64 k,.string ⟨#[]⟩,.int .i64 0,.string ⟨#[]⟩,.slice (some ⟨w3.heap.size,0,none⟩) 1 1] 24)):=by
 obtain ⟨w4,hw4⟩:∃w4,w4=w3.alloc (.cells #[.int .i64 p.kind,.string p.text,.int .i64 p.n,.string p.name,.slice ka p.kids.length cap] 24):=⟨_,rfl⟩
 rw [←hw4]
 have k4:Kept aF w3 w4:=by rw [hw4];exact (Kept.refl _ _).alloc _
 have z4:w4.heap.size=w3.heap.size+1:=by rw [hw4];simp
 have f4:dO w3.heap.size (.int .i64 p.kind) (.string p.text) (.int .i64 p.n) (.string p.name) (.slice ka p.kids.length cap) w4:=by rw [hw4];exact ay w3 _
 have hp1:=SY f4 hz (hk.kept k4 (fun b hb=>⟨(hS b hb).2,fun h=>h⟩)) (fun b hb=>by have:=hS b hb;omega)
 have acE:w.heap.size≤w3.heap.size:=K.size
 have hl:=Z.lt
 have:=jk.start (w1:=w1) (S:=fun b=>S b∨b=w3.heap.size) (p:=node1 k p) (cap:=1) (Z.kept k4 (fun h=>h)) (K.trans (k4.more (fun _ h=>h.elim))) (hR.kept k4 (fun h=>h) (fun h=>h)) ?_ ⟨by show E0.size<_;decide,by show E0.size<_;decide,by simp [node1,aA.kids]⟩ hp1 hN hw h4
 ·rw [z4] at this;exact this
 ·rintro b (hb|rfl)
  ·have:=hS b hb;omega
  ·omega
theorem jk.item {N T en d M4 M5:Nat} {w w1 w3:World} {nm:aj} {p:aA} {ka:Option Addr} {cap:Nat} {l1 r:List aC} {S:Nat→Prop} (h:jk N T en d M4 M5 w (.mk 3 E0 0 nm []) none 0 l1 w1) (hn4:N≠M4) (DC:N≠M5) (h45:M4≠M5) (hw5:w.heap.size≤M5) (hTw:T<w.heap.size) (Rj:N<w.heap.size)
  (hk:Kept (· = N) w1 w3) (hr:fE N T en r d w3) (hS:∀b,S b→w1.heap.size≤b∧b<w3.heap.size) (hz:p.text.size<1000000000∧p.name.size<1000000000∧p.kids.length<1000000000) (hp:aI w3 S ka p.kids) {w4:World}
  (hw:w4=w3.alloc (.cells #[.int .i64 p.kind,.string p.text,.int .i64 p.n,.string p.name,.slice ka p.kids.length cap] 24)) :
  jk N T en d M4 M5 w (.mk 4 E0 0 nm [p]) (some ⟨w3.heap.size,0,none⟩) 1 r ((w4.setCell ⟨M5,0,none⟩ (.int .i64 4)).setCell ⟨M5,4,none⟩ (.slice (some ⟨w3.heap.size,0,none⟩) 1 1)):=by
 have h3:=h.bC hn4 DC hk hr
 obtain ⟨_,f3,_,z3,o3,k3⟩:=h3
 have k4:Kept aF w3 w4:=by rw [hw];exact (Kept.refl _ _).alloc _
 have hsz:w4.heap.size=w3.heap.size+1:=by rw [hw];simp
 have f4:dO w3.heap.size (.int .i64 p.kind) (.string p.text) (.int .i64 p.n) (.string p.name) (.slice ka p.kids.length cap) w4:=by rw [hw];exact ay w3 _
 have g4:=f3.kept k4 (fun h=>h)
 have k6:Kept (· = M5) w4 ((w4.setCell ⟨M5,0,none⟩ (.int .i64 4)).setCell ⟨M5,4,none⟩ (.slice (some ⟨w3.heap.size,0,none⟩) 1 1)):=((Kept.refl (· = M5) w4).setCell (p:=⟨M5,0,none⟩) (.inl rfl) _).setCell (p:=⟨M5,4,none⟩) (.inl rfl) _
 have hw1:w.heap.size≤w1.heap.size:=h.kept.size
 have l3:=f3.lt;have o3l:=o3.lt;have acE:=hk.size
 have l1':=h.five.lt
 have hp1:=SY f4 hz (hp.kept k4 (fun b hb=>⟨(hS b hb).2,fun h=>h⟩)) (fun b hb=>by have:=hS b hb;omega)
 have hout:∀b,(S b∨b=w3.heap.size)→w.heap.size≤b∧b<w4.heap.size∧b≠M4∧b≠M5∧b≠N:=by
  have:=h.zero.lt
  rintro b (hb|rfl)
  ·have:=hS b hb;omega
  ·omega
 refine ⟨(hr.kept k4 (fun h=>h) (fun h=>h)).kept k6 DC (by omega) (by have:=hr.ng;omega),?_,⟨fun b=>S b∨b=w3.heap.size,hp1.kept k6 (fun b hb=>⟨(hout b hb).2.1,(hout b hb).2.2.2.1⟩),fun b hb=>by have:=hout b hb;have:=k6.size;omega⟩,⟨z3.1,z3.2.1,by simp [aA.kids]⟩,(o3.kept k4 (fun h=>h)).kept k6 h45,(k3.trans (k4.more (fun _ h=>h.elim))).step k6 (fun y hy=>.inr (by omega))⟩
 unfold dO at g4⊢
 rw [aN (aN g4 _) _];rfl
structure qR (N T en d M4 M5:Nat) (w:World) (nm:aj) (ks:List aA) (v:Value) (l:List aC) (wx:World):Prop where
 bY:fE N T en l d wx
 five:dO M5 (.int .i64 6) (.string ⟨#[]⟩) (.int .i64 0) (.string nm) v wx
 own:∃(cs:List Value) (S:Nat→Prop),cZ wx (M5+1) 24 5 v ks.length cs∧gB wx S cs ks∧∀b,S b→M5<b∧b<wx.heap.size∧v.ownBlock≠some b
 sz:nm.size<1000000000
 zero:dO M4 (.int .i64 0) (.string ⟨#[]⟩) (.int .i64 0) (.string ⟨#[]⟩) (.slice none 0 0) wx
 kept:Kept (· = N) w wx
theorem qR.start {N T en d M4 M5:Nat} {w w1:World} {nm:aj} {l:List aC} (h:jk N T en d M4 M5 w (.mk 3 E0 0 nm []) none 0 l w1) (DC:N≠M5) (h45:M4≠M5) (hw5:w.heap.size≤M5) (hTw:T<w.heap.size) (Rj:N<w.heap.size) :
  qR N T en d M4 M5 w nm [] (.slice none 0 0) l (w1.setCell ⟨M5,0,none⟩ (.int .i64 6)):=by
 obtain ⟨h1,h2,_,h5,h6,h7⟩:=h
 have k6:Kept (· = M5) w1 (w1.setCell ⟨M5,0,none⟩ (.int .i64 6)):=(Kept.refl (· = M5) w1).setCell (p:=⟨M5,0,none⟩) (.inl rfl) _
 refine ⟨h1.kept k6 DC (by omega) (by have:=h1.ng;omega),?_,⟨[],aF,cZ.nil _ _ _ _,by rw [gB],fun b hb=>hb.elim⟩,h5.2.1,h6.kept k6 h45,h7.step k6 (fun y hy=>.inr (by omega))⟩
 unfold dO at h2⊢
 rw [aN h2 _];rfl
theorem qR.bC {N T en d M4 M5:Nat} {w:World} {nm:aj} {ks:List aA} {v:Value} {l l2:List aC} {wx wy:World} (h:qR N T en d M4 M5 w nm ks v l wx) (hn4:N≠M4) (DC:N<M5) (hk:Kept (· = N) wx wy) (hr:fE N T en l2 d wy):qR N T en d M4 M5 w nm ks v l2 wy:=by
 obtain ⟨h1,h2,⟨cs,S,h3,h4,h5⟩,h6,h7,h8⟩:=h
 exact ⟨hr,h2.kept hk (by omega),⟨cs,S,h3.kept hk (fun k hk e=>by have:=(h3.lt k hk).1;omega),h4.kept hk (fun b hb=>⟨(h5 b hb).2.1,fun e=>by have:=(h5 b hb).1;omega⟩),fun b hb=>⟨(h5 b hb).1,Nat.lt_of_lt_of_le (h5 b hb).2.1 hk.size,(h5 b hb).2.2⟩⟩,h6,h7.kept hk (Ne.symm hn4),h8.trans hk⟩
theorem qR.done {N T en d M4 M5:Nat} {w:World} {nm:aj} {ks:List aA} {a:Option Addr} {c:Nat} {l:List aC} {wx:World} (h:qR N T en d M4 M5 w nm ks (.slice a ks.length c) l wx) (h45:M4<M5) (hw5:w.heap.size≤M5) (Rj:N<w.heap.size) (hks:ks.length≤8) :
  jk N T en d M4 M5 w (.mk 6 E0 0 nm ks) a c l wx:=by
 obtain ⟨h1,h2,⟨cs,S,h3,h4,h5⟩,h6,h7,h8⟩:=h
 refine ⟨h1,h2,?_,⟨by show E0.size<_;decide,h6,by show ks.length<_;omega⟩,h7,h8⟩
 rcases h3.cells with ⟨hv,hn⟩|⟨g,o,c',hv,hg1,hg2,_,_,hc⟩
 ·obtain rfl:=List.length_eq_zero_iff.1 hn
  exact ⟨aF,by show aI wx aF a [];unfold aI;trivial,fun b hb=>hb.elim⟩
 ·simp only [Value.slice.injEq,true_and] at hv
  obtain ⟨rfl,rfl⟩:=hv
  refine ⟨fun b=>S b∨b=g,h4.pats g o (fun j u hu=>(hc j u hu).1),fun b hb=>?_⟩
  rcases hb with hb|rfl
  ·have:=h5 b hb;omega
  ·omega
theorem qR.step {N T en d M4 M5:Nat} {w:World} {nm:aj} {ks:List aA} {v:Value} {l r:List aC} {w1 w3 w4:World} {q:aA} {kc:Option Addr} {dR:Nat} {a':Option Addr} {c':Nat} {cs:List Value} {S1 S2:Nat→Prop}
  (I:qR N T en d M4 M5 w nm ks v l w1) (h1:cZ w1 (M5+1) 24 5 v ks.length cs) (h2:gB w1 S1 cs ks) (h3:∀b,S1 b→M5<b∧b<w1.heap.size∧v.ownBlock≠some b) (h45:M4<M5) (hw5:w.heap.size≤M5) (Rj:N<w.heap.size) (hTw:T<w.heap.size) (hw4:w.heap.size≤M4)
  (K3:Kept (· = N) w1 w3) (hr:fE N T en r d w3) (hz:q.text.size<1000000000∧q.name.size<1000000000∧q.kids.length<1000000000) (hS2:∀b,S2 b→w1.heap.size≤b∧b<w3.heap.size) (hq:aI w3 S2 kc q.kids)
  (hw:cZ w4 (M5+1) 24 5 (.slice a' (ks.length+1) c') (ks.length+1) (cs++[.int .i64 q.kind,.string q.text,.int .i64 q.n,.string q.name,.slice kc q.kids.length dR])) (hg:(w3.alloc (.cells #[.int .i64 q.kind,.string q.text,.int .i64 q.n,.string q.name,.slice kc q.kids.length dR] 24)).grownBy w4 v.ownBlock)
  (ho:(Value.slice a' (ks.length+1) c').ownBlock=v.ownBlock∨(Value.slice a' (ks.length+1) c').ownBlock=some (w3.heap.size+1)) :
  qR N T en d M4 M5 w nm (ks++[q]) (.slice a' (ks.length+1) c') r (w4.setCell ⟨M5,4,none⟩ (.slice a' (ks.length+1) c')):=by
 have kA:Kept aF w3 (w3.alloc (.cells #[.int .i64 q.kind,.string q.text,.int .i64 q.n,.string q.name,.slice kc q.kids.length dR] 24)):=(Kept.refl _ _).alloc _
 have hlow:∀b,v.ownBlock=some b→M5+1≤b∧b<w1.heap.size:=h1.lt
 have hs3:=K3.size
 have hl5:=I.five.lt
 have yZ:Kept (fun b=>v.ownBlock=some b) w3 w4:=(kA.more fun _ h=>h.elim).grown hg fun b hb=>.inl hb
 have K5:Kept (· = M5) w4 (w4.setCell ⟨M5,4,none⟩ (.slice a' (ks.length+1) c')):=(Kept.refl (· = M5) w4).setCell (p:=⟨M5,4,none⟩) (.inl rfl) _
 have Nk:=yZ.size
 have hnew:∀g,(Value.slice a' (ks.length+1) c').ownBlock=some g→M5+1≤g:=fun g hg=>(hw.lt g hg).1
 have I3:=I.bC (by omega) (by omega) K3 hr
 have x4:dO M5 (.int .i64 6) (.string ⟨#[]⟩) (.int .i64 0) (.string nm) v w4:=I3.five.kept yZ (fun h=>by have:=hlow _ h;omega)
 refine ⟨(hr.kept yZ (fun h=>by have:=hlow _ h;omega) (fun h=>by have:=hlow _ h;omega) (fun h=>by have:=hlow _ h;have:=hr.ng;omega)).kept K5 (by omega) (by omega) (by have:=hr.ng;omega),?_,?_,I.sz,(I3.zero.kept yZ (fun h=>by have:=hlow _ h;omega)).kept K5 (by omega),(I3.kept.step yZ (fun y hy=>.inr (by have:=hlow y hy;omega))).step K5 (fun y hy=>.inr (by omega))⟩
 ·unfold dO at x4⊢
  rw [aN x4 _];rfl
 refine ⟨_,fun b=>S1 b∨S2 b,by rw [List.length_append];exact hw.kept K5 (fun g hg=>by have:=hnew g hg;omega),?_,fun b hb=>?_⟩
 ·refine gB.kept (X:=(· = M5)) (w:=w4) ?_ K5 (fun b hb=>⟨by rcases hb with hb|hb;have:=(h3 b hb).2.1;omega;exact Nat.lt_of_lt_of_le (hS2 b hb).2 Nk,by rcases hb with hb|hb;have:=h3 b hb;omega;have:=hS2 b hb;omega⟩)
  refine gB.append ?_ ?_
  ·exact ((h2.kept K3 (fun b hb=>⟨(h3 b hb).2.1,by have:=h3 b hb;omega⟩)).kept yZ (fun b hb=>⟨by have:=h3 b hb;omega,(h3 b hb).2.2⟩)).more fun b h=>.inl h
  ·rw [gB];refine ⟨_,[],(List.append_nil _).symm,⟨kc,dR,rfl,hz,?_⟩,rfl⟩
   exact aI.to hq yZ (fun b hb=>⟨(hS2 b hb).2,fun h=>by have:=hlow b h;have:=(hS2 b hb).1;omega⟩) (fun b h=>.inr h)
 ·have hs5:=K5.size
  rcases hb with hb|hb
  ·have:=h3 b hb
   refine ⟨this.1,by omega,?_⟩
   rcases ho with h|h
   ·rw [h];exact this.2.2
   ·rw [h];simp;omega
  ·have:=hS2 b hb
   refine ⟨by omega,by omega,?_⟩
   rcases ho with h|h
   ·rw [h];intro h';have:=hlow b h';omega
   ·rw [h];simp;omega
end Go.Proofs.YtefjbnhpjdhjmaaGreatDoor

namespace Go.Proofs.YtefjbnhpjdhjmaaGreatDoor
set_option linter.all false
open Go.RowKit
set_option maxRecDepth 100000
set_option maxHeartbeats 8000000
theorem um.ok {x:aj} {N T en d:Nat} {l r:List aC} {w w':World} {e:Ending} (h:um x N T en l d w e w') (hr:eY x en l=.ok r):Kept (· = N) w w'∧e=.returned (.tuple #[])∧fE N T en r d w':=by
 unfold um at h;rw [hr] at h;exact ⟨h.1,h.2.1,h.2.2⟩
theorem um.bad {x:aj} {N T en d:Nat} {l:List aC} {w w':World} {e:Ending} {er:Er} (h:um x N T en l d w e w') (hr:eY x en l=.error er):Kept (· = N) w w'∧ni er e:=by
 unfold um at h;rw [hr] at h;exact h
theorem vY.ok {N T en d:Nat} {l r:List aC} {w w':World} {e:Ending} {x:aj} (h:vY N T en l d w e w') (hr:eF en l=.ok (x,r)):Kept (· = N) w w'∧e=.returned (.string x)∧fE N T en r d w':=by
 unfold vY at h;rw [hr] at h;exact ⟨h.1,h.2.1,h.2.2⟩
theorem vY.bad {N T en d:Nat} {l:List aC} {w w':World} {e:Ending} {er:Er} (h:vY N T en l d w e w') (hr:eF en l=.error er):Kept (· = N) w w'∧ni er e:=by
 unfold vY at h;rw [hr] at h;exact h
theorem vV.ok {k:Int} {N T en d:Nat} {l r:List aC} {w w':World} {e:Ending} {t:aC} (h:vV k N T en l d w e w') (hr:fP k en l=.ok (t,r)):Kept (· = N) w w'∧e=.returned (D7 t)∧fE N T en r d w':=by
 unfold vV at h;rw [hr] at h;exact ⟨h.1,h.2.1,h.2.2⟩
theorem vV.bad {k:Int} {N T en d:Nat} {l:List aC} {w w':World} {e:Ending} {er:Er} (h:vV k N T en l d w e w') (hr:fP k en l=.error er):Kept (· = N) w w'∧ni er e:=by
 unfold vV at h;rw [hr] at h;exact h
theorem XQ.thrown {N T en d:Nat} {r:bK aA} {w w2 w3:World} {er:Er} (K:Kept (· = N) w w2) (k:Kept (· = N) w2 w3) (hr:r=.error er):XQ N T en d r w (.panicked [{v:=dV er,recovered:=false}]) w3:=by
 subst hr;exact ⟨K.trans k,rfl⟩
theorem nX {N T en d:Nat} {l:List aC} {w:World} (x:aj) (h:fE N T en l d w) (hs:aJ x l=true):Calls Tryz.prog 51 #[.pointer (some ⟨N,0,none⟩),.string x] w (fun e w'=>e=.returned (.bool true)∧fE N T en l.tail d w'∧Kept (· = N) w w'):=by
 refine (yP x h).mono ?_
 rintro e w' ⟨h1,h2,h3⟩
 rw [hs] at h1 h2
 exact ⟨h1,h2,h3⟩
theorem iD {N T en d:Nat} {l:List aC} {w:World} (x:aj) (h:fE N T en l d w) (hs:aJ x l=false):Calls Tryz.prog 51 #[.pointer (some ⟨N,0,none⟩),.string x] w (fun e w'=>e=.returned (.bool false)∧fE N T en l d w'∧Kept (· = N) w w'):=by
 refine (yP x h).mono ?_
 rintro e w' ⟨h1,h2,h3⟩
 rw [hs] at h1 h2
 exact ⟨h1,h2,h3⟩
theorem VB {N T en d:Nat} {ex pr:List aC→bK aA} (HE:GY N T en d ex) {l:List aC} {w:World} (h:fE N T en l d w) (hs:aJ (bs [40]) l=true):Calls Tryz.prog 119 #[.pointer (some ⟨N,0,none⟩)] w (XQ N T en d (bP ex pr en l) w):=by
 have er:Hid (bP ex pr en l=match ex l.tail with | .error er=>.error er | .ok (x,r)=>match eY (bs [41]) en r with | .error er=>.error er | .ok r2=>.ok (x,r2)):=by unfold Hid bP;rw [if_pos hs];rfl
 obtain ⟨hN,hT,hne,h7⟩:=h.ng
 obtain ⟨w0,hw0⟩:∃w0,w0=w.alloc (.cells #[.int .i64 0,.string ⟨#[]⟩,.int .i64 0,.string ⟨#[]⟩,.slice none 0 0] 24):=⟨_,rfl⟩
 have k0:Kept aF w w0:=by rw [hw0];exact (Kept.refl _ _).alloc _
 obtain ⟨M2,hM2⟩:∃M,M=w.heap.size:=⟨_,rfl⟩
 have Z0:Hid (dO M2 (.int .i64 0) (.string ⟨#[]⟩) (.int .i64 0) (.string ⟨#[]⟩) (.slice none 0 0) w0):=by rw [hw0,hM2];exact ay w _
 have R0:=ah (h.kept k0 (fun h=>h) (fun h=>h))
 have K0:Hid (Kept (· = N) w w0):=k0.more (fun _ h=>h.elim)
 have HW0:=ah hw0;have dG:=ah hM2
 have hsz0:Hid (w0.heap.size=w.heap.size+1):=by unfold Hid;rw [hw0];simp
 have HEX:=ah HE;have HS:=ah hs
 clear k0 hw0 hM2 h HE hs
 go_enter Tryz.func119, Tryz.ntmps119
 go_upto_region 1 with fail
 rw [←HW0.out,←dG.out]
 go_upto_region 3 with (first
  | (go_at_call 51;(refine (nX (bs [40]) R0.out HS.out).mono ?_);rintro e w1 ⟨rfl,gY,eX⟩;have R1:=ah gY;have K1:Hid (Kept (· = N) w w1):=K0.out.trans eX;have Z1:=ah (Z0.out.kept eX (by have:=dG.out;omega));clear gY eX)
  | (go_at_call 81;(refine (HEX.out l.tail w1 R1.out).mono ?_);intro e w3 iF;rcases hu:ex l.tail with e0|⟨p,r⟩;(obtain ⟨eP,rfl⟩:=iF.bad hu;have f_:XQ N T en d (bP ex pr en l) w (.panicked [{v:=dV e0,recovered:=false}]) _:=XQ.thrown K1.out eP (by rw [er.out,hu]);exact ⟨rfl,f_⟩);(obtain ⟨eP,lJ,S,ka,cap,rfl,gQ,iU,eU⟩:=iF.ok hu;have K3:Hid (Kept (· = N) w w3):=K1.out.trans eP;have I5:=ah (jk.start (cap:=cap) (Z1.out.kept eP (by have:=dG.out;omega)) K3.out lJ gQ iU eU hN K1.out.size Z1.out.lt);have L3:Hid (w1.heap.size≤w3.heap.size):=eP.size;have HU:=ah hu;clear eP lJ gQ iU eU iF hu)))
 have hM:Hid (N≠M2∧N≠w3.heap.size∧T≠M2∧w.heap.size≤M2):=by have:=dG.out;have:=K3.out.size;unfold Hid;omega
 go_upto_region 4 with (go_at_call 79;(refine (mJ (bs [41]) I5.out.bY).mono ?_);intro e w6 Iz;rcases hv:eY (bs [41]) en r with e0|r2;(obtain ⟨vw,rfl⟩:=Iz.bad hv;have f_:XQ N T en d (bP ex pr en l) w (.panicked [{v:=dV e0,recovered:=false}]) _:=XQ.thrown I5.out.kept vw (by rw [er.out,HU.out];dsimp only;rw [hv]);exact ⟨rfl,f_⟩);(obtain ⟨vw,rfl,zB⟩:=Iz.ok hv;have I6:=ah (I5.out.bC hM.out.1 hM.out.2.1 vw zB);have fin:Hid (bP ex pr en l=.ok (p,r2)):=(by unfold Hid;rw [er.out,HU.out];dsimp only;rw [hv]);clear vw zB Iz hv))
 obtain ⟨x0,x1,x2,x3,x4,_⟩:=I6.out.five.cells
 obtain ⟨z0,z1,z2,z3,z4,zf⟩:=I6.out.zero.cells
 have xP:=zf 0;have xQ:=zf 1;have xR:=zf 2;have yA:=zf 3;have yB:=zf 4
 clear zf
 go_wp2_with fail
 exact kR 2 rfl rfl (I6.out.zero.bI _ _ _ _ _) (I6.out.fin hM.out.1 hM.out.2.2.1 hM.out.2.2.2 hN fin.out)
end Go.Proofs.YtefjbnhpjdhjmaaGreatDoor

namespace Go.Proofs.YtefjbnhpjdhjmaaGreatDoor
set_option linter.all false
open Go.RowKit
set_option maxRecDepth 100000
set_option maxHeartbeats 8000000
theorem GZ {N T en d M2:Nat} {w w3:World} {k n:Int} {tx nm:aj} {r:List aC} {res:bK aA} {z0 z1 z2 z3 z4:Value} (Z:dO M2 z0 z1 z2 z3 z4 w3) (K:Kept (· = N) w w3) (R:fE N T en r d w3) (hM:M2=w.heap.size) (hN:N<w.heap.size) (hT:T<w.heap.size)
  (htx:tx.size<1000000000) (hnm:nm.size<1000000000) (hr:res=.ok (.mk k tx n nm [],r)) :
  XQ N T en d res w (.returned (.agg #[.int .i64 k,.string tx,.int .i64 n,.string nm,.slice none 0 0])) (bI w3 M2 (.int .i64 k) (.string tx) (.int .i64 n) (.string nm) (.slice none 0 0)):=by
 subst hr
 have k7:Kept (· = M2) w3 (bI w3 M2 (.int .i64 k) (.string tx) (.int .i64 n) (.string nm) (.slice none 0 0)):=(Kept.refl (· = M2) w3).bI (.inl rfl) _ _ _ _ _
 exact ⟨K.step k7 (fun y hy=>.inr (by omega)),⟨_,rfl,aF,fun b hb=>hb.elim,none,0,rfl,⟨htx,hnm,by simp [aA.kids]⟩,by show aI _ aF none [];unfold aI;trivial⟩,R.kept k7 (by omega) (by omega) (by have:=R.ng;omega)⟩
theorem Cc {k:Int} {en:Nat} {t:aC} {r:List aC} (h:t.kind=k):fP k en (t::r)=.ok (t,r):=if_pos h
theorem qE {x:aj} {t:aC} {r:List aC} (h:t.kind≠5):aJ x (t::r)=false:=au (fun h2=>h h2.1)
theorem S9 {N T en d:Nat} {ex pr:List aC→bK aA} {t:aC} {r:List aC} {w:World} (h:fE N T en (t::r) d w) (hk:t.kind=3):Calls Tryz.prog 119 #[.pointer (some ⟨N,0,none⟩)] w (XQ N T en d (bP ex pr en (t::r)) w):=by
 have er:Hid (bP ex pr en (t::r)=.ok (.mk 1 t.text 0 E0 [],r)):=by unfold Hid bP;rw [qE (by omega),qE (by omega),Cc hk];rfl
 have hfld:∀wx,(Instr.field 94 (.agg #[.int .i64 t.kind,.string t.text,.int .i64 t.at_]) 1).run Tryz.prog wx=.ok (.string t.text) wx:=fun _=>by kernel_rfl
 have S1:Hid (aJ ⟨#[40]⟩ (t::r)=false):=qE (by omega)
 have S2:Hid (aJ ⟨#[36]⟩ (t::r)=false):=qE (by omega)
 have TK:Hid (fP 3 en (t::r)=.ok (t,r)):=Cc hk
 have HK:=ah hk
 have htb:Hid (t.text.size<1000000000):=by obtain ⟨_,_,_,h⟩:=h;have:=(h.good t (List.mem_cons_self ..)).2.1;unfold Hid;omega
 obtain ⟨hN,hT,hne,h7⟩:=h.ng
 obtain ⟨w0,hw0⟩:∃w0,w0=w.alloc (.cells #[.int .i64 0,.string ⟨#[]⟩,.int .i64 0,.string ⟨#[]⟩,.slice none 0 0] 24):=⟨_,rfl⟩
 have k0:Kept aF w w0:=by rw [hw0];exact (Kept.refl _ _).alloc _
 obtain ⟨M2,hM2⟩:∃M,M=w.heap.size:=⟨_,rfl⟩
 have Z0:Hid (dO M2 (.int .i64 0) (.string ⟨#[]⟩) (.int .i64 0) (.string ⟨#[]⟩) (.slice none 0 0) w0):=by rw [hw0,hM2];exact ay w _
 have R0:=ah (h.kept k0 (fun h=>h) (fun h=>h))
 have K0:Hid (Kept (· = N) w w0):=k0.more (fun _ h=>h.elim)
 have HW0:=ah hw0;have dG:=ah hM2
 clear k0 hw0 hM2 h hk
 go_enter Tryz.func119, Tryz.ntmps119
 go_upto_region 1 with fail
 rw [←HW0.out,←dG.out]
 go_upto_region 12 with (first
  | (go_at_call 51;(with_reducible refine (iD ⟨#[40]⟩ R0.out S1.out).mono ?_);rintro e w1 ⟨rfl,gY,eX⟩;have R1:=ah gY;have K1:Hid (Kept (· = N) w w1):=K0.out.trans eX;have Z1:=ah (Z0.out.kept eX (by have:=dG.out;omega));clear gY eX)
  | (go_at_call 51;(with_reducible refine (iD ⟨#[36]⟩ R1.out S2.out).mono ?_);rintro e w2 ⟨rfl,lg,iC⟩;have R2:=ah lg;have K2:Hid (Kept (· = N) w w2):=K1.out.trans iC;have Z2:=ah (Z1.out.kept iC (by have:=dG.out;omega));clear lg iC))
 obtain ⟨n2,a2,c2,hP⟩:=R2.out
 obtain ⟨c0,c1,cd,cf⟩:=hP.c0
 have hn:=hP.num
 rw [List.length_cons] at hn
 have h0:0<n2:=by omega
 have h1:(0:Int)<(n2:Int):=by omega
 have z:decide ((0:Int)<(n2:Int))=true:=ak h1
 have z':decide (0<n2)=true:=ak h0
 obtain ⟨o,rfl,t0,t1,t2⟩:=hP.head
 have y:(t.kind==3)=true:=by simpa using HK.out
 clear hn hP cf
 go_upto_region 13 with fail
 clear c0 c1 cd t0 t1 t2 y z z'
 go_wp2_with (go_at_call 77;(refine (vk 3 R2.out).mono ?_);intro e w3 iF;obtain ⟨eP,Ea,lJ⟩:=iF.ok TK.out;unfold D7 at Ea;subst Ea;have R3:=ah lJ;have K3:Hid (Kept (· = N) w w3):=K2.out.trans eP;have Z3:=ah (Z2.out.kept eP (by have:=dG.out;omega));obtain ⟨z0,z1,z2,z3,z4,zf⟩:=Z3.out.cells;have xP:=zf 0;have xQ:=zf 1;have xR:=zf 2;have yA:=zf 3;have yB:=zf 4;clear zf lJ eP iF)
 exact kR 2 rfl rfl (Z3.out.bI _ _ _ _ _) (GZ Z3.out K3.out R3.out dG.out hN hT htb.out (by decide) er.out)
end Go.Proofs.YtefjbnhpjdhjmaaGreatDoor

namespace Go.Proofs.YtefjbnhpjdhjmaaGreatDoor
set_option linter.all false
open Go.RowKit
set_option maxRecDepth 100000
set_option maxHeartbeats 8000000
theorem IE {x y:aj} {l:List aC} (h:aJ x l=true) (hne:x≠y):aJ y l=false:=by
 cases l with
 | nil=>rfl
 | cons t r=>exact au (fun h2=>hne ((of_decide_eq_true h).2.symm.trans h2.2))
theorem jk.acG {N T en d M4 M5:Nat} {w:World} {x:aA} {ka:Option Addr} {cap:Nat} {l:List aC} {wx:World} (h:jk N T en d M4 M5 w x ka cap l wx) (hn4:N≠M4) (DC:N≠M5) (d2:Nat):jk N T en d2 M4 M5 w x ka cap l (wx.setCell ⟨N,2,none⟩ (.int .i64 (d2:Int))):=by
 obtain ⟨h1,h2,⟨S,h3,h4⟩,h5,h6,h7⟩:=h
 have hk:Kept (· = N) wx (wx.setCell ⟨N,2,none⟩ (.int .i64 (d2:Int))):=(Kept.refl (· = N) wx).setCell (p:=⟨N,2,none⟩) (.inl rfl) _
 exact ⟨h1.qx d2,h2.kept hk (Ne.symm DC),⟨S,h3.kept hk (fun b hb=>⟨(h4 b hb).2.1,(h4 b hb).2.2.2.2⟩),fun b hb=>by have:=h4 b hb;have:=hk.size;omega⟩,h5,h6.kept hk (Ne.symm hn4),h7.trans hk⟩
theorem JX {N T en d:Nat} {ex pr:List aC→bK aA} {l:List aC} {w:World} (h:fE N T en l d w) (hd:d=400) (hs:aJ (bs [36]) l=true):Calls Tryz.prog 119 #[.pointer (some ⟨N,0,none⟩)] w (XQ N T en d (bP ex (fun l=>.error (4,fV en l)) en l) w):=by
 have S1:Hid (aJ ⟨#[40]⟩ l=false):=IE hs (by decide)
 have er:Hid (bP ex (fun l=>.error (4,fV en l)) en l=.error (4,fV en l.tail)):=by unfold Hid bP;rw [show aJ (bs [40]) l=false from S1.out,hs];rfl
 have S2:Hid (aJ ⟨#[36]⟩ l=true):=hs
 obtain ⟨lr,hlr⟩:∃lr,lr=l.tail:=⟨_,rfl⟩
 rw [←hlr] at er
 have HLR:=ah hlr
 obtain ⟨d1,hd1⟩:∃d1:Nat,d1=d+1:=⟨_,rfl⟩
 have hdi:(d:Int)+1=(d1:Int):=by omega
 have g1:decide ((400:Int)<(d1:Int))=true:=ak (by omega)
 have g2:decide (400<d1)=true:=ak (by omega)
 have hb:d1≤1000:=by omega
 obtain ⟨hN,hT,hne,h7⟩:=h.ng
 obtain ⟨w0,hw0⟩:∃w0,w0=w.alloc (.cells #[.int .i64 0,.string ⟨#[]⟩,.int .i64 0,.string ⟨#[]⟩,.slice none 0 0] 24):=⟨_,rfl⟩
 have k0:Kept aF w w0:=by rw [hw0];exact (Kept.refl _ _).alloc _
 obtain ⟨M2,hM2⟩:∃M,M=w.heap.size:=⟨_,rfl⟩
 have Z0:Hid (dO M2 (.int .i64 0) (.string ⟨#[]⟩) (.int .i64 0) (.string ⟨#[]⟩) (.slice none 0 0) w0):=by rw [hw0,hM2];exact ay w _
 have R0:=ah (h.kept k0 (fun h=>h) (fun h=>h))
 have K0:Hid (Kept (· = N) w w0):=k0.more (fun _ h=>h.elim)
 have HW0:=ah hw0;have dG:=ah hM2
 clear k0 hw0 hM2 h hs hlr hd hd1
 go_enter Tryz.func119, Tryz.ntmps119
 go_upto_region 1 with fail
 rw [←HW0.out,←dG.out]
 go_upto_region 6 with (first
  | (go_at_call 51;(with_reducible refine (iD ⟨#[40]⟩ R0.out S1.out).mono ?_);rintro e w1 ⟨rfl,gY,eX⟩;have R1:=ah gY;have K1:Hid (Kept (· = N) w w1):=K0.out.trans eX;have Z1:=ah (Z0.out.kept eX (by have:=dG.out;omega));clear gY eX)
  | (go_at_call 51;(with_reducible refine (nX ⟨#[36]⟩ R1.out S2.out).mono ?_);rintro e w2 ⟨rfl,lg,iC⟩;have R2:=ah lg;have K2:Hid (Kept (· = N) w w2):=K1.out.trans iC;have Z2:=ah (Z1.out.kept iC (by have:=dG.out;omega));obtain ⟨q2,qF⟩:=lg.deep;clear lg iC))
 go_upto_region 7 with fail
 obtain ⟨w3,hw3⟩:∃w3,w3=w2.setCell ⟨N,2,none⟩ (.int .i64 (d1:Int)):=⟨_,rfl⟩
 have r3:=R2.out.qx d1
 rw [←hw3] at r3⊢
 rw [←HLR.out] at r3
 have k3:Kept (· = N) w2 w3:=by rw [hw3];exact (Kept.refl (· = N) w2).setCell (p:=⟨N,2,none⟩) (.inl rfl) _
 have K3:=ah k3
 clear hw3 k3 q2 qF
 obtain ⟨q2,qF⟩:=r3.deep
 obtain ⟨n3,a3,c3,r3⟩:=r3
 have HA:=ah (pq r3)
 clear r3
 go_wp2_with (first
  | (go_at_call 54;(refine HA.out.mono ?_);rintro e w' ⟨rfl,aU⟩;obtain rfl:=aU.symm)
  | (go_at_call 53;(refine (fQ _ 4 (fV en lr) w3).mono ?_);rintro e w4 ⟨rfl,rfl⟩))
 exact ⟨rfl,XQ.thrown K2.out K3.out er.out⟩
theorem JY {N T en d:Nat} {ex pr:List aC→bK aA} {l:List aC} {w:World} (hd:d<400) (HP:JZ N T en (d+1) pr) (h:fE N T en l d w) (hs:aJ (bs [36]) l=true):Calls Tryz.prog 119 #[.pointer (some ⟨N,0,none⟩)] w (XQ N T en d (bP ex pr en l) w):=by
 have S1:Hid (aJ ⟨#[40]⟩ l=false):=IE hs (by decide)
 have er:Hid (bP ex pr en l=match pr l.tail with | .error er=>.error er | .ok (x,r)=>.ok (node1 5 x,r)):=by unfold Hid bP;rw [show aJ (bs [40]) l=false from S1.out,hs];rfl
 have S2:Hid (aJ ⟨#[36]⟩ l=true):=hs
 obtain ⟨lr,hlr⟩:∃lr,lr=l.tail:=⟨_,rfl⟩
 rw [←hlr] at er
 have HLR:=ah hlr
 obtain ⟨d1,hd1⟩:∃d1:Nat,d1=d+1:=⟨_,rfl⟩
 have hdi:(d:Int)+1=(d1:Int):=by omega
 rw [←hd1] at HP
 have g1:decide ((400:Int)<(d1:Int))=false:=au (by omega)
 have g2:decide (400<d1)=false:=au (by omega)
 have hb:d1≤1000:=by omega
 have hb1:1≤d1:=by omega
 have hdj:(d1:Int)-1=(d:Int):=by omega
 have VD:=ah HP
 obtain ⟨hN,hT,hne,h7⟩:=h.ng
 obtain ⟨w0,hw0⟩:∃w0,w0=w.alloc (.cells #[.int .i64 0,.string ⟨#[]⟩,.int .i64 0,.string ⟨#[]⟩,.slice none 0 0] 24):=⟨_,rfl⟩
 have k0:Kept aF w w0:=by rw [hw0];exact (Kept.refl _ _).alloc _
 obtain ⟨M2,hM2⟩:∃M,M=w.heap.size:=⟨_,rfl⟩
 have Z0:Hid (dO M2 (.int .i64 0) (.string ⟨#[]⟩) (.int .i64 0) (.string ⟨#[]⟩) (.slice none 0 0) w0):=by rw [hw0,hM2];exact ay w _
 have R0:=ah (h.kept k0 (fun h=>h) (fun h=>h))
 have K0:Hid (Kept (· = N) w w0):=k0.more (fun _ h=>h.elim)
 have HW0:=ah hw0;have dG:=ah hM2
 clear k0 hw0 hM2 h hs hlr hd hd1 HP
 go_enter Tryz.func119, Tryz.ntmps119
 go_upto_region 1 with fail
 rw [←HW0.out,←dG.out]
 go_upto_region 6 with (first
  | (go_at_call 51;(with_reducible refine (iD ⟨#[40]⟩ R0.out S1.out).mono ?_);rintro e w1 ⟨rfl,gY,eX⟩;have R1:=ah gY;have K1:Hid (Kept (· = N) w w1):=K0.out.trans eX;have Z1:=ah (Z0.out.kept eX (by have:=dG.out;omega));clear gY eX)
  | (go_at_call 51;(with_reducible refine (nX ⟨#[36]⟩ R1.out S2.out).mono ?_);rintro e w2 ⟨rfl,lg,iC⟩;have R2:=ah lg;have K2:Hid (Kept (· = N) w w2):=K1.out.trans iC;have Z2:=ah (Z1.out.kept iC (by have:=dG.out;omega));obtain ⟨q2,qF⟩:=lg.deep;clear lg iC))
 go_upto_region 7 with fail
 obtain ⟨w3,hw3⟩:∃w3,w3=w2.setCell ⟨N,2,none⟩ (.int .i64 (d1:Int)):=⟨_,rfl⟩
 have r3:=R2.out.qx d1
 rw [←hw3] at r3⊢
 rw [←HLR.out] at r3
 have k3:Kept (· = N) w2 w3:=by rw [hw3];exact (Kept.refl (· = N) w2).setCell (p:=⟨N,2,none⟩) (.inl rfl) _
 have K3:Hid (Kept (· = N) w w3):=K2.out.trans k3
 have Z3:=ah (Z2.out.kept k3 (by have:=dG.out;omega))
 have R3:=ah r3
 clear hw3 k3 q2 qF
 obtain ⟨q2,qF⟩:=r3.deep
 clear r3
 cases hu:pr lr with
 | error e0 =>
  go_wp2_with (go_at_call 119;(refine (VD.out lr w3 R3.out).mono ?_);intro e w4 VE;obtain ⟨Lj,rfl⟩:=VE.bad hu;have K4:=ah Lj;clear Lj VE)
  exact ⟨rfl,XQ.thrown K3.out K4.out (by rw [er.out,hu])⟩
 | ok x =>
  obtain ⟨p,r⟩:=x
  have rY:Hid (bP ex pr en l=.ok (node1 5 p,r)):=by unfold Hid;rw [er.out,hu]
  clear er
  go_upto_region 10 with (go_at_call 119;(refine (VD.out lr w3 R3.out).mono ?_);intro e w4 VE;obtain ⟨Lj,r4_,S,ka,cap,rfl,gQ,iU,eU⟩:=VE.ok hu;have I5:=ah (jk.acD (w1:=w3) (cap:=cap) 5 (Z3.out.kept Lj (by have:=dG.out;omega)) (K3.out.trans Lj) r4_ gQ iU eU hN K3.out.size Z3.out.lt Lj.size);have HL4:Hid (w.heap.size<w4.heap.size):=(by have:=Z3.out.lt;have:=dG.out;have:=Lj.size;unfold Hid;omega);clear Lj r4_ gQ iU eU VE)
  obtain ⟨w5,hw5⟩:∃w5,w5=(w4.alloc (.cells #[.int .i64 p.kind,.string p.text,.int .i64 p.n,.string p.name,.slice ka p.kids.length cap] 24)).alloc (.cells #[.int .i64 5,.string ⟨#[]⟩,.int .i64 0,.string ⟨#[]⟩,.slice (some ⟨w4.heap.size,0,none⟩) 1 1] 24):=⟨_,rfl⟩
  rw [←hw5] at I5⊢
  obtain ⟨B,hB⟩:∃B,B=w4.heap.size:=⟨_,rfl⟩
  rw [←hB] at I5 HL4⊢
  clear hw5 hB q2 qF
  obtain ⟨q2,qF⟩:=I5.out.bY.deep
  have hM:Hid (N≠M2∧N≠B+1∧T≠M2∧w.heap.size≤M2):=by have:=dG.out;have:=HL4.out;unfold Hid;omega
  go_upto_region 11 with fail
  have I6:=ah (I5.out.acG hM.out.1 hM.out.2.1 d)
  obtain ⟨w6,hw6⟩:∃w6,w6=w5.setCell ⟨N,2,none⟩ (.int .i64 (d:Int)):=⟨_,rfl⟩
  rw [←hw6] at I6⊢
  clear hw6 q2 qF
  obtain ⟨x0,x1,x2,x3,x4,_⟩:=I6.out.five.cells
  obtain ⟨z0,z1,z2,z3,z4,zf⟩:=I6.out.zero.cells
  have xP:=zf 0;have xQ:=zf 1;have xR:=zf 2;have yA:=zf 3;have yB:=zf 4
  clear zf
  go_wp2_with fail
  exact kR 2 rfl rfl (I6.out.zero.bI _ _ _ _ _) (I6.out.fin hM.out.1 hM.out.2.2.1 hM.out.2.2.2 hN rY.out)
end Go.Proofs.YtefjbnhpjdhjmaaGreatDoor

namespace Go.Proofs.YtefjbnhpjdhjmaaGreatDoor
set_option linter.all false
open Go.RowKit
set_option maxRecDepth 100000
set_option maxHeartbeats 8000000
theorem kU {en:Nat} {l r:List aC} {x:aj} (h:eF en l=.ok (x,r)):x.size≤16:=by
 unfold eF at h
 split at h
 ·cases h
 ·split at h
  ·cases h
  ·simp only [Except.ok.injEq,Prod.mk.injEq] at h;obtain ⟨rfl,_⟩:=h;omega
theorem VF {N T en d:Nat} {ex pr:List aC→bK aA} {w:World} (h:fE N T en [] d w):Calls Tryz.prog 119 #[.pointer (some ⟨N,0,none⟩)] w (XQ N T en d (bP ex pr en []) w):=by
 have er:Hid (bP ex pr en []=.error (2,en)):=rfl
 have S1:Hid (aJ ⟨#[40]⟩ ([]:List aC)=false):=rfl
 have S2:Hid (aJ ⟨#[36]⟩ ([]:List aC)=false):=rfl
 obtain ⟨hN,hT,hne,h7⟩:=h.ng
 obtain ⟨w0,hw0⟩:∃w0,w0=w.alloc (.cells #[.int .i64 0,.string ⟨#[]⟩,.int .i64 0,.string ⟨#[]⟩,.slice none 0 0] 24):=⟨_,rfl⟩
 have k0:Kept aF w w0:=by rw [hw0];exact (Kept.refl _ _).alloc _
 obtain ⟨M2,hM2⟩:∃M,M=w.heap.size:=⟨_,rfl⟩
 have Z0:Hid (dO M2 (.int .i64 0) (.string ⟨#[]⟩) (.int .i64 0) (.string ⟨#[]⟩) (.slice none 0 0) w0):=by rw [hw0,hM2];exact ay w _
 have R0:=ah (h.kept k0 (fun h=>h) (fun h=>h))
 have K0:Hid (Kept (· = N) w w0):=k0.more (fun _ h=>h.elim)
 have HW0:=ah hw0;have dG:=ah hM2
 clear k0 hw0 hM2 h
 go_enter Tryz.func119, Tryz.ntmps119
 go_upto_region 1 with fail
 rw [←HW0.out,←dG.out]
 go_upto_region 12 with (first
  | (go_at_call 51;(with_reducible refine (iD ⟨#[40]⟩ R0.out S1.out).mono ?_);rintro e w1 ⟨rfl,gY,eX⟩;have R1:=ah gY;have K1:Hid (Kept (· = N) w w1):=K0.out.trans eX;have Z1:=ah (Z0.out.kept eX (by have:=dG.out;omega));clear gY eX)
  | (go_at_call 51;(with_reducible refine (iD ⟨#[36]⟩ R1.out S2.out).mono ?_);rintro e w2 ⟨rfl,lg,iC⟩;have R2:=ah lg;have K2:Hid (Kept (· = N) w w2):=K1.out.trans iC;have Z2:=ah (Z1.out.kept iC (by have:=dG.out;omega));clear lg iC))
 obtain ⟨n2,a2,c2,hP⟩:=R2.out
 obtain ⟨c0,c1,cd,cf⟩:=hP.c0
 have hn:=hP.num
 have z:decide ((0:Int)<(n2:Int))=false:=by rw [hn];rfl
 have z':decide (0<n2)=false:=by rw [hn];rfl
 clear hn hP cf
 go_wp2_with (go_at_call 48;(refine (iZ R2.out).mono ?_);intro e w3 iF;obtain ⟨eP,rfl⟩:=iF.bad (er:=(2,en)) rfl;have K3:=ah eP;clear eP iF)
 exact ⟨rfl,XQ.thrown K2.out K3.out er.out⟩
theorem J5 {N T en d:Nat} {ex pr:List aC→bK aA} {t:aC} {r:List aC} {w:World} (h:fE N T en (t::r) d w) (hk:t.kind≠3∧t.kind≠2) (hs1:aJ (bs [40]) (t::r)=false) (hs2:aJ (bs [36]) (t::r)=false) {e0:Er} (hnm:eF en (t::r)=.error e0):Calls Tryz.prog 119 #[.pointer (some ⟨N,0,none⟩)] w (XQ N T en d (bP ex pr en (t::r)) w):=by
 have er:Hid (bP ex pr en (t::r)=match eF en (t::r) with
    | .error er=>.error er
    | .ok (nm,r) =>
     if aJ (bs [60]) r=true then
      match ex r.tail with
      | .error er=>.error er
      | .ok (x,r2)=>match eY (bs [62]) en r2 with
       | .error er=>.error er
       | .ok r3=>.ok (.mk 4 E0 0 nm [x],r3)
     else if aJ (bs [40]) r=true then
      if aJ (bs [41]) r.tail=true then .ok (.mk 6 E0 0 nm [],r.tail.tail)
      else match lD ex en 9 [] r.tail with
       | .error er=>.error er
       | .ok (ks,r2)=>.ok (.mk 6 E0 0 nm ks,r2)
     else .ok (.mk 3 E0 0 nm [],r)):=by unfold Hid bP;rw [hs1,hs2];simp only [fP,hk.1,hk.2,if_false,Bool.false_eq_true];rfl
 have S1:Hid (aJ ⟨#[40]⟩ (t::r)=false):=hs1;have S2:Hid (aJ ⟨#[36]⟩ (t::r)=false):=hs2;have HK:=ah hk
 have Ac:=ah hnm
 obtain ⟨hN,hT,hne,h7⟩:=h.ng
 obtain ⟨w0,hw0⟩:∃w0,w0=w.alloc (.cells #[.int .i64 0,.string ⟨#[]⟩,.int .i64 0,.string ⟨#[]⟩,.slice none 0 0] 24):=⟨_,rfl⟩
 have k0:Kept aF w w0:=by rw [hw0];exact (Kept.refl _ _).alloc _
 obtain ⟨M2,hM2⟩:∃M,M=w.heap.size:=⟨_,rfl⟩
 have Z0:Hid (dO M2 (.int .i64 0) (.string ⟨#[]⟩) (.int .i64 0) (.string ⟨#[]⟩) (.slice none 0 0) w0):=by rw [hw0,hM2];exact ay w _
 have R0:=ah (h.kept k0 (fun h=>h) (fun h=>h))
 have K0:Hid (Kept (· = N) w w0):=k0.more (fun _ h=>h.elim)
 have HW0:=ah hw0;have dG:=ah hM2
 clear k0 hw0 hM2 h hk hs1 hs2 hnm
 go_enter Tryz.func119, Tryz.ntmps119
 go_upto_region 1 with fail
 rw [←HW0.out,←dG.out]
 go_upto_region 12 with (first
  | (go_at_call 51;(with_reducible refine (iD ⟨#[40]⟩ R0.out S1.out).mono ?_);rintro e w1 ⟨rfl,gY,eX⟩;have R1:=ah gY;have K1:Hid (Kept (· = N) w w1):=K0.out.trans eX;have Z1:=ah (Z0.out.kept eX (by have:=dG.out;omega));clear gY eX)
  | (go_at_call 51;(with_reducible refine (iD ⟨#[36]⟩ R1.out S2.out).mono ?_);rintro e w2 ⟨rfl,lg,iC⟩;have R2:=ah lg;have K2:Hid (Kept (· = N) w w2):=K1.out.trans iC;have Z2:=ah (Z1.out.kept iC (by have:=dG.out;omega));clear lg iC))
 obtain ⟨n2,a2,c2,hP⟩:=R2.out
 obtain ⟨c0,c1,cd,cf⟩:=hP.c0
 have hn:=hP.num
 rw [List.length_cons] at hn
 have h0:0<n2:=by omega
 have h1:(0:Int)<(n2:Int):=by omega
 have z:decide ((0:Int)<(n2:Int))=true:=ak h1
 have z':decide (0<n2)=true:=ak h0
 obtain ⟨o,rfl,t0,t1,t2⟩:=hP.head
 have y3:(t.kind==3)=false:=by simpa using HK.out.1
 have y2:(t.kind==2)=false:=by simpa using HK.out.2
 clear hn hP cf
 go_upto_region 22 with fail
 clear c0 c1 cd t0 t1 t2 y3 y2 z z'
 go_wp2_with (go_at_call 48;(refine (iZ R2.out).mono ?_);intro e w3 iF;obtain ⟨eP,rfl⟩:=iF.bad Ac.out;have K3:=ah eP;clear eP iF)
 exact ⟨rfl,XQ.thrown K2.out K3.out (by rw [er.out,Ac.out])⟩
theorem Tc {N T en d:Nat} {ex pr:List aC→bK aA} {t:aC} {r:List aC} {w:World} (h:fE N T en (t::r) d w) (hk:t.kind≠3∧t.kind≠2) (hs1:aJ (bs [40]) (t::r)=false) (hs2:aJ (bs [36]) (t::r)=false) {nm:aj} {r1:List aC} (hnm:eF en (t::r)=.ok (nm,r1)) (hs3:aJ (bs [60]) r1=false) (hs4:aJ (bs [40]) r1=false):Calls Tryz.prog 119 #[.pointer (some ⟨N,0,none⟩)] w (XQ N T en d (bP ex pr en (t::r)) w):=by
 have er:Hid (bP ex pr en (t::r)=match eF en (t::r) with
    | .error er=>.error er
    | .ok (nm,r) =>
     if aJ (bs [60]) r=true then
      match ex r.tail with
      | .error er=>.error er
      | .ok (x,r2)=>match eY (bs [62]) en r2 with
       | .error er=>.error er
       | .ok r3=>.ok (.mk 4 E0 0 nm [x],r3)
     else if aJ (bs [40]) r=true then
      if aJ (bs [41]) r.tail=true then .ok (.mk 6 E0 0 nm [],r.tail.tail)
      else match lD ex en 9 [] r.tail with
       | .error er=>.error er
       | .ok (ks,r2)=>.ok (.mk 6 E0 0 nm ks,r2)
     else .ok (.mk 3 E0 0 nm [],r)):=by unfold Hid bP;rw [hs1,hs2];simp only [fP,hk.1,hk.2,if_false,Bool.false_eq_true];rfl
 have S1:Hid (aJ ⟨#[40]⟩ (t::r)=false):=hs1;have S2:Hid (aJ ⟨#[36]⟩ (t::r)=false):=hs2;have HK:=ah hk
 have rY:Hid (bP ex pr en (t::r)=.ok (.mk 3 E0 0 nm [],r1)):=by unfold Hid;rw [er.out,hnm];simp only [hs3,hs4,if_false,Bool.false_eq_true]
 have Ac:=ah hnm;have S3:Hid (aJ ⟨#[60]⟩ r1=false):=hs3;have S4:Hid (aJ ⟨#[40]⟩ r1=false):=hs4
 obtain ⟨hN,hT,hne,h7⟩:=h.ng
 obtain ⟨w0,hw0⟩:∃w0,w0=w.alloc (.cells #[.int .i64 0,.string ⟨#[]⟩,.int .i64 0,.string ⟨#[]⟩,.slice none 0 0] 24):=⟨_,rfl⟩
 have k0:Kept aF w w0:=by rw [hw0];exact (Kept.refl _ _).alloc _
 obtain ⟨M2,hM2⟩:∃M,M=w.heap.size:=⟨_,rfl⟩
 have Z0:Hid (dO M2 (.int .i64 0) (.string ⟨#[]⟩) (.int .i64 0) (.string ⟨#[]⟩) (.slice none 0 0) w0):=by rw [hw0,hM2];exact ay w _
 have R0:=ah (h.kept k0 (fun h=>h) (fun h=>h))
 have K0:Hid (Kept (· = N) w w0):=k0.more (fun _ h=>h.elim)
 have HW0:=ah hw0;have dG:=ah hM2
 clear k0 hw0 hM2 h hk hs1 hs2 hnm hs3 hs4 er
 go_enter Tryz.func119, Tryz.ntmps119
 go_upto_region 1 with fail
 rw [←HW0.out,←dG.out]
 go_upto_region 12 with (first
  | (go_at_call 51;(with_reducible refine (iD ⟨#[40]⟩ R0.out S1.out).mono ?_);rintro e w1 ⟨rfl,gY,eX⟩;have R1:=ah gY;have K1:Hid (Kept (· = N) w w1):=K0.out.trans eX;have Z1:=ah (Z0.out.kept eX (by have:=dG.out;omega));clear gY eX)
  | (go_at_call 51;(with_reducible refine (iD ⟨#[36]⟩ R1.out S2.out).mono ?_);rintro e w2 ⟨rfl,lg,iC⟩;have R2:=ah lg;have K2:Hid (Kept (· = N) w w2):=K1.out.trans iC;have Z2:=ah (Z1.out.kept iC (by have:=dG.out;omega));clear lg iC))
 obtain ⟨n2,a2,c2,hP⟩:=R2.out
 obtain ⟨c0,c1,cd,cf⟩:=hP.c0
 have hn:=hP.num
 rw [List.length_cons] at hn
 have h0:0<n2:=by omega
 have h1:(0:Int)<(n2:Int):=by omega
 have z:decide ((0:Int)<(n2:Int))=true:=ak h1
 have z':decide (0<n2)=true:=ak h0
 obtain ⟨o,rfl,t0,t1,t2⟩:=hP.head
 have y3:(t.kind==3)=false:=by simpa using HK.out.1
 have y2:(t.kind==2)=false:=by simpa using HK.out.2
 clear hn hP cf
 go_upto_region 22 with fail
 clear c0 c1 cd t0 t1 t2 y3 y2 z z'
 go_upto_region 23 with (go_at_call 48;(refine (iZ R2.out).mono ?_);intro e w3 iF;obtain ⟨eP,rfl,lJ⟩:=iF.ok Ac.out;have R3:=ah lJ;have K3:Hid (Kept (· = N) w w3):=K2.out.trans eP;have Z3:=ah (Z2.out.kept eP (by have:=dG.out;omega));clear eP lJ iF)
 have I4:Hid (jk N T en d M2 w3.heap.size w (.mk 3 E0 0 nm []) none 0 r1 (w3.alloc (.cells #[.int .i64 3,.string ⟨#[]⟩,.int .i64 0,.string nm,.slice none 0 0] 24))):=jk.start (w1:=w3) (p:=.mk 3 E0 0 nm []) (ka:=none) (cap:=0) (S:=aF) Z3.out K3.out R3.out (fun b hb=>hb.elim) ⟨by show E0.size<_;decide,by show nm.size<_;have:=kU Ac.out;omega,by show 0<_;decide⟩ (by show aI _ aF none [];unfold aI;trivial) hN K3.out.size Z3.out.lt
 have hsz:Hid (w.heap.size<w3.heap.size):=by have:=Z3.out.lt;have:=dG.out;unfold Hid;omega
 obtain ⟨w4,hw4⟩:∃w4,w4=w3.alloc (.cells #[.int .i64 3,.string ⟨#[]⟩,.int .i64 0,.string nm,.slice none 0 0] 24):=⟨_,rfl⟩
 obtain ⟨M5,qh⟩:∃M,M=w3.heap.size:=⟨_,rfl⟩
 rw [←hw4,←qh] at I4
 rw [←hw4,←qh]
 rw [←qh] at hsz
 have hM:Hid (N≠M2∧N≠M5∧T≠M2∧w.heap.size≤M2∧M2<M5):=by have:=dG.out;have:=hsz.out;unfold Hid;omega
 clear hw4 qh
 go_upto_region 36 with (first
  | (go_at_call 51;(with_reducible refine (iD ⟨#[60]⟩ I4.out.bY S3.out).mono ?_);rintro e w5 ⟨rfl,Eb,xM⟩;have I5:=ah (I4.out.bC hM.out.1 (by have:=hM.out;omega) xM Eb);clear Eb xM)
  | (go_at_call 51;(with_reducible refine (iD ⟨#[40]⟩ I5.out.bY S4.out).mono ?_);rintro e w6 ⟨rfl,zB,vw⟩;have I6:=ah (I5.out.bC hM.out.1 (by have:=hM.out;omega) vw zB);clear zB vw))
 obtain ⟨x0,x1,x2,x3,x4,_⟩:=I6.out.five.cells
 obtain ⟨z0,z1,z2,z3,z4,zf⟩:=I6.out.zero.cells
 have xP:=zf 0;have xQ:=zf 1;have xR:=zf 2;have yA:=zf 3;have yB:=zf 4
 clear zf
 go_wp2_with fail
 exact kR 2 rfl rfl (I6.out.zero.bI _ _ _ _ _) (I6.out.fin hM.out.1 hM.out.2.2.1 hM.out.2.2.2.1 hN rY.out)
theorem Td {N T en d:Nat} {ex pr:List aC→bK aA} {t:aC} {r:List aC} {w:World} (h:fE N T en (t::r) d w) (hk:t.kind≠3∧t.kind≠2) (hs1:aJ (bs [40]) (t::r)=false) (hs2:aJ (bs [36]) (t::r)=false) {nm:aj} {r1:List aC} (hnm:eF en (t::r)=.ok (nm,r1)) (HE:GY N T en d ex) (hs3:aJ (bs [60]) r1=true):Calls Tryz.prog 119 #[.pointer (some ⟨N,0,none⟩)] w (XQ N T en d (bP ex pr en (t::r)) w):=by
 have er:Hid (bP ex pr en (t::r)=match eF en (t::r) with
    | .error er=>.error er
    | .ok (nm,r) =>
     if aJ (bs [60]) r=true then
      match ex r.tail with
      | .error er=>.error er
      | .ok (x,r2)=>match eY (bs [62]) en r2 with
       | .error er=>.error er
       | .ok r3=>.ok (.mk 4 E0 0 nm [x],r3)
     else if aJ (bs [40]) r=true then
      if aJ (bs [41]) r.tail=true then .ok (.mk 6 E0 0 nm [],r.tail.tail)
      else match lD ex en 9 [] r.tail with
       | .error er=>.error er
       | .ok (ks,r2)=>.ok (.mk 6 E0 0 nm ks,r2)
     else .ok (.mk 3 E0 0 nm [],r)):=by unfold Hid bP;rw [hs1,hs2];simp only [fP,hk.1,hk.2,if_false,Bool.false_eq_true];rfl
 have S1:Hid (aJ ⟨#[40]⟩ (t::r)=false):=hs1;have S2:Hid (aJ ⟨#[36]⟩ (t::r)=false):=hs2;have HK:=ah hk
 have rY:Hid (bP ex pr en (t::r)=match ex r1.tail with | .error er=>.error er | .ok (x,r2)=>match eY (bs [62]) en r2 with | .error er=>.error er | .ok r3=>.ok (.mk 4 E0 0 nm [x],r3)):=by unfold Hid;rw [er.out,hnm];simp only [hs3,if_true]
 have Ac:=ah hnm;have S3:Hid (aJ ⟨#[60]⟩ r1=true):=hs3;have HEX:=ah HE
 obtain ⟨hN,hT,hne,h7⟩:=h.ng
 obtain ⟨w0,hw0⟩:∃w0,w0=w.alloc (.cells #[.int .i64 0,.string ⟨#[]⟩,.int .i64 0,.string ⟨#[]⟩,.slice none 0 0] 24):=⟨_,rfl⟩
 have k0:Kept aF w w0:=by rw [hw0];exact (Kept.refl _ _).alloc _
 obtain ⟨M2,hM2⟩:∃M,M=w.heap.size:=⟨_,rfl⟩
 have Z0:Hid (dO M2 (.int .i64 0) (.string ⟨#[]⟩) (.int .i64 0) (.string ⟨#[]⟩) (.slice none 0 0) w0):=by rw [hw0,hM2];exact ay w _
 have R0:=ah (h.kept k0 (fun h=>h) (fun h=>h))
 have K0:Hid (Kept (· = N) w w0):=k0.more (fun _ h=>h.elim)
 have HW0:=ah hw0;have dG:=ah hM2
 clear k0 hw0 hM2 h hk hs1 hs2 hnm hs3 er HE
 go_enter Tryz.func119, Tryz.ntmps119
 go_upto_region 1 with fail
 rw [←HW0.out,←dG.out]
 go_upto_region 12 with (first
  | (go_at_call 51;(with_reducible refine (iD ⟨#[40]⟩ R0.out S1.out).mono ?_);rintro e w1 ⟨rfl,gY,eX⟩;have R1:=ah gY;have K1:Hid (Kept (· = N) w w1):=K0.out.trans eX;have Z1:=ah (Z0.out.kept eX (by have:=dG.out;omega));clear gY eX)
  | (go_at_call 51;(with_reducible refine (iD ⟨#[36]⟩ R1.out S2.out).mono ?_);rintro e w2 ⟨rfl,lg,iC⟩;have R2:=ah lg;have K2:Hid (Kept (· = N) w w2):=K1.out.trans iC;have Z2:=ah (Z1.out.kept iC (by have:=dG.out;omega));clear lg iC))
 obtain ⟨n2,a2,c2,hP⟩:=R2.out
 obtain ⟨c0,c1,cd,cf⟩:=hP.c0
 have hn:=hP.num
 rw [List.length_cons] at hn
 have h0:0<n2:=by omega
 have h1:(0:Int)<(n2:Int):=by omega
 have z:decide ((0:Int)<(n2:Int))=true:=ak h1
 have z':decide (0<n2)=true:=ak h0
 obtain ⟨o,rfl,t0,t1,t2⟩:=hP.head
 have y3:(t.kind==3)=false:=by simpa using HK.out.1
 have y2:(t.kind==2)=false:=by simpa using HK.out.2
 clear hn hP cf
 go_upto_region 22 with fail
 clear c0 c1 cd t0 t1 t2 y3 y2 z z'
 go_upto_region 23 with (go_at_call 48;(refine (iZ R2.out).mono ?_);intro e w3 iF;obtain ⟨eP,rfl,lJ⟩:=iF.ok Ac.out;have R3:=ah lJ;have K3:Hid (Kept (· = N) w w3):=K2.out.trans eP;have Z3:=ah (Z2.out.kept eP (by have:=dG.out;omega));clear eP lJ iF)
 have I4:Hid (jk N T en d M2 w3.heap.size w (.mk 3 E0 0 nm []) none 0 r1 (w3.alloc (.cells #[.int .i64 3,.string ⟨#[]⟩,.int .i64 0,.string nm,.slice none 0 0] 24))):=jk.start (w1:=w3) (p:=.mk 3 E0 0 nm []) (ka:=none) (cap:=0) (S:=aF) Z3.out K3.out R3.out (fun b hb=>hb.elim) ⟨by show E0.size<_;decide,by show nm.size<_;have:=kU Ac.out;omega,by show 0<_;decide⟩ (by show aI _ aF none [];unfold aI;trivial) hN K3.out.size Z3.out.lt
 have hsz:Hid (w.heap.size<w3.heap.size):=by have:=Z3.out.lt;have:=dG.out;unfold Hid;omega
 obtain ⟨w4,hw4⟩:∃w4,w4=w3.alloc (.cells #[.int .i64 3,.string ⟨#[]⟩,.int .i64 0,.string nm,.slice none 0 0] 24):=⟨_,rfl⟩
 obtain ⟨M5,qh⟩:∃M,M=w3.heap.size:=⟨_,rfl⟩
 rw [←hw4,←qh] at I4
 rw [←hw4,←qh]
 rw [←qh] at hsz
 have hM:Hid (N≠M2∧N≠M5∧T≠M2∧w.heap.size≤M2∧M2<M5):=by have:=dG.out;have:=hsz.out;unfold Hid;omega
 clear hw4 qh
 go_upto_region 24 with (go_at_call 51;(with_reducible refine (nX ⟨#[60]⟩ I4.out.bY S3.out).mono ?_);rintro e w5 ⟨rfl,Eb,xM⟩;have I5:=ah (I4.out.bC hM.out.1 (by have:=hM.out;omega) xM Eb);clear Eb xM)
 cases hu:ex r1.tail with
 | error e0 =>
  go_wp2_with (go_at_call 81;(refine (HEX.out r1.tail w5 I5.out.bY).mono ?_);intro e w6 Iz;obtain ⟨vw,rfl⟩:=Iz.bad hu;have K6:=ah vw;clear vw Iz)
  exact ⟨rfl,XQ.thrown I5.out.kept K6.out (by rw [rY.out,hu])⟩
 | ok x =>
  obtain ⟨p,r2⟩:=x
  have oV:Hid (bP ex pr en (t::r)=match eY (bs [62]) en r2 with | .error er=>.error er | .ok r3=>.ok (.mk 4 E0 0 nm [p],r3)):=by unfold Hid;rw [rY.out,hu]
  clear rY
  go_upto_region 25 with (go_at_call 81;(refine (HEX.out r1.tail w5 I5.out.bY).mono ?_);intro e w6 Iz;obtain ⟨vw,zB,S,ka,cap,rfl,gQ,iU,eU⟩:=Iz.ok hu;have I7:=ah (jk.item (cap:=cap) I5.out hM.out.1 hM.out.2.1 (by have:=hM.out;omega) (by have:=hM.out;omega) hT hN vw zB gQ iU eU rfl);have I6:=ah (I5.out.bC hM.out.1 hM.out.2.1 vw zB);obtain ⟨g0,g1,g2,g3,g4,gf⟩:=(I6.out.five.kept ((Kept.refl aF w6).alloc (.cells #[.int .i64 p.kind,.string p.text,.int .i64 p.n,.string p.name,.slice ka p.kids.length cap] 24)) (fun h=>h)).cells;have gf0:=gf 0;have gf4:=gf 4;clear gf vw zB gQ iU eU Iz)
  obtain ⟨w7,hw7⟩:∃w7,w7=((w6.alloc (.cells #[.int .i64 p.kind,.string p.text,.int .i64 p.n,.string p.name,.slice ka p.kids.length cap] 24)).setCell ⟨M5,0,none⟩ (.int .i64 4)).setCell ⟨M5,4,none⟩ (.slice (some ⟨w6.heap.size,0,none⟩) 1 1):=⟨_,rfl⟩
  rw [←hw7] at I7
  rw [←hw7]
  clear hw7 g0 g1 g2 g3 g4 gf0 gf4
  cases hv:eY (bs [62]) en r2 with
  | error e0 =>
   go_wp2_with (go_at_call 79;(refine (mJ (bs [62]) I7.out.bY).mono ?_);intro e w8 qB;obtain ⟨rJ,rfl⟩:=qB.bad hv;have K8:=ah rJ;clear rJ qB)
   exact ⟨rfl,XQ.thrown I7.out.kept K8.out (by rw [oV.out,hv])⟩
  | ok r3 =>
   have zC:Hid (bP ex pr en (t::r)=.ok (.mk 4 E0 0 nm [p],r3)):=by unfold Hid;rw [oV.out,hv]
   clear oV
   go_upto_region 36 with (go_at_call 79;(refine (mJ (bs [62]) I7.out.bY).mono ?_);intro e w8 qB;obtain ⟨rJ,rfl,Ad⟩:=qB.ok hv;have I8:=ah (I7.out.bC hM.out.1 hM.out.2.1 rJ Ad);clear rJ Ad qB)
   obtain ⟨x0,x1,x2,x3,x4,_⟩:=I8.out.five.cells
   obtain ⟨z0,z1,z2,z3,z4,zf⟩:=I8.out.zero.cells
   have xP:=zf 0;have xQ:=zf 1;have xR:=zf 2;have yA:=zf 3;have yB:=zf 4
   clear zf
   go_wp2_with fail
   exact kR 2 rfl rfl (I8.out.zero.bI _ _ _ _ _) (I8.out.fin hM.out.1 hM.out.2.2.1 hM.out.2.2.2.1 hN zC.out)
end Go.Proofs.YtefjbnhpjdhjmaaGreatDoor
