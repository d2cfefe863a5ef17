/-  -/
import Derived.Test.YtgoijmpahffnhaaGreatDoorLq19
import Derived.Test.YtgoijmpahffnhaaGreatDoorLq11
namespace Go.Proofs.YtgoijmpahffnhaaGreatDoor
set_option linter.all false
open Go.RowKit
theorem aad:∀(l:List UInt8) (acc:Nat),(∀c∈l,48≤c.toNat∧c.toNat≤57)→
  (l.foldl (fun n c=>n*10+(c.toNat-48)) acc≤18446744073709551615→Lib.parseUintM (2 ^ 64-1) acc l=.ok (l.foldl (fun n c=>n*10+(c.toNat-48)) acc))∧
  (18446744073709551615<l.foldl (fun n c=>n*10+(c.toNat-48)) acc→acc≤18446744073709551615→Lib.parseUintM (2 ^ 64-1) acc l=.range):=by
 have grow:∀(l:List UInt8) (acc:Nat),acc≤l.foldl (fun n c=>n*10+(c.toNat-48)) acc:=by
  intro l
  induction l with
  | nil=>intro acc;exact Nat.le_refl _
  | cons c r ih=>intro acc;rw [List.foldl_cons];exact Nat.le_trans (by omega) (ih _)
 intro l
 induction l with
 | nil=>intro acc _;exact ⟨fun _=>rfl,fun h h2=>by simp at h;omega⟩
 | cons c r ih =>
  intro acc hd
  have hc:=hd c (List.mem_cons_self ..)
  have ih':=ih (acc*10+(c.toNat-48)) (fun x hx=>hd x (List.mem_cons_of_mem _ hx))
  rw [List.foldl_cons]
  have hg:=grow r (acc*10+(c.toNat-48))
  refine ⟨fun hle=>?_,fun hlt hacc=>?_⟩
  ·rw [Lib.parseUintM,if_pos hc,if_neg (by omega),if_neg (by omega)]
   exact ih'.1 hle
  ·rw [Lib.parseUintM,if_pos hc]
   by_cases h1:1844674407370955162≤acc
   ·rw [if_pos h1]
   ·rw [if_neg h1]
    by_cases h2:2 ^ 64-1<acc*10+(c.toNat-48)
    ·rw [if_pos h2]
    ·rw [if_neg h2];exact ih'.2 hlt (by omega)
theorem agU (l:List UInt8) (h0:l≠[]) (hd:∀c∈l,48≤c.toNat∧c.toNat≤57) :
  (qP l≤9223372036854775807→Lib.parseIntB 64 l=.ok (qP l))∧(9223372036854775807<qP l→Lib.parseIntB 64 l=.range):=by
 cases l with
 | nil=>exact absurd rfl h0
 | cons c r =>
  have hc:=hd c (List.mem_cons_self ..)
  have hp:=aad (c::r) 0 hd
  have e:Lib.parseUintB 64 (c::r)=Lib.parseUintM (2 ^ 64-1) 0 (c::r):=by unfold Lib.parseUintB;rw [if_neg (by simp)]
  have en:qP (c::r)=(c::r).foldl (fun n c=>n*10+(c.toNat-48)) 0:=rfl
  rw [en]
  refine ⟨fun hle=>?_,fun hlt=>?_⟩
  ·unfold Lib.parseIntB
   dsimp only
   rw [if_neg (by omega),e,hp.1 (by omega)]
   dsimp only
   rw [if_neg (by omega),if_neg (by omega),if_neg (by omega)]
  ·unfold Lib.parseIntB
   dsimp only
   rw [if_neg (by omega),e]
   by_cases h2:(c::r).foldl (fun n c=>n*10+(c.toNat-48)) 0≤18446744073709551615
   ·rw [hp.1 h2]
    dsimp only
    rw [if_pos (by omega)]
   ·rw [hp.2 (by omega) (by omega)]
theorem fQ.start {N T en d M4:Nat} {w w1 w3:World} {p:aB} {ka:Option Addr} {cap:Nat} {r:List aC} {S:Nat→Prop} (Z:dS M4 (.int .i64 0) (.string ⟨#[]⟩) (.int .i64 0) (.string ⟨#[]⟩) (.slice none 0 0) w3) (K:Kept (· = N) w w3) (hR:bZ N T en r d w3)
  (hS:∀b,S b→w1.heap.size≤b∧b<w3.heap.size) (hz:p.text.size<1000000000∧p.name.size<1000000000∧p.kids.length<1000000000) (hk:aN w3 S ka p.kids) (hN:N<w.heap.size) (hw:w.heap.size≤w1.heap.size) (h4:M4<w1.heap.size) :
  fQ N T en d M4 w3.heap.size w p ka cap r (w3.alloc (.cells #[.int .i64 p.kind,.string p.text,.int .i64 p.n,.string p.name,.slice ka p.kids.length cap] 54)):=by
 have k5:Kept aA w3 (w3.alloc (.cells #[.int .i64 p.kind,.string p.text,.int .i64 p.n,.string p.name,.slice ka p.kids.length cap] 54)):=(Kept.refl _ _).alloc _
 have hsz:(w3.alloc (.cells #[.int .i64 p.kind,.string p.text,.int .i64 p.n,.string p.name,.slice ka p.kids.length cap] 54)).heap.size=w3.heap.size+1:=by simp
 refine ⟨hR.kept k5 (fun h=>h) (fun h=>h),ay w3 _,⟨S,hk.kept k5 (fun b hb=>⟨(hS b hb).2,fun h=>h⟩),fun b hb=>by have:=hS b hb;omega⟩,hz,Z.kept k5 (fun h=>h),K.trans (k5.more (fun _ h=>h.elim))⟩
theorem fQ.agV {N T en d M4:Nat} {w w1 w3:World} {p:aB} {ka:Option Addr} {cap:Nat} {r:List aC} {S:Nat→Prop} (k:Int) (Z:dS M4 (.int .i64 0) (.string ⟨#[]⟩) (.int .i64 0) (.string ⟨#[]⟩) (.slice none 0 0) w3) (K:Kept (· = N) w w3) (hR:bZ N T en r d w3)
  (hS:∀b,S b→w1.heap.size≤b∧b<w3.heap.size) (hz:p.text.size<1000000000∧p.name.size<1000000000∧p.kids.length<1000000000) (hk:aN w3 S ka p.kids) (hN:N<w.heap.size) (hw:w.heap.size≤w1.heap.size) (h4:M4<w1.heap.size) (h13:w1.heap.size≤w3.heap.size) :
  fQ N T en d M4 (w3.heap.size+1) w (node1 k p) (some ⟨w3.heap.size,0,none⟩) 1 r ((w3.alloc (.cells #[.int .i64 p.kind,.string p.text,.int .i64 p.n,.string p.name,.slice ka p.kids.length cap] 54)).alloc (.cells #[.int .i64 k,.string ⟨#[]⟩,.int .i64 0,.string ⟨#[]⟩,.slice (some ⟨w3.heap.size,0,none⟩) 1 1] 54)):=by
 obtain ⟨w4,hw4⟩:∃w4,w4=w3.alloc (.cells #[.int .i64 p.kind,.string p.text,.int .i64 p.n,.string p.name,.slice ka p.kids.length cap] 54):=⟨_,rfl⟩
 rw [←hw4]
 have k4:Kept aA w3 w4:=by rw [hw4];exact (Kept.refl _ _).alloc _
 have z4:w4.heap.size=w3.heap.size+1:=by rw [hw4];simp
 have f4:dS w3.heap.size (.int .i64 p.kind) (.string p.text) (.int .i64 p.n) (.string p.name) (.slice ka p.kids.length cap) w4:=by rw [hw4];exact ay w3 _
 have hp1:=Xh f4 hz (hk.kept k4 (fun b hb=>⟨(hS b hb).2,fun h=>h⟩)) (fun b hb=>by have:=hS b hb;omega)
 have agW:w.heap.size≤w3.heap.size:=K.size
 have hl:=Z.lt
 have:=fQ.start (w1:=w1) (S:=fun b=>S b∨b=w3.heap.size) (p:=node1 k p) (cap:=1) (Z.kept k4 (fun h=>h)) (K.trans (k4.more (fun _ h=>h.elim))) (hR.kept k4 (fun h=>h) (fun h=>h)) ?_ ⟨by show E0.size<_;decide,by show E0.size<_;decide,by simp [node1,aB.kids]⟩ hp1 hN hw h4
 ·rw [z4] at this;exact this
 ·rintro b (hb|rfl)
  ·have:=hS b hb;omega
  ·omega
theorem fQ.item {N T en d M4 M5:Nat} {w w1 w3:World} {nm:aj} {p:aB} {ka:Option Addr} {cap:Nat} {l1 r:List aC} {S:Nat→Prop} (h:fQ N T en d M4 M5 w (.mk 3 E0 0 nm []) none 0 l1 w1) (hn4:N≠M4) (zo:N≠M5) (h45:M4≠M5) (hw5:w.heap.size≤M5) (hTw:T<w.heap.size) (hNw:N<w.heap.size)
  (hk:Kept (· = N) w1 w3) (hr:bZ N T en r d w3) (hS:∀b,S b→w1.heap.size≤b∧b<w3.heap.size) (hz:p.text.size<1000000000∧p.name.size<1000000000∧p.kids.length<1000000000) (hp:aN w3 S ka p.kids) {w4:World}
  (hw:w4=w3.alloc (.cells #[.int .i64 p.kind,.string p.text,.int .i64 p.n,.string p.name,.slice ka p.kids.length cap] 54)) :
  fQ N T en d M4 M5 w (.mk 4 E0 0 nm [p]) (some ⟨w3.heap.size,0,none⟩) 1 r ((w4.setCell ⟨M5,0,none⟩ (.int .i64 4)).setCell ⟨M5,4,none⟩ (.slice (some ⟨w3.heap.size,0,none⟩) 1 1)):=by
 have h3:=h.aS hn4 zo hk hr
 obtain ⟨_,f3,_,z3,o3,k3⟩:=h3
 have k4:Kept aA w3 w4:=by rw [hw];exact (Kept.refl _ _).alloc _
 have hsz:w4.heap.size=w3.heap.size+1:=by rw [hw];simp
 have f4:dS w3.heap.size (.int .i64 p.kind) (.string p.text) (.int .i64 p.n) (.string p.name) (.slice ka p.kids.length cap) w4:=by rw [hw];exact ay w3 _
 have g4:=f3.kept k4 (fun h=>h)
 have k6:Kept (· = M5) w4 ((w4.setCell ⟨M5,0,none⟩ (.int .i64 4)).setCell ⟨M5,4,none⟩ (.slice (some ⟨w3.heap.size,0,none⟩) 1 1)):=((Kept.refl (· = M5) w4).setCell (p:=⟨M5,0,none⟩) (.inl rfl) _).setCell (p:=⟨M5,4,none⟩) (.inl rfl) _
 have hw1:w.heap.size≤w1.heap.size:=h.kept.size
 have l3:=f3.lt;have o3l:=o3.lt;have agW:=hk.size
 have l1':=h.five.lt
 have hp1:=Xh f4 hz (hp.kept k4 (fun b hb=>⟨(hS b hb).2,fun h=>h⟩)) (fun b hb=>by have:=hS b hb;omega)
 have hout:∀b,(S b∨b=w3.heap.size)→w.heap.size≤b∧b<w4.heap.size∧b≠M4∧b≠M5∧b≠N:=by
  have:=h.zero.lt
  rintro b (hb|rfl)
  ·have:=hS b hb;omega
  ·omega
 refine ⟨(hr.kept k4 (fun h=>h) (fun h=>h)).kept k6 zo (by omega) (by have:=hr.jo;omega),?_,⟨fun b=>S b∨b=w3.heap.size,hp1.kept k6 (fun b hb=>⟨(hout b hb).2.1,(hout b hb).2.2.2.1⟩),fun b hb=>by have:=hout b hb;have:=k6.size;omega⟩,⟨z3.1,z3.2.1,by simp [aB.kids]⟩,(o3.kept k4 (fun h=>h)).kept k6 h45,(k3.trans (k4.more (fun _ h=>h.elim))).step k6 (fun y hy=>.inr (by omega))⟩
 unfold dS at g4⊢
 rw [aT (aT g4 _) _];rfl
structure oz (N T en d M4 M5:Nat) (w:World) (nm:aj) (ks:List aB) (v:Value) (l:List aC) (wx:World):Prop where
 bI:bZ N T en l d wx
 five:dS M5 (.int .i64 6) (.string ⟨#[]⟩) (.int .i64 0) (.string nm) v wx
 own:∃(cs:List Value) (S:Nat→Prop),aO wx (M5+1) 54 5 v ks.length cs∧gK wx S cs ks∧∀b,S b→M5<b∧b<wx.heap.size∧v.ownBlock≠some b
 sz:nm.size<1000000000
 zero:dS M4 (.int .i64 0) (.string ⟨#[]⟩) (.int .i64 0) (.string ⟨#[]⟩) (.slice none 0 0) wx
 kept:Kept (· = N) w wx
theorem oz.start {N T en d M4 M5:Nat} {w w1:World} {nm:aj} {l:List aC} (h:fQ N T en d M4 M5 w (.mk 3 E0 0 nm []) none 0 l w1) (zo:N≠M5) (h45:M4≠M5) (hw5:w.heap.size≤M5) (hTw:T<w.heap.size) (hNw:N<w.heap.size) :
  oz N T en d M4 M5 w nm [] (.slice none 0 0) l (w1.setCell ⟨M5,0,none⟩ (.int .i64 6)):=by
 obtain ⟨h1,h2,_,h5,h6,h7⟩:=h
 have k6:Kept (· = M5) w1 (w1.setCell ⟨M5,0,none⟩ (.int .i64 6)):=(Kept.refl (· = M5) w1).setCell (p:=⟨M5,0,none⟩) (.inl rfl) _
 refine ⟨h1.kept k6 zo (by omega) (by have:=h1.jo;omega),?_,⟨[],aA,aO.nil _ _ _ _,by rw [gK],fun b hb=>hb.elim⟩,h5.2.1,h6.kept k6 h45,h7.step k6 (fun y hy=>.inr (by omega))⟩
 unfold dS at h2⊢
 rw [aT h2 _];rfl
theorem oz.aS {N T en d M4 M5:Nat} {w:World} {nm:aj} {ks:List aB} {v:Value} {l l2:List aC} {wx wy:World} (h:oz N T en d M4 M5 w nm ks v l wx) (hn4:N≠M4) (zo:N<M5) (hk:Kept (· = N) wx wy) (hr:bZ N T en l2 d wy):oz N T en d M4 M5 w nm ks v l2 wy:=by
 obtain ⟨h1,h2,⟨cs,S,h3,h4,h5⟩,h6,h7,h8⟩:=h
 exact ⟨hr,h2.kept hk (by omega),⟨cs,S,h3.kept hk (fun k hk e=>by have:=(h3.lt k hk).1;omega),h4.kept hk (fun b hb=>⟨(h5 b hb).2.1,fun e=>by have:=(h5 b hb).1;omega⟩),fun b hb=>⟨(h5 b hb).1,Nat.lt_of_lt_of_le (h5 b hb).2.1 hk.size,(h5 b hb).2.2⟩⟩,h6,h7.kept hk (Ne.symm hn4),h8.trans hk⟩
theorem oz.done {N T en d M4 M5:Nat} {w:World} {nm:aj} {ks:List aB} {a:Option Addr} {c:Nat} {l:List aC} {wx:World} (h:oz N T en d M4 M5 w nm ks (.slice a ks.length c) l wx) (h45:M4<M5) (hw5:w.heap.size≤M5) (hNw:N<w.heap.size) (hks:ks.length≤8) :
  fQ N T en d M4 M5 w (.mk 6 E0 0 nm ks) a c l wx:=by
 obtain ⟨h1,h2,⟨cs,S,h3,h4,h5⟩,h6,h7,h8⟩:=h
 refine ⟨h1,h2,?_,⟨by show E0.size<_;decide,h6,by show ks.length<_;omega⟩,h7,h8⟩
 rcases h3.cells with ⟨hv,hn⟩|⟨g,o,c',hv,hg1,hg2,_,_,hc⟩
 ·obtain rfl:=List.length_eq_zero_iff.1 hn
  exact ⟨aA,by show aN wx aA a [];unfold aN;trivial,fun b hb=>hb.elim⟩
 ·simp only [Value.slice.injEq,true_and] at hv
  obtain ⟨rfl,rfl⟩:=hv
  refine ⟨fun b=>S b∨b=g,h4.pats g o (fun j u hu=>(hc j u hu).1),fun b hb=>?_⟩
  rcases hb with hb|rfl
  ·have:=h5 b hb;omega
  ·omega
theorem oz.step {N T en d M4 M5:Nat} {w:World} {nm:aj} {ks:List aB} {v:Value} {l r:List aC} {w1 w3 w4:World} {q:aB} {kc:Option Addr} {qQ:Nat} {a':Option Addr} {c':Nat} {cs:List Value} {S1 S2:Nat→Prop}
  (I:oz N T en d M4 M5 w nm ks v l w1) (h1:aO w1 (M5+1) 54 5 v ks.length cs) (h2:gK w1 S1 cs ks) (h3:∀b,S1 b→M5<b∧b<w1.heap.size∧v.ownBlock≠some b) (h45:M4<M5) (hw5:w.heap.size≤M5) (hNw:N<w.heap.size) (hTw:T<w.heap.size) (hw4:w.heap.size≤M4)
  (K3:Kept (· = N) w1 w3) (hr:bZ N T en r d w3) (hz:q.text.size<1000000000∧q.name.size<1000000000∧q.kids.length<1000000000) (hS2:∀b,S2 b→w1.heap.size≤b∧b<w3.heap.size) (hq:aN w3 S2 kc q.kids)
  (hw:aO w4 (M5+1) 54 5 (.slice a' (ks.length+1) c') (ks.length+1) (cs++[.int .i64 q.kind,.string q.text,.int .i64 q.n,.string q.name,.slice kc q.kids.length qQ])) (hg:(w3.alloc (.cells #[.int .i64 q.kind,.string q.text,.int .i64 q.n,.string q.name,.slice kc q.kids.length qQ] 54)).grownBy w4 v.ownBlock)
  (ho:(Value.slice a' (ks.length+1) c').ownBlock=v.ownBlock∨(Value.slice a' (ks.length+1) c').ownBlock=some (w3.heap.size+1)) :
  oz N T en d M4 M5 w nm (ks++[q]) (.slice a' (ks.length+1) c') r (w4.setCell ⟨M5,4,none⟩ (.slice a' (ks.length+1) c')):=by
 have kA:Kept aA w3 (w3.alloc (.cells #[.int .i64 q.kind,.string q.text,.int .i64 q.n,.string q.name,.slice kc q.kids.length qQ] 54)):=(Kept.refl _ _).alloc _
 have hlow:∀b,v.ownBlock=some b→M5+1≤b∧b<w1.heap.size:=h1.lt
 have hs3:=K3.size
 have hl5:=I.five.lt
 have Ea:Kept (fun b=>v.ownBlock=some b) w3 w4:=(kA.more fun _ h=>h.elim).grown hg fun b hb=>.inl hb
 have K5:Kept (· = M5) w4 (w4.setCell ⟨M5,4,none⟩ (.slice a' (ks.length+1) c')):=(Kept.refl (· = M5) w4).setCell (p:=⟨M5,4,none⟩) (.inl rfl) _
 have ajT:=Ea.size
 have hnew:∀g,(Value.slice a' (ks.length+1) c').ownBlock=some g→M5+1≤g:=fun g hg=>(hw.lt g hg).1
 have I3:=I.aS (by omega) (by omega) K3 hr
 have x4:dS M5 (.int .i64 6) (.string ⟨#[]⟩) (.int .i64 0) (.string nm) v w4:=I3.five.kept Ea (fun h=>by have:=hlow _ h;omega)
 refine ⟨(hr.kept Ea (fun h=>by have:=hlow _ h;omega) (fun h=>by have:=hlow _ h;omega) (fun h=>by have:=hlow _ h;have:=hr.jo;omega)).kept K5 (by omega) (by omega) (by have:=hr.jo;omega),?_,?_,I.sz,(I3.zero.kept Ea (fun h=>by have:=hlow _ h;omega)).kept K5 (by omega),(I3.kept.step Ea (fun y hy=>.inr (by have:=hlow y hy;omega))).step K5 (fun y hy=>.inr (by omega))⟩
 ·unfold dS at x4⊢
  rw [aT x4 _];rfl
 refine ⟨_,fun b=>S1 b∨S2 b,by rw [List.length_append];exact hw.kept K5 (fun g hg=>by have:=hnew g hg;omega),?_,fun b hb=>?_⟩
 ·refine gK.kept (X:=(· = M5)) (w:=w4) ?_ K5 (fun b hb=>⟨by rcases hb with hb|hb;have:=(h3 b hb).2.1;omega;exact Nat.lt_of_lt_of_le (hS2 b hb).2 ajT,by rcases hb with hb|hb;have:=h3 b hb;omega;have:=hS2 b hb;omega⟩)
  refine gK.append ?_ ?_
  ·exact ((h2.kept K3 (fun b hb=>⟨(h3 b hb).2.1,by have:=h3 b hb;omega⟩)).kept Ea (fun b hb=>⟨by have:=h3 b hb;omega,(h3 b hb).2.2⟩)).more fun b h=>.inl h
  ·rw [gK];refine ⟨_,[],(List.append_nil _).symm,⟨kc,qQ,rfl,hz,?_⟩,rfl⟩
   exact aN.to hq Ea (fun b hb=>⟨(hS2 b hb).2,fun h=>by have:=hlow b h;have:=(hS2 b hb).1;omega⟩) (fun b h=>.inr h)
 ·have hs5:=K5.size
  rcases hb with hb|hb
  ·have:=h3 b hb
   refine ⟨this.1,by omega,?_⟩
   rcases ho with h|h
   ·rw [h];exact this.2.2
   ·rw [h];simp;omega
  ·have:=hS2 b hb
   refine ⟨by omega,by omega,?_⟩
   rcases ho with h|h
   ·rw [h];intro h';have:=hlow b h';omega
   ·rw [h];simp;omega
end Go.Proofs.YtgoijmpahffnhaaGreatDoor

namespace Go.Proofs.YtgoijmpahffnhaaGreatDoor
set_option linter.all false
open Go.RowKit
set_option maxRecDepth 100000
set_option maxHeartbeats 8000000
theorem qY.ok {x:aj} {N T en d:Nat} {l r:List aC} {w w':World} {e:Ending} (h:qY x N T en l d w e w') (hr:dX x en l=.ok r):Kept (· = N) w w'∧e=.returned (.tuple #[])∧bZ N T en r d w':=by
 unfold qY at h;rw [hr] at h;exact ⟨h.1,h.2.1,h.2.2⟩
theorem qY.bad {x:aj} {N T en d:Nat} {l:List aC} {w w':World} {e:Ending} {er:Er} (h:qY x N T en l d w e w') (hr:dX x en l=.error er):Kept (· = N) w w'∧jq er e:=by
 unfold qY at h;rw [hr] at h;exact h
theorem uJ.ok {N T en d:Nat} {l r:List aC} {w w':World} {e:Ending} {x:aj} (h:uJ N T en l d w e w') (hr:dN en l=.ok (x,r)):Kept (· = N) w w'∧e=.returned (.string x)∧bZ N T en r d w':=by
 unfold uJ at h;rw [hr] at h;exact ⟨h.1,h.2.1,h.2.2⟩
theorem uJ.bad {N T en d:Nat} {l:List aC} {w w':World} {e:Ending} {er:Er} (h:uJ N T en l d w e w') (hr:dN en l=.error er):Kept (· = N) w w'∧jq er e:=by
 unfold uJ at h;rw [hr] at h;exact h
theorem uH.ok {k:Int} {N T en d:Nat} {l r:List aC} {w w':World} {e:Ending} {t:aC} (h:uH k N T en l d w e w') (hr:eF k en l=.ok (t,r)):Kept (· = N) w w'∧e=.returned (FI t)∧bZ N T en r d w':=by
 unfold uH at h;rw [hr] at h;exact ⟨h.1,h.2.1,h.2.2⟩
theorem uH.bad {k:Int} {N T en d:Nat} {l:List aC} {w w':World} {e:Ending} {er:Er} (h:uH k N T en l d w e w') (hr:eF k en l=.error er):Kept (· = N) w w'∧jq er e:=by
 unfold uH at h;rw [hr] at h;exact h
theorem XQ.thrown {N T en d:Nat} {r:bf aB} {w w2 w3:World} {er:Er} (K:Kept (· = N) w w2) (k:Kept (· = N) w2 w3) (hr:r=.error er):XQ N T en d r w (.panicked [{v:=bK er,recovered:=false}]) w3:=by
 subst hr;exact ⟨K.trans k,rfl⟩
theorem jG {N T en d:Nat} {l:List aC} {w:World} (x:aj) (h:bZ N T en l d w) (hs:aG x l=true):Calls Tryz.prog 53 #[.pointer (some ⟨N,0,none⟩),.string x] w (fun e w'=>e=.returned (.bool true)∧bZ N T en l.tail d w'∧Kept (· = N) w w'):=by
 refine (xU x h).mono ?_
 rintro e w' ⟨h1,h2,h3⟩
 rw [hs] at h1 h2
 exact ⟨h1,h2,h3⟩
theorem dY {N T en d:Nat} {l:List aC} {w:World} (x:aj) (h:bZ N T en l d w) (hs:aG x l=false):Calls Tryz.prog 53 #[.pointer (some ⟨N,0,none⟩),.string x] w (fun e w'=>e=.returned (.bool false)∧bZ N T en l d w'∧Kept (· = N) w w'):=by
 refine (xU x h).mono ?_
 rintro e w' ⟨h1,h2,h3⟩
 rw [hs] at h1 h2
 exact ⟨h1,h2,h3⟩
theorem aaf {N T en d:Nat} {ex pr:List aC→bf aB} (HE:GI N T en d ex) {l:List aC} {w:World} (h:bZ N T en l d w) (hs:aG (bs [40]) l=true):Calls Tryz.prog 235 #[.pointer (some ⟨N,0,none⟩)] w (XQ N T en d (bg ex pr en l) w):=by
 have er:Hid (bg ex pr en l=match ex l.tail with | .error er=>.error er | .ok (x,r)=>match dX (bs [41]) en r with | .error er=>.error er | .ok r2=>.ok (x,r2)):=by unfold Hid bg;rw [if_pos hs];rfl
 obtain ⟨hN,hT,hne,h7⟩:=h.jo
 obtain ⟨w0,hw0⟩:∃w0,w0=w.alloc (.cells #[.int .i64 0,.string ⟨#[]⟩,.int .i64 0,.string ⟨#[]⟩,.slice none 0 0] 54):=⟨_,rfl⟩
 have k0:Kept aA w w0:=by rw [hw0];exact (Kept.refl _ _).alloc _
 obtain ⟨M2,hM2⟩:∃M,M=w.heap.size:=⟨_,rfl⟩
 have Z0:Hid (dS M2 (.int .i64 0) (.string ⟨#[]⟩) (.int .i64 0) (.string ⟨#[]⟩) (.slice none 0 0) w0):=by rw [hw0,hM2];exact ay w _
 have R0:=ah (h.kept k0 (fun h=>h) (fun h=>h))
 have K0:Hid (Kept (· = N) w w0):=k0.more (fun _ h=>h.elim)
 have HW0:=ah hw0;have bD:=ah hM2
 have hsz0:Hid (w0.heap.size=w.heap.size+1):=by unfold Hid;rw [hw0];simp
 have HEX:=ah HE;have HS:=ah hs
 clear k0 hw0 hM2 h HE hs
 go_enter Tryz.func235, Tryz.ntmps235
 go_upto_region 1 with fail
 rw [←HW0.out,←bD.out]
 go_upto_region 3 with (first
  | (go_at_call 53;(refine (jG (bs [40]) R0.out HS.out).mono ?_);rintro e w1 ⟨rfl,dV,bG⟩;have R1:=ah dV;have K1:Hid (Kept (· = N) w w1):=K0.out.trans bG;have Z1:=ah (Z0.out.kept bG (by have:=bD.out;omega));clear dV bG)
  | (go_at_call 90;(refine (HEX.out l.tail w1 R1.out).mono ?_);intro e w3 eG;rcases hu:ex l.tail with e0|⟨p,r⟩;(obtain ⟨bF,rfl⟩:=eG.bad hu;have f_:XQ N T en d (bg ex pr en l) w (.panicked [{v:=bK e0,recovered:=false}]) _:=XQ.thrown K1.out bF (by rw [er.out,hu]);exact ⟨rfl,f_⟩);(obtain ⟨bF,iO,S,ka,cap,rfl,iP,iQ,fZ⟩:=eG.ok hu;have K3:Hid (Kept (· = N) w w3):=K1.out.trans bF;have I5:=ah (fQ.start (cap:=cap) (Z1.out.kept bF (by have:=bD.out;omega)) K3.out iO iP iQ fZ hN K1.out.size Z1.out.lt);have L3:Hid (w1.heap.size≤w3.heap.size):=bF.size;have HU:=ah hu;clear bF iO iP iQ fZ eG hu)))
 have hM:Hid (N≠M2∧N≠w3.heap.size∧T≠M2∧w.heap.size≤M2):=by have:=bD.out;have:=K3.out.size;unfold Hid;omega
 go_upto_region 4 with (go_at_call 88;(refine (jf (bs [41]) I5.out.bI).mono ?_);intro e w6 II;rcases hv:dX (bs [41]) en r with e0|r2;(obtain ⟨nJ,rfl⟩:=II.bad hv;have f_:XQ N T en d (bg ex pr en l) w (.panicked [{v:=bK e0,recovered:=false}]) _:=XQ.thrown I5.out.kept nJ (by rw [er.out,HU.out];dsimp only;rw [hv]);exact ⟨rfl,f_⟩);(obtain ⟨nJ,rfl,yD⟩:=II.ok hv;have I6:=ah (I5.out.aS hM.out.1 hM.out.2.1 nJ yD);have fin:Hid (bg ex pr en l=.ok (p,r2)):=(by unfold Hid;rw [er.out,HU.out];dsimp only;rw [hv]);clear nJ yD II hv))
 obtain ⟨x0,x1,x2,x3,x4,_⟩:=I6.out.five.cells
 obtain ⟨z0,z1,z2,z3,z4,zf⟩:=I6.out.zero.cells
 have xA:=zf 0;have xB:=zf 1;have xC:=zf 2;have yB:=zf 3;have yC:=zf 4
 clear zf
 go_wp2_with fail
 exact iD 2 rfl rfl (I6.out.zero.fP _ _ _ _ _) (I6.out.fin hM.out.1 hM.out.2.2.1 hM.out.2.2.2 hN fin.out)
end Go.Proofs.YtgoijmpahffnhaaGreatDoor

namespace Go.Proofs.YtgoijmpahffnhaaGreatDoor
set_option linter.all false
open Go.RowKit
set_option maxRecDepth 100000
set_option maxHeartbeats 8000000
theorem GL {N T en d M2:Nat} {w w3:World} {k n:Int} {tx nm:aj} {r:List aC} {res:bf aB} {z0 z1 z2 z3 z4:Value} (Z:dS M2 z0 z1 z2 z3 z4 w3) (K:Kept (· = N) w w3) (R:bZ N T en r d w3) (hM:M2=w.heap.size) (hN:N<w.heap.size) (hT:T<w.heap.size)
  (htx:tx.size<1000000000) (hnm:nm.size<1000000000) (hr:res=.ok (.mk k tx n nm [],r)) :
  XQ N T en d res w (.returned (.agg #[.int .i64 k,.string tx,.int .i64 n,.string nm,.slice none 0 0])) (fP w3 M2 (.int .i64 k) (.string tx) (.int .i64 n) (.string nm) (.slice none 0 0)):=by
 subst hr
 have k7:Kept (· = M2) w3 (fP w3 M2 (.int .i64 k) (.string tx) (.int .i64 n) (.string nm) (.slice none 0 0)):=(Kept.refl (· = M2) w3).fP (.inl rfl) _ _ _ _ _
 exact ⟨K.step k7 (fun y hy=>.inr (by omega)),⟨_,rfl,aA,fun b hb=>hb.elim,none,0,rfl,⟨htx,hnm,by simp [aB.kids]⟩,by show aN _ aA none [];unfold aN;trivial⟩,R.kept k7 (by omega) (by omega) (by have:=R.jo;omega)⟩
theorem BX {k:Int} {en:Nat} {t:aC} {r:List aC} (h:t.kind=k):eF k en (t::r)=.ok (t,r):=if_pos h
theorem nK {x:aj} {t:aC} {r:List aC} (h:t.kind≠5):aG x (t::r)=false:=au (fun h2=>h h2.1)
theorem Xi {N T en d:Nat} {ex pr:List aC→bf aB} {t:aC} {r:List aC} {w:World} (h:bZ N T en (t::r) d w) (hk:t.kind=3):Calls Tryz.prog 235 #[.pointer (some ⟨N,0,none⟩)] w (XQ N T en d (bg ex pr en (t::r)) w):=by
 have er:Hid (bg ex pr en (t::r)=.ok (.mk 1 t.text 0 E0 [],r)):=by unfold Hid bg;rw [nK (by omega),nK (by omega),BX hk];rfl
 have hfld:∀wx,(Instr.field 105 (.agg #[.int .i64 t.kind,.string t.text,.int .i64 t.at_]) 1).run Tryz.prog wx=.ok (.string t.text) wx:=fun _=>by kernel_rfl
 have S1:Hid (aG ⟨#[40]⟩ (t::r)=false):=nK (by omega)
 have S2:Hid (aG ⟨#[36]⟩ (t::r)=false):=nK (by omega)
 have TK:Hid (eF 3 en (t::r)=.ok (t,r)):=BX hk
 have HK:=ah hk
 have htb:Hid (t.text.size<1000000000):=by obtain ⟨_,_,_,h⟩:=h;have:=(h.good t (List.mem_cons_self ..)).2.1;unfold Hid;omega
 obtain ⟨hN,hT,hne,h7⟩:=h.jo
 obtain ⟨w0,hw0⟩:∃w0,w0=w.alloc (.cells #[.int .i64 0,.string ⟨#[]⟩,.int .i64 0,.string ⟨#[]⟩,.slice none 0 0] 54):=⟨_,rfl⟩
 have k0:Kept aA w w0:=by rw [hw0];exact (Kept.refl _ _).alloc _
 obtain ⟨M2,hM2⟩:∃M,M=w.heap.size:=⟨_,rfl⟩
 have Z0:Hid (dS M2 (.int .i64 0) (.string ⟨#[]⟩) (.int .i64 0) (.string ⟨#[]⟩) (.slice none 0 0) w0):=by rw [hw0,hM2];exact ay w _
 have R0:=ah (h.kept k0 (fun h=>h) (fun h=>h))
 have K0:Hid (Kept (· = N) w w0):=k0.more (fun _ h=>h.elim)
 have HW0:=ah hw0;have bD:=ah hM2
 clear k0 hw0 hM2 h hk
 go_enter Tryz.func235, Tryz.ntmps235
 go_upto_region 1 with fail
 rw [←HW0.out,←bD.out]
 go_upto_region 12 with (first
  | (go_at_call 53;(with_reducible refine (dY ⟨#[40]⟩ R0.out S1.out).mono ?_);rintro e w1 ⟨rfl,dV,bG⟩;have R1:=ah dV;have K1:Hid (Kept (· = N) w w1):=K0.out.trans bG;have Z1:=ah (Z0.out.kept bG (by have:=bD.out;omega));clear dV bG)
  | (go_at_call 53;(with_reducible refine (dY ⟨#[36]⟩ R1.out S2.out).mono ?_);rintro e w2 ⟨rfl,iI,bU⟩;have R2:=ah iI;have K2:Hid (Kept (· = N) w w2):=K1.out.trans bU;have Z2:=ah (Z1.out.kept bU (by have:=bD.out;omega));clear iI bU))
 obtain ⟨n2,a2,c2,hP⟩:=R2.out
 obtain ⟨c0,c1,cd,cf⟩:=hP.c0
 have hn:=hP.num
 rw [List.length_cons] at hn
 have h0:0<n2:=by omega
 have h1:(0:Int)<(n2:Int):=by omega
 have z:decide ((0:Int)<(n2:Int))=true:=ak h1
 have z':decide (0<n2)=true:=ak h0
 obtain ⟨o,rfl,t0,t1,t2⟩:=hP.head
 have y:(t.kind==3)=true:=by simpa using HK.out
 clear hn hP cf
 go_upto_region 13 with fail
 clear c0 c1 cd t0 t1 t2 y z z'
 go_wp2_with (go_at_call 86;(refine (tC 3 R2.out).mono ?_);intro e w3 eG;obtain ⟨bF,Ee,iO⟩:=eG.ok TK.out;unfold FI at Ee;subst Ee;have R3:=ah iO;have K3:Hid (Kept (· = N) w w3):=K2.out.trans bF;have Z3:=ah (Z2.out.kept bF (by have:=bD.out;omega));obtain ⟨z0,z1,z2,z3,z4,zf⟩:=Z3.out.cells;have xA:=zf 0;have xB:=zf 1;have xC:=zf 2;have yB:=zf 3;have yC:=zf 4;clear zf iO bF eG)
 exact iD 2 rfl rfl (Z3.out.fP _ _ _ _ _) (GL Z3.out K3.out R3.out bD.out hN hT htb.out (by decide) er.out)
end Go.Proofs.YtgoijmpahffnhaaGreatDoor

namespace Go.Proofs.YtgoijmpahffnhaaGreatDoor
set_option linter.all false
open Go.RowKit
set_option maxRecDepth 100000
set_option maxHeartbeats 8000000
theorem IJ {x y:aj} {l:List aC} (h:aG x l=true) (hne:x≠y):aG y l=false:=by
 cases l with
 | nil=>rfl
 | cons t r=>exact au (fun h2=>hne ((of_decide_eq_true h).2.symm.trans h2.2))
theorem fQ.agY {N T en d M4 M5:Nat} {w:World} {x:aB} {ka:Option Addr} {cap:Nat} {l:List aC} {wx:World} (h:fQ N T en d M4 M5 w x ka cap l wx) (hn4:N≠M4) (zo:N≠M5) (d2:Nat):fQ N T en d2 M4 M5 w x ka cap l (wx.setCell ⟨N,2,none⟩ (.int .i64 (d2:Int))):=by
 obtain ⟨h1,h2,⟨S,h3,h4⟩,h5,h6,h7⟩:=h
 have hk:Kept (· = N) wx (wx.setCell ⟨N,2,none⟩ (.int .i64 (d2:Int))):=(Kept.refl (· = N) wx).setCell (p:=⟨N,2,none⟩) (.inl rfl) _
 exact ⟨h1.mZ d2,h2.kept hk (Ne.symm zo),⟨S,h3.kept hk (fun b hb=>⟨(h4 b hb).2.1,(h4 b hb).2.2.2.2⟩),fun b hb=>by have:=h4 b hb;have:=hk.size;omega⟩,h5,h6.kept hk (Ne.symm hn4),h7.trans hk⟩
theorem Kr {N T en d:Nat} {ex pr:List aC→bf aB} {l:List aC} {w:World} (h:bZ N T en l d w) (hd:d=400) (hs:aG (bs [36]) l=true):Calls Tryz.prog 235 #[.pointer (some ⟨N,0,none⟩)] w (XQ N T en d (bg ex (fun l=>.error (4,dK en l)) en l) w):=by
 have S1:Hid (aG ⟨#[40]⟩ l=false):=IJ hs (by decide)
 have er:Hid (bg ex (fun l=>.error (4,dK en l)) en l=.error (4,dK en l.tail)):=by unfold Hid bg;rw [show aG (bs [40]) l=false from S1.out,hs];rfl
 have S2:Hid (aG ⟨#[36]⟩ l=true):=hs
 obtain ⟨lr,hlr⟩:∃lr,lr=l.tail:=⟨_,rfl⟩
 rw [←hlr] at er
 have HLR:=ah hlr
 obtain ⟨d1,hd1⟩:∃d1:Nat,d1=d+1:=⟨_,rfl⟩
 have hdi:(d:Int)+1=(d1:Int):=by omega
 have g1:decide ((400:Int)<(d1:Int))=true:=ak (by omega)
 have g2:decide (400<d1)=true:=ak (by omega)
 have hb:d1≤1000:=by omega
 obtain ⟨hN,hT,hne,h7⟩:=h.jo
 obtain ⟨w0,hw0⟩:∃w0,w0=w.alloc (.cells #[.int .i64 0,.string ⟨#[]⟩,.int .i64 0,.string ⟨#[]⟩,.slice none 0 0] 54):=⟨_,rfl⟩
 have k0:Kept aA w w0:=by rw [hw0];exact (Kept.refl _ _).alloc _
 obtain ⟨M2,hM2⟩:∃M,M=w.heap.size:=⟨_,rfl⟩
 have Z0:Hid (dS M2 (.int .i64 0) (.string ⟨#[]⟩) (.int .i64 0) (.string ⟨#[]⟩) (.slice none 0 0) w0):=by rw [hw0,hM2];exact ay w _
 have R0:=ah (h.kept k0 (fun h=>h) (fun h=>h))
 have K0:Hid (Kept (· = N) w w0):=k0.more (fun _ h=>h.elim)
 have HW0:=ah hw0;have bD:=ah hM2
 clear k0 hw0 hM2 h hs hlr hd hd1
 go_enter Tryz.func235, Tryz.ntmps235
 go_upto_region 1 with fail
 rw [←HW0.out,←bD.out]
 go_upto_region 6 with (first
  | (go_at_call 53;(with_reducible refine (dY ⟨#[40]⟩ R0.out S1.out).mono ?_);rintro e w1 ⟨rfl,dV,bG⟩;have R1:=ah dV;have K1:Hid (Kept (· = N) w w1):=K0.out.trans bG;have Z1:=ah (Z0.out.kept bG (by have:=bD.out;omega));clear dV bG)
  | (go_at_call 53;(with_reducible refine (jG ⟨#[36]⟩ R1.out S2.out).mono ?_);rintro e w2 ⟨rfl,iI,bU⟩;have R2:=ah iI;have K2:Hid (Kept (· = N) w w2):=K1.out.trans bU;have Z2:=ah (Z1.out.kept bU (by have:=bD.out;omega));obtain ⟨q2,nM⟩:=iI.deep;clear iI bU))
 go_upto_region 7 with fail
 obtain ⟨w3,hw3⟩:∃w3,w3=w2.setCell ⟨N,2,none⟩ (.int .i64 (d1:Int)):=⟨_,rfl⟩
 have r3:=R2.out.mZ d1
 rw [←hw3] at r3⊢
 rw [←HLR.out] at r3
 have k3:Kept (· = N) w2 w3:=by rw [hw3];exact (Kept.refl (· = N) w2).setCell (p:=⟨N,2,none⟩) (.inl rfl) _
 have K3:=ah k3
 clear hw3 k3 q2 nM
 obtain ⟨q2,nM⟩:=r3.deep
 obtain ⟨n3,a3,c3,r3⟩:=r3
 have HA:=ah (lJ r3)
 clear r3
 go_wp2_with (first
  | (go_at_call 56;(refine HA.out.mono ?_);rintro e w' ⟨rfl,aI⟩;obtain rfl:=aI.symm)
  | (go_at_call 55;(refine (dH _ 4 (dK en lr) w3).mono ?_);rintro e w4 ⟨rfl,rfl⟩))
 exact ⟨rfl,XQ.thrown K2.out K3.out er.out⟩
theorem Kt {N T en d:Nat} {ex pr:List aC→bf aB} {l:List aC} {w:World} (hd:d<400) (HP:Ku N T en (d+1) pr) (h:bZ N T en l d w) (hs:aG (bs [36]) l=true):Calls Tryz.prog 235 #[.pointer (some ⟨N,0,none⟩)] w (XQ N T en d (bg ex pr en l) w):=by
 have S1:Hid (aG ⟨#[40]⟩ l=false):=IJ hs (by decide)
 have er:Hid (bg ex pr en l=match pr l.tail with | .error er=>.error er | .ok (x,r)=>.ok (node1 5 x,r)):=by unfold Hid bg;rw [show aG (bs [40]) l=false from S1.out,hs];rfl
 have S2:Hid (aG ⟨#[36]⟩ l=true):=hs
 obtain ⟨lr,hlr⟩:∃lr,lr=l.tail:=⟨_,rfl⟩
 rw [←hlr] at er
 have HLR:=ah hlr
 obtain ⟨d1,hd1⟩:∃d1:Nat,d1=d+1:=⟨_,rfl⟩
 have hdi:(d:Int)+1=(d1:Int):=by omega
 rw [←hd1] at HP
 have g1:decide ((400:Int)<(d1:Int))=false:=au (by omega)
 have g2:decide (400<d1)=false:=au (by omega)
 have hb:d1≤1000:=by omega
 have hb1:1≤d1:=by omega
 have hdj:(d1:Int)-1=(d:Int):=by omega
 have HPR:=ah HP
 obtain ⟨hN,hT,hne,h7⟩:=h.jo
 obtain ⟨w0,hw0⟩:∃w0,w0=w.alloc (.cells #[.int .i64 0,.string ⟨#[]⟩,.int .i64 0,.string ⟨#[]⟩,.slice none 0 0] 54):=⟨_,rfl⟩
 have k0:Kept aA w w0:=by rw [hw0];exact (Kept.refl _ _).alloc _
 obtain ⟨M2,hM2⟩:∃M,M=w.heap.size:=⟨_,rfl⟩
 have Z0:Hid (dS M2 (.int .i64 0) (.string ⟨#[]⟩) (.int .i64 0) (.string ⟨#[]⟩) (.slice none 0 0) w0):=by rw [hw0,hM2];exact ay w _
 have R0:=ah (h.kept k0 (fun h=>h) (fun h=>h))
 have K0:Hid (Kept (· = N) w w0):=k0.more (fun _ h=>h.elim)
 have HW0:=ah hw0;have bD:=ah hM2
 clear k0 hw0 hM2 h hs hlr hd hd1 HP
 go_enter Tryz.func235, Tryz.ntmps235
 go_upto_region 1 with fail
 rw [←HW0.out,←bD.out]
 go_upto_region 6 with (first
  | (go_at_call 53;(with_reducible refine (dY ⟨#[40]⟩ R0.out S1.out).mono ?_);rintro e w1 ⟨rfl,dV,bG⟩;have R1:=ah dV;have K1:Hid (Kept (· = N) w w1):=K0.out.trans bG;have Z1:=ah (Z0.out.kept bG (by have:=bD.out;omega));clear dV bG)
  | (go_at_call 53;(with_reducible refine (jG ⟨#[36]⟩ R1.out S2.out).mono ?_);rintro e w2 ⟨rfl,iI,bU⟩;have R2:=ah iI;have K2:Hid (Kept (· = N) w w2):=K1.out.trans bU;have Z2:=ah (Z1.out.kept bU (by have:=bD.out;omega));obtain ⟨q2,nM⟩:=iI.deep;clear iI bU))
 go_upto_region 7 with fail
 obtain ⟨w3,hw3⟩:∃w3,w3=w2.setCell ⟨N,2,none⟩ (.int .i64 (d1:Int)):=⟨_,rfl⟩
 have r3:=R2.out.mZ d1
 rw [←hw3] at r3⊢
 rw [←HLR.out] at r3
 have k3:Kept (· = N) w2 w3:=by rw [hw3];exact (Kept.refl (· = N) w2).setCell (p:=⟨N,2,none⟩) (.inl rfl) _
 have K3:Hid (Kept (· = N) w w3):=K2.out.trans k3
 have Z3:=ah (Z2.out.kept k3 (by have:=bD.out;omega))
 have R3:=ah r3
 clear hw3 k3 q2 nM
 obtain ⟨q2,nM⟩:=r3.deep
 clear r3
 cases hu:pr lr with
 | error e0 =>
  go_wp2_with (go_at_call 235;(refine (HPR.out lr w3 R3.out).mono ?_);intro e w4 h4_;obtain ⟨D6,rfl⟩:=h4_.bad hu;have K4:=ah D6;clear D6 h4_)
  exact ⟨rfl,XQ.thrown K3.out K4.out (by rw [er.out,hu])⟩
 | ok x =>
  obtain ⟨p,r⟩:=x
  have qp:Hid (bg ex pr en l=.ok (node1 5 p,r)):=by unfold Hid;rw [er.out,hu]
  clear er
  go_upto_region 10 with (go_at_call 235;(refine (HPR.out lr w3 R3.out).mono ?_);intro e w4 h4_;obtain ⟨D6,r4_,S,ka,cap,rfl,iP,iQ,fZ⟩:=h4_.ok hu;have I5:=ah (fQ.agV (w1:=w3) (cap:=cap) 5 (Z3.out.kept D6 (by have:=bD.out;omega)) (K3.out.trans D6) r4_ iP iQ fZ hN K3.out.size Z3.out.lt D6.size);have HL4:Hid (w.heap.size<w4.heap.size):=(by have:=Z3.out.lt;have:=bD.out;have:=D6.size;unfold Hid;omega);clear D6 r4_ iP iQ fZ h4_)
  obtain ⟨w5,hw5⟩:∃w5,w5=(w4.alloc (.cells #[.int .i64 p.kind,.string p.text,.int .i64 p.n,.string p.name,.slice ka p.kids.length cap] 54)).alloc (.cells #[.int .i64 5,.string ⟨#[]⟩,.int .i64 0,.string ⟨#[]⟩,.slice (some ⟨w4.heap.size,0,none⟩) 1 1] 54):=⟨_,rfl⟩
  rw [←hw5] at I5⊢
  obtain ⟨B,hB⟩:∃B,B=w4.heap.size:=⟨_,rfl⟩
  rw [←hB] at I5 HL4⊢
  clear hw5 hB q2 nM
  obtain ⟨q2,nM⟩:=I5.out.bI.deep
  have hM:Hid (N≠M2∧N≠B+1∧T≠M2∧w.heap.size≤M2):=by have:=bD.out;have:=HL4.out;unfold Hid;omega
  go_upto_region 11 with fail
  have I6:=ah (I5.out.agY hM.out.1 hM.out.2.1 d)
  obtain ⟨w6,hw6⟩:∃w6,w6=w5.setCell ⟨N,2,none⟩ (.int .i64 (d:Int)):=⟨_,rfl⟩
  rw [←hw6] at I6⊢
  clear hw6 q2 nM
  obtain ⟨x0,x1,x2,x3,x4,_⟩:=I6.out.five.cells
  obtain ⟨z0,z1,z2,z3,z4,zf⟩:=I6.out.zero.cells
  have xA:=zf 0;have xB:=zf 1;have xC:=zf 2;have yB:=zf 3;have yC:=zf 4
  clear zf
  go_wp2_with fail
  exact iD 2 rfl rfl (I6.out.zero.fP _ _ _ _ _) (I6.out.fin hM.out.1 hM.out.2.2.1 hM.out.2.2.2 hN qp.out)
end Go.Proofs.YtgoijmpahffnhaaGreatDoor

namespace Go.Proofs.YtgoijmpahffnhaaGreatDoor
set_option linter.all false
open Go.RowKit
set_option maxRecDepth 100000
set_option maxHeartbeats 8000000
theorem iG {en:Nat} {l r:List aC} {x:aj} (h:dN en l=.ok (x,r)):x.size≤16:=by
 unfold dN at h
 split at h
 ·cases h
 ·split at h
  ·cases h
  ·simp only [Except.ok.injEq,Prod.mk.injEq] at h;obtain ⟨rfl,_⟩:=h;omega
theorem aai {N T en d:Nat} {ex pr:List aC→bf aB} {w:World} (h:bZ N T en [] d w):Calls Tryz.prog 235 #[.pointer (some ⟨N,0,none⟩)] w (XQ N T en d (bg ex pr en []) w):=by
 have er:Hid (bg ex pr en []=.error (2,en)):=rfl
 have S1:Hid (aG ⟨#[40]⟩ ([]:List aC)=false):=rfl
 have S2:Hid (aG ⟨#[36]⟩ ([]:List aC)=false):=rfl
 obtain ⟨hN,hT,hne,h7⟩:=h.jo
 obtain ⟨w0,hw0⟩:∃w0,w0=w.alloc (.cells #[.int .i64 0,.string ⟨#[]⟩,.int .i64 0,.string ⟨#[]⟩,.slice none 0 0] 54):=⟨_,rfl⟩
 have k0:Kept aA w w0:=by rw [hw0];exact (Kept.refl _ _).alloc _
 obtain ⟨M2,hM2⟩:∃M,M=w.heap.size:=⟨_,rfl⟩
 have Z0:Hid (dS M2 (.int .i64 0) (.string ⟨#[]⟩) (.int .i64 0) (.string ⟨#[]⟩) (.slice none 0 0) w0):=by rw [hw0,hM2];exact ay w _
 have R0:=ah (h.kept k0 (fun h=>h) (fun h=>h))
 have K0:Hid (Kept (· = N) w w0):=k0.more (fun _ h=>h.elim)
 have HW0:=ah hw0;have bD:=ah hM2
 clear k0 hw0 hM2 h
 go_enter Tryz.func235, Tryz.ntmps235
 go_upto_region 1 with fail
 rw [←HW0.out,←bD.out]
 go_upto_region 12 with (first
  | (go_at_call 53;(with_reducible refine (dY ⟨#[40]⟩ R0.out S1.out).mono ?_);rintro e w1 ⟨rfl,dV,bG⟩;have R1:=ah dV;have K1:Hid (Kept (· = N) w w1):=K0.out.trans bG;have Z1:=ah (Z0.out.kept bG (by have:=bD.out;omega));clear dV bG)
  | (go_at_call 53;(with_reducible refine (dY ⟨#[36]⟩ R1.out S2.out).mono ?_);rintro e w2 ⟨rfl,iI,bU⟩;have R2:=ah iI;have K2:Hid (Kept (· = N) w w2):=K1.out.trans bU;have Z2:=ah (Z1.out.kept bU (by have:=bD.out;omega));clear iI bU))
 obtain ⟨n2,a2,c2,hP⟩:=R2.out
 obtain ⟨c0,c1,cd,cf⟩:=hP.c0
 have hn:=hP.num
 have z:decide ((0:Int)<(n2:Int))=false:=by rw [hn];rfl
 have z':decide (0<n2)=false:=by rw [hn];rfl
 clear hn hP cf
 go_wp2_with (go_at_call 50;(refine (fD R2.out).mono ?_);intro e w3 eG;obtain ⟨bF,rfl⟩:=eG.bad (er:=(2,en)) rfl;have K3:=ah bF;clear bF eG)
 exact ⟨rfl,XQ.thrown K2.out K3.out er.out⟩
theorem Kv {N T en d:Nat} {ex pr:List aC→bf aB} {t:aC} {r:List aC} {w:World} (h:bZ N T en (t::r) d w) (hk:t.kind≠3∧t.kind≠2) (hs1:aG (bs [40]) (t::r)=false) (hs2:aG (bs [36]) (t::r)=false) {e0:Er} (hnm:dN en (t::r)=.error e0):Calls Tryz.prog 235 #[.pointer (some ⟨N,0,none⟩)] w (XQ N T en d (bg ex pr en (t::r)) w):=by
 have er:Hid (bg ex pr en (t::r)=match dN en (t::r) with
    | .error er=>.error er
    | .ok (nm,r) =>
     if aG (bs [60]) r=true then
      match ex r.tail with
      | .error er=>.error er
      | .ok (x,r2)=>match dX (bs [62]) en r2 with
       | .error er=>.error er
       | .ok r3=>.ok (.mk 4 E0 0 nm [x],r3)
     else if aG (bs [40]) r=true then
      if aG (bs [41]) r.tail=true then .ok (.mk 6 E0 0 nm [],r.tail.tail)
      else match l7 ex en 9 [] r.tail with
       | .error er=>.error er
       | .ok (ks,r2)=>.ok (.mk 6 E0 0 nm ks,r2)
     else .ok (.mk 3 E0 0 nm [],r)):=by unfold Hid bg;rw [hs1,hs2];simp only [eF,hk.1,hk.2,if_false,Bool.false_eq_true];rfl
 have S1:Hid (aG ⟨#[40]⟩ (t::r)=false):=hs1;have S2:Hid (aG ⟨#[36]⟩ (t::r)=false):=hs2;have HK:=ah hk
 have zq:=ah hnm
 obtain ⟨hN,hT,hne,h7⟩:=h.jo
 obtain ⟨w0,hw0⟩:∃w0,w0=w.alloc (.cells #[.int .i64 0,.string ⟨#[]⟩,.int .i64 0,.string ⟨#[]⟩,.slice none 0 0] 54):=⟨_,rfl⟩
 have k0:Kept aA w w0:=by rw [hw0];exact (Kept.refl _ _).alloc _
 obtain ⟨M2,hM2⟩:∃M,M=w.heap.size:=⟨_,rfl⟩
 have Z0:Hid (dS M2 (.int .i64 0) (.string ⟨#[]⟩) (.int .i64 0) (.string ⟨#[]⟩) (.slice none 0 0) w0):=by rw [hw0,hM2];exact ay w _
 have R0:=ah (h.kept k0 (fun h=>h) (fun h=>h))
 have K0:Hid (Kept (· = N) w w0):=k0.more (fun _ h=>h.elim)
 have HW0:=ah hw0;have bD:=ah hM2
 clear k0 hw0 hM2 h hk hs1 hs2 hnm
 go_enter Tryz.func235, Tryz.ntmps235
 go_upto_region 1 with fail
 rw [←HW0.out,←bD.out]
 go_upto_region 12 with (first
  | (go_at_call 53;(with_reducible refine (dY ⟨#[40]⟩ R0.out S1.out).mono ?_);rintro e w1 ⟨rfl,dV,bG⟩;have R1:=ah dV;have K1:Hid (Kept (· = N) w w1):=K0.out.trans bG;have Z1:=ah (Z0.out.kept bG (by have:=bD.out;omega));clear dV bG)
  | (go_at_call 53;(with_reducible refine (dY ⟨#[36]⟩ R1.out S2.out).mono ?_);rintro e w2 ⟨rfl,iI,bU⟩;have R2:=ah iI;have K2:Hid (Kept (· = N) w w2):=K1.out.trans bU;have Z2:=ah (Z1.out.kept bU (by have:=bD.out;omega));clear iI bU))
 obtain ⟨n2,a2,c2,hP⟩:=R2.out
 obtain ⟨c0,c1,cd,cf⟩:=hP.c0
 have hn:=hP.num
 rw [List.length_cons] at hn
 have h0:0<n2:=by omega
 have h1:(0:Int)<(n2:Int):=by omega
 have z:decide ((0:Int)<(n2:Int))=true:=ak h1
 have z':decide (0<n2)=true:=ak h0
 obtain ⟨o,rfl,t0,t1,t2⟩:=hP.head
 have y3:(t.kind==3)=false:=by simpa using HK.out.1
 have y2:(t.kind==2)=false:=by simpa using HK.out.2
 clear hn hP cf
 go_upto_region 22 with fail
 clear c0 c1 cd t0 t1 t2 y3 y2 z z'
 go_wp2_with (go_at_call 50;(refine (fD R2.out).mono ?_);intro e w3 eG;obtain ⟨bF,rfl⟩:=eG.bad zq.out;have K3:=ah bF;clear bF eG)
 exact ⟨rfl,XQ.thrown K2.out K3.out (by rw [er.out,zq.out])⟩
theorem Xj {N T en d:Nat} {ex pr:List aC→bf aB} {t:aC} {r:List aC} {w:World} (h:bZ N T en (t::r) d w) (hk:t.kind≠3∧t.kind≠2) (hs1:aG (bs [40]) (t::r)=false) (hs2:aG (bs [36]) (t::r)=false) {nm:aj} {r1:List aC} (hnm:dN en (t::r)=.ok (nm,r1)) (hs3:aG (bs [60]) r1=false) (hs4:aG (bs [40]) r1=false):Calls Tryz.prog 235 #[.pointer (some ⟨N,0,none⟩)] w (XQ N T en d (bg ex pr en (t::r)) w):=by
 have er:Hid (bg ex pr en (t::r)=match dN en (t::r) with
    | .error er=>.error er
    | .ok (nm,r) =>
     if aG (bs [60]) r=true then
      match ex r.tail with
      | .error er=>.error er
      | .ok (x,r2)=>match dX (bs [62]) en r2 with
       | .error er=>.error er
       | .ok r3=>.ok (.mk 4 E0 0 nm [x],r3)
     else if aG (bs [40]) r=true then
      if aG (bs [41]) r.tail=true then .ok (.mk 6 E0 0 nm [],r.tail.tail)
      else match l7 ex en 9 [] r.tail with
       | .error er=>.error er
       | .ok (ks,r2)=>.ok (.mk 6 E0 0 nm ks,r2)
     else .ok (.mk 3 E0 0 nm [],r)):=by unfold Hid bg;rw [hs1,hs2];simp only [eF,hk.1,hk.2,if_false,Bool.false_eq_true];rfl
 have S1:Hid (aG ⟨#[40]⟩ (t::r)=false):=hs1;have S2:Hid (aG ⟨#[36]⟩ (t::r)=false):=hs2;have HK:=ah hk
 have qp:Hid (bg ex pr en (t::r)=.ok (.mk 3 E0 0 nm [],r1)):=by unfold Hid;rw [er.out,hnm];simp only [hs3,hs4,if_false,Bool.false_eq_true]
 have zq:=ah hnm;have S3:Hid (aG ⟨#[60]⟩ r1=false):=hs3;have S4:Hid (aG ⟨#[40]⟩ r1=false):=hs4
 obtain ⟨hN,hT,hne,h7⟩:=h.jo
 obtain ⟨w0,hw0⟩:∃w0,w0=w.alloc (.cells #[.int .i64 0,.string ⟨#[]⟩,.int .i64 0,.string ⟨#[]⟩,.slice none 0 0] 54):=⟨_,rfl⟩
 have k0:Kept aA w w0:=by rw [hw0];exact (Kept.refl _ _).alloc _
 obtain ⟨M2,hM2⟩:∃M,M=w.heap.size:=⟨_,rfl⟩
 have Z0:Hid (dS M2 (.int .i64 0) (.string ⟨#[]⟩) (.int .i64 0) (.string ⟨#[]⟩) (.slice none 0 0) w0):=by rw [hw0,hM2];exact ay w _
 have R0:=ah (h.kept k0 (fun h=>h) (fun h=>h))
 have K0:Hid (Kept (· = N) w w0):=k0.more (fun _ h=>h.elim)
 have HW0:=ah hw0;have bD:=ah hM2
 clear k0 hw0 hM2 h hk hs1 hs2 hnm hs3 hs4 er
 go_enter Tryz.func235, Tryz.ntmps235
 go_upto_region 1 with fail
 rw [←HW0.out,←bD.out]
 go_upto_region 12 with (first
  | (go_at_call 53;(with_reducible refine (dY ⟨#[40]⟩ R0.out S1.out).mono ?_);rintro e w1 ⟨rfl,dV,bG⟩;have R1:=ah dV;have K1:Hid (Kept (· = N) w w1):=K0.out.trans bG;have Z1:=ah (Z0.out.kept bG (by have:=bD.out;omega));clear dV bG)
  | (go_at_call 53;(with_reducible refine (dY ⟨#[36]⟩ R1.out S2.out).mono ?_);rintro e w2 ⟨rfl,iI,bU⟩;have R2:=ah iI;have K2:Hid (Kept (· = N) w w2):=K1.out.trans bU;have Z2:=ah (Z1.out.kept bU (by have:=bD.out;omega));clear iI bU))
 obtain ⟨n2,a2,c2,hP⟩:=R2.out
 obtain ⟨c0,c1,cd,cf⟩:=hP.c0
 have hn:=hP.num
 rw [List.length_cons] at hn
 have h0:0<n2:=by omega
 have h1:(0:Int)<(n2:Int):=by omega
 have z:decide ((0:Int)<(n2:Int))=true:=ak h1
 have z':decide (0<n2)=true:=ak h0
 obtain ⟨o,rfl,t0,t1,t2⟩:=hP.head
 have y3:(t.kind==3)=false:=by simpa using HK.out.1
 have y2:(t.kind==2)=false:=by simpa using HK.out.2
 clear hn hP cf
 go_upto_region 22 with fail
 clear c0 c1 cd t0 t1 t2 y3 y2 z z'
 go_upto_region 23 with (go_at_call 50;(refine (fD R2.out).mono ?_);intro e w3 eG;obtain ⟨bF,rfl,iO⟩:=eG.ok zq.out;have R3:=ah iO;have K3:Hid (Kept (· = N) w w3):=K2.out.trans bF;have Z3:=ah (Z2.out.kept bF (by have:=bD.out;omega));clear bF iO eG)
 have I4:Hid (fQ N T en d M2 w3.heap.size w (.mk 3 E0 0 nm []) none 0 r1 (w3.alloc (.cells #[.int .i64 3,.string ⟨#[]⟩,.int .i64 0,.string nm,.slice none 0 0] 54))):=fQ.start (w1:=w3) (p:=.mk 3 E0 0 nm []) (ka:=none) (cap:=0) (S:=aA) Z3.out K3.out R3.out (fun b hb=>hb.elim) ⟨by show E0.size<_;decide,by show nm.size<_;have:=iG zq.out;omega,by show 0<_;decide⟩ (by show aN _ aA none [];unfold aN;trivial) hN K3.out.size Z3.out.lt
 have hsz:Hid (w.heap.size<w3.heap.size):=by have:=Z3.out.lt;have:=bD.out;unfold Hid;omega
 obtain ⟨w4,hw4⟩:∃w4,w4=w3.alloc (.cells #[.int .i64 3,.string ⟨#[]⟩,.int .i64 0,.string nm,.slice none 0 0] 54):=⟨_,rfl⟩
 obtain ⟨M5,mM⟩:∃M,M=w3.heap.size:=⟨_,rfl⟩
 rw [←hw4,←mM] at I4
 rw [←hw4,←mM]
 rw [←mM] at hsz
 have hM:Hid (N≠M2∧N≠M5∧T≠M2∧w.heap.size≤M2∧M2<M5):=by have:=bD.out;have:=hsz.out;unfold Hid;omega
 clear hw4 mM
 go_upto_region 36 with (first
  | (go_at_call 53;(with_reducible refine (dY ⟨#[60]⟩ I4.out.bI S3.out).mono ?_);rintro e w5 ⟨rfl,Ef,wK⟩;have I5:=ah (I4.out.aS hM.out.1 (by have:=hM.out;omega) wK Ef);clear Ef wK)
  | (go_at_call 53;(with_reducible refine (dY ⟨#[40]⟩ I5.out.bI S4.out).mono ?_);rintro e w6 ⟨rfl,yD,nJ⟩;have I6:=ah (I5.out.aS hM.out.1 (by have:=hM.out;omega) nJ yD);clear yD nJ))
 obtain ⟨x0,x1,x2,x3,x4,_⟩:=I6.out.five.cells
 obtain ⟨z0,z1,z2,z3,z4,zf⟩:=I6.out.zero.cells
 have xA:=zf 0;have xB:=zf 1;have xC:=zf 2;have yB:=zf 3;have yC:=zf 4
 clear zf
 go_wp2_with fail
 exact iD 2 rfl rfl (I6.out.zero.fP _ _ _ _ _) (I6.out.fin hM.out.1 hM.out.2.2.1 hM.out.2.2.2.1 hN qp.out)
theorem Xk {N T en d:Nat} {ex pr:List aC→bf aB} {t:aC} {r:List aC} {w:World} (h:bZ N T en (t::r) d w) (hk:t.kind≠3∧t.kind≠2) (hs1:aG (bs [40]) (t::r)=false) (hs2:aG (bs [36]) (t::r)=false) {nm:aj} {r1:List aC} (hnm:dN en (t::r)=.ok (nm,r1)) (HE:GI N T en d ex) (hs3:aG (bs [60]) r1=true):Calls Tryz.prog 235 #[.pointer (some ⟨N,0,none⟩)] w (XQ N T en d (bg ex pr en (t::r)) w):=by
 have er:Hid (bg ex pr en (t::r)=match dN en (t::r) with
    | .error er=>.error er
    | .ok (nm,r) =>
     if aG (bs [60]) r=true then
      match ex r.tail with
      | .error er=>.error er
      | .ok (x,r2)=>match dX (bs [62]) en r2 with
       | .error er=>.error er
       | .ok r3=>.ok (.mk 4 E0 0 nm [x],r3)
     else if aG (bs [40]) r=true then
      if aG (bs [41]) r.tail=true then .ok (.mk 6 E0 0 nm [],r.tail.tail)
      else match l7 ex en 9 [] r.tail with
       | .error er=>.error er
       | .ok (ks,r2)=>.ok (.mk 6 E0 0 nm ks,r2)
     else .ok (.mk 3 E0 0 nm [],r)):=by unfold Hid bg;rw [hs1,hs2];simp only [eF,hk.1,hk.2,if_false,Bool.false_eq_true];rfl
 have S1:Hid (aG ⟨#[40]⟩ (t::r)=false):=hs1;have S2:Hid (aG ⟨#[36]⟩ (t::r)=false):=hs2;have HK:=ah hk
 have qp:Hid (bg ex pr en (t::r)=match ex r1.tail with | .error er=>.error er | .ok (x,r2)=>match dX (bs [62]) en r2 with | .error er=>.error er | .ok r3=>.ok (.mk 4 E0 0 nm [x],r3)):=by unfold Hid;rw [er.out,hnm];simp only [hs3,if_true]
 have zq:=ah hnm;have S3:Hid (aG ⟨#[60]⟩ r1=true):=hs3;have HEX:=ah HE
 obtain ⟨hN,hT,hne,h7⟩:=h.jo
 obtain ⟨w0,hw0⟩:∃w0,w0=w.alloc (.cells #[.int .i64 0,.string ⟨#[]⟩,.int .i64 0,.string ⟨#[]⟩,.slice none 0 0] 54):=⟨_,rfl⟩
 have k0:Kept aA w w0:=by rw [hw0];exact (Kept.refl _ _).alloc _
 obtain ⟨M2,hM2⟩:∃M,M=w.heap.size:=⟨_,rfl⟩
 have Z0:Hid (dS M2 (.int .i64 0) (.string ⟨#[]⟩) (.int .i64 0) (.string ⟨#[]⟩) (.slice none 0 0) w0):=by rw [hw0,hM2];exact ay w _
 have R0:=ah (h.kept k0 (fun h=>h) (fun h=>h))
 have K0:Hid (Kept (· = N) w w0):=k0.more (fun _ h=>h.elim)
 have HW0:=ah hw0;have bD:=ah hM2
 clear k0 hw0 hM2 h hk hs1 hs2 hnm hs3 er HE
 go_enter Tryz.func235, Tryz.ntmps235
 go_upto_region 1 with fail
 rw [←HW0.out,←bD.out]
 go_upto_region 12 with (first
  | (go_at_call 53;(with_reducible refine (dY ⟨#[40]⟩ R0.out S1.out).mono ?_);rintro e w1 ⟨rfl,dV,bG⟩;have R1:=ah dV;have K1:Hid (Kept (· = N) w w1):=K0.out.trans bG;have Z1:=ah (Z0.out.kept bG (by have:=bD.out;omega));clear dV bG)
  | (go_at_call 53;(with_reducible refine (dY ⟨#[36]⟩ R1.out S2.out).mono ?_);rintro e w2 ⟨rfl,iI,bU⟩;have R2:=ah iI;have K2:Hid (Kept (· = N) w w2):=K1.out.trans bU;have Z2:=ah (Z1.out.kept bU (by have:=bD.out;omega));clear iI bU))
 obtain ⟨n2,a2,c2,hP⟩:=R2.out
 obtain ⟨c0,c1,cd,cf⟩:=hP.c0
 have hn:=hP.num
 rw [List.length_cons] at hn
 have h0:0<n2:=by omega
 have h1:(0:Int)<(n2:Int):=by omega
 have z:decide ((0:Int)<(n2:Int))=true:=ak h1
 have z':decide (0<n2)=true:=ak h0
 obtain ⟨o,rfl,t0,t1,t2⟩:=hP.head
 have y3:(t.kind==3)=false:=by simpa using HK.out.1
 have y2:(t.kind==2)=false:=by simpa using HK.out.2
 clear hn hP cf
 go_upto_region 22 with fail
 clear c0 c1 cd t0 t1 t2 y3 y2 z z'
 go_upto_region 23 with (go_at_call 50;(refine (fD R2.out).mono ?_);intro e w3 eG;obtain ⟨bF,rfl,iO⟩:=eG.ok zq.out;have R3:=ah iO;have K3:Hid (Kept (· = N) w w3):=K2.out.trans bF;have Z3:=ah (Z2.out.kept bF (by have:=bD.out;omega));clear bF iO eG)
 have I4:Hid (fQ N T en d M2 w3.heap.size w (.mk 3 E0 0 nm []) none 0 r1 (w3.alloc (.cells #[.int .i64 3,.string ⟨#[]⟩,.int .i64 0,.string nm,.slice none 0 0] 54))):=fQ.start (w1:=w3) (p:=.mk 3 E0 0 nm []) (ka:=none) (cap:=0) (S:=aA) Z3.out K3.out R3.out (fun b hb=>hb.elim) ⟨by show E0.size<_;decide,by show nm.size<_;have:=iG zq.out;omega,by show 0<_;decide⟩ (by show aN _ aA none [];unfold aN;trivial) hN K3.out.size Z3.out.lt
 have hsz:Hid (w.heap.size<w3.heap.size):=by have:=Z3.out.lt;have:=bD.out;unfold Hid;omega
 obtain ⟨w4,hw4⟩:∃w4,w4=w3.alloc (.cells #[.int .i64 3,.string ⟨#[]⟩,.int .i64 0,.string nm,.slice none 0 0] 54):=⟨_,rfl⟩
 obtain ⟨M5,mM⟩:∃M,M=w3.heap.size:=⟨_,rfl⟩
 rw [←hw4,←mM] at I4
 rw [←hw4,←mM]
 rw [←mM] at hsz
 have hM:Hid (N≠M2∧N≠M5∧T≠M2∧w.heap.size≤M2∧M2<M5):=by have:=bD.out;have:=hsz.out;unfold Hid;omega
 clear hw4 mM
 go_upto_region 24 with (go_at_call 53;(with_reducible refine (jG ⟨#[60]⟩ I4.out.bI S3.out).mono ?_);rintro e w5 ⟨rfl,Ef,wK⟩;have I5:=ah (I4.out.aS hM.out.1 (by have:=hM.out;omega) wK Ef);clear Ef wK)
 cases hu:ex r1.tail with
 | error e0 =>
  go_wp2_with (go_at_call 90;(refine (HEX.out r1.tail w5 I5.out.bI).mono ?_);intro e w6 II;obtain ⟨nJ,rfl⟩:=II.bad hu;have K6:=ah nJ;clear nJ II)
  exact ⟨rfl,XQ.thrown I5.out.kept K6.out (by rw [qp.out,hu])⟩
 | ok x =>
  obtain ⟨p,r2⟩:=x
  have kR:Hid (bg ex pr en (t::r)=match dX (bs [62]) en r2 with | .error er=>.error er | .ok r3=>.ok (.mk 4 E0 0 nm [p],r3)):=by unfold Hid;rw [qp.out,hu]
  clear qp
  go_upto_region 25 with (go_at_call 90;(refine (HEX.out r1.tail w5 I5.out.bI).mono ?_);intro e w6 II;obtain ⟨nJ,yD,S,ka,cap,rfl,iP,iQ,fZ⟩:=II.ok hu;have I7:=ah (fQ.item (cap:=cap) I5.out hM.out.1 hM.out.2.1 (by have:=hM.out;omega) (by have:=hM.out;omega) hT hN nJ yD iP iQ fZ rfl);have I6:=ah (I5.out.aS hM.out.1 hM.out.2.1 nJ yD);obtain ⟨g0,g1,g2,g3,g4,gf⟩:=(I6.out.five.kept ((Kept.refl aA w6).alloc (.cells #[.int .i64 p.kind,.string p.text,.int .i64 p.n,.string p.name,.slice ka p.kids.length cap] 54)) (fun h=>h)).cells;have gf0:=gf 0;have gf4:=gf 4;clear gf nJ yD iP iQ fZ II)
  obtain ⟨w7,hw7⟩:∃w7,w7=((w6.alloc (.cells #[.int .i64 p.kind,.string p.text,.int .i64 p.n,.string p.name,.slice ka p.kids.length cap] 54)).setCell ⟨M5,0,none⟩ (.int .i64 4)).setCell ⟨M5,4,none⟩ (.slice (some ⟨w6.heap.size,0,none⟩) 1 1):=⟨_,rfl⟩
  rw [←hw7] at I7
  rw [←hw7]
  clear hw7 g0 g1 g2 g3 g4 gf0 gf4
  cases hv:dX (bs [62]) en r2 with
  | error e0 =>
   go_wp2_with (go_at_call 88;(refine (jf (bs [62]) I7.out.bI).mono ?_);intro e w8 zu;obtain ⟨pG,rfl⟩:=zu.bad hv;have K8:=ah pG;clear pG zu)
   exact ⟨rfl,XQ.thrown I7.out.kept K8.out (by rw [kR.out,hv])⟩
  | ok r3 =>
   have yE:Hid (bg ex pr en (t::r)=.ok (.mk 4 E0 0 nm [p],r3)):=by unfold Hid;rw [kR.out,hv]
   clear kR
   go_upto_region 36 with (go_at_call 88;(refine (jf (bs [62]) I7.out.bI).mono ?_);intro e w8 zu;obtain ⟨pG,rfl,zx⟩:=zu.ok hv;have I8:=ah (I7.out.aS hM.out.1 hM.out.2.1 pG zx);clear pG zx zu)
   obtain ⟨x0,x1,x2,x3,x4,_⟩:=I8.out.five.cells
   obtain ⟨z0,z1,z2,z3,z4,zf⟩:=I8.out.zero.cells
   have xA:=zf 0;have xB:=zf 1;have xC:=zf 2;have yB:=zf 3;have yC:=zf 4
   clear zf
   go_wp2_with fail
   exact iD 2 rfl rfl (I8.out.zero.fP _ _ _ _ _) (I8.out.fin hM.out.1 hM.out.2.2.1 hM.out.2.2.2.1 hN yE.out)
end Go.Proofs.YtgoijmpahffnhaaGreatDoor

namespace Go.Proofs.YtgoijmpahffnhaaGreatDoor
set_option linter.all false
open Go.RowKit
set_option maxRecDepth 100000
set_option maxHeartbeats 8000000
theorem ac7:(Tryz.prog.info? 54).map (fun i=>(i.zero,i.size,i.bytes))=some (some (.agg #[.int .i64 0,.string ⟨#[]⟩,.int .i64 0,.string ⟨#[]⟩,.slice none 0 0]),5,72):=by kernel_rfl
theorem SQ {N T en d:Nat} {ex pr:List aC→bf aB} {t:aC} {r:List aC} {w:World} (h:bZ N T en (t::r) d w) (hk:t.kind≠3∧t.kind≠2) (hs1:aG (bs [40]) (t::r)=false) (hs2:aG (bs [36]) (t::r)=false) {nm:aj} {r1:List aC} (hnm:dN en (t::r)=.ok (nm,r1)) (hs3:aG (bs [60]) r1=false) (hs4:aG (bs [40]) r1=true) (hs5:aG (bs [41]) r1.tail=true):Calls Tryz.prog 235 #[.pointer (some ⟨N,0,none⟩)] w (XQ N T en d (bg ex pr en (t::r)) w):=by
 have er:Hid (bg ex pr en (t::r)=match dN en (t::r) with
    | .error er=>.error er
    | .ok (nm,r) =>
     if aG (bs [60]) r=true then
      match ex r.tail with
      | .error er=>.error er
      | .ok (x,r2)=>match dX (bs [62]) en r2 with
       | .error er=>.error er
       | .ok r3=>.ok (.mk 4 E0 0 nm [x],r3)
     else if aG (bs [40]) r=true then
      if aG (bs [41]) r.tail=true then .ok (.mk 6 E0 0 nm [],r.tail.tail)
      else match l7 ex en 9 [] r.tail with
       | .error er=>.error er
       | .ok (ks,r2)=>.ok (.mk 6 E0 0 nm ks,r2)
     else .ok (.mk 3 E0 0 nm [],r)):=by unfold Hid bg;rw [hs1,hs2];simp only [eF,hk.1,hk.2,if_false,Bool.false_eq_true];rfl
 have S1:Hid (aG ⟨#[40]⟩ (t::r)=false):=hs1;have S2:Hid (aG ⟨#[36]⟩ (t::r)=false):=hs2;have HK:=ah hk
 have qp:Hid (bg ex pr en (t::r)=.ok (.mk 6 E0 0 nm [],r1.tail.tail)):=by unfold Hid;rw [er.out,hnm];simp only [hs3,hs4,hs5,if_true,if_false,Bool.false_eq_true]
 have zq:=ah hnm;have S3:Hid (aG ⟨#[60]⟩ r1=false):=hs3;have S4:Hid (aG ⟨#[40]⟩ r1=true):=hs4;have S5:Hid (aG ⟨#[41]⟩ r1.tail=true):=hs5
 obtain ⟨hN,hT,hne,h7⟩:=h.jo
 obtain ⟨w0,hw0⟩:∃w0,w0=w.alloc (.cells #[.int .i64 0,.string ⟨#[]⟩,.int .i64 0,.string ⟨#[]⟩,.slice none 0 0] 54):=⟨_,rfl⟩
 have k0:Kept aA w w0:=by rw [hw0];exact (Kept.refl _ _).alloc _
 obtain ⟨M2,hM2⟩:∃M,M=w.heap.size:=⟨_,rfl⟩
 have Z0:Hid (dS M2 (.int .i64 0) (.string ⟨#[]⟩) (.int .i64 0) (.string ⟨#[]⟩) (.slice none 0 0) w0):=by rw [hw0,hM2];exact ay w _
 have R0:=ah (h.kept k0 (fun h=>h) (fun h=>h))
 have K0:Hid (Kept (· = N) w w0):=k0.more (fun _ h=>h.elim)
 have HW0:=ah hw0;have bD:=ah hM2
 clear k0 hw0 hM2 h hk hs1 hs2 hnm hs3 hs4 hs5 er
 go_enter Tryz.func235, Tryz.ntmps235
 go_upto_region 1 with fail
 rw [←HW0.out,←bD.out]
 go_upto_region 12 with (first
  | (go_at_call 53;(with_reducible refine (dY ⟨#[40]⟩ R0.out S1.out).mono ?_);rintro e w1 ⟨rfl,dV,bG⟩;have R1:=ah dV;have K1:Hid (Kept (· = N) w w1):=K0.out.trans bG;have Z1:=ah (Z0.out.kept bG (by have:=bD.out;omega));clear dV bG)
  | (go_at_call 53;(with_reducible refine (dY ⟨#[36]⟩ R1.out S2.out).mono ?_);rintro e w2 ⟨rfl,iI,bU⟩;have R2:=ah iI;have K2:Hid (Kept (· = N) w w2):=K1.out.trans bU;have Z2:=ah (Z1.out.kept bU (by have:=bD.out;omega));clear iI bU))
 obtain ⟨n2,a2,c2,hP⟩:=R2.out
 obtain ⟨c0,c1,cd,cf⟩:=hP.c0
 have hn:=hP.num
 rw [List.length_cons] at hn
 have h0:0<n2:=by omega
 have h1:(0:Int)<(n2:Int):=by omega
 have z:decide ((0:Int)<(n2:Int))=true:=ak h1
 have z':decide (0<n2)=true:=ak h0
 obtain ⟨o,rfl,t0,t1,t2⟩:=hP.head
 have y3:(t.kind==3)=false:=by simpa using HK.out.1
 have y2:(t.kind==2)=false:=by simpa using HK.out.2
 clear hn hP cf
 go_upto_region 22 with fail
 clear c0 c1 cd t0 t1 t2 y3 y2 z z'
 go_upto_region 23 with (go_at_call 50;(refine (fD R2.out).mono ?_);intro e w3 eG;obtain ⟨bF,rfl,iO⟩:=eG.ok zq.out;have R3:=ah iO;have K3:Hid (Kept (· = N) w w3):=K2.out.trans bF;have Z3:=ah (Z2.out.kept bF (by have:=bD.out;omega));clear bF iO eG)
 have I4:Hid (fQ N T en d M2 w3.heap.size w (.mk 3 E0 0 nm []) none 0 r1 (w3.alloc (.cells #[.int .i64 3,.string ⟨#[]⟩,.int .i64 0,.string nm,.slice none 0 0] 54))):=fQ.start (w1:=w3) (p:=.mk 3 E0 0 nm []) (ka:=none) (cap:=0) (S:=aA) Z3.out K3.out R3.out (fun b hb=>hb.elim) ⟨by show E0.size<_;decide,by show nm.size<_;have:=iG zq.out;omega,by show 0<_;decide⟩ (by show aN _ aA none [];unfold aN;trivial) hN K3.out.size Z3.out.lt
 have hsz:Hid (w.heap.size<w3.heap.size):=by have:=Z3.out.lt;have:=bD.out;unfold Hid;omega
 obtain ⟨w4,hw4⟩:∃w4,w4=w3.alloc (.cells #[.int .i64 3,.string ⟨#[]⟩,.int .i64 0,.string nm,.slice none 0 0] 54):=⟨_,rfl⟩
 obtain ⟨M5,mM⟩:∃M,M=w3.heap.size:=⟨_,rfl⟩
 rw [←hw4,←mM] at I4
 rw [←hw4,←mM]
 rw [←mM] at hsz
 have hM:Hid (N≠M2∧N≠M5∧T≠M2∧w.heap.size≤M2∧M2<M5):=by have:=bD.out;have:=hsz.out;unfold Hid;omega
 clear hw4 mM
 go_upto_region 27 with (first
  | (go_at_call 53;(with_reducible refine (dY ⟨#[60]⟩ I4.out.bI S3.out).mono ?_);rintro e w5 ⟨rfl,Ef,wK⟩;have I5:=ah (I4.out.aS hM.out.1 (by have:=hM.out;omega) wK Ef);clear Ef wK)
  | (go_at_call 53;(with_reducible refine (jG ⟨#[40]⟩ I5.out.bI S4.out).mono ?_);rintro e w6 ⟨rfl,yD,nJ⟩;have I6:=ah (I5.out.aS hM.out.1 (by have:=hM.out;omega) nJ yD);clear yD nJ))
 obtain ⟨x0,x1,x2,x3,x4,xf⟩:=I6.out.five.cells
 have xf0:=xf 0
 clear xf
 have J7:Hid (oz N T en d M2 M5 w nm [] (.slice none 0 0) r1.tail (w6.setCell ⟨M5,0,none⟩ (.int .i64 6))):=oz.start I6.out hM.out.2.1 (by have:=hM.out;omega) (by have:=hM.out;omega) hT hN
 go_upto_region 28 with fail
 obtain ⟨w7,hw7⟩:∃w7,w7=w6.setCell ⟨M5,0,none⟩ (.int .i64 6):=⟨_,rfl⟩
 rw [←hw7] at J7
 rw [←hw7]
 clear hw7 x0 x1 x2 x3 x4 xf0
 go_upto_region 29 with (go_at_call 53;(with_reducible refine (jG ⟨#[41]⟩ J7.out.bI S5.out).mono ?_);rintro e w8 ⟨rfl,zx,pG⟩;have J8:=ah (J7.out.aS hM.out.1 (by have:=hM.out;omega) pG zx);clear zx pG)
 have I8:Hid (fQ N T en d M2 M5 w (.mk 6 E0 0 nm []) none 0 r1.tail.tail w8):=oz.done (ks:=[]) J8.out hM.out.2.2.2.2 (by have:=hM.out;omega) hN (by decide)
 obtain ⟨x0,x1,x2,x3,x4,_⟩:=I8.out.five.cells
 obtain ⟨z0,z1,z2,z3,z4,zf⟩:=I8.out.zero.cells
 have xA:=zf 0;have xB:=zf 1;have xC:=zf 2;have yB:=zf 3;have yC:=zf 4
 clear zf
 go_wp2_with fail
 exact iD 2 rfl rfl (I8.out.zero.fP _ _ _ _ _) (I8.out.fin hM.out.1 hM.out.2.2.1 hM.out.2.2.2.1 hN qp.out)
theorem Xl {N T en d:Nat} {ex pr:List aC→bf aB} {t:aC} {r:List aC} {w:World} (h:bZ N T en (t::r) d w) (hk:t.kind≠3∧t.kind≠2) (hs1:aG (bs [40]) (t::r)=false) (hs2:aG (bs [36]) (t::r)=false) {nm:aj} {r1:List aC} (hnm:dN en (t::r)=.ok (nm,r1)) (hs3:aG (bs [60]) r1=false) (hs4:aG (bs [40]) r1=true) (HE:GI N T en d ex) (hs5:aG (bs [41]) r1.tail=false):Calls Tryz.prog 235 #[.pointer (some ⟨N,0,none⟩)] w (XQ N T en d (bg ex pr en (t::r)) w):=by
 have er:Hid (bg ex pr en (t::r)=match dN en (t::r) with
    | .error er=>.error er
    | .ok (nm,r) =>
     if aG (bs [60]) r=true then
      match ex r.tail with
      | .error er=>.error er
      | .ok (x,r2)=>match dX (bs [62]) en r2 with
       | .error er=>.error er
       | .ok r3=>.ok (.mk 4 E0 0 nm [x],r3)
     else if aG (bs [40]) r=true then
      if aG (bs [41]) r.tail=true then .ok (.mk 6 E0 0 nm [],r.tail.tail)
      else match l7 ex en 9 [] r.tail with
       | .error er=>.error er
       | .ok (ks,r2)=>.ok (.mk 6 E0 0 nm ks,r2)
     else .ok (.mk 3 E0 0 nm [],r)):=by unfold Hid bg;rw [hs1,hs2];simp only [eF,hk.1,hk.2,if_false,Bool.false_eq_true];rfl
 have S1:Hid (aG ⟨#[40]⟩ (t::r)=false):=hs1;have S2:Hid (aG ⟨#[36]⟩ (t::r)=false):=hs2;have HK:=ah hk
 have qp:Hid (bg ex pr en (t::r)=match l7 ex en 9 [] r1.tail with | .error er=>.error er | .ok (ks,r2)=>.ok (.mk 6 E0 0 nm ks,r2)):=by unfold Hid;rw [er.out,hnm];simp only [hs3,hs4,hs5,if_true,if_false,Bool.false_eq_true]
 have zq:=ah hnm;have S3:Hid (aG ⟨#[60]⟩ r1=false):=hs3;have S4:Hid (aG ⟨#[40]⟩ r1=true):=hs4;have S5:Hid (aG ⟨#[41]⟩ r1.tail=false):=hs5;have HEX:=ah HE
 have ama:nm.size≤16:=iG hnm
 obtain ⟨i0,hi0,hz0,hz1,hz2⟩:=info_parts ac7
 obtain ⟨hN,hT,hne,h7⟩:=h.jo
 obtain ⟨w0,hw0⟩:∃w0,w0=w.alloc (.cells #[.int .i64 0,.string ⟨#[]⟩,.int .i64 0,.string ⟨#[]⟩,.slice none 0 0] 54):=⟨_,rfl⟩
 have k0:Kept aA w w0:=by rw [hw0];exact (Kept.refl _ _).alloc _
 obtain ⟨M2,hM2⟩:∃M,M=w.heap.size:=⟨_,rfl⟩
 have Z0:Hid (dS M2 (.int .i64 0) (.string ⟨#[]⟩) (.int .i64 0) (.string ⟨#[]⟩) (.slice none 0 0) w0):=by rw [hw0,hM2];exact ay w _
 have R0:=ah (h.kept k0 (fun h=>h) (fun h=>h))
 have K0:Hid (Kept (· = N) w w0):=k0.more (fun _ h=>h.elim)
 have HW0:=ah hw0;have bD:=ah hM2
 clear k0 hw0 hM2 h hk hs1 hs2 hnm hs3 hs4 hs5 er HE
 go_enter Tryz.func235, Tryz.ntmps235
 go_upto_region 1 with fail
 rw [←HW0.out,←bD.out]
 go_upto_region 12 with (first
  | (go_at_call 53;(with_reducible refine (dY ⟨#[40]⟩ R0.out S1.out).mono ?_);rintro e w1 ⟨rfl,dV,bG⟩;have R1:=ah dV;have K1:Hid (Kept (· = N) w w1):=K0.out.trans bG;have Z1:=ah (Z0.out.kept bG (by have:=bD.out;omega));clear dV bG)
  | (go_at_call 53;(with_reducible refine (dY ⟨#[36]⟩ R1.out S2.out).mono ?_);rintro e w2 ⟨rfl,iI,bU⟩;have R2:=ah iI;have K2:Hid (Kept (· = N) w w2):=K1.out.trans bU;have Z2:=ah (Z1.out.kept bU (by have:=bD.out;omega));clear iI bU))
 obtain ⟨n2,a2,c2,hP⟩:=R2.out
 obtain ⟨c0,c1,cd,cf⟩:=hP.c0
 have hn:=hP.num
 rw [List.length_cons] at hn
 have h0:0<n2:=by omega
 have h1:(0:Int)<(n2:Int):=by omega
 have z:decide ((0:Int)<(n2:Int))=true:=ak h1
 have z':decide (0<n2)=true:=ak h0
 obtain ⟨o,rfl,t0,t1,t2⟩:=hP.head
 have y3:(t.kind==3)=false:=by simpa using HK.out.1
 have y2:(t.kind==2)=false:=by simpa using HK.out.2
 clear hn hP cf
 go_upto_region 22 with fail
 clear c0 c1 cd t0 t1 t2 y3 y2 z z'
 go_upto_region 23 with (go_at_call 50;(refine (fD R2.out).mono ?_);intro e w3 eG;obtain ⟨bF,rfl,iO⟩:=eG.ok zq.out;have R3:=ah iO;have K3:Hid (Kept (· = N) w w3):=K2.out.trans bF;have Z3:=ah (Z2.out.kept bF (by have:=bD.out;omega));clear bF iO eG)
 have I4:Hid (fQ N T en d M2 w3.heap.size w (.mk 3 E0 0 nm []) none 0 r1 (w3.alloc (.cells #[.int .i64 3,.string ⟨#[]⟩,.int .i64 0,.string nm,.slice none 0 0] 54))):=fQ.start (w1:=w3) (p:=.mk 3 E0 0 nm []) (ka:=none) (cap:=0) (S:=aA) Z3.out K3.out R3.out (fun b hb=>hb.elim) ⟨by show E0.size<_;decide,by show nm.size<_;have:=iG zq.out;omega,by show 0<_;decide⟩ (by show aN _ aA none [];unfold aN;trivial) hN K3.out.size Z3.out.lt
 have hsz:Hid (w.heap.size<w3.heap.size):=by have:=Z3.out.lt;have:=bD.out;unfold Hid;omega
 obtain ⟨w4,hw4⟩:∃w4,w4=w3.alloc (.cells #[.int .i64 3,.string ⟨#[]⟩,.int .i64 0,.string nm,.slice none 0 0] 54):=⟨_,rfl⟩
 obtain ⟨M5,mM⟩:∃M,M=w3.heap.size:=⟨_,rfl⟩
 rw [←hw4,←mM] at I4
 rw [←hw4,←mM]
 rw [←mM] at hsz
 have hM:Hid (N≠M2∧N≠M5∧T≠M2∧w.heap.size≤M2∧M2<M5):=by have:=bD.out;have:=hsz.out;unfold Hid;omega
 clear hw4 mM
 go_upto_region 27 with (first
  | (go_at_call 53;(with_reducible refine (dY ⟨#[60]⟩ I4.out.bI S3.out).mono ?_);rintro e w5 ⟨rfl,Ef,wK⟩;have I5:=ah (I4.out.aS hM.out.1 (by have:=hM.out;omega) wK Ef);clear Ef wK)
  | (go_at_call 53;(with_reducible refine (jG ⟨#[40]⟩ I5.out.bI S4.out).mono ?_);rintro e w6 ⟨rfl,yD,nJ⟩;have I6:=ah (I5.out.aS hM.out.1 (by have:=hM.out;omega) nJ yD);clear yD nJ))
 obtain ⟨x0,x1,x2,x3,x4,xf⟩:=I6.out.five.cells
 have xf0:=xf 0
 clear xf
 have J7:Hid (oz N T en d M2 M5 w nm [] (.slice none 0 0) r1.tail (w6.setCell ⟨M5,0,none⟩ (.int .i64 6))):=oz.start I6.out hM.out.2.1 (by have:=hM.out;omega) (by have:=hM.out;omega) hT hN
 go_upto_region 28 with fail
 obtain ⟨w7,hw7⟩:∃w7,w7=w6.setCell ⟨M5,0,none⟩ (.int .i64 6):=⟨_,rfl⟩
 rw [←hw7] at J7
 rw [←hw7]
 clear hw7 x0 x1 x2 x3 x4 xf0
 go_upto_block 0 with (go_at_call 53;(with_reducible refine (dY ⟨#[41]⟩ J7.out.bI S5.out).mono ?_);rintro e w8 ⟨rfl,zx,pG⟩;have J8:=ah (J7.out.aS hM.out.1 (by have:=hM.out;omega) pG zx);clear zx pG)
 clear J7 I4 I5 I6
 go_loopg [] 9 (fun f wr=>∃(ks:List aB) (a:Option Addr) (c:Nat) (l:List aC),Hid (ks.length+f=9∧ks.length≤8)∧Hid (oz N T en d M2 M5 w nm ks (.slice a ks.length c) l wr)∧Hid (bg ex pr en (t::r)=match l7 ex en f ks l with | .error er=>.error er | .ok (ks,r2)=>.ok (.mk 6 E0 0 nm ks,r2)))
 case atStart=>exact ⟨[],none,0,_,by unfold Hid;decide,J8,qp⟩
 case round =>
  obtain ⟨ks,a,c,l,hf,J,hch⟩:=hrel
  obtain ⟨x0,x1,x2,x3,x4,xf⟩:=J.out.five.cells
  have xf4:=xf 4
  clear xf
  by_cases h8:ks.length=8
  ·have z:((ks.length:Int)==8)=true:=by rw [h8];rfl
   obtain rfl:gk=1:=by have:=hf.out;omega
   have kR:Hid (bg ex pr en (t::r)=.error (5,dK en l)):=by unfold Hid;rw [hch.out,l7,if_pos h8]
   obtain ⟨n9,a9,c9,r9⟩:=J.out.bI
   have HA:=ah (lJ r9)
   clear r9 h8 hf hch
   go_wp2_with (first
    | (go_at_call 56;(refine HA.out.mono ?_);rintro e w' ⟨rfl,aI⟩;obtain rfl:=aI.symm)
    | (go_at_call 55;(refine (dH _ 5 (dK en l) wr).mono ?_);rintro e w9 ⟨rfl,rfl⟩))
   exact ⟨rfl,XQ.thrown J.out.kept (Kept.refl _ _) kR.out⟩
  ·have z:((ks.length:Int)==8)=false:=by simp;omega
   obtain ⟨g,rfl⟩:∃g,gk=g+1:=by have:=hf.out;exact ⟨gk-1,by omega⟩
   have IK:Hid (ks.length+g=8∧ks.length<8):=by have:=hf.out;unfold Hid;omega
   have hkl:ks.length≤8:=by have:=IK.out;omega
   have kR:Hid (bg ex pr en (t::r)=match (match ex l with | .error er=>.error er | .ok (x,r)=>if aG (bs [41]) r=true then .ok (ks++[x],r.tail) else match dX (bs [44]) en r with | .error er=>.error er | .ok r2=>l7 ex en g (ks++[x]) r2:bf (List aB)) with | .error er=>.error er | .ok (ks,r2)=>.ok (.mk 6 E0 0 nm ks,r2)):=by unfold Hid;rw [hch.out,l7,if_neg h8];rfl
   clear h8 hf hch
   have JD:=ah (J.out.aS hM.out.1 (by have:=hM.out;omega) ((Kept.refl (· = N) wr).drew) (J.out.bI.kept (Kept.refl aA wr).drew (fun h=>h) (fun h=>h)))
   go_upto_region 32 with fail
   go_cut [] (fun wx=>∃(q:aB) (r2:List aC) (a':Option Addr) (c':Nat),Hid (ex l=.ok (q,r2))∧Hid (oz N T en d M2 M5 w nm (ks++[q]) (.slice a' (ks++[q]).length c') r2 wx))
   case first =>
    go_region_law (first
     | (refine yT (w:=w9.alloc (.cells #[.int .i64 q.kind,.string q.text,.int .i64 q.n,.string q.name,.slice kc q.kids.length qQ] 54)) rfl (.tmp 145) (.tmp 148) 52 52 rfl (M5+1) 54 i0 (.agg #[.int .i64 0,.string ⟨#[]⟩,.int .i64 0,.string ⟨#[]⟩,.slice none 0 0]) 5 72 Tryz.underlying52 hi0 hz0 hz1 hz2 rfl (.slice a ks.length c) ks.length cs (by simp [Act.eval]) WB.out _ 1 [.int .i64 q.kind,.string q.text,.int .i64 q.n,.string q.name,.slice kc q.kids.length qQ] (by simp [Act.eval]) SR.out (by unfold maxLen;omega) (by omega) hb3 ?_;intro a4 c4 w10 EZ hg4 Ht;have LM4:=ah (LM.out a4 c4 w10 EZ hg4 (by simpa using Ht));have of4:=(HF.out w10 hg4).1;have oc4:=(HF.out w10 hg4).2)
     | (go_simp;go_at_call 90;(refine (HEX.out l wr.drew JD.out.bI).mono ?_);intro e w9 h9_;rcases hu:ex l with e0|⟨q,r2⟩;(obtain ⟨Iy,rfl⟩:=h9_.bad hu;have f_:XQ N T en d (bg ex pr en (t::r)) w (.panicked [{v:=bK e0,recovered:=false}]) w9:=XQ.thrown JD.out.kept Iy (by rw [kR.out,hu]);exact ⟨rfl,f_⟩);obtain ⟨Iy,r9_,S2,kc,qQ,rfl,ag2,ag3,ag4⟩:=h9_.ok hu;have HU:=ah hu;obtain ⟨cs,S1,hw1,hr1,hS1⟩:=JD.out.own;have WB:=ah ((hw1.kept Iy (fun b hb=>by have:=(hw1.lt b hb).1;have:=hM.out;omega)).alloc (.cells #[.int .i64 q.kind,.string q.text,.int .i64 q.n,.string q.name,.slice kc q.kids.length qQ] 54));have SR:Hid (Src Tryz.prog 5 52 (.slice (some ⟨w9.heap.size,0,none⟩) 1 1) 1 [.int .i64 q.kind,.string q.text,.int .i64 q.n,.string q.name,.slice kc q.kids.length qQ] (w9.alloc (.cells #[.int .i64 q.kind,.string q.text,.int .i64 q.n,.string q.name,.slice kc q.kids.length qQ] 54))):=Src.ofSlice _ Tryz.underlying52 _ _ _ _ rfl (World.news_of_block (fr:=(0,0)) (cs:=#[.int .i64 q.kind,.string q.text,.int .i64 q.n,.string q.name,.slice kc q.kids.length qQ]) (ay w9 _)) (by intro u hu;simp at hu;rcases hu with rfl|rfl|rfl|rfl|rfl<;>rfl);have I9:=ah (JD.out.aS hM.out.1 (by have:=hM.out;omega) Iy r9_);have hb3:M5+1≤(w9.alloc (.cells #[.int .i64 q.kind,.string q.text,.int .i64 q.n,.string q.name,.slice kc q.kids.length qQ] 54)).heap.size:=(by have:=I9.out.five.lt;simp;omega);obtain ⟨p0,p1,p2,p3,p4,pf⟩:=I9.out.five.cells;have p4':(w9.alloc (.cells #[.int .i64 q.kind,.string q.text,.int .i64 q.n,.string q.name,.slice kc q.kids.length qQ] 54)).cell? ⟨M5,4,none⟩=some (.slice a ks.length c):=(((Kept.refl aA w9).alloc _).cell I9.out.five.lt (fun h=>h)).trans p4;have LM:Hid (∀(a':Option Addr) (c':Nat) (w4:World),aO w4 (M5+1) 54 5 (.slice a' (ks.length+1) c') (ks.length+1) (cs++[.int .i64 q.kind,.string q.text,.int .i64 q.n,.string q.name,.slice kc q.kids.length qQ])→(w9.alloc (.cells #[.int .i64 q.kind,.string q.text,.int .i64 q.n,.string q.name,.slice kc q.kids.length qQ] 54)).grownBy w4 (Value.slice a ks.length c).ownBlock→((Value.slice a' (ks.length+1) c').ownBlock=(Value.slice a ks.length c).ownBlock∨(Value.slice a' (ks.length+1) c').ownBlock=some (w9.heap.size+1))→oz N T en d M2 M5 w nm (ks++[q]) (.slice a' (ks.length+1) c') r2 (w4.setCell ⟨M5,4,none⟩ (.slice a' (ks.length+1) c'))):=(fun a' c' w4 y1 y2 y3=>JD.out.step hw1 hr1 hS1 hM.out.2.2.2.2 (by have:=hM.out;omega) hN hT (by have:=hM.out;omega) Iy r9_ ag3 ag2 ag4 y1 y2 y3);have HF:Hid (∀w4:World,(w9.alloc (.cells #[.int .i64 q.kind,.string q.text,.int .i64 q.n,.string q.name,.slice kc q.kids.length qQ] 54)).grownBy w4 (Value.slice a ks.length c).ownBlock→w4.frozen? ⟨M5,4,none⟩=false∧w4.cell? ⟨M5,4,none⟩=some (.slice a ks.length c)):=(fun w4 hg=>by have hlt3:=I9.out.five.lt;have hx:=hg.block M5 (by simp;omega) (fun e=>by have:=(hw1.lt _ e.symm).1;omega);have hy:=I9.out.five;unfold dS at hy;exact ⟨by simp [World.frozen?,hx,Below.heap_alloc _ _ _ hlt3,hy],by simp [World.cell?,hx,Below.heap_alloc _ _ _ hlt3,hy]⟩);clear Iy r9_ ag2 ag3 ag4 h9_ hw1 hr1 hS1 hu))
    all_goals
     go_wp2_with fail
     go_meet
     exact ⟨q,r2,a4,c4,HU,by rw [List.length_append];exact LM4⟩
   case rest =>
    obtain ⟨q,r2,a5,c5,HU,J9⟩:=hcut
    obtain ⟨Eh,Xm⟩:∃k2,k2=ks++[q]:=⟨_,rfl⟩
    have TJ:Hid (Eh.length=ks.length+1):=by unfold Hid;rw [Xm,List.length_append];rfl
    rw [←Xm] at J9
    have yE:Hid (bg ex pr en (t::r)=match (if aG (bs [41]) r2=true then .ok (Eh,r2.tail) else match dX (bs [44]) en r2 with | .error er=>.error er | .ok r2=>l7 ex en g (Eh) r2:bf (List aB)) with | .error er=>.error er | .ok (ks,r2)=>.ok (.mk 6 E0 0 nm ks,r2)):=by unfold Hid;rw [kR.out,HU.out,Xm]
    clear Xm
    cases hs:aG ⟨#[41]⟩ r2 with
    | true =>
     have er5:Hid (bg ex pr en (t::r)=.ok (.mk 6 E0 0 nm (Eh),r2.tail)):=by unfold Hid;rw [yE.out,show aG (bs [41]) r2=true from hs];rfl
     go_upto_region 34 with (go_at_call 53;(with_reducible refine (jG ⟨#[41]⟩ J9.out.bI hs).mono ?_);rintro e w10 ⟨rfl,qw,qx⟩;have P6:=ah (J9.out.aS hM.out.1 (by have:=hM.out;omega) qx qw);clear qw qx)
     have I10:Hid (fQ N T en d M2 M5 w (.mk 6 E0 0 nm (Eh)) a5 c5 r2.tail w10):=oz.done P6.out hM.out.2.2.2.2 (by have:=hM.out;omega) hN (by have:=IK.out;have:=TJ.out;omega)
     obtain ⟨x0,x1,x2,x3,x4,_⟩:=I10.out.five.cells
     obtain ⟨z0,z1,z2,z3,z4,zf⟩:=I10.out.zero.cells
     have xA:=zf 0;have xB:=zf 1;have xC:=zf 2;have yB:=zf 3;have yC:=zf 4
     clear zf
     go_wp2_with fail
     exact iD 2 rfl rfl (I10.out.zero.fP _ _ _ _ _) (I10.out.fin hM.out.1 hM.out.2.2.1 hM.out.2.2.2.1 hN er5.out)
    | false =>
     cases hv:dX (bs [44]) en r2 with
     | error e0 =>
      have er5:Hid (bg ex pr en (t::r)=.error e0):=by unfold Hid;rw [yE.out,show aG (bs [41]) r2=false from hs];simp only [hv,if_false,Bool.false_eq_true]
      go_wp2_with (first
       | (go_at_call 53;(with_reducible refine (dY ⟨#[41]⟩ J9.out.bI hs).mono ?_);rintro e w10 ⟨rfl,qw,qx⟩;have P6:=ah (J9.out.aS hM.out.1 (by have:=hM.out;omega) qx qw);clear qw qx)
       | (go_at_call 88;(refine (jf (bs [44]) P6.out.bI).mono ?_);intro e w11 Qa;obtain ⟨Qb,rfl⟩:=Qa.bad hv;have K11:=ah Qb;clear Qb Qa))
      exact ⟨rfl,XQ.thrown P6.out.kept K11.out er5.out⟩
     | ok r3 =>
      have er5:Hid (bg ex pr en (t::r)=match l7 ex en g (Eh) r3 with | .error er=>.error er | .ok (ks,r2)=>.ok (.mk 6 E0 0 nm ks,r2)):=by unfold Hid;rw [yE.out,show aG (bs [41]) r2=false from hs];simp only [hv,if_false,Bool.false_eq_true]
      go_wp2_with (first
       | (go_at_call 53;(with_reducible refine (dY ⟨#[41]⟩ J9.out.bI hs).mono ?_);rintro e w10 ⟨rfl,qw,qx⟩;have P6:=ah (J9.out.aS hM.out.1 (by have:=hM.out;omega) qx qw);clear qw qx)
       | (go_at_call 88;(refine (jf (bs [44]) P6.out.bI).mono ?_);intro e w11 Qa;obtain ⟨Qb,rfl,ag5⟩:=Qa.ok hv;have J11:=ah (P6.out.aS hM.out.1 (by have:=hM.out;omega) Qb ag5);clear Qb ag5 Qa))
      go_roundg g
      case measure=>omega
      case rel=>exact ⟨Eh,a5,c5,r3,by have:=IK.out;have:=TJ.out;unfold Hid;omega,J11,er5⟩
end Go.Proofs.YtgoijmpahffnhaaGreatDoor

namespace Go.Proofs.YtgoijmpahffnhaaGreatDoor
set_option linter.all false
open Go.RowKit
set_option maxRecDepth 100000
set_option maxHeartbeats 8000000
theorem Kept.ES {w w':World} (b:Below w.heap.size w w'):Kept aA w w':=⟨b.os,b.tape,b.output,b.size,fun k hk _=>b.block k hk⟩
theorem adW {x:aj} (h:0<x.size):x.data.toList.head?=some x[0]:=by
 obtain ⟨⟨l⟩⟩:=x
 cases l with
 | nil=>simp [ByteArray.size] at h
 | cons c r=>rfl
theorem aak {t:aC} {r:List aC} (h:0<t.text.size) (h1:1<t.text.size) (h2:t.text[0].toNat=48):GN t r=.error (2,t.at_):=by
 unfold GN;rw [if_pos ⟨h1,by rw [adW h];congr 1;exact UInt8.toNat_inj.1 h2⟩]
theorem LX {t:aC} {r:List aC} (h:0<t.text.size) (h1:¬(1<t.text.size∧t.text[0].toNat=48)):GN t r=if 9223372036854775807<qP t.text.data.toList then .error (3,t.at_) else .ok (.mk 2 E0 (qP t.text.data.toList) E0 [],r):=by
 unfold GN;rw [if_neg (fun ⟨a,b⟩=>h1 ⟨a,by rw [adW h] at b;simp only [Option.some.injEq] at b;rw [b];rfl⟩)]
theorem aal {N T en d:Nat} {ex pr:List aC→bf aB} {t:aC} {r:List aC} {w:World} (h:bZ N T en (t::r) d w) (hk:t.kind=2):Calls Tryz.prog 235 #[.pointer (some ⟨N,0,none⟩)] w (XQ N T en d (bg ex pr en (t::r)) w):=by
 have er:Hid (bg ex pr en (t::r)=GN t r):=by unfold Hid bg;rw [nK (by omega),nK (by omega)];simp only [eF,hk,if_true,if_false,Bool.false_eq_true,show ¬((2:Int)=3) by decide]
 have S1:Hid (aG ⟨#[40]⟩ (t::r)=false):=nK (by omega)
 have S2:Hid (aG ⟨#[36]⟩ (t::r)=false):=nK (by omega)
 have TK:Hid (eF 2 en (t::r)=.ok (t,r)):=BX hk
 have HK:=ah hk
 have hgood:t.at_≤1000000∧t.text.size≤1000000∧t.kind≠4∧(t.kind=2→t.text.size≠0∧∀c∈t.text.data.toList,48≤c.toNat∧c.toNat≤57)∧(t.kind=1→t.text.size≠0):=by obtain ⟨_,_,_,h⟩:=h;exact h.good t (List.mem_cons_self ..)
 obtain ⟨_,htb,_,hdig,_⟩:=hgood
 obtain ⟨hd0,hd1⟩:=hdig hk
 have HPI:=ah (agU t.text.data.toList (fun e=>hd0 (by rw [ByteArray.size,←Array.length_toList,e];rfl)) hd1)
 have htp:0<t.text.size:=by omega
 clear hd0 hd1 hdig
 obtain ⟨hN,hT,hne,h7⟩:=h.jo
 obtain ⟨w0,hw0⟩:∃w0,w0=w.alloc (.cells #[.int .i64 0,.string ⟨#[]⟩,.int .i64 0,.string ⟨#[]⟩,.slice none 0 0] 54):=⟨_,rfl⟩
 have k0:Kept aA w w0:=by rw [hw0];exact (Kept.refl _ _).alloc _
 obtain ⟨M2,hM2⟩:∃M,M=w.heap.size:=⟨_,rfl⟩
 have Z0:Hid (dS M2 (.int .i64 0) (.string ⟨#[]⟩) (.int .i64 0) (.string ⟨#[]⟩) (.slice none 0 0) w0):=by rw [hw0,hM2];exact ay w _
 have R0:=ah (h.kept k0 (fun h=>h) (fun h=>h))
 have K0:Hid (Kept (· = N) w w0):=k0.more (fun _ h=>h.elim)
 have HW0:=ah hw0;have bD:=ah hM2
 clear k0 hw0 hM2 h hk
 go_enter Tryz.func235, Tryz.ntmps235
 go_upto_region 1 with fail
 rw [←HW0.out,←bD.out]
 go_upto_region 12 with (first
  | (go_at_call 53;(with_reducible refine (dY ⟨#[40]⟩ R0.out S1.out).mono ?_);rintro e w1 ⟨rfl,dV,bG⟩;have R1:=ah dV;have K1:Hid (Kept (· = N) w w1):=K0.out.trans bG;have Z1:=ah (Z0.out.kept bG (by have:=bD.out;omega));clear dV bG)
  | (go_at_call 53;(with_reducible refine (dY ⟨#[36]⟩ R1.out S2.out).mono ?_);rintro e w2 ⟨rfl,iI,bU⟩;have R2:=ah iI;have K2:Hid (Kept (· = N) w w2):=K1.out.trans bU;have Z2:=ah (Z1.out.kept bU (by have:=bD.out;omega));clear iI bU))
 obtain ⟨n2,a2,c2,hP⟩:=R2.out
 obtain ⟨c0,c1,cd,cf⟩:=hP.c0
 have hn:=hP.num
 rw [List.length_cons] at hn
 have h0:0<n2:=by omega
 have h1:(0:Int)<(n2:Int):=by omega
 have z:decide ((0:Int)<(n2:Int))=true:=ak h1
 have z':decide (0<n2)=true:=ak h0
 obtain ⟨o,rfl,t0,t1,t2⟩:=hP.head
 have y:(t.kind==3)=false:=by rw [HK.out];rfl
 have y2:(t.kind==2)=true:=by rw [HK.out];rfl
 clear hn hP cf
 go_upto_region 15 with fail
 clear c0 c1 cd t0 t1 t2 y y2 z z'
 go_upto_region 16 with (go_at_call 86;(refine (tC 2 R2.out).mono ?_);intro e w3 eG;obtain ⟨bF,Ee,iO⟩:=eG.ok TK.out;unfold FI at Ee;subst Ee;have R3:=ah iO;have K3:Hid (Kept (· = N) w w3):=K2.out.trans bF;have Z3:=ah (Z2.out.kept bF (by have:=bD.out;omega));clear iO bF eG)
 obtain ⟨w4,hw4⟩:∃w4,w4=w3.alloc (.cells #[.int .i64 t.kind,.string t.text,.int .i64 t.at_] 105):=⟨_,rfl⟩
 have T4:Hid (oO w3.heap.size t w4):=by rw [hw4];exact ay w3 _
 have k4:Kept aA w3 w4:=by rw [hw4];exact (Kept.refl _ _).alloc _
 have R4:=ah (R3.out.kept k4 (fun h=>h) (fun h=>h))
 have K4:Hid (Kept (· = N) w w4):=K3.out.trans (k4.more (fun _ h=>h.elim))
 have Z4:=ah (Z3.out.kept k4 (fun h=>h))
 rw [←hw4]
 obtain ⟨M,hM⟩:∃M,M=w3.heap.size:=⟨_,rfl⟩
 rw [←hM] at T4⊢
 clear hw4 k4 hM
 obtain ⟨t0,t1,t2,_⟩:=T4.out.cells
 have bi:(0:Int)<(t.text.size:Int):=by omega
 by_cases h1:1<t.text.size
 ·have d1:decide ((1:Int)<(t.text.size:Int))=true:=ak (by omega)
  have d2:decide (1<t.text.size)=true:=ak h1
  by_cases h2:t.text[0].toNat=48
  ·have y:((t.text[0].toNat:Int)==48)=true:=by rw [h2];rfl
   have qp:Hid (bg ex pr en (t::r)=.error (2,t.at_)):=by unfold Hid;rw [er.out,aak htp h1 h2]
   clear h2 er
   go_wp2_with (go_at_call 55;(refine (dH _ 2 t.at_ w4).mono ?_);rintro e w6 ⟨rfl,rfl⟩)
   exact ⟨rfl,XQ.thrown K4.out (Kept.refl _ _) qp.out⟩
  ·have y:((t.text[0].toNat:Int)==48)=false:=by simp;omega
   have qp:Hid (bg ex pr en (t::r)=if 9223372036854775807<qP t.text.data.toList then .error (3,t.at_) else .ok (.mk 2 E0 (qP t.text.data.toList) E0 [],r)):=by unfold Hid;rw [er.out,LX htp (fun ⟨_,b⟩=>h2 b)]
   clear h2 er
   go_upto_region 18 with fail
   by_cases hle:qP t.text.data.toList≤9223372036854775807
   ·have kR:Hid (bg ex pr en (t::r)=.ok (.mk 2 E0 (qP t.text.data.toList) E0 [],r)):=by unfold Hid;rw [qp.out,if_neg (by omega)]
    have IG:=ah (HPI.out.1 hle)
    clear hle qp
    go_upto_region 21 with (go_at_call 238;(refine (Tryz.strconv_ParseInt_10_at64_ok t.text (by omega) _ IG.out w4).mono ?_);rintro e w5 ⟨rfl,Qc⟩;have k5:Kept aA w4 w5:=(by rcases Qc with rfl|⟨_,rfl⟩;exact Kept.refl _ _;exact Kept.ES (Lib.bytesWorld_below _ _ _));have R5:=ah (R4.out.kept k5 (fun h=>h) (fun h=>h));have K5:Hid (Kept (· = N) w w5):=K4.out.trans (k5.more (fun _ h=>h.elim));have Z5:=ah (Z4.out.kept k5 (fun h=>h));clear k5 Qc)
    obtain ⟨z0,z1,z2,z3,z4,zf⟩:=Z5.out.cells
    have xA:=zf 0;have xB:=zf 1;have xC:=zf 2;have yB:=zf 3;have yC:=zf 4
    clear zf t0 t1 t2
    go_wp2_with fail
    exact iD 2 rfl rfl (Z5.out.fP _ _ _ _ _) (GL Z5.out K5.out R5.out bD.out hN hT (by decide) (by decide) kR.out)
   ·have kR:Hid (bg ex pr en (t::r)=.error (3,t.at_)):=by unfold Hid;rw [qp.out,if_pos (by omega)]
    have IG:=ah (HPI.out.2 (by omega))
    obtain ⟨ev,hev1,hev2⟩:eU w4:=by obtain ⟨_,_,_,h⟩:=R4.out;exact h.rng
    have Ip:=ah hev1;have HE2:=ah hev2
    clear hle qp hev1 hev2
    go_wp2_with (first
     | (go_at_call 238;(refine (Tryz.strconv_ParseInt_10_at64_range t.text (by omega) IG.out ev w4 Ip.out HE2.out).mono ?_);rintro e w5 ⟨np,rfl,-,-,Qd⟩;have k5:=Kept.ES Qd;have K5:Hid (Kept (· = N) w4 w5):=k5.more (fun _ h=>h.elim);have T5:=T4.out.kept k5 (fun h=>h);obtain ⟨u0,u1,u2,_⟩:=T5.cells;clear T5 k5 Qd)
     | (go_at_call 55;(refine (dH _ 3 t.at_ _).mono ?_);rintro e w6 ⟨rfl,rfl⟩))
    exact ⟨rfl,XQ.thrown K4.out K5.out kR.out⟩
 ·have d1:decide ((1:Int)<(t.text.size:Int))=false:=au (by omega)
  have d2:decide (1<t.text.size)=false:=au h1
  have qp:Hid (bg ex pr en (t::r)=if 9223372036854775807<qP t.text.data.toList then .error (3,t.at_) else .ok (.mk 2 E0 (qP t.text.data.toList) E0 [],r)):=by unfold Hid;rw [er.out,LX htp (fun ⟨b,_⟩=>h1 b)]
  clear h1 er
  go_upto_region 18 with fail
  by_cases hle:qP t.text.data.toList≤9223372036854775807
  ·have kR:Hid (bg ex pr en (t::r)=.ok (.mk 2 E0 (qP t.text.data.toList) E0 [],r)):=by unfold Hid;rw [qp.out,if_neg (by omega)]
   have IG:=ah (HPI.out.1 hle)
   clear hle qp
   go_upto_region 21 with (go_at_call 238;(refine (Tryz.strconv_ParseInt_10_at64_ok t.text (by omega) _ IG.out w4).mono ?_);rintro e w5 ⟨rfl,Qc⟩;have k5:Kept aA w4 w5:=(by rcases Qc with rfl|⟨_,rfl⟩;exact Kept.refl _ _;exact Kept.ES (Lib.bytesWorld_below _ _ _));have R5:=ah (R4.out.kept k5 (fun h=>h) (fun h=>h));have K5:Hid (Kept (· = N) w w5):=K4.out.trans (k5.more (fun _ h=>h.elim));have Z5:=ah (Z4.out.kept k5 (fun h=>h));clear k5 Qc)
   obtain ⟨z0,z1,z2,z3,z4,zf⟩:=Z5.out.cells
   have xA:=zf 0;have xB:=zf 1;have xC:=zf 2;have yB:=zf 3;have yC:=zf 4
   clear zf t0 t1 t2
   go_wp2_with fail
   exact iD 2 rfl rfl (Z5.out.fP _ _ _ _ _) (GL Z5.out K5.out R5.out bD.out hN hT (by decide) (by decide) kR.out)
  ·have kR:Hid (bg ex pr en (t::r)=.error (3,t.at_)):=by unfold Hid;rw [qp.out,if_pos (by omega)]
   have IG:=ah (HPI.out.2 (by omega))
   obtain ⟨ev,hev1,hev2⟩:eU w4:=by obtain ⟨_,_,_,h⟩:=R4.out;exact h.rng
   have Ip:=ah hev1;have HE2:=ah hev2
   clear hle qp hev1 hev2
   go_wp2_with (first
    | (go_at_call 238;(refine (Tryz.strconv_ParseInt_10_at64_range t.text (by omega) IG.out ev w4 Ip.out HE2.out).mono ?_);rintro e w5 ⟨np,rfl,-,-,Qd⟩;have k5:=Kept.ES Qd;have K5:Hid (Kept (· = N) w4 w5):=k5.more (fun _ h=>h.elim);have T5:=T4.out.kept k5 (fun h=>h);obtain ⟨u0,u1,u2,_⟩:=T5.cells;clear T5 k5 Qd)
    | (go_at_call 55;(refine (dH _ 3 t.at_ _).mono ?_);rintro e w6 ⟨rfl,rfl⟩))
   exact ⟨rfl,XQ.thrown K4.out K5.out kR.out⟩
end Go.Proofs.YtgoijmpahffnhaaGreatDoor

namespace Go.Proofs.YtgoijmpahffnhaaGreatDoor
set_option linter.all false
open Go.RowKit
theorem wM {k:Int} {en:Nat} {l r:List aC} {t:aC} (h:eF k en l=.ok (t,r)):r.length+1=l.length:=by
 cases l with
 | nil=>cases h
 | cons u v =>
  simp only [eF] at h
  split at h
  ·simp only [Except.ok.injEq,Prod.mk.injEq] at h;obtain ⟨rfl,rfl⟩:=h;rfl
  ·cases h
theorem jZ {en:Nat} {l r:List aC} {x:aj} (h:dN en l=.ok (x,r)):r.length+1=l.length:=by
 unfold dN at h
 split at h
 ·cases h
 ·next t r' hh =>
  split at h
  ·cases h
  ·simp only [Except.ok.injEq,Prod.mk.injEq] at h;obtain ⟨rfl,rfl⟩:=h;exact wM hh
theorem gX {x:aj} {l:List aC} (h:aG x l=true):l.tail.length+1=l.length:=by
 cases l with
 | nil=>cases h
 | cons u v=>rfl
theorem nP {x:aj} {en:Nat} {l r:List aC} (h:dX x en l=.ok r):r.length+1=l.length:=by
 unfold dX at h
 split at h
 ·next hs=>simp only [Except.ok.injEq] at h;subst h;exact gX hs
 ·cases h
theorem Qe {en:Nat} {l r:List aC} {p:aB} (h:qR en l=.ok (p,r)):r.length+1=l.length:=by
 unfold qR at h
 split at h<;>cases h
def oC (f:List aC→bf aB):Prop:=∀l y r,f l=.ok (y,r)→sizeT y+r.length≤l.length
theorem oC.shr {f:List aC→bf aB} (h:oC f):Shr f:=fun l y r hl=>by have:=h l y r hl;omega
theorem FK (k:Int) (x:aB):sizeT (node1 k x)=1+sizeT x:=by simp [node1,sizeT,bP]
theorem SY (k:Int) (x y:aB):sizeT (node2 k x y)=1+(sizeT x+sizeT y):=by simp [node2,sizeT,bP]
theorem IL (l:List aB) (x:aB):bP (l++[x])=bP l+sizeT x:=by
 induction l with
 | nil=>simp [bP]
 | cons p r ih=>simp only [List.cons_append,bP,ih];omega
theorem S9 {sG:Nat} {sub:List aC→bf aB} (h:oC sub):∀(f:Nat) (x:aB) (l:List aC) (y:aB) (r:List aC),oP sG sub f x l=.ok (y,r)→sizeT y+r.length≤sizeT x+l.length:=by
 intro f
 induction f with
 | zero=>intro x l y r hc;simp only [oP,Except.ok.injEq,Prod.mk.injEq] at hc;obtain ⟨rfl,rfl⟩:=hc;omega
 | succ f ih =>
  intro x l y r hc
  rw [oP] at hc
  split at hc
  ·next ho =>
   split at hc
   ·cases hc
   ·next z r1 hz =>
    have h1:=ih _ _ _ _ hc
    have h2:=h _ _ _ hz
    rw [SY] at h1
    cases l with
    | nil=>simp [opAt] at ho
    | cons t l2=>simp only [List.tail_cons] at h2;rw [List.length_cons];omega
  ·simp only [Except.ok.injEq,Prod.mk.injEq] at hc;obtain ⟨rfl,rfl⟩:=hc;omega
theorem tH {sG:Nat} {sub:List aC→bf aB} (h:oC sub):oC (oZ sG sub):=by
 intro l y r hl
 unfold oZ at hl
 split at hl
 ·cases hl
 ·next z r1 hz =>
  have h1:=S9 h _ _ _ _ _ hl
  have h2:=h _ _ _ hz
  omega
theorem Ei {un:List aC→bf aB} (h:oC un):oC (Kw un):=tH (tH (tH h))
theorem Xn {ex:List aC→bf aB} {en:Nat} (h:oC ex):∀(f:Nat) (ks:List aB) (l:List aC) (Eh:List aB) (r:List aC),l7 ex en f ks l=.ok (Eh,r)→bP Eh+r.length≤bP ks+l.length:=by
 intro f
 induction f with
 | zero=>intro x l y r hc;simp only [l7,Except.ok.injEq,Prod.mk.injEq] at hc;obtain ⟨rfl,rfl⟩:=hc;omega
 | succ f ih =>
  intro ks l Eh r hc
  rw [l7] at hc
  split at hc
  ·cases hc
  ·split at hc
   ·cases hc
   ·next x r1 hx =>
    have h2:=h _ _ _ hx
    split at hc
    ·next hs =>
     simp only [Except.ok.injEq,Prod.mk.injEq] at hc;obtain ⟨rfl,rfl⟩:=hc
     have:=gX hs
     rw [IL];omega
    ·split at hc
     ·cases hc
     ·next r2 hn =>
      have h1:=ih _ _ _ _ hc
      have:=nP hn
      rw [IL] at h1;omega
theorem xM {ex pr:List aC→bf aB} {en:Nat} (he:oC ex) (hp:oC pr):oC (bg ex pr en):=by
 intro l y r hl
 unfold bg at hl
 split at hl
 ·next hs =>
  have:=gX hs
  split at hl
  ·cases hl
  ·next x r1 hx =>
   have h2:=he _ _ _ hx
   split at hl
   ·cases hl
   ·next r2 hn =>
    have:=nP hn
    simp only [Except.ok.injEq,Prod.mk.injEq] at hl;obtain ⟨rfl,rfl⟩:=hl;omega
 ·split at hl
  ·next hs =>
   have:=gX hs
   split at hl
   ·cases hl
   ·next x r1 hx =>
    have h2:=hp _ _ _ hx
    simp only [Except.ok.injEq,Prod.mk.injEq] at hl;obtain ⟨rfl,rfl⟩:=hl;rw [FK];omega
  ·split at hl
   ·next t r1 ht =>
    have:=wM ht
    simp only [Except.ok.injEq,Prod.mk.injEq] at hl;obtain ⟨rfl,rfl⟩:=hl;simp only [sizeT,bP];omega
   ·split at hl
    ·next t r1 ht =>
     have:=wM ht
     unfold GN at hl
     split at hl
     ·cases hl
     ·split at hl
      ·cases hl
      ·simp only [Except.ok.injEq,Prod.mk.injEq] at hl;obtain ⟨rfl,rfl⟩:=hl;simp only [sizeT,bP];omega
    ·split at hl
     ·cases hl
     ·next nm r1 hn =>
      have:=jZ hn
      split at hl
      ·next hs =>
       have:=gX hs
       split at hl
       ·cases hl
       ·next x r2 hx =>
        have h2:=he _ _ _ hx
        split at hl
        ·cases hl
        ·next r3 hn3 =>
         have:=nP hn3
         simp only [Except.ok.injEq,Prod.mk.injEq] at hl;obtain ⟨rfl,rfl⟩:=hl;simp only [sizeT,bP];omega
      ·split at hl
       ·next hs =>
        have:=gX hs
        split at hl
        ·next hs2 =>
         have:=gX hs2
         simp only [Except.ok.injEq,Prod.mk.injEq] at hl;obtain ⟨rfl,rfl⟩:=hl;simp only [sizeT,bP];omega
        ·split at hl
         ·cases hl
         ·next ks r2 hk =>
          have h2:=Xn he _ _ _ _ _ hk
          simp only [Except.ok.injEq,Prod.mk.injEq] at hl;obtain ⟨rfl,rfl⟩:=hl;simp only [sizeT,bP] at *;omega
       ·simp only [Except.ok.injEq,Prod.mk.injEq] at hl;obtain ⟨rfl,rfl⟩:=hl;simp only [sizeT,bP];omega
theorem Qg {un pr:List aC→bf aB} (hu:oC un) (hp:oC pr):oC (zy un pr):=by
 intro l y r hl
 unfold zy at hl
 split at hl
 ·next hs =>
  have:=gX hs
  split at hl
  ·cases hl
  ·next x r1 hx =>
   have h2:=hu _ _ _ hx
   simp only [Except.ok.injEq,Prod.mk.injEq] at hl;obtain ⟨rfl,rfl⟩:=hl;rw [FK];omega
 ·exact hp _ _ _ hl
theorem xO (en:Nat):∀k,oC (uK en k).1∧oC (uK en k).2
 | 0=>by
  have e:oC (fun l=>.error (4,dK en l)):=fun l y r h=>by cases h
  exact ⟨Qg e (xM e e),xM e e⟩
 | k+1=>by
  obtain ⟨h1,h2⟩:=xO en k
  exact ⟨Qg h1 (xM (Ei h1) h2),xM (Ei h1) h2⟩
theorem uM (en:Nat):∀k,oC (vZ en k)
 | 0=>by intro l y r h;rw [vZ] at h;cases h
 | k+1=>by intro l y r h;rw [vZ] at h;exact Ei (xO en k).1 l y r h
theorem LY {N T en d:Nat} {ex pr:List aC→bf aB} (HE:GI N T en d ex) (HD:(d=400∧pr=fun l=>.error (4,dK en l))∨(d<400∧Ku N T en (d+1) pr)):Ku N T en d (bg ex pr en):=by
 intro l w h
 cases l with
 | nil=>exact aai h
 | cons t r =>
  cases hs1:aG (bs [40]) (t::r) with
  | true=>exact aaf HE h hs1
  | false =>
   cases hs2:aG (bs [36]) (t::r) with
   | true =>
    rcases HD with ⟨hd,rfl⟩|⟨hd,HP⟩
    ·exact Kr (pr:=fun l=>.error (4,dK en l)) h hd hs2
    ·exact Kt hd HP h hs2
   | false =>
    by_cases h3:t.kind=3
    ·exact Xi h h3
    ·by_cases h2:t.kind=2
     ·exact aal h h2
     ·cases hn:dN en (t::r) with
      | error e0=>exact Kv h ⟨h3,h2⟩ hs1 hs2 hn
      | ok x =>
       obtain ⟨nm,r1⟩:=x
       cases hs3:aG (bs [60]) r1 with
       | true=>exact Xk h ⟨h3,h2⟩ hs1 hs2 hn HE hs3
       | false =>
        cases hs4:aG (bs [40]) r1 with
        | false=>exact Xj h ⟨h3,h2⟩ hs1 hs2 hn hs3 hs4
        | true =>
         cases hs5:aG (bs [41]) r1.tail with
         | true=>exact SQ h ⟨h3,h2⟩ hs1 hs2 hn hs3 hs4 hs5
         | false=>exact Xl h ⟨h3,h2⟩ hs1 hs2 hn hs3 hs4 HE hs5
theorem UH {N T en d:Nat} {un pr:List aC→bf aB} (HP:Ku N T en d pr) (HD:(d=400∧un=fun l=>.error (4,dK en l))∨(d<400∧Ky N T en (d+1) un)):Ky N T en d (zy un pr):=by
 intro l w h
 cases hs:aG (bs [45]) l with
 | false=>exact aam HP h hs
 | true =>
  rcases HD with ⟨rfl,rfl⟩|⟨hd,HU⟩
  ·exact ac8 h hs
  ·exact ac9 hd HU h hs
theorem Qh {N T en d:Nat} {un:List aC→bf aB} (HU:Ky N T en d un) (hm:oC un):IE N T en d 0 (Kw un) :=
 Ed (by omega) (Ed (by omega) (Ed (by omega) (aan HU) hm.shr) (tH hm).shr) (tH (tH hm)).shr
theorem Qi (N T en:Nat):∀k,k≤400→Ky N T en (400-k) (uK en k).1∧Ku N T en (400-k) (uK en k).2
 | 0,_=>by
  have HE:GI N T en 400 (fun l=>.error (4,dK en l)):=fun l w h=>Xo h
  have HP:=LY HE (.inl ⟨rfl,rfl⟩)
  exact ⟨UH HP (.inl ⟨rfl,rfl⟩),HP⟩
 | k+1,hk=>by
  obtain ⟨h1,h2⟩:=Qi N T en k (by omega)
  have e:400-k=400-(k+1)+1:=by omega
  rw [e] at h1 h2
  have HB:=Qh h1 (xO en k).1
  have HE:GI N T en (400-(k+1)) (Kw (uK en k).1):=fun l w h=>IQ (by omega) HB h
  have HP:=LY HE (.inr ⟨by omega,h2⟩)
  exact ⟨UH HP (.inr ⟨by omega,h1⟩),HP⟩
theorem Ej (N T en:Nat):GI N T en 0 (vZ en 400):=by
 intro l w h
 have HB:=Qh (Qi N T en 399 (by omega)).1 (xO en 399).1
 exact IQ (by omega) HB h
end Go.Proofs.YtgoijmpahffnhaaGreatDoor

namespace Go.Proofs.YtgoijmpahffnhaaGreatDoor
set_option linter.all false
open Go.RowKit
set_option maxRecDepth 100000
set_option maxHeartbeats 2000000
theorem kP.none {o:Option Int} {w w':World} {x:Int} (k:Kept aA w w') (h:o=none) (hx:x≠0):kP o w (.returned (.tuple #[.int .i64 0,.int .i64 x])) w':=⟨k,.inr ⟨h,x,hx,rfl⟩⟩
theorem kP.some {o:Option Int} {w w':World} {n:Int} (k:Kept aA w w') (h:o=some n):kP o w (.returned (.tuple #[.int .i64 n,.int .i64 0])) w':=⟨k,.inl ⟨n,h,rfl⟩⟩
theorem rW {f:Func} {tmps:Array Value} {i j:Nat} {a b:Value} {w2:World} {Q:Ending→World→Prop} (hres:f.results = #[.tmp i,.tmp j]) (hi:tmps.getD i undef=a) (hj:tmps.getD j undef=b)
  (hq:Q (.returned (.tuple #[a,b])) w2):bodyPost Tryz.prog f Q .ret ⟨tmps,[]⟩ w2:=by
 have h1:tmps[i]?.getD undef=a:=by rw [←hi,Array.getD_eq_getD_getElem?]
 have h2:tmps[j]?.getD undef=b:=by rw [←hj,Array.getD_eq_getD_getElem?]
 exact bodyPost_ret (v:=.tuple #[a,b]) (by simp [results,hres,go_sem,h1,h2]) rfl hq
theorem rY {t:aj} {cs L:List UInt8} (hL:Lib.trimS t.data.toList cs=L) (w:World) (hs:t.size≤65536) (hl:cs.length≤100) (ha:cs.all (fun b=>decide (b.toNat<128))=true) :
  Calls Tryz.prog 237 #[.string t,.string ⟨cs.toArray⟩] w fun e w'=>e=.returned (.string ⟨L.toArray⟩)∧Kept aA w w':=by
 subst hL;exact acJ t cs w hs hl ha
theorem Pn (t:aj) (w:World) (h:65536<t.size):Calls Tryz.prog 196 #[.string t] w (kP (aY t) w):=by
 have fin:Hid (aY t=none):=by unfold Hid aY;rw [if_pos h]
 have d:decide ((65536:Int)<(t.size:Int))=true:=ak (by omega)
 have d':decide (65536<t.size)=true:=ak h
 clear h
 go_enter Tryz.func196, Tryz.ntmps196
 go_wp2_with fail
 exact rW rfl rfl rfl (kP.none (Kept.refl _ _) fin.out (by decide))
theorem SK (t:aj) (w:World) (h:¬65536<t.size) (hL:Lib.trimS t.data.toList [32,9]=[]):Calls Tryz.prog 196 #[.string t] w (kP (aY t) w):=by
 have fin:Hid (aY t=some 0):=by unfold Hid aY;rw [if_neg h,Bz,hL];rfl
 have HT:=ah (rY hL w (by omega) (by decide) (by decide))
 have d:decide ((65536:Int)<(t.size:Int))=false:=au (by omega)
 have d':decide (65536<t.size)=false:=au h
 clear h hL
 go_enter Tryz.func196, Tryz.ntmps196
 go_wp2_with (go_at_call 237;(refine HT.out.mono ?_);rintro e w1 ⟨rfl,bG⟩;have K1:=ah bG;clear bG)
 exact rW rfl rfl rfl (kP.some K1.out fin.out)
end Go.Proofs.YtgoijmpahffnhaaGreatDoor
