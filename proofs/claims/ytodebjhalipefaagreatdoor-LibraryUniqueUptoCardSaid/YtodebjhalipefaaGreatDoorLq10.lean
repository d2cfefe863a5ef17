/-  -/
import Derived.Test.YtodebjhalipefaaGreatDoorPs10
import Derived.Test.YtodebjhalipefaaGreatDoorLq24
import Derived.BigQuiet
import Derived.Laws.Bits64b
namespace Go.Proofs.YtodebjhalipefaaGreatDoor
set_option linter.all false
open Go.RowKit
theorem Yz:∀(l:List UInt8) (acc:Nat),(∀c∈l,48≤c.toNat∧c.toNat≤57)→
  (l.foldl (fun n c=>n*10+(c.toNat-48)) acc≤18446744073709551615→Lib.parseUintM (2 ^ 64-1) acc l=.ok (l.foldl (fun n c=>n*10+(c.toNat-48)) acc))∧
  (18446744073709551615<l.foldl (fun n c=>n*10+(c.toNat-48)) acc→acc≤18446744073709551615→Lib.parseUintM (2 ^ 64-1) acc l=.range):=by
 have grow:∀(l:List UInt8) (acc:Nat),acc≤l.foldl (fun n c=>n*10+(c.toNat-48)) acc:=by
  intro l
  induction l with
  | nil=>intro acc;exact Nat.le_refl _
  | cons c r ih=>intro acc;rw [List.foldl_cons];exact Nat.le_trans (by omega) (ih _)
 intro l
 induction l with
 | nil=>intro acc _;exact ⟨fun _=>rfl,fun h h2=>by simp at h;omega⟩
 | cons c r ih =>
  intro acc hd
  have hc:=hd c (List.mem_cons_self ..)
  have ih':=ih (acc*10+(c.toNat-48)) (fun x hx=>hd x (List.mem_cons_of_mem _ hx))
  rw [List.foldl_cons]
  have hg:=grow r (acc*10+(c.toNat-48))
  refine ⟨fun hle=>?_,fun hlt hacc=>?_⟩
  ·rw [Lib.parseUintM,if_pos hc,if_neg (by omega),if_neg (by omega)]
   exact ih'.1 hle
  ·rw [Lib.parseUintM,if_pos hc]
   by_cases h1:1844674407370955162≤acc
   ·rw [if_pos h1]
   ·rw [if_neg h1]
    by_cases h2:2 ^ 64-1<acc*10+(c.toNat-48)
    ·rw [if_pos h2]
    ·rw [if_neg h2];exact ih'.2 hlt (by omega)
theorem afl (l:List UInt8) (h0:l≠[]) (hd:∀c∈l,48≤c.toNat∧c.toNat≤57) :
  (qp l≤9223372036854775807→Lib.parseIntB 64 l=.ok (qp l))∧(9223372036854775807<qp l→Lib.parseIntB 64 l=.range):=by
 cases l with
 | nil=>exact absurd rfl h0
 | cons c r =>
  have hc:=hd c (List.mem_cons_self ..)
  have hp:=Yz (c::r) 0 hd
  have e:Lib.parseUintB 64 (c::r)=Lib.parseUintM (2 ^ 64-1) 0 (c::r):=by unfold Lib.parseUintB;rw [if_neg (by simp)]
  have en:qp (c::r)=(c::r).foldl (fun n c=>n*10+(c.toNat-48)) 0:=rfl
  rw [en]
  refine ⟨fun hle=>?_,fun hlt=>?_⟩
  ·unfold Lib.parseIntB
   dsimp only
   rw [if_neg (by omega),e,hp.1 (by omega)]
   dsimp only
   rw [if_neg (by omega),if_neg (by omega),if_neg (by omega)]
  ·unfold Lib.parseIntB
   dsimp only
   rw [if_neg (by omega),e]
   by_cases h2:(c::r).foldl (fun n c=>n*10+(c.toNat-48)) 0≤18446744073709551615
   ·rw [hp.1 h2]
    dsimp only
    rw [if_pos (by omega)]
   ·rw [hp.2 (by omega) (by omega)]
theorem fO.start {N T en d M4:Nat} {w w1 w3:World} {p:aB} {ka:Option Addr} {cap:Nat} {r:List aC} {S:Nat→Prop} (Z:dR M4 (.int .i64 0) (.string ⟨#[]⟩) (.int .i64 0) (.string ⟨#[]⟩) (.slice none 0 0) w3) (K:Kept (· = N) w w3) (hR:bV N T en r d w3)
  (hS:∀b,S b→w1.heap.size≤b∧b<w3.heap.size) (hz:p.text.size<1000000000∧p.name.size<1000000000∧p.kids.length<1000000000) (hk:aN w3 S ka p.kids) (hN:N<w.heap.size) (hw:w.heap.size≤w1.heap.size) (h4:M4<w1.heap.size) :
  fO N T en d M4 w3.heap.size w p ka cap r (w3.alloc (.cells #[.int .i64 p.kind,.string p.text,.int .i64 p.n,.string p.name,.slice ka p.kids.length cap] 64)):=by
 have k5:Kept aA w3 (w3.alloc (.cells #[.int .i64 p.kind,.string p.text,.int .i64 p.n,.string p.name,.slice ka p.kids.length cap] 64)):=(Kept.refl _ _).alloc _
 have hsz:(w3.alloc (.cells #[.int .i64 p.kind,.string p.text,.int .i64 p.n,.string p.name,.slice ka p.kids.length cap] 64)).heap.size=w3.heap.size+1:=by simp
 refine ⟨hR.kept k5 (fun h=>h) (fun h=>h),ay w3 _,⟨S,hk.kept k5 (fun b hb=>⟨(hS b hb).2,fun h=>h⟩),fun b hb=>by have:=hS b hb;omega⟩,hz,Z.kept k5 (fun h=>h),K.trans (k5.more (fun _ h=>h.elim))⟩
theorem fO.afm {N T en d M4:Nat} {w w1 w3:World} {p:aB} {ka:Option Addr} {cap:Nat} {r:List aC} {S:Nat→Prop} (k:Int) (Z:dR M4 (.int .i64 0) (.string ⟨#[]⟩) (.int .i64 0) (.string ⟨#[]⟩) (.slice none 0 0) w3) (K:Kept (· = N) w w3) (hR:bV N T en r d w3)
  (hS:∀b,S b→w1.heap.size≤b∧b<w3.heap.size) (hz:p.text.size<1000000000∧p.name.size<1000000000∧p.kids.length<1000000000) (hk:aN w3 S ka p.kids) (hN:N<w.heap.size) (hw:w.heap.size≤w1.heap.size) (h4:M4<w1.heap.size) (h13:w1.heap.size≤w3.heap.size) :
  fO N T en d M4 (w3.heap.size+1) w (node1 k p) (some ⟨w3.heap.size,0,none⟩) 1 r ((w3.alloc (.cells #[.int .i64 p.kind,.string p.text,.int .i64 p.n,.string p.name,.slice ka p.kids.length cap] 64)).alloc (.cells #[.int .i64 k,.string ⟨#[]⟩,.int .i64 0,.string ⟨#[]⟩,.slice (some ⟨w3.heap.size,0,none⟩) 1 1] 64)):=by
 obtain ⟨w4,hw4⟩:∃w4,w4=w3.alloc (.cells #[.int .i64 p.kind,.string p.text,.int .i64 p.n,.string p.name,.slice ka p.kids.length cap] 64):=⟨_,rfl⟩
 rw [←hw4]
 have k4:Kept aA w3 w4:=by rw [hw4];exact (Kept.refl _ _).alloc _
 have z4:w4.heap.size=w3.heap.size+1:=by rw [hw4];simp
 have f4:dR w3.heap.size (.int .i64 p.kind) (.string p.text) (.int .i64 p.n) (.string p.name) (.slice ka p.kids.length cap) w4:=by rw [hw4];exact ay w3 _
 have hp1:=Vh f4 hz (hk.kept k4 (fun b hb=>⟨(hS b hb).2,fun h=>h⟩)) (fun b hb=>by have:=hS b hb;omega)
 have afn:w.heap.size≤w3.heap.size:=K.size
 have hl:=Z.lt
 have:=fO.start (w1:=w1) (S:=fun b=>S b∨b=w3.heap.size) (p:=node1 k p) (cap:=1) (Z.kept k4 (fun h=>h)) (K.trans (k4.more (fun _ h=>h.elim))) (hR.kept k4 (fun h=>h) (fun h=>h)) ?_ ⟨by show E0.size<_;decide,by show E0.size<_;decide,by simp [node1,aB.kids]⟩ hp1 hN hw h4
 ·rw [z4] at this;exact this
 ·rintro b (hb|rfl)
  ·have:=hS b hb;omega
  ·omega
theorem fO.item {N T en d M4 M5:Nat} {w w1 w3:World} {nm:aj} {p:aB} {ka:Option Addr} {cap:Nat} {l1 r:List aC} {S:Nat→Prop} (h:fO N T en d M4 M5 w (.mk 3 E0 0 nm []) none 0 l1 w1) (hn4:N≠M4) (yF:N≠M5) (h45:M4≠M5) (hw5:w.heap.size≤M5) (hTw:T<w.heap.size) (YA:N<w.heap.size)
  (hk:Kept (· = N) w1 w3) (hr:bV N T en r d w3) (hS:∀b,S b→w1.heap.size≤b∧b<w3.heap.size) (hz:p.text.size<1000000000∧p.name.size<1000000000∧p.kids.length<1000000000) (hp:aN w3 S ka p.kids) {w4:World}
  (hw:w4=w3.alloc (.cells #[.int .i64 p.kind,.string p.text,.int .i64 p.n,.string p.name,.slice ka p.kids.length cap] 64)) :
  fO N T en d M4 M5 w (.mk 4 E0 0 nm [p]) (some ⟨w3.heap.size,0,none⟩) 1 r ((w4.setCell ⟨M5,0,none⟩ (.int .i64 4)).setCell ⟨M5,4,none⟩ (.slice (some ⟨w3.heap.size,0,none⟩) 1 1)):=by
 have h3:=h.aQ hn4 yF hk hr
 obtain ⟨_,f3,_,z3,o3,k3⟩:=h3
 have k4:Kept aA w3 w4:=by rw [hw];exact (Kept.refl _ _).alloc _
 have hsz:w4.heap.size=w3.heap.size+1:=by rw [hw];simp
 have f4:dR w3.heap.size (.int .i64 p.kind) (.string p.text) (.int .i64 p.n) (.string p.name) (.slice ka p.kids.length cap) w4:=by rw [hw];exact ay w3 _
 have g4:=f3.kept k4 (fun h=>h)
 have k6:Kept (· = M5) w4 ((w4.setCell ⟨M5,0,none⟩ (.int .i64 4)).setCell ⟨M5,4,none⟩ (.slice (some ⟨w3.heap.size,0,none⟩) 1 1)):=((Kept.refl (· = M5) w4).setCell (p:=⟨M5,0,none⟩) (.inl rfl) _).setCell (p:=⟨M5,4,none⟩) (.inl rfl) _
 have hw1:w.heap.size≤w1.heap.size:=h.kept.size
 have l3:=f3.lt;have o3l:=o3.lt;have afn:=hk.size
 have l1':=h.five.lt
 have hp1:=Vh f4 hz (hp.kept k4 (fun b hb=>⟨(hS b hb).2,fun h=>h⟩)) (fun b hb=>by have:=hS b hb;omega)
 have hout:∀b,(S b∨b=w3.heap.size)→w.heap.size≤b∧b<w4.heap.size∧b≠M4∧b≠M5∧b≠N:=by
  have:=h.zero.lt
  rintro b (hb|rfl)
  ·have:=hS b hb;omega
  ·omega
 refine ⟨(hr.kept k4 (fun h=>h) (fun h=>h)).kept k6 yF (by omega) (by have:=hr.jm;omega),?_,⟨fun b=>S b∨b=w3.heap.size,hp1.kept k6 (fun b hb=>⟨(hout b hb).2.1,(hout b hb).2.2.2.1⟩),fun b hb=>by have:=hout b hb;have:=k6.size;omega⟩,⟨z3.1,z3.2.1,by simp [aB.kids]⟩,(o3.kept k4 (fun h=>h)).kept k6 h45,(k3.trans (k4.more (fun _ h=>h.elim))).step k6 (fun y hy=>.inr (by omega))⟩
 unfold dR at g4⊢
 rw [aO (aO g4 _) _];rfl
structure ni (N T en d M4 M5:Nat) (w:World) (nm:aj) (ks:List aB) (v:Value) (l:List aC) (wx:World):Prop where
 bH:bV N T en l d wx
 five:dR M5 (.int .i64 6) (.string ⟨#[]⟩) (.int .i64 0) (.string nm) v wx
 own:∃(cs:List Value) (S:Nat→Prop),aP wx (M5+1) 64 5 v ks.length cs∧gI wx S cs ks∧∀b,S b→M5<b∧b<wx.heap.size∧v.ownBlock≠some b
 sz:nm.size<1000000000
 zero:dR M4 (.int .i64 0) (.string ⟨#[]⟩) (.int .i64 0) (.string ⟨#[]⟩) (.slice none 0 0) wx
 kept:Kept (· = N) w wx
theorem ni.start {N T en d M4 M5:Nat} {w w1:World} {nm:aj} {l:List aC} (h:fO N T en d M4 M5 w (.mk 3 E0 0 nm []) none 0 l w1) (yF:N≠M5) (h45:M4≠M5) (hw5:w.heap.size≤M5) (hTw:T<w.heap.size) (YA:N<w.heap.size) :
  ni N T en d M4 M5 w nm [] (.slice none 0 0) l (w1.setCell ⟨M5,0,none⟩ (.int .i64 6)):=by
 obtain ⟨h1,h2,_,h5,h6,h7⟩:=h
 have k6:Kept (· = M5) w1 (w1.setCell ⟨M5,0,none⟩ (.int .i64 6)):=(Kept.refl (· = M5) w1).setCell (p:=⟨M5,0,none⟩) (.inl rfl) _
 refine ⟨h1.kept k6 yF (by omega) (by have:=h1.jm;omega),?_,⟨[],aA,aP.nil _ _ _ _,by rw [gI],fun b hb=>hb.elim⟩,h5.2.1,h6.kept k6 h45,h7.step k6 (fun y hy=>.inr (by omega))⟩
 unfold dR at h2⊢
 rw [aO h2 _];rfl
theorem ni.aQ {N T en d M4 M5:Nat} {w:World} {nm:aj} {ks:List aB} {v:Value} {l l2:List aC} {wx wy:World} (h:ni N T en d M4 M5 w nm ks v l wx) (hn4:N≠M4) (yF:N<M5) (hk:Kept (· = N) wx wy) (hr:bV N T en l2 d wy):ni N T en d M4 M5 w nm ks v l2 wy:=by
 obtain ⟨h1,h2,⟨cs,S,h3,h4,h5⟩,h6,h7,h8⟩:=h
 exact ⟨hr,h2.kept hk (by omega),⟨cs,S,h3.kept hk (fun k hk e=>by have:=(h3.lt k hk).1;omega),h4.kept hk (fun b hb=>⟨(h5 b hb).2.1,fun e=>by have:=(h5 b hb).1;omega⟩),fun b hb=>⟨(h5 b hb).1,Nat.lt_of_lt_of_le (h5 b hb).2.1 hk.size,(h5 b hb).2.2⟩⟩,h6,h7.kept hk (Ne.symm hn4),h8.trans hk⟩
theorem ni.done {N T en d M4 M5:Nat} {w:World} {nm:aj} {ks:List aB} {a:Option Addr} {c:Nat} {l:List aC} {wx:World} (h:ni N T en d M4 M5 w nm ks (.slice a ks.length c) l wx) (h45:M4<M5) (hw5:w.heap.size≤M5) (YA:N<w.heap.size) (hks:ks.length≤8) :
  fO N T en d M4 M5 w (.mk 6 E0 0 nm ks) a c l wx:=by
 obtain ⟨h1,h2,⟨cs,S,h3,h4,h5⟩,h6,h7,h8⟩:=h
 refine ⟨h1,h2,?_,⟨by show E0.size<_;decide,h6,by show ks.length<_;omega⟩,h7,h8⟩
 rcases h3.cells with ⟨hv,hn⟩|⟨g,o,c',hv,hg1,hg2,_,_,hc⟩
 ·obtain rfl:=List.length_eq_zero_iff.1 hn
  exact ⟨aA,by show aN wx aA a [];unfold aN;trivial,fun b hb=>hb.elim⟩
 ·simp only [Value.slice.injEq,true_and] at hv
  obtain ⟨rfl,rfl⟩:=hv
  refine ⟨fun b=>S b∨b=g,h4.pats g o (fun j u hu=>(hc j u hu).1),fun b hb=>?_⟩
  rcases hb with hb|rfl
  ·have:=h5 b hb;omega
  ·omega
theorem ni.step {N T en d M4 M5:Nat} {w:World} {nm:aj} {ks:List aB} {v:Value} {l r:List aC} {w1 w3 w4:World} {q:aB} {kc:Option Addr} {qw:Nat} {a':Option Addr} {c':Nat} {cs:List Value} {S1 S2:Nat→Prop}
  (I:ni N T en d M4 M5 w nm ks v l w1) (h1:aP w1 (M5+1) 64 5 v ks.length cs) (h2:gI w1 S1 cs ks) (h3:∀b,S1 b→M5<b∧b<w1.heap.size∧v.ownBlock≠some b) (h45:M4<M5) (hw5:w.heap.size≤M5) (YA:N<w.heap.size) (hTw:T<w.heap.size) (hw4:w.heap.size≤M4)
  (K3:Kept (· = N) w1 w3) (hr:bV N T en r d w3) (hz:q.text.size<1000000000∧q.name.size<1000000000∧q.kids.length<1000000000) (hS2:∀b,S2 b→w1.heap.size≤b∧b<w3.heap.size) (hq:aN w3 S2 kc q.kids)
  (hw:aP w4 (M5+1) 64 5 (.slice a' (ks.length+1) c') (ks.length+1) (cs++[.int .i64 q.kind,.string q.text,.int .i64 q.n,.string q.name,.slice kc q.kids.length qw])) (hg:(w3.alloc (.cells #[.int .i64 q.kind,.string q.text,.int .i64 q.n,.string q.name,.slice kc q.kids.length qw] 64)).grownBy w4 v.ownBlock)
  (ho:(Value.slice a' (ks.length+1) c').ownBlock=v.ownBlock∨(Value.slice a' (ks.length+1) c').ownBlock=some (w3.heap.size+1)) :
  ni N T en d M4 M5 w nm (ks++[q]) (.slice a' (ks.length+1) c') r (w4.setCell ⟨M5,4,none⟩ (.slice a' (ks.length+1) c')):=by
 have kA:Kept aA w3 (w3.alloc (.cells #[.int .i64 q.kind,.string q.text,.int .i64 q.n,.string q.name,.slice kc q.kids.length qw] 64)):=(Kept.refl _ _).alloc _
 have hlow:∀b,v.ownBlock=some b→M5+1≤b∧b<w1.heap.size:=h1.lt
 have hs3:=K3.size
 have hl5:=I.five.lt
 have Dp:Kept (fun b=>v.ownBlock=some b) w3 w4:=(kA.more fun _ h=>h.elim).grown hg fun b hb=>.inl hb
 have K5:Kept (· = M5) w4 (w4.setCell ⟨M5,4,none⟩ (.slice a' (ks.length+1) c')):=(Kept.refl (· = M5) w4).setCell (p:=⟨M5,4,none⟩) (.inl rfl) _
 have aiG:=Dp.size
 have hnew:∀g,(Value.slice a' (ks.length+1) c').ownBlock=some g→M5+1≤g:=fun g hg=>(hw.lt g hg).1
 have I3:=I.aQ (by omega) (by omega) K3 hr
 have x4:dR M5 (.int .i64 6) (.string ⟨#[]⟩) (.int .i64 0) (.string nm) v w4:=I3.five.kept Dp (fun h=>by have:=hlow _ h;omega)
 refine ⟨(hr.kept Dp (fun h=>by have:=hlow _ h;omega) (fun h=>by have:=hlow _ h;omega) (fun h=>by have:=hlow _ h;have:=hr.jm;omega)).kept K5 (by omega) (by omega) (by have:=hr.jm;omega),?_,?_,I.sz,(I3.zero.kept Dp (fun h=>by have:=hlow _ h;omega)).kept K5 (by omega),(I3.kept.step Dp (fun y hy=>.inr (by have:=hlow y hy;omega))).step K5 (fun y hy=>.inr (by omega))⟩
 ·unfold dR at x4⊢
  rw [aO x4 _];rfl
 refine ⟨_,fun b=>S1 b∨S2 b,by rw [List.length_append];exact hw.kept K5 (fun g hg=>by have:=hnew g hg;omega),?_,fun b hb=>?_⟩
 ·refine gI.kept (X:=(· = M5)) (w:=w4) ?_ K5 (fun b hb=>⟨by rcases hb with hb|hb;have:=(h3 b hb).2.1;omega;exact Nat.lt_of_lt_of_le (hS2 b hb).2 aiG,by rcases hb with hb|hb;have:=h3 b hb;omega;have:=hS2 b hb;omega⟩)
  refine gI.append ?_ ?_
  ·exact ((h2.kept K3 (fun b hb=>⟨(h3 b hb).2.1,by have:=h3 b hb;omega⟩)).kept Dp (fun b hb=>⟨by have:=h3 b hb;omega,(h3 b hb).2.2⟩)).more fun b h=>.inl h
  ·rw [gI];refine ⟨_,[],(List.append_nil _).symm,⟨kc,qw,rfl,hz,?_⟩,rfl⟩
   exact aN.to hq Dp (fun b hb=>⟨(hS2 b hb).2,fun h=>by have:=hlow b h;have:=(hS2 b hb).1;omega⟩) (fun b h=>.inr h)
 ·have hs5:=K5.size
  rcases hb with hb|hb
  ·have:=h3 b hb
   refine ⟨this.1,by omega,?_⟩
   rcases ho with h|h
   ·rw [h];exact this.2.2
   ·rw [h];simp;omega
  ·have:=hS2 b hb
   refine ⟨by omega,by omega,?_⟩
   rcases ho with h|h
   ·rw [h];intro h';have:=hlow b h';omega
   ·rw [h];simp;omega
end Go.Proofs.YtodebjhalipefaaGreatDoor

namespace Go.Proofs.YtodebjhalipefaaGreatDoor
set_option linter.all false
open Go.RowKit
set_option maxRecDepth 100000
set_option maxHeartbeats 8000000
theorem qE.ok {x:aj} {N T en d:Nat} {l r:List aC} {w w':World} {e:Ending} (h:qE x N T en l d w e w') (hr:dW x en l=.ok r):Kept (· = N) w w'∧e=.returned (.tuple #[])∧bV N T en r d w':=by
 unfold qE at h;rw [hr] at h;exact ⟨h.1,h.2.1,h.2.2⟩
theorem qE.bad {x:aj} {N T en d:Nat} {l:List aC} {w w':World} {e:Ending} {er:Er} (h:qE x N T en l d w e w') (hr:dW x en l=.error er):Kept (· = N) w w'∧jo er e:=by
 unfold qE at h;rw [hr] at h;exact h
theorem tH.ok {N T en d:Nat} {l r:List aC} {w w':World} {e:Ending} {x:aj} (h:tH N T en l d w e w') (hr:dL en l=.ok (x,r)):Kept (· = N) w w'∧e=.returned (.string x)∧bV N T en r d w':=by
 unfold tH at h;rw [hr] at h;exact ⟨h.1,h.2.1,h.2.2⟩
theorem tH.bad {N T en d:Nat} {l:List aC} {w w':World} {e:Ending} {er:Er} (h:tH N T en l d w e w') (hr:dL en l=.error er):Kept (· = N) w w'∧jo er e:=by
 unfold tH at h;rw [hr] at h;exact h
theorem tu.ok {k:Int} {N T en d:Nat} {l r:List aC} {w w':World} {e:Ending} {t:aC} (h:tu k N T en l d w e w') (hr:dZ k en l=.ok (t,r)):Kept (· = N) w w'∧e=.returned (EI t)∧bV N T en r d w':=by
 unfold tu at h;rw [hr] at h;exact ⟨h.1,h.2.1,h.2.2⟩
theorem tu.bad {k:Int} {N T en d:Nat} {l:List aC} {w w':World} {e:Ending} {er:Er} (h:tu k N T en l d w e w') (hr:dZ k en l=.error er):Kept (· = N) w w'∧jo er e:=by
 unfold tu at h;rw [hr] at h;exact h
theorem XQ.thrown {N T en d:Nat} {r:aZ aB} {w w2 w3:World} {er:Er} (K:Kept (· = N) w w2) (k:Kept (· = N) w2 w3) (hr:r=.error er):XQ N T en d r w (.panicked [{v:=bI er,recovered:=false}]) w3:=by
 subst hr;exact ⟨K.trans k,rfl⟩
theorem jB {N T en d:Nat} {l:List aC} {w:World} (x:aj) (h:bV N T en l d w) (hs:aG x l=true):Calls Tryz.prog 68 #[.pointer (some ⟨N,0,none⟩),.string x] w (fun e w'=>e=.returned (.bool true)∧bV N T en l.tail d w'∧Kept (· = N) w w'):=by
 refine (wR x h).mono ?_
 rintro e w' ⟨h1,h2,h3⟩
 rw [hs] at h1 h2
 exact ⟨h1,h2,h3⟩
theorem dX {N T en d:Nat} {l:List aC} {w:World} (x:aj) (h:bV N T en l d w) (hs:aG x l=false):Calls Tryz.prog 68 #[.pointer (some ⟨N,0,none⟩),.string x] w (fun e w'=>e=.returned (.bool false)∧bV N T en l d w'∧Kept (· = N) w w'):=by
 refine (wR x h).mono ?_
 rintro e w' ⟨h1,h2,h3⟩
 rw [hs] at h1 h2
 exact ⟨h1,h2,h3⟩
theorem YB {N T en d:Nat} {ex pr:List aC→aZ aB} (HE:FU N T en d ex) {l:List aC} {w:World} (h:bV N T en l d w) (hs:aG (bs [40]) l=true):Calls Tryz.prog 250 #[.pointer (some ⟨N,0,none⟩)] w (XQ N T en d (bg ex pr en l) w):=by
 have er:Hid (bg ex pr en l=match ex l.tail with | .error er=>.error er | .ok (x,r)=>match dW (bs [41]) en r with | .error er=>.error er | .ok r2=>.ok (x,r2)):=by unfold Hid bg;rw [if_pos hs];rfl
 obtain ⟨hN,hT,hne,h7⟩:=h.jm
 obtain ⟨w0,hw0⟩:∃w0,w0=w.alloc (.cells #[.int .i64 0,.string ⟨#[]⟩,.int .i64 0,.string ⟨#[]⟩,.slice none 0 0] 64):=⟨_,rfl⟩
 have k0:Kept aA w w0:=by rw [hw0];exact (Kept.refl _ _).alloc _
 obtain ⟨M2,hM2⟩:∃M,M=w.heap.size:=⟨_,rfl⟩
 have Z0:Hid (dR M2 (.int .i64 0) (.string ⟨#[]⟩) (.int .i64 0) (.string ⟨#[]⟩) (.slice none 0 0) w0):=by rw [hw0,hM2];exact ay w _
 have R0:=ah (h.kept k0 (fun h=>h) (fun h=>h))
 have K0:Hid (Kept (· = N) w w0):=k0.more (fun _ h=>h.elim)
 have HW0:=ah hw0;have bC:=ah hM2
 have hsz0:Hid (w0.heap.size=w.heap.size+1):=by unfold Hid;rw [hw0];simp
 have HEX:=ah HE;have HS:=ah hs
 clear k0 hw0 hM2 h HE hs
 go_enter Tryz.func250, Tryz.ntmps250
 go_upto_region 1 with fail
 rw [←HW0.out,←bC.out]
 go_upto_region 3 with (first
  | (go_at_call 68;(refine (jB (bs [40]) R0.out HS.out).mono ?_);rintro e w1 ⟨rfl,dV,bF⟩;have R1:=ah dV;have K1:Hid (Kept (· = N) w w1):=K0.out.trans bF;have Z1:=ah (Z0.out.kept bF (by have:=bC.out;omega));clear dV bF)
  | (go_at_call 105;(refine (HEX.out l.tail w1 R1.out).mono ?_);intro e w3 eu;rcases hu:ex l.tail with e0|⟨p,r⟩;(obtain ⟨bD,rfl⟩:=eu.bad hu;have f_:XQ N T en d (bg ex pr en l) w (.panicked [{v:=bI e0,recovered:=false}]) _:=XQ.thrown K1.out bD (by rw [er.out,hu]);exact ⟨rfl,f_⟩);(obtain ⟨bD,iL,S,ka,cap,rfl,iM,iO,fV⟩:=eu.ok hu;have K3:Hid (Kept (· = N) w w3):=K1.out.trans bD;have I5:=ah (fO.start (cap:=cap) (Z1.out.kept bD (by have:=bC.out;omega)) K3.out iL iM iO fV hN K1.out.size Z1.out.lt);have L3:Hid (w1.heap.size≤w3.heap.size):=bD.size;have HU:=ah hu;clear bD iL iM iO fV eu hu)))
 have hM:Hid (N≠M2∧N≠w3.heap.size∧T≠M2∧w.heap.size≤M2):=by have:=bC.out;have:=K3.out.size;unfold Hid;omega
 go_upto_region 4 with (go_at_call 103;(refine (jd (bs [41]) I5.out.bH).mono ?_);intro e w6 Hq;rcases hv:dW (bs [41]) en r with e0|r2;(obtain ⟨mg,rfl⟩:=Hq.bad hv;have f_:XQ N T en d (bg ex pr en l) w (.panicked [{v:=bI e0,recovered:=false}]) _:=XQ.thrown I5.out.kept mg (by rw [er.out,HU.out];dsimp only;rw [hv]);exact ⟨rfl,f_⟩);(obtain ⟨mg,rfl,xC⟩:=Hq.ok hv;have I6:=ah (I5.out.aQ hM.out.1 hM.out.2.1 mg xC);have fin:Hid (bg ex pr en l=.ok (p,r2)):=(by unfold Hid;rw [er.out,HU.out];dsimp only;rw [hv]);clear mg xC Hq hv))
 obtain ⟨x0,x1,x2,x3,x4,_⟩:=I6.out.five.cells
 obtain ⟨z0,z1,z2,z3,z4,zf⟩:=I6.out.zero.cells
 have vY:=zf 0;have vZ:=zf 1;have wo:=zf 2;have xA:=zf 3;have xB:=zf 4
 clear zf
 go_wp2_with fail
 exact iw 2 rfl rfl (I6.out.zero.eY _ _ _ _ _) (I6.out.fin hM.out.1 hM.out.2.2.1 hM.out.2.2.2 hN fin.out)
end Go.Proofs.YtodebjhalipefaaGreatDoor

namespace Go.Proofs.YtodebjhalipefaaGreatDoor
set_option linter.all false
open Go.RowKit
set_option maxRecDepth 100000
set_option maxHeartbeats 8000000
theorem FW {N T en d M2:Nat} {w w3:World} {k n:Int} {tx nm:aj} {r:List aC} {res:aZ aB} {z0 z1 z2 z3 z4:Value} (Z:dR M2 z0 z1 z2 z3 z4 w3) (K:Kept (· = N) w w3) (R:bV N T en r d w3) (hM:M2=w.heap.size) (hN:N<w.heap.size) (hT:T<w.heap.size)
  (htx:tx.size<1000000000) (hnm:nm.size<1000000000) (hr:res=.ok (.mk k tx n nm [],r)) :
  XQ N T en d res w (.returned (.agg #[.int .i64 k,.string tx,.int .i64 n,.string nm,.slice none 0 0])) (eY w3 M2 (.int .i64 k) (.string tx) (.int .i64 n) (.string nm) (.slice none 0 0)):=by
 subst hr
 have k7:Kept (· = M2) w3 (eY w3 M2 (.int .i64 k) (.string tx) (.int .i64 n) (.string nm) (.slice none 0 0)):=(Kept.refl (· = M2) w3).eY (.inl rfl) _ _ _ _ _
 exact ⟨K.step k7 (fun y hy=>.inr (by omega)),⟨_,rfl,aA,fun b hb=>hb.elim,none,0,rfl,⟨htx,hnm,by simp [aB.kids]⟩,by show aN _ aA none [];unfold aN;trivial⟩,R.kept k7 (by omega) (by omega) (by have:=R.jm;omega)⟩
theorem AQ {k:Int} {en:Nat} {t:aC} {r:List aC} (h:t.kind=k):dZ k en (t::r)=.ok (t,r):=if_pos h
theorem mD {x:aj} {t:aC} {r:List aC} (h:t.kind≠5):aG x (t::r)=false:=au (fun h2=>h h2.1)
theorem Vj {N T en d:Nat} {ex pr:List aC→aZ aB} {t:aC} {r:List aC} {w:World} (h:bV N T en (t::r) d w) (hk:t.kind=3):Calls Tryz.prog 250 #[.pointer (some ⟨N,0,none⟩)] w (XQ N T en d (bg ex pr en (t::r)) w):=by
 have er:Hid (bg ex pr en (t::r)=.ok (.mk 1 t.text 0 E0 [],r)):=by unfold Hid bg;rw [mD (by omega),mD (by omega),AQ hk];rfl
 have hfld:∀wx,(Instr.field 130 (.agg #[.int .i64 t.kind,.string t.text,.int .i64 t.at_]) 1).run Tryz.prog wx=.ok (.string t.text) wx:=fun _=>by kernel_rfl
 have S1:Hid (aG ⟨#[40]⟩ (t::r)=false):=mD (by omega)
 have S2:Hid (aG ⟨#[36]⟩ (t::r)=false):=mD (by omega)
 have TK:Hid (dZ 3 en (t::r)=.ok (t,r)):=AQ hk
 have HK:=ah hk
 have htb:Hid (t.text.size<1000000000):=by obtain ⟨_,_,_,h⟩:=h;have:=(h.good t (List.mem_cons_self ..)).2.1;unfold Hid;omega
 obtain ⟨hN,hT,hne,h7⟩:=h.jm
 obtain ⟨w0,hw0⟩:∃w0,w0=w.alloc (.cells #[.int .i64 0,.string ⟨#[]⟩,.int .i64 0,.string ⟨#[]⟩,.slice none 0 0] 64):=⟨_,rfl⟩
 have k0:Kept aA w w0:=by rw [hw0];exact (Kept.refl _ _).alloc _
 obtain ⟨M2,hM2⟩:∃M,M=w.heap.size:=⟨_,rfl⟩
 have Z0:Hid (dR M2 (.int .i64 0) (.string ⟨#[]⟩) (.int .i64 0) (.string ⟨#[]⟩) (.slice none 0 0) w0):=by rw [hw0,hM2];exact ay w _
 have R0:=ah (h.kept k0 (fun h=>h) (fun h=>h))
 have K0:Hid (Kept (· = N) w w0):=k0.more (fun _ h=>h.elim)
 have HW0:=ah hw0;have bC:=ah hM2
 clear k0 hw0 hM2 h hk
 go_enter Tryz.func250, Tryz.ntmps250
 go_upto_region 1 with fail
 rw [←HW0.out,←bC.out]
 go_upto_region 12 with (first
  | (go_at_call 68;(with_reducible refine (dX ⟨#[40]⟩ R0.out S1.out).mono ?_);rintro e w1 ⟨rfl,dV,bF⟩;have R1:=ah dV;have K1:Hid (Kept (· = N) w w1):=K0.out.trans bF;have Z1:=ah (Z0.out.kept bF (by have:=bC.out;omega));clear dV bF)
  | (go_at_call 68;(with_reducible refine (dX ⟨#[36]⟩ R1.out S2.out).mono ?_);rintro e w2 ⟨rfl,iI,bQ⟩;have R2:=ah iI;have K2:Hid (Kept (· = N) w w2):=K1.out.trans bQ;have Z2:=ah (Z1.out.kept bQ (by have:=bC.out;omega));clear iI bQ))
 obtain ⟨n2,a2,c2,hP⟩:=R2.out
 obtain ⟨c0,c1,cd,cf⟩:=hP.c0
 have hn:=hP.num
 rw [List.length_cons] at hn
 have h0:0<n2:=by omega
 have h1:(0:Int)<(n2:Int):=by omega
 have z:decide ((0:Int)<(n2:Int))=true:=ak h1
 have z':decide (0<n2)=true:=ak h0
 obtain ⟨o,rfl,t0,t1,t2⟩:=hP.head
 have y:(t.kind==3)=true:=by simpa using HK.out
 clear hn hP cf
 go_upto_region 13 with fail
 clear c0 c1 cd t0 t1 t2 y z z'
 go_wp2_with (go_at_call 101;(refine (rU 3 R2.out).mono ?_);intro e w3 eu;obtain ⟨bD,Dv,iL⟩:=eu.ok TK.out;unfold EI at Dv;subst Dv;have R3:=ah iL;have K3:Hid (Kept (· = N) w w3):=K2.out.trans bD;have Z3:=ah (Z2.out.kept bD (by have:=bC.out;omega));obtain ⟨z0,z1,z2,z3,z4,zf⟩:=Z3.out.cells;have vY:=zf 0;have vZ:=zf 1;have wo:=zf 2;have xA:=zf 3;have xB:=zf 4;clear zf iL bD eu)
 exact iw 2 rfl rfl (Z3.out.eY _ _ _ _ _) (FW Z3.out K3.out R3.out bC.out hN hT htb.out (by decide) er.out)
end Go.Proofs.YtodebjhalipefaaGreatDoor

namespace Go.Proofs.YtodebjhalipefaaGreatDoor
set_option linter.all false
open Go.RowKit
set_option maxRecDepth 100000
theorem ZE (lo hi:Nat) (hl:lo<4294967296):lo ||| hi*4294967296=lo+hi*4294967296:=by
 have h:=Nat.shiftLeft_add_eq_or_of_lt (b:=lo) (i:=32) (by omega) hi
 rw [Nat.shiftLeft_eq] at h
 rw [Nat.or_comm,show (4294967296:Nat)=2 ^ 32 from rfl,←h];omega
theorem QW (u:Nat) (hu:u<18446744073709551616):bits BinOp.or IntKind.u64 ((u:Int) % 4294967296) ((u:Int)/4294967296*4294967296)=u:=by
 have h1:=bits_or_u64_nat (u % 4294967296) (u/4294967296*4294967296) (by omega) (by omega)
 rw [ZE _ _ (by omega)] at h1
 have e1:((u % 4294967296:Nat):Int)=(u:Int) % 4294967296:=by omega
 have e2:((u/4294967296*4294967296:Nat):Int)=(u:Int)/4294967296*4294967296:=by omega
 rw [e1,e2] at h1
 rw [h1];omega
def ad2 (u:Nat) (w:World) (e:Ending) (w':World):Prop:=e=.returned (.int .u64 (u:Int))∧w'=w
theorem JL (v:Value) (u:Nat) (S:Nat→Prop) (w:World) (h:WV w S v u):Calls Tryz.prog 48 #[v] w (ad2 u w):=by
 rcases h with ⟨rfl,a,c,rfl⟩|⟨h1,h2,b,c,rfl,-,h3⟩|⟨h1,h2,b,c,rfl,-,h3,h4⟩
 ·go_enter Tryz.func48, Tryz.ntmps48
  go_wp2_with fail
  go_ret
  exact ⟨rfl,rfl⟩
 ·go_enter Tryz.func48, Tryz.ntmps48
  go_wp2_with fail
  go_ret
  exact ⟨rfl,rfl⟩
 ·have hb:=ah (QW u h2)
  go_enter Tryz.func48, Tryz.ntmps48
  go_wp2_with fail
  go_ret
  exact ⟨congrArg (fun z=>Ending.returned (.int .u64 z)) hb.out,rfl⟩
theorem iV.parts {w:World} {N u:Nat} (h:iV w N u):∃v,w.cell? ⟨N,0,none⟩=some (.bool false)∧w.cell? ⟨N,1,none⟩=some v∧WV w (· < w.heap.size) v u:=by
 obtain ⟨v,hb,hv⟩:=h
 exact ⟨v,by rw [cell_of_row _ _ _ _ _ _ hb];rfl,by rw [cell_of_row _ _ _ _ _ _ hb];rfl,hv⟩
theorem TD (N u:Nat) (w:World) (h:iV w N u):Calls Tryz.prog 34 #[.pointer (some ⟨N,0,none⟩)] w (ad2 u w):=by
 obtain ⟨v,c0,c1,hv⟩:=h.parts
 rcases hv with ⟨rfl,a,c,rfl⟩|⟨h1,h2,b,c,rfl,-,h3⟩|⟨h1,h2,b,c,rfl,-,h3,h4⟩
 ·go_enter Tryz.func34, Tryz.ntmps34
  go_wp2_with fail
  go_ret
  exact ⟨rfl,rfl⟩
 ·go_enter Tryz.func34, Tryz.ntmps34
  go_wp2_with fail
  go_ret
  exact ⟨rfl,rfl⟩
 ·have hb:=ah (QW u h2)
  go_enter Tryz.func34, Tryz.ntmps34
  go_wp2_with fail
  go_ret
  exact ⟨congrArg (fun z=>Ending.returned (.int .u64 z)) hb.out,rfl⟩
theorem VT (N u:Nat) (hu:u<9223372036854775808) (w:World) (h:iV w N u):Calls Tryz.prog 19 #[.pointer (some ⟨N,0,none⟩)] w fun e w'=>e=.returned (.int .i64 (u:Int))∧w'=w:=by
 obtain ⟨v,c0,c1,-⟩:=h.parts
 have HU:=ah (TD N u w h)
 go_enter Tryz.func19, Tryz.ntmps19
 go_wp2_with (go_at_call 34;(refine HU.out.mono ?_);rintro e w' ⟨rfl,rfl⟩)
 go_ret
 exact ⟨rfl,rfl⟩
def ad3 (w:World) (v:Value):Prop:=∃b c,v=.slice (some ⟨b,0,none⟩) 1 c∧w.cell? ⟨b,0,none⟩=some (.int .u32 10)
theorem acH (v t:Value) (u:Nat) (S:Nat→Prop) (w:World) (h:WV w S v u) (ht:ad3 w t):Calls Tryz.prog 47 #[v,t] w fun e w'=>(∃z:Int,e=.returned (.int .i64 z)∧(z<0↔u<10))∧Kept aA w w':=by
 obtain ⟨tb,tc,rfl,t0⟩:=ht
 rcases h with ⟨rfl,a,c,rfl⟩|⟨h1,h2,b,c,rfl,-,h3⟩|⟨h1,h2,b,c,rfl,-,h3,h4⟩
 ·go_enter Tryz.func47, Tryz.ntmps47
  go_wp2_with fail
  go_ret
  exact ⟨⟨_,rfl,by decide⟩,Kept.refl _ _⟩
 ·by_cases hlt:u<10
  ·have z1:((u:Int) != 10)=true:=by simp;omega
   have z2:decide ((u:Int)<10)=true:=ak (by omega)
   have z3:decide (u<10)=true:=ak hlt
   have zk:=ah hlt
   clear hlt h1 h2
   go_enter Tryz.func47, Tryz.ntmps47
   go_wp2_with fail
   refine wp_loop_rounds 1 ?_
   rw [rounds_succ]
   go_wp2_with fail
   go_region
   all_goals
    go_wp2_with fail
    go_region
   all_goals
    go_wp2_with fail
    go_ret
    exact ⟨⟨_,rfl,by have:=zk.out;constructor<;>(intro;first|omega|decide)⟩,by repeat (first|exact Kept.refl _ _|refine Kept.drew ?_)⟩
  ·by_cases he:u=10
   ·subst he
    go_enter Tryz.func47, Tryz.ntmps47
    go_wp2_with fail
    refine wp_loop_rounds 2 ?_
    rw [rounds_succ]
    go_wp2_with fail
    go_region
    all_goals
     go_wp2_with fail
     (try simp only [Exit.inBlock,Exit.then])
     rw [rounds_succ]
     go_wp2_with fail
     go_ret
     exact ⟨⟨_,rfl,by decide⟩,by repeat (first|exact Kept.refl _ _|refine Kept.drew ?_)⟩
   ·have z1:((u:Int) != 10)=true:=by simp;omega
    have z2:decide ((u:Int)<10)=false:=au (by omega)
    have z3:decide (u<10)=false:=au hlt
    have zk:=ah hlt
    clear hlt h1 h2 he
    go_enter Tryz.func47, Tryz.ntmps47
    go_wp2_with fail
    refine wp_loop_rounds 1 ?_
    rw [rounds_succ]
    go_wp2_with fail
    go_region
    all_goals
     go_wp2_with fail
     go_region
    all_goals
     go_wp2_with fail
     go_ret
     exact ⟨⟨_,rfl,by have:=zk.out;constructor<;>(intro h;first|omega|(exact absurd h (by decide)))⟩,by repeat (first|exact Kept.refl _ _|refine Kept.drew ?_)⟩
 ·have HH:=ah h1
  clear h1 h2
  go_enter Tryz.func47, Tryz.ntmps47
  go_wp2_with fail
  go_ret
  exact ⟨⟨_,rfl,by have:=HH.out;constructor<;>(intro h;first|omega|(exact absurd h (by decide)))⟩,Kept.refl _ _⟩
end Go.Proofs.YtodebjhalipefaaGreatDoor
