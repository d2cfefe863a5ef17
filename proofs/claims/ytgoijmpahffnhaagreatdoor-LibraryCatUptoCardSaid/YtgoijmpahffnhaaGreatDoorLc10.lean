/-  -/
import Derived.Test.YtgoijmpahffnhaaGreatDoorPs10
namespace Go.Proofs.YtgoijmpahffnhaaGreatDoor
set_option linter.all false
open Go.RowKit
theorem WI:∀(l:List UInt8) (acc:Nat),(∀c∈l,48≤c.toNat∧c.toNat≤57)→
  (l.foldl (fun n c=>n*10+(c.toNat-48)) acc≤18446744073709551615→Lib.parseUintM (2 ^ 64-1) acc l=.ok (l.foldl (fun n c=>n*10+(c.toNat-48)) acc))∧
  (18446744073709551615<l.foldl (fun n c=>n*10+(c.toNat-48)) acc→acc≤18446744073709551615→Lib.parseUintM (2 ^ 64-1) acc l=.range):=by
 have grow:∀(l:List UInt8) (acc:Nat),acc≤l.foldl (fun n c=>n*10+(c.toNat-48)) acc:=by
  intro l
  induction l with
  | nil=>intro acc;exact Nat.le_refl _
  | cons c r ih=>intro acc;rw [List.foldl_cons];exact Nat.le_trans (by omega) (ih _)
 intro l
 induction l with
 | nil=>intro acc _;exact ⟨fun _=>rfl,fun h h2=>by simp at h;omega⟩
 | cons c r ih =>
  intro acc hd
  have hc:=hd c (List.mem_cons_self ..)
  have ih':=ih (acc*10+(c.toNat-48)) (fun x hx=>hd x (List.mem_cons_of_mem _ hx))
  rw [List.foldl_cons]
  have hg:=grow r (acc*10+(c.toNat-48))
  refine ⟨fun hle=>?_,fun hlt hacc=>?_⟩
  ·rw [Lib.parseUintM,if_pos hc,if_neg (by omega),if_neg (by omega)]
   exact ih'.1 hle
  ·rw [Lib.parseUintM,if_pos hc]
   by_cases h1:1844674407370955162≤acc
   ·rw [if_pos h1]
   ·rw [if_neg h1]
    by_cases h2:2 ^ 64-1<acc*10+(c.toNat-48)
    ·rw [if_pos h2]
    ·rw [if_neg h2];exact ih'.2 hlt (by omega)
theorem adX (l:List UInt8) (h0:l≠[]) (hd:∀c∈l,48≤c.toNat∧c.toNat≤57) :
  (rJ l≤9223372036854775807→Lib.parseIntB 64 l=.ok (rJ l))∧(9223372036854775807<rJ l→Lib.parseIntB 64 l=.range):=by
 cases l with
 | nil=>exact absurd rfl h0
 | cons c r =>
  have hc:=hd c (List.mem_cons_self ..)
  have hp:=WI (c::r) 0 hd
  have e:Lib.parseUintB 64 (c::r)=Lib.parseUintM (2 ^ 64-1) 0 (c::r):=by unfold Lib.parseUintB;rw [if_neg (by simp)]
  have en:rJ (c::r)=(c::r).foldl (fun n c=>n*10+(c.toNat-48)) 0:=rfl
  rw [en]
  refine ⟨fun hle=>?_,fun hlt=>?_⟩
  ·unfold Lib.parseIntB
   dsimp only
   rw [if_neg (by omega),e,hp.1 (by omega)]
   dsimp only
   rw [if_neg (by omega),if_neg (by omega),if_neg (by omega)]
  ·unfold Lib.parseIntB
   dsimp only
   rw [if_neg (by omega),e]
   by_cases h2:(c::r).foldl (fun n c=>n*10+(c.toNat-48)) 0≤18446744073709551615
   ·rw [hp.1 h2]
    dsimp only
    rw [if_pos (by omega)]
   ·rw [hp.2 (by omega) (by omega)]
theorem gK.start {N T en d M4:Nat} {w w1 w3:World} {p:aA} {ka:Option Addr} {cap:Nat} {r:List aC} {S:Nat→Prop} (Z:eH M4 (.int .i64 0) (.string ⟨#[]⟩) (.int .i64 0) (.string ⟨#[]⟩) (.slice none 0 0) w3) (K:Kept (· = N) w w3) (hR:dB N T en r d w3)
  (hS:∀b,S b→w1.heap.size≤b∧b<w3.heap.size) (hz:p.text.size<1000000000∧p.name.size<1000000000∧p.kids.length<1000000000) (hk:aI w3 S ka p.kids) (hN:N<w.heap.size) (hw:w.heap.size≤w1.heap.size) (h4:M4<w1.heap.size) :
  gK N T en d M4 w3.heap.size w p ka cap r (w3.alloc (.cells #[.int .i64 p.kind,.string p.text,.int .i64 p.n,.string p.name,.slice ka p.kids.length cap] 54)):=by
 have k5:Kept aB w3 (w3.alloc (.cells #[.int .i64 p.kind,.string p.text,.int .i64 p.n,.string p.name,.slice ka p.kids.length cap] 54)):=(Kept.refl _ _).alloc _
 have hsz:(w3.alloc (.cells #[.int .i64 p.kind,.string p.text,.int .i64 p.n,.string p.name,.slice ka p.kids.length cap] 54)).heap.size=w3.heap.size+1:=by simp
 refine ⟨hR.kept k5 (fun h=>h) (fun h=>h),ay w3 _,⟨S,hk.kept k5 (fun b hb=>⟨(hS b hb).2,fun h=>h⟩),fun b hb=>by have:=hS b hb;omega⟩,hz,Z.kept k5 (fun h=>h),K.trans (k5.more (fun _ h=>h.elim))⟩
theorem gK.adY {N T en d M4:Nat} {w w1 w3:World} {p:aA} {ka:Option Addr} {cap:Nat} {r:List aC} {S:Nat→Prop} (k:Int) (Z:eH M4 (.int .i64 0) (.string ⟨#[]⟩) (.int .i64 0) (.string ⟨#[]⟩) (.slice none 0 0) w3) (K:Kept (· = N) w w3) (hR:dB N T en r d w3)
  (hS:∀b,S b→w1.heap.size≤b∧b<w3.heap.size) (hz:p.text.size<1000000000∧p.name.size<1000000000∧p.kids.length<1000000000) (hk:aI w3 S ka p.kids) (hN:N<w.heap.size) (hw:w.heap.size≤w1.heap.size) (h4:M4<w1.heap.size) (h13:w1.heap.size≤w3.heap.size) :
  gK N T en d M4 (w3.heap.size+1) w (node1 k p) (some ⟨w3.heap.size,0,none⟩) 1 r ((w3.alloc (.cells #[.int .i64 p.kind,.string p.text,.int .i64 p.n,.string p.name,.slice ka p.kids.length cap] 54)).alloc (.cells #[.int .i64 k,.string ⟨#[]⟩,.int .i64 0,.string ⟨#[]⟩,.slice (some ⟨w3.heap.size,0,none⟩) 1 1] 54)):=by
 obtain ⟨w4,hw4⟩:∃w4,w4=w3.alloc (.cells #[.int .i64 p.kind,.string p.text,.int .i64 p.n,.string p.name,.slice ka p.kids.length cap] 54):=⟨_,rfl⟩
 rw [←hw4]
 have k4:Kept aB w3 w4:=by rw [hw4];exact (Kept.refl _ _).alloc _
 have z4:w4.heap.size=w3.heap.size+1:=by rw [hw4];simp
 have f4:eH w3.heap.size (.int .i64 p.kind) (.string p.text) (.int .i64 p.n) (.string p.name) (.slice ka p.kids.length cap) w4:=by rw [hw4];exact ay w3 _
 have hp1:=TU f4 hz (hk.kept k4 (fun b hb=>⟨(hS b hb).2,fun h=>h⟩)) (fun b hb=>by have:=hS b hb;omega)
 have adZ:w.heap.size≤w3.heap.size:=K.size
 have hl:=Z.lt
 have:=gK.start (w1:=w1) (S:=fun b=>S b∨b=w3.heap.size) (p:=node1 k p) (cap:=1) (Z.kept k4 (fun h=>h)) (K.trans (k4.more (fun _ h=>h.elim))) (hR.kept k4 (fun h=>h) (fun h=>h)) ?_ ⟨by show E0.size<_;decide,by show E0.size<_;decide,by simp [node1,aA.kids]⟩ hp1 hN hw h4
 ·rw [z4] at this;exact this
 ·rintro b (hb|rfl)
  ·have:=hS b hb;omega
  ·omega
theorem gK.item {N T en d M4 M5:Nat} {w w1 w3:World} {nm:aj} {p:aA} {ka:Option Addr} {cap:Nat} {l1 r:List aC} {S:Nat→Prop} (h:gK N T en d M4 M5 w (.mk 3 E0 0 nm []) none 0 l1 w1) (hn4:N≠M4) (yZ:N≠M5) (h45:M4≠M5) (hw5:w.heap.size≤M5) (hTw:T<w.heap.size) (WJ:N<w.heap.size)
  (hk:Kept (· = N) w1 w3) (hr:dB N T en r d w3) (hS:∀b,S b→w1.heap.size≤b∧b<w3.heap.size) (hz:p.text.size<1000000000∧p.name.size<1000000000∧p.kids.length<1000000000) (hp:aI w3 S ka p.kids) {w4:World}
  (hw:w4=w3.alloc (.cells #[.int .i64 p.kind,.string p.text,.int .i64 p.n,.string p.name,.slice ka p.kids.length cap] 54)) :
  gK N T en d M4 M5 w (.mk 4 E0 0 nm [p]) (some ⟨w3.heap.size,0,none⟩) 1 r ((w4.setCell ⟨M5,0,none⟩ (.int .i64 4)).setCell ⟨M5,4,none⟩ (.slice (some ⟨w3.heap.size,0,none⟩) 1 1)):=by
 have h3:=h.aQ hn4 yZ hk hr
 obtain ⟨_,f3,_,z3,o3,k3⟩:=h3
 have k4:Kept aB w3 w4:=by rw [hw];exact (Kept.refl _ _).alloc _
 have hsz:w4.heap.size=w3.heap.size+1:=by rw [hw];simp
 have f4:eH w3.heap.size (.int .i64 p.kind) (.string p.text) (.int .i64 p.n) (.string p.name) (.slice ka p.kids.length cap) w4:=by rw [hw];exact ay w3 _
 have g4:=f3.kept k4 (fun h=>h)
 have k6:Kept (· = M5) w4 ((w4.setCell ⟨M5,0,none⟩ (.int .i64 4)).setCell ⟨M5,4,none⟩ (.slice (some ⟨w3.heap.size,0,none⟩) 1 1)):=((Kept.refl (· = M5) w4).setCell (p:=⟨M5,0,none⟩) (.inl rfl) _).setCell (p:=⟨M5,4,none⟩) (.inl rfl) _
 have hw1:w.heap.size≤w1.heap.size:=h.kept.size
 have l3:=f3.lt;have o3l:=o3.lt;have adZ:=hk.size
 have l1':=h.five.lt
 have hp1:=TU f4 hz (hp.kept k4 (fun b hb=>⟨(hS b hb).2,fun h=>h⟩)) (fun b hb=>by have:=hS b hb;omega)
 have hout:∀b,(S b∨b=w3.heap.size)→w.heap.size≤b∧b<w4.heap.size∧b≠M4∧b≠M5∧b≠N:=by
  have:=h.zero.lt
  rintro b (hb|rfl)
  ·have:=hS b hb;omega
  ·omega
 refine ⟨(hr.kept k4 (fun h=>h) (fun h=>h)).kept k6 yZ (by omega) (by have:=hr.jL;omega),?_,⟨fun b=>S b∨b=w3.heap.size,hp1.kept k6 (fun b hb=>⟨(hout b hb).2.1,(hout b hb).2.2.2.1⟩),fun b hb=>by have:=hout b hb;have:=k6.size;omega⟩,⟨z3.1,z3.2.1,by simp [aA.kids]⟩,(o3.kept k4 (fun h=>h)).kept k6 h45,(k3.trans (k4.more (fun _ h=>h.elim))).step k6 (fun y hy=>.inr (by omega))⟩
 unfold eH at g4⊢
 rw [aP (aP g4 _) _];rfl
structure o7 (N T en d M4 M5:Nat) (w:World) (nm:aj) (ks:List aA) (v:Value) (l:List aC) (wx:World):Prop where
 bf:dB N T en l d wx
 five:eH M5 (.int .i64 6) (.string ⟨#[]⟩) (.int .i64 0) (.string nm) v wx
 own:∃(cs:List Value) (S:Nat→Prop),aS wx (M5+1) 54 5 v ks.length cs∧gG wx S cs ks∧∀b,S b→M5<b∧b<wx.heap.size∧v.ownBlock≠some b
 sz:nm.size<1000000000
 zero:eH M4 (.int .i64 0) (.string ⟨#[]⟩) (.int .i64 0) (.string ⟨#[]⟩) (.slice none 0 0) wx
 kept:Kept (· = N) w wx
theorem o7.start {N T en d M4 M5:Nat} {w w1:World} {nm:aj} {l:List aC} (h:gK N T en d M4 M5 w (.mk 3 E0 0 nm []) none 0 l w1) (yZ:N≠M5) (h45:M4≠M5) (hw5:w.heap.size≤M5) (hTw:T<w.heap.size) (WJ:N<w.heap.size) :
  o7 N T en d M4 M5 w nm [] (.slice none 0 0) l (w1.setCell ⟨M5,0,none⟩ (.int .i64 6)):=by
 obtain ⟨h1,h2,_,h5,h6,h7⟩:=h
 have k6:Kept (· = M5) w1 (w1.setCell ⟨M5,0,none⟩ (.int .i64 6)):=(Kept.refl (· = M5) w1).setCell (p:=⟨M5,0,none⟩) (.inl rfl) _
 refine ⟨h1.kept k6 yZ (by omega) (by have:=h1.jL;omega),?_,⟨[],aB,aS.nil _ _ _ _,by rw [gG],fun b hb=>hb.elim⟩,h5.2.1,h6.kept k6 h45,h7.step k6 (fun y hy=>.inr (by omega))⟩
 unfold eH at h2⊢
 rw [aP h2 _];rfl
theorem o7.aQ {N T en d M4 M5:Nat} {w:World} {nm:aj} {ks:List aA} {v:Value} {l l2:List aC} {wx wy:World} (h:o7 N T en d M4 M5 w nm ks v l wx) (hn4:N≠M4) (yZ:N<M5) (hk:Kept (· = N) wx wy) (hr:dB N T en l2 d wy):o7 N T en d M4 M5 w nm ks v l2 wy:=by
 obtain ⟨h1,h2,⟨cs,S,h3,h4,h5⟩,h6,h7,h8⟩:=h
 exact ⟨hr,h2.kept hk (by omega),⟨cs,S,h3.kept hk (fun k hk e=>by have:=(h3.lt k hk).1;omega),h4.kept hk (fun b hb=>⟨(h5 b hb).2.1,fun e=>by have:=(h5 b hb).1;omega⟩),fun b hb=>⟨(h5 b hb).1,Nat.lt_of_lt_of_le (h5 b hb).2.1 hk.size,(h5 b hb).2.2⟩⟩,h6,h7.kept hk (Ne.symm hn4),h8.trans hk⟩
theorem o7.done {N T en d M4 M5:Nat} {w:World} {nm:aj} {ks:List aA} {a:Option Addr} {c:Nat} {l:List aC} {wx:World} (h:o7 N T en d M4 M5 w nm ks (.slice a ks.length c) l wx) (h45:M4<M5) (hw5:w.heap.size≤M5) (WJ:N<w.heap.size) (hks:ks.length≤8) :
  gK N T en d M4 M5 w (.mk 6 E0 0 nm ks) a c l wx:=by
 obtain ⟨h1,h2,⟨cs,S,h3,h4,h5⟩,h6,h7,h8⟩:=h
 refine ⟨h1,h2,?_,⟨by show E0.size<_;decide,h6,by show ks.length<_;omega⟩,h7,h8⟩
 rcases h3.cells with ⟨hv,hn⟩|⟨g,o,c',hv,hg1,hg2,_,_,hc⟩
 ·obtain rfl:=List.length_eq_zero_iff.1 hn
  exact ⟨aB,by show aI wx aB a [];unfold aI;trivial,fun b hb=>hb.elim⟩
 ·simp only [Value.slice.injEq,true_and] at hv
  obtain ⟨rfl,rfl⟩:=hv
  refine ⟨fun b=>S b∨b=g,h4.pats g o (fun j u hu=>(hc j u hu).1),fun b hb=>?_⟩
  rcases hb with hb|rfl
  ·have:=h5 b hb;omega
  ·omega
theorem o7.step {N T en d M4 M5:Nat} {w:World} {nm:aj} {ks:List aA} {v:Value} {l r:List aC} {w1 w3 w4:World} {q:aA} {kc:Option Addr} {rM:Nat} {a':Option Addr} {c':Nat} {cs:List Value} {S1 S2:Nat→Prop}
  (I:o7 N T en d M4 M5 w nm ks v l w1) (h1:aS w1 (M5+1) 54 5 v ks.length cs) (h2:gG w1 S1 cs ks) (h3:∀b,S1 b→M5<b∧b<w1.heap.size∧v.ownBlock≠some b) (h45:M4<M5) (hw5:w.heap.size≤M5) (WJ:N<w.heap.size) (hTw:T<w.heap.size) (hw4:w.heap.size≤M4)
  (K3:Kept (· = N) w1 w3) (hr:dB N T en r d w3) (hz:q.text.size<1000000000∧q.name.size<1000000000∧q.kids.length<1000000000) (hS2:∀b,S2 b→w1.heap.size≤b∧b<w3.heap.size) (hq:aI w3 S2 kc q.kids)
  (hw:aS w4 (M5+1) 54 5 (.slice a' (ks.length+1) c') (ks.length+1) (cs++[.int .i64 q.kind,.string q.text,.int .i64 q.n,.string q.name,.slice kc q.kids.length rM])) (hg:(w3.alloc (.cells #[.int .i64 q.kind,.string q.text,.int .i64 q.n,.string q.name,.slice kc q.kids.length rM] 54)).grownBy w4 v.ownBlock)
  (ho:(Value.slice a' (ks.length+1) c').ownBlock=v.ownBlock∨(Value.slice a' (ks.length+1) c').ownBlock=some (w3.heap.size+1)) :
  o7 N T en d M4 M5 w nm (ks++[q]) (.slice a' (ks.length+1) c') r (w4.setCell ⟨M5,4,none⟩ (.slice a' (ks.length+1) c')):=by
 have kA:Kept aB w3 (w3.alloc (.cells #[.int .i64 q.kind,.string q.text,.int .i64 q.n,.string q.name,.slice kc q.kids.length rM] 54)):=(Kept.refl _ _).alloc _
 have hlow:∀b,v.ownBlock=some b→M5+1≤b∧b<w1.heap.size:=h1.lt
 have hs3:=K3.size
 have hl5:=I.five.lt
 have Dn:Kept (fun b=>v.ownBlock=some b) w3 w4:=(kA.more fun _ h=>h.elim).grown hg fun b hb=>.inl hb
 have K5:Kept (· = M5) w4 (w4.setCell ⟨M5,4,none⟩ (.slice a' (ks.length+1) c')):=(Kept.refl (· = M5) w4).setCell (p:=⟨M5,4,none⟩) (.inl rfl) _
 have ag4:=Dn.size
 have hnew:∀g,(Value.slice a' (ks.length+1) c').ownBlock=some g→M5+1≤g:=fun g hg=>(hw.lt g hg).1
 have I3:=I.aQ (by omega) (by omega) K3 hr
 have x4:eH M5 (.int .i64 6) (.string ⟨#[]⟩) (.int .i64 0) (.string nm) v w4:=I3.five.kept Dn (fun h=>by have:=hlow _ h;omega)
 refine ⟨(hr.kept Dn (fun h=>by have:=hlow _ h;omega) (fun h=>by have:=hlow _ h;omega) (fun h=>by have:=hlow _ h;have:=hr.jL;omega)).kept K5 (by omega) (by omega) (by have:=hr.jL;omega),?_,?_,I.sz,(I3.zero.kept Dn (fun h=>by have:=hlow _ h;omega)).kept K5 (by omega),(I3.kept.step Dn (fun y hy=>.inr (by have:=hlow y hy;omega))).step K5 (fun y hy=>.inr (by omega))⟩
 ·unfold eH at x4⊢
  rw [aP x4 _];rfl
 refine ⟨_,fun b=>S1 b∨S2 b,by rw [List.length_append];exact hw.kept K5 (fun g hg=>by have:=hnew g hg;omega),?_,fun b hb=>?_⟩
 ·refine gG.kept (X:=(· = M5)) (w:=w4) ?_ K5 (fun b hb=>⟨by rcases hb with hb|hb;have:=(h3 b hb).2.1;omega;exact Nat.lt_of_lt_of_le (hS2 b hb).2 ag4,by rcases hb with hb|hb;have:=h3 b hb;omega;have:=hS2 b hb;omega⟩)
  refine gG.append ?_ ?_
  ·exact ((h2.kept K3 (fun b hb=>⟨(h3 b hb).2.1,by have:=h3 b hb;omega⟩)).kept Dn (fun b hb=>⟨by have:=h3 b hb;omega,(h3 b hb).2.2⟩)).more fun b h=>.inl h
  ·rw [gG];refine ⟨_,[],(List.append_nil _).symm,⟨kc,rM,rfl,hz,?_⟩,rfl⟩
   exact aI.to hq Dn (fun b hb=>⟨(hS2 b hb).2,fun h=>by have:=hlow b h;have:=(hS2 b hb).1;omega⟩) (fun b h=>.inr h)
 ·have hs5:=K5.size
  rcases hb with hb|hb
  ·have:=h3 b hb
   refine ⟨this.1,by omega,?_⟩
   rcases ho with h|h
   ·rw [h];exact this.2.2
   ·rw [h];simp;omega
  ·have:=hS2 b hb
   refine ⟨by omega,by omega,?_⟩
   rcases ho with h|h
   ·rw [h];intro h';have:=hlow b h';omega
   ·rw [h];simp;omega
end Go.Proofs.YtgoijmpahffnhaaGreatDoor

namespace Go.Proofs.YtgoijmpahffnhaaGreatDoor
set_option linter.all false
open Go.RowKit
set_option maxRecDepth 100000
set_option maxHeartbeats 8000000
theorem rU.ok {x:aj} {N T en d:Nat} {l r:List aC} {w w':World} {e:Ending} (h:rU x N T en l d w e w') (hr:eU x en l=.ok r):Kept (· = N) w w'∧e=.returned (.tuple #[])∧dB N T en r d w':=by
 unfold rU at h;rw [hr] at h;exact ⟨h.1,h.2.1,h.2.2⟩
theorem rU.bad {x:aj} {N T en d:Nat} {l:List aC} {w w':World} {e:Ending} {er:Er} (h:rU x N T en l d w e w') (hr:eU x en l=.error er):Kept (· = N) w w'∧jM er e:=by
 unfold rU at h;rw [hr] at h;exact h
theorem uM.ok {N T en d:Nat} {l r:List aC} {w w':World} {e:Ending} {x:aj} (h:uM N T en l d w e w') (hr:dU en l=.ok (x,r)):Kept (· = N) w w'∧e=.returned (.string x)∧dB N T en r d w':=by
 unfold uM at h;rw [hr] at h;exact ⟨h.1,h.2.1,h.2.2⟩
theorem uM.bad {N T en d:Nat} {l:List aC} {w w':World} {e:Ending} {er:Er} (h:uM N T en l d w e w') (hr:dU en l=.error er):Kept (· = N) w w'∧jM er e:=by
 unfold uM at h;rw [hr] at h;exact h
theorem uJ.ok {k:Int} {N T en d:Nat} {l r:List aC} {w w':World} {e:Ending} {t:aC} (h:uJ k N T en l d w e w') (hr:fF k en l=.ok (t,r)):Kept (· = N) w w'∧e=.returned (Dq t)∧dB N T en r d w':=by
 unfold uJ at h;rw [hr] at h;exact ⟨h.1,h.2.1,h.2.2⟩
theorem uJ.bad {k:Int} {N T en d:Nat} {l:List aC} {w w':World} {e:Ending} {er:Er} (h:uJ k N T en l d w e w') (hr:fF k en l=.error er):Kept (· = N) w w'∧jM er e:=by
 unfold uJ at h;rw [hr] at h;exact h
theorem XQ.thrown {N T en d:Nat} {r:bD aA} {w w2 w3:World} {er:Er} (K:Kept (· = N) w w2) (k:Kept (· = N) w2 w3) (hr:r=.error er):XQ N T en d r w (.panicked [{v:=bK er,recovered:=false}]) w3:=by
 subst hr;exact ⟨K.trans k,rfl⟩
theorem jW {N T en d:Nat} {l:List aC} {w:World} (x:aj) (h:dB N T en l d w) (hs:aH x l=true):Calls Tryz.prog 53 #[.pointer (some ⟨N,0,none⟩),.string x] w (fun e w'=>e=.returned (.bool true)∧dB N T en l.tail d w'∧Kept (· = N) w w'):=by
 refine (xQ x h).mono ?_
 rintro e w' ⟨h1,h2,h3⟩
 rw [hs] at h1 h2
 exact ⟨h1,h2,h3⟩
theorem fA {N T en d:Nat} {l:List aC} {w:World} (x:aj) (h:dB N T en l d w) (hs:aH x l=false):Calls Tryz.prog 53 #[.pointer (some ⟨N,0,none⟩),.string x] w (fun e w'=>e=.returned (.bool false)∧dB N T en l d w'∧Kept (· = N) w w'):=by
 refine (xQ x h).mono ?_
 rintro e w' ⟨h1,h2,h3⟩
 rw [hs] at h1 h2
 exact ⟨h1,h2,h3⟩
theorem WL {N T en d:Nat} {ex pr:List aC→bD aA} (HE:FT N T en d ex) {l:List aC} {w:World} (h:dB N T en l d w) (hs:aH (bs [40]) l=true):Calls Tryz.prog 235 #[.pointer (some ⟨N,0,none⟩)] w (XQ N T en d (bG ex pr en l) w):=by
 have er:Hid (bG ex pr en l=match ex l.tail with | .error er=>.error er | .ok (x,r)=>match eU (bs [41]) en r with | .error er=>.error er | .ok r2=>.ok (x,r2)):=by unfold Hid bG;rw [if_pos hs];rfl
 obtain ⟨hN,hT,hne,h7⟩:=h.jL
 obtain ⟨w0,hw0⟩:∃w0,w0=w.alloc (.cells #[.int .i64 0,.string ⟨#[]⟩,.int .i64 0,.string ⟨#[]⟩,.slice none 0 0] 54):=⟨_,rfl⟩
 have k0:Kept aB w w0:=by rw [hw0];exact (Kept.refl _ _).alloc _
 obtain ⟨M2,hM2⟩:∃M,M=w.heap.size:=⟨_,rfl⟩
 have Z0:Hid (eH M2 (.int .i64 0) (.string ⟨#[]⟩) (.int .i64 0) (.string ⟨#[]⟩) (.slice none 0 0) w0):=by rw [hw0,hM2];exact ay w _
 have R0:=ah (h.kept k0 (fun h=>h) (fun h=>h))
 have K0:Hid (Kept (· = N) w w0):=k0.more (fun _ h=>h.elim)
 have HW0:=ah hw0;have bF:=ah hM2
 have hsz0:Hid (w0.heap.size=w.heap.size+1):=by unfold Hid;rw [hw0];simp
 have HEX:=ah HE;have HS:=ah hs
 clear k0 hw0 hM2 h HE hs
 go_enter Tryz.func235, Tryz.ntmps235
 go_upto_region 1 with fail
 rw [←HW0.out,←bF.out]
 go_upto_region 3 with (first
  | (go_at_call 53;(refine (jW (bs [40]) R0.out HS.out).mono ?_);rintro e w1 ⟨rfl,eF,bY⟩;have R1:=ah eF;have K1:Hid (Kept (· = N) w w1):=K0.out.trans bY;have Z1:=ah (Z0.out.kept bY (by have:=bF.out;omega));clear eF bY)
  | (go_at_call 90;(refine (HEX.out l.tail w1 R1.out).mono ?_);intro e w3 fH;rcases hu:ex l.tail with e0|⟨p,r⟩;(obtain ⟨bH,rfl⟩:=fH.bad hu;have f_:XQ N T en d (bG ex pr en l) w (.panicked [{v:=bK e0,recovered:=false}]) _:=XQ.thrown K1.out bH (by rw [er.out,hu]);exact ⟨rfl,f_⟩);(obtain ⟨bH,jo,S,ka,cap,rfl,jd,je,gI⟩:=fH.ok hu;have K3:Hid (Kept (· = N) w w3):=K1.out.trans bH;have I5:=ah (gK.start (cap:=cap) (Z1.out.kept bH (by have:=bF.out;omega)) K3.out jo jd je gI hN K1.out.size Z1.out.lt);have L3:Hid (w1.heap.size≤w3.heap.size):=bH.size;have HU:=ah hu;clear bH jo jd je gI fH hu)))
 have hM:Hid (N≠M2∧N≠w3.heap.size∧T≠M2∧w.heap.size≤M2):=by have:=bF.out;have:=K3.out.size;unfold Hid;omega
 go_upto_region 4 with (go_at_call 88;(refine (jE (bs [41]) I5.out.bf).mono ?_);intro e w6 Hl;rcases hv:eU (bs [41]) en r with e0|r2;(obtain ⟨oG,rfl⟩:=Hl.bad hv;have f_:XQ N T en d (bG ex pr en l) w (.panicked [{v:=bK e0,recovered:=false}]) _:=XQ.thrown I5.out.kept oG (by rw [er.out,HU.out];dsimp only;rw [hv]);exact ⟨rfl,f_⟩);(obtain ⟨oG,rfl,yh⟩:=Hl.ok hv;have I6:=ah (I5.out.aQ hM.out.1 hM.out.2.1 oG yh);have fin:Hid (bG ex pr en l=.ok (p,r2)):=(by unfold Hid;rw [er.out,HU.out];dsimp only;rw [hv]);clear oG yh Hl hv))
 obtain ⟨x0,x1,x2,x3,x4,_⟩:=I6.out.five.cells
 obtain ⟨z0,z1,z2,z3,z4,zf⟩:=I6.out.zero.cells
 have wK:=zf 0;have wL:=zf 1;have wM:=zf 2;have xw:=zf 3;have xA:=zf 4
 clear zf
 go_wp2_with fail
 exact iW 2 rfl rfl (I6.out.zero.aZ _ _ _ _ _) (I6.out.fin hM.out.1 hM.out.2.2.1 hM.out.2.2.2 hN fin.out)
end Go.Proofs.YtgoijmpahffnhaaGreatDoor

namespace Go.Proofs.YtgoijmpahffnhaaGreatDoor
set_option linter.all false
open Go.RowKit
set_option maxRecDepth 100000
set_option maxHeartbeats 8000000
theorem FU {N T en d M2:Nat} {w w3:World} {k n:Int} {tx nm:aj} {r:List aC} {res:bD aA} {z0 z1 z2 z3 z4:Value} (Z:eH M2 z0 z1 z2 z3 z4 w3) (K:Kept (· = N) w w3) (R:dB N T en r d w3) (hM:M2=w.heap.size) (hN:N<w.heap.size) (hT:T<w.heap.size)
  (htx:tx.size<1000000000) (hnm:nm.size<1000000000) (hr:res=.ok (.mk k tx n nm [],r)) :
  XQ N T en d res w (.returned (.agg #[.int .i64 k,.string tx,.int .i64 n,.string nm,.slice none 0 0])) (aZ w3 M2 (.int .i64 k) (.string tx) (.int .i64 n) (.string nm) (.slice none 0 0)):=by
 subst hr
 have k7:Kept (· = M2) w3 (aZ w3 M2 (.int .i64 k) (.string tx) (.int .i64 n) (.string nm) (.slice none 0 0)):=(Kept.refl (· = M2) w3).aZ (.inl rfl) _ _ _ _ _
 exact ⟨K.step k7 (fun y hy=>.inr (by omega)),⟨_,rfl,aB,fun b hb=>hb.elim,none,0,rfl,⟨htx,hnm,by simp [aA.kids]⟩,by show aI _ aB none [];unfold aI;trivial⟩,R.kept k7 (by omega) (by omega) (by have:=R.jL;omega)⟩
theorem Bf {k:Int} {en:Nat} {t:aC} {r:List aC} (h:t.kind=k):fF k en (t::r)=.ok (t,r):=if_pos h
theorem oI {x:aj} {t:aC} {r:List aC} (h:t.kind≠5):aH x (t::r)=false:=au (fun h2=>h h2.1)
theorem TW {N T en d:Nat} {ex pr:List aC→bD aA} {t:aC} {r:List aC} {w:World} (h:dB N T en (t::r) d w) (hk:t.kind=3):Calls Tryz.prog 235 #[.pointer (some ⟨N,0,none⟩)] w (XQ N T en d (bG ex pr en (t::r)) w):=by
 have er:Hid (bG ex pr en (t::r)=.ok (.mk 1 t.text 0 E0 [],r)):=by unfold Hid bG;rw [oI (by omega),oI (by omega),Bf hk];rfl
 have hfld:∀wx,(Instr.field 105 (.agg #[.int .i64 t.kind,.string t.text,.int .i64 t.at_]) 1).run Tryz.prog wx=.ok (.string t.text) wx:=fun _=>by kernel_rfl
 have S1:Hid (aH ⟨#[40]⟩ (t::r)=false):=oI (by omega)
 have S2:Hid (aH ⟨#[36]⟩ (t::r)=false):=oI (by omega)
 have TK:Hid (fF 3 en (t::r)=.ok (t,r)):=Bf hk
 have HK:=ah hk
 have htb:Hid (t.text.size<1000000000):=by obtain ⟨_,_,_,h⟩:=h;have:=(h.good t (List.mem_cons_self ..)).2.1;unfold Hid;omega
 obtain ⟨hN,hT,hne,h7⟩:=h.jL
 obtain ⟨w0,hw0⟩:∃w0,w0=w.alloc (.cells #[.int .i64 0,.string ⟨#[]⟩,.int .i64 0,.string ⟨#[]⟩,.slice none 0 0] 54):=⟨_,rfl⟩
 have k0:Kept aB w w0:=by rw [hw0];exact (Kept.refl _ _).alloc _
 obtain ⟨M2,hM2⟩:∃M,M=w.heap.size:=⟨_,rfl⟩
 have Z0:Hid (eH M2 (.int .i64 0) (.string ⟨#[]⟩) (.int .i64 0) (.string ⟨#[]⟩) (.slice none 0 0) w0):=by rw [hw0,hM2];exact ay w _
 have R0:=ah (h.kept k0 (fun h=>h) (fun h=>h))
 have K0:Hid (Kept (· = N) w w0):=k0.more (fun _ h=>h.elim)
 have HW0:=ah hw0;have bF:=ah hM2
 clear k0 hw0 hM2 h hk
 go_enter Tryz.func235, Tryz.ntmps235
 go_upto_region 1 with fail
 rw [←HW0.out,←bF.out]
 go_upto_region 12 with (first
  | (go_at_call 53;(with_reducible refine (fA ⟨#[40]⟩ R0.out S1.out).mono ?_);rintro e w1 ⟨rfl,eF,bY⟩;have R1:=ah eF;have K1:Hid (Kept (· = N) w w1):=K0.out.trans bY;have Z1:=ah (Z0.out.kept bY (by have:=bF.out;omega));clear eF bY)
  | (go_at_call 53;(with_reducible refine (fA ⟨#[36]⟩ R1.out S2.out).mono ?_);rintro e w2 ⟨rfl,jh,eY⟩;have R2:=ah jh;have K2:Hid (Kept (· = N) w w2):=K1.out.trans eY;have Z2:=ah (Z1.out.kept eY (by have:=bF.out;omega));clear jh eY))
 obtain ⟨n2,a2,c2,hP⟩:=R2.out
 obtain ⟨c0,c1,cd,cf⟩:=hP.c0
 have hn:=hP.num
 rw [List.length_cons] at hn
 have h0:0<n2:=by omega
 have h1:(0:Int)<(n2:Int):=by omega
 have z:decide ((0:Int)<(n2:Int))=true:=ak h1
 have z':decide (0<n2)=true:=ak h0
 obtain ⟨o,rfl,t0,t1,t2⟩:=hP.head
 have y:(t.kind==3)=true:=by simpa using HK.out
 clear hn hP cf
 go_upto_region 13 with fail
 clear c0 c1 cd t0 t1 t2 y z z'
 go_wp2_with (go_at_call 86;(refine (ug 3 R2.out).mono ?_);intro e w3 fH;obtain ⟨bH,Dv,jo⟩:=fH.ok TK.out;unfold Dq at Dv;subst Dv;have R3:=ah jo;have K3:Hid (Kept (· = N) w w3):=K2.out.trans bH;have Z3:=ah (Z2.out.kept bH (by have:=bF.out;omega));obtain ⟨z0,z1,z2,z3,z4,zf⟩:=Z3.out.cells;have wK:=zf 0;have wL:=zf 1;have wM:=zf 2;have xw:=zf 3;have xA:=zf 4;clear zf jo bH fH)
 exact iW 2 rfl rfl (Z3.out.aZ _ _ _ _ _) (FU Z3.out K3.out R3.out bF.out hN hT htb.out (by decide) er.out)
end Go.Proofs.YtgoijmpahffnhaaGreatDoor

namespace Go.Proofs.YtgoijmpahffnhaaGreatDoor
set_option linter.all false
open Go.RowKit
set_option maxRecDepth 100000
set_option maxHeartbeats 8000000
theorem Ho {x y:aj} {l:List aC} (h:aH x l=true) (hne:x≠y):aH y l=false:=by
 cases l with
 | nil=>rfl
 | cons t r=>exact au (fun h2=>hne ((of_decide_eq_true h).2.symm.trans h2.2))
theorem gK.ad2 {N T en d M4 M5:Nat} {w:World} {x:aA} {ka:Option Addr} {cap:Nat} {l:List aC} {wx:World} (h:gK N T en d M4 M5 w x ka cap l wx) (hn4:N≠M4) (yZ:N≠M5) (d2:Nat):gK N T en d2 M4 M5 w x ka cap l (wx.setCell ⟨N,2,none⟩ (.int .i64 (d2:Int))):=by
 obtain ⟨h1,h2,⟨S,h3,h4⟩,h5,h6,h7⟩:=h
 have hk:Kept (· = N) wx (wx.setCell ⟨N,2,none⟩ (.int .i64 (d2:Int))):=(Kept.refl (· = N) wx).setCell (p:=⟨N,2,none⟩) (.inl rfl) _
 exact ⟨h1.nX d2,h2.kept hk (Ne.symm yZ),⟨S,h3.kept hk (fun b hb=>⟨(h4 b hb).2.1,(h4 b hb).2.2.2.2⟩),fun b hb=>by have:=h4 b hb;have:=hk.size;omega⟩,h5,h6.kept hk (Ne.symm hn4),h7.trans hk⟩
theorem Jo {N T en d:Nat} {ex pr:List aC→bD aA} {l:List aC} {w:World} (h:dB N T en l d w) (hd:d=400) (hs:aH (bs [36]) l=true):Calls Tryz.prog 235 #[.pointer (some ⟨N,0,none⟩)] w (XQ N T en d (bG ex (fun l=>.error (4,dP en l)) en l) w):=by
 have S1:Hid (aH ⟨#[40]⟩ l=false):=Ho hs (by decide)
 have er:Hid (bG ex (fun l=>.error (4,dP en l)) en l=.error (4,dP en l.tail)):=by unfold Hid bG;rw [show aH (bs [40]) l=false from S1.out,hs];rfl
 have S2:Hid (aH ⟨#[36]⟩ l=true):=hs
 obtain ⟨lr,hlr⟩:∃lr,lr=l.tail:=⟨_,rfl⟩
 rw [←hlr] at er
 have HLR:=ah hlr
 obtain ⟨d1,hd1⟩:∃d1:Nat,d1=d+1:=⟨_,rfl⟩
 have hdi:(d:Int)+1=(d1:Int):=by omega
 have g1:decide ((400:Int)<(d1:Int))=true:=ak (by omega)
 have g2:decide (400<d1)=true:=ak (by omega)
 have hb:d1≤1000:=by omega
 obtain ⟨hN,hT,hne,h7⟩:=h.jL
 obtain ⟨w0,hw0⟩:∃w0,w0=w.alloc (.cells #[.int .i64 0,.string ⟨#[]⟩,.int .i64 0,.string ⟨#[]⟩,.slice none 0 0] 54):=⟨_,rfl⟩
 have k0:Kept aB w w0:=by rw [hw0];exact (Kept.refl _ _).alloc _
 obtain ⟨M2,hM2⟩:∃M,M=w.heap.size:=⟨_,rfl⟩
 have Z0:Hid (eH M2 (.int .i64 0) (.string ⟨#[]⟩) (.int .i64 0) (.string ⟨#[]⟩) (.slice none 0 0) w0):=by rw [hw0,hM2];exact ay w _
 have R0:=ah (h.kept k0 (fun h=>h) (fun h=>h))
 have K0:Hid (Kept (· = N) w w0):=k0.more (fun _ h=>h.elim)
 have HW0:=ah hw0;have bF:=ah hM2
 clear k0 hw0 hM2 h hs hlr hd hd1
 go_enter Tryz.func235, Tryz.ntmps235
 go_upto_region 1 with fail
 rw [←HW0.out,←bF.out]
 go_upto_region 6 with (first
  | (go_at_call 53;(with_reducible refine (fA ⟨#[40]⟩ R0.out S1.out).mono ?_);rintro e w1 ⟨rfl,eF,bY⟩;have R1:=ah eF;have K1:Hid (Kept (· = N) w w1):=K0.out.trans bY;have Z1:=ah (Z0.out.kept bY (by have:=bF.out;omega));clear eF bY)
  | (go_at_call 53;(with_reducible refine (jW ⟨#[36]⟩ R1.out S2.out).mono ?_);rintro e w2 ⟨rfl,jh,eY⟩;have R2:=ah jh;have K2:Hid (Kept (· = N) w w2):=K1.out.trans eY;have Z2:=ah (Z1.out.kept eY (by have:=bF.out;omega));obtain ⟨q2,oJ⟩:=jh.deep;clear jh eY))
 go_upto_region 7 with fail
 obtain ⟨w3,hw3⟩:∃w3,w3=w2.setCell ⟨N,2,none⟩ (.int .i64 (d1:Int)):=⟨_,rfl⟩
 have r3:=R2.out.nX d1
 rw [←hw3] at r3⊢
 rw [←HLR.out] at r3
 have k3:Kept (· = N) w2 w3:=by rw [hw3];exact (Kept.refl (· = N) w2).setCell (p:=⟨N,2,none⟩) (.inl rfl) _
 have K3:=ah k3
 clear hw3 k3 q2 oJ
 obtain ⟨q2,oJ⟩:=r3.deep
 obtain ⟨n3,a3,c3,r3⟩:=r3
 have HA:=ah (mM r3)
 clear r3
 go_wp2_with (first
  | (go_at_call 56;(refine HA.out.mono ?_);rintro e w' ⟨rfl,aK⟩;obtain rfl:=aK.symm)
  | (go_at_call 55;(refine (dG _ 4 (dP en lr) w3).mono ?_);rintro e w4 ⟨rfl,rfl⟩))
 exact ⟨rfl,XQ.thrown K2.out K3.out er.out⟩
theorem Jp {N T en d:Nat} {ex pr:List aC→bD aA} {l:List aC} {w:World} (hd:d<400) (HP:Jq N T en (d+1) pr) (h:dB N T en l d w) (hs:aH (bs [36]) l=true):Calls Tryz.prog 235 #[.pointer (some ⟨N,0,none⟩)] w (XQ N T en d (bG ex pr en l) w):=by
 have S1:Hid (aH ⟨#[40]⟩ l=false):=Ho hs (by decide)
 have er:Hid (bG ex pr en l=match pr l.tail with | .error er=>.error er | .ok (x,r)=>.ok (node1 5 x,r)):=by unfold Hid bG;rw [show aH (bs [40]) l=false from S1.out,hs];rfl
 have S2:Hid (aH ⟨#[36]⟩ l=true):=hs
 obtain ⟨lr,hlr⟩:∃lr,lr=l.tail:=⟨_,rfl⟩
 rw [←hlr] at er
 have HLR:=ah hlr
 obtain ⟨d1,hd1⟩:∃d1:Nat,d1=d+1:=⟨_,rfl⟩
 have hdi:(d:Int)+1=(d1:Int):=by omega
 rw [←hd1] at HP
 have g1:decide ((400:Int)<(d1:Int))=false:=au (by omega)
 have g2:decide (400<d1)=false:=au (by omega)
 have hb:d1≤1000:=by omega
 have hb1:1≤d1:=by omega
 have hdj:(d1:Int)-1=(d:Int):=by omega
 have WM:=ah HP
 obtain ⟨hN,hT,hne,h7⟩:=h.jL
 obtain ⟨w0,hw0⟩:∃w0,w0=w.alloc (.cells #[.int .i64 0,.string ⟨#[]⟩,.int .i64 0,.string ⟨#[]⟩,.slice none 0 0] 54):=⟨_,rfl⟩
 have k0:Kept aB w w0:=by rw [hw0];exact (Kept.refl _ _).alloc _
 obtain ⟨M2,hM2⟩:∃M,M=w.heap.size:=⟨_,rfl⟩
 have Z0:Hid (eH M2 (.int .i64 0) (.string ⟨#[]⟩) (.int .i64 0) (.string ⟨#[]⟩) (.slice none 0 0) w0):=by rw [hw0,hM2];exact ay w _
 have R0:=ah (h.kept k0 (fun h=>h) (fun h=>h))
 have K0:Hid (Kept (· = N) w w0):=k0.more (fun _ h=>h.elim)
 have HW0:=ah hw0;have bF:=ah hM2
 clear k0 hw0 hM2 h hs hlr hd hd1 HP
 go_enter Tryz.func235, Tryz.ntmps235
 go_upto_region 1 with fail
 rw [←HW0.out,←bF.out]
 go_upto_region 6 with (first
  | (go_at_call 53;(with_reducible refine (fA ⟨#[40]⟩ R0.out S1.out).mono ?_);rintro e w1 ⟨rfl,eF,bY⟩;have R1:=ah eF;have K1:Hid (Kept (· = N) w w1):=K0.out.trans bY;have Z1:=ah (Z0.out.kept bY (by have:=bF.out;omega));clear eF bY)
  | (go_at_call 53;(with_reducible refine (jW ⟨#[36]⟩ R1.out S2.out).mono ?_);rintro e w2 ⟨rfl,jh,eY⟩;have R2:=ah jh;have K2:Hid (Kept (· = N) w w2):=K1.out.trans eY;have Z2:=ah (Z1.out.kept eY (by have:=bF.out;omega));obtain ⟨q2,oJ⟩:=jh.deep;clear jh eY))
 go_upto_region 7 with fail
 obtain ⟨w3,hw3⟩:∃w3,w3=w2.setCell ⟨N,2,none⟩ (.int .i64 (d1:Int)):=⟨_,rfl⟩
 have r3:=R2.out.nX d1
 rw [←hw3] at r3⊢
 rw [←HLR.out] at r3
 have k3:Kept (· = N) w2 w3:=by rw [hw3];exact (Kept.refl (· = N) w2).setCell (p:=⟨N,2,none⟩) (.inl rfl) _
 have K3:Hid (Kept (· = N) w w3):=K2.out.trans k3
 have Z3:=ah (Z2.out.kept k3 (by have:=bF.out;omega))
 have R3:=ah r3
 clear hw3 k3 q2 oJ
 obtain ⟨q2,oJ⟩:=r3.deep
 clear r3
 cases hu:pr lr with
 | error e0 =>
  go_wp2_with (go_at_call 235;(refine (WM.out lr w3 R3.out).mono ?_);intro e w4 WQ;obtain ⟨Dk,rfl⟩:=WQ.bad hu;have K4:=ah Dk;clear Dk WQ)
  exact ⟨rfl,XQ.thrown K3.out K4.out (by rw [er.out,hu])⟩
 | ok x =>
  obtain ⟨p,r⟩:=x
  have qJ:Hid (bG ex pr en l=.ok (node1 5 p,r)):=by unfold Hid;rw [er.out,hu]
  clear er
  go_upto_region 10 with (go_at_call 235;(refine (WM.out lr w3 R3.out).mono ?_);intro e w4 WQ;obtain ⟨Dk,r4_,S,ka,cap,rfl,jd,je,gI⟩:=WQ.ok hu;have I5:=ah (gK.adY (w1:=w3) (cap:=cap) 5 (Z3.out.kept Dk (by have:=bF.out;omega)) (K3.out.trans Dk) r4_ jd je gI hN K3.out.size Z3.out.lt Dk.size);have HL4:Hid (w.heap.size<w4.heap.size):=(by have:=Z3.out.lt;have:=bF.out;have:=Dk.size;unfold Hid;omega);clear Dk r4_ jd je gI WQ)
  obtain ⟨w5,hw5⟩:∃w5,w5=(w4.alloc (.cells #[.int .i64 p.kind,.string p.text,.int .i64 p.n,.string p.name,.slice ka p.kids.length cap] 54)).alloc (.cells #[.int .i64 5,.string ⟨#[]⟩,.int .i64 0,.string ⟨#[]⟩,.slice (some ⟨w4.heap.size,0,none⟩) 1 1] 54):=⟨_,rfl⟩
  rw [←hw5] at I5⊢
  obtain ⟨B,hB⟩:∃B,B=w4.heap.size:=⟨_,rfl⟩
  rw [←hB] at I5 HL4⊢
  clear hw5 hB q2 oJ
  obtain ⟨q2,oJ⟩:=I5.out.bf.deep
  have hM:Hid (N≠M2∧N≠B+1∧T≠M2∧w.heap.size≤M2):=by have:=bF.out;have:=HL4.out;unfold Hid;omega
  go_upto_region 11 with fail
  have I6:=ah (I5.out.ad2 hM.out.1 hM.out.2.1 d)
  obtain ⟨w6,hw6⟩:∃w6,w6=w5.setCell ⟨N,2,none⟩ (.int .i64 (d:Int)):=⟨_,rfl⟩
  rw [←hw6] at I6⊢
  clear hw6 q2 oJ
  obtain ⟨x0,x1,x2,x3,x4,_⟩:=I6.out.five.cells
  obtain ⟨z0,z1,z2,z3,z4,zf⟩:=I6.out.zero.cells
  have wK:=zf 0;have wL:=zf 1;have wM:=zf 2;have xw:=zf 3;have xA:=zf 4
  clear zf
  go_wp2_with fail
  exact iW 2 rfl rfl (I6.out.zero.aZ _ _ _ _ _) (I6.out.fin hM.out.1 hM.out.2.2.1 hM.out.2.2.2 hN qJ.out)
end Go.Proofs.YtgoijmpahffnhaaGreatDoor

namespace Go.Proofs.YtgoijmpahffnhaaGreatDoor
set_option linter.all false
open Go.RowKit
set_option maxRecDepth 100000
set_option maxHeartbeats 8000000
theorem jf {en:Nat} {l r:List aC} {x:aj} (h:dU en l=.ok (x,r)):x.size≤16:=by
 unfold dU at h
 split at h
 ·cases h
 ·split at h
  ·cases h
  ·simp only [Except.ok.injEq,Prod.mk.injEq] at h;obtain ⟨rfl,_⟩:=h;omega
theorem WR {N T en d:Nat} {ex pr:List aC→bD aA} {w:World} (h:dB N T en [] d w):Calls Tryz.prog 235 #[.pointer (some ⟨N,0,none⟩)] w (XQ N T en d (bG ex pr en []) w):=by
 have er:Hid (bG ex pr en []=.error (2,en)):=rfl
 have S1:Hid (aH ⟨#[40]⟩ ([]:List aC)=false):=rfl
 have S2:Hid (aH ⟨#[36]⟩ ([]:List aC)=false):=rfl
 obtain ⟨hN,hT,hne,h7⟩:=h.jL
 obtain ⟨w0,hw0⟩:∃w0,w0=w.alloc (.cells #[.int .i64 0,.string ⟨#[]⟩,.int .i64 0,.string ⟨#[]⟩,.slice none 0 0] 54):=⟨_,rfl⟩
 have k0:Kept aB w w0:=by rw [hw0];exact (Kept.refl _ _).alloc _
 obtain ⟨M2,hM2⟩:∃M,M=w.heap.size:=⟨_,rfl⟩
 have Z0:Hid (eH M2 (.int .i64 0) (.string ⟨#[]⟩) (.int .i64 0) (.string ⟨#[]⟩) (.slice none 0 0) w0):=by rw [hw0,hM2];exact ay w _
 have R0:=ah (h.kept k0 (fun h=>h) (fun h=>h))
 have K0:Hid (Kept (· = N) w w0):=k0.more (fun _ h=>h.elim)
 have HW0:=ah hw0;have bF:=ah hM2
 clear k0 hw0 hM2 h
 go_enter Tryz.func235, Tryz.ntmps235
 go_upto_region 1 with fail
 rw [←HW0.out,←bF.out]
 go_upto_region 12 with (first
  | (go_at_call 53;(with_reducible refine (fA ⟨#[40]⟩ R0.out S1.out).mono ?_);rintro e w1 ⟨rfl,eF,bY⟩;have R1:=ah eF;have K1:Hid (Kept (· = N) w w1):=K0.out.trans bY;have Z1:=ah (Z0.out.kept bY (by have:=bF.out;omega));clear eF bY)
  | (go_at_call 53;(with_reducible refine (fA ⟨#[36]⟩ R1.out S2.out).mono ?_);rintro e w2 ⟨rfl,jh,eY⟩;have R2:=ah jh;have K2:Hid (Kept (· = N) w w2):=K1.out.trans eY;have Z2:=ah (Z1.out.kept eY (by have:=bF.out;omega));clear jh eY))
 obtain ⟨n2,a2,c2,hP⟩:=R2.out
 obtain ⟨c0,c1,cd,cf⟩:=hP.c0
 have hn:=hP.num
 have z:decide ((0:Int)<(n2:Int))=false:=by rw [hn];rfl
 have z':decide (0<n2)=false:=by rw [hn];rfl
 clear hn hP cf
 go_wp2_with (go_at_call 50;(refine (fZ R2.out).mono ?_);intro e w3 fH;obtain ⟨bH,rfl⟩:=fH.bad (er:=(2,en)) rfl;have K3:=ah bH;clear bH fH)
 exact ⟨rfl,XQ.thrown K2.out K3.out er.out⟩
theorem Jr {N T en d:Nat} {ex pr:List aC→bD aA} {t:aC} {r:List aC} {w:World} (h:dB N T en (t::r) d w) (hk:t.kind≠3∧t.kind≠2) (hs1:aH (bs [40]) (t::r)=false) (hs2:aH (bs [36]) (t::r)=false) {e0:Er} (hnm:dU en (t::r)=.error e0):Calls Tryz.prog 235 #[.pointer (some ⟨N,0,none⟩)] w (XQ N T en d (bG ex pr en (t::r)) w):=by
 have er:Hid (bG ex pr en (t::r)=match dU en (t::r) with
    | .error er=>.error er
    | .ok (nm,r) =>
     if aH (bs [60]) r=true then
      match ex r.tail with
      | .error er=>.error er
      | .ok (x,r2)=>match eU (bs [62]) en r2 with
       | .error er=>.error er
       | .ok r3=>.ok (.mk 4 E0 0 nm [x],r3)
     else if aH (bs [40]) r=true then
      if aH (bs [41]) r.tail=true then .ok (.mk 6 E0 0 nm [],r.tail.tail)
      else match ng ex en 9 [] r.tail with
       | .error er=>.error er
       | .ok (ks,r2)=>.ok (.mk 6 E0 0 nm ks,r2)
     else .ok (.mk 3 E0 0 nm [],r)):=by unfold Hid bG;rw [hs1,hs2];simp only [fF,hk.1,hk.2,if_false,Bool.false_eq_true];rfl
 have S1:Hid (aH ⟨#[40]⟩ (t::r)=false):=hs1;have S2:Hid (aH ⟨#[36]⟩ (t::r)=false):=hs2;have HK:=ah hk
 have zh:=ah hnm
 obtain ⟨hN,hT,hne,h7⟩:=h.jL
 obtain ⟨w0,hw0⟩:∃w0,w0=w.alloc (.cells #[.int .i64 0,.string ⟨#[]⟩,.int .i64 0,.string ⟨#[]⟩,.slice none 0 0] 54):=⟨_,rfl⟩
 have k0:Kept aB w w0:=by rw [hw0];exact (Kept.refl _ _).alloc _
 obtain ⟨M2,hM2⟩:∃M,M=w.heap.size:=⟨_,rfl⟩
 have Z0:Hid (eH M2 (.int .i64 0) (.string ⟨#[]⟩) (.int .i64 0) (.string ⟨#[]⟩) (.slice none 0 0) w0):=by rw [hw0,hM2];exact ay w _
 have R0:=ah (h.kept k0 (fun h=>h) (fun h=>h))
 have K0:Hid (Kept (· = N) w w0):=k0.more (fun _ h=>h.elim)
 have HW0:=ah hw0;have bF:=ah hM2
 clear k0 hw0 hM2 h hk hs1 hs2 hnm
 go_enter Tryz.func235, Tryz.ntmps235
 go_upto_region 1 with fail
 rw [←HW0.out,←bF.out]
 go_upto_region 12 with (first
  | (go_at_call 53;(with_reducible refine (fA ⟨#[40]⟩ R0.out S1.out).mono ?_);rintro e w1 ⟨rfl,eF,bY⟩;have R1:=ah eF;have K1:Hid (Kept (· = N) w w1):=K0.out.trans bY;have Z1:=ah (Z0.out.kept bY (by have:=bF.out;omega));clear eF bY)
  | (go_at_call 53;(with_reducible refine (fA ⟨#[36]⟩ R1.out S2.out).mono ?_);rintro e w2 ⟨rfl,jh,eY⟩;have R2:=ah jh;have K2:Hid (Kept (· = N) w w2):=K1.out.trans eY;have Z2:=ah (Z1.out.kept eY (by have:=bF.out;omega));clear jh eY))
 obtain ⟨n2,a2,c2,hP⟩:=R2.out
 obtain ⟨c0,c1,cd,cf⟩:=hP.c0
 have hn:=hP.num
 rw [List.length_cons] at hn
 have h0:0<n2:=by omega
 have h1:(0:Int)<(n2:Int):=by omega
 have z:decide ((0:Int)<(n2:Int))=true:=ak h1
 have z':decide (0<n2)=true:=ak h0
 obtain ⟨o,rfl,t0,t1,t2⟩:=hP.head
 have y3:(t.kind==3)=false:=by simpa using HK.out.1
 have y2:(t.kind==2)=false:=by simpa using HK.out.2
 clear hn hP cf
 go_upto_region 22 with fail
 clear c0 c1 cd t0 t1 t2 y3 y2 z z'
 go_wp2_with (go_at_call 50;(refine (fZ R2.out).mono ?_);intro e w3 fH;obtain ⟨bH,rfl⟩:=fH.bad zh.out;have K3:=ah bH;clear bH fH)
 exact ⟨rfl,XQ.thrown K2.out K3.out (by rw [er.out,zh.out])⟩
theorem TY {N T en d:Nat} {ex pr:List aC→bD aA} {t:aC} {r:List aC} {w:World} (h:dB N T en (t::r) d w) (hk:t.kind≠3∧t.kind≠2) (hs1:aH (bs [40]) (t::r)=false) (hs2:aH (bs [36]) (t::r)=false) {nm:aj} {r1:List aC} (hnm:dU en (t::r)=.ok (nm,r1)) (hs3:aH (bs [60]) r1=false) (hs4:aH (bs [40]) r1=false):Calls Tryz.prog 235 #[.pointer (some ⟨N,0,none⟩)] w (XQ N T en d (bG ex pr en (t::r)) w):=by
 have er:Hid (bG ex pr en (t::r)=match dU en (t::r) with
    | .error er=>.error er
    | .ok (nm,r) =>
     if aH (bs [60]) r=true then
      match ex r.tail with
      | .error er=>.error er
      | .ok (x,r2)=>match eU (bs [62]) en r2 with
       | .error er=>.error er
       | .ok r3=>.ok (.mk 4 E0 0 nm [x],r3)
     else if aH (bs [40]) r=true then
      if aH (bs [41]) r.tail=true then .ok (.mk 6 E0 0 nm [],r.tail.tail)
      else match ng ex en 9 [] r.tail with
       | .error er=>.error er
       | .ok (ks,r2)=>.ok (.mk 6 E0 0 nm ks,r2)
     else .ok (.mk 3 E0 0 nm [],r)):=by unfold Hid bG;rw [hs1,hs2];simp only [fF,hk.1,hk.2,if_false,Bool.false_eq_true];rfl
 have S1:Hid (aH ⟨#[40]⟩ (t::r)=false):=hs1;have S2:Hid (aH ⟨#[36]⟩ (t::r)=false):=hs2;have HK:=ah hk
 have qJ:Hid (bG ex pr en (t::r)=.ok (.mk 3 E0 0 nm [],r1)):=by unfold Hid;rw [er.out,hnm];simp only [hs3,hs4,if_false,Bool.false_eq_true]
 have zh:=ah hnm;have S3:Hid (aH ⟨#[60]⟩ r1=false):=hs3;have S4:Hid (aH ⟨#[40]⟩ r1=false):=hs4
 obtain ⟨hN,hT,hne,h7⟩:=h.jL
 obtain ⟨w0,hw0⟩:∃w0,w0=w.alloc (.cells #[.int .i64 0,.string ⟨#[]⟩,.int .i64 0,.string ⟨#[]⟩,.slice none 0 0] 54):=⟨_,rfl⟩
 have k0:Kept aB w w0:=by rw [hw0];exact (Kept.refl _ _).alloc _
 obtain ⟨M2,hM2⟩:∃M,M=w.heap.size:=⟨_,rfl⟩
 have Z0:Hid (eH M2 (.int .i64 0) (.string ⟨#[]⟩) (.int .i64 0) (.string ⟨#[]⟩) (.slice none 0 0) w0):=by rw [hw0,hM2];exact ay w _
 have R0:=ah (h.kept k0 (fun h=>h) (fun h=>h))
 have K0:Hid (Kept (· = N) w w0):=k0.more (fun _ h=>h.elim)
 have HW0:=ah hw0;have bF:=ah hM2
 clear k0 hw0 hM2 h hk hs1 hs2 hnm hs3 hs4 er
 go_enter Tryz.func235, Tryz.ntmps235
 go_upto_region 1 with fail
 rw [←HW0.out,←bF.out]
 go_upto_region 12 with (first
  | (go_at_call 53;(with_reducible refine (fA ⟨#[40]⟩ R0.out S1.out).mono ?_);rintro e w1 ⟨rfl,eF,bY⟩;have R1:=ah eF;have K1:Hid (Kept (· = N) w w1):=K0.out.trans bY;have Z1:=ah (Z0.out.kept bY (by have:=bF.out;omega));clear eF bY)
  | (go_at_call 53;(with_reducible refine (fA ⟨#[36]⟩ R1.out S2.out).mono ?_);rintro e w2 ⟨rfl,jh,eY⟩;have R2:=ah jh;have K2:Hid (Kept (· = N) w w2):=K1.out.trans eY;have Z2:=ah (Z1.out.kept eY (by have:=bF.out;omega));clear jh eY))
 obtain ⟨n2,a2,c2,hP⟩:=R2.out
 obtain ⟨c0,c1,cd,cf⟩:=hP.c0
 have hn:=hP.num
 rw [List.length_cons] at hn
 have h0:0<n2:=by omega
 have h1:(0:Int)<(n2:Int):=by omega
 have z:decide ((0:Int)<(n2:Int))=true:=ak h1
 have z':decide (0<n2)=true:=ak h0
 obtain ⟨o,rfl,t0,t1,t2⟩:=hP.head
 have y3:(t.kind==3)=false:=by simpa using HK.out.1
 have y2:(t.kind==2)=false:=by simpa using HK.out.2
 clear hn hP cf
 go_upto_region 22 with fail
 clear c0 c1 cd t0 t1 t2 y3 y2 z z'
 go_upto_region 23 with (go_at_call 50;(refine (fZ R2.out).mono ?_);intro e w3 fH;obtain ⟨bH,rfl,jo⟩:=fH.ok zh.out;have R3:=ah jo;have K3:Hid (Kept (· = N) w w3):=K2.out.trans bH;have Z3:=ah (Z2.out.kept bH (by have:=bF.out;omega));clear bH jo fH)
 have I4:Hid (gK N T en d M2 w3.heap.size w (.mk 3 E0 0 nm []) none 0 r1 (w3.alloc (.cells #[.int .i64 3,.string ⟨#[]⟩,.int .i64 0,.string nm,.slice none 0 0] 54))):=gK.start (w1:=w3) (p:=.mk 3 E0 0 nm []) (ka:=none) (cap:=0) (S:=aB) Z3.out K3.out R3.out (fun b hb=>hb.elim) ⟨by show E0.size<_;decide,by show nm.size<_;have:=jf zh.out;omega,by show 0<_;decide⟩ (by show aI _ aB none [];unfold aI;trivial) hN K3.out.size Z3.out.lt
 have hsz:Hid (w.heap.size<w3.heap.size):=by have:=Z3.out.lt;have:=bF.out;unfold Hid;omega
 obtain ⟨w4,hw4⟩:∃w4,w4=w3.alloc (.cells #[.int .i64 3,.string ⟨#[]⟩,.int .i64 0,.string nm,.slice none 0 0] 54):=⟨_,rfl⟩
 obtain ⟨M5,nK⟩:∃M,M=w3.heap.size:=⟨_,rfl⟩
 rw [←hw4,←nK] at I4
 rw [←hw4,←nK]
 rw [←nK] at hsz
 have hM:Hid (N≠M2∧N≠M5∧T≠M2∧w.heap.size≤M2∧M2<M5):=by have:=bF.out;have:=hsz.out;unfold Hid;omega
 clear hw4 nK
 go_upto_region 36 with (first
  | (go_at_call 53;(with_reducible refine (fA ⟨#[60]⟩ I4.out.bf S3.out).mono ?_);rintro e w5 ⟨rfl,Dw,wI⟩;have I5:=ah (I4.out.aQ hM.out.1 (by have:=hM.out;omega) wI Dw);clear Dw wI)
  | (go_at_call 53;(with_reducible refine (fA ⟨#[40]⟩ I5.out.bf S4.out).mono ?_);rintro e w6 ⟨rfl,yh,oG⟩;have I6:=ah (I5.out.aQ hM.out.1 (by have:=hM.out;omega) oG yh);clear yh oG))
 obtain ⟨x0,x1,x2,x3,x4,_⟩:=I6.out.five.cells
 obtain ⟨z0,z1,z2,z3,z4,zf⟩:=I6.out.zero.cells
 have wK:=zf 0;have wL:=zf 1;have wM:=zf 2;have xw:=zf 3;have xA:=zf 4
 clear zf
 go_wp2_with fail
 exact iW 2 rfl rfl (I6.out.zero.aZ _ _ _ _ _) (I6.out.fin hM.out.1 hM.out.2.2.1 hM.out.2.2.2.1 hN qJ.out)
theorem Ua {N T en d:Nat} {ex pr:List aC→bD aA} {t:aC} {r:List aC} {w:World} (h:dB N T en (t::r) d w) (hk:t.kind≠3∧t.kind≠2) (hs1:aH (bs [40]) (t::r)=false) (hs2:aH (bs [36]) (t::r)=false) {nm:aj} {r1:List aC} (hnm:dU en (t::r)=.ok (nm,r1)) (HE:FT N T en d ex) (hs3:aH (bs [60]) r1=true):Calls Tryz.prog 235 #[.pointer (some ⟨N,0,none⟩)] w (XQ N T en d (bG ex pr en (t::r)) w):=by
 have er:Hid (bG ex pr en (t::r)=match dU en (t::r) with
    | .error er=>.error er
    | .ok (nm,r) =>
     if aH (bs [60]) r=true then
      match ex r.tail with
      | .error er=>.error er
      | .ok (x,r2)=>match eU (bs [62]) en r2 with
       | .error er=>.error er
       | .ok r3=>.ok (.mk 4 E0 0 nm [x],r3)
     else if aH (bs [40]) r=true then
      if aH (bs [41]) r.tail=true then .ok (.mk 6 E0 0 nm [],r.tail.tail)
      else match ng ex en 9 [] r.tail with
       | .error er=>.error er
       | .ok (ks,r2)=>.ok (.mk 6 E0 0 nm ks,r2)
     else .ok (.mk 3 E0 0 nm [],r)):=by unfold Hid bG;rw [hs1,hs2];simp only [fF,hk.1,hk.2,if_false,Bool.false_eq_true];rfl
 have S1:Hid (aH ⟨#[40]⟩ (t::r)=false):=hs1;have S2:Hid (aH ⟨#[36]⟩ (t::r)=false):=hs2;have HK:=ah hk
 have qJ:Hid (bG ex pr en (t::r)=match ex r1.tail with | .error er=>.error er | .ok (x,r2)=>match eU (bs [62]) en r2 with | .error er=>.error er | .ok r3=>.ok (.mk 4 E0 0 nm [x],r3)):=by unfold Hid;rw [er.out,hnm];simp only [hs3,if_true]
 have zh:=ah hnm;have S3:Hid (aH ⟨#[60]⟩ r1=true):=hs3;have HEX:=ah HE
 obtain ⟨hN,hT,hne,h7⟩:=h.jL
 obtain ⟨w0,hw0⟩:∃w0,w0=w.alloc (.cells #[.int .i64 0,.string ⟨#[]⟩,.int .i64 0,.string ⟨#[]⟩,.slice none 0 0] 54):=⟨_,rfl⟩
 have k0:Kept aB w w0:=by rw [hw0];exact (Kept.refl _ _).alloc _
 obtain ⟨M2,hM2⟩:∃M,M=w.heap.size:=⟨_,rfl⟩
 have Z0:Hid (eH M2 (.int .i64 0) (.string ⟨#[]⟩) (.int .i64 0) (.string ⟨#[]⟩) (.slice none 0 0) w0):=by rw [hw0,hM2];exact ay w _
 have R0:=ah (h.kept k0 (fun h=>h) (fun h=>h))
 have K0:Hid (Kept (· = N) w w0):=k0.more (fun _ h=>h.elim)
 have HW0:=ah hw0;have bF:=ah hM2
 clear k0 hw0 hM2 h hk hs1 hs2 hnm hs3 er HE
 go_enter Tryz.func235, Tryz.ntmps235
 go_upto_region 1 with fail
 rw [←HW0.out,←bF.out]
 go_upto_region 12 with (first
  | (go_at_call 53;(with_reducible refine (fA ⟨#[40]⟩ R0.out S1.out).mono ?_);rintro e w1 ⟨rfl,eF,bY⟩;have R1:=ah eF;have K1:Hid (Kept (· = N) w w1):=K0.out.trans bY;have Z1:=ah (Z0.out.kept bY (by have:=bF.out;omega));clear eF bY)
  | (go_at_call 53;(with_reducible refine (fA ⟨#[36]⟩ R1.out S2.out).mono ?_);rintro e w2 ⟨rfl,jh,eY⟩;have R2:=ah jh;have K2:Hid (Kept (· = N) w w2):=K1.out.trans eY;have Z2:=ah (Z1.out.kept eY (by have:=bF.out;omega));clear jh eY))
 obtain ⟨n2,a2,c2,hP⟩:=R2.out
 obtain ⟨c0,c1,cd,cf⟩:=hP.c0
 have hn:=hP.num
 rw [List.length_cons] at hn
 have h0:0<n2:=by omega
 have h1:(0:Int)<(n2:Int):=by omega
 have z:decide ((0:Int)<(n2:Int))=true:=ak h1
 have z':decide (0<n2)=true:=ak h0
 obtain ⟨o,rfl,t0,t1,t2⟩:=hP.head
 have y3:(t.kind==3)=false:=by simpa using HK.out.1
 have y2:(t.kind==2)=false:=by simpa using HK.out.2
 clear hn hP cf
 go_upto_region 22 with fail
 clear c0 c1 cd t0 t1 t2 y3 y2 z z'
 go_upto_region 23 with (go_at_call 50;(refine (fZ R2.out).mono ?_);intro e w3 fH;obtain ⟨bH,rfl,jo⟩:=fH.ok zh.out;have R3:=ah jo;have K3:Hid (Kept (· = N) w w3):=K2.out.trans bH;have Z3:=ah (Z2.out.kept bH (by have:=bF.out;omega));clear bH jo fH)
 have I4:Hid (gK N T en d M2 w3.heap.size w (.mk 3 E0 0 nm []) none 0 r1 (w3.alloc (.cells #[.int .i64 3,.string ⟨#[]⟩,.int .i64 0,.string nm,.slice none 0 0] 54))):=gK.start (w1:=w3) (p:=.mk 3 E0 0 nm []) (ka:=none) (cap:=0) (S:=aB) Z3.out K3.out R3.out (fun b hb=>hb.elim) ⟨by show E0.size<_;decide,by show nm.size<_;have:=jf zh.out;omega,by show 0<_;decide⟩ (by show aI _ aB none [];unfold aI;trivial) hN K3.out.size Z3.out.lt
 have hsz:Hid (w.heap.size<w3.heap.size):=by have:=Z3.out.lt;have:=bF.out;unfold Hid;omega
 obtain ⟨w4,hw4⟩:∃w4,w4=w3.alloc (.cells #[.int .i64 3,.string ⟨#[]⟩,.int .i64 0,.string nm,.slice none 0 0] 54):=⟨_,rfl⟩
 obtain ⟨M5,nK⟩:∃M,M=w3.heap.size:=⟨_,rfl⟩
 rw [←hw4,←nK] at I4
 rw [←hw4,←nK]
 rw [←nK] at hsz
 have hM:Hid (N≠M2∧N≠M5∧T≠M2∧w.heap.size≤M2∧M2<M5):=by have:=bF.out;have:=hsz.out;unfold Hid;omega
 clear hw4 nK
 go_upto_region 24 with (go_at_call 53;(with_reducible refine (jW ⟨#[60]⟩ I4.out.bf S3.out).mono ?_);rintro e w5 ⟨rfl,Dw,wI⟩;have I5:=ah (I4.out.aQ hM.out.1 (by have:=hM.out;omega) wI Dw);clear Dw wI)
 cases hu:ex r1.tail with
 | error e0 =>
  go_wp2_with (go_at_call 90;(refine (HEX.out r1.tail w5 I5.out.bf).mono ?_);intro e w6 Hl;obtain ⟨oG,rfl⟩:=Hl.bad hu;have K6:=ah oG;clear oG Hl)
  exact ⟨rfl,XQ.thrown I5.out.kept K6.out (by rw [qJ.out,hu])⟩
 | ok x =>
  obtain ⟨p,r2⟩:=x
  have lK:Hid (bG ex pr en (t::r)=match eU (bs [62]) en r2 with | .error er=>.error er | .ok r3=>.ok (.mk 4 E0 0 nm [p],r3)):=by unfold Hid;rw [qJ.out,hu]
  clear qJ
  go_upto_region 25 with (go_at_call 90;(refine (HEX.out r1.tail w5 I5.out.bf).mono ?_);intro e w6 Hl;obtain ⟨oG,yh,S,ka,cap,rfl,jd,je,gI⟩:=Hl.ok hu;have I7:=ah (gK.item (cap:=cap) I5.out hM.out.1 hM.out.2.1 (by have:=hM.out;omega) (by have:=hM.out;omega) hT hN oG yh jd je gI rfl);have I6:=ah (I5.out.aQ hM.out.1 hM.out.2.1 oG yh);obtain ⟨g0,g1,g2,g3,g4,gf⟩:=(I6.out.five.kept ((Kept.refl aB w6).alloc (.cells #[.int .i64 p.kind,.string p.text,.int .i64 p.n,.string p.name,.slice ka p.kids.length cap] 54)) (fun h=>h)).cells;have gf0:=gf 0;have gf4:=gf 4;clear gf oG yh jd je gI Hl)
  obtain ⟨w7,hw7⟩:∃w7,w7=((w6.alloc (.cells #[.int .i64 p.kind,.string p.text,.int .i64 p.n,.string p.name,.slice ka p.kids.length cap] 54)).setCell ⟨M5,0,none⟩ (.int .i64 4)).setCell ⟨M5,4,none⟩ (.slice (some ⟨w6.heap.size,0,none⟩) 1 1):=⟨_,rfl⟩
  rw [←hw7] at I7
  rw [←hw7]
  clear hw7 g0 g1 g2 g3 g4 gf0 gf4
  cases hv:eU (bs [62]) en r2 with
  | error e0 =>
   go_wp2_with (go_at_call 88;(refine (jE (bs [62]) I7.out.bf).mono ?_);intro e w8 zi;obtain ⟨qp,rfl⟩:=zi.bad hv;have K8:=ah qp;clear qp zi)
   exact ⟨rfl,XQ.thrown I7.out.kept K8.out (by rw [lK.out,hv])⟩
  | ok r3 =>
   have yj:Hid (bG ex pr en (t::r)=.ok (.mk 4 E0 0 nm [p],r3)):=by unfold Hid;rw [lK.out,hv]
   clear lK
   go_upto_region 36 with (go_at_call 88;(refine (jE (bs [62]) I7.out.bf).mono ?_);intro e w8 zi;obtain ⟨qp,rfl,zk⟩:=zi.ok hv;have I8:=ah (I7.out.aQ hM.out.1 hM.out.2.1 qp zk);clear qp zk zi)
   obtain ⟨x0,x1,x2,x3,x4,_⟩:=I8.out.five.cells
   obtain ⟨z0,z1,z2,z3,z4,zf⟩:=I8.out.zero.cells
   have wK:=zf 0;have wL:=zf 1;have wM:=zf 2;have xw:=zf 3;have xA:=zf 4
   clear zf
   go_wp2_with fail
   exact iW 2 rfl rfl (I8.out.zero.aZ _ _ _ _ _) (I8.out.fin hM.out.1 hM.out.2.2.1 hM.out.2.2.2.1 hN yj.out)
end Go.Proofs.YtgoijmpahffnhaaGreatDoor
