/-  -/
import Derived.Test.YtodebjhalipefaaGreatDoorBase
import Derived.Test.YtodebjhalipefaaGreatDoorShelf
import Derived.Test.YtodebjhalipefaaGreatDoorLq14
namespace Go.Proofs.YtodebjhalipefaaGreatDoor
set_option linter.all false
open Go.RowKit
set_option maxRecDepth 100000
def Done (w:World) (e:Ending) (w':World):Prop:=e=.returned (.tuple #[])∧Kept aA w w'
theorem adh (f:Value) (w:World):Calls Tryz.prog 190 #[.slice none 0 0,.int .i64 0,.int .i64 0,f] w (Done w):=by
 go_enter Tryz.func190, Tryz.ntmps190
 go_wp2_with fail
 go_loopw [8] (fun i wr=>i=.int .i64 1∧wr=w) (fun _ _=>0)
 case atStart=>exact ⟨rfl,rfl⟩
 case round =>
  obtain ⟨rfl,rfl⟩:=hrel
  go_wp2_with fail
  exact bodyPost_ret (v:=.tuple #[]) (by simp [results,Tryz.results190,go_sem]) rfl ⟨rfl,Kept.refl _ _⟩
theorem aiw (f:Value) (n:Int) (w:World):Calls Tryz.prog 131 #[.slice none 0 0,.int .i64 0,.int .i64 0,.int .i64 n,f] w (Done w):=by
 go_enter Tryz.func131, Tryz.ntmps131
 go_wp2_with fail
 go_loopw [1,2,3] (fun a b c wr=>a=.int .i64 0∧b=.int .i64 0∧c=.int .i64 n∧wr=w) (fun _ _ _ _=>0)
 case atStart=>exact ⟨rfl,rfl,rfl,rfl⟩
 case round =>
  obtain ⟨rfl,rfl,rfl,rfl⟩:=hrel
  go_wp2_with (go_at_call 190;(with_reducible refine (adh f _).mono ?_);rintro e w1 ⟨rfl,k_⟩;have K1:=ah k_;clear k_)
  exact bodyPost_ret (v:=.tuple #[]) (by simp [results,Tryz.results131,go_sem]) rfl ⟨rfl,K1.out⟩
theorem agG (f:Value) (w:World):Calls Tryz.prog 90 #[.slice none 0 0,f] w (Done w):=by
 go_enter Tryz.func90, Tryz.ntmps90
 go_wp2_with (first
  | (go_at_call 132;(refine (Tryz.bits_Len 0 _ (by omega) (by omega)).mono ?_);rintro e w' ⟨rfl,aH⟩;obtain rfl:=aH.symm;clear aH)
  | (go_at_call 131;(with_reducible refine (aiw f _ _).mono ?_);rintro e w1 ⟨rfl,k_⟩;have K1:=ah k_;clear k_))
 exact bodyPost_ret (v:=.tuple #[]) (by simp [results,Tryz.results90,go_sem]) rfl ⟨rfl,K1.out⟩
end Go.Proofs.YtodebjhalipefaaGreatDoor

namespace Go.Proofs.YtodebjhalipefaaGreatDoor
set_option linter.all false
open Go.RowKit
set_option maxRecDepth 100000
set_option maxHeartbeats 4000000
theorem JC:L6 yL:=⟨⟨by decide,by decide,by decide⟩,by simp [yL,sizeT,bK]⟩
theorem afx {lb:aj} (h:lb.size<1000000000):ql {st0 with label:=lb} :=
 by
 have e0:E0.size<1000000000:=by decide
 have en:([]:List aj).length<1000000000:=by decide
 exact ⟨h,JC,JC,JC,e0,e0,⟨en,fun x hx=>by cases hx⟩,⟨en,fun x hx=>by cases hx⟩,e0,e0,e0⟩
theorem bT.free {N:Nat} {a:gW} {s:aF} {w:World} (h:bT N a s w) (o:Nat):w.frozen? ⟨N,o,none⟩=false:=by
 unfold bT at h;simp [World.frozen?,h]
structure qZ (w:World) (S:Nat→Prop) (a:gW) (s:aF):Prop where
 target:aN w S a.ta s.target.kids
 value:aN w S a.va s.value.kids
 pat:aN w S a.pa s.pat.kids
 params:aX w S a.ma s.params
 locals:aX w S a.la s.locals
 pc:s.params.length≤a.mc
 lc:s.locals.length≤a.lc
theorem qZ.ok {w:World} {S:Nat→Prop} {a:gW} {s:aF} (h:qZ w S a s):vJ w S a s:=⟨h.target,h.value,h.pat,h.params,h.locals⟩
theorem qZ.to {w w':World} {S S':Nat→Prop} {X:Nat→Prop} {a:gW} {s:aF} (h:qZ w S a s) (hk:Kept X w w') (hs:Safe S X w.heap.size) (h':∀b,S b→S' b):qZ w' S' a s :=
 ⟨h.target.to hk hs h',h.value.to hk hs h',h.pat.to hk hs h',h.params.to hk hs h',h.locals.to hk hs h',h.pc,h.lc⟩
structure dA (N T en M:Nat) (s:aF) (l:List aC) (w:World):Prop where
 bH:bV N T en l 0 w
 st:∃a S,bT M a s w∧qZ w S a s∧∀b,S b→M<b∧b<w.heap.size
 sz:ql s
 lt:N<M∧T<M
 few:l.length≤100000
theorem dA.aQ {N T en M:Nat} {s:aF} {l l2:List aC} {w w2:World} (h:dA N T en M s l w) (hk:Kept (· = N) w w2) (hr:bV N T en l2 0 w2) (hl:l2.length≤l.length):dA N T en M s l2 w2:=by
 obtain ⟨h1,⟨a,S,h2,h3,h4⟩,h5,h6,h7⟩:=h
 exact ⟨hr,⟨a,S,h2.kept hk (by omega),h3.to hk (fun b hb=>⟨(h4 b hb).2,by have:=h4 b hb;omega⟩) (fun _ h=>h),fun b hb=>⟨(h4 b hb).1,Nat.lt_of_lt_of_le (h4 b hb).2 hk.size⟩⟩,h5,h6,by omega⟩
theorem dA.quiet {N T en M:Nat} {s:aF} {l:List aC} {w w2:World} (h:dA N T en M s l w) (hk:Kept aA w w2):dA N T en M s l w2 :=
 h.aQ (hk.more fun _ h=>h.elim) (h.bH.kept hk (fun h=>h) (fun h=>h)) (Nat.le_refl _)
theorem dA.qQ {N T en M:Nat} {l:List aC} {w:World} (h:bV N T en l 0 w) (hlt:N<M∧T<M) {w2:World} (hk:Kept (· = M) w w2):bV N T en l 0 w2 :=
 h.kept hk (by omega) (by omega) (by have:=h.jm;omega)
def dB (N T en M:Nat) (res:aZ aF) (w:World) (e:Ending) (w':World):Prop :=
 Kept (fun b=>b=N∨b=M) w w'∧match res with
  | .ok (s,r)=>e=.returned (.tuple #[])∧dA N T en M s r w'
  | .error er=>jo er e
theorem dB.thrown {N T en M:Nat} {r:aZ aF} {w w2 w3:World} {er:Er} (K:Kept (fun b=>b=N∨b=M) w w2) (k:Kept (· = N) w2 w3) (hr:r=.error er):dB N T en M r w (.panicked [{v:=bI er,recovered:=false}]) w3:=by
 subst hr;exact ⟨K.trans (k.more (fun _ h=>.inl h)),rfl⟩
theorem dB.done {N T en M:Nat} {r:aZ aF} {w w2:World} {s:aF} {l:List aC} (K:Kept (fun b=>b=N∨b=M) w w2) (h:dA N T en M s l w2) (hr:r=.ok (s,l)):dB N T en M r w (.returned (.tuple #[])) w2:=by
 subst hr;exact ⟨K,rfl,h⟩
theorem dB.ok {N T en M:Nat} {r:aZ aF} {w w':World} {s:aF} {l:List aC} {e:Ending} (h:dB N T en M r w e w') (hr:r=.ok (s,l)):Kept (fun b=>b=N∨b=M) w w'∧e=.returned (.tuple #[])∧dA N T en M s l w':=by
 subst hr;exact ⟨h.1,h.2.1,h.2.2⟩
theorem dB.bad {N T en M:Nat} {r:aZ aF} {w w':World} {er:Er} {e:Ending} (h:dB N T en M r w e w') (hr:r=.error er):Kept (fun b=>b=N∨b=M) w w'∧jo er e:=by
 subst hr;exact h
theorem uM.ok {N T en d:Nat} {l r:List aC} {w w':World} {e:Ending} {x:aj} (h:uM N T en l d w e w') (hr:dQ en l=.ok (x,r)):Kept (· = N) w w'∧e=.returned (.string x)∧bV N T en r d w':=by
 unfold uM at h;rw [hr] at h;exact ⟨h.1,h.2.1,h.2.2⟩
theorem uM.bad {N T en d:Nat} {l:List aC} {w w':World} {e:Ending} {er:Er} (h:uM N T en l d w e w') (hr:dQ en l=.error er):Kept (· = N) w w'∧jo er e:=by
 unfold uM at h;rw [hr] at h;exact h
theorem AU.ok {N T en d:Nat} {l r:List aC} {w w':World} {e:Ending} {p:aB} (h:AU N T en l d w e w') (hr:qx en l=.ok (p,r)) :
  Kept (· = N) w w'∧bV N T en r d w'∧∃S ka cap,e=.returned (.agg #[.int .i64 p.kind,.string p.text,.int .i64 p.n,.string p.name,.slice ka p.kids.length cap])∧(∀b,S b→w.heap.size≤b∧b<w'.heap.size)∧(p.text.size<1000000000∧p.name.size<1000000000∧p.kids.length<1000000000)∧aN w' S ka p.kids:=by
 unfold AU at h;rw [hr] at h
 obtain ⟨k,⟨v,rfl,S,hS,ka,cap,rfl,hz,hk⟩,hp⟩:=h
 exact ⟨k,hp,S,ka,cap,rfl,hS,hz,hk⟩
theorem AU.bad {N T en d:Nat} {l:List aC} {w w':World} {e:Ending} {er:Er} (h:AU N T en l d w e w') (hr:qx en l=.error er):Kept (· = N) w w'∧jo er e:=by
 unfold AU at h;rw [hr] at h;exact h
theorem jT.ok {N T en d:Nat} {res:aZ (List aj)} {ns:List aj} {r:List aC} {w w':World} {e:Ending} (h:jT N T en d res w e w') (hr:res=.ok (ns,r)) :
  Kept (· = N) w w'∧bV N T en r d w'∧∃a c,e=.returned (.slice a ns.length c)∧aP w' w.heap.size 9 1 (.slice a ns.length c) ns.length (oC ns):=by
 subst hr
 obtain ⟨k,⟨a,c,rfl,hw⟩,hp⟩:=h
 exact ⟨k,hp,a,c,rfl,hw⟩
theorem jT.bad {N T en d:Nat} {res:aZ (List aj)} {w w':World} {e:Ending} {er:Er} (h:jT N T en d res w e w') (hr:res=.error er):Kept (· = N) w w'∧jo er e:=by
 subst hr;exact h
theorem bP {w:World} {M i:Nat} {v:Value}:Kept (· = M) w (w.setCell ⟨M,i,none⟩ v):=(Kept.refl (· = M) w).setCell (p:=⟨M,i,none⟩) (.inl rfl) v
theorem dA.abp {N T en M:Nat} {s:aF} {l:List aC} {w:World} (h:dA N T en M s l w) (x:aj) (hx:x.size<1000000000):dA N T en M {s with label:=x} l (w.setCell ⟨M,0,none⟩ (.string x)):=by
 obtain ⟨h1,⟨a,S,h2,h3,h4⟩,h5,h6,h7⟩:=h
 have hB:bT M a {s with label:=x} (w.setCell ⟨M,0,none⟩ (.string x)):=by unfold bT at h2⊢;rw [aO h2 _];rfl
 have h3':=h3.to (S':=S) (bP (w:=w) (M:=M) (i:=0) (v:=.string x)) (fun b hb=>⟨(h4 b hb).2,by have:=h4 b hb;omega⟩) (fun _ h=>h)
 exact ⟨dA.qQ h1 h6 bP,⟨a,S,hB,⟨h3'.target,h3'.value,h3'.pat,h3'.params,h3'.locals,h3'.pc,h3'.lc⟩,fun b hb=>⟨(h4 b hb).1,Nat.lt_of_lt_of_le (h4 b hb).2 (bP (w:=w) (M:=M) (i:=0) (v:=.string x)).size⟩⟩,⟨hx,h5.target,h5.value,h5.pat,h5.name,h5.entry,h5.params,h5.locals,h5.always,h5.yes,h5.bU⟩,h6,h7⟩
theorem dA.setKind {N T en M:Nat} {s:aF} {l:List aC} {w:World} (h:dA N T en M s l w) (x:Int):dA N T en M {s with kind:=x} l (w.setCell ⟨M,1,none⟩ (.int .i64 x)):=by
 obtain ⟨h1,⟨a,S,h2,h3,h4⟩,h5,h6,h7⟩:=h
 have hB:bT M a {s with kind:=x} (w.setCell ⟨M,1,none⟩ (.int .i64 x)):=by unfold bT at h2⊢;rw [aO h2 _];rfl
 have h3':=h3.to (S':=S) (bP (w:=w) (M:=M) (i:=1) (v:=.int .i64 x)) (fun b hb=>⟨(h4 b hb).2,by have:=h4 b hb;omega⟩) (fun _ h=>h)
 exact ⟨dA.qQ h1 h6 bP,⟨a,S,hB,⟨h3'.target,h3'.value,h3'.pat,h3'.params,h3'.locals,h3'.pc,h3'.lc⟩,fun b hb=>⟨(h4 b hb).1,Nat.lt_of_lt_of_le (h4 b hb).2 (bP (w:=w) (M:=M) (i:=1) (v:=.int .i64 x)).size⟩⟩,⟨h5.label,h5.target,h5.value,h5.pat,h5.name,h5.entry,h5.params,h5.locals,h5.always,h5.yes,h5.bU⟩,h6,h7⟩
theorem dA.setName {N T en M:Nat} {s:aF} {l:List aC} {w:World} (h:dA N T en M s l w) (x:aj) (hx:x.size<1000000000):dA N T en M {s with name:=x} l (w.setCell ⟨M,17,none⟩ (.string x)):=by
 obtain ⟨h1,⟨a,S,h2,h3,h4⟩,h5,h6,h7⟩:=h
 have hB:bT M a {s with name:=x} (w.setCell ⟨M,17,none⟩ (.string x)):=by unfold bT at h2⊢;rw [aO h2 _];rfl
 have h3':=h3.to (S':=S) (bP (w:=w) (M:=M) (i:=17) (v:=.string x)) (fun b hb=>⟨(h4 b hb).2,by have:=h4 b hb;omega⟩) (fun _ h=>h)
 exact ⟨dA.qQ h1 h6 bP,⟨a,S,hB,⟨h3'.target,h3'.value,h3'.pat,h3'.params,h3'.locals,h3'.pc,h3'.lc⟩,fun b hb=>⟨(h4 b hb).1,Nat.lt_of_lt_of_le (h4 b hb).2 (bP (w:=w) (M:=M) (i:=17) (v:=.string x)).size⟩⟩,⟨h5.label,h5.target,h5.value,h5.pat,hx,h5.entry,h5.params,h5.locals,h5.always,h5.yes,h5.bU⟩,h6,h7⟩
theorem dA.AV {N T en M:Nat} {s:aF} {l:List aC} {w:World} (h:dA N T en M s l w) (x:aj) (hx:x.size<1000000000):dA N T en M {s with entry:=x} l (w.setCell ⟨M,18,none⟩ (.string x)):=by
 obtain ⟨h1,⟨a,S,h2,h3,h4⟩,h5,h6,h7⟩:=h
 have hB:bT M a {s with entry:=x} (w.setCell ⟨M,18,none⟩ (.string x)):=by unfold bT at h2⊢;rw [aO h2 _];rfl
 have h3':=h3.to (S':=S) (bP (w:=w) (M:=M) (i:=18) (v:=.string x)) (fun b hb=>⟨(h4 b hb).2,by have:=h4 b hb;omega⟩) (fun _ h=>h)
 exact ⟨dA.qQ h1 h6 bP,⟨a,S,hB,⟨h3'.target,h3'.value,h3'.pat,h3'.params,h3'.locals,h3'.pc,h3'.lc⟩,fun b hb=>⟨(h4 b hb).1,Nat.lt_of_lt_of_le (h4 b hb).2 (bP (w:=w) (M:=M) (i:=18) (v:=.string x)).size⟩⟩,⟨h5.label,h5.target,h5.value,h5.pat,h5.name,hx,h5.params,h5.locals,h5.always,h5.yes,h5.bU⟩,h6,h7⟩
theorem dA.YK {N T en M:Nat} {s:aF} {l:List aC} {w:World} (h:dA N T en M s l w) (x:aj) (hx:x.size<1000000000):dA N T en M {s with always:=x} l (w.setCell ⟨M,21,none⟩ (.string x)):=by
 obtain ⟨h1,⟨a,S,h2,h3,h4⟩,h5,h6,h7⟩:=h
 have hB:bT M a {s with always:=x} (w.setCell ⟨M,21,none⟩ (.string x)):=by unfold bT at h2⊢;rw [aO h2 _];rfl
 have h3':=h3.to (S':=S) (bP (w:=w) (M:=M) (i:=21) (v:=.string x)) (fun b hb=>⟨(h4 b hb).2,by have:=h4 b hb;omega⟩) (fun _ h=>h)
 exact ⟨dA.qQ h1 h6 bP,⟨a,S,hB,⟨h3'.target,h3'.value,h3'.pat,h3'.params,h3'.locals,h3'.pc,h3'.lc⟩,fun b hb=>⟨(h4 b hb).1,Nat.lt_of_lt_of_le (h4 b hb).2 (bP (w:=w) (M:=M) (i:=21) (v:=.string x)).size⟩⟩,⟨h5.label,h5.target,h5.value,h5.pat,h5.name,h5.entry,h5.params,h5.locals,hx,h5.yes,h5.bU⟩,h6,h7⟩
theorem dA.afy {N T en M:Nat} {s:aF} {l:List aC} {w:World} (h:dA N T en M s l w) (x:aj) (hx:x.size<1000000000):dA N T en M {s with yes:=x} l (w.setCell ⟨M,22,none⟩ (.string x)):=by
 obtain ⟨h1,⟨a,S,h2,h3,h4⟩,h5,h6,h7⟩:=h
 have hB:bT M a {s with yes:=x} (w.setCell ⟨M,22,none⟩ (.string x)):=by unfold bT at h2⊢;rw [aO h2 _];rfl
 have h3':=h3.to (S':=S) (bP (w:=w) (M:=M) (i:=22) (v:=.string x)) (fun b hb=>⟨(h4 b hb).2,by have:=h4 b hb;omega⟩) (fun _ h=>h)
 exact ⟨dA.qQ h1 h6 bP,⟨a,S,hB,⟨h3'.target,h3'.value,h3'.pat,h3'.params,h3'.locals,h3'.pc,h3'.lc⟩,fun b hb=>⟨(h4 b hb).1,Nat.lt_of_lt_of_le (h4 b hb).2 (bP (w:=w) (M:=M) (i:=22) (v:=.string x)).size⟩⟩,⟨h5.label,h5.target,h5.value,h5.pat,h5.name,h5.entry,h5.params,h5.locals,h5.always,hx,h5.bU⟩,h6,h7⟩
theorem dA.SN {N T en M:Nat} {s:aF} {l:List aC} {w:World} (h:dA N T en M s l w) (x:aj) (hx:x.size<1000000000):dA N T en M {s with bU:=x} l (w.setCell ⟨M,23,none⟩ (.string x)):=by
 obtain ⟨h1,⟨a,S,h2,h3,h4⟩,h5,h6,h7⟩:=h
 have hB:bT M a {s with bU:=x} (w.setCell ⟨M,23,none⟩ (.string x)):=by unfold bT at h2⊢;rw [aO h2 _];rfl
 have h3':=h3.to (S':=S) (bP (w:=w) (M:=M) (i:=23) (v:=.string x)) (fun b hb=>⟨(h4 b hb).2,by have:=h4 b hb;omega⟩) (fun _ h=>h)
 exact ⟨dA.qQ h1 h6 bP,⟨a,S,hB,⟨h3'.target,h3'.value,h3'.pat,h3'.params,h3'.locals,h3'.pc,h3'.lc⟩,fun b hb=>⟨(h4 b hb).1,Nat.lt_of_lt_of_le (h4 b hb).2 (bP (w:=w) (M:=M) (i:=23) (v:=.string x)).size⟩⟩,⟨h5.label,h5.target,h5.value,h5.pat,h5.name,h5.entry,h5.params,h5.locals,h5.always,h5.yes,hx⟩,h6,h7⟩
theorem aP.few {w:World} {B e size n c:Nat} {a:Option Addr} {xs:List Value} (h:aP w B e size (.slice a n c) n xs):n≤c:=by
 rcases h.cells with ⟨_,hn⟩|⟨g,o,cap,hv,_,_,h1,_⟩
 ·omega
 ·simp only [Value.slice.injEq,true_and] at hv
  obtain ⟨_,rfl⟩:=hv
  exact h1
theorem dA.YL {N T en M:Nat} {s:aF} {l l2:List aC} {w w2:World} (h:dA N T en M s l w) (hk:Kept (· = N) w w2) (hr:bV N T en l2 0 w2) (hl:l2.length≤l.length) {ns:List aj} {na:Option Addr} {nc:Nat} (hw:aP w2 w.heap.size 9 1 (.slice na ns.length nc) ns.length (oC ns)) (hx:ns.length<1000000000∧∀x∈ns,x.size<1000000000) :
  dA N T en M {s with params:=ns} l2 (w2.setCell ⟨M,19,none⟩ (.slice na ns.length nc)):=by
 have hM:M<w.heap.size:=by obtain ⟨a,S,h2,_⟩:=h.st;exact h2.lt
 obtain ⟨h1,⟨a,S,h2,h3,h4⟩,h5,h6,h7⟩:=h.aQ hk hr hl
 have hB:bT M {a with ma:=na,mc:=nc} {s with params:=ns} (w2.setCell ⟨M,19,none⟩ (.slice na ns.length nc)):=by unfold bT at h2⊢;rw [aO h2 _];rfl
 have kM:=bP (w:=w2) (M:=M) (i:=19) (v:=.slice na ns.length nc)
 have h3':=h3.to (S':=fun b=>S b∨(Value.slice na ns.length nc).ownBlock=some b) kM (fun b hb=>⟨(h4 b hb).2,by have:=h4 b hb;omega⟩) (fun _ h=>.inl h)
 have x3:aX (w2.setCell ⟨M,19,none⟩ (.slice na ns.length nc)) (fun b=>S b∨(Value.slice na ns.length nc).ownBlock=some b) na ns:=by
  intro h0
  rcases hw.cells with ⟨_,hn⟩|⟨g,o,c',hv,hg1,hg2,_,_,hc⟩
  ·omega
  ·simp only [Value.slice.injEq,true_and] at hv
   obtain ⟨rfl,rfl⟩:=hv
   exact ⟨g,o,rfl,.inr rfl,fun j hj=>(kM.cell hg2 (by omega)).trans (hc j _ (by simp [oC,hj])).1⟩
 refine ⟨dA.qQ h1 h6 kM,⟨_,_,hB,⟨h3'.target,h3'.value,h3'.pat,x3,h3'.locals,hw.few,h3'.lc⟩,fun b hb=>?_⟩,⟨h5.label,h5.target,h5.value,h5.pat,h5.name,h5.entry,hx,h5.locals,h5.always,h5.yes,h5.bU⟩,h6,h7⟩
 rcases hb with hb|hb
 ·exact ⟨(h4 b hb).1,Nat.lt_of_lt_of_le (h4 b hb).2 kM.size⟩
 ·have:=hw.lt b hb;have:=kM.size;omega
theorem dA.KO {N T en M:Nat} {s:aF} {l l2:List aC} {w w2:World} (h:dA N T en M s l w) (hk:Kept (· = N) w w2) (hr:bV N T en l2 0 w2) (hl:l2.length≤l.length) {ns:List aj} {na:Option Addr} {nc:Nat} (hw:aP w2 w.heap.size 9 1 (.slice na ns.length nc) ns.length (oC ns)) (hx:ns.length<1000000000∧∀x∈ns,x.size<1000000000) :
  dA N T en M {s with locals:=ns} l2 (w2.setCell ⟨M,20,none⟩ (.slice na ns.length nc)):=by
 have hM:M<w.heap.size:=by obtain ⟨a,S,h2,_⟩:=h.st;exact h2.lt
 obtain ⟨h1,⟨a,S,h2,h3,h4⟩,h5,h6,h7⟩:=h.aQ hk hr hl
 have hB:bT M {a with la:=na,lc:=nc} {s with locals:=ns} (w2.setCell ⟨M,20,none⟩ (.slice na ns.length nc)):=by unfold bT at h2⊢;rw [aO h2 _];rfl
 have kM:=bP (w:=w2) (M:=M) (i:=20) (v:=.slice na ns.length nc)
 have h3':=h3.to (S':=fun b=>S b∨(Value.slice na ns.length nc).ownBlock=some b) kM (fun b hb=>⟨(h4 b hb).2,by have:=h4 b hb;omega⟩) (fun _ h=>.inl h)
 have x3:aX (w2.setCell ⟨M,20,none⟩ (.slice na ns.length nc)) (fun b=>S b∨(Value.slice na ns.length nc).ownBlock=some b) na ns:=by
  intro h0
  rcases hw.cells with ⟨_,hn⟩|⟨g,o,c',hv,hg1,hg2,_,_,hc⟩
  ·omega
  ·simp only [Value.slice.injEq,true_and] at hv
   obtain ⟨rfl,rfl⟩:=hv
   exact ⟨g,o,rfl,.inr rfl,fun j hj=>(kM.cell hg2 (by omega)).trans (hc j _ (by simp [oC,hj])).1⟩
 refine ⟨dA.qQ h1 h6 kM,⟨_,_,hB,⟨h3'.target,h3'.value,h3'.pat,h3'.params,x3,h3'.pc,hw.few⟩,fun b hb=>?_⟩,⟨h5.label,h5.target,h5.value,h5.pat,h5.name,h5.entry,h5.params,hx,h5.always,h5.yes,h5.bU⟩,h6,h7⟩
 rcases hb with hb|hb
 ·exact ⟨(h4 b hb).1,Nat.lt_of_lt_of_le (h4 b hb).2 kM.size⟩
 ·have:=hw.lt b hb;have:=kM.size;omega
theorem dA.rW {N T en M:Nat} {s:aF} {l:List aC} {w2:World} (h:dA N T en M s l w2) {p:aB} {ka:Option Addr} {kc:Nat} {S2:Nat→Prop} (hk2:aN w2 S2 ka p.kids) (hS2:∀b,S2 b→M<b∧b<w2.heap.size) (hz:p.text.size<1000000000∧p.name.size<1000000000∧p.kids.length<1000000000) (hx:sizeT p≤1048576) :
  dA N T en M {s with target:=p} l (((((w2.setCell ⟨M,2,none⟩ (.int .i64 p.kind)).setCell ⟨M,3,none⟩ (.string p.text)).setCell ⟨M,4,none⟩ (.int .i64 p.n)).setCell ⟨M,5,none⟩ (.string p.name)).setCell ⟨M,6,none⟩ (.slice ka p.kids.length kc)):=by
 obtain ⟨h1,⟨a,S,h2,h3,h4⟩,h5,h6,h7⟩:=h
 have hB:bT M {a with ta:=ka,tc:=kc} {s with target:=p} (((((w2.setCell ⟨M,2,none⟩ (.int .i64 p.kind)).setCell ⟨M,3,none⟩ (.string p.text)).setCell ⟨M,4,none⟩ (.int .i64 p.n)).setCell ⟨M,5,none⟩ (.string p.name)).setCell ⟨M,6,none⟩ (.slice ka p.kids.length kc)):=by unfold bT at h2⊢;rw [aO (aO (aO (aO (aO h2 _) _) _) _) _];rfl
 have kM:Kept (· = M) w2 (((((w2.setCell ⟨M,2,none⟩ (.int .i64 p.kind)).setCell ⟨M,3,none⟩ (.string p.text)).setCell ⟨M,4,none⟩ (.int .i64 p.n)).setCell ⟨M,5,none⟩ (.string p.name)).setCell ⟨M,6,none⟩ (.slice ka p.kids.length kc)):=((((bP).trans bP).trans bP).trans bP).trans bP
 have h3':=h3.to (S':=fun b=>S b∨S2 b) kM (fun b hb=>⟨(h4 b hb).2,by have:=h4 b hb;omega⟩) (fun _ h=>.inl h)
 have x3:=hk2.to (S':=fun b=>S b∨S2 b) kM (fun b hb=>⟨(hS2 b hb).2,by have:=hS2 b hb;omega⟩) (fun _ h=>.inr h)
 refine ⟨dA.qQ h1 h6 kM,⟨_,_,hB,⟨x3,h3'.value,h3'.pat,h3'.params,h3'.locals,h3'.pc,h3'.lc⟩,fun b hb=>?_⟩,⟨h5.label,⟨hz,hx⟩,h5.value,h5.pat,h5.name,h5.entry,h5.params,h5.locals,h5.always,h5.yes,h5.bU⟩,h6,h7⟩
 have:=kM.size
 rcases hb with hb|hb
 ·have:=h4 b hb;omega
 ·have:=hS2 b hb;omega
theorem dA.setValue {N T en M:Nat} {s:aF} {l:List aC} {w2:World} (h:dA N T en M s l w2) {p:aB} {ka:Option Addr} {kc:Nat} {S2:Nat→Prop} (hk2:aN w2 S2 ka p.kids) (hS2:∀b,S2 b→M<b∧b<w2.heap.size) (hz:p.text.size<1000000000∧p.name.size<1000000000∧p.kids.length<1000000000) (hx:sizeT p≤1048576) :
  dA N T en M {s with value:=p} l (((((w2.setCell ⟨M,7,none⟩ (.int .i64 p.kind)).setCell ⟨M,8,none⟩ (.string p.text)).setCell ⟨M,9,none⟩ (.int .i64 p.n)).setCell ⟨M,10,none⟩ (.string p.name)).setCell ⟨M,11,none⟩ (.slice ka p.kids.length kc)):=by
 obtain ⟨h1,⟨a,S,h2,h3,h4⟩,h5,h6,h7⟩:=h
 have hB:bT M {a with va:=ka,vc:=kc} {s with value:=p} (((((w2.setCell ⟨M,7,none⟩ (.int .i64 p.kind)).setCell ⟨M,8,none⟩ (.string p.text)).setCell ⟨M,9,none⟩ (.int .i64 p.n)).setCell ⟨M,10,none⟩ (.string p.name)).setCell ⟨M,11,none⟩ (.slice ka p.kids.length kc)):=by unfold bT at h2⊢;rw [aO (aO (aO (aO (aO h2 _) _) _) _) _];rfl
 have kM:Kept (· = M) w2 (((((w2.setCell ⟨M,7,none⟩ (.int .i64 p.kind)).setCell ⟨M,8,none⟩ (.string p.text)).setCell ⟨M,9,none⟩ (.int .i64 p.n)).setCell ⟨M,10,none⟩ (.string p.name)).setCell ⟨M,11,none⟩ (.slice ka p.kids.length kc)):=((((bP).trans bP).trans bP).trans bP).trans bP
 have h3':=h3.to (S':=fun b=>S b∨S2 b) kM (fun b hb=>⟨(h4 b hb).2,by have:=h4 b hb;omega⟩) (fun _ h=>.inl h)
 have x3:=hk2.to (S':=fun b=>S b∨S2 b) kM (fun b hb=>⟨(hS2 b hb).2,by have:=hS2 b hb;omega⟩) (fun _ h=>.inr h)
 refine ⟨dA.qQ h1 h6 kM,⟨_,_,hB,⟨h3'.target,x3,h3'.pat,h3'.params,h3'.locals,h3'.pc,h3'.lc⟩,fun b hb=>?_⟩,⟨h5.label,h5.target,⟨hz,hx⟩,h5.pat,h5.name,h5.entry,h5.params,h5.locals,h5.always,h5.yes,h5.bU⟩,h6,h7⟩
 have:=kM.size
 rcases hb with hb|hb
 ·have:=h4 b hb;omega
 ·have:=hS2 b hb;omega
theorem dA.YM {N T en M:Nat} {s:aF} {l:List aC} {w2:World} (h:dA N T en M s l w2) {p:aB} {ka:Option Addr} {kc:Nat} {S2:Nat→Prop} (hk2:aN w2 S2 ka p.kids) (hS2:∀b,S2 b→M<b∧b<w2.heap.size) (hz:p.text.size<1000000000∧p.name.size<1000000000∧p.kids.length<1000000000) (hx:sizeT p≤1048576) :
  dA N T en M {s with pat:=p} l (((((w2.setCell ⟨M,12,none⟩ (.int .i64 p.kind)).setCell ⟨M,13,none⟩ (.string p.text)).setCell ⟨M,14,none⟩ (.int .i64 p.n)).setCell ⟨M,15,none⟩ (.string p.name)).setCell ⟨M,16,none⟩ (.slice ka p.kids.length kc)):=by
 obtain ⟨h1,⟨a,S,h2,h3,h4⟩,h5,h6,h7⟩:=h
 have hB:bT M {a with pa:=ka,pc:=kc} {s with pat:=p} (((((w2.setCell ⟨M,12,none⟩ (.int .i64 p.kind)).setCell ⟨M,13,none⟩ (.string p.text)).setCell ⟨M,14,none⟩ (.int .i64 p.n)).setCell ⟨M,15,none⟩ (.string p.name)).setCell ⟨M,16,none⟩ (.slice ka p.kids.length kc)):=by unfold bT at h2⊢;rw [aO (aO (aO (aO (aO h2 _) _) _) _) _];rfl
 have kM:Kept (· = M) w2 (((((w2.setCell ⟨M,12,none⟩ (.int .i64 p.kind)).setCell ⟨M,13,none⟩ (.string p.text)).setCell ⟨M,14,none⟩ (.int .i64 p.n)).setCell ⟨M,15,none⟩ (.string p.name)).setCell ⟨M,16,none⟩ (.slice ka p.kids.length kc)):=((((bP).trans bP).trans bP).trans bP).trans bP
 have h3':=h3.to (S':=fun b=>S b∨S2 b) kM (fun b hb=>⟨(h4 b hb).2,by have:=h4 b hb;omega⟩) (fun _ h=>.inl h)
 have x3:=hk2.to (S':=fun b=>S b∨S2 b) kM (fun b hb=>⟨(hS2 b hb).2,by have:=hS2 b hb;omega⟩) (fun _ h=>.inr h)
 refine ⟨dA.qQ h1 h6 kM,⟨_,_,hB,⟨h3'.target,h3'.value,x3,h3'.params,h3'.locals,h3'.pc,h3'.lc⟩,fun b hb=>?_⟩,⟨h5.label,h5.target,h5.value,⟨hz,hx⟩,h5.name,h5.entry,h5.params,h5.locals,h5.always,h5.yes,h5.bU⟩,h6,h7⟩
 have:=kM.size
 rcases hb with hb|hb
 ·have:=h4 b hb;omega
 ·have:=hS2 b hb;omega
theorem KU (l:List aB) (j:Nat) (hj:j<l.length):nD (l.take (j+1))=max (nD (l.take j)) (nG l[j]):=by
 induction l generalizing j with
 | nil=>simp at hj
 | cons p ps ih =>
  cases j with
  | zero=>simp [nD]
  | succ j=>simp only [List.take_succ_cons,nD,List.getElem_cons_succ];rw [ih j (by simpa using hj)];omega
mutual
theorem FY:∀p:aB,nG p≤sizeT p
 | .mk k t n nm kids=>by rw [nG,sizeT];have:=yM kids;omega
theorem yM:∀l:List aB,nD l≤bK l
 | []=>Nat.le_refl _
 | p::ps=>by rw [nD,bK];have:=FY p;have:=yM ps;omega
end
theorem Px (l:List aB) (j:Nat):nD (l.take j)≤bK l:=Nat.le_trans (yM _) (Vr l j)
theorem KY:∀(n:Nat) (p:aB) (b o:Nat) (S:Nat→Prop) (w:World),sizeT p≤n→n≤100000000→aU w S b o p→Calls Tryz.prog 72 #[.pointer (some ⟨b,o,none⟩)] w (vP (nG p) w):=by
 intro n
 induction n with
 | zero=>intro p b o S w hn _ _;obtain ⟨k,t,m,nm,kids⟩:=p;simp [sizeT] at hn
 | succ n ih =>
  intro p b o S w hn hmax hp
  obtain ⟨k,t,m,nm,kids⟩:=p
  obtain ⟨hSb,hz,c0,c1,c2,c3,ka,cap,c4,hk⟩:=hp.open
  have hks:bK kids≤n:=by rw [sizeT] at hn;omega
  have hkl:kids.length<1000000000:=hz.2.2
  dsimp only [aB.kids] at c4 hk
  have HIH:=ah ih;have HK:=ah hk;have WG:=ah hks
  have HD:Hid (nG (.mk k t m nm kids)=nD kids+1):=rfl
  clear hp hz hk hn ih
  go_enter Tryz.func72, Tryz.ntmps72
  go_wp2_with fail
  go_loopw [10,3] (fun x y wr=>∃j:Nat,j≤kids.length∧x=.int .i64 j∧y=.int .i64 ((nD (kids.take j):Nat):Int)∧wr=w) (fun x _ _=>kids.length-(intOf x).toNat)
  case atStart=>exact ⟨0,Nat.zero_le _,rfl,rfl,rfl⟩
  case round =>
   obtain ⟨j,hj,rfl,rfl,rfl⟩:=hrel
   by_cases hlt:j<kids.length
   ·have hb1:decide ((j:Int)<(kids.length:Int))=true:=ak (by omega)
    have hb2:decide (j<kids.length)=true:=ak hlt
    obtain ⟨kb,ko,rfl⟩:=oh HK.out (by omega)
    have hC:=ah (HIH.out kids[j] kb (ko+j*5) S _ (by have:=oQ kids j hlt;have:=WG.out;omega) (by omega) (mV kids kb ko j hlt HK.out))
    have hmx:((max (nD (kids.take j)) (nG kids[j]):Nat):Int)=((nD (kids.take (j+1)):Nat):Int):=by rw [KU kids j hlt]
    have aiH:max ((nD (kids.take j):Nat):Int) ((nG kids[j]:Nat):Int)=((nD (kids.take (j+1)):Nat):Int):=by rw [KU kids j hlt];omega
    have hd1:nD (kids.take j)≤100000000:=Nat.le_trans (Px kids j) (by have:=WG.out;omega)
    obtain ⟨x,hx⟩:∃x,x=nD (kids.take j):=⟨_,rfl⟩
    obtain ⟨y,hy⟩:∃y,y=nG kids[j]:=⟨_,rfl⟩
    obtain ⟨z,hzz⟩:∃z,z=nD (kids.take (j+1)):=⟨_,rfl⟩
    rw [←hy] at hC
    rw [←hx,←hy,←hzz] at aiH
    rw [←hx] at hd1⊢
    have HZZ:=ah hzz
    clear hmx hx hy hzz
    go_wp2_with (go_at_call 72;(refine hC.out.mono ?_);rintro e w' ⟨rfl,aH⟩;obtain rfl:=aH)
    go_roundw
    case measure=>simp [intOf];omega
    case rel=>exact ⟨j+1,by omega,by go_num,by rw [HZZ.out],trivial⟩
   ·obtain rfl:j=kids.length:=by omega
    have hb1:decide ((kids.length:Int)<(kids.length:Int))=false:=au (by omega)
    have hb2:decide (kids.length<kids.length)=false:=au (by omega)
    have hd1:nD kids≤100000000:=Nat.le_trans (yM kids) (by have:=WG.out;omega)
    rw [List.take_length]
    go_wp2_with fail
    go_ret
    exact ⟨by rw [HD.out];rfl,rfl⟩
end Go.Proofs.YtodebjhalipefaaGreatDoor

namespace Go.Proofs.YtodebjhalipefaaGreatDoor
set_option linter.all false
open Go.RowKit
set_option maxRecDepth 100000
set_option maxHeartbeats 8000000
def st1 (lb:aj):aF:={st0 with label:=lb}
theorem dA.slot {N T en M:Nat} {s:aF} {l:List aC} {w:World} (h:dA N T en M s l w) (i:Nat) (hi:i<24):∃v,w.cell? ⟨M,i,none⟩=some v∧w.frozen? ⟨M,i,none⟩=false:=by
 obtain ⟨a,S,hB,_⟩:=h.st
 have hf:=hB.free i
 unfold bT at hB
 refine ⟨(bM a s)[i]'(by simpa [bM] using hi),?_,hf⟩
 ·rw [cell_of_row w M i _ _ _ hB]
  have e:∀(j:Nat) (hj:j<(bM a s).length),(bM a s).toArray[j]?=some (bM a s)[j]:=fun j hj=>by simp [hj]
  exact e i (by simpa [bM] using hi)
theorem dA.SQ {N T en M:Nat} {s:aF} {l:List aC} {w:World} (h:dA N T en M s l w):M<w.heap.size:=by obtain ⟨a,S,h2,_⟩:=h.st;exact h2.lt
theorem eU {N M:Nat} {w w2:World} (h:Kept (· = M) w w2):Kept (fun b=>b=N∨b=M) w w2:=h.more fun _ h=>.inr h
theorem fK {N M:Nat} {w w2:World} (h:Kept (· = N) w w2):Kept (fun b=>b=N∨b=M) w w2:=h.more fun _ h=>.inl h
theorem abq {c:Option aj} {en:Nat}:∀(f:Nat) (ns:List aj) (l:List aC) (H8:List aj) (r:List aC),namesT c en f ns l=.ok (H8,r)→(∀x∈ns,x.size≤16)→(∀x∈H8,x.size≤16)∧H8.length≤ns.length+f∧r.length≤l.length:=by
 intro f
 induction f with
 | zero=>intro ns l H8 r h hx;simp only [namesT,Except.ok.injEq,Prod.mk.injEq] at h;obtain ⟨rfl,rfl⟩:=h;exact ⟨hx,by omega,by omega⟩
 | succ f ih =>
  intro ns l H8 r h hx
  rw [namesT] at h
  split at h
  ·cases h
  ·split at h
   ·cases h
   ·next n r1 hn =>
    have hnl:=jQ hn
    have hx2:∀x∈ns++[n],x.size≤16:=by
     intro x hm
     rcases List.mem_append.1 hm with hm|hm
     ·exact hx x hm
     ·rw [List.mem_singleton.1 hm];exact iF hn
    have hl2:(ns++[n]).length=ns.length+1:=by simp
    split at h
    ·split at h
     ·next hs=>simp only [Except.ok.injEq,Prod.mk.injEq] at h;obtain ⟨rfl,rfl⟩:=h;have:=gU hs;exact ⟨hx2,by omega,by omega⟩
     ·split at h
      ·cases h
      ·next r2 hd =>
       obtain ⟨a,b,c⟩:=ih _ _ _ _ h hx2
       have:=mJ hd
       exact ⟨a,by omega,by omega⟩
    ·split at h
     ·next hs=>obtain ⟨a,b,c⟩:=ih _ _ _ _ h hx2;have:=gU hs;exact ⟨a,by omega,by omega⟩
     ·simp only [Except.ok.injEq,Prod.mk.injEq] at h;obtain ⟨rfl,rfl⟩:=h;exact ⟨hx2,by omega,by omega⟩
theorem DC {c:Option aj} {en:Nat} {l:List aC} {H8:List aj} {r:List aC} (h:namesT c en 9 [] l=.ok (H8,r)):(H8.length<1000000000∧∀x∈H8,x.size<1000000000)∧r.length≤l.length:=by
 obtain ⟨a,b,c⟩:=abq _ _ _ _ _ h (fun x hx=>by cases hx)
 simp only [List.length_nil] at b
 exact ⟨⟨by omega,fun x hx=>by have:=a x hx;omega⟩,c⟩
theorem H9:([44]:List UInt8)=(⟨#[44]⟩:aj).toList:=by rw [ByteArray.toList_eq]
theorem rQ.second {N T en n c d:Nat} {o:Nat} {t u:aC} {r:List aC} {w:World} (h:rQ N T en n (some ⟨T,o,none⟩) c (t::u::r) d w):w.cell? ⟨T,o+3,none⟩=some (.int .i64 u.kind)∧w.cell? ⟨T,o+4,none⟩=some (.string u.text):=by
 obtain ⟨o',e,hc⟩:=h.toks (by simp)
 simp only [Option.some.injEq,Addr.mk.injEq,true_and,and_true] at e
 subst e
 have e2:jK (t::u::r)=Dq t++(Dq u++jK r):=by simp [jK]
 rw [e2] at hc
 exact ⟨hc 3 _ rfl,hc 4 _ rfl⟩
theorem EO {N T en M:Nat} {lb:aj} {l:List aC} {w:World} (h:dA N T en M (st1 lb) l w):Calls Tryz.prog 102 #[.pointer (some ⟨N,0,none⟩),.pointer (some ⟨M,0,none⟩)] w (dB N T en M (dY en (st1 lb) l) w):=by
 obtain ⟨v1,c1,f1⟩:=h.slot 1 (by decide)
 obtain ⟨w1,hw1⟩:∃w1,w1=w.setCell ⟨M,1,none⟩ (.int .i64 7):=⟨_,rfl⟩
 have I1:=h.setKind 7
 have K1:Kept (fun b=>b=N∨b=M) w (w.setCell ⟨M,1,none⟩ (.int .i64 7)):=eU bP
 rw [←hw1] at I1 K1
 have I1:=ah I1;have K1:=ah K1;have HW1:=ah hw1
 clear h hw1
 go_enter Tryz.func102, Tryz.ntmps102
 go_upto_region 1 with fail
 rw [←HW1.out]
 clear c1 f1
 go_upto_region 2 with (go_at_call 65;(refine (fB I1.out.bH).mono ?_);intro e w2 h_;rcases hu:dL en l with e0|⟨nm,r1⟩;(obtain ⟨k_,rfl⟩:=h_.bad hu;have f_:dB N T en M (dY en (st1 lb) l) w (.panicked [{v:=bI e0,recovered:=false}]) _:=dB.thrown K1.out k_ (by unfold dY;simp only [hu,if_true,if_false,Bool.false_eq_true]);exact ⟨rfl,f_⟩);(obtain ⟨k_,rfl,r_⟩:=h_.ok hu;have lN:=ah hu;have I2:=ah (I1.out.aQ k_ r_ (by have:=jQ hu;omega));have K2:=ah (K1.out.trans (fK k_));obtain ⟨v17,c17,f17⟩:=I2.out.slot 17 (by decide);clear k_ r_ h_ hu))
 have I3:=ah (I2.out.setName nm (by have:=iF lN.out;omega))
 have K3:=ah (K2.out.trans (eU (bP (w:=w2) (M:=M) (i:=17) (v:=.string nm))))
 obtain ⟨w3,hw3⟩:∃w3,w3=w2.setCell ⟨M,17,none⟩ (.string nm):=⟨_,rfl⟩
 rw [←hw3] at I3 K3
 rw [←hw3]
 clear hw3 c17 f17
 go_upto_region 3 with (go_at_call 103;(refine (jd (bs [40]) I3.out.bH).mono ?_);intro e w4 h_;rcases hu:dW (bs [40]) en r1 with e0|r2;(obtain ⟨k_,rfl⟩:=h_.bad hu;have f_:dB N T en M (dY en (st1 lb) l) w (.panicked [{v:=bI e0,recovered:=false}]) _:=dB.thrown K3.out k_ (by unfold dY;simp only [lN.out,hu,if_true,if_false,Bool.false_eq_true]);exact ⟨rfl,f_⟩);(obtain ⟨k_,rfl,r_⟩:=h_.ok hu;have yN:=ah hu;have I4:=ah (I3.out.aQ k_ r_ (by have:=mJ hu;omega));have K4:=ah (K3.out.trans (fK k_));clear k_ r_ h_ hu))
 cases hs:aG ⟨#[41]⟩ r2 with
 | true =>
  have HS:Hid (aG (bs [41]) r2=true):=hs
  go_upto_region 5 with (go_at_call 68;(with_reducible refine (jB ⟨#[41]⟩ I4.out.bH hs).mono ?_);rintro e w5 ⟨rfl,r_,k_⟩;have I5:=ah (I4.out.aQ k_ r_ (by have:=gU hs;omega));have K5:=ah (K4.out.trans (fK k_));clear r_ k_)
  obtain ⟨r5,hr5⟩:∃r5,r5=r2.tail:=⟨_,rfl⟩
  have YN:Hid (r2.tail=r5):=hr5.symm
  rw [←hr5] at I5
  clear hr5
  obtain ⟨nq,aq,cq,hq⟩:=I5.out.bH
  go_cut [57] (fun c wx=>c=.bool (iP r5)∧wx=w5)
  case first =>
   obtain ⟨c0,c1,cd,cf⟩:=hq.c0
   have hn:=hq.num
   rcases r5 with _|⟨t,_|⟨u,r9⟩⟩
   ·have z:decide ((1:Int)<(nq:Int))=false:=by rw [hn];rfl
    have z':decide (1<nq)=false:=by rw [hn];rfl
    clear hn hq cf
    go_wp2_with fail
    go_meet
    exact ⟨rfl,rfl⟩
   ·have z:decide ((1:Int)<(nq:Int))=false:=by rw [hn];rfl
    have z':decide (1<nq)=false:=by rw [hn];rfl
    clear hn hq cf
    go_wp2_with fail
    go_meet
    exact ⟨rfl,rfl⟩
   ·rw [List.length_cons,List.length_cons] at hn
    have h0:1<nq:=by omega
    have h1:(1:Int)<(nq:Int):=by omega
    have z:decide ((1:Int)<(nq:Int))=true:=ak h1
    have z':decide (1<nq)=true:=ak h0
    obtain ⟨o,rfl,t0,t1,t2⟩:=hq.head
    obtain ⟨u0,u1⟩:=hq.second
    clear hn hq cf
    by_cases hk1:u.kind=1
    ·have y:(u.kind==1)=true:=by simpa using hk1
     have fin:Hid (iP (t::u::r9)=true):=by show (decide (u.kind=1)||decide (u.kind=5∧u.text=bs [44]))=_;rw [ak hk1];rfl
     clear hk1
     go_wp2_with fail
     go_meet
     exact ⟨by rw [fin.out],rfl⟩
    ·have y:(u.kind==1)=false:=by simpa using hk1
     by_cases hk5:u.kind=5
     ·have y5:(u.kind==5)=true:=by simpa using hk5
      by_cases hx:u.text=bs [44]
      ·have y2:(u.text.toList==[44])=true:=by rw [H9,bW];exact ak hx
       have fin:Hid (iP (t::u::r9)=true):=by show (decide (u.kind=1)||decide (u.kind=5∧u.text=bs [44]))=_;rw [ak (p:=u.kind=5∧_) ⟨hk5,hx⟩,Bool.or_true]
       clear hk1 hk5 hx
       go_wp2_with fail
       go_meet
       exact ⟨by rw [fin.out],rfl⟩
      ·have y2:(u.text.toList==[44])=false:=by rw [H9,bW];exact au hx
       have fin:Hid (iP (t::u::r9)=false):=by show (decide (u.kind=1)||decide (u.kind=5∧u.text=bs [44]))=_;rw [au hk1,au (p:=u.kind=5∧_) (fun h=>hx h.2)];rfl
       clear hk1 hk5 hx
       go_wp2_with fail
       go_meet
       exact ⟨by rw [fin.out],rfl⟩
     ·have y5:(u.kind==5)=false:=by simpa using hk5
      have fin:Hid (iP (t::u::r9)=false):=by show (decide (u.kind=1)||decide (u.kind=5∧u.text=bs [44]))=_;rw [au hk1,au (p:=u.kind=5∧_) (fun h=>hk5 h.1)];rfl
      clear hk1 hk5
      go_wp2_with fail
      go_meet
      exact ⟨by rw [fin.out],rfl⟩
  case rest =>
   obtain ⟨rfl,rfl⟩:=hcut
   have HW:=ah hq
   clear hq
   cases hc:iP r5 with
   | false =>
    go_wp2_with (go_at_call 65;(refine (fB I5.out.bH).mono ?_);intro e Py h_;rcases hu:dL en r5 with e0|⟨DF,r4⟩;(obtain ⟨k_,rfl⟩:=h_.bad hu;have f_:dB N T en M (dY en (st1 lb) l) w (.panicked [{v:=bI e0,recovered:=false}]) _:=dB.thrown K5.out k_ (by unfold dY;simp only [lN.out,yN.out,HS.out,YN.out,hc,hu,if_true,if_false,Bool.false_eq_true]);exact ⟨rfl,f_⟩);(obtain ⟨k_,rfl,r_⟩:=h_.ok hu;have DI:=ah hu;have I30:=ah (I5.out.aQ k_ r_ (by have:=jQ hu;omega));have Pz:=ah (K5.out.trans (fK k_));obtain ⟨v18,c18,f18⟩:=I30.out.slot 18 (by decide);clear k_ r_ h_ hu))
    (first|go_end0|(refine bodyPost_ret (results_none rfl _ _ _) rfl ?_))
    exact dB.done (Pz.out.trans (eU (bP (w:=Py) (M:=M) (i:=18) (v:=.string DF)))) (I30.out.AV DF (by have:=iF DI.out;omega)) (by unfold dY;simp only [lN.out,yN.out,HS.out,YN.out,hc,DI.out,if_true,if_false,Bool.false_eq_true];try rfl)
   | true =>
    go_upto_region 7 with (go_at_call 142;(refine (EL I5.out.bH).mono ?_);intro e Ia h_;rcases hu:namesT none en 9 [] r5 with e0|⟨ls,r3⟩;(obtain ⟨k_,rfl⟩:=h_.bad hu;have f_:dB N T en M (dY en (st1 lb) l) w (.panicked [{v:=bI e0,recovered:=false}]) _:=dB.thrown K5.out k_ (by unfold dY;simp only [lN.out,yN.out,HS.out,YN.out,hc,hu,if_true,if_false,Bool.false_eq_true]);exact ⟨rfl,f_⟩);(obtain ⟨k_,r_,la,lc,rfl,aH⟩:=h_.ok hu;have Ib:=ah hu;have LN:=ah (DC hu);have I21:=ah (I5.out.aQ k_ r_ LN.out.2);have I22:=ah (I5.out.KO k_ r_ LN.out.2 aH LN.out.1);have zL:=ah (K5.out.trans (fK k_));obtain ⟨v20,c20,f20⟩:=I21.out.slot 20 (by decide);clear k_ r_ h_ hu aH))
    have K22:=ah (zL.out.trans (eU (bP (w:=Ia) (M:=M) (i:=20) (v:=.slice la ls.length lc))))
    obtain ⟨EP,Gf⟩:∃EP,EP=Ia.setCell ⟨M,20,none⟩ (.slice la ls.length lc):=⟨_,rfl⟩
    rw [←Gf] at I22 K22
    rw [←Gf]
    clear Gf c20 f20
    go_wp2_with (go_at_call 65;(refine (fB I22.out.bH).mono ?_);intro e Py h_;rcases hu:dL en r3 with e0|⟨DF,r4⟩;(obtain ⟨k_,rfl⟩:=h_.bad hu;have f_:dB N T en M (dY en (st1 lb) l) w (.panicked [{v:=bI e0,recovered:=false}]) _:=dB.thrown K22.out k_ (by unfold dY;simp only [lN.out,yN.out,HS.out,YN.out,hc,Ib.out,hu,if_true,if_false,Bool.false_eq_true]);exact ⟨rfl,f_⟩);(obtain ⟨k_,rfl,r_⟩:=h_.ok hu;have DI:=ah hu;have I30:=ah (I22.out.aQ k_ r_ (by have:=jQ hu;omega));have Pz:=ah (K22.out.trans (fK k_));obtain ⟨v18,c18,f18⟩:=I30.out.slot 18 (by decide);clear k_ r_ h_ hu))
    (first|go_end0|(refine bodyPost_ret (results_none rfl _ _ _) rfl ?_))
    exact dB.done (Pz.out.trans (eU (bP (w:=Py) (M:=M) (i:=18) (v:=.string DF)))) (I30.out.AV DF (by have:=iF DI.out;omega)) (by unfold dY;simp only [lN.out,yN.out,HS.out,YN.out,hc,Ib.out,DI.out,if_true,if_false,Bool.false_eq_true];try rfl)
 | false =>
  have HS:Hid (aG (bs [41]) r2=false):=hs
  go_upto_region 4 with (go_at_call 68;(with_reducible refine (dX ⟨#[41]⟩ I4.out.bH hs).mono ?_);rintro e w5 ⟨rfl,r_,k_⟩;have I5:=ah (I4.out.aQ k_ r_ (Nat.le_refl _));have K5:=ah (K4.out.trans (fK k_));clear r_ k_)
  go_upto_region 5 with (go_at_call 142;(refine (Pv I5.out.bH).mono ?_);intro e w6 h_;rcases hu:namesT (some (bs [41])) en 9 [] r2 with e0|⟨ps,r5⟩;(obtain ⟨k_,rfl⟩:=h_.bad hu;have f_:dB N T en M (dY en (st1 lb) l) w (.panicked [{v:=bI e0,recovered:=false}]) _:=dB.thrown K5.out k_ (by unfold dY;simp only [lN.out,yN.out,HS.out,hu,if_true,if_false,Bool.false_eq_true]);exact ⟨rfl,f_⟩);(obtain ⟨k_,r_,pa,pc,rfl,aH⟩:=h_.ok hu;have BF:=ah hu;have LN:=ah (DC hu);have I6:=ah (I5.out.aQ k_ r_ LN.out.2);have I7:=ah (I5.out.YL k_ r_ LN.out.2 aH LN.out.1);have K6:=ah (K5.out.trans (fK k_));obtain ⟨v19,c19,f19⟩:=I6.out.slot 19 (by decide);clear k_ r_ h_ hu aH))
  have K7:=ah (K6.out.trans (eU (bP (w:=w6) (M:=M) (i:=19) (v:=.slice pa ps.length pc))))
  obtain ⟨w7,hw7⟩:∃w7,w7=w6.setCell ⟨M,19,none⟩ (.slice pa ps.length pc):=⟨_,rfl⟩
  rw [←hw7] at I7 K7
  rw [←hw7]
  clear hw7 c19 f19
  obtain ⟨nq,aq,cq,hq⟩:=I7.out.bH
  go_cut [57] (fun c wx=>c=.bool (iP r5)∧wx=w7)
  case first =>
   obtain ⟨c0,c1,cd,cf⟩:=hq.c0
   have hn:=hq.num
   rcases r5 with _|⟨t,_|⟨u,r9⟩⟩
   ·have z:decide ((1:Int)<(nq:Int))=false:=by rw [hn];rfl
    have z':decide (1<nq)=false:=by rw [hn];rfl
    clear hn hq cf
    go_wp2_with fail
    go_meet
    exact ⟨rfl,rfl⟩
   ·have z:decide ((1:Int)<(nq:Int))=false:=by rw [hn];rfl
    have z':decide (1<nq)=false:=by rw [hn];rfl
    clear hn hq cf
    go_wp2_with fail
    go_meet
    exact ⟨rfl,rfl⟩
   ·rw [List.length_cons,List.length_cons] at hn
    have h0:1<nq:=by omega
    have h1:(1:Int)<(nq:Int):=by omega
    have z:decide ((1:Int)<(nq:Int))=true:=ak h1
    have z':decide (1<nq)=true:=ak h0
    obtain ⟨o,rfl,t0,t1,t2⟩:=hq.head
    obtain ⟨u0,u1⟩:=hq.second
    clear hn hq cf
    by_cases hk1:u.kind=1
    ·have y:(u.kind==1)=true:=by simpa using hk1
     have fin:Hid (iP (t::u::r9)=true):=by show (decide (u.kind=1)||decide (u.kind=5∧u.text=bs [44]))=_;rw [ak hk1];rfl
     clear hk1
     go_wp2_with fail
     go_meet
     exact ⟨by rw [fin.out],rfl⟩
    ·have y:(u.kind==1)=false:=by simpa using hk1
     by_cases hk5:u.kind=5
     ·have y5:(u.kind==5)=true:=by simpa using hk5
      by_cases hx:u.text=bs [44]
      ·have y2:(u.text.toList==[44])=true:=by rw [H9,bW];exact ak hx
       have fin:Hid (iP (t::u::r9)=true):=by show (decide (u.kind=1)||decide (u.kind=5∧u.text=bs [44]))=_;rw [ak (p:=u.kind=5∧_) ⟨hk5,hx⟩,Bool.or_true]
       clear hk1 hk5 hx
       go_wp2_with fail
       go_meet
       exact ⟨by rw [fin.out],rfl⟩
      ·have y2:(u.text.toList==[44])=false:=by rw [H9,bW];exact au hx
       have fin:Hid (iP (t::u::r9)=false):=by show (decide (u.kind=1)||decide (u.kind=5∧u.text=bs [44]))=_;rw [au hk1,au (p:=u.kind=5∧_) (fun h=>hx h.2)];rfl
       clear hk1 hk5 hx
       go_wp2_with fail
       go_meet
       exact ⟨by rw [fin.out],rfl⟩
     ·have y5:(u.kind==5)=false:=by simpa using hk5
      have fin:Hid (iP (t::u::r9)=false):=by show (decide (u.kind=1)||decide (u.kind=5∧u.text=bs [44]))=_;rw [au hk1,au (p:=u.kind=5∧_) (fun h=>hk5 h.1)];rfl
      clear hk1 hk5
      go_wp2_with fail
      go_meet
      exact ⟨by rw [fin.out],rfl⟩
  case rest =>
   obtain ⟨rfl,rfl⟩:=hcut
   have HW:=ah hq
   clear hq
   cases hc:iP r5 with
   | false =>
    go_wp2_with (go_at_call 65;(refine (fB I7.out.bH).mono ?_);intro e Py h_;rcases hu:dL en r5 with e0|⟨DF,r4⟩;(obtain ⟨k_,rfl⟩:=h_.bad hu;have f_:dB N T en M (dY en (st1 lb) l) w (.panicked [{v:=bI e0,recovered:=false}]) _:=dB.thrown K7.out k_ (by unfold dY;simp only [lN.out,yN.out,HS.out,BF.out,hc,hu,if_true,if_false,Bool.false_eq_true]);exact ⟨rfl,f_⟩);(obtain ⟨k_,rfl,r_⟩:=h_.ok hu;have DI:=ah hu;have I30:=ah (I7.out.aQ k_ r_ (by have:=jQ hu;omega));have Pz:=ah (K7.out.trans (fK k_));obtain ⟨v18,c18,f18⟩:=I30.out.slot 18 (by decide);clear k_ r_ h_ hu))
    (first|go_end0|(refine bodyPost_ret (results_none rfl _ _ _) rfl ?_))
    exact dB.done (Pz.out.trans (eU (bP (w:=Py) (M:=M) (i:=18) (v:=.string DF)))) (I30.out.AV DF (by have:=iF DI.out;omega)) (by unfold dY;simp only [lN.out,yN.out,HS.out,BF.out,hc,DI.out,if_true,if_false,Bool.false_eq_true];try rfl)
   | true =>
    go_upto_region 7 with (go_at_call 142;(refine (EL I7.out.bH).mono ?_);intro e Ia h_;rcases hu:namesT none en 9 [] r5 with e0|⟨ls,r3⟩;(obtain ⟨k_,rfl⟩:=h_.bad hu;have f_:dB N T en M (dY en (st1 lb) l) w (.panicked [{v:=bI e0,recovered:=false}]) _:=dB.thrown K7.out k_ (by unfold dY;simp only [lN.out,yN.out,HS.out,BF.out,hc,hu,if_true,if_false,Bool.false_eq_true]);exact ⟨rfl,f_⟩);(obtain ⟨k_,r_,la,lc,rfl,aH⟩:=h_.ok hu;have Ib:=ah hu;have LN:=ah (DC hu);have I21:=ah (I7.out.aQ k_ r_ LN.out.2);have I22:=ah (I7.out.KO k_ r_ LN.out.2 aH LN.out.1);have zL:=ah (K7.out.trans (fK k_));obtain ⟨v20,c20,f20⟩:=I21.out.slot 20 (by decide);clear k_ r_ h_ hu aH))
    have K22:=ah (zL.out.trans (eU (bP (w:=Ia) (M:=M) (i:=20) (v:=.slice la ls.length lc))))
    obtain ⟨EP,Gf⟩:∃EP,EP=Ia.setCell ⟨M,20,none⟩ (.slice la ls.length lc):=⟨_,rfl⟩
    rw [←Gf] at I22 K22
    rw [←Gf]
    clear Gf c20 f20
    go_wp2_with (go_at_call 65;(refine (fB I22.out.bH).mono ?_);intro e Py h_;rcases hu:dL en r3 with e0|⟨DF,r4⟩;(obtain ⟨k_,rfl⟩:=h_.bad hu;have f_:dB N T en M (dY en (st1 lb) l) w (.panicked [{v:=bI e0,recovered:=false}]) _:=dB.thrown K22.out k_ (by unfold dY;simp only [lN.out,yN.out,HS.out,BF.out,hc,Ib.out,hu,if_true,if_false,Bool.false_eq_true]);exact ⟨rfl,f_⟩);(obtain ⟨k_,rfl,r_⟩:=h_.ok hu;have DI:=ah hu;have I30:=ah (I22.out.aQ k_ r_ (by have:=jQ hu;omega));have Pz:=ah (K22.out.trans (fK k_));obtain ⟨v18,c18,f18⟩:=I30.out.slot 18 (by decide);clear k_ r_ h_ hu))
    (first|go_end0|(refine bodyPost_ret (results_none rfl _ _ _) rfl ?_))
    exact dB.done (Pz.out.trans (eU (bP (w:=Py) (M:=M) (i:=18) (v:=.string DF)))) (I30.out.AV DF (by have:=iF DI.out;omega)) (by unfold dY;simp only [lN.out,yN.out,HS.out,BF.out,hc,Ib.out,DI.out,if_true,if_false,Bool.false_eq_true];try rfl)
end Go.Proofs.YtodebjhalipefaaGreatDoor
