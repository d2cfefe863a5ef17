/-  -/
import Derived.Test.YtgoijmpahffnhaaGreatDoorLc7
import Derived.Test.YtgoijmpahffnhaaGreatDoorLc17
import Derived.Test.YtgoijmpahffnhaaGreatDoorLc15
import Derived.Test.YtgoijmpahffnhaaGreatDoorWin
import Derived.Test.YtgoijmpahffnhaaGreatDoorShelf
import Derived.Test.YtgoijmpahffnhaaGreatDoorLc14
import Derived.BigRegion
import Derived.Test.YtgoijmpahffnhaaGreatDoorLc19
import Derived.Test.YtgoijmpahffnhaaGreatDoorLy1
import Derived.Test.YtgoijmpahffnhaaGreatDoorLc16
namespace Go.Proofs.YtgoijmpahffnhaaGreatDoor
set_option linter.all false
open Go.RowKit
structure dQ where
 N:Nat
 M:Nat
 O:Nat
 W:Nat
 R:Nat
 V:Nat
 I:Nat
 Ru:Nat
 H:Nat
 l:List aG
 al:Option Addr
 cl:Nat
 S:Nat→Prop
 T:Nat
 B1:Nat
 B2:Nat
 n1:Nat
 lim:Nat
 G:World→Prop
structure aas (F:dQ):Prop where
 nO:F.N≤F.O∧F.O<F.M
 nW:F.N≤F.W∧F.W<F.M
 nR:F.N≤F.R∧F.R<F.M
 nV:F.N≤F.V∧F.V<F.M
 nI:F.N≤F.I∧F.I<F.M
 nH:F.N≤F.H∧F.H<F.M
 ne:F.O≠F.W∧F.O≠F.R∧F.O≠F.V∧F.O≠F.I∧F.O≠F.H∧F.W≠F.R∧F.W≠F.V∧F.W≠F.I∧F.W≠F.H∧F.R≠F.V∧F.R≠F.I∧F.R≠F.H∧F.V≠F.I∧F.V≠F.H∧F.I≠F.H
structure SH (F:dQ) (w:World):Prop where
 low:F.N≤w.heap.size
 prog:oU w F.S F.al F.l
 hS:∀b,F.S b→b<F.N
 tab:rD w F.T F.B1 F.B2
 l9:fJ w F.B1 F.n1 (lF F.l)
 tl:F.T<F.N∧F.B1<F.N
 g:F.G w
 gk:∀w w',Kept (fun b=>F.N≤b) w w'→F.G w→F.G w'
theorem SH.kept {F:dQ} {w w':World} {X:Nat→Prop} (h:SH F w) (hk:Kept X w w') (hx:∀b,X b→F.N≤b):SH F w' :=
 ⟨Nat.le_trans h.low hk.size,h.prog.to hk (fun b hb=>⟨Nat.lt_of_lt_of_le (h.hS b hb) h.low,fun hb2=>by have:=hx b hb2;have:=h.hS b hb;omega⟩) (fun _ h=>h),h.hS,
  h.tab.kept hk (fun hb=>by have:=hx _ hb;have:=h.tl;omega),h.l9.kept hk (fun hb=>by have:=hx _ hb;have:=h.tl;omega),h.tl,h.gk _ _ (hk.more hx) h.g,h.gk⟩
def RX (F:dQ) (ov:Value) (b:Nat):Prop:=b=F.O∨b=F.W∨b=F.V∨b=F.I∨b=F.H∨ov.ownBlock=some b
def QE (w:World) (B:Nat) (l:List ((aj×aj)×aj)):Prop:=l=[]∧w.heap[B]?=some (.map #[] 0)
theorem QE.lt {w:World} {B:Nat} {l:List ((aj×aj)×aj)} (h:QE w B l):B<w.heap.size:=(Array.getElem?_eq_some_iff.1 h.2).1
theorem QE.kept {w w':World} {B:Nat} {l:List ((aj×aj)×aj)} {X:Nat→Prop} (h:QE w B l) (hk:Kept X w w') (hx:¬X B):QE w' B l :=
 ⟨h.1,(hk.block B h.lt hx).trans h.2⟩
def FD (F:dQ) (ov:Value) (S:aY) (a:Option Addr) (c:Nat):List Value:=[.map (some F.V),.map (some F.I),.int .i64 S.bytes,.int .i64 S.told,ov,.slice a S.input.length c,.int .i64 S.how]
def FH (F:dQ) (S:aY):List Value:=[.pointer (some ⟨F.O,0,none⟩),.map (some F.Ru),.int .i64 S.steps,.int .i64 F.lim,.slice (some ⟨F.H,0,none⟩) F.l.length F.l.length]
def agz (F:dQ):List Value:=[.pointer (some ⟨F.W,0,none⟩),.slice F.al F.l.length F.cl,.pointer (some ⟨F.T,0,none⟩),.int .i64 0]
structure bg (F:dQ) (ov:Value) (S:aY) (w:World):Prop where
 ql:SH F w
 fix:aas F
 sz:F.M≤w.heap.size
 run:dO F.R 70 (agz F) w
 CP:dO F.W 90 (FH F S) w
 hits:∃hs:List Int,hs.length=F.l.length∧dO F.H 3 (hs.map (Value.int .i64)) w
 CQ:∃a c,dO F.O 97 (FD F ov S a c) w∧bU w (· < F.N) a S.input∧S.input.length≤c
 out:aS w F.M 9 1 ov S.output.length (S.output.map Value.string)
 vars:jI w F.V S.vars none
 items:QE w F.I S.items
section
variable {F:dQ} {ov:Value} {S:aY} {w w':World}
theorem bg.xlt (h:bg F ov S w) {b:Nat} (hb:RX F ov b):F.N≤b∧b<w.heap.size:=by
 have:=h.fix.nO;have:=h.fix.nW;have:=h.fix.nV;have:=h.fix.nI;have:=h.fix.nH;have:=h.sz
 rcases hb with rfl|rfl|rfl|rfl|rfl|hb
 ·omega
 ·omega
 ·omega
 ·omega
 ·omega
 ·have:=h.out.lt b hb;omega
theorem tJ {w w':World} {X:Nat→Prop} {N:Nat} {a:Option Addr} {l:List aj} (h:bU w (· < N) a l) (hk:Kept X w w') (hl:N≤w.heap.size) (hx:∀b,X b→N≤b):bU w' (· < N) a l :=
 h.to hk (fun b hb=>⟨Nat.lt_of_lt_of_le hb hl,fun h=>by have:=hx b h;omega⟩) (fun _ h=>h)
theorem bg.kept {Y:Nat→Prop} (h:bg F ov S w) (hk:Kept Y w w') (hY:∀b,Y b→F.N≤b∧b≠F.R∧¬RX F ov b):bg F ov S w':=by
 have nx:∀b,RX F ov b→¬Y b:=fun b hb hy=>(hY b hy).2.2 hb
 obtain ⟨hs,h1,h2⟩:=h.hits
 obtain ⟨a,c,h3,h4,h5⟩:=h.CQ
 exact ⟨h.ql.kept hk (fun b hb=>(hY b hb).1),h.fix,Nat.le_trans h.sz hk.size,h.run.kept hk (fun hb=>(hY _ hb).2.1 rfl),h.CP.kept hk (nx _ (.inr (.inl rfl))),
  ⟨hs,h1,h2.kept hk (nx _ (.inr (.inr (.inr (.inr (.inl rfl))))))⟩,⟨a,c,h3.kept hk (nx _ (.inl rfl)),tJ h4 hk h.ql.low (fun b hb=>(hY b hb).1),h5⟩,
  h.out.kept hk (fun b hb=>nx _ (.inr (.inr (.inr (.inr (.inr hb)))))),h.vars.kept hk (nx _ (.inr (.inr (.inl rfl)))),h.items.kept hk (nx _ (.inr (.inr (.inr (.inl rfl)))))⟩
theorem bg.quiet (h:bg F ov S w) (hk:Kept aB w w'):bg F ov S w':=h.kept hk fun _ h=>h.elim
structure bI (F:dQ) (ov:Value) (w:World) (rQ:Value) (S':aY) (w':World):Prop where
 at_:bg F rQ S' w'
 kept:Kept (RX F ov) w w'
 grow:∀b,RX F rQ b→RX F ov b∨w.heap.size≤b
theorem bI.refl (h:bg F ov S w):bI F ov w ov S w:=⟨h,Kept.refl _ _,fun _ h=>.inl h⟩
theorem bI.trans {fE nU:Value} {S1 S2:aY} {w1 w2:World} (h:bI F ov w fE S1 w1) (k:bI F fE w1 nU S2 w2):bI F ov w nU S2 w2 :=
 ⟨k.at_,h.kept.step k.kept h.grow,fun b hb=>(k.grow b hb).elim (h.grow b) (fun h2=>.inr (Nat.le_trans h.kept.size h2))⟩
theorem bI.after {fE:Value} {S1:aY} {w0 w1:World} (k0:Kept aB w0 w) (h:bI F ov w fE S1 w1):bI F ov w0 fE S1 w1 :=
 ⟨h.at_,(k0.more (fun _ h=>h.elim)).trans h.kept,fun b hb=>(h.grow b hb).imp id (fun h2=>Nat.le_trans k0.size h2)⟩
theorem bI.quiet {fE:Value} {S1:aY} {w1 w2:World} (h:bI F ov w fE S1 w1) (k:Kept aB w1 w2):bI F ov w fE S1 w2 :=
 ⟨h.at_.quiet k,h.kept.quiet k,h.grow⟩
theorem bI.local {fE:Value} {S1:aY} {w1 w2:World} {Y:Nat→Prop} (h:bI F ov w fE S1 w1) (k:Kept Y w1 w2) (hw:bg F ov S w) (hY:∀b,Y b→w.heap.size≤b∧¬RX F fE b):bI F ov w fE S1 w2 :=
 ⟨h.at_.kept k (fun b hb=>⟨Nat.le_trans hw.ql.low (hY b hb).1,fun e=>by have:=hw.run.lt;have:=(hY b hb).1;omega,(hY b hb).2⟩),h.kept.step k (fun b hb=>.inr (hY b hb).1),h.grow⟩
theorem bI.mine {fE:Value} {S1:aY} {w1:World} (h:bI F ov w fE S1 w1) {b:Nat} (hb:b<w.heap.size) (hx:¬RX F ov b):¬RX F fE b:=fun hc=>(h.grow b hc).elim hx (fun h2=>by omega)
theorem bg.mine (h:bg F ov S w) {b:Nat} (hb:w.heap.size≤b):¬RX F ov b:=fun hc=>by have:=(h.xlt hc).2;omega
theorem bg.SI {i:Nat} {v:Value} {S':aY} {a':Option Addr} {c':Nat} (h:bg F ov S w) (ho:∃a c,(dO F.O 97 (FD F ov S a c) w∧bU w (· < F.N) a S.input∧S.input.length≤c)∧(FD F ov S a c).set i v=FD F ov S' a' c')
  (hin:bU w (· < F.N) a' S'.input) (hc:S'.input.length≤c') (e1:S'.steps=S.steps) (e2:S'.output=S.output) (e3:S'.vars=S.vars) (e4:S'.items=S.items) :
  bI F ov w ov S' (w.setCell ⟨F.O,i,none⟩ v):=by
 have k:Kept (· = F.O) w (w.setCell ⟨F.O,i,none⟩ v):=(Kept.refl (· = F.O) w).setCell (p:=⟨F.O,i,none⟩) (.inl rfl) _
 obtain ⟨n1,n2,n3,n4,n5,-⟩:=h.fix.ne
 obtain ⟨hs,h1,h2⟩:=h.hits
 obtain ⟨a,c,⟨h3,h4,h5⟩,hset⟩:=ho
 have hO:F.N≤F.O:=h.fix.nO.1
 have hw:FH F S'=FH F S:=by unfold FH;rw [e1]
 refine ⟨⟨h.ql.kept k (fun b hb=>by have:b=F.O:=hb;omega),h.fix,Nat.le_trans h.sz k.size,h.run.kept k (fun e=>n2 e.symm),by rw [hw];exact h.CP.kept k (fun e=>n1 e.symm),
  ⟨hs,h1,h2.kept k (fun e=>n5 e.symm)⟩,⟨a',c',by rw [←hset];exact h3.set i v,tJ hin k h.ql.low (fun b hb=>by have:b=F.O:=hb;omega),hc⟩,
  ?_,by rw [e3];exact h.vars.kept k (fun e=>n3 e.symm),by rw [e4];exact h.items.kept k (fun e=>n4 e.symm)⟩,k.more (fun _ h=>.inl h),fun _ h=>.inl h⟩
 rw [e2]
 exact h.out.kept k (fun b hb e=>by have e:b=F.O:=e;have:=h.out.lt b hb;have:=h.fix.nO;omega)
theorem bg.Gu (h:bg F ov S w) (n:Int):bI F ov w ov {S with how:=n} (w.setCell ⟨F.O,6,none⟩ (.int .i64 n)):=by
 obtain ⟨a,c,h3,h4,h5⟩:=h.CQ
 exact h.SI (S':={S with how:=n}) ⟨a,c,⟨h3,h4,h5⟩,rfl⟩ h4 h5 rfl rfl rfl rfl
theorem bg.setBytes (h:bg F ov S w) (n:Nat):bI F ov w ov {S with bytes:=n} (w.setCell ⟨F.O,2,none⟩ (.int .i64 n)):=by
 obtain ⟨a,c,h3,h4,h5⟩:=h.CQ
 exact h.SI (S':={S with bytes:=n}) ⟨a,c,⟨h3,h4,h5⟩,rfl⟩ h4 h5 rfl rfl rfl rfl
theorem bg.abl (h:bg F ov S w) (n:Nat):bI F ov w ov {S with told:=n} (w.setCell ⟨F.O,3,none⟩ (.int .i64 n)):=by
 obtain ⟨a,c,h3,h4,h5⟩:=h.CQ
 exact h.SI (S':={S with told:=n}) ⟨a,c,⟨h3,h4,h5⟩,rfl⟩ h4 h5 rfl rfl rfl rfl
theorem bg.mX (h:bg F ov S w):∃a c,w.cell? ⟨F.O,0,none⟩=some (.map (some F.V))∧w.cell? ⟨F.O,1,none⟩=some (.map (some F.I))∧w.cell? ⟨F.O,2,none⟩=some (.int .i64 S.bytes)∧w.cell? ⟨F.O,3,none⟩=some (.int .i64 S.told)∧w.cell? ⟨F.O,4,none⟩=some ov∧
  w.cell? ⟨F.O,5,none⟩=some (.slice a S.input.length c)∧w.cell? ⟨F.O,6,none⟩=some (.int .i64 S.how)∧(∀i,w.frozen? ⟨F.O,i,none⟩=false)∧bU w (· < F.N) a S.input∧S.input.length≤c:=by
 obtain ⟨a,c,h3,h4,h5⟩:=h.CQ
 exact ⟨a,c,h3.cell rfl,h3.cell rfl,h3.cell rfl,h3.cell rfl,h3.cell rfl,h3.cell rfl,h3.cell rfl,fun i=>h3.free i,h4,h5⟩
theorem bg.qE (h:bg F ov S w):w.cell? ⟨F.W,0,none⟩=some (.pointer (some ⟨F.O,0,none⟩))∧w.cell? ⟨F.W,2,none⟩=some (.int .i64 S.steps)∧w.cell? ⟨F.W,3,none⟩=some (.int .i64 F.lim)∧w.cell? ⟨F.W,4,none⟩=some (.slice (some ⟨F.H,0,none⟩) F.l.length F.l.length)∧∀i,w.frozen? ⟨F.W,i,none⟩=false :=
 ⟨h.CP.cell rfl,h.CP.cell rfl,h.CP.cell rfl,h.CP.cell rfl,fun i=>h.CP.free i⟩
theorem bg.xZ (h:bg F ov S w):w.cell? ⟨F.R,0,none⟩=some (.pointer (some ⟨F.W,0,none⟩))∧w.cell? ⟨F.R,1,none⟩=some (.slice F.al F.l.length F.cl)∧w.cell? ⟨F.R,2,none⟩=some (.pointer (some ⟨F.T,0,none⟩))∧w.cell? ⟨F.R,3,none⟩=some (.int .i64 0) :=
 ⟨h.run.cell rfl,h.run.cell rfl,h.run.cell rfl,h.run.cell rfl⟩
def MS (F:dQ) (ov:Value) (w:World) (r:(aj×Bool)×aY) (e:Ending) (w':World):Prop:=e=.returned (.tuple #[.string r.1.1,.bool r.1.2])∧∃rQ,bI F ov w rQ r.2 w'
def x8 (F:dQ) (ov:Value) (w:World) (r:Bool×aY) (e:Ending) (w':World):Prop:=e=.returned (.bool r.1)∧∃rQ,bI F ov w rQ r.2 w'
end
end Go.Proofs.YtgoijmpahffnhaaGreatDoor

namespace Go.Proofs.YtgoijmpahffnhaaGreatDoor
set_option linter.all false
open Go.RowKit
set_option maxRecDepth 100000
set_option maxHeartbeats 1000000
theorem yO {s:aj} {l:List UInt8} (h:s=IK l):(s.toList==l)=true:=by rw [Fh.1 h];simp
theorem yP {s:aj} {l:List UInt8} (h:s≠IK l):(s.toList==l)=false:=by
 have:s.toList≠l:=fun e=>h (Fh.2 e)
 simpa using this
theorem SY {F:dQ} {ov:Value} {S:aY} {w:World} (h:bg F ov S w) {t:aj} {r:List aj} (hr:S.input=t::r) :
  ∃b o c,w.cell? ⟨F.O,5,none⟩=some (.slice (some ⟨b,o,none⟩) (r.length+1:Nat) c)∧w.cell? ⟨b,o,none⟩=some (.string t)∧r.length+1≤c∧∀o' c',(o'=o+1∨r.length=0)→r.length≤c'→bI F ov w ov {S with input:=r} (w.setCell ⟨F.O,5,none⟩ (.slice (some ⟨b,o',none⟩) r.length c')):=by
 obtain ⟨a,c,h3,h4,h5⟩:=h.CQ
 have h4':=h4
 rw [hr] at h4 h5
 obtain ⟨b,o,rfl,hb,hc⟩:=h4 (by simp)
 have h0:=hc 0 (by simp)
 refine ⟨b,o,c,by rw [h3.cell (i:=5) rfl,hr];rfl,h0,by simpa using h5,fun o' c' ho hc'=>?_⟩
 refine h.SI (S':={S with input:=r}) (a':=some ⟨b,o',none⟩) (c':=c') ⟨_,c,⟨h3,h4',by rw [hr];exact h5⟩,rfl⟩ ?_ hc' rfl rfl rfl rfl
 intro hp
 have hp:0<r.length:=hp
 obtain rfl:o'=o+1:=ho.resolve_right (by omega)
 refine ⟨b,o+1,rfl,hb,fun i hi=>?_⟩
 have:=hc (i+1) (by simpa using hi)
 rw [show o+1+i=o+(i+1) by omega];exact this
theorem get_any (F:dQ) (ov:Value) (S:aY) (n:aj) (w:World) (h:bg F ov S w) (hn:n.size≤1000000000) :
  Calls Tryz.prog 111 #[.pointer (some ⟨F.O,0,none⟩),.string n] w (MS F ov w (jH S n)):=by
 obtain ⟨a,c,q0,_,_,_,_,q5,_,qf,_,_⟩:=h.mX
 have f5:=qf 5
 by_cases h1:n=jV
 ·have e1:(n.toList==[79,85,84,80,85,84])=true:=yO h1
  have fin:Hid (jH S n=((⟨#[]⟩,true),S)):=if_pos h1
  have H:=ah h
  clear h h1
  go_enter Tryz.func111, Tryz.ntmps111
  go_wp2_with fail
  go_ret2
  exact ⟨by rw [fin.out];rfl,ov,by rw [fin.out];exact bI.refl H.out⟩
 have e1:(n.toList==[79,85,84,80,85,84])=false:=yP h1
 by_cases h2:n=qG
 ·have e2:(n.toList==[73,78,80,85,84])=true:=yO h2
  cases hi:S.input with
  | nil =>
   have fin:Hid (jH S n=((⟨#[]⟩,false),S)):=by unfold Hid jH;rw [if_neg h1,if_pos h2,hi]
   have H:=ah h
   rw [hi] at q5
   clear h h1 h2 hi
   go_enter Tryz.func111, Tryz.ntmps111
   go_wp2_with fail
   go_ret2
   exact ⟨by rw [fin.out];rfl,ov,by rw [fin.out];exact bI.refl H.out⟩
  | cons t r =>
   have fin:Hid (jH S n=((t,true),{S with input:=r})):=by unfold Hid jH;rw [if_neg h1,if_pos h2,hi]
   obtain ⟨b,o,c',k5,kt,hc,hr⟩:=SY h hi
   by_cases hc1:c'=1
   ·subst hc1
    have hr0:=hr o 0 (.inr (by omega)) (by omega)
    rw [show r.length=0 by omega] at hr0
    have HR:=ah hr0
    clear hr0
    clear h h1 h2 hi q5 hr
    go_enter Tryz.func111, Tryz.ntmps111
    go_wp2_with fail
    go_ret2
    exact ⟨by rw [fin.out];rfl,ov,by rw [fin.out];exact HR.out⟩
   ·have HR:=ah (hr (o+1) (c'-1) (.inl rfl) (by omega))
    have hc2:¬c'-1=0:=by omega
    clear h h1 h2 hi q5 hr
    go_enter Tryz.func111, Tryz.ntmps111
    go_wp2_with fail
    go_ret2
    exact ⟨by rw [fin.out];rfl,ov,by rw [fin.out];exact HR.out⟩
 have e2:(n.toList==[73,78,80,85,84])=false:=yP h2
 have fin:Hid (jH S n=((lookA S.vars n,true),S)):=by unfold Hid jH;rw [if_neg h1,if_neg h2]
 have hl:=h.vars.look n (by unfold maxLen;omega)
 have H:=ah h
 clear h h1 h2
 go_enter Tryz.func111, Tryz.ntmps111
 go_wp2_with fail
 go_ret2
 exact ⟨by rw [fin.out];rfl,ov,by rw [fin.out];exact bI.refl H.out⟩
theorem YK (F:dQ) (ov:Value) (S:aY) (more:Int) (w:World) (h:bg F ov S w) (hb:S.bytes≤1048576) (hm : -65536≤more∧more≤1000000000) (h0:0≤(S.bytes:Int)+more) :
  Calls Tryz.prog 171 #[.pointer (some ⟨F.O,0,none⟩),.int .i64 more] w (x8 F ov w (if 1048576<(S.bytes:Int)+more then (false,{S with how:=3}) else (true,{S with bytes:=((S.bytes:Int)+more).toNat}))):=by
 obtain ⟨a,c,_,_,q2,_,_,_,q6,qf,_,_⟩:=h.mX
 have f2:=qf 2
 have f6:=qf 6
 by_cases hc:1048576<(S.bytes:Int)+more
 ·have H3:=ah (h.Gu 3)
  rw [if_pos hc]
  have e1:decide (1048576<(S.bytes:Int)+more)=true:=ak hc
  clear h
  go_enter Tryz.func171, Tryz.ntmps171
  go_wp2_with fail
  go_ret
  exact ⟨rfl,ov,H3.out⟩
 ·have H3:=h.setBytes ((S.bytes:Int)+more).toNat
  rw [Int.toNat_of_nonneg h0] at H3
  have H3:=ah H3
  rw [if_neg hc]
  have e1:decide (1048576<(S.bytes:Int)+more)=false:=au hc
  clear h
  go_enter Tryz.func171, Tryz.ntmps171
  go_wp2_with fail
  go_ret
  exact ⟨rfl,ov,H3.out⟩
end Go.Proofs.YtgoijmpahffnhaaGreatDoor

namespace Go.Proofs.YtgoijmpahffnhaaGreatDoor
set_option linter.all false
open Go.RowKit
set_option maxRecDepth 100000
set_option maxHeartbeats 2000000
theorem YL {F:dQ} {ov:Value} {S:aY} {w wb w2:World} {t:aj} {a:Option Addr} {c:Nat} (h:bg F ov S w) (hwb:Kept aB w wb)
  (hW:aS w2 F.M 9 1 (.slice a (S.output.length+1) c) (S.output.length+1) (S.output.map Value.string++[.string t])) (hg:wb.grownBy w2 ov.ownBlock)
  (ho:(Value.slice a (S.output.length+1) c).ownBlock=ov.ownBlock∨(Value.slice a (S.output.length+1) c).ownBlock=some wb.heap.size) :
  bI F ov w (.slice a (S.output.length+1) c) {S with output:=S.output++[t]} (w2.setCell ⟨F.O,4,none⟩ (.slice a (S.output.length+1) c)):=by
 generalize (Value.slice a (S.output.length+1) c)=rQ at *
 have hO:=h.fix.nO
 have hsz:=hwb.size
 have kg:Kept (fun b=>ov.ownBlock=some b) w w2:=(hwb.more (fun _ h=>h.elim)).trans ((Kept.refl _ wb).grown hg fun k hk=>.inl hk)
 have hlow:∀b,ov.ownBlock=some b→F.M≤b:=fun b hb=>(h.out.lt b hb).1
 have hlow':∀b,rQ.ownBlock=some b→F.M≤b:=fun b hb=>(hW.lt b hb).1
 have kO:Kept (· = F.O) w2 (w2.setCell ⟨F.O,4,none⟩ rQ):=(Kept.refl (· = F.O) w2).setCell (p:=⟨F.O,4,none⟩) (.inl rfl) _
 have k:Kept (fun b=>b=F.O∨ov.ownBlock=some b) w (w2.setCell ⟨F.O,4,none⟩ rQ):=(kg.more fun _ h=>.inr h).trans (kO.more fun _ h=>.inl h)
 have nx:∀b,b<F.M→b≠F.O→¬(b=F.O∨ov.ownBlock=some b):=fun b h1 h2 h3=>h3.elim h2 (fun h4=>by have:=hlow b h4;omega)
 have nN:∀b,(b=F.O∨ov.ownBlock=some b)→F.N≤b:=fun b hb=>hb.elim (fun e=>by omega) (fun e=>by have:=hlow b e;omega)
 obtain ⟨hs,h1,h2⟩:=h.hits
 obtain ⟨a1,c1,h3,h4,h5⟩:=h.CQ
 obtain ⟨n1,n2,n3,n4,n5,-⟩:=h.fix.ne
 have hbo:dO F.O 97 (FD F ov S a1 c1) w2:=h3.kept kg (fun e=>by have:=hlow _ e;omega)
 refine ⟨⟨h.ql.kept k nN,h.fix,Nat.le_trans h.sz k.size,h.run.kept k (nx _ h.fix.nR.2 (fun e=>n2 e.symm)),h.CP.kept k (nx _ h.fix.nW.2 (fun e=>n1 e.symm)),
  ⟨hs,h1,h2.kept k (nx _ h.fix.nH.2 (fun e=>n5 e.symm))⟩,⟨a1,c1,hbo.set 4 rQ,tJ h4 k h.ql.low nN,h5⟩,?_,h.vars.kept k (nx _ h.fix.nV.2 (fun e=>n3 e.symm)),h.items.kept k (nx _ h.fix.nI.2 (fun e=>n4 e.symm))⟩,
  k.more (fun b hb=>hb.elim (fun e=>.inl e) (fun e=>.inr (.inr (.inr (.inr (.inr e)))))),fun b hb=>?_⟩
 ·have e:(S.output++[t]).length=S.output.length+1:=by simp
  have e2:(S.output++[t]).map Value.string=S.output.map Value.string++[.string t]:=by simp
  show aS _ _ _ _ _ (S.output++[t]).length ((S.output++[t]).map Value.string)
  rw [e,e2]
  exact hW.setCell (fun e=>by have:=hlow' _ e;have:F.M≤F.O:=this;omega) _
 ·rcases hb with hb|hb|hb|hb|hb|hb
  ·exact .inl (.inl hb)
  ·exact .inl (.inr (.inl hb))
  ·exact .inl (.inr (.inr (.inl hb)))
  ·exact .inl (.inr (.inr (.inr (.inl hb))))
  ·exact .inl (.inr (.inr (.inr (.inr (.inl hb)))))
  ·rcases ho with ho|ho
   ·exact .inl (.inr (.inr (.inr (.inr (.inr (by rw [←ho];exact hb))))))
   ·rw [ho] at hb;cases hb;exact .inr hsz
theorem YM (F:dQ) (ov:Value) (S:aY) (t:aj) (w:World) (h:bg F ov S w) (hk:S.told≤1048576) (hl:S.output.length≤1048576) (ht:t.size≤65536) :
  Calls Tryz.prog 170 #[.pointer (some ⟨F.O,0,none⟩),.string t] w (x8 F ov w (xF S t)):=by
 obtain ⟨i0,hi0,hz0,hz1,hz2⟩:=info_parts zO
 obtain ⟨a,c,_,_,_,q3,q4,_,q6,qf,_,_⟩:=h.mX
 have f3:=qf 3
 have f6:=qf 6
 by_cases hc:1048576<S.told+t.size+1
 ·have H3:=ah (h.Gu 3)
  unfold xF
  rw [if_pos hc]
  have e1:decide (1048576<(S.told:Int)+(t.size:Int)+1)=true:=ak (by omega)
  clear h hc
  go_enter Tryz.func170, Tryz.ntmps170
  go_wp2_with fail
  go_ret
  exact ⟨rfl,ov,H3.out⟩
 ·have R1:=h.abl (S.told+(t.size+1))
  unfold xF
  rw [if_neg hc]
  have e1:decide (1048576<(S.told:Int)+(t.size:Int)+1)=false:=au (by omega)
  have H1:=R1.at_
  rw [show ((S.told+(t.size+1):Nat):Int)=(S.told:Int)+((t.size:Int)+1) by omega] at R1 H1
  obtain ⟨w1,hw1⟩:∃w1,w1=w.setCell ⟨F.O,3,none⟩ (.int .i64 ((S.told:Int)+((t.size:Int)+1))):=⟨_,rfl⟩
  rw [←hw1] at R1 H1
  obtain ⟨a0,c0,hov⟩:=H1.out.shape
  subst hov
  have FN:Hid (∀{wb w2:World} {a:Option Addr} {c:Nat},Kept aB w1 wb→aS w2 F.M 9 1 (.slice a (S.output.length+1) c) (S.output.length+1) (S.output.map Value.string++[.string t])→wb.grownBy w2 (Value.slice a0 S.output.length c0).ownBlock→
   ((Value.slice a (S.output.length+1) c).ownBlock=(Value.slice a0 S.output.length c0).ownBlock∨(Value.slice a (S.output.length+1) c).ownBlock=some wb.heap.size)→_):=fun hwb hW hg ho=>R1.trans (YL H1 hwb hW hg ho)
  obtain ⟨a2,c2,_,_,_,_,g4,_,_,gf,_,_⟩:=H1.mX
  have g4f:=gf 4
  have WO:Hid (∀wb,Kept aB w1 wb→aS wb F.M 9 1 (.slice a0 S.output.length c0) S.output.length (S.output.map Value.string)):=fun wb hk=>H1.out.kept hk (fun _ _ h=>h)
  have FZ:Hid (∀wb w',Kept aB w1 wb→wb.grownBy w' (Value.slice a0 S.output.length c0).ownBlock→w'.cell? ⟨F.O,4,none⟩=some (.slice a0 S.output.length c0)∧w'.frozen? ⟨F.O,4,none⟩=false):=fun wb w' hk hg=>by
   obtain ⟨a3,c3,hb,_⟩:=(H1.quiet hk).CQ
   have hne:(Value.slice a0 S.output.length c0).ownBlock≠some F.O:=fun e=>by have:=(H1.out.lt _ e).1;have:=H1.fix.nO;omega
   have hb2:dO F.O 97 _ w':=hb.kept ((Kept.refl (fun b=>(Value.slice a0 S.output.length c0).ownBlock=some b) wb).grown hg fun k hk=>.inl hk) (fun e=>hne e)
   exact ⟨hb2.cell rfl,hb2.free 4⟩
  have HM:=ah H1.sz
  have HL:=ah hl
  have HW1:=ah hw1
  clear h hc R1 H1 hl hw1
  go_enter Tryz.func170, Tryz.ntmps170
  go_upto_region 5 with fail
  rw [←HW1.out]
  clear HW1 q3 f3 q4 q6 f6 qf
  go_wp2_with (at_builtin;go_loud (refine dK _ rfl (.tmp 31) (.tmp 33) 22 22 rfl F.M 9 i0 (.string ⟨#[]⟩) 1 16 Tryz.underlying22 hi0 hz0 hz1 hz2 rfl (.slice a0 S.output.length c0) S.output.length (S.output.map Value.string) rfl (WO.out _ (by repeat (first|exact Kept.refl aB _|refine Kept.drew ?_|refine Kept.alloc ?_ _))) _ 1 [.string t] rfl (IL Tryz.underlying22 1 rfl (ay _ _) (by intro u hu;simp at hu;rcases hu with rfl;rfl)) (by have:=HL.out;unfold maxLen;omega) (by have:=HL.out;omega) (by have:=HM.out;simp;omega) ?_);intro a4 c4 w4 Eu hg4 Gw;obtain ⟨d5,df⟩:=FZ.out _ _ (by repeat (first|exact Kept.refl aB _|refine Kept.drew ?_|refine Kept.alloc ?_ _)) hg4;have RES:=ah (FN.out (by repeat (first|exact Kept.refl aB _|refine Kept.drew ?_|refine Kept.alloc ?_ _)) Eu hg4 Gw);clear Eu hg4 Gw)
  go_ret
  exact ⟨rfl,_,RES.out⟩
end Go.Proofs.YtgoijmpahffnhaaGreatDoor

namespace Go.Proofs.YtgoijmpahffnhaaGreatDoor
set_option linter.all false
open Go.RowKit
section
variable {P:Program} {Q:Exit→Act→World→Prop}
theorem Aq {J:(Nat→Bool)→(Nat→Value)→World→Prop} {X:Nat→Prop} {l:Nat→Bool} {i:Nat} {o:Oper} {x:Act} {w:World} {f:FuncId} {args:Array Value} {R:Nat→Value→World→Prop} (hr:(execOp x.eval o).run P w=.ok (.enter f args) w)
  (hc:Calls P f args w fun e w'=>∃v,e=.returned v∧R i v w'∧Kept X w w'∧∀l',(∀j,l' j=true↔j=i∨l j=true)→J l' (fun t=>(x.put o.dst v).tmps.getD t undef) w') :
  o.wp P x w (fun a' w'=>∃v,a'=x.put o.dst v∧(∀d,o.dst=some d→R i v w')∧Kept X w w'∧∀l',(∀j,l' j=true↔j=i∨l j=true)→J l' (fun t=>(x.put o.dst v).tmps.getD t undef) w') Q:=by
 unfold Oper.wp
 rw [hr]
 refine Calls.mono hc ?_
 rintro e w' ⟨v,rfl,hs,hk,hj⟩
 exact ⟨v,rfl,fun _ _=>hs,hk,hj⟩
end
def Jf (w:World) (u pv qv:Value):Prop:=∃g,u=.slice (some ⟨g,0,none⟩) 2 2∧g<w.heap.size∧w.cell? ⟨g,0,none⟩=some pv∧w.cell? ⟨g,1,none⟩=some qv
def Jg (w:World) (u:Value) (x:aj):Prop:=∃g,u=.slice (some ⟨g,0,none⟩) 1 1∧g<w.heap.size∧w.heap[g]?=some (.cells #[.string x] 9 (0,0))
theorem Jf.kept {w w':World} {u pv qv:Value} (h:Jf w u pv qv) (hk:Kept aB w w'):Jf w' u pv qv:=by
 obtain ⟨g,h1,h2,h3,h4⟩:=h
 exact ⟨g,h1,Nat.lt_of_lt_of_le h2 hk.size,(hk.cell h2 (fun h=>h)).trans h3,(hk.cell h2 (fun h=>h)).trans h4⟩
theorem Jg.kept {w w':World} {u:Value} {x:aj} (h:Jg w u x) (hk:Kept aB w w'):Jg w' u x:=by
 obtain ⟨g,h1,h2,h3⟩:=h
 exact ⟨g,h1,Nat.lt_of_lt_of_le h2 hk.size,(hk.block g h2 (fun h=>h)).trans h3⟩
theorem Ch.kept {w w':World} {B n:Nat} {xs:List Value} {u:Value} (h:Ch w B n xs u) (hk:Kept aB w w'):Ch w' B n xs u:=by
 obtain ⟨a,c,rfl,hw⟩:=h
 exact ⟨a,c,rfl,hw.kept hk (fun _ _ h=>h)⟩
theorem Ch.mono {w:World} {B B' n:Nat} {xs:List Value} {u:Value} (h:Ch w B n xs u) (hB:B'≤B):Ch w B' n xs u:=by
 obtain ⟨a,c,rfl,hw⟩:=h
 exact ⟨a,c,rfl,hw.mono hB⟩
structure rH (B n:Nat) (xs ys:List Value) (pv qv:Value) (e:aj) (b4 b5 b8 b9 b10:Bool) (C9 Dc Df vJ u13:Value) (w:World):Prop where
 base:B≤w.heap.size
 two:b9=false→b4=true→Jf w C9 pv qv
 ch:b9=false→b5=true→Ch w B n xs Dc
 one:b9=false→b8=true→Jg w Df e
 fin:b9=true→Ch w B (n+1) ys vJ
 set:b10=true→u13=vJ
section
variable {B n:Nat} {xs ys:List Value} {pv qv:Value} {e:aj} {b4 b5 b8 b9 b10:Bool} {C9 Dc Df vJ u13:Value} {w w':World}
theorem rH.op4 (h:rH B n xs ys pv qv e b4 b5 b8 false false C9 Dc Df vJ u13 w) {v:Value} (hk:Kept aB w w') (hv:Jf w' v pv qv):rH B n xs ys pv qv e true b5 b8 false false v Dc Df vJ u13 w' :=
 ⟨Nat.le_trans h.base hk.size,fun _ _=>hv,fun a b=>(h.ch a b).kept hk,fun a b=>(h.one a b).kept hk,fun h=>(by cases h),fun h=>(by cases h)⟩
theorem rH.op5 (h:rH B n xs ys pv qv e b4 b5 b8 false false C9 Dc Df vJ u13 w) {v:Value} (hk:Kept aB w w') (hv:Ch w' w.heap.size n xs v):rH B n xs ys pv qv e b4 true b8 false false C9 v Df vJ u13 w' :=
 ⟨Nat.le_trans h.base hk.size,fun a b=>(h.two a b).kept hk,fun _ _=>hv.mono h.base,fun a b=>(h.one a b).kept hk,fun h=>(by cases h),fun h=>(by cases h)⟩
theorem rH.op8 (h:rH B n xs ys pv qv e b4 b5 b8 false false C9 Dc Df vJ u13 w) {v:Value} (hk:Kept aB w w') (hv:Jg w' v e):rH B n xs ys pv qv e b4 b5 true false false C9 Dc v vJ u13 w' :=
 ⟨Nat.le_trans h.base hk.size,fun a b=>(h.two a b).kept hk,fun a b=>(h.ch a b).kept hk,fun _ _=>hv,fun h=>(by cases h),fun h=>(by cases h)⟩
theorem rH.op9 (h:rH B n xs ys pv qv e b4 b5 b8 false false C9 Dc Df vJ u13 w) {v:Value} (hk:w.heap.size≤w'.heap.size) (hv:Ch w' B (n+1) ys v):rH B n xs ys pv qv e b4 b5 b8 true false C9 Dc Df v u13 w' :=
 ⟨Nat.le_trans h.base hk,fun h=>(by cases h),fun h=>(by cases h),fun h=>(by cases h),fun _=>hv,fun h=>(by cases h)⟩
theorem rH.agX (h:rH B n xs ys pv qv e b4 b5 b8 b9 b10 C9 Dc Df vJ u13 w):rH B n xs ys pv qv e b4 b5 b8 b9 true C9 Dc Df vJ vJ w :=
 ⟨h.base,h.two,h.ch,h.one,h.fin,fun _=>rfl⟩
end
def JO (B n:Nat) (xs ys:List Value) (pv qv:Value) (e:aj) (l:Nat→Bool) (f:Nat→Value) (w:World):Prop :=
 rH B n xs ys pv qv e (l 4) (l 5) (l 8) (l 9) (l 10) (f 95) (f 96) (f 99) (f 100) (f 13) w
section
variable {B n:Nat} {xs ys:List Value} {pv qv:Value} {e:aj} {l l':Nat→Bool} {x:Act} {w w':World} {v:Value}
theorem JO.other {i d:Nat} (h:JO B n xs ys pv qv e l (fun t=>x.tmps.getD t undef) w) (hl:∀j,l' j=true↔j=i∨l j=true) (hi:4≠i∧5≠i∧8≠i∧9≠i∧10≠i) (hd:d≠95∧d≠96∧d≠99∧d≠100∧d≠13) :
  JO B n xs ys pv qv e l' (fun t=>(x.put (some d) v).tmps.getD t undef) w:=by
 unfold JO at *
 rw [upd_ne hl 4 hi.1,upd_ne hl 5 hi.2.1,upd_ne hl 8 hi.2.2.1,upd_ne hl 9 hi.2.2.2.1,upd_ne hl 10 hi.2.2.2.2]
 dsimp only at *
 rw [gX x d 95 v hd.1,gX x d 96 v hd.2.1,gX x d 99 v hd.2.2.1,gX x d 100 v hd.2.2.2.1,gX x d 13 v hd.2.2.2.2]
 exact h
theorem JO.agY (h:JO B n xs ys pv qv e l (fun t=>x.tmps.getD t undef) w) (h9:l 9=false) (h10:l 10=false) (hs:101<x.tmps.size) (hk:Kept aB w w') (hv:Jf w' v pv qv) (hl:∀j,l' j=true↔j=4∨l j=true) :
  JO B n xs ys pv qv e l' (fun t=>(x.put (some 95) v).tmps.getD t undef) w':=by
 unfold JO at *
 rw [iV hl,upd_ne hl 5 (by decide),upd_ne hl 8 (by decide),upd_ne hl 9 (by decide),upd_ne hl 10 (by decide)]
 dsimp only at *
 rw [yc x 95 v (by omega),gX x 95 96 v (by decide),gX x 95 99 v (by decide),gX x 95 100 v (by decide),gX x 95 13 v (by decide)]
 rw [h9,h10] at h
 rw [h9,h10]
 exact h.op4 hk hv
theorem JO.Dh (h:JO B n xs ys pv qv e l (fun t=>x.tmps.getD t undef) w) (h9:l 9=false) (h10:l 10=false) (hs:101<x.tmps.size) (hk:Kept aB w w') (hv:Ch w' w.heap.size n xs v) (hl:∀j,l' j=true↔j=5∨l j=true) :
  JO B n xs ys pv qv e l' (fun t=>(x.put (some 96) v).tmps.getD t undef) w':=by
 unfold JO at *
 rw [upd_ne hl 4 (by decide),iV hl,upd_ne hl 8 (by decide),upd_ne hl 9 (by decide),upd_ne hl 10 (by decide)]
 dsimp only at *
 rw [gX x 96 95 v (by decide),yc x 96 v (by omega),gX x 96 99 v (by decide),gX x 96 100 v (by decide),gX x 96 13 v (by decide)]
 rw [h9,h10] at h
 rw [h9,h10]
 exact h.op5 hk hv
theorem JO.agZ (h:JO B n xs ys pv qv e l (fun t=>x.tmps.getD t undef) w) (h9:l 9=false) (h10:l 10=false) (hs:101<x.tmps.size) (hk:Kept aB w w') (hv:Jg w' v e) (hl:∀j,l' j=true↔j=8∨l j=true) :
  JO B n xs ys pv qv e l' (fun t=>(x.put (some 99) v).tmps.getD t undef) w':=by
 unfold JO at *
 rw [upd_ne hl 4 (by decide),upd_ne hl 5 (by decide),iV hl,upd_ne hl 9 (by decide),upd_ne hl 10 (by decide)]
 dsimp only at *
 rw [gX x 99 95 v (by decide),gX x 99 96 v (by decide),yc x 99 v (by omega),gX x 99 100 v (by decide),gX x 99 13 v (by decide)]
 rw [h9,h10] at h
 rw [h9,h10]
 exact h.op8 hk hv
theorem JO.ag0 (h:JO B n xs ys pv qv e l (fun t=>x.tmps.getD t undef) w) (h9:l 9=false) (h10:l 10=false) (hs:101<x.tmps.size) (hk:w.heap.size≤w'.heap.size) (hv:Ch w' B (n+1) ys v) (hl:∀j,l' j=true↔j=9∨l j=true) :
  JO B n xs ys pv qv e l' (fun t=>(x.put (some 100) v).tmps.getD t undef) w':=by
 unfold JO at *
 rw [upd_ne hl 4 (by decide),upd_ne hl 5 (by decide),upd_ne hl 8 (by decide),iV hl,upd_ne hl 10 (by decide)]
 dsimp only at *
 rw [gX x 100 95 v (by decide),gX x 100 96 v (by decide),gX x 100 99 v (by decide),yc x 100 v (by omega),gX x 100 13 v (by decide)]
 rw [h9,h10] at h
 rw [h10]
 exact h.op9 hk hv
theorem JO.afn (h:JO B n xs ys pv qv e l (fun t=>x.tmps.getD t undef) w) (hs:101<x.tmps.size) (hv:v=x.tmps.getD 100 undef) (hl:∀j,l' j=true↔j=10∨l j=true) :
  JO B n xs ys pv qv e l' (fun t=>(x.put (some 13) v).tmps.getD t undef) w:=by
 unfold JO at *
 rw [upd_ne hl 4 (by decide),upd_ne hl 5 (by decide),upd_ne hl 8 (by decide),upd_ne hl 9 (by decide),iV hl]
 dsimp only at *
 rw [gX x 13 95 v (by decide),gX x 13 96 v (by decide),gX x 13 99 v (by decide),gX x 13 100 v (by decide),yc x 13 v (by omega),hv]
 exact h.agX
theorem JO.start (hB:B≤w.heap.size) (hl:∀i,i<11→l i=false) {f:Nat→Value}:JO B n xs ys pv qv e l f w:=by
 unfold JO
 rw [hl 4 (by decide),hl 5 (by decide),hl 8 (by decide),hl 9 (by decide),hl 10 (by decide)]
 exact ⟨hB,fun _ h=>(by cases h),fun _ h=>(by cases h),fun _ h=>(by cases h),fun h=>(by cases h),fun h=>(by cases h)⟩
theorem JO.eqv {f:Nat→Value} (h:JO B n xs ys pv qv e l f w) (hl:∀i,i<11→l i=l' i):JO B n xs ys pv qv e l' f w:=by
 unfold JO at *
 rw [←hl 4 (by decide),←hl 5 (by decide),←hl 8 (by decide),←hl 9 (by decide),←hl 10 (by decide)]
 exact h
end
theorem Jh (l:List aj) (x:aj):Lib.containsS (l.take l.length) x=true↔x∈l:=by
 rw [contains_iff l l.length (Nat.le_refl _) x,List.mem_iff_getElem]
theorem Wp {l:List aj} {x:aj} (h:x∉l):Lib.containsS (l.take l.length) x=false:=by
 cases hq:Lib.containsS (l.take l.length) x with
 | true=>exact absurd ((Jh l x).1 hq) h
 | false=>rfl
theorem Ji (s:aG):(own s).length=s.params.length+s.locals.length+1:=by unfold own;simp;omega
theorem ab2 (s:aG):(own s).map Value.string=(s.params.map Value.string++s.locals.map Value.string)++[.string s.name]:=by unfold own;simp
theorem Ch.strs {w:World} {B:Nat} {l:List aj} {v:Value} (h:Ch w B l.length (l.map Value.string) v):∃a c,v=.slice a l.length c∧l.length≤c∧bU w (fun b=>B≤b) a l:=by
 obtain ⟨a,c,rfl,hw⟩:=h
 rcases hw.cells with ⟨hv,h0⟩|⟨g,o,cap,hv,hB,_,hcap,_,hc⟩
 ·simp only [Value.slice.injEq] at hv
  exact ⟨a,c,rfl,by omega,fun h=>by omega⟩
 ·simp only [Value.slice.injEq] at hv
  obtain ⟨rfl,_,rfl⟩:=hv
  exact ⟨_,_,rfl,hcap,fun _=>⟨g,o,rfl,hB,fun i hi=>(hc i (.string l[i]) (by rw [List.getElem?_map,List.getElem?_eq_getElem hi];rfl)).1⟩⟩
theorem yV (s:aG):(kK s.kind).length=(jB s).length:=by
 unfold kK jB
 by_cases yX:s.kind=2∨s.kind=4
 ·rw [if_pos yX,if_pos yX];rfl
 ·rw [if_neg yX,if_neg yX]
  by_cases h35:s.kind=3∨s.kind=5
  ·rw [if_pos h35,if_pos h35];rfl
  ·rw [if_neg h35,if_neg h35];rfl
theorem Zu {w:World} {S:Nat→Prop} {g:Nat} {a:iM} {s:aG} (hB:bZ g a s w) (hz:rE s) (ho:wR w S a s) (hg:S g) :
  ∀i (h:i<(jB s).length),aW w S g ((kK s.kind)[i]'(by rw [yV];exact h)) (jB s)[i]:=by
 obtain ⟨c0,c1,c2,c3,c4,c5,c6,c7,c8,c9,c10,c11,_⟩:=hB.cells
 have ht:aW w S g 2 s.target:=yM hg hz.target.z c2 c3 c4 c5 c6 ho.target
 have hv:aW w S g 7 s.value:=yM hg hz.value.z c7 c8 c9 c10 c11 ho.value
 unfold kK jB
 by_cases yX:s.kind=2∨s.kind=4
 ·simp only [if_pos yX]
  intro i h
  obtain rfl:i=0:=by simp at h;omega
  exact hv
 ·simp only [if_neg yX]
  by_cases h35:s.kind=3∨s.kind=5
  ·simp only [if_pos h35]
   intro i h
   rcases (show i=0∨i=1 by simp at h;omega) with rfl|rfl
   ·exact ht
   ·exact hv
  ·simp only [if_neg h35]
   intro i h
   simp at h
end Go.Proofs.YtgoijmpahffnhaaGreatDoor

namespace Go.Proofs.YtgoijmpahffnhaaGreatDoor
set_option linter.all false
open Go.RowKit
set_option maxRecDepth 100000
set_option maxHeartbeats 4000000
def wS (n:aj):Nat→kH→Int
 | _,[] => -1
 | i,x::q=>if x.1=n then (i:Int) else wS n (i+1) q
theorem VW (n:aj) (l:kH) (j:Nat) (h:j<l.length):wS n j (l.drop j)=if l[j].1=n then (j:Int) else wS n (j+1) (l.drop (j+1)):=by
 rw [List.drop_eq_getElem_cons h,wS]
def qX (n:aj):kH→aj×Int
 | []=>(⟨#[]⟩,7)
 | x::q=>if x.1=n then (x.2,0) else qX n q
theorem Tz {a b:aj}:(a.toList==b.toList)=decide (a=b):=by
 rw [Bool.eq_iff_iff,decide_eq_true_eq,beq_iff_eq,ByteArray.toList_eq,ByteArray.toList_eq]
 constructor
 ·intro h
  obtain ⟨x⟩:=a;obtain ⟨y⟩:=b
  have:x=y:=by rw [←Array.toList_inj];exact h
  rw [this]
 ·rintro rfl;rfl
def TabAt (w:World) (a:Option Addr) (l:kH):Prop:=∃g o,a=some ⟨g,o,none⟩∧g<w.heap.size∧∀j (h:j<l.length),w.cell? ⟨g,o+j*2,none⟩=some (.string l[j].1)∧w.cell? ⟨g,o+(j*2+1),none⟩=some (.string l[j].2)
theorem TabAt.kept {w w2:World} {a:Option Addr} {l:kH} (h:TabAt w a l) (hk:Kept aB w w2):TabAt w2 a l:=by
 obtain ⟨g,o,e,hg,hc⟩:=h
 exact ⟨g,o,e,Nat.lt_of_lt_of_le hg hk.size,fun j hj=>⟨(hk.cell hg (fun h=>h)).trans (hc j hj).1,(hk.cell hg (fun h=>h)).trans (hc j hj).2⟩⟩
theorem TabAt.of {w:World} {B:Nat} {a:Option Addr} {c n:Nat} {l:kH} (h:aS w B 49 2 (.slice a n c) n (ig l)) (h0:0<n) (hl:l.length=n):TabAt w a l:=by
 rcases h.cells with ⟨hv,hn⟩|⟨g,o,c',hv,_,hg,_,_,hc⟩
 ·omega
 ·simp only [Value.slice.injEq,true_and] at hv
  obtain ⟨rfl,rfl⟩:=hv
  exact ⟨g,o,rfl,hg,fun j hj=>⟨(hc (j*2) _ (Nz l j hj).1).1,(hc (j*2+1) _ (Nz l j hj).2).1⟩⟩
theorem J5 (P:Nat) (a b n:aj) (w:World) (hP:w.cell? ⟨P,0,none⟩=some (.string n)) (hPl:P<w.heap.size):Calls Tryz.prog 21 #[.agg #[.string a,.string b],.pointer (some ⟨P,0,none⟩)] w (Aw (decide (a=n)) w):=by
 have hb:=ah (Tz (a:=a) (b:=n))
 have hP1:(w.alloc (.cells #[.string a,.string b] 49)).cell? ⟨P,0,none⟩=some (.string n):=(((Kept.refl aB w).alloc _).cell hPl (fun h=>h)).trans hP
 go_enter Tryz.func21, Tryz.ntmps21
 go_wp2_with fail
 go_ret
 exact ⟨by rw [←hb.out];try rfl,(Kept.refl _ _).alloc _⟩
theorem NC (f:Nat) (lb:Array Value) (l:kH) (al:Option Addr) (cl:Nat) (n:aj) (eg:∀args wx,(callFunc f args).run Tryz.prog wx=.ok (.enter f args) wx) (w:World) (hl:TabAt w al l) (hP:∀(W:World) (a b:aj),Kept aB w W→Calls Tryz.prog f (#[.agg #[.string a,.string b]]++lb) W (Aw (decide (a=n)) W)) (hlen:l.length≤1000) :
  Calls Tryz.prog 20 #[.slice al l.length cl,.func (.func f) #[] lb] w (Yn (wS n 0 l) w):=by
 have HL:=ah hl;have HP:=ah hP
 clear hl hP
 go_enter Tryz.func20, Tryz.ntmps20
 go_wp2_with fail
 go_loopw [8] (fun i wr=>∃j:Nat,j≤l.length∧i=.int .i64 j∧Hid (wS n 0 l=wS n j (l.drop j))∧Kept aB w wr) (fun i _=>l.length-(intOf i).toNat)
 case atStart=>exact ⟨0,Nat.zero_le _,rfl,by unfold Hid;rw [List.drop_zero],Kept.refl _ _⟩
 case round =>
  obtain ⟨j,hj,rfl,hno,hk⟩:=hrel
  have KW:=ah hk
  by_cases hlt:j<l.length
  ·obtain ⟨g,o,rfl,hg,hc⟩:=HL.out.kept hk
   obtain ⟨q0,q1⟩:=hc j hlt
   have hd:=VW n l j hlt
   have hcall:=ah (HP.out wr l[j].1 l[j].2 hk)
   obtain ⟨x1,hx1⟩:∃x,x=l[j].1:=⟨_,rfl⟩
   obtain ⟨x2,hx2⟩:∃x,x=l[j].2:=⟨_,rfl⟩
   rw [←hx1] at q0 hcall hd
   rw [←hx2] at q1 hcall
   have q1':wr.cell? ⟨g,o+j*2+1,none⟩=some (.string x2):=q1
   clear hc hk hg hx1 hx2 q1
   by_cases hpr:x1=n
   ·rw [if_pos hpr] at hd
    have fin:=ah (hno.out.trans hd)
    rw [ak hpr] at hcall
    clear hd hpr hno
    go_wp2_with fail
    refine hcall.out.mono ?_
    rintro e w2 ⟨rfl,eY⟩
    have K2:=ah (KW.out.trans eY)
    clear eY
    go_wp2_with fail
    go_ret
    exact ⟨by rw [fin.out];try rfl,K2.out⟩
   ·rw [if_neg hpr] at hd
    have step:=ah (hno.out.trans hd)
    rw [au hpr] at hcall
    clear hd hpr hno
    go_wp2_with fail
    refine hcall.out.mono ?_
    rintro e w2 ⟨rfl,eY⟩
    have K2:=ah (KW.out.trans eY)
    clear eY
    go_wp2_with fail
    go_roundw
    case rel=>exact ⟨j+1,by omega,by go_num,step,K2.out⟩
    case measure=>simp [intOf];omega
  ·obtain rfl:j=l.length:=by omega
   have fin:Hid (wS n 0 l = -1):=by unfold Hid;rw [hno.out,List.drop_length,wS]
   go_wp2_with fail
   go_ret
   exact ⟨by rw [fin.out];try rfl,KW.out⟩
theorem J6 (n:aj):∀(l:kH) (i:Nat),(wS n i l = -1∧qX n l=(⟨#[]⟩,7))∨∃j,∃h:j<l.length,wS n i l=((i+j:Nat):Int)∧qX n l=(l[j].2,0)
 | [],i=>.inl ⟨rfl,rfl⟩
 | x::q,i=>by
  rw [wS,qX]
  by_cases h:x.1=n
  ·rw [if_pos h,if_pos h];exact .inr ⟨0,by simp,rfl,rfl⟩
  ·rw [if_neg h,if_neg h]
   rcases J6 n q (i+1) with ⟨a,b⟩|⟨j,hj,a,b⟩
   ·exact .inl ⟨a,b⟩
   ·exact .inr ⟨j+1,by simpa using hj,by rw [a];congr 1;omega,by rw [b];rfl⟩
def Nr (n:aj) (w:World) (e:Ending) (w':World):Prop:=e=.returned (.tuple #[.string (qX n vC).1,.int .i64 (qX n vC).2])∧Kept aB w w'
theorem P6 (n:aj) (w:World):Calls Tryz.prog 16 #[.string n] w (Nr n w):=by
 obtain ⟨w0,hw0⟩:∃w0,w0=w.alloc (.cells #[.string n] 9):=⟨_,rfl⟩
 have k0:Kept aB w w0:=by rw [hw0];exact (Kept.refl _ _).alloc _
 have c0:w0.cell? ⟨w.heap.size,0,none⟩=some (.string n):=by have h:w0.heap[w.heap.size]?=some (.cells #[.string n] 9 (0,0)):=(by rw [hw0];exact ay w _);rw [cell_of_row w0 _ _ _ _ _ h];rfl
 have hl0:w.heap.size<w0.heap.size:=by rw [hw0];simp
 obtain ⟨P,hP⟩:∃P,P=w.heap.size:=⟨_,rfl⟩
 rw [←hP] at c0 hl0
 have HW0:=ah hw0;have HPP:=ah hP;have K0:=ah k0;have C0:=ah c0
 have hmf:∀(fn:Fn) (first cap:Array Value) (w:World),(Instr.makeFunc fn first cap).run Tryz.prog w=.ok (.func fn first cap) w:=fun _ _ _ _=>rfl
 have hlen:vC.length=29:=rfl
 have hIT:=J6 n vC 0
 obtain ⟨T,hT⟩:∃T,T=vC:=⟨_,rfl⟩
 have Ey:Hid (qX n vC=qX n T):=by rw [hT];rfl
 have HSV:Hid (∀wx,Calls Tryz.prog 19 #[] wx (fun e w'=>∃a c,e=.returned (.slice a 29 c)∧TabAt w' a T∧Kept aB wx w')):=fun wx=>(Qe wx).mono (by
  rintro e w' ⟨a,c,rfl,hw,hk⟩
  exact ⟨a,c,rfl,by rw [hT];exact TabAt.of hw (by decide) hlen,hk⟩)
 rw [←hT] at hlen hIT
 clear hw0 hP k0 hT c0
 rcases hIT with ⟨hi,ht⟩|⟨j,hj,hi,ht⟩
 ·have HI:=ah hi
  have fin:Hid (qX n vC=(⟨#[]⟩,7)):=Ey.out.trans ht
  clear hi ht
  go_enter Tryz.func16, Tryz.ntmps16
  go_upto_region 1 with fail
  rw [←HW0.out,←HPP.out]
  go_wp2_with (first
   | (go_at_call 19;(refine (HSV.out w0).mono ?_);rintro e w1 ⟨a,c,rfl,t_,k_⟩;have T1:=ah t_;have K1:=ah k_;clear t_ k_)
   | (go_at_call 20;(have h_:=NC 21 #[.pointer (some ⟨P,0,none⟩)] T a c n (fun _ _=>by kernel_rfl) w1 T1.out (fun W a b hk=>J5 P a b n W ((hk.cell (Nat.lt_of_lt_of_le hl0 K1.out.size) (fun h=>h)).trans ((K1.out.cell hl0 (fun h=>h)).trans C0.out)) (Nat.lt_of_lt_of_le (Nat.lt_of_lt_of_le hl0 K1.out.size) hk.size)) (by omega));rw [hlen,HI.out] at h_;(refine h_.mono ?_);rintro e w2 ⟨rfl,k_⟩;have K2:=ah k_;clear k_ h_))
  go_ret2
  exact ⟨by rw [fin.out];rfl,(K0.out.trans K1.out).trans K2.out⟩
 ·rw [Nat.zero_add] at hi
  have HI:=ah hi
  have fin:Hid (qX n vC=(T[j].2,0)):=Ey.out.trans ht
  have hj2:j<29:=by omega
  have hjn:decide ((j:Int)<0)=false:=au (by omega)
  have bj:(j:Int)<(29:Int):=by omega
  obtain ⟨x,hx⟩:∃x,x=T[j].2:=⟨_,rfl⟩
  rw [←hx] at fin
  have HX:=ah hx
  clear hi ht hx
  go_enter Tryz.func16, Tryz.ntmps16
  go_upto_region 1 with fail
  rw [←HW0.out,←HPP.out]
  go_wp2_with (first
   | (go_at_call 19;(refine (HSV.out w0).mono ?_);rintro e w1 ⟨a,c,rfl,t_,k_⟩;have T1:=ah t_;have K1:=ah k_;clear t_ k_)
   | (go_at_call 20;(have h_:=NC 21 #[.pointer (some ⟨P,0,none⟩)] T a c n (fun _ _=>by kernel_rfl) w1 T1.out (fun W a b hk=>J5 P a b n W ((hk.cell (Nat.lt_of_lt_of_le hl0 K1.out.size) (fun h=>h)).trans ((K1.out.cell hl0 (fun h=>h)).trans C0.out)) (Nat.lt_of_lt_of_le (Nat.lt_of_lt_of_le hl0 K1.out.size) hk.size)) (by omega));rw [hlen,HI.out] at h_;(refine h_.mono ?_);rintro e w2 ⟨rfl,k_⟩;have K2:=ah k_;obtain ⟨g,o,rfl,_,hc_⟩:=T1.out.kept k_;have q1:=(hc_ j hj).2;rw [←HX.out] at q1;have q1':w2.cell? ⟨g,o+j*2+1,none⟩=some (.string x):=q1;clear k_ h_ hc_ q1))
  go_ret2
  exact ⟨by rw [fin.out];rfl,(K0.out.trans K1.out).trans K2.out⟩
end Go.Proofs.YtgoijmpahffnhaaGreatDoor

namespace Go.Proofs.YtgoijmpahffnhaaGreatDoor
set_option linter.all false
open Go.RowKit
def qh (s:aj) {α:Type} (f:Nat→Except Er α):Prop:=∀i er,i≤s.size→f i=.error er→er.2≤s.size
theorem qB {c:Nat} {s:aj} {i:Nat} {er:Er} (hi:i≤s.size) (h:bT c s i=.error er):er.2≤s.size:=by
 unfold bT at h
 split at h
 ·cases h
 ·simp only [Except.error.injEq] at h;subst h;exact cO hi
theorem MC {s:aj} {i:Nat} {er:Er} (hi:i≤s.size) (h:fQ s i=.error er):er.2≤s.size:=by
 unfold fQ at h
 split at h
 ·cases h
 ·simp only [Except.error.injEq] at h;subst h;exact cO hi
theorem Fq {s:aj} {i:Nat} {er:Er} (hi:i≤s.size) (h:nameP s i=.error er):er.2≤s.size:=by
 unfold nameP at h
 split at h
 ·next e he=>simp only [Except.error.injEq] at h;subst h;exact MC hi he
 ·next x a k hw =>
  split at h
  ·simp only [Except.error.injEq] at h;subst h;exact (iP hi hw).2.2.2.1
  ·cases h
theorem MF {s:aj} {i:Nat} {er:Er} (hi:i≤s.size) (h:gY s i=.error er):er.2≤s.size:=by
 unfold gY at h
 split at h
 ·next e he=>simp only [Except.error.injEq] at h;subst h;exact qB hi he
 ·next k hk =>
  cases ht:dS (s.data.toList.drop k) with
  | none=>rw [ht] at h;simp only [kQ,Except.error.injEq] at h;subst h;exact Nat.le_refl _
  | some x=>obtain ⟨b,n⟩:=x;rw [ht] at h;cases h
theorem acJ {s:aj} {k:Nat} (h:JC s k=true):k<s.size:=by
 unfold JC at h
 simp only [Bool.and_eq_true,decide_eq_true_eq] at h
 by_cases hk:k<s.size
 ·exact hk
 ·have:peek s k = -1:=by unfold peek;rw [dif_neg hk]
  omega
theorem JE {s:aj} {j:Nat} (hj:j≤s.size):∀(f k n:Nat) {er:Er},k≤s.size→uy s j f k n=.error er→er.2≤s.size
 | 0,k,n,er,_,h=>by cases h
 | f+1,k,n,er,hk,h=>by
  rw [uy] at h
  split at h
  ·next hd =>
   have:=acJ hd
   split at h
   ·simp only [Except.error.injEq] at h;subst h;exact hk
   ·split at h
    ·simp only [Except.error.injEq] at h;subst h;exact hj
    ·exact JE hj f _ _ (by omega) h
  ·cases h
theorem aa7 {s:aj} {i:Nat} {er:Er} (hi:i≤s.size) (h:kR s i=.error er):er.2≤s.size:=by
 unfold kR at h
 split at h
 ·exact JE (cO hi) _ _ _ (cO hi) h
 ·simp only [Except.error.injEq] at h;subst h;exact cO hi
theorem Yh {s:aj} {inner:Nat→cu aA} (hf:cZ s inner) (hb:qh s inner) {a k:Nat} {kd:Int} {er:Er} (ha:a≤s.size) (hk:k≤s.size) (h:lS inner s a k kd=.error er):er.2≤s.size:=by
 unfold lS at h
 split at h
 ·simp only [Except.error.injEq] at h;subst h;exact ha
 ·split at h
  ·unfold bP at h
   split at h
   ·next e he=>simp only [Except.error.injEq] at h;subst h;exact qB hk he
   ·next k1 hk1 =>
    have h1:=fC hk1
    split at h
    ·next e he=>simp only [Except.error.injEq] at h;subst h;exact MF h1.2.1 he
    ·next t b k2 ht =>
     have h2:=jT ht
     split at h
     ·simp only [Except.error.injEq] at h;subst h;exact Nat.le_of_lt h2.2.2.2
     ·split at h
      ·next e he=>simp only [Except.error.injEq] at h;subst h;exact qB h2.2.1 he
      ·cases h
  ·split at h
   ·unfold dV at h
    split at h
    ·next e he=>simp only [Except.error.injEq] at h;subst h;exact qB hk he
    ·next k1 hk1 =>
     have h1:=fC hk1
     split at h
     ·next e he=>simp only [Except.error.injEq] at h;subst h;exact aa7 h1.2.1 he
     ·next n k2 ht =>
      have h2:=xW h1.2.1 ht
      split at h
      ·next e he=>simp only [Except.error.injEq] at h;subst h;exact qB h2.2.1 he
      ·cases h
   ·split at h
    ·unfold pV at h
     split at h
     ·next e he=>simp only [Except.error.injEq] at h;subst h;exact qB hk he
     ·next k1 hk1 =>
      have h1:=fC hk1
      split at h
      ·next e he=>simp only [Except.error.injEq] at h;subst h;exact hb _ _ h1.2.1 he
      ·next p k2 ht =>
       have h2:=hf _ _ _ h1.2.1 ht
       split at h
       ·next e he=>simp only [Except.error.injEq] at h;subst h;exact qB h2.2 he
       ·cases h
    ·cases h
theorem U6 {s:aj} {j:Nat} {kd:Int} {er:Er} (hj:j≤s.size) (h:yL s j kd=.error er):er.2≤s.size:=by
 unfold yL at h
 split at h
 ·next e he=>simp only [Except.error.injEq] at h;subst h;exact Fq hj he
 ·cases h
theorem QA {s:aj} {i:Nat} (h:0≤peek s i):i<s.size:=by
 by_cases hk:i<s.size
 ·exact hk
 ·have:peek s i = -1:=by unfold peek;rw [dif_neg hk]
  omega
theorem PU {s:aj} {inner:Nat→cu aA} (hf:cZ s inner) (hb:qh s inner):qh s (aF inner s):=by
 intro i er hi h
 have h1:=cO hi
 unfold aF at h
 split at h
 ·unfold Fv at h
  split at h
  ·next e he=>simp only [Except.error.injEq] at h;subst h;exact MF h1 he
  ·cases h
 ·split at h
  ·next hp=>have:=QA (s:=s) (i:=skip s i) (by omega);exact U6 (by omega) h
  ·split at h
   ·next hp=>have:=QA (s:=s) (i:=skip s i) (by omega);exact U6 (by omega) h
   ·unfold kW at h
    split at h
    ·next e he=>simp only [Except.error.injEq] at h;subst h;exact MC h1 he
    ·next x a k hw =>
     have h2:=iP h1 hw
     exact Yh hf hb h2.2.2.2.1 h2.2.1 h
theorem Cj {s:aj}:∀(f:Nat) (p:aA) (k:Nat) {er:Er},k≤s.size→mP s f p k=.error er→er.2≤s.size
 | 0,p,k,er,_,h=>by cases h
 | f+1,p,k,er,hk,h=>by
  rw [mP] at h
  have h1:=(jR (c:=46) hk).1
  have h2:=(jR (c:=36) h1).1
  split at h
  ·split at h
   ·next e he=>simp only [Except.error.injEq] at h;subst h;exact Fq h1 he
   ·next nm k1 hn=>exact Cj f _ _ (qR h1 hn).2 h
  ·split at h
   ·split at h
    ·next e he=>simp only [Except.error.injEq] at h;subst h;exact Fq h2 he
    ·next nm k1 hn=>exact Cj f _ _ (qR h2 hn).2 h
   ·cases h
theorem Yi {s:aj} {inner:Nat→cu aA} (hf:cZ s inner) (hb:qh s inner):qh s (mQ inner s):=by
 intro i er hi h
 have h1:=(jR (c:=40) hi).1
 unfold mQ at h
 split at h
 ·split at h
  ·next e he=>simp only [Except.error.injEq] at h;subst h;exact hb _ _ h1 he
  ·next p k hp =>
   have h2:=hf _ _ _ h1 hp
   split at h
   ·next e he=>simp only [Except.error.injEq] at h;subst h;exact qB h2.2 he
   ·cases h
 ·exact PU hf hb _ _ h1 h
theorem MG {s:aj} {inner:Nat→cu aA} (hf:cZ s inner) (hb:qh s inner):qh s (iY inner s):=by
 intro i er hi h
 unfold iY at h
 split at h
 ·next e he=>simp only [Except.error.injEq] at h;subst h;exact Yi hf hb _ _ hi he
 ·next p k hp=>exact Cj _ _ _ (Fz hf hi hp).2 h
theorem JF {s:aj} {inner:Nat→cu aA} (hf:cZ s inner) (hb:qh s inner):∀(f:Nat) (l:List aA) (k:Nat) {er:Er},k≤s.size→qU inner s f l k=.error er→er.2≤s.size
 | 0,l,k,er,_,h=>by cases h
 | f+1,l,k,er,hk,h=>by
  rw [qU] at h
  split at h
  ·split at h
   ·next e he=>simp only [Except.error.injEq] at h;subst h;exact MG hf hb _ _ (cO hk) he
   ·next p k1 hp=>exact JF hf hb f _ _ (sU hf _ _ _ (cO hk) hp).2 h
  ·cases h
theorem QB {s:aj} {inner:Nat→cu aA} (hf:cZ s inner) (hb:qh s inner):qh s (jZ inner s):=by
 intro i er hi h
 unfold jZ at h
 split at h
 ·next e he=>simp only [Except.error.injEq] at h;subst h;exact MG hf hb _ _ hi he
 ·next p k hp=>exact JF hf hb _ _ _ (sU hf _ _ _ hi hp).2 h
theorem JG {s:aj} {inner:Nat→cu aA} (hf:cZ s inner) (hb:qh s inner):∀(f:Nat) (l:List aA) (k:Nat) {er:Er},k≤s.size→qV inner s f l k=.error er→er.2≤s.size
 | 0,l,k,er,_,h=>by cases h
 | f+1,l,k,er,hk,h=>by
  rw [qV] at h
  have h1:=(jR (c:=124) hk).1
  split at h
  ·split at h
   ·next e he=>simp only [Except.error.injEq] at h;subst h;exact QB hf hb _ _ h1 he
   ·next p k1 hp=>exact JG hf hb f _ _ (vg hf _ _ _ h1 hp).2 h
  ·cases h
theorem QC {s:aj} {inner:Nat→cu aA} (hf:cZ s inner) (hb:qh s inner):qh s (ku inner s):=by
 intro i er hi h
 unfold ku at h
 split at h
 ·next e he=>simp only [Except.error.injEq] at h;subst h;exact QB hf hb _ _ hi he
 ·next p k hp=>exact JG hf hb _ _ _ (vg hf _ _ _ hi hp).2 h
theorem JH (s:aj):∀m,qh s (gQ s m)
 | 0=>fun i er hi h=>by simp only [gQ,Except.error.injEq] at h;subst h;exact hi
 | m+1=>fun i er hi h=>QC (kX s m) (JH s m) i er hi h
theorem Sr (s:aj):(mV s).2.2≤s.size:=by
 unfold mV
 cases h:lT s with
 | ok p=>exact Nat.zero_le _
 | error er =>
  show er.2≤s.size
  unfold lT at h
  split at h
  ·simp only [Except.error.injEq] at h;subst h;exact Nat.zero_le _
  ·split at h
   ·next e he=>simp only [Except.error.injEq] at h;subst h;exact QC (kX s 200) (JH s 200) _ _ (Nat.zero_le _) he
   ·next p k hp =>
    have h2:=IU (kX s 200) _ _ _ (Nat.zero_le _) hp
    split at h
    ·simp only [Except.error.injEq] at h;subst h;exact cO h2.2
    ·split at h
     ·cases h
     ·simp only [Except.error.injEq] at h;subst h;exact Nat.zero_le _
end Go.Proofs.YtgoijmpahffnhaaGreatDoor
