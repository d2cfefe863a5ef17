/-  -/
import Derived.Test.YtefjbnhpjdhjmaaGreatDoorTm14
import Derived.Test.YtefjbnhpjdhjmaaGreatDoorTm5
import Derived.Test.YtefjbnhpjdhjmaaGreatDoorTm17
import Derived.Test.YtefjbnhpjdhjmaaGreatDoorBare2
import Derived.Test.YtefjbnhpjdhjmaaGreatDoorBare3
import Derived.Test.YtefjbnhpjdhjmaaGreatDoorBare4
import Derived.Test.YtefjbnhpjdhjmaaGreatDoorTm13
import Derived.Test.YtefjbnhpjdhjmaaGreatDoorEx3
import Derived.Test.YtefjbnhpjdhjmaaGreatDoorTm9
import Derived.Test.YtefjbnhpjdhjmaaGreatDoorTm19
import Derived.Test.YtefjbnhpjdhjmaaGreatDoorEx2
import Derived.BigQuiet
import Derived.Deep.LoopGhost
import Derived.Test.YtefjbnhpjdhjmaaGreatDoorTm11
import Derived.Deep.QuietTactic
namespace Go.Proofs.YtefjbnhpjdhjmaaGreatDoor
set_option linter.all false
open Go.RowKit
mutual
def bF:aA→aA
 | .mk k t n nm kids=>.mk k (if k=1 then t else E0) (if k=2 then n else 0) (if k=3∨k=4∨k=6 then nm else E0) (iP kids)
def iP:List aA→List aA
 | []=>[]
 | p::r=>bF p::iP r
end
theorem yD:∀l:List aA,(iP l).length=l.length
 | []=>rfl
 | p::r=>by rw [iP,List.length_cons,yD r,List.length_cons]
mutual
theorem Jq:∀p:aA,sizeT (bF p)=sizeT p
 | .mk k t n nm kids=>by rw [bF,sizeT,sizeT,Gt kids]
theorem Gt:∀l:List aA,aO (iP l)=aO l
 | []=>rfl
 | p::r=>by rw [iP,aO,aO,Jq p,Gt r]
end
mutual
theorem Gu:∀p:aA,fA (bF p)=fA p
 | .mk k t n nm kids=>by rw [bF,fA,fA,EU kids]
theorem EU:∀l:List aA,iy (iP l)=iy l
 | []=>rfl
 | p::r=>by rw [iP,iy,iy,Gu p,EU r]
end
mutual
theorem Kv:∀p:aA,jG p=fA p
 | .mk k t n nm kids=>by rw [jG,fA,RI kids,Nat.add_comm]
theorem RI:∀l:List aA,pW l=iy l
 | []=>rfl
 | p::r=>by rw [pW,iy,Kv p,RI r]
end
def H8 (b:Bool) (l:List Tk):List Tk:=if b then sg 40::(l++[sg 41]) else l
mutual
def toks:aA→Nat→List Tk
 | .mk k t n nm kids,i =>
  if k=1 then [(3,t)]
  else if k=2 then [(2,⟨(Lib.decDigits n.toNat).toArray⟩)]
  else if k=3 then [(1,nm)]
  else if k=4 then (1,nm)::sg 60::(wK kids 1++[sg 62])
  else if k=5 then sg 36::wK kids 5
  else if k=7 then H8 (decide (4<i)) (sg 45::wK kids 4)
  else if k=6 then (1,nm)::sg 40::(qX true kids++[sg 41])
  else H8 (decide (dA k<i)) (zN (dA k) (sg (iq k)) kids)
def wK:List aA→Nat→List Tk
 | [],_=>[]
 | p::_,i=>toks p i
def qX:Bool→List aA→List Tk
 | _,[]=>[]
 | first,p::r=>(if first then [] else [sg 44])++(toks p 1++qX false r)
def zN:Nat→Tk→List aA→List Tk
 | own,sep,p::r=>toks p own++(sep::wK r (own+1))
 | _,_,[]=>[]
end
def lC (l:List UInt8):Prop:=∀c t,l=c::t→c=32∨c=41∨c=44∨c=62
theorem lC.word {r:List UInt8} (h:lC r):mW gu r:=fun c t e=>by rcases h c t e with rfl|rfl|rfl|rfl<;>decide
theorem lC.dig {r:List UInt8} (h:lC r):mW dS r:=fun c t e=>by rcases h c t e with rfl|rfl|rfl|rfl<;>decide
theorem lC.quote {r:List UInt8} (h:lC r):mW (fun c=>c==39) r:=fun c t e=>by rcases h c t e with rfl|rfl|rfl|rfl<;>decide
theorem lC.nil:lC []:=by intro c t e;cases e
theorem lC.of {c:UInt8} {l:List UInt8} (h:c=32∨c=41∨c=44∨c=62):lC (c::l):=by intro d t e;obtain ⟨rfl,_⟩:=List.cons.inj e;exact h
theorem lS.more {k n:Int} {t nm:aj} {kids:List aA} (h:lS (.mk k t n nm kids)):k=3∨k=4∨k=6→aS nm=true:=by
 intro e
 have h1:=h.node
 rw [kF] at h1
 have h2:zu k t n nm kids.length=0:=by
  split at h1
  ·assumption
  ·rename_i hx;exact absurd h1 hx
 cases hx:aS nm with
 | true=>rfl
 | false =>
  unfold zu at h2
  rw [if_neg (by omega),if_neg (by omega),if_neg (by omega),if_pos ⟨e,hx⟩] at h2
  cases h2
theorem lS.none {k n:Int} {t nm:aj} {kids:List aA} (h:lS (.mk k t n nm kids)) (hk:k≤3):kids=[]:=by
 have h0:=h.facts.1
 have h1:=h.facts.2.2.2.2.2.2 (by omega)
 rw [show iQ k=0 by unfold iQ;rw [if_neg (by omega),if_neg (by omega)]] at h1
 exact List.length_eq_zero_iff.1 (by omega)
theorem RJ {m:List UInt8} {ms:List Tk} (b:Bool) (hm:∀l ts,lC l→fH l ts→fH (m++l) (ms++ts)) (l:List UInt8) (ts:List Tk) (hf:lC l) (hl:fH l ts):fH (sH b m++l) (H8 b ms++ts):=by
 cases b
 ·exact hm l ts hf hl
 ·have h1:=hm (41::l) (sg 41::ts) (lC.of (by decide)) (lM (by decide) hl)
  have h2:=lM (c:=40) (by decide) h1
  simpa [sH,H8] using h2
theorem abx (k:Int):(iq k).toNat∈Aq∧iq k≠58:=by
 unfold iq
 split
 ·decide
 split
 ·decide
 split
 ·decide
 split
 ·decide
 split<;>decide
mutual
theorem BN:∀(p:aA) (i:Nat),lS p→∀l ts,lC l→fH l ts→fH (aP p i++l) (toks p i++ts)
 | .mk k t n nm kids,i,h,l,ts,hf,hl=>by
  obtain ⟨hk,ht,hn,hn2,_,hk6,hkk⟩:=h.facts
  have hnm:=h.more
  have hh:=fun j l ts=>Mc kids j h.sub l ts
  have hj:=fun l ts=>Md true kids h.sub l ts
  have h2:=fun l ts=>ZA (dA k) (iq k) (abx k) kids h.sub l ts
  rw [aP,toks]
  split
  ·exact Zx hf.quote hl
  split
  ·have h0:=hn ‹_›
   exact abv (by omega) hf.dig hl
  split
  ·exact nG (hnm (.inl ‹_›)) hf.word hl
  split
  ·have h1:=hh 1 (62::l) (sg 62::ts) (lC.of (by decide)) (lM (by decide) hl)
   have h3:=nG (hnm (.inr (.inl ‹_›))) (by intro c t e;obtain ⟨rfl,_⟩:=List.cons.inj e;decide) (lM (c:=60) (by decide) h1)
   simpa using h3
  split
  ·exact lM (c:=36) (by decide) (hh 5 l ts hf hl)
  split
  ·exact RJ (m:=45::o7 kids 4) (ms:=sg 45::wK kids 4) _ (fun l ts hf hl=>lM (c:=45) (by decide) (hh 4 l ts hf hl)) l ts hf hl
  split
  ·have h1:=hj (41::l) (sg 41::ts) (lC.of (by decide)) (lM (by decide) hl)
   have h3:=nG (hnm (.inr (.inr ‹_›))) (by intro c t e;obtain ⟨rfl,_⟩:=List.cons.inj e;decide) (lM (c:=40) (by decide) h1)
   simpa using h3
  ·exact RJ (m:=xg (dA k) [32,iq k,32] kids) (ms:=zN (dA k) (sg (iq k)) kids) _ h2 l ts hf hl
theorem Mc:∀(ks:List aA) (i:Nat),sJ ks→∀l ts,lC l→fH l ts→fH (o7 ks i++l) (wK ks i++ts)
 | [],i,h,l,ts,hf,hl=>hl
 | p::r,i,h,l,ts,hf,hl=>by rw [o7,wK];exact BN p i h.head.1 l ts hf hl
theorem Md:∀(f:Bool) (ks:List aA),sJ ks→∀l ts,lC l→fH l ts→fH (kH f ks++l) (qX f ks++ts)
 | f,[],h,l,ts,hf,hl=>by rw [kH,qX];exact hl
 | f,p::r,h,l,ts,hf,hl=>by
  have h1:=Md false r h.head.2 l ts hf hl
  have hf2:lC (kH false r++l):=by
   cases r with
   | nil=>rw [kH];exact hf
   | cons q r=>rw [kH];exact lC.of (by decide)
  have h2:=BN p 1 h.head.1 _ _ hf2 h1
  rw [kH,qX]
  cases f
  ·have h3:=lM (c:=44) (by decide) (jV h2)
   simpa using h3
  ·simpa using h2
theorem ZA:∀(own:Nat) (c:UInt8),(c.toNat∈Aq∧c≠58)→∀(ks:List aA),sJ ks→∀l ts,lC l→fH l ts→fH (xg own [32,c,32] ks++l) (zN own (sg c) ks++ts)
 | own,c,hc,[],h,l,ts,hf,hl=>by rw [xg,zN];exact hl
 | own,c,hc,p::r,h,l,ts,hf,hl=>by
  have h1:=Mc r (own+1) h.head.2 l ts hf hl
  have h2:=BN p own h.head.1 _ _ (lC.of (.inl rfl)) (jV (CZ (c:=c) hc.1 (fun e=>absurd e hc.2) (jV h1)))
  rw [xg,zN]
  simpa using h2
end
end Go.Proofs.YtefjbnhpjdhjmaaGreatDoor

namespace Go.Proofs.YtefjbnhpjdhjmaaGreatDoor
set_option linter.all false
open Go.RowKit
def ae9 (M:Nat) (w:World):Prop:=dO M (.int .i64 0) (.string ⟨#[]⟩) (.int .i64 0) (.string ⟨#[]⟩) (.slice none 0 0) w
structure pU (S:Nat→Prop) (p:aA) (ka:Option Addr) (cap:Nat) (w:World) (t:aj) (n:Int) (nm:aj) (l:List aA) (v:Value) (wx:World):Prop where
 box:dO w.heap.size (.int .i64 p.kind) (.string p.text) (.int .i64 p.n) (.string p.name) (.slice ka p.kids.length cap) wx
 zero:ae9 (w.heap.size+1) wx
 out:dO (w.heap.size+2) (.int .i64 p.kind) (.string t) (.int .i64 n) (.string nm) v wx
 own:∃(cs:List Value) (S':Nat→Prop),cZ wx (w.heap.size+3) 24 5 v l.length cs∧gB wx S' cs l∧∀b,S' b→w.heap.size+2<b∧b<wx.heap.size∧v.ownBlock≠some b
 kids:aI wx S ka p.kids
 kept:Kept aF w wx
 safe:Safe S aF w.heap.size
theorem pU.next {S:Nat→Prop} {p:aA} {ka:Option Addr} {cap:Nat} {w:World} {t:aj} {n:Int} {nm:aj} {l:List aA} {v:Value} {wx w':World} (h:pU S p ka cap w t n nm l v wx) (k:Kept aF wx w'):pU S p ka cap w t n nm l v w':=by
 obtain ⟨cs,S',h1,h2,h3⟩:=h.own
 exact ⟨h.box.kept k (fun h=>h),dO.kept h.zero k (fun h=>h),h.out.kept k (fun h=>h),⟨cs,S',h1.kept k (fun _ _ h=>h),h2.kept k (fun b hb=>⟨(h3 b hb).2.1,fun h=>h⟩),fun b hb=>⟨(h3 b hb).1,Nat.lt_of_lt_of_le (h3 b hb).2.1 k.size,(h3 b hb).2.2⟩⟩,h.kids.kept k (h.safe.mono h.kept.size),h.kept.trans k,h.safe⟩
theorem pU.start {S:Nat→Prop} {p:aA} {ka:Option Addr} {cap:Nat} {w:World} (hk:aI w S ka p.kids) (hs:Safe S aF w.heap.size) :
  pU S p ka cap w ⟨#[]⟩ 0 ⟨#[]⟩ [] (.slice none 0 0) (((w.alloc (.cells #[.int .i64 p.kind,.string p.text,.int .i64 p.n,.string p.name,.slice ka p.kids.length cap] 24)).alloc (.cells #[.int .i64 0,.string ⟨#[]⟩,.int .i64 0,.string ⟨#[]⟩,.slice none 0 0] 24)).alloc (.cells #[.int .i64 p.kind,.string ⟨#[]⟩,.int .i64 0,.string ⟨#[]⟩,.slice none 0 0] 24)):=by
 refine ⟨dO.kept (ay w _) (((Kept.refl aF _).alloc _).alloc _) (fun h=>h),dO.kept (dK (by simp)) ((Kept.refl aF _).alloc _) (fun h=>h),dK (by simp),⟨[],aF,cZ.nil _ _ _ _,by rw [gB],fun b hb=>hb.elim⟩,hk.kept ((((Kept.refl aF _).alloc _).alloc _).alloc _) hs,(((Kept.refl aF _).alloc _).alloc _).alloc _,hs⟩
theorem pU.put {S:Nat→Prop} {p:aA} {ka:Option Addr} {cap:Nat} {w:World} {t t':aj} {n n':Int} {nm nm':aj} {wx w':World} (h:pU S p ka cap w t n nm [] (.slice none 0 0) wx) (k:Kept (· = w.heap.size+2) wx w') (F:dO (w.heap.size+2) (.int .i64 p.kind) (.string t') (.int .i64 n') (.string nm') (.slice none 0 0) w') :
  pU S p ka cap w t' n' nm' [] (.slice none 0 0) w' :=
 ⟨h.box.kept k (by omega),dO.kept h.zero k (by omega),F,⟨[],aF,cZ.nil _ _ _ _,by rw [gB],fun b hb=>hb.elim⟩,h.kids.kept k (fun b hb=>⟨Nat.lt_of_lt_of_le (h.safe b hb).1 h.kept.size,by have:=(h.safe b hb).1;omega⟩),h.kept.step k (fun y hy=>.inr (by omega)),h.safe⟩
theorem dO.st {M:Nat} {c0 c1 c2 c3 c4:Value} {w:World} (h:dO M c0 c1 c2 c3 c4 w) (u:Value) :
  dO M c0 u c2 c3 c4 (w.setCell ⟨M,1,none⟩ u)∧dO M c0 c1 u c3 c4 (w.setCell ⟨M,2,none⟩ u)∧dO M c0 c1 c2 u c4 (w.setCell ⟨M,3,none⟩ u)∧dO M c0 c1 c2 c3 u (w.setCell ⟨M,4,none⟩ u):=by
 unfold dO at h⊢
 refine ⟨?_,?_,?_,?_⟩<;>(rw [aN h];rfl)
def wU (p:aA) (w:World) (e:Ending) (w':World):Prop:=∃v,e=.returned v∧gW w.heap.size (bF p) w' v∧Kept aF w w'
def aec (S:Nat→Prop) (kids:List aA):Prop:=∀(j:Nat) (hj:j<kids.length) (v:Value) (w:World),gZ w S v kids[j]→Safe S aF w.heap.size→Calls Tryz.prog 24 #[v] w (wU kids[j] w)
theorem Yj {S:Nat→Prop} {p q:aA} {ka:Option Addr} {cap:Nat} {w:World} {t:aj} {n:Int} {nm:aj} {l:List aA} {v:Value} {w1 w3 w4:World} {a':Option Addr} {c':Nat} {kc:Option Addr} {dR:Nat} {cs:List Value} {S1 S2:Nat→Prop}
  (I:pU S p ka cap w t n nm l v w1) (h1:cZ w1 (w.heap.size+3) 24 5 v l.length cs) (h2:gB w1 S1 cs l) (h3:∀b,S1 b→w.heap.size+2<b∧b<w1.heap.size∧v.ownBlock≠some b)
  (K3:Kept aF w1 w3) (hz:q.text.size<1000000000∧q.name.size<1000000000∧q.kids.length<1000000000) (hS2:∀b,S2 b→w1.heap.size≤b∧b<w3.heap.size) (hq:aI w3 S2 kc q.kids)
  (hw:cZ w4 (w.heap.size+3) 24 5 (.slice a' (l.length+1) c') (l.length+1) (cs++[.int .i64 q.kind,.string q.text,.int .i64 q.n,.string q.name,.slice kc q.kids.length dR])) (hg:(w3.alloc (.cells #[.int .i64 q.kind,.string q.text,.int .i64 q.n,.string q.name,.slice kc q.kids.length dR] 24)).grownBy w4 v.ownBlock)
  (ho:(Value.slice a' (l.length+1) c').ownBlock=v.ownBlock∨(Value.slice a' (l.length+1) c').ownBlock=some (w3.heap.size+1)) :
  pU S p ka cap w t n nm (l++[q]) (.slice a' (l.length+1) c') (w4.setCell ⟨w.heap.size+2,4,none⟩ (.slice a' (l.length+1) c')):=by
 have kA:Kept aF w3 (w3.alloc (.cells #[.int .i64 q.kind,.string q.text,.int .i64 q.n,.string q.name,.slice kc q.kids.length dR] 24)):=(Kept.refl _ _).alloc _
 have hlow:∀b,v.ownBlock=some b→w.heap.size+3≤b∧b<w1.heap.size:=h1.lt
 have hs3:=K3.size
 have hw1:=I.out.lt
 have yZ:Kept (fun b=>v.ownBlock=some b) w3 w4:=(kA.more fun _ h=>h.elim).grown hg fun b hb=>.inl hb
 have zh:Kept (fun b=>v.ownBlock=some b) w1 w4:=(K3.more fun _ h=>h.elim).trans yZ
 have K5:Kept (· = w.heap.size+2) w4 (w4.setCell ⟨w.heap.size+2,4,none⟩ (.slice a' (l.length+1) c')):=k1 _ _
 have hs4:=zh.size
 have Nk:=yZ.size
 have hnew:∀g,(Value.slice a' (l.length+1) c').ownBlock=some g→w.heap.size+3≤g:=fun g hg=>(hw.lt g hg).1
 refine ⟨(I.box.kept zh (fun h=>by have:=hlow _ h;omega)).kept K5 (by omega),dO.kept (dO.kept I.zero zh (fun h=>by have:=hlow _ h;omega)) K5 (by omega),((I.out.kept zh (fun h=>by have:=hlow _ h;omega)).st _).2.2.2,?_,(I.kids.kept zh (fun b hb=>⟨Nat.lt_of_lt_of_le (I.safe b hb).1 I.kept.size,fun h=>by have:=hlow _ h;have:=(I.safe b hb).1;omega⟩)).kept K5 (fun b hb=>⟨by have:=(I.safe b hb).1;omega,by have:=(I.safe b hb).1;omega⟩),(I.kept.step zh (fun y hy=>.inr (by have:=hlow y hy;omega))).step K5 (fun y hy=>.inr (by omega)),I.safe⟩
 refine ⟨_,fun b=>S1 b∨S2 b,by rw [List.length_append];exact hw.kept K5 (fun g hg=>by have:=hnew g hg;omega),?_,fun b hb=>?_⟩
 ·refine gB.kept (X:=(· = w.heap.size+2)) (w:=w4) ?_ K5 (fun b hb=>⟨by rcases hb with hb|hb;exact Nat.lt_of_lt_of_le (h3 b hb).2.1 hs4;exact Nat.lt_of_lt_of_le (hS2 b hb).2 Nk,by rcases hb with hb|hb;have:=h3 b hb;omega;have:=hS2 b hb;omega⟩)
  refine gB.append ?_ ?_
  ·exact (h2.kept zh (fun b hb=>⟨(h3 b hb).2.1,(h3 b hb).2.2⟩)).more fun b h=>.inl h
  ·rw [gB];refine ⟨_,[],(List.append_nil _).symm,⟨kc,dR,rfl,hz,?_⟩,rfl⟩
   exact aI.to hq yZ (fun b hb=>⟨(hS2 b hb).2,fun h=>by have:=hlow b h;have:=(hS2 b hb).1;omega⟩) (fun b h=>.inr h)
 ·have hs5:=K5.size
  rcases hb with hb|hb
  ·have:=h3 b hb
   refine ⟨this.1,by omega,?_⟩
   rcases ho with h|h
   ·rw [h];exact this.2.2
   ·rw [h];simp;omega
  ·have:=hS2 b hb
   refine ⟨by omega,by omega,?_⟩
   rcases ho with h|h
   ·rw [h];intro h';have:=hlow b h';omega
   ·rw [h];simp;omega
theorem pU.pats {S:Nat→Prop} {p:aA} {ka:Option Addr} {cap:Nat} {w:World} {t:aj} {n:Int} {nm:aj} {l:List aA} {a:Option Addr} {c:Nat} {wx:World} (h:pU S p ka cap w t n nm l (.slice a l.length c) wx) :
  ∃S':Nat→Prop,aI wx S' a l∧∀b,S' b→w.heap.size+2<b∧b<wx.heap.size:=by
 obtain ⟨cs,S',h1,h2,h3⟩:=h.own
 rcases h1.cells with ⟨hv,hn⟩|⟨g,o,c',hv,hg1,hg2,_,_,hc⟩
 ·obtain rfl:=List.length_eq_zero_iff.1 hn
  exact ⟨aF,by unfold aI;trivial,fun b hb=>hb.elim⟩
 ·simp only [Value.slice.injEq,true_and] at hv
  obtain ⟨rfl,rfl⟩:=hv
  refine ⟨fun b=>S' b∨b=g,h2.pats g o (fun j u hu=>(hc j u hu).1),fun b hb=>?_⟩
  rcases hb with hb|rfl
  ·exact ⟨(h3 b hb).1,(h3 b hb).2.1⟩
  ·omega
theorem aaZ {f:Func} (hres:f.results = #[.cell 2 24]) {tmps:Array Value} {S:Nat→Prop} {p:aA} {ka:Option Addr} {cap:Nat} {w wx:World} {k:Int} {t:aj} {n:Int} {nm:aj} {l:List aA} {a:Option Addr} {c:Nat}
  (ht:tmps.getD 2 undef=.pointer (some ⟨w.heap.size+1,0,none⟩)) (I:pU S p ka cap w t n nm l (.slice a l.length c) wx) (hb:bF p=.mk k t n nm l) (hk:p.kind=k) (hz:t.size<1000000000∧nm.size<1000000000∧l.length<1000000000) :
  bodyPost Tryz.prog f (wU p w) .ret ⟨tmps,[]⟩ (bI wx (w.heap.size+1) (.int .i64 k) (.string t) (.int .i64 n) (.string nm) (.slice a l.length c)):=by
 obtain ⟨S',hp,hS⟩:=I.pats
 have K:Kept (· = w.heap.size+1) wx (bI wx (w.heap.size+1) (.int .i64 k) (.string t) (.int .i64 n) (.string nm) (.slice a l.length c)):=(Kept.refl (· = w.heap.size+1) wx).bI (.inl rfl) _ _ _ _ _
 obtain ⟨h0,h1,h2,h3,h4,_⟩:=dO.cells (dO.bI I.zero (.int .i64 k) (.string t) (.int .i64 n) (.string nm) (.slice a l.length c))
 have ht':tmps[2]?.getD undef=.pointer (some ⟨w.heap.size+1,0,none⟩):=by rw [←ht,Array.getD_eq_getD_getElem?]
 refine bodyPost_ret (v:=.agg #[.int .i64 k,.string t,.int .i64 n,.string nm,.slice a l.length c]) (by simp [results,hres,go_sem,ht',h0,h1,h2,h3,h4]) rfl ⟨_,rfl,?_,I.kept.step K (fun y hy=>.inr (by omega))⟩
 rw [hb]
 exact ⟨S',fun b hb=>⟨by have:=hS b hb;omega,Nat.lt_of_lt_of_le (hS b hb).2 K.size⟩,a,c,rfl,hz,hp.kept K (fun b hb=>⟨(hS b hb).2,by have:=hS b hb;omega⟩)⟩
theorem Qp (l:List aA) (j:Nat) (hj:j<l.length):iP (l.take (j+1))=iP (l.take j)++[bF l[j]]:=by
 induction l generalizing j with
 | nil=>simp at hj
 | cons p ps ih =>
  cases j with
  | zero=>simp [iP]
  | succ j=>simp only [List.take_succ_cons,iP,List.cons_append,List.getElem_cons_succ];rw [ih j (by simpa using hj)]
end Go.Proofs.YtefjbnhpjdhjmaaGreatDoor

namespace Go.Proofs.YtefjbnhpjdhjmaaGreatDoor
set_option linter.all false
open Go.RowKit
theorem Ye:∀(m:Nat) (p:aA) (v:Value) (S:Nat→Prop) (w:World),sizeT p≤m→gZ w S v p→Safe S aF w.heap.size→Calls Tryz.prog 25 #[v] w (lU p w):=by
 intro m
 induction m with
 | zero=>intro p v S w hm;have:=mF p;omega
 | succ m ih =>
  intro p v S w hm hp hS
  obtain ⟨k,t,n,nm,kids⟩:=p
  obtain ⟨ka,cap,rfl,hz,hk⟩:=hp
  dsimp only [aA.aZ,aA.aX,aA.eG,aA.aY,aA.aV] at hz hk⊢
  have hih:Bh S kids:=fun j hj v w hv hs=>ih kids[j] v S w (by have:=nI kids j hj;simp only [sizeT] at hm;omega) hv hs
  by_cases c1:k=1
  ·exact Yh k t n nm kids ka cap S w hk hS hz c1 hih
  by_cases c2:aT k
  ·exact Vd k t n nm kids ka cap S w hk hS hz c2 hih
  by_cases c3:bD k
  ·exact Yi k t n nm kids ka cap S w hk hS hz c3 hih
  by_cases c4:bf k
  ·exact Ve k t n nm kids ka cap S w hk hS hz c4 hih
  ·exact Vf k t n nm kids ka cap S w hk hS hz ⟨c1,c2,c3,c4⟩ hih
end Go.Proofs.YtefjbnhpjdhjmaaGreatDoor

namespace Go.Proofs.YtefjbnhpjdhjmaaGreatDoor
set_option linter.all false
open Go.RowKit
theorem bn {l:List aC} {t:Tk} {u:List Tk} (h:l.map kt=t::u):∃a l',l=a::l'∧kt a=t∧l'.map kt=u:=List.map_eq_cons_iff.1 h
theorem zO {l:List aC} (h:l.map kt=[]):l=[]:=List.map_eq_nil_iff.1 h
theorem jg {a:aC} {l:List aC} {c:UInt8} (h:kt a=sg c):aJ (bs [c]) (a::l)=true:=by
 obtain ⟨h1,h2⟩:=Prod.mk.inj h
 unfold aJ;exact ak ⟨h1,h2⟩
theorem jJ {l:List aC} {r:List Tk} {c:UInt8} (h:l.map kt=r) (hn:∀t u,r=t::u→t≠sg c):aJ (bs [c]) l=false:=by
 cases l with
 | nil=>rfl
 | cons a l =>
  unfold aJ
  refine au ?_
  rintro ⟨h1,h2⟩
  exact hn (kt a) (l.map kt) h.symm (Prod.ext h1 h2)
theorem uP {en:Nat} {a:aC} {l:List aC} {c:UInt8} (h:kt a=sg c):eY (bs [c]) en (a::l)=.ok l:=by
 unfold eY;rw [if_pos (jg h)];rfl
theorem uQ {en:Nat} {a:aC} {l:List aC} {k:Int} (h:a.kind=k):fP k en (a::l)=.ok (a,l):=by
 show (if a.kind=k then _ else _)=_
 rw [if_pos h]
theorem xC {en:Nat} {a:aC} {l:List aC} {k:Int} (h:a.kind≠k):fP k en (a::l)=.error (2,a.at_):=by
 show (if a.kind=k then _ else _)=_
 rw [if_neg h]
theorem oz {en:Nat} {a:aC} {l:List aC} {nm:aj} (h:kt a=(1,nm)) (hs:nm.size≤16):eF en (a::l)=.ok (nm,l):=by
 obtain ⟨h1,h2⟩:=Prod.mk.inj h
 unfold eF
 rw [uQ h1]
 dsimp only
 rw [h2,if_neg (by omega)]
def zQ (en d bH:Nat):List aC→bK aA :=
 if bH=1 then mQ 1 (mQ 2 (mQ 3 (jv en d).1)) else if bH=2 then mQ 2 (mQ 3 (jv en d).1) else if bH=3 then mQ 3 (jv en d).1 else if bH=4 then (jv en d).1 else (jv en d).2
def Py (t:Tk) (bH:Nat):Int:=if t.1=5 then zx bH t.2 else 0
def Stp (bH:Nat) (r:List Tk):Prop:=∀t u,r=t::u→t≠sg 60∧t≠sg 40∧∀j,bH≤j→j≤3→Py t j=0
def ER (en d bH:Nat) (p:aA):Prop:=∀l r,l.map kt=toks p bH++r→Stp bH r→∃r',zQ en d bH l=.ok (bF p,r')∧r'.map kt=r
def CR (en d bH:Nat) (p:aA):Prop:=∀l r,l.map kt=toks p bH++r→Stp (bH+1) r→∃r' f,r'.length≤f∧zQ en d bH l=lZ bH (zQ en d (bH+1)) f (bF p) r'∧r'.map kt=r
theorem aby {en d bH:Nat} (h1:1≤bH) (h3:bH≤3):zQ en d bH=mQ bH (zQ en d (bH+1)):=by
 have:bH=1∨bH=2∨bH=3:=by omega
 rcases this with rfl|rfl|rfl<;>rfl
theorem aem {bH:Nat} {l:List aC} {r:List Tk} (h:l.map kt=r) (hn:∀t u,r=t::u→Py t bH=0):opAt bH l=0:=by
 cases l with
 | nil=>rfl
 | cons a l=>exact hn (kt a) (l.map kt) h.symm
theorem Ur {bH:Nat} {sub:List aC→bK aA} {f:Nat} {x:aA} {l:List aC} (h:opAt bH l=0):lZ bH sub f x l=.ok (x,l):=by
 cases f with
 | zero=>rfl
 | succ f=>rw [lZ,h,if_neg (by omega)]
theorem Stp.up {bH:Nat} {r:List Tk} (h:Stp bH r):Stp (bH+1) r:=fun t u e=>⟨(h t u e).1,(h t u e).2.1,fun j hj=>(h t u e).2.2 j (by omega)⟩
theorem Stp.nil (bH:Nat):Stp bH []:=by intro t u e;cases e
theorem Stp.of {bH:Nat} {t:Tk} {u:List Tk} (h1:t≠sg 60) (h2:t≠sg 40) (h3:∀j,bH≤j→j≤3→Py t j=0):Stp bH (t::u):=by
 intro a b e;obtain ⟨rfl,_⟩:=List.cons.inj e;exact ⟨h1,h2,h3⟩
theorem pR {a b:UInt8} (h:a≠b):sg a≠sg b:=by
 intro e
 have h2:=congrArg (fun x:Tk=>x.2.data.toList) e
 exact h (List.cons.inj h2).1
theorem FC {a b:UInt8} (h:a≠b):(⟨#[a]⟩:aj)≠bs [b]:=by
 intro e
 have h2:=congrArg (fun x:aj=>x.data.toList) e
 exact h (List.cons.inj h2).1
theorem ZB {c:UInt8} (h:c≠38∧c≠43∧c≠45∧c≠42∧c≠47∧c≠37) (j:Nat):Py (sg c) j=0:=by
 obtain ⟨h1,h2,h3,h4,h5,h6⟩:=h
 unfold Py sg
 dsimp only
 rw [if_pos rfl]
 unfold zx
 rw [if_neg (FC h1),if_neg (FC h2),if_neg (FC h3),if_neg (FC h4),if_neg (FC h5),if_neg (FC h6)]
 split
 ·rfl
 split<;>rfl
theorem Pz {k:Int} (h:8≤k∧k≤13) (j:Nat) (h1:1≤j) (h3:j≤3):Py (sg (iq k)) j=if dA k=j then k else 0:=by
 have hk:k=8∨k=9∨k=10∨k=11∨k=12∨k=13:=by omega
 have hj:j=1∨j=2∨j=3:=by omega
 rcases hk with rfl|rfl|rfl|rfl|rfl|rfl<;>rcases hj with rfl|rfl|rfl<;>decide
theorem Stp.sign {bH:Nat} {c:UInt8} {u:List Tk} (h:c≠60∧c≠40) (h2:c≠38∧c≠43∧c≠45∧c≠42∧c≠47∧c≠37):Stp bH (sg c::u):=Stp.of (pR h.1) (pR h.2) fun j _ _=>ZB h2 j
theorem PD {en d bH:Nat} {p:aA} (h:CR en d bH p) (hl:bH≤3):ER en d bH p:=by
 intro l r e hs
 obtain ⟨r',f,_,e1,e2⟩:=h l r e hs.up
 exact ⟨r',by rw [e1,Ur (aem e2 fun t u e=>(hs t u e).2.2 bH (Nat.le_refl _) hl)],e2⟩
theorem abz {en d bH:Nat} {p:aA} (h1:1≤bH) (h3:bH≤3) (ht:toks p bH=toks p (bH+1)) (h:ER en d (bH+1) p):CR en d bH p:=by
 intro l r e hs
 rw [ht] at e
 obtain ⟨r',e1,e2⟩:=h l r e hs
 exact ⟨r',r'.length,Nat.le_refl _,by rw [aby h1 h3];unfold mQ;rw [e1],e2⟩
theorem aen {en d:Nat} {l:List aC} (h:aJ (bs [45]) l=false):(jv en d).1 l=(jv en d).2 l:=by
 cases d with
 | zero=>show ug (fun l=>.error (4,fV en l)) (jv en 0).2 l=_;unfold ug;rw [h,if_neg (by decide)]
 | succ d=>show ug (jv en d).1 (jv en (d+1)).2 l=_;unfold ug;rw [h,if_neg (by decide)]
theorem abA {en d:Nat} {p:aA} (ht:toks p 4=toks p 5) (hf:∀t u,toks p 5=t::u→t≠sg 45) (hne:toks p 5≠[]) (h:ER en d 5 p):ER en d 4 p:=by
 intro l r e hs
 rw [ht] at e
 have hs5:Stp 5 r:=fun t u e=>⟨(hs t u e).1,(hs t u e).2.1,fun j h1 h2=>by omega⟩
 obtain ⟨r',e1,e2⟩:=h l r e hs5
 refine ⟨r',?_,e2⟩
 have hx:aJ (bs [45]) l=false:=jJ e fun t u ee=>by
  cases hc:toks p 5 with
  | nil=>exact absurd hc hne
  | cons a b=>rw [hc] at ee;obtain ⟨rfl,_⟩:=List.cons.inj ee;exact hf _ _ hc
 show (jv en d).1 l=_
 rw [aen hx];exact e1
theorem Kw {en d:Nat} {p:aA} {top:Nat} (h5:top≤5) (hf:∀t u,toks p 5=t::u→top=5→t≠sg 45) (hne:toks p 5≠[]) (h:ER en d top p) (hc:top≤3→CR en d top p) :
  ∀(j bH:Nat),bH+j=top→1≤bH→(∀i,bH≤i→i≤top→toks p i=toks p top)→ER en d bH p∧(bH≤3→CR en d bH p)
 | 0,bH,e,h1,ht=>by
  have:bH=top:=by omega
  subst this;exact ⟨h,hc⟩
 | j+1,bH,e,h1,ht=>by
  obtain ⟨a,_⟩:=Kw h5 hf hne h hc j (bH+1) (by omega) (by omega) fun i hi=>ht i (by omega)
  have te:toks p bH=toks p (bH+1):=(ht bH (Nat.le_refl _) (by omega)).trans (ht (bH+1) (by omega) (by omega)).symm
  by_cases h3:bH≤3
  ·have c:=abz h1 h3 te a
   exact ⟨PD c h3,fun _=>c⟩
  ·have:bH=4:=by omega
   subst this
   exact ⟨abA te (fun t u e=>hf t u e (by omega)) hne a,fun h=>absurd h h3⟩
theorem Ar (k:Int):1≤dA k∧dA k≤5:=by
 unfold dA
 split
 ·omega
 split
 ·omega
 split
 ·omega
 split<;>omega
theorem zS {k n:Int} {t nm:aj} {kids:List aA} (i:Nat) (h5:i≤5):toks (.mk k t n nm kids) i=H8 (decide (dA k<i)) (toks (.mk k t n nm kids) 1):=by
 have ho:=Ar k
 rw [toks,toks]
 have hd1:decide (dA k<1)=false:=au (by omega)
 have hd4:decide (4<1)=false:=rfl
 have leaf:∀(k:Int) (l:List Tk),(k=1∨k=2∨k=3∨k=4∨k=5∨k=6)→l=H8 (decide (dA k<i)) l:=by
  intro k l hk
  have:dA k=5:=by unfold dA;rw [if_neg (by omega),if_neg (by omega),if_neg (by omega),if_neg (by omega)]
  rw [this,au (by omega)];rfl
 split
 ·exact leaf _ _ (by omega)
 split
 ·exact leaf _ _ (by omega)
 split
 ·exact leaf _ _ (by omega)
 split
 ·exact leaf _ _ (by omega)
 split
 ·exact leaf _ _ (by omega)
 split
 ·subst k;rfl
 split
 ·exact leaf _ _ (by omega)
 ·rw [hd1];rfl
def AZ (t:Tk):Prop:=t.1≠5∨t=sg 36∨t=sg 40∨t=sg 45
theorem AZ.of {a:Int} {x:aj} (h:a≠5):AZ (a,x):=.inl h
theorem AZ.ne {t:Tk} {c:UInt8} (h:AZ t) (hc:36≠c∧40≠c∧45≠c):t≠sg c:=by
 intro e
 rcases h with h|h|h|h
 ·exact h (by rw [e];rfl)
 ·exact pR hc.1 (h.symm.trans e)
 ·exact pR hc.2.1 (h.symm.trans e)
 ·exact pR hc.2.2 (h.symm.trans e)
theorem xW:∀(p:aA) (i:Nat),lS p→∃t u,toks p i=t::u∧AZ t∧(i=5→t≠sg 45)
 | .mk k t n nm kids,i,h=>by
  have hk:=h.facts.1
  have hkd:∀(a:Int) (x:aj) (c:UInt8),a≠5→((a,x):Tk)≠sg c:=fun a x c ha e=>ha (Prod.mk.inj e).1
  rw [toks]
  split
  ·exact ⟨_,_,rfl,AZ.of (by decide),fun _=>hkd _ _ _ (by decide)⟩
  split
  ·exact ⟨_,_,rfl,AZ.of (by decide),fun _=>hkd _ _ _ (by decide)⟩
  split
  ·exact ⟨_,_,rfl,AZ.of (by decide),fun _=>hkd _ _ _ (by decide)⟩
  split
  ·exact ⟨_,_,rfl,AZ.of (by decide),fun _=>hkd _ _ _ (by decide)⟩
  split
  ·exact ⟨_,_,rfl,.inr (.inl rfl),fun _=>pR (by decide)⟩
  split
  ·by_cases hi:4<i
   ·rw [ak hi];exact ⟨_,_,rfl,.inr (.inr (.inl rfl)),fun _=>pR (by decide)⟩
   ·rw [au hi];exact ⟨_,_,rfl,.inr (.inr (.inr rfl)),fun e=>absurd e (by omega)⟩
  split
  ·exact ⟨_,_,rfl,AZ.of (by decide),fun _=>hkd _ _ _ (by decide)⟩
  ·rename_i c1 c2 c3 c4 c5 c7 c6
   by_cases hi:dA k<i
   ·rw [ak hi];exact ⟨_,_,rfl,.inr (.inr (.inl rfl)),fun _=>pR (by decide)⟩
   ·obtain ⟨a,b,hab⟩:=h.two (by omega)
    subst hab
    obtain ⟨x,u,e,h1,h2⟩:=xW a (dA k) h.sub.head.1
    rw [au hi]
    have ho:i≠5:=by
     have:dA k≤3:=by
      unfold dA
      split
      ·omega
      split
      ·omega
      split
      ·omega
      ·omega
     omega
    show ∃t u,zN _ _ _=_∧_
    rw [zN,e]
    exact ⟨x,_,rfl,h1,fun e=>absurd e ho⟩
theorem abB (p:aA) (i:Nat) (h:lS p):toks p i≠[]:=by
 obtain ⟨t,u,e,_⟩:=xW p i h
 rw [e];simp
theorem Ky (en d:Nat):∃ex pp,(jv en d).2=bP ex pp en:=by
 cases d with
 | zero=>exact ⟨fun l=>.error (4,fV en l),fun l=>.error (4,fV en l),rfl⟩
 | succ d=>exact ⟨Ef (jv en d).1,(jv en d).2,rfl⟩
theorem RN:∀(g u:Nat),u<10 ^ g→qQ (Lib.decDigits u)=u
 | 0,u,h=>by
  have:u=0:=by simpa using h
  subst this;rw [Lib.decDigits,dif_pos (by omega)];rfl
 | g+1,u,h=>by
  by_cases h10:u<10
  ·rw [Lib.decDigits,dif_pos h10]
   unfold qQ
   simp;omega
  ·have ih:=RN g (u/10) (by rw [Nat.pow_succ] at h;omega)
   rw [Lib.decDigits,dif_neg h10]
   unfold qQ at ih⊢
   rw [List.foldl_append,ih]
   simp;omega
section
variable {en d:Nat} {t nm:aj} {n:Int} {kids:List aA}
theorem abC:ER en d 5 (.mk 1 t n nm []):=by
 intro l r e hs
 obtain ⟨ex,pp,hp⟩:=Ky en d
 rw [toks,if_pos rfl] at e
 obtain ⟨a,l',rfl,ha,hl⟩:=bn e
 obtain ⟨h1,h2⟩:=Prod.mk.inj ha
 have n1:∀c,aJ (bs [c]) (a::l')=false:=fun c=>jJ e fun x u ee=>by
  obtain ⟨rfl,_⟩:=List.cons.inj ee
  intro q;exact absurd (Prod.mk.inj q).1 (by decide)
 refine ⟨l',?_,hl⟩
 show (jv en d).2 _=_
 rw [hp]
 unfold bP
 rw [n1,if_neg (by decide),n1,if_neg (by decide),uQ h1]
 dsimp only
 rw [h2];rfl
theorem adC (h0:0≤n) (h1:n≤9223372036854775807):ER en d 5 (.mk 2 t n nm []):=by
 intro l r e hs
 obtain ⟨ex,pp,hp⟩:=Ky en d
 rw [toks,if_neg (by decide),if_pos rfl] at e
 obtain ⟨a,l',rfl,ha,hl⟩:=bn e
 obtain ⟨k1,k2⟩:=Prod.mk.inj ha
 have n1:∀c,aJ (bs [c]) (a::l')=false:=fun c=>jJ e fun x u ee=>by
  obtain ⟨rfl,_⟩:=List.cons.inj ee
  intro q;exact absurd (Prod.mk.inj q).1 (by decide)
 refine ⟨l',?_,hl⟩
 obtain ⟨c,m,ed,hc,hw,hz⟩:=zM 19 n.toNat (by omega)
 have hv:=RN 19 n.toNat (by omega)
 show (jv en d).2 _=_
 rw [hp]
 unfold bP
 rw [n1,if_neg (by decide),n1,if_neg (by decide),xC (by rw [k1];decide)]
 dsimp only
 rw [uQ k1]
 dsimp only
 unfold Ce
 have e2:a.text.data.toList=Lib.decDigits n.toNat:=by rw [k2]
 have e3:a.text.size=(Lib.decDigits n.toNat).length:=by rw [k2];show (Lib.decDigits n.toNat).toArray.size=_;simp
 rw [e2,hv,if_neg,if_neg (by omega),bF,iP,Int.toNat_of_nonneg h0]
 ·rfl
 ·rw [e3,ed]
  rintro ⟨q1,q2⟩
  simp only [List.head?_cons,Option.some.injEq] at q2
  subst q2
  refine hz ?_ rfl
  intro hm;subst hm;simp at q1
theorem abD (hn:nm.size≤16):ER en d 5 (.mk 3 t n nm []):=by
 intro l r e hs
 obtain ⟨ex,pp,hp⟩:=Ky en d
 rw [toks,if_neg (by decide),if_neg (by decide),if_pos rfl] at e
 obtain ⟨a,l',rfl,ha,hl⟩:=bn e
 have k1:a.kind=1:=(Prod.mk.inj ha).1
 have n1:∀c,aJ (bs [c]) (a::l')=false:=fun c=>jJ e fun x u ee=>by
  obtain ⟨rfl,_⟩:=List.cons.inj ee
  intro q;exact absurd (Prod.mk.inj q).1 (by decide)
 refine ⟨l',?_,hl⟩
 show (jv en d).2 _=_
 rw [hp]
 unfold bP
 rw [n1,if_neg (by decide),n1,if_neg (by decide),xC (by rw [k1];decide)]
 dsimp only
 rw [xC (by rw [k1];decide)]
 dsimp only
 rw [oz ha hn]
 dsimp only
 rw [jJ hl fun x u ee=>(hs x u ee).1,if_neg (by decide),jJ hl fun x u ee=>(hs x u ee).2.1,if_neg (by decide)]
 rfl
theorem abE {q:aA} (hn:nm.size≤16) (hq:ER en d 1 q):ER en (d+1) 5 (.mk 4 t n nm [q]):=by
 intro l r e hs
 rw [toks,if_neg (by decide),if_neg (by decide),if_neg (by decide),if_pos rfl,wK] at e
 obtain ⟨a,l1,rfl,ha,h1⟩:=bn e
 have k1:a.kind=1:=(Prod.mk.inj ha).1
 have n1:∀c,aJ (bs [c]) (a::l1)=false:=fun c=>jJ e fun x u ee=>by
  obtain ⟨rfl,_⟩:=List.cons.inj ee
  intro q;exact absurd (Prod.mk.inj q).1 (by decide)
 obtain ⟨b,l2,rfl,hb,h2⟩:=bn h1
 have h2:l2.map kt=toks q 1++(sg 62::r):=h2.trans (List.append_assoc (toks q 1) [sg 62] r)
 obtain ⟨l3,e3,h3⟩:=hq l2 _ h2 (Stp.sign (by decide) (by decide))
 obtain ⟨z,l4,rfl,hz,h4⟩:=bn h3
 refine ⟨l4,?_,h4⟩
 show bP (zQ en d 1) _ en _=_
 unfold bP
 rw [n1,if_neg (by decide),n1,if_neg (by decide),xC (by rw [k1];decide)]
 dsimp only
 rw [xC (by rw [k1];decide)]
 dsimp only
 rw [oz ha hn]
 dsimp only
 rw [jg hb,if_pos rfl]
 show (match zQ en d 1 l2 with | .error er=>_ | .ok (x,r2)=>_)=_
 rw [e3]
 dsimp only
 rw [uP hz]
 rfl
theorem adD {q:aA} (hq:ER en d 5 q):ER en (d+1) 5 (.mk 5 t n nm [q]):=by
 intro l r e hs
 rw [toks,if_neg (by decide),if_neg (by decide),if_neg (by decide),if_neg (by decide),if_pos rfl,wK] at e
 obtain ⟨a,l1,rfl,ha,h1⟩:=bn e
 obtain ⟨l3,e3,h3⟩:=hq l1 _ h1 hs
 refine ⟨l3,?_,h3⟩
 show bP _ (zQ en d 5) en _=_
 unfold bP
 rw [jJ e fun x u ee=>by obtain ⟨rfl,_⟩:=List.cons.inj ee;exact pR (by decide),if_neg (by decide),jg ha,if_pos rfl]
 show (match zQ en d 5 l1 with | .error er=>_ | .ok (x,r2)=>_)=_
 rw [e3];rfl
theorem adE {q:aA} (hq:ER en d 4 q):ER en (d+1) 4 (.mk 7 t n nm [q]):=by
 intro l r e hs
 rw [toks,if_neg (by decide),if_neg (by decide),if_neg (by decide),if_neg (by decide),if_neg (by decide),if_pos rfl,wK] at e
 obtain ⟨a,l1,rfl,ha,h1⟩:=bn (show _=sg 45::(toks q 4++r) from e)
 obtain ⟨l3,e3,h3⟩:=hq l1 _ h1 hs
 refine ⟨l3,?_,h3⟩
 show ug (zQ en d 4) _ _=_
 unfold ug
 rw [jg ha,if_pos rfl]
 show (match zQ en d 4 l1 with | .error er=>_ | .ok (x,r2)=>_)=_
 rw [e3];rfl
theorem Me:∀(q:aA) (kids:List aA),sJ (q::kids)→(∀x∈q::kids,ER en d 1 x)→∀(f:Nat) (ks:List aA) (l:List aC) (r:List Tk),ks.length+(q::kids).length≤8→(q::kids).length≤f→
  l.map kt=qX true (q::kids)++(sg 41::r)→∃r',lD (zQ en d 1) en f ks l=.ok (ks++iP (q::kids),r')∧r'.map kt=r
 | q,[],ho,h,f,ks,l,r,h8,hf,e=>by
  obtain ⟨f,rfl⟩:∃g,f=g+1:=⟨f-1,by simp at hf;omega⟩
  rw [qX,qX] at e
  simp only [if_true,List.nil_append,List.append_nil] at e
  obtain ⟨l1,e1,h1⟩:=h q (by simp) l _ e (Stp.sign (by decide) (by decide))
  obtain ⟨a,l2,rfl,ha,h2⟩:=bn h1
  refine ⟨l2,?_,h2⟩
  rw [lD,if_neg (by simp at h8;omega),e1]
  dsimp only
  rw [jg ha,if_pos rfl,iP,iP];rfl
 | q,q2::kids,ho,h,f,ks,l,r,h8,hf,e=>by
  obtain ⟨f,rfl⟩:∃g,f=g+1:=⟨f-1,by simp at hf;omega⟩
  rw [qX,qX] at e
  simp only [if_true,List.nil_append,List.append_assoc,Bool.false_eq_true,if_false,List.singleton_append,List.cons_append] at e
  obtain ⟨l1,e1,h1⟩:=h q (by simp) l _ e (Stp.sign (by decide) (by decide))
  obtain ⟨a,l2,rfl,ha,h2⟩:=bn h1
  obtain ⟨r',e3,h3⟩:=Me q2 kids ho.head.2 (fun x hx=>h x (by simp at hx⊢;right;exact hx)) f (ks++[bF q]) l2 r (by simp at h8⊢;omega) (by simp at hf⊢;omega) (by rw [qX];simpa using h2)
  refine ⟨r',?_,h3⟩
  rw [lD,if_neg (by simp at h8;omega),e1]
  dsimp only
  rw [jJ h1 fun x u ee=>by obtain ⟨rfl,_⟩:=List.cons.inj ee;exact pR (by decide),if_neg (by decide),uP ha]
  dsimp only
  rw [e3,iP,List.append_assoc];rfl
theorem abG (hn:nm.size≤16) (h8:kids.length≤8) (ho:sJ kids) (hq:∀x∈kids,ER en d 1 x):ER en (d+1) 5 (.mk 6 t n nm kids):=by
 intro l r e hs
 rw [toks,if_neg (by decide),if_neg (by decide),if_neg (by decide),if_neg (by decide),if_neg (by decide),if_neg (by decide),if_pos rfl] at e
 obtain ⟨a,l1,rfl,ha,h1⟩:=bn e
 have k1:a.kind=1:=(Prod.mk.inj ha).1
 have n1:∀c,aJ (bs [c]) (a::l1)=false:=fun c=>jJ e fun x u ee=>by
  obtain ⟨rfl,_⟩:=List.cons.inj ee
  intro q;exact absurd (Prod.mk.inj q).1 (by decide)
 obtain ⟨b,l2,rfl,hb,h2⟩:=bn h1
 have h2:l2.map kt=qX true kids++(sg 41::r):=h2.trans (List.append_assoc (qX true kids) [sg 41] r)
 have key:∃r',r'.map kt=r∧(if aJ (bs [41]) l2=true then (.ok (.mk 6 E0 0 nm [],l2.tail):bK aA) else match lD (zQ en d 1) en 9 [] l2 with | .error er=>.error er | .ok (ks,r2)=>.ok (.mk 6 E0 0 nm ks,r2))=.ok (bF (.mk 6 t n nm kids),r'):=by
  cases kids with
  | nil =>
   rw [qX,List.nil_append] at h2
   obtain ⟨z,l3,rfl,hz,h3⟩:=bn h2
   exact ⟨l3,h3,by rw [jg hz,if_pos rfl];rfl⟩
  | cons q kids =>
   obtain ⟨l3,e3,h3⟩:=Me q kids ho hq 9 [] l2 r (by simpa using h8) (by omega) h2
   refine ⟨l3,h3,?_⟩
   obtain ⟨x,u,ex,hx,_⟩:=xW q 1 ho.head.1
   rw [jJ h2 fun y v ee=>by rw [qX] at ee;simp only [if_true,List.nil_append,ex,List.cons_append] at ee;obtain ⟨rfl,_⟩:=List.cons.inj ee;exact hx.ne (by decide),if_neg (by decide),e3]
   rfl
 obtain ⟨r',h3,e3⟩:=key
 refine ⟨r',?_,h3⟩
 show bP (zQ en d 1) _ en _=_
 unfold bP
 rw [n1,if_neg (by decide),n1,if_neg (by decide),xC (by rw [k1];decide)]
 dsimp only
 rw [xC (by rw [k1];decide)]
 dsimp only
 rw [oz ha hn]
 dsimp only
 rw [jJ h1 fun x u ee=>by obtain ⟨rfl,_⟩:=List.cons.inj ee;exact pR (by decide),if_neg (by decide),jg hb,if_pos rfl]
 exact e3
theorem adF {k:Int} {p q:aA} (hk:8≤k∧k≤13) (hp:CR en d (dA k) p) (hq:ER en d (dA k+1) q):CR en d (dA k) (.mk k t n nm [p,q]):=by
 have ho:1≤dA k∧dA k≤3:=by
  refine ⟨(Ar k).1,?_⟩
  unfold dA
  split
  ·omega
  split
  ·omega
  split
  ·omega
  ·omega
 intro l r e hs
 have et:toks (.mk k t n nm [p,q]) (dA k)=toks p (dA k)++(sg (iq k)::toks q (dA k+1)):=by
  rw [toks,if_neg (by omega),if_neg (by omega),if_neg (by omega),if_neg (by omega),if_neg (by omega),if_neg (by omega),if_neg (by omega),au (by omega)]
  show zN _ _ _=_
  rw [zN,wK]
 rw [et,List.append_assoc] at e
 have hkr:iq k≠60∧iq k≠40:=by
  have hk:k=8∨k=9∨k=10∨k=11∨k=12∨k=13:=by omega
  rcases hk with rfl|rfl|rfl|rfl|rfl|rfl<;>decide
 obtain ⟨l1,f,hf,e1,h1⟩:=hp l _ e (Stp.of (pR hkr.1) (pR hkr.2) fun j h1 h2=>by rw [Pz hk j (by omega) h2,if_neg (by omega)])
 obtain ⟨a,l2,rfl,ha,h2⟩:=bn h1
 obtain ⟨l3,e3,h3⟩:=hq l2 r h2 hs
 obtain ⟨f,rfl⟩:∃g,f=g+1:=⟨f-1,by simp at hf;omega⟩
 have hop:opAt (dA k) (a::l2)=k:=by
  have:opAt (dA k) (a::l2)=Py (kt a) (dA k):=rfl
  rw [this,ha,Pz hk _ ho.1 ho.2,if_pos rfl]
 have hlen:l3.length≤f:=by
  have q1:=congrArg List.length (show l2.map kt=toks q (dA k+1)++r from h2)
  have q2:=congrArg List.length h3
  simp only [List.length_map,List.length_append] at q1 q2
  simp only [List.length_cons] at hf
  omega
 refine ⟨l3,f,hlen,?_,h3⟩
 rw [e1,lZ,hop,if_pos (by omega),List.tail_cons,e3]
 dsimp only
 rw [bF,iP,iP,iP,if_neg (by omega),if_neg (by omega),if_neg (by omega)];rfl
end
theorem PE {q:aA}:∀{l:List aA},q∈l→fA q≤iy l
 | p::r,h=>by
  rw [iy]
  rcases List.mem_cons.1 h with rfl|h
  ·omega
  ·have:=PE h;omega
theorem RQ {q:aA}:∀{l:List aA},q∈l→sizeT q≤aO l
 | p::r,h=>by
  rw [aO]
  rcases List.mem_cons.1 h with rfl|h
  ·omega
  ·have:=RQ h;omega
theorem sJ.mem {q:aA}:∀{l:List aA},sJ l→q∈l→lS q
 | p::r,h,hq=>by
  rcases List.mem_cons.1 hq with rfl|hq
  ·exact h.head.1
  ·exact h.head.2.mem hq
theorem ZC (en:Nat):∀(m:Nat) (p:aA),sizeT p≤m→lS p→∀d,(2*fA p≤d+1→∀bH,1≤bH→bH≤dA p.kind→ER en d bH p∧(bH≤3→CR en d bH p))∧(2*fA p≤d→∀bH,1≤bH→bH≤5→ER en d bH p∧(bH≤3→CR en d bH p)):=by
 intro m
 induction m with
 | zero=>intro p h;have:=mF p;omega
 | succ m ih =>
  intro p hm h
  obtain ⟨k,t,n,nm,kids⟩:=p
  obtain ⟨hk,ht,hn,hn2,hnm,hk6,hkk⟩:=h.facts
  have ho:=Ar k
  have hne:=abB (.mk k t n nm kids) 5 h
  have hft:∀x u,toks (.mk k t n nm kids) 5=x::u→x≠sg 45:=by
   obtain ⟨x,u,e,_,h2⟩:=xW _ 5 h
   intro y v e2
   rw [e] at e2
   obtain ⟨rfl,_⟩:=List.cons.inj e2
   exact h2 rfl
  have hd:fA (.mk k t n nm kids)=1+iy kids:=by rw [fA]
  have kid:∀q∈kids,∀d,(2*iy kids≤d→∀bH,1≤bH→bH≤5→ER en d bH q∧(bH≤3→CR en d bH q)):=by
   intro q hq d hdl
   have h1:=RQ hq
   have h2:=PE hq
   rw [sizeT] at hm
   exact (ih q (by omega) (h.sub.mem hq) d).2 (by omega)
  have raw:∀d,2*fA (.mk k t n nm kids)≤d+1→ER en d (dA k) (.mk k t n nm kids)∧(dA k≤3→CR en d (dA k) (.mk k t n nm kids)):=by
   intro d hb
   rw [hd] at hb
   have afk:(k=1∨k=2∨k=3∨k=4∨k=5∨k=6)→dA k=5:=fun e=>by unfold dA;rw [if_neg (by omega),if_neg (by omega),if_neg (by omega),if_neg (by omega)]
   have lift:(k=1∨k=2∨k=3∨k=4∨k=5∨k=6)→ER en d 5 (.mk k t n nm kids)→ER en d (dA k) (.mk k t n nm kids)∧(dA k≤3→CR en d (dA k) (.mk k t n nm kids)):=fun e hx=>by rw [afk e];exact ⟨hx,fun q=>absurd q (by omega)⟩
   obtain ⟨d',rfl⟩:∃d',d=d'+1:=⟨d-1,by omega⟩
   by_cases k1:k=1
   ·obtain rfl:=h.none (by omega);subst k1;exact lift (by omega) abC
   by_cases k2:k=2
   ·obtain rfl:=h.none (by omega);exact lift (by omega) (by subst k2;exact adC (hn rfl) hn2)
   by_cases k3:k=3
   ·obtain rfl:=h.none (by omega);exact lift (by omega) (by subst k3;exact abD (hnm (by omega)))
   by_cases k4:k=4
   ·obtain ⟨q,rfl⟩:=h.one (by omega)
    exact lift (by omega) (by subst k4;exact abE (hnm (by omega)) (kid q (by simp) d' (by omega) 1 (by omega) (by omega)).1)
   by_cases k5:k=5
   ·obtain ⟨q,rfl⟩:=h.one (by omega)
    exact lift (by omega) (by subst k5;exact adD (kid q (by simp) d' (by omega) 5 (by omega) (by omega)).1)
   by_cases k6:k=6
   ·exact lift (by omega) (by subst k6;exact abG (hnm (by omega)) (hk6 rfl) h.sub fun x hx=>(kid x hx d' (by omega) 1 (by omega) (by omega)).1)
   by_cases k7:k=7
   ·obtain ⟨q,rfl⟩:=h.one (by omega)
    subst k7
    exact ⟨adE (kid q (by simp) d' (by omega) 4 (by omega) (by omega)).1,fun q=>absurd q (by decide)⟩
   ·obtain ⟨a,b,rfl⟩:=h.two (by omega)
    have ho3:dA k≤3:=by
     unfold dA
     split
     ·omega
     split
     ·omega
     split
     ·omega
     ·omega
    have hc:=adF (t:=t) (n:=n) (nm:=nm) (en:=en) (d:=d'+1) ⟨by omega,hk.2⟩ ((kid a (by simp) (d'+1) (by omega) (dA k) ho.1 (by omega)).2 ho3) (kid b (by simp) (d'+1) (by omega) (dA k+1) (by omega) (by omega)).1
    exact ⟨PD hc ho3,fun _=>hc⟩
  have low:∀d,2*fA (.mk k t n nm kids)≤d+1→∀bH,1≤bH→bH≤dA k→ER en d bH (.mk k t n nm kids)∧(bH≤3→CR en d bH (.mk k t n nm kids)):=by
   intro d hb bH h1 h2
   obtain ⟨a,b⟩:=raw d hb
   exact Kw ho.2 (fun x u e _=>hft x u e) hne a b (dA k-bH) bH (by omega) h1 fun i hi hj=>by
    rw [zS i (by omega),zS (dA k) ho.2,au (by omega),au (by omega)]
  intro d
  refine ⟨low d,fun hb bH h1 h5=>?_⟩
  by_cases hl:bH≤dA k
  ·exact low d (by omega) bH h1 hl
  ·obtain ⟨d',rfl⟩:∃d',d=d'+1:=⟨d-1,by omega⟩
   have five:ER en (d'+1) 5 (.mk k t n nm kids):=by
    intro l r e hs
    rw [zS 5 (by omega),ak (by omega)] at e
    have e':l.map kt=sg 40::(toks (.mk k t n nm kids) 1++(sg 41::r)):=by rw [e];simp [H8]
    obtain ⟨a,l1,rfl,ha,h1⟩:=bn e'
    obtain ⟨l2,e2,h2⟩:=(low d' (by omega) 1 (by omega) ho.1).1 l1 _ h1 (Stp.sign (by decide) (by decide))
    obtain ⟨b,l3,rfl,hb,h3⟩:=bn h2
    refine ⟨l3,?_,h3⟩
    show bP (zQ en d' 1) _ en _=_
    unfold bP
    rw [jg ha,if_pos rfl,List.tail_cons,e2]
    dsimp only
    rw [uP hb]
   exact Kw (Nat.le_refl _) (fun x u e _=>hft x u e) hne five (fun q=>absurd q (by omega)) (5-bH) bH (by omega) h1 fun i hi hj=>by
    rw [zS i hj,zS 5 (by omega),ak (by omega),ak (by omega)]
theorem vM {en:Nat} {p:aA} (h:bg p=0) (hn:tH p) {l:List aC} {r:List Tk} (e:l.map kt=toks p 1++r) (hs:Stp 1 r):∃r',rM en 400 l=.ok (bF p,r')∧r'.map kt=r:=by
 have hx:=tC h hn
 have hf:fits p:=by
  unfold bg at h
  by_cases hf:fits p
  ·exact hf
  ·rw [if_neg hf] at h;cases h
 have hd:=hf.2
 have ho:=Ar p.kind
 obtain ⟨r',e1,e2⟩:=(((ZC en _ p (Nat.le_refl _) hx.1 399).1 (by omega) 1 (by omega) ho.1).1) l r e hs
 exact ⟨r',e1,e2⟩
end Go.Proofs.YtefjbnhpjdhjmaaGreatDoor

namespace Go.Proofs.YtefjbnhpjdhjmaaGreatDoor
set_option linter.all false
open Go.RowKit
def dQ (s:aQ):aQ where
 label:=s.label
 kind:=s.kind
 target:=if s.kind=3∨s.kind=5 then bF s.target else lQ
 value:=if s.kind=2∨s.kind=3∨s.kind=4∨s.kind=5 then bF s.value else lQ
 pat:=if dJ s then aB s.pat else lQ
 name:=if s.kind=6∨s.kind=7 then s.name else E0
 entry:=if s.kind=7 then s.entry else E0
 params:=if s.kind=7 then s.params else []
 locals:=if s.kind=7 then s.locals else []
 always:=s.always
 yes:=s.yes
 aW:=s.aW
theorem rD {x:aj} (h:x.size=0):x=E0:=by
 obtain ⟨a⟩:=x
 have:a = #[]:=Array.eq_empty_of_size_eq_zero h
 rw [this];rfl
structure uH (s:aQ):Prop where
 label:s.label.size=0∨aS s.label=true
 always:s.always.size=0∨aS s.always=true
 yes:s.yes.size=0∨aS s.yes=true
 aW:s.aW.size=0∨aS s.aW=true
 fit:s.always.size=0∨(s.yes.size=0∧s.aW.size=0)
 kind:1≤s.kind∧s.kind≤7
 target:s.kind=3∨s.kind=5→bg s.target=0∧isTarget s.target
 value:s.kind=2∨s.kind=3∨s.kind=4∨s.kind=5→bg s.value=0
 pat:dJ s→bJ s.pat=0
 name:s.kind=6∨s.kind=7→aS s.name=true
 entry:s.kind=7→aS s.entry=true
 params:s.kind=7→s.params.length≤8∧∀x∈s.params,aS x=true
 locals:s.kind=7→s.locals.length≤8∧∀x∈s.locals,aS x=true
theorem iY {x:aj} (h:nD x=true):x.size=0∨aS x=true:=by
 unfold nD at h;rwa [Bool.or_eq_true,decide_eq_true_eq] at h
theorem tN:∀{l:List aj},aK l=0→∀x∈l,aS x=true
 | [],_,x,hx=>by cases hx
 | y::r,h,x,hx=>by
  rw [aK] at h
  by_cases hy:aS y=true
  ·rw [if_pos hy] at h
   rcases List.mem_cons.1 hx with rfl|hx
   ·exact hy
   ·exact tN h x hx
  ·rw [if_neg hy] at h;cases h
theorem RS {s:aQ} (h:jR s=0):uH s:=by
 unfold jR at h
 by_cases h1:¬(nD s.label=true∧nD s.always=true∧nD s.yes=true∧nD s.aW=true)
 ·rw [if_pos h1] at h;cases h
 rw [if_neg h1] at h
 obtain ⟨a1,a2,a3,a4⟩:=Classical.not_not.1 h1
 by_cases h2:s.always.size≠0∧(s.yes.size≠0∨s.aW.size≠0)
 ·rw [if_pos h2] at h;cases h
 rw [if_neg h2] at h
 have hfit:s.always.size=0∨(s.yes.size=0∧s.aW.size=0):=by omega
 have tgt:(if isTarget s.target then (0:Int) else 8)=0→isTarget s.target:=by
  intro h;by_cases ht:isTarget s.target
  ·exact ht
  ·rw [if_neg ht] at h;cases h
 by_cases k1:s.kind=1
 ·exact ⟨iY a1,iY a2,iY a3,iY a4,hfit,by omega,by omega,by omega,by unfold dJ;omega,by omega,by omega,by omega,by omega⟩
 rw [if_neg k1] at h
 by_cases k2:s.kind=2
 ·rw [if_pos k2] at h
  exact ⟨iY a1,iY a2,iY a3,iY a4,hfit,by omega,by omega,fun _=>h,by unfold dJ;omega,by omega,by omega,by omega,by omega⟩
 rw [if_neg k2] at h
 by_cases k4:s.kind=4
 ·rw [if_pos k4] at h
  have hz:=kZ h
  exact ⟨iY a1,iY a2,iY a3,iY a4,hfit,by omega,by omega,fun _=>hz _ (by simp),fun _=>hz _ (by simp),by omega,by omega,by omega,by omega⟩
 rw [if_neg k4] at h
 by_cases k3:s.kind=3
 ·rw [if_pos k3] at h
  have hz:=kZ h
  exact ⟨iY a1,iY a2,iY a3,iY a4,hfit,by omega,fun _=>⟨hz _ (by simp),tgt (hz _ (by simp))⟩,fun _=>hz _ (by simp),by unfold dJ;omega,by omega,by omega,by omega,by omega⟩
 rw [if_neg k3] at h
 by_cases k5:s.kind=5
 ·rw [if_pos k5] at h
  have hz:=kZ h
  exact ⟨iY a1,iY a2,iY a3,iY a4,hfit,by omega,fun _=>⟨hz _ (by simp),tgt (hz _ (by simp))⟩,fun _=>hz _ (by simp),fun _=>hz _ (by simp),by omega,by omega,by omega,by omega⟩
 rw [if_neg k5] at h
 by_cases k6:s.kind=6
 ·rw [if_pos k6] at h
  have hz:=kZ h
  exact ⟨iY a1,iY a2,iY a3,iY a4,hfit,by omega,by omega,by omega,fun _=>hz _ (by simp),fun _=>tN (hz (aK [s.name]) (by simp)) _ (by simp),by omega,by omega,by omega⟩
 rw [if_neg k6] at h
 by_cases k7:s.kind=7
 ·rw [if_pos k7] at h
  have hz:=kZ h
  have h8:¬(8<s.params.length∨8<s.locals.length):=by
   intro hx
   have:=hz (if 8<s.params.length∨8<s.locals.length then 5 else 0) (by simp)
   rw [if_pos hx] at this;cases this
  exact ⟨iY a1,iY a2,iY a3,iY a4,hfit,by omega,by omega,by omega,by unfold dJ;omega,fun _=>tN (hz (aK [s.name]) (by simp)) _ (by simp),fun _=>tN (hz (aK [s.entry]) (by simp)) _ (by simp),fun _=>⟨by omega,tN (hz (aK s.params) (by simp))⟩,fun _=>⟨by omega,tN (hz (aK s.locals) (by simp))⟩⟩
 ·rw [if_neg k7] at h;cases h
def Jr:List aj→List Tk
 | []=>[]
 | x::r=>sg 44::(1,x)::Jr r
def uS:List aj→List Tk
 | []=>[]
 | x::r=>(1,x)::Jr r
def EW (s:aQ):Tk:=(4,⟨(fU s.pat).1.toArray⟩)
def sN (s:aQ):List Tk :=
 if s.kind=2 then toks s.value 1
 else if s.kind=3 then toks s.target 1++(sg 61::toks s.value 1)
 else if s.kind=4 then toks s.value 1++[sg 63,EW s]
 else if s.kind=5 then toks s.target 1++(sg 63::EW s::sg 61::toks s.value 1)
 else if s.kind=6 then [(1,s.name),(5,ql),EW s]
 else if s.kind=7 then (1,oM)::(1,s.name)::sg 40::(uS s.params++(sg 41::(uS s.locals++[(1,s.entry)])))
 else []
def BO (c:UInt8) (x:aj):List Tk:=[(1,⟨#[c]⟩),sg 40,(1,x),sg 41]
def kK (s:aQ):List Tk :=
 if s.always.size≠0 then [sg 58,sg 40,(1,s.always),sg 41]
 else if s.yes.size≠0∨s.aW.size≠0 then sg 58::((if s.yes.size≠0 then BO 83 s.yes else [])++(if s.aW.size≠0 then BO 70 s.aW else []))
 else []
def Us (s:aQ):List Tk:=(if s.label.size≠0 then [(1,s.label)] else [])++(sN s++kK s)
theorem kL {f:UInt8→Bool} {c:UInt8} {l:List UInt8} (h:f c=false):mW f (c::l):=by intro d t e;obtain ⟨rfl,_⟩:=List.cons.inj e;exact h
theorem pX {x:aj} (h:x.size=0∨aS x=true) (h0:x.size≠0):aS x=true:=h.resolve_left h0
theorem RU (c:UInt8) (hn:aS ⟨#[c]⟩=true) {x:aj} (hx:aS x=true) {l:List UInt8} {ts:List Tk} (hl:fH l ts):fH (([c,40]++(x.data.toList++[41]))++l) (BO c x++ts):=by
 have h1:=nG hx (l:=41::l) (kL (by decide)) (lM (c:=41) (by decide) hl)
 have h2:=nG hn (kL (by decide)) (lM (c:=40) (by decide) h1)
 simpa [BO] using h2
theorem ZE {s:aQ} (h:uH s):fH (qP s) (kK s):=by
 unfold qP kK
 by_cases ha:s.always.size≠0
 ·rw [if_pos ha,if_pos ha]
  have h1:=nG (pX h.always ha) (l:=[41]) (kL (by decide)) (lM (c:=41) (by decide) lex_nil)
  have h2:=jV (CZ (c:=58) (by decide) (fun _=>kL (by decide)) (lM (c:=40) (by decide) h1))
  simpa using h2
 rw [if_neg ha,if_neg ha]
 by_cases hj:s.yes.size≠0∨s.aW.size≠0
 ·rw [if_pos hj,if_pos hj]
  have hno:fH (if s.aW.size≠0 then [70,40]++(s.aW.data.toList++[41]) else []) (if s.aW.size≠0 then BO 70 s.aW else []):=by
   by_cases hn:s.aW.size≠0
   ·rw [if_pos hn,if_pos hn]
    have:=RU 70 (by decide) (pX h.aW hn) lex_nil
    simpa using this
   ·rw [if_neg hn,if_neg hn];exact lex_nil
  refine jV (CZ (c:=58) (by decide) (fun _=>?_) ?_)
  ·by_cases hy:s.yes.size≠0
   ·rw [if_pos hy];exact kL (by decide)
   ·rw [if_neg hy,if_pos (hj.resolve_left hy)];exact kL (by decide)
  ·by_cases hy:s.yes.size≠0
   ·rw [if_pos hy,if_pos hy];exact RU 83 (by decide) (pX h.yes hy) hno
   ·rw [if_neg hy,if_neg hy];exact hno
 ·rw [if_neg hj,if_neg hj];exact lex_nil
theorem PG (s:aQ):lC (qP s):=by
 unfold qP
 by_cases ha:s.always.size≠0
 ·rw [if_pos ha];exact lC.of (.inl rfl)
 rw [if_neg ha]
 by_cases hj:s.yes.size≠0∨s.aW.size≠0
 ·rw [if_pos hj];exact lC.of (.inl rfl)
 ·rw [if_neg hj];exact lC.nil
theorem PI:∀(l:List aj),(∀x∈l,aS x=true)→∀r ts,mW gu r→fH r ts→fH (lI false l++r) (Jr l++ts)
 | [],h,r,ts,hw,hl=>by rw [lI,Jr];exact hl
 | x::l,h,r,ts,hw,hl=>by
  have h1:=PI l (fun y hy=>h y (by simp [hy])) r ts hw hl
  have hf:mW gu (lI false l++r):=by
   cases l with
   | nil=>rw [lI];exact hw
   | cons y l=>rw [lI];exact kL (by decide)
  have h2:=lM (c:=44) (by decide) (nG (h x (by simp)) hf h1)
  rw [lI,Jr]
  simpa using h2
theorem MB (l:List aj) (h:∀x∈l,aS x=true) (r:List UInt8) (ts:List Tk) (hw:mW gu r) (hl:fH r ts):fH (dF l++r) (uS l++ts):=by
 rw [←Ld]
 cases l with
 | nil=>exact hl
 | cons x l =>
  have h1:=PI l (fun y hy=>h y (by simp [hy])) r ts hw hl
  have hf:mW gu (lI false l++r):=by
   cases l with
   | nil=>rw [lI];exact hw
   | cons y l=>rw [lI];exact kL (by decide)
  have h2:=nG (h x (by simp)) hf h1
  rw [lI,uS]
  simpa using h2
structure H9 (s:aQ):Prop where
 target:tH s.target
 value:tH s.value
theorem ZF {s:aQ} (h:uH s) (hn:H9 s) (hp:dJ s→(fU s.pat).2=0) {r:List UInt8} {ts:List Tk} (hf:lC r) (hl:fH r ts):fH (jO s (iG s)++r) (sN s++ts):=by
 have hv:s.kind=2∨s.kind=3∨s.kind=4∨s.kind=5→∀r ts,lC r→fH r ts→fH (aP s.value 1++r) (toks s.value 1++ts):=fun hk r ts=>BN s.value 1 (tC (h.value hk) hn.value).1 r ts
 have ht:s.kind=3∨s.kind=5→∀r ts,lC r→fH r ts→fH (aP s.target 1++r) (toks s.target 1++ts):=fun hk r ts=>BN s.target 1 (tC (h.target hk).1 hn.target).1 r ts
 have hpt:dJ s→∀r ts,fH r ts→fH (iG s++r) (EW s::ts):=by
  intro hk r ts hl
  have hz:=Js (hp hk)
  have hs:Scan (fU s.pat).1:=by rw [hz.2.2];exact ET s.pat 2 (BU hz.1).1
  have:=abw hs hl
  unfold iG;rw [if_pos hk]
  simpa [EW] using this
 unfold jO sN
 by_cases k2:s.kind=2
 ·rw [if_pos k2,if_pos k2];exact jV (hv (by omega) r ts hf hl)
 rw [if_neg k2,if_neg k2]
 by_cases k3:s.kind=3
 ·rw [if_pos k3,if_pos k3]
  have h1:=jV (lM (c:=61) (by decide) (jV (hv (by omega) r ts hf hl)))
  have h2:=jV (ht (by omega) _ _ (lC.of (.inl rfl)) h1)
  simpa using h2
 rw [if_neg k3,if_neg k3]
 by_cases k4:s.kind=4
 ·rw [if_pos k4,if_pos k4]
  have h1:=jV (lM (c:=63) (by decide) (jV (hpt (.inl k4) r ts hl)))
  have h2:=jV (hv (by omega) _ _ (lC.of (.inl rfl)) h1)
  simpa using h2
 rw [if_neg k4,if_neg k4]
 by_cases k5:s.kind=5
 ·rw [if_pos k5,if_pos k5]
  have h0:=jV (lM (c:=61) (by decide) (jV (hv (by omega) r ts hf hl)))
  have h1:=jV (lM (c:=63) (by decide) (jV (hpt (.inr (.inl k5)) _ _ h0)))
  have h2:=jV (ht (by omega) _ _ (lC.of (.inl rfl)) h1)
  simpa using h2
 rw [if_neg k5,if_neg k5]
 by_cases k6:s.kind=6
 ·rw [if_pos k6,if_pos k6]
  have h1:=jV (Zy (jV (hpt (.inr (.inr k6)) r ts hl)))
  have h2:=jV (nG (h.name (by omega)) (kL (by decide)) h1)
  simpa [ql,bs] using h2
 rw [if_neg k6,if_neg k6]
 by_cases k7:s.kind=7
 ·rw [if_pos k7,if_pos k7]
  have h0:=jV (nG (h.entry k7) hf.word hl)
  have h1:=MB s.locals (h.locals k7).2 _ _ (kL (by decide)) h0
  have h2:=MB s.params (h.params k7).2 _ _ (kL (by decide)) (lM (c:=41) (by decide) h1)
  have h3:=nG (h.name (by omega)) (kL (by decide)) (lM (c:=40) (by decide) h2)
  have hd:aS oM=true:=by decide
  have h4:=jV (nG hd (kL (by decide)) (jV h3))
  have e:oM.data.toList=[68,69,70,73,78,69]:=rfl
  rw [e] at h4
  simpa using h4
 ·rw [if_neg k7,if_neg k7];exact hl
theorem Xk (s:aQ):mW gu (jO s (iG s)++qP s):=by
 have hj:=(PG s).word
 unfold jO
 split
 ·exact kL (by decide)
 split
 ·exact kL (by decide)
 split
 ·exact kL (by decide)
 split
 ·exact kL (by decide)
 split
 ·exact kL (by decide)
 split
 ·exact kL (by decide)
 ·exact hj
theorem ZG {s:aQ} (h:uH s) (hn:H9 s) (hp:dJ s→(fU s.pat).2=0):fH (lineS s) (Us s):=by
 have h1:=ZF h hn hp (PG s) (ZE h)
 unfold lineS Us
 by_cases hl:s.label.size≠0
 ·rw [if_pos hl];exact nG (pX h.label hl) (Xk s) h1
 ·rw [if_neg hl,rD (x:=s.label) (by omega)];exact h1
end Go.Proofs.YtefjbnhpjdhjmaaGreatDoor

namespace Go.Proofs.YtefjbnhpjdhjmaaGreatDoor
set_option linter.all false
open Go.RowKit
set_option maxRecDepth 100000
theorem DY {w:World} {b o:Nat} {sa:iM} {s:aQ} (hc:∀i (h:i<24),w.cell? ⟨b,o+i,none⟩=some ((bZ sa s)[i]'(by simpa [bZ] using h))) :
  (Instr.loadAt 30 (.pointer (some ⟨b,o,none⟩))).run Tryz.prog w=.ok (bV sa s) w:=by
 have h1:=run_loadCells_list (P:=Tryz.prog) w ⟨b,o,none⟩ (bZ sa s) (fun j v hv=>by
  obtain ⟨hlt,rfl⟩:=List.getElem?_eq_some_iff.1 hv
  have e1:(⟨b,o,none⟩:Addr).add j=⟨b,o+j,none⟩:=by unfold Addr.add;split<;>simp_all
  rw [e1];exact hc j (by simpa [bZ] using hlt))
 have hag:(isAgg 30).run Tryz.prog w=.ok true w:=by kernel_rfl
 have hsz:(sizeOf 30).run Tryz.prog w=.ok 24 w:=by kernel_rfl
 have hlen:(bZ sa s).length=24:=rfl
 rw [hlen] at h1
 unfold Instr.loadAt loadVar
 simp only [Instr.sureAddr,Sem.run_bind,Sem.run_pure,Result.andThen_ok,hag,hsz,h1,if_true]
 rfl
theorem Q9 {w:World} {g:Nat} {old:Array Value} {sa:iM} {s:aQ} (hg:w.heap[g]?=some (.cells old 30 (0,0))) (ho:old.size=24) :
  ∃w',(Instr.storeAt 30 (.pointer (some ⟨g,0,none⟩)) (bV sa s)).run Tryz.prog w=.ok () w'∧dP g sa s w'∧Kept (· = g) w w':=by
 have h:=run_storeVar_row (P:=Tryz.prog) w g 30 30 old (bZ sa s).toArray hg (by kernel_rfl) (by rw [ho];rfl) (by simp [bZ,Value.oneCell'])
 refine ⟨_,h,?_,?_⟩
 ·exact setRow_heap w g old _ _ _ hg
 ·exact ⟨rfl,rfl,rfl,by simp,fun k _ hx=>setRow_other w g k _ hx⟩
theorem nC {ops:Array Oper} {rest:List Oper} {o:Oper} {a:Act} {Q:Exit→Act→World→Prop} {w:World} (hgd:o.guard=none) (p:Operand) (ho:o.op=.load 30 p)
  (b of:Nat) (hp:a.eval p=.pointer (some ⟨b,of,none⟩)) (sa:iM) (s:aQ) (hc:∀i (h:i<24),w.cell? ⟨b,of+i,none⟩=some ((bZ sa s)[i]'(by simpa [bZ] using h)))
  (h:wpList Tryz.prog ops Q rest (a.put o.dst (bV sa s)) w):wpList Tryz.prog ops Q (o::rest) a w:=by
 refine wpList_plain hgd fun K hK=>?_
 have hr:(execOp a.eval o).run Tryz.prog w=.ok (.value (bV sa s)) w:=by
  unfold execOp
  rw [ho]
  simp only [hp,Sem.run_bind,DY hc,Result.andThen_ok,Sem.run_pure]
 unfold Oper.wp
 rw [hr]
 exact hK _ _ h
theorem jh {ops:Array Oper} {rest:List Oper} {o:Oper} {a:Act} {Q:Exit→Act→World→Prop} {w:World} (hgd:o.guard=none) (p x:Operand) (ho:o.op=.store 30 p x)
  (g:Nat) (hp:a.eval p=.pointer (some ⟨g,0,none⟩)) (sa:iM) (s:aQ) (hx:a.eval x=bV sa s) (old:Array Value) (hg:w.heap[g]?=some (.cells old 30 (0,0))) (hold:old.size=24)
  (h:∀w',dP g sa s w'→Kept (· = g) w w'→wpList Tryz.prog ops Q rest (a.put o.dst undef) w'):wpList Tryz.prog ops Q (o::rest) a w:=by
 refine wpList_plain hgd fun K hK=>?_
 obtain ⟨w',hr,hB,hk⟩:=Q9 (sa:=sa) (s:=s) hg hold
 have hr2:(execOp a.eval o).run Tryz.prog w=.ok .skip w':=by
  unfold execOp
  rw [ho]
  simp only [hp,hx,Sem.run_bind,hr,Result.andThen_ok,Sem.run_pure]
 unfold Oper.wp
 rw [hr2]
 exact hK _ _ (h w' hB hk)
end Go.Proofs.YtefjbnhpjdhjmaaGreatDoor

namespace Go.Proofs.YtefjbnhpjdhjmaaGreatDoor
set_option linter.all false
open Go.RowKit
set_option maxRecDepth 100000
set_option maxHeartbeats 1000000
theorem QH (l:List aj) (j:Nat) (h:j<l.length):aK (l.drop j)=if aS l[j]=true then aK (l.drop (j+1)) else 7:=by
 rw [List.drop_eq_getElem_cons h,aK]
theorem Dk {w:World} {b:Nat} {l:List aj} {t:TypeId} {fr:Nat×Nat} (h:w.heap[b]?=some (.cells (l.map Value.string).toArray t fr)) {S:Nat→Prop} (hS:S b):nM w S (some ⟨b,0,none⟩) l:=by
 intro _
 refine ⟨b,0,rfl,hS,fun i hi=>?_⟩
 rw [cell_of_row w b (0+i) _ t fr h];simp [hi]
theorem wL (l:List aj) (a:Option Addr) (cap:Nat) (S:Nat→Prop) (w:World) (hl:nM w S a l) (hz:l.length<1000000000∧∀x∈l,x.size<1000000000) :
  Calls Tryz.prog 30 #[.slice a l.length cap] w fun e w'=>e=.returned (.int .i64 (aK l))∧w'=w:=by
 have HL:=ah hl;have HZ:=ah hz.2
 have hzl:=hz.1
 clear hl hz
 go_enter Tryz.func30, Tryz.ntmps30
 go_wp2_with fail
 go_loop [7] (fun i=>∃j:Nat,j≤l.length∧i=.int .i64 j∧Hid (aK l=aK (l.drop j))) (fun i=>l.length-(intOf i).toNat)
 case atStart=>exact ⟨0,Nat.zero_le _,rfl,by unfold Hid;rw [List.drop_zero]⟩
 case round =>
  obtain ⟨j,hj,rfl,hno⟩:=hrel
  by_cases hlt:j<l.length
  ·obtain ⟨b,o,rfl,_,hc⟩:=HL.out (by omega)
   have hcj:=hc j hlt
   have hn:(l[j]).size≤maxLen:=by have:=HZ.out l[j] (List.getElem_mem hlt);unfold maxLen;omega
   have hd:=QH l j hlt
   clear hc
   cases hb:aS l[j] with
   | true =>
    rw [if_pos hb] at hd
    have step:=ah (hno.out.trans hd)
    have HB:=ah hb
    clear hd hb
    go_wp2_with (go_at_call 26;(with_reducible refine (uY _ _ hn).mono ?_);rintro e w' ⟨rfl,rfl⟩;rw [HB.out])
    go_round
    case rel=>exact ⟨j+1,by omega,by go_num,step⟩
    case measure=>simp [intOf];omega
   | false =>
    rw [if_neg (by simp [hb])] at hd
    have fin:=ah (hno.out.trans hd)
    have HB:=ah hb
    clear hd hb
    go_wp2_with (go_at_call 26;(with_reducible refine (uY _ _ hn).mono ?_);rintro e w' ⟨rfl,rfl⟩;rw [HB.out])
    go_ret
    exact ⟨by rw [fin.out];try rfl,rfl⟩
  ·obtain rfl:j=l.length:=by omega
   have fin:Hid (aK l=0):=by unfold Hid;rw [hno.out,List.drop_length,aK]
   go_wp2_with fail
   go_ret
   exact ⟨by rw [fin.out];try rfl,rfl⟩
theorem Jv (p:aA) (v:Value) (S:Nat→Prop) (w:World) (hp:gZ w S v p):Calls Tryz.prog 29 #[v] w (nY (decide (isTarget p)) w):=by
 obtain ⟨ka,cap,rfl,hz,hk⟩:=hp
 by_cases h:isTarget p
 ·have hb:Hid (decide (isTarget p)=true):=ak h
  have h':=h;unfold isTarget at h'
  rcases h' with h'|h'|h'
  all_goals
   rw [h']
   clear h
   go_enter Tryz.func29, Tryz.ntmps29
   go_wp2_with fail
   go_ret
   exact ⟨by rw [hb.out];try rfl,(Kept.refl _ _).alloc _⟩
 ·have hb:Hid (decide (isTarget p)=false):=au h
  have h':=h;unfold isTarget at h'
  have e1:(p.kind==3)=false:=by simp;omega
  have e2:(p.kind==4)=false:=by simp;omega
  have e3:(p.kind==5)=false:=by simp;omega
  clear h h'
  go_enter Tryz.func29, Tryz.ntmps29
  go_wp2_with fail
  go_ret
  exact ⟨by rw [hb.out];try rfl,(Kept.refl _ _).alloc _⟩
end Go.Proofs.YtefjbnhpjdhjmaaGreatDoor

namespace Go.Proofs.YtefjbnhpjdhjmaaGreatDoor
set_option linter.all false
open Go.RowKit
theorem vU {l:List aj} (hl:l.length≤8) (hx:∀x∈l,x.size≤16):(dF l).length≤136:=by
 rw [←Ld];have:=Ir true l hx;omega
theorem NP (l:List aj) (a:Option Addr) (c:Nat) (S:Nat→Prop) (w:World) (h:nM w S a l) (hS:Safe S aF w.heap.size) (hc:l.length≤c) (hl:l.length≤8) (hx:∀x∈l,x.size≤16) :
  Calls Tryz.prog 16 #[.slice a l.length c,.string ⟨#[44]⟩] w (zy (dF l) w):=by
 have hlen:=vU hl hx
 by_cases h0:0<l.length
 ·obtain ⟨b,o,rfl,hb,hcell⟩:=h h0
  refine (Tryz.strings_Join b o c l ⟨#[44]⟩ w (fun j x hj=>?_) (hS b hb).1 (by omega) hc (by show (dF l).length≤_;omega)).mono ?_
  ·obtain ⟨hjl,rfl⟩:=List.getElem?_eq_some_iff.1 hj
   exact hcell j hjl
  ·rintro e w' ⟨rfl,hb⟩
   exact ⟨rfl,Kept.of_below hb⟩
 ·obtain rfl:l=[]:=List.eq_nil_of_length_eq_zero (by omega)
  refine (Tryz.strings_Join_none a c ⟨#[44]⟩ w).mono ?_
  rintro e w' ⟨rfl,rfl⟩
  exact ⟨rfl,Kept.refl _ _⟩
end Go.Proofs.YtefjbnhpjdhjmaaGreatDoor

namespace Go.Proofs.YtefjbnhpjdhjmaaGreatDoor
set_option linter.all false
open Go.RowKit
theorem gZ.rF {w w':World} {S:Nat→Prop} {v:Value} {p:aA} (h:gZ w S v p) (hk:Kept aF w w') (hS:Safe S aF w.heap.size):gZ w' S v p:=by
 obtain ⟨a,c,e,z,k⟩:=h
 exact ⟨a,c,e,z,k.kept hk hS⟩
theorem gZ.all {w:World} {S:Nat→Prop} {v:Value} {p:aA} (h:gZ w S v p) (hS:Safe S aF w.heap.size):gZ w (· < w.heap.size) v p:=by
 obtain ⟨a,c,e,z,k⟩:=h
 exact ⟨a,c,e,z,aI.same (fun _ _=>rfl) (fun b hb=>(hS b hb).1) _ _ k⟩
theorem Qq (l:List Int) (j:Nat) (h:j<l.length):gy (l.drop j)=if l[j]=0 then gy (l.drop (j+1)) else l[j]:=by
 rw [List.drop_eq_getElem_cons h,gy]
theorem QW:(Tryz.prog.info? 32).map (fun i=>(i.zero,i.size,i.bytes))=some (some (.int .i64 0),1,8):=by kernel_rfl
theorem Np {w:World} {g:Nat} {es:List Int} (hg:w.heap[g]?=some (.cells (es.map (Value.int .i64)).toArray 32 (0,0))) :
  Src Tryz.prog 1 70 (.slice (some ⟨g,0,none⟩) es.length es.length) es.length (es.map (Value.int .i64)) w:=by
 have h:=World.news_of_block (fr:=(0,0)) (cs:=(es.map (Value.int .i64)).toArray) hg
 simp only [List.toList_toArray,List.size_toArray,List.length_map] at h
 exact Src.ofSlice _ Tryz.underlying70 _ _ _ _ (by simp) h (by intro u hu;obtain ⟨e,_,rfl⟩:=List.mem_map.1 hu;rfl)
theorem jZ {ops:Array Oper} {rest:List Oper} {o:Oper} {a:Act} {Q:Exit→Act→World→Prop} {w w0:World} (hgd:o.guard=none) (s x:Operand)
  (ho:o.op=.call {callee:=.builtin .append,args:=#[s,x],argTypes:=#[70,70]})
  (v:Value) (n:Nat) (xs:List Value) (hs:a.eval s=v) (B:Nat) (hown:cZ w B 32 1 v n xs) (es:List Int) (g:Nat) (hx:a.eval x=.slice (some ⟨g,0,none⟩) es.length es.length)
  (hg:w.heap[g]?=some (.cells (es.map (Value.int .i64)).toArray 32 (0,0))) (hn:n+es.length≤1000) (hB:B≤w.heap.size) (K0:Kept aF w0 w) (hB0:w0.heap.size≤B)
  (h:∀a' c' w',cZ w' B 32 1 (.slice a' (n+es.length) c') (n+es.length) (xs++es.map (Value.int .i64))→Kept aF w0 w'→w.heap.size≤w'.heap.size→wpList Tryz.prog ops Q rest (a.put o.dst (.slice a' (n+es.length) c')) w') :
  wpList Tryz.prog ops Q (o::rest) a w:=by
 obtain ⟨i0,hi0,hz0,hz1,hz2⟩:=info_parts QW
 refine kQ w hgd s x _ _ ho B 32 i0 (.int .i64 0) 1 8 Tryz.underlying70 hi0 hz0 hz1 hz2 rfl v n xs hs hown _ es.length (es.map (Value.int .i64)) hx (Np hg) (by unfold maxLen;omega) (by omega) hB ?_
 intro a' c' w' hW hgr _
 exact h a' c' w' hW (K0.grown hgr fun k hk=>.inr (by have:=(hown.lt k hk).1;omega)) hgr.size
theorem Nq {i:Nat} {o:Oper} {x:Act} {w:World} {R:Nat→Value→World→Prop} {Q:Exit→Act→World→Prop} (s y:Operand)
  (ho:o.op=.call {callee:=.builtin .append,args:=#[s,y],argTypes:=#[70,70]})
  (hs:x.eval s=.slice none 0 0) (es:List Int) (g:Nat) (hx:x.eval y=.slice (some ⟨g,0,none⟩) es.length es.length)
  (hg:w.heap[g]?=some (.cells (es.map (Value.int .i64)).toArray 32 (0,0))) (hn:es.length≤1000) (B:Nat) (hB:B≤w.heap.size)
  (h:∀a' c' w',cZ w' B 32 1 (.slice a' es.length c') es.length (es.map (Value.int .i64))→R i (.slice a' es.length c') w') :
  o.wp Tryz.prog x w (fun a' w'=>∃v,a'=x.put o.dst v∧(∀d,o.dst=some d→R i v w')∧Kept aF w w') Q:=by
 obtain ⟨i0,hi0,hz0,hz1,hz2⟩:=info_parts QW
 refine yg w s y _ _ ho B 32 i0 (.int .i64 0) 1 8 Tryz.underlying70 hi0 hz0 hz1 hz2 rfl (.slice none 0 0) 0 [] hs (cZ.nil ..) _ es.length (es.map (Value.int .i64)) hx (Np hg) (by unfold maxLen;omega) (by omega) hB ?_
 intro a' c' w' hW hgr _
 simp only [Nat.zero_add,List.nil_append] at hW⊢
 exact ⟨_,rfl,fun _ _=>h a' c' w' hW,(Kept.refl aF w).grown hgr fun k hk=>by cases hk⟩
end Go.Proofs.YtefjbnhpjdhjmaaGreatDoor

namespace Go.Proofs.YtefjbnhpjdhjmaaGreatDoor
set_option linter.all false
open Go.RowKit
theorem gB.at {w:World} {S:Nat→Prop}:∀{l:List aA} {cs:List Value},gB w S cs l→∀(g o:Nat),(∀j u,cs[j]?=some u→w.cell? ⟨g,o+j,none⟩=some u)→
  ∀(j:Nat) (hj:j<l.length),dL w (fun b=>S b∨b=g) g (o+j*5) l[j]
 | [],cs,h,g,o,hc,j,hj=>by simp at hj
 | p::ps,cs,h,g,o,hc,j,hj=>by
  rw [gB] at h;obtain ⟨c,r,rfl,⟨ka,cap,rfl,hz,hk⟩,h2⟩:=h
  cases j with
  | zero =>
   obtain ⟨k,t,n,nm,kids⟩:=p
   rw [List.getElem_cons_zero];unfold dL
   refine ⟨.inr rfl,hz,hc 0 _ rfl,hc 1 _ rfl,hc 2 _ rfl,hc 3 _ rfl,ka,cap,hc 4 _ rfl,aI.same (fun _ _=>rfl) (fun b h=>.inl h) _ _ hk⟩
  | succ j =>
   rw [List.getElem_cons_succ,show o+(j+1)*5=o+5+j*5 by omega]
   refine h2.at g (o+5) (fun i u hi=>?_) j (by simpa using hj)
   rw [show o+5+i=o+(5+i) by omega];exact hc _ _ (by rw [List.getElem?_append_right (by simp)];simpa using hi)
end Go.Proofs.YtefjbnhpjdhjmaaGreatDoor

namespace Go.Proofs.YtefjbnhpjdhjmaaGreatDoor
set_option linter.all false
open Go.RowKit
def WX (k:Int):Prop:=k=21∨k=22∨k=23
instance (k:Int):Decidable (WX k):=by unfold WX;exact inferInstance
end Go.Proofs.YtefjbnhpjdhjmaaGreatDoor

namespace Go.Proofs.YtefjbnhpjdhjmaaGreatDoor
set_option linter.all false
open Go.RowKit
set_option maxRecDepth 100000
set_option maxHeartbeats 1000000
def aej (b:Bool) (w:World) (e:Ending) (w':World):Prop:=e=.returned (.bool b)∧∃n,w'=w.drewN n
theorem MX (l1 l2:List aj) (S1 S2:Nat→Prop) (v1 v2:Value) (w:World) (h1:aas w S1 v1 l1) (h2:aas w S2 v2 l2) (hl1:l1.length<1000000000) (hl2:l2.length<1000000000) :
  Calls Tryz.prog 23 #[v1,v2] w (aej (decide (l1=l2)) w):=by
 obtain ⟨a1,d1,rfl,c1⟩:=h1
 obtain ⟨a2,d2,rfl,c2⟩:=h2
 have C1:=ah c1;have C2:=ah c2;clear c1 c2
 by_cases hl:l1.length=l2.length
 ·have hne:((l1.length:Int) != (l2.length:Int))=false:=by simp;omega
  have ha:l1.length≤l2.length:=by omega
  have hz:l2.length≤l1.length:=by omega
  clear hl
  go_enter Tryz.func23, Tryz.ntmps23
  go_wp2_with fail
  go_loopw [13] (fun i wr=>∃j n:Nat,j≤l1.length∧i=.int .i64 j∧wr=w.drewN n∧Hid (∀x,x<j→l1[x]?=l2[x]?)) (fun i _=>l1.length-(intOf i).toNat)
  case atStart=>exact ⟨0,0,Nat.zero_le _,rfl,rfl,by intro x hx;omega⟩
  case round =>
   obtain ⟨j,n,hj,rfl,rfl,hok⟩:=hrel
   by_cases hlt:j<l1.length
   ·obtain ⟨b1,o1,rfl,_,e1⟩:=C1.out (by omega)
    obtain ⟨b2,o2,rfl,_,e2⟩:=C2.out (by omega)
    have q1:=e1 j hlt
    have q2:=e2 j (by omega)
    have hlt2:j<l2.length:=by omega
    clear e1 e2
    have bi1:(j:Int)<(l1.length:Int):=by omega
    have bi2:(j:Int)<(l2.length:Int):=by omega
    by_cases he:l1[j]=l2[j]
    ·have hb:=Wv he
     have step:Hid (∀x,x<j+1→l1[x]?=l2[x]?):=by
      intro x hx
      rcases Nat.lt_or_ge x j with h|h
      ·exact hok.out x h
      ·obtain rfl:x=j:=by omega
       rw [List.getElem?_eq_getElem hlt,List.getElem?_eq_getElem hlt2,he]
     clear he
     go_wp2_with fail
     go_quiet (fail)
     go_wp2_with fail
     go_roundw
     case rel=>exact ⟨j+1,n+nq,by omega,by go_num,rfl,step⟩
     case measure=>simp [intOf];omega
    ·have hb:=TL he
     have fin:Hid (decide (l1=l2)=false):=au (by intro e;subst e;exact he rfl)
     clear he
     go_wp2_with fail
     go_quiet (fail)
     go_wp2_with fail
     go_ret
     exact ⟨zo fin.out.symm,_,by first|rfl|exact World.drewN_drewN _ _ _⟩
   ·have fin:Hid (decide (l1=l2)=true):=ak (List.ext_getElem? fun i=>by
     rcases Nat.lt_or_ge i j with h|h
     ·exact hok.out i h
     ·rw [List.getElem?_eq_none (by omega),List.getElem?_eq_none (by omega)])
    have hge:l1.length≤j:=by omega
    go_wp2_with fail
    go_ret
    exact ⟨zo fin.out.symm,_,by first|rfl|exact World.drewN_drewN _ _ _⟩
 ·have hne:((l1.length:Int) != (l2.length:Int))=true:=by simp;omega
  have fin:Hid (decide (l1=l2)=false):=au (by intro e;exact hl (congrArg _ e))
  clear hl
  go_enter Tryz.func23, Tryz.ntmps23
  go_wp2_with fail
  go_ret
  exact ⟨zo fin.out.symm,0,rfl⟩
end Go.Proofs.YtefjbnhpjdhjmaaGreatDoor
