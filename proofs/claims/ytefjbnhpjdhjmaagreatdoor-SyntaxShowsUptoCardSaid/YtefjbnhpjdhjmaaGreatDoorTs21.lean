/-  -/
import Derived.Test.YtefjbnhpjdhjmaaGreatDoorTs17
import Derived.Test.YtefjbnhpjdhjmaaGreatDoorTs10
import Derived.Test.YtefjbnhpjdhjmaaGreatDoorTs12
import Derived.Test.YtefjbnhpjdhjmaaGreatDoorTs13
import Derived.Test.YtefjbnhpjdhjmaaGreatDoorTs20
import Derived.Test.YtefjbnhpjdhjmaaGreatDoorTs15
import Derived.Test.YtefjbnhpjdhjmaaGreatDoorTs3
import Derived.Test.YtefjbnhpjdhjmaaGreatDoorTs19
import Derived.Test.YtefjbnhpjdhjmaaGreatDoorBase
import Derived.Test.YtefjbnhpjdhjmaaGreatDoorTs5
import Derived.Test.YtefjbnhpjdhjmaaGreatDoorSt3
import Derived.Test.YtefjbnhpjdhjmaaGreatDoorTs16
import Derived.Deep.RegionWith
import Derived.Deep.LoopGhost
import Derived.BigQuiet
import Derived.Laws.Bits64b
import Derived.Deep.AppendLies
namespace Go.Proofs.YtefjbnhpjdhjmaaGreatDoor
set_option linter.all false
open Go.RowKit
def aev (M:Nat) (w:World):Prop:=dJ M (.int .i64 0) (.string ⟨#[]⟩) (.int .i64 0) (.string ⟨#[]⟩) (.slice none 0 0) w
structure pR (S:Nat→Prop) (p:aA) (ka:Option Addr) (cap:Nat) (w:World) (t:aj) (n:Int) (nm:aj) (l:List aA) (v:Value) (wx:World):Prop where
 box:dJ w.heap.size (.int .i64 p.kind) (.string p.text) (.int .i64 p.n) (.string p.name) (.slice ka p.kids.length cap) wx
 zero:aev (w.heap.size+1) wx
 out:dJ (w.heap.size+2) (.int .i64 p.kind) (.string t) (.int .i64 n) (.string nm) v wx
 own:∃(cs:List Value) (S':Nat→Prop),bT wx (w.heap.size+3) 24 5 v l.length cs∧fU wx S' cs l∧∀b,S' b→w.heap.size+2<b∧b<wx.heap.size∧v.ownBlock≠some b
 kids:aI wx S ka p.kids
 kept:Kept aC w wx
 safe:Safe S aC w.heap.size
theorem pR.next {S:Nat→Prop} {p:aA} {ka:Option Addr} {cap:Nat} {w:World} {t:aj} {n:Int} {nm:aj} {l:List aA} {v:Value} {wx w':World} (h:pR S p ka cap w t n nm l v wx) (k:Kept aC wx w'):pR S p ka cap w t n nm l v w':=by
 obtain ⟨cs,S',h1,h2,h3⟩:=h.own
 exact ⟨h.box.kept k (fun h=>h),dJ.kept h.zero k (fun h=>h),h.out.kept k (fun h=>h),⟨cs,S',h1.kept k (fun _ _ h=>h),h2.kept k (fun b hb=>⟨(h3 b hb).2.1,fun h=>h⟩),fun b hb=>⟨(h3 b hb).1,Nat.lt_of_lt_of_le (h3 b hb).2.1 k.size,(h3 b hb).2.2⟩⟩,h.kids.kept k (h.safe.mono h.kept.size),h.kept.trans k,h.safe⟩
theorem pR.start {S:Nat→Prop} {p:aA} {ka:Option Addr} {cap:Nat} {w:World} (hk:aI w S ka p.kids) (hs:Safe S aC w.heap.size) :
  pR S p ka cap w ⟨#[]⟩ 0 ⟨#[]⟩ [] (.slice none 0 0) (((w.alloc (.cells #[.int .i64 p.kind,.string p.text,.int .i64 p.n,.string p.name,.slice ka p.kids.length cap] 24)).alloc (.cells #[.int .i64 0,.string ⟨#[]⟩,.int .i64 0,.string ⟨#[]⟩,.slice none 0 0] 24)).alloc (.cells #[.int .i64 p.kind,.string ⟨#[]⟩,.int .i64 0,.string ⟨#[]⟩,.slice none 0 0] 24)):=by
 refine ⟨dJ.kept (ay w _) (((Kept.refl aC _).alloc _).alloc _) (fun h=>h),dJ.kept (dO (by simp)) ((Kept.refl aC _).alloc _) (fun h=>h),dO (by simp),⟨[],aC,bT.nil _ _ _ _,by rw [fU],fun b hb=>hb.elim⟩,hk.kept ((((Kept.refl aC _).alloc _).alloc _).alloc _) hs,(((Kept.refl aC _).alloc _).alloc _).alloc _,hs⟩
theorem pR.put {S:Nat→Prop} {p:aA} {ka:Option Addr} {cap:Nat} {w:World} {t t':aj} {n n':Int} {nm nm':aj} {wx w':World} (h:pR S p ka cap w t n nm [] (.slice none 0 0) wx) (k:Kept (· = w.heap.size+2) wx w') (F:dJ (w.heap.size+2) (.int .i64 p.kind) (.string t') (.int .i64 n') (.string nm') (.slice none 0 0) w') :
  pR S p ka cap w t' n' nm' [] (.slice none 0 0) w' :=
 ⟨h.box.kept k (by omega),dJ.kept h.zero k (by omega),F,⟨[],aC,bT.nil _ _ _ _,by rw [fU],fun b hb=>hb.elim⟩,h.kids.kept k (fun b hb=>⟨Nat.lt_of_lt_of_le (h.safe b hb).1 h.kept.size,by have:=(h.safe b hb).1;omega⟩),h.kept.step k (fun y hy=>.inr (by omega)),h.safe⟩
theorem dJ.st {M:Nat} {c0 c1 c2 c3 c4:Value} {w:World} (h:dJ M c0 c1 c2 c3 c4 w) (u:Value) :
  dJ M c0 u c2 c3 c4 (w.setCell ⟨M,1,none⟩ u)∧dJ M c0 c1 u c3 c4 (w.setCell ⟨M,2,none⟩ u)∧dJ M c0 c1 c2 u c4 (w.setCell ⟨M,3,none⟩ u)∧dJ M c0 c1 c2 c3 u (w.setCell ⟨M,4,none⟩ u):=by
 unfold dJ at h⊢
 refine ⟨?_,?_,?_,?_⟩<;>(rw [aK h];rfl)
def wQ (p:aA) (w:World) (e:Ending) (w':World):Prop:=∃v,e=.returned v∧gJ w.heap.size (bG p) w' v∧Kept aC w w'
def adq (S:Nat→Prop) (kids:List aA):Prop:=∀(j:Nat) (hj:j<kids.length) (v:Value) (w:World),gV w S v kids[j]→Safe S aC w.heap.size→Calls Tryz.prog 24 #[v] w (wQ kids[j] w)
theorem XC {S:Nat→Prop} {p q:aA} {ka:Option Addr} {cap:Nat} {w:World} {t:aj} {n:Int} {nm:aj} {l:List aA} {v:Value} {w1 w3 w4:World} {a':Option Addr} {c':Nat} {kc:Option Addr} {dK:Nat} {cs:List Value} {S1 S2:Nat→Prop}
  (I:pR S p ka cap w t n nm l v w1) (h1:bT w1 (w.heap.size+3) 24 5 v l.length cs) (h2:fU w1 S1 cs l) (h3:∀b,S1 b→w.heap.size+2<b∧b<w1.heap.size∧v.ownBlock≠some b)
  (K3:Kept aC w1 w3) (hz:q.text.size<1000000000∧q.name.size<1000000000∧q.kids.length<1000000000) (hS2:∀b,S2 b→w1.heap.size≤b∧b<w3.heap.size) (hq:aI w3 S2 kc q.kids)
  (hw:bT w4 (w.heap.size+3) 24 5 (.slice a' (l.length+1) c') (l.length+1) (cs++[.int .i64 q.kind,.string q.text,.int .i64 q.n,.string q.name,.slice kc q.kids.length dK])) (hg:(w3.alloc (.cells #[.int .i64 q.kind,.string q.text,.int .i64 q.n,.string q.name,.slice kc q.kids.length dK] 24)).grownBy w4 v.ownBlock)
  (ho:(Value.slice a' (l.length+1) c').ownBlock=v.ownBlock∨(Value.slice a' (l.length+1) c').ownBlock=some (w3.heap.size+1)) :
  pR S p ka cap w t n nm (l++[q]) (.slice a' (l.length+1) c') (w4.setCell ⟨w.heap.size+2,4,none⟩ (.slice a' (l.length+1) c')):=by
 have kA:Kept aC w3 (w3.alloc (.cells #[.int .i64 q.kind,.string q.text,.int .i64 q.n,.string q.name,.slice kc q.kids.length dK] 24)):=(Kept.refl _ _).alloc _
 have hlow:∀b,v.ownBlock=some b→w.heap.size+3≤b∧b<w1.heap.size:=h1.lt
 have hs3:=K3.size
 have hw1:=I.out.lt
 have zy:Kept (fun b=>v.ownBlock=some b) w3 w4:=(kA.more fun _ h=>h.elim).grown hg fun b hb=>.inl hb
 have xM:Kept (fun b=>v.ownBlock=some b) w1 w4:=(K3.more fun _ h=>h.elim).trans zy
 have K5:Kept (· = w.heap.size+2) w4 (w4.setCell ⟨w.heap.size+2,4,none⟩ (.slice a' (l.length+1) c')):=k1 _ _
 have hs4:=xM.size
 have MQ:=zy.size
 have hnew:∀g,(Value.slice a' (l.length+1) c').ownBlock=some g→w.heap.size+3≤g:=fun g hg=>(hw.lt g hg).1
 refine ⟨(I.box.kept xM (fun h=>by have:=hlow _ h;omega)).kept K5 (by omega),dJ.kept (dJ.kept I.zero xM (fun h=>by have:=hlow _ h;omega)) K5 (by omega),((I.out.kept xM (fun h=>by have:=hlow _ h;omega)).st _).2.2.2,?_,(I.kids.kept xM (fun b hb=>⟨Nat.lt_of_lt_of_le (I.safe b hb).1 I.kept.size,fun h=>by have:=hlow _ h;have:=(I.safe b hb).1;omega⟩)).kept K5 (fun b hb=>⟨by have:=(I.safe b hb).1;omega,by have:=(I.safe b hb).1;omega⟩),(I.kept.step xM (fun y hy=>.inr (by have:=hlow y hy;omega))).step K5 (fun y hy=>.inr (by omega)),I.safe⟩
 refine ⟨_,fun b=>S1 b∨S2 b,by rw [List.length_append];exact hw.kept K5 (fun g hg=>by have:=hnew g hg;omega),?_,fun b hb=>?_⟩
 ·refine fU.kept (X:=(· = w.heap.size+2)) (w:=w4) ?_ K5 (fun b hb=>⟨by rcases hb with hb|hb;exact Nat.lt_of_lt_of_le (h3 b hb).2.1 hs4;exact Nat.lt_of_lt_of_le (hS2 b hb).2 MQ,by rcases hb with hb|hb;have:=h3 b hb;omega;have:=hS2 b hb;omega⟩)
  refine fU.append ?_ ?_
  ·exact (h2.kept xM (fun b hb=>⟨(h3 b hb).2.1,(h3 b hb).2.2⟩)).more fun b h=>.inl h
  ·rw [fU];refine ⟨_,[],(List.append_nil _).symm,⟨kc,dK,rfl,hz,?_⟩,rfl⟩
   exact aI.to hq zy (fun b hb=>⟨(hS2 b hb).2,fun h=>by have:=hlow b h;have:=(hS2 b hb).1;omega⟩) (fun b h=>.inr h)
 ·have hs5:=K5.size
  rcases hb with hb|hb
  ·have:=h3 b hb
   refine ⟨this.1,by omega,?_⟩
   rcases ho with h|h
   ·rw [h];exact this.2.2
   ·rw [h];simp;omega
  ·have:=hS2 b hb
   refine ⟨by omega,by omega,?_⟩
   rcases ho with h|h
   ·rw [h];intro h';have:=hlow b h';omega
   ·rw [h];simp;omega
theorem pR.pats {S:Nat→Prop} {p:aA} {ka:Option Addr} {cap:Nat} {w:World} {t:aj} {n:Int} {nm:aj} {l:List aA} {a:Option Addr} {c:Nat} {wx:World} (h:pR S p ka cap w t n nm l (.slice a l.length c) wx) :
  ∃S':Nat→Prop,aI wx S' a l∧∀b,S' b→w.heap.size+2<b∧b<wx.heap.size:=by
 obtain ⟨cs,S',h1,h2,h3⟩:=h.own
 rcases h1.cells with ⟨hv,hn⟩|⟨g,o,c',hv,hg1,hg2,_,_,hc⟩
 ·obtain rfl:=List.length_eq_zero_iff.1 hn
  exact ⟨aC,by unfold aI;trivial,fun b hb=>hb.elim⟩
 ·simp only [Value.slice.injEq,true_and] at hv
  obtain ⟨rfl,rfl⟩:=hv
  refine ⟨fun b=>S' b∨b=g,h2.pats g o (fun j u hu=>(hc j u hu).1),fun b hb=>?_⟩
  rcases hb with hb|rfl
  ·exact ⟨(h3 b hb).1,(h3 b hb).2.1⟩
  ·omega
theorem aal {f:Func} (hres:f.results = #[.cell 2 24]) {tmps:Array Value} {S:Nat→Prop} {p:aA} {ka:Option Addr} {cap:Nat} {w wx:World} {k:Int} {t:aj} {n:Int} {nm:aj} {l:List aA} {a:Option Addr} {c:Nat}
  (ht:tmps.getD 2 undef=.pointer (some ⟨w.heap.size+1,0,none⟩)) (I:pR S p ka cap w t n nm l (.slice a l.length c) wx) (hb:bG p=.mk k t n nm l) (hk:p.kind=k) (hz:t.size<1000000000∧nm.size<1000000000∧l.length<1000000000) :
  bodyPost Tryz.prog f (wQ p w) .ret ⟨tmps,[]⟩ (bI wx (w.heap.size+1) (.int .i64 k) (.string t) (.int .i64 n) (.string nm) (.slice a l.length c)):=by
 obtain ⟨S',hp,hS⟩:=I.pats
 have K:Kept (· = w.heap.size+1) wx (bI wx (w.heap.size+1) (.int .i64 k) (.string t) (.int .i64 n) (.string nm) (.slice a l.length c)):=(Kept.refl (· = w.heap.size+1) wx).bI (.inl rfl) _ _ _ _ _
 obtain ⟨h0,h1,h2,h3,h4,_⟩:=dJ.cells (dJ.bI I.zero (.int .i64 k) (.string t) (.int .i64 n) (.string nm) (.slice a l.length c))
 have ht':tmps[2]?.getD undef=.pointer (some ⟨w.heap.size+1,0,none⟩):=by rw [←ht,Array.getD_eq_getD_getElem?]
 refine bodyPost_ret (v:=.agg #[.int .i64 k,.string t,.int .i64 n,.string nm,.slice a l.length c]) (by simp [results,hres,go_sem,ht',h0,h1,h2,h3,h4]) rfl ⟨_,rfl,?_,I.kept.step K (fun y hy=>.inr (by omega))⟩
 rw [hb]
 exact ⟨S',fun b hb=>⟨by have:=hS b hb;omega,Nat.lt_of_lt_of_le (hS b hb).2 K.size⟩,a,c,rfl,hz,hp.kept K (fun b hb=>⟨(hS b hb).2,by have:=hS b hb;omega⟩)⟩
theorem PG (l:List aA) (j:Nat) (hj:j<l.length):jy (l.take (j+1))=jy (l.take j)++[bG l[j]]:=by
 induction l generalizing j with
 | nil=>simp at hj
 | cons p ps ih =>
  cases j with
  | zero=>simp [jy]
  | succ j=>simp only [List.take_succ_cons,jy,List.cons_append,List.getElem_cons_succ];rw [ih j (by simpa using hj)]
end Go.Proofs.YtefjbnhpjdhjmaaGreatDoor

namespace Go.Proofs.YtefjbnhpjdhjmaaGreatDoor
set_option linter.all false
open Go.RowKit
set_option maxRecDepth 100000
set_option maxHeartbeats 8000000
theorem Tryz.infoE:(Tryz.prog.info? 24).map (fun i=>(i.zero,i.size,i.bytes))=some (some (.agg #[.int .i64 0,.string ⟨#[]⟩,.int .i64 0,.string ⟨#[]⟩,.slice none 0 0]),5,72):=by kernel_rfl
theorem XD (k:Int) (t:aj) (n:Int) (nm:aj) (kids:List aA) (ka:Option Addr) (cap:Nat) (S:Nat→Prop) (w:World) (hk:aI w S ka kids) (hsf:Safe S aC w.heap.size) (hz:t.size<1000000000∧nm.size<1000000000∧kids.length<1000000000) (hih:adq S kids) :
  Calls Tryz.prog 24 #[.agg #[.int .i64 k,.string t,.int .i64 n,.string nm,.slice ka kids.length cap]] w (wQ (.mk k t n nm kids) w):=by
 obtain ⟨i0,hi0,hz0,hz1,hz2⟩:=info_parts Tryz.infoE
 obtain ⟨t',ht⟩:∃t',t'=(if k=1 then t else E0):=⟨_,rfl⟩
 obtain ⟨n',hn⟩:∃n',n'=(if k=2 then n else 0):=⟨_,rfl⟩
 obtain ⟨nm',hm⟩:∃nm',nm'=(if k=3∨k=4∨k=6 then nm else E0):=⟨_,rfl⟩
 have hb:Hid (bG (.mk k t n nm kids)=.mk k t' n' nm' (jy kids)):=by unfold Hid;rw [bG,ht,hn,hm]
 have HT:Hid (t'.size<1000000000):=by
  unfold Hid;rw [ht];split
  ·exact hz.1
  ·decide
 have HM:Hid (nm'.size<1000000000):=by
  unfold Hid;rw [hm];split
  ·exact hz.2.1
  ·decide
 have Zw:=ah ht;have HN':=ah hn;have Zx:=ah hm
 clear ht hn hm
 have pF:=pR.start (p:=.mk k t n nm kids) (cap:=cap) hk hsf
 dsimp only [aA.aY,aA.aW,aA.dY,aA.aX,aA.aU] at pF
 obtain ⟨w0,hw0⟩:∃w0,w0=(((w.alloc (.cells #[.int .i64 k,.string t,.int .i64 n,.string nm,.slice ka kids.length cap] 24)).alloc (.cells #[.int .i64 0,.string ⟨#[]⟩,.int .i64 0,.string ⟨#[]⟩,.slice none 0 0] 24)).alloc (.cells #[.int .i64 k,.string ⟨#[]⟩,.int .i64 0,.string ⟨#[]⟩,.slice none 0 0] 24)):=⟨_,rfl⟩
 rw [←hw0] at pF
 have I0:=ah pF;have HW0:=ah hw0;have HIH:=ah hih
 have hkl:=hz.2.2
 have hsw:=hsf
 clear pF hw0 hk hsf hih hz
 go_enter Tryz.func24, Tryz.ntmps24
 go_upto_region 2 with fail
 rw [←HW0.out]
 obtain ⟨c0,c1,c2,c3,c4,_⟩:=I0.out.box.cells
 dsimp only [aA.aY,aA.aW,aA.dY,aA.aX,aA.aU] at c0 c1 c2 c3 c4
 obtain ⟨_,_,_,_,_,of⟩:=I0.out.out.cells
 have f1:=of 1;have f2:=of 2;have f3:=of 3;clear of
 go_upto_block 0 with fail
 go_cut [] (fun wx=>Hid (pR S (.mk k t n nm kids) ka cap w t' n' nm' [] (.slice none 0 0) wx))
 case first =>
  by_cases h1:k=1
  ·have e1:(k==1)=true:=by simp [h1]
   have fin:Hid (pR S (.mk k t n nm kids) ka cap w t' n' nm' [] (.slice none 0 0) (w0.setCell ⟨w.heap.size+2,1,none⟩ (.string t))):=by
    have hx:=I0.out.put (k1 (o:=1) w0 (.string t)) (I0.out.out.st _).1
    rw [Zw.out,HN'.out,Zx.out,if_pos h1,if_neg (by omega),if_neg (by omega)];exact hx
   clear h1
   go_wp2_with fail
   go_meet
   exact fin
  have e1:(k==1)=false:=by simp;omega
  by_cases h2:k=2
  ·have e2:(k==2)=true:=by simp [h2]
   have fin:Hid (pR S (.mk k t n nm kids) ka cap w t' n' nm' [] (.slice none 0 0) (w0.setCell ⟨w.heap.size+2,2,none⟩ (.int .i64 n))):=by
    have hx:=I0.out.put (k1 (o:=2) w0 (.int .i64 n)) (I0.out.out.st _).2.1
    rw [Zw.out,HN'.out,Zx.out,if_neg (by omega),if_pos h2,if_neg (by omega)];exact hx
   clear h1 h2
   go_wp2_with fail
   go_meet
   exact fin
  have e2:(k==2)=false:=by simp;omega
  by_cases h3:k=3∨k=4∨k=6
  ·have fin:Hid (pR S (.mk k t n nm kids) ka cap w t' n' nm' [] (.slice none 0 0) (w0.setCell ⟨w.heap.size+2,3,none⟩ (.string nm))):=by
    have hx:=I0.out.put (k1 (o:=3) w0 (.string nm)) (I0.out.out.st _).2.2.1
    rw [Zw.out,HN'.out,Zx.out,if_neg (by omega),if_neg (by omega),if_pos h3];exact hx
   clear h1 h2
   rcases h3 with h3|h3|h3
   ·have e3:(k==3)=true:=by simp [h3]
    clear h3
    go_wp2_with fail
    go_meet
    exact fin
   ·have e3:(k==3)=false:=by simp;omega
    have e4:(k==4)=true:=by simp [h3]
    clear h3
    go_wp2_with fail
    go_meet
    exact fin
   ·have e3:(k==3)=false:=by simp;omega
    have e4:(k==4)=false:=by simp;omega
    have e6:(k==6)=true:=by simp [h3]
    clear h3
    go_wp2_with fail
    go_meet
    exact fin
  ·have fin:Hid (pR S (.mk k t n nm kids) ka cap w t' n' nm' [] (.slice none 0 0) w0):=by
    rw [Zw.out,HN'.out,Zx.out,if_neg h1,if_neg h2,if_neg h3];exact I0.out
   have e3:(k==3)=false:=by simp;omega
   have e4:(k==4)=false:=by simp;omega
   have e6:(k==6)=false:=by simp;omega
   clear h1 h2 h3
   go_wp2_with fail
   go_meet
   exact fin
 case rest =>
  have J4:=hcut
  clear c0 c1 c2 c3 c4 f1 f2 f3 hcut
  obtain ⟨_,_,_,_,c4,_⟩:=J4.out.box.cells
  dsimp only [aA.aY,aA.aW,aA.dY,aA.aX,aA.aU] at c4
  go_wp2_with fail
  go_loopw [31] (fun x wr=>∃(j:Nat) (a:Option Addr) (c:Nat),j≤kids.length∧x=.int .i64 j∧Hid (pR S (.mk k t n nm kids) ka cap w t' n' nm' (jy (kids.take j)) (.slice a (jy (kids.take j)).length c) wr)) (fun x _=>kids.length-(intOf x).toNat)
  case atStart=>exact ⟨0,none,0,Nat.zero_le _,rfl,by simpa [jy] using J4⟩
  case round =>
   clear c4
   obtain ⟨j,a,c,hj,rfl,I⟩:=hrel
   by_cases hlt:j<kids.length
   ·have hlj:(jy (kids.take j)).length=j:=by rw [BM,List.length_take];omega
    obtain ⟨kb,ko,rfl⟩:=iF I.out.kids (by show 0<kids.length;omega)
    obtain ⟨_,xO,q0,q1,q2,q3,kc,dK,q4,hkk⟩:=(iH kids kb ko j hlt I.out.kids).open
    have kA:Kept aC wr (wr.alloc (.cells #[.int .i64 kids[j].kind,.string kids[j].text,.int .i64 kids[j].n,.string kids[j].name,.slice kc kids[j].kids.length dK] 24)):=(Kept.refl aC wr).alloc _
    have I1:=ah (I.out.next kA)
    have kD:Kept aC (wr.alloc (.cells #[.int .i64 kids[j].kind,.string kids[j].text,.int .i64 kids[j].n,.string kids[j].name,.slice kc kids[j].kids.length dK] 24)) (wr.alloc (.cells #[.int .i64 kids[j].kind,.string kids[j].text,.int .i64 kids[j].n,.string kids[j].name,.slice kc kids[j].kids.length dK] 24)).drew:=(Kept.refl aC _).drew
    have hsr:Safe S aC wr.heap.size:=hsw.mono I.out.kept.size
    have hC:Hid (Calls Tryz.prog 24 #[(.agg #[.int .i64 kids[j].kind,.string kids[j].text,.int .i64 kids[j].n,.string kids[j].name,.slice kc kids[j].kids.length dK])] (wr.alloc (.cells #[.int .i64 kids[j].kind,.string kids[j].text,.int .i64 kids[j].n,.string kids[j].name,.slice kc kids[j].kids.length dK] 24)).drew (wQ kids[j] (wr.alloc (.cells #[.int .i64 kids[j].kind,.string kids[j].text,.int .i64 kids[j].n,.string kids[j].name,.slice kc kids[j].kids.length dK] 24)).drew)):=HIH.out j hlt _ _ ⟨kc,dK,rfl,xO,hkk.kept (kA.trans kD) hsr⟩ (hsr.mono (kA.trans kD).size)
    have I2:=ah (I1.out.next kD)
    obtain ⟨o0,o1,o2,o3,o4,of⟩:=I2.out.out.cells
    have hof:=of 4
    obtain ⟨g0,g1,g2,g3,g4,_⟩:=I1.out.out.cells
    have hst:=ah (PG kids j hlt)
    have hKF:=ah I.out.kept.size
    clear kA hkk xO of hsr kD
    generalize hll:jy (kids.take j)=l at *
    have hlz:l.length≤1000000000:=by omega
    have Um:=ah hlj
    clear hlj
    go_wp2_with fail
    go_region_law (first
     | (refine lK (w:=w3.alloc (.cells #[.int .i64 (bG kids[j]).kind,.string (bG kids[j]).text,.int .i64 (bG kids[j]).n,.string (bG kids[j]).name,.slice gB (bG kids[j]).kids.length bZ] 24)) rfl (.tmp 36) (.tmp 39) 22 22 rfl (w.heap.size+3) 24 i0 (.agg #[.int .i64 0,.string ⟨#[]⟩,.int .i64 0,.string ⟨#[]⟩,.slice none 0 0]) 5 72 Tryz.underlying22 hi0 hz0 hz1 hz2 rfl (.slice a l.length c) l.length cs (by simp [Act.eval]) WB.out _ 1 [.int .i64 (bG kids[j]).kind,.string (bG kids[j]).text,.int .i64 (bG kids[j]).n,.string (bG kids[j]).name,.slice gB (bG kids[j]).kids.length bZ] (by simp [Act.eval]) SR.out (by unfold maxLen;omega) (by omega) hb3 ?_;intro a4 c4 w4 Bf hg4 Bg;have Bh:=ah (LM.out a4 c4 w4 Bf hg4 (by simpa using Bg));have Qo:=(HF.out w4 hg4).1;have Qp:=(HF.out w4 hg4).2)
     | (go_simp;go_at_call 24;(with_reducible refine (Calls.mono hC.out ?_));(rintro e w3 ⟨v2,rfl,⟨S2,hS2,⟨gB,bZ,rfl,zC,hk2⟩⟩,K3⟩);(have I3:=ah (I2.out.next K3));(obtain ⟨p0,p1,p2,p3,p4,pf⟩:=I3.out.out.cells);(have MR:(w3.alloc (.cells #[.int .i64 (bG kids[j]).kind,.string (bG kids[j]).text,.int .i64 (bG kids[j]).n,.string (bG kids[j]).name,.slice gB (bG kids[j]).kids.length bZ] 24)).cell? ⟨w.heap.size+2,4,none⟩=some (.slice a l.length c):=(((Kept.refl aC w3).alloc _).cell I3.out.out.lt (fun h=>h)).trans p4);(obtain ⟨cs,S1,hw1,hr1,hS1⟩:=I2.out.own);(have Bj:=ah K3);(have WB:=ah ((hw1.kept K3 (fun _ _ h=>h)).alloc (.cells #[.int .i64 (bG kids[j]).kind,.string (bG kids[j]).text,.int .i64 (bG kids[j]).n,.string (bG kids[j]).name,.slice gB (bG kids[j]).kids.length bZ] 24)));(have SR:Hid (Src Tryz.prog 5 22 (.slice (some ⟨w3.heap.size,0,none⟩) 1 1) 1 [.int .i64 (bG kids[j]).kind,.string (bG kids[j]).text,.int .i64 (bG kids[j]).n,.string (bG kids[j]).name,.slice gB (bG kids[j]).kids.length bZ] (w3.alloc (.cells #[.int .i64 (bG kids[j]).kind,.string (bG kids[j]).text,.int .i64 (bG kids[j]).n,.string (bG kids[j]).name,.slice gB (bG kids[j]).kids.length bZ] 24))):=Src.ofSlice _ Tryz.underlying22 _ _ _ _ rfl (World.news_of_block (fr:=(0,0)) (cs:=#[.int .i64 (bG kids[j]).kind,.string (bG kids[j]).text,.int .i64 (bG kids[j]).n,.string (bG kids[j]).name,.slice gB (bG kids[j]).kids.length bZ]) (ay w3 _)) (by intro u hu;simp at hu;rcases hu with rfl|rfl|rfl|rfl|rfl<;>rfl));(have hb3:w.heap.size+3≤(w3.alloc (.cells #[.int .i64 (bG kids[j]).kind,.string (bG kids[j]).text,.int .i64 (bG kids[j]).n,.string (bG kids[j]).name,.slice gB (bG kids[j]).kids.length bZ] 24)).heap.size:=by have:=I3.out.out.lt;simp;omega);(have LM:Hid (∀(a':Option Addr) (c':Nat) (w4:World),bT w4 (w.heap.size+3) 24 5 (.slice a' (l.length+1) c') (l.length+1) (cs++[.int .i64 (bG kids[j]).kind,.string (bG kids[j]).text,.int .i64 (bG kids[j]).n,.string (bG kids[j]).name,.slice gB (bG kids[j]).kids.length bZ])→(w3.alloc (.cells #[.int .i64 (bG kids[j]).kind,.string (bG kids[j]).text,.int .i64 (bG kids[j]).n,.string (bG kids[j]).name,.slice gB (bG kids[j]).kids.length bZ] 24)).grownBy w4 (Value.slice a l.length c).ownBlock→((Value.slice a' (l.length+1) c').ownBlock=(Value.slice a l.length c).ownBlock∨(Value.slice a' (l.length+1) c').ownBlock=some (w3.heap.size+1))→pR S (.mk k t n nm kids) (some ⟨kb,ko,none⟩) cap w t' n' nm' (l++[bG kids[j]]) (.slice a' (l.length+1) c') (w4.setCell ⟨w.heap.size+2,4,none⟩ (.slice a' (l.length+1) c'))):=fun a' c' w4 x1 x2 x3=>XC I2.out hw1 hr1 hS1 Bj.out zC hS2 hk2 x1 x2 x3);(have HF:Hid (∀w4:World,(w3.alloc (.cells #[.int .i64 (bG kids[j]).kind,.string (bG kids[j]).text,.int .i64 (bG kids[j]).n,.string (bG kids[j]).name,.slice gB (bG kids[j]).kids.length bZ] 24)).grownBy w4 (Value.slice a l.length c).ownBlock→w4.frozen? ⟨w.heap.size+2,4,none⟩=false∧w4.cell? ⟨w.heap.size+2,4,none⟩=some (.slice a l.length c)):=fun w4 hg=>by have hlt3:=I3.out.out.lt;have hx:=hg.block (w.heap.size+2) (by simp;omega) (fun e=>by have:=(hw1.lt _ e.symm).1;omega);have hy:=I3.out.out;unfold dJ at hy;exact ⟨by simp [World.frozen?,hx,Below.heap_alloc _ _ _ hlt3,hy],by simp [World.cell?,hx,Below.heap_alloc _ _ _ hlt3,hy]⟩)))
    all_goals
     go_wp2_with fail
     go_roundw
     case rel=>exact ⟨j+1,a4,c4,by omega,by go_num,by rw [hst.out,List.length_append];exact Bh⟩
     case measure=>simp [intOf];omega
   ·obtain rfl:j=kids.length:=by omega
    rw [List.take_length] at I
    obtain ⟨o0,o1,o2,o3,o4,_⟩:=I.out.out.cells
    dsimp only [aA.aY,aA.aW,aA.dY,aA.aX,aA.aU] at o0
    obtain ⟨z0,z1,z2,z3,z4,zf⟩:=dJ.cells I.out.zero
    have f0:=zf 0;have f1:=zf 1;have f2:=zf 2;have f3:=zf 3;have f4:=zf 4;clear zf
    go_wp2_with fail
    exact aal rfl rfl I.out hb.out rfl ⟨HT.out,HM.out,by rw [BM];exact hkl⟩
theorem Qn:∀(m:Nat) (p:aA) (v:Value) (S:Nat→Prop) (w:World),sizeT p≤m→gV w S v p→Safe S aC w.heap.size→Calls Tryz.prog 24 #[v] w (wQ p w):=by
 intro m
 induction m with
 | zero=>intro p v S w hm;have:=lW p;omega
 | succ m ih =>
  intro p v S w hm hp hS
  obtain ⟨k,t,n,nm,kids⟩:=p
  obtain ⟨ka,cap,rfl,hz,hk⟩:=hp
  refine XD k t n nm kids ka cap S w hk hS hz fun j hj v2 w2 h2 s2=>ih _ v2 S w2 ?_ h2 s2
  have:=ng kids j hj
  simp only [sizeT] at hm;omega
end Go.Proofs.YtefjbnhpjdhjmaaGreatDoor

namespace Go.Proofs.YtefjbnhpjdhjmaaGreatDoor
set_option linter.all false
open Go.RowKit
theorem UC {N:Nat} {a:ig} {s:aN} {w:World} (h:dF N a s w):∀i (hi:i<24),w.cell? ⟨N,0+i,none⟩=some ((aV a s)[i]'(by simpa [aV] using hi)):=by
 intro i hi
 unfold dF at h
 rw [cell_of_row w N (0+i) _ _ _ h,Nat.zero_add]
 show ((aV a s).toArray)[i]?=_
 rw [List.getElem?_toArray,List.getElem?_eq_getElem (by simpa [aV] using hi)]
structure UD (a:ig) (s:aN):Prop where
 target:vS s.target
 value:vS s.value
 params:s.params.length≤a.mc
 locals:s.locals.length≤a.lc
structure oh (N:Nat) (a:ig) (s:aN) (w0 w:World):Prop where
 box:dF N a s w
 ok:lH w (· < w0.heap.size) a s
 keep:Kept aC w0 w
theorem oh.next {N:Nat} {a:ig} {s:aN} {w0 w w':World} (h:oh N a s w0 w) (k:Kept aC w w'):oh N a s w0 w' :=
 ⟨h.box.kept k (fun h=>h),h.ok.to k (Safe.lt h.keep.size) (fun _ h=>h),h.keep.trans k⟩
def DF (a:ig) (s:aN):Value:=.agg #[.int .i64 s.target.kind,.string s.target.text,.int .i64 s.target.n,.string s.target.name,.slice a.ta s.target.kids.length a.tc]
def DI (a:ig) (s:aN):Value:=.agg #[.int .i64 s.value.kind,.string s.value.text,.int .i64 s.value.n,.string s.value.name,.slice a.va s.value.kids.length a.vc]
def DJ (a:ig) (s:aN):Value:=.agg #[.int .i64 s.pat.kind,.string s.pat.text,.int .i64 s.pat.n,.string s.pat.name,.slice a.pa s.pat.kids.length a.pc]
section
variable {N:Nat} {a:ig} {s:aN} {w0 w:World}
theorem oh.target (h:oh N a s w0 w) (hz:nX s):gV w (· < w0.heap.size) (DF a s) s.target:=⟨a.ta,a.tc,rfl,hz.target.z,h.ok.target⟩
theorem oh.value (h:oh N a s w0 w) (hz:nX s):gV w (· < w0.heap.size) (DI a s) s.value:=⟨a.va,a.vc,rfl,hz.value.z,h.ok.value⟩
theorem oh.pat (h:oh N a s w0 w) (hz:nX s):gV w (· < w0.heap.size) (DJ a s) s.pat:=⟨a.pa,a.pc,rfl,hz.pat.z,h.ok.pat⟩
theorem oh.safe (h:oh N a s w0 w):Safe (· < w0.heap.size) aC w.heap.size:=Safe.lt h.keep.size
theorem gV.here {v:Value} {p:aA} (h:gV w (· < w0.heap.size) v p) (hs:w0.heap.size≤w.heap.size):gV w (· < w.heap.size) v p:=by
 obtain ⟨ka,cap,rfl,hz,hp⟩:=h
 exact ⟨ka,cap,rfl,hz,hp.to (Kept.refl aC w) (Safe.lt hs) (fun _ hb=>Nat.lt_of_lt_of_le hb hs)⟩
end
def E9 (w:World):Prop:=Glob w∧0<w.heap.size∧1<w.heap.size
theorem E9.next {w w':World} (h:E9 w) (k:Kept aC w w'):E9 w' :=
 ⟨h.1.below k.below ⟨h.2.1,h.2.2⟩,Nat.lt_of_lt_of_le h.2.1 k.size,Nat.lt_of_lt_of_le h.2.2 k.size⟩
theorem bytes_eq {x y:aj} (h:x.data.toList=y.data.toList):x=y:=by
 apply ByteArray.ext
 exact Array.toList_inj.1 h
theorem abu (l:List UInt8):decide (0≤Lib.indexByte l 10)=decide ((10:UInt8)∈l):=by
 rw [decide_eq_decide]
 induction l with
 | nil=>simp [Lib.indexByte]
 | cons x r ih =>
  rw [Lib.indexByte]
  by_cases hx:x=10
  ·subst hx;simp
  ·have h1:(x==(10:UInt8))=false:=by simpa using hx
   have h2:=Lib.indexByte_ge r 10
   rw [h1]
   simp only [Bool.false_eq_true,if_false,List.mem_cons]
   by_cases h3:Lib.indexByte r 10 = -1
   ·have h4:(Lib.indexByte r 10 == -1)=true:=by simpa using h3
    rw [h4]
    simp only [if_true]
    constructor
    ·intro h;omega
    ·rintro (h|h)
     ·exact absurd h.symm hx
     ·have:=ih.2 h;omega
   ·have h4:(Lib.indexByte r 10 == -1)=false:=by simpa using h3
    rw [h4]
    simp only [Bool.false_eq_true,if_false]
    constructor
    ·intro _;exact .inr (ih.1 (by omega))
    ·intro _;omega
theorem rJ {p:aA} (h:lI p∧sizeT p≤4096) (i:Nat):(aP p i).length≤600000000:=by
 have:=Bv p i h.1;have:=h.2;omega
theorem UE (s:aN):(iE s).length≤65540:=by
 unfold iE
 split
 ·unfold fQ
  split
  ·simp
  ·split
   ·simp
   ·simp only [List.length_cons,List.length_append,List.length_nil];omega
 ·simp
theorem ku (x:aj):x.toList.isEmpty=decide (x.size=0):=by
 rw [ByteArray.toList_eq,Bool.eq_iff_iff,decide_eq_true_eq,List.isEmpty_iff]
 exact ⟨fun h=>by show x.data.size=0;rw [←Array.length_toList,h];rfl,fun h=>List.eq_nil_of_length_eq_zero (by rw [Array.length_toList];exact h)⟩
theorem aaz {s:aN} (hr:UA s) (hv:s.kind=2∨s.kind=3∨s.kind=4∨s.kind=5→lI s.value∧sizeT s.value≤4096) (ht:s.kind=3∨s.kind=5→lI s.target∧sizeT s.target≤4096) :
  (s.label.data.toList++jI s (iE s)).length≤2000000000:=by
 have h1:=hr.label
 have e1:s.label.data.toList.length=s.label.size:=rfl
 have e2:s.name.data.toList.length=s.name.size:=rfl
 have e3:s.entry.data.toList.length=s.entry.size:=rfl
 have hp:=UE s
 rw [List.length_append]
 unfold jI
 split
 ·have:=rJ (hv (by omega)) 1;simp only [List.length_cons];omega
 split
 ·have:=rJ (hv (by omega)) 1;have:=rJ (ht (by omega)) 1;simp only [List.length_cons,List.length_append,List.length_nil];omega
 split
 ·have:=rJ (hv (by omega)) 1;simp only [List.length_cons,List.length_append,List.length_nil];omega
 split
 ·have:=rJ (hv (by omega)) 1;have:=rJ (ht (by omega)) 1;simp only [List.length_cons,List.length_append,List.length_nil];omega
 split
 ·have:=hr.name (by omega);simp only [List.length_cons,List.length_append,List.length_nil];omega
 split
 ·rename_i hk
  have h2:=hr.name (by omega);have h3:=hr.entry hk;have h4:=hr.params hk;have h5:=hr.locals hk
  have:=vT h4.1 h4.2;have:=vT h5.1 h5.2
  simp only [List.length_cons,List.length_append,List.length_nil];omega
 ·simp only [List.length_nil];omega
end Go.Proofs.YtefjbnhpjdhjmaaGreatDoor

namespace Go.Proofs.YtefjbnhpjdhjmaaGreatDoor
set_option linter.all false
open Go.RowKit
theorem yV {en:Nat} {x:aj} (hx:bF x=true) {l:List aF} {r:List Tk} (e:l.map kt=sg 40::(1,x)::sg 41::r):∃r',gq en l=.ok (x,r')∧r'.map kt=r:=by
 obtain ⟨a,l1,rfl,ha,h1⟩:=bf e
 obtain ⟨b,l2,rfl,hb,h2⟩:=bf h1
 obtain ⟨c,l3,rfl,hc,h3⟩:=bf h2
 refine ⟨l3,?_,h3⟩
 unfold gq
 rw [uP ha]
 dsimp only
 rw [og hb (jC hx)]
 dsimp only
 rw [uP hc]
theorem Zc {en:Nat} {s s2:aN} {l l2:List aF} (h:(if aJ (bs [58]) l=true then gW en s l.tail else .ok (s,l))=.ok (s2,[])) (hd:lT s2.target≤200∧lT s2.value≤200):xG en s l=.ok s2:=by
 unfold xG
 rw [h]
 dsimp only
 rw [if_neg (by simp),if_neg (by omega)]
theorem WR {s:aN} (h:uD s) {en:Nat} {s2:aN} (h2:s2.always=E0∧s2.yes=E0∧s2.aZ=E0) (hd:lT s2.target≤200∧lT s2.value≤200) {l:List aF} (e:l.map kt=kG s) :
  xG en s2 l=.ok {s2 with always:=s.always,yes:=s.yes,aZ:=s.aZ}:=by
 refine Zc (l2:=l) ?_ hd
 unfold kG at e
 by_cases ha:s.always.size≠0
 ·rw [if_pos ha] at e
  obtain ⟨a,l1,rfl,h0,h1⟩:=bf e
  obtain ⟨r',e1,e2⟩:=yV (en:=en) (pW h.always ha) (l:=l1) (r:=[]) h1
  obtain ⟨hy,hn⟩:=h.fit.resolve_left ha
  obtain rfl:=zY e2
  obtain ⟨b,l2,rfl,hb,_⟩:=bf h1
  rw [iW h0,if_pos rfl,List.tail_cons]
  unfold gW
  rw [iW hb,if_pos rfl,e1,(rU hy).trans h2.2.1.symm,(rU hn).trans h2.2.2.symm]
 rw [if_neg ha] at e
 have ea:s.always=s2.always:=by rw [h2.1];exact rU (by omega)
 have aai:∀(a:aF) (x:aj) (l:List aF) (c:UInt8),kt a=(1,x)→aJ (bs [c]) (a::l)=false:=fun a x l c ha=>by
  unfold aJ
  refine au fun q=>?_
  have:=(Prod.mk.inj ha).1
  omega
 by_cases hj:s.yes.size≠0∨s.aZ.size≠0
 ·rw [if_pos hj] at e
  obtain ⟨a,l1,rfl,h0,h1⟩:=bf e
  rw [iW h0,if_pos rfl,List.tail_cons]
  by_cases hy:s.yes.size≠0
  ·rw [if_pos hy] at h1
   obtain ⟨b,l2,rfl,hb,hl2⟩:=bf (show l1.map kt=(1,⟨#[83]⟩)::(sg 40::(1,s.yes)::sg 41::(if s.aZ.size≠0 then BL 70 s.aZ else [])) from h1)
   obtain ⟨r',e1,e2⟩:=yV (en:=en) (pW h.yes hy) hl2
   have kb:=Prod.mk.inj hb
   unfold gW
   rw [aai _ _ _ _ hb,if_neg (by decide),uQ kb.1]
   dsimp only
   rw [if_pos (show b.text=bs [83] from kb.2),e1]
   dsimp only
   by_cases hn:s.aZ.size≠0
   ·rw [if_pos hn] at e2
    obtain ⟨c,l3,rfl,hc,hl3⟩:=bf (show r'.map kt=(1,⟨#[70]⟩)::(sg 40::(1,s.aZ)::sg 41::[]) from e2)
    obtain ⟨r2,e3,e4⟩:=yV (en:=en) (pW h.aZ hn) hl3
    obtain rfl:=zY e4
    have kc:=Prod.mk.inj hc
    rw [if_neg (by simp),uQ kc.1]
    dsimp only
    rw [if_pos (show c.text=bs [70] from kc.2),e3,ea]
   ·rw [if_neg hn] at e2
    obtain rfl:=zY e2
    rw [if_pos rfl,ea,(rU (x:=s.aZ) (by omega)).trans h2.2.2.symm]
  ·rw [if_neg hy,List.nil_append] at h1
   have hn:s.aZ.size≠0:=hj.resolve_left hy
   rw [if_pos hn] at h1
   obtain ⟨b,l2,rfl,hb,hl2⟩:=bf (show l1.map kt=(1,⟨#[70]⟩)::(sg 40::(1,s.aZ)::sg 41::[]) from h1)
   obtain ⟨r',e1,e2⟩:=yV (en:=en) (pW h.aZ hn) hl2
   have kb:=Prod.mk.inj hb
   have eb:b.text=bs [70]:=kb.2
   obtain rfl:=zY e2
   unfold gW
   rw [aai _ _ _ _ hb,if_neg (by decide),uQ kb.1]
   dsimp only
   rw [if_neg (by rw [eb];decide),if_pos eb,e1]
   dsimp only
   rw [if_pos rfl,ea,(rU (x:=s.yes) (by omega)).trans h2.2.1.symm]
 ·rw [if_neg hj] at e
  obtain rfl:=zY e
  show Except.ok (s2,[])=_
  rw [ea,(rU (x:=s.yes) (by omega)).trans h2.2.1.symm,(rU (x:=s.aZ) (by omega)).trans h2.2.2.symm]
theorem Zd (c:UInt8):(sg c).2≠rC:=by
 intro e
 have h2:(1:Nat)=2:=congrArg ByteArray.size e
 omega
def Nm2 (ts:List Tk):Prop:=∀t u x v,ts=t::u→u=x::v→t.1=1→x.1=5∧x.2≠rC
def AP (r:List Tk):Prop:=∀x v,r=x::v→x.1=5∧x.2≠rC
theorem AP.sg (c:UInt8) (r:List Tk):AP (sg c::r):=by intro x v e;obtain ⟨rfl,_⟩:=List.cons.inj e;exact ⟨rfl,Zd c⟩
theorem Nm2.one {t:Tk} {r:List Tk} (h:AP r):Nm2 (t::r):=by intro a u x v e e2 _;obtain ⟨_,rfl⟩:=List.cons.inj e;exact h x v e2
theorem Nm2.no {t:Tk} {r:List Tk} (h:t.1≠1):Nm2 (t::r):=by intro a u x v e _ h1;obtain ⟨rfl,_⟩:=List.cons.inj e;exact absurd h1 h
theorem Nm2.of {a:Int} {x:aj} {r:List Tk} (h:a≠1):Nm2 ((a,x)::r):=Nm2.no h
theorem O9:∀(p:aA) (i:Nat),lI p→∀r,AP r→Nm2 (toks p i++r)
 | .mk k t n nm kids,i,h,r,hr=>by
  have hk:=h.facts.1
  rw [toks]
  split
  ·exact Nm2.of (by decide)
  split
  ·exact Nm2.of (by decide)
  split
  ·exact Nm2.one hr
  split
  ·exact Nm2.one (AP.sg 60 _)
  split
  ·exact Nm2.no (by decide)
  split
  ·by_cases hi:4<i
   ·rw [ak hi];exact Nm2.no (t:=sg 40) (by decide)
   ·rw [au hi];exact Nm2.no (t:=sg 45) (by decide)
  split
  ·exact Nm2.one (AP.sg 40 _)
  ·rename_i c1 c2 c3 c4 c5 c7 c6
   by_cases hi:dw k<i
   ·rw [ak hi];exact Nm2.no (t:=sg 40) (by decide)
   ·obtain ⟨a,b,hab⟩:=h.two (by omega)
    subst hab
    rw [au hi]
    show Nm2 (zX _ _ _++r)
    rw [zX,List.append_assoc]
    exact O9 a (dw k) h.sub.head.1 _ (AP.sg _ _)
theorem WS {l:List aF} (h:Nm2 (l.map kt)):dZ l=false:=by
 cases l with
 | nil=>rfl
 | cons a l =>
  cases l with
  | nil=>rfl
  | cons b l =>
   refine au fun q=>?_
   have:=(h (kt a) (kt b::l.map kt) (kt b) (l.map kt) rfl rfl q.1).1
   have:b.kind=5:=this
   omega
theorem aa0 {l:List aF} (h:Nm2 (l.map kt)):lU l=false:=by
 cases l with
 | nil=>rfl
 | cons a l =>
  cases l with
  | nil=>rfl
  | cons b l=>exact au fun q=>(h (kt a) (kt b::l.map kt) (kt b) (l.map kt) rfl rfl q.1).2 q.2.2
theorem Pe (s:aN):AP (kG s):=by
 unfold kG
 split
 ·exact AP.sg 58 _
 split
 ·exact AP.sg 58 _
 ·intro x v e;cases e
theorem Ze (s:aN):Stp 1 (kG s):=by
 unfold kG
 split
 ·exact Stp.sign (by decide) (by decide)
 split
 ·exact Stp.sign (by decide) (by decide)
 ·exact Stp.nil 1
theorem Fp {s:aN} {l:List aF} (e:l.map kt=kG s) (c:UInt8) (hc:58≠c):aJ (bs [c]) l=false:=by
 refine jF e fun t u ee=>?_
 unfold kG at ee
 split at ee
 ·obtain ⟨rfl,_⟩:=List.cons.inj ee;exact pO hc
 split at ee
 ·obtain ⟨rfl,_⟩:=List.cons.inj ee;exact pO hc
 ·cases ee
theorem Ho {en:Nat} {s:aN} (h:(fQ s.pat).2=0) {l:List aF} {r:List Tk} (e:l.map kt=EP s::r):∃r',oZ en l=.ok (aB s.pat,r')∧r'.map kt=r:=by
 obtain ⟨a,l1,rfl,ha,h1⟩:=bf e
 obtain ⟨k1,k2⟩:=Prod.mk.inj ha
 refine ⟨l1,?_,h1⟩
 unfold oZ
 rw [uQ k1]
 dsimp only
 rw [show a.text=⟨(fQ s.pat).1.toArray⟩ from k2,TP h]
 rfl
theorem Gh {en:Nat}:∀(q:aj) (xs:List aj),(∀x∈q::xs,bF x=true)→∀(f:Nat) (ns:List aj) (l:List aF) (r:List Tk),ns.length+(q::xs).length≤8→(q::xs).length≤f→
  l.map kt=uS (q::xs)++(sg 41::r)→∃r',namesT (some (bs [41])) en f ns l=.ok (ns++q::xs,r')∧r'.map kt=r
 | q,[],h,f,ns,l,r,h8,hf,e=>by
  obtain ⟨f,rfl⟩:∃g,f=g+1:=⟨f-1,by simp at hf;omega⟩
  obtain ⟨a,l1,rfl,ha,h1⟩:=bf (show l.map kt=(1,q)::sg 41::r from e)
  obtain ⟨b,l2,rfl,hb,h2⟩:=bf h1
  refine ⟨l2,?_,h2⟩
  rw [namesT,if_neg (by simp at h8;omega),og ha (jC (h q (by simp)))]
  dsimp only
  rw [iW hb,if_pos rfl];rfl
 | q,q2::xs,h,f,ns,l,r,h8,hf,e=>by
  obtain ⟨f,rfl⟩:∃g,f=g+1:=⟨f-1,by simp at hf;omega⟩
  obtain ⟨a,l1,rfl,ha,h1⟩:=bf (show l.map kt=(1,q)::sg 44::(uS (q2::xs)++(sg 41::r)) from e)
  obtain ⟨b,l2,rfl,hb,h2⟩:=bf h1
  obtain ⟨r',e3,h3⟩:=Gh (en:=en) q2 xs (fun x hx=>h x (by simp at hx⊢;right;exact hx)) f (ns++[q]) l2 r (by simp at h8⊢;omega) (by simp at hf⊢;omega) h2
  refine ⟨r',?_,h3⟩
  rw [namesT,if_neg (by simp at h8;omega),og ha (jC (h q (by simp)))]
  dsimp only
  rw [jF h1 fun x u ee=>by obtain ⟨rfl,_⟩:=List.cons.inj ee;exact pO (by decide),if_neg (by decide),uP hb]
  dsimp only
  rw [e3,List.append_assoc];rfl
theorem Jj {en:Nat}:∀(q:aj) (xs:List aj),(∀x∈q::xs,bF x=true)→∀(f:Nat) (ns:List aj) (l:List aF) (r:List Tk) (y:aj),ns.length+(q::xs).length≤8→(q::xs).length≤f→
  l.map kt=uS (q::xs)++((1,y)::r)→∃r',namesT none en f ns l=.ok (ns++q::xs,r')∧r'.map kt=(1,y)::r
 | q,[],h,f,ns,l,r,y,h8,hf,e=>by
  obtain ⟨f,rfl⟩:∃g,f=g+1:=⟨f-1,by simp at hf;omega⟩
  obtain ⟨a,l1,rfl,ha,h1⟩:=bf (show l.map kt=(1,q)::(1,y)::r from e)
  refine ⟨l1,?_,h1⟩
  rw [namesT,if_neg (by simp at h8;omega),og ha (jC (h q (by simp)))]
  dsimp only
  rw [jF h1 fun x u ee=>by obtain ⟨rfl,_⟩:=List.cons.inj ee;intro q;exact absurd (Prod.mk.inj q).1 (by decide),if_neg (by decide)]
 | q,q2::xs,h,f,ns,l,r,y,h8,hf,e=>by
  obtain ⟨f,rfl⟩:∃g,f=g+1:=⟨f-1,by simp at hf;omega⟩
  obtain ⟨a,l1,rfl,ha,h1⟩:=bf (show l.map kt=(1,q)::sg 44::(uS (q2::xs)++((1,y)::r)) from e)
  obtain ⟨b,l2,rfl,hb,h2⟩:=bf h1
  obtain ⟨r',e3,h3⟩:=Jj (en:=en) q2 xs (fun x hx=>h x (by simp at hx⊢;right;exact hx)) f (ns++[q]) l2 r y (by simp at h8⊢;omega) (by simp at hf⊢;omega) h2
  refine ⟨r',?_,h3⟩
  rw [namesT,if_neg (by simp at h8;omega),og ha (jC (h q (by simp)))]
  dsimp only
  rw [iW hb,if_pos rfl,List.tail_cons,e3,List.append_assoc];rfl
def coreS (s:aN):aN:={dV s with always:=E0,yes:=E0,aZ:=E0}
def labS (s:aN):aN:={st0 with label:=s.label}
section
variable {s:aN} {en:Nat} {l:List aF}
theorem xC {s2:aN} (h1:s2.label=s.label) (h2:s2.kind=s.kind) (h3:s2.target=(dV s).target) (h4:s2.value=(dV s).value) (h5:s2.pat=(dV s).pat) (h6:s2.name=(dV s).name) (h7:s2.entry=(dV s).entry) (h8:s2.params=(dV s).params) (h9:s2.locals=(dV s).locals) (h10:s2.always=E0∧s2.yes=E0∧s2.aZ=E0):s2=coreS s:=by
 obtain ⟨a1,a2,a3,a4,a5,a6,a7,a8,a9,a10,a11,a12⟩:=s2
 dsimp only at h1 h2 h3 h4 h5 h6 h7 h8 h9 h10
 obtain ⟨h10,h11,h12⟩:=h10
 unfold coreS
 rw [h1,h2,h3,h4,h5,h6,h7,h8,h9,h10,h11,h12];rfl
theorem WT (h:uD s) (hn:ED s) (hp:eG s→(fQ s.pat).2=0) (hk:s.kind=2∨s.kind=3∨s.kind=4∨s.kind=5) (e:l.map kt=tu s++kG s):∃r',CG en (labS s) l=.ok (coreS s,r')∧r'.map kt=kG s:=by
 have hv:=h.value hk
 have hsj:=Ze s
 unfold tu at e
 by_cases k2:s.kind=2
 ·rw [if_pos k2] at e
  obtain ⟨r',e1,e2⟩:=vJ (en:=en) hv hn.value e hsj
  refine ⟨r',?_,e2⟩
  unfold CG
  rw [e1]
  dsimp only
  rw [Fp e2 63 (by decide),if_neg (by decide)]
  unfold mJ
  rw [Fp e2 61 (by decide),if_neg (by decide)]
  congr 2
  apply xC<;>simp [labS,st0,dV,eG,k2]
 rw [if_neg k2] at e
 by_cases k3:s.kind=3
 ·rw [if_pos k3,List.append_assoc] at e
  have ht:=h.target (.inl k3)
  obtain ⟨r',e1,e2⟩:=vJ (en:=en) ht.1 hn.target e (Stp.sign (by decide) (by decide))
  obtain ⟨a,l2,rfl,ha,h2⟩:=bf e2
  obtain ⟨r2,e3,e4⟩:=vJ (en:=en) hv hn.value h2 hsj
  refine ⟨r2,?_,e4⟩
  unfold CG
  rw [e1]
  dsimp only
  rw [jF e2 fun x u ee=>by obtain ⟨rfl,_⟩:=List.cons.inj ee;exact pO (by decide),if_neg (by decide)]
  unfold mJ
  have hit:isTarget (bG s.target):=by have:=ht.2;revert this;cases s.target;exact fun h=>h
  rw [iW ha,if_pos rfl,if_neg (by simpa using hit),List.tail_cons,e3]
  dsimp only
  congr 2
  apply xC<;>simp [labS,st0,dV,eG,k3]
 rw [if_neg k3] at e
 by_cases k4:s.kind=4
 ·rw [if_pos k4,List.append_assoc] at e
  obtain ⟨r',e1,e2⟩:=vJ (en:=en) hv hn.value e (Stp.sign (by decide) (by decide))
  obtain ⟨a,l2,rfl,ha,h2⟩:=bf e2
  obtain ⟨r2,e3,e4⟩:=Ho (en:=en) (hp (.inl k4)) h2
  have e4:r2.map kt=kG s:=e4
  refine ⟨r2,?_,e4⟩
  unfold CG
  rw [e1]
  dsimp only
  rw [iW ha,if_pos rfl,List.tail_cons,e3]
  dsimp only
  unfold mJ
  rw [Fp e4 61 (by decide),if_neg (by decide)]
  congr 2
  apply xC<;>simp [labS,st0,dV,eG,k4]
 rw [if_neg k4] at e
 have k5:s.kind=5:=by omega
 rw [if_pos k5,List.append_assoc] at e
 have ht:=h.target (.inr k5)
 obtain ⟨r',e1,e2⟩:=vJ (en:=en) ht.1 hn.target e (Stp.sign (by decide) (by decide))
 obtain ⟨a,l2,rfl,ha,h2⟩:=bf e2
 obtain ⟨r2,e3,e4⟩:=Ho (en:=en) (hp (.inr (.inl k5))) h2
 obtain ⟨b,l3,rfl,hb,h3⟩:=bf e4
 obtain ⟨r3,e5,e6⟩:=vJ (en:=en) hv hn.value h3 hsj
 refine ⟨r3,?_,e6⟩
 unfold CG
 rw [e1]
 dsimp only
 rw [iW ha,if_pos rfl,List.tail_cons,e3]
 dsimp only
 unfold mJ
 have hit:isTarget (bG s.target):=by have:=ht.2;revert this;cases s.target;exact fun h=>h
 rw [iW hb,if_pos rfl,if_neg (by simpa using hit),List.tail_cons,e5]
 dsimp only
 congr 2
 apply xC<;>simp [labS,st0,dV,eG,k5]
theorem WU (h:uD s) (hp:eG s→(fQ s.pat).2=0) (hk:s.kind=6) (e:l.map kt=tu s++kG s):dZ l=false∧lU l=true∧∃r',yQ en (labS s) l=.ok (coreS s,r')∧r'.map kt=kG s:=by
 unfold tu at e
 rw [if_neg (by omega),if_neg (by omega),if_neg (by omega),if_neg (by omega),if_pos hk] at e
 obtain ⟨a,l1,rfl,ha,h1⟩:=bf (show l.map kt=(1,s.name)::(5,rC)::EP s::kG s from e)
 obtain ⟨b,l2,rfl,hb,h2⟩:=bf h1
 obtain ⟨r',e3,e4⟩:=Ho (en:=en) (hp (.inr (.inr hk))) h2
 obtain ⟨b1,b2⟩:=Prod.mk.inj hb
 have a1:=(Prod.mk.inj ha).1
 refine ⟨au (by rw [b1];omega),ak ⟨a1,b1,b2⟩,r',?_,e4⟩
 unfold yQ
 rw [og ha (jC (h.name (.inl hk)))]
 dsimp only
 have hs:aJ rC (b::l2)=true:=ak ⟨b1,b2⟩
 unfold gI
 rw [if_pos hs]
 dsimp only
 rw [List.tail_cons,e3]
 dsimp only
 congr 2
 apply xC<;>simp [labS,st0,dV,eG,hk]
theorem Qh (h:uD s) (hk:s.kind=7) (e:l.map kt=tu s++kG s):dZ l=true∧∃r',gQ en (labS s) l.tail=.ok (coreS s,r')∧r'.map kt=kG s:=by
 unfold tu at e
 rw [if_neg (by omega),if_neg (by omega),if_neg (by omega),if_neg (by omega),if_neg (by omega),if_pos hk] at e
 obtain ⟨a,l1,rfl,ha,h1⟩:=bf (show l.map kt=(1,oM)::(1,s.name)::sg 40::(uS s.params++(sg 41::(uS s.locals++((1,s.entry)::kG s)))) by rw [e];simp)
 obtain ⟨b,l2,rfl,hb,h2⟩:=bf h1
 obtain ⟨c,l3,rfl,hc,h3⟩:=bf h2
 obtain ⟨a1,a2⟩:=Prod.mk.inj ha
 have b1:=(Prod.mk.inj hb).1
 refine ⟨ak ⟨a1,a2,b1⟩,?_⟩
 have ps:∃r',(if aJ (bs [41]) l3=true then (.ok ([],l3.tail):cO (List aj)) else namesT (some (bs [41])) en 9 [] l3)=.ok (s.params,r')∧r'.map kt=uS s.locals++((1,s.entry)::kG s):=by
  cases hps:s.params with
  | nil =>
   rw [hps] at h3
   obtain ⟨z,l4,rfl,hz,h4⟩:=bf (show l3.map kt=sg 41::(uS s.locals++((1,s.entry)::kG s)) from h3)
   exact ⟨l4,by rw [iW hz,if_pos rfl];rfl,h4⟩
  | cons q xs =>
   rw [hps] at h3
   have hpar:=h.params hk
   rw [hps] at hpar
   obtain ⟨r',e1,e2⟩:=Gh (en:=en) q xs hpar.2 9 [] l3 _ (by simpa using hpar.1) (by omega) h3
   refine ⟨r',?_,e2⟩
   rw [jF h3 fun x u ee=>by obtain ⟨rfl,_⟩:=List.cons.inj ee;intro q;exact absurd (Prod.mk.inj q).1 (by decide),if_neg (by decide),e1];rfl
 obtain ⟨r1,e1,h4⟩:=ps
 have ls:∃r',(if jg r1=true then namesT none en 9 [] r1 else (.ok ([],r1):cO (List aj)))=.ok (s.locals,r')∧r'.map kt=(1,s.entry)::kG s:=by
  cases hls:s.locals with
  | nil =>
   rw [hls] at h4
   obtain ⟨z,l4,rfl,hz,h5⟩:=bf (show r1.map kt=(1,s.entry)::kG s from h4)
   refine ⟨z::l4,?_,h4⟩
   have:jg (z::l4)=false:=by
    cases l4 with
    | nil=>rfl
    | cons y l5 =>
     have hy:=Pe s (kt y) (l5.map kt) h5.symm
     have hy1:y.kind=5:=hy.1
     unfold jg
     rw [Bool.or_eq_false_iff]
     refine ⟨au (by rw [hy1];omega),au fun q=>?_⟩
     have hno:=Fp h5 44 (by decide)
     unfold aJ at hno
     exact (decide_eq_false_iff_not.1 hno) q
   rw [this,if_neg (by decide)]
  | cons q xs =>
   rw [hls] at h4
   have hloc:=h.locals hk
   rw [hls] at hloc
   obtain ⟨r',e2,h5⟩:=Jj (en:=en) q xs hloc.2 9 [] r1 (kG s) s.entry (by simpa using hloc.1) (by omega) h4
   refine ⟨r',?_,h5⟩
   have:jg r1=true:=by
    cases xs with
    | nil =>
     obtain ⟨z,l4,rfl,hz,h6⟩:=bf (show r1.map kt=(1,q)::(1,s.entry)::kG s from h4)
     obtain ⟨y,l5,rfl,hy,h7⟩:=bf h6
     have:=(Prod.mk.inj hy).1
     show (decide (y.kind=1)||_)=true
     rw [ak this];rfl
    | cons q2 xs =>
     obtain ⟨z,l4,rfl,hz,h6⟩:=bf (show r1.map kt=(1,q)::sg 44::(uS (q2::xs)++((1,s.entry)::kG s)) from h4)
     obtain ⟨y,l5,rfl,hy,h7⟩:=bf h6
     obtain ⟨y1,y2⟩:=Prod.mk.inj hy
     show (_||decide (y.kind=5∧y.text=bs [44]))=true
     rw [ak (show y.kind=5∧y.text=bs [44] from ⟨y1,y2⟩),Bool.or_true]
   rw [this,if_pos rfl,e2];rfl
 obtain ⟨r2,e2,h5⟩:=ls
 obtain ⟨z,l6,rfl,hz,h6⟩:=bf h5
 refine ⟨l6,?_,h6⟩
 unfold gQ
 rw [List.tail_cons,og hb (jC (h.name (.inr hk)))]
 dsimp only
 rw [uP hc]
 dsimp only
 rw [e1]
 dsimp only
 rw [e2]
 dsimp only
 rw [og hz (jC (h.entry hk))]
 dsimp only
 congr 2
 apply xC<;>simp [labS,st0,dV,eG,hk]
theorem Jk:lT rW=1:=rfl
theorem TQ (h:uD s):lT (coreS s).target≤200∧lT (coreS s).value≤200:=by
 have key:∀p:aA,bC p=0→lT (bG p)≤200:=by
  intro p hp
  unfold bC at hp
  by_cases hf:fits p
  ·rw [QZ,Gg];exact hf.2
  ·rw [if_neg hf] at hp;cases hp
 unfold coreS dV
 dsimp only
 constructor
 ·split
  ·exact key _ (h.target ‹_›).1
  ·rw [Jk];omega
 ·split
  ·exact key _ (h.value ‹_›)
  ·rw [Jk];omega
theorem WV (h:uD s) (hn:ED s) (hp:eG s→(fQ s.pat).2=0) (e:l.map kt=TN s):iR en (decide (s.label.size≠0)) l=.ok (dV s):=by
 have hlab:∃r,iR en (decide (s.label.size≠0)) l=(match (if r≠[]∧aJ (bs [58]) r=false then bodyT en (labS s) r else .ok (labS s,r)) with | .error er=>.error er | .ok (s2,r2)=>xG en s2 r2)∧r.map kt=tu s++kG s:=by
  unfold TN at e
  by_cases hl:s.label.size≠0
  ·rw [if_pos hl] at e
   obtain ⟨a,l1,rfl,ha,h1⟩:=bf (show l.map kt=(1,s.label)::(tu s++kG s) from e)
   refine ⟨l1,?_,h1⟩
   unfold iR
   rw [if_pos (ak hl),og ha (jC (pW h.label hl))];rfl
  ·rw [if_neg hl] at e
   refine ⟨l,?_,e⟩
   unfold iR
   rw [au hl,if_neg (by decide)]
   unfold labS
   rw [rU (x:=s.label) (by omega)];rfl
 obtain ⟨r,e1,h1⟩:=hlab
 have hbody:∃r',(if r≠[]∧aJ (bs [58]) r=false then bodyT en (labS s) r else (.ok (labS s,r):cO aN))=.ok (coreS s,r')∧r'.map kt=kG s:=by
  have hkr:=h.kind
  have exprs:s.kind=2∨s.kind=3∨s.kind=4∨s.kind=5→r≠[]∧aJ (bs [58]) r=false∧dZ r=false∧lU r=false:=by
   intro hk
   obtain ⟨p,rest,hpx,hr,hrest⟩:∃p rest,lI p∧tu s++kG s=toks p 1++rest∧AP rest:=by
    unfold tu
    by_cases k2:s.kind=2
    ·rw [if_pos k2];exact ⟨s.value,_,(tN (h.value hk) hn.value).1,rfl,Pe s⟩
    rw [if_neg k2]
    by_cases k3:s.kind=3
    ·rw [if_pos k3,List.append_assoc];exact ⟨s.target,_,(tN (h.target (.inl k3)).1 hn.target).1,rfl,AP.sg _ _⟩
    rw [if_neg k3]
    by_cases k4:s.kind=4
    ·rw [if_pos k4,List.append_assoc];exact ⟨s.value,_,(tN (h.value hk) hn.value).1,rfl,AP.sg _ _⟩
    rw [if_neg k4]
    have k5:s.kind=5:=by omega
    rw [if_pos k5,List.append_assoc];exact ⟨s.target,_,(tN (h.target (.inr k5)).1 hn.target).1,rfl,AP.sg _ _⟩
   have hn2:=O9 p 1 hpx rest hrest
   rw [←hr,←h1] at hn2
   obtain ⟨t,u,et,h1t,_⟩:=yg p 1 hpx
   rw [hr,et] at h1
   refine ⟨(by rintro rfl;cases h1),jF h1 fun x v ee=>?_,WS hn2,aa0 hn2⟩
   obtain ⟨rfl,_⟩:=List.cons.inj ee
   exact h1t.ne (by decide)
  by_cases k1:s.kind=1
  ·have hb:tu s=[]:=by unfold tu;rw [if_neg (by omega),if_neg (by omega),if_neg (by omega),if_neg (by omega),if_neg (by omega),if_neg (by omega)]
   rw [hb,List.nil_append] at h1
   refine ⟨r,?_,h1⟩
   rw [if_neg]
   ·congr 2
    apply xC<;>simp [labS,st0,dV,eG,k1]
   ·rintro ⟨q1,q2⟩
    cases r with
    | nil=>exact q1 rfl
    | cons a r =>
     unfold kG at h1
     split at h1
     ·have:=iW (l:=r) (List.cons.inj h1).1;rw [this] at q2;cases q2
     split at h1
     ·have:=iW (l:=r) (List.cons.inj h1).1;rw [this] at q2;cases q2
     ·cases h1
  by_cases k6:s.kind=6
  ·obtain ⟨a,b,r',c,d⟩:=WU (en:=en) h hp k6 h1
   refine ⟨r',?_,d⟩
   have hh:r.map kt=(1,s.name)::(5,rC)::EP s::kG s:=by rw [h1];unfold tu;rw [if_neg (by omega),if_neg (by omega),if_neg (by omega),if_neg (by omega),if_pos k6];rfl
   rw [if_pos ⟨(by rintro rfl;cases hh),jF hh fun x u ee=>by obtain ⟨rfl,_⟩:=List.cons.inj ee;intro q;exact absurd (Prod.mk.inj q).1 (by decide)⟩]
   unfold bodyT
   rw [a,if_neg (by decide),b,if_pos rfl,c]
  by_cases k7:s.kind=7
  ·obtain ⟨a,r',c,d⟩:=Qh (en:=en) h k7 h1
   refine ⟨r',?_,d⟩
   have hh:r.map kt=(1,oM)::((1,s.name)::sg 40::(uS s.params++(sg 41::(uS s.locals++((1,s.entry)::kG s))))):=by rw [h1];unfold tu;rw [if_neg (by omega),if_neg (by omega),if_neg (by omega),if_neg (by omega),if_neg (by omega),if_pos k7];simp
   rw [if_pos ⟨(by rintro rfl;cases hh),jF hh fun x u ee=>by obtain ⟨rfl,_⟩:=List.cons.inj ee;intro q;exact absurd (Prod.mk.inj q).1 (by decide)⟩]
   unfold bodyT
   rw [a,if_pos rfl,c]
  ·have hk:s.kind=2∨s.kind=3∨s.kind=4∨s.kind=5:=by omega
   obtain ⟨a,b,c,d⟩:=exprs hk
   obtain ⟨r',e3,e4⟩:=WT (en:=en) h hn hp hk h1
   refine ⟨r',?_,e4⟩
   rw [if_pos ⟨a,b⟩]
   unfold bodyT
   rw [c,if_neg (by decide),d,if_neg (by decide),e3]
 obtain ⟨r',e3,e4⟩:=hbody
 rw [e1,e3]
 dsimp only
 rw [WR h ⟨rfl,rfl,rfl⟩ (TQ h) e4];rfl
end
theorem LU {s:aN} (hz:(fE s).2=0) (hn:ED s):kP ⟨(fE s).1.toArray⟩=.ok (some (dV s)):=by
 unfold fE at hz⊢
 by_cases hw:lC s≠0
 ·rw [if_pos hw] at hz;exact absurd hz hw
 rw [if_neg hw] at hz⊢
 by_cases hp:eG s∧(fQ s.pat).2≠0
 ·rw [if_pos hp] at hz;exact absurd hz hp.2
 rw [if_neg hp] at hz⊢
 by_cases h10:(10:UInt8)∈lineS s
 ·rw [if_pos h10] at hz;cases hz
 rw [if_neg h10] at hz⊢
 by_cases hl:2000<(lineS s).length
 ·rw [if_pos hl] at hz;cases hz
 rw [if_neg hl]
 dsimp only
 have h:=aaZ (s:=s) (by omega)
 have hp':eG s→(fQ s.pat).2=0:=fun q=>by
  by_cases hz:(fQ s.pat).2=0
  ·exact hz
  ·exact absurd ⟨q,hz⟩ hp
 have hx:=Zb h hn hp'
 obtain ⟨r,e1,e2⟩:=hx ⟨(lineS s).toArray⟩ 0 [] ⟨by simp,by omega⟩
 have hsz:(⟨(lineS s).toArray⟩:aj).size=(lineS s).length:=by show (lineS s).toArray.size=_;simp
 have hlex:nH ⟨(lineS s).toArray⟩=.ok r:=by unfold nH;rw [if_neg (by omega),e1];rfl
 have hfirst:(s.label.size≠0→∃c t,lineS s=c::t∧65≤c.toNat∧c.toNat≤90)∧(s.label.size=0→lineS s=[]∨∃t,lineS s=32::t):=by
  constructor
  ·intro hl
   obtain ⟨c,t,e,hc,_⟩:=OU (pW h.label hl)
   unfold lineS
   rw [e];exact ⟨c,_,rfl,hc⟩
  ·intro hl
   unfold lineS
   rw [rU hl]
   show jI s (iE s)++qW s=[]∨∃t,jI s (iE s)++qW s=32::t
   unfold jI
   split
   ·exact .inr ⟨_,rfl⟩
   split
   ·exact .inr ⟨_,rfl⟩
   split
   ·exact .inr ⟨_,rfl⟩
   split
   ·exact .inr ⟨_,rfl⟩
   split
   ·exact .inr ⟨_,rfl⟩
   split
   ·exact .inr ⟨_,rfl⟩
   ·rw [List.nil_append]
    unfold qW
    split
    ·exact .inr ⟨_,rfl⟩
    split
    ·exact .inr ⟨_,rfl⟩
    ·exact .inl rfl
 have pk:∀c t,lineS s=c::t→peek ⟨(lineS s).toArray⟩ 0=c.toNat:=by
  intro c t e
  have:Has ⟨(lineS s).toArray⟩ 0 (c::t) []:=⟨by simp [e],by omega⟩
  exact this.peek
 have pn:lineS s=[]→peek ⟨(lineS s).toArray⟩ 0 = -1:=by
  intro e;unfold peek;rw [dif_neg (by rw [hsz,e];simp)]
 have hstar:¬(peek ⟨(lineS s).toArray⟩ 0=42∧(⟨(lineS s).toArray⟩:aj).size≤2000):=by
  rintro ⟨q,_⟩
  by_cases hl:s.label.size≠0
  ·obtain ⟨c,t,e,hc⟩:=hfirst.1 hl
   rw [pk c t e] at q;omega
  ·rcases hfirst.2 (by omega) with e|⟨t,e⟩
   ·rw [pn e] at q;cases q
   ·rw [pk _ _ e] at q;cases q
 have hlab:decide ((⟨(lineS s).toArray⟩:aj).size≠0∧peek ⟨(lineS s).toArray⟩ 0≠32∧peek ⟨(lineS s).toArray⟩ 0≠58)=decide (s.label.size≠0):=by
  by_cases hl:s.label.size≠0
  ·obtain ⟨c,t,e,hc⟩:=hfirst.1 hl
   rw [ak hl]
   refine ak ⟨by rw [hsz,e];simp,by rw [pk c t e];omega,by rw [pk c t e];omega⟩
  ·rw [au hl]
   refine au ?_
   rintro ⟨q1,q2,q3⟩
   rcases hfirst.2 (by omega) with e|⟨t,e⟩
   ·rw [hsz,e] at q1;exact q1 rfl
   ·rw [pk _ _ e] at q2;exact q2 rfl
 unfold kP
 rw [if_neg hstar,hlex]
 dsimp only
 rw [hlab,WV h hn hp' e2]
end Go.Proofs.YtefjbnhpjdhjmaaGreatDoor
