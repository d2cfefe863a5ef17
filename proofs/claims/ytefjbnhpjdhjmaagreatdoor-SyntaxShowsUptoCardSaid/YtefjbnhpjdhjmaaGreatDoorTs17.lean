/-  -/
import Derived.Test.YtefjbnhpjdhjmaaGreatDoorTs5
import Derived.Test.YtefjbnhpjdhjmaaGreatDoorTs11
import Derived.Deep.RegionLaw
import Derived.Test.YtefjbnhpjdhjmaaGreatDoorTs13
import Derived.Test.YtefjbnhpjdhjmaaGreatDoorTs2
import Derived.Test.YtefjbnhpjdhjmaaGreatDoorTs20
import Derived.Test.YtefjbnhpjdhjmaaGreatDoorTs19
import Derived.Test.YtefjbnhpjdhjmaaGreatDoorEx3
import Derived.Test.YtefjbnhpjdhjmaaGreatDoorTs15
import Derived.Test.YtefjbnhpjdhjmaaGreatDoorEx2
import Derived.BigQuiet
import Derived.Test.YtefjbnhpjdhjmaaGreatDoorTs3
namespace Go.Proofs.YtefjbnhpjdhjmaaGreatDoor
set_option linter.all false
open Go.RowKit
structure jG (S:Nat→Prop) (p:aA) (ka:Option Addr) (cap:Nat) (w:World) (t:aj) (n:Int) (nm:aj) (l:List aA) (v:Value) (wx:World):Prop where
 box:Five w.heap.size (.int .i64 p.kind) (.string p.text) (.int .i64 p.n) (.string p.name) (.slice ka p.kids.length cap) wx
 zero:uG (w.heap.size+1) wx
 out:Five (w.heap.size+2) (.int .i64 p.kind) (.string t) (.int .i64 n) (.string nm) v wx
 own:∃(cs:List Value) (S':Nat→Prop),bT wx (w.heap.size+3) 27 5 v l.length cs∧fU wx S' cs l∧∀b,S' b→w.heap.size+2<b∧b<wx.heap.size∧v.ownBlock≠some b
 kids:aI wx S ka p.kids
 kept:Kept aC w wx
 safe:Safe S aC w.heap.size
theorem jG.next {S:Nat→Prop} {p:aA} {ka:Option Addr} {cap:Nat} {w:World} {t:aj} {n:Int} {nm:aj} {l:List aA} {v:Value} {wx w':World} (h:jG S p ka cap w t n nm l v wx) (k:Kept aC wx w'):jG S p ka cap w t n nm l v w':=by
 obtain ⟨cs,S',h1,h2,h3⟩:=h.own
 exact ⟨h.box.kept k (fun h=>h),Five.kept h.zero k (fun h=>h),h.out.kept k (fun h=>h),⟨cs,S',h1.kept k (fun _ _ h=>h),h2.kept k (fun b hb=>⟨(h3 b hb).2.1,fun h=>h⟩),fun b hb=>⟨(h3 b hb).1,Nat.lt_of_lt_of_le (h3 b hb).2.1 k.size,(h3 b hb).2.2⟩⟩,h.kids.kept k (h.safe.mono h.kept.size),h.kept.trans k,h.safe⟩
theorem jG.start {S:Nat→Prop} {p:aA} {ka:Option Addr} {cap:Nat} {w:World} (hk:aI w S ka p.kids) (hs:Safe S aC w.heap.size) :
  jG S p ka cap w ⟨#[]⟩ 0 ⟨#[]⟩ [] (.slice none 0 0) (((w.alloc (.cells #[.int .i64 p.kind,.string p.text,.int .i64 p.n,.string p.name,.slice ka p.kids.length cap] 27)).alloc (.cells #[.int .i64 0,.string ⟨#[]⟩,.int .i64 0,.string ⟨#[]⟩,.slice none 0 0] 27)).alloc (.cells #[.int .i64 p.kind,.string ⟨#[]⟩,.int .i64 0,.string ⟨#[]⟩,.slice none 0 0] 27)):=by
 refine ⟨Five.kept (ay w _) (((Kept.refl aC _).alloc _).alloc _) (fun h=>h),Five.kept (dO (by simp)) ((Kept.refl aC _).alloc _) (fun h=>h),dO (by simp),⟨[],aC,bT.nil _ _ _ _,by rw [fU],fun b hb=>hb.elim⟩,hk.kept ((((Kept.refl aC _).alloc _).alloc _).alloc _) hs,(((Kept.refl aC _).alloc _).alloc _).alloc _,hs⟩
theorem jG.put {S:Nat→Prop} {p:aA} {ka:Option Addr} {cap:Nat} {w:World} {t t':aj} {n n':Int} {nm nm':aj} {wx w':World} (h:jG S p ka cap w t n nm [] (.slice none 0 0) wx) (k:Kept (· = w.heap.size+2) wx w') (F:Five (w.heap.size+2) (.int .i64 p.kind) (.string t') (.int .i64 n') (.string nm') (.slice none 0 0) w') :
  jG S p ka cap w t' n' nm' [] (.slice none 0 0) w' :=
 ⟨h.box.kept k (by omega),Five.kept h.zero k (by omega),F,⟨[],aC,bT.nil _ _ _ _,by rw [fU],fun b hb=>hb.elim⟩,h.kids.kept k (fun b hb=>⟨Nat.lt_of_lt_of_le (h.safe b hb).1 h.kept.size,by have:=(h.safe b hb).1;omega⟩),h.kept.step k (fun y hy=>.inr (by omega)),h.safe⟩
theorem Five.st {M:Nat} {c0 c1 c2 c3 c4:Value} {w:World} (h:Five M c0 c1 c2 c3 c4 w) (u:Value) :
  Five M c0 u c2 c3 c4 (w.setCell ⟨M,1,none⟩ u)∧Five M c0 c1 u c3 c4 (w.setCell ⟨M,2,none⟩ u)∧Five M c0 c1 c2 u c4 (w.setCell ⟨M,3,none⟩ u)∧Five M c0 c1 c2 c3 u (w.setCell ⟨M,4,none⟩ u):=by
 unfold Five at h⊢
 refine ⟨?_,?_,?_,?_⟩<;>(rw [aK h];rfl)
theorem k1 {M o:Nat} (w:World) (u:Value):Kept (· = M) w (w.setCell ⟨M,o,none⟩ u):=(Kept.refl (· = M) w).setCell (p:=⟨M,o,none⟩) (.inl rfl) u
def lJ (p:aA) (w:World) (e:Ending) (w':World):Prop:=∃v,e=.returned v∧gJ w.heap.size (aB p) w' v∧Kept aC w w'
def Bd (S:Nat→Prop) (kids:List aA):Prop:=∀(j:Nat) (hj:j<kids.length) (v:Value) (w:World),gV w S v kids[j]→Safe S aC w.heap.size→Calls Tryz.prog 25 #[v] w (lJ kids[j] w)
theorem xK {S:Nat→Prop} {p q:aA} {ka:Option Addr} {cap:Nat} {w:World} {t:aj} {n:Int} {nm:aj} {l:List aA} {v:Value} {w1 w3 w4:World} {a':Option Addr} {c':Nat} {kc:Option Addr} {dK:Nat} {cs:List Value} {S1 S2:Nat→Prop}
  (I:jG S p ka cap w t n nm l v w1) (h1:bT w1 (w.heap.size+3) 27 5 v l.length cs) (h2:fU w1 S1 cs l) (h3:∀b,S1 b→w.heap.size+2<b∧b<w1.heap.size∧v.ownBlock≠some b)
  (K3:Kept aC w1 w3) (hz:q.text.size<1000000000∧q.name.size<1000000000∧q.kids.length<1000000000) (hS2:∀b,S2 b→w1.heap.size≤b∧b<w3.heap.size) (hq:aI w3 S2 kc q.kids)
  (hw:bT w4 (w.heap.size+3) 27 5 (.slice a' (l.length+1) c') (l.length+1) (cs++[.int .i64 q.kind,.string q.text,.int .i64 q.n,.string q.name,.slice kc q.kids.length dK])) (hg:(w3.alloc (.cells #[.int .i64 q.kind,.string q.text,.int .i64 q.n,.string q.name,.slice kc q.kids.length dK] 27)).grownBy w4 v.ownBlock)
  (ho:(Value.slice a' (l.length+1) c').ownBlock=v.ownBlock∨(Value.slice a' (l.length+1) c').ownBlock=some (w3.heap.size+1)) :
  jG S p ka cap w t n nm (l++[q]) (.slice a' (l.length+1) c') (w4.setCell ⟨w.heap.size+2,4,none⟩ (.slice a' (l.length+1) c')):=by
 have kA:Kept aC w3 (w3.alloc (.cells #[.int .i64 q.kind,.string q.text,.int .i64 q.n,.string q.name,.slice kc q.kids.length dK] 27)):=(Kept.refl _ _).alloc _
 have hlow:∀b,v.ownBlock=some b→w.heap.size+3≤b∧b<w1.heap.size:=h1.lt
 have hs3:=K3.size
 have hw1:=I.out.lt
 have zy:Kept (fun b=>v.ownBlock=some b) w3 w4:=(kA.more fun _ h=>h.elim).grown hg fun b hb=>.inl hb
 have xM:Kept (fun b=>v.ownBlock=some b) w1 w4:=(K3.more fun _ h=>h.elim).trans zy
 have K5:Kept (· = w.heap.size+2) w4 (w4.setCell ⟨w.heap.size+2,4,none⟩ (.slice a' (l.length+1) c')):=k1 _ _
 have hs4:=xM.size
 have MQ:=zy.size
 have hnew:∀g,(Value.slice a' (l.length+1) c').ownBlock=some g→w.heap.size+3≤g:=fun g hg=>(hw.lt g hg).1
 refine ⟨(I.box.kept xM (fun h=>by have:=hlow _ h;omega)).kept K5 (by omega),Five.kept (Five.kept I.zero xM (fun h=>by have:=hlow _ h;omega)) K5 (by omega),((I.out.kept xM (fun h=>by have:=hlow _ h;omega)).st _).2.2.2,?_,(I.kids.kept xM (fun b hb=>⟨Nat.lt_of_lt_of_le (I.safe b hb).1 I.kept.size,fun h=>by have:=hlow _ h;have:=(I.safe b hb).1;omega⟩)).kept K5 (fun b hb=>⟨by have:=(I.safe b hb).1;omega,by have:=(I.safe b hb).1;omega⟩),(I.kept.step xM (fun y hy=>.inr (by have:=hlow y hy;omega))).step K5 (fun y hy=>.inr (by omega)),I.safe⟩
 refine ⟨_,fun b=>S1 b∨S2 b,by rw [List.length_append];exact hw.kept K5 (fun g hg=>by have:=hnew g hg;omega),?_,fun b hb=>?_⟩
 ·refine fU.kept (X:=(· = w.heap.size+2)) (w:=w4) ?_ K5 (fun b hb=>⟨by rcases hb with hb|hb;exact Nat.lt_of_lt_of_le (h3 b hb).2.1 hs4;exact Nat.lt_of_lt_of_le (hS2 b hb).2 MQ,by rcases hb with hb|hb;have:=h3 b hb;omega;have:=hS2 b hb;omega⟩)
  refine fU.append ?_ ?_
  ·exact (h2.kept xM (fun b hb=>⟨(h3 b hb).2.1,(h3 b hb).2.2⟩)).more fun b h=>.inl h
  ·rw [fU];refine ⟨_,[],(List.append_nil _).symm,⟨kc,dK,rfl,hz,?_⟩,rfl⟩
   exact aI.to hq zy (fun b hb=>⟨(hS2 b hb).2,fun h=>by have:=hlow b h;have:=(hS2 b hb).1;omega⟩) (fun b h=>.inr h)
 ·have hs5:=K5.size
  rcases hb with hb|hb
  ·have:=h3 b hb
   refine ⟨this.1,by omega,?_⟩
   rcases ho with h|h
   ·rw [h];exact this.2.2
   ·rw [h];simp;omega
  ·have:=hS2 b hb
   refine ⟨by omega,by omega,?_⟩
   rcases ho with h|h
   ·rw [h];intro h';have:=hlow b h';omega
   ·rw [h];simp;omega
theorem jG.pats {S:Nat→Prop} {p:aA} {ka:Option Addr} {cap:Nat} {w:World} {t:aj} {n:Int} {nm:aj} {l:List aA} {a:Option Addr} {c:Nat} {wx:World} (h:jG S p ka cap w t n nm l (.slice a l.length c) wx) :
  ∃S':Nat→Prop,aI wx S' a l∧∀b,S' b→w.heap.size+2<b∧b<wx.heap.size:=by
 obtain ⟨cs,S',h1,h2,h3⟩:=h.own
 rcases h1.cells with ⟨hv,hn⟩|⟨g,o,c',hv,hg1,hg2,_,_,hc⟩
 ·obtain rfl:=List.length_eq_zero_iff.1 hn
  exact ⟨aC,by unfold aI;trivial,fun b hb=>hb.elim⟩
 ·simp only [Value.slice.injEq,true_and] at hv
  obtain ⟨rfl,rfl⟩:=hv
  refine ⟨fun b=>S' b∨b=g,h2.pats g o (fun j u hu=>(hc j u hu).1),fun b hb=>?_⟩
  rcases hb with hb|rfl
  ·exact ⟨(h3 b hb).1,(h3 b hb).2.1⟩
  ·omega
theorem zA {f:Func} (hres:f.results = #[.cell 2 27]) {tmps:Array Value} {S:Nat→Prop} {p:aA} {ka:Option Addr} {cap:Nat} {w wx:World} {k:Int} {t:aj} {n:Int} {nm:aj} {l:List aA} {a:Option Addr} {c:Nat}
  (ht:tmps.getD 2 undef=.pointer (some ⟨w.heap.size+1,0,none⟩)) (I:jG S p ka cap w t n nm l (.slice a l.length c) wx) (hb:aB p=.mk k t n nm l) (hk:p.kind=k) (hz:t.size<1000000000∧nm.size<1000000000∧l.length<1000000000) :
  bodyPost Tryz.prog f (lJ p w) .ret ⟨tmps,[]⟩ (bI wx (w.heap.size+1) (.int .i64 k) (.string t) (.int .i64 n) (.string nm) (.slice a l.length c)):=by
 obtain ⟨S',hp,hS⟩:=I.pats
 have K:Kept (· = w.heap.size+1) wx (bI wx (w.heap.size+1) (.int .i64 k) (.string t) (.int .i64 n) (.string nm) (.slice a l.length c)):=(Kept.refl (· = w.heap.size+1) wx).bI (.inl rfl) _ _ _ _ _
 obtain ⟨h0,h1,h2,h3,h4,_⟩:=Five.cells (Five.bI I.zero (.int .i64 k) (.string t) (.int .i64 n) (.string nm) (.slice a l.length c))
 have ht':tmps[2]?.getD undef=.pointer (some ⟨w.heap.size+1,0,none⟩):=by rw [←ht,Array.getD_eq_getD_getElem?]
 refine bodyPost_ret (v:=.agg #[.int .i64 k,.string t,.int .i64 n,.string nm,.slice a l.length c]) (by simp [results,hres,go_sem,ht',h0,h1,h2,h3,h4]) rfl ⟨_,rfl,?_,I.kept.step K (fun y hy=>.inr (by omega))⟩
 rw [hb]
 exact ⟨S',fun b hb=>⟨by have:=hS b hb;omega,Nat.lt_of_lt_of_le (hS b hb).2 K.size⟩,a,c,rfl,hz,hp.kept K (fun b hb=>⟨(hS b hb).2,by have:=hS b hb;omega⟩)⟩
theorem vN (l:List aA) (j:Nat) (hj:j<l.length):dD (l.take (j+1))=dD (l.take j)++[aB l[j]]:=by
 induction l generalizing j with
 | nil=>simp at hj
 | cons p ps ih =>
  cases j with
  | zero=>simp [dD]
  | succ j=>simp only [List.take_succ_cons,dD,List.cons_append,List.getElem_cons_succ];rw [ih j (by simpa using hj)]
end Go.Proofs.YtefjbnhpjdhjmaaGreatDoor

namespace Go.Proofs.YtefjbnhpjdhjmaaGreatDoor
set_option linter.all false
open Go.RowKit
theorem Zu {s:aj} {p:aA} (h:mV s=.ok p):nP s=(p,(0,0)):=by unfold nP;rw [h]
theorem Ud {p:aA} (h:bW p=0):fits p:=by
 rw [Ku] at h
 by_cases hf:fits p
 ·exact hf
 ·rw [if_neg hf] at h;cases h
theorem Ji {p:aA} (h:(fQ p).2=0):bW p=0∧(aG p 2).length≤65536∧(fQ p).1=aG p 2:=by
 unfold fQ at h⊢
 by_cases hw:bW p≠0
 ·rw [if_pos hw] at h;exact absurd h hw
 ·rw [if_neg hw] at h⊢
  by_cases hl:65536<(aG p 2).length
  ·rw [if_pos hl] at h;cases h
  ·rw [if_neg hl];exact ⟨by simpa using hw,by omega,rfl⟩
theorem TP {p:aA} (h:(fQ p).2=0):nP ⟨(fQ p).1.toArray⟩=(aB p,(0,0)):=by
 obtain ⟨h1,h2,h3⟩:=Ji h
 rw [h3]
 exact Zu (Pz p (BR h1).1 (Ud h1) h2)
end Go.Proofs.YtefjbnhpjdhjmaaGreatDoor

namespace Go.Proofs.YtefjbnhpjdhjmaaGreatDoor
set_option linter.all false
open Go.RowKit
abbrev Tk:=Int×aj
def kt (t:aF):Tk:=(t.kind,t.text)
def sg (c:UInt8):Tk:=(5,⟨#[c]⟩)
def fB (l:List UInt8) (ts:List Tk):Prop:=∀(s:aj) (i:Nat) (out:List aF),Has s i l []→∃r,wX s i out=.ok (out++r)∧r.map kt=ts
theorem lex_nil:fB [] []:=by
 intro s i out h
 have:=h.ends
 exact ⟨[],by rw [OT (by omega),List.append_nil],rfl⟩
theorem jU {l:List UInt8} {ts:List Tk} (hl:fB l ts):fB (32::l) ts:=by
 intro s i out h
 have hb:=h.byte
 have e:dR s i h.lt=.blank:=by unfold dR;rw [hb];rfl
 rw [EH out h.lt,e]
 exact hl s (i+1) out h.tail
theorem zh {m l:List UInt8} {ts:List Tk} {k:Int} {x:aj} (hl:fB l ts) (hm:m≠[]) (h1:∀(s:aj) (i:Nat) (h:Has s i (m++l) []) (hi:i<s.size),dR s i hi=.tok ⟨k,x,i⟩ (i+m.length)):fB (m++l) ((k,x)::ts):=by
 intro s i out h
 have hi:i<s.size:=by
  have:=h.size
  have:0<m.length:=List.length_pos_iff.2 hm
  simp at *;omega
 rw [EH out hi,h1 s i h hi]
 obtain ⟨r,e,er⟩:=hl s (i+m.length) (out++[⟨k,x,i⟩]) h.next
 exact ⟨⟨k,x,i⟩::r,by dsimp only;rw [e,List.append_assoc];rfl,by rw [List.map_cons,er];rfl⟩
theorem BJ {s:aj} {i:Nat} {l r:List UInt8} (h:Has s i l r):s.extract i (i+l.length)=⟨l.toArray⟩:=by
 apply ByteArray.ext
 apply Array.ext'
 have:(s.extract i (i+l.length)).data.toList=(s.data.toList.drop i).take l.length:=by simp
 rw [this,h.eq,List.take_left]
theorem acU (x:aj):(⟨x.data.toList.toArray⟩:aj)=x:=rfl
theorem OU {nm:aj} (hn:bF nm=true):∃c l,nm.data.toList=c::l∧(65≤c.toNat∧c.toNat≤90)∧∀d∈c::l,iK d=true:=by
 obtain ⟨x,hx⟩:∃x,x=nm.data.toList:=⟨_,rfl⟩
 have e:nm.data.toList.length=nm.size:=rfl
 unfold bF at hn
 simp only [Bool.and_eq_true,decide_eq_true_eq,List.all_eq_true,List.mem_range] at hn
 obtain ⟨⟨h1,_⟩,h2⟩:=hn
 rw [←hx] at h2⊢
 rw [←e,←hx] at h1 h2
 cases x with
 | nil=>simp at h1
 | cons c l =>
  have h0:=h2 0 (by simp)
  refine ⟨c,l,rfl,?_,?_⟩
  ·simp only [List.getD_cons_zero] at h0
   unfold lV jO at h0
   simpa using h0
  ·intro d hd
   obtain ⟨j,hj,rfl⟩:=List.getElem_of_mem hd
   have:=h2 j hj
   rw [List.getD_eq_getElem?_getD,List.getElem?_eq_getElem hj] at this
   simp only [Option.getD_some] at this
   unfold lV at this
   unfold iK
   revert this
   cases jO (c::l)[j]<;>cases dL (c::l)[j]<;>simp
theorem QY {f:UInt8→Bool} {s:aj} {i:Nat} {l r:List UInt8} (h:Has s i l r) (hl:∀d∈l,f d=true) (hr:l9 f r):dn f s i=i+l.length:=by
 unfold dn;rw [h.eq,yB hl hr]
theorem zi {s:aj} {i:Nat} {m l:List UInt8} (h:Has s i (m++l) []):Has s i m l:=by
 have:=h.split;rwa [List.append_nil] at this
theorem mQ {nm:aj} {l:List UInt8} {ts:List Tk} (hn:bF nm=true) (hr:l9 iK l) (hl:fB l ts):fB (nm.data.toList++l) ((1,nm)::ts):=by
 obtain ⟨c,m,e,hc,hw⟩:=OU hn
 rw [←e] at hw
 refine zh hl (by rw [e];simp) fun s i h hi=>?_
 have h1:=zi h
 have hb:s[i]=c:=by have h2:=h1;rw [e] at h2;exact h2.byte
 have h3:=QY h1 hw hr
 unfold dR
 rw [hb,if_neg (by omega),if_pos (by omega),h3,BJ h1,acU]
theorem zW:∀(g u:Nat),u<10 ^ g→∃c l,Lib.decDigits u=c::l∧(48≤c.toNat∧c.toNat≤57)∧(∀d∈c::l,dL d=true)∧(l≠[]→c.toNat≠48):=by
 intro g
 have one:∀u:Nat,u<10→dL (UInt8.ofNat (48+u))=true:=fun u hu=>by unfold dL;simp;omega
 induction g with
 | zero =>
  intro u hu
  have:u=0:=by simpa using hu
  subst this
  exact ⟨48,[],by rw [Lib.decDigits,dif_pos (by omega)];rfl,by decide,by decide,by simp⟩
 | succ g ih =>
  intro u hu
  by_cases h10:u<10
  ·refine ⟨UInt8.ofNat (48+u),[],by rw [Lib.decDigits,dif_pos h10],?_,?_,by simp⟩
   ·constructor<;>simp<;>omega
   ·intro d hd;rw [List.mem_singleton.1 hd];exact one u h10
  ·obtain ⟨c,l,h1,h2,h3,h4⟩:=ih (u/10) (by rw [Nat.pow_succ] at hu;omega)
   refine ⟨c,l++[UInt8.ofNat (48+u % 10)],by rw [Lib.decDigits,dif_neg h10,h1];rfl,h2,?_,?_⟩
   ·intro d hd
    rw [←List.cons_append] at hd
    rcases List.mem_append.1 hd with hd|hd
    ·exact h3 d hd
    ·rw [List.mem_singleton.1 hd];exact one _ (by omega)
   ·intro _
    by_cases hl:l=[]
    ·subst hl
     by_cases acV:u/10<10
     ·rw [Lib.decDigits,dif_pos acV] at h1
      obtain ⟨rfl,_⟩:=List.cons.inj h1
      simp;omega
     ·rw [Lib.decDigits,dif_neg acV] at h1
      have:=congrArg List.length h1
      have h0:0<(Lib.decDigits (u/10/10)).length:=by rw [Lib.decDigits];split<;>simp
      simp only [List.length_append,List.length_cons,List.length_nil] at this;omega
    ·exact h4 hl
theorem aaO {u:Nat} {l:List UInt8} {ts:List Tk} (hu:u<10 ^ 19) (hr:l9 dL l) (hl:fB l ts):fB (Lib.decDigits u++l) ((2,⟨(Lib.decDigits u).toArray⟩)::ts):=by
 obtain ⟨c,m,e,hc,hw,_⟩:=zW 19 u hu
 rw [←e] at hw
 refine zh hl (by rw [e];simp) fun s i h hi=>?_
 have h1:=zi h
 have hb:s[i]=c:=by have h2:=h1;rw [e] at h2;exact h2.byte
 have h3:=QY h1 hw hr
 unfold dR
 rw [hb,if_neg (by omega),if_neg (by omega),if_pos (by omega),h3,BJ h1]
theorem Y1 {t:aj} {l:List UInt8} {ts:List Tk} (hr:l9 (fun c=>c==39) l) (hl:fB l ts):fB (gu t++l) ((3,t)::ts):=by
 refine zh hl (by simp [gu]) fun s i h hi=>?_
 have h1:=zi h
 have h2:=h1;unfold gu at h2
 have hb:s[i]=39:=h2.byte
 have h3:=h2.tail
 unfold dR
 rw [hb]
 have e39:(39:UInt8).toNat=39:=rfl
 rw [e39,if_neg (by omega),if_neg (by omega),if_neg (by omega),if_pos rfl,h3.eq,List.append_assoc,List.singleton_append,C9 _ _ hr]
 simp only [gu,List.length_cons,List.length_append,List.length_nil]
 rw [show i+1+((nI t.data.toList).length+1)=i+((nI t.data.toList).length+(0+1)+1) by omega]
theorem Dc {c:UInt8} {l:List UInt8} {ts:List Tk} (hc:c.toNat∈AL) (EI:c=58→l9 (fun c=>c==61) l) (hl:fB l ts):fB (c::l) (sg c::ts):=by
 show fB ([c]++l) _
 refine zh hl (by simp) fun s i h hi=>?_
 have h1:=zi h
 have hb:s[i]=c:=h1.byte
 have hx:=BJ h1
 have hc':=hc
 simp only [AL,List.mem_cons,List.not_mem_nil,or_false] at hc'
 have h2:¬(c.toNat=58∧peek s (i+1)=61):=by
  rintro ⟨a,b⟩
  have e:c=58:=UInt8.toNat_inj.1 a
  have h3:=h1.next (l:=[c]) (m:=[]) |> fun x=>x
  cases l with
  | nil =>
   have:=h1.size
   have:=pq (s:=s) (k:=i+1) (by omega)
   simp at *;omega
  | cons d t =>
   have h4:Has s (i+1) (d::t) []:=h.tail
   have h5:=EI e d t rfl
   rw [h4.peek] at b
   have:d=61:=UInt8.toNat_inj.1 (by show d.toNat=61;omega)
   rw [this] at h5;simp at h5
 unfold dR
 rw [hb,if_neg (by omega),if_neg (by omega),if_neg (by omega),if_neg (by omega),if_neg (by omega),if_neg h2,if_pos hc]
 show qm.tok ⟨5,s.extract i (i + [c].length),i⟩ _=_
 rw [hx];rfl
theorem lF {c:UInt8} {l:List UInt8} {ts:List Tk} (hc:c.toNat∈AL∧c≠58) (hl:fB l ts):fB (c::l) (sg c::ts):=Dc hc.1 (fun e=>absurd e hc.2) hl
theorem Y3 {l:List UInt8} {ts:List Tk} (hl:fB l ts):fB (58::61::l) ((5,⟨#[58,61]⟩)::ts):=by
 show fB ([58,61]++l) _
 refine zh hl (by simp) fun s i h hi=>?_
 have h1:=zi h
 have hb:s[i]=58:=h1.byte
 have hx:=BJ h1
 have h2:=h1.tail.peek
 unfold dR
 rw [hb]
 have e58:(58:UInt8).toNat=58:=rfl
 rw [e58,if_neg (by omega),if_neg (by omega),if_neg (by omega),if_neg (by omega),if_neg (by omega),if_pos ⟨rfl,by rw [h2];rfl⟩]
 show qm.tok ⟨5,s.extract i (i+([58,61]:List UInt8).length),i⟩ _=_
 rw [hx];rfl
def Scan (p:List UInt8):Prop:=∀(s:aj) (i:Nat) (r:List UInt8),Has s i p r→l9 (fun c=>c==39) r→pK s i=(pK s (i+p.length)).map (· + p.length)
theorem Scan.nil:Scan []:=fun s i r h _=>by
 show pK s i=(pK s i).map (· + 0)
 cases pK s i<;>rfl
theorem Scan.cons {c:UInt8} {p:List UInt8} (h1:c≠39) (h2:c≠93) (hp:Scan p):Scan (c::p):=by
 intro s i r h hr
 have n1:¬c.toNat=39:=fun e=>h1 (UInt8.toNat_inj.1 e)
 have n2:¬c.toNat=93:=fun e=>h2 (UInt8.toNat_inj.1 e)
 rw [uz h.lt,h.byte,if_neg n2,if_neg n1,hp s (i+1) r h.tail hr,List.length_cons,show i+(p.length+1)=i+1+p.length by omega]
 cases pK s (i+1+p.length)<;>rfl
theorem Scan.app {a b:List UInt8} (ha:Scan a) (hb:Scan b) (hn:∀c t,b=c::t→c≠39):Scan (a++b):=by
 intro s i r h hr
 have hnr:l9 (fun c=>c==39) (b++r):=by
  intro c t e
  cases b with
  | nil=>exact hr c t e
  | cons d u=>obtain ⟨rfl,_⟩:=List.cons.inj e;have:=hn d u rfl;simpa using this
 rw [ha s i _ h.split hnr,hb s _ r h.next hr,List.length_append,Nat.add_assoc]
 cases pK s (i+(a.length+b.length)) with
 | none=>rfl
 | some x=>show some (x+b.length+a.length)=some (x+(a.length+b.length));congr 1;omega
theorem Scan.all {p:List UInt8} (h:∀c∈p,c≠39∧c≠93):Scan p:=by
 induction p with
 | nil=>exact Scan.nil
 | cons c p ih=>exact Scan.cons (h c (by simp)).1 (h c (by simp)).2 (ih fun d hd=>h d (by simp [hd]))
theorem Scan.quote (t:aj):Scan (gu t):=by
 intro s i r h hr
 unfold gu at h
 have h3:=h.tail
 have hq:oK s (i+1)=some ((nI t.data.toList).length+1):=by
  unfold oK;rw [h3.eq,List.append_assoc,List.singleton_append,C9 _ _ hr];rfl
 rw [uz h.lt,h.byte]
 have e39:(39:UInt8).toNat=39:=rfl
 rw [e39,if_neg (by omega),if_pos rfl,hq]
 dsimp only
 have el:(gu t).length=(nI t.data.toList).length+1+1:=by simp [gu]
 rw [el,show i+1+((nI t.data.toList).length+1)=i+((nI t.data.toList).length+1+1) by omega]
theorem Scan.word {l:List UInt8} (h:∀d∈l,iK d=true):Scan l:=by
 refine Scan.all fun c hc=>?_
 have:=h c hc
 constructor<;>rintro rfl<;>revert this<;>decide
theorem Scan.name {nm:aj} (h:bF nm=true):Scan nm.data.toList:=by
 obtain ⟨c,l,e,_,hw⟩:=OU h
 rw [e];exact Scan.word hw
theorem Scan.dec {u:Nat} (hu:u<10 ^ 19):Scan (Lib.decDigits u):=by
 obtain ⟨c,l,e,_,hw,_⟩:=zW 19 u hu
 rw [e]
 refine Scan.all fun c hc=>?_
 have:=hw c hc
 constructor<;>rintro rfl<;>revert this<;>decide
theorem Scan.par {b:Bool} {l:List UInt8} (h:Scan l):Scan (sW b l):=by
 cases b
 ·exact h
 ·exact Scan.cons (by decide) (by decide) (Scan.app h (Scan.cons (by decide) (by decide) Scan.nil) (by intro c t e;obtain ⟨rfl,_⟩:=List.cons.inj e;decide))
theorem Y5:∀(c:UInt8) (t:List UInt8),[(41:UInt8)]=c::t→c≠39:=by intro c t e;obtain ⟨rfl,_⟩:=List.cons.inj e;decide
theorem Scan.br:Scan [41]:=Scan.cons (by decide) (by decide) Scan.nil
theorem Df {k:Int} (h:2≤k) (h2:k≤17∨k=20):Scan (fD k):=by
 obtain ⟨kk,rfl⟩:∃kk:Nat,k=kk:=⟨k.toNat,by omega⟩
 obtain ⟨c,l,e,_,hw,_⟩:=Dh kk (by simp [nK];omega)
 rw [e];exact Scan.word hw
mutual
theorem EJ:∀(p:aA) (i:Nat),yJ p→Scan (aG p i)
 | .mk k t n nm kids,i,h=>by
  have hn:=h.self
  obtain ⟨⟨h1,h24⟩,_,hnum,_,_⟩:=jD hn
  have hnm:bn k→bF nm=true:=(vI hn).2.1
  have hh:∀j,Scan (qo kids j):=fun j=>WO kids j h.kids
  have hj:=fun sep f j hs=>LG sep hs f kids j h.kids
  have sep2:∀(c:UInt8) (l:List UInt8),Scan l→c≠39→c≠93→Scan (32::c::32::l):=fun c l hl a b=>Scan.cons (by decide) (by decide) (Scan.cons a b (Scan.cons (by decide) (by decide) hl))
  have n32:∀(u:List UInt8) (c:UInt8) (t:List UInt8),32::u=c::t→c≠39:=by intro u c t e;obtain ⟨rfl,_⟩:=List.cons.inj e;decide
  have n40:∀(u:List UInt8) (c:UInt8) (t:List UInt8),40::u=c::t→c≠39:=by intro u c t e;obtain ⟨rfl,_⟩:=List.cons.inj e;decide
  rw [aG]
  split
  ·exact Scan.quote t
  split
  ·rename_i c2;unfold aT at c2
   exact Scan.app (Df (by omega) (by omega)) (Scan.cons (by decide) (by decide) (Scan.app (Scan.quote t) Scan.br Y5)) (n40 _)
  split
  ·rename_i c2 c3
   have:=hnum c3
   unfold bD at c3
   exact Scan.app (Df (by omega) (by omega)) (Scan.cons (by decide) (by decide) (Scan.app (Scan.dec (by omega)) Scan.br Y5)) (n40 _)
  split
  ·have hx:=Scan.app (hh 2) Scan.br Y5
   exact Scan.cons (by decide) (by decide) (Scan.cons (by decide) (by decide) (Scan.cons (by decide) (by decide) (Scan.cons (by decide) (by decide) (Scan.cons (by decide) (by decide) (Scan.cons (by decide) (by decide) hx)))))
  split
  ·subst k;exact Scan.app (hh 0) (sep2 _ _ (Scan.name (hnm (by decide))) (by decide) (by decide)) (n32 _)
  split
  ·subst k;exact Scan.app (hh 0) (sep2 _ _ (Scan.name (hnm (by decide))) (by decide) (by decide)) (n32 _)
  split
  ·subst k;exact Scan.cons (by decide) (by decide) (Scan.name (hnm (by decide)))
  split
  ·subst k;exact Scan.cons (by decide) (by decide) (Scan.name (hnm (by decide)))
  split
  ·exact Scan.par (hj _ _ _ (.inl rfl))
  split
  ·exact Scan.par (hj _ _ _ (.inr rfl))
  ·rename_i c1 c2 c3 c4 c5 c6 c7 c8 c9 c10
   unfold aT at c2;unfold bD at c3
   exact Df (by omega) (by omega)
theorem WO:∀(l:List aA) (i:Nat),yK l→Scan (qo l i)
 | [],i,_=>Scan.nil
 | p::r,i,h=>EJ p i h.head
theorem LG:∀(sep:List UInt8),(sep=[32]∨sep=[32,124,32])→∀(f:Bool) (l:List aA) (i:Nat),yK l→Scan (bH sep f l i)
 | sep,hs,f,[],i,h=>by cases f<;>exact Scan.nil
 | sep,hs,f,p::r,i,h=>by
  have h1:=EJ p i h.head
  have h2:=LG sep hs false r i h.tail
  have hss:∀l,Scan l→Scan (sep++l):=by
   intro l hl
   rcases hs with rfl|rfl
   ·exact Scan.cons (by decide) (by decide) hl
   ·exact Scan.cons (by decide) (by decide) (Scan.cons (by decide) (by decide) (Scan.cons (by decide) (by decide) hl))
  have h3:Scan (aG p i++bH sep false r i):=by
   refine Scan.app h1 h2 ?_
   intro c t e
   cases r with
   | nil=>rw [bH] at e;cases e
   | cons q r =>
    rw [bH] at e
    rcases hs with rfl|rfl<;>(obtain ⟨rfl,_⟩:=List.cons.inj e;decide)
  rw [bH]
  cases f
  ·exact hss _ h3
  ·exact h3
end
theorem aaP {p l:List UInt8} {ts:List Tk} (hp:Scan p) (hl:fB l ts):fB (91::(p++93::l)) ((4,⟨p.toArray⟩)::ts):=by
 have e0:91::(p++93::l)=(91::(p++[93]))++l:=by simp
 rw [e0]
 refine zh hl (by simp) fun s i h hi=>?_
 have h1:=zi h
 have hb:s[i]=91:=h1.byte
 have h2:Has s (i+1) p (93::l):=by have:=h1.tail.split;rwa [List.singleton_append] at this
 have h3:Has s (i+1+p.length) (93::l) []:=by
  have:=h2.done
  exact ⟨by rw [this.eq];simp,this.le⟩
 have hbr:pK s (i+1)=some (p.length+1):=by
  rw [hp s (i+1) _ h2 (by intro c t e;obtain ⟨rfl,_⟩:=List.cons.inj e;decide),uz h3.lt,h3.byte,if_pos (show (93:UInt8).toNat=93 from rfl)]
  show some (1+p.length)=some (p.length+1)
  congr 1;omega
 have hx:=BJ h2
 unfold dR
 rw [hb]
 have e91:(91:UInt8).toNat=91:=rfl
 rw [e91,if_neg (by omega),if_neg (by omega),if_neg (by omega),if_neg (by omega),if_pos rfl,hbr]
 dsimp only
 rw [show i+(p.length+1)=i+1+p.length by omega,hx]
 simp
 omega
end Go.Proofs.YtefjbnhpjdhjmaaGreatDoor

namespace Go.Proofs.YtefjbnhpjdhjmaaGreatDoor
set_option linter.all false
open Go.RowKit
mutual
def bG:aA→aA
 | .mk k t n nm kids=>.mk k (if k=1 then t else E0) (if k=2 then n else 0) (if k=3∨k=4∨k=6 then nm else E0) (jy kids)
def jy:List aA→List aA
 | []=>[]
 | p::r=>bG p::jy r
end
theorem BM:∀l:List aA,(jy l).length=l.length
 | []=>rfl
 | p::r=>by rw [jy,List.length_cons,BM r,List.length_cons]
mutual
theorem Gg:∀p:aA,eP (bG p)=eP p
 | .mk k t n nm kids=>by rw [bG,eP,eP,EO kids]
theorem EO:∀l:List aA,iq (jy l)=iq l
 | []=>rfl
 | p::r=>by rw [jy,iq,iq,Gg p,EO r]
end
mutual
theorem QZ:∀p:aA,lT p=eP p
 | .mk k t n nm kids=>by rw [lT,eP,Q5 kids,Nat.add_comm]
theorem Q5:∀l:List aA,pV l=iq l
 | []=>rfl
 | p::r=>by rw [pV,iq,QZ p,Q5 r]
end
def Hl (b:Bool) (l:List Tk):List Tk:=if b then sg 40::(l++[sg 41]) else l
mutual
def toks:aA→Nat→List Tk
 | .mk k t n nm kids,i =>
  if k=1 then [(3,t)]
  else if k=2 then [(2,⟨(Lib.decDigits n.toNat).toArray⟩)]
  else if k=3 then [(1,nm)]
  else if k=4 then (1,nm)::sg 60::(wI kids 1++[sg 62])
  else if k=5 then sg 36::wI kids 5
  else if k=7 then Hl (decide (4<i)) (sg 45::wI kids 4)
  else if k=6 then (1,nm)::sg 40::(rF true kids++[sg 41])
  else Hl (decide (dw k<i)) (zX (dw k) (sg (gY k)) kids)
def wI:List aA→Nat→List Tk
 | [],_=>[]
 | p::_,i=>toks p i
def rF:Bool→List aA→List Tk
 | _,[]=>[]
 | first,p::r=>(if first then [] else [sg 44])++(toks p 1++rF false r)
def zX:Nat→Tk→List aA→List Tk
 | own,sep,p::r=>toks p own++(sep::wI r (own+1))
 | _,_,[]=>[]
end
def kW (l:List UInt8):Prop:=∀c t,l=c::t→c=32∨c=41∨c=44∨c=62
theorem kW.word {r:List UInt8} (h:kW r):l9 iK r:=fun c t e=>by rcases h c t e with rfl|rfl|rfl|rfl<;>decide
theorem kW.dig {r:List UInt8} (h:kW r):l9 dL r:=fun c t e=>by rcases h c t e with rfl|rfl|rfl|rfl<;>decide
theorem kW.quote {r:List UInt8} (h:kW r):l9 (fun c=>c==39) r:=fun c t e=>by rcases h c t e with rfl|rfl|rfl|rfl<;>decide
theorem kW.nil:kW []:=by intro c t e;cases e
theorem kW.of {c:UInt8} {l:List UInt8} (h:c=32∨c=41∨c=44∨c=62):kW (c::l):=by intro d t e;obtain ⟨rfl,_⟩:=List.cons.inj e;exact h
theorem lI.more {k n:Int} {t nm:aj} {kids:List aA} (h:lI (.mk k t n nm kids)):k=3∨k=4∨k=6→bF nm=true:=by
 intro e
 have h1:=h.node
 rw [kX] at h1
 have h2:DR k t n nm kids.length=0:=by
  split at h1
  ·assumption
  ·rename_i hx;exact absurd h1 hx
 cases hx:bF nm with
 | true=>rfl
 | false =>
  unfold DR at h2
  rw [if_neg (by omega),if_neg (by omega),if_neg (by omega),if_pos ⟨e,hx⟩] at h2
  cases h2
theorem lI.none {k n:Int} {t nm:aj} {kids:List aA} (h:lI (.mk k t n nm kids)) (hk:k≤3):kids=[]:=by
 have h0:=h.facts.1
 have h1:=h.facts.2.2.2.2.2.2 (by omega)
 rw [show jf k=0 by unfold jf;rw [if_neg (by omega),if_neg (by omega)]] at h1
 exact List.length_eq_zero_iff.1 (by omega)
theorem Q7 {m:List UInt8} {ms:List Tk} (b:Bool) (hm:∀l ts,kW l→fB l ts→fB (m++l) (ms++ts)) (l:List UInt8) (ts:List Tk) (hf:kW l) (hl:fB l ts):fB (sW b m++l) (Hl b ms++ts):=by
 cases b
 ·exact hm l ts hf hl
 ·have h1:=hm (41::l) (sg 41::ts) (kW.of (by decide)) (lF (by decide) hl)
  have h2:=lF (c:=40) (by decide) h1
  simpa [sW,Hl] using h2
theorem aaQ (k:Int):(gY k).toNat∈AL∧gY k≠58:=by
 unfold gY
 split
 ·decide
 split
 ·decide
 split
 ·decide
 split
 ·decide
 split<;>decide
mutual
theorem BK:∀(p:aA) (i:Nat),lI p→∀l ts,kW l→fB l ts→fB (aP p i++l) (toks p i++ts)
 | .mk k t n nm kids,i,h,l,ts,hf,hl=>by
  obtain ⟨hk,ht,hn,hn2,_,hk6,hkk⟩:=h.facts
  have hnm:=h.more
  have hh:=fun j l ts=>LH kids j h.sub l ts
  have hj:=fun l ts=>LK true kids h.sub l ts
  have h2:=fun l ts=>Y6 (dw k) (gY k) (aaQ k) kids h.sub l ts
  rw [aP,toks]
  split
  ·exact Y1 hf.quote hl
  split
  ·have h0:=hn ‹_›
   exact aaO (by omega) hf.dig hl
  split
  ·exact mQ (hnm (.inl ‹_›)) hf.word hl
  split
  ·have h1:=hh 1 (62::l) (sg 62::ts) (kW.of (by decide)) (lF (by decide) hl)
   have h3:=mQ (hnm (.inr (.inl ‹_›))) (by intro c t e;obtain ⟨rfl,_⟩:=List.cons.inj e;decide) (lF (c:=60) (by decide) h1)
   simpa using h3
  split
  ·exact lF (c:=36) (by decide) (hh 5 l ts hf hl)
  split
  ·exact Q7 (m:=45::oV kids 4) (ms:=sg 45::wI kids 4) _ (fun l ts hf hl=>lF (c:=45) (by decide) (hh 4 l ts hf hl)) l ts hf hl
  split
  ·have h1:=hj (41::l) (sg 41::ts) (kW.of (by decide)) (lF (by decide) hl)
   have h3:=mQ (hnm (.inr (.inr ‹_›))) (by intro c t e;obtain ⟨rfl,_⟩:=List.cons.inj e;decide) (lF (c:=40) (by decide) h1)
   simpa using h3
  ·exact Q7 (m:=wZ (dw k) [32,gY k,32] kids) (ms:=zX (dw k) (sg (gY k)) kids) _ h2 l ts hf hl
theorem LH:∀(ks:List aA) (i:Nat),sZ ks→∀l ts,kW l→fB l ts→fB (oV ks i++l) (wI ks i++ts)
 | [],i,h,l,ts,hf,hl=>hl
 | p::r,i,h,l,ts,hf,hl=>by rw [oV,wI];exact BK p i h.head.1 l ts hf hl
theorem LK:∀(f:Bool) (ks:List aA),sZ ks→∀l ts,kW l→fB l ts→fB (kE f ks++l) (rF f ks++ts)
 | f,[],h,l,ts,hf,hl=>by rw [kE,rF];exact hl
 | f,p::r,h,l,ts,hf,hl=>by
  have h1:=LK false r h.head.2 l ts hf hl
  have hf2:kW (kE false r++l):=by
   cases r with
   | nil=>rw [kE];exact hf
   | cons q r=>rw [kE];exact kW.of (by decide)
  have h2:=BK p 1 h.head.1 _ _ hf2 h1
  rw [kE,rF]
  cases f
  ·have h3:=lF (c:=44) (by decide) (jU h2)
   simpa using h3
  ·simpa using h2
theorem Y6:∀(own:Nat) (c:UInt8),(c.toNat∈AL∧c≠58)→∀(ks:List aA),sZ ks→∀l ts,kW l→fB l ts→fB (wZ own [32,c,32] ks++l) (zX own (sg c) ks++ts)
 | own,c,hc,[],h,l,ts,hf,hl=>by rw [wZ,zX];exact hl
 | own,c,hc,p::r,h,l,ts,hf,hl=>by
  have h1:=LH r (own+1) h.head.2 l ts hf hl
  have h2:=BK p own h.head.1 _ _ (kW.of (.inl rfl)) (jU (Dc (c:=c) hc.1 (fun e=>absurd e hc.2) (jU h1)))
  rw [wZ,zX]
  simpa using h2
end
end Go.Proofs.YtefjbnhpjdhjmaaGreatDoor

namespace Go.Proofs.YtefjbnhpjdhjmaaGreatDoor
set_option linter.all false
open Go.RowKit
theorem bf {l:List aF} {t:Tk} {u:List Tk} (h:l.map kt=t::u):∃a l',l=a::l'∧kt a=t∧l'.map kt=u:=List.map_eq_cons_iff.1 h
theorem zY {l:List aF} (h:l.map kt=[]):l=[]:=List.map_eq_nil_iff.1 h
theorem iW {a:aF} {l:List aF} {c:UInt8} (h:kt a=sg c):aJ (bs [c]) (a::l)=true:=by
 obtain ⟨h1,h2⟩:=Prod.mk.inj h
 unfold aJ;exact ak ⟨h1,h2⟩
theorem jF {l:List aF} {r:List Tk} {c:UInt8} (h:l.map kt=r) (hn:∀t u,r=t::u→t≠sg c):aJ (bs [c]) l=false:=by
 cases l with
 | nil=>rfl
 | cons a l =>
  unfold aJ
  refine au ?_
  rintro ⟨h1,h2⟩
  exact hn (kt a) (l.map kt) h.symm (Prod.ext h1 h2)
theorem uP {en:Nat} {a:aF} {l:List aF} {c:UInt8} (h:kt a=sg c):gI (bs [c]) en (a::l)=.ok l:=by
 unfold gI;rw [if_pos (iW h)];rfl
theorem uQ {en:Nat} {a:aF} {l:List aF} {k:Int} (h:a.kind=k):gU k en (a::l)=.ok (a,l):=by
 show (if a.kind=k then _ else _)=_
 rw [if_pos h]
theorem xB {en:Nat} {a:aF} {l:List aF} {k:Int} (h:a.kind≠k):gU k en (a::l)=.error (2,a.at_):=by
 show (if a.kind=k then _ else _)=_
 rw [if_neg h]
theorem og {en:Nat} {a:aF} {l:List aF} {nm:aj} (h:kt a=(1,nm)) (hs:nm.size≤16):fP en (a::l)=.ok (nm,l):=by
 obtain ⟨h1,h2⟩:=Prod.mk.inj h
 unfold fP
 rw [uQ h1]
 dsimp only
 rw [h2,if_neg (by omega)]
def zZ (en d bU:Nat):List aF→cO aA :=
 if bU=1 then nG 1 (nG 2 (nG 3 (jK en d).1)) else if bU=2 then nG 2 (nG 3 (jK en d).1) else if bU=3 then nG 3 (jK en d).1 else if bU=4 then (jK en d).1 else (jK en d).2
def OV (t:Tk) (bU:Nat):Int:=if t.1=5 then Bo bU t.2 else 0
def Stp (bU:Nat) (r:List Tk):Prop:=∀t u,r=t::u→t≠sg 60∧t≠sg 40∧∀j,bU≤j→j≤3→OV t j=0
def ER (en d bU:Nat) (p:aA):Prop:=∀l r,l.map kt=toks p bU++r→Stp bU r→∃r',zZ en d bU l=.ok (bG p,r')∧r'.map kt=r
def CR (en d bU:Nat) (p:aA):Prop:=∀l r,l.map kt=toks p bU++r→Stp (bU+1) r→∃r' f,r'.length≤f∧zZ en d bU l=ou bU (zZ en d (bU+1)) f (bG p) r'∧r'.map kt=r
theorem aaR {en d bU:Nat} (h1:1≤bU) (h3:bU≤3):zZ en d bU=nG bU (zZ en d (bU+1)):=by
 have:bU=1∨bU=2∨bU=3:=by omega
 rcases this with rfl|rfl|rfl<;>rfl
theorem adB {bU:Nat} {l:List aF} {r:List Tk} (h:l.map kt=r) (hn:∀t u,r=t::u→OV t bU=0):opAt bU l=0:=by
 cases l with
 | nil=>rfl
 | cons a l=>exact hn (kt a) (l.map kt) h.symm
theorem TM {bU:Nat} {sub:List aF→cO aA} {f:Nat} {x:aA} {l:List aF} (h:opAt bU l=0):ou bU sub f x l=.ok (x,l):=by
 cases f with
 | zero=>rfl
 | succ f=>rw [ou,h,if_neg (by omega)]
theorem Stp.up {bU:Nat} {r:List Tk} (h:Stp bU r):Stp (bU+1) r:=fun t u e=>⟨(h t u e).1,(h t u e).2.1,fun j hj=>(h t u e).2.2 j (by omega)⟩
theorem Stp.nil (bU:Nat):Stp bU []:=by intro t u e;cases e
theorem Stp.of {bU:Nat} {t:Tk} {u:List Tk} (h1:t≠sg 60) (h2:t≠sg 40) (h3:∀j,bU≤j→j≤3→OV t j=0):Stp bU (t::u):=by
 intro a b e;obtain ⟨rfl,_⟩:=List.cons.inj e;exact ⟨h1,h2,h3⟩
theorem pO {a b:UInt8} (h:a≠b):sg a≠sg b:=by
 intro e
 have h2:=congrArg (fun x:Tk=>x.2.data.toList) e
 exact h (List.cons.inj h2).1
theorem Fj {a b:UInt8} (h:a≠b):(⟨#[a]⟩:aj)≠bs [b]:=by
 intro e
 have h2:=congrArg (fun x:aj=>x.data.toList) e
 exact h (List.cons.inj h2).1
theorem Y7 {c:UInt8} (h:c≠38∧c≠43∧c≠45∧c≠42∧c≠47∧c≠37) (j:Nat):OV (sg c) j=0:=by
 obtain ⟨h1,h2,h3,h4,h5,h6⟩:=h
 unfold OV sg
 dsimp only
 rw [if_pos rfl]
 unfold Bo
 rw [if_neg (Fj h1),if_neg (Fj h2),if_neg (Fj h3),if_neg (Fj h4),if_neg (Fj h5),if_neg (Fj h6)]
 split
 ·rfl
 split<;>rfl
theorem OW {k:Int} (h:8≤k∧k≤13) (j:Nat) (h1:1≤j) (h3:j≤3):OV (sg (gY k)) j=if dw k=j then k else 0:=by
 have hk:k=8∨k=9∨k=10∨k=11∨k=12∨k=13:=by omega
 have hj:j=1∨j=2∨j=3:=by omega
 rcases hk with rfl|rfl|rfl|rfl|rfl|rfl<;>rcases hj with rfl|rfl|rfl<;>decide
theorem Stp.sign {bU:Nat} {c:UInt8} {u:List Tk} (h:c≠60∧c≠40) (h2:c≠38∧c≠43∧c≠45∧c≠42∧c≠47∧c≠37):Stp bU (sg c::u):=Stp.of (pO h.1) (pO h.2) fun j _ _=>Y7 h2 j
theorem OX {en d bU:Nat} {p:aA} (h:CR en d bU p) (hl:bU≤3):ER en d bU p:=by
 intro l r e hs
 obtain ⟨r',f,_,e1,e2⟩:=h l r e hs.up
 exact ⟨r',by rw [e1,TM (adB e2 fun t u e=>(hs t u e).2.2 bU (Nat.le_refl _) hl)],e2⟩
theorem aaS {en d bU:Nat} {p:aA} (h1:1≤bU) (h3:bU≤3) (ht:toks p bU=toks p (bU+1)) (h:ER en d (bU+1) p):CR en d bU p:=by
 intro l r e hs
 rw [ht] at e
 obtain ⟨r',e1,e2⟩:=h l r e hs
 exact ⟨r',r'.length,Nat.le_refl _,by rw [aaR h1 h3];unfold nG;rw [e1],e2⟩
theorem adC {en d:Nat} {l:List aF} (h:aJ (bs [45]) l=false):(jK en d).1 l=(jK en d).2 l:=by
 cases d with
 | zero=>show vC (fun l=>.error (4,fO en l)) (jK en 0).2 l=_;unfold vC;rw [h,if_neg (by decide)]
 | succ d=>show vC (jK en d).1 (jK en (d+1)).2 l=_;unfold vC;rw [h,if_neg (by decide)]
theorem aaT {en d:Nat} {p:aA} (ht:toks p 4=toks p 5) (hf:∀t u,toks p 5=t::u→t≠sg 45) (hne:toks p 5≠[]) (h:ER en d 5 p):ER en d 4 p:=by
 intro l r e hs
 rw [ht] at e
 have hs5:Stp 5 r:=fun t u e=>⟨(hs t u e).1,(hs t u e).2.1,fun j h1 h2=>by omega⟩
 obtain ⟨r',e1,e2⟩:=h l r e hs5
 refine ⟨r',?_,e2⟩
 have hx:aJ (bs [45]) l=false:=jF e fun t u ee=>by
  cases hc:toks p 5 with
  | nil=>exact absurd hc hne
  | cons a b=>rw [hc] at ee;obtain ⟨rfl,_⟩:=List.cons.inj ee;exact hf _ _ hc
 show (jK en d).1 l=_
 rw [adC hx];exact e1
theorem JR {en d:Nat} {p:aA} {top:Nat} (h5:top≤5) (hf:∀t u,toks p 5=t::u→top=5→t≠sg 45) (hne:toks p 5≠[]) (h:ER en d top p) (hc:top≤3→CR en d top p) :
  ∀(j bU:Nat),bU+j=top→1≤bU→(∀i,bU≤i→i≤top→toks p i=toks p top)→ER en d bU p∧(bU≤3→CR en d bU p)
 | 0,bU,e,h1,ht=>by
  have:bU=top:=by omega
  subst this;exact ⟨h,hc⟩
 | j+1,bU,e,h1,ht=>by
  obtain ⟨a,_⟩:=JR h5 hf hne h hc j (bU+1) (by omega) (by omega) fun i hi=>ht i (by omega)
  have te:toks p bU=toks p (bU+1):=(ht bU (Nat.le_refl _) (by omega)).trans (ht (bU+1) (by omega) (by omega)).symm
  by_cases h3:bU≤3
  ·have c:=aaS h1 h3 te a
   exact ⟨OX c h3,fun _=>c⟩
  ·have:bU=4:=by omega
   subst this
   exact ⟨aaT te (fun t u e=>hf t u e (by omega)) hne a,fun h=>absurd h h3⟩
theorem AO (k:Int):1≤dw k∧dw k≤5:=by
 unfold dw
 split
 ·omega
 split
 ·omega
 split
 ·omega
 split<;>omega
theorem Aa {k n:Int} {t nm:aj} {kids:List aA} (i:Nat) (h5:i≤5):toks (.mk k t n nm kids) i=Hl (decide (dw k<i)) (toks (.mk k t n nm kids) 1):=by
 have ho:=AO k
 rw [toks,toks]
 have hd1:decide (dw k<1)=false:=au (by omega)
 have hd4:decide (4<1)=false:=rfl
 have leaf:∀(k:Int) (l:List Tk),(k=1∨k=2∨k=3∨k=4∨k=5∨k=6)→l=Hl (decide (dw k<i)) l:=by
  intro k l hk
  have:dw k=5:=by unfold dw;rw [if_neg (by omega),if_neg (by omega),if_neg (by omega),if_neg (by omega)]
  rw [this,au (by omega)];rfl
 split
 ·exact leaf _ _ (by omega)
 split
 ·exact leaf _ _ (by omega)
 split
 ·exact leaf _ _ (by omega)
 split
 ·exact leaf _ _ (by omega)
 split
 ·exact leaf _ _ (by omega)
 split
 ·subst k;rfl
 split
 ·exact leaf _ _ (by omega)
 ·rw [hd1];rfl
def A8 (t:Tk):Prop:=t.1≠5∨t=sg 36∨t=sg 40∨t=sg 45
theorem A8.of {a:Int} {x:aj} (h:a≠5):A8 (a,x):=.inl h
theorem A8.ne {t:Tk} {c:UInt8} (h:A8 t) (hc:36≠c∧40≠c∧45≠c):t≠sg c:=by
 intro e
 rcases h with h|h|h|h
 ·exact h (by rw [e];rfl)
 ·exact pO hc.1 (h.symm.trans e)
 ·exact pO hc.2.1 (h.symm.trans e)
 ·exact pO hc.2.2 (h.symm.trans e)
theorem yg:∀(p:aA) (i:Nat),lI p→∃t u,toks p i=t::u∧A8 t∧(i=5→t≠sg 45)
 | .mk k t n nm kids,i,h=>by
  have hk:=h.facts.1
  have hkd:∀(a:Int) (x:aj) (c:UInt8),a≠5→((a,x):Tk)≠sg c:=fun a x c ha e=>ha (Prod.mk.inj e).1
  rw [toks]
  split
  ·exact ⟨_,_,rfl,A8.of (by decide),fun _=>hkd _ _ _ (by decide)⟩
  split
  ·exact ⟨_,_,rfl,A8.of (by decide),fun _=>hkd _ _ _ (by decide)⟩
  split
  ·exact ⟨_,_,rfl,A8.of (by decide),fun _=>hkd _ _ _ (by decide)⟩
  split
  ·exact ⟨_,_,rfl,A8.of (by decide),fun _=>hkd _ _ _ (by decide)⟩
  split
  ·exact ⟨_,_,rfl,.inr (.inl rfl),fun _=>pO (by decide)⟩
  split
  ·by_cases hi:4<i
   ·rw [ak hi];exact ⟨_,_,rfl,.inr (.inr (.inl rfl)),fun _=>pO (by decide)⟩
   ·rw [au hi];exact ⟨_,_,rfl,.inr (.inr (.inr rfl)),fun e=>absurd e (by omega)⟩
  split
  ·exact ⟨_,_,rfl,A8.of (by decide),fun _=>hkd _ _ _ (by decide)⟩
  ·rename_i c1 c2 c3 c4 c5 c7 c6
   by_cases hi:dw k<i
   ·rw [ak hi];exact ⟨_,_,rfl,.inr (.inr (.inl rfl)),fun _=>pO (by decide)⟩
   ·obtain ⟨a,b,hab⟩:=h.two (by omega)
    subst hab
    obtain ⟨x,u,e,h1,h2⟩:=yg a (dw k) h.sub.head.1
    rw [au hi]
    have ho:i≠5:=by
     have:dw k≤3:=by
      unfold dw
      split
      ·omega
      split
      ·omega
      split
      ·omega
      ·omega
     omega
    show ∃t u,zX _ _ _=_∧_
    rw [zX,e]
    exact ⟨x,_,rfl,h1,fun e=>absurd e ho⟩
theorem aaU (p:aA) (i:Nat) (h:lI p):toks p i≠[]:=by
 obtain ⟨t,u,e,_⟩:=yg p i h
 rw [e];simp
theorem JU (en d:Nat):∃ex pp,(jK en d).2=bP ex pp en:=by
 cases d with
 | zero=>exact ⟨fun l=>.error (4,fO en l),fun l=>.error (4,fO en l),rfl⟩
 | succ d=>exact ⟨Gz (jK en d).1,(jK en d).2,rfl⟩
theorem Q8:∀(g u:Nat),u<10 ^ g→qX (Lib.decDigits u)=u
 | 0,u,h=>by
  have:u=0:=by simpa using h
  subst this;rw [Lib.decDigits,dif_pos (by omega)];rfl
 | g+1,u,h=>by
  by_cases h10:u<10
  ·rw [Lib.decDigits,dif_pos h10]
   unfold qX
   simp;omega
  ·have ih:=Q8 g (u/10) (by rw [Nat.pow_succ] at h;omega)
   rw [Lib.decDigits,dif_neg h10]
   unfold qX at ih⊢
   rw [List.foldl_append,ih]
   simp;omega
section
variable {en d:Nat} {t nm:aj} {n:Int} {kids:List aA}
theorem aaV:ER en d 5 (.mk 1 t n nm []):=by
 intro l r e hs
 obtain ⟨ex,pp,hp⟩:=JU en d
 rw [toks,if_pos rfl] at e
 obtain ⟨a,l',rfl,ha,hl⟩:=bf e
 obtain ⟨h1,h2⟩:=Prod.mk.inj ha
 have n1:∀c,aJ (bs [c]) (a::l')=false:=fun c=>jF e fun x u ee=>by
  obtain ⟨rfl,_⟩:=List.cons.inj ee
  intro q;exact absurd (Prod.mk.inj q).1 (by decide)
 refine ⟨l',?_,hl⟩
 show (jK en d).2 _=_
 rw [hp]
 unfold bP
 rw [n1,if_neg (by decide),n1,if_neg (by decide),uQ h1]
 dsimp only
 rw [h2];rfl
theorem acW (h0:0≤n) (h1:n≤9223372036854775807):ER en d 5 (.mk 2 t n nm []):=by
 intro l r e hs
 obtain ⟨ex,pp,hp⟩:=JU en d
 rw [toks,if_neg (by decide),if_pos rfl] at e
 obtain ⟨a,l',rfl,ha,hl⟩:=bf e
 obtain ⟨k1,k2⟩:=Prod.mk.inj ha
 have n1:∀c,aJ (bs [c]) (a::l')=false:=fun c=>jF e fun x u ee=>by
  obtain ⟨rfl,_⟩:=List.cons.inj ee
  intro q;exact absurd (Prod.mk.inj q).1 (by decide)
 refine ⟨l',?_,hl⟩
 obtain ⟨c,m,ed,hc,hw,hz⟩:=zW 19 n.toNat (by omega)
 have hv:=Q8 19 n.toNat (by omega)
 show (jK en d).2 _=_
 rw [hp]
 unfold bP
 rw [n1,if_neg (by decide),n1,if_neg (by decide),xB (by rw [k1];decide)]
 dsimp only
 rw [uQ k1]
 dsimp only
 unfold D8
 have e2:a.text.data.toList=Lib.decDigits n.toNat:=by rw [k2]
 have e3:a.text.size=(Lib.decDigits n.toNat).length:=by rw [k2];show (Lib.decDigits n.toNat).toArray.size=_;simp
 rw [e2,hv,if_neg,if_neg (by omega),bG,jy,Int.toNat_of_nonneg h0]
 ·rfl
 ·rw [e3,ed]
  rintro ⟨q1,q2⟩
  simp only [List.head?_cons,Option.some.injEq] at q2
  subst q2
  refine hz ?_ rfl
  intro hm;subst hm;simp at q1
theorem aaW (hn:nm.size≤16):ER en d 5 (.mk 3 t n nm []):=by
 intro l r e hs
 obtain ⟨ex,pp,hp⟩:=JU en d
 rw [toks,if_neg (by decide),if_neg (by decide),if_pos rfl] at e
 obtain ⟨a,l',rfl,ha,hl⟩:=bf e
 have k1:a.kind=1:=(Prod.mk.inj ha).1
 have n1:∀c,aJ (bs [c]) (a::l')=false:=fun c=>jF e fun x u ee=>by
  obtain ⟨rfl,_⟩:=List.cons.inj ee
  intro q;exact absurd (Prod.mk.inj q).1 (by decide)
 refine ⟨l',?_,hl⟩
 show (jK en d).2 _=_
 rw [hp]
 unfold bP
 rw [n1,if_neg (by decide),n1,if_neg (by decide),xB (by rw [k1];decide)]
 dsimp only
 rw [xB (by rw [k1];decide)]
 dsimp only
 rw [og ha hn]
 dsimp only
 rw [jF hl fun x u ee=>(hs x u ee).1,if_neg (by decide),jF hl fun x u ee=>(hs x u ee).2.1,if_neg (by decide)]
 rfl
theorem aaX {q:aA} (hn:nm.size≤16) (hq:ER en d 1 q):ER en (d+1) 5 (.mk 4 t n nm [q]):=by
 intro l r e hs
 rw [toks,if_neg (by decide),if_neg (by decide),if_neg (by decide),if_pos rfl,wI] at e
 obtain ⟨a,l1,rfl,ha,h1⟩:=bf e
 have k1:a.kind=1:=(Prod.mk.inj ha).1
 have n1:∀c,aJ (bs [c]) (a::l1)=false:=fun c=>jF e fun x u ee=>by
  obtain ⟨rfl,_⟩:=List.cons.inj ee
  intro q;exact absurd (Prod.mk.inj q).1 (by decide)
 obtain ⟨b,l2,rfl,hb,h2⟩:=bf h1
 have h2:l2.map kt=toks q 1++(sg 62::r):=h2.trans (List.append_assoc (toks q 1) [sg 62] r)
 obtain ⟨l3,e3,h3⟩:=hq l2 _ h2 (Stp.sign (by decide) (by decide))
 obtain ⟨z,l4,rfl,hz,h4⟩:=bf h3
 refine ⟨l4,?_,h4⟩
 show bP (zZ en d 1) _ en _=_
 unfold bP
 rw [n1,if_neg (by decide),n1,if_neg (by decide),xB (by rw [k1];decide)]
 dsimp only
 rw [xB (by rw [k1];decide)]
 dsimp only
 rw [og ha hn]
 dsimp only
 rw [iW hb,if_pos rfl]
 show (match zZ en d 1 l2 with | .error er=>_ | .ok (x,r2)=>_)=_
 rw [e3]
 dsimp only
 rw [uP hz]
 rfl
theorem acX {q:aA} (hq:ER en d 5 q):ER en (d+1) 5 (.mk 5 t n nm [q]):=by
 intro l r e hs
 rw [toks,if_neg (by decide),if_neg (by decide),if_neg (by decide),if_neg (by decide),if_pos rfl,wI] at e
 obtain ⟨a,l1,rfl,ha,h1⟩:=bf e
 obtain ⟨l3,e3,h3⟩:=hq l1 _ h1 hs
 refine ⟨l3,?_,h3⟩
 show bP _ (zZ en d 5) en _=_
 unfold bP
 rw [jF e fun x u ee=>by obtain ⟨rfl,_⟩:=List.cons.inj ee;exact pO (by decide),if_neg (by decide),iW ha,if_pos rfl]
 show (match zZ en d 5 l1 with | .error er=>_ | .ok (x,r2)=>_)=_
 rw [e3];rfl
theorem acY {q:aA} (hq:ER en d 4 q):ER en (d+1) 4 (.mk 7 t n nm [q]):=by
 intro l r e hs
 rw [toks,if_neg (by decide),if_neg (by decide),if_neg (by decide),if_neg (by decide),if_neg (by decide),if_pos rfl,wI] at e
 obtain ⟨a,l1,rfl,ha,h1⟩:=bf (show _=sg 45::(toks q 4++r) from e)
 obtain ⟨l3,e3,h3⟩:=hq l1 _ h1 hs
 refine ⟨l3,?_,h3⟩
 show vC (zZ en d 4) _ _=_
 unfold vC
 rw [iW ha,if_pos rfl]
 show (match zZ en d 4 l1 with | .error er=>_ | .ok (x,r2)=>_)=_
 rw [e3];rfl
theorem LP:∀(q:aA) (kids:List aA),sZ (q::kids)→(∀x∈q::kids,ER en d 1 x)→∀(f:Nat) (ks:List aA) (l:List aF) (r:List Tk),ks.length+(q::kids).length≤8→(q::kids).length≤f→
  l.map kt=rF true (q::kids)++(sg 41::r)→∃r',mX (zZ en d 1) en f ks l=.ok (ks++jy (q::kids),r')∧r'.map kt=r
 | q,[],ho,h,f,ks,l,r,h8,hf,e=>by
  obtain ⟨f,rfl⟩:∃g,f=g+1:=⟨f-1,by simp at hf;omega⟩
  rw [rF,rF] at e
  simp only [if_true,List.nil_append,List.append_nil] at e
  obtain ⟨l1,e1,h1⟩:=h q (by simp) l _ e (Stp.sign (by decide) (by decide))
  obtain ⟨a,l2,rfl,ha,h2⟩:=bf h1
  refine ⟨l2,?_,h2⟩
  rw [mX,if_neg (by simp at h8;omega),e1]
  dsimp only
  rw [iW ha,if_pos rfl,jy,jy];rfl
 | q,q2::kids,ho,h,f,ks,l,r,h8,hf,e=>by
  obtain ⟨f,rfl⟩:∃g,f=g+1:=⟨f-1,by simp at hf;omega⟩
  rw [rF,rF] at e
  simp only [if_true,List.nil_append,List.append_assoc,Bool.false_eq_true,if_false,List.singleton_append,List.cons_append] at e
  obtain ⟨l1,e1,h1⟩:=h q (by simp) l _ e (Stp.sign (by decide) (by decide))
  obtain ⟨a,l2,rfl,ha,h2⟩:=bf h1
  obtain ⟨r',e3,h3⟩:=LP q2 kids ho.head.2 (fun x hx=>h x (by simp at hx⊢;right;exact hx)) f (ks++[bG q]) l2 r (by simp at h8⊢;omega) (by simp at hf⊢;omega) (by rw [rF];simpa using h2)
  refine ⟨r',?_,h3⟩
  rw [mX,if_neg (by simp at h8;omega),e1]
  dsimp only
  rw [jF h1 fun x u ee=>by obtain ⟨rfl,_⟩:=List.cons.inj ee;exact pO (by decide),if_neg (by decide),uP ha]
  dsimp only
  rw [e3,jy,List.append_assoc];rfl
theorem aaY (hn:nm.size≤16) (h8:kids.length≤8) (ho:sZ kids) (hq:∀x∈kids,ER en d 1 x):ER en (d+1) 5 (.mk 6 t n nm kids):=by
 intro l r e hs
 rw [toks,if_neg (by decide),if_neg (by decide),if_neg (by decide),if_neg (by decide),if_neg (by decide),if_neg (by decide),if_pos rfl] at e
 obtain ⟨a,l1,rfl,ha,h1⟩:=bf e
 have k1:a.kind=1:=(Prod.mk.inj ha).1
 have n1:∀c,aJ (bs [c]) (a::l1)=false:=fun c=>jF e fun x u ee=>by
  obtain ⟨rfl,_⟩:=List.cons.inj ee
  intro q;exact absurd (Prod.mk.inj q).1 (by decide)
 obtain ⟨b,l2,rfl,hb,h2⟩:=bf h1
 have h2:l2.map kt=rF true kids++(sg 41::r):=h2.trans (List.append_assoc (rF true kids) [sg 41] r)
 have key:∃r',r'.map kt=r∧(if aJ (bs [41]) l2=true then (.ok (.mk 6 E0 0 nm [],l2.tail):cO aA) else match mX (zZ en d 1) en 9 [] l2 with | .error er=>.error er | .ok (ks,r2)=>.ok (.mk 6 E0 0 nm ks,r2))=.ok (bG (.mk 6 t n nm kids),r'):=by
  cases kids with
  | nil =>
   rw [rF,List.nil_append] at h2
   obtain ⟨z,l3,rfl,hz,h3⟩:=bf h2
   exact ⟨l3,h3,by rw [iW hz,if_pos rfl];rfl⟩
  | cons q kids =>
   obtain ⟨l3,e3,h3⟩:=LP q kids ho hq 9 [] l2 r (by simpa using h8) (by omega) h2
   refine ⟨l3,h3,?_⟩
   obtain ⟨x,u,ex,hx,_⟩:=yg q 1 ho.head.1
   rw [jF h2 fun y v ee=>by rw [rF] at ee;simp only [if_true,List.nil_append,ex,List.cons_append] at ee;obtain ⟨rfl,_⟩:=List.cons.inj ee;exact hx.ne (by decide),if_neg (by decide),e3]
   rfl
 obtain ⟨r',h3,e3⟩:=key
 refine ⟨r',?_,h3⟩
 show bP (zZ en d 1) _ en _=_
 unfold bP
 rw [n1,if_neg (by decide),n1,if_neg (by decide),xB (by rw [k1];decide)]
 dsimp only
 rw [xB (by rw [k1];decide)]
 dsimp only
 rw [og ha hn]
 dsimp only
 rw [jF h1 fun x u ee=>by obtain ⟨rfl,_⟩:=List.cons.inj ee;exact pO (by decide),if_neg (by decide),iW hb,if_pos rfl]
 exact e3
theorem acZ {k:Int} {p q:aA} (hk:8≤k∧k≤13) (hp:CR en d (dw k) p) (hq:ER en d (dw k+1) q):CR en d (dw k) (.mk k t n nm [p,q]):=by
 have ho:1≤dw k∧dw k≤3:=by
  refine ⟨(AO k).1,?_⟩
  unfold dw
  split
  ·omega
  split
  ·omega
  split
  ·omega
  ·omega
 intro l r e hs
 have et:toks (.mk k t n nm [p,q]) (dw k)=toks p (dw k)++(sg (gY k)::toks q (dw k+1)):=by
  rw [toks,if_neg (by omega),if_neg (by omega),if_neg (by omega),if_neg (by omega),if_neg (by omega),if_neg (by omega),if_neg (by omega),au (by omega)]
  show zX _ _ _=_
  rw [zX,wI]
 rw [et,List.append_assoc] at e
 have hkr:gY k≠60∧gY k≠40:=by
  have hk:k=8∨k=9∨k=10∨k=11∨k=12∨k=13:=by omega
  rcases hk with rfl|rfl|rfl|rfl|rfl|rfl<;>decide
 obtain ⟨l1,f,hf,e1,h1⟩:=hp l _ e (Stp.of (pO hkr.1) (pO hkr.2) fun j h1 h2=>by rw [OW hk j (by omega) h2,if_neg (by omega)])
 obtain ⟨a,l2,rfl,ha,h2⟩:=bf h1
 obtain ⟨l3,e3,h3⟩:=hq l2 r h2 hs
 obtain ⟨f,rfl⟩:∃g,f=g+1:=⟨f-1,by simp at hf;omega⟩
 have hop:opAt (dw k) (a::l2)=k:=by
  have:opAt (dw k) (a::l2)=OV (kt a) (dw k):=rfl
  rw [this,ha,OW hk _ ho.1 ho.2,if_pos rfl]
 have hlen:l3.length≤f:=by
  have q1:=congrArg List.length (show l2.map kt=toks q (dw k+1)++r from h2)
  have q2:=congrArg List.length h3
  simp only [List.length_map,List.length_append] at q1 q2
  simp only [List.length_cons] at hf
  omega
 refine ⟨l3,f,hlen,?_,h3⟩
 rw [e1,ou,hop,if_pos (by omega),List.tail_cons,e3]
 dsimp only
 rw [bG,jy,jy,jy,if_neg (by omega),if_neg (by omega),if_neg (by omega)];rfl
end
theorem OY {q:aA}:∀{l:List aA},q∈l→eP q≤iq l
 | p::r,h=>by
  rw [iq]
  rcases List.mem_cons.1 h with rfl|h
  ·omega
  ·have:=OY h;omega
theorem Q9 {q:aA}:∀{l:List aA},q∈l→sizeT q≤aS l
 | p::r,h=>by
  rw [aS]
  rcases List.mem_cons.1 h with rfl|h
  ·omega
  ·have:=Q9 h;omega
theorem sZ.mem {q:aA}:∀{l:List aA},sZ l→q∈l→lI q
 | p::r,h,hq=>by
  rcases List.mem_cons.1 hq with rfl|hq
  ·exact h.head.1
  ·exact h.head.2.mem hq
theorem Y8 (en:Nat):∀(m:Nat) (p:aA),sizeT p≤m→lI p→∀d,(2*eP p≤d+1→∀bU,1≤bU→bU≤dw p.kind→ER en d bU p∧(bU≤3→CR en d bU p))∧(2*eP p≤d→∀bU,1≤bU→bU≤5→ER en d bU p∧(bU≤3→CR en d bU p)):=by
 intro m
 induction m with
 | zero=>intro p h;have:=lW p;omega
 | succ m ih =>
  intro p hm h
  obtain ⟨k,t,n,nm,kids⟩:=p
  obtain ⟨hk,ht,hn,hn2,hnm,hk6,hkk⟩:=h.facts
  have ho:=AO k
  have hne:=aaU (.mk k t n nm kids) 5 h
  have hft:∀x u,toks (.mk k t n nm kids) 5=x::u→x≠sg 45:=by
   obtain ⟨x,u,e,_,h2⟩:=yg _ 5 h
   intro y v e2
   rw [e] at e2
   obtain ⟨rfl,_⟩:=List.cons.inj e2
   exact h2 rfl
  have hd:eP (.mk k t n nm kids)=1+iq kids:=by rw [eP]
  have kid:∀q∈kids,∀d,(2*iq kids≤d→∀bU,1≤bU→bU≤5→ER en d bU q∧(bU≤3→CR en d bU q)):=by
   intro q hq d hdl
   have h1:=Q9 hq
   have h2:=OY hq
   rw [sizeT] at hm
   exact (ih q (by omega) (h.sub.mem hq) d).2 (by omega)
  have raw:∀d,2*eP (.mk k t n nm kids)≤d+1→ER en d (dw k) (.mk k t n nm kids)∧(dw k≤3→CR en d (dw k) (.mk k t n nm kids)):=by
   intro d hb
   rw [hd] at hb
   have aeM:(k=1∨k=2∨k=3∨k=4∨k=5∨k=6)→dw k=5:=fun e=>by unfold dw;rw [if_neg (by omega),if_neg (by omega),if_neg (by omega),if_neg (by omega)]
   have lift:(k=1∨k=2∨k=3∨k=4∨k=5∨k=6)→ER en d 5 (.mk k t n nm kids)→ER en d (dw k) (.mk k t n nm kids)∧(dw k≤3→CR en d (dw k) (.mk k t n nm kids)):=fun e hx=>by rw [aeM e];exact ⟨hx,fun q=>absurd q (by omega)⟩
   obtain ⟨d',rfl⟩:∃d',d=d'+1:=⟨d-1,by omega⟩
   by_cases k1:k=1
   ·obtain rfl:=h.none (by omega);subst k1;exact lift (by omega) aaV
   by_cases k2:k=2
   ·obtain rfl:=h.none (by omega);exact lift (by omega) (by subst k2;exact acW (hn rfl) hn2)
   by_cases k3:k=3
   ·obtain rfl:=h.none (by omega);exact lift (by omega) (by subst k3;exact aaW (hnm (by omega)))
   by_cases k4:k=4
   ·obtain ⟨q,rfl⟩:=h.one (by omega)
    exact lift (by omega) (by subst k4;exact aaX (hnm (by omega)) (kid q (by simp) d' (by omega) 1 (by omega) (by omega)).1)
   by_cases k5:k=5
   ·obtain ⟨q,rfl⟩:=h.one (by omega)
    exact lift (by omega) (by subst k5;exact acX (kid q (by simp) d' (by omega) 5 (by omega) (by omega)).1)
   by_cases k6:k=6
   ·exact lift (by omega) (by subst k6;exact aaY (hnm (by omega)) (hk6 rfl) h.sub fun x hx=>(kid x hx d' (by omega) 1 (by omega) (by omega)).1)
   by_cases k7:k=7
   ·obtain ⟨q,rfl⟩:=h.one (by omega)
    subst k7
    exact ⟨acY (kid q (by simp) d' (by omega) 4 (by omega) (by omega)).1,fun q=>absurd q (by decide)⟩
   ·obtain ⟨a,b,rfl⟩:=h.two (by omega)
    have ho3:dw k≤3:=by
     unfold dw
     split
     ·omega
     split
     ·omega
     split
     ·omega
     ·omega
    have hc:=acZ (t:=t) (n:=n) (nm:=nm) (en:=en) (d:=d'+1) ⟨by omega,hk.2⟩ ((kid a (by simp) (d'+1) (by omega) (dw k) ho.1 (by omega)).2 ho3) (kid b (by simp) (d'+1) (by omega) (dw k+1) (by omega) (by omega)).1
    exact ⟨OX hc ho3,fun _=>hc⟩
  have low:∀d,2*eP (.mk k t n nm kids)≤d+1→∀bU,1≤bU→bU≤dw k→ER en d bU (.mk k t n nm kids)∧(bU≤3→CR en d bU (.mk k t n nm kids)):=by
   intro d hb bU h1 h2
   obtain ⟨a,b⟩:=raw d hb
   exact JR ho.2 (fun x u e _=>hft x u e) hne a b (dw k-bU) bU (by omega) h1 fun i hi hj=>by
    rw [Aa i (by omega),Aa (dw k) ho.2,au (by omega),au (by omega)]
  intro d
  refine ⟨low d,fun hb bU h1 h5=>?_⟩
  by_cases hl:bU≤dw k
  ·exact low d (by omega) bU h1 hl
  ·obtain ⟨d',rfl⟩:∃d',d=d'+1:=⟨d-1,by omega⟩
   have five:ER en (d'+1) 5 (.mk k t n nm kids):=by
    intro l r e hs
    rw [Aa 5 (by omega),ak (by omega)] at e
    have e':l.map kt=sg 40::(toks (.mk k t n nm kids) 1++(sg 41::r)):=by rw [e];simp [Hl]
    obtain ⟨a,l1,rfl,ha,h1⟩:=bf e'
    obtain ⟨l2,e2,h2⟩:=(low d' (by omega) 1 (by omega) ho.1).1 l1 _ h1 (Stp.sign (by decide) (by decide))
    obtain ⟨b,l3,rfl,hb,h3⟩:=bf h2
    refine ⟨l3,?_,h3⟩
    show bP (zZ en d' 1) _ en _=_
    unfold bP
    rw [iW ha,if_pos rfl,List.tail_cons,e2]
    dsimp only
    rw [uP hb]
   exact JR (Nat.le_refl _) (fun x u e _=>hft x u e) hne five (fun q=>absurd q (by omega)) (5-bU) bU (by omega) h1 fun i hi hj=>by
    rw [Aa i hj,Aa 5 (by omega),ak (by omega),ak (by omega)]
theorem vJ {en:Nat} {p:aA} (h:bC p=0) (hn:vS p) {l:List aF} {r:List Tk} (e:l.map kt=toks p 1++r) (hs:Stp 1 r):∃r',vZ en 400 l=.ok (bG p,r')∧r'.map kt=r:=by
 have hx:=tN h hn
 have hf:fits p:=by
  unfold bC at h
  by_cases hf:fits p
  ·exact hf
  ·rw [if_neg hf] at h;cases h
 have hd:=hf.2
 have ho:=AO p.kind
 obtain ⟨r',e1,e2⟩:=(((Y8 en _ p (Nat.le_refl _) hx.1 399).1 (by omega) 1 (by omega) ho.1).1) l r e hs
 exact ⟨r',e1,e2⟩
end Go.Proofs.YtefjbnhpjdhjmaaGreatDoor

namespace Go.Proofs.YtefjbnhpjdhjmaaGreatDoor
set_option linter.all false
open Go.RowKit
set_option maxRecDepth 100000
set_option maxHeartbeats 1000000
theorem Qi (l:List aj) (j:Nat) (h:j<l.length):aO (l.drop j)=if bF l[j]=true then aO (l.drop (j+1)) else 7:=by
 rw [List.drop_eq_getElem_cons h,aO]
theorem Di {w:World} {b:Nat} {l:List aj} {t:TypeId} {fr:Nat×Nat} (h:w.heap[b]?=some (.cells (l.map Value.string).toArray t fr)) {S:Nat→Prop} (hS:S b):nD w S (some ⟨b,0,none⟩) l:=by
 intro _
 refine ⟨b,0,rfl,hS,fun i hi=>?_⟩
 rw [cell_of_row w b (0+i) _ t fr h];simp [hi]
theorem wJ (l:List aj) (a:Option Addr) (cap:Nat) (S:Nat→Prop) (w:World) (hl:nD w S a l) (hz:l.length<1000000000∧∀x∈l,x.size<1000000000) :
  Calls Tryz.prog 30 #[.slice a l.length cap] w fun e w'=>e=.returned (.int .i64 (aO l))∧w'=w:=by
 have HL:=ah hl;have HZ:=ah hz.2
 have hzl:=hz.1
 clear hl hz
 go_enter Tryz.func30, Tryz.ntmps30
 go_wp2_with fail
 go_loop [7] (fun i=>∃j:Nat,j≤l.length∧i=.int .i64 j∧Hid (aO l=aO (l.drop j))) (fun i=>l.length-(intOf i).toNat)
 case atStart=>exact ⟨0,Nat.zero_le _,rfl,by unfold Hid;rw [List.drop_zero]⟩
 case round =>
  obtain ⟨j,hj,rfl,hno⟩:=hrel
  by_cases hlt:j<l.length
  ·obtain ⟨b,o,rfl,_,hc⟩:=HL.out (by omega)
   have hcj:=hc j hlt
   have hn:(l[j]).size≤maxLen:=by have:=HZ.out l[j] (List.getElem_mem hlt);unfold maxLen;omega
   have hd:=Qi l j hlt
   clear hc
   cases hb:bF l[j] with
   | true =>
    rw [if_pos hb] at hd
    have step:=ah (hno.out.trans hd)
    have HB:=ah hb
    clear hd hb
    go_wp2_with (go_at_call 26;(with_reducible refine (uU _ _ hn).mono ?_);rintro e w' ⟨rfl,rfl⟩;rw [HB.out])
    go_round
    case rel=>exact ⟨j+1,by omega,by go_num,step⟩
    case measure=>simp [intOf];omega
   | false =>
    rw [if_neg (by simp [hb])] at hd
    have fin:=ah (hno.out.trans hd)
    have HB:=ah hb
    clear hd hb
    go_wp2_with (go_at_call 26;(with_reducible refine (uU _ _ hn).mono ?_);rintro e w' ⟨rfl,rfl⟩;rw [HB.out])
    go_ret
    exact ⟨by rw [fin.out];try rfl,rfl⟩
  ·obtain rfl:j=l.length:=by omega
   have fin:Hid (aO l=0):=by unfold Hid;rw [hno.out,List.drop_length,aO]
   go_wp2_with fail
   go_ret
   exact ⟨by rw [fin.out];try rfl,rfl⟩
theorem Jl (p:aA) (v:Value) (S:Nat→Prop) (w:World) (hp:gV w S v p):Calls Tryz.prog 29 #[v] w (mY (decide (isTarget p)) w):=by
 obtain ⟨ka,cap,rfl,hz,hk⟩:=hp
 by_cases h:isTarget p
 ·have hb:Hid (decide (isTarget p)=true):=ak h
  have h':=h;unfold isTarget at h'
  rcases h' with h'|h'|h'
  all_goals
   rw [h']
   clear h
   go_enter Tryz.func29, Tryz.ntmps29
   go_wp2_with fail
   go_ret
   exact ⟨by rw [hb.out];try rfl,(Kept.refl _ _).alloc _⟩
 ·have hb:Hid (decide (isTarget p)=false):=au h
  have h':=h;unfold isTarget at h'
  have e1:(p.kind==3)=false:=by simp;omega
  have e2:(p.kind==4)=false:=by simp;omega
  have e3:(p.kind==5)=false:=by simp;omega
  clear h h'
  go_enter Tryz.func29, Tryz.ntmps29
  go_wp2_with fail
  go_ret
  exact ⟨by rw [hb.out];try rfl,(Kept.refl _ _).alloc _⟩
end Go.Proofs.YtefjbnhpjdhjmaaGreatDoor

namespace Go.Proofs.YtefjbnhpjdhjmaaGreatDoor
set_option linter.all false
open Go.RowKit
set_option maxRecDepth 100000
set_option maxHeartbeats 4000000
theorem UK (w:World):Calls Tryz.prog 37 #[] w fun e w'=>e=.returned (.slice (some ⟨w.heap.size,0,none⟩) 21 21)∧w'=w.alloc (.cells (rM.map Value.string).toArray 9):=by
 go_enter Tryz.func37, Tryz.ntmps37
 go_wp2
 go_ret
 exact ⟨rfl,rfl⟩
theorem print_any (p:aA) (v:Value) (w:World) (hp:gV w (· < w.heap.size) v p) (hsz:sizeT p≤100000000) (hg:Glob w) (hgl:0<w.heap.size∧1<w.heap.size) :
  Calls Tryz.prog 14 #[v] w (UH p w):=by
 obtain ⟨c,rfl,hb⟩:=hp.box 27 (fun b hb=>hb)
 obtain ⟨ka,cap,hv,hz,hk⟩:=hp
 simp only [Value.agg.injEq] at hv
 subst hv
 have kA:Kept aC w (w.alloc (.cells #[.int .i64 p.kind,.string p.text,.int .i64 p.n,.string p.name,.slice ka p.kids.length cap] 27)):=(Kept.refl _ _).alloc _
 obtain ⟨w1,hw1⟩:∃w1,w1=(w.alloc (.cells #[.int .i64 p.kind,.string p.text,.int .i64 p.n,.string p.name,.slice ka p.kids.length cap] 27)):=⟨_,rfl⟩
 rw [←hw1] at hb kA
 have hs1:w1.heap.size=w.heap.size+1:=by rw [hw1];simp
 have hb':dH w1 (· < w1.heap.size) w.heap.size 0 p:=dH.same (fun _ _=>rfl) (fun b hb=>by rcases hb with hb|rfl<;>omega) _ _ _ hb
 have PV:Hid (gV w1 (· < w1.heap.size) (.agg #[.int .i64 p.kind,.string p.text,.int .i64 p.n,.string p.name,.slice ka p.kids.length cap]) p):=⟨ka,cap,rfl,hz,hk.to kA (fun b hb=>⟨hb,fun h=>h⟩) (fun b hb=>by omega)⟩
 have HB:=ah hb';have KA:=ah kA;have HG:=ah hg;have HW1:=ah hw1
 obtain ⟨_,_,p0,p1,p2,p3,Zz,cap',p4,_⟩:=hb'.open
 have e4:w1.cell? ⟨w.heap.size,0+4,none⟩=some (.slice ka p.kids.length cap):=by rw [hw1];rw [cell_of_row _ _ _ _ _ _ (ay w _)];rfl
 clear p4 hb hb' kA hk hz hg hw1
 go_enter Tryz.func14, Tryz.ntmps14
 go_upto_region 1 with fail
 rw [←HW1.out]
 go_wp2_with fail
 refine (xR p _ w1 PV.out hsz).mono ?_
 rintro e w2 ⟨rfl,K2⟩
 have hs2:=K2.size
 have KK2:=ah (KA.out.trans K2)
 by_cases hw:bW p=0
 ·have hb:(bW p != 0)=false:=by rw [hw];rfl
  obtain ⟨hok,aeD⟩:=BR hw
  have hlen:=Gw p 2 hok
  have hB2:=HB.out.kept K2 (fun b hb=>⟨hb,fun h=>h⟩)
  obtain ⟨w4,hw4⟩:∃w4,w4=(w2.alloc (.cells #[.pointer none,.slice none 0 0] 77)).alloc (.cells (rM.map Value.string).toArray 9):=⟨_,rfl⟩
  have k24:Kept aC w2 w4:=by rw [hw4];exact ((Kept.refl aC w2).alloc _).alloc _
  have hs4:w4.heap.size=w2.heap.size+2:=by rw [hw4];simp
  have SP:Hid (pY w2.heap.size w2.heap.size (w2.heap.size+1) (· < w1.heap.size) w.heap.size 0 p [] w4):=by
   refine ⟨.inl ⟨Nat.le_refl _,.slice none 0 0,?_,⟨rfl,.inl ⟨rfl,rfl⟩⟩,by simp [Value.ownBlock]⟩,?_,HG.out.below (KK2.out.trans k24).below hgl,by omega,hB2.kept k24 (fun b hb=>⟨Nat.lt_of_lt_of_le hb hs2,fun h=>h⟩),fun y hy=>Nat.lt_of_lt_of_le hy hs2,Nat.le_refl _,by omega,by omega⟩
   ·rw [hw4,Below.heap_alloc _ _ _ (by simp)];exact ay w2 _
   ·rw [hw4];exact dO (by simp)
  have zJ:=ah hw4;have xU:=ah (KK2.out.trans k24)
  have hw0:=hw
  clear hB2 k24 hw4 K2 hok p0 p1 p2 p3 e4 PV
  go_wp2_with fail
  refine (UK _).mono ?_
  rintro e w' ⟨rfl,rfl⟩
  have en:(w2.alloc (.cells #[.pointer none,.slice none 0 0] 77)).heap.size=w2.heap.size+1:=by simp
  rw [←zJ.out]
  simp only [en]
  go_wp2_with fail
  refine (UL _ _ _ _ 4096 p w.heap.size 0 2 [] w4 aeD (BR hw0).1 SP.out (by omega) (by unfold big;simp only [List.length_nil];omega)).mono ?_
  rintro e w5 ⟨rfl,B5,K5⟩
  rw [List.nil_append] at B5
  have hs5:=Kept.size K5
  have ZE:Hid (Kept aC w w5):=xU.out.step K5 (fun y hy=>.inr (by rcases hy with rfl|⟨h,_⟩<;>omega))
  have H5:=ah B5
  clear B5 K5
  go_wp2_with fail
  refine (Tryz.Builder_Len_f w2.heap.size w2.heap.size _ w5 H5.out).mono ?_
  rintro e w' ⟨rfl,rfl⟩
  rw [Lib.byteCells_length]
  by_cases hl:65536<(aG p 2).length
  ·have hl1:decide ((65536:Int)<((aG p 2).length:Int))=true:=ak (by omega)
   have hr:fQ p=([],4):=by unfold fQ;rw [if_neg (by simp [hw0]),if_pos hl]
   have HR:=ah hr
   clear hr hlen
   go_wp2_with fail
   exact bodyPost_ret (v:=.tuple #[.string ⟨#[]⟩,.int .i64 4]) (by simp [results,Tryz.results14,go_sem]) rfl ⟨by rw [HR.out],ZE.out⟩
  ·have hl1:decide ((65536:Int)<((aG p 2).length:Int))=false:=au (by omega)
   have hr:fQ p=(aG p 2,0):=by unfold fQ;rw [if_neg (by simp [hw0]),if_neg hl]
   have HR:=ah hr
   clear hr hlen
   go_wp2_with fail
   refine (Tryz.Builder_String_any_f w2.heap.size w2.heap.size (aG p 2) w' H5.out (by omega)).mono ?_
   rintro e w6 ⟨rfl,_,hb6⟩
   have Ns:Hid (Kept aC w w6):=ZE.out.step (Y:=fun y=>w2.heap.size≤y) ⟨hb6.os,hb6.tape,hb6.output,hb6.size,fun k hk hy=>hb6.block k (by omega)⟩ (fun y hy=>.inr (by omega))
   clear hb6
   go_wp2_with fail
   exact bodyPost_ret (v:=.tuple #[.string ⟨(aG p 2).toArray⟩,.int .i64 0]) (by simp [results,Tryz.results14,go_sem]) rfl ⟨by rw [HR.out],Ns.out⟩
 ·have hb:(bW p != 0)=true:=by simpa using hw
  have hr:fQ p=([],bW p):=by unfold fQ;rw [if_pos hw]
  have HR:=ah hr
  clear hr K2
  go_wp2_with fail
  exact bodyPost_ret (v:=.tuple #[.string ⟨#[]⟩,.int .i64 (bW p)]) (by simp [results,Tryz.results14,go_sem]) rfl ⟨by rw [HR.out],KK2.out⟩
end Go.Proofs.YtefjbnhpjdhjmaaGreatDoor

namespace Go.Proofs.YtefjbnhpjdhjmaaGreatDoor
set_option linter.all false
open Go.RowKit
def DU (ops:Array Oper) (n:Nat):Bool :=
 (List.range ops.size).all fun i=>match ops[i]? with
  | none=>false
  | some o=>(match o.dst with
    | none=>true
    | some d=>decide (d<n)&&(List.range ops.size).all fun j=>decide (j=i)||(match ops[j]? with|some p=>p.dst != some d|none=>true))
    && o.after.toList.all fun e=>decide (e.on<i)||!(Region.binds .any e)
section
variable {P:Program} {ops:Array Oper} {Q:Exit→Act→World→Prop}
theorem Kv {n i:Nat} {o:Oper} (h:DU ops n=true) (ho:ops[i]?=some o) :
  (∀d,o.dst=some d→d<n∧∀j p,ops[j]?=some p→j≠i→p.dst≠some d)∧∀e∈o.after,Region.binds .any e=true→e.on<i:=by
 have hi:i<ops.size:=(Array.getElem?_eq_some_iff.1 ho).1
 unfold DU at h
 have h1:=List.all_eq_true.1 h i (List.mem_range.2 hi)
 simp only [ho,Bool.and_eq_true] at h1
 obtain ⟨h3,h4⟩:=h1
 refine ⟨fun d hd=>?_,fun e he hb=>?_⟩
 ·rw [hd] at h3
  simp only [Bool.and_eq_true,decide_eq_true_eq] at h3
  refine ⟨h3.1,fun j p hj hji=>?_⟩
  have hjs:j<ops.size:=(Array.getElem?_eq_some_iff.1 hj).1
  have h5:=List.all_eq_true.1 h3.2 j (List.mem_range.2 hjs)
  simp only [Bool.or_eq_true,decide_eq_true_eq,hj] at h5
  rcases h5 with h5|h5
  ·exact absurd h5 hji
  ·simpa using h5
 ·have:=List.all_eq_true.1 h4 e (by simpa using he)
  simpa [hb] using this
theorem yG.aeA {X:Nat→Prop} {Spec:Nat→Value→World→Prop} {a0:Act} {w0:World} {l l':Nat→Bool} {a:Act} {w w':World} {i:Nat} {o:Oper} {v:Value}
  (hok:DU ops a0.tmps.size=true) (hst:∀i v w w',Spec i v w→Kept X w w'→Spec i v w') (h:yG X ops Spec a0 w0 l a w) (ho:ops[i]?=some o)
  (hv:∀d,o.dst=some d→Spec i v w') (hk:Kept X w w') (hl:∀j,l' j=true↔j=i∨l j=true) (haft:∀e∈o.after,Region.binds .any e=true→l e.on=true):yG X ops Spec a0 w0 l' (a.put o.dst v) w':=by
 obtain ⟨hd,_⟩:=Kv hok ho
 refine ⟨h.kept.trans hk,?_,?_,fun t ht=>?_,fun j p d hj hlj xP=>?_,fun j p d hj hlj xP=>?_,fun j p hj hlj e he hb=>?_⟩
 ·unfold Act.put;cases o.dst<;>exact h.defers
 ·unfold Act.put;cases o.dst
  ·exact h.size
  ·simp only [Array.size_setIfInBounds];exact h.size
 ·rw [←h.rest t ht]
  unfold Act.put
  cases hdst:o.dst with
  | none=>rfl
  | some d =>
   have hne:d≠t:=fun e=>ht i o ho (by rw [hdst,e])
   simp only [Array.getD_eq_getD_getElem?,Array.getElem?_setIfInBounds_ne hne]
 ·by_cases hji:j=i
  ·subst hji
   rw [ho] at hj;cases hj
   unfold Act.put
   rw [xP]
   simp only [Array.getD_eq_getD_getElem?,Array.getElem?_setIfInBounds_self_of_lt (show d<a.tmps.size by rw [h.size];exact (hd d xP).1),Option.getD_some]
   exact hv d xP
  ·have hold:=hst _ _ _ _ (h.done j p d hj (((hl j).1 hlj).resolve_left hji) xP) hk
   unfold Act.put
   cases hdst:o.dst with
   | none=>exact hold
   | some d' =>
    have hne:d'≠d:=fun e=>(hd d' hdst).2 j p hj hji (by rw [xP,e])
    simp only [Array.getD_eq_getD_getElem?,Array.getElem?_setIfInBounds_ne hne] at hold⊢
    exact hold
 ·have XT:l j=false:=by
   cases hx:l j with
   | false=>rfl
   | true=>rw [(hl j).2 (.inr hx)] at hlj;cases hlj
  have hji:j≠i:=fun e=>by rw [(hl j).2 (.inl e)] at hlj;cases hlj
  rw [←h.todo j p d hj XT xP]
  unfold Act.put
  cases hdst:o.dst with
  | none=>rfl
  | some d' =>
   have hne:d'≠d:=fun e=>(hd d' hdst).2 j p hj hji (by rw [xP,e])
   simp only [Array.getD_eq_getD_getElem?,Array.getElem?_setIfInBounds_ne hne]
 ·rcases (hl j).1 hlj with rfl|hx
  ·rw [ho] at hj;cases hj
   exact (hl _).2 (.inr (haft e he hb))
  ·exact (hl _).2 (.inr (h.closed j p hj hx e he hb))
theorem Ru (X:Nat→Prop) (J:(Nat→Bool)→(Nat→Value)→World→Prop) (Spec:Nat→Value→World→Prop) {id:Nat} {a0:Act} {w0:World} (hm:P.follows .mixedOrders=true) (hok:DU ops a0.tmps.size=true)
  (hst:∀i v w w',Spec i v w→Kept X w w'→Spec i v w')
  (hstep:∀(i:Nat) (o:Oper),ops[i]?=some o→∀(l:Nat→Bool) (a:Act) (w:World),yG X ops Spec a0 w0 l a w→J l (fun t=>a.tmps.getD t undef) w→l i=false→(∀e∈o.after,l e.on=true∨Region.binds .any e=false)→
   if Region.wanted o (yielded ops a.tmps)=true then o.wp P a w (fun a' w'=>∃v,a'=a.put o.dst v∧(∀d,o.dst=some d→Spec i v w')∧Kept X w w'∧∀l',(∀j,l' j=true↔j=i∨l j=true)→J l' (fun t=>(a.put o.dst v).tmps.getD t undef) w') Q
   else (∀d,o.dst=some d→Spec i undef w)∧∀l',(∀j,l' j=true↔j=i∨l j=true)→J l' (fun t=>(a.put o.dst undef).tmps.getD t undef) w)
  (hJ0:∀l:Nat→Bool,(∀i,i<ops.size→l i=false)→J l (fun t=>a0.tmps.getD t undef) w0.drew) (hJe:∀(l l':Nat→Bool) f w,(∀i,i<ops.size→l i=l' i)→J l f w→J l' f w)
  (hend:∀(a:Act) (w:World),yG X ops Spec a0 w0 (fun _=>true) a w→J (fun _=>true) (fun t=>a.tmps.getD t undef) w→Q .normal a w):(Code.region id ops true).wp P Q a0 w0:=by
 refine wp_region_any hm ?_
 have hall:∀(l:Array Bool),l.size=ops.size→Region.ready .any ops l=[]→∀i,i<ops.size→l.getD i true=true:=by
  intro l hls hr i
  induction i using Nat.strongRecOn with
  | _ i ih =>
   intro hi
   cases hg:l.getD i true with
   | true=>rfl
   | false =>
    exfalso
    have ho:ops[i]?=some ops[i]:=Array.getElem?_eq_getElem hi
    have hm':i∈Region.ready .any ops l:=mem_ready.2 ⟨hg,ops[i],ho,fun e he hbe=>by
     have hlt:=(Kv hok ho).2 e he hbe
     have:=ih e.on hlt (by omega)
     rw [Array.getD_eq_getD_getElem?] at this⊢
     rw [Array.getElem?_eq_getElem (by omega)] at this⊢
     exact this⟩
    rw [hr] at hm';cases hm'
 have main:∀(fuel:Nat) (l:Array Bool) (a:Act) (w:World),l.size=ops.size→(List.range ops.size).countP (fun i=>!l.getD i true)≤fuel→
   yG X ops Spec a0 w0 (fun i=>l.getD i true) a w→J (fun i=>l.getD i true) (fun t=>a.tmps.getD t undef) w→wpAny P .any ops Q fuel l a w:=by
  intro fuel
  have fin:∀(l:Array Bool) (a:Act) (w:World),l.size=ops.size→Region.ready .any ops l=[]→yG X ops Spec a0 w0 (fun i=>l.getD i true) a w→J (fun i=>l.getD i true) (fun t=>a.tmps.getD t undef) w→Q .normal a w :=
   fun l a w hls hr h hj=>hend a w ⟨h.kept,h.defers,h.size,h.rest,fun i o d ho _ hd=>h.done i o d ho (hall l hls hr i (Array.getElem?_eq_some_iff.1 ho).1) hd,fun _ _ _ _ h=>(by cases h),fun _ _ _ _ _ _ _=>rfl⟩ (hJe _ _ _ _ (fun i hi=>hall l hls hr i hi) hj)
  induction fuel with
  | zero =>
   intro l a w hls hc h hj
   have hr:Region.ready .any ops l=[]:=List.eq_nil_iff_forall_not_mem.2 fun i hi=>by
    obtain ⟨hg,o,ho,_⟩:=mem_ready.1 hi
    have hlt:=(Array.getElem?_eq_some_iff.1 ho).1
    have h0:(List.range ops.size).countP (fun i=>!l.getD i true)=0:=by omega
    have:=List.countP_eq_zero.1 h0 i (List.mem_range.2 hlt)
    rw [hg] at this;exact this rfl
   exact ⟨hr,fin l a w hls hr h hj⟩
  | succ fuel ih =>
   intro l a w hls hc h hj
   refine ⟨fun hr=>fin l a w hls hr h hj,fun i hi=>?_⟩
   obtain ⟨hg,o,ho,haft⟩:=mem_ready.1 hi
   have hlt:=(Array.getElem?_eq_some_iff.1 ho).1
   have cont:∀(v:Value) (w':World),(∀d,o.dst=some d→Spec i v w')→Kept X w w'→(∀l',(∀j,l' j=true↔j=i∨l.getD j true=true)→J l' (fun t=>(a.put o.dst v).tmps.getD t undef) w')→wpAny P .any ops Q fuel (l.setIfInBounds i true) (a.put o.dst v) w':=by
    intro v w' hv hk hj'
    have hset:∀j,(l.setIfInBounds i true).getD j true=true↔j=i∨l.getD j true=true:=by
     intro j
     by_cases hji:j=i
     ·subst hji
      simp only [Array.getD_eq_getD_getElem?,Array.getElem?_setIfInBounds_self_of_lt (show j<l.size by omega),Option.getD_some,true_or]
     ·simp only [Array.getD_eq_getD_getElem?,Array.getElem?_setIfInBounds_ne (Ne.symm hji),hji,false_or]
    refine ih _ _ _ (by rw [Array.size_setIfInBounds];exact hls) ?_ (h.aeA hok hst ho hv hk (fun j=>hset j) fun e he hb=>?_) (hj' _ fun j=>hset j)
    rotate_left
    ·have:=haft e he hb
     rw [Array.getD_eq_getD_getElem?] at this⊢
     cases hx:l[e.on]? with
     | none=>rw [hx] at this;cases this
     | some b=>rw [hx] at this;simpa using this
    have hc2:(List.range ops.size).countP (fun j=>!(l.setIfInBounds i true).getD j true)+1≤(List.range ops.size).countP (fun j=>!l.getD j true):=by
     have key:∀(r:List Nat),r.Nodup→(r.countP (fun j=>!(l.setIfInBounds i true).getD j true))+(if i∈r then 1 else 0)=r.countP (fun j=>!l.getD j true):=by
      intro r
      induction r with
      | nil=>intro _;rfl
      | cons j r ihr =>
       intro hn
       obtain ⟨hj1,hj2⟩:=List.nodup_cons.1 hn
       have ihr:=ihr hj2
       simp only [List.countP_cons,List.mem_cons]
       by_cases hji:j=i
       ·subst hji
        rw [if_neg hj1] at ihr
        have e1:(l.setIfInBounds j true).getD j true=true:=(hset j).2 (.inl rfl)
        rw [e1,hg]
        simp only [Bool.not_true,Bool.not_false,Bool.false_eq_true,if_false,if_true,true_or]
        omega
       ·have e1:(l.setIfInBounds i true).getD j true=l.getD j true:=by
         simp only [Array.getD_eq_getD_getElem?,Array.getElem?_setIfInBounds_ne (Ne.symm hji)]
        have e2:(i=j∨i∈r)↔i∈r:=⟨fun h=>h.resolve_left (Ne.symm hji),.inr⟩
        rw [e1]
        simp only [e2];omega
     have:=key (List.range ops.size) List.nodup_range
     rw [if_pos (List.mem_range.2 hlt)] at this
     omega
    omega
   have hs:=hstep i o ho (fun i=>l.getD i true) a w h hj hg fun e he=>by
     cases hb:Region.binds .any e with
     | false=>exact .inr rfl
     | true =>
      left
      have:=haft e he hb
      rw [Array.getD_eq_getD_getElem?] at this⊢
      cases hx:l[e.on]? with
      | none=>rw [hx] at this;cases this
      | some b=>rw [hx] at this;simpa using this
   unfold wpOp
   simp only [ho]
   by_cases hw:Region.wanted o (yielded ops a.tmps)=true
   ·rw [if_pos hw] at hs⊢
    refine .inl (Oper.wp_mono ?_ hs)
    rintro a' w' ⟨v,rfl,hv,hk,hj'⟩
    exact cont v w' hv hk hj'
   ·rw [if_neg hw] at hs⊢
    exact cont undef w hs.1 (Kept.refl _ _) hs.2
 refine main _ _ _ _ (by simp) ?_ ⟨(Kept.refl X w0).drew,rfl,rfl,fun _ _=>rfl,fun i o d ho hl _=>?_,fun _ _ _ _ _ _=>rfl,fun i o ho hl=>?_⟩ (hJ0 _ fun i hi=>by simp [Array.getD_eq_getD_getElem?,hi])
 ·exact Nat.le_trans List.countP_le_length (by simp)
 all_goals
  exfalso
  have hlt:=(Array.getElem?_eq_some_iff.1 ho).1
  simp [Array.getD_eq_getD_getElem?,hlt] at hl
theorem mW (X:Nat→Prop) (J:(Nat→Bool)→(Nat→Value)→World→Prop) (Spec:Nat→Value→World→Prop) {id:Nat} {a0:Act} {w0:World} (ds:List Nat) (hds:ops.toList.filterMap (·.dst)=ds) (hm:P.follows .mixedOrders=true) (hok:DU ops a0.tmps.size=true)
  (hst:∀i v w w',Spec i v w→Kept X w w'→Spec i v w')
  (hstep:∀(i:Nat) (o:Oper),ops[i]?=some o→∀(l:Nat→Bool) (a:Act) (w:World),yG X ops Spec a0 w0 l a w→J l (fun t=>a.tmps.getD t undef) w→l i=false→(∀e∈o.after,l e.on=true∨Region.binds .any e=false)→
   if Region.wanted o (yielded ops a.tmps)=true then o.wp P a w (fun a' w'=>∃v,a'=a.put o.dst v∧(∀d,o.dst=some d→Spec i v w')∧Kept X w w'∧∀l',(∀j,l' j=true↔j=i∨l j=true)→J l' (fun t=>(a.put o.dst v).tmps.getD t undef) w') Q
   else (∀d,o.dst=some d→Spec i undef w)∧∀l',(∀j,l' j=true↔j=i∨l j=true)→J l' (fun t=>(a.put o.dst undef).tmps.getD t undef) w)
  (hJ0:∀l:Nat→Bool,(∀i,i<ops.size→l i=false)→J l (fun t=>a0.tmps.getD t undef) w0.drew) (hJe:∀(l l':Nat→Bool) f w,(∀i,i<ops.size→l i=l' i)→J l f w→J l' f w)
  (hend:∀(f:Nat→Value) (w:World),Kept X w0 w→(∀(i:Nat) (o:Oper) (d:Nat),ops[i]?=some o→o.dst=some d→Spec i (f d) w)→J (fun _=>true) f w→Q .normal ⟨jP f a0.tmps ds,a0.defers⟩ w):(Code.region id ops true).wp P Q a0 w0:=by
 refine Ru X J Spec hm hok hst hstep hJ0 hJe fun a w h hj=>?_
 rw [h.act ds hds]
 exact hend _ w h.kept (fun i o d ho hd=>h.done i o d ho rfl hd) hj
theorem cu {o:Oper} {a:Act} {p q:Prop} (h:o.guard=none) (hp:p):if Region.wanted o (yielded ops a.tmps)=true then p else q:=by
 rw [if_pos (by simp [Region.wanted,h])];exact hp
theorem kZ {J:(Nat→Bool)→(Nat→Value)→World→Prop} {X:Nat→Prop} {l:Nat→Bool} {i:Nat} {o:Oper} {x:Act} {w w':World} {R:Nat→Value→World→Prop} (hr:(execOp x.eval o).run P w=.ok .skip w') (hd:o.dst=none) (hk:Kept X w w')
  (hj:∀l',(∀j,l' j=true↔j=i∨l j=true)→J l' (fun t=>(x.put o.dst undef).tmps.getD t undef) w') :
  o.wp P x w (fun a' w'=>∃v,a'=x.put o.dst v∧(∀d,o.dst=some d→R i v w')∧Kept X w w'∧∀l',(∀j,l' j=true↔j=i∨l j=true)→J l' (fun t=>(x.put o.dst v).tmps.getD t undef) w') Q:=by
 unfold Oper.wp
 rw [hr]
 exact ⟨undef,by first|rfl|(rw [hd];rfl),fun d (h:o.dst=some d)=>(by rw [hd] at h;cases h),hk,hj⟩
theorem uK {J:(Nat→Bool)→(Nat→Value)→World→Prop} {X:Nat→Prop} {l:Nat→Bool} {i:Nat} {o:Oper} {x:Act} {w:World} {R:Nat→Value→World→Prop} {F:World→Prop} (hr:∃w',(execOp x.eval o).run P w=.ok .skip w'∧F w') (hd:o.dst=none) (hk:∀w',F w'→Kept X w w')
  (hj:∀w',F w'→∀l',(∀j,l' j=true↔j=i∨l j=true)→J l' (fun t=>(x.put o.dst undef).tmps.getD t undef) w') :
  o.wp P x w (fun a' w'=>∃v,a'=x.put o.dst v∧(∀d,o.dst=some d→R i v w')∧Kept X w w'∧∀l',(∀j,l' j=true↔j=i∨l j=true)→J l' (fun t=>(x.put o.dst v).tmps.getD t undef) w') Q:=by
 obtain ⟨w',hr,hf⟩:=hr
 exact kZ hr hd (hk w' hf) (hj w' hf)
theorem Kw {J:(Nat→Bool)→(Nat→Value)→World→Prop} {X:Nat→Prop} {l:Nat→Bool} {i:Nat} {o:Oper} {x:Act} {w:World} {f:FuncId} {args:Array Value} {R:Nat→Value→World→Prop} (hr:(execOp x.eval o).run P w=.ok (.enter f args) w)
  (hc:Calls P f args w fun e w'=>(∃v,e=.returned v∧R i v w'∧Kept X w w'∧∀l',(∀j,l' j=true↔j=i∨l j=true)→J l' (fun t=>(x.put o.dst v).tmps.getD t undef) w')∨∃ps,e=.panicked ps∧Q (.panic ps) x w') :
  o.wp P x w (fun a' w'=>∃v,a'=x.put o.dst v∧(∀d,o.dst=some d→R i v w')∧Kept X w w'∧∀l',(∀j,l' j=true↔j=i∨l j=true)→J l' (fun t=>(x.put o.dst v).tmps.getD t undef) w') Q:=by
 unfold Oper.wp
 rw [hr]
 refine Calls.mono hc ?_
 rintro e w' (⟨v,rfl,hs,hk,hj⟩|⟨ps,rfl,hq⟩)
 ·exact ⟨v,rfl,fun _ _=>hs,hk,hj⟩
 ·exact hq
end
end Go.Proofs.YtefjbnhpjdhjmaaGreatDoor
