/-  -/
import Derived.Test.YtefjbnhpjdhjmaaGreatDoorTm11
import Derived.Test.YtefjbnhpjdhjmaaGreatDoorTm19
import Derived.Test.YtefjbnhpjdhjmaaGreatDoorTm5
import Derived.Deep.RegionLaw
import Derived.Test.YtefjbnhpjdhjmaaGreatDoorTm13
import Derived.Lib.Join
namespace Go.Proofs.YtefjbnhpjdhjmaaGreatDoor
set_option linter.all false
open Go.RowKit
structure jK (S:Nat→Prop) (p:aA) (ka:Option Addr) (cap:Nat) (w:World) (t:aj) (n:Int) (nm:aj) (l:List aA) (v:Value) (wx:World):Prop where
 box:Five w.heap.size (.int .i64 p.kind) (.string p.text) (.int .i64 p.n) (.string p.name) (.slice ka p.kids.length cap) wx
 zero:uJ (w.heap.size+1) wx
 out:Five (w.heap.size+2) (.int .i64 p.kind) (.string t) (.int .i64 n) (.string nm) v wx
 own:∃(cs:List Value) (S':Nat→Prop),cZ wx (w.heap.size+3) 27 5 v l.length cs∧gB wx S' cs l∧∀b,S' b→w.heap.size+2<b∧b<wx.heap.size∧v.ownBlock≠some b
 kids:aI wx S ka p.kids
 kept:Kept aF w wx
 safe:Safe S aF w.heap.size
theorem jK.next {S:Nat→Prop} {p:aA} {ka:Option Addr} {cap:Nat} {w:World} {t:aj} {n:Int} {nm:aj} {l:List aA} {v:Value} {wx w':World} (h:jK S p ka cap w t n nm l v wx) (k:Kept aF wx w'):jK S p ka cap w t n nm l v w':=by
 obtain ⟨cs,S',h1,h2,h3⟩:=h.own
 exact ⟨h.box.kept k (fun h=>h),Five.kept h.zero k (fun h=>h),h.out.kept k (fun h=>h),⟨cs,S',h1.kept k (fun _ _ h=>h),h2.kept k (fun b hb=>⟨(h3 b hb).2.1,fun h=>h⟩),fun b hb=>⟨(h3 b hb).1,Nat.lt_of_lt_of_le (h3 b hb).2.1 k.size,(h3 b hb).2.2⟩⟩,h.kids.kept k (h.safe.mono h.kept.size),h.kept.trans k,h.safe⟩
theorem jK.start {S:Nat→Prop} {p:aA} {ka:Option Addr} {cap:Nat} {w:World} (hk:aI w S ka p.kids) (hs:Safe S aF w.heap.size) :
  jK S p ka cap w ⟨#[]⟩ 0 ⟨#[]⟩ [] (.slice none 0 0) (((w.alloc (.cells #[.int .i64 p.kind,.string p.text,.int .i64 p.n,.string p.name,.slice ka p.kids.length cap] 27)).alloc (.cells #[.int .i64 0,.string ⟨#[]⟩,.int .i64 0,.string ⟨#[]⟩,.slice none 0 0] 27)).alloc (.cells #[.int .i64 p.kind,.string ⟨#[]⟩,.int .i64 0,.string ⟨#[]⟩,.slice none 0 0] 27)):=by
 refine ⟨Five.kept (ay w _) (((Kept.refl aF _).alloc _).alloc _) (fun h=>h),Five.kept (dK (by simp)) ((Kept.refl aF _).alloc _) (fun h=>h),dK (by simp),⟨[],aF,cZ.nil _ _ _ _,by rw [gB],fun b hb=>hb.elim⟩,hk.kept ((((Kept.refl aF _).alloc _).alloc _).alloc _) hs,(((Kept.refl aF _).alloc _).alloc _).alloc _,hs⟩
theorem jK.put {S:Nat→Prop} {p:aA} {ka:Option Addr} {cap:Nat} {w:World} {t t':aj} {n n':Int} {nm nm':aj} {wx w':World} (h:jK S p ka cap w t n nm [] (.slice none 0 0) wx) (k:Kept (· = w.heap.size+2) wx w') (F:Five (w.heap.size+2) (.int .i64 p.kind) (.string t') (.int .i64 n') (.string nm') (.slice none 0 0) w') :
  jK S p ka cap w t' n' nm' [] (.slice none 0 0) w' :=
 ⟨h.box.kept k (by omega),Five.kept h.zero k (by omega),F,⟨[],aF,cZ.nil _ _ _ _,by rw [gB],fun b hb=>hb.elim⟩,h.kids.kept k (fun b hb=>⟨Nat.lt_of_lt_of_le (h.safe b hb).1 h.kept.size,by have:=(h.safe b hb).1;omega⟩),h.kept.step k (fun y hy=>.inr (by omega)),h.safe⟩
theorem Five.st {M:Nat} {c0 c1 c2 c3 c4:Value} {w:World} (h:Five M c0 c1 c2 c3 c4 w) (u:Value) :
  Five M c0 u c2 c3 c4 (w.setCell ⟨M,1,none⟩ u)∧Five M c0 c1 u c3 c4 (w.setCell ⟨M,2,none⟩ u)∧Five M c0 c1 c2 u c4 (w.setCell ⟨M,3,none⟩ u)∧Five M c0 c1 c2 c3 u (w.setCell ⟨M,4,none⟩ u):=by
 unfold Five at h⊢
 refine ⟨?_,?_,?_,?_⟩<;>(rw [aN h];rfl)
theorem k1 {M o:Nat} (w:World) (u:Value):Kept (· = M) w (w.setCell ⟨M,o,none⟩ u):=(Kept.refl (· = M) w).setCell (p:=⟨M,o,none⟩) (.inl rfl) u
def lU (p:aA) (w:World) (e:Ending) (w':World):Prop:=∃v,e=.returned v∧gW w.heap.size (aB p) w' v∧Kept aF w w'
def Bh (S:Nat→Prop) (kids:List aA):Prop:=∀(j:Nat) (hj:j<kids.length) (v:Value) (w:World),gZ w S v kids[j]→Safe S aF w.heap.size→Calls Tryz.prog 25 #[v] w (lU kids[j] w)
theorem xH {S:Nat→Prop} {p q:aA} {ka:Option Addr} {cap:Nat} {w:World} {t:aj} {n:Int} {nm:aj} {l:List aA} {v:Value} {w1 w3 w4:World} {a':Option Addr} {c':Nat} {kc:Option Addr} {dR:Nat} {cs:List Value} {S1 S2:Nat→Prop}
  (I:jK S p ka cap w t n nm l v w1) (h1:cZ w1 (w.heap.size+3) 27 5 v l.length cs) (h2:gB w1 S1 cs l) (h3:∀b,S1 b→w.heap.size+2<b∧b<w1.heap.size∧v.ownBlock≠some b)
  (K3:Kept aF w1 w3) (hz:q.text.size<1000000000∧q.name.size<1000000000∧q.kids.length<1000000000) (hS2:∀b,S2 b→w1.heap.size≤b∧b<w3.heap.size) (hq:aI w3 S2 kc q.kids)
  (hw:cZ w4 (w.heap.size+3) 27 5 (.slice a' (l.length+1) c') (l.length+1) (cs++[.int .i64 q.kind,.string q.text,.int .i64 q.n,.string q.name,.slice kc q.kids.length dR])) (hg:(w3.alloc (.cells #[.int .i64 q.kind,.string q.text,.int .i64 q.n,.string q.name,.slice kc q.kids.length dR] 27)).grownBy w4 v.ownBlock)
  (ho:(Value.slice a' (l.length+1) c').ownBlock=v.ownBlock∨(Value.slice a' (l.length+1) c').ownBlock=some (w3.heap.size+1)) :
  jK S p ka cap w t n nm (l++[q]) (.slice a' (l.length+1) c') (w4.setCell ⟨w.heap.size+2,4,none⟩ (.slice a' (l.length+1) c')):=by
 have kA:Kept aF w3 (w3.alloc (.cells #[.int .i64 q.kind,.string q.text,.int .i64 q.n,.string q.name,.slice kc q.kids.length dR] 27)):=(Kept.refl _ _).alloc _
 have hlow:∀b,v.ownBlock=some b→w.heap.size+3≤b∧b<w1.heap.size:=h1.lt
 have hs3:=K3.size
 have hw1:=I.out.lt
 have yZ:Kept (fun b=>v.ownBlock=some b) w3 w4:=(kA.more fun _ h=>h.elim).grown hg fun b hb=>.inl hb
 have zh:Kept (fun b=>v.ownBlock=some b) w1 w4:=(K3.more fun _ h=>h.elim).trans yZ
 have K5:Kept (· = w.heap.size+2) w4 (w4.setCell ⟨w.heap.size+2,4,none⟩ (.slice a' (l.length+1) c')):=k1 _ _
 have hs4:=zh.size
 have Nk:=yZ.size
 have hnew:∀g,(Value.slice a' (l.length+1) c').ownBlock=some g→w.heap.size+3≤g:=fun g hg=>(hw.lt g hg).1
 refine ⟨(I.box.kept zh (fun h=>by have:=hlow _ h;omega)).kept K5 (by omega),Five.kept (Five.kept I.zero zh (fun h=>by have:=hlow _ h;omega)) K5 (by omega),((I.out.kept zh (fun h=>by have:=hlow _ h;omega)).st _).2.2.2,?_,(I.kids.kept zh (fun b hb=>⟨Nat.lt_of_lt_of_le (I.safe b hb).1 I.kept.size,fun h=>by have:=hlow _ h;have:=(I.safe b hb).1;omega⟩)).kept K5 (fun b hb=>⟨by have:=(I.safe b hb).1;omega,by have:=(I.safe b hb).1;omega⟩),(I.kept.step zh (fun y hy=>.inr (by have:=hlow y hy;omega))).step K5 (fun y hy=>.inr (by omega)),I.safe⟩
 refine ⟨_,fun b=>S1 b∨S2 b,by rw [List.length_append];exact hw.kept K5 (fun g hg=>by have:=hnew g hg;omega),?_,fun b hb=>?_⟩
 ·refine gB.kept (X:=(· = w.heap.size+2)) (w:=w4) ?_ K5 (fun b hb=>⟨by rcases hb with hb|hb;exact Nat.lt_of_lt_of_le (h3 b hb).2.1 hs4;exact Nat.lt_of_lt_of_le (hS2 b hb).2 Nk,by rcases hb with hb|hb;have:=h3 b hb;omega;have:=hS2 b hb;omega⟩)
  refine gB.append ?_ ?_
  ·exact (h2.kept zh (fun b hb=>⟨(h3 b hb).2.1,(h3 b hb).2.2⟩)).more fun b h=>.inl h
  ·rw [gB];refine ⟨_,[],(List.append_nil _).symm,⟨kc,dR,rfl,hz,?_⟩,rfl⟩
   exact aI.to hq yZ (fun b hb=>⟨(hS2 b hb).2,fun h=>by have:=hlow b h;have:=(hS2 b hb).1;omega⟩) (fun b h=>.inr h)
 ·have hs5:=K5.size
  rcases hb with hb|hb
  ·have:=h3 b hb
   refine ⟨this.1,by omega,?_⟩
   rcases ho with h|h
   ·rw [h];exact this.2.2
   ·rw [h];simp;omega
  ·have:=hS2 b hb
   refine ⟨by omega,by omega,?_⟩
   rcases ho with h|h
   ·rw [h];intro h';have:=hlow b h';omega
   ·rw [h];simp;omega
theorem jK.pats {S:Nat→Prop} {p:aA} {ka:Option Addr} {cap:Nat} {w:World} {t:aj} {n:Int} {nm:aj} {l:List aA} {a:Option Addr} {c:Nat} {wx:World} (h:jK S p ka cap w t n nm l (.slice a l.length c) wx) :
  ∃S':Nat→Prop,aI wx S' a l∧∀b,S' b→w.heap.size+2<b∧b<wx.heap.size:=by
 obtain ⟨cs,S',h1,h2,h3⟩:=h.own
 rcases h1.cells with ⟨hv,hn⟩|⟨g,o,c',hv,hg1,hg2,_,_,hc⟩
 ·obtain rfl:=List.length_eq_zero_iff.1 hn
  exact ⟨aF,by unfold aI;trivial,fun b hb=>hb.elim⟩
 ·simp only [Value.slice.injEq,true_and] at hv
  obtain ⟨rfl,rfl⟩:=hv
  refine ⟨fun b=>S' b∨b=g,h2.pats g o (fun j u hu=>(hc j u hu).1),fun b hb=>?_⟩
  rcases hb with hb|rfl
  ·exact ⟨(h3 b hb).1,(h3 b hb).2.1⟩
  ·omega
theorem zi {f:Func} (hres:f.results = #[.cell 2 27]) {tmps:Array Value} {S:Nat→Prop} {p:aA} {ka:Option Addr} {cap:Nat} {w wx:World} {k:Int} {t:aj} {n:Int} {nm:aj} {l:List aA} {a:Option Addr} {c:Nat}
  (ht:tmps.getD 2 undef=.pointer (some ⟨w.heap.size+1,0,none⟩)) (I:jK S p ka cap w t n nm l (.slice a l.length c) wx) (hb:aB p=.mk k t n nm l) (hk:p.kind=k) (hz:t.size<1000000000∧nm.size<1000000000∧l.length<1000000000) :
  bodyPost Tryz.prog f (lU p w) .ret ⟨tmps,[]⟩ (bI wx (w.heap.size+1) (.int .i64 k) (.string t) (.int .i64 n) (.string nm) (.slice a l.length c)):=by
 obtain ⟨S',hp,hS⟩:=I.pats
 have K:Kept (· = w.heap.size+1) wx (bI wx (w.heap.size+1) (.int .i64 k) (.string t) (.int .i64 n) (.string nm) (.slice a l.length c)):=(Kept.refl (· = w.heap.size+1) wx).bI (.inl rfl) _ _ _ _ _
 obtain ⟨h0,h1,h2,h3,h4,_⟩:=Five.cells (Five.bI I.zero (.int .i64 k) (.string t) (.int .i64 n) (.string nm) (.slice a l.length c))
 have ht':tmps[2]?.getD undef=.pointer (some ⟨w.heap.size+1,0,none⟩):=by rw [←ht,Array.getD_eq_getD_getElem?]
 refine bodyPost_ret (v:=.agg #[.int .i64 k,.string t,.int .i64 n,.string nm,.slice a l.length c]) (by simp [results,hres,go_sem,ht',h0,h1,h2,h3,h4]) rfl ⟨_,rfl,?_,I.kept.step K (fun y hy=>.inr (by omega))⟩
 rw [hb]
 exact ⟨S',fun b hb=>⟨by have:=hS b hb;omega,Nat.lt_of_lt_of_le (hS b hb).2 K.size⟩,a,c,rfl,hz,hp.kept K (fun b hb=>⟨(hS b hb).2,by have:=hS b hb;omega⟩)⟩
theorem vS (l:List aA) (j:Nat) (hj:j<l.length):dw (l.take (j+1))=dw (l.take j)++[aB l[j]]:=by
 induction l generalizing j with
 | nil=>simp at hj
 | cons p ps ih =>
  cases j with
  | zero=>simp [dw]
  | succ j=>simp only [List.take_succ_cons,dw,List.cons_append,List.getElem_cons_succ];rw [ih j (by simpa using hj)]
end Go.Proofs.YtefjbnhpjdhjmaaGreatDoor

namespace Go.Proofs.YtefjbnhpjdhjmaaGreatDoor
set_option linter.all false
open Go.RowKit
theorem Fg:∀(N:Nat) (p:aA),sizeT p≤N→wR p→∃c t,aG p 0=c::t∧starts (c.toNat:Int)=true∧c≠32:=by
 intro N
 induction N with
 | zero=>intro p h;have:=mF p;omega
 | succ N ih =>
  intro p hN hok
  obtain ⟨k,t,n,nm,kids⟩:=p
  have hn:=hok.self
  obtain ⟨⟨h1,h24⟩,_,_,_,hk1⟩:=jF hn
  have wd:∀(kk:Nat) (m:List UInt8),kk∈lN→∃c t,fK kk++m=c::t∧starts (c.toNat:Int)=true∧c≠32:=by
   intro kk m hkk
   obtain ⟨c,l,e,hc,_,_⟩:=Dc kk hkk
   rw [e]
   refine ⟨c,l++m,rfl,?_,?_⟩
   ·unfold starts;simp only [Bool.or_eq_true,Bool.and_eq_true,decide_eq_true_eq];right;omega
   ·intro e;subst e;revert hc;decide
  have kid:20<k→k≤22→∀m,∃c t,qm kids 0++m=c::t∧starts (c.toNat:Int)=true∧c≠32:=by
   intro ha hb m
   match kids,hk1 (by omega),hok.kids,hN with
   | [q],_,hkq,hN =>
    obtain ⟨c,t,e,h2,h3⟩:=ih q (by simp only [sizeT,aO] at hN;omega) hkq.head
    rw [qm,e];exact ⟨c,t++m,rfl,h2,h3⟩
  by_cases c1:k=1
  ·subst c1;rw [aG,if_pos rfl];exact ⟨39,_,rfl,by decide,by decide⟩
  rw [aG,if_neg c1]
  by_cases c2:aT k
  ·rw [if_pos c2]
   unfold aT at c2
   obtain ⟨kk,rfl⟩:∃kk:Nat,k=kk:=⟨k.toNat,by omega⟩
   exact wd kk _ (by simp [lN];omega)
  rw [if_neg c2]
  by_cases c3:bD k
  ·rw [if_pos c3]
   unfold bD at c3
   obtain ⟨kk,rfl⟩:∃kk:Nat,k=kk:=⟨k.toNat,by omega⟩
   exact wd kk _ (by simp [lN];omega)
  rw [if_neg c3]
  unfold aT at c2;unfold bD at c3
  by_cases c4:k=20
  ·rw [if_pos c4];exact ⟨65,_,rfl,by decide,by decide⟩
  rw [if_neg c4]
  by_cases c5:k=21
  ·rw [if_pos c5];exact kid (by omega) (by omega) _
  rw [if_neg c5]
  by_cases c6:k=22
  ·rw [if_pos c6];exact kid (by omega) (by omega) _
  rw [if_neg c6]
  by_cases c7:k=23
  ·rw [if_pos c7];exact ⟨64,_,rfl,by decide,by decide⟩
  rw [if_neg c7]
  by_cases c8:k=24
  ·rw [if_pos c8];exact ⟨42,_,rfl,by decide,by decide⟩
  rw [if_neg c8]
  by_cases c9:k=18
  ·rw [if_pos c9];exact ⟨40,_,rfl,by decide,by decide⟩
  rw [if_neg c9]
  by_cases c10:k=19
  ·rw [if_pos c10];exact ⟨40,_,rfl,by decide,by decide⟩
  rw [if_neg c10]
  obtain ⟨kk,rfl⟩:∃kk:Nat,k=kk:=⟨k.toNat,by omega⟩
  have:=wd kk [] (by simp [lN];omega)
  rwa [List.append_nil] at this
theorem Ie {s:aj} {inner:Nat→bT aA} {p:aA} (h:jm s inner p) {i:Nat} {r:List UInt8} (hh:Has s i (aG p 0) r) (hf:sV r) (hg:xY s (i+(aG p 0).length)):iE inner s i=.ok (aB p,skip s (i+(aG p 0).length)):=by
 rw [h i r hh hf]
 have:=hh.size
 obtain ⟨f,hf⟩:∃f,s.size+1-(i+(aG p 0).length)=f+1:=⟨s.size-(i+(aG p 0).length),by omega⟩
 rw [hf];exact XR (by omega) hg
theorem XZ {s:aj} {inner:Nat→bT aA} {k:Int} {t nm:aj} {n:Int} {q:aA} (hk:k=21∨k=22) (hn:dH (.mk k t n nm [q])=0) (hq:jm s inner q):jm s inner (.mk k t n nm [q]):=by
 have hnm:aS nm=true:=(vK hn).2.1 (by show bf k;unfold bf;omega)
 obtain ⟨c,hc,hs⟩:∃c:UInt8,((c=46∧k=21)∨(c=36∧k=22))∧aG (.mk k t n nm [q]) 0=aG q 0++(32::c::32::nm.data.toList):=by
  rcases hk with rfl|rfl
  ·exact ⟨46,.inl ⟨rfl,rfl⟩,by rw [aG];simp only [qm];rfl⟩
  ·exact ⟨36,.inr ⟨rfl,rfl⟩,by rw [aG];simp only [qm];rfl⟩
 have hb:aB (.mk k t n nm [q])=.mk k E0 0 nm [aB q]:=by
  rw [aB,dw,dw,if_neg (by unfold aT;omega),if_neg (by unfold bD;omega),if_pos (by unfold bf;omega)]
 intro i r h hf
 rw [hs] at h
 rw [hs,hb,hq i _ h.split (sV.sp _)]
 have hnx:=h.next
 have hsz:=hnx.size
 obtain ⟨f,hfe⟩:∃f,s.size+1-(i+(aG q 0).length)=f+1:=⟨s.size-(i+(aG q 0).length),by omega⟩
 rw [hfe,abT hc hnm hnx hf.word,List.length_append]
 rw [←Nat.add_assoc]
 simp only [List.length_cons] at hsz⊢
 exact UQ _ _ _ _ (by omega) (by omega) (by omega)
theorem UU {s:aj} {inner:Nat→bT aA} {t nm:aj} {n:Int} {q:aA} (hq:∀i r,Has s i (aG q 2) r→sV r→Az s (i+(aG q 2).length)→inner i=.ok (aB q,skip s (i+(aG q 2).length))):jm s inner (.mk 20 t n nm [q]):=by
 have hs:aG (.mk 20 t n nm [q]) 0=fK 20++(40::(aG q 2++[41])):=by rw [aG];simp only [qm];rfl
 refine nS fun i r h hf=>?_
 rw [hs] at h⊢
 rw [AL (kk:=20) (by decide) h (UR _),show ((20:Nat):Int)=(20:Int) from rfl]
 have h2:=h.next
 have h3:=h2.tail
 have h4:=h3.next
 have hst:Az s (i+(fK 20).length+1+(aG q 2).length):=.inr (by rw [h4.skip (by decide),h4.peek];rfl)
 unfold kT
 rw [if_neg (by decide),if_neg (by decide),if_neg (by decide),if_pos (by decide)]
 unfold nT
 rw [uV 40 rfl (by decide) h2]
 dsimp only
 rw [hq _ _ h3.split (sV.br _) hst]
 dsimp only
 rw [h4.skip (by decide),uV 41 rfl (by decide) h4]
 have hb:aB (.mk 20 t n nm [q])=.mk 20 E0 0 E0 [aB q]:=by
  rw [aB,dw,dw,if_neg (by decide),if_neg (by decide),if_neg (by decide)]
 have e:i+(fK 20).length+1+(aG q 2).length+1=i+(fK 20++40::(aG q 2++[41])).length:=by simp;omega
 dsimp only
 rw [hb,e]
theorem Qe {s:aj} {inner:Nat→bT aA} {p:aA} (hs:aG p 0=40::(aG p 2++[41])) (hq:∀i r,Has s i (aG p 2) r→sV r→Az s (i+(aG p 2).length)→inner i=.ok (aB p,skip s (i+(aG p 2).length))):jm s inner p:=by
 refine nS fun i r h hf=>?_
 rw [hs] at h⊢
 have h3:=h.tail
 have h4:=h3.next
 have hst:Az s (i+1+(aG p 2).length):=.inr (by rw [h4.skip (by decide),h4.peek];rfl)
 have e:fG 40 s i=(true,i+1):=by unfold fG;rw [h.skip (by decide)];exact if_pos (by rw [h.peek];rfl)
 unfold jL
 rw [e,if_pos rfl]
 dsimp only
 rw [hq _ _ h3.split (sV.br _) hst]
 dsimp only
 rw [h4.skip (by decide),uV 41 rfl (by decide) h4]
 have e:i+1+(aG p 2).length+1=i+(40::(aG p 2++[41])).length:=by simp;omega
 dsimp only
 rw [e]
theorem Dt {ps:List aA} {sep:List UInt8} {i:Nat} {r:List UInt8} (hsep:∃t,sep=32::t) (hf:sV r):sV (bG sep false ps i++r):=by
 obtain ⟨t,rfl⟩:=hsep
 cases ps with
 | nil=>simpa [bG] using hf
 | cons p ps=>rw [bG];exact sV.sp _
theorem Qg {s:aj} {inner:Nat→bT aA}:∀(ps:List aA),(∀q∈ps,jm s inner q∧wR q)→∀(l:List aA) (K k0 f:Nat) (r:List UInt8),Has s k0 (bG [32] false ps 0) r→sV r→yO s (k0+(bG [32] false ps 0).length)→
  skip s K=skip s k0→K≤s.size→s.size+1-K≤f→lX inner s f l K=.ok (rU 18 (l++dw ps),skip s (k0+(bG [32] false ps 0).length))
 | [],_,l,K,k0,f,r,h,hf,hst,hsk,hK,hff=>by
  obtain ⟨f,rfl⟩:∃f',f=f'+1:=⟨f-1,by omega⟩
  have e:k0+(bG [32] false [] 0).length=k0:=by simp [bG]
  rw [e] at hst⊢
  rw [lX,hsk,if_neg (by simp [hst.start]),dw,List.append_nil]
 | q::ps,hps,l,K,k0,f,r,h,hf,hst,hsk,hK,hff=>by
  obtain ⟨hq,hoq⟩:=hps q (by simp)
  obtain ⟨c,t,hc,hcs,hc32⟩:=Fg _ q (Nat.le_refl _) hoq
  obtain ⟨f,rfl⟩:∃f',f=f'+1:=⟨f-1,by omega⟩
  have hj:bG [32] false (q::ps) 0=32::(aG q 0++bG [32] false ps 0):=by rw [bG];rfl
  rw [hj] at h hst⊢
  have h1:=h.tail
  have h2:=h1.split
  have h3:=h1.next
  have hc':=h2;rw [hc] at hc'
  have hcl:=hc'.peek
  have hk1:skip s k0=k0+1:=by rw [wH h.lt (by rw [h.byte];rfl),hc'.skip hc32]
  have aaf:=Dt (ps:=ps) (i:=0) ⟨[],rfl⟩ hf
  have hng:xY s (k0+1+(aG q 0).length):=by
   cases ps with
   | nil =>
    have:k0+(32::(aG q 0++bG [32] false [] 0)).length=k0+1+(aG q 0).length:=by simp [bG];omega
    rw [this] at hst;exact hst.ad4
   | cons q2 ps =>
    obtain ⟨c2,t2,hc2,hs2,aag⟩:=Fg _ q2 (Nat.le_refl _) (hps q2 (by simp)).2
    have hx:bG [32] false (q2::ps) 0=32::c2::(t2++bG [32] false ps 0):=by rw [bG,hc2];rfl
    rw [hx] at h3
    unfold xY
    rw [h3.FP aag,h3.tail.peek]
    constructor<;>intro e<;>rw [e] at hs2<;>revert hs2<;>decide
  have hsz:=h3.size
  have hlen:1≤(aG q 0).length:=by rw [hc];simp
  have hkk:=kJ s K
  have hge:=kJ s (k0+1+(aG q 0).length)
  rw [lX,hsk,hk1,if_pos (by rw [hcl];exact hcs),Ie hq h2 aaf hng]
  dsimp only
  have ih:=Qg ps (fun q hq=>hps q (by simp [hq])) (l++[aB q]) (skip s (k0+1+(aG q 0).length)) (k0+1+(aG q 0).length) f r h3 hf (by
   have:k0+(32::(aG q 0++bG [32] false ps 0)).length=k0+1+(aG q 0).length+(bG [32] false ps 0).length:=by simp;omega
   rw [this] at hst;exact hst) (qM (by omega)) (dB (by omega)) (by omega)
  rw [ih]
  have e1:k0+1+(aG q 0).length+(bG [32] false ps 0).length=k0+(32::(aG q 0++bG [32] false ps 0)).length:=by simp;omega
  rw [e1,dw,List.append_assoc];rfl
end Go.Proofs.YtefjbnhpjdhjmaaGreatDoor

namespace Go.Proofs.YtefjbnhpjdhjmaaGreatDoor
set_option linter.all false
open Go.RowKit
theorem Bc {s:aj} {inner:Nat→bT aA} {p:aA} (h:jm s inner p) (hs:aG p 1=aG p 0):tX s inner p:=by
 intro i r hh hf hst
 rw [hs] at hh hst⊢
 have hsz:=hh.size
 have hge:=kJ s (i+(aG p 0).length)
 have hle:skip s (i+(aG p 0).length)≤s.size:=dB (by omega)
 rw [jl,Ie h hh hf hst.ad4]
 dsimp only
 obtain ⟨f,hfe⟩:∃f,s.size+1-skip s (i+(aG p 0).length)=f+1:=⟨s.size-skip s (i+(aG p 0).length),by omega⟩
 rw [hfe,lX,qM (by omega),if_neg (by simp [hst.start])]
 rfl
theorem Du {s:aj} {inner:Nat→bT aA} {p:aA} (h:tX s inner p) (hs:aG p 2=aG p 1):yV s inner p:=by
 intro i r hh hf hst
 rw [hs] at hh hst⊢
 have hsz:=hh.size
 have hge:=kJ s (i+(aG p 1).length)
 have hle:skip s (i+(aG p 1).length)≤s.size:=dB (by omega)
 have hno:fG 124 s (skip s (i+(aG p 1).length))=(false,skip s (i+(aG p 1).length)):=by
  unfold fG;rw [qM (by omega)]
  exact if_neg (by rcases hst with h|h<;>rw [h]<;>decide)
 rw [ku,h i r hh hf hst.one]
 dsimp only
 obtain ⟨f,hfe⟩:∃f,s.size+1-skip s (i+(aG p 1).length)=f+1:=⟨s.size-skip s (i+(aG p 1).length),by omega⟩
 rw [hfe,lY,hno,if_neg (by simp)]
 rfl
theorem aew {s:aj} {inner:Nat→bT aA} {t nm:aj} {n:Int} {kids:List aA} (h2:2≤kids.length) (hk:∀q∈kids,jm s inner q∧wR q):tX s inner (.mk 18 t n nm kids):=by
 match kids,h2 with
 | q::q2::ps,_ =>
  obtain ⟨hq,hoq⟩:=hk q (by simp)
  intro i r hh hf hst
  have hs:aG (.mk 18 t n nm (q::q2::ps)) 1=aG q 0++bG [32] false (q2::ps) 0:=by rw [aG];show sH (decide (1<1)) _=_;rw [bG];rfl
  rw [hs] at hh hst⊢
  have h3:=hh.next
  obtain ⟨c2,t2,hc2,hs2,aag⟩:=Fg _ q2 (Nat.le_refl _) (hk q2 (by simp)).2
  have hng:xY s (i+(aG q 0).length):=by
   have hx:bG [32] false (q2::ps) 0=32::c2::(t2++bG [32] false ps 0):=by rw [bG,hc2];rfl
   rw [hx] at h3
   unfold xY
   rw [h3.FP aag,h3.tail.peek]
   constructor<;>intro e<;>rw [e] at hs2<;>revert hs2<;>decide
  have hsz:=h3.size
  have hge:=kJ s (i+(aG q 0).length)
  have hle:skip s (i+(aG q 0).length)≤s.size:=dB (by omega)
  rw [jl,Ie hq hh.split (Dt ⟨[],rfl⟩ hf) hng]
  dsimp only
  rw [Qg (q2::ps) (fun x hx=>hk x (by simp at hx⊢;right;exact hx)) [aB q] _ (i+(aG q 0).length) _ r h3 hf (by rw [List.length_append,←Nat.add_assoc] at hst;exact hst) (qM (by omega)) hle (Nat.le_refl _)]
  rw [List.length_append,←Nat.add_assoc]
  have hb:aB (.mk 18 t n nm (q::q2::ps))=.mk 18 E0 0 E0 (aB q::aB q2::dw ps):=by
   rw [aB,dw,dw,if_neg (by decide),if_neg (by decide),if_neg (by decide)]
  rw [hb,dw];rfl
theorem Qh {s:aj} {inner:Nat→bT aA}:∀(ps:List aA),(∀q∈ps,tX s inner q)→∀(l:List aA) (K k0 f:Nat) (r:List UInt8),Has s k0 (bG [32,124,32] false ps 1) r→sV r→Az s (k0+(bG [32,124,32] false ps 1).length)→
  skip s K=skip s k0→K≤s.size→s.size+1-K≤f→lY inner s f l K=.ok (rU 19 (l++dw ps),skip s (k0+(bG [32,124,32] false ps 1).length))
 | [],_,l,K,k0,f,r,h,hf,hst,hsk,hK,hff=>by
  obtain ⟨f,rfl⟩:∃f',f=f'+1:=⟨f-1,by omega⟩
  have e:k0+(bG [32,124,32] false [] 1).length=k0:=by simp [bG]
  rw [e] at hst⊢
  have hno:fG 124 s K=(false,skip s k0):=by unfold fG;rw [hsk];exact if_neg (by rcases hst with h|h<;>rw [h]<;>decide)
  rw [lY,hno,if_neg (by simp),dw,List.append_nil]
 | q::ps,hps,l,K,k0,f,r,h,hf,hst,hsk,hK,hff=>by
  have hq:=hps q (by simp)
  obtain ⟨f,rfl⟩:∃f',f=f'+1:=⟨f-1,by omega⟩
  have hj:bG [32,124,32] false (q::ps) 1=32::124::32::(aG q 1++bG [32,124,32] false ps 1):=by rw [bG];rfl
  rw [hj] at h hst⊢
  have h1:=h.tail.tail
  have h2:=h1.tail.split
  have h3:=h1.tail.next
  have hk1:skip s k0=k0+1:=h.FP (by decide)
  have hyes:fG 124 s K=(true,k0+1+1):=by unfold fG;rw [hsk,hk1];exact if_pos (by rw [h.tail.peek];rfl)
  have hs2:skip s (k0+1+1)=skip s (k0+1+1+1):=wH h1.lt (by rw [h1.byte];rfl)
  have hsz:=h3.size
  have aaf:=Dt (ps:=ps) (i:=1) ⟨[124,32],rfl⟩ hf
  have hst1:yO s (k0+1+1+1+(aG q 1).length):=by
   cases ps with
   | nil =>
    have:k0+(32::124::32::(aG q 1++bG [32,124,32] false [] 1)).length=k0+1+1+1+(aG q 1).length:=by simp [bG];omega
    rw [this] at hst;exact hst.one
   | cons q2 ps =>
    have hx:bG [32,124,32] false (q2::ps) 1=32::124::32::(aG q2 1++bG [32,124,32] false ps 1):=by rw [bG];rfl
    rw [hx] at h3
    exact .inr (.inr (by rw [h3.FP (by decide),h3.tail.peek];rfl))
  have hkk:=kJ s K
  have hge:=kJ s (k0+1+1+1+(aG q 1).length)
  have afy:jl inner s (k0+1+1)=jl inner s (k0+1+1+1):=by rw [←Qd (i:=k0+1+1) (by omega),hs2,Qd (by omega)]
  rw [lY,hyes,if_pos rfl]
  dsimp only
  rw [afy,hq _ _ h2 aaf hst1]
  dsimp only
  have ih:=Qh ps (fun q hq=>hps q (by simp [hq])) (l++[aB q]) (skip s (k0+1+1+1+(aG q 1).length)) (k0+1+1+1+(aG q 1).length) f r h3 hf (by
   have:k0+(32::124::32::(aG q 1++bG [32,124,32] false ps 1)).length=k0+1+1+1+(aG q 1).length+(bG [32,124,32] false ps 1).length:=by simp;omega
   rw [this] at hst;exact hst) (qM (by omega)) (dB (by omega)) (by omega)
  rw [ih]
  have e1:k0+1+1+1+(aG q 1).length+(bG [32,124,32] false ps 1).length=k0+(32::124::32::(aG q 1++bG [32,124,32] false ps 1)).length:=by simp;omega
  rw [e1,dw,List.append_assoc];rfl
theorem aex {s:aj} {inner:Nat→bT aA} {t nm:aj} {n:Int} {kids:List aA} (h2:2≤kids.length) (hk:∀q∈kids,tX s inner q):yV s inner (.mk 19 t n nm kids):=by
 match kids,h2 with
 | q::q2::ps,_ =>
  have hq:=hk q (by simp)
  intro i r hh hf hst
  have hs:aG (.mk 19 t n nm (q::q2::ps)) 2=aG q 1++bG [32,124,32] false (q2::ps) 1:=by rw [aG];show sH (decide (2<2)) _=_;rw [bG];rfl
  rw [hs] at hh hst⊢
  have h3:=hh.next
  have hst1:yO s (i+(aG q 1).length):=by
   have hx:bG [32,124,32] false (q2::ps) 1=32::124::32::(aG q2 1++bG [32,124,32] false ps 1):=by rw [bG];rfl
   rw [hx] at h3
   exact .inr (.inr (by rw [h3.FP (by decide),h3.tail.peek];rfl))
  have hsz:=h3.size
  have hge:=kJ s (i+(aG q 1).length)
  have hle:skip s (i+(aG q 1).length)≤s.size:=dB (by omega)
  rw [ku,hq _ _ hh.split (Dt ⟨[124,32],rfl⟩ hf) hst1]
  dsimp only
  rw [Qh (q2::ps) (fun x hx=>hk x (by simp at hx⊢;right;exact hx)) [aB q] _ (i+(aG q 1).length) _ r h3 hf (by rw [List.length_append,←Nat.add_assoc] at hst;exact hst) (qM (by omega)) hle (Nat.le_refl _)]
  rw [List.length_append,←Nat.add_assoc]
  have hb:aB (.mk 19 t n nm (q::q2::ps))=.mk 19 E0 0 E0 (aB q::aB q2::dw ps):=by
   rw [aB,dw,dw,if_neg (by decide),if_neg (by decide),if_neg (by decide)]
  rw [hb,dw];rfl
end Go.Proofs.YtefjbnhpjdhjmaaGreatDoor

namespace Go.Proofs.YtefjbnhpjdhjmaaGreatDoor
set_option linter.all false
open Go.RowKit
theorem Qi:∀{l:List aA} {q:aA},q∈l→sizeT q≤aO l
 | p::r,q,h=>by
  rw [aO]
  rcases List.mem_cons.1 h with rfl|h
  ·omega
  ·have:=Qi h;omega
theorem MO:∀{l:List aA} {q:aA},q∈l→fA q≤iy l
 | p::r,q,h=>by
  rw [iy]
  rcases List.mem_cons.1 h with rfl|h
  ·omega
  ·have:=MO h;omega
theorem yC.mem:∀{l:List aA} {q:aA},yC l→q∈l→wR q
 | p::r,q,hk,h=>by
  rcases List.mem_cons.1 h with rfl|h
  ·exact hk.head
  ·exact yC.mem hk.tail h
theorem Ig {k:Int} {t nm:aj} {n:Int} {kids:List aA} (h18:¬k=18) (h19:¬k=19) (i j:Nat):aG (.mk k t n nm kids) i=aG (.mk k t n nm kids) j:=by
 rw [aG,aG];simp only [if_neg h18,if_neg h19]
theorem aah {t nm:aj} {n:Int} {kids:List aA}:aG (.mk 18 t n nm kids) 0=40::(aG (.mk 18 t n nm kids) 2++[41]):=by
 rw [aG,aG];rfl
theorem Qj {t nm:aj} {n:Int} {kids:List aA}:aG (.mk 18 t n nm kids) 2=aG (.mk 18 t n nm kids) 1:=by
 rw [aG,aG];rfl
theorem aai {t nm:aj} {n:Int} {kids:List aA}:aG (.mk 19 t n nm kids) 0=40::(aG (.mk 19 t n nm kids) 2++[41]):=by
 rw [aG,aG];rfl
theorem aaj {t nm:aj} {n:Int} {kids:List aA}:aG (.mk 19 t n nm kids) 1=aG (.mk 19 t n nm kids) 0:=by
 rw [aG,aG];rfl
theorem ad8 (s:aj):∀(N:Nat) (p:aA),sizeT p≤N→wR p→∀m,fA p≤m+1→jm s (dX s m) p∧tX s (dX s m) p∧yV s (dX s m) p:=by
 intro N
 induction N with
 | zero=>intro p h;have:=mF p;omega
 | succ N ih =>
  intro p hN hok m hd
  obtain ⟨k,t,n,nm,kids⟩:=p
  have hn:=hok.self
  obtain ⟨⟨h1,h24⟩,_,_,_,hk1⟩:=jF hn
  have hmore:=vK hn
  rw [WA,aA.aV] at hd
  have UW:∀q∈kids,∀m',fA q≤m'+1→jm s (dX s m') q∧tX s (dX s m') q∧yV s (dX s m') q:=fun q hq m' h =>
   ih q (by have:=Qi hq;simp only [sizeT] at hN;omega) (hok.kids.mem hq) m' h
  have kd:∀q∈kids,fA q≤m∧1≤fA q:=fun q hq=>⟨by have:=MO hq;omega,yF q⟩
  have fin:¬k=18→¬k=19→jm s (dX s m) (.mk k t n nm kids)→jm s (dX s m) (.mk k t n nm kids)∧tX s (dX s m) (.mk k t n nm kids)∧yV s (dX s m) (.mk k t n nm kids):=fun a b h =>
   ⟨h,Bc h (Ig a b _ _),Du (Bc h (Ig a b _ _)) (Ig a b _ _)⟩
  have hal:∀m' i,dX s (m'+1) i=ku (dX s m') s i:=fun m' i=>by rw [dX]
  by_cases c1:k=1
  ·subst c1;exact fin (by decide) (by decide) (aad hn)
  by_cases c2:aT k
  ·unfold aT at c2
   obtain ⟨kk,rfl⟩:∃kk:Nat,k=kk:=⟨k.toNat,by omega⟩
   exact fin (by omega) (by omega) (XW (by omega) hn)
  by_cases c3:bD k
  ·unfold bD at c3
   obtain ⟨kk,rfl⟩:∃kk:Nat,k=kk:=⟨k.toNat,by omega⟩
   exact fin (by omega) (by omega) (aae (by omega) hn)
  unfold aT at c2;unfold bD at c3
  by_cases c4:k=23∨k=24
  ·exact fin (by omega) (by omega) (XV c4 hn)
  by_cases c5:12≤k∧k≤17
  ·obtain ⟨kk,rfl⟩:∃kk:Nat,k=kk:=⟨k.toNat,by omega⟩
   exact fin (by omega) (by omega) (XY (by omega) hn)
  by_cases c6:20≤k∧k≤22
  ·obtain ⟨q,rfl⟩:=List.length_eq_one_iff.1 (hk1 c6)
   have hkd:=kd q (by simp)
   by_cases c7:k=20
   ·subst c7
    obtain ⟨m',rfl⟩:∃m',m=m'+1:=⟨m-1,by omega⟩
    refine fin (by decide) (by decide) (UU fun i r h hf hst=>?_)
    rw [hal];exact (UW q (by simp) m' (by omega)).2.2 i r h hf hst
   ·exact fin (by omega) (by omega) (XZ (by omega) hn (UW q (by simp) m (by omega)).1)
  have h2:k=18∨k=19:=by omega
  have hlen:2≤kids.length:=by
   have:=hmore.2.2.1
   have e:ig (aA.mk k t n nm kids).kind=2:=by show ig k=2;unfold ig;rw [if_pos h2]
   rw [e] at this;simpa using this
  obtain ⟨q0,hq0⟩:∃q,q∈kids:=⟨kids[0],List.getElem_mem _⟩
  obtain ⟨m',rfl⟩:∃m',m=m'+1:=⟨m-1,by have:=kd q0 hq0;omega⟩
  rcases h2 with rfl|rfl
  ·have hA:∀x,(∀q∈kids,fA q≤x+1)→tX s (dX s x) (.mk 18 t n nm kids):=fun x hx=>aew hlen fun q hq=>⟨(UW q hq x (hx q hq)).1,hok.kids.mem hq⟩
   have hC:=hA (m'+1) (fun q hq=>by have:=kd q hq;omega)
   have hC':=hA m' (fun q hq=>(kd q hq).1)
   exact ⟨Qe aah fun i r h hf hst=>by rw [hal];exact Du hC' Qj i r h hf hst,hC,Du hC Qj⟩
  ·have hA:∀x,(∀q∈kids,fA q≤x+1)→yV s (dX s x) (.mk 19 t n nm kids):=fun x hx=>aex hlen fun q hq=>(UW q hq x (hx q hq)).2.1
   have hC:=hA (m'+1) (fun q hq=>by have:=kd q hq;omega)
   have hC':=hA m' (fun q hq=>(kd q hq).1)
   have hI:jm s (dX s (m'+1)) (.mk 19 t n nm kids):=Qe aai fun i r h hf hst=>by rw [hal];exact hC' i r h hf hst
   exact ⟨hI,Bc hI aaj,hC⟩
theorem Qk (p:aA) (hok:wR p) (hf:fits p) (hl:(aG p 2).length≤65536):kE ⟨(aG p 2).toArray⟩=.ok (aB p):=by
 obtain ⟨s,hs⟩:∃s:aj,s=⟨(aG p 2).toArray⟩:=⟨_,rfl⟩
 have hsz:s.size=(aG p 2).length:=by rw [hs];show (aG p 2).toArray.size=_;rw [List.size_toArray]
 have hh:Has s 0 (aG p 2) []:=⟨by rw [hs];simp,Nat.zero_le _⟩
 have hend:skip s (0+(aG p 2).length)=s.size:=by rw [Nat.zero_add,←hsz];exact CS (Nat.le_refl _)
 have hpe:peek s s.size = -1:=by unfold peek;rw [dif_neg (by omega)]
 have hr:=(ad8 s _ p (Nat.le_refl _) hok 200 (by have:=hf.2;omega)).2.2 0 [] hh (fun c t e=>by cases e) (.inl (by rw [hend,hpe]))
 rw [←hs]
 unfold kE
 rw [if_neg (by omega),hr,hend]
 dsimp only
 rw [CS (Nat.le_refl _),hpe,if_neg (by decide),if_pos (by unfold fits;rw [EZ,JH];exact hf)]
end Go.Proofs.YtefjbnhpjdhjmaaGreatDoor

namespace Go.Proofs.YtefjbnhpjdhjmaaGreatDoor
set_option linter.all false
open Go.RowKit
def kV (q:aA):Prop:=(∀x∈allT q,x.kids.length≤4096→dH x=0)∧aB q=q
theorem vO {k n:Int} {t nm:aj} (h:dH (.mk k t n nm [])=0) (hb:aB (.mk k t n nm [])=.mk k t n nm []):kV (.mk k t n nm []):=by
 refine ⟨fun x hx _=>?_,hb⟩
 rw [allT,allL,List.mem_singleton] at hx
 rw [hx];exact h
theorem MP:∀{l:List aA},(∀q∈l,kV q)→(∀x∈allL l,x.kids.length≤4096→dH x=0)∧dw l=l
 | [],_=>⟨fun x hx=>by rw [allL] at hx;simp at hx,by rw [dw]⟩
 | p::r,h=>by
  have hp:=h p (by simp)
  have hr:=MP (l:=r) (fun q hq=>h q (by simp [hq]))
  refine ⟨fun x hx=>?_,by rw [dw,hp.2,hr.2]⟩
  rw [allL] at hx
  rcases List.mem_append.1 hx with hx|hx
  ·exact hp.1 x hx
  ·exact hr.1 x hx
theorem AO {k:Int} {nm:aj} {l:List aA} (hn:l.length≤4096→dH (.mk k E0 0 nm l)=0) (hb:(if bf k then nm else E0)=nm) (hl:∀q∈l,kV q):kV (.mk k E0 0 nm l):=by
 have hg:=MP hl
 refine ⟨fun x hx h=>?_,?_⟩
 ·rw [allT] at hx
  rcases List.mem_cons.1 hx with rfl|hx
  ·exact hn (by simpa using h)
  ·exact hg.1 x hx h
 ·rw [aB,hg.2,hb];simp
theorem abU {s:aj} {j:Nat}:(s.extract j (bQ gu s j)).data.toList=(s.data.toList.drop j).takeWhile gu:=by
 have h1:(s.extract j (bQ gu s j)).data.toList=(s.data.toList.drop j).take (bQ gu s j-j):=by simp
 rw [h1]
 have h2:bQ gu s j-j=((s.data.toList.drop j).takeWhile gu).length:=by unfold bQ;omega
 rw [h2]
 have key:∀l:List UInt8,l.take (l.takeWhile gu).length=l.takeWhile gu:=by
  intro l
  induction l with
  | nil=>rfl
  | cons a l ih =>
   rw [List.takeWhile_cons]
   split
   ·rw [List.length_cons,List.take_succ_cons,ih]
   ·rfl
 exact key _
theorem PN {f:UInt8→Bool}:∀{l:List UInt8} {c:UInt8},c∈l.takeWhile f→f c=true
 | a::l,c,h=>by
  rw [List.takeWhile_cons] at h
  split at h
  ·rename_i ha
   rcases List.mem_cons.1 h with rfl|h
   ·exact ha
   ·exact PN h
  ·cases h
theorem Dv {s:aj} {i k:Nat} {nm:aj} (h:nameP s i=.ok (nm,k)):aS nm=true:=by
 unfold nameP gK at h
 split at h
 ·cases h
 ·rename_i w a k' hw
  split at hw
  ·rename_i hp
   simp only [Except.ok.injEq,Prod.mk.injEq] at hw
   obtain ⟨⟨rfl,rfl⟩,rfl⟩:=hw
   split at h
   ·cases h
   ·rename_i hlen
    simp only [Except.ok.injEq,Prod.mk.injEq] at h
    obtain ⟨rfl,rfl⟩:=h
    have hlt:skip s i<s.size:=oN (by omega)
    have hl:=abU (s:=s) (j:=skip s i)
    have hpk:peek s (skip s i)=s[skip s i].toNat:=by unfold peek;rw [dif_pos hlt]
    rw [drop_cons hlt,List.takeWhile_cons] at hl
    have hu:iR s[skip s i]=true:=by unfold iR;simp;omega
    rw [if_pos (by unfold gu;rw [hu];rfl)] at hl
    obtain ⟨x,hx⟩:∃x,x=s.extract (skip s i) (bQ gu s (skip s i)):=⟨_,rfl⟩
    rw [←hx] at hl hlen⊢
    have e:x.data.toList.length=x.size:=rfl
    unfold aS
    simp only [Bool.and_eq_true,decide_eq_true_eq,List.all_eq_true,List.mem_range]
    refine ⟨⟨by rw [←e,hl];simp,by omega⟩,fun j hj=>?_⟩
    rw [←e] at hj
    rw [List.getD_eq_getElem?_getD,List.getElem?_eq_getElem hj]
    simp only [Option.getD_some]
    have hall:∀c∈x.data.toList,gu c=true:=by
     rw [hl];intro c hc
     rcases List.mem_cons.1 hc with rfl|hc
     ·unfold gu;rw [hu];rfl
     ·exact PN hc
    have hw:=hall _ (List.getElem_mem hj)
    unfold kW
    cases j with
    | zero =>
     have:x.data.toList[0]=s[skip s i]:=by simp [hl]
     rw [this,hu];rfl
    | succ j=>unfold gu at hw;simpa using hw
  ·cases hw
theorem UY (x:aj) (hx:0<x.size):kindOf x = -1∨∃kk∈lN,kindOf x=(kk:Nat):=by
 by_cases hm:x∈oU
 ·simp only [oU,List.mem_cons,List.not_mem_nil,or_false] at hm
  rcases hm with h|h|h|h|h|h|h|h|h|h|h|h|h|h|h|h|h|h|h|h|h<;>subst h<;>first|(exfalso;exact absurd hx (by decide))|(right;decide)
 ·left
  unfold kindOf Lib.idxOfS
  refine Lib.idxFromS_miss x oU 0 fun j hj h=>hm ?_
  rw [←h,List.getD_eq_getElem?_getD,List.getElem?_eq_getElem hj]
  exact List.getElem_mem _
def tY (s:aj) (f:Nat→bT aA):Prop:=∀i p k,i≤s.size→f i=.ok (p,k)→kV p
theorem X0 {k:Int} {nm:aj} (hk:k=23∨k=24) (h:aS nm=true):kV (.mk k E0 0 nm []):=by
 rcases hk with rfl|rfl
 ·exact vO (by rw [sW (by decide),if_neg (by rw [h];decide)];decide) (by rw [mP];rfl)
 ·exact vO (by rw [sW (by decide),if_neg (by rw [h];decide)];decide) (by rw [mP];rfl)
theorem MQ {k:Int} {nm:aj} {p:aA} (hk:k=21∨k=22) (h:aS nm=true) (hp:kV p):kV (.mk k E0 0 nm [p]):=by
 rcases hk with rfl|rfl
 ·exact AO (fun _=>by rw [sW (by decide),if_neg (by rw [h];decide),if_neg (by show ¬(1<ig 21∨jE 21<1);decide)]) rfl (fun q hq=>by rw [List.mem_singleton] at hq;rw [hq];exact hp)
 ·exact AO (fun _=>by rw [sW (by decide),if_neg (by rw [h];decide),if_neg (by show ¬(1<ig 22∨jE 22<1);decide)]) rfl (fun q hq=>by rw [List.mem_singleton] at hq;rw [hq];exact hp)
theorem X7 {kk:Nat} {t:aj} (hk:3≤kk∧kk≤7) (h0:t.size≠0) (h1:t.size≤65536):kV (.mk kk t 0 E0 []):=by
 have a:aT kk:=by unfold aT;omega
 have hm:¬(0<ig kk∨jE kk<0):=by unfold ig;rw [if_neg (by omega),if_neg (by omega)];omega
 exact vO (by rw [AP a,if_neg (by omega),if_neg h0];exact if_neg hm) (by rw [mP,if_pos (.inr a),if_neg (by unfold bD;omega),if_neg (by unfold bf;omega)])
theorem aak {kk:Nat} {n:Nat} (hk:kk=2∨(8≤kk∧kk≤11)) (h1:n≤65536):kV (.mk kk E0 n E0 []):=by
 have a:bD kk:=by unfold bD;omega
 have hm:¬(0<ig kk∨jE kk<0):=by unfold ig;rw [if_neg (by omega),if_neg (by omega)];omega
 exact vO (by rw [Ih a,if_neg (by omega)];exact if_neg hm) (by rw [mP,if_neg (by unfold aT;omega),if_pos a,if_neg (by unfold bf;omega)])
theorem X8 {kk:Nat} (hk:12≤kk∧kk≤17):kV (.mk kk E0 0 E0 []):=by
 have hm:¬(0<ig kk∨jE kk<0):=by unfold ig;rw [if_neg (by omega),if_neg (by omega)];omega
 exact vO (by rw [tZ (by omega)];exact if_neg hm) (by rw [mP,if_neg (by unfold aT;omega),if_neg (by unfold bD;omega),if_neg (by unfold bf;omega)])
theorem UZ {p:aA} (hp:kV p):kV (.mk 20 E0 0 E0 [p]) :=
 AO (fun _=>by rw [tZ (by omega),if_neg (by show ¬(1<ig 20∨jE 20<1);decide)]) rfl (fun q hq=>by rw [List.mem_singleton] at hq;rw [hq];exact hp)
theorem AQ {kd:Int} {l:List aA} (hk:kd=18∨kd=19) (h0:0<l.length) (hl:∀q∈l,kV q):kV (rU kd l):=by
 match l,h0 with
 | [p],_=>exact hl p (by simp)
 | p::q::r,_ =>
  show kV (.mk kd E0 0 E0 (p::q::r))
  refine AO (fun hlen=>?_) (by rw [ite_self]) hl
  rw [tZ (by omega),if_neg]
  unfold ig jE
  rw [if_pos hk,if_pos hk]
  simp only [List.length_cons] at hlen⊢
  omega
theorem Ql {s:aj} {inner:Nat→bT aA} (hs:s.size≤65536) (hz:tY s inner):tY s (aH inner s):=by
 intro i p k hi h
 have h1:=kJ s i;have h2:=dB hi
 unfold aH at h
 split at h
 ·unfold AU at h
  cases ht:iL s (skip s i) with
  | error e=>rw [ht] at h;cases h
  | ok y =>
   obtain ⟨⟨t,a⟩,k1⟩:=y
   have h3:=mg ht
   rw [ht] at h;simp only [Except.ok.injEq,Prod.mk.injEq] at h;obtain ⟨rfl,rfl⟩:=h
   exact vO (by rw [Ii,if_neg (by omega)];decide) (by rw [mP];rfl)
 ·have nm:∀kd,(kd=23∨kd=24)→uX s (skip s i+1) kd=.ok (p,k)→kV p:=by
   intro kd hkd h
   unfold uX at h
   cases ht:nameP s (skip s i+1) with
   | error e=>rw [ht] at h;cases h
   | ok y =>
    obtain ⟨t,k1⟩:=y
    rw [ht] at h;simp only [Except.ok.injEq,Prod.mk.injEq] at h;obtain ⟨rfl,rfl⟩:=h
    exact X0 hkd (Dv ht)
  split at h
  ·exact nm _ (.inl rfl) h
  ·split at h
   ·exact nm _ (.inr rfl) h
   ·unfold nJ at h
    cases ht:gK s (skip s i) with
    | error e=>rw [ht] at h;cases h
    | ok y =>
     obtain ⟨⟨x,a⟩,k1⟩:=y
     rw [ht] at h;dsimp only at h
     have a1:=jH h2 ht
     unfold kT at h
     split at h
     ·cases h
     ·rename_i hno
      rcases UY x a1.2.2.2.2 with hk|⟨kk,hkk,hk⟩
      ·exact absurd (.inl hk) hno
      ·rw [hk] at h hno
       simp only [lN,List.mem_cons,List.not_mem_nil,or_false] at hkk
       split at h
       ·unfold dD at h
        cases hn:dh 40 s k1 with
        | error e=>rw [hn] at h;cases h
        | ok k2 =>
         rw [hn] at h;dsimp only at h
         cases hx:iL s k2 with
         | error e=>rw [hx] at h;cases h
         | ok y =>
          obtain ⟨⟨t,b⟩,k3⟩:=y
          have h3:=mg hx
          rw [hx] at h;dsimp only at h
          split at h
          ·cases h
          ·cases hm:dh 41 s k3 with
           | error e=>rw [hm] at h;cases h
           | ok k4 =>
            rw [hm] at h;simp only [Except.ok.injEq,Prod.mk.injEq] at h;obtain ⟨rfl,rfl⟩:=h
            exact X7 (by omega) (by assumption) (by omega)
       ·split at h
        ·unfold fO at h
         cases hn:dh 40 s k1 with
         | error e=>rw [hn] at h;cases h
         | ok k2 =>
          have a2:=gX hn
          rw [hn] at h;dsimp only at h
          cases hx:lW s k2 with
          | error e=>rw [hx] at h;cases h
          | ok y =>
           obtain ⟨t,k3⟩:=y
           have h3:=xJ a2.2.1 hx
           rw [hx] at h;dsimp only at h
           cases hm:dh 41 s k3 with
           | error e=>rw [hm] at h;cases h
           | ok k4 =>
            rw [hm] at h;simp only [Except.ok.injEq,Prod.mk.injEq] at h;obtain ⟨rfl,rfl⟩:=h
            exact aak (by omega) h3.2.2
        ·split at h
         ·rename_i h20
          unfold nT at h
          cases hn:dh 40 s k1 with
          | error e=>rw [hn] at h;cases h
          | ok k2 =>
           rw [hn] at h;dsimp only at h
           have a2:=gX hn
           cases hx:inner k2 with
           | error e=>rw [hx] at h;cases h
           | ok y =>
            obtain ⟨t,k3⟩:=y
            rw [hx] at h;dsimp only at h
            cases hm:dh 41 s k3 with
            | error e=>rw [hm] at h;cases h
            | ok k4 =>
             rw [hm] at h;simp only [Except.ok.injEq,Prod.mk.injEq] at h;obtain ⟨rfl,rfl⟩:=h
             rw [h20];exact UZ (hz _ _ _ a2.2.1 hx)
         ·simp only [Except.ok.injEq,Prod.mk.injEq] at h;obtain ⟨rfl,rfl⟩:=h
          exact X8 (by omega)
theorem X9 {s:aj} {inner:Nat→bT aA} (hs:s.size≤65536) (hz:tY s inner):tY s (jL inner s):=by
 intro i p k hi h
 have a0:=kY (c:=40) hi
 unfold jL at h
 split at h
 ·cases h1:inner (fG 40 s i).2 with
  | error e=>rw [h1] at h;cases h
  | ok y =>
   obtain ⟨q,k1⟩:=y
   rw [h1] at h;dsimp only at h
   cases h3:dh 41 s k1 with
   | error e=>rw [h3] at h;cases h
   | ok k3 =>
    rw [h3] at h;simp only [Except.ok.injEq,Prod.mk.injEq] at h;obtain ⟨rfl,rfl⟩:=h
    exact hz _ _ _ a0.1 h1
 ·exact Ql hs hz _ _ _ a0.1 h
theorem Dw {s:aj}:∀(f:Nat) (p:aA) (k:Nat) {q:aA} {k':Nat},kV p→iK s f p k=.ok (q,k')→kV q
 | 0,p,k,q,k',hp,h=>by simp only [iK,Except.ok.injEq,Prod.mk.injEq] at h;obtain ⟨rfl,rfl⟩:=h;exact hp
 | f+1,p,k,q,k',hp,h=>by
  rw [iK] at h
  split at h
  ·cases hn:nameP s (fG 46 s k).2 with
   | error e=>rw [hn] at h;cases h
   | ok y =>
    obtain ⟨nm,k1⟩:=y
    rw [hn] at h
    exact Dw f _ k1 (MQ (.inl rfl) (Dv hn) hp) h
  ·split at h
   ·cases hn:nameP s (fG 36 s (fG 46 s k).2).2 with
    | error e=>rw [hn] at h;cases h
    | ok y =>
     obtain ⟨nm,k1⟩:=y
     rw [hn] at h
     exact Dw f _ k1 (MQ (.inr rfl) (Dv hn) hp) h
   ·simp only [Except.ok.injEq,Prod.mk.injEq] at h;obtain ⟨rfl,rfl⟩:=h;exact hp
theorem MR {s:aj} {inner:Nat→bT aA} (hs:s.size≤65536) (hz:tY s inner):tY s (iE inner s):=by
 intro i p k hi h
 unfold iE at h
 cases hh:jL inner s i with
 | error e=>rw [hh] at h;cases h
 | ok y =>
  obtain ⟨q,k1⟩:=y
  rw [hh] at h
  exact Dw _ _ _ (X9 hs hz _ _ _ hi hh) h
theorem Qm {l:List aA} {p:aA} (hl:∀q∈l,kV q) (hp:kV p):∀q∈l++[p],kV q:=by
 intro q hq
 rcases List.mem_append.1 hq with hq|hq
 ·exact hl q hq
 ·rw [List.mem_singleton] at hq;rw [hq];exact hp
theorem JI {s:aj} {inner:Nat→bT aA} (hs:s.size≤65536) (hf:dU s inner) (hz:tY s inner):∀(f:Nat) (l:List aA) (k:Nat) {q:aA} {k':Nat},k≤s.size→0<l.length→(∀q∈l,kV q)→lX inner s f l k=.ok (q,k')→kV q
 | 0,l,k,q,k',hk,h0,hl,h=>by
  simp only [lX,Except.ok.injEq,Prod.mk.injEq] at h;obtain ⟨rfl,rfl⟩:=h
  exact AQ (.inl rfl) h0 hl
 | f+1,l,k,q,k',hk,h0,hl,h=>by
  have h2:=dB hk
  rw [lX] at h
  split at h
  ·cases hn:iE inner s (skip s k) with
   | error e=>rw [hn] at h;cases h
   | ok y =>
    obtain ⟨p,k1⟩:=y
    rw [hn] at h
    exact JI hs hf hz f _ k1 (qN hf _ _ _ h2 hn).2 (by simp) (Qm hl (MR hs hz _ _ _ h2 hn)) h
  ·simp only [Except.ok.injEq,Prod.mk.injEq] at h;obtain ⟨rfl,rfl⟩:=h
   exact AQ (.inl rfl) h0 hl
theorem Qn {s:aj} {inner:Nat→bT aA} (hs:s.size≤65536) (hf:dU s inner) (hz:tY s inner):tY s (jl inner s):=by
 intro i p k hi h
 unfold jl at h
 cases hh:iE inner s i with
 | error e=>rw [hh] at h;cases h
 | ok y =>
  obtain ⟨q,k1⟩:=y
  rw [hh] at h
  exact JI hs hf hz _ _ _ (qN hf _ _ _ hi hh).2 (by simp) (fun x hx=>by rw [List.mem_singleton] at hx;rw [hx];exact MR hs hz _ _ _ hi hh) h
theorem JJ {s:aj} {inner:Nat→bT aA} (hs:s.size≤65536) (hf:dU s inner) (hz:tY s inner):∀(f:Nat) (l:List aA) (k:Nat) {q:aA} {k':Nat},k≤s.size→0<l.length→(∀q∈l,kV q)→lY inner s f l k=.ok (q,k')→kV q
 | 0,l,k,q,k',hk,h0,hl,h=>by
  simp only [lY,Except.ok.injEq,Prod.mk.injEq] at h;obtain ⟨rfl,rfl⟩:=h
  exact AQ (.inr rfl) h0 hl
 | f+1,l,k,q,k',hk,h0,hl,h=>by
  have h1:=kY (c:=124) hk
  rw [lY] at h
  split at h
  ·cases hn:jl inner s (fG 124 s k).2 with
   | error e=>rw [hn] at h;cases h
   | ok y =>
    obtain ⟨p,k1⟩:=y
    rw [hn] at h
    exact JJ hs hf hz f _ k1 (tq hf _ _ _ h1.1 hn).2 (by simp) (Qm hl (Qn hs hf hz _ _ _ h1.1 hn)) h
  ·simp only [Except.ok.injEq,Prod.mk.injEq] at h;obtain ⟨rfl,rfl⟩:=h
   exact AQ (.inr rfl) h0 hl
theorem Qo {s:aj} {inner:Nat→bT aA} (hs:s.size≤65536) (hf:dU s inner) (hz:tY s inner):tY s (ku inner s):=by
 intro i p k hi h
 unfold ku at h
 cases hh:jl inner s i with
 | error e=>rw [hh] at h;cases h
 | ok y =>
  obtain ⟨q,k1⟩:=y
  rw [hh] at h
  exact JJ hs hf hz _ _ _ (tq hf _ _ _ hi hh).2 (by simp) (fun x hx=>by rw [List.mem_singleton] at hx;rw [hx];exact Qn hs hf hz _ _ _ hi hh) h
theorem JL (s:aj) (hs:s.size≤65536):∀m,tY s (dX s m)
 | 0=>fun i p k _ h=>by simp [dX] at h
 | m+1=>fun i p k hi h=>Qo hs (mG s m) (JL s hs m) i p k hi h
theorem U0 {s:aj} {q:aA} (h:kE s=.ok q):wR q∧fits q∧aB q=q:=by
 unfold kE at h
 split at h
 ·cases h
 ·rename_i hl
  cases ha:ku (dX s 200) s 0 with
  | error e=>rw [ha] at h;cases h
  | ok y =>
   obtain ⟨p,k⟩:=y
   rw [ha] at h;dsimp only at h
   have hg:=Qo (by omega) (mG s 200) (JL s (by omega) 200) 0 p k (Nat.zero_le _) ha
   split at h
   ·cases h
   ·split at h
    ·rename_i hf
     simp only [Except.ok.injEq] at h;subst h
     exact ⟨fun x hx=>hg.1 x hx (by have:=OL p x hx;have:=hf.1;omega),hf,hg.2⟩
    ·cases h
end Go.Proofs.YtefjbnhpjdhjmaaGreatDoor

namespace Go.Proofs.YtefjbnhpjdhjmaaGreatDoor
set_option linter.all false
open Go.RowKit
theorem aal {s:aj} {p:aA} (h:kE s=.ok p):jM s=(p,(0,0)):=by unfold jM;rw [h]
theorem U1 {s:aj} (h:(jM s).2.1=0):kE s=.ok (jM s).1∧(jM s).2=(0,0):=by
 unfold jM at h⊢
 cases hr:kE s with
 | ok p=>exact ⟨rfl,rfl⟩
 | error er=>rw [hr] at h;exact absurd h (aa3 s er hr)
theorem MS:∀(l:List aA),(∀x∈l,dH x=0)→uj l=0
 | [],_=>by rw [uj]
 | p::r,h=>by
  rw [uj,if_pos (h p (List.mem_cons_self ..))]
  exact MS r fun x hx=>h x (List.mem_cons_of_mem _ hx)
theorem U2 {p:aA} (h:bJ p=0):fits p:=by
 rw [DX] at h
 by_cases hf:fits p
 ·exact hf
 ·rw [if_neg hf] at h;cases h
theorem aam {p:aA} (h:wR p) (hf:fits p):bJ p=0:=by
 rw [DX,if_pos hf]
 exact MS _ h
theorem Js {p:aA} (h:(fU p).2=0):bJ p=0∧(aG p 2).length≤65536∧(fU p).1=aG p 2:=by
 unfold fU at h⊢
 by_cases hw:bJ p≠0
 ·rw [if_pos hw] at h;exact absurd h hw
 ·rw [if_neg hw] at h⊢
  by_cases hl:65536<(aG p 2).length
  ·rw [if_pos hl] at h;cases h
  ·rw [if_neg hl];exact ⟨by simpa using hw,by omega,rfl⟩
theorem Ut {p:aA} (h:(fU p).2=0):jM ⟨(fU p).1.toArray⟩=(aB p,(0,0)):=by
 obtain ⟨h1,h2,h3⟩:=Js h
 rw [h3]
 exact aal (Qk p (BU h1).1 (U2 h1) h2)
theorem Ux {s:aj} (h:(jM s).2.1=0):bJ (jM s).1=0∧aB (jM s).1=(jM s).1:=by
 obtain ⟨a,b,c⟩:=U0 (U1 h).1
 exact ⟨aam a b,c⟩
theorem UA {p:aA} (h:bJ p=0) (hn:(fU p).2≠0):(fU p).2=4:=by
 unfold fU at hn⊢
 rw [if_neg (by simp [h])] at hn⊢
 by_cases hl:65536<(aG p 2).length
 ·rw [if_pos hl]
 ·rw [if_neg hl] at hn;exact absurd rfl hn
end Go.Proofs.YtefjbnhpjdhjmaaGreatDoor

namespace Go.Proofs.YtefjbnhpjdhjmaaGreatDoor
set_option linter.all false
open Go.RowKit
abbrev Tk:=Int×aj
def kt (t:aC):Tk:=(t.kind,t.text)
def sg (c:UInt8):Tk:=(5,⟨#[c]⟩)
def fH (l:List UInt8) (ts:List Tk):Prop:=∀(s:aj) (i:Nat) (out:List aC),Has s i l []→∃r,wZ s i out=.ok (out++r)∧r.map kt=ts
theorem lex_nil:fH [] []:=by
 intro s i out h
 have:=h.ends
 exact ⟨[],by rw [Pv (by omega),List.append_nil],rfl⟩
theorem jV {l:List UInt8} {ts:List Tk} (hl:fH l ts):fH (32::l) ts:=by
 intro s i out h
 have hb:=h.byte
 have e:dI s i h.lt=.blank:=by unfold dI;rw [hb];rfl
 rw [EP out h.lt,e]
 exact hl s (i+1) out h.tail
theorem yR {m l:List UInt8} {ts:List Tk} {k:Int} {x:aj} (hl:fH l ts) (hm:m≠[]) (h1:∀(s:aj) (i:Nat) (h:Has s i (m++l) []) (hi:i<s.size),dI s i hi=.tok ⟨k,x,i⟩ (i+m.length)):fH (m++l) ((k,x)::ts):=by
 intro s i out h
 have hi:i<s.size:=by
  have:=h.size
  have:0<m.length:=List.length_pos_iff.2 hm
  simp at *;omega
 rw [EP out hi,h1 s i h hi]
 obtain ⟨r,e,er⟩:=hl s (i+m.length) (out++[⟨k,x,i⟩]) h.next
 exact ⟨⟨k,x,i⟩::r,by dsimp only;rw [e,List.append_assoc];rfl,by rw [List.map_cons,er];rfl⟩
theorem BM {s:aj} {i:Nat} {l r:List UInt8} (h:Has s i l r):s.extract i (i+l.length)=⟨l.toArray⟩:=by
 apply ByteArray.ext
 apply Array.ext'
 have:(s.extract i (i+l.length)).data.toList=(s.data.toList.drop i).take l.length:=by simp
 rw [this,h.eq,List.take_left]
theorem adA (x:aj):(⟨x.data.toList.toArray⟩:aj)=x:=rfl
theorem Px {nm:aj} (hn:aS nm=true):∃c l,nm.data.toList=c::l∧(65≤c.toNat∧c.toNat≤90)∧∀d∈c::l,gu d=true:=by
 obtain ⟨x,hx⟩:∃x,x=nm.data.toList:=⟨_,rfl⟩
 have e:nm.data.toList.length=nm.size:=rfl
 unfold aS at hn
 simp only [Bool.and_eq_true,decide_eq_true_eq,List.all_eq_true,List.mem_range] at hn
 obtain ⟨⟨h1,_⟩,h2⟩:=hn
 rw [←hx] at h2⊢
 rw [←e,←hx] at h1 h2
 cases x with
 | nil=>simp at h1
 | cons c l =>
  have h0:=h2 0 (by simp)
  refine ⟨c,l,rfl,?_,?_⟩
  ·simp only [List.getD_cons_zero] at h0
   unfold kW iR at h0
   simpa using h0
  ·intro d hd
   obtain ⟨j,hj,rfl⟩:=List.getElem_of_mem hd
   have:=h2 j hj
   rw [List.getD_eq_getElem?_getD,List.getElem?_eq_getElem hj] at this
   simp only [Option.getD_some] at this
   unfold kW at this
   unfold gu
   revert this
   cases iR (c::l)[j]<;>cases dS (c::l)[j]<;>simp
theorem RH {f:UInt8→Bool} {s:aj} {i:Nat} {l r:List UInt8} (h:Has s i l r) (hl:∀d∈l,f d=true) (hr:mW f r):bQ f s i=i+l.length:=by
 unfold bQ;rw [h.eq,yu hl hr]
theorem yS {s:aj} {i:Nat} {m l:List UInt8} (h:Has s i (m++l) []):Has s i m l:=by
 have:=h.split;rwa [List.append_nil] at this
theorem nG {nm:aj} {l:List UInt8} {ts:List Tk} (hn:aS nm=true) (hr:mW gu l) (hl:fH l ts):fH (nm.data.toList++l) ((1,nm)::ts):=by
 obtain ⟨c,m,e,hc,hw⟩:=Px hn
 rw [←e] at hw
 refine yR hl (by rw [e];simp) fun s i h hi=>?_
 have h1:=yS h
 have hb:s[i]=c:=by have h2:=h1;rw [e] at h2;exact h2.byte
 have h3:=RH h1 hw hr
 unfold dI
 rw [hb,if_neg (by omega),if_pos (by omega),h3,BM h1,adA]
theorem zM:∀(g u:Nat),u<10 ^ g→∃c l,Lib.decDigits u=c::l∧(48≤c.toNat∧c.toNat≤57)∧(∀d∈c::l,dS d=true)∧(l≠[]→c.toNat≠48):=by
 intro g
 have one:∀u:Nat,u<10→dS (UInt8.ofNat (48+u))=true:=fun u hu=>by unfold dS;simp;omega
 induction g with
 | zero =>
  intro u hu
  have:u=0:=by simpa using hu
  subst this
  exact ⟨48,[],by rw [Lib.decDigits,dif_pos (by omega)];rfl,by decide,by decide,by simp⟩
 | succ g ih =>
  intro u hu
  by_cases h10:u<10
  ·refine ⟨UInt8.ofNat (48+u),[],by rw [Lib.decDigits,dif_pos h10],?_,?_,by simp⟩
   ·constructor<;>simp<;>omega
   ·intro d hd;rw [List.mem_singleton.1 hd];exact one u h10
  ·obtain ⟨c,l,h1,h2,h3,h4⟩:=ih (u/10) (by rw [Nat.pow_succ] at hu;omega)
   refine ⟨c,l++[UInt8.ofNat (48+u % 10)],by rw [Lib.decDigits,dif_neg h10,h1];rfl,h2,?_,?_⟩
   ·intro d hd
    rw [←List.cons_append] at hd
    rcases List.mem_append.1 hd with hd|hd
    ·exact h3 d hd
    ·rw [List.mem_singleton.1 hd];exact one _ (by omega)
   ·intro _
    by_cases hl:l=[]
    ·subst hl
     by_cases adB:u/10<10
     ·rw [Lib.decDigits,dif_pos adB] at h1
      obtain ⟨rfl,_⟩:=List.cons.inj h1
      simp;omega
     ·rw [Lib.decDigits,dif_neg adB] at h1
      have:=congrArg List.length h1
      have h0:0<(Lib.decDigits (u/10/10)).length:=by rw [Lib.decDigits];split<;>simp
      simp only [List.length_append,List.length_cons,List.length_nil] at this;omega
    ·exact h4 hl
theorem abv {u:Nat} {l:List UInt8} {ts:List Tk} (hu:u<10 ^ 19) (hr:mW dS l) (hl:fH l ts):fH (Lib.decDigits u++l) ((2,⟨(Lib.decDigits u).toArray⟩)::ts):=by
 obtain ⟨c,m,e,hc,hw,_⟩:=zM 19 u hu
 rw [←e] at hw
 refine yR hl (by rw [e];simp) fun s i h hi=>?_
 have h1:=yS h
 have hb:s[i]=c:=by have h2:=h1;rw [e] at h2;exact h2.byte
 have h3:=RH h1 hw hr
 unfold dI
 rw [hb,if_neg (by omega),if_neg (by omega),if_pos (by omega),h3,BM h1]
theorem Zx {t:aj} {l:List UInt8} {ts:List Tk} (hr:mW (fun c=>c==39) l) (hl:fH l ts):fH (gJ t++l) ((3,t)::ts):=by
 refine yR hl (by simp [gJ]) fun s i h hi=>?_
 have h1:=yS h
 have h2:=h1;unfold gJ at h2
 have hb:s[i]=39:=h2.byte
 have h3:=h2.tail
 unfold dI
 rw [hb]
 have e39:(39:UInt8).toNat=39:=rfl
 rw [e39,if_neg (by omega),if_neg (by omega),if_neg (by omega),if_pos rfl,h3.eq,List.append_assoc,List.singleton_append,CY _ _ hr]
 simp only [gJ,List.length_cons,List.length_append,List.length_nil]
 rw [show i+1+((nP t.data.toList).length+1)=i+((nP t.data.toList).length+(0+1)+1) by omega]
theorem CZ {c:UInt8} {l:List UInt8} {ts:List Tk} (hc:c.toNat∈Aq) (ES:c=58→mW (fun c=>c==61) l) (hl:fH l ts):fH (c::l) (sg c::ts):=by
 show fH ([c]++l) _
 refine yR hl (by simp) fun s i h hi=>?_
 have h1:=yS h
 have hb:s[i]=c:=h1.byte
 have hx:=BM h1
 have hc':=hc
 simp only [Aq,List.mem_cons,List.not_mem_nil,or_false] at hc'
 have h2:¬(c.toNat=58∧peek s (i+1)=61):=by
  rintro ⟨a,b⟩
  have e:c=58:=UInt8.toNat_inj.1 a
  have h3:=h1.next (l:=[c]) (m:=[]) |> fun x=>x
  cases l with
  | nil =>
   have:=h1.size
   have:=oN (s:=s) (k:=i+1) (by omega)
   simp at *;omega
  | cons d t =>
   have h4:Has s (i+1) (d::t) []:=h.tail
   have h5:=ES e d t rfl
   rw [h4.peek] at b
   have:d=61:=UInt8.toNat_inj.1 (by show d.toNat=61;omega)
   rw [this] at h5;simp at h5
 unfold dI
 rw [hb,if_neg (by omega),if_neg (by omega),if_neg (by omega),if_neg (by omega),if_neg (by omega),if_neg h2,if_pos hc]
 show mY.tok ⟨5,s.extract i (i + [c].length),i⟩ _=_
 rw [hx];rfl
theorem lM {c:UInt8} {l:List UInt8} {ts:List Tk} (hc:c.toNat∈Aq∧c≠58) (hl:fH l ts):fH (c::l) (sg c::ts):=CZ hc.1 (fun e=>absurd e hc.2) hl
theorem Zy {l:List UInt8} {ts:List Tk} (hl:fH l ts):fH (58::61::l) ((5,⟨#[58,61]⟩)::ts):=by
 show fH ([58,61]++l) _
 refine yR hl (by simp) fun s i h hi=>?_
 have h1:=yS h
 have hb:s[i]=58:=h1.byte
 have hx:=BM h1
 have h2:=h1.tail.peek
 unfold dI
 rw [hb]
 have e58:(58:UInt8).toNat=58:=rfl
 rw [e58,if_neg (by omega),if_neg (by omega),if_neg (by omega),if_neg (by omega),if_neg (by omega),if_pos ⟨rfl,by rw [h2];rfl⟩]
 show mY.tok ⟨5,s.extract i (i+([58,61]:List UInt8).length),i⟩ _=_
 rw [hx];rfl
def Scan (p:List UInt8):Prop:=∀(s:aj) (i:Nat) (r:List UInt8),Has s i p r→mW (fun c=>c==39) r→pO s i=(pO s (i+p.length)).map (· + p.length)
theorem Scan.nil:Scan []:=fun s i r h _=>by
 show pO s i=(pO s i).map (· + 0)
 cases pO s i<;>rfl
theorem Scan.cons {c:UInt8} {p:List UInt8} (h1:c≠39) (h2:c≠93) (hp:Scan p):Scan (c::p):=by
 intro s i r h hr
 have n1:¬c.toNat=39:=fun e=>h1 (UInt8.toNat_inj.1 e)
 have n2:¬c.toNat=93:=fun e=>h2 (UInt8.toNat_inj.1 e)
 rw [uG h.lt,h.byte,if_neg n2,if_neg n1,hp s (i+1) r h.tail hr,List.length_cons,show i+(p.length+1)=i+1+p.length by omega]
 cases pO s (i+1+p.length)<;>rfl
theorem Scan.app {a b:List UInt8} (ha:Scan a) (hb:Scan b) (hn:∀c t,b=c::t→c≠39):Scan (a++b):=by
 intro s i r h hr
 have hnr:mW (fun c=>c==39) (b++r):=by
  intro c t e
  cases b with
  | nil=>exact hr c t e
  | cons d u=>obtain ⟨rfl,_⟩:=List.cons.inj e;have:=hn d u rfl;simpa using this
 rw [ha s i _ h.split hnr,hb s _ r h.next hr,List.length_append,Nat.add_assoc]
 cases pO s (i+(a.length+b.length)) with
 | none=>rfl
 | some x=>show some (x+b.length+a.length)=some (x+(a.length+b.length));congr 1;omega
theorem Scan.all {p:List UInt8} (h:∀c∈p,c≠39∧c≠93):Scan p:=by
 induction p with
 | nil=>exact Scan.nil
 | cons c p ih=>exact Scan.cons (h c (by simp)).1 (h c (by simp)).2 (ih fun d hd=>h d (by simp [hd]))
theorem Scan.quote (t:aj):Scan (gJ t):=by
 intro s i r h hr
 unfold gJ at h
 have h3:=h.tail
 have hq:oK s (i+1)=some ((nP t.data.toList).length+1):=by
  unfold oK;rw [h3.eq,List.append_assoc,List.singleton_append,CY _ _ hr];rfl
 rw [uG h.lt,h.byte]
 have e39:(39:UInt8).toNat=39:=rfl
 rw [e39,if_neg (by omega),if_pos rfl,hq]
 dsimp only
 have el:(gJ t).length=(nP t.data.toList).length+1+1:=by simp [gJ]
 rw [el,show i+1+((nP t.data.toList).length+1)=i+((nP t.data.toList).length+1+1) by omega]
theorem Scan.word {l:List UInt8} (h:∀d∈l,gu d=true):Scan l:=by
 refine Scan.all fun c hc=>?_
 have:=h c hc
 constructor<;>rintro rfl<;>revert this<;>decide
theorem Scan.name {nm:aj} (h:aS nm=true):Scan nm.data.toList:=by
 obtain ⟨c,l,e,_,hw⟩:=Px h
 rw [e];exact Scan.word hw
theorem Scan.dec {u:Nat} (hu:u<10 ^ 19):Scan (Lib.decDigits u):=by
 obtain ⟨c,l,e,_,hw,_⟩:=zM 19 u hu
 rw [e]
 refine Scan.all fun c hc=>?_
 have:=hw c hc
 constructor<;>rintro rfl<;>revert this<;>decide
theorem Scan.par {b:Bool} {l:List UInt8} (h:Scan l):Scan (sH b l):=by
 cases b
 ·exact h
 ·exact Scan.cons (by decide) (by decide) (Scan.app h (Scan.cons (by decide) (by decide) Scan.nil) (by intro c t e;obtain ⟨rfl,_⟩:=List.cons.inj e;decide))
theorem Zz:∀(c:UInt8) (t:List UInt8),[(41:UInt8)]=c::t→c≠39:=by intro c t e;obtain ⟨rfl,_⟩:=List.cons.inj e;decide
theorem Scan.br:Scan [41]:=Scan.cons (by decide) (by decide) Scan.nil
theorem C9 {k:Int} (h:2≤k) (h2:k≤17∨k=20):Scan (fK k):=by
 obtain ⟨kk,rfl⟩:∃kk:Nat,k=kk:=⟨k.toNat,by omega⟩
 obtain ⟨c,l,e,_,hw,_⟩:=Dc kk (by simp [lN];omega)
 rw [e];exact Scan.word hw
mutual
theorem ET:∀(p:aA) (i:Nat),wR p→Scan (aG p i)
 | .mk k t n nm kids,i,h=>by
  have hn:=h.self
  obtain ⟨⟨h1,h24⟩,_,hnum,_,_⟩:=jF hn
  have hnm:bf k→aS nm=true:=(vK hn).2.1
  have hh:∀j,Scan (qm kids j):=fun j=>Xj kids j h.kids
  have hj:=fun sep f j hs=>L9 sep hs f kids j h.kids
  have sep2:∀(c:UInt8) (l:List UInt8),Scan l→c≠39→c≠93→Scan (32::c::32::l):=fun c l hl a b=>Scan.cons (by decide) (by decide) (Scan.cons a b (Scan.cons (by decide) (by decide) hl))
  have n32:∀(u:List UInt8) (c:UInt8) (t:List UInt8),32::u=c::t→c≠39:=by intro u c t e;obtain ⟨rfl,_⟩:=List.cons.inj e;decide
  have n40:∀(u:List UInt8) (c:UInt8) (t:List UInt8),40::u=c::t→c≠39:=by intro u c t e;obtain ⟨rfl,_⟩:=List.cons.inj e;decide
  rw [aG]
  split
  ·exact Scan.quote t
  split
  ·rename_i c2;unfold aT at c2
   exact Scan.app (C9 (by omega) (by omega)) (Scan.cons (by decide) (by decide) (Scan.app (Scan.quote t) Scan.br Zz)) (n40 _)
  split
  ·rename_i c2 c3
   have:=hnum c3
   unfold bD at c3
   exact Scan.app (C9 (by omega) (by omega)) (Scan.cons (by decide) (by decide) (Scan.app (Scan.dec (by omega)) Scan.br Zz)) (n40 _)
  split
  ·have hx:=Scan.app (hh 2) Scan.br Zz
   exact Scan.cons (by decide) (by decide) (Scan.cons (by decide) (by decide) (Scan.cons (by decide) (by decide) (Scan.cons (by decide) (by decide) (Scan.cons (by decide) (by decide) (Scan.cons (by decide) (by decide) hx)))))
  split
  ·subst k;exact Scan.app (hh 0) (sep2 _ _ (Scan.name (hnm (by decide))) (by decide) (by decide)) (n32 _)
  split
  ·subst k;exact Scan.app (hh 0) (sep2 _ _ (Scan.name (hnm (by decide))) (by decide) (by decide)) (n32 _)
  split
  ·subst k;exact Scan.cons (by decide) (by decide) (Scan.name (hnm (by decide)))
  split
  ·subst k;exact Scan.cons (by decide) (by decide) (Scan.name (hnm (by decide)))
  split
  ·exact Scan.par (hj _ _ _ (.inl rfl))
  split
  ·exact Scan.par (hj _ _ _ (.inr rfl))
  ·rename_i c1 c2 c3 c4 c5 c6 c7 c8 c9 c10
   unfold aT at c2;unfold bD at c3
   exact C9 (by omega) (by omega)
theorem Xj:∀(l:List aA) (i:Nat),yC l→Scan (qm l i)
 | [],i,_=>Scan.nil
 | p::r,i,h=>ET p i h.head
theorem L9:∀(sep:List UInt8),(sep=[32]∨sep=[32,124,32])→∀(f:Bool) (l:List aA) (i:Nat),yC l→Scan (bG sep f l i)
 | sep,hs,f,[],i,h=>by cases f<;>exact Scan.nil
 | sep,hs,f,p::r,i,h=>by
  have h1:=ET p i h.head
  have h2:=L9 sep hs false r i h.tail
  have hss:∀l,Scan l→Scan (sep++l):=by
   intro l hl
   rcases hs with rfl|rfl
   ·exact Scan.cons (by decide) (by decide) hl
   ·exact Scan.cons (by decide) (by decide) (Scan.cons (by decide) (by decide) (Scan.cons (by decide) (by decide) hl))
  have h3:Scan (aG p i++bG sep false r i):=by
   refine Scan.app h1 h2 ?_
   intro c t e
   cases r with
   | nil=>rw [bG] at e;cases e
   | cons q r =>
    rw [bG] at e
    rcases hs with rfl|rfl<;>(obtain ⟨rfl,_⟩:=List.cons.inj e;decide)
  rw [bG]
  cases f
  ·exact hss _ h3
  ·exact h3
end
theorem abw {p l:List UInt8} {ts:List Tk} (hp:Scan p) (hl:fH l ts):fH (91::(p++93::l)) ((4,⟨p.toArray⟩)::ts):=by
 have e0:91::(p++93::l)=(91::(p++[93]))++l:=by simp
 rw [e0]
 refine yR hl (by simp) fun s i h hi=>?_
 have h1:=yS h
 have hb:s[i]=91:=h1.byte
 have h2:Has s (i+1) p (93::l):=by have:=h1.tail.split;rwa [List.singleton_append] at this
 have h3:Has s (i+1+p.length) (93::l) []:=by
  have:=h2.done
  exact ⟨by rw [this.eq];simp,this.le⟩
 have hbr:pO s (i+1)=some (p.length+1):=by
  rw [hp s (i+1) _ h2 (by intro c t e;obtain ⟨rfl,_⟩:=List.cons.inj e;decide),uG h3.lt,h3.byte,if_pos (show (93:UInt8).toNat=93 from rfl)]
  show some (1+p.length)=some (p.length+1)
  congr 1;omega
 have hx:=BM h2
 unfold dI
 rw [hb]
 have e91:(91:UInt8).toNat=91:=rfl
 rw [e91,if_neg (by omega),if_neg (by omega),if_neg (by omega),if_neg (by omega),if_pos rfl,hbr]
 dsimp only
 rw [show i+(p.length+1)=i+1+p.length by omega,hx]
 simp
 omega
end Go.Proofs.YtefjbnhpjdhjmaaGreatDoor

namespace Go.Proofs.YtefjbnhpjdhjmaaGreatDoor
set_option linter.all false
open Go.RowKit
def dF (l:List aj):List UInt8:=Lib.join (l.map (·.data.toList)) [44]
def lI:Bool→List aj→List UInt8
 | _,[]=>[]
 | first,x::r=>(if first then [] else [44])++(x.data.toList++lI false r)
theorem Ld:∀l:List aj,lI true l=dF l:=by
 have key:∀(l:List aj) (x:aj),x.data.toList++lI false l=Lib.join ((x::l).map (·.data.toList)) [44]:=by
  intro l
  induction l with
  | nil=>intro x;simp [lI,Lib.join,List.intercalate]
  | cons y r ih =>
   intro x
   have h:=ih y
   rw [lI]
   simp only [Bool.false_eq_true,if_false]
   rw [h]
   simp [Lib.join,List.intercalate]
 intro l
 cases l with
 | nil=>simp [lI,dF,Lib.join,List.intercalate]
 | cons x r=>rw [lI];simp only [if_true,List.nil_append];exact key r x
theorem Ir:∀(f:Bool) (l:List aj),(∀x∈l,x.size≤16)→(lI f l).length≤17*l.length
 | f,[],_=>by simp [lI]
 | f,x::r,h=>by
  have h1:=Ir false r fun y hy=>h y (List.mem_cons_of_mem _ hy)
  have h2:=h x (List.mem_cons_self ..)
  have e:x.data.toList.length=x.size:=rfl
  rw [lI]
  simp only [List.length_append,List.length_cons]
  split
  ·simp only [List.length_nil];omega
  ·simp only [List.length_cons,List.length_nil];omega
def jO (s:aQ) (pat:List UInt8):List UInt8 :=
 if s.kind=2 then 32::aP s.value 1
 else if s.kind=3 then 32::(aP s.target 1++([32,61,32]++aP s.value 1))
 else if s.kind=4 then 32::(aP s.value 1++([32,63,32]++pat))
 else if s.kind=5 then 32::(aP s.target 1++([32,63,32]++(pat++([32,61,32]++aP s.value 1))))
 else if s.kind=6 then 32::(s.name.data.toList++([32,58,61,32]++pat))
 else if s.kind=7 then [32,68,69,70,73,78,69,32]++(s.name.data.toList++(40::(dF s.params++(41::(dF s.locals++(32::s.entry.data.toList))))))
 else []
def qP (s:aQ):List UInt8 :=
 if s.always.size≠0 then [32,58,40]++(s.always.data.toList++[41])
 else if s.yes.size≠0∨s.aW.size≠0 then
  [32,58]++((if s.yes.size≠0 then [83,40]++(s.yes.data.toList++[41]) else [])++(if s.aW.size≠0 then [70,40]++(s.aW.data.toList++[41]) else []))
 else []
def dJ (s:aQ):Prop:=s.kind=4∨s.kind=5∨s.kind=6
instance (s:aQ):Decidable (dJ s):=by unfold dJ;exact inferInstance
def iG (s:aQ):List UInt8:=if dJ s then 91::((fU s.pat).1++[93]) else []
def lineS (s:aQ):List UInt8:=s.label.data.toList++(jO s (iG s)++qP s)
def fD (s:aQ):List UInt8×Int :=
 if jR s≠0 then ([],jR s)
 else if dJ s∧(fU s.pat).2≠0 then ([],(fU s.pat).2)
 else if (10:UInt8)∈lineS s then ([],2)
 else if 2000<(lineS s).length then ([],4)
 else (lineS s,0)
def JW (s:aQ) (w:World) (e:Ending) (w':World):Prop:=e=.returned (.tuple #[.string ⟨(fD s).1.toArray⟩,.int .i64 (fD s).2])∧Kept aF w w'
structure Vr (s:aQ):Prop where
 label:s.label.size≤16
 always:s.always.size≤16
 yes:s.yes.size≤16
 aW:s.aW.size≤16
 fit:s.always.size=0∨(s.yes.size=0∧s.aW.size=0)
 kind:1≤s.kind∧s.kind≤7
 target:s.kind=3∨s.kind=5→bg s.target=0
 value:s.kind=2∨s.kind=3∨s.kind=4∨s.kind=5→bg s.value=0
 name:s.kind=6∨s.kind=7→s.name.size≤16
 entry:s.kind=7→s.entry.size≤16
 params:s.kind=7→s.params.length≤8∧∀x∈s.params,x.size≤16
 locals:s.kind=7→s.locals.length≤8∧∀x∈s.locals,x.size≤16
theorem jP {x:aj} (h:nD x=true):x.size≤16:=by
 unfold nD at h
 rw [Bool.or_eq_true,decide_eq_true_eq] at h
 rcases h with h|h
 ·omega
 ·exact jD h
theorem kZ:∀{l:List Int},gy l=0→∀e∈l,e=0
 | [],_,e,he=>by cases he
 | x::r,h,e,he=>by
  rw [gy] at h
  by_cases hx:x=0
  ·rw [if_pos hx] at h
   rcases List.mem_cons.1 he with rfl|he
   ·exact hx
   ·exact kZ h e he
  ·rw [if_neg hx] at h;exact absurd h hx
theorem rC:∀{l:List aj},aK l=0→∀x∈l,x.size≤16
 | [],_,x,hx=>by cases hx
 | y::r,h,x,hx=>by
  rw [aK] at h
  by_cases hy:aS y=true
  ·rw [if_pos hy] at h
   rcases List.mem_cons.1 hx with rfl|hx
   ·exact jD hy
   ·exact rC h x hx
  ·rw [if_neg hy] at h;cases h
theorem Yz {s:aQ} (h:jR s=0):Vr s:=by
 unfold jR at h
 by_cases h1:¬(nD s.label=true∧nD s.always=true∧nD s.yes=true∧nD s.aW=true)
 ·rw [if_pos h1] at h;cases h
 rw [if_neg h1] at h
 obtain ⟨a1,a2,a3,a4⟩:=Classical.not_not.1 h1
 by_cases h2:s.always.size≠0∧(s.yes.size≠0∨s.aW.size≠0)
 ·rw [if_pos h2] at h;cases h
 rw [if_neg h2] at h
 have hfit:s.always.size=0∨(s.yes.size=0∧s.aW.size=0):=by omega
 by_cases k1:s.kind=1
 ·exact ⟨jP a1,jP a2,jP a3,jP a4,hfit,by omega,by omega,by omega,by omega,by omega,by omega,by omega⟩
 rw [if_neg k1] at h
 by_cases k2:s.kind=2
 ·rw [if_pos k2] at h
  exact ⟨jP a1,jP a2,jP a3,jP a4,hfit,by omega,by omega,fun _=>h,by omega,by omega,by omega,by omega⟩
 rw [if_neg k2] at h
 by_cases k4:s.kind=4
 ·rw [if_pos k4] at h
  have hz:=kZ h
  exact ⟨jP a1,jP a2,jP a3,jP a4,hfit,by omega,by omega,fun _=>hz _ (by simp),by omega,by omega,by omega,by omega⟩
 rw [if_neg k4] at h
 by_cases k3:s.kind=3
 ·rw [if_pos k3] at h
  have hz:=kZ h
  exact ⟨jP a1,jP a2,jP a3,jP a4,hfit,by omega,fun _=>hz _ (by simp),fun _=>hz _ (by simp),by omega,by omega,by omega,by omega⟩
 rw [if_neg k3] at h
 by_cases k5:s.kind=5
 ·rw [if_pos k5] at h
  have hz:=kZ h
  exact ⟨jP a1,jP a2,jP a3,jP a4,hfit,by omega,fun _=>hz _ (by simp),fun _=>hz _ (by simp),by omega,by omega,by omega,by omega⟩
 rw [if_neg k5] at h
 by_cases k6:s.kind=6
 ·rw [if_pos k6] at h
  have hz:=kZ h
  exact ⟨jP a1,jP a2,jP a3,jP a4,hfit,by omega,by omega,by omega,fun _=>rC (hz (aK [s.name]) (by simp)) _ (by simp),by omega,by omega,by omega⟩
 rw [if_neg k6] at h
 by_cases k7:s.kind=7
 ·rw [if_pos k7] at h
  have hz:=kZ h
  have h8:¬(8<s.params.length∨8<s.locals.length):=by
   intro hx
   have:=hz (if 8<s.params.length∨8<s.locals.length then 5 else 0) (by simp)
   rw [if_pos hx] at this;cases this
  exact ⟨jP a1,jP a2,jP a3,jP a4,hfit,by omega,by omega,by omega,fun _=>rC (hz (aK [s.name]) (by simp)) _ (by simp),fun _=>rC (hz (aK [s.entry]) (by simp)) _ (by simp),fun _=>⟨by omega,rC (hz (aK s.params) (by simp))⟩,fun _=>⟨by omega,rC (hz (aK s.locals) (by simp))⟩⟩
 ·rw [if_neg k7] at h;cases h
theorem tC {p:aA} (h:bg p=0) (hn:tH p):lS p∧sizeT p≤4096:=by
 unfold bg at h
 by_cases hf:fits p
 ·rw [if_pos hf] at h;exact ⟨⟨h,hn⟩,hf.1⟩
 ·rw [if_neg hf] at h;cases h
end Go.Proofs.YtefjbnhpjdhjmaaGreatDoor
