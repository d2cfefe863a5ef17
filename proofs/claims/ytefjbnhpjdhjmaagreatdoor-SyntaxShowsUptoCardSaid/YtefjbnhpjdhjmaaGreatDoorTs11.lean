/-  -/
import Derived.Test.YtefjbnhpjdhjmaaGreatDoorRd11
import Derived.Test.YtefjbnhpjdhjmaaGreatDoorTs15
import Derived.Recover
import Derived.RegionTactic
import Derived.BigRegion
namespace Go.Proofs.YtefjbnhpjdhjmaaGreatDoor
set_option linter.all false
open Go.RowKit
theorem fU.pats {w:World} {S:Nat→Prop}:∀{l:List aA} {cs:List Value},fU w S cs l→∀(g o:Nat),(∀j u,cs[j]?=some u→w.cell? ⟨g,o+j,none⟩=some u)→aI w (fun b=>S b∨b=g) (some ⟨g,o,none⟩) l
 | [],cs,h,g,o,hc=>by unfold aI;trivial
 | p::ps,cs,h,g,o,hc=>by
  rw [fU] at h;obtain ⟨c,r,rfl,⟨ka,cap,rfl,hz,hk⟩,h2⟩:=h
  unfold aI
  refine ⟨g,o,rfl,?_,h2.pats g (o+5) fun i u hi=>?_⟩
  ·obtain ⟨k,t,n,nm,kids⟩:=p
   unfold dH
   exact ⟨.inr rfl,hz,hc 0 _ rfl,hc 1 _ rfl,hc 2 _ rfl,hc 3 _ rfl,ka,cap,hc 4 _ rfl,aI.same (fun _ _=>rfl) (fun b h=>.inl h) _ _ hk⟩
  ·rw [show o+5+i=o+(5+i) by omega];exact hc _ _ (by rw [List.getElem?_append_right (by simp)];simpa using hi)
theorem fU.more {w:World} {S S':Nat→Prop}:∀{l:List aA} {cs:List Value},fU w S cs l→(∀b,S b→S' b)→fU w S' cs l
 | [],_,h,_=>h
 | p::ps,cs,h,hs=>by
  rw [fU] at h⊢;obtain ⟨c,r,rfl,⟨ka,cap,rfl,hz,hk⟩,h2⟩:=h
  exact ⟨_,r,rfl,⟨ka,cap,rfl,hz,aI.same (fun _ _=>rfl) hs _ _ hk⟩,h2.more hs⟩
structure sH (N W:Nat) (s:aj) (d:Nat) (w:World) (l:List aA) (k:Nat) (v:Value) (wx:World):Prop where
 bY:eU N W s k d wx
 own:∃(cs:List Value) (S:Nat→Prop),bT wx (w.heap.size+1) 27 5 v l.length cs∧fU wx S cs l∧∀b,S b→w.heap.size<b∧b<wx.heap.size∧v.ownBlock≠some b
 zero:uG w.heap.size wx
 kept:Kept (· = N) w wx
 len:l.length≤k
theorem sH.next {N W:Nat} {s:aj} {d:Nat} {w wx w':World} {l:List aA} {k k':Nat} {v:Value} (h:sH N W s d w l k v wx) (hN:N<w.heap.size) (hk:Kept (· = N) wx w') (hr:eU N W s k' d w') (hkk:k≤k'):sH N W s d w l k' v w':=by
 obtain ⟨cs,S,h1,h2,h3⟩:=h.own
 refine ⟨hr,⟨cs,S,h1.kept hk (fun b hb=>?_),h2.kept hk (fun b hb=>⟨(h3 b hb).2.1,?_⟩),fun b hb=>⟨(h3 b hb).1,Nat.lt_of_lt_of_le (h3 b hb).2.1 hk.size,(h3 b hb).2.2⟩⟩,Five.kept h.zero hk (by omega),h.kept.trans hk,Nat.le_trans h.len hkk⟩
 ·have:=(h1.lt b hb).1;omega
 ·have:=(h3 b hb).1;omega
def aac (p:aA) (ka:Option Addr) (cap:Nat):List Value:=[.int .i64 p.kind,.string p.text,.int .i64 p.n,.string p.name,.slice ka p.kids.length cap]
theorem IY {N W:Nat} {s:aj} {d:Nat} {w w1 w2:World} {p:aA} {k:Nat} {ka:Option Addr} {cap:Nat} {S:Nat→Prop} (hN:N<w.heap.size) (h1:w.heap.size<w1.heap.size) (h12:w1.heap.size≤w2.heap.size) (R:eU N W s k d w2) (Z:uG w.heap.size w2) (K:Kept (· = N) w w2)
  (hz:p.text.size<1000000000∧p.name.size<1000000000∧p.kids.length<1000000000) (hS:∀b,S b→w1.heap.size≤b∧b<w2.heap.size) (hk:aI w2 S ka p.kids) (hk1:1≤k) :
  sH N W s d w [p] k (.slice (some ⟨w2.heap.size,0,none⟩) 1 1) (w2.alloc (.cells #[.int .i64 p.kind,.string p.text,.int .i64 p.n,.string p.name,.slice ka p.kids.length cap] 27)):=by
 have kA:Kept aC w2 (w2.alloc (.cells #[.int .i64 p.kind,.string p.text,.int .i64 p.n,.string p.name,.slice ka p.kids.length cap] 27)):=(Kept.refl _ _).alloc _
 refine ⟨R.kept kA (fun h=>h) (fun h=>h),⟨aac p ka cap,S,⟨rfl,.inr ⟨w2.heap.size,0,1,_,rfl,by omega,ay w2 _,Nat.le_refl _,by decide,by simp,by simp [aac]⟩⟩,?_,fun b hb=>⟨by have:=hS b hb;omega,Nat.lt_of_lt_of_le (hS b hb).2 kA.size,?_⟩⟩,Five.kept Z kA (fun h=>h),K.quiet kA,hk1⟩
 ·rw [fU];exact ⟨_,[],(List.append_nil _).symm,⟨ka,cap,rfl,hz,hk.kept kA (fun b hb=>⟨(hS b hb).2,fun h=>h⟩)⟩,rfl⟩
 ·have:=hS b hb;simp [Value.ownBlock];omega
theorem Lp {N W:Nat} {s:aj} {d:Nat} {w w1 w2 w3:World} {l:List aA} {q:aA} {k k2:Nat} {v:Value} {a':Option Addr} {c':Nat} {ka:Option Addr} {cap:Nat} {cs:List Value} {S S2:Nat→Prop} (hN:N<w.heap.size) (hW:W<w.heap.size)
  (I:sH N W s d w l k v w1) (h1:bT w1 (w.heap.size+1) 27 5 v l.length cs) (h2:fU w1 S cs l) (h3:∀b,S b→w.heap.size<b∧b<w1.heap.size∧v.ownBlock≠some b)
  (hk:Kept (· = N) w1 w2) (R:eU N W s k2 d w2) (hkk:k<k2) (hz:q.text.size<1000000000∧q.name.size<1000000000∧q.kids.length<1000000000) (hS2:∀b,S2 b→w1.heap.size≤b∧b<w2.heap.size) (hq:aI w2 S2 ka q.kids)
  (hw:bT w3 (w.heap.size+1) 27 5 (.slice a' (l.length+1) c') (l.length+1) (cs++[.int .i64 q.kind,.string q.text,.int .i64 q.n,.string q.name,.slice ka q.kids.length cap])) (hg:(w2.alloc (.cells #[.int .i64 q.kind,.string q.text,.int .i64 q.n,.string q.name,.slice ka q.kids.length cap] 27)).grownBy w3 v.ownBlock)
  (ho:(Value.slice a' (l.length+1) c').ownBlock=v.ownBlock∨(Value.slice a' (l.length+1) c').ownBlock=some (w2.heap.size+1)) :
  sH N W s d w (l++[q]) k2 (.slice a' (l++[q]).length c') w3:=by
 have kA:Kept aC w2 (w2.alloc (.cells #[.int .i64 q.kind,.string q.text,.int .i64 q.n,.string q.name,.slice ka q.kids.length cap] 27)):=(Kept.refl _ _).alloc _
 have hlow:∀b,v.ownBlock=some b→w.heap.size+1≤b∧b<w1.heap.size:=h1.lt
 have agl:=hk.size
 have FP:Kept (fun b=>v.ownBlock=some b) w2 w3:=(kA.more fun _ h=>h.elim).grown hg fun b hb=>.inl hb
 have e1:(l++[q]).length=l.length+1:=by simp
 rw [e1]
 refine ⟨R.kept FP (fun h=>by have:=hlow N h;omega) (fun h=>by have:=hlow W h;omega),⟨_,fun b=>S b∨S2 b,by rw [e1];exact hw,?_,fun b hb=>?_⟩,?_,(I.kept.trans hk).step FP (fun y hy=>.inr (by have:=hlow y hy;omega)),by rw [e1];have:=I.len;omega⟩
 ·refine fU.append ?_ ?_
  ·exact ((h2.kept hk (fun b hb=>⟨(h3 b hb).2.1,by have:=(h3 b hb).1;omega⟩)).kept FP (fun b hb=>⟨by have:=(h3 b hb).2.1;omega,(h3 b hb).2.2⟩)).more fun b h=>.inl h
  ·rw [fU];refine ⟨_,[],(List.append_nil _).symm,⟨ka,cap,rfl,hz,?_⟩,rfl⟩
   exact aI.to hq FP (fun b hb=>⟨(hS2 b hb).2,fun h=>by have:=hlow b h;have:=(hS2 b hb).1;omega⟩) (fun b h=>.inr h)
 ·have h23:=FP.size
  rcases hb with hb|hb
  ·have:=h3 b hb
   refine ⟨this.1,by omega,?_⟩
   rcases ho with h|h
   ·rw [h];exact this.2.2
   ·rw [h];simp;omega
  ·have:=hS2 b hb
   refine ⟨by have:=I.zero.lt;omega,by omega,?_⟩
   rcases ho with h|h
   ·rw [h];intro h';have:=hlow b h';omega
   ·rw [h];simp;omega
 ·exact Five.kept (Five.kept I.zero hk (by omega)) FP (fun h=>by have:=hlow _ h;omega)
theorem sH.pats {N W:Nat} {s:aj} {d:Nat} {w wx:World} {l:List aA} {k:Nat} {v:Value} (h:sH N W s d w l k v wx) (h0:0<l.length) :
  ∃g o c S,v=.slice (some ⟨g,o,none⟩) l.length c∧aI wx S (some ⟨g,o,none⟩) l∧∀b,S b→w.heap.size<b∧b<wx.heap.size:=by
 obtain ⟨cs,S,h1,h2,h3⟩:=h.own
 rcases h1.cells with ⟨_,hn⟩|⟨g,o,c,hv,hg1,hg2,_,_,hc⟩
 ·omega
 ·refine ⟨g,o,c,fun b=>S b∨b=g,hv,h2.pats g o (fun j u hu=>(hc j u hu).1),fun b hb=>?_⟩
  rcases hb with hb|rfl
  ·exact ⟨(h3 b hb).1,(h3 b hb).2.1⟩
  ·omega
theorem aI.one {w:World} {S:Nat→Prop} {g o:Nat} {p:aA} (h:aI w S (some ⟨g,o,none⟩) [p]):dH w S g o p:=by
 unfold aI at h;obtain ⟨b,o',e,h,_⟩:=h
 simp only [Option.some.injEq,Addr.mk.injEq,and_true] at e
 obtain ⟨rfl,rfl⟩:=e;exact h
end Go.Proofs.YtefjbnhpjdhjmaaGreatDoor

namespace Go.Proofs.YtefjbnhpjdhjmaaGreatDoor
set_option linter.all false
open Go.RowKit
set_option maxRecDepth 100000
set_option maxHeartbeats 4000000
def adv (N W:Nat) (s:aj) (d:Nat) (cat:Nat→cZ aA):Prop :=
 ∀(i:Nat) (w:World),eU N W s i d w→i≤s.size→Calls Tryz.prog 117 #[.pointer (some ⟨N,0,none⟩)] w (dh N W s d (cat i) (gJ w.heap.size) w)
def acz (N W:Nat) (s:aj) (d:Nat) (item:Nat→cZ aA):Prop :=
 ∀(i:Nat) (w:World),eU N W s i d w→i≤s.size→Calls Tryz.prog 122 #[.pointer (some ⟨N,0,none⟩)] w (dh N W s d (item i) (gJ w.heap.size) w)
theorem aaH (N W:Nat) (s:aj) (i d:Nat) (w:World) (inner:Nat→cZ aA) (hc:adv N W s d (kJ inner s)) (hf:eH s (kJ inner s)) (hr:eU N W s i d w) (hi:i≤s.size) (hs6:s.size≤65536) :
  Calls Tryz.prog 108 #[.pointer (some ⟨N,0,none⟩)] w (dh N W s d (lS inner s i) (gJ w.heap.size) w):=by
 have HR:=ah hr;have HC:=ah hc;have HF:=ah hf
 have hN:=hr.lt;have hW:=hr.tq;clear hr hc hf
 have hs:s.size≤1000000000:=by omega
 obtain ⟨i0,hi0,hz0,hz1,hz2⟩:=info_parts Tryz.infoP
 have Z0:Hid (uG w.heap.size (w.alloc (.cells #[.int .i64 0,.string ⟨#[]⟩,.int .i64 0,.string ⟨#[]⟩,.slice none 0 0] 27))):=ay w _
 have K0:Hid (Kept (· = N) w (w.alloc (.cells #[.int .i64 0,.string ⟨#[]⟩,.int .i64 0,.string ⟨#[]⟩,.slice none 0 0] 27))):=(Kept.refl _ w).alloc _
 go_enter Tryz.func108, Tryz.ntmps108
 go_wp2_with fail
 refine (HC.out i _ (HR.out.kept ((Kept.refl aC w).alloc _) (fun h=>h) (fun h=>h)) hi).mono ?_
 rintro e w2 ⟨k_,h⟩
 have Z2:=ah (Five.kept Z0.out k_ (by omega));have K2:=ah (K0.out.trans k_)
 have hsz2:=k_.size
 clear k_
 cases ht:(kJ inner s) i with
 | error er =>
  rw [ht] at h
  obtain rfl:=h
  have hr:Hid (lS inner s i=.error er):=by unfold Hid lS;rw [ht]
  clear ht
  go_wp2_with fail
  exact bK rfl hr.out K2.out
 | ok y =>
  obtain ⟨p,k0⟩:=y
  rw [ht] at h
  obtain ⟨_,rfl,⟨S,hS,⟨ka,cap,rfl,hz,hk⟩⟩,R2⟩:=h
  have hk0:=HF.out _ _ _ hi ht
  have LS:=ah (IY (cap:=cap) hN (w1:=w.alloc (.cells #[.int .i64 0,.string ⟨#[]⟩,.int .i64 0,.string ⟨#[]⟩,.slice none 0 0] 27)) (by simp) hsz2 R2 Z2.out K2.out hz hS hk (by omega))
  have E0':Hid (lS inner s i=pI inner s (s.size+1-k0) [p] k0):=by unfold Hid lS;rw [ht]
  clear ht hz hS hk R2 hsz2 Z0 K0 Z2 K2
  go_wp2_with fail
  go_loopg [3] (s.size+1-k0) (fun f v wr=>∃(l:List aA) (k:Nat) (a:Option Addr) (c:Nat),s.size+1-k≤f∧k≤s.size∧0<l.length∧l.length≤k∧v=.slice a l.length c∧Hid (sH N W s d w l k v wr)∧Hid (lS inner s i=pI inner s f l k))
  case atStart=>exact ⟨[p],k0,_,_,Nat.le_refl _,hk0.2,by simp,by simp;omega,rfl,LS,E0'⟩
  case round =>
   obtain ⟨l,k,a,c,hf,hk,hl0,hlk,rfl,I,E⟩:=hrel
   obtain ⟨f,hgk⟩:∃f,gk=f+1:=⟨gk-1,by omega⟩
   have E1:=E.out
   rw [hgk,pI] at E1
   have hf2:s.size-k≤f:=by omega
   have hfl:f<gk:=by omega
   have EE:=ah E1
   clear hgk hf E LS E0' hk0 E1
   go_wp2_with fail
   refine (Et 124 N W (by decide) s k d _ I.out.bY hk hs).mono ?_
   rintro e w1 ⟨rfl,R1,K1⟩
   have E1:=EE.out;clear EE
   have hj:=lN (c:=124) hk
   cases hb:(fH 124 s k).1 with
   | true =>
    rw [if_pos hb] at E1
    have hlt1:=Ou hb
    have I1:=ah (I.out.next hN K1 R1 (by omega))
    generalize (fH 124 s k).2=j at *
    replace hj:=hj.1
    clear I R1 K1 hb
    have HE:=ah E1
    clear E1
    go_wp2_with fail
    refine (HC.out j _ I1.out.bY hj).mono ?_
    rintro e w2 ⟨k_,h⟩
    cases ht:(kJ inner s) j with
    | error er =>
     rw [ht] at h
     obtain rfl:=h
     have hr:Hid (lS inner s i=.error er):=by unfold Hid;rw [HE.out,ht]
     have KE:=ah (I1.out.kept.trans k_)
     clear ht k_
     go_wp2_with fail
     exact bK rfl hr.out KE.out
    | ok y =>
     obtain ⟨q,k2⟩:=y
     rw [ht] at h
     obtain ⟨_,rfl,⟨S2,hS2,⟨ka,cap,rfl,hz,hq⟩⟩,R2⟩:=h
     have hk2:=HF.out _ _ _ hj ht
     have HE2:=ah (HE.out.trans (by rw [ht]))
     obtain ⟨cs,S,hw1,hr1,hS1⟩:=I1.out.own
     have hlow:=hw1.lt
     have Wb:=ah ((hw1.kept k_ (fun b hb=>by have:=(hw1.lt b hb).1;omega)).alloc (.cells #[.int .i64 q.kind,.string q.text,.int .i64 q.n,.string q.name,.slice ka q.kids.length cap] 27))
     have aeJ:=k_.size
     have hww:=I1.out.kept.size
     have hwz:=I1.out.zero.lt
     have LM:Hid (∀(a':Option Addr) (c':Nat) (w3:World),bT w3 (w.heap.size+1) 27 5 (.slice a' (l.length+1) c') (l.length+1) (cs++[.int .i64 q.kind,.string q.text,.int .i64 q.n,.string q.name,.slice ka q.kids.length cap])→
       (w2.alloc (.cells #[.int .i64 q.kind,.string q.text,.int .i64 q.n,.string q.name,.slice ka q.kids.length cap] 27)).grownBy w3 (Value.slice a l.length c).ownBlock→((Value.slice a' (l.length+1) c').ownBlock=(Value.slice a l.length c).ownBlock∨(Value.slice a' (l.length+1) c').ownBlock=some (w2.heap.size+1))→
       sH N W s d w (l++[q]) k2 (.slice a' (l++[q]).length c') w3):=fun a' c' w3 x1 x2 x3=>Lp hN hW I1.out hw1 hr1 hS1 k_ R2 (by omega) hz hS2 hq x1 x2 x3
     have el:(l++[q]).length=l.length+1:=by simp
     have EL:=ah el
     clear ht hz hS2 hq R2 k_ hw1 hr1 hS1 hlow el
     go_wp2_with (at_builtin;go_loud (refine jq _ rfl (.tmp 9) (.tmp 12) 25 25 rfl (w.heap.size+1) 27 i0 (.agg #[.int .i64 0,.string ⟨#[]⟩,.int .i64 0,.string ⟨#[]⟩,.slice none 0 0]) 5 72 Tryz.underlying25 hi0 hz0 hz1 hz2 rfl (.slice a l.length c) l.length cs rfl Wb.out _ 1 [.int .i64 q.kind,.string q.text,.int .i64 q.n,.string q.name,.slice ka q.kids.length cap] rfl (Src.ofSlice _ Tryz.underlying25 _ _ _ _ rfl (World.news_of_block (fr:=(0,0)) (cs:=#[.int .i64 q.kind,.string q.text,.int .i64 q.n,.string q.name,.slice ka q.kids.length cap]) (dO (by simp))) (by intro u hu;simp at hu;rcases hu with rfl|rfl|rfl|rfl|rfl<;>rfl)) (by unfold maxLen;omega) (by omega) (by simp;omega) ?_);intro a3 c3 w3 hW3 hg3 ho3)
     have I3:=ah (LM.out a3 c3 w3 hW3 hg3 (by simpa using ho3))
     clear hW3 hg3 ho3 LM Wb
     go_wp2_with fail
     go_roundg f
     case measure=>exact hfl
     case rel=>exact ⟨l++[q],k2,a3,c3,by omega,hk2.2,by rw [EL.out];omega,by rw [EL.out];omega,by rw [EL.out],by have h:=I3.out;rw [EL.out] at h;exact h,HE2⟩
   | false =>
    rw [if_neg (by simp [hb])] at E1
    have I1:=ah (I.out.next hN K1 R1 hj.2)
    generalize (fH 124 s k).2=j at *
    clear I R1 K1 hb
    have hr:Hid (lS inner s i=.ok (tV 19 l,j)):=E1
    clear E1
    obtain ⟨g,o,c',S,hv,hp,hS⟩:=sH.pats I1.out hl0
    simp only [Value.slice.injEq,true_and] at hv
    obtain ⟨rfl,rfl⟩:=hv
    obtain ⟨c0,c1,c2,c3,c4,cf⟩:=Five.cells I1.out.zero
    have f0:=cf 0;have f1:=cf 1;have f2:=cf 2;have f3:=cf 3;have f4:=cf 4;clear cf
    have HS:=ah hS;clear hS
    by_cases h1:l.length=1
    ·obtain ⟨p1,rfl⟩:∃p1,l=[p1]:=List.length_eq_one_iff.1 h1
     obtain ⟨hb1,hz1,e0,e1,e2,e3,ka1,cap1,e4,hk1⟩:=hp.one.open
     have HZ1:=ah hz1;have iG:=ah hk1
     clear hp hz1 hk1 h1 hl0 hlk
     go_wp2_with fail
     exact jE (p:=p1) (S:=S) rfl rfl I1.out.zero I1.out.bY I1.out.kept (Nat.le_refl _) hN hW hr.out HZ1.out (fun b hb=>by have:=HS.out b hb;omega) iG.out
    ·have hne:((l.length:Int)==1)=false:=by simp;omega
     have e1:tV 19 l=.mk 19 E0 0 E0 l:=by
      match l,h1 with
      | [],_=>rfl
      | [_],h1=>simp at h1
      | _::_::_,_=>rfl
     have hr2:Hid (lS inner s i=.ok (.mk 19 E0 0 E0 l,j)):=by unfold Hid;rw [hr.out,e1]
     have HP:=ah hp
     have hlz:l.length<1000000000:=by omega
     clear hp e1 h1
     go_wp2_with fail
     exact jE (p:=.mk 19 E0 0 E0 l) (S:=S) rfl rfl I1.out.zero I1.out.bY I1.out.kept (Nat.le_refl _) hN hW hr2.out ⟨jL,jL,hlz⟩ (fun b hb=>by have:=HS.out b hb;omega) HP.out
theorem aaI (N W:Nat) (s:aj) (i d:Nat) (w:World) (inner:Nat→cZ aA) (hc:acz N W s d (iZ inner s)) (hf:eH s (iZ inner s)) (hr:eU N W s i d w) (hi:i≤s.size) (hs6:s.size≤65536) :
  Calls Tryz.prog 117 #[.pointer (some ⟨N,0,none⟩)] w (dh N W s d (kJ inner s i) (gJ w.heap.size) w):=by
 have HR:=ah hr;have HC:=ah hc;have HF:=ah hf
 have hN:=hr.lt;have hW:=hr.tq;clear hr hc hf
 have hs:s.size≤1000000000:=by omega
 obtain ⟨i0,hi0,hz0,hz1,hz2⟩:=info_parts Tryz.infoP
 have Z0:Hid (uG w.heap.size (w.alloc (.cells #[.int .i64 0,.string ⟨#[]⟩,.int .i64 0,.string ⟨#[]⟩,.slice none 0 0] 27))):=ay w _
 have K0:Hid (Kept (· = N) w (w.alloc (.cells #[.int .i64 0,.string ⟨#[]⟩,.int .i64 0,.string ⟨#[]⟩,.slice none 0 0] 27))):=(Kept.refl _ w).alloc _
 go_enter Tryz.func117, Tryz.ntmps117
 go_wp2_with fail
 refine (HC.out i _ (HR.out.kept ((Kept.refl aC w).alloc _) (fun h=>h) (fun h=>h)) hi).mono ?_
 rintro e w2 ⟨k_,h⟩
 have Z2:=ah (Five.kept Z0.out k_ (by omega));have K2:=ah (K0.out.trans k_)
 have hsz2:=k_.size
 clear k_
 cases ht:(iZ inner s) i with
 | error er =>
  rw [ht] at h
  obtain rfl:=h
  have hr:Hid (kJ inner s i=.error er):=by unfold Hid kJ;rw [ht]
  clear ht
  go_wp2_with fail
  exact bK rfl hr.out K2.out
 | ok y =>
  obtain ⟨p,k0⟩:=y
  rw [ht] at h
  obtain ⟨_,rfl,⟨S,hS,⟨ka,cap,rfl,hz,hk⟩⟩,R2⟩:=h
  have hk0:=HF.out _ _ _ hi ht
  have LS:=ah (IY (cap:=cap) hN (w1:=w.alloc (.cells #[.int .i64 0,.string ⟨#[]⟩,.int .i64 0,.string ⟨#[]⟩,.slice none 0 0] 27)) (by simp) hsz2 R2 Z2.out K2.out hz hS hk (by omega))
  have E0':Hid (kJ inner s i=pG inner s (s.size+1-k0) [p] k0):=by unfold Hid kJ;rw [ht]
  clear ht hz hS hk R2 hsz2 Z0 K0 Z2 K2
  go_wp2_with fail
  go_loopg [3] (s.size+1-k0) (fun f v wr=>∃(l:List aA) (k:Nat) (a:Option Addr) (c:Nat),s.size+1-k≤f∧k≤s.size∧0<l.length∧l.length≤k∧v=.slice a l.length c∧Hid (sH N W s d w l k v wr)∧Hid (kJ inner s i=pG inner s f l k))
  case atStart=>exact ⟨[p],k0,_,_,Nat.le_refl _,hk0.2,by simp,by simp;omega,rfl,LS,E0'⟩
  case round =>
   obtain ⟨l,k,a,c,hf,hk,hl0,hlk,rfl,I,E⟩:=hrel
   obtain ⟨f,hgk⟩:∃f,gk=f+1:=⟨gk-1,by omega⟩
   have E1:=E.out
   rw [hgk,pG] at E1
   have hf2:s.size-k≤f:=by omega
   have hfl:f<gk:=by omega
   have EE:=ah E1
   clear hgk hf E LS E0' hk0 E1
   go_wp2_with fail
   refine (next_any N W s k d _ I.out.bY hk hs).mono ?_
   rintro e w1 ⟨rfl,R1,K1⟩
   have E1:=EE.out;clear EE
   have hj:=dG hk;have hkj:=kR s k
   have I1:=ah (I.out.next hN K1 R1 hkj)
   generalize hjj:skip s k=j at *
   have QC:=ah E1
   clear I R1 K1 E1 hjj
   go_upto_if 12 with fail
   go_cut [12] (fun b wx=>b=.bool (starts (peek s j))∧w1=wx)
   case first =>
    by_cases b1:peek s j=40
    ·have z1:(peek s j==40)=true:=by simpa using b1
     clear b1
     go_wp2_with fail
     go_meet
     exact ⟨by unfold starts;simp [z1],rfl⟩
    have z1:(peek s j==40)=false:=by simpa using b1
    by_cases b2:peek s j=39
    ·have z2:(peek s j==39)=true:=by simpa using b2
     clear b1 b2
     go_wp2_with fail
     go_meet
     exact ⟨by unfold starts;simp [z1,z2],rfl⟩
    have z2:(peek s j==39)=false:=by simpa using b2
    by_cases b3:peek s j=64
    ·have z3:(peek s j==64)=true:=by simpa using b3
     clear b1 b2 b3
     go_wp2_with fail
     go_meet
     exact ⟨by unfold starts;simp [z1,z2,z3],rfl⟩
    have z3:(peek s j==64)=false:=by simpa using b3
    by_cases b4:peek s j=42
    ·have z4:(peek s j==42)=true:=by simpa using b4
     clear b1 b2 b3 b4
     go_wp2_with fail
     go_meet
     exact ⟨by unfold starts;simp [z1,z2,z3,z4],rfl⟩
    have z4:(peek s j==42)=false:=by simpa using b4
    clear b1 b2 b3 b4
    by_cases b5:65≤peek s j
    ·have z5:decide (65≤peek s j)=true:=ak b5
     by_cases b6:peek s j≤90
     ·have z6:decide (peek s j≤90)=true:=ak b6
      clear b5 b6
      go_wp2_with fail
      go_meet
      exact ⟨by unfold starts;simp [z1,z2,z3,z4,z5,z6],rfl⟩
     ·have z6:decide (peek s j≤90)=false:=au b6
      clear b5 b6
      go_wp2_with fail
      go_meet
      exact ⟨by unfold starts;simp [z1,z2,z3,z4,z5,z6],rfl⟩
    ·have z5:decide (65≤peek s j)=false:=au b5
     clear b5
     go_wp2_with fail
     go_meet
     exact ⟨by unfold starts;simp [z1,z2,z3,z4,z5],rfl⟩
   case rest =>
    obtain ⟨rfl,rfl⟩:=hcut
    have E1:=QC.out;clear QC
    cases hb:starts (peek s j) with
    | true =>
     rw [if_pos hb] at E1
     clear hb
     have HE:=ah E1
     clear E1
     go_wp2_with fail
     refine (HC.out j _ I1.out.bY hj).mono ?_
     rintro e w2 ⟨k_,h⟩
     cases ht:(iZ inner s) j with
     | error er =>
      rw [ht] at h
      obtain rfl:=h
      have hr:Hid (kJ inner s i=.error er):=by unfold Hid;rw [HE.out,ht]
      have KE:=ah (I1.out.kept.trans k_)
      clear ht k_
      go_wp2_with fail
      exact bK rfl hr.out KE.out
     | ok y =>
      obtain ⟨q,k2⟩:=y
      rw [ht] at h
      obtain ⟨_,rfl,⟨S2,hS2,⟨ka,cap,rfl,hz,hq⟩⟩,R2⟩:=h
      have hk2:=HF.out _ _ _ hj ht
      have HE2:=ah (HE.out.trans (by rw [ht]))
      obtain ⟨cs,S,hw1,hr1,hS1⟩:=I1.out.own
      have hlow:=hw1.lt
      have Wb:=ah ((hw1.kept k_ (fun b hb=>by have:=(hw1.lt b hb).1;omega)).alloc (.cells #[.int .i64 q.kind,.string q.text,.int .i64 q.n,.string q.name,.slice ka q.kids.length cap] 27))
      have aeJ:=k_.size
      have hww:=I1.out.kept.size
      have hwz:=I1.out.zero.lt
      have LM:Hid (∀(a':Option Addr) (c':Nat) (w3:World),bT w3 (w.heap.size+1) 27 5 (.slice a' (l.length+1) c') (l.length+1) (cs++[.int .i64 q.kind,.string q.text,.int .i64 q.n,.string q.name,.slice ka q.kids.length cap])→
        (w2.alloc (.cells #[.int .i64 q.kind,.string q.text,.int .i64 q.n,.string q.name,.slice ka q.kids.length cap] 27)).grownBy w3 (Value.slice a l.length c).ownBlock→((Value.slice a' (l.length+1) c').ownBlock=(Value.slice a l.length c).ownBlock∨(Value.slice a' (l.length+1) c').ownBlock=some (w2.heap.size+1))→
        sH N W s d w (l++[q]) k2 (.slice a' (l++[q]).length c') w3):=fun a' c' w3 x1 x2 x3=>Lp hN hW I1.out hw1 hr1 hS1 k_ R2 (by omega) hz hS2 hq x1 x2 x3
      have el:(l++[q]).length=l.length+1:=by simp
      have EL:=ah el
      clear ht hz hS2 hq R2 k_ hw1 hr1 hS1 hlow el
      go_wp2_with (at_builtin;go_loud (refine jq _ rfl (.tmp 27) (.tmp 30) 25 25 rfl (w.heap.size+1) 27 i0 (.agg #[.int .i64 0,.string ⟨#[]⟩,.int .i64 0,.string ⟨#[]⟩,.slice none 0 0]) 5 72 Tryz.underlying25 hi0 hz0 hz1 hz2 rfl (.slice a l.length c) l.length cs rfl Wb.out _ 1 [.int .i64 q.kind,.string q.text,.int .i64 q.n,.string q.name,.slice ka q.kids.length cap] rfl (Src.ofSlice _ Tryz.underlying25 _ _ _ _ rfl (World.news_of_block (fr:=(0,0)) (cs:=#[.int .i64 q.kind,.string q.text,.int .i64 q.n,.string q.name,.slice ka q.kids.length cap]) (dO (by simp))) (by intro u hu;simp at hu;rcases hu with rfl|rfl|rfl|rfl|rfl<;>rfl)) (by unfold maxLen;omega) (by omega) (by simp;omega) ?_);intro a3 c3 w3 hW3 hg3 ho3)
      have I3:=ah (LM.out a3 c3 w3 hW3 hg3 (by simpa using ho3))
      clear hW3 hg3 ho3 LM Wb
      go_wp2_with fail
      go_roundg f
      case measure=>exact hfl
      case rel=>exact ⟨l++[q],k2,a3,c3,by omega,hk2.2,by rw [EL.out];omega,by rw [EL.out];omega,by rw [EL.out],by have h:=I3.out;rw [EL.out] at h;exact h,HE2⟩
    | false =>
     rw [if_neg (by simp [hb])] at E1
     clear hb
     have hr:Hid (kJ inner s i=.ok (tV 18 l,j)):=E1
     clear E1
     obtain ⟨g,o,c',S,hv,hp,hS⟩:=sH.pats I1.out hl0
     simp only [Value.slice.injEq,true_and] at hv
     obtain ⟨rfl,rfl⟩:=hv
     obtain ⟨c0,c1,c2,c3,c4,cf⟩:=Five.cells I1.out.zero
     have f0:=cf 0;have f1:=cf 1;have f2:=cf 2;have f3:=cf 3;have f4:=cf 4;clear cf
     have HS:=ah hS;clear hS
     by_cases h1:l.length=1
     ·obtain ⟨p1,rfl⟩:∃p1,l=[p1]:=List.length_eq_one_iff.1 h1
      obtain ⟨hb1,hz1,e0,e1,e2,e3,ka1,cap1,e4,hk1⟩:=hp.one.open
      have HZ1:=ah hz1;have iG:=ah hk1
      clear hp hz1 hk1 h1 hl0 hlk
      go_wp2_with fail
      exact jE (p:=p1) (S:=S) rfl rfl I1.out.zero I1.out.bY I1.out.kept (Nat.le_refl _) hN hW hr.out HZ1.out (fun b hb=>by have:=HS.out b hb;omega) iG.out
     ·have hne:((l.length:Int)==1)=false:=by simp;omega
      have e1:tV 18 l=.mk 18 E0 0 E0 l:=by
       match l,h1 with
       | [],_=>rfl
       | [_],h1=>simp at h1
       | _::_::_,_=>rfl
      have hr2:Hid (kJ inner s i=.ok (.mk 18 E0 0 E0 l,j)):=by unfold Hid;rw [hr.out,e1]
      have HP:=ah hp
      have hlz:l.length<1000000000:=by omega
      clear hp e1 h1
      go_wp2_with fail
      exact jE (p:=.mk 18 E0 0 E0 l) (S:=S) rfl rfl I1.out.zero I1.out.bY I1.out.kept (Nat.le_refl _) hN hW hr2.out ⟨jL,jL,hlz⟩ (fun b hb=>by have:=HS.out b hb;omega) HP.out
end Go.Proofs.YtefjbnhpjdhjmaaGreatDoor

namespace Go.Proofs.YtefjbnhpjdhjmaaGreatDoor
set_option linter.all false
open Go.RowKit
set_option maxRecDepth 100000
theorem Ew {s:aj}:∀(f:Nat) (p:aA) (k:Nat) {q:aA} {k':Nat},k≤s.size→jA s f p k=.ok (q,k')→k≤k'∧k'≤s.size
 | 0,p,k,q,k',hk,h=>by simp [jA] at h;omega
 | f+1,p,k,q,k',hk,h=>by
  have h1:=lN (c:=46) hk
  rw [jA] at h
  split at h
  ·cases hn:nameP s (fH 46 s k).2 with
   | error e=>rw [hn] at h;cases h
   | ok y =>
    obtain ⟨nm,k1⟩:=y
    rw [hn] at h
    have h2:=qw h1.1 hn
    have:=Ew f _ k1 h2.2 h
    omega
  ·have h3:=lN (c:=36) h1.1
   split at h
   ·cases hn:nameP s (fH 36 s (fH 46 s k).2).2 with
    | error e=>rw [hn] at h;cases h
    | ok y =>
     obtain ⟨nm,k1⟩:=y
     rw [hn] at h
     have h2:=qw h3.1 hn
     have:=Ew f _ k1 h2.2 h
     omega
   ·simp only [Except.ok.injEq,Prod.mk.injEq] at h;omega
theorem uJ {s:aj} {inner:Nat→cZ aA} (hf:eH s inner):eH s (iZ inner s):=by
 intro i p k hi h
 unfold iZ at h
 cases hh:lQ inner s i with
 | error e=>rw [hh] at h;cases h
 | ok y =>
  obtain ⟨q,k1⟩:=y
  rw [hh] at h
  have h1:=Gs hf hi hh
  have:=Ew _ _ _ h1.2 h
  omega
theorem Lr {s:aj} {inner:Nat→cZ aA} (hf:eH s inner):∀(f:Nat) (l:List aA) (k:Nat) {q:aA} {k':Nat},k≤s.size→pG inner s f l k=.ok (q,k')→k≤k'∧k'≤s.size
 | 0,l,k,q,k',hk,h=>by simp [pG] at h;omega
 | f+1,l,k,q,k',hk,h=>by
  have h1:=kR s k;have h2:=dG hk
  rw [pG] at h
  split at h
  ·cases hn:iZ inner s (skip s k) with
   | error e=>rw [hn] at h;cases h
   | ok y =>
    obtain ⟨nm,k1⟩:=y
    rw [hn] at h
    have h3:=uJ hf _ _ _ h2 hn
    have:=Lr hf f _ k1 h3.2 h
    omega
  ·simp only [Except.ok.injEq,Prod.mk.injEq] at h;omega
theorem wR {s:aj} {inner:Nat→cZ aA} (hf:eH s inner):eH s (kJ inner s):=by
 intro i p k hi h
 unfold kJ at h
 cases hh:iZ inner s i with
 | error e=>rw [hh] at h;cases h
 | ok y =>
  obtain ⟨q,k1⟩:=y
  rw [hh] at h
  have h1:=uJ hf _ _ _ hi hh
  have:=Lr hf _ _ _ h1.2 h
  omega
theorem Ls {s:aj} {inner:Nat→cZ aA} (hf:eH s inner):∀(f:Nat) (l:List aA) (k:Nat) {q:aA} {k':Nat},k≤s.size→pI inner s f l k=.ok (q,k')→k≤k'∧k'≤s.size
 | 0,l,k,q,k',hk,h=>by simp [pI] at h;omega
 | f+1,l,k,q,k',hk,h=>by
  have h1:=lN (c:=124) hk
  rw [pI] at h
  split at h
  ·cases hn:kJ inner s (fH 124 s k).2 with
   | error e=>rw [hn] at h;cases h
   | ok y =>
    obtain ⟨nm,k1⟩:=y
    rw [hn] at h
    have h3:=wR hf _ _ _ h1.1 hn
    have:=Ls hf f _ k1 h3.2 h
    omega
  ·simp only [Except.ok.injEq,Prod.mk.injEq] at h;omega
theorem Jw {s:aj} {inner:Nat→cZ aA} (hf:eH s inner):eH s (lS inner s):=by
 intro i p k hi h
 unfold lS at h
 cases hh:kJ inner s i with
 | error e=>rw [hh] at h;cases h
 | ok y =>
  obtain ⟨q,k1⟩:=y
  rw [hh] at h
  have h1:=wR hf _ _ _ hi hh
  have:=Ls hf _ _ _ h1.2 h
  omega
theorem oG (s:aj):∀m,eH s (eY s m)
 | 0=>fun i p k _ h=>by simp [eY] at h
 | m+1=>fun i p k hi h=>Jw (oG s m) i p k hi h
theorem Ey {N W:Nat} {s:aj} {d m:Nat} (hs:s.size≤65536) (hin:xq N W s d (eY s m)):Sr N W s d (lS (eY s m) s):=fun i w hr hi =>
 aaH N W s i d w (eY s m) (fun i w hr hi=>aaI N W s i d w (eY s m) (fun i w hr hi=>YK N W s i d w (eY s m) hin (oG s m) hr hi hs) (uJ (oG s m)) hr hi hs) (wR (oG s m)) hr hi hs
theorem Lu (N W:Nat) (s:aj) (hs:s.size≤65536):∀(m d:Nat),200=d+m→xq N W s d (eY s m)
 | 0,d,h=>by
         obtain rfl:d=200:=by omega
         exact Sv N W s
 | m+1,d,h=>Sz N W s d m h (Ey hs (Lu N W s hs m (d+1) (by omega)))
theorem aaJ (N W:Nat) (s:aj) (hs:s.size≤65536):Sr N W s 0 (lS (eY s 200) s):=Ey hs (Lu N W s hs 200 0 rfl)
theorem VK (w:World):Calls Tryz.prog 37 #[] w fun e w'=>e=.returned (.slice (some ⟨w.heap.size,0,none⟩) 21 21)∧w'=w.alloc (.cells (rM.map Value.string).toArray 9):=by
 go_enter Tryz.func37, Tryz.ntmps37
 go_wp2
 go_ret
 exact ⟨rfl,rfl⟩
end Go.Proofs.YtefjbnhpjdhjmaaGreatDoor

namespace Go.Proofs.YtefjbnhpjdhjmaaGreatDoor
set_option linter.all false
open Go.RowKit
def oN (s:aj) (f:Nat→cZ aA):Prop:=∀i p k,i≤s.size→f i=.ok (p,k)→sizeT p+2*i+1≤2*k
theorem size_leaf (k:Int) (t:aj) (n:Int) (nm:aj):sizeT (.mk k t n nm [])=1:=by simp [sizeT,aS]
theorem GN (k:Int) (t:aj) (n:Int) (nm:aj) (p:aA):sizeT (.mk k t n nm [p])=1+sizeT p:=by simp [sizeT,aS]
theorem SB {s:aj} {inner:Nat→cZ aA} (hf:eH s inner) (hz:oN s inner):oN s (aH inner s):=by
 intro i p k hi h
 have hfw:=AY hf hi h
 have h1:=kR s i;have h2:=dG hi
 unfold aH at h
 split at h
 ·unfold DL at h
  cases ht:iY s (skip s i) with
  | error e=>rw [ht] at h;cases h
  | ok y =>
   obtain ⟨⟨t,a⟩,k1⟩:=y
   rw [ht] at h;simp only [Except.ok.injEq,Prod.mk.injEq] at h;obtain ⟨rfl,rfl⟩:=h
   rw [size_leaf];omega
 ·have nm:∀kd,yE s (skip s i+1) kd=.ok (p,k)→sizeT p=1:=by
   intro kd h
   unfold yE at h
   cases ht:nameP s (skip s i+1) with
   | error e=>rw [ht] at h;cases h
   | ok y =>
    obtain ⟨t,k1⟩:=y
    rw [ht] at h;simp only [Except.ok.injEq,Prod.mk.injEq] at h;obtain ⟨rfl,rfl⟩:=h
    exact size_leaf _ _ _ _
  split at h
  ·have:=nm _ h;omega
  ·split at h
   ·have:=nm _ h;omega
   ·unfold oq at h
    cases ht:gX s (skip s i) with
    | error e=>rw [ht] at h;cases h
    | ok y =>
     obtain ⟨⟨x,a⟩,k1⟩:=y
     rw [ht] at h;dsimp only at h
     have a1:=jZ h2 ht
     unfold lM at h
     split at h
     ·cases h
     ·split at h
      ·unfold dP at h
       cases hn:dI 40 s k1 with
       | error e=>rw [hn] at h;cases h
       | ok k2 =>
        rw [hn] at h;dsimp only at h
        cases hx:iY s k2 with
        | error e=>rw [hx] at h;cases h
        | ok y =>
         obtain ⟨⟨t,b⟩,k3⟩:=y
         rw [hx] at h;dsimp only at h
         split at h
         ·cases h
         ·cases hm:dI 41 s k3 with
          | error e=>rw [hm] at h;cases h
          | ok k4 =>
           rw [hm] at h;simp only [Except.ok.injEq,Prod.mk.injEq] at h;obtain ⟨rfl,rfl⟩:=h
           rw [size_leaf];omega
      ·split at h
       ·unfold fV at h
        cases hn:dI 40 s k1 with
        | error e=>rw [hn] at h;cases h
        | ok k2 =>
         rw [hn] at h;dsimp only at h
         cases hx:ny s k2 with
         | error e=>rw [hx] at h;cases h
         | ok y =>
          obtain ⟨t,k3⟩:=y
          rw [hx] at h;dsimp only at h
          cases hm:dI 41 s k3 with
          | error e=>rw [hm] at h;cases h
          | ok k4 =>
           rw [hm] at h;simp only [Except.ok.injEq,Prod.mk.injEq] at h;obtain ⟨rfl,rfl⟩:=h
           rw [size_leaf];omega
       ·split at h
        ·unfold qp at h
         cases hn:dI 40 s k1 with
         | error e=>rw [hn] at h;cases h
         | ok k2 =>
          rw [hn] at h;dsimp only at h
          have a2:=iC hn
          cases hx:inner k2 with
          | error e=>rw [hx] at h;cases h
          | ok y =>
           obtain ⟨t,k3⟩:=y
           rw [hx] at h;dsimp only at h
           cases hm:dI 41 s k3 with
           | error e=>rw [hm] at h;cases h
           | ok k4 =>
            rw [hm] at h;simp only [Except.ok.injEq,Prod.mk.injEq] at h;obtain ⟨rfl,rfl⟩:=h
            have:=hz _ _ _ a2.2.1 hx
            have:=iC hm
            rw [GN];omega
        ·simp only [Except.ok.injEq,Prod.mk.injEq] at h;obtain ⟨rfl,rfl⟩:=h
         rw [size_leaf];omega
theorem aaK {s:aj} {inner:Nat→cZ aA} (hf:eH s inner) (hz:oN s inner):oN s (lQ inner s):=by
 intro i p k hi h
 have a0:=lN (c:=40) hi
 unfold lQ at h
 split at h
 ·cases h1:inner (fH 40 s i).2 with
  | error e=>rw [h1] at h;cases h
  | ok y =>
   obtain ⟨q,k1⟩:=y
   rw [h1] at h;dsimp only at h
   cases h3:dI 41 s k1 with
   | error e=>rw [h3] at h;cases h
   | ok k3 =>
    rw [h3] at h;simp only [Except.ok.injEq,Prod.mk.injEq] at h;obtain ⟨rfl,rfl⟩:=h
    have:=hz _ _ _ a0.1 h1;have:=iC h3;omega
 ·have:=SB hf hz _ _ _ a0.1 h;omega
theorem GU {s:aj}:∀(f:Nat) (p:aA) (k:Nat) {q:aA} {k' i:Nat},k≤s.size→jA s f p k=.ok (q,k')→sizeT p+2*i+1≤2*k→sizeT q+2*i+1≤2*k'
 | 0,p,k,q,k',i,hk,h,hs=>by simp only [jA,Except.ok.injEq,Prod.mk.injEq] at h;obtain ⟨rfl,rfl⟩:=h;exact hs
 | f+1,p,k,q,k',i,hk,h,hs=>by
  have h1:=lN (c:=46) hk
  rw [jA] at h
  split at h
  ·cases hn:nameP s (fH 46 s k).2 with
   | error e=>rw [hn] at h;cases h
   | ok y =>
    obtain ⟨nm,k1⟩:=y
    rw [hn] at h
    have h2:=qw h1.1 hn
    exact GU f _ k1 h2.2 h (by rw [GN];omega)
  ·have h3:=lN (c:=36) h1.1
   split at h
   ·cases hn:nameP s (fH 36 s (fH 46 s k).2).2 with
    | error e=>rw [hn] at h;cases h
    | ok y =>
     obtain ⟨nm,k1⟩:=y
     rw [hn] at h
     have h2:=qw h3.1 hn
     exact GU f _ k1 h2.2 h (by rw [GN];omega)
   ·simp only [Except.ok.injEq,Prod.mk.injEq] at h;obtain ⟨rfl,rfl⟩:=h;omega
theorem QS {s:aj} {inner:Nat→cZ aA} (hf:eH s inner) (hz:oN s inner):oN s (iZ inner s):=by
 intro i p k hi h
 unfold iZ at h
 cases hh:lQ inner s i with
 | error e=>rw [hh] at h;cases h
 | ok y =>
  obtain ⟨q,k1⟩:=y
  rw [hh] at h
  have h1:=Gs hf hi hh
  exact GU _ _ _ h1.2 h (aaK hf hz _ _ _ hi hh)
theorem zV:∀(a b:List aA),aS (a++b)=aS a+aS b
 | [],b=>by simp [aS]
 | p::ps,b=>by simp only [List.cons_append,aS,zV ps b];omega
theorem CY (kd:Int) (l:List aA) (n:Nat) (h0:0<l.length) (h:aS l+l.length≤n):sizeT (tV kd l)+1≤n:=by
 match l,h0 with
 | [p],_=>simp only [tV,aS,List.length_cons,List.length_nil] at h⊢;omega
 | p::q::r,_=>simp only [tV,sizeT,List.length_cons] at h⊢;omega
theorem Oy {s:aj} {inner:Nat→cZ aA} (hf:eH s inner) (hz:oN s inner):∀(f:Nat) (l:List aA) (k:Nat) {q:aA} {k' i:Nat},k≤s.size→0<l.length→pG inner s f l k=.ok (q,k')→aS l+l.length+2*i≤2*k→sizeT q+2*i+1≤2*k'
 | 0,l,k,q,k',i,hk,h0,h,hs=>by
  simp only [pG,Except.ok.injEq,Prod.mk.injEq] at h;obtain ⟨rfl,rfl⟩:=h
  have:=CY 18 l (2*k-2*i) h0 (by omega);omega
 | f+1,l,k,q,k',i,hk,h0,h,hs=>by
  have h1:=kR s k;have h2:=dG hk
  rw [pG] at h
  split at h
  ·cases hn:iZ inner s (skip s k) with
   | error e=>rw [hn] at h;cases h
   | ok y =>
    obtain ⟨p,k1⟩:=y
    rw [hn] at h
    have h3:=uJ hf _ _ _ h2 hn
    have h4:=QS hf hz _ _ _ h2 hn
    exact Oy hf hz f _ k1 h3.2 (by simp) h (by rw [zV,List.length_append];simp only [aS,List.length_cons,List.length_nil];omega)
  ·simp only [Except.ok.injEq,Prod.mk.injEq] at h;obtain ⟨rfl,rfl⟩:=h
   have:=CY 18 l (2*k-2*i) h0 (by omega);omega
theorem VL {s:aj} {inner:Nat→cZ aA} (hf:eH s inner) (hz:oN s inner):oN s (kJ inner s):=by
 intro i p k hi h
 unfold kJ at h
 cases hh:iZ inner s i with
 | error e=>rw [hh] at h;cases h
 | ok y =>
  obtain ⟨q,k1⟩:=y
  rw [hh] at h
  have h1:=uJ hf _ _ _ hi hh
  have h2:=QS hf hz _ _ _ hi hh
  exact Oy hf hz _ _ _ h1.2 (by simp) h (by simp only [aS,List.length_cons,List.length_nil];omega)
theorem Oz {s:aj} {inner:Nat→cZ aA} (hf:eH s inner) (hz:oN s inner):∀(f:Nat) (l:List aA) (k:Nat) {q:aA} {k' i:Nat},k≤s.size→0<l.length→pI inner s f l k=.ok (q,k')→aS l+l.length+2*i≤2*k→sizeT q+2*i+1≤2*k'
 | 0,l,k,q,k',i,hk,h0,h,hs=>by
  simp only [pI,Except.ok.injEq,Prod.mk.injEq] at h;obtain ⟨rfl,rfl⟩:=h
  have:=CY 19 l (2*k-2*i) h0 (by omega);omega
 | f+1,l,k,q,k',i,hk,h0,h,hs=>by
  have h1:=lN (c:=124) hk
  rw [pI] at h
  split at h
  ·cases hn:kJ inner s (fH 124 s k).2 with
   | error e=>rw [hn] at h;cases h
   | ok y =>
    obtain ⟨p,k1⟩:=y
    rw [hn] at h
    have h3:=wR hf _ _ _ h1.1 hn
    have h4:=VL hf hz _ _ _ h1.1 hn
    exact Oz hf hz f _ k1 h3.2 (by simp) h (by rw [zV,List.length_append];simp only [aS,List.length_cons,List.length_nil];omega)
  ·simp only [Except.ok.injEq,Prod.mk.injEq] at h;obtain ⟨rfl,rfl⟩:=h
   have:=CY 19 l (2*k-2*i) h0 (by omega);omega
theorem VN {s:aj} {inner:Nat→cZ aA} (hf:eH s inner) (hz:oN s inner):oN s (lS inner s):=by
 intro i p k hi h
 unfold lS at h
 cases hh:kJ inner s i with
 | error e=>rw [hh] at h;cases h
 | ok y =>
  obtain ⟨q,k1⟩:=y
  rw [hh] at h
  have h1:=wR hf _ _ _ hi hh
  have h2:=VL hf hz _ _ _ hi hh
  exact Oz hf hz _ _ _ h1.2 (by simp) h (by simp only [aS,List.length_cons,List.length_nil];omega)
theorem OA (s:aj):∀m,oN s (eY s m)
 | 0=>fun i p k _ h=>by simp [eY] at h
 | m+1=>fun i p k hi h=>VN (oG s m) (OA s m) i p k hi h
theorem QU {s:aj} {p:aA} {k:Nat} (hs:s.size≤65536) (h:lS (eY s 200) s 0=.ok (p,k)):sizeT p≤200000∧k≤s.size:=by
 have h1:=VN (oG s 200) (OA s 200) 0 p k (Nat.zero_le _) h
 have h2:=Jw (oG s 200) 0 p k (Nat.zero_le _) h
 omega
def mV (s:aj):Except Er aA :=
 if 65536<s.size then .error (4,0) else
 match lS (eY s 200) s 0 with
 | .error e=>.error e
 | .ok (p,k)=>if 0≤peek s (skip s k) then .error (2,skip s k) else if fits p then .ok p else .error (4,0)
end Go.Proofs.YtefjbnhpjdhjmaaGreatDoor

namespace Go.Proofs.YtefjbnhpjdhjmaaGreatDoor
set_option linter.all false
open Go.RowKit
set_option maxRecDepth 100000
set_option maxHeartbeats 1000000
def Two (M:Nat) (c0 c1:Value) (w:World):Prop:=w.heap[M]?=some (.cells #[c0,c1] 36 (0,0))
theorem Two.lt {M:Nat} {c0 c1:Value} {w:World} (h:Two M c0 c1 w):M<w.heap.size:=(Array.getElem?_eq_some_iff.1 h).1
theorem Two.kept {M:Nat} {c0 c1:Value} {w w':World} {X:Nat→Prop} (h:Two M c0 c1 w) (hk:Kept X w w') (hx:¬X M):Two M c0 c1 w':=by
 unfold Two;rw [hk.block M h.lt hx];exact h
theorem Two.cells {M:Nat} {c0 c1:Value} {w:World} (h:Two M c0 c1 w):w.cell? ⟨M,0,none⟩=some c0∧w.cell? ⟨M,1,none⟩=some c1∧∀o,w.frozen? ⟨M,o,none⟩=false:=by
 unfold Two at h
 refine ⟨?_,?_,fun o=>by simp [World.frozen?,h]⟩<;>(rw [cell_of_row w M _ _ _ _ h];rfl)
def set2 (w:World) (M:Nat) (c0 c1:Value):World:=(w.setCell ⟨M,0,none⟩ c0).setCell ⟨M,1,none⟩ c1
theorem Two.set2 {M:Nat} {z0 z1:Value} {w:World} (h:Two M z0 z1 w) (c0 c1:Value):Two M c0 c1 (set2 w M c0 c1):=by
 unfold Two at h⊢
 unfold Go.Proofs.YtefjbnhpjdhjmaaGreatDoor.set2
 rw [aK (aK h _) _];rfl
theorem Kept.set2 {X:Nat→Prop} {a w:World} (h:Kept X a w) {M:Nat} (hM:X M∨a.heap.size≤M) (c0 c1:Value):Kept X a (set2 w M c0 c1) :=
 (h.setCell (p:=⟨M,0,none⟩) hM _).setCell (p:=⟨M,1,none⟩) hM _
def VO (A1 A2:Nat) (er:Er) (w:World) (e:Ending) (u:FrameMode) (w':World):Prop :=
 e=.returned (.tuple #[])∧u=.panicking [{v:=CV er,recovered:=true}]∧uG A1 w'∧Two A2 (.int .i64 er.1) (.int .i64 er.2) w'∧Kept (fun k=>k=A1∨k=A2) w w'
theorem SC (A1 A2:Nat) (hne:A1≠A2) (er:Er) (w:World) (z0 z1 z2 z3 z4 y0 y1:Value) (hF:Five A1 z0 z1 z2 z3 z4 w) (hT:Two A2 y0 y1 w) :
  CallsD Tryz.prog 107 #[.pointer (some ⟨A1,0,none⟩),.pointer (some ⟨A2,0,none⟩)] (.panicking [{v:=CV er,recovered:=false}]) w (VO A1 A2 er w):=by
 have hta:∀(x:Value) (w:World),(Instr.typeAssert (.iface 150 x) 20 150 true).run Tryz.prog w=.ok (.tuple #[x,.bool true]) w:=fun _ _=>by kernel_rfl
 refine callsD_of_wpS Tryz.func107 rfl fun c₀ cs hu=>?_
 obtain ⟨c0,c1,c2,c3,c4,cf⟩:=hF.cells
 obtain ⟨d0,d1,df⟩:=hT.cells
 have f0:=cf 0;have f1:=cf 1;have f2:=cf 2;have f3:=cf 3;have f4:=cf 4;clear cf
 have g0:=df 0;have g1:=df 1;clear df
 have HF:=ah hF;have HT:=ah hT
 have hl1:=hF.lt;have hl2:=hT.lt
 obtain ⟨e1,e2⟩:=er
 have HU:=ah hu
 apply wpS_seq
 apply wpS_region
 simp [wpOpsS,go_sem,recoverD,hu,Tryz.ntmps107,Exit.thenS]
 clear hF hT hu
 unfold CV
 dsimp only
 show Code.wpS _ _ _ ⟨#[.pointer (some ⟨A1,0,none⟩),.pointer (some ⟨A2,0,none⟩),undef,undef,undef,.iface 150 (.agg #[.int .i64 e1,.int .i64 e2]),undef,undef,undef,undef,undef,undef,undef,undef],[]⟩ _ _
 refine wpS_of_wp ?_
 go_wp2_with fail
 go_region
 all_goals go_wp2_with fail
 have F5:uG A1 (bI w A1 (.int .i64 0) (.string ⟨#[]⟩) (.int .i64 0) (.string ⟨#[]⟩) (.slice none 0 0)):=HF.out.bI _ _ _ _ _
 have T5:Two A2 y0 y1 (bI w A1 (.int .i64 0) (.string ⟨#[]⟩) (.int .i64 0) (.string ⟨#[]⟩) (.slice none 0 0)):=HT.out.kept ((Kept.refl (· = A1) w).bI (.inl rfl) _ _ _ _ _) (fun h=>hne h.symm)
 have K:Kept (fun k=>k=A1∨k=A2) w (set2 (bI w A1 (.int .i64 0) (.string ⟨#[]⟩) (.int .i64 0) (.string ⟨#[]⟩) (.slice none 0 0)) A2 (.int .i64 e1) (.int .i64 e2)) :=
  ((Kept.refl _ w).bI (.inl (.inl rfl)) _ _ _ _ _).set2 (.inl (.inr rfl)) _ _
 refine ⟨rfl,_,rfl,.tuple #[],by simp [results,Tryz.results107,go_sem],rfl,rfl,?_,?_,(K.alloc _).drew⟩
 ·exact Five.kept (Five.kept F5 ((Kept.refl (· = A2) _).set2 (.inl rfl) (.int .i64 e1) (.int .i64 e2)) hne) ((Kept.refl aC _).alloc _).drew (fun h=>h)
 ·exact (T5.set2 (.int .i64 e1) (.int .i64 e2)).kept ((Kept.refl aC _).alloc _).drew (fun h=>h)
theorem catch_idle (a b:Value) (w:World) :
  CallsD Tryz.prog 107 #[a,b] .returning w fun e u' w'=>e=.returned (.tuple #[])∧u'=.returning∧w=w':=by
 refine callsD_of_wpS Tryz.func107 rfl fun c₀ cs hu=>?_
 have HU:=ah hu
 apply wpS_seq
 apply wpS_region
 simp [wpOpsS,go_sem,recoverD,hu,Tryz.ntmps107,Exit.thenS]
 clear hu
 show Code.wpS _ _ _ ⟨#[a,b,undef,undef,undef,.nilIface,undef,undef,undef,undef,undef,undef,undef,undef],[]⟩ _ _
 refine wpS_of_wp ?_
 go_wp2_with fail
 refine ⟨rfl,.returning,?_,.tuple #[],by simp [results,Tryz.results107,go_sem],rfl,rfl,rfl⟩
 have h:=HU.out
 cases c₀;simp_all
end Go.Proofs.YtefjbnhpjdhjmaaGreatDoor

namespace Go.Proofs.YtefjbnhpjdhjmaaGreatDoor
set_option linter.all false
open Go.RowKit
set_option maxRecDepth 100000
set_option maxHeartbeats 4000000
def zeroV:Value:=.agg #[.int .i64 0,.string ⟨#[]⟩,.int .i64 0,.string ⟨#[]⟩,.slice none 0 0]
def zO (er:Er):Value:=.agg #[.int .i64 er.1,.int .i64 er.2]
def xu (s:aj) (w:World) (e:Ending) (w':World):Prop :=
 Kept aC w w'∧match mV s with
  | .ok p=>∃v,e=.returned (.tuple #[v,zO (0,0)])∧gJ w.heap.size p w' v
  | .error er=>e=.returned (.tuple #[zeroV,zO er])
theorem results_read {tmps:Array Value} {A1 A2:Nat} (h2:tmps.getD 2 undef=.pointer (some ⟨A1,0,none⟩)) (h3:tmps.getD 3 undef=.pointer (some ⟨A2,0,none⟩)) {c0 c1 c2 c3 c4 d0 d1:Value} {w:World} (h:Five A1 c0 c1 c2 c3 c4 w) (k:Two A2 d0 d1 w) :
  (results Tryz.f96 tmps).run Tryz.prog w=.ok (.tuple #[.agg #[c0,c1,c2,c3,c4],.agg #[d0,d1]]) w:=by
 obtain ⟨x0,x1,x2,x3,x4,_⟩:=h.cells
 obtain ⟨y0,y1,_⟩:=k.cells
 have ht2:tmps[2]?.getD undef=.pointer (some ⟨A1,0,none⟩):=by rw [←h2,Array.getD_eq_getD_getElem?]
 have ht3:tmps[3]?.getD undef=.pointer (some ⟨A2,0,none⟩):=by rw [←h3,Array.getD_eq_getD_getElem?]
 simp [results,Tryz.results96,go_sem,ht2,ht3,x0,x1,x2,x3,x4,y0,y1]
theorem GV {s:aj} {er:Er} {w w':World} (hr:mV s=.error er) (K:Kept aC w w'):xu s w (.returned (.tuple #[zeroV,zO er])) w':=by
 unfold xu;rw [hr];exact ⟨K,rfl⟩
theorem IZ {s:aj} {w w1:World} {tmps:Array Value} {A1 A2:Nat} {er:Er} {z0 z1 z2 z3 z4 y0 y1:Value} (h2:tmps.getD 2 undef=.pointer (some ⟨A1,0,none⟩)) (h3:tmps.getD 3 undef=.pointer (some ⟨A2,0,none⟩))
  (hne:A1≠A2) (hF:Five A1 z0 z1 z2 z3 z4 w1) (hT:Two A2 y0 y1 w1) (hA:w.heap.size≤A1∧w.heap.size≤A2) (hr:mV s=.error er) (K:Kept aC w w1) :
  bodyPostD Tryz.prog Tryz.f96 (xu s w) (.panic [{v:=CV er,recovered:=false}]) ⟨tmps,[{target:=.fn (.func 107) #[.pointer (some ⟨A1,0,none⟩),.pointer (some ⟨A2,0,none⟩)],args:=#[]}]⟩ w1:=by
 refine leaves_cons (f:=107) (args:=#[.pointer (some ⟨A1,0,none⟩),.pointer (some ⟨A2,0,none⟩)]) (by simp) (by simp [go_sem]) ?_
 refine (SC A1 A2 hne er w1 _ _ _ _ _ _ _ hF hT).mono ?_
 rintro e u' w2 ⟨rfl,rfl,F,T,k⟩
 show Leaves _ _ _ _ [] (settle (.panicking [{v:=CV er,recovered:=true}])) w2
 exact ⟨_,results_read h2 h3 F T,GV hr (K.step k (fun y hy=>.inr (by omega)))⟩
theorem OB {R:Ending→World→Prop} {w1:World} {tmps:Array Value} {A1 A2:Nat} {c0 c1 c2 c3 c4 d0 d1:Value} (h2:tmps.getD 2 undef=.pointer (some ⟨A1,0,none⟩)) (h3:tmps.getD 3 undef=.pointer (some ⟨A2,0,none⟩))
  (hF:Five A1 c0 c1 c2 c3 c4 w1) (hT:Two A2 d0 d1 w1) (hR:R (.returned (.tuple #[.agg #[c0,c1,c2,c3,c4],.agg #[d0,d1]])) w1) :
  bodyPostD Tryz.prog Tryz.f96 R .ret ⟨tmps,[{target:=.fn (.func 107) #[.pointer (some ⟨A1,0,none⟩),.pointer (some ⟨A2,0,none⟩)],args:=#[]}]⟩ w1:=by
 refine leaves_cons (f:=107) (args:=#[.pointer (some ⟨A1,0,none⟩),.pointer (some ⟨A2,0,none⟩)]) (by simp) (by simp [go_sem]) ?_
 refine (catch_idle _ _ w1).mono ?_
 rintro e u' w2 ⟨rfl,rfl,rfl⟩
 exact ⟨_,results_read h2 h3 hF hT,hR⟩
theorem Yx (s:aj) (w:World) (hs:s.size≤maxLen):Calls Tryz.prog 96 #[.string s] w (xu s w):=by
 unfold maxLen at hs
 have hmf:∀(fn:Fn) (first cap:Array Value) (w:World),(Instr.makeFunc fn first cap).run Tryz.prog w=.ok (.func fn first cap) w:=fun _ _ _ _=>rfl
 by_cases hl:65536<s.size
 ·have hr:Hid (mV s=.error (4,0)):=by unfold Hid mV;rw [if_pos hl]
  go_enter_defers Tryz.func96, Tryz.ntmps96
  go_wp2_with fail
  refine ⟨.tuple #[zeroV,zO (4,0)],by simp [results,Tryz.results96,go_sem,zeroV,zO],GV hr.out (by repeat (first|exact Kept.refl _ _|refine Kept.alloc ?_ _))⟩
 ·have hs6:s.size≤65536:=by omega
  obtain ⟨w4,hw4⟩:∃w4,w4=(((w.alloc (.cells #[.int .i64 0,.string ⟨#[]⟩,.int .i64 0,.string ⟨#[]⟩,.slice none 0 0] 27)).alloc (.cells #[.int .i64 0,.int .i64 0] 36)).alloc (.cells (rM.map Value.string).toArray 9)).alloc (.cells #[.string s,.int .i64 0,.slice (some ⟨w.heap.size+1+1,0,none⟩) 21 21,.int .i64 0] 153):=⟨_,rfl⟩
  have R4:Hid (eU (w.heap.size+1+1+1) (w.heap.size+1+1) s 0 0 w4):=by rw [hw4];exact ⟨dO (by simp),by omega,nU.kept (dO (by simp)) ((Kept.refl aC _).alloc _) (fun h=>h)⟩
  have F4:Hid (uG w.heap.size w4):=by rw [hw4];exact Five.kept (ay w _) ((((Kept.refl aC _).alloc _).alloc _).alloc _) (fun h=>h)
  have T4:Hid (Two (w.heap.size+1) (.int .i64 0) (.int .i64 0) w4):=by rw [hw4];exact Two.kept (dO (by simp)) (((Kept.refl aC _).alloc _).alloc _) (fun h=>h)
  have K4:Hid (Kept aC w w4):=by rw [hw4];exact ((((Kept.refl aC w).alloc _).alloc _).alloc _).alloc _
  have hz4:w4.heap.size=w.heap.size+4:=by rw [hw4];simp
  have HZ4:=ah hz4;clear hz4
  go_enter_defers Tryz.func96, Tryz.ntmps96
  go_wp2_with fail
  refine (VK _).mono ?_
  rintro e w' ⟨rfl,rfl⟩
  go_wp2_with fail
  rw [←hw4];clear hw4
  refine (aaJ _ _ s hs6 0 w4 R4.out (Nat.zero_le _)).mono ?_
  rintro e w5 ⟨k_,h⟩
  have hz4:=HZ4.out
  have F5:=ah (Five.kept F4.out k_ (by omega));have T5:=ah (T4.out.kept k_ (by omega))
  have K5:Hid (Kept aC w w5):=K4.out.step k_ (fun y hy=>.inr (by omega))
  have hsz5:=k_.size
  clear k_ F4 T4 K4
  cases ha:lS (eY s 200) s 0 with
  | error er =>
   rw [ha] at h
   obtain rfl:=h
   have hr:Hid (mV s=.error er):=by unfold Hid mV;rw [if_neg hl,ha]
   clear ha hl
   go_wp2_with fail
   exact IZ rfl rfl (by omega) F5.out T5.out (by omega) hr.out K5.out
  | ok y =>
   obtain ⟨p,k⟩:=y
   rw [ha] at h
   obtain ⟨_,rfl,⟨S,hS,⟨ka,cap,rfl,hz,hk⟩⟩,R5⟩:=h
   obtain ⟨hsp,hks⟩:=QU hs6 ha
   have VP:Kept (· = w.heap.size) w5 (bI w5 w.heap.size (.int .i64 p.kind) (.string p.text) (.int .i64 p.n) (.string p.name) (.slice ka p.kids.length cap)):=(Kept.refl (· = w.heap.size) w5).bI (.inl rfl) _ _ _ _ _
   have R6:=ah (R5.kept VP (by omega) (by omega))
   have F6:=ah (Five.bI F5.out (.int .i64 p.kind) (.string p.text) (.int .i64 p.n) (.string p.name) (.slice ka p.kids.length cap))
   have T6:=ah (T5.out.kept VP (by omega))
   have K6:Hid (Kept aC w (bI w5 w.heap.size (.int .i64 p.kind) (.string p.text) (.int .i64 p.n) (.string p.name) (.slice ka p.kids.length cap))):=K5.out.step VP (fun y hy=>.inr (by omega))
   have NW:=ah (hk.kept VP (fun b hb=>⟨(hS b hb).2,by have:=(hS b hb).1;omega⟩))
   have hz6:(bI w5 w.heap.size (.int .i64 p.kind) (.string p.text) (.int .i64 p.n) (.string p.name) (.slice ka p.kids.length cap)).heap.size=w5.heap.size:=vG _ _ _ _ _ _ _
   have HZ6:=ah hz6
   have HS:=ah hS;have HZ:=ah hz
   obtain ⟨c0,c1,c2,c3,c4,cf⟩:=Five.cells F5.out
   have f0:=cf 0;have f1:=cf 1;have f2:=cf 2;have f3:=cf 3;have f4:=cf 4;clear cf
   have HA:=ah ha
   obtain ⟨w6,hw6⟩:∃w6,w6=bI w5 w.heap.size (.int .i64 p.kind) (.string p.text) (.int .i64 p.n) (.string p.name) (.slice ka p.kids.length cap):=⟨_,rfl⟩
   rw [←hw6] at R6 F6 T6 K6 NW HZ6
   clear ha R5 hk hz hS hz6 VP F5 T5 K5 R4
   go_wp2_with fail
   show Calls _ _ _ (bI w5 w.heap.size (.int .i64 p.kind) (.string p.text) (.int .i64 p.n) (.string p.name) (.slice ka p.kids.length cap)) _
   rw [←hw6];clear hw6 c0 c1 c2 c3 c4 f0 f1 f2 f3 f4
   refine (next_any _ _ s k 0 w6 R6.out hks (by omega)).mono ?_
   rintro e w7 ⟨rfl,R7,k_⟩
   have hz6:=HZ6.out
   have F7:=ah (Five.kept F6.out k_ (by omega));have T7:=ah (T6.out.kept k_ (by omega))
   have K7:Hid (Kept aC w w7):=K6.out.step k_ (fun y hy=>.inr (by omega))
   have HK7:=ah (NW.out.kept k_ (fun b hb=>⟨by have:=(HS.out b hb).2;omega,by have:=(HS.out b hb).1;omega⟩))
   have agq:=k_.size
   have q1:=R7.c1
   clear k_ F6 T6 K6 NW R6
   by_cases hp:0≤peek s (skip s k)
   ·have hb:decide (0≤peek s (skip s k))=true:=ak hp
    have hr:Hid (mV s=.error (2,skip s k)):=by unfold Hid mV;rw [if_neg hl,HA.out];dsimp only;rw [if_pos hp]
    clear hp hl
    go_wp2_with fail
    refine (jv _ 2 (skip s k) w7).mono ?_
    rintro e w8 ⟨rfl,rfl⟩
    go_wp2_with fail
    exact IZ rfl rfl (by omega) F7.out T7.out (by omega) hr.out K7.out
   ·have hb:decide (0≤peek s (skip s k))=false:=au hp
    have PV:Hid (gV w7 (· < w7.heap.size) (.agg #[.int .i64 p.kind,.string p.text,.int .i64 p.n,.string p.name,.slice ka p.kids.length cap]) p):=⟨ka,cap,rfl,HZ.out,aI.same (fun _ _=>rfl) (fun b hb=>by have:=(HS.out b hb).2;omega) _ _ HK7.out⟩
    obtain ⟨c0,c1,c2,c3,c4,cf⟩:=Five.cells F7.out
    have HP:=ah hp;have HL:=ah hl
    clear R7 q1 hp hl
    go_wp2_with fail
    refine (size_any p _ w7 PV.out (by omega)).mono ?_
    rintro e w8 ⟨rfl,k_⟩
    have F8:=ah (Five.kept F7.out k_ (fun h=>h));have T8:=ah (T7.out.kept k_ (fun h=>h))
    have K8:Hid (Kept aC w w8):=K7.out.trans k_
    have D6:=ah (HK7.out.kept k_ (fun b hb=>⟨by have:=(HS.out b hb).2;omega,fun h=>h⟩))
    have agr:=k_.size
    obtain ⟨d0,d1,d2,d3,d4,df⟩:=Five.cells F8.out
    have f0:=df 0;have f1:=df 1;have f2:=df 2;have f3:=df 3;have f4:=df 4
    obtain ⟨t0,t1,tf⟩:=T8.out.cells
    have g0:=tf 0;have g1:=tf 1
    clear k_ F7 T7 K7 HK7 PV c0 c1 c2 c3 c4 cf df tf
    rw [XK]
    have SE:w.heap.size≠w.heap.size+1:=by omega
    by_cases hf:fits p
    ·have hr:Hid (mV s=.ok p):=by unfold Hid mV;rw [if_neg HL.out,HA.out];dsimp only;rw [if_neg (by have:=HP.out;omega),if_pos hf]
     have K9:Hid (Kept (fun y=>y=w.heap.size∨y=w.heap.size+1) w8 (set2 (bI w8 w.heap.size (.int .i64 p.kind) (.string p.text) (.int .i64 p.n) (.string p.name) (.slice ka p.kids.length cap)) (w.heap.size+1) (.int .i64 0) (.int .i64 0))):=((Kept.refl _ w8).bI (.inl (.inl rfl)) _ _ _ _ _).set2 (.inl (.inr rfl)) _ _
     have F9:Hid (Five w.heap.size (.int .i64 p.kind) (.string p.text) (.int .i64 p.n) (.string p.name) (.slice ka p.kids.length cap) (set2 (bI w8 w.heap.size (.int .i64 p.kind) (.string p.text) (.int .i64 p.n) (.string p.name) (.slice ka p.kids.length cap)) (w.heap.size+1) (.int .i64 0) (.int .i64 0))) :=
      (F8.out.bI _ _ _ _ _).kept ((Kept.refl (· = w.heap.size+1) _).set2 (.inl rfl) _ _) SE
     have T9:Hid (Two (w.heap.size+1) (.int .i64 0) (.int .i64 0) (set2 (bI w8 w.heap.size (.int .i64 p.kind) (.string p.text) (.int .i64 p.n) (.string p.name) (.slice ka p.kids.length cap)) (w.heap.size+1) (.int .i64 0) (.int .i64 0))) :=
      (T8.out.kept ((Kept.refl (· = w.heap.size) w8).bI (.inl rfl) _ _ _ _ _) (fun h=>SE h.symm)).set2 _ _
     rw [if_pos hf]
     clear hf
     go_wp2_with fail
     go_region
     all_goals go_wp2_with fail
     refine OB rfl rfl (F9.out.kept (Kept.refl aC _).drew (fun h=>h)) (T9.out.kept (Kept.refl aC _).drew (fun h=>h)) ?_
     unfold xu
     rw [hr.out]
     have hk9:=(K9.out.drew)
     refine ⟨K8.out.step hk9 (fun y hy=>.inr (by omega)),_,rfl,S,fun b hb=>?_,ka,cap,rfl,HZ.out,D6.out.kept hk9 (fun b hb=>?_)⟩
     ·have:=HS.out b hb;exact ⟨by omega,Nat.lt_of_lt_of_le (show b<w8.heap.size by omega) hk9.size⟩
     ·have:=HS.out b hb;omega
    ·have hr:Hid (mV s=.error (4,0)):=by unfold Hid mV;rw [if_neg HL.out,HA.out];dsimp only;rw [if_neg (by have:=HP.out;omega),if_neg hf]
     have K9:Hid (Kept (fun y=>y=w.heap.size∨y=w.heap.size+1) w8 (set2 (bI w8 w.heap.size (.int .i64 0) (.string ⟨#[]⟩) (.int .i64 0) (.string ⟨#[]⟩) (.slice none 0 0)) (w.heap.size+1) (.int .i64 4) (.int .i64 0))):=((Kept.refl _ w8).bI (.inl (.inl rfl)) _ _ _ _ _).set2 (.inl (.inr rfl)) _ _
     have F9:Hid (uG w.heap.size (set2 (bI w8 w.heap.size (.int .i64 0) (.string ⟨#[]⟩) (.int .i64 0) (.string ⟨#[]⟩) (.slice none 0 0)) (w.heap.size+1) (.int .i64 4) (.int .i64 0))) :=
      Five.kept (F8.out.bI _ _ _ _ _) ((Kept.refl (· = w.heap.size+1) _).set2 (.inl rfl) _ _) SE
     have T9:Hid (Two (w.heap.size+1) (.int .i64 4) (.int .i64 0) (set2 (bI w8 w.heap.size (.int .i64 0) (.string ⟨#[]⟩) (.int .i64 0) (.string ⟨#[]⟩) (.slice none 0 0)) (w.heap.size+1) (.int .i64 4) (.int .i64 0))) :=
      (T8.out.kept ((Kept.refl (· = w.heap.size) w8).bI (.inl rfl) _ _ _ _ _) (fun h=>SE h.symm)).set2 _ _
     rw [if_neg hf]
     clear hf
     go_wp2_with fail
     exact OB rfl rfl F9.out T9.out (GV hr.out (K8.out.step K9.out (fun y hy=>.inr (by omega))))
end Go.Proofs.YtefjbnhpjdhjmaaGreatDoor
