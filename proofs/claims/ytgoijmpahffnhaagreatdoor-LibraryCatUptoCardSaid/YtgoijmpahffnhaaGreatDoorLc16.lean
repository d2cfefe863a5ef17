/-  -/
import Derived.Test.YtgoijmpahffnhaaGreatDoorRd11
import Derived.Test.YtgoijmpahffnhaaGreatDoorLc14
import Derived.Recover
import Derived.RegionTactic
import Derived.BigRegion
import Derived.Test.YtgoijmpahffnhaaGreatDoorLc8
import Derived.Test.YtgoijmpahffnhaaGreatDoorLc9
namespace Go.Proofs.YtgoijmpahffnhaaGreatDoor
set_option linter.all false
open Go.RowKit
theorem gG.pats {w:World} {S:Nat→Prop}:∀{l:List aA} {cs:List Value},gG w S cs l→∀(g o:Nat),(∀j u,cs[j]?=some u→w.cell? ⟨g,o+j,none⟩=some u)→aI w (fun b=>S b∨b=g) (some ⟨g,o,none⟩) l
 | [],cs,h,g,o,hc=>by unfold aI;trivial
 | p::ps,cs,h,g,o,hc=>by
  rw [gG] at h;obtain ⟨c,r,rfl,⟨ka,cap,rfl,hz,hk⟩,h2⟩:=h
  unfold aI
  refine ⟨g,o,rfl,?_,h2.pats g (o+5) fun i u hi=>?_⟩
  ·obtain ⟨k,t,n,nm,kids⟩:=p
   unfold aW
   exact ⟨.inr rfl,hz,hc 0 _ rfl,hc 1 _ rfl,hc 2 _ rfl,hc 3 _ rfl,ka,cap,hc 4 _ rfl,aI.same (fun _ _=>rfl) (fun b h=>.inl h) _ _ hk⟩
  ·rw [show o+5+i=o+(5+i) by omega];exact hc _ _ (by rw [List.getElem?_append_right (by simp)];simpa using hi)
theorem gG.more {w:World} {S S':Nat→Prop}:∀{l:List aA} {cs:List Value},gG w S cs l→(∀b,S b→S' b)→gG w S' cs l
 | [],_,h,_=>h
 | p::ps,cs,h,hs=>by
  rw [gG] at h⊢;obtain ⟨c,r,rfl,⟨ka,cap,rfl,hz,hk⟩,h2⟩:=h
  exact ⟨_,r,rfl,⟨ka,cap,rfl,hz,aI.same (fun _ _=>rfl) hs _ _ hk⟩,h2.more hs⟩
structure qx (N W:Nat) (s:aj) (d:Nat) (w:World) (l:List aA) (k:Nat) (v:Value) (wx:World):Prop where
 bf:dw N W s k d wx
 own:∃(cs:List Value) (S:Nat→Prop),aS wx (w.heap.size+1) 57 5 v l.length cs∧gG wx S cs l∧∀b,S b→w.heap.size<b∧b<wx.heap.size∧v.ownBlock≠some b
 zero:uQ w.heap.size wx
 kept:Kept (· = N) w wx
 len:l.length≤k
theorem qx.next {N W:Nat} {s:aj} {d:Nat} {w wx w':World} {l:List aA} {k k':Nat} {v:Value} (h:qx N W s d w l k v wx) (hN:N<w.heap.size) (hk:Kept (· = N) wx w') (hr:dw N W s k' d w') (hkk:k≤k'):qx N W s d w l k' v w':=by
 obtain ⟨cs,S,h1,h2,h3⟩:=h.own
 refine ⟨hr,⟨cs,S,h1.kept hk (fun b hb=>?_),h2.kept hk (fun b hb=>⟨(h3 b hb).2.1,?_⟩),fun b hb=>⟨(h3 b hb).1,Nat.lt_of_lt_of_le (h3 b hb).2.1 hk.size,(h3 b hb).2.2⟩⟩,Five.kept h.zero hk (by omega),h.kept.trans hk,Nat.le_trans h.len hkk⟩
 ·have:=(h1.lt b hb).1;omega
 ·have:=(h3 b hb).1;omega
def aa1 (p:aA) (ka:Option Addr) (cap:Nat):List Value:=[.int .i64 p.kind,.string p.text,.int .i64 p.n,.string p.name,.slice ka p.kids.length cap]
theorem Ip {N W:Nat} {s:aj} {d:Nat} {w w1 w2:World} {p:aA} {k:Nat} {ka:Option Addr} {cap:Nat} {S:Nat→Prop} (hN:N<w.heap.size) (h1:w.heap.size<w1.heap.size) (h12:w1.heap.size≤w2.heap.size) (R:dw N W s k d w2) (Z:uQ w.heap.size w2) (K:Kept (· = N) w w2)
  (hz:p.text.size<1000000000∧p.name.size<1000000000∧p.kids.length<1000000000) (hS:∀b,S b→w1.heap.size≤b∧b<w2.heap.size) (hk:aI w2 S ka p.kids) (hk1:1≤k) :
  qx N W s d w [p] k (.slice (some ⟨w2.heap.size,0,none⟩) 1 1) (w2.alloc (.cells #[.int .i64 p.kind,.string p.text,.int .i64 p.n,.string p.name,.slice ka p.kids.length cap] 57)):=by
 have kA:Kept aB w2 (w2.alloc (.cells #[.int .i64 p.kind,.string p.text,.int .i64 p.n,.string p.name,.slice ka p.kids.length cap] 57)):=(Kept.refl _ _).alloc _
 refine ⟨R.kept kA (fun h=>h) (fun h=>h),⟨aa1 p ka cap,S,⟨rfl,.inr ⟨w2.heap.size,0,1,_,rfl,by omega,ay w2 _,Nat.le_refl _,by decide,by simp,by simp [aa1]⟩⟩,?_,fun b hb=>⟨by have:=hS b hb;omega,Nat.lt_of_lt_of_le (hS b hb).2 kA.size,?_⟩⟩,Five.kept Z kA (fun h=>h),K.quiet kA,hk1⟩
 ·rw [gG];exact ⟨_,[],(List.append_nil _).symm,⟨ka,cap,rfl,hz,hk.kept kA (fun b hb=>⟨(hS b hb).2,fun h=>h⟩)⟩,rfl⟩
 ·have:=hS b hb;simp [Value.ownBlock];omega
theorem Lj {N W:Nat} {s:aj} {d:Nat} {w w1 w2 w3:World} {l:List aA} {q:aA} {k k2:Nat} {v:Value} {a':Option Addr} {c':Nat} {ka:Option Addr} {cap:Nat} {cs:List Value} {S S2:Nat→Prop} (hN:N<w.heap.size) (hW:W<w.heap.size)
  (I:qx N W s d w l k v w1) (h1:aS w1 (w.heap.size+1) 57 5 v l.length cs) (h2:gG w1 S cs l) (h3:∀b,S b→w.heap.size<b∧b<w1.heap.size∧v.ownBlock≠some b)
  (hk:Kept (· = N) w1 w2) (R:dw N W s k2 d w2) (hkk:k<k2) (hz:q.text.size<1000000000∧q.name.size<1000000000∧q.kids.length<1000000000) (hS2:∀b,S2 b→w1.heap.size≤b∧b<w2.heap.size) (hq:aI w2 S2 ka q.kids)
  (hw:aS w3 (w.heap.size+1) 57 5 (.slice a' (l.length+1) c') (l.length+1) (cs++[.int .i64 q.kind,.string q.text,.int .i64 q.n,.string q.name,.slice ka q.kids.length cap])) (hg:(w2.alloc (.cells #[.int .i64 q.kind,.string q.text,.int .i64 q.n,.string q.name,.slice ka q.kids.length cap] 57)).grownBy w3 v.ownBlock)
  (ho:(Value.slice a' (l.length+1) c').ownBlock=v.ownBlock∨(Value.slice a' (l.length+1) c').ownBlock=some (w2.heap.size+1)) :
  qx N W s d w (l++[q]) k2 (.slice a' (l++[q]).length c') w3:=by
 have kA:Kept aB w2 (w2.alloc (.cells #[.int .i64 q.kind,.string q.text,.int .i64 q.n,.string q.name,.slice ka q.kids.length cap] 57)):=(Kept.refl _ _).alloc _
 have hlow:∀b,v.ownBlock=some b→w.heap.size+1≤b∧b<w1.heap.size:=h1.lt
 have ajt:=hk.size
 have EY:Kept (fun b=>v.ownBlock=some b) w2 w3:=(kA.more fun _ h=>h.elim).grown hg fun b hb=>.inl hb
 have e1:(l++[q]).length=l.length+1:=by simp
 rw [e1]
 refine ⟨R.kept EY (fun h=>by have:=hlow N h;omega) (fun h=>by have:=hlow W h;omega),⟨_,fun b=>S b∨S2 b,by rw [e1];exact hw,?_,fun b hb=>?_⟩,?_,(I.kept.trans hk).step EY (fun y hy=>.inr (by have:=hlow y hy;omega)),by rw [e1];have:=I.len;omega⟩
 ·refine gG.append ?_ ?_
  ·exact ((h2.kept hk (fun b hb=>⟨(h3 b hb).2.1,by have:=(h3 b hb).1;omega⟩)).kept EY (fun b hb=>⟨by have:=(h3 b hb).2.1;omega,(h3 b hb).2.2⟩)).more fun b h=>.inl h
  ·rw [gG];refine ⟨_,[],(List.append_nil _).symm,⟨ka,cap,rfl,hz,?_⟩,rfl⟩
   exact aI.to hq EY (fun b hb=>⟨(hS2 b hb).2,fun h=>by have:=hlow b h;have:=(hS2 b hb).1;omega⟩) (fun b h=>.inr h)
 ·have h23:=EY.size
  rcases hb with hb|hb
  ·have:=h3 b hb
   refine ⟨this.1,by omega,?_⟩
   rcases ho with h|h
   ·rw [h];exact this.2.2
   ·rw [h];simp;omega
  ·have:=hS2 b hb
   refine ⟨by have:=I.zero.lt;omega,by omega,?_⟩
   rcases ho with h|h
   ·rw [h];intro h';have:=hlow b h';omega
   ·rw [h];simp;omega
 ·exact Five.kept (Five.kept I.zero hk (by omega)) EY (fun h=>by have:=hlow _ h;omega)
theorem qx.pats {N W:Nat} {s:aj} {d:Nat} {w wx:World} {l:List aA} {k:Nat} {v:Value} (h:qx N W s d w l k v wx) (h0:0<l.length) :
  ∃g o c S,v=.slice (some ⟨g,o,none⟩) l.length c∧aI wx S (some ⟨g,o,none⟩) l∧∀b,S b→w.heap.size<b∧b<wx.heap.size:=by
 obtain ⟨cs,S,h1,h2,h3⟩:=h.own
 rcases h1.cells with ⟨_,hn⟩|⟨g,o,c,hv,hg1,hg2,_,_,hc⟩
 ·omega
 ·refine ⟨g,o,c,fun b=>S b∨b=g,hv,h2.pats g o (fun j u hu=>(hc j u hu).1),fun b hb=>?_⟩
  rcases hb with hb|rfl
  ·exact ⟨(h3 b hb).1,(h3 b hb).2.1⟩
  ·omega
theorem aI.one {w:World} {S:Nat→Prop} {g o:Nat} {p:aA} (h:aI w S (some ⟨g,o,none⟩) [p]):aW w S g o p:=by
 unfold aI at h;obtain ⟨b,o',e,h,_⟩:=h
 simp only [Option.some.injEq,Addr.mk.injEq,and_true] at e
 obtain ⟨rfl,rfl⟩:=e;exact h
end Go.Proofs.YtgoijmpahffnhaaGreatDoor

namespace Go.Proofs.YtgoijmpahffnhaaGreatDoor
set_option linter.all false
open Go.RowKit
set_option maxRecDepth 100000
set_option maxHeartbeats 4000000
def aft (N W:Nat) (s:aj) (d:Nat) (cat:Nat→cu aA):Prop :=
 ∀(i:Nat) (w:World),dw N W s i d w→i≤s.size→Calls Tryz.prog 233 #[.pointer (some ⟨N,0,none⟩)] w (bC N W s d (cat i) (fB w.heap.size) w)
def aeM (N W:Nat) (s:aj) (d:Nat) (item:Nat→cu aA):Prop :=
 ∀(i:Nat) (w:World),dw N W s i d w→i≤s.size→Calls Tryz.prog 262 #[.pointer (some ⟨N,0,none⟩)] w (bC N W s d (item i) (fB w.heap.size) w)
theorem acf (N W:Nat) (s:aj) (i d:Nat) (w:World) (inner:Nat→cu aA) (hc:aft N W s d (jZ inner s)) (hf:cZ s (jZ inner s)) (hr:dw N W s i d w) (hi:i≤s.size) (hs6:s.size≤65536) :
  Calls Tryz.prog 190 #[.pointer (some ⟨N,0,none⟩)] w (bC N W s d (ku inner s i) (fB w.heap.size) w):=by
 have HR:=ah hr;have HC:=ah hc;have HF:=ah hf
 have hN:=hr.lt;have hW:=hr.qO;clear hr hc hf
 have hs:s.size≤1000000000:=by omega
 obtain ⟨i0,hi0,hz0,hz1,hz2⟩:=info_parts Tryz.infoP
 have Z0:Hid (uQ w.heap.size (w.alloc (.cells #[.int .i64 0,.string ⟨#[]⟩,.int .i64 0,.string ⟨#[]⟩,.slice none 0 0] 57))):=ay w _
 have K0:Hid (Kept (· = N) w (w.alloc (.cells #[.int .i64 0,.string ⟨#[]⟩,.int .i64 0,.string ⟨#[]⟩,.slice none 0 0] 57))):=(Kept.refl _ w).alloc _
 go_enter Tryz.func190, Tryz.ntmps190
 go_wp2_with fail
 refine (HC.out i _ (HR.out.kept ((Kept.refl aB w).alloc _) (fun h=>h) (fun h=>h)) hi).mono ?_
 rintro e w2 ⟨k_,h⟩
 have Z2:=ah (Five.kept Z0.out k_ (by omega));have K2:=ah (K0.out.trans k_)
 have hsz2:=k_.size
 clear k_
 cases ht:(jZ inner s) i with
 | error er =>
  rw [ht] at h
  obtain rfl:=h
  have hr:Hid (ku inner s i=.error er):=by unfold Hid ku;rw [ht]
  clear ht
  go_wp2_with fail
  exact aV rfl hr.out K2.out
 | ok y =>
  obtain ⟨p,k0⟩:=y
  rw [ht] at h
  obtain ⟨_,rfl,⟨S,hS,⟨ka,cap,rfl,hz,hk⟩⟩,R2⟩:=h
  have hk0:=HF.out _ _ _ hi ht
  have LS:=ah (Ip (cap:=cap) hN (w1:=w.alloc (.cells #[.int .i64 0,.string ⟨#[]⟩,.int .i64 0,.string ⟨#[]⟩,.slice none 0 0] 57)) (by simp) hsz2 R2 Z2.out K2.out hz hS hk (by omega))
  have E0':Hid (ku inner s i=qV inner s (s.size+1-k0) [p] k0):=by unfold Hid ku;rw [ht]
  clear ht hz hS hk R2 hsz2 Z0 K0 Z2 K2
  go_wp2_with fail
  go_loopg [3] (s.size+1-k0) (fun f v wr=>∃(l:List aA) (k:Nat) (a:Option Addr) (c:Nat),s.size+1-k≤f∧k≤s.size∧0<l.length∧l.length≤k∧v=.slice a l.length c∧Hid (qx N W s d w l k v wr)∧Hid (ku inner s i=qV inner s f l k))
  case atStart=>exact ⟨[p],k0,_,_,Nat.le_refl _,hk0.2,by simp,by simp;omega,rfl,LS,E0'⟩
  case round =>
   obtain ⟨l,k,a,c,hf,hk,hl0,hlk,rfl,I,E⟩:=hrel
   obtain ⟨f,hgk⟩:∃f,gk=f+1:=⟨gk-1,by omega⟩
   have E1:=E.out
   rw [hgk,qV] at E1
   have hf2:s.size-k≤f:=by omega
   have hfl:f<gk:=by omega
   have EE:=ah E1
   clear hgk hf E LS E0' hk0 E1
   go_wp2_with fail
   refine (DW 124 N W (by decide) s k d _ I.out.bf hk hs).mono ?_
   rintro e w1 ⟨rfl,R1,K1⟩
   have E1:=EE.out;clear EE
   have hj:=jR (c:=124) hk
   cases hb:(fV 124 s k).1 with
   | true =>
    rw [if_pos hb] at E1
    have hlt1:=Pe hb
    have I1:=ah (I.out.next hN K1 R1 (by omega))
    generalize (fV 124 s k).2=j at *
    replace hj:=hj.1
    clear I R1 K1 hb
    have HE:=ah E1
    clear E1
    go_wp2_with fail
    refine (HC.out j _ I1.out.bf hj).mono ?_
    rintro e w2 ⟨k_,h⟩
    cases ht:(jZ inner s) j with
    | error er =>
     rw [ht] at h
     obtain rfl:=h
     have hr:Hid (ku inner s i=.error er):=by unfold Hid;rw [HE.out,ht]
     have KE:=ah (I1.out.kept.trans k_)
     clear ht k_
     go_wp2_with fail
     exact aV rfl hr.out KE.out
    | ok y =>
     obtain ⟨q,k2⟩:=y
     rw [ht] at h
     obtain ⟨_,rfl,⟨S2,hS2,⟨ka,cap,rfl,hz,hq⟩⟩,R2⟩:=h
     have hk2:=HF.out _ _ _ hj ht
     have HE2:=ah (HE.out.trans (by rw [ht]))
     obtain ⟨cs,S,hw1,hr1,hS1⟩:=I1.out.own
     have hlow:=hw1.lt
     have Wb:=ah ((hw1.kept k_ (fun b hb=>by have:=(hw1.lt b hb).1;omega)).alloc (.cells #[.int .i64 q.kind,.string q.text,.int .i64 q.n,.string q.name,.slice ka q.kids.length cap] 57))
     have ahb:=k_.size
     have hww:=I1.out.kept.size
     have hwz:=I1.out.zero.lt
     have LM:Hid (∀(a':Option Addr) (c':Nat) (w3:World),aS w3 (w.heap.size+1) 57 5 (.slice a' (l.length+1) c') (l.length+1) (cs++[.int .i64 q.kind,.string q.text,.int .i64 q.n,.string q.name,.slice ka q.kids.length cap])→
       (w2.alloc (.cells #[.int .i64 q.kind,.string q.text,.int .i64 q.n,.string q.name,.slice ka q.kids.length cap] 57)).grownBy w3 (Value.slice a l.length c).ownBlock→((Value.slice a' (l.length+1) c').ownBlock=(Value.slice a l.length c).ownBlock∨(Value.slice a' (l.length+1) c').ownBlock=some (w2.heap.size+1))→
       qx N W s d w (l++[q]) k2 (.slice a' (l++[q]).length c') w3):=fun a' c' w3 x1 x2 x3=>Lj hN hW I1.out hw1 hr1 hS1 k_ R2 (by omega) hz hS2 hq x1 x2 x3
     have el:(l++[q]).length=l.length+1:=by simp
     have EL:=ah el
     clear ht hz hS2 hq R2 k_ hw1 hr1 hS1 hlow el
     go_wp2_with (at_builtin;go_loud (refine dK _ rfl (.tmp 9) (.tmp 12) 55 55 rfl (w.heap.size+1) 57 i0 (.agg #[.int .i64 0,.string ⟨#[]⟩,.int .i64 0,.string ⟨#[]⟩,.slice none 0 0]) 5 72 Tryz.underlying55 hi0 hz0 hz1 hz2 rfl (.slice a l.length c) l.length cs rfl Wb.out _ 1 [.int .i64 q.kind,.string q.text,.int .i64 q.n,.string q.name,.slice ka q.kids.length cap] rfl (Src.ofSlice _ Tryz.underlying55 _ _ _ _ rfl (World.news_of_block (fr:=(0,0)) (cs:=#[.int .i64 q.kind,.string q.text,.int .i64 q.n,.string q.name,.slice ka q.kids.length cap]) (dX (by simp))) (by intro u hu;simp at hu;rcases hu with rfl|rfl|rfl|rfl|rfl<;>rfl)) (by unfold maxLen;omega) (by omega) (by simp;omega) ?_);intro a3 c3 w3 hW3 hg3 ho3)
     have I3:=ah (LM.out a3 c3 w3 hW3 hg3 (by simpa using ho3))
     clear hW3 hg3 ho3 LM Wb
     go_wp2_with fail
     go_roundg f
     case measure=>exact hfl
     case rel=>exact ⟨l++[q],k2,a3,c3,by omega,hk2.2,by rw [EL.out];omega,by rw [EL.out];omega,by rw [EL.out],by have h:=I3.out;rw [EL.out] at h;exact h,HE2⟩
   | false =>
    rw [if_neg (by simp [hb])] at E1
    have I1:=ah (I.out.next hN K1 R1 hj.2)
    generalize (fV 124 s k).2=j at *
    clear I R1 K1 hb
    have hr:Hid (ku inner s i=.ok (uS 19 l,j)):=E1
    clear E1
    obtain ⟨g,o,c',S,hv,hp,hS⟩:=qx.pats I1.out hl0
    simp only [Value.slice.injEq,true_and] at hv
    obtain ⟨rfl,rfl⟩:=hv
    obtain ⟨c0,c1,c2,c3,c4,cf⟩:=Five.cells I1.out.zero
    have f0:=cf 0;have f1:=cf 1;have f2:=cf 2;have f3:=cf 3;have f4:=cf 4;clear cf
    have HS:=ah hS;clear hS
    by_cases h1:l.length=1
    ·obtain ⟨p1,rfl⟩:∃p1,l=[p1]:=List.length_eq_one_iff.1 h1
     obtain ⟨hb1,hz1,e0,e1,e2,e3,ka1,cap1,e4,hk1⟩:=hp.one.open
     have HZ1:=ah hz1;have rC:=ah hk1
     clear hp hz1 hk1 h1 hl0 hlk
     go_wp2_with fail
     exact iE (p:=p1) (S:=S) rfl rfl I1.out.zero I1.out.bf I1.out.kept (Nat.le_refl _) hN hW hr.out HZ1.out (fun b hb=>by have:=HS.out b hb;omega) rC.out
    ·have hne:((l.length:Int)==1)=false:=by simp;omega
     have e1:uS 19 l=.mk 19 E0 0 E0 l:=by
      match l,h1 with
      | [],_=>rfl
      | [_],h1=>simp at h1
      | _::_::_,_=>rfl
     have hr2:Hid (ku inner s i=.ok (.mk 19 E0 0 E0 l,j)):=by unfold Hid;rw [hr.out,e1]
     have HP:=ah hp
     have hlz:l.length<1000000000:=by omega
     clear hp e1 h1
     go_wp2_with fail
     exact iE (p:=.mk 19 E0 0 E0 l) (S:=S) rfl rfl I1.out.zero I1.out.bf I1.out.kept (Nat.le_refl _) hN hW hr2.out ⟨iG,iG,hlz⟩ (fun b hb=>by have:=HS.out b hb;omega) HP.out
theorem acg (N W:Nat) (s:aj) (i d:Nat) (w:World) (inner:Nat→cu aA) (hc:aeM N W s d (iY inner s)) (hf:cZ s (iY inner s)) (hr:dw N W s i d w) (hi:i≤s.size) (hs6:s.size≤65536) :
  Calls Tryz.prog 233 #[.pointer (some ⟨N,0,none⟩)] w (bC N W s d (jZ inner s i) (fB w.heap.size) w):=by
 have HR:=ah hr;have HC:=ah hc;have HF:=ah hf
 have hN:=hr.lt;have hW:=hr.qO;clear hr hc hf
 have hs:s.size≤1000000000:=by omega
 obtain ⟨i0,hi0,hz0,hz1,hz2⟩:=info_parts Tryz.infoP
 have Z0:Hid (uQ w.heap.size (w.alloc (.cells #[.int .i64 0,.string ⟨#[]⟩,.int .i64 0,.string ⟨#[]⟩,.slice none 0 0] 57))):=ay w _
 have K0:Hid (Kept (· = N) w (w.alloc (.cells #[.int .i64 0,.string ⟨#[]⟩,.int .i64 0,.string ⟨#[]⟩,.slice none 0 0] 57))):=(Kept.refl _ w).alloc _
 go_enter Tryz.func233, Tryz.ntmps233
 go_wp2_with fail
 refine (HC.out i _ (HR.out.kept ((Kept.refl aB w).alloc _) (fun h=>h) (fun h=>h)) hi).mono ?_
 rintro e w2 ⟨k_,h⟩
 have Z2:=ah (Five.kept Z0.out k_ (by omega));have K2:=ah (K0.out.trans k_)
 have hsz2:=k_.size
 clear k_
 cases ht:(iY inner s) i with
 | error er =>
  rw [ht] at h
  obtain rfl:=h
  have hr:Hid (jZ inner s i=.error er):=by unfold Hid jZ;rw [ht]
  clear ht
  go_wp2_with fail
  exact aV rfl hr.out K2.out
 | ok y =>
  obtain ⟨p,k0⟩:=y
  rw [ht] at h
  obtain ⟨_,rfl,⟨S,hS,⟨ka,cap,rfl,hz,hk⟩⟩,R2⟩:=h
  have hk0:=HF.out _ _ _ hi ht
  have LS:=ah (Ip (cap:=cap) hN (w1:=w.alloc (.cells #[.int .i64 0,.string ⟨#[]⟩,.int .i64 0,.string ⟨#[]⟩,.slice none 0 0] 57)) (by simp) hsz2 R2 Z2.out K2.out hz hS hk (by omega))
  have E0':Hid (jZ inner s i=qU inner s (s.size+1-k0) [p] k0):=by unfold Hid jZ;rw [ht]
  clear ht hz hS hk R2 hsz2 Z0 K0 Z2 K2
  go_wp2_with fail
  go_loopg [3] (s.size+1-k0) (fun f v wr=>∃(l:List aA) (k:Nat) (a:Option Addr) (c:Nat),s.size+1-k≤f∧k≤s.size∧0<l.length∧l.length≤k∧v=.slice a l.length c∧Hid (qx N W s d w l k v wr)∧Hid (jZ inner s i=qU inner s f l k))
  case atStart=>exact ⟨[p],k0,_,_,Nat.le_refl _,hk0.2,by simp,by simp;omega,rfl,LS,E0'⟩
  case round =>
   obtain ⟨l,k,a,c,hf,hk,hl0,hlk,rfl,I,E⟩:=hrel
   obtain ⟨f,hgk⟩:∃f,gk=f+1:=⟨gk-1,by omega⟩
   have E1:=E.out
   rw [hgk,qU] at E1
   have hf2:s.size-k≤f:=by omega
   have hfl:f<gk:=by omega
   have EE:=ah E1
   clear hgk hf E LS E0' hk0 E1
   go_wp2_with fail
   refine (next_any N W s k d _ I.out.bf hk hs).mono ?_
   rintro e w1 ⟨rfl,R1,K1⟩
   have E1:=EE.out;clear EE
   have hj:=cO hk;have hkj:=pW s k
   have I1:=ah (I.out.next hN K1 R1 hkj)
   generalize hjj:skip s k=j at *
   have Ry:=ah E1
   clear I R1 K1 E1 hjj
   go_upto_if 12 with fail
   go_cut [12] (fun b wx=>b=.bool (starts (peek s j))∧w1=wx)
   case first =>
    by_cases b1:peek s j=40
    ·have z1:(peek s j==40)=true:=by simpa using b1
     clear b1
     go_wp2_with fail
     go_meet
     exact ⟨by unfold starts;simp [z1],rfl⟩
    have z1:(peek s j==40)=false:=by simpa using b1
    by_cases b2:peek s j=39
    ·have z2:(peek s j==39)=true:=by simpa using b2
     clear b1 b2
     go_wp2_with fail
     go_meet
     exact ⟨by unfold starts;simp [z1,z2],rfl⟩
    have z2:(peek s j==39)=false:=by simpa using b2
    by_cases b3:peek s j=64
    ·have z3:(peek s j==64)=true:=by simpa using b3
     clear b1 b2 b3
     go_wp2_with fail
     go_meet
     exact ⟨by unfold starts;simp [z1,z2,z3],rfl⟩
    have z3:(peek s j==64)=false:=by simpa using b3
    by_cases b4:peek s j=42
    ·have z4:(peek s j==42)=true:=by simpa using b4
     clear b1 b2 b3 b4
     go_wp2_with fail
     go_meet
     exact ⟨by unfold starts;simp [z1,z2,z3,z4],rfl⟩
    have z4:(peek s j==42)=false:=by simpa using b4
    clear b1 b2 b3 b4
    by_cases b5:65≤peek s j
    ·have z5:decide (65≤peek s j)=true:=ak b5
     by_cases b6:peek s j≤90
     ·have z6:decide (peek s j≤90)=true:=ak b6
      clear b5 b6
      go_wp2_with fail
      go_meet
      exact ⟨by unfold starts;simp [z1,z2,z3,z4,z5,z6],rfl⟩
     ·have z6:decide (peek s j≤90)=false:=au b6
      clear b5 b6
      go_wp2_with fail
      go_meet
      exact ⟨by unfold starts;simp [z1,z2,z3,z4,z5,z6],rfl⟩
    ·have z5:decide (65≤peek s j)=false:=au b5
     clear b5
     go_wp2_with fail
     go_meet
     exact ⟨by unfold starts;simp [z1,z2,z3,z4,z5],rfl⟩
   case rest =>
    obtain ⟨rfl,rfl⟩:=hcut
    have E1:=Ry.out;clear Ry
    cases hb:starts (peek s j) with
    | true =>
     rw [if_pos hb] at E1
     clear hb
     have HE:=ah E1
     clear E1
     go_wp2_with fail
     refine (HC.out j _ I1.out.bf hj).mono ?_
     rintro e w2 ⟨k_,h⟩
     cases ht:(iY inner s) j with
     | error er =>
      rw [ht] at h
      obtain rfl:=h
      have hr:Hid (jZ inner s i=.error er):=by unfold Hid;rw [HE.out,ht]
      have KE:=ah (I1.out.kept.trans k_)
      clear ht k_
      go_wp2_with fail
      exact aV rfl hr.out KE.out
     | ok y =>
      obtain ⟨q,k2⟩:=y
      rw [ht] at h
      obtain ⟨_,rfl,⟨S2,hS2,⟨ka,cap,rfl,hz,hq⟩⟩,R2⟩:=h
      have hk2:=HF.out _ _ _ hj ht
      have HE2:=ah (HE.out.trans (by rw [ht]))
      obtain ⟨cs,S,hw1,hr1,hS1⟩:=I1.out.own
      have hlow:=hw1.lt
      have Wb:=ah ((hw1.kept k_ (fun b hb=>by have:=(hw1.lt b hb).1;omega)).alloc (.cells #[.int .i64 q.kind,.string q.text,.int .i64 q.n,.string q.name,.slice ka q.kids.length cap] 57))
      have ahb:=k_.size
      have hww:=I1.out.kept.size
      have hwz:=I1.out.zero.lt
      have LM:Hid (∀(a':Option Addr) (c':Nat) (w3:World),aS w3 (w.heap.size+1) 57 5 (.slice a' (l.length+1) c') (l.length+1) (cs++[.int .i64 q.kind,.string q.text,.int .i64 q.n,.string q.name,.slice ka q.kids.length cap])→
        (w2.alloc (.cells #[.int .i64 q.kind,.string q.text,.int .i64 q.n,.string q.name,.slice ka q.kids.length cap] 57)).grownBy w3 (Value.slice a l.length c).ownBlock→((Value.slice a' (l.length+1) c').ownBlock=(Value.slice a l.length c).ownBlock∨(Value.slice a' (l.length+1) c').ownBlock=some (w2.heap.size+1))→
        qx N W s d w (l++[q]) k2 (.slice a' (l++[q]).length c') w3):=fun a' c' w3 x1 x2 x3=>Lj hN hW I1.out hw1 hr1 hS1 k_ R2 (by omega) hz hS2 hq x1 x2 x3
      have el:(l++[q]).length=l.length+1:=by simp
      have EL:=ah el
      clear ht hz hS2 hq R2 k_ hw1 hr1 hS1 hlow el
      go_wp2_with (at_builtin;go_loud (refine dK _ rfl (.tmp 27) (.tmp 30) 55 55 rfl (w.heap.size+1) 57 i0 (.agg #[.int .i64 0,.string ⟨#[]⟩,.int .i64 0,.string ⟨#[]⟩,.slice none 0 0]) 5 72 Tryz.underlying55 hi0 hz0 hz1 hz2 rfl (.slice a l.length c) l.length cs rfl Wb.out _ 1 [.int .i64 q.kind,.string q.text,.int .i64 q.n,.string q.name,.slice ka q.kids.length cap] rfl (Src.ofSlice _ Tryz.underlying55 _ _ _ _ rfl (World.news_of_block (fr:=(0,0)) (cs:=#[.int .i64 q.kind,.string q.text,.int .i64 q.n,.string q.name,.slice ka q.kids.length cap]) (dX (by simp))) (by intro u hu;simp at hu;rcases hu with rfl|rfl|rfl|rfl|rfl<;>rfl)) (by unfold maxLen;omega) (by omega) (by simp;omega) ?_);intro a3 c3 w3 hW3 hg3 ho3)
      have I3:=ah (LM.out a3 c3 w3 hW3 hg3 (by simpa using ho3))
      clear hW3 hg3 ho3 LM Wb
      go_wp2_with fail
      go_roundg f
      case measure=>exact hfl
      case rel=>exact ⟨l++[q],k2,a3,c3,by omega,hk2.2,by rw [EL.out];omega,by rw [EL.out];omega,by rw [EL.out],by have h:=I3.out;rw [EL.out] at h;exact h,HE2⟩
    | false =>
     rw [if_neg (by simp [hb])] at E1
     clear hb
     have hr:Hid (jZ inner s i=.ok (uS 18 l,j)):=E1
     clear E1
     obtain ⟨g,o,c',S,hv,hp,hS⟩:=qx.pats I1.out hl0
     simp only [Value.slice.injEq,true_and] at hv
     obtain ⟨rfl,rfl⟩:=hv
     obtain ⟨c0,c1,c2,c3,c4,cf⟩:=Five.cells I1.out.zero
     have f0:=cf 0;have f1:=cf 1;have f2:=cf 2;have f3:=cf 3;have f4:=cf 4;clear cf
     have HS:=ah hS;clear hS
     by_cases h1:l.length=1
     ·obtain ⟨p1,rfl⟩:∃p1,l=[p1]:=List.length_eq_one_iff.1 h1
      obtain ⟨hb1,hz1,e0,e1,e2,e3,ka1,cap1,e4,hk1⟩:=hp.one.open
      have HZ1:=ah hz1;have rC:=ah hk1
      clear hp hz1 hk1 h1 hl0 hlk
      go_wp2_with fail
      exact iE (p:=p1) (S:=S) rfl rfl I1.out.zero I1.out.bf I1.out.kept (Nat.le_refl _) hN hW hr.out HZ1.out (fun b hb=>by have:=HS.out b hb;omega) rC.out
     ·have hne:((l.length:Int)==1)=false:=by simp;omega
      have e1:uS 18 l=.mk 18 E0 0 E0 l:=by
       match l,h1 with
       | [],_=>rfl
       | [_],h1=>simp at h1
       | _::_::_,_=>rfl
      have hr2:Hid (jZ inner s i=.ok (.mk 18 E0 0 E0 l,j)):=by unfold Hid;rw [hr.out,e1]
      have HP:=ah hp
      have hlz:l.length<1000000000:=by omega
      clear hp e1 h1
      go_wp2_with fail
      exact iE (p:=.mk 18 E0 0 E0 l) (S:=S) rfl rfl I1.out.zero I1.out.bf I1.out.kept (Nat.le_refl _) hN hW hr2.out ⟨iG,iG,hlz⟩ (fun b hb=>by have:=HS.out b hb;omega) HP.out
end Go.Proofs.YtgoijmpahffnhaaGreatDoor

namespace Go.Proofs.YtgoijmpahffnhaaGreatDoor
set_option linter.all false
open Go.RowKit
set_option maxRecDepth 100000
theorem DY {s:aj}:∀(f:Nat) (p:aA) (k:Nat) {q:aA} {k':Nat},k≤s.size→mP s f p k=.ok (q,k')→k≤k'∧k'≤s.size
 | 0,p,k,q,k',hk,h=>by simp [mP] at h;omega
 | f+1,p,k,q,k',hk,h=>by
  have h1:=jR (c:=46) hk
  rw [mP] at h
  split at h
  ·cases hn:nameP s (fV 46 s k).2 with
   | error e=>rw [hn] at h;cases h
   | ok y =>
    obtain ⟨nm,k1⟩:=y
    rw [hn] at h
    have h2:=qR h1.1 hn
    have:=DY f _ k1 h2.2 h
    omega
  ·have h3:=jR (c:=36) h1.1
   split at h
   ·cases hn:nameP s (fV 36 s (fV 46 s k).2).2 with
    | error e=>rw [hn] at h;cases h
    | ok y =>
     obtain ⟨nm,k1⟩:=y
     rw [hn] at h
     have h2:=qR h3.1 hn
     have:=DY f _ k1 h2.2 h
     omega
   ·simp only [Except.ok.injEq,Prod.mk.injEq] at h;omega
theorem sU {s:aj} {inner:Nat→cu aA} (hf:cZ s inner):cZ s (iY inner s):=by
 intro i p k hi h
 unfold iY at h
 cases hh:mQ inner s i with
 | error e=>rw [hh] at h;cases h
 | ok y =>
  obtain ⟨q,k1⟩:=y
  rw [hh] at h
  have h1:=Fz hf hi hh
  have:=DY _ _ _ h1.2 h
  omega
theorem Ll {s:aj} {inner:Nat→cu aA} (hf:cZ s inner):∀(f:Nat) (l:List aA) (k:Nat) {q:aA} {k':Nat},k≤s.size→qU inner s f l k=.ok (q,k')→k≤k'∧k'≤s.size
 | 0,l,k,q,k',hk,h=>by simp [qU] at h;omega
 | f+1,l,k,q,k',hk,h=>by
  have h1:=pW s k;have h2:=cO hk
  rw [qU] at h
  split at h
  ·cases hn:iY inner s (skip s k) with
   | error e=>rw [hn] at h;cases h
   | ok y =>
    obtain ⟨nm,k1⟩:=y
    rw [hn] at h
    have h3:=sU hf _ _ _ h2 hn
    have:=Ll hf f _ k1 h3.2 h
    omega
  ·simp only [Except.ok.injEq,Prod.mk.injEq] at h;omega
theorem vg {s:aj} {inner:Nat→cu aA} (hf:cZ s inner):cZ s (jZ inner s):=by
 intro i p k hi h
 unfold jZ at h
 cases hh:iY inner s i with
 | error e=>rw [hh] at h;cases h
 | ok y =>
  obtain ⟨q,k1⟩:=y
  rw [hh] at h
  have h1:=sU hf _ _ _ hi hh
  have:=Ll hf _ _ _ h1.2 h
  omega
theorem Lm {s:aj} {inner:Nat→cu aA} (hf:cZ s inner):∀(f:Nat) (l:List aA) (k:Nat) {q:aA} {k':Nat},k≤s.size→qV inner s f l k=.ok (q,k')→k≤k'∧k'≤s.size
 | 0,l,k,q,k',hk,h=>by simp [qV] at h;omega
 | f+1,l,k,q,k',hk,h=>by
  have h1:=jR (c:=124) hk
  rw [qV] at h
  split at h
  ·cases hn:jZ inner s (fV 124 s k).2 with
   | error e=>rw [hn] at h;cases h
   | ok y =>
    obtain ⟨nm,k1⟩:=y
    rw [hn] at h
    have h3:=vg hf _ _ _ h1.1 hn
    have:=Lm hf f _ k1 h3.2 h
    omega
  ·simp only [Except.ok.injEq,Prod.mk.injEq] at h;omega
theorem IU {s:aj} {inner:Nat→cu aA} (hf:cZ s inner):cZ s (ku inner s):=by
 intro i p k hi h
 unfold ku at h
 cases hh:jZ inner s i with
 | error e=>rw [hh] at h;cases h
 | ok y =>
  obtain ⟨q,k1⟩:=y
  rw [hh] at h
  have h1:=vg hf _ _ _ hi hh
  have:=Lm hf _ _ _ h1.2 h
  omega
theorem kX (s:aj):∀m,cZ s (gQ s m)
 | 0=>fun i p k _ h=>by simp [gQ] at h
 | m+1=>fun i p k hi h=>IU (kX s m) i p k hi h
theorem DZ {N W:Nat} {s:aj} {d m:Nat} (hs:s.size≤65536) (hin:vS N W s d (gQ s m)):Us N W s d (ku (gQ s m) s):=fun i w hr hi =>
 acf N W s i d w (gQ s m) (fun i w hr hi=>acg N W s i d w (gQ s m) (fun i w hr hi=>ZX N W s i d w (gQ s m) hin (kX s m) hr hi hs) (sU (kX s m)) hr hi hs) (vg (kX s m)) hr hi hs
theorem Lp (N W:Nat) (s:aj) (hs:s.size≤65536):∀(m d:Nat),200=d+m→vS N W s d (gQ s m)
 | 0,d,h=>by
         obtain rfl:d=200:=by omega
         exact Ut N W s
 | m+1,d,h=>Uu N W s d m h (DZ hs (Lp N W s hs m (d+1) (by omega)))
theorem ach (N W:Nat) (s:aj) (hs:s.size≤65536):Us N W s 0 (ku (gQ s 200) s):=DZ hs (Lp N W s hs 200 0 rfl)
theorem XC (w:World):Calls Tryz.prog 189 #[] w fun e w'=>e=.returned (.slice (some ⟨w.heap.size,0,none⟩) 21 21)∧w'=w.alloc (.cells (yD.map Value.string).toArray 9):=by
 go_enter Tryz.func189, Tryz.ntmps189
 go_wp2
 go_ret
 exact ⟨rfl,rfl⟩
end Go.Proofs.YtgoijmpahffnhaaGreatDoor

namespace Go.Proofs.YtgoijmpahffnhaaGreatDoor
set_option linter.all false
open Go.RowKit
def lC (s:aj) (f:Nat→cu aA):Prop:=∀i p k,i≤s.size→f i=.ok (p,k)→sizeT p+2*i+1≤2*k
theorem size_leaf (k:Int) (t:aj) (n:Int) (nm:aj):sizeT (.mk k t n nm [])=1:=by simp [sizeT,aT]
theorem Gi (k:Int) (t:aj) (n:Int) (nm:aj) (p:aA):sizeT (.mk k t n nm [p])=1+sizeT p:=by simp [sizeT,aT]
theorem Ux {s:aj} {inner:Nat→cu aA} (hf:cZ s inner) (hz:lC s inner):lC s (aF inner s):=by
 intro i p k hi h
 have hfw:=zI hf hi h
 have h1:=pW s i;have h2:=cO hi
 unfold aF at h
 split at h
 ·unfold Fv at h
  cases ht:gY s (skip s i) with
  | error e=>rw [ht] at h;cases h
  | ok y =>
   obtain ⟨⟨t,a⟩,k1⟩:=y
   rw [ht] at h;simp only [Except.ok.injEq,Prod.mk.injEq] at h;obtain ⟨rfl,rfl⟩:=h
   rw [size_leaf];omega
 ·have nm:∀kd,yL s (skip s i+1) kd=.ok (p,k)→sizeT p=1:=by
   intro kd h
   unfold yL at h
   cases ht:nameP s (skip s i+1) with
   | error e=>rw [ht] at h;cases h
   | ok y =>
    obtain ⟨t,k1⟩:=y
    rw [ht] at h;simp only [Except.ok.injEq,Prod.mk.injEq] at h;obtain ⟨rfl,rfl⟩:=h
    exact size_leaf _ _ _ _
  split at h
  ·have:=nm _ h;omega
  ·split at h
   ·have:=nm _ h;omega
   ·unfold kW at h
    cases ht:fQ s (skip s i) with
    | error e=>rw [ht] at h;cases h
    | ok y =>
     obtain ⟨⟨x,a⟩,k1⟩:=y
     rw [ht] at h;dsimp only at h
     have a1:=iP h2 ht
     unfold lS at h
     split at h
     ·cases h
     ·split at h
      ·unfold bP at h
       cases hn:bT 40 s k1 with
       | error e=>rw [hn] at h;cases h
       | ok k2 =>
        rw [hn] at h;dsimp only at h
        cases hx:gY s k2 with
        | error e=>rw [hx] at h;cases h
        | ok y =>
         obtain ⟨⟨t,b⟩,k3⟩:=y
         rw [hx] at h;dsimp only at h
         split at h
         ·cases h
         ·cases hm:bT 41 s k3 with
          | error e=>rw [hm] at h;cases h
          | ok k4 =>
           rw [hm] at h;simp only [Except.ok.injEq,Prod.mk.injEq] at h;obtain ⟨rfl,rfl⟩:=h
           rw [size_leaf];omega
      ·split at h
       ·unfold dV at h
        cases hn:bT 40 s k1 with
        | error e=>rw [hn] at h;cases h
        | ok k2 =>
         rw [hn] at h;dsimp only at h
         cases hx:kR s k2 with
         | error e=>rw [hx] at h;cases h
         | ok y =>
          obtain ⟨t,k3⟩:=y
          rw [hx] at h;dsimp only at h
          cases hm:bT 41 s k3 with
          | error e=>rw [hm] at h;cases h
          | ok k4 =>
           rw [hm] at h;simp only [Except.ok.injEq,Prod.mk.injEq] at h;obtain ⟨rfl,rfl⟩:=h
           rw [size_leaf];omega
       ·split at h
        ·unfold pV at h
         cases hn:bT 40 s k1 with
         | error e=>rw [hn] at h;cases h
         | ok k2 =>
          rw [hn] at h;dsimp only at h
          have a2:=fC hn
          cases hx:inner k2 with
          | error e=>rw [hx] at h;cases h
          | ok y =>
           obtain ⟨t,k3⟩:=y
           rw [hx] at h;dsimp only at h
           cases hm:bT 41 s k3 with
           | error e=>rw [hm] at h;cases h
           | ok k4 =>
            rw [hm] at h;simp only [Except.ok.injEq,Prod.mk.injEq] at h;obtain ⟨rfl,rfl⟩:=h
            have:=hz _ _ _ a2.2.1 hx
            have:=fC hm
            rw [Gi];omega
        ·simp only [Except.ok.injEq,Prod.mk.injEq] at h;obtain ⟨rfl,rfl⟩:=h
         rw [size_leaf];omega
theorem aci {s:aj} {inner:Nat→cu aA} (hf:cZ s inner) (hz:lC s inner):lC s (mQ inner s):=by
 intro i p k hi h
 have a0:=jR (c:=40) hi
 unfold mQ at h
 split at h
 ·cases h1:inner (fV 40 s i).2 with
  | error e=>rw [h1] at h;cases h
  | ok y =>
   obtain ⟨q,k1⟩:=y
   rw [h1] at h;dsimp only at h
   cases h3:bT 41 s k1 with
   | error e=>rw [h3] at h;cases h
   | ok k3 =>
    rw [h3] at h;simp only [Except.ok.injEq,Prod.mk.injEq] at h;obtain ⟨rfl,rfl⟩:=h
    have:=hz _ _ _ a0.1 h1;have:=fC h3;omega
 ·have:=Ux hf hz _ _ _ a0.1 h;omega
theorem Gj {s:aj}:∀(f:Nat) (p:aA) (k:Nat) {q:aA} {k' i:Nat},k≤s.size→mP s f p k=.ok (q,k')→sizeT p+2*i+1≤2*k→sizeT q+2*i+1≤2*k'
 | 0,p,k,q,k',i,hk,h,hs=>by simp only [mP,Except.ok.injEq,Prod.mk.injEq] at h;obtain ⟨rfl,rfl⟩:=h;exact hs
 | f+1,p,k,q,k',i,hk,h,hs=>by
  have h1:=jR (c:=46) hk
  rw [mP] at h
  split at h
  ·cases hn:nameP s (fV 46 s k).2 with
   | error e=>rw [hn] at h;cases h
   | ok y =>
    obtain ⟨nm,k1⟩:=y
    rw [hn] at h
    have h2:=qR h1.1 hn
    exact Gj f _ k1 h2.2 h (by rw [Gi];omega)
  ·have h3:=jR (c:=36) h1.1
   split at h
   ·cases hn:nameP s (fV 36 s (fV 46 s k).2).2 with
    | error e=>rw [hn] at h;cases h
    | ok y =>
     obtain ⟨nm,k1⟩:=y
     rw [hn] at h
     have h2:=qR h3.1 hn
     exact Gj f _ k1 h2.2 h (by rw [Gi];omega)
   ·simp only [Except.ok.injEq,Prod.mk.injEq] at h;obtain ⟨rfl,rfl⟩:=h;omega
theorem RS {s:aj} {inner:Nat→cu aA} (hf:cZ s inner) (hz:lC s inner):lC s (iY inner s):=by
 intro i p k hi h
 unfold iY at h
 cases hh:mQ inner s i with
 | error e=>rw [hh] at h;cases h
 | ok y =>
  obtain ⟨q,k1⟩:=y
  rw [hh] at h
  have h1:=Fz hf hi hh
  exact Gj _ _ _ h1.2 h (aci hf hz _ _ _ hi hh)
theorem yE:∀(a b:List aA),aT (a++b)=aT a+aT b
 | [],b=>by simp [aT]
 | p::ps,b=>by simp only [List.cons_append,aT,yE ps b];omega
theorem BG (kd:Int) (l:List aA) (n:Nat) (h0:0<l.length) (h:aT l+l.length≤n):sizeT (uS kd l)+1≤n:=by
 match l,h0 with
 | [p],_=>simp only [uS,aT,List.length_cons,List.length_nil] at h⊢;omega
 | p::q::r,_=>simp only [uS,sizeT,List.length_cons] at h⊢;omega
theorem Pj {s:aj} {inner:Nat→cu aA} (hf:cZ s inner) (hz:lC s inner):∀(f:Nat) (l:List aA) (k:Nat) {q:aA} {k' i:Nat},k≤s.size→0<l.length→qU inner s f l k=.ok (q,k')→aT l+l.length+2*i≤2*k→sizeT q+2*i+1≤2*k'
 | 0,l,k,q,k',i,hk,h0,h,hs=>by
  simp only [qU,Except.ok.injEq,Prod.mk.injEq] at h;obtain ⟨rfl,rfl⟩:=h
  have:=BG 18 l (2*k-2*i) h0 (by omega);omega
 | f+1,l,k,q,k',i,hk,h0,h,hs=>by
  have h1:=pW s k;have h2:=cO hk
  rw [qU] at h
  split at h
  ·cases hn:iY inner s (skip s k) with
   | error e=>rw [hn] at h;cases h
   | ok y =>
    obtain ⟨p,k1⟩:=y
    rw [hn] at h
    have h3:=sU hf _ _ _ h2 hn
    have h4:=RS hf hz _ _ _ h2 hn
    exact Pj hf hz f _ k1 h3.2 (by simp) h (by rw [yE,List.length_append];simp only [aT,List.length_cons,List.length_nil];omega)
  ·simp only [Except.ok.injEq,Prod.mk.injEq] at h;obtain ⟨rfl,rfl⟩:=h
   have:=BG 18 l (2*k-2*i) h0 (by omega);omega
theorem XD {s:aj} {inner:Nat→cu aA} (hf:cZ s inner) (hz:lC s inner):lC s (jZ inner s):=by
 intro i p k hi h
 unfold jZ at h
 cases hh:iY inner s i with
 | error e=>rw [hh] at h;cases h
 | ok y =>
  obtain ⟨q,k1⟩:=y
  rw [hh] at h
  have h1:=sU hf _ _ _ hi hh
  have h2:=RS hf hz _ _ _ hi hh
  exact Pj hf hz _ _ _ h1.2 (by simp) h (by simp only [aT,List.length_cons,List.length_nil];omega)
theorem Pm {s:aj} {inner:Nat→cu aA} (hf:cZ s inner) (hz:lC s inner):∀(f:Nat) (l:List aA) (k:Nat) {q:aA} {k' i:Nat},k≤s.size→0<l.length→qV inner s f l k=.ok (q,k')→aT l+l.length+2*i≤2*k→sizeT q+2*i+1≤2*k'
 | 0,l,k,q,k',i,hk,h0,h,hs=>by
  simp only [qV,Except.ok.injEq,Prod.mk.injEq] at h;obtain ⟨rfl,rfl⟩:=h
  have:=BG 19 l (2*k-2*i) h0 (by omega);omega
 | f+1,l,k,q,k',i,hk,h0,h,hs=>by
  have h1:=jR (c:=124) hk
  rw [qV] at h
  split at h
  ·cases hn:jZ inner s (fV 124 s k).2 with
   | error e=>rw [hn] at h;cases h
   | ok y =>
    obtain ⟨p,k1⟩:=y
    rw [hn] at h
    have h3:=vg hf _ _ _ h1.1 hn
    have h4:=XD hf hz _ _ _ h1.1 hn
    exact Pm hf hz f _ k1 h3.2 (by simp) h (by rw [yE,List.length_append];simp only [aT,List.length_cons,List.length_nil];omega)
  ·simp only [Except.ok.injEq,Prod.mk.injEq] at h;obtain ⟨rfl,rfl⟩:=h
   have:=BG 19 l (2*k-2*i) h0 (by omega);omega
theorem XE {s:aj} {inner:Nat→cu aA} (hf:cZ s inner) (hz:lC s inner):lC s (ku inner s):=by
 intro i p k hi h
 unfold ku at h
 cases hh:jZ inner s i with
 | error e=>rw [hh] at h;cases h
 | ok y =>
  obtain ⟨q,k1⟩:=y
  rw [hh] at h
  have h1:=vg hf _ _ _ hi hh
  have h2:=XD hf hz _ _ _ hi hh
  exact Pm hf hz _ _ _ h1.2 (by simp) h (by simp only [aT,List.length_cons,List.length_nil];omega)
theorem Pn (s:aj):∀m,lC s (gQ s m)
 | 0=>fun i p k _ h=>by simp [gQ] at h
 | m+1=>fun i p k hi h=>XE (kX s m) (Pn s m) i p k hi h
theorem RU {s:aj} {p:aA} {k:Nat} (hs:s.size≤65536) (h:ku (gQ s 200) s 0=.ok (p,k)):sizeT p≤200000∧k≤s.size:=by
 have h1:=XE (kX s 200) (Pn s 200) 0 p k (Nat.zero_le _) h
 have h2:=IU (kX s 200) 0 p k (Nat.zero_le _) h
 omega
def lT (s:aj):Except Er aA :=
 if 65536<s.size then .error (4,0) else
 match ku (gQ s 200) s 0 with
 | .error e=>.error e
 | .ok (p,k)=>if 0≤peek s (skip s k) then .error (2,skip s k) else if fits p then .ok p else .error (4,0)
end Go.Proofs.YtgoijmpahffnhaaGreatDoor

namespace Go.Proofs.YtgoijmpahffnhaaGreatDoor
set_option linter.all false
open Go.RowKit
set_option maxRecDepth 100000
set_option maxHeartbeats 1000000
def Two (M:Nat) (c0 c1:Value) (w:World):Prop:=w.heap[M]?=some (.cells #[c0,c1] 39 (0,0))
theorem Two.lt {M:Nat} {c0 c1:Value} {w:World} (h:Two M c0 c1 w):M<w.heap.size:=(Array.getElem?_eq_some_iff.1 h).1
theorem Two.kept {M:Nat} {c0 c1:Value} {w w':World} {X:Nat→Prop} (h:Two M c0 c1 w) (hk:Kept X w w') (hx:¬X M):Two M c0 c1 w':=by
 unfold Two;rw [hk.block M h.lt hx];exact h
theorem Two.cells {M:Nat} {c0 c1:Value} {w:World} (h:Two M c0 c1 w):w.cell? ⟨M,0,none⟩=some c0∧w.cell? ⟨M,1,none⟩=some c1∧∀o,w.frozen? ⟨M,o,none⟩=false:=by
 unfold Two at h
 refine ⟨?_,?_,fun o=>by simp [World.frozen?,h]⟩<;>(rw [cell_of_row w M _ _ _ _ h];rfl)
def set2 (w:World) (M:Nat) (c0 c1:Value):World:=(w.setCell ⟨M,0,none⟩ c0).setCell ⟨M,1,none⟩ c1
theorem Two.set2 {M:Nat} {z0 z1:Value} {w:World} (h:Two M z0 z1 w) (c0 c1:Value):Two M c0 c1 (set2 w M c0 c1):=by
 unfold Two at h⊢
 unfold Go.Proofs.YtgoijmpahffnhaaGreatDoor.set2
 rw [aP (aP h _) _];rfl
theorem Kept.set2 {X:Nat→Prop} {a w:World} (h:Kept X a w) {M:Nat} (hM:X M∨a.heap.size≤M) (c0 c1:Value):Kept X a (set2 w M c0 c1) :=
 (h.setCell (p:=⟨M,0,none⟩) hM _).setCell (p:=⟨M,1,none⟩) hM _
def XF (A1 A2:Nat) (er:Er) (w:World) (e:Ending) (u:FrameMode) (w':World):Prop :=
 e=.returned (.tuple #[])∧u=.panicking [{v:=BD er,recovered:=true}]∧uQ A1 w'∧Two A2 (.int .i64 er.1) (.int .i64 er.2) w'∧Kept (fun k=>k=A1∨k=A2) w w'
theorem Uy (A1 A2:Nat) (hne:A1≠A2) (er:Er) (w:World) (z0 z1 z2 z3 z4 y0 y1:Value) (hF:Five A1 z0 z1 z2 z3 z4 w) (hT:Two A2 y0 y1 w) :
  CallsD Tryz.prog 188 #[.pointer (some ⟨A1,0,none⟩),.pointer (some ⟨A2,0,none⟩)] (.panicking [{v:=BD er,recovered:=false}]) w (XF A1 A2 er w):=by
 have hta:∀(x:Value) (w:World),(Instr.typeAssert (.iface 270 x) 20 270 true).run Tryz.prog w=.ok (.tuple #[x,.bool true]) w:=fun _ _=>by kernel_rfl
 refine callsD_of_wpS Tryz.func188 rfl fun c₀ cs hu=>?_
 obtain ⟨c0,c1,c2,c3,c4,cf⟩:=hF.cells
 obtain ⟨d0,d1,df⟩:=hT.cells
 have f0:=cf 0;have f1:=cf 1;have f2:=cf 2;have f3:=cf 3;have f4:=cf 4;clear cf
 have g0:=df 0;have g1:=df 1;clear df
 have HF:=ah hF;have HT:=ah hT
 have hl1:=hF.lt;have hl2:=hT.lt
 obtain ⟨e1,e2⟩:=er
 have HU:=ah hu
 apply wpS_seq
 apply wpS_region
 simp [wpOpsS,go_sem,recoverD,hu,Tryz.ntmps188,Exit.thenS]
 clear hF hT hu
 unfold BD
 dsimp only
 show Code.wpS _ _ _ ⟨#[.pointer (some ⟨A1,0,none⟩),.pointer (some ⟨A2,0,none⟩),undef,undef,undef,.iface 270 (.agg #[.int .i64 e1,.int .i64 e2]),undef,undef,undef,undef,undef,undef,undef,undef],[]⟩ _ _
 refine wpS_of_wp ?_
 go_wp2_with fail
 go_region
 all_goals go_wp2_with fail
 have F5:uQ A1 (aZ w A1 (.int .i64 0) (.string ⟨#[]⟩) (.int .i64 0) (.string ⟨#[]⟩) (.slice none 0 0)):=HF.out.aZ _ _ _ _ _
 have T5:Two A2 y0 y1 (aZ w A1 (.int .i64 0) (.string ⟨#[]⟩) (.int .i64 0) (.string ⟨#[]⟩) (.slice none 0 0)):=HT.out.kept ((Kept.refl (· = A1) w).aZ (.inl rfl) _ _ _ _ _) (fun h=>hne h.symm)
 have K:Kept (fun k=>k=A1∨k=A2) w (set2 (aZ w A1 (.int .i64 0) (.string ⟨#[]⟩) (.int .i64 0) (.string ⟨#[]⟩) (.slice none 0 0)) A2 (.int .i64 e1) (.int .i64 e2)) :=
  ((Kept.refl _ w).aZ (.inl (.inl rfl)) _ _ _ _ _).set2 (.inl (.inr rfl)) _ _
 refine ⟨rfl,_,rfl,.tuple #[],by simp [results,Tryz.results188,go_sem],rfl,rfl,?_,?_,(K.alloc _).drew⟩
 ·exact Five.kept (Five.kept F5 ((Kept.refl (· = A2) _).set2 (.inl rfl) (.int .i64 e1) (.int .i64 e2)) hne) ((Kept.refl aB _).alloc _).drew (fun h=>h)
 ·exact (T5.set2 (.int .i64 e1) (.int .i64 e2)).kept ((Kept.refl aB _).alloc _).drew (fun h=>h)
theorem catch_idle (a b:Value) (w:World) :
  CallsD Tryz.prog 188 #[a,b] .returning w fun e u' w'=>e=.returned (.tuple #[])∧u'=.returning∧w=w':=by
 refine callsD_of_wpS Tryz.func188 rfl fun c₀ cs hu=>?_
 have HU:=ah hu
 apply wpS_seq
 apply wpS_region
 simp [wpOpsS,go_sem,recoverD,hu,Tryz.ntmps188,Exit.thenS]
 clear hu
 show Code.wpS _ _ _ ⟨#[a,b,undef,undef,undef,.nilIface,undef,undef,undef,undef,undef,undef,undef,undef],[]⟩ _ _
 refine wpS_of_wp ?_
 go_wp2_with fail
 refine ⟨rfl,.returning,?_,.tuple #[],by simp [results,Tryz.results188,go_sem],rfl,rfl,rfl⟩
 have h:=HU.out
 cases c₀;simp_all
end Go.Proofs.YtgoijmpahffnhaaGreatDoor

namespace Go.Proofs.YtgoijmpahffnhaaGreatDoor
set_option linter.all false
open Go.RowKit
set_option maxRecDepth 100000
set_option maxHeartbeats 4000000
def zeroV:Value:=.agg #[.int .i64 0,.string ⟨#[]⟩,.int .i64 0,.string ⟨#[]⟩,.slice none 0 0]
def yw (er:Er):Value:=.agg #[.int .i64 er.1,.int .i64 er.2]
def vT (s:aj) (w:World) (e:Ending) (w':World):Prop :=
 Kept aB w w'∧match lT s with
  | .ok p=>∃v,e=.returned (.tuple #[v,yw (0,0)])∧fB w.heap.size p w' v
  | .error er=>e=.returned (.tuple #[zeroV,yw er])
theorem results_read {tmps:Array Value} {A1 A2:Nat} (h2:tmps.getD 2 undef=.pointer (some ⟨A1,0,none⟩)) (h3:tmps.getD 3 undef=.pointer (some ⟨A2,0,none⟩)) {c0 c1 c2 c3 c4 d0 d1:Value} {w:World} (h:Five A1 c0 c1 c2 c3 c4 w) (k:Two A2 d0 d1 w) :
  (results Tryz.f128 tmps).run Tryz.prog w=.ok (.tuple #[.agg #[c0,c1,c2,c3,c4],.agg #[d0,d1]]) w:=by
 obtain ⟨x0,x1,x2,x3,x4,_⟩:=h.cells
 obtain ⟨y0,y1,_⟩:=k.cells
 have ht2:tmps[2]?.getD undef=.pointer (some ⟨A1,0,none⟩):=by rw [←h2,Array.getD_eq_getD_getElem?]
 have ht3:tmps[3]?.getD undef=.pointer (some ⟨A2,0,none⟩):=by rw [←h3,Array.getD_eq_getD_getElem?]
 simp [results,Tryz.results128,go_sem,ht2,ht3,x0,x1,x2,x3,x4,y0,y1]
theorem Gl {s:aj} {er:Er} {w w':World} (hr:lT s=.error er) (K:Kept aB w w'):vT s w (.returned (.tuple #[zeroV,yw er])) w':=by
 unfold vT;rw [hr];exact ⟨K,rfl⟩
theorem Iq {s:aj} {w w1:World} {tmps:Array Value} {A1 A2:Nat} {er:Er} {z0 z1 z2 z3 z4 y0 y1:Value} (h2:tmps.getD 2 undef=.pointer (some ⟨A1,0,none⟩)) (h3:tmps.getD 3 undef=.pointer (some ⟨A2,0,none⟩))
  (hne:A1≠A2) (hF:Five A1 z0 z1 z2 z3 z4 w1) (hT:Two A2 y0 y1 w1) (hA:w.heap.size≤A1∧w.heap.size≤A2) (hr:lT s=.error er) (K:Kept aB w w1) :
  bodyPostD Tryz.prog Tryz.f128 (vT s w) (.panic [{v:=BD er,recovered:=false}]) ⟨tmps,[{target:=.fn (.func 188) #[.pointer (some ⟨A1,0,none⟩),.pointer (some ⟨A2,0,none⟩)],args:=#[]}]⟩ w1:=by
 refine leaves_cons (f:=188) (args:=#[.pointer (some ⟨A1,0,none⟩),.pointer (some ⟨A2,0,none⟩)]) (by simp) (by simp [go_sem]) ?_
 refine (Uy A1 A2 hne er w1 _ _ _ _ _ _ _ hF hT).mono ?_
 rintro e u' w2 ⟨rfl,rfl,F,T,k⟩
 show Leaves _ _ _ _ [] (settle (.panicking [{v:=BD er,recovered:=true}])) w2
 exact ⟨_,results_read h2 h3 F T,Gl hr (K.step k (fun y hy=>.inr (by omega)))⟩
theorem Po {R:Ending→World→Prop} {w1:World} {tmps:Array Value} {A1 A2:Nat} {c0 c1 c2 c3 c4 d0 d1:Value} (h2:tmps.getD 2 undef=.pointer (some ⟨A1,0,none⟩)) (h3:tmps.getD 3 undef=.pointer (some ⟨A2,0,none⟩))
  (hF:Five A1 c0 c1 c2 c3 c4 w1) (hT:Two A2 d0 d1 w1) (hR:R (.returned (.tuple #[.agg #[c0,c1,c2,c3,c4],.agg #[d0,d1]])) w1) :
  bodyPostD Tryz.prog Tryz.f128 R .ret ⟨tmps,[{target:=.fn (.func 188) #[.pointer (some ⟨A1,0,none⟩),.pointer (some ⟨A2,0,none⟩)],args:=#[]}]⟩ w1:=by
 refine leaves_cons (f:=188) (args:=#[.pointer (some ⟨A1,0,none⟩),.pointer (some ⟨A2,0,none⟩)]) (by simp) (by simp [go_sem]) ?_
 refine (catch_idle _ _ w1).mono ?_
 rintro e u' w2 ⟨rfl,rfl,rfl⟩
 exact ⟨_,results_read h2 h3 hF hT,hR⟩
theorem ZR (s:aj) (w:World) (hs:s.size≤maxLen):Calls Tryz.prog 128 #[.string s] w (vT s w):=by
 unfold maxLen at hs
 have hmf:∀(fn:Fn) (first cap:Array Value) (w:World),(Instr.makeFunc fn first cap).run Tryz.prog w=.ok (.func fn first cap) w:=fun _ _ _ _=>rfl
 by_cases hl:65536<s.size
 ·have hr:Hid (lT s=.error (4,0)):=by unfold Hid lT;rw [if_pos hl]
  go_enter_defers Tryz.func128, Tryz.ntmps128
  go_wp2_with fail
  refine ⟨.tuple #[zeroV,yw (4,0)],by simp [results,Tryz.results128,go_sem,zeroV,yw],Gl hr.out (by repeat (first|exact Kept.refl _ _|refine Kept.alloc ?_ _))⟩
 ·have hs6:s.size≤65536:=by omega
  obtain ⟨w4,hw4⟩:∃w4,w4=(((w.alloc (.cells #[.int .i64 0,.string ⟨#[]⟩,.int .i64 0,.string ⟨#[]⟩,.slice none 0 0] 57)).alloc (.cells #[.int .i64 0,.int .i64 0] 39)).alloc (.cells (yD.map Value.string).toArray 9)).alloc (.cells #[.string s,.int .i64 0,.slice (some ⟨w.heap.size+1+1,0,none⟩) 21 21,.int .i64 0] 274):=⟨_,rfl⟩
  have R4:Hid (dw (w.heap.size+1+1+1) (w.heap.size+1+1) s 0 0 w4):=by rw [hw4];exact ⟨dX (by simp),by omega,ou.kept (dX (by simp)) ((Kept.refl aB _).alloc _) (fun h=>h)⟩
  have F4:Hid (uQ w.heap.size w4):=by rw [hw4];exact Five.kept (ay w _) ((((Kept.refl aB _).alloc _).alloc _).alloc _) (fun h=>h)
  have T4:Hid (Two (w.heap.size+1) (.int .i64 0) (.int .i64 0) w4):=by rw [hw4];exact Two.kept (dX (by simp)) (((Kept.refl aB _).alloc _).alloc _) (fun h=>h)
  have K4:Hid (Kept aB w w4):=by rw [hw4];exact ((((Kept.refl aB w).alloc _).alloc _).alloc _).alloc _
  have hz4:w4.heap.size=w.heap.size+4:=by rw [hw4];simp
  have HZ4:=ah hz4;clear hz4
  go_enter_defers Tryz.func128, Tryz.ntmps128
  go_wp2_with fail
  refine (XC _).mono ?_
  rintro e w' ⟨rfl,rfl⟩
  go_wp2_with fail
  rw [←hw4];clear hw4
  refine (ach _ _ s hs6 0 w4 R4.out (Nat.zero_le _)).mono ?_
  rintro e w5 ⟨k_,h⟩
  have hz4:=HZ4.out
  have F5:=ah (Five.kept F4.out k_ (by omega));have T5:=ah (T4.out.kept k_ (by omega))
  have K5:Hid (Kept aB w w5):=K4.out.step k_ (fun y hy=>.inr (by omega))
  have hsz5:=k_.size
  clear k_ F4 T4 K4
  cases ha:ku (gQ s 200) s 0 with
  | error er =>
   rw [ha] at h
   obtain rfl:=h
   have hr:Hid (lT s=.error er):=by unfold Hid lT;rw [if_neg hl,ha]
   clear ha hl
   go_wp2_with fail
   exact Iq rfl rfl (by omega) F5.out T5.out (by omega) hr.out K5.out
  | ok y =>
   obtain ⟨p,k⟩:=y
   rw [ha] at h
   obtain ⟨_,rfl,⟨S,hS,⟨ka,cap,rfl,hz,hk⟩⟩,R5⟩:=h
   obtain ⟨hsp,hks⟩:=RU hs6 ha
   have XG:Kept (· = w.heap.size) w5 (aZ w5 w.heap.size (.int .i64 p.kind) (.string p.text) (.int .i64 p.n) (.string p.name) (.slice ka p.kids.length cap)):=(Kept.refl (· = w.heap.size) w5).aZ (.inl rfl) _ _ _ _ _
   have R6:=ah (R5.kept XG (by omega) (by omega))
   have F6:=ah (Five.aZ F5.out (.int .i64 p.kind) (.string p.text) (.int .i64 p.n) (.string p.name) (.slice ka p.kids.length cap))
   have T6:=ah (T5.out.kept XG (by omega))
   have K6:Hid (Kept aB w (aZ w5 w.heap.size (.int .i64 p.kind) (.string p.text) (.int .i64 p.n) (.string p.name) (.slice ka p.kids.length cap))):=K5.out.step XG (fun y hy=>.inr (by omega))
   have Gy:=ah (hk.kept XG (fun b hb=>⟨(hS b hb).2,by have:=(hS b hb).1;omega⟩))
   have hz6:(aZ w5 w.heap.size (.int .i64 p.kind) (.string p.text) (.int .i64 p.n) (.string p.name) (.slice ka p.kids.length cap)).heap.size=w5.heap.size:=uq _ _ _ _ _ _ _
   have HZ6:=ah hz6
   have HS:=ah hS;have HZ:=ah hz
   obtain ⟨c0,c1,c2,c3,c4,cf⟩:=Five.cells F5.out
   have f0:=cf 0;have f1:=cf 1;have f2:=cf 2;have f3:=cf 3;have f4:=cf 4;clear cf
   have HA:=ah ha
   obtain ⟨w6,hw6⟩:∃w6,w6=aZ w5 w.heap.size (.int .i64 p.kind) (.string p.text) (.int .i64 p.n) (.string p.name) (.slice ka p.kids.length cap):=⟨_,rfl⟩
   rw [←hw6] at R6 F6 T6 K6 Gy HZ6
   clear ha R5 hk hz hS hz6 XG F5 T5 K5 R4
   go_wp2_with fail
   show Calls _ _ _ (aZ w5 w.heap.size (.int .i64 p.kind) (.string p.text) (.int .i64 p.n) (.string p.name) (.slice ka p.kids.length cap)) _
   rw [←hw6];clear hw6 c0 c1 c2 c3 c4 f0 f1 f2 f3 f4
   refine (next_any _ _ s k 0 w6 R6.out hks (by omega)).mono ?_
   rintro e w7 ⟨rfl,R7,k_⟩
   have hz6:=HZ6.out
   have F7:=ah (Five.kept F6.out k_ (by omega));have T7:=ah (T6.out.kept k_ (by omega))
   have K7:Hid (Kept aB w w7):=K6.out.step k_ (fun y hy=>.inr (by omega))
   have GZ:=ah (Gy.out.kept k_ (fun b hb=>⟨by have:=(HS.out b hb).2;omega,by have:=(HS.out b hb).1;omega⟩))
   have ajz:=k_.size
   have q1:=R7.c1
   clear k_ F6 T6 K6 Gy R6
   by_cases hp:0≤peek s (skip s k)
   ·have hb:decide (0≤peek s (skip s k))=true:=ak hp
    have hr:Hid (lT s=.error (2,skip s k)):=by unfold Hid lT;rw [if_neg hl,HA.out];dsimp only;rw [if_pos hp]
    clear hp hl
    go_wp2_with fail
    refine (iy _ 2 (skip s k) w7).mono ?_
    rintro e w8 ⟨rfl,rfl⟩
    go_wp2_with fail
    exact Iq rfl rfl (by omega) F7.out T7.out (by omega) hr.out K7.out
   ·have hb:decide (0≤peek s (skip s k))=false:=au hp
    have PV:Hid (kP w7 (· < w7.heap.size) (.agg #[.int .i64 p.kind,.string p.text,.int .i64 p.n,.string p.name,.slice ka p.kids.length cap]) p):=⟨ka,cap,rfl,HZ.out,aI.same (fun _ _=>rfl) (fun b hb=>by have:=(HS.out b hb).2;omega) _ _ GZ.out⟩
    obtain ⟨c0,c1,c2,c3,c4,cf⟩:=Five.cells F7.out
    have HP:=ah hp;have HL:=ah hl
    clear R7 q1 hp hl
    go_wp2_with fail
    refine (size_any p _ w7 PV.out (by omega)).mono ?_
    rintro e w8 ⟨rfl,k_⟩
    have F8:=ah (Five.kept F7.out k_ (fun h=>h));have T8:=ah (T7.out.kept k_ (fun h=>h))
    have K8:Hid (Kept aB w w8):=K7.out.trans k_
    have Dx:=ah (GZ.out.kept k_ (fun b hb=>⟨by have:=(HS.out b hb).2;omega,fun h=>h⟩))
    have ajA:=k_.size
    obtain ⟨d0,d1,d2,d3,d4,df⟩:=Five.cells F8.out
    have f0:=df 0;have f1:=df 1;have f2:=df 2;have f3:=df 3;have f4:=df 4
    obtain ⟨t0,t1,tf⟩:=T8.out.cells
    have g0:=tf 0;have g1:=tf 1
    clear k_ F7 T7 K7 GZ PV c0 c1 c2 c3 c4 cf df tf
    rw [Yo]
    have Uz:w.heap.size≠w.heap.size+1:=by omega
    by_cases hf:fits p
    ·have hr:Hid (lT s=.ok p):=by unfold Hid lT;rw [if_neg HL.out,HA.out];dsimp only;rw [if_neg (by have:=HP.out;omega),if_pos hf]
     have K9:Hid (Kept (fun y=>y=w.heap.size∨y=w.heap.size+1) w8 (set2 (aZ w8 w.heap.size (.int .i64 p.kind) (.string p.text) (.int .i64 p.n) (.string p.name) (.slice ka p.kids.length cap)) (w.heap.size+1) (.int .i64 0) (.int .i64 0))):=((Kept.refl _ w8).aZ (.inl (.inl rfl)) _ _ _ _ _).set2 (.inl (.inr rfl)) _ _
     have F9:Hid (Five w.heap.size (.int .i64 p.kind) (.string p.text) (.int .i64 p.n) (.string p.name) (.slice ka p.kids.length cap) (set2 (aZ w8 w.heap.size (.int .i64 p.kind) (.string p.text) (.int .i64 p.n) (.string p.name) (.slice ka p.kids.length cap)) (w.heap.size+1) (.int .i64 0) (.int .i64 0))) :=
      (F8.out.aZ _ _ _ _ _).kept ((Kept.refl (· = w.heap.size+1) _).set2 (.inl rfl) _ _) Uz
     have T9:Hid (Two (w.heap.size+1) (.int .i64 0) (.int .i64 0) (set2 (aZ w8 w.heap.size (.int .i64 p.kind) (.string p.text) (.int .i64 p.n) (.string p.name) (.slice ka p.kids.length cap)) (w.heap.size+1) (.int .i64 0) (.int .i64 0))) :=
      (T8.out.kept ((Kept.refl (· = w.heap.size) w8).aZ (.inl rfl) _ _ _ _ _) (fun h=>Uz h.symm)).set2 _ _
     rw [if_pos hf]
     clear hf
     go_wp2_with fail
     go_region
     all_goals go_wp2_with fail
     refine Po rfl rfl (F9.out.kept (Kept.refl aB _).drew (fun h=>h)) (T9.out.kept (Kept.refl aB _).drew (fun h=>h)) ?_
     unfold vT
     rw [hr.out]
     have hk9:=(K9.out.drew)
     refine ⟨K8.out.step hk9 (fun y hy=>.inr (by omega)),_,rfl,S,fun b hb=>?_,ka,cap,rfl,HZ.out,Dx.out.kept hk9 (fun b hb=>?_)⟩
     ·have:=HS.out b hb;exact ⟨by omega,Nat.lt_of_lt_of_le (show b<w8.heap.size by omega) hk9.size⟩
     ·have:=HS.out b hb;omega
    ·have hr:Hid (lT s=.error (4,0)):=by unfold Hid lT;rw [if_neg HL.out,HA.out];dsimp only;rw [if_neg (by have:=HP.out;omega),if_neg hf]
     have K9:Hid (Kept (fun y=>y=w.heap.size∨y=w.heap.size+1) w8 (set2 (aZ w8 w.heap.size (.int .i64 0) (.string ⟨#[]⟩) (.int .i64 0) (.string ⟨#[]⟩) (.slice none 0 0)) (w.heap.size+1) (.int .i64 4) (.int .i64 0))):=((Kept.refl _ w8).aZ (.inl (.inl rfl)) _ _ _ _ _).set2 (.inl (.inr rfl)) _ _
     have F9:Hid (uQ w.heap.size (set2 (aZ w8 w.heap.size (.int .i64 0) (.string ⟨#[]⟩) (.int .i64 0) (.string ⟨#[]⟩) (.slice none 0 0)) (w.heap.size+1) (.int .i64 4) (.int .i64 0))) :=
      Five.kept (F8.out.aZ _ _ _ _ _) ((Kept.refl (· = w.heap.size+1) _).set2 (.inl rfl) _ _) Uz
     have T9:Hid (Two (w.heap.size+1) (.int .i64 4) (.int .i64 0) (set2 (aZ w8 w.heap.size (.int .i64 0) (.string ⟨#[]⟩) (.int .i64 0) (.string ⟨#[]⟩) (.slice none 0 0)) (w.heap.size+1) (.int .i64 4) (.int .i64 0))) :=
      (T8.out.kept ((Kept.refl (· = w.heap.size) w8).aZ (.inl rfl) _ _ _ _ _) (fun h=>Uz h.symm)).set2 _ _
     rw [if_neg hf]
     clear hf
     go_wp2_with fail
     exact Po rfl rfl F9.out T9.out (Gl hr.out (K8.out.step K9.out (fun y hy=>.inr (by omega))))
end Go.Proofs.YtgoijmpahffnhaaGreatDoor

namespace Go.Proofs.YtgoijmpahffnhaaGreatDoor
set_option linter.all false
open Go.RowKit
def mV (s:aj):aA×Er:=match lT s with | .ok p=>(p,(0,0)) | .error er=>(.mk 0 E0 0 E0 [],er)
def afu (s:aj) (w:World) (e:Ending) (w':World):Prop:=Kept aB w w'∧∃v,e=.returned (.tuple #[v,yw (mV s).2])∧fB w.heap.size (mV s).1 w' v
theorem aeo {s:aj} {w w':World} {e:Ending} (h:vT s w e w'):afu s w e w':=by
 obtain ⟨k,h⟩:=h
 refine ⟨k,?_⟩
 unfold mV
 cases hr:lT s with
 | ok p=>rw [hr] at h;exact h
 | error er =>
  rw [hr] at h
  exact ⟨zeroV,h,aB,fun b hb=>hb.elim,none,0,rfl,⟨by show E0.size<_;decide,by show E0.size<_;decide,by show 0<_;decide⟩,by unfold aI;trivial⟩
theorem ZO (s:aj):sizeT (mV s).1≤200000:=by
 unfold mV lT
 by_cases hl:65536<s.size
 ·rw [if_pos hl];dsimp only;simp [sizeT,aT]
 ·rw [if_neg hl]
  cases ha:ku (gQ s 200) s 0 with
  | error e=>dsimp only;simp [sizeT,aT]
  | ok y =>
   obtain ⟨p,k⟩:=y
   have:=(RU (by omega) ha).1
   dsimp only
   by_cases h1:0≤peek s (skip s k)
   ·rw [if_pos h1];dsimp only;simp [sizeT,aT]
   ·rw [if_neg h1]
    by_cases h2:fits p
    ·rw [if_pos h2];exact this
    ·rw [if_neg h2];dsimp only;simp [sizeT,aT]
end Go.Proofs.YtgoijmpahffnhaaGreatDoor

namespace Go.Proofs.YtgoijmpahffnhaaGreatDoor
set_option linter.all false
open Go.RowKit
abbrev bD (α:Type):=Except Er (α×List aC)
def dP (en:Nat):List aC→Nat
 | []=>en
 | t::_=>t.at_
def aH (x:aj):List aC→Bool
 | []=>false
 | t::_=>decide (t.kind=5∧t.text=x)
def eU (x:aj) (en:Nat) (l:List aC):Except Er (List aC):=if aH x l=true then .ok l.tail else .error (2,dP en l)
def fF (k:Int) (en:Nat):List aC→bD aC
 | []=>.error (2,en)
 | t::r=>if t.kind=k then .ok (t,r) else .error (2,t.at_)
def dU (en:Nat) (l:List aC):bD aj :=
 match fF 1 en l with
 | .error er=>.error er
 | .ok (t,r)=>if 16<t.text.size then .error (7,t.at_) else .ok (t.text,r)
def nY (en:Nat) (l:List aC):bD aA :=
 match fF 4 en l with
 | .error er=>.error er
 | .ok (t,r)=>if (mV t.text).2.1≠0 then .error ((mV t.text).2.1,t.at_+1+(mV t.text).2.2) else .ok ((mV t.text).1,r)
def bs (l:List UInt8):aj:=⟨l.toArray⟩
def Cm (tH:Nat) (x:aj):Int :=
 if tH=1 then (if x=bs [38] then 8 else 0)
 else if tH=2 then (if x=bs [43] then 9 else if x=bs [45] then 10 else 0)
 else if x=bs [42] then 11 else if x=bs [47] then 12 else if x=bs [37] then 13 else 0
def node2 (k:Int) (x y:aA):aA:=.mk k E0 0 E0 [x,y]
def node1 (k:Int) (x:aA):aA:=.mk k E0 0 E0 [x]
def opAt (tH:Nat):List aC→Int
 | []=>0
 | t::_=>if t.kind=5 then Cm tH t.text else 0
def pO (tH:Nat) (sub:List aC→bD aA):Nat→aA→List aC→bD aA
 | 0,x,l=>.ok (x,l)
 | f+1,x,l =>
  if 0<opAt tH l then
   match sub l.tail with
   | .error er=>.error er
   | .ok (y,r)=>pO tH sub f (node2 (opAt tH l) x y) r
  else .ok (x,l)
def pY (tH:Nat) (sub:List aC→bD aA) (l:List aC):bD aA :=
 match sub l with
 | .error er=>.error er
 | .ok (x,r)=>pO tH sub r.length x r
def Js (un:List aC→bD aA):List aC→bD aA:=pY 1 (pY 2 (pY 3 un))
def rJ (l:List UInt8):Nat:=l.foldl (fun n c=>n*10+(c.toNat-48)) 0
def FX (t:aC) (r:List aC):bD aA :=
 if 1<t.text.size∧t.text.data.toList.head?=some 48 then .error (2,t.at_)
 else if 9223372036854775807<rJ t.text.data.toList then .error (3,t.at_)
 else .ok (.mk 2 E0 (rJ t.text.data.toList) E0 [],r)
def ng (ex:List aC→bD aA) (en:Nat):Nat→List aA→List aC→bD (List aA)
 | 0,ks,l=>.ok (ks,l)
 | f+1,ks,l =>
  if ks.length=8 then .error (5,dP en l)
  else match ex l with
   | .error er=>.error er
   | .ok (x,r) =>
    if aH (bs [41]) r=true then .ok (ks++[x],r.tail)
    else match eU (bs [44]) en r with
     | .error er=>.error er
     | .ok r2=>ng ex en f (ks++[x]) r2
def bG (ex pr:List aC→bD aA) (en:Nat) (l:List aC):bD aA :=
 if aH (bs [40]) l=true then
  match ex l.tail with
  | .error er=>.error er
  | .ok (x,r)=>match eU (bs [41]) en r with
   | .error er=>.error er
   | .ok r2=>.ok (x,r2)
 else if aH (bs [36]) l=true then
  match pr l.tail with
  | .error er=>.error er
  | .ok (x,r)=>.ok (node1 5 x,r)
 else match fF 3 en l with
  | .ok (t,r)=>.ok (.mk 1 t.text 0 E0 [],r)
  | .error _=>match fF 2 en l with
   | .ok (t,r)=>FX t r
   | .error _=>match dU en l with
    | .error er=>.error er
    | .ok (nm,r) =>
     if aH (bs [60]) r=true then
      match ex r.tail with
      | .error er=>.error er
      | .ok (x,r2)=>match eU (bs [62]) en r2 with
       | .error er=>.error er
       | .ok r3=>.ok (.mk 4 E0 0 nm [x],r3)
     else if aH (bs [40]) r=true then
      if aH (bs [41]) r.tail=true then .ok (.mk 6 E0 0 nm [],r.tail.tail)
      else match ng ex en 9 [] r.tail with
       | .error er=>.error er
       | .ok (ks,r2)=>.ok (.mk 6 E0 0 nm ks,r2)
     else .ok (.mk 3 E0 0 nm [],r)
def zl (un pr:List aC→bD aA) (l:List aC):bD aA :=
 if aH (bs [45]) l=true then
  match un l.tail with
  | .error er=>.error er
  | .ok (x,r)=>.ok (node1 7 x,r)
 else pr l
def uN (en:Nat):Nat→(List aC→bD aA)×(List aC→bD aA)
 | 0=>(zl (fun l=>.error (4,dP en l)) (bG (fun l=>.error (4,dP en l)) (fun l=>.error (4,dP en l)) en),bG (fun l=>.error (4,dP en l)) (fun l=>.error (4,dP en l)) en)
 | d+1=>(zl (uN en d).1 (bG (Js (uN en d).1) (uN en d).2 en),bG (Js (uN en d).1) (uN en d).2 en)
def wu (en:Nat):Nat→List aC→bD aA
 | 0,l=>.error (4,dP en l)
 | d+1,l=>Js (uN en d).1 l
def namesT (close:Option aj) (en:Nat):Nat→List aj→List aC→bD (List aj)
 | 0,ns,l=>.ok (ns,l)
 | f+1,ns,l =>
  if ns.length=8 then .error (5,dP en l)
  else match dU en l with
   | .error er=>.error er
   | .ok (n,r) =>
    match close with
    | some c=>if aH c r=true then .ok (ns++[n],r.tail) else
      match eU (bs [44]) en r with
      | .error er=>.error er
      | .ok r2=>namesT close en f (ns++[n]) r2
    | none=>if aH (bs [44]) r=true then namesT close en f (ns++[n]) r.tail else .ok (ns++[n],r)
def zq:aA:=.mk 0 E0 0 E0 []
def st0:aG:=⟨E0,1,zq,zq,zq,E0,E0,[],[],E0,E0,E0⟩
def uo:aj:=bs [68,69,70,73,78,69]
def Bo:aj:=bs [58,61]
def jq:List aC→Bool
 | _::t::_=>decide (t.kind=1)||decide (t.kind=5∧t.text=bs [44])
 | _=>false
def fD (en:Nat) (s:aG) (l:List aC):bD aG :=
 match dU en l with
 | .error er=>.error er
 | .ok (nm,r)=>match eU (bs [40]) en r with
  | .error er=>.error er
  | .ok r1=>match (if aH (bs [41]) r1=true then .ok ([],r1.tail) else namesT (some (bs [41])) en 9 [] r1) with
   | .error er=>.error er
   | .ok (ps,r2)=>match (if jq r2=true then namesT none en 9 [] r2 else .ok ([],r2)) with
    | .error er=>.error er
    | .ok (ls,r3)=>match dU en r3 with
     | .error er=>.error er
     | .ok (e,r4)=>.ok ({s with kind:=7,name:=nm,params:=ps,locals:=ls,entry:=e},r4)
def dJ:List aC→Bool
 | t::u::_=>decide (t.kind=1∧t.text=uo∧u.kind=1)
 | _=>false
def kL:List aC→Bool
 | t::u::_=>decide (t.kind=1∧u.kind=5∧u.text=Bo)
 | _=>false
def Bq (en:Nat) (s:aG) (l:List aC):bD aG :=
 match dU en l with
 | .error er=>.error er
 | .ok (nm,r)=>match eU Bo en r with
  | .error er=>.error er
  | .ok r1=>match nY en r1 with
   | .error er=>.error er
   | .ok (p,r2)=>.ok ({s with kind:=6,name:=nm,pat:=p},r2)
def ni (en at_:Nat) (s:aG) (x:aA) (k:Int) (l:List aC):bD aG :=
 if aH (bs [61]) l=true then
  if ¬isTarget x then .error (8,at_)
  else match wu en 400 l.tail with
   | .error er=>.error er
   | .ok (v,r)=>.ok ({s with kind:=k,target:=x,value:=v},r)
 else .ok (s,l)
def aaR (en:Nat) (s:aG) (l:List aC):bD aG :=
 match wu en 400 l with
 | .error er=>.error er
 | .ok (x,r) =>
  if aH (bs [63]) r=true then
   match nY en r.tail with
   | .error er=>.error er
   | .ok (p,r2)=>ni en (dP en l) {s with kind:=4,value:=x,pat:=p} x 5 r2
  else ni en (dP en l) {s with kind:=2,value:=x} x 3 r
def bodyT (en:Nat) (s:aG) (l:List aC):bD aG :=
 if dJ l=true then fD en s l.tail
 else if kL l=true then Bq en s l
 else aaR en s l
def eG (en:Nat) (l:List aC):bD aj :=
 match eU (bs [40]) en l with
 | .error er=>.error er
 | .ok r=>match dU en r with
  | .error er=>.error er
  | .ok (n,r1)=>match eU (bs [41]) en r1 with
   | .error er=>.error er
   | .ok r2=>.ok (n,r2)
def fP (en:Nat) (s:aG) (l:List aC):bD aG :=
 if aH (bs [40]) l=true then
  match eG en l with
  | .error er=>.error er
  | .ok (n,r)=>.ok ({s with always:=n},r)
 else match fF 1 en l with
  | .error er=>.error er
  | .ok (t,r) =>
   if t.text=bs [83] then
    match eG en r with
    | .error er=>.error er
    | .ok (n,r1) =>
     if r1=[] then .ok ({s with yes:=n},r1)
     else match fF 1 en r1 with
      | .error er=>.error er
      | .ok (u,r2)=>if u.text=bs [70] then
        match eG en r2 with
        | .error er=>.error er
        | .ok (m,r3)=>.ok ({s with yes:=n,dh:=m},r3)
       else .error (2,dP en r1)
   else if t.text=bs [70] then
    match eG en r with
    | .error er=>.error er
    | .ok (n,r1)=>if r1=[] then .ok ({s with dh:=n},r1) else .error (2,dP en r1)
   else .error (2,dP en l)
mutual
def pz:aA→Nat
 | .mk _ _ _ _ l=>pq l+1
def pq:List aA→Nat
 | []=>0
 | p::r=>max (pz p) (pq r)
end
def Em (en:Nat) (s:aG) (l:List aC):Except Er aG :=
 match (if aH (bs [58]) l=true then fP en s l.tail else .ok (s,l)) with
 | .error er=>.error er
 | .ok (s2,r)=>if r≠[] then .error (2,dP en r) else if 200<pz s2.target∨200<pz s2.value then .error (4,0) else .ok s2
def iD (en:Nat) (labelled:Bool) (l:List aC):Except Er aG :=
 match (if labelled=true then (match dU en l with | .error er=>.error er | .ok (n,r)=>.ok ({st0 with label:=n},r)) else (.ok (st0,l):bD aG)) with
 | .error er=>.error er
 | .ok (s1,r) =>
  match (if r≠[]∧aH (bs [58]) r=false then bodyT en s1 r else .ok (s1,r)) with
  | .error er=>.error er
  | .ok (s2,r2)=>Em en s2 r2
def lU (s:aj):Except Er (Option aG) :=
 if peek s 0=42∧s.size≤2000 then .ok none
 else match kV s with
  | .error er=>.error er
  | .ok l=>match iD s.size (decide (s.size≠0∧peek s 0≠32∧peek s 0≠58)) l with
   | .error er=>.error er
   | .ok x=>.ok (some x)
end Go.Proofs.YtgoijmpahffnhaaGreatDoor
