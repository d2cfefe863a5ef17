/-  -/
import Derived.Test.YtgoijmpahffnhaaGreatDoorLc20
namespace Go.Proofs.YtgoijmpahffnhaaGreatDoor
set_option linter.all false
open Go.RowKit
set_option maxRecDepth 100000
set_option maxHeartbeats 2000000
theorem bg.agE {F:dQ} {ov:Value} {S:aY} {w w':World} {l:List (aj×aj)} (h:bg F ov S w) (k:Kept (· = F.V) w w') (hm:jI w' F.V l none):bI F ov w ov {S with vars:=l} w':=by
 obtain ⟨n1,n2,n3,n4,n5,m1,m2,m3,m4,p1,p2,p3,r1,r2,r3⟩:=h.fix.ne
 obtain ⟨hs,h1,h2⟩:=h.hits
 obtain ⟨a,c,h3,h4,h5⟩:=h.CQ
 have hV:=h.fix.nV
 refine ⟨⟨h.ql.kept k (fun b hb=>by have:b=F.V:=hb;omega),h.fix,Nat.le_trans h.sz k.size,h.run.kept k p1,h.CP.kept k m2,⟨hs,h1,h2.kept k (fun e=>r2 e.symm)⟩,
  ⟨a,c,h3.kept k n3,tJ h4 k h.ql.low (fun b hb=>by have:b=F.V:=hb;omega),h5⟩,?_,hm,h.items.kept k (fun e=>r1 e.symm)⟩,k.more (fun _ h=>.inr (.inr (.inl h))),fun _ h=>.inl h⟩
 exact h.out.kept k (fun b hb e=>by have e:b=F.V:=e;have:=h.out.lt b hb;omega)
theorem Vs {S:aY} {n t:aj} (h1:n≠qG) (h2:¬65536<t.size) (h3:n≠jV):gU S n t=if 1048576+(lookA S.vars n).size<S.bytes+t.size then (false,{S with how:=3}) else (true,{S with bytes:=S.bytes+t.size-(lookA S.vars n).size,vars:=mg S.vars n t}):=by
 unfold gU
 rw [if_neg (fun h=>h.elim h1 h2),if_neg h3]
theorem QU {F:dQ} {ov fE:Value} {S:aY} {w w1 w2:World} {b:Nat} {l:List (aj×aj)} (h:bI F ov w fE {S with bytes:=b} w1) (k:Kept (· = F.V) w1 w2) (hm:jI w2 F.V l none):bI F ov w fE {S with bytes:=b,vars:=l} w2:=h.trans (h.at_.agE k hm)
theorem set_any (F:dQ) (ov:Value) (S:aY) (n t:aj) (w:World) (h:bg F ov S w) (ok:bM S) (hn:n.size≤1000000000) (ht:t.size≤1000000000) :
  Calls Tryz.prog 107 #[.pointer (some ⟨F.O,0,none⟩),.string n,.string t] w (x8 F ov w (gU S n t)):=by
 have hol:S.output.length≤1048576:=by
  have h1:=ok.told
  have h2:=ok.much
  have h3:∀l:List aj,l.length≤(l.map fun t=>t.size+1).sum:=by
   intro l
   induction l with
   | nil=>exact Nat.le_refl _
   | cons a r ih=>simp only [List.length_cons,List.map_cons,List.sum_cons];omega
  have:=h3 S.output
  omega
 by_cases h1:n=qG
 ·have e1:(n.toList==[73,78,80,85,84])=true:=yO h1
  have fin:Hid (gU S n t=(false,S)):=if_pos (.inl h1)
  have H:=ah h
  clear h h1 ok hol
  go_enter Tryz.func107, Tryz.ntmps107
  go_wp2_with fail
  go_ret
  exact ⟨by rw [fin.out];try rfl,ov,by rw [fin.out];exact bI.refl H.out⟩
 have e1:(n.toList==[73,78,80,85,84])=false:=yP h1
 by_cases h2:65536<t.size
 ·have e2:decide ((65536:Int)<(t.size:Int))=true:=ak (by omega)
  have e2':decide (65536<t.size)=true:=ak h2
  have fin:Hid (gU S n t=(false,S)):=if_pos (.inr h2)
  have H:=ah h
  clear h h1 h2 ok hol
  go_enter Tryz.func107, Tryz.ntmps107
  go_wp2_with fail
  go_ret
  exact ⟨by rw [fin.out];try rfl,ov,by rw [fin.out];exact bI.refl H.out⟩
 have e2:decide ((65536:Int)<(t.size:Int))=false:=au (by omega)
 have e2':decide (65536<t.size)=false:=au h2
 by_cases h3:n=jV
 ·have e3:(n.toList==[79,85,84,80,85,84])=true:=yO h3
  have fin:Hid (gU S n t=xF S t):=by unfold Hid gU;rw [if_neg (fun h=>h.elim h1 h2),if_pos h3]
  have HT:=ah (YM F ov S t w h ok.much hol (by omega))
  clear h h1 h2 h3 ok hol
  go_enter Tryz.func107, Tryz.ntmps107
  go_wp2_with (go_at_call 170;(refine HT.out.mono ?_);rintro e w1 ⟨rfl,fE,r_⟩;have R1:=ah r_;clear r_)
  go_ret
  exact ⟨by rw [fin.out];try rfl,fE,by rw [fin.out];exact R1.out⟩
 have e3:(n.toList==[79,85,84,80,85,84])=false:=yP h3
 have hb:=ok.most
 have hlk:=Vt ok n
 have hl:=h.vars.look n (by unfold maxLen;omega)
 obtain ⟨a,c,q0,_⟩:=h.mX
 obtain ⟨lk,S9⟩:∃lk,lk=lookA S.vars n:=⟨_,rfl⟩
 have hlz:lk.size≤65536:=by rw [S9];by_cases h0:(lookA S.vars n).size=0;omega;exact (ok.vsz _ (CJ h0)).1
 have f4:=Vs (S:=S) (t:=t) h1 h2 h3
 rw [←S9] at hlk hl f4
 have HR:=YK F ov S ((t.size:Int)-lk.size) w h hb (by omega) (by omega)
 by_cases hc:1048576+lk.size<S.bytes+t.size
 ·rw [if_pos hc] at f4
  rw [if_pos (by omega)] at HR
  have HR:=ah HR
  have fin:=ah f4
  clear h h1 h2 h3 hc S9 f4 ok hol
  go_enter Tryz.func107, Tryz.ntmps107
  go_wp2_with (go_at_call 171;(refine HR.out.mono ?_);rintro e w1 ⟨rfl,fE,r_⟩;have R1:=ah r_;clear r_)
  go_ret
  exact ⟨by rw [fin.out];try rfl,fE,by rw [fin.out];exact R1.out⟩
 rw [if_neg hc] at f4
 rw [if_neg (by omega)] at HR
 have hbe:((S.bytes:Int)+((t.size:Int)-lk.size)).toNat=S.bytes+t.size-lk.size:=by omega
 rw [hbe] at HR
 have HR:=ah HR
 have fin:=ah f4
 have ho:=ok.vars
 have hvl:S.vars.length<maxLen:=by
  have:=zQ (fun _=>0) ok.vars
  have:=ok.bytes
  unfold maxLen;omega
 have hs:n.size≤maxLen:=by unfold maxLen;omega
 have hs':t.size≤maxLen:=by unfold maxLen;omega
 have HO:=ah ho
 clear h h1 h2 h3 hc S9 f4 ok hol hbe hlk hb ho
 by_cases h0:t.size=0
 ·have e0:(t.toList==[])=true:=yO (qF h0)
  have Z:=ah h0
  clear h0
  go_enter Tryz.func107, Tryz.ntmps107
  go_upto_region 7 with (go_at_call 171;(refine HR.out.mono ?_);rintro e w1 ⟨rfl,fE,r_⟩;have R1:=ah r_;obtain ⟨a1,c1,g0,_⟩:=r_.at_.mX;clear r_)
  go_wp2_with (first
   | (refine Ez rfl _ _ _ rfl rfl R1.out.at_.vars HO.out hvl n t rfl hs rfl hs' ?_;intro w2 EC gI;rw [if_pos Z.out] at EC;have M2:=ah EC;have K2:=ah gI;obtain ⟨g0',_⟩:w2.cell? ⟨F.O,0,none⟩=some (.map (some F.V))∧True:=⟨(gI.cell (R1.out.at_.xlt (.inl rfl)).2 (R1.out.at_.fix.ne.2.2.1)).trans g0,trivial⟩;clear EC gI)
   | (refine Qa rfl _ _ rfl rfl M2.out rfl hs ?_;intro w3 EC gI;have K3:=ah (K2.out.trans gI);have M3:=ah EC;clear EC gI))
  go_ret
  refine ⟨by rw [fin.out];try rfl,fE,?_⟩
  rw [fin.out]
  have M:jI w3 F.V (mg S.vars n t) none:=by unfold mg;rw [if_pos Z.out];exact M3.out
  exact QU R1.out K3.out M
 ·have e0:(t.toList==[])=false:=yP (fun e=>h0 (by rw [e];rfl))
  go_enter Tryz.func107, Tryz.ntmps107
  go_upto_region 7 with (go_at_call 171;(refine HR.out.mono ?_);rintro e w1 ⟨rfl,fE,r_⟩;have R1:=ah r_;obtain ⟨a1,c1,g0,_⟩:=r_.at_.mX;clear r_)
  go_wp2_with (refine Ez rfl _ _ _ rfl rfl R1.out.at_.vars HO.out hvl n t rfl hs rfl hs' ?_;intro w2 EC gI;rw [if_neg h0] at EC;have M2:=ah EC;have K2:=ah gI;clear EC gI)
  go_ret
  refine ⟨by rw [fin.out];try rfl,fE,?_⟩
  rw [fin.out]
  have M:jI w2 F.V (mg S.vars n t) none:=M2.out
  exact QU R1.out K2.out M
end Go.Proofs.YtgoijmpahffnhaaGreatDoor

namespace Go.Proofs.YtgoijmpahffnhaaGreatDoor
set_option linter.all false
open Go.RowKit
set_option maxRecDepth 100000
set_option maxHeartbeats 1000000
theorem Vu (F:dQ) (ov:Value) (S:aY) (n k:aj) (w:World) (h:bg F ov S w) (hn:n.size≤1000000000) :
  Calls Tryz.prog 70 #[.pointer (some ⟨F.O,0,none⟩),.agg #[.string n,.string k,.bool false]] w (MS F ov w (jH S n)):=by
 obtain ⟨w1,hw1⟩:∃w1,w1=w.alloc (.cells #[.string n,.string k,.bool false] 137):=⟨_,rfl⟩
 have k1:Kept aB w w1:=by rw [hw1];exact (Kept.refl aB w).alloc _
 have hb:dO w.heap.size 137 [.string n,.string k,.bool false] w1:=by rw [hw1];exact dO.new _ _ _
 have c0:w1.cell? ⟨w.heap.size,0,none⟩=some (.string n):=hb.cell rfl
 have c2:w1.cell? ⟨w.heap.size,2,none⟩=some (.bool false):=hb.cell rfl
 obtain ⟨B,hB⟩:∃B,B=w.heap.size:=⟨_,rfl⟩
 rw [←hB] at c0 c2
 have HG:=ah (get_any F ov S n w1 (h.quiet k1) hn)
 have K1:=ah k1
 have HW:=ah hw1;have HB:=ah hB
 clear h k1 hw1 hb hB
 go_enter Tryz.func70, Tryz.ntmps70
 go_upto_region 1 with fail
 rw [←HW.out,←HB.out]
 go_wp2_with (go_at_call 111;(with_reducible refine HG.out.mono ?_);rintro e w2 ⟨rfl,fE,r_⟩;have R1:=ah r_;clear r_)
 go_ret2
 exact ⟨rfl,fE,bI.after K1.out R1.out⟩
theorem write_any (F:dQ) (ov:Value) (S:aY) (n k t:aj) (w:World) (h:bg F ov S w) (ok:bM S) (hn:n.size≤1000000000) (ht:t.size≤1000000000) :
  Calls Tryz.prog 71 #[.pointer (some ⟨F.O,0,none⟩),.agg #[.string n,.string k,.bool false],.string t] w (x8 F ov w (gU S n t)):=by
 obtain ⟨w1,hw1⟩:∃w1,w1=w.alloc (.cells #[.string n,.string k,.bool false] 137):=⟨_,rfl⟩
 have k1:Kept aB w w1:=by rw [hw1];exact (Kept.refl aB w).alloc _
 have hb:dO w.heap.size 137 [.string n,.string k,.bool false] w1:=by rw [hw1];exact dO.new _ _ _
 have c0:w1.cell? ⟨w.heap.size,0,none⟩=some (.string n):=hb.cell rfl
 have c2:w1.cell? ⟨w.heap.size,2,none⟩=some (.bool false):=hb.cell rfl
 obtain ⟨B,hB⟩:∃B,B=w.heap.size:=⟨_,rfl⟩
 rw [←hB] at c0 c2
 have HG:=ah (set_any F ov S n t w1 (h.quiet k1) ok hn ht)
 have K1:=ah k1
 have HW:=ah hw1;have HB:=ah hB
 clear h k1 hw1 hb hB
 go_enter Tryz.func71, Tryz.ntmps71
 go_upto_region 1 with fail
 rw [←HW.out,←HB.out]
 go_wp2_with (go_at_call 107;(with_reducible refine HG.out.mono ?_);rintro e w2 ⟨rfl,fE,r_⟩;have R1:=ah r_;clear r_)
 go_ret
 exact ⟨rfl,fE,bI.after K1.out R1.out⟩
theorem abo (n:aj) (w:World):Calls Tryz.prog 108 #[.string n] w (fun e w'=>e=.returned (.agg #[.string n,.string ⟨#[]⟩,.bool false])∧Kept aB w w'):=by
 go_enter Tryz.func108, Tryz.ntmps108
 go_wp2_with fail
 have hb:=dO.new w 137 [.string n,.string ⟨#[]⟩,.bool false]
 have c0:=hb.cell (i:=0) rfl
 have c1:=hb.cell (i:=1) rfl
 have c2:=hb.cell (i:=2) rfl
 exact bodyPost_ret (v:=.agg #[.string n,.string ⟨#[]⟩,.bool false]) (by simp [results,Tryz.results108,go_sem]) rfl ⟨rfl,(Kept.refl _ _).alloc _⟩
def PlQ (F:dQ) (ov:Value) (w:World) (r:Option JL×aY) (e:Ending) (w':World):Prop :=
 (∃p:JL,e=.returned (.tuple #[.agg #[.string p.name,.string p.key,.bool p.keyed],.bool r.1.isSome])∧∀q,r.1=some q→p=q)∧∃rQ,bI F ov w rQ r.2 w'
theorem MS.back {F:dQ} {ov fE:Value} {S1:aY} {w w1 wx:World} {r:(aj×Bool)×aY} (h:bI F ov w fE S1 w1) (k:Kept aB w1 wx) {e:Ending} {w':World} (q:MS F fE wx r e w'):MS F ov w r e w':=by
 obtain ⟨rfl,nU,r2⟩:=q
 exact ⟨rfl,nU,h.trans (bI.after k r2)⟩
def yT (M:Nat) (n k:aj) (b:Bool) (w:World):Prop:=dO M 137 [.string n,.string k,.bool b] w
theorem yT.cells {M:Nat} {n k:aj} {b:Bool} {w:World} (h:yT M n k b w):w.cell? ⟨M,0,none⟩=some (.string n)∧w.cell? ⟨M,1,none⟩=some (.string k)∧w.cell? ⟨M,2,none⟩=some (.bool b)∧∀i,w.frozen? ⟨M,i,none⟩=false :=
 ⟨dO.cell h rfl,dO.cell h rfl,dO.cell h rfl,dO.free h⟩
theorem yT.put {M:Nat} {n k:aj} {b:Bool} {w:World} (h:yT M n k b w) (n' k':aj) (b':Bool) :
  yT M n' k' b' (((w.setCell ⟨M,0,none⟩ (.string n')).setCell ⟨M,1,none⟩ (.string k')).setCell ⟨M,2,none⟩ (.bool b'))∧Kept (· = M) w (((w.setCell ⟨M,0,none⟩ (.string n')).setCell ⟨M,1,none⟩ (.string k')).setCell ⟨M,2,none⟩ (.bool b')) :=
 ⟨((dO.set h 0 (.string n')).set 1 (.string k')).set 2 (.bool b'),((((Kept.refl (· = M) w).setCell (p:=⟨M,0,none⟩) (.inl rfl) _).setCell (p:=⟨M,1,none⟩) (.inl rfl) _).setCell (p:=⟨M,2,none⟩) (.inl rfl) _)⟩
theorem Vw {F:dQ} {ov:Value} {w w2:World} {f:Func} {tmps:Array Value} {M:Nat} {n k:aj} {b c:Bool} {r:Option JL×aY} {fE:Value} (hf:f.results = #[.cell 4 137,.tmp 5]) (h4:tmps.getD 4 undef=.pointer (some ⟨M,0,none⟩)) (h5:tmps.getD 5 undef=.bool c)
  (hM:yT M n k b w2) (hc:c=r.1.isSome) (hq:∀q,r.1=some q→(⟨n,k,b⟩:JL)=q) (hr:bI F ov w fE r.2 w2):bodyPost Tryz.prog f (PlQ F ov w r) .ret ⟨tmps,[]⟩ w2:=by
 obtain ⟨c0,c1,c2,_⟩:=hM.cells
 have Nq:tmps[4]?.getD undef=.pointer (some ⟨M,0,none⟩):=by rw [←h4,Array.getD_eq_getD_getElem?]
 have ht5:tmps[5]?.getD undef=.bool c:=by rw [←h5,Array.getD_eq_getD_getElem?]
 refine bodyPost_ret (v:=.tuple #[.agg #[.string n,.string k,.bool b],.bool c]) (by simp [results,hf,go_sem,Nq,ht5,c0,c1,c2]) rfl ⟨⟨⟨n,k,b⟩,by rw [hc],hq⟩,fE,hr⟩
theorem Gx (F:dQ) (ov:Value) (S:aY) (Sx:Nat→Prop) (x:aA) (b o:Nat) (w:World) (h:bg F ov S w) (hx:aW w Sx b o x) (hs:Safe Sx aB w.heap.size) (h3:x.kind=3) :
  Calls Tryz.prog 69 #[.pointer (some ⟨F.R,0,none⟩),.pointer (some ⟨b,o,none⟩)] w (PlQ F ov w (nT x S)):=by
 have fin:Hid (nT x S=(some ⟨x.name,⟨#[]⟩,false⟩,S)):=if_pos h3
 obtain ⟨k,t,n,nm,kids⟩:=x
 obtain rfl:k=3:=h3
 obtain ⟨w1,hw1⟩:∃w1,w1=w.alloc (.cells #[.string ⟨#[]⟩,.string ⟨#[]⟩,.bool false] 137):=⟨_,rfl⟩
 have k1:Kept aB w w1:=by rw [hw1];exact (Kept.refl aB w).alloc _
 have hb:yT w.heap.size ⟨#[]⟩ ⟨#[]⟩ false w1:=by rw [hw1];exact dO.new _ _ _
 have hp:=hx.kept k1 hs
 unfold aW at hp
 obtain ⟨_,_,q0,_,_,q3,_⟩:=hp
 obtain ⟨M,hM⟩:∃M,M=w.heap.size:=⟨_,rfl⟩
 rw [←hM] at hb
 have HB:=ah hb;have K1:=ah k1;have HW:=ah hw1;have HM:=ah hM;have H:=ah h
 clear hx hb k1 hw1 hM h
 go_enter Tryz.func69, Tryz.ntmps69
 go_upto_region 1 with fail
 rw [←HW.out,←HM.out]
 go_wp2_with (go_at_call 108;(with_reducible refine (abo nm _).mono ?_);rintro e w2 ⟨rfl,k_⟩;have K2:=ah k_;have B2:=ah (dO.kept HB.out k_ (fun h=>h));obtain ⟨c0,c1,c2,cf⟩:=yT.cells B2.out;have f0:=cf 0;have f1:=cf 1;have f2:=cf 2;clear k_)
 have P:=yT.put B2.out nm ⟨#[]⟩ false
 refine Vw (r:=nT (.mk 3 t n nm kids) S) Tryz.results69 rfl rfl P.1 (by rw [fin.out];rfl) (by rw [fin.out];intro q hq;cases hq;rfl) (fE:=ov) ?_
 rw [fin.out]
 exact ((bI.refl H.out).quiet (K1.out.trans K2.out)).local P.2 H.out (fun b hb=>by obtain rfl:b=M:=hb;exact ⟨by rw [HM.out];exact Nat.le_refl _,H.out.mine (by rw [HM.out];exact Nat.le_refl _)⟩)
end Go.Proofs.YtgoijmpahffnhaaGreatDoor
