/-  -/
import Derived.Test.YtefjbnhpjdhjmaaGreatDoorBarS
import Derived.Test.YtefjbnhpjdhjmaaGreatDoorSamS
import Derived.Test.YtefjbnhpjdhjmaaGreatDoorTm8
import Derived.Test.YtefjbnhpjdhjmaaGreatDoorPs31
import Derived.Test.YtefjbnhpjdhjmaaGreatDoorPr3
import Derived.Test.YtefjbnhpjdhjmaaGreatDoorTm19
import Derived.Deep.RegionWith
namespace Go.Proofs.YtefjbnhpjdhjmaaGreatDoor
set_option linter.all false
open Go.RowKit
set_option maxRecDepth 100000
set_option maxHeartbeats 16000000
theorem P8 {P:Program} {Q:Exit→Act→World→Prop} {J:(Nat→Bool)→(Nat→Value)→World→Prop} {X:Nat→Prop} {l:Nat→Bool} {i:Nat} {o:Oper} {x:Act} {w:World} {f:FuncId} {args:Array Value} {R:Nat→Value→World→Prop} (hr:(execOp x.eval o).run P w=.ok (.enter f args) w)
  (hc:Calls P f args w fun e w'=>∃v,e=.returned v∧R i v w'∧Kept X w w'∧∀l',(∀j,l' j=true↔j=i∨l j=true)→J l' (fun t=>(x.put o.dst v).tmps.getD t undef) w') :
  o.wp P x w (fun a' w'=>∃v,a'=x.put o.dst v∧(∀d,o.dst=some d→R i v w')∧Kept X w w'∧∀l',(∀j,l' j=true↔j=i∨l j=true)→J l' (fun t=>(x.put o.dst v).tmps.getD t undef) w') Q:=by
 unfold Oper.wp
 rw [hr]
 refine Calls.mono hc ?_
 rintro e w' ⟨v,rfl,hs,hk,hj⟩
 exact ⟨v,rfl,fun _ _=>hs,hk,hj⟩
theorem UJ {o:Oper} {a:Act} {K:Act→World→Prop} {Q:Exit→Act→World→Prop} {w:World} (p:Operand) (ho:o.op=.load 30 p)
  (b of:Nat) (hp:a.eval p=.pointer (some ⟨b,of,none⟩)) (sa:iM) (s:aQ) (hc:∀i (h:i<24),w.cell? ⟨b,of+i,none⟩=some ((bZ sa s)[i]'(by simpa [bZ] using h)))
  (h:K (a.put o.dst (bV sa s)) w):o.wp Tryz.prog a w K Q:=by
 have hr:(execOp a.eval o).run Tryz.prog w=.ok (.value (bV sa s)) w:=by
  unfold execOp
  rw [ho]
  simp only [hp,Sem.run_bind,DY hc,Result.andThen_ok,Sem.run_pure]
 unfold Oper.wp
 rw [hr]
 exact h
theorem Aw {ops:Array Oper} {rest:List Oper} {o:Oper} {a:Act} {Q:Exit→Act→World→Prop} {w:World} (hw:Region.wanted o (yielded ops a.tmps)=true) (p:Operand) (ho:o.op=.load 30 p)
  (b of:Nat) (hp:a.eval p=.pointer (some ⟨b,of,none⟩)) (sa:iM) (s:aQ) (hc:∀i (h:i<24),w.cell? ⟨b,of+i,none⟩=some ((bZ sa s)[i]'(by simpa [bZ] using h)))
  (h:wpList Tryz.prog ops Q rest (a.put o.dst (bV sa s)) w):wpList Tryz.prog ops Q (o::rest) a w :=
 wpList_step fun K hK=>by rw [if_pos hw];exact UJ p ho b of hp sa s hc (hK _ _ h)
theorem zT {ops:Array Oper} {o oj:Oper} {x:Act} {j d:Nat} {b:Bool} {p q:Prop} (hg:o.guard=some (j,b)) (ho:ops[j]?=some oj) (hd:oj.dst=some d) (hv:x.eval (.tmp d)=.bool b) (hlt:d<x.tmps.size) (hp:p) :
  if Region.wanted o (yielded ops x.tmps)=true then p else q:=by
 have hv':x.tmps[d]?=some (.bool b):=by
  have:x.tmps.getD d undef=.bool b:=hv
  rw [Array.getD_eq_getD_getElem?,Array.getElem?_eq_getElem hlt] at this
  rw [Array.getElem?_eq_getElem hlt]
  exact congrArg some this
 have hw:Region.wanted o (yielded ops x.tmps)=true:=by
  simp only [Region.wanted,hg,yielded,ho,Option.bind_some,hd,hv']
  cases b<;>rfl
 rw [if_pos hw];exact hp
theorem XL {a:iM} {s:aQ} {xa:Act} {wy:World} {M:Nat} {t:Nat} {o:Oper} (e:xa.eval (.tmp t)=.pointer (some ⟨M,0,none⟩)) (hc:∀i (hi:i<24),wy.cell? ⟨M,0+i,none⟩=some ((bZ a s)[i]'(by simpa [bZ] using hi)))
  (ho:o.op=.load 30 (.tmp t)):(execOp xa.eval o).run Tryz.prog wy=.ok (.value (bV a s)) wy:=by
 unfold execOp
 rw [ho]
 simp only [e,Sem.run_bind,DY hc,Result.andThen_ok,Sem.run_pure]
theorem ZV {s:aQ} (h:oP s):oP (dQ s):=by
 have hb:∀p:aA,Af p→Af (bF p):=fun p hp=>by
  obtain ⟨k,t,n,nm,kids⟩:=p
  refine ⟨⟨?_,?_,?_⟩,by rw [Jq];exact hp.t⟩
  ·show (if k=1 then t else E0).size<_
   split
   ·exact hp.z.1
   ·decide
  ·show (if k=3∨k=4∨k=6 then nm else E0).size<_
   split
   ·exact hp.z.2.1
   ·decide
  ·show (iP kids).length<_
   rw [yD];exact hp.z.2.2
 have hq:∀p:aA,Af p→Af (aB p):=fun p hp=>by
  obtain ⟨k,t,n,nm,kids⟩:=p
  refine ⟨⟨?_,?_,?_⟩,by rw [EZ];exact hp.t⟩
  ·show (if k=1∨aT k then t else E0).size<_
   split
   ·exact hp.z.1
   ·decide
  ·show (if bf k then nm else E0).size<_
   split
   ·exact hp.z.2.1
   ·decide
  ·show (dw kids).length<_
   rw [mD];exact hp.z.2.2
 have e0:E0.size<1000000000:=by decide
 unfold dQ
 refine ⟨h.label,?_,?_,?_,?_,?_,?_,?_,h.always,h.yes,h.aW⟩<;>dsimp only<;>split
 ·exact hb _ h.target
 ·exact yQ
 ·exact hb _ h.value
 ·exact yQ
 ·exact hq _ h.pat
 ·exact yQ
 ·exact h.name
 ·exact e0
 ·exact h.entry
 ·exact e0
 ·exact h.params
 ·exact ⟨by decide,fun x hx=>by cases hx⟩
 ·exact h.locals
 ·exact ⟨by decide,fun x hx=>by cases hx⟩
theorem Gx (s:aQ):(⟨(fD s).1.toArray⟩:aj).size≤1000000000:=by
 have:(⟨(fD s).1.toArray⟩:aj).size=(fD s).1.length:=by show (fD s).1.toArray.size=_;simp
 rw [this]
 unfold fD
 split
 ·simp
 split
 ·simp
 split
 ·simp
 split
 ·simp
 ·dsimp only;omega
def JA (w:World):Prop:=∀(x:aj) wy,x.size≤1000000000→Kept aF w wy→Calls Tryz.prog 7 #[.string x] wy (Fv x wy)
theorem JA.of {w:World} (hm:zI w) (hr:nV w):JA w:=fun x _ hx hk=>Y7 x _ hx (hm.kept hk (fun h=>h)) (Y8 hr hk)
def wM:aQ:=⟨⟨#[76]⟩,3,.mk 3 E0 0 ⟨#[88]⟩ [],.mk 8 E0 0 E0 [.mk 1 ⟨#[97]⟩ 0 E0 [],.mk 2 E0 2 E0 []],lQ,E0,E0,[],[],E0,⟨#[77]⟩,E0⟩
theorem Gy:fD wM=([76,32,88,32,61,32,39,97,39,32,38,32,50,32,58,83,40,77,41],0):=by
 have e2:Lib.decDigits 2=[50]:=by rw [Lib.decDigits,dif_pos (by decide)];rfl
 have hw:jR wM=0:=by decide
 have hl:lineS wM=[76,32,88,32,61,32,39,97,39,32,38,32,50,32,58,83,40,77,41]:=by
  have ev:aP (.mk 8 E0 0 E0 [.mk 1 ⟨#[97]⟩ 0 E0 [],.mk 2 E0 2 E0 []]) 1=[39,97,39,32,38,32,50]:=by
   have e3:aP (.mk 2 E0 2 E0 []) 2=[50]:=by rw [aP];exact e2
   rw [aP]
   show xg 1 [32,38,32] _=_
   rw [xg,o7,e3];rfl
  unfold lineS jO
  show [76]++((32::(aP (.mk 3 E0 0 ⟨#[88]⟩ []) 1++([32,61,32]++aP (.mk 8 E0 0 E0 [.mk 1 ⟨#[97]⟩ 0 E0 [],.mk 2 E0 2 E0 []]) 1)))++qP wM)=_
  rw [ev];rfl
 unfold fD
 rw [if_neg (by rw [hw];decide),if_neg (by unfold dJ;decide),hl,if_neg (by decide),if_neg (by decide)]
theorem UK:mZ ⟨#[76,32,88,32,61,32,39,97,39,32,38,32,50,32,58,83,40,77,41]⟩=.ok (some wM):=by
 have h:=EX (s:=wM) (by rw [Gy]) ⟨by unfold tH wM;decide,by unfold tH wM;decide⟩
 rw [Gy] at h
 exact h
theorem QL (w:World) (hL:JA w):Calls Tryz.prog 5 #[] w (nY true w):=by
 have HL:=ah hL;have K0:=ah (Kept.refl aF w)
 clear hL
 go_enter Tryz.func5, Tryz.ntmps5
 go_upto_region 2 with (first
  | (go_at_call 7;(refine (HL.out (⟨#[76,32,88,32,61,32,39,97,39,32,38,32,50,32,58,83,40,77,41]⟩) _ (by decide) K0.out).mono ?_);intro e w3 h_;obtain ⟨k_,h_⟩:=h_;rw [UK] at h_;unfold IZ at h_;obtain ⟨ab,SS,rfl,E8,A8,Ba⟩:=h_;clear E8 A8 Ba;have iH:=ah k_;clear k_)
  | (refine jh rfl _ _ rfl w3.heap.size rfl ab wM rfl _ ((Below.heap_alloc _ _ _ (by simp)).trans (ay w3 _)) rfl ?_;intro w4 xX eU;have S1:=ah xX;have HJ1:=ah eU;have EI:=ah (Fl.kept (X:=(· = w3.heap.size)) (dK (by simp):Fl (w3.heap.size+1) 0 0 _) eU (by omega));obtain ⟨q0,q1,vW,wS⟩:=EI.out.cells;clear xX eU))
 have P9:=ah (EI.out.set (0) (0))
 have hz1:w3.heap.size+1<w4.heap.size:=EI.out.lt
 have Qa:Hid (Kept aF w3 ((w4.setCell ⟨w3.heap.size+1,0,none⟩ (.int .i64 (0))).setCell ⟨w3.heap.size+1,1,none⟩ (.int .i64 (0)))):=(((((Kept.refl aF w3).alloc _).alloc _).step HJ1.out (fun y hy=>.inr (by omega))).step (((Kept.refl (· = w3.heap.size+1) _).setCell (p:=⟨w3.heap.size+1,0,none⟩) (.inl rfl) _).setCell (p:=⟨w3.heap.size+1,1,none⟩) (.inl rfl) _) (fun y hy=>.inr (by omega)))
 have Sm:=ah (S1.out.kept (((Kept.refl (· = w3.heap.size+1) w4).setCell (p:=⟨w3.heap.size+1,0,none⟩) (.inl rfl) (.int .i64 (0))).setCell (p:=⟨w3.heap.size+1,1,none⟩) (.inl rfl) (.int .i64 (0))) (by omega))
 obtain ⟨w5,hw1⟩:∃x,x=(w4.setCell ⟨w3.heap.size+1,0,none⟩ (.int .i64 (0))).setCell ⟨w3.heap.size+1,1,none⟩ (.int .i64 (0)):=⟨_,rfl⟩
 rw [←hw1] at P9 Qa Sm
 try dsimp only [Act.put]
 rw [←hw1]
 have K5:=ah ((K0.out.trans iH.out).trans Qa.out)
 clear hw1 q0 q1 vW wS
 obtain ⟨q0,q1,vW,wS⟩:=P9.out.cells
 obtain ⟨c0,c1,-,-,-,-,-,c7,-,-,-,-,-,-,-,-,-,-,-,-,-,-,eu,-⟩:=Sm.out.cells
 have b0:w5.cell? ⟨w3.heap.size,0,none⟩=some (.string ⟨#[76]⟩):=c0
 have b1:w5.cell? ⟨w3.heap.size,1,none⟩=some (.int .i64 3):=c1
 have b7:w5.cell? ⟨w3.heap.size,7,none⟩=some (.int .i64 8):=c7
 have b22:w5.cell? ⟨w3.heap.size,22,none⟩=some (.string ⟨#[77]⟩):=eu
 clear c0 c1 c7 eu
 go_wp2_with fail
 go_ret
 exact ⟨rfl,K5.out⟩
theorem UE (s:aQ) (a:iM) (t:aj) (w:World) (hz:oP s) (ho:lT w (· < w.heap.size) a s) (hx:StX a s) (ht:t.size≤1000000000) (hg:Iu w) (hL:JA w):Calls Tryz.prog 3 #[bV a s,.string t] w (nY true w):=by
 have B1:=dP.new w a s
 have k1:Kept aF w _:=(Kept.refl aF w).alloc (.cells (bZ a s).toArray 30)
 unfold bZ at k1
 have HA:Hid (∀wy,Kept aF w wy→Calls Tryz.prog 5 #[] wy (nY true wy)):=fun wy hk=>QL wy fun x _ h1 h2=>hL x _ h1 (hk.trans h2)
 have HP:Hid (∀wy,Kept aF w wy→Calls Tryz.prog 6 #[bV a s] wy (JW s wy)):=fun wy hk=>Le s a wy hz (ho.to hk (Safe.lt (Nat.le_refl _)) (fun _ h=>Nat.lt_of_lt_of_le h hk.size)) hx (hg.next hk)
 have HB:Hid (∀wy,Kept aF w wy→Calls Tryz.prog 9 #[bV a s] wy (aan s wy)):=fun wy hk=>Yd s a wy hz (ho.to hk (Safe.lt (Nat.le_refl _)) (fun _ h=>Nat.lt_of_lt_of_le h hk.size))
 have HL:=ah hL;have HG:=ah hg;have HT:=ah ht;have HN:Hid (H9 s):=⟨hx.target,hx.value⟩;have HZ:=ah hz
 unfold bV
 generalize hw1:World.alloc w _=w1 at B1 k1
 have HB1:=ah B1;have K1:=ah k1;have HW1:=ah hw1
 obtain ⟨N,hN⟩:∃x,x=w.heap.size:=⟨_,rfl⟩
 rw [←hN] at HB1
 have Rj:Hid (N=w.heap.size):=hN
 clear hL hg ht hx hz ho B1 k1 hw1
 go_enter Tryz.func3, Tryz.ntmps3
 go_upto_region 1 with fail
 rw [HW1.out,←hN]
 clear hN
 go_upto_region 3 with (go_at_call 5;(refine (HA.out _ K1.out).mono ?_);rintro e w2 ⟨rfl,k_⟩;have K2:=ah (K1.out.trans k_);have HB2:=ah (HB1.out.kept k_ (fun h=>h));clear k_)
 go_upto_region 4 with (first
  | (refine nC rfl _ rfl N 0 rfl a s HB2.out.hc0 ?_)
  | (go_at_call 6;(refine (HP.out _ K2.out).mono ?_);rintro e w3 ⟨rfl,k_⟩;have K3:=ah (K2.out.trans k_);have HB3:=ah (HB2.out.kept k_ (fun h=>h));clear k_))
 clear HA HP HB1 HB2 HW1 K1 K2
 go_upto_if 24 with fail
 go_cut [] (fun wx=>Hid (Kept aF w wx))
 case first =>
  by_cases hp0:(fD s).2=0
  ·have z1:((fD s).2==0)=true:=by simpa using hp0
   have LT:Hid (mZ ⟨(fD s).1.toArray⟩=.ok (some (dQ s))):=EX hp0 HN.out
   have HPS:=ah (Gx s)
   clear hp0
   go_upto_region 6 with (first
  | (go_at_call 7;(refine (HL.out (⟨(fD s).1.toArray⟩) _ (HPS.out) K3.out).mono ?_);intro e w4 h_;obtain ⟨k_,h_⟩:=h_;rw [LT.out] at h_;unfold IZ at h_;obtain ⟨ab,SS,rfl,E8,A8,Ba⟩:=h_;have JB:=ah A8.ok;have wu:=ah Ba;clear E8 A8 Ba;have iH:=ah k_;clear k_)
  | (refine jh rfl _ _ rfl w4.heap.size rfl ab (dQ s) rfl _ ((Below.heap_alloc _ _ _ (by simp)).trans (ay w4 _)) rfl ?_;intro w5 xX eU;have S1:=ah xX;have HJ1:=ah eU;have EI:=ah (Fl.kept (X:=(· = w4.heap.size)) (dK (by simp):Fl (w4.heap.size+1) 0 0 _) eU (by omega));obtain ⟨q0,q1,vW,wS⟩:=EI.out.cells;clear xX eU))
   have P9:=ah (EI.out.set (0) (0))
   have hz1:w4.heap.size+1<w5.heap.size:=EI.out.lt
   have Qa:Hid (Kept aF w4 ((w5.setCell ⟨w4.heap.size+1,0,none⟩ (.int .i64 (0))).setCell ⟨w4.heap.size+1,1,none⟩ (.int .i64 (0)))):=(((((Kept.refl aF w4).alloc _).alloc _).step HJ1.out (fun y hy=>.inr (by omega))).step (((Kept.refl (· = w4.heap.size+1) _).setCell (p:=⟨w4.heap.size+1,0,none⟩) (.inl rfl) _).setCell (p:=⟨w4.heap.size+1,1,none⟩) (.inl rfl) _) (fun y hy=>.inr (by omega)))
   have Sm:=ah (S1.out.kept (((Kept.refl (· = w4.heap.size+1) w5).setCell (p:=⟨w4.heap.size+1,0,none⟩) (.inl rfl) (.int .i64 (0))).setCell (p:=⟨w4.heap.size+1,1,none⟩) (.inl rfl) (.int .i64 (0))) (by omega))
   obtain ⟨w6,hw1⟩:∃x,x=(w5.setCell ⟨w4.heap.size+1,0,none⟩ (.int .i64 (0))).setCell ⟨w4.heap.size+1,1,none⟩ (.int .i64 (0)):=⟨_,rfl⟩
   rw [←hw1] at P9 Qa Sm
   try dsimp only [Act.put]
   rw [←hw1]
   have K6:=ah ((K3.out.trans iH.out).trans Qa.out)
   clear hw1 q0 q1 vW wS
   obtain ⟨q0,q1,vW,wS⟩:=P9.out.cells
   have HB6:=ah ((HB3.out.kept iH.out (fun h=>h)).kept Qa.out (fun h=>h))
   have OB:Hid (∀wy,Kept aF w6 wy→lT wy (· < wy.heap.size) ab (dQ s)):=by
    intro wy hk
    have k2:=Qa.out.trans hk
    exact JB.out.to k2 (fun b hb=>⟨(wu.out b hb).2,fun h=>h⟩) (fun b hb=>Nat.lt_of_lt_of_le (wu.out b hb).2 k2.size)
   have HSA:Hid (∀wy c,Kept aF w6 wy→lT wy (· < wy.heap.size) c (dQ s)→Calls Tryz.prog 8 #[bV ab (dQ s),bV c (dQ s)] wy (nY true wy)):=fun wy c hk ho=>L8 (dQ s) ab c wy (ZV HZ.out) (OB.out wy hk) ho
   obtain ⟨FN,MI⟩:∃x,x=w4.heap.size+1:=⟨_,rfl⟩
   obtain ⟨MN,Qb⟩:∃x,x=w4.heap.size:=⟨_,rfl⟩
   rw [←MI] at P9 q0 q1
   rw [←Qb] at Sm
   rw [←MI,←Qb]
   clear MI Qb hz1 q0 q1 vW wS
   obtain ⟨Sp,hSp⟩:∃Sp:Nat→Value→World→Prop,Sp=(fun i v wx=>match i with
    | 0=>v=.pointer (some ⟨FN,0,none⟩)
    | 1=>v=.int .i64 0
    | 2=>v=.bool false
    | 3=>v=.bool false
    | 4=>v=.bool true
    | 5=>v=.bool false
    | 6=>v=.bool false
    | 7=>v=.bool false
    | 8=>v=bV ab (dQ s)
    | 9=>v=bV a s
    | 10=>∃c,v=bV c (dQ s)∧lT wx (· < wx.heap.size) c (dQ s)
    | 11=>v=.bool true
    | 12=>v=.bool false
    | _=>v=.bool false):=⟨_,rfl⟩
   obtain ⟨J,HJ⟩:∃J:(Nat→Bool)→(Nat→Value)→World→Prop,∀l f w,J l f w:=⟨fun _ _ _=>True,fun _ _ _=>trivial⟩
   refine oH aF J Sp [31,32,33,34,35,36,37,38,39,40,41,42,43,44] (by kernel_rfl) (by kernel_rfl) (by kernel_rfl) (fun i v w w' h hk=>by subst hSp;rcases i with _|_|_|_|_|_|_|_|_|_|_|_|_|_|i;all_goals first|exact h|(obtain ⟨c_,h1,h2⟩:=h;exact ⟨c_,h1,h2.to hk (Safe.lt (Nat.le_refl _)) (fun _ q=>Nat.lt_of_lt_of_le q hk.size)⟩)) ?_ (fun _ _=>HJ _ _ _) (fun _ _ _ _ _ _=>HJ _ _ _) ?_
   ·intro i o hi lq x wy hI _ hlf haft
    have hsz:x.tmps.size=91:=hI.size
    have JK:=hI.kept
    have e9:x.eval (.tmp 9)=.pointer (some ⟨FN,0,none⟩):=hI.keep 9 _ rfl (by kernel_rfl)
    have e7:x.eval (.tmp 7)=.pointer (some ⟨MN,0,none⟩):=hI.keep 7 _ rfl (by kernel_rfl)
    have e2:x.eval (.tmp 2)=.pointer (some ⟨N,0,none⟩):=hI.keep 2 _ rfl (by kernel_rfl)
    have e8:x.eval (.tmp 8)=.bool true:=hI.keep 8 _ rfl (by kernel_rfl)
    have FX:=P9.out.kept JK (fun h=>h);obtain ⟨q0,q1,vW,wS⟩:=FX.cells
    have SM:=Sm.out.kept JK (fun h=>h)
    have SN:=HB6.out.kept JK (fun h=>h)
    rcases i with _|_|_|_|_|_|_|_|_|_|_|_|_|_|i
    all_goals (simp only [List.getElem?_toArray,List.getElem?_cons_zero,List.getElem?_cons_succ,List.getElem?_nil,Option.some.injEq,reduceCtorEq] at hi)
    all_goals subst hi
    ·refine dY rfl ?_
     refine cu (v:=.pointer (some ⟨FN,0,none⟩)) ?_ (by subst hSp;exact rfl) (fun _ _=>HJ _ _ _)
     simp only [execOp,resolve,invoke,List.map_toArray,List.map_cons,List.map_nil,e9];go_simp
    ·refine dY rfl ?_
     have d31:x.eval (.tmp 31)=.pointer (some ⟨FN,0,none⟩):=by have h_:=hI.dep haft 0 31 rfl rfl rfl;rw [hSp] at h_;exact h_
     refine cu (v:=.int .i64 0) ?_ (by subst hSp;exact rfl) (fun _ _=>HJ _ _ _)
     simp only [execOp,resolve,invoke,List.map_toArray,List.map_cons,List.map_nil,d31];go_simp
    ·refine dY rfl ?_
     have d32:x.eval (.tmp 32)=.int .i64 0:=by have h_:=hI.dep haft 1 32 rfl rfl rfl;rw [hSp] at h_;exact h_
     refine cu (v:=.bool false) ?_ (by subst hSp;exact rfl) (fun _ _=>HJ _ _ _)
     simp only [execOp,resolve,invoke,List.map_toArray,List.map_cons,List.map_nil,d32];go_simp
    ·refine dY rfl ?_
     have d33:x.eval (.tmp 33)=.bool false:=by have h_:=hI.dep haft 2 33 rfl rfl rfl;rw [hSp] at h_;exact h_
     refine cu (v:=.bool false) ?_ (by subst hSp;exact rfl) (fun _ _=>HJ _ _ _)
     simp only [execOp,resolve,invoke,List.map_toArray,List.map_cons,List.map_nil,d33];go_simp
    ·have g_:x.eval (.tmp 34)=.bool false:=by have h_:=hI.dep haft 3 34 rfl rfl rfl;rw [hSp] at h_;exact h_
     refine zT rfl rfl rfl g_ (by rw [hsz];decide) ?_
     refine cu (v:=.bool true) ?_ (by subst hSp;exact rfl) (fun _ _=>HJ _ _ _)
     simp only [execOp,resolve,invoke,List.map_toArray,List.map_cons,List.map_nil,e8];go_simp
    ·have g_:x.eval (.tmp 34)=.bool false:=by have h_:=hI.dep haft 3 34 rfl rfl rfl;rw [hSp] at h_;exact h_
     refine zT rfl rfl rfl g_ (by rw [hsz];decide) ?_
     have d35:x.eval (.tmp 35)=.bool true:=by have h_:=hI.dep haft 4 35 rfl rfl rfl;rw [hSp] at h_;exact h_
     refine cu (v:=.bool false) ?_ (by subst hSp;exact rfl) (fun _ _=>HJ _ _ _)
     simp only [execOp,resolve,invoke,List.map_toArray,List.map_cons,List.map_nil,d35];go_simp
    ·refine dY rfl ?_
     have d34:x.eval (.tmp 34)=.bool false:=by have h_:=hI.dep haft 3 34 rfl rfl rfl;rw [hSp] at h_;exact h_
     have d36:x.eval (.tmp 36)=.bool false:=by have h_:=hI.dep haft 5 36 rfl rfl rfl;rw [hSp] at h_;exact h_
     refine cu (v:=.bool false) ?_ (by subst hSp;exact rfl) (fun _ _=>HJ _ _ _)
     simp only [execOp,resolve,invoke,List.map_toArray,List.map_cons,List.map_nil,d34,d36];go_simp
    ·refine dY rfl ?_
     have Wn:x.eval (.tmp 37)=.bool false:=by have h_:=hI.dep haft 6 37 rfl rfl rfl;rw [hSp] at h_;exact h_
     refine cu (v:=.bool false) ?_ (by subst hSp;exact rfl) (fun _ _=>HJ _ _ _)
     simp only [execOp,resolve,invoke,List.map_toArray,List.map_cons,List.map_nil,Wn];go_simp
    ·have g_:x.eval (.tmp 38)=.bool false:=by have h_:=hI.dep haft 7 38 rfl rfl rfl;rw [hSp] at h_;exact h_
     refine zT rfl rfl rfl g_ (by rw [hsz];decide) ?_
     refine cu (v:=bV ab (dQ s)) ?_ (by subst hSp;exact rfl) (fun _ _=>HJ _ _ _)
     exact XL e7 SM.hc0 rfl
    ·have g_:x.eval (.tmp 38)=.bool false:=by have h_:=hI.dep haft 7 38 rfl rfl rfl;rw [hSp] at h_;exact h_
     refine zT rfl rfl rfl g_ (by rw [hsz];decide) ?_
     refine cu (v:=bV a s) ?_ (by subst hSp;exact rfl) (fun _ _=>HJ _ _ _)
     exact XL e2 SN.hc0 rfl
    ·have g_:x.eval (.tmp 38)=.bool false:=by have h_:=hI.dep haft 7 38 rfl rfl rfl;rw [hSp] at h_;exact h_
     refine zT rfl rfl rfl g_ (by rw [hsz];decide) ?_
     have d40:x.eval (.tmp 40)=bV a s:=by have h_:=hI.dep haft 9 40 rfl rfl rfl;rw [hSp] at h_;exact h_
     refine P8 (f:=9) (args:=#[bV a s]) ?_ ?_
     ·simp only [execOp,resolve,invoke,List.map_toArray,List.map_cons,List.map_nil,d40];go_simp
     ·exact (HB.out _ (K6.out.trans JK)).mono fun e w' h=>⟨_,(Classical.choose_spec h.2).1,by subst hSp;exact ⟨_,rfl,(Classical.choose_spec h.2).2⟩,h.1,fun _ _=>HJ _ _ _⟩
    ·have g_:x.eval (.tmp 38)=.bool false:=by have h_:=hI.dep haft 7 38 rfl rfl rfl;rw [hSp] at h_;exact h_
     refine zT rfl rfl rfl g_ (by rw [hsz];decide) ?_
     have Wi:x.eval (.tmp 39)=bV ab (dQ s):=by have h_:=hI.dep haft 8 39 rfl rfl rfl;rw [hSp] at h_;exact h_
     have OE:∃c,x.eval (.tmp 41)=bV c (dQ s)∧lT wy (· < wy.heap.size) c (dQ s):=by have h_:=hI.dep haft 10 41 rfl rfl rfl;rw [hSp] at h_;exact h_
     obtain ⟨c,OE,hc⟩:=OE
     refine P8 (f:=8) (args:=#[bV ab (dQ s),bV c (dQ s)]) ?_ ?_
     ·simp only [execOp,resolve,invoke,List.map_toArray,List.map_cons,List.map_nil,Wi,OE];go_simp
     ·exact (HSA.out _ c JK hc).mono fun e w' h=>⟨_,h.1,by subst hSp;exact rfl,h.2,fun _ _=>HJ _ _ _⟩
    ·have g_:x.eval (.tmp 38)=.bool false:=by have h_:=hI.dep haft 7 38 rfl rfl rfl;rw [hSp] at h_;exact h_
     refine zT rfl rfl rfl g_ (by rw [hsz];decide) ?_
     have Wj:x.eval (.tmp 42)=.bool true:=by have h_:=hI.dep haft 11 42 rfl rfl rfl;rw [hSp] at h_;exact h_
     refine cu (v:=.bool false) ?_ (by subst hSp;exact rfl) (fun _ _=>HJ _ _ _)
     simp only [execOp,resolve,invoke,List.map_toArray,List.map_cons,List.map_nil,Wj];go_simp
    ·refine dY rfl ?_
     have Wh:x.eval (.tmp 38)=.bool false:=by have h_:=hI.dep haft 7 38 rfl rfl rfl;rw [hSp] at h_;exact h_
     have Jc:x.eval (.tmp 43)=.bool false:=by have h_:=hI.dep haft 12 43 rfl rfl rfl;rw [hSp] at h_;exact h_
     refine cu (v:=.bool false) ?_ (by subst hSp;exact rfl) (fun _ _=>HJ _ _ _)
     simp only [execOp,resolve,invoke,List.map_toArray,List.map_cons,List.map_nil,Wh,Jc];go_simp
   ·intro f wy hK hS _
    have h_:=hS 13 _ 44 rfl rfl
    rw [hSp] at h_
    have e44:f 44=.bool false:=h_
    have K7:=ah (K6.out.trans hK)
    clear hK hS h_
    simp only [kP,List.foldl_cons,List.foldl_nil,List.setIfInBounds_toArray,List.set_cons_zero,List.set_cons_succ,e44]
    clear e44
    go_wp2_with fail
    go_meet
    exact K7
  ·have z1:((fD s).2==0)=false:=by simpa using hp0
   clear hp0
   go_wp2_with fail
   go_meet
   exact K3
 case rest =>
 have K4:=hcut
 clear hcut K3 HB3 HB HN HZ
 cases hu:mZ t with
 | error er =>
  have HU:=ah hu
  clear hu
  go_upto_region 9 with (first
   | (go_at_call 7;(refine (HL.out (t) _ (HT.out) K4.out).mono ?_);intro e w5 h_;obtain ⟨k_,h_⟩:=h_;rw [HU.out] at h_;unfold IZ at h_;obtain rfl:=h_;have qw:=ah k_;clear k_)
   | (refine jh rfl _ _ rfl w5.heap.size rfl nilA dW rfl _ ((Below.heap_alloc _ _ _ (by simp)).trans (ay w5 _)) rfl ?_;intro w6 xX eU;have S2:=ah xX;have HJ2:=ah eU;have DJ:=ah (Fl.kept (X:=(· = w5.heap.size)) (dK (by simp):Fl (w5.heap.size+1) 0 0 _) eU (by omega));obtain ⟨q0,q1,vW,wS⟩:=DJ.out.cells;clear xX eU))
  have E9:=ah (DJ.out.set (er.1) (er.2))
  have hz2:w5.heap.size+1<w6.heap.size:=DJ.out.lt
  have Fa:Hid (Kept aF w5 ((w6.setCell ⟨w5.heap.size+1,0,none⟩ (.int .i64 (er.1))).setCell ⟨w5.heap.size+1,1,none⟩ (.int .i64 (er.2)))):=(((((Kept.refl aF w5).alloc _).alloc _).step HJ2.out (fun y hy=>.inr (by omega))).step (((Kept.refl (· = w5.heap.size+1) _).setCell (p:=⟨w5.heap.size+1,0,none⟩) (.inl rfl) _).setCell (p:=⟨w5.heap.size+1,1,none⟩) (.inl rfl) _) (fun y hy=>.inr (by omega)))
  have JC:=ah (S2.out.kept (((Kept.refl (· = w5.heap.size+1) w6).setCell (p:=⟨w5.heap.size+1,0,none⟩) (.inl rfl) (.int .i64 (er.1))).setCell (p:=⟨w5.heap.size+1,1,none⟩) (.inl rfl) (.int .i64 (er.2))) (by omega))
  obtain ⟨w7,hw2⟩:∃x,x=(w6.setCell ⟨w5.heap.size+1,0,none⟩ (.int .i64 (er.1))).setCell ⟨w5.heap.size+1,1,none⟩ (.int .i64 (er.2)):=⟨_,rfl⟩
  rw [←hw2] at E9 Fa JC
  try dsimp only [Act.put]
  rw [←hw2]
  have K7:=ah ((K4.out.trans qw.out).trans Fa.out)
  clear hw2 q0 q1 vW wS
  obtain ⟨q0,q1,vW,wS⟩:=E9.out.cells
  by_cases he:er.1=0
  ·have y1:(er.1 != 0)=false:=by simpa using he
   go_wp2_with fail
   go_ret
   exact ⟨rfl,K7.out⟩
  ·have y1:(er.1 != 0)=true:=by simpa using he
   go_wp2_with fail
   go_ret
   exact ⟨rfl,K7.out⟩
 | ok ob =>
 cases ob with
 | none =>
  have HU:=ah hu
  clear hu
  go_upto_region 9 with (first
   | (go_at_call 7;(refine (HL.out (t) _ (HT.out) K4.out).mono ?_);intro e w5 h_;obtain ⟨k_,h_⟩:=h_;rw [HU.out] at h_;unfold IZ at h_;obtain rfl:=h_;have qw:=ah k_;clear k_)
   | (refine jh rfl _ _ rfl w5.heap.size rfl nilA dW rfl _ ((Below.heap_alloc _ _ _ (by simp)).trans (ay w5 _)) rfl ?_;intro w6 xX eU;have S2:=ah xX;have HJ2:=ah eU;have DJ:=ah (Fl.kept (X:=(· = w5.heap.size)) (dK (by simp):Fl (w5.heap.size+1) 0 0 _) eU (by omega));obtain ⟨q0,q1,vW,wS⟩:=DJ.out.cells;clear xX eU))
  have E9:=ah (DJ.out.set (0) (0))
  have hz2:w5.heap.size+1<w6.heap.size:=DJ.out.lt
  have Fa:Hid (Kept aF w5 ((w6.setCell ⟨w5.heap.size+1,0,none⟩ (.int .i64 (0))).setCell ⟨w5.heap.size+1,1,none⟩ (.int .i64 (0)))):=(((((Kept.refl aF w5).alloc _).alloc _).step HJ2.out (fun y hy=>.inr (by omega))).step (((Kept.refl (· = w5.heap.size+1) _).setCell (p:=⟨w5.heap.size+1,0,none⟩) (.inl rfl) _).setCell (p:=⟨w5.heap.size+1,1,none⟩) (.inl rfl) _) (fun y hy=>.inr (by omega)))
  have JC:=ah (S2.out.kept (((Kept.refl (· = w5.heap.size+1) w6).setCell (p:=⟨w5.heap.size+1,0,none⟩) (.inl rfl) (.int .i64 (0))).setCell (p:=⟨w5.heap.size+1,1,none⟩) (.inl rfl) (.int .i64 (0))) (by omega))
  obtain ⟨w7,hw2⟩:∃x,x=(w6.setCell ⟨w5.heap.size+1,0,none⟩ (.int .i64 (0))).setCell ⟨w5.heap.size+1,1,none⟩ (.int .i64 (0)):=⟨_,rfl⟩
  rw [←hw2] at E9 Fa JC
  try dsimp only [Act.put]
  rw [←hw2]
  have K7:=ah ((K4.out.trans qw.out).trans Fa.out)
  clear hw2 q0 q1 vW wS
  obtain ⟨q0,q1,vW,wS⟩:=E9.out.cells
  go_wp2_with fail
  go_ret
  exact ⟨rfl,K7.out⟩
 | some b =>
 have HU:=ah hu
 obtain ⟨hb1,hb2,hb3⟩:=Uz hu
 have HB1:=ah hb1;have HB2:=ah hb2;have HB3:=ah hb3
 clear hu hb1 hb2 hb3
 go_upto_region 9 with (first
  | (go_at_call 7;(refine (HL.out (t) _ (HT.out) K4.out).mono ?_);intro e w5 h_;obtain ⟨k_,h_⟩:=h_;rw [HU.out] at h_;unfold IZ at h_;obtain ⟨ab,SS,rfl,E8,A8,Ba⟩:=h_;have HSZ:=ah E8;have JB:=ah A8;have wu:=ah Ba;clear E8 A8 Ba;have qw:=ah k_;clear k_)
  | (refine jh rfl _ _ rfl w5.heap.size rfl ab b rfl _ ((Below.heap_alloc _ _ _ (by simp)).trans (ay w5 _)) rfl ?_;intro w6 xX eU;have S2:=ah xX;have HJ2:=ah eU;have DJ:=ah (Fl.kept (X:=(· = w5.heap.size)) (dK (by simp):Fl (w5.heap.size+1) 0 0 _) eU (by omega));obtain ⟨q0,q1,vW,wS⟩:=DJ.out.cells;clear xX eU))
 have E9:=ah (DJ.out.set (0) (0))
 have hz2:w5.heap.size+1<w6.heap.size:=DJ.out.lt
 have Fa:Hid (Kept aF w5 ((w6.setCell ⟨w5.heap.size+1,0,none⟩ (.int .i64 (0))).setCell ⟨w5.heap.size+1,1,none⟩ (.int .i64 (0)))):=(((((Kept.refl aF w5).alloc _).alloc _).step HJ2.out (fun y hy=>.inr (by omega))).step (((Kept.refl (· = w5.heap.size+1) _).setCell (p:=⟨w5.heap.size+1,0,none⟩) (.inl rfl) _).setCell (p:=⟨w5.heap.size+1,1,none⟩) (.inl rfl) _) (fun y hy=>.inr (by omega)))
 have JC:=ah (S2.out.kept (((Kept.refl (· = w5.heap.size+1) w6).setCell (p:=⟨w5.heap.size+1,0,none⟩) (.inl rfl) (.int .i64 (0))).setCell (p:=⟨w5.heap.size+1,1,none⟩) (.inl rfl) (.int .i64 (0))) (by omega))
 obtain ⟨w7,hw2⟩:∃x,x=(w6.setCell ⟨w5.heap.size+1,0,none⟩ (.int .i64 (0))).setCell ⟨w5.heap.size+1,1,none⟩ (.int .i64 (0)):=⟨_,rfl⟩
 rw [←hw2] at E9 Fa JC
 try dsimp only [Act.put]
 rw [←hw2]
 have K7:=ah ((K4.out.trans qw.out).trans Fa.out)
 clear hw2 q0 q1 vW wS
 obtain ⟨q0,q1,vW,wS⟩:=E9.out.cells
 have OB:Hid (∀wy,Kept aF w7 wy→lT wy (· < wy.heap.size) ab b):=by
  intro wy hk
  have k2:=Fa.out.trans hk
  exact JB.out.ok.to k2 (fun q hq=>⟨(wu.out q hq).2,fun h=>h⟩) (fun q hq=>Nat.lt_of_lt_of_le (wu.out q hq).2 k2.size)
 have OS0:Hid (∀wy,Kept aF w7 wy→lT wy (fun q=>q<w7.heap.size∧¬q=w5.heap.size+1) ab b):=by
  intro wy hk
  have k2:=Fa.out.trans hk
  exact JB.out.ok.to k2 (fun q hq=>⟨(wu.out q hq).2,fun h=>h⟩) (fun q hq=>⟨Nat.lt_of_lt_of_le (wu.out q hq).2 Fa.out.size,by have:=(wu.out q hq).2;omega⟩)
 have HW:Hid (∀wy,Kept aF w7 wy→Calls Tryz.prog 10 #[bV ab b] wy (SQ 0 wy)):=fun wy hk=>by
  have h:=NQ b _ (· < wy.heap.size) wy ⟨ab,rfl,HSZ.out,OB.out wy hk⟩ (Safe.lt (Nat.le_refl _))
  rw [HB1.out] at h;exact h
 have HP:Hid (∀wy,Kept aF w7 wy→Calls Tryz.prog 6 #[bV ab b] wy (JW b wy)):=fun wy hk=>Le b ab wy HSZ.out (OB.out wy hk) ⟨HB3.out.target,HB3.out.value,JB.out.pc,JB.out.lc⟩ (HG.out.next (K7.out.trans hk))
 have HE:=ah (Xw HB1.out)
 have LT:Hid ((fD b).2=0→mZ ⟨(fD b).1.toArray⟩=.ok (some b)):=fun h=>by have:=EX h HB3.out;rw [HB2.out] at this;exact this
 have HPS:=ah (Gx b)
 clear JB wu HU HT HB1 HB2 HB3 HG
 obtain ⟨FN,MI⟩:∃x,x=w5.heap.size+1:=⟨_,rfl⟩
 obtain ⟨MN,Qb⟩:∃x,x=w5.heap.size:=⟨_,rfl⟩
 have hFM:Hid (FN=MN+1):=by unfold Hid;omega
 have OS:Hid (∀wy,Kept aF w7 wy→lT wy (fun q=>q<w7.heap.size∧¬q=FN) ab b):=by rw [MI];exact OS0
 have OF:Hid True:=trivial
 clear OS0
 rw [←MI] at E9 q0 q1 vW wS
 rw [←Qb] at JC
 rw [←MI,←Qb]
 have hwf:Hid (w.heap.size≤FN):=by have h1:=K4.out.size;have h2:=qw.out.size;unfold Hid;omega
 clear MI Qb hz2
 have KR:=ah (Kept.refl aF w7)
 go_upto_region 13 with (first
  | (refine nC rfl _ rfl MN 0 rfl ab b JC.out.hc0 ?_)
  | (go_at_call 10;(refine (HW.out _ KR.out).mono ?_);rintro e w8 ⟨rfl,k_⟩;have KM:=ah k_;clear k_))
 clear HW KR q0 q1 vW wS
 have SM:=ah (JC.out.kept KM.out (fun h=>h));have FM:=ah (E9.out.kept KM.out (fun h=>h))
 clear JC E9 DJ S2
 go_upto_region 14 with (first
  | (refine nC rfl _ rfl MN 0 rfl ab b SM.out.hc0 ?_)
  | (go_at_call 6;(refine (HP.out _ KM.out).mono ?_);rintro e w9 ⟨rfl,k_⟩;have KM2:=ah (KM.out.trans k_);have SM2:=ah (SM.out.kept k_ (fun h=>h));have FM2:=ah (FM.out.kept k_ (fun h=>h));clear k_))
 clear SM FM HP KM
 have K9:=ah (K7.out.trans KM2.out)
 by_cases h0:(fD b).2=0
 rotate_left
 ·have y0:((fD b).2 != 0)=true:=by simpa using h0
  by_cases h4:(fD b).2=4
  ·have y4:((fD b).2==4)=true:=by simpa using h4
   clear h0 h4
   go_wp2_with fail
   go_ret
   exact ⟨rfl,K9.out⟩
  ·have h2:(fD b).2=2:=by have:=HE.out;omega
   have y4:((fD b).2==4)=false:=by simpa using h4
   have y2:((fD b).2==2)=true:=by simpa using h2
   clear h0 h4 h2
   go_wp2_with fail
   go_ret
   exact ⟨rfl,K9.out⟩
 have y0:((fD b).2 != 0)=false:=by simp [h0]
 have LB:=ah (LT.out h0)
 clear h0 LT HE
 obtain ⟨r0,r1,Sr,Sv⟩:=FM2.out.cells
 go_upto_region 16 with fail
 go_upto_region 17 with (first
  | (go_at_call 7;(refine (HL.out ⟨(fD b).1.toArray⟩ _ HPS.out K9.out).mono ?_);intro e w10 h_;obtain ⟨k_,h_⟩:=h_;rw [LB.out] at h_;unfold IZ at h_;obtain ⟨ac,SS,rfl,E8,A8,Ba⟩:=h_;have JB:=ah A8.ok;have wu:=ah Ba;have HKA:=ah k_;clear E8 A8 Ba k_ r0 r1 Sr Sv;have FMA:=ah (FM2.out.kept HKA.out (fun h=>h));obtain ⟨r0,r1,Sr,Sv⟩:=FMA.out.cells)
  | (refine jh rfl _ _ rfl w10.heap.size rfl ac b rfl _ (ay w10 _) rfl ?_;intro FT xX eU;have SC:=ah xX;have kA_:Kept aF w10 _:=(Kept.refl aF w10).alloc (.cells (bZ nilA dW).toArray 30);have KC:Hid (Kept aF w10 FT):=kA_.step eU (fun y hy=>.inr (by omega));clear xX eU kA_ r0 r1 Sr Sv;have FMB:=ah (FMA.out.kept KC.out (fun h=>h));obtain ⟨r0,r1,Sr,Sv⟩:=FMB.out.cells))
 have FMC:=ah (FMB.out.set 0 0)
 have kS:Kept (· = FN) FT ((FT.setCell ⟨FN,0,none⟩ (.int .i64 0)).setCell ⟨FN,1,none⟩ (.int .i64 0)):=((Kept.refl (· = FN) FT).setCell (p:=⟨FN,0,none⟩) (.inl rfl) _).setCell (p:=⟨FN,1,none⟩) (.inl rfl) _
 have hlt:FN<w10.heap.size:=FMA.out.lt
 have SB3:=ah (((SM2.out.kept HKA.out (fun h=>h)).kept KC.out (fun h=>h)).kept kS (by have:=hFM.out;omega))
 have SC3:=ah (SC.out.kept kS (by omega))
 have hnw:=hwf
 have vH:Hid (Kept aF w ((FT.setCell ⟨FN,0,none⟩ (.int .i64 0)).setCell ⟨FN,1,none⟩ (.int .i64 0))):=((K9.out.trans HKA.out).trans KC.out).step kS (fun y hy=>.inr (by have:=hnw.out;omega))
 have OC:Hid (∀wy,Kept aF ((FT.setCell ⟨FN,0,none⟩ (.int .i64 0)).setCell ⟨FN,1,none⟩ (.int .i64 0)) wy→lT wy (· < wy.heap.size) ab b∧lT wy (· < wy.heap.size) ac b):=by
  intro wy hk
  have kO:=((KM2.out.trans HKA.out).trans KC.out)
  have hb:=OF.out
  refine ⟨((OS.out _ kO).to kS (fun q hq=>⟨Nat.lt_of_lt_of_le hq.1 kO.size,hq.2⟩) (fun _ h=>h)).to hk (fun q hq=>⟨Nat.lt_of_lt_of_le hq.1 (Nat.le_trans kO.size kS.size),fun h=>h⟩) (fun q hq=>Nat.lt_of_lt_of_le hq.1 (Nat.le_trans (Nat.le_trans kO.size kS.size) hk.size)),?_⟩
  have k2:Kept (· = FN) w10 ((FT.setCell ⟨FN,0,none⟩ (.int .i64 0)).setCell ⟨FN,1,none⟩ (.int .i64 0)):=(KC.out.more (fun _ h=>h.elim)).trans kS
  have h3:=JB.out.to k2 (fun q hq=>⟨(wu.out q hq).2,by have h4:=(wu.out q hq).1;have h5:=FM2.out.lt;omega⟩) (fun _ h=>h)
  exact h3.to hk (fun q hq=>⟨Nat.lt_of_lt_of_le (wu.out q hq).2 k2.size,fun h=>h⟩) (fun q hq=>Nat.lt_of_lt_of_le (wu.out q hq).2 (Nat.le_trans k2.size hk.size))
 obtain ⟨w12,OX⟩:∃x,x=(FT.setCell ⟨FN,0,none⟩ (.int .i64 0)).setCell ⟨FN,1,none⟩ (.int .i64 0):=⟨_,rfl⟩
 rw [←OX] at FMC SB3 SC3 vH OC
 try dsimp only [Act.put]
 rw [←OX]
 clear OX r0 r1 Sr Sv
 obtain ⟨r0,r1,Sr,Sv⟩:=FMC.out.cells
 have HSA:Hid (Calls Tryz.prog 8 #[bV ab b,bV ac b] w12 (nY true w12)):=L8 b ab ac w12 HSZ.out (OC.out w12 (Kept.refl _ _)).1 (OC.out w12 (Kept.refl _ _)).2
 go_wp2_with (first
  | (refine Aw rfl _ rfl MN 0 rfl ab b SB3.out.hc0 ?_)
  | (refine Aw rfl _ rfl w10.heap.size 0 rfl ac b SC3.out.hc0 ?_)
  | (go_at_call 8;(refine HSA.out.mono ?_);rintro e w13 ⟨rfl,k_⟩;have K13:=ah (vH.out.trans k_);clear k_))
 go_ret
 exact ⟨rfl,K13.out⟩
end Go.Proofs.YtefjbnhpjdhjmaaGreatDoor
