/-  -/
import Derived.Test.YtefjbnhpjdhjmaaGreatDoorBarS
import Derived.Test.YtefjbnhpjdhjmaaGreatDoorSamS
import Derived.Test.YtefjbnhpjdhjmaaGreatDoorTs21
import Derived.Test.YtefjbnhpjdhjmaaGreatDoorPs31
import Derived.Test.YtefjbnhpjdhjmaaGreatDoorPr3
import Derived.Test.YtefjbnhpjdhjmaaGreatDoorTs15
import Derived.Deep.RegionWith
namespace Go.Proofs.YtefjbnhpjdhjmaaGreatDoor
set_option linter.all false
open Go.RowKit
set_option maxRecDepth 100000
set_option maxHeartbeats 4000000
theorem G9 {P:Program} {Q:Exit→Act→World→Prop} {J:(Nat→Bool)→(Nat→Value)→World→Prop} {X:Nat→Prop} {l:Nat→Bool} {i:Nat} {o:Oper} {x:Act} {w:World} {f:FuncId} {args:Array Value} {R:Nat→Value→World→Prop} (hr:(execOp x.eval o).run P w=.ok (.enter f args) w)
  (hc:Calls P f args w fun e w'=>∃v,e=.returned v∧R i v w'∧Kept X w w'∧∀l',(∀j,l' j=true↔j=i∨l j=true)→J l' (fun t=>(x.put o.dst v).tmps.getD t undef) w') :
  o.wp P x w (fun a' w'=>∃v,a'=x.put o.dst v∧(∀d,o.dst=some d→R i v w')∧Kept X w w'∧∀l',(∀j,l' j=true↔j=i∨l j=true)→J l' (fun t=>(x.put o.dst v).tmps.getD t undef) w') Q:=by
 unfold Oper.wp
 rw [hr]
 refine Calls.mono hc ?_
 rintro e w' ⟨v,rfl,hs,hk,hj⟩
 exact ⟨v,rfl,fun _ _=>hs,hk,hj⟩
def Jd (w:World):Prop:=∀(x:aj) wy,x.size≤1000000000→Kept aC w wy→Calls Tryz.prog 7 #[.string x] wy (Fe x wy)
theorem Jd.of {w:World} (hm:uN w) (hr:mg w):Jd w:=fun x _ hx hk=>CP x _ hx (hm.kept hk (fun h=>h)) (uO hr hk)
def wK:aN:=⟨⟨#[76]⟩,3,.mk 3 E0 0 ⟨#[88]⟩ [],.mk 8 E0 0 E0 [.mk 1 ⟨#[97]⟩ 0 E0 [],.mk 2 E0 2 E0 []],rW,E0,E0,[],[],E0,⟨#[77]⟩,E0⟩
theorem Gm:fE wK=([76,32,88,32,61,32,39,97,39,32,38,32,50,32,58,83,40,77,41],0):=by
 have e2:Lib.decDigits 2=[50]:=by rw [Lib.decDigits,dif_pos (by decide)];rfl
 have hw:lC wK=0:=by decide
 have hl:lineS wK=[76,32,88,32,61,32,39,97,39,32,38,32,50,32,58,83,40,77,41]:=by
  have ev:aP (.mk 8 E0 0 E0 [.mk 1 ⟨#[97]⟩ 0 E0 [],.mk 2 E0 2 E0 []]) 1=[39,97,39,32,38,32,50]:=by
   have e3:aP (.mk 2 E0 2 E0 []) 2=[50]:=by rw [aP];exact e2
   rw [aP]
   show wZ 1 [32,38,32] _=_
   rw [wZ,oV,e3];rfl
  unfold lineS jI
  show [76]++((32::(aP (.mk 3 E0 0 ⟨#[88]⟩ []) 1++([32,61,32]++aP (.mk 8 E0 0 E0 [.mk 1 ⟨#[97]⟩ 0 E0 [],.mk 2 E0 2 E0 []]) 1)))++qW wK)=_
  rw [ev];rfl
 unfold fE
 rw [if_neg (by rw [hw];decide),if_neg (by unfold eG;decide),hl,if_neg (by decide),if_neg (by decide)]
theorem TS:kP ⟨#[76,32,88,32,61,32,39,97,39,32,38,32,50,32,58,83,40,77,41]⟩=.ok (some wK):=by
 have h:=LU (s:=wK) (by rw [Gm]) ⟨by unfold vS wK;decide,by unfold vS wK;decide⟩
 rw [Gm] at h
 exact h
theorem Qc (w:World) (hL:Jd w):Calls Tryz.prog 5 #[] w (mY true w):=by
 have HL:=ah hL;have K0:=ah (Kept.refl aC w)
 clear hL
 go_enter Tryz.func5, Tryz.ntmps5
 go_upto_region 2 with (first
  | (go_at_call 7;(refine (HL.out (⟨#[76,32,88,32,61,32,39,97,39,32,38,32,50,32,58,83,40,77,41]⟩) _ (by decide) K0.out).mono ?_);intro e w3 h_;obtain ⟨k_,h_⟩:=h_;rw [TS] at h_;unfold zN at h_;obtain ⟨ab,SS,rfl,Si,Sj,wY⟩:=h_;clear Si Sj wY;have iG:=ah k_;clear k_)
  | (refine jw rfl _ _ rfl w3.heap.size rfl ab wK rfl _ ((Below.heap_alloc _ _ _ (by simp)).trans (ay w3 _)) rfl ?_;intro w4 hB_ fJ;have S1:=ah hB_;have HJ1:=ah fJ;have OI:=ah (Fl.kept (X:=(· = w3.heap.size)) (dO (by simp):Fl (w3.heap.size+1) 0 0 _) fJ (by omega));obtain ⟨q0,q1,qg,qF⟩:=OI.out.cells;clear hB_ fJ))
 have FG1:=ah (OI.out.set (0) (0))
 have hz1:w3.heap.size+1<w4.heap.size:=OI.out.lt
 have KL1:Hid (Kept aC w3 ((w4.setCell ⟨w3.heap.size+1,0,none⟩ (.int .i64 (0))).setCell ⟨w3.heap.size+1,1,none⟩ (.int .i64 (0)))):=(((((Kept.refl aC w3).alloc _).alloc _).step HJ1.out (fun y hy=>.inr (by omega))).step (((Kept.refl (· = w3.heap.size+1) _).setCell (p:=⟨w3.heap.size+1,0,none⟩) (.inl rfl) _).setCell (p:=⟨w3.heap.size+1,1,none⟩) (.inl rfl) _) (fun y hy=>.inr (by omega)))
 have SG1:=ah (S1.out.kept (((Kept.refl (· = w3.heap.size+1) w4).setCell (p:=⟨w3.heap.size+1,0,none⟩) (.inl rfl) (.int .i64 (0))).setCell (p:=⟨w3.heap.size+1,1,none⟩) (.inl rfl) (.int .i64 (0))) (by omega))
 obtain ⟨w5,hw1⟩:∃x,x=(w4.setCell ⟨w3.heap.size+1,0,none⟩ (.int .i64 (0))).setCell ⟨w3.heap.size+1,1,none⟩ (.int .i64 (0)):=⟨_,rfl⟩
 rw [←hw1] at FG1 KL1 SG1
 try dsimp only [Act.put]
 rw [←hw1]
 have K5:=ah ((K0.out.trans iG.out).trans KL1.out)
 clear hw1 q0 q1 qg qF
 obtain ⟨q0,q1,qg,qF⟩:=FG1.out.cells
 obtain ⟨c0,c1,-,-,-,-,-,c7,-,-,-,-,-,-,-,-,-,-,-,-,-,-,dX,-⟩:=SG1.out.cells
 have b0:w5.cell? ⟨w3.heap.size,0,none⟩=some (.string ⟨#[76]⟩):=c0
 have b1:w5.cell? ⟨w3.heap.size,1,none⟩=some (.int .i64 3):=c1
 have b7:w5.cell? ⟨w3.heap.size,7,none⟩=some (.int .i64 8):=c7
 have b22:w5.cell? ⟨w3.heap.size,22,none⟩=some (.string ⟨#[77]⟩):=dX
 clear c0 c1 c7 dX
 go_wp2_with fail
 go_ret
 exact ⟨rfl,K5.out⟩
end Go.Proofs.YtefjbnhpjdhjmaaGreatDoor
