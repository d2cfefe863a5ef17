/-  -/
import Derived.Test.YtefjbnhpjdhjmaaGreatDoorTs21
import Derived.Test.YtefjbnhpjdhjmaaGreatDoorTs12
import Derived.Test.YtefjbnhpjdhjmaaGreatDoorPs25
import Derived.Deep.RegionWith
namespace Go.Proofs.YtefjbnhpjdhjmaaGreatDoor
set_option linter.all false
open Go.RowKit
set_option maxRecDepth 100000
set_option maxHeartbeats 16000000
def Ui (N:Nat) (w:World) (q:Nat):Prop:=q<w.heap.size∧q≠N+1∧q≠N+2
structure pz (N:Nat) (a:ig) (s:aN) (w0:World) (x:aN) (w:World):Prop where
 arg:oh N a s w0 w
 z:dF (N+1) nilA dU w
 out:∃b,dF (N+2) b x w∧lH w (Ui N w) b x
 en:N=w0.heap.size
section
variable {N:Nat} {a:ig} {s x:aN} {w0 w w':World}
theorem pz.next (h:pz N a s w0 x w) (k:Kept aC w w'):pz N a s w0 x w':=by
 obtain ⟨b,h1,h2⟩:=h.out
 exact ⟨h.arg.next k,h.z.kept k (fun h=>h),⟨b,h1.kept k (fun h=>h),h2.to k (fun q hq=>⟨hq.1,fun h=>h⟩) (fun q hq=>⟨Nat.lt_of_lt_of_le hq.1 k.size,hq.2⟩)⟩,h.en⟩
theorem pz.put (h:pz N a s w0 x w) (k:Kept (· = N+2) w w') {b':ig} {x':aN} (hB:dF (N+2) b' x' w') (hO:lH w (Ui N w) b' x'):pz N a s w0 x' w':=by
 have en:=h.en;have hs:=h.arg.keep.size
 exact ⟨⟨h.arg.box.kept k (by omega),h.arg.ok.to k (fun q hq=>⟨Nat.lt_of_lt_of_le hq hs,by have:q<w0.heap.size:=hq;omega⟩) (fun _ h=>h),h.arg.keep.step k (fun y hy=>.inr (by omega))⟩,h.z.kept k (by omega),
  ⟨b',hB,hO.to k (fun q hq=>⟨hq.1,hq.2.2⟩) (fun q hq=>⟨Nat.lt_of_lt_of_le hq.1 k.size,hq.2⟩)⟩,en⟩
theorem zo (h:pz N a s w0 x w):N+2<w.heap.size:=by obtain ⟨b,h1,_⟩:=h.out;exact h1.lt
structure wO (N:Nat) (ks:List aA) (ka:Option Addr) (w:World):Prop where
 pats:aI w (Ui N w) ka ks
theorem wO.mk' {S:Nat→Prop} {ks:List aA} {ka:Option Addr} (h:aI w S ka ks) (hS:∀b,S b→N+2<b∧b<w.heap.size):wO N ks ka w :=
 ⟨h.to (Kept.refl aC w) (fun b hb=>⟨(hS b hb).2,fun h=>h⟩) (fun b hb=>⟨(hS b hb).2,by have:=hS b hb;omega,by have:=hS b hb;omega⟩)⟩
theorem wO.next {ks:List aA} {ka:Option Addr} (h:wO N ks ka w) (k:Kept aC w w'):wO N ks ka w' :=
 ⟨h.pats.to k (fun b hb=>⟨hb.1,fun h=>h⟩) (fun b hb=>⟨Nat.lt_of_lt_of_le hb.1 k.size,hb.2⟩)⟩
theorem wO.put {ks:List aA} {ka:Option Addr} (h:wO N ks ka w) (k:Kept (· = N+2) w w'):wO N ks ka w' :=
 ⟨h.pats.to k (fun b hb=>⟨hb.1,hb.2.2⟩) (fun b hb=>⟨Nat.lt_of_lt_of_le hb.1 k.size,hb.2⟩)⟩
theorem jW {i:Nat} {v:Value} {M:Nat}:Kept (· = M) w (w.setCell ⟨M,i,none⟩ v):=(Kept.refl (· = M) w).setCell (p:=⟨M,i,none⟩) (.inl rfl) v
theorem pz.target (h:pz N a s w0 x w) {p:aA} {ka:Option Addr} {kc:Nat} (hr:wO N p.kids ka w):pz N a s w0 {x with target:=p} (((((w.setCell ⟨N+2,2,none⟩ (.int .i64 p.kind)).setCell ⟨N+2,3,none⟩ (.string p.text)).setCell ⟨N+2,4,none⟩ (.int .i64 p.n)).setCell ⟨N+2,5,none⟩ (.string p.name)).setCell ⟨N+2,6,none⟩ (.slice ka p.kids.length kc)):=by
 obtain ⟨b,hb,ho⟩:=h.out
 refine h.put ((((jW.trans jW).trans jW).trans jW).trans jW) (b':={b with ta:=ka,tc:=kc}) ?_ ⟨hr.pats,ho.value,ho.pat,ho.params,ho.locals⟩
 unfold dF at hb⊢;rw [aK (aK (aK (aK (aK hb _) _) _) _) _];rfl
theorem pz.value (h:pz N a s w0 x w) {p:aA} {ka:Option Addr} {kc:Nat} (hr:wO N p.kids ka w):pz N a s w0 {x with value:=p} (((((w.setCell ⟨N+2,7,none⟩ (.int .i64 p.kind)).setCell ⟨N+2,8,none⟩ (.string p.text)).setCell ⟨N+2,9,none⟩ (.int .i64 p.n)).setCell ⟨N+2,10,none⟩ (.string p.name)).setCell ⟨N+2,11,none⟩ (.slice ka p.kids.length kc)):=by
 obtain ⟨b,hb,ho⟩:=h.out
 refine h.put ((((jW.trans jW).trans jW).trans jW).trans jW) (b':={b with va:=ka,vc:=kc}) ?_ ⟨ho.target,hr.pats,ho.pat,ho.params,ho.locals⟩
 unfold dF at hb⊢;rw [aK (aK (aK (aK (aK hb _) _) _) _) _];rfl
theorem pz.pat (h:pz N a s w0 x w) {p:aA} {ka:Option Addr} {kc:Nat} (hr:wO N p.kids ka w):pz N a s w0 {x with pat:=p} (((((w.setCell ⟨N+2,12,none⟩ (.int .i64 p.kind)).setCell ⟨N+2,13,none⟩ (.string p.text)).setCell ⟨N+2,14,none⟩ (.int .i64 p.n)).setCell ⟨N+2,15,none⟩ (.string p.name)).setCell ⟨N+2,16,none⟩ (.slice ka p.kids.length kc)):=by
 obtain ⟨b,hb,ho⟩:=h.out
 refine h.put ((((jW.trans jW).trans jW).trans jW).trans jW) (b':={b with pa:=ka,pc:=kc}) ?_ ⟨ho.target,ho.value,hr.pats,ho.params,ho.locals⟩
 unfold dF at hb⊢;rw [aK (aK (aK (aK (aK hb _) _) _) _) _];rfl
theorem pz.name (h:pz N a s w0 x w) (n:aj):pz N a s w0 {x with name:=n} (w.setCell ⟨N+2,17,none⟩ (.string n)):=by
 obtain ⟨b,hb,ho⟩:=h.out
 refine h.put jW (b':=b) ?_ ⟨ho.target,ho.value,ho.pat,ho.params,ho.locals⟩
 unfold dF at hb⊢;rw [aK hb _];rfl
theorem pz.define (h:pz N a s w0 x w):pz N a s w0 {x with name:=s.name,entry:=s.entry,params:=s.params,locals:=s.locals} ((((w.setCell ⟨N+2,17,none⟩ (.string s.name)).setCell ⟨N+2,18,none⟩ (.string s.entry)).setCell ⟨N+2,19,none⟩ (.slice a.ma s.params.length a.mc)).setCell ⟨N+2,20,none⟩ (.slice a.la s.locals.length a.lc)):=by
 obtain ⟨b,hb,ho⟩:=h.out
 have en:=h.en;have hs:=h.arg.keep.size
 have ha:lH w (Ui N w) a s:=h.arg.ok.to (Kept.refl aC w) (fun q hq=>⟨Nat.lt_of_lt_of_le hq hs,fun h=>h⟩) (fun q hq=>⟨Nat.lt_of_lt_of_le hq hs,by have:q<w0.heap.size:=hq;omega,by have:q<w0.heap.size:=hq;omega⟩)
 refine h.put (((jW.trans jW).trans jW).trans jW) (b':={b with ma:=a.ma,mc:=a.mc,la:=a.la,lc:=a.lc}) ?_ ⟨ho.target,ho.value,ho.pat,ha.params,ha.locals⟩
 unfold dF at hb⊢;rw [aK (aK (aK (aK hb _) _) _) _];rfl
end
def sB (s:aN):aN:={dU with label:=s.label,kind:=s.kind,always:=s.always,yes:=s.yes,aZ:=s.aZ}
def vM (s:aN):aN:={dV s with pat:=rW}
def Zv (s:aN) (w:World) (e:Ending) (w':World):Prop:=Kept aC w w'∧∃a,e=.returned (bV a (dV s))∧lH w' (· < w'.heap.size) a (dV s)
theorem aak {N:Nat} {a:ig} {s:aN} {w0 w w':World} (h:pz N a s w0 (dV s) w) {b:ig} (hb:lH w (Ui N w) b (dV s)) (k:Kept (· = N+1) w w'):Kept aC w0 w'∧lH w' (· < w'.heap.size) b (dV s):=by
 have en:=h.en
 exact ⟨h.arg.keep.step k (fun y hy=>.inr (by omega)),hb.to k (fun q hq=>⟨hq.1,hq.2.1⟩) (fun q hq=>Nat.lt_of_lt_of_le hq.1 k.size)⟩
theorem Xv (s:aN) (a:ig) (w:World) (hz:nX s) (ho:lH w (· < w.heap.size) a s):Calls Tryz.prog 9 #[bV a s] w (Zv s w):=by
 have B1:=dF.new w a s
 have k1:Kept aC w _:=(Kept.refl aC w).alloc (.cells (aV a s).toArray 30)
 unfold aV at k1
 unfold bV
 generalize hw1:World.alloc w _=wA at B1 k1
 have B2:=dF.new wA nilA dU
 have k2:Kept aC wA _:=(Kept.refl aC wA).alloc (.cells (aV nilA dU).toArray 30)
 have es:wA.heap.size=w.heap.size+1:=by rw [←hw1];simp
 obtain ⟨wB,hwB⟩:∃x,x=wA.alloc (.cells (aV nilA dU).toArray 30):=⟨_,rfl⟩
 have B2':dF (w.heap.size+1) nilA dU wB:=by rw [hwB,←es];exact B2
 have k2':Kept aC wA wB:=by rw [hwB];exact k2
 have eB:wB.heap.size=w.heap.size+2:=by rw [hwB];simp [es]
 obtain ⟨N,hN⟩:∃x,x=w.heap.size:=⟨_,rfl⟩
 have HA:Hid (oh N a s w wB):=by rw [hN];exact ⟨B1.kept k2' (fun h=>h),ho.to (k1.trans k2') (Safe.lt (Nat.le_refl _)) (fun _ h=>h),k1.trans k2'⟩
 have HZ:Hid (dF (N+1) nilA dU wB):=by rw [hN];exact B2'
 have HW1:=ah hw1;have HWB:Hid (wA.alloc (.cells #[.string ⟨#[]⟩,.int .i64 0,.int .i64 0,.string ⟨#[]⟩,.int .i64 0,.string ⟨#[]⟩,.slice none 0 0,.int .i64 0,.string ⟨#[]⟩,.int .i64 0,.string ⟨#[]⟩,.slice none 0 0,.int .i64 0,.string ⟨#[]⟩,.int .i64 0,.string ⟨#[]⟩,.slice none 0 0,.string ⟨#[]⟩,.string ⟨#[]⟩,.slice none 0 0,.slice none 0 0,.string ⟨#[]⟩,.string ⟨#[]⟩,.string ⟨#[]⟩] 30)=wB):=hwB.symm
 have HES:=ah es;have HEB:=ah eB;have HN:=ah hN
 have Qm:Hid (∀wy x,pz N a s w x wy→Calls Tryz.prog 24 #[DF a s] wy (wQ s.target wy)):=fun wy x h=>Qn _ s.target _ _ wy (Nat.le_refl _) (h.arg.target hz) h.arg.safe
 have HVV:Hid (∀wy x,pz N a s w x wy→Calls Tryz.prog 24 #[DI a s] wy (wQ s.value wy)):=fun wy x h=>Qn _ s.value _ _ wy (Nat.le_refl _) (h.arg.value hz) h.arg.safe
 have Uj:Hid (∀wy x,pz N a s w x wy→Calls Tryz.prog 25 #[DJ a s] wy (lJ s.pat wy)):=fun wy x h=>Xw _ s.pat _ _ wy (Nat.le_refl _) (h.arg.pat hz) h.arg.safe
 unfold DF at Qm
 unfold DI at HVV
 unfold DJ at Uj
 clear hw1 hwB B1 k1 B2 k2 B2' k2' es eB hz ho hN
 go_enter Tryz.func9, Tryz.ntmps9
 go_upto_region 1 with fail
 rw [HW1.out,HWB.out,←HN.out]
 obtain ⟨c0,c1,c2,c3,c4,c5,c6,c7,c8,c9,c10,c11,c12,c13,c14,c15,c16,c17,c18,c19,c20,c21,dX,c23⟩:=HA.out.box.cells
 go_upto_region 2 with (refine jw rfl _ _ rfl wB.heap.size rfl nilA (sB s) rfl _ (ay wB _) rfl ?_;intro w1 hB1 hk1)
 have kA:Kept aC wB (wB.alloc (.cells (aV nilA dU).toArray 30)):=(Kept.refl _ _).alloc _
 have I1:Hid (pz N a s w (sB s) w1):=(by have hn:=HN.out;have he:=HEB.out;have hlt:=HZ.out.lt;have hlt2:=HA.out.box.lt;exact ⟨⟨(HA.out.box.kept kA (fun h=>h)).kept hk1 (by omega),(HA.out.next kA).ok.to hk1 (fun q hq=>⟨Nat.lt_of_lt_of_le hq (HA.out.next kA).keep.size,by have:q<w.heap.size:=hq;omega⟩) (fun _ h=>h),(HA.out.next kA).keep.step hk1 (fun y hy=>.inr (by omega))⟩,(HZ.out.kept kA (fun h=>h)).kept hk1 (by omega),⟨nilA,by rw [show N+2=wB.heap.size by omega];exact hB1,(Uk (s:=sB s) _ _ rfl rfl rfl rfl rfl).ok⟩,hn⟩)
 clear hB1 hk1 kA
 rw [show wB.heap.size=N+2 by have:=HEB.out;have:=HN.out;omega]
 clear c0 c1 c2 c3 c4 c5 c6 c7 c8 c9 c10 c11 c12 c13 c14 c15 c16 c17 c18 c19 c20 c21 dX c23
 have II:=I1
 clear HA HZ HW1 HWB HES HEB I1
 obtain ⟨-,c1,-,-,-,-,-,-,-,-,-,-,-,-,-,-,-,-,-,-,-,-,-,-⟩:=II.out.arg.box.cells
 try dsimp only [Act.put]
 go_upto_block 0 with fail
 go_cut [] (fun wx=>Hid (pz N a s w (vM s) wx))
 case first =>
  have kz:∀k:Int,s.kind≠k→(s.kind==k)=false:=fun k h=>by simpa using h
  have kt:∀k:Int,s.kind=k→(s.kind==k)=true:=fun k h=>by simpa using h
  by_cases hk:s.kind=2
  ·have z2:=kt 2 hk
   have fin:Hid ({sB s with value:=bG s.value}=vM s):=by unfold Hid sB vM dV dU st0;simp [hk]
   clear hk kz kt
   obtain ⟨-,-,-,-,-,-,-,c7,c8,c9,c10,c11,-,-,-,-,-,-,-,-,-,-,-,-⟩:=II.out.arg.box.cells;obtain ⟨ob,hob,-⟩:=II.out.out;obtain ⟨-,-,-,-,-,-,-,d7,d8,d9,d10,d11,-,-,-,-,-,-,-,-,-,-,-,-⟩:=hob.cells;have f7:=hob.free 7;have f8:=hob.free 8;have f9:=hob.free 9;have f10:=hob.free 10;have f11:=hob.free 11
   go_wp2_with (go_at_call 24;(with_reducible refine (HVV.out _ _ II.out).mono ?_);rintro e w2 ⟨_,rfl,⟨S_,gy,Xx,Xy,rfl,iL,fJ⟩,k_⟩;clear c7 c8 c9 c10 c11 d7 d8 d9 d10 d11 f7 f8 f9 f10 f11 hob ob;have QV:=ah (wO.mk' (N:=N) fJ (fun b hb=>⟨by have:=(gy b hb).1;have:=zo II.out;omega,(gy b hb).2⟩));replace II:=ah (II.out.next k_);clear fJ gy iL k_ S_;obtain ⟨-,-,-,-,-,-,-,c7,c8,c9,c10,c11,-,-,-,-,-,-,-,-,-,-,-,-⟩:=II.out.arg.box.cells;obtain ⟨ob,hob,-⟩:=II.out.out;obtain ⟨-,-,-,-,-,-,-,d7,d8,d9,d10,d11,-,-,-,-,-,-,-,-,-,-,-,-⟩:=hob.cells;have f7:=hob.free 7;have f8:=hob.free 8;have f9:=hob.free 9;have f10:=hob.free 10;have f11:=hob.free 11)
   go_meet
   rw [←fin.out]
   exact II.out.value QV.out
  by_cases hk:s.kind=4
  ·have z2:=kz 2 (by omega);have z4:=kt 4 hk
   have fin:Hid ({sB s with value:=bG s.value}=vM s):=by unfold Hid sB vM dV dU st0;simp [hk]
   clear hk kz kt
   obtain ⟨-,-,-,-,-,-,-,c7,c8,c9,c10,c11,-,-,-,-,-,-,-,-,-,-,-,-⟩:=II.out.arg.box.cells;obtain ⟨ob,hob,-⟩:=II.out.out;obtain ⟨-,-,-,-,-,-,-,d7,d8,d9,d10,d11,-,-,-,-,-,-,-,-,-,-,-,-⟩:=hob.cells;have f7:=hob.free 7;have f8:=hob.free 8;have f9:=hob.free 9;have f10:=hob.free 10;have f11:=hob.free 11
   go_wp2_with (go_at_call 24;(with_reducible refine (HVV.out _ _ II.out).mono ?_);rintro e w2 ⟨_,rfl,⟨S_,gy,Xx,Xy,rfl,iL,fJ⟩,k_⟩;clear c7 c8 c9 c10 c11 d7 d8 d9 d10 d11 f7 f8 f9 f10 f11 hob ob;have QV:=ah (wO.mk' (N:=N) fJ (fun b hb=>⟨by have:=(gy b hb).1;have:=zo II.out;omega,(gy b hb).2⟩));replace II:=ah (II.out.next k_);clear fJ gy iL k_ S_;obtain ⟨-,-,-,-,-,-,-,c7,c8,c9,c10,c11,-,-,-,-,-,-,-,-,-,-,-,-⟩:=II.out.arg.box.cells;obtain ⟨ob,hob,-⟩:=II.out.out;obtain ⟨-,-,-,-,-,-,-,d7,d8,d9,d10,d11,-,-,-,-,-,-,-,-,-,-,-,-⟩:=hob.cells;have f7:=hob.free 7;have f8:=hob.free 8;have f9:=hob.free 9;have f10:=hob.free 10;have f11:=hob.free 11)
   go_meet
   rw [←fin.out]
   exact II.out.value QV.out
  by_cases hk:s.kind=3
  ·have z2:=kz 2 (by omega);have z4:=kz 4 (by omega);have z3:=kt 3 hk
   have fin:Hid ({{sB s with target:=bG s.target} with value:=bG s.value}=vM s):=by unfold Hid sB vM dV dU st0;simp [hk]
   clear hk kz kt
   go_upto_region 8 with fail
   obtain ⟨-,-,c2,c3,c4,c5,c6,c7,c8,c9,c10,c11,-,-,-,-,-,-,-,-,-,-,-,-⟩:=II.out.arg.box.cells;obtain ⟨ob,hob,-⟩:=II.out.out;obtain ⟨-,-,d2,d3,d4,d5,d6,d7,d8,d9,d10,d11,-,-,-,-,-,-,-,-,-,-,-,-⟩:=hob.cells;have f2:=hob.free 2;have f3:=hob.free 3;have f4:=hob.free 4;have f5:=hob.free 5;have f6:=hob.free 6;have f7:=hob.free 7;have f8:=hob.free 8;have f9:=hob.free 9;have f10:=hob.free 10;have f11:=hob.free 11
   replace II:=ah (II.out.next ((Kept.refl aC _).drew))
   obtain ⟨-,-,c2,c3,c4,c5,c6,c7,c8,c9,c10,c11,-,-,-,-,-,-,-,-,-,-,-,-⟩:=II.out.arg.box.cells;obtain ⟨ob,hob,-⟩:=II.out.out;obtain ⟨-,-,d2,d3,d4,d5,d6,d7,d8,d9,d10,d11,-,-,-,-,-,-,-,-,-,-,-,-⟩:=hob.cells;have f2:=hob.free 2;have f3:=hob.free 3;have f4:=hob.free 4;have f5:=hob.free 5;have f6:=hob.free 6;have f7:=hob.free 7;have f8:=hob.free 8;have f9:=hob.free 9;have f10:=hob.free 10;have f11:=hob.free 11
   go_region_with (first
    | (go_at_call 24;(with_reducible refine (Qm.out _ _ II.out).mono ?_);rintro e w2 ⟨_,rfl,⟨S_,gy,aes,aeu,rfl,iL,fJ⟩,k_⟩;clear c2 c3 c4 c5 c6 c7 c8 c9 c10 c11 d2 d3 d4 d5 d6 d7 d8 d9 d10 d11 f2 f3 f4 f5 f6 f7 f8 f9 f10 f11 hob ob;have QT:=ah (wO.mk' (N:=N) fJ (fun b hb=>⟨by have:=(gy b hb).1;have:=zo II.out;omega,(gy b hb).2⟩));replace II:=ah (II.out.next k_);(try replace QV:=ah (QV.out.next k_));clear fJ gy iL k_ S_;obtain ⟨-,-,c2,c3,c4,c5,c6,c7,c8,c9,c10,c11,-,-,-,-,-,-,-,-,-,-,-,-⟩:=II.out.arg.box.cells;obtain ⟨ob,hob,-⟩:=II.out.out;obtain ⟨-,-,d2,d3,d4,d5,d6,d7,d8,d9,d10,d11,-,-,-,-,-,-,-,-,-,-,-,-⟩:=hob.cells;have f2:=hob.free 2;have f3:=hob.free 3;have f4:=hob.free 4;have f5:=hob.free 5;have f6:=hob.free 6;have f7:=hob.free 7;have f8:=hob.free 8;have f9:=hob.free 9;have f10:=hob.free 10;have f11:=hob.free 11)
    | (go_at_call 24;(with_reducible refine (HVV.out _ _ II.out).mono ?_);rintro e w2 ⟨_,rfl,⟨S_,gy,Xx,Xy,rfl,iL,fJ⟩,k_⟩;clear c2 c3 c4 c5 c6 c7 c8 c9 c10 c11 d2 d3 d4 d5 d6 d7 d8 d9 d10 d11 f2 f3 f4 f5 f6 f7 f8 f9 f10 f11 hob ob;have QV:=ah (wO.mk' (N:=N) fJ (fun b hb=>⟨by have:=(gy b hb).1;have:=zo II.out;omega,(gy b hb).2⟩));replace II:=ah (II.out.next k_);(try replace QT:=ah (QT.out.next k_));clear fJ gy iL k_ S_;obtain ⟨-,-,c2,c3,c4,c5,c6,c7,c8,c9,c10,c11,-,-,-,-,-,-,-,-,-,-,-,-⟩:=II.out.arg.box.cells;obtain ⟨ob,hob,-⟩:=II.out.out;obtain ⟨-,-,d2,d3,d4,d5,d6,d7,d8,d9,d10,d11,-,-,-,-,-,-,-,-,-,-,-,-⟩:=hob.cells;have f2:=hob.free 2;have f3:=hob.free 3;have f4:=hob.free 4;have f5:=hob.free 5;have f6:=hob.free 6;have f7:=hob.free 7;have f8:=hob.free 8;have f9:=hob.free 9;have f10:=hob.free 10;have f11:=hob.free 11))
   all_goals
    go_wp2_with fail
    go_meet
    rw [←fin.out]
    exact (II.out.target QT.out).value (QV.out.put ((((jW.trans jW).trans jW).trans jW).trans jW))
  by_cases hk:s.kind=5
  ·have z2:=kz 2 (by omega);have z4:=kz 4 (by omega);have z3:=kz 3 (by omega);have z5:=kt 5 hk
   have fin:Hid ({{sB s with target:=bG s.target} with value:=bG s.value}=vM s):=by unfold Hid sB vM dV dU st0;simp [hk]
   clear hk kz kt
   go_upto_region 8 with fail
   obtain ⟨-,-,c2,c3,c4,c5,c6,c7,c8,c9,c10,c11,-,-,-,-,-,-,-,-,-,-,-,-⟩:=II.out.arg.box.cells;obtain ⟨ob,hob,-⟩:=II.out.out;obtain ⟨-,-,d2,d3,d4,d5,d6,d7,d8,d9,d10,d11,-,-,-,-,-,-,-,-,-,-,-,-⟩:=hob.cells;have f2:=hob.free 2;have f3:=hob.free 3;have f4:=hob.free 4;have f5:=hob.free 5;have f6:=hob.free 6;have f7:=hob.free 7;have f8:=hob.free 8;have f9:=hob.free 9;have f10:=hob.free 10;have f11:=hob.free 11
   replace II:=ah (II.out.next ((Kept.refl aC _).drew))
   obtain ⟨-,-,c2,c3,c4,c5,c6,c7,c8,c9,c10,c11,-,-,-,-,-,-,-,-,-,-,-,-⟩:=II.out.arg.box.cells;obtain ⟨ob,hob,-⟩:=II.out.out;obtain ⟨-,-,d2,d3,d4,d5,d6,d7,d8,d9,d10,d11,-,-,-,-,-,-,-,-,-,-,-,-⟩:=hob.cells;have f2:=hob.free 2;have f3:=hob.free 3;have f4:=hob.free 4;have f5:=hob.free 5;have f6:=hob.free 6;have f7:=hob.free 7;have f8:=hob.free 8;have f9:=hob.free 9;have f10:=hob.free 10;have f11:=hob.free 11
   go_region_with (first
    | (go_at_call 24;(with_reducible refine (Qm.out _ _ II.out).mono ?_);rintro e w2 ⟨_,rfl,⟨S_,gy,aes,aeu,rfl,iL,fJ⟩,k_⟩;clear c2 c3 c4 c5 c6 c7 c8 c9 c10 c11 d2 d3 d4 d5 d6 d7 d8 d9 d10 d11 f2 f3 f4 f5 f6 f7 f8 f9 f10 f11 hob ob;have QT:=ah (wO.mk' (N:=N) fJ (fun b hb=>⟨by have:=(gy b hb).1;have:=zo II.out;omega,(gy b hb).2⟩));replace II:=ah (II.out.next k_);(try replace QV:=ah (QV.out.next k_));clear fJ gy iL k_ S_;obtain ⟨-,-,c2,c3,c4,c5,c6,c7,c8,c9,c10,c11,-,-,-,-,-,-,-,-,-,-,-,-⟩:=II.out.arg.box.cells;obtain ⟨ob,hob,-⟩:=II.out.out;obtain ⟨-,-,d2,d3,d4,d5,d6,d7,d8,d9,d10,d11,-,-,-,-,-,-,-,-,-,-,-,-⟩:=hob.cells;have f2:=hob.free 2;have f3:=hob.free 3;have f4:=hob.free 4;have f5:=hob.free 5;have f6:=hob.free 6;have f7:=hob.free 7;have f8:=hob.free 8;have f9:=hob.free 9;have f10:=hob.free 10;have f11:=hob.free 11)
    | (go_at_call 24;(with_reducible refine (HVV.out _ _ II.out).mono ?_);rintro e w2 ⟨_,rfl,⟨S_,gy,Xx,Xy,rfl,iL,fJ⟩,k_⟩;clear c2 c3 c4 c5 c6 c7 c8 c9 c10 c11 d2 d3 d4 d5 d6 d7 d8 d9 d10 d11 f2 f3 f4 f5 f6 f7 f8 f9 f10 f11 hob ob;have QV:=ah (wO.mk' (N:=N) fJ (fun b hb=>⟨by have:=(gy b hb).1;have:=zo II.out;omega,(gy b hb).2⟩));replace II:=ah (II.out.next k_);(try replace QT:=ah (QT.out.next k_));clear fJ gy iL k_ S_;obtain ⟨-,-,c2,c3,c4,c5,c6,c7,c8,c9,c10,c11,-,-,-,-,-,-,-,-,-,-,-,-⟩:=II.out.arg.box.cells;obtain ⟨ob,hob,-⟩:=II.out.out;obtain ⟨-,-,d2,d3,d4,d5,d6,d7,d8,d9,d10,d11,-,-,-,-,-,-,-,-,-,-,-,-⟩:=hob.cells;have f2:=hob.free 2;have f3:=hob.free 3;have f4:=hob.free 4;have f5:=hob.free 5;have f6:=hob.free 6;have f7:=hob.free 7;have f8:=hob.free 8;have f9:=hob.free 9;have f10:=hob.free 10;have f11:=hob.free 11))
   all_goals
    go_wp2_with fail
    go_meet
    rw [←fin.out]
    exact (II.out.target QT.out).value (QV.out.put ((((jW.trans jW).trans jW).trans jW).trans jW))
  by_cases hk:s.kind=6
  ·have z2:=kz 2 (by omega);have z4:=kz 4 (by omega);have z3:=kz 3 (by omega);have z5:=kz 5 (by omega);have z6:=kt 6 hk
   have fin:Hid ({sB s with name:=s.name}=vM s):=by unfold Hid sB vM dV dU st0;simp [hk]
   clear hk kz kt
   obtain ⟨-,-,-,-,-,-,-,-,-,-,-,-,-,-,-,-,-,c17,-,-,-,-,-,-⟩:=II.out.arg.box.cells;obtain ⟨ob,hob,-⟩:=II.out.out;obtain ⟨-,-,-,-,-,-,-,-,-,-,-,-,-,-,-,-,-,zq,-,-,-,-,-,-⟩:=hob.cells;have f17:=hob.free 17
   go_wp2_with fail
   go_meet
   rw [←fin.out]
   exact II.out.name s.name
  by_cases hk:s.kind=7
  ·have z2:=kz 2 (by omega);have z4:=kz 4 (by omega);have z3:=kz 3 (by omega);have z5:=kz 5 (by omega);have z6:=kz 6 (by omega);have z7:=kt 7 hk
   have fin:Hid ({sB s with name:=s.name,entry:=s.entry,params:=s.params,locals:=s.locals}=vM s):=by unfold Hid sB vM dV dU st0;simp [hk]
   clear hk kz kt
   go_upto_region 12 with fail
   obtain ⟨-,-,-,-,-,-,-,-,-,-,-,-,-,-,-,-,-,c17,c18,c19,c20,-,-,-⟩:=II.out.arg.box.cells;obtain ⟨ob,hob,-⟩:=II.out.out;obtain ⟨-,-,-,-,-,-,-,-,-,-,-,-,-,-,-,-,-,zq,Af,yC,yD,-,-,-⟩:=hob.cells;have f17:=hob.free 17;have f18:=hob.free 18;have f19:=hob.free 19;have f20:=hob.free 20
   replace II:=ah (II.out.next ((Kept.refl aC _).drew))
   obtain ⟨-,-,-,-,-,-,-,-,-,-,-,-,-,-,-,-,-,c17,c18,c19,c20,-,-,-⟩:=II.out.arg.box.cells;obtain ⟨ob,hob,-⟩:=II.out.out;obtain ⟨-,-,-,-,-,-,-,-,-,-,-,-,-,-,-,-,-,zq,Af,yC,yD,-,-,-⟩:=hob.cells;have f17:=hob.free 17;have f18:=hob.free 18;have f19:=hob.free 19;have f20:=hob.free 20
   go_region
   all_goals
    go_wp2_with fail
    go_meet
    rw [←fin.out]
    exact II.out.define
  ·have z2:=kz 2 (by omega);have z4:=kz 4 (by omega);have z3:=kz 3 (by omega);have z5:=kz 5 (by omega);have z6:=kz 6 (by omega);have z7:=kz 7 (by omega)
   have fin:Hid (sB s=vM s):=by
    have a1:¬(s.kind=3∨s.kind=5):=by omega
    have a2:¬(s.kind=2∨s.kind=3∨s.kind=4∨s.kind=5):=by omega
    have a3:¬(s.kind=6∨s.kind=7):=by omega
    unfold Hid sB vM dV dU st0;simp only [if_neg a1,if_neg a2,if_neg a3,if_neg hk]
   clear kz kt
   go_wp2_with fail
   go_meet
   rw [←fin.out]
   exact II.out
 case rest =>
 clear II c1
 have II:=hcut
 clear hcut
 obtain ⟨-,c1,-,-,-,-,-,-,-,-,-,-,-,-,-,-,-,-,-,-,-,-,-,-⟩:=II.out.arg.box.cells
 go_upto_region 13 with fail
 go_cut [66] (fun c wx=>c=.bool (decide (eG s))∧wc=wx)
 case first =>
  by_cases k4:s.kind=4
  ·have z4:(s.kind==4)=true:=by simpa using k4
   have fin:Hid (decide (eG s)=true):=ak (.inl k4)
   clear k4
   go_wp2_with fail
   go_meet
   exact ⟨by rw [fin.out],rfl⟩
  have z4:(s.kind==4)=false:=by simpa using k4
  by_cases k5:s.kind=5
  ·have z5:(s.kind==5)=true:=by simpa using k5
   have fin:Hid (decide (eG s)=true):=ak (.inr (.inl k5))
   clear k5 k4
   go_wp2_with fail
   go_meet
   exact ⟨by rw [fin.out],rfl⟩
  have z5:(s.kind==5)=false:=by simpa using k5
  by_cases k6:s.kind=6
  ·have z6:(s.kind==6)=true:=by simpa using k6
   have fin:Hid (decide (eG s)=true):=ak (.inr (.inr k6))
   clear k6 k5 k4
   go_wp2_with fail
   go_meet
   exact ⟨by rw [fin.out],rfl⟩
  have z6:(s.kind==6)=false:=by simpa using k6
  have fin:Hid (decide (eG s)=false):=au (by unfold eG;omega)
  clear k6 k5 k4
  go_wp2_with fail
  go_meet
  exact ⟨by rw [fin.out],rfl⟩
 case rest =>
 obtain ⟨rfl,rfl⟩:=hcut
 go_upto_if 66 with fail
 go_cut [] (fun wx=>Hid (pz N a s w (dV s) wx))
 case first =>
  by_cases hp:eG s
  ·have fin:Hid ({vM s with pat:=aB s.pat}=dV s):=by unfold Hid vM dV;rw [if_pos hp]
   rw [ak hp]
   clear hp
   obtain ⟨-,-,-,-,-,-,-,-,-,-,-,-,c12,c13,c14,c15,c16,-,-,-,-,-,-,-⟩:=II.out.arg.box.cells;obtain ⟨ob,hob,-⟩:=II.out.out;obtain ⟨-,-,-,-,-,-,-,-,-,-,-,-,d12,d13,zu,Bc,zx,-,-,-,-,-,-,-⟩:=hob.cells;have f12:=hob.free 12;have f13:=hob.free 13;have f14:=hob.free 14;have f15:=hob.free 15;have f16:=hob.free 16
   go_wp2_with (go_at_call 25;(with_reducible refine (Uj.out _ _ II.out).mono ?_);rintro e w2 ⟨_,rfl,⟨S_,gy,agm,agn,rfl,iL,fJ⟩,k_⟩;clear c12 c13 c14 c15 c16 d12 d13 zu Bc zx f12 f13 f14 f15 f16 hob ob;have QP:=ah (wO.mk' (N:=N) fJ (fun b hb=>⟨by have:=(gy b hb).1;have:=zo II.out;omega,(gy b hb).2⟩));replace II:=ah (II.out.next k_);clear fJ gy iL k_ S_;obtain ⟨-,-,-,-,-,-,-,-,-,-,-,-,c12,c13,c14,c15,c16,-,-,-,-,-,-,-⟩:=II.out.arg.box.cells;obtain ⟨ob,hob,-⟩:=II.out.out;obtain ⟨-,-,-,-,-,-,-,-,-,-,-,-,d12,d13,zu,Bc,zx,-,-,-,-,-,-,-⟩:=hob.cells;have f12:=hob.free 12;have f13:=hob.free 13;have f14:=hob.free 14;have f15:=hob.free 15;have f16:=hob.free 16)
   go_meet
   rw [←fin.out]
   exact II.out.pat QP.out
  ·have fin:Hid (vM s=dV s):=by unfold Hid vM dV;rw [if_neg hp]
   rw [au hp]
   clear hp
   go_wp2_with fail
   go_meet
   rw [←fin.out]
   exact II
 case rest =>
 clear II c1
 have II:=hcut
 clear hcut
 obtain ⟨b,hb,hob⟩:=II.out.out
 have HB0:=ah hb.hc0;have HOB:=ah hob
 clear hb hob
 go_wp2_with (first
  | (refine mP rfl _ rfl (N+2) 0 rfl b (dV s) HB0.out ?_)
  | (refine jw rfl _ _ rfl (N+1) rfl b (dV s) rfl _ II.out.z rfl ?_;intro w3 hB3 hk3))
 refine Ul 2 rfl rfl hB3 ?_
 have hr:=aak II.out HOB.out hk3
 exact ⟨hr.1,b,rfl,hr.2⟩
end Go.Proofs.YtefjbnhpjdhjmaaGreatDoor
