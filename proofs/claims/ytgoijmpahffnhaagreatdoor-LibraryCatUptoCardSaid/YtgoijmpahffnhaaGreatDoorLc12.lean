/-  -/
import Derived.Test.YtgoijmpahffnhaaGreatDoorLc24
namespace Go.Proofs.YtgoijmpahffnhaaGreatDoor
set_option linter.all false
open Go.RowKit
set_option maxRecDepth 100000
set_option maxHeartbeats 8000000
def SL:List Value:=[.slice none 0 0,.int .i64 0,.int .i64 0,.slice none 0 0,.slice none 0 0]
def agC (l:List aG) (input:List aj) (lim:Nat) (w:World) (e:Ending) (w':World):Prop :=
 Kept aB w w'∧((sV input∧∃a b:Int,a≠0∧e=.returned (.tuple #[.agg #[.slice none 0 0,.int .i64 0,.int .i64 0,.slice none 0 0,.slice none 0 0],.slice none 0 0,.agg #[.int .i64 a,.int .i64 b]]))∨
  (¬sV input∧∃(oa a3 a4:Option Addr) (oc n3 c3 n4 c4:Nat) (hv:Value),e=.returned (.tuple #[.agg #[.slice oa (jc l lim 0 (qZ input)).output.length oc,.int .i64 (jc l lim 0 (qZ input)).how,.int .i64 (jc l lim 0 (qZ input)).steps,.slice a3 n3 c3,.slice a4 n4 c4],hv,.agg #[.int .i64 0,.int .i64 0]])∧
   aS w' w.heap.size 9 1 (.slice oa (jc l lim 0 (qZ input)).output.length oc) (jc l lim 0 (qZ input)).output.length ((jc l lim 0 (qZ input)).output.map Value.string)))
theorem Au {B:Nat} {w:World} {o:List Value} (h:dO B 32 o w) (ho:o.length=5) (v0 v1 v2 v3 v4:Value):dO B 32 [v0,v1,v2,v3,v4] (((((w.setCell ⟨B,0,none⟩ v0).setCell ⟨B,1,none⟩ v1).setCell ⟨B,2,none⟩ v2).setCell ⟨B,3,none⟩ v3).setCell ⟨B,4,none⟩ v4):=by
 obtain ⟨a,b,c,d,e,rfl⟩:∃a b c d e,o=[a,b,c,d,e]:=by
  rcases o with _|⟨a,_|⟨b,_|⟨c,_|⟨d,_|⟨e,_|⟨f,o⟩⟩⟩⟩⟩⟩<;>simp at ho
  exact ⟨a,b,c,d,e,rfl⟩
 exact ((((h.set 0 v0).set 1 v1).set 2 v2).set 3 v3).set 4 v4
theorem yR (B:Nat) (w:World) (v0 v1 v2 v3 v4:Value):Kept (· = B) w (((((w.setCell ⟨B,0,none⟩ v0).setCell ⟨B,1,none⟩ v1).setCell ⟨B,2,none⟩ v2).setCell ⟨B,3,none⟩ v3).setCell ⟨B,4,none⟩ v4) :=
 (((((Kept.refl (· = B) w).setCell (p:=⟨B,0,none⟩) (.inl rfl) _).setCell (p:=⟨B,1,none⟩) (.inl rfl) _).setCell (p:=⟨B,2,none⟩) (.inl rfl) _).setCell (p:=⟨B,3,none⟩) (.inl rfl) _).setCell (p:=⟨B,4,none⟩) (.inl rfl) _
theorem yS (B:Nat) (w:World) (v0 v1:Value):Kept (· = B) w ((w.setCell ⟨B,0,none⟩ v0).setCell ⟨B,1,none⟩ v1) :=
 ((Kept.refl (· = B) w).setCell (p:=⟨B,0,none⟩) (.inl rfl) _).setCell (p:=⟨B,1,none⟩) (.inl rfl) _
theorem QI {f:Func} {tmps:Array Value} {Q:Ending→World→Prop} {w2:World} {A C:Nat} {v0 v1 v2 v3 v4 hv:Value} {a b:Int} (hf:f.results = #[.cell 6 32,.tmp 7,.cell 8 39]) (h6:tmps.getD 6 undef=.pointer (some ⟨A,0,none⟩)) (h7:tmps.getD 7 undef=hv) (h8:tmps.getD 8 undef=.pointer (some ⟨C,0,none⟩))
  (hA:dO A 32 [v0,v1,v2,v3,v4] w2) (hC:Fl C a b w2) (hq:Q (.returned (.tuple #[.agg #[v0,v1,v2,v3,v4],hv,.agg #[.int .i64 a,.int .i64 b]])) w2):bodyPost Tryz.prog f Q .ret ⟨tmps,[]⟩ w2:=by
 obtain ⟨c0,c1,_,_⟩:=hC.cells
 have z0:=hA.cell (i:=0) rfl
 have z1:=hA.cell (i:=1) rfl
 have z2:=hA.cell (i:=2) rfl
 have z3:=hA.cell (i:=3) rfl
 have z4:=hA.cell (i:=4) rfl
 have ht6:tmps[6]?.getD undef=.pointer (some ⟨A,0,none⟩):=by rw [←h6,Array.getD_eq_getD_getElem?]
 have ht7:tmps[7]?.getD undef=hv:=by rw [←h7,Array.getD_eq_getD_getElem?]
 have ht8:tmps[8]?.getD undef=.pointer (some ⟨C,0,none⟩):=by rw [←h8,Array.getD_eq_getD_getElem?]
 exact bodyPost_ret (v:=.tuple #[.agg #[v0,v1,v2,v3,v4],hv,.agg #[.int .i64 a,.int .i64 b]]) (by simp [results,hf,go_sem,ht6,ht7,ht8,c0,c1,z0,z1,z2,z3,z4]) rfl hq
theorem YB {l:List aG} {al:Option Addr} {cl:Nat} {S:Nat→Prop} {G:World→Prop} {p:Option Addr} {B:Nat} {input:List aj} {ia:Option Addr} {ic lim W N:Nat} {w2 w3:World} (hl:oU w2 S al l) (hS:∀b,S b→b<N) (hT:rF l B p w2) (hg:G w2) (gk:∀wa wb,Kept (fun b=>N≤b) wa wb→G wa→G wb) (hN:N=w2.heap.size)
  (hin:bU w2 (· < N) ia input) (hic:input.length≤ic) (hW:Ar N ia input.length ic l.length lim W w3) (hk:Kept aB w2 w3) (hl0:0<l.length) :
  ∃F:dQ,F.M=w3.heap.size+1∧F.N=N∧F.W=W∧F.R=w3.heap.size∧F.l=l∧F.al=al∧F.cl=cl∧F.lim=lim∧F.G=G∧(∃T,p=some ⟨T,0,none⟩∧F.T=T)∧
   ∀w4,Kept aB w3 w4→dO w3.heap.size 70 [.pointer (some ⟨W,0,none⟩),.slice al l.length cl,.pointer p,.int .i64 0] w4→F.M≤w4.heap.size→bg F (.slice none 0 0) (qZ input) w4:=by
 obtain ⟨hW0,O,Ru,H,hbW,⟨V,I,hV,hI,hO,hVI,QJ,JV,Ve⟩,hH,QK⟩:=hW
 obtain ⟨T,B1,B2,n1,n2,rfl,ht,hm1,hm2,hT1,hT2,hT3⟩:=hT
 have lO:=QJ.lt;have lW:=hbW.lt;have lH:=QK.lt
 have lV:=(Array.getElem?_eq_some_iff.1 JV).1;have lI:=(Array.getElem?_eq_some_iff.1 Ve).1
 have neq:∀{x y:Nat} {a b:Obj},w3.heap[x]?=some a→w3.heap[y]?=some b→a≠b→x≠y:=fun ha hb hne e=>by subst e;rw [ha] at hb;cases hb;exact hne rfl
 have hfx:aas ⟨N,w3.heap.size+1,O,W,w3.heap.size,V,I,Ru,H,l,al,cl,S,T,B1,B2,n1,lim,G⟩:=⟨⟨hO,by show O<w3.heap.size+1;omega⟩,⟨hW0,by show W<w3.heap.size+1;omega⟩,⟨by show N≤w3.heap.size;have:=hk.size;omega,by show w3.heap.size<w3.heap.size+1;omega⟩,⟨hV,by show V<w3.heap.size+1;omega⟩,⟨hI,by show I<w3.heap.size+1;omega⟩,⟨hH,by show H<w3.heap.size+1;omega⟩,
  ⟨neq QJ hbW (by simp),by show O≠w3.heap.size;omega,neq QJ JV (by simp),neq QJ Ve (by simp),neq QJ QK (by simp),by show W≠w3.heap.size;omega,neq hbW JV (by simp),neq hbW Ve (by simp),neq hbW QK (by simp),by show w3.heap.size≠V;omega,by show w3.heap.size≠I;omega,by show w3.heap.size≠H;omega,hVI,neq JV QK (by simp),neq Ve QK (by simp)⟩⟩
 refine ⟨⟨N,w3.heap.size+1,O,W,w3.heap.size,V,I,Ru,H,l,al,cl,S,T,B1,B2,n1,lim,G⟩,rfl,rfl,rfl,rfl,rfl,rfl,rfl,rfl,rfl,⟨T,rfl,rfl⟩,fun w4 hk4 hb4 hM=>?_⟩
 have k24:=hk.trans hk4
 have hNl:N≤w4.heap.size:=by have:=k24.size;omega
 refine ⟨⟨hNl,hl.to k24 (fun b hb=>⟨by have:=hS b hb;omega,fun h=>h⟩) (fun _ h=>h),hS,ht.kept k24 (fun h=>h),hm1.kept k24 (fun h=>h),⟨by show T<N;have:=ht.lt;omega,by show B1<N;have:=hm1.lt;omega⟩,gk _ _ (k24.more fun _ h=>h.elim) hg,gk⟩,hfx,hM,hb4,hbW.kept hk4 (fun h=>h),
  ⟨List.replicate l.length 0,by simp,by rw [List.map_replicate];exact QK.kept hk4 (fun h=>h)⟩,⟨ia,ic,QJ.kept hk4 (fun h=>h),?_,hic⟩,aS.nil _ _ _ _,?_,⟨rfl,(hk4.block I lI (fun h=>h)).trans Ve⟩⟩
 ·exact hin.to k24 (fun b hb=>⟨by have:b<N:=hb;omega,fun h=>h⟩) (fun _ h=>h)
 ·exact jI.of ((hk4.block V lV (fun h=>h)).trans JV)
theorem run_any (l:List aG) (al:Option Addr) (cl:Nat) (S:Nat→Prop) (input:List aj) (ia:Option Addr) (ic lim:Nat) (w:World) (G:World→Prop) (nb:aj→Bool) (kb:Int→Bool) (BH:∀F:dQ,F.G=G→Et F nb kb) (h4:kb 4=false)
  (hl:oU w S al l) (hS:Safe S aB w.heap.size) (hlen:l.length≤1000000) (hl0:0<l.length) (hck:dI l=(0,0)) (hok:∀s∈l,okS nb kb s=true) (hin:bU w (· < w.heap.size) ia input) (hic:input.length≤ic) (hil:input.length<1000000000) (hlim:lim≤100000) (hg:G w) (gk:∀N wa wb,w.heap.size≤N→Kept (fun b=>N≤b) wa wb→G wa→G wb) :
  Calls Tryz.prog 18 #[.slice al l.length cl,.slice ia input.length ic,.int .i64 lim] w (agC l input lim w):=by
 obtain ⟨w1,hw1⟩:∃w1,w1=(w.alloc (.cells #[.slice none 0 0,.int .i64 0,.int .i64 0,.slice none 0 0,.slice none 0 0] 32)).alloc (.cells #[.int .i64 0,.int .i64 0] 39):=⟨_,rfl⟩
 obtain ⟨A,hA⟩:∃A,A=w.heap.size:=⟨_,rfl⟩
 have k1:Kept aB w w1:=by rw [hw1];exact ((Kept.refl aB w).alloc _).alloc _
 have A1:Hid (dO A 32 SL w1):=by rw [hw1,hA];exact (dO.new w _ SL).kept ((Kept.refl aB _).alloc _) (fun h=>h)
 have C1:Hid (Fl (w.heap.size+1) 0 0 w1):=by
  have:=ay (w.alloc (.cells #[.slice none 0 0,.int .i64 0,.int .i64 0,.slice none 0 0,.slice none 0 0] 32)) (.cells #[.int .i64 0,.int .i64 0] 39)
  rw [hw1];unfold Hid Fl;rw [←this];simp
 obtain ⟨C,hC⟩:∃C,C=w.heap.size+1:=⟨_,rfl⟩
 rw [←hC] at C1
 have hz1:w1.heap.size=w.heap.size+2:=by rw [hw1];simp
 have hin1:bU w1 (· < w1.heap.size) ia input:=hin.to k1 (Safe.lt (Nat.le_refl _)) (fun _ h=>Nat.lt_of_lt_of_le h k1.size)
 have HWR:=ah (Vd l al cl S input ia ic lim w1 (hl.to k1 hS (fun _ h=>h)) (hS.mono k1.size) (by omega) hck hin1 hil hlim)
 have HW1:=ah hw1;have HA:=ah hA;have HC:=ah hC;have K1:=ah k1;have HZ1:=ah hz1;have wF:=ah hin1;have HSL:=ah hl;have Nj:=ah hS;have HG:=ah hg;have GK:=ah gk;have HBH:=ah BH;have QL:=ah hok
 have hAC:A<w1.heap.size∧C<w1.heap.size∧A≠C∧w.heap.size≤A∧w.heap.size≤C:=by omega
 have JW:=ah hAC
 by_cases hb:sV input
 ·have HWB:Hid (Calls Tryz.prog 25 #[.slice al l.length cl,.slice ia input.length ic,.int .i64 lim] w1 (fun e w'=>∃a b:Int,a≠0∧e=.returned (.tuple #[.pointer none,.agg #[.int .i64 a,.int .i64 b]])∧Kept aB w1 w')):=HWR.out.mono (by
   rintro e w' ⟨hk,⟨_,a,b,ha,he⟩|⟨hn,_⟩⟩
   ·exact ⟨a,b,ha,he,hk⟩
   ·exact absurd hb hn)
  clear hw1 hA hC k1 hz1 hin1 hl hS hck hin hg gk BH hok hAC
  go_enter Tryz.func18, Tryz.ntmps18
  go_upto_region 1 with fail
  rw [←HW1.out,←HC.out,←HA.out]
  clear HW1
  go_upto_region 2 with (go_at_call 25;(with_reducible refine HWB.out.mono ?_);rintro e w2 ⟨a,b,Vf,rfl,k_⟩;have K2:=ah k_;have HN:=ah Vf;clear k_ Vf)
  obtain ⟨w3,hw3⟩:∃w3,w3=w2.alloc (.cells #[.int .i64 a,.int .i64 b] 39):=⟨_,rfl⟩
  obtain ⟨D,hD⟩:∃D,D=w2.heap.size:=⟨_,rfl⟩
  have k3:Kept aB w2 w3:=by rw [hw3];exact (Kept.refl aB w2).alloc _
  have D3:Hid (Fl D a b w3):=by rw [hw3,hD];exact ay w2 _
  have A3:=ah ((A1.out.kept K2.out (fun h=>h)).kept k3 (fun h=>h))
  have C3:=ah ((C1.out.kept K2.out (fun h=>h)).kept k3 (fun h=>h))
  have Ew:=ah (K2.out.trans k3)
  have hDC:D≠C∧D≠A:=by have:=K2.out.size;have:=JW.out;omega
  have Nk:=JW.out.2.2.1
  have YC:C≠A:=fun e=>Nk e.symm
  rw [←hw3,←hD]
  obtain ⟨d0,d1,JX,JY⟩:=D3.out.cells
  obtain ⟨c0,c1,QM,cf1⟩:=C3.out.cells
  have x0:=A3.out.cell (i:=0) rfl;have x1:=A3.out.cell (i:=1) rfl;have x2:=A3.out.cell (i:=2) rfl;have x3:=A3.out.cell (i:=3) rfl;have x4:=A3.out.cell (i:=4) rfl
  have y0:=A3.out.free 0;have y1:=A3.out.free 1;have y2:=A3.out.free 2;have y3:=A3.out.free 3;have y4:=A3.out.free 4
  have e1:(a != 0)=true:=by simpa using HN.out
  clear hw3 hD k3
  go_wp2_with go_region
  have H5:=Au A3.out rfl (.slice none 0 0) (.int .i64 0) (.int .i64 0) (.slice none 0 0) (.slice none 0 0)
  have k5:=yR A w3 (.slice none 0 0) (.int .i64 0) (.int .i64 0) (.slice none 0 0) (.slice none 0 0)
  have k6:=yS C (((((w3.setCell ⟨A,0,none⟩ (.slice none 0 0)).setCell ⟨A,1,none⟩ (.int .i64 0)).setCell ⟨A,2,none⟩ (.int .i64 0)).setCell ⟨A,3,none⟩ (.slice none 0 0)).setCell ⟨A,4,none⟩ (.slice none 0 0)) (.int .i64 a) (.int .i64 b)
  have C5:=(C3.out.kept k5 YC).set a b
  have h1:=JW.out
  refine QI Tryz.results18 rfl rfl rfl (H5.kept k6.drew Nk) (C5.kept (Kept.refl aB _).drew (fun h=>h)) ⟨?_,.inl ⟨hb,a,b,HN.out,rfl⟩⟩
  exact (((K1.out.trans Ew.out).step k5 (fun y hy=>.inr (by have:y=A:=hy;omega))).step k6 (fun y hy=>.inr (by have:y=C:=hy;omega))).drew
 ·have HWB:Hid (Calls Tryz.prog 25 #[.slice al l.length cl,.slice ia input.length ic,.int .i64 lim] w1 (fun e w'=>∃p,e=.returned (.tuple #[.pointer p,.agg #[.int .i64 0,.int .i64 0]])∧rF l w1.heap.size p w'∧Kept aB w1 w')):=HWR.out.mono (by
   rintro e w' ⟨hk,⟨hn,_⟩|⟨_,p,he,ht⟩⟩
   ·exact absurd hn hb
   ·exact ⟨p,he,ht,hk⟩)
  clear hw1 hA hC k1 hz1 hin1 hl hS hck hin hg gk BH hok hAC
  go_enter Tryz.func18, Tryz.ntmps18
  go_upto_region 1 with fail
  rw [←HW1.out,←HC.out,←HA.out]
  clear HW1
  go_upto_region 2 with (go_at_call 25;(with_reducible refine HWB.out.mono ?_);rintro e w2 ⟨p,rfl,t_,k_⟩;have K2:=ah k_;have T2:=ah t_;clear k_ t_)
  obtain ⟨w3,hw3⟩:∃w3,w3=w2.alloc (.cells #[.int .i64 0,.int .i64 0] 39):=⟨_,rfl⟩
  obtain ⟨D,hD⟩:∃D,D=w2.heap.size:=⟨_,rfl⟩
  have k3:Kept aB w2 w3:=by rw [hw3];exact (Kept.refl aB w2).alloc _
  have D3:Hid (Fl D 0 0 w3):=by rw [hw3,hD];exact ay w2 _
  have Ew:=ah (K2.out.trans k3)
  have T3:=ah (T2.out.kept k3 (fun _ h=>h.elim))
  have hDC:D≠C∧D≠A:=by have:=K2.out.size;have:=JW.out;omega
  have hDw:w.heap.size≤D:=by have:=K2.out.size;have:=JW.out;omega
  rw [←hw3,←hD]
  obtain ⟨d0,d1,JX,JY⟩:=D3.out.cells
  clear hw3 hD k3
  go_upto_region 4 with fail
  have hkw:Kept aB w w3:=K1.out.trans Ew.out
  go_upto_region 5 with (go_at_call 26;(with_reducible refine (Nb al ia l.length cl input.length ic lim _ (by omega)).mono ?_);rintro e w4 ⟨W,rfl,aK,k_⟩;have HWN:=ah aK;have K4:=ah k_;clear aK k_)
  obtain ⟨F,fM,fN,fW,fR,fl,fal,fcl,YD,fG,⟨T,hp,fT⟩,hrun⟩:=YB (p:=p) (G:=G) (cl:=cl) (HSL.out.to hkw Nj.out (fun _ h=>h)) (fun b hb=>Nat.lt_of_lt_of_le (Nj.out b hb).1 hkw.size) (T3.out.low (B:=0) (Nat.zero_le _)) (GK.out w.heap.size _ _ (Nat.le_refl _) (hkw.more fun _ h=>h.elim) HG.out) (fun wa wb hk hg=>GK.out _ wa wb hkw.size hk hg) rfl (wF.out.to Ew.out (Safe.lt (Nat.le_refl _)) (fun _ h=>Nat.lt_of_lt_of_le h Ew.out.size)) hic HWN.out K4.out hl0
  subst hp
  obtain ⟨w5,hw5⟩:∃w5,w5=w4.alloc (.cells #[.pointer (some ⟨W,0,none⟩),.slice al l.length cl,.pointer (some ⟨T,0,none⟩),.int .i64 0] 70):=⟨_,rfl⟩
  have k5:Kept aB w4 w5:=by rw [hw5];exact (Kept.refl aB w4).alloc _
  have hR5:=hrun w5 k5 (by rw [hw5];exact dO.new w4 _ _) (by rw [fM,hw5];simp)
  have Nl:=PY F nb kb (HBH.out F fG) h4 (.slice none 0 0) (qZ input) w5 hR5 (bM.start (fun t ht=>by
   obtain ⟨i,hi,rfl⟩:=List.mem_iff_getElem.1 ht
   exact Nat.le_of_not_lt fun h=>hb (.inr ⟨i,hi,h⟩))) (by rw [fl];exact QL.out) (by rw [YD];omega) (by rw [fl];exact hlen) (Nat.zero_le _)
  rw [fl,YD] at Nl
  have Nl:Calls Tryz.prog 27 #[.pointer (some ⟨F.R,0,none⟩),.int .i64 0] w5 (ThQ F (.slice none 0 0) w5 (jc l lim 0 (qZ input))):=Nl
  obtain ⟨E,hE⟩:∃E,E=w4.heap.size:=⟨_,rfl⟩
  rw [←hw5,←hE]
  rw [←hE] at fR
  obtain ⟨R0,hR0⟩:∃R0,R0=jc l lim 0 (qZ input):=⟨_,rfl⟩
  rw [←hR0] at Nl
  rw [fR] at Nl
  have HTH:=ah Nl;have HR0:=ah hR0;have K5:=ah k5;have JZ:=ah fW;have HFR:=ah fR;have HFN:=ah fN
  have hok0:bM R0:=by
   rw [hR0]
   exact aar QL.out _ _ _ (bM.start (fun t ht=>by
    obtain ⟨i,hi,rfl⟩:=List.mem_iff_getElem.1 ht
    exact Nat.le_of_not_lt fun h=>hb (.inr ⟨i,hi,h⟩)))
  have HX:Hid (∀b,RX F (.slice none 0 0) b→w3.heap.size≤b):=fun b hb=>by have:=(hR5.xlt hb).1;omega
  have HFM:Hid (w.heap.size+2≤F.M):=by have:=K4.out.size;have:=Ew.out.size;have:=HZ1.out;unfold Hid;omega
  have agD:=ah hok0
  clear Nl hR0 k5 hw5 hE fW fR fN fM fl fal fcl YD fG fT hrun hR5 hok0 d0 d1 JX JY
  go_upto_region 6 with (go_at_call 27;(with_reducible refine HTH.out.mono ?_);rintro e w6 ⟨rfl,ov6,r_⟩;have R6:=ah r_;clear r_)
  have hSW:=Va F ov6 R0 w6 R6.out.at_ agD.out
  obtain ⟨r0,_⟩:=R6.out.at_.xZ
  rw [HFR.out,JZ.out] at r0
  rw [JZ.out] at hSW
  obtain ⟨oa,oc,hov⟩:=R6.out.at_.out.shape
  subst hov
  have HSW:=ah hSW
  have W6:=ah R6.out.at_.out
  clear hSW
  go_upto_region 7 with (go_at_call 28;(with_reducible refine HSW.out.mono ?_);rintro e w7 ⟨a3,a4,n3,c3,n4,c4,hv,rfl,k_⟩;have K7:=ah k_;clear k_)
  obtain ⟨w8,hw8⟩:∃w8,w8=w7.alloc (.cells #[.slice oa R0.output.length oc,.int .i64 R0.how,.int .i64 R0.steps,.slice a3 n3 c3,.slice a4 n4 c4] 32):=⟨_,rfl⟩
  have k8:Kept aB w7 w8:=by rw [hw8];exact (Kept.refl aB w7).alloc _
  have k38:Kept aB w3 w8:=(((K4.out.trans K5.out).step R6.out.kept (fun y hy=>.inr (HX.out y hy))).trans K7.out).trans k8
  obtain ⟨Q,hQ⟩:∃Q,Q=w7.heap.size:=⟨_,rfl⟩
  have hQ8:dO Q 32 [.slice oa R0.output.length oc,.int .i64 R0.how,.int .i64 R0.steps,.slice a3 n3 c3,.slice a4 n4 c4] w8:=by rw [hw8,hQ];exact dO.new w7 _ _
  have D8:=D3.out.kept k38 (fun h=>h)
  have A8:=(A1.out.kept Ew.out (fun h=>h)).kept k38 (fun h=>h)
  have C8:=ah ((C1.out.kept Ew.out (fun h=>h)).kept k38 (fun h=>h))
  have W8:=ah ((W6.out.kept K7.out (fun _ _ h=>h)).kept k8 (fun _ _ h=>h))
  have K18:=ah (Ew.out.trans k38)
  have hQn:Q≠A∧Q≠C∧A≠Q∧C≠Q:=by have:=Ew.out.size;have:=JW.out;have:=((((K4.out.trans K5.out).step R6.out.kept (fun y hy=>.inr (HX.out y hy))).trans K7.out)).size;omega
  have Nk:=JW.out.2.2.1
  have YC:C≠A:=fun e=>Nk e.symm
  obtain ⟨q1,q2,q3,q4⟩:=hQn
  rw [←hw8,←hQ]
  obtain ⟨d0,d1,JX,JY⟩:=D8.cells
  obtain ⟨c0,c1,QM,cf1⟩:=C8.out.cells
  have x0:=A8.cell (i:=0) rfl;have x1:=A8.cell (i:=1) rfl;have x2:=A8.cell (i:=2) rfl;have x3:=A8.cell (i:=3) rfl;have x4:=A8.cell (i:=4) rfl
  have y0:=A8.free 0;have y1:=A8.free 1;have y2:=A8.free 2;have y3:=A8.free 3;have y4:=A8.free 4
  have z0:=hQ8.cell (i:=0) rfl;have z1:=hQ8.cell (i:=1) rfl;have z2:=hQ8.cell (i:=2) rfl;have z3:=hQ8.cell (i:=3) rfl;have z4:=hQ8.cell (i:=4) rfl
  have HA8:=ah A8
  clear hw8 hQ k8 k38 hQ8 D8 A8 r0
  go_wp2_with go_region
  have H5:=Au HA8.out rfl (.slice oa R0.output.length oc) (.int .i64 R0.how) (.int .i64 R0.steps) (.slice a3 n3 c3) (.slice a4 n4 c4)
  have k5:=yR A w8 (.slice oa R0.output.length oc) (.int .i64 R0.how) (.int .i64 R0.steps) (.slice a3 n3 c3) (.slice a4 n4 c4)
  have k6:=yS C (((((w8.setCell ⟨A,0,none⟩ (.slice oa R0.output.length oc)).setCell ⟨A,1,none⟩ (.int .i64 R0.how)).setCell ⟨A,2,none⟩ (.int .i64 R0.steps)).setCell ⟨A,3,none⟩ (.slice a3 n3 c3)).setCell ⟨A,4,none⟩ (.slice a4 n4 c4)) (.int .i64 0) (.int .i64 0)
  have C5:=(C8.out.kept k5 YC).set 0 0
  have h1:=JW.out
  have h2:=HFM.out
  have h3:=HZ1.out
  refine QI Tryz.results18 rfl rfl rfl (H5.kept k6.drew Nk) (C5.kept (Kept.refl aB _).drew (fun h=>h)) ⟨?_,.inr ⟨hb,oa,a3,a4,oc,n3,c3,n4,c4,hv,by rw [←HR0.out];rfl,?_⟩⟩
  ·exact (((K1.out.trans K18.out).step k5 (fun y hy=>.inr (by have:y=A:=hy;omega))).step k6 (fun y hy=>.inr (by have:y=C:=hy;omega))).drew
  ·rw [←HR0.out]
   have:=((W8.out.kept k5 (fun b hb e=>by have e:b=A:=e;have:=(W8.out.lt b hb).1;omega)).kept k6.drew (fun b hb e=>by have e:b=C:=e;have:=(W8.out.lt b hb).1;omega)).mono (B':=w.heap.size) (by omega)
   exact this
end Go.Proofs.YtgoijmpahffnhaaGreatDoor

namespace Go.Proofs.YtgoijmpahffnhaaGreatDoor
set_option linter.all false
open Go.RowKit
set_option maxRecDepth 100000
set_option maxHeartbeats 8000000
def oV (a b:Nat) (input:List aj):Bool:=(input.any fun t=>decide (a<t.size))||decide (b<input.length)
theorem YE (input:List aj):sV input↔oV 65536 1000 input=true:=by
 unfold sV oV
 rw [Bool.or_eq_true,List.any_eq_true]
 constructor
 ·rintro (h|⟨i,hi,h⟩)
  ·exact .inr (ak h)
  ·exact .inl ⟨_,List.getElem_mem hi,ak h⟩
 ·rintro (⟨t,ht,h⟩|h)
  ·obtain ⟨k,hk,rfl⟩:=List.mem_iff_getElem.1 ht
   exact .inr ⟨k,hk,of_decide_eq_true h⟩
  ·exact .inl (of_decide_eq_true h)
theorem SN (input:List aj) (ia:Option Addr) (ic:Nat) (w:World) (hin:bU w (· < w.heap.size) ia input) (hil:input.length<1000000000):Calls Tryz.prog 12 #[.slice ia input.length ic] w (fun e w'=>e=.returned (.bool (oV 65536 1000 input))∧w'=w):=by
 have wF:=ah hin
 clear hin
 go_enter Tryz.func12, Tryz.ntmps12
 go_wp2_with fail
 go_loopw [7] (fun i wr=>∃j:Nat,j≤input.length∧i=.int .i64 j∧wr=w∧Hid (∀k,(h:k<input.length)→k<j→input[k].size≤65536)) (fun i _=>input.length-(intOf i).toNat)
 case atStart=>exact ⟨0,Nat.zero_le _,rfl,rfl,fun k _ h=>absurd h (by omega)⟩
 case round =>
  obtain ⟨j,hj,rfl,rfl,hall⟩:=hrel
  by_cases hlt:j<input.length
  ·obtain ⟨bi,oi,rfl,_,hc⟩:=wF.out (by omega)
   have cj:=hc j hlt
   obtain ⟨tj,htj⟩:∃tj,tj=input[j]:=⟨_,rfl⟩
   rw [←htj] at cj
   have bj:(j:Int)<(input.length:Int):=by omega
   have JU:=ah htj
   clear hc htj
   by_cases hs:65536<tj.size
   ·have e2:decide ((65536:Int)<(tj.size:Int))=true:=ak (by omega)
    have e2':decide (65536<tj.size)=true:=ak hs
    have fin:Hid (oV 65536 1000 input=true):=by
     unfold Hid oV
     rw [Bool.or_eq_true,List.any_eq_true]
     exact .inl ⟨input[j],List.getElem_mem hlt,ak (by rw [←JU.out];exact hs)⟩
    go_wp2_with fail
    go_ret
    exact ⟨by rw [fin.out];rfl,rfl⟩
   ·have e2:decide ((65536:Int)<(tj.size:Int))=false:=au (by omega)
    have e2':decide (65536<tj.size)=false:=au hs
    go_wp2_with fail
    go_roundw
    case rel=>exact ⟨j+1,by omega,by go_num,by trivial,fun k hk hkj=>by
     by_cases Nh:k=j
     ·subst Nh;rw [←JU.out];omega
     ·exact hall.out k hk (by omega)⟩
    case measure=>simp [intOf];omega
  ·obtain rfl:j=input.length:=by omega
   have fin:Hid (oV 65536 1000 input=decide (1000<input.length)):=by
    unfold Hid oV
    have:(input.any fun t=>decide (65536<t.size))=false:=by
     rw [List.any_eq_false]
     intro t ht
     obtain ⟨k,hk,rfl⟩:=List.mem_iff_getElem.1 ht
     have:=hall.out k hk hk
     simp;omega
    rw [this,Bool.false_or]
   have fin2:Hid (oV 65536 1000 input=decide ((1000:Int)<(input.length:Int))):=by
    unfold Hid
    rw [fin.out]
    by_cases hx:1000<input.length
    ·rw [ak hx,ak (by omega)]
    ·rw [au hx,au (by omega)]
   go_wp2_with fail
   go_ret
   exact ⟨by first|(rw [fin2.out];rfl)|(rw [fin.out];rfl),rfl⟩
theorem Vg (input:List aj) (ia:Option Addr) (ic:Nat) (w:World) (hin:bU w (· < w.heap.size) ia input) (hil:input.length<1000000000):Calls Tryz.prog 13 #[.slice ia input.length ic] w (fun e w'=>e=.returned (.bool (oV 30 12 input))∧w'=w):=by
 have wF:=ah hin
 clear hin
 go_enter Tryz.func13, Tryz.ntmps13
 go_wp2_with fail
 go_loopw [7] (fun i wr=>∃j:Nat,j≤input.length∧i=.int .i64 j∧wr=w∧Hid (∀k,(h:k<input.length)→k<j→input[k].size≤30)) (fun i _=>input.length-(intOf i).toNat)
 case atStart=>exact ⟨0,Nat.zero_le _,rfl,rfl,fun k _ h=>absurd h (by omega)⟩
 case round =>
  obtain ⟨j,hj,rfl,rfl,hall⟩:=hrel
  by_cases hlt:j<input.length
  ·obtain ⟨bi,oi,rfl,_,hc⟩:=wF.out (by omega)
   have cj:=hc j hlt
   obtain ⟨tj,htj⟩:∃tj,tj=input[j]:=⟨_,rfl⟩
   rw [←htj] at cj
   have bj:(j:Int)<(input.length:Int):=by omega
   have JU:=ah htj
   clear hc htj
   by_cases hs:30<tj.size
   ·have e2:decide ((30:Int)<(tj.size:Int))=true:=ak (by omega)
    have e2':decide (30<tj.size)=true:=ak hs
    have fin:Hid (oV 30 12 input=true):=by
     unfold Hid oV
     rw [Bool.or_eq_true,List.any_eq_true]
     exact .inl ⟨input[j],List.getElem_mem hlt,ak (by rw [←JU.out];exact hs)⟩
    go_wp2_with fail
    go_ret
    exact ⟨by rw [fin.out];rfl,rfl⟩
   ·have e2:decide ((30:Int)<(tj.size:Int))=false:=au (by omega)
    have e2':decide (30<tj.size)=false:=au hs
    go_wp2_with fail
    go_roundw
    case rel=>exact ⟨j+1,by omega,by go_num,by trivial,fun k hk hkj=>by
     by_cases Nh:k=j
     ·subst Nh;rw [←JU.out];omega
     ·exact hall.out k hk (by omega)⟩
    case measure=>simp [intOf];omega
  ·obtain rfl:j=input.length:=by omega
   have fin:Hid (oV 30 12 input=decide (12<input.length)):=by
    unfold Hid oV
    have:(input.any fun t=>decide (30<t.size))=false:=by
     rw [List.any_eq_false]
     intro t ht
     obtain ⟨k,hk,rfl⟩:=List.mem_iff_getElem.1 ht
     have:=hall.out k hk hk
     simp;omega
    rw [this,Bool.false_or]
   have fin2:Hid (oV 30 12 input=decide ((12:Int)<(input.length:Int))):=by
    unfold Hid
    rw [fin.out]
    by_cases hx:12<input.length
    ·rw [ak hx,ak (by omega)]
    ·rw [au hx,au (by omega)]
   go_wp2_with fail
   go_ret
   exact ⟨by first|(rw [fin2.out];rfl)|(rw [fin.out];rfl),rfl⟩
theorem Vh (l:List aj) (a b:Option Addr) (ca cb:Nat) (w:World) (ha:bU w (· < w.heap.size) a l) (hb:bU w (· < w.heap.size) b l) (hlen:l.length≤1048576):Calls Tryz.prog 14 #[.slice a l.length ca,.slice b l.length cb] w (Aw true w):=by
 have HA:=ah ha;have HB:=ah hb
 clear ha hb
 go_enter Tryz.func14, Tryz.ntmps14
 go_wp2_with fail
 go_loopw [13] (fun i wr=>∃j:Nat,j≤l.length∧i=.int .i64 j∧Hid (Kept aB w wr)) (fun i _=>l.length-(intOf i).toNat)
 case atStart=>exact ⟨0,Nat.zero_le _,rfl,Kept.refl _ _⟩
 case round =>
  obtain ⟨j,hj,rfl,K⟩:=hrel
  by_cases hlt:j<l.length
  ·have e1:decide ((j:Int)<(l.length:Int))=true:=ak (by omega)
   have bj:(j:Int)<(l.length:Int):=by omega
   obtain ⟨ga,oa,rfl,hga,hca⟩:=HA.out.to K.out (Safe.lt (Nat.le_refl _)) (fun _ h=>h) (by omega)
   obtain ⟨gb,ob,rfl,hgb,hcb⟩:=HB.out.to K.out (Safe.lt (Nat.le_refl _)) (fun _ h=>h) (by omega)
   have qa:=hca j hlt;have qb:=hcb j hlt
   obtain ⟨x,hx⟩:∃x,x=l[j]:=⟨_,rfl⟩
   rw [←hx] at qa qb
   clear hca hcb hga hgb hx
   go_wp2_with fail
   go_quiet (fail)
   have K2:Hid (Kept aB w (wr.drewN nq)):=K.out.drewN nq
   go_wp2_with fail
   go_roundw
   case rel=>exact ⟨j+1,by omega,by go_num,K2⟩
   case measure=>simp [intOf];omega
  ·obtain rfl:j=l.length:=by omega
   go_wp2_with fail
   go_ret
   exact ⟨rfl,K.out⟩
end Go.Proofs.YtgoijmpahffnhaaGreatDoor
