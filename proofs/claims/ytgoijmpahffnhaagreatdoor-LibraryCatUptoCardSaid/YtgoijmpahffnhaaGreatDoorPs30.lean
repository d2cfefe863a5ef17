/-  -/
import Derived.Test.YtgoijmpahffnhaaGreatDoorLc3
namespace Go.Proofs.YtgoijmpahffnhaaGreatDoor
set_option linter.all false
open Go.RowKit
set_option maxRecDepth 100000
set_option maxHeartbeats 16000000
def yx (s:aj):Bool:=decide (s.size≠0∧peek s 0≠32∧peek s 0≠58)
theorem lX.new {A B C n:Nat} {w w2:World} (h:Kept (lX A B C) w w2) {w0:World} (k:Kept aB w0 w) (hA:w0.heap.size≤A∧w0.heap.size≤B∧w0.heap.size≤C):Kept aB w0 w2 :=
 k.step h (fun y hy=>by rcases hy with h|h|h<;>exact .inr (by omega))
theorem cell_lt {w:World} {b o:Nat} {v:Value} (h:w.cell? ⟨b,o,none⟩=some v):b<w.heap.size:=by
 by_cases hb:b<w.heap.size
 ·exact hb
 ·exfalso
  have:w.heap[b]?=none:=Array.getElem?_eq_none (by omega)
  simp [World.cell?,this] at h
theorem Qm (s:aj) (w:World) (hs:s.size≤1000000000) (hm:rG w) (hr:jC w) (h0:0<s.size) (h1:s[0].toNat=42) (h2:s.size≤2000):Calls Tryz.prog 23 #[.string s] w (Ic s w):=by
 have er:Hid (lU s=.ok none):=by unfold Hid lU;rw [if_pos ⟨by rw [jX h0];omega,h2⟩]
 obtain ⟨w0,hw0⟩:∃w0,w0=((w.alloc (.cells #[.string ⟨#[]⟩,.int .i64 0,.int .i64 0,.string ⟨#[]⟩,.int .i64 0,.string ⟨#[]⟩,.slice none 0 0,.int .i64 0,.string ⟨#[]⟩,.int .i64 0,.string ⟨#[]⟩,.slice none 0 0,.int .i64 0,.string ⟨#[]⟩,.int .i64 0,.string ⟨#[]⟩,.slice none 0 0,.string ⟨#[]⟩,.string ⟨#[]⟩,.slice none 0 0,.slice none 0 0,.string ⟨#[]⟩,.string ⟨#[]⟩,.string ⟨#[]⟩] 59)).alloc (.cells #[.bool false] 4)).alloc (.cells #[.int .i64 0,.int .i64 0] 39):=⟨_,rfl⟩
 have k0:Kept aB w w0:=by rw [hw0];exact (((Kept.refl _ _).alloc _).alloc _).alloc _
 have T0:Hid (gV w.heap.size (w.heap.size+1) (w.heap.size+1+1) nilA dH (.bool false) (.int .i64 0) (.int .i64 0) w0):=by
  rw [hw0]
  refine ⟨(bZ.new w nilA dH).kept (((Kept.refl aB _).alloc _).alloc _) (fun h=>h),?_,?_⟩
  ·have h1:dW ((w.alloc (.cells #[.string ⟨#[]⟩,.int .i64 0,.int .i64 0,.string ⟨#[]⟩,.int .i64 0,.string ⟨#[]⟩,.slice none 0 0,.int .i64 0,.string ⟨#[]⟩,.int .i64 0,.string ⟨#[]⟩,.slice none 0 0,.int .i64 0,.string ⟨#[]⟩,.int .i64 0,.string ⟨#[]⟩,.slice none 0 0,.string ⟨#[]⟩,.string ⟨#[]⟩,.slice none 0 0,.slice none 0 0,.string ⟨#[]⟩,.string ⟨#[]⟩,.string ⟨#[]⟩] 59)).alloc (.cells #[.bool false] 4)) (w.heap.size+1) 4 (.bool false):=dX (by simp)
   unfold dW;rw [Below.heap_alloc _ _ _ h1.lt];exact h1
  ·exact dX (by simp)
 have hsz0:w0.heap.size=w.heap.size+3:=by rw [hw0];simp
 have HW0:=ah hw0
 have K0:=ah k0
 have M0:=ah (hm.kept k0 (fun h=>h))
 have G0:Hid (jC w0):=by obtain ⟨ev,h1,h2⟩:=hr;exact ⟨ev,(k0.cell (cell_lt h1) (fun h=>h)).trans h1,h2⟩
 have RJ:5<w.heap.size:=by obtain ⟨ev,h1,h2⟩:=hr;exact cell_lt h1
 clear hw0 k0 hm hr
 go_enter_defers Tryz.func23, Tryz.ntmps23
 go_upto_region 1 with fail
 rw [←HW0.out]
 obtain ⟨C,hC⟩:∃C,C=w.heap.size+1+1:=⟨_,rfl⟩
 rw [←hC] at T0⊢
 obtain ⟨B,hB⟩:∃B,B=w.heap.size+1:=⟨_,rfl⟩
 rw [←hB] at T0⊢
 obtain ⟨A,hA⟩:∃A,A=w.heap.size:=⟨_,rfl⟩
 rw [←hA] at T0⊢
 have hne:A≠B∧A≠C∧B≠C:=by omega
 have wZ:w.heap.size≤A∧w.heap.size≤B∧w.heap.size≤C:=by omega
 have hlt:A<w0.heap.size∧B<w0.heap.size∧C<w0.heap.size:=by omega
 clear hA hB hC hsz0
 have s0:s.toList.isEmpty=false:=oL (fun e=>by rw [e] at h0;exact absurd h0 (by decide))
 have bi:(0:Int)<(s.size:Int):=by omega
 have y1:((s[0].toNat:Int)==42)=true:=by rw [h1];rfl
 have d1:decide ((s.size:Int)≤(2000:Int))=true:=ak (by omega)
 have d2:decide (s.size≤2000)=true:=ak h2
 go_upto_region 2 with fail
 obtain ⟨Sp,hSp⟩:∃Sp:Nat→Value→World→Prop,Sp=(fun i v wx=>match i with
  | 0=>v=dY nilA dH
  | 1=>v=.agg #[.int .i64 0,.int .i64 0]
  | _=>True):=⟨_,rfl⟩
 obtain ⟨J,hJd⟩:∃J:(Nat→Bool)→(Nat→Value)→World→Prop,J=(fun pp f wx=>gV A B C nilA dH (.bool false) (.int .i64 0) (.int .i64 0) wx):=⟨_,rfl⟩
 refine jA (lX A B C) J Sp [19,20] (by kernel_rfl) (by kernel_rfl) (by kernel_rfl) (fun i v w w' h hk=>by subst hSp;exact h) ?_ ?_ ?_ ?_
 ·intro i o hi lq x wy hI hJ hlf haft
  rw [hJd] at hJ
  have hJ:gV A B C nilA dH (.bool false) (.int .i64 0) (.int .i64 0) wy:=hJ
  have s2:x.eval (.tmp 2)=.pointer (some ⟨A,0,none⟩):=hI.keep 2 _ rfl (by kernel_rfl)
  have s3:x.eval (.tmp 3)=.pointer (some ⟨B,0,none⟩):=hI.keep 3 _ rfl (by kernel_rfl)
  have s4:x.eval (.tmp 4)=.pointer (some ⟨C,0,none⟩):=hI.keep 4 _ rfl (by kernel_rfl)
  have cb:=hJ.bo.cell;have fb:=hJ.bo.free
  obtain ⟨oM,oN,fU⟩:=hJ.fl.cells
  have oO:=fU 0;have oP:=fU 1
  have hjn:∀(l':Nat→Bool),(∀j,l' j=true↔j=i∨lq j=true)→(∀j∈([]:List Nat),i≠j)→∀f,J l' f wy:=by
   intro l' hl hne f
   rw [hJd]
   show gV A B C nilA dH (.bool false) (.int .i64 0) (.int .i64 0) wy
   exact hJ
  rcases i with _|_|_|_|_|i
  all_goals (simp only [List.getElem?_toArray,List.getElem?_cons_zero,List.getElem?_cons_succ,List.getElem?_nil,Option.some.injEq,reduceCtorEq] at hi)
  all_goals subst hi
  ·refine aU rfl ?_
   refine aO (v:=dY nilA dH) ?_ (by subst hSp;exact rfl) (fun l' hl=>hjn l' hl (by decide) _)
   exact uP rfl hJ.st s2
  ·refine aU rfl ?_
   refine aO (v:=.agg #[.int .i64 0,.int .i64 0]) ?_ (by subst hSp;exact rfl) (fun l' hl=>hjn l' hl (by decide) _)
   simp only [execOp,resolve,invoke,List.map_toArray,List.map_cons,List.map_nil,s4];go_simp
  ·refine aU rfl ?_
   have d19:x.eval (.tmp 19)=dY nilA dH:=by have h_:=hI.dep haft 0 19 rfl rfl rfl;rw [hSp] at h_;exact h_
   refine sZ (F:=fun w'=>bZ A nilA dH w'∧Kept (· = A) wy w') (kE rfl hJ.st s2 nilA dH d19) rfl (fun w' hf=>hf.2.more fun _ h=>.inl h) (fun w' hf l' hl=>?_)
   rw [hJd]
   exact hJ.Jv hne hf.2 hf.1
  ·refine aU rfl ?_
   refine iU (w':=wy.setCell ⟨B,0,none⟩ (.bool false)) ?_ rfl (OJ (Kept.refl _ _)) (fun l' hl=>?_)
   ·simp only [execOp,resolve,invoke,List.map_toArray,List.map_cons,List.map_nil,s3];go_simp
   ·rw [hJd];exact hJ.setB hne _
  ·refine aU rfl ?_
   have d20:x.eval (.tmp 20)=.agg #[.int .i64 0,.int .i64 0]:=by have h_:=hI.dep haft 1 20 rfl rfl rfl;rw [hSp] at h_;exact h_
   refine iU (w':=(wy.setCell ⟨C,0,none⟩ (.int .i64 0)).setCell ⟨C,1,none⟩ (.int .i64 0)) ?_ rfl (oh (oh (Kept.refl _ _))) (fun l' hl=>?_)
   ·simp only [execOp,resolve,invoke,List.map_toArray,List.map_cons,List.map_nil,s4,d20];go_simp
   ·rw [hJd];exact hJ.gU hne _ _
 ·intro lq hl
  rw [hJd]
  show gV A B C nilA dH (.bool false) (.int .i64 0) (.int .i64 0) w0.drew
  exact T0.out.drew
 ·intro lq l' f wx hl h
  rw [hJd] at h⊢
  have h:gV A B C nilA dH (.bool false) (.int .i64 0) (.int .i64 0) wx:=h
  show gV A B C nilA dH (.bool false) (.int .i64 0) (.int .i64 0) wx
  exact h
 ·intro f wy hK hS hJ
  rw [hJd] at hJ
  have hJ:gV A B C nilA dH (.bool false) (.int .i64 0) (.int .i64 0) wy:=hJ
  simp only [iI,List.foldl_cons,List.foldl_nil,List.setIfInBounds_toArray,List.set_cons_zero,List.set_cons_succ]
  go_wp2_with fail
  refine ⟨_,oq rfl rfl rfl rfl hJ,lX.new (n:=0) hK K0.out wZ,?_⟩
  rw [er.out]
  exact rfl
structure LT (A B C:Nat) (w:World):Prop where
 tri:qN A B C w
 bo:(∃v,w.cell? ⟨B,0,none⟩=some v)∧w.frozen? ⟨B,0,none⟩=false
 st:∃a s,bZ A a s w
theorem LT.of {A B C:Nat} {w:World} (h:qN A B C w):LT A B C w:=by
 obtain ⟨a,s,v,c0,c1,hT⟩:=h
 exact ⟨⟨a,s,v,c0,c1,hT⟩,⟨⟨_,hT.bo.cell⟩,hT.bo.free⟩,a,s,hT.st⟩
def LJ (A B C N T en:Nat) (l:List aC) (lb:Bool) (w3:World) (p13 Ad p16:Bool) (w:World):Prop :=
 LT A B C w∧Two C (.int .i64 0) (.int .i64 0) w∧(Ad=true→∃st a S,bZ A a st w∧iD en lb l=.ok st∧rE st∧tq w S a st∧∀b,S b→w3.heap.size≤b∧b<w.heap.size)∧(p16=true→dW w B 4 (.bool true))∧(p13=false→dB N T en l 0 w)
section
variable {A B C N T en:Nat} {l:List aC} {lb:Bool} {w3 w:World} {p13 Ad p16:Bool}
theorem LJ.start {a:iM} {s:aG} {v:Value} (h:gV A B C a s v (.int .i64 0) (.int .i64 0) w) (hr:dB N T en l 0 w):LJ A B C N T en l lb w3 false false false w.drew :=
 ⟨LT.of (OI ⟨_,_,_,_,_,h⟩),h.fl,fun e=>(by cases e),fun e=>(by cases e),fun _=>hr.kept (Kept.refl aB w).drew (fun h=>h) (fun h=>h)⟩
theorem LJ.call {w2:World} (hne:A≠B∧A≠C∧B≠C) (h:LJ A B C N T en l lb w3 p13 Ad p16 w) (hk:Kept (· = N) w w2) (hn:A≠N∧B≠N∧C≠N) (h15:Ad=false):LJ A B C N T en l lb w3 true Ad p16 w2:=by
 obtain ⟨h1,h2,h3,h4,h5⟩:=h
 refine ⟨LT.of (h1.tri.kept hk hn),h2.kept hk hn.2.2,fun e=>(by rw [h15] at e;cases e),fun e=>?_,fun e=>by cases e⟩
 unfold dW;rw [hk.block B (h4 e).lt hn.2.1];exact h4 e
theorem LJ.upd {w2:World} {X:Nat→Prop} (h:LJ A B C N T en l lb w3 p13 Ad p16 w) (hk:Kept X w w2) (hX:∀b,X b→b=A∨b=B∨b=C) (hT:qN A B C w2) (hF:Two C (.int .i64 0) (.int .i64 0) w2) (hw:A<w3.heap.size∧B<w3.heap.size∧C<w3.heap.size) (Ae:A≠N∧B≠N∧C≠N∧A≠T∧B≠T∧C≠T∧5≠A∧5≠B∧5≠C)
  (hA:Ad=true→∀a s,bZ A a s w→bZ A a s w2) (hB:p16=true→dW w B 4 (.bool true)→dW w2 B 4 (.bool true)):LJ A B C N T en l lb w3 p13 Ad p16 w2:=by
 obtain ⟨h1,h2,h3,h4,h5⟩:=h
 refine ⟨LT.of hT,hF,fun e=>?_,fun e=>hB e (h4 e),fun e=>(h5 e).kept hk (fun hx=>by have:=hX _ hx;omega) (fun hx=>by have:=hX _ hx;omega) (fun hx=>by have:=hX _ hx;omega)⟩
 obtain ⟨st,a,S,x1,x2,x3,x4,x5⟩:=h3 e
 exact ⟨st,a,S,hA e a st x1,x2,x3,x4.to hk (fun b hb=>⟨(x5 b hb).2,fun hx=>by have:=x5 b hb;have:=hX _ hx;omega⟩) (fun _ h=>h),fun b hb=>⟨(x5 b hb).1,Nat.lt_of_lt_of_le (x5 b hb).2 hk.size⟩⟩
theorem LJ.sB (hne:A≠B∧A≠C∧B≠C) (h:LJ A B C N T en l lb w3 p13 Ad p16 w) (hw:A<w3.heap.size∧B<w3.heap.size∧C<w3.heap.size) (Ae:A≠N∧B≠N∧C≠N∧A≠T∧B≠T∧C≠T∧5≠A∧5≠B∧5≠C):LJ A B C N T en l lb w3 p13 Ad true (w.setCell ⟨B,0,none⟩ (.bool true)):=by
 have k:Kept (· = B) w (w.setCell ⟨B,0,none⟩ (.bool true)):=(Kept.refl (· = B) w).setCell (p:=⟨B,0,none⟩) (.inl rfl) _
 have hc:=RH (v:=.bool true) h.1.tri
 obtain ⟨a1,a2,a3,a4,a5⟩:=LJ.upd h k (fun b hb=>.inr (.inl hb)) (aaT hne h.1.tri) (aaU hne h.2.1) hw Ae (fun _ _ _ x=>aek hne x) (fun _ _=>hc)
 exact ⟨a1,a2,a3,fun _=>hc,a5⟩
theorem LJ.sF (hne:A≠B∧A≠C∧B≠C) (h:LJ A B C N T en l lb w3 p13 Ad p16 w) (hw:A<w3.heap.size∧B<w3.heap.size∧C<w3.heap.size) (Ae:A≠N∧B≠N∧C≠N∧A≠T∧B≠T∧C≠T∧5≠A∧5≠B∧5≠C):LJ A B C N T en l lb w3 p13 Ad p16 ((w.setCell ⟨C,0,none⟩ (.int .i64 0)).setCell ⟨C,1,none⟩ (.int .i64 0)):=by
 have k:Kept (· = C) w ((w.setCell ⟨C,0,none⟩ (.int .i64 0)).setCell ⟨C,1,none⟩ (.int .i64 0)):=((Kept.refl (· = C) w).setCell (p:=⟨C,0,none⟩) (.inl rfl) _).setCell (p:=⟨C,1,none⟩) (.inl rfl) _
 exact LJ.upd h k (fun b hb=>.inr (.inr hb)) (Xm hne (Xl hne h.1.tri)) (RI h.1.tri) hw Ae (fun _ _ _ x=>Ul hne (Ul hne x)) (fun _ x=>LX hne (LX hne x))
theorem LJ.sS {w2:World} {st:aG} {a:iM} {S:Nat→Prop} (hne:A≠B∧A≠C∧B≠C) (h:LJ A B C N T en l lb w3 p13 Ad p16 w) (hk:Kept (· = A) w w2) (hB:bZ A a st w2) (hu:iD en lb l=.ok st) (hz:rE st) (ho:tq w S a st) (hS:∀b,S b→w3.heap.size≤b∧b<w.heap.size)
  (hw:A<w3.heap.size∧B<w3.heap.size∧C<w3.heap.size) (Ae:A≠N∧B≠N∧C≠N∧A≠T∧B≠T∧C≠T∧5≠A∧5≠B∧5≠C):LJ A B C N T en l lb w3 p13 true p16 w2:=by
 obtain ⟨h1,h2,h3,h4,h5⟩:=h
 obtain ⟨a0,s0,v0,d0,d1,hT⟩:=h1.tri
 have hT2:qN A B C w2:=⟨_,_,_,_,_,hT.Jv hne hk hB⟩
 refine ⟨LT.of hT2,h2.kept hk (fun e=>hne.2.1 e.symm),fun _=>⟨st,a,S,hB,hu,hz,ho.to hk (fun b hb=>⟨(hS b hb).2,by have:=hS b hb;omega⟩) (fun _ h=>h),fun b hb=>⟨(hS b hb).1,Nat.lt_of_lt_of_le (hS b hb).2 hk.size⟩⟩,fun e=>?_,fun e=>(h5 e).kept hk (by omega) (by omega) (by omega)⟩
 unfold dW;rw [hk.block B (h4 e).lt (fun e=>hne.1 e.symm)];exact h4 e
end
theorem Xo (s:aj):yx s=((!s.toList.isEmpty&&decide (peek s 0≠32))&&decide (peek s 0≠58)):=by
 unfold yx
 by_cases h:s=E0
 ·subst h;rw [kZ];exact au (fun h=>h.1 rfl)
 ·rw [oL h]
  have h2:s.size≠0:=fun e=>h (by
   apply ByteArray.ext;apply Array.toList_inj.1
   have:s.data.toList.length=0:=by have e_:s.data.toList.length=s.size:=rfl;omega
   rw [List.length_eq_zero_iff.1 this];rfl)
  by_cases h3:peek s 0=32
  ·simp [h3]
  ·by_cases h4:peek s 0=58
   ·simp [h4]
   ·simp [h2,h3,h4]
theorem Un (s:aj) (w:World) (hs:s.size≤1000000000) (hm:rG w) (hr:jC w) (h0:s=E0):Calls Tryz.prog 23 #[.string s] w (Ic s w):=by
 have HL:Hid (lU s=match kV s with
  | .error er=>.error er
  | .ok l=>match iD s.size (yx s) l with
   | .error er=>.error er
   | .ok x=>.ok (some x)):=by unfold Hid lU;rw [if_neg (by rw [h0];intro h;exact absurd h.1 (by decide))];rfl
 obtain ⟨w0,hw0⟩:∃w0,w0=((w.alloc (.cells #[.string ⟨#[]⟩,.int .i64 0,.int .i64 0,.string ⟨#[]⟩,.int .i64 0,.string ⟨#[]⟩,.slice none 0 0,.int .i64 0,.string ⟨#[]⟩,.int .i64 0,.string ⟨#[]⟩,.slice none 0 0,.int .i64 0,.string ⟨#[]⟩,.int .i64 0,.string ⟨#[]⟩,.slice none 0 0,.string ⟨#[]⟩,.string ⟨#[]⟩,.slice none 0 0,.slice none 0 0,.string ⟨#[]⟩,.string ⟨#[]⟩,.string ⟨#[]⟩] 59)).alloc (.cells #[.bool false] 4)).alloc (.cells #[.int .i64 0,.int .i64 0] 39):=⟨_,rfl⟩
 have k0:Kept aB w w0:=by rw [hw0];exact (((Kept.refl _ _).alloc _).alloc _).alloc _
 have T0:Hid (gV w.heap.size (w.heap.size+1) (w.heap.size+1+1) nilA dH (.bool false) (.int .i64 0) (.int .i64 0) w0):=by
  rw [hw0]
  refine ⟨(bZ.new w nilA dH).kept (((Kept.refl aB _).alloc _).alloc _) (fun h=>h),?_,?_⟩
  ·have h1:dW ((w.alloc (.cells #[.string ⟨#[]⟩,.int .i64 0,.int .i64 0,.string ⟨#[]⟩,.int .i64 0,.string ⟨#[]⟩,.slice none 0 0,.int .i64 0,.string ⟨#[]⟩,.int .i64 0,.string ⟨#[]⟩,.slice none 0 0,.int .i64 0,.string ⟨#[]⟩,.int .i64 0,.string ⟨#[]⟩,.slice none 0 0,.string ⟨#[]⟩,.string ⟨#[]⟩,.slice none 0 0,.slice none 0 0,.string ⟨#[]⟩,.string ⟨#[]⟩,.string ⟨#[]⟩] 59)).alloc (.cells #[.bool false] 4)) (w.heap.size+1) 4 (.bool false):=dX (by simp)
   unfold dW;rw [Below.heap_alloc _ _ _ h1.lt];exact h1
  ·exact dX (by simp)
 have hsz0:w0.heap.size=w.heap.size+3:=by rw [hw0];simp
 have HW0:=ah hw0
 have K0:=ah k0
 have M0:=ah (hm.kept k0 (fun h=>h))
 have G0:Hid (jC w0):=by obtain ⟨ev,h1,h2⟩:=hr;exact ⟨ev,(k0.cell (cell_lt h1) (fun h=>h)).trans h1,h2⟩
 have RJ:5<w.heap.size:=by obtain ⟨ev,h1,h2⟩:=hr;exact cell_lt h1
 clear hw0 k0 hm hr
 go_enter_defers Tryz.func23, Tryz.ntmps23
 go_upto_region 1 with fail
 rw [←HW0.out]
 obtain ⟨C,hC⟩:∃C,C=w.heap.size+1+1:=⟨_,rfl⟩
 rw [←hC] at T0⊢
 obtain ⟨B,hB⟩:∃B,B=w.heap.size+1:=⟨_,rfl⟩
 rw [←hB] at T0⊢
 obtain ⟨A,hA⟩:∃A,A=w.heap.size:=⟨_,rfl⟩
 rw [←hA] at T0⊢
 have hne:A≠B∧A≠C∧B≠C:=by omega
 have wZ:w.heap.size≤A∧w.heap.size≤B∧w.heap.size≤C:=by omega
 have hlt:A<w0.heap.size∧B<w0.heap.size∧C<w0.heap.size:=by omega
 clear hA hB hC hsz0
 have s0:s.toList.isEmpty=true:=by rw [h0];exact kZ
 clear h0
 have aep:=hs
 cases hx:kV s with
 | error er =>
  have fin:Hid (lU s=.error er):=by unfold Hid;rw [HL.out,hx]
  have her:=Gg hx
  have e1:(er.1 != 0)=true:=by simpa using her
  go_upto_region 4 with (go_at_call 32;(refine (rW s w0 hs M0.out).mono ?_);intro e w1 h_;obtain ⟨k_,h_⟩:=h_;rw [hx] at h_;obtain rfl:=h_;have T1:=ah (T0.out.kept k_ ⟨fun h=>h,fun h=>h,fun h=>h⟩);have K1:=ah (K0.out.trans k_);obtain ⟨oM,oN,fU⟩:=T1.out.fl.cells;have oO:=fU 0;have oP:=fU 1;clear k_ fU)
  have T2:=ah (T1.out.gU hne (.int .i64 er.1) (.int .i64 er.2))
  have K2:=ah (lX.new (n:=0) (oh (i:=1) (d:=.int .i64 er.2) (oh (i:=0) (d:=.int .i64 er.1) (A:=A) (B:=B) (C:=C) (Kept.refl _ w1))) K1.out wZ)
  obtain ⟨w2,hw2⟩:∃w2,w2=(w1.setCell ⟨C,0,none⟩ (.int .i64 er.1)).setCell ⟨C,1,none⟩ (.int .i64 er.2):=⟨_,rfl⟩
  rw [←hw2] at T2 K2
  rw [←hw2]
  clear hw2 oM oN oO oP
  obtain ⟨oM,oN,fU⟩:=T2.out.fl.cells
  have oO:=fU 0;have oP:=fU 1
  go_upto_region 5 with fail
  clear oM oN fU oO oP
  obtain ⟨Sp,hSp⟩:∃Sp:Nat→Value→World→Prop,Sp=(fun i v wx=>match i with
   | 0=>v=dY nilA dH
   | 1=>v=.agg #[.int .i64 er.1,.int .i64 er.2]
   | _=>True):=⟨_,rfl⟩
  obtain ⟨J,hJd⟩:∃J:(Nat→Bool)→(Nat→Value)→World→Prop,J=(fun pp f wx=>gV A B C nilA dH (.bool false) (.int .i64 er.1) (.int .i64 er.2) wx):=⟨_,rfl⟩
  refine jA (lX A B C) J Sp [29,30] (by kernel_rfl) (by kernel_rfl) (by kernel_rfl) (fun i v w w' h hk=>by subst hSp;exact h) ?_ ?_ ?_ ?_
  ·intro i o hi lq x wy hI hJ hlf haft
   rw [hJd] at hJ
   have hJ:gV A B C nilA dH (.bool false) (.int .i64 er.1) (.int .i64 er.2) wy:=hJ
   have s2:x.eval (.tmp 2)=.pointer (some ⟨A,0,none⟩):=hI.keep 2 _ rfl (by kernel_rfl)
   have s3:x.eval (.tmp 3)=.pointer (some ⟨B,0,none⟩):=hI.keep 3 _ rfl (by kernel_rfl)
   have s4:x.eval (.tmp 4)=.pointer (some ⟨C,0,none⟩):=hI.keep 4 _ rfl (by kernel_rfl)
   have cb:=hJ.bo.cell;have fb:=hJ.bo.free
   obtain ⟨oM,oN,fU⟩:=hJ.fl.cells
   have oO:=fU 0;have oP:=fU 1
   have hjn:∀(l':Nat→Bool),(∀j,l' j=true↔j=i∨lq j=true)→(∀j∈([]:List Nat),i≠j)→∀f,J l' f wy:=by
    intro l' hl hne f
    rw [hJd]
    show gV A B C nilA dH (.bool false) (.int .i64 er.1) (.int .i64 er.2) wy
    exact hJ
   rcases i with _|_|_|_|_|i
   all_goals (simp only [List.getElem?_toArray,List.getElem?_cons_zero,List.getElem?_cons_succ,List.getElem?_nil,Option.some.injEq,reduceCtorEq] at hi)
   all_goals subst hi
   ·refine aU rfl ?_
    refine aO (v:=dY nilA dH) ?_ (by subst hSp;exact rfl) (fun l' hl=>hjn l' hl (by decide) _)
    exact uP rfl hJ.st s2
   ·refine aU rfl ?_
    refine aO (v:=.agg #[.int .i64 er.1,.int .i64 er.2]) ?_ (by subst hSp;exact rfl) (fun l' hl=>hjn l' hl (by decide) _)
    simp only [execOp,resolve,invoke,List.map_toArray,List.map_cons,List.map_nil,s4];go_simp
   ·refine aU rfl ?_
    have Xp:x.eval (.tmp 29)=dY nilA dH:=by have h_:=hI.dep haft 0 29 rfl rfl rfl;rw [hSp] at h_;exact h_
    refine sZ (F:=fun w'=>bZ A nilA dH w'∧Kept (· = A) wy w') (kE rfl hJ.st s2 nilA dH Xp) rfl (fun w' hf=>hf.2.more fun _ h=>.inl h) (fun w' hf l' hl=>?_)
    rw [hJd]
    exact hJ.Jv hne hf.2 hf.1
   ·refine aU rfl ?_
    refine iU (w':=wy.setCell ⟨B,0,none⟩ (.bool false)) ?_ rfl (OJ (Kept.refl _ _)) (fun l' hl=>?_)
    ·simp only [execOp,resolve,invoke,List.map_toArray,List.map_cons,List.map_nil,s3];go_simp
    ·rw [hJd];exact hJ.setB hne _
   ·refine aU rfl ?_
    have Xq:x.eval (.tmp 30)=.agg #[.int .i64 er.1,.int .i64 er.2]:=by have h_:=hI.dep haft 1 30 rfl rfl rfl;rw [hSp] at h_;exact h_
    refine iU (w':=(wy.setCell ⟨C,0,none⟩ (.int .i64 er.1)).setCell ⟨C,1,none⟩ (.int .i64 er.2)) ?_ rfl (oh (oh (Kept.refl _ _))) (fun l' hl=>?_)
    ·simp only [execOp,resolve,invoke,List.map_toArray,List.map_cons,List.map_nil,s4,Xq];go_simp
    ·rw [hJd];exact hJ.gU hne _ _
  ·intro lq hl
   rw [hJd]
   show gV A B C nilA dH (.bool false) (.int .i64 er.1) (.int .i64 er.2) w2.drew
   exact T2.out.drew
  ·intro lq l' f wx hl h
   rw [hJd] at h⊢
   have h:gV A B C nilA dH (.bool false) (.int .i64 er.1) (.int .i64 er.2) wx:=h
   show gV A B C nilA dH (.bool false) (.int .i64 er.1) (.int .i64 er.2) wx
   exact h
  ·intro f wy hK hS hJ
   rw [hJd] at hJ
   have hJ:gV A B C nilA dH (.bool false) (.int .i64 er.1) (.int .i64 er.2) wy:=hJ
   simp only [iI,List.foldl_cons,List.foldl_nil,List.setIfInBounds_toArray,List.set_cons_zero,List.set_cons_succ]
   go_wp2_with fail
   refine ⟨_,oq rfl rfl rfl rfl hJ,lX.new (n:=0) hK K2.out wZ,?_⟩
   rw [fin.out]
   exact rfl
 | ok l =>
  obtain ⟨hgood,hlen,hs2⟩:=DR hx
  have HG:=ah hgood;have yt:=ah hlen
  have fin:Hid (lU s=match iD s.size (yx s) l with | .error er=>.error er | .ok x=>.ok (some x)):=by unfold Hid;rw [HL.out,hx]
  clear hgood hlen
  go_upto_region 4 with (go_at_call 32;(refine (rW s w0 hs M0.out).mono ?_);intro e w1 h_;obtain ⟨k_,h_⟩:=h_;rw [hx] at h_;obtain ⟨la,lc,rfl,aK⟩:=h_;have WN:=ah aK;have T1:=ah (T0.out.kept k_ ⟨fun h=>h,fun h=>h,fun h=>h⟩);have rC:=ah k_;have K1:=ah (K0.out.trans k_);obtain ⟨oM,oN,fU⟩:=T1.out.fl.cells;have oO:=fU 0;have oP:=fU 1;clear k_ fU aK)
  have T2:=ah (T1.out.gU hne (.int .i64 0) (.int .i64 0))
  have Af:=ah (oh (i:=1) (d:=.int .i64 0) (oh (i:=0) (d:=.int .i64 0) (A:=A) (B:=B) (C:=C) (Kept.refl _ w1)))
  have K2:=ah (lX.new (n:=0) Af.out K1.out wZ)
  obtain ⟨w2,hw2⟩:∃w2,w2=(w1.setCell ⟨C,0,none⟩ (.int .i64 0)).setCell ⟨C,1,none⟩ (.int .i64 0):=⟨_,rfl⟩
  rw [←hw2] at T2 K2 Af
  rw [←hw2]
  clear hw2 oM oN oO oP
  obtain ⟨oM,oN,fU⟩:=T2.out.fl.cells
  have oO:=fU 0;have oP:=fU 1
  have hmf:∀(fn:Fn) (first cap:Array Value) (w:World),(Instr.makeFunc fn first cap).run Tryz.prog w=.ok (.func fn first cap) w:=fun _ _ _ _=>rfl
  go_upto_region 8 with fail
  clear oM oN fU oO oP
  obtain ⟨w3,hw3⟩:∃w3,w3=w2.alloc (.cells #[.slice la l.length lc,.int .i64 s.size,.int .i64 0] 83):=⟨_,rfl⟩
  have k3:Kept aB w2 w3:=by rw [hw3];exact (Kept.refl _ _).alloc _
  have X3:w3.heap[w2.heap.size]?=some (.cells #[.slice la l.length lc,.int .i64 s.size,.int .i64 0] 83 (0,0)):=by rw [hw3];exact ay w2 _
  obtain ⟨N,hN⟩:∃N,N=w2.heap.size:=⟨_,rfl⟩
  rw [←hN] at X3
  rw [←hw3,←hN]
  have ZT:=Af.out.size;have OM:=rC.out.size
  have hNA:A<N∧B<N∧C<N∧w0.heap.size≤N:=by omega
  have hlN:N<w3.heap.size:=(Array.getElem?_eq_some_iff.1 X3).1
  have R3:Hid (∃T,dB N T s.size l 0 w3∧A≠T∧B≠T∧C≠T):=by
   have hg2:jC w2:=by
    obtain ⟨ev,h1,h2⟩:=G0.out
    have e1:¬lX A B C 5:=fun h=>by rcases h with h|h|h<;>omega
    exact ⟨ev,(Af.out.cell (Nat.lt_of_lt_of_le (cell_lt h1) OM) e1).trans ((rC.out.cell (cell_lt h1) (fun h=>h)).trans h1),h2⟩
   have hg3:jC w3:=by obtain ⟨ev,h1,h2⟩:=hg2;exact ⟨ev,(k3.cell (cell_lt h1) (fun h=>h)).trans h1,h2⟩
   rcases WN.out.cells with ⟨hv,hn⟩|⟨g,o,c',hv,hg1,hgl,hcap,hcm,hc⟩
   ·simp only [Value.slice.injEq] at hv
    obtain ⟨rfl,_,rfl⟩:=hv
    obtain rfl:l=[]:=List.length_eq_zero_iff.1 hn
    exact ⟨5,⟨0,none,0,X3,rfl,Nat.le_refl _,fun h=>absurd rfl h,by omega,by have:=k3.size;omega,by omega,HG.out,by omega,hg3⟩,by omega,by omega,by omega⟩
   ·simp only [Value.slice.injEq,true_and] at hv
    obtain ⟨rfl,rfl⟩:=hv
    have hgn:g<N:=by omega
    have hgi:¬lX A B C g:=fun h=>by rcases h with h|h|h<;>omega
    exact ⟨g,⟨l.length,_,_,X3,rfl,hcap,fun _=>⟨o,rfl,fun j u hu=>(k3.cell (by omega) (fun h=>h)).trans ((Af.out.cell hgl hgi).trans (hc j u hu).1)⟩,by omega,by omega,by unfold maxLen at hcm;omega,HG.out,by omega,hg3⟩,by omega,by omega,by omega⟩
  obtain ⟨T,R3,hTA⟩:=R3.out
  have T3:=ah (T2.out.kept k3 ⟨fun h=>h,fun h=>h,fun h=>h⟩)
  have K3:=ah (K2.out.trans k3)
  have R3:=ah R3
  clear hw3 k3 X3 hN ZT OM WN T2 K2 Af rC T1 K1 T0 M0 G0 HG
  have OO:Hid (yx s=((!s.toList.isEmpty&&decide (peek s 0≠32))&&decide (peek s 0≠58))):=Xo s
  obtain ⟨lb,hlb⟩:∃lb,lb=yx s:=⟨_,rfl⟩
  rw [←hlb] at OO fin
  obtain ⟨en,hen⟩:∃en,en=s.size:=⟨_,rfl⟩
  rw [←hen] at R3 fin
  have Ae:A≠N∧B≠N∧C≠N∧A≠T∧B≠T∧C≠T∧5≠A∧5≠B∧5≠C:=by omega
  obtain ⟨Sp,hSp⟩:∃Sp:Nat→Value→World→Prop,Sp=(fun i v wx=>match i with
   | 0=>v=.pointer (some ⟨N,0,none⟩)
   | 1=>v=.string s
   | 2=>v=.bool (!s.toList.isEmpty)
   | 3=>v=.bool (!s.toList.isEmpty)
   | 4=>(!s.toList.isEmpty)=true→v=.string s
   | 5=>(!s.toList.isEmpty)=true→v=.int .u8 (peek s 0)
   | 6=>(!s.toList.isEmpty)=true→v=.bool (decide (peek s 0≠32))
   | 7=>v=.bool (!s.toList.isEmpty&&decide (peek s 0≠32))
   | 8=>v=.bool (!s.toList.isEmpty&&decide (peek s 0≠32))
   | 9=>(!s.toList.isEmpty&&decide (peek s 0≠32))=true→v=.string s
   | 10=>(!s.toList.isEmpty&&decide (peek s 0≠32))=true→v=.int .u8 (peek s 0)
   | 11=>(!s.toList.isEmpty&&decide (peek s 0≠32))=true→v=.bool (decide (peek s 0≠58))
   | 12=>v=.bool lb
   | 13=>∃st a S,v=dY a st∧iD en lb l=.ok st∧rE st∧tq wx S a st∧∀b,S b→w3.heap.size≤b∧b<wx.heap.size
   | 14=>v=.agg #[.int .i64 0,.int .i64 0]
   | _=>True):=⟨_,rfl⟩
  obtain ⟨J,hJd⟩:∃J:(Nat→Bool)→(Nat→Value)→World→Prop,J=(fun pp f wx=>LJ A B C N T en l lb w3 (pp 13) (pp 15) (pp 16) wx):=⟨_,rfl⟩
  refine jA (fun b=>b=N∨lX A B C b) J Sp [37,38,39,40,41,42,43,44,45,46,47,48,49,50,51] (by kernel_rfl) (by kernel_rfl) (by kernel_rfl) (fun i v w w' h hk=>by subst hSp;rcases i with _|_|_|_|_|_|_|_|_|_|_|_|_|_|_|i;all_goals first|exact h|(obtain ⟨st,a,S,h1,h2,h3,h4,h5⟩:=h;exact ⟨st,a,S,h1,h2,h3,h4.to hk (fun b hb=>⟨(h5 b hb).2,fun hx=>by have:=h5 b hb;rcases hx with h|h|h|h<;>omega⟩) (fun _ h=>h),fun b hb=>⟨(h5 b hb).1,Nat.lt_of_lt_of_le (h5 b hb).2 hk.size⟩⟩)) ?_ ?_ ?_ ?_
  ·intro i o hi lq x wy hI hJ hlf haft
   rw [hJd] at hJ
   have hJ:LJ A B C N T en l lb w3 (lq 13) (lq 15) (lq 16) wy:=hJ
   have s0:x.eval (.tmp 0)=.string s:=hI.keep 0 _ rfl (by kernel_rfl)
   have s2:x.eval (.tmp 2)=.pointer (some ⟨A,0,none⟩):=hI.keep 2 _ rfl (by kernel_rfl)
   have s3:x.eval (.tmp 3)=.pointer (some ⟨B,0,none⟩):=hI.keep 3 _ rfl (by kernel_rfl)
   have s4:x.eval (.tmp 4)=.pointer (some ⟨C,0,none⟩):=hI.keep 4 _ rfl (by kernel_rfl)
   have s6:x.eval (.tmp 6)=.pointer (some ⟨N,0,none⟩):=hI.keep 6 _ rfl (by kernel_rfl)
   have hsz:x.tmps.size=52:=hI.size
   obtain ⟨⟨vb,cb⟩,fb⟩:=hJ.1.bo
   obtain ⟨oM,oN,fU⟩:=hJ.2.1.cells
   have oO:=fU 0;have oP:=fU 1
   have hjn:∀(l':Nat→Bool),(∀j,l' j=true↔j=i∨lq j=true)→(∀j∈([13,15,16]:List Nat),i≠j)→∀f,J l' f wy:=by
    intro l' hl hne f
    rw [hJd]
    show LJ A B C N T en l lb w3 (l' 13) (l' 15) (l' 16) wy
    rw [upd_ne hl 13 (Ne.symm (hne 13 (by simp)))]
    rw [upd_ne hl 15 (Ne.symm (hne 15 (by simp)))]
    rw [upd_ne hl 16 (Ne.symm (hne 16 (by simp)))]
    exact hJ
   rcases i with _|_|_|_|_|_|_|_|_|_|_|_|_|_|_|_|_|_|i
   all_goals (simp only [List.getElem?_toArray,List.getElem?_cons_zero,List.getElem?_cons_succ,List.getElem?_nil,Option.some.injEq,reduceCtorEq] at hi)
   all_goals subst hi
   ·refine aU rfl ?_
    refine aO (v:=.pointer (some ⟨N,0,none⟩)) ?_ (by subst hSp;exact rfl) (fun l' hl=>hjn l' hl (by decide) _)
    simp only [execOp,resolve,invoke,List.map_toArray,List.map_cons,List.map_nil,s6];go_simp
   ·refine aU rfl ?_
    refine aO (v:=.string s) ?_ (by subst hSp;exact rfl) (fun l' hl=>hjn l' hl (by decide) _)
    simp only [execOp,resolve,invoke,List.map_toArray,List.map_cons,List.map_nil,s0];go_simp
   ·refine aU rfl ?_
    have d38:x.eval (.tmp 38)=.string s:=by have h_:=hI.dep haft 1 38 rfl rfl rfl;rw [hSp] at h_;exact h_
    refine aO (v:=.bool (!s.toList.isEmpty)) ?_ (by subst hSp;exact rfl) (fun l' hl=>hjn l' hl (by decide) _)
    simp only [execOp,resolve,invoke,List.map_toArray,List.map_cons,List.map_nil,d38];go_simp;try rfl
   ·refine aU rfl ?_
    have d39:x.eval (.tmp 39)=.bool (!s.toList.isEmpty):=by have h_:=hI.dep haft 2 39 rfl rfl rfl;rw [hSp] at h_;exact h_
    refine aO (v:=.bool (!s.toList.isEmpty)) ?_ (by subst hSp;exact rfl) (fun l' hl=>hjn l' hl (by decide) _)
    simp only [execOp,resolve,invoke,List.map_toArray,List.map_cons,List.map_nil,d39];go_simp
   ·have rX:x.eval (.tmp 40)=.bool (!s.toList.isEmpty):=by have h_:=hI.dep haft 3 40 rfl rfl rfl;rw [hSp] at h_;exact h_
    refine pR (j:=3) rfl rfl rfl rX (by rw [hsz];decide) (fun hb=>?_) (fun hb=>⟨fun d hd=>by subst hSp;exact fun h=>(by rw [hb] at h;cases h),fun l' hl=>hjn l' hl (by decide) _⟩)
    refine aO (v:=.string s) ?_ (by subst hSp;exact fun _=>rfl) (fun l' hl=>hjn l' hl (by decide) _)
    simp only [execOp,resolve,invoke,List.map_toArray,List.map_cons,List.map_nil,s0];go_simp
   ·have rX:x.eval (.tmp 40)=.bool (!s.toList.isEmpty):=by have h_:=hI.dep haft 3 40 rfl rfl rfl;rw [hSp] at h_;exact h_
    refine pR (j:=3) rfl rfl rfl rX (by rw [hsz];decide) (fun hb=>?_) (fun hb=>⟨fun d hd=>by subst hSp;exact fun h=>(by rw [hb] at h;cases h),fun l' hl=>hjn l' hl (by decide) _⟩)
    have d41:x.eval (.tmp 41)=.string s:=by have h_:=hI.dep haft 4 41 rfl rfl rfl;rw [hSp] at h_;exact h_ hb
    have hbe:=hb
    have hp0:0<s.size:=by (by_cases hz:0<s.size;exact hz;exfalso;have e0:s=E0:=(by apply ByteArray.ext;apply Array.toList_inj.1;have:s.data.toList.length=0:=(by have e_:s.data.toList.length=s.size:=rfl;omega);rw [List.length_eq_zero_iff.1 this];rfl);rw [e0,kZ] at hbe;cases hbe)
    have hbi:(0:Int)<(s.size:Int):=by omega
    refine aO (v:=.int .u8 (peek s 0)) ?_ (by subst hSp;exact fun _=>rfl) (fun l' hl=>hjn l' hl (by decide) _)
    rw [jX hp0]
    simp only [execOp,resolve,invoke,List.map_toArray,List.map_cons,List.map_nil,d41];go_simp
   ·have rX:x.eval (.tmp 40)=.bool (!s.toList.isEmpty):=by have h_:=hI.dep haft 3 40 rfl rfl rfl;rw [hSp] at h_;exact h_
    refine pR (j:=3) rfl rfl rfl rX (by rw [hsz];decide) (fun hb=>?_) (fun hb=>⟨fun d hd=>by subst hSp;exact fun h=>(by rw [hb] at h;cases h),fun l' hl=>hjn l' hl (by decide) _⟩)
    have d42:x.eval (.tmp 42)=.int .u8 (peek s 0):=by have h_:=hI.dep haft 5 42 rfl rfl rfl;rw [hSp] at h_;exact h_ hb
    refine aO (v:=.bool (decide (peek s 0≠32))) ?_ (by subst hSp;exact fun _=>rfl) (fun l' hl=>hjn l' hl (by decide) _)
    simp only [execOp,resolve,invoke,List.map_toArray,List.map_cons,List.map_nil,d42];go_simp;try rfl
   ·refine aU rfl ?_
    have rX:x.eval (.tmp 40)=.bool (!s.toList.isEmpty):=by have h_:=hI.dep haft 3 40 rfl rfl rfl;rw [hSp] at h_;exact h_
    have OQ:(!s.toList.isEmpty)=true→x.eval (.tmp 43)=.bool (decide (peek s 0≠32)):=by have h_:=hI.dep haft 6 43 rfl rfl rfl;rw [hSp] at h_;exact h_
    refine aO (v:=.bool (!s.toList.isEmpty&&decide (peek s 0≠32))) ?_ (by subst hSp;exact rfl) (fun l' hl=>hjn l' hl (by decide) _)
    cases hb:(!s.toList.isEmpty) with
    | true=>have OQ:=OQ hb;rw [hb] at rX;simp only [execOp,resolve,invoke,List.map_toArray,List.map_cons,List.map_nil,rX,OQ];go_simp;try rfl
    | false=>rw [hb] at rX;simp only [execOp,resolve,invoke,List.map_toArray,List.map_cons,List.map_nil,rX];go_simp;try rfl
   ·refine aU rfl ?_
    have d44:x.eval (.tmp 44)=.bool (!s.toList.isEmpty&&decide (peek s 0≠32)):=by have h_:=hI.dep haft 7 44 rfl rfl rfl;rw [hSp] at h_;exact h_
    refine aO (v:=.bool (!s.toList.isEmpty&&decide (peek s 0≠32))) ?_ (by subst hSp;exact rfl) (fun l' hl=>hjn l' hl (by decide) _)
    simp only [execOp,resolve,invoke,List.map_toArray,List.map_cons,List.map_nil,d44];go_simp
   ·have rY:x.eval (.tmp 45)=.bool (!s.toList.isEmpty&&decide (peek s 0≠32)):=by have h_:=hI.dep haft 8 45 rfl rfl rfl;rw [hSp] at h_;exact h_
    refine pR (j:=8) rfl rfl rfl rY (by rw [hsz];decide) (fun hb=>?_) (fun hb=>⟨fun d hd=>by subst hSp;exact fun h=>(by rw [hb] at h;cases h),fun l' hl=>hjn l' hl (by decide) _⟩)
    refine aO (v:=.string s) ?_ (by subst hSp;exact fun _=>rfl) (fun l' hl=>hjn l' hl (by decide) _)
    simp only [execOp,resolve,invoke,List.map_toArray,List.map_cons,List.map_nil,s0];go_simp
   ·have rY:x.eval (.tmp 45)=.bool (!s.toList.isEmpty&&decide (peek s 0≠32)):=by have h_:=hI.dep haft 8 45 rfl rfl rfl;rw [hSp] at h_;exact h_
    refine pR (j:=8) rfl rfl rfl rY (by rw [hsz];decide) (fun hb=>?_) (fun hb=>⟨fun d hd=>by subst hSp;exact fun h=>(by rw [hb] at h;cases h),fun l' hl=>hjn l' hl (by decide) _⟩)
    have d46:x.eval (.tmp 46)=.string s:=by have h_:=hI.dep haft 9 46 rfl rfl rfl;rw [hSp] at h_;exact h_ hb
    have hbe:(!s.toList.isEmpty)=true:=by rw [Bool.and_eq_true] at hb;exact hb.1
    have hp0:0<s.size:=by (by_cases hz:0<s.size;exact hz;exfalso;have e0:s=E0:=(by apply ByteArray.ext;apply Array.toList_inj.1;have:s.data.toList.length=0:=(by have e_:s.data.toList.length=s.size:=rfl;omega);rw [List.length_eq_zero_iff.1 this];rfl);rw [e0,kZ] at hbe;cases hbe)
    have hbi:(0:Int)<(s.size:Int):=by omega
    refine aO (v:=.int .u8 (peek s 0)) ?_ (by subst hSp;exact fun _=>rfl) (fun l' hl=>hjn l' hl (by decide) _)
    rw [jX hp0]
    simp only [execOp,resolve,invoke,List.map_toArray,List.map_cons,List.map_nil,d46];go_simp
   ·have rY:x.eval (.tmp 45)=.bool (!s.toList.isEmpty&&decide (peek s 0≠32)):=by have h_:=hI.dep haft 8 45 rfl rfl rfl;rw [hSp] at h_;exact h_
    refine pR (j:=8) rfl rfl rfl rY (by rw [hsz];decide) (fun hb=>?_) (fun hb=>⟨fun d hd=>by subst hSp;exact fun h=>(by rw [hb] at h;cases h),fun l' hl=>hjn l' hl (by decide) _⟩)
    have d47:x.eval (.tmp 47)=.int .u8 (peek s 0):=by have h_:=hI.dep haft 10 47 rfl rfl rfl;rw [hSp] at h_;exact h_ hb
    refine aO (v:=.bool (decide (peek s 0≠58))) ?_ (by subst hSp;exact fun _=>rfl) (fun l' hl=>hjn l' hl (by decide) _)
    simp only [execOp,resolve,invoke,List.map_toArray,List.map_cons,List.map_nil,d47];go_simp;try rfl
   ·refine aU rfl ?_
    have rY:x.eval (.tmp 45)=.bool (!s.toList.isEmpty&&decide (peek s 0≠32)):=by have h_:=hI.dep haft 8 45 rfl rfl rfl;rw [hSp] at h_;exact h_
    have OT:(!s.toList.isEmpty&&decide (peek s 0≠32))=true→x.eval (.tmp 48)=.bool (decide (peek s 0≠58)):=by have h_:=hI.dep haft 11 48 rfl rfl rfl;rw [hSp] at h_;exact h_
    refine aO (v:=.bool lb) ?_ (by subst hSp;exact rfl) (fun l' hl=>hjn l' hl (by decide) _)
    cases hb:(!s.toList.isEmpty&&decide (peek s 0≠32)) with
    | true=>have OT:=OT hb;rw [hb] at rY;rw [OO.out,hb,Bool.true_and];simp only [execOp,resolve,invoke,List.map_toArray,List.map_cons,List.map_nil,rY,OT];go_simp;try rfl
    | false=>rw [hb] at rY;rw [OO.out,hb,Bool.false_and];simp only [execOp,resolve,invoke,List.map_toArray,List.map_cons,List.map_nil,rY];go_simp;try rfl
   ·refine aU rfl ?_
    have d37:x.eval (.tmp 37)=.pointer (some ⟨N,0,none⟩):=by have h_:=hI.dep haft 0 37 rfl rfl rfl;rw [hSp] at h_;exact h_
    have d49:x.eval (.tmp 49)=.bool lb:=by have h_:=hI.dep haft 12 49 rfl rfl rfl;rw [hSp] at h_;exact h_
    have hrd:=hJ.2.2.2.2 hlf
    refine Kq (f:=34) (args:=#[.pointer (some ⟨N,0,none⟩),.bool lb]) ?_ ?_
    ·simp only [execOp,resolve,invoke,List.map_toArray,List.map_cons,List.map_nil,d37,d49];go_simp;try rfl
    ·refine (KJ lb hrd (by have:=yt.out;omega)).mono ?_
     intro e wz hq
     obtain ⟨kz,hq⟩:=hq
     cases hu:iD en lb l with
     | error er =>
      rw [hu] at hq
      refine .inr ⟨_,hq,?_⟩
      have hxd:=hI.defers
      obtain ⟨xt,xd⟩:=x
      dsimp only at hxd s2 s3 s4
      rw [hxd]
      refine Ig (er:=er) hne rfl s2 s3 s4 (hJ.1.tri.kept kz ⟨by omega,by omega,by omega⟩) (fun wv kv=>⟨((K3.out.step hI.kept (fun y hy=>by rcases hy with rfl|hy;exact .inr (by omega);rcases hy with h|h|h<;>exact .inr (by omega))).step kz (fun y hy=>.inr (by omega))).step kv (fun y hy=>by rcases hy with h|h|h<;>exact .inr (by omega)),?_⟩)
      rw [fin.out,hu]
      exact rfl
     | ok st =>
      rw [hu] at hq
      obtain ⟨a,S,he,hz,ho,hS⟩:=hq
      have hge:w3.heap.size≤wy.heap.size:=hI.kept.size
      refine .inl ⟨_,he,by subst hSp;exact ⟨st,a,S,rfl,hu,hz,ho,fun b hb=>⟨by have:=(hS b hb).1;omega,(hS b hb).2⟩⟩,kz.more (fun _ h=>.inl h),fun l' hl=>?_⟩
      rw [hJd]
      show LJ A B C N T en l lb w3 (l' 13) (l' 15) (l' 16) wz
      rw [iV hl,upd_ne hl 15 (by decide),upd_ne hl 16 (by decide)]
      have n15:=hI.no hlf 15 rfl rfl
      exact hJ.call hne kz ⟨by omega,by omega,by omega⟩ n15
   ·refine aU rfl ?_
    refine aO (v:=.agg #[.int .i64 0,.int .i64 0]) ?_ (by subst hSp;exact rfl) (fun l' hl=>hjn l' hl (by decide) _)
    simp only [execOp,resolve,invoke,List.map_toArray,List.map_cons,List.map_nil,s4];go_simp
   ·refine aU rfl ?_
    obtain ⟨st,a,S,d50,hu,hz,ho,hS⟩:=(by have h_:=hI.dep haft 13 50 rfl rfl rfl;rw [hSp] at h_;exact h_:∃st a S,x.eval (.tmp 50)=dY a st∧iD en lb l=.ok st∧rE st∧tq wy S a st∧∀b,S b→w3.heap.size≤b∧b<wy.heap.size)
    obtain ⟨a0,s0_,hB0⟩:=hJ.1.st
    refine sZ (F:=fun w'=>bZ A a st w'∧Kept (· = A) wy w') (kE rfl hB0 s2 a st d50) rfl (fun w' hf=>hf.2.more fun _ h=>.inr (.inl h)) (fun w' hf l' hl=>?_)
    rw [hJd]
    show LJ A B C N T en l lb w3 (l' 13) (l' 15) (l' 16) w'
    rw [iV hl,upd_ne hl 13 (by decide),upd_ne hl 16 (by decide)]
    exact hJ.sS hne hf.2 hf.1 hu hz ho hS (by omega) Ae
   ·refine aU rfl ?_
    refine iU (w':=wy.setCell ⟨B,0,none⟩ (.bool true)) ?_ rfl ((Kept.refl _ _).setCell (p:=⟨B,0,none⟩) (.inl (.inr (.inr (.inl rfl)))) _) (fun l' hl=>?_)
    ·simp only [execOp,resolve,invoke,List.map_toArray,List.map_cons,List.map_nil,s3];go_simp
    ·rw [hJd]
     show LJ A B C N T en l lb w3 (l' 13) (l' 15) (l' 16) _
     rw [iV hl,upd_ne hl 13 (by decide),upd_ne hl 15 (by decide)]
     exact hJ.sB hne (by omega) Ae
   ·refine aU rfl ?_
    have d51:x.eval (.tmp 51)=.agg #[.int .i64 0,.int .i64 0]:=by have h_:=hI.dep haft 14 51 rfl rfl rfl;rw [hSp] at h_;exact h_
    refine iU (w':=(wy.setCell ⟨C,0,none⟩ (.int .i64 0)).setCell ⟨C,1,none⟩ (.int .i64 0)) ?_ rfl (((Kept.refl _ _).setCell (p:=⟨C,0,none⟩) (.inl (.inr (.inr (.inr rfl)))) _).setCell (p:=⟨C,1,none⟩) (.inl (.inr (.inr (.inr rfl)))) _) (fun l' hl=>?_)
    ·simp only [execOp,resolve,invoke,List.map_toArray,List.map_cons,List.map_nil,s4,d51];go_simp
    ·rw [hJd]
     show LJ A B C N T en l lb w3 (l' 13) (l' 15) (l' 16) _
     rw [upd_ne hl 13 (by decide),upd_ne hl 15 (by decide),upd_ne hl 16 (by decide)]
     exact hJ.sF hne (by omega) Ae
  ·intro lq hl
   rw [hJd]
   show LJ A B C N T en l lb w3 (lq 13) (lq 15) (lq 16) w3.drew
   rw [hl 13 (by decide)]
   rw [hl 15 (by decide)]
   rw [hl 16 (by decide)]
   exact LJ.start T3.out R3.out
  ·intro lq l' f wx hl h
   rw [hJd] at h⊢
   have h:LJ A B C N T en l lb w3 (lq 13) (lq 15) (lq 16) wx:=h
   show LJ A B C N T en l lb w3 (l' 13) (l' 15) (l' 16) wx
   rw [←hl 13 (by decide)]
   rw [←hl 15 (by decide)]
   rw [←hl 16 (by decide)]
   exact h
  ·intro f wy hK hS hJ
   rw [hJd] at hJ
   have hJ:LJ A B C N T en l lb w3 ((fun _=>true) 13) ((fun _=>true) 15) ((fun _=>true) 16) wy:=hJ
   obtain ⟨hq1,hq2,hq3,hq4,hq5⟩:=hJ
   obtain ⟨st,a,S,hB,hu,hz,ho,hS⟩:=hq3 (by trivial)
   have K9:=K3.out.step hK (fun y hy=>by rcases hy with rfl|hy;exact .inr (by omega);rcases hy with h|h|h<;>exact .inr (by omega))
   simp only [iI,List.foldl_cons,List.foldl_nil,List.setIfInBounds_toArray,List.set_cons_zero,List.set_cons_succ]
   go_wp2_with fail
   refine OL rfl rfl rfl rfl ⟨hB,hq4 (by trivial),hq2⟩ ⟨K9,?_⟩
   rw [fin.out,hu]
   exact ⟨a,S,rfl,hz,ho,fun b hb=>⟨by have:=(hS b hb).1;omega,(hS b hb).2⟩⟩
theorem Xr (s:aj) (w:World) (hs:s.size≤1000000000) (hm:rG w) (hr:jC w) (h0:0<s.size) (h1:s[0].toNat=42) (h2:2000<s.size):Calls Tryz.prog 23 #[.string s] w (Ic s w):=by
 have HL:Hid (lU s=match kV s with
  | .error er=>.error er
  | .ok l=>match iD s.size (yx s) l with
   | .error er=>.error er
   | .ok x=>.ok (some x)):=by unfold Hid lU;rw [if_neg (by intro h;omega)];rfl
 obtain ⟨w0,hw0⟩:∃w0,w0=((w.alloc (.cells #[.string ⟨#[]⟩,.int .i64 0,.int .i64 0,.string ⟨#[]⟩,.int .i64 0,.string ⟨#[]⟩,.slice none 0 0,.int .i64 0,.string ⟨#[]⟩,.int .i64 0,.string ⟨#[]⟩,.slice none 0 0,.int .i64 0,.string ⟨#[]⟩,.int .i64 0,.string ⟨#[]⟩,.slice none 0 0,.string ⟨#[]⟩,.string ⟨#[]⟩,.slice none 0 0,.slice none 0 0,.string ⟨#[]⟩,.string ⟨#[]⟩,.string ⟨#[]⟩] 59)).alloc (.cells #[.bool false] 4)).alloc (.cells #[.int .i64 0,.int .i64 0] 39):=⟨_,rfl⟩
 have k0:Kept aB w w0:=by rw [hw0];exact (((Kept.refl _ _).alloc _).alloc _).alloc _
 have T0:Hid (gV w.heap.size (w.heap.size+1) (w.heap.size+1+1) nilA dH (.bool false) (.int .i64 0) (.int .i64 0) w0):=by
  rw [hw0]
  refine ⟨(bZ.new w nilA dH).kept (((Kept.refl aB _).alloc _).alloc _) (fun h=>h),?_,?_⟩
  ·have h1:dW ((w.alloc (.cells #[.string ⟨#[]⟩,.int .i64 0,.int .i64 0,.string ⟨#[]⟩,.int .i64 0,.string ⟨#[]⟩,.slice none 0 0,.int .i64 0,.string ⟨#[]⟩,.int .i64 0,.string ⟨#[]⟩,.slice none 0 0,.int .i64 0,.string ⟨#[]⟩,.int .i64 0,.string ⟨#[]⟩,.slice none 0 0,.string ⟨#[]⟩,.string ⟨#[]⟩,.slice none 0 0,.slice none 0 0,.string ⟨#[]⟩,.string ⟨#[]⟩,.string ⟨#[]⟩] 59)).alloc (.cells #[.bool false] 4)) (w.heap.size+1) 4 (.bool false):=dX (by simp)
   unfold dW;rw [Below.heap_alloc _ _ _ h1.lt];exact h1
  ·exact dX (by simp)
 have hsz0:w0.heap.size=w.heap.size+3:=by rw [hw0];simp
 have HW0:=ah hw0
 have K0:=ah k0
 have M0:=ah (hm.kept k0 (fun h=>h))
 have G0:Hid (jC w0):=by obtain ⟨ev,h1,h2⟩:=hr;exact ⟨ev,(k0.cell (cell_lt h1) (fun h=>h)).trans h1,h2⟩
 have RJ:5<w.heap.size:=by obtain ⟨ev,h1,h2⟩:=hr;exact cell_lt h1
 clear hw0 k0 hm hr
 go_enter_defers Tryz.func23, Tryz.ntmps23
 go_upto_region 1 with fail
 rw [←HW0.out]
 obtain ⟨C,hC⟩:∃C,C=w.heap.size+1+1:=⟨_,rfl⟩
 rw [←hC] at T0⊢
 obtain ⟨B,hB⟩:∃B,B=w.heap.size+1:=⟨_,rfl⟩
 rw [←hB] at T0⊢
 obtain ⟨A,hA⟩:∃A,A=w.heap.size:=⟨_,rfl⟩
 rw [←hA] at T0⊢
 have hne:A≠B∧A≠C∧B≠C:=by omega
 have wZ:w.heap.size≤A∧w.heap.size≤B∧w.heap.size≤C:=by omega
 have hlt:A<w0.heap.size∧B<w0.heap.size∧C<w0.heap.size:=by omega
 clear hA hB hC hsz0
 have s0:s.toList.isEmpty=false:=oL (fun e=>by rw [e] at h0;exact absurd h0 (by decide))
 have bi:(0:Int)<(s.size:Int):=by omega
 have y1:((s[0].toNat:Int)==42)=true:=by rw [h1];rfl
 have d1:decide ((s.size:Int)≤(2000:Int))=false:=au (by omega)
 have d2:decide (s.size≤2000)=false:=au (by omega)
 clear h1
 have aep:=hs
 cases hx:kV s with
 | error er =>
  have fin:Hid (lU s=.error er):=by unfold Hid;rw [HL.out,hx]
  have her:=Gg hx
  have e1:(er.1 != 0)=true:=by simpa using her
  go_upto_region 4 with (go_at_call 32;(refine (rW s w0 hs M0.out).mono ?_);intro e w1 h_;obtain ⟨k_,h_⟩:=h_;rw [hx] at h_;obtain rfl:=h_;have T1:=ah (T0.out.kept k_ ⟨fun h=>h,fun h=>h,fun h=>h⟩);have K1:=ah (K0.out.trans k_);obtain ⟨oM,oN,fU⟩:=T1.out.fl.cells;have oO:=fU 0;have oP:=fU 1;clear k_ fU)
  have T2:=ah (T1.out.gU hne (.int .i64 er.1) (.int .i64 er.2))
  have K2:=ah (lX.new (n:=0) (oh (i:=1) (d:=.int .i64 er.2) (oh (i:=0) (d:=.int .i64 er.1) (A:=A) (B:=B) (C:=C) (Kept.refl _ w1))) K1.out wZ)
  obtain ⟨w2,hw2⟩:∃w2,w2=(w1.setCell ⟨C,0,none⟩ (.int .i64 er.1)).setCell ⟨C,1,none⟩ (.int .i64 er.2):=⟨_,rfl⟩
  rw [←hw2] at T2 K2
  rw [←hw2]
  clear hw2 oM oN oO oP
  obtain ⟨oM,oN,fU⟩:=T2.out.fl.cells
  have oO:=fU 0;have oP:=fU 1
  go_upto_region 5 with fail
  clear oM oN fU oO oP
  obtain ⟨Sp,hSp⟩:∃Sp:Nat→Value→World→Prop,Sp=(fun i v wx=>match i with
   | 0=>v=dY nilA dH
   | 1=>v=.agg #[.int .i64 er.1,.int .i64 er.2]
   | _=>True):=⟨_,rfl⟩
  obtain ⟨J,hJd⟩:∃J:(Nat→Bool)→(Nat→Value)→World→Prop,J=(fun pp f wx=>gV A B C nilA dH (.bool false) (.int .i64 er.1) (.int .i64 er.2) wx):=⟨_,rfl⟩
  refine jA (lX A B C) J Sp [29,30] (by kernel_rfl) (by kernel_rfl) (by kernel_rfl) (fun i v w w' h hk=>by subst hSp;exact h) ?_ ?_ ?_ ?_
  ·intro i o hi lq x wy hI hJ hlf haft
   rw [hJd] at hJ
   have hJ:gV A B C nilA dH (.bool false) (.int .i64 er.1) (.int .i64 er.2) wy:=hJ
   have s2:x.eval (.tmp 2)=.pointer (some ⟨A,0,none⟩):=hI.keep 2 _ rfl (by kernel_rfl)
   have s3:x.eval (.tmp 3)=.pointer (some ⟨B,0,none⟩):=hI.keep 3 _ rfl (by kernel_rfl)
   have s4:x.eval (.tmp 4)=.pointer (some ⟨C,0,none⟩):=hI.keep 4 _ rfl (by kernel_rfl)
   have cb:=hJ.bo.cell;have fb:=hJ.bo.free
   obtain ⟨oM,oN,fU⟩:=hJ.fl.cells
   have oO:=fU 0;have oP:=fU 1
   have hjn:∀(l':Nat→Bool),(∀j,l' j=true↔j=i∨lq j=true)→(∀j∈([]:List Nat),i≠j)→∀f,J l' f wy:=by
    intro l' hl hne f
    rw [hJd]
    show gV A B C nilA dH (.bool false) (.int .i64 er.1) (.int .i64 er.2) wy
    exact hJ
   rcases i with _|_|_|_|_|i
   all_goals (simp only [List.getElem?_toArray,List.getElem?_cons_zero,List.getElem?_cons_succ,List.getElem?_nil,Option.some.injEq,reduceCtorEq] at hi)
   all_goals subst hi
   ·refine aU rfl ?_
    refine aO (v:=dY nilA dH) ?_ (by subst hSp;exact rfl) (fun l' hl=>hjn l' hl (by decide) _)
    exact uP rfl hJ.st s2
   ·refine aU rfl ?_
    refine aO (v:=.agg #[.int .i64 er.1,.int .i64 er.2]) ?_ (by subst hSp;exact rfl) (fun l' hl=>hjn l' hl (by decide) _)
    simp only [execOp,resolve,invoke,List.map_toArray,List.map_cons,List.map_nil,s4];go_simp
   ·refine aU rfl ?_
    have Xp:x.eval (.tmp 29)=dY nilA dH:=by have h_:=hI.dep haft 0 29 rfl rfl rfl;rw [hSp] at h_;exact h_
    refine sZ (F:=fun w'=>bZ A nilA dH w'∧Kept (· = A) wy w') (kE rfl hJ.st s2 nilA dH Xp) rfl (fun w' hf=>hf.2.more fun _ h=>.inl h) (fun w' hf l' hl=>?_)
    rw [hJd]
    exact hJ.Jv hne hf.2 hf.1
   ·refine aU rfl ?_
    refine iU (w':=wy.setCell ⟨B,0,none⟩ (.bool false)) ?_ rfl (OJ (Kept.refl _ _)) (fun l' hl=>?_)
    ·simp only [execOp,resolve,invoke,List.map_toArray,List.map_cons,List.map_nil,s3];go_simp
    ·rw [hJd];exact hJ.setB hne _
   ·refine aU rfl ?_
    have Xq:x.eval (.tmp 30)=.agg #[.int .i64 er.1,.int .i64 er.2]:=by have h_:=hI.dep haft 1 30 rfl rfl rfl;rw [hSp] at h_;exact h_
    refine iU (w':=(wy.setCell ⟨C,0,none⟩ (.int .i64 er.1)).setCell ⟨C,1,none⟩ (.int .i64 er.2)) ?_ rfl (oh (oh (Kept.refl _ _))) (fun l' hl=>?_)
    ·simp only [execOp,resolve,invoke,List.map_toArray,List.map_cons,List.map_nil,s4,Xq];go_simp
    ·rw [hJd];exact hJ.gU hne _ _
  ·intro lq hl
   rw [hJd]
   show gV A B C nilA dH (.bool false) (.int .i64 er.1) (.int .i64 er.2) w2.drew
   exact T2.out.drew
  ·intro lq l' f wx hl h
   rw [hJd] at h⊢
   have h:gV A B C nilA dH (.bool false) (.int .i64 er.1) (.int .i64 er.2) wx:=h
   show gV A B C nilA dH (.bool false) (.int .i64 er.1) (.int .i64 er.2) wx
   exact h
  ·intro f wy hK hS hJ
   rw [hJd] at hJ
   have hJ:gV A B C nilA dH (.bool false) (.int .i64 er.1) (.int .i64 er.2) wy:=hJ
   simp only [iI,List.foldl_cons,List.foldl_nil,List.setIfInBounds_toArray,List.set_cons_zero,List.set_cons_succ]
   go_wp2_with fail
   refine ⟨_,oq rfl rfl rfl rfl hJ,lX.new (n:=0) hK K2.out wZ,?_⟩
   rw [fin.out]
   exact rfl
 | ok l =>
  exact absurd hx (fun h=>by have:=(DR h).2.2;omega)
theorem line_text (s:aj) (w:World) (hs:s.size≤1000000000) (hm:rG w) (hr:jC w) (h0:0<s.size) (h1:s[0].toNat≠42):Calls Tryz.prog 23 #[.string s] w (Ic s w):=by
 have HL:Hid (lU s=match kV s with
  | .error er=>.error er
  | .ok l=>match iD s.size (yx s) l with
   | .error er=>.error er
   | .ok x=>.ok (some x)):=by unfold Hid lU;rw [if_neg (by rw [jX h0];intro h;omega)];rfl
 obtain ⟨w0,hw0⟩:∃w0,w0=((w.alloc (.cells #[.string ⟨#[]⟩,.int .i64 0,.int .i64 0,.string ⟨#[]⟩,.int .i64 0,.string ⟨#[]⟩,.slice none 0 0,.int .i64 0,.string ⟨#[]⟩,.int .i64 0,.string ⟨#[]⟩,.slice none 0 0,.int .i64 0,.string ⟨#[]⟩,.int .i64 0,.string ⟨#[]⟩,.slice none 0 0,.string ⟨#[]⟩,.string ⟨#[]⟩,.slice none 0 0,.slice none 0 0,.string ⟨#[]⟩,.string ⟨#[]⟩,.string ⟨#[]⟩] 59)).alloc (.cells #[.bool false] 4)).alloc (.cells #[.int .i64 0,.int .i64 0] 39):=⟨_,rfl⟩
 have k0:Kept aB w w0:=by rw [hw0];exact (((Kept.refl _ _).alloc _).alloc _).alloc _
 have T0:Hid (gV w.heap.size (w.heap.size+1) (w.heap.size+1+1) nilA dH (.bool false) (.int .i64 0) (.int .i64 0) w0):=by
  rw [hw0]
  refine ⟨(bZ.new w nilA dH).kept (((Kept.refl aB _).alloc _).alloc _) (fun h=>h),?_,?_⟩
  ·have h1:dW ((w.alloc (.cells #[.string ⟨#[]⟩,.int .i64 0,.int .i64 0,.string ⟨#[]⟩,.int .i64 0,.string ⟨#[]⟩,.slice none 0 0,.int .i64 0,.string ⟨#[]⟩,.int .i64 0,.string ⟨#[]⟩,.slice none 0 0,.int .i64 0,.string ⟨#[]⟩,.int .i64 0,.string ⟨#[]⟩,.slice none 0 0,.string ⟨#[]⟩,.string ⟨#[]⟩,.slice none 0 0,.slice none 0 0,.string ⟨#[]⟩,.string ⟨#[]⟩,.string ⟨#[]⟩] 59)).alloc (.cells #[.bool false] 4)) (w.heap.size+1) 4 (.bool false):=dX (by simp)
   unfold dW;rw [Below.heap_alloc _ _ _ h1.lt];exact h1
  ·exact dX (by simp)
 have hsz0:w0.heap.size=w.heap.size+3:=by rw [hw0];simp
 have HW0:=ah hw0
 have K0:=ah k0
 have M0:=ah (hm.kept k0 (fun h=>h))
 have G0:Hid (jC w0):=by obtain ⟨ev,h1,h2⟩:=hr;exact ⟨ev,(k0.cell (cell_lt h1) (fun h=>h)).trans h1,h2⟩
 have RJ:5<w.heap.size:=by obtain ⟨ev,h1,h2⟩:=hr;exact cell_lt h1
 clear hw0 k0 hm hr
 go_enter_defers Tryz.func23, Tryz.ntmps23
 go_upto_region 1 with fail
 rw [←HW0.out]
 obtain ⟨C,hC⟩:∃C,C=w.heap.size+1+1:=⟨_,rfl⟩
 rw [←hC] at T0⊢
 obtain ⟨B,hB⟩:∃B,B=w.heap.size+1:=⟨_,rfl⟩
 rw [←hB] at T0⊢
 obtain ⟨A,hA⟩:∃A,A=w.heap.size:=⟨_,rfl⟩
 rw [←hA] at T0⊢
 have hne:A≠B∧A≠C∧B≠C:=by omega
 have wZ:w.heap.size≤A∧w.heap.size≤B∧w.heap.size≤C:=by omega
 have hlt:A<w0.heap.size∧B<w0.heap.size∧C<w0.heap.size:=by omega
 clear hA hB hC hsz0
 have s0:s.toList.isEmpty=false:=oL (fun e=>by rw [e] at h0;exact absurd h0 (by decide))
 have bi:(0:Int)<(s.size:Int):=by omega
 have y1:((s[0].toNat:Int)==42)=false:=by simp;omega
 clear h1
 have aep:=hs
 cases hx:kV s with
 | error er =>
  have fin:Hid (lU s=.error er):=by unfold Hid;rw [HL.out,hx]
  have her:=Gg hx
  have e1:(er.1 != 0)=true:=by simpa using her
  go_upto_region 4 with (go_at_call 32;(refine (rW s w0 hs M0.out).mono ?_);intro e w1 h_;obtain ⟨k_,h_⟩:=h_;rw [hx] at h_;obtain rfl:=h_;have T1:=ah (T0.out.kept k_ ⟨fun h=>h,fun h=>h,fun h=>h⟩);have K1:=ah (K0.out.trans k_);obtain ⟨oM,oN,fU⟩:=T1.out.fl.cells;have oO:=fU 0;have oP:=fU 1;clear k_ fU)
  have T2:=ah (T1.out.gU hne (.int .i64 er.1) (.int .i64 er.2))
  have K2:=ah (lX.new (n:=0) (oh (i:=1) (d:=.int .i64 er.2) (oh (i:=0) (d:=.int .i64 er.1) (A:=A) (B:=B) (C:=C) (Kept.refl _ w1))) K1.out wZ)
  obtain ⟨w2,hw2⟩:∃w2,w2=(w1.setCell ⟨C,0,none⟩ (.int .i64 er.1)).setCell ⟨C,1,none⟩ (.int .i64 er.2):=⟨_,rfl⟩
  rw [←hw2] at T2 K2
  rw [←hw2]
  clear hw2 oM oN oO oP
  obtain ⟨oM,oN,fU⟩:=T2.out.fl.cells
  have oO:=fU 0;have oP:=fU 1
  go_upto_region 5 with fail
  clear oM oN fU oO oP
  obtain ⟨Sp,hSp⟩:∃Sp:Nat→Value→World→Prop,Sp=(fun i v wx=>match i with
   | 0=>v=dY nilA dH
   | 1=>v=.agg #[.int .i64 er.1,.int .i64 er.2]
   | _=>True):=⟨_,rfl⟩
  obtain ⟨J,hJd⟩:∃J:(Nat→Bool)→(Nat→Value)→World→Prop,J=(fun pp f wx=>gV A B C nilA dH (.bool false) (.int .i64 er.1) (.int .i64 er.2) wx):=⟨_,rfl⟩
  refine jA (lX A B C) J Sp [29,30] (by kernel_rfl) (by kernel_rfl) (by kernel_rfl) (fun i v w w' h hk=>by subst hSp;exact h) ?_ ?_ ?_ ?_
  ·intro i o hi lq x wy hI hJ hlf haft
   rw [hJd] at hJ
   have hJ:gV A B C nilA dH (.bool false) (.int .i64 er.1) (.int .i64 er.2) wy:=hJ
   have s2:x.eval (.tmp 2)=.pointer (some ⟨A,0,none⟩):=hI.keep 2 _ rfl (by kernel_rfl)
   have s3:x.eval (.tmp 3)=.pointer (some ⟨B,0,none⟩):=hI.keep 3 _ rfl (by kernel_rfl)
   have s4:x.eval (.tmp 4)=.pointer (some ⟨C,0,none⟩):=hI.keep 4 _ rfl (by kernel_rfl)
   have cb:=hJ.bo.cell;have fb:=hJ.bo.free
   obtain ⟨oM,oN,fU⟩:=hJ.fl.cells
   have oO:=fU 0;have oP:=fU 1
   have hjn:∀(l':Nat→Bool),(∀j,l' j=true↔j=i∨lq j=true)→(∀j∈([]:List Nat),i≠j)→∀f,J l' f wy:=by
    intro l' hl hne f
    rw [hJd]
    show gV A B C nilA dH (.bool false) (.int .i64 er.1) (.int .i64 er.2) wy
    exact hJ
   rcases i with _|_|_|_|_|i
   all_goals (simp only [List.getElem?_toArray,List.getElem?_cons_zero,List.getElem?_cons_succ,List.getElem?_nil,Option.some.injEq,reduceCtorEq] at hi)
   all_goals subst hi
   ·refine aU rfl ?_
    refine aO (v:=dY nilA dH) ?_ (by subst hSp;exact rfl) (fun l' hl=>hjn l' hl (by decide) _)
    exact uP rfl hJ.st s2
   ·refine aU rfl ?_
    refine aO (v:=.agg #[.int .i64 er.1,.int .i64 er.2]) ?_ (by subst hSp;exact rfl) (fun l' hl=>hjn l' hl (by decide) _)
    simp only [execOp,resolve,invoke,List.map_toArray,List.map_cons,List.map_nil,s4];go_simp
   ·refine aU rfl ?_
    have Xp:x.eval (.tmp 29)=dY nilA dH:=by have h_:=hI.dep haft 0 29 rfl rfl rfl;rw [hSp] at h_;exact h_
    refine sZ (F:=fun w'=>bZ A nilA dH w'∧Kept (· = A) wy w') (kE rfl hJ.st s2 nilA dH Xp) rfl (fun w' hf=>hf.2.more fun _ h=>.inl h) (fun w' hf l' hl=>?_)
    rw [hJd]
    exact hJ.Jv hne hf.2 hf.1
   ·refine aU rfl ?_
    refine iU (w':=wy.setCell ⟨B,0,none⟩ (.bool false)) ?_ rfl (OJ (Kept.refl _ _)) (fun l' hl=>?_)
    ·simp only [execOp,resolve,invoke,List.map_toArray,List.map_cons,List.map_nil,s3];go_simp
    ·rw [hJd];exact hJ.setB hne _
   ·refine aU rfl ?_
    have Xq:x.eval (.tmp 30)=.agg #[.int .i64 er.1,.int .i64 er.2]:=by have h_:=hI.dep haft 1 30 rfl rfl rfl;rw [hSp] at h_;exact h_
    refine iU (w':=(wy.setCell ⟨C,0,none⟩ (.int .i64 er.1)).setCell ⟨C,1,none⟩ (.int .i64 er.2)) ?_ rfl (oh (oh (Kept.refl _ _))) (fun l' hl=>?_)
    ·simp only [execOp,resolve,invoke,List.map_toArray,List.map_cons,List.map_nil,s4,Xq];go_simp
    ·rw [hJd];exact hJ.gU hne _ _
  ·intro lq hl
   rw [hJd]
   show gV A B C nilA dH (.bool false) (.int .i64 er.1) (.int .i64 er.2) w2.drew
   exact T2.out.drew
  ·intro lq l' f wx hl h
   rw [hJd] at h⊢
   have h:gV A B C nilA dH (.bool false) (.int .i64 er.1) (.int .i64 er.2) wx:=h
   show gV A B C nilA dH (.bool false) (.int .i64 er.1) (.int .i64 er.2) wx
   exact h
  ·intro f wy hK hS hJ
   rw [hJd] at hJ
   have hJ:gV A B C nilA dH (.bool false) (.int .i64 er.1) (.int .i64 er.2) wy:=hJ
   simp only [iI,List.foldl_cons,List.foldl_nil,List.setIfInBounds_toArray,List.set_cons_zero,List.set_cons_succ]
   go_wp2_with fail
   refine ⟨_,oq rfl rfl rfl rfl hJ,lX.new (n:=0) hK K2.out wZ,?_⟩
   rw [fin.out]
   exact rfl
 | ok l =>
  obtain ⟨hgood,hlen,hs2⟩:=DR hx
  have HG:=ah hgood;have yt:=ah hlen
  have fin:Hid (lU s=match iD s.size (yx s) l with | .error er=>.error er | .ok x=>.ok (some x)):=by unfold Hid;rw [HL.out,hx]
  clear hgood hlen
  go_upto_region 4 with (go_at_call 32;(refine (rW s w0 hs M0.out).mono ?_);intro e w1 h_;obtain ⟨k_,h_⟩:=h_;rw [hx] at h_;obtain ⟨la,lc,rfl,aK⟩:=h_;have WN:=ah aK;have T1:=ah (T0.out.kept k_ ⟨fun h=>h,fun h=>h,fun h=>h⟩);have rC:=ah k_;have K1:=ah (K0.out.trans k_);obtain ⟨oM,oN,fU⟩:=T1.out.fl.cells;have oO:=fU 0;have oP:=fU 1;clear k_ fU aK)
  have T2:=ah (T1.out.gU hne (.int .i64 0) (.int .i64 0))
  have Af:=ah (oh (i:=1) (d:=.int .i64 0) (oh (i:=0) (d:=.int .i64 0) (A:=A) (B:=B) (C:=C) (Kept.refl _ w1)))
  have K2:=ah (lX.new (n:=0) Af.out K1.out wZ)
  obtain ⟨w2,hw2⟩:∃w2,w2=(w1.setCell ⟨C,0,none⟩ (.int .i64 0)).setCell ⟨C,1,none⟩ (.int .i64 0):=⟨_,rfl⟩
  rw [←hw2] at T2 K2 Af
  rw [←hw2]
  clear hw2 oM oN oO oP
  obtain ⟨oM,oN,fU⟩:=T2.out.fl.cells
  have oO:=fU 0;have oP:=fU 1
  have hmf:∀(fn:Fn) (first cap:Array Value) (w:World),(Instr.makeFunc fn first cap).run Tryz.prog w=.ok (.func fn first cap) w:=fun _ _ _ _=>rfl
  go_upto_region 8 with fail
  clear oM oN fU oO oP
  obtain ⟨w3,hw3⟩:∃w3,w3=w2.alloc (.cells #[.slice la l.length lc,.int .i64 s.size,.int .i64 0] 83):=⟨_,rfl⟩
  have k3:Kept aB w2 w3:=by rw [hw3];exact (Kept.refl _ _).alloc _
  have X3:w3.heap[w2.heap.size]?=some (.cells #[.slice la l.length lc,.int .i64 s.size,.int .i64 0] 83 (0,0)):=by rw [hw3];exact ay w2 _
  obtain ⟨N,hN⟩:∃N,N=w2.heap.size:=⟨_,rfl⟩
  rw [←hN] at X3
  rw [←hw3,←hN]
  have ZT:=Af.out.size;have OM:=rC.out.size
  have hNA:A<N∧B<N∧C<N∧w0.heap.size≤N:=by omega
  have hlN:N<w3.heap.size:=(Array.getElem?_eq_some_iff.1 X3).1
  have R3:Hid (∃T,dB N T s.size l 0 w3∧A≠T∧B≠T∧C≠T):=by
   have hg2:jC w2:=by
    obtain ⟨ev,h1,h2⟩:=G0.out
    have e1:¬lX A B C 5:=fun h=>by rcases h with h|h|h<;>omega
    exact ⟨ev,(Af.out.cell (Nat.lt_of_lt_of_le (cell_lt h1) OM) e1).trans ((rC.out.cell (cell_lt h1) (fun h=>h)).trans h1),h2⟩
   have hg3:jC w3:=by obtain ⟨ev,h1,h2⟩:=hg2;exact ⟨ev,(k3.cell (cell_lt h1) (fun h=>h)).trans h1,h2⟩
   rcases WN.out.cells with ⟨hv,hn⟩|⟨g,o,c',hv,hg1,hgl,hcap,hcm,hc⟩
   ·simp only [Value.slice.injEq] at hv
    obtain ⟨rfl,_,rfl⟩:=hv
    obtain rfl:l=[]:=List.length_eq_zero_iff.1 hn
    exact ⟨5,⟨0,none,0,X3,rfl,Nat.le_refl _,fun h=>absurd rfl h,by omega,by have:=k3.size;omega,by omega,HG.out,by omega,hg3⟩,by omega,by omega,by omega⟩
   ·simp only [Value.slice.injEq,true_and] at hv
    obtain ⟨rfl,rfl⟩:=hv
    have hgn:g<N:=by omega
    have hgi:¬lX A B C g:=fun h=>by rcases h with h|h|h<;>omega
    exact ⟨g,⟨l.length,_,_,X3,rfl,hcap,fun _=>⟨o,rfl,fun j u hu=>(k3.cell (by omega) (fun h=>h)).trans ((Af.out.cell hgl hgi).trans (hc j u hu).1)⟩,by omega,by omega,by unfold maxLen at hcm;omega,HG.out,by omega,hg3⟩,by omega,by omega,by omega⟩
  obtain ⟨T,R3,hTA⟩:=R3.out
  have T3:=ah (T2.out.kept k3 ⟨fun h=>h,fun h=>h,fun h=>h⟩)
  have K3:=ah (K2.out.trans k3)
  have R3:=ah R3
  clear hw3 k3 X3 hN ZT OM WN T2 K2 Af rC T1 K1 T0 M0 G0 HG
  have OO:Hid (yx s=((!s.toList.isEmpty&&decide (peek s 0≠32))&&decide (peek s 0≠58))):=Xo s
  obtain ⟨lb,hlb⟩:∃lb,lb=yx s:=⟨_,rfl⟩
  rw [←hlb] at OO fin
  obtain ⟨en,hen⟩:∃en,en=s.size:=⟨_,rfl⟩
  rw [←hen] at R3 fin
  have Ae:A≠N∧B≠N∧C≠N∧A≠T∧B≠T∧C≠T∧5≠A∧5≠B∧5≠C:=by omega
  obtain ⟨Sp,hSp⟩:∃Sp:Nat→Value→World→Prop,Sp=(fun i v wx=>match i with
   | 0=>v=.pointer (some ⟨N,0,none⟩)
   | 1=>v=.string s
   | 2=>v=.bool (!s.toList.isEmpty)
   | 3=>v=.bool (!s.toList.isEmpty)
   | 4=>(!s.toList.isEmpty)=true→v=.string s
   | 5=>(!s.toList.isEmpty)=true→v=.int .u8 (peek s 0)
   | 6=>(!s.toList.isEmpty)=true→v=.bool (decide (peek s 0≠32))
   | 7=>v=.bool (!s.toList.isEmpty&&decide (peek s 0≠32))
   | 8=>v=.bool (!s.toList.isEmpty&&decide (peek s 0≠32))
   | 9=>(!s.toList.isEmpty&&decide (peek s 0≠32))=true→v=.string s
   | 10=>(!s.toList.isEmpty&&decide (peek s 0≠32))=true→v=.int .u8 (peek s 0)
   | 11=>(!s.toList.isEmpty&&decide (peek s 0≠32))=true→v=.bool (decide (peek s 0≠58))
   | 12=>v=.bool lb
   | 13=>∃st a S,v=dY a st∧iD en lb l=.ok st∧rE st∧tq wx S a st∧∀b,S b→w3.heap.size≤b∧b<wx.heap.size
   | 14=>v=.agg #[.int .i64 0,.int .i64 0]
   | _=>True):=⟨_,rfl⟩
  obtain ⟨J,hJd⟩:∃J:(Nat→Bool)→(Nat→Value)→World→Prop,J=(fun pp f wx=>LJ A B C N T en l lb w3 (pp 13) (pp 15) (pp 16) wx):=⟨_,rfl⟩
  refine jA (fun b=>b=N∨lX A B C b) J Sp [37,38,39,40,41,42,43,44,45,46,47,48,49,50,51] (by kernel_rfl) (by kernel_rfl) (by kernel_rfl) (fun i v w w' h hk=>by subst hSp;rcases i with _|_|_|_|_|_|_|_|_|_|_|_|_|_|_|i;all_goals first|exact h|(obtain ⟨st,a,S,h1,h2,h3,h4,h5⟩:=h;exact ⟨st,a,S,h1,h2,h3,h4.to hk (fun b hb=>⟨(h5 b hb).2,fun hx=>by have:=h5 b hb;rcases hx with h|h|h|h<;>omega⟩) (fun _ h=>h),fun b hb=>⟨(h5 b hb).1,Nat.lt_of_lt_of_le (h5 b hb).2 hk.size⟩⟩)) ?_ ?_ ?_ ?_
  ·intro i o hi lq x wy hI hJ hlf haft
   rw [hJd] at hJ
   have hJ:LJ A B C N T en l lb w3 (lq 13) (lq 15) (lq 16) wy:=hJ
   have s0:x.eval (.tmp 0)=.string s:=hI.keep 0 _ rfl (by kernel_rfl)
   have s2:x.eval (.tmp 2)=.pointer (some ⟨A,0,none⟩):=hI.keep 2 _ rfl (by kernel_rfl)
   have s3:x.eval (.tmp 3)=.pointer (some ⟨B,0,none⟩):=hI.keep 3 _ rfl (by kernel_rfl)
   have s4:x.eval (.tmp 4)=.pointer (some ⟨C,0,none⟩):=hI.keep 4 _ rfl (by kernel_rfl)
   have s6:x.eval (.tmp 6)=.pointer (some ⟨N,0,none⟩):=hI.keep 6 _ rfl (by kernel_rfl)
   have hsz:x.tmps.size=52:=hI.size
   obtain ⟨⟨vb,cb⟩,fb⟩:=hJ.1.bo
   obtain ⟨oM,oN,fU⟩:=hJ.2.1.cells
   have oO:=fU 0;have oP:=fU 1
   have hjn:∀(l':Nat→Bool),(∀j,l' j=true↔j=i∨lq j=true)→(∀j∈([13,15,16]:List Nat),i≠j)→∀f,J l' f wy:=by
    intro l' hl hne f
    rw [hJd]
    show LJ A B C N T en l lb w3 (l' 13) (l' 15) (l' 16) wy
    rw [upd_ne hl 13 (Ne.symm (hne 13 (by simp)))]
    rw [upd_ne hl 15 (Ne.symm (hne 15 (by simp)))]
    rw [upd_ne hl 16 (Ne.symm (hne 16 (by simp)))]
    exact hJ
   rcases i with _|_|_|_|_|_|_|_|_|_|_|_|_|_|_|_|_|_|i
   all_goals (simp only [List.getElem?_toArray,List.getElem?_cons_zero,List.getElem?_cons_succ,List.getElem?_nil,Option.some.injEq,reduceCtorEq] at hi)
   all_goals subst hi
   ·refine aU rfl ?_
    refine aO (v:=.pointer (some ⟨N,0,none⟩)) ?_ (by subst hSp;exact rfl) (fun l' hl=>hjn l' hl (by decide) _)
    simp only [execOp,resolve,invoke,List.map_toArray,List.map_cons,List.map_nil,s6];go_simp
   ·refine aU rfl ?_
    refine aO (v:=.string s) ?_ (by subst hSp;exact rfl) (fun l' hl=>hjn l' hl (by decide) _)
    simp only [execOp,resolve,invoke,List.map_toArray,List.map_cons,List.map_nil,s0];go_simp
   ·refine aU rfl ?_
    have d38:x.eval (.tmp 38)=.string s:=by have h_:=hI.dep haft 1 38 rfl rfl rfl;rw [hSp] at h_;exact h_
    refine aO (v:=.bool (!s.toList.isEmpty)) ?_ (by subst hSp;exact rfl) (fun l' hl=>hjn l' hl (by decide) _)
    simp only [execOp,resolve,invoke,List.map_toArray,List.map_cons,List.map_nil,d38];go_simp;try rfl
   ·refine aU rfl ?_
    have d39:x.eval (.tmp 39)=.bool (!s.toList.isEmpty):=by have h_:=hI.dep haft 2 39 rfl rfl rfl;rw [hSp] at h_;exact h_
    refine aO (v:=.bool (!s.toList.isEmpty)) ?_ (by subst hSp;exact rfl) (fun l' hl=>hjn l' hl (by decide) _)
    simp only [execOp,resolve,invoke,List.map_toArray,List.map_cons,List.map_nil,d39];go_simp
   ·have rX:x.eval (.tmp 40)=.bool (!s.toList.isEmpty):=by have h_:=hI.dep haft 3 40 rfl rfl rfl;rw [hSp] at h_;exact h_
    refine pR (j:=3) rfl rfl rfl rX (by rw [hsz];decide) (fun hb=>?_) (fun hb=>⟨fun d hd=>by subst hSp;exact fun h=>(by rw [hb] at h;cases h),fun l' hl=>hjn l' hl (by decide) _⟩)
    refine aO (v:=.string s) ?_ (by subst hSp;exact fun _=>rfl) (fun l' hl=>hjn l' hl (by decide) _)
    simp only [execOp,resolve,invoke,List.map_toArray,List.map_cons,List.map_nil,s0];go_simp
   ·have rX:x.eval (.tmp 40)=.bool (!s.toList.isEmpty):=by have h_:=hI.dep haft 3 40 rfl rfl rfl;rw [hSp] at h_;exact h_
    refine pR (j:=3) rfl rfl rfl rX (by rw [hsz];decide) (fun hb=>?_) (fun hb=>⟨fun d hd=>by subst hSp;exact fun h=>(by rw [hb] at h;cases h),fun l' hl=>hjn l' hl (by decide) _⟩)
    have d41:x.eval (.tmp 41)=.string s:=by have h_:=hI.dep haft 4 41 rfl rfl rfl;rw [hSp] at h_;exact h_ hb
    have hbe:=hb
    have hp0:0<s.size:=by (by_cases hz:0<s.size;exact hz;exfalso;have e0:s=E0:=(by apply ByteArray.ext;apply Array.toList_inj.1;have:s.data.toList.length=0:=(by have e_:s.data.toList.length=s.size:=rfl;omega);rw [List.length_eq_zero_iff.1 this];rfl);rw [e0,kZ] at hbe;cases hbe)
    have hbi:(0:Int)<(s.size:Int):=by omega
    refine aO (v:=.int .u8 (peek s 0)) ?_ (by subst hSp;exact fun _=>rfl) (fun l' hl=>hjn l' hl (by decide) _)
    rw [jX hp0]
    simp only [execOp,resolve,invoke,List.map_toArray,List.map_cons,List.map_nil,d41];go_simp
   ·have rX:x.eval (.tmp 40)=.bool (!s.toList.isEmpty):=by have h_:=hI.dep haft 3 40 rfl rfl rfl;rw [hSp] at h_;exact h_
    refine pR (j:=3) rfl rfl rfl rX (by rw [hsz];decide) (fun hb=>?_) (fun hb=>⟨fun d hd=>by subst hSp;exact fun h=>(by rw [hb] at h;cases h),fun l' hl=>hjn l' hl (by decide) _⟩)
    have d42:x.eval (.tmp 42)=.int .u8 (peek s 0):=by have h_:=hI.dep haft 5 42 rfl rfl rfl;rw [hSp] at h_;exact h_ hb
    refine aO (v:=.bool (decide (peek s 0≠32))) ?_ (by subst hSp;exact fun _=>rfl) (fun l' hl=>hjn l' hl (by decide) _)
    simp only [execOp,resolve,invoke,List.map_toArray,List.map_cons,List.map_nil,d42];go_simp;try rfl
   ·refine aU rfl ?_
    have rX:x.eval (.tmp 40)=.bool (!s.toList.isEmpty):=by have h_:=hI.dep haft 3 40 rfl rfl rfl;rw [hSp] at h_;exact h_
    have OQ:(!s.toList.isEmpty)=true→x.eval (.tmp 43)=.bool (decide (peek s 0≠32)):=by have h_:=hI.dep haft 6 43 rfl rfl rfl;rw [hSp] at h_;exact h_
    refine aO (v:=.bool (!s.toList.isEmpty&&decide (peek s 0≠32))) ?_ (by subst hSp;exact rfl) (fun l' hl=>hjn l' hl (by decide) _)
    cases hb:(!s.toList.isEmpty) with
    | true=>have OQ:=OQ hb;rw [hb] at rX;simp only [execOp,resolve,invoke,List.map_toArray,List.map_cons,List.map_nil,rX,OQ];go_simp;try rfl
    | false=>rw [hb] at rX;simp only [execOp,resolve,invoke,List.map_toArray,List.map_cons,List.map_nil,rX];go_simp;try rfl
   ·refine aU rfl ?_
    have d44:x.eval (.tmp 44)=.bool (!s.toList.isEmpty&&decide (peek s 0≠32)):=by have h_:=hI.dep haft 7 44 rfl rfl rfl;rw [hSp] at h_;exact h_
    refine aO (v:=.bool (!s.toList.isEmpty&&decide (peek s 0≠32))) ?_ (by subst hSp;exact rfl) (fun l' hl=>hjn l' hl (by decide) _)
    simp only [execOp,resolve,invoke,List.map_toArray,List.map_cons,List.map_nil,d44];go_simp
   ·have rY:x.eval (.tmp 45)=.bool (!s.toList.isEmpty&&decide (peek s 0≠32)):=by have h_:=hI.dep haft 8 45 rfl rfl rfl;rw [hSp] at h_;exact h_
    refine pR (j:=8) rfl rfl rfl rY (by rw [hsz];decide) (fun hb=>?_) (fun hb=>⟨fun d hd=>by subst hSp;exact fun h=>(by rw [hb] at h;cases h),fun l' hl=>hjn l' hl (by decide) _⟩)
    refine aO (v:=.string s) ?_ (by subst hSp;exact fun _=>rfl) (fun l' hl=>hjn l' hl (by decide) _)
    simp only [execOp,resolve,invoke,List.map_toArray,List.map_cons,List.map_nil,s0];go_simp
   ·have rY:x.eval (.tmp 45)=.bool (!s.toList.isEmpty&&decide (peek s 0≠32)):=by have h_:=hI.dep haft 8 45 rfl rfl rfl;rw [hSp] at h_;exact h_
    refine pR (j:=8) rfl rfl rfl rY (by rw [hsz];decide) (fun hb=>?_) (fun hb=>⟨fun d hd=>by subst hSp;exact fun h=>(by rw [hb] at h;cases h),fun l' hl=>hjn l' hl (by decide) _⟩)
    have d46:x.eval (.tmp 46)=.string s:=by have h_:=hI.dep haft 9 46 rfl rfl rfl;rw [hSp] at h_;exact h_ hb
    have hbe:(!s.toList.isEmpty)=true:=by rw [Bool.and_eq_true] at hb;exact hb.1
    have hp0:0<s.size:=by (by_cases hz:0<s.size;exact hz;exfalso;have e0:s=E0:=(by apply ByteArray.ext;apply Array.toList_inj.1;have:s.data.toList.length=0:=(by have e_:s.data.toList.length=s.size:=rfl;omega);rw [List.length_eq_zero_iff.1 this];rfl);rw [e0,kZ] at hbe;cases hbe)
    have hbi:(0:Int)<(s.size:Int):=by omega
    refine aO (v:=.int .u8 (peek s 0)) ?_ (by subst hSp;exact fun _=>rfl) (fun l' hl=>hjn l' hl (by decide) _)
    rw [jX hp0]
    simp only [execOp,resolve,invoke,List.map_toArray,List.map_cons,List.map_nil,d46];go_simp
   ·have rY:x.eval (.tmp 45)=.bool (!s.toList.isEmpty&&decide (peek s 0≠32)):=by have h_:=hI.dep haft 8 45 rfl rfl rfl;rw [hSp] at h_;exact h_
    refine pR (j:=8) rfl rfl rfl rY (by rw [hsz];decide) (fun hb=>?_) (fun hb=>⟨fun d hd=>by subst hSp;exact fun h=>(by rw [hb] at h;cases h),fun l' hl=>hjn l' hl (by decide) _⟩)
    have d47:x.eval (.tmp 47)=.int .u8 (peek s 0):=by have h_:=hI.dep haft 10 47 rfl rfl rfl;rw [hSp] at h_;exact h_ hb
    refine aO (v:=.bool (decide (peek s 0≠58))) ?_ (by subst hSp;exact fun _=>rfl) (fun l' hl=>hjn l' hl (by decide) _)
    simp only [execOp,resolve,invoke,List.map_toArray,List.map_cons,List.map_nil,d47];go_simp;try rfl
   ·refine aU rfl ?_
    have rY:x.eval (.tmp 45)=.bool (!s.toList.isEmpty&&decide (peek s 0≠32)):=by have h_:=hI.dep haft 8 45 rfl rfl rfl;rw [hSp] at h_;exact h_
    have OT:(!s.toList.isEmpty&&decide (peek s 0≠32))=true→x.eval (.tmp 48)=.bool (decide (peek s 0≠58)):=by have h_:=hI.dep haft 11 48 rfl rfl rfl;rw [hSp] at h_;exact h_
    refine aO (v:=.bool lb) ?_ (by subst hSp;exact rfl) (fun l' hl=>hjn l' hl (by decide) _)
    cases hb:(!s.toList.isEmpty&&decide (peek s 0≠32)) with
    | true=>have OT:=OT hb;rw [hb] at rY;rw [OO.out,hb,Bool.true_and];simp only [execOp,resolve,invoke,List.map_toArray,List.map_cons,List.map_nil,rY,OT];go_simp;try rfl
    | false=>rw [hb] at rY;rw [OO.out,hb,Bool.false_and];simp only [execOp,resolve,invoke,List.map_toArray,List.map_cons,List.map_nil,rY];go_simp;try rfl
   ·refine aU rfl ?_
    have d37:x.eval (.tmp 37)=.pointer (some ⟨N,0,none⟩):=by have h_:=hI.dep haft 0 37 rfl rfl rfl;rw [hSp] at h_;exact h_
    have d49:x.eval (.tmp 49)=.bool lb:=by have h_:=hI.dep haft 12 49 rfl rfl rfl;rw [hSp] at h_;exact h_
    have hrd:=hJ.2.2.2.2 hlf
    refine Kq (f:=34) (args:=#[.pointer (some ⟨N,0,none⟩),.bool lb]) ?_ ?_
    ·simp only [execOp,resolve,invoke,List.map_toArray,List.map_cons,List.map_nil,d37,d49];go_simp;try rfl
    ·refine (KJ lb hrd (by have:=yt.out;omega)).mono ?_
     intro e wz hq
     obtain ⟨kz,hq⟩:=hq
     cases hu:iD en lb l with
     | error er =>
      rw [hu] at hq
      refine .inr ⟨_,hq,?_⟩
      have hxd:=hI.defers
      obtain ⟨xt,xd⟩:=x
      dsimp only at hxd s2 s3 s4
      rw [hxd]
      refine Ig (er:=er) hne rfl s2 s3 s4 (hJ.1.tri.kept kz ⟨by omega,by omega,by omega⟩) (fun wv kv=>⟨((K3.out.step hI.kept (fun y hy=>by rcases hy with rfl|hy;exact .inr (by omega);rcases hy with h|h|h<;>exact .inr (by omega))).step kz (fun y hy=>.inr (by omega))).step kv (fun y hy=>by rcases hy with h|h|h<;>exact .inr (by omega)),?_⟩)
      rw [fin.out,hu]
      exact rfl
     | ok st =>
      rw [hu] at hq
      obtain ⟨a,S,he,hz,ho,hS⟩:=hq
      have hge:w3.heap.size≤wy.heap.size:=hI.kept.size
      refine .inl ⟨_,he,by subst hSp;exact ⟨st,a,S,rfl,hu,hz,ho,fun b hb=>⟨by have:=(hS b hb).1;omega,(hS b hb).2⟩⟩,kz.more (fun _ h=>.inl h),fun l' hl=>?_⟩
      rw [hJd]
      show LJ A B C N T en l lb w3 (l' 13) (l' 15) (l' 16) wz
      rw [iV hl,upd_ne hl 15 (by decide),upd_ne hl 16 (by decide)]
      have n15:=hI.no hlf 15 rfl rfl
      exact hJ.call hne kz ⟨by omega,by omega,by omega⟩ n15
   ·refine aU rfl ?_
    refine aO (v:=.agg #[.int .i64 0,.int .i64 0]) ?_ (by subst hSp;exact rfl) (fun l' hl=>hjn l' hl (by decide) _)
    simp only [execOp,resolve,invoke,List.map_toArray,List.map_cons,List.map_nil,s4];go_simp
   ·refine aU rfl ?_
    obtain ⟨st,a,S,d50,hu,hz,ho,hS⟩:=(by have h_:=hI.dep haft 13 50 rfl rfl rfl;rw [hSp] at h_;exact h_:∃st a S,x.eval (.tmp 50)=dY a st∧iD en lb l=.ok st∧rE st∧tq wy S a st∧∀b,S b→w3.heap.size≤b∧b<wy.heap.size)
    obtain ⟨a0,s0_,hB0⟩:=hJ.1.st
    refine sZ (F:=fun w'=>bZ A a st w'∧Kept (· = A) wy w') (kE rfl hB0 s2 a st d50) rfl (fun w' hf=>hf.2.more fun _ h=>.inr (.inl h)) (fun w' hf l' hl=>?_)
    rw [hJd]
    show LJ A B C N T en l lb w3 (l' 13) (l' 15) (l' 16) w'
    rw [iV hl,upd_ne hl 13 (by decide),upd_ne hl 16 (by decide)]
    exact hJ.sS hne hf.2 hf.1 hu hz ho hS (by omega) Ae
   ·refine aU rfl ?_
    refine iU (w':=wy.setCell ⟨B,0,none⟩ (.bool true)) ?_ rfl ((Kept.refl _ _).setCell (p:=⟨B,0,none⟩) (.inl (.inr (.inr (.inl rfl)))) _) (fun l' hl=>?_)
    ·simp only [execOp,resolve,invoke,List.map_toArray,List.map_cons,List.map_nil,s3];go_simp
    ·rw [hJd]
     show LJ A B C N T en l lb w3 (l' 13) (l' 15) (l' 16) _
     rw [iV hl,upd_ne hl 13 (by decide),upd_ne hl 15 (by decide)]
     exact hJ.sB hne (by omega) Ae
   ·refine aU rfl ?_
    have d51:x.eval (.tmp 51)=.agg #[.int .i64 0,.int .i64 0]:=by have h_:=hI.dep haft 14 51 rfl rfl rfl;rw [hSp] at h_;exact h_
    refine iU (w':=(wy.setCell ⟨C,0,none⟩ (.int .i64 0)).setCell ⟨C,1,none⟩ (.int .i64 0)) ?_ rfl (((Kept.refl _ _).setCell (p:=⟨C,0,none⟩) (.inl (.inr (.inr (.inr rfl)))) _).setCell (p:=⟨C,1,none⟩) (.inl (.inr (.inr (.inr rfl)))) _) (fun l' hl=>?_)
    ·simp only [execOp,resolve,invoke,List.map_toArray,List.map_cons,List.map_nil,s4,d51];go_simp
    ·rw [hJd]
     show LJ A B C N T en l lb w3 (l' 13) (l' 15) (l' 16) _
     rw [upd_ne hl 13 (by decide),upd_ne hl 15 (by decide),upd_ne hl 16 (by decide)]
     exact hJ.sF hne (by omega) Ae
  ·intro lq hl
   rw [hJd]
   show LJ A B C N T en l lb w3 (lq 13) (lq 15) (lq 16) w3.drew
   rw [hl 13 (by decide)]
   rw [hl 15 (by decide)]
   rw [hl 16 (by decide)]
   exact LJ.start T3.out R3.out
  ·intro lq l' f wx hl h
   rw [hJd] at h⊢
   have h:LJ A B C N T en l lb w3 (lq 13) (lq 15) (lq 16) wx:=h
   show LJ A B C N T en l lb w3 (l' 13) (l' 15) (l' 16) wx
   rw [←hl 13 (by decide)]
   rw [←hl 15 (by decide)]
   rw [←hl 16 (by decide)]
   exact h
  ·intro f wy hK hS hJ
   rw [hJd] at hJ
   have hJ:LJ A B C N T en l lb w3 ((fun _=>true) 13) ((fun _=>true) 15) ((fun _=>true) 16) wy:=hJ
   obtain ⟨hq1,hq2,hq3,hq4,hq5⟩:=hJ
   obtain ⟨st,a,S,hB,hu,hz,ho,hS⟩:=hq3 (by trivial)
   have K9:=K3.out.step hK (fun y hy=>by rcases hy with rfl|hy;exact .inr (by omega);rcases hy with h|h|h<;>exact .inr (by omega))
   simp only [iI,List.foldl_cons,List.foldl_nil,List.setIfInBounds_toArray,List.set_cons_zero,List.set_cons_succ]
   go_wp2_with fail
   refine OL rfl rfl rfl rfl ⟨hB,hq4 (by trivial),hq2⟩ ⟨K9,?_⟩
   rw [fin.out,hu]
   exact ⟨a,S,rfl,hz,ho,fun b hb=>⟨by have:=(hS b hb).1;omega,(hS b hb).2⟩⟩
theorem Gh (s:aj) (w:World) (hs:s.size≤1000000000) (hm:rG w) (hr:jC w):Calls Tryz.prog 23 #[.string s] w (Ic s w):=by
 by_cases h0:0<s.size
 ·by_cases h1:s[0].toNat=42
  ·by_cases h2:s.size≤2000
   ·exact Qm s w hs hm hr h0 h1 h2
   ·exact Xr s w hs hm hr h0 h1 (by omega)
  ·exact line_text s w hs hm hr h0 h1
 ·refine Un s w hs hm hr ?_
  apply ByteArray.ext;apply Array.toList_inj.1
  have:s.data.toList.length=0:=by have e_:s.data.toList.length=s.size:=rfl;omega
  rw [List.length_eq_zero_iff.1 this];rfl
end Go.Proofs.YtgoijmpahffnhaaGreatDoor
