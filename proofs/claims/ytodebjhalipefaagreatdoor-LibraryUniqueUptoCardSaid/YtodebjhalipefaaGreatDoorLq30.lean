/-  -/
import Derived.Test.YtodebjhalipefaaGreatDoorLq26
import Derived.Test.YtodebjhalipefaaGreatDoorShelf
import Derived.Test.YtodebjhalipefaaGreatDoorLq20
namespace Go.Proofs.YtodebjhalipefaaGreatDoor
set_option linter.all false
open Go.RowKit
set_option maxRecDepth 100000
set_option maxHeartbeats 16000000
def xH (s:aj):Bool:=decide (s.size≠0∧peek s 0≠32∧peek s 0≠58)
theorem kJ.new {A B C n:Nat} {w w2:World} (h:Kept (kJ A B C) w w2) {w0:World} (k:Kept aA w0 w) (hA:w0.heap.size≤A∧w0.heap.size≤B∧w0.heap.size≤C):Kept aA w0 w2 :=
 k.step h (fun y hy=>by rcases hy with h|h|h<;>exact .inr (by omega))
theorem cell_lt {w:World} {b o:Nat} {v:Value} (h:w.cell? ⟨b,o,none⟩=some v):b<w.heap.size:=by
 by_cases hb:b<w.heap.size
 ·exact hb
 ·exfalso
  have:w.heap[b]?=none:=Array.getElem?_eq_none (by omega)
  simp [World.cell?,this] at h
theorem QK (s:aj) (w:World) (hs:s.size≤1000000000) (hm:oz w) (hr:iD w) (h0:0<s.size) (h1:s[0].toNat=42) (h2:s.size≤2000):Calls Tryz.prog 24 #[.string s] w (Ih s w):=by
 have er:Hid (kH s=.ok none):=by unfold Hid kH;rw [if_pos ⟨by rw [rY h0];omega,h2⟩]
 obtain ⟨w0,hw0⟩:∃w0,w0=((w.alloc (.cells #[.string ⟨#[]⟩,.int .i64 0,.int .i64 0,.string ⟨#[]⟩,.int .i64 0,.string ⟨#[]⟩,.slice none 0 0,.int .i64 0,.string ⟨#[]⟩,.int .i64 0,.string ⟨#[]⟩,.slice none 0 0,.int .i64 0,.string ⟨#[]⟩,.int .i64 0,.string ⟨#[]⟩,.slice none 0 0,.string ⟨#[]⟩,.string ⟨#[]⟩,.slice none 0 0,.slice none 0 0,.string ⟨#[]⟩,.string ⟨#[]⟩,.string ⟨#[]⟩] 69)).alloc (.cells #[.bool false] 4)).alloc (.cells #[.int .i64 0,.int .i64 0] 39):=⟨_,rfl⟩
 have k0:Kept aA w w0:=by rw [hw0];exact (((Kept.refl _ _).alloc _).alloc _).alloc _
 have T0:Hid (fP w.heap.size (w.heap.size+1) (w.heap.size+1+1) nilA cZ (.bool false) (.int .i64 0) (.int .i64 0) w0):=by
  rw [hw0]
  refine ⟨(bT.new w nilA cZ).kept (((Kept.refl aA _).alloc _).alloc _) (fun h=>h),?_,?_⟩
  ·have h1:dH ((w.alloc (.cells #[.string ⟨#[]⟩,.int .i64 0,.int .i64 0,.string ⟨#[]⟩,.int .i64 0,.string ⟨#[]⟩,.slice none 0 0,.int .i64 0,.string ⟨#[]⟩,.int .i64 0,.string ⟨#[]⟩,.slice none 0 0,.int .i64 0,.string ⟨#[]⟩,.int .i64 0,.string ⟨#[]⟩,.slice none 0 0,.string ⟨#[]⟩,.string ⟨#[]⟩,.slice none 0 0,.slice none 0 0,.string ⟨#[]⟩,.string ⟨#[]⟩,.string ⟨#[]⟩] 69)).alloc (.cells #[.bool false] 4)) (w.heap.size+1) 4 (.bool false):=iy (by simp)
   unfold dH;rw [Below.heap_alloc _ _ _ h1.lt];exact h1
  ·exact iy (by simp)
 have hsz0:w0.heap.size=w.heap.size+3:=by rw [hw0];simp
 have HW0:=ah hw0
 have K0:=ah k0
 have M0:=ah (hm.kept k0 (fun h=>h))
 have G0:Hid (iD w0):=by obtain ⟨ev,h1,h2⟩:=hr;exact ⟨ev,(k0.cell (cell_lt h1) (fun h=>h)).trans h1,h2⟩
 have Td:5<w.heap.size:=by obtain ⟨ev,h1,h2⟩:=hr;exact cell_lt h1
 clear hw0 k0 hm hr
 go_enter_defers Tryz.func24, Tryz.ntmps24
 go_upto_region 1 with fail
 rw [←HW0.out]
 obtain ⟨C,hC⟩:∃C,C=w.heap.size+1+1:=⟨_,rfl⟩
 rw [←hC] at T0⊢
 obtain ⟨B,hB⟩:∃B,B=w.heap.size+1:=⟨_,rfl⟩
 rw [←hB] at T0⊢
 obtain ⟨A,hA⟩:∃A,A=w.heap.size:=⟨_,rfl⟩
 rw [←hA] at T0⊢
 have hne:A≠B∧A≠C∧B≠C:=by omega
 have vT:w.heap.size≤A∧w.heap.size≤B∧w.heap.size≤C:=by omega
 have hlt:A<w0.heap.size∧B<w0.heap.size∧C<w0.heap.size:=by omega
 clear hA hB hC hsz0
 have s0:s.toList.isEmpty=false:=mM (fun e=>by rw [e] at h0;exact absurd h0 (by decide))
 have bi:(0:Int)<(s.size:Int):=by omega
 have y1:((s[0].toNat:Int)==42)=true:=by rw [h1];rfl
 have d1:decide ((s.size:Int)≤(2000:Int))=true:=ak (by omega)
 have d2:decide (s.size≤2000)=true:=ak h2
 go_upto_region 2 with fail
 obtain ⟨Sp,hSp⟩:∃Sp:Nat→Value→World→Prop,Sp=(fun i v wx=>match i with
  | 0=>v=dN nilA cZ
  | 1=>v=.agg #[.int .i64 0,.int .i64 0]
  | _=>True):=⟨_,rfl⟩
 obtain ⟨J,hJd⟩:∃J:(Nat→Bool)→(Nat→Value)→World→Prop,J=(fun pp f wx=>fP A B C nilA cZ (.bool false) (.int .i64 0) (.int .i64 0) wx):=⟨_,rfl⟩
 refine iU (kJ A B C) J Sp [19,20] (by kernel_rfl) (by kernel_rfl) (by kernel_rfl) (fun i v w w' h hk=>by subst hSp;exact h) ?_ ?_ ?_ ?_
 ·intro i o hi lq x wy hI hJ hlf haft
  rw [hJd] at hJ
  have hJ:fP A B C nilA cZ (.bool false) (.int .i64 0) (.int .i64 0) wy:=hJ
  have s2:x.eval (.tmp 2)=.pointer (some ⟨A,0,none⟩):=hI.keep 2 _ rfl (by kernel_rfl)
  have s3:x.eval (.tmp 3)=.pointer (some ⟨B,0,none⟩):=hI.keep 3 _ rfl (by kernel_rfl)
  have s4:x.eval (.tmp 4)=.pointer (some ⟨C,0,none⟩):=hI.keep 4 _ rfl (by kernel_rfl)
  have cb:=hJ.bo.cell;have fb:=hJ.bo.free
  obtain ⟨lS,mO,fA⟩:=hJ.fl.cells
  have mP:=fA 0;have mQ:=fA 1
  have hjn:∀(l':Nat→Bool),(∀j,l' j=true↔j=i∨lq j=true)→(∀j∈([]:List Nat),i≠j)→∀f,J l' f wy:=by
   intro l' hl hne f
   rw [hJd]
   show fP A B C nilA cZ (.bool false) (.int .i64 0) (.int .i64 0) wy
   exact hJ
  rcases i with _|_|_|_|_|i
  all_goals (simp only [List.getElem?_toArray,List.getElem?_cons_zero,List.getElem?_cons_succ,List.getElem?_nil,Option.some.injEq,reduceCtorEq] at hi)
  all_goals subst hi
  ·refine aT rfl ?_
   refine aK (v:=dN nilA cZ) ?_ (by subst hSp;exact rfl) (fun l' hl=>hjn l' hl (by decide) _)
   exact tN rfl hJ.st s2
  ·refine aT rfl ?_
   refine aK (v:=.agg #[.int .i64 0,.int .i64 0]) ?_ (by subst hSp;exact rfl) (fun l' hl=>hjn l' hl (by decide) _)
   simp only [execOp,resolve,invoke,List.map_toArray,List.map_cons,List.map_nil,s4];go_simp
  ·refine aT rfl ?_
   have d19:x.eval (.tmp 19)=dN nilA cZ:=by have h_:=hI.dep haft 0 19 rfl rfl rfl;rw [hSp] at h_;exact h_
   refine qY (F:=fun w'=>bT A nilA cZ w'∧Kept (· = A) wy w') (jE rfl hJ.st s2 nilA cZ d19) rfl (fun w' hf=>hf.2.more fun _ h=>.inl h) (fun w' hf l' hl=>?_)
   rw [hJd]
   exact hJ.JE hne hf.2 hf.1
  ·refine aT rfl ?_
   refine ig (w':=wy.setCell ⟨B,0,none⟩ (.bool false)) ?_ rfl (PO (Kept.refl _ _)) (fun l' hl=>?_)
   ·simp only [execOp,resolve,invoke,List.map_toArray,List.map_cons,List.map_nil,s3];go_simp
   ·rw [hJd];exact hJ.setB hne _
  ·refine aT rfl ?_
   have d20:x.eval (.tmp 20)=.agg #[.int .i64 0,.int .i64 0]:=by have h_:=hI.dep haft 1 20 rfl rfl rfl;rw [hSp] at h_;exact h_
   refine ig (w':=(wy.setCell ⟨C,0,none⟩ (.int .i64 0)).setCell ⟨C,1,none⟩ (.int .i64 0)) ?_ rfl (lY (lY (Kept.refl _ _))) (fun l' hl=>?_)
   ·simp only [execOp,resolve,invoke,List.map_toArray,List.map_cons,List.map_nil,s4,d20];go_simp
   ·rw [hJd];exact hJ.fU hne _ _
 ·intro lq hl
  rw [hJd]
  show fP A B C nilA cZ (.bool false) (.int .i64 0) (.int .i64 0) w0.drew
  exact T0.out.drew
 ·intro lq l' f wx hl h
  rw [hJd] at h⊢
  have h:fP A B C nilA cZ (.bool false) (.int .i64 0) (.int .i64 0) wx:=h
  show fP A B C nilA cZ (.bool false) (.int .i64 0) (.int .i64 0) wx
  exact h
 ·intro f wy hK hS hJ
  rw [hJd] at hJ
  have hJ:fP A B C nilA cZ (.bool false) (.int .i64 0) (.int .i64 0) wy:=hJ
  simp only [gQ,List.foldl_cons,List.foldl_nil,List.setIfInBounds_toArray,List.set_cons_zero,List.set_cons_succ]
  go_wp2_with fail
  refine ⟨_,lZ rfl rfl rfl rfl hJ,kJ.new (n:=0) hK K0.out vT,?_⟩
  rw [er.out]
  exact rfl
structure LT (A B C:Nat) (w:World):Prop where
 tri:pR A B C w
 bo:(∃v,w.cell? ⟨B,0,none⟩=some v)∧w.frozen? ⟨B,0,none⟩=false
 st:∃a s,bT A a s w
theorem LT.of {A B C:Nat} {w:World} (h:pR A B C w):LT A B C w:=by
 obtain ⟨a,s,v,c0,c1,hT⟩:=h
 exact ⟨⟨a,s,v,c0,c1,hT⟩,⟨⟨_,hT.bo.cell⟩,hT.bo.free⟩,a,s,hT.st⟩
def LJ (A B C N T en:Nat) (l:List aC) (lb:Bool) (w3:World) (p13 zN p16:Bool) (w:World):Prop :=
 LT A B C w∧Two C (.int .i64 0) (.int .i64 0) w∧(zN=true→∃st a S,bT A a st w∧gB en lb l=.ok st∧ql st∧qZ w S a st∧∀b,S b→w3.heap.size≤b∧b<w.heap.size)∧(p16=true→dH w B 4 (.bool true))∧(p13=false→bV N T en l 0 w)
section
variable {A B C N T en:Nat} {l:List aC} {lb:Bool} {w3 w:World} {p13 zN p16:Bool}
theorem LJ.start {a:gW} {s:aF} {v:Value} (h:fP A B C a s v (.int .i64 0) (.int .i64 0) w) (hr:bV N T en l 0 w):LJ A B C N T en l lb w3 false false false w.drew :=
 ⟨LT.of (PN ⟨_,_,_,_,_,h⟩),h.fl,fun e=>(by cases e),fun e=>(by cases e),fun _=>hr.kept (Kept.refl aA w).drew (fun h=>h) (fun h=>h)⟩
theorem LJ.call {w2:World} (hne:A≠B∧A≠C∧B≠C) (h:LJ A B C N T en l lb w3 p13 zN p16 w) (hk:Kept (· = N) w w2) (hn:A≠N∧B≠N∧C≠N) (h15:zN=false):LJ A B C N T en l lb w3 true zN p16 w2:=by
 obtain ⟨h1,h2,h3,h4,h5⟩:=h
 refine ⟨LT.of (h1.tri.kept hk hn),h2.kept hk hn.2.2,fun e=>(by rw [h15] at e;cases e),fun e=>?_,fun e=>by cases e⟩
 unfold dH;rw [hk.block B (h4 e).lt hn.2.1];exact h4 e
theorem LJ.upd {w2:World} {X:Nat→Prop} (h:LJ A B C N T en l lb w3 p13 zN p16 w) (hk:Kept X w w2) (hX:∀b,X b→b=A∨b=B∨b=C) (hT:pR A B C w2) (hF:Two C (.int .i64 0) (.int .i64 0) w2) (hw:A<w3.heap.size∧B<w3.heap.size∧C<w3.heap.size) (zO:A≠N∧B≠N∧C≠N∧A≠T∧B≠T∧C≠T∧5≠A∧5≠B∧5≠C)
  (hA:zN=true→∀a s,bT A a s w→bT A a s w2) (hB:p16=true→dH w B 4 (.bool true)→dH w2 B 4 (.bool true)):LJ A B C N T en l lb w3 p13 zN p16 w2:=by
 obtain ⟨h1,h2,h3,h4,h5⟩:=h
 refine ⟨LT.of hT,hF,fun e=>?_,fun e=>hB e (h4 e),fun e=>(h5 e).kept hk (fun hx=>by have:=hX _ hx;omega) (fun hx=>by have:=hX _ hx;omega) (fun hx=>by have:=hX _ hx;omega)⟩
 obtain ⟨st,a,S,x1,x2,x3,x4,x5⟩:=h3 e
 exact ⟨st,a,S,hA e a st x1,x2,x3,x4.to hk (fun b hb=>⟨(x5 b hb).2,fun hx=>by have:=x5 b hb;have:=hX _ hx;omega⟩) (fun _ h=>h),fun b hb=>⟨(x5 b hb).1,Nat.lt_of_lt_of_le (x5 b hb).2 hk.size⟩⟩
theorem LJ.sB (hne:A≠B∧A≠C∧B≠C) (h:LJ A B C N T en l lb w3 p13 zN p16 w) (hw:A<w3.heap.size∧B<w3.heap.size∧C<w3.heap.size) (zO:A≠N∧B≠N∧C≠N∧A≠T∧B≠T∧C≠T∧5≠A∧5≠B∧5≠C):LJ A B C N T en l lb w3 p13 zN true (w.setCell ⟨B,0,none⟩ (.bool true)):=by
 have k:Kept (· = B) w (w.setCell ⟨B,0,none⟩ (.bool true)):=(Kept.refl (· = B) w).setCell (p:=⟨B,0,none⟩) (.inl rfl) _
 have hc:=S9 (v:=.bool true) h.1.tri
 obtain ⟨a1,a2,a3,a4,a5⟩:=LJ.upd h k (fun b hb=>.inr (.inl hb)) (acw hne h.1.tri) (acy hne h.2.1) hw zO (fun _ _ _ x=>afI hne x) (fun _ _=>hc)
 exact ⟨a1,a2,a3,fun _=>hc,a5⟩
theorem LJ.sF (hne:A≠B∧A≠C∧B≠C) (h:LJ A B C N T en l lb w3 p13 zN p16 w) (hw:A<w3.heap.size∧B<w3.heap.size∧C<w3.heap.size) (zO:A≠N∧B≠N∧C≠N∧A≠T∧B≠T∧C≠T∧5≠A∧5≠B∧5≠C):LJ A B C N T en l lb w3 p13 zN p16 ((w.setCell ⟨C,0,none⟩ (.int .i64 0)).setCell ⟨C,1,none⟩ (.int .i64 0)):=by
 have k:Kept (· = C) w ((w.setCell ⟨C,0,none⟩ (.int .i64 0)).setCell ⟨C,1,none⟩ (.int .i64 0)):=((Kept.refl (· = C) w).setCell (p:=⟨C,0,none⟩) (.inl rfl) _).setCell (p:=⟨C,1,none⟩) (.inl rfl) _
 exact LJ.upd h k (fun b hb=>.inr (.inr hb)) (YW hne (YV hne h.1.tri)) (Tc h.1.tri) hw zO (fun _ _ _ x=>Vy hne (Vy hne x)) (fun _ x=>MB hne (MB hne x))
theorem LJ.sS {w2:World} {st:aF} {a:gW} {S:Nat→Prop} (hne:A≠B∧A≠C∧B≠C) (h:LJ A B C N T en l lb w3 p13 zN p16 w) (hk:Kept (· = A) w w2) (hB:bT A a st w2) (hu:gB en lb l=.ok st) (hz:ql st) (ho:qZ w S a st) (hS:∀b,S b→w3.heap.size≤b∧b<w.heap.size)
  (hw:A<w3.heap.size∧B<w3.heap.size∧C<w3.heap.size) (zO:A≠N∧B≠N∧C≠N∧A≠T∧B≠T∧C≠T∧5≠A∧5≠B∧5≠C):LJ A B C N T en l lb w3 p13 true p16 w2:=by
 obtain ⟨h1,h2,h3,h4,h5⟩:=h
 obtain ⟨a0,s0,v0,d0,d1,hT⟩:=h1.tri
 have hT2:pR A B C w2:=⟨_,_,_,_,_,hT.JE hne hk hB⟩
 refine ⟨LT.of hT2,h2.kept hk (fun e=>hne.2.1 e.symm),fun _=>⟨st,a,S,hB,hu,hz,ho.to hk (fun b hb=>⟨(hS b hb).2,by have:=hS b hb;omega⟩) (fun _ h=>h),fun b hb=>⟨(hS b hb).1,Nat.lt_of_lt_of_le (hS b hb).2 hk.size⟩⟩,fun e=>?_,fun e=>(h5 e).kept hk (by omega) (by omega) (by omega)⟩
 unfold dH;rw [hk.block B (h4 e).lt (fun e=>hne.1 e.symm)];exact h4 e
end
theorem YZ (s:aj):xH s=((!s.toList.isEmpty&&decide (peek s 0≠32))&&decide (peek s 0≠58)):=by
 unfold xH
 by_cases h:s=E0
 ·subst h;rw [jR];exact au (fun h=>h.1 rfl)
 ·rw [mM h]
  have h2:s.size≠0:=fun e=>h (by
   apply ByteArray.ext;apply Array.toList_inj.1
   have:s.data.toList.length=0:=by have e_:s.data.toList.length=s.size:=rfl;omega
   rw [List.length_eq_zero_iff.1 this];rfl)
  by_cases h3:peek s 0=32
  ·simp [h3]
  ·by_cases h4:peek s 0=58
   ·simp [h4]
   ·simp [h2,h3,h4]
theorem VA (s:aj) (hnb:ET s) (w:World) (hs:s.size≤1000000000) (hm:oz w) (hr:iD w) (h0:s=E0):Calls Tryz.prog 24 #[.string s] w (Ih s w):=by
 have HL:Hid (kH s=match jO s with
  | .error er=>.error er
  | .ok l=>match gB s.size (xH s) l with
   | .error er=>.error er
   | .ok x=>.ok (some x)):=by unfold Hid kH;rw [if_neg (by rw [h0];intro h;exact absurd h.1 (by decide))];rfl
 obtain ⟨w0,hw0⟩:∃w0,w0=((w.alloc (.cells #[.string ⟨#[]⟩,.int .i64 0,.int .i64 0,.string ⟨#[]⟩,.int .i64 0,.string ⟨#[]⟩,.slice none 0 0,.int .i64 0,.string ⟨#[]⟩,.int .i64 0,.string ⟨#[]⟩,.slice none 0 0,.int .i64 0,.string ⟨#[]⟩,.int .i64 0,.string ⟨#[]⟩,.slice none 0 0,.string ⟨#[]⟩,.string ⟨#[]⟩,.slice none 0 0,.slice none 0 0,.string ⟨#[]⟩,.string ⟨#[]⟩,.string ⟨#[]⟩] 69)).alloc (.cells #[.bool false] 4)).alloc (.cells #[.int .i64 0,.int .i64 0] 39):=⟨_,rfl⟩
 have k0:Kept aA w w0:=by rw [hw0];exact (((Kept.refl _ _).alloc _).alloc _).alloc _
 have T0:Hid (fP w.heap.size (w.heap.size+1) (w.heap.size+1+1) nilA cZ (.bool false) (.int .i64 0) (.int .i64 0) w0):=by
  rw [hw0]
  refine ⟨(bT.new w nilA cZ).kept (((Kept.refl aA _).alloc _).alloc _) (fun h=>h),?_,?_⟩
  ·have h1:dH ((w.alloc (.cells #[.string ⟨#[]⟩,.int .i64 0,.int .i64 0,.string ⟨#[]⟩,.int .i64 0,.string ⟨#[]⟩,.slice none 0 0,.int .i64 0,.string ⟨#[]⟩,.int .i64 0,.string ⟨#[]⟩,.slice none 0 0,.int .i64 0,.string ⟨#[]⟩,.int .i64 0,.string ⟨#[]⟩,.slice none 0 0,.string ⟨#[]⟩,.string ⟨#[]⟩,.slice none 0 0,.slice none 0 0,.string ⟨#[]⟩,.string ⟨#[]⟩,.string ⟨#[]⟩] 69)).alloc (.cells #[.bool false] 4)) (w.heap.size+1) 4 (.bool false):=iy (by simp)
   unfold dH;rw [Below.heap_alloc _ _ _ h1.lt];exact h1
  ·exact iy (by simp)
 have hsz0:w0.heap.size=w.heap.size+3:=by rw [hw0];simp
 have HW0:=ah hw0
 have K0:=ah k0
 have M0:=ah (hm.kept k0 (fun h=>h))
 have G0:Hid (iD w0):=by obtain ⟨ev,h1,h2⟩:=hr;exact ⟨ev,(k0.cell (cell_lt h1) (fun h=>h)).trans h1,h2⟩
 have Td:5<w.heap.size:=by obtain ⟨ev,h1,h2⟩:=hr;exact cell_lt h1
 clear hw0 k0 hm hr
 go_enter_defers Tryz.func24, Tryz.ntmps24
 go_upto_region 1 with fail
 rw [←HW0.out]
 obtain ⟨C,hC⟩:∃C,C=w.heap.size+1+1:=⟨_,rfl⟩
 rw [←hC] at T0⊢
 obtain ⟨B,hB⟩:∃B,B=w.heap.size+1:=⟨_,rfl⟩
 rw [←hB] at T0⊢
 obtain ⟨A,hA⟩:∃A,A=w.heap.size:=⟨_,rfl⟩
 rw [←hA] at T0⊢
 have hne:A≠B∧A≠C∧B≠C:=by omega
 have vT:w.heap.size≤A∧w.heap.size≤B∧w.heap.size≤C:=by omega
 have hlt:A<w0.heap.size∧B<w0.heap.size∧C<w0.heap.size:=by omega
 clear hA hB hC hsz0
 have s0:s.toList.isEmpty=true:=by rw [h0];exact jR
 clear h0
 have afM:=hs
 cases hx:jO s with
 | error er =>
  have fin:Hid (kH s=.error er):=by unfold Hid;rw [HL.out,hx]
  have her:=Gg hx
  have e1:(er.1 != 0)=true:=by simpa using her
  go_upto_region 4 with (go_at_call 38;(refine (qG s w0 hs M0.out).mono ?_);intro e w1 h_;obtain ⟨k_,h_⟩:=h_;rw [hx] at h_;obtain rfl:=h_;have T1:=ah (T0.out.kept k_ ⟨fun h=>h,fun h=>h,fun h=>h⟩);have K1:=ah (K0.out.trans k_);obtain ⟨lS,mO,fA⟩:=T1.out.fl.cells;have mP:=fA 0;have mQ:=fA 1;clear k_ fA)
  have T2:=ah (T1.out.fU hne (.int .i64 er.1) (.int .i64 er.2))
  have K2:=ah (kJ.new (n:=0) (lY (i:=1) (d:=.int .i64 er.2) (lY (i:=0) (d:=.int .i64 er.1) (A:=A) (B:=B) (C:=C) (Kept.refl _ w1))) K1.out vT)
  obtain ⟨w2,hw2⟩:∃w2,w2=(w1.setCell ⟨C,0,none⟩ (.int .i64 er.1)).setCell ⟨C,1,none⟩ (.int .i64 er.2):=⟨_,rfl⟩
  rw [←hw2] at T2 K2
  rw [←hw2]
  clear hw2 lS mO mP mQ
  obtain ⟨lS,mO,fA⟩:=T2.out.fl.cells
  have mP:=fA 0;have mQ:=fA 1
  go_upto_region 5 with fail
  clear lS mO fA mP mQ
  obtain ⟨Sp,hSp⟩:∃Sp:Nat→Value→World→Prop,Sp=(fun i v wx=>match i with
   | 0=>v=dN nilA cZ
   | 1=>v=.agg #[.int .i64 er.1,.int .i64 er.2]
   | _=>True):=⟨_,rfl⟩
  obtain ⟨J,hJd⟩:∃J:(Nat→Bool)→(Nat→Value)→World→Prop,J=(fun pp f wx=>fP A B C nilA cZ (.bool false) (.int .i64 er.1) (.int .i64 er.2) wx):=⟨_,rfl⟩
  refine iU (kJ A B C) J Sp [29,30] (by kernel_rfl) (by kernel_rfl) (by kernel_rfl) (fun i v w w' h hk=>by subst hSp;exact h) ?_ ?_ ?_ ?_
  ·intro i o hi lq x wy hI hJ hlf haft
   rw [hJd] at hJ
   have hJ:fP A B C nilA cZ (.bool false) (.int .i64 er.1) (.int .i64 er.2) wy:=hJ
   have s2:x.eval (.tmp 2)=.pointer (some ⟨A,0,none⟩):=hI.keep 2 _ rfl (by kernel_rfl)
   have s3:x.eval (.tmp 3)=.pointer (some ⟨B,0,none⟩):=hI.keep 3 _ rfl (by kernel_rfl)
   have s4:x.eval (.tmp 4)=.pointer (some ⟨C,0,none⟩):=hI.keep 4 _ rfl (by kernel_rfl)
   have cb:=hJ.bo.cell;have fb:=hJ.bo.free
   obtain ⟨lS,mO,fA⟩:=hJ.fl.cells
   have mP:=fA 0;have mQ:=fA 1
   have hjn:∀(l':Nat→Bool),(∀j,l' j=true↔j=i∨lq j=true)→(∀j∈([]:List Nat),i≠j)→∀f,J l' f wy:=by
    intro l' hl hne f
    rw [hJd]
    show fP A B C nilA cZ (.bool false) (.int .i64 er.1) (.int .i64 er.2) wy
    exact hJ
   rcases i with _|_|_|_|_|i
   all_goals (simp only [List.getElem?_toArray,List.getElem?_cons_zero,List.getElem?_cons_succ,List.getElem?_nil,Option.some.injEq,reduceCtorEq] at hi)
   all_goals subst hi
   ·refine aT rfl ?_
    refine aK (v:=dN nilA cZ) ?_ (by subst hSp;exact rfl) (fun l' hl=>hjn l' hl (by decide) _)
    exact tN rfl hJ.st s2
   ·refine aT rfl ?_
    refine aK (v:=.agg #[.int .i64 er.1,.int .i64 er.2]) ?_ (by subst hSp;exact rfl) (fun l' hl=>hjn l' hl (by decide) _)
    simp only [execOp,resolve,invoke,List.map_toArray,List.map_cons,List.map_nil,s4];go_simp
   ·refine aT rfl ?_
    have Y0:x.eval (.tmp 29)=dN nilA cZ:=by have h_:=hI.dep haft 0 29 rfl rfl rfl;rw [hSp] at h_;exact h_
    refine qY (F:=fun w'=>bT A nilA cZ w'∧Kept (· = A) wy w') (jE rfl hJ.st s2 nilA cZ Y0) rfl (fun w' hf=>hf.2.more fun _ h=>.inl h) (fun w' hf l' hl=>?_)
    rw [hJd]
    exact hJ.JE hne hf.2 hf.1
   ·refine aT rfl ?_
    refine ig (w':=wy.setCell ⟨B,0,none⟩ (.bool false)) ?_ rfl (PO (Kept.refl _ _)) (fun l' hl=>?_)
    ·simp only [execOp,resolve,invoke,List.map_toArray,List.map_cons,List.map_nil,s3];go_simp
    ·rw [hJd];exact hJ.setB hne _
   ·refine aT rfl ?_
    have Y1:x.eval (.tmp 30)=.agg #[.int .i64 er.1,.int .i64 er.2]:=by have h_:=hI.dep haft 1 30 rfl rfl rfl;rw [hSp] at h_;exact h_
    refine ig (w':=(wy.setCell ⟨C,0,none⟩ (.int .i64 er.1)).setCell ⟨C,1,none⟩ (.int .i64 er.2)) ?_ rfl (lY (lY (Kept.refl _ _))) (fun l' hl=>?_)
    ·simp only [execOp,resolve,invoke,List.map_toArray,List.map_cons,List.map_nil,s4,Y1];go_simp
    ·rw [hJd];exact hJ.fU hne _ _
  ·intro lq hl
   rw [hJd]
   show fP A B C nilA cZ (.bool false) (.int .i64 er.1) (.int .i64 er.2) w2.drew
   exact T2.out.drew
  ·intro lq l' f wx hl h
   rw [hJd] at h⊢
   have h:fP A B C nilA cZ (.bool false) (.int .i64 er.1) (.int .i64 er.2) wx:=h
   show fP A B C nilA cZ (.bool false) (.int .i64 er.1) (.int .i64 er.2) wx
   exact h
  ·intro f wy hK hS hJ
   rw [hJd] at hJ
   have hJ:fP A B C nilA cZ (.bool false) (.int .i64 er.1) (.int .i64 er.2) wy:=hJ
   simp only [gQ,List.foldl_cons,List.foldl_nil,List.setIfInBounds_toArray,List.set_cons_zero,List.set_cons_succ]
   go_wp2_with fail
   refine ⟨_,lZ rfl rfl rfl rfl hJ,kJ.new (n:=0) hK K2.out vT,?_⟩
   rw [fin.out]
   exact rfl
 | ok l =>
  obtain ⟨hgood,hlen,hs2⟩:=DN hnb hx
  have HG:=ah hgood;have xF:=ah hlen
  have fin:Hid (kH s=match gB s.size (xH s) l with | .error er=>.error er | .ok x=>.ok (some x)):=by unfold Hid;rw [HL.out,hx]
  clear hgood hlen
  go_upto_region 4 with (go_at_call 38;(refine (qG s w0 hs M0.out).mono ?_);intro e w1 h_;obtain ⟨k_,h_⟩:=h_;rw [hx] at h_;obtain ⟨la,lc,rfl,aH⟩:=h_;have WN:=ah aH;have T1:=ah (T0.out.kept k_ ⟨fun h=>h,fun h=>h,fun h=>h⟩);have uj:=ah k_;have K1:=ah (K0.out.trans k_);obtain ⟨lS,mO,fA⟩:=T1.out.fl.cells;have mP:=fA 0;have mQ:=fA 1;clear k_ fA aH)
  have T2:=ah (T1.out.fU hne (.int .i64 0) (.int .i64 0))
  have zQ:=ah (lY (i:=1) (d:=.int .i64 0) (lY (i:=0) (d:=.int .i64 0) (A:=A) (B:=B) (C:=C) (Kept.refl _ w1)))
  have K2:=ah (kJ.new (n:=0) zQ.out K1.out vT)
  obtain ⟨w2,hw2⟩:∃w2,w2=(w1.setCell ⟨C,0,none⟩ (.int .i64 0)).setCell ⟨C,1,none⟩ (.int .i64 0):=⟨_,rfl⟩
  rw [←hw2] at T2 K2 zQ
  rw [←hw2]
  clear hw2 lS mO mP mQ
  obtain ⟨lS,mO,fA⟩:=T2.out.fl.cells
  have mP:=fA 0;have mQ:=fA 1
  have hmf:∀(fn:Fn) (first cap:Array Value) (w:World),(Instr.makeFunc fn first cap).run Tryz.prog w=.ok (.func fn first cap) w:=fun _ _ _ _=>rfl
  go_upto_region 8 with fail
  clear lS mO fA mP mQ
  obtain ⟨w3,hw3⟩:∃w3,w3=w2.alloc (.cells #[.slice la l.length lc,.int .i64 s.size,.int .i64 0] 99):=⟨_,rfl⟩
  have k3:Kept aA w2 w3:=by rw [hw3];exact (Kept.refl _ _).alloc _
  have X3:w3.heap[w2.heap.size]?=some (.cells #[.slice la l.length lc,.int .i64 s.size,.int .i64 0] 99 (0,0)):=by rw [hw3];exact ay w2 _
  obtain ⟨N,hN⟩:∃N,N=w2.heap.size:=⟨_,rfl⟩
  rw [←hN] at X3
  rw [←hw3,←hN]
  have abu:=zQ.out.size;have PU:=uj.out.size
  have hNA:A<N∧B<N∧C<N∧w0.heap.size≤N:=by omega
  have hlN:N<w3.heap.size:=(Array.getElem?_eq_some_iff.1 X3).1
  have R3:Hid (∃T,bV N T s.size l 0 w3∧A≠T∧B≠T∧C≠T):=by
   have hg2:iD w2:=by
    obtain ⟨ev,h1,h2⟩:=G0.out
    have e1:¬kJ A B C 5:=fun h=>by rcases h with h|h|h<;>omega
    exact ⟨ev,(zQ.out.cell (Nat.lt_of_lt_of_le (cell_lt h1) PU) e1).trans ((uj.out.cell (cell_lt h1) (fun h=>h)).trans h1),h2⟩
   have hg3:iD w3:=by obtain ⟨ev,h1,h2⟩:=hg2;exact ⟨ev,(k3.cell (cell_lt h1) (fun h=>h)).trans h1,h2⟩
   rcases WN.out.cells with ⟨hv,hn⟩|⟨g,o,c',hv,hg1,hgl,hcap,hcm,hc⟩
   ·simp only [Value.slice.injEq] at hv
    obtain ⟨rfl,_,rfl⟩:=hv
    obtain rfl:l=[]:=List.length_eq_zero_iff.1 hn
    exact ⟨5,⟨0,none,0,X3,rfl,Nat.le_refl _,fun h=>absurd rfl h,by omega,by have:=k3.size;omega,by omega,HG.out,by omega,hg3⟩,by omega,by omega,by omega⟩
   ·simp only [Value.slice.injEq,true_and] at hv
    obtain ⟨rfl,rfl⟩:=hv
    have hgn:g<N:=by omega
    have hgi:¬kJ A B C g:=fun h=>by rcases h with h|h|h<;>omega
    exact ⟨g,⟨l.length,_,_,X3,rfl,hcap,fun _=>⟨o,rfl,fun j u hu=>(k3.cell (by omega) (fun h=>h)).trans ((zQ.out.cell hgl hgi).trans (hc j u hu).1)⟩,by omega,by omega,by unfold maxLen at hcm;omega,HG.out,by omega,hg3⟩,by omega,by omega,by omega⟩
  obtain ⟨T,R3,hTA⟩:=R3.out
  have T3:=ah (T2.out.kept k3 ⟨fun h=>h,fun h=>h,fun h=>h⟩)
  have K3:=ah (K2.out.trans k3)
  have R3:=ah R3
  clear hw3 k3 X3 hN abu PU WN T2 K2 zQ uj T1 K1 T0 M0 G0 HG
  have PV:Hid (xH s=((!s.toList.isEmpty&&decide (peek s 0≠32))&&decide (peek s 0≠58))):=YZ s
  obtain ⟨lb,hlb⟩:∃lb,lb=xH s:=⟨_,rfl⟩
  rw [←hlb] at PV fin
  obtain ⟨en,hen⟩:∃en,en=s.size:=⟨_,rfl⟩
  rw [←hen] at R3 fin
  have zO:A≠N∧B≠N∧C≠N∧A≠T∧B≠T∧C≠T∧5≠A∧5≠B∧5≠C:=by omega
  obtain ⟨Sp,hSp⟩:∃Sp:Nat→Value→World→Prop,Sp=(fun i v wx=>match i with
   | 0=>v=.pointer (some ⟨N,0,none⟩)
   | 1=>v=.string s
   | 2=>v=.bool (!s.toList.isEmpty)
   | 3=>v=.bool (!s.toList.isEmpty)
   | 4=>(!s.toList.isEmpty)=true→v=.string s
   | 5=>(!s.toList.isEmpty)=true→v=.int .u8 (peek s 0)
   | 6=>(!s.toList.isEmpty)=true→v=.bool (decide (peek s 0≠32))
   | 7=>v=.bool (!s.toList.isEmpty&&decide (peek s 0≠32))
   | 8=>v=.bool (!s.toList.isEmpty&&decide (peek s 0≠32))
   | 9=>(!s.toList.isEmpty&&decide (peek s 0≠32))=true→v=.string s
   | 10=>(!s.toList.isEmpty&&decide (peek s 0≠32))=true→v=.int .u8 (peek s 0)
   | 11=>(!s.toList.isEmpty&&decide (peek s 0≠32))=true→v=.bool (decide (peek s 0≠58))
   | 12=>v=.bool lb
   | 13=>∃st a S,v=dN a st∧gB en lb l=.ok st∧ql st∧qZ wx S a st∧∀b,S b→w3.heap.size≤b∧b<wx.heap.size
   | 14=>v=.agg #[.int .i64 0,.int .i64 0]
   | _=>True):=⟨_,rfl⟩
  obtain ⟨J,hJd⟩:∃J:(Nat→Bool)→(Nat→Value)→World→Prop,J=(fun pp f wx=>LJ A B C N T en l lb w3 (pp 13) (pp 15) (pp 16) wx):=⟨_,rfl⟩
  refine iU (fun b=>b=N∨kJ A B C b) J Sp [37,38,39,40,41,42,43,44,45,46,47,48,49,50,51] (by kernel_rfl) (by kernel_rfl) (by kernel_rfl) (fun i v w w' h hk=>by subst hSp;rcases i with _|_|_|_|_|_|_|_|_|_|_|_|_|_|_|i;all_goals first|exact h|(obtain ⟨st,a,S,h1,h2,h3,h4,h5⟩:=h;exact ⟨st,a,S,h1,h2,h3,h4.to hk (fun b hb=>⟨(h5 b hb).2,fun hx=>by have:=h5 b hb;rcases hx with h|h|h|h<;>omega⟩) (fun _ h=>h),fun b hb=>⟨(h5 b hb).1,Nat.lt_of_lt_of_le (h5 b hb).2 hk.size⟩⟩)) ?_ ?_ ?_ ?_
  ·intro i o hi lq x wy hI hJ hlf haft
   rw [hJd] at hJ
   have hJ:LJ A B C N T en l lb w3 (lq 13) (lq 15) (lq 16) wy:=hJ
   have s0:x.eval (.tmp 0)=.string s:=hI.keep 0 _ rfl (by kernel_rfl)
   have s2:x.eval (.tmp 2)=.pointer (some ⟨A,0,none⟩):=hI.keep 2 _ rfl (by kernel_rfl)
   have s3:x.eval (.tmp 3)=.pointer (some ⟨B,0,none⟩):=hI.keep 3 _ rfl (by kernel_rfl)
   have s4:x.eval (.tmp 4)=.pointer (some ⟨C,0,none⟩):=hI.keep 4 _ rfl (by kernel_rfl)
   have s6:x.eval (.tmp 6)=.pointer (some ⟨N,0,none⟩):=hI.keep 6 _ rfl (by kernel_rfl)
   have hsz:x.tmps.size=52:=hI.size
   obtain ⟨⟨vb,cb⟩,fb⟩:=hJ.1.bo
   obtain ⟨lS,mO,fA⟩:=hJ.2.1.cells
   have mP:=fA 0;have mQ:=fA 1
   have hjn:∀(l':Nat→Bool),(∀j,l' j=true↔j=i∨lq j=true)→(∀j∈([13,15,16]:List Nat),i≠j)→∀f,J l' f wy:=by
    intro l' hl hne f
    rw [hJd]
    show LJ A B C N T en l lb w3 (l' 13) (l' 15) (l' 16) wy
    rw [upd_ne hl 13 (Ne.symm (hne 13 (by simp)))]
    rw [upd_ne hl 15 (Ne.symm (hne 15 (by simp)))]
    rw [upd_ne hl 16 (Ne.symm (hne 16 (by simp)))]
    exact hJ
   rcases i with _|_|_|_|_|_|_|_|_|_|_|_|_|_|_|_|_|_|i
   all_goals (simp only [List.getElem?_toArray,List.getElem?_cons_zero,List.getElem?_cons_succ,List.getElem?_nil,Option.some.injEq,reduceCtorEq] at hi)
   all_goals subst hi
   ·refine aT rfl ?_
    refine aK (v:=.pointer (some ⟨N,0,none⟩)) ?_ (by subst hSp;exact rfl) (fun l' hl=>hjn l' hl (by decide) _)
    simp only [execOp,resolve,invoke,List.map_toArray,List.map_cons,List.map_nil,s6];go_simp
   ·refine aT rfl ?_
    refine aK (v:=.string s) ?_ (by subst hSp;exact rfl) (fun l' hl=>hjn l' hl (by decide) _)
    simp only [execOp,resolve,invoke,List.map_toArray,List.map_cons,List.map_nil,s0];go_simp
   ·refine aT rfl ?_
    have d38:x.eval (.tmp 38)=.string s:=by have h_:=hI.dep haft 1 38 rfl rfl rfl;rw [hSp] at h_;exact h_
    refine aK (v:=.bool (!s.toList.isEmpty)) ?_ (by subst hSp;exact rfl) (fun l' hl=>hjn l' hl (by decide) _)
    simp only [execOp,resolve,invoke,List.map_toArray,List.map_cons,List.map_nil,d38];go_simp;try rfl
   ·refine aT rfl ?_
    have d39:x.eval (.tmp 39)=.bool (!s.toList.isEmpty):=by have h_:=hI.dep haft 2 39 rfl rfl rfl;rw [hSp] at h_;exact h_
    refine aK (v:=.bool (!s.toList.isEmpty)) ?_ (by subst hSp;exact rfl) (fun l' hl=>hjn l' hl (by decide) _)
    simp only [execOp,resolve,invoke,List.map_toArray,List.map_cons,List.map_nil,d39];go_simp
   ·have qH:x.eval (.tmp 40)=.bool (!s.toList.isEmpty):=by have h_:=hI.dep haft 3 40 rfl rfl rfl;rw [hSp] at h_;exact h_
    refine nZ (j:=3) rfl rfl rfl qH (by rw [hsz];decide) (fun hb=>?_) (fun hb=>⟨fun d hd=>by subst hSp;exact fun h=>(by rw [hb] at h;cases h),fun l' hl=>hjn l' hl (by decide) _⟩)
    refine aK (v:=.string s) ?_ (by subst hSp;exact fun _=>rfl) (fun l' hl=>hjn l' hl (by decide) _)
    simp only [execOp,resolve,invoke,List.map_toArray,List.map_cons,List.map_nil,s0];go_simp
   ·have qH:x.eval (.tmp 40)=.bool (!s.toList.isEmpty):=by have h_:=hI.dep haft 3 40 rfl rfl rfl;rw [hSp] at h_;exact h_
    refine nZ (j:=3) rfl rfl rfl qH (by rw [hsz];decide) (fun hb=>?_) (fun hb=>⟨fun d hd=>by subst hSp;exact fun h=>(by rw [hb] at h;cases h),fun l' hl=>hjn l' hl (by decide) _⟩)
    have d41:x.eval (.tmp 41)=.string s:=by have h_:=hI.dep haft 4 41 rfl rfl rfl;rw [hSp] at h_;exact h_ hb
    have hbe:=hb
    have hp0:0<s.size:=by (by_cases hz:0<s.size;exact hz;exfalso;have e0:s=E0:=(by apply ByteArray.ext;apply Array.toList_inj.1;have:s.data.toList.length=0:=(by have e_:s.data.toList.length=s.size:=rfl;omega);rw [List.length_eq_zero_iff.1 this];rfl);rw [e0,jR] at hbe;cases hbe)
    have hbi:(0:Int)<(s.size:Int):=by omega
    refine aK (v:=.int .u8 (peek s 0)) ?_ (by subst hSp;exact fun _=>rfl) (fun l' hl=>hjn l' hl (by decide) _)
    rw [rY hp0]
    simp only [execOp,resolve,invoke,List.map_toArray,List.map_cons,List.map_nil,d41];go_simp
   ·have qH:x.eval (.tmp 40)=.bool (!s.toList.isEmpty):=by have h_:=hI.dep haft 3 40 rfl rfl rfl;rw [hSp] at h_;exact h_
    refine nZ (j:=3) rfl rfl rfl qH (by rw [hsz];decide) (fun hb=>?_) (fun hb=>⟨fun d hd=>by subst hSp;exact fun h=>(by rw [hb] at h;cases h),fun l' hl=>hjn l' hl (by decide) _⟩)
    have d42:x.eval (.tmp 42)=.int .u8 (peek s 0):=by have h_:=hI.dep haft 5 42 rfl rfl rfl;rw [hSp] at h_;exact h_ hb
    refine aK (v:=.bool (decide (peek s 0≠32))) ?_ (by subst hSp;exact fun _=>rfl) (fun l' hl=>hjn l' hl (by decide) _)
    simp only [execOp,resolve,invoke,List.map_toArray,List.map_cons,List.map_nil,d42];go_simp;try rfl
   ·refine aT rfl ?_
    have qH:x.eval (.tmp 40)=.bool (!s.toList.isEmpty):=by have h_:=hI.dep haft 3 40 rfl rfl rfl;rw [hSp] at h_;exact h_
    have PW:(!s.toList.isEmpty)=true→x.eval (.tmp 43)=.bool (decide (peek s 0≠32)):=by have h_:=hI.dep haft 6 43 rfl rfl rfl;rw [hSp] at h_;exact h_
    refine aK (v:=.bool (!s.toList.isEmpty&&decide (peek s 0≠32))) ?_ (by subst hSp;exact rfl) (fun l' hl=>hjn l' hl (by decide) _)
    cases hb:(!s.toList.isEmpty) with
    | true=>have PW:=PW hb;rw [hb] at qH;simp only [execOp,resolve,invoke,List.map_toArray,List.map_cons,List.map_nil,qH,PW];go_simp;try rfl
    | false=>rw [hb] at qH;simp only [execOp,resolve,invoke,List.map_toArray,List.map_cons,List.map_nil,qH];go_simp;try rfl
   ·refine aT rfl ?_
    have d44:x.eval (.tmp 44)=.bool (!s.toList.isEmpty&&decide (peek s 0≠32)):=by have h_:=hI.dep haft 7 44 rfl rfl rfl;rw [hSp] at h_;exact h_
    refine aK (v:=.bool (!s.toList.isEmpty&&decide (peek s 0≠32))) ?_ (by subst hSp;exact rfl) (fun l' hl=>hjn l' hl (by decide) _)
    simp only [execOp,resolve,invoke,List.map_toArray,List.map_cons,List.map_nil,d44];go_simp
   ·have qI:x.eval (.tmp 45)=.bool (!s.toList.isEmpty&&decide (peek s 0≠32)):=by have h_:=hI.dep haft 8 45 rfl rfl rfl;rw [hSp] at h_;exact h_
    refine nZ (j:=8) rfl rfl rfl qI (by rw [hsz];decide) (fun hb=>?_) (fun hb=>⟨fun d hd=>by subst hSp;exact fun h=>(by rw [hb] at h;cases h),fun l' hl=>hjn l' hl (by decide) _⟩)
    refine aK (v:=.string s) ?_ (by subst hSp;exact fun _=>rfl) (fun l' hl=>hjn l' hl (by decide) _)
    simp only [execOp,resolve,invoke,List.map_toArray,List.map_cons,List.map_nil,s0];go_simp
   ·have qI:x.eval (.tmp 45)=.bool (!s.toList.isEmpty&&decide (peek s 0≠32)):=by have h_:=hI.dep haft 8 45 rfl rfl rfl;rw [hSp] at h_;exact h_
    refine nZ (j:=8) rfl rfl rfl qI (by rw [hsz];decide) (fun hb=>?_) (fun hb=>⟨fun d hd=>by subst hSp;exact fun h=>(by rw [hb] at h;cases h),fun l' hl=>hjn l' hl (by decide) _⟩)
    have d46:x.eval (.tmp 46)=.string s:=by have h_:=hI.dep haft 9 46 rfl rfl rfl;rw [hSp] at h_;exact h_ hb
    have hbe:(!s.toList.isEmpty)=true:=by rw [Bool.and_eq_true] at hb;exact hb.1
    have hp0:0<s.size:=by (by_cases hz:0<s.size;exact hz;exfalso;have e0:s=E0:=(by apply ByteArray.ext;apply Array.toList_inj.1;have:s.data.toList.length=0:=(by have e_:s.data.toList.length=s.size:=rfl;omega);rw [List.length_eq_zero_iff.1 this];rfl);rw [e0,jR] at hbe;cases hbe)
    have hbi:(0:Int)<(s.size:Int):=by omega
    refine aK (v:=.int .u8 (peek s 0)) ?_ (by subst hSp;exact fun _=>rfl) (fun l' hl=>hjn l' hl (by decide) _)
    rw [rY hp0]
    simp only [execOp,resolve,invoke,List.map_toArray,List.map_cons,List.map_nil,d46];go_simp
   ·have qI:x.eval (.tmp 45)=.bool (!s.toList.isEmpty&&decide (peek s 0≠32)):=by have h_:=hI.dep haft 8 45 rfl rfl rfl;rw [hSp] at h_;exact h_
    refine nZ (j:=8) rfl rfl rfl qI (by rw [hsz];decide) (fun hb=>?_) (fun hb=>⟨fun d hd=>by subst hSp;exact fun h=>(by rw [hb] at h;cases h),fun l' hl=>hjn l' hl (by decide) _⟩)
    have d47:x.eval (.tmp 47)=.int .u8 (peek s 0):=by have h_:=hI.dep haft 10 47 rfl rfl rfl;rw [hSp] at h_;exact h_ hb
    refine aK (v:=.bool (decide (peek s 0≠58))) ?_ (by subst hSp;exact fun _=>rfl) (fun l' hl=>hjn l' hl (by decide) _)
    simp only [execOp,resolve,invoke,List.map_toArray,List.map_cons,List.map_nil,d47];go_simp;try rfl
   ·refine aT rfl ?_
    have qI:x.eval (.tmp 45)=.bool (!s.toList.isEmpty&&decide (peek s 0≠32)):=by have h_:=hI.dep haft 8 45 rfl rfl rfl;rw [hSp] at h_;exact h_
    have PX:(!s.toList.isEmpty&&decide (peek s 0≠32))=true→x.eval (.tmp 48)=.bool (decide (peek s 0≠58)):=by have h_:=hI.dep haft 11 48 rfl rfl rfl;rw [hSp] at h_;exact h_
    refine aK (v:=.bool lb) ?_ (by subst hSp;exact rfl) (fun l' hl=>hjn l' hl (by decide) _)
    cases hb:(!s.toList.isEmpty&&decide (peek s 0≠32)) with
    | true=>have PX:=PX hb;rw [hb] at qI;rw [PV.out,hb,Bool.true_and];simp only [execOp,resolve,invoke,List.map_toArray,List.map_cons,List.map_nil,qI,PX];go_simp;try rfl
    | false=>rw [hb] at qI;rw [PV.out,hb,Bool.false_and];simp only [execOp,resolve,invoke,List.map_toArray,List.map_cons,List.map_nil,qI];go_simp;try rfl
   ·refine aT rfl ?_
    have d37:x.eval (.tmp 37)=.pointer (some ⟨N,0,none⟩):=by have h_:=hI.dep haft 0 37 rfl rfl rfl;rw [hSp] at h_;exact h_
    have d49:x.eval (.tmp 49)=.bool lb:=by have h_:=hI.dep haft 12 49 rfl rfl rfl;rw [hSp] at h_;exact h_
    have hrd:=hJ.2.2.2.2 hlf
    refine Kz (f:=40) (args:=#[.pointer (some ⟨N,0,none⟩),.bool lb]) ?_ ?_
    ·simp only [execOp,resolve,invoke,List.map_toArray,List.map_cons,List.map_nil,d37,d49];go_simp;try rfl
    ·refine (Ld lb hrd (by have:=xF.out;omega)).mono ?_
     intro e wz hq
     obtain ⟨kz,hq⟩:=hq
     cases hu:gB en lb l with
     | error er =>
      rw [hu] at hq
      refine .inr ⟨_,hq,?_⟩
      have hxd:=hI.defers
      obtain ⟨xt,xd⟩:=x
      dsimp only at hxd s2 s3 s4
      rw [hxd]
      refine Ij (er:=er) hne rfl s2 s3 s4 (hJ.1.tri.kept kz ⟨by omega,by omega,by omega⟩) (fun wv kv=>⟨((K3.out.step hI.kept (fun y hy=>by rcases hy with rfl|hy;exact .inr (by omega);rcases hy with h|h|h<;>exact .inr (by omega))).step kz (fun y hy=>.inr (by omega))).step kv (fun y hy=>by rcases hy with h|h|h<;>exact .inr (by omega)),?_⟩)
      rw [fin.out,hu]
      exact rfl
     | ok st =>
      rw [hu] at hq
      obtain ⟨a,S,he,hz,ho,hS⟩:=hq
      have hge:w3.heap.size≤wy.heap.size:=hI.kept.size
      refine .inl ⟨_,he,by subst hSp;exact ⟨st,a,S,rfl,hu,hz,ho,fun b hb=>⟨by have:=(hS b hb).1;omega,(hS b hb).2⟩⟩,kz.more (fun _ h=>.inl h),fun l' hl=>?_⟩
      rw [hJd]
      show LJ A B C N T en l lb w3 (l' 13) (l' 15) (l' 16) wz
      rw [iq hl,upd_ne hl 15 (by decide),upd_ne hl 16 (by decide)]
      have n15:=hI.no hlf 15 rfl rfl
      exact hJ.call hne kz ⟨by omega,by omega,by omega⟩ n15
   ·refine aT rfl ?_
    refine aK (v:=.agg #[.int .i64 0,.int .i64 0]) ?_ (by subst hSp;exact rfl) (fun l' hl=>hjn l' hl (by decide) _)
    simp only [execOp,resolve,invoke,List.map_toArray,List.map_cons,List.map_nil,s4];go_simp
   ·refine aT rfl ?_
    obtain ⟨st,a,S,d50,hu,hz,ho,hS⟩:=(by have h_:=hI.dep haft 13 50 rfl rfl rfl;rw [hSp] at h_;exact h_:∃st a S,x.eval (.tmp 50)=dN a st∧gB en lb l=.ok st∧ql st∧qZ wy S a st∧∀b,S b→w3.heap.size≤b∧b<wy.heap.size)
    obtain ⟨a0,s0_,hB0⟩:=hJ.1.st
    refine qY (F:=fun w'=>bT A a st w'∧Kept (· = A) wy w') (jE rfl hB0 s2 a st d50) rfl (fun w' hf=>hf.2.more fun _ h=>.inr (.inl h)) (fun w' hf l' hl=>?_)
    rw [hJd]
    show LJ A B C N T en l lb w3 (l' 13) (l' 15) (l' 16) w'
    rw [iq hl,upd_ne hl 13 (by decide),upd_ne hl 16 (by decide)]
    exact hJ.sS hne hf.2 hf.1 hu hz ho hS (by omega) zO
   ·refine aT rfl ?_
    refine ig (w':=wy.setCell ⟨B,0,none⟩ (.bool true)) ?_ rfl ((Kept.refl _ _).setCell (p:=⟨B,0,none⟩) (.inl (.inr (.inr (.inl rfl)))) _) (fun l' hl=>?_)
    ·simp only [execOp,resolve,invoke,List.map_toArray,List.map_cons,List.map_nil,s3];go_simp
    ·rw [hJd]
     show LJ A B C N T en l lb w3 (l' 13) (l' 15) (l' 16) _
     rw [iq hl,upd_ne hl 13 (by decide),upd_ne hl 15 (by decide)]
     exact hJ.sB hne (by omega) zO
   ·refine aT rfl ?_
    have d51:x.eval (.tmp 51)=.agg #[.int .i64 0,.int .i64 0]:=by have h_:=hI.dep haft 14 51 rfl rfl rfl;rw [hSp] at h_;exact h_
    refine ig (w':=(wy.setCell ⟨C,0,none⟩ (.int .i64 0)).setCell ⟨C,1,none⟩ (.int .i64 0)) ?_ rfl (((Kept.refl _ _).setCell (p:=⟨C,0,none⟩) (.inl (.inr (.inr (.inr rfl)))) _).setCell (p:=⟨C,1,none⟩) (.inl (.inr (.inr (.inr rfl)))) _) (fun l' hl=>?_)
    ·simp only [execOp,resolve,invoke,List.map_toArray,List.map_cons,List.map_nil,s4,d51];go_simp
    ·rw [hJd]
     show LJ A B C N T en l lb w3 (l' 13) (l' 15) (l' 16) _
     rw [upd_ne hl 13 (by decide),upd_ne hl 15 (by decide),upd_ne hl 16 (by decide)]
     exact hJ.sF hne (by omega) zO
  ·intro lq hl
   rw [hJd]
   show LJ A B C N T en l lb w3 (lq 13) (lq 15) (lq 16) w3.drew
   rw [hl 13 (by decide)]
   rw [hl 15 (by decide)]
   rw [hl 16 (by decide)]
   exact LJ.start T3.out R3.out
  ·intro lq l' f wx hl h
   rw [hJd] at h⊢
   have h:LJ A B C N T en l lb w3 (lq 13) (lq 15) (lq 16) wx:=h
   show LJ A B C N T en l lb w3 (l' 13) (l' 15) (l' 16) wx
   rw [←hl 13 (by decide)]
   rw [←hl 15 (by decide)]
   rw [←hl 16 (by decide)]
   exact h
  ·intro f wy hK hS hJ
   rw [hJd] at hJ
   have hJ:LJ A B C N T en l lb w3 ((fun _=>true) 13) ((fun _=>true) 15) ((fun _=>true) 16) wy:=hJ
   obtain ⟨hq1,hq2,hq3,hq4,hq5⟩:=hJ
   obtain ⟨st,a,S,hB,hu,hz,ho,hS⟩:=hq3 (by trivial)
   have K9:=K3.out.step hK (fun y hy=>by rcases hy with rfl|hy;exact .inr (by omega);rcases hy with h|h|h<;>exact .inr (by omega))
   simp only [gQ,List.foldl_cons,List.foldl_nil,List.setIfInBounds_toArray,List.set_cons_zero,List.set_cons_succ]
   go_wp2_with fail
   refine PS rfl rfl rfl rfl ⟨hB,hq4 (by trivial),hq2⟩ ⟨K9,?_⟩
   rw [fin.out,hu]
   exact ⟨a,S,rfl,hz,ho,fun b hb=>⟨by have:=(hS b hb).1;omega,(hS b hb).2⟩⟩
theorem Y3 (s:aj) (hnb:ET s) (w:World) (hs:s.size≤1000000000) (hm:oz w) (hr:iD w) (h0:0<s.size) (h1:s[0].toNat=42) (h2:2000<s.size):Calls Tryz.prog 24 #[.string s] w (Ih s w):=by
 have HL:Hid (kH s=match jO s with
  | .error er=>.error er
  | .ok l=>match gB s.size (xH s) l with
   | .error er=>.error er
   | .ok x=>.ok (some x)):=by unfold Hid kH;rw [if_neg (by intro h;omega)];rfl
 obtain ⟨w0,hw0⟩:∃w0,w0=((w.alloc (.cells #[.string ⟨#[]⟩,.int .i64 0,.int .i64 0,.string ⟨#[]⟩,.int .i64 0,.string ⟨#[]⟩,.slice none 0 0,.int .i64 0,.string ⟨#[]⟩,.int .i64 0,.string ⟨#[]⟩,.slice none 0 0,.int .i64 0,.string ⟨#[]⟩,.int .i64 0,.string ⟨#[]⟩,.slice none 0 0,.string ⟨#[]⟩,.string ⟨#[]⟩,.slice none 0 0,.slice none 0 0,.string ⟨#[]⟩,.string ⟨#[]⟩,.string ⟨#[]⟩] 69)).alloc (.cells #[.bool false] 4)).alloc (.cells #[.int .i64 0,.int .i64 0] 39):=⟨_,rfl⟩
 have k0:Kept aA w w0:=by rw [hw0];exact (((Kept.refl _ _).alloc _).alloc _).alloc _
 have T0:Hid (fP w.heap.size (w.heap.size+1) (w.heap.size+1+1) nilA cZ (.bool false) (.int .i64 0) (.int .i64 0) w0):=by
  rw [hw0]
  refine ⟨(bT.new w nilA cZ).kept (((Kept.refl aA _).alloc _).alloc _) (fun h=>h),?_,?_⟩
  ·have h1:dH ((w.alloc (.cells #[.string ⟨#[]⟩,.int .i64 0,.int .i64 0,.string ⟨#[]⟩,.int .i64 0,.string ⟨#[]⟩,.slice none 0 0,.int .i64 0,.string ⟨#[]⟩,.int .i64 0,.string ⟨#[]⟩,.slice none 0 0,.int .i64 0,.string ⟨#[]⟩,.int .i64 0,.string ⟨#[]⟩,.slice none 0 0,.string ⟨#[]⟩,.string ⟨#[]⟩,.slice none 0 0,.slice none 0 0,.string ⟨#[]⟩,.string ⟨#[]⟩,.string ⟨#[]⟩] 69)).alloc (.cells #[.bool false] 4)) (w.heap.size+1) 4 (.bool false):=iy (by simp)
   unfold dH;rw [Below.heap_alloc _ _ _ h1.lt];exact h1
  ·exact iy (by simp)
 have hsz0:w0.heap.size=w.heap.size+3:=by rw [hw0];simp
 have HW0:=ah hw0
 have K0:=ah k0
 have M0:=ah (hm.kept k0 (fun h=>h))
 have G0:Hid (iD w0):=by obtain ⟨ev,h1,h2⟩:=hr;exact ⟨ev,(k0.cell (cell_lt h1) (fun h=>h)).trans h1,h2⟩
 have Td:5<w.heap.size:=by obtain ⟨ev,h1,h2⟩:=hr;exact cell_lt h1
 clear hw0 k0 hm hr
 go_enter_defers Tryz.func24, Tryz.ntmps24
 go_upto_region 1 with fail
 rw [←HW0.out]
 obtain ⟨C,hC⟩:∃C,C=w.heap.size+1+1:=⟨_,rfl⟩
 rw [←hC] at T0⊢
 obtain ⟨B,hB⟩:∃B,B=w.heap.size+1:=⟨_,rfl⟩
 rw [←hB] at T0⊢
 obtain ⟨A,hA⟩:∃A,A=w.heap.size:=⟨_,rfl⟩
 rw [←hA] at T0⊢
 have hne:A≠B∧A≠C∧B≠C:=by omega
 have vT:w.heap.size≤A∧w.heap.size≤B∧w.heap.size≤C:=by omega
 have hlt:A<w0.heap.size∧B<w0.heap.size∧C<w0.heap.size:=by omega
 clear hA hB hC hsz0
 have s0:s.toList.isEmpty=false:=mM (fun e=>by rw [e] at h0;exact absurd h0 (by decide))
 have bi:(0:Int)<(s.size:Int):=by omega
 have y1:((s[0].toNat:Int)==42)=true:=by rw [h1];rfl
 have d1:decide ((s.size:Int)≤(2000:Int))=false:=au (by omega)
 have d2:decide (s.size≤2000)=false:=au (by omega)
 clear h1
 have afM:=hs
 cases hx:jO s with
 | error er =>
  have fin:Hid (kH s=.error er):=by unfold Hid;rw [HL.out,hx]
  have her:=Gg hx
  have e1:(er.1 != 0)=true:=by simpa using her
  go_upto_region 4 with (go_at_call 38;(refine (qG s w0 hs M0.out).mono ?_);intro e w1 h_;obtain ⟨k_,h_⟩:=h_;rw [hx] at h_;obtain rfl:=h_;have T1:=ah (T0.out.kept k_ ⟨fun h=>h,fun h=>h,fun h=>h⟩);have K1:=ah (K0.out.trans k_);obtain ⟨lS,mO,fA⟩:=T1.out.fl.cells;have mP:=fA 0;have mQ:=fA 1;clear k_ fA)
  have T2:=ah (T1.out.fU hne (.int .i64 er.1) (.int .i64 er.2))
  have K2:=ah (kJ.new (n:=0) (lY (i:=1) (d:=.int .i64 er.2) (lY (i:=0) (d:=.int .i64 er.1) (A:=A) (B:=B) (C:=C) (Kept.refl _ w1))) K1.out vT)
  obtain ⟨w2,hw2⟩:∃w2,w2=(w1.setCell ⟨C,0,none⟩ (.int .i64 er.1)).setCell ⟨C,1,none⟩ (.int .i64 er.2):=⟨_,rfl⟩
  rw [←hw2] at T2 K2
  rw [←hw2]
  clear hw2 lS mO mP mQ
  obtain ⟨lS,mO,fA⟩:=T2.out.fl.cells
  have mP:=fA 0;have mQ:=fA 1
  go_upto_region 5 with fail
  clear lS mO fA mP mQ
  obtain ⟨Sp,hSp⟩:∃Sp:Nat→Value→World→Prop,Sp=(fun i v wx=>match i with
   | 0=>v=dN nilA cZ
   | 1=>v=.agg #[.int .i64 er.1,.int .i64 er.2]
   | _=>True):=⟨_,rfl⟩
  obtain ⟨J,hJd⟩:∃J:(Nat→Bool)→(Nat→Value)→World→Prop,J=(fun pp f wx=>fP A B C nilA cZ (.bool false) (.int .i64 er.1) (.int .i64 er.2) wx):=⟨_,rfl⟩
  refine iU (kJ A B C) J Sp [29,30] (by kernel_rfl) (by kernel_rfl) (by kernel_rfl) (fun i v w w' h hk=>by subst hSp;exact h) ?_ ?_ ?_ ?_
  ·intro i o hi lq x wy hI hJ hlf haft
   rw [hJd] at hJ
   have hJ:fP A B C nilA cZ (.bool false) (.int .i64 er.1) (.int .i64 er.2) wy:=hJ
   have s2:x.eval (.tmp 2)=.pointer (some ⟨A,0,none⟩):=hI.keep 2 _ rfl (by kernel_rfl)
   have s3:x.eval (.tmp 3)=.pointer (some ⟨B,0,none⟩):=hI.keep 3 _ rfl (by kernel_rfl)
   have s4:x.eval (.tmp 4)=.pointer (some ⟨C,0,none⟩):=hI.keep 4 _ rfl (by kernel_rfl)
   have cb:=hJ.bo.cell;have fb:=hJ.bo.free
   obtain ⟨lS,mO,fA⟩:=hJ.fl.cells
   have mP:=fA 0;have mQ:=fA 1
   have hjn:∀(l':Nat→Bool),(∀j,l' j=true↔j=i∨lq j=true)→(∀j∈([]:List Nat),i≠j)→∀f,J l' f wy:=by
    intro l' hl hne f
    rw [hJd]
    show fP A B C nilA cZ (.bool false) (.int .i64 er.1) (.int .i64 er.2) wy
    exact hJ
   rcases i with _|_|_|_|_|i
   all_goals (simp only [List.getElem?_toArray,List.getElem?_cons_zero,List.getElem?_cons_succ,List.getElem?_nil,Option.some.injEq,reduceCtorEq] at hi)
   all_goals subst hi
   ·refine aT rfl ?_
    refine aK (v:=dN nilA cZ) ?_ (by subst hSp;exact rfl) (fun l' hl=>hjn l' hl (by decide) _)
    exact tN rfl hJ.st s2
   ·refine aT rfl ?_
    refine aK (v:=.agg #[.int .i64 er.1,.int .i64 er.2]) ?_ (by subst hSp;exact rfl) (fun l' hl=>hjn l' hl (by decide) _)
    simp only [execOp,resolve,invoke,List.map_toArray,List.map_cons,List.map_nil,s4];go_simp
   ·refine aT rfl ?_
    have Y0:x.eval (.tmp 29)=dN nilA cZ:=by have h_:=hI.dep haft 0 29 rfl rfl rfl;rw [hSp] at h_;exact h_
    refine qY (F:=fun w'=>bT A nilA cZ w'∧Kept (· = A) wy w') (jE rfl hJ.st s2 nilA cZ Y0) rfl (fun w' hf=>hf.2.more fun _ h=>.inl h) (fun w' hf l' hl=>?_)
    rw [hJd]
    exact hJ.JE hne hf.2 hf.1
   ·refine aT rfl ?_
    refine ig (w':=wy.setCell ⟨B,0,none⟩ (.bool false)) ?_ rfl (PO (Kept.refl _ _)) (fun l' hl=>?_)
    ·simp only [execOp,resolve,invoke,List.map_toArray,List.map_cons,List.map_nil,s3];go_simp
    ·rw [hJd];exact hJ.setB hne _
   ·refine aT rfl ?_
    have Y1:x.eval (.tmp 30)=.agg #[.int .i64 er.1,.int .i64 er.2]:=by have h_:=hI.dep haft 1 30 rfl rfl rfl;rw [hSp] at h_;exact h_
    refine ig (w':=(wy.setCell ⟨C,0,none⟩ (.int .i64 er.1)).setCell ⟨C,1,none⟩ (.int .i64 er.2)) ?_ rfl (lY (lY (Kept.refl _ _))) (fun l' hl=>?_)
    ·simp only [execOp,resolve,invoke,List.map_toArray,List.map_cons,List.map_nil,s4,Y1];go_simp
    ·rw [hJd];exact hJ.fU hne _ _
  ·intro lq hl
   rw [hJd]
   show fP A B C nilA cZ (.bool false) (.int .i64 er.1) (.int .i64 er.2) w2.drew
   exact T2.out.drew
  ·intro lq l' f wx hl h
   rw [hJd] at h⊢
   have h:fP A B C nilA cZ (.bool false) (.int .i64 er.1) (.int .i64 er.2) wx:=h
   show fP A B C nilA cZ (.bool false) (.int .i64 er.1) (.int .i64 er.2) wx
   exact h
  ·intro f wy hK hS hJ
   rw [hJd] at hJ
   have hJ:fP A B C nilA cZ (.bool false) (.int .i64 er.1) (.int .i64 er.2) wy:=hJ
   simp only [gQ,List.foldl_cons,List.foldl_nil,List.setIfInBounds_toArray,List.set_cons_zero,List.set_cons_succ]
   go_wp2_with fail
   refine ⟨_,lZ rfl rfl rfl rfl hJ,kJ.new (n:=0) hK K2.out vT,?_⟩
   rw [fin.out]
   exact rfl
 | ok l =>
  exact absurd hx (fun h=>by have:=(DN hnb h).2.2;omega)
theorem line_text (s:aj) (hnb:ET s) (w:World) (hs:s.size≤1000000000) (hm:oz w) (hr:iD w) (h0:0<s.size) (h1:s[0].toNat≠42):Calls Tryz.prog 24 #[.string s] w (Ih s w):=by
 have HL:Hid (kH s=match jO s with
  | .error er=>.error er
  | .ok l=>match gB s.size (xH s) l with
   | .error er=>.error er
   | .ok x=>.ok (some x)):=by unfold Hid kH;rw [if_neg (by rw [rY h0];intro h;omega)];rfl
 obtain ⟨w0,hw0⟩:∃w0,w0=((w.alloc (.cells #[.string ⟨#[]⟩,.int .i64 0,.int .i64 0,.string ⟨#[]⟩,.int .i64 0,.string ⟨#[]⟩,.slice none 0 0,.int .i64 0,.string ⟨#[]⟩,.int .i64 0,.string ⟨#[]⟩,.slice none 0 0,.int .i64 0,.string ⟨#[]⟩,.int .i64 0,.string ⟨#[]⟩,.slice none 0 0,.string ⟨#[]⟩,.string ⟨#[]⟩,.slice none 0 0,.slice none 0 0,.string ⟨#[]⟩,.string ⟨#[]⟩,.string ⟨#[]⟩] 69)).alloc (.cells #[.bool false] 4)).alloc (.cells #[.int .i64 0,.int .i64 0] 39):=⟨_,rfl⟩
 have k0:Kept aA w w0:=by rw [hw0];exact (((Kept.refl _ _).alloc _).alloc _).alloc _
 have T0:Hid (fP w.heap.size (w.heap.size+1) (w.heap.size+1+1) nilA cZ (.bool false) (.int .i64 0) (.int .i64 0) w0):=by
  rw [hw0]
  refine ⟨(bT.new w nilA cZ).kept (((Kept.refl aA _).alloc _).alloc _) (fun h=>h),?_,?_⟩
  ·have h1:dH ((w.alloc (.cells #[.string ⟨#[]⟩,.int .i64 0,.int .i64 0,.string ⟨#[]⟩,.int .i64 0,.string ⟨#[]⟩,.slice none 0 0,.int .i64 0,.string ⟨#[]⟩,.int .i64 0,.string ⟨#[]⟩,.slice none 0 0,.int .i64 0,.string ⟨#[]⟩,.int .i64 0,.string ⟨#[]⟩,.slice none 0 0,.string ⟨#[]⟩,.string ⟨#[]⟩,.slice none 0 0,.slice none 0 0,.string ⟨#[]⟩,.string ⟨#[]⟩,.string ⟨#[]⟩] 69)).alloc (.cells #[.bool false] 4)) (w.heap.size+1) 4 (.bool false):=iy (by simp)
   unfold dH;rw [Below.heap_alloc _ _ _ h1.lt];exact h1
  ·exact iy (by simp)
 have hsz0:w0.heap.size=w.heap.size+3:=by rw [hw0];simp
 have HW0:=ah hw0
 have K0:=ah k0
 have M0:=ah (hm.kept k0 (fun h=>h))
 have G0:Hid (iD w0):=by obtain ⟨ev,h1,h2⟩:=hr;exact ⟨ev,(k0.cell (cell_lt h1) (fun h=>h)).trans h1,h2⟩
 have Td:5<w.heap.size:=by obtain ⟨ev,h1,h2⟩:=hr;exact cell_lt h1
 clear hw0 k0 hm hr
 go_enter_defers Tryz.func24, Tryz.ntmps24
 go_upto_region 1 with fail
 rw [←HW0.out]
 obtain ⟨C,hC⟩:∃C,C=w.heap.size+1+1:=⟨_,rfl⟩
 rw [←hC] at T0⊢
 obtain ⟨B,hB⟩:∃B,B=w.heap.size+1:=⟨_,rfl⟩
 rw [←hB] at T0⊢
 obtain ⟨A,hA⟩:∃A,A=w.heap.size:=⟨_,rfl⟩
 rw [←hA] at T0⊢
 have hne:A≠B∧A≠C∧B≠C:=by omega
 have vT:w.heap.size≤A∧w.heap.size≤B∧w.heap.size≤C:=by omega
 have hlt:A<w0.heap.size∧B<w0.heap.size∧C<w0.heap.size:=by omega
 clear hA hB hC hsz0
 have s0:s.toList.isEmpty=false:=mM (fun e=>by rw [e] at h0;exact absurd h0 (by decide))
 have bi:(0:Int)<(s.size:Int):=by omega
 have y1:((s[0].toNat:Int)==42)=false:=by simp;omega
 clear h1
 have afM:=hs
 cases hx:jO s with
 | error er =>
  have fin:Hid (kH s=.error er):=by unfold Hid;rw [HL.out,hx]
  have her:=Gg hx
  have e1:(er.1 != 0)=true:=by simpa using her
  go_upto_region 4 with (go_at_call 38;(refine (qG s w0 hs M0.out).mono ?_);intro e w1 h_;obtain ⟨k_,h_⟩:=h_;rw [hx] at h_;obtain rfl:=h_;have T1:=ah (T0.out.kept k_ ⟨fun h=>h,fun h=>h,fun h=>h⟩);have K1:=ah (K0.out.trans k_);obtain ⟨lS,mO,fA⟩:=T1.out.fl.cells;have mP:=fA 0;have mQ:=fA 1;clear k_ fA)
  have T2:=ah (T1.out.fU hne (.int .i64 er.1) (.int .i64 er.2))
  have K2:=ah (kJ.new (n:=0) (lY (i:=1) (d:=.int .i64 er.2) (lY (i:=0) (d:=.int .i64 er.1) (A:=A) (B:=B) (C:=C) (Kept.refl _ w1))) K1.out vT)
  obtain ⟨w2,hw2⟩:∃w2,w2=(w1.setCell ⟨C,0,none⟩ (.int .i64 er.1)).setCell ⟨C,1,none⟩ (.int .i64 er.2):=⟨_,rfl⟩
  rw [←hw2] at T2 K2
  rw [←hw2]
  clear hw2 lS mO mP mQ
  obtain ⟨lS,mO,fA⟩:=T2.out.fl.cells
  have mP:=fA 0;have mQ:=fA 1
  go_upto_region 5 with fail
  clear lS mO fA mP mQ
  obtain ⟨Sp,hSp⟩:∃Sp:Nat→Value→World→Prop,Sp=(fun i v wx=>match i with
   | 0=>v=dN nilA cZ
   | 1=>v=.agg #[.int .i64 er.1,.int .i64 er.2]
   | _=>True):=⟨_,rfl⟩
  obtain ⟨J,hJd⟩:∃J:(Nat→Bool)→(Nat→Value)→World→Prop,J=(fun pp f wx=>fP A B C nilA cZ (.bool false) (.int .i64 er.1) (.int .i64 er.2) wx):=⟨_,rfl⟩
  refine iU (kJ A B C) J Sp [29,30] (by kernel_rfl) (by kernel_rfl) (by kernel_rfl) (fun i v w w' h hk=>by subst hSp;exact h) ?_ ?_ ?_ ?_
  ·intro i o hi lq x wy hI hJ hlf haft
   rw [hJd] at hJ
   have hJ:fP A B C nilA cZ (.bool false) (.int .i64 er.1) (.int .i64 er.2) wy:=hJ
   have s2:x.eval (.tmp 2)=.pointer (some ⟨A,0,none⟩):=hI.keep 2 _ rfl (by kernel_rfl)
   have s3:x.eval (.tmp 3)=.pointer (some ⟨B,0,none⟩):=hI.keep 3 _ rfl (by kernel_rfl)
   have s4:x.eval (.tmp 4)=.pointer (some ⟨C,0,none⟩):=hI.keep 4 _ rfl (by kernel_rfl)
   have cb:=hJ.bo.cell;have fb:=hJ.bo.free
   obtain ⟨lS,mO,fA⟩:=hJ.fl.cells
   have mP:=fA 0;have mQ:=fA 1
   have hjn:∀(l':Nat→Bool),(∀j,l' j=true↔j=i∨lq j=true)→(∀j∈([]:List Nat),i≠j)→∀f,J l' f wy:=by
    intro l' hl hne f
    rw [hJd]
    show fP A B C nilA cZ (.bool false) (.int .i64 er.1) (.int .i64 er.2) wy
    exact hJ
   rcases i with _|_|_|_|_|i
   all_goals (simp only [List.getElem?_toArray,List.getElem?_cons_zero,List.getElem?_cons_succ,List.getElem?_nil,Option.some.injEq,reduceCtorEq] at hi)
   all_goals subst hi
   ·refine aT rfl ?_
    refine aK (v:=dN nilA cZ) ?_ (by subst hSp;exact rfl) (fun l' hl=>hjn l' hl (by decide) _)
    exact tN rfl hJ.st s2
   ·refine aT rfl ?_
    refine aK (v:=.agg #[.int .i64 er.1,.int .i64 er.2]) ?_ (by subst hSp;exact rfl) (fun l' hl=>hjn l' hl (by decide) _)
    simp only [execOp,resolve,invoke,List.map_toArray,List.map_cons,List.map_nil,s4];go_simp
   ·refine aT rfl ?_
    have Y0:x.eval (.tmp 29)=dN nilA cZ:=by have h_:=hI.dep haft 0 29 rfl rfl rfl;rw [hSp] at h_;exact h_
    refine qY (F:=fun w'=>bT A nilA cZ w'∧Kept (· = A) wy w') (jE rfl hJ.st s2 nilA cZ Y0) rfl (fun w' hf=>hf.2.more fun _ h=>.inl h) (fun w' hf l' hl=>?_)
    rw [hJd]
    exact hJ.JE hne hf.2 hf.1
   ·refine aT rfl ?_
    refine ig (w':=wy.setCell ⟨B,0,none⟩ (.bool false)) ?_ rfl (PO (Kept.refl _ _)) (fun l' hl=>?_)
    ·simp only [execOp,resolve,invoke,List.map_toArray,List.map_cons,List.map_nil,s3];go_simp
    ·rw [hJd];exact hJ.setB hne _
   ·refine aT rfl ?_
    have Y1:x.eval (.tmp 30)=.agg #[.int .i64 er.1,.int .i64 er.2]:=by have h_:=hI.dep haft 1 30 rfl rfl rfl;rw [hSp] at h_;exact h_
    refine ig (w':=(wy.setCell ⟨C,0,none⟩ (.int .i64 er.1)).setCell ⟨C,1,none⟩ (.int .i64 er.2)) ?_ rfl (lY (lY (Kept.refl _ _))) (fun l' hl=>?_)
    ·simp only [execOp,resolve,invoke,List.map_toArray,List.map_cons,List.map_nil,s4,Y1];go_simp
    ·rw [hJd];exact hJ.fU hne _ _
  ·intro lq hl
   rw [hJd]
   show fP A B C nilA cZ (.bool false) (.int .i64 er.1) (.int .i64 er.2) w2.drew
   exact T2.out.drew
  ·intro lq l' f wx hl h
   rw [hJd] at h⊢
   have h:fP A B C nilA cZ (.bool false) (.int .i64 er.1) (.int .i64 er.2) wx:=h
   show fP A B C nilA cZ (.bool false) (.int .i64 er.1) (.int .i64 er.2) wx
   exact h
  ·intro f wy hK hS hJ
   rw [hJd] at hJ
   have hJ:fP A B C nilA cZ (.bool false) (.int .i64 er.1) (.int .i64 er.2) wy:=hJ
   simp only [gQ,List.foldl_cons,List.foldl_nil,List.setIfInBounds_toArray,List.set_cons_zero,List.set_cons_succ]
   go_wp2_with fail
   refine ⟨_,lZ rfl rfl rfl rfl hJ,kJ.new (n:=0) hK K2.out vT,?_⟩
   rw [fin.out]
   exact rfl
 | ok l =>
  obtain ⟨hgood,hlen,hs2⟩:=DN hnb hx
  have HG:=ah hgood;have xF:=ah hlen
  have fin:Hid (kH s=match gB s.size (xH s) l with | .error er=>.error er | .ok x=>.ok (some x)):=by unfold Hid;rw [HL.out,hx]
  clear hgood hlen
  go_upto_region 4 with (go_at_call 38;(refine (qG s w0 hs M0.out).mono ?_);intro e w1 h_;obtain ⟨k_,h_⟩:=h_;rw [hx] at h_;obtain ⟨la,lc,rfl,aH⟩:=h_;have WN:=ah aH;have T1:=ah (T0.out.kept k_ ⟨fun h=>h,fun h=>h,fun h=>h⟩);have uj:=ah k_;have K1:=ah (K0.out.trans k_);obtain ⟨lS,mO,fA⟩:=T1.out.fl.cells;have mP:=fA 0;have mQ:=fA 1;clear k_ fA aH)
  have T2:=ah (T1.out.fU hne (.int .i64 0) (.int .i64 0))
  have zQ:=ah (lY (i:=1) (d:=.int .i64 0) (lY (i:=0) (d:=.int .i64 0) (A:=A) (B:=B) (C:=C) (Kept.refl _ w1)))
  have K2:=ah (kJ.new (n:=0) zQ.out K1.out vT)
  obtain ⟨w2,hw2⟩:∃w2,w2=(w1.setCell ⟨C,0,none⟩ (.int .i64 0)).setCell ⟨C,1,none⟩ (.int .i64 0):=⟨_,rfl⟩
  rw [←hw2] at T2 K2 zQ
  rw [←hw2]
  clear hw2 lS mO mP mQ
  obtain ⟨lS,mO,fA⟩:=T2.out.fl.cells
  have mP:=fA 0;have mQ:=fA 1
  have hmf:∀(fn:Fn) (first cap:Array Value) (w:World),(Instr.makeFunc fn first cap).run Tryz.prog w=.ok (.func fn first cap) w:=fun _ _ _ _=>rfl
  go_upto_region 8 with fail
  clear lS mO fA mP mQ
  obtain ⟨w3,hw3⟩:∃w3,w3=w2.alloc (.cells #[.slice la l.length lc,.int .i64 s.size,.int .i64 0] 99):=⟨_,rfl⟩
  have k3:Kept aA w2 w3:=by rw [hw3];exact (Kept.refl _ _).alloc _
  have X3:w3.heap[w2.heap.size]?=some (.cells #[.slice la l.length lc,.int .i64 s.size,.int .i64 0] 99 (0,0)):=by rw [hw3];exact ay w2 _
  obtain ⟨N,hN⟩:∃N,N=w2.heap.size:=⟨_,rfl⟩
  rw [←hN] at X3
  rw [←hw3,←hN]
  have abu:=zQ.out.size;have PU:=uj.out.size
  have hNA:A<N∧B<N∧C<N∧w0.heap.size≤N:=by omega
  have hlN:N<w3.heap.size:=(Array.getElem?_eq_some_iff.1 X3).1
  have R3:Hid (∃T,bV N T s.size l 0 w3∧A≠T∧B≠T∧C≠T):=by
   have hg2:iD w2:=by
    obtain ⟨ev,h1,h2⟩:=G0.out
    have e1:¬kJ A B C 5:=fun h=>by rcases h with h|h|h<;>omega
    exact ⟨ev,(zQ.out.cell (Nat.lt_of_lt_of_le (cell_lt h1) PU) e1).trans ((uj.out.cell (cell_lt h1) (fun h=>h)).trans h1),h2⟩
   have hg3:iD w3:=by obtain ⟨ev,h1,h2⟩:=hg2;exact ⟨ev,(k3.cell (cell_lt h1) (fun h=>h)).trans h1,h2⟩
   rcases WN.out.cells with ⟨hv,hn⟩|⟨g,o,c',hv,hg1,hgl,hcap,hcm,hc⟩
   ·simp only [Value.slice.injEq] at hv
    obtain ⟨rfl,_,rfl⟩:=hv
    obtain rfl:l=[]:=List.length_eq_zero_iff.1 hn
    exact ⟨5,⟨0,none,0,X3,rfl,Nat.le_refl _,fun h=>absurd rfl h,by omega,by have:=k3.size;omega,by omega,HG.out,by omega,hg3⟩,by omega,by omega,by omega⟩
   ·simp only [Value.slice.injEq,true_and] at hv
    obtain ⟨rfl,rfl⟩:=hv
    have hgn:g<N:=by omega
    have hgi:¬kJ A B C g:=fun h=>by rcases h with h|h|h<;>omega
    exact ⟨g,⟨l.length,_,_,X3,rfl,hcap,fun _=>⟨o,rfl,fun j u hu=>(k3.cell (by omega) (fun h=>h)).trans ((zQ.out.cell hgl hgi).trans (hc j u hu).1)⟩,by omega,by omega,by unfold maxLen at hcm;omega,HG.out,by omega,hg3⟩,by omega,by omega,by omega⟩
  obtain ⟨T,R3,hTA⟩:=R3.out
  have T3:=ah (T2.out.kept k3 ⟨fun h=>h,fun h=>h,fun h=>h⟩)
  have K3:=ah (K2.out.trans k3)
  have R3:=ah R3
  clear hw3 k3 X3 hN abu PU WN T2 K2 zQ uj T1 K1 T0 M0 G0 HG
  have PV:Hid (xH s=((!s.toList.isEmpty&&decide (peek s 0≠32))&&decide (peek s 0≠58))):=YZ s
  obtain ⟨lb,hlb⟩:∃lb,lb=xH s:=⟨_,rfl⟩
  rw [←hlb] at PV fin
  obtain ⟨en,hen⟩:∃en,en=s.size:=⟨_,rfl⟩
  rw [←hen] at R3 fin
  have zO:A≠N∧B≠N∧C≠N∧A≠T∧B≠T∧C≠T∧5≠A∧5≠B∧5≠C:=by omega
  obtain ⟨Sp,hSp⟩:∃Sp:Nat→Value→World→Prop,Sp=(fun i v wx=>match i with
   | 0=>v=.pointer (some ⟨N,0,none⟩)
   | 1=>v=.string s
   | 2=>v=.bool (!s.toList.isEmpty)
   | 3=>v=.bool (!s.toList.isEmpty)
   | 4=>(!s.toList.isEmpty)=true→v=.string s
   | 5=>(!s.toList.isEmpty)=true→v=.int .u8 (peek s 0)
   | 6=>(!s.toList.isEmpty)=true→v=.bool (decide (peek s 0≠32))
   | 7=>v=.bool (!s.toList.isEmpty&&decide (peek s 0≠32))
   | 8=>v=.bool (!s.toList.isEmpty&&decide (peek s 0≠32))
   | 9=>(!s.toList.isEmpty&&decide (peek s 0≠32))=true→v=.string s
   | 10=>(!s.toList.isEmpty&&decide (peek s 0≠32))=true→v=.int .u8 (peek s 0)
   | 11=>(!s.toList.isEmpty&&decide (peek s 0≠32))=true→v=.bool (decide (peek s 0≠58))
   | 12=>v=.bool lb
   | 13=>∃st a S,v=dN a st∧gB en lb l=.ok st∧ql st∧qZ wx S a st∧∀b,S b→w3.heap.size≤b∧b<wx.heap.size
   | 14=>v=.agg #[.int .i64 0,.int .i64 0]
   | _=>True):=⟨_,rfl⟩
  obtain ⟨J,hJd⟩:∃J:(Nat→Bool)→(Nat→Value)→World→Prop,J=(fun pp f wx=>LJ A B C N T en l lb w3 (pp 13) (pp 15) (pp 16) wx):=⟨_,rfl⟩
  refine iU (fun b=>b=N∨kJ A B C b) J Sp [37,38,39,40,41,42,43,44,45,46,47,48,49,50,51] (by kernel_rfl) (by kernel_rfl) (by kernel_rfl) (fun i v w w' h hk=>by subst hSp;rcases i with _|_|_|_|_|_|_|_|_|_|_|_|_|_|_|i;all_goals first|exact h|(obtain ⟨st,a,S,h1,h2,h3,h4,h5⟩:=h;exact ⟨st,a,S,h1,h2,h3,h4.to hk (fun b hb=>⟨(h5 b hb).2,fun hx=>by have:=h5 b hb;rcases hx with h|h|h|h<;>omega⟩) (fun _ h=>h),fun b hb=>⟨(h5 b hb).1,Nat.lt_of_lt_of_le (h5 b hb).2 hk.size⟩⟩)) ?_ ?_ ?_ ?_
  ·intro i o hi lq x wy hI hJ hlf haft
   rw [hJd] at hJ
   have hJ:LJ A B C N T en l lb w3 (lq 13) (lq 15) (lq 16) wy:=hJ
   have s0:x.eval (.tmp 0)=.string s:=hI.keep 0 _ rfl (by kernel_rfl)
   have s2:x.eval (.tmp 2)=.pointer (some ⟨A,0,none⟩):=hI.keep 2 _ rfl (by kernel_rfl)
   have s3:x.eval (.tmp 3)=.pointer (some ⟨B,0,none⟩):=hI.keep 3 _ rfl (by kernel_rfl)
   have s4:x.eval (.tmp 4)=.pointer (some ⟨C,0,none⟩):=hI.keep 4 _ rfl (by kernel_rfl)
   have s6:x.eval (.tmp 6)=.pointer (some ⟨N,0,none⟩):=hI.keep 6 _ rfl (by kernel_rfl)
   have hsz:x.tmps.size=52:=hI.size
   obtain ⟨⟨vb,cb⟩,fb⟩:=hJ.1.bo
   obtain ⟨lS,mO,fA⟩:=hJ.2.1.cells
   have mP:=fA 0;have mQ:=fA 1
   have hjn:∀(l':Nat→Bool),(∀j,l' j=true↔j=i∨lq j=true)→(∀j∈([13,15,16]:List Nat),i≠j)→∀f,J l' f wy:=by
    intro l' hl hne f
    rw [hJd]
    show LJ A B C N T en l lb w3 (l' 13) (l' 15) (l' 16) wy
    rw [upd_ne hl 13 (Ne.symm (hne 13 (by simp)))]
    rw [upd_ne hl 15 (Ne.symm (hne 15 (by simp)))]
    rw [upd_ne hl 16 (Ne.symm (hne 16 (by simp)))]
    exact hJ
   rcases i with _|_|_|_|_|_|_|_|_|_|_|_|_|_|_|_|_|_|i
   all_goals (simp only [List.getElem?_toArray,List.getElem?_cons_zero,List.getElem?_cons_succ,List.getElem?_nil,Option.some.injEq,reduceCtorEq] at hi)
   all_goals subst hi
   ·refine aT rfl ?_
    refine aK (v:=.pointer (some ⟨N,0,none⟩)) ?_ (by subst hSp;exact rfl) (fun l' hl=>hjn l' hl (by decide) _)
    simp only [execOp,resolve,invoke,List.map_toArray,List.map_cons,List.map_nil,s6];go_simp
   ·refine aT rfl ?_
    refine aK (v:=.string s) ?_ (by subst hSp;exact rfl) (fun l' hl=>hjn l' hl (by decide) _)
    simp only [execOp,resolve,invoke,List.map_toArray,List.map_cons,List.map_nil,s0];go_simp
   ·refine aT rfl ?_
    have d38:x.eval (.tmp 38)=.string s:=by have h_:=hI.dep haft 1 38 rfl rfl rfl;rw [hSp] at h_;exact h_
    refine aK (v:=.bool (!s.toList.isEmpty)) ?_ (by subst hSp;exact rfl) (fun l' hl=>hjn l' hl (by decide) _)
    simp only [execOp,resolve,invoke,List.map_toArray,List.map_cons,List.map_nil,d38];go_simp;try rfl
   ·refine aT rfl ?_
    have d39:x.eval (.tmp 39)=.bool (!s.toList.isEmpty):=by have h_:=hI.dep haft 2 39 rfl rfl rfl;rw [hSp] at h_;exact h_
    refine aK (v:=.bool (!s.toList.isEmpty)) ?_ (by subst hSp;exact rfl) (fun l' hl=>hjn l' hl (by decide) _)
    simp only [execOp,resolve,invoke,List.map_toArray,List.map_cons,List.map_nil,d39];go_simp
   ·have qH:x.eval (.tmp 40)=.bool (!s.toList.isEmpty):=by have h_:=hI.dep haft 3 40 rfl rfl rfl;rw [hSp] at h_;exact h_
    refine nZ (j:=3) rfl rfl rfl qH (by rw [hsz];decide) (fun hb=>?_) (fun hb=>⟨fun d hd=>by subst hSp;exact fun h=>(by rw [hb] at h;cases h),fun l' hl=>hjn l' hl (by decide) _⟩)
    refine aK (v:=.string s) ?_ (by subst hSp;exact fun _=>rfl) (fun l' hl=>hjn l' hl (by decide) _)
    simp only [execOp,resolve,invoke,List.map_toArray,List.map_cons,List.map_nil,s0];go_simp
   ·have qH:x.eval (.tmp 40)=.bool (!s.toList.isEmpty):=by have h_:=hI.dep haft 3 40 rfl rfl rfl;rw [hSp] at h_;exact h_
    refine nZ (j:=3) rfl rfl rfl qH (by rw [hsz];decide) (fun hb=>?_) (fun hb=>⟨fun d hd=>by subst hSp;exact fun h=>(by rw [hb] at h;cases h),fun l' hl=>hjn l' hl (by decide) _⟩)
    have d41:x.eval (.tmp 41)=.string s:=by have h_:=hI.dep haft 4 41 rfl rfl rfl;rw [hSp] at h_;exact h_ hb
    have hbe:=hb
    have hp0:0<s.size:=by (by_cases hz:0<s.size;exact hz;exfalso;have e0:s=E0:=(by apply ByteArray.ext;apply Array.toList_inj.1;have:s.data.toList.length=0:=(by have e_:s.data.toList.length=s.size:=rfl;omega);rw [List.length_eq_zero_iff.1 this];rfl);rw [e0,jR] at hbe;cases hbe)
    have hbi:(0:Int)<(s.size:Int):=by omega
    refine aK (v:=.int .u8 (peek s 0)) ?_ (by subst hSp;exact fun _=>rfl) (fun l' hl=>hjn l' hl (by decide) _)
    rw [rY hp0]
    simp only [execOp,resolve,invoke,List.map_toArray,List.map_cons,List.map_nil,d41];go_simp
   ·have qH:x.eval (.tmp 40)=.bool (!s.toList.isEmpty):=by have h_:=hI.dep haft 3 40 rfl rfl rfl;rw [hSp] at h_;exact h_
    refine nZ (j:=3) rfl rfl rfl qH (by rw [hsz];decide) (fun hb=>?_) (fun hb=>⟨fun d hd=>by subst hSp;exact fun h=>(by rw [hb] at h;cases h),fun l' hl=>hjn l' hl (by decide) _⟩)
    have d42:x.eval (.tmp 42)=.int .u8 (peek s 0):=by have h_:=hI.dep haft 5 42 rfl rfl rfl;rw [hSp] at h_;exact h_ hb
    refine aK (v:=.bool (decide (peek s 0≠32))) ?_ (by subst hSp;exact fun _=>rfl) (fun l' hl=>hjn l' hl (by decide) _)
    simp only [execOp,resolve,invoke,List.map_toArray,List.map_cons,List.map_nil,d42];go_simp;try rfl
   ·refine aT rfl ?_
    have qH:x.eval (.tmp 40)=.bool (!s.toList.isEmpty):=by have h_:=hI.dep haft 3 40 rfl rfl rfl;rw [hSp] at h_;exact h_
    have PW:(!s.toList.isEmpty)=true→x.eval (.tmp 43)=.bool (decide (peek s 0≠32)):=by have h_:=hI.dep haft 6 43 rfl rfl rfl;rw [hSp] at h_;exact h_
    refine aK (v:=.bool (!s.toList.isEmpty&&decide (peek s 0≠32))) ?_ (by subst hSp;exact rfl) (fun l' hl=>hjn l' hl (by decide) _)
    cases hb:(!s.toList.isEmpty) with
    | true=>have PW:=PW hb;rw [hb] at qH;simp only [execOp,resolve,invoke,List.map_toArray,List.map_cons,List.map_nil,qH,PW];go_simp;try rfl
    | false=>rw [hb] at qH;simp only [execOp,resolve,invoke,List.map_toArray,List.map_cons,List.map_nil,qH];go_simp;try rfl
   ·refine aT rfl ?_
    have d44:x.eval (.tmp 44)=.bool (!s.toList.isEmpty&&decide (peek s 0≠32)):=by have h_:=hI.dep haft 7 44 rfl rfl rfl;rw [hSp] at h_;exact h_
    refine aK (v:=.bool (!s.toList.isEmpty&&decide (peek s 0≠32))) ?_ (by subst hSp;exact rfl) (fun l' hl=>hjn l' hl (by decide) _)
    simp only [execOp,resolve,invoke,List.map_toArray,List.map_cons,List.map_nil,d44];go_simp
   ·have qI:x.eval (.tmp 45)=.bool (!s.toList.isEmpty&&decide (peek s 0≠32)):=by have h_:=hI.dep haft 8 45 rfl rfl rfl;rw [hSp] at h_;exact h_
    refine nZ (j:=8) rfl rfl rfl qI (by rw [hsz];decide) (fun hb=>?_) (fun hb=>⟨fun d hd=>by subst hSp;exact fun h=>(by rw [hb] at h;cases h),fun l' hl=>hjn l' hl (by decide) _⟩)
    refine aK (v:=.string s) ?_ (by subst hSp;exact fun _=>rfl) (fun l' hl=>hjn l' hl (by decide) _)
    simp only [execOp,resolve,invoke,List.map_toArray,List.map_cons,List.map_nil,s0];go_simp
   ·have qI:x.eval (.tmp 45)=.bool (!s.toList.isEmpty&&decide (peek s 0≠32)):=by have h_:=hI.dep haft 8 45 rfl rfl rfl;rw [hSp] at h_;exact h_
    refine nZ (j:=8) rfl rfl rfl qI (by rw [hsz];decide) (fun hb=>?_) (fun hb=>⟨fun d hd=>by subst hSp;exact fun h=>(by rw [hb] at h;cases h),fun l' hl=>hjn l' hl (by decide) _⟩)
    have d46:x.eval (.tmp 46)=.string s:=by have h_:=hI.dep haft 9 46 rfl rfl rfl;rw [hSp] at h_;exact h_ hb
    have hbe:(!s.toList.isEmpty)=true:=by rw [Bool.and_eq_true] at hb;exact hb.1
    have hp0:0<s.size:=by (by_cases hz:0<s.size;exact hz;exfalso;have e0:s=E0:=(by apply ByteArray.ext;apply Array.toList_inj.1;have:s.data.toList.length=0:=(by have e_:s.data.toList.length=s.size:=rfl;omega);rw [List.length_eq_zero_iff.1 this];rfl);rw [e0,jR] at hbe;cases hbe)
    have hbi:(0:Int)<(s.size:Int):=by omega
    refine aK (v:=.int .u8 (peek s 0)) ?_ (by subst hSp;exact fun _=>rfl) (fun l' hl=>hjn l' hl (by decide) _)
    rw [rY hp0]
    simp only [execOp,resolve,invoke,List.map_toArray,List.map_cons,List.map_nil,d46];go_simp
   ·have qI:x.eval (.tmp 45)=.bool (!s.toList.isEmpty&&decide (peek s 0≠32)):=by have h_:=hI.dep haft 8 45 rfl rfl rfl;rw [hSp] at h_;exact h_
    refine nZ (j:=8) rfl rfl rfl qI (by rw [hsz];decide) (fun hb=>?_) (fun hb=>⟨fun d hd=>by subst hSp;exact fun h=>(by rw [hb] at h;cases h),fun l' hl=>hjn l' hl (by decide) _⟩)
    have d47:x.eval (.tmp 47)=.int .u8 (peek s 0):=by have h_:=hI.dep haft 10 47 rfl rfl rfl;rw [hSp] at h_;exact h_ hb
    refine aK (v:=.bool (decide (peek s 0≠58))) ?_ (by subst hSp;exact fun _=>rfl) (fun l' hl=>hjn l' hl (by decide) _)
    simp only [execOp,resolve,invoke,List.map_toArray,List.map_cons,List.map_nil,d47];go_simp;try rfl
   ·refine aT rfl ?_
    have qI:x.eval (.tmp 45)=.bool (!s.toList.isEmpty&&decide (peek s 0≠32)):=by have h_:=hI.dep haft 8 45 rfl rfl rfl;rw [hSp] at h_;exact h_
    have PX:(!s.toList.isEmpty&&decide (peek s 0≠32))=true→x.eval (.tmp 48)=.bool (decide (peek s 0≠58)):=by have h_:=hI.dep haft 11 48 rfl rfl rfl;rw [hSp] at h_;exact h_
    refine aK (v:=.bool lb) ?_ (by subst hSp;exact rfl) (fun l' hl=>hjn l' hl (by decide) _)
    cases hb:(!s.toList.isEmpty&&decide (peek s 0≠32)) with
    | true=>have PX:=PX hb;rw [hb] at qI;rw [PV.out,hb,Bool.true_and];simp only [execOp,resolve,invoke,List.map_toArray,List.map_cons,List.map_nil,qI,PX];go_simp;try rfl
    | false=>rw [hb] at qI;rw [PV.out,hb,Bool.false_and];simp only [execOp,resolve,invoke,List.map_toArray,List.map_cons,List.map_nil,qI];go_simp;try rfl
   ·refine aT rfl ?_
    have d37:x.eval (.tmp 37)=.pointer (some ⟨N,0,none⟩):=by have h_:=hI.dep haft 0 37 rfl rfl rfl;rw [hSp] at h_;exact h_
    have d49:x.eval (.tmp 49)=.bool lb:=by have h_:=hI.dep haft 12 49 rfl rfl rfl;rw [hSp] at h_;exact h_
    have hrd:=hJ.2.2.2.2 hlf
    refine Kz (f:=40) (args:=#[.pointer (some ⟨N,0,none⟩),.bool lb]) ?_ ?_
    ·simp only [execOp,resolve,invoke,List.map_toArray,List.map_cons,List.map_nil,d37,d49];go_simp;try rfl
    ·refine (Ld lb hrd (by have:=xF.out;omega)).mono ?_
     intro e wz hq
     obtain ⟨kz,hq⟩:=hq
     cases hu:gB en lb l with
     | error er =>
      rw [hu] at hq
      refine .inr ⟨_,hq,?_⟩
      have hxd:=hI.defers
      obtain ⟨xt,xd⟩:=x
      dsimp only at hxd s2 s3 s4
      rw [hxd]
      refine Ij (er:=er) hne rfl s2 s3 s4 (hJ.1.tri.kept kz ⟨by omega,by omega,by omega⟩) (fun wv kv=>⟨((K3.out.step hI.kept (fun y hy=>by rcases hy with rfl|hy;exact .inr (by omega);rcases hy with h|h|h<;>exact .inr (by omega))).step kz (fun y hy=>.inr (by omega))).step kv (fun y hy=>by rcases hy with h|h|h<;>exact .inr (by omega)),?_⟩)
      rw [fin.out,hu]
      exact rfl
     | ok st =>
      rw [hu] at hq
      obtain ⟨a,S,he,hz,ho,hS⟩:=hq
      have hge:w3.heap.size≤wy.heap.size:=hI.kept.size
      refine .inl ⟨_,he,by subst hSp;exact ⟨st,a,S,rfl,hu,hz,ho,fun b hb=>⟨by have:=(hS b hb).1;omega,(hS b hb).2⟩⟩,kz.more (fun _ h=>.inl h),fun l' hl=>?_⟩
      rw [hJd]
      show LJ A B C N T en l lb w3 (l' 13) (l' 15) (l' 16) wz
      rw [iq hl,upd_ne hl 15 (by decide),upd_ne hl 16 (by decide)]
      have n15:=hI.no hlf 15 rfl rfl
      exact hJ.call hne kz ⟨by omega,by omega,by omega⟩ n15
   ·refine aT rfl ?_
    refine aK (v:=.agg #[.int .i64 0,.int .i64 0]) ?_ (by subst hSp;exact rfl) (fun l' hl=>hjn l' hl (by decide) _)
    simp only [execOp,resolve,invoke,List.map_toArray,List.map_cons,List.map_nil,s4];go_simp
   ·refine aT rfl ?_
    obtain ⟨st,a,S,d50,hu,hz,ho,hS⟩:=(by have h_:=hI.dep haft 13 50 rfl rfl rfl;rw [hSp] at h_;exact h_:∃st a S,x.eval (.tmp 50)=dN a st∧gB en lb l=.ok st∧ql st∧qZ wy S a st∧∀b,S b→w3.heap.size≤b∧b<wy.heap.size)
    obtain ⟨a0,s0_,hB0⟩:=hJ.1.st
    refine qY (F:=fun w'=>bT A a st w'∧Kept (· = A) wy w') (jE rfl hB0 s2 a st d50) rfl (fun w' hf=>hf.2.more fun _ h=>.inr (.inl h)) (fun w' hf l' hl=>?_)
    rw [hJd]
    show LJ A B C N T en l lb w3 (l' 13) (l' 15) (l' 16) w'
    rw [iq hl,upd_ne hl 13 (by decide),upd_ne hl 16 (by decide)]
    exact hJ.sS hne hf.2 hf.1 hu hz ho hS (by omega) zO
   ·refine aT rfl ?_
    refine ig (w':=wy.setCell ⟨B,0,none⟩ (.bool true)) ?_ rfl ((Kept.refl _ _).setCell (p:=⟨B,0,none⟩) (.inl (.inr (.inr (.inl rfl)))) _) (fun l' hl=>?_)
    ·simp only [execOp,resolve,invoke,List.map_toArray,List.map_cons,List.map_nil,s3];go_simp
    ·rw [hJd]
     show LJ A B C N T en l lb w3 (l' 13) (l' 15) (l' 16) _
     rw [iq hl,upd_ne hl 13 (by decide),upd_ne hl 15 (by decide)]
     exact hJ.sB hne (by omega) zO
   ·refine aT rfl ?_
    have d51:x.eval (.tmp 51)=.agg #[.int .i64 0,.int .i64 0]:=by have h_:=hI.dep haft 14 51 rfl rfl rfl;rw [hSp] at h_;exact h_
    refine ig (w':=(wy.setCell ⟨C,0,none⟩ (.int .i64 0)).setCell ⟨C,1,none⟩ (.int .i64 0)) ?_ rfl (((Kept.refl _ _).setCell (p:=⟨C,0,none⟩) (.inl (.inr (.inr (.inr rfl)))) _).setCell (p:=⟨C,1,none⟩) (.inl (.inr (.inr (.inr rfl)))) _) (fun l' hl=>?_)
    ·simp only [execOp,resolve,invoke,List.map_toArray,List.map_cons,List.map_nil,s4,d51];go_simp
    ·rw [hJd]
     show LJ A B C N T en l lb w3 (l' 13) (l' 15) (l' 16) _
     rw [upd_ne hl 13 (by decide),upd_ne hl 15 (by decide),upd_ne hl 16 (by decide)]
     exact hJ.sF hne (by omega) zO
  ·intro lq hl
   rw [hJd]
   show LJ A B C N T en l lb w3 (lq 13) (lq 15) (lq 16) w3.drew
   rw [hl 13 (by decide)]
   rw [hl 15 (by decide)]
   rw [hl 16 (by decide)]
   exact LJ.start T3.out R3.out
  ·intro lq l' f wx hl h
   rw [hJd] at h⊢
   have h:LJ A B C N T en l lb w3 (lq 13) (lq 15) (lq 16) wx:=h
   show LJ A B C N T en l lb w3 (l' 13) (l' 15) (l' 16) wx
   rw [←hl 13 (by decide)]
   rw [←hl 15 (by decide)]
   rw [←hl 16 (by decide)]
   exact h
  ·intro f wy hK hS hJ
   rw [hJd] at hJ
   have hJ:LJ A B C N T en l lb w3 ((fun _=>true) 13) ((fun _=>true) 15) ((fun _=>true) 16) wy:=hJ
   obtain ⟨hq1,hq2,hq3,hq4,hq5⟩:=hJ
   obtain ⟨st,a,S,hB,hu,hz,ho,hS⟩:=hq3 (by trivial)
   have K9:=K3.out.step hK (fun y hy=>by rcases hy with rfl|hy;exact .inr (by omega);rcases hy with h|h|h<;>exact .inr (by omega))
   simp only [gQ,List.foldl_cons,List.foldl_nil,List.setIfInBounds_toArray,List.set_cons_zero,List.set_cons_succ]
   go_wp2_with fail
   refine PS rfl rfl rfl rfl ⟨hB,hq4 (by trivial),hq2⟩ ⟨K9,?_⟩
   rw [fin.out,hu]
   exact ⟨a,S,rfl,hz,ho,fun b hb=>⟨by have:=(hS b hb).1;omega,(hS b hb).2⟩⟩
theorem Gh (s:aj) (hnb:ET s) (w:World) (hs:s.size≤1000000000) (hm:oz w) (hr:iD w):Calls Tryz.prog 24 #[.string s] w (Ih s w):=by
 by_cases h0:0<s.size
 ·by_cases h1:s[0].toNat=42
  ·by_cases h2:s.size≤2000
   ·exact QK s w hs hm hr h0 h1 h2
   ·exact Y3 s hnb w hs hm hr h0 h1 (by omega)
  ·exact line_text s hnb w hs hm hr h0 h1
 ·refine VA s hnb w hs hm hr ?_
  apply ByteArray.ext;apply Array.toList_inj.1
  have:s.data.toList.length=0:=by have e_:s.data.toList.length=s.size:=rfl;omega
  rw [List.length_eq_zero_iff.1 this];rfl
end Go.Proofs.YtodebjhalipefaaGreatDoor

namespace Go.Proofs.YtodebjhalipefaaGreatDoor
set_option linter.all false
open Go.RowKit
set_option maxRecDepth 100000
set_option maxHeartbeats 16000000
def nl:aj:=⟨#[10]⟩
def tV (s:aj):List aj:=Lib.splitB nl 0 (Lib.countB s nl) s
def qR (l:List aj):List aj:=if l.getLast?=some E0 then l.dropLast else l
def ku (i:Nat) (out:List aF):List aj→Except Er (List aF)
 | []=>.ok out
 | t::r=>match kH t with
  | .error er=>if er.1≠0 then .error (er.1,i) else ku (i+1) out r
  | .ok none=>ku (i+1) out r
  | .ok (some x)=>ku (i+1) (out++[x]) r
def mY (s:aj):Except Er (List aF) :=
 if 65536<s.size then .error (4,0)
 else if 1000<(qR (tV s)).length then .error (5,0)
 else ku 0 [] (qR (tV s))
def afY (s:aj) (w:World) (e:Ending) (w':World):Prop :=
 Kept aA w w'∧match mY s with
  | .ok l=>∃a c S,e=.returned (.tuple #[.slice a l.length c,Lj (0,0)])∧mW w' S a l∧∀b,S b→w.heap.size≤b∧b<w'.heap.size
  | .error er=>e=.returned (.tuple #[.slice none 0 0,Lj er])
def Jc (s:aj):Bool:=(tV s).all fun x=>x.data.toList.all fun c=>decide (c.toNat≠91)
theorem adE {s:aj} (h:Jc s=true):∀x∈tV s,ET x:=fun x hx c hc=>of_decide_eq_true (List.all_eq_true.1 (List.all_eq_true.1 h x hx) c hc)
theorem Y5 (s:aj):(tV s).length=Lib.countB s nl+1:=Lib.splitB_all nl (by decide) 0 _ s rfl
theorem abv (a:Option Addr) (n c:Nat) (w:World) (h:(a=none∧n=0∧c=0)∨(∃g o,a=some ⟨g,o,none⟩∧n≤c)):Calls Tryz.prog 25 #[.slice a n c] w (fun e w'=>e=.returned (.slice a n n)∧w'=w):=by
 rcases h with ⟨rfl,rfl,rfl⟩|⟨g,o,rfl,h1⟩
 ·go_enter Tryz.func25, Tryz.ntmps25
  go_wp2_with fail
  go_ret
  exact ⟨rfl,rfl⟩
 ·have hsz:∀wx,(sizeOf 69).run Tryz.prog wx=.ok 24 wx:=fun _=>by kernel_rfl
  have hsl:∀wx,(Instr.slice 37 (.slice (some ⟨g,o,none⟩) n c) none (some (.int .i64 n)) (some (.int .i64 n))).run Tryz.prog wx=.ok (.slice (some ⟨g,o,none⟩) n n) wx:=by
   intro wx
   unfold Instr.slice Instr.sliceBounds Instr.sliceBound
   simp only [Sem.run_bind,run_underlying Tryz.underlying37,Result.andThen_ok,Sem.run_pure,asIntOf]
   rw [if_pos ⟨by omega,by omega⟩]
   simp only [Sem.run_pure,Result.andThen_ok,hsz]
   rw [if_pos ⟨by omega,by omega⟩]
   simp only [Sem.run_pure,Result.andThen_ok,hsz]
   by_cases hn:n=0
   ·simp [Addr.add,hn]
   ·simp [Addr.add,hn]
  have hs1:=hsl w
  go_enter Tryz.func25, Tryz.ntmps25
  go_wp2_with fail
  go_ret
  exact ⟨rfl,rfl⟩
theorem LK {ops:Array Oper} {rest:List Oper} {o:Oper} {a:Act} {Q:Exit→Act→World→Prop} {w:World} (hgd:o.guard=none) (s x:Operand)
  (ho:o.op=.call {callee:=.builtin .append,args:=#[s,x],argTypes:=#[37,37]})
  (v:Value) (n:Nat) (cs:List Value) (hs:a.eval s=v) (B:Nat) (hown:aP w B 69 24 v n cs) (g:Nat) (hx:a.eval x=.slice (some ⟨g,0,none⟩) 1 1)
  (sa:gW) (st:aF) (hg:bT g sa st w) (hn:n≤1000000) (hB:B≤w.heap.size)
  (h:∀a' c' w',aP w' B 69 24 (.slice a' (n+1) c') (n+1) (cs++bM sa st)→w.grownBy w' v.ownBlock→((Value.slice a' (n+1) c').ownBlock=v.ownBlock∨(Value.slice a' (n+1) c').ownBlock=some w.heap.size)→wpList Tryz.prog ops Q rest (a.put o.dst (.slice a' (n+1) c')) w') :
  wpList Tryz.prog ops Q (o::rest) a w:=by
 obtain ⟨i0,hi0,hz0,hz1,hz2⟩:=info_parts acM
 exact dw w hgd s x _ _ ho B 69 i0 V3 24 368 Tryz.underlying37 hi0 hz0 hz1 hz2 rfl v n cs hs hown _ 1 _ hx (ad7 hg) (by unfold maxLen;omega) (by omega) hB h
structure Tf (B F:Nat) (w1:World) (out:List aF) (v:Value) (wx:World):Prop where
 win:∃cs S,aP wx B 69 24 v out.length cs∧gJ wx S cs out∧∀b,S b→B≤b∧b<wx.heap.size∧v.ownBlock≠some b
 k:Kept aA w1 wx
 lt:B=w1.heap.size
theorem Tf.kept {B F:Nat} {w1 wx wy:World} {out:List aF} {v:Value} (h:Tf B F w1 out v wx) (hk:Kept aA wx wy):Tf B F w1 out v wy:=by
 obtain ⟨⟨cs,S,h1,h2,h3⟩,h4,h5⟩:=h
 exact ⟨⟨cs,S,h1.kept hk (fun _ _ h=>h),h2.kept hk (fun b hb=>⟨(h3 b hb).2.1,fun h=>h⟩),fun b hb=>⟨(h3 b hb).1,Nat.lt_of_lt_of_le (h3 b hb).2.1 hk.size,(h3 b hb).2.2⟩⟩,h4.trans hk,h5⟩
theorem Ll (l:List aj):(qR l).length≤l.length:=by
 unfold qR;split
 ·rw [List.length_dropLast];omega
 ·exact Nat.le_refl _
theorem DT (l:List aj) (j:Nat) (h:j<(qR l).length):(qR l)[j]=l[j]'(Nat.lt_of_lt_of_le h (Ll l)):=by
 unfold qR at h⊢
 split
 ·simp [List.getElem_dropLast]
 ·rfl
theorem QL (i:Nat) (out:List aF) (l:List aj) (j:Nat) (h:j<l.length):ku i out (l.drop j)=match kH l[j] with
  | .error er=>if er.1≠0 then .error (er.1,i) else ku (i+1) out (l.drop (j+1))
  | .ok none=>ku (i+1) out (l.drop (j+1))
  | .ok (some x)=>ku (i+1) (out++[x]) (l.drop (j+1)):=by
 rw [List.drop_eq_getElem_cons h,ku]
theorem gJ.more {w:World} {S S':Nat→Prop}:∀{l:List aF} {cs:List Value},gJ w S cs l→(∀b,S b→S' b)→gJ w S' cs l
 | [],_,h,_=>h
 | p::ps,cs,h,hs=>by
  rw [gJ] at h⊢;obtain ⟨sa,r,rfl,hz,h1,h2⟩:=h
  exact ⟨sa,r,rfl,hz,⟨aN.same (fun _ _=>rfl) hs _ _ h1.target,aN.same (fun _ _=>rfl) hs _ _ h1.value,aN.same (fun _ _=>rfl) hs _ _ h1.pat,fun h=>(by obtain ⟨b,o,e,hb,hc⟩:=h1.params h;exact ⟨b,o,e,hs b hb,hc⟩),fun h=>(by obtain ⟨b,o,e,hb,hc⟩:=h1.locals h;exact ⟨b,o,e,hs b hb,hc⟩)⟩,h2.more hs⟩
theorem uw {w w2:World} (h:iD w) (k:Kept aA w w2):iD w2:=by
 obtain ⟨ev,h1,h2⟩:=h;exact ⟨ev,(k.cell (cell_lt h1) (fun h=>h)).trans h1,h2⟩
theorem Wp (s:aj) (hnb:Jc s=true) (w:World) (hs:s.size≤1000000000) (hm:oz w) (hr:iD w):Calls Tryz.prog 13 #[.string s] w (afY s w):=by
 obtain ⟨w0,hw0⟩:∃w0,w0=w.alloc (.cells #[.int .i64 0,.int .i64 0] 39):=⟨_,rfl⟩
 have k0:Kept aA w w0:=by rw [hw0];exact (Kept.refl _ _).alloc _
 have F0:Hid (Fl w.heap.size 0 0 w0):=by rw [hw0];exact ay w _
 have M0:=hm.kept k0 (fun h=>h);have G0:=uw hr k0
 have HW0:=ah hw0;have K0:=ah k0
 obtain ⟨F,hF⟩:∃F,F=w.heap.size:=⟨_,rfl⟩
 rw [←hF] at F0
 have HF:=ah hF
 have hz0:w0.heap.size=F+1:=by rw [hw0,hF];simp
 have HZ0:=ah hz0
 clear hw0 k0 hF hz0 hm hr
 by_cases hbig:65536<s.size
 ·have fin:Hid (mY s=.error (4,0)):=by unfold Hid mY;rw [if_pos hbig]
  have d1:decide ((65536:Int)<(s.size:Int))=true:=ak (by omega)
  have d2:decide (65536<s.size)=true:=ak hbig
  clear hbig
  obtain ⟨f0,f1,f2,f3⟩:=F0.out.cells
  go_enter Tryz.func13, Tryz.ntmps13
  go_upto_region 1 with fail
  rw [←HW0.out,←HF.out]
  go_wp2_with fail
  refine rZ rfl rfl rfl (F0.out.set _ _) ⟨K0.out.nJ (Nat.le_of_eq HF.out.symm) _ _,?_⟩
  rw [fin.out];exact rfl
 have d1:decide ((65536:Int)<(s.size:Int))=false:=au (by omega)
 have d2:decide (65536<s.size)=false:=au hbig
 have HE:Hid (mY s=if 1000<(qR (tV s)).length then .error (5,0) else ku 0 [] (qR (tV s))):=by unfold Hid mY;rw [if_neg hbig]
 have hnl:=adE hnb
 clear hnb
 obtain ⟨L,hL⟩:∃L,L=tV s:=⟨_,rfl⟩
 rw [←hL] at hnl
 have Y6:=Y5 s
 rw [←hL] at Y6 HE
 obtain ⟨m,hmx⟩:∃m,w0.cell? ⟨0,0,none⟩=some (.int .i64 m):=M0
 have HSP:=ah (Tryz.strings_Split s nl m w0 (by omega) hmx (by decide))
 have hcl:Lib.countB s nl≤s.size:=Lib.countB_le nl (by decide) _ s (Nat.le_refl _)
 obtain ⟨n,hn⟩:∃n,n=Lib.countB s nl+1:=⟨_,rfl⟩
 rw [←hn] at Y6 HSP
 have hn0:0<n:=by omega
 have hnb:n≤65537:=by omega
 rw [show Lib.splitB nl 0 (Lib.countB s nl) s=L from hL.symm] at HSP
 obtain ⟨w1,hw1⟩:∃w1,w1=w0.alloc (.cells (L.map Value.string).toArray 9):=⟨_,rfl⟩
 have k1:Kept aA w0 w1:=by rw [hw1];exact (Kept.refl _ _).alloc _
 have hrow:w1.heap[w0.heap.size]?=some (.cells (L.map Value.string).toArray 9 (0,0)):=by rw [hw1];exact ay w0 _
 obtain ⟨g,hg⟩:∃g,g=w0.heap.size:=⟨_,rfl⟩
 rw [←hw1,←hg] at HSP
 rw [←hg] at hrow
 have HC:Hid (∀j (h:j<L.length),w1.cell? ⟨g,j,none⟩=some (.string L[j])):=by
  intro j h
  rw [cell_of_row w1 g j _ _ _ hrow]
  simp [h]
 have F1:=ah (F0.out.kept k1 (fun h=>h))
 have HM:Hid (oz w1):=oz.kept ⟨m,hmx⟩ k1 (fun h=>h)
 have HG:=ah (uw G0 k1)
 have K1:=ah (K0.out.trans k1)
 have hgl:g<w1.heap.size:=(Array.getElem?_eq_some_iff.1 hrow).1
 have hLz:∀j (h:j<L.length),L[j].size≤s.size:=by
  intro j h
  have hm:L[j]∈tV s:=by
   have:=List.getElem_mem h
   exact hL ▸ this
  have key:∀(k:Nat) (s:aj),∀x∈Lib.splitB nl 0 k s,x.size≤s.size:=by
   intro k
   induction k with
   | zero=>intro s x hx;rw [Lib.splitB_zero] at hx;rw [List.mem_singleton.1 hx];exact Nat.le_refl _
   | succ k ih =>
    intro s x hx
    rcases Lib.indexB_cases s nl with hi|⟨i,hi2,_⟩
    ·rw [Lib.splitB_miss nl 0 _ s hi] at hx;rw [List.mem_singleton.1 hx];exact Nat.le_refl _
    ·rw [Lib.splitB_hit nl 0 k s i hi2] at hx
     rcases List.mem_cons.1 hx with rfl|hx
     ·rw [ByteArray.size_extract];omega
     ·have:=ih _ x hx;rw [ByteArray.size_extract] at this;omega
  exact key _ s _ hm
 have HLZ:=ah hLz
 clear hw1 k1 hg hL hcl hn hmx G0 hLz hrow
 go_enter Tryz.func13, Tryz.ntmps13
 go_upto_region 1 with fail
 rw [←HW0.out,←HF.out]
 go_upto_region 4 with (go_at_call 23;(refine HSP.out.mono ?_);rintro e w2 ⟨rfl,aH⟩;subst aH)
 obtain ⟨w1,rfl⟩:∃x:World,x=w2:=⟨_,rfl⟩
 obtain ⟨n1,hn1⟩:∃n1,n=n1+1:=⟨n-1,by omega⟩
 have aiI:(n:Int)-1=(n1:Int):=by omega
 have bi:(n1:Int)<(n:Int):=by omega
 have hlast:L.getLast?=some (L[n1]'(by omega)):=by rw [List.getLast?_eq_getElem?,show L.length-1=n1 by omega];exact List.getElem?_eq_getElem (by omega)
 have cl:=HC.out n1 (by omega)
 obtain ⟨x1,hx1⟩:∃x,x=L[n1]'(by omega):=⟨_,rfl⟩
 rw [←hx1] at cl hlast
 obtain ⟨ls,hls⟩:∃ls,ls=qR L:=⟨_,rfl⟩
 have HLE:Hid (ls.length≤n):=by unfold Hid;rw [hls,←Y6];exact Ll L
 have HCL:Hid (∀j (h:j<ls.length),w1.cell? ⟨g,j,none⟩=some (.string ls[j])):=by
  unfold Hid;subst hls
  intro j h
  rw [DT L j h];exact HC.out j _
 have HNB:Hid (∀j (h:j<ls.length),ET ls[j]):=by
  unfold Hid;subst hls
  intro j h
  rw [DT L j h];exact hnl _ (List.getElem_mem _)
 clear hnl
 have HSZ:Hid (∀j (h:j<ls.length),ls[j].size≤s.size):=by
  unfold Hid;subst hls
  intro j h
  rw [DT L j h];exact HLZ.out j _
 have hsl:∀wx,(Instr.slice 22 (.slice (some ⟨g,0,none⟩) n n) none (some (.int .i64 n1)) none).run Tryz.prog wx=.ok (.slice (some ⟨g,0,none⟩) n1 n) wx:=by
  intro wx
  have hsz:(sizeOf 9).run Tryz.prog wx=.ok 1 wx:=by kernel_rfl
  unfold Instr.slice Instr.sliceBounds Instr.sliceBound
  simp only [Sem.run_bind,run_underlying Tryz.underlying22,Result.andThen_ok,Sem.run_pure,asIntOf]
  rw [if_pos ⟨by omega,by omega⟩]
  simp only [Sem.run_pure,Result.andThen_ok,hsz]
  have hn:¬(n=0):=by omega
  simp [Addr.add,hn]
 rw [←hls] at HE
 have HN1:=ah hn1
 clear hx1 hn1
 go_upto_if 23 with fail
 go_cut [4] (fun v wx=>v=.slice (some ⟨g,0,none⟩) ls.length n∧w1=wx)
 case first =>
  by_cases he:x1=E0
  ·have y1:x1.toList.isEmpty=true:=by rw [he];exact jR
   have y2:(x1.toList==[])=true:=by rw [he,ByteArray.toList_eq];rfl
   have hlen:ls.length=n1:=by rw [hls];unfold qR;rw [if_pos (by rw [hlast,he]),List.length_dropLast,Y6,HN1.out];rfl
   have hs1:=hsl w1
   have HLn:=ah hlen
   clear he hlast hls hsl hlen
   rw [y1]
   go_wp2_with fail
   go_meet
   exact ⟨by rw [HLn.out],rfl⟩
  ·have y1:x1.toList.isEmpty=false:=mM he
   have y2:(x1.toList==[])=false:=by
    cases h:(x1.toList==[]) with
    | false=>rfl
    | true=>rw [eq_of_beq h] at y1;cases y1
   have hlen:ls.length=n:=by rw [hls];unfold qR;rw [if_neg (by rw [hlast];intro h;exact he (Option.some.inj h)),Y6]
   have HLn:=ah hlen
   clear he hlast hls hsl hlen
   rw [y1]
   go_wp2_with fail
   go_meet
   exact ⟨by rw [HLn.out],rfl⟩
 case rest =>
  obtain ⟨rfl,rfl⟩:=hcut
  clear hsl hlast hls cl HC HLZ bi aiI
  have hlb:ls.length≤65537:=by have:=HLE.out;omega
  by_cases Bf:1000<ls.length
  ·have fin:Hid (mY s=.error (5,0)):=by unfold Hid;rw [HE.out,if_pos Bf]
   have d3:decide ((1000:Int)<(ls.length:Int))=true:=ak (by omega)
   have d4:decide (1000<ls.length)=true:=ak Bf
   clear Bf
   obtain ⟨f0,f1,f2,f3⟩:=F1.out.cells
   go_wp2_with fail
   refine rZ rfl rfl rfl (F1.out.set _ _) ⟨K1.out.nJ (Nat.le_of_eq HF.out.symm) _ _,?_⟩
   rw [fin.out];exact rfl
  have d3:decide ((1000:Int)<(ls.length:Int))=false:=au (by omega)
  have d4:decide (1000<ls.length)=false:=au Bf
  have HE2:Hid (mY s=ku 0 [] (ls.drop 0)):=by unfold Hid;rw [HE.out,if_neg Bf,List.drop_zero]
  have HL1:Hid (ls.length≤1000):=Nat.not_lt.1 Bf
  obtain ⟨B,hB⟩:∃B,B=w1.heap.size:=⟨_,rfl⟩
  have HB:=ah hB
  have I0:Hid (Tf B F w1 [] (.slice none 0 0) w1):=⟨⟨[],aA,aP.nil _ _ _ _,by rw [gJ],fun b hb=>hb.elim⟩,Kept.refl _ _,hB⟩
  clear Bf hB HE
  go_wp2_with fail
  go_loopg [5,35] ls.length (fun f v x wr=>∃(j n2:Nat) (out:List aF) (a:Option Addr) (c:Nat),x=.int .i64 j∧v=.slice a n2 c∧j≤ls.length∧f=ls.length-j∧Hid (n2=out.length∧n2≤j)∧Hid (Tf B F w1 out (.slice a n2 c) wr)∧Hid (mY s=ku j out (ls.drop j)))
  case atStart=>exact ⟨0,0,[],none,0,rfl,rfl,Nat.zero_le _,rfl,⟨rfl,Nat.le_refl _⟩,I0,HE2⟩
  case round =>
   obtain ⟨j,n2,out,a,c,rfl,rfl,hj,rfl,hn2,I,hrd⟩:=hrel
   by_cases hlt:j<ls.length
   ·have e1:decide ((j:Int)<(ls.length:Int))=true:=ak (by omega)
    have e2:decide (j<ls.length)=true:=ak hlt
    have bj:(j:Int)<(ls.length:Int):=by omega
    have cj:wr.cell? ⟨g,j,none⟩=some (.string ls[j]):=(I.out.k.cell hgl (fun h=>h)).trans (HCL.out j hlt)
    have VB:Hid (mY s=match kH ls[j] with
      | .error er=>if er.1≠0 then .error (er.1,j) else ku (j+1) out (ls.drop (j+1))
      | .ok none=>ku (j+1) out (ls.drop (j+1))
      | .ok (some x)=>ku (j+1) (out++[x]) (ls.drop (j+1))):=by unfold Hid;rw [hrd.out,QL j out ls j hlt]
    have hjb:j<1000:=by have:=HL1.out;omega
    clear hrd
    cases hu:kH ls[j] with
    | error er =>
     go_upto_region 13 with (first
      | (go_at_call 24;(refine (Gh ls[j] (HNB.out j hlt) wr (by have:=HSZ.out j hlt;omega) (HM.out.kept I.out.k (fun h=>h)) (uw HG.out I.out.k)).mono ?_);intro e w3 h_;obtain ⟨k_,h_⟩:=h_;rw [hu] at h_;unfold Lj at h_;obtain rfl:=h_;have Ti:=ah k_;clear k_)
      | (refine iC rfl _ _ rfl w3.heap.size rfl nilA cZ rfl _ ((Below.heap_alloc _ _ _ (by simp)).trans (ay w3 _)) rfl ?_;intro w4 hB4 hk4;have S4:=ah hB4;have Y7:=ah hk4;have DU:=ah (Fl.kept (X:=(· = w3.heap.size)) (iy (by simp):Fl (w3.heap.size+1) 0 0 _) hk4 (by omega));obtain ⟨q0,q1,Hg,Lm⟩:=DU.out.cells;clear hB4 hk4))
     have Lp:=ah (DU.out.set (er.1) (er.2))
     have af2:w3.heap.size+1<w4.heap.size:=DU.out.lt
     have zK:Hid (Kept aA w3 ((w4.setCell ⟨w3.heap.size+1,0,none⟩ (.int .i64 (er.1))).setCell ⟨w3.heap.size+1,1,none⟩ (.int .i64 (er.2)))):=(((((Kept.refl aA w3).alloc _).alloc _).step Y7.out (fun y hy=>.inr (by omega))).step (((Kept.refl (· = w3.heap.size+1) _).setCell (p:=⟨w3.heap.size+1,0,none⟩) (.inl rfl) _).setCell (p:=⟨w3.heap.size+1,1,none⟩) (.inl rfl) _) (fun y hy=>.inr (by omega)))
     have S5:=ah (S4.out.kept (((Kept.refl (· = w3.heap.size+1) w4).setCell (p:=⟨w3.heap.size+1,0,none⟩) (.inl rfl) (.int .i64 (er.1))).setCell (p:=⟨w3.heap.size+1,1,none⟩) (.inl rfl) (.int .i64 (er.2))) (by omega))
     obtain ⟨w5,hw5⟩:∃w5,w5=(w4.setCell ⟨w3.heap.size+1,0,none⟩ (.int .i64 (er.1))).setCell ⟨w3.heap.size+1,1,none⟩ (.int .i64 (er.2)):=⟨_,rfl⟩
     rw [←hw5] at Lp zK S5
     rw [←hw5]
     have I5:=ah ((I.out.kept Ti.out).kept zK.out)
     clear hw5 q0 q1 Hg Lm
     obtain ⟨q0,q1,Hg,Lm⟩:=Lp.out.cells
     by_cases he:er.1=0
     ·have y1:(er.1 != 0)=false:=by simpa using he
      have y2:er.1=0:=he
      go_wp2_with fail
      go_roundg (ls.length-(j+1))
      case measure=>omega
      case rel=>exact ⟨j+1,n2,out,a,c,by go_num,rfl,by omega,rfl,⟨hn2.out.1,by have:=hn2.out.2;omega⟩,I5,by unfold Hid;rw [VB.out,hu];dsimp only;rw [if_neg (by simp [y2])]⟩
     ·have y1:(er.1 != 0)=true:=by simpa using he
      have fin:Hid (mY s=.error (er.1,j)):=by unfold Hid;rw [VB.out,hu];dsimp only;rw [if_pos he]
      have F5:=ah (F1.out.kept I5.out.k (fun h=>h))
      obtain ⟨f0,f1,f2,f3⟩:=F5.out.cells
      have KW:=ah (K1.out.trans I5.out.k)
      clear he
      go_wp2_with fail
      go_region
      all_goals go_wp2_with fail
      all_goals
       refine rZ rfl rfl rfl (Fl.kept (F5.out.set er.1 j) (Kept.refl aA _).drew (fun h=>h)) ⟨(KW.out.nJ (Nat.le_of_eq HF.out.symm) _ _).drew,?_⟩
       rw [fin.out];exact rfl
    | ok o =>
     cases o with
     | none =>
      go_upto_region 13 with (first
       | (go_at_call 24;(refine (Gh ls[j] (HNB.out j hlt) wr (by have:=HSZ.out j hlt;omega) (HM.out.kept I.out.k (fun h=>h)) (uw HG.out I.out.k)).mono ?_);intro e w3 h_;obtain ⟨k_,h_⟩:=h_;rw [hu] at h_;unfold Lj at h_;obtain rfl:=h_;have Ti:=ah k_;clear k_)
       | (refine iC rfl _ _ rfl w3.heap.size rfl nilA cZ rfl _ ((Below.heap_alloc _ _ _ (by simp)).trans (ay w3 _)) rfl ?_;intro w4 hB4 hk4;have S4:=ah hB4;have Y7:=ah hk4;have DU:=ah (Fl.kept (X:=(· = w3.heap.size)) (iy (by simp):Fl (w3.heap.size+1) 0 0 _) hk4 (by omega));obtain ⟨q0,q1,Hg,Lm⟩:=DU.out.cells;clear hB4 hk4))
      have Lp:=ah (DU.out.set (0) (0))
      have af2:w3.heap.size+1<w4.heap.size:=DU.out.lt
      have zK:Hid (Kept aA w3 ((w4.setCell ⟨w3.heap.size+1,0,none⟩ (.int .i64 (0))).setCell ⟨w3.heap.size+1,1,none⟩ (.int .i64 (0)))):=(((((Kept.refl aA w3).alloc _).alloc _).step Y7.out (fun y hy=>.inr (by omega))).step (((Kept.refl (· = w3.heap.size+1) _).setCell (p:=⟨w3.heap.size+1,0,none⟩) (.inl rfl) _).setCell (p:=⟨w3.heap.size+1,1,none⟩) (.inl rfl) _) (fun y hy=>.inr (by omega)))
      have S5:=ah (S4.out.kept (((Kept.refl (· = w3.heap.size+1) w4).setCell (p:=⟨w3.heap.size+1,0,none⟩) (.inl rfl) (.int .i64 (0))).setCell (p:=⟨w3.heap.size+1,1,none⟩) (.inl rfl) (.int .i64 (0))) (by omega))
      obtain ⟨w5,hw5⟩:∃w5,w5=(w4.setCell ⟨w3.heap.size+1,0,none⟩ (.int .i64 (0))).setCell ⟨w3.heap.size+1,1,none⟩ (.int .i64 (0)):=⟨_,rfl⟩
      rw [←hw5] at Lp zK S5
      rw [←hw5]
      have I5:=ah ((I.out.kept Ti.out).kept zK.out)
      clear hw5 q0 q1 Hg Lm
      obtain ⟨q0,q1,Hg,Lm⟩:=Lp.out.cells
      go_wp2_with fail
      go_roundg (ls.length-(j+1))
      case measure=>omega
      case rel=>exact ⟨j+1,n2,out,a,c,by go_num,rfl,by omega,rfl,⟨hn2.out.1,by have:=hn2.out.2;omega⟩,I5,by unfold Hid;rw [VB.out,hu]⟩
     | some st =>
      go_upto_region 13 with (first
       | (go_at_call 24;(refine (Gh ls[j] (HNB.out j hlt) wr (by have:=HSZ.out j hlt;omega) (HM.out.kept I.out.k (fun h=>h)) (uw HG.out I.out.k)).mono ?_);intro e w3 h_;obtain ⟨k_,h_⟩:=h_;rw [hu] at h_;unfold Lj at h_;obtain ⟨sa,SS,rfl,af4,af5,af6⟩:=h_;have af7:=af5.ok;clear af5;have aiJ:=ah af4;have aiK:=ah af7;have PY:=ah af6;clear af4 af7 af6;have Ti:=ah k_;clear k_)
       | (refine iC rfl _ _ rfl w3.heap.size rfl sa st rfl _ ((Below.heap_alloc _ _ _ (by simp)).trans (ay w3 _)) rfl ?_;intro w4 hB4 hk4;have S4:=ah hB4;have Y7:=ah hk4;have DU:=ah (Fl.kept (X:=(· = w3.heap.size)) (iy (by simp):Fl (w3.heap.size+1) 0 0 _) hk4 (by omega));obtain ⟨q0,q1,Hg,Lm⟩:=DU.out.cells;clear hB4 hk4))
      have Lp:=ah (DU.out.set (0) (0))
      have af2:w3.heap.size+1<w4.heap.size:=DU.out.lt
      have zK:Hid (Kept aA w3 ((w4.setCell ⟨w3.heap.size+1,0,none⟩ (.int .i64 (0))).setCell ⟨w3.heap.size+1,1,none⟩ (.int .i64 (0)))):=(((((Kept.refl aA w3).alloc _).alloc _).step Y7.out (fun y hy=>.inr (by omega))).step (((Kept.refl (· = w3.heap.size+1) _).setCell (p:=⟨w3.heap.size+1,0,none⟩) (.inl rfl) _).setCell (p:=⟨w3.heap.size+1,1,none⟩) (.inl rfl) _) (fun y hy=>.inr (by omega)))
      have S5:=ah (S4.out.kept (((Kept.refl (· = w3.heap.size+1) w4).setCell (p:=⟨w3.heap.size+1,0,none⟩) (.inl rfl) (.int .i64 (0))).setCell (p:=⟨w3.heap.size+1,1,none⟩) (.inl rfl) (.int .i64 (0))) (by omega))
      obtain ⟨w5,hw5⟩:∃w5,w5=(w4.setCell ⟨w3.heap.size+1,0,none⟩ (.int .i64 (0))).setCell ⟨w3.heap.size+1,1,none⟩ (.int .i64 (0)):=⟨_,rfl⟩
      rw [←hw5] at Lp zK S5
      rw [←hw5]
      have I5:=ah ((I.out.kept Ti.out).kept zK.out)
      clear hw5 q0 q1 Hg Lm
      obtain ⟨q0,q1,Hg,Lm⟩:=Lp.out.cells
      obtain ⟨cs,S1,hw1,hr1,hS1⟩:=I5.out.win
      have HW1:=ah hw1;have HR1:=ah hr1;have Rz:=ah hS1
      have hBw:B≤w5.heap.size:=by have:=I5.out.k.size;have:=I5.out.lt;omega
      have hn3:n2≤1000000:=by have:=hn2.out.2;have:=HL1.out;omega
      clear hw1 hr1 hS1
      go_wp2_with (first
       | (refine jS rfl _ rfl w3.heap.size 0 rfl sa st S5.out.hc0 ?_)
       | (refine Gj rfl _ rfl sa st rfl ?_;intro w6 YU hk6;have S6:=ah YU;have K6:=ah hk6;clear YU hk6)
       | (refine LK rfl _ _ rfl (.slice a n2 c) n2 cs rfl B (by have e_:=HW1.out.kept K6.out (fun _ _ h=>h);rw [←hn2.out.1] at e_;exact e_) w5.heap.size rfl sa st S6.out hn3 (by have:=K6.out.size;omega) ?_;intro a7 c7 w7 hW7 Td ho7;have W7:=ah hW7;have HG7:=ah Td;have HO7:=ah ho7;clear hW7 Td ho7))
      have hl5:B≤w5.heap.size:=hBw
      have K7:Kept (fun b=>(Value.slice a n2 c).ownBlock=some b) w6 w7:=(Kept.refl _ w6).grown HG7.out (fun b hb=>.inl hb)
      have hlow:∀b,(Value.slice a n2 c).ownBlock=some b→B≤b∧b<w5.heap.size:=HW1.out.lt
      have acB:∀b,(Value.slice a n2 c).ownBlock=some b→b<wr.heap.size:=by obtain ⟨_,_,hwr,_⟩:=I.out.win;exact fun b hb=>(hwr.lt b hb).2
      have hs6:=K6.out.size;have hs7:=K7.size;have ak7:=zK.out.size;have hs3:=Ti.out.size
      have hBr:B≤wr.heap.size:=by have:=I.out.k.size;have:=I.out.lt;omega
      have I7:Hid (Tf B F w1 (out++[st]) (.slice a7 (n2+1) c7) w7):=by
       refine ⟨⟨cs++bM sa st,fun b=>S1 b∨SS b,?_,?_,?_⟩,(I5.out.k.trans K6.out).step K7 (fun y hy=>.inr (by have:=hlow y hy;have:=I5.out.lt;omega)),I5.out.lt⟩
       ·rw [List.length_append,←hn2.out.1];exact W7.out
       ·refine gJ.append ?_ ?_
        ·have r1:=(HR1.out.kept K6.out (fun b hb=>⟨(Rz.out b hb).2.1,fun h=>h⟩)).kept K7 (fun b hb=>⟨by have:=(Rz.out b hb).2.1;omega,(Rz.out b hb).2.2⟩)
         exact gJ.more r1 (fun b h=>.inl h)
        ·refine gJ.one aiJ.out ?_
         have o1:=aiK.out.to (S':=SS) zK.out (fun b hb=>⟨(PY.out b hb).2,fun h=>h⟩) (fun _ h=>h)
         have o2:=o1.to (S':=SS) K6.out (fun b hb=>⟨by have:=(PY.out b hb).2;omega,fun h=>h⟩) (fun _ h=>h)
         exact o2.to K7 (fun b hb=>⟨by have:=(PY.out b hb).2;omega,fun e=>by have:=acB b e;have:=(PY.out b hb).1;omega⟩) (fun b h=>.inr h)
       ·intro b hb
        rcases hb with hb|hb
        ·have x:=Rz.out b hb
         refine ⟨x.1,by omega,?_⟩
         rcases HO7.out with h|h
         ·rw [h];exact x.2.2
         ·rw [h];intro h';have:=Option.some.inj h';omega
        ·have x:=PY.out b hb
         refine ⟨by omega,by omega,?_⟩
         rcases HO7.out with h|h
         ·rw [h];intro h';have:=acB b h';omega
         ·rw [h];intro h';have:=Option.some.inj h';omega
      go_roundg (ls.length-(j+1))
      case measure=>omega
      case rel=>exact ⟨j+1,n2+1,out++[st],a7,c7,by go_num,rfl,by omega,rfl,⟨by rw [List.length_append,←hn2.out.1];rfl,by have:=hn2.out.2;omega⟩,I7,by unfold Hid;rw [VB.out,hu]⟩
   ·obtain rfl:j=ls.length:=by omega
    have e1:decide ((ls.length:Int)<(ls.length:Int))=false:=au (by omega)
    have e2:decide (ls.length<ls.length)=false:=au (by omega)
    have fin:Hid (mY s=.ok out):=by unfold Hid;rw [hrd.out,List.drop_length];rfl
    obtain ⟨cs,S,hw1,hw2,hw3⟩:=I.out.win
    have hcl:(a=none∧n2=0∧c=0)∨(∃g o,a=some ⟨g,o,none⟩∧n2≤c):=by
     rcases hw1.cells with ⟨hv,hn⟩|⟨g,o,c',hv,_,_,hcap,_⟩
     ·simp only [Value.slice.injEq] at hv
      exact .inl ⟨hv.1,hv.2.1,hv.2.2⟩
     ·simp only [Value.slice.injEq] at hv
      exact .inr ⟨g,o,hv.1,by have:=hn2.out.1;omega⟩
    have aiL:=ah (abv a n2 c wr hcl)
    have HW1:=ah hw1;have HW2:=ah hw2;have HW3:=ah hw3
    have F5:=ah (F1.out.kept I.out.k (fun h=>h))
    have KW:=ah (K1.out.trans I.out.k)
    obtain ⟨f0,f1,f2,f3⟩:=F5.out.cells
    clear hw1 hw2 hw3 hcl hrd
    go_wp2_with (go_at_call 25;(refine aiL.out.mono ?_);rintro e w9 ⟨rfl,aH⟩;obtain rfl:=aH)
    obtain ⟨a5,c5,hv5,hst⟩:=aP.sts (S':=fun b=>S b∨(Value.slice a n2 c).ownBlock=some b) HW1.out HW2.out (fun b hb=>⟨(HW3.out b hb).2.1,fun h=>h⟩) (fun b h=>.inl h) (fun g h=>.inr h)
    simp only [Value.slice.injEq] at hv5
    obtain ⟨rfl,yF,rfl⟩:=hv5
    have hb9:B=w1.heap.size:=I.out.lt
    have hFb:w.heap.size+1≤B:=by have:=K1.out.size;have:=F1.out.lt;have:=HF.out;omega
    have hlow:∀b,(S b∨(Value.slice a n2 c).ownBlock=some b)→B≤b∧b<w9.heap.size:=fun b hb=>by
     rcases hb with hb|hb
     ·exact ⟨(HW3.out b hb).1,(HW3.out b hb).2.1⟩
     ·exact HW1.out.lt b hb
    have kF:Kept (· = F) w9 ((w9.setCell ⟨F,0,none⟩ (.int .i64 0)).setCell ⟨F,1,none⟩ (.int .i64 0)):=((Kept.refl (· = F) _).setCell (p:=⟨F,0,none⟩) (.inl rfl) _).setCell (p:=⟨F,1,none⟩) (.inl rfl) _
    refine rZ rfl rfl rfl (F5.out.set 0 0) ⟨KW.out.nJ (Nat.le_of_eq HF.out.symm) _ _,?_⟩
    rw [fin.out]
    refine ⟨a,n2,_,by rw [←yF];rfl,hst.to kF (fun b hb=>⟨(hlow b hb).2,by have:=hlow b hb;have:=HF.out;omega⟩) (fun _ h=>h),fun b hb=>⟨by have:=hlow b hb;omega,Nat.lt_of_lt_of_le (hlow b hb).2 kF.size⟩⟩
end Go.Proofs.YtodebjhalipefaaGreatDoor
