/-  -/
import Derived.Test.YtgoijmpahffnhaaGreatDoorLr11
import Derived.Test.YtgoijmpahffnhaaGreatDoorLc20
import Derived.Test.YtgoijmpahffnhaaGreatDoorLc14
import Derived.Deep.OwnRows
import Derived.Carry
import Derived.Test.YtgoijmpahffnhaaGreatDoorPg3
import Derived.Test.YtgoijmpahffnhaaGreatDoorLc17
namespace Go.Proofs.YtgoijmpahffnhaaGreatDoor
set_option linter.all false
open Go.RowKit
set_option maxRecDepth 100000
set_option maxHeartbeats 8000000
def acY (F:dQ) (ov:Value) (S:aY) (w:World) (e:Ending) (w':World):Prop:=∃(a3 a4:Option Addr) (n3 c3 n4 c4:Nat) (hv:Value),e=.returned (.tuple #[.agg #[ov,.int .i64 S.how,.int .i64 S.steps,.slice a3 n3 c3,.slice a4 n4 c4],hv])∧Kept aB w w'
theorem Va (F:dQ) (ov:Value) (S:aY) (w:World) (h:bg F ov S w) (ok:bM S):Calls Tryz.prog 28 #[.pointer (some ⟨F.W,0,none⟩)] w (acY F ov S w):=by
 obtain ⟨a0,c0,hov⟩:=h.out.shape
 subst hov
 obtain ⟨w1,hw1⟩:∃w1,w1=w.alloc (.cells #[.slice none 0 0,.int .i64 0,.int .i64 0,.slice none 0 0,.slice none 0 0] 32):=⟨_,rfl⟩
 obtain ⟨B,hB⟩:∃B,B=w.heap.size:=⟨_,rfl⟩
 have k1:Kept aB w w1:=by rw [hw1];exact (Kept.refl aB w).alloc _
 have Yy:Hid (dO B 32 [.slice none 0 0,.int .i64 0,.int .i64 0,.slice none 0 0,.slice none 0 0] w1):=by rw [hw1,hB];exact dO.new w _ _
 have h1:=h.quiet k1
 obtain ⟨u0,u2,u3,u4,uf⟩:=h1.qE
 have HR:Hid (∀wx,Kept (· = B) w1 wx→bg F (.slice a0 S.output.length c0) S wx):=fun wx hk=>h1.kept hk (fun b hb=>by
  have hb:b=B:=hb
  subst hb
  exact ⟨by have:=h.ql.low;omega,fun e=>by have:=h.run.lt;omega,h.mine (by omega)⟩)
 have HS:Hid (∀wx,Kept (· = B) w1 wx→Calls Tryz.prog 39 #[.pointer (some ⟨F.O,0,none⟩),.int .i64 S.steps] wx (fun e w'=>∃(a3 a4:Option Addr) (n3 c3 n4 c4:Nat),e=.returned (.agg #[.slice a0 S.output.length c0,.int .i64 S.how,.int .i64 S.steps,.slice a3 n3 c3,.slice a4 n4 c4])∧Kept aB wx w')):=fun wx hk =>
  Yx F _ S wx (HR.out wx hk) ok
 have HW1:=ah hw1;have HB:=ah hB;have K1:=ah k1
 clear h h1 k1 hw1 hB uf u0 u2 u3 u4
 go_enter Tryz.func28, Tryz.ntmps28
 go_upto_region 1 with fail
 rw [←HW1.out,←HB.out]
 clear HW1
 obtain ⟨Sp,hSp⟩:∃Sp:Nat→Value→World→Prop,Sp=(fun i v wx=>match i with
  | 0=>v=.pointer (some ⟨F.W,0,none⟩)
  | 1=>v=.pointer (some ⟨F.W,0,none⟩)
  | 2=>v=.pointer (some ⟨F.W,0,none⟩)
  | 3=>v=.pointer (some ⟨F.O,0,none⟩)
  | 4=>v=.pointer (some ⟨F.W,0,none⟩)
  | 5=>v=.pointer (some ⟨F.W,0,none⟩)
  | 6=>v=.pointer (some ⟨F.W,2,none⟩)
  | 7=>v=.int .i64 S.steps
  | 8=>∃(a3 a4:Option Addr) (n3 c3 n4 c4:Nat),v=.agg #[.slice a0 S.output.length c0,.int .i64 S.how,.int .i64 S.steps,.slice a3 n3 c3,.slice a4 n4 c4]
  | 9=>v=.pointer (some ⟨F.W,0,none⟩)
  | 10=>v=.pointer (some ⟨F.W,0,none⟩)
  | 11=>v=.pointer (some ⟨F.W,4,none⟩)
  | 12=>v=.slice (some ⟨F.H,0,none⟩) F.l.length F.l.length
  | 13=>True
  | _=>v=.slice (some ⟨F.H,0,none⟩) F.l.length F.l.length):=⟨_,rfl⟩
 obtain ⟨J,hJd⟩:∃J:(Nat→Bool)→(Nat→Value)→World→Prop,J=(fun l f wx=>(l 13=false→dO B 32 [.slice none 0 0,.int .i64 0,.int .i64 0,.slice none 0 0,.slice none 0 0] wx)∧(l 13=true→∃(a3 a4:Option Addr) (n3 c3 n4 c4:Nat),dO B 32 [.slice a0 S.output.length c0,.int .i64 S.how,.int .i64 S.steps,.slice a3 n3 c3,.slice a4 n4 c4] wx)):=⟨_,rfl⟩
 refine jA (· = B) J Sp [4,5,6,7,8,9,10,11,12,13,14,15,16,3] (by kernel_rfl) (by kernel_rfl) (by kernel_rfl) (fun i v w w' h hk=>by subst hSp;exact h) ?_ ?_ ?_ ?_
 ·intro i o hi lq x wy hI hJ hlf haft
  rw [hJd] at hJ
  have JK:=hI.kept
  have s0:x.eval (.tmp 0)=.pointer (some ⟨F.W,0,none⟩):=hI.keep 0 _ rfl (by kernel_rfl)
  have s2:x.eval (.tmp 2)=.pointer (some ⟨B,0,none⟩):=hI.keep 2 _ rfl (by kernel_rfl)
  obtain ⟨u0,u2,_,u4,_⟩:=(HR.out wy JK).qE
  have hjn:∀(l':Nat→Bool),(∀j,l' j=true↔j=i∨lq j=true)→i≠13→∀f,J l' f wy:=by
   intro l' hl hne f
   have e:=upd_ne hl 13 (Ne.symm hne)
   rw [hJd];show (l' 13=false→_)∧(l' 13=true→_)
   rw [e];exact hJ
  rcases i with _|_|_|_|_|_|_|_|_|_|_|_|_|_|_|i
  all_goals (simp only [List.getElem?_toArray,List.getElem?_cons_zero,List.getElem?_cons_succ,List.getElem?_nil,Option.some.injEq,reduceCtorEq] at hi)
  all_goals subst hi
  ·refine aU rfl ?_
   refine aO (v:=.pointer (some ⟨F.W,0,none⟩)) ?_ (by subst hSp;exact rfl) (fun l' hl=>hjn l' hl (by decide) _)
   simp only [execOp,resolve,invoke,List.map_toArray,List.map_cons,List.map_nil,s0];go_simp
  ·refine aU rfl ?_
   have d4:x.eval (.tmp 4)=.pointer (some ⟨F.W,0,none⟩):=by have h_:=hI.dep haft 0 4 rfl rfl rfl;rw [hSp] at h_;exact h_
   refine aO (v:=.pointer (some ⟨F.W,0,none⟩)) ?_ (by subst hSp;exact rfl) (fun l' hl=>hjn l' hl (by decide) _)
   simp only [execOp,resolve,invoke,List.map_toArray,List.map_cons,List.map_nil,d4];go_simp
  ·refine aU rfl ?_
   have d5:x.eval (.tmp 5)=.pointer (some ⟨F.W,0,none⟩):=by have h_:=hI.dep haft 1 5 rfl rfl rfl;rw [hSp] at h_;exact h_
   refine aO (v:=.pointer (some ⟨F.W,0,none⟩)) ?_ (by subst hSp;exact rfl) (fun l' hl=>hjn l' hl (by decide) _)
   simp only [execOp,resolve,invoke,List.map_toArray,List.map_cons,List.map_nil,d5];go_simp
  ·refine aU rfl ?_
   have d6:x.eval (.tmp 6)=.pointer (some ⟨F.W,0,none⟩):=by have h_:=hI.dep haft 2 6 rfl rfl rfl;rw [hSp] at h_;exact h_
   refine aO (v:=.pointer (some ⟨F.O,0,none⟩)) ?_ (by subst hSp;exact rfl) (fun l' hl=>hjn l' hl (by decide) _)
   simp only [execOp,resolve,invoke,List.map_toArray,List.map_cons,List.map_nil,d6];go_simp
  ·refine aU rfl ?_
   refine aO (v:=.pointer (some ⟨F.W,0,none⟩)) ?_ (by subst hSp;exact rfl) (fun l' hl=>hjn l' hl (by decide) _)
   simp only [execOp,resolve,invoke,List.map_toArray,List.map_cons,List.map_nil,s0];go_simp
  ·refine aU rfl ?_
   have d8:x.eval (.tmp 8)=.pointer (some ⟨F.W,0,none⟩):=by have h_:=hI.dep haft 4 8 rfl rfl rfl;rw [hSp] at h_;exact h_
   refine aO (v:=.pointer (some ⟨F.W,0,none⟩)) ?_ (by subst hSp;exact rfl) (fun l' hl=>hjn l' hl (by decide) _)
   simp only [execOp,resolve,invoke,List.map_toArray,List.map_cons,List.map_nil,d8];go_simp
  ·refine aU rfl ?_
   have d9:x.eval (.tmp 9)=.pointer (some ⟨F.W,0,none⟩):=by have h_:=hI.dep haft 5 9 rfl rfl rfl;rw [hSp] at h_;exact h_
   refine aO (v:=.pointer (some ⟨F.W,2,none⟩)) ?_ (by subst hSp;exact rfl) (fun l' hl=>hjn l' hl (by decide) _)
   simp only [execOp,resolve,invoke,List.map_toArray,List.map_cons,List.map_nil,d9];go_simp
  ·refine aU rfl ?_
   have d10:x.eval (.tmp 10)=.pointer (some ⟨F.W,2,none⟩):=by have h_:=hI.dep haft 6 10 rfl rfl rfl;rw [hSp] at h_;exact h_
   refine aO (v:=.int .i64 S.steps) ?_ (by subst hSp;exact rfl) (fun l' hl=>hjn l' hl (by decide) _)
   simp only [execOp,resolve,invoke,List.map_toArray,List.map_cons,List.map_nil,d10];go_simp
  ·refine aU rfl ?_
   have d7:x.eval (.tmp 7)=.pointer (some ⟨F.O,0,none⟩):=by have h_:=hI.dep haft 3 7 rfl rfl rfl;rw [hSp] at h_;exact h_
   have d11:x.eval (.tmp 11)=.int .i64 S.steps:=by have h_:=hI.dep haft 7 11 rfl rfl rfl;rw [hSp] at h_;exact h_
   refine Aq (f:=39) (args:=#[.pointer (some ⟨F.O,0,none⟩),.int .i64 S.steps]) (by simp only [execOp,resolve,invoke,List.map_toArray,List.map_cons,List.map_nil,d7,d11];go_simp) ((HS.out _ JK).mono ?_)
   rintro e w4 ⟨a3,a4,n3,c3,n4,c4,rfl,k_⟩
   refine ⟨_,rfl,by subst hSp;exact ⟨a3,a4,n3,c3,n4,c4,rfl⟩,k_.more (fun _ h=>h.elim),fun l' hl=>?_⟩
   rw [hJd];show (l' 13=false→_)∧(l' 13=true→_)
   rw [upd_ne hl 13 (by decide)]
   exact ⟨fun e=>(hJ.1 e).kept k_ (fun h=>h),fun e=>by obtain ⟨b3,b4,m3,d3,m4,d4,hb⟩:=hJ.2 e;exact ⟨b3,b4,m3,d3,m4,d4,hb.kept k_ (fun h=>h)⟩⟩
  ·refine aU rfl ?_
   refine aO (v:=.pointer (some ⟨F.W,0,none⟩)) ?_ (by subst hSp;exact rfl) (fun l' hl=>hjn l' hl (by decide) _)
   simp only [execOp,resolve,invoke,List.map_toArray,List.map_cons,List.map_nil,s0];go_simp
  ·refine aU rfl ?_
   have d13:x.eval (.tmp 13)=.pointer (some ⟨F.W,0,none⟩):=by have h_:=hI.dep haft 9 13 rfl rfl rfl;rw [hSp] at h_;exact h_
   refine aO (v:=.pointer (some ⟨F.W,0,none⟩)) ?_ (by subst hSp;exact rfl) (fun l' hl=>hjn l' hl (by decide) _)
   simp only [execOp,resolve,invoke,List.map_toArray,List.map_cons,List.map_nil,d13];go_simp
  ·refine aU rfl ?_
   have Vb:x.eval (.tmp 14)=.pointer (some ⟨F.W,0,none⟩):=by have h_:=hI.dep haft 10 14 rfl rfl rfl;rw [hSp] at h_;exact h_
   refine aO (v:=.pointer (some ⟨F.W,4,none⟩)) ?_ (by subst hSp;exact rfl) (fun l' hl=>hjn l' hl (by decide) _)
   simp only [execOp,resolve,invoke,List.map_toArray,List.map_cons,List.map_nil,Vb];go_simp
  ·refine aU rfl ?_
   have d15:x.eval (.tmp 15)=.pointer (some ⟨F.W,4,none⟩):=by have h_:=hI.dep haft 11 15 rfl rfl rfl;rw [hSp] at h_;exact h_
   refine aO (v:=.slice (some ⟨F.H,0,none⟩) F.l.length F.l.length) ?_ (by subst hSp;exact rfl) (fun l' hl=>hjn l' hl (by decide) _)
   simp only [execOp,resolve,invoke,List.map_toArray,List.map_cons,List.map_nil,d15];go_simp
  ·refine aU rfl ?_
   obtain ⟨a3,a4,n3,c3,n4,c4,d12⟩:∃(a3 a4:Option Addr) (n3 c3 n4 c4:Nat),x.eval (.tmp 12)=.agg #[.slice a0 S.output.length c0,.int .i64 S.how,.int .i64 S.steps,.slice a3 n3 c3,.slice a4 n4 c4]:=by have h_:=hI.dep haft 8 12 rfl rfl rfl;rw [hSp] at h_;exact h_
   have hz:=hJ.1 hlf
   have x0:=hz.cell (i:=0) rfl;have y0:=hz.free 0
   have x1:=hz.cell (i:=1) rfl;have y1:=hz.free 1
   have x2:=hz.cell (i:=2) rfl;have y2:=hz.free 2
   have x3:=hz.cell (i:=3) rfl;have y3:=hz.free 3
   have x4:=hz.cell (i:=4) rfl;have y4:=hz.free 4
   refine iU (w':=((((wy.setCell ⟨B,0,none⟩ (.slice a0 S.output.length c0)).setCell ⟨B,1,none⟩ (.int .i64 S.how)).setCell ⟨B,2,none⟩ (.int .i64 S.steps)).setCell ⟨B,3,none⟩ (.slice a3 n3 c3)).setCell ⟨B,4,none⟩ (.slice a4 n4 c4)) ?_ rfl (((((((Kept.refl (· = B) wy).setCell (p:=⟨B,0,none⟩) (.inl rfl) _).setCell (p:=⟨B,1,none⟩) (.inl rfl) _).setCell (p:=⟨B,2,none⟩) (.inl rfl) _).setCell (p:=⟨B,3,none⟩) (.inl rfl) _).setCell (p:=⟨B,4,none⟩) (.inl rfl) _)) (fun l' hl=>?_)
   ·simp only [execOp,resolve,invoke,List.map_toArray,List.map_cons,List.map_nil,s2,d12];go_simp
   ·rw [hJd];exact ⟨fun e=>(by rw [iV hl] at e;cases e),fun _=>⟨a3,a4,n3,c3,n4,c4,((((hz.set 0 _).set 1 _).set 2 _).set 3 _).set 4 _⟩⟩
  ·refine aU rfl ?_
   have d16:x.eval (.tmp 16)=.slice (some ⟨F.H,0,none⟩) F.l.length F.l.length:=by have h_:=hI.dep haft 12 16 rfl rfl rfl;rw [hSp] at h_;exact h_
   refine aO (v:=.slice (some ⟨F.H,0,none⟩) F.l.length F.l.length) ?_ (by subst hSp;exact rfl) (fun l' hl=>hjn l' hl (by decide) _)
   simp only [execOp,resolve,invoke,List.map_toArray,List.map_cons,List.map_nil,d16];go_simp
 ·intro lq hl
  rw [hJd];exact ⟨fun _=>Yy.out.kept (Kept.refl aB _).drew (fun h=>h),fun e=>by rw [hl 13 (by decide)] at e;cases e⟩
 ·intro lq l' f wx hl h
  rw [hJd] at h⊢;dsimp only at h⊢;rw [←hl 13 (by decide)];exact h
 ·intro f wy hK hS hJ
  rw [hJd] at hJ
  obtain ⟨a3,a4,n3,c3,n4,c4,hb⟩:=hJ.2 rfl
  simp only [iI,List.foldl_cons,List.foldl_nil,List.setIfInBounds_toArray,List.set_cons_zero,List.set_cons_succ]
  have e3:f 3=.slice (some ⟨F.H,0,none⟩) F.l.length F.l.length:=by have h_:=hS 14 _ _ rfl rfl;rw [hSp] at h_;exact h_
  rw [e3]
  go_wp2_with fail
  have z0:=hb.cell (i:=0) rfl
  have z1:=hb.cell (i:=1) rfl
  have z2:=hb.cell (i:=2) rfl
  have z3:=hb.cell (i:=3) rfl
  have z4:=hb.cell (i:=4) rfl
  refine bodyPost_ret (v:=.tuple #[.agg #[.slice a0 S.output.length c0,.int .i64 S.how,.int .i64 S.steps,.slice a3 n3 c3,.slice a4 n4 c4],.slice (some ⟨F.H,0,none⟩) F.l.length F.l.length]) (by simp [results,Tryz.results28,go_sem,z0,z1,z2,z3,z4]) rfl ⟨a3,a4,n3,c3,n4,c4,_,rfl,K1.out.step hK (fun y hy=>.inr (by have:y=B:=hy;rw [this,HB.out];exact Nat.le_refl _))⟩
end Go.Proofs.YtgoijmpahffnhaaGreatDoor

namespace Go.Proofs.YtgoijmpahffnhaaGreatDoor
set_option linter.all false
open Go.RowKit
set_option maxRecDepth 100000
set_option maxHeartbeats 2000000
theorem YA:(Tryz.prog.info? 3).map (fun i=>(i.zero,i.size,i.bytes))=some (some (.int .i64 0),1,8):=by kernel_rfl
def vw (B:Nat) (ia:Option Addr) (inn ic O:Nat) (w:World):Prop :=
 ∃V I,B≤V∧B≤I∧B≤O∧V≠I∧dO O 97 [.map (some V),.map (some I),.int .i64 0,.int .i64 0,.slice none 0 0,.slice ia inn ic,.int .i64 0] w∧w.heap[V]?=some (.map #[] 0)∧w.heap[I]?=some (.map #[] 0)
theorem vw.kept {B:Nat} {ia:Option Addr} {inn ic O:Nat} {w w':World} (h:vw B ia inn ic O w) (hk:Kept aB w w'):vw B ia inn ic O w':=by
 obtain ⟨V,I,h1,h2,h3,h4,h5,h6,h7⟩:=h
 exact ⟨V,I,h1,h2,h3,h4,h5.kept hk (fun h=>h),(hk.block V (Array.getElem?_eq_some_iff.1 h6).1 (fun h=>h)).trans h6,(hk.block I (Array.getElem?_eq_some_iff.1 h7).1 (fun h=>h)).trans h7⟩
theorem vw.low {B B':Nat} {ia:Option Addr} {inn ic O:Nat} {w:World} (h:vw B' ia inn ic O w) (hb:B≤B'):vw B ia inn ic O w:=by
 obtain ⟨V,I,h1,h2,h3,h4⟩:=h
 exact ⟨V,I,by omega,by omega,by omega,h4⟩
def uF (B n H:Nat) (w:World):Prop:=B≤H∧dO H 3 (List.replicate n (.int .i64 0)) w
theorem uF.kept {B n H:Nat} {w w':World} (h:uF B n H w) (hk:Kept aB w w'):uF B n H w':=⟨h.1,h.2.kept hk (fun h=>h)⟩
theorem uF.low {B B' n H:Nat} {w:World} (h:uF B' n H w) (hb:B≤B'):uF B n H w:=⟨Nat.le_trans hb h.1,h.2⟩
theorem uF.new (w:World) (n:Nat):uF w.heap.size n w.heap.size (w.alloc (.cells (madeCells #[.int .i64 0] n) 3)):=by
 refine ⟨Nat.le_refl _,?_⟩
 have e:madeCells #[Value.int .i64 0] n=(List.replicate n (Value.int .i64 0)).toArray:=by
  rw [←toList_madeCells_one (Value.int .i64 0) n]
 rw [e]
 exact dO.new w _ _
def Ar (B:Nat) (ia:Option Addr) (inn ic n lim W:Nat) (w:World):Prop :=
 B≤W∧∃O Ru H,dO W 90 [.pointer (some ⟨O,0,none⟩),.map (some Ru),.int .i64 0,.int .i64 lim,.slice (some ⟨H,0,none⟩) n n] w∧vw B ia inn ic O w∧uF B n H w
theorem Ar.kept {B:Nat} {ia:Option Addr} {inn ic n lim W:Nat} {w w':World} (h:Ar B ia inn ic n lim W w) (hk:Kept aB w w'):Ar B ia inn ic n lim W w':=by
 obtain ⟨h0,O,Ru,H,h1,h2,h3⟩:=h
 exact ⟨h0,O,Ru,H,h1.kept hk (fun h=>h),h2.kept hk,h3.kept hk⟩
theorem Na (ia:Option Addr) (inn ic:Nat) (w:World):Calls Tryz.prog 36 #[.slice ia inn ic] w (fun e w'=>e=.returned (.pointer (some ⟨w.heap.size+2,0,none⟩))∧vw w.heap.size ia inn ic (w.heap.size+2) w'∧Kept aB w w'):=by
 obtain ⟨w1,hw1⟩:∃w1,w1=w.alloc (.map #[] 0):=⟨_,rfl⟩
 obtain ⟨w2,hw2⟩:∃w2,w2=w1.alloc (.map #[] 0):=⟨_,rfl⟩
 have z1:w1.heap.size=w.heap.size+1:=by rw [hw1];simp
 have z2:w2.heap.size=w.heap.size+2:=by rw [hw2];simp [z1]
 have k1:Kept aB w w1:=by rw [hw1];exact (Kept.refl aB w).alloc _
 have k2:Kept aB w1 w2:=by rw [hw2];exact (Kept.refl aB w1).alloc _
 have m1:w1.heap[w.heap.size]?=some (.map #[] 0):=by rw [hw1];exact ay w _
 have m2:w2.heap[w.heap.size+1]?=some (.map #[] 0):=by rw [hw2,←z1];exact ay w1 _
 have m1':w2.heap[w.heap.size]?=some (.map #[] 0):=(k2.block _ (by omega) (fun h=>h)).trans m1
 have hb:=dO.new w2 97 [.map (some w.heap.size),.map (some (w.heap.size+1)),.int .i64 0,.int .i64 0,.slice none 0 0,.slice ia inn ic,.int .i64 0]
 rw [z2] at hb
 have k3:=(Kept.refl aB w2).alloc (.cells [Value.map (some w.heap.size),.map (some (w.heap.size+1)),.int .i64 0,.int .i64 0,.slice none 0 0,.slice ia inn ic,.int .i64 0].toArray 97)
 have HN:Hid (vw w.heap.size ia inn ic (w.heap.size+2) (w2.alloc (.cells #[.map (some w.heap.size),.map (some (w.heap.size+1)),.int .i64 0,.int .i64 0,.slice none 0 0,.slice ia inn ic,.int .i64 0] 97))∧Kept aB w (w2.alloc (.cells #[.map (some w.heap.size),.map (some (w.heap.size+1)),.int .i64 0,.int .i64 0,.slice none 0 0,.slice ia inn ic,.int .i64 0] 97))) :=
  ⟨⟨w.heap.size,w.heap.size+1,Nat.le_refl _,by omega,by omega,by omega,hb,(k3.block _ (by omega) (fun h=>h)).trans m1',(k3.block _ (by omega) (fun h=>h)).trans m2⟩,(k1.trans k2).trans k3⟩
 rw [hw2,hw1] at HN
 clear hw1 hw2 z1 z2 k1 k2 m1 m2 m1' hb k3
 have hmm :=@run_makeMap Tryz.prog
 go_enter Tryz.func36, Tryz.ntmps36
 go_wp2_with fail
 go_ret
 exact ⟨rfl,HN.out⟩
theorem Nb (al ia:Option Addr) (n cl inn ic lim:Nat) (w:World) (hn:n≤1000000):Calls Tryz.prog 26 #[.slice al n cl,.slice ia inn ic,.int .i64 lim] w (fun e w'=>∃W,e=.returned (.pointer (some ⟨W,0,none⟩))∧Ar w.heap.size ia inn ic n lim W w'∧Kept aB w w'):=by
 go_enter Tryz.func26, Tryz.ntmps26
 go_upto_region 1 with fail
 obtain ⟨Sp,hSp⟩:∃Sp:Nat→Value→World→Prop,Sp=(fun i v wx=>match i with
  | 0=>v=.slice ia inn ic
  | 1=>∃O,v=.pointer (some ⟨O,0,none⟩)∧vw w.heap.size ia inn ic O wx
  | 2=>∃Ru,v=.map (some Ru)
  | 3=>v=.int .i64 lim
  | 4=>v=.slice al n cl
  | 5=>v=.int .i64 n
  | 6=>∃H,v=.slice (some ⟨H,0,none⟩) n n∧uF w.heap.size n H wx
  | 7=>∃O Ru H,v=.agg #[.pointer (some ⟨O,0,none⟩),.map (some Ru),.int .i64 0,.int .i64 lim,.slice (some ⟨H,0,none⟩) n n]∧vw w.heap.size ia inn ic O wx∧uF w.heap.size n H wx
  | 8=>∃W,v=.pointer (some ⟨W,0,none⟩)∧Ar w.heap.size ia inn ic n lim W wx
  | _=>∃W,v=.pointer (some ⟨W,0,none⟩)∧Ar w.heap.size ia inn ic n lim W wx):=⟨_,rfl⟩
 obtain ⟨J,HJ⟩:∃J:(Nat→Bool)→(Nat→Value)→World→Prop,∀l f w,J l f w:=⟨fun _ _ _=>True,fun _ _ _=>trivial⟩
 have aff:∀i v w w',Sp i v w→Kept aB w w'→Sp i v w':=by
  intro i v w w' h hk
  subst hSp
  rcases i with _|_|_|_|_|_|_|_|_|i
  ·exact h
  ·obtain ⟨O,e,s⟩:=h;exact ⟨O,e,s.kept hk⟩
  ·exact h
  ·exact h
  ·exact h
  ·exact h
  ·obtain ⟨H,e,s⟩:=h;exact ⟨H,e,s.kept hk⟩
  ·obtain ⟨O,Ru,H,e,s,t⟩:=h;exact ⟨O,Ru,H,e,s.kept hk,t.kept hk⟩
  ·obtain ⟨W,e,s⟩:=h;exact ⟨W,e,s.kept hk⟩
  ·obtain ⟨W,e,s⟩:=h;exact ⟨W,e,s.kept hk⟩
 refine jA aB J Sp [7,8,9,10,11,12,13,14,15,6] (by kernel_rfl) (by kernel_rfl) (by kernel_rfl) aff ?_ (fun _ _=>HJ _ _ _) (fun _ _ _ _ _ _=>HJ _ _ _) ?_
 ·intro i o hi lq x wy hI _ hlf haft
  have JK:=hI.kept.size
  have s0:x.eval (.tmp 0)=.slice al n cl:=hI.keep 0 _ rfl (by kernel_rfl)
  have s1:x.eval (.tmp 1)=.slice ia inn ic:=hI.keep 1 _ rfl (by kernel_rfl)
  have s2:x.eval (.tmp 2)=.int .i64 lim:=hI.keep 2 _ rfl (by kernel_rfl)
  rcases i with _|_|_|_|_|_|_|_|_|_|i
  all_goals (simp only [List.getElem?_toArray,List.getElem?_cons_zero,List.getElem?_cons_succ,List.getElem?_nil,Option.some.injEq,reduceCtorEq] at hi)
  all_goals subst hi
  ·refine aU rfl ?_
   refine aO (v:=.slice ia inn ic) ?_ (by subst hSp;exact rfl) (fun _ _=>HJ _ _ _)
   simp only [execOp,resolve,invoke,List.map_toArray,List.map_cons,List.map_nil,s1];go_simp
  ·refine aU rfl ?_
   have d7:x.eval (.tmp 7)=.slice ia inn ic:=by have h_:=hI.dep haft 0 7 rfl rfl rfl;rw [hSp] at h_;exact h_
   refine Aq (f:=36) (args:=#[.slice ia inn ic]) (by simp only [execOp,resolve,invoke,List.map_toArray,List.map_cons,List.map_nil,d7];go_simp) ((Na ia inn ic wy).mono ?_)
   rintro e w4 ⟨rfl,hs_,k_⟩
   exact ⟨_,rfl,by subst hSp;exact ⟨_,rfl,hs_.low JK⟩,k_,fun _ _=>HJ _ _ _⟩
  ·refine aU rfl ?_
   refine zS (w':=wy.alloc (.map #[] 0)) (v:=.map (some wy.heap.size)) ?_ (by subst hSp;exact ⟨_,rfl⟩) ((Kept.refl aB wy).alloc _) (fun _ _=>HJ _ _ _)
   simp only [execOp,resolve,invoke,List.map_toArray,List.map_cons,List.map_nil,Sem.run_bind,run_makeMap,Result.andThen_ok,Sem.run_pure,Option.map_none];try rfl
  ·refine aU rfl ?_
   refine aO (v:=.int .i64 lim) ?_ (by subst hSp;exact rfl) (fun _ _=>HJ _ _ _)
   simp only [execOp,resolve,invoke,List.map_toArray,List.map_cons,List.map_nil,s2];go_simp
  ·refine aU rfl ?_
   refine aO (v:=.slice al n cl) ?_ (by subst hSp;exact rfl) (fun _ _=>HJ _ _ _)
   simp only [execOp,resolve,invoke,List.map_toArray,List.map_cons,List.map_nil,s0];go_simp
  ·refine aU rfl ?_
   have d11:x.eval (.tmp 11)=.slice al n cl:=by have h_:=hI.dep haft 4 11 rfl rfl rfl;rw [hSp] at h_;exact h_
   refine aO (v:=.int .i64 n) ?_ (by subst hSp;exact rfl) (fun _ _=>HJ _ _ _)
   simp only [execOp,resolve,invoke,List.map_toArray,List.map_cons,List.map_nil,d11];go_simp
  ·refine aU rfl ?_
   have d12:x.eval (.tmp 12)=.int .i64 n:=by have h_:=hI.dep haft 5 12 rfl rfl rfl;rw [hSp] at h_;exact h_
   have hmk:=run_make_row' (P:=Tryz.prog) 42 3 (.int .i64 0) 8 Tryz.underlying42 YA rfl .i64 .i64 n (by omega) (by omega) wy
   refine zS (w':=wy.alloc (.cells (madeCells #[.int .i64 0] n) 3)) (v:=.slice (some ⟨wy.heap.size,0,none⟩) n n) ?_ (by subst hSp;exact ⟨_,rfl,(uF.new wy n).low JK⟩) ((Kept.refl aB wy).alloc _) (fun _ _=>HJ _ _ _)
   simp only [execOp,resolve,invoke,List.map_toArray,List.map_cons,List.map_nil,d12,Sem.run_bind,hmk,Result.andThen_ok,Sem.run_pure]
  ·refine aU rfl ?_
   obtain ⟨O,d8,hO⟩:∃O,x.eval (.tmp 8)=.pointer (some ⟨O,0,none⟩)∧vw w.heap.size ia inn ic O wy:=by have h_:=hI.dep haft 1 8 rfl rfl rfl;rw [hSp] at h_;exact h_
   obtain ⟨Ru,d9⟩:∃Ru,x.eval (.tmp 9)=.map (some Ru):=by have h_:=hI.dep haft 2 9 rfl rfl rfl;rw [hSp] at h_;exact h_
   have d10:x.eval (.tmp 10)=.int .i64 lim:=by have h_:=hI.dep haft 3 10 rfl rfl rfl;rw [hSp] at h_;exact h_
   obtain ⟨H,d13,hH⟩:∃H,x.eval (.tmp 13)=.slice (some ⟨H,0,none⟩) n n∧uF w.heap.size n H wy:=by have h_:=hI.dep haft 6 13 rfl rfl rfl;rw [hSp] at h_;exact h_
   refine aO (v:=.agg #[.pointer (some ⟨O,0,none⟩),.map (some Ru),.int .i64 0,.int .i64 lim,.slice (some ⟨H,0,none⟩) n n]) ?_ (by subst hSp;exact ⟨O,Ru,H,rfl,hO,hH⟩) (fun _ _=>HJ _ _ _)
   simp only [execOp,resolve,invoke,List.map_toArray,List.map_cons,List.map_nil,d8,d9,d10,d13];go_simp
  ·refine aU rfl ?_
   obtain ⟨O,Ru,H,Vb,hO,hH⟩:∃O Ru H,x.eval (.tmp 14)=.agg #[.pointer (some ⟨O,0,none⟩),.map (some Ru),.int .i64 0,.int .i64 lim,.slice (some ⟨H,0,none⟩) n n]∧vw w.heap.size ia inn ic O wy∧uF w.heap.size n H wy:=by have h_:=hI.dep haft 7 14 rfl rfl rfl;rw [hSp] at h_;exact h_
   refine zS (w':=wy.alloc (.cells #[.pointer (some ⟨O,0,none⟩),.map (some Ru),.int .i64 0,.int .i64 lim,.slice (some ⟨H,0,none⟩) n n] 90)) (v:=.pointer (some ⟨wy.heap.size,0,none⟩)) ?_ (by subst hSp;exact ⟨_,rfl,JK,O,Ru,H,dO.new wy _ _,hO.kept ((Kept.refl aB wy).alloc _),hH.kept ((Kept.refl aB wy).alloc _)⟩) ((Kept.refl aB wy).alloc _) (fun _ _=>HJ _ _ _)
   simp only [execOp,resolve,invoke,List.map_toArray,List.map_cons,List.map_nil,Vb];go_simp
  ·refine aU rfl ?_
   obtain ⟨W,d15,hW⟩:∃W,x.eval (.tmp 15)=.pointer (some ⟨W,0,none⟩)∧Ar w.heap.size ia inn ic n lim W wy:=by have h_:=hI.dep haft 8 15 rfl rfl rfl;rw [hSp] at h_;exact h_
   refine aO (v:=.pointer (some ⟨W,0,none⟩)) ?_ (by subst hSp;exact ⟨W,rfl,hW⟩) (fun _ _=>HJ _ _ _)
   simp only [execOp,resolve,invoke,List.map_toArray,List.map_cons,List.map_nil,d15];go_simp
 ·intro f wy hK hS _
  obtain ⟨W,e6,hW⟩:∃W,f 6=.pointer (some ⟨W,0,none⟩)∧Ar w.heap.size ia inn ic n lim W wy:=by have h_:=hS 9 _ _ rfl rfl;rw [hSp] at h_;exact h_
  simp only [iI,List.foldl_cons,List.foldl_nil,List.setIfInBounds_toArray,List.set_cons_zero,List.set_cons_succ]
  rw [e6]
  go_wp2_with fail
  go_ret
  exact ⟨W,rfl,hW,hK⟩
end Go.Proofs.YtgoijmpahffnhaaGreatDoor

namespace Go.Proofs.YtgoijmpahffnhaaGreatDoor
set_option linter.all false
open Go.RowKit
set_option maxRecDepth 100000
set_option maxHeartbeats 4000000
def sV (input:List aj):Prop:=1000<input.length∨∃i,∃h:i<input.length,65536<input[i].size
def WrQ (l:List aG) (input:List aj) (w:World) (e:Ending) (w':World):Prop :=
 Kept aB w w'∧((sV input∧∃a b:Int,a≠0∧e=.returned (.tuple #[.pointer none,.agg #[.int .i64 a,.int .i64 b]]))∨
  (¬sV input∧∃p,e=.returned (.tuple #[.pointer p,.agg #[.int .i64 0,.int .i64 0]])∧rF l w.heap.size p w'))
theorem Nc {f:Func} {tmps:Array Value} {l:List aG} {input:List aj} {w w2:World} {M:Nat} {a b:Int} {p:Option Addr} (hf:f.results = #[.tmp 6,.cell 7 39]) (h6:tmps.getD 6 undef=.pointer p) (h7:tmps.getD 7 undef=.pointer (some ⟨M,0,none⟩)) (hM:Fl M a b w2)
  (hk:Kept aB w w2) (hq:(sV input∧a≠0∧p=none)∨(¬sV input∧a=0∧b=0∧rF l w.heap.size p w2)):bodyPost Tryz.prog f (WrQ l input w) .ret ⟨tmps,[]⟩ w2:=by
 obtain ⟨c0,c1,_,_⟩:=hM.cells
 have ht6:tmps[6]?.getD undef=.pointer p:=by rw [←h6,Array.getD_eq_getD_getElem?]
 have ht7:tmps[7]?.getD undef=.pointer (some ⟨M,0,none⟩):=by rw [←h7,Array.getD_eq_getD_getElem?]
 refine bodyPost_ret (v:=.tuple #[.pointer p,.agg #[.int .i64 a,.int .i64 b]]) (by simp [results,hf,go_sem,ht6,ht7,c0,c1]) rfl ⟨hk,?_⟩
 rcases hq with ⟨h1,h2,rfl⟩|⟨h1,rfl,rfl,h4⟩
 ·exact .inl ⟨h1,a,b,h2,rfl⟩
 ·exact .inr ⟨h1,p,rfl,h4⟩
theorem rF.kept {l:List aG} {B:Nat} {p:Option Addr} {w w':World} {X:Nat→Prop} (h:rF l B p w) (hk:Kept X w w') (hx:∀b,X b→¬B≤b∨w.heap.size≤b):rF l B p w':=by
 obtain ⟨T,B1,B2,n1,n2,rfl,h1,h2,h3,h4,h5,h6⟩:=h
 have no:∀b,B≤b→b<w.heap.size→¬X b:=fun b hb hl hc=>(hx b hc).elim (fun h=>h hb) (fun h=>by omega)
 exact ⟨T,B1,B2,n1,n2,rfl,h1.kept hk (no _ h4 h1.lt),h2.kept hk (no _ h5 h2.lt),h3.kept hk (no _ h6 h3.lt),h4,h5,h6⟩
theorem rF.low {l:List aG} {B B':Nat} {p:Option Addr} {w:World} (h:rF l B' p w) (hb:B≤B'):rF l B p w:=by
 obtain ⟨T,B1,B2,n1,n2,rfl,h1,h2,h3,h4,h5,h6⟩:=h
 exact ⟨T,B1,B2,n1,n2,rfl,h1,h2,h3,by omega,by omega,by omega⟩
theorem Vd (l:List aG) (al:Option Addr) (cl:Nat) (S:Nat→Prop) (input:List aj) (ia:Option Addr) (ic lim:Nat) (w:World) (hl:oU w S al l) (hS:Safe S aB w.heap.size) (hlen:l.length≤1048576) (hck:dI l=(0,0)) (hin:bU w (· < w.heap.size) ia input) (hil:input.length<1000000000) (hlim:lim≤100000) :
  Calls Tryz.prog 25 #[.slice al l.length cl,.slice ia input.length ic,.int .i64 lim] w (WrQ l input w):=by
 obtain ⟨w1,hw1⟩:∃w1,w1=w.alloc (.cells #[.int .i64 0,.int .i64 0] 39):=⟨_,rfl⟩
 have k1:Kept aB w w1:=by rw [hw1];exact (Kept.refl aB w).alloc _
 have F1:Hid (Fl w.heap.size 0 0 w1):=by rw [hw1];exact ay w _
 obtain ⟨M,hM⟩:∃M,M=w.heap.size:=⟨_,rfl⟩
 rw [←hM] at F1
 have HP:=PZ l al cl S w1 (hl.to k1 hS (fun _ h=>h)) (hS.mono k1.size) hlen
 have hz1:w1.heap.size=w.heap.size+1:=by rw [hw1];simp
 have HP:Hid (Calls Tryz.prog 35 #[.slice al l.length cl] w1 (fun e w'=>∃p,e=.returned (.tuple #[.pointer p,.agg #[.int .i64 0,.int .i64 0]])∧Kept aB w1 w'∧rF l (w.heap.size+1) p w')):=HP.mono (by
  rintro e w' ⟨p,rfl,hk,ht,_⟩
  rw [hck] at ht⊢
  exact ⟨p,rfl,hk,hz1 ▸ ht rfl⟩)
 have wF:Hid (∀wx,Kept aB w wx→bU wx (· < wx.heap.size) ia input):=fun wx hk=>hin.to hk (Safe.lt (Nat.le_refl _)) (fun _ h=>Nat.lt_of_lt_of_le h hk.size)
 have HW1:=ah hw1;have HM:=ah hM;have K1:=ah k1
 have hlm:M<w1.heap.size:=F1.out.lt
 clear hl hS hck hin k1 hw1 hM hz1
 go_enter Tryz.func25, Tryz.ntmps25
 go_upto_region 1 with fail
 rw [←HW1.out,←HM.out]
 clear HW1
 go_upto_region 2 with (go_at_call 35;(with_reducible refine HP.out.mono ?_);rintro e w2 ⟨p,rfl,k_,t_⟩;have K2:=ah k_;have T2:=ah t_;have F2:=ah (F1.out.kept k_ (fun h=>h));clear k_ t_)
 obtain ⟨w3,hw3⟩:∃w3,w3=w2.alloc (.cells #[.int .i64 0,.int .i64 0] 39):=⟨_,rfl⟩
 obtain ⟨G,hG⟩:∃G,G=w2.heap.size:=⟨_,rfl⟩
 have k3:Kept aB w2 w3:=by rw [hw3];exact (Kept.refl aB w2).alloc _
 have G3:Hid (Fl G 0 0 w3):=by rw [hw3,hG];exact ay w2 _
 have F3:=ah (F2.out.kept k3 (fun h=>h))
 have T4:=ah (T2.out.kept k3 (fun _ h=>h.elim))
 have K3:Hid (Kept aB w w3):=(K1.out.trans K2.out).trans k3
 rw [←hw3,←hG]
 obtain ⟨g0,g1,gf0,gf1⟩:=G3.out.cells
 obtain ⟨f0,f1,ff0,ff1⟩:=F3.out.cells
 have hMw:w.heap.size≤M:=by rw [HM.out];exact Nat.le_refl _
 have KS:Hid (∀wx (a b:Int),Kept aB w3 wx→Kept aB w ((wx.setCell ⟨M,0,none⟩ (.int .i64 a)).setCell ⟨M,1,none⟩ (.int .i64 b))∧Fl M a b ((wx.setCell ⟨M,0,none⟩ (.int .i64 a)).setCell ⟨M,1,none⟩ (.int .i64 b))):=fun wx a b hk =>
  ⟨((K3.out.trans hk).setCell (p:=⟨M,0,none⟩) (.inr hMw) _).setCell (p:=⟨M,1,none⟩) (.inr hMw) _,(F3.out.kept hk (fun h=>h)).set a b⟩
 have TS:Hid (∀wx (a b:Int),Kept aB w3 wx→rF l w.heap.size p ((wx.setCell ⟨M,0,none⟩ (.int .i64 a)).setCell ⟨M,1,none⟩ (.int .i64 b))):=fun wx a b hk=>by
  have hT:rF l (w.heap.size+1) p w3:=T4.out
  have:=(hT.kept hk (fun _ h=>h.elim)).kept (((Kept.refl (· = M) wx).setCell (p:=⟨M,0,none⟩) (.inl rfl) (.int .i64 a)).setCell (p:=⟨M,1,none⟩) (.inl rfl) (.int .i64 b)) (fun b hb=>.inl (by have:b=M:=hb;rw [this,HM.out];omega))
  exact this.low (by omega)
 clear hw3 hG k3
 by_cases hb:1000<input.length
 ·have e1:decide ((1000:Int)<(input.length:Int))=true:=ak (by omega)
  have e1':decide (1000<input.length)=true:=ak hb
  go_wp2_with fail
  exact Nc Tryz.results25 rfl rfl (KS.out _ 5 0 (Kept.refl _ _)).2 (KS.out _ 5 0 (Kept.refl _ _)).1 (.inl ⟨.inl hb,by decide,rfl⟩)
 have e1:decide ((1000:Int)<(input.length:Int))=false:=au (by omega)
 have e1':decide (1000<input.length)=false:=au hb
 go_wp2_with fail
 go_loopw [27] (fun i wr=>∃j:Nat,j≤input.length∧i=.int .i64 j∧wr=w3∧Hid (∀k,(h:k<input.length)→k<j→input[k].size≤65536)) (fun i _=>input.length-(intOf i).toNat)
 case atStart=>exact ⟨0,Nat.zero_le _,rfl,rfl,fun k _ h=>absurd h (by omega)⟩
 case round =>
  obtain ⟨j,hj,rfl,rfl,hall⟩:=hrel
  by_cases hlt:j<input.length
  ·obtain ⟨bi,oi,rfl,_,hc⟩:=wF.out _ K3.out (by omega)
   have cj:=hc j hlt
   obtain ⟨tj,htj⟩:∃tj,tj=input[j]:=⟨_,rfl⟩
   rw [←htj] at cj
   have bj:(j:Int)<(input.length:Int):=by omega
   have JU:=ah htj
   clear hc htj
   by_cases hs:65536<tj.size
   ·have e2:decide ((65536:Int)<(tj.size:Int))=true:=ak (by omega)
    have e2':decide (65536<tj.size)=true:=ak hs
    go_wp2_with fail
    exact Nc Tryz.results25 rfl rfl (KS.out _ 4 j (Kept.refl _ _)).2 (KS.out _ 4 j (Kept.refl _ _)).1 (.inl ⟨.inr ⟨j,hlt,by rw [←JU.out];exact hs⟩,by decide,rfl⟩)
   ·have e2:decide ((65536:Int)<(tj.size:Int))=false:=au (by omega)
    have e2':decide (65536<tj.size)=false:=au hs
    go_wp2_with fail
    go_roundw
    case rel=>exact ⟨j+1,by omega,by go_num,by trivial,fun k hk hkj=>by
     by_cases Nh:k=j
     ·subst Nh;rw [←JU.out];omega
     ·exact hall.out k hk (by omega)⟩
    case measure=>simp [intOf];omega
  ·obtain rfl:j=input.length:=by omega
   have d1:decide ((lim:Int)<0)=false:=au (by omega)
   have d2:decide ((100000:Int)<(lim:Int))=false:=au (by omega)
   have d2':decide (100000<lim)=false:=au (by omega)
   go_wp2_with go_region
   have hnb:¬sV input:=by
    rintro (h|⟨k,hk,h⟩)
    ·exact hb h
    ·have:=hall.out k hk hk;omega
   exact Nc Tryz.results25 rfl rfl (KS.out _ 0 0 (Kept.refl _ _)).2 (KS.out _ 0 0 (Kept.refl _ _)).1.drew (.inr ⟨hnb,rfl,rfl,(TS.out _ 0 0 (Kept.refl _ _)).kept (Kept.refl aB _).drew (fun _ h=>h.elim)⟩)
end Go.Proofs.YtgoijmpahffnhaaGreatDoor
