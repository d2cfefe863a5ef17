/-  -/
import Derived.Test.YtodebjhalipefaaGreatDoorLr11
import Derived.Test.YtodebjhalipefaaGreatDoorLq14
import Derived.Test.YtodebjhalipefaaGreatDoorLq24
import Derived.Deep.OwnRows
import Derived.Carry
import Derived.Test.YtodebjhalipefaaGreatDoorPg3
import Derived.Test.YtodebjhalipefaaGreatDoorLq20
namespace Go.Proofs.YtodebjhalipefaaGreatDoor
set_option linter.all false
open Go.RowKit
set_option maxRecDepth 100000
set_option maxHeartbeats 8000000
def aem (F:dG) (ov:Value) (S:aW) (w:World) (e:Ending) (w':World):Prop:=∃(a3 a4:Option Addr) (n3 c3 n4 c4:Nat) (hv:Value),e=.returned (.tuple #[.agg #[ov,.int .i64 S.how,.int .i64 S.steps,.slice a3 n3 c3,.slice a4 n4 c4],hv])∧Kept aA w w'
theorem V7 (F:dG) (ov:Value) (S:aW) (w:World) (h:aY F ov S w) (ok:bG S):Calls Tryz.prog 29 #[.pointer (some ⟨F.W,0,none⟩)] w (aem F ov S w):=by
 obtain ⟨a0,c0,hov⟩:=h.out.shape
 subst hov
 obtain ⟨w1,hw1⟩:∃w1,w1=w.alloc (.cells #[.slice none 0 0,.int .i64 0,.int .i64 0,.slice none 0 0,.slice none 0 0] 29):=⟨_,rfl⟩
 obtain ⟨B,hB⟩:∃B,B=w.heap.size:=⟨_,rfl⟩
 have k1:Kept aA w w1:=by rw [hw1];exact (Kept.refl aA w).alloc _
 have ZU:Hid (dI B 29 [.slice none 0 0,.int .i64 0,.int .i64 0,.slice none 0 0,.slice none 0 0] w1):=by rw [hw1,hB];exact dI.new w _ _
 have h1:=h.quiet k1
 obtain ⟨u0,u2,u3,u4,uf⟩:=h1.oW
 have HR:Hid (∀wx,Kept (· = B) w1 wx→aY F (.slice a0 S.output.length c0) S wx):=fun wx hk=>h1.kept hk (fun b hb=>by
  have hb:b=B:=hb
  subst hb
  exact ⟨by have:=h.oJ.low;omega,fun e=>by have:=h.run.lt;omega,h.mine (by omega)⟩)
 have HS:Hid (∀wx,Kept (· = B) w1 wx→Calls Tryz.prog 45 #[.pointer (some ⟨F.O,0,none⟩),.int .i64 S.steps] wx (fun e w'=>∃(a3 a4:Option Addr) (n3 c3 n4 c4:Nat),e=.returned (.agg #[.slice a0 S.output.length c0,.int .i64 S.how,.int .i64 S.steps,.slice a3 n3 c3,.slice a4 n4 c4])∧Kept aA wx w')):=fun wx hk =>
  ZT F _ S wx (HR.out wx hk) ok
 have HW1:=ah hw1;have HB:=ah hB;have K1:=ah k1
 clear h h1 k1 hw1 hB uf u0 u2 u3 u4
 go_enter Tryz.func29, Tryz.ntmps29
 go_upto_region 1 with fail
 rw [←HW1.out,←HB.out]
 clear HW1
 obtain ⟨Sp,hSp⟩:∃Sp:Nat→Value→World→Prop,Sp=(fun i v wx=>match i with
  | 0=>v=.pointer (some ⟨F.W,0,none⟩)
  | 1=>v=.pointer (some ⟨F.W,0,none⟩)
  | 2=>v=.pointer (some ⟨F.W,0,none⟩)
  | 3=>v=.pointer (some ⟨F.O,0,none⟩)
  | 4=>v=.pointer (some ⟨F.W,0,none⟩)
  | 5=>v=.pointer (some ⟨F.W,0,none⟩)
  | 6=>v=.pointer (some ⟨F.W,2,none⟩)
  | 7=>v=.int .i64 S.steps
  | 8=>∃(a3 a4:Option Addr) (n3 c3 n4 c4:Nat),v=.agg #[.slice a0 S.output.length c0,.int .i64 S.how,.int .i64 S.steps,.slice a3 n3 c3,.slice a4 n4 c4]
  | 9=>v=.pointer (some ⟨F.W,0,none⟩)
  | 10=>v=.pointer (some ⟨F.W,0,none⟩)
  | 11=>v=.pointer (some ⟨F.W,4,none⟩)
  | 12=>v=.slice (some ⟨F.H,0,none⟩) F.l.length F.l.length
  | 13=>True
  | _=>v=.slice (some ⟨F.H,0,none⟩) F.l.length F.l.length):=⟨_,rfl⟩
 obtain ⟨J,hJd⟩:∃J:(Nat→Bool)→(Nat→Value)→World→Prop,J=(fun l f wx=>(l 13=false→dI B 29 [.slice none 0 0,.int .i64 0,.int .i64 0,.slice none 0 0,.slice none 0 0] wx)∧(l 13=true→∃(a3 a4:Option Addr) (n3 c3 n4 c4:Nat),dI B 29 [.slice a0 S.output.length c0,.int .i64 S.how,.int .i64 S.steps,.slice a3 n3 c3,.slice a4 n4 c4] wx)):=⟨_,rfl⟩
 refine iU (· = B) J Sp [4,5,6,7,8,9,10,11,12,13,14,15,16,3] (by kernel_rfl) (by kernel_rfl) (by kernel_rfl) (fun i v w w' h hk=>by subst hSp;exact h) ?_ ?_ ?_ ?_
 ·intro i o hi lq x wy hI hJ hlf haft
  rw [hJd] at hJ
  have JK:=hI.kept
  have s0:x.eval (.tmp 0)=.pointer (some ⟨F.W,0,none⟩):=hI.keep 0 _ rfl (by kernel_rfl)
  have s2:x.eval (.tmp 2)=.pointer (some ⟨B,0,none⟩):=hI.keep 2 _ rfl (by kernel_rfl)
  obtain ⟨u0,u2,_,u4,_⟩:=(HR.out wy JK).oW
  have hjn:∀(l':Nat→Bool),(∀j,l' j=true↔j=i∨lq j=true)→i≠13→∀f,J l' f wy:=by
   intro l' hl hne f
   have e:=upd_ne hl 13 (Ne.symm hne)
   rw [hJd];show (l' 13=false→_)∧(l' 13=true→_)
   rw [e];exact hJ
  rcases i with _|_|_|_|_|_|_|_|_|_|_|_|_|_|_|i
  all_goals (simp only [List.getElem?_toArray,List.getElem?_cons_zero,List.getElem?_cons_succ,List.getElem?_nil,Option.some.injEq,reduceCtorEq] at hi)
  all_goals subst hi
  ·refine aT rfl ?_
   refine aK (v:=.pointer (some ⟨F.W,0,none⟩)) ?_ (by subst hSp;exact rfl) (fun l' hl=>hjn l' hl (by decide) _)
   simp only [execOp,resolve,invoke,List.map_toArray,List.map_cons,List.map_nil,s0];go_simp
  ·refine aT rfl ?_
   have d4:x.eval (.tmp 4)=.pointer (some ⟨F.W,0,none⟩):=by have h_:=hI.dep haft 0 4 rfl rfl rfl;rw [hSp] at h_;exact h_
   refine aK (v:=.pointer (some ⟨F.W,0,none⟩)) ?_ (by subst hSp;exact rfl) (fun l' hl=>hjn l' hl (by decide) _)
   simp only [execOp,resolve,invoke,List.map_toArray,List.map_cons,List.map_nil,d4];go_simp
  ·refine aT rfl ?_
   have d5:x.eval (.tmp 5)=.pointer (some ⟨F.W,0,none⟩):=by have h_:=hI.dep haft 1 5 rfl rfl rfl;rw [hSp] at h_;exact h_
   refine aK (v:=.pointer (some ⟨F.W,0,none⟩)) ?_ (by subst hSp;exact rfl) (fun l' hl=>hjn l' hl (by decide) _)
   simp only [execOp,resolve,invoke,List.map_toArray,List.map_cons,List.map_nil,d5];go_simp
  ·refine aT rfl ?_
   have d6:x.eval (.tmp 6)=.pointer (some ⟨F.W,0,none⟩):=by have h_:=hI.dep haft 2 6 rfl rfl rfl;rw [hSp] at h_;exact h_
   refine aK (v:=.pointer (some ⟨F.O,0,none⟩)) ?_ (by subst hSp;exact rfl) (fun l' hl=>hjn l' hl (by decide) _)
   simp only [execOp,resolve,invoke,List.map_toArray,List.map_cons,List.map_nil,d6];go_simp
  ·refine aT rfl ?_
   refine aK (v:=.pointer (some ⟨F.W,0,none⟩)) ?_ (by subst hSp;exact rfl) (fun l' hl=>hjn l' hl (by decide) _)
   simp only [execOp,resolve,invoke,List.map_toArray,List.map_cons,List.map_nil,s0];go_simp
  ·refine aT rfl ?_
   have d8:x.eval (.tmp 8)=.pointer (some ⟨F.W,0,none⟩):=by have h_:=hI.dep haft 4 8 rfl rfl rfl;rw [hSp] at h_;exact h_
   refine aK (v:=.pointer (some ⟨F.W,0,none⟩)) ?_ (by subst hSp;exact rfl) (fun l' hl=>hjn l' hl (by decide) _)
   simp only [execOp,resolve,invoke,List.map_toArray,List.map_cons,List.map_nil,d8];go_simp
  ·refine aT rfl ?_
   have d9:x.eval (.tmp 9)=.pointer (some ⟨F.W,0,none⟩):=by have h_:=hI.dep haft 5 9 rfl rfl rfl;rw [hSp] at h_;exact h_
   refine aK (v:=.pointer (some ⟨F.W,2,none⟩)) ?_ (by subst hSp;exact rfl) (fun l' hl=>hjn l' hl (by decide) _)
   simp only [execOp,resolve,invoke,List.map_toArray,List.map_cons,List.map_nil,d9];go_simp
  ·refine aT rfl ?_
   have d10:x.eval (.tmp 10)=.pointer (some ⟨F.W,2,none⟩):=by have h_:=hI.dep haft 6 10 rfl rfl rfl;rw [hSp] at h_;exact h_
   refine aK (v:=.int .i64 S.steps) ?_ (by subst hSp;exact rfl) (fun l' hl=>hjn l' hl (by decide) _)
   simp only [execOp,resolve,invoke,List.map_toArray,List.map_cons,List.map_nil,d10];go_simp
  ·refine aT rfl ?_
   have d7:x.eval (.tmp 7)=.pointer (some ⟨F.O,0,none⟩):=by have h_:=hI.dep haft 3 7 rfl rfl rfl;rw [hSp] at h_;exact h_
   have d11:x.eval (.tmp 11)=.int .i64 S.steps:=by have h_:=hI.dep haft 7 11 rfl rfl rfl;rw [hSp] at h_;exact h_
   refine zY (f:=45) (args:=#[.pointer (some ⟨F.O,0,none⟩),.int .i64 S.steps]) (by simp only [execOp,resolve,invoke,List.map_toArray,List.map_cons,List.map_nil,d7,d11];go_simp) ((HS.out _ JK).mono ?_)
   rintro e w4 ⟨a3,a4,n3,c3,n4,c4,rfl,k_⟩
   refine ⟨_,rfl,by subst hSp;exact ⟨a3,a4,n3,c3,n4,c4,rfl⟩,k_.more (fun _ h=>h.elim),fun l' hl=>?_⟩
   rw [hJd];show (l' 13=false→_)∧(l' 13=true→_)
   rw [upd_ne hl 13 (by decide)]
   exact ⟨fun e=>(hJ.1 e).kept k_ (fun h=>h),fun e=>by obtain ⟨b3,b4,m3,d3,m4,d4,hb⟩:=hJ.2 e;exact ⟨b3,b4,m3,d3,m4,d4,hb.kept k_ (fun h=>h)⟩⟩
  ·refine aT rfl ?_
   refine aK (v:=.pointer (some ⟨F.W,0,none⟩)) ?_ (by subst hSp;exact rfl) (fun l' hl=>hjn l' hl (by decide) _)
   simp only [execOp,resolve,invoke,List.map_toArray,List.map_cons,List.map_nil,s0];go_simp
  ·refine aT rfl ?_
   have d13:x.eval (.tmp 13)=.pointer (some ⟨F.W,0,none⟩):=by have h_:=hI.dep haft 9 13 rfl rfl rfl;rw [hSp] at h_;exact h_
   refine aK (v:=.pointer (some ⟨F.W,0,none⟩)) ?_ (by subst hSp;exact rfl) (fun l' hl=>hjn l' hl (by decide) _)
   simp only [execOp,resolve,invoke,List.map_toArray,List.map_cons,List.map_nil,d13];go_simp
  ·refine aT rfl ?_
   have V8:x.eval (.tmp 14)=.pointer (some ⟨F.W,0,none⟩):=by have h_:=hI.dep haft 10 14 rfl rfl rfl;rw [hSp] at h_;exact h_
   refine aK (v:=.pointer (some ⟨F.W,4,none⟩)) ?_ (by subst hSp;exact rfl) (fun l' hl=>hjn l' hl (by decide) _)
   simp only [execOp,resolve,invoke,List.map_toArray,List.map_cons,List.map_nil,V8];go_simp
  ·refine aT rfl ?_
   have d15:x.eval (.tmp 15)=.pointer (some ⟨F.W,4,none⟩):=by have h_:=hI.dep haft 11 15 rfl rfl rfl;rw [hSp] at h_;exact h_
   refine aK (v:=.slice (some ⟨F.H,0,none⟩) F.l.length F.l.length) ?_ (by subst hSp;exact rfl) (fun l' hl=>hjn l' hl (by decide) _)
   simp only [execOp,resolve,invoke,List.map_toArray,List.map_cons,List.map_nil,d15];go_simp
  ·refine aT rfl ?_
   obtain ⟨a3,a4,n3,c3,n4,c4,d12⟩:∃(a3 a4:Option Addr) (n3 c3 n4 c4:Nat),x.eval (.tmp 12)=.agg #[.slice a0 S.output.length c0,.int .i64 S.how,.int .i64 S.steps,.slice a3 n3 c3,.slice a4 n4 c4]:=by have h_:=hI.dep haft 8 12 rfl rfl rfl;rw [hSp] at h_;exact h_
   have hz:=hJ.1 hlf
   have x0:=hz.cell (i:=0) rfl;have y0:=hz.free 0
   have x1:=hz.cell (i:=1) rfl;have y1:=hz.free 1
   have x2:=hz.cell (i:=2) rfl;have y2:=hz.free 2
   have x3:=hz.cell (i:=3) rfl;have y3:=hz.free 3
   have x4:=hz.cell (i:=4) rfl;have y4:=hz.free 4
   refine ig (w':=((((wy.setCell ⟨B,0,none⟩ (.slice a0 S.output.length c0)).setCell ⟨B,1,none⟩ (.int .i64 S.how)).setCell ⟨B,2,none⟩ (.int .i64 S.steps)).setCell ⟨B,3,none⟩ (.slice a3 n3 c3)).setCell ⟨B,4,none⟩ (.slice a4 n4 c4)) ?_ rfl (((((((Kept.refl (· = B) wy).setCell (p:=⟨B,0,none⟩) (.inl rfl) _).setCell (p:=⟨B,1,none⟩) (.inl rfl) _).setCell (p:=⟨B,2,none⟩) (.inl rfl) _).setCell (p:=⟨B,3,none⟩) (.inl rfl) _).setCell (p:=⟨B,4,none⟩) (.inl rfl) _)) (fun l' hl=>?_)
   ·simp only [execOp,resolve,invoke,List.map_toArray,List.map_cons,List.map_nil,s2,d12];go_simp
   ·rw [hJd];exact ⟨fun e=>(by rw [iq hl] at e;cases e),fun _=>⟨a3,a4,n3,c3,n4,c4,((((hz.set 0 _).set 1 _).set 2 _).set 3 _).set 4 _⟩⟩
  ·refine aT rfl ?_
   have d16:x.eval (.tmp 16)=.slice (some ⟨F.H,0,none⟩) F.l.length F.l.length:=by have h_:=hI.dep haft 12 16 rfl rfl rfl;rw [hSp] at h_;exact h_
   refine aK (v:=.slice (some ⟨F.H,0,none⟩) F.l.length F.l.length) ?_ (by subst hSp;exact rfl) (fun l' hl=>hjn l' hl (by decide) _)
   simp only [execOp,resolve,invoke,List.map_toArray,List.map_cons,List.map_nil,d16];go_simp
 ·intro lq hl
  rw [hJd];exact ⟨fun _=>ZU.out.kept (Kept.refl aA _).drew (fun h=>h),fun e=>by rw [hl 13 (by decide)] at e;cases e⟩
 ·intro lq l' f wx hl h
  rw [hJd] at h⊢;dsimp only at h⊢;rw [←hl 13 (by decide)];exact h
 ·intro f wy hK hS hJ
  rw [hJd] at hJ
  obtain ⟨a3,a4,n3,c3,n4,c4,hb⟩:=hJ.2 rfl
  simp only [gQ,List.foldl_cons,List.foldl_nil,List.setIfInBounds_toArray,List.set_cons_zero,List.set_cons_succ]
  have e3:f 3=.slice (some ⟨F.H,0,none⟩) F.l.length F.l.length:=by have h_:=hS 14 _ _ rfl rfl;rw [hSp] at h_;exact h_
  rw [e3]
  go_wp2_with fail
  have z0:=hb.cell (i:=0) rfl
  have z1:=hb.cell (i:=1) rfl
  have z2:=hb.cell (i:=2) rfl
  have z3:=hb.cell (i:=3) rfl
  have z4:=hb.cell (i:=4) rfl
  refine bodyPost_ret (v:=.tuple #[.agg #[.slice a0 S.output.length c0,.int .i64 S.how,.int .i64 S.steps,.slice a3 n3 c3,.slice a4 n4 c4],.slice (some ⟨F.H,0,none⟩) F.l.length F.l.length]) (by simp [results,Tryz.results29,go_sem,z0,z1,z2,z3,z4]) rfl ⟨a3,a4,n3,c3,n4,c4,_,rfl,K1.out.step hK (fun y hy=>.inr (by have:y=B:=hy;rw [this,HB.out];exact Nat.le_refl _))⟩
end Go.Proofs.YtodebjhalipefaaGreatDoor

namespace Go.Proofs.YtodebjhalipefaaGreatDoor
set_option linter.all false
open Go.RowKit
set_option maxRecDepth 100000
set_option maxHeartbeats 2000000
theorem ZW:(Tryz.prog.info? 3).map (fun i=>(i.zero,i.size,i.bytes))=some (some (.int .i64 0),1,8):=by kernel_rfl
def uq (B:Nat) (ia:Option Addr) (inn ic O:Nat) (w:World):Prop :=
 ∃V I,B≤V∧B≤I∧B≤O∧V≠I∧dI O 113 [.map (some V),.map (some I),.int .i64 0,.int .i64 0,.slice none 0 0,.slice ia inn ic,.int .i64 0] w∧w.heap[V]?=some (.map #[] 0)∧w.heap[I]?=some (.map #[] 0)
theorem uq.kept {B:Nat} {ia:Option Addr} {inn ic O:Nat} {w w':World} (h:uq B ia inn ic O w) (hk:Kept aA w w'):uq B ia inn ic O w':=by
 obtain ⟨V,I,h1,h2,h3,h4,h5,h6,h7⟩:=h
 exact ⟨V,I,h1,h2,h3,h4,h5.kept hk (fun h=>h),(hk.block V (Array.getElem?_eq_some_iff.1 h6).1 (fun h=>h)).trans h6,(hk.block I (Array.getElem?_eq_some_iff.1 h7).1 (fun h=>h)).trans h7⟩
theorem uq.low {B B':Nat} {ia:Option Addr} {inn ic O:Nat} {w:World} (h:uq B' ia inn ic O w) (hb:B≤B'):uq B ia inn ic O w:=by
 obtain ⟨V,I,h1,h2,h3,h4⟩:=h
 exact ⟨V,I,by omega,by omega,by omega,h4⟩
def sJ (B n H:Nat) (w:World):Prop:=B≤H∧dI H 3 (List.replicate n (.int .i64 0)) w
theorem sJ.kept {B n H:Nat} {w w':World} (h:sJ B n H w) (hk:Kept aA w w'):sJ B n H w':=⟨h.1,h.2.kept hk (fun h=>h)⟩
theorem sJ.low {B B' n H:Nat} {w:World} (h:sJ B' n H w) (hb:B≤B'):sJ B n H w:=⟨Nat.le_trans hb h.1,h.2⟩
theorem sJ.new (w:World) (n:Nat):sJ w.heap.size n w.heap.size (w.alloc (.cells (madeCells #[.int .i64 0] n) 3)):=by
 refine ⟨Nat.le_refl _,?_⟩
 have e:madeCells #[Value.int .i64 0] n=(List.replicate n (Value.int .i64 0)).toArray:=by
  rw [←toList_madeCells_one (Value.int .i64 0) n]
 rw [e]
 exact dI.new w _ _
def zZ (B:Nat) (ia:Option Addr) (inn ic n lim W:Nat) (w:World):Prop :=
 B≤W∧∃O Ru H,dI W 106 [.pointer (some ⟨O,0,none⟩),.map (some Ru),.int .i64 0,.int .i64 lim,.slice (some ⟨H,0,none⟩) n n] w∧uq B ia inn ic O w∧sJ B n H w
theorem zZ.kept {B:Nat} {ia:Option Addr} {inn ic n lim W:Nat} {w w':World} (h:zZ B ia inn ic n lim W w) (hk:Kept aA w w'):zZ B ia inn ic n lim W w':=by
 obtain ⟨h0,O,Ru,H,h1,h2,h3⟩:=h
 exact ⟨h0,O,Ru,H,h1.kept hk (fun h=>h),h2.kept hk,h3.kept hk⟩
theorem Nr (ia:Option Addr) (inn ic:Nat) (w:World):Calls Tryz.prog 42 #[.slice ia inn ic] w (fun e w'=>e=.returned (.pointer (some ⟨w.heap.size+2,0,none⟩))∧uq w.heap.size ia inn ic (w.heap.size+2) w'∧Kept aA w w'):=by
 obtain ⟨w1,hw1⟩:∃w1,w1=w.alloc (.map #[] 0):=⟨_,rfl⟩
 obtain ⟨w2,hw2⟩:∃w2,w2=w1.alloc (.map #[] 0):=⟨_,rfl⟩
 have z1:w1.heap.size=w.heap.size+1:=by rw [hw1];simp
 have z2:w2.heap.size=w.heap.size+2:=by rw [hw2];simp [z1]
 have k1:Kept aA w w1:=by rw [hw1];exact (Kept.refl aA w).alloc _
 have k2:Kept aA w1 w2:=by rw [hw2];exact (Kept.refl aA w1).alloc _
 have m1:w1.heap[w.heap.size]?=some (.map #[] 0):=by rw [hw1];exact ay w _
 have m2:w2.heap[w.heap.size+1]?=some (.map #[] 0):=by rw [hw2,←z1];exact ay w1 _
 have m1':w2.heap[w.heap.size]?=some (.map #[] 0):=(k2.block _ (by omega) (fun h=>h)).trans m1
 have hb:=dI.new w2 113 [.map (some w.heap.size),.map (some (w.heap.size+1)),.int .i64 0,.int .i64 0,.slice none 0 0,.slice ia inn ic,.int .i64 0]
 rw [z2] at hb
 have k3:=(Kept.refl aA w2).alloc (.cells [Value.map (some w.heap.size),.map (some (w.heap.size+1)),.int .i64 0,.int .i64 0,.slice none 0 0,.slice ia inn ic,.int .i64 0].toArray 113)
 have HN:Hid (uq w.heap.size ia inn ic (w.heap.size+2) (w2.alloc (.cells #[.map (some w.heap.size),.map (some (w.heap.size+1)),.int .i64 0,.int .i64 0,.slice none 0 0,.slice ia inn ic,.int .i64 0] 113))∧Kept aA w (w2.alloc (.cells #[.map (some w.heap.size),.map (some (w.heap.size+1)),.int .i64 0,.int .i64 0,.slice none 0 0,.slice ia inn ic,.int .i64 0] 113))) :=
  ⟨⟨w.heap.size,w.heap.size+1,Nat.le_refl _,by omega,by omega,by omega,hb,(k3.block _ (by omega) (fun h=>h)).trans m1',(k3.block _ (by omega) (fun h=>h)).trans m2⟩,(k1.trans k2).trans k3⟩
 rw [hw2,hw1] at HN
 clear hw1 hw2 z1 z2 k1 k2 m1 m2 m1' hb k3
 have hmm :=@run_makeMap Tryz.prog
 go_enter Tryz.func42, Tryz.ntmps42
 go_wp2_with fail
 go_ret
 exact ⟨rfl,HN.out⟩
theorem Ns (al ia:Option Addr) (n cl inn ic lim:Nat) (w:World) (hn:n≤1000000):Calls Tryz.prog 27 #[.slice al n cl,.slice ia inn ic,.int .i64 lim] w (fun e w'=>∃W,e=.returned (.pointer (some ⟨W,0,none⟩))∧zZ w.heap.size ia inn ic n lim W w'∧Kept aA w w'):=by
 go_enter Tryz.func27, Tryz.ntmps27
 go_upto_region 1 with fail
 obtain ⟨Sp,hSp⟩:∃Sp:Nat→Value→World→Prop,Sp=(fun i v wx=>match i with
  | 0=>v=.slice ia inn ic
  | 1=>∃O,v=.pointer (some ⟨O,0,none⟩)∧uq w.heap.size ia inn ic O wx
  | 2=>∃Ru,v=.map (some Ru)
  | 3=>v=.int .i64 lim
  | 4=>v=.slice al n cl
  | 5=>v=.int .i64 n
  | 6=>∃H,v=.slice (some ⟨H,0,none⟩) n n∧sJ w.heap.size n H wx
  | 7=>∃O Ru H,v=.agg #[.pointer (some ⟨O,0,none⟩),.map (some Ru),.int .i64 0,.int .i64 lim,.slice (some ⟨H,0,none⟩) n n]∧uq w.heap.size ia inn ic O wx∧sJ w.heap.size n H wx
  | 8=>∃W,v=.pointer (some ⟨W,0,none⟩)∧zZ w.heap.size ia inn ic n lim W wx
  | _=>∃W,v=.pointer (some ⟨W,0,none⟩)∧zZ w.heap.size ia inn ic n lim W wx):=⟨_,rfl⟩
 obtain ⟨J,HJ⟩:∃J:(Nat→Bool)→(Nat→Value)→World→Prop,∀l f w,J l f w:=⟨fun _ _ _=>True,fun _ _ _=>trivial⟩
 have agH:∀i v w w',Sp i v w→Kept aA w w'→Sp i v w':=by
  intro i v w w' h hk
  subst hSp
  rcases i with _|_|_|_|_|_|_|_|_|i
  ·exact h
  ·obtain ⟨O,e,s⟩:=h;exact ⟨O,e,s.kept hk⟩
  ·exact h
  ·exact h
  ·exact h
  ·exact h
  ·obtain ⟨H,e,s⟩:=h;exact ⟨H,e,s.kept hk⟩
  ·obtain ⟨O,Ru,H,e,s,t⟩:=h;exact ⟨O,Ru,H,e,s.kept hk,t.kept hk⟩
  ·obtain ⟨W,e,s⟩:=h;exact ⟨W,e,s.kept hk⟩
  ·obtain ⟨W,e,s⟩:=h;exact ⟨W,e,s.kept hk⟩
 refine iU aA J Sp [7,8,9,10,11,12,13,14,15,6] (by kernel_rfl) (by kernel_rfl) (by kernel_rfl) agH ?_ (fun _ _=>HJ _ _ _) (fun _ _ _ _ _ _=>HJ _ _ _) ?_
 ·intro i o hi lq x wy hI _ hlf haft
  have JK:=hI.kept.size
  have s0:x.eval (.tmp 0)=.slice al n cl:=hI.keep 0 _ rfl (by kernel_rfl)
  have s1:x.eval (.tmp 1)=.slice ia inn ic:=hI.keep 1 _ rfl (by kernel_rfl)
  have s2:x.eval (.tmp 2)=.int .i64 lim:=hI.keep 2 _ rfl (by kernel_rfl)
  rcases i with _|_|_|_|_|_|_|_|_|_|i
  all_goals (simp only [List.getElem?_toArray,List.getElem?_cons_zero,List.getElem?_cons_succ,List.getElem?_nil,Option.some.injEq,reduceCtorEq] at hi)
  all_goals subst hi
  ·refine aT rfl ?_
   refine aK (v:=.slice ia inn ic) ?_ (by subst hSp;exact rfl) (fun _ _=>HJ _ _ _)
   simp only [execOp,resolve,invoke,List.map_toArray,List.map_cons,List.map_nil,s1];go_simp
  ·refine aT rfl ?_
   have d7:x.eval (.tmp 7)=.slice ia inn ic:=by have h_:=hI.dep haft 0 7 rfl rfl rfl;rw [hSp] at h_;exact h_
   refine zY (f:=42) (args:=#[.slice ia inn ic]) (by simp only [execOp,resolve,invoke,List.map_toArray,List.map_cons,List.map_nil,d7];go_simp) ((Nr ia inn ic wy).mono ?_)
   rintro e w4 ⟨rfl,hs_,k_⟩
   exact ⟨_,rfl,by subst hSp;exact ⟨_,rfl,hs_.low JK⟩,k_,fun _ _=>HJ _ _ _⟩
  ·refine aT rfl ?_
   refine zx (w':=wy.alloc (.map #[] 0)) (v:=.map (some wy.heap.size)) ?_ (by subst hSp;exact ⟨_,rfl⟩) ((Kept.refl aA wy).alloc _) (fun _ _=>HJ _ _ _)
   simp only [execOp,resolve,invoke,List.map_toArray,List.map_cons,List.map_nil,Sem.run_bind,run_makeMap,Result.andThen_ok,Sem.run_pure,Option.map_none];try rfl
  ·refine aT rfl ?_
   refine aK (v:=.int .i64 lim) ?_ (by subst hSp;exact rfl) (fun _ _=>HJ _ _ _)
   simp only [execOp,resolve,invoke,List.map_toArray,List.map_cons,List.map_nil,s2];go_simp
  ·refine aT rfl ?_
   refine aK (v:=.slice al n cl) ?_ (by subst hSp;exact rfl) (fun _ _=>HJ _ _ _)
   simp only [execOp,resolve,invoke,List.map_toArray,List.map_cons,List.map_nil,s0];go_simp
  ·refine aT rfl ?_
   have d11:x.eval (.tmp 11)=.slice al n cl:=by have h_:=hI.dep haft 4 11 rfl rfl rfl;rw [hSp] at h_;exact h_
   refine aK (v:=.int .i64 n) ?_ (by subst hSp;exact rfl) (fun _ _=>HJ _ _ _)
   simp only [execOp,resolve,invoke,List.map_toArray,List.map_cons,List.map_nil,d11];go_simp
  ·refine aT rfl ?_
   have d12:x.eval (.tmp 12)=.int .i64 n:=by have h_:=hI.dep haft 5 12 rfl rfl rfl;rw [hSp] at h_;exact h_
   have hmk:=run_make_row' (P:=Tryz.prog) 42 3 (.int .i64 0) 8 Tryz.underlying42 ZW rfl .i64 .i64 n (by omega) (by omega) wy
   refine zx (w':=wy.alloc (.cells (madeCells #[.int .i64 0] n) 3)) (v:=.slice (some ⟨wy.heap.size,0,none⟩) n n) ?_ (by subst hSp;exact ⟨_,rfl,(sJ.new wy n).low JK⟩) ((Kept.refl aA wy).alloc _) (fun _ _=>HJ _ _ _)
   simp only [execOp,resolve,invoke,List.map_toArray,List.map_cons,List.map_nil,d12,Sem.run_bind,hmk,Result.andThen_ok,Sem.run_pure]
  ·refine aT rfl ?_
   obtain ⟨O,d8,hO⟩:∃O,x.eval (.tmp 8)=.pointer (some ⟨O,0,none⟩)∧uq w.heap.size ia inn ic O wy:=by have h_:=hI.dep haft 1 8 rfl rfl rfl;rw [hSp] at h_;exact h_
   obtain ⟨Ru,d9⟩:∃Ru,x.eval (.tmp 9)=.map (some Ru):=by have h_:=hI.dep haft 2 9 rfl rfl rfl;rw [hSp] at h_;exact h_
   have d10:x.eval (.tmp 10)=.int .i64 lim:=by have h_:=hI.dep haft 3 10 rfl rfl rfl;rw [hSp] at h_;exact h_
   obtain ⟨H,d13,hH⟩:∃H,x.eval (.tmp 13)=.slice (some ⟨H,0,none⟩) n n∧sJ w.heap.size n H wy:=by have h_:=hI.dep haft 6 13 rfl rfl rfl;rw [hSp] at h_;exact h_
   refine aK (v:=.agg #[.pointer (some ⟨O,0,none⟩),.map (some Ru),.int .i64 0,.int .i64 lim,.slice (some ⟨H,0,none⟩) n n]) ?_ (by subst hSp;exact ⟨O,Ru,H,rfl,hO,hH⟩) (fun _ _=>HJ _ _ _)
   simp only [execOp,resolve,invoke,List.map_toArray,List.map_cons,List.map_nil,d8,d9,d10,d13];go_simp
  ·refine aT rfl ?_
   obtain ⟨O,Ru,H,V8,hO,hH⟩:∃O Ru H,x.eval (.tmp 14)=.agg #[.pointer (some ⟨O,0,none⟩),.map (some Ru),.int .i64 0,.int .i64 lim,.slice (some ⟨H,0,none⟩) n n]∧uq w.heap.size ia inn ic O wy∧sJ w.heap.size n H wy:=by have h_:=hI.dep haft 7 14 rfl rfl rfl;rw [hSp] at h_;exact h_
   refine zx (w':=wy.alloc (.cells #[.pointer (some ⟨O,0,none⟩),.map (some Ru),.int .i64 0,.int .i64 lim,.slice (some ⟨H,0,none⟩) n n] 106)) (v:=.pointer (some ⟨wy.heap.size,0,none⟩)) ?_ (by subst hSp;exact ⟨_,rfl,JK,O,Ru,H,dI.new wy _ _,hO.kept ((Kept.refl aA wy).alloc _),hH.kept ((Kept.refl aA wy).alloc _)⟩) ((Kept.refl aA wy).alloc _) (fun _ _=>HJ _ _ _)
   simp only [execOp,resolve,invoke,List.map_toArray,List.map_cons,List.map_nil,V8];go_simp
  ·refine aT rfl ?_
   obtain ⟨W,d15,hW⟩:∃W,x.eval (.tmp 15)=.pointer (some ⟨W,0,none⟩)∧zZ w.heap.size ia inn ic n lim W wy:=by have h_:=hI.dep haft 8 15 rfl rfl rfl;rw [hSp] at h_;exact h_
   refine aK (v:=.pointer (some ⟨W,0,none⟩)) ?_ (by subst hSp;exact ⟨W,rfl,hW⟩) (fun _ _=>HJ _ _ _)
   simp only [execOp,resolve,invoke,List.map_toArray,List.map_cons,List.map_nil,d15];go_simp
 ·intro f wy hK hS _
  obtain ⟨W,e6,hW⟩:∃W,f 6=.pointer (some ⟨W,0,none⟩)∧zZ w.heap.size ia inn ic n lim W wy:=by have h_:=hS 9 _ _ rfl rfl;rw [hSp] at h_;exact h_
  simp only [gQ,List.foldl_cons,List.foldl_nil,List.setIfInBounds_toArray,List.set_cons_zero,List.set_cons_succ]
  rw [e6]
  go_wp2_with fail
  go_ret
  exact ⟨W,rfl,hW,hK⟩
end Go.Proofs.YtodebjhalipefaaGreatDoor

namespace Go.Proofs.YtodebjhalipefaaGreatDoor
set_option linter.all false
open Go.RowKit
set_option maxRecDepth 100000
set_option maxHeartbeats 4000000
def o7 (input:List aj):Prop:=1000<input.length∨∃i,∃h:i<input.length,65536<input[i].size
def WrQ (l:List aF) (input:List aj) (w:World) (e:Ending) (w':World):Prop :=
 Kept aA w w'∧((o7 input∧∃a b:Int,a≠0∧e=.returned (.tuple #[.pointer none,.agg #[.int .i64 a,.int .i64 b]]))∨
  (¬o7 input∧∃p,e=.returned (.tuple #[.pointer p,.agg #[.int .i64 0,.int .i64 0]])∧qm l w.heap.size p w'))
theorem Nu {f:Func} {tmps:Array Value} {l:List aF} {input:List aj} {w w2:World} {M:Nat} {a b:Int} {p:Option Addr} (hf:f.results = #[.tmp 6,.cell 7 39]) (h6:tmps.getD 6 undef=.pointer p) (h7:tmps.getD 7 undef=.pointer (some ⟨M,0,none⟩)) (hM:Fl M a b w2)
  (hk:Kept aA w w2) (hq:(o7 input∧a≠0∧p=none)∨(¬o7 input∧a=0∧b=0∧qm l w.heap.size p w2)):bodyPost Tryz.prog f (WrQ l input w) .ret ⟨tmps,[]⟩ w2:=by
 obtain ⟨c0,c1,_,_⟩:=hM.cells
 have ht6:tmps[6]?.getD undef=.pointer p:=by rw [←h6,Array.getD_eq_getD_getElem?]
 have ht7:tmps[7]?.getD undef=.pointer (some ⟨M,0,none⟩):=by rw [←h7,Array.getD_eq_getD_getElem?]
 refine bodyPost_ret (v:=.tuple #[.pointer p,.agg #[.int .i64 a,.int .i64 b]]) (by simp [results,hf,go_sem,ht6,ht7,c0,c1]) rfl ⟨hk,?_⟩
 rcases hq with ⟨h1,h2,rfl⟩|⟨h1,rfl,rfl,h4⟩
 ·exact .inl ⟨h1,a,b,h2,rfl⟩
 ·exact .inr ⟨h1,p,rfl,h4⟩
theorem qm.kept {l:List aF} {B:Nat} {p:Option Addr} {w w':World} {X:Nat→Prop} (h:qm l B p w) (hk:Kept X w w') (hx:∀b,X b→¬B≤b∨w.heap.size≤b):qm l B p w':=by
 obtain ⟨T,B1,B2,n1,n2,rfl,h1,h2,h3,h4,h5,h6⟩:=h
 have no:∀b,B≤b→b<w.heap.size→¬X b:=fun b hb hl hc=>(hx b hc).elim (fun h=>h hb) (fun h=>by omega)
 exact ⟨T,B1,B2,n1,n2,rfl,h1.kept hk (no _ h4 h1.lt),h2.kept hk (no _ h5 h2.lt),h3.kept hk (no _ h6 h3.lt),h4,h5,h6⟩
theorem qm.low {l:List aF} {B B':Nat} {p:Option Addr} {w:World} (h:qm l B' p w) (hb:B≤B'):qm l B p w:=by
 obtain ⟨T,B1,B2,n1,n2,rfl,h1,h2,h3,h4,h5,h6⟩:=h
 exact ⟨T,B1,B2,n1,n2,rfl,h1,h2,h3,by omega,by omega,by omega⟩
theorem V9 (l:List aF) (al:Option Addr) (cl:Nat) (S:Nat→Prop) (input:List aj) (ia:Option Addr) (ic lim:Nat) (w:World) (hl:mW w S al l) (hS:Safe S aA w.heap.size) (hlen:l.length≤1048576) (hck:bZ l=(0,0)) (hin:aX w (· < w.heap.size) ia input) (hil:input.length<1000000000) (hlim:lim≤100000) :
  Calls Tryz.prog 26 #[.slice al l.length cl,.slice ia input.length ic,.int .i64 lim] w (WrQ l input w):=by
 obtain ⟨w1,hw1⟩:∃w1,w1=w.alloc (.cells #[.int .i64 0,.int .i64 0] 39):=⟨_,rfl⟩
 have k1:Kept aA w w1:=by rw [hw1];exact (Kept.refl aA w).alloc _
 have F1:Hid (Fl w.heap.size 0 0 w1):=by rw [hw1];exact ay w _
 obtain ⟨M,hM⟩:∃M,M=w.heap.size:=⟨_,rfl⟩
 rw [←hM] at F1
 have HP:=Qp l al cl S w1 (hl.to k1 hS (fun _ h=>h)) (hS.mono k1.size) hlen
 have hz1:w1.heap.size=w.heap.size+1:=by rw [hw1];simp
 have HP:Hid (Calls Tryz.prog 41 #[.slice al l.length cl] w1 (fun e w'=>∃p,e=.returned (.tuple #[.pointer p,.agg #[.int .i64 0,.int .i64 0]])∧Kept aA w1 w'∧qm l (w.heap.size+1) p w')):=HP.mono (by
  rintro e w' ⟨p,rfl,hk,ht,_⟩
  rw [hck] at ht⊢
  exact ⟨p,rfl,hk,hz1 ▸ ht rfl⟩)
 have uZ:Hid (∀wx,Kept aA w wx→aX wx (· < wx.heap.size) ia input):=fun wx hk=>hin.to hk (Safe.lt (Nat.le_refl _)) (fun _ h=>Nat.lt_of_lt_of_le h hk.size)
 have HW1:=ah hw1;have HM:=ah hM;have K1:=ah k1
 have hlm:M<w1.heap.size:=F1.out.lt
 clear hl hS hck hin k1 hw1 hM hz1
 go_enter Tryz.func26, Tryz.ntmps26
 go_upto_region 1 with fail
 rw [←HW1.out,←HM.out]
 clear HW1
 go_upto_region 2 with (go_at_call 41;(with_reducible refine HP.out.mono ?_);rintro e w2 ⟨p,rfl,k_,t_⟩;have K2:=ah k_;have T2:=ah t_;have F2:=ah (F1.out.kept k_ (fun h=>h));clear k_ t_)
 obtain ⟨w3,hw3⟩:∃w3,w3=w2.alloc (.cells #[.int .i64 0,.int .i64 0] 39):=⟨_,rfl⟩
 obtain ⟨G,hG⟩:∃G,G=w2.heap.size:=⟨_,rfl⟩
 have k3:Kept aA w2 w3:=by rw [hw3];exact (Kept.refl aA w2).alloc _
 have G3:Hid (Fl G 0 0 w3):=by rw [hw3,hG];exact ay w2 _
 have F3:=ah (F2.out.kept k3 (fun h=>h))
 have T4:=ah (T2.out.kept k3 (fun _ h=>h.elim))
 have K3:Hid (Kept aA w w3):=(K1.out.trans K2.out).trans k3
 rw [←hw3,←hG]
 obtain ⟨g0,g1,gf0,gf1⟩:=G3.out.cells
 obtain ⟨f0,f1,ff0,ff1⟩:=F3.out.cells
 have hMw:w.heap.size≤M:=by rw [HM.out];exact Nat.le_refl _
 have KS:Hid (∀wx (a b:Int),Kept aA w3 wx→Kept aA w ((wx.setCell ⟨M,0,none⟩ (.int .i64 a)).setCell ⟨M,1,none⟩ (.int .i64 b))∧Fl M a b ((wx.setCell ⟨M,0,none⟩ (.int .i64 a)).setCell ⟨M,1,none⟩ (.int .i64 b))):=fun wx a b hk =>
  ⟨((K3.out.trans hk).setCell (p:=⟨M,0,none⟩) (.inr hMw) _).setCell (p:=⟨M,1,none⟩) (.inr hMw) _,(F3.out.kept hk (fun h=>h)).set a b⟩
 have TS:Hid (∀wx (a b:Int),Kept aA w3 wx→qm l w.heap.size p ((wx.setCell ⟨M,0,none⟩ (.int .i64 a)).setCell ⟨M,1,none⟩ (.int .i64 b))):=fun wx a b hk=>by
  have hT:qm l (w.heap.size+1) p w3:=T4.out
  have:=(hT.kept hk (fun _ h=>h.elim)).kept (((Kept.refl (· = M) wx).setCell (p:=⟨M,0,none⟩) (.inl rfl) (.int .i64 a)).setCell (p:=⟨M,1,none⟩) (.inl rfl) (.int .i64 b)) (fun b hb=>.inl (by have:b=M:=hb;rw [this,HM.out];omega))
  exact this.low (by omega)
 clear hw3 hG k3
 by_cases hb:1000<input.length
 ·have e1:decide ((1000:Int)<(input.length:Int))=true:=ak (by omega)
  have e1':decide (1000<input.length)=true:=ak hb
  go_wp2_with fail
  exact Nu Tryz.results26 rfl rfl (KS.out _ 5 0 (Kept.refl _ _)).2 (KS.out _ 5 0 (Kept.refl _ _)).1 (.inl ⟨.inl hb,by decide,rfl⟩)
 have e1:decide ((1000:Int)<(input.length:Int))=false:=au (by omega)
 have e1':decide (1000<input.length)=false:=au hb
 go_wp2_with fail
 go_loopw [27] (fun i wr=>∃j:Nat,j≤input.length∧i=.int .i64 j∧wr=w3∧Hid (∀k,(h:k<input.length)→k<j→input[k].size≤65536)) (fun i _=>input.length-(intOf i).toNat)
 case atStart=>exact ⟨0,Nat.zero_le _,rfl,rfl,fun k _ h=>absurd h (by omega)⟩
 case round =>
  obtain ⟨j,hj,rfl,rfl,hall⟩:=hrel
  by_cases hlt:j<input.length
  ·obtain ⟨bi,oi,rfl,_,hc⟩:=uZ.out _ K3.out (by omega)
   have cj:=hc j hlt
   obtain ⟨tj,htj⟩:∃tj,tj=input[j]:=⟨_,rfl⟩
   rw [←htj] at cj
   have bj:(j:Int)<(input.length:Int):=by omega
   have BU:=ah htj
   clear hc htj
   by_cases hs:65536<tj.size
   ·have e2:decide ((65536:Int)<(tj.size:Int))=true:=ak (by omega)
    have e2':decide (65536<tj.size)=true:=ak hs
    go_wp2_with fail
    exact Nu Tryz.results26 rfl rfl (KS.out _ 4 j (Kept.refl _ _)).2 (KS.out _ 4 j (Kept.refl _ _)).1 (.inl ⟨.inr ⟨j,hlt,by rw [←BU.out];exact hs⟩,by decide,rfl⟩)
   ·have e2:decide ((65536:Int)<(tj.size:Int))=false:=au (by omega)
    have e2':decide (65536<tj.size)=false:=au hs
    go_wp2_with fail
    go_roundw
    case rel=>exact ⟨j+1,by omega,by go_num,by trivial,fun k hk hkj=>by
     by_cases Nv:k=j
     ·subst Nv;rw [←BU.out];omega
     ·exact hall.out k hk (by omega)⟩
    case measure=>simp [intOf];omega
  ·obtain rfl:j=input.length:=by omega
   have d1:decide ((lim:Int)<0)=false:=au (by omega)
   have d2:decide ((100000:Int)<(lim:Int))=false:=au (by omega)
   have d2':decide (100000<lim)=false:=au (by omega)
   go_wp2_with go_region
   have hnb:¬o7 input:=by
    rintro (h|⟨k,hk,h⟩)
    ·exact hb h
    ·have:=hall.out k hk hk;omega
   exact Nu Tryz.results26 rfl rfl (KS.out _ 0 0 (Kept.refl _ _)).2 (KS.out _ 0 0 (Kept.refl _ _)).1.drew (.inr ⟨hnb,rfl,rfl,(TS.out _ 0 0 (Kept.refl _ _)).kept (Kept.refl aA _).drew (fun _ h=>h.elim)⟩)
end Go.Proofs.YtodebjhalipefaaGreatDoor

namespace Go.Proofs.YtodebjhalipefaaGreatDoor
set_option linter.all false
open Go.RowKit
set_option maxRecDepth 100000
set_option maxHeartbeats 8000000
def TW:List Value:=[.slice none 0 0,.int .i64 0,.int .i64 0,.slice none 0 0,.slice none 0 0]
def aif (l:List aF) (input:List aj) (lim:Nat) (w:World) (e:Ending) (w':World):Prop :=
 Kept aA w w'∧((o7 input∧∃a b:Int,a≠0∧e=.returned (.tuple #[.agg #[.slice none 0 0,.int .i64 0,.int .i64 0,.slice none 0 0,.slice none 0 0],.slice none 0 0,.agg #[.int .i64 a,.int .i64 b]]))∨
  (¬o7 input∧∃(oa a3 a4:Option Addr) (oc n3 c3 n4 c4:Nat) (hv:Value),e=.returned (.tuple #[.agg #[.slice oa (jP l lim 0 (qB input)).output.length oc,.int .i64 (jP l lim 0 (qB input)).how,.int .i64 (jP l lim 0 (qB input)).steps,.slice a3 n3 c3,.slice a4 n4 c4],hv,.agg #[.int .i64 0,.int .i64 0]])∧
   aP w' w.heap.size 9 1 (.slice oa (jP l lim 0 (qB input)).output.length oc) (jP l lim 0 (qB input)).output.length ((jP l lim 0 (qB input)).output.map Value.string)))
theorem Aa {B:Nat} {w:World} {o:List Value} (h:dI B 29 o w) (ho:o.length=5) (v0 v1 v2 v3 v4:Value):dI B 29 [v0,v1,v2,v3,v4] (((((w.setCell ⟨B,0,none⟩ v0).setCell ⟨B,1,none⟩ v1).setCell ⟨B,2,none⟩ v2).setCell ⟨B,3,none⟩ v3).setCell ⟨B,4,none⟩ v4):=by
 obtain ⟨a,b,c,d,e,rfl⟩:∃a b c d e,o=[a,b,c,d,e]:=by
  rcases o with _|⟨a,_|⟨b,_|⟨c,_|⟨d,_|⟨e,_|⟨f,o⟩⟩⟩⟩⟩⟩<;>simp at ho
  exact ⟨a,b,c,d,e,rfl⟩
 exact ((((h.set 0 v0).set 1 v1).set 2 v2).set 3 v3).set 4 v4
theorem yc (B:Nat) (w:World) (v0 v1 v2 v3 v4:Value):Kept (· = B) w (((((w.setCell ⟨B,0,none⟩ v0).setCell ⟨B,1,none⟩ v1).setCell ⟨B,2,none⟩ v2).setCell ⟨B,3,none⟩ v3).setCell ⟨B,4,none⟩ v4) :=
 (((((Kept.refl (· = B) w).setCell (p:=⟨B,0,none⟩) (.inl rfl) _).setCell (p:=⟨B,1,none⟩) (.inl rfl) _).setCell (p:=⟨B,2,none⟩) (.inl rfl) _).setCell (p:=⟨B,3,none⟩) (.inl rfl) _).setCell (p:=⟨B,4,none⟩) (.inl rfl) _
theorem yg (B:Nat) (w:World) (v0 v1:Value):Kept (· = B) w ((w.setCell ⟨B,0,none⟩ v0).setCell ⟨B,1,none⟩ v1) :=
 ((Kept.refl (· = B) w).setCell (p:=⟨B,0,none⟩) (.inl rfl) _).setCell (p:=⟨B,1,none⟩) (.inl rfl) _
theorem Rj {f:Func} {tmps:Array Value} {Q:Ending→World→Prop} {w2:World} {A C:Nat} {v0 v1 v2 v3 v4 hv:Value} {a b:Int} (hf:f.results = #[.cell 6 29,.tmp 7,.cell 8 39]) (h6:tmps.getD 6 undef=.pointer (some ⟨A,0,none⟩)) (h7:tmps.getD 7 undef=hv) (h8:tmps.getD 8 undef=.pointer (some ⟨C,0,none⟩))
  (hA:dI A 29 [v0,v1,v2,v3,v4] w2) (hC:Fl C a b w2) (hq:Q (.returned (.tuple #[.agg #[v0,v1,v2,v3,v4],hv,.agg #[.int .i64 a,.int .i64 b]])) w2):bodyPost Tryz.prog f Q .ret ⟨tmps,[]⟩ w2:=by
 obtain ⟨c0,c1,_,_⟩:=hC.cells
 have z0:=hA.cell (i:=0) rfl
 have z1:=hA.cell (i:=1) rfl
 have z2:=hA.cell (i:=2) rfl
 have z3:=hA.cell (i:=3) rfl
 have z4:=hA.cell (i:=4) rfl
 have ht6:tmps[6]?.getD undef=.pointer (some ⟨A,0,none⟩):=by rw [←h6,Array.getD_eq_getD_getElem?]
 have ht7:tmps[7]?.getD undef=hv:=by rw [←h7,Array.getD_eq_getD_getElem?]
 have ht8:tmps[8]?.getD undef=.pointer (some ⟨C,0,none⟩):=by rw [←h8,Array.getD_eq_getD_getElem?]
 exact bodyPost_ret (v:=.tuple #[.agg #[v0,v1,v2,v3,v4],hv,.agg #[.int .i64 a,.int .i64 b]]) (by simp [results,hf,go_sem,ht6,ht7,ht8,c0,c1,z0,z1,z2,z3,z4]) rfl hq
theorem ZX {l:List aF} {al:Option Addr} {cl:Nat} {S:Nat→Prop} {G:World→Prop} {p:Option Addr} {B:Nat} {input:List aj} {ia:Option Addr} {ic lim W N:Nat} {w2 w3:World} (hl:mW w2 S al l) (hS:∀b,S b→b<N) (hT:qm l B p w2) (hg:G w2) (gk:∀wa wb,Kept (fun b=>N≤b) wa wb→G wa→G wb) (hN:N=w2.heap.size)
  (hin:aX w2 (· < N) ia input) (hic:input.length≤ic) (hW:zZ N ia input.length ic l.length lim W w3) (hk:Kept aA w2 w3) (hl0:0<l.length) :
  ∃F:dG,F.M=w3.heap.size+1∧F.N=N∧F.W=W∧F.R=w3.heap.size∧F.l=l∧F.al=al∧F.cl=cl∧F.lim=lim∧F.G=G∧(∃T,p=some ⟨T,0,none⟩∧F.T=T)∧
   ∀w4,Kept aA w3 w4→dI w3.heap.size 80 [.pointer (some ⟨W,0,none⟩),.slice al l.length cl,.pointer p,.int .i64 0] w4→F.M≤w4.heap.size→aY F (.slice none 0 0) (qB input) w4:=by
 obtain ⟨hW0,O,Ru,H,hbW,⟨V,I,hV,hI,hO,hVI,Rk,JW,Wh⟩,hH,Rl⟩:=hW
 obtain ⟨T,B1,B2,n1,n2,rfl,ht,hm1,hm2,hT1,hT2,hT3⟩:=hT
 have lO:=Rk.lt;have lW:=hbW.lt;have lH:=Rl.lt
 have lV:=(Array.getElem?_eq_some_iff.1 JW).1;have lI:=(Array.getElem?_eq_some_iff.1 Wh).1
 have neq:∀{x y:Nat} {a b:Obj},w3.heap[x]?=some a→w3.heap[y]?=some b→a≠b→x≠y:=fun ha hb hne e=>by subst e;rw [ha] at hb;cases hb;exact hne rfl
 have hfx:abR ⟨N,w3.heap.size+1,O,W,w3.heap.size,V,I,Ru,H,l,al,cl,S,T,B1,B2,n1,lim,G⟩:=⟨⟨hO,by show O<w3.heap.size+1;omega⟩,⟨hW0,by show W<w3.heap.size+1;omega⟩,⟨by show N≤w3.heap.size;have:=hk.size;omega,by show w3.heap.size<w3.heap.size+1;omega⟩,⟨hV,by show V<w3.heap.size+1;omega⟩,⟨hI,by show I<w3.heap.size+1;omega⟩,⟨hH,by show H<w3.heap.size+1;omega⟩,
  ⟨neq Rk hbW (by simp),by show O≠w3.heap.size;omega,neq Rk JW (by simp),neq Rk Wh (by simp),neq Rk Rl (by simp),by show W≠w3.heap.size;omega,neq hbW JW (by simp),neq hbW Wh (by simp),neq hbW Rl (by simp),by show w3.heap.size≠V;omega,by show w3.heap.size≠I;omega,by show w3.heap.size≠H;omega,hVI,neq JW Rl (by simp),neq Wh Rl (by simp)⟩⟩
 refine ⟨⟨N,w3.heap.size+1,O,W,w3.heap.size,V,I,Ru,H,l,al,cl,S,T,B1,B2,n1,lim,G⟩,rfl,rfl,rfl,rfl,rfl,rfl,rfl,rfl,rfl,⟨T,rfl,rfl⟩,fun w4 hk4 hb4 hM=>?_⟩
 have k24:=hk.trans hk4
 have hNl:N≤w4.heap.size:=by have:=k24.size;omega
 refine ⟨⟨hNl,hl.to k24 (fun b hb=>⟨by have:=hS b hb;omega,fun h=>h⟩) (fun _ h=>h),hS,ht.kept k24 (fun h=>h),hm1.kept k24 (fun h=>h),⟨by show T<N;have:=ht.lt;omega,by show B1<N;have:=hm1.lt;omega⟩,gk _ _ (k24.more fun _ h=>h.elim) hg,gk⟩,hfx,hM,hb4,hbW.kept hk4 (fun h=>h),
  ⟨List.replicate l.length 0,by simp,by rw [List.map_replicate];exact Rl.kept hk4 (fun h=>h)⟩,⟨ia,ic,Rk.kept hk4 (fun h=>h),?_,hic⟩,aP.nil _ _ _ _,?_,⟨rfl,(hk4.block I lI (fun h=>h)).trans Wh⟩⟩
 ·exact hin.to k24 (fun b hb=>⟨by have:b<N:=hb;omega,fun h=>h⟩) (fun _ h=>h)
 ·exact iT.of ((hk4.block V lV (fun h=>h)).trans JW)
theorem run_any (l:List aF) (al:Option Addr) (cl:Nat) (S:Nat→Prop) (input:List aj) (ia:Option Addr) (ic lim:Nat) (w:World) (G:World→Prop) (nb:aj→Bool) (kb:Int→Bool) (BH:∀F:dG,F.G=G→BR F nb kb) (h4:kb 4=false)
  (hl:mW w S al l) (hS:Safe S aA w.heap.size) (hlen:l.length≤1000000) (hl0:0<l.length) (hck:bZ l=(0,0)) (hok:∀s∈l,okS nb kb s=true) (hin:aX w (· < w.heap.size) ia input) (hic:input.length≤ic) (hil:input.length<1000000000) (hlim:lim≤100000) (hg:G w) (gk:∀N wa wb,w.heap.size≤N→Kept (fun b=>N≤b) wa wb→G wa→G wb) :
  Calls Tryz.prog 14 #[.slice al l.length cl,.slice ia input.length ic,.int .i64 lim] w (aif l input lim w):=by
 obtain ⟨w1,hw1⟩:∃w1,w1=(w.alloc (.cells #[.slice none 0 0,.int .i64 0,.int .i64 0,.slice none 0 0,.slice none 0 0] 29)).alloc (.cells #[.int .i64 0,.int .i64 0] 39):=⟨_,rfl⟩
 obtain ⟨A,hA⟩:∃A,A=w.heap.size:=⟨_,rfl⟩
 have k1:Kept aA w w1:=by rw [hw1];exact ((Kept.refl aA w).alloc _).alloc _
 have A1:Hid (dI A 29 TW w1):=by rw [hw1,hA];exact (dI.new w _ TW).kept ((Kept.refl aA _).alloc _) (fun h=>h)
 have C1:Hid (Fl (w.heap.size+1) 0 0 w1):=by
  have:=ay (w.alloc (.cells #[.slice none 0 0,.int .i64 0,.int .i64 0,.slice none 0 0,.slice none 0 0] 29)) (.cells #[.int .i64 0,.int .i64 0] 39)
  rw [hw1];unfold Hid Fl;rw [←this];simp
 obtain ⟨C,hC⟩:∃C,C=w.heap.size+1:=⟨_,rfl⟩
 rw [←hC] at C1
 have hz1:w1.heap.size=w.heap.size+2:=by rw [hw1];simp
 have hin1:aX w1 (· < w1.heap.size) ia input:=hin.to k1 (Safe.lt (Nat.le_refl _)) (fun _ h=>Nat.lt_of_lt_of_le h k1.size)
 have HWR:=ah (V9 l al cl S input ia ic lim w1 (hl.to k1 hS (fun _ h=>h)) (hS.mono k1.size) (by omega) hck hin1 hil hlim)
 have HW1:=ah hw1;have HA:=ah hA;have HC:=ah hC;have K1:=ah k1;have HZ1:=ah hz1;have uZ:=ah hin1;have HSL:=ah hl;have vU:=ah hS;have HG:=ah hg;have GK:=ah gk;have HBH:=ah BH;have Rn:=ah hok
 have hAC:A<w1.heap.size∧C<w1.heap.size∧A≠C∧w.heap.size≤A∧w.heap.size≤C:=by omega
 have JX:=ah hAC
 by_cases hb:o7 input
 ·have HWB:Hid (Calls Tryz.prog 26 #[.slice al l.length cl,.slice ia input.length ic,.int .i64 lim] w1 (fun e w'=>∃a b:Int,a≠0∧e=.returned (.tuple #[.pointer none,.agg #[.int .i64 a,.int .i64 b]])∧Kept aA w1 w')):=HWR.out.mono (by
   rintro e w' ⟨hk,⟨_,a,b,ha,he⟩|⟨hn,_⟩⟩
   ·exact ⟨a,b,ha,he,hk⟩
   ·exact absurd hb hn)
  clear hw1 hA hC k1 hz1 hin1 hl hS hck hin hg gk BH hok hAC
  go_enter Tryz.func14, Tryz.ntmps14
  go_upto_region 1 with fail
  rw [←HW1.out,←HC.out,←HA.out]
  clear HW1
  go_upto_region 2 with (go_at_call 26;(with_reducible refine HWB.out.mono ?_);rintro e w2 ⟨a,b,Wi,rfl,k_⟩;have K2:=ah k_;have HN:=ah Wi;clear k_ Wi)
  obtain ⟨w3,hw3⟩:∃w3,w3=w2.alloc (.cells #[.int .i64 a,.int .i64 b] 39):=⟨_,rfl⟩
  obtain ⟨D,hD⟩:∃D,D=w2.heap.size:=⟨_,rfl⟩
  have k3:Kept aA w2 w3:=by rw [hw3];exact (Kept.refl aA w2).alloc _
  have D3:Hid (Fl D a b w3):=by rw [hw3,hD];exact ay w2 _
  have A3:=ah ((A1.out.kept K2.out (fun h=>h)).kept k3 (fun h=>h))
  have C3:=ah ((C1.out.kept K2.out (fun h=>h)).kept k3 (fun h=>h))
  have Em:=ah (K2.out.trans k3)
  have hDC:D≠C∧D≠A:=by have:=K2.out.size;have:=JX.out;omega
  have Nw:=JX.out.2.2.1
  have ZY:C≠A:=fun e=>Nw e.symm
  rw [←hw3,←hD]
  obtain ⟨d0,d1,JY,JZ⟩:=D3.out.cells
  obtain ⟨c0,c1,Ro,cf1⟩:=C3.out.cells
  have x0:=A3.out.cell (i:=0) rfl;have x1:=A3.out.cell (i:=1) rfl;have x2:=A3.out.cell (i:=2) rfl;have x3:=A3.out.cell (i:=3) rfl;have x4:=A3.out.cell (i:=4) rfl
  have y0:=A3.out.free 0;have y1:=A3.out.free 1;have y2:=A3.out.free 2;have y3:=A3.out.free 3;have y4:=A3.out.free 4
  have e1:(a != 0)=true:=by simpa using HN.out
  clear hw3 hD k3
  go_wp2_with go_region
  have H5:=Aa A3.out rfl (.slice none 0 0) (.int .i64 0) (.int .i64 0) (.slice none 0 0) (.slice none 0 0)
  have k5:=yc A w3 (.slice none 0 0) (.int .i64 0) (.int .i64 0) (.slice none 0 0) (.slice none 0 0)
  have k6:=yg C (((((w3.setCell ⟨A,0,none⟩ (.slice none 0 0)).setCell ⟨A,1,none⟩ (.int .i64 0)).setCell ⟨A,2,none⟩ (.int .i64 0)).setCell ⟨A,3,none⟩ (.slice none 0 0)).setCell ⟨A,4,none⟩ (.slice none 0 0)) (.int .i64 a) (.int .i64 b)
  have C5:=(C3.out.kept k5 ZY).set a b
  have h1:=JX.out
  refine Rj Tryz.results14 rfl rfl rfl (H5.kept k6.drew Nw) (C5.kept (Kept.refl aA _).drew (fun h=>h)) ⟨?_,.inl ⟨hb,a,b,HN.out,rfl⟩⟩
  exact (((K1.out.trans Em.out).step k5 (fun y hy=>.inr (by have:y=A:=hy;omega))).step k6 (fun y hy=>.inr (by have:y=C:=hy;omega))).drew
 ·have HWB:Hid (Calls Tryz.prog 26 #[.slice al l.length cl,.slice ia input.length ic,.int .i64 lim] w1 (fun e w'=>∃p,e=.returned (.tuple #[.pointer p,.agg #[.int .i64 0,.int .i64 0]])∧qm l w1.heap.size p w'∧Kept aA w1 w')):=HWR.out.mono (by
   rintro e w' ⟨hk,⟨hn,_⟩|⟨_,p,he,ht⟩⟩
   ·exact absurd hn hb
   ·exact ⟨p,he,ht,hk⟩)
  clear hw1 hA hC k1 hz1 hin1 hl hS hck hin hg gk BH hok hAC
  go_enter Tryz.func14, Tryz.ntmps14
  go_upto_region 1 with fail
  rw [←HW1.out,←HC.out,←HA.out]
  clear HW1
  go_upto_region 2 with (go_at_call 26;(with_reducible refine HWB.out.mono ?_);rintro e w2 ⟨p,rfl,t_,k_⟩;have K2:=ah k_;have T2:=ah t_;clear k_ t_)
  obtain ⟨w3,hw3⟩:∃w3,w3=w2.alloc (.cells #[.int .i64 0,.int .i64 0] 39):=⟨_,rfl⟩
  obtain ⟨D,hD⟩:∃D,D=w2.heap.size:=⟨_,rfl⟩
  have k3:Kept aA w2 w3:=by rw [hw3];exact (Kept.refl aA w2).alloc _
  have D3:Hid (Fl D 0 0 w3):=by rw [hw3,hD];exact ay w2 _
  have Em:=ah (K2.out.trans k3)
  have T3:=ah (T2.out.kept k3 (fun _ h=>h.elim))
  have hDC:D≠C∧D≠A:=by have:=K2.out.size;have:=JX.out;omega
  have hDw:w.heap.size≤D:=by have:=K2.out.size;have:=JX.out;omega
  rw [←hw3,←hD]
  obtain ⟨d0,d1,JY,JZ⟩:=D3.out.cells
  clear hw3 hD k3
  go_upto_region 4 with fail
  have hkw:Kept aA w w3:=K1.out.trans Em.out
  go_upto_region 5 with (go_at_call 27;(with_reducible refine (Ns al ia l.length cl input.length ic lim _ (by omega)).mono ?_);rintro e w4 ⟨W,rfl,aH,k_⟩;have HWN:=ah aH;have K4:=ah k_;clear aH k_)
  obtain ⟨F,fM,fN,fW,fR,fl,fal,fcl,Z7,fG,⟨T,hp,fT⟩,hrun⟩:=ZX (p:=p) (G:=G) (cl:=cl) (HSL.out.to hkw vU.out (fun _ h=>h)) (fun b hb=>Nat.lt_of_lt_of_le (vU.out b hb).1 hkw.size) (T3.out.low (B:=0) (Nat.zero_le _)) (GK.out w.heap.size _ _ (Nat.le_refl _) (hkw.more fun _ h=>h.elim) HG.out) (fun wa wb hk hg=>GK.out _ wa wb hkw.size hk hg) rfl (uZ.out.to Em.out (Safe.lt (Nat.le_refl _)) (fun _ h=>Nat.lt_of_lt_of_le h Em.out.size)) hic HWN.out K4.out hl0
  subst hp
  obtain ⟨w5,hw5⟩:∃w5,w5=w4.alloc (.cells #[.pointer (some ⟨W,0,none⟩),.slice al l.length cl,.pointer (some ⟨T,0,none⟩),.int .i64 0] 80):=⟨_,rfl⟩
  have k5:Kept aA w4 w5:=by rw [hw5];exact (Kept.refl aA w4).alloc _
  have hR5:=hrun w5 k5 (by rw [hw5];exact dI.new w4 _ _) (by rw [fM,hw5];simp)
  have Ny:=Qo F nb kb (HBH.out F fG) h4 (.slice none 0 0) (qB input) w5 hR5 (bG.start (fun t ht=>by
   obtain ⟨i,hi,rfl⟩:=List.mem_iff_getElem.1 ht
   exact Nat.le_of_not_lt fun h=>hb (.inr ⟨i,hi,h⟩))) (by rw [fl];exact Rn.out) (by rw [Z7];omega) (by rw [fl];exact hlen) (Nat.zero_le _)
  rw [fl,Z7] at Ny
  have Ny:Calls Tryz.prog 28 #[.pointer (some ⟨F.R,0,none⟩),.int .i64 0] w5 (ThQ F (.slice none 0 0) w5 (jP l lim 0 (qB input))):=Ny
  obtain ⟨E,hE⟩:∃E,E=w4.heap.size:=⟨_,rfl⟩
  rw [←hw5,←hE]
  rw [←hE] at fR
  obtain ⟨R0,hR0⟩:∃R0,R0=jP l lim 0 (qB input):=⟨_,rfl⟩
  rw [←hR0] at Ny
  rw [fR] at Ny
  have HTH:=ah Ny;have HR0:=ah hR0;have K5:=ah k5;have HFW:=ah fW;have HFR:=ah fR;have HFN:=ah fN
  have hok0:bG R0:=by
   rw [hR0]
   exact abQ Rn.out _ _ _ (bG.start (fun t ht=>by
    obtain ⟨i,hi,rfl⟩:=List.mem_iff_getElem.1 ht
    exact Nat.le_of_not_lt fun h=>hb (.inr ⟨i,hi,h⟩)))
  have HX:Hid (∀b,RX F (.slice none 0 0) b→w3.heap.size≤b):=fun b hb=>by have:=(hR5.xlt hb).1;omega
  have HFM:Hid (w.heap.size+2≤F.M):=by have:=K4.out.size;have:=Em.out.size;have:=HZ1.out;unfold Hid;omega
  have aii:=ah hok0
  clear Ny hR0 k5 hw5 hE fW fR fN fM fl fal fcl Z7 fG fT hrun hR5 hok0 d0 d1 JY JZ
  go_upto_region 6 with (go_at_call 28;(with_reducible refine HTH.out.mono ?_);rintro e w6 ⟨rfl,ov6,r_⟩;have R6:=ah r_;clear r_)
  have hSW:=V7 F ov6 R0 w6 R6.out.at_ aii.out
  obtain ⟨r0,_⟩:=R6.out.at_.wW
  rw [HFR.out,HFW.out] at r0
  rw [HFW.out] at hSW
  obtain ⟨oa,oc,hov⟩:=R6.out.at_.out.shape
  subst hov
  have HSW:=ah hSW
  have W6:=ah R6.out.at_.out
  clear hSW
  go_upto_region 7 with (go_at_call 29;(with_reducible refine HSW.out.mono ?_);rintro e w7 ⟨a3,a4,n3,c3,n4,c4,hv,rfl,k_⟩;have K7:=ah k_;clear k_)
  obtain ⟨w8,hw8⟩:∃w8,w8=w7.alloc (.cells #[.slice oa R0.output.length oc,.int .i64 R0.how,.int .i64 R0.steps,.slice a3 n3 c3,.slice a4 n4 c4] 29):=⟨_,rfl⟩
  have k8:Kept aA w7 w8:=by rw [hw8];exact (Kept.refl aA w7).alloc _
  have k38:Kept aA w3 w8:=(((K4.out.trans K5.out).step R6.out.kept (fun y hy=>.inr (HX.out y hy))).trans K7.out).trans k8
  obtain ⟨Q,hQ⟩:∃Q,Q=w7.heap.size:=⟨_,rfl⟩
  have hQ8:dI Q 29 [.slice oa R0.output.length oc,.int .i64 R0.how,.int .i64 R0.steps,.slice a3 n3 c3,.slice a4 n4 c4] w8:=by rw [hw8,hQ];exact dI.new w7 _ _
  have D8:=D3.out.kept k38 (fun h=>h)
  have A8:=(A1.out.kept Em.out (fun h=>h)).kept k38 (fun h=>h)
  have C8:=ah ((C1.out.kept Em.out (fun h=>h)).kept k38 (fun h=>h))
  have W8:=ah ((W6.out.kept K7.out (fun _ _ h=>h)).kept k8 (fun _ _ h=>h))
  have K18:=ah (Em.out.trans k38)
  have hQn:Q≠A∧Q≠C∧A≠Q∧C≠Q:=by have:=Em.out.size;have:=JX.out;have:=((((K4.out.trans K5.out).step R6.out.kept (fun y hy=>.inr (HX.out y hy))).trans K7.out)).size;omega
  have Nw:=JX.out.2.2.1
  have ZY:C≠A:=fun e=>Nw e.symm
  obtain ⟨q1,q2,q3,q4⟩:=hQn
  rw [←hw8,←hQ]
  obtain ⟨d0,d1,JY,JZ⟩:=D8.cells
  obtain ⟨c0,c1,Ro,cf1⟩:=C8.out.cells
  have x0:=A8.cell (i:=0) rfl;have x1:=A8.cell (i:=1) rfl;have x2:=A8.cell (i:=2) rfl;have x3:=A8.cell (i:=3) rfl;have x4:=A8.cell (i:=4) rfl
  have y0:=A8.free 0;have y1:=A8.free 1;have y2:=A8.free 2;have y3:=A8.free 3;have y4:=A8.free 4
  have z0:=hQ8.cell (i:=0) rfl;have z1:=hQ8.cell (i:=1) rfl;have z2:=hQ8.cell (i:=2) rfl;have z3:=hQ8.cell (i:=3) rfl;have z4:=hQ8.cell (i:=4) rfl
  have HA8:=ah A8
  clear hw8 hQ k8 k38 hQ8 D8 A8 r0
  go_wp2_with go_region
  have H5:=Aa HA8.out rfl (.slice oa R0.output.length oc) (.int .i64 R0.how) (.int .i64 R0.steps) (.slice a3 n3 c3) (.slice a4 n4 c4)
  have k5:=yc A w8 (.slice oa R0.output.length oc) (.int .i64 R0.how) (.int .i64 R0.steps) (.slice a3 n3 c3) (.slice a4 n4 c4)
  have k6:=yg C (((((w8.setCell ⟨A,0,none⟩ (.slice oa R0.output.length oc)).setCell ⟨A,1,none⟩ (.int .i64 R0.how)).setCell ⟨A,2,none⟩ (.int .i64 R0.steps)).setCell ⟨A,3,none⟩ (.slice a3 n3 c3)).setCell ⟨A,4,none⟩ (.slice a4 n4 c4)) (.int .i64 0) (.int .i64 0)
  have C5:=(C8.out.kept k5 ZY).set 0 0
  have h1:=JX.out
  have h2:=HFM.out
  have h3:=HZ1.out
  refine Rj Tryz.results14 rfl rfl rfl (H5.kept k6.drew Nw) (C5.kept (Kept.refl aA _).drew (fun h=>h)) ⟨?_,.inr ⟨hb,oa,a3,a4,oc,n3,c3,n4,c4,hv,by rw [←HR0.out];rfl,?_⟩⟩
  ·exact (((K1.out.trans K18.out).step k5 (fun y hy=>.inr (by have:y=A:=hy;omega))).step k6 (fun y hy=>.inr (by have:y=C:=hy;omega))).drew
  ·rw [←HR0.out]
   have:=((W8.out.kept k5 (fun b hb e=>by have e:b=A:=e;have:=(W8.out.lt b hb).1;omega)).kept k6.drew (fun b hb e=>by have e:b=C:=e;have:=(W8.out.lt b hb).1;omega)).mono (B':=w.heap.size) (by omega)
   exact this
end Go.Proofs.YtodebjhalipefaaGreatDoor
