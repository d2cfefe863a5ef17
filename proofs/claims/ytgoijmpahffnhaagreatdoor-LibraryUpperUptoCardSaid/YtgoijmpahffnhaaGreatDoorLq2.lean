/-  -/
import Derived.Test.YtgoijmpahffnhaaGreatDoorWrong
namespace Go.Proofs.YtgoijmpahffnhaaGreatDoor
set_option linter.all false
open Go.RowKit
set_option maxRecDepth 100000
set_option maxHeartbeats 400000
def wO (_:Int) (p:aB) (_:Nat):Int×Bool:=(iU p,iU p==0)
def Js (c:Nat) (e:Int) (w:World):Prop:=dJ w c 25 (.int .i64 e)
theorem XJ (c:Nat) (st:Int) (p:aB) (b o d:Nat) (S:Nat→Prop) (w:World) (hI:Js c st w) (hp:aX w S b o p) :
  Calls Tryz.prog 135 #[.pointer (some ⟨b,o,none⟩),.int .i64 (d:Nat),.pointer (some ⟨c,0,none⟩)] w
   (vO (Js c) (· = c) (wO st p d) w):=by
 have q1:=hI.cell;have f1:=hI.free
 have K:∀u,u=iU p→vO (Js c) (· = c) (wO st p d) w (.returned (.bool (u==0))) (w.setCell ⟨c,0,none⟩ (.int .i64 u)):=by
  rintro u rfl;exact ⟨rfl,hI.set _,(Kept.refl _ w).setCell (.inl (by simp)) _⟩
 have HK:=ah K;clear K
 clear hI
 go_enter Tryz.func135, Tryz.ntmps135
 go_wp2_with fail
 refine (aa6 p b o S _ hp).mono ?_
 rintro e w1 ⟨rfl,rfl⟩
 go_wp2_with fail
 go_ret
 exact HK.out _ rfl
def bM (p:aB):Int:=if (jB oJ (0,0) p 1).2 then (jB wO 0 p 1).1 else 4
theorem zH (p:aB) (v:Value) (w:World) (hp:oV w (· < w.heap.size) v p) (hsz:sizeT p≤100000000) :
  Calls Tryz.prog 95 #[v] w (fun e w'=>e=.returned (.int .i64 (bM p))∧Kept aA w w'):=by
 obtain ⟨c,hv,hb⟩:=hp.box 57 (fun b hb=>hb)
 have hp0:=hp
 obtain ⟨ka,cap,rfl,hz,hk⟩:=hp
 simp only [Value.agg.injEq] at hv;subst hv
 have hmf:∀(fn:Fn) (first cap:Array Value) (w:World),(Instr.makeFunc fn first cap).run Tryz.prog w=.ok (.func fn first cap) w:=fun _ _ _ _=>rfl
 go_enter Tryz.func95, Tryz.ntmps95
 go_wp2_with fail
 refine (size_any p _ _ ⟨ka,cap,rfl,hz,aN.same (fun b hb=>Below.heap_alloc _ _ _ hb) (fun b hb=>by simp;omega) _ _ hk⟩ hsz).mono ?_
 rintro e w1 ⟨rfl,hk1⟩
 have uV:Hid (Kept aA w w1):=((Kept.refl aA w).alloc _).quiet hk1
 have hb1:=hb.kept hk1 (fun b hb=>⟨by simp;omega,fun h=>h⟩)
 have hsz1:w.heap.size+1≤w1.heap.size:=by have:=hk1.size;simpa using this
 clear hk hp0 hb hk1
 cases hr:jB oJ (0,0) p 1 with
 | mk st ok =>
 obtain ⟨n,d⟩:=st
 have e1:Ji p=Jh ((n,d),ok):=by simp [Ji,hr]
 cases ok with
 | false =>
  have Hf:Hid (bM p=4):=by simp [bM,hr,Hid]
  rw [e1];clear hr e1
  dsimp only [Jh]
  go_wp2_with fail
  go_ret
  exact ⟨zQ Hf.out.symm,uV.out⟩
 | true =>
  have Hf:Hid (bM p=(jB wO 0 p 1).1):=by simp [bM,hr,Hid]
  rw [e1];clear hr e1
  dsimp only [Jh]
  go_wp2_with fail
  refine (walk_any 135 #[.pointer (some ⟨w1.heap.size,0,none⟩)] (fun _ _=>by kernel_rfl) (Js w1.heap.size) (fun _ _=>True) wO
   (fun _ _ _ _ _ _=>trivial) (· = w1.heap.size) (fun b=>b<w.heap.size∨b=w.heap.size) 500000000 (by omega) ?cl 100000000 p 0 0 w.heap.size 0 1 _ hsz (by omega) ?i trivial ?pt ?sf).mono ?_
  case cl =>
   intro _ st p b o d w' hi _ hp' _ hd
   exact XJ _ st p b o d _ w' hi hp'
  case i=>exact dJ.new' rfl
  case pt=>exact aX.same (fun b hb=>by rw [Below.heap_alloc];omega) (fun _ h=>h) _ _ _ hb1
  case sf=>intro b hb;simp;omega
  rintro e w2 ⟨rfl,hI2,hk2⟩
  have CS:Hid (Kept aA w w2):=(uV.out.alloc _).step hk2 (by simp;omega)
  have q1:=hI2.cell;have f1:=hI2.free
  clear hb1 hk2 hI2
  go_wp2_with fail
  go_ret
  exact ⟨zQ Hf.out.symm,CS.out⟩
end Go.Proofs.YtgoijmpahffnhaaGreatDoor

namespace Go.Proofs.YtgoijmpahffnhaaGreatDoor
set_option linter.all false
open Go.RowKit
mutual
def allT:aB→List aB
 | .mk k t n nm kids=>.mk k t n nm kids::allL kids
def allL:List aB→List aB
 | []=>[]
 | p::ps=>allT p++allL ps
end
mutual
def xY:aB→Nat
 | .mk _ _ _ _ kids=>1+zX kids
def zX:List aB→Nat
 | []=>0
 | p::ps=>max (xY p) (zX ps)
end
theorem Dh (p:aB):1≤sizeT p:=by cases p;simp only [sizeT];omega
def fits (p:aB):Prop:=sizeT p≤4096∧xY p≤200
instance (p:aB):Decidable (fits p):=by unfold fits;exact inferInstance
end Go.Proofs.YtgoijmpahffnhaaGreatDoor
