/-  -/
import Derived.Test.YtefjbnhpjdhjmaaGreatDoorTm1
namespace Go.Proofs.YtefjbnhpjdhjmaaGreatDoor
set_option linter.all false
open Go.RowKit
set_option maxRecDepth 100000
set_option maxHeartbeats 400000
def jA (st:Nat×Nat) (_:aA) (d:Nat):(Nat×Nat)×Bool :=
 ((st.1+1,max st.2 d),decide (st.1+1≤4096)&&decide (d≤200))
def Nh (c1 c2:Nat) (st:Nat×Nat) (w:World):Prop:=gV w c1 3 (.int .i64 st.1)∧gV w c2 3 (.int .i64 st.2)
theorem Xc {c1 c2 n k d:Nat} {p:aA} {w:World} (hne:c1≠c2) (h1:gV w c1 3 (.int .i64 n)) (h2:gV w c2 3 (.int .i64 k)) {u:Bool} {v:Int}
  (hu:u=(decide (n+1≤4096)&&decide (d≤200))) (hv:v=(max k d:Nat)) :
  xB (Nh c1 c2) (fun b=>b=c1∨b=c2) (jA (n,k) p d) w (.returned (.bool u)) ((w.setCell ⟨c1,0,none⟩ (.int .i64 ((n:Int)+1))).setCell ⟨c2,0,none⟩ (.int .i64 v)):=by
 subst hu hv
 refine ⟨rfl,⟨?_,(h2.other hne.symm _).set _⟩,((Kept.refl _ w).setCell (.inl (by simp)) _).setCell (.inl (by simp)) _⟩
 simpa [jA] using (h1.set (.int .i64 ((n:Int)+1))).other (o:=0) hne (.int .i64 (max k d:Nat))
theorem Xd (c1 c2:Nat) (hne:c1≠c2) (st:Nat×Nat) (p:aA) (a:Value) (d:Nat) (w:World)
  (hI:Nh c1 c2 st w) (hd:d<1000000000) (hs:st.1≤4096) :
  Calls Tryz.prog 83 #[a,.int .i64 (d:Nat),.pointer (some ⟨c1,0,none⟩),.pointer (some ⟨c2,0,none⟩)] w
   (xB (Nh c1 c2) (fun b=>b=c1∨b=c2) (jA st p d) w):=by
 obtain ⟨n,k⟩:=st
 obtain ⟨h1,h2⟩:=hI
 dsimp only at h1 h2 hs
 have q1:=h1.cell;have q2:=h2.cell;have f1:=h1.free;have f2:=h2.free
 have H1:=ah h1;have H2:=ah h2;clear h1 h2
 go_enter Tryz.func83, Tryz.ntmps83
 go_wp2
 all_goals
  go_ret
  exact Xc hne H1.out H2.out (by first|(rw [ak (show n+1≤4096 from by omega),Bool.true_and];exact decide_eq_decide.2 (by omega))|rw [au (show ¬n+1≤4096 from by omega),Bool.false_and]) (by omega)
theorem gZ.box {w:World} {S:Nat→Prop} {v:Value} {p:aA} (h:gZ w S v p) (t:TypeId) (hS:∀b,S b→b<w.heap.size) :
  ∃c,v=.agg c∧dL (w.alloc (.cells c t)) (fun b=>S b∨b=w.heap.size) w.heap.size 0 p:=by
 obtain ⟨k,tx,n,nm,kids⟩:=p
 obtain ⟨ka,cap,rfl,hz,hk⟩:=h
 dsimp only [aA.kind,aA.text,aA.n,aA.name,aA.kids] at hk hz
 refine ⟨_,rfl,?_⟩
 unfold dL
 refine ⟨.inr rfl,hz,by simp,by simp,by simp,by simp,ka,cap,by simp,?_⟩
 exact aI.same (fun b hb=>Below.heap_alloc _ _ _ (hS b hb)) (fun b hb=>.inl hb) kids ka hk
def BQ (r:(Nat×Nat)×Bool):Value:=if r.2 then .tuple #[.int .i64 r.1.1,.int .i64 r.1.2,.int .i64 0] else .tuple #[.int .i64 0,.int .i64 0,.int .i64 4]
def BP (p:aA):Value:=BQ (jY jA (0,0) p 1)
theorem size_any (p:aA) (v:Value) (w:World) (hp:gZ w (· < w.heap.size) v p) (hsz:sizeT p≤100000000) :
  Calls Tryz.prog 61 #[v] w (fun e w'=>e=.returned (BP p)∧Kept aF w w'):=by
 obtain ⟨c,rfl,hb⟩:=hp.box 27 (fun b hb=>hb)
 have hmf:∀(fn:Fn) (first cap:Array Value) (w:World),(Instr.makeFunc fn first cap).run Tryz.prog w=.ok (.func fn first cap) w:=fun _ _ _ _=>rfl
 go_enter Tryz.func61, Tryz.ntmps61
 go_wp2_with fail
 refine (walk_any 83 #[.pointer (some ⟨w.heap.size+1,0,none⟩),.pointer (some ⟨w.heap.size+1+1,0,none⟩)] (fun _ _=>by kernel_rfl) (Nh (w.heap.size+1) (w.heap.size+1+1)) (fun _ st=>st.1≤4096) jA
  (fun _ st p d _ h=>by simp [jA] at h⊢;omega) (fun b=>b=w.heap.size+1∨b=w.heap.size+1+1) (fun b=>b<w.heap.size∨b=w.heap.size) 500000000 (by omega) ?cl 100000000 p 0 (0,0) w.heap.size 0 1 _ hsz (by omega) ?i (by simp) ?pt ?sf).mono ?_
 case cl =>
  intro _ st p b o d w' hi hg _ _ hd
  exact Xd _ _ (by omega) st p _ d w' hi (by omega) hg
 case i=>exact ⟨(gV.new' (by simp)).alloc _,gV.new' (by simp)⟩
 case pt=>exact dL.same (fun b hb=>by rw [Below.heap_alloc,Below.heap_alloc]<;>simp<;>omega) (fun _ h=>h) _ _ _ hb
 case sf=>intro b hb;simp;omega
 rintro e w1 ⟨rfl,hI1,hk1⟩
 obtain ⟨h1,h2⟩:=hI1
 have hK:Kept aF w w1:=(((Kept.refl aF w).alloc _).alloc _).alloc _ |>.step hk1 (by simp;omega)
 have q1:=h1.cell;have q2:=h2.cell;have f1:=h1.free;have f2:=h2.free
 have HK:=ah hK;clear hK hk1 hb hp h1 h2
 cases hr:jY jA (0,0) p 1 with
 | mk st ok =>
 obtain ⟨n,d⟩:=st
 have Hr:Hid (BP p=BQ ((n,d),ok)):=by simp [BP,hr,Hid]
 rw [hr] at q1 q2;clear hr
 dsimp only at q1 q2
 have K1:∀a b,Kept aF w ((w1.setCell ⟨w.heap.size+1,0,none⟩ a).setCell ⟨w.heap.size+1+1,0,none⟩ b):=fun a b=>(HK.out.setCell (.inr (by simp)) _).setCell (.inr (by simp;omega)) _
 have iH:=ah K1;clear K1
 cases ok with
 | true =>
  go_wp2_with fail
  go_region
  all_goals go_wp2
  all_goals exact bodyPost_ret (v:=.tuple #[.int .i64 n,.int .i64 d,.int .i64 0]) (by simp [results,Tryz.results61,go_sem,q1,q2]) rfl ⟨by rw [Hr.out];rfl,by first|exact (iH.out _ _).drew|exact (iH.out _ _)⟩
 | false =>
  go_wp2_with fail
  exact bodyPost_ret (v:=.tuple #[.int .i64 0,.int .i64 0,.int .i64 4]) (by simp [results,Tryz.results61,go_sem,q1,q2]) rfl ⟨by rw [Hr.out];rfl,by first|exact (iH.out _ _).drew|exact (iH.out _ _)⟩
end Go.Proofs.YtefjbnhpjdhjmaaGreatDoor
