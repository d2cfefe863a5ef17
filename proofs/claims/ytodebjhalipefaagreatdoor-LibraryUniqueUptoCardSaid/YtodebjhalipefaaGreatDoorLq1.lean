/-  -/
import Derived.Test.YtodebjhalipefaaGreatDoorBase
namespace Go.Proofs.YtodebjhalipefaaGreatDoor
set_option linter.all false
open Go.RowKit
set_option maxRecDepth 100000
set_option maxHeartbeats 400000
def uP {σ:Type} (I:σ→World→Prop) (X:Nat→Prop) (r:σ×Bool) (w:World) (e:Ending) (w':World):Prop :=
 e=.returned (.bool r.2)∧I r.1 w'∧Kept X w w'
mutual
theorem Tv {σ:Type} {G:Nat→σ→Prop} {f:σ→aB→Nat→σ×Bool} (hG:∀n st p d,G (n+1) st→(f st p d).2=true→G n (f st p d).1):∀(p:aB) (r:Nat) (st:σ) (d:Nat),G (sizeT p+r) st→(jw f st p d).2=true→G r (jw f st p d).1
 | .mk k t n nm kids,r,st,d,hg=>by
  have h1:=hG (bK kids+r) st (.mk k t n nm kids) d (by rw [sizeT] at hg;rwa [show bK kids+r+1=1+bK kids+r by omega])
  rw [jw]
  cases hr:f st (.mk k t n nm kids) d with
  | mk st1 ok=>rw [hr] at h1;cases ok<;>simp_all;exact II hG kids r st1 (d+1) h1
theorem II {σ:Type} {G:Nat→σ→Prop} {f:σ→aB→Nat→σ×Bool} (hG:∀n st p d,G (n+1) st→(f st p d).2=true→G n (f st p d).1):∀(l:List aB) (r:Nat) (st:σ) (d:Nat),G (bK l+r) st→(jC f st l d).2=true→G r (jC f st l d).1
 | [],r,st,d,hg=>by intro _;rw [jC];rw [bK,Nat.zero_add] at hg;exact hg
 | p::ps,r,st,d,hg=>by
  have h1:=Tv hG p (bK ps+r) st d (by rw [bK] at hg;rwa [←Nat.add_assoc])
  rw [jC]
  cases hr:jw f st p d with
  | mk st1 ok=>rw [hr] at h1;cases ok<;>simp_all;exact II hG ps r st1 d h1
end
theorem VK (l:List aB) (j:Nat) (hj:j<l.length):bK (l.drop j)=sizeT l[j]+bK (l.drop (j+1)):=by
 rw [List.drop_eq_getElem_cons hj,bK]
theorem walk_any {σ:Type} (F:FuncId) (caps:Array Value) (hF:∀(args:Array Value) (w:World),(callFunc F args).run Tryz.prog w=.ok (.enter F args) w)
  (I:σ→World→Prop) (G:Nat→σ→Prop) (f:σ→aB→Nat→σ×Bool) (hG:∀n st p d,G (n+1) st→(f st p d).2=true→G n (f st p d).1) (X:Nat→Prop) (S:Nat→Prop) (D:Nat) (hD:D<1000000000)
  (hcl:∀n st p b o d w,I st w→G (n+1) st→aU w S b o p→Safe S X w.heap.size→d≤D→Calls Tryz.prog F (#[.pointer (some ⟨b,o,none⟩),.int .i64 (d:Nat)]++caps) w (uP I X (f st p d) w)) :
  ∀(m:Nat) (p:aB) (r:Nat) (st:σ) (b o d:Nat) (w:World),sizeT p≤m→d+m≤D→I st w→G (sizeT p+r) st→aU w S b o p→Safe S X w.heap.size→
   Calls Tryz.prog 149 #[.pointer (some ⟨b,o,none⟩),.int .i64 (d:Nat),.func (.func F) #[] caps] w (uP I X (jw f st p d) w):=by
 intro m
 induction m with
 | zero=>intro p r st b o d w hm;cases p;simp [sizeT] at hm
 | succ m ih =>
  rintro ⟨k,t,n,nm,kids⟩ r st b o d w hm hd hI hg hp hS
  replace hg:G (bK kids+r+1) st:=by rw [sizeT] at hg;rwa [show bK kids+r+1=1+bK kids+r by omega]
  go_enter Tryz.func149, Tryz.ntmps149
  go_wp2_with fail
  refine (hcl (bK kids+r) st _ b o d _ hI hg hp hS (by omega)).mono ?_
  rintro e w1 ⟨rfl,hI1,hb1⟩
  have hS1:=hS.mono hb1.size
  have hp1:=hp.kept hb1 hS
  unfold aU at hp1
  obtain ⟨hbB,⟨_,_,hkl⟩,h0,h1,h2,h3,ka,cap,h4,hk⟩:=hp1
  clear h0 h1 h2 h3
  have hg1:=hG (bK kids+r) st (.mk k t n nm kids) d hg
  cases hr:(f st (.mk k t n nm kids) d) with
  | mk st1 ok =>
  rw [hr] at hI1 hg1
  cases ok with
  | false =>
   have Hr:=ah hr;clear hr
   dsimp only at hI1 hg1
   go_wp2_with fail
   go_ret
   exact ⟨by simp [jw,Hr.out],by simpa [jw,Hr.out] using hI1,hb1⟩
  | true =>
   have Hr:=ah hr;clear hr
   dsimp only at hI1 hg1
   have hlen:kids.length≤m:=by have h:=xP kids;simp only [sizeT] at hm;omega
   have hsz:∀j (hj:j<kids.length),sizeT kids[j]≤m:=by intro j hj;have h:=oQ kids j hj;simp only [sizeT] at hm;omega
   replace hg1:=hg1 rfl
   have Hw:Hid (jw f st (.mk k t n nm kids) d=jC f st1 kids (d+1)):=by simp [jw,Hr.out,Hid]
   clear hm
   go_wp2_with fail
   go_loopw [18] (fun i wr=>∃(j:Nat) (st':σ),j≤kids.length∧i=.int .i64 j∧Hid (jC f st' (kids.drop j) (d+1)=jC f st1 kids (d+1))∧I st' wr∧G (bK (kids.drop j)+r) st'∧Kept X w wr) (fun i _=>kids.length-(intOf i).toNat)
   case atStart=>exact ⟨0,st1,Nat.zero_le _,rfl,by simp [Hid],hI1,by simpa using hg1,hb1⟩
   case round =>
    obtain ⟨j,st',hj,rfl,Hk,hI',hg',hb'⟩:=hrel
    have hp':=hp.kept hb' hS
    have hS':=hS.mono hb'.size
    unfold aU at hp'
    obtain ⟨ala,_,_,_,_,_,ka',cap',h4',hk'⟩:=hp'
    by_cases hlt:j<kids.length
    ·obtain ⟨kb,ko,rfl⟩:=oh hk' (by omega)
     have ai6:=mV kids kb ko j hlt hk'
     have ZJ:=hsz j hlt
     replace hg':G (sizeT kids[j]+(bK (kids.drop (j+1))+r)) st':=by rw [VK kids j hlt] at hg';rwa [←Nat.add_assoc]
     go_wp2_with fail
     refine (ih kids[j] (bK (kids.drop (j+1))+r) st' kb (ko+j*5) (d+1) _ ZJ (by omega) hI' hg' ai6 hS').mono ?_
     rintro e w2 ⟨rfl,hI2,hb2⟩
     have Hs:Hid (jC f st' (kids.drop j) (d+1)=match jw f st' kids[j] (d+1) with|(st',false)=>(st',false)|(st',true)=>jC f st' (kids.drop (j+1)) (d+1)):=by
      rw [List.drop_eq_getElem_cons hlt];simp only [jC,Hid]<;>rfl
     cases hr2:jw f st' kids[j] (d+1) with
     | mk st2 ok2 =>
     rw [hr2] at hI2
     have hg2:=Tv hG kids[j] (bK (kids.drop (j+1))+r) st' (d+1) hg'
     rw [hr2] at hg2
     have Hr2:=ah hr2;clear hr2
     dsimp only at hI2
     cases ok2 with
     | false =>
      go_wp2_with fail
      go_ret
      have e1:jw f st (.mk k t n nm kids) d=(st2,false):=by
       rw [Hw.out,←Hk.out,Hs.out,Hr2.out]
      rw [e1];exact ⟨rfl,hI2,hb'.trans hb2⟩
     | true =>
      go_wp2_with fail
      go_roundw
      case rel=>exact ⟨j+1,st2,by omega,by go_num,by unfold Hid;rw [←Hk.out,Hs.out,Hr2.out],hI2,hg2 trivial,hb'.trans hb2⟩
      case measure=>simp [intOf];omega
    ·go_wp2_with fail
     go_ret
     have e1:jw f st (.mk k t n nm kids) d=(st',true):=by
      rw [Hw.out,←Hk.out,List.drop_of_length_le (by omega)];rfl
     rw [e1];exact ⟨rfl,hI',hb'⟩
end Go.Proofs.YtodebjhalipefaaGreatDoor

namespace Go.Proofs.YtodebjhalipefaaGreatDoor
set_option linter.all false
open Go.RowKit
set_option maxRecDepth 100000
set_option maxHeartbeats 400000
def nK (st:Nat×Nat) (_:aB) (d:Nat):(Nat×Nat)×Bool :=
 ((st.1+1,max st.2 d),decide (st.1+1≤4096)&&decide (d≤200))
def MC (c1 c2:Nat) (st:Nat×Nat) (w:World):Prop:=dH w c1 3 (.int .i64 st.1)∧dH w c2 3 (.int .i64 st.2)
theorem Zh {c1 c2 n k d:Nat} {p:aB} {w:World} (hne:c1≠c2) (h1:dH w c1 3 (.int .i64 n)) (h2:dH w c2 3 (.int .i64 k)) {u:Bool} {v:Int}
  (hu:u=(decide (n+1≤4096)&&decide (d≤200))) (hv:v=(max k d:Nat)) :
  uP (MC c1 c2) (fun b=>b=c1∨b=c2) (nK (n,k) p d) w (.returned (.bool u)) ((w.setCell ⟨c1,0,none⟩ (.int .i64 ((n:Int)+1))).setCell ⟨c2,0,none⟩ (.int .i64 v)):=by
 subst hu hv
 refine ⟨rfl,⟨?_,(h2.other hne.symm _).set _⟩,((Kept.refl _ w).setCell (.inl (by simp)) _).setCell (.inl (by simp)) _⟩
 simpa [nK] using (h1.set (.int .i64 ((n:Int)+1))).other (o:=0) hne (.int .i64 (max k d:Nat))
theorem Zi (c1 c2:Nat) (hne:c1≠c2) (st:Nat×Nat) (p:aB) (a:Value) (d:Nat) (w:World)
  (hI:MC c1 c2 st w) (hd:d<1000000000) (hs:st.1≤4096) :
  Calls Tryz.prog 209 #[a,.int .i64 (d:Nat),.pointer (some ⟨c1,0,none⟩),.pointer (some ⟨c2,0,none⟩)] w
   (uP (MC c1 c2) (fun b=>b=c1∨b=c2) (nK st p d) w):=by
 obtain ⟨n,k⟩:=st
 obtain ⟨h1,h2⟩:=hI
 dsimp only at h1 h2 hs
 have q1:=h1.cell;have q2:=h2.cell;have f1:=h1.free;have f2:=h2.free
 have H1:=ah h1;have H2:=ah h2;clear h1 h2
 go_enter Tryz.func209, Tryz.ntmps209
 go_wp2
 all_goals
  go_ret
  exact Zh hne H1.out H2.out (by first|(rw [ak (show n+1≤4096 from by omega),Bool.true_and];exact decide_eq_decide.2 (by omega))|rw [au (show ¬n+1≤4096 from by omega),Bool.false_and]) (by omega)
theorem ou.box {w:World} {S:Nat→Prop} {v:Value} {p:aB} (h:ou w S v p) (t:TypeId) (hS:∀b,S b→b<w.heap.size) :
  ∃c,v=.agg c∧aU (w.alloc (.cells c t)) (fun b=>S b∨b=w.heap.size) w.heap.size 0 p:=by
 obtain ⟨k,tx,n,nm,kids⟩:=p
 obtain ⟨ka,cap,rfl,hz,hk⟩:=h
 dsimp only [aB.kind,aB.text,aB.n,aB.name,aB.kids] at hk hz
 refine ⟨_,rfl,?_⟩
 unfold aU
 refine ⟨.inr rfl,hz,by simp,by simp,by simp,by simp,ka,cap,by simp,?_⟩
 exact aN.same (fun b hb=>Below.heap_alloc _ _ _ (hS b hb)) (fun b hb=>.inl hb) kids ka hk
def Ip (r:(Nat×Nat)×Bool):Value:=if r.2 then .tuple #[.int .i64 r.1.1,.int .i64 r.1.2,.int .i64 0] else .tuple #[.int .i64 0,.int .i64 0,.int .i64 4]
def Iq (p:aB):Value:=Ip (jw nK (0,0) p 1)
theorem size_any (p:aB) (v:Value) (w:World) (hp:ou w (· < w.heap.size) v p) (hsz:sizeT p≤100000000) :
  Calls Tryz.prog 148 #[v] w (fun e w'=>e=.returned (Iq p)∧Kept aA w w'):=by
 obtain ⟨c,rfl,hb⟩:=hp.box 67 (fun b hb=>hb)
 have hmf:∀(fn:Fn) (first cap:Array Value) (w:World),(Instr.makeFunc fn first cap).run Tryz.prog w=.ok (.func fn first cap) w:=fun _ _ _ _=>rfl
 go_enter Tryz.func148, Tryz.ntmps148
 go_wp2_with fail
 refine (walk_any 209 #[.pointer (some ⟨w.heap.size+1,0,none⟩),.pointer (some ⟨w.heap.size+1+1,0,none⟩)] (fun _ _=>by kernel_rfl) (MC (w.heap.size+1) (w.heap.size+1+1)) (fun _ st=>st.1≤4096) nK
  (fun _ st p d _ h=>by simp [nK] at h⊢;omega) (fun b=>b=w.heap.size+1∨b=w.heap.size+1+1) (fun b=>b<w.heap.size∨b=w.heap.size) 500000000 (by omega) ?cl 100000000 p 0 (0,0) w.heap.size 0 1 _ hsz (by omega) ?i (by simp) ?pt ?sf).mono ?_
 case cl =>
  intro _ st p b o d w' hi hg _ _ hd
  exact Zi _ _ (by omega) st p _ d w' hi (by omega) hg
 case i=>exact ⟨(dH.new' (by simp)).alloc _,dH.new' (by simp)⟩
 case pt=>exact aU.same (fun b hb=>by rw [Below.heap_alloc,Below.heap_alloc]<;>simp<;>omega) (fun _ h=>h) _ _ _ hb
 case sf=>intro b hb;simp;omega
 rintro e w1 ⟨rfl,hI1,hk1⟩
 obtain ⟨h1,h2⟩:=hI1
 have hK:Kept aA w w1:=(((Kept.refl aA w).alloc _).alloc _).alloc _ |>.step hk1 (by simp;omega)
 have q1:=h1.cell;have q2:=h2.cell;have f1:=h1.free;have f2:=h2.free
 have HK:=ah hK;clear hK hk1 hb hp h1 h2
 cases hr:jw nK (0,0) p 1 with
 | mk st ok =>
 obtain ⟨n,d⟩:=st
 have Hr:Hid (Iq p=Ip ((n,d),ok)):=by simp [Iq,hr,Hid]
 rw [hr] at q1 q2;clear hr
 dsimp only at q1 q2
 have K1:∀a b,Kept aA w ((w1.setCell ⟨w.heap.size+1,0,none⟩ a).setCell ⟨w.heap.size+1+1,0,none⟩ b):=fun a b=>(HK.out.setCell (.inr (by simp)) _).setCell (.inr (by simp;omega)) _
 have uj:=ah K1;clear K1
 cases ok with
 | true =>
  go_wp2_with fail
  go_region
  all_goals go_wp2
  all_goals exact bodyPost_ret (v:=.tuple #[.int .i64 n,.int .i64 d,.int .i64 0]) (by simp [results,Tryz.results148,go_sem,q1,q2]) rfl ⟨by rw [Hr.out];rfl,by first|exact (uj.out _ _).drew|exact (uj.out _ _)⟩
 | false =>
  go_wp2_with fail
  exact bodyPost_ret (v:=.tuple #[.int .i64 0,.int .i64 0,.int .i64 4]) (by simp [results,Tryz.results148,go_sem,q1,q2]) rfl ⟨by rw [Hr.out];rfl,by first|exact (uj.out _ _).drew|exact (uj.out _ _)⟩
end Go.Proofs.YtodebjhalipefaaGreatDoor
