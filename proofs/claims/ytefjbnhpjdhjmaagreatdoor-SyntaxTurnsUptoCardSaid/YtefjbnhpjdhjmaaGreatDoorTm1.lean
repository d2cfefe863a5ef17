/-  -/
import Derived.Test.YtefjbnhpjdhjmaaGreatDoorProg
import Derived.WalkKit
import Derived.WalkSpells
import Derived.WalkLawsBesides
import Derived.Lib.Hide
import Derived.Deep.DeepCutAuto
import Derived.Deep.CutBlock
import Derived.Deep.Light
import Derived.Deep.DeepFit
import Derived.Deep.DeepMust
namespace Go.Proofs.YtefjbnhpjdhjmaaGreatDoor
set_option linter.all false
open Go.RowKit
theorem ah{p:Prop}(h:p):Hid p:=Lib.hid h
abbrev aj:=ByteArray
theorem ak{p:Prop}[Decidable p](h:p):decide p=true:=decide_eq_true h
theorem au{p:Prop}[Decidable p](h:¬p):decide p=false:=decide_eq_false h
structure Kept (X:Nat→Prop) (w w':World):Prop where
 os:w'.os=w.os
 tape:w'.tape=w.tape
 output:w'.output=w.output
 size:w.heap.size≤w'.heap.size
 block:∀k,k<w.heap.size→¬X k→w'.heap[k]?=w.heap[k]?
def aF (_:Nat):Prop:=False
theorem Kept.refl (X:Nat→Prop) (w:World):Kept X w w:=⟨rfl,rfl,rfl,Nat.le_refl _,fun _ _ _=>rfl⟩
theorem Kept.step {X Y:Nat→Prop} {a b c:World} (h:Kept X a b) (k:Kept Y b c) (hy:∀y,Y y→X y∨a.heap.size≤y):Kept X a c :=
 ⟨k.os.trans h.os,k.tape.trans h.tape,k.output.trans h.output,Nat.le_trans h.size k.size,
  fun i hi hx=>(k.block i (Nat.lt_of_lt_of_le hi h.size) (fun hm=>(hy i hm).elim hx (fun h1=>by omega))).trans (h.block i hi hx)⟩
theorem Kept.trans {X:Nat→Prop} {a b c:World} (h:Kept X a b) (k:Kept X b c):Kept X a c:=h.step k fun _ hy=>.inl hy
theorem Kept.quiet {X:Nat→Prop} {a b c:World} (h:Kept X a b) (k:Kept aF b c):Kept X a c:=h.step k fun _ hy=>hy.elim
theorem Kept.more {X Y:Nat→Prop} {w w':World} (h:Kept X w w') (hy:∀x,X x→Y x):Kept Y w w' :=
 ⟨h.os,h.tape,h.output,h.size,fun k hk hn=>h.block k hk fun hx=>hn (hy k hx)⟩
theorem Kept.drew {X:Nat→Prop} {a w:World} (h:Kept X a w):Kept X a w.drew:=⟨h.os,h.tape,h.output,h.size,h.block⟩
theorem Kept.drewN {X:Nat→Prop} {a w:World} (h:Kept X a w) (n:Nat):Kept X a (w.drewN n):=⟨h.os,h.tape,h.output,h.size,h.block⟩
theorem Kept.alloc {X:Nat→Prop} {a w:World} (h:Kept X a w) (o:Obj):Kept X a (w.alloc o) :=
 h.quiet ⟨rfl,rfl,rfl,by simp,fun k hk _=>Below.heap_alloc _ _ _ hk⟩
theorem Kept.setCell {X:Nat→Prop} {a w:World} (h:Kept X a w) {p:Addr} (hp:X p.block∨a.heap.size≤p.block) (u:Value):Kept X a (w.setCell p u) :=
 h.step (Y:=(· = p.block)) ⟨rfl,rfl,rfl,by simp [World.setCell],fun k _ hn=>Below.heap_setCell _ _ _ _ hn⟩ (by rintro y rfl;exact hp)
theorem Kept.grown {X:Nat→Prop} {a w w':World} {row:Option Nat} (h:Kept X a w) (hg:w.grownBy w' row) (hr:∀k,row=some k→X k∨a.heap.size≤k):Kept X a w' :=
 h.step (Y:=fun k=>row=some k) ⟨hg.os,hg.tape,hg.output,hg.size,fun k hk hn=>hg.block k hk (fun e=>hn e.symm)⟩ hr
theorem Kept.below {w w':World} (h:Kept aF w w'):Below w.heap.size w w':=⟨h.os,h.tape,h.output,h.size,fun k hk=>h.block k hk (fun h=>h)⟩
theorem Kept.cell {X:Nat→Prop} {w w':World} (h:Kept X w w') {b o:Nat} (hb:b<w.heap.size) (hx:¬X b):w'.cell? ⟨b,o,none⟩=w.cell? ⟨b,o,none⟩ :=
 World.cell?_of_block (h.block b hb hx)
def gV (w:World) (c:Nat) (t:TypeId) (v:Value):Prop:=w.heap[c]?=some (.cells #[v] t (0,0))
theorem gV.lt {w:World} {c:Nat} {t:TypeId} {v:Value} (h:gV w c t v):c<w.heap.size:=(Array.getElem?_eq_some_iff.1 h).1
theorem gV.cell {w:World} {c:Nat} {t:TypeId} {v:Value} (h:gV w c t v):w.cell? ⟨c,0,none⟩=some v:=cell_of_one h
theorem gV.free {w:World} {c:Nat} {t:TypeId} {v:Value} (h:gV w c t v):w.frozen? ⟨c,0,none⟩=false:=free_of_one h
theorem gV.set {w:World} {c:Nat} {t:TypeId} {v:Value} (h:gV w c t v) (u:Value):gV (w.setCell ⟨c,0,none⟩ u) c t u:=one_setCell h
theorem gV.other {w:World} {c:Nat} {t:TypeId} {v:Value} (h:gV w c t v) {b o:Nat} (hn:c≠b) (u:Value):gV (w.setCell ⟨b,o,none⟩ u) c t v:=by
 unfold gV;rw [Below.heap_setCell _ _ _ _ hn];exact h
theorem gV.alloc {w:World} {c:Nat} {t:TypeId} {v:Value} (h:gV w c t v) (o:Obj):gV (w.alloc o) c t v:=by
 unfold gV;rw [Below.heap_alloc _ _ _ h.lt];exact h
theorem gV.new (w:World) (t:TypeId) (v:Value):gV (w.alloc (.cells #[v] t)) w.heap.size t v:=heap_alloc_new w _
theorem gV.new' {w:World} {t:TypeId} {v:Value} {n:Nat} (h:n=w.heap.size):gV (w.alloc (.cells #[v] t)) n t v:=by subst h;exact gV.new w t v
theorem gV.drew {w:World} {c:Nat} {t:TypeId} {v:Value} (h:gV w c t v):gV w.drew c t v:=h
theorem gV.kept {X:Nat→Prop} {w w':World} {c:Nat} {t:TypeId} {v:Value} (h:gV w c t v) (hk:Kept X w w') (hx:¬X c):gV w' c t v:=by
 unfold gV;rw [hk.block c h.lt hx];exact h
theorem Bv {k:IntKind} {a b:Int} (h:a=b):Ending.returned (.int k a)=.returned (.int k b):=by rw [h]
theorem zo {a b:Bool} (h:a=b):Ending.returned (.bool a)=.returned (.bool b):=by rw [h]
inductive aA where
 | mk (kind:Int) (text:aj) (n:Int) (name:aj) (kids:List aA)
def aA.kind:aA→Int | .mk k _ _ _ _=>k
def aA.text:aA→aj | .mk _ t _ _ _=>t
def aA.n:aA→Int | .mk _ _ n _ _=>n
def aA.name:aA→aj | .mk _ _ _ nm _=>nm
def aA.kids:aA→List aA | .mk _ _ _ _ l=>l
section
variable (k:Int) (t:aj) (n:Int) (nm:aj) (l:List aA)
@[simp] theorem aA.aZ:(aA.mk k t n nm l).kind=k:=rfl
@[simp] theorem aA.aX:(aA.mk k t n nm l).text=t:=rfl
@[simp] theorem aA.eG:(aA.mk k t n nm l).n=n:=rfl
@[simp] theorem aA.aY:(aA.mk k t n nm l).name=nm:=rfl
@[simp] theorem aA.aV:(aA.mk k t n nm l).kids=l:=rfl
end
mutual
def dL (w:World) (S:Nat→Prop) (b o:Nat):aA→Prop
 | .mk k t n nm kids=>S b∧(t.size<1000000000∧nm.size<1000000000∧kids.length<1000000000)∧w.cell? ⟨b,o,none⟩=some (.int .i64 k)∧w.cell? ⟨b,o+1,none⟩=some (.string t)∧
   w.cell? ⟨b,o+2,none⟩=some (.int .i64 n)∧w.cell? ⟨b,o+3,none⟩=some (.string nm)∧
   ∃ka cap,w.cell? ⟨b,o+4,none⟩=some (.slice ka kids.length cap)∧aI w S ka kids
def aI (w:World) (S:Nat→Prop) (ka:Option Addr):List aA→Prop
 | []=>True
 | p::ps=>∃b o,ka=some ⟨b,o,none⟩∧dL w S b o p∧aI w S (some ⟨b,o+5,none⟩) ps
end
def gZ (w:World) (S:Nat→Prop) (v:Value) (p:aA):Prop :=
 ∃ka cap,v=.agg #[.int .i64 p.kind,.string p.text,.int .i64 p.n,.string p.name,.slice ka p.kids.length cap]∧(p.text.size<1000000000∧p.name.size<1000000000∧p.kids.length<1000000000)∧aI w S ka p.kids
theorem iO {w:World} {S:Nat→Prop}:∀(ps:List aA) (b o i:Nat) (h:i<ps.length),aI w S (some ⟨b,o,none⟩) ps→dL w S b (o+i*5) ps[i]
 | [],_,_,_,h,_=>by simp at h
 | p::ps,b,o,0,_,hp=>by
  unfold aI at hp;obtain ⟨b',o',e,h1,_⟩:=hp
  simp at e;obtain ⟨rfl,rfl⟩:=e;simpa using h1
 | p::ps,b,o,i+1,h,hp=>by
  unfold aI at hp;obtain ⟨b',o',e,_,h2⟩:=hp
  simp at e;obtain ⟨rfl,rfl⟩:=e
  have:=iO ps b (o+5) i (by simpa using h) h2
  rw [show o+(i+1)*5=o+5+i*5 from by omega];simpa using this
theorem iJ {w:World} {S:Nat→Prop} {ka:Option Addr} {ps:List aA} (h:aI w S ka ps) (h0:0<ps.length):∃b o,ka=some ⟨b,o,none⟩:=by
 cases ps with
 | nil=>simp at h0
 | cons p ps=>unfold aI at h;obtain ⟨b,o,e,_⟩:=h;exact ⟨b,o,e⟩
mutual
theorem dL.same {w w':World} {S S':Nat→Prop} (h:∀b,S b→w'.heap[b]?=w.heap[b]?) (hs:∀b,S b→S' b):∀(p:aA) (b o:Nat),dL w S b o p→dL w' S' b o p
 | .mk k t n nm kids,b,o,hp=>by
  unfold dL at hp⊢
  obtain ⟨hb,hz,h0,h1,h2,h3,ka,cap,h4,hk⟩:=hp
  have hc:∀i,w'.cell? ⟨b,i,none⟩=w.cell? ⟨b,i,none⟩:=fun i=>World.cell?_of_block (h b hb)
  refine ⟨hs b hb,hz,?_,?_,?_,?_,ka,cap,?_,aI.same h hs kids ka hk⟩<;>(rw [hc];assumption)
theorem aI.same {w w':World} {S S':Nat→Prop} (h:∀b,S b→w'.heap[b]?=w.heap[b]?) (hs:∀b,S b→S' b):∀(ps:List aA) (ka:Option Addr),aI w S ka ps→aI w' S' ka ps
 | [],_,_=>by unfold aI;trivial
 | p::ps,ka,hp=>by
  unfold aI at hp⊢
  obtain ⟨b,o,e,h1,h2⟩:=hp
  exact ⟨b,o,e,dL.same h hs p b o h1,aI.same h hs ps _ h2⟩
end
def Safe (S:Nat→Prop) (X:Nat→Prop) (n:Nat):Prop:=∀b,S b→b<n∧¬X b
theorem Safe.mono {S:Nat→Prop} {X:Nat→Prop} {n m:Nat} (h:Safe S X n) (hm:n≤m):Safe S X m:=fun b hb=>⟨Nat.lt_of_lt_of_le (h b hb).1 hm,(h b hb).2⟩
theorem dL.kept {w w':World} {S:Nat→Prop} {X:Nat→Prop} {p:aA} {b o:Nat} (hp:dL w S b o p) (hk:Kept X w w') (hs:Safe S X w.heap.size):dL w' S b o p :=
 dL.same (fun b hb=>hk.block b (hs b hb).1 (hs b hb).2) (fun _ h=>h) p b o hp
theorem aI.kept {w w':World} {S:Nat→Prop} {X:Nat→Prop} {ps:List aA} {ka:Option Addr} (hp:aI w S ka ps) (hk:Kept X w w') (hs:Safe S X w.heap.size):aI w' S ka ps :=
 aI.same (fun b hb=>hk.block b (hs b hb).1 (hs b hb).2) (fun _ h=>h) ps ka hp
theorem aI.to {w w':World} {S S':Nat→Prop} {X:Nat→Prop} {ps:List aA} {ka:Option Addr} (hp:aI w S ka ps) (hk:Kept X w w') (hs:Safe S X w.heap.size) (h:∀b,S b→S' b):aI w' S' ka ps :=
 aI.same (fun b hb=>hk.block b (hs b hb).1 (hs b hb).2) h ps ka hp
theorem Safe.lt {n m:Nat} (h:n≤m):Safe (· < n) aF m:=fun _ hb=>⟨Nat.lt_of_lt_of_le hb h,fun h=>h⟩
variable {σ:Type}
mutual
def jY (f:σ→aA→Nat→σ×Bool):σ→aA→Nat→σ×Bool
 | st,.mk k t n nm kids,d=>match f st (.mk k t n nm kids) d with
  | (st',false)=>(st',false)
  | (st',true)=>iV f st' kids (d+1)
def iV (f:σ→aA→Nat→σ×Bool):σ→List aA→Nat→σ×Bool
 | st,[],_=>(st,true)
 | st,p::ps,d=>match jY f st p d with
  | (st',false)=>(st',false)
  | (st',true)=>iV f st' ps d
end
mutual
def sizeT:aA→Nat
 | .mk _ _ _ _ kids=>1+aO kids
def aO:List aA→Nat
 | []=>0
 | p::ps=>sizeT p+aO ps
end
theorem pI:∀l:List aA,l.length≤aO l
 | []=>by simp [aO]
 | p::ps=>by cases p;have:=pI ps;simp only [List.length_cons,aO,sizeT];omega
theorem nI:∀(l:List aA) (j:Nat) (hj:j<l.length),sizeT l[j]≤aO l
 | [],_,hj=>by simp at hj
 | p::ps,0,_=>by simp only [List.getElem_cons_zero,aO];omega
 | p::ps,j+1,hj=>by have:=nI ps j (by simpa using hj);simp only [List.getElem_cons_succ,aO];omega
theorem ay(w:World)(o:Obj):(w.alloc o).heap[w.heap.size]?=some o:=heap_alloc_new w o
end Go.Proofs.YtefjbnhpjdhjmaaGreatDoor

namespace Go.Proofs.YtefjbnhpjdhjmaaGreatDoor
set_option linter.all false
open Go.RowKit
set_option maxRecDepth 100000
set_option maxHeartbeats 400000
def xB {σ:Type} (I:σ→World→Prop) (X:Nat→Prop) (r:σ×Bool) (w:World) (e:Ending) (w':World):Prop :=
 e=.returned (.bool r.2)∧I r.1 w'∧Kept X w w'
mutual
theorem SB {σ:Type} {G:Nat→σ→Prop} {f:σ→aA→Nat→σ×Bool} (hG:∀n st p d,G (n+1) st→(f st p d).2=true→G n (f st p d).1):∀(p:aA) (r:Nat) (st:σ) (d:Nat),G (sizeT p+r) st→(jY f st p d).2=true→G r (jY f st p d).1
 | .mk k t n nm kids,r,st,d,hg=>by
  have h1:=hG (aO kids+r) st (.mk k t n nm kids) d (by rw [sizeT] at hg;rwa [show aO kids+r+1=1+aO kids+r by omega])
  rw [jY]
  cases hr:f st (.mk k t n nm kids) d with
  | mk st1 ok=>rw [hr] at h1;cases ok<;>simp_all;exact JM hG kids r st1 (d+1) h1
theorem JM {σ:Type} {G:Nat→σ→Prop} {f:σ→aA→Nat→σ×Bool} (hG:∀n st p d,G (n+1) st→(f st p d).2=true→G n (f st p d).1):∀(l:List aA) (r:Nat) (st:σ) (d:Nat),G (aO l+r) st→(iV f st l d).2=true→G r (iV f st l d).1
 | [],r,st,d,hg=>by intro _;rw [iV];rw [aO,Nat.zero_add] at hg;exact hg
 | p::ps,r,st,d,hg=>by
  have h1:=SB hG p (aO ps+r) st d (by rw [aO] at hg;rwa [←Nat.add_assoc])
  rw [iV]
  cases hr:jY f st p d with
  | mk st1 ok=>rw [hr] at h1;cases ok<;>simp_all;exact JM hG ps r st1 d h1
end
theorem U3 (l:List aA) (j:Nat) (hj:j<l.length):aO (l.drop j)=sizeT l[j]+aO (l.drop (j+1)):=by
 rw [List.drop_eq_getElem_cons hj,aO]
theorem walk_any {σ:Type} (F:FuncId) (caps:Array Value) (hF:∀(args:Array Value) (w:World),(callFunc F args).run Tryz.prog w=.ok (.enter F args) w)
  (I:σ→World→Prop) (G:Nat→σ→Prop) (f:σ→aA→Nat→σ×Bool) (hG:∀n st p d,G (n+1) st→(f st p d).2=true→G n (f st p d).1) (X:Nat→Prop) (S:Nat→Prop) (D:Nat) (hD:D<1000000000)
  (hcl:∀n st p b o d w,I st w→G (n+1) st→dL w S b o p→Safe S X w.heap.size→d≤D→Calls Tryz.prog F (#[.pointer (some ⟨b,o,none⟩),.int .i64 (d:Nat)]++caps) w (xB I X (f st p d) w)) :
  ∀(m:Nat) (p:aA) (r:Nat) (st:σ) (b o d:Nat) (w:World),sizeT p≤m→d+m≤D→I st w→G (sizeT p+r) st→dL w S b o p→Safe S X w.heap.size→
   Calls Tryz.prog 62 #[.pointer (some ⟨b,o,none⟩),.int .i64 (d:Nat),.func (.func F) #[] caps] w (xB I X (jY f st p d) w):=by
 intro m
 induction m with
 | zero=>intro p r st b o d w hm;cases p;simp [sizeT] at hm
 | succ m ih =>
  rintro ⟨k,t,n,nm,kids⟩ r st b o d w hm hd hI hg hp hS
  replace hg:G (aO kids+r+1) st:=by rw [sizeT] at hg;rwa [show aO kids+r+1=1+aO kids+r by omega]
  go_enter Tryz.func62, Tryz.ntmps62
  go_wp2_with fail
  refine (hcl (aO kids+r) st _ b o d _ hI hg hp hS (by omega)).mono ?_
  rintro e w1 ⟨rfl,hI1,hb1⟩
  have hS1:=hS.mono hb1.size
  have hp1:=hp.kept hb1 hS
  unfold dL at hp1
  obtain ⟨hbB,⟨_,_,hkl⟩,h0,h1,h2,h3,ka,cap,h4,hk⟩:=hp1
  clear h0 h1 h2 h3
  have hg1:=hG (aO kids+r) st (.mk k t n nm kids) d hg
  cases hr:(f st (.mk k t n nm kids) d) with
  | mk st1 ok =>
  rw [hr] at hI1 hg1
  cases ok with
  | false =>
   have Hr:=ah hr;clear hr
   dsimp only at hI1 hg1
   go_wp2_with fail
   go_ret
   exact ⟨by simp [jY,Hr.out],by simpa [jY,Hr.out] using hI1,hb1⟩
  | true =>
   have Hr:=ah hr;clear hr
   dsimp only at hI1 hg1
   have hlen:kids.length≤m:=by have h:=pI kids;simp only [sizeT] at hm;omega
   have hsz:∀j (hj:j<kids.length),sizeT kids[j]≤m:=by intro j hj;have h:=nI kids j hj;simp only [sizeT] at hm;omega
   replace hg1:=hg1 rfl
   have Hw:Hid (jY f st (.mk k t n nm kids) d=iV f st1 kids (d+1)):=by simp [jY,Hr.out,Hid]
   clear hm
   go_wp2_with fail
   go_loopw [18] (fun i wr=>∃(j:Nat) (st':σ),j≤kids.length∧i=.int .i64 j∧Hid (iV f st' (kids.drop j) (d+1)=iV f st1 kids (d+1))∧I st' wr∧G (aO (kids.drop j)+r) st'∧Kept X w wr) (fun i _=>kids.length-(intOf i).toNat)
   case atStart=>exact ⟨0,st1,Nat.zero_le _,rfl,by simp [Hid],hI1,by simpa using hg1,hb1⟩
   case round =>
    obtain ⟨j,st',hj,rfl,Hk,hI',hg',hb'⟩:=hrel
    have hp':=hp.kept hb' hS
    have hS':=hS.mono hb'.size
    unfold dL at hp'
    obtain ⟨ag7,_,_,_,_,_,ka',cap',h4',hk'⟩:=hp'
    by_cases hlt:j<kids.length
    ·obtain ⟨kb,ko,rfl⟩:=iJ hk' (by omega)
     have afz:=iO kids kb ko j hlt hk'
     have GL:=hsz j hlt
     replace hg':G (sizeT kids[j]+(aO (kids.drop (j+1))+r)) st':=by rw [U3 kids j hlt] at hg';rwa [←Nat.add_assoc]
     go_wp2_with fail
     refine (ih kids[j] (aO (kids.drop (j+1))+r) st' kb (ko+j*5) (d+1) _ GL (by omega) hI' hg' afz hS').mono ?_
     rintro e w2 ⟨rfl,hI2,hb2⟩
     have Hs:Hid (iV f st' (kids.drop j) (d+1)=match jY f st' kids[j] (d+1) with|(st',false)=>(st',false)|(st',true)=>iV f st' (kids.drop (j+1)) (d+1)):=by
      rw [List.drop_eq_getElem_cons hlt];simp only [iV,Hid]<;>rfl
     cases hr2:jY f st' kids[j] (d+1) with
     | mk st2 ok2 =>
     rw [hr2] at hI2
     have hg2:=SB hG kids[j] (aO (kids.drop (j+1))+r) st' (d+1) hg'
     rw [hr2] at hg2
     have Hr2:=ah hr2;clear hr2
     dsimp only at hI2
     cases ok2 with
     | false =>
      go_wp2_with fail
      go_ret
      have e1:jY f st (.mk k t n nm kids) d=(st2,false):=by
       rw [Hw.out,←Hk.out,Hs.out,Hr2.out]
      rw [e1];exact ⟨rfl,hI2,hb'.trans hb2⟩
     | true =>
      go_wp2_with fail
      go_roundw
      case rel=>exact ⟨j+1,st2,by omega,by go_num,by unfold Hid;rw [←Hk.out,Hs.out,Hr2.out],hI2,hg2 trivial,hb'.trans hb2⟩
      case measure=>simp [intOf];omega
    ·go_wp2_with fail
     go_ret
     have e1:jY f st (.mk k t n nm kids) d=(st',true):=by
      rw [Hw.out,←Hk.out,List.drop_of_length_le (by omega)];rfl
     rw [e1];exact ⟨rfl,hI',hb'⟩
end Go.Proofs.YtefjbnhpjdhjmaaGreatDoor
