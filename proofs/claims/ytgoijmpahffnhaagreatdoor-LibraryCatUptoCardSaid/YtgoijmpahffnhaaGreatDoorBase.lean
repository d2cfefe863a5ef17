/-  -/
import Derived.Test.YtgoijmpahffnhaaGreatDoorProg
import Derived.WalkKit
import Derived.WalkSpells
import Derived.WalkLawsBesides
import Derived.Lib.Hide
import Derived.Deep.DeepCutAuto
import Derived.Deep.CutBlock
import Derived.Deep.Light
import Derived.Deep.DeepFit
import Derived.Deep.DeepMust
namespace Go.Proofs.YtgoijmpahffnhaaGreatDoor
set_option linter.all false
open Go.RowKit
theorem ah{p:Prop}(h:p):Hid p:=Lib.hid h
abbrev aj:=ByteArray
theorem ak{p:Prop}[Decidable p](h:p):decide p=true:=decide_eq_true h
theorem au{p:Prop}[Decidable p](h:¬p):decide p=false:=decide_eq_false h
structure Kept (X:Nat→Prop) (w w':World):Prop where
 os:w'.os=w.os
 tape:w'.tape=w.tape
 output:w'.output=w.output
 size:w.heap.size≤w'.heap.size
 block:∀k,k<w.heap.size→¬X k→w'.heap[k]?=w.heap[k]?
def aB (_:Nat):Prop:=False
theorem Kept.refl (X:Nat→Prop) (w:World):Kept X w w:=⟨rfl,rfl,rfl,Nat.le_refl _,fun _ _ _=>rfl⟩
theorem Kept.step {X Y:Nat→Prop} {a b c:World} (h:Kept X a b) (k:Kept Y b c) (hy:∀y,Y y→X y∨a.heap.size≤y):Kept X a c :=
 ⟨k.os.trans h.os,k.tape.trans h.tape,k.output.trans h.output,Nat.le_trans h.size k.size,
  fun i hi hx=>(k.block i (Nat.lt_of_lt_of_le hi h.size) (fun hm=>(hy i hm).elim hx (fun h1=>by omega))).trans (h.block i hi hx)⟩
theorem Kept.trans {X:Nat→Prop} {a b c:World} (h:Kept X a b) (k:Kept X b c):Kept X a c:=h.step k fun _ hy=>.inl hy
theorem Kept.quiet {X:Nat→Prop} {a b c:World} (h:Kept X a b) (k:Kept aB b c):Kept X a c:=h.step k fun _ hy=>hy.elim
theorem Kept.more {X Y:Nat→Prop} {w w':World} (h:Kept X w w') (hy:∀x,X x→Y x):Kept Y w w' :=
 ⟨h.os,h.tape,h.output,h.size,fun k hk hn=>h.block k hk fun hx=>hn (hy k hx)⟩
theorem Kept.drew {X:Nat→Prop} {a w:World} (h:Kept X a w):Kept X a w.drew:=⟨h.os,h.tape,h.output,h.size,h.block⟩
theorem Kept.drewN {X:Nat→Prop} {a w:World} (h:Kept X a w) (n:Nat):Kept X a (w.drewN n):=⟨h.os,h.tape,h.output,h.size,h.block⟩
theorem Kept.alloc {X:Nat→Prop} {a w:World} (h:Kept X a w) (o:Obj):Kept X a (w.alloc o) :=
 h.quiet ⟨rfl,rfl,rfl,by simp,fun k hk _=>Below.heap_alloc _ _ _ hk⟩
theorem Kept.setCell {X:Nat→Prop} {a w:World} (h:Kept X a w) {p:Addr} (hp:X p.block∨a.heap.size≤p.block) (u:Value):Kept X a (w.setCell p u) :=
 h.step (Y:=(· = p.block)) ⟨rfl,rfl,rfl,by simp [World.setCell],fun k _ hn=>Below.heap_setCell _ _ _ _ hn⟩ (by rintro y rfl;exact hp)
theorem Kept.grown {X:Nat→Prop} {a w w':World} {row:Option Nat} (h:Kept X a w) (hg:w.grownBy w' row) (hr:∀k,row=some k→X k∨a.heap.size≤k):Kept X a w' :=
 h.step (Y:=fun k=>row=some k) ⟨hg.os,hg.tape,hg.output,hg.size,fun k hk hn=>hg.block k hk (fun e=>hn e.symm)⟩ hr
theorem Kept.below {w w':World} (h:Kept aB w w'):Below w.heap.size w w':=⟨h.os,h.tape,h.output,h.size,fun k hk=>h.block k hk (fun h=>h)⟩
theorem Kept.cell {X:Nat→Prop} {w w':World} (h:Kept X w w') {b o:Nat} (hb:b<w.heap.size) (hx:¬X b):w'.cell? ⟨b,o,none⟩=w.cell? ⟨b,o,none⟩ :=
 World.cell?_of_block (h.block b hb hx)
def dW (w:World) (c:Nat) (t:TypeId) (v:Value):Prop:=w.heap[c]?=some (.cells #[v] t (0,0))
theorem dW.lt {w:World} {c:Nat} {t:TypeId} {v:Value} (h:dW w c t v):c<w.heap.size:=(Array.getElem?_eq_some_iff.1 h).1
theorem dW.cell {w:World} {c:Nat} {t:TypeId} {v:Value} (h:dW w c t v):w.cell? ⟨c,0,none⟩=some v:=cell_of_one h
theorem dW.free {w:World} {c:Nat} {t:TypeId} {v:Value} (h:dW w c t v):w.frozen? ⟨c,0,none⟩=false:=free_of_one h
theorem dW.set {w:World} {c:Nat} {t:TypeId} {v:Value} (h:dW w c t v) (u:Value):dW (w.setCell ⟨c,0,none⟩ u) c t u:=one_setCell h
theorem dW.other {w:World} {c:Nat} {t:TypeId} {v:Value} (h:dW w c t v) {b o:Nat} (hn:c≠b) (u:Value):dW (w.setCell ⟨b,o,none⟩ u) c t v:=by
 unfold dW;rw [Below.heap_setCell _ _ _ _ hn];exact h
theorem dW.alloc {w:World} {c:Nat} {t:TypeId} {v:Value} (h:dW w c t v) (o:Obj):dW (w.alloc o) c t v:=by
 unfold dW;rw [Below.heap_alloc _ _ _ h.lt];exact h
theorem dW.new (w:World) (t:TypeId) (v:Value):dW (w.alloc (.cells #[v] t)) w.heap.size t v:=heap_alloc_new w _
theorem dW.new' {w:World} {t:TypeId} {v:Value} {n:Nat} (h:n=w.heap.size):dW (w.alloc (.cells #[v] t)) n t v:=by subst h;exact dW.new w t v
theorem dW.drew {w:World} {c:Nat} {t:TypeId} {v:Value} (h:dW w c t v):dW w.drew c t v:=h
theorem dW.kept {X:Nat→Prop} {w w':World} {c:Nat} {t:TypeId} {v:Value} (h:dW w c t v) (hk:Kept X w w') (hx:¬X c):dW w' c t v:=by
 unfold dW;rw [hk.block c h.lt hx];exact h
theorem zJ {k:IntKind} {a b:Int} (h:a=b):Ending.returned (.int k a)=.returned (.int k b):=by rw [h]
inductive aA where
 | mk (kind:Int) (text:aj) (n:Int) (name:aj) (kids:List aA)
def aA.kind:aA→Int | .mk k _ _ _ _=>k
def aA.text:aA→aj | .mk _ t _ _ _=>t
def aA.n:aA→Int | .mk _ _ n _ _=>n
def aA.name:aA→aj | .mk _ _ _ nm _=>nm
def aA.kids:aA→List aA | .mk _ _ _ _ l=>l
section
variable (k:Int) (t:aj) (n:Int) (nm:aj) (l:List aA)
@[simp] theorem aA.zK:(aA.mk k t n nm l).kind=k:=rfl
@[simp] theorem aA.zL:(aA.mk k t n nm l).text=t:=rfl
@[simp] theorem aA.L6:(aA.mk k t n nm l).n=n:=rfl
@[simp] theorem aA.zM:(aA.mk k t n nm l).name=nm:=rfl
@[simp] theorem aA.zN:(aA.mk k t n nm l).kids=l:=rfl
end
mutual
def aW (w:World) (S:Nat→Prop) (b o:Nat):aA→Prop
 | .mk k t n nm kids=>S b∧(t.size<1000000000∧nm.size<1000000000∧kids.length<1000000000)∧w.cell? ⟨b,o,none⟩=some (.int .i64 k)∧w.cell? ⟨b,o+1,none⟩=some (.string t)∧
   w.cell? ⟨b,o+2,none⟩=some (.int .i64 n)∧w.cell? ⟨b,o+3,none⟩=some (.string nm)∧
   ∃ka cap,w.cell? ⟨b,o+4,none⟩=some (.slice ka kids.length cap)∧aI w S ka kids
def aI (w:World) (S:Nat→Prop) (ka:Option Addr):List aA→Prop
 | []=>True
 | p::ps=>∃b o,ka=some ⟨b,o,none⟩∧aW w S b o p∧aI w S (some ⟨b,o+5,none⟩) ps
end
def kP (w:World) (S:Nat→Prop) (v:Value) (p:aA):Prop :=
 ∃ka cap,v=.agg #[.int .i64 p.kind,.string p.text,.int .i64 p.n,.string p.name,.slice ka p.kids.length cap]∧(p.text.size<1000000000∧p.name.size<1000000000∧p.kids.length<1000000000)∧aI w S ka p.kids
theorem oQ {w:World} {S:Nat→Prop}:∀(ps:List aA) (b o i:Nat) (h:i<ps.length),aI w S (some ⟨b,o,none⟩) ps→aW w S b (o+i*5) ps[i]
 | [],_,_,_,h,_=>by simp at h
 | p::ps,b,o,0,_,hp=>by
  unfold aI at hp;obtain ⟨b',o',e,h1,_⟩:=hp
  simp at e;obtain ⟨rfl,rfl⟩:=e;simpa using h1
 | p::ps,b,o,i+1,h,hp=>by
  unfold aI at hp;obtain ⟨b',o',e,_,h2⟩:=hp
  simp at e;obtain ⟨rfl,rfl⟩:=e
  have:=oQ ps b (o+5) i (by simpa using h) h2
  rw [show o+(i+1)*5=o+5+i*5 from by omega];simpa using this
theorem pU {w:World} {S:Nat→Prop} {ka:Option Addr} {ps:List aA} (h:aI w S ka ps) (h0:0<ps.length):∃b o,ka=some ⟨b,o,none⟩:=by
 cases ps with
 | nil=>simp at h0
 | cons p ps=>unfold aI at h;obtain ⟨b,o,e,_⟩:=h;exact ⟨b,o,e⟩
mutual
theorem aW.same {w w':World} {S S':Nat→Prop} (h:∀b,S b→w'.heap[b]?=w.heap[b]?) (hs:∀b,S b→S' b):∀(p:aA) (b o:Nat),aW w S b o p→aW w' S' b o p
 | .mk k t n nm kids,b,o,hp=>by
  unfold aW at hp⊢
  obtain ⟨hb,hz,h0,h1,h2,h3,ka,cap,h4,hk⟩:=hp
  have hc:∀i,w'.cell? ⟨b,i,none⟩=w.cell? ⟨b,i,none⟩:=fun i=>World.cell?_of_block (h b hb)
  refine ⟨hs b hb,hz,?_,?_,?_,?_,ka,cap,?_,aI.same h hs kids ka hk⟩<;>(rw [hc];assumption)
theorem aI.same {w w':World} {S S':Nat→Prop} (h:∀b,S b→w'.heap[b]?=w.heap[b]?) (hs:∀b,S b→S' b):∀(ps:List aA) (ka:Option Addr),aI w S ka ps→aI w' S' ka ps
 | [],_,_=>by unfold aI;trivial
 | p::ps,ka,hp=>by
  unfold aI at hp⊢
  obtain ⟨b,o,e,h1,h2⟩:=hp
  exact ⟨b,o,e,aW.same h hs p b o h1,aI.same h hs ps _ h2⟩
end
def Safe (S:Nat→Prop) (X:Nat→Prop) (n:Nat):Prop:=∀b,S b→b<n∧¬X b
theorem Safe.mono {S:Nat→Prop} {X:Nat→Prop} {n m:Nat} (h:Safe S X n) (hm:n≤m):Safe S X m:=fun b hb=>⟨Nat.lt_of_lt_of_le (h b hb).1 hm,(h b hb).2⟩
theorem aW.kept {w w':World} {S:Nat→Prop} {X:Nat→Prop} {p:aA} {b o:Nat} (hp:aW w S b o p) (hk:Kept X w w') (hs:Safe S X w.heap.size):aW w' S b o p :=
 aW.same (fun b hb=>hk.block b (hs b hb).1 (hs b hb).2) (fun _ h=>h) p b o hp
theorem aI.kept {w w':World} {S:Nat→Prop} {X:Nat→Prop} {ps:List aA} {ka:Option Addr} (hp:aI w S ka ps) (hk:Kept X w w') (hs:Safe S X w.heap.size):aI w' S ka ps :=
 aI.same (fun b hb=>hk.block b (hs b hb).1 (hs b hb).2) (fun _ h=>h) ps ka hp
theorem aI.to {w w':World} {S S':Nat→Prop} {X:Nat→Prop} {ps:List aA} {ka:Option Addr} (hp:aI w S ka ps) (hk:Kept X w w') (hs:Safe S X w.heap.size) (h:∀b,S b→S' b):aI w' S' ka ps :=
 aI.same (fun b hb=>hk.block b (hs b hb).1 (hs b hb).2) h ps ka hp
theorem Safe.lt {n m:Nat} (h:n≤m):Safe (· < n) aB m:=fun _ hb=>⟨Nat.lt_of_lt_of_le hb h,fun h=>h⟩
variable {σ:Type}
mutual
def jv (f:σ→aA→Nat→σ×Bool):σ→aA→Nat→σ×Bool
 | st,.mk k t n nm kids,d=>match f st (.mk k t n nm kids) d with
  | (st',false)=>(st',false)
  | (st',true)=>iw f st' kids (d+1)
def iw (f:σ→aA→Nat→σ×Bool):σ→List aA→Nat→σ×Bool
 | st,[],_=>(st,true)
 | st,p::ps,d=>match jv f st p d with
  | (st',false)=>(st',false)
  | (st',true)=>iw f st' ps d
end
mutual
def sizeT:aA→Nat
 | .mk _ _ _ _ kids=>1+aT kids
def aT:List aA→Nat
 | []=>0
 | p::ps=>sizeT p+aT ps
end
theorem yI:∀l:List aA,l.length≤aT l
 | []=>by simp [aT]
 | p::ps=>by cases p;have:=yI ps;simp only [List.length_cons,aT,sizeT];omega
theorem qy:∀(l:List aA) (j:Nat) (hj:j<l.length),sizeT l[j]≤aT l
 | [],_,hj=>by simp at hj
 | p::ps,0,_=>by simp only [List.getElem_cons_zero,aT];omega
 | p::ps,j+1,hj=>by have:=qy ps j (by simpa using hj);simp only [List.getElem_cons_succ,aT];omega
theorem ay(w:World)(o:Obj):(w.alloc o).heap[w.heap.size]?=some o:=heap_alloc_new w o
end Go.Proofs.YtgoijmpahffnhaaGreatDoor
