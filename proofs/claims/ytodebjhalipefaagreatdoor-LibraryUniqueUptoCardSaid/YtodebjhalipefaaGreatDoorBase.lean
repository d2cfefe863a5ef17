/-  -/
import Derived.Test.YtodebjhalipefaaGreatDoorProg
import Derived.WalkKit
import Derived.WalkSpells
import Derived.WalkLawsBesides
import Derived.Lib.Hide
import Derived.Deep.DeepCutAuto
import Derived.Deep.CutBlock
import Derived.Deep.Light
import Derived.Deep.DeepFit
import Derived.Deep.DeepMust
namespace Go.Proofs.YtodebjhalipefaaGreatDoor
set_option linter.all false
open Go.RowKit
theorem ah{p:Prop}(h:p):Hid p:=Lib.hid h
abbrev aj:=ByteArray
theorem ak{p:Prop}[Decidable p](h:p):decide p=true:=decide_eq_true h
theorem au{p:Prop}[Decidable p](h:¬p):decide p=false:=decide_eq_false h
structure Kept (X:Nat→Prop) (w w':World):Prop where
 os:w'.os=w.os
 tape:w'.tape=w.tape
 output:w'.output=w.output
 size:w.heap.size≤w'.heap.size
 block:∀k,k<w.heap.size→¬X k→w'.heap[k]?=w.heap[k]?
def aA (_:Nat):Prop:=False
theorem Kept.refl (X:Nat→Prop) (w:World):Kept X w w:=⟨rfl,rfl,rfl,Nat.le_refl _,fun _ _ _=>rfl⟩
theorem Kept.step {X Y:Nat→Prop} {a b c:World} (h:Kept X a b) (k:Kept Y b c) (hy:∀y,Y y→X y∨a.heap.size≤y):Kept X a c :=
 ⟨k.os.trans h.os,k.tape.trans h.tape,k.output.trans h.output,Nat.le_trans h.size k.size,
  fun i hi hx=>(k.block i (Nat.lt_of_lt_of_le hi h.size) (fun hm=>(hy i hm).elim hx (fun h1=>by omega))).trans (h.block i hi hx)⟩
theorem Kept.trans {X:Nat→Prop} {a b c:World} (h:Kept X a b) (k:Kept X b c):Kept X a c:=h.step k fun _ hy=>.inl hy
theorem Kept.quiet {X:Nat→Prop} {a b c:World} (h:Kept X a b) (k:Kept aA b c):Kept X a c:=h.step k fun _ hy=>hy.elim
theorem Kept.more {X Y:Nat→Prop} {w w':World} (h:Kept X w w') (hy:∀x,X x→Y x):Kept Y w w' :=
 ⟨h.os,h.tape,h.output,h.size,fun k hk hn=>h.block k hk fun hx=>hn (hy k hx)⟩
theorem Kept.drew {X:Nat→Prop} {a w:World} (h:Kept X a w):Kept X a w.drew:=⟨h.os,h.tape,h.output,h.size,h.block⟩
theorem Kept.drewN {X:Nat→Prop} {a w:World} (h:Kept X a w) (n:Nat):Kept X a (w.drewN n):=⟨h.os,h.tape,h.output,h.size,h.block⟩
theorem Kept.alloc {X:Nat→Prop} {a w:World} (h:Kept X a w) (o:Obj):Kept X a (w.alloc o) :=
 h.quiet ⟨rfl,rfl,rfl,by simp,fun k hk _=>Below.heap_alloc _ _ _ hk⟩
theorem Kept.setCell {X:Nat→Prop} {a w:World} (h:Kept X a w) {p:Addr} (hp:X p.block∨a.heap.size≤p.block) (u:Value):Kept X a (w.setCell p u) :=
 h.step (Y:=(· = p.block)) ⟨rfl,rfl,rfl,by simp [World.setCell],fun k _ hn=>Below.heap_setCell _ _ _ _ hn⟩ (by rintro y rfl;exact hp)
theorem Kept.grown {X:Nat→Prop} {a w w':World} {row:Option Nat} (h:Kept X a w) (hg:w.grownBy w' row) (hr:∀k,row=some k→X k∨a.heap.size≤k):Kept X a w' :=
 h.step (Y:=fun k=>row=some k) ⟨hg.os,hg.tape,hg.output,hg.size,fun k hk hn=>hg.block k hk (fun e=>hn e.symm)⟩ hr
theorem Kept.below {w w':World} (h:Kept aA w w'):Below w.heap.size w w':=⟨h.os,h.tape,h.output,h.size,fun k hk=>h.block k hk (fun h=>h)⟩
theorem Kept.cell {X:Nat→Prop} {w w':World} (h:Kept X w w') {b o:Nat} (hb:b<w.heap.size) (hx:¬X b):w'.cell? ⟨b,o,none⟩=w.cell? ⟨b,o,none⟩ :=
 World.cell?_of_block (h.block b hb hx)
def dH (w:World) (c:Nat) (t:TypeId) (v:Value):Prop:=w.heap[c]?=some (.cells #[v] t (0,0))
theorem dH.lt {w:World} {c:Nat} {t:TypeId} {v:Value} (h:dH w c t v):c<w.heap.size:=(Array.getElem?_eq_some_iff.1 h).1
theorem dH.cell {w:World} {c:Nat} {t:TypeId} {v:Value} (h:dH w c t v):w.cell? ⟨c,0,none⟩=some v:=cell_of_one h
theorem dH.free {w:World} {c:Nat} {t:TypeId} {v:Value} (h:dH w c t v):w.frozen? ⟨c,0,none⟩=false:=free_of_one h
theorem dH.set {w:World} {c:Nat} {t:TypeId} {v:Value} (h:dH w c t v) (u:Value):dH (w.setCell ⟨c,0,none⟩ u) c t u:=one_setCell h
theorem dH.other {w:World} {c:Nat} {t:TypeId} {v:Value} (h:dH w c t v) {b o:Nat} (hn:c≠b) (u:Value):dH (w.setCell ⟨b,o,none⟩ u) c t v:=by
 unfold dH;rw [Below.heap_setCell _ _ _ _ hn];exact h
theorem dH.alloc {w:World} {c:Nat} {t:TypeId} {v:Value} (h:dH w c t v) (o:Obj):dH (w.alloc o) c t v:=by
 unfold dH;rw [Below.heap_alloc _ _ _ h.lt];exact h
theorem dH.new (w:World) (t:TypeId) (v:Value):dH (w.alloc (.cells #[v] t)) w.heap.size t v:=heap_alloc_new w _
theorem dH.new' {w:World} {t:TypeId} {v:Value} {n:Nat} (h:n=w.heap.size):dH (w.alloc (.cells #[v] t)) n t v:=by subst h;exact dH.new w t v
theorem dH.drew {w:World} {c:Nat} {t:TypeId} {v:Value} (h:dH w c t v):dH w.drew c t v:=h
theorem dH.grown {w w':World} {row:Option Nat} {c:Nat} {t:TypeId} {v:Value} (h:dH w c t v) (hg:w.grownBy w' row) (hr:row≠some c):dH w' c t v:=by
 unfold dH;rw [hg.block c h.lt (fun e=>hr e.symm)];exact h
theorem dH.kept {X:Nat→Prop} {w w':World} {c:Nat} {t:TypeId} {v:Value} (h:dH w c t v) (hk:Kept X w w') (hx:¬X c):dH w' c t v:=by
 unfold dH;rw [hk.block c h.lt hx];exact h
theorem y7 {k:IntKind} {a b:Int} (h:a=b):Ending.returned (.int k a)=.returned (.int k b):=by rw [h]
inductive aB where
 | mk (kind:Int) (text:aj) (n:Int) (name:aj) (kids:List aB)
def aB.kind:aB→Int | .mk k _ _ _ _=>k
def aB.text:aB→aj | .mk _ t _ _ _=>t
def aB.n:aB→Int | .mk _ _ n _ _=>n
def aB.name:aB→aj | .mk _ _ _ nm _=>nm
def aB.kids:aB→List aB | .mk _ _ _ _ l=>l
section
variable (k:Int) (t:aj) (n:Int) (nm:aj) (l:List aB)
@[simp] theorem aB.y8:(aB.mk k t n nm l).kind=k:=rfl
@[simp] theorem aB.y9:(aB.mk k t n nm l).text=t:=rfl
@[simp] theorem aB.MG:(aB.mk k t n nm l).n=n:=rfl
@[simp] theorem aB.zh:(aB.mk k t n nm l).name=nm:=rfl
@[simp] theorem aB.zi:(aB.mk k t n nm l).kids=l:=rfl
end
mutual
def aU (w:World) (S:Nat→Prop) (b o:Nat):aB→Prop
 | .mk k t n nm kids=>S b∧(t.size<1000000000∧nm.size<1000000000∧kids.length<1000000000)∧w.cell? ⟨b,o,none⟩=some (.int .i64 k)∧w.cell? ⟨b,o+1,none⟩=some (.string t)∧
   w.cell? ⟨b,o+2,none⟩=some (.int .i64 n)∧w.cell? ⟨b,o+3,none⟩=some (.string nm)∧
   ∃ka cap,w.cell? ⟨b,o+4,none⟩=some (.slice ka kids.length cap)∧aN w S ka kids
def aN (w:World) (S:Nat→Prop) (ka:Option Addr):List aB→Prop
 | []=>True
 | p::ps=>∃b o,ka=some ⟨b,o,none⟩∧aU w S b o p∧aN w S (some ⟨b,o+5,none⟩) ps
end
def ou (w:World) (S:Nat→Prop) (v:Value) (p:aB):Prop :=
 ∃ka cap,v=.agg #[.int .i64 p.kind,.string p.text,.int .i64 p.n,.string p.name,.slice ka p.kids.length cap]∧(p.text.size<1000000000∧p.name.size<1000000000∧p.kids.length<1000000000)∧aN w S ka p.kids
theorem mV {w:World} {S:Nat→Prop}:∀(ps:List aB) (b o i:Nat) (h:i<ps.length),aN w S (some ⟨b,o,none⟩) ps→aU w S b (o+i*5) ps[i]
 | [],_,_,_,h,_=>by simp at h
 | p::ps,b,o,0,_,hp=>by
  unfold aN at hp;obtain ⟨b',o',e,h1,_⟩:=hp
  simp at e;obtain ⟨rfl,rfl⟩:=e;simpa using h1
 | p::ps,b,o,i+1,h,hp=>by
  unfold aN at hp;obtain ⟨b',o',e,_,h2⟩:=hp
  simp at e;obtain ⟨rfl,rfl⟩:=e
  have:=mV ps b (o+5) i (by simpa using h) h2
  rw [show o+(i+1)*5=o+5+i*5 from by omega];simpa using this
theorem oh {w:World} {S:Nat→Prop} {ka:Option Addr} {ps:List aB} (h:aN w S ka ps) (h0:0<ps.length):∃b o,ka=some ⟨b,o,none⟩:=by
 cases ps with
 | nil=>simp at h0
 | cons p ps=>unfold aN at h;obtain ⟨b,o,e,_⟩:=h;exact ⟨b,o,e⟩
mutual
theorem aU.same {w w':World} {S S':Nat→Prop} (h:∀b,S b→w'.heap[b]?=w.heap[b]?) (hs:∀b,S b→S' b):∀(p:aB) (b o:Nat),aU w S b o p→aU w' S' b o p
 | .mk k t n nm kids,b,o,hp=>by
  unfold aU at hp⊢
  obtain ⟨hb,hz,h0,h1,h2,h3,ka,cap,h4,hk⟩:=hp
  have hc:∀i,w'.cell? ⟨b,i,none⟩=w.cell? ⟨b,i,none⟩:=fun i=>World.cell?_of_block (h b hb)
  refine ⟨hs b hb,hz,?_,?_,?_,?_,ka,cap,?_,aN.same h hs kids ka hk⟩<;>(rw [hc];assumption)
theorem aN.same {w w':World} {S S':Nat→Prop} (h:∀b,S b→w'.heap[b]?=w.heap[b]?) (hs:∀b,S b→S' b):∀(ps:List aB) (ka:Option Addr),aN w S ka ps→aN w' S' ka ps
 | [],_,_=>by unfold aN;trivial
 | p::ps,ka,hp=>by
  unfold aN at hp⊢
  obtain ⟨b,o,e,h1,h2⟩:=hp
  exact ⟨b,o,e,aU.same h hs p b o h1,aN.same h hs ps _ h2⟩
end
def Safe (S:Nat→Prop) (X:Nat→Prop) (n:Nat):Prop:=∀b,S b→b<n∧¬X b
theorem Safe.mono {S:Nat→Prop} {X:Nat→Prop} {n m:Nat} (h:Safe S X n) (hm:n≤m):Safe S X m:=fun b hb=>⟨Nat.lt_of_lt_of_le (h b hb).1 hm,(h b hb).2⟩
theorem aU.kept {w w':World} {S:Nat→Prop} {X:Nat→Prop} {p:aB} {b o:Nat} (hp:aU w S b o p) (hk:Kept X w w') (hs:Safe S X w.heap.size):aU w' S b o p :=
 aU.same (fun b hb=>hk.block b (hs b hb).1 (hs b hb).2) (fun _ h=>h) p b o hp
theorem aN.kept {w w':World} {S:Nat→Prop} {X:Nat→Prop} {ps:List aB} {ka:Option Addr} (hp:aN w S ka ps) (hk:Kept X w w') (hs:Safe S X w.heap.size):aN w' S ka ps :=
 aN.same (fun b hb=>hk.block b (hs b hb).1 (hs b hb).2) (fun _ h=>h) ps ka hp
theorem aU.to {w w':World} {S S':Nat→Prop} {X:Nat→Prop} {p:aB} {b o:Nat} (hp:aU w S b o p) (hk:Kept X w w') (hs:Safe S X w.heap.size) (h:∀b,S b→S' b):aU w' S' b o p :=
 aU.same (fun b hb=>hk.block b (hs b hb).1 (hs b hb).2) h p b o hp
theorem aN.to {w w':World} {S S':Nat→Prop} {X:Nat→Prop} {ps:List aB} {ka:Option Addr} (hp:aN w S ka ps) (hk:Kept X w w') (hs:Safe S X w.heap.size) (h:∀b,S b→S' b):aN w' S' ka ps :=
 aN.same (fun b hb=>hk.block b (hs b hb).1 (hs b hb).2) h ps ka hp
theorem Safe.lt {n m:Nat} (h:n≤m):Safe (· < n) aA m:=fun _ hb=>⟨Nat.lt_of_lt_of_le hb h,fun h=>h⟩
variable {σ:Type}
mutual
def jw (f:σ→aB→Nat→σ×Bool):σ→aB→Nat→σ×Bool
 | st,.mk k t n nm kids,d=>match f st (.mk k t n nm kids) d with
  | (st',false)=>(st',false)
  | (st',true)=>jC f st' kids (d+1)
def jC (f:σ→aB→Nat→σ×Bool):σ→List aB→Nat→σ×Bool
 | st,[],_=>(st,true)
 | st,p::ps,d=>match jw f st p d with
  | (st',false)=>(st',false)
  | (st',true)=>jC f st' ps d
end
mutual
def sizeT:aB→Nat
 | .mk _ _ _ _ kids=>1+bK kids
def bK:List aB→Nat
 | []=>0
 | p::ps=>sizeT p+bK ps
end
theorem xP:∀l:List aB,l.length≤bK l
 | []=>by simp [bK]
 | p::ps=>by cases p;have:=xP ps;simp only [List.length_cons,bK,sizeT];omega
theorem oQ:∀(l:List aB) (j:Nat) (hj:j<l.length),sizeT l[j]≤bK l
 | [],_,hj=>by simp at hj
 | p::ps,0,_=>by simp only [List.getElem_cons_zero,bK];omega
 | p::ps,j+1,hj=>by have:=oQ ps j (by simpa using hj);simp only [List.getElem_cons_succ,bK];omega
theorem ay(w:World)(o:Obj):(w.alloc o).heap[w.heap.size]?=some o:=heap_alloc_new w o
end Go.Proofs.YtodebjhalipefaaGreatDoor
