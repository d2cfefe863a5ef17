/-  -/
import Derived.Test.YtgoijmpahffnhaaGreatDoorLc18
import Derived.Test.YtgoijmpahffnhaaGreatDoorLc17
import Derived.Test.YtgoijmpahffnhaaGreatDoorLc9
import Derived.Test.YtgoijmpahffnhaaGreatDoorWin
import Derived.Shelf.SlIter.Nil
import Derived.Shelf.SortM.Plain
import Derived.Shelf.SortM.SortNone
import Derived.Ground.GgzProg
import Derived.Ground.SlgmProg
import Derived.Shelf.SlGeneric
import Derived.Test.YtgoijmpahffnhaaGreatDoorLc15
namespace Go.Proofs.YtgoijmpahffnhaaGreatDoor
set_option linter.all false
open Go.RowKit
section
variable (p:aG→Prop) [DecidablePred p]
def pK:Nat→List aG→Int
 | _,[] => -1
 | i,s::r=>if p s then (i:Int) else pK (i+1) r
def nP (l:List aG):Nat→Option Int
 | 0=>none
 | j+1=>match l[j]? with|some s=>if p s then some (j:Int) else nP l j|none=>nP l j
theorem AV (l:List aG):∀j,nP p l j=none↔∀k,k<j→∀h:k<l.length,¬p l[k]
 | 0=>⟨fun _ k hk=>absurd hk (by omega),fun _=>rfl⟩
 | j+1=>by
  have ih:=AV l j
  rw [nP]
  by_cases hj:j<l.length
  ·rw [List.getElem?_eq_getElem hj]
   by_cases hp:p l[j]
   ·simp only [hp,if_true]
    exact ⟨fun h=>(by cases h),fun h=>absurd hp (h j (by omega) hj)⟩
   ·simp only [hp,if_false]
    rw [ih]
    refine ⟨fun h k hk hl=>?_,fun h k hk hl=>h k (by omega) hl⟩
    by_cases he:k=j
    ·subst he;exact hp
    ·exact h k (by omega) hl
  ·rw [List.getElem?_eq_none (by omega)]
   show nP p l j=none↔_
   rw [ih]
   exact ⟨fun h k hk hl=>h k (by omega) hl,fun h k hk hl=>h k (by omega) hl⟩
theorem xH (l:List aG) {d:Int}:∀j,nP p l j=some d→∃k:Nat,d=k∧k<j∧∃h:k<l.length,p l[k]
 | 0,h=>by cases h
 | j+1,h=>by
  rw [nP] at h
  by_cases hj:j<l.length
  ·rw [List.getElem?_eq_getElem hj] at h
   by_cases hp:p l[j]
   ·simp only [hp,if_true,Option.some.injEq] at h
    exact ⟨j,h.symm,by omega,hj,hp⟩
   ·simp only [hp,if_false] at h
    obtain ⟨k,h1,h2,h3⟩:=xH l j h
    exact ⟨k,h1,by omega,h3⟩
  ·rw [List.getElem?_eq_none (by omega)] at h
   obtain ⟨k,h1,h2,h3⟩:=xH l j h
   exact ⟨k,h1,by omega,h3⟩
theorem vZ:∀(l:List aG) (i:Nat),(pK p i l = -1∧∀k (h:k<l.length),¬p l[k])∨∃k,∃h:k<l.length,pK p i l=((i+k:Nat):Int)∧p l[k]∧∀m (hm:m<k),¬p (l[m]'(by omega))
 | [],i=>.inl ⟨rfl,fun k h=>absurd h (by simp)⟩
 | s::r,i=>by
  rw [pK]
  by_cases hp:p s
  ·rw [if_pos hp];exact .inr ⟨0,by simp,rfl,hp,fun m hm=>absurd hm (by omega)⟩
  ·rw [if_neg hp]
   rcases vZ r (i+1) with ⟨h1,h2⟩|⟨k,h,h1,h2,h3⟩
   ·exact .inl ⟨h1,fun k h=>by cases k with|zero=>exact hp|succ k=>exact h2 k (by simpa using h)⟩
   ·refine .inr ⟨k+1,by simp;omega,by rw [h1];omega,h2,fun m hm=>?_⟩
    cases m with
    | zero=>exact hp
    | succ m=>exact h3 m (by omega)
theorem NK (l:List aG) (j:Nat) (h:j<l.length) (hp:p l[j]):pK p 0 l=j↔nP p l j=none:=by
 rw [AV]
 rcases vZ p l 0 with ⟨_,h2⟩|⟨k,hk,h1,h2,h3⟩
 ·exact absurd hp (h2 j h)
 ·rw [h1,Nat.zero_add]
  constructor
  ·intro e m hm hl;obtain rfl:k=j:=by omega
   exact h3 m hm
  ·intro e
   by_cases hkj:k=j
   ·rw [hkj]
   ·rcases Nat.lt_or_ge k j with h4|h4
    ·exact absurd h2 (e k h4 hk)
    ·exact absurd hp (h3 j (by omega))
theorem NM (l:List aG) (hu:∀j (h:j<l.length),p l[j]→pK p 0 l=j):nP p l l.length=if pK p 0 l<0 then none else some (pK p 0 l):=by
 cases hl:nP p l l.length with
 | none =>
  rw [AV] at hl
  rcases vZ p l 0 with ⟨h1,_⟩|⟨k,hk,_,h2,_⟩
  ·rw [h1];rfl
  ·exact absurd h2 (hl k hk hk)
 | some d =>
  obtain ⟨k,rfl,_,hk,hp⟩:=xH p l _ hl
  rw [hu k hk hp,if_neg (by omega)]
end
def MV (n:aj) (s:aG):Prop:=s.label=n∧n.size≠0
def Ri (n:aj) (s:aG):Prop:=s.kind=7∧s.name=n
instance (n:aj):DecidablePred (MV n):=fun s=>by unfold MV;exact inferInstance
instance (n:aj):DecidablePred (Ri n):=fun s=>by unfold Ri;exact inferInstance
theorem uD (l:List aG) (n:aj):pJ l n=pK (MV n) 0 l:=by
 unfold pJ
 generalize 0=i
 induction l generalizing i with
 | nil=>rfl
 | cons s r ih=>rw [IX,pK,ih];rfl
theorem zF (l:List aG) (n:aj):funcF l n=pK (Ri n) 0 l:=by
 unfold funcF
 generalize 0=i
 induction l generalizing i with
 | nil=>rfl
 | cons s r ih=>rw [ML,pK,ih];rfl
def fK (l:List aG):Nat→aj→Option Int
 | 0=>fun _=>none
 | j+1=>match l[j]? with|some s=>if s.label.size=0 then fK l j else lZ (fK l j) s.label j|none=>fK l j
def gB (l:List aG):Nat→aj→Option Int
 | 0=>fun _=>none
 | j+1=>match l[j]? with|some s=>if s.kind=7 then lZ (gB l j) s.name j else gB l j|none=>gB l j
theorem wG (l:List aG) (n:aj):∀j,fK l j n=nP (MV n) l j
 | 0=>rfl
 | j+1=>by
  rw [fK,nP]
  cases l[j]? with
  | none=>exact wG l n j
  | some s =>
   dsimp only
   by_cases h0:s.label.size=0
   ·rw [if_pos h0,wG l n j,if_neg (fun h=>h.2 (by rw [←h.1];exact h0))]
   ·rw [if_neg h0]
    unfold lZ
    by_cases hn:n=s.label
    ·rw [if_pos hn,if_pos ⟨hn.symm,by rw [hn];exact h0⟩]
    ·rw [if_neg hn,wG l n j,if_neg (fun h=>hn h.1.symm)]
theorem tX (l:List aG) (n:aj):∀j,gB l j n=nP (Ri n) l j
 | 0=>rfl
 | j+1=>by
  rw [gB,nP]
  cases l[j]? with
  | none=>exact tX l n j
  | some s =>
   dsimp only
   by_cases h0:s.kind=7
   ·rw [if_pos h0]
    unfold lZ
    by_cases hn:n=s.name
    ·rw [if_pos hn,if_pos ⟨h0,hn.symm⟩]
    ·rw [if_neg hn,tX l n j,if_neg (fun h=>hn h.2.symm)]
   ·rw [if_neg h0,tX l n j,if_neg (fun h=>h0 h.1)]
theorem Zv (l:List aG) (j:Nat) (h:j<l.length) (h0:l[j].label.size≠0):fK l (j+1)=lZ (fK l j) l[j].label j:=by
 rw [fK,List.getElem?_eq_getElem h];exact if_neg h0
theorem ab3 (l:List aG) (j:Nat) (h:j<l.length) (h0:l[j].label.size=0):fK l (j+1)=fK l j:=by
 rw [fK,List.getElem?_eq_getElem h];exact if_pos h0
theorem Zw (l:List aG) (j:Nat) (h:j<l.length) (h0:l[j].kind=7):gB l (j+1)=lZ (gB l j) l[j].name j:=by
 rw [gB,List.getElem?_eq_getElem h];exact if_pos h0
theorem ab4 (l:List aG) (j:Nat) (h:j<l.length) (h0:l[j].kind≠7):gB l (j+1)=gB l j:=by
 rw [gB,List.getElem?_eq_getElem h];exact if_neg h0
theorem ab5 (l:List aG) (j:Nat) (n:aj) (d:Int) (h:gB l j n=some d):∃k:Nat,d=k∧k<l.length:=by
 rw [tX] at h
 obtain ⟨k,h1,_,h2,_⟩:=xH _ l j h
 exact ⟨k,h1,h2⟩
def own (s:aG):List aj:=s.params++s.locals++[s.name]
def EI:aj:=⟨#[73,78,80,85,84]⟩
def zG:aj:=⟨#[79,85,84,80,85,84]⟩
def badL (m:aj→Option Int) (s:aG):Prop:=s.label.size≠0∧((m s.label).isSome=true∨sJ s.label=true)
def uH (m:aj→Option Int) (s:aG):Prop:=s.kind=7∧((m s.name).isSome=true∨0≤aJ s.name∨¬xI (own s)∨EI∈own s∨zG∈own s)
theorem EJ (l:List aj):xI l↔l.Nodup:=by
 unfold xI List.Nodup
 rw [List.pairwise_iff_getElem]
 exact ⟨fun h i j hi hj hij e=>h j hj i hij e.symm,fun h x hx y hy e=>h y x (by omega) hx hy e.symm⟩
theorem GU (x:aj) (a:Array UInt8):x.toList=a.toList↔x=⟨a⟩:=by
 rw [ByteArray.toList_eq]
 obtain ⟨y⟩:=x
 exact ⟨fun h=>congrArg ByteArray.mk (Array.toList_inj.1 h),fun h=>(by cases h;rfl)⟩
theorem Wq (s:aG):GH (s.name::s.params++s.locals)↔xI (own s)∧EI∉own s∧zG∉own s:=by
 have hp:List.Perm (s.name::s.params++s.locals) (own s):=by
  show List.Perm (s.name::(s.params++s.locals)) (s.params++s.locals++[s.name])
  exact (List.perm_append_singleton _ _).symm
 rw [EJ,←hp.nodup_iff,←hp.mem_iff,←hp.mem_iff,←EJ]
 generalize s.name::s.params++s.locals=all
 constructor
 ·intro h
  refine ⟨fun x hx y hy=>(h x hx).2.2 y hy,fun hm=>?_,fun hm=>?_⟩
  ·obtain ⟨i,hi,e⟩:=List.getElem_of_mem hm
   exact (h i hi).1 (by rw [e,ByteArray.toList_eq];rfl)
  ·obtain ⟨i,hi,e⟩:=List.getElem_of_mem hm
   exact (h i hi).2.1 (by rw [e,ByteArray.toList_eq];rfl)
 ·rintro ⟨h1,h2,h3⟩ a ha
  refine ⟨fun e=>h2 ?_,fun e=>h3 ?_,fun b hb=>h1 a ha b hb⟩
  ·have:=(GU all[a] #[73,78,80,85,84]).1 e
   show (⟨#[73,78,80,85,84]⟩:aj)∈all
   rw [←this];exact List.getElem_mem ha
  ·have:=(GU all[a] #[79,85,84,80,85,84]).1 e
   show (⟨#[79,85,84,80,85,84]⟩:aj)∈all
   rw [←this];exact List.getElem_mem ha
theorem Kr (l:List aG) (j:Nat) (h:j<l.length):qH l j l[j]↔¬badL (fK l j) l[j]∧¬uH (gB l j) l[j]:=by
 have h1:Jc l j l[j]↔¬badL (fK l j) l[j]:=by
  unfold Jc badL
  by_cases h0:l[j].label.size=0
  ·simp [h0]
  ·have:=NK (MV l[j].label) l j h ⟨rfl,h0⟩
   rw [uD,this,wG,←Option.isNone_iff_eq_none,←Option.not_isSome]
   cases sJ l[j].label<;>cases (nP (MV l[j].label) l j).isSome<;>simp [h0]
 have h2:(l[j].kind=7→NG l j l[j]∧GH (l[j].name::l[j].params++l[j].locals))↔¬uH (gB l j) l[j]:=by
  unfold uH NG
  by_cases h7:l[j].kind=7
  ·have:=NK (Ri l[j].name) l j h ⟨h7,rfl⟩
   rw [zF,this,tX,←Option.isNone_iff_eq_none,←Option.not_isSome,Wq]
   generalize (nP (Ri l[j].name) l j).isSome=b
   constructor
   ·rintro h ⟨_,h3⟩
    obtain ⟨⟨h4,h5⟩,h6,h8,h9⟩:=h h7
    rcases h3 with h3|h3|h3|h3|h3
    ·rw [h3] at h5;cases h5
    ·omega
    ·exact h3 h6
    ·exact h8 h3
    ·exact h9 h3
   ·intro h _
    have h':¬(b=true∨0≤aJ l[j].name∨¬xI (own l[j])∨EI∈own l[j]∨zG∈own l[j]):=fun e=>h ⟨h7,e⟩
    refine ⟨⟨by have:¬0≤aJ l[j].name:=fun e=>h' (.inr (.inl e));omega,?_⟩,Classical.byContradiction fun e=>h' (.inr (.inr (.inl e))),fun e=>h' (.inr (.inr (.inr (.inl e)))),fun e=>h' (.inr (.inr (.inr (.inr e))))⟩
    cases b with
    | true=>exact absurd (.inl rfl) h'
    | false=>rfl
  ·simp [h7]
 unfold qH
 rw [h1,h2]
end Go.Proofs.YtgoijmpahffnhaaGreatDoor

namespace Go.Proofs.YtgoijmpahffnhaaGreatDoor
set_option linter.all false
open Go.RowKit
open Classical in
noncomputable def oZ (P:Prop) (i:Int) (r:Int×Int):Int×Int:=if P then wQ r (7,i) else r
theorem AX {P:Prop} (h:P) (i:Int) (r:Int×Int):oZ P i r=wQ r (7,i):=if_pos h
theorem vK {P:Prop} (h:¬P) (i:Int) (r:Int×Int):oZ P i r=r:=if_neg h
theorem Kt {r:Int×Int} (h:r.1≠0) (q:Int×Int):wQ r q=r:=if_neg h
theorem Di (q:Int×Int):wQ (0,0) q=q:=if_pos rfl
theorem tY {r:Int×Int} (h:r.1≠0) (e i:Int):jQ r e i=r:=by unfold jQ;split;rfl;exact Kt h _
noncomputable def nR (l:List aG):Nat→Int×Int
 | 0=>(0,0)
 | j+1=>match l[j]? with|some s=>oZ (uH (gB l j) s) j (oZ (badL (fK l j) s) j (nR l j))|none=>nR l j
theorem Jj (l:List aG) (j:Nat) (h:j<l.length):nR l (j+1)=oZ (uH (gB l j) l[j]) j (oZ (badL (fK l j) l[j]) j (nR l j)):=by
 rw [nR,List.getElem?_eq_getElem h]
theorem Dj {P:Prop} {i:Int} {r:Int×Int} (h:r.1≠0):oZ P i r=r:=by unfold oZ;split;exact Kt h _;rfl
theorem Rj (l:List aG) (j:Nat) (h0:(nR l j).1≠0):∀k,nR l (j+k)=nR l j
 | 0=>rfl
 | k+1=>by
  rw [←Nat.add_assoc,nR]
  have ih:=Rj l j h0 k
  cases l[j+k]? with
  | none=>exact ih
  | some s=>dsimp only;rw [ih,Dj h0,Dj h0]
theorem Rk (l:List aG):∀(k j:Nat),j+k=l.length→nR l j=(0,0)→nR l l.length=match mD l j (l.drop j) with|some (a,b)=>(a,(b:Int))|none=>(0,0)
 | 0,j,hj,h0=>by
  obtain rfl:j=l.length:=by omega
  rw [List.drop_length,mD,h0]
 | k+1,j,hj,h0=>by
  have hlt:j<l.length:=by omega
  have hs:=Jj l j hlt
  by_cases hn:qH l j l[j]
  ·rw [NP l j hlt hn]
   obtain ⟨h1,h2⟩:=(Kr l j hlt).1 hn
   rw [vK h2,vK h1,h0] at hs
   exact Rk l k (j+1) (by omega) hs
  ·rw [Rl l j hlt hn]
   have h7:nR l (j+1)=(7,(j:Int)):=by
    rw [hs,h0]
    by_cases h1:badL (fK l j) l[j]
    ·rw [AX h1,Di,Dj (by show (7:Int)≠0;decide)]
    ·by_cases h2:uH (gB l j) l[j]
     ·rw [AX h2,vK h1,Di]
     ·exact absurd ((Kr l j hlt).2 ⟨h1,h2⟩) hn
   have:=Rj l (j+1) (by rw [h7];show (7:Int)≠0;decide) (l.length-(j+1))
   rw [show j+1+(l.length-(j+1))=l.length by omega] at this
   rw [this,h7]
theorem NQ (l:List aG):∀(k j:Nat),j+k=l.length→mD l j (l.drop j)=none→∀i (h:i<l.length),j≤i→qH l i l[i]
 | 0,j,hj,h0,i,hi,hji=>by omega
 | k+1,j,hj,h0,i,hi,hji=>by
  have hlt:j<l.length:=by omega
  by_cases hn:qH l j l[j]
  ·rw [NP l j hlt hn] at h0
   by_cases he:j=i
   ·subst he;exact hn
   ·exact NQ l k (j+1) (by omega) h0 i hi (by omega)
  ·rw [Rl l j hlt hn] at h0;cases h0
def lF (l:List aG) (n:aj):Option Int:=if pJ l n<0 then none else some (pJ l n)
def uI (l:List aG) (n:aj):Option Int:=if funcF l n<0 then none else some (funcF l n)
theorem NR (l:List aG) (h:∀i (h:i<l.length),qH l i l[i]):fK l l.length=lF l:=by
 funext n
 rw [wG,NM,←uD];rfl
 intro j hj hp
 rw [←uD]
 rcases (h j hj).1 with h1|h1
 ·exact absurd h1 (by rw [hp.1];exact hp.2)
 ·rw [←hp.1];exact h1.2
theorem NS (l:List aG) (h:∀i (h:i<l.length),qH l i l[i]):gB l l.length=uI l:=by
 funext n
 rw [tX,NM,←zF];rfl
 intro j hj hp
 rw [←zF]
 have h1:=((h j hj).2 hp.1).1.2
 rw [←hp.2];exact h1
def Eh (m:aj→Option Int) (n:aj):Prop:=n.size≠0∧(m n).isSome=false∧sJ n=false
instance (m:aj→Option Int) (n:aj):Decidable (Eh m n):=by unfold Eh;exact inferInstance
def BZ (m:aj→Option Int) (i:Int):List aj→Int×Int→Int×Int
 | [],r=>r
 | n::q,r=>BZ m i q (jQ r (if Eh m n then 6 else 0) i)
def AY (m:aj→Option Int) (s:aG):Int:=if s.kind=7∧(m s.entry).isSome=false then 6 else 0
def FP (m1 m2:aj→Option Int) (l:List aG) (i:Int) (s:aG) (r:Int×Int):Int×Int :=
 jJ m2 l i (jB s) (jQ (BZ m1 i (zY s) r) (AY m1 s) i)
def uR (m1 m2:aj→Option Int) (l:List aG) (r:Int×Int):Nat→Int×Int
 | 0=>r
 | j+1=>match l[j]? with|some s=>FP m1 m2 l j s (uR m1 m2 l r j)|none=>uR m1 m2 l r j
theorem Rn (m1 m2:aj→Option Int) (l:List aG) (r:Int×Int) (j:Nat) (h:j<l.length):uR m1 m2 l r (j+1)=FP m1 m2 l j l[j] (uR m1 m2 l r j):=by
 rw [uR,List.getElem?_eq_getElem h]
theorem Zx (m:aj→Option Int) (i:Int) (q:List aj) (j:Nat) (h:j<q.length) (r:Int×Int):BZ m i (q.drop j) r=BZ m i (q.drop (j+1)) (jQ r (if Eh m q[j] then 6 else 0) i):=by
 rw [List.drop_eq_getElem_cons h,BZ]
theorem NT (m:aj→Option Int) (i:Int) (r:Int×Int) (h:r.1≠0):∀q,BZ m i q r=r
 | []=>rfl
 | n::q=>by rw [BZ,tY h,NT m i r h q]
mutual
theorem Qh (m:aj→Option Int) (l:List aG) (i:Int) (r:Int×Int) (h:r.1≠0):∀x,pI m l i x r=r
 | .mk k t n nm kids=>by rw [pI,tY h,zH m l i r h kids]
theorem zH (m:aj→Option Int) (l:List aG) (i:Int) (r:Int×Int) (h:r.1≠0):∀q,jJ m l i q r=r
 | []=>by rw [jJ]
 | x::q=>by rw [jJ,Qh m l i r h x,zH m l i r h q]
end
theorem Ws (m1 m2:aj→Option Int) (l:List aG) (i:Int) (s:aG) (r:Int×Int) (h:r.1≠0):FP m1 m2 l i s r=r:=by
 unfold FP
 rw [NT _ _ _ h,tY h,zH _ _ _ _ h]
theorem Jk (m1 m2:aj→Option Int) (l:List aG) (r:Int×Int) (j:Nat) (h:(uR m1 m2 l r j).1≠0):∀k,uR m1 m2 l r (j+k)=uR m1 m2 l r j
 | 0=>rfl
 | k+1=>by
  rw [←Nat.add_assoc,uR]
  have ih:=Jk m1 m2 l r j h k
  cases l[j+k]? with
  | none=>exact ih
  | some s=>dsimp only;rw [ih,Ws _ _ _ _ _ _ h]
theorem wH (r:Int×Int) (a b i:Int):jQ (jQ r a i) b i=jQ r (if a=0 then b else a) i:=by
 by_cases ha:a=0
 ·rw [if_pos ha,show jQ r a i=r from if_pos ha]
 ·rw [if_neg ha]
  by_cases hr:r.1=0
  ·have:jQ r a i=(a,i):=(if_neg ha).trans (if_pos hr)
   rw [this,tY ha]
  ·rw [tY hr,tY hr]
theorem NU (l:List aG) (n:aj):Eh (lF l) n↔xP l n:=by
 unfold Eh xP lF
 by_cases h:pJ l n<0
 ·simp [h]
 ·simp [h]
theorem Ro (l:List aG) (i:Int):∀q r,BZ (lF l) i q r=jQ r (Wu l q) i
 | [],r=>(if_pos rfl).symm
 | n::q,r=>by
  rw [BZ,Ro l i q,wH,Wu]
  by_cases h:xP l n
  ·rw [if_pos h,if_pos ((NU l n).2 h),if_neg (by decide)]
  ·rw [if_neg h,if_neg (fun e=>h ((NU l n).1 e)),if_pos rfl]
theorem ab6 (l:List aG) (s:aG):AY (lF l) s=if s.kind=7∧pJ l s.entry<0 then 6 else 0:=by
 unfold AY lF
 by_cases h:pJ l s.entry<0
 ·simp [h]
 ·simp [h]
theorem Zy (l:List aG) (x:aA):yJ (uI l) l x=GV l x:=by
 unfold yJ GV uI
 by_cases h:funcF l x.name<0
 ·simp [h]
  by_cases h1:x.kind=6
  ·rw [if_pos h1,if_pos h1]
   by_cases h2:0≤aJ x.name∧¬aJ x.name=x.kids.length
   ·rw [if_pos h2,if_pos h2]
   ·rw [if_neg h2,if_neg h2]
    by_cases h3:aJ x.name<0
    ·rw [if_pos h3,if_pos h3]
    ·rw [if_neg h3,if_neg h3,if_neg (fun e=>h3 e.1),if_neg (fun e=>h3 e.1)]
  ·rw [if_neg h1,if_neg h1]
 ·simp [h]
theorem Jl (l:List aG):∀a b,yg l (a++b)=if yg l a=0 then yg l b else yg l a
 | [],b=>(if_pos rfl).symm
 | y::r,b=>by
  rw [List.cons_append,yg,yg,Jl l r b]
  by_cases h:GV l y=0
  ·simp only [h,if_true]
  ·simp only [h,if_false]
mutual
theorem TR (l:List aG) (i:Int):∀x r,pI (uI l) l i x r=jQ r (yg l (allT x)) i
 | .mk k t n nm kids,r=>by
  rw [pI,AZ l i kids,wH,Zy,allT,yg]
theorem AZ (l:List aG) (i:Int):∀q r,jJ (uI l) l i q r=jQ r (yg l (allL q)) i
 | [],r=>by rw [jJ,allL,yg];exact (if_pos rfl).symm
 | x::q,r=>by
  rw [jJ,AZ l i q,TR l i x,wH,allL,Jl]
end
theorem NV (l:List aG):∀q,exE l q=yg l (allL q)
 | []=>rfl
 | x::q=>by rw [exE,allL,Jl,NV l q]
theorem ab7 (l:List aG) (i:Int) (s:aG) (r:Int×Int):FP (lF l) (uI l) l i s r=jQ r (wo l s) i:=by
 unfold FP wo
 rw [AZ,Ro,wH,wH,ab6,NV]
 simp only [dR]
 generalize Wu l (zY s)=a
 generalize (if s.kind=7∧pJ l s.entry<0 then (6:Int) else 0)=b
 generalize yg l (allL (jB s))=c
 by_cases h1:a=0<;>by_cases h2:b=0<;>by_cases h3:c=0<;>simp [h1,h2,h3]
theorem Rq (l:List aG):∀(k j:Nat),j+k=l.length→uR (lF l) (uI l) l (0,0) j=(0,0)→uR (lF l) (uI l) l (0,0) l.length=match wU l j (l.drop j) with|some (a,b)=>(a,(b:Int))|none=>(0,0)
 | 0,j,hj,h0=>by
  obtain rfl:j=l.length:=by omega
  rw [List.drop_length,wU,h0]
 | k+1,j,hj,h0=>by
  have hlt:j<l.length:=by omega
  have hs:=Rn (lF l) (uI l) l (0,0) j hlt
  rw [h0,ab7] at hs
  rw [Wv l j hlt]
  by_cases hu:wo l l[j]=0
  ·rw [if_pos hu]
   exact Rq l k (j+1) (by omega) (hs.trans (if_pos hu))
  ·rw [if_neg hu]
   have h7:uR (lF l) (uI l) l (0,0) (j+1)=(wo l l[j],(j:Int)):=hs.trans ((if_neg hu).trans (Di _))
   have:=Jk (lF l) (uI l) l (0,0) (j+1) (by rw [h7];exact hu) (l.length-(j+1))
   rw [show j+1+(l.length-(j+1))=l.length by omega] at this
   rw [this,h7]
noncomputable def LP (l:List aG):Int×Int:=uR (fK l l.length) (gB l l.length) l (nR l l.length) l.length
theorem NW (l:List aG) (hl:¬1000<l.length) (hw:qI 0 l=none):LP l=((dI l).1,((dI l).2:Int)):=by
 unfold LP
 have h1:=Rk l l.length 0 (by omega) rfl
 rw [List.drop_zero] at h1
 cases hn:mD l 0 l with
 | some r =>
  rw [hn] at h1
  rw [NY hl hw hn,h1]
  have hr:r.1=7:=by
   have:∀(q:List aG) (i:Nat) (r:Int×Nat),mD l i q=some r→r.1=7:=by
    intro q
    induction q with
    | nil=>intro i r h;cases h
    | cons s q ih =>
     intro i r h
     rw [mD] at h
     split at h
     ·exact ih _ _ h
     ·cases h;rfl
   exact this l 0 r hn
  have:=Jk (fK l l.length) (gB l l.length) l (r.1,(r.2:Int)) 0 (by show r.1≠0;rw [hr];decide) l.length
  rw [Nat.zero_add] at this
  exact this
 | none =>
  rw [hn] at h1
  have hall:=NQ l l.length 0 (by omega) (by rw [List.drop_zero];exact hn)
  rw [h1,NR l (fun i h=>hall i h (Nat.zero_le _)),NS l (fun i h=>hall i h (Nat.zero_le _)),Rq l l.length 0 (by omega) rfl,List.drop_zero]
  cases hu:wU l 0 l with
  | some r=>rw [Zz hl hw hn hu]
  | none=>rw [ZA hl hw hn hu];rfl
theorem TT (l:List aG) (hl:¬1000<l.length) (hw:qI 0 l=none) (hr:(LP l).1=0):fK l l.length=lF l∧gB l l.length=uI l∧(dI l).1=0:=by
 have h1:=NW l hl hw
 have h2:(dI l).1=0:=by rw [h1] at hr;exact hr
 refine ⟨?_,?_,h2⟩
 all_goals
  have hn:mD l 0 l=none:=by
   cases hn:mD l 0 l with
   | none=>rfl
   | some r =>
    rw [NY hl hw hn] at h2
    have:∀(q:List aG) (i:Nat) (r:Int×Nat),mD l i q=some r→r.1=7:=by
     intro q
     induction q with
     | nil=>intro i r h;cases h
     | cons s q ih =>
      intro i r h
      rw [mD] at h
      split at h
      ·exact ih _ _ h
      ·cases h;rfl
    rw [this l 0 r hn] at h2;cases h2
  have hall:=NQ l l.length 0 (by omega) (by rw [List.drop_zero];exact hn)
 ·exact NR l (fun i h=>hall i h (Nat.zero_le _))
 ·exact NS l (fun i h=>hall i h (Nat.zero_le _))
end Go.Proofs.YtgoijmpahffnhaaGreatDoor

namespace Go.Proofs.YtgoijmpahffnhaaGreatDoor
set_option linter.all false
open Go.RowKit
def rF (l:List aG) (B:Nat) (p:Option Addr) (w':World):Prop :=
 ∃T B1 B2 n1 n2,p=some ⟨T,0,none⟩∧rD w' T B1 B2∧fJ w' B1 n1 (lF l)∧fJ w' B2 n2 (uI l)∧B≤T∧B≤B1∧B≤B2
def aaF (l:List aG) (w:World) (e:Ending) (w':World):Prop :=
 ∃p,e=.returned (.tuple #[.pointer p,.agg #[.int .i64 (dI l).1,.int .i64 ((dI l).2:Int)]])∧Kept aB w w'∧((dI l).1=0→rF l w.heap.size p w')∧((dI l).1≠0→p=none)
theorem Ba {f:Func} {tmps:Array Value} {l:List aG} {w w2:World} {F:Nat} {p:Option Addr} {a b:Int} (hres:f.results = #[.tmp 2,.cell 3 39]) (h2:tmps.getD 2 undef=.pointer p) (h3:tmps.getD 3 undef=.pointer (some ⟨F,0,none⟩)) (hF:Fl F a b w2)
  (hr:(a,b)=((dI l).1,((dI l).2:Int))) (K:Kept aB w w2) (hp:(dI l).1=0→rF l w.heap.size p w2) (hn:(dI l).1≠0→p=none):bodyPost Tryz.prog f (aaF l w) .ret ⟨tmps,[]⟩ w2:=by
 obtain ⟨h0,h1,_,_⟩:=hF.cells
 simp only [Prod.mk.injEq] at hr
 obtain ⟨rfl,rfl⟩:=hr
 have ht2:tmps[2]?.getD undef=.pointer p:=by rw [←h2,Array.getD_eq_getD_getElem?]
 have ht3:tmps[3]?.getD undef=.pointer (some ⟨F,0,none⟩):=by rw [←h3,Array.getD_eq_getD_getElem?]
 exact bodyPost_ret (v:=.tuple #[.pointer p,.agg #[.int .i64 (dI l).1,.int .i64 ((dI l).2:Int)]]) (by simp [results,hres,go_sem,ht2,ht3,h0,h1]) rfl ⟨p,rfl,K,hp,hn⟩
theorem check_big {l:List aG} (h:1000<l.length):dI l=(5,0):=if_pos h
section
open Go.Maps Go.WideMaps
theorem fJ.put {w:World} {B n:Nat} {m:aj→Option Int} (h:fJ w B n m) (hn:n<maxLen) (s:aj) (hs:s.size≤maxLen) (c:Int) (hc:(Lit.int .i64 c).wf=true) :
  ∃w',(Instr.mapUpdate 98 (.map (some B)) (.string s) (.int .i64 c)).run Tryz.prog w=.ok () w'∧fJ w' B (n+1) (lZ m s c)∧Kept (· = B) w w':=by
 obtain ⟨D,hown,hmap,hD⟩:=h
 obtain ⟨w',hrun,hown',hgr⟩:=hown.update rO Tryz.underlying98 hn (keyOf_string_mk Tryz.underlying9 hs) (plainElem_int (H:=Unit) (a:=c) Tryz.underlying3 hc)
 refine ⟨w',hrun,⟨_,hown',?_,fun t=>?_⟩,(Kept.refl (· = B) w).grown hgr fun k hk=>.inl (by cases hk;rfl)⟩
 ·obtain ⟨es,rfl⟩:=hmap;exact ⟨_,rfl⟩
 ·have hkl:WideAt.IsKeyLit (Lit.string s.data.toList):=by first|exact .string _|trivial|(simp [WideAt.IsKeyLit])
  unfold lZ
  by_cases ht:t=s
  ·subst ht
   rw [if_pos rfl]
   exact ⟨has_put_same hmap hkl _,fun z=>atKey_put_same hmap hkl _ z⟩
  ·rw [if_neg ht]
   exact ⟨(has_put_other (nD ht) _).trans (hD t).1,fun z=>(atKey_put_other (nD ht) _ z).trans ((hD t).2 z)⟩
end
def GX (N B1 B2:Nat) (b:Nat):Prop:=b=N∨b=B1∨b=B2
end Go.Proofs.YtgoijmpahffnhaaGreatDoor

namespace Go.Proofs.YtgoijmpahffnhaaGreatDoor
set_option linter.all false
open Go.RowKit
structure JL where
 name:aj
 key:aj
 keyed:Bool
def xX (w:aY) (p:JL) (t:aj):Bool×aY:=if p.keyed=true then IY w (p.name,p.key) t else gU w p.name t
def BP (k:Int) (nm:aj) (a:List aj):Option aj :=
 if k=7 then FB 10 ⟨#[48]⟩ (arg a 0) else if k=6 then xY nm a else FB k (arg a 0) (arg a 1)
def okO (p:(aj×Bool)×aY):Option aj×aY:=(if p.1.2=true then some p.1.1 else none,p.2)
mutual
def jy:aA→aY→Option aj×aY
 | .mk k t n nm kids,w =>
  if k=1 then (some t,w) else if k=2 then (some (mW n),w) else if k=3 then okO (jH w nm)
  else match l7 kids w with
   | (none,w1)=>(none,w1)
   | (some a,w1)=>(if k=4 then some (lookA w1.items (nm,arg a 0)) else BP k nm a,w1)
def l7:List aA→aY→Option (List aj)×aY
 | [],w=>(some [],w)
 | x::q,w=>match jy x w with
  | (none,w1)=>(none,w1)
  | (some t,w1)=>match l7 q w1 with
   | (none,w2)=>(none,w2)
   | (some l,w2)=>(some (t::l),w2)
end
def nT (x:aA) (w:aY):Option JL×aY :=
 if x.kind=3 then (some ⟨x.name,⟨#[]⟩,false⟩,w)
 else match l7 x.kids w with
  | (none,w1)=>(none,w1)
  | (some a,w1)=>(some ⟨x.name,arg a 0,true⟩,w1)
def oC (s:aG) (w:aY):Bool×aY :=
 if s.kind=2 then ((jy s.value w).1.isSome,(jy s.value w).2)
 else if s.kind=3 then match nT s.target w with
  | (none,w1)=>(false,w1)
  | (some p,w1)=>match jy s.value w1 with
   | (none,w2)=>(false,w2)
   | (some t,w2)=>xX w2 p t
 else (true,w)
def acO:aj:=⟨#[69,78,68]⟩
def acP:aj:=⟨#[82,69,84,85,82,78]⟩
def aap:aj:=⟨#[70,82,69,84,85,82,78]⟩
def toS (s:aG) (ok:Bool):aj:=if s.always.size≠0 then s.always else if ok=true then s.yes else s.dh
def nextL (l:List aG) (i:Nat) (u:aj):Nat :=
 if u.size=0 then i+1 else if u=acO∨u=acP∨u=aap then l.length else ((lF l u).getD 0).toNat
def tick (w:aY):aY:={w with steps:=w.steps+1}
def jc (l:List aG):Nat→Nat→aY→aY
 | 0,i,w=>if h:i<l.length then {w with how:=2} else {w with how:=1}
 | n+1,i,w=>if h:i<l.length then
   (if (oC l[i] (tick w)).2.how≠0 then (oC l[i] (tick w)).2 else jc l n (nextL l i (toS l[i] (oC l[i] (tick w)).1)) (oC l[i] (tick w)).2)
  else {w with how:=1}
def qZ (input:List aj):aY:=⟨[],[],0,0,[],input,0,[],0,[]⟩
mutual
def uZ (nb:aj→Bool) (kb:Int→Bool):aA→Bool
 | .mk k t n nm kids=>if k=1 then decide (t.size≤65536) else if k=2 then kb 2&&decide (nJ n) else if k=3 then true
  else CG nb kb kids&&(if k=4 then kb 4&&decide (kids.length=1) else if k=6 then nb nm&&decide (0≤aJ nm∧aJ nm=(kids.length:Int)) else if k=7 then kb 10&&decide (kids.length=1) else kb k&&decide (8≤k∧k≤13∧kids.length=2))
def CG (nb:aj→Bool) (kb:Int→Bool):List aA→Bool
 | []=>true
 | x::q=>uZ nb kb x&&CG nb kb q
end
def okS (nb:aj→Bool) (kb:Int→Bool) (s:aG):Bool :=
 if s.kind=1 then true else if s.kind=2 then uZ nb kb s.value else decide (s.kind=3)&&(uZ nb kb s.value&&(uZ nb kb s.target&&decide (s.target.kind=3∨s.target.kind=4)))
theorem FC {nb:aj→Bool} {kb:Int→Bool}:∀{l:List aA},CG nb kb l=true→∀(j:Nat) (h:j<l.length),uZ nb kb l[j]=true
 | x::q,h,0,_=>by rw [CG,Bool.and_eq_true] at h;exact h.1
 | x::q,h,j+1,hj=>by rw [CG,Bool.and_eq_true] at h;exact FC h.2 j (by simpa using hj)
theorem bM.get' {w:aY} (h:bM w) (n:aj):bM (okO (jH w n)).2∧∀t,(okO (jH w n)).1=some t→t.size≤65536:=by
 obtain ⟨h1,h2⟩:=h.get n
 refine ⟨h1,fun t ht=>?_⟩
 unfold okO at ht
 dsimp only at ht
 split at ht
 ·cases ht;exact h2
 ·cases ht
theorem abh {w:aY} (h:bM w) (k:aj×aj):(lookA w.items k).size≤65536:=by
 by_cases h0:(lookA w.items k).size=0
 ·omega
 ·exact h.isz _ (CJ h0)
theorem Ee {a:List aj} (h:∀t∈a,t.size≤65536) (i:Nat):(arg a i).size≤65536:=by
 unfold arg
 by_cases hi:i<a.length
 ·rw [List.getD_eq_getElem?_getD,List.getElem?_eq_getElem hi];exact h _ (List.getElem_mem hi)
 ·rw [List.getD_eq_getElem?_getD,List.getElem?_eq_none (by omega)];exact Nat.zero_le _
theorem abj {k:Int} {nm:aj} {a:List aj} (h:∀t∈a,t.size≤65536) {o:aj} (ho:BP k nm a=some o):o.size≤65536:=by
 unfold BP at ho
 split at ho
 ·exact MO ho
 split at ho
 ·exact MP ho (Ee h)
 ·exact MO ho
mutual
theorem Gt {nb:aj→Bool} {kb:Int→Bool}:∀(x:aA) (w:aY),uZ nb kb x=true→bM w→bM (jy x w).2∧∀t,(jy x w).1=some t→t.size≤65536
 | .mk k t n nm kids,w,hk,h=>by
  have ih:=MQ (nb:=nb) (kb:=kb) kids w
  rw [jy]
  rw [uZ] at hk
  split
  ·rename_i e;rw [if_pos e] at hk;exact ⟨h,fun t ht=>by cases ht;exact of_decide_eq_true hk⟩
  rename_i e1;rw [if_neg e1] at hk
  split
  ·rename_i e;rw [if_pos e,Bool.and_eq_true] at hk;exact ⟨h,fun t ht=>by cases ht;have:=xE (of_decide_eq_true hk.2);omega⟩
  rename_i e2;rw [if_neg e2] at hk
  split
  ·exact h.get' nm
  rename_i e3;rw [if_neg e3,Bool.and_eq_true] at hk
  obtain ⟨i1,i2⟩:=ih hk.1 h
  split
  ·rename_i w1 he;rw [he] at i1;exact ⟨i1,fun t ht=>by cases ht⟩
  ·rename_i a w1 he
   rw [he] at i1 i2
   refine ⟨i1,fun t ht=>?_⟩
   dsimp only at ht
   split at ht
   ·cases ht;exact abh i1 _
   ·exact abj (i2 a rfl) ht
theorem MQ {nb:aj→Bool} {kb:Int→Bool}:∀(l:List aA) (w:aY),CG nb kb l=true→bM w→bM (l7 l w).2∧∀a,(l7 l w).1=some a→∀t∈a,t.size≤65536
 | [],w,_,h=>by rw [l7];exact ⟨h,fun a ha=>by cases ha;simp⟩
 | x::q,w,hk,h=>by
  rw [CG,Bool.and_eq_true] at hk
  obtain ⟨a1,a2⟩:=Gt x w hk.1 h
  rw [l7]
  split
  ·rename_i w1 he;rw [he] at a1;exact ⟨a1,fun a ha=>by cases ha⟩
  ·rename_i t w1 he
   rw [he] at a1 a2
   obtain ⟨b1,b2⟩:=MQ q w1 hk.2 a1
   split
   ·rename_i w2 h2;rw [h2] at b1;exact ⟨b1,fun a ha=>by cases ha⟩
   ·rename_i l w2 h2
    rw [h2] at b1 b2
    refine ⟨b1,fun a ha u hu=>?_⟩
    cases ha
    rcases List.mem_cons.1 hu with rfl|hu
    ·exact a2 _ rfl
    ·exact b2 l rfl u hu
end
theorem bM.write {w:aY} (h:bM w) (p:JL) (t:aj):bM (xX w p t).2:=by
 unfold xX
 split
 ·exact h.put _ _
 ·exact h.set _ _
theorem Yt {nb:aj→Bool} {kb:Int→Bool} (x:aA) (w:aY) (hk:uZ nb kb x=true) (hx:x.kind=3∨x.kind=4) (h:bM w):bM (nT x w).2:=by
 unfold nT
 split
 ·exact h
 ·rename_i e
  obtain ⟨k,t,n,nm,kids⟩:=x
  have hk4:k=4:=hx.resolve_left e
  subst hk4
  rw [uZ,if_neg (by decide),if_neg (by decide),if_neg (by decide),Bool.and_eq_true] at hk
  obtain ⟨i1,_⟩:=MQ kids w hk.1 h
  dsimp only [aA.kids]
  split
  ·rename_i w1 he;rw [he] at i1;exact i1
  ·rename_i a w1 he;rw [he] at i1;exact i1
theorem aaq {nb:aj→Bool} {kb:Int→Bool} (s:aG) (w:aY) (hk:okS nb kb s=true) (h:bM w):bM (oC s w).2:=by
 unfold oC
 unfold okS at hk
 split
 ·rename_i e
  rw [if_neg (by omega),if_pos e] at hk
  exact (Gt s.value w hk h).1
 split
 ·rename_i e2 e
  rw [if_neg (by omega),if_neg e2,Bool.and_eq_true,Bool.and_eq_true,Bool.and_eq_true] at hk
  have h1:=Yt s.target w hk.2.2.1 (of_decide_eq_true hk.2.2.2) h
  split
  ·rename_i w1 he;rw [he] at h1;exact h1
  ·rename_i p w1 he
   rw [he] at h1
   obtain ⟨h2,_⟩:=Gt s.value w1 hk.2.1 h1
   split
   ·rename_i w2 he2;rw [he2] at h2;exact h2
   ·rename_i t w2 he2;rw [he2] at h2;exact h2.write p t
 ·exact h
theorem bM.tick {w:aY} (h:bM w):bM (tick w):={h with}
theorem aar {nb:aj→Bool} {kb:Int→Bool} {l:List aG} (hl:∀s∈l,okS nb kb s=true):∀(n i:Nat) (w:aY),bM w→bM (jc l n i w)
 | 0,i,w,h=>by rw [jc];split<;>exact h.how _
 | n+1,i,w,h=>by
  rw [jc]
  split
  ·rename_i hi
   have h1:=aaq (nb:=nb) (kb:=kb) l[i] (tick w) (hl _ (List.getElem_mem hi)) {h with}
   split
   ·exact h1
   ·exact aar hl n _ _ h1
  ·exact h.how _
theorem bM.start {input:List aj} (h:∀t∈input,t.size≤65536):bM (qZ input) :=
 ⟨⟨List.Pairwise.nil,fun p hp=>(by cases hp)⟩,⟨List.Pairwise.nil,fun p hp=>(by cases hp)⟩,rfl,Nat.zero_le _,rfl,Nat.zero_le _,fun p hp=>(by cases hp),fun p hp=>(by cases hp),fun p hp=>(by cases hp),h⟩
theorem SC (w:aY) (n:aj):(jH w n).2.steps=w.steps∧(jH w n).2.rules=w.rules:=by
 unfold jH;split
 ·exact ⟨rfl,rfl⟩
 split
 ·split<;>exact ⟨rfl,rfl⟩
 ·exact ⟨rfl,rfl⟩
theorem SE (w:aY) (n t:aj):(gU w n t).2.steps=w.steps∧(gU w n t).2.rules=w.rules:=by
 unfold gU xF
 split
 ·exact ⟨rfl,rfl⟩
 split
 ·split<;>exact ⟨rfl,rfl⟩
 split<;>exact ⟨rfl,rfl⟩
theorem SG (w:aY) (k:aj×aj) (t:aj):(IY w k t).2.steps=w.steps∧(IY w k t).2.rules=w.rules:=by
 unfold IY
 split
 ·exact ⟨rfl,rfl⟩
 split<;>exact ⟨rfl,rfl⟩
mutual
theorem CO:∀(x:aA) (w:aY),(jy x w).2.steps=w.steps∧(jy x w).2.rules=w.rules
 | .mk k t n nm kids,w=>by
  have ih:=Am kids w
  rw [jy]
  split
  ·exact ⟨rfl,rfl⟩
  split
  ·exact ⟨rfl,rfl⟩
  split
  ·exact SC w nm
  split
  ·rename_i w1 he;rw [he] at ih;exact ih
  ·rename_i a w1 he;rw [he] at ih;exact ih
theorem Am:∀(l:List aA) (w:aY),(l7 l w).2.steps=w.steps∧(l7 l w).2.rules=w.rules
 | [],w=>by rw [l7];exact ⟨rfl,rfl⟩
 | x::q,w=>by
  have h1:=CO x w
  rw [l7]
  split
  ·rename_i w1 he;rw [he] at h1;exact h1
  ·rename_i t w1 he
   rw [he] at h1
   have h2:=Am q w1
   split
   ·rename_i w2 h3;rw [h3] at h2;exact ⟨h2.1.trans h1.1,h2.2.trans h1.2⟩
   ·rename_i l w2 h3;rw [h3] at h2;exact ⟨h2.1.trans h1.1,h2.2.trans h1.2⟩
end
theorem MR (w:aY) (p:JL) (t:aj):(xX w p t).2.steps=w.steps∧(xX w p t).2.rules=w.rules:=by
 unfold xX
 split
 ·exact SG _ _ _
 ·exact SE _ _ _
theorem U8 (s:aG) (w:aY):(oC s w).2.steps=w.steps∧(oC s w).2.rules=w.rules:=by
 unfold oC
 split
 ·exact CO _ _
 split
 ·have h0:(nT s.target w).2.steps=w.steps∧(nT s.target w).2.rules=w.rules:=by
   unfold nT
   split
   ·exact ⟨rfl,rfl⟩
   ·have:=Am s.target.kids w
    split
    ·rename_i w1 he;rw [he] at this;exact this
    ·rename_i a w1 he;rw [he] at this;exact this
  split
  ·rename_i w1 he;rw [he] at h0;exact h0
  ·rename_i p w1 he
   rw [he] at h0
   have h1:=CO s.value w1
   split
   ·rename_i w2 he2;rw [he2] at h1;exact ⟨h1.1.trans h0.1,h1.2.trans h0.2⟩
   ·rename_i t w2 he2
    rw [he2] at h1
    have h2:=MR w2 p t
    exact ⟨h2.1.trans (h1.1.trans h0.1),h2.2.trans (h1.2.trans h0.2)⟩
 ·exact ⟨rfl,rfl⟩
def yN (a:List aj) (r:Option (List aj)×aY):Option (List aj)×aY:=(r.1.map (a ++ ·),r.2)
theorem U9 (r:Option (List aj)×aY):yN [] r=r:=by
 obtain ⟨o,w⟩:=r;cases o<;>rfl
theorem abk {l:List aA} {j:Nat} (h:j<l.length) {w w1:aY} (he:jy l[j] w=(none,w1)) (a:List aj):yN a (l7 (l.drop j) w)=(none,w1):=by
 rw [List.drop_eq_getElem_cons h,l7,he];rfl
theorem Yu {l:List aA} {j:Nat} (h:j<l.length) {w w1:aY} {t:aj} (he:jy l[j] w=(some t,w1)) (a:List aj):yN a (l7 (l.drop j) w)=yN (a++[t]) (l7 (l.drop (j+1)) w1):=by
 rw [List.drop_eq_getElem_cons h,l7,he]
 dsimp only
 cases hq:l7 (l.drop (j+1)) w1 with
 | mk o w2=>cases o with
  | none=>rfl
  | some q=>simp [yN]
theorem Yv (l:List aA) (w:aY) (a:List aj):yN a (l7 (l.drop l.length) w)=(some a,w):=by
 rw [List.drop_length,l7];simp [yN]
end Go.Proofs.YtgoijmpahffnhaaGreatDoor

namespace Go.Proofs.YtgoijmpahffnhaaGreatDoor
set_option linter.all false
open Go.RowKit Go.Maps Go.Sort Go.Shelf
set_option maxHeartbeats 1000000
def EG:Go.Shelf.Ren:=⟨fun|7=>74|10=>115|n=>n,fun|23=>94|26=>9|3=>9|28=>145|0=>0|27=>144|33=>112|4=>4|n=>n,fun|n=>n⟩
theorem QY:Go.Proofs.SlLaysZ.n7 Tryz.prog EG:={
 mixed:=by kernel_rfl
 f7:=⟨Tryz.f74.name,by decide,Tryz.func74.trans (congrArg some (by kernel_rfl))⟩
 f10:=⟨Tryz.f115.name,by decide,Tryz.func115.trans (congrArg some (by kernel_rfl))⟩
 t0:=Tryz.underlying0
 a0:=Tryz.isAgg0
 z0:=Tryz.sizeOf0
 v0:=Tryz.zeroValue0
 t4:=Tryz.underlying4
 a4:=Tryz.isAgg4
 z4:=Tryz.sizeOf4
 v4:=Tryz.zeroValue4
 t23:=Tryz.underlying94
 a23:=Tryz.isAgg94
 z23:=Tryz.sizeOf94
 v23:=Tryz.zeroValue94
 t26:=Tryz.underlying9
 a26:=Tryz.isAgg9
 z26:=Tryz.sizeOf9
 v26:=Tryz.zeroValue9
 t27:=Tryz.underlying144
 a27:=Tryz.isAgg144
 z27:=Tryz.sizeOf144
 v27:=Tryz.zeroValue144
 t28:=Tryz.underlying145
 a28:=Tryz.isAgg145
 z28:=Tryz.sizeOf145
 v28:=Tryz.zeroValue145
 t33:=Tryz.underlying112
 a33:=Tryz.isAgg112
 z33:=Tryz.sizeOf112
 v33:=Tryz.zeroValue112}
def BR:Go.Shelf.Ren:=⟨fun|6=>73|8=>113|9=>114|11=>173|13=>117|12=>174|23=>183|24=>184|14=>217|15=>218|16=>219|17=>220|18=>221|19=>222|20=>223|21=>224|22=>225|25=>258|26=>227|27=>228|28=>259|29=>260|30=>118|31=>281|n=>n,fun|26=>9|28=>145|24=>22|0=>0|3=>3|37=>188|48=>260|50=>262|4=>4|40=>254|39=>253|45=>120|5=>5|9=>9|51=>308|55=>312|57=>338|58=>339|33=>112|n=>n,fun|n=>n⟩
theorem VE:Go.Proofs.SlLaysZ.n6 Tryz.prog BR:={
 mixed:=by kernel_rfl
 f6:=⟨Tryz.f73.name,by decide,Tryz.func73.trans (congrArg some (by kernel_rfl))⟩
 f8:=⟨Tryz.f113.name,by decide,Tryz.func113.trans (congrArg some (by kernel_rfl))⟩
 f11:=⟨Tryz.f173.name,by decide,Tryz.func173.trans (congrArg some (by kernel_rfl))⟩
 t0:=Tryz.underlying0
 a0:=Tryz.isAgg0
 z0:=Tryz.sizeOf0
 v0:=Tryz.zeroValue0
 t24:=Tryz.underlying22
 a24:=Tryz.isAgg22
 z24:=Tryz.sizeOf22
 v24:=Tryz.zeroValue22
 t26:=Tryz.underlying9
 a26:=Tryz.isAgg9
 z26:=Tryz.sizeOf9
 v26:=Tryz.zeroValue9
 t28:=Tryz.underlying145
 a28:=Tryz.isAgg145
 z28:=Tryz.sizeOf145
 v28:=Tryz.zeroValue145
 i26:=by kernel_rfl}
def Qb:Go.Shelf.Ren:=⟨fun|6=>114|8=>117|9=>174|19=>183|20=>184|21=>217|22=>218|23=>219|24=>220|25=>221|26=>222|27=>223|28=>224|29=>225|36=>258|31=>227|32=>228|37=>259|38=>260|39=>118|41=>281|n=>n,fun|27=>22|29=>9|3=>3|32=>188|26=>22|0=>0|44=>260|46=>262|4=>4|36=>254|35=>253|41=>120|5=>5|9=>9|53=>308|57=>312|63=>338|64=>339|n=>n,fun|n=>n⟩
theorem QZ:Go.Proofs.SlLaysM.n6 Tryz.prog Qb:={
 mixed:=by kernel_rfl
 f6:=⟨Tryz.f114.name,by decide,Tryz.func114.trans (congrArg some (by kernel_rfl))⟩
 f8:=Tryz.func117.trans (congrArg some (by kernel_rfl))
 f9:=⟨Tryz.f174.name,by decide,Tryz.func174.trans (congrArg some (by kernel_rfl))⟩
 f19:=Tryz.func183.trans (congrArg some (by kernel_rfl))
 f20:=Tryz.func184.trans (congrArg some (by kernel_rfl))
 f21:=⟨Tryz.f217.name,by decide,Tryz.func217.trans (congrArg some (by kernel_rfl))⟩
 f22:=⟨Tryz.f218.name,by decide,Tryz.func218.trans (congrArg some (by kernel_rfl))⟩
 f23:=⟨Tryz.f219.name,by decide,Tryz.func219.trans (congrArg some (by kernel_rfl))⟩
 f24:=⟨Tryz.f220.name,by decide,Tryz.func220.trans (congrArg some (by kernel_rfl))⟩
 f25:=⟨Tryz.f221.name,by decide,Tryz.func221.trans (congrArg some (by kernel_rfl))⟩
 f26:=⟨Tryz.f222.name,by decide,Tryz.func222.trans (congrArg some (by kernel_rfl))⟩
 f27:=⟨Tryz.f223.name,by decide,Tryz.func223.trans (congrArg some (by kernel_rfl))⟩
 f28:=⟨Tryz.f224.name,by decide,Tryz.func224.trans (congrArg some (by kernel_rfl))⟩
 f29:=⟨Tryz.f225.name,by decide,Tryz.func225.trans (congrArg some (by kernel_rfl))⟩
 f31:=Tryz.func227.trans (congrArg some (by kernel_rfl))
 f32:=Tryz.func228.trans (congrArg some (by kernel_rfl))
 f36:=⟨Tryz.f258.name,by decide,Tryz.func258.trans (congrArg some (by kernel_rfl))⟩
 f37:=⟨Tryz.f259.name,by decide,Tryz.func259.trans (congrArg some (by kernel_rfl))⟩
 f38:=⟨Tryz.f260.name,by decide,Tryz.func260.trans (congrArg some (by kernel_rfl))⟩
 f39:=⟨Tryz.f118.name,by decide,Tryz.func118.trans (congrArg some (by kernel_rfl))⟩
 f41:=⟨Tryz.f281.name,by decide,Tryz.func281.trans (congrArg some (by kernel_rfl))⟩
 t0:=Tryz.underlying0
 a0:=Tryz.isAgg0
 z0:=Tryz.sizeOf0
 v0:=Tryz.zeroValue0
 t3:=Tryz.underlying3
 a3:=Tryz.isAgg3
 z3:=Tryz.sizeOf3
 v3:=Tryz.zeroValue3
 t4:=Tryz.underlying4
 a4:=Tryz.isAgg4
 z4:=Tryz.sizeOf4
 v4:=Tryz.zeroValue4
 t5:=Tryz.underlying5
 a5:=Tryz.isAgg5
 z5:=Tryz.sizeOf5
 v5:=Tryz.zeroValue5
 t9:=Tryz.underlying9
 a9:=Tryz.isAgg9
 z9:=Tryz.sizeOf9
 v9:=Tryz.zeroValue9
 t26:=Tryz.underlying22
 a26:=Tryz.isAgg22
 z26:=Tryz.sizeOf22
 v26:=Tryz.zeroValue22
 t27:=Tryz.underlying22
 a27:=Tryz.isAgg22
 z27:=Tryz.sizeOf22
 v27:=Tryz.zeroValue22
 t29:=Tryz.underlying9
 a29:=Tryz.isAgg9
 z29:=Tryz.sizeOf9
 v29:=Tryz.zeroValue9
 t32:=Tryz.underlying188
 a32:=Tryz.isAgg188
 z32:=Tryz.sizeOf188
 v32:=Tryz.zeroValue188
 t35:=Tryz.underlying253
 a35:=Tryz.isAgg253
 z35:=Tryz.sizeOf253
 v35:=Tryz.zeroValue253
 t36:=Tryz.underlying254
 a36:=Tryz.isAgg254
 z36:=Tryz.sizeOf254
 v36:=Tryz.zeroValue254
 t41:=Tryz.underlying120
 a41:=Tryz.isAgg120
 z41:=Tryz.sizeOf120
 v41:=Tryz.zeroValue120
 t44:=Tryz.underlying260
 a44:=Tryz.isAgg260
 z44:=Tryz.sizeOf260
 v44:=Tryz.zeroValue260
 t46:=Tryz.underlying262
 a46:=Tryz.isAgg262
 z46:=Tryz.sizeOf262
 v46:=Tryz.zeroValue262
 t53:=Tryz.underlying308
 a53:=Tryz.isAgg308
 z53:=Tryz.sizeOf308
 v53:=Tryz.zeroValue308
 t57:=Tryz.underlying312
 a57:=Tryz.isAgg312
 z57:=Tryz.sizeOf312
 v57:=Tryz.zeroValue312
 t63:=Tryz.underlying338
 a63:=Tryz.isAgg338
 z63:=Tryz.sizeOf338
 v63:=Tryz.zeroValue338
 t64:=Tryz.underlying339
 a64:=Tryz.isAgg339
 z64:=Tryz.sizeOf339
 v64:=Tryz.zeroValue339}
theorem Y7 (m:Nat):AnyZ.SortsIn Tryz.prog BR Fence.wide m :=
 ⟨fun blk off cap ss W hH hblk hsz=>callsIn_wide.2 (AnyM.slices_Sort_string QZ blk off cap ss W hH hblk hsz),fun p cap W=>callsIn_wide.2 (AnyM.slices_Sort_string_none QZ p cap W)⟩
theorem Yz (mb:Option Nat) (W:World):Calls Tryz.prog 74 #[.map mb] W fun e w'=>e=.returned (.func (.func 115) #[] #[.pointer (some ⟨W.heap.size,0,none⟩)])∧w'=W.alloc (.cells #[.map mb] 94) :=
 callsIn_wide.1 (AnyZ.keys_in QY Fence.wide 5 trivial rfl mb W)
theorem Tj (ss:List (List UInt8)):ss.map encStr=(ss.map fun l=>(⟨l.toArray⟩:aj)).map Value.string:=by
 rw [List.map_map];rfl
theorem IZ (w:World) (B:Nat) (l:List (aj×aj)) (h:jI w B l none) (hl:l.length≤1048576) :
  Calls Tryz.prog 73 #[.func (.func 115) #[] #[.pointer (some ⟨w.heap.size,0,none⟩)]] (w.alloc (.cells #[.map (some B)] 94)) fun e w'=>∃(v:Value) (ks:List aj),e=.returned v∧
   aS w' w.heap.size 9 1 v ks.length (ks.map Value.string)∧(∀k∈ks,k.size≤maxLen)∧ks.length≤l.length∧Kept aB (w.alloc (.cells #[.map (some B)] 94)) w':=by
 obtain ⟨D0,hown,hmap,hD⟩:=h
 have hbl:=hown.lt
 have hsz:Maps.size D0≤l.length:=hown.size_le
 have hseq:SeqGives Fence.wide 2 Tryz.prog 115 #[.pointer (some ⟨w.heap.size,0,none⟩)] encStr (fun ss=>ss.Perm (strKeys D0)) (Maps.size D0) (w.alloc (.cells #[.map (some B)] 94)) :=
  AnyZ.keys_gives (ρ:=EG) {QY with} Fence.wide _ trivial rfl (by omega) w.heap.size B l.length D0 _ (by simp) (by simp) (by
   obtain ⟨es,clock,hb,Ft,hs,hD⟩:=hown
   exact ⟨es,clock,(Below.heap_alloc _ _ B hbl).trans hb,Ft,hs,hD⟩)
 have hc:=callsIn_wide.1 (AnyZ.sorted_in VE Fence.wide 5 trivial trivial trivial trivial rfl (by omega) (Y7 _) (enters_of Tryz.func114 (by kernel_rfl) rfl) 115 #[.pointer (some ⟨w.heap.size,0,none⟩)] trivial (enters_of Tryz.func115 (by kernel_rfl) rfl) _ _ (show Maps.size D0≤maxLen by unfold maxLen;omega) (show Maps.size D0*16≤_ by omega) _ hseq)
 refine hc.mono ?_
 rintro e w' ⟨v,ss,rfl,hp,hrow,_,hb⟩
 refine ⟨v,(ss.mergeSort (fun x y=>decide (x≤y))).map fun l=>(⟨l.toArray⟩:aj),rfl,?_,fun k hk=>?_,?_,⟨hb.os,hb.tape,hb.output,hb.size,fun k hk _=>hb.block k hk⟩⟩
 ·rw [Tj] at hrow
  have h1:aS w' w.heap.size 9 1 v ss.length (((ss.mergeSort (fun x y=>decide (x≤y))).map fun l=>(⟨l.toArray⟩:aj)).map Value.string):=(aS.adx hrow).mono (B':=w.heap.size) (by simp)
  have e:((ss.mergeSort (fun x y=>decide (x≤y))).map fun l=>(⟨l.toArray⟩:aj)).length=ss.length:=by simp
  rw [e];exact h1
 ·obtain ⟨x,hx,rfl⟩:=List.mem_map.1 hk
  have hx:x∈ss:=(List.mergeSort_perm _ _).mem_iff.1 hx
  have:=strKeys_le hown Tryz.underlying9 x (hp.mem_iff.1 hx)
  show (⟨x.toArray⟩:aj).size≤maxLen
  have e:(⟨x.toArray⟩:aj).size=x.length:=by show x.toArray.size=_;simp
  omega
 ·have h1:ss.length=Maps.size D0:=by
   rw [hp.length_eq]
   obtain ⟨es,rfl⟩:=hmap
   simp [strKeys,Maps.size]
  simp;omega
end Go.Proofs.YtgoijmpahffnhaaGreatDoor

namespace Go.Proofs.YtgoijmpahffnhaaGreatDoor
set_option linter.all false
open Go.RowKit Go.Deep
set_option maxRecDepth 100000
section
variable {H:Type} {enc:TypeId×Value→H} {w:World} {spare:Nat→Bool} {held:Bool}
theorem Y5 {fuel:Nat} {v:Value} {x:DataW H×List MemPlace} (h:DataW.trod enc Tryz.prog w 0 spare held fuel 22 [v]=some x) (hb:Rows.uptoBulk x.1≤1048576) :
  ∃(l:List aj) (a:Option Addr) (cap:Nat),v=.slice a l.length cap∧bU w (· < w.heap.size) a l∧l.length≤cap∧l.length≤1048576∧∀y∈l,y.size<1000000000:=by
 rcases open_slice (cs:=[v]) (x:=x) Tryz.underlying22 h with ⟨e4,r4⟩|⟨a,len,cap,m,n',D,Pl,e4,_,hlc,hcm,hm,r4,hel⟩
 ·simp only [List.cons.injEq,and_true] at e4;subst e4
  exact ⟨[],none,0,rfl,fun h=>by simp at h,by simp,by simp,fun y hy=>by simp at hy⟩
 ·simp only [List.cons.injEq,and_true] at e4;subst e4
  rw [r4] at hb
  simp only [Rows.uptoBulk] at hb
  have hlm:len≤m:=by rw [hm];split<;>omega
  have hbl:=Ag ((List.range len).map D)
  rw [List.length_map,List.length_range] at hbl
  have each:∀i,i<len→∃s:aj,w.cell? (a.add i)=some (.string s)∧s.size<1000000000:=by
   intro i hi
   obtain ⟨cs',hc,ht⟩:=hel i (by omega)
   obtain ⟨s,rfl,hs,_⟩:=DataW.trod_string Tryz.underlying9 ht
   have hbi:Rows.uptoBulk (D i)≤Rows.uptoBulkAll ((List.range len).map D):=by
    rw [←OW D];exact Ii (fun i=>Rows.uptoBulk (D i)) _ i (List.mem_range.2 hi)
   have e1:D i=.lit (.string s.data.toList):=congrArg Prod.fst hs
   rw [e1,Qo] at hbi
   have hce:Tryz.prog.cellsOf 9=1:=by kernel_rfl
   have h0:=(World.cells?_some hc).2.2
   rw [hce,Nat.mul_one] at h0
   have h0:=h0 0 (by decide)
   have e2:(a.add i).add 0=a.add i:=by unfold Addr.add;split<;>split<;>simp_all
   rw [e2] at h0
   exact ⟨s,h0,by omega⟩
  let g:Nat→aj:=fun i=>if h:i<len then (each i h).choose else ⟨#[]⟩
  have hg:∀i,i<len→w.cell? (a.add i)=some (.string (g i))∧(g i).size<1000000000:=by
   intro i hi
   have:=(each i hi).choose_spec
   simp only [g,dif_pos hi];exact this
  refine ⟨(List.range len).map g,some a,cap,by simp,fun h0=>?_,by rw [List.length_map,List.length_range];exact hlc,by rw [List.length_map,List.length_range];omega,fun y hy=>?_⟩
  ·rw [List.length_map,List.length_range] at h0
   obtain ⟨b,o,spot⟩:=a
   have h1:=(hg 0 h0).1
   have hspot:spot=none:=World.cell?_spot (by simpa [Addr.add] using h1)
   subst hspot
   refine ⟨b,o,rfl,cells_lt (by simpa [Addr.add] using h1),fun i hi=>?_⟩
   rw [List.length_map,List.length_range] at hi
   have:=(hg i hi).1
   rw [List.getElem_map,List.getElem_range]
   have e:(⟨b,o,none⟩:Addr).add i=⟨b,o+i,none⟩:=by unfold Addr.add;split<;>simp_all
   rw [←e];exact this
  ·obtain ⟨i,hi,rfl⟩:=List.mem_map.1 hy
   exact (hg i (List.mem_range.1 hi)).2
end
end Go.Proofs.YtgoijmpahffnhaaGreatDoor
