/-  -/
import Derived.Test.YtgoijmpahffnhaaGreatDoorLq11
import Derived.Test.YtgoijmpahffnhaaGreatDoorLq9
import Derived.Test.YtgoijmpahffnhaaGreatDoorRs0
import Derived.Test.YtgoijmpahffnhaaGreatDoorMapS
import Derived.Test.YtgoijmpahffnhaaGreatDoorLq1
import Derived.Test.YtgoijmpahffnhaaGreatDoorWin
import Derived.Test.YtgoijmpahffnhaaGreatDoorShelf
import Derived.Test.YtgoijmpahffnhaaGreatDoorLq12
import Derived.BigRegion
import Derived.Deep.RegionWith
import Derived.Test.YtgoijmpahffnhaaGreatDoorLq3
namespace Go.Proofs.YtgoijmpahffnhaaGreatDoor
set_option linter.all false
open Go.RowKit
open Classical in
noncomputable def ou (P:Prop) (i:Int) (r:Int×Int):Int×Int:=if P then wP r (7,i) else r
theorem BN {P:Prop} (h:P) (i:Int) (r:Int×Int):ou P i r=wP r (7,i):=if_pos h
theorem vJ {P:Prop} (h:¬P) (i:Int) (r:Int×Int):ou P i r=r:=if_neg h
theorem LU {r:Int×Int} (h:r.1≠0) (q:Int×Int):wP r q=r:=if_neg h
theorem DY (q:Int×Int):wP (0,0) q=q:=if_pos rfl
theorem tq {r:Int×Int} (h:r.1≠0) (e i:Int):jv r e i=r:=by unfold jv;split;rfl;exact LU h _
noncomputable def nR (l:List aF):Nat→Int×Int
 | 0=>(0,0)
 | j+1=>match l[j]? with|some s=>ou (uF (fJ l j) s) j (ou (badL (eY l j) s) j (nR l j))|none=>nR l j
theorem J5 (l:List aF) (j:Nat) (h:j<l.length):nR l (j+1)=ou (uF (fJ l j) l[j]) j (ou (badL (eY l j) l[j]) j (nR l j)):=by
 rw [nR,List.getElem?_eq_getElem h]
theorem DZ {P:Prop} {i:Int} {r:Int×Int} (h:r.1≠0):ou P i r=r:=by unfold ou;split;exact LU h _;rfl
theorem Ux (l:List aF) (j:Nat) (h0:(nR l j).1≠0):∀k,nR l (j+k)=nR l j
 | 0=>rfl
 | k+1=>by
  rw [←Nat.add_assoc,nR]
  have ih:=Ux l j h0 k
  cases l[j+k]? with
  | none=>exact ih
  | some s=>dsimp only;rw [ih,DZ h0,DZ h0]
theorem Uy (l:List aF):∀(k j:Nat),j+k=l.length→nR l j=(0,0)→nR l l.length=match lC l j (l.drop j) with|some (a,b)=>(a,(b:Int))|none=>(0,0)
 | 0,j,hj,h0=>by
  obtain rfl:j=l.length:=by omega
  rw [List.drop_length,lC,h0]
 | k+1,j,hj,h0=>by
  have hlt:j<l.length:=by omega
  have hs:=J5 l j hlt
  by_cases hn:ql l j l[j]
  ·rw [PD l j hlt hn]
   obtain ⟨h1,h2⟩:=(LQ l j hlt).1 hn
   rw [vJ h2,vJ h1,h0] at hs
   exact Uy l k (j+1) (by omega) hs
  ·rw [Uz l j hlt hn]
   have h7:nR l (j+1)=(7,(j:Int)):=by
    rw [hs,h0]
    by_cases h1:badL (eY l j) l[j]
    ·rw [BN h1,DY,DZ (by show (7:Int)≠0;decide)]
    ·by_cases h2:uF (fJ l j) l[j]
     ·rw [BN h2,vJ h1,DY]
     ·exact absurd ((LQ l j hlt).2 ⟨h1,h2⟩) hn
   have:=Ux l (j+1) (by rw [h7];show (7:Int)≠0;decide) (l.length-(j+1))
   rw [show j+1+(l.length-(j+1))=l.length by omega] at this
   rw [this,h7]
theorem PE (l:List aF):∀(k j:Nat),j+k=l.length→lC l j (l.drop j)=none→∀i (h:i<l.length),j≤i→ql l i l[i]
 | 0,j,hj,h0,i,hi,hji=>by omega
 | k+1,j,hj,h0,i,hi,hji=>by
  have hlt:j<l.length:=by omega
  by_cases hn:ql l j l[j]
  ·rw [PD l j hlt hn] at h0
   by_cases he:j=i
   ·subst he;exact hn
   ·exact PE l k (j+1) (by omega) h0 i hi (by omega)
  ·rw [Uz l j hlt hn] at h0;cases h0
def kH (l:List aF) (n:aj):Option Int:=if oM l n<0 then none else some (oM l n)
def uG (l:List aF) (n:aj):Option Int:=if funcF l n<0 then none else some (funcF l n)
theorem PG (l:List aF) (h:∀i (h:i<l.length),ql l i l[i]):eY l l.length=kH l:=by
 funext n
 rw [wI,Pz,←tY];rfl
 intro j hj hp
 rw [←tY]
 rcases (h j hj).1 with h1|h1
 ·exact absurd h1 (by rw [hp.1];exact hp.2)
 ·rw [←hp.1];exact h1.2
theorem PI (l:List aF) (h:∀i (h:i<l.length),ql l i l[i]):fJ l l.length=uG l:=by
 funext n
 rw [sZ,Pz,←zM];rfl
 intro j hj hp
 rw [←zM]
 have h1:=((h j hj).2 hp.1).1.2
 rw [←hp.2];exact h1
def ER (m:aj→Option Int) (n:aj):Prop:=n.size≠0∧(m n).isSome=false∧rH n=false
instance (m:aj→Option Int) (n:aj):Decidable (ER m n):=by unfold ER;exact inferInstance
def CZ (m:aj→Option Int) (i:Int):List aj→Int×Int→Int×Int
 | [],r=>r
 | n::q,r=>CZ m i q (jv r (if ER m n then 6 else 0) i)
def BO (m:aj→Option Int) (s:aF):Int:=if s.kind=7∧(m s.entry).isSome=false then 6 else 0
def Gz (m1 m2:aj→Option Int) (l:List aF) (i:Int) (s:aF) (r:Int×Int):Int×Int :=
 jl m2 l i (iW s) (jv (CZ m1 i (Am s) r) (BO m1 s) i)
def uR (m1 m2:aj→Option Int) (l:List aF) (r:Int×Int):Nat→Int×Int
 | 0=>r
 | j+1=>match l[j]? with|some s=>Gz m1 m2 l j s (uR m1 m2 l r j)|none=>uR m1 m2 l r j
theorem UA (m1 m2:aj→Option Int) (l:List aF) (r:Int×Int) (j:Nat) (h:j<l.length):uR m1 m2 l r (j+1)=Gz m1 m2 l j l[j] (uR m1 m2 l r j):=by
 rw [uR,List.getElem?_eq_getElem h]
theorem acY (m:aj→Option Int) (i:Int) (q:List aj) (j:Nat) (h:j<q.length) (r:Int×Int):CZ m i (q.drop j) r=CZ m i (q.drop (j+1)) (jv r (if ER m q[j] then 6 else 0) i):=by
 rw [List.drop_eq_getElem_cons h,CZ]
theorem PK (m:aj→Option Int) (i:Int) (r:Int×Int) (h:r.1≠0):∀q,CZ m i q r=r
 | []=>rfl
 | n::q=>by rw [CZ,tq h,PK m i r h q]
mutual
theorem SN (m:aj→Option Int) (l:List aF) (i:Int) (r:Int×Int) (h:r.1≠0):∀x,oL m l i x r=r
 | .mk k t n nm kids=>by rw [oL,tq h,zO m l i r h kids]
theorem zO (m:aj→Option Int) (l:List aF) (i:Int) (r:Int×Int) (h:r.1≠0):∀q,jl m l i q r=r
 | []=>by rw [jl]
 | x::q=>by rw [jl,SN m l i r h x,zO m l i r h q]
end
theorem ZR (m1 m2:aj→Option Int) (l:List aF) (i:Int) (s:aF) (r:Int×Int) (h:r.1≠0):Gz m1 m2 l i s r=r:=by
 unfold Gz
 rw [PK _ _ _ h,tq h,zO _ _ _ _ h]
theorem J6 (m1 m2:aj→Option Int) (l:List aF) (r:Int×Int) (j:Nat) (h:(uR m1 m2 l r j).1≠0):∀k,uR m1 m2 l r (j+k)=uR m1 m2 l r j
 | 0=>rfl
 | k+1=>by
  rw [←Nat.add_assoc,uR]
  have ih:=J6 m1 m2 l r j h k
  cases l[j+k]? with
  | none=>exact ih
  | some s=>dsimp only;rw [ih,ZR _ _ _ _ _ _ h]
theorem wJ (r:Int×Int) (a b i:Int):jv (jv r a i) b i=jv r (if a=0 then b else a) i:=by
 by_cases ha:a=0
 ·rw [if_pos ha,show jv r a i=r from if_pos ha]
 ·rw [if_neg ha]
  by_cases hr:r.1=0
  ·have:jv r a i=(a,i):=(if_neg ha).trans (if_pos hr)
   rw [this,tq ha]
  ·rw [tq hr,tq hr]
theorem PL (l:List aF) (n:aj):ER (kH l) n↔xR l n:=by
 unfold ER xR kH
 by_cases h:oM l n<0
 ·simp [h]
 ·simp [h]
theorem UC (l:List aF) (i:Int):∀q r,CZ (kH l) i q r=jv r (ZT l q) i
 | [],r=>(if_pos rfl).symm
 | n::q,r=>by
  rw [CZ,UC l i q,wJ,ZT]
  by_cases h:xR l n
  ·rw [if_pos h,if_pos ((PL l n).2 h),if_neg (by decide)]
  ·rw [if_neg h,if_neg (fun e=>h ((PL l n).1 e)),if_pos rfl]
theorem afd (l:List aF) (s:aF):BO (kH l) s=if s.kind=7∧oM l s.entry<0 then 6 else 0:=by
 unfold BO kH
 by_cases h:oM l s.entry<0
 ·simp [h]
 ·simp [h]
theorem acZ (l:List aF) (x:aB):yM (uG l) l x=Ir l x:=by
 unfold yM Ir uG
 by_cases h:funcF l x.name<0
 ·simp [h]
  by_cases h1:x.kind=6
  ·rw [if_pos h1,if_pos h1]
   by_cases h2:0≤aH x.name∧¬aH x.name=x.kids.length
   ·rw [if_pos h2,if_pos h2]
   ·rw [if_neg h2,if_neg h2]
    by_cases h3:aH x.name<0
    ·rw [if_pos h3,if_pos h3]
    ·rw [if_neg h3,if_neg h3,if_neg (fun e=>h3 e.1),if_neg (fun e=>h3 e.1)]
  ·rw [if_neg h1,if_neg h1]
 ·simp [h]
theorem Ko (l:List aF):∀a b,yA l (a++b)=if yA l a=0 then yA l b else yA l a
 | [],b=>(if_pos rfl).symm
 | y::r,b=>by
  rw [List.cons_append,yA,yA,Ko l r b]
  by_cases h:Ir l y=0
  ·simp only [h,if_true]
  ·simp only [h,if_false]
mutual
theorem Xf (l:List aF) (i:Int):∀x r,oL (uG l) l i x r=jv r (yA l (allT x)) i
 | .mk k t n nm kids,r=>by
  rw [oL,BP l i kids,wJ,acZ,allT,yA]
theorem BP (l:List aF) (i:Int):∀q r,jl (uG l) l i q r=jv r (yA l (allL q)) i
 | [],r=>by rw [jl,allL,yA];exact (if_pos rfl).symm
 | x::q,r=>by
  rw [jl,BP l i q,Xf l i x,wJ,allL,Ko]
end
theorem PN (l:List aF):∀q,exE l q=yA l (allL q)
 | []=>rfl
 | x::q=>by rw [exE,allL,Ko,PN l q]
theorem afe (l:List aF) (i:Int) (s:aF) (r:Int×Int):Gz (kH l) (uG l) l i s r=jv r (vY l s) i:=by
 unfold Gz vY
 rw [BP,UC,wJ,wJ,afd,PN]
 simp only [dL]
 generalize ZT l (Am s)=a
 generalize (if s.kind=7∧oM l s.entry<0 then (6:Int) else 0)=b
 generalize yA l (allL (iW s))=c
 by_cases h1:a=0<;>by_cases h2:b=0<;>by_cases h3:c=0<;>simp [h1,h2,h3]
theorem UD (l:List aF):∀(k j:Nat),j+k=l.length→uR (kH l) (uG l) l (0,0) j=(0,0)→uR (kH l) (uG l) l (0,0) l.length=match wS l j (l.drop j) with|some (a,b)=>(a,(b:Int))|none=>(0,0)
 | 0,j,hj,h0=>by
  obtain rfl:j=l.length:=by omega
  rw [List.drop_length,wS,h0]
 | k+1,j,hj,h0=>by
  have hlt:j<l.length:=by omega
  have hs:=UA (kH l) (uG l) l (0,0) j hlt
  rw [h0,afe] at hs
  rw [ZU l j hlt]
  by_cases hu:vY l l[j]=0
  ·rw [if_pos hu]
   exact UD l k (j+1) (by omega) (hs.trans (if_pos hu))
  ·rw [if_neg hu]
   have h7:uR (kH l) (uG l) l (0,0) (j+1)=(vY l l[j],(j:Int)):=hs.trans ((if_neg hu).trans (DY _))
   have:=J6 (kH l) (uG l) l (0,0) (j+1) (by rw [h7];exact hu) (l.length-(j+1))
   rw [show j+1+(l.length-(j+1))=l.length by omega] at this
   rw [this,h7]
noncomputable def Nb (l:List aF):Int×Int:=uR (eY l l.length) (fJ l l.length) l (nR l l.length) l.length
theorem PO (l:List aF) (hl:¬1000<l.length) (hw:qm 0 l=none):Nb l=((bY l).1,((bY l).2:Int)):=by
 unfold Nb
 have h1:=Uy l l.length 0 (by omega) rfl
 rw [List.drop_zero] at h1
 cases hn:lC l 0 l with
 | some r =>
  rw [hn] at h1
  rw [PS hl hw hn,h1]
  have hr:r.1=7:=by
   have:∀(q:List aF) (i:Nat) (r:Int×Nat),lC l i q=some r→r.1=7:=by
    intro q
    induction q with
    | nil=>intro i r h;cases h
    | cons s q ih =>
     intro i r h
     rw [lC] at h
     split at h
     ·exact ih _ _ h
     ·cases h;rfl
   exact this l 0 r hn
  have:=J6 (eY l l.length) (fJ l l.length) l (r.1,(r.2:Int)) 0 (by show r.1≠0;rw [hr];decide) l.length
  rw [Nat.zero_add] at this
  exact this
 | none =>
  rw [hn] at h1
  have hall:=PE l l.length 0 (by omega) (by rw [List.drop_zero];exact hn)
  rw [h1,PG l (fun i h=>hall i h (Nat.zero_le _)),PI l (fun i h=>hall i h (Nat.zero_le _)),UD l l.length 0 (by omega) rfl,List.drop_zero]
  cases hu:wS l 0 l with
  | some r=>rw [ac0 hl hw hn hu]
  | none=>rw [ac1 hl hw hn hu];rfl
theorem Xg (l:List aF) (hl:¬1000<l.length) (hw:qm 0 l=none) (hr:(Nb l).1=0):eY l l.length=kH l∧fJ l l.length=uG l∧(bY l).1=0:=by
 have h1:=PO l hl hw
 have h2:(bY l).1=0:=by rw [h1] at hr;exact hr
 refine ⟨?_,?_,h2⟩
 all_goals
  have hn:lC l 0 l=none:=by
   cases hn:lC l 0 l with
   | none=>rfl
   | some r =>
    rw [PS hl hw hn] at h2
    have:∀(q:List aF) (i:Nat) (r:Int×Nat),lC l i q=some r→r.1=7:=by
     intro q
     induction q with
     | nil=>intro i r h;cases h
     | cons s q ih =>
      intro i r h
      rw [lC] at h
      split at h
      ·exact ih _ _ h
      ·cases h;rfl
    rw [this l 0 r hn] at h2;cases h2
  have hall:=PE l l.length 0 (by omega) (by rw [List.drop_zero];exact hn)
 ·exact PG l (fun i h=>hall i h (Nat.zero_le _))
 ·exact PI l (fun i h=>hall i h (Nat.zero_le _))
end Go.Proofs.YtgoijmpahffnhaaGreatDoor

namespace Go.Proofs.YtgoijmpahffnhaaGreatDoor
set_option linter.all false
open Go.RowKit
def qN (l:List aF) (B:Nat) (p:Option Addr) (w':World):Prop :=
 ∃T B1 B2 n1 n2,p=some ⟨T,0,none⟩∧qK w' T B1 B2∧eH w' B1 n1 (kH l)∧eH w' B2 n2 (uG l)∧B≤T∧B≤B1∧B≤B2
def adP (l:List aF) (w:World) (e:Ending) (w':World):Prop :=
 ∃p,e=.returned (.tuple #[.pointer p,.agg #[.int .i64 (bY l).1,.int .i64 ((bY l).2:Int)]])∧Kept aA w w'∧((bY l).1=0→qN l w.heap.size p w')∧((bY l).1≠0→p=none)
theorem BQ {f:Func} {tmps:Array Value} {l:List aF} {w w2:World} {F:Nat} {p:Option Addr} {a b:Int} (hres:f.results = #[.tmp 2,.cell 3 39]) (h2:tmps.getD 2 undef=.pointer p) (h3:tmps.getD 3 undef=.pointer (some ⟨F,0,none⟩)) (hF:Fl F a b w2)
  (hr:(a,b)=((bY l).1,((bY l).2:Int))) (K:Kept aA w w2) (hp:(bY l).1=0→qN l w.heap.size p w2) (hn:(bY l).1≠0→p=none):bodyPost Tryz.prog f (adP l w) .ret ⟨tmps,[]⟩ w2:=by
 obtain ⟨h0,h1,_,_⟩:=hF.cells
 simp only [Prod.mk.injEq] at hr
 obtain ⟨rfl,rfl⟩:=hr
 have ht2:tmps[2]?.getD undef=.pointer p:=by rw [←h2,Array.getD_eq_getD_getElem?]
 have ht3:tmps[3]?.getD undef=.pointer (some ⟨F,0,none⟩):=by rw [←h3,Array.getD_eq_getD_getElem?]
 exact bodyPost_ret (v:=.tuple #[.pointer p,.agg #[.int .i64 (bY l).1,.int .i64 ((bY l).2:Int)]]) (by simp [results,hres,go_sem,ht2,ht3,h0,h1]) rfl ⟨p,rfl,K,hp,hn⟩
theorem check_big {l:List aF} (h:1000<l.length):bY l=(5,0):=if_pos h
section
open Go.Maps Go.WideMaps
theorem eH.put {w:World} {B n:Nat} {m:aj→Option Int} (h:eH w B n m) (hn:n<maxLen) (s:aj) (hs:s.size≤maxLen) (c:Int) (hc:(Lit.int .i64 c).wf=true) :
  ∃w',(Instr.mapUpdate 98 (.map (some B)) (.string s) (.int .i64 c)).run Tryz.prog w=.ok () w'∧eH w' B (n+1) (lg m s c)∧Kept (· = B) w w':=by
 obtain ⟨D,hown,hmap,hD⟩:=h
 obtain ⟨w',hrun,hown',hgr⟩:=hown.update qU Tryz.underlying98 hn (keyOf_string_mk Tryz.underlying9 hs) (plainElem_int (H:=Unit) (a:=c) Tryz.underlying3 hc)
 refine ⟨w',hrun,⟨_,hown',?_,fun t=>?_⟩,(Kept.refl (· = B) w).grown hgr fun k hk=>.inl (by cases hk;rfl)⟩
 ·obtain ⟨es,rfl⟩:=hmap;exact ⟨_,rfl⟩
 ·have hkl:WideAt.IsKeyLit (Lit.string s.data.toList):=by first|exact .string _|trivial|(simp [WideAt.IsKeyLit])
  unfold lg
  by_cases ht:t=s
  ·subst ht
   rw [if_pos rfl]
   exact ⟨has_put_same hmap hkl _,fun z=>atKey_put_same hmap hkl _ z⟩
  ·rw [if_neg ht]
   exact ⟨(has_put_other (mG ht) _).trans (hD t).1,fun z=>(atKey_put_other (mG ht) _ z).trans ((hD t).2 z)⟩
end
def Iu (N B1 B2:Nat) (b:Nat):Prop:=b=N∨b=B1∨b=B2
end Go.Proofs.YtgoijmpahffnhaaGreatDoor

namespace Go.Proofs.YtgoijmpahffnhaaGreatDoor
set_option linter.all false
open Go.RowKit
structure KO where
 name:aj
 key:aj
 keyed:Bool
def x9 (w:aU) (p:KO) (t:aj):Bool×aU:=if p.keyed=true then JA w (p.name,p.key) t else fH w p.name t
def wZ (k:Int) (nm:aj) (a:List aj):Option aj :=
 if k=7 then Gi 10 ⟨#[48]⟩ (arg a 0) else if k=6 then bJ nm a else Gi k (arg a 0) (arg a 1)
def okO (p:(aj×Bool)×aU):Option aj×aU:=(if p.1.2=true then some p.1.1 else none,p.2)
mutual
def fK:aB→aU→Option aj×aU
 | .mk k t n nm kids,w =>
  if k=1 then (some t,w) else if k=2 then (some (iM n),w) else if k=3 then okO (iK w nm)
  else match gJ kids w with
   | (none,w1)=>(none,w1)
   | (some a,w1)=>(if k=4 then some (lookA w1.items (nm,arg a 0)) else wZ k nm a,w1)
def gJ:List aB→aU→Option (List aj)×aU
 | [],w=>(some [],w)
 | x::q,w=>match fK x w with
  | (none,w1)=>(none,w1)
  | (some t,w1)=>match gJ q w1 with
   | (none,w2)=>(none,w2)
   | (some l,w2)=>(some (t::l),w2)
end
def lM (x:aB) (w:aU):Option KO×aU :=
 if x.kind=3 then (some ⟨x.name,⟨#[]⟩,false⟩,w)
 else match gJ x.kids w with
  | (none,w1)=>(none,w1)
  | (some a,w1)=>(some ⟨x.name,arg a 0,true⟩,w1)
def lN (s:aF) (w:aU):Bool×aU :=
 if s.kind=2 then ((fK s.value w).1.isSome,(fK s.value w).2)
 else if s.kind=3 then match lM s.target w with
  | (none,w1)=>(false,w1)
  | (some p,w1)=>match fK s.value w1 with
   | (none,w2)=>(false,w2)
   | (some t,w2)=>x9 w2 p t
 else (true,w)
def afH:aj:=⟨#[69,78,68]⟩
def afI:aj:=⟨#[82,69,84,85,82,78]⟩
def adu:aj:=⟨#[70,82,69,84,85,82,78]⟩
def toS (s:aF) (ok:Bool):aj:=if s.always.size≠0 then s.always else if ok=true then s.yes else s.bW
def nextL (l:List aF) (i:Nat) (u:aj):Nat :=
 if u.size=0 then i+1 else if u=afH∨u=afI∨u=adu then l.length else ((kH l u).getD 0).toNat
def tick (w:aU):aU:={w with steps:=w.steps+1}
def gQ (l:List aF):Nat→Nat→aU→aU
 | 0,i,w=>if h:i<l.length then {w with how:=2} else {w with how:=1}
 | n+1,i,w=>if h:i<l.length then
   (if (lN l[i] (tick w)).2.how≠0 then (lN l[i] (tick w)).2 else gQ l n (nextL l i (toS l[i] (lN l[i] (tick w)).1)) (lN l[i] (tick w)).2)
  else {w with how:=1}
def pK (input:List aj):aU:=⟨[],[],0,0,[],input,0,[],0,[]⟩
mutual
def sH (nb:aj→Bool) (kb:Int→Bool):aB→Bool
 | .mk k t n nm kids=>if k=1 then decide (t.size≤65536) else if k=2 then kb 2&&decide (jw n) else if k=3 then true
  else zJ nb kb kids&&(if k=4 then kb 4&&decide (kids.length=1) else if k=6 then nb nm&&decide (0≤aH nm∧aH nm=(kids.length:Int)) else if k=7 then kb 10&&decide (kids.length=1) else kb k&&decide (8≤k∧k≤13∧kids.length=2))
def zJ (nb:aj→Bool) (kb:Int→Bool):List aB→Bool
 | []=>true
 | x::q=>sH nb kb x&&zJ nb kb q
end
def okS (nb:aj→Bool) (kb:Int→Bool) (s:aF):Bool :=
 if s.kind=1 then true else if s.kind=2 then sH nb kb s.value else decide (s.kind=3)&&(sH nb kb s.value&&(sH nb kb s.target&&decide (s.target.kind=3∨s.target.kind=4)))
theorem Gj {nb:aj→Bool} {kb:Int→Bool}:∀{l:List aB},zJ nb kb l=true→∀(j:Nat) (h:j<l.length),sH nb kb l[j]=true
 | x::q,h,0,_=>by rw [zJ,Bool.and_eq_true] at h;exact h.1
 | x::q,h,j+1,hj=>by rw [zJ,Bool.and_eq_true] at h;exact Gj h.2 j (by simpa using hj)
theorem bH.get' {w:aU} (h:bH w) (n:aj):bH (okO (iK w n)).2∧∀t,(okO (iK w n)).1=some t→t.size≤65536:=by
 obtain ⟨h1,h2⟩:=h.get n
 refine ⟨h1,fun t ht=>?_⟩
 unfold okO at ht
 dsimp only at ht
 split at ht
 ·cases ht;exact h2
 ·cases ht
theorem aem {w:aU} (h:bH w) (k:aj×aj):(lookA w.items k).size≤65536:=by
 by_cases h0:(lookA w.items k).size=0
 ·omega
 ·exact h.isz _ (yP h0)
theorem EJ {a:List aj} (h:∀t∈a,t.size≤65536) (i:Nat):(arg a i).size≤65536:=by
 unfold arg
 by_cases hi:i<a.length
 ·rw [List.getD_eq_getElem?_getD,List.getElem?_eq_getElem hi];exact h _ (List.getElem_mem hi)
 ·rw [List.getD_eq_getElem?_getD,List.getElem?_eq_none (by omega)];exact Nat.zero_le _
theorem aen {k:Int} {nm:aj} {a:List aj} (h:∀t∈a,t.size≤65536) {o:aj} (ho:wZ k nm a=some o):o.size≤65536:=by
 unfold wZ at ho
 split at ho
 ·exact NI ho
 split at ho
 ·exact NJ ho (EJ h)
 ·exact NI ho
mutual
theorem Hl {nb:aj→Bool} {kb:Int→Bool}:∀(x:aB) (w:aU),sH nb kb x=true→bH w→bH (fK x w).2∧∀t,(fK x w).1=some t→t.size≤65536
 | .mk k t n nm kids,w,hk,h=>by
  have ih:=NK (nb:=nb) (kb:=kb) kids w
  rw [fK]
  rw [sH] at hk
  split
  ·rename_i e;rw [if_pos e] at hk;exact ⟨h,fun t ht=>by cases ht;exact of_decide_eq_true hk⟩
  rename_i e1;rw [if_neg e1] at hk
  split
  ·rename_i e;rw [if_pos e,Bool.and_eq_true] at hk;exact ⟨h,fun t ht=>by cases ht;have:=tX (of_decide_eq_true hk.2);omega⟩
  rename_i e2;rw [if_neg e2] at hk
  split
  ·exact h.get' nm
  rename_i e3;rw [if_neg e3,Bool.and_eq_true] at hk
  obtain ⟨i1,i2⟩:=ih hk.1 h
  split
  ·rename_i w1 he;rw [he] at i1;exact ⟨i1,fun t ht=>by cases ht⟩
  ·rename_i a w1 he
   rw [he] at i1 i2
   refine ⟨i1,fun t ht=>?_⟩
   dsimp only at ht
   split at ht
   ·cases ht;exact aem i1 _
   ·exact aen (i2 a rfl) ht
theorem NK {nb:aj→Bool} {kb:Int→Bool}:∀(l:List aB) (w:aU),zJ nb kb l=true→bH w→bH (gJ l w).2∧∀a,(gJ l w).1=some a→∀t∈a,t.size≤65536
 | [],w,_,h=>by rw [gJ];exact ⟨h,fun a ha=>by cases ha;simp⟩
 | x::q,w,hk,h=>by
  rw [zJ,Bool.and_eq_true] at hk
  obtain ⟨a1,a2⟩:=Hl x w hk.1 h
  rw [gJ]
  split
  ·rename_i w1 he;rw [he] at a1;exact ⟨a1,fun a ha=>by cases ha⟩
  ·rename_i t w1 he
   rw [he] at a1 a2
   obtain ⟨b1,b2⟩:=NK q w1 hk.2 a1
   split
   ·rename_i w2 h2;rw [h2] at b1;exact ⟨b1,fun a ha=>by cases ha⟩
   ·rename_i l w2 h2
    rw [h2] at b1 b2
    refine ⟨b1,fun a ha u hu=>?_⟩
    cases ha
    rcases List.mem_cons.1 hu with rfl|hu
    ·exact a2 _ rfl
    ·exact b2 l rfl u hu
end
theorem bH.write {w:aU} (h:bH w) (p:KO) (t:aj):bH (x9 w p t).2:=by
 unfold x9
 split
 ·exact h.put _ _
 ·exact h.set _ _
theorem abj {nb:aj→Bool} {kb:Int→Bool} (x:aB) (w:aU) (hk:sH nb kb x=true) (hx:x.kind=3∨x.kind=4) (h:bH w):bH (lM x w).2:=by
 unfold lM
 split
 ·exact h
 ·rename_i e
  obtain ⟨k,t,n,nm,kids⟩:=x
  have hk4:k=4:=hx.resolve_left e
  subst hk4
  rw [sH,if_neg (by decide),if_neg (by decide),if_neg (by decide),Bool.and_eq_true] at hk
  obtain ⟨i1,_⟩:=NK kids w hk.1 h
  dsimp only [aB.kids]
  split
  ·rename_i w1 he;rw [he] at i1;exact i1
  ·rename_i a w1 he;rw [he] at i1;exact i1
theorem adv {nb:aj→Bool} {kb:Int→Bool} (s:aF) (w:aU) (hk:okS nb kb s=true) (h:bH w):bH (lN s w).2:=by
 unfold lN
 unfold okS at hk
 split
 ·rename_i e
  rw [if_neg (by omega),if_pos e] at hk
  exact (Hl s.value w hk h).1
 split
 ·rename_i e2 e
  rw [if_neg (by omega),if_neg e2,Bool.and_eq_true,Bool.and_eq_true,Bool.and_eq_true] at hk
  have h1:=abj s.target w hk.2.2.1 (of_decide_eq_true hk.2.2.2) h
  split
  ·rename_i w1 he;rw [he] at h1;exact h1
  ·rename_i p w1 he
   rw [he] at h1
   obtain ⟨h2,_⟩:=Hl s.value w1 hk.2.1 h1
   split
   ·rename_i w2 he2;rw [he2] at h2;exact h2
   ·rename_i t w2 he2;rw [he2] at h2;exact h2.write p t
 ·exact h
theorem bH.tick {w:aU} (h:bH w):bH (tick w):={h with}
theorem adw {nb:aj→Bool} {kb:Int→Bool} {l:List aF} (hl:∀s∈l,okS nb kb s=true):∀(n i:Nat) (w:aU),bH w→bH (gQ l n i w)
 | 0,i,w,h=>by rw [gQ];split<;>exact h.how _
 | n+1,i,w,h=>by
  rw [gQ]
  split
  ·rename_i hi
   have h1:=adv (nb:=nb) (kb:=kb) l[i] (tick w) (hl _ (List.getElem_mem hi)) {h with}
   split
   ·exact h1
   ·exact adw hl n _ _ h1
  ·exact h.how _
theorem bH.start {input:List aj} (h:∀t∈input,t.size≤65536):bH (pK input) :=
 ⟨⟨List.Pairwise.nil,fun p hp=>(by cases hp)⟩,⟨List.Pairwise.nil,fun p hp=>(by cases hp)⟩,rfl,Nat.zero_le _,rfl,Nat.zero_le _,fun p hp=>(by cases hp),fun p hp=>(by cases hp),fun p hp=>(by cases hp),h⟩
theorem U6 (w:aU) (n:aj):(iK w n).2.steps=w.steps∧(iK w n).2.rules=w.rules:=by
 unfold iK;split
 ·exact ⟨rfl,rfl⟩
 split
 ·split<;>exact ⟨rfl,rfl⟩
 ·exact ⟨rfl,rfl⟩
theorem U7 (w:aU) (n t:aj):(fH w n t).2.steps=w.steps∧(fH w n t).2.rules=w.rules:=by
 unfold fH vU
 split
 ·exact ⟨rfl,rfl⟩
 split
 ·split<;>exact ⟨rfl,rfl⟩
 split<;>exact ⟨rfl,rfl⟩
theorem U8 (w:aU) (k:aj×aj) (t:aj):(JA w k t).2.steps=w.steps∧(JA w k t).2.rules=w.rules:=by
 unfold JA
 split
 ·exact ⟨rfl,rfl⟩
 split<;>exact ⟨rfl,rfl⟩
mutual
theorem Dj:∀(x:aB) (w:aU),(fK x w).2.steps=w.steps∧(fK x w).2.rules=w.rules
 | .mk k t n nm kids,w=>by
  have ih:=AO kids w
  rw [fK]
  split
  ·exact ⟨rfl,rfl⟩
  split
  ·exact ⟨rfl,rfl⟩
  split
  ·exact U6 w nm
  split
  ·rename_i w1 he;rw [he] at ih;exact ih
  ·rename_i a w1 he;rw [he] at ih;exact ih
theorem AO:∀(l:List aB) (w:aU),(gJ l w).2.steps=w.steps∧(gJ l w).2.rules=w.rules
 | [],w=>by rw [gJ];exact ⟨rfl,rfl⟩
 | x::q,w=>by
  have h1:=Dj x w
  rw [gJ]
  split
  ·rename_i w1 he;rw [he] at h1;exact h1
  ·rename_i t w1 he
   rw [he] at h1
   have h2:=AO q w1
   split
   ·rename_i w2 h3;rw [h3] at h2;exact ⟨h2.1.trans h1.1,h2.2.trans h1.2⟩
   ·rename_i l w2 h3;rw [h3] at h2;exact ⟨h2.1.trans h1.1,h2.2.trans h1.2⟩
end
theorem NM (w:aU) (p:KO) (t:aj):(x9 w p t).2.steps=w.steps∧(x9 w p t).2.rules=w.rules:=by
 unfold x9
 split
 ·exact U8 _ _ _
 ·exact U7 _ _ _
theorem XR (s:aF) (w:aU):(lN s w).2.steps=w.steps∧(lN s w).2.rules=w.rules:=by
 unfold lN
 split
 ·exact Dj _ _
 split
 ·have h0:(lM s.target w).2.steps=w.steps∧(lM s.target w).2.rules=w.rules:=by
   unfold lM
   split
   ·exact ⟨rfl,rfl⟩
   ·have:=AO s.target.kids w
    split
    ·rename_i w1 he;rw [he] at this;exact this
    ·rename_i a w1 he;rw [he] at this;exact this
  split
  ·rename_i w1 he;rw [he] at h0;exact h0
  ·rename_i p w1 he
   rw [he] at h0
   have h1:=Dj s.value w1
   split
   ·rename_i w2 he2;rw [he2] at h1;exact ⟨h1.1.trans h0.1,h1.2.trans h0.2⟩
   ·rename_i t w2 he2
    rw [he2] at h1
    have h2:=NM w2 p t
    exact ⟨h2.1.trans (h1.1.trans h0.1),h2.2.trans (h1.2.trans h0.2)⟩
 ·exact ⟨rfl,rfl⟩
def yQ (a:List aj) (r:Option (List aj)×aU):Option (List aj)×aU:=(r.1.map (a ++ ·),r.2)
theorem XT (r:Option (List aj)×aU):yQ [] r=r:=by
 obtain ⟨o,w⟩:=r;cases o<;>rfl
theorem aeo {l:List aB} {j:Nat} (h:j<l.length) {w w1:aU} (he:fK l[j] w=(none,w1)) (a:List aj):yQ a (gJ (l.drop j) w)=(none,w1):=by
 rw [List.drop_eq_getElem_cons h,gJ,he];rfl
theorem abk {l:List aB} {j:Nat} (h:j<l.length) {w w1:aU} {t:aj} (he:fK l[j] w=(some t,w1)) (a:List aj):yQ a (gJ (l.drop j) w)=yQ (a++[t]) (gJ (l.drop (j+1)) w1):=by
 rw [List.drop_eq_getElem_cons h,gJ,he]
 dsimp only
 cases hq:gJ (l.drop (j+1)) w1 with
 | mk o w2=>cases o with
  | none=>rfl
  | some q=>simp [yQ]
theorem abl (l:List aB) (w:aU) (a:List aj):yQ a (gJ (l.drop l.length) w)=(some a,w):=by
 rw [List.drop_length,gJ];simp [yQ]
end Go.Proofs.YtgoijmpahffnhaaGreatDoor

namespace Go.Proofs.YtgoijmpahffnhaaGreatDoor
set_option linter.all false
open Go.RowKit
structure dF where
 N:Nat
 M:Nat
 O:Nat
 W:Nat
 R:Nat
 V:Nat
 I:Nat
 Ru:Nat
 H:Nat
 l:List aF
 al:Option Addr
 cl:Nat
 S:Nat→Prop
 T:Nat
 B1:Nat
 B2:Nat
 n1:Nat
 lim:Nat
 G:World→Prop
structure adx (F:dF):Prop where
 nO:F.N≤F.O∧F.O<F.M
 nW:F.N≤F.W∧F.W<F.M
 nR:F.N≤F.R∧F.R<F.M
 nV:F.N≤F.V∧F.V<F.M
 nI:F.N≤F.I∧F.I<F.M
 nH:F.N≤F.H∧F.H<F.M
 ne:F.O≠F.W∧F.O≠F.R∧F.O≠F.V∧F.O≠F.I∧F.O≠F.H∧F.W≠F.R∧F.W≠F.V∧F.W≠F.I∧F.W≠F.H∧F.R≠F.V∧F.R≠F.I∧F.R≠F.H∧F.V≠F.I∧F.V≠F.H∧F.I≠F.H
structure U9 (F:dF) (w:World):Prop where
 low:F.N≤w.heap.size
 prog:oh w F.S F.al F.l
 hS:∀b,F.S b→b<F.N
 tab:qK w F.T F.B1 F.B2
 lu:eH w F.B1 F.n1 (kH F.l)
 tl:F.T<F.N∧F.B1<F.N
 g:F.G w
 gk:∀w w',Kept (fun b=>F.N≤b) w w'→F.G w→F.G w'
theorem U9.kept {F:dF} {w w':World} {X:Nat→Prop} (h:U9 F w) (hk:Kept X w w') (hx:∀b,X b→F.N≤b):U9 F w' :=
 ⟨Nat.le_trans h.low hk.size,h.prog.to hk (fun b hb=>⟨Nat.lt_of_lt_of_le (h.hS b hb) h.low,fun hb2=>by have:=hx b hb2;have:=h.hS b hb;omega⟩) (fun _ h=>h),h.hS,
  h.tab.kept hk (fun hb=>by have:=hx _ hb;have:=h.tl;omega),h.lu.kept hk (fun hb=>by have:=hx _ hb;have:=h.tl;omega),h.tl,h.gk _ _ (hk.more hx) h.g,h.gk⟩
def RX (F:dF) (ov:Value) (b:Nat):Prop:=b=F.O∨b=F.W∨b=F.V∨b=F.I∨b=F.H∨ov.ownBlock=some b
def TF (w:World) (B:Nat) (l:List ((aj×aj)×aj)):Prop:=l=[]∧w.heap[B]?=some (.map #[] 0)
theorem TF.lt {w:World} {B:Nat} {l:List ((aj×aj)×aj)} (h:TF w B l):B<w.heap.size:=(Array.getElem?_eq_some_iff.1 h.2).1
theorem TF.kept {w w':World} {B:Nat} {l:List ((aj×aj)×aj)} {X:Nat→Prop} (h:TF w B l) (hk:Kept X w w') (hx:¬X B):TF w' B l :=
 ⟨h.1,(hk.block B h.lt hx).trans h.2⟩
def Gl (F:dF) (ov:Value) (S:aU) (a:Option Addr) (c:Nat):List Value:=[.map (some F.V),.map (some F.I),.int .i64 S.bytes,.int .i64 S.told,ov,.slice a S.input.length c,.int .i64 S.how]
def Gm (F:dF) (S:aU):List Value:=[.pointer (some ⟨F.O,0,none⟩),.map (some F.Ru),.int .i64 S.steps,.int .i64 F.lim,.slice (some ⟨F.H,0,none⟩) F.l.length F.l.length]
def ajp (F:dF):List Value:=[.pointer (some ⟨F.W,0,none⟩),.slice F.al F.l.length F.cl,.pointer (some ⟨F.T,0,none⟩),.int .i64 0]
structure aZ (F:dF) (ov:Value) (S:aU) (w:World):Prop where
 pq:U9 F w
 fix:adx F
 sz:F.M≤w.heap.size
 run:dG F.R 70 (ajp F) w
 Dk:dG F.W 90 (Gm F S) w
 hits:∃hs:List Int,hs.length=F.l.length∧dG F.H 3 (hs.map (Value.int .i64)) w
 Dl:∃a c,dG F.O 97 (Gl F ov S a c) w∧aQ w (· < F.N) a S.input∧S.input.length≤c
 out:aO w F.M 9 1 ov S.output.length (S.output.map Value.string)
 vars:ji w F.V S.vars none
 items:TF w F.I S.items
section
variable {F:dF} {ov:Value} {S:aU} {w w':World}
theorem aZ.xlt (h:aZ F ov S w) {b:Nat} (hb:RX F ov b):F.N≤b∧b<w.heap.size:=by
 have:=h.fix.nO;have:=h.fix.nW;have:=h.fix.nV;have:=h.fix.nI;have:=h.fix.nH;have:=h.sz
 rcases hb with rfl|rfl|rfl|rfl|rfl|hb
 ·omega
 ·omega
 ·omega
 ·omega
 ·omega
 ·have:=h.out.lt b hb;omega
theorem sJ {w w':World} {X:Nat→Prop} {N:Nat} {a:Option Addr} {l:List aj} (h:aQ w (· < N) a l) (hk:Kept X w w') (hl:N≤w.heap.size) (hx:∀b,X b→N≤b):aQ w' (· < N) a l :=
 h.to hk (fun b hb=>⟨Nat.lt_of_lt_of_le hb hl,fun h=>by have:=hx b h;omega⟩) (fun _ h=>h)
theorem aZ.kept {Y:Nat→Prop} (h:aZ F ov S w) (hk:Kept Y w w') (hY:∀b,Y b→F.N≤b∧b≠F.R∧¬RX F ov b):aZ F ov S w':=by
 have nx:∀b,RX F ov b→¬Y b:=fun b hb hy=>(hY b hy).2.2 hb
 obtain ⟨hs,h1,h2⟩:=h.hits
 obtain ⟨a,c,h3,h4,h5⟩:=h.Dl
 exact ⟨h.pq.kept hk (fun b hb=>(hY b hb).1),h.fix,Nat.le_trans h.sz hk.size,h.run.kept hk (fun hb=>(hY _ hb).2.1 rfl),h.Dk.kept hk (nx _ (.inr (.inl rfl))),
  ⟨hs,h1,h2.kept hk (nx _ (.inr (.inr (.inr (.inr (.inl rfl))))))⟩,⟨a,c,h3.kept hk (nx _ (.inl rfl)),sJ h4 hk h.pq.low (fun b hb=>(hY b hb).1),h5⟩,
  h.out.kept hk (fun b hb=>nx _ (.inr (.inr (.inr (.inr (.inr hb)))))),h.vars.kept hk (nx _ (.inr (.inr (.inl rfl)))),h.items.kept hk (nx _ (.inr (.inr (.inr (.inl rfl)))))⟩
theorem aZ.quiet (h:aZ F ov S w) (hk:Kept aA w w'):aZ F ov S w':=h.kept hk fun _ h=>h.elim
structure bC (F:dF) (ov:Value) (w:World) (qW:Value) (S':aU) (w':World):Prop where
 at_:aZ F qW S' w'
 kept:Kept (RX F ov) w w'
 grow:∀b,RX F qW b→RX F ov b∨w.heap.size≤b
theorem bC.refl (h:aZ F ov S w):bC F ov w ov S w:=⟨h,Kept.refl _ _,fun _ h=>.inl h⟩
theorem bC.trans {eu mV:Value} {S1 S2:aU} {w1 w2:World} (h:bC F ov w eu S1 w1) (k:bC F eu w1 mV S2 w2):bC F ov w mV S2 w2 :=
 ⟨k.at_,h.kept.step k.kept h.grow,fun b hb=>(k.grow b hb).elim (h.grow b) (fun h2=>.inr (Nat.le_trans h.kept.size h2))⟩
theorem bC.after {eu:Value} {S1:aU} {w0 w1:World} (k0:Kept aA w0 w) (h:bC F ov w eu S1 w1):bC F ov w0 eu S1 w1 :=
 ⟨h.at_,(k0.more (fun _ h=>h.elim)).trans h.kept,fun b hb=>(h.grow b hb).imp id (fun h2=>Nat.le_trans k0.size h2)⟩
theorem bC.quiet {eu:Value} {S1:aU} {w1 w2:World} (h:bC F ov w eu S1 w1) (k:Kept aA w1 w2):bC F ov w eu S1 w2 :=
 ⟨h.at_.quiet k,h.kept.quiet k,h.grow⟩
theorem bC.local {eu:Value} {S1:aU} {w1 w2:World} {Y:Nat→Prop} (h:bC F ov w eu S1 w1) (k:Kept Y w1 w2) (hw:aZ F ov S w) (hY:∀b,Y b→w.heap.size≤b∧¬RX F eu b):bC F ov w eu S1 w2 :=
 ⟨h.at_.kept k (fun b hb=>⟨Nat.le_trans hw.pq.low (hY b hb).1,fun e=>by have:=hw.run.lt;have:=(hY b hb).1;omega,(hY b hb).2⟩),h.kept.step k (fun b hb=>.inr (hY b hb).1),h.grow⟩
theorem bC.mine {eu:Value} {S1:aU} {w1:World} (h:bC F ov w eu S1 w1) {b:Nat} (hb:b<w.heap.size) (hx:¬RX F ov b):¬RX F eu b:=fun hc=>(h.grow b hc).elim hx (fun h2=>by omega)
theorem aZ.mine (h:aZ F ov S w) {b:Nat} (hb:w.heap.size≤b):¬RX F ov b:=fun hc=>by have:=(h.xlt hc).2;omega
theorem aZ.Va {i:Nat} {v:Value} {S':aU} {a':Option Addr} {c':Nat} (h:aZ F ov S w) (ho:∃a c,(dG F.O 97 (Gl F ov S a c) w∧aQ w (· < F.N) a S.input∧S.input.length≤c)∧(Gl F ov S a c).set i v=Gl F ov S' a' c')
  (hin:aQ w (· < F.N) a' S'.input) (hc:S'.input.length≤c') (e1:S'.steps=S.steps) (e2:S'.output=S.output) (e3:S'.vars=S.vars) (e4:S'.items=S.items) :
  bC F ov w ov S' (w.setCell ⟨F.O,i,none⟩ v):=by
 have k:Kept (· = F.O) w (w.setCell ⟨F.O,i,none⟩ v):=(Kept.refl (· = F.O) w).setCell (p:=⟨F.O,i,none⟩) (.inl rfl) _
 obtain ⟨n1,n2,n3,n4,n5,-⟩:=h.fix.ne
 obtain ⟨hs,h1,h2⟩:=h.hits
 obtain ⟨a,c,⟨h3,h4,h5⟩,hset⟩:=ho
 have hO:F.N≤F.O:=h.fix.nO.1
 have hw:Gm F S'=Gm F S:=by unfold Gm;rw [e1]
 refine ⟨⟨h.pq.kept k (fun b hb=>by have:b=F.O:=hb;omega),h.fix,Nat.le_trans h.sz k.size,h.run.kept k (fun e=>n2 e.symm),by rw [hw];exact h.Dk.kept k (fun e=>n1 e.symm),
  ⟨hs,h1,h2.kept k (fun e=>n5 e.symm)⟩,⟨a',c',by rw [←hset];exact h3.set i v,sJ hin k h.pq.low (fun b hb=>by have:b=F.O:=hb;omega),hc⟩,
  ?_,by rw [e3];exact h.vars.kept k (fun e=>n3 e.symm),by rw [e4];exact h.items.kept k (fun e=>n4 e.symm)⟩,k.more (fun _ h=>.inl h),fun _ h=>.inl h⟩
 rw [e2]
 exact h.out.kept k (fun b hb e=>by have e:b=F.O:=e;have:=h.out.lt b hb;have:=h.fix.nO;omega)
theorem aZ.Ho (h:aZ F ov S w) (n:Int):bC F ov w ov {S with how:=n} (w.setCell ⟨F.O,6,none⟩ (.int .i64 n)):=by
 obtain ⟨a,c,h3,h4,h5⟩:=h.Dl
 exact h.Va (S':={S with how:=n}) ⟨a,c,⟨h3,h4,h5⟩,rfl⟩ h4 h5 rfl rfl rfl rfl
theorem aZ.setBytes (h:aZ F ov S w) (n:Nat):bC F ov w ov {S with bytes:=n} (w.setCell ⟨F.O,2,none⟩ (.int .i64 n)):=by
 obtain ⟨a,c,h3,h4,h5⟩:=h.Dl
 exact h.Va (S':={S with bytes:=n}) ⟨a,c,⟨h3,h4,h5⟩,rfl⟩ h4 h5 rfl rfl rfl rfl
theorem aZ.aep (h:aZ F ov S w) (n:Nat):bC F ov w ov {S with told:=n} (w.setCell ⟨F.O,3,none⟩ (.int .i64 n)):=by
 obtain ⟨a,c,h3,h4,h5⟩:=h.Dl
 exact h.Va (S':={S with told:=n}) ⟨a,c,⟨h3,h4,h5⟩,rfl⟩ h4 h5 rfl rfl rfl rfl
theorem aZ.lQ (h:aZ F ov S w):∃a c,w.cell? ⟨F.O,0,none⟩=some (.map (some F.V))∧w.cell? ⟨F.O,1,none⟩=some (.map (some F.I))∧w.cell? ⟨F.O,2,none⟩=some (.int .i64 S.bytes)∧w.cell? ⟨F.O,3,none⟩=some (.int .i64 S.told)∧w.cell? ⟨F.O,4,none⟩=some ov∧
  w.cell? ⟨F.O,5,none⟩=some (.slice a S.input.length c)∧w.cell? ⟨F.O,6,none⟩=some (.int .i64 S.how)∧(∀i,w.frozen? ⟨F.O,i,none⟩=false)∧aQ w (· < F.N) a S.input∧S.input.length≤c:=by
 obtain ⟨a,c,h3,h4,h5⟩:=h.Dl
 exact ⟨a,c,h3.cell rfl,h3.cell rfl,h3.cell rfl,h3.cell rfl,h3.cell rfl,h3.cell rfl,h3.cell rfl,fun i=>h3.free i,h4,h5⟩
theorem aZ.pO (h:aZ F ov S w):w.cell? ⟨F.W,0,none⟩=some (.pointer (some ⟨F.O,0,none⟩))∧w.cell? ⟨F.W,2,none⟩=some (.int .i64 S.steps)∧w.cell? ⟨F.W,3,none⟩=some (.int .i64 F.lim)∧w.cell? ⟨F.W,4,none⟩=some (.slice (some ⟨F.H,0,none⟩) F.l.length F.l.length)∧∀i,w.frozen? ⟨F.W,i,none⟩=false :=
 ⟨h.Dk.cell rfl,h.Dk.cell rfl,h.Dk.cell rfl,h.Dk.cell rfl,fun i=>h.Dk.free i⟩
theorem aZ.yc (h:aZ F ov S w):w.cell? ⟨F.R,0,none⟩=some (.pointer (some ⟨F.W,0,none⟩))∧w.cell? ⟨F.R,1,none⟩=some (.slice F.al F.l.length F.cl)∧w.cell? ⟨F.R,2,none⟩=some (.pointer (some ⟨F.T,0,none⟩))∧w.cell? ⟨F.R,3,none⟩=some (.int .i64 0) :=
 ⟨h.run.cell rfl,h.run.cell rfl,h.run.cell rfl,h.run.cell rfl⟩
def NP (F:dF) (ov:Value) (w:World) (r:(aj×Bool)×aU) (e:Ending) (w':World):Prop:=e=.returned (.tuple #[.string r.1.1,.bool r.1.2])∧∃qW,bC F ov w qW r.2 w'
def yg (F:dF) (ov:Value) (w:World) (r:Bool×aU) (e:Ending) (w':World):Prop:=e=.returned (.bool r.1)∧∃qW,bC F ov w qW r.2 w'
end
end Go.Proofs.YtgoijmpahffnhaaGreatDoor

namespace Go.Proofs.YtgoijmpahffnhaaGreatDoor
set_option linter.all false
open Go.RowKit
set_option maxRecDepth 100000
set_option maxHeartbeats 1000000
theorem yR {s:aj} {l:List UInt8} (h:s=Jt l):(s.toList==l)=true:=by rw [Gf.1 h];simp
theorem yS {s:aj} {l:List UInt8} (h:s≠Jt l):(s.toList==l)=false:=by
 have:s.toList≠l:=fun e=>h (Gf.2 e)
 simpa using this
theorem Vg {F:dF} {ov:Value} {S:aU} {w:World} (h:aZ F ov S w) {t:aj} {r:List aj} (hr:S.input=t::r) :
  ∃b o c,w.cell? ⟨F.O,5,none⟩=some (.slice (some ⟨b,o,none⟩) (r.length+1:Nat) c)∧w.cell? ⟨b,o,none⟩=some (.string t)∧r.length+1≤c∧∀o' c',(o'=o+1∨r.length=0)→r.length≤c'→bC F ov w ov {S with input:=r} (w.setCell ⟨F.O,5,none⟩ (.slice (some ⟨b,o',none⟩) r.length c')):=by
 obtain ⟨a,c,h3,h4,h5⟩:=h.Dl
 have h4':=h4
 rw [hr] at h4 h5
 obtain ⟨b,o,rfl,hb,hc⟩:=h4 (by simp)
 have h0:=hc 0 (by simp)
 refine ⟨b,o,c,by rw [h3.cell (i:=5) rfl,hr];rfl,h0,by simpa using h5,fun o' c' ho hc'=>?_⟩
 refine h.Va (S':={S with input:=r}) (a':=some ⟨b,o',none⟩) (c':=c') ⟨_,c,⟨h3,h4',by rw [hr];exact h5⟩,rfl⟩ ?_ hc' rfl rfl rfl rfl
 intro hp
 have hp:0<r.length:=hp
 obtain rfl:o'=o+1:=ho.resolve_right (by omega)
 refine ⟨b,o+1,rfl,hb,fun i hi=>?_⟩
 have:=hc (i+1) (by simpa using hi)
 rw [show o+1+i=o+(i+1) by omega];exact this
theorem get_any (F:dF) (ov:Value) (S:aU) (n:aj) (w:World) (h:aZ F ov S w) (hn:n.size≤1000000000) :
  Calls Tryz.prog 111 #[.pointer (some ⟨F.O,0,none⟩),.string n] w (NP F ov w (iK S n)):=by
 obtain ⟨a,c,q0,_,_,_,_,q5,_,qf,_,_⟩:=h.lQ
 have f5:=qf 5
 by_cases h1:n=dA
 ·have e1:(n.toList==[79,85,84,80,85,84])=true:=yR h1
  have fin:Hid (iK S n=((⟨#[]⟩,true),S)):=if_pos h1
  have H:=ah h
  clear h h1
  go_enter Tryz.func111, Tryz.ntmps111
  go_wp2_with fail
  go_ret2
  exact ⟨by rw [fin.out];rfl,ov,by rw [fin.out];exact bC.refl H.out⟩
 have e1:(n.toList==[79,85,84,80,85,84])=false:=yS h1
 by_cases h2:n=gW
 ·have e2:(n.toList==[73,78,80,85,84])=true:=yR h2
  cases hi:S.input with
  | nil =>
   have fin:Hid (iK S n=((⟨#[]⟩,false),S)):=by unfold Hid iK;rw [if_neg h1,if_pos h2,hi]
   have H:=ah h
   rw [hi] at q5
   clear h h1 h2 hi
   go_enter Tryz.func111, Tryz.ntmps111
   go_wp2_with fail
   go_ret2
   exact ⟨by rw [fin.out];rfl,ov,by rw [fin.out];exact bC.refl H.out⟩
  | cons t r =>
   have fin:Hid (iK S n=((t,true),{S with input:=r})):=by unfold Hid iK;rw [if_neg h1,if_pos h2,hi]
   obtain ⟨b,o,c',k5,kt,hc,hr⟩:=Vg h hi
   by_cases hc1:c'=1
   ·subst hc1
    have hr0:=hr o 0 (.inr (by omega)) (by omega)
    rw [show r.length=0 by omega] at hr0
    have HR:=ah hr0
    clear hr0
    clear h h1 h2 hi q5 hr
    go_enter Tryz.func111, Tryz.ntmps111
    go_wp2_with fail
    go_ret2
    exact ⟨by rw [fin.out];rfl,ov,by rw [fin.out];exact HR.out⟩
   ·have HR:=ah (hr (o+1) (c'-1) (.inl rfl) (by omega))
    have hc2:¬c'-1=0:=by omega
    clear h h1 h2 hi q5 hr
    go_enter Tryz.func111, Tryz.ntmps111
    go_wp2_with fail
    go_ret2
    exact ⟨by rw [fin.out];rfl,ov,by rw [fin.out];exact HR.out⟩
 have e2:(n.toList==[73,78,80,85,84])=false:=yS h2
 have fin:Hid (iK S n=((lookA S.vars n,true),S)):=by unfold Hid iK;rw [if_neg h1,if_neg h2]
 have hl:=h.vars.look n (by unfold maxLen;omega)
 have H:=ah h
 clear h h1 h2
 go_enter Tryz.func111, Tryz.ntmps111
 go_wp2_with fail
 go_ret2
 exact ⟨by rw [fin.out];rfl,ov,by rw [fin.out];exact bC.refl H.out⟩
theorem abx (F:dF) (ov:Value) (S:aU) (more:Int) (w:World) (h:aZ F ov S w) (hb:S.bytes≤1048576) (hm : -65536≤more∧more≤1000000000) (h0:0≤(S.bytes:Int)+more) :
  Calls Tryz.prog 171 #[.pointer (some ⟨F.O,0,none⟩),.int .i64 more] w (yg F ov w (if 1048576<(S.bytes:Int)+more then (false,{S with how:=3}) else (true,{S with bytes:=((S.bytes:Int)+more).toNat}))):=by
 obtain ⟨a,c,_,_,q2,_,_,_,q6,qf,_,_⟩:=h.lQ
 have f2:=qf 2
 have f6:=qf 6
 by_cases hc:1048576<(S.bytes:Int)+more
 ·have H3:=ah (h.Ho 3)
  rw [if_pos hc]
  have e1:decide (1048576<(S.bytes:Int)+more)=true:=ak hc
  clear h
  go_enter Tryz.func171, Tryz.ntmps171
  go_wp2_with fail
  go_ret
  exact ⟨rfl,ov,H3.out⟩
 ·have H3:=h.setBytes ((S.bytes:Int)+more).toNat
  rw [Int.toNat_of_nonneg h0] at H3
  have H3:=ah H3
  rw [if_neg hc]
  have e1:decide (1048576<(S.bytes:Int)+more)=false:=au hc
  clear h
  go_enter Tryz.func171, Tryz.ntmps171
  go_wp2_with fail
  go_ret
  exact ⟨rfl,ov,H3.out⟩
end Go.Proofs.YtgoijmpahffnhaaGreatDoor

namespace Go.Proofs.YtgoijmpahffnhaaGreatDoor
set_option linter.all false
open Go.RowKit
set_option maxRecDepth 100000
set_option maxHeartbeats 2000000
theorem aby {F:dF} {ov:Value} {S:aU} {w wb w2:World} {t:aj} {a:Option Addr} {c:Nat} (h:aZ F ov S w) (hwb:Kept aA w wb)
  (hW:aO w2 F.M 9 1 (.slice a (S.output.length+1) c) (S.output.length+1) (S.output.map Value.string++[.string t])) (hg:wb.grownBy w2 ov.ownBlock)
  (ho:(Value.slice a (S.output.length+1) c).ownBlock=ov.ownBlock∨(Value.slice a (S.output.length+1) c).ownBlock=some wb.heap.size) :
  bC F ov w (.slice a (S.output.length+1) c) {S with output:=S.output++[t]} (w2.setCell ⟨F.O,4,none⟩ (.slice a (S.output.length+1) c)):=by
 generalize (Value.slice a (S.output.length+1) c)=qW at *
 have hO:=h.fix.nO
 have hsz:=hwb.size
 have kg:Kept (fun b=>ov.ownBlock=some b) w w2:=(hwb.more (fun _ h=>h.elim)).trans ((Kept.refl _ wb).grown hg fun k hk=>.inl hk)
 have hlow:∀b,ov.ownBlock=some b→F.M≤b:=fun b hb=>(h.out.lt b hb).1
 have hlow':∀b,qW.ownBlock=some b→F.M≤b:=fun b hb=>(hW.lt b hb).1
 have kO:Kept (· = F.O) w2 (w2.setCell ⟨F.O,4,none⟩ qW):=(Kept.refl (· = F.O) w2).setCell (p:=⟨F.O,4,none⟩) (.inl rfl) _
 have k:Kept (fun b=>b=F.O∨ov.ownBlock=some b) w (w2.setCell ⟨F.O,4,none⟩ qW):=(kg.more fun _ h=>.inr h).trans (kO.more fun _ h=>.inl h)
 have nx:∀b,b<F.M→b≠F.O→¬(b=F.O∨ov.ownBlock=some b):=fun b h1 h2 h3=>h3.elim h2 (fun h4=>by have:=hlow b h4;omega)
 have nN:∀b,(b=F.O∨ov.ownBlock=some b)→F.N≤b:=fun b hb=>hb.elim (fun e=>by omega) (fun e=>by have:=hlow b e;omega)
 obtain ⟨hs,h1,h2⟩:=h.hits
 obtain ⟨a1,c1,h3,h4,h5⟩:=h.Dl
 obtain ⟨n1,n2,n3,n4,n5,-⟩:=h.fix.ne
 have hbo:dG F.O 97 (Gl F ov S a1 c1) w2:=h3.kept kg (fun e=>by have:=hlow _ e;omega)
 refine ⟨⟨h.pq.kept k nN,h.fix,Nat.le_trans h.sz k.size,h.run.kept k (nx _ h.fix.nR.2 (fun e=>n2 e.symm)),h.Dk.kept k (nx _ h.fix.nW.2 (fun e=>n1 e.symm)),
  ⟨hs,h1,h2.kept k (nx _ h.fix.nH.2 (fun e=>n5 e.symm))⟩,⟨a1,c1,hbo.set 4 qW,sJ h4 k h.pq.low nN,h5⟩,?_,h.vars.kept k (nx _ h.fix.nV.2 (fun e=>n3 e.symm)),h.items.kept k (nx _ h.fix.nI.2 (fun e=>n4 e.symm))⟩,
  k.more (fun b hb=>hb.elim (fun e=>.inl e) (fun e=>.inr (.inr (.inr (.inr (.inr e)))))),fun b hb=>?_⟩
 ·have e:(S.output++[t]).length=S.output.length+1:=by simp
  have e2:(S.output++[t]).map Value.string=S.output.map Value.string++[.string t]:=by simp
  show aO _ _ _ _ _ (S.output++[t]).length ((S.output++[t]).map Value.string)
  rw [e,e2]
  exact hW.setCell (fun e=>by have:=hlow' _ e;have:F.M≤F.O:=this;omega) _
 ·rcases hb with hb|hb|hb|hb|hb|hb
  ·exact .inl (.inl hb)
  ·exact .inl (.inr (.inl hb))
  ·exact .inl (.inr (.inr (.inl hb)))
  ·exact .inl (.inr (.inr (.inr (.inl hb))))
  ·exact .inl (.inr (.inr (.inr (.inr (.inl hb)))))
  ·rcases ho with ho|ho
   ·exact .inl (.inr (.inr (.inr (.inr (.inr (by rw [←ho];exact hb))))))
   ·rw [ho] at hb;cases hb;exact .inr hsz
theorem abz (F:dF) (ov:Value) (S:aU) (t:aj) (w:World) (h:aZ F ov S w) (hk:S.told≤1048576) (hl:S.output.length≤1048576) (ht:t.size≤65536) :
  Calls Tryz.prog 170 #[.pointer (some ⟨F.O,0,none⟩),.string t] w (yg F ov w (vU S t)):=by
 obtain ⟨i0,hi0,hz0,hz1,hz2⟩:=info_parts zW
 obtain ⟨a,c,_,_,_,q3,q4,_,q6,qf,_,_⟩:=h.lQ
 have f3:=qf 3
 have f6:=qf 6
 by_cases hc:1048576<S.told+t.size+1
 ·have H3:=ah (h.Ho 3)
  unfold vU
  rw [if_pos hc]
  have e1:decide (1048576<(S.told:Int)+(t.size:Int)+1)=true:=ak (by omega)
  clear h hc
  go_enter Tryz.func170, Tryz.ntmps170
  go_wp2_with fail
  go_ret
  exact ⟨rfl,ov,H3.out⟩
 ·have R1:=h.aep (S.told+(t.size+1))
  unfold vU
  rw [if_neg hc]
  have e1:decide (1048576<(S.told:Int)+(t.size:Int)+1)=false:=au (by omega)
  have H1:=R1.at_
  rw [show ((S.told+(t.size+1):Nat):Int)=(S.told:Int)+((t.size:Int)+1) by omega] at R1 H1
  obtain ⟨w1,hw1⟩:∃w1,w1=w.setCell ⟨F.O,3,none⟩ (.int .i64 ((S.told:Int)+((t.size:Int)+1))):=⟨_,rfl⟩
  rw [←hw1] at R1 H1
  obtain ⟨a0,c0,hov⟩:=H1.out.shape
  subst hov
  have FN:Hid (∀{wb w2:World} {a:Option Addr} {c:Nat},Kept aA w1 wb→aO w2 F.M 9 1 (.slice a (S.output.length+1) c) (S.output.length+1) (S.output.map Value.string++[.string t])→wb.grownBy w2 (Value.slice a0 S.output.length c0).ownBlock→
   ((Value.slice a (S.output.length+1) c).ownBlock=(Value.slice a0 S.output.length c0).ownBlock∨(Value.slice a (S.output.length+1) c).ownBlock=some wb.heap.size)→_):=fun hwb hW hg ho=>R1.trans (aby H1 hwb hW hg ho)
  obtain ⟨a2,c2,_,_,_,_,g4,_,_,gf,_,_⟩:=H1.lQ
  have g4f:=gf 4
  have WO:Hid (∀wb,Kept aA w1 wb→aO wb F.M 9 1 (.slice a0 S.output.length c0) S.output.length (S.output.map Value.string)):=fun wb hk=>H1.out.kept hk (fun _ _ h=>h)
  have FZ:Hid (∀wb w',Kept aA w1 wb→wb.grownBy w' (Value.slice a0 S.output.length c0).ownBlock→w'.cell? ⟨F.O,4,none⟩=some (.slice a0 S.output.length c0)∧w'.frozen? ⟨F.O,4,none⟩=false):=fun wb w' hk hg=>by
   obtain ⟨a3,c3,hb,_⟩:=(H1.quiet hk).Dl
   have hne:(Value.slice a0 S.output.length c0).ownBlock≠some F.O:=fun e=>by have:=(H1.out.lt _ e).1;have:=H1.fix.nO;omega
   have hb2:dG F.O 97 _ w':=hb.kept ((Kept.refl (fun b=>(Value.slice a0 S.output.length c0).ownBlock=some b) wb).grown hg fun k hk=>.inl hk) (fun e=>hne e)
   exact ⟨hb2.cell rfl,hb2.free 4⟩
  have HM:=ah H1.sz
  have HL:=ah hl
  have HW1:=ah hw1
  clear h hc R1 H1 hl hw1
  go_enter Tryz.func170, Tryz.ntmps170
  go_upto_region 5 with fail
  rw [←HW1.out]
  clear HW1 q3 f3 q4 q6 f6 qf
  go_wp2_with (at_builtin;go_loud (refine dM _ rfl (.tmp 31) (.tmp 33) 22 22 rfl F.M 9 i0 (.string ⟨#[]⟩) 1 16 Tryz.underlying22 hi0 hz0 hz1 hz2 rfl (.slice a0 S.output.length c0) S.output.length (S.output.map Value.string) rfl (WO.out _ (by repeat (first|exact Kept.refl aA _|refine Kept.drew ?_|refine Kept.alloc ?_ _))) _ 1 [.string t] rfl (Ju Tryz.underlying22 1 rfl (ay _ _) (by intro u hu;simp at hu;rcases hu with rfl;rfl)) (by have:=HL.out;unfold maxLen;omega) (by have:=HL.out;omega) (by have:=HM.out;simp;omega) ?_);intro a4 c4 w4 EZ hg4 Ht;obtain ⟨d5,df⟩:=FZ.out _ _ (by repeat (first|exact Kept.refl aA _|refine Kept.drew ?_|refine Kept.alloc ?_ _)) hg4;have RES:=ah (FN.out (by repeat (first|exact Kept.refl aA _|refine Kept.drew ?_|refine Kept.alloc ?_ _)) EZ hg4 Ht);clear EZ hg4 Ht)
  go_ret
  exact ⟨rfl,_,RES.out⟩
end Go.Proofs.YtgoijmpahffnhaaGreatDoor

namespace Go.Proofs.YtgoijmpahffnhaaGreatDoor
set_option linter.all false
open Go.RowKit
set_option maxRecDepth 100000
set_option maxHeartbeats 2000000
theorem aZ.aju {F:dF} {ov:Value} {S:aU} {w w':World} {l:List (aj×aj)} (h:aZ F ov S w) (k:Kept (· = F.V) w w') (hm:ji w' F.V l none):bC F ov w ov {S with vars:=l} w':=by
 obtain ⟨n1,n2,n3,n4,n5,m1,m2,m3,m4,p1,p2,p3,r1,r2,r3⟩:=h.fix.ne
 obtain ⟨hs,h1,h2⟩:=h.hits
 obtain ⟨a,c,h3,h4,h5⟩:=h.Dl
 have hV:=h.fix.nV
 refine ⟨⟨h.pq.kept k (fun b hb=>by have:b=F.V:=hb;omega),h.fix,Nat.le_trans h.sz k.size,h.run.kept k p1,h.Dk.kept k m2,⟨hs,h1,h2.kept k (fun e=>r2 e.symm)⟩,
  ⟨a,c,h3.kept k n3,sJ h4 k h.pq.low (fun b hb=>by have:b=F.V:=hb;omega),h5⟩,?_,hm,h.items.kept k (fun e=>r1 e.symm)⟩,k.more (fun _ h=>.inr (.inr (.inl h))),fun _ h=>.inl h⟩
 exact h.out.kept k (fun b hb e=>by have e:b=F.V:=e;have:=h.out.lt b hb;omega)
theorem Yd {S:aU} {n t:aj} (h1:n≠gW) (h2:¬65536<t.size) (h3:n≠dA):fH S n t=if 1048576+(lookA S.vars n).size<S.bytes+t.size then (false,{S with how:=3}) else (true,{S with bytes:=S.bytes+t.size-(lookA S.vars n).size,vars:=kL S.vars n t}):=by
 unfold fH
 rw [if_neg (fun h=>h.elim h1 h2),if_neg h3]
theorem TU {F:dF} {ov eu:Value} {S:aU} {w w1 w2:World} {b:Nat} {l:List (aj×aj)} (h:bC F ov w eu {S with bytes:=b} w1) (k:Kept (· = F.V) w1 w2) (hm:ji w2 F.V l none):bC F ov w eu {S with bytes:=b,vars:=l} w2:=h.trans (h.at_.aju k hm)
theorem set_any (F:dF) (ov:Value) (S:aU) (n t:aj) (w:World) (h:aZ F ov S w) (ok:bH S) (hn:n.size≤1000000000) (ht:t.size≤1000000000) :
  Calls Tryz.prog 107 #[.pointer (some ⟨F.O,0,none⟩),.string n,.string t] w (yg F ov w (fH S n t)):=by
 have hol:S.output.length≤1048576:=by
  have h1:=ok.told
  have h2:=ok.much
  have h3:∀l:List aj,l.length≤(l.map fun t=>t.size+1).sum:=by
   intro l
   induction l with
   | nil=>exact Nat.le_refl _
   | cons a r ih=>simp only [List.length_cons,List.map_cons,List.sum_cons];omega
  have:=h3 S.output
  omega
 by_cases h1:n=gW
 ·have e1:(n.toList==[73,78,80,85,84])=true:=yR h1
  have fin:Hid (fH S n t=(false,S)):=if_pos (.inl h1)
  have H:=ah h
  clear h h1 ok hol
  go_enter Tryz.func107, Tryz.ntmps107
  go_wp2_with fail
  go_ret
  exact ⟨by rw [fin.out];try rfl,ov,by rw [fin.out];exact bC.refl H.out⟩
 have e1:(n.toList==[73,78,80,85,84])=false:=yS h1
 by_cases h2:65536<t.size
 ·have e2:decide ((65536:Int)<(t.size:Int))=true:=ak (by omega)
  have e2':decide (65536<t.size)=true:=ak h2
  have fin:Hid (fH S n t=(false,S)):=if_pos (.inr h2)
  have H:=ah h
  clear h h1 h2 ok hol
  go_enter Tryz.func107, Tryz.ntmps107
  go_wp2_with fail
  go_ret
  exact ⟨by rw [fin.out];try rfl,ov,by rw [fin.out];exact bC.refl H.out⟩
 have e2:decide ((65536:Int)<(t.size:Int))=false:=au (by omega)
 have e2':decide (65536<t.size)=false:=au h2
 by_cases h3:n=dA
 ·have e3:(n.toList==[79,85,84,80,85,84])=true:=yR h3
  have fin:Hid (fH S n t=vU S t):=by unfold Hid fH;rw [if_neg (fun h=>h.elim h1 h2),if_pos h3]
  have HT:=ah (abz F ov S t w h ok.much hol (by omega))
  clear h h1 h2 h3 ok hol
  go_enter Tryz.func107, Tryz.ntmps107
  go_wp2_with (go_at_call 170;(refine HT.out.mono ?_);rintro e w1 ⟨rfl,eu,r_⟩;have R1:=ah r_;clear r_)
  go_ret
  exact ⟨by rw [fin.out];try rfl,eu,by rw [fin.out];exact R1.out⟩
 have e3:(n.toList==[79,85,84,80,85,84])=false:=yS h3
 have hb:=ok.most
 have hlk:=Ye ok n
 have hl:=h.vars.look n (by unfold maxLen;omega)
 obtain ⟨a,c,q0,_⟩:=h.lQ
 obtain ⟨lk,Vh⟩:∃lk,lk=lookA S.vars n:=⟨_,rfl⟩
 have hlz:lk.size≤65536:=by rw [Vh];by_cases h0:(lookA S.vars n).size=0;omega;exact (ok.Yf _ (yP h0)).1
 have f4:=Yd (S:=S) (t:=t) h1 h2 h3
 rw [←Vh] at hlk hl f4
 have HR:=abx F ov S ((t.size:Int)-lk.size) w h hb (by omega) (by omega)
 by_cases hc:1048576+lk.size<S.bytes+t.size
 ·rw [if_pos hc] at f4
  rw [if_pos (by omega)] at HR
  have HR:=ah HR
  have fin:=ah f4
  clear h h1 h2 h3 hc Vh f4 ok hol
  go_enter Tryz.func107, Tryz.ntmps107
  go_wp2_with (go_at_call 171;(refine HR.out.mono ?_);rintro e w1 ⟨rfl,eu,r_⟩;have R1:=ah r_;clear r_)
  go_ret
  exact ⟨by rw [fin.out];try rfl,eu,by rw [fin.out];exact R1.out⟩
 rw [if_neg hc] at f4
 rw [if_neg (by omega)] at HR
 have hbe:((S.bytes:Int)+((t.size:Int)-lk.size)).toNat=S.bytes+t.size-lk.size:=by omega
 rw [hbe] at HR
 have HR:=ah HR
 have fin:=ah f4
 have ho:=ok.vars
 have hvl:S.vars.length<maxLen:=by
  have:=zZ (fun _=>0) ok.vars
  have:=ok.bytes
  unfold maxLen;omega
 have hs:n.size≤maxLen:=by unfold maxLen;omega
 have hs':t.size≤maxLen:=by unfold maxLen;omega
 have HO:=ah ho
 clear h h1 h2 h3 hc Vh f4 ok hol hbe hlk hb ho
 by_cases h0:t.size=0
 ·have e0:(t.toList==[])=true:=yR (pR h0)
  have Z:=ah h0
  clear h0
  go_enter Tryz.func107, Tryz.ntmps107
  go_upto_region 7 with (go_at_call 171;(refine HR.out.mono ?_);rintro e w1 ⟨rfl,eu,r_⟩;have R1:=ah r_;obtain ⟨a1,c1,g0,_⟩:=r_.at_.lQ;clear r_)
  go_wp2_with (first
   | (refine Fa rfl _ _ _ rfl rfl R1.out.at_.vars HO.out hvl n t rfl hs rfl hs' ?_;intro w2 Fb fZ;rw [if_pos Z.out] at Fb;have M2:=ah Fb;have K2:=ah fZ;obtain ⟨g0',_⟩:w2.cell? ⟨F.O,0,none⟩=some (.map (some F.V))∧True:=⟨(fZ.cell (R1.out.at_.xlt (.inl rfl)).2 (R1.out.at_.fix.ne.2.2.1)).trans g0,trivial⟩;clear Fb fZ)
   | (refine QT rfl _ _ rfl rfl M2.out rfl hs ?_;intro w3 Fb fZ;have K3:=ah (K2.out.trans fZ);have M3:=ah Fb;clear Fb fZ))
  go_ret
  refine ⟨by rw [fin.out];try rfl,eu,?_⟩
  rw [fin.out]
  have M:ji w3 F.V (kL S.vars n t) none:=by unfold kL;rw [if_pos Z.out];exact M3.out
  exact TU R1.out K3.out M
 ·have e0:(t.toList==[])=false:=yS (fun e=>h0 (by rw [e];rfl))
  go_enter Tryz.func107, Tryz.ntmps107
  go_upto_region 7 with (go_at_call 171;(refine HR.out.mono ?_);rintro e w1 ⟨rfl,eu,r_⟩;have R1:=ah r_;obtain ⟨a1,c1,g0,_⟩:=r_.at_.lQ;clear r_)
  go_wp2_with (refine Fa rfl _ _ _ rfl rfl R1.out.at_.vars HO.out hvl n t rfl hs rfl hs' ?_;intro w2 Fb fZ;rw [if_neg h0] at Fb;have M2:=ah Fb;have K2:=ah fZ;clear Fb fZ)
  go_ret
  refine ⟨by rw [fin.out];try rfl,eu,?_⟩
  rw [fin.out]
  have M:ji w2 F.V (kL S.vars n t) none:=M2.out
  exact TU R1.out K2.out M
end Go.Proofs.YtgoijmpahffnhaaGreatDoor

namespace Go.Proofs.YtgoijmpahffnhaaGreatDoor
set_option linter.all false
open Go.RowKit
set_option maxRecDepth 100000
set_option maxHeartbeats 1000000
theorem Yg (F:dF) (ov:Value) (S:aU) (n k:aj) (w:World) (h:aZ F ov S w) (hn:n.size≤1000000000) :
  Calls Tryz.prog 70 #[.pointer (some ⟨F.O,0,none⟩),.agg #[.string n,.string k,.bool false]] w (NP F ov w (iK S n)):=by
 obtain ⟨w1,hw1⟩:∃w1,w1=w.alloc (.cells #[.string n,.string k,.bool false] 137):=⟨_,rfl⟩
 have k1:Kept aA w w1:=by rw [hw1];exact (Kept.refl aA w).alloc _
 have hb:dG w.heap.size 137 [.string n,.string k,.bool false] w1:=by rw [hw1];exact dG.new _ _ _
 have c0:w1.cell? ⟨w.heap.size,0,none⟩=some (.string n):=hb.cell rfl
 have c2:w1.cell? ⟨w.heap.size,2,none⟩=some (.bool false):=hb.cell rfl
 obtain ⟨B,hB⟩:∃B,B=w.heap.size:=⟨_,rfl⟩
 rw [←hB] at c0 c2
 have HG:=ah (get_any F ov S n w1 (h.quiet k1) hn)
 have K1:=ah k1
 have HW:=ah hw1;have HB:=ah hB
 clear h k1 hw1 hb hB
 go_enter Tryz.func70, Tryz.ntmps70
 go_upto_region 1 with fail
 rw [←HW.out,←HB.out]
 go_wp2_with (go_at_call 111;(with_reducible refine HG.out.mono ?_);rintro e w2 ⟨rfl,eu,r_⟩;have R1:=ah r_;clear r_)
 go_ret2
 exact ⟨rfl,eu,bC.after K1.out R1.out⟩
theorem write_any (F:dF) (ov:Value) (S:aU) (n k t:aj) (w:World) (h:aZ F ov S w) (ok:bH S) (hn:n.size≤1000000000) (ht:t.size≤1000000000) :
  Calls Tryz.prog 71 #[.pointer (some ⟨F.O,0,none⟩),.agg #[.string n,.string k,.bool false],.string t] w (yg F ov w (fH S n t)):=by
 obtain ⟨w1,hw1⟩:∃w1,w1=w.alloc (.cells #[.string n,.string k,.bool false] 137):=⟨_,rfl⟩
 have k1:Kept aA w w1:=by rw [hw1];exact (Kept.refl aA w).alloc _
 have hb:dG w.heap.size 137 [.string n,.string k,.bool false] w1:=by rw [hw1];exact dG.new _ _ _
 have c0:w1.cell? ⟨w.heap.size,0,none⟩=some (.string n):=hb.cell rfl
 have c2:w1.cell? ⟨w.heap.size,2,none⟩=some (.bool false):=hb.cell rfl
 obtain ⟨B,hB⟩:∃B,B=w.heap.size:=⟨_,rfl⟩
 rw [←hB] at c0 c2
 have HG:=ah (set_any F ov S n t w1 (h.quiet k1) ok hn ht)
 have K1:=ah k1
 have HW:=ah hw1;have HB:=ah hB
 clear h k1 hw1 hb hB
 go_enter Tryz.func71, Tryz.ntmps71
 go_upto_region 1 with fail
 rw [←HW.out,←HB.out]
 go_wp2_with (go_at_call 107;(with_reducible refine HG.out.mono ?_);rintro e w2 ⟨rfl,eu,r_⟩;have R1:=ah r_;clear r_)
 go_ret
 exact ⟨rfl,eu,bC.after K1.out R1.out⟩
theorem aes (n:aj) (w:World):Calls Tryz.prog 108 #[.string n] w (fun e w'=>e=.returned (.agg #[.string n,.string ⟨#[]⟩,.bool false])∧Kept aA w w'):=by
 go_enter Tryz.func108, Tryz.ntmps108
 go_wp2_with fail
 have hb:=dG.new w 137 [.string n,.string ⟨#[]⟩,.bool false]
 have c0:=hb.cell (i:=0) rfl
 have c1:=hb.cell (i:=1) rfl
 have c2:=hb.cell (i:=2) rfl
 exact bodyPost_ret (v:=.agg #[.string n,.string ⟨#[]⟩,.bool false]) (by simp [results,Tryz.results108,go_sem]) rfl ⟨rfl,(Kept.refl _ _).alloc _⟩
def PlQ (F:dF) (ov:Value) (w:World) (r:Option KO×aU) (e:Ending) (w':World):Prop :=
 (∃p:KO,e=.returned (.tuple #[.agg #[.string p.name,.string p.key,.bool p.keyed],.bool r.1.isSome])∧∀q,r.1=some q→p=q)∧∃qW,bC F ov w qW r.2 w'
theorem NP.back {F:dF} {ov eu:Value} {S1:aU} {w w1 wx:World} {r:(aj×Bool)×aU} (h:bC F ov w eu S1 w1) (k:Kept aA w1 wx) {e:Ending} {w':World} (q:NP F eu wx r e w'):NP F ov w r e w':=by
 obtain ⟨rfl,mV,r2⟩:=q
 exact ⟨rfl,mV,h.trans (bC.after k r2)⟩
def yX (M:Nat) (n k:aj) (b:Bool) (w:World):Prop:=dG M 137 [.string n,.string k,.bool b] w
theorem yX.cells {M:Nat} {n k:aj} {b:Bool} {w:World} (h:yX M n k b w):w.cell? ⟨M,0,none⟩=some (.string n)∧w.cell? ⟨M,1,none⟩=some (.string k)∧w.cell? ⟨M,2,none⟩=some (.bool b)∧∀i,w.frozen? ⟨M,i,none⟩=false :=
 ⟨dG.cell h rfl,dG.cell h rfl,dG.cell h rfl,dG.free h⟩
theorem yX.put {M:Nat} {n k:aj} {b:Bool} {w:World} (h:yX M n k b w) (n' k':aj) (b':Bool) :
  yX M n' k' b' (((w.setCell ⟨M,0,none⟩ (.string n')).setCell ⟨M,1,none⟩ (.string k')).setCell ⟨M,2,none⟩ (.bool b'))∧Kept (· = M) w (((w.setCell ⟨M,0,none⟩ (.string n')).setCell ⟨M,1,none⟩ (.string k')).setCell ⟨M,2,none⟩ (.bool b')) :=
 ⟨((dG.set h 0 (.string n')).set 1 (.string k')).set 2 (.bool b'),((((Kept.refl (· = M) w).setCell (p:=⟨M,0,none⟩) (.inl rfl) _).setCell (p:=⟨M,1,none⟩) (.inl rfl) _).setCell (p:=⟨M,2,none⟩) (.inl rfl) _)⟩
theorem Yh {F:dF} {ov:Value} {w w2:World} {f:Func} {tmps:Array Value} {M:Nat} {n k:aj} {b c:Bool} {r:Option KO×aU} {eu:Value} (hf:f.results = #[.cell 4 137,.tmp 5]) (h4:tmps.getD 4 undef=.pointer (some ⟨M,0,none⟩)) (h5:tmps.getD 5 undef=.bool c)
  (hM:yX M n k b w2) (hc:c=r.1.isSome) (hq:∀q,r.1=some q→(⟨n,k,b⟩:KO)=q) (hr:bC F ov w eu r.2 w2):bodyPost Tryz.prog f (PlQ F ov w r) .ret ⟨tmps,[]⟩ w2:=by
 obtain ⟨c0,c1,c2,_⟩:=hM.cells
 have Ob:tmps[4]?.getD undef=.pointer (some ⟨M,0,none⟩):=by rw [←h4,Array.getD_eq_getD_getElem?]
 have ht5:tmps[5]?.getD undef=.bool c:=by rw [←h5,Array.getD_eq_getD_getElem?]
 refine bodyPost_ret (v:=.tuple #[.agg #[.string n,.string k,.bool b],.bool c]) (by simp [results,hf,go_sem,Ob,ht5,c0,c1,c2]) rfl ⟨⟨⟨n,k,b⟩,by rw [hc],hq⟩,eu,hr⟩
theorem Hu (F:dF) (ov:Value) (S:aU) (Sx:Nat→Prop) (x:aB) (b o:Nat) (w:World) (h:aZ F ov S w) (hx:aX w Sx b o x) (hs:Safe Sx aA w.heap.size) (h3:x.kind=3) :
  Calls Tryz.prog 69 #[.pointer (some ⟨F.R,0,none⟩),.pointer (some ⟨b,o,none⟩)] w (PlQ F ov w (lM x S)):=by
 have fin:Hid (lM x S=(some ⟨x.name,⟨#[]⟩,false⟩,S)):=if_pos h3
 obtain ⟨k,t,n,nm,kids⟩:=x
 obtain rfl:k=3:=h3
 obtain ⟨w1,hw1⟩:∃w1,w1=w.alloc (.cells #[.string ⟨#[]⟩,.string ⟨#[]⟩,.bool false] 137):=⟨_,rfl⟩
 have k1:Kept aA w w1:=by rw [hw1];exact (Kept.refl aA w).alloc _
 have hb:yX w.heap.size ⟨#[]⟩ ⟨#[]⟩ false w1:=by rw [hw1];exact dG.new _ _ _
 have hp:=hx.kept k1 hs
 unfold aX at hp
 obtain ⟨_,_,q0,_,_,q3,_⟩:=hp
 obtain ⟨M,hM⟩:∃M,M=w.heap.size:=⟨_,rfl⟩
 rw [←hM] at hb
 have HB:=ah hb;have K1:=ah k1;have HW:=ah hw1;have HM:=ah hM;have H:=ah h
 clear hx hb k1 hw1 hM h
 go_enter Tryz.func69, Tryz.ntmps69
 go_upto_region 1 with fail
 rw [←HW.out,←HM.out]
 go_wp2_with (go_at_call 108;(with_reducible refine (aes nm _).mono ?_);rintro e w2 ⟨rfl,k_⟩;have K2:=ah k_;have B2:=ah (dG.kept HB.out k_ (fun h=>h));obtain ⟨c0,c1,c2,cf⟩:=yX.cells B2.out;have f0:=cf 0;have f1:=cf 1;have f2:=cf 2;clear k_)
 have P:=yX.put B2.out nm ⟨#[]⟩ false
 refine Yh (r:=lM (.mk 3 t n nm kids) S) Tryz.results69 rfl rfl P.1 (by rw [fin.out];rfl) (by rw [fin.out];intro q hq;cases hq;rfl) (eu:=ov) ?_
 rw [fin.out]
 exact ((bC.refl H.out).quiet (K1.out.trans K2.out)).local P.2 H.out (fun b hb=>by obtain rfl:b=M:=hb;exact ⟨by rw [HM.out];exact Nat.le_refl _,H.out.mine (by rw [HM.out];exact Nat.le_refl _)⟩)
end Go.Proofs.YtgoijmpahffnhaaGreatDoor

namespace Go.Proofs.YtgoijmpahffnhaaGreatDoor
set_option linter.all false
open Go.RowKit
set_option maxRecDepth 100000
set_option maxHeartbeats 2000000
def EvQ (F:dF) (ov:Value) (w:World) (r:Option aj×aU) (e:Ending) (w':World):Prop:=e=.returned (.tuple #[.string (r.1.getD ⟨#[]⟩),.bool r.1.isSome])∧∃qW,bC F ov w qW r.2 w'
def AZ (o:Option aj) (w:World) (e:Ending) (w':World):Prop:=e=.returned (.tuple #[.string (o.getD ⟨#[]⟩),.bool o.isSome])∧Kept aA w w'
structure zY (F:dF) (nb:aj→Bool) (kb:Int→Bool):Prop where
 bu:∀nm,nb nm=true→∀(a:List aj) (al:Option Addr) (cl:Nat) (w:World),F.G w→aQ w (· < w.heap.size) al a→aH nm=(a.length:Int)→(∀t∈a,t.size≤65536)→Calls Tryz.prog 101 #[.string nm,.slice al a.length cl] w (AZ (bJ nm a) w)
 bi:∀k,kb k=true→∀(a b:aj) (w:World),F.G w→a.size≤65536→b.size≤65536→Calls Tryz.prog 100 #[.int .i64 k,.string a,.string b] w (AZ (Gi k a b) w)
 nu:kb 2=true→∀n,jw n→∀w,F.G w→Calls Tryz.prog 99 #[.int .i64 n,.int .i64 0] w (AZ (some (iM n)) w)
theorem aZ.g {F:dF} {ov:Value} {S:aU} {w:World} (h:aZ F ov S w):F.G w:=h.pq.g
theorem TW (S:aU) (n:aj):(okO (iK S n)).1.getD ⟨#[]⟩=(iK S n).1.1∧(okO (iK S n)).1.isSome=(iK S n).1.2:=by
 unfold iK okO
 split
 ·exact ⟨rfl,rfl⟩
 split
 ·split<;>exact ⟨rfl,rfl⟩
 ·exact ⟨rfl,rfl⟩
section
variable (F:dF) (nb:aj→Bool) (kb:Int→Bool) (BH:zY F nb kb) (ov:Value) (S:aU) (Sx:Nat→Prop) (t:aj) (n:Int) (nm:aj) (kids:List aB) (b o:Nat) (w:World) (h:aZ F ov S w) (hsx:∀b,Sx b→b<F.N)
include h
theorem aeu (hx:aX w Sx b o (.mk 1 t n nm kids)):Calls Tryz.prog 67 #[.pointer (some ⟨F.R,0,none⟩),.pointer (some ⟨b,o,none⟩)] w (EvQ F ov w (fK (.mk 1 t n nm kids) S)):=by
 have fin:Hid (fK (.mk 1 t n nm kids) S=(some t,S)):=by unfold Hid;rw [fK,if_pos rfl]
 unfold aX at hx
 obtain ⟨_,_,q0,q1,_⟩:=hx
 have H:=ah h
 clear h
 go_enter Tryz.func67, Tryz.ntmps67
 go_wp2_with fail
 go_ret2
 exact ⟨by rw [fin.out];rfl,ov,by rw [fin.out];exact bC.refl H.out⟩
include BH in
theorem af7 (hx:aX w Sx b o (.mk 2 t n nm kids)) (h2:kb 2=true) (hz:jw n):Calls Tryz.prog 67 #[.pointer (some ⟨F.R,0,none⟩),.pointer (some ⟨b,o,none⟩)] w (EvQ F ov w (fK (.mk 2 t n nm kids) S)):=by
 have fin:Hid (fK (.mk 2 t n nm kids) S=(some (iM n),S)):=by unfold Hid;rw [fK,if_neg (by decide),if_pos rfl]
 unfold aX at hx
 obtain ⟨_,_,q0,_,q2,_⟩:=hx
 have HT:=ah (BH.nu h2 n hz w h.g)
 have H:=ah h
 clear h hz
 go_enter Tryz.func67, Tryz.ntmps67
 go_wp2_with (go_at_call 99;(with_reducible refine HT.out.mono ?_);rintro e w1 ⟨rfl,k_⟩;have K1:=ah k_;clear k_)
 go_ret2
 exact ⟨by rw [fin.out];rfl,ov,by rw [fin.out];exact (bC.refl H.out).quiet K1.out⟩
include hsx in
theorem aev (hx:aX w Sx b o (.mk 3 t n nm kids)):Calls Tryz.prog 67 #[.pointer (some ⟨F.R,0,none⟩),.pointer (some ⟨b,o,none⟩)] w (EvQ F ov w (fK (.mk 3 t n nm kids) S)):=by
 have fin:Hid (fK (.mk 3 t n nm kids) S=okO (iK S nm)):=by unfold Hid;rw [fK,if_neg (by decide),if_neg (by decide),if_pos rfl]
 have hsf:Safe Sx aA w.heap.size:=fun b hb=>⟨Nat.lt_of_lt_of_le (hsx b hb) h.pq.low,fun h=>h⟩
 have HP:=ah (Hu F ov S Sx (.mk 3 t n nm kids) b o w h hx hsf rfl)
 have hpf:lM (.mk 3 t n nm kids) S=(some ⟨nm,⟨#[]⟩,false⟩,S):=if_pos rfl
 have TY:=ah hpf
 unfold aX at hx
 obtain ⟨_,hz,q0,_⟩:=hx
 have hn:nm.size≤1000000000:=by omega
 have H:=ah h
 clear h hsf hpf hz
 go_enter Tryz.func67, Tryz.ntmps67
 go_upto_region 10 with (go_at_call 69;(with_reducible refine HP.out.mono ?_);rintro e w1 ⟨⟨p_,rfl,Oe⟩,eu,r_⟩;rw [TY.out] at r_ Oe;obtain rfl:=Oe _ rfl;rw [TY.out];dsimp only [Option.isSome];have R1:=ah r_;clear r_ Oe)
 obtain ⟨w2,hw2⟩:∃w2,w2=w1.alloc (.cells #[.string nm,.string ⟨#[]⟩,.bool false] 137):=⟨_,rfl⟩
 obtain ⟨B,hB⟩:∃B,B=w1.heap.size:=⟨_,rfl⟩
 have hb:yX B nm ⟨#[]⟩ false w2:=by rw [hw2,hB];exact dG.new _ _ _
 have k2:Kept aA w1 w2:=by rw [hw2];exact (Kept.refl aA w1).alloc _
 rw [←hw2,←hB]
 have R2:=R1.out.quiet k2
 have HR:Hid (∀wx,Kept aA w2 wx→Calls Tryz.prog 70 #[.pointer (some ⟨F.O,0,none⟩),.agg #[.string nm,.string ⟨#[]⟩,.bool false]] wx (NP F ov w (iK S nm))):=fun wx k=>(Yg F eu S nm ⟨#[]⟩ wx (R2.at_.quiet k) hn).mono (fun e w' q=>NP.back R2 k q)
 obtain ⟨c0,c1,c2,_⟩:=hb.cells
 obtain ⟨r0,_⟩:=R2.at_.yc
 obtain ⟨u0,_⟩:=R2.at_.pO
 clear hw2 hB hb k2 R2 R1 q0
 go_upto_region 12 with fail
 go_wp2_with (go_region_with (go_at_call 70;(with_reducible refine (HR.out _ (by repeat (first|exact Kept.refl aA _|refine Kept.drew ?_|refine Kept.drewN ?_ _))).mono ?_);rintro e w3 ⟨rfl,Dn,r_⟩;have R3:=ah r_;clear r_))
 all_goals
  go_ret2
  exact ⟨by rw [fin.out,(TW S nm).1,(TW S nm).2];rfl,Dn,by rw [fin.out];exact R3.out⟩
end
end Go.Proofs.YtgoijmpahffnhaaGreatDoor

namespace Go.Proofs.YtgoijmpahffnhaaGreatDoor
set_option linter.all false
open Go.RowKit
section
variable {P:Program} {Q:Exit→Act→World→Prop}
theorem AQ {J:(Nat→Bool)→(Nat→Value)→World→Prop} {X:Nat→Prop} {l:Nat→Bool} {i:Nat} {o:Oper} {x:Act} {w:World} {f:FuncId} {args:Array Value} {R:Nat→Value→World→Prop} (hr:(execOp x.eval o).run P w=.ok (.enter f args) w)
  (hc:Calls P f args w fun e w'=>∃v,e=.returned v∧R i v w'∧Kept X w w'∧∀l',(∀j,l' j=true↔j=i∨l j=true)→J l' (fun t=>(x.put o.dst v).tmps.getD t undef) w') :
  o.wp P x w (fun a' w'=>∃v,a'=x.put o.dst v∧(∀d,o.dst=some d→R i v w')∧Kept X w w'∧∀l',(∀j,l' j=true↔j=i∨l j=true)→J l' (fun t=>(x.put o.dst v).tmps.getD t undef) w') Q:=by
 unfold Oper.wp
 rw [hr]
 refine Calls.mono hc ?_
 rintro e w' ⟨v,rfl,hs,hk,hj⟩
 exact ⟨v,rfl,fun _ _=>hs,hk,hj⟩
end
def JY (w:World) (u pv qv:Value):Prop:=∃g,u=.slice (some ⟨g,0,none⟩) 2 2∧g<w.heap.size∧w.cell? ⟨g,0,none⟩=some pv∧w.cell? ⟨g,1,none⟩=some qv
def JZ (w:World) (u:Value) (x:aj):Prop:=∃g,u=.slice (some ⟨g,0,none⟩) 1 1∧g<w.heap.size∧w.heap[g]?=some (.cells #[.string x] 9 (0,0))
theorem JY.kept {w w':World} {u pv qv:Value} (h:JY w u pv qv) (hk:Kept aA w w'):JY w' u pv qv:=by
 obtain ⟨g,h1,h2,h3,h4⟩:=h
 exact ⟨g,h1,Nat.lt_of_lt_of_le h2 hk.size,(hk.cell h2 (fun h=>h)).trans h3,(hk.cell h2 (fun h=>h)).trans h4⟩
theorem JZ.kept {w w':World} {u:Value} {x:aj} (h:JZ w u x) (hk:Kept aA w w'):JZ w' u x:=by
 obtain ⟨g,h1,h2,h3⟩:=h
 exact ⟨g,h1,Nat.lt_of_lt_of_le h2 hk.size,(hk.block g h2 (fun h=>h)).trans h3⟩
theorem Ch.kept {w w':World} {B n:Nat} {xs:List Value} {u:Value} (h:Ch w B n xs u) (hk:Kept aA w w'):Ch w' B n xs u:=by
 obtain ⟨a,c,rfl,hw⟩:=h
 exact ⟨a,c,rfl,hw.kept hk (fun _ _ h=>h)⟩
theorem Ch.mono {w:World} {B B' n:Nat} {xs:List Value} {u:Value} (h:Ch w B n xs u) (hB:B'≤B):Ch w B' n xs u:=by
 obtain ⟨a,c,rfl,hw⟩:=h
 exact ⟨a,c,rfl,hw.mono hB⟩
structure qO (B n:Nat) (xs ys:List Value) (pv qv:Value) (e:aj) (b4 b5 b8 b9 b10:Bool) (DU DV DW vI u13:Value) (w:World):Prop where
 base:B≤w.heap.size
 two:b9=false→b4=true→JY w DU pv qv
 ch:b9=false→b5=true→Ch w B n xs DV
 one:b9=false→b8=true→JZ w DW e
 fin:b9=true→Ch w B (n+1) ys vI
 set:b10=true→u13=vI
section
variable {B n:Nat} {xs ys:List Value} {pv qv:Value} {e:aj} {b4 b5 b8 b9 b10:Bool} {DU DV DW vI u13:Value} {w w':World}
theorem qO.op4 (h:qO B n xs ys pv qv e b4 b5 b8 false false DU DV DW vI u13 w) {v:Value} (hk:Kept aA w w') (hv:JY w' v pv qv):qO B n xs ys pv qv e true b5 b8 false false v DV DW vI u13 w' :=
 ⟨Nat.le_trans h.base hk.size,fun _ _=>hv,fun a b=>(h.ch a b).kept hk,fun a b=>(h.one a b).kept hk,fun h=>(by cases h),fun h=>(by cases h)⟩
theorem qO.op5 (h:qO B n xs ys pv qv e b4 b5 b8 false false DU DV DW vI u13 w) {v:Value} (hk:Kept aA w w') (hv:Ch w' w.heap.size n xs v):qO B n xs ys pv qv e b4 true b8 false false DU v DW vI u13 w' :=
 ⟨Nat.le_trans h.base hk.size,fun a b=>(h.two a b).kept hk,fun _ _=>hv.mono h.base,fun a b=>(h.one a b).kept hk,fun h=>(by cases h),fun h=>(by cases h)⟩
theorem qO.op8 (h:qO B n xs ys pv qv e b4 b5 b8 false false DU DV DW vI u13 w) {v:Value} (hk:Kept aA w w') (hv:JZ w' v e):qO B n xs ys pv qv e b4 b5 true false false DU DV v vI u13 w' :=
 ⟨Nat.le_trans h.base hk.size,fun a b=>(h.two a b).kept hk,fun a b=>(h.ch a b).kept hk,fun _ _=>hv,fun h=>(by cases h),fun h=>(by cases h)⟩
theorem qO.op9 (h:qO B n xs ys pv qv e b4 b5 b8 false false DU DV DW vI u13 w) {v:Value} (hk:w.heap.size≤w'.heap.size) (hv:Ch w' B (n+1) ys v):qO B n xs ys pv qv e b4 b5 b8 true false DU DV DW v u13 w' :=
 ⟨Nat.le_trans h.base hk,fun h=>(by cases h),fun h=>(by cases h),fun h=>(by cases h),fun _=>hv,fun h=>(by cases h)⟩
theorem qO.ajM (h:qO B n xs ys pv qv e b4 b5 b8 b9 b10 DU DV DW vI u13 w):qO B n xs ys pv qv e b4 b5 b8 b9 true DU DV DW vI vI w :=
 ⟨h.base,h.two,h.ch,h.one,h.fin,fun _=>rfl⟩
end
def JO (B n:Nat) (xs ys:List Value) (pv qv:Value) (e:aj) (l:Nat→Bool) (f:Nat→Value) (w:World):Prop :=
 qO B n xs ys pv qv e (l 4) (l 5) (l 8) (l 9) (l 10) (f 95) (f 96) (f 99) (f 100) (f 13) w
section
variable {B n:Nat} {xs ys:List Value} {pv qv:Value} {e:aj} {l l':Nat→Bool} {x:Act} {w w':World} {v:Value}
theorem JO.other {i d:Nat} (h:JO B n xs ys pv qv e l (fun t=>x.tmps.getD t undef) w) (hl:∀j,l' j=true↔j=i∨l j=true) (hi:4≠i∧5≠i∧8≠i∧9≠i∧10≠i) (hd:d≠95∧d≠96∧d≠99∧d≠100∧d≠13) :
  JO B n xs ys pv qv e l' (fun t=>(x.put (some d) v).tmps.getD t undef) w:=by
 unfold JO at *
 rw [upd_ne hl 4 hi.1,upd_ne hl 5 hi.2.1,upd_ne hl 8 hi.2.2.1,upd_ne hl 9 hi.2.2.2.1,upd_ne hl 10 hi.2.2.2.2]
 dsimp only at *
 rw [gq x d 95 v hd.1,gq x d 96 v hd.2.1,gq x d 99 v hd.2.2.1,gq x d 100 v hd.2.2.2.1,gq x d 13 v hd.2.2.2.2]
 exact h
theorem JO.ajN (h:JO B n xs ys pv qv e l (fun t=>x.tmps.getD t undef) w) (h9:l 9=false) (h10:l 10=false) (hs:101<x.tmps.size) (hk:Kept aA w w') (hv:JY w' v pv qv) (hl:∀j,l' j=true↔j=4∨l j=true) :
  JO B n xs ys pv qv e l' (fun t=>(x.put (some 95) v).tmps.getD t undef) w':=by
 unfold JO at *
 rw [iC hl,upd_ne hl 5 (by decide),upd_ne hl 8 (by decide),upd_ne hl 9 (by decide),upd_ne hl 10 (by decide)]
 dsimp only at *
 rw [yx x 95 v (by omega),gq x 95 96 v (by decide),gq x 95 99 v (by decide),gq x 95 100 v (by decide),gq x 95 13 v (by decide)]
 rw [h9,h10] at h
 rw [h9,h10]
 exact h.op4 hk hv
theorem JO.DX (h:JO B n xs ys pv qv e l (fun t=>x.tmps.getD t undef) w) (h9:l 9=false) (h10:l 10=false) (hs:101<x.tmps.size) (hk:Kept aA w w') (hv:Ch w' w.heap.size n xs v) (hl:∀j,l' j=true↔j=5∨l j=true) :
  JO B n xs ys pv qv e l' (fun t=>(x.put (some 96) v).tmps.getD t undef) w':=by
 unfold JO at *
 rw [upd_ne hl 4 (by decide),iC hl,upd_ne hl 8 (by decide),upd_ne hl 9 (by decide),upd_ne hl 10 (by decide)]
 dsimp only at *
 rw [gq x 96 95 v (by decide),yx x 96 v (by omega),gq x 96 99 v (by decide),gq x 96 100 v (by decide),gq x 96 13 v (by decide)]
 rw [h9,h10] at h
 rw [h9,h10]
 exact h.op5 hk hv
theorem JO.ajO (h:JO B n xs ys pv qv e l (fun t=>x.tmps.getD t undef) w) (h9:l 9=false) (h10:l 10=false) (hs:101<x.tmps.size) (hk:Kept aA w w') (hv:JZ w' v e) (hl:∀j,l' j=true↔j=8∨l j=true) :
  JO B n xs ys pv qv e l' (fun t=>(x.put (some 99) v).tmps.getD t undef) w':=by
 unfold JO at *
 rw [upd_ne hl 4 (by decide),upd_ne hl 5 (by decide),iC hl,upd_ne hl 9 (by decide),upd_ne hl 10 (by decide)]
 dsimp only at *
 rw [gq x 99 95 v (by decide),gq x 99 96 v (by decide),yx x 99 v (by omega),gq x 99 100 v (by decide),gq x 99 13 v (by decide)]
 rw [h9,h10] at h
 rw [h9,h10]
 exact h.op8 hk hv
theorem JO.ajP (h:JO B n xs ys pv qv e l (fun t=>x.tmps.getD t undef) w) (h9:l 9=false) (h10:l 10=false) (hs:101<x.tmps.size) (hk:w.heap.size≤w'.heap.size) (hv:Ch w' B (n+1) ys v) (hl:∀j,l' j=true↔j=9∨l j=true) :
  JO B n xs ys pv qv e l' (fun t=>(x.put (some 100) v).tmps.getD t undef) w':=by
 unfold JO at *
 rw [upd_ne hl 4 (by decide),upd_ne hl 5 (by decide),upd_ne hl 8 (by decide),iC hl,upd_ne hl 10 (by decide)]
 dsimp only at *
 rw [gq x 100 95 v (by decide),gq x 100 96 v (by decide),gq x 100 99 v (by decide),yx x 100 v (by omega),gq x 100 13 v (by decide)]
 rw [h9,h10] at h
 rw [h10]
 exact h.op9 hk hv
theorem JO.aii (h:JO B n xs ys pv qv e l (fun t=>x.tmps.getD t undef) w) (hs:101<x.tmps.size) (hv:v=x.tmps.getD 100 undef) (hl:∀j,l' j=true↔j=10∨l j=true) :
  JO B n xs ys pv qv e l' (fun t=>(x.put (some 13) v).tmps.getD t undef) w:=by
 unfold JO at *
 rw [upd_ne hl 4 (by decide),upd_ne hl 5 (by decide),upd_ne hl 8 (by decide),upd_ne hl 9 (by decide),iC hl]
 dsimp only at *
 rw [gq x 13 95 v (by decide),gq x 13 96 v (by decide),gq x 13 99 v (by decide),gq x 13 100 v (by decide),yx x 13 v (by omega),hv]
 exact h.ajM
theorem JO.start (hB:B≤w.heap.size) (hl:∀i,i<11→l i=false) {f:Nat→Value}:JO B n xs ys pv qv e l f w:=by
 unfold JO
 rw [hl 4 (by decide),hl 5 (by decide),hl 8 (by decide),hl 9 (by decide),hl 10 (by decide)]
 exact ⟨hB,fun _ h=>(by cases h),fun _ h=>(by cases h),fun _ h=>(by cases h),fun h=>(by cases h),fun h=>(by cases h)⟩
theorem JO.eqv {f:Nat→Value} (h:JO B n xs ys pv qv e l f w) (hl:∀i,i<11→l i=l' i):JO B n xs ys pv qv e l' f w:=by
 unfold JO at *
 rw [←hl 4 (by decide),←hl 5 (by decide),←hl 8 (by decide),←hl 9 (by decide),←hl 10 (by decide)]
 exact h
end
theorem J3 (l:List aj) (x:aj):Lib.containsS (l.take l.length) x=true↔x∈l:=by
 rw [contains_iff l l.length (Nat.le_refl _) x,List.mem_iff_getElem]
theorem ZP {l:List aj} {x:aj} (h:x∉l):Lib.containsS (l.take l.length) x=false:=by
 cases hq:Lib.containsS (l.take l.length) x with
 | true=>exact absurd ((J3 l x).1 hq) h
 | false=>rfl
theorem J4 (s:aF):(own s).length=s.params.length+s.locals.length+1:=by unfold own;simp;omega
theorem ae9 (s:aF):(own s).map Value.string=(s.params.map Value.string++s.locals.map Value.string)++[.string s.name]:=by unfold own;simp
theorem Ch.strs {w:World} {B:Nat} {l:List aj} {v:Value} (h:Ch w B l.length (l.map Value.string) v):∃a c,v=.slice a l.length c∧l.length≤c∧aQ w (fun b=>B≤b) a l:=by
 obtain ⟨a,c,rfl,hw⟩:=h
 rcases hw.cells with ⟨hv,h0⟩|⟨g,o,cap,hv,hB,_,hcap,_,hc⟩
 ·simp only [Value.slice.injEq] at hv
  exact ⟨a,c,rfl,by omega,fun h=>by omega⟩
 ·simp only [Value.slice.injEq] at hv
  obtain ⟨rfl,_,rfl⟩:=hv
  exact ⟨_,_,rfl,hcap,fun _=>⟨g,o,rfl,hB,fun i hi=>(hc i (.string l[i]) (by rw [List.getElem?_map,List.getElem?_eq_getElem hi];rfl)).1⟩⟩
theorem zi (s:aF):(jP s.kind).length=(iW s).length:=by
 unfold jP iW
 by_cases zk:s.kind=2∨s.kind=4
 ·rw [if_pos zk,if_pos zk];rfl
 ·rw [if_neg zk,if_neg zk]
  by_cases h35:s.kind=3∨s.kind=5
  ·rw [if_pos h35,if_pos h35];rfl
  ·rw [if_neg h35,if_neg h35];rfl
theorem acV {w:World} {S:Nat→Prop} {g:Nat} {a:gZ} {s:aF} (hB:bV g a s w) (hz:qM s) (ho:wQ w S a s) (hg:S g) :
  ∀i (h:i<(iW s).length),aX w S g ((jP s.kind)[i]'(by rw [zi];exact h)) (iW s)[i]:=by
 obtain ⟨c0,c1,c2,c3,c4,c5,c6,c7,c8,c9,c10,c11,_⟩:=hB.cells
 have ht:aX w S g 2 s.target:=yO hg hz.target.z c2 c3 c4 c5 c6 ho.target
 have hv:aX w S g 7 s.value:=yO hg hz.value.z c7 c8 c9 c10 c11 ho.value
 unfold jP iW
 by_cases zk:s.kind=2∨s.kind=4
 ·simp only [if_pos zk]
  intro i h
  obtain rfl:i=0:=by simp at h;omega
  exact hv
 ·simp only [if_neg zk]
  by_cases h35:s.kind=3∨s.kind=5
  ·simp only [if_pos h35]
   intro i h
   rcases (show i=0∨i=1 by simp at h;omega) with rfl|rfl
   ·exact ht
   ·exact hv
  ·simp only [if_neg h35]
   intro i h
   simp at h
end Go.Proofs.YtgoijmpahffnhaaGreatDoor
