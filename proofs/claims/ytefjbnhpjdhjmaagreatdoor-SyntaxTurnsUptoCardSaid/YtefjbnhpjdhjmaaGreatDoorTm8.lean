/-  -/
import Derived.Test.YtefjbnhpjdhjmaaGreatDoorTm12
import Derived.Test.YtefjbnhpjdhjmaaGreatDoorTm5
import Derived.Test.YtefjbnhpjdhjmaaGreatDoorPs25
import Derived.Recover
import Derived.RegionTactic
import Derived.BigRegion
import Derived.Test.YtefjbnhpjdhjmaaGreatDoorTm19
namespace Go.Proofs.YtefjbnhpjdhjmaaGreatDoor
set_option linter.all false
open Go.RowKit
structure GS (s:aQ):Prop where
 label:s.label.size=0∨aS s.label=true
 kind:1≤s.kind∧s.kind≤7
 target:s.kind=3∨s.kind=5→GX s.target∧isTarget s.target∧sizeT s.target≤2000
 value:s.kind=2∨s.kind=3∨s.kind=4∨s.kind=5→GX s.value∧sizeT s.value≤2000
 pat:dJ s→bJ s.pat=0∧aB s.pat=s.pat
 name:s.kind=6∨s.kind=7→aS s.name=true
 entry:s.kind=7→aS s.entry=true
 params:s.kind=7→s.params.length≤8∧∀x∈s.params,aS x=true
 locals:s.kind=7→s.locals.length≤8∧∀x∈s.locals,aS x=true
 RZ:¬(s.kind=3∨s.kind=5)→s.target=lQ
 Xt:¬(s.kind=2∨s.kind=3∨s.kind=4∨s.kind=5)→s.value=lQ
 afl:¬dJ s→s.pat=lQ
 aeo:¬(s.kind=6∨s.kind=7)→s.name=E0
 seven:s.kind≠7→s.entry=E0∧s.params=[]∧s.locals=[]
def Free (s:aQ):Prop:=s.always=E0∧s.yes=E0∧s.aW=E0
theorem GS.bare {s:aQ} (h:GS s):dQ s=s:=by
 obtain ⟨a1,a2,a3,a4,a5,a6,a7,a8,a9,a10,a11,a12⟩:=s
 obtain ⟨_,hk,h3,h4,h5,h6,h7,h8,h9,z3,z4,z5,z6,z7⟩:=h
 dsimp only at hk h3 h4 h5 h6 h7 h8 h9 z3 z4 z5 z6 z7
 unfold dQ
 dsimp only
 congr 1
 ·split
  ·exact (h3 ‹_›).1.bare
  ·exact (z3 ‹_›).symm
 ·split
  ·exact (h4 ‹_›).1.bare
  ·exact (z4 ‹_›).symm
 ·split
  ·exact (h5 ‹_›).2
  ·exact (z5 ‹_›).symm
 ·split
  ·rfl
  ·exact (z6 ‹_›).symm
 ·split
  ·rfl
  ·exact (z7 ‹_›).1.symm
 ·split
  ·rfl
  ·exact (z7 ‹_›).2.1.symm
 ·split
  ·rfl
  ·exact (z7 ‹_›).2.2.symm
theorem Xu {en:Nat} {l r:List aC} {p:aA} (h:nN en l=.ok (p,r)):(bJ p=0∧aB p=p)∧∃a,l=a::r:=by
 unfold nN at h
 cases ht:fP 4 en l with
 | error er=>rw [ht] at h;cases h
 | ok y =>
  obtain ⟨t,r'⟩:=y
  rw [ht] at h
  obtain ⟨rfl,hk⟩:=yT ht
  dsimp only at h
  split at h
  ·cases h
  ·rename_i hz
   simp only [Except.ok.injEq,Prod.mk.injEq] at h
   obtain ⟨rfl,rfl⟩:=h
   exact ⟨Ux (Classical.not_not.1 hz),t,rfl⟩
theorem Dh {close:Option aj} {en:Nat}:∀(f:Nat) (ns:List aj) (l:List aC),(∀x∈ns,aS x=true)→ns.length≤8→TG l→∀ys r,namesT close en f ns l=.ok (ys,r)→(∀x∈ys,aS x=true)∧ys.length≤8∧TG r
 | 0,ns,l,hn,h8,hl,ys,r,e=>by
  rw [namesT] at e;simp only [Except.ok.injEq,Prod.mk.injEq] at e;obtain ⟨rfl,rfl⟩:=e;exact ⟨hn,h8,hl⟩
 | f+1,ns,l,hn,h8,hl,ys,r,e=>by
  rw [namesT] at e
  split at e
  ·cases e
  ·cases h1:eF en l with
   | error er=>rw [h1] at e;cases e
   | ok z =>
    obtain ⟨nm,r1⟩:=z
    rw [h1] at e
    obtain ⟨hnm,a,rfl⟩:=uU hl h1
    have hr1:TG r1:=hl.tail
    have hn2:∀x∈ns++[nm],aS x=true:=by
     intro x hx
     rcases List.mem_append.1 hx with hx|hx
     ·exact hn x hx
     ·rw [List.mem_singleton.1 hx];exact hnm
    have h82:(ns++[nm]).length≤8:=by simp;omega
    dsimp only at e
    cases close with
    | some c =>
     dsimp only at e
     split at e
     ·simp only [Except.ok.injEq,Prod.mk.injEq] at e;obtain ⟨rfl,rfl⟩:=e;exact ⟨hn2,h82,hr1.tail⟩
     ·cases h2:eY (bs [44]) en r1 with
      | error er=>rw [h2] at e;cases e
      | ok r2 =>
       rw [h2] at e
       obtain ⟨b,rfl⟩:=sQ h2
       exact Dh f _ r2 hn2 h82 hr1.tail ys r e
    | none =>
     dsimp only at e
     split at e
     ·exact Dh f _ _ hn2 h82 hr1.tail ys r e
     ·simp only [Except.ok.injEq,Prod.mk.injEq] at e;obtain ⟨rfl,rfl⟩:=e;exact ⟨hn2,h82,hr1⟩
def Si (s:aQ):Prop:=∃n,(n.size=0∨aS n=true)∧s={st0 with label:=n}
theorem adI {s:aQ} (h1:s.label.size=0∨aS s.label=true) (hk:s.kind=1) (ht:s.target=lQ) (hv:s.value=lQ) (hp:s.pat=lQ) (hn:s.name=E0) (he:s.entry=E0∧s.params=[]∧s.locals=[]):GS s:=by
 have np:¬dJ s:=by unfold dJ;omega
 exact ⟨h1,by omega,fun h=>by omega,fun h=>by omega,fun h=>absurd h np,fun h=>by omega,fun h=>by omega,fun h=>by omega,fun h=>by omega,fun _=>ht,fun _=>hv,fun _=>hp,fun _=>hn,fun _=>he⟩
theorem Si.gs {s:aQ} (h:Si s):GS s∧Free s:=by
 obtain ⟨n,hn,rfl⟩:=h
 exact ⟨adI hn rfl rfl rfl rfl rfl ⟨rfl,rfl,rfl⟩,rfl,rfl,rfl⟩
section
variable {en:Nat} {l r:List aC}
theorem Xv {s x:aQ} (hs:Si s) (hl:TG l) (e:gG en s l=.ok (x,r)):GS x∧Free x∧TG r:=by
 obtain ⟨n,hn,rfl⟩:=hs
 unfold gG at e
 cases h1:eF en l with
 | error er=>rw [h1] at e;cases e
 | ok z =>
 obtain ⟨nm,r1⟩:=z
 rw [h1] at e
 obtain ⟨hnm,a,rfl⟩:=uU hl h1
 have hr1:TG r1:=hl.tail
 dsimp only at e
 cases h2:eY (bs [40]) en r1 with
 | error er=>rw [h2] at e;cases e
 | ok r2 =>
 rw [h2] at e
 obtain ⟨b,rfl⟩:=sQ h2
 have hr2:TG r2:=hr1.tail
 dsimp only at e
 cases h3:(if aJ (bs [41]) r2=true then (.ok ([],r2.tail):bK (List aj)) else namesT (some (bs [41])) en 9 [] r2) with
 | error er=>rw [h3] at e;cases e
 | ok z =>
 obtain ⟨ps,r3⟩:=z
 rw [h3] at e
 have hps:(∀x∈ps,aS x=true)∧ps.length≤8∧TG r3:=by
  split at h3
  ·simp only [Except.ok.injEq,Prod.mk.injEq] at h3;obtain ⟨rfl,rfl⟩:=h3;exact ⟨by simp,by simp,hr2.tail⟩
  ·exact Dh 9 [] r2 (by simp) (by simp) hr2 ps r3 h3
 dsimp only at e
 cases h4:(if jc r3=true then namesT none en 9 [] r3 else (.ok ([],r3):bK (List aj))) with
 | error er=>rw [h4] at e;cases e
 | ok z =>
 obtain ⟨ls,r4⟩:=z
 rw [h4] at e
 have hls:(∀x∈ls,aS x=true)∧ls.length≤8∧TG r4:=by
  split at h4
  ·exact Dh 9 [] r3 (by simp) (by simp) hps.2.2 ls r4 h4
  ·simp only [Except.ok.injEq,Prod.mk.injEq] at h4;obtain ⟨rfl,rfl⟩:=h4;exact ⟨by simp,by simp,hps.2.2⟩
 dsimp only at e
 cases h5:eF en r4 with
 | error er=>rw [h5] at e;cases e
 | ok z =>
 obtain ⟨en',r5⟩:=z
 rw [h5] at e
 obtain ⟨hen,c,rfl⟩:=uU hls.2.2 h5
 simp only [Except.ok.injEq,Prod.mk.injEq] at e
 obtain ⟨rfl,rfl⟩:=e
 refine ⟨⟨hn,by dsimp only;omega,fun h=>?_,fun h=>?_,fun h=>?_,fun _=>hnm,fun _=>hen,fun _=>⟨hps.2.1,hps.1⟩,fun _=>⟨hls.2.1,hls.1⟩,fun _=>rfl,fun _=>rfl,fun _=>rfl,fun h=>?_,fun h=>?_⟩,⟨rfl,rfl,rfl⟩,hls.2.2.tail⟩
 ·exact absurd h (by dsimp only;decide)
 ·exact absurd h (by dsimp only;decide)
 ·exact absurd h (by unfold dJ;dsimp only;decide)
 ·exact absurd (.inr rfl) h
 ·exact absurd rfl h
theorem abI {s x:aQ} (hs:Si s) (hl:TG l) (e:wo en s l=.ok (x,r)):GS x∧Free x∧TG r:=by
 obtain ⟨n,hn,rfl⟩:=hs
 unfold wo at e
 cases h1:eF en l with
 | error er=>rw [h1] at e;cases e
 | ok z =>
 obtain ⟨nm,r1⟩:=z
 rw [h1] at e
 obtain ⟨hnm,a,rfl⟩:=uU hl h1
 have hr1:TG r1:=hl.tail
 dsimp only at e
 cases h2:eY ql en r1 with
 | error er=>rw [h2] at e;cases e
 | ok r2 =>
 rw [h2] at e
 obtain ⟨b,rfl⟩:=sQ h2
 have hr2:TG r2:=hr1.tail
 dsimp only at e
 cases h3:nN en r2 with
 | error er=>rw [h3] at e;cases e
 | ok z =>
 obtain ⟨p,r3⟩:=z
 rw [h3] at e
 obtain ⟨hp,c,rfl⟩:=Xu h3
 simp only [Except.ok.injEq,Prod.mk.injEq] at e
 obtain ⟨rfl,rfl⟩:=e
 refine ⟨⟨hn,by dsimp only;omega,fun h=>?_,fun h=>?_,fun _=>hp,fun _=>hnm,fun h=>?_,fun h=>?_,fun h=>?_,fun _=>rfl,fun _=>rfl,fun h=>?_,fun h=>?_,fun _=>⟨rfl,rfl,rfl⟩⟩,⟨rfl,rfl,rfl⟩,hr2.tail⟩
 ·exact absurd h (by dsimp only;decide)
 ·exact absurd h (by dsimp only;decide)
 ·exact absurd h (by dsimp only;decide)
 ·exact absurd h (by dsimp only;decide)
 ·exact absurd h (by dsimp only;decide)
 ·exact absurd (.inr (.inr rfl)) h
 ·exact absurd (.inl rfl) h
theorem abJ {s x:aQ} (hs:Si s) (hl:TG l) (Uy:l.length≤2000) (e:yJ en s l=.ok (x,r)):GS x∧Free x∧TG r:=by
 obtain ⟨n,hn,rfl⟩:=hs
 unfold yJ at e
 cases h1:rM en 400 l with
 | error er=>rw [h1] at e;cases e
 | ok z =>
 obtain ⟨v,r1⟩:=z
 rw [h1] at e
 obtain ⟨g1,g2,g3⟩:=RY en 400 l hl v r1 h1
 dsimp only at e
 have given:∀(k k':Int) (p:aA) (r2:List aC),((k=2∧k'=3∧p=lQ)∨(k=4∧k'=5∧bJ p=0∧aB p=p))→TG r2→r2.length≤2000→lK en (fV en l) {st0 with label:=n,kind:=k,value:=v,pat:=p} v k' r2=.ok (x,r)→GS x∧Free x∧TG r:=by
  intro k k' p r2 hk hr2 hlen e
  have hk0:k=2∨k=4:=by omega
  have hk1:k'=3∨k'=5:=by omega
  unfold lK at e
  split at e
  ·split at e
   ·cases e
   ·rename_i hit
    cases h2:rM en 400 r2.tail with
    | error er=>rw [h2] at e;cases e
    | ok z =>
    obtain ⟨u,r3⟩:=z
    rw [h2] at e
    obtain ⟨g4,g5,g6⟩:=RY en 400 _ hr2.tail u r3 h2
    have:=Ic r2
    simp only [Except.ok.injEq,Prod.mk.injEq] at e
    obtain ⟨rfl,rfl⟩:=e
    refine ⟨⟨hn,by dsimp only;omega,fun _=>⟨g1,Classical.not_not.1 hit,by dsimp only;omega⟩,fun _=>⟨g4,by dsimp only;omega⟩,fun h=>?_,fun h=>?_,fun h=>?_,fun h=>?_,fun h=>?_,fun h=>?_,fun h=>?_,fun h=>?_,fun _=>rfl,fun _=>⟨rfl,rfl,rfl⟩⟩,⟨rfl,rfl,rfl⟩,g6⟩
    ·unfold dJ at h;dsimp only at h;rcases hk with q|q
     ·omega
     ·exact q.2.2
    ·exfalso;dsimp only at h;omega
    ·exfalso;dsimp only at h;omega
    ·exfalso;dsimp only at h;omega
    ·exfalso;dsimp only at h;omega
    ·exact absurd hk1 h
    ·exfalso;dsimp only at h;omega
    ·unfold dJ at h;dsimp only at h;rcases hk with q|q
     ·exact q.2.2
     ·omega
  ·simp only [Except.ok.injEq,Prod.mk.injEq] at e
   obtain ⟨rfl,rfl⟩:=e
   refine ⟨⟨hn,by dsimp only;omega,fun h=>?_,fun _=>⟨g1,by dsimp only;omega⟩,fun h=>?_,fun h=>?_,fun h=>?_,fun h=>?_,fun h=>?_,fun _=>rfl,fun h=>?_,fun h=>?_,fun _=>rfl,fun _=>⟨rfl,rfl,rfl⟩⟩,⟨rfl,rfl,rfl⟩,hr2⟩
   ·exfalso;dsimp only at h;omega
   ·unfold dJ at h;dsimp only at h;rcases hk with q|q
    ·omega
    ·exact q.2.2
   ·exfalso;dsimp only at h;omega
   ·exfalso;dsimp only at h;omega
   ·exfalso;dsimp only at h;omega
   ·exfalso;dsimp only at h;omega
   ·exfalso;dsimp only at h;omega
   ·unfold dJ at h;dsimp only at h;rcases hk with q|q
    ·exact q.2.2
    ·omega
 split at e
 ·rename_i hs
  obtain ⟨a,r2,rfl⟩:=sO hs
  cases h3:nN en r2 with
  | error er=>rw [List.tail_cons,h3] at e;cases e
  | ok z =>
  obtain ⟨p,r3⟩:=z
  rw [List.tail_cons,h3] at e
  obtain ⟨hp,c,rfl⟩:=Xu h3
  simp only [List.length_cons] at g2
  exact given 4 5 p r3 (.inr ⟨rfl,rfl,hp⟩) g3.tail.tail (by omega) e
 ·exact given 2 3 lQ r1 (.inl ⟨rfl,rfl,rfl⟩) g3 (by omega) e
structure GJ (s:aQ):Prop where
 gs:GS s
 always:s.always.size=0∨aS s.always=true
 yes:s.yes.size=0∨aS s.yes=true
 aW:s.aW.size=0∨aS s.aW=true
 fit:s.always.size=0∨(s.yes.size=0∧s.aW.size=0)
theorem Di {x:aj} (hl:TG l) (e:fF en l=.ok (x,r)):aS x=true∧TG r:=by
 unfold fF at e
 cases h1:eY (bs [40]) en l with
 | error er=>rw [h1] at e;cases e
 | ok r1 =>
 rw [h1] at e
 obtain ⟨a,rfl⟩:=sQ h1
 dsimp only at e
 cases h2:eF en r1 with
 | error er=>rw [h2] at e;cases e
 | ok z =>
 obtain ⟨nm,r2⟩:=z
 rw [h2] at e
 obtain ⟨hn,b,rfl⟩:=uU hl.tail h2
 dsimp only at e
 cases h3:eY (bs [41]) en r2 with
 | error er=>rw [h3] at e;cases e
 | ok r3 =>
 rw [h3] at e
 obtain ⟨c,rfl⟩:=sQ h3
 simp only [Except.ok.injEq,Prod.mk.injEq] at e
 obtain ⟨rfl,rfl⟩:=e
 exact ⟨hn,hl.tail.tail.tail⟩
theorem GS.jump {s:aQ} (h:GS s) (a y n:aj):GS {s with always:=a,yes:=y,aW:=n}:=⟨h.label,h.kind,h.target,h.value,h.pat,h.name,h.entry,h.params,h.locals,h.RZ,h.Xt,h.afl,h.aeo,h.seven⟩
theorem ZM {s x:aQ} (hs:GS s) (hf:Free s) (hl:TG l) (e:gI en s l=.ok (x,r)):GJ x:=by
 obtain ⟨f1,f2,f3⟩:=hf
 have z:(E0:aj).size=0:=rfl
 unfold gI at e
 split at e
 ·cases h1:fF en l with
  | error er=>rw [h1] at e;cases e
  | ok z =>
  obtain ⟨n,r1⟩:=z
  rw [h1] at e
  obtain ⟨hn,_⟩:=Di hl h1
  simp only [Except.ok.injEq,Prod.mk.injEq] at e
  obtain ⟨rfl,rfl⟩:=e
  exact ⟨hs.jump n s.yes s.aW,.inr hn,.inl (by dsimp only;rw [f2];rfl),.inl (by dsimp only;rw [f3];rfl),.inr ⟨by dsimp only;rw [f2];rfl,by dsimp only;rw [f3];rfl⟩⟩
 ·cases h1:fP 1 en l with
  | error er=>rw [h1] at e;cases e
  | ok z =>
  obtain ⟨t,r0⟩:=z
  rw [h1] at e
  obtain ⟨rfl,_⟩:=yT h1
  have hr0:TG r0:=hl.tail
  dsimp only at e
  split at e
  ·cases h2:fF en r0 with
   | error er=>rw [h2] at e;cases e
   | ok z =>
   obtain ⟨n,r1⟩:=z
   rw [h2] at e
   obtain ⟨hn,hr1⟩:=Di hr0 h2
   dsimp only at e
   split at e
   ·simp only [Except.ok.injEq,Prod.mk.injEq] at e
    obtain ⟨rfl,rfl⟩:=e
    exact ⟨hs.jump s.always n s.aW,.inl (by dsimp only;rw [f1];rfl),.inr hn,.inl (by dsimp only;rw [f3];rfl),.inl (by dsimp only;rw [f1];rfl)⟩
   ·cases h3:fP 1 en r1 with
    | error er=>rw [h3] at e;cases e
    | ok z =>
    obtain ⟨u,r2⟩:=z
    rw [h3] at e
    obtain ⟨rfl,_⟩:=yT h3
    dsimp only at e
    split at e
    ·cases h4:fF en r2 with
     | error er=>rw [h4] at e;cases e
     | ok z =>
     obtain ⟨m,r3⟩:=z
     rw [h4] at e
     obtain ⟨hm,_⟩:=Di hr1.tail h4
     simp only [Except.ok.injEq,Prod.mk.injEq] at e
     obtain ⟨rfl,rfl⟩:=e
     exact ⟨hs.jump s.always n m,.inl (by dsimp only;rw [f1];rfl),.inr hn,.inr hm,.inl (by dsimp only;rw [f1];rfl)⟩
    ·cases e
  ·split at e
   ·cases h2:fF en r0 with
    | error er=>rw [h2] at e;cases e
    | ok z =>
    obtain ⟨n,r1⟩:=z
    rw [h2] at e
    obtain ⟨hn,hr1⟩:=Di hr0 h2
    dsimp only at e
    split at e
    ·simp only [Except.ok.injEq,Prod.mk.injEq] at e
     obtain ⟨rfl,rfl⟩:=e
     exact ⟨hs.jump s.always s.yes n,.inl (by dsimp only;rw [f1];rfl),.inl (by dsimp only;rw [f2];rfl),.inr hn,.inl (by dsimp only;rw [f1];rfl)⟩
    ·cases e
   ·cases e
theorem abK {s x:aQ} (hs:GS s) (hf:Free s) (hl:TG l) (e:tJ en s l=.ok x):GJ x∧jG x.target≤200∧jG x.value≤200:=by
 unfold tJ at e
 cases h1:(if aJ (bs [58]) l=true then gI en s l.tail else (.ok (s,l):bK aQ)) with
 | error er=>rw [h1] at e;cases e
 | ok z =>
 obtain ⟨s2,r⟩:=z
 rw [h1] at e
 dsimp only at e
 split at e
 ·cases e
 split at e
 ·cases e
 ·simp only [Except.ok.injEq] at e
  subst e
  refine ⟨?_,by omega⟩
  split at h1
  ·exact ZM hs hf hl.tail h1
  ·simp only [Except.ok.injEq,Prod.mk.injEq] at h1
   obtain ⟨rfl,rfl⟩:=h1
   obtain ⟨f1,f2,f3⟩:=hf
   exact ⟨hs,.inl (by rw [f1];rfl),.inl (by rw [f2];rfl),.inl (by rw [f3];rfl),.inl (by rw [f1];rfl)⟩
theorem abL {x:aQ} {b:Bool} (hl:TG l) (Uy:l.length≤2000) (e:iI en b l=.ok x):GJ x∧jG x.target≤200∧jG x.value≤200:=by
 have key:∃s1 r1,(Si s1∧TG r1∧r1.length≤2000)∧(match (if r1≠[]∧aJ (bs [58]) r1=false then bodyT en s1 r1 else (.ok (s1,r1):bK aQ)) with | .error er=>(.error er:Except Er aQ) | .ok (s2,r2)=>tJ en s2 r2)=.ok x:=by
  cases b with
  | false =>
   unfold iI at e
   rw [if_neg (by decide)] at e
   exact ⟨st0,l,⟨⟨E0,.inl rfl,rfl⟩,hl,Uy⟩,e⟩
  | true =>
   unfold iI at e
   rw [if_pos rfl] at e
   cases h2:eF en l with
   | error er=>rw [h2] at e;cases e
   | ok z =>
    obtain ⟨nm,r2⟩:=z
    rw [h2] at e
    obtain ⟨hnm,a,rfl⟩:=uU hl h2
    simp only [List.length_cons] at Uy
    exact ⟨_,r2,⟨⟨nm,.inr hnm,rfl⟩,hl.tail,by omega⟩,e⟩
 obtain ⟨s1,r1,hs1,e⟩:=key
 obtain ⟨hs1,hr1,afm⟩:=hs1
 cases h2:(if r1≠[]∧aJ (bs [58]) r1=false then bodyT en s1 r1 else (.ok (s1,r1):bK aQ)) with
 | error er=>rw [h2] at e;cases e
 | ok z =>
 obtain ⟨s2,r2⟩:=z
 rw [h2] at e
 have hs2:GS s2∧Free s2∧TG r2:=by
  split at h2
  ·unfold bodyT at h2
   split at h2
   ·exact Xv hs1 hr1.tail h2
   split at h2
   ·exact abI hs1 hr1 h2
   ·exact abJ hs1 hr1 afm h2
  ·simp only [Except.ok.injEq,Prod.mk.injEq] at h2
   obtain ⟨rfl,rfl⟩:=h2
   exact ⟨hs1.gs.1,hs1.gs.2,hr1⟩
 exact abK hs2.1 hs2.2.1 hs2.2.2 e
end
theorem Dj {x:aj} (h:x.size=0∨aS x=true):nD x=true:=by
 unfold nD;rw [Bool.or_eq_true,decide_eq_true_eq];exact h
theorem vN:∀{l:List aj},(∀x∈l,aS x=true)→aK l=0
 | [],_=>rfl
 | x::r,h=>by rw [aK,if_pos (h x (by simp))];exact vN fun y hy=>h y (by simp [hy])
theorem tV:∀{l:List Int},(∀e∈l,e=0)→gy l=0
 | [],_=>rfl
 | x::r,h=>by rw [gy,if_pos (h x (by simp))];exact tV fun y hy=>h y (by simp [hy])
theorem MC {p:aA} (h:GX p) (hs:sizeT p≤2000) (hd:jG p≤200):bg p=0:=by
 unfold bg
 rw [Kv] at hd
 rw [if_pos ⟨by omega,hd⟩];exact h.node
theorem ZN {s:aQ} (h:GJ s) (hd:jG s.target≤200∧jG s.value≤200):jR s=0:=by
 have g:=h.gs
 have hk:=g.kind
 have tz:s.kind=3∨s.kind=5→bg s.target=0∧(if isTarget s.target then (0:Int) else 8)=0:=fun q=>⟨MC (g.target q).1 (g.target q).2.2 hd.1,by rw [if_pos (g.target q).2.1]⟩
 have vz:s.kind=2∨s.kind=3∨s.kind=4∨s.kind=5→bg s.value=0:=fun q=>MC (g.value q).1 (g.value q).2 hd.2
 unfold jR
 rw [if_neg (Classical.not_not.2 ⟨Dj g.label,Dj h.always,Dj h.yes,Dj h.aW⟩),if_neg (by have:=h.fit;omega)]
 by_cases k1:s.kind=1
 ·rw [if_pos k1]
 rw [if_neg k1]
 by_cases k2:s.kind=2
 ·rw [if_pos k2];exact vz (by omega)
 rw [if_neg k2]
 by_cases k4:s.kind=4
 ·rw [if_pos k4];exact tV (by simp [vz (by omega),(g.pat (.inl k4)).1])
 rw [if_neg k4]
 by_cases k3:s.kind=3
 ·rw [if_pos k3]
  refine tV fun e he=>?_
  simp only [List.mem_cons,List.not_mem_nil,or_false] at he
  rcases he with rfl|rfl|rfl
  ·exact (tz (.inl k3)).1
  ·exact (tz (.inl k3)).2
  ·exact vz (by omega)
 rw [if_neg k3]
 by_cases k5:s.kind=5
 ·rw [if_pos k5]
  refine tV fun e he=>?_
  simp only [List.mem_cons,List.not_mem_nil,or_false] at he
  rcases he with rfl|rfl|rfl|rfl
  ·exact (tz (.inr k5)).1
  ·exact (tz (.inr k5)).2
  ·exact (g.pat (.inr (.inl k5))).1
  ·exact vz (by omega)
 rw [if_neg k5]
 by_cases k6:s.kind=6
 ·rw [if_pos k6]
  refine tV fun e he=>?_
  simp only [List.mem_cons,List.not_mem_nil,or_false] at he
  rcases he with rfl|rfl
  ·exact vN (by simp [g.name (.inl k6)])
  ·exact (g.pat (.inr (.inr k6))).1
 rw [if_neg k6]
 have k7:s.kind=7:=by omega
 rw [if_pos k7]
 refine tV fun e he=>?_
 simp only [List.mem_cons,List.not_mem_nil,or_false] at he
 rcases he with rfl|rfl|rfl|rfl|rfl
 ·exact vN (by simp [g.name (.inr k7)])
 ·exact vN (g.params k7).2
 ·exact vN (g.locals k7).2
 ·exact vN (by simp [g.entry k7])
 ·rw [if_neg];have:=(g.params k7).1;have:=(g.locals k7).1;omega
theorem PY:tH lQ:=by intro x hx;unfold lQ at hx;rw [allT,allL,List.mem_singleton] at hx;rw [hx];show (0:Int)≤_;decide
theorem Uz {t:aj} {s:aQ} (h:mZ t=.ok (some s)):jR s=0∧dQ s=s∧H9 s:=by
 unfold mZ at h
 split at h
 ·cases h
 ·cases hl:mV t with
  | error er=>rw [hl] at h;cases h
  | ok l =>
  rw [hl] at h
  dsimp only at h
  have hg:TG l∧l.length≤2000:=by
   unfold mV at hl
   split at hl
   ·cases hl
   ·exact Ib (by omega) _ 0 [] l (by simp) (by simp) (by omega) hl
  cases hs:iI t.size (decide (t.size≠0∧peek t 0≠32∧peek t 0≠58)) l with
  | error er=>rw [hs] at h;cases h
  | ok x =>
  rw [hs] at h
  simp only [Except.ok.injEq,Option.some.injEq] at h
  subst h
  obtain ⟨g,hd⟩:=abL hg.1 hg.2 hs
  refine ⟨ZN g hd,g.gs.bare,⟨?_,?_⟩⟩
  ·by_cases hk:x.kind=3∨x.kind=5
   ·exact (g.gs.target hk).1.num
   ·rw [g.gs.RZ hk];exact PY
  ·by_cases hk:x.kind=2∨x.kind=3∨x.kind=4∨x.kind=5
   ·exact (g.gs.value hk).1.num
   ·rw [g.gs.Xt hk];exact PY
theorem Xw {s:aQ} (h:jR s=0):(fD s).2=0∨(fD s).2=2∨(fD s).2=4:=by
 unfold fD
 rw [if_neg (by omega)]
 split
 ·rename_i hp
  have:=(RS h).pat hp.1
  exact .inr (.inr (UA this hp.2))
 split
 ·exact .inr (.inl rfl)
 split
 ·exact .inr (.inr rfl)
 ·exact .inl rfl
end Go.Proofs.YtefjbnhpjdhjmaaGreatDoor

namespace Go.Proofs.YtefjbnhpjdhjmaaGreatDoor
set_option linter.all false
open Go.RowKit
def rG (s:aj) {α:Type} (f:Nat→Except Er α):Prop:=∀i er,i≤s.size→f i=.error er→er.2≤s.size
theorem rW {c:Nat} {s:aj} {i:Nat} {er:Er} (hi:i≤s.size) (h:dh c s i=.error er):er.2≤s.size:=by
 unfold dh at h
 split at h
 ·cases h
 ·simp only [Except.error.injEq] at h;subst h;exact dB hi
theorem Nr {s:aj} {i:Nat} {er:Er} (hi:i≤s.size) (h:gK s i=.error er):er.2≤s.size:=by
 unfold gK at h
 split at h
 ·cases h
 ·simp only [Except.error.injEq] at h;subst h;exact dB hi
theorem GI {s:aj} {i:Nat} {er:Er} (hi:i≤s.size) (h:nameP s i=.error er):er.2≤s.size:=by
 unfold nameP at h
 split at h
 ·next e he=>simp only [Except.error.injEq] at h;subst h;exact Nr hi he
 ·next x a k hw =>
  split at h
  ·simp only [Except.error.injEq] at h;subst h;exact (jH hi hw).2.2.2.1
  ·cases h
theorem Ns {s:aj} {i:Nat} {er:Er} (hi:i≤s.size) (h:iL s i=.error er):er.2≤s.size:=by
 unfold iL at h
 split at h
 ·next e he=>simp only [Except.error.injEq] at h;subst h;exact rW hi he
 ·next k hk =>
  cases ht:fM (s.data.toList.drop k) with
  | none=>rw [ht] at h;simp only [mX,Except.error.injEq] at h;subst h;exact Nat.le_refl _
  | some x=>obtain ⟨b,n⟩:=x;rw [ht] at h;cases h
theorem ab7 {s:aj} {k:Nat} (h:DT s k=true):k<s.size:=by
 unfold DT at h
 simp only [Bool.and_eq_true,decide_eq_true_eq] at h
 by_cases hk:k<s.size
 ·exact hk
 ·have:peek s k = -1:=by unfold peek;rw [dif_neg hk]
  omega
theorem KI {s:aj} {j:Nat} (hj:j≤s.size):∀(f k n:Nat) {er:Er},k≤s.size→nH s j f k n=.error er→er.2≤s.size
 | 0,k,n,er,_,h=>by cases h
 | f+1,k,n,er,hk,h=>by
  rw [nH] at h
  split at h
  ·next hd =>
   have:=ab7 hd
   split at h
   ·simp only [Except.error.injEq] at h;subst h;exact hk
   ·split at h
    ·simp only [Except.error.injEq] at h;subst h;exact hj
    ·exact KI hj f _ _ (by omega) h
  ·cases h
theorem aa0 {s:aj} {i:Nat} {er:Er} (hi:i≤s.size) (h:lW s i=.error er):er.2≤s.size:=by
 unfold lW at h
 split at h
 ·exact KI (dB hi) _ _ _ (dB hi) h
 ·simp only [Except.error.injEq] at h;subst h;exact dB hi
theorem Yl {s:aj} {inner:Nat→bT aA} (hf:dU s inner) (hb:rG s inner) {a k:Nat} {kd:Int} {er:Er} (ha:a≤s.size) (hk:k≤s.size) (h:kT inner s a k kd=.error er):er.2≤s.size:=by
 unfold kT at h
 split at h
 ·simp only [Except.error.injEq] at h;subst h;exact ha
 ·split at h
  ·unfold dD at h
   split at h
   ·next e he=>simp only [Except.error.injEq] at h;subst h;exact rW hk he
   ·next k1 hk1 =>
    have h1:=gX hk1
    split at h
    ·next e he=>simp only [Except.error.injEq] at h;subst h;exact Ns h1.2.1 he
    ·next t b k2 ht =>
     have h2:=mg ht
     split at h
     ·simp only [Except.error.injEq] at h;subst h;exact Nat.le_of_lt h2.2.2.2
     ·split at h
      ·next e he=>simp only [Except.error.injEq] at h;subst h;exact rW h2.2.1 he
      ·cases h
  ·split at h
   ·unfold fO at h
    split at h
    ·next e he=>simp only [Except.error.injEq] at h;subst h;exact rW hk he
    ·next k1 hk1 =>
     have h1:=gX hk1
     split at h
     ·next e he=>simp only [Except.error.injEq] at h;subst h;exact aa0 h1.2.1 he
     ·next n k2 ht =>
      have h2:=xJ h1.2.1 ht
      split at h
      ·next e he=>simp only [Except.error.injEq] at h;subst h;exact rW h2.2.1 he
      ·cases h
   ·split at h
    ·unfold nT at h
     split at h
     ·next e he=>simp only [Except.error.injEq] at h;subst h;exact rW hk he
     ·next k1 hk1 =>
      have h1:=gX hk1
      split at h
      ·next e he=>simp only [Except.error.injEq] at h;subst h;exact hb _ _ h1.2.1 he
      ·next p k2 ht =>
       have h2:=hf _ _ _ h1.2.1 ht
       split at h
       ·next e he=>simp only [Except.error.injEq] at h;subst h;exact rW h2.2 he
       ·cases h
    ·cases h
theorem Vj {s:aj} {j:Nat} {kd:Int} {er:Er} (hj:j≤s.size) (h:uX s j kd=.error er):er.2≤s.size:=by
 unfold uX at h
 split at h
 ·next e he=>simp only [Except.error.injEq] at h;subst h;exact GI hj he
 ·cases h
theorem QX {s:aj} {i:Nat} (h:0≤peek s i):i<s.size:=by
 by_cases hk:i<s.size
 ·exact hk
 ·have:peek s i = -1:=by unfold peek;rw [dif_neg hk]
  omega
theorem Qr {s:aj} {inner:Nat→bT aA} (hf:dU s inner) (hb:rG s inner):rG s (aH inner s):=by
 intro i er hi h
 have h1:=dB hi
 unfold aH at h
 split at h
 ·unfold AU at h
  split at h
  ·next e he=>simp only [Except.error.injEq] at h;subst h;exact Ns h1 he
  ·cases h
 ·split at h
  ·next hp=>have:=QX (s:=s) (i:=skip s i) (by omega);exact Vj (by omega) h
  ·split at h
   ·next hp=>have:=QX (s:=s) (i:=skip s i) (by omega);exact Vj (by omega) h
   ·unfold nJ at h
    split at h
    ·next e he=>simp only [Except.error.injEq] at h;subst h;exact Nr h1 he
    ·next x a k hw =>
     have h2:=jH h1 hw
     exact Yl hf hb h2.2.2.2.1 h2.2.1 h
theorem DU {s:aj}:∀(f:Nat) (p:aA) (k:Nat) {er:Er},k≤s.size→iK s f p k=.error er→er.2≤s.size
 | 0,p,k,er,_,h=>by cases h
 | f+1,p,k,er,hk,h=>by
  rw [iK] at h
  have h1:=(kY (c:=46) hk).1
  have h2:=(kY (c:=36) h1).1
  split at h
  ·split at h
   ·next e he=>simp only [Except.error.injEq] at h;subst h;exact GI h1 he
   ·next nm k1 hn=>exact DU f _ _ (qo h1 hn).2 h
  ·split at h
   ·split at h
    ·next e he=>simp only [Except.error.injEq] at h;subst h;exact GI h2 he
    ·next nm k1 hn=>exact DU f _ _ (qo h2 hn).2 h
   ·cases h
theorem Ym {s:aj} {inner:Nat→bT aA} (hf:dU s inner) (hb:rG s inner):rG s (jL inner s):=by
 intro i er hi h
 have h1:=(kY (c:=40) hi).1
 unfold jL at h
 split at h
 ·split at h
  ·next e he=>simp only [Except.error.injEq] at h;subst h;exact hb _ _ h1 he
  ·next p k hp =>
   have h2:=hf _ _ _ h1 hp
   split at h
   ·next e he=>simp only [Except.error.injEq] at h;subst h;exact rW h2.2 he
   ·cases h
 ·exact Qr hf hb _ _ h1 h
theorem Nu {s:aj} {inner:Nat→bT aA} (hf:dU s inner) (hb:rG s inner):rG s (iE inner s):=by
 intro i er hi h
 unfold iE at h
 split at h
 ·next e he=>simp only [Except.error.injEq] at h;subst h;exact Ym hf hb _ _ hi he
 ·next p k hp=>exact DU _ _ _ (GK hf hi hp).2 h
theorem KJ {s:aj} {inner:Nat→bT aA} (hf:dU s inner) (hb:rG s inner):∀(f:Nat) (l:List aA) (k:Nat) {er:Er},k≤s.size→lX inner s f l k=.error er→er.2≤s.size
 | 0,l,k,er,_,h=>by cases h
 | f+1,l,k,er,hk,h=>by
  rw [lX] at h
  split at h
  ·split at h
   ·next e he=>simp only [Except.error.injEq] at h;subst h;exact Nu hf hb _ _ (dB hk) he
   ·next p k1 hp=>exact KJ hf hb f _ _ (qN hf _ _ _ (dB hk) hp).2 h
  ·cases h
theorem QY {s:aj} {inner:Nat→bT aA} (hf:dU s inner) (hb:rG s inner):rG s (jl inner s):=by
 intro i er hi h
 unfold jl at h
 split at h
 ·next e he=>simp only [Except.error.injEq] at h;subst h;exact Nu hf hb _ _ hi he
 ·next p k hp=>exact KJ hf hb _ _ _ (qN hf _ _ _ hi hp).2 h
theorem KO {s:aj} {inner:Nat→bT aA} (hf:dU s inner) (hb:rG s inner):∀(f:Nat) (l:List aA) (k:Nat) {er:Er},k≤s.size→lY inner s f l k=.error er→er.2≤s.size
 | 0,l,k,er,_,h=>by cases h
 | f+1,l,k,er,hk,h=>by
  rw [lY] at h
  have h1:=(kY (c:=124) hk).1
  split at h
  ·split at h
   ·next e he=>simp only [Except.error.injEq] at h;subst h;exact QY hf hb _ _ h1 he
   ·next p k1 hp=>exact KO hf hb f _ _ (tq hf _ _ _ h1 hp).2 h
  ·cases h
theorem QZ {s:aj} {inner:Nat→bT aA} (hf:dU s inner) (hb:rG s inner):rG s (ku inner s):=by
 intro i er hi h
 unfold ku at h
 split at h
 ·next e he=>simp only [Except.error.injEq] at h;subst h;exact QY hf hb _ _ hi he
 ·next p k hp=>exact KO hf hb _ _ _ (tq hf _ _ _ hi hp).2 h
theorem KQ (s:aj):∀m,rG s (dX s m)
 | 0=>fun i er hi h=>by simp only [dX,Except.error.injEq] at h;subst h;exact hi
 | m+1=>fun i er hi h=>QZ (mG s m) (KQ s m) i er hi h
theorem SE (s:aj):(jM s).2.2≤s.size:=by
 unfold jM
 cases h:kE s with
 | ok p=>exact Nat.zero_le _
 | error er =>
  show er.2≤s.size
  unfold kE at h
  split at h
  ·simp only [Except.error.injEq] at h;subst h;exact Nat.zero_le _
  ·split at h
   ·next e he=>simp only [Except.error.injEq] at h;subst h;exact QZ (mG s 200) (KQ s 200) _ _ (Nat.zero_le _) he
   ·next p k hp =>
    have h2:=JQ (mG s 200) _ _ _ (Nat.zero_le _) hp
    split at h
    ·simp only [Except.error.injEq] at h;subst h;exact dB h2.2
    ·split at h
     ·cases h
     ·simp only [Except.error.injEq] at h;subst h;exact Nat.zero_le _
end Go.Proofs.YtefjbnhpjdhjmaaGreatDoor

namespace Go.Proofs.YtefjbnhpjdhjmaaGreatDoor
set_option linter.all false
open Go.RowKit
theorem LH {f:UInt8→Bool} {c:UInt8}:∀{l:List UInt8},c∈l.takeWhile f→f c=true
 | [],h=>by cases h
 | x::r,h=>by
  rw [List.takeWhile_cons] at h
  split at h
  ·rcases List.mem_cons.1 h with rfl|h
   ·assumption
   ·exact LH h
  ·cases h
theorem TD {s:aj} {i:Nat}:∀c∈(s.extract i (bQ dS s i)).data.toList,48≤c.toNat∧c.toNat≤57:=by
 intro c hc
 have e:(s.extract i (bQ dS s i)).data.toList=(s.data.toList.drop i).takeWhile dS:=by
  unfold bQ
  rw [zF]
  exact (List.prefix_iff_eq_take.1 (List.takeWhile_prefix _)).symm
 rw [e] at hc
 have:=LH hc
 rw [LK] at this
 simpa using this
theorem Gh {s:aj} {i k:Nat} (h:i<k) (hk:k≤s.size):(s.extract i k).size≠0:=by
 rw [ByteArray.size_extract];omega
theorem Ox {s:aj} (hs:s.size≤2000) {i:Nat} {h:i<s.size} {t:aC} {k:Nat} (e:dI s i h=.tok t k):t.at_≤1000000∧t.text.size≤1000000∧(jM t.text).2.2≤1000000∧(t.kind=2→t.text.size≠0∧∀c∈t.text.data.toList,48≤c.toNat∧c.toNat≤57)∧(t.kind=1→t.text.size≠0):=by
 obtain ⟨h1,h2,h3,h4⟩:=nO e
 refine ⟨by omega,by omega,by have:=SE t.text;omega,?_,?_⟩
 all_goals
  intro hk
  unfold dI at e
  split at e
  ·cases e
  split at e
  ·simp only [mY.tok.injEq] at e
   obtain ⟨rfl,rfl⟩:=e
   first|(simp at hk;done)|exact Gh h1 h2
  split at e
  ·simp only [mY.tok.injEq] at e
   obtain ⟨rfl,rfl⟩:=e
   first|(simp at hk;done)|exact ⟨Gh h1 h2,TD⟩
  split at e
  ·split at e
   ·cases e
   ·simp only [mY.tok.injEq] at e;obtain ⟨rfl,rfl⟩:=e;simp at hk
  split at e
  ·split at e
   ·cases e
   ·simp only [mY.tok.injEq] at e;obtain ⟨rfl,rfl⟩:=e;simp at hk
  split at e
  ·simp only [mY.tok.injEq] at e;obtain ⟨rfl,rfl⟩:=e;simp at hk
  split at e
  ·simp only [mY.tok.injEq] at e;obtain ⟨rfl,rfl⟩:=e;simp at hk
  ·cases e
theorem CO {s:aj} (hs:s.size≤2000):∀(f i:Nat) (out l:List aC),nZ s f i out=.ok l→rE out→out.length≤i→i≤s.size→rE l∧l.length≤s.size
 | 0,i,out,l,h,hb,hl,hi=>by
  simp only [nZ,Except.ok.injEq] at h;subst h;exact ⟨hb,by omega⟩
 | f+1,i,out,l,h,hb,hl,hi=>by
  rw [nZ] at h
  split at h
  ·next hi2 =>
   split at h
   ·exact CO hs f _ _ _ h hb (by omega) (by omega)
   ·next t k e =>
    obtain ⟨h1,h2,_,_⟩:=nO e
    refine CO hs f _ _ _ h ?_ (by simp;omega) h2
    intro u hu
    rcases List.mem_append.1 hu with hu|hu
    ·exact hb u hu
    ·rw [List.mem_singleton.1 hu];exact Ox hs e
   ·cases h
  ·simp only [Except.ok.injEq] at h;subst h;exact ⟨hb,by omega⟩
theorem Es {s:aj} {l:List aC} (h:mV s=.ok l):rE l∧l.length≤2000∧s.size≤2000:=by
 unfold mV wZ at h
 split at h
 ·cases h
 ·obtain ⟨a,b⟩:=CO (by omega) _ _ _ _ h (fun u hu=>by cases hu) (Nat.zero_le _) (Nat.zero_le _)
  exact ⟨a,by omega,by omega⟩
end Go.Proofs.YtefjbnhpjdhjmaaGreatDoor

namespace Go.Proofs.YtefjbnhpjdhjmaaGreatDoor
set_option linter.all false
open Go.RowKit
def IZ (er:Er):Value:=.agg #[.int .i64 er.1,.int .i64 er.2]
def Fv (s:aj) (w:World) (e:Ending) (w':World):Prop :=
 Kept aF w w'∧match mZ s with
  | .ok none=>e=.returned (.tuple #[bV nilA dW,.bool false,IZ (0,0)])
  | .ok (some st)=>∃a S,e=.returned (.tuple #[bV a st,.bool true,IZ (0,0)])∧oP st∧uO w' S a st∧∀b,S b→w.heap.size≤b∧b<w'.heap.size
  | .error er=>e=.returned (.tuple #[bV nilA dW,.bool false,IZ er])
structure jo (A B C:Nat) (a:iM) (s:aQ) (v c0 c1:Value) (w:World):Prop where
 st:dP A a s w
 bo:gV w B 4 v
 fl:Two C c0 c1 w
theorem jo.kept {A B C:Nat} {a:iM} {s:aQ} {v c0 c1:Value} {w w2:World} {X:Nat→Prop} (h:jo A B C a s v c0 c1 w) (hk:Kept X w w2) (hx:¬X A∧¬X B∧¬X C):jo A B C a s v c0 c1 w2 :=
 ⟨h.st.kept hk hx.1,by unfold gV;rw [hk.block B h.bo.lt hx.2.1];exact h.bo,h.fl.kept hk hx.2.2⟩
theorem jo.drew {A B C:Nat} {a:iM} {s:aQ} {v c0 c1:Value} {w:World} (h:jo A B C a s v c0 c1 w):jo A B C a s v c0 c1 w.drew:=h.kept (Kept.refl aF w).drew ⟨fun h=>h,fun h=>h,fun h=>h⟩
theorem jo.setB {A B C:Nat} {a:iM} {s:aQ} {v c0 c1:Value} {w:World} (h:jo A B C a s v c0 c1 w) (hne:A≠B∧A≠C∧B≠C) (v2:Value):jo A B C a s v2 c0 c1 (w.setCell ⟨B,0,none⟩ v2):=by
 have k:Kept (· = B) w (w.setCell ⟨B,0,none⟩ v2):=(Kept.refl (· = B) w).setCell (p:=⟨B,0,none⟩) (.inl rfl) _
 exact ⟨h.st.kept k hne.1,h.bo.set v2,h.fl.kept k (fun e=>hne.2.2 e.symm)⟩
theorem jo.CP {A B C:Nat} {a:iM} {s:aQ} {v c0 c1:Value} {w:World} (h:jo A B C a s v c0 c1 w) (hne:A≠B∧A≠C∧B≠C) (d0 d1:Value):jo A B C a s v d0 d1 ((w.setCell ⟨C,0,none⟩ d0).setCell ⟨C,1,none⟩ d1):=by
 have k:Kept (· = C) w ((w.setCell ⟨C,0,none⟩ d0).setCell ⟨C,1,none⟩ d1):=((Kept.refl (· = C) w).setCell (p:=⟨C,0,none⟩) (.inl rfl) _).setCell (p:=⟨C,1,none⟩) (.inl rfl) _
 exact ⟨h.st.kept k hne.2.1,by unfold gV;rw [k.block B h.bo.lt hne.2.2];exact h.bo,by have:=h.fl.set2 d0 d1;exact this⟩
theorem jo.Kq {A B C:Nat} {a a2:iM} {s s2:aQ} {v c0 c1:Value} {w w2:World} (h:jo A B C a s v c0 c1 w) (hne:A≠B∧A≠C∧B≠C) (hk:Kept (· = A) w w2) (hB:dP A a2 s2 w2):jo A B C a2 s2 v c0 c1 w2 :=
 ⟨hB,by unfold gV;rw [hk.block B h.bo.lt (fun e=>hne.1 e.symm)];exact h.bo,h.fl.kept hk (fun e=>hne.2.1 e.symm)⟩
def sG (A B C:Nat) (w:World):Prop:=∃a s v c0 c1,jo A B C a s v c0 c1 w
section
variable {A B C:Nat} {w:World}
theorem sG.kept {w2:World} {X:Nat→Prop} (h:sG A B C w) (hk:Kept X w w2) (hx:¬X A∧¬X B∧¬X C):sG A B C w2:=by
 obtain ⟨a,s,v,c0,c1,h⟩:=h;exact ⟨_,_,_,_,_,h.kept hk hx⟩
theorem Oy (h:sG A B C w):sG A B C w.drew:=h.kept (Kept.refl aF w).drew ⟨fun h=>h,fun h=>h,fun h=>h⟩
theorem aaH (hne:A≠B∧A≠C∧B≠C) {v2:Value} (h:sG A B C w):sG A B C (w.setCell ⟨B,0,none⟩ v2):=by
 obtain ⟨a,s,v,c0,c1,h⟩:=h;exact ⟨_,_,_,_,_,h.setB hne v2⟩
theorem VZ (hne:A≠B∧A≠C∧B≠C) {d:Value} (h:sG A B C w):sG A B C (w.setCell ⟨C,0,none⟩ d):=by
 obtain ⟨a,s,v,c0,c1,h⟩:=h
 have k:Kept (· = C) w (w.setCell ⟨C,0,none⟩ d):=(Kept.refl (· = C) w).setCell (p:=⟨C,0,none⟩) (.inl rfl) _
 have hf:=h.fl
 refine ⟨_,_,_,d,c1,h.st.kept k hne.2.1,by unfold gV;rw [k.block B h.bo.lt hne.2.2];exact h.bo,?_⟩
 unfold Two at hf⊢;rw [aN hf _];rfl
theorem V3 (hne:A≠B∧A≠C∧B≠C) {d:Value} (h:sG A B C w):sG A B C (w.setCell ⟨C,1,none⟩ d):=by
 obtain ⟨a,s,v,c0,c1,h⟩:=h
 have k:Kept (· = C) w (w.setCell ⟨C,1,none⟩ d):=(Kept.refl (· = C) w).setCell (p:=⟨C,1,none⟩) (.inl rfl) _
 have hf:=h.fl
 refine ⟨_,_,_,c0,d,h.st.kept k hne.2.1,by unfold gV;rw [k.block B h.bo.lt hne.2.2];exact h.bo,?_⟩
 unfold Two at hf⊢;rw [aN hf _];rfl
theorem Ru {v:Value} (h:sG A B C w):gV (w.setCell ⟨B,0,none⟩ v) B 4 v:=by obtain ⟨a,s,v0,c0,c1,h⟩:=h;exact h.bo.set v
theorem Nc (hne:A≠B∧A≠C∧B≠C) {v d:Value} {i:Nat} (h:gV w B 4 v):gV (w.setCell ⟨C,i,none⟩ d) B 4 v:=by
 have k:Kept (· = C) w (w.setCell ⟨C,i,none⟩ d):=(Kept.refl (· = C) w).setCell (p:=⟨C,i,none⟩) (.inl rfl) _
 unfold gV;rw [k.block B h.lt hne.2.2];exact h
theorem Rw {d0 d1:Value} (h:sG A B C w):Two C d0 d1 ((w.setCell ⟨C,0,none⟩ d0).setCell ⟨C,1,none⟩ d1):=by obtain ⟨a,s,v0,c0,c1,h⟩:=h;have:=h.fl.set2 d0 d1;exact this
theorem aaI (hne:A≠B∧A≠C∧B≠C) {c0 c1 d:Value} (h:Two C c0 c1 w):Two C c0 c1 (w.setCell ⟨B,0,none⟩ d) :=
 h.kept ((Kept.refl (· = B) w).setCell (p:=⟨B,0,none⟩) (.inl rfl) d) (fun e=>hne.2.2 e.symm)
theorem acY (hne:A≠B∧A≠C∧B≠C) {a:iM} {s:aQ} {d:Value} (h:dP A a s w):dP A a s (w.setCell ⟨B,0,none⟩ d) :=
 h.kept ((Kept.refl (· = B) w).setCell (p:=⟨B,0,none⟩) (.inl rfl) d) hne.1
theorem TF (hne:A≠B∧A≠C∧B≠C) {a:iM} {s:aQ} {d:Value} {i:Nat} (h:dP A a s w):dP A a s (w.setCell ⟨C,i,none⟩ d) :=
 h.kept ((Kept.refl (· = C) w).setCell (p:=⟨C,i,none⟩) (.inl rfl) d) hne.2.1
theorem sG.cells (h:sG A B C w):(∃v,w.cell? ⟨B,0,none⟩=some v)∧w.frozen? ⟨B,0,none⟩=false∧(∃v,w.cell? ⟨C,0,none⟩=some v)∧(∃v,w.cell? ⟨C,1,none⟩=some v)∧w.frozen? ⟨C,0,none⟩=false∧w.frozen? ⟨C,1,none⟩=false:=by
 obtain ⟨a,s,v0,c0,c1,h⟩:=h
 obtain ⟨x0,x1,xf⟩:=h.fl.cells
 exact ⟨⟨_,h.bo.cell⟩,h.bo.free,⟨_,x0⟩,⟨_,x1⟩,xf 0,xf 1⟩
def o8 (A B C:Nat) (b:Nat):Prop:=b=A∨b=B∨b=C
theorem Oz {w0:World} {d:Value} (h:Kept (o8 A B C) w0 w):Kept (o8 A B C) w0 (w.setCell ⟨B,0,none⟩ d):=h.setCell (p:=⟨B,0,none⟩) (.inl (.inr (.inl rfl))) _
theorem qy {w0:World} {d:Value} {i:Nat} (h:Kept (o8 A B C) w0 w):Kept (o8 A B C) w0 (w.setCell ⟨C,i,none⟩ d):=h.setCell (p:=⟨C,i,none⟩) (.inl (.inr (.inr rfl))) _
end
theorem qA {f:Func} {tmps:Array Value} (hres:f.results = #[.cell 2 30,.cell 3 4,.cell 4 36]) {A B C:Nat} (h2:tmps.getD 2 undef=.pointer (some ⟨A,0,none⟩)) (h3:tmps.getD 3 undef=.pointer (some ⟨B,0,none⟩)) (h4:tmps.getD 4 undef=.pointer (some ⟨C,0,none⟩))
  {a:iM} {s:aQ} {v c0 c1:Value} {w:World} (h:jo A B C a s v c0 c1 w):(results f tmps).run Tryz.prog w=.ok (.tuple #[bV a s,v,.agg #[c0,c1]]) w:=by
 have ht2:tmps[2]?.getD undef=.pointer (some ⟨A,0,none⟩):=by rw [←h2,Array.getD_eq_getD_getElem?]
 have ht3:tmps[3]?.getD undef=.pointer (some ⟨B,0,none⟩):=by rw [←h3,Array.getD_eq_getD_getElem?]
 have ht4:tmps[4]?.getD undef=.pointer (some ⟨C,0,none⟩):=by rw [←h4,Array.getD_eq_getD_getElem?]
 have e1:=LD h.st
 have e2:(loadVar 4 ⟨B,0,none⟩).run Tryz.prog w=.ok v w:=by have:=h.bo.cell;simp [go_sem,this]
 have e3:(loadVar 36 ⟨C,0,none⟩).run Tryz.prog w=.ok (.agg #[c0,c1]) w:=by obtain ⟨x0,x1,_⟩:=h.fl.cells;simp [go_sem,x0,x1]
 simp [results,hres,ht2,ht3,ht4,asAddr,e1,e2,e3,Sem.run_bind,Sem.run_pure,Result.andThen_ok]
end Go.Proofs.YtefjbnhpjdhjmaaGreatDoor

namespace Go.Proofs.YtefjbnhpjdhjmaaGreatDoor
set_option linter.all false
open Go.RowKit
set_option maxRecDepth 100000
set_option maxHeartbeats 4000000
def JT (A B C:Nat) (p3 p4 p5:Bool) (a:iM) (s:aQ) (v c0 c1:Value) (w:World):Prop:=sG A B C w∧(p3=true→dP A a s w)∧(p4=true→gV w B 4 v)∧(p5=true→Two C c0 c1 w)
section
variable {A B C:Nat} {p3 p4 p5:Bool} {a:iM} {s:aQ} {v c0 c1:Value} {w:World}
theorem JT.sB (hne:A≠B∧A≠C∧B≠C) (h:JT A B C p3 p4 p5 a s v c0 c1 w):JT A B C p3 true p5 a s v c0 c1 (w.setCell ⟨B,0,none⟩ v) :=
 ⟨aaH hne h.1,fun e=>acY hne (h.2.1 e),fun _=>Ru h.1,fun e=>aaI hne (h.2.2.2 e)⟩
theorem JT.sF (hne:A≠B∧A≠C∧B≠C) (h:JT A B C p3 p4 p5 a s v c0 c1 w):JT A B C p3 p4 true a s v c0 c1 ((w.setCell ⟨C,0,none⟩ c0).setCell ⟨C,1,none⟩ c1) :=
 ⟨V3 hne (VZ hne h.1),fun e=>TF hne (TF hne (h.2.1 e)),fun e=>Nc hne (Nc hne (h.2.2.1 e)),fun _=>Rw h.1⟩
theorem JT.sS {w2:World} (hne:A≠B∧A≠C∧B≠C) (h:JT A B C p3 p4 p5 a s v c0 c1 w) (hk:Kept (· = A) w w2) (hB:dP A a s w2):JT A B C true p4 p5 a s v c0 c1 w2:=by
 obtain ⟨⟨a0,s0,v0,d0,d1,hT⟩,h3,h4,h5⟩:=h
 refine ⟨⟨_,_,_,_,_,hT.Kq hne hk hB⟩,fun _=>hB,fun e=>?_,fun e=>(h5 e).kept hk (fun e=>hne.2.1 e.symm)⟩
 unfold gV;rw [hk.block B (h4 e).lt (fun e=>hne.1 e.symm)];exact h4 e
theorem JT.start (h:sG A B C w):JT A B C false false false a s v c0 c1 w.drew:=⟨Oy h,fun e=>(by cases e),fun e=>(by cases e),fun e=>(by cases e)⟩
end
theorem ou {x:Act} {o:Oper} {p y:Operand} {A:Nat} {a0:iM} {s0:aQ} {w:World} (ho:o.op=.store 30 p y) (hB0:dP A a0 s0 w) (hp:x.eval p=.pointer (some ⟨A,0,none⟩)) (sa:iM) (s:aQ) (hx:x.eval y=bV sa s) :
  ∃w',(execOp x.eval o).run Tryz.prog w=.ok .skip w'∧dP A sa s w'∧Kept (· = A) w w':=by
 unfold dP at hB0
 obtain ⟨w',hr,hB,hk⟩:=Q9 (sa:=sa) (s:=s) hB0 rfl
 refine ⟨w',?_,hB,hk⟩
 unfold execOp
 rw [ho]
 simp only [hp,hx,Sem.run_bind,hr,Result.andThen_ok,Sem.run_pure]
theorem wE {x:Act} {o:Oper} {p:Operand} {A:Nat} {sa:iM} {s:aQ} {w:World} (ho:o.op=.load 30 p) (hB:dP A sa s w) (hp:x.eval p=.pointer (some ⟨A,0,none⟩)) :
  (execOp x.eval o).run Tryz.prog w=.ok (.value (bV sa s)) w:=by
 unfold execOp
 rw [ho]
 simp only [hp,Sem.run_bind,DY hB.hc0,Result.andThen_ok,Sem.run_pure]
def ac0 (A B C:Nat) (er:Er) (w:World) (e:Ending) (u:FrameMode) (w':World):Prop :=
 e=.returned (.tuple #[])∧u=.panicking [{v:=dV er,recovered:=true}]∧jo A B C nilA dW (.bool false) (.int .i64 er.1) (.int .i64 er.2) w'∧Kept (o8 A B C) w w'
theorem TI (A B C:Nat) (hne:A≠B∧A≠C∧B≠C) (er:Er) (w:World) (hT:sG A B C w) :
  CallsD Tryz.prog 19 #[.pointer (some ⟨A,0,none⟩),.pointer (some ⟨B,0,none⟩),.pointer (some ⟨C,0,none⟩)] (.panicking [{v:=dV er,recovered:=false}]) w (ac0 A B C er w):=by
 have hta:∀(x:Value) (w:World),(Instr.typeAssert (.iface 59 x) 20 59 true).run Tryz.prog w=.ok (.tuple #[x,.bool true]) w:=fun _ _=>by kernel_rfl
 refine callsD_of_wpS Tryz.func19 rfl fun c₀ cs hu=>?_
 obtain ⟨e1,e2⟩:=er
 have HU:=ah hu;have HT:=ah hT
 have hlA:A<w.heap.size∧B<w.heap.size∧C<w.heap.size:=by obtain ⟨a,s,v,c0,c1,h⟩:=hT;exact ⟨h.st.lt,h.bo.lt,h.fl.lt⟩
 apply wpS_seq
 apply wpS_region
 simp [wpOpsS,go_sem,recoverD,hu,Tryz.ntmps19,Exit.thenS]
 clear hT hu
 unfold dV
 dsimp only
 show Code.wpS _ _ _ ⟨#[.pointer (some ⟨A,0,none⟩),.pointer (some ⟨B,0,none⟩),.pointer (some ⟨C,0,none⟩),undef,undef,undef,.iface 59 (.agg #[.int .i64 e1,.int .i64 e2]),undef,undef,undef,undef,undef,undef,undef,undef],[]⟩ _ _
 refine wpS_of_wp ?_
 go_upto_region 7 with fail
 obtain ⟨w6,hw6⟩:∃w6,w6=w.alloc (.cells #[.int .i64 e1,.int .i64 e2] 59):=⟨_,rfl⟩
 have k6:Kept aF w w6:=by rw [hw6];exact (Kept.refl aF w).alloc _
 have T6:=ah (HT.out.kept k6 ⟨fun h=>h,fun h=>h,fun h=>h⟩)
 have X6:w6.heap[w.heap.size]?=some (.cells #[.int .i64 e1,.int .i64 e2] 59 (0,0)):=by rw [hw6];exact ay w _
 obtain ⟨X,hX⟩:∃X,X=w.heap.size:=⟨_,rfl⟩
 rw [←hX] at X6 hlA
 rw [←hw6,←hX]
 have cx0:w6.cell? ⟨X,0,none⟩=some (.int .i64 e1):=by rw [cell_of_row w6 X _ _ _ _ X6];rfl
 have cx1:w6.cell? ⟨X,1,none⟩=some (.int .i64 e2):=by rw [cell_of_row w6 X _ _ _ _ X6];rfl
 have hXl:Hid (X<w6.heap.size∧¬o8 A B C X):=⟨(Array.getElem?_eq_some_iff.1 X6).1,fun h=>by rcases h with h|h|h<;>omega⟩
 have K6:=ah k6
 have CX:=ah (And.intro cx0 cx1)
 clear hw6 k6 hX X6 cx0 cx1
 obtain ⟨Sp,hSp⟩:∃Sp:Nat→Value→World→Prop,Sp=(fun i v wx=>match i with
  | 0=>v=bV nilA dW
  | 1=>v=.pointer (some ⟨X,0,none⟩)
  | 2=>v=.agg #[.int .i64 e1,.int .i64 e2]
  | _=>True):=⟨_,rfl⟩
 obtain ⟨J,hJd⟩:∃J:(Nat→Bool)→(Nat→Value)→World→Prop,J=(fun pp f wx=>JT A B C (pp 3) (pp 4) (pp 5) nilA dW (.bool false) (.int .i64 e1) (.int .i64 e2) wx):=⟨_,rfl⟩
 refine oH (o8 A B C) J Sp [12,13,14] (by kernel_rfl) (by kernel_rfl) (by kernel_rfl) (fun i v w w' h hk=>by subst hSp;exact h) ?_ ?_ ?_ ?_
 ·intro i o hi lq x wy hI hJ hlf haft
  rw [hJd] at hJ
  have hJ:JT A B C (lq 3) (lq 4) (lq 5) nilA dW (.bool false) (.int .i64 e1) (.int .i64 e2) wy:=hJ
  have s0:x.eval (.tmp 0)=.pointer (some ⟨A,0,none⟩):=hI.keep 0 _ rfl (by kernel_rfl)
  have s1:x.eval (.tmp 1)=.pointer (some ⟨B,0,none⟩):=hI.keep 1 _ rfl (by kernel_rfl)
  have s2:x.eval (.tmp 2)=.pointer (some ⟨C,0,none⟩):=hI.keep 2 _ rfl (by kernel_rfl)
  have s4:x.eval (.tmp 4)=.pointer (some ⟨X,0,none⟩):=hI.keep 4 _ rfl (by kernel_rfl)
  obtain ⟨⟨vb,cb⟩,fb,⟨vc,qH⟩,⟨vd,qI⟩,qJ,qK⟩:=hJ.1.cells
  have cx0:=(hI.kept.cell hXl.out.1 hXl.out.2 (o:=0)).trans CX.out.1
  have cx1:=(hI.kept.cell hXl.out.1 hXl.out.2 (o:=1)).trans CX.out.2
  have hjn:∀(l':Nat→Bool),(∀j,l' j=true↔j=i∨lq j=true)→(∀j∈([3,4,5]:List Nat),i≠j)→∀f,J l' f wy:=by
   intro l' hl hne f
   rw [hJd]
   show JT A B C (l' 3) (l' 4) (l' 5) nilA dW (.bool false) (.int .i64 e1) (.int .i64 e2) wy
   rw [upd_ne hl 3 (Ne.symm (hne 3 (by simp)))]
   rw [upd_ne hl 4 (Ne.symm (hne 4 (by simp)))]
   rw [upd_ne hl 5 (Ne.symm (hne 5 (by simp)))]
   exact hJ
  rcases i with _|_|_|_|_|_|i
  all_goals (simp only [List.getElem?_toArray,List.getElem?_cons_zero,List.getElem?_cons_succ,List.getElem?_nil,Option.some.injEq,reduceCtorEq] at hi)
  all_goals subst hi
  ·refine dY rfl ?_
   refine cu (v:=bV nilA dW) ?_ (by subst hSp;exact rfl) (fun l' hl=>hjn l' hl (by decide) _)
   simp only [execOp,resolve,invoke,List.map_toArray,List.map_cons,List.map_nil,List.map_nil];go_simp;try rfl
  ·refine dY rfl ?_
   refine cu (v:=.pointer (some ⟨X,0,none⟩)) ?_ (by subst hSp;exact rfl) (fun l' hl=>hjn l' hl (by decide) _)
   simp only [execOp,resolve,invoke,List.map_toArray,List.map_cons,List.map_nil,s4];go_simp
  ·refine dY rfl ?_
   have d13:x.eval (.tmp 13)=.pointer (some ⟨X,0,none⟩):=by have h_:=hI.dep haft 1 13 rfl rfl rfl;rw [hSp] at h_;exact h_
   refine cu (v:=.agg #[.int .i64 e1,.int .i64 e2]) ?_ (by subst hSp;exact rfl) (fun l' hl=>hjn l' hl (by decide) _)
   simp only [execOp,resolve,invoke,List.map_toArray,List.map_cons,List.map_nil,d13];go_simp
  ·refine dY rfl ?_
   have d12:x.eval (.tmp 12)=bV nilA dW:=by have h_:=hI.dep haft 0 12 rfl rfl rfl;rw [hSp] at h_;exact h_
   obtain ⟨a0,s0_,v0_,c0_,c1_,hT0⟩:=hJ.1
   refine uN (F:=fun w'=>dP A nilA dW w'∧Kept (· = A) wy w') (ou rfl hT0.st s0 nilA dW d12) rfl (fun w' hf=>hf.2.more fun _ h=>.inl h) (fun w' hf l' hl=>?_)
   rw [hJd]
   show JT A B C (l' 3) (l' 4) (l' 5) nilA dW (.bool false) (.int .i64 e1) (.int .i64 e2) w'
   rw [qO hl,upd_ne hl 4 (by decide),upd_ne hl 5 (by decide)]
   exact hJ.sS hne hf.2 hf.1
  ·refine dY rfl ?_
   refine lG (w':=wy.setCell ⟨B,0,none⟩ (.bool false)) ?_ rfl (Oz (Kept.refl _ _)) (fun l' hl=>?_)
   ·simp only [execOp,resolve,invoke,List.map_toArray,List.map_cons,List.map_nil,s1];go_simp
   ·rw [hJd]
    show JT A B C (l' 3) (l' 4) (l' 5) nilA dW (.bool false) (.int .i64 e1) (.int .i64 e2) _
    rw [qO hl,upd_ne hl 3 (by decide),upd_ne hl 5 (by decide)]
    exact hJ.sB hne
  ·refine dY rfl ?_
   have yY:x.eval (.tmp 14)=.agg #[.int .i64 e1,.int .i64 e2]:=by have h_:=hI.dep haft 2 14 rfl rfl rfl;rw [hSp] at h_;exact h_
   refine lG (w':=(wy.setCell ⟨C,0,none⟩ (.int .i64 e1)).setCell ⟨C,1,none⟩ (.int .i64 e2)) ?_ rfl (qy (qy (Kept.refl _ _))) (fun l' hl=>?_)
   ·simp only [execOp,resolve,invoke,List.map_toArray,List.map_cons,List.map_nil,s2,yY];go_simp
   ·rw [hJd]
    show JT A B C (l' 3) (l' 4) (l' 5) nilA dW (.bool false) (.int .i64 e1) (.int .i64 e2) _
    rw [qO hl,upd_ne hl 3 (by decide),upd_ne hl 4 (by decide)]
    exact hJ.sF hne
 ·intro lq hl
  rw [hJd]
  show JT A B C (lq 3) (lq 4) (lq 5) nilA dW (.bool false) (.int .i64 e1) (.int .i64 e2) w6.drew
  rw [hl 3 (by decide)]
  rw [hl 4 (by decide)]
  rw [hl 5 (by decide)]
  exact JT.start T6.out
 ·intro lq l' f wx hl h
  rw [hJd] at h⊢
  have h:JT A B C (lq 3) (lq 4) (lq 5) nilA dW (.bool false) (.int .i64 e1) (.int .i64 e2) wx:=h
  show JT A B C (l' 3) (l' 4) (l' 5) nilA dW (.bool false) (.int .i64 e1) (.int .i64 e2) wx
  rw [←hl 3 (by decide)]
  rw [←hl 4 (by decide)]
  rw [←hl 5 (by decide)]
  exact h
 ·intro f wy hK hS hJ
  rw [hJd] at hJ
  have hJ:JT A B C ((fun _=>true) 3) ((fun _=>true) 4) ((fun _=>true) 5) nilA dW (.bool false) (.int .i64 e1) (.int .i64 e2) wy:=hJ
  have K7:Kept (o8 A B C) w6 wy:=hK
  simp only [kP,List.foldl_cons,List.foldl_nil,List.setIfInBounds_toArray,List.set_cons_zero,List.set_cons_succ]
  go_wp2_with fail
  exact ⟨rfl,_,rfl,.tuple #[],by simp [results,Tryz.results19,go_sem],rfl,rfl,⟨hJ.2.1 rfl,hJ.2.2.1 rfl,hJ.2.2.2 rfl⟩,(K6.out.more (fun _ h=>h.elim)).trans K7⟩
theorem Ja (a b c:Value) (w:World) :
  CallsD Tryz.prog 19 #[a,b,c] .returning w fun e u' w'=>e=.returned (.tuple #[])∧u'=.returning∧w=w':=by
 refine callsD_of_wpS Tryz.func19 rfl fun c₀ cs hu=>?_
 have HU:=ah hu
 apply wpS_seq
 apply wpS_region
 simp [wpOpsS,go_sem,recoverD,hu,Tryz.ntmps19,Exit.thenS]
 clear hu
 show Code.wpS _ _ _ ⟨#[a,b,c,undef,undef,undef,.nilIface,undef,undef,undef,undef,undef,undef,undef,undef],[]⟩ _ _
 refine wpS_of_wp ?_
 go_wp2_with fail
 refine ⟨rfl,.returning,?_,.tuple #[],by simp [results,Tryz.results19,go_sem],rfl,rfl,rfl⟩
 have h:=HU.out
 cases c₀;simp_all
end Go.Proofs.YtefjbnhpjdhjmaaGreatDoor

namespace Go.Proofs.YtefjbnhpjdhjmaaGreatDoor
set_option linter.all false
open Go.RowKit
theorem Qx {s:aj} {i:Nat} {h:i<s.size} {er:Er} (e:dI s i h=.bad er):er.1=2:=by
 unfold dI at e
 repeat' split at e
 all_goals first|(cases e;done)|(simp only [mY.bad.injEq] at e;subst e;rfl)
theorem Et {s:aj}:∀(f i:Nat) (out:List aC) {er:Er},nZ s f i out=.error er→er.1=2
 | 0,_,_,er,h=>by cases h
 | f+1,i,out,er,h=>by
  rw [nZ] at h
  split at h
  ·split at h
   ·exact Et f _ _ h
   ·exact Et f _ _ h
   ·next e=>simp only [Except.error.injEq] at h;subst h;exact Qx e
  ·cases h
theorem G9 {s:aj} {er:Er} (h:mV s=.error er):er.1≠0:=by
 unfold mV at h
 split at h
 ·simp only [Except.error.injEq] at h;subst h;decide
 ·have:=Et _ _ _ h;omega
theorem OA {f:Func} {R:Ending→World→Prop} {w1:World} {tmps:Array Value} {A B C:Nat} {a:iM} {s:aQ} {v c0 c1:Value} (hres:f.results = #[.cell 2 30,.cell 3 4,.cell 4 36]) (h2:tmps.getD 2 undef=.pointer (some ⟨A,0,none⟩)) (h3:tmps.getD 3 undef=.pointer (some ⟨B,0,none⟩)) (h4:tmps.getD 4 undef=.pointer (some ⟨C,0,none⟩))
  (hT:jo A B C a s v c0 c1 w1) (hR:R (.returned (.tuple #[bV a s,v,.agg #[c0,c1]])) w1) :
  bodyPostD Tryz.prog f R .ret ⟨tmps,[{target:=.fn (.func 19) #[.pointer (some ⟨A,0,none⟩),.pointer (some ⟨B,0,none⟩),.pointer (some ⟨C,0,none⟩)],args:=#[]}]⟩ w1:=by
 refine leaves_cons (f:=19) (args:=#[.pointer (some ⟨A,0,none⟩),.pointer (some ⟨B,0,none⟩),.pointer (some ⟨C,0,none⟩)]) (by simp) (by simp [go_sem]) ?_
 refine (Ja _ _ _ w1).mono ?_
 rintro e u' w2 ⟨rfl,rfl,rfl⟩
 exact ⟨_,qA hres h2 h3 h4 hT,hR⟩
theorem Jb {f:Func} {R:Ending→World→Prop} {w1:World} {tmps:Array Value} {A B C:Nat} {er:Er} (hne:A≠B∧A≠C∧B≠C) (hres:f.results = #[.cell 2 30,.cell 3 4,.cell 4 36]) (h2:tmps.getD 2 undef=.pointer (some ⟨A,0,none⟩)) (h3:tmps.getD 3 undef=.pointer (some ⟨B,0,none⟩)) (h4:tmps.getD 4 undef=.pointer (some ⟨C,0,none⟩))
  (hT:sG A B C w1) (hR:∀w2,Kept (o8 A B C) w1 w2→R (.returned (.tuple #[bV nilA dW,.bool false,.agg #[.int .i64 er.1,.int .i64 er.2]])) w2) :
  bodyPostD Tryz.prog f R (.panic [{v:=dV er,recovered:=false}]) ⟨tmps,[{target:=.fn (.func 19) #[.pointer (some ⟨A,0,none⟩),.pointer (some ⟨B,0,none⟩),.pointer (some ⟨C,0,none⟩)],args:=#[]}]⟩ w1:=by
 refine leaves_cons (f:=19) (args:=#[.pointer (some ⟨A,0,none⟩),.pointer (some ⟨B,0,none⟩),.pointer (some ⟨C,0,none⟩)]) (by simp) (by simp [go_sem]) ?_
 refine (TI A B C hne er w1 hT).mono ?_
 rintro e u' w2 ⟨rfl,rfl,T,k⟩
 show Leaves _ _ _ _ [] (settle (.panicking [{v:=dV er,recovered:=true}])) w2
 exact ⟨_,qA hres h2 h3 h4 T,hR w2 k⟩
theorem ru {ops:Array Oper} {o oj:Oper} {x:Act} {j d:Nat} {b:Bool} {p q:Prop} (hg:o.guard=some (j,true)) (ho:ops[j]?=some oj) (hd:oj.dst=some d) (hv:x.eval (.tmp d)=.bool b) (hlt:d<x.tmps.size) (hp:b=true→p) (hq:b=false→q) :
  if Region.wanted o (yielded ops x.tmps)=true then p else q:=by
 have hv':x.tmps[d]?=some (.bool b):=by
  have:x.tmps.getD d undef=.bool b:=hv
  rw [Array.getD_eq_getD_getElem?,Array.getElem?_eq_getElem hlt] at this
  rw [Array.getElem?_eq_getElem hlt]
  exact congrArg some this
 have hw:Region.wanted o (yielded ops x.tmps)=b:=by
  simp only [Region.wanted,hg,yielded,ho,Option.bind_some,hd,hv']
  cases b<;>rfl
 rw [hw]
 cases b with
 | true=>exact hp rfl
 | false=>exact hq rfl
end Go.Proofs.YtefjbnhpjdhjmaaGreatDoor
