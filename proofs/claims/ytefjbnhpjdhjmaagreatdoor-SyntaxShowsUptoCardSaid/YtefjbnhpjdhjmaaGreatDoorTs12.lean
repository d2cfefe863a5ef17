/-  -/
import Derived.Test.YtefjbnhpjdhjmaaGreatDoorBare2
import Derived.Test.YtefjbnhpjdhjmaaGreatDoorBare3
import Derived.Test.YtefjbnhpjdhjmaaGreatDoorBare4
import Derived.Test.YtefjbnhpjdhjmaaGreatDoorTs17
import Derived.Test.YtefjbnhpjdhjmaaGreatDoorTs13
import Derived.Test.YtefjbnhpjdhjmaaGreatDoorTs15
import Derived.Test.YtefjbnhpjdhjmaaGreatDoorTs19
import Derived.Test.YtefjbnhpjdhjmaaGreatDoorTs5
import Derived.Deep.QuietTactic
import Derived.BigQuiet
import Derived.Test.YtefjbnhpjdhjmaaGreatDoorRows
import Derived.Test.YtefjbnhpjdhjmaaGreatDoorBase
import Derived.ProofKit
import Derived.OpenShut
import Derived.JoinedCond
import Derived.ChangeSame
import Derived.Carry
namespace Go.Proofs.YtefjbnhpjdhjmaaGreatDoor
set_option linter.all false
open Go.RowKit
theorem Xw:∀(m:Nat) (p:aA) (v:Value) (S:Nat→Prop) (w:World),sizeT p≤m→gV w S v p→Safe S aC w.heap.size→Calls Tryz.prog 25 #[v] w (lJ p w):=by
 intro m
 induction m with
 | zero=>intro p v S w hm;have:=lW p;omega
 | succ m ih =>
  intro p v S w hm hp hS
  obtain ⟨k,t,n,nm,kids⟩:=p
  obtain ⟨ka,cap,rfl,hz,hk⟩:=hp
  dsimp only [aA.aY,aA.aW,aA.dY,aA.aX,aA.aU] at hz hk⊢
  have hih:Bd S kids:=fun j hj v w hv hs=>ih kids[j] v S w (by have:=ng kids j hj;simp only [sizeT] at hm;omega) hv hs
  by_cases c1:k=1
  ·exact Xz k t n nm kids ka cap S w hk hS hz c1 hih
  by_cases c2:aT k
  ·exact Un k t n nm kids ka cap S w hk hS hz c2 hih
  by_cases c3:bD k
  ·exact XA k t n nm kids ka cap S w hk hS hz c3 hih
  by_cases c4:bn k
  ·exact Uo k t n nm kids ka cap S w hk hS hz c4 hih
  ·exact Ur k t n nm kids ka cap S w hk hS hz ⟨c1,c2,c3,c4⟩ hih
end Go.Proofs.YtefjbnhpjdhjmaaGreatDoor

namespace Go.Proofs.YtefjbnhpjdhjmaaGreatDoor
set_option linter.all false
open Go.RowKit
def dV (s:aN):aN where
 label:=s.label
 kind:=s.kind
 target:=if s.kind=3∨s.kind=5 then bG s.target else rW
 value:=if s.kind=2∨s.kind=3∨s.kind=4∨s.kind=5 then bG s.value else rW
 pat:=if eG s then aB s.pat else rW
 name:=if s.kind=6∨s.kind=7 then s.name else E0
 entry:=if s.kind=7 then s.entry else E0
 params:=if s.kind=7 then s.params else []
 locals:=if s.kind=7 then s.locals else []
 always:=s.always
 yes:=s.yes
 aZ:=s.aZ
theorem rU {x:aj} (h:x.size=0):x=E0:=by
 obtain ⟨a⟩:=x
 have:a = #[]:=Array.eq_empty_of_size_eq_zero h
 rw [this];rfl
structure uD (s:aN):Prop where
 label:s.label.size=0∨bF s.label=true
 always:s.always.size=0∨bF s.always=true
 yes:s.yes.size=0∨bF s.yes=true
 aZ:s.aZ.size=0∨bF s.aZ=true
 fit:s.always.size=0∨(s.yes.size=0∧s.aZ.size=0)
 kind:1≤s.kind∧s.kind≤7
 target:s.kind=3∨s.kind=5→bC s.target=0∧isTarget s.target
 value:s.kind=2∨s.kind=3∨s.kind=4∨s.kind=5→bC s.value=0
 pat:eG s→bW s.pat=0
 name:s.kind=6∨s.kind=7→bF s.name=true
 entry:s.kind=7→bF s.entry=true
 params:s.kind=7→s.params.length≤8∧∀x∈s.params,bF x=true
 locals:s.kind=7→s.locals.length≤8∧∀x∈s.locals,bF x=true
theorem iP {x:aj} (h:nY x=true):x.size=0∨bF x=true:=by
 unfold nY at h;rwa [Bool.or_eq_true,decide_eq_true_eq] at h
theorem tX:∀{l:List aj},aO l=0→∀x∈l,bF x=true
 | [],_,x,hx=>by cases hx
 | y::r,h,x,hx=>by
  rw [aO] at h
  by_cases hy:bF y=true
  ·rw [if_pos hy] at h
   rcases List.mem_cons.1 hx with rfl|hx
   ·exact hy
   ·exact tX h x hx
  ·rw [if_neg hy] at h;cases h
theorem aaZ {s:aN} (h:lC s=0):uD s:=by
 unfold lC at h
 by_cases h1:¬(nY s.label=true∧nY s.always=true∧nY s.yes=true∧nY s.aZ=true)
 ·rw [if_pos h1] at h;cases h
 rw [if_neg h1] at h
 obtain ⟨a1,a2,a3,a4⟩:=Classical.not_not.1 h1
 by_cases h2:s.always.size≠0∧(s.yes.size≠0∨s.aZ.size≠0)
 ·rw [if_pos h2] at h;cases h
 rw [if_neg h2] at h
 have hfit:s.always.size=0∨(s.yes.size=0∧s.aZ.size=0):=by omega
 have tgt:(if isTarget s.target then (0:Int) else 8)=0→isTarget s.target:=by
  intro h;by_cases ht:isTarget s.target
  ·exact ht
  ·rw [if_neg ht] at h;cases h
 by_cases k1:s.kind=1
 ·exact ⟨iP a1,iP a2,iP a3,iP a4,hfit,by omega,by omega,by omega,by unfold eG;omega,by omega,by omega,by omega,by omega⟩
 rw [if_neg k1] at h
 by_cases k2:s.kind=2
 ·rw [if_pos k2] at h
  exact ⟨iP a1,iP a2,iP a3,iP a4,hfit,by omega,by omega,fun _=>h,by unfold eG;omega,by omega,by omega,by omega,by omega⟩
 rw [if_neg k2] at h
 by_cases k4:s.kind=4
 ·rw [if_pos k4] at h
  have hz:=kT h
  exact ⟨iP a1,iP a2,iP a3,iP a4,hfit,by omega,by omega,fun _=>hz _ (by simp),fun _=>hz _ (by simp),by omega,by omega,by omega,by omega⟩
 rw [if_neg k4] at h
 by_cases k3:s.kind=3
 ·rw [if_pos k3] at h
  have hz:=kT h
  exact ⟨iP a1,iP a2,iP a3,iP a4,hfit,by omega,fun _=>⟨hz _ (by simp),tgt (hz _ (by simp))⟩,fun _=>hz _ (by simp),by unfold eG;omega,by omega,by omega,by omega,by omega⟩
 rw [if_neg k3] at h
 by_cases k5:s.kind=5
 ·rw [if_pos k5] at h
  have hz:=kT h
  exact ⟨iP a1,iP a2,iP a3,iP a4,hfit,by omega,fun _=>⟨hz _ (by simp),tgt (hz _ (by simp))⟩,fun _=>hz _ (by simp),fun _=>hz _ (by simp),by omega,by omega,by omega,by omega⟩
 rw [if_neg k5] at h
 by_cases k6:s.kind=6
 ·rw [if_pos k6] at h
  have hz:=kT h
  exact ⟨iP a1,iP a2,iP a3,iP a4,hfit,by omega,by omega,by omega,fun _=>hz _ (by simp),fun _=>tX (hz (aO [s.name]) (by simp)) _ (by simp),by omega,by omega,by omega⟩
 rw [if_neg k6] at h
 by_cases k7:s.kind=7
 ·rw [if_pos k7] at h
  have hz:=kT h
  have h8:¬(8<s.params.length∨8<s.locals.length):=by
   intro hx
   have:=hz (if 8<s.params.length∨8<s.locals.length then 5 else 0) (by simp)
   rw [if_pos hx] at this;cases this
  exact ⟨iP a1,iP a2,iP a3,iP a4,hfit,by omega,by omega,by omega,by unfold eG;omega,fun _=>tX (hz (aO [s.name]) (by simp)) _ (by simp),fun _=>tX (hz (aO [s.entry]) (by simp)) _ (by simp),fun _=>⟨by omega,tX (hz (aO s.params) (by simp))⟩,fun _=>⟨by omega,tX (hz (aO s.locals) (by simp))⟩⟩
 ·rw [if_neg k7] at h;cases h
def Jh:List aj→List Tk
 | []=>[]
 | x::r=>sg 44::(1,x)::Jh r
def uS:List aj→List Tk
 | []=>[]
 | x::r=>(1,x)::Jh r
def EP (s:aN):Tk:=(4,⟨(fQ s.pat).1.toArray⟩)
def tu (s:aN):List Tk :=
 if s.kind=2 then toks s.value 1
 else if s.kind=3 then toks s.target 1++(sg 61::toks s.value 1)
 else if s.kind=4 then toks s.value 1++[sg 63,EP s]
 else if s.kind=5 then toks s.target 1++(sg 63::EP s::sg 61::toks s.value 1)
 else if s.kind=6 then [(1,s.name),(5,rC),EP s]
 else if s.kind=7 then (1,oM)::(1,s.name)::sg 40::(uS s.params++(sg 41::(uS s.locals++[(1,s.entry)])))
 else []
def BL (c:UInt8) (x:aj):List Tk:=[(1,⟨#[c]⟩),sg 40,(1,x),sg 41]
def kG (s:aN):List Tk :=
 if s.always.size≠0 then [sg 58,sg 40,(1,s.always),sg 41]
 else if s.yes.size≠0∨s.aZ.size≠0 then sg 58::((if s.yes.size≠0 then BL 83 s.yes else [])++(if s.aZ.size≠0 then BL 70 s.aZ else []))
 else []
def TN (s:aN):List Tk:=(if s.label.size≠0 then [(1,s.label)] else [])++(tu s++kG s)
theorem kH {f:UInt8→Bool} {c:UInt8} {l:List UInt8} (h:f c=false):l9 f (c::l):=by intro d t e;obtain ⟨rfl,_⟩:=List.cons.inj e;exact h
theorem pW {x:aj} (h:x.size=0∨bF x=true) (h0:x.size≠0):bF x=true:=h.resolve_left h0
theorem Rf (c:UInt8) (hn:bF ⟨#[c]⟩=true) {x:aj} (hx:bF x=true) {l:List UInt8} {ts:List Tk} (hl:fB l ts):fB (([c,40]++(x.data.toList++[41]))++l) (BL c x++ts):=by
 have h1:=mQ hx (l:=41::l) (kH (by decide)) (lF (c:=41) (by decide) hl)
 have h2:=mQ hn (kH (by decide)) (lF (c:=40) (by decide) h1)
 simpa [BL] using h2
theorem Y9 {s:aN} (h:uD s):fB (qW s) (kG s):=by
 unfold qW kG
 by_cases ha:s.always.size≠0
 ·rw [if_pos ha,if_pos ha]
  have h1:=mQ (pW h.always ha) (l:=[41]) (kH (by decide)) (lF (c:=41) (by decide) lex_nil)
  have h2:=jU (Dc (c:=58) (by decide) (fun _=>kH (by decide)) (lF (c:=40) (by decide) h1))
  simpa using h2
 rw [if_neg ha,if_neg ha]
 by_cases hj:s.yes.size≠0∨s.aZ.size≠0
 ·rw [if_pos hj,if_pos hj]
  have hno:fB (if s.aZ.size≠0 then [70,40]++(s.aZ.data.toList++[41]) else []) (if s.aZ.size≠0 then BL 70 s.aZ else []):=by
   by_cases hn:s.aZ.size≠0
   ·rw [if_pos hn,if_pos hn]
    have:=Rf 70 (by decide) (pW h.aZ hn) lex_nil
    simpa using this
   ·rw [if_neg hn,if_neg hn];exact lex_nil
  refine jU (Dc (c:=58) (by decide) (fun _=>?_) ?_)
  ·by_cases hy:s.yes.size≠0
   ·rw [if_pos hy];exact kH (by decide)
   ·rw [if_neg hy,if_pos (hj.resolve_left hy)];exact kH (by decide)
  ·by_cases hy:s.yes.size≠0
   ·rw [if_pos hy,if_pos hy];exact Rf 83 (by decide) (pW h.yes hy) hno
   ·rw [if_neg hy,if_neg hy];exact hno
 ·rw [if_neg hj,if_neg hj];exact lex_nil
theorem OZ (s:aN):kW (qW s):=by
 unfold qW
 by_cases ha:s.always.size≠0
 ·rw [if_pos ha];exact kW.of (.inl rfl)
 rw [if_neg ha]
 by_cases hj:s.yes.size≠0∨s.aZ.size≠0
 ·rw [if_pos hj];exact kW.of (.inl rfl)
 ·rw [if_neg hj];exact kW.nil
theorem O1:∀(l:List aj),(∀x∈l,bF x=true)→∀r ts,l9 iK r→fB r ts→fB (lu false l++r) (Jh l++ts)
 | [],h,r,ts,hw,hl=>by rw [lu,Jh];exact hl
 | x::l,h,r,ts,hw,hl=>by
  have h1:=O1 l (fun y hy=>h y (by simp [hy])) r ts hw hl
  have hf:l9 iK (lu false l++r):=by
   cases l with
   | nil=>rw [lu];exact hw
   | cons y l=>rw [lu];exact kH (by decide)
  have h2:=lF (c:=44) (by decide) (mQ (h x (by simp)) hf h1)
  rw [lu,Jh]
  simpa using h2
theorem LQ (l:List aj) (h:∀x∈l,bF x=true) (r:List UInt8) (ts:List Tk) (hw:l9 iK r) (hl:fB r ts):fB (dA l++r) (uS l++ts):=by
 rw [←Ky]
 cases l with
 | nil=>exact hl
 | cons x l =>
  have h1:=O1 l (fun y hy=>h y (by simp [hy])) r ts hw hl
  have hf:l9 iK (lu false l++r):=by
   cases l with
   | nil=>rw [lu];exact hw
   | cons y l=>rw [lu];exact kH (by decide)
  have h2:=mQ (h x (by simp)) hf h1
  rw [lu,uS]
  simpa using h2
structure ED (s:aN):Prop where
 target:vS s.target
 value:vS s.value
theorem Za {s:aN} (h:uD s) (hn:ED s) (hp:eG s→(fQ s.pat).2=0) {r:List UInt8} {ts:List Tk} (hf:kW r) (hl:fB r ts):fB (jI s (iE s)++r) (tu s++ts):=by
 have hv:s.kind=2∨s.kind=3∨s.kind=4∨s.kind=5→∀r ts,kW r→fB r ts→fB (aP s.value 1++r) (toks s.value 1++ts):=fun hk r ts=>BK s.value 1 (tN (h.value hk) hn.value).1 r ts
 have ht:s.kind=3∨s.kind=5→∀r ts,kW r→fB r ts→fB (aP s.target 1++r) (toks s.target 1++ts):=fun hk r ts=>BK s.target 1 (tN (h.target hk).1 hn.target).1 r ts
 have hpt:eG s→∀r ts,fB r ts→fB (iE s++r) (EP s::ts):=by
  intro hk r ts hl
  have hz:=Ji (hp hk)
  have hs:Scan (fQ s.pat).1:=by rw [hz.2.2];exact EJ s.pat 2 (BR hz.1).1
  have:=aaP hs hl
  unfold iE;rw [if_pos hk]
  simpa [EP] using this
 unfold jI tu
 by_cases k2:s.kind=2
 ·rw [if_pos k2,if_pos k2];exact jU (hv (by omega) r ts hf hl)
 rw [if_neg k2,if_neg k2]
 by_cases k3:s.kind=3
 ·rw [if_pos k3,if_pos k3]
  have h1:=jU (lF (c:=61) (by decide) (jU (hv (by omega) r ts hf hl)))
  have h2:=jU (ht (by omega) _ _ (kW.of (.inl rfl)) h1)
  simpa using h2
 rw [if_neg k3,if_neg k3]
 by_cases k4:s.kind=4
 ·rw [if_pos k4,if_pos k4]
  have h1:=jU (lF (c:=63) (by decide) (jU (hpt (.inl k4) r ts hl)))
  have h2:=jU (hv (by omega) _ _ (kW.of (.inl rfl)) h1)
  simpa using h2
 rw [if_neg k4,if_neg k4]
 by_cases k5:s.kind=5
 ·rw [if_pos k5,if_pos k5]
  have h0:=jU (lF (c:=61) (by decide) (jU (hv (by omega) r ts hf hl)))
  have h1:=jU (lF (c:=63) (by decide) (jU (hpt (.inr (.inl k5)) _ _ h0)))
  have h2:=jU (ht (by omega) _ _ (kW.of (.inl rfl)) h1)
  simpa using h2
 rw [if_neg k5,if_neg k5]
 by_cases k6:s.kind=6
 ·rw [if_pos k6,if_pos k6]
  have h1:=jU (Y3 (jU (hpt (.inr (.inr k6)) r ts hl)))
  have h2:=jU (mQ (h.name (by omega)) (kH (by decide)) h1)
  simpa [rC,bs] using h2
 rw [if_neg k6,if_neg k6]
 by_cases k7:s.kind=7
 ·rw [if_pos k7,if_pos k7]
  have h0:=jU (mQ (h.entry k7) hf.word hl)
  have h1:=LQ s.locals (h.locals k7).2 _ _ (kH (by decide)) h0
  have h2:=LQ s.params (h.params k7).2 _ _ (kH (by decide)) (lF (c:=41) (by decide) h1)
  have h3:=mQ (h.name (by omega)) (kH (by decide)) (lF (c:=40) (by decide) h2)
  have hd:bF oM=true:=by decide
  have h4:=jU (mQ hd (kH (by decide)) (jU h3))
  have e:oM.data.toList=[68,69,70,73,78,69]:=rfl
  rw [e] at h4
  simpa using h4
 ·rw [if_neg k7,if_neg k7];exact hl
theorem WQ (s:aN):l9 iK (jI s (iE s)++qW s):=by
 have hj:=(OZ s).word
 unfold jI
 split
 ·exact kH (by decide)
 split
 ·exact kH (by decide)
 split
 ·exact kH (by decide)
 split
 ·exact kH (by decide)
 split
 ·exact kH (by decide)
 split
 ·exact kH (by decide)
 ·exact hj
theorem Zb {s:aN} (h:uD s) (hn:ED s) (hp:eG s→(fQ s.pat).2=0):fB (lineS s) (TN s):=by
 have h1:=Za h hn hp (OZ s) (Y9 h)
 unfold lineS TN
 by_cases hl:s.label.size≠0
 ·rw [if_pos hl];exact mQ (pW h.label hl) (WQ s) h1
 ·rw [if_neg hl,rU (x:=s.label) (by omega)];exact h1
end Go.Proofs.YtefjbnhpjdhjmaaGreatDoor

namespace Go.Proofs.YtefjbnhpjdhjmaaGreatDoor
set_option linter.all false
open Go.RowKit
theorem vT {l:List aj} (hl:l.length≤8) (hx:∀x∈l,x.size≤16):(dA l).length≤136:=by
 rw [←Ky];have:=Ie true l hx;omega
theorem Nq (l:List aj) (a:Option Addr) (c:Nat) (S:Nat→Prop) (w:World) (h:nD w S a l) (hS:Safe S aC w.heap.size) (hc:l.length≤c) (hl:l.length≤8) (hx:∀x∈l,x.size≤16) :
  Calls Tryz.prog 16 #[.slice a l.length c,.string ⟨#[44]⟩] w (zI (dA l) w):=by
 have hlen:=vT hl hx
 by_cases h0:0<l.length
 ·obtain ⟨b,o,rfl,hb,hcell⟩:=h h0
  refine (Tryz.strings_Join b o c l ⟨#[44]⟩ w (fun j x hj=>?_) (hS b hb).1 (by omega) hc (by show (dA l).length≤_;omega)).mono ?_
  ·obtain ⟨hjl,rfl⟩:=List.getElem?_eq_some_iff.1 hj
   exact hcell j hjl
  ·rintro e w' ⟨rfl,hb⟩
   exact ⟨rfl,Kept.of_below hb⟩
 ·obtain rfl:l=[]:=List.eq_nil_of_length_eq_zero (by omega)
  refine (Tryz.strings_Join_none a c ⟨#[44]⟩ w).mono ?_
  rintro e w' ⟨rfl,rfl⟩
  exact ⟨rfl,Kept.refl _ _⟩
end Go.Proofs.YtefjbnhpjdhjmaaGreatDoor

namespace Go.Proofs.YtefjbnhpjdhjmaaGreatDoor
set_option linter.all false
open Go.RowKit
theorem gV.rY {w w':World} {S:Nat→Prop} {v:Value} {p:aA} (h:gV w S v p) (hk:Kept aC w w') (hS:Safe S aC w.heap.size):gV w' S v p:=by
 obtain ⟨a,c,e,z,k⟩:=h
 exact ⟨a,c,e,z,k.kept hk hS⟩
theorem gV.all {w:World} {S:Nat→Prop} {v:Value} {p:aA} (h:gV w S v p) (hS:Safe S aC w.heap.size):gV w (· < w.heap.size) v p:=by
 obtain ⟨a,c,e,z,k⟩:=h
 exact ⟨a,c,e,z,aI.same (fun _ _=>rfl) (fun b hb=>(hS b hb).1) _ _ k⟩
theorem PI (l:List Int) (j:Nat) (h:j<l.length):fZ (l.drop j)=if l[j]=0 then fZ (l.drop (j+1)) else l[j]:=by
 rw [List.drop_eq_getElem_cons h,fZ]
theorem Qq:(Tryz.prog.info? 32).map (fun i=>(i.zero,i.size,i.bytes))=some (some (.int .i64 0),1,8):=by kernel_rfl
theorem MV {w:World} {g:Nat} {es:List Int} (hg:w.heap[g]?=some (.cells (es.map (Value.int .i64)).toArray 32 (0,0))) :
  Src Tryz.prog 1 70 (.slice (some ⟨g,0,none⟩) es.length es.length) es.length (es.map (Value.int .i64)) w:=by
 have h:=World.news_of_block (fr:=(0,0)) (cs:=(es.map (Value.int .i64)).toArray) hg
 simp only [List.toList_toArray,List.size_toArray,List.length_map] at h
 exact Src.ofSlice _ Tryz.underlying70 _ _ _ _ (by simp) h (by intro u hu;obtain ⟨e,_,rfl⟩:=List.mem_map.1 hu;rfl)
theorem jY {ops:Array Oper} {rest:List Oper} {o:Oper} {a:Act} {Q:Exit→Act→World→Prop} {w w0:World} (hgd:o.guard=none) (s x:Operand)
  (ho:o.op=.call {callee:=.builtin .append,args:=#[s,x],argTypes:=#[70,70]})
  (v:Value) (n:Nat) (xs:List Value) (hs:a.eval s=v) (B:Nat) (hown:bT w B 32 1 v n xs) (es:List Int) (g:Nat) (hx:a.eval x=.slice (some ⟨g,0,none⟩) es.length es.length)
  (hg:w.heap[g]?=some (.cells (es.map (Value.int .i64)).toArray 32 (0,0))) (hn:n+es.length≤1000) (hB:B≤w.heap.size) (K0:Kept aC w0 w) (hB0:w0.heap.size≤B)
  (h:∀a' c' w',bT w' B 32 1 (.slice a' (n+es.length) c') (n+es.length) (xs++es.map (Value.int .i64))→Kept aC w0 w'→w.heap.size≤w'.heap.size→wpList Tryz.prog ops Q rest (a.put o.dst (.slice a' (n+es.length) c')) w') :
  wpList Tryz.prog ops Q (o::rest) a w:=by
 obtain ⟨i0,hi0,hz0,hz1,hz2⟩:=info_parts Qq
 refine jq w hgd s x _ _ ho B 32 i0 (.int .i64 0) 1 8 Tryz.underlying70 hi0 hz0 hz1 hz2 rfl v n xs hs hown _ es.length (es.map (Value.int .i64)) hx (MV hg) (by unfold maxLen;omega) (by omega) hB ?_
 intro a' c' w' hW hgr _
 exact h a' c' w' hW (K0.grown hgr fun k hk=>.inr (by have:=(hown.lt k hk).1;omega)) hgr.size
theorem MW {i:Nat} {o:Oper} {x:Act} {w:World} {R:Nat→Value→World→Prop} {Q:Exit→Act→World→Prop} (s y:Operand)
  (ho:o.op=.call {callee:=.builtin .append,args:=#[s,y],argTypes:=#[70,70]})
  (hs:x.eval s=.slice none 0 0) (es:List Int) (g:Nat) (hx:x.eval y=.slice (some ⟨g,0,none⟩) es.length es.length)
  (hg:w.heap[g]?=some (.cells (es.map (Value.int .i64)).toArray 32 (0,0))) (hn:es.length≤1000) (B:Nat) (hB:B≤w.heap.size)
  (h:∀a' c' w',bT w' B 32 1 (.slice a' es.length c') es.length (es.map (Value.int .i64))→R i (.slice a' es.length c') w') :
  o.wp Tryz.prog x w (fun a' w'=>∃v,a'=x.put o.dst v∧(∀d,o.dst=some d→R i v w')∧Kept aC w w') Q:=by
 obtain ⟨i0,hi0,hz0,hz1,hz2⟩:=info_parts Qq
 refine yu w s y _ _ ho B 32 i0 (.int .i64 0) 1 8 Tryz.underlying70 hi0 hz0 hz1 hz2 rfl (.slice none 0 0) 0 [] hs (bT.nil ..) _ es.length (es.map (Value.int .i64)) hx (MV hg) (by unfold maxLen;omega) (by omega) hB ?_
 intro a' c' w' hW hgr _
 simp only [Nat.zero_add,List.nil_append] at hW⊢
 exact ⟨_,rfl,fun _ _=>h a' c' w' hW,(Kept.refl aC w).grown hgr fun k hk=>by cases hk⟩
end Go.Proofs.YtefjbnhpjdhjmaaGreatDoor

namespace Go.Proofs.YtefjbnhpjdhjmaaGreatDoor
set_option linter.all false
open Go.RowKit
def VZ (k:Int):Prop:=k=21∨k=22∨k=23
instance (k:Int):Decidable (VZ k):=by unfold VZ;exact inferInstance
end Go.Proofs.YtefjbnhpjdhjmaaGreatDoor

namespace Go.Proofs.YtefjbnhpjdhjmaaGreatDoor
set_option linter.all false
open Go.RowKit
set_option maxRecDepth 100000
set_option maxHeartbeats 1000000
def adx (b:Bool) (w:World) (e:Ending) (w':World):Prop:=e=.returned (.bool b)∧∃n,w'=w.drewN n
theorem MF (l1 l2:List aj) (S1 S2:Nat→Prop) (v1 v2:Value) (w:World) (h1:ZA w S1 v1 l1) (h2:ZA w S2 v2 l2) (hl1:l1.length<1000000000) (hl2:l2.length<1000000000) :
  Calls Tryz.prog 23 #[v1,v2] w (adx (decide (l1=l2)) w):=by
 obtain ⟨a1,d1,rfl,c1⟩:=h1
 obtain ⟨a2,d2,rfl,c2⟩:=h2
 have C1:=ah c1;have C2:=ah c2;clear c1 c2
 by_cases hl:l1.length=l2.length
 ·have hne:((l1.length:Int) != (l2.length:Int))=false:=by simp;omega
  have ha:l1.length≤l2.length:=by omega
  have hz:l2.length≤l1.length:=by omega
  clear hl
  go_enter Tryz.func23, Tryz.ntmps23
  go_wp2_with fail
  go_loopw [13] (fun i wr=>∃j n:Nat,j≤l1.length∧i=.int .i64 j∧wr=w.drewN n∧Hid (∀x,x<j→l1[x]?=l2[x]?)) (fun i _=>l1.length-(intOf i).toNat)
  case atStart=>exact ⟨0,0,Nat.zero_le _,rfl,rfl,by intro x hx;omega⟩
  case round =>
   obtain ⟨j,n,hj,rfl,rfl,hok⟩:=hrel
   by_cases hlt:j<l1.length
   ·obtain ⟨b1,o1,rfl,_,e1⟩:=C1.out (by omega)
    obtain ⟨b2,o2,rfl,_,e2⟩:=C2.out (by omega)
    have q1:=e1 j hlt
    have q2:=e2 j (by omega)
    have hlt2:j<l2.length:=by omega
    clear e1 e2
    have bi1:(j:Int)<(l1.length:Int):=by omega
    have bi2:(j:Int)<(l2.length:Int):=by omega
    by_cases he:l1[j]=l2[j]
    ·have hb:=VD he
     have step:Hid (∀x,x<j+1→l1[x]?=l2[x]?):=by
      intro x hx
      rcases Nat.lt_or_ge x j with h|h
      ·exact hok.out x h
      ·obtain rfl:x=j:=by omega
       rw [List.getElem?_eq_getElem hlt,List.getElem?_eq_getElem hlt2,he]
     clear he
     go_wp2_with fail
     go_quiet (fail)
     go_wp2_with fail
     go_roundw
     case rel=>exact ⟨j+1,n+nq,by omega,by go_num,rfl,step⟩
     case measure=>simp [intOf];omega
    ·have hb:=Sl he
     have fin:Hid (decide (l1=l2)=false):=au (by intro e;subst e;exact he rfl)
     clear he
     go_wp2_with fail
     go_quiet (fail)
     go_wp2_with fail
     go_ret
     exact ⟨zD fin.out.symm,_,by first|rfl|exact World.drewN_drewN _ _ _⟩
   ·have fin:Hid (decide (l1=l2)=true):=ak (List.ext_getElem? fun i=>by
     rcases Nat.lt_or_ge i j with h|h
     ·exact hok.out i h
     ·rw [List.getElem?_eq_none (by omega),List.getElem?_eq_none (by omega)])
    have hge:l1.length≤j:=by omega
    go_wp2_with fail
    go_ret
    exact ⟨zD fin.out.symm,_,by first|rfl|exact World.drewN_drewN _ _ _⟩
 ·have hne:((l1.length:Int) != (l2.length:Int))=true:=by simp;omega
  have fin:Hid (decide (l1=l2)=false):=au (by intro e;exact hl (congrArg _ e))
  clear hl
  go_enter Tryz.func23, Tryz.ntmps23
  go_wp2_with fail
  go_ret
  exact ⟨zD fin.out.symm,0,rfl⟩
end Go.Proofs.YtefjbnhpjdhjmaaGreatDoor

namespace Go.Proofs.YtefjbnhpjdhjmaaGreatDoor
set_option linter.all false
open Go.RowKit Go.ChangeShapes Go.WideShapes Go.ChangeAt Go.ChangeMaps
set_option maxRecDepth 100000
theorem XL:ownKnob Tryz.prog.godebug=none:=by kernel_rfl
theorem XM:laidOutB Tryz.prog=true:=by kernel_rfl
section
variable {H:Type} {enc:TypeId×Value→H}
theorem Dt {W W':World} (hb:Below W.heap.size W W') {sp:Nat→Bool}:∀{ts:List TypeId} {vs:List Value} {ds:List (DataW H)} {ps:List MemPlace},
  (∀t∈ts,Tryz.prog.readableRec t=true∧t<Tryz.prog.types.size)→DataW.TrodAll enc Tryz.prog W 0 (fun _=>true) true ts vs ds ps→(∀x∈ps,x.block<W.heap.size)→(∀x∈ps,sp x.block=true)→
  DataW.TrodAll enc Tryz.prog W' 0 sp true ts vs ds ps
 | [],[],[],_,_,h,_,_=>h
 | _::_,_::_,_::_,_,ht,⟨p,q,h1,h2,e⟩,hl,hs =>
  ⟨p,q,WideElems.Trod_stays XM (ht _ (by simp)).1 (ht _ (by simp)).2 h1 (fun x hx=>hb.same (hl x (by rw [e];exact List.mem_append_left _ hx))) (fun x hx=>hs x (by rw [e];exact List.mem_append_left _ hx)),
   Dt hb (fun t h=>ht t (by simp [h])) h2 (fun x hx=>hl x (by rw [e];exact List.mem_append_right _ hx)) (fun x hx=>hs x (by rw [e];exact List.mem_append_right _ hx)),e⟩
theorem XO {f:Func} {s:ChangeSpec} {apart fresh handsOn again:Bool} {W W':World} {args:Array Value} {ds gs:List (DataW H)} {before:List MemPlace}
  (hW:DataW.Whole enc Tryz.prog f.params.toList s.vars apart W args.toList ds gs before) (hvars:s.vars=[]) (hres:f.resultTypes = #[4])
  (hread:∀t∈f.params.toList,Tryz.prog.readableRec t=true∧t<Tryz.prog.types.size)
  (hfn:s.fn H ds={results:=[.lit (.bool true)],args:=ds}) (hb:Below W.heap.size W W') :
  s.post enc Tryz.prog f apart fresh handsOn again W args (.bool true) W':=by
 have hlt:∀p∈before,p.block<W.heap.size:=fun p hp=>hW.lt p hp
 have hold:∀p∈before,(fun b=>decide (b<W.heap.size)) p.block=true:=fun p hp=>by simpa using hlt p hp
 obtain ⟨p,q,hA0,hV,he,hz,hn⟩:=id hW
 rw [hvars] at hV
 obtain ⟨rfl,rfl⟩:=trodVars_none hV
 rw [List.append_nil] at he
 subst he
 have hA:DataW.TrodAll enc Tryz.prog W 0 (fun _=>true) true f.params.toList args.toList ds before:=hA0
 have hr1:∀(b:Nat) (sp:Nat→Bool) (hd:Bool),DataW.TrodAll enc Tryz.prog W' b sp hd f.resultTypes.toList ((Value.bool true).resultList f.resultTypes.size) (s.fn H (ds++[])).results []:=by
  intro b sp hd
  rw [List.append_nil,hfn,hres]
  exact trodAll_cons_mk (shut_bool Tryz.underlying4 _) trodAll_mk0
 have hargs:∀sp:Nat→Bool,(∀p∈before,sp p.block=true)→DataW.TrodAll enc Tryz.prog W' 0 sp true f.params.toList args.toList (s.fn H (ds++[])).args before:=by
  intro sp hsp
  rw [List.append_nil,hfn]
  exact Dt hb hread hA hlt hsp
 have hvr:∀sp:Nat→Bool,DataW.TrodVars enc Tryz.prog W' sp s.vars (s.fn H (ds++[])).vars []:=by
  intro sp
  rw [hvars,List.append_nil,hfn];rfl
 refine ⟨ds,[],before,[],before,[],hW,hr1 _ _ _,hargs _ hold,hvr _,World.keptBut_mono (fun p hp=>⟨hp,.inr (.inl hp)⟩) (hb.frame (·∈before)),fun _=>?_⟩
 refine ⟨?_,_,_,([]++before)++[],⟨[]++before,[],trodAll_append (hargs _ (fun _ _=>rfl)) (hr1 _ _ _),hvr _,rfl,?_,?_⟩,?_⟩
 ·exact ok_one hres rfl (okWide_bool_mk Tryz.underlying4 _)
 ·intro b off hp
  have hin:MemPlace.cell b off∈before:=by simpa using hp
  rw [hb.frozen (hlt _ hin)]
  exact hz b off hin
 ·intro ha
  simpa using hn ha
 ·intro p hp _
  simpa using hp
end
end Go.Proofs.YtefjbnhpjdhjmaaGreatDoor
