/-  -/
import Derived.Test.YtefjbnhpjdhjmaaGreatDoorTm16
import Derived.Test.YtefjbnhpjdhjmaaGreatDoorTm11
import Derived.Test.YtefjbnhpjdhjmaaGreatDoorTm18
import Derived.Test.YtefjbnhpjdhjmaaGreatDoorTm19
import Derived.Test.YtefjbnhpjdhjmaaGreatDoorTm3
import Derived.Test.YtefjbnhpjdhjmaaGreatDoorTm9
import Derived.Test.YtefjbnhpjdhjmaaGreatDoorTm13
import Derived.Test.YtefjbnhpjdhjmaaGreatDoorTm1
import Derived.Test.YtefjbnhpjdhjmaaGreatDoorSt3
import Derived.Deep.RegionWith
import Derived.Deep.LoopGhost
import Derived.BigQuiet
import Derived.Laws.Bits64b
import Derived.Deep.AppendLies
namespace Go.Proofs.YtefjbnhpjdhjmaaGreatDoor
set_option linter.all false
open Go.RowKit
theorem acg {N:Nat} {a:iM} {s:aQ} {w:World} (h:dP N a s w):∀i (hi:i<24),w.cell? ⟨N,0+i,none⟩=some ((bZ a s)[i]'(by simpa [bZ] using hi)):=by
 intro i hi
 unfold dP at h
 rw [cell_of_row w N (0+i) _ _ _ h,Nat.zero_add]
 show ((bZ a s).toArray)[i]?=_
 rw [List.getElem?_toArray,List.getElem?_eq_getElem (by simpa [bZ] using hi)]
structure StX (a:iM) (s:aQ):Prop where
 target:tH s.target
 value:tH s.value
 params:s.params.length≤a.mc
 locals:s.locals.length≤a.lc
structure oC (N:Nat) (a:iM) (s:aQ) (w0 w:World):Prop where
 box:dP N a s w
 ok:lT w (· < w0.heap.size) a s
 keep:Kept aF w0 w
theorem oC.next {N:Nat} {a:iM} {s:aQ} {w0 w w':World} (h:oC N a s w0 w) (k:Kept aF w w'):oC N a s w0 w' :=
 ⟨h.box.kept k (fun h=>h),h.ok.to k (Safe.lt h.keep.size) (fun _ h=>h),h.keep.trans k⟩
def DL (a:iM) (s:aQ):Value:=.agg #[.int .i64 s.target.kind,.string s.target.text,.int .i64 s.target.n,.string s.target.name,.slice a.ta s.target.kids.length a.tc]
def DN (a:iM) (s:aQ):Value:=.agg #[.int .i64 s.value.kind,.string s.value.text,.int .i64 s.value.n,.string s.value.name,.slice a.va s.value.kids.length a.vc]
def DR (a:iM) (s:aQ):Value:=.agg #[.int .i64 s.pat.kind,.string s.pat.text,.int .i64 s.pat.n,.string s.pat.name,.slice a.pa s.pat.kids.length a.pc]
section
variable {N:Nat} {a:iM} {s:aQ} {w0 w:World}
theorem oC.target (h:oC N a s w0 w) (hz:oP s):gZ w (· < w0.heap.size) (DL a s) s.target:=⟨a.ta,a.tc,rfl,hz.target.z,h.ok.target⟩
theorem oC.value (h:oC N a s w0 w) (hz:oP s):gZ w (· < w0.heap.size) (DN a s) s.value:=⟨a.va,a.vc,rfl,hz.value.z,h.ok.value⟩
theorem oC.pat (h:oC N a s w0 w) (hz:oP s):gZ w (· < w0.heap.size) (DR a s) s.pat:=⟨a.pa,a.pc,rfl,hz.pat.z,h.ok.pat⟩
theorem oC.safe (h:oC N a s w0 w):Safe (· < w0.heap.size) aF w.heap.size:=Safe.lt h.keep.size
theorem gZ.here {v:Value} {p:aA} (h:gZ w (· < w0.heap.size) v p) (hs:w0.heap.size≤w.heap.size):gZ w (· < w.heap.size) v p:=by
 obtain ⟨ka,cap,rfl,hz,hp⟩:=h
 exact ⟨ka,cap,rfl,hz,hp.to (Kept.refl aF w) (Safe.lt hs) (fun _ hb=>Nat.lt_of_lt_of_le hb hs)⟩
end
def Iu (w:World):Prop:=Glob w∧0<w.heap.size∧1<w.heap.size
theorem Iu.next {w w':World} (h:Iu w) (k:Kept aF w w'):Iu w' :=
 ⟨h.1.below k.below ⟨h.2.1,h.2.2⟩,Nat.lt_of_lt_of_le h.2.1 k.size,Nat.lt_of_lt_of_le h.2.2 k.size⟩
theorem bytes_eq {x y:aj} (h:x.data.toList=y.data.toList):x=y:=by
 apply ByteArray.ext
 exact Array.toList_inj.1 h
theorem ach (l:List UInt8):decide (0≤Lib.indexByte l 10)=decide ((10:UInt8)∈l):=by
 rw [decide_eq_decide]
 induction l with
 | nil=>simp [Lib.indexByte]
 | cons x r ih =>
  rw [Lib.indexByte]
  by_cases hx:x=10
  ·subst hx;simp
  ·have h1:(x==(10:UInt8))=false:=by simpa using hx
   have h2:=Lib.indexByte_ge r 10
   rw [h1]
   simp only [Bool.false_eq_true,if_false,List.mem_cons]
   by_cases h3:Lib.indexByte r 10 = -1
   ·have h4:(Lib.indexByte r 10 == -1)=true:=by simpa using h3
    rw [h4]
    simp only [if_true]
    constructor
    ·intro h;omega
    ·rintro (h|h)
     ·exact absurd h.symm hx
     ·have:=ih.2 h;omega
   ·have h4:(Lib.indexByte r 10 == -1)=false:=by simpa using h3
    rw [h4]
    simp only [Bool.false_eq_true,if_false]
    constructor
    ·intro _;exact .inr (ih.1 (by omega))
    ·intro _;omega
theorem qZ {p:aA} (h:lS p∧sizeT p≤4096) (i:Nat):(aP p i).length≤600000000:=by
 have:=BD p i h.1;have:=h.2;omega
theorem Vs (s:aQ):(iG s).length≤65540:=by
 unfold iG
 split
 ·unfold fU
  split
  ·simp
  ·split
   ·simp
   ·simp only [List.length_cons,List.length_append,List.length_nil];omega
 ·simp
theorem kG (x:aj):x.toList.isEmpty=decide (x.size=0):=by
 rw [ByteArray.toList_eq,Bool.eq_iff_iff,decide_eq_true_eq,List.isEmpty_iff]
 exact ⟨fun h=>by show x.data.size=0;rw [←Array.length_toList,h];rfl,fun h=>List.eq_nil_of_length_eq_zero (by rw [Array.length_toList];exact h)⟩
theorem abf {s:aQ} (hr:Vr s) (hv:s.kind=2∨s.kind=3∨s.kind=4∨s.kind=5→lS s.value∧sizeT s.value≤4096) (ht:s.kind=3∨s.kind=5→lS s.target∧sizeT s.target≤4096) :
  (s.label.data.toList++jO s (iG s)).length≤2000000000:=by
 have h1:=hr.label
 have e1:s.label.data.toList.length=s.label.size:=rfl
 have e2:s.name.data.toList.length=s.name.size:=rfl
 have e3:s.entry.data.toList.length=s.entry.size:=rfl
 have hp:=Vs s
 rw [List.length_append]
 unfold jO
 split
 ·have:=qZ (hv (by omega)) 1;simp only [List.length_cons];omega
 split
 ·have:=qZ (hv (by omega)) 1;have:=qZ (ht (by omega)) 1;simp only [List.length_cons,List.length_append,List.length_nil];omega
 split
 ·have:=qZ (hv (by omega)) 1;simp only [List.length_cons,List.length_append,List.length_nil];omega
 split
 ·have:=qZ (hv (by omega)) 1;have:=qZ (ht (by omega)) 1;simp only [List.length_cons,List.length_append,List.length_nil];omega
 split
 ·have:=hr.name (by omega);simp only [List.length_cons,List.length_append,List.length_nil];omega
 split
 ·rename_i hk
  have h2:=hr.name (by omega);have h3:=hr.entry hk;have h4:=hr.params hk;have h5:=hr.locals hk
  have:=vU h4.1 h4.2;have:=vU h5.1 h5.2
  simp only [List.length_cons,List.length_append,List.length_nil];omega
 ·simp only [List.length_nil];omega
end Go.Proofs.YtefjbnhpjdhjmaaGreatDoor

namespace Go.Proofs.YtefjbnhpjdhjmaaGreatDoor
set_option linter.all false
open Go.RowKit
theorem yM {en:Nat} {x:aj} (hx:aS x=true) {l:List aC} {r:List Tk} (e:l.map kt=sg 40::(1,x)::sg 41::r):∃r',fF en l=.ok (x,r')∧r'.map kt=r:=by
 obtain ⟨a,l1,rfl,ha,h1⟩:=bn e
 obtain ⟨b,l2,rfl,hb,h2⟩:=bn h1
 obtain ⟨c,l3,rfl,hc,h3⟩:=bn h2
 refine ⟨l3,?_,h3⟩
 unfold fF
 rw [uP ha]
 dsimp only
 rw [oz hb (jD hx)]
 dsimp only
 rw [uP hc]
theorem ZH {en:Nat} {s s2:aQ} {l l2:List aC} (h:(if aJ (bs [58]) l=true then gI en s l.tail else .ok (s,l))=.ok (s2,[])) (hd:jG s2.target≤200∧jG s2.value≤200):tJ en s l=.ok s2:=by
 unfold tJ
 rw [h]
 dsimp only
 rw [if_neg (by simp),if_neg (by omega)]
theorem Xl {s:aQ} (h:uH s) {en:Nat} {s2:aQ} (h2:s2.always=E0∧s2.yes=E0∧s2.aW=E0) (hd:jG s2.target≤200∧jG s2.value≤200) {l:List aC} (e:l.map kt=kK s) :
  tJ en s2 l=.ok {s2 with always:=s.always,yes:=s.yes,aW:=s.aW}:=by
 refine ZH (l2:=l) ?_ hd
 unfold kK at e
 by_cases ha:s.always.size≠0
 ·rw [if_pos ha] at e
  obtain ⟨a,l1,rfl,h0,h1⟩:=bn e
  obtain ⟨r',e1,e2⟩:=yM (en:=en) (pX h.always ha) (l:=l1) (r:=[]) h1
  obtain ⟨hy,hn⟩:=h.fit.resolve_left ha
  obtain rfl:=zO e2
  obtain ⟨b,l2,rfl,hb,_⟩:=bn h1
  rw [jg h0,if_pos rfl,List.tail_cons]
  unfold gI
  rw [jg hb,if_pos rfl,e1,(rD hy).trans h2.2.1.symm,(rD hn).trans h2.2.2.symm]
 rw [if_neg ha] at e
 have ea:s.always=s2.always:=by rw [h2.1];exact rD (by omega)
 have aaS:∀(a:aC) (x:aj) (l:List aC) (c:UInt8),kt a=(1,x)→aJ (bs [c]) (a::l)=false:=fun a x l c ha=>by
  unfold aJ
  refine au fun q=>?_
  have:=(Prod.mk.inj ha).1
  omega
 by_cases hj:s.yes.size≠0∨s.aW.size≠0
 ·rw [if_pos hj] at e
  obtain ⟨a,l1,rfl,h0,h1⟩:=bn e
  rw [jg h0,if_pos rfl,List.tail_cons]
  by_cases hy:s.yes.size≠0
  ·rw [if_pos hy] at h1
   obtain ⟨b,l2,rfl,hb,hl2⟩:=bn (show l1.map kt=(1,⟨#[83]⟩)::(sg 40::(1,s.yes)::sg 41::(if s.aW.size≠0 then BO 70 s.aW else [])) from h1)
   obtain ⟨r',e1,e2⟩:=yM (en:=en) (pX h.yes hy) hl2
   have kb:=Prod.mk.inj hb
   unfold gI
   rw [aaS _ _ _ _ hb,if_neg (by decide),uQ kb.1]
   dsimp only
   rw [if_pos (show b.text=bs [83] from kb.2),e1]
   dsimp only
   by_cases hn:s.aW.size≠0
   ·rw [if_pos hn] at e2
    obtain ⟨c,l3,rfl,hc,hl3⟩:=bn (show r'.map kt=(1,⟨#[70]⟩)::(sg 40::(1,s.aW)::sg 41::[]) from e2)
    obtain ⟨r2,e3,e4⟩:=yM (en:=en) (pX h.aW hn) hl3
    obtain rfl:=zO e4
    have kc:=Prod.mk.inj hc
    rw [if_neg (by simp),uQ kc.1]
    dsimp only
    rw [if_pos (show c.text=bs [70] from kc.2),e3,ea]
   ·rw [if_neg hn] at e2
    obtain rfl:=zO e2
    rw [if_pos rfl,ea,(rD (x:=s.aW) (by omega)).trans h2.2.2.symm]
  ·rw [if_neg hy,List.nil_append] at h1
   have hn:s.aW.size≠0:=hj.resolve_left hy
   rw [if_pos hn] at h1
   obtain ⟨b,l2,rfl,hb,hl2⟩:=bn (show l1.map kt=(1,⟨#[70]⟩)::(sg 40::(1,s.aW)::sg 41::[]) from h1)
   obtain ⟨r',e1,e2⟩:=yM (en:=en) (pX h.aW hn) hl2
   have kb:=Prod.mk.inj hb
   have eb:b.text=bs [70]:=kb.2
   obtain rfl:=zO e2
   unfold gI
   rw [aaS _ _ _ _ hb,if_neg (by decide),uQ kb.1]
   dsimp only
   rw [if_neg (by rw [eb];decide),if_pos eb,e1]
   dsimp only
   rw [if_pos rfl,ea,(rD (x:=s.yes) (by omega)).trans h2.2.1.symm]
 ·rw [if_neg hj] at e
  obtain rfl:=zO e
  show Except.ok (s2,[])=_
  rw [ea,(rD (x:=s.yes) (by omega)).trans h2.2.1.symm,(rD (x:=s.aW) (by omega)).trans h2.2.2.symm]
theorem ZI (c:UInt8):(sg c).2≠ql:=by
 intro e
 have h2:(1:Nat)=2:=congrArg ByteArray.size e
 omega
def Nm2 (ts:List Tk):Prop:=∀t u x v,ts=t::u→u=x::v→t.1=1→x.1=5∧x.2≠ql
def Au (r:List Tk):Prop:=∀x v,r=x::v→x.1=5∧x.2≠ql
theorem Au.sg (c:UInt8) (r:List Tk):Au (sg c::r):=by intro x v e;obtain ⟨rfl,_⟩:=List.cons.inj e;exact ⟨rfl,ZI c⟩
theorem Nm2.one {t:Tk} {r:List Tk} (h:Au r):Nm2 (t::r):=by intro a u x v e e2 _;obtain ⟨_,rfl⟩:=List.cons.inj e;exact h x v e2
theorem Nm2.no {t:Tk} {r:List Tk} (h:t.1≠1):Nm2 (t::r):=by intro a u x v e _ h1;obtain ⟨rfl,_⟩:=List.cons.inj e;exact absurd h1 h
theorem Nm2.of {a:Int} {x:aj} {r:List Tk} (h:a≠1):Nm2 ((a,x)::r):=Nm2.no h
theorem PK:∀(p:aA) (i:Nat),lS p→∀r,Au r→Nm2 (toks p i++r)
 | .mk k t n nm kids,i,h,r,hr=>by
  have hk:=h.facts.1
  rw [toks]
  split
  ·exact Nm2.of (by decide)
  split
  ·exact Nm2.of (by decide)
  split
  ·exact Nm2.one hr
  split
  ·exact Nm2.one (Au.sg 60 _)
  split
  ·exact Nm2.no (by decide)
  split
  ·by_cases hi:4<i
   ·rw [ak hi];exact Nm2.no (t:=sg 40) (by decide)
   ·rw [au hi];exact Nm2.no (t:=sg 45) (by decide)
  split
  ·exact Nm2.one (Au.sg 40 _)
  ·rename_i c1 c2 c3 c4 c5 c7 c6
   by_cases hi:dA k<i
   ·rw [ak hi];exact Nm2.no (t:=sg 40) (by decide)
   ·obtain ⟨a,b,hab⟩:=h.two (by omega)
    subst hab
    rw [au hi]
    show Nm2 (zN _ _ _++r)
    rw [zN,List.append_assoc]
    exact PK a (dA k) h.sub.head.1 _ (Au.sg _ _)
theorem Xm {l:List aC} (h:Nm2 (l.map kt)):eH l=false:=by
 cases l with
 | nil=>rfl
 | cons a l =>
  cases l with
  | nil=>rfl
  | cons b l =>
   refine au fun q=>?_
   have:=(h (kt a) (kt b::l.map kt) (kt b) (l.map kt) rfl rfl q.1).1
   have:b.kind=5:=this
   omega
theorem abH {l:List aC} (h:Nm2 (l.map kt)):l9 l=false:=by
 cases l with
 | nil=>rfl
 | cons a l =>
  cases l with
  | nil=>rfl
  | cons b l=>exact au fun q=>(h (kt a) (kt b::l.map kt) (kt b) (l.map kt) rfl rfl q.1).2 q.2.2
theorem PL (s:aQ):Au (kK s):=by
 unfold kK
 split
 ·exact Au.sg 58 _
 split
 ·exact Au.sg 58 _
 ·intro x v e;cases e
theorem ZJ (s:aQ):Stp 1 (kK s):=by
 unfold kK
 split
 ·exact Stp.sign (by decide) (by decide)
 split
 ·exact Stp.sign (by decide) (by decide)
 ·exact Stp.nil 1
theorem FD {s:aQ} {l:List aC} (e:l.map kt=kK s) (c:UInt8) (hc:58≠c):aJ (bs [c]) l=false:=by
 refine jJ e fun t u ee=>?_
 unfold kK at ee
 split at ee
 ·obtain ⟨rfl,_⟩:=List.cons.inj ee;exact pR hc
 split at ee
 ·obtain ⟨rfl,_⟩:=List.cons.inj ee;exact pR hc
 ·cases ee
theorem Ia {en:Nat} {s:aQ} (h:(fU s.pat).2=0) {l:List aC} {r:List Tk} (e:l.map kt=EW s::r):∃r',nN en l=.ok (aB s.pat,r')∧r'.map kt=r:=by
 obtain ⟨a,l1,rfl,ha,h1⟩:=bn e
 obtain ⟨k1,k2⟩:=Prod.mk.inj ha
 refine ⟨l1,?_,h1⟩
 unfold nN
 rw [uQ k1]
 dsimp only
 rw [show a.text=⟨(fU s.pat).1.toArray⟩ from k2,Ut h]
 rfl
theorem Gv {en:Nat}:∀(q:aj) (xs:List aj),(∀x∈q::xs,aS x=true)→∀(f:Nat) (ns:List aj) (l:List aC) (r:List Tk),ns.length+(q::xs).length≤8→(q::xs).length≤f→
  l.map kt=uS (q::xs)++(sg 41::r)→∃r',namesT (some (bs [41])) en f ns l=.ok (ns++q::xs,r')∧r'.map kt=r
 | q,[],h,f,ns,l,r,h8,hf,e=>by
  obtain ⟨f,rfl⟩:∃g,f=g+1:=⟨f-1,by simp at hf;omega⟩
  obtain ⟨a,l1,rfl,ha,h1⟩:=bn (show l.map kt=(1,q)::sg 41::r from e)
  obtain ⟨b,l2,rfl,hb,h2⟩:=bn h1
  refine ⟨l2,?_,h2⟩
  rw [namesT,if_neg (by simp at h8;omega),oz ha (jD (h q (by simp)))]
  dsimp only
  rw [jg hb,if_pos rfl];rfl
 | q,q2::xs,h,f,ns,l,r,h8,hf,e=>by
  obtain ⟨f,rfl⟩:∃g,f=g+1:=⟨f-1,by simp at hf;omega⟩
  obtain ⟨a,l1,rfl,ha,h1⟩:=bn (show l.map kt=(1,q)::sg 44::(uS (q2::xs)++(sg 41::r)) from e)
  obtain ⟨b,l2,rfl,hb,h2⟩:=bn h1
  obtain ⟨r',e3,h3⟩:=Gv (en:=en) q2 xs (fun x hx=>h x (by simp at hx⊢;right;exact hx)) f (ns++[q]) l2 r (by simp at h8⊢;omega) (by simp at hf⊢;omega) h2
  refine ⟨r',?_,h3⟩
  rw [namesT,if_neg (by simp at h8;omega),oz ha (jD (h q (by simp)))]
  dsimp only
  rw [jJ h1 fun x u ee=>by obtain ⟨rfl,_⟩:=List.cons.inj ee;exact pR (by decide),if_neg (by decide),uP hb]
  dsimp only
  rw [e3,List.append_assoc];rfl
theorem Jt {en:Nat}:∀(q:aj) (xs:List aj),(∀x∈q::xs,aS x=true)→∀(f:Nat) (ns:List aj) (l:List aC) (r:List Tk) (y:aj),ns.length+(q::xs).length≤8→(q::xs).length≤f→
  l.map kt=uS (q::xs)++((1,y)::r)→∃r',namesT none en f ns l=.ok (ns++q::xs,r')∧r'.map kt=(1,y)::r
 | q,[],h,f,ns,l,r,y,h8,hf,e=>by
  obtain ⟨f,rfl⟩:∃g,f=g+1:=⟨f-1,by simp at hf;omega⟩
  obtain ⟨a,l1,rfl,ha,h1⟩:=bn (show l.map kt=(1,q)::(1,y)::r from e)
  refine ⟨l1,?_,h1⟩
  rw [namesT,if_neg (by simp at h8;omega),oz ha (jD (h q (by simp)))]
  dsimp only
  rw [jJ h1 fun x u ee=>by obtain ⟨rfl,_⟩:=List.cons.inj ee;intro q;exact absurd (Prod.mk.inj q).1 (by decide),if_neg (by decide)]
 | q,q2::xs,h,f,ns,l,r,y,h8,hf,e=>by
  obtain ⟨f,rfl⟩:∃g,f=g+1:=⟨f-1,by simp at hf;omega⟩
  obtain ⟨a,l1,rfl,ha,h1⟩:=bn (show l.map kt=(1,q)::sg 44::(uS (q2::xs)++((1,y)::r)) from e)
  obtain ⟨b,l2,rfl,hb,h2⟩:=bn h1
  obtain ⟨r',e3,h3⟩:=Jt (en:=en) q2 xs (fun x hx=>h x (by simp at hx⊢;right;exact hx)) f (ns++[q]) l2 r y (by simp at h8⊢;omega) (by simp at hf⊢;omega) h2
  refine ⟨r',?_,h3⟩
  rw [namesT,if_neg (by simp at h8;omega),oz ha (jD (h q (by simp)))]
  dsimp only
  rw [jg hb,if_pos rfl,List.tail_cons,e3,List.append_assoc];rfl
def coreS (s:aQ):aQ:={dQ s with always:=E0,yes:=E0,aW:=E0}
def labS (s:aQ):aQ:={st0 with label:=s.label}
section
variable {s:aQ} {en:Nat} {l:List aC}
theorem xE {s2:aQ} (h1:s2.label=s.label) (h2:s2.kind=s.kind) (h3:s2.target=(dQ s).target) (h4:s2.value=(dQ s).value) (h5:s2.pat=(dQ s).pat) (h6:s2.name=(dQ s).name) (h7:s2.entry=(dQ s).entry) (h8:s2.params=(dQ s).params) (h9:s2.locals=(dQ s).locals) (h10:s2.always=E0∧s2.yes=E0∧s2.aW=E0):s2=coreS s:=by
 obtain ⟨a1,a2,a3,a4,a5,a6,a7,a8,a9,a10,a11,a12⟩:=s2
 dsimp only at h1 h2 h3 h4 h5 h6 h7 h8 h9 h10
 obtain ⟨h10,h11,h12⟩:=h10
 unfold coreS
 rw [h1,h2,h3,h4,h5,h6,h7,h8,h9,h10,h11,h12];rfl
theorem Xn (h:uH s) (hn:H9 s) (hp:dJ s→(fU s.pat).2=0) (hk:s.kind=2∨s.kind=3∨s.kind=4∨s.kind=5) (e:l.map kt=sN s++kK s):∃r',yJ en (labS s) l=.ok (coreS s,r')∧r'.map kt=kK s:=by
 have hv:=h.value hk
 have hsj:=ZJ s
 unfold sN at e
 by_cases k2:s.kind=2
 ·rw [if_pos k2] at e
  obtain ⟨r',e1,e2⟩:=vM (en:=en) hv hn.value e hsj
  refine ⟨r',?_,e2⟩
  unfold yJ
  rw [e1]
  dsimp only
  rw [FD e2 63 (by decide),if_neg (by decide)]
  unfold lK
  rw [FD e2 61 (by decide),if_neg (by decide)]
  congr 2
  apply xE<;>simp [labS,st0,dQ,dJ,k2]
 rw [if_neg k2] at e
 by_cases k3:s.kind=3
 ·rw [if_pos k3,List.append_assoc] at e
  have ht:=h.target (.inl k3)
  obtain ⟨r',e1,e2⟩:=vM (en:=en) ht.1 hn.target e (Stp.sign (by decide) (by decide))
  obtain ⟨a,l2,rfl,ha,h2⟩:=bn e2
  obtain ⟨r2,e3,e4⟩:=vM (en:=en) hv hn.value h2 hsj
  refine ⟨r2,?_,e4⟩
  unfold yJ
  rw [e1]
  dsimp only
  rw [jJ e2 fun x u ee=>by obtain ⟨rfl,_⟩:=List.cons.inj ee;exact pR (by decide),if_neg (by decide)]
  unfold lK
  have hit:isTarget (bF s.target):=by have:=ht.2;revert this;cases s.target;exact fun h=>h
  rw [jg ha,if_pos rfl,if_neg (by simpa using hit),List.tail_cons,e3]
  dsimp only
  congr 2
  apply xE<;>simp [labS,st0,dQ,dJ,k3]
 rw [if_neg k3] at e
 by_cases k4:s.kind=4
 ·rw [if_pos k4,List.append_assoc] at e
  obtain ⟨r',e1,e2⟩:=vM (en:=en) hv hn.value e (Stp.sign (by decide) (by decide))
  obtain ⟨a,l2,rfl,ha,h2⟩:=bn e2
  obtain ⟨r2,e3,e4⟩:=Ia (en:=en) (hp (.inl k4)) h2
  have e4:r2.map kt=kK s:=e4
  refine ⟨r2,?_,e4⟩
  unfold yJ
  rw [e1]
  dsimp only
  rw [jg ha,if_pos rfl,List.tail_cons,e3]
  dsimp only
  unfold lK
  rw [FD e4 61 (by decide),if_neg (by decide)]
  congr 2
  apply xE<;>simp [labS,st0,dQ,dJ,k4]
 rw [if_neg k4] at e
 have k5:s.kind=5:=by omega
 rw [if_pos k5,List.append_assoc] at e
 have ht:=h.target (.inr k5)
 obtain ⟨r',e1,e2⟩:=vM (en:=en) ht.1 hn.target e (Stp.sign (by decide) (by decide))
 obtain ⟨a,l2,rfl,ha,h2⟩:=bn e2
 obtain ⟨r2,e3,e4⟩:=Ia (en:=en) (hp (.inr (.inl k5))) h2
 obtain ⟨b,l3,rfl,hb,h3⟩:=bn e4
 obtain ⟨r3,e5,e6⟩:=vM (en:=en) hv hn.value h3 hsj
 refine ⟨r3,?_,e6⟩
 unfold yJ
 rw [e1]
 dsimp only
 rw [jg ha,if_pos rfl,List.tail_cons,e3]
 dsimp only
 unfold lK
 have hit:isTarget (bF s.target):=by have:=ht.2;revert this;cases s.target;exact fun h=>h
 rw [jg hb,if_pos rfl,if_neg (by simpa using hit),List.tail_cons,e5]
 dsimp only
 congr 2
 apply xE<;>simp [labS,st0,dQ,dJ,k5]
theorem Xo (h:uH s) (hp:dJ s→(fU s.pat).2=0) (hk:s.kind=6) (e:l.map kt=sN s++kK s):eH l=false∧l9 l=true∧∃r',wo en (labS s) l=.ok (coreS s,r')∧r'.map kt=kK s:=by
 unfold sN at e
 rw [if_neg (by omega),if_neg (by omega),if_neg (by omega),if_neg (by omega),if_pos hk] at e
 obtain ⟨a,l1,rfl,ha,h1⟩:=bn (show l.map kt=(1,s.name)::(5,ql)::EW s::kK s from e)
 obtain ⟨b,l2,rfl,hb,h2⟩:=bn h1
 obtain ⟨r',e3,e4⟩:=Ia (en:=en) (hp (.inr (.inr hk))) h2
 obtain ⟨b1,b2⟩:=Prod.mk.inj hb
 have a1:=(Prod.mk.inj ha).1
 refine ⟨au (by rw [b1];omega),ak ⟨a1,b1,b2⟩,r',?_,e4⟩
 unfold wo
 rw [oz ha (jD (h.name (.inl hk)))]
 dsimp only
 have hs:aJ ql (b::l2)=true:=ak ⟨b1,b2⟩
 unfold eY
 rw [if_pos hs]
 dsimp only
 rw [List.tail_cons,e3]
 dsimp only
 congr 2
 apply xE<;>simp [labS,st0,dQ,dJ,hk]
theorem QG (h:uH s) (hk:s.kind=7) (e:l.map kt=sN s++kK s):eH l=true∧∃r',gG en (labS s) l.tail=.ok (coreS s,r')∧r'.map kt=kK s:=by
 unfold sN at e
 rw [if_neg (by omega),if_neg (by omega),if_neg (by omega),if_neg (by omega),if_neg (by omega),if_pos hk] at e
 obtain ⟨a,l1,rfl,ha,h1⟩:=bn (show l.map kt=(1,oM)::(1,s.name)::sg 40::(uS s.params++(sg 41::(uS s.locals++((1,s.entry)::kK s)))) by rw [e];simp)
 obtain ⟨b,l2,rfl,hb,h2⟩:=bn h1
 obtain ⟨c,l3,rfl,hc,h3⟩:=bn h2
 obtain ⟨a1,a2⟩:=Prod.mk.inj ha
 have b1:=(Prod.mk.inj hb).1
 refine ⟨ak ⟨a1,a2,b1⟩,?_⟩
 have ps:∃r',(if aJ (bs [41]) l3=true then (.ok ([],l3.tail):bK (List aj)) else namesT (some (bs [41])) en 9 [] l3)=.ok (s.params,r')∧r'.map kt=uS s.locals++((1,s.entry)::kK s):=by
  cases hps:s.params with
  | nil =>
   rw [hps] at h3
   obtain ⟨z,l4,rfl,hz,h4⟩:=bn (show l3.map kt=sg 41::(uS s.locals++((1,s.entry)::kK s)) from h3)
   exact ⟨l4,by rw [jg hz,if_pos rfl];rfl,h4⟩
  | cons q xs =>
   rw [hps] at h3
   have hpar:=h.params hk
   rw [hps] at hpar
   obtain ⟨r',e1,e2⟩:=Gv (en:=en) q xs hpar.2 9 [] l3 _ (by simpa using hpar.1) (by omega) h3
   refine ⟨r',?_,e2⟩
   rw [jJ h3 fun x u ee=>by obtain ⟨rfl,_⟩:=List.cons.inj ee;intro q;exact absurd (Prod.mk.inj q).1 (by decide),if_neg (by decide),e1];rfl
 obtain ⟨r1,e1,h4⟩:=ps
 have ls:∃r',(if jc r1=true then namesT none en 9 [] r1 else (.ok ([],r1):bK (List aj)))=.ok (s.locals,r')∧r'.map kt=(1,s.entry)::kK s:=by
  cases hls:s.locals with
  | nil =>
   rw [hls] at h4
   obtain ⟨z,l4,rfl,hz,h5⟩:=bn (show r1.map kt=(1,s.entry)::kK s from h4)
   refine ⟨z::l4,?_,h4⟩
   have:jc (z::l4)=false:=by
    cases l4 with
    | nil=>rfl
    | cons y l5 =>
     have hy:=PL s (kt y) (l5.map kt) h5.symm
     have hy1:y.kind=5:=hy.1
     unfold jc
     rw [Bool.or_eq_false_iff]
     refine ⟨au (by rw [hy1];omega),au fun q=>?_⟩
     have hno:=FD h5 44 (by decide)
     unfold aJ at hno
     exact (decide_eq_false_iff_not.1 hno) q
   rw [this,if_neg (by decide)]
  | cons q xs =>
   rw [hls] at h4
   have hloc:=h.locals hk
   rw [hls] at hloc
   obtain ⟨r',e2,h5⟩:=Jt (en:=en) q xs hloc.2 9 [] r1 (kK s) s.entry (by simpa using hloc.1) (by omega) h4
   refine ⟨r',?_,h5⟩
   have:jc r1=true:=by
    cases xs with
    | nil =>
     obtain ⟨z,l4,rfl,hz,h6⟩:=bn (show r1.map kt=(1,q)::(1,s.entry)::kK s from h4)
     obtain ⟨y,l5,rfl,hy,h7⟩:=bn h6
     have:=(Prod.mk.inj hy).1
     show (decide (y.kind=1)||_)=true
     rw [ak this];rfl
    | cons q2 xs =>
     obtain ⟨z,l4,rfl,hz,h6⟩:=bn (show r1.map kt=(1,q)::sg 44::(uS (q2::xs)++((1,s.entry)::kK s)) from h4)
     obtain ⟨y,l5,rfl,hy,h7⟩:=bn h6
     obtain ⟨y1,y2⟩:=Prod.mk.inj hy
     show (_||decide (y.kind=5∧y.text=bs [44]))=true
     rw [ak (show y.kind=5∧y.text=bs [44] from ⟨y1,y2⟩),Bool.or_true]
   rw [this,if_pos rfl,e2];rfl
 obtain ⟨r2,e2,h5⟩:=ls
 obtain ⟨z,l6,rfl,hz,h6⟩:=bn h5
 refine ⟨l6,?_,h6⟩
 unfold gG
 rw [List.tail_cons,oz hb (jD (h.name (.inr hk)))]
 dsimp only
 rw [uP hc]
 dsimp only
 rw [e1]
 dsimp only
 rw [e2]
 dsimp only
 rw [oz hz (jD (h.entry hk))]
 dsimp only
 congr 2
 apply xE<;>simp [labS,st0,dQ,dJ,hk]
theorem Ju:jG lQ=1:=rfl
theorem Uu (h:uH s):jG (coreS s).target≤200∧jG (coreS s).value≤200:=by
 have key:∀p:aA,bg p=0→jG (bF p)≤200:=by
  intro p hp
  unfold bg at hp
  by_cases hf:fits p
  ·rw [Kv,Gu];exact hf.2
  ·rw [if_neg hf] at hp;cases hp
 unfold coreS dQ
 dsimp only
 constructor
 ·split
  ·exact key _ (h.target ‹_›).1
  ·rw [Ju];omega
 ·split
  ·exact key _ (h.value ‹_›)
  ·rw [Ju];omega
theorem Xp (h:uH s) (hn:H9 s) (hp:dJ s→(fU s.pat).2=0) (e:l.map kt=Us s):iI en (decide (s.label.size≠0)) l=.ok (dQ s):=by
 have hlab:∃r,iI en (decide (s.label.size≠0)) l=(match (if r≠[]∧aJ (bs [58]) r=false then bodyT en (labS s) r else .ok (labS s,r)) with | .error er=>.error er | .ok (s2,r2)=>tJ en s2 r2)∧r.map kt=sN s++kK s:=by
  unfold Us at e
  by_cases hl:s.label.size≠0
  ·rw [if_pos hl] at e
   obtain ⟨a,l1,rfl,ha,h1⟩:=bn (show l.map kt=(1,s.label)::(sN s++kK s) from e)
   refine ⟨l1,?_,h1⟩
   unfold iI
   rw [if_pos (ak hl),oz ha (jD (pX h.label hl))];rfl
  ·rw [if_neg hl] at e
   refine ⟨l,?_,e⟩
   unfold iI
   rw [au hl,if_neg (by decide)]
   unfold labS
   rw [rD (x:=s.label) (by omega)];rfl
 obtain ⟨r,e1,h1⟩:=hlab
 have hbody:∃r',(if r≠[]∧aJ (bs [58]) r=false then bodyT en (labS s) r else (.ok (labS s,r):bK aQ))=.ok (coreS s,r')∧r'.map kt=kK s:=by
  have hkr:=h.kind
  have exprs:s.kind=2∨s.kind=3∨s.kind=4∨s.kind=5→r≠[]∧aJ (bs [58]) r=false∧eH r=false∧l9 r=false:=by
   intro hk
   obtain ⟨p,rest,hpx,hr,hrest⟩:∃p rest,lS p∧sN s++kK s=toks p 1++rest∧Au rest:=by
    unfold sN
    by_cases k2:s.kind=2
    ·rw [if_pos k2];exact ⟨s.value,_,(tC (h.value hk) hn.value).1,rfl,PL s⟩
    rw [if_neg k2]
    by_cases k3:s.kind=3
    ·rw [if_pos k3,List.append_assoc];exact ⟨s.target,_,(tC (h.target (.inl k3)).1 hn.target).1,rfl,Au.sg _ _⟩
    rw [if_neg k3]
    by_cases k4:s.kind=4
    ·rw [if_pos k4,List.append_assoc];exact ⟨s.value,_,(tC (h.value hk) hn.value).1,rfl,Au.sg _ _⟩
    rw [if_neg k4]
    have k5:s.kind=5:=by omega
    rw [if_pos k5,List.append_assoc];exact ⟨s.target,_,(tC (h.target (.inr k5)).1 hn.target).1,rfl,Au.sg _ _⟩
   have hn2:=PK p 1 hpx rest hrest
   rw [←hr,←h1] at hn2
   obtain ⟨t,u,et,h1t,_⟩:=xW p 1 hpx
   rw [hr,et] at h1
   refine ⟨(by rintro rfl;cases h1),jJ h1 fun x v ee=>?_,Xm hn2,abH hn2⟩
   obtain ⟨rfl,_⟩:=List.cons.inj ee
   exact h1t.ne (by decide)
  by_cases k1:s.kind=1
  ·have hb:sN s=[]:=by unfold sN;rw [if_neg (by omega),if_neg (by omega),if_neg (by omega),if_neg (by omega),if_neg (by omega),if_neg (by omega)]
   rw [hb,List.nil_append] at h1
   refine ⟨r,?_,h1⟩
   rw [if_neg]
   ·congr 2
    apply xE<;>simp [labS,st0,dQ,dJ,k1]
   ·rintro ⟨q1,q2⟩
    cases r with
    | nil=>exact q1 rfl
    | cons a r =>
     unfold kK at h1
     split at h1
     ·have:=jg (l:=r) (List.cons.inj h1).1;rw [this] at q2;cases q2
     split at h1
     ·have:=jg (l:=r) (List.cons.inj h1).1;rw [this] at q2;cases q2
     ·cases h1
  by_cases k6:s.kind=6
  ·obtain ⟨a,b,r',c,d⟩:=Xo (en:=en) h hp k6 h1
   refine ⟨r',?_,d⟩
   have hh:r.map kt=(1,s.name)::(5,ql)::EW s::kK s:=by rw [h1];unfold sN;rw [if_neg (by omega),if_neg (by omega),if_neg (by omega),if_neg (by omega),if_pos k6];rfl
   rw [if_pos ⟨(by rintro rfl;cases hh),jJ hh fun x u ee=>by obtain ⟨rfl,_⟩:=List.cons.inj ee;intro q;exact absurd (Prod.mk.inj q).1 (by decide)⟩]
   unfold bodyT
   rw [a,if_neg (by decide),b,if_pos rfl,c]
  by_cases k7:s.kind=7
  ·obtain ⟨a,r',c,d⟩:=QG (en:=en) h k7 h1
   refine ⟨r',?_,d⟩
   have hh:r.map kt=(1,oM)::((1,s.name)::sg 40::(uS s.params++(sg 41::(uS s.locals++((1,s.entry)::kK s))))):=by rw [h1];unfold sN;rw [if_neg (by omega),if_neg (by omega),if_neg (by omega),if_neg (by omega),if_neg (by omega),if_pos k7];simp
   rw [if_pos ⟨(by rintro rfl;cases hh),jJ hh fun x u ee=>by obtain ⟨rfl,_⟩:=List.cons.inj ee;intro q;exact absurd (Prod.mk.inj q).1 (by decide)⟩]
   unfold bodyT
   rw [a,if_pos rfl,c]
  ·have hk:s.kind=2∨s.kind=3∨s.kind=4∨s.kind=5:=by omega
   obtain ⟨a,b,c,d⟩:=exprs hk
   obtain ⟨r',e3,e4⟩:=Xn (en:=en) h hn hp hk h1
   refine ⟨r',?_,e4⟩
   rw [if_pos ⟨a,b⟩]
   unfold bodyT
   rw [c,if_neg (by decide),d,if_neg (by decide),e3]
 obtain ⟨r',e3,e4⟩:=hbody
 rw [e1,e3]
 dsimp only
 rw [Xl h ⟨rfl,rfl,rfl⟩ (Uu h) e4];rfl
end
theorem EX {s:aQ} (hz:(fD s).2=0) (hn:H9 s):mZ ⟨(fD s).1.toArray⟩=.ok (some (dQ s)):=by
 unfold fD at hz⊢
 by_cases hw:jR s≠0
 ·rw [if_pos hw] at hz;exact absurd hz hw
 rw [if_neg hw] at hz⊢
 by_cases hp:dJ s∧(fU s.pat).2≠0
 ·rw [if_pos hp] at hz;exact absurd hz hp.2
 rw [if_neg hp] at hz⊢
 by_cases h10:(10:UInt8)∈lineS s
 ·rw [if_pos h10] at hz;cases hz
 rw [if_neg h10] at hz⊢
 by_cases hl:2000<(lineS s).length
 ·rw [if_pos hl] at hz;cases hz
 rw [if_neg hl]
 dsimp only
 have h:=RS (s:=s) (by omega)
 have hp':dJ s→(fU s.pat).2=0:=fun q=>by
  by_cases hz:(fU s.pat).2=0
  ·exact hz
  ·exact absurd ⟨q,hz⟩ hp
 have hx:=ZG h hn hp'
 obtain ⟨r,e1,e2⟩:=hx ⟨(lineS s).toArray⟩ 0 [] ⟨by simp,by omega⟩
 have hsz:(⟨(lineS s).toArray⟩:aj).size=(lineS s).length:=by show (lineS s).toArray.size=_;simp
 have hlex:mV ⟨(lineS s).toArray⟩=.ok r:=by unfold mV;rw [if_neg (by omega),e1];rfl
 have hfirst:(s.label.size≠0→∃c t,lineS s=c::t∧65≤c.toNat∧c.toNat≤90)∧(s.label.size=0→lineS s=[]∨∃t,lineS s=32::t):=by
  constructor
  ·intro hl
   obtain ⟨c,t,e,hc,_⟩:=Px (pX h.label hl)
   unfold lineS
   rw [e];exact ⟨c,_,rfl,hc⟩
  ·intro hl
   unfold lineS
   rw [rD hl]
   show jO s (iG s)++qP s=[]∨∃t,jO s (iG s)++qP s=32::t
   unfold jO
   split
   ·exact .inr ⟨_,rfl⟩
   split
   ·exact .inr ⟨_,rfl⟩
   split
   ·exact .inr ⟨_,rfl⟩
   split
   ·exact .inr ⟨_,rfl⟩
   split
   ·exact .inr ⟨_,rfl⟩
   split
   ·exact .inr ⟨_,rfl⟩
   ·rw [List.nil_append]
    unfold qP
    split
    ·exact .inr ⟨_,rfl⟩
    split
    ·exact .inr ⟨_,rfl⟩
    ·exact .inl rfl
 have pk:∀c t,lineS s=c::t→peek ⟨(lineS s).toArray⟩ 0=c.toNat:=by
  intro c t e
  have:Has ⟨(lineS s).toArray⟩ 0 (c::t) []:=⟨by simp [e],by omega⟩
  exact this.peek
 have pn:lineS s=[]→peek ⟨(lineS s).toArray⟩ 0 = -1:=by
  intro e;unfold peek;rw [dif_neg (by rw [hsz,e];simp)]
 have hstar:¬(peek ⟨(lineS s).toArray⟩ 0=42∧(⟨(lineS s).toArray⟩:aj).size≤2000):=by
  rintro ⟨q,_⟩
  by_cases hl:s.label.size≠0
  ·obtain ⟨c,t,e,hc⟩:=hfirst.1 hl
   rw [pk c t e] at q;omega
  ·rcases hfirst.2 (by omega) with e|⟨t,e⟩
   ·rw [pn e] at q;cases q
   ·rw [pk _ _ e] at q;cases q
 have hlab:decide ((⟨(lineS s).toArray⟩:aj).size≠0∧peek ⟨(lineS s).toArray⟩ 0≠32∧peek ⟨(lineS s).toArray⟩ 0≠58)=decide (s.label.size≠0):=by
  by_cases hl:s.label.size≠0
  ·obtain ⟨c,t,e,hc⟩:=hfirst.1 hl
   rw [ak hl]
   refine ak ⟨by rw [hsz,e];simp,by rw [pk c t e];omega,by rw [pk c t e];omega⟩
  ·rw [au hl]
   refine au ?_
   rintro ⟨q1,q2,q3⟩
   rcases hfirst.2 (by omega) with e|⟨t,e⟩
   ·rw [hsz,e] at q1;exact q1 rfl
   ·rw [pk _ _ e] at q2;exact q2 rfl
 unfold mZ
 rw [if_neg hstar,hlex]
 dsimp only
 rw [hlab,Xp h hn hp' e2]
end Go.Proofs.YtefjbnhpjdhjmaaGreatDoor

namespace Go.Proofs.YtefjbnhpjdhjmaaGreatDoor
set_option linter.all false
open Go.RowKit
structure Uw (t:aC):Prop where
 name:t.kind=1→∃c l,t.text.data.toList=c::l∧(65≤c.toNat∧c.toNat≤90)∧∀d∈c::l,gu d=true
 text:t.text.size≤2000
theorem adG {f:UInt8→Bool} {s:aj} {j:Nat}:(s.extract j (bQ f s j)).data.toList=(s.data.toList.drop j).takeWhile f:=by
 have h1:(s.extract j (bQ f s j)).data.toList=(s.data.toList.drop j).take (bQ f s j-j):=by simp
 rw [h1]
 have h2:bQ f s j-j=((s.data.toList.drop j).takeWhile f).length:=by unfold bQ;omega
 rw [h2]
 generalize s.data.toList.drop j=l
 induction l with
 | nil=>rfl
 | cons a l ih =>
  rw [List.takeWhile_cons]
  split
  ·rw [List.length_cons,List.take_succ_cons,ih]
  ·rfl
theorem Xq {s:aj} {i:Nat} {h:i<s.size} {t:aC} {k:Nat} (hs:s.size≤2000) (e:dI s i h=.tok t k):Uw t:=by
 have hn:=(nO e).2.2.2
 refine ⟨fun hk=>?_,by omega⟩
 unfold dI at e
 split at e
 ·cases e
 split at e
 ·rename_i h1
  simp only [mY.tok.injEq] at e
  obtain ⟨rfl,rfl⟩:=e
  have hu:iR s[i]=true:=by unfold iR;simp;omega
  have hl:=adG (f:=gu) (s:=s) (j:=i)
  rw [drop_cons h,List.takeWhile_cons,if_pos (by unfold gu;rw [hu];rfl)] at hl
  refine ⟨_,_,hl,h1,fun d hd=>?_⟩
  rcases List.mem_cons.1 hd with rfl|hd
  ·unfold gu;rw [hu];rfl
  ·exact PN hd
 split at e
 ·simp only [mY.tok.injEq] at e;obtain ⟨rfl,rfl⟩:=e;cases hk
 split at e
 ·split at e
  ·cases e
  ·simp only [mY.tok.injEq] at e;obtain ⟨rfl,rfl⟩:=e;cases hk
 split at e
 ·split at e
  ·cases e
  ·simp only [mY.tok.injEq] at e;obtain ⟨rfl,rfl⟩:=e;cases hk
 split at e
 ·simp only [mY.tok.injEq] at e;obtain ⟨rfl,rfl⟩:=e;cases hk
 split at e
 ·simp only [mY.tok.injEq] at e;obtain ⟨rfl,rfl⟩:=e;cases hk
 ·cases e
theorem Ib {s:aj} (hs:s.size≤2000):∀(f i:Nat) (out l:List aC),(∀t∈out,Uw t)→out.length≤i→i≤s.size→nZ s f i out=.ok l→(∀t∈l,Uw t)∧l.length≤2000
 | 0,i,out,l,ho,hl,hi,e=>by
  rw [nZ] at e;simp only [Except.ok.injEq] at e;subst e;exact ⟨ho,by omega⟩
 | f+1,i,out,l,ho,hl,hi,e=>by
  rw [nZ] at e
  split at e
  ·rename_i hlt
   cases hst:dI s i hlt with
   | blank=>rw [hst] at e;exact Ib hs f (i+1) out l ho (by omega) (by omega) e
   | tok t k =>
    rw [hst] at e
    have hn:=nO hst
    refine Ib hs f k (out++[t]) l (fun x hx=>?_) (by simp;omega) hn.2.1 e
    rcases List.mem_append.1 hx with hx|hx
    ·exact ho x hx
    ·rw [List.mem_singleton.1 hx];exact Xq hs hst
   | bad er=>rw [hst] at e;cases e
  ·simp only [Except.ok.injEq] at e;subst e;exact ⟨ho,by omega⟩
theorem ZK {x:aj} (h:∃c l,x.data.toList=c::l∧(65≤c.toNat∧c.toNat≤90)∧∀d∈c::l,gu d=true) (h16:x.size≤16):aS x=true:=by
 obtain ⟨c,l,e,hc,hw⟩:=h
 have es:x.data.toList.length=x.size:=rfl
 have hu:iR c=true:=by unfold iR;simp;omega
 rw [e] at es
 refine KZ (by rw [←es];simp) h16 fun j hj=>?_
 rw [e,List.getD_eq_getElem?_getD,List.getElem?_eq_getElem (by omega)]
 simp only [Option.getD_some]
 have h1:=hw _ (List.getElem_mem (l:=c::l) (by omega:j<(c::l).length))
 unfold kW
 cases j with
 | zero=>simp [hu]
 | succ j=>unfold gu at h1;simpa using h1
structure GX (x:aA):Prop where
 node:kF x=0
 bare:bF x=x
 num:tH x
def TG (l:List aC):Prop:=∀t∈l,Uw t
def Gd (f:List aC→bK aA):Prop:=∀l,TG l→∀x r,f l=.ok (x,r)→GX x∧sizeT x+r.length≤l.length∧TG r
theorem Df {k n:Int} {t nm:aj} {kids:List aA} (ho:zu k t n nm kids.length=0) (hk:∀q∈kids,GX q) (hb:(if k=1 then t else E0)=t∧(if k=2 then n else 0)=n∧(if k=3∨k=4∨k=6 then nm else E0)=nm) (hn:n≤9223372036854775807):GX (.mk k t n nm kids):=by
 have hl:∀l:List aA,(∀q∈l,GX q)→pJ l=0∧iP l=l∧Jd l:=by
  intro l
  induction l with
  | nil=>intro _;exact ⟨rfl,rfl,fun x hx=>by rw [allL] at hx;cases hx⟩
  | cons p l ih =>
   intro h
   have hp:=h p (by simp)
   obtain ⟨a,b,c⟩:=ih fun q hq=>h q (by simp [hq])
   refine ⟨by rw [pJ,hp.node,if_pos rfl,a],by rw [iP,hp.bare,b],fun x hx=>?_⟩
   rw [allL] at hx
   rcases List.mem_append.1 hx with hx|hx
   ·exact hp.num x hx
   ·exact c x hx
 obtain ⟨a,b,c⟩:=hl kids hk
 refine ⟨by rw [kF,if_pos ho,a],by rw [bF,hb.1,hb.2.1,hb.2.2,b],fun x hx=>?_⟩
 rw [allT] at hx
 rcases List.mem_cons.1 hx with rfl|hx
 ·exact hn
 ·exact c x hx
theorem uT {k n:Int} {t nm:aj} {len:Nat} (h1:1≤k∧k≤13) (h2:k=1→t.size≤65536) (h3:0≤n) (h4:k=3∨k=4∨k=6→aS nm=true) (h5:k=6→len≤8) (h6:k≠6→(len:Int)=iQ k):zu k t n nm len=0:=by
 unfold zu
 rw [if_neg (by omega),if_neg (by intro h;have:=h2 h.1;omega),if_neg (by omega),if_neg (by rintro ⟨a,b⟩;rw [h4 a] at b;cases b),if_neg]
 intro h
 rcases h with ⟨a,b⟩|⟨a,b⟩
 ·have:=h5 a;omega
 ·exact b (h6 a)
theorem TG.tail {l:List aC} (h:TG l):TG l.tail:=fun t ht=>h t (List.mem_of_mem_tail ht)
theorem Ic (l:List aC):l.tail.length≤l.length:=by rw [List.length_tail];omega
theorem sO {c:aj} {l:List aC} (h:aJ c l=true):∃a r,l=a::r:=by
 cases l with
 | nil=>cases h
 | cons a r=>exact ⟨a,r,rfl⟩
theorem yT {k:Int} {en:Nat} {l r:List aC} {t:aC} (h:fP k en l=.ok (t,r)):l=t::r∧t.kind=k:=by
 unfold fP at h
 cases l with
 | nil=>cases h
 | cons a l =>
  dsimp only at h
  split at h
  ·simp only [Except.ok.injEq,Prod.mk.injEq] at h;obtain ⟨rfl,rfl⟩:=h;exact ⟨rfl,‹_›⟩
  ·cases h
theorem sQ {c:aj} {en:Nat} {l r:List aC} (h:eY c en l=.ok r):∃a,l=a::r:=by
 unfold eY at h
 split at h
 ·rename_i hs
  obtain ⟨a,r',rfl⟩:=sO hs
  simp only [Except.ok.injEq] at h;exact ⟨a,by rw [←h];rfl⟩
 ·cases h
theorem uU {en:Nat} {l r:List aC} {nm:aj} (hl:TG l) (h:eF en l=.ok (nm,r)):aS nm=true∧∃a,l=a::r:=by
 unfold eF at h
 cases ht:fP 1 en l with
 | error er=>rw [ht] at h;cases h
 | ok y =>
  obtain ⟨t,r'⟩:=y
  rw [ht] at h
  obtain ⟨rfl,hk⟩:=yT ht
  dsimp only at h
  split at h
  ·cases h
  ·simp only [Except.ok.injEq,Prod.mk.injEq] at h
   obtain ⟨rfl,rfl⟩:=h
   exact ⟨ZK ((hl t (by simp)).name hk) (by omega),t,rfl⟩
theorem ZL {bH:Nat} {l:List aC} (h:0<opAt bH l):(8≤opAt bH l∧opAt bH l≤13)∧∃a r,l=a::r:=by
 cases l with
 | nil=>cases h
 | cons a r =>
  refine ⟨?_,a,r,rfl⟩
  have e:opAt bH (a::r)=if a.kind=5 then zx bH a.text else 0:=rfl
  rw [e] at h⊢
  by_cases hk:a.kind=5
  ·rw [if_pos hk] at h⊢
   unfold zx at h⊢
   split at h
   ·rename_i h1;rw [if_pos h1];split at h
    ·rename_i h2;rw [if_pos h2];omega
    ·omega
   ·rename_i h1;rw [if_neg h1]
    split at h
    ·rename_i h2;rw [if_pos h2]
     split at h
     ·rename_i h3;rw [if_pos h3];omega
     ·rename_i h3;rw [if_neg h3];split at h
      ·rename_i h4;rw [if_pos h4];omega
      ·omega
    ·rename_i h2;rw [if_neg h2]
     split at h
     ·rename_i h3;rw [if_pos h3];omega
     ·rename_i h3;rw [if_neg h3];split at h
      ·rename_i h4;rw [if_pos h4];omega
      ·rename_i h4;rw [if_neg h4];split at h
       ·rename_i h5;rw [if_pos h5];omega
       ·omega
  ·rw [if_neg hk] at h;omega
theorem adH {k:Int} {x y:aA} (hk:8≤k∧k≤13) (hx:GX x) (hy:GX y):GX (node2 k x y):=by
 refine Df (uT (by omega) (by omega) (by omega) (by omega) (by omega) (fun _=>?_)) (fun q hq=>?_) ⟨by rw [if_neg (by omega)],by rw [if_neg (by omega)],by rw [if_neg (by omega)]⟩ (by omega)
 ·unfold iQ;rw [if_neg (by omega),if_pos hk];rfl
 ·simp only [List.mem_cons,List.not_mem_nil,or_false] at hq
  rcases hq with rfl|rfl
  ·exact hx
  ·exact hy
theorem PO {k:Int} {x:aA} {nm:aj} (hk:(k=4∧aS nm=true)∨((k=5∨k=7)∧nm=E0)) (hx:GX x):GX (.mk k E0 0 nm [x]):=by
 refine Df (uT (by omega) (by omega) (by omega) (fun h=>?_) (by omega) (fun _=>?_)) (fun q hq=>?_) ⟨by rw [if_neg (by omega)],by rw [if_neg (by omega)],?_⟩ (by omega)
 ·rcases hk with h1|h1
  ·exact h1.2
  ·omega
 ·unfold iQ;rw [if_pos (by omega)];rfl
 ·rw [List.mem_singleton.1 hq];exact hx
 ·rcases hk with h1|h1
  ·rw [if_pos (by omega)]
  ·rw [if_neg (by omega),h1.2]
theorem PS {bH:Nat} {sub:List aC→bK aA} (hs:Gd sub):∀(f:Nat) (x:aA) (l:List aC),GX x→TG l→∀y r,lZ bH sub f x l=.ok (y,r)→GX y∧sizeT y+r.length≤sizeT x+l.length∧TG r
 | 0,x,l,hx,hl,y,r,e=>by
  rw [lZ] at e;simp only [Except.ok.injEq,Prod.mk.injEq] at e;obtain ⟨rfl,rfl⟩:=e;exact ⟨hx,Nat.le_refl _,hl⟩
 | f+1,x,l,hx,hl,y,r,e=>by
  rw [lZ] at e
  split at e
  ·rename_i hop
   obtain ⟨hk,a,l',rfl⟩:=ZL hop
   cases hsub:sub l' with
   | error er=>rw [List.tail_cons,hsub] at e;cases e
   | ok z =>
    obtain ⟨q,r2⟩:=z
    rw [List.tail_cons,hsub] at e
    obtain ⟨h1,h2,h3⟩:=hs l' hl.tail q r2 hsub
    obtain ⟨g1,g2,g3⟩:=PS hs f _ r2 (adH hk hx h1) h3 y r e
    refine ⟨g1,?_,g3⟩
    have:sizeT (node2 (opAt bH (a::l')) x q)=1+(sizeT x+(sizeT q+0)):=by unfold node2;rw [sizeT,aO,aO,aO]
    simp only [List.length_cons]
    omega
  ·simp only [Except.ok.injEq,Prod.mk.injEq] at e;obtain ⟨rfl,rfl⟩:=e;exact ⟨hx,Nat.le_refl _,hl⟩
theorem PU {bH:Nat} {sub:List aC→bK aA} (hs:Gd sub):Gd (mQ bH sub):=by
 intro l hl x r e
 unfold mQ at e
 cases hsub:sub l with
 | error er=>rw [hsub] at e;cases e
 | ok z =>
  obtain ⟨q,r2⟩:=z
  rw [hsub] at e
  obtain ⟨h1,h2,h3⟩:=hs l hl q r2 hsub
  obtain ⟨g1,g2,g3⟩:=PS hs _ _ r2 h1 h3 x r e
  exact ⟨g1,by omega,g3⟩
theorem PX {un:List aC→bK aA} (h:Gd un):Gd (Ef un):=PU (PU (PU h))
theorem Xr (g:List aC→Er):Gd (fun l=>.error (g l)):=by intro l hl x r e;cases e
theorem RV {ex:List aC→bK aA} (hx:Gd ex) (en:Nat):∀(f:Nat) (ks:List aA) (l:List aC),(∀q∈ks,GX q)→ks.length≤8→TG l→∀ys r,lD ex en f ks l=.ok (ys,r)→(∀q∈ys,GX q)∧ys.length≤8∧aO ys+r.length≤aO ks+l.length∧TG r
 | 0,ks,l,hk,h8,hl,ys,r,e=>by
  rw [lD] at e;simp only [Except.ok.injEq,Prod.mk.injEq] at e;obtain ⟨rfl,rfl⟩:=e;exact ⟨hk,h8,Nat.le_refl _,hl⟩
 | f+1,ks,l,hk,h8,hl,ys,r,e=>by
  have sz:∀(a:List aA) (x:aA),aO (a++[x])=aO a+sizeT x:=by
   intro a x
   induction a with
   | nil=>rw [List.nil_append,aO,aO,aO];omega
   | cons b a ih=>rw [List.cons_append,aO,ih,aO];omega
  rw [lD] at e
  split at e
  ·cases e
  ·rename_i h8n
   cases hex:ex l with
   | error er=>rw [hex] at e;cases e
   | ok z =>
    obtain ⟨x,r1⟩:=z
    rw [hex] at e
    dsimp only at e
    obtain ⟨g1,g2,g3⟩:=hx l hl x r1 hex
    have hk2:∀q∈ks++[x],GX q:=by
     intro q hq
     rcases List.mem_append.1 hq with hq|hq
     ·exact hk q hq
     ·rw [List.mem_singleton.1 hq];exact g1
    split at e
    ·simp only [Except.ok.injEq,Prod.mk.injEq] at e
     obtain ⟨rfl,rfl⟩:=e
     have:=Ic r1
     exact ⟨hk2,by simp;omega,by rw [sz];omega,g3.tail⟩
    ·cases hn:eY (bs [44]) en r1 with
     | error er=>rw [hn] at e;cases e
     | ok r2 =>
      rw [hn] at e
      obtain ⟨a,rfl⟩:=sQ hn
      obtain ⟨k1,k2,k3,k4⟩:=RV hx en f _ r2 hk2 (by simp;omega) g3.tail ys r e
      rw [sz] at k3
      simp only [List.length_cons] at g2
      exact ⟨k1,k2,by omega,k4⟩
theorem FH {ex pr:List aC→bK aA} {en:Nat} (hx:Gd ex) (hp:Gd pr):Gd (bP ex pr en):=by
 intro l hl x r e
 unfold bP at e
 split at e
 ·rename_i hs
  obtain ⟨a,l',rfl⟩:=sO hs
  cases hex:ex l' with
  | error er=>rw [List.tail_cons,hex] at e;cases e
  | ok z =>
   obtain ⟨q,r1⟩:=z
   rw [List.tail_cons,hex] at e
   dsimp only at e
   obtain ⟨g1,g2,g3⟩:=hx l' hl.tail q r1 hex
   cases hn:eY (bs [41]) en r1 with
   | error er=>rw [hn] at e;cases e
   | ok r2 =>
    rw [hn] at e
    obtain ⟨b,rfl⟩:=sQ hn
    simp only [Except.ok.injEq,Prod.mk.injEq] at e
    obtain ⟨rfl,rfl⟩:=e
    simp only [List.length_cons] at g2⊢
    exact ⟨g1,by omega,g3.tail⟩
 split at e
 ·rename_i hs
  obtain ⟨a,l',rfl⟩:=sO hs
  cases hex:pr l' with
  | error er=>rw [List.tail_cons,hex] at e;cases e
  | ok z =>
   obtain ⟨q,r1⟩:=z
   rw [List.tail_cons,hex] at e
   simp only [Except.ok.injEq,Prod.mk.injEq] at e
   obtain ⟨rfl,rfl⟩:=e
   obtain ⟨g1,g2,g3⟩:=hp l' hl.tail q r1 hex
   refine ⟨PO (.inr ⟨by omega,rfl⟩) g1,?_,g3⟩
   unfold node1
   rw [sizeT,aO,aO]
   simp only [List.length_cons];omega
 cases h3:fP 3 en l with
 | ok z =>
  obtain ⟨t,r1⟩:=z
  rw [h3] at e
  obtain ⟨rfl,hk⟩:=yT h3
  simp only [Except.ok.injEq,Prod.mk.injEq] at e
  obtain ⟨rfl,rfl⟩:=e
  have ht:=(hl t (by simp)).text
  refine ⟨Df (uT (by omega) (fun _=>by omega) (by omega) (by omega) (by omega) (fun _=>rfl)) (by simp) ⟨rfl,rfl,rfl⟩ (by omega),?_,hl.tail⟩
  rw [sizeT,aO];simp only [List.length_cons];omega
 | error er =>
  rw [h3] at e
  dsimp only at e
  cases h2:fP 2 en l with
  | ok z =>
   obtain ⟨t,r1⟩:=z
   rw [h2] at e
   obtain ⟨rfl,hk⟩:=yT h2
   dsimp only at e
   unfold Ce at e
   split at e
   ·cases e
   split at e
   ·cases e
   ·rename_i hn
    simp only [Except.ok.injEq,Prod.mk.injEq] at e
    obtain ⟨rfl,rfl⟩:=e
    refine ⟨Df (uT (by omega) (by omega) (by omega) (by omega) (by omega) (fun _=>rfl)) (by simp) ⟨rfl,rfl,rfl⟩ (by omega),?_,hl.tail⟩
    rw [sizeT,aO];simp only [List.length_cons];omega
  | error er =>
   rw [h2] at e
   dsimp only at e
   cases h1:eF en l with
   | error er=>rw [h1] at e;cases e
   | ok z =>
    obtain ⟨nm,r1⟩:=z
    rw [h1] at e
    dsimp only at e
    obtain ⟨hnm,a,rfl⟩:=uU hl h1
    have hr1:=hl.tail
    rw [List.tail_cons] at hr1
    split at e
    ·rename_i hs
     obtain ⟨b,l',rfl⟩:=sO hs
     cases hex:ex l' with
     | error er=>rw [List.tail_cons,hex] at e;cases e
     | ok z =>
      obtain ⟨q,r2⟩:=z
      rw [List.tail_cons,hex] at e
      dsimp only at e
      obtain ⟨g1,g2,g3⟩:=hx l' hr1.tail q r2 hex
      cases hn:eY (bs [62]) en r2 with
      | error er=>rw [hn] at e;cases e
      | ok r3 =>
       rw [hn] at e
       obtain ⟨c,rfl⟩:=sQ hn
       simp only [Except.ok.injEq,Prod.mk.injEq] at e
       obtain ⟨rfl,rfl⟩:=e
       refine ⟨PO (.inl ⟨rfl,hnm⟩) g1,?_,g3.tail⟩
       rw [sizeT,aO,aO]
       simp only [List.length_cons] at g2⊢;omega
    split at e
    ·rename_i hs
     obtain ⟨b,l',rfl⟩:=sO hs
     split at e
     ·simp only [Except.ok.injEq,Prod.mk.injEq,List.tail_cons] at e
      obtain ⟨rfl,rfl⟩:=e
      refine ⟨Df (uT (by omega) (by omega) (by omega) (fun _=>hnm) (fun _=>by simp) (by omega)) (by simp) ⟨rfl,rfl,rfl⟩ (by omega),?_,hr1.tail.tail⟩
      have:=Ic l'
      rw [sizeT,aO];simp only [List.length_cons];omega
     ·cases hargs:lD ex en 9 [] l' with
      | error er=>rw [List.tail_cons,hargs] at e;cases e
      | ok z =>
       obtain ⟨ks,r2⟩:=z
       rw [List.tail_cons,hargs] at e
       simp only [Except.ok.injEq,Prod.mk.injEq] at e
       obtain ⟨rfl,rfl⟩:=e
       obtain ⟨k1,k2,k3,k4⟩:=RV hx en 9 [] l' (by simp) (by simp) hr1.tail ks r2 hargs
       refine ⟨Df (uT (by omega) (by omega) (by omega) (fun _=>hnm) (fun _=>k2) (by omega)) k1 ⟨rfl,rfl,rfl⟩ (by omega),?_,k4⟩
       rw [aO] at k3
       rw [sizeT];simp only [List.length_cons];omega
    ·simp only [Except.ok.injEq,Prod.mk.injEq] at e
     obtain ⟨rfl,rfl⟩:=e
     refine ⟨Df (uT (by omega) (by omega) (by omega) (fun _=>hnm) (by omega) (fun _=>rfl)) (by simp) ⟨rfl,rfl,rfl⟩ (by omega),?_,hr1⟩
     rw [sizeT,aO];simp only [List.length_cons];omega
theorem aaT {un pr:List aC→bK aA} (hu:Gd un) (hp:Gd pr):Gd (ug un pr):=by
 intro l hl x r e
 unfold ug at e
 split at e
 ·rename_i hs
  obtain ⟨a,l',rfl⟩:=sO hs
  cases hex:un l' with
  | error er=>rw [List.tail_cons,hex] at e;cases e
  | ok z =>
   obtain ⟨q,r1⟩:=z
   rw [List.tail_cons,hex] at e
   simp only [Except.ok.injEq,Prod.mk.injEq] at e
   obtain ⟨rfl,rfl⟩:=e
   obtain ⟨g1,g2,g3⟩:=hu l' hl.tail q r1 hex
   refine ⟨PO (.inr ⟨by omega,rfl⟩) g1,?_,g3⟩
   unfold node1
   rw [sizeT,aO,aO]
   simp only [List.length_cons];omega
 ·exact hp l hl x r e
theorem RX (en:Nat):∀d,Gd (jv en d).1∧Gd (jv en d).2
 | 0=>by
  have e:=Xr (fun l=>(4,fV en l))
  exact ⟨aaT e (FH e e),FH e e⟩
 | d+1=>by
  obtain ⟨a,b⟩:=RX en d
  exact ⟨aaT a (FH (PX a) b),FH (PX a) b⟩
theorem RY (en d:Nat):Gd (rM en d):=by
 cases d with
 | zero=>exact Xr _
 | succ d=>exact PX (RX en d).1
end Go.Proofs.YtefjbnhpjdhjmaaGreatDoor

namespace Go.Proofs.YtefjbnhpjdhjmaaGreatDoor
set_option linter.all false
open Go.RowKit Go.Deep
set_option maxRecDepth 100000
set_option maxHeartbeats 1000000
section
variable {H:Type} {enc:TypeId×Value→H} {w:World} {spare:Nat→Bool} {held:Bool}
theorem Pn (S:Nat→Prop) (b:Nat):∀(len o:Nat) (B:Nat→Nat),(∀i,i<len→∃p,dL w S b (o+i*5) p∧sizeT p≤B i∧tH p)→
  ∃l:List aA,l.length=len∧aI w S (some ⟨b,o,none⟩) l∧aO l≤((List.range len).map B).sum∧Jd l
 | 0,o,B,_=>⟨[],rfl,by unfold aI;trivial,by simp [aO],fun x hx=>by simp [allL] at hx⟩
 | len+1,o,B,h=>by
  obtain ⟨p,hp,hs,hn⟩:=h 0 (by omega)
  obtain ⟨l,hl,hk,hsl,hnl⟩:=Pn S b len (o+5) (fun i=>B (i+1)) (fun i hi=>by
   obtain ⟨q,hq,hqs,hqn⟩:=h (i+1) (by omega)
   exact ⟨q,by rw [show o+5+i*5=o+(i+1)*5 by omega];exact hq,hqs,hqn⟩)
  refine ⟨p::l,by simp [hl],?_,?_,?_⟩
  ·unfold aI;exact ⟨b,o,rfl,by simpa using hp,hk⟩
  ·rw [aO,List.range_succ_eq_map,List.map_cons,List.sum_cons,List.map_map]
   exact Nat.add_le_add hs hsl
  ·intro x hx
   rw [allL] at hx
   rcases List.mem_append.1 hx with h|h
   ·exact hn x h
   ·exact hnl x h
theorem Jl:∀(N:Nat),N≤1048576→∀(fuel:Nat) (cs:List Value) (x:DataW H×List MemPlace),DataW.trod enc Tryz.prog w 0 spare held fuel 24 cs=some x→Rows.uptoBulk x.1≤N→
  ∃p ka cap,cs=[.int .i64 (aA.kind p),.string p.text,.int .i64 p.n,.string p.name,.slice ka p.kids.length cap]∧(p.text.size<1000000000∧p.name.size<1000000000∧p.kids.length<1000000000)∧aI w (· < w.heap.size) ka p.kids∧sizeT p≤Rows.uptoBulk x.1∧tH p:=by
 intro N
 induction N with
 | zero=>intro _ fuel cs x h hb;have:=AV x.1;omega
 | succ N ih =>
 intro hN fuel cs x h hb
 obtain ⟨xs,n,rfl,rfl,hlen,hxs,hf⟩:=DataW.trod_struct Tryz.underlying24 h
 have hcs:cs.length=5:=hlen
 match cs,hcs with
 | [v0,v1,v2,v3,v4],_ =>
 match xs,hxs with
 | [x0,x1,x2,x3,x4],_ =>
 have h0:=hf 0 _ rfl;have h1:=hf 1 _ rfl;have h2:=hf 2 _ rfl;have h3:=hf 3 _ rfl;have h4:=hf 4 _ rfl
 obtain ⟨k,e0,r0,_⟩:=DataW.trod_int (cs:=[v0]) (x:=x0) Tryz.underlying3 h0
 obtain ⟨t,e1,r1,_⟩:=DataW.trod_string (cs:=[v1]) (x:=x1) Tryz.underlying9 h1
 obtain ⟨nn,e2,r2,hwf⟩:=DataW.trod_int (cs:=[v2]) (x:=x2) Tryz.underlying2 h2
 obtain ⟨nm,e3,r3,_⟩:=DataW.trod_string (cs:=[v3]) (x:=x3) Tryz.underlying9 h3
 simp only [List.cons.injEq,and_true] at e0 e1 e2 e3
 subst e0 e1 e2 e3 r0 r1 r2 r3
 simp only [List.map_cons,List.map_nil,Rows.uptoBulk,Rows.uptoBulkAll] at hb⊢
 have hnn:nn≤9223372036854775807:=by simp only [Lit.wf,Bool.and_eq_true,decide_eq_true_eq] at hwf;exact hwf.2
 have zt:t.data.toList.length=t.size:=rfl
 have zn:nm.data.toList.length=nm.size:=rfl
 rw [zt,zn] at hb⊢
 rcases open_slice (cs:=[v4]) (x:=x4) Tryz.underlying22 h4 with ⟨e4,r4⟩|⟨a,len,cap,m,n',D,Pl,e4,_,hlc,hcm,hm,r4,hel⟩
 ·simp only [List.cons.injEq,and_true] at e4;subst e4 r4
  refine ⟨.mk k t nn nm [],none,0,rfl,⟨?_,?_,by simp⟩,by unfold aI;trivial,by simp only [sizeT,aO];omega,?_⟩
  ·rw [aA.aX];omega
  ·rw [aA.aY];omega
  ·intro x hx
   simp only [allT,allL,List.mem_singleton] at hx
   subst hx;exact hnn
 ·simp only [List.cons.injEq,and_true] at e4;subst e4
  rw [r4] at hb⊢
  simp only [Rows.uptoBulk] at hb⊢
  have hlm:len≤m:=by rw [hm];split<;>omega
  have hbl:=tK ((List.range len).map D)
  rw [List.length_map,List.length_range] at hbl
  have hsum:=CQ D (List.range len)
  have hfin:∃l:List aA,l.length=len∧aI w (· < w.heap.size) (some a) l∧aO l≤Rows.uptoBulkAll ((List.range len).map D)∧Jd l:=by
   cases len with
   | zero=>exact ⟨[],rfl,by unfold aI;trivial,by simp [aO],fun x hx=>by simp [allL] at hx⟩
   | succ len =>
    obtain ⟨cs0,hc0,_⟩:=hel 0 (by omega)
    have hc0':=(World.cells?_some hc0).2.2 0 (by decide)
    have hl0:=(World.cells?_some hc0).2.1
    obtain ⟨b,o,spot⟩:=a
    have hspot:spot=none:=by
     have hx:∃u,w.cell? ((⟨b,o,spot⟩:Addr).add (0*Tryz.prog.cellsOf 24))=some u:=by
      have:0<cs0.length:=by rw [hl0];decide
      exact ⟨cs0[0],by simpa [Addr.add,List.getElem?_eq_getElem this] using hc0'⟩
     obtain ⟨u,hu⟩:=hx
     simpa [Addr.add] using World.cell?_spot hu
    subst hspot
    obtain ⟨l,hl,hk,hs,hnl⟩:=Pn (w:=w) (· < w.heap.size) b (len+1) o (fun i=>Rows.uptoBulk (D i)) (fun i hi=>by
     obtain ⟨cs',hc,ht⟩:=hel i (by omega)
     have hbi:Rows.uptoBulk (D i)≤Rows.uptoBulkAll ((List.range (len+1)).map D):=by
      rw [←hsum];exact yK (fun i=>Rows.uptoBulk (D i)) _ i (List.mem_range.2 hi)
     obtain ⟨p,ka,cp,rfl,hz,hkk,hsz,hnp⟩:=ih (by omega) n' cs' _ ht (by simp only;omega)
     obtain ⟨_,_,hcell⟩:=World.cells?_some hc
     have ea:∀j,((⟨b,o,none⟩:Addr).add (i*Tryz.prog.cellsOf 24)).add j=⟨b,o+i*5+j,none⟩:=by
      intro j
      have e5:Tryz.prog.cellsOf 24=5:=by kernel_rfl
      rw [e5];unfold Addr.add;split<;>split<;>simp_all<;>omega
     have c0:=hcell 0 (by decide);have c1:=hcell 1 (by decide);have c2:=hcell 2 (by decide);have c3:=hcell 3 (by decide);have c4:=hcell 4 (by decide)
     rw [ea] at c0 c1 c2 c3 c4
     refine ⟨p,?_,hsz,hnp⟩
     obtain ⟨k,t,nn,nm,kids⟩:=p
     unfold dL
     exact ⟨cells_lt c0,hz,c0,c1,c2,c3,ka,cp,c4,hkk⟩)
    exact ⟨l,hl,hk,by rw [←hsum];exact hs,hnl⟩
  obtain ⟨l,rfl,hk,hs,hnl⟩:=hfin
  refine ⟨.mk k t nn nm l,some a,cap,rfl,⟨?_,?_,?_⟩,hk,?_,?_⟩
  ·rw [aA.aX];omega
  ·rw [aA.aY];omega
  ·rw [aA.aV];omega
  ·simp only [sizeT];omega
  ·intro x hx
   rw [allT] at hx
   rcases List.mem_cons.1 hx with rfl|h
   ·exact hnn
   ·exact hnl x h
theorem Jm {fuel:Nat} {v:Value} {x:DataW H×List MemPlace} (h:DataW.trod enc Tryz.prog w 0 spare held fuel 28 [v]=some x) (hb:Rows.uptoBulk x.1≤1048576) :
  ∃(l:List aj) (a:Option Addr) (cap:Nat),v=.slice a l.length cap∧l.length≤cap∧nM w (· < w.heap.size) a l∧l.length<1000000000∧∀y∈l,y.size<1000000000:=by
 rcases open_slice (cs:=[v]) (x:=x) Tryz.underlying28 h with ⟨e4,r4⟩|⟨a,len,cap,m,n',D,Pl,e4,_,hlc,hcm,hm,r4,hel⟩
 ·simp only [List.cons.injEq,and_true] at e4;subst e4
  exact ⟨[],none,0,rfl,Nat.le_refl _,fun h=>by simp at h,by simp,fun y hy=>by simp at hy⟩
 ·simp only [List.cons.injEq,and_true] at e4;subst e4
  rw [r4] at hb
  simp only [Rows.uptoBulk] at hb
  have hlm:len≤m:=by rw [hm];split<;>omega
  have hbl:=tK ((List.range len).map D)
  rw [List.length_map,List.length_range] at hbl
  have each:∀i,i<len→∃s:aj,w.cell? (a.add i)=some (.string s)∧s.size<1000000000:=by
   intro i hi
   obtain ⟨cs',hc,ht⟩:=hel i (by omega)
   obtain ⟨s,rfl,hs,_⟩:=DataW.trod_string Tryz.underlying9 ht
   have hbi:=Zj D len i hi
   have e1:D i=.lit (.string s.data.toList):=congrArg Prod.fst hs
   rw [e1,AX] at hbi
   have hce:Tryz.prog.cellsOf 9=1:=by kernel_rfl
   have h0:=(World.cells?_some hc).2.2
   rw [hce,Nat.mul_one] at h0
   have h0:=h0 0 (by decide)
   have e2:(a.add i).add 0=a.add i:=by unfold Addr.add;split<;>split<;>simp_all
   rw [e2] at h0
   exact ⟨s,h0,by omega⟩
  let g:Nat→aj:=fun i=>if h:i<len then (each i h).choose else ⟨#[]⟩
  have hg:∀i,i<len→w.cell? (a.add i)=some (.string (g i))∧(g i).size<1000000000:=by
   intro i hi
   have:=(each i hi).choose_spec
   simp only [g,dif_pos hi];exact this
  refine ⟨(List.range len).map g,some a,cap,by simp,by rw [List.length_map,List.length_range];exact hlc,fun h0=>?_,by rw [List.length_map,List.length_range];omega,fun y hy=>?_⟩
  ·rw [List.length_map,List.length_range] at h0
   obtain ⟨b,o,spot⟩:=a
   have h1:=(hg 0 h0).1
   have hspot:spot=none:=World.cell?_spot (by simpa [Addr.add] using h1)
   subst hspot
   refine ⟨b,o,rfl,cells_lt (by simpa [Addr.add] using h1),fun i hi=>?_⟩
   rw [List.length_map,List.length_range] at hi
   have:=(hg i hi).1
   rw [List.getElem_map,List.getElem_range]
   have e:(⟨b,o,none⟩:Addr).add i=⟨b,o+i,none⟩:=by unfold Addr.add;split<;>simp_all
   rw [←e];exact this
  ·obtain ⟨i,hi,rfl⟩:=List.mem_map.1 hy
   exact (hg i (List.mem_range.1 hi)).2
theorem Zt {fuel:Nat} {cs:List Value} {x:DataW H×List MemPlace} (h:DataW.trod enc Tryz.prog w 0 spare held fuel 30 cs=some x) (hb:Rows.uptoBulk x.1≤1048576) :
  ∃(s:aQ) (a:iM),cs=bZ a s∧oP s∧lT w (· < w.heap.size) a s∧StX a s:=by
 obtain ⟨xs,n,rfl,rfl,hlen,hxs,hf⟩:=DataW.trod_struct Tryz.underlying30 h
 have hcs:cs.length=24:=hlen
 match cs,hcs with
 | [v0,v1,v2,v3,v4,v5,v6,v7,v8,v9,v10,v11,v12,v13,v14,v15,v16,v17,v18,v19,v20,v21,v22,v23],_ =>
 match xs,hxs with
 | [x0,x1,x2,x3,x4,x5,x6,x7,x8,x9,x10,x11],_ =>
 simp only [List.map_cons,List.map_nil,Rows.uptoBulk,Rows.uptoBulkAll] at hb
 have h0:=hf 0 _ rfl;have h1:=hf 1 _ rfl;have h2:=hf 2 _ rfl;have h3:=hf 3 _ rfl;have h4:=hf 4 _ rfl;have h5:=hf 5 _ rfl
 have h6:=hf 6 _ rfl;have h7:=hf 7 _ rfl;have h8:=hf 8 _ rfl;have h9:=hf 9 _ rfl;have h10:=hf 10 _ rfl;have h11:=hf 11 _ rfl
 obtain ⟨s0,e0,r0,_⟩:=DataW.trod_string (cs:=[v0]) (x:=x0) Tryz.underlying9 h0
 obtain ⟨k1,e1,r1,_⟩:=DataW.trod_int (cs:=[v1]) (x:=x1) Tryz.underlying3 h1
 obtain ⟨p2,a2,c2,e2,z2,q2,t2,n2⟩:=Jl 1048576 (Nat.le_refl _) n [v2,v3,v4,v5,v6] x2 h2 (by omega)
 obtain ⟨p3,a3,c3,e3,z3,q3,t3,n3⟩:=Jl 1048576 (Nat.le_refl _) n [v7,v8,v9,v10,v11] x3 h3 (by omega)
 obtain ⟨p4,a4,c4,e4,z4,q4,t4⟩:=Zi 1048576 (Nat.le_refl _) n [v12,v13,v14,v15,v16] x4 h4 (by omega)
 obtain ⟨s5,e5,r5,_⟩:=DataW.trod_string (cs:=[v17]) (x:=x5) Tryz.underlying9 h5
 obtain ⟨s6,e6,r6,_⟩:=DataW.trod_string (cs:=[v18]) (x:=x6) Tryz.underlying9 h6
 obtain ⟨l7,a7,c7,e7,w7,q7,z7,y7⟩:=Jm (v:=v19) (x:=x7) h7 (by omega)
 obtain ⟨l8,a8,c8,e8,w8,q8,z8,y8⟩:=Jm (v:=v20) (x:=x8) h8 (by omega)
 obtain ⟨s9,e9,r9,_⟩:=DataW.trod_string (cs:=[v21]) (x:=x9) Tryz.underlying9 h9
 obtain ⟨s10,e10,r10,_⟩:=DataW.trod_string (cs:=[v22]) (x:=x10) Tryz.underlying9 h10
 obtain ⟨s11,e11,r11,_⟩:=DataW.trod_string (cs:=[v23]) (x:=x11) Tryz.underlying9 h11
 simp only [List.cons.injEq,and_true] at e0 e1 e2 e3 e4 e5 e6 e9 e10 e11
 subst e0 e1 e5 e6 e7 e8 e9 e10 e11 r0 r5 r6 r9 r10 r11
 obtain ⟨rfl,rfl,rfl,rfl,rfl⟩:=e2
 obtain ⟨rfl,rfl,rfl,rfl,rfl⟩:=e3
 obtain ⟨rfl,rfl,rfl,rfl,rfl⟩:=e4
 dsimp only at hb
 simp only [AX] at hb
 exact ⟨⟨s0,k1,p2,p3,p4,s5,s6,l7,l8,s9,s10,s11⟩,⟨a2,c2,a3,c3,a4,c4,a7,c7,a8,c8⟩,rfl,
  ⟨by dsimp only;omega,⟨z2,by dsimp only;omega⟩,⟨z3,by dsimp only;omega⟩,⟨z4,by dsimp only;omega⟩,by dsimp only;omega,by dsimp only;omega,⟨z7,y7⟩,⟨z8,y8⟩,by dsimp only;omega,by dsimp only;omega,by dsimp only;omega⟩,
  ⟨q2,q3,q4,q7,q8⟩,⟨n2,n3,w7,w8⟩⟩
end
end Go.Proofs.YtefjbnhpjdhjmaaGreatDoor
