/-  -/
import Derived.Test.YtodebjhalipefaaGreatDoorBase
import Derived.Lib.ItoaNum
import Derived.Test.YtodebjhalipefaaGreatDoorLq20
import Derived.Test.YtodebjhalipefaaGreatDoorLq2
import Derived.Test.YtodebjhalipefaaGreatDoorLq11
import Derived.Deep.AppendSrc
import Derived.Deep.AppendLies
import Derived.Test.YtodebjhalipefaaGreatDoorShelf
import Derived.WalkSmall
import Derived.Lib.LaidTab
import Derived.Shelf.Strings.BuilderK
import Derived.Test.YtodebjhalipefaaGreatDoorLq13
import Derived.Laws.IdiomStrings
namespace Go.Proofs.YtodebjhalipefaaGreatDoor
set_option linter.all false
open Go.RowKit
def eH (n:Int):Prop :=-9223372036854775808≤n∧n≤9223372036854775807
instance (n:Int):Decidable (eH n):=by unfold eH;exact inferInstance
def uV (n:Int):Option Int:=if eH n then some n else none
def qV (a b:Int):Option Int:=uV (a+b)
def aeR (a b:Int):Option Int:=uV (a-b)
def Ak (n:Nat) (below:Bool):Option Int:=if below=true then (if n≤9223372036854775808 then some (-(n:Int)) else none) else if n≤9223372036854775807 then some (n:Int) else none
def Um (a b:Int):Option Int:=Ak (a.natAbs*b.natAbs) (decide (a<0) != decide (b<0))
def Un (a b:Int):Option Int:=if b=0 then none else Ak (a.natAbs/b.natAbs) (decide (a<0) != decide (b<0))
def Ob (a b:Int):Option Int:=if b=0 then none else Ak (a.natAbs % b.natAbs) (decide (a<0))
def LX (out a:Int) (n:Nat):Option Int :=
 match (if n % 2=1 then Um out a else some out) with
 | none=>none
 | some o=>if h:n/2=0 then some o else match Um a a with
  | none=>none
  | some b=>LX o b (n/2)
 termination_by n
 decreasing_by omega
def aaZ (a n:Int):Option Int:=if n<0 then none else LX 1 a n.toNat
def aix (a b:Int):Option Int:=Ak (Nat.gcd a.natAbs b.natAbs) false
def zF (a lo hi:Nat):Nat :=
 if h:lo<hi then (if ((lo+hi+1)/2)*((lo+hi+1)/2)≤a then zF a ((lo+hi+1)/2) hi else zF a lo ((lo+hi+1)/2-1)) else lo
 termination_by hi-lo
 decreasing_by all_goals omega
def U7 (a:Int):Option Int:=if a<0 then none else some (zF a.toNat 0 3037000499:Nat)
def Yd (k:Nat):UInt8:=if k<10 then UInt8.ofNat (48+k) else UInt8.ofNat (87+k)
def zG (b:Nat) (n:Nat):List UInt8:=if h:n<b∨b<2 then [Yd n] else zG b (n/b)++[Yd (n % b)]
 termination_by n
 decreasing_by exact Nat.div_lt_self (by omega) (by omega)
def OA (n:Int) (b:Nat):aj:=⟨((if n<0 then [45] else [])++zG b n.natAbs).toArray⟩
def ab6 (n b:Int):Option aj:=if b<2∨36<b then none else some (OA n b.toNat)
def bY (n:Int):aj:=⟨(Lib.itoa n).toArray⟩
def yU (c:UInt8):Bool:=([32,9]:List UInt8).contains c
def pz (c:UInt8):Bool:=decide (48≤c.toNat∧c.toNat≤57)
def trimB (l:List UInt8):List UInt8:=((l.reverse.dropWhile yU).reverse).dropWhile yU
def yA (n:Nat) (l:List UInt8):Nat:=l.foldl (fun n c=>n*10+(c.toNat-48)) n
def sU (l:List UInt8):Option Int :=
 match l with
 | []=>some 0
 | c::r =>
  let d:=if c=43∨c=45 then r else c::r
  if d=[]∨d.all pz=false then none
  else uV (if c=45 then -(yA 0 d:Int) else (yA 0 d:Int))
def aS (t:aj):Option Int:=if 65536<t.size then none else sU (trimB t.data.toList)
def agU (c:UInt8):Option Nat:=if 48≤c.toNat∧c.toNat≤57 then some (c.toNat-48) else if 97≤c.toNat∧c.toNat≤122 then some (c.toNat-87) else none
def aa0 (b:Nat):List UInt8→Nat→Bool→Option (Nat×Bool)
 | [],n,m=>some (n,m)
 | c::r,n,m=>match agU c with
  | none=>none
  | some k=>if b≤k then none else aa0 b r ((n*b+k) % 18446744073709551616) (m||decide (18446744073709551616≤n*b)||decide (18446744073709551616≤n*b % 18446744073709551616+k))
def aa1 (t:aj) (b:Int):Option Int :=
 if b<2∨36<b then none
 else if 65536<t.size then none
 else
  let below:=match t.data.toList with|45::_=>true|_=>false
  let d:=if below then t.data.toList.tail else t.data.toList
  if d=[] then none
  else match aa0 b.toNat d 0 false with
   | none=>none
   | some (n,much)=>if much then none else Ak n below
def ab7 (t:aj):Option aj:=if 65536<t.size then none else some ⟨((t.data.toList.reverse.dropWhile yU).reverse).toArray⟩
def zH (l:List UInt8):Nat→List UInt8
 | 0=>[]
 | n+1=>l++zH l n
def U8 (t:aj) (n:Int):Option aj :=
 if 65536<t.size then none else if n<0 then none else if 0<t.size∧((65536/t.size:Nat):Int)<n then none
 else if t.size=0 then some ⟨#[]⟩ else some ⟨(zH t.data.toList n.toNat).toArray⟩
def aeZ (t:aj):Option aj:=if 65536<t.size then none else some ⟨t.data.toList.reverse.toArray⟩
def byF:List UInt8→List UInt8→UInt8→UInt8
 | a::r,b::q,c=>if c∈r then byF r q c else if c=a then b else byF r q c
 | _,_,c=>c
def U9 (t a b:aj):Option aj :=
 if 65536<t.size∨65536<a.size∨65536<b.size then none else if a.size≠b.size∨a.size=0 then none
 else some ⟨(t.data.toList.map (byF a.data.toList b.data.toList)).toArray⟩
def Jl (t:aj) (a n:Int):Option aj :=
 if 65536<t.size then none else if a<1∨(t.size:Int)+1<a∨n<0∨(t.size:Int)+1-a<n then none
 else some ⟨((t.data.toList.drop (a.toNat-1)).take n.toNat).toArray⟩
def Va (t:aj) (n:Int) (f:aj):Option aj :=
 if 65536<t.size then none else if f.size≠1 then none else if 65536<n then none
 else if n≤t.size then some ⟨#[]⟩ else some ⟨(zH f.data.toList (n.toNat-t.size)).toArray⟩
def agV (t:aj) (n:Int) (f:aj):Option aj:=(Va t n f).map (· ++ t)
def agW (t:aj) (n:Int) (f:aj):Option aj:=(Va t n f).map (t ++ ·)
def aa2 (t:aj) (n:Int):Option aj :=
 if 65536<t.size then none else if t.size=0 then some ⟨#[]⟩
 else some ⟨(t.data.toList.drop (n % t.size).toNat++t.data.toList.take (n % t.size).toNat).toArray⟩
def uG (p:List UInt8):Nat→List UInt8→Nat
 | 0,_=>0
 | _,[]=>0
 | f+1,c::r=>if p.isPrefixOf (c::r) then 1+uG p f ((c::r).drop p.length) else uG p f r
def Ye (t p:aj):Option Nat:=if 65536<t.size∨65536<p.size then none else if p.size=0 then none else some (uG p.data.toList t.size t.data.toList)
end Go.Proofs.YtodebjhalipefaaGreatDoor

namespace Go.Proofs.YtodebjhalipefaaGreatDoor
set_option linter.all false
open Go.RowKit
section
variable {P:Program} {ops:Array Oper} {Q:Exit→Act→World→Prop}
structure oN (X:Nat→Prop) (ops:Array Oper) (Spec:Nat→Value→World→Prop) (a0:Act) (w0:World) (l:Nat→Bool) (a:Act) (w:World):Prop where
 kept:Kept X w0 w
 defers:a.defers=a0.defers
 size:a.tmps.size=a0.tmps.size
 rest:∀(t:Nat),(∀(i:Nat) (o:Oper),ops[i]?=some o→o.dst≠some t)→a.tmps.getD t undef=a0.tmps.getD t undef
 done:∀(i:Nat) (o:Oper) (d:Nat),ops[i]?=some o→l i=true→o.dst=some d→Spec i (a.tmps.getD d undef) w
 todo:∀(i:Nat) (o:Oper) (d:Nat),ops[i]?=some o→l i=false→o.dst=some d→a.tmps.getD d undef=a0.tmps.getD d undef
 closed:∀(i:Nat) (o:Oper),ops[i]?=some o→l i=true→∀e∈o.after,Region.binds .any e=true→l e.on=true
theorem oN.put {X:Nat→Prop} {Spec:Nat→Value→World→Prop} {a0:Act} {w0:World} {l l':Nat→Bool} {a:Act} {w w':World} {i:Nat} {o:Oper} {v:Value}
  (hok:yB ops a0.tmps.size=true) (hst:∀i v w w',Spec i v w→Kept X w w'→Spec i v w') (h:oN X ops Spec a0 w0 l a w) (ho:ops[i]?=some o)
  (hv:∀d,o.dst=some d→Spec i v w') (hk:Kept X w w') (hl:∀j,l' j=true↔j=i∨l j=true) (haft:∀e∈o.after,Region.binds .any e=true→l e.on=true):oN X ops Spec a0 w0 l' (a.put o.dst v) w':=by
 obtain ⟨_,hd,_⟩:=uI hok ho
 refine ⟨h.kept.trans hk,?_,?_,fun t ht=>?_,fun j p d hj hlj l9=>?_,fun j p d hj hlj l9=>?_,fun j p hj hlj e he hb=>?_⟩
 ·unfold Act.put;cases o.dst<;>exact h.defers
 ·unfold Act.put;cases o.dst
  ·exact h.size
  ·simp only [Array.size_setIfInBounds];exact h.size
 ·rw [←h.rest t ht]
  unfold Act.put
  cases hdst:o.dst with
  | none=>rfl
  | some d =>
   have hne:d≠t:=fun e=>ht i o ho (by rw [hdst,e])
   simp only [Array.getD_eq_getD_getElem?,Array.getElem?_setIfInBounds_ne hne]
 ·by_cases hji:j=i
  ·subst hji
   rw [ho] at hj;cases hj
   unfold Act.put
   rw [l9]
   simp only [Array.getD_eq_getD_getElem?,Array.getElem?_setIfInBounds_self_of_lt (show d<a.tmps.size by rw [h.size];exact (hd d l9).1),Option.getD_some]
   exact hv d l9
  ·have hold:=hst _ _ _ _ (h.done j p d hj (((hl j).1 hlj).resolve_left hji) l9) hk
   unfold Act.put
   cases hdst:o.dst with
   | none=>exact hold
   | some d' =>
    have hne:d'≠d:=fun e=>(hd d' hdst).2 j p hj hji (by rw [l9,e])
    simp only [Array.getD_eq_getD_getElem?,Array.getElem?_setIfInBounds_ne hne] at hold⊢
    exact hold
 ·have OC:l j=false:=by
   cases hx:l j with
   | false=>rfl
   | true=>rw [(hl j).2 (.inr hx)] at hlj;cases hlj
  have hji:j≠i:=fun e=>by rw [(hl j).2 (.inl e)] at hlj;cases hlj
  rw [←h.todo j p d hj OC l9]
  unfold Act.put
  cases hdst:o.dst with
  | none=>rfl
  | some d' =>
   have hne:d'≠d:=fun e=>(hd d' hdst).2 j p hj hji (by rw [l9,e])
   simp only [Array.getD_eq_getD_getElem?,Array.getElem?_setIfInBounds_ne hne]
 ·rcases (hl j).1 hlj with rfl|hx
  ·rw [ho] at hj;cases hj
   exact (hl _).2 (.inr (haft e he hb))
  ·exact (hl _).2 (.inr (h.closed j p hj hx e he hb))
theorem Yk (X:Nat→Prop) (J:(Nat→Bool)→(Nat→Value)→World→Prop) (Spec:Nat→Value→World→Prop) {id:Nat} {a0:Act} {w0:World} (hm:P.follows .mixedOrders=true) (hok:yB ops a0.tmps.size=true)
  (hst:∀i v w w',Spec i v w→Kept X w w'→Spec i v w')
  (hstep:∀(i:Nat) (o:Oper),ops[i]?=some o→∀(l:Nat→Bool) (a:Act) (w:World),oN X ops Spec a0 w0 l a w→J l (fun t=>a.tmps.getD t undef) w→l i=false→(∀e∈o.after,l e.on=true∨Region.binds .any e=false)→
   o.wp P a w (fun a' w'=>∃v,a'=a.put o.dst v∧(∀d,o.dst=some d→Spec i v w')∧Kept X w w'∧∀l',(∀j,l' j=true↔j=i∨l j=true)→J l' (fun t=>(a.put o.dst v).tmps.getD t undef) w') Q)
  (hJ0:∀l:Nat→Bool,(∀i,i<ops.size→l i=false)→J l (fun t=>a0.tmps.getD t undef) w0.drew) (hJe:∀(l l':Nat→Bool) f w,(∀i,i<ops.size→l i=l' i)→J l f w→J l' f w)
  (hend:∀(a:Act) (w:World),oN X ops Spec a0 w0 (fun _=>true) a w→J (fun _=>true) (fun t=>a.tmps.getD t undef) w→Q .normal a w):(Code.region id ops true).wp P Q a0 w0:=by
 refine wp_region_any hm ?_
 have hall:∀(l:Array Bool),l.size=ops.size→Region.ready .any ops l=[]→∀i,i<ops.size→l.getD i true=true:=by
  intro l hls hr i
  induction i using Nat.strongRecOn with
  | _ i ih =>
   intro hi
   cases hg:l.getD i true with
   | true=>rfl
   | false =>
    exfalso
    have ho:ops[i]?=some ops[i]:=Array.getElem?_eq_getElem hi
    have hm':i∈Region.ready .any ops l:=mem_ready.2 ⟨hg,ops[i],ho,fun e he _=>by
     have hlt:=(uI hok ho).2.2 e he
     have:=ih e.on hlt (by omega)
     rw [Array.getD_eq_getD_getElem?] at this⊢
     rw [Array.getElem?_eq_getElem (by omega)] at this⊢
     exact this⟩
    rw [hr] at hm';cases hm'
 have main:∀(fuel:Nat) (l:Array Bool) (a:Act) (w:World),l.size=ops.size→(List.range ops.size).countP (fun i=>!l.getD i true)≤fuel→
   oN X ops Spec a0 w0 (fun i=>l.getD i true) a w→J (fun i=>l.getD i true) (fun t=>a.tmps.getD t undef) w→wpAny P .any ops Q fuel l a w:=by
  intro fuel
  have fin:∀(l:Array Bool) (a:Act) (w:World),l.size=ops.size→Region.ready .any ops l=[]→oN X ops Spec a0 w0 (fun i=>l.getD i true) a w→J (fun i=>l.getD i true) (fun t=>a.tmps.getD t undef) w→Q .normal a w :=
   fun l a w hls hr h hj=>hend a w ⟨h.kept,h.defers,h.size,h.rest,fun i o d ho _ hd=>h.done i o d ho (hall l hls hr i (Array.getElem?_eq_some_iff.1 ho).1) hd,fun _ _ _ _ h=>(by cases h),fun _ _ _ _ _ _ _=>rfl⟩ (hJe _ _ _ _ (fun i hi=>hall l hls hr i hi) hj)
  induction fuel with
  | zero =>
   intro l a w hls hc h hj
   have hr:Region.ready .any ops l=[]:=List.eq_nil_iff_forall_not_mem.2 fun i hi=>by
    obtain ⟨hg,o,ho,_⟩:=mem_ready.1 hi
    have hlt:=(Array.getElem?_eq_some_iff.1 ho).1
    have h0:(List.range ops.size).countP (fun i=>!l.getD i true)=0:=by omega
    have:=List.countP_eq_zero.1 h0 i (List.mem_range.2 hlt)
    rw [hg] at this;exact this rfl
   exact ⟨hr,fin l a w hls hr h hj⟩
  | succ fuel ih =>
   intro l a w hls hc h hj
   refine ⟨fun hr=>fin l a w hls hr h hj,fun i hi=>?_⟩
   obtain ⟨hg,o,ho,haft⟩:=mem_ready.1 hi
   have hlt:=(Array.getElem?_eq_some_iff.1 ho).1
   have hgd:=(uI hok ho).1
   have hw:Region.wanted o (yielded ops a.tmps)=true:=by simp [Region.wanted,hgd]
   unfold wpOp
   simp only [ho,hw,if_true]
   refine .inl (Oper.wp_mono ?_ (hstep i o ho _ a w h hj hg fun e he=>?_))
   ·rintro a' w' ⟨v,rfl,hv,hk,hj'⟩
    have hset:∀j,(l.setIfInBounds i true).getD j true=true↔j=i∨l.getD j true=true:=by
     intro j
     by_cases hji:j=i
     ·subst hji
      simp only [Array.getD_eq_getD_getElem?,Array.getElem?_setIfInBounds_self_of_lt (show j<l.size by omega),Option.getD_some,true_or]
     ·simp only [Array.getD_eq_getD_getElem?,Array.getElem?_setIfInBounds_ne (Ne.symm hji),hji,false_or]
    refine ih _ _ _ (by rw [Array.size_setIfInBounds];exact hls) ?_ (h.put hok hst ho hv hk (fun j=>hset j) fun e he hb=>?_) (hj' _ fun j=>hset j)
    rotate_left
    ·have:=haft e he hb
     rw [Array.getD_eq_getD_getElem?] at this⊢
     cases hx:l[e.on]? with
     | none=>rw [hx] at this;cases this
     | some b=>rw [hx] at this;simpa using this
    have hc2:(List.range ops.size).countP (fun j=>!(l.setIfInBounds i true).getD j true)+1≤(List.range ops.size).countP (fun j=>!l.getD j true):=by
     have key:∀(r:List Nat),r.Nodup→(r.countP (fun j=>!(l.setIfInBounds i true).getD j true))+(if i∈r then 1 else 0)=r.countP (fun j=>!l.getD j true):=by
      intro r
      induction r with
      | nil=>intro _;rfl
      | cons j r ihr =>
       intro hn
       obtain ⟨hj1,hj2⟩:=List.nodup_cons.1 hn
       have ihr:=ihr hj2
       simp only [List.countP_cons,List.mem_cons]
       by_cases hji:j=i
       ·subst hji
        rw [if_neg hj1] at ihr
        have e1:(l.setIfInBounds j true).getD j true=true:=(hset j).2 (.inl rfl)
        rw [e1,hg]
        simp only [Bool.not_true,Bool.not_false,Bool.false_eq_true,if_false,if_true,true_or]
        omega
       ·have e1:(l.setIfInBounds i true).getD j true=l.getD j true:=by
         simp only [Array.getD_eq_getD_getElem?,Array.getElem?_setIfInBounds_ne (Ne.symm hji)]
        have e2:(i=j∨i∈r)↔i∈r:=⟨fun h=>h.resolve_left (Ne.symm hji),.inr⟩
        rw [e1]
        simp only [e2];omega
     have:=key (List.range ops.size) List.nodup_range
     rw [if_pos (List.mem_range.2 hlt)] at this
     omega
    omega
   ·cases hb:Region.binds .any e with
    | false=>exact .inr rfl
    | true =>
     left
     have:=haft e he hb
     rw [Array.getD_eq_getD_getElem?] at this⊢
     cases hx:l[e.on]? with
     | none=>rw [hx] at this;cases this
     | some b=>rw [hx] at this;simpa using this
 refine main _ _ _ _ (by simp) ?_ ⟨(Kept.refl X w0).drew,rfl,rfl,fun _ _=>rfl,fun i o d ho hl _=>?_,fun _ _ _ _ _ _=>rfl,fun i o ho hl=>?_⟩ (hJ0 _ fun i hi=>by simp [Array.getD_eq_getD_getElem?,hi])
 ·exact Nat.le_trans List.countP_le_length (by simp)
 all_goals
  exfalso
  have hlt:=(Array.getElem?_eq_some_iff.1 ho).1
  simp [Array.getD_eq_getD_getElem?,hlt] at hl
theorem oN.keep {X:Nat→Prop} {Spec:Nat→Value→World→Prop} {a0:Act} {w0:World} {l:Nat→Bool} {a:Act} {w:World} (h:oN X ops Spec a0 w0 l a w) (t:Nat) (v:Value) (hv:a0.tmps.getD t undef=v) (hn:(ops.toList.all fun o=>o.dst != some t)=true):a.eval (.tmp t)=v:=by
 show a.tmps.getD t undef=v
 rw [h.rest t fun i o ho e=>?_,hv]
 have:=List.all_eq_true.1 hn o (by rw [←Array.mem_def];exact Array.mem_of_getElem? ho)
 rw [e] at this;simp at this
theorem oN.dep {X:Nat→Prop} {Spec:Nat→Value→World→Prop} {a0:Act} {w0:World} {l:Nat→Bool} {a:Act} {w:World} (h:oN X ops Spec a0 w0 l a w) {after:Array Edge} (haft:∀e∈after,l e.on=true∨Region.binds .any e=false) (i t:Nat) {o:Oper}
  (ho:ops[i]?=some o) (hd:o.dst=some t) (he:(after.toList.any fun e=>e.on==i&&Region.binds .any e)=true):Spec i (a.eval (.tmp t)) w:=by
 obtain ⟨e,hm,hb⟩:=List.any_eq_true.1 he
 simp only [Bool.and_eq_true,beq_iff_eq] at hb
 obtain ⟨rfl,hb⟩:=hb
 refine h.done e.on o t ho ?_ hd
 rcases haft e (by simpa using hm) with h1|h1
 ·exact h1
 ·rw [hb] at h1;cases h1
theorem oN.act {X:Nat→Prop} {Spec:Nat→Value→World→Prop} {a0:Act} {w0:World} {l:Nat→Bool} {a:Act} {w:World} (h:oN X ops Spec a0 w0 l a w) (ds:List Nat) (hds:ops.toList.filterMap (·.dst)=ds) :
  a=⟨gQ (fun t=>a.tmps.getD t undef) a0.tmps ds,a0.defers⟩:=by
 obtain ⟨tm,df⟩:=a
 have e1:=h.defers
 have e2:=h.size
 dsimp only at e1 e2⊢
 rw [e1]
 congr 1
 refine Array.ext_getElem? fun k=>?_
 rw [Ar]
 by_cases hk:k∈ds∧k<a0.tmps.size
 ·rw [if_pos hk,Array.getElem?_eq_getElem (by omega),Array.getD_eq_getD_getElem?,Array.getElem?_eq_getElem (by omega)];rfl
 ·rw [if_neg hk]
  by_cases h2:k<a0.tmps.size
  ·have h3:=h.rest k fun i o ho e=>hk ⟨by rw [←hds];exact List.mem_filterMap.2 ⟨o,by rw [←Array.mem_def];exact Array.mem_of_getElem? ho,e⟩,h2⟩
   dsimp only at h3
   rw [Array.getD_eq_getD_getElem?,Array.getD_eq_getD_getElem?,Array.getElem?_eq_getElem (show k<tm.size by omega),Array.getElem?_eq_getElem h2] at h3
   rw [Array.getElem?_eq_getElem (show k<tm.size by omega),Array.getElem?_eq_getElem h2]
   simpa using h3
  ·rw [Array.getElem?_eq_none (by omega),Array.getElem?_eq_none (by omega)]
theorem Ve (X:Nat→Prop) (J:(Nat→Bool)→(Nat→Value)→World→Prop) (Spec:Nat→Value→World→Prop) {id:Nat} {a0:Act} {w0:World} (ds:List Nat) (hds:ops.toList.filterMap (·.dst)=ds) (hm:P.follows .mixedOrders=true) (hok:yB ops a0.tmps.size=true)
  (hst:∀i v w w',Spec i v w→Kept X w w'→Spec i v w')
  (hstep:∀(i:Nat) (o:Oper),ops[i]?=some o→∀(l:Nat→Bool) (a:Act) (w:World),oN X ops Spec a0 w0 l a w→J l (fun t=>a.tmps.getD t undef) w→l i=false→(∀e∈o.after,l e.on=true∨Region.binds .any e=false)→
   o.wp P a w (fun a' w'=>∃v,a'=a.put o.dst v∧(∀d,o.dst=some d→Spec i v w')∧Kept X w w'∧∀l',(∀j,l' j=true↔j=i∨l j=true)→J l' (fun t=>(a.put o.dst v).tmps.getD t undef) w') Q)
  (hJ0:∀l:Nat→Bool,(∀i,i<ops.size→l i=false)→J l (fun t=>a0.tmps.getD t undef) w0.drew) (hJe:∀(l l':Nat→Bool) f w,(∀i,i<ops.size→l i=l' i)→J l f w→J l' f w)
  (hend:∀(f:Nat→Value) (w:World),Kept X w0 w→(∀(i:Nat) (o:Oper) (d:Nat),ops[i]?=some o→o.dst=some d→Spec i (f d) w)→J (fun _=>true) f w→Q .normal ⟨gQ f a0.tmps ds,a0.defers⟩ w):(Code.region id ops true).wp P Q a0 w0:=by
 refine Yk X J Spec hm hok hst hstep hJ0 hJe fun a w h hj=>?_
 rw [h.act ds hds]
 exact hend _ w h.kept (fun i o d ho hd=>h.done i o d ho rfl hd) hj
theorem oN.no {X:Nat→Prop} {Spec:Nat→Value→World→Prop} {a0:Act} {w0:World} {l:Nat→Bool} {a:Act} {w:World} (h:oN X ops Spec a0 w0 l a w) {i:Nat} (hi:l i=false) (j:Nat) {o:Oper}
  (ho:ops[j]?=some o) (he:(o.after.toList.any fun e=>e.on==i&&Region.binds .any e)=true):l j=false:=by
 cases hx:l j with
 | false=>rfl
 | true =>
  obtain ⟨e,hm,hb⟩:=List.any_eq_true.1 he
  simp only [Bool.and_eq_true,beq_iff_eq] at hb
  have:=h.closed j o ho hx e (by simpa using hm) hb.2
  rw [hb.1,hi] at this;cases this
theorem Au {l:Nat→Bool} {after:Array Edge} (haft:∀e∈after,l e.on=true∨Region.binds .any e=false) (i:Nat) (he:(after.toList.any fun e=>e.on==i&&Region.binds .any e)=true):l i=true:=by
 obtain ⟨e,hm,hb⟩:=List.any_eq_true.1 he
 simp only [Bool.and_eq_true,beq_iff_eq] at hb
 rcases haft e (by simpa using hm) with h1|h1
 ·rw [←hb.1];exact h1
 ·rw [hb.2] at h1;cases h1
theorem upd_ne {l l':Nat→Bool} {i:Nat} (h:∀j,l' j=true↔j=i∨l j=true) (j:Nat) (hj:j≠i):l' j=l j:=by
 rw [Bool.eq_iff_iff,h j];simp [hj]
theorem iq {l l':Nat→Bool} {i:Nat} (h:∀j,l' j=true↔j=i∨l j=true):l' i=true:=(h i).2 (.inl rfl)
theorem fZ (x:Act) (d t:Nat) (v:Value) (h:d≠t):(x.put (some d) v).tmps.getD t undef=x.tmps.getD t undef:=by
 simp only [Act.put,Array.getD_eq_getD_getElem?,Array.getElem?_setIfInBounds_ne h]
theorem xu (x:Act) (d:Nat) (v:Value) (h:d<x.tmps.size):(x.put (some d) v).tmps.getD d undef=v:=by
 simp only [Act.put,Array.getD_eq_getD_getElem?,Array.getElem?_setIfInBounds_self_of_lt h,Option.getD_some]
theorem aK {J:(Nat→Bool)→(Nat→Value)→World→Prop} {X:Nat→Prop} {l:Nat→Bool} {i:Nat} {o:Oper} {x:Act} {w:World} {v:Value} {R:Nat→Value→World→Prop} (hr:(execOp x.eval o).run P w=.ok (.value v) w) (hs:R i v w)
  (hj:∀l',(∀j,l' j=true↔j=i∨l j=true)→J l' (fun t=>(x.put o.dst v).tmps.getD t undef) w) :
  o.wp P x w (fun a' w'=>∃v,a'=x.put o.dst v∧(∀d,o.dst=some d→R i v w')∧Kept X w w'∧∀l',(∀j,l' j=true↔j=i∨l j=true)→J l' (fun t=>(x.put o.dst v).tmps.getD t undef) w') Q:=by
 unfold Oper.wp
 rw [hr]
 exact ⟨v,rfl,fun _ _=>hs,Kept.refl _ _,hj⟩
theorem zx {J:(Nat→Bool)→(Nat→Value)→World→Prop} {X:Nat→Prop} {l:Nat→Bool} {i:Nat} {o:Oper} {x:Act} {w w':World} {v:Value} {R:Nat→Value→World→Prop} (hr:(execOp x.eval o).run P w=.ok (.value v) w') (hs:R i v w') (hk:Kept X w w')
  (hj:∀l',(∀j,l' j=true↔j=i∨l j=true)→J l' (fun t=>(x.put o.dst v).tmps.getD t undef) w') :
  o.wp P x w (fun a' w'=>∃v,a'=x.put o.dst v∧(∀d,o.dst=some d→R i v w')∧Kept X w w'∧∀l',(∀j,l' j=true↔j=i∨l j=true)→J l' (fun t=>(x.put o.dst v).tmps.getD t undef) w') Q:=by
 unfold Oper.wp
 rw [hr]
 exact ⟨v,rfl,fun _ _=>hs,hk,hj⟩
end
end Go.Proofs.YtodebjhalipefaaGreatDoor

namespace Go.Proofs.YtodebjhalipefaaGreatDoor
set_option linter.all false
open Go.RowKit
theorem zl:(Tryz.prog.info? 9).map (fun i=>(i.zero,i.size,i.bytes))=some (some (.string ⟨#[]⟩),1,16):=by kernel_rfl
theorem Fa {w:World} {S:Nat→Prop} {a:Option Addr} {l:List aj} (h:aX w S a l) (c:Nat):Src Tryz.prog 1 22 (.slice a l.length c) l.length (l.map Value.string) w:=by
 cases a with
 | none =>
  have:l=[]:=by
   cases l with
   | nil=>rfl
   | cons x r=>obtain ⟨b,o,e,_⟩:=h (by simp);cases e
  subst this
  exact Src.ofNil _ Tryz.underlying22 _
 | some ad =>
  refine Src.ofSlice _ Tryz.underlying22 _ _ _ _ (by simp) (fun j u hu=>?_) (by intro u hu;obtain ⟨e,_,rfl⟩:=List.mem_map.1 hu;rfl)
  rw [List.getElem?_map] at hu
  cases hj:l[j]? with
  | none=>rw [hj] at hu;cases hu
  | some y =>
   rw [hj] at hu
   obtain ⟨hlt,hy⟩:=List.getElem?_eq_some_iff.1 hj
   obtain ⟨b,o,e,_,hc⟩:=h (by omega)
   simp only [Option.some.injEq] at e
   subst e
   have e1:(⟨b,o,none⟩:Addr).add j=⟨b,o+j,none⟩:=by unfold Addr.add;split<;>simp_all
   rw [e1,hc j hlt,hy];exact hu
theorem adB {w:World} {g:Nat} {x:aj} (hg:w.heap[g]?=some (.cells #[.string x] 9 (0,0))):Src Tryz.prog 1 22 (.slice (some ⟨g,0,none⟩) 1 1) 1 [.string x] w :=
 Fa (l:=[x]) (xK hg (S:=fun _=>True) trivial) 1
def Ch (w:World) (B n:Nat) (xs:List Value) (u:Value):Prop:=∃a c,u=.slice a n c∧aP w B 9 1 (.slice a n c) n xs
section
variable {B n1 n2 n3:Nat} {xs1 xs2 xs3:List Value} {e:aj} {b0 b3 b6 b9 b10:Bool} {u0 u3 u6 u9 u10:Value} {w w':World}
theorem Ch.alloc (h:Ch w B n1 xs1 u0) (o:Obj):Ch (w.alloc o) B n1 xs1 u0:=by
 obtain ⟨a,c,rfl,h⟩:=h
 exact ⟨a,c,rfl,h.alloc o⟩
theorem Ch.lt (h:Ch w B n1 xs1 u0) {k:Nat} (hk:u0.ownBlock=some k):B≤k∧k<w.heap.size:=by
 obtain ⟨a,c,rfl,h⟩:=h
 exact h.lt k hk
end
theorem adA {J:(Nat→Bool)→(Nat→Value)→World→Prop} {X:Nat→Prop} {l:Nat→Bool} {i:Nat} {o:Oper} {x:Act} {w:World} {R:Nat→Value→World→Prop} {Q:Exit→Act→World→Prop} (s y:Operand)
  (ho:o.op=.call {callee:=.builtin .append,args:=#[s,y],argTypes:=#[22,22]})
  {B n:Nat} {xs:List Value} {v:Value} (hs:x.eval s=v) (hown:Ch w B n xs v) (yv:Value) (m:Nat) (news:List Value) (hy:x.eval y=yv) (hsrc:Src Tryz.prog 1 22 yv m news w)
  (hn:n+m≤4000000000) (hB:B≤w.heap.size) (hX:∀k,B≤k→X k) (hR:∀v w',R i v w')
  (h:∀v' w',Ch w' B (n+m) (xs++news) v'→w.grownBy w' v.ownBlock→(v'.ownBlock=v.ownBlock∨v'.ownBlock=some w.heap.size)→∀l',(∀j,l' j=true↔j=i∨l j=true)→J l' (fun t=>(x.put o.dst v').tmps.getD t undef) w') :
  o.wp Tryz.prog x w (fun a' w'=>∃v,a'=x.put o.dst v∧(∀d,o.dst=some d→R i v w')∧Kept X w w'∧∀l',(∀j,l' j=true↔j=i∨l j=true)→J l' (fun t=>(x.put o.dst v).tmps.getD t undef) w') Q:=by
 obtain ⟨i0,hi0,hz0,hz1,hz2⟩:=info_parts zl
 obtain ⟨a,c,rfl,hW⟩:=hown
 refine qO w s y _ _ ho B 9 i0 (.string ⟨#[]⟩) 1 16 Tryz.underlying22 hi0 hz0 hz1 hz2 rfl (.slice a n c) n xs hs hW yv m news hy hsrc (by unfold maxLen;omega) (by omega) hB ?_
 intro a' c' w' hW' hgr hoo
 exact ⟨_,rfl,fun _ _=>hR _ _,(Kept.refl X w).grown hgr fun k hk=>.inl (hX k (hW.lt k hk).1),h _ _ ⟨a',c',rfl,hW'⟩ hgr hoo⟩
end Go.Proofs.YtodebjhalipefaaGreatDoor

namespace Go.Proofs.YtodebjhalipefaaGreatDoor
set_option linter.all false
open Go.RowKit
def dI (b:Nat) (t:TypeId) (vs:List Value) (w:World):Prop:=w.heap[b]?=some (.cells vs.toArray t (0,0))
section
variable {b:Nat} {t:TypeId} {vs:List Value} {w w':World}
theorem dI.lt (h:dI b t vs w):b<w.heap.size:=(Array.getElem?_eq_some_iff.1 h).1
theorem dI.kept {X:Nat→Prop} (h:dI b t vs w) (hk:Kept X w w') (hx:¬X b):dI b t vs w':=by
 unfold dI;rw [hk.block b h.lt hx];exact h
theorem dI.cell (h:dI b t vs w) {i:Nat} {v:Value} (hv:vs[i]?=some v):w.cell? ⟨b,i,none⟩=some v:=by
 unfold dI at h
 rw [cell_of_row w b _ _ _ _ h,←hv];simp
theorem dI.free (h:dI b t vs w) (i:Nat):w.frozen? ⟨b,i,none⟩=false:=by unfold dI at h;simp [World.frozen?,h]
theorem dI.set (h:dI b t vs w) (i:Nat) (v:Value):dI b t (vs.set i v) (w.setCell ⟨b,i,none⟩ v):=by
 unfold dI at *
 simp [World.setCell,Array.getElem?_modify,h]
theorem dI.new (w:World) (t:TypeId) (vs:List Value):dI w.heap.size t vs (w.alloc (.cells vs.toArray t)):=ay w _
end
theorem IU {t e:TypeId} {w:World} {g:Nat} {vs:List Value} {n:Nat} (ht:Tryz.prog.underlying t=some (.slice e)) (size:Nat) (hl:vs.length=n*size) (h:w.heap[g]?=some (.cells vs.toArray e (0,0))) (h1:∀u∈vs,u.oneCell'=true) :
  Src Tryz.prog size t (.slice (some ⟨g,0,none⟩) n n) n vs w :=
 Src.ofSlice w ht _ _ _ _ hl (World.news_of_block (by simpa using h)) h1
end Go.Proofs.YtodebjhalipefaaGreatDoor

namespace Go.Proofs.YtodebjhalipefaaGreatDoor
set_option linter.all false
open Go.RowKit
theorem Kept.of_below {w w':World} (h:Below w.heap.size w w'):Kept aA w w':=⟨h.os,h.tape,h.output,h.size,fun k hk _=>h.block k hk⟩
def aiM (l:List UInt8) (w:World) (e:Ending) (w':World):Prop:=e=.returned (.string ⟨l.toArray⟩)∧Kept aA w w'
theorem acK (a b:List UInt8):(⟨a.toArray⟩:aj)++⟨b.toArray⟩=⟨(a++b).toArray⟩:=by
 apply ByteArray.ext;simp [ByteArray.data_append]
end Go.Proofs.YtodebjhalipefaaGreatDoor

namespace Go.Proofs.YtodebjhalipefaaGreatDoor
set_option linter.all false
open Go.RowKit
def xO (l:List UInt8):List UInt8:=Lib.replaceK [39,39] [39] (Lib.count l [39,39]) l
theorem adP (l:List UInt8):Lib.replaceAll l [39,39] [39]=xO l:=by
 unfold Lib.replaceAll Lib.replace Lib.replaceNum xO
 rw [if_neg (by decide),if_pos (.inl (by decide))]
theorem Tt:xO []=[]:=by decide
theorem adQ (r:List UInt8):xO (39::39::r)=39::xO r:=by
 have hi:Lib.index (39::39::r) [39,39]=((0:Nat):Int):=by
  rw [Lib.index,if_pos (by simp [List.isPrefixOf])];rfl
 unfold xO
 rw [Lib.count_hit (by simp) hi,Nat.add_comm 1,Lib.replaceK_hit _ _ _ _ 0 hi]
 simp
theorem adR {c:UInt8} {r:List UInt8} (h:([39,39]:List UInt8).isPrefixOf (c::r)=false):xO (c::r)=c::xO r:=by
 have hge:=Lib.index_ge r [39,39]
 by_cases hm:Lib.index r [39,39] = -1
 ·have hi:Lib.index (c::r) [39,39] = -1:=by
   rw [Lib.index,if_neg (by simp [h]),if_pos (by simp [hm])]
  unfold xO
  rw [Lib.count_miss hi,Lib.count_miss hm,Lib.replaceK,Lib.replaceK]
 ·obtain ⟨i,hi⟩:∃i:Nat,Lib.index r [39,39]=i:=⟨(Lib.index r [39,39]).toNat,by omega⟩
  have hi2:Lib.index (c::r) [39,39]=((i+1:Nat):Int):=by
   rw [Lib.index,if_neg (by simp [h]),if_neg (by simp [hm]),hi]
   try omega
  unfold xO
  rw [Lib.count_hit (by simp) hi2,Lib.count_hit (by simp) hi,Nat.add_comm 1,Nat.add_comm 1,Lib.replaceK_hit _ _ _ _ (i+1) hi2,Lib.replaceK_hit _ _ _ _ i hi]
  have e1:i+1+([39,39]:List UInt8).length=(i+([39,39]:List UInt8).length)+1:=by show i+1+2=i+2+1;omega
  rw [e1,List.drop_succ_cons,List.take_succ_cons]
  rfl
theorem JI:∀(l:List UInt8) (b:List UInt8) (n:Nat),dM l=some (b,n)→xO (l.take (n-1))=b
 | [],b,n,h=>by simp [dM] at h
 | [c],b,n,h=>by
  rw [dM] at h
  split at h
  ·simp only [Option.some.injEq,Prod.mk.injEq] at h
   obtain ⟨rfl,rfl⟩:=h
   exact Tt
  ·cases h
 | c::d::r,b,n,h=>by
  rw [dM] at h
  split at h
  ·rename_i hc
   split at h
   ·rename_i hd
    cases hr:dM r with
    | none=>rw [hr] at h;cases h
    | some x =>
     obtain ⟨b',n'⟩:=x
     rw [hr] at h
     simp only [Option.map_some,Option.some.injEq,Prod.mk.injEq] at h
     obtain ⟨rfl,rfl⟩:=h
     have hn:=(uO r b' n' hr).2
     have ih:=JI r b' n' hr
     rw [show n'+2-1=(n'-1)+1+1 by omega,List.take_succ_cons,List.take_succ_cons,hc,hd,adQ,ih]
   ·simp only [Option.some.injEq,Prod.mk.injEq] at h
    obtain ⟨rfl,rfl⟩:=h
    exact Tt
  ·rename_i hc
   cases hr:dM (d::r) with
   | none=>rw [hr] at h;cases h
   | some x =>
    obtain ⟨b',n'⟩:=x
    rw [hr] at h
    simp only [Option.map_some,Option.some.injEq,Prod.mk.injEq] at h
    obtain ⟨rfl,rfl⟩:=h
    have hn:=(uO (d::r) b' n' hr).2
    have ih:=JI (d::r) b' n' hr
    rw [show n'+1-1=(n'-1)+1 by omega,List.take_succ_cons,adR (by simp [List.isPrefixOf];intro h;exact absurd h.symm hc),ih]
theorem xG (s:aj) (a m:Nat):(s.extract a (a+m)).data.toList=(s.data.toList.drop a).take m:=by
 rw [ByteArray.data_extract,Array.toList_extract,List.extract_eq_drop_take,Nat.add_sub_cancel_left]
theorem abI {s:aj} {i:Nat} {b:List UInt8} {n:Nat} (h:dM (s.data.toList.drop i)=some (b,n)):Lib.replaceAll (s.extract i (i+(n-1))).data.toList [39,39] [39]=b:=by
 rw [adP,xG]
 exact JI _ _ _ h
def oz (w:World):Prop:=∃m,w.cell? ⟨0,0,none⟩=some (.int .i64 m)
theorem oz.kept {w w':World} {X:Nat→Prop} (h:oz w) (hk:Kept X w w') (hx:¬X 0):oz w':=by
 obtain ⟨m,hm⟩:=h
 exact ⟨m,(hk.cell (cells_lt hm) hx).trans hm⟩
theorem adO (x:aj) (w:World) (hg:oz w) (hs:x.size≤1000000000) :
  Calls Tryz.prog 61 #[.string x,.string ⟨#[39,39]⟩,.string ⟨#[39]⟩] w (aiM (Lib.replaceAll x.data.toList [39,39] [39]) w):=by
 obtain ⟨m,hm⟩:=hg
 have hc:Lib.countB x ⟨#[39,39]⟩≤x.size+1:=by
  show Lib.count x.data.toList [39,39]≤_
  exact Lib.count_le _ _
 refine (Tryz.strings_ReplaceAll x ⟨#[39,39]⟩ ⟨#[39]⟩ m w (by omega) hm (by decide) (by show x.size+Lib.countB x ⟨#[39,39]⟩*1≤_;omega)).mono ?_
 rintro e w' ⟨rfl,h⟩
 exact ⟨rfl,Kept.of_below h⟩
end Go.Proofs.YtodebjhalipefaaGreatDoor

namespace Go.Proofs.YtodebjhalipefaaGreatDoor
set_option linter.all false
open Go.RowKit Go.Deep
set_option maxRecDepth 100000
section
variable {H:Type} {enc:TypeId×Value→H} {w:World} {spare:Nat→Bool} {held:Bool}
theorem Oa {fuel:Nat} {v:Value} {x:DataW H×List MemPlace} (h:DataW.trod enc Tryz.prog w 0 spare held fuel 22 [v]=some x) (hb:Rows.uptoBulk x.1≤1048576) :
  ∃(l:List aj) (a:Option Addr) (cap:Nat),v=.slice a l.length cap∧aX w (· < w.heap.size) a l∧l.length≤cap∧l.length≤1048576∧∀y∈l,y.size<1000000000:=by
 rcases open_slice (cs:=[v]) (x:=x) Tryz.underlying22 h with ⟨e4,r4⟩|⟨a,len,cap,m,n',D,Pl,e4,_,hlc,hcm,hm,r4,hel⟩
 ·simp only [List.cons.injEq,and_true] at e4;subst e4
  exact ⟨[],none,0,rfl,fun h=>by simp at h,by simp,by simp,fun y hy=>by simp at hy⟩
 ·simp only [List.cons.injEq,and_true] at e4;subst e4
  rw [r4] at hb
  simp only [Rows.uptoBulk] at hb
  have hlm:len≤m:=by rw [hm];split<;>omega
  have hbl:=zS ((List.range len).map D)
  rw [List.length_map,List.length_range] at hbl
  have each:∀i,i<len→∃s:aj,w.cell? (a.add i)=some (.string s)∧s.size<1000000000:=by
   intro i hi
   obtain ⟨cs',hc,ht⟩:=hel i (by omega)
   obtain ⟨s,rfl,hs,_⟩:=DataW.trod_string Tryz.underlying9 ht
   have hbi:Rows.uptoBulk (D i)≤Rows.uptoBulkAll ((List.range len).map D):=by
    rw [←P6 D];exact Ik (fun i=>Rows.uptoBulk (D i)) _ i (List.mem_range.2 hi)
   have e1:D i=.lit (.string s.data.toList):=congrArg Prod.fst hs
   rw [e1,QM] at hbi
   have hce:Tryz.prog.cellsOf 9=1:=by kernel_rfl
   have h0:=(World.cells?_some hc).2.2
   rw [hce,Nat.mul_one] at h0
   have h0:=h0 0 (by decide)
   have e2:(a.add i).add 0=a.add i:=by unfold Addr.add;split<;>split<;>simp_all
   rw [e2] at h0
   exact ⟨s,h0,by omega⟩
  let g:Nat→aj:=fun i=>if h:i<len then (each i h).choose else ⟨#[]⟩
  have hg:∀i,i<len→w.cell? (a.add i)=some (.string (g i))∧(g i).size<1000000000:=by
   intro i hi
   have:=(each i hi).choose_spec
   simp only [g,dif_pos hi];exact this
  refine ⟨(List.range len).map g,some a,cap,by simp,fun h0=>?_,by rw [List.length_map,List.length_range];exact hlc,by rw [List.length_map,List.length_range];omega,fun y hy=>?_⟩
  ·rw [List.length_map,List.length_range] at h0
   obtain ⟨b,o,spot⟩:=a
   have h1:=(hg 0 h0).1
   have hspot:spot=none:=World.cell?_spot (by simpa [Addr.add] using h1)
   subst hspot
   refine ⟨b,o,rfl,cells_lt (by simpa [Addr.add] using h1),fun i hi=>?_⟩
   rw [List.length_map,List.length_range] at hi
   have:=(hg i hi).1
   rw [List.getElem_map,List.getElem_range]
   have e:(⟨b,o,none⟩:Addr).add i=⟨b,o+i,none⟩:=by unfold Addr.add;split<;>simp_all
   rw [←e];exact this
  ·obtain ⟨i,hi,rfl⟩:=List.mem_map.1 hy
   exact (hg i (List.mem_range.1 hi)).2
end
end Go.Proofs.YtodebjhalipefaaGreatDoor
