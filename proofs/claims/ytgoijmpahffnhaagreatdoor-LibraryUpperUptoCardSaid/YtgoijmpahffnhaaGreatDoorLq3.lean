/-  -/
import Derived.Test.YtgoijmpahffnhaaGreatDoorWrong
import Derived.Test.YtgoijmpahffnhaaGreatDoorOrd
namespace Go.Proofs.YtgoijmpahffnhaaGreatDoor
set_option linter.all false
open Go.RowKit
def ug (b:Bool) (w:World) (e:Ending) (w':World):Prop:=e=.returned (.bool b)∧Kept aA w w'
end Go.Proofs.YtgoijmpahffnhaaGreatDoor

namespace Go.Proofs.YtgoijmpahffnhaaGreatDoor
set_option linter.all false
open Go.RowKit
def abg (b:Int) (w:World) (e:Ending) (w':World):Prop:=e=.returned (.int .i64 b)∧Kept aA w w'
end Go.Proofs.YtgoijmpahffnhaaGreatDoor

namespace Go.Proofs.YtgoijmpahffnhaaGreatDoor
set_option linter.all false
open Go.RowKit
section
variable {P:Program} {ops:Array Oper} {Q:Exit→Act→World→Prop}
structure pF (X:Nat→Prop) (ops:Array Oper) (Spec:Nat→Value→World→Prop) (a0:Act) (w0:World) (l:Nat→Bool) (a:Act) (w:World):Prop where
 kept:Kept X w0 w
 defers:a.defers=a0.defers
 size:a.tmps.size=a0.tmps.size
 rest:∀(t:Nat),(∀(i:Nat) (o:Oper),ops[i]?=some o→o.dst≠some t)→a.tmps.getD t undef=a0.tmps.getD t undef
 done:∀(i:Nat) (o:Oper) (d:Nat),ops[i]?=some o→l i=true→o.dst=some d→Spec i (a.tmps.getD d undef) w
 todo:∀(i:Nat) (o:Oper) (d:Nat),ops[i]?=some o→l i=false→o.dst=some d→a.tmps.getD d undef=a0.tmps.getD d undef
 closed:∀(i:Nat) (o:Oper),ops[i]?=some o→l i=true→∀e∈o.after,Region.binds .any e=true→l e.on=true
theorem pF.put {X:Nat→Prop} {Spec:Nat→Value→World→Prop} {a0:Act} {w0:World} {l l':Nat→Bool} {a:Act} {w w':World} {i:Nat} {o:Oper} {v:Value}
  (hok:zh ops a0.tmps.size=true) (hst:∀i v w w',Spec i v w→Kept X w w'→Spec i v w') (h:pF X ops Spec a0 w0 l a w) (ho:ops[i]?=some o)
  (hv:∀d,o.dst=some d→Spec i v w') (hk:Kept X w w') (hl:∀j,l' j=true↔j=i∨l j=true) (haft:∀e∈o.after,Region.binds .any e=true→l e.on=true):pF X ops Spec a0 w0 l' (a.put o.dst v) w':=by
 obtain ⟨_,hd,_⟩:=vH hok ho
 refine ⟨h.kept.trans hk,?_,?_,fun t ht=>?_,fun j p d hj hlj nG=>?_,fun j p d hj hlj nG=>?_,fun j p hj hlj e he hb=>?_⟩
 ·unfold Act.put;cases o.dst<;>exact h.defers
 ·unfold Act.put;cases o.dst
  ·exact h.size
  ·simp only [Array.size_setIfInBounds];exact h.size
 ·rw [←h.rest t ht]
  unfold Act.put
  cases hdst:o.dst with
  | none=>rfl
  | some d =>
   have hne:d≠t:=fun e=>ht i o ho (by rw [hdst,e])
   simp only [Array.getD_eq_getD_getElem?,Array.getElem?_setIfInBounds_ne hne]
 ·by_cases hji:j=i
  ·subst hji
   rw [ho] at hj;cases hj
   unfold Act.put
   rw [nG]
   simp only [Array.getD_eq_getD_getElem?,Array.getElem?_setIfInBounds_self_of_lt (show d<a.tmps.size by rw [h.size];exact (hd d nG).1),Option.getD_some]
   exact hv d nG
  ·have hold:=hst _ _ _ _ (h.done j p d hj (((hl j).1 hlj).resolve_left hji) nG) hk
   unfold Act.put
   cases hdst:o.dst with
   | none=>exact hold
   | some d' =>
    have hne:d'≠d:=fun e=>(hd d' hdst).2 j p hj hji (by rw [nG,e])
    simp only [Array.getD_eq_getD_getElem?,Array.getElem?_setIfInBounds_ne hne] at hold⊢
    exact hold
 ·have Px:l j=false:=by
   cases hx:l j with
   | false=>rfl
   | true=>rw [(hl j).2 (.inr hx)] at hlj;cases hlj
  have hji:j≠i:=fun e=>by rw [(hl j).2 (.inl e)] at hlj;cases hlj
  rw [←h.todo j p d hj Px nG]
  unfold Act.put
  cases hdst:o.dst with
  | none=>rfl
  | some d' =>
   have hne:d'≠d:=fun e=>(hd d' hdst).2 j p hj hji (by rw [nG,e])
   simp only [Array.getD_eq_getD_getElem?,Array.getElem?_setIfInBounds_ne hne]
 ·rcases (hl j).1 hlj with rfl|hx
  ·rw [ho] at hj;cases hj
   exact (hl _).2 (.inr (haft e he hb))
  ·exact (hl _).2 (.inr (h.closed j p hj hx e he hb))
theorem ZO (X:Nat→Prop) (J:(Nat→Bool)→(Nat→Value)→World→Prop) (Spec:Nat→Value→World→Prop) {id:Nat} {a0:Act} {w0:World} (hm:P.follows .mixedOrders=true) (hok:zh ops a0.tmps.size=true)
  (hst:∀i v w w',Spec i v w→Kept X w w'→Spec i v w')
  (hstep:∀(i:Nat) (o:Oper),ops[i]?=some o→∀(l:Nat→Bool) (a:Act) (w:World),pF X ops Spec a0 w0 l a w→J l (fun t=>a.tmps.getD t undef) w→l i=false→(∀e∈o.after,l e.on=true∨Region.binds .any e=false)→
   o.wp P a w (fun a' w'=>∃v,a'=a.put o.dst v∧(∀d,o.dst=some d→Spec i v w')∧Kept X w w'∧∀l',(∀j,l' j=true↔j=i∨l j=true)→J l' (fun t=>(a.put o.dst v).tmps.getD t undef) w') Q)
  (hJ0:∀l:Nat→Bool,(∀i,i<ops.size→l i=false)→J l (fun t=>a0.tmps.getD t undef) w0.drew) (hJe:∀(l l':Nat→Bool) f w,(∀i,i<ops.size→l i=l' i)→J l f w→J l' f w)
  (hend:∀(a:Act) (w:World),pF X ops Spec a0 w0 (fun _=>true) a w→J (fun _=>true) (fun t=>a.tmps.getD t undef) w→Q .normal a w):(Code.region id ops true).wp P Q a0 w0:=by
 refine wp_region_any hm ?_
 have hall:∀(l:Array Bool),l.size=ops.size→Region.ready .any ops l=[]→∀i,i<ops.size→l.getD i true=true:=by
  intro l hls hr i
  induction i using Nat.strongRecOn with
  | _ i ih =>
   intro hi
   cases hg:l.getD i true with
   | true=>rfl
   | false =>
    exfalso
    have ho:ops[i]?=some ops[i]:=Array.getElem?_eq_getElem hi
    have hm':i∈Region.ready .any ops l:=mem_ready.2 ⟨hg,ops[i],ho,fun e he _=>by
     have hlt:=(vH hok ho).2.2 e he
     have:=ih e.on hlt (by omega)
     rw [Array.getD_eq_getD_getElem?] at this⊢
     rw [Array.getElem?_eq_getElem (by omega)] at this⊢
     exact this⟩
    rw [hr] at hm';cases hm'
 have main:∀(fuel:Nat) (l:Array Bool) (a:Act) (w:World),l.size=ops.size→(List.range ops.size).countP (fun i=>!l.getD i true)≤fuel→
   pF X ops Spec a0 w0 (fun i=>l.getD i true) a w→J (fun i=>l.getD i true) (fun t=>a.tmps.getD t undef) w→wpAny P .any ops Q fuel l a w:=by
  intro fuel
  have fin:∀(l:Array Bool) (a:Act) (w:World),l.size=ops.size→Region.ready .any ops l=[]→pF X ops Spec a0 w0 (fun i=>l.getD i true) a w→J (fun i=>l.getD i true) (fun t=>a.tmps.getD t undef) w→Q .normal a w :=
   fun l a w hls hr h hj=>hend a w ⟨h.kept,h.defers,h.size,h.rest,fun i o d ho _ hd=>h.done i o d ho (hall l hls hr i (Array.getElem?_eq_some_iff.1 ho).1) hd,fun _ _ _ _ h=>(by cases h),fun _ _ _ _ _ _ _=>rfl⟩ (hJe _ _ _ _ (fun i hi=>hall l hls hr i hi) hj)
  induction fuel with
  | zero =>
   intro l a w hls hc h hj
   have hr:Region.ready .any ops l=[]:=List.eq_nil_iff_forall_not_mem.2 fun i hi=>by
    obtain ⟨hg,o,ho,_⟩:=mem_ready.1 hi
    have hlt:=(Array.getElem?_eq_some_iff.1 ho).1
    have h0:(List.range ops.size).countP (fun i=>!l.getD i true)=0:=by omega
    have:=List.countP_eq_zero.1 h0 i (List.mem_range.2 hlt)
    rw [hg] at this;exact this rfl
   exact ⟨hr,fin l a w hls hr h hj⟩
  | succ fuel ih =>
   intro l a w hls hc h hj
   refine ⟨fun hr=>fin l a w hls hr h hj,fun i hi=>?_⟩
   obtain ⟨hg,o,ho,haft⟩:=mem_ready.1 hi
   have hlt:=(Array.getElem?_eq_some_iff.1 ho).1
   have hgd:=(vH hok ho).1
   have hw:Region.wanted o (yielded ops a.tmps)=true:=by simp [Region.wanted,hgd]
   unfold wpOp
   simp only [ho,hw,if_true]
   refine .inl (Oper.wp_mono ?_ (hstep i o ho _ a w h hj hg fun e he=>?_))
   ·rintro a' w' ⟨v,rfl,hv,hk,hj'⟩
    have hset:∀j,(l.setIfInBounds i true).getD j true=true↔j=i∨l.getD j true=true:=by
     intro j
     by_cases hji:j=i
     ·subst hji
      simp only [Array.getD_eq_getD_getElem?,Array.getElem?_setIfInBounds_self_of_lt (show j<l.size by omega),Option.getD_some,true_or]
     ·simp only [Array.getD_eq_getD_getElem?,Array.getElem?_setIfInBounds_ne (Ne.symm hji),hji,false_or]
    refine ih _ _ _ (by rw [Array.size_setIfInBounds];exact hls) ?_ (h.put hok hst ho hv hk (fun j=>hset j) fun e he hb=>?_) (hj' _ fun j=>hset j)
    rotate_left
    ·have:=haft e he hb
     rw [Array.getD_eq_getD_getElem?] at this⊢
     cases hx:l[e.on]? with
     | none=>rw [hx] at this;cases this
     | some b=>rw [hx] at this;simpa using this
    have hc2:(List.range ops.size).countP (fun j=>!(l.setIfInBounds i true).getD j true)+1≤(List.range ops.size).countP (fun j=>!l.getD j true):=by
     have key:∀(r:List Nat),r.Nodup→(r.countP (fun j=>!(l.setIfInBounds i true).getD j true))+(if i∈r then 1 else 0)=r.countP (fun j=>!l.getD j true):=by
      intro r
      induction r with
      | nil=>intro _;rfl
      | cons j r ihr =>
       intro hn
       obtain ⟨hj1,hj2⟩:=List.nodup_cons.1 hn
       have ihr:=ihr hj2
       simp only [List.countP_cons,List.mem_cons]
       by_cases hji:j=i
       ·subst hji
        rw [if_neg hj1] at ihr
        have e1:(l.setIfInBounds j true).getD j true=true:=(hset j).2 (.inl rfl)
        rw [e1,hg]
        simp only [Bool.not_true,Bool.not_false,Bool.false_eq_true,if_false,if_true,true_or]
        omega
       ·have e1:(l.setIfInBounds i true).getD j true=l.getD j true:=by
         simp only [Array.getD_eq_getD_getElem?,Array.getElem?_setIfInBounds_ne (Ne.symm hji)]
        have e2:(i=j∨i∈r)↔i∈r:=⟨fun h=>h.resolve_left (Ne.symm hji),.inr⟩
        rw [e1]
        simp only [e2];omega
     have:=key (List.range ops.size) List.nodup_range
     rw [if_pos (List.mem_range.2 hlt)] at this
     omega
    omega
   ·cases hb:Region.binds .any e with
    | false=>exact .inr rfl
    | true =>
     left
     have:=haft e he hb
     rw [Array.getD_eq_getD_getElem?] at this⊢
     cases hx:l[e.on]? with
     | none=>rw [hx] at this;cases this
     | some b=>rw [hx] at this;simpa using this
 refine main _ _ _ _ (by simp) ?_ ⟨(Kept.refl X w0).drew,rfl,rfl,fun _ _=>rfl,fun i o d ho hl _=>?_,fun _ _ _ _ _ _=>rfl,fun i o ho hl=>?_⟩ (hJ0 _ fun i hi=>by simp [Array.getD_eq_getD_getElem?,hi])
 ·exact Nat.le_trans List.countP_le_length (by simp)
 all_goals
  exfalso
  have hlt:=(Array.getElem?_eq_some_iff.1 ho).1
  simp [Array.getD_eq_getD_getElem?,hlt] at hl
theorem pF.keep {X:Nat→Prop} {Spec:Nat→Value→World→Prop} {a0:Act} {w0:World} {l:Nat→Bool} {a:Act} {w:World} (h:pF X ops Spec a0 w0 l a w) (t:Nat) (v:Value) (hv:a0.tmps.getD t undef=v) (hn:(ops.toList.all fun o=>o.dst != some t)=true):a.eval (.tmp t)=v:=by
 show a.tmps.getD t undef=v
 rw [h.rest t fun i o ho e=>?_,hv]
 have:=List.all_eq_true.1 hn o (by rw [←Array.mem_def];exact Array.mem_of_getElem? ho)
 rw [e] at this;simp at this
theorem pF.dep {X:Nat→Prop} {Spec:Nat→Value→World→Prop} {a0:Act} {w0:World} {l:Nat→Bool} {a:Act} {w:World} (h:pF X ops Spec a0 w0 l a w) {after:Array Edge} (haft:∀e∈after,l e.on=true∨Region.binds .any e=false) (i t:Nat) {o:Oper}
  (ho:ops[i]?=some o) (hd:o.dst=some t) (he:(after.toList.any fun e=>e.on==i&&Region.binds .any e)=true):Spec i (a.eval (.tmp t)) w:=by
 obtain ⟨e,hm,hb⟩:=List.any_eq_true.1 he
 simp only [Bool.and_eq_true,beq_iff_eq] at hb
 obtain ⟨rfl,hb⟩:=hb
 refine h.done e.on o t ho ?_ hd
 rcases haft e (by simpa using hm) with h1|h1
 ·exact h1
 ·rw [hb] at h1;cases h1
theorem pF.act {X:Nat→Prop} {Spec:Nat→Value→World→Prop} {a0:Act} {w0:World} {l:Nat→Bool} {a:Act} {w:World} (h:pF X ops Spec a0 w0 l a w) (ds:List Nat) (hds:ops.toList.filterMap (·.dst)=ds) :
  a=⟨gV (fun t=>a.tmps.getD t undef) a0.tmps ds,a0.defers⟩:=by
 obtain ⟨tm,df⟩:=a
 have e1:=h.defers
 have e2:=h.size
 dsimp only at e1 e2⊢
 rw [e1]
 congr 1
 refine Array.ext_getElem? fun k=>?_
 rw [BK]
 by_cases hk:k∈ds∧k<a0.tmps.size
 ·rw [if_pos hk,Array.getElem?_eq_getElem (by omega),Array.getD_eq_getD_getElem?,Array.getElem?_eq_getElem (by omega)];rfl
 ·rw [if_neg hk]
  by_cases h2:k<a0.tmps.size
  ·have h3:=h.rest k fun i o ho e=>hk ⟨by rw [←hds];exact List.mem_filterMap.2 ⟨o,by rw [←Array.mem_def];exact Array.mem_of_getElem? ho,e⟩,h2⟩
   dsimp only at h3
   rw [Array.getD_eq_getD_getElem?,Array.getD_eq_getD_getElem?,Array.getElem?_eq_getElem (show k<tm.size by omega),Array.getElem?_eq_getElem h2] at h3
   rw [Array.getElem?_eq_getElem (show k<tm.size by omega),Array.getElem?_eq_getElem h2]
   simpa using h3
  ·rw [Array.getElem?_eq_none (by omega),Array.getElem?_eq_none (by omega)]
theorem Xe (X:Nat→Prop) (J:(Nat→Bool)→(Nat→Value)→World→Prop) (Spec:Nat→Value→World→Prop) {id:Nat} {a0:Act} {w0:World} (ds:List Nat) (hds:ops.toList.filterMap (·.dst)=ds) (hm:P.follows .mixedOrders=true) (hok:zh ops a0.tmps.size=true)
  (hst:∀i v w w',Spec i v w→Kept X w w'→Spec i v w')
  (hstep:∀(i:Nat) (o:Oper),ops[i]?=some o→∀(l:Nat→Bool) (a:Act) (w:World),pF X ops Spec a0 w0 l a w→J l (fun t=>a.tmps.getD t undef) w→l i=false→(∀e∈o.after,l e.on=true∨Region.binds .any e=false)→
   o.wp P a w (fun a' w'=>∃v,a'=a.put o.dst v∧(∀d,o.dst=some d→Spec i v w')∧Kept X w w'∧∀l',(∀j,l' j=true↔j=i∨l j=true)→J l' (fun t=>(a.put o.dst v).tmps.getD t undef) w') Q)
  (hJ0:∀l:Nat→Bool,(∀i,i<ops.size→l i=false)→J l (fun t=>a0.tmps.getD t undef) w0.drew) (hJe:∀(l l':Nat→Bool) f w,(∀i,i<ops.size→l i=l' i)→J l f w→J l' f w)
  (hend:∀(f:Nat→Value) (w:World),Kept X w0 w→(∀(i:Nat) (o:Oper) (d:Nat),ops[i]?=some o→o.dst=some d→Spec i (f d) w)→J (fun _=>true) f w→Q .normal ⟨gV f a0.tmps ds,a0.defers⟩ w):(Code.region id ops true).wp P Q a0 w0:=by
 refine ZO X J Spec hm hok hst hstep hJ0 hJe fun a w h hj=>?_
 rw [h.act ds hds]
 exact hend _ w h.kept (fun i o d ho hd=>h.done i o d ho rfl hd) hj
theorem pF.no {X:Nat→Prop} {Spec:Nat→Value→World→Prop} {a0:Act} {w0:World} {l:Nat→Bool} {a:Act} {w:World} (h:pF X ops Spec a0 w0 l a w) {i:Nat} (hi:l i=false) (j:Nat) {o:Oper}
  (ho:ops[j]?=some o) (he:(o.after.toList.any fun e=>e.on==i&&Region.binds .any e)=true):l j=false:=by
 cases hx:l j with
 | false=>rfl
 | true =>
  obtain ⟨e,hm,hb⟩:=List.any_eq_true.1 he
  simp only [Bool.and_eq_true,beq_iff_eq] at hb
  have:=h.closed j o ho hx e (by simpa using hm) hb.2
  rw [hb.1,hi] at this;cases this
theorem BL {l:Nat→Bool} {after:Array Edge} (haft:∀e∈after,l e.on=true∨Region.binds .any e=false) (i:Nat) (he:(after.toList.any fun e=>e.on==i&&Region.binds .any e)=true):l i=true:=by
 obtain ⟨e,hm,hb⟩:=List.any_eq_true.1 he
 simp only [Bool.and_eq_true,beq_iff_eq] at hb
 rcases haft e (by simpa using hm) with h1|h1
 ·rw [←hb.1];exact h1
 ·rw [hb.2] at h1;cases h1
theorem upd_ne {l l':Nat→Bool} {i:Nat} (h:∀j,l' j=true↔j=i∨l j=true) (j:Nat) (hj:j≠i):l' j=l j:=by
 rw [Bool.eq_iff_iff,h j];simp [hj]
theorem iC {l l':Nat→Bool} {i:Nat} (h:∀j,l' j=true↔j=i∨l j=true):l' i=true:=(h i).2 (.inl rfl)
theorem gq (x:Act) (d t:Nat) (v:Value) (h:d≠t):(x.put (some d) v).tmps.getD t undef=x.tmps.getD t undef:=by
 simp only [Act.put,Array.getD_eq_getD_getElem?,Array.getElem?_setIfInBounds_ne h]
theorem yx (x:Act) (d:Nat) (v:Value) (h:d<x.tmps.size):(x.put (some d) v).tmps.getD d undef=v:=by
 simp only [Act.put,Array.getD_eq_getD_getElem?,Array.getElem?_setIfInBounds_self_of_lt h,Option.getD_some]
theorem aK {J:(Nat→Bool)→(Nat→Value)→World→Prop} {X:Nat→Prop} {l:Nat→Bool} {i:Nat} {o:Oper} {x:Act} {w:World} {v:Value} {R:Nat→Value→World→Prop} (hr:(execOp x.eval o).run P w=.ok (.value v) w) (hs:R i v w)
  (hj:∀l',(∀j,l' j=true↔j=i∨l j=true)→J l' (fun t=>(x.put o.dst v).tmps.getD t undef) w) :
  o.wp P x w (fun a' w'=>∃v,a'=x.put o.dst v∧(∀d,o.dst=some d→R i v w')∧Kept X w w'∧∀l',(∀j,l' j=true↔j=i∨l j=true)→J l' (fun t=>(x.put o.dst v).tmps.getD t undef) w') Q:=by
 unfold Oper.wp
 rw [hr]
 exact ⟨v,rfl,fun _ _=>hs,Kept.refl _ _,hj⟩
theorem Aa {J:(Nat→Bool)→(Nat→Value)→World→Prop} {X:Nat→Prop} {l:Nat→Bool} {i:Nat} {o:Oper} {x:Act} {w w':World} {v:Value} {R:Nat→Value→World→Prop} (hr:(execOp x.eval o).run P w=.ok (.value v) w') (hs:R i v w') (hk:Kept X w w')
  (hj:∀l',(∀j,l' j=true↔j=i∨l j=true)→J l' (fun t=>(x.put o.dst v).tmps.getD t undef) w') :
  o.wp P x w (fun a' w'=>∃v,a'=x.put o.dst v∧(∀d,o.dst=some d→R i v w')∧Kept X w w'∧∀l',(∀j,l' j=true↔j=i∨l j=true)→J l' (fun t=>(x.put o.dst v).tmps.getD t undef) w') Q:=by
 unfold Oper.wp
 rw [hr]
 exact ⟨v,rfl,fun _ _=>hs,hk,hj⟩
end
end Go.Proofs.YtgoijmpahffnhaaGreatDoor
