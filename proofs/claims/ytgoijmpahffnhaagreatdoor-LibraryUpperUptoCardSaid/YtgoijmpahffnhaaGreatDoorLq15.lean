/-  -/
import Derived.Test.YtgoijmpahffnhaaGreatDoorLq12
import Derived.Test.YtgoijmpahffnhaaGreatDoorLq2
import Derived.Test.YtgoijmpahffnhaaGreatDoorLq3
import Derived.Deep.LoopGhost
import Derived.Test.YtgoijmpahffnhaaGreatDoorWin
import Derived.Test.YtgoijmpahffnhaaGreatDoorLq20
import Derived.Test.YtgoijmpahffnhaaGreatDoorShelf
import Derived.Test.YtgoijmpahffnhaaGreatDoorLq7
import Derived.Deep.RegionWith
import Derived.RegionDies
import Derived.Recover
import Derived.RegionTactic
import Derived.BigRegion
import Derived.BigQuiet
import Derived.Test.YtgoijmpahffnhaaGreatDoorLq1
import Derived.Test.YtgoijmpahffnhaaGreatDoorRPat
namespace Go.Proofs.YtgoijmpahffnhaaGreatDoor
set_option linter.all false
open Go.RowKit
theorem gK.at {w:World} {S:Nat→Prop}:∀{l:List aB} {cs:List Value},gK w S cs l→∀(g o:Nat),(∀j u,cs[j]?=some u→w.cell? ⟨g,o+j,none⟩=some u)→
  ∀(j:Nat) (hj:j<l.length),aX w (fun b=>S b∨b=g) g (o+j*5) l[j]
 | [],cs,h,g,o,hc,j,hj=>by simp at hj
 | p::ps,cs,h,g,o,hc,j,hj=>by
  rw [gK] at h;obtain ⟨c,r,rfl,⟨ka,cap,rfl,hz,hk⟩,h2⟩:=h
  cases j with
  | zero =>
   obtain ⟨k,t,n,nm,kids⟩:=p
   rw [List.getElem_cons_zero];unfold aX
   refine ⟨.inr rfl,hz,hc 0 _ rfl,hc 1 _ rfl,hc 2 _ rfl,hc 3 _ rfl,ka,cap,hc 4 _ rfl,aN.same (fun _ _=>rfl) (fun b h=>.inl h) _ _ hk⟩
  | succ j =>
   rw [List.getElem_cons_succ,show o+(j+1)*5=o+5+j*5 by omega]
   refine h2.at g (o+5) (fun i u hi=>?_) j (by simpa using hj)
   rw [show o+5+i=o+(5+i) by omega];exact hc _ _ (by rw [List.getElem?_append_right (by simp)];simpa using hi)
end Go.Proofs.YtgoijmpahffnhaaGreatDoor

namespace Go.Proofs.YtgoijmpahffnhaaGreatDoor
set_option linter.all false
open Go.RowKit
theorem zW:(Tryz.prog.info? 9).map (fun i=>(i.zero,i.size,i.bytes))=some (some (.string ⟨#[]⟩),1,16):=by kernel_rfl
theorem Gh {w:World} {S:Nat→Prop} {a:Option Addr} {l:List aj} (h:aQ w S a l) (c:Nat):Src Tryz.prog 1 22 (.slice a l.length c) l.length (l.map Value.string) w:=by
 cases a with
 | none =>
  have:l=[]:=by
   cases l with
   | nil=>rfl
   | cons x r=>obtain ⟨b,o,e,_⟩:=h (by simp);cases e
  subst this
  exact Src.ofNil _ Tryz.underlying22 _
 | some ad =>
  refine Src.ofSlice _ Tryz.underlying22 _ _ _ _ (by simp) (fun j u hu=>?_) (by intro u hu;obtain ⟨e,_,rfl⟩:=List.mem_map.1 hu;rfl)
  rw [List.getElem?_map] at hu
  cases hj:l[j]? with
  | none=>rw [hj] at hu;cases hu
  | some y =>
   rw [hj] at hu
   obtain ⟨hlt,hy⟩:=List.getElem?_eq_some_iff.1 hj
   obtain ⟨b,o,e,_,hc⟩:=h (by omega)
   simp only [Option.some.injEq] at e
   subst e
   have e1:(⟨b,o,none⟩:Addr).add j=⟨b,o+j,none⟩:=by unfold Addr.add;split<;>simp_all
   rw [e1,hc j hlt,hy];exact hu
theorem afg {w:World} {g:Nat} {x:aj} (hg:w.heap[g]?=some (.cells #[.string x] 9 (0,0))):Src Tryz.prog 1 22 (.slice (some ⟨g,0,none⟩) 1 1) 1 [.string x] w :=
 Gh (l:=[x]) (yI hg (S:=fun _=>True) trivial) 1
def Ch (w:World) (B n:Nat) (xs:List Value) (u:Value):Prop:=∃a c,u=.slice a n c∧aO w B 9 1 (.slice a n c) n xs
section
variable {B n1 n2 n3:Nat} {xs1 xs2 xs3:List Value} {e:aj} {b0 b3 b6 b9 b10:Bool} {u0 u3 u6 u9 u10:Value} {w w':World}
end
theorem aff {J:(Nat→Bool)→(Nat→Value)→World→Prop} {X:Nat→Prop} {l:Nat→Bool} {i:Nat} {o:Oper} {x:Act} {w:World} {R:Nat→Value→World→Prop} {Q:Exit→Act→World→Prop} (s y:Operand)
  (ho:o.op=.call {callee:=.builtin .append,args:=#[s,y],argTypes:=#[22,22]})
  {B n:Nat} {xs:List Value} {v:Value} (hs:x.eval s=v) (hown:Ch w B n xs v) (yv:Value) (m:Nat) (news:List Value) (hy:x.eval y=yv) (hsrc:Src Tryz.prog 1 22 yv m news w)
  (hn:n+m≤4000000000) (hB:B≤w.heap.size) (hX:∀k,B≤k→X k) (hR:∀v w',R i v w')
  (h:∀v' w',Ch w' B (n+m) (xs++news) v'→w.grownBy w' v.ownBlock→(v'.ownBlock=v.ownBlock∨v'.ownBlock=some w.heap.size)→∀l',(∀j,l' j=true↔j=i∨l j=true)→J l' (fun t=>(x.put o.dst v').tmps.getD t undef) w') :
  o.wp Tryz.prog x w (fun a' w'=>∃v,a'=x.put o.dst v∧(∀d,o.dst=some d→R i v w')∧Kept X w w'∧∀l',(∀j,l' j=true↔j=i∨l j=true)→J l' (fun t=>(x.put o.dst v).tmps.getD t undef) w') Q:=by
 obtain ⟨i0,hi0,hz0,hz1,hz2⟩:=info_parts zW
 obtain ⟨a,c,rfl,hW⟩:=hown
 refine rJ w s y _ _ ho B 9 i0 (.string ⟨#[]⟩) 1 16 Tryz.underlying22 hi0 hz0 hz1 hz2 rfl (.slice a n c) n xs hs hW yv m news hy hsrc (by unfold maxLen;omega) (by omega) hB ?_
 intro a' c' w' hW' hgr hoo
 exact ⟨_,rfl,fun _ _=>hR _ _,(Kept.refl X w).grown hgr fun k hk=>.inl (hX k (hW.lt k hk).1),h _ _ ⟨a',c',rfl,hW'⟩ hgr hoo⟩
end Go.Proofs.YtgoijmpahffnhaaGreatDoor

namespace Go.Proofs.YtgoijmpahffnhaaGreatDoor
set_option linter.all false
open Go.RowKit
def DT (ops:Array Oper) (n:Nat):Bool :=
 (List.range ops.size).all fun i=>match ops[i]? with
  | none=>false
  | some o=>(match o.dst with
    | none=>true
    | some d=>decide (d<n)&&(List.range ops.size).all fun j=>decide (j=i)||(match ops[j]? with|some p=>p.dst != some d|none=>true))
    && o.after.toList.all fun e=>decide (e.on<i)||!(Region.binds .any e)
section
variable {P:Program} {ops:Array Oper} {Q:Exit→Act→World→Prop}
theorem LK {n i:Nat} {o:Oper} (h:DT ops n=true) (ho:ops[i]?=some o) :
  (∀d,o.dst=some d→d<n∧∀j p,ops[j]?=some p→j≠i→p.dst≠some d)∧∀e∈o.after,Region.binds .any e=true→e.on<i:=by
 have hi:i<ops.size:=(Array.getElem?_eq_some_iff.1 ho).1
 unfold DT at h
 have h1:=List.all_eq_true.1 h i (List.mem_range.2 hi)
 simp only [ho,Bool.and_eq_true] at h1
 obtain ⟨h3,h4⟩:=h1
 refine ⟨fun d hd=>?_,fun e he hb=>?_⟩
 ·rw [hd] at h3
  simp only [Bool.and_eq_true,decide_eq_true_eq] at h3
  refine ⟨h3.1,fun j p hj hji=>?_⟩
  have hjs:j<ops.size:=(Array.getElem?_eq_some_iff.1 hj).1
  have h5:=List.all_eq_true.1 h3.2 j (List.mem_range.2 hjs)
  simp only [Bool.or_eq_true,decide_eq_true_eq,hj] at h5
  rcases h5 with h5|h5
  ·exact absurd h5 hji
  ·simpa using h5
 ·have:=List.all_eq_true.1 h4 e (by simpa using he)
  simpa [hb] using this
theorem pF.ajL {X:Nat→Prop} {Spec:Nat→Value→World→Prop} {a0:Act} {w0:World} {l l':Nat→Bool} {a:Act} {w w':World} {i:Nat} {o:Oper} {v:Value}
  (hok:DT ops a0.tmps.size=true) (hst:∀i v w w',Spec i v w→Kept X w w'→Spec i v w') (h:pF X ops Spec a0 w0 l a w) (ho:ops[i]?=some o)
  (hv:∀d,o.dst=some d→Spec i v w') (hk:Kept X w w') (hl:∀j,l' j=true↔j=i∨l j=true) (haft:∀e∈o.after,Region.binds .any e=true→l e.on=true):pF X ops Spec a0 w0 l' (a.put o.dst v) w':=by
 obtain ⟨hd,_⟩:=LK hok ho
 refine ⟨h.kept.trans hk,?_,?_,fun t ht=>?_,fun j p d hj hlj nG=>?_,fun j p d hj hlj nG=>?_,fun j p hj hlj e he hb=>?_⟩
 ·unfold Act.put;cases o.dst<;>exact h.defers
 ·unfold Act.put;cases o.dst
  ·exact h.size
  ·simp only [Array.size_setIfInBounds];exact h.size
 ·rw [←h.rest t ht]
  unfold Act.put
  cases hdst:o.dst with
  | none=>rfl
  | some d =>
   have hne:d≠t:=fun e=>ht i o ho (by rw [hdst,e])
   simp only [Array.getD_eq_getD_getElem?,Array.getElem?_setIfInBounds_ne hne]
 ·by_cases hji:j=i
  ·subst hji
   rw [ho] at hj;cases hj
   unfold Act.put
   rw [nG]
   simp only [Array.getD_eq_getD_getElem?,Array.getElem?_setIfInBounds_self_of_lt (show d<a.tmps.size by rw [h.size];exact (hd d nG).1),Option.getD_some]
   exact hv d nG
  ·have hold:=hst _ _ _ _ (h.done j p d hj (((hl j).1 hlj).resolve_left hji) nG) hk
   unfold Act.put
   cases hdst:o.dst with
   | none=>exact hold
   | some d' =>
    have hne:d'≠d:=fun e=>(hd d' hdst).2 j p hj hji (by rw [nG,e])
    simp only [Array.getD_eq_getD_getElem?,Array.getElem?_setIfInBounds_ne hne] at hold⊢
    exact hold
 ·have Px:l j=false:=by
   cases hx:l j with
   | false=>rfl
   | true=>rw [(hl j).2 (.inr hx)] at hlj;cases hlj
  have hji:j≠i:=fun e=>by rw [(hl j).2 (.inl e)] at hlj;cases hlj
  rw [←h.todo j p d hj Px nG]
  unfold Act.put
  cases hdst:o.dst with
  | none=>rfl
  | some d' =>
   have hne:d'≠d:=fun e=>(hd d' hdst).2 j p hj hji (by rw [nG,e])
   simp only [Array.getD_eq_getD_getElem?,Array.getElem?_setIfInBounds_ne hne]
 ·rcases (hl j).1 hlj with rfl|hx
  ·rw [ho] at hj;cases hj
   exact (hl _).2 (.inr (haft e he hb))
  ·exact (hl _).2 (.inr (h.closed j p hj hx e he hb))
theorem Xd (X:Nat→Prop) (J:(Nat→Bool)→(Nat→Value)→World→Prop) (Spec:Nat→Value→World→Prop) {id:Nat} {a0:Act} {w0:World} (hm:P.follows .mixedOrders=true) (hok:DT ops a0.tmps.size=true)
  (hst:∀i v w w',Spec i v w→Kept X w w'→Spec i v w')
  (hstep:∀(i:Nat) (o:Oper),ops[i]?=some o→∀(l:Nat→Bool) (a:Act) (w:World),pF X ops Spec a0 w0 l a w→J l (fun t=>a.tmps.getD t undef) w→l i=false→(∀e∈o.after,l e.on=true∨Region.binds .any e=false)→
   if Region.wanted o (yielded ops a.tmps)=true then o.wp P a w (fun a' w'=>∃v,a'=a.put o.dst v∧(∀d,o.dst=some d→Spec i v w')∧Kept X w w'∧∀l',(∀j,l' j=true↔j=i∨l j=true)→J l' (fun t=>(a.put o.dst v).tmps.getD t undef) w') Q
   else (∀d,o.dst=some d→Spec i undef w)∧∀l',(∀j,l' j=true↔j=i∨l j=true)→J l' (fun t=>(a.put o.dst undef).tmps.getD t undef) w)
  (hJ0:∀l:Nat→Bool,(∀i,i<ops.size→l i=false)→J l (fun t=>a0.tmps.getD t undef) w0.drew) (hJe:∀(l l':Nat→Bool) f w,(∀i,i<ops.size→l i=l' i)→J l f w→J l' f w)
  (hend:∀(a:Act) (w:World),pF X ops Spec a0 w0 (fun _=>true) a w→J (fun _=>true) (fun t=>a.tmps.getD t undef) w→Q .normal a w):(Code.region id ops true).wp P Q a0 w0:=by
 refine wp_region_any hm ?_
 have hall:∀(l:Array Bool),l.size=ops.size→Region.ready .any ops l=[]→∀i,i<ops.size→l.getD i true=true:=by
  intro l hls hr i
  induction i using Nat.strongRecOn with
  | _ i ih =>
   intro hi
   cases hg:l.getD i true with
   | true=>rfl
   | false =>
    exfalso
    have ho:ops[i]?=some ops[i]:=Array.getElem?_eq_getElem hi
    have hm':i∈Region.ready .any ops l:=mem_ready.2 ⟨hg,ops[i],ho,fun e he hbe=>by
     have hlt:=(LK hok ho).2 e he hbe
     have:=ih e.on hlt (by omega)
     rw [Array.getD_eq_getD_getElem?] at this⊢
     rw [Array.getElem?_eq_getElem (by omega)] at this⊢
     exact this⟩
    rw [hr] at hm';cases hm'
 have main:∀(fuel:Nat) (l:Array Bool) (a:Act) (w:World),l.size=ops.size→(List.range ops.size).countP (fun i=>!l.getD i true)≤fuel→
   pF X ops Spec a0 w0 (fun i=>l.getD i true) a w→J (fun i=>l.getD i true) (fun t=>a.tmps.getD t undef) w→wpAny P .any ops Q fuel l a w:=by
  intro fuel
  have fin:∀(l:Array Bool) (a:Act) (w:World),l.size=ops.size→Region.ready .any ops l=[]→pF X ops Spec a0 w0 (fun i=>l.getD i true) a w→J (fun i=>l.getD i true) (fun t=>a.tmps.getD t undef) w→Q .normal a w :=
   fun l a w hls hr h hj=>hend a w ⟨h.kept,h.defers,h.size,h.rest,fun i o d ho _ hd=>h.done i o d ho (hall l hls hr i (Array.getElem?_eq_some_iff.1 ho).1) hd,fun _ _ _ _ h=>(by cases h),fun _ _ _ _ _ _ _=>rfl⟩ (hJe _ _ _ _ (fun i hi=>hall l hls hr i hi) hj)
  induction fuel with
  | zero =>
   intro l a w hls hc h hj
   have hr:Region.ready .any ops l=[]:=List.eq_nil_iff_forall_not_mem.2 fun i hi=>by
    obtain ⟨hg,o,ho,_⟩:=mem_ready.1 hi
    have hlt:=(Array.getElem?_eq_some_iff.1 ho).1
    have h0:(List.range ops.size).countP (fun i=>!l.getD i true)=0:=by omega
    have:=List.countP_eq_zero.1 h0 i (List.mem_range.2 hlt)
    rw [hg] at this;exact this rfl
   exact ⟨hr,fin l a w hls hr h hj⟩
  | succ fuel ih =>
   intro l a w hls hc h hj
   refine ⟨fun hr=>fin l a w hls hr h hj,fun i hi=>?_⟩
   obtain ⟨hg,o,ho,haft⟩:=mem_ready.1 hi
   have hlt:=(Array.getElem?_eq_some_iff.1 ho).1
   have cont:∀(v:Value) (w':World),(∀d,o.dst=some d→Spec i v w')→Kept X w w'→(∀l',(∀j,l' j=true↔j=i∨l.getD j true=true)→J l' (fun t=>(a.put o.dst v).tmps.getD t undef) w')→wpAny P .any ops Q fuel (l.setIfInBounds i true) (a.put o.dst v) w':=by
    intro v w' hv hk hj'
    have hset:∀j,(l.setIfInBounds i true).getD j true=true↔j=i∨l.getD j true=true:=by
     intro j
     by_cases hji:j=i
     ·subst hji
      simp only [Array.getD_eq_getD_getElem?,Array.getElem?_setIfInBounds_self_of_lt (show j<l.size by omega),Option.getD_some,true_or]
     ·simp only [Array.getD_eq_getD_getElem?,Array.getElem?_setIfInBounds_ne (Ne.symm hji),hji,false_or]
    refine ih _ _ _ (by rw [Array.size_setIfInBounds];exact hls) ?_ (h.ajL hok hst ho hv hk (fun j=>hset j) fun e he hb=>?_) (hj' _ fun j=>hset j)
    rotate_left
    ·have:=haft e he hb
     rw [Array.getD_eq_getD_getElem?] at this⊢
     cases hx:l[e.on]? with
     | none=>rw [hx] at this;cases this
     | some b=>rw [hx] at this;simpa using this
    have hc2:(List.range ops.size).countP (fun j=>!(l.setIfInBounds i true).getD j true)+1≤(List.range ops.size).countP (fun j=>!l.getD j true):=by
     have key:∀(r:List Nat),r.Nodup→(r.countP (fun j=>!(l.setIfInBounds i true).getD j true))+(if i∈r then 1 else 0)=r.countP (fun j=>!l.getD j true):=by
      intro r
      induction r with
      | nil=>intro _;rfl
      | cons j r ihr =>
       intro hn
       obtain ⟨hj1,hj2⟩:=List.nodup_cons.1 hn
       have ihr:=ihr hj2
       simp only [List.countP_cons,List.mem_cons]
       by_cases hji:j=i
       ·subst hji
        rw [if_neg hj1] at ihr
        have e1:(l.setIfInBounds j true).getD j true=true:=(hset j).2 (.inl rfl)
        rw [e1,hg]
        simp only [Bool.not_true,Bool.not_false,Bool.false_eq_true,if_false,if_true,true_or]
        omega
       ·have e1:(l.setIfInBounds i true).getD j true=l.getD j true:=by
         simp only [Array.getD_eq_getD_getElem?,Array.getElem?_setIfInBounds_ne (Ne.symm hji)]
        have e2:(i=j∨i∈r)↔i∈r:=⟨fun h=>h.resolve_left (Ne.symm hji),.inr⟩
        rw [e1]
        simp only [e2];omega
     have:=key (List.range ops.size) List.nodup_range
     rw [if_pos (List.mem_range.2 hlt)] at this
     omega
    omega
   have hs:=hstep i o ho (fun i=>l.getD i true) a w h hj hg fun e he=>by
     cases hb:Region.binds .any e with
     | false=>exact .inr rfl
     | true =>
      left
      have:=haft e he hb
      rw [Array.getD_eq_getD_getElem?] at this⊢
      cases hx:l[e.on]? with
      | none=>rw [hx] at this;cases this
      | some b=>rw [hx] at this;simpa using this
   unfold wpOp
   simp only [ho]
   by_cases hw:Region.wanted o (yielded ops a.tmps)=true
   ·rw [if_pos hw] at hs⊢
    refine .inl (Oper.wp_mono ?_ hs)
    rintro a' w' ⟨v,rfl,hv,hk,hj'⟩
    exact cont v w' hv hk hj'
   ·rw [if_neg hw] at hs⊢
    exact cont undef w hs.1 (Kept.refl _ _) hs.2
 refine main _ _ _ _ (by simp) ?_ ⟨(Kept.refl X w0).drew,rfl,rfl,fun _ _=>rfl,fun i o d ho hl _=>?_,fun _ _ _ _ _ _=>rfl,fun i o ho hl=>?_⟩ (hJ0 _ fun i hi=>by simp [Array.getD_eq_getD_getElem?,hi])
 ·exact Nat.le_trans List.countP_le_length (by simp)
 all_goals
  exfalso
  have hlt:=(Array.getElem?_eq_some_iff.1 ho).1
  simp [Array.getD_eq_getD_getElem?,hlt] at hl
theorem iV (X:Nat→Prop) (J:(Nat→Bool)→(Nat→Value)→World→Prop) (Spec:Nat→Value→World→Prop) {id:Nat} {a0:Act} {w0:World} (ds:List Nat) (hds:ops.toList.filterMap (·.dst)=ds) (hm:P.follows .mixedOrders=true) (hok:DT ops a0.tmps.size=true)
  (hst:∀i v w w',Spec i v w→Kept X w w'→Spec i v w')
  (hstep:∀(i:Nat) (o:Oper),ops[i]?=some o→∀(l:Nat→Bool) (a:Act) (w:World),pF X ops Spec a0 w0 l a w→J l (fun t=>a.tmps.getD t undef) w→l i=false→(∀e∈o.after,l e.on=true∨Region.binds .any e=false)→
   if Region.wanted o (yielded ops a.tmps)=true then o.wp P a w (fun a' w'=>∃v,a'=a.put o.dst v∧(∀d,o.dst=some d→Spec i v w')∧Kept X w w'∧∀l',(∀j,l' j=true↔j=i∨l j=true)→J l' (fun t=>(a.put o.dst v).tmps.getD t undef) w') Q
   else (∀d,o.dst=some d→Spec i undef w)∧∀l',(∀j,l' j=true↔j=i∨l j=true)→J l' (fun t=>(a.put o.dst undef).tmps.getD t undef) w)
  (hJ0:∀l:Nat→Bool,(∀i,i<ops.size→l i=false)→J l (fun t=>a0.tmps.getD t undef) w0.drew) (hJe:∀(l l':Nat→Bool) f w,(∀i,i<ops.size→l i=l' i)→J l f w→J l' f w)
  (hend:∀(f:Nat→Value) (w:World),Kept X w0 w→(∀(i:Nat) (o:Oper) (d:Nat),ops[i]?=some o→o.dst=some d→Spec i (f d) w)→J (fun _=>true) f w→Q .normal ⟨gV f a0.tmps ds,a0.defers⟩ w):(Code.region id ops true).wp P Q a0 w0:=by
 refine Xd X J Spec hm hok hst hstep hJ0 hJe fun a w h hj=>?_
 rw [h.act ds hds]
 exact hend _ w h.kept (fun i o d ho hd=>h.done i o d ho rfl hd) hj
theorem aV {o:Oper} {a:Act} {p q:Prop} (h:o.guard=none) (hp:p):if Region.wanted o (yielded ops a.tmps)=true then p else q:=by
 rw [if_pos (by simp [Region.wanted,h])];exact hp
theorem iy {J:(Nat→Bool)→(Nat→Value)→World→Prop} {X:Nat→Prop} {l:Nat→Bool} {i:Nat} {o:Oper} {x:Act} {w w':World} {R:Nat→Value→World→Prop} (hr:(execOp x.eval o).run P w=.ok .skip w') (hd:o.dst=none) (hk:Kept X w w')
  (hj:∀l',(∀j,l' j=true↔j=i∨l j=true)→J l' (fun t=>(x.put o.dst undef).tmps.getD t undef) w') :
  o.wp P x w (fun a' w'=>∃v,a'=x.put o.dst v∧(∀d,o.dst=some d→R i v w')∧Kept X w w'∧∀l',(∀j,l' j=true↔j=i∨l j=true)→J l' (fun t=>(x.put o.dst v).tmps.getD t undef) w') Q:=by
 unfold Oper.wp
 rw [hr]
 exact ⟨undef,by first|rfl|(rw [hd];rfl),fun d (h:o.dst=some d)=>(by rw [hd] at h;cases h),hk,hj⟩
theorem rZ {J:(Nat→Bool)→(Nat→Value)→World→Prop} {X:Nat→Prop} {l:Nat→Bool} {i:Nat} {o:Oper} {x:Act} {w:World} {R:Nat→Value→World→Prop} {F:World→Prop} (hr:∃w',(execOp x.eval o).run P w=.ok .skip w'∧F w') (hd:o.dst=none) (hk:∀w',F w'→Kept X w w')
  (hj:∀w',F w'→∀l',(∀j,l' j=true↔j=i∨l j=true)→J l' (fun t=>(x.put o.dst undef).tmps.getD t undef) w') :
  o.wp P x w (fun a' w'=>∃v,a'=x.put o.dst v∧(∀d,o.dst=some d→R i v w')∧Kept X w w'∧∀l',(∀j,l' j=true↔j=i∨l j=true)→J l' (fun t=>(x.put o.dst v).tmps.getD t undef) w') Q:=by
 obtain ⟨w',hr,hf⟩:=hr
 exact iy hr hd (hk w' hf) (hj w' hf)
theorem LP {J:(Nat→Bool)→(Nat→Value)→World→Prop} {X:Nat→Prop} {l:Nat→Bool} {i:Nat} {o:Oper} {x:Act} {w:World} {f:FuncId} {args:Array Value} {R:Nat→Value→World→Prop} (hr:(execOp x.eval o).run P w=.ok (.enter f args) w)
  (hc:Calls P f args w fun e w'=>(∃v,e=.returned v∧R i v w'∧Kept X w w'∧∀l',(∀j,l' j=true↔j=i∨l j=true)→J l' (fun t=>(x.put o.dst v).tmps.getD t undef) w')∨∃ps,e=.panicked ps∧Q (.panic ps) x w') :
  o.wp P x w (fun a' w'=>∃v,a'=x.put o.dst v∧(∀d,o.dst=some d→R i v w')∧Kept X w w'∧∀l',(∀j,l' j=true↔j=i∨l j=true)→J l' (fun t=>(x.put o.dst v).tmps.getD t undef) w') Q:=by
 unfold Oper.wp
 rw [hr]
 refine Calls.mono hc ?_
 rintro e w' (⟨v,rfl,hs,hk,hj⟩|⟨ps,rfl,hq⟩)
 ·exact ⟨v,rfl,fun _ _=>hs,hk,hj⟩
 ·exact hq
end
end Go.Proofs.YtgoijmpahffnhaaGreatDoor

namespace Go.Proofs.YtgoijmpahffnhaaGreatDoor
set_option linter.all false
open Go.RowKit
theorem lT {ops:Array Oper} {o oj:Oper} {x:Act} {j d:Nat} {b:Bool} {p q:Prop} (hg:o.guard=some (j,b)) (ho:ops[j]?=some oj) (hd:oj.dst=some d) (hv:x.eval (.tmp d)=.bool b) (hlt:d<x.tmps.size) (hp:p) :
  if Region.wanted o (yielded ops x.tmps)=true then p else q:=by
 have hv':x.tmps[d]?=some (.bool b):=by
  have:x.tmps.getD d undef=.bool b:=hv
  rw [Array.getD_eq_getD_getElem?,Array.getElem?_eq_getElem hlt] at this
  rw [Array.getElem?_eq_getElem hlt]
  exact congrArg some this
 have hw:Region.wanted o (yielded ops x.tmps)=true:=by
  simp only [Region.wanted,hg,yielded,ho,Option.bind_some,hd,hv']
  cases b<;>rfl
 rw [if_pos hw];exact hp
end Go.Proofs.YtgoijmpahffnhaaGreatDoor

namespace Go.Proofs.YtgoijmpahffnhaaGreatDoor
set_option linter.all false
open Go.RowKit
def E0:aj:=⟨#[]⟩
end Go.Proofs.YtgoijmpahffnhaaGreatDoor

namespace Go.Proofs.YtgoijmpahffnhaaGreatDoor
set_option linter.all false
open Go.RowKit
def aaB (B:Nat) (p:aB) (w':World) (v:Value):Prop:=∃S:Nat→Prop,(∀b,S b→B≤b∧b<w'.heap.size)∧oV w' S v p
theorem Kept.fP {X:Nat→Prop} {a w:World} (h:Kept X a w) {M:Nat} (hM:X M∨a.heap.size≤M) (c0 c1 c2 c3 c4:Value):Kept X a (fP w M c0 c1 c2 c3 c4) :=
 ((((h.setCell (p:=⟨M,0,none⟩) hM _).setCell (p:=⟨M,1,none⟩) hM _).setCell (p:=⟨M,2,none⟩) hM _).setCell (p:=⟨M,3,none⟩) hM _).setCell (p:=⟨M,4,none⟩) hM _
end Go.Proofs.YtgoijmpahffnhaaGreatDoor

namespace Go.Proofs.YtgoijmpahffnhaaGreatDoor
set_option linter.all false
open Go.RowKit
theorem gK.pats {w:World} {S:Nat→Prop}:∀{l:List aB} {cs:List Value},gK w S cs l→∀(g o:Nat),(∀j u,cs[j]?=some u→w.cell? ⟨g,o+j,none⟩=some u)→aN w (fun b=>S b∨b=g) (some ⟨g,o,none⟩) l
 | [],cs,h,g,o,hc=>by unfold aN;trivial
 | p::ps,cs,h,g,o,hc=>by
  rw [gK] at h;obtain ⟨c,r,rfl,⟨ka,cap,rfl,hz,hk⟩,h2⟩:=h
  unfold aN
  refine ⟨g,o,rfl,?_,h2.pats g (o+5) fun i u hi=>?_⟩
  ·obtain ⟨k,t,n,nm,kids⟩:=p
   unfold aX
   exact ⟨.inr rfl,hz,hc 0 _ rfl,hc 1 _ rfl,hc 2 _ rfl,hc 3 _ rfl,ka,cap,hc 4 _ rfl,aN.same (fun _ _=>rfl) (fun b h=>.inl h) _ _ hk⟩
  ·rw [show o+5+i=o+(5+i) by omega];exact hc _ _ (by rw [List.getElem?_append_right (by simp)];simpa using hi)
theorem gK.more {w:World} {S S':Nat→Prop}:∀{l:List aB} {cs:List Value},gK w S cs l→(∀b,S b→S' b)→gK w S' cs l
 | [],_,h,_=>h
 | p::ps,cs,h,hs=>by
  rw [gK] at h⊢;obtain ⟨c,r,rfl,⟨ka,cap,rfl,hz,hk⟩,h2⟩:=h
  exact ⟨_,r,rfl,⟨ka,cap,rfl,hz,aN.same (fun _ _=>rfl) hs _ _ hk⟩,h2.more hs⟩
theorem aN.one {w:World} {S:Nat→Prop} {g o:Nat} {p:aB} (h:aN w S (some ⟨g,o,none⟩) [p]):aX w S g o p:=by
 unfold aN at h;obtain ⟨b,o',e,h,_⟩:=h
 simp only [Option.some.injEq,Addr.mk.injEq,and_true] at e
 obtain ⟨rfl,rfl⟩:=e;exact h
end Go.Proofs.YtgoijmpahffnhaaGreatDoor

namespace Go.Proofs.YtgoijmpahffnhaaGreatDoor
set_option linter.all false
open Go.RowKit
def Two (M:Nat) (c0 c1:Value) (w:World):Prop:=w.heap[M]?=some (.cells #[c0,c1] 39 (0,0))
theorem Two.lt {M:Nat} {c0 c1:Value} {w:World} (h:Two M c0 c1 w):M<w.heap.size:=(Array.getElem?_eq_some_iff.1 h).1
theorem Two.kept {M:Nat} {c0 c1:Value} {w w':World} {X:Nat→Prop} (h:Two M c0 c1 w) (hk:Kept X w w') (hx:¬X M):Two M c0 c1 w':=by
 unfold Two;rw [hk.block M h.lt hx];exact h
theorem Two.cells {M:Nat} {c0 c1:Value} {w:World} (h:Two M c0 c1 w):w.cell? ⟨M,0,none⟩=some c0∧w.cell? ⟨M,1,none⟩=some c1∧∀o,w.frozen? ⟨M,o,none⟩=false:=by
 unfold Two at h
 refine ⟨?_,?_,fun o=>by simp [World.frozen?,h]⟩<;>(rw [cell_of_row w M _ _ _ _ h];rfl)
def set2 (w:World) (M:Nat) (c0 c1:Value):World:=(w.setCell ⟨M,0,none⟩ c0).setCell ⟨M,1,none⟩ c1
theorem Two.set2 {M:Nat} {z0 z1:Value} {w:World} (h:Two M z0 z1 w) (c0 c1:Value):Two M c0 c1 (set2 w M c0 c1):=by
 unfold Two at h⊢
 unfold Go.Proofs.YtgoijmpahffnhaaGreatDoor.set2
 rw [aT (aT h _) _];rfl
end Go.Proofs.YtgoijmpahffnhaaGreatDoor

namespace Go.Proofs.YtgoijmpahffnhaaGreatDoor
set_option linter.all false
open Go.RowKit
structure aC where
 kind:Int
 text:aj
 at_:Nat
def kZ (s:aj) (i:Nat):Option Nat:=(iL (s.data.toList.drop i)).map (·.2)
theorem aip {s:aj} {i:Nat} (h:s.size≤i):kZ s i=none:=by unfold kZ;rw [drop_end h];rfl
theorem afl {s:aj} {i:Nat} (h:i<s.size) (hc:s[i].toNat≠39):kZ s i=(kZ s (i+1)).map (· + 1):=by
 have hc':¬s[i]=39:=fun e=>hc (by rw [e];rfl)
 unfold kZ
 rw [drop_cons h]
 by_cases h2:i+1<s.size
 ·rw [drop_cons h2,iL,if_neg hc']
  cases iL (s[i+1]::s.data.toList.drop (i+1+1))<;>rfl
 ·rw [drop_end (by omega)]
  have e:iL [s[i]]=none:=by rw [iL,if_neg hc']
  rw [e];rfl
theorem aiq {s:aj} {i:Nat} (h:i+1<s.size) (hc:s[i].toNat=39) (hd:s[i+1].toNat=39):kZ s i=(kZ s (i+2)).map (· + 2):=by
 have hc':s[i]=39:=UInt8.toNat_inj.1 hc
 have hd':s[i+1]=39:=UInt8.toNat_inj.1 hd
 unfold kZ
 rw [drop_cons (show i<s.size by omega),drop_cons h,iL,if_pos hc',if_pos hd']
 show ((iL (s.data.toList.drop (i+2))).map _).map _=_
 cases iL (s.data.toList.drop (i+2))<;>rfl
theorem air {s:aj} {i:Nat} (h:i<s.size) (hc:s[i].toNat=39) (hd:¬∃h:i+1<s.size,s[i+1].toNat=39):kZ s i=some 1:=by
 have hc':s[i]=39:=UInt8.toNat_inj.1 hc
 unfold kZ
 rw [drop_cons h]
 by_cases h2:i+1<s.size
 ·have hd':¬s[i+1]=39:=fun e=>hd ⟨h2,by rw [e];rfl⟩
  rw [drop_cons h2,iL,if_pos hc',if_neg hd'];rfl
 ·rw [drop_end (by omega),iL,if_pos hc'];rfl
theorem ahL {s:aj} {i n:Nat} (h:kZ s i=some n):0<n∧i+n≤s.size:=by
 unfold kZ at h
 cases ht:iL (s.data.toList.drop i) with
 | none=>rw [ht] at h;cases h
 | some x =>
  obtain ⟨b,m⟩:=x
  rw [ht] at h
  simp only [Option.map_some,Option.some.injEq] at h
  subst h
  have h1:=vN _ _ _ ht
  rw [List.length_drop] at h1
  have e:s.data.toList.length=s.size:=rfl
  omega
theorem extract_drop (s:aj) (a:Nat):(s.extract a s.size).data.toList=s.data.toList.drop a:=by
 have e:s.data.size=s.size:=rfl
 rw [ByteArray.data_extract,Array.toList_extract,List.extract_eq_drop_take]
 refine List.take_of_length_le ?_
 rw [List.length_drop,Array.length_toList];omega
theorem EC (s:aj) (a i:Nat):kZ (s.extract a s.size) i=kZ s (a+i):=by
 unfold kZ;rw [extract_drop,List.drop_drop]
def Df (s:aj):Nat→Nat→Option Nat
 | 0,_=>none
 | f+1,i =>
  if h:i<s.size then
   if s[i].toNat=93 then some 1
   else if s[i].toNat=39 then
    match kZ s (i+1) with
    | none=>none
    | some n=>(Df s f (i+1+n)).map (· + (n+1))
   else (Df s f (i+1)).map (· + 1)
  else none
theorem CP {s:aj}:∀(f g i:Nat),s.size-i≤f→s.size-i≤g→Df s f i=Df s g i
 | 0,0,_,_,_=>rfl
 | 0,g+1,i,h,_=>by rw [Df,Df,dif_neg (by omega)]
 | f+1,0,i,_,h=>by rw [Df,Df,dif_neg (by omega)]
 | f+1,g+1,i,h1,h2=>by
  rw [Df,Df]
  split
  ·split
   ·rfl
   ·split
    ·cases hq:kZ s (i+1) with
     | none=>rfl
     | some n=>dsimp only;rw [CP f g _ (by omega) (by omega)]
    ·rw [CP f g _ (by omega) (by omega)]
  ·rfl
def rG (s:aj) (i:Nat):Option Nat:=Df s (s.size-i) i
theorem EW {s:aj} {i:Nat} (h:s.size≤i):rG s i=none:=by
 unfold rG;rw [show s.size-i=0 by omega];rfl
theorem yJ {s:aj} {i:Nat} (h:i<s.size):rG s i=if s[i].toNat=93 then some 1 else if s[i].toNat=39 then (match kZ s (i+1) with|none=>none|some n=>(rG s (i+1+n)).map (· + (n+1))) else (rG s (i+1)).map (· + 1):=by
 have e:s.size-i=(s.size-i-1)+1:=by omega
 unfold rG
 rw [e,Df,dif_pos h]
 split
 ·rfl
 ·split
  ·cases hq:kZ s (i+1) with
   | none=>rfl
   | some n=>dsimp only;rw [CP _ (s.size-(i+1+n)) _ (by omega) (Nat.le_refl _)]
  ·rw [CP _ (s.size-(i+1)) _ (by omega) (Nat.le_refl _)]
theorem XB {s:aj}:∀(m i n:Nat),s.size-i≤m→rG s i=some n→0<n∧i+n≤s.size
 | m,i,n,hm,h=>by
  by_cases hi:i<s.size
  ·rw [yJ hi] at h
   split at h
   ·simp only [Option.some.injEq] at h;omega
   ·cases m with
    | zero=>omega
    | succ m =>
     split at h
     ·cases hq:kZ s (i+1) with
      | none=>rw [hq] at h;cases h
      | some k =>
       rw [hq] at h
       dsimp only at h
       have hk:=ahL hq
       cases hb:rG s (i+1+k) with
       | none=>rw [hb] at h;cases h
       | some x =>
        rw [hb] at h
        simp only [Option.map_some,Option.some.injEq] at h
        have:=XB m (i+1+k) x (by omega) hb
        omega
     ·cases hb:rG s (i+1) with
      | none=>rw [hb] at h;cases h
      | some x =>
       rw [hb] at h
       simp only [Option.map_some,Option.some.injEq] at h
       have:=XB m (i+1) x (by omega) hb
       omega
  ·rw [EW (by omega)] at h;cases h
theorem XC {s:aj} {a i:Nat} (h:a+i<s.size) (h':i<(s.extract a s.size).size):(s.extract a s.size)[i]=s[a+i]:=by
 have e1:(s.extract a s.size)[i]=(s.extract a s.size).data.toList[i]'(by simpa using h'):=by rw [Array.getElem_toList];rfl
 have e2:s[a+i]=s.data.toList[a+i]'(by simpa using h):=by rw [Array.getElem_toList];rfl
 rw [e1,e2]
 simp only [extract_drop,List.getElem_drop]
theorem rU (s:aj) (a:Nat):(s.extract a s.size).size=s.size-a:=by
 have h:=congrArg List.length (extract_drop s a)
 rw [List.length_drop] at h
 exact h
theorem aa0 (s:aj) (a:Nat):∀(m i:Nat),s.size-(a+i)≤m→rG (s.extract a s.size) i=rG s (a+i):=by
 have hz:=rU s a
 intro m
 induction m with
 | zero=>intro i h;rw [EW (by omega),EW (by omega)]
 | succ m ih =>
  intro i h
  by_cases hi:a+i<s.size
  ·have hi':i<(s.extract a s.size).size:=by omega
   rw [yJ hi,yJ hi',XC hi hi',EC]
   split
   ·rfl
   ·split
    ·cases hq:kZ s (a+(i+1)) with
     | none=>rfl
     | some n =>
      show (rG (s.extract a s.size) (i+1+n)).map _=(rG s (a+i+1+n)).map _
      rw [ih (i+1+n) (by omega),show a+(i+1+n)=a+i+1+n by omega]
    ·rw [ih (i+1) (by omega),show a+(i+1)=a+i+1 by omega]
  ·rw [EW (by omega),EW (by omega)]
def XD:List Nat:=[61,63,38,43,45,42,47,37,40,41,60,62,44,58,36]
inductive jX where
 | blank
 | tok (t:aC) (next:Nat)
 | bad (er:Er)
def cZ (s:aj) (i:Nat) (h:i<s.size):jX :=
 if s[i].toNat=32 then .blank
 else if 65≤s[i].toNat∧s[i].toNat≤90 then .tok ⟨1,s.extract i (dI rE s i),i⟩ (dI rE s i)
 else if 48≤s[i].toNat∧s[i].toNat≤57 then .tok ⟨2,s.extract i (dI cO s i),i⟩ (dI cO s i)
 else if s[i].toNat=39 then
  match iL (s.data.toList.drop (i+1)) with
  | none=>.bad (2,s.size)
  | some (b,n)=>.tok ⟨3,⟨b.toArray⟩,i⟩ (i+1+n)
 else if s[i].toNat=91 then
  match rG s (i+1) with
  | none=>.bad (2,s.size)
  | some n=>.tok ⟨4,s.extract (i+1) (i+n),i⟩ (i+1+n)
 else if s[i].toNat=58∧peek s (i+1)=61 then .tok ⟨5,s.extract i (i+2),i⟩ (i+2)
 else if s[i].toNat∈XD then .tok ⟨5,s.extract i (i+1),i⟩ (i+1)
 else .bad (2,i)
def mg (s:aj):Nat→Nat→List aC→Except Er (List aC)
 | 0,_,out=>.ok out
 | f+1,i,out =>
  if h:i<s.size then
   match cZ s i h with
   | .blank=>mg s f (i+1) out
   | .tok t k=>mg s f k (out++[t])
   | .bad er=>.error er
  else .ok out
theorem MC (c:UInt8):cO c=(decide (48≤c.toNat)&&decide (c.toNat≤57)):=by
 rw [Bool.eq_iff_iff];simp [cO]
theorem ng {s:aj} {i:Nat} {h:i<s.size} {t:aC} {k:Nat} (e:cZ s i h=.tok t k):i<k∧k≤s.size∧t.at_=i∧t.text.size≤s.size:=by
 have hx:∀a b:Nat,(s.extract a b).size≤s.size:=by
  intro a b
  rw [ByteArray.size_extract];omega
 unfold cZ at e
 split at e
 ·cases e
 split at e
 ·rename_i h1
  simp only [jX.tok.injEq] at e
  obtain ⟨rfl,rfl⟩:=e
  have hw:rE s[i]=true:=by rw [ahG];simp;omega
  have h2:=aaN rE s (i+1);have h3:=aaO (f:=rE) (show i≤s.size by omega)
  rw [AB h hw] at h3⊢
  exact ⟨by omega,h3,rfl,hx _ _⟩
 split at e
 ·rename_i h1
  simp only [jX.tok.injEq] at e
  obtain ⟨rfl,rfl⟩:=e
  have hw:cO s[i]=true:=by rw [MC];simp;omega
  have h2:=aaN cO s (i+1);have h3:=aaO (f:=cO) (show i≤s.size by omega)
  rw [AB h hw] at h3⊢
  exact ⟨by omega,h3,rfl,hx _ _⟩
 split at e
 ·cases ht:iL (s.data.toList.drop (i+1)) with
  | none=>rw [ht] at e;cases e
  | some x =>
   obtain ⟨b,n⟩:=x
   rw [ht] at e
   simp only [jX.tok.injEq] at e
   obtain ⟨rfl,rfl⟩:=e
   have h1:=vN _ _ _ ht
   rw [List.length_drop] at h1
   have e0:s.data.toList.length=s.size:=rfl
   have e1:(⟨b.toArray⟩:aj).size=b.length:=by show b.toArray.size=_;simp
   exact ⟨by omega,by omega,rfl,by rw [e1];omega⟩
 split at e
 ·cases hb:rG s (i+1) with
  | none=>rw [hb] at e;cases e
  | some n =>
   rw [hb] at e
   simp only [jX.tok.injEq] at e
   obtain ⟨rfl,rfl⟩:=e
   have:=XB _ _ _ (Nat.le_refl _) hb
   exact ⟨by omega,by omega,rfl,hx _ _⟩
 split at e
 ·rename_i h1
  simp only [jX.tok.injEq] at e
  obtain ⟨rfl,rfl⟩:=e
  have:i+1<s.size:=UU (by omega)
  exact ⟨by omega,by omega,rfl,hx _ _⟩
 split at e
 ·simp only [jX.tok.injEq] at e
  obtain ⟨rfl,rfl⟩:=e
  exact ⟨by omega,by omega,rfl,hx _ _⟩
 ·cases e
theorem xP {s:aj}:∀(f g i:Nat) (out:List aC),s.size-i≤f→s.size-i≤g→mg s f i out=mg s g i out
 | 0,0,_,_,_,_=>rfl
 | 0,g+1,i,out,h,_=>by rw [mg,mg,dif_neg (by omega)]
 | f+1,0,i,out,_,h=>by rw [mg,mg,dif_neg (by omega)]
 | f+1,g+1,i,out,h1,h2=>by
  rw [mg,mg]
  split
  ·rename_i hi
   cases hs:cZ s i hi with
   | blank=>dsimp only;rw [xP f g _ _ (by omega) (by omega)]
   | tok t k=>have:=ng hs;dsimp only;rw [xP f g _ _ (by omega) (by omega)]
   | bad er=>rfl
  ·rfl
def wX (s:aj) (i:Nat) (out:List aC):Except Er (List aC):=mg s (s.size-i) i out
theorem adi {s:aj} {i:Nat} {out:List aC} (h:s.size≤i):wX s i out=.ok out:=by
 unfold wX;rw [show s.size-i=0 by omega];rfl
theorem aa1 {s:aj} {i:Nat} (out:List aC) (h:i<s.size):wX s i out=match cZ s i h with | .blank=>wX s (i+1) out | .tok t k=>wX s k (out++[t]) | .bad er=>.error er:=by
 have e:s.size-i=(s.size-i-1)+1:=by omega
 unfold wX
 rw [e,mg,dif_pos h]
 cases hs:cZ s i h with
 | blank=>dsimp only;rw [xP _ (s.size-(i+1)) _ _ (by omega) (Nat.le_refl _)]
 | tok t k=>have:=ng hs;dsimp only;rw [xP _ (s.size-k) _ _ (by omega) (Nat.le_refl _)]
 | bad er=>rfl
def jY (s:aj):Except Er (List aC):=if 2000<s.size then .error (4,0) else wX s 0 []
def Eb (t:aC):List Value:=[.int .i64 t.kind,.string t.text,.int .i64 t.at_]
def jV (l:List aC):List Value:=l.flatMap Eb
theorem Tz (a b:List aC):jV (a++b)=jV a++jV b:=by unfold jV;rw [List.flatMap_append]
theorem adk (t:aC):jV [t]=Eb t:=by simp [jV]
end Go.Proofs.YtgoijmpahffnhaaGreatDoor

namespace Go.Proofs.YtgoijmpahffnhaaGreatDoor
set_option linter.all false
open Go.RowKit
abbrev bf (α:Type):=Except Er (α×List aC)
def dK (en:Nat):List aC→Nat
 | []=>en
 | t::_=>t.at_
def aG (x:aj):List aC→Bool
 | []=>false
 | t::_=>decide (t.kind=5∧t.text=x)
def dX (x:aj) (en:Nat) (l:List aC):Except Er (List aC):=if aG x l=true then .ok l.tail else .error (2,dK en l)
def eF (k:Int) (en:Nat):List aC→bf aC
 | []=>.error (2,en)
 | t::r=>if t.kind=k then .ok (t,r) else .error (2,t.at_)
def dN (en:Nat) (l:List aC):bf aj :=
 match eF 1 en l with
 | .error er=>.error er
 | .ok (t,r)=>if 16<t.text.size then .error (7,t.at_) else .ok (t.text,r)
def qR (en:Nat) (l:List aC):bf aB :=
 match eF 4 en l with
 | .error er=>.error er
 | .ok _=>.error (2,0)
def bs (l:List UInt8):aj:=⟨l.toArray⟩
def Di (sG:Nat) (x:aj):Int :=
 if sG=1 then (if x=bs [38] then 8 else 0)
 else if sG=2 then (if x=bs [43] then 9 else if x=bs [45] then 10 else 0)
 else if x=bs [42] then 11 else if x=bs [47] then 12 else if x=bs [37] then 13 else 0
def node2 (k:Int) (x y:aB):aB:=.mk k E0 0 E0 [x,y]
def node1 (k:Int) (x:aB):aB:=.mk k E0 0 E0 [x]
def opAt (sG:Nat):List aC→Int
 | []=>0
 | t::_=>if t.kind=5 then Di sG t.text else 0
def oP (sG:Nat) (sub:List aC→bf aB):Nat→aB→List aC→bf aB
 | 0,x,l=>.ok (x,l)
 | f+1,x,l =>
  if 0<opAt sG l then
   match sub l.tail with
   | .error er=>.error er
   | .ok (y,r)=>oP sG sub f (node2 (opAt sG l) x y) r
  else .ok (x,l)
def oZ (sG:Nat) (sub:List aC→bf aB) (l:List aC):bf aB :=
 match sub l with
 | .error er=>.error er
 | .ok (x,r)=>oP sG sub r.length x r
def Kw (un:List aC→bf aB):List aC→bf aB:=oZ 1 (oZ 2 (oZ 3 un))
def qP (l:List UInt8):Nat:=l.foldl (fun n c=>n*10+(c.toNat-48)) 0
def GN (t:aC) (r:List aC):bf aB :=
 if 1<t.text.size∧t.text.data.toList.head?=some 48 then .error (2,t.at_)
 else if 9223372036854775807<qP t.text.data.toList then .error (3,t.at_)
 else .ok (.mk 2 E0 (qP t.text.data.toList) E0 [],r)
def l7 (ex:List aC→bf aB) (en:Nat):Nat→List aB→List aC→bf (List aB)
 | 0,ks,l=>.ok (ks,l)
 | f+1,ks,l =>
  if ks.length=8 then .error (5,dK en l)
  else match ex l with
   | .error er=>.error er
   | .ok (x,r) =>
    if aG (bs [41]) r=true then .ok (ks++[x],r.tail)
    else match dX (bs [44]) en r with
     | .error er=>.error er
     | .ok r2=>l7 ex en f (ks++[x]) r2
def bg (ex pr:List aC→bf aB) (en:Nat) (l:List aC):bf aB :=
 if aG (bs [40]) l=true then
  match ex l.tail with
  | .error er=>.error er
  | .ok (x,r)=>match dX (bs [41]) en r with
   | .error er=>.error er
   | .ok r2=>.ok (x,r2)
 else if aG (bs [36]) l=true then
  match pr l.tail with
  | .error er=>.error er
  | .ok (x,r)=>.ok (node1 5 x,r)
 else match eF 3 en l with
  | .ok (t,r)=>.ok (.mk 1 t.text 0 E0 [],r)
  | .error _=>match eF 2 en l with
   | .ok (t,r)=>GN t r
   | .error _=>match dN en l with
    | .error er=>.error er
    | .ok (nm,r) =>
     if aG (bs [60]) r=true then
      match ex r.tail with
      | .error er=>.error er
      | .ok (x,r2)=>match dX (bs [62]) en r2 with
       | .error er=>.error er
       | .ok r3=>.ok (.mk 4 E0 0 nm [x],r3)
     else if aG (bs [40]) r=true then
      if aG (bs [41]) r.tail=true then .ok (.mk 6 E0 0 nm [],r.tail.tail)
      else match l7 ex en 9 [] r.tail with
       | .error er=>.error er
       | .ok (ks,r2)=>.ok (.mk 6 E0 0 nm ks,r2)
     else .ok (.mk 3 E0 0 nm [],r)
def zy (un pr:List aC→bf aB) (l:List aC):bf aB :=
 if aG (bs [45]) l=true then
  match un l.tail with
  | .error er=>.error er
  | .ok (x,r)=>.ok (node1 7 x,r)
 else pr l
def uK (en:Nat):Nat→(List aC→bf aB)×(List aC→bf aB)
 | 0=>(zy (fun l=>.error (4,dK en l)) (bg (fun l=>.error (4,dK en l)) (fun l=>.error (4,dK en l)) en),bg (fun l=>.error (4,dK en l)) (fun l=>.error (4,dK en l)) en)
 | d+1=>(zy (uK en d).1 (bg (Kw (uK en d).1) (uK en d).2 en),bg (Kw (uK en d).1) (uK en d).2 en)
def vZ (en:Nat):Nat→List aC→bf aB
 | 0,l=>.error (4,dK en l)
 | d+1,l=>Kw (uK en d).1 l
def namesT (close:Option aj) (en:Nat):Nat→List aj→List aC→bf (List aj)
 | 0,ns,l=>.ok (ns,l)
 | f+1,ns,l =>
  if ns.length=8 then .error (5,dK en l)
  else match dN en l with
   | .error er=>.error er
   | .ok (n,r) =>
    match close with
    | some c=>if aG c r=true then .ok (ns++[n],r.tail) else
      match dX (bs [44]) en r with
      | .error er=>.error er
      | .ok r2=>namesT close en f (ns++[n]) r2
    | none=>if aG (bs [44]) r=true then namesT close en f (ns++[n]) r.tail else .ok (ns++[n],r)
def zB:aB:=.mk 0 E0 0 E0 []
def st0:aF:=⟨E0,1,zB,zB,zB,E0,E0,[],[],E0,E0,E0⟩
def tK:aj:=bs [68,69,70,73,78,69]
def Ci:aj:=bs [58,61]
def iR:List aC→Bool
 | _::t::_=>decide (t.kind=1)||decide (t.kind=5∧t.text=bs [44])
 | _=>false
def dZ (en:Nat) (s:aF) (l:List aC):bf aF :=
 match dN en l with
 | .error er=>.error er
 | .ok (nm,r)=>match dX (bs [40]) en r with
  | .error er=>.error er
  | .ok r1=>match (if aG (bs [41]) r1=true then .ok ([],r1.tail) else namesT (some (bs [41])) en 9 [] r1) with
   | .error er=>.error er
   | .ok (ps,r2)=>match (if iR r2=true then namesT none en 9 [] r2 else .ok ([],r2)) with
    | .error er=>.error er
    | .ok (ls,r3)=>match dN en r3 with
     | .error er=>.error er
     | .ok (e,r4)=>.ok ({s with kind:=7,name:=nm,params:=ps,locals:=ls,entry:=e},r4)
def dw:List aC→Bool
 | t::u::_=>decide (t.kind=1∧t.text=tK∧u.kind=1)
 | _=>false
def jQ:List aC→Bool
 | t::u::_=>decide (t.kind=1∧u.kind=5∧u.text=Ci)
 | _=>false
def Cj (en:Nat) (s:aF) (l:List aC):bf aF :=
 match dN en l with
 | .error er=>.error er
 | .ok (nm,r)=>match dX Ci en r with
  | .error er=>.error er
  | .ok r1=>match qR en r1 with
   | .error er=>.error er
   | .ok (p,r2)=>.ok ({s with kind:=6,name:=nm,pat:=p},r2)
def l9 (en at_:Nat) (s:aF) (x:aB) (k:Int) (l:List aC):bf aF :=
 if aG (bs [61]) l=true then
  if ¬isTarget x then .error (8,at_)
  else match vZ en 400 l.tail with
   | .error er=>.error er
   | .ok (v,r)=>.ok ({s with kind:=k,target:=x,value:=v},r)
 else .ok (s,l)
def ad2 (en:Nat) (s:aF) (l:List aC):bf aF :=
 match vZ en 400 l with
 | .error er=>.error er
 | .ok (x,r) =>
  if aG (bs [63]) r=true then
   match qR en r.tail with
   | .error er=>.error er
   | .ok (p,r2)=>l9 en (dK en l) {s with kind:=4,value:=x,pat:=p} x 5 r2
  else l9 en (dK en l) {s with kind:=2,value:=x} x 3 r
def bodyT (en:Nat) (s:aF) (l:List aC):bf aF :=
 if dw l=true then dZ en s l.tail
 else if jQ l=true then Cj en s l
 else ad2 en s l
def dR (en:Nat) (l:List aC):bf aj :=
 match dX (bs [40]) en l with
 | .error er=>.error er
 | .ok r=>match dN en r with
  | .error er=>.error er
  | .ok (n,r1)=>match dX (bs [41]) en r1 with
   | .error er=>.error er
   | .ok r2=>.ok (n,r2)
def fB (en:Nat) (s:aF) (l:List aC):bf aF :=
 if aG (bs [40]) l=true then
  match dR en l with
  | .error er=>.error er
  | .ok (n,r)=>.ok ({s with always:=n},r)
 else match eF 1 en l with
  | .error er=>.error er
  | .ok (t,r) =>
   if t.text=bs [83] then
    match dR en r with
    | .error er=>.error er
    | .ok (n,r1) =>
     if r1=[] then .ok ({s with yes:=n},r1)
     else match eF 1 en r1 with
      | .error er=>.error er
      | .ok (u,r2)=>if u.text=bs [70] then
        match dR en r2 with
        | .error er=>.error er
        | .ok (m,r3)=>.ok ({s with yes:=n,bW:=m},r3)
       else .error (2,dK en r1)
   else if t.text=bs [70] then
    match dR en r with
    | .error er=>.error er
    | .ok (n,r1)=>if r1=[] then .ok ({s with bW:=n},r1) else .error (2,dK en r1)
   else .error (2,dK en l)
mutual
def oH:aB→Nat
 | .mk _ _ _ _ l=>oG l+1
def oG:List aB→Nat
 | []=>0
 | p::r=>max (oH p) (oG r)
end
def EU (en:Nat) (s:aF) (l:List aC):Except Er aF :=
 match (if aG (bs [58]) l=true then fB en s l.tail else .ok (s,l)) with
 | .error er=>.error er
 | .ok (s2,r)=>if r≠[] then .error (2,dK en r) else if 200<oH s2.target∨200<oH s2.value then .error (4,0) else .ok s2
def gI (en:Nat) (labelled:Bool) (l:List aC):Except Er aF :=
 match (if labelled=true then (match dN en l with | .error er=>.error er | .ok (n,r)=>.ok ({st0 with label:=n},r)) else (.ok (st0,l):bf aF)) with
 | .error er=>.error er
 | .ok (s1,r) =>
  match (if r≠[]∧aG (bs [58]) r=false then bodyT en s1 r else .ok (s1,r)) with
  | .error er=>.error er
  | .ok (s2,r2)=>EU en s2 r2
def kX (s:aj):Except Er (Option aF) :=
 if peek s 0=42∧s.size≤2000 then .ok none
 else match jY s with
  | .error er=>.error er
  | .ok l=>match gI s.size (decide (s.size≠0∧peek s 0≠32∧peek s 0≠58)) l with
   | .error er=>.error er
   | .ok x=>.ok (some x)
end Go.Proofs.YtgoijmpahffnhaaGreatDoor

namespace Go.Proofs.YtgoijmpahffnhaaGreatDoor
set_option linter.all false
open Go.RowKit
set_option maxRecDepth 100000
set_option maxHeartbeats 2000000
def Nc (b:Bool) (w:World) (e:Ending) (w':World):Prop:=e=.returned (.bool b)∧w'=w
theorem fE (c:UInt8) (w:World):Calls Tryz.prog 43 #[.int .u8 c.toNat] w (Nc (jc c) w):=by
 rcases (show c.toNat<65∨(65≤c.toNat∧c.toNat≤90)∨90<c.toNat by omega) with h|⟨h,h2⟩|h
 ·have fin:Hid (jc c=false):=by unfold Hid jc;simp;omega
  have d1:decide ((65:Int)≤(c.toNat:Int))=false:=au (by omega)
  have d2:decide (65≤c.toNat)=false:=au (by omega)
  clear h
  go_enter Tryz.func43, Tryz.ntmps43
  go_wp2_with fail
  go_ret
  exact ⟨by rw [fin.out];rfl,rfl⟩
 ·have fin:Hid (jc c=true):=by unfold Hid jc;simp;omega
  have d1:decide ((65:Int)≤(c.toNat:Int))=true:=ak (by omega)
  have d2:decide (65≤c.toNat)=true:=ak (by omega)
  have d3:decide ((c.toNat:Int)≤90)=true:=ak (by omega)
  have d4:decide (c.toNat≤90)=true:=ak (by omega)
  clear h h2
  go_enter Tryz.func43, Tryz.ntmps43
  go_wp2_with fail
  go_ret
  exact ⟨by rw [fin.out];rfl,rfl⟩
 ·have fin:Hid (jc c=false):=by unfold Hid jc;simp;omega
  have d1:decide ((65:Int)≤(c.toNat:Int))=true:=ak (by omega)
  have d2:decide (65≤c.toNat)=true:=ak (by omega)
  have d3:decide ((c.toNat:Int)≤90)=false:=au (by omega)
  have d4:decide (c.toNat≤90)=false:=au (by omega)
  clear h
  go_enter Tryz.func43, Tryz.ntmps43
  go_wp2_with fail
  go_ret
  exact ⟨by rw [fin.out];rfl,rfl⟩
theorem fF (c:UInt8) (w:World):Calls Tryz.prog 44 #[.int .u8 c.toNat] w (Nc (cO c) w):=by
 rcases (show c.toNat<48∨(48≤c.toNat∧c.toNat≤57)∨57<c.toNat by omega) with h|⟨h,h2⟩|h
 ·have fin:Hid (cO c=false):=by unfold Hid cO;simp;omega
  have d1:decide ((48:Int)≤(c.toNat:Int))=false:=au (by omega)
  have d2:decide (48≤c.toNat)=false:=au (by omega)
  clear h
  go_enter Tryz.func44, Tryz.ntmps44
  go_wp2_with fail
  go_ret
  exact ⟨by rw [fin.out];rfl,rfl⟩
 ·have fin:Hid (cO c=true):=by unfold Hid cO;simp;omega
  have d1:decide ((48:Int)≤(c.toNat:Int))=true:=ak (by omega)
  have d2:decide (48≤c.toNat)=true:=ak (by omega)
  have d3:decide ((c.toNat:Int)≤57)=true:=ak (by omega)
  have d4:decide (c.toNat≤57)=true:=ak (by omega)
  clear h h2
  go_enter Tryz.func44, Tryz.ntmps44
  go_wp2_with fail
  go_ret
  exact ⟨by rw [fin.out];rfl,rfl⟩
 ·have fin:Hid (cO c=false):=by unfold Hid cO;simp;omega
  have d1:decide ((48:Int)≤(c.toNat:Int))=true:=ak (by omega)
  have d2:decide (48≤c.toNat)=true:=ak (by omega)
  have d3:decide ((c.toNat:Int)≤57)=false:=au (by omega)
  have d4:decide (c.toNat≤57)=false:=au (by omega)
  clear h
  go_enter Tryz.func44, Tryz.ntmps44
  go_wp2_with fail
  go_ret
  exact ⟨by rw [fin.out];rfl,rfl⟩
def qL (t:aj) (j:Nat):Nat:=match kZ t j with|none=>0|some n=>j+n
theorem adl {t:aj} {j:Nat} (h:j<t.size) (hc:t[j].toNat≠39):qL t (j+1)=qL t j:=by
 unfold qL;rw [afl h hc]
 cases kZ t (j+1) with
 | none=>rfl
 | some n=>show j+1+n=j+(n+1);omega
theorem ahM {t:aj} {j:Nat} (h:j+1<t.size) (hc:t[j].toNat=39) (hd:t[j+1].toNat=39):qL t (j+2)=qL t j:=by
 unfold qL;rw [aiq h hc hd]
 cases kZ t (j+2) with
 | none=>rfl
 | some n=>show j+2+n=j+(n+2);omega
theorem ahN {t:aj} {j:Nat} (h:j<t.size) (hc:t[j].toNat=39) (hd:¬∃h:j+1<t.size,t[j+1].toNat=39):qL t j=j+1:=by
 unfold qL;rw [air h hc hd]
theorem ahO {t:aj} {j:Nat} (h:t.size≤j):qL t j=0:=by unfold qL;rw [aip h]
def wW (n:Nat) (w:World) (e:Ending) (w':World):Prop:=e=.returned (.int .i64 n)∧w'=w
theorem Jo (t:aj) (w:World) (hs:t.size≤1000000000):Calls Tryz.prog 45 #[.string t] w (wW (qL t 1) w):=by
 go_enter Tryz.func45, Tryz.ntmps45
 go_wp2_with fail
 go_loopw [3] (fun i wr=>∃j:Nat,i=.int .i64 j∧j≤t.size+1∧Hid (qL t j=qL t 1)∧wr=w) (fun i _=>t.size+1-(intOf i).toNat)
 case atStart=>exact ⟨1,rfl,by omega,rfl,by trivial⟩
 case round =>
  obtain ⟨j,rfl,hj,hq,aI⟩:=hrel
  obtain rfl:=aI.symm
  by_cases hlt:j<t.size
  ·have c1:decide ((j:Int)<(t.size:Int))=true:=ak (by omega)
   have c1':decide (j<t.size)=true:=ak hlt
   have cb:(j:Int)<(t.size:Int):=by omega
   by_cases hc:t[j].toNat=39
   ·have c2:((t[j].toNat:Int) != 39)=false:=by simp;omega
    obtain ⟨m1,UY⟩:∃m1:Nat,m1=j+1:=⟨_,rfl⟩
    have amg:(j:Int)+1=(m1:Int):=by omega
    have EM:=ah UY
    by_cases hd:∃h:j+1<t.size,t[j+1].toNat=39
    ·obtain ⟨h2,h3⟩:=hd
     have step:=ah (ahM h2 hc h3)
     have hl1:m1<t.size:=by omega
     have h3':t[m1].toNat=39:=by simp only [UY];exact h3
     have g3:decide ((m1:Int)<(t.size:Int))=true:=ak (by omega)
     have g3':decide (m1<t.size)=true:=ak hl1
     have g4:((t[m1].toNat:Int)==39)=true:=by simp;omega
     have bi2:(m1:Int)<(t.size:Int):=by omega
     clear hc h3 h3' UY h2
     go_wp2_with fail
     go_roundw
     case rel=>exact ⟨j+2,by have:=EM.out;go_num,by have:=EM.out;omega,step.out.trans hq.out,by trivial⟩
     case measure=>have:=EM.out;simp [intOf];omega
    ·have fin:Hid (qL t 1=m1):=by unfold Hid;rw [←hq.out,ahN hlt hc hd,EM.out]
     by_cases hl1:m1<t.size
     ·have g3:decide ((m1:Int)<(t.size:Int))=true:=ak (by omega)
      have g3':decide (m1<t.size)=true:=ak hl1
      have h3':t[m1].toNat≠39:=fun h=>hd ⟨by omega,by simp only [UY] at h;exact h⟩
      have g4:((t[m1].toNat:Int)==39)=false:=by simp;omega
      have bi2:(m1:Int)<(t.size:Int):=by omega
      clear hc hd h3' UY hq
      go_wp2_with fail
      go_ret
      exact ⟨by rw [fin.out];rfl,rfl⟩
     ·have g3:decide ((m1:Int)<(t.size:Int))=false:=au (by omega)
      have g3':decide (m1<t.size)=false:=au hl1
      clear hc hd UY hq
      go_wp2_with fail
      go_ret
      exact ⟨by rw [fin.out];rfl,rfl⟩
   ·have c2:((t[j].toNat:Int) != 39)=true:=by simp;omega
    have step:=ah (adl hlt hc)
    clear hc
    go_wp2_with fail
    go_roundw
    case rel=>exact ⟨j+1,by go_num,by omega,step.out.trans hq.out,by trivial⟩
    case measure=>simp [intOf];omega
  ·have c1:decide ((j:Int)<(t.size:Int))=false:=au (by omega)
   have c1':decide (j<t.size)=false:=au hlt
   have fin:Hid (qL t 1=0):=by unfold Hid;rw [←hq.out,ahO (by omega)]
   clear hq
   go_wp2_with fail
   go_ret
   exact ⟨by rw [fin.out];rfl,rfl⟩
def bL (t:aj) (j:Nat):Nat:=match rG t j with|none=>0|some n=>j+n
theorem adn {t:aj} {j:Nat} (h:j<t.size) (hc:t[j].toNat=93):bL t j=j+1:=by unfold bL;rw [yJ h,if_pos hc]
theorem afm {t:aj} {j:Nat} (h:j<t.size) (hc:t[j].toNat=39) (hq:kZ t (j+1)=none):bL t j=0:=by
 unfold bL;rw [yJ h,if_neg (by omega),if_pos hc,hq]
theorem afn {t:aj} {j n:Nat} (h:j<t.size) (hc:t[j].toNat=39) (hq:kZ t (j+1)=some n):bL t (j+1+n)=bL t j:=by
 unfold bL;rw [yJ h,if_neg (by omega),if_pos hc,hq]
 dsimp only
 cases rG t (j+1+n) with
 | none=>rfl
 | some m=>show j+1+n+m=j+(m+(n+1));omega
theorem ado {t:aj} {j:Nat} (h:j<t.size) (h1:t[j].toNat≠93) (h2:t[j].toNat≠39):bL t (j+1)=bL t j:=by
 unfold bL;rw [yJ h,if_neg h1,if_neg h2]
 cases rG t (j+1) with
 | none=>rfl
 | some m=>show j+1+m=j+(m+1);omega
theorem ahP {t:aj} {j:Nat} (h:t.size≤j):bL t j=0:=by unfold bL;rw [EW h]
theorem MX (t:aj) (w:World) (hs:t.size≤1000000000):Calls Tryz.prog 47 #[.string t] w (wW (bL t 1) w):=by
 have hQ:Hid (∀(j:Nat),Calls Tryz.prog 45 #[.string (t.extract j t.size)] w (wW (qL (t.extract j t.size) 1) w)):=fun j=>Jo _ w (by rw [rU];omega)
 go_enter Tryz.func47, Tryz.ntmps47
 go_wp2_with fail
 go_loopw [3] (fun i wr=>∃j:Nat,i=.int .i64 j∧j≤t.size+1∧Hid (bL t j=bL t 1)∧wr=w) (fun i _=>t.size+1-(intOf i).toNat)
 case atStart=>exact ⟨1,rfl,by omega,rfl,by trivial⟩
 case round =>
  obtain ⟨j,rfl,hj,hq,aI⟩:=hrel
  obtain rfl:=aI.symm
  by_cases hlt:j<t.size
  ·have c1:decide ((j:Int)<(t.size:Int))=true:=ak (by omega)
   have c1':decide (j<t.size)=true:=ak hlt
   have cb:(j:Int)<(t.size:Int):=by omega
   by_cases hc:t[j].toNat=93
   ·have c2:((t[j].toNat:Int)==93)=true:=by simp;omega
    have fin:Hid (bL t 1=j+1):=by unfold Hid;rw [←hq.out,adn hlt hc]
    clear hc hq
    go_wp2_with fail
    go_ret
    exact ⟨by rw [fin.out];rfl,rfl⟩
   have c2:((t[j].toNat:Int)==93)=false:=by simp;omega
   by_cases hd:t[j].toNat=39
   ·have c3:((t[j].toNat:Int)==39)=true:=by simp;omega
    have eq1:qL (t.extract j t.size) 1=match kZ t (j+1) with|none=>0|some n=>n+1:=by
     unfold qL;rw [EC]
     cases kZ t (j+1) with
     | none=>rfl
     | some n=>show 1+n=n+1;omega
    cases hqa:kZ t (j+1) with
    | none =>
     rw [hqa] at eq1
     have fin:Hid (bL t 1=0):=by unfold Hid;rw [←hq.out,afm hlt hd hqa]
     have HQ:Hid (Calls Tryz.prog 45 #[.string (t.extract j t.size)] w (wW 0 w)):=by have h:=hQ.out j;rw [eq1] at h;exact h
     clear hc hd hq hqa eq1
     go_wp2_with (go_at_call 45;(refine HQ.out.mono ?_);rintro e w' ⟨rfl,aI⟩;obtain rfl:=aI.symm)
     go_ret
     exact ⟨by rw [fin.out];rfl,rfl⟩
    | some n =>
     rw [hqa] at eq1
     have hle:=ahL hqa
     have step:=ah (afn hlt hd hqa)
     have HQ:Hid (Calls Tryz.prog 45 #[.string (t.extract j t.size)] w (wW (n+1) w)):=by have h:=hQ.out j;rw [eq1] at h;exact h
     obtain ⟨n1,Jp⟩:∃n1:Nat,n1=n+1:=⟨_,rfl⟩
     rw [←Jp] at HQ
     have EN:=ah Jp
     have HW:Hid (wrap64 (wrap64 ((j:Int)+wrap64 ((n1:Int)-1))+1)=((j+1+n:Nat):Int)):=by unfold Hid wrap64;omega
     have zn:((n1:Int)==0)=false:=by simp;omega
     clear hc hd hqa eq1 Jp
     go_wp2_with (go_at_call 45;(refine HQ.out.mono ?_);rintro e w' ⟨rfl,aI⟩;obtain rfl:=aI.symm)
     go_roundw
     case rel=>exact ⟨j+1+n,congrArg (Value.int .i64) HW.out,by omega,step.out.trans hq.out,by trivial⟩
     case measure=>simp only [intOf,HW.out];omega
   ·have c3:((t[j].toNat:Int)==39)=false:=by simp;omega
    have step:=ah (ado hlt hc hd)
    clear hc hd
    go_wp2_with fail
    go_roundw
    case rel=>exact ⟨j+1,by go_num,by omega,step.out.trans hq.out,by trivial⟩
    case measure=>simp [intOf];omega
  ·have c1:decide ((j:Int)<(t.size:Int))=false:=au (by omega)
   have c1':decide (j<t.size)=false:=au hlt
   have fin:Hid (bL t 1=0):=by unfold Hid;rw [←hq.out,ahP (by omega)]
   clear hq
   go_wp2_with fail
   go_ret
   exact ⟨by rw [fin.out];rfl,rfl⟩
end Go.Proofs.YtgoijmpahffnhaaGreatDoor

namespace Go.Proofs.YtgoijmpahffnhaaGreatDoor
set_option linter.all false
open Go.RowKit
def yK (l:List UInt8):List UInt8:=Lib.replaceK [39,39] [39] (Lib.count l [39,39]) l
theorem afq (l:List UInt8):Lib.replaceAll l [39,39] [39]=yK l:=by
 unfold Lib.replaceAll Lib.replace Lib.replaceNum yK
 rw [if_neg (by decide),if_pos (.inl (by decide))]
theorem UZ:yK []=[]:=by decide
theorem afr (r:List UInt8):yK (39::39::r)=39::yK r:=by
 have hi:Lib.index (39::39::r) [39,39]=((0:Nat):Int):=by
  rw [Lib.index,if_pos (by simp [List.isPrefixOf])];rfl
 unfold yK
 rw [Lib.count_hit (by simp) hi,Nat.add_comm 1,Lib.replaceK_hit _ _ _ _ 0 hi]
 simp
theorem afs {c:UInt8} {r:List UInt8} (h:([39,39]:List UInt8).isPrefixOf (c::r)=false):yK (c::r)=c::yK r:=by
 have hge:=Lib.index_ge r [39,39]
 by_cases hm:Lib.index r [39,39] = -1
 ·have hi:Lib.index (c::r) [39,39] = -1:=by
   rw [Lib.index,if_neg (by simp [h]),if_pos (by simp [hm])]
  unfold yK
  rw [Lib.count_miss hi,Lib.count_miss hm,Lib.replaceK,Lib.replaceK]
 ·obtain ⟨i,hi⟩:∃i:Nat,Lib.index r [39,39]=i:=⟨(Lib.index r [39,39]).toNat,by omega⟩
  have hi2:Lib.index (c::r) [39,39]=((i+1:Nat):Int):=by
   rw [Lib.index,if_neg (by simp [h]),if_neg (by simp [hm]),hi]
   try omega
  unfold yK
  rw [Lib.count_hit (by simp) hi2,Lib.count_hit (by simp) hi,Nat.add_comm 1,Nat.add_comm 1,Lib.replaceK_hit _ _ _ _ (i+1) hi2,Lib.replaceK_hit _ _ _ _ i hi]
  have e1:i+1+([39,39]:List UInt8).length=(i+([39,39]:List UInt8).length)+1:=by show i+1+2=i+2+1;omega
  rw [e1,List.drop_succ_cons,List.take_succ_cons]
  rfl
theorem KH:∀(l:List UInt8) (b:List UInt8) (n:Nat),iL l=some (b,n)→yK (l.take (n-1))=b
 | [],b,n,h=>by simp [iL] at h
 | [c],b,n,h=>by
  rw [iL] at h
  split at h
  ·simp only [Option.some.injEq,Prod.mk.injEq] at h
   obtain ⟨rfl,rfl⟩:=h
   exact UZ
  ·cases h
 | c::d::r,b,n,h=>by
  rw [iL] at h
  split at h
  ·rename_i hc
   split at h
   ·rename_i hd
    cases hr:iL r with
    | none=>rw [hr] at h;cases h
    | some x =>
     obtain ⟨b',n'⟩:=x
     rw [hr] at h
     simp only [Option.map_some,Option.some.injEq,Prod.mk.injEq] at h
     obtain ⟨rfl,rfl⟩:=h
     have hn:=(vN r b' n' hr).2
     have ih:=KH r b' n' hr
     rw [show n'+2-1=(n'-1)+1+1 by omega,List.take_succ_cons,List.take_succ_cons,hc,hd,afr,ih]
   ·simp only [Option.some.injEq,Prod.mk.injEq] at h
    obtain ⟨rfl,rfl⟩:=h
    exact UZ
  ·rename_i hc
   cases hr:iL (d::r) with
   | none=>rw [hr] at h;cases h
   | some x =>
    obtain ⟨b',n'⟩:=x
    rw [hr] at h
    simp only [Option.map_some,Option.some.injEq,Prod.mk.injEq] at h
    obtain ⟨rfl,rfl⟩:=h
    have hn:=(vN (d::r) b' n' hr).2
    have ih:=KH (d::r) b' n' hr
    rw [show n'+1-1=(n'-1)+1 by omega,List.take_succ_cons,afs (by simp [List.isPrefixOf];intro h;exact absurd h.symm hc),ih]
theorem yG (s:aj) (a m:Nat):(s.extract a (a+m)).data.toList=(s.data.toList.drop a).take m:=by
 rw [ByteArray.data_extract,Array.toList_extract,List.extract_eq_drop_take,Nat.add_sub_cancel_left]
theorem adq {s:aj} {i:Nat} {b:List UInt8} {n:Nat} (h:iL (s.data.toList.drop i)=some (b,n)):Lib.replaceAll (s.extract i (i+(n-1))).data.toList [39,39] [39]=b:=by
 rw [afq,yG]
 exact KH _ _ _ h
def jR (w:World):Prop:=∃m,w.cell? ⟨0,0,none⟩=some (.int .i64 m)
theorem jR.kept {w w':World} {X:Nat→Prop} (h:jR w) (hk:Kept X w w') (hx:¬X 0):jR w':=by
 obtain ⟨m,hm⟩:=h
 exact ⟨m,(hk.cell (cells_lt hm) hx).trans hm⟩
theorem afp (x:aj) (w:World) (hg:jR w) (hs:x.size≤1000000000) :
  Calls Tryz.prog 46 #[.string x,.string ⟨#[39,39]⟩,.string ⟨#[39]⟩] w (ajZ (Lib.replaceAll x.data.toList [39,39] [39]) w):=by
 obtain ⟨m,hm⟩:=hg
 have hc:Lib.countB x ⟨#[39,39]⟩≤x.size+1:=by
  show Lib.count x.data.toList [39,39]≤_
  exact Lib.count_le _ _
 refine (Tryz.strings_ReplaceAll x ⟨#[39,39]⟩ ⟨#[39]⟩ m w (by omega) hm (by decide) (by show x.size+Lib.countB x ⟨#[39,39]⟩*1≤_;omega)).mono ?_
 rintro e w' ⟨rfl,h⟩
 exact ⟨rfl,Kept.of_below h⟩
end Go.Proofs.YtgoijmpahffnhaaGreatDoor
