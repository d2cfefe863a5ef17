/-  -/
import Derived.Test.YtefjbnhpjdhjmaaGreatDoorTm3
import Derived.Test.YtefjbnhpjdhjmaaGreatDoorTm1
import Derived.Deep.AppendLies
import Derived.Deep.AppendSrc
import Derived.Deep.RegionLaw
import Derived.Test.YtefjbnhpjdhjmaaGreatDoorRows
import Derived.ProofKit
import Derived.OpenShut
import Derived.JoinedCond
import Derived.ChangeSame
import Derived.Carry
namespace Go.Proofs.YtefjbnhpjdhjmaaGreatDoor
set_option linter.all false
open Go.RowKit
theorem WA (p:aA):fA p=1+iy p.kids:=by cases p;rw [fA,aA.aV]
mutual
theorem OL:∀(p:aA) (x:aA),x∈allT p→x.kids.length<sizeT p
 | .mk k t n nm kids,x,hx=>by
  rw [allT] at hx;rw [sizeT]
  rcases List.mem_cons.1 hx with rfl|hx
  ·rw [aA.aV];have:=pI kids;omega
  ·have:=LU kids x hx;omega
theorem LU:∀(l:List aA) (x:aA),x∈allL l→x.kids.length<aO l
 | [],x,hx=>by simp [allL] at hx
 | p::ps,x,hx=>by
  rw [allL] at hx;rw [aO]
  rcases List.mem_append.1 hx with h|h
  ·have:=OL p x h;omega
  ·have:=LU ps x h;omega
end
end Go.Proofs.YtefjbnhpjdhjmaaGreatDoor

namespace Go.Proofs.YtefjbnhpjdhjmaaGreatDoor
set_option linter.all false
open Go.RowKit
def cZ (w:World) (B:Nat) (e:TypeId) (size:Nat) (v:Value) (n:Nat) (xs:List Value):Prop :=
 xs.length=n*size∧
 ((v=.slice none 0 0∧n=0)∨
  ∃g o cap cur,v=.slice (some ⟨g,o,none⟩) n cap∧B≤g∧w.heap[g]?=some (.cells cur e (0,0))∧n≤cap∧cap≤maxLen∧o+cap*size≤cur.size∧(cur.toList.drop o).take (n*size)=xs)
section
variable {w w':World} {B:Nat} {e:TypeId} {size:Nat} {v:Value} {n:Nat} {xs:List Value}
theorem cZ.nil (w:World) (B:Nat) (e:TypeId) (size:Nat):cZ w B e size (.slice none 0 0) 0 []:=⟨by simp,.inl ⟨rfl,rfl⟩⟩
theorem cZ.lt (h:cZ w B e size v n xs):∀k,v.ownBlock=some k→B≤k∧k<w.heap.size:=by
 intro k hk
 rcases h.2 with ⟨rfl,_⟩|⟨g,o,cap,cur,rfl,hb,hg,_⟩
 ·simp [Value.ownBlock] at hk
 ·simp [Value.ownBlock] at hk;subst hk
  exact ⟨hb,(Array.getElem?_eq_some_iff.1 hg).1⟩
theorem cZ.same (h:cZ w B e size v n xs) (hb:∀k,v.ownBlock=some k→w'.heap[k]?=w.heap[k]?):cZ w' B e size v n xs:=by
 refine ⟨h.1,?_⟩
 rcases h.2 with hn|⟨g,o,cap,cur,rfl,hb',hg,r⟩
 ·exact .inl hn
 ·exact .inr ⟨g,o,cap,cur,rfl,hb',by rw [hb g rfl];exact hg,r⟩
theorem cZ.kept {X:Nat→Prop} (h:cZ w B e size v n xs) (hk:Kept X w w') (hx:∀k,v.ownBlock=some k→¬X k):cZ w' B e size v n xs :=
 h.same fun k hk'=>hk.block k (h.lt k hk').2 (hx k hk')
theorem cZ.alloc (h:cZ w B e size v n xs) (o:Obj):cZ (w.alloc o) B e size v n xs:=h.same fun k hk=>Below.heap_alloc _ _ _ (h.lt k hk).2
theorem cZ.mono {B':Nat} (h:cZ w B e size v n xs) (hB:B'≤B):cZ w B' e size v n xs:=by
 refine ⟨h.1,?_⟩
 rcases h.2 with hn|⟨g,o,cap,cur,rfl,hb',r⟩
 ·exact .inl hn
 ·exact .inr ⟨g,o,cap,cur,rfl,by omega,r⟩
theorem cZ.setCell {p:Addr} (h:cZ w B e size v n xs) (hp:v.ownBlock≠some p.block) (u:Value):cZ (w.setCell p u) B e size v n xs :=
 h.same fun k hk=>Below.heap_setCell _ _ _ _ fun e=>hp (by rw [hk,e])
theorem cZ.cells (h:cZ w B e size v n xs):(v=.slice none 0 0∧n=0)∨∃g o cap,v=.slice (some ⟨g,o,none⟩) n cap∧B≤g∧g<w.heap.size∧n≤cap∧cap≤maxLen∧
  ∀j u,xs[j]?=some u→w.cell? ⟨g,o+j,none⟩=some u∧w.frozen? ⟨g,o+j,none⟩=false:=by
 rcases h.2 with hn|⟨g,o,cap,cur,rfl,hb,hg,h1,h2,h3,h4⟩
 ·exact .inl hn
 ·refine .inr ⟨g,o,cap,rfl,hb,(Array.getElem?_eq_some_iff.1 hg).1,h1,h2,fun j u hu=>⟨?_,by simp [World.frozen?,hg]⟩⟩
  rw [cell_of_row w g (o+j) cur e (0,0) hg]
  rw [←h4,List.getElem?_take] at hu
  split at hu
  ·rw [List.getElem?_drop] at hu;simpa using hu
  ·cases hu
theorem cZ.tail {g o cap:Nat} {ys zs:List Value} (h:cZ w B e size (.slice (some ⟨g,o,none⟩) (n+1) cap) (n+1) (ys++zs)) (hy:ys.length=size) :
  cZ w B e size (.slice (if cap=1 then some ⟨g,o,none⟩ else some ⟨g,o+size,none⟩) n (cap-1)) n zs:=by
 obtain ⟨hl,hr⟩:=h
 rcases hr with ⟨hv,_⟩|⟨g',o',cap',cur,hv,hb,hg,h1,h2,h3,h4⟩
 ·simp at hv
 ·simp only [Value.slice.injEq,Option.some.injEq,Addr.mk.injEq,and_true,true_and] at hv
  obtain ⟨⟨rfl,rfl⟩,rfl⟩:=hv
  have hzl:zs.length=n*size:=by rw [List.length_append,hy,Nat.add_mul,Nat.one_mul] at hl;omega
  refine ⟨hzl,.inr ?_⟩
  by_cases hc:cap=1
  ·subst hc
   obtain rfl:n=0:=by omega
   obtain rfl:zs=[]:=List.eq_nil_of_length_eq_zero (by simpa using hzl)
   exact ⟨g,o,0,cur,by simp,hb,hg,Nat.le_refl _,by simp,by simp only [Nat.zero_mul,Nat.add_zero];omega,by simp⟩
  ·refine ⟨g,o+size,cap-1,cur,by rw [if_neg hc],hb,hg,by omega,by omega,?_,?_⟩
   ·have:cap*size=size+(cap-1)*size:=by rw [Nat.sub_mul,Nat.one_mul];have:=Nat.le_mul_of_pos_left size (show 0<cap by omega);omega
    omega
   ·have:=congrArg (List.drop size) h4
    rw [List.drop_left' hy,List.drop_take,List.drop_drop] at this
    rw [←this]
    congr 1
    rw [Nat.add_mul,Nat.one_mul];omega
end
section
variable {P:Program} (w:World)
theorem KG (B:Nat) (t tx ty e:TypeId) (i:TypeInfo) (z:Value) (size bytes:Nat) (ht:P.underlying t=some (.slice e)) (hi:P.info? e=some i) (hz:i.zero=some z)
  (hsize:i.size=size) (hby:i.bytes=bytes) (hzs:z.cells.size=size)
  (v:Value) (n:Nat) (xs:List Value) (hown:cZ w B e size v n xs) (x:Value) (m:Nat) (news:List Value) (hs:Src P size tx x m news w)
  (h63:n+m≤maxLen) (hbytes:(n+m)*bytes≤140737488355328) (hbase:B≤w.heap.size) :
  ∃v' w',(Builtin.append_ #[t,tx] ty #[v,x]).run P w=.ok v' w'∧cZ w' B e size v' (n+m) (xs++news)∧w.grownBy w' v.ownBlock∧
   (v'.ownBlock=v.ownBlock∨v'.ownBlock=some w.heap.size):=by
 subst hsize
 subst hby
 have hl:=hs.newsLen
 have hlen:(xs++news).length=(n+m)*i.size:=by rw [List.length_append,hown.1,hl,Nat.add_mul]
 have h63':((n+m:Nat):Int)≤9223372036854775807:=by simp only [maxLen] at h63;omega
 have grown:∀(old:Nat),old<n+m→∀(row:Option Nat),
   cZ (w.drew.alloc (.cells ((xs++news).toArray++Builtin.zeroCells z.cells (grownCap w (n+m) old e-(n+m))) e)) B e i.size (.slice (some ⟨w.heap.size,0,none⟩) (n+m) (grownCap w (n+m) old e)) (n+m) (xs++news)∧
   w.grownBy (w.drew.alloc (.cells ((xs++news).toArray++Builtin.zeroCells z.cells (grownCap w (n+m) old e-(n+m))) e)) row:=by
  intro old ho row
  have hge:=grownCap_ge w (n+m) old e
  have hcm:grownCap w (n+m) old e≤maxLen:=grownCap_le_maxLen w (n+m) old e h63
  refine ⟨⟨hlen,.inr ⟨w.heap.size,0,_,_,rfl,hbase,ay w.drew _,hge,hcm,?_,?_⟩⟩,⟨rfl,rfl,rfl,by simp,fun k hk _=>Below.heap_alloc w.drew _ k hk⟩⟩
  ·rw [Array.size_append,List.size_toArray,size_zeroCells,hzs,hlen,←Nat.add_mul,Nat.zero_add,Nat.add_sub_cancel' hge];exact Nat.le_refl _
  ·rw [List.drop_zero,Array.toList_append,←hlen]
   exact List.take_left
 rcases hown.2 with ⟨rfl,rfl⟩|⟨g,o,cap,cur,rfl,hbg,hg,hnc,hcm,hcs,htake⟩
 ·have hx:xs=[]:=List.eq_nil_of_length_eq_zero (by simpa using hown.1)
  subst hx
  by_cases hm:m=0
  ·subst hm
   have hn:news=[]:=List.eq_nil_of_length_eq_zero (by simpa using hl)
   subst hn
   refine ⟨.slice none 0 0,w,?_,cZ.nil w B e i.size,⟨rfl,rfl,rfl,Nat.le_refl _,fun _ _ _=>rfl⟩,.inl rfl⟩
   rcases hs.kind with ⟨e',hk⟩|hk<;>simp [Builtin.append_,run_underlying ht,run_underlying hk,sizeOf,typeInfo,hi,hs.len,hs.cells]
  ·have hr:=run_append_grow_src (P:=P) w t tx ty e i z ht hi hz none 0 0 [] (by simp [Builtin.firstCells]) x m news hs (by omega) h63' (growslice_fits (by omega) hbytes)
   have hgr:=grown 0 (by omega) (Value.ownBlock (.slice none 0 0))
   exact ⟨_,_,hr,hgr.1,hgr.2,.inr rfl⟩
 ·by_cases hroom:n+m≤cap
  ·have hmul:(n+m)*i.size≤cap*i.size:=Nat.mul_le_mul_right _ hroom
   have hadd:(n+m)*i.size=n*i.size+m*i.size:=Nat.add_mul _ _ _
   have hfit:o+n*i.size+0+news.length≤cur.size:=by rw [hl];omega
   have hst:=run_storeCells_at P g (o+n*i.size) e news 0 cur w hg hfit hs.one
   simp only [Nat.add_zero] at hst
   have hr:(Builtin.append_ #[t,tx] ty #[.slice (some ⟨g,o,none⟩) n cap,x]).run P w=.ok (.slice (some ⟨g,o,none⟩) (n+m) cap)
     (w.setRow g (cur.toList.take (o+n*i.size)++news++cur.toList.drop (o+n*i.size+news.length)).toArray):=by
    rcases hs.kind with ⟨e',hk⟩|hk<;>simp [Builtin.append_,run_underlying ht,run_underlying hk,sizeOf,typeInfo,hi,hs.len,hroom,hs.cells,Addr.add_lit,hst]
   refine ⟨_,_,hr,⟨hlen,.inr ⟨g,o,cap,_,rfl,hbg,setRow_heap w g cur _ e _ hg,hroom,hcm,?_,?_⟩⟩,⟨rfl,rfl,rfl,by simp,fun k _ hk=>setRow_other w g k _ (fun e=>hk (by simp [Value.ownBlock,e]))⟩,.inl rfl⟩
   ·simp only [List.size_toArray,List.length_append,List.length_take,List.length_drop,Array.length_toList]
    omega
   ·have hlt:(cur.toList.take (o+n*i.size)).length=o+n*i.size:=by rw [List.length_take,Array.length_toList];omega
    show List.take _ (List.drop o (cur.toList.take (o+n*i.size)++news++cur.toList.drop (o+n*i.size+news.length)))=_
    rw [List.append_assoc,List.drop_append_of_le_length (by omega),List.drop_take,show o+n*i.size-o=n*i.size by omega,htake,←List.append_assoc,←hlen]
    exact List.take_left
  ·have holds:(Builtin.firstCells i.size n (.slice (some ⟨g,o,none⟩) n cap)).run P w.drew=.ok xs.toArray w.drew:=by
    refine run_firstCells_some w.drew i.size n _ n cap xs hown.1 fun j u hu=>?_
    have e1:(⟨g,o,none⟩:Addr).add j=⟨g,o+j,none⟩:=by unfold Addr.add;split<;>simp_all
    rw [e1,World.cell?_drew,cell_of_row w g (o+j) cur e (0,0) hg]
    rw [←htake,List.getElem?_take] at hu
    split at hu
    ·rw [List.getElem?_drop] at hu;simpa using hu
    ·cases hu
   have hr:=run_append_grow_src (P:=P) w t tx ty e i z ht hi hz (some ⟨g,o,none⟩) n cap xs holds x m news hs (by omega) h63' (growslice_fits (by omega) hbytes)
   have hgr:=grown cap (by omega) (Value.ownBlock (.slice (some ⟨g,o,none⟩) n cap))
   exact ⟨_,_,hr,hgr.1,hgr.2,.inr rfl⟩
theorem cZ.shape {w:World} {B:Nat} {e:TypeId} {size:Nat} {v:Value} {n:Nat} {xs:List Value} (h:cZ w B e size v n xs):∃a cap,v=.slice a n cap:=by
 rcases h.2 with ⟨rfl,rfl⟩|⟨g,o,cap,cur,rfl,_⟩
 ·exact ⟨_,_,rfl⟩
 ·exact ⟨_,_,rfl⟩
theorem yg {o:Oper} {a:Act} {K:Act→World→Prop} {Q:Exit→Act→World→Prop} (s x:Operand) (t tx:TypeId)
  (ho:o.op=.call {callee:=.builtin .append,args:=#[s,x],argTypes:=#[t,tx]})
  (B:Nat) (e:TypeId) (i:TypeInfo) (z:Value) (size bytes:Nat) (ht:P.underlying t=some (.slice e)) (hi:P.info? e=some i) (hz:i.zero=some z)
  (hsize:i.size=size) (hby:i.bytes=bytes) (hzs:z.cells.size=size)
  (v:Value) (n:Nat) (xs:List Value) (hs:a.eval s=v) (hown:cZ w B e size v n xs)
  (xv:Value) (m:Nat) (news:List Value) (hx:a.eval x=xv) (hsrc:Src P size tx xv m news w)
  (h63:n+m≤maxLen) (hbytes:(n+m)*bytes≤140737488355328) (hbase:B≤w.heap.size)
  (h:∀a' c' w',cZ w' B e size (.slice a' (n+m) c') (n+m) (xs++news)→w.grownBy w' v.ownBlock→((Value.slice a' (n+m) c').ownBlock=v.ownBlock∨(Value.slice a' (n+m) c').ownBlock=some w.heap.size)→K (a.put o.dst (.slice a' (n+m) c')) w'):o.wp P a w K Q:=by
 obtain ⟨v',w',hr,h2,h3,h4⟩:=KG (P:=P) w B t tx o.type e i z size bytes ht hi hz hsize hby hzs v n xs hown xv m news hsrc h63 hbytes hbase
 obtain ⟨a',c',rfl⟩:=h2.shape
 unfold Oper.wp execOp
 simp only [ho,resolve,invoke,builtin,Sem.run_bind,Sem.run_pure,Result.andThen_ok,List.map_toArray,List.map_cons,List.map_nil,hs,hx,hr]
 exact h a' c' w' h2 h3 h4
theorem kQ {ops:Array Oper} {rest:List Oper} {o:Oper} {a:Act} {Q:Exit→Act→World→Prop} (hgd:o.guard=none) (s x:Operand) (t tx:TypeId)
  (ho:o.op=.call {callee:=.builtin .append,args:=#[s,x],argTypes:=#[t,tx]})
  (B:Nat) (e:TypeId) (i:TypeInfo) (z:Value) (size bytes:Nat) (ht:P.underlying t=some (.slice e)) (hi:P.info? e=some i) (hz:i.zero=some z)
  (hsize:i.size=size) (hby:i.bytes=bytes) (hzs:z.cells.size=size)
  (v:Value) (n:Nat) (xs:List Value) (hs:a.eval s=v) (hown:cZ w B e size v n xs)
  (xv:Value) (m:Nat) (news:List Value) (hx:a.eval x=xv) (hsrc:Src P size tx xv m news w)
  (h63:n+m≤maxLen) (hbytes:(n+m)*bytes≤140737488355328) (hbase:B≤w.heap.size)
  (h:∀a' c' w',cZ w' B e size (.slice a' (n+m) c') (n+m) (xs++news)→w.grownBy w' v.ownBlock→((Value.slice a' (n+m) c').ownBlock=v.ownBlock∨(Value.slice a' (n+m) c').ownBlock=some w.heap.size)→wpList P ops Q rest (a.put o.dst (.slice a' (n+m) c')) w') :
  wpList P ops Q (o::rest) a w :=
 wpList_plain hgd fun _ hK=>yg w s x t tx ho B e i z size bytes ht hi hz hsize hby hzs v n xs hs hown xv m news hx hsrc h63 hbytes hbase fun a' c' w' h2 h3 h4=>hK _ _ (h a' c' w' h2 h3 h4)
theorem lV {ops:Array Oper} {o:Oper} {a:Act} {K:Act→World→Prop} {Q:Exit→Act→World→Prop} {E:Prop} (hgd:o.guard=none) (s x:Operand) (t tx:TypeId)
  (ho:o.op=.call {callee:=.builtin .append,args:=#[s,x],argTypes:=#[t,tx]})
  (B:Nat) (e:TypeId) (i:TypeInfo) (z:Value) (size bytes:Nat) (ht:P.underlying t=some (.slice e)) (hi:P.info? e=some i) (hz:i.zero=some z)
  (hsize:i.size=size) (hby:i.bytes=bytes) (hzs:z.cells.size=size)
  (v:Value) (n:Nat) (xs:List Value) (hs:a.eval s=v) (hown:cZ w B e size v n xs)
  (xv:Value) (m:Nat) (news:List Value) (hx:a.eval x=xv) (hsrc:Src P size tx xv m news w)
  (h63:n+m≤maxLen) (hbytes:(n+m)*bytes≤140737488355328) (hbase:B≤w.heap.size)
  (h:∀a' c' w',cZ w' B e size (.slice a' (n+m) c') (n+m) (xs++news)→w.grownBy w' v.ownBlock→((Value.slice a' (n+m) c').ownBlock=v.ownBlock∨(Value.slice a' (n+m) c').ownBlock=some w.heap.size)→K (a.put o.dst (.slice a' (n+m) c')) w') :
  if Region.wanted o (yielded ops a.tmps)=true then Oper.wp P o a w K Q else E:=by
 have hw:Region.wanted o (yielded ops a.tmps)=true:=by simp [Region.wanted,hgd]
 rw [if_pos hw]
 exact yg w s x t tx ho B e i z size bytes ht hi hz hsize hby hzs v n xs hs hown xv m news hx hsrc h63 hbytes hbase h
end
end Go.Proofs.YtefjbnhpjdhjmaaGreatDoor

namespace Go.Proofs.YtefjbnhpjdhjmaaGreatDoor
set_option linter.all false
open Go.RowKit
def rV (bs:List UInt8):List Value:=bs.map fun b=>.int .u8 (b.toNat:Int)
theorem dK {N:Nat} {w:World} {o:Obj} (h:N=w.heap.size):(w.alloc o).heap[N]?=some o:=by subst h;exact ay w _
theorem Kept.drewN' (w:World) (n:Nat):Kept aF w (w.drewN n):=⟨rfl,rfl,rfl,Nat.le_refl _,fun _ _ _=>rfl⟩
theorem Tryz.infoB:(Tryz.prog.info? 5).map (fun i=>(i.zero,i.size,i.bytes))=some (some (.int .u8 0),1,1):=by kernel_rfl
theorem cZ.conv {w:World} {B:Nat} {a:Option Addr} {c:Nat} {bs:List UInt8} (h:cZ w B 5 1 (.slice a bs.length c) bs.length (rV bs)) :
  (convert 48 9 (.slice a bs.length c)).run Tryz.prog w=.ok (.string ⟨bs.toArray⟩) w:=by
 rcases h.cells with ⟨hv,hn⟩|⟨g,o,cap,hv,_,_,_,_,hc⟩
 ·simp only [Value.slice.injEq] at hv
  obtain ⟨rfl,hl,rfl⟩:=hv
  rw [List.eq_nil_of_length_eq_zero hl]
  exact run_convert_bytes_nil w 48 5 Tryz.underlying48 Tryz.underlying5 0 0 9 Tryz.underlying9
 ·simp only [Value.slice.injEq,true_and] at hv
  obtain ⟨rfl,rfl⟩:=hv
  refine run_convert_bytes_back w 48 9 5 _ c bs Tryz.underlying48 Tryz.underlying5 Tryz.underlying9 fun j hj=>?_
  have e1:(⟨g,o,none⟩:Addr).add j=⟨g,o+j,none⟩:=by unfold Addr.add;split<;>simp_all
  rw [e1];exact (hc j _ (by simp [rV,hj])).1
end Go.Proofs.YtefjbnhpjdhjmaaGreatDoor

namespace Go.Proofs.YtefjbnhpjdhjmaaGreatDoor
set_option linter.all false
open Go.RowKit
theorem dL.open {w:World} {S:Nat→Prop} {b o:Nat} {p:aA} (h:dL w S b o p):S b∧(p.text.size<1000000000∧p.name.size<1000000000∧p.kids.length<1000000000)∧
  w.cell? ⟨b,o,none⟩=some (.int .i64 p.kind)∧w.cell? ⟨b,o+1,none⟩=some (.string p.text)∧w.cell? ⟨b,o+2,none⟩=some (.int .i64 p.n)∧w.cell? ⟨b,o+3,none⟩=some (.string p.name)∧
  ∃ka cap,w.cell? ⟨b,o+4,none⟩=some (.slice ka p.kids.length cap)∧aI w S ka p.kids:=by
 obtain ⟨k,t,n,nm,kids⟩:=p;unfold dL at h;exact h
def Ap (w:World) (S:Nat→Prop) (c:List Value) (p:aA):Prop :=
 ∃ka cap,c=[.int .i64 p.kind,.string p.text,.int .i64 p.n,.string p.name,.slice ka p.kids.length cap]∧(p.text.size<1000000000∧p.name.size<1000000000∧p.kids.length<1000000000)∧aI w S ka p.kids
def gB (w:World) (S:Nat→Prop):List Value→List aA→Prop
 | cs,[]=>cs=[]
 | cs,p::ps=>∃c rest,cs=c++rest∧Ap w S c p∧gB w S rest ps
theorem Ap.length {w:World} {S:Nat→Prop} {c:List Value} {p:aA} (h:Ap w S c p):c.length=5:=by obtain ⟨_,_,rfl,_⟩:=h;rfl
theorem Ap.one {w:World} {S:Nat→Prop} {c:List Value} {p:aA} (h:Ap w S c p):∀u∈c,u.oneCell'=true:=by
 obtain ⟨_,_,rfl,_⟩:=h;intro u hu;simp at hu;rcases hu with rfl|rfl|rfl|rfl|rfl<;>rfl
theorem gB.length {w:World} {S:Nat→Prop}:∀{l:List aA} {cs:List Value},gB w S cs l→cs.length=l.length*5
 | [],cs,h=>by rw [gB] at h;subst h;rfl
 | p::ps,cs,h=>by
  rw [gB] at h;obtain ⟨c,r,rfl,h1,h2⟩:=h
  rw [List.length_append,h1.length,h2.length,List.length_cons];omega
theorem gB.one {w:World} {S:Nat→Prop}:∀{l:List aA} {cs:List Value},gB w S cs l→∀u∈cs,u.oneCell'=true
 | [],cs,h=>by rw [gB] at h;subst h;intro u hu;simp at hu
 | p::ps,cs,h=>by
  rw [gB] at h;obtain ⟨c,r,rfl,h1,h2⟩:=h
  intro u hu;rcases List.mem_append.1 hu with hu|hu;exact h1.one u hu;exact h2.one u hu
theorem gB.append {w:World} {S:Nat→Prop}:∀{l l':List aA} {cs cs':List Value},gB w S cs l→gB w S cs' l'→gB w S (cs++cs') (l++l')
 | [],_,cs,_,h,h'=>by rw [gB] at h;subst h;exact h'
 | p::ps,_,cs,_,h,h'=>by
  rw [gB] at h;obtain ⟨c,r,rfl,h1,h2⟩:=h
  rw [List.append_assoc,List.cons_append,gB]
  exact ⟨c,_,rfl,h1,h2.append h'⟩
theorem Ap.kept {w w':World} {S:Nat→Prop} {X:Nat→Prop} {c:List Value} {p:aA} (h:Ap w S c p) (hk:Kept X w w') (hs:Safe S X w.heap.size):Ap w' S c p:=by
 obtain ⟨ka,cap,rfl,hz,hp⟩:=h;exact ⟨ka,cap,rfl,hz,hp.kept hk hs⟩
theorem gB.kept {w w':World} {S:Nat→Prop} {X:Nat→Prop}:∀{l:List aA} {cs:List Value},gB w S cs l→Kept X w w'→Safe S X w.heap.size→gB w' S cs l
 | [],_,h,_,_=>h
 | p::ps,cs,h,hk,hs=>by
  rw [gB] at h⊢;obtain ⟨c,r,rfl,h1,h2⟩:=h
  exact ⟨c,r,rfl,h1.kept hk hs,h2.kept hk hs⟩
theorem Tryz.infoP:(Tryz.prog.info? 27).map (fun i=>(i.zero,i.size,i.bytes))=some (some (.agg #[.int .i64 0,.string ⟨#[]⟩,.int .i64 0,.string ⟨#[]⟩,.slice none 0 0]),5,72):=by kernel_rfl
theorem Tq (l:List aA) (j:Nat):aO (l.take j)≤aO l:=by
 induction l generalizing j with
 | nil=>simp
 | cons p ps ih=>cases j with
  | zero=>simp [aO]
  | succ j=>simp only [List.take_succ_cons,aO];have:=ih j;omega
end Go.Proofs.YtefjbnhpjdhjmaaGreatDoor

namespace Go.Proofs.YtefjbnhpjdhjmaaGreatDoor
set_option linter.all false
open Go.RowKit
def iQ (k:Int):Int:=if k=4∨k=5∨k=7 then 1 else if 8≤k∧k≤13 then 2 else 0
def zu (k:Int) (t:aj) (n:Int) (nm:aj) (len:Nat):Int :=
 if k<1∨13<k then 1
 else if k=1∧65536<t.size then 4
 else if k=2∧n<0 then 3
 else if (k=3∨k=4∨k=6)∧aS nm=false then 7
 else if (k=6∧8<len)∨(k≠6∧(len:Int)≠iQ k) then 5 else 0
mutual
def kF:aA→Int
 | .mk k t n nm kids=>if zu k t n nm kids.length=0 then pJ kids else zu k t n nm kids.length
def pJ:List aA→Int
 | []=>0
 | p::r=>if kF p=0 then pJ r else kF p
end
theorem Qs (l:List aA) (j:Nat) (h:j<l.length):pJ (l.drop j)=if kF l[j]=0 then pJ (l.drop (j+1)) else kF l[j]:=by
 rw [List.drop_eq_getElem_cons h,pJ]
def bg (p:aA):Int:=if fits p then kF p else 4
end Go.Proofs.YtefjbnhpjdhjmaaGreatDoor

namespace Go.Proofs.YtefjbnhpjdhjmaaGreatDoor
set_option linter.all false
open Go.RowKit Go.ChangeShapes Go.WideShapes Go.ChangeAt Go.ChangeMaps
set_option maxRecDepth 100000
theorem Yr:ownKnob Tryz.prog.godebug=none:=by kernel_rfl
theorem Yt:laidOutB Tryz.prog=true:=by kernel_rfl
section
variable {H:Type} {enc:TypeId×Value→H}
theorem Dy {W W':World} (hb:Below W.heap.size W W') {sp:Nat→Bool}:∀{ts:List TypeId} {vs:List Value} {ds:List (DataW H)} {ps:List MemPlace},
  (∀t∈ts,Tryz.prog.readableRec t=true∧t<Tryz.prog.types.size)→DataW.TrodAll enc Tryz.prog W 0 (fun _=>true) true ts vs ds ps→(∀x∈ps,x.block<W.heap.size)→(∀x∈ps,sp x.block=true)→
  DataW.TrodAll enc Tryz.prog W' 0 sp true ts vs ds ps
 | [],[],[],_,_,h,_,_=>h
 | _::_,_::_,_::_,_,ht,⟨p,q,h1,h2,e⟩,hl,hs =>
  ⟨p,q,WideElems.Trod_stays Yt (ht _ (by simp)).1 (ht _ (by simp)).2 h1 (fun x hx=>hb.same (hl x (by rw [e];exact List.mem_append_left _ hx))) (fun x hx=>hs x (by rw [e];exact List.mem_append_left _ hx)),
   Dy hb (fun t h=>ht t (by simp [h])) h2 (fun x hx=>hl x (by rw [e];exact List.mem_append_right _ hx)) (fun x hx=>hs x (by rw [e];exact List.mem_append_right _ hx)),e⟩
theorem Yu {f:Func} {s:ChangeSpec} {apart fresh handsOn again:Bool} {W W':World} {args:Array Value} {ds gs:List (DataW H)} {before:List MemPlace}
  (hW:DataW.Whole enc Tryz.prog f.params.toList s.vars apart W args.toList ds gs before) (hvars:s.vars=[]) (hres:f.resultTypes = #[4])
  (hread:∀t∈f.params.toList,Tryz.prog.readableRec t=true∧t<Tryz.prog.types.size)
  (hfn:s.fn H ds={results:=[.lit (.bool true)],args:=ds}) (hb:Below W.heap.size W W') :
  s.post enc Tryz.prog f apart fresh handsOn again W args (.bool true) W':=by
 have hlt:∀p∈before,p.block<W.heap.size:=fun p hp=>hW.lt p hp
 have hold:∀p∈before,(fun b=>decide (b<W.heap.size)) p.block=true:=fun p hp=>by simpa using hlt p hp
 obtain ⟨p,q,hA0,hV,he,hz,hn⟩:=id hW
 rw [hvars] at hV
 obtain ⟨rfl,rfl⟩:=trodVars_none hV
 rw [List.append_nil] at he
 subst he
 have hA:DataW.TrodAll enc Tryz.prog W 0 (fun _=>true) true f.params.toList args.toList ds before:=hA0
 have hr1:∀(b:Nat) (sp:Nat→Bool) (hd:Bool),DataW.TrodAll enc Tryz.prog W' b sp hd f.resultTypes.toList ((Value.bool true).resultList f.resultTypes.size) (s.fn H (ds++[])).results []:=by
  intro b sp hd
  rw [List.append_nil,hfn,hres]
  exact trodAll_cons_mk (shut_bool Tryz.underlying4 _) trodAll_mk0
 have hargs:∀sp:Nat→Bool,(∀p∈before,sp p.block=true)→DataW.TrodAll enc Tryz.prog W' 0 sp true f.params.toList args.toList (s.fn H (ds++[])).args before:=by
  intro sp hsp
  rw [List.append_nil,hfn]
  exact Dy hb hread hA hlt hsp
 have hvr:∀sp:Nat→Bool,DataW.TrodVars enc Tryz.prog W' sp s.vars (s.fn H (ds++[])).vars []:=by
  intro sp
  rw [hvars,List.append_nil,hfn];rfl
 refine ⟨ds,[],before,[],before,[],hW,hr1 _ _ _,hargs _ hold,hvr _,World.keptBut_mono (fun p hp=>⟨hp,.inr (.inl hp)⟩) (hb.frame (·∈before)),fun _=>?_⟩
 refine ⟨?_,_,_,([]++before)++[],⟨[]++before,[],trodAll_append (hargs _ (fun _ _=>rfl)) (hr1 _ _ _),hvr _,rfl,?_,?_⟩,?_⟩
 ·exact ok_one hres rfl (okWide_bool_mk Tryz.underlying4 _)
 ·intro b off hp
  have hin:MemPlace.cell b off∈before:=by simpa using hp
  rw [hb.frozen (hlt _ hin)]
  exact hz b off hin
 ·intro ha
  simpa using hn ha
 ·intro p hp _
  simpa using hp
end
end Go.Proofs.YtefjbnhpjdhjmaaGreatDoor
