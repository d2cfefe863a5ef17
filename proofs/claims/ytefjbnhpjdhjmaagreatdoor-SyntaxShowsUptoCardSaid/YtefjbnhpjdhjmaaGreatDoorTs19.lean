/-  -/
import Derived.Test.YtefjbnhpjdhjmaaGreatDoorTs3
import Derived.Test.YtefjbnhpjdhjmaaGreatDoorBase
import Derived.Deep.AppendLies
import Derived.Deep.AppendSrc
import Derived.Deep.RegionLaw
import Derived.Test.YtefjbnhpjdhjmaaGreatDoorWrong
import Derived.Test.YtefjbnhpjdhjmaaGreatDoorRows
import Derived.Test.YtefjbnhpjdhjmaaGreatDoorTs1
import Derived.Deep.Slices
import Derived.ProofKit
import Derived.OpenShut
namespace Go.Proofs.YtefjbnhpjdhjmaaGreatDoor
set_option linter.all false
open Go.RowKit
theorem VG (p:aA):eP p=1+iq p.kids:=by cases p;rw [eP,aA.aU]
end Go.Proofs.YtefjbnhpjdhjmaaGreatDoor

namespace Go.Proofs.YtefjbnhpjdhjmaaGreatDoor
set_option linter.all false
open Go.RowKit
def bT (w:World) (B:Nat) (e:TypeId) (size:Nat) (v:Value) (n:Nat) (xs:List Value):Prop :=
 xs.length=n*size∧
 ((v=.slice none 0 0∧n=0)∨
  ∃g o cap cur,v=.slice (some ⟨g,o,none⟩) n cap∧B≤g∧w.heap[g]?=some (.cells cur e (0,0))∧n≤cap∧cap≤maxLen∧o+cap*size≤cur.size∧(cur.toList.drop o).take (n*size)=xs)
section
variable {w w':World} {B:Nat} {e:TypeId} {size:Nat} {v:Value} {n:Nat} {xs:List Value}
theorem bT.nil (w:World) (B:Nat) (e:TypeId) (size:Nat):bT w B e size (.slice none 0 0) 0 []:=⟨by simp,.inl ⟨rfl,rfl⟩⟩
theorem bT.lt (h:bT w B e size v n xs):∀k,v.ownBlock=some k→B≤k∧k<w.heap.size:=by
 intro k hk
 rcases h.2 with ⟨rfl,_⟩|⟨g,o,cap,cur,rfl,hb,hg,_⟩
 ·simp [Value.ownBlock] at hk
 ·simp [Value.ownBlock] at hk;subst hk
  exact ⟨hb,(Array.getElem?_eq_some_iff.1 hg).1⟩
theorem bT.same (h:bT w B e size v n xs) (hb:∀k,v.ownBlock=some k→w'.heap[k]?=w.heap[k]?):bT w' B e size v n xs:=by
 refine ⟨h.1,?_⟩
 rcases h.2 with hn|⟨g,o,cap,cur,rfl,hb',hg,r⟩
 ·exact .inl hn
 ·exact .inr ⟨g,o,cap,cur,rfl,hb',by rw [hb g rfl];exact hg,r⟩
theorem bT.kept {X:Nat→Prop} (h:bT w B e size v n xs) (hk:Kept X w w') (hx:∀k,v.ownBlock=some k→¬X k):bT w' B e size v n xs :=
 h.same fun k hk'=>hk.block k (h.lt k hk').2 (hx k hk')
theorem bT.alloc (h:bT w B e size v n xs) (o:Obj):bT (w.alloc o) B e size v n xs:=h.same fun k hk=>Below.heap_alloc _ _ _ (h.lt k hk).2
theorem bT.mono {B':Nat} (h:bT w B e size v n xs) (hB:B'≤B):bT w B' e size v n xs:=by
 refine ⟨h.1,?_⟩
 rcases h.2 with hn|⟨g,o,cap,cur,rfl,hb',r⟩
 ·exact .inl hn
 ·exact .inr ⟨g,o,cap,cur,rfl,by omega,r⟩
theorem bT.setCell {p:Addr} (h:bT w B e size v n xs) (hp:v.ownBlock≠some p.block) (u:Value):bT (w.setCell p u) B e size v n xs :=
 h.same fun k hk=>Below.heap_setCell _ _ _ _ fun e=>hp (by rw [hk,e])
theorem bT.cells (h:bT w B e size v n xs):(v=.slice none 0 0∧n=0)∨∃g o cap,v=.slice (some ⟨g,o,none⟩) n cap∧B≤g∧g<w.heap.size∧n≤cap∧cap≤maxLen∧
  ∀j u,xs[j]?=some u→w.cell? ⟨g,o+j,none⟩=some u∧w.frozen? ⟨g,o+j,none⟩=false:=by
 rcases h.2 with hn|⟨g,o,cap,cur,rfl,hb,hg,h1,h2,h3,h4⟩
 ·exact .inl hn
 ·refine .inr ⟨g,o,cap,rfl,hb,(Array.getElem?_eq_some_iff.1 hg).1,h1,h2,fun j u hu=>⟨?_,by simp [World.frozen?,hg]⟩⟩
  rw [cell_of_row w g (o+j) cur e (0,0) hg]
  rw [←h4,List.getElem?_take] at hu
  split at hu
  ·rw [List.getElem?_drop] at hu;simpa using hu
  ·cases hu
theorem bT.tail {g o cap:Nat} {ys zs:List Value} (h:bT w B e size (.slice (some ⟨g,o,none⟩) (n+1) cap) (n+1) (ys++zs)) (hy:ys.length=size) :
  bT w B e size (.slice (if cap=1 then some ⟨g,o,none⟩ else some ⟨g,o+size,none⟩) n (cap-1)) n zs:=by
 obtain ⟨hl,hr⟩:=h
 rcases hr with ⟨hv,_⟩|⟨g',o',cap',cur,hv,hb,hg,h1,h2,h3,h4⟩
 ·simp at hv
 ·simp only [Value.slice.injEq,Option.some.injEq,Addr.mk.injEq,and_true,true_and] at hv
  obtain ⟨⟨rfl,rfl⟩,rfl⟩:=hv
  have hzl:zs.length=n*size:=by rw [List.length_append,hy,Nat.add_mul,Nat.one_mul] at hl;omega
  refine ⟨hzl,.inr ?_⟩
  by_cases hc:cap=1
  ·subst hc
   obtain rfl:n=0:=by omega
   obtain rfl:zs=[]:=List.eq_nil_of_length_eq_zero (by simpa using hzl)
   exact ⟨g,o,0,cur,by simp,hb,hg,Nat.le_refl _,by simp,by simp only [Nat.zero_mul,Nat.add_zero];omega,by simp⟩
  ·refine ⟨g,o+size,cap-1,cur,by rw [if_neg hc],hb,hg,by omega,by omega,?_,?_⟩
   ·have:cap*size=size+(cap-1)*size:=by rw [Nat.sub_mul,Nat.one_mul];have:=Nat.le_mul_of_pos_left size (show 0<cap by omega);omega
    omega
   ·have:=congrArg (List.drop size) h4
    rw [List.drop_left' hy,List.drop_take,List.drop_drop] at this
    rw [←this]
    congr 1
    rw [Nat.add_mul,Nat.one_mul];omega
end
section
variable {P:Program} (w:World)
theorem JX (B:Nat) (t tx ty e:TypeId) (i:TypeInfo) (z:Value) (size bytes:Nat) (ht:P.underlying t=some (.slice e)) (hi:P.info? e=some i) (hz:i.zero=some z)
  (hsize:i.size=size) (hby:i.bytes=bytes) (hzs:z.cells.size=size)
  (v:Value) (n:Nat) (xs:List Value) (hown:bT w B e size v n xs) (x:Value) (m:Nat) (news:List Value) (hs:Src P size tx x m news w)
  (h63:n+m≤maxLen) (hbytes:(n+m)*bytes≤140737488355328) (hbase:B≤w.heap.size) :
  ∃v' w',(Builtin.append_ #[t,tx] ty #[v,x]).run P w=.ok v' w'∧bT w' B e size v' (n+m) (xs++news)∧w.grownBy w' v.ownBlock∧
   (v'.ownBlock=v.ownBlock∨v'.ownBlock=some w.heap.size):=by
 subst hsize
 subst hby
 have hl:=hs.newsLen
 have hlen:(xs++news).length=(n+m)*i.size:=by rw [List.length_append,hown.1,hl,Nat.add_mul]
 have h63':((n+m:Nat):Int)≤9223372036854775807:=by simp only [maxLen] at h63;omega
 have grown:∀(old:Nat),old<n+m→∀(row:Option Nat),
   bT (w.drew.alloc (.cells ((xs++news).toArray++Builtin.zeroCells z.cells (grownCap w (n+m) old e-(n+m))) e)) B e i.size (.slice (some ⟨w.heap.size,0,none⟩) (n+m) (grownCap w (n+m) old e)) (n+m) (xs++news)∧
   w.grownBy (w.drew.alloc (.cells ((xs++news).toArray++Builtin.zeroCells z.cells (grownCap w (n+m) old e-(n+m))) e)) row:=by
  intro old ho row
  have hge:=grownCap_ge w (n+m) old e
  have hcm:grownCap w (n+m) old e≤maxLen:=grownCap_le_maxLen w (n+m) old e h63
  refine ⟨⟨hlen,.inr ⟨w.heap.size,0,_,_,rfl,hbase,ay w.drew _,hge,hcm,?_,?_⟩⟩,⟨rfl,rfl,rfl,by simp,fun k hk _=>Below.heap_alloc w.drew _ k hk⟩⟩
  ·rw [Array.size_append,List.size_toArray,size_zeroCells,hzs,hlen,←Nat.add_mul,Nat.zero_add,Nat.add_sub_cancel' hge];exact Nat.le_refl _
  ·rw [List.drop_zero,Array.toList_append,←hlen]
   exact List.take_left
 rcases hown.2 with ⟨rfl,rfl⟩|⟨g,o,cap,cur,rfl,hbg,hg,hnc,hcm,hcs,htake⟩
 ·have hx:xs=[]:=List.eq_nil_of_length_eq_zero (by simpa using hown.1)
  subst hx
  by_cases hm:m=0
  ·subst hm
   have hn:news=[]:=List.eq_nil_of_length_eq_zero (by simpa using hl)
   subst hn
   refine ⟨.slice none 0 0,w,?_,bT.nil w B e i.size,⟨rfl,rfl,rfl,Nat.le_refl _,fun _ _ _=>rfl⟩,.inl rfl⟩
   rcases hs.kind with ⟨e',hk⟩|hk<;>simp [Builtin.append_,run_underlying ht,run_underlying hk,sizeOf,typeInfo,hi,hs.len,hs.cells]
  ·have hr:=run_append_grow_src (P:=P) w t tx ty e i z ht hi hz none 0 0 [] (by simp [Builtin.firstCells]) x m news hs (by omega) h63' (growslice_fits (by omega) hbytes)
   have hgr:=grown 0 (by omega) (Value.ownBlock (.slice none 0 0))
   exact ⟨_,_,hr,hgr.1,hgr.2,.inr rfl⟩
 ·by_cases hroom:n+m≤cap
  ·have hmul:(n+m)*i.size≤cap*i.size:=Nat.mul_le_mul_right _ hroom
   have hadd:(n+m)*i.size=n*i.size+m*i.size:=Nat.add_mul _ _ _
   have hfit:o+n*i.size+0+news.length≤cur.size:=by rw [hl];omega
   have hst:=run_storeCells_at P g (o+n*i.size) e news 0 cur w hg hfit hs.one
   simp only [Nat.add_zero] at hst
   have hr:(Builtin.append_ #[t,tx] ty #[.slice (some ⟨g,o,none⟩) n cap,x]).run P w=.ok (.slice (some ⟨g,o,none⟩) (n+m) cap)
     (w.setRow g (cur.toList.take (o+n*i.size)++news++cur.toList.drop (o+n*i.size+news.length)).toArray):=by
    rcases hs.kind with ⟨e',hk⟩|hk<;>simp [Builtin.append_,run_underlying ht,run_underlying hk,sizeOf,typeInfo,hi,hs.len,hroom,hs.cells,Addr.add_lit,hst]
   refine ⟨_,_,hr,⟨hlen,.inr ⟨g,o,cap,_,rfl,hbg,setRow_heap w g cur _ e _ hg,hroom,hcm,?_,?_⟩⟩,⟨rfl,rfl,rfl,by simp,fun k _ hk=>setRow_other w g k _ (fun e=>hk (by simp [Value.ownBlock,e]))⟩,.inl rfl⟩
   ·simp only [List.size_toArray,List.length_append,List.length_take,List.length_drop,Array.length_toList]
    omega
   ·have hlt:(cur.toList.take (o+n*i.size)).length=o+n*i.size:=by rw [List.length_take,Array.length_toList];omega
    show List.take _ (List.drop o (cur.toList.take (o+n*i.size)++news++cur.toList.drop (o+n*i.size+news.length)))=_
    rw [List.append_assoc,List.drop_append_of_le_length (by omega),List.drop_take,show o+n*i.size-o=n*i.size by omega,htake,←List.append_assoc,←hlen]
    exact List.take_left
  ·have holds:(Builtin.firstCells i.size n (.slice (some ⟨g,o,none⟩) n cap)).run P w.drew=.ok xs.toArray w.drew:=by
    refine run_firstCells_some w.drew i.size n _ n cap xs hown.1 fun j u hu=>?_
    have e1:(⟨g,o,none⟩:Addr).add j=⟨g,o+j,none⟩:=by unfold Addr.add;split<;>simp_all
    rw [e1,World.cell?_drew,cell_of_row w g (o+j) cur e (0,0) hg]
    rw [←htake,List.getElem?_take] at hu
    split at hu
    ·rw [List.getElem?_drop] at hu;simpa using hu
    ·cases hu
   have hr:=run_append_grow_src (P:=P) w t tx ty e i z ht hi hz (some ⟨g,o,none⟩) n cap xs holds x m news hs (by omega) h63' (growslice_fits (by omega) hbytes)
   have hgr:=grown cap (by omega) (Value.ownBlock (.slice (some ⟨g,o,none⟩) n cap))
   exact ⟨_,_,hr,hgr.1,hgr.2,.inr rfl⟩
theorem bT.shape {w:World} {B:Nat} {e:TypeId} {size:Nat} {v:Value} {n:Nat} {xs:List Value} (h:bT w B e size v n xs):∃a cap,v=.slice a n cap:=by
 rcases h.2 with ⟨rfl,rfl⟩|⟨g,o,cap,cur,rfl,_⟩
 ·exact ⟨_,_,rfl⟩
 ·exact ⟨_,_,rfl⟩
theorem yu {o:Oper} {a:Act} {K:Act→World→Prop} {Q:Exit→Act→World→Prop} (s x:Operand) (t tx:TypeId)
  (ho:o.op=.call {callee:=.builtin .append,args:=#[s,x],argTypes:=#[t,tx]})
  (B:Nat) (e:TypeId) (i:TypeInfo) (z:Value) (size bytes:Nat) (ht:P.underlying t=some (.slice e)) (hi:P.info? e=some i) (hz:i.zero=some z)
  (hsize:i.size=size) (hby:i.bytes=bytes) (hzs:z.cells.size=size)
  (v:Value) (n:Nat) (xs:List Value) (hs:a.eval s=v) (hown:bT w B e size v n xs)
  (xv:Value) (m:Nat) (news:List Value) (hx:a.eval x=xv) (hsrc:Src P size tx xv m news w)
  (h63:n+m≤maxLen) (hbytes:(n+m)*bytes≤140737488355328) (hbase:B≤w.heap.size)
  (h:∀a' c' w',bT w' B e size (.slice a' (n+m) c') (n+m) (xs++news)→w.grownBy w' v.ownBlock→((Value.slice a' (n+m) c').ownBlock=v.ownBlock∨(Value.slice a' (n+m) c').ownBlock=some w.heap.size)→K (a.put o.dst (.slice a' (n+m) c')) w'):o.wp P a w K Q:=by
 obtain ⟨v',w',hr,h2,h3,h4⟩:=JX (P:=P) w B t tx o.type e i z size bytes ht hi hz hsize hby hzs v n xs hown xv m news hsrc h63 hbytes hbase
 obtain ⟨a',c',rfl⟩:=h2.shape
 unfold Oper.wp execOp
 simp only [ho,resolve,invoke,builtin,Sem.run_bind,Sem.run_pure,Result.andThen_ok,List.map_toArray,List.map_cons,List.map_nil,hs,hx,hr]
 exact h a' c' w' h2 h3 h4
theorem jq {ops:Array Oper} {rest:List Oper} {o:Oper} {a:Act} {Q:Exit→Act→World→Prop} (hgd:o.guard=none) (s x:Operand) (t tx:TypeId)
  (ho:o.op=.call {callee:=.builtin .append,args:=#[s,x],argTypes:=#[t,tx]})
  (B:Nat) (e:TypeId) (i:TypeInfo) (z:Value) (size bytes:Nat) (ht:P.underlying t=some (.slice e)) (hi:P.info? e=some i) (hz:i.zero=some z)
  (hsize:i.size=size) (hby:i.bytes=bytes) (hzs:z.cells.size=size)
  (v:Value) (n:Nat) (xs:List Value) (hs:a.eval s=v) (hown:bT w B e size v n xs)
  (xv:Value) (m:Nat) (news:List Value) (hx:a.eval x=xv) (hsrc:Src P size tx xv m news w)
  (h63:n+m≤maxLen) (hbytes:(n+m)*bytes≤140737488355328) (hbase:B≤w.heap.size)
  (h:∀a' c' w',bT w' B e size (.slice a' (n+m) c') (n+m) (xs++news)→w.grownBy w' v.ownBlock→((Value.slice a' (n+m) c').ownBlock=v.ownBlock∨(Value.slice a' (n+m) c').ownBlock=some w.heap.size)→wpList P ops Q rest (a.put o.dst (.slice a' (n+m) c')) w') :
  wpList P ops Q (o::rest) a w :=
 wpList_plain hgd fun _ hK=>yu w s x t tx ho B e i z size bytes ht hi hz hsize hby hzs v n xs hs hown xv m news hx hsrc h63 hbytes hbase fun a' c' w' h2 h3 h4=>hK _ _ (h a' c' w' h2 h3 h4)
theorem lK {ops:Array Oper} {o:Oper} {a:Act} {K:Act→World→Prop} {Q:Exit→Act→World→Prop} {E:Prop} (hgd:o.guard=none) (s x:Operand) (t tx:TypeId)
  (ho:o.op=.call {callee:=.builtin .append,args:=#[s,x],argTypes:=#[t,tx]})
  (B:Nat) (e:TypeId) (i:TypeInfo) (z:Value) (size bytes:Nat) (ht:P.underlying t=some (.slice e)) (hi:P.info? e=some i) (hz:i.zero=some z)
  (hsize:i.size=size) (hby:i.bytes=bytes) (hzs:z.cells.size=size)
  (v:Value) (n:Nat) (xs:List Value) (hs:a.eval s=v) (hown:bT w B e size v n xs)
  (xv:Value) (m:Nat) (news:List Value) (hx:a.eval x=xv) (hsrc:Src P size tx xv m news w)
  (h63:n+m≤maxLen) (hbytes:(n+m)*bytes≤140737488355328) (hbase:B≤w.heap.size)
  (h:∀a' c' w',bT w' B e size (.slice a' (n+m) c') (n+m) (xs++news)→w.grownBy w' v.ownBlock→((Value.slice a' (n+m) c').ownBlock=v.ownBlock∨(Value.slice a' (n+m) c').ownBlock=some w.heap.size)→K (a.put o.dst (.slice a' (n+m) c')) w') :
  if Region.wanted o (yielded ops a.tmps)=true then Oper.wp P o a w K Q else E:=by
 have hw:Region.wanted o (yielded ops a.tmps)=true:=by simp [Region.wanted,hgd]
 rw [if_pos hw]
 exact yu w s x t tx ho B e i z size bytes ht hi hz hsize hby hzs v n xs hs hown xv m news hx hsrc h63 hbytes hbase h
end
end Go.Proofs.YtefjbnhpjdhjmaaGreatDoor

namespace Go.Proofs.YtefjbnhpjdhjmaaGreatDoor
set_option linter.all false
open Go.RowKit
def sJ (bs:List UInt8):List Value:=bs.map fun b=>.int .u8 (b.toNat:Int)
theorem dO {N:Nat} {w:World} {o:Obj} (h:N=w.heap.size):(w.alloc o).heap[N]?=some o:=by subst h;exact ay w _
theorem Kept.drewN' (w:World) (n:Nat):Kept aC w (w.drewN n):=⟨rfl,rfl,rfl,Nat.le_refl _,fun _ _ _=>rfl⟩
theorem Tryz.infoB:(Tryz.prog.info? 5).map (fun i=>(i.zero,i.size,i.bytes))=some (some (.int .u8 0),1,1):=by kernel_rfl
theorem bT.conv {w:World} {B:Nat} {a:Option Addr} {c:Nat} {bs:List UInt8} (h:bT w B 5 1 (.slice a bs.length c) bs.length (sJ bs)) :
  (convert 48 9 (.slice a bs.length c)).run Tryz.prog w=.ok (.string ⟨bs.toArray⟩) w:=by
 rcases h.cells with ⟨hv,hn⟩|⟨g,o,cap,hv,_,_,_,_,hc⟩
 ·simp only [Value.slice.injEq] at hv
  obtain ⟨rfl,hl,rfl⟩:=hv
  rw [List.eq_nil_of_length_eq_zero hl]
  exact run_convert_bytes_nil w 48 5 Tryz.underlying48 Tryz.underlying5 0 0 9 Tryz.underlying9
 ·simp only [Value.slice.injEq,true_and] at hv
  obtain ⟨rfl,rfl⟩:=hv
  refine run_convert_bytes_back w 48 9 5 _ c bs Tryz.underlying48 Tryz.underlying5 Tryz.underlying9 fun j hj=>?_
  have e1:(⟨g,o,none⟩:Addr).add j=⟨g,o+j,none⟩:=by unfold Addr.add;split<;>simp_all
  rw [e1];exact (hc j _ (by simp [sJ,hj])).1
end Go.Proofs.YtefjbnhpjdhjmaaGreatDoor

namespace Go.Proofs.YtefjbnhpjdhjmaaGreatDoor
set_option linter.all false
open Go.RowKit
set_option maxRecDepth 100000
set_option maxHeartbeats 400000
theorem V3 {w:World} {b:Nat} {ks:List Int} {t:TypeId} {fr:Nat×Nat} (h:w.heap[b]?=some (.cells (ks.map (Value.int .i64)).toArray t fr)) {i:Nat} (hi:i<ks.length) :
  w.cell? ⟨b,i,none⟩=some (.int .i64 ks[i]):=by
 rw [cell_of_row w b i _ t fr h];simp [hi]
theorem zB (k:Int) (ks:List Int) (v:Bool) (hv:ks.contains k=v) (b cap:Nat) (t:TypeId) (fr:Nat×Nat) (w:World) (hb:w.heap[b]?=some (.cells (ks.map (Value.int .i64)).toArray t fr)) (hl:ks.length<1000) :
  Calls Tryz.prog 58 #[.int .i64 k,.slice (some ⟨b,0,none⟩) ks.length cap] w fun e w'=>e=.returned (.bool v)∧w=w':=by
 have HB:=ah hb;have HV:=ah hv;clear hb hv
 go_enter Tryz.func58, Tryz.ntmps58
 go_wp2_with fail
 go_loop [9] (fun i=>∃j:Nat,j≤ks.length∧i=.int .i64 j∧Hid (∀x,x<j→ks.getD x 0≠k)) (fun i=>ks.length-(intOf i).toNat)
 case atStart=>exact ⟨0,Nat.zero_le _,rfl,by intro x hx;omega⟩
 case round =>
  obtain ⟨j,hj,rfl,hno⟩:=hrel
  by_cases hlt:j<ks.length
  ·have hc:=V3 HB.out hlt
   by_cases he:ks[j]=k
   ·have hq:(ks[j]==k)=true:=by simpa using he
    have fin:Hid (v=true):=by unfold Hid;rw [←HV.out];exact List.contains_iff_mem.2 (he ▸ List.getElem_mem hlt)
    clear he
    go_wp2_with fail
    go_ret
    exact ⟨zD fin.out.symm,rfl⟩
   ·have hq:(ks[j]==k)=false:=by simpa using he
    have step:Hid (∀x,x<j+1→ks.getD x 0≠k):=by
     intro x hx
     rcases Nat.lt_or_ge x j with h|h
     ·exact hno.out x h
     ·obtain rfl:x=j:=by omega
      rw [List.getD_eq_getElem?_getD,List.getElem?_eq_getElem hlt];exact he
    clear he
    go_wp2_with fail
    go_round
    case rel=>exact ⟨j+1,by omega,by go_num,step⟩
    case measure=>simp [intOf];omega
  ·have fin:Hid (v=false):=by
    unfold Hid;rw [←HV.out,←Bool.not_eq_true,List.contains_iff_mem]
    intro hm
    obtain ⟨x,hx,he⟩:=List.getElem_of_mem hm
    have:=hno.out x (by omega)
    rw [List.getD_eq_getElem?_getD,List.getElem?_eq_getElem hx] at this
    exact this he
   go_wp2_with fail
   go_ret
   exact ⟨zD fin.out.symm,rfl⟩
theorem Tc (k:Int):([3,4,5,6,7]:List Int).contains k=decide (aT k):=by
 rw [Bool.eq_iff_iff,decide_eq_true_eq];unfold aT;simp;omega
theorem V6 (k:Int):([2,8,9,10,11]:List Int).contains k=decide (bD k):=by
 rw [Bool.eq_iff_iff,decide_eq_true_eq];unfold bD;simp;omega
def mY (b:Bool) (w:World) (e:Ending) (w':World):Prop:=e=.returned (.bool b)∧Kept aC w w'
theorem Ag (k:Int) (w:World):Calls Tryz.prog 56 #[.int .i64 k] w (mY (decide (aT k)) w):=by
 go_enter Tryz.func56, Tryz.ntmps56
 go_wp2_with fail
 refine (zB k [3,4,5,6,7] _ (Tc k) w.heap.size 5 3 (0,0) _ (ay w _) (by decide)).mono ?_
 rintro e w' ⟨rfl,rfl⟩
 go_wp2_with fail
 go_ret
 exact ⟨rfl,(Kept.refl _ _).alloc _⟩
theorem tZ (k:Int) (w:World):Calls Tryz.prog 57 #[.int .i64 k] w (mY (decide (bD k)) w):=by
 go_enter Tryz.func57, Tryz.ntmps57
 go_wp2_with fail
 refine (zB k [2,8,9,10,11] _ (V6 k) w.heap.size 5 3 (0,0) _ (ay w _) (by decide)).mono ?_
 rintro e w' ⟨rfl,rfl⟩
 go_wp2_with fail
 go_ret
 exact ⟨rfl,(Kept.refl _ _).alloc _⟩
end Go.Proofs.YtefjbnhpjdhjmaaGreatDoor

namespace Go.Proofs.YtefjbnhpjdhjmaaGreatDoor
set_option linter.all false
open Go.RowKit
def jf (k:Int):Int:=if k=4∨k=5∨k=7 then 1 else if 8≤k∧k≤13 then 2 else 0
def DR (k:Int) (t:aj) (n:Int) (nm:aj) (len:Nat):Int :=
 if k<1∨13<k then 1
 else if k=1∧65536<t.size then 4
 else if k=2∧n<0 then 3
 else if (k=3∨k=4∨k=6)∧bF nm=false then 7
 else if (k=6∧8<len)∨(k≠6∧(len:Int)≠jf k) then 5 else 0
mutual
def kX:aA→Int
 | .mk k t n nm kids=>if DR k t n nm kids.length=0 then rH kids else DR k t n nm kids.length
def rH:List aA→Int
 | []=>0
 | p::r=>if kX p=0 then rH r else kX p
end
theorem PL (l:List aA) (j:Nat) (h:j<l.length):rH (l.drop j)=if kX l[j]=0 then rH (l.drop (j+1)) else kX l[j]:=by
 rw [List.drop_eq_getElem_cons h,rH]
def bC (p:aA):Int:=if fits p then kX p else 4
end Go.Proofs.YtefjbnhpjdhjmaaGreatDoor

namespace Go.Proofs.YtefjbnhpjdhjmaaGreatDoor
set_option linter.all false
open Go.RowKit
structure aN where
 label:aj
 kind:Int
 target:aA
 value:aA
 pat:aA
 name:aj
 entry:aj
 params:List aj
 locals:List aj
 always:aj
 yes:aj
 aZ:aj
structure ig where
 ta:Option Addr
 tc:Nat
 va:Option Addr
 vc:Nat
 pa:Option Addr
 pc:Nat
 ma:Option Addr
 mc:Nat
 la:Option Addr
 lc:Nat
def nD (w:World) (S:Nat→Prop) (a:Option Addr) (l:List aj):Prop :=
 0<l.length→∃b o,a=some ⟨b,o,none⟩∧S b∧∀i (h:i<l.length),w.cell? ⟨b,o+i,none⟩=some (.string l[i])
theorem nD.to {w w':World} {S S':Nat→Prop} {X:Nat→Prop} {a:Option Addr} {l:List aj} (h:nD w S a l) (hk:Kept X w w') (hs:Safe S X w.heap.size) (h':∀b,S b→S' b):nD w' S' a l:=by
 intro h0
 obtain ⟨b,o,rfl,hb,hc⟩:=h h0
 exact ⟨b,o,rfl,h' b hb,fun i hi=>(hk.cell (hs b hb).1 (hs b hb).2).trans (hc i hi)⟩
def bV (a:ig) (s:aN):Value :=
 .agg #[.string s.label,.int .i64 s.kind,
  .int .i64 s.target.kind,.string s.target.text,.int .i64 s.target.n,.string s.target.name,.slice a.ta s.target.kids.length a.tc,
  .int .i64 s.value.kind,.string s.value.text,.int .i64 s.value.n,.string s.value.name,.slice a.va s.value.kids.length a.vc,
  .int .i64 s.pat.kind,.string s.pat.text,.int .i64 s.pat.n,.string s.pat.name,.slice a.pa s.pat.kids.length a.pc,
  .string s.name,.string s.entry,.slice a.ma s.params.length a.mc,.slice a.la s.locals.length a.lc,.string s.always,.string s.yes,.string s.aZ]
def aV (a:ig) (s:aN):List Value :=
 [.string s.label,.int .i64 s.kind,
  .int .i64 s.target.kind,.string s.target.text,.int .i64 s.target.n,.string s.target.name,.slice a.ta s.target.kids.length a.tc,
  .int .i64 s.value.kind,.string s.value.text,.int .i64 s.value.n,.string s.value.name,.slice a.va s.value.kids.length a.vc,
  .int .i64 s.pat.kind,.string s.pat.text,.int .i64 s.pat.n,.string s.pat.name,.slice a.pa s.pat.kids.length a.pc,
  .string s.name,.string s.entry,.slice a.ma s.params.length a.mc,.slice a.la s.locals.length a.lc,.string s.always,.string s.yes,.string s.aZ]
def dF (N:Nat) (a:ig) (s:aN) (w:World):Prop:=w.heap[N]?=some (.cells #[.string s.label,.int .i64 s.kind,
  .int .i64 s.target.kind,.string s.target.text,.int .i64 s.target.n,.string s.target.name,.slice a.ta s.target.kids.length a.tc,
  .int .i64 s.value.kind,.string s.value.text,.int .i64 s.value.n,.string s.value.name,.slice a.va s.value.kids.length a.vc,
  .int .i64 s.pat.kind,.string s.pat.text,.int .i64 s.pat.n,.string s.pat.name,.slice a.pa s.pat.kids.length a.pc,
  .string s.name,.string s.entry,.slice a.ma s.params.length a.mc,.slice a.la s.locals.length a.lc,.string s.always,.string s.yes,.string s.aZ] 30 (0,0))
theorem dF.new (w:World) (a:ig) (s:aN):dF w.heap.size a s (w.alloc (.cells #[.string s.label,.int .i64 s.kind,
  .int .i64 s.target.kind,.string s.target.text,.int .i64 s.target.n,.string s.target.name,.slice a.ta s.target.kids.length a.tc,
  .int .i64 s.value.kind,.string s.value.text,.int .i64 s.value.n,.string s.value.name,.slice a.va s.value.kids.length a.vc,
  .int .i64 s.pat.kind,.string s.pat.text,.int .i64 s.pat.n,.string s.pat.name,.slice a.pa s.pat.kids.length a.pc,
  .string s.name,.string s.entry,.slice a.ma s.params.length a.mc,.slice a.la s.locals.length a.lc,.string s.always,.string s.yes,.string s.aZ] 30)):=ay w _
theorem dF.lt {N:Nat} {a:ig} {s:aN} {w:World} (h:dF N a s w):N<w.heap.size:=(Array.getElem?_eq_some_iff.1 h).1
theorem dF.kept {N:Nat} {a:ig} {s:aN} {w w':World} {X:Nat→Prop} (h:dF N a s w) (hk:Kept X w w') (hx:¬X N):dF N a s w':=by
 unfold dF;rw [hk.block N h.lt hx];exact h
theorem dF.cells {N:Nat} {a:ig} {s:aN} {w:World} (h:dF N a s w):w.cell? ⟨N,0,none⟩=some (.string s.label)∧
  w.cell? ⟨N,1,none⟩=some (.int .i64 s.kind)∧
  w.cell? ⟨N,2,none⟩=some (.int .i64 s.target.kind)∧
  w.cell? ⟨N,3,none⟩=some (.string s.target.text)∧
  w.cell? ⟨N,4,none⟩=some (.int .i64 s.target.n)∧
  w.cell? ⟨N,5,none⟩=some (.string s.target.name)∧
  w.cell? ⟨N,6,none⟩=some (.slice a.ta s.target.kids.length a.tc)∧
  w.cell? ⟨N,7,none⟩=some (.int .i64 s.value.kind)∧
  w.cell? ⟨N,8,none⟩=some (.string s.value.text)∧
  w.cell? ⟨N,9,none⟩=some (.int .i64 s.value.n)∧
  w.cell? ⟨N,10,none⟩=some (.string s.value.name)∧
  w.cell? ⟨N,11,none⟩=some (.slice a.va s.value.kids.length a.vc)∧
  w.cell? ⟨N,12,none⟩=some (.int .i64 s.pat.kind)∧
  w.cell? ⟨N,13,none⟩=some (.string s.pat.text)∧
  w.cell? ⟨N,14,none⟩=some (.int .i64 s.pat.n)∧
  w.cell? ⟨N,15,none⟩=some (.string s.pat.name)∧
  w.cell? ⟨N,16,none⟩=some (.slice a.pa s.pat.kids.length a.pc)∧
  w.cell? ⟨N,17,none⟩=some (.string s.name)∧
  w.cell? ⟨N,18,none⟩=some (.string s.entry)∧
  w.cell? ⟨N,19,none⟩=some (.slice a.ma s.params.length a.mc)∧
  w.cell? ⟨N,20,none⟩=some (.slice a.la s.locals.length a.lc)∧
  w.cell? ⟨N,21,none⟩=some (.string s.always)∧
  w.cell? ⟨N,22,none⟩=some (.string s.yes)∧
  w.cell? ⟨N,23,none⟩=some (.string s.aZ):=by
 unfold dF at h
 refine ⟨?_,?_,?_,?_,?_,?_,?_,?_,?_,?_,?_,?_,?_,?_,?_,?_,?_,?_,?_,?_,?_,?_,?_,?_⟩<;>(rw [cell_of_row w N _ _ _ _ h];rfl)
structure MI (p:aA):Prop where
 z:p.text.size<1000000000∧p.name.size<1000000000∧p.kids.length<1000000000
 t:sizeT p≤1048576
structure nX (s:aN):Prop where
 label:s.label.size<1000000000
 target:MI s.target
 value:MI s.value
 pat:MI s.pat
 name:s.name.size<1000000000
 entry:s.entry.size<1000000000
 params:s.params.length<1000000000∧∀x∈s.params,x.size<1000000000
 locals:s.locals.length<1000000000∧∀x∈s.locals,x.size<1000000000
 always:s.always.size<1000000000
 yes:s.yes.size<1000000000
 aZ:s.aZ.size<1000000000
structure lH (w:World) (S:Nat→Prop) (a:ig) (s:aN):Prop where
 target:aI w S a.ta s.target.kids
 value:aI w S a.va s.value.kids
 pat:aI w S a.pa s.pat.kids
 params:nD w S a.ma s.params
 locals:nD w S a.la s.locals
theorem lH.to {w w':World} {S S':Nat→Prop} {X:Nat→Prop} {a:ig} {s:aN} (h:lH w S a s) (hk:Kept X w w') (hs:Safe S X w.heap.size) (h':∀b,S b→S' b):lH w' S' a s :=
 ⟨h.target.to hk hs h',h.value.to hk hs h',h.pat.to hk hs h',h.params.to hk hs h',h.locals.to hk hs h'⟩
def StV (w:World) (S:Nat→Prop) (v:Value) (s:aN):Prop:=∃a,v=bV a s∧nX s∧lH w S a s
def MS (w:World) (S:Nat→Prop) (b o:Nat) (s:aN):Prop :=
 ∃a,S b∧nX s∧(∀i (h:i<24),w.cell? ⟨b,o+i,none⟩=some ((aV a s)[i]'(by simpa [aV] using h)))∧lH w S a s
theorem MS.to {w w':World} {S S':Nat→Prop} {X:Nat→Prop} {b o:Nat} {s:aN} (h:MS w S b o s) (hk:Kept X w w') (hs:Safe S X w.heap.size) (h':∀b,S b→S' b):MS w' S' b o s:=by
 obtain ⟨a,hb,hz,hc,ho⟩:=h
 exact ⟨a,h' b hb,hz,fun i hi=>(hk.cell (hs b hb).1 (hs b hb).2).trans (hc i hi),ho.to hk hs h'⟩
def ql (w:World) (S:Nat→Prop) (a:Option Addr) (l:List aN):Prop:=0<l.length→∃b o,a=some ⟨b,o,none⟩∧∀i (h:i<l.length),MS w S b (o+i*24) l[i]
theorem ql.to {w w':World} {S S':Nat→Prop} {X:Nat→Prop} {a:Option Addr} {l:List aN} (h:ql w S a l) (hk:Kept X w w') (hs:Safe S X w.heap.size) (h':∀b,S b→S' b):ql w' S' a l:=by
 intro h0
 obtain ⟨b,o,rfl,hc⟩:=h h0
 exact ⟨b,o,rfl,fun i hi=>(hc i hi).to hk hs h'⟩
def aO:List aj→Int
 | []=>0
 | x::r=>if bF x=true then aO r else 7
def isTarget (p:aA):Prop:=p.kind=3∨p.kind=4∨p.kind=5
instance (p:aA):Decidable (isTarget p):=by unfold isTarget;exact inferInstance
def fZ:List Int→Int
 | []=>0
 | e::r=>if e=0 then fZ r else e
def nY (s:aj):Bool:=decide (s.size=0)||bF s
def lC (s:aN):Int :=
 if ¬(nY s.label=true∧nY s.always=true∧nY s.yes=true∧nY s.aZ=true) then 7
 else if s.always.size≠0∧(s.yes.size≠0∨s.aZ.size≠0) then 8
 else if s.kind=1 then 0
 else if s.kind=2 then bC s.value
 else if s.kind=4 then fZ [bC s.value,bW s.pat]
 else if s.kind=3 then fZ [bC s.target,if isTarget s.target then 0 else 8,bC s.value]
 else if s.kind=5 then fZ [bC s.target,if isTarget s.target then 0 else 8,bW s.pat,bC s.value]
 else if s.kind=6 then fZ [aO [s.name],bW s.pat]
 else if s.kind=7 then fZ [aO [s.name],aO s.params,aO s.locals,aO [s.entry],if 8<s.params.length∨8<s.locals.length then 5 else 0]
 else 1
end Go.Proofs.YtefjbnhpjdhjmaaGreatDoor

namespace Go.Proofs.YtefjbnhpjdhjmaaGreatDoor
set_option linter.all false
open Go.RowKit Go.Deep
set_option maxRecDepth 100000
theorem AX {H:Type} (d:DataW H):1≤Rows.uptoBulk d:=by
 cases d with
 | lit l=>cases l<;>simp [Rows.uptoBulk]
 | nil=>simp [Rows.uptoBulk]
 | ptr d=>simp [Rows.uptoBulk]
 | slice elems spare=>simp [Rows.uptoBulk]
 | agg parts=>simp [Rows.uptoBulk]
 | iface t d=>simp [Rows.uptoBulk]
 | map entries=>simp [Rows.uptoBulk]
 | held h=>simp [Rows.uptoBulk]
theorem xH {H:Type} (s:aj):Rows.uptoBulk (DataW.lit (H:=H) (.string s.data.toList))=s.size+1:=by
 simp only [Rows.uptoBulk];rfl
theorem qG {H:Type}:∀(l:List (DataW H)),l.length≤Rows.uptoBulkAll l
 | []=>by simp [Rows.uptoBulkAll]
 | x::r=>by have:=AX x;have:=qG r;simp only [Rows.uptoBulkAll,List.length_cons];omega
section
variable {H:Type} {enc:TypeId×Value→H} {w:World} {spare:Nat→Bool} {held:Bool}
theorem cells_lt {a:Addr} {v:Value} (h:w.cell? a=some v):a.block<w.heap.size:=by
 unfold World.cell? at h
 cases hb:w.heap[a.block]? with
 | none=>rw [hb] at h;simp at h
 | some o=>exact (Array.getElem?_eq_some_iff.1 hb).1
theorem QO (S:Nat→Prop) (b:Nat):∀(len o:Nat) (B:Nat→Nat),(∀i,i<len→∃p,dH w S b (o+i*5) p∧sizeT p≤B i)→
  ∃l:List aA,l.length=len∧aI w S (some ⟨b,o,none⟩) l∧aS l≤((List.range len).map B).sum
 | 0,o,B,_=>⟨[],rfl,by unfold aI;trivial,by simp [aS]⟩
 | len+1,o,B,h=>by
  obtain ⟨p,hp,hs⟩:=h 0 (by omega)
  obtain ⟨l,hl,hk,hsl⟩:=QO S b len (o+5) (fun i=>B (i+1)) (fun i hi=>by
   obtain ⟨q,hq,hqs⟩:=h (i+1) (by omega)
   exact ⟨q,by rw [show o+5+i*5=o+(i+1)*5 by omega];exact hq,hqs⟩)
  refine ⟨p::l,by simp [hl],?_,?_⟩
  ·unfold aI;exact ⟨b,o,rfl,by simpa using hp,hk⟩
  ·rw [aS,List.range_succ_eq_map,List.map_cons,List.sum_cons,List.map_map]
   exact Nat.add_le_add hs hsl
theorem yR (f:Nat→Nat):∀(l:List Nat) (i:Nat),i∈l→f i≤(l.map f).sum
 | [],i,h=>by simp at h
 | j::r,i,h=>by
  rw [List.map_cons,List.sum_cons]
  rcases List.mem_cons.1 h with rfl|h
  ·omega
  ·have:=yR f r i h;omega
theorem CS (D:Nat→DataW H):∀(l:List Nat),(l.map fun i=>Rows.uptoBulk (D i)).sum=Rows.uptoBulkAll (l.map D)
 | []=>by simp [Rows.uptoBulkAll]
 | i::r=>by simp only [List.map_cons,List.sum_cons,Rows.uptoBulkAll,CS D r]
theorem YJ:∀(N:Nat),N≤1048576→∀(fuel:Nat) (cs:List Value) (x:DataW H×List MemPlace),DataW.trod enc Tryz.prog w 0 spare held fuel 27 cs=some x→Rows.uptoBulk x.1≤N→
  ∃p ka cap,cs=[.int .i64 (aA.kind p),.string p.text,.int .i64 p.n,.string p.name,.slice ka p.kids.length cap]∧(p.text.size<1000000000∧p.name.size<1000000000∧p.kids.length<1000000000)∧aI w (· < w.heap.size) ka p.kids∧sizeT p≤Rows.uptoBulk x.1:=by
 intro N
 induction N with
 | zero=>intro _ fuel cs x h hb;have:=AX x.1;omega
 | succ N ih =>
 intro hN fuel cs x h hb
 obtain ⟨xs,n,rfl,rfl,hlen,hxs,hf⟩:=DataW.trod_struct Tryz.underlying27 h
 have hcs:cs.length=5:=hlen
 match cs,hcs with
 | [v0,v1,v2,v3,v4],_ =>
 match xs,hxs with
 | [x0,x1,x2,x3,x4],_ =>
 have h0:=hf 0 _ rfl;have h1:=hf 1 _ rfl;have h2:=hf 2 _ rfl;have h3:=hf 3 _ rfl;have h4:=hf 4 _ rfl
 obtain ⟨k,e0,r0,_⟩:=DataW.trod_int (cs:=[v0]) (x:=x0) Tryz.underlying3 h0
 obtain ⟨t,e1,r1,_⟩:=DataW.trod_string (cs:=[v1]) (x:=x1) Tryz.underlying9 h1
 obtain ⟨nn,e2,r2,_⟩:=DataW.trod_int (cs:=[v2]) (x:=x2) Tryz.underlying3 h2
 obtain ⟨nm,e3,r3,_⟩:=DataW.trod_string (cs:=[v3]) (x:=x3) Tryz.underlying9 h3
 simp only [List.cons.injEq,and_true] at e0 e1 e2 e3
 subst e0 e1 e2 e3 r0 r1 r2 r3
 simp only [List.map_cons,List.map_nil,Rows.uptoBulk,Rows.uptoBulkAll] at hb⊢
 have zt:t.data.toList.length=t.size:=rfl
 have zn:nm.data.toList.length=nm.size:=rfl
 rw [zt,zn] at hb⊢
 rcases open_slice (cs:=[v4]) (x:=x4) Tryz.underlying25 h4 with ⟨e4,r4⟩|⟨a,len,cap,m,n',D,Pl,e4,_,hlc,hcm,hm,r4,hel⟩
 ·simp only [List.cons.injEq,and_true] at e4;subst e4 r4
  refine ⟨.mk k t nn nm [],none,0,rfl,⟨?_,?_,by simp⟩,by unfold aI;trivial,by simp only [sizeT,aS];omega⟩
  ·rw [aA.aW];omega
  ·rw [aA.aX];omega
 ·simp only [List.cons.injEq,and_true] at e4;subst e4
  rw [r4] at hb⊢
  simp only [Rows.uptoBulk] at hb⊢
  have hlm:len≤m:=by rw [hm];split<;>omega
  have hbl:=qG ((List.range len).map D)
  rw [List.length_map,List.length_range] at hbl
  have hsum:=CS D (List.range len)
  have hfin:∃l:List aA,l.length=len∧aI w (· < w.heap.size) (some a) l∧aS l≤Rows.uptoBulkAll ((List.range len).map D):=by
   cases len with
   | zero=>exact ⟨[],rfl,by unfold aI;trivial,by simp [aS]⟩
   | succ len =>
    obtain ⟨cs0,hc0,_⟩:=hel 0 (by omega)
    have hc0':=(World.cells?_some hc0).2.2 0 (by decide)
    have hl0:=(World.cells?_some hc0).2.1
    obtain ⟨b,o,spot⟩:=a
    have hspot:spot=none:=by
     have hx:∃u,w.cell? ((⟨b,o,spot⟩:Addr).add (0*Tryz.prog.cellsOf 27))=some u:=by
      have:0<cs0.length:=by rw [hl0];decide
      exact ⟨cs0[0],by simpa [Addr.add,List.getElem?_eq_getElem this] using hc0'⟩
     obtain ⟨u,hu⟩:=hx
     simpa [Addr.add] using World.cell?_spot hu
    subst hspot
    obtain ⟨l,hl,hk,hs⟩:=QO (w:=w) (· < w.heap.size) b (len+1) o (fun i=>Rows.uptoBulk (D i)) (fun i hi=>by
     obtain ⟨cs',hc,ht⟩:=hel i (by omega)
     have hbi:Rows.uptoBulk (D i)≤Rows.uptoBulkAll ((List.range (len+1)).map D):=by
      rw [←hsum];exact yR (fun i=>Rows.uptoBulk (D i)) _ i (List.mem_range.2 hi)
     obtain ⟨p,ka,cp,rfl,hz,hkk,hsz⟩:=ih (by omega) n' cs' _ ht (by simp only;omega)
     obtain ⟨_,_,hcell⟩:=World.cells?_some hc
     have ea:∀j,((⟨b,o,none⟩:Addr).add (i*Tryz.prog.cellsOf 27)).add j=⟨b,o+i*5+j,none⟩:=by
      intro j
      have e5:Tryz.prog.cellsOf 27=5:=by kernel_rfl
      rw [e5];unfold Addr.add;split<;>split<;>simp_all<;>omega
     have c0:=hcell 0 (by decide);have c1:=hcell 1 (by decide);have c2:=hcell 2 (by decide);have c3:=hcell 3 (by decide);have c4:=hcell 4 (by decide)
     rw [ea] at c0 c1 c2 c3 c4
     refine ⟨p,?_,hsz⟩
     obtain ⟨k,t,nn,nm,kids⟩:=p
     unfold dH
     exact ⟨cells_lt c0,hz,c0,c1,c2,c3,ka,cp,c4,hkk⟩)
    exact ⟨l,hl,hk,by rw [←hsum];exact hs⟩
  obtain ⟨l,rfl,hk,hs⟩:=hfin
  refine ⟨.mk k t nn nm l,some a,cap,rfl,⟨?_,?_,?_⟩,hk,?_⟩
  ·rw [aA.aW];omega
  ·rw [aA.aX];omega
  ·rw [aA.aU];omega
  ·simp only [sizeT];omega
end
end Go.Proofs.YtefjbnhpjdhjmaaGreatDoor

namespace Go.Proofs.YtefjbnhpjdhjmaaGreatDoor
set_option linter.all false
open Go.RowKit
set_option maxRecDepth 100000
theorem Ia {w:World} {b o:Nat} {sa:ig} {s:aN} (hc:∀i (h:i<24),w.cell? ⟨b,o+i,none⟩=some ((aV sa s)[i]'(by simpa [aV] using h))) :
  (Instr.loadAt 30 (.pointer (some ⟨b,o,none⟩))).run Tryz.prog w=.ok (bV sa s) w:=by
 have h1:=run_loadCells_list (P:=Tryz.prog) w ⟨b,o,none⟩ (aV sa s) (fun j v hv=>by
  obtain ⟨hlt,rfl⟩:=List.getElem?_eq_some_iff.1 hv
  have e1:(⟨b,o,none⟩:Addr).add j=⟨b,o+j,none⟩:=by unfold Addr.add;split<;>simp_all
  rw [e1];exact hc j (by simpa [aV] using hlt))
 have hag:(isAgg 30).run Tryz.prog w=.ok true w:=by kernel_rfl
 have hsz:(sizeOf 30).run Tryz.prog w=.ok 24 w:=by kernel_rfl
 have hlen:(aV sa s).length=24:=rfl
 rw [hlen] at h1
 unfold Instr.loadAt loadVar
 simp only [Instr.sureAddr,Sem.run_bind,Sem.run_pure,Result.andThen_ok,hag,hsz,h1,if_true]
 rfl
theorem Qv {w:World} {g:Nat} {old:Array Value} {sa:ig} {s:aN} (hg:w.heap[g]?=some (.cells old 30 (0,0))) (ho:old.size=24) :
  ∃w',(Instr.storeAt 30 (.pointer (some ⟨g,0,none⟩)) (bV sa s)).run Tryz.prog w=.ok () w'∧dF g sa s w'∧Kept (· = g) w w':=by
 have h:=run_storeVar_row (P:=Tryz.prog) w g 30 30 old (aV sa s).toArray hg (by kernel_rfl) (by rw [ho];rfl) (by simp [aV,Value.oneCell'])
 refine ⟨_,h,?_,?_⟩
 ·exact setRow_heap w g old _ _ _ hg
 ·exact ⟨rfl,rfl,rfl,by simp,fun k _ hx=>setRow_other w g k _ hx⟩
theorem mP {ops:Array Oper} {rest:List Oper} {o:Oper} {a:Act} {Q:Exit→Act→World→Prop} {w:World} (hgd:o.guard=none) (p:Operand) (ho:o.op=.load 30 p)
  (b of:Nat) (hp:a.eval p=.pointer (some ⟨b,of,none⟩)) (sa:ig) (s:aN) (hc:∀i (h:i<24),w.cell? ⟨b,of+i,none⟩=some ((aV sa s)[i]'(by simpa [aV] using h)))
  (h:wpList Tryz.prog ops Q rest (a.put o.dst (bV sa s)) w):wpList Tryz.prog ops Q (o::rest) a w:=by
 refine wpList_plain hgd fun K hK=>?_
 have hr:(execOp a.eval o).run Tryz.prog w=.ok (.value (bV sa s)) w:=by
  unfold execOp
  rw [ho]
  simp only [hp,Sem.run_bind,Ia hc,Result.andThen_ok,Sem.run_pure]
 unfold Oper.wp
 rw [hr]
 exact hK _ _ h
theorem jw {ops:Array Oper} {rest:List Oper} {o:Oper} {a:Act} {Q:Exit→Act→World→Prop} {w:World} (hgd:o.guard=none) (p x:Operand) (ho:o.op=.store 30 p x)
  (g:Nat) (hp:a.eval p=.pointer (some ⟨g,0,none⟩)) (sa:ig) (s:aN) (hx:a.eval x=bV sa s) (old:Array Value) (hg:w.heap[g]?=some (.cells old 30 (0,0))) (hold:old.size=24)
  (h:∀w',dF g sa s w'→Kept (· = g) w w'→wpList Tryz.prog ops Q rest (a.put o.dst undef) w'):wpList Tryz.prog ops Q (o::rest) a w:=by
 refine wpList_plain hgd fun K hK=>?_
 obtain ⟨w',hr,hB,hk⟩:=Qv (sa:=sa) (s:=s) hg hold
 have hr2:(execOp a.eval o).run Tryz.prog w=.ok .skip w':=by
  unfold execOp
  rw [ho]
  simp only [hp,hx,Sem.run_bind,hr,Result.andThen_ok,Sem.run_pure]
 unfold Oper.wp
 rw [hr2]
 exact hK _ _ (h w' hB hk)
end Go.Proofs.YtefjbnhpjdhjmaaGreatDoor

namespace Go.Proofs.YtefjbnhpjdhjmaaGreatDoor
set_option linter.all false
open Go.RowKit Go.Deep
section
variable {H:Type} {enc:TypeId×Value→H} {w:World} {spare:Nat→Bool} {held:Bool}
theorem Ol {H:Type} (D:Nat→DataW H) (len i:Nat) (hi:i<len):Rows.uptoBulk (D i)≤Rows.uptoBulkAll ((List.range len).map D):=by
 rw [←CS D];exact yR (fun i=>Rows.uptoBulk (D i)) _ i (List.mem_range.2 hi)
end
end Go.Proofs.YtefjbnhpjdhjmaaGreatDoor
