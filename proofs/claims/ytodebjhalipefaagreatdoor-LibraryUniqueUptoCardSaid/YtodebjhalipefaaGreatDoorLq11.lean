/-  -/
import Derived.Test.YtodebjhalipefaaGreatDoorWrong
import Derived.Test.YtodebjhalipefaaGreatDoorBase
import Derived.Deep.AppendLies
import Derived.Deep.AppendSrc
import Derived.Deep.RegionLaw
namespace Go.Proofs.YtodebjhalipefaaGreatDoor
set_option linter.all false
open Go.RowKit
def wG (b:Bool) (w:World) (e:Ending) (w':World):Prop:=e=.returned (.bool b)∧Kept aA w w'
end Go.Proofs.YtodebjhalipefaaGreatDoor

namespace Go.Proofs.YtodebjhalipefaaGreatDoor
set_option linter.all false
open Go.RowKit
def ZM (b:Int) (w:World) (e:Ending) (w':World):Prop:=e=.returned (.int .i64 b)∧Kept aA w w'
end Go.Proofs.YtodebjhalipefaaGreatDoor

namespace Go.Proofs.YtodebjhalipefaaGreatDoor
set_option linter.all false
open Go.RowKit
def aP (w:World) (B:Nat) (e:TypeId) (size:Nat) (v:Value) (n:Nat) (xs:List Value):Prop :=
 xs.length=n*size∧
 ((v=.slice none 0 0∧n=0)∨
  ∃g o cap cur,v=.slice (some ⟨g,o,none⟩) n cap∧B≤g∧w.heap[g]?=some (.cells cur e (0,0))∧n≤cap∧cap≤maxLen∧o+cap*size≤cur.size∧(cur.toList.drop o).take (n*size)=xs)
section
variable {w w':World} {B:Nat} {e:TypeId} {size:Nat} {v:Value} {n:Nat} {xs:List Value}
theorem aP.nil (w:World) (B:Nat) (e:TypeId) (size:Nat):aP w B e size (.slice none 0 0) 0 []:=⟨by simp,.inl ⟨rfl,rfl⟩⟩
theorem aP.aeS (h:w.ownsRow B e size v n xs):aP w B e size v n xs:=by
 refine ⟨h.1,?_⟩
 rcases h.2 with hn|⟨g,cap,cur,rfl,hb,hg,h1,h2,h3,h4⟩
 ·exact .inl hn
 ·exact .inr ⟨g,0,cap,cur,rfl,hb,hg,h1,h2,by omega,by simpa using h4⟩
theorem aP.lt (h:aP w B e size v n xs):∀k,v.ownBlock=some k→B≤k∧k<w.heap.size:=by
 intro k hk
 rcases h.2 with ⟨rfl,_⟩|⟨g,o,cap,cur,rfl,hb,hg,_⟩
 ·simp [Value.ownBlock] at hk
 ·simp [Value.ownBlock] at hk;subst hk
  exact ⟨hb,(Array.getElem?_eq_some_iff.1 hg).1⟩
theorem aP.same (h:aP w B e size v n xs) (hb:∀k,v.ownBlock=some k→w'.heap[k]?=w.heap[k]?):aP w' B e size v n xs:=by
 refine ⟨h.1,?_⟩
 rcases h.2 with hn|⟨g,o,cap,cur,rfl,hb',hg,r⟩
 ·exact .inl hn
 ·exact .inr ⟨g,o,cap,cur,rfl,hb',by rw [hb g rfl];exact hg,r⟩
theorem aP.kept {X:Nat→Prop} (h:aP w B e size v n xs) (hk:Kept X w w') (hx:∀k,v.ownBlock=some k→¬X k):aP w' B e size v n xs :=
 h.same fun k hk'=>hk.block k (h.lt k hk').2 (hx k hk')
theorem aP.grown {row:Option Nat} (h:aP w B e size v n xs) (hg:w.grownBy w' row) (hx:∀k,v.ownBlock=some k→row≠some k):aP w' B e size v n xs :=
 h.same fun k hk'=>hg.block k (h.lt k hk').2 fun e=>hx k hk' e.symm
theorem aP.alloc (h:aP w B e size v n xs) (o:Obj):aP (w.alloc o) B e size v n xs:=h.same fun k hk=>Below.heap_alloc _ _ _ (h.lt k hk).2
theorem aP.drew (h:aP w B e size v n xs):aP w.drew B e size v n xs:=h
theorem aP.mono {B':Nat} (h:aP w B e size v n xs) (hB:B'≤B):aP w B' e size v n xs:=by
 refine ⟨h.1,?_⟩
 rcases h.2 with hn|⟨g,o,cap,cur,rfl,hb',r⟩
 ·exact .inl hn
 ·exact .inr ⟨g,o,cap,cur,rfl,by omega,r⟩
theorem aP.setCell {p:Addr} (h:aP w B e size v n xs) (hp:v.ownBlock≠some p.block) (u:Value):aP (w.setCell p u) B e size v n xs :=
 h.same fun k hk=>Below.heap_setCell _ _ _ _ fun e=>hp (by rw [hk,e])
theorem aP.cells (h:aP w B e size v n xs):(v=.slice none 0 0∧n=0)∨∃g o cap,v=.slice (some ⟨g,o,none⟩) n cap∧B≤g∧g<w.heap.size∧n≤cap∧cap≤maxLen∧
  ∀j u,xs[j]?=some u→w.cell? ⟨g,o+j,none⟩=some u∧w.frozen? ⟨g,o+j,none⟩=false:=by
 rcases h.2 with hn|⟨g,o,cap,cur,rfl,hb,hg,h1,h2,h3,h4⟩
 ·exact .inl hn
 ·refine .inr ⟨g,o,cap,rfl,hb,(Array.getElem?_eq_some_iff.1 hg).1,h1,h2,fun j u hu=>⟨?_,by simp [World.frozen?,hg]⟩⟩
  rw [cell_of_row w g (o+j) cur e (0,0) hg]
  rw [←h4,List.getElem?_take] at hu
  split at hu
  ·rw [List.getElem?_drop] at hu;simpa using hu
  ·cases hu
theorem aP.tail {g o cap:Nat} {ys zs:List Value} (h:aP w B e size (.slice (some ⟨g,o,none⟩) (n+1) cap) (n+1) (ys++zs)) (hy:ys.length=size) :
  aP w B e size (.slice (if cap=1 then some ⟨g,o,none⟩ else some ⟨g,o+size,none⟩) n (cap-1)) n zs:=by
 obtain ⟨hl,hr⟩:=h
 rcases hr with ⟨hv,_⟩|⟨g',o',cap',cur,hv,hb,hg,h1,h2,h3,h4⟩
 ·simp at hv
 ·simp only [Value.slice.injEq,Option.some.injEq,Addr.mk.injEq,and_true,true_and] at hv
  obtain ⟨⟨rfl,rfl⟩,rfl⟩:=hv
  have hzl:zs.length=n*size:=by rw [List.length_append,hy,Nat.add_mul,Nat.one_mul] at hl;omega
  refine ⟨hzl,.inr ?_⟩
  by_cases hc:cap=1
  ·subst hc
   obtain rfl:n=0:=by omega
   obtain rfl:zs=[]:=List.eq_nil_of_length_eq_zero (by simpa using hzl)
   exact ⟨g,o,0,cur,by simp,hb,hg,Nat.le_refl _,by simp,by simp only [Nat.zero_mul,Nat.add_zero];omega,by simp⟩
  ·refine ⟨g,o+size,cap-1,cur,by rw [if_neg hc],hb,hg,by omega,by omega,?_,?_⟩
   ·have:cap*size=size+(cap-1)*size:=by rw [Nat.sub_mul,Nat.one_mul];have:=Nat.le_mul_of_pos_left size (show 0<cap by omega);omega
    omega
   ·have:=congrArg (List.drop size) h4
    rw [List.drop_left' hy,List.drop_take,List.drop_drop] at this
    rw [←this]
    congr 1
    rw [Nat.add_mul,Nat.one_mul];omega
end
section
variable {P:Program} (w:World)
theorem JJ (B:Nat) (t tx ty e:TypeId) (i:TypeInfo) (z:Value) (size bytes:Nat) (ht:P.underlying t=some (.slice e)) (hi:P.info? e=some i) (hz:i.zero=some z)
  (hsize:i.size=size) (hby:i.bytes=bytes) (hzs:z.cells.size=size)
  (v:Value) (n:Nat) (xs:List Value) (hown:aP w B e size v n xs) (x:Value) (m:Nat) (news:List Value) (hs:Src P size tx x m news w)
  (h63:n+m≤maxLen) (hbytes:(n+m)*bytes≤140737488355328) (hbase:B≤w.heap.size) :
  ∃v' w',(Builtin.append_ #[t,tx] ty #[v,x]).run P w=.ok v' w'∧aP w' B e size v' (n+m) (xs++news)∧w.grownBy w' v.ownBlock∧
   (v'.ownBlock=v.ownBlock∨v'.ownBlock=some w.heap.size):=by
 subst hsize
 subst hby
 have hl:=hs.newsLen
 have hlen:(xs++news).length=(n+m)*i.size:=by rw [List.length_append,hown.1,hl,Nat.add_mul]
 have h63':((n+m:Nat):Int)≤9223372036854775807:=by simp only [maxLen] at h63;omega
 have grown:∀(old:Nat),old<n+m→∀(row:Option Nat),
   aP (w.drew.alloc (.cells ((xs++news).toArray++Builtin.zeroCells z.cells (grownCap w (n+m) old e-(n+m))) e)) B e i.size (.slice (some ⟨w.heap.size,0,none⟩) (n+m) (grownCap w (n+m) old e)) (n+m) (xs++news)∧
   w.grownBy (w.drew.alloc (.cells ((xs++news).toArray++Builtin.zeroCells z.cells (grownCap w (n+m) old e-(n+m))) e)) row:=by
  intro old ho row
  have hge:=grownCap_ge w (n+m) old e
  have hcm:grownCap w (n+m) old e≤maxLen:=grownCap_le_maxLen w (n+m) old e h63
  refine ⟨⟨hlen,.inr ⟨w.heap.size,0,_,_,rfl,hbase,ay w.drew _,hge,hcm,?_,?_⟩⟩,⟨rfl,rfl,rfl,by simp,fun k hk _=>Below.heap_alloc w.drew _ k hk⟩⟩
  ·rw [Array.size_append,List.size_toArray,size_zeroCells,hzs,hlen,←Nat.add_mul,Nat.zero_add,Nat.add_sub_cancel' hge];exact Nat.le_refl _
  ·rw [List.drop_zero,Array.toList_append,←hlen]
   exact List.take_left
 rcases hown.2 with ⟨rfl,rfl⟩|⟨g,o,cap,cur,rfl,hbg,hg,hnc,hcm,hcs,htake⟩
 ·have hx:xs=[]:=List.eq_nil_of_length_eq_zero (by simpa using hown.1)
  subst hx
  by_cases hm:m=0
  ·subst hm
   have hn:news=[]:=List.eq_nil_of_length_eq_zero (by simpa using hl)
   subst hn
   refine ⟨.slice none 0 0,w,?_,aP.nil w B e i.size,⟨rfl,rfl,rfl,Nat.le_refl _,fun _ _ _=>rfl⟩,.inl rfl⟩
   rcases hs.kind with ⟨e',hk⟩|hk<;>simp [Builtin.append_,run_underlying ht,run_underlying hk,sizeOf,typeInfo,hi,hs.len,hs.cells]
  ·have hr:=run_append_grow_src (P:=P) w t tx ty e i z ht hi hz none 0 0 [] (by simp [Builtin.firstCells]) x m news hs (by omega) h63' (growslice_fits (by omega) hbytes)
   have hgr:=grown 0 (by omega) (Value.ownBlock (.slice none 0 0))
   exact ⟨_,_,hr,hgr.1,hgr.2,.inr rfl⟩
 ·by_cases hroom:n+m≤cap
  ·have hmul:(n+m)*i.size≤cap*i.size:=Nat.mul_le_mul_right _ hroom
   have hadd:(n+m)*i.size=n*i.size+m*i.size:=Nat.add_mul _ _ _
   have hfit:o+n*i.size+0+news.length≤cur.size:=by rw [hl];omega
   have hst:=run_storeCells_at P g (o+n*i.size) e news 0 cur w hg hfit hs.one
   simp only [Nat.add_zero] at hst
   have hr:(Builtin.append_ #[t,tx] ty #[.slice (some ⟨g,o,none⟩) n cap,x]).run P w=.ok (.slice (some ⟨g,o,none⟩) (n+m) cap)
     (w.setRow g (cur.toList.take (o+n*i.size)++news++cur.toList.drop (o+n*i.size+news.length)).toArray):=by
    rcases hs.kind with ⟨e',hk⟩|hk<;>simp [Builtin.append_,run_underlying ht,run_underlying hk,sizeOf,typeInfo,hi,hs.len,hroom,hs.cells,Addr.add_lit,hst]
   refine ⟨_,_,hr,⟨hlen,.inr ⟨g,o,cap,_,rfl,hbg,setRow_heap w g cur _ e _ hg,hroom,hcm,?_,?_⟩⟩,⟨rfl,rfl,rfl,by simp,fun k _ hk=>setRow_other w g k _ (fun e=>hk (by simp [Value.ownBlock,e]))⟩,.inl rfl⟩
   ·simp only [List.size_toArray,List.length_append,List.length_take,List.length_drop,Array.length_toList]
    omega
   ·have hlt:(cur.toList.take (o+n*i.size)).length=o+n*i.size:=by rw [List.length_take,Array.length_toList];omega
    show List.take _ (List.drop o (cur.toList.take (o+n*i.size)++news++cur.toList.drop (o+n*i.size+news.length)))=_
    rw [List.append_assoc,List.drop_append_of_le_length (by omega),List.drop_take,show o+n*i.size-o=n*i.size by omega,htake,←List.append_assoc,←hlen]
    exact List.take_left
  ·have holds:(Builtin.firstCells i.size n (.slice (some ⟨g,o,none⟩) n cap)).run P w.drew=.ok xs.toArray w.drew:=by
    refine run_firstCells_some w.drew i.size n _ n cap xs hown.1 fun j u hu=>?_
    have e1:(⟨g,o,none⟩:Addr).add j=⟨g,o+j,none⟩:=by unfold Addr.add;split<;>simp_all
    rw [e1,World.cell?_drew,cell_of_row w g (o+j) cur e (0,0) hg]
    rw [←htake,List.getElem?_take] at hu
    split at hu
    ·rw [List.getElem?_drop] at hu;simpa using hu
    ·cases hu
   have hr:=run_append_grow_src (P:=P) w t tx ty e i z ht hi hz (some ⟨g,o,none⟩) n cap xs holds x m news hs (by omega) h63' (growslice_fits (by omega) hbytes)
   have hgr:=grown cap (by omega) (Value.ownBlock (.slice (some ⟨g,o,none⟩) n cap))
   exact ⟨_,_,hr,hgr.1,hgr.2,.inr rfl⟩
theorem aP.shape {w:World} {B:Nat} {e:TypeId} {size:Nat} {v:Value} {n:Nat} {xs:List Value} (h:aP w B e size v n xs):∃a cap,v=.slice a n cap:=by
 rcases h.2 with ⟨rfl,rfl⟩|⟨g,o,cap,cur,rfl,_⟩
 ·exact ⟨_,_,rfl⟩
 ·exact ⟨_,_,rfl⟩
theorem qO {o:Oper} {a:Act} {K:Act→World→Prop} {Q:Exit→Act→World→Prop} (s x:Operand) (t tx:TypeId)
  (ho:o.op=.call {callee:=.builtin .append,args:=#[s,x],argTypes:=#[t,tx]})
  (B:Nat) (e:TypeId) (i:TypeInfo) (z:Value) (size bytes:Nat) (ht:P.underlying t=some (.slice e)) (hi:P.info? e=some i) (hz:i.zero=some z)
  (hsize:i.size=size) (hby:i.bytes=bytes) (hzs:z.cells.size=size)
  (v:Value) (n:Nat) (xs:List Value) (hs:a.eval s=v) (hown:aP w B e size v n xs)
  (xv:Value) (m:Nat) (news:List Value) (hx:a.eval x=xv) (hsrc:Src P size tx xv m news w)
  (h63:n+m≤maxLen) (hbytes:(n+m)*bytes≤140737488355328) (hbase:B≤w.heap.size)
  (h:∀a' c' w',aP w' B e size (.slice a' (n+m) c') (n+m) (xs++news)→w.grownBy w' v.ownBlock→((Value.slice a' (n+m) c').ownBlock=v.ownBlock∨(Value.slice a' (n+m) c').ownBlock=some w.heap.size)→K (a.put o.dst (.slice a' (n+m) c')) w'):o.wp P a w K Q:=by
 obtain ⟨v',w',hr,h2,h3,h4⟩:=JJ (P:=P) w B t tx o.type e i z size bytes ht hi hz hsize hby hzs v n xs hown xv m news hsrc h63 hbytes hbase
 obtain ⟨a',c',rfl⟩:=h2.shape
 unfold Oper.wp execOp
 simp only [ho,resolve,invoke,builtin,Sem.run_bind,Sem.run_pure,Result.andThen_ok,List.map_toArray,List.map_cons,List.map_nil,hs,hx,hr]
 exact h a' c' w' h2 h3 h4
theorem dw {ops:Array Oper} {rest:List Oper} {o:Oper} {a:Act} {Q:Exit→Act→World→Prop} (hgd:o.guard=none) (s x:Operand) (t tx:TypeId)
  (ho:o.op=.call {callee:=.builtin .append,args:=#[s,x],argTypes:=#[t,tx]})
  (B:Nat) (e:TypeId) (i:TypeInfo) (z:Value) (size bytes:Nat) (ht:P.underlying t=some (.slice e)) (hi:P.info? e=some i) (hz:i.zero=some z)
  (hsize:i.size=size) (hby:i.bytes=bytes) (hzs:z.cells.size=size)
  (v:Value) (n:Nat) (xs:List Value) (hs:a.eval s=v) (hown:aP w B e size v n xs)
  (xv:Value) (m:Nat) (news:List Value) (hx:a.eval x=xv) (hsrc:Src P size tx xv m news w)
  (h63:n+m≤maxLen) (hbytes:(n+m)*bytes≤140737488355328) (hbase:B≤w.heap.size)
  (h:∀a' c' w',aP w' B e size (.slice a' (n+m) c') (n+m) (xs++news)→w.grownBy w' v.ownBlock→((Value.slice a' (n+m) c').ownBlock=v.ownBlock∨(Value.slice a' (n+m) c').ownBlock=some w.heap.size)→wpList P ops Q rest (a.put o.dst (.slice a' (n+m) c')) w') :
  wpList P ops Q (o::rest) a w :=
 wpList_plain hgd fun _ hK=>qO w s x t tx ho B e i z size bytes ht hi hz hsize hby hzs v n xs hs hown xv m news hx hsrc h63 hbytes hbase fun a' c' w' h2 h3 h4=>hK _ _ (h a' c' w' h2 h3 h4)
theorem x9 {ops:Array Oper} {o:Oper} {a:Act} {K:Act→World→Prop} {Q:Exit→Act→World→Prop} {E:Prop} (hgd:o.guard=none) (s x:Operand) (t tx:TypeId)
  (ho:o.op=.call {callee:=.builtin .append,args:=#[s,x],argTypes:=#[t,tx]})
  (B:Nat) (e:TypeId) (i:TypeInfo) (z:Value) (size bytes:Nat) (ht:P.underlying t=some (.slice e)) (hi:P.info? e=some i) (hz:i.zero=some z)
  (hsize:i.size=size) (hby:i.bytes=bytes) (hzs:z.cells.size=size)
  (v:Value) (n:Nat) (xs:List Value) (hs:a.eval s=v) (hown:aP w B e size v n xs)
  (xv:Value) (m:Nat) (news:List Value) (hx:a.eval x=xv) (hsrc:Src P size tx xv m news w)
  (h63:n+m≤maxLen) (hbytes:(n+m)*bytes≤140737488355328) (hbase:B≤w.heap.size)
  (h:∀a' c' w',aP w' B e size (.slice a' (n+m) c') (n+m) (xs++news)→w.grownBy w' v.ownBlock→((Value.slice a' (n+m) c').ownBlock=v.ownBlock∨(Value.slice a' (n+m) c').ownBlock=some w.heap.size)→K (a.put o.dst (.slice a' (n+m) c')) w') :
  if Region.wanted o (yielded ops a.tmps)=true then Oper.wp P o a w K Q else E:=by
 have hw:Region.wanted o (yielded ops a.tmps)=true:=by simp [Region.wanted,hgd]
 rw [if_pos hw]
 exact qO w s x t tx ho B e i z size bytes ht hi hz hsize hby hzs v n xs hs hown xv m news hx hsrc h63 hbytes hbase h
end
end Go.Proofs.YtodebjhalipefaaGreatDoor

namespace Go.Proofs.YtodebjhalipefaaGreatDoor
set_option linter.all false
open Go.RowKit
def Five (M:Nat) (c0 c1 c2 c3 c4:Value) (w:World):Prop:=w.heap[M]?=some (.cells #[c0,c1,c2,c3,c4] 67 (0,0))
theorem Five.lt {M:Nat} {c0 c1 c2 c3 c4:Value} {w:World} (h:Five M c0 c1 c2 c3 c4 w):M<w.heap.size:=(Array.getElem?_eq_some_iff.1 h).1
theorem Five.kept {M:Nat} {c0 c1 c2 c3 c4:Value} {w w':World} {X:Nat→Prop} (h:Five M c0 c1 c2 c3 c4 w) (hk:Kept X w w') (hx:¬X M):Five M c0 c1 c2 c3 c4 w':=by
 unfold Five;rw [hk.block M h.lt hx];exact h
theorem Five.cells {M:Nat} {c0 c1 c2 c3 c4:Value} {w:World} (h:Five M c0 c1 c2 c3 c4 w):w.cell? ⟨M,0,none⟩=some c0∧w.cell? ⟨M,1,none⟩=some c1∧w.cell? ⟨M,2,none⟩=some c2∧w.cell? ⟨M,3,none⟩=some c3∧w.cell? ⟨M,4,none⟩=some c4∧∀o,w.frozen? ⟨M,o,none⟩=false:=by
 unfold Five at h
 refine ⟨?_,?_,?_,?_,?_,fun o=>by simp [World.frozen?,h]⟩<;>(rw [cell_of_row w M _ _ _ _ h];rfl)
def eY (w:World) (M:Nat) (c0 c1 c2 c3 c4:Value):World:=((((w.setCell ⟨M,0,none⟩ c0).setCell ⟨M,1,none⟩ c1).setCell ⟨M,2,none⟩ c2).setCell ⟨M,3,none⟩ c3).setCell ⟨M,4,none⟩ c4
end Go.Proofs.YtodebjhalipefaaGreatDoor

namespace Go.Proofs.YtodebjhalipefaaGreatDoor
set_option linter.all false
open Go.RowKit
def oU (bs:List UInt8):List Value:=bs.map fun b=>.int .u8 (b.toNat:Int)
theorem iy {N:Nat} {w:World} {o:Obj} (h:N=w.heap.size):(w.alloc o).heap[N]?=some o:=by subst h;exact ay w _
theorem Kept.drewN' (w:World) (n:Nat):Kept aA w (w.drewN n):=⟨rfl,rfl,rfl,Nat.le_refl _,fun _ _ _=>rfl⟩
theorem Tryz.infoB:(Tryz.prog.info? 5).map (fun i=>(i.zero,i.size,i.bytes))=some (some (.int .u8 0),1,1):=by kernel_rfl
theorem aP.conv {w:World} {B:Nat} {a:Option Addr} {c:Nat} {bs:List UInt8} (h:aP w B 5 1 (.slice a bs.length c) bs.length (oU bs)) :
  (convert 214 9 (.slice a bs.length c)).run Tryz.prog w=.ok (.string ⟨bs.toArray⟩) w:=by
 rcases h.cells with ⟨hv,hn⟩|⟨g,o,cap,hv,_,_,_,_,hc⟩
 ·simp only [Value.slice.injEq] at hv
  obtain ⟨rfl,hl,rfl⟩:=hv
  rw [List.eq_nil_of_length_eq_zero hl]
  exact run_convert_bytes_nil w 214 5 Tryz.underlying214 Tryz.underlying5 0 0 9 Tryz.underlying9
 ·simp only [Value.slice.injEq,true_and] at hv
  obtain ⟨rfl,rfl⟩:=hv
  refine run_convert_bytes_back w 214 9 5 _ c bs Tryz.underlying214 Tryz.underlying5 Tryz.underlying9 fun j hj=>?_
  have e1:(⟨g,o,none⟩:Addr).add j=⟨g,o+j,none⟩:=by unfold Addr.add;split<;>simp_all
  rw [e1];exact (hc j _ (by simp [oU,hj])).1
end Go.Proofs.YtodebjhalipefaaGreatDoor
