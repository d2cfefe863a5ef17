/-  -/
import Derived.Test.YtefjbnhpjdhjmaaGreatDoorTs3
import Derived.Test.YtefjbnhpjdhjmaaGreatDoorTs19
import Derived.WalkLawsBesides
import Derived.Lib.ItoaNum
import Derived.Lib.Replace
import Derived.Lib.SplitLaws
import Derived.Test.YtefjbnhpjdhjmaaGreatDoorBase
import Derived.Test.YtefjbnhpjdhjmaaGreatDoorShelf
import Derived.Shelf.Strings.BuilderK
import Derived.WalkSmall
import Derived.Lib.LaidTab
import Derived.Recover
import Derived.Defers
import Derived.Deep.RegionWith
import Derived.Deep.CutRange
import Derived.Test.YtefjbnhpjdhjmaaGreatDoorEx2
namespace Go.Proofs.YtefjbnhpjdhjmaaGreatDoor
set_option linter.all false
open Go.RowKit
def nI:List UInt8→List UInt8
 | []=>[]
 | c::r=>if c=39 then 39::39::nI r else c::nI r
def gu (t:aj):List UInt8:=39::(nI t.data.toList++[39])
def fD (k:Int):List UInt8:=(rM.getD k.toNat ByteArray.empty).data.toList
def wH:List UInt8:=[65,82,66,78,79,40]
def sW (b:Bool) (l:List UInt8):List UInt8:=if b then 40::(l++[41]) else l
mutual
def aG:aA→Nat→List UInt8
 | .mk k t n nm kids,i =>
  if k=1 then gu t
  else if aT k then fD k++(40::(gu t++[41]))
  else if bD k then fD k++(40::(Lib.decDigits n.toNat++[41]))
  else if k=20 then wH++(qo kids 2++[41])
  else if k=21 then qo kids 0++(32::46::32::nm.data.toList)
  else if k=22 then qo kids 0++(32::36::32::nm.data.toList)
  else if k=23 then 64::nm.data.toList
  else if k=24 then 42::nm.data.toList
  else if k=18 then sW (decide (i<1)) (bH [32] true kids 0)
  else if k=19 then sW (decide (i<2)) (bH [32,124,32] true kids 1)
  else fD k
def qo:List aA→Nat→List UInt8
 | [],_=>[]
 | p::_,i=>aG p i
def bH (sep:List UInt8):Bool→List aA→Nat→List UInt8
 | _,[],_=>[]
 | first,p::r,i=>(if first then [] else sep)++(aG p i++bH sep false r i)
end
def yJ (p:aA):Prop:=∀x∈allT p,dS x=0
def yK (l:List aA):Prop:=∀x∈allL l,dS x=0
theorem yJ.self {p:aA} (h:yJ p):dS p=0:=h p (by cases p;rw [allT];simp)
theorem yJ.kids {k:Int} {t:aj} {n:Int} {nm:aj} {kids:List aA} (h:yJ (.mk k t n nm kids)):yK kids:=fun x hx=>h x (by rw [allT];exact List.mem_cons_of_mem _ hx)
theorem yK.head {p:aA} {l:List aA} (h:yK (p::l)):yJ p:=fun x hx=>h x (by rw [allL];exact List.mem_append_left _ hx)
theorem yK.tail {p:aA} {l:List aA} (h:yK (p::l)):yK l:=fun x hx=>h x (by rw [allL];exact List.mem_append_right _ hx)
theorem yK.get:∀{l:List aA},yK l→∀(j:Nat) (hj:j<l.length),yJ l[j]
 | p::l,h,0,_=>h.head
 | p::l,h,j+1,hj=>yK.get h.tail j (by simpa using hj)
theorem GL:∀l:List UInt8,(nI l).length≤2*l.length
 | []=>by simp [nI]
 | c::r=>by have:=GL r;rw [nI];split<;>simp<;>omega
theorem Aw (t:aj):(gu t).length≤2*t.size+2:=by
 have:=GL t.data.toList
 have e:t.data.toList.length=t.size:=rfl
 simp [gu];omega
theorem rE (k:Int):(fD k).length≤6:=by
 have h:∀x∈rM,x.data.toList.length≤6:=by decide
 unfold fD
 rw [List.getD_eq_getElem?_getD]
 cases hx:rM[k.toNat]? with
 | none=>decide
 | some x=>exact h x (List.mem_of_getElem? hx)
theorem BH:∀(f u:Nat),u<10 ^ f→(Lib.decDigits u).length≤f+1
 | 0,u,h=>by
         have:u=0:=by simpa using h
         subst this;rw [Lib.decDigits,dif_pos (by omega)];simp
 | f+1,u,h=>by
  by_cases hu:u<10
  ·rw [Lib.decDigits,dif_pos hu];simp
  ·rw [Lib.decDigits,dif_neg hu]
   have:=BH f (u/10) (by rw [Nat.pow_succ] at h;omega)
   simp;omega
theorem jC {s:aj} (h:bF s=true):s.size≤16:=by
 unfold bF at h
 simp only [Bool.and_eq_true,decide_eq_true_eq] at h
 omega
theorem Fg (b:Bool) (l:List UInt8):(sW b l).length≤l.length+2:=by
 unfold sW;split<;>simp
theorem Qb {p:aA} (h:dS p=0):(1≤p.kind∧p.kind≤24)∧(p.kind=1∨aT p.kind→p.text.size≤65536)∧(bD p.kind→0≤p.n∧p.n≤65536)∧(bn p.kind→p.name.size≤16)∧(20≤p.kind∧p.kind≤22→p.kids.length=1):=by
 unfold dS at h
 by_cases h1:p.kind<1∨24<p.kind
 ·rw [if_pos h1] at h;cases h
 rw [if_neg h1] at h
 by_cases h2:(p.kind=1∨aT p.kind)∧65536<p.text.size
 ·rw [if_pos h2] at h;cases h
 rw [if_neg h2] at h
 by_cases h3:aT p.kind∧p.text.size=0
 ·rw [if_pos h3] at h;cases h
 rw [if_neg h3] at h
 by_cases h4:bD p.kind∧(p.n<0∨65536<p.n)
 ·rw [if_pos h4] at h;cases h
 rw [if_neg h4] at h
 by_cases h5:bn p.kind∧bF p.name=false
 ·rw [if_pos h5] at h;cases h
 rw [if_neg h5] at h
 by_cases h6:p.kids.length<jT p.kind∨mD p.kind<p.kids.length
 ·rw [if_pos h6] at h;cases h
 refine ⟨by omega,fun hk=>?_,fun hk=>?_,fun hk=>?_,fun hk=>?_⟩
 ·exact Nat.le_of_not_lt fun hl=>h2 ⟨hk,hl⟩
 ·constructor
  ·exact Int.not_lt.1 fun hl=>h4 ⟨hk,.inl hl⟩
  ·exact Int.not_lt.1 fun hl=>h4 ⟨hk,.inr hl⟩
 ·refine jC ?_
  cases hn:bF p.name with
  | true=>rfl
  | false=>exact absurd ⟨hk,hn⟩ h5
 ·have e1:jT p.kind=1:=by unfold jT;rw [if_neg (by omega),if_pos hk]
  have e2:mD p.kind=1:=by unfold mD;rw [if_neg (by omega),if_pos hk]
  omega
theorem jD {k n:Int} {t nm:aj} {kids:List aA} (h:dS (.mk k t n nm kids)=0):(1≤k∧k≤24)∧(k=1∨aT k→t.size≤65536)∧(bD k→0≤n∧n≤65536)∧(bn k→nm.size≤16)∧(20≤k∧k≤22→kids.length=1):=Qb h
mutual
theorem Gw:∀(p:aA) (i:Nat),yJ p→(aG p i).length+3≤140003*sizeT p
 | .mk k t n nm kids,i,h=>by
  obtain ⟨hk,ht,hn,hnm,hk1⟩:=jD h.self
  have hw:=rE k
  have hh0:=OQ kids 0 h.kids
  have hh2:=OQ kids 2 h.kids
  have hj1:=G7 [32] (by decide) true kids 0 h.kids
  have hj2:=G7 [32,124,32] (by decide) true kids 1 h.kids
  have hq:=Aw t
  have en:nm.data.toList.length=nm.size:=rfl
  rw [aG,sizeT]
  split
  ·have:=ht (.inl ‹_›);omega
  split
  ·rename_i hk2
   have:=ht (.inr hk2)
   simp only [List.length_append,List.length_cons,List.length_nil];omega
  split
  ·rename_i hk2
   have h3:=hn hk2
   have:=BH 5 n.toNat (by omega)
   simp only [List.length_append,List.length_cons,List.length_nil];omega
  split
  ·simp only [List.length_append,List.length_cons,List.length_nil,wH];omega
  split
  ·have:=hnm (by unfold bn;omega)
   simp only [List.length_append,List.length_cons,List.length_nil];omega
  split
  ·have:=hnm (by unfold bn;omega)
   simp only [List.length_append,List.length_cons,List.length_nil];omega
  split
  ·have:=hnm (by unfold bn;omega)
   simp only [List.length_cons];omega
  split
  ·have:=hnm (by unfold bn;omega)
   simp only [List.length_cons];omega
  split
  ·have:=Fg (decide (i<1)) (bH [32] true kids 0);omega
  split
  ·have:=Fg (decide (i<2)) (bH [32,124,32] true kids 1);omega
  ·omega
theorem OQ:∀(l:List aA) (i:Nat),yK l→(qo l i).length≤140003*aS l
 | [],i,h=>by simp [qo]
 | p::r,i,h=>by have:=Gw p i h.head;rw [qo,aS];omega
theorem G7:∀(sep:List UInt8),sep.length≤3→∀(first:Bool) (l:List aA) (i:Nat),yK l→(bH sep first l i).length≤140003*aS l
 | sep,hs,first,[],i,h=>by simp [bH]
 | sep,hs,first,p::r,i,h=>by
  have h1:=Gw p i h.head
  have h2:=G7 sep hs false r i h.tail
  have h3:=lW p
  rw [bH,aS]
  simp only [List.length_append]
  split
  ·simp only [List.length_nil];omega
  ·omega
end
theorem FZ:∀s:List UInt8,Lib.replaceK [39] [39,39] (Lib.count s [39]) s=nI s
 | []=>by rw [Lib.count_one];rfl
 | c::r=>by
  have ih:=FZ r
  by_cases hc:c=39
  ·subst hc
   rw [Lib.count_cons_eq,Nat.add_comm 1,Lib.replaceK_hit [39] [39,39] _ (39::r) 0 rfl,nI,if_pos rfl,←ih]
   rfl
  ·rw [Lib.count_cons_ne c 39 r hc,nI,if_neg hc]
   generalize Lib.count r [39]=k at ih
   cases k with
   | zero=>rw [←ih];rfl
   | succ m =>
    have hx:Lib.index (c::r) [39]=if Lib.index r [39] == -1 then -1 else Lib.index r [39]+1:=by
     rw [Lib.index]
     rw [if_neg (by simp [List.isPrefixOf];exact fun h=>hc h.symm)]
    rw [Lib.replaceK] at ih⊢
    rw [hx]
    have hge:=Lib.index_ge r [39]
    by_cases hi:Lib.index r [39] = -1
    ·rw [hi] at ih⊢
     rw [←ih];rfl
    ·have hb:(Lib.index r [39] == -1)=false:=by simpa using hi
     rw [hb] at ih
     rw [hb]
     have hb2:(Lib.index r [39]+1 == -1)=false:=by simp;omega
     simp only [Bool.false_eq_true,if_false] at ih⊢
     rw [hb2]
     simp only [Bool.false_eq_true,if_false]
     have e:(Lib.index r [39]+1).toNat=(Lib.index r [39]).toNat+1:=by omega
     rw [e,←ih]
     simp [List.take_succ_cons,Nat.add_right_comm]
theorem JL (s:List UInt8):Lib.replaceAll s [39] [39,39]=nI s:=by
 unfold Lib.replaceAll Lib.replace Lib.replaceNum
 rw [if_neg (by decide),if_pos (.inl (by decide)),FZ]
end Go.Proofs.YtefjbnhpjdhjmaaGreatDoor

namespace Go.Proofs.YtefjbnhpjdhjmaaGreatDoor
set_option linter.all false
open Go.RowKit
def Five (M:Nat) (c0 c1 c2 c3 c4:Value) (w:World):Prop:=w.heap[M]?=some (.cells #[c0,c1,c2,c3,c4] 27 (0,0))
theorem Five.lt {M:Nat} {c0 c1 c2 c3 c4:Value} {w:World} (h:Five M c0 c1 c2 c3 c4 w):M<w.heap.size:=(Array.getElem?_eq_some_iff.1 h).1
theorem Five.kept {M:Nat} {c0 c1 c2 c3 c4:Value} {w w':World} {X:Nat→Prop} (h:Five M c0 c1 c2 c3 c4 w) (hk:Kept X w w') (hx:¬X M):Five M c0 c1 c2 c3 c4 w':=by
 unfold Five;rw [hk.block M h.lt hx];exact h
theorem Five.cells {M:Nat} {c0 c1 c2 c3 c4:Value} {w:World} (h:Five M c0 c1 c2 c3 c4 w):w.cell? ⟨M,0,none⟩=some c0∧w.cell? ⟨M,1,none⟩=some c1∧w.cell? ⟨M,2,none⟩=some c2∧w.cell? ⟨M,3,none⟩=some c3∧w.cell? ⟨M,4,none⟩=some c4∧∀o,w.frozen? ⟨M,o,none⟩=false:=by
 unfold Five at h
 refine ⟨?_,?_,?_,?_,?_,fun o=>by simp [World.frozen?,h]⟩<;>(rw [cell_of_row w M _ _ _ _ h];rfl)
def bI (w:World) (M:Nat) (c0 c1 c2 c3 c4:Value):World:=((((w.setCell ⟨M,0,none⟩ c0).setCell ⟨M,1,none⟩ c1).setCell ⟨M,2,none⟩ c2).setCell ⟨M,3,none⟩ c3).setCell ⟨M,4,none⟩ c4
end Go.Proofs.YtefjbnhpjdhjmaaGreatDoor

namespace Go.Proofs.YtefjbnhpjdhjmaaGreatDoor
set_option linter.all false
open Go.RowKit
theorem dH.open {w:World} {S:Nat→Prop} {b o:Nat} {p:aA} (h:dH w S b o p):S b∧(p.text.size<1000000000∧p.name.size<1000000000∧p.kids.length<1000000000)∧
  w.cell? ⟨b,o,none⟩=some (.int .i64 p.kind)∧w.cell? ⟨b,o+1,none⟩=some (.string p.text)∧w.cell? ⟨b,o+2,none⟩=some (.int .i64 p.n)∧w.cell? ⟨b,o+3,none⟩=some (.string p.name)∧
  ∃ka cap,w.cell? ⟨b,o+4,none⟩=some (.slice ka p.kids.length cap)∧aI w S ka p.kids:=by
 obtain ⟨k,t,n,nm,kids⟩:=p;unfold dH at h;exact h
def AB (w:World) (S:Nat→Prop) (c:List Value) (p:aA):Prop :=
 ∃ka cap,c=[.int .i64 p.kind,.string p.text,.int .i64 p.n,.string p.name,.slice ka p.kids.length cap]∧(p.text.size<1000000000∧p.name.size<1000000000∧p.kids.length<1000000000)∧aI w S ka p.kids
def fU (w:World) (S:Nat→Prop):List Value→List aA→Prop
 | cs,[]=>cs=[]
 | cs,p::ps=>∃c rest,cs=c++rest∧AB w S c p∧fU w S rest ps
theorem AB.length {w:World} {S:Nat→Prop} {c:List Value} {p:aA} (h:AB w S c p):c.length=5:=by obtain ⟨_,_,rfl,_⟩:=h;rfl
theorem AB.one {w:World} {S:Nat→Prop} {c:List Value} {p:aA} (h:AB w S c p):∀u∈c,u.oneCell'=true:=by
 obtain ⟨_,_,rfl,_⟩:=h;intro u hu;simp at hu;rcases hu with rfl|rfl|rfl|rfl|rfl<;>rfl
theorem fU.length {w:World} {S:Nat→Prop}:∀{l:List aA} {cs:List Value},fU w S cs l→cs.length=l.length*5
 | [],cs,h=>by rw [fU] at h;subst h;rfl
 | p::ps,cs,h=>by
  rw [fU] at h;obtain ⟨c,r,rfl,h1,h2⟩:=h
  rw [List.length_append,h1.length,h2.length,List.length_cons];omega
theorem fU.one {w:World} {S:Nat→Prop}:∀{l:List aA} {cs:List Value},fU w S cs l→∀u∈cs,u.oneCell'=true
 | [],cs,h=>by rw [fU] at h;subst h;intro u hu;simp at hu
 | p::ps,cs,h=>by
  rw [fU] at h;obtain ⟨c,r,rfl,h1,h2⟩:=h
  intro u hu;rcases List.mem_append.1 hu with hu|hu;exact h1.one u hu;exact h2.one u hu
theorem fU.append {w:World} {S:Nat→Prop}:∀{l l':List aA} {cs cs':List Value},fU w S cs l→fU w S cs' l'→fU w S (cs++cs') (l++l')
 | [],_,cs,_,h,h'=>by rw [fU] at h;subst h;exact h'
 | p::ps,_,cs,_,h,h'=>by
  rw [fU] at h;obtain ⟨c,r,rfl,h1,h2⟩:=h
  rw [List.append_assoc,List.cons_append,fU]
  exact ⟨c,_,rfl,h1,h2.append h'⟩
theorem AB.kept {w w':World} {S:Nat→Prop} {X:Nat→Prop} {c:List Value} {p:aA} (h:AB w S c p) (hk:Kept X w w') (hs:Safe S X w.heap.size):AB w' S c p:=by
 obtain ⟨ka,cap,rfl,hz,hp⟩:=h;exact ⟨ka,cap,rfl,hz,hp.kept hk hs⟩
theorem fU.kept {w w':World} {S:Nat→Prop} {X:Nat→Prop}:∀{l:List aA} {cs:List Value},fU w S cs l→Kept X w w'→Safe S X w.heap.size→fU w' S cs l
 | [],_,h,_,_=>h
 | p::ps,cs,h,hk,hs=>by
  rw [fU] at h⊢;obtain ⟨c,r,rfl,h1,h2⟩:=h
  exact ⟨c,r,rfl,h1.kept hk hs,h2.kept hk hs⟩
theorem Tryz.infoP:(Tryz.prog.info? 27).map (fun i=>(i.zero,i.size,i.bytes))=some (some (.agg #[.int .i64 0,.string ⟨#[]⟩,.int .i64 0,.string ⟨#[]⟩,.slice none 0 0]),5,72):=by kernel_rfl
theorem RI (l:List aA) (j:Nat):aS (l.take j)≤aS l:=by
 induction l generalizing j with
 | nil=>simp
 | cons p ps ih=>cases j with
  | zero=>simp [aS]
  | succ j=>simp only [List.take_succ_cons,aS];have:=ih j;omega
end Go.Proofs.YtefjbnhpjdhjmaaGreatDoor

namespace Go.Proofs.YtefjbnhpjdhjmaaGreatDoor
set_option linter.all false
open Go.RowKit
def Hy:Go.Shelf.Ren:=⟨fun|167=>67|166=>31|240=>65|276=>84|n=>n,fun|0=>0|3=>3|4=>4|5=>5|9=>9|20=>20|37=>48|70=>75|72=>77|75=>79|80=>83|164=>127|n=>n,fun n=>n⟩
theorem JY:Go.Proofs.Lays.n167 Tryz.prog Hy:={mixed:=by kernel_rfl,f167:=Tryz.func67.trans (congrArg some (by kernel_rfl)),f240:=Tryz.func65.trans (congrArg some (by kernel_rfl)),f276:=Tryz.func84.trans (congrArg some (by kernel_rfl)),t0:=Tryz.underlying0,a0:=Tryz.isAgg0,z0:=Tryz.sizeOf0,v0:=Tryz.zeroValue0,t4:=Tryz.underlying4,a4:=Tryz.isAgg4,z4:=Tryz.sizeOf4,v4:=Tryz.zeroValue4,t5:=Tryz.underlying5,a5:=Tryz.isAgg5,z5:=Tryz.sizeOf5,v5:=Tryz.zeroValue5,t9:=Tryz.underlying9,a9:=Tryz.isAgg9,z9:=Tryz.sizeOf9,v9:=Tryz.zeroValue9,t20:=Tryz.underlying20,a20:=Tryz.isAgg20,z20:=Tryz.sizeOf20,v20:=Tryz.zeroValue20,t37:=Tryz.underlying48,a37:=Tryz.isAgg48,z37:=Tryz.sizeOf48,v37:=Tryz.zeroValue48,t70:=Tryz.underlying75,a70:=Tryz.isAgg75,z70:=Tryz.sizeOf75,v70:=Tryz.zeroValue75,t72:=Tryz.underlying77,a72:=Tryz.isAgg77,z72:=Tryz.sizeOf77,v72:=Tryz.zeroValue77,t75:=Tryz.underlying79,a75:=Tryz.isAgg79,z75:=Tryz.sizeOf79,v75:=Tryz.zeroValue79,t164:=Tryz.underlying127,a164:=Tryz.isAgg127,z164:=Tryz.sizeOf127,v164:=Tryz.zeroValue127}
theorem Us:Go.Proofs.Lays.n166 Tryz.prog Hy:={mixed:=by kernel_rfl,f166:=Tryz.func31.trans (congrArg some (by kernel_rfl)),f240:=Tryz.func65.trans (congrArg some (by kernel_rfl)),f276:=Tryz.func84.trans (congrArg some (by kernel_rfl)),t0:=Tryz.underlying0,a0:=Tryz.isAgg0,z0:=Tryz.sizeOf0,v0:=Tryz.zeroValue0,t3:=Tryz.underlying3,a3:=Tryz.isAgg3,z3:=Tryz.sizeOf3,v3:=Tryz.zeroValue3,t4:=Tryz.underlying4,a4:=Tryz.isAgg4,z4:=Tryz.sizeOf4,v4:=Tryz.zeroValue4,t9:=Tryz.underlying9,a9:=Tryz.isAgg9,z9:=Tryz.sizeOf9,v9:=Tryz.zeroValue9,t20:=Tryz.underlying20,a20:=Tryz.isAgg20,z20:=Tryz.sizeOf20,v20:=Tryz.zeroValue20,t37:=Tryz.underlying48,a37:=Tryz.isAgg48,z37:=Tryz.sizeOf48,v37:=Tryz.zeroValue48,t70:=Tryz.underlying75,a70:=Tryz.isAgg75,z70:=Tryz.sizeOf75,v70:=Tryz.zeroValue75,t72:=Tryz.underlying77,a72:=Tryz.isAgg77,z72:=Tryz.sizeOf77,v72:=Tryz.zeroValue77,t75:=Tryz.underlying79,a75:=Tryz.isAgg79,z75:=Tryz.sizeOf79,v75:=Tryz.zeroValue79,t164:=Tryz.underlying127,a164:=Tryz.isAgg127,z164:=Tryz.sizeOf127,v164:=Tryz.zeroValue127}
theorem zF:Builder.Extra Tryz.prog Hy:={sizeBuilder:=by kernel_rfl,liesBuilder:=by kernel_rfl,t5:=Tryz.underlying5,a5:=Tryz.isAgg5,z5:=Tryz.sizeOf5,v5:=Tryz.zeroValue5,infoByte:=by kernel_rfl,cellsByte:=by kernel_rfl,sizeByte:=by kernel_rfl,neB5:=by decide}
def ni (N T:Nat) (l:List UInt8) (w:World):Prop:=Lib.IsBuilderF 77 5 T N (Lib.byteCells l) w
def XB (N T:Nat) (w:World) (y:Nat):Prop:=y=N∨(T≤y∧∃c fz,w.heap[y]?=some (.cells c 5 fz))
def KB (N T:Nat) (w w':World):Prop:=Kept (XB N T w) w w'
theorem KB.refl (N T:Nat) (w:World):KB N T w w:=Kept.refl _ w
theorem KB.trans {N T:Nat} {a b c:World} (h:KB N T a b) (k:KB N T b c):KB N T a c:=by
 refine Kept.step h k fun y hy=>?_
 rcases hy with rfl|⟨hT,cs,fz,hc⟩
 ·exact .inl (.inl rfl)
 ·by_cases hlt:y<a.heap.size
  ·by_cases hx:XB N T a y
   ·exact .inl hx
   ·have:=Kept.block h y hlt hx
    rw [hc] at this
    exact .inl (.inr ⟨hT,cs,fz,this.symm⟩)
  ·exact .inr (by omega)
theorem KB.of {N T:Nat} {w w':World} (h1:Below T w w') (h2:Lib.OthersKept 5 (some N) w w'):KB N T w w':=by
 refine ⟨h1.os,h1.tape,h1.output,h1.size,fun k hk hx=>?_⟩
 have hnN:k≠N:=fun e=>hx (.inl e)
 by_cases hT:k<T
 ·exact h1.block k hT
 ·have ho:=Array.getElem?_eq_getElem hk
  rw [ho]
  refine h2 k _ ho (fun e=>hnN (Option.some.inj e)) fun c fz e=>hx (.inr ⟨by omega,c,fz,by rw [ho,e]⟩)
theorem KB.old {N T:Nat} {w:World} {y:Nat} (hy:y<T) (hT:T≤N):¬XB N T w y:=by
 rintro (rfl|⟨h,_⟩)<;>omega
theorem KB.below {N T:Nat} {w w':World} (h:KB N T w w') (hT:T≤N) (hw:T≤w.heap.size):Below T w w' :=
 ⟨h.os,h.tape,h.output,h.size,fun k hk=>h.block k (by omega) (KB.old hk hT)⟩
theorem yt (a b:List UInt8):Lib.byteCells (a++b)=Lib.byteCells a++Lib.byteCells b:=by simp [Lib.byteCells]
def Hz (N T:Nat) (l:List UInt8) (v:Value) (w:World) (e:Ending) (w':World):Prop:=e=.returned v∧ni N T l w'∧KB N T w w'
theorem Me (N T:Nat) (l:List UInt8) (c:UInt8) (w:World) (h:ni N T l w) (hl:l.length+1≤140737488355328) (hT:T≤w.heap.size) :
  Calls Tryz.prog 67 #[.pointer (some ⟨N,0,none⟩),.int .u8 c.toNat] w (Hz N T (l++[c]) .nilIface w):=by
 refine (Any.Builder_WriteByte_k JY zF T N (Lib.byteCells l) c.toNat w h (by rw [Lib.byteCells_length];exact hl) hT).mono ?_
 rintro e w' ⟨rfl,h1,h2,h3⟩
 exact ⟨rfl,.inr (by rw [yt];exact h1),KB.of h2 h3⟩
theorem bM (N T:Nat) (l:List UInt8) (s:aj) (w:World) (h:ni N T l w) (hl:l.length+s.size≤140737488355328) (hT:T≤w.heap.size) :
  Calls Tryz.prog 31 #[.pointer (some ⟨N,0,none⟩),.string s] w (Hz N T (l++s.data.toList) (.tuple #[.int .i64 s.size,.nilIface]) w):=by
 refine (Any.Builder_WriteString_k Us zF T N (Lib.byteCells l) s w h (by rw [Lib.byteCells_length];exact hl) hT).mono ?_
 rintro e w' ⟨rfl,h1,h2,h3⟩
 exact ⟨rfl,.inr (by rw [yt];exact h1),KB.of h2 h3⟩
end Go.Proofs.YtefjbnhpjdhjmaaGreatDoor

namespace Go.Proofs.YtefjbnhpjdhjmaaGreatDoor
set_option linter.all false
open Go.RowKit
set_option maxRecDepth 100000
def Glob (w:World):Prop:=(∃m,w.cell? ⟨0,0,none⟩=some (.int .i64 m))∧Lib.TabIs Tryz.prog w "internal/strconv.uint64pow10" .u64 Lib.pow10Tab
theorem Glob.below {w w':World} {B:Nat} (h:Glob w) (hb:Below B w w') (hB:0<B∧1<B):Glob w':=by
 obtain ⟨⟨m,hm⟩,ht⟩:=h
 exact ⟨⟨m,(World.cell?_of_block (hb.block _ hB.1)).trans hm⟩,var?_below hb (by kernel_rfl:Tryz.prog.globalNamed "internal/strconv.uint64pow10" = some 1) hB.2 ht⟩
theorem Kept.of_below {w w':World} (h:Below w.heap.size w w'):Kept aC w w':=⟨h.os,h.tape,h.output,h.size,fun k hk _=>h.block k hk⟩
def zI (l:List UInt8) (w:World) (e:Ending) (w':World):Prop:=e=.returned (.string ⟨l.toArray⟩)∧Kept aC w w'
theorem PZ (s:aj) (w:World) (hg:Glob w) (hs:s.size≤1000000000) :
  Calls Tryz.prog 44 #[.string s,.string ⟨#[39]⟩,.string ⟨#[39,39]⟩] w (zI (nI s.data.toList) w):=by
 obtain ⟨⟨m,hm⟩,_⟩:=hg
 have hc:Lib.countB s ⟨#[39]⟩≤s.size:=by
  show Lib.count s.data.toList [39]≤_
  rw [Lib.count_one]
  exact List.count_le_length
 refine (Tryz.strings_ReplaceAll s ⟨#[39]⟩ ⟨#[39,39]⟩ m w (by omega) hm (by decide) (by show s.size+Lib.countB s ⟨#[39]⟩*2≤_;omega)).mono ?_
 rintro e w' ⟨rfl,h⟩
 exact ⟨by rw [show (⟨#[39]⟩:aj).data.toList=[39] from rfl,show (⟨#[39,39]⟩:aj).data.toList=[39,39] from rfl,JL],Kept.of_below h⟩
theorem YI (n:Int) (w:World) (hg:Glob w) (h0:0≤n) (h1:n≤65536):Calls Tryz.prog 69 #[.int .i64 n] w (zI (Lib.decDigits n.toNat) w):=by
 refine (Tryz.strconv_Itoa n (by omega) (by omega) w hg.2).mono ?_
 rintro e w' ⟨rfl,k,os,rfl⟩
 refine ⟨by unfold Lib.itoa;rw [if_neg (by omega)],?_⟩
 refine ⟨rfl,rfl,rfl,?_,fun j hj _=>?_⟩
 ·show w.heap.size≤(w.heap++os).size;simp
 ·show (w.heap++os)[j]?=_;rw [Array.getElem?_append_left hj]
theorem kQ (a b:List UInt8):(⟨a.toArray⟩:aj)++⟨b.toArray⟩=⟨(a++b).toArray⟩:=by
 apply ByteArray.ext;simp [ByteArray.data_append]
theorem str39:(⟨#[39]⟩:aj)=⟨[39].toArray⟩:=rfl
theorem Eo (s:aj) (w:World) (hg:Glob w) (hs:s.size≤100000):Calls Tryz.prog 68 #[.string s] w (zI (gu s) w):=by
 have HG:=ah hg;clear hg
 have hl:=GL s.data.toList
 have el:s.data.toList.length=s.size:=rfl
 go_enter Tryz.func68, Tryz.ntmps68
 go_wp2_with fail
 refine (PZ s w HG.out (by omega)).mono ?_
 rintro e w1 ⟨rfl,K1⟩
 go_wp2_with fail
 go_ret
 have e:((⟨#[39]⟩:aj)++⟨(nI s.data.toList).toArray⟩++⟨#[39]⟩)=⟨(gu s).toArray⟩:=by
  rw [str39,kQ,kQ];simp [gu]
 exact ⟨congrArg (fun b=>Ending.returned (.string b)) e,K1⟩
end Go.Proofs.YtefjbnhpjdhjmaaGreatDoor

namespace Go.Proofs.YtefjbnhpjdhjmaaGreatDoor
set_option linter.all false
open Go.RowKit
def Fl (N:Nat) (a b:Int) (w:World):Prop:=w.heap[N]?=some (.cells #[.int .i64 a,.int .i64 b] 36 (0,0))
theorem Fl.lt {N:Nat} {a b:Int} {w:World} (h:Fl N a b w):N<w.heap.size:=(Array.getElem?_eq_some_iff.1 h).1
theorem Fl.kept {N:Nat} {a b:Int} {w w':World} {X:Nat→Prop} (h:Fl N a b w) (hk:Kept X w w') (hx:¬X N):Fl N a b w':=by
 unfold Fl;rw [hk.block N h.lt hx];exact h
theorem Fl.cells {N:Nat} {a b:Int} {w:World} (h:Fl N a b w):w.cell? ⟨N,0,none⟩=some (.int .i64 a)∧w.cell? ⟨N,1,none⟩=some (.int .i64 b)∧w.frozen? ⟨N,0,none⟩=false∧w.frozen? ⟨N,1,none⟩=false:=by
 unfold Fl at h
 exact ⟨by rw [cell_of_row w N _ _ _ _ h];rfl,by rw [cell_of_row w N _ _ _ _ h];rfl,by simp [World.frozen?,h],by simp [World.frozen?,h]⟩
theorem Fl.set {N:Nat} {a b:Int} {w:World} (h:Fl N a b w) (c d:Int):Fl N c d ((w.setCell ⟨N,0,none⟩ (.int .i64 c)).setCell ⟨N,1,none⟩ (.int .i64 d)):=by
 unfold Fl at *
 simp [World.setCell,Array.getElem?_modify,h]
theorem BN {f:Func} {tmps:Array Value} {x:aj} {w2:World} {F:Nat} {a b:Int} {Q:Ending→World→Prop} (hres:f.results = #[.tmp 2,.cell 3 36]) (h2:tmps.getD 2 undef=.string x) (h3:tmps.getD 3 undef=.pointer (some ⟨F,0,none⟩)) (hF:Fl F a b w2)
  (hq:Q (.returned (.tuple #[.string x,.agg #[.int .i64 a,.int .i64 b]])) w2):bodyPost Tryz.prog f Q .ret ⟨tmps,[]⟩ w2:=by
 obtain ⟨h0,h1,_,_⟩:=hF.cells
 have ht2:tmps[2]?.getD undef=.string x:=by rw [←h2,Array.getD_eq_getD_getElem?]
 have ht3:tmps[3]?.getD undef=.pointer (some ⟨F,0,none⟩):=by rw [←h3,Array.getD_eq_getD_getElem?]
 exact bodyPost_ret (v:=.tuple #[.string x,.agg #[.int .i64 a,.int .i64 b]]) (by simp [results,hres,go_sem,ht2,ht3,h0,h1]) rfl hq
theorem vP {f:Func} {tmps:Array Value} {v:Value} {w2:World} {F:Nat} {a b:Int} {Q:Ending→World→Prop} (hres:f.results = #[.tmp 2,.cell 3 36]) (h2:tmps.getD 2 undef=v) (h3:tmps.getD 3 undef=.pointer (some ⟨F,0,none⟩)) (hF:Fl F a b w2)
  (hq:Q (.returned (.tuple #[v,.agg #[.int .i64 a,.int .i64 b]])) w2):bodyPost Tryz.prog f Q .ret ⟨tmps,[]⟩ w2:=by
 obtain ⟨h0,h1,_,_⟩:=hF.cells
 have ht2:tmps[2]?.getD undef=v:=by rw [←h2,Array.getD_eq_getD_getElem?]
 have ht3:tmps[3]?.getD undef=.pointer (some ⟨F,0,none⟩):=by rw [←h3,Array.getD_eq_getD_getElem?]
 exact bodyPost_ret (v:=.tuple #[v,.agg #[.int .i64 a,.int .i64 b]]) (by simp [results,hres,go_sem,ht2,ht3,h0,h1]) rfl hq
end Go.Proofs.YtefjbnhpjdhjmaaGreatDoor

namespace Go.Proofs.YtefjbnhpjdhjmaaGreatDoor
set_option linter.all false
open Go.RowKit
set_option maxRecDepth 100000
set_option maxHeartbeats 4000000
theorem ni.kept {N T:Nat} {l:List UInt8} {w w':World} (h:ni N T l w) (k:Kept aC w w'):ni N T l w':=by
 have one:∀p,Lib.BuilderAtF 77 5 T N p (Lib.byteCells l) w→Lib.BuilderAtF 77 5 T N p (Lib.byteCells l) w':=by
  rintro p ⟨h1,v,h2,⟨h3,h4⟩,h5⟩
  refine ⟨h1,v,by rw [k.block _ (Array.getElem?_eq_some_iff.1 h2).1 (fun h=>h)];exact h2,⟨h3,?_⟩,h5⟩
  rcases h4 with h4|⟨g,cap,cur,fz,e1,e2,e3,e4⟩
  ·exact .inl h4
  ·exact .inr ⟨g,cap,cur,fz,e1,e2,by rw [k.block _ (Array.getElem?_eq_some_iff.1 e3).1 (fun h=>h)];exact e3,e4⟩
 exact h.elim (fun h=>.inl (one _ h)) (fun h=>.inr (one _ h))
structure pY (N T W:Nat) (S:Nat→Prop) (b o:Nat) (p:aA) (l:List UInt8) (w:World):Prop where
 jd:ni N T l w
 wd:nU W w
 gl:Glob w
 hw:T≤w.heap.size
 pat:dH w S b o p
 hS:∀y,S y→y<T
 hT:T≤N
 hWN:W≠N
 hg:0<T∧1<T
theorem QM {S:Nat→Prop} {N T:Nat} {w:World} (hS:∀y,S y→y<T) (hT:T≤N) (hw:T≤w.heap.size):Safe S (XB N T w) w.heap.size:=fun y hy=>⟨Nat.lt_of_lt_of_le (hS y hy) hw,KB.old (hS y hy) hT⟩
section
variable {N T W:Nat} {S:Nat→Prop} {b o:Nat} {p:aA} {l l':List UInt8} {w w':World}
theorem pY.wrote (h:pY N T W S b o p l w) (B:ni N T l' w') (k:KB N T w w'):pY N T W S b o p l' w':=by
 refine ⟨B,?_,h.gl.below (k.below h.hT h.hw) h.hg,Nat.le_trans h.hw (Kept.size k),h.pat.kept k (QM h.hS h.hT h.hw),h.hS,h.hT,h.hWN,h.hg⟩
 have hb:=Kept.block k W h.wd.lt (by
  rintro (h1|⟨_,c,fz,h1⟩)
  ·exact h.hWN h1
  ·have:=h.wd;unfold nU at this;rw [this] at h1
   simp at h1)
 unfold nU;rw [hb];exact h.wd
theorem pY.quiet (h:pY N T W S b o p l w) (k:Kept aC w w'):pY N T W S b o p l w' :=
 h.wrote (h.jd.kept k) (Kept.more k fun _ h=>h.elim)
theorem pY.word (h:pY N T W S b o p l w) (j:Nat) (hj:j<21):∃x:aj,w.cell? ⟨W,j,none⟩=some (.string x)∧x=⟨(fD j).toArray⟩:=by
 have h1:=h.wd.cell j hj
 rw [Nat.zero_add] at h1
 exact ⟨_,h1,by unfold fD;simp⟩
end
def NoPanic (Q:Exit→Act→World→Prop):Exit→Act→World→Prop
 | .panic _,_,_=>False
 | x,a,w=>Q x a w
theorem Jf {Q:Exit→Act→World→Prop}:∀e a w,NoPanic Q e a w→Q e a w:=by
 intro e a w h;cases e<;>first|exact h|exact h.elim
def Oj (N T:Nat) (l:List UInt8) (w:World) (e:Ending) (w':World):Prop:=e=.returned (.tuple #[])∧ni N T l w'∧KB N T w w'
def big:Nat:=1000000000000
def nJ (N T W:Nat) (S:Nat→Prop) (b o i:Nat) (p:aA) (l:List UInt8) (w:World):Prop :=
 Calls Tryz.prog 36 #[.pointer (some ⟨N,0,none⟩),.pointer (some ⟨b,o,none⟩),.slice (some ⟨W,0,none⟩) 21 21,.int .i64 i] w (Oj N T (l++aG p i) w)
theorem WH (N T W:Nat) (S:Nat→Prop) (b o i:Nat) (k:Int) (t:aj) (n:Int) (nm:aj) (kids:List aA) (l:List UInt8) (w:World) (h:pY N T W S b o (.mk k t n nm kids) l w) (hn:dS (.mk k t n nm kids)=0) (hl:l.length+(aG (.mk k t n nm kids) i).length≤big) (hk:k=1) :
  nJ N T W S b o i (.mk k t n nm kids) l w:=by
 obtain ⟨Hg,ht,hnn,hnm,_⟩:=jD hn
 obtain ⟨hSb,hz,p0,p1,p2,p3,ka,cap,p4,hkk⟩:=h.pat.open
 dsimp only [aA.aY,aA.aW,aA.dY,aA.aX,aA.aU] at p0 p1 p2 p3 p4
 unfold big at hl
 unfold nJ
 have HH:=ah h
 have hN:T≤N:=h.hT
 have e0:decide ((i:Int)<0)=false:=by simp
 clear hkk hz hn
 subst hk
 have hs:aG (.mk 1 t n nm kids) i=gu t:=by rw [aG,if_pos rfl]
 rw [hs] at hl⊢
 have ht1:=ht (.inl rfl)
 have HT:=ah ht1
 have hql:=Aw t
 clear ht hnn hnm hs h
 go_enter_defers Tryz.func36, Tryz.ntmps36
 go_wp2_with fail
 refine (Eo t w HH.out.gl (by omega)).mono ?_
 rintro e w1 ⟨rfl,K1⟩
 have h1:=ah (HH.out.quiet K1)
 have iG:=ah K1
 clear K1
 go_wp2_with fail
 refine (bM N T l ⟨(gu t).toArray⟩ _ h1.out.jd (by show l.length+(gu t).toArray.size≤_;rw [List.size_toArray];omega) h1.out.hw).mono ?_
 rintro e w2 ⟨rfl,Q,K2⟩
 have Q:=ah Q
 have KK:Hid (KB N T w w2):=KB.trans (Kept.more iG.out fun _ h=>h.elim) K2
 clear K2
 go_wp2_with fail
 exact ⟨_,results_none rfl _ _ _,rfl,Q.out,KK.out⟩
end Go.Proofs.YtefjbnhpjdhjmaaGreatDoor

namespace Go.Proofs.YtefjbnhpjdhjmaaGreatDoor
set_option linter.all false
open Go.RowKit
def dw (k:Int):Nat:=if k=8 then 1 else if k=9∨k=10 then 2 else if k=11∨k=12∨k=13 then 3 else if k=7 then 4 else 5
def gY (k:Int):UInt8:=if k=8 then 38 else if k=9 then 43 else if k=10 then 45 else if k=11 then 42 else if k=12 then 47 else 37
mutual
def aP:aA→Nat→List UInt8
 | .mk k t n nm kids,i =>
  if k=1 then gu t
  else if k=2 then Lib.decDigits n.toNat
  else if k=3 then nm.data.toList
  else if k=4 then nm.data.toList++(60::(oV kids 1++[62]))
  else if k=5 then 36::oV kids 5
  else if k=7 then sW (decide (4<i)) (45::oV kids 4)
  else if k=6 then nm.data.toList++(40::(kE true kids++[41]))
  else sW (decide (dw k<i)) (wZ (dw k) [32,gY k,32] kids)
def oV:List aA→Nat→List UInt8
 | [],_=>[]
 | p::_,i=>aP p i
def kE:Bool→List aA→List UInt8
 | _,[]=>[]
 | first,p::r=>(if first then [] else [44,32])++(aP p 1++kE false r)
def wZ:Nat→List UInt8→List aA→List UInt8
 | own,sep,p::r=>aP p own++(sep++oV r (own+1))
 | _,_,[]=>[]
end
def vS (p:aA):Prop:=∀x∈allT p,x.n≤9223372036854775807
def Oi (l:List aA):Prop:=∀x∈allL l,x.n≤9223372036854775807
structure lI (p:aA):Prop where
 node:kX p=0
 num:vS p
structure sZ (l:List aA):Prop where
 nodes:rH l=0
 nums:Oi l
theorem sZ.head {p:aA} {l:List aA} (h:sZ (p::l)):lI p∧sZ l:=by
 have h1:=h.nodes
 rw [rH] at h1
 by_cases hp:kX p=0
 ·rw [if_pos hp] at h1
  exact ⟨⟨hp,fun x hx=>h.nums x (by rw [allL];exact List.mem_append_left _ hx)⟩,⟨h1,fun x hx=>h.nums x (by rw [allL];exact List.mem_append_right _ hx)⟩⟩
 ·rw [if_neg hp] at h1;exact absurd h1 hp
theorem sZ.get:∀{l:List aA},sZ l→∀(j:Nat) (hj:j<l.length),lI l[j]
 | p::l,h,0,_=>h.head.1
 | p::l,h,j+1,hj=>sZ.get h.head.2 j (by simpa using hj)
theorem lI.sub {k n:Int} {t nm:aj} {l:List aA} (h:lI (.mk k t n nm l)):sZ l:=by
 have h1:=h.node
 rw [kX] at h1
 split at h1
 ·exact ⟨h1,fun x hx=>h.num x (by rw [allT];exact List.mem_cons_of_mem _ hx)⟩
 ·rename_i hx;exact absurd h1 hx
section
variable {k n:Int} {t nm:aj} {kids:List aA}
theorem lI.facts (h:lI (.mk k t n nm kids)):(1≤k∧k≤13)∧(k=1→t.size≤65536)∧(k=2→0≤n)∧n≤9223372036854775807∧(k=3∨k=4∨k=6→nm.size≤16)∧(k=6→kids.length≤8)∧(k≠6→(kids.length:Int)=jf k):=by
 have h1:=h.node
 rw [kX] at h1
 have h2:DR k t n nm kids.length=0:=by
  split at h1
  ·assumption
  ·rename_i hx;exact absurd h1 hx
 have hn:n≤9223372036854775807:=h.num (.mk k t n nm kids) (by rw [allT];exact List.mem_cons_self ..)
 unfold DR at h2
 by_cases c1:k<1∨13<k
 ·rw [if_pos c1] at h2;cases h2
 rw [if_neg c1] at h2
 by_cases c2:k=1∧65536<t.size
 ·rw [if_pos c2] at h2;cases h2
 rw [if_neg c2] at h2
 by_cases c3:k=2∧n<0
 ·rw [if_pos c3] at h2;cases h2
 rw [if_neg c3] at h2
 by_cases c4:(k=3∨k=4∨k=6)∧bF nm=false
 ·rw [if_pos c4] at h2;cases h2
 rw [if_neg c4] at h2
 by_cases c5:(k=6∧8<kids.length)∨(k≠6∧(kids.length:Int)≠jf k)
 ·rw [if_pos c5] at h2;cases h2
 refine ⟨by omega,fun e=>by omega,fun e=>by omega,hn,fun e=>?_,fun e=>by omega,fun e=>by omega⟩
 refine jC ?_
 cases hx:bF nm with
 | true=>rfl
 | false=>exact absurd ⟨e,hx⟩ c4
theorem lI.one (h:lI (.mk k t n nm kids)) (hk:k=4∨k=5∨k=7):∃q,kids=[q]:=by
 have h1:=h.facts.2.2.2.2.2.2 (by omega)
 rw [show jf k=1 by unfold jf;rw [if_pos hk]] at h1
 exact List.length_eq_one_iff.1 (by omega)
theorem lI.two (h:lI (.mk k t n nm kids)) (hk:8≤k):∃p q,kids=[p,q]:=by
 have h0:=h.facts.1
 have h1:=h.facts.2.2.2.2.2.2 (by omega)
 rw [show jf k=2 by unfold jf;rw [if_neg (by omega),if_pos (by omega)]] at h1
 have h2:kids.length=2:=by omega
 match kids,h2 with
 | [p,q],_=>exact ⟨p,q,rfl⟩
end
mutual
theorem Bv:∀(p:aA) (i:Nat),lI p→(aP p i).length+3≤140010*sizeT p
 | .mk k t n nm kids,i,h=>by
  obtain ⟨hk,ht,hn,hn2,hnm,hk6,hkk⟩:=h.facts
  have hh1:=Au kids 1 h.sub
  have hh5:=Au kids 5 h.sub
  have hh4:=Au kids 4 h.sub
  have hj:=Lm true kids h.sub
  have h2:=YA (dw k) [32,gY k,32] (by simp) kids h.sub
  have hq:=Aw t
  have en:nm.data.toList.length=nm.size:=rfl
  rw [aP,sizeT]
  split
  ·have:=ht ‹_›;omega
  split
  ·have h0:=hn ‹_›
   have:=BH 19 n.toNat (by omega);omega
  split
  ·have:=hnm (.inl ‹_›);omega
  split
  ·have:=hnm (.inr (.inl ‹_›));simp only [List.length_append,List.length_cons,List.length_nil];omega
  split
  ·simp only [List.length_cons];omega
  split
  ·have:=Fg (decide (4<i)) (45::oV kids 4);simp only [List.length_cons] at this;omega
  split
  ·have:=hnm (.inr (.inr ‹_›));simp only [List.length_append,List.length_cons,List.length_nil];omega
  ·have:=Fg (decide (dw k<i)) (wZ (dw k) [32,gY k,32] kids);omega
theorem Au:∀(l:List aA) (i:Nat),sZ l→(oV l i).length≤140010*aS l
 | [],i,h=>by simp [oV]
 | p::r,i,h=>by have:=Bv p i h.head.1;rw [oV,aS];omega
theorem Lm:∀(first:Bool) (l:List aA),sZ l→(kE first l).length≤140010*aS l
 | first,[],h=>by simp [kE]
 | first,p::r,h=>by
  have h1:=Bv p 1 h.head.1
  have h2:=Lm false r h.head.2
  rw [kE,aS]
  simp only [List.length_append]
  split
  ·simp only [List.length_nil];omega
  ·simp only [List.length_cons,List.length_nil];omega
theorem YA:∀(own:Nat) (sep:List UInt8),sep.length≤3→∀(l:List aA),sZ l→(wZ own sep l).length≤140010*aS l
 | own,sep,hs,[],h=>by simp [wZ]
 | own,sep,hs,p::r,h=>by
  have h1:=Bv p own h.head.1
  have h2:=Au r (own+1) h.head.2
  rw [wZ,aS]
  simp only [List.length_append];omega
end
end Go.Proofs.YtefjbnhpjdhjmaaGreatDoor

namespace Go.Proofs.YtefjbnhpjdhjmaaGreatDoor
set_option linter.all false
open Go.RowKit
def Ic (ops:Array Oper) (n:Nat):Bool :=
 (List.range ops.size).all fun i=>match ops[i]? with
  | none=>false
  | some o=>o.guard.isNone&&(match o.dst with
    | none=>true
    | some d=>decide (d<n)&&(List.range ops.size).all fun j=>decide (j=i)||(match ops[j]? with|some p=>p.dst != some d|none=>true))
    && o.after.toList.all fun e=>decide (e.on<i)
section
variable {P:Program} {ops:Array Oper} {Q:Exit→Act→World→Prop}
theorem Gv {n i:Nat} {o:Oper} (h:Ic ops n=true) (ho:ops[i]?=some o) :
  o.guard=none∧(∀d,o.dst=some d→d<n∧∀j p,ops[j]?=some p→j≠i→p.dst≠some d)∧∀e∈o.after,e.on<i:=by
 have hi:i<ops.size:=(Array.getElem?_eq_some_iff.1 ho).1
 unfold Ic at h
 have h1:=List.all_eq_true.1 h i (List.mem_range.2 hi)
 simp only [ho,Bool.and_eq_true] at h1
 obtain ⟨⟨h2,h3⟩,h4⟩:=h1
 refine ⟨by simpa using h2,fun d hd=>?_,fun e he=>?_⟩
 ·rw [hd] at h3
  simp only [Bool.and_eq_true,decide_eq_true_eq] at h3
  refine ⟨h3.1,fun j p hj hji=>?_⟩
  have hjs:j<ops.size:=(Array.getElem?_eq_some_iff.1 hj).1
  have h5:=List.all_eq_true.1 h3.2 j (List.mem_range.2 hjs)
  simp only [Bool.or_eq_true,decide_eq_true_eq,hj] at h5
  rcases h5 with h5|h5
  ·exact absurd h5 hji
  ·simpa using h5
 ·have:=List.all_eq_true.1 h4 e (by simpa using he)
  simpa using this
structure yF (ops:Array Oper) (Spec:Nat→Value→World→Prop) (a0:Act) (w0:World) (l:Nat→Bool) (a:Act) (w:World):Prop where
 kept:Kept aC w0 w
 defers:a.defers=a0.defers
 size:a.tmps.size=a0.tmps.size
 rest:∀(t:Nat),(∀(i:Nat) (o:Oper),ops[i]?=some o→o.dst≠some t)→a.tmps.getD t undef=a0.tmps.getD t undef
 done:∀(i:Nat) (o:Oper) (d:Nat),ops[i]?=some o→l i=true→o.dst=some d→Spec i (a.tmps.getD d undef) w
 todo:∀(i:Nat) (o:Oper) (d:Nat),ops[i]?=some o→l i=false→o.dst=some d→a.tmps.getD d undef=a0.tmps.getD d undef
 closed:∀(i:Nat) (o:Oper),ops[i]?=some o→l i=true→∀e∈o.after,Region.binds .any e=true→l e.on=true
theorem yF.put {Spec:Nat→Value→World→Prop} {a0:Act} {w0:World} {l l':Nat→Bool} {a:Act} {w w':World} {i:Nat} {o:Oper} {v:Value}
  (hok:Ic ops a0.tmps.size=true) (hst:∀i v w w',Spec i v w→Kept aC w w'→Spec i v w') (h:yF ops Spec a0 w0 l a w) (ho:ops[i]?=some o)
  (hv:∀d,o.dst=some d→Spec i v w') (hk:Kept aC w w') (hl:∀j,l' j=true↔j=i∨l j=true) (haft:∀e∈o.after,Region.binds .any e=true→l e.on=true):yF ops Spec a0 w0 l' (a.put o.dst v) w':=by
 obtain ⟨_,hd,_⟩:=Gv hok ho
 refine ⟨h.kept.trans hk,?_,?_,fun t ht=>?_,fun j p d hj hlj xP=>?_,fun j p d hj hlj xP=>?_,fun j p hj hlj e he hb=>?_⟩
 ·unfold Act.put;cases o.dst<;>exact h.defers
 ·unfold Act.put;cases o.dst
  ·exact h.size
  ·simp only [Array.size_setIfInBounds];exact h.size
 ·rw [←h.rest t ht]
  unfold Act.put
  cases hdst:o.dst with
  | none=>rfl
  | some d =>
   have hne:d≠t:=fun e=>ht i o ho (by rw [hdst,e])
   simp only [Array.getD_eq_getD_getElem?,Array.getElem?_setIfInBounds_ne hne]
 ·by_cases hji:j=i
  ·subst hji
   rw [ho] at hj;cases hj
   unfold Act.put
   rw [xP]
   simp only [Array.getD_eq_getD_getElem?,Array.getElem?_setIfInBounds_self_of_lt (show d<a.tmps.size by rw [h.size];exact (hd d xP).1),Option.getD_some]
   exact hv d xP
  ·have hold:=hst _ _ _ _ (h.done j p d hj (((hl j).1 hlj).resolve_left hji) xP) hk
   unfold Act.put
   cases hdst:o.dst with
   | none=>exact hold
   | some d' =>
    have hne:d'≠d:=fun e=>(hd d' hdst).2 j p hj hji (by rw [xP,e])
    simp only [Array.getD_eq_getD_getElem?,Array.getElem?_setIfInBounds_ne hne] at hold⊢
    exact hold
 ·have XT:l j=false:=by
   cases hx:l j with
   | false=>rfl
   | true=>rw [(hl j).2 (.inr hx)] at hlj;cases hlj
  have hji:j≠i:=fun e=>by rw [(hl j).2 (.inl e)] at hlj;cases hlj
  rw [←h.todo j p d hj XT xP]
  unfold Act.put
  cases hdst:o.dst with
  | none=>rfl
  | some d' =>
   have hne:d'≠d:=fun e=>(hd d' hdst).2 j p hj hji (by rw [xP,e])
   simp only [Array.getD_eq_getD_getElem?,Array.getElem?_setIfInBounds_ne hne]
 ·rcases (hl j).1 hlj with rfl|hx
  ·rw [ho] at hj;cases hj
   exact (hl _).2 (.inr (haft e he hb))
  ·exact (hl _).2 (.inr (h.closed j p hj hx e he hb))
theorem XU (Spec:Nat→Value→World→Prop) {id:Nat} {a0:Act} {w0:World} (hm:P.follows .mixedOrders=true) (hok:Ic ops a0.tmps.size=true)
  (hst:∀i v w w',Spec i v w→Kept aC w w'→Spec i v w')
  (hstep:∀(i:Nat) (o:Oper),ops[i]?=some o→∀(l:Nat→Bool) (a:Act) (w:World),yF ops Spec a0 w0 l a w→l i=false→(∀e∈o.after,l e.on=true∨Region.binds .any e=false)→
   o.wp P a w (fun a' w'=>∃v,a'=a.put o.dst v∧(∀d,o.dst=some d→Spec i v w')∧Kept aC w w') Q)
  (hend:∀(a:Act) (w:World),yF ops Spec a0 w0 (fun _=>true) a w→Q .normal a w):(Code.region id ops true).wp P Q a0 w0:=by
 refine wp_region_any hm ?_
 have hall:∀(l:Array Bool),l.size=ops.size→Region.ready .any ops l=[]→∀i,i<ops.size→l.getD i true=true:=by
  intro l hls hr i
  induction i using Nat.strongRecOn with
  | _ i ih =>
   intro hi
   cases hg:l.getD i true with
   | true=>rfl
   | false =>
    exfalso
    have ho:ops[i]?=some ops[i]:=Array.getElem?_eq_getElem hi
    have hm':i∈Region.ready .any ops l:=mem_ready.2 ⟨hg,ops[i],ho,fun e he _=>by
     have hlt:=(Gv hok ho).2.2 e he
     have:=ih e.on hlt (by omega)
     rw [Array.getD_eq_getD_getElem?] at this⊢
     rw [Array.getElem?_eq_getElem (by omega)] at this⊢
     exact this⟩
    rw [hr] at hm';cases hm'
 have main:∀(fuel:Nat) (l:Array Bool) (a:Act) (w:World),l.size=ops.size→(List.range ops.size).countP (fun i=>!l.getD i true)≤fuel→
   yF ops Spec a0 w0 (fun i=>l.getD i true) a w→wpAny P .any ops Q fuel l a w:=by
  intro fuel
  have fin:∀(l:Array Bool) (a:Act) (w:World),l.size=ops.size→Region.ready .any ops l=[]→yF ops Spec a0 w0 (fun i=>l.getD i true) a w→Q .normal a w :=
   fun l a w hls hr h=>hend a w ⟨h.kept,h.defers,h.size,h.rest,fun i o d ho _ hd=>h.done i o d ho (hall l hls hr i (Array.getElem?_eq_some_iff.1 ho).1) hd,fun _ _ _ _ h=>(by cases h),fun _ _ _ _ _ _ _=>rfl⟩
  induction fuel with
  | zero =>
   intro l a w hls hc h
   have hr:Region.ready .any ops l=[]:=List.eq_nil_iff_forall_not_mem.2 fun i hi=>by
    obtain ⟨hg,o,ho,_⟩:=mem_ready.1 hi
    have hlt:=(Array.getElem?_eq_some_iff.1 ho).1
    have h0:(List.range ops.size).countP (fun i=>!l.getD i true)=0:=by omega
    have:=List.countP_eq_zero.1 h0 i (List.mem_range.2 hlt)
    rw [hg] at this;exact this rfl
   exact ⟨hr,fin l a w hls hr h⟩
  | succ fuel ih =>
   intro l a w hls hc h
   refine ⟨fun hr=>fin l a w hls hr h,fun i hi=>?_⟩
   obtain ⟨hg,o,ho,haft⟩:=mem_ready.1 hi
   have hlt:=(Array.getElem?_eq_some_iff.1 ho).1
   have hgd:=(Gv hok ho).1
   have hw:Region.wanted o (yielded ops a.tmps)=true:=by simp [Region.wanted,hgd]
   unfold wpOp
   simp only [ho,hw,if_true]
   refine .inl (Oper.wp_mono ?_ (hstep i o ho _ a w h hg fun e he=>?_))
   ·rintro a' w' ⟨v,rfl,hv,hk⟩
    have hset:∀j,(l.setIfInBounds i true).getD j true=true↔j=i∨l.getD j true=true:=by
     intro j
     by_cases hji:j=i
     ·subst hji
      simp only [Array.getD_eq_getD_getElem?,Array.getElem?_setIfInBounds_self_of_lt (show j<l.size by omega),Option.getD_some,true_or]
     ·simp only [Array.getD_eq_getD_getElem?,Array.getElem?_setIfInBounds_ne (Ne.symm hji),hji,false_or]
    refine ih _ _ _ (by rw [Array.size_setIfInBounds];exact hls) ?_ (h.put hok hst ho hv hk (fun j=>hset j) fun e he hb=>?_)
    rotate_left
    ·have:=haft e he hb
     rw [Array.getD_eq_getD_getElem?] at this⊢
     cases hx:l[e.on]? with
     | none=>rw [hx] at this;cases this
     | some b=>rw [hx] at this;simpa using this
    have hc2:(List.range ops.size).countP (fun j=>!(l.setIfInBounds i true).getD j true)+1≤(List.range ops.size).countP (fun j=>!l.getD j true):=by
     have key:∀(r:List Nat),r.Nodup→(r.countP (fun j=>!(l.setIfInBounds i true).getD j true))+(if i∈r then 1 else 0)=r.countP (fun j=>!l.getD j true):=by
      intro r
      induction r with
      | nil=>intro _;rfl
      | cons j r ihr =>
       intro hn
       obtain ⟨hj1,hj2⟩:=List.nodup_cons.1 hn
       have ihr:=ihr hj2
       simp only [List.countP_cons,List.mem_cons]
       by_cases hji:j=i
       ·subst hji
        rw [if_neg hj1] at ihr
        have e1:(l.setIfInBounds j true).getD j true=true:=(hset j).2 (.inl rfl)
        rw [e1,hg]
        simp only [Bool.not_true,Bool.not_false,Bool.false_eq_true,if_false,if_true,true_or]
        omega
       ·have e1:(l.setIfInBounds i true).getD j true=l.getD j true:=by
         simp only [Array.getD_eq_getD_getElem?,Array.getElem?_setIfInBounds_ne (Ne.symm hji)]
        have e2:(i=j∨i∈r)↔i∈r:=⟨fun h=>h.resolve_left (Ne.symm hji),.inr⟩
        rw [e1]
        simp only [e2];omega
     have:=key (List.range ops.size) List.nodup_range
     rw [if_pos (List.mem_range.2 hlt)] at this
     omega
    omega
   ·cases hb:Region.binds .any e with
    | false=>exact .inr rfl
    | true =>
     left
     have:=haft e he hb
     rw [Array.getD_eq_getD_getElem?] at this⊢
     cases hx:l[e.on]? with
     | none=>rw [hx] at this;cases this
     | some b=>rw [hx] at this;simpa using this
 refine main _ _ _ _ (by simp) ?_ ⟨(Kept.refl aC w0).drew,rfl,rfl,fun _ _=>rfl,fun i o d ho hl _=>?_,fun _ _ _ _ _ _=>rfl,fun i o ho hl=>?_⟩
 ·exact Nat.le_trans List.countP_le_length (by simp)
 all_goals
  exfalso
  have hlt:=(Array.getElem?_eq_some_iff.1 ho).1
  simp [Array.getD_eq_getD_getElem?,hlt] at hl
theorem bQ {i:Nat} {o:Oper} {x:Act} {w:World} {v:Value} {R:Nat→Value→World→Prop} (hr:(execOp x.eval o).run P w=.ok (.value v) w) (hs:R i v w) :
  o.wp P x w (fun a' w'=>∃v,a'=x.put o.dst v∧(∀d,o.dst=some d→R i v w')∧Kept aC w w') Q:=by
 unfold Oper.wp
 rw [hr]
 exact ⟨v,rfl,fun _ _=>hs,Kept.refl _ _⟩
theorem Bq {i:Nat} {o:Oper} {x:Act} {w w':World} {v:Value} {R:Nat→Value→World→Prop} (hr:(execOp x.eval o).run P w=.ok (.value v) w') (hk:Kept aC w w') (hs:R i v w') :
  o.wp P x w (fun a' w'=>∃v,a'=x.put o.dst v∧(∀d,o.dst=some d→R i v w')∧Kept aC w w') Q:=by
 unfold Oper.wp
 rw [hr]
 exact ⟨v,rfl,fun _ _=>hs,hk⟩
theorem nR {i:Nat} {o:Oper} {x:Act} {w:World} {f:FuncId} {args:Array Value} {R:Nat→Value→World→Prop} (hr:(execOp x.eval o).run P w=.ok (.enter f args) w)
  (hc:Calls P f args w fun e w'=>∃v,e=.returned v∧R i v w'∧Kept aC w w') :
  o.wp P x w (fun a' w'=>∃v,a'=x.put o.dst v∧(∀d,o.dst=some d→R i v w')∧Kept aC w w') Q:=by
 unfold Oper.wp
 rw [hr]
 refine Calls.mono hc ?_
 rintro e w' ⟨v,rfl,hs,hk⟩
 exact ⟨v,rfl,fun _ _=>hs,hk⟩
theorem yF.keep {Spec:Nat→Value→World→Prop} {a0:Act} {w0:World} {l:Nat→Bool} {a:Act} {w:World} (h:yF ops Spec a0 w0 l a w) (t:Nat) (v:Value) (hv:a0.tmps.getD t undef=v) (hn:(ops.toList.all fun o=>o.dst != some t)=true):a.eval (.tmp t)=v:=by
 show a.tmps.getD t undef=v
 rw [h.rest t fun i o ho e=>?_,hv]
 have:=List.all_eq_true.1 hn o (by rw [←Array.mem_def];exact Array.mem_of_getElem? ho)
 rw [e] at this;simp at this
theorem yF.dep {Spec:Nat→Value→World→Prop} {a0:Act} {w0:World} {l:Nat→Bool} {a:Act} {w:World} (h:yF ops Spec a0 w0 l a w) {after:Array Edge} (haft:∀e∈after,l e.on=true∨Region.binds .any e=false) (i t:Nat) {o:Oper}
  (ho:ops[i]?=some o) (hd:o.dst=some t) (he:(after.toList.any fun e=>e.on==i&&Region.binds .any e)=true):Spec i (a.eval (.tmp t)) w:=by
 obtain ⟨e,hm,hb⟩:=List.any_eq_true.1 he
 simp only [Bool.and_eq_true,beq_iff_eq] at hb
 obtain ⟨rfl,hb⟩:=hb
 refine h.done e.on o t ho ?_ hd
 rcases haft e (by simpa using hm) with h1|h1
 ·exact h1
 ·rw [hb] at h1;cases h1
theorem yF.late {Spec:Nat→Value→World→Prop} {a0:Act} {w0:World} {l:Nat→Bool} {a:Act} {w:World} (h:yF ops Spec a0 w0 l a w) {i:Nat} (hi:l i=false) (j t:Nat) {o:Oper}
  (ho:ops[j]?=some o) (hd:o.dst=some t) (he:(o.after.toList.any fun e=>e.on==i&&Region.binds .any e)=true) (v:Value) (hv:a0.tmps.getD t undef=v):a.eval (.tmp t)=v:=by
 show a.tmps.getD t undef=v
 rw [←hv]
 refine h.todo j o t ho ?_ hd
 cases hx:l j with
 | false=>rfl
 | true =>
  obtain ⟨e,hm,hb⟩:=List.any_eq_true.1 he
  simp only [Bool.and_eq_true,beq_iff_eq] at hb
  have:=h.closed j o ho hx e (by simpa using hm) hb.2
  rw [hb.1,hi] at this;cases this
def jP (f:Nat→Value) (t:Array Value) (ds:List Nat):Array Value:=ds.foldl (fun t d=>t.setIfInBounds d (f d)) t
theorem BQ (f:Nat→Value) (k:Nat):∀(ds:List Nat) (t:Array Value),(jP f t ds)[k]?=if k∈ds∧k<t.size then some (f k) else t[k]?
 | [],t=>by simp [jP]
 | d::ds,t=>by
  have ih:=BQ f k ds (t.setIfInBounds d (f d))
  have e:jP f t (d::ds)=jP f (t.setIfInBounds d (f d)) ds:=rfl
  rw [e,ih,Array.size_setIfInBounds]
  by_cases h1:k∈ds∧k<t.size
  ·rw [if_pos h1,if_pos ⟨List.mem_cons_of_mem _ h1.1,h1.2⟩]
  ·rw [if_neg h1]
   by_cases h2:k=d
   ·subst h2
    by_cases h3:k<t.size
    ·rw [if_pos ⟨List.mem_cons_self ..,h3⟩,Array.getElem?_setIfInBounds_self_of_lt h3]
    ·rw [if_neg (fun h=>h3 h.2),Array.getElem?_eq_none (by rw [Array.size_setIfInBounds];omega),Array.getElem?_eq_none (by omega)]
   ·rw [if_neg (fun h=>by rcases List.mem_cons.1 h.1 with h4|h4;exact h2 h4;exact h1 ⟨h4,h.2⟩),Array.getElem?_setIfInBounds_ne (Ne.symm h2)]
theorem yF.act {Spec:Nat→Value→World→Prop} {a0:Act} {w0:World} {l:Nat→Bool} {a:Act} {w:World} (h:yF ops Spec a0 w0 l a w) (ds:List Nat) (hds:ops.toList.filterMap (·.dst)=ds) :
  a=⟨jP (fun t=>a.tmps.getD t undef) a0.tmps ds,a0.defers⟩:=by
 obtain ⟨tm,df⟩:=a
 have e1:=h.defers
 have e2:=h.size
 dsimp only at e1 e2⊢
 rw [e1]
 congr 1
 refine Array.ext_getElem? fun k=>?_
 rw [BQ]
 by_cases hk:k∈ds∧k<a0.tmps.size
 ·rw [if_pos hk,Array.getElem?_eq_getElem (by omega),Array.getD_eq_getD_getElem?,Array.getElem?_eq_getElem (by omega)];rfl
 ·rw [if_neg hk]
  by_cases h2:k<a0.tmps.size
  ·have h3:=h.rest k fun i o ho e=>hk ⟨by rw [←hds];exact List.mem_filterMap.2 ⟨o,by rw [←Array.mem_def];exact Array.mem_of_getElem? ho,e⟩,h2⟩
   dsimp only at h3
   rw [Array.getD_eq_getD_getElem?,Array.getD_eq_getD_getElem?,Array.getElem?_eq_getElem (show k<tm.size by omega),Array.getElem?_eq_getElem h2] at h3
   rw [Array.getElem?_eq_getElem (show k<tm.size by omega),Array.getElem?_eq_getElem h2]
   simpa using h3
  ·rw [Array.getElem?_eq_none (by omega),Array.getElem?_eq_none (by omega)]
theorem uV (Spec:Nat→Value→World→Prop) {id:Nat} {a0:Act} {w0:World} (ds:List Nat) (hds:ops.toList.filterMap (·.dst)=ds) (hm:P.follows .mixedOrders=true) (hok:Ic ops a0.tmps.size=true)
  (hst:∀i v w w',Spec i v w→Kept aC w w'→Spec i v w')
  (hstep:∀(i:Nat) (o:Oper),ops[i]?=some o→∀(l:Nat→Bool) (a:Act) (w:World),yF ops Spec a0 w0 l a w→l i=false→(∀e∈o.after,l e.on=true∨Region.binds .any e=false)→
   o.wp P a w (fun a' w'=>∃v,a'=a.put o.dst v∧(∀d,o.dst=some d→Spec i v w')∧Kept aC w w') Q)
  (hend:∀(f:Nat→Value) (w:World),Kept aC w0 w→(∀(i:Nat) (o:Oper) (d:Nat),ops[i]?=some o→o.dst=some d→Spec i (f d) w)→Q .normal ⟨jP f a0.tmps ds,a0.defers⟩ w):(Code.region id ops true).wp P Q a0 w0:=by
 refine XU Spec hm hok hst hstep fun a w h=>?_
 rw [h.act ds hds]
 exact hend _ w h.kept fun i o d ho hd=>h.done i o d ho rfl hd
end
end Go.Proofs.YtefjbnhpjdhjmaaGreatDoor

namespace Go.Proofs.YtefjbnhpjdhjmaaGreatDoor
set_option linter.all false
open Go.RowKit
section
variable {P:Program} {ops:Array Oper} {Q:Exit→Act→World→Prop}
structure yG (X:Nat→Prop) (ops:Array Oper) (Spec:Nat→Value→World→Prop) (a0:Act) (w0:World) (l:Nat→Bool) (a:Act) (w:World):Prop where
 kept:Kept X w0 w
 defers:a.defers=a0.defers
 size:a.tmps.size=a0.tmps.size
 rest:∀(t:Nat),(∀(i:Nat) (o:Oper),ops[i]?=some o→o.dst≠some t)→a.tmps.getD t undef=a0.tmps.getD t undef
 done:∀(i:Nat) (o:Oper) (d:Nat),ops[i]?=some o→l i=true→o.dst=some d→Spec i (a.tmps.getD d undef) w
 todo:∀(i:Nat) (o:Oper) (d:Nat),ops[i]?=some o→l i=false→o.dst=some d→a.tmps.getD d undef=a0.tmps.getD d undef
 closed:∀(i:Nat) (o:Oper),ops[i]?=some o→l i=true→∀e∈o.after,Region.binds .any e=true→l e.on=true
theorem yG.keep {X:Nat→Prop} {Spec:Nat→Value→World→Prop} {a0:Act} {w0:World} {l:Nat→Bool} {a:Act} {w:World} (h:yG X ops Spec a0 w0 l a w) (t:Nat) (v:Value) (hv:a0.tmps.getD t undef=v) (hn:(ops.toList.all fun o=>o.dst != some t)=true):a.eval (.tmp t)=v:=by
 show a.tmps.getD t undef=v
 rw [h.rest t fun i o ho e=>?_,hv]
 have:=List.all_eq_true.1 hn o (by rw [←Array.mem_def];exact Array.mem_of_getElem? ho)
 rw [e] at this;simp at this
theorem yG.dep {X:Nat→Prop} {Spec:Nat→Value→World→Prop} {a0:Act} {w0:World} {l:Nat→Bool} {a:Act} {w:World} (h:yG X ops Spec a0 w0 l a w) {after:Array Edge} (haft:∀e∈after,l e.on=true∨Region.binds .any e=false) (i t:Nat) {o:Oper}
  (ho:ops[i]?=some o) (hd:o.dst=some t) (he:(after.toList.any fun e=>e.on==i&&Region.binds .any e)=true):Spec i (a.eval (.tmp t)) w:=by
 obtain ⟨e,hm,hb⟩:=List.any_eq_true.1 he
 simp only [Bool.and_eq_true,beq_iff_eq] at hb
 obtain ⟨rfl,hb⟩:=hb
 refine h.done e.on o t ho ?_ hd
 rcases haft e (by simpa using hm) with h1|h1
 ·exact h1
 ·rw [hb] at h1;cases h1
theorem yG.act {X:Nat→Prop} {Spec:Nat→Value→World→Prop} {a0:Act} {w0:World} {l:Nat→Bool} {a:Act} {w:World} (h:yG X ops Spec a0 w0 l a w) (ds:List Nat) (hds:ops.toList.filterMap (·.dst)=ds) :
  a=⟨jP (fun t=>a.tmps.getD t undef) a0.tmps ds,a0.defers⟩:=by
 obtain ⟨tm,df⟩:=a
 have e1:=h.defers
 have e2:=h.size
 dsimp only at e1 e2⊢
 rw [e1]
 congr 1
 refine Array.ext_getElem? fun k=>?_
 rw [BQ]
 by_cases hk:k∈ds∧k<a0.tmps.size
 ·rw [if_pos hk,Array.getElem?_eq_getElem (by omega),Array.getD_eq_getD_getElem?,Array.getElem?_eq_getElem (by omega)];rfl
 ·rw [if_neg hk]
  by_cases h2:k<a0.tmps.size
  ·have h3:=h.rest k fun i o ho e=>hk ⟨by rw [←hds];exact List.mem_filterMap.2 ⟨o,by rw [←Array.mem_def];exact Array.mem_of_getElem? ho,e⟩,h2⟩
   dsimp only at h3
   rw [Array.getD_eq_getD_getElem?,Array.getD_eq_getD_getElem?,Array.getElem?_eq_getElem (show k<tm.size by omega),Array.getElem?_eq_getElem h2] at h3
   rw [Array.getElem?_eq_getElem (show k<tm.size by omega),Array.getElem?_eq_getElem h2]
   simpa using h3
  ·rw [Array.getElem?_eq_none (by omega),Array.getElem?_eq_none (by omega)]
theorem yG.no {X:Nat→Prop} {Spec:Nat→Value→World→Prop} {a0:Act} {w0:World} {l:Nat→Bool} {a:Act} {w:World} (h:yG X ops Spec a0 w0 l a w) {i:Nat} (hi:l i=false) (j:Nat) {o:Oper}
  (ho:ops[j]?=some o) (he:(o.after.toList.any fun e=>e.on==i&&Region.binds .any e)=true):l j=false:=by
 cases hx:l j with
 | false=>rfl
 | true =>
  obtain ⟨e,hm,hb⟩:=List.any_eq_true.1 he
  simp only [Bool.and_eq_true,beq_iff_eq] at hb
  have:=h.closed j o ho hx e (by simpa using hm) hb.2
  rw [hb.1,hi] at this;cases this
theorem upd_ne {l l':Nat→Bool} {i:Nat} (h:∀j,l' j=true↔j=i∨l j=true) (j:Nat) (hj:j≠i):l' j=l j:=by
 rw [Bool.eq_iff_iff,h j];simp [hj]
theorem qV {l l':Nat→Bool} {i:Nat} (h:∀j,l' j=true↔j=i∨l j=true):l' i=true:=(h i).2 (.inl rfl)
theorem bJ {J:(Nat→Bool)→(Nat→Value)→World→Prop} {X:Nat→Prop} {l:Nat→Bool} {i:Nat} {o:Oper} {x:Act} {w:World} {v:Value} {R:Nat→Value→World→Prop} (hr:(execOp x.eval o).run P w=.ok (.value v) w) (hs:R i v w)
  (hj:∀l',(∀j,l' j=true↔j=i∨l j=true)→J l' (fun t=>(x.put o.dst v).tmps.getD t undef) w) :
  o.wp P x w (fun a' w'=>∃v,a'=x.put o.dst v∧(∀d,o.dst=some d→R i v w')∧Kept X w w'∧∀l',(∀j,l' j=true↔j=i∨l j=true)→J l' (fun t=>(x.put o.dst v).tmps.getD t undef) w') Q:=by
 unfold Oper.wp
 rw [hr]
 exact ⟨v,rfl,fun _ _=>hs,Kept.refl _ _,hj⟩
end
end Go.Proofs.YtefjbnhpjdhjmaaGreatDoor
