/-  -/
import Derived.Test.YtgoijmpahffnhaaGreatDoorLq15
import Derived.Test.YtgoijmpahffnhaaGreatDoorTk3
import Derived.WalkLawsBesides
import Derived.Test.YtgoijmpahffnhaaGreatDoorLq5
import Derived.Test.YtgoijmpahffnhaaGreatDoorLq7
import Derived.Deep.RegionWith
import Derived.Deep.Quiet
namespace Go.Proofs.YtgoijmpahffnhaaGreatDoor
set_option linter.all false
open Go.RowKit
set_option maxRecDepth 100000
set_option maxHeartbeats 1000000
theorem cu {a b:aj}:(a.toList==b.toList)=decide (a=b):=by
 rw [Bool.eq_iff_iff,decide_eq_true_eq,beq_iff_eq,ByteArray.toList_eq,ByteArray.toList_eq]
 constructor
 ·intro h
  obtain ⟨x⟩:=a;obtain ⟨y⟩:=b
  have:x=y:=by rw [←Array.toList_inj];exact h
  rw [this]
 ·rintro rfl;rfl
def oW (l:List aC):Prop:=∀t∈l,t.at_≤1000000∧t.text.size≤1000000∧t.kind≠4∧(t.kind=2→t.text.size≠0∧∀c∈t.text.data.toList,48≤c.toNat∧c.toNat≤57)∧(t.kind=1→t.text.size≠0)
def eU (w:World):Prop:=∃ev,w.cell? ⟨5,0,none⟩=some ev∧(ev=.nilIface∨∃te pe,ev=.iface te pe)
structure tu (N T en n:Nat) (a:Option Addr) (c:Nat) (l:List aC) (d:Nat) (w:World):Prop where
 blk:w.heap[N]?=some (.cells #[.slice a n c,.int .i64 en,.int .i64 d] 83 (0,0))
 num:n=l.length
 cap:n≤c
 toks:l≠[]→∃o,a=some ⟨T,o,none⟩∧∀j u,(jV l)[j]?=some u→w.cell? ⟨T,o+j,none⟩=some u
 ne:N≠T
 lt:T<w.heap.size
 small:c≤9223372036854775807
 good:oW l
 old:5<N
 rng:eU w
theorem tu.jo {N T en n c d:Nat} {a:Option Addr} {l:List aC} {w:World} (h:tu N T en n a c l d w):N<w.heap.size:=(Array.getElem?_eq_some_iff.1 h.blk).1
theorem tu.c0 {N T en n c d:Nat} {a:Option Addr} {l:List aC} {w:World} (h:tu N T en n a c l d w):w.cell? ⟨N,0,none⟩=some (.slice a n c)∧w.cell? ⟨N,1,none⟩=some (.int .i64 en)∧w.cell? ⟨N,2,none⟩=some (.int .i64 d)∧∀o,w.frozen? ⟨N,o,none⟩=false:=by
 refine ⟨?_,?_,?_,fun o=>by simp [World.frozen?,h.blk]⟩<;>(rw [cell_of_row w N _ _ _ _ h.blk];rfl)
theorem tu.kept {N T en n c d:Nat} {a:Option Addr} {l:List aC} {w w':World} {X:Nat→Prop} (h:tu N T en n a c l d w) (hk:Kept X w w') (hx:¬X N) (hy:¬X T) (hz:¬X 5:=by exact fun h=>h):tu N T en n a c l d w' :=
 ⟨by rw [hk.block N h.jo hx];exact h.blk,h.num,h.cap,fun hl=>by obtain ⟨o,e,hc⟩:=h.toks hl;exact ⟨o,e,fun j u hu=>(hk.cell h.lt hy).trans (hc j u hu)⟩,h.ne,Nat.lt_of_lt_of_le h.lt hk.size,h.small,h.good,h.old,by obtain ⟨ev,h1,h2⟩:=h.rng;exact ⟨ev,(hk.cell (Nat.lt_trans h.old h.jo) hz).trans h1,h2⟩⟩
theorem tu.head {N T en n c d:Nat} {a:Option Addr} {t:aC} {r:List aC} {w:World} (h:tu N T en n a c (t::r) d w):∃o,a=some ⟨T,o,none⟩∧w.cell? ⟨T,o,none⟩=some (.int .i64 t.kind)∧w.cell? ⟨T,o+1,none⟩=some (.string t.text)∧w.cell? ⟨T,o+2,none⟩=some (.int .i64 t.at_):=by
 obtain ⟨o,e,hc⟩:=h.toks (by simp)
 have e2:jV (t::r)=Eb t++jV r:=by simp [jV]
 rw [e2] at hc
 exact ⟨o,e,hc 0 _ rfl,hc 1 _ rfl,hc 2 _ rfl⟩
theorem tu.rest {N T en n c d:Nat} {a:Option Addr} {t:aC} {r:List aC} {w:World} (h:tu N T en n a c (t::r) d w) :
  ∃n' a' c',Hid (n'=r.length)∧(∀wx,(Instr.slice 76 (.slice a n c) (some (.int .i64 1)) none none).run Tryz.prog wx=.ok (.slice a' n' c') wx)∧tu N T en n' a' c' r d (w.setCell ⟨N,0,none⟩ (.slice a' n' c')):=by
 obtain ⟨o,e,hc⟩:=h.toks (by simp)
 have hn:=h.num;have hcap:=h.cap
 rw [List.length_cons] at hn
 subst e
 have hne:=h.ne
 refine ⟨n-1,if c=1 then some ⟨T,o,none⟩ else some ⟨T,o+3,none⟩,c-1,by unfold Hid;omega,fun wx=>?_,?_⟩
 ·have hsz:(sizeOf 105).run Tryz.prog wx=.ok 3 wx:=by kernel_rfl
  have hle:(1:Int)≤(n:Int):=by omega
  unfold Instr.slice Instr.sliceBounds Instr.sliceBound
  simp only [Sem.run_bind,run_underlying Tryz.underlying76,Result.andThen_ok,Sem.run_pure,asIntOf]
  rw [if_pos ⟨by decide,by omega⟩]
  simp only [Sem.run_pure,Result.andThen_ok,hsz]
  by_cases hc1:c=1
  ·subst hc1;simp
  ·have hc2:¬c=Int.toNat 1:=by simpa using hc1
   rw [if_neg hc2,if_neg hc1]
   simp [Addr.add]
 ·have hk:Kept (· = N) w (w.setCell ⟨N,0,none⟩ (.slice (if c=1 then some ⟨T,o,none⟩ else some ⟨T,o+3,none⟩) (n-1) (c-1))):=(Kept.refl (· = N) w).setCell (p:=⟨N,0,none⟩) (.inl rfl) _
  refine ⟨?_,by omega,by omega,fun hr=>?_,hne,Nat.lt_of_lt_of_le h.lt hk.size,by have:=h.small;omega,fun u hu=>h.good u (List.mem_cons_of_mem _ hu),h.old,by obtain ⟨ev,h1,h2⟩:=h.rng;exact ⟨ev,(hk.cell (Nat.lt_trans h.old h.jo) (Nat.ne_of_lt h.old)).trans h1,h2⟩⟩
  ·rw [aT h.blk];rfl
  ·have hr0:0<r.length:=List.length_pos_iff.2 hr
   refine ⟨o+3,by rw [if_neg (by omega)],fun j u hu=>(hk.cell h.lt (fun e=>hne e.symm)).trans ?_⟩
   rw [show o+3+j=o+(3+j) by omega]
   refine hc _ _ ?_
   have e2:jV (t::r)=Eb t++jV r:=by simp [jV]
   rw [e2,List.getElem?_append_right (by simp [Eb])]
   simpa [Eb] using hu
def bK (er:Er):Value:=.iface 80 (.agg #[.int .i64 er.1,.int .i64 er.2])
def jq (er:Er) (e:Ending):Prop:=e=.panicked [{v:=bK er,recovered:=false}]
theorem dH (a:Value) (er:Int) (i:Nat) (w:World):Calls Tryz.prog 55 #[a,.int .i64 er,.int .i64 i] w fun e w'=>jq (er,i) e∧w=w':=by
 go_enter Tryz.func55, Tryz.ntmps55
 go_wp2_with fail
 exact ⟨rfl,rfl,rfl⟩
theorem lJ {N T en n c d:Nat} {a:Option Addr} {l:List aC} {w:World} (h:tu N T en n a c l d w):Calls Tryz.prog 56 #[.pointer (some ⟨N,0,none⟩)] w (wW (dK en l) w):=by
 obtain ⟨c0,c1,c2,_⟩:=h.c0
 have hn:=h.num
 cases l with
 | nil =>
  have z:((n:Int)==0)=true:=by rw [hn];rfl
  clear hn
  go_enter Tryz.func56, Tryz.ntmps56
  go_wp2_with fail
  go_ret
  exact ⟨rfl,rfl⟩
 | cons t r =>
  rw [List.length_cons] at hn
  have z:((n:Int)==0)=false:=by simp;omega
  have h0:0<n:=by omega
  have h1:(0:Int)<(n:Int):=by omega
  obtain ⟨o,rfl,t0,t1,t2⟩:=h.head
  clear hn h
  go_enter Tryz.func56, Tryz.ntmps56
  go_wp2_with fail
  go_ret
  exact ⟨rfl,rfl⟩
theorem zl {N T en n c d:Nat} {a:Option Addr} {l:List aC} {w:World} (x:aj) (h:tu N T en n a c l d w):Calls Tryz.prog 51 #[.pointer (some ⟨N,0,none⟩),.string x] w (Nc (aG x l) w):=by
 obtain ⟨c0,c1,c2,_⟩:=h.c0
 have hn:=h.num
 cases l with
 | nil =>
  have z:decide ((0:Int)<(n:Int))=false:=by rw [hn];rfl
  have z':decide (0<n)=false:=by rw [hn];rfl
  clear hn
  go_enter Tryz.func51, Tryz.ntmps51
  go_wp2_with fail
  go_ret
  exact ⟨rfl,rfl⟩
 | cons t r =>
  rw [List.length_cons] at hn
  have h0:0<n:=by omega
  have h1:(0:Int)<(n:Int):=by omega
  have z:decide ((0:Int)<(n:Int))=true:=ak h1
  have z':decide (0<n)=true:=ak h0
  obtain ⟨o,rfl,t0,t1,t2⟩:=h.head
  clear hn h
  by_cases hk:t.kind=5
  ·have y:(t.kind==5)=true:=by simpa using hk
   by_cases hx:t.text=x
   ·have y2:(t.text.toList==x.toList)=true:=by rw [cu];simpa using hx
    have fin:Hid (aG x (t::r)=true):=ak ⟨hk,hx⟩
    clear hk hx
    go_enter Tryz.func51, Tryz.ntmps51
    go_wp2_with fail
    go_ret
    exact ⟨by rw [fin.out];rfl,rfl⟩
   ·have y2:(t.text.toList==x.toList)=false:=by rw [cu];simpa using hx
    have fin:Hid (aG x (t::r)=false):=au (fun h=>hx h.2)
    clear hk hx
    go_enter Tryz.func51, Tryz.ntmps51
    go_wp2_with fail
    go_ret
    exact ⟨by rw [fin.out];rfl,rfl⟩
  ·have y:(t.kind==5)=false:=by simpa using hk
   have fin:Hid (aG x (t::r)=false):=au (fun h=>hk h.1)
   clear hk
   go_enter Tryz.func51, Tryz.ntmps51
   go_wp2_with fail
   go_ret
   exact ⟨by rw [fin.out];rfl,rfl⟩
end Go.Proofs.YtgoijmpahffnhaaGreatDoor

namespace Go.Proofs.YtgoijmpahffnhaaGreatDoor
set_option linter.all false
open Go.RowKit
set_option maxRecDepth 100000
set_option maxHeartbeats 2000000
def bZ (N T en:Nat) (l:List aC) (d:Nat) (w:World):Prop:=∃n a c,tu N T en n a c l d w
theorem bZ.kept {N T en d:Nat} {l:List aC} {w w':World} {X:Nat→Prop} (h:bZ N T en l d w) (hk:Kept X w w') (hx:¬X N) (hy:¬X T) (hz:¬X 5:=by exact fun h=>h):bZ N T en l d w':=by
 obtain ⟨n,a,c,h⟩:=h;exact ⟨n,a,c,h.kept hk hx hy hz⟩
def BR (x:aj) (N T en:Nat) (l:List aC) (d:Nat) (w:World) (e:Ending) (w':World):Prop :=
 e=.returned (.bool (aG x l))∧bZ N T en (if aG x l=true then l.tail else l) d w'∧Kept (· = N) w w'
theorem xU {N T en d:Nat} {l:List aC} {w:World} (x:aj) (h:bZ N T en l d w):Calls Tryz.prog 53 #[.pointer (some ⟨N,0,none⟩),.string x] w (BR x N T en l d w):=by
 obtain ⟨n,a,c,h⟩:=h
 have HS:=ah (zl x h)
 cases hs:aG x l with
 | false =>
  rw [hs] at HS
  have fin:Hid (BR x N T en l d w (.returned (.bool false)) w):=by unfold Hid BR;rw [hs];exact ⟨rfl,⟨n,a,c,h⟩,Kept.refl _ _⟩
  clear h hs
  go_enter Tryz.func53, Tryz.ntmps53
  go_wp2_with (go_at_call 51;(refine HS.out.mono ?_);rintro e w' ⟨rfl,aI⟩;obtain rfl:=aI.symm)
  go_ret
  exact fin.out
 | true =>
  rw [hs] at HS
  cases l with
  | nil=>cases hs
  | cons t r =>
   obtain ⟨c0,c1,c2,cf⟩:=h.c0
   obtain ⟨n',a',c',hn',hsl,hR⟩:=h.rest
   have hs1:=hsl w
   have TQ:=cf 0
   have fin:Hid (BR x N T en (t::r) d w (.returned (.bool true)) (w.setCell ⟨N,0,none⟩ (.slice a' n' c'))):=by unfold Hid BR;rw [hs];exact ⟨rfl,⟨_,_,_,hR⟩,(Kept.refl (· = N) w).setCell (p:=⟨N,0,none⟩) (.inl rfl) _⟩
   clear h hs hsl hR cf
   go_enter Tryz.func53, Tryz.ntmps53
   go_wp2_with (go_at_call 51;(refine HS.out.mono ?_);rintro e w' ⟨rfl,aI⟩;obtain rfl:=aI.symm)
   go_ret
   exact fin.out
def qY (x:aj) (N T en:Nat) (l:List aC) (d:Nat) (w:World) (e:Ending) (w':World):Prop :=
 Kept (· = N) w w'∧match dX x en l with
  | .ok r=>e=.returned (.tuple #[])∧bZ N T en r d w'
  | .error er=>jq er e
theorem jf {N T en d:Nat} {l:List aC} {w:World} (x:aj) (h:bZ N T en l d w):Calls Tryz.prog 88 #[.pointer (some ⟨N,0,none⟩),.string x] w (qY x N T en l d w):=by
 have HS:=ah (xU x h)
 unfold BR at HS
 cases hs:aG x l with
 | true =>
  rw [hs] at HS
  have e2:Hid (dX x en l=.ok l.tail):=by unfold Hid dX;rw [if_pos hs]
  clear h hs
  go_enter Tryz.func88, Tryz.ntmps88
  go_wp2_with (go_at_call 53;(refine HS.out.mono ?_);rintro e w1 ⟨rfl,dV,bG⟩;have R1:=ah dV;have K1:=ah bG;clear dV bG)
  first|go_end0|(refine bodyPost_ret (results_none rfl _ _ _) rfl ?_)
  refine ⟨K1.out,?_⟩
  rw [e2.out]
  exact ⟨rfl,R1.out⟩
 | false =>
  rw [hs] at HS
  have e2:Hid (dX x en l=.error (2,dK en l)):=by unfold Hid dX;rw [if_neg (by simp [hs])]
  clear h hs
  go_enter Tryz.func88, Tryz.ntmps88
  go_wp2_with (first
   | (go_at_call 53;(refine HS.out.mono ?_);rintro e w1 ⟨rfl,dV,bG⟩;obtain ⟨n1,a1,c1,dV⟩:=dV;have R1:=ah dV;have K1:=ah bG;clear dV bG)
   | (go_at_call 56;(refine (lJ R1.out).mono ?_);rintro e w' ⟨rfl,aI⟩;obtain rfl:=aI.symm)
   | (go_at_call 55;(refine (dH _ 2 (dK en l) w1).mono ?_);rintro e w2 ⟨rfl,rfl⟩))
  refine ⟨rfl,K1.out,?_⟩
  rw [e2.out]
  exact rfl
def FI (t:aC):Value:=.agg #[.int .i64 t.kind,.string t.text,.int .i64 t.at_]
def BU (w:World) (M:Nat) (c0 c1 c2:Value):World:=((w.setCell ⟨M,0,none⟩ c0).setCell ⟨M,1,none⟩ c1).setCell ⟨M,2,none⟩ c2
theorem oO.BU {M:Nat} {t:aC} {w:World} (h:oO M t w) (t2:aC):oO M t2 (BU w M (.int .i64 t2.kind) (.string t2.text) (.int .i64 t2.at_)):=by
 unfold oO at *
 simp [Go.Proofs.YtgoijmpahffnhaaGreatDoor.BU,World.setCell,Array.getElem?_modify,h]
theorem Kept.BU {X:Nat→Prop} {a w:World} (h:Kept X a w) {M:Nat} (hM:X M∨a.heap.size≤M) (c0 c1 c2:Value):Kept X a (BU w M c0 c1 c2) :=
 ((h.setCell (p:=⟨M,0,none⟩) hM _).setCell (p:=⟨M,1,none⟩) hM _).setCell (p:=⟨M,2,none⟩) hM _
theorem ac6 {f:Func} {tmps:Array Value} {M:Nat} {t:aC} {w2:World} {Q:Ending→World→Prop} (hres:f.results = #[.cell 4 105]) (ht:tmps.getD 4 undef=.pointer (some ⟨M,0,none⟩)) (hF:oO M t w2)
  (hq:Q (.returned (FI t)) w2):bodyPost Tryz.prog f Q .ret ⟨tmps,[]⟩ w2:=by
 obtain ⟨h0,h1,h2,_⟩:=hF.cells
 have ht':tmps[4]?.getD undef=.pointer (some ⟨M,0,none⟩):=by rw [←ht,Array.getD_eq_getD_getElem?]
 exact bodyPost_ret (v:=FI t) (by simp [results,hres,go_sem,ht',h0,h1,h2,FI]) rfl hq
def uH (k:Int) (N T en:Nat) (l:List aC) (d:Nat) (w:World) (e:Ending) (w':World):Prop :=
 Kept (· = N) w w'∧match eF k en l with
  | .ok (t,r)=>e=.returned (FI t)∧bZ N T en r d w'
  | .error er=>jq er e
theorem tC {N T en d:Nat} {l:List aC} {w:World} (k:Int) (h:bZ N T en l d w):Calls Tryz.prog 86 #[.pointer (some ⟨N,0,none⟩),.int .i64 k] w (uH k N T en l d w):=by
 obtain ⟨n,a,c,h⟩:=h
 have hN:=h.jo;have hT:=h.lt;have hne:=h.ne;have h7:=h.old
 obtain ⟨w0,hw0⟩:∃w0,w0=w.alloc (.cells #[.int .i64 0,.string ⟨#[]⟩,.int .i64 0] 105):=⟨_,rfl⟩
 have k0:Kept aA w w0:=by rw [hw0];exact (Kept.refl _ _).alloc _
 have Z0:Hid (oO w.heap.size ⟨0,⟨#[]⟩,0⟩ w0):=by rw [hw0];exact ay w _
 have P0:=h.kept k0 (fun h=>h) (fun h=>h)
 have K0:=ah k0;have HW0:=ah hw0
 obtain ⟨c0,c1,c2,cf⟩:=P0.c0
 have hn:=P0.num
 have HA:=ah (lJ P0)
 clear h k0 hw0
 cases l with
 | nil =>
  have z:((n:Int)==0)=true:=by rw [hn];rfl
  clear hn cf P0
  go_enter Tryz.func86, Tryz.ntmps86
  go_upto_region 1 with fail
  rw [←HW0.out]
  go_wp2_with (first
   | (go_at_call 56;(refine HA.out.mono ?_);rintro e w' ⟨rfl,aI⟩;obtain rfl:=aI.symm)
   | (go_at_call 55;(refine (dH _ 2 (dK en []) w0).mono ?_);rintro e w2 ⟨rfl,rfl⟩))
  exact ⟨rfl,K0.out.more (fun _ h=>h.elim),rfl⟩
 | cons t r =>
  rw [List.length_cons] at hn
  have h0:0<n:=by omega
  have h1:(0:Int)<(n:Int):=by omega
  have z:((n:Int)==0)=false:=by simp;omega
  obtain ⟨o,rfl,t0,t1,t2⟩:=P0.head
  by_cases hk:t.kind=k
  ·have y:(t.kind != k)=false:=by simpa using hk
   have fin:Hid (eF k en (t::r)=.ok (t,r)):=by unfold Hid;show (if t.kind=k then Except.ok (t,r) else Except.error (2,t.at_))=_;rw [if_pos hk]
   obtain ⟨w1,hw1⟩:∃w1,w1=w0.alloc (.cells #[.int .i64 t.kind,.string t.text,.int .i64 t.at_] 105):=⟨_,rfl⟩
   have k1:Kept aA w0 w1:=by rw [hw1];exact (Kept.refl _ _).alloc _
   have T1:Hid (oO w0.heap.size t w1):=by rw [hw1];exact ay w0 _
   have P1:=P0.kept k1 (fun h=>h) (fun h=>h)
   obtain ⟨q0,q1,q2,qf⟩:=P1.c0
   obtain ⟨n',a',c',hn',hsl,hR⟩:=P1.rest
   have hs1:=hsl w1
   have Iz:=qf 0
   have kN:Kept (· = N) w1 (w1.setCell ⟨N,0,none⟩ (.slice a' n' c')):=(Kept.refl (· = N) w1).setCell (p:=⟨N,0,none⟩) (.inl rfl) _
   obtain ⟨w2,hw2⟩:∃w2,w2=w1.setCell ⟨N,0,none⟩ (.slice a' n' c'):=⟨_,rfl⟩
   rw [←hw2] at hR kN
   have hz0:w0.heap.size=w.heap.size+1:=by rw [HW0.out];simp
   have T2:=ah (T1.out.kept kN (by omega));have Z2:=ah ((Z0.out.kept k1 (fun h=>h)).kept kN (by omega))
   have HR2:=ah hR;have KN:=ah kN;have K1:=ah k1
   have HW1:=ah hw1;have HW2:=ah hw2;have HZ0:=ah hz0
   obtain ⟨M5,mM⟩:∃M,M=w0.heap.size:=⟨_,rfl⟩
   obtain ⟨M4,Ec⟩:∃M,M=w.heap.size:=⟨_,rfl⟩
   rw [←mM] at T1 T2
   rw [←Ec] at Z0 Z2
   have HM5:=ah mM;have uI:=ah Ec
   clear hn hk hw1 hw2 hR kN k1 hsl qf P0 P1 hz0 mM Ec
   go_enter Tryz.func86, Tryz.ntmps86
   go_upto_region 1 with fail
   rw [←HW0.out,←uI.out]
   go_upto_region 4 with fail
   rw [←HW1.out,←HM5.out]
   go_upto_region 5 with fail
   rw [←HW2.out]
   obtain ⟨u0,u1,u2,_⟩:=T2.out.cells
   obtain ⟨z0,z1,z2,zf⟩:=Z2.out.cells
   have xA:=zf 0;have xB:=zf 1;have xC:=zf 2
   clear zf
   go_wp2_with fail
   refine ac6 rfl rfl (Z2.out.BU t) ⟨?_,?_⟩
   ·exact (((K0.out.trans K1.out).more (fun _ h=>h.elim)).trans KN.out).BU (.inr (Nat.le_of_eq uI.out.symm)) _ _ _
   ·rw [fin.out]
    have k3:Kept (· = M4) w2 (Go.Proofs.YtgoijmpahffnhaaGreatDoor.BU w2 M4 (.int .i64 t.kind) (.string t.text) (.int .i64 t.at_)):=(Kept.refl (· = M4) w2).BU (.inl rfl) _ _ _
    exact ⟨rfl,_,_,_,HR2.out.kept k3 (by have:=uI.out;omega) (by have:=uI.out;omega) (by have:=uI.out;omega)⟩
  ·have y:(t.kind != k)=true:=by simpa using hk
   have fin:Hid (eF k en (t::r)=.error (2,t.at_)):=by unfold Hid;show (if t.kind=k then Except.ok (t,r) else Except.error (2,t.at_))=_;rw [if_neg hk]
   clear hn hk cf P0
   go_enter Tryz.func86, Tryz.ntmps86
   go_upto_region 1 with fail
   rw [←HW0.out]
   go_wp2_with (first
    | (go_at_call 56;(refine HA.out.mono ?_);rintro e w' ⟨rfl,aI⟩;obtain rfl:=aI.symm)
    | (go_at_call 55;(refine (dH _ 2 (dK en (t::r)) w0).mono ?_);rintro e w2 ⟨rfl,rfl⟩))
   refine ⟨rfl,K0.out.more (fun _ h=>h.elim),?_⟩
   rw [fin.out]
   exact rfl
end Go.Proofs.YtgoijmpahffnhaaGreatDoor

namespace Go.Proofs.YtgoijmpahffnhaaGreatDoor
set_option linter.all false
open Go.RowKit
set_option maxRecDepth 100000
set_option maxHeartbeats 2000000
def uJ (N T en:Nat) (l:List aC) (d:Nat) (w:World) (e:Ending) (w':World):Prop :=
 Kept (· = N) w w'∧match dN en l with
  | .ok (x,r)=>e=.returned (.string x)∧bZ N T en r d w'
  | .error er=>jq er e
theorem bZ.jo {N T en d:Nat} {l:List aC} {w:World} (h:bZ N T en l d w):N<w.heap.size∧T<w.heap.size∧N≠T∧5<N:=by
 obtain ⟨n,a,c,h⟩:=h;exact ⟨h.jo,h.lt,h.ne,h.old⟩
theorem fD {N T en d:Nat} {l:List aC} {w:World} (h:bZ N T en l d w):Calls Tryz.prog 50 #[.pointer (some ⟨N,0,none⟩)] w (uJ N T en l d w):=by
 have HT:=ah (tC 1 h)
 unfold uH at HT
 cases ht:eF 1 en l with
 | error er =>
  rw [ht] at HT
  have fin:Hid (dN en l=.error er):=by unfold Hid dN;rw [ht]
  clear h ht
  go_enter Tryz.func50, Tryz.ntmps50
  go_wp2_with (go_at_call 86;(refine HT.out.mono ?_);rintro e w1 ⟨bG,rfl⟩;have K1:=ah bG;clear bG)
  refine ⟨rfl,K1.out,?_⟩
  rw [fin.out]
  exact rfl
 | ok x =>
  obtain ⟨t,r⟩:=x
  rw [ht] at HT
  dsimp only at HT
  unfold FI at HT
  go_enter Tryz.func50, Tryz.ntmps50
  go_upto_region 2 with (go_at_call 86;(refine HT.out.mono ?_);rintro e w1 ⟨bG,rfl,dV⟩;have K1:=ah bG;have R1:=ah dV;clear bG dV)
  obtain ⟨w2,hw2⟩:∃w2,w2=w1.alloc (.cells #[.int .i64 t.kind,.string t.text,.int .i64 t.at_] 105):=⟨_,rfl⟩
  have T2:Hid (oO w1.heap.size t w2):=by rw [hw2];exact ay w1 _
  have k2:Kept aA w1 w2:=by rw [hw2];exact (Kept.refl _ _).alloc _
  have R2:=ah (R1.out.kept k2 (fun h=>h) (fun h=>h))
  have K2:Hid (Kept (· = N) w w2):=K1.out.trans (k2.more (fun _ h=>h.elim))
  rw [←hw2]
  obtain ⟨M,hM⟩:∃M,M=w1.heap.size:=⟨_,rfl⟩
  rw [←hM] at T2⊢
  clear hw2 k2 hM
  obtain ⟨t0,t1,t2,_⟩:=T2.out.cells
  by_cases hl:16<t.text.size
  ·have d1:decide ((16:Int)<(t.text.size:Int))=true:=ak (by omega)
   have d2:decide (16<t.text.size)=true:=ak hl
   have fin:Hid (dN en l=.error (7,t.at_)):=by unfold Hid dN;rw [ht];dsimp only;rw [if_pos hl]
   clear h ht hl
   go_wp2_with (go_at_call 55;(refine (dH _ 7 t.at_ w2).mono ?_);rintro e w3 ⟨rfl,rfl⟩)
   refine ⟨rfl,K2.out,?_⟩
   rw [fin.out]
   exact rfl
  ·have d1:decide ((16:Int)<(t.text.size:Int))=false:=au (by omega)
   have d2:decide (16<t.text.size)=false:=au hl
   have fin:Hid (dN en l=.ok (t.text,r)):=by unfold Hid dN;rw [ht];dsimp only;rw [if_neg hl]
   clear h ht hl
   go_wp2_with fail
   go_ret
   refine ⟨K2.out,?_⟩
   rw [fin.out]
   exact ⟨rfl,R2.out⟩
def vK (N T en:Nat) (l:List aC) (d:Nat) (w:World) (e:Ending) (w':World):Prop :=
 Kept (· = N) w w'∧match dR en l with
  | .ok (x,r)=>e=.returned (.string x)∧bZ N T en r d w'
  | .error er=>jq er e
theorem oD {N T en d:Nat} {l:List aC} {w:World} (h:bZ N T en l d w):Calls Tryz.prog 92 #[.pointer (some ⟨N,0,none⟩)] w (vK N T en l d w):=by
 have HA:=ah (jf ⟨#[40]⟩ h)
 unfold qY at HA
 have e40:(⟨#[40]⟩:aj)=bs [40]:=rfl
 have e41:(⟨#[41]⟩:aj)=bs [41]:=rfl
 rw [e40] at HA
 cases h1:dX (bs [40]) en l with
 | error er =>
  rw [h1] at HA
  have fin:Hid (dR en l=.error er):=by unfold Hid dR;rw [h1]
  clear h h1 e41
  rw [←e40] at HA
  clear e40
  go_enter Tryz.func92, Tryz.ntmps92
  go_wp2_with (go_at_call 88;(with_reducible refine HA.out.mono ?_);rintro e w1 ⟨bG,rfl⟩;have K1:=ah bG;clear bG)
  refine ⟨rfl,K1.out,?_⟩
  rw [fin.out]
  exact rfl
 | ok r1 =>
  rw [h1] at HA
  dsimp only at HA
  rw [←e40] at HA
  have HB:Hid (∀wy,bZ N T en r1 d wy→Calls Tryz.prog 50 #[.pointer (some ⟨N,0,none⟩)] wy (uJ N T en r1 d wy)):=fun wy hy=>fD hy
  unfold uJ at HB
  cases h2:dN en r1 with
  | error er =>
   rw [h2] at HB
   have fin:Hid (dR en l=.error er):=by unfold Hid dR;rw [h1];dsimp only;rw [h2]
   clear h h1 h2 e40 e41
   go_enter Tryz.func92, Tryz.ntmps92
   go_wp2_with (first
    | (go_at_call 88;(with_reducible refine HA.out.mono ?_);rintro e w1 ⟨bG,rfl,dV⟩;have K1:=ah bG;have R1:=ah dV;clear bG dV)
    | (go_at_call 50;(refine (HB.out w1 R1.out).mono ?_);rintro e w2 ⟨bU,rfl⟩;have K2:=ah bU;clear bU))
   refine ⟨rfl,K1.out.trans K2.out,?_⟩
   rw [fin.out]
   exact rfl
  | ok x =>
   obtain ⟨nm,r2⟩:=x
   rw [h2] at HB
   dsimp only at HB
   have HC:Hid (∀wy,bZ N T en r2 d wy→Calls Tryz.prog 88 #[.pointer (some ⟨N,0,none⟩),.string ⟨#[41]⟩] wy (qY ⟨#[41]⟩ N T en r2 d wy)):=fun wy hy=>jf _ hy
   unfold qY at HC
   rw [e41] at HC
   cases h3:dX (bs [41]) en r2 with
   | error er =>
    rw [h3] at HC
    have fin:Hid (dR en l=.error er):=by unfold Hid dR;rw [h1];dsimp only;rw [h2];dsimp only;rw [h3]
    rw [←e41] at HC
    clear h h1 h2 h3 e40 e41
    go_enter Tryz.func92, Tryz.ntmps92
    go_wp2_with (first
     | (go_at_call 88;(with_reducible refine HA.out.mono ?_);rintro e w1 ⟨bG,rfl,dV⟩;have K1:=ah bG;have R1:=ah dV;clear bG dV)
     | (go_at_call 50;(refine (HB.out w1 R1.out).mono ?_);rintro e w2 ⟨bU,rfl,iI⟩;have K2:=ah bU;have R2:=ah iI;clear bU iI)
     | (go_at_call 88;(with_reducible refine (HC.out w2 R2.out).mono ?_);rintro e w3 ⟨bF,rfl⟩;have K3:=ah bF;clear bF))
    refine ⟨rfl,(K1.out.trans K2.out).trans K3.out,?_⟩
    rw [fin.out]
    exact rfl
   | ok r3 =>
    rw [h3] at HC
    dsimp only at HC
    have fin:Hid (dR en l=.ok (nm,r3)):=by unfold Hid dR;rw [h1];dsimp only;rw [h2];dsimp only;rw [h3]
    rw [←e41] at HC
    clear h h1 h2 h3 e40 e41
    go_enter Tryz.func92, Tryz.ntmps92
    go_wp2_with (first
     | (go_at_call 88;(with_reducible refine HA.out.mono ?_);rintro e w1 ⟨bG,rfl,dV⟩;have K1:=ah bG;have R1:=ah dV;clear bG dV)
     | (go_at_call 50;(refine (HB.out w1 R1.out).mono ?_);rintro e w2 ⟨bU,rfl,iI⟩;have K2:=ah bU;have R2:=ah iI;clear bU iI)
     | (go_at_call 88;(with_reducible refine (HC.out w2 R2.out).mono ?_);rintro e w3 ⟨bF,rfl,iO⟩;have K3:=ah bF;have R3:=ah iO;clear bF iO))
    go_ret
    refine ⟨(K1.out.trans K2.out).trans K3.out,?_⟩
    rw [fin.out]
    exact ⟨rfl,R3.out⟩
end Go.Proofs.YtgoijmpahffnhaaGreatDoor

namespace Go.Proofs.YtgoijmpahffnhaaGreatDoor
set_option linter.all false
open Go.RowKit
set_option maxRecDepth 100000
set_option maxHeartbeats 4000000
def BZ (N T en:Nat) (l:List aC) (d:Nat) (w:World) (e:Ending) (w':World):Prop :=
 Kept (· = N) w w'∧match qR en l with
  | .ok (p,r)=>(∃v,e=.returned v∧aaB w.heap.size p w' v)∧bZ N T en r d w'
  | .error er=>jq er e
theorem Es {N T en d:Nat} {l:List aC} {w:World} (h:bZ N T en l d w):Calls Tryz.prog 89 #[.pointer (some ⟨N,0,none⟩)] w (BZ N T en l d w):=by
 obtain ⟨hN,hT,hne,h7⟩:=h.jo
 have hb:oW l:=by obtain ⟨_,_,_,h⟩:=h;exact h.good
 obtain ⟨w0,hw0⟩:∃w0,w0=w.alloc (.cells #[.int .i64 0,.string ⟨#[]⟩,.int .i64 0,.string ⟨#[]⟩,.slice none 0 0] 57):=⟨_,rfl⟩
 have k0:Kept aA w w0:=by rw [hw0];exact (Kept.refl _ _).alloc _
 have Z0:Hid (Five w.heap.size (.int .i64 0) (.string ⟨#[]⟩) (.int .i64 0) (.string ⟨#[]⟩) (.slice none 0 0) w0):=by rw [hw0];exact ay w _
 have P0:=h.kept k0 (fun h=>h) (fun h=>h)
 have HT:=ah (tC 4 P0)
 unfold uH at HT
 have K0:=ah k0;have HW0:=ah hw0
 clear k0 hw0 P0 h
 cases ht:eF 4 en l with
 | error er =>
  rw [ht] at HT
  have fin:Hid (qR en l=.error er):=by unfold Hid qR;rw [ht]
  clear ht hb
  go_enter Tryz.func89, Tryz.ntmps89
  go_upto_region 1 with fail
  rw [←HW0.out]
  go_wp2_with (go_at_call 86;(refine HT.out.mono ?_);rintro e w1 ⟨bG,rfl⟩;have K1:=ah bG;clear bG)
  refine ⟨rfl,(K0.out.more (fun _ h=>h.elim)).trans K1.out,?_⟩
  rw [fin.out]
  exact rfl
 | ok x =>
  exfalso
  cases l with
  | nil=>cases ht
  | cons u v =>
   simp only [eF] at ht
   split at ht
   ·next hk=>exact (hb u (List.mem_cons_self ..)).2.2.1 hk
   ·cases ht
end Go.Proofs.YtgoijmpahffnhaaGreatDoor

namespace Go.Proofs.YtgoijmpahffnhaaGreatDoor
set_option linter.all false
open Go.RowKit Go.Maps Go.WideMaps
set_option maxRecDepth 100000
set_option maxHeartbeats 4000000
theorem eH.o8 {w:World} {B n:Nat} {m:aj→Option Int} (h:eH w B n m) (s:aj) (hs:s.size≤maxLen) :
  (Instr.lookup 275 (.map (some B)) (.string s) false).run Tryz.prog w=.ok (.int .i64 ((m s).getD 0)) w:=by
 obtain ⟨D,hown,hmap,hD⟩:=h
 obtain ⟨c,hrun,hat,_⟩:=hown.lookup_int qU Tryz.underlying275 Tryz.underlying3 (Jv w) (keyOf_string_mk Tryz.underlying9 hs)
 obtain ⟨h1,h2⟩:=hD s
 rw [h2] at hat
 rw [hrun]
 cases hms:m s with
 | none=>rw [hms] at hat;simp only [DataW.lit.injEq,Lit.int.injEq,true_and] at hat;subst hat;rfl
 | some d=>rw [hms] at hat;simp only [DataW.lit.injEq,Lit.int.injEq,true_and] at hat;subst hat;rfl
theorem eH.aek {w:World} {B n:Nat} {m:aj→Option Int} (h:eH w B n m) (hn:n<maxLen) (s:aj) (hs:s.size≤maxLen) (c:Int) (hc:(Lit.int .i64 c).wf=true) :
  ∃w',(Instr.mapUpdate 275 (.map (some B)) (.string s) (.int .i64 c)).run Tryz.prog w=.ok () w'∧eH w' B (n+1) (lg m s c)∧Kept (· = B) w w':=by
 obtain ⟨D,hown,hmap,hD⟩:=h
 obtain ⟨w',hrun,hown',hgr⟩:=hown.update qU Tryz.underlying275 hn (val:=.int .i64 c) (d:=.lit (.int .i64 c)) (ps:=[]) (keyOf_string_mk Tryz.underlying9 hs) (plainElem_int Tryz.underlying3 hc)
 refine ⟨w',hrun,⟨_,hown',?_,fun t=>?_⟩,(Kept.refl (· = B) w).grown hgr fun k hk=>.inl (by cases hk;rfl)⟩
 ·obtain ⟨es,rfl⟩:=hmap;exact ⟨_,rfl⟩
 ·have hkl:WideAt.IsKeyLit (Lit.string s.data.toList):=by first|exact .string _|trivial|(simp [WideAt.IsKeyLit])
  unfold lg
  by_cases ht:t=s
  ·subst ht
   rw [if_pos rfl]
   exact ⟨has_put_same hmap hkl _,fun z=>atKey_put_same hmap hkl _ z⟩
  ·rw [if_neg ht]
   exact ⟨(has_put_other (mG ht) _).trans (hD t).1,fun z=>(atKey_put_other (mG ht) _ z).trans ((hD t).2 z)⟩
theorem qC {w:World} {ops:Array Oper} {rest:List Oper} {o:Oper} {a:Act} {Q:Exit→Act→World→Prop} (hg:o.guard=none) (p x y:Operand) (hop:o.op=Op.insert 275 p x y)
  {B n:Nat} {m:aj→Option Int} (hm:a.eval p=.map (some B)) (h:eH w B n m) (hn:n<maxLen) (s:aj) (hx:a.eval x=.string s) (hs:s.size≤maxLen) (c:Int) (hy:a.eval y=.int .i64 c) (hc:(Lit.int .i64 c).wf=true)
  (hK:∀w',eH w' B (n+1) (lg m s c)→Kept (· = B) w w'→wpList Tryz.prog ops Q rest (a.put o.dst undef) w'):wpList Tryz.prog ops Q (o::rest) a w:=by
 obtain ⟨w',hrun,hv,hk⟩:=h.aek hn s hs c hc
 refine wpList_plain hg fun K' hK'=>?_
 unfold Oper.wp
 simp [execOp,hop,hm,hx,hy,hrun,Result.andThen]
 exact hK' _ _ (hK w' hv hk)
def CV (sG:Nat) (s:aj):Option Int:=if Di sG s=0 then none else some (Di sG s)
theorem ael (sG:Nat) (s:aj):(CV sG s).getD 0=Di sG s:=by
 unfold CV;split
 ·rename_i h;rw [h];rfl
 ·rfl
theorem ajl:lg (fun _=>none) ⟨#[38]⟩ 8=CV 1:=by
 funext s
 have e:bs [38]=⟨#[38]⟩:=rfl
 unfold lg CV Di
 rw [e]
 by_cases h:s=⟨#[38]⟩<;>simp [h]
theorem ajm:lg (lg (fun _=>none) ⟨#[43]⟩ 9) ⟨#[45]⟩ 10=CV 2:=by
 funext s
 have e1:bs [43]=⟨#[43]⟩:=rfl
 have e2:bs [45]=⟨#[45]⟩:=rfl
 have n12:¬(⟨#[45]⟩:aj)=⟨#[43]⟩:=by decide
 unfold lg CV Di
 rw [e1,e2]
 by_cases h:s=⟨#[43]⟩
 ·subst h;simp
 ·by_cases h2:s=⟨#[45]⟩<;>simp [h,h2]
theorem ajn:lg (lg (lg (fun _=>none) ⟨#[42]⟩ 11) ⟨#[47]⟩ 12) ⟨#[37]⟩ 13=CV 3:=by
 funext s
 have e1:bs [42]=⟨#[42]⟩:=rfl
 have e2:bs [47]=⟨#[47]⟩:=rfl
 have e3:bs [37]=⟨#[37]⟩:=rfl
 unfold lg CV Di
 rw [e1,e2,e3]
 by_cases h:s=⟨#[42]⟩
 ·subst h;simp
 ·by_cases h2:s=⟨#[47]⟩
  ·subst h2;simp
  ·by_cases h3:s=⟨#[37]⟩<;>simp [h,h2,h3]
structure xF (lo B:Nat) (w:World):Prop where
 low:lo≤B
 maps:∃m1 m2 m3 n1 n2 n3,lo≤m1∧lo≤m2∧lo≤m3∧w.heap[B]?=some (.cells #[.map (some m1),.map (some m2),.map (some m3)] 275 (0,0))∧eH w m1 n1 (CV 1)∧eH w m2 n2 (CV 2)∧eH w m3 n3 (CV 3)
theorem xF.kept {lo B:Nat} {w w':World} {X:Nat→Prop} (h:xF lo B w) (hk:Kept X w w') (hx:∀b,X b→b<lo):xF lo B w':=by
 obtain ⟨h0,m1,m2,m3,n1,n2,n3,l1,l2,l3,hb,a1,a2,a3⟩:=h
 have hB:B<w.heap.size:=(Array.getElem?_eq_some_iff.1 hb).1
 exact ⟨h0,m1,m2,m3,n1,n2,n3,l1,l2,l3,by rw [hk.block B hB (fun h=>by have:=hx _ h;omega)];exact hb,a1.kept hk (fun h=>by have:=hx _ h;omega),a2.kept hk (fun h=>by have:=hx _ h;omega),a3.kept hk (fun h=>by have:=hx _ h;omega)⟩
theorem xF.lt {lo B:Nat} {w:World} (h:xF lo B w):B<w.heap.size:=by
 obtain ⟨h0,m1,m2,m3,n1,n2,n3,l1,l2,l3,hb,_⟩:=h
 exact (Array.getElem?_eq_some_iff.1 hb).1
def ajo (w:World) (e:Ending) (w':World):Prop:=∃B,e=.returned (.slice (some ⟨B,0,none⟩) 3 3)∧xF w.heap.size B w'∧Kept aA w w'
theorem Hg (w:World):Calls Tryz.prog 130 #[] w (ajo w):=by
 have hmk:=fun (wx:World)=>run_makeMap (P:=Tryz.prog) 275 wx
 have M1:=ah (eH.made w)
 have K1:Hid (Kept aA w (w.alloc (.map #[] 0))):=(Kept.refl _ _).alloc _
 go_enter Tryz.func130, Tryz.ntmps130
 go_wp2_with (first
  | (refine qC rfl _ _ _ rfl rfl M1.out (by decide) ⟨#[38]⟩ rfl (by decide) 8 rfl (by decide) ?_;intro w2 m_ k_;have M2:=ah m_;have K2:Hid (Kept aA w w2):=K1.out.step k_ (fun y hy=>.inr (Nat.le_of_eq hy.symm));have N2:=ah (eH.made w2);have M2':=ah (M2.out.kept ((Kept.refl aA w2).alloc (.map #[] 0)) (fun h=>h));have K2':Hid (Kept aA w (w2.alloc (.map #[] 0))):=K2.out.alloc _;have H2:Hid (w.heap.size<w2.heap.size):=M2.out.lt;clear m_ k_)
  | (refine qC rfl _ _ _ rfl rfl N2.out (by decide) ⟨#[43]⟩ rfl (by decide) 9 rfl (by decide) ?_;intro w3 m_ k_;have N3:=ah m_;have M3:=ah (M2'.out.kept k_ (by have:=H2.out;omega));have K3:Hid (Kept aA w w3):=K2'.out.step k_ (fun y hy=>.inr (by have:=H2.out;omega));clear m_ k_)
  | (refine qC rfl _ _ _ rfl rfl N3.out (by decide) ⟨#[45]⟩ rfl (by decide) 10 rfl (by decide) ?_;intro w4 m_ k_;have N4:=ah m_;have M4:=ah (M3.out.kept k_ (by have:=H2.out;omega));have K4:Hid (Kept aA w w4):=K3.out.step k_ (fun y hy=>.inr (by have:=H2.out;omega));have O4:=ah (eH.made w4);have M4':=ah (M4.out.kept ((Kept.refl aA w4).alloc (.map #[] 0)) (fun h=>h));have N4':=ah (N4.out.kept ((Kept.refl aA w4).alloc (.map #[] 0)) (fun h=>h));have K4':Hid (Kept aA w (w4.alloc (.map #[] 0))):=K4.out.alloc _;have H4:Hid (w2.heap.size<w4.heap.size):=N4.out.lt;clear m_ k_)
  | (refine qC rfl _ _ _ rfl rfl O4.out (by decide) ⟨#[42]⟩ rfl (by decide) 11 rfl (by decide) ?_;intro w5 m_ k_;have O5:=ah m_;have M5:=ah (M4'.out.kept k_ (by have:=H2.out;have:=H4.out;omega));have N5:=ah (N4'.out.kept k_ (by have:=H4.out;omega));have K5:Hid (Kept aA w w5):=K4'.out.step k_ (fun y hy=>.inr (by have:=H2.out;have:=H4.out;omega));clear m_ k_)
  | (refine qC rfl _ _ _ rfl rfl O5.out (by decide) ⟨#[47]⟩ rfl (by decide) 12 rfl (by decide) ?_;intro w6 m_ k_;have O6:=ah m_;have M6:=ah (M5.out.kept k_ (by have:=H2.out;have:=H4.out;omega));have N6:=ah (N5.out.kept k_ (by have:=H4.out;omega));have K6:Hid (Kept aA w w6):=K5.out.step k_ (fun y hy=>.inr (by have:=H2.out;have:=H4.out;omega));clear m_ k_)
  | (refine qC rfl _ _ _ rfl rfl O6.out (by decide) ⟨#[37]⟩ rfl (by decide) 13 rfl (by decide) ?_;intro w7 m_ k_;have O7:=ah m_;have M7:=ah (M6.out.kept k_ (by have:=H2.out;have:=H4.out;omega));have N7:=ah (N6.out.kept k_ (by have:=H4.out;omega));have K7:Hid (Kept aA w w7):=K6.out.step k_ (fun y hy=>.inr (by have:=H2.out;have:=H4.out;omega));clear m_ k_))
 go_ret
 have k8:Kept aA w7 (w7.alloc (.cells #[.map (some w.heap.size),.map (some w2.heap.size),.map (some w4.heap.size)] 275)):=(Kept.refl _ _).alloc _
 have M8:=M7.out.kept k8 (fun h=>h)
 have N8:=N7.out.kept k8 (fun h=>h)
 have O8:=O7.out.kept k8 (fun h=>h)
 rw [ajl] at M8
 rw [ajm] at N8
 rw [ajn] at O8
 have h2:=H2.out;have h4:=H4.out
 exact ⟨w7.heap.size,rfl,⟨K7.out.size,_,_,_,_,_,_,Nat.le_refl _,by omega,by omega,ay w7 _,M8,N8,O8⟩,K7.out.trans k8⟩
end Go.Proofs.YtgoijmpahffnhaaGreatDoor

namespace Go.Proofs.YtgoijmpahffnhaaGreatDoor
set_option linter.all false
open Go.RowKit
def dS (M:Nat) (c0 c1 c2 c3 c4:Value) (w:World):Prop:=w.heap[M]?=some (.cells #[c0,c1,c2,c3,c4] 54 (0,0))
theorem dS.lt {M:Nat} {c0 c1 c2 c3 c4:Value} {w:World} (h:dS M c0 c1 c2 c3 c4 w):M<w.heap.size:=(Array.getElem?_eq_some_iff.1 h).1
theorem dS.kept {M:Nat} {c0 c1 c2 c3 c4:Value} {w w':World} {X:Nat→Prop} (h:dS M c0 c1 c2 c3 c4 w) (hk:Kept X w w') (hx:¬X M):dS M c0 c1 c2 c3 c4 w':=by
 unfold dS;rw [hk.block M h.lt hx];exact h
theorem dS.cells {M:Nat} {c0 c1 c2 c3 c4:Value} {w:World} (h:dS M c0 c1 c2 c3 c4 w):w.cell? ⟨M,0,none⟩=some c0∧w.cell? ⟨M,1,none⟩=some c1∧w.cell? ⟨M,2,none⟩=some c2∧w.cell? ⟨M,3,none⟩=some c3∧w.cell? ⟨M,4,none⟩=some c4∧∀o,w.frozen? ⟨M,o,none⟩=false:=by
 unfold dS at h
 refine ⟨?_,?_,?_,?_,?_,fun o=>by simp [World.frozen?,h]⟩<;>(rw [cell_of_row w M _ _ _ _ h];rfl)
theorem dS.fP {M:Nat} {z0 z1 z2 z3 z4:Value} {w:World} (h:dS M z0 z1 z2 z3 z4 w) (c0 c1 c2 c3 c4:Value):dS M c0 c1 c2 c3 c4 (fP w M c0 c1 c2 c3 c4):=by
 unfold dS at h⊢
 unfold Go.Proofs.YtgoijmpahffnhaaGreatDoor.fP
 rw [aT (aT (aT (aT (aT h _) _) _) _) _];rfl
theorem iD (n:Nat) {f:Func} (hres:f.results = #[.cell n 54]) {tmps:Array Value} {M:Nat} (ht:tmps.getD n undef=.pointer (some ⟨M,0,none⟩)) {c0 c1 c2 c3 c4:Value} {w2:World} {Q:Ending→World→Prop} (h:dS M c0 c1 c2 c3 c4 w2)
  (hq:Q (.returned (.agg #[c0,c1,c2,c3,c4])) w2):bodyPost Tryz.prog f Q .ret ⟨tmps,[]⟩ w2:=by
 obtain ⟨h0,h1,h2,h3,h4,_⟩:=h.cells
 have ht':tmps[n]?.getD undef=.pointer (some ⟨M,0,none⟩):=by rw [←ht,Array.getD_eq_getD_getElem?]
 exact bodyPost_ret (v:=.agg #[c0,c1,c2,c3,c4]) (by simp [results,hres,go_sem,ht',h0,h1,h2,h3,h4]) rfl hq
def XQ (N T en d:Nat) (r:bf aB) (w:World) (e:Ending) (w':World):Prop :=
 Kept (· = N) w w'∧match r with
  | .ok (p,l)=>(∃v,e=.returned v∧aaB w.heap.size p w' v)∧bZ N T en l d w'
  | .error er=>jq er e
theorem XQ.ok {N T en d:Nat} {r:bf aB} {w:World} {e:Ending} {w':World} {p:aB} {l:List aC} (h:XQ N T en d r w e w') (hr:r=.ok (p,l)) :
  Kept (· = N) w w'∧bZ N T en l d w'∧∃S ka cap,e=.returned (.agg #[.int .i64 p.kind,.string p.text,.int .i64 p.n,.string p.name,.slice ka p.kids.length cap])∧(∀b,S b→w.heap.size≤b∧b<w'.heap.size)∧(p.text.size<1000000000∧p.name.size<1000000000∧p.kids.length<1000000000)∧aN w' S ka p.kids:=by
 subst hr
 obtain ⟨k,⟨v,rfl,S,hS,ka,cap,rfl,hz,hk⟩,hp⟩:=h
 exact ⟨k,hp,S,ka,cap,rfl,hS,hz,hk⟩
theorem XQ.bad {N T en d:Nat} {r:bf aB} {w:World} {e:Ending} {w':World} {er:Er} (h:XQ N T en d r w e w') (hr:r=.error er):Kept (· = N) w w'∧jq er e:=by
 subst hr;exact h
def Ky (N T en d:Nat) (f:List aC→bf aB):Prop:=∀(l:List aC) (w:World),bZ N T en l d w→Calls Tryz.prog 193 #[.pointer (some ⟨N,0,none⟩)] w (XQ N T en d (f l) w)
def Ku (N T en d:Nat) (f:List aC→bf aB):Prop:=∀(l:List aC) (w:World),bZ N T en l d w→Calls Tryz.prog 235 #[.pointer (some ⟨N,0,none⟩)] w (XQ N T en d (f l) w)
def GI (N T en d:Nat) (f:List aC→bf aB):Prop:=∀(l:List aC) (w:World),bZ N T en l d w→Calls Tryz.prog 90 #[.pointer (some ⟨N,0,none⟩)] w (XQ N T en d (f l) w)
theorem tu.mZ {N T en n c d:Nat} {a:Option Addr} {l:List aC} {w:World} (h:tu N T en n a c l d w) (k:Nat):tu N T en n a c l k (w.setCell ⟨N,2,none⟩ (.int .i64 k)):=by
 have hk:Kept (· = N) w (w.setCell ⟨N,2,none⟩ (.int .i64 k)):=(Kept.refl (· = N) w).setCell (p:=⟨N,2,none⟩) (.inl rfl) _
 exact ⟨by rw [aT h.blk];rfl,h.num,h.cap,fun hl=>by obtain ⟨o,e,hc⟩:=h.toks hl;exact ⟨o,e,fun j u hu=>(hk.cell h.lt (fun e=>h.ne e.symm)).trans (hc j u hu)⟩,h.ne,Nat.lt_of_lt_of_le h.lt hk.size,h.small,h.good,h.old,by obtain ⟨ev,h1,h2⟩:=h.rng;exact ⟨ev,(hk.cell (Nat.lt_trans h.old h.jo) (Nat.ne_of_lt h.old)).trans h1,h2⟩⟩
theorem bZ.mZ {N T en d:Nat} {l:List aC} {w:World} (h:bZ N T en l d w) (k:Nat):bZ N T en l k (w.setCell ⟨N,2,none⟩ (.int .i64 k)):=by
 obtain ⟨n,a,c,h⟩:=h;exact ⟨n,a,c,h.mZ k⟩
theorem bZ.deep {N T en d:Nat} {l:List aC} {w:World} (h:bZ N T en l d w):w.cell? ⟨N,2,none⟩=some (.int .i64 d)∧w.frozen? ⟨N,2,none⟩=false:=by
 obtain ⟨n,a,c,h⟩:=h;exact ⟨h.c0.2.2.1,h.c0.2.2.2 2⟩
end Go.Proofs.YtgoijmpahffnhaaGreatDoor

namespace Go.Proofs.YtgoijmpahffnhaaGreatDoor
set_option linter.all false
open Go.RowKit
set_option maxRecDepth 100000
set_option maxHeartbeats 4000000
theorem Xh {g:Nat} {q:aB} {ka:Option Addr} {cap:Nat} {w:World} {S:Nat→Prop} (F:dS g (.int .i64 q.kind) (.string q.text) (.int .i64 q.n) (.string q.name) (.slice ka q.kids.length cap) w) (hz:q.text.size<1000000000∧q.name.size<1000000000∧q.kids.length<1000000000) (hk:aN w S ka q.kids) (hS:∀b,S b→b<w.heap.size) :
  aN w (fun b=>S b∨b=g) (some ⟨g,0,none⟩) [q]:=by
 obtain ⟨c0,c1,c2,c3,c4,_⟩:=F.cells
 obtain ⟨k,t,n,nm,kids⟩:=q
 have hk':aN w (fun b=>S b∨b=g) ka kids:=aN.to hk (Kept.refl aA w) (fun b hb=>⟨hS b hb,fun h=>h⟩) (fun _ h=>.inl h)
 have hp:aX w (fun b=>S b∨b=g) g 0 (.mk k t n nm kids):=by
  unfold aX
  exact ⟨.inr rfl,hz,c0,c1,c2,c3,ka,cap,c4,hk'⟩
 unfold aN
 exact ⟨g,0,rfl,hp,by unfold aN;trivial⟩
theorem aam {N T en d:Nat} {un pr:List aC→bf aB} (HP:Ku N T en d pr) {l:List aC} {w:World} (h:bZ N T en l d w) (hs:aG (bs [45]) l=false):Calls Tryz.prog 193 #[.pointer (some ⟨N,0,none⟩)] w (XQ N T en d (zy un pr l) w):=by
 obtain ⟨hN,hT,hne,h7⟩:=h.jo
 obtain ⟨w0,hw0⟩:∃w0,w0=w.alloc (.cells #[.int .i64 0,.string ⟨#[]⟩,.int .i64 0,.string ⟨#[]⟩,.slice none 0 0] 54):=⟨_,rfl⟩
 have k0:Kept aA w w0:=by rw [hw0];exact (Kept.refl _ _).alloc _
 obtain ⟨M2,hM2⟩:∃M,M=w.heap.size:=⟨_,rfl⟩
 have Z0:Hid (dS M2 (.int .i64 0) (.string ⟨#[]⟩) (.int .i64 0) (.string ⟨#[]⟩) (.slice none 0 0) w0):=by rw [hw0,hM2];exact ay w _
 have HI:=ah (xU (bs [45]) (h.kept k0 (fun h=>h) (fun h=>h)))
 unfold BR at HI
 rw [hs] at HI
 have er:zy un pr l=pr l:=by unfold zy;rw [hs];rfl
 rw [er]
 have K0:=ah k0;have HW0:=ah hw0;have bD:=ah hM2;have HPR:=ah HP
 clear k0 hw0 hM2 HP h hs er
 cases hp:pr l with
 | error er =>
  go_enter Tryz.func193, Tryz.ntmps193
  go_upto_region 1 with fail
  rw [←HW0.out,←bD.out]
  go_wp2_with (first
   | (go_at_call 53;(refine HI.out.mono ?_);rintro e w1 ⟨rfl,dV,bG⟩;have R1:=ah dV;have K1:=ah bG;clear dV bG)
   | (go_at_call 235;(refine (HPR.out l w1 R1.out).mono ?_);intro e w2 MJ;obtain ⟨bU,rfl⟩:=MJ.bad hp;have K2:=ah bU;clear bU MJ))
  exact ⟨rfl,((K0.out.more (fun _ h=>h.elim)).trans K1.out).trans K2.out,rfl⟩
 | ok x =>
  obtain ⟨p,r⟩:=x
  go_enter Tryz.func193, Tryz.ntmps193
  go_upto_region 1 with fail
  rw [←HW0.out,←bD.out]
  go_wp2_with (first
   | (go_at_call 53;(refine HI.out.mono ?_);rintro e w1 ⟨rfl,dV,bG⟩;have R1:=ah dV;have K1:=ah bG;have Z1:=ah (Z0.out.kept bG (by have:=bD.out;omega));clear dV bG)
   | (go_at_call 235;(refine (HPR.out l w1 R1.out).mono ?_);intro e w2 MJ;obtain ⟨bU,iI,S,ka,cap,rfl,iP,iQ,fZ⟩:=MJ.ok hp;have K2:=ah bU;have R2:=ah iI;have HS:=ah iP;have HZ:=ah iQ;have HK:=ah fZ;have Z2:=ah (Z1.out.kept bU (by have:=bD.out;omega));obtain ⟨z0,z1,z2,z3,z4,zf⟩:=Z2.out.cells;have xA:=zf 0;have xB:=zf 1;have xC:=zf 2;have yB:=zf 3;have yC:=zf 4;clear zf bU iI iP iQ fZ MJ))
  refine iD 2 rfl rfl (Z2.out.fP _ _ _ _ _) ?_
  have k6:Kept (· = M2) w2 (fP w2 M2 (.int .i64 p.kind) (.string p.text) (.int .i64 p.n) (.string p.name) (.slice ka p.kids.length cap)):=(Kept.refl (· = M2) w2).fP (.inl rfl) _ _ _ _ _
  have K5:Kept (· = N) w w2:=((K0.out.more (fun _ h=>h.elim)).trans K1.out).trans K2.out
  have hS:∀b,S b→w.heap.size≤b∧b<w2.heap.size∧b≠M2:=by
   intro b hb
   obtain ⟨x1,x2⟩:=HS.out b hb
   have:=K0.out.size;have:=K1.out.size;have:=Z1.out.lt;have:=bD.out
   omega
  exact ⟨K5.step k6 (fun y hy=>.inr (by have:=bD.out;omega)),⟨_,rfl,S,fun b hb=>⟨(hS b hb).1,Nat.lt_of_lt_of_le (hS b hb).2.1 k6.size⟩,ka,cap,rfl,HZ.out,HK.out.kept k6 (fun b hb=>⟨(hS b hb).2.1,(hS b hb).2.2⟩)⟩,R2.out.kept k6 (by have:=bD.out;omega) (by have:=bD.out;omega) (by have:=bD.out;omega)⟩
end Go.Proofs.YtgoijmpahffnhaaGreatDoor

namespace Go.Proofs.YtgoijmpahffnhaaGreatDoor
set_option linter.all false
open Go.RowKit
set_option maxRecDepth 100000
set_option maxHeartbeats 8000000
theorem ail (q:aB):(E0.size<1000000000)∧(E0.size<1000000000)∧([q]:List aB).length<1000000000:=⟨by decide,by decide,by simp⟩
theorem ac8 {N T en:Nat} {pr:List aC→bf aB} {l:List aC} {w:World} (h:bZ N T en l 400 w) (hs:aG (bs [45]) l=true):Calls Tryz.prog 193 #[.pointer (some ⟨N,0,none⟩)] w (XQ N T en 400 (zy (fun l=>.error (4,dK en l)) pr l) w):=by
 obtain ⟨d,hd⟩:∃d:Nat,d=400:=⟨_,rfl⟩
 rw [←hd] at h⊢
 have er:Hid (zy (fun l=>.error (4,dK en l)) pr l=.error (4,dK en l.tail)):=by unfold Hid zy;rw [hs];rfl
 obtain ⟨hN,hT,hne,h7⟩:=h.jo
 obtain ⟨w0,hw0⟩:∃w0,w0=w.alloc (.cells #[.int .i64 0,.string ⟨#[]⟩,.int .i64 0,.string ⟨#[]⟩,.slice none 0 0] 54):=⟨_,rfl⟩
 have k0:Kept aA w w0:=by rw [hw0];exact (Kept.refl _ _).alloc _
 obtain ⟨M2,hM2⟩:∃M,M=w.heap.size:=⟨_,rfl⟩
 have Z0:Hid (dS M2 (.int .i64 0) (.string ⟨#[]⟩) (.int .i64 0) (.string ⟨#[]⟩) (.slice none 0 0) w0):=by rw [hw0,hM2];exact ay w _
 have HI:=ah (xU (bs [45]) (h.kept k0 (fun h=>h) (fun h=>h)))
 unfold BR at HI
 rw [hs] at HI
 simp only [if_true] at HI
 obtain ⟨lr,hlr⟩:∃lr,lr=l.tail:=⟨_,rfl⟩
 rw [←hlr] at HI
 have K0:=ah k0;have HW0:=ah hw0;have bD:=ah hM2
 obtain ⟨d1,hd1⟩:∃d1:Nat,d1=d+1:=⟨_,rfl⟩
 have hdi:(d:Int)+1=(d1:Int):=by omega
 clear k0 hw0 hM2 h
 rw [←hlr] at er
 have g1:decide ((400:Int)<(d1:Int))=true:=ak (by omega)
 have g2:decide (400<d1)=true:=ak (by omega)
 have hb:d1≤1000:=by omega
 have HD:=ah hd1
 clear hs hlr hd hd1
 go_enter Tryz.func193, Tryz.ntmps193
 go_upto_region 1 with fail
 rw [←HW0.out,←bD.out]
 go_upto_region 4 with (go_at_call 53;(refine HI.out.mono ?_);rintro e w1 ⟨rfl,dV,bG⟩;have R1:=ah dV;have K1:=ah bG;have Z1:=ah (Z0.out.kept bG (by have:=bD.out;omega));obtain ⟨q2,nM⟩:=dV.deep;clear dV bG)
 obtain ⟨w2,hw2⟩:∃w2,w2=w1.setCell ⟨N,2,none⟩ (.int .i64 (d1:Int)):=⟨_,rfl⟩
 have r2:=R1.out.mZ d1
 rw [←hw2] at r2⊢
 have k2:Kept (· = N) w1 w2:=by rw [hw2];exact (Kept.refl (· = N) w1).setCell (p:=⟨N,2,none⟩) (.inl rfl) _
 have K2:=ah k2
 clear hw2 k2 q2 nM
 obtain ⟨q2,nM⟩:=r2.deep
 obtain ⟨n2,a2,c2,r2⟩:=r2
 have HA:=ah (lJ r2)
 clear r2
 go_wp2_with (first
  | (go_at_call 56;(refine HA.out.mono ?_);rintro e w' ⟨rfl,aI⟩;obtain rfl:=aI.symm)
  | (go_at_call 55;(refine (dH _ 4 (dK en lr) w2).mono ?_);rintro e w3 ⟨rfl,rfl⟩))
 refine ⟨rfl,((K0.out.more (fun _ h=>h.elim)).trans K1.out).trans K2.out,?_⟩
 rw [er.out]
 exact rfl
theorem ac9 {N T en d:Nat} {un pr:List aC→bf aB} (hd:d<400) (HU:Ky N T en (d+1) un) {l:List aC} {w:World} (h:bZ N T en l d w) (hs:aG (bs [45]) l=true):Calls Tryz.prog 193 #[.pointer (some ⟨N,0,none⟩)] w (XQ N T en d (zy un pr l) w):=by
 have er:Hid (zy un pr l=match un l.tail with | .error er=>.error er | .ok (x,r)=>.ok (node1 7 x,r)):=by unfold Hid zy;rw [hs];rfl
 obtain ⟨hN,hT,hne,h7⟩:=h.jo
 obtain ⟨w0,hw0⟩:∃w0,w0=w.alloc (.cells #[.int .i64 0,.string ⟨#[]⟩,.int .i64 0,.string ⟨#[]⟩,.slice none 0 0] 54):=⟨_,rfl⟩
 have k0:Kept aA w w0:=by rw [hw0];exact (Kept.refl _ _).alloc _
 obtain ⟨M2,hM2⟩:∃M,M=w.heap.size:=⟨_,rfl⟩
 have Z0:Hid (dS M2 (.int .i64 0) (.string ⟨#[]⟩) (.int .i64 0) (.string ⟨#[]⟩) (.slice none 0 0) w0):=by rw [hw0,hM2];exact ay w _
 have HI:=ah (xU (bs [45]) (h.kept k0 (fun h=>h) (fun h=>h)))
 unfold BR at HI
 rw [hs] at HI
 simp only [if_true] at HI
 obtain ⟨lr,hlr⟩:∃lr,lr=l.tail:=⟨_,rfl⟩
 rw [←hlr] at HI
 have K0:=ah k0;have HW0:=ah hw0;have bD:=ah hM2
 obtain ⟨d1,hd1⟩:∃d1:Nat,d1=d+1:=⟨_,rfl⟩
 have hdi:(d:Int)+1=(d1:Int):=by omega
 clear k0 hw0 hM2 h
 rw [←hlr] at er
 rw [←hd1] at HU
 have g1:decide ((400:Int)<(d1:Int))=false:=au (by omega)
 have g2:decide (400<d1)=false:=au (by omega)
 have hb:d1≤1000:=by omega
 have hb1:1≤d1:=by omega
 have hdj:(d1:Int)-1=(d:Int):=by omega
 have HUN:=ah HU
 clear hs hlr hd1 HU
 go_enter Tryz.func193, Tryz.ntmps193
 go_upto_region 1 with fail
 rw [←HW0.out,←bD.out]
 go_upto_region 4 with (go_at_call 53;(refine HI.out.mono ?_);rintro e w1 ⟨rfl,dV,bG⟩;have R1:=ah dV;have K1:=ah bG;have Z1:=ah (Z0.out.kept bG (by have:=bD.out;omega));obtain ⟨q2,nM⟩:=dV.deep;clear dV bG)
 obtain ⟨w2,hw2⟩:∃w2,w2=w1.setCell ⟨N,2,none⟩ (.int .i64 (d1:Int)):=⟨_,rfl⟩
 have r2:=R1.out.mZ d1
 rw [←hw2] at r2⊢
 have k2:Kept (· = N) w1 w2:=by rw [hw2];exact (Kept.refl (· = N) w1).setCell (p:=⟨N,2,none⟩) (.inl rfl) _
 have K2:=ah k2;have R2:=ah r2
 have Z2:=ah (Z1.out.kept k2 (by have:=bD.out;omega))
 have Jf:Hid (Kept (· = N) w w2):=((K0.out.more (fun _ h=>h.elim)).trans K1.out).trans k2
 clear hw2 k2 q2 nM
 obtain ⟨q2,nM⟩:=r2.deep
 clear r2
 cases hu:un lr with
 | error e0 =>
  rw [hu] at er
  go_wp2_with (go_at_call 193;(refine (HUN.out lr w2 R2.out).mono ?_);intro e w3 eG;obtain ⟨bF,rfl⟩:=eG.bad hu;have K3:=ah bF;clear bF eG)
  refine ⟨rfl,Jf.out.trans K3.out,?_⟩
  rw [er.out]
  exact rfl
 | ok x =>
  obtain ⟨p,r⟩:=x
  rw [hu] at er
  dsimp only at er
  go_upto_region 7 with (go_at_call 193;(refine (HUN.out lr w2 R2.out).mono ?_);intro e w3 eG;obtain ⟨bF,iO,S,ka,cap,rfl,iP,iQ,fZ⟩:=eG.ok hu;have K3:=ah bF;have R3:=ah iO;have HS:=ah iP;have HZ:=ah iQ;have HK:=ah fZ;clear bF iO iP iQ fZ eG)
  obtain ⟨w5,hw5⟩:∃w5,w5=(w3.alloc (.cells #[.int .i64 p.kind,.string p.text,.int .i64 p.n,.string p.name,.slice ka p.kids.length cap] 54)).alloc (.cells #[.int .i64 7,.string ⟨#[]⟩,.int .i64 0,.string ⟨#[]⟩,.slice (some ⟨w3.heap.size,0,none⟩) 1 1] 54):=⟨_,rfl⟩
  have k5:Kept aA w3 w5:=by rw [hw5];exact ((Kept.refl _ _).alloc _).alloc _
  have G5:Hid (dS w3.heap.size (.int .i64 p.kind) (.string p.text) (.int .i64 p.n) (.string p.name) (.slice ka p.kids.length cap) w5):=by rw [hw5];exact dS.kept (ay w3 _) ((Kept.refl aA _).alloc _) (fun h=>h)
  have X5:Hid (dS (w3.heap.size+1) (.int .i64 7) (.string ⟨#[]⟩) (.int .i64 0) (.string ⟨#[]⟩) (.slice (some ⟨w3.heap.size,0,none⟩) 1 1) w5):=by rw [hw5];exact jd (by simp)
  have r5:=R3.out.kept k5 (fun h=>h) (fun h=>h)
  have Z5:=ah ((Z2.out.kept K3.out (by have:=bD.out;omega)).kept k5 (fun h=>h))
  have hz5:w5.heap.size=w3.heap.size+2:=by rw [hw5];simp
  rw [←hw5]
  obtain ⟨B,hB⟩:∃B,B=w3.heap.size:=⟨_,rfl⟩
  rw [←hB] at G5 X5⊢
  have HB:=ah hB;have UL:=ah hz5;have K5:=ah k5;have R5:=ah r5
  clear hw5 k5 hz5 hB q2 nM
  obtain ⟨q2,nM⟩:=r5.deep
  clear r5
  go_upto_region 8 with fail
  obtain ⟨w6,hw6⟩:∃w6,w6=w5.setCell ⟨N,2,none⟩ (.int .i64 (d:Int)):=⟨_,rfl⟩
  have r6:=R5.out.mZ d
  rw [←hw6] at r6⊢
  have k6:Kept (· = N) w5 w6:=by rw [hw6];exact (Kept.refl (· = N) w5).setCell (p:=⟨N,2,none⟩) (.inl rfl) _
  have hN5:N<B:=by have:=HB.out;have:=K0.out.size;have:=K1.out.size;have:=K2.out.size;have:=K3.out.size;omega
  have G6:=ah (G5.out.kept k6 (by omega));have X6:=ah (X5.out.kept k6 (by omega));have Z6:=ah (Z5.out.kept k6 (by have:=bD.out;omega))
  have R6:=ah r6;have K6:=ah k6
  clear hw6 k6 r6 q2 nM
  obtain ⟨x0,x1,x2,x3,x4,_⟩:=X6.out.cells
  obtain ⟨z0,z1,z2,z3,z4,zf⟩:=Z6.out.cells
  have xA:=zf 0;have xB:=zf 1;have xC:=zf 2;have yB:=zf 3;have yC:=zf 4
  clear zf
  go_wp2_with fail
  refine iD 2 rfl rfl (Z6.out.fP _ _ _ _ _) ?_
  have k7:Kept (· = M2) w6 (fP w6 M2 (.int .i64 7) (.string ⟨#[]⟩) (.int .i64 0) (.string ⟨#[]⟩) (.slice (some ⟨B,0,none⟩) 1 1)):=(Kept.refl (· = M2) w6).fP (.inl rfl) _ _ _ _ _
  have K06:Kept (· = N) w w6:=((Jf.out.trans K3.out).trans (K5.out.more (fun _ h=>h.elim))).trans K6.out
  have hlt:∀b,(S b∨b=B)→w.heap.size≤b∧b<w6.heap.size∧b≠M2∧b≠N:=by
   intro b hb
   have e1:=bD.out;have e2:=HB.out;have e3:=UL.out;have e4:=K6.out.size;have e5:=Jf.out.size;have e6:=K3.out.size;have e7:=Z2.out.lt
   rcases hb with hb|rfl
   ·obtain ⟨x1,x2⟩:=HS.out b hb
    omega
   ·omega
  have hk6:aN w6 S ka p.kids:=(HK.out.kept K5.out (fun b hb=>⟨(HS.out b hb).2,fun h=>h⟩)).kept K6.out (fun b hb=>⟨by have:=(HS.out b hb).2;have:=UL.out;have:=HB.out;omega,by have:=(hlt b (.inl hb)).2.2.2;exact this⟩)
  have hp1:aN w6 (fun b=>S b∨b=B) (some ⟨B,0,none⟩) [p]:=Xh G6.out HZ.out hk6 (fun b hb=>(hlt b (.inl hb)).2.1)
  refine ⟨K06.step k7 (fun y hy=>.inr (by have:=bD.out;omega)),?_⟩
  rw [er.out]
  exact ⟨⟨_,rfl,fun b=>S b∨b=B,fun b hb=>⟨(hlt b hb).1,Nat.lt_of_lt_of_le (hlt b hb).2.1 k7.size⟩,_,_,rfl,ail p,hp1.kept k7 (fun b hb=>⟨(hlt b hb).2.1,(hlt b hb).2.2.1⟩)⟩,R6.out.kept k7 (by have:=bD.out;omega) (by have:=bD.out;omega) (by have:=bD.out;omega)⟩
end Go.Proofs.YtgoijmpahffnhaaGreatDoor

namespace Go.Proofs.YtgoijmpahffnhaaGreatDoor
set_option linter.all false
open Go.RowKit
set_option maxRecDepth 100000
set_option maxHeartbeats 8000000
def KE (B j:Nat):Value:=if j=3 then .slice (some ⟨B,2,none⟩) 0 0 else .slice (some ⟨B,j,none⟩) (3-j) (3-j)
def IE (N T en d j:Nat) (f:List aC→bf aB):Prop:=∀(l:List aC) (w:World) (lo B:Nat),bZ N T en l d w→xF lo B w→N<lo→Calls Tryz.prog 129 #[.pointer (some ⟨N,0,none⟩),KE B j] w (XQ N T en d (f l) w)
theorem Xo {N T en:Nat} {l:List aC} {w:World} (h:bZ N T en l 400 w):Calls Tryz.prog 90 #[.pointer (some ⟨N,0,none⟩)] w (XQ N T en 400 (.error (4,dK en l)) w):=by
 obtain ⟨d,hd⟩:∃d:Nat,d=400:=⟨_,rfl⟩
 rw [←hd] at h⊢
 obtain ⟨hN,hT,hne,h7⟩:=h.jo
 obtain ⟨w0,hw0⟩:∃w0,w0=w.alloc (.cells #[.int .i64 0,.string ⟨#[]⟩,.int .i64 0,.string ⟨#[]⟩,.slice none 0 0] 54):=⟨_,rfl⟩
 have k0:Kept aA w w0:=by rw [hw0];exact (Kept.refl _ _).alloc _
 have R0:=ah (h.kept k0 (fun h=>h) (fun h=>h))
 have K0:=ah k0;have HW0:=ah hw0
 obtain ⟨d1,hd1⟩:∃d1:Nat,d1=d+1:=⟨_,rfl⟩
 have hdi:(d:Int)+1=(d1:Int):=by omega
 have g1:decide ((400:Int)<(d1:Int))=true:=ak (by omega)
 have g2:decide (400<d1)=true:=ak (by omega)
 have hb:d1≤1000:=by omega
 obtain ⟨q2,nM⟩:=R0.out.deep
 clear k0 hw0 h hd hd1
 go_enter Tryz.func90, Tryz.ntmps90
 go_upto_region 1 with fail
 rw [←HW0.out]
 go_upto_region 2 with fail
 obtain ⟨w2,hw2⟩:∃w2,w2=w0.setCell ⟨N,2,none⟩ (.int .i64 (d1:Int)):=⟨_,rfl⟩
 have r2:=R0.out.mZ d1
 rw [←hw2] at r2⊢
 have k2:Kept (· = N) w0 w2:=by rw [hw2];exact (Kept.refl (· = N) w0).setCell (p:=⟨N,2,none⟩) (.inl rfl) _
 have K2:=ah k2
 clear hw2 k2 q2 nM
 obtain ⟨q2,nM⟩:=r2.deep
 obtain ⟨n2,a2,c2,r2⟩:=r2
 have HA:=ah (lJ r2)
 clear r2
 go_wp2_with (first
  | (go_at_call 56;(refine HA.out.mono ?_);rintro e w' ⟨rfl,aI⟩;obtain rfl:=aI.symm)
  | (go_at_call 55;(refine (dH _ 4 (dK en l) w2).mono ?_);rintro e w3 ⟨rfl,rfl⟩))
 exact ⟨rfl,(K0.out.more (fun _ h=>h.elim)).trans K2.out,rfl⟩
theorem IQ {N T en d:Nat} {f:List aC→bf aB} (hd:d<400) (HB:IE N T en (d+1) 0 f) {l:List aC} {w:World} (h:bZ N T en l d w):Calls Tryz.prog 90 #[.pointer (some ⟨N,0,none⟩)] w (XQ N T en d (f l) w):=by
 obtain ⟨hN,hT,hne,h7⟩:=h.jo
 obtain ⟨w0,hw0⟩:∃w0,w0=w.alloc (.cells #[.int .i64 0,.string ⟨#[]⟩,.int .i64 0,.string ⟨#[]⟩,.slice none 0 0] 54):=⟨_,rfl⟩
 have k0:Kept aA w w0:=by rw [hw0];exact (Kept.refl _ _).alloc _
 obtain ⟨M2,hM2⟩:∃M,M=w.heap.size:=⟨_,rfl⟩
 have Z0:Hid (dS M2 (.int .i64 0) (.string ⟨#[]⟩) (.int .i64 0) (.string ⟨#[]⟩) (.slice none 0 0) w0):=by rw [hw0,hM2];exact ay w _
 have R0:=ah (h.kept k0 (fun h=>h) (fun h=>h))
 have K0:=ah k0;have HW0:=ah hw0;have bD:=ah hM2
 obtain ⟨d1,hd1⟩:∃d1:Nat,d1=d+1:=⟨_,rfl⟩
 have hdi:(d:Int)+1=(d1:Int):=by omega
 rw [←hd1] at HB
 have g1:decide ((400:Int)<(d1:Int))=false:=au (by omega)
 have g2:decide (400<d1)=false:=au (by omega)
 have hb:d1≤1000:=by omega
 have hb1:1≤d1:=by omega
 have hdj:(d1:Int)-1=(d:Int):=by omega
 have LW:=ah HB
 obtain ⟨q2,nM⟩:=R0.out.deep
 clear k0 hw0 h hd1 HB hM2
 go_enter Tryz.func90, Tryz.ntmps90
 go_upto_region 1 with fail
 rw [←HW0.out,←bD.out]
 go_upto_region 2 with fail
 obtain ⟨w2,hw2⟩:∃w2,w2=w0.setCell ⟨N,2,none⟩ (.int .i64 (d1:Int)):=⟨_,rfl⟩
 have r2:=R0.out.mZ d1
 rw [←hw2] at r2⊢
 have k2:Kept (· = N) w0 w2:=by rw [hw2];exact (Kept.refl (· = N) w0).setCell (p:=⟨N,2,none⟩) (.inl rfl) _
 have K2:=ah k2;have R2:=ah r2
 have Z2:=ah (Z0.out.kept k2 (by have:=bD.out;omega))
 have Jf:Hid (Kept (· = N) w w2):=(K0.out.more (fun _ h=>h.elim)).trans k2
 clear hw2 k2 q2 nM
 obtain ⟨q2,nM⟩:=r2.deep
 clear r2
 cases hu:f l with
 | error e0 =>
  go_wp2_with (first
   | (go_at_call 130;(refine (Hg w2).mono ?_);rintro e wl ⟨B,rfl,lv_,QC⟩;have LV:=ah lv_;have KL:=ah QC;have RL:=ah (R2.out.kept QC (fun h=>h) (fun h=>h));clear lv_ QC)
   | (go_at_call 129;(refine (LW.out l wl _ B RL.out LV.out (by have:=Jf.out.size;omega)).mono ?_);intro e w3 eG;obtain ⟨bF,rfl⟩:=eG.bad hu;have K3:=ah bF;clear bF eG))
  exact ⟨rfl,(Jf.out.trans (KL.out.more (fun _ h=>h.elim))).trans K3.out,rfl⟩
 | ok x =>
  obtain ⟨p,r⟩:=x
  go_upto_region 5 with (first
   | (go_at_call 130;(refine (Hg w2).mono ?_);rintro e wl ⟨B,rfl,lv_,QC⟩;have LV:=ah lv_;have KL:=ah QC;have RL:=ah (R2.out.kept QC (fun h=>h) (fun h=>h));clear lv_ QC)
   | (go_at_call 129;(refine (LW.out l wl _ B RL.out LV.out (by have:=Jf.out.size;omega)).mono ?_);intro e w3 eG;obtain ⟨bF,iO,S,ka,cap,rfl,iP,iQ,fZ⟩:=eG.ok hu;have K3:=ah bF;have R3:=ah iO;have HS:=ah iP;have HZ:=ah iQ;have HK:=ah fZ;clear bF iO iP iQ fZ eG))
  obtain ⟨w5,hw5⟩:∃w5,w5=w3.alloc (.cells #[.int .i64 p.kind,.string p.text,.int .i64 p.n,.string p.name,.slice ka p.kids.length cap] 54):=⟨_,rfl⟩
  have k5:Kept aA w3 w5:=by rw [hw5];exact (Kept.refl _ _).alloc _
  have X5:Hid (dS w3.heap.size (.int .i64 p.kind) (.string p.text) (.int .i64 p.n) (.string p.name) (.slice ka p.kids.length cap) w5):=by rw [hw5];exact ay w3 _
  have r5:=R3.out.kept k5 (fun h=>h) (fun h=>h)
  have Z5:=ah (((Z2.out.kept KL.out (fun h=>h)).kept K3.out (by have:=bD.out;omega)).kept k5 (fun h=>h))
  have hz5:w5.heap.size=w3.heap.size+1:=by rw [hw5];simp
  rw [←hw5]
  obtain ⟨G,hG⟩:∃G,G=w3.heap.size:=⟨_,rfl⟩
  rw [←hG] at X5⊢
  have HG:=ah hG;have UL:=ah hz5;have K5:=ah k5;have R5:=ah r5
  clear hw5 k5 hz5 hG q2 nM
  obtain ⟨q2,nM⟩:=r5.deep
  clear r5
  go_upto_region 6 with fail
  obtain ⟨w6,hw6⟩:∃w6,w6=w5.setCell ⟨N,2,none⟩ (.int .i64 (d:Int)):=⟨_,rfl⟩
  have r6:=R5.out.mZ d
  rw [←hw6] at r6⊢
  have k6:Kept (· = N) w5 w6:=by rw [hw6];exact (Kept.refl (· = N) w5).setCell (p:=⟨N,2,none⟩) (.inl rfl) _
  have hsz:Hid (w.heap.size≤w2.heap.size∧w2.heap.size≤wl.heap.size∧wl.heap.size≤w3.heap.size):=⟨Jf.out.size,KL.out.size,K3.out.size⟩
  have X6:=ah (X5.out.kept k6 (by have:=hsz.out;have:=HG.out;omega));have Z6:=ah (Z5.out.kept k6 (by have:=bD.out;omega))
  have R6:=ah r6;have K6:=ah k6
  clear hw6 k6 r6 q2 nM
  obtain ⟨x0,x1,x2,x3,x4,_⟩:=X6.out.cells
  obtain ⟨z0,z1,z2,z3,z4,zf⟩:=Z6.out.cells
  have xA:=zf 0;have xB:=zf 1;have xC:=zf 2;have yB:=zf 3;have yC:=zf 4
  clear zf
  go_wp2_with fail
  refine iD 2 rfl rfl (Z6.out.fP _ _ _ _ _) ?_
  have k7:Kept (· = M2) w6 (fP w6 M2 (.int .i64 p.kind) (.string p.text) (.int .i64 p.n) (.string p.name) (.slice ka p.kids.length cap)):=(Kept.refl (· = M2) w6).fP (.inl rfl) _ _ _ _ _
  have K06:Kept (· = N) w w6:=(((Jf.out.trans (KL.out.more (fun _ h=>h.elim))).trans K3.out).trans (K5.out.more (fun _ h=>h.elim))).trans K6.out
  have hlt:∀b,S b→w.heap.size≤b∧b<w6.heap.size∧b≠M2∧b≠N∧b<w5.heap.size:=by
   intro b hb
   have e1:=bD.out;have e2:=HG.out;have e3:=UL.out;have e4:=K6.out.size;have e5:=hsz.out;have e7:=Z2.out.lt
   obtain ⟨x1,x2⟩:=HS.out b hb
   omega
  have hk6:aN w6 S ka p.kids:=(HK.out.kept K5.out (fun b hb=>⟨(HS.out b hb).2,fun h=>h⟩)).kept K6.out (fun b hb=>⟨(hlt b hb).2.2.2.2,(hlt b hb).2.2.2.1⟩)
  refine ⟨K06.step k7 (fun y hy=>.inr (by have:=bD.out;omega)),?_⟩
  rw [hu]
  exact ⟨⟨_,rfl,S,fun b hb=>⟨(hlt b hb).1,Nat.lt_of_lt_of_le (hlt b hb).2.1 k7.size⟩,_,_,rfl,HZ.out,hk6.kept k7 (fun b hb=>⟨(hlt b hb).2.1,(hlt b hb).2.2.1⟩)⟩,R6.out.kept k7 (by have:=bD.out;omega) (by have:=bD.out;omega) (by have:=bD.out;omega)⟩
end Go.Proofs.YtgoijmpahffnhaaGreatDoor

namespace Go.Proofs.YtgoijmpahffnhaaGreatDoor
set_option linter.all false
open Go.RowKit
set_option maxRecDepth 100000
set_option maxHeartbeats 4000000
theorem aan {N T en d:Nat} {un:List aC→bf aB} (HU:Ky N T en d un):IE N T en d 3 un:=by
 intro l w lo B h PZ hlo
 obtain ⟨hN,hT,hne,h7⟩:=h.jo
 obtain ⟨w0,hw0⟩:∃w0,w0=w.alloc (.cells #[.int .i64 0,.string ⟨#[]⟩,.int .i64 0,.string ⟨#[]⟩,.slice none 0 0] 54):=⟨_,rfl⟩
 have k0:Kept aA w w0:=by rw [hw0];exact (Kept.refl _ _).alloc _
 obtain ⟨M4,Ec⟩:∃M,M=w.heap.size:=⟨_,rfl⟩
 have Z0:Hid (dS M4 (.int .i64 0) (.string ⟨#[]⟩) (.int .i64 0) (.string ⟨#[]⟩) (.slice none 0 0) w0):=by rw [hw0,Ec];exact ay w _
 have R0:=ah (h.kept k0 (fun h=>h) (fun h=>h))
 have K0:=ah k0;have HW0:=ah hw0;have uI:=ah Ec;have HUN:=ah HU
 have hv:KE B 3=.slice (some ⟨B,2,none⟩) 0 0:=rfl
 rw [hv]
 clear k0 hw0 h Ec HU hv PZ
 cases hu:un l with
 | error e0 =>
  go_enter Tryz.func129, Tryz.ntmps129
  go_upto_region 1 with fail
  rw [←HW0.out,←uI.out]
  go_wp2_with (go_at_call 193;(refine (HUN.out l w0 R0.out).mono ?_);intro e w3 eG;obtain ⟨bF,rfl⟩:=eG.bad hu;have K3:=ah bF;clear bF eG)
  exact ⟨rfl,(K0.out.more (fun _ h=>h.elim)).trans K3.out,rfl⟩
 | ok x =>
  obtain ⟨p,r⟩:=x
  go_enter Tryz.func129, Tryz.ntmps129
  go_upto_region 1 with fail
  rw [←HW0.out,←uI.out]
  go_wp2_with (go_at_call 193;(refine (HUN.out l w0 R0.out).mono ?_);intro e w2 MJ;obtain ⟨bU,iI,S,ka,cap,rfl,iP,iQ,fZ⟩:=MJ.ok hu;have K2:=ah bU;have R2:=ah iI;have HS:=ah iP;have HZ:=ah iQ;have HK:=ah fZ;have Z2:=ah (Z0.out.kept bU (by have:=uI.out;omega));obtain ⟨z0,z1,z2,z3,z4,zf⟩:=Z2.out.cells;have xA:=zf 0;have xB:=zf 1;have xC:=zf 2;have yB:=zf 3;have yC:=zf 4;clear zf bU iI iP iQ fZ MJ)
  refine iD 4 rfl rfl (Z2.out.fP _ _ _ _ _) ?_
  have k6:Kept (· = M4) w2 (fP w2 M4 (.int .i64 p.kind) (.string p.text) (.int .i64 p.n) (.string p.name) (.slice ka p.kids.length cap)):=(Kept.refl (· = M4) w2).fP (.inl rfl) _ _ _ _ _
  have K5:Kept (· = N) w w2:=(K0.out.more (fun _ h=>h.elim)).trans K2.out
  have hS:∀b,S b→w.heap.size≤b∧b<w2.heap.size∧b≠M4:=by
   intro b hb
   obtain ⟨x1,x2⟩:=HS.out b hb
   have:=K0.out.size;have:=Z0.out.lt;have:=uI.out
   omega
  refine ⟨K5.step k6 (fun y hy=>.inr (by have:=uI.out;omega)),?_⟩
  (try rw [hu])
  exact ⟨⟨_,rfl,S,fun b hb=>⟨(hS b hb).1,Nat.lt_of_lt_of_le (hS b hb).2.1 k6.size⟩,ka,cap,rfl,HZ.out,HK.out.kept k6 (fun b hb=>⟨(hS b hb).2.1,(hS b hb).2.2⟩)⟩,R2.out.kept k6 (by have:=uI.out;omega) (by have:=uI.out;omega) (by have:=uI.out;omega)⟩
end Go.Proofs.YtgoijmpahffnhaaGreatDoor

namespace Go.Proofs.YtgoijmpahffnhaaGreatDoor
set_option linter.all false
open Go.RowKit
def Shr (f:List aC→bf aB):Prop:=∀l y r,f l=.ok (y,r)→r.length≤l.length
theorem xF.get {lo B:Nat} {w:World} (h:xF lo B w) {j:Nat} (hj:j<3):∃m n,w.cell? ⟨B,j,none⟩=some (.map (some m))∧eH w m n (CV (j+1)):=by
 obtain ⟨h0,m1,m2,m3,n1,n2,n3,l1,l2,l3,hb,a1,a2,a3⟩:=h
 obtain rfl|rfl|rfl:j=0∨j=1∨j=2:=by omega
 ·exact ⟨m1,n1,by rw [cell_of_row w B _ _ _ _ hb];rfl,a1⟩
 ·exact ⟨m2,n2,by rw [cell_of_row w B _ _ _ _ hb];rfl,a2⟩
 ·exact ⟨m3,n3,by rw [cell_of_row w B _ _ _ _ hb];rfl,a3⟩
theorem Z9 {B j:Nat} (hj:j<3):KE B j=.slice (some ⟨B,j,none⟩) (3-j) (3-j):=by unfold KE;rw [if_neg (by omega)]
theorem aac {B j m:Nat} (hj:j<3) (hm:m=3-j) (wx:World):(Instr.slice 202 (.slice (some ⟨B,j,none⟩) m m) (some (.int .i64 1)) none none).run Tryz.prog wx=.ok (KE B (j+1)) wx:=by
 have hsz:(sizeOf 275).run Tryz.prog wx=.ok 1 wx:=by kernel_rfl
 have hle:(1:Int)≤(m:Int):=by omega
 unfold Instr.slice Instr.sliceBounds Instr.sliceBound
 simp only [Sem.run_bind,run_underlying Tryz.underlying202,Result.andThen_ok,Sem.run_pure,asIntOf]
 rw [if_pos ⟨by decide,by omega⟩]
 simp only [Sem.run_pure,Result.andThen_ok,hsz]
 obtain rfl|rfl|rfl:j=0∨j=1∨j=2:=by omega
 all_goals
  subst hm
  simp [KE,Addr.add]
structure fQ (N T en d M4 M5:Nat) (w:World) (x:aB) (ka:Option Addr) (cap:Nat) (l:List aC) (wx:World):Prop where
 bI:bZ N T en l d wx
 five:dS M5 (.int .i64 x.kind) (.string x.text) (.int .i64 x.n) (.string x.name) (.slice ka x.kids.length cap) wx
 mem:∃S:Nat→Prop,aN wx S ka x.kids∧∀b,S b→w.heap.size≤b∧b<wx.heap.size∧b≠M4∧b≠M5∧b≠N
 sz:x.text.size<1000000000∧x.name.size<1000000000∧x.kids.length<1000000000
 zero:dS M4 (.int .i64 0) (.string ⟨#[]⟩) (.int .i64 0) (.string ⟨#[]⟩) (.slice none 0 0) wx
 kept:Kept (· = N) w wx
theorem fQ.quiet {N T en d M4 M5:Nat} {w:World} {x:aB} {ka:Option Addr} {cap:Nat} {l:List aC} {wx wy:World} (h:fQ N T en d M4 M5 w x ka cap l wx) (hk:Kept aA wx wy):fQ N T en d M4 M5 w x ka cap l wy:=by
 obtain ⟨h1,h2,⟨S,h3,h4⟩,h5,h6,h7⟩:=h
 exact ⟨h1.kept hk (fun h=>h) (fun h=>h),h2.kept hk (fun h=>h),⟨S,h3.kept hk (fun b hb=>⟨(h4 b hb).2.1,fun h=>h⟩),fun b hb=>by have:=h4 b hb;have:=hk.size;omega⟩,h5,h6.kept hk (fun h=>h),h7.trans (hk.more (fun _ h=>h.elim))⟩
theorem fQ.aS {N T en d M4 M5:Nat} {w:World} {x:aB} {ka:Option Addr} {cap:Nat} {l l2:List aC} {wx wy:World} (h:fQ N T en d M4 M5 w x ka cap l wx) (hn4:N≠M4) (zo:N≠M5) (hk:Kept (· = N) wx wy) (hr:bZ N T en l2 d wy):fQ N T en d M4 M5 w x ka cap l2 wy:=by
 obtain ⟨h1,h2,⟨S,h3,h4⟩,h5,h6,h7⟩:=h
 exact ⟨hr,h2.kept hk (Ne.symm zo),⟨S,h3.kept hk (fun b hb=>⟨(h4 b hb).2.1,(h4 b hb).2.2.2.2⟩),fun b hb=>by have:=h4 b hb;have:=hk.size;omega⟩,h5,h6.kept hk (Ne.symm hn4),h7.trans hk⟩
def ahF (B:Nat) (x y:aB) (ka kb:Option Addr) (ca cb:Nat) (w:World):Prop:=w.heap[B]?=some (.cells #[.int .i64 x.kind,.string x.text,.int .i64 x.n,.string x.name,.slice ka x.kids.length ca,.int .i64 y.kind,.string y.text,.int .i64 y.n,.string y.name,.slice kb y.kids.length cb] 54 (0,0))
theorem ain {g:Nat} {x y:aB} {ka kb:Option Addr} {ca cb:Nat} {w:World} {S:Nat→Prop} (F:ahF g x y ka kb ca cb w) (hx:x.text.size<1000000000∧x.name.size<1000000000∧x.kids.length<1000000000) (hy:y.text.size<1000000000∧y.name.size<1000000000∧y.kids.length<1000000000)
  (hkx:aN w S ka x.kids) (hky:aN w S kb y.kids) (hS:∀b,S b→b<w.heap.size):aN w (fun b=>S b∨b=g) (some ⟨g,0,none⟩) [x,y]:=by
 have hc:∀i,w.cell? ⟨g,i,none⟩=_:=fun i=>cell_of_row w g i _ _ _ F
 obtain ⟨k,t,n,nm,kids⟩:=x
 obtain ⟨k2,t2,n2,nm2,ad9⟩:=y
 have e1:aN w (fun b=>S b∨b=g) ka kids:=aN.to hkx (Kept.refl aA w) (fun b hb=>⟨hS b hb,fun h=>h⟩) (fun _ h=>.inl h)
 have e2:aN w (fun b=>S b∨b=g) kb ad9:=aN.to hky (Kept.refl aA w) (fun b hb=>⟨hS b hb,fun h=>h⟩) (fun _ h=>.inl h)
 have p1:aX w (fun b=>S b∨b=g) g 0 (.mk k t n nm kids):=by
  unfold aX
  exact ⟨.inr rfl,hx,by rw [hc];rfl,by rw [hc];rfl,by rw [hc];rfl,by rw [hc];rfl,ka,ca,by rw [hc];rfl,e1⟩
 have p2:aX w (fun b=>S b∨b=g) g 5 (.mk k2 t2 n2 nm2 ad9):=by
  unfold aX
  exact ⟨.inr rfl,hy,by rw [hc];rfl,by rw [hc];rfl,by rw [hc];rfl,by rw [hc];rfl,kb,cb,by rw [hc];rfl,e2⟩
 unfold aN
 refine ⟨g,0,rfl,p1,?_⟩
 unfold aN
 exact ⟨g,5,rfl,p2,by unfold aN;trivial⟩
theorem fQ.step {N T en d M4 M5:Nat} {w:World} {x y:aB} {ka kb:Option Addr} {ca cb:Nat} {l r:List aC} {w1 w3:World} (k:Int) (h:fQ N T en d M4 M5 w x ka ca l w1) (hn4:N≠M4) (zo:N≠M5) (h45:M4≠M5) (hw5:w.heap.size≤M5) (hNw:N<w.heap.size) (hTw:T<w.heap.size)
  (hk:Kept (· = N) w1 w3) (hr:bZ N T en r d w3) {S:Nat→Prop} (hS:∀b,S b→w1.heap.size≤b∧b<w3.heap.size) (hz:y.text.size<1000000000∧y.name.size<1000000000∧y.kids.length<1000000000) (hy:aN w3 S kb y.kids) {w5:World}
  (hw:w5=w3.alloc (.cells #[.int .i64 x.kind,.string x.text,.int .i64 x.n,.string x.name,.slice ka x.kids.length ca,.int .i64 y.kind,.string y.text,.int .i64 y.n,.string y.name,.slice kb y.kids.length cb] 54)) :
  fQ N T en d M4 M5 w (node2 k x y) (some ⟨w3.heap.size,0,none⟩) 2 r (fP w5 M5 (.int .i64 k) (.string ⟨#[]⟩) (.int .i64 0) (.string ⟨#[]⟩) (.slice (some ⟨w3.heap.size,0,none⟩) 2 2)):=by
 have h3:=h.aS hn4 zo hk hr
 obtain ⟨_,f3,⟨S3,s3,s4⟩,z3,o3,k3⟩:=h3
 have k5:Kept aA w3 w5:=by rw [hw];exact (Kept.refl _ _).alloc _
 have hsz:w5.heap.size=w3.heap.size+1:=by rw [hw];simp
 have g5:ahF w3.heap.size x y ka kb ca cb w5:=by rw [hw];exact ay w3 _
 have f5:=f3.kept k5 (fun h=>h)
 have k6:Kept (· = M5) w5 (fP w5 M5 (.int .i64 k) (.string ⟨#[]⟩) (.int .i64 0) (.string ⟨#[]⟩) (.slice (some ⟨w3.heap.size,0,none⟩) 2 2)):=(Kept.refl (· = M5) w5).fP (.inl rfl) _ _ _ _ _
 have hw1:w.heap.size≤w1.heap.size:=h.kept.size
 have l3:=f3.lt;have o3l:=o3.lt;have agW:=hk.size
 have l1:=h.five.lt;have l2:=h.zero.lt
 refine ⟨(hr.kept k5 (fun h=>h) (fun h=>h)).kept k6 zo (by omega) (by have:=hr.jo;omega),f5.fP _ _ _ _ _,⟨fun b=>(S3 b∨S b)∨b=w3.heap.size,?_,?_⟩,⟨by show E0.size<_;decide,by show E0.size<_;decide,by simp [node2,aB.kids]⟩,(o3.kept k5 (fun h=>h)).kept k6 h45,(k3.trans (k5.more (fun _ h=>h.elim))).step k6 (fun y hy=>.inr (by omega))⟩
 ·refine aN.kept (X:=(· = M5)) ?_ k6 ?_
  ·refine ain g5 z3 hz ((s3.kept k5 (fun b hb=>⟨(s4 b hb).2.1,fun h=>h⟩)).to (Kept.refl aA w5) (fun b hb=>⟨by have:=s4 b hb;omega,fun h=>h⟩) (fun _ h=>.inl h)) ((hy.kept k5 (fun b hb=>⟨(hS b hb).2,fun h=>h⟩)).to (Kept.refl aA w5) (fun b hb=>⟨by have:=hS b hb;omega,fun h=>h⟩) (fun _ h=>.inr h)) ?_
   rintro b (hb|hb)
   ·have:=s4 b hb;omega
   ·have:=hS b hb;omega
  ·rintro b ((hb|hb)|rfl)
   ·have:=s4 b hb;exact ⟨by omega,by omega⟩
   ·have:=hS b hb;exact ⟨by omega,by omega⟩
   ·exact ⟨by omega,by omega⟩
 ·have:=k6.size
  rintro b ((hb|hb)|rfl)
  ·have:=s4 b hb;omega
  ·have:=hS b hb;omega
  ·omega
theorem fQ.fin {N T en d M4 M5:Nat} {w:World} {x:aB} {ka:Option Addr} {cap:Nat} {l2:List aC} {wx:World} (h:fQ N T en d M4 M5 w x ka cap l2 wx) (hn4:N≠M4) (Ob:T≠M4) (hw4:w.heap.size≤M4) (hNw:N<w.heap.size) {r:bf aB} (hr:r=.ok (x,l2)) :
  XQ N T en d r w (.returned (.agg #[.int .i64 x.kind,.string x.text,.int .i64 x.n,.string x.name,.slice ka x.kids.length cap])) (fP wx M4 (.int .i64 x.kind) (.string x.text) (.int .i64 x.n) (.string x.name) (.slice ka x.kids.length cap)):=by
 subst hr
 obtain ⟨h1,h2,⟨S,h3,h4⟩,h5,h6,h7⟩:=h
 have k6:Kept (· = M4) wx (fP wx M4 (.int .i64 x.kind) (.string x.text) (.int .i64 x.n) (.string x.name) (.slice ka x.kids.length cap)):=(Kept.refl (· = M4) wx).fP (.inl rfl) _ _ _ _ _
 exact ⟨h7.step k6 (fun y hy=>.inr (by omega)),⟨_,rfl,S,fun b hb=>⟨(h4 b hb).1,Nat.lt_of_lt_of_le (h4 b hb).2.1 k6.size⟩,ka,cap,rfl,h5,h3.kept k6 (fun b hb=>⟨(h4 b hb).2.1,(h4 b hb).2.2.1⟩)⟩,h1.kept k6 hn4 Ob (by have:=h1.jo;omega)⟩
end Go.Proofs.YtgoijmpahffnhaaGreatDoor

namespace Go.Proofs.YtgoijmpahffnhaaGreatDoor
set_option linter.all false
open Go.RowKit
set_option maxRecDepth 100000
set_option maxHeartbeats 8000000
theorem Ed {N T en d j:Nat} {sub:List aC→bf aB} (hj:j<3) (HB:IE N T en d (j+1) sub) (hsub:Shr sub):IE N T en d j (oZ (j+1) sub):=by
 intro l w lo B h PZ hlo
 obtain ⟨hN,hT,hne,h7⟩:=h.jo
 rw [Z9 hj]
 obtain ⟨m,hm⟩:∃m,m=3-j:=⟨_,rfl⟩
 have hsl:=fun wx=>aac (B:=B) hj hm wx
 rw [←hm]
 have m0:0<m:=by omega
 have m1:(0:Int)<(m:Int):=by omega
 have zm:((m:Int)==0)=false:=by simp;omega
 obtain ⟨w0,hw0⟩:∃w0,w0=w.alloc (.cells #[.int .i64 0,.string ⟨#[]⟩,.int .i64 0,.string ⟨#[]⟩,.slice none 0 0] 54):=⟨_,rfl⟩
 have k0:Kept aA w w0:=by rw [hw0];exact (Kept.refl _ _).alloc _
 obtain ⟨M4,Ec⟩:∃M,M=w.heap.size:=⟨_,rfl⟩
 have Z0:Hid (dS M4 (.int .i64 0) (.string ⟨#[]⟩) (.int .i64 0) (.string ⟨#[]⟩) (.slice none 0 0) w0):=by rw [hw0,Ec];exact ay w _
 have R0:=ah (h.kept k0 (fun h=>h) (fun h=>h))
 have L0:=ah (PZ.kept k0 (fun _ h=>h.elim))
 have K0:=ah k0;have HW0:=ah hw0;have uI:=ah Ec;have LW:=ah HB
 have hs0:=hsl w0
 have HSL:=ah hsl;have HLV:=ah PZ;have UG:=ah hlo;have HJ:=ah hj;have HSH:=ah hsub
 clear k0 hw0 h Ec HB PZ hlo hj hsub hm hsl
 cases hu:sub l with
 | error e0 =>
  have er:Hid (oZ (j+1) sub l=.error e0):=by unfold Hid oZ;rw [hu]
  go_enter Tryz.func129, Tryz.ntmps129
  go_upto_region 1 with fail
  rw [←HW0.out,←uI.out]
  go_wp2_with (go_at_call 129;(refine (LW.out l w0 lo B R0.out L0.out UG.out).mono ?_);intro e w3 eG;obtain ⟨bF,rfl⟩:=eG.bad hu;have K3:=ah bF;clear bF eG)
  refine ⟨rfl,(K0.out.more (fun _ h=>h.elim)).trans K3.out,?_⟩
  rw [er.out];exact rfl
 | ok z =>
  obtain ⟨p,r⟩:=z
  have er:Hid (oZ (j+1) sub l=oP (j+1) sub r.length p r):=by unfold Hid oZ;rw [hu]
  have HU:=ah hu
  clear hu
  go_enter Tryz.func129, Tryz.ntmps129
  go_upto_region 1 with fail
  rw [←HW0.out,←uI.out]
  go_upto_block 0 with (go_at_call 129;(refine (LW.out l w0 lo B R0.out L0.out UG.out).mono ?_);intro e w3 eG;obtain ⟨bF,iO,S,ka,cap,rfl,iP,iQ,fZ⟩:=eG.ok HU.out;have K3:=ah bF;have R3:=ah iO;have HS:=ah iP;have HZ:=ah iQ;have HK:=ah fZ;clear bF iO iP iQ fZ eG)
  obtain ⟨w5,hw5⟩:∃w5,w5=w3.alloc (.cells #[.int .i64 p.kind,.string p.text,.int .i64 p.n,.string p.name,.slice ka p.kids.length cap] 54):=⟨_,rfl⟩
  obtain ⟨M5,mM⟩:∃M,M=w3.heap.size:=⟨_,rfl⟩
  have k5:Kept aA w3 w5:=by rw [hw5];exact (Kept.refl _ _).alloc _
  have hsz:Hid (w.heap.size<w0.heap.size∧w0.heap.size≤w3.heap.size∧w5.heap.size=w3.heap.size+1∧M5=w3.heap.size∧M4=w.heap.size∧N<w.heap.size∧T<w.heap.size):=⟨by have:=Z0.out.lt;have:=uI.out;omega,K3.out.size,by rw [hw5];simp,mM,uI.out,hN,hT⟩
  have I0:Hid (fQ N T en d M4 M5 w p ka cap r w5):=by
   have hz:=hsz.out
   refine ⟨R3.out.kept k5 (fun h=>h) (fun h=>h),by rw [hw5,mM];exact ay w3 _,⟨S,HK.out.kept k5 (fun b hb=>⟨(HS.out b hb).2,fun h=>h⟩),fun b hb=>by have:=HS.out b hb;omega⟩,HZ.out,(Z0.out.kept K3.out (by omega)).kept k5 (fun h=>h),((K0.out.more (fun _ h=>h.elim)).trans K3.out).trans (k5.more (fun _ h=>h.elim))⟩
  rw [←hw5,←mM]
  clear hw5 mM k5 hs0
  go_wp2_with fail
  go_loopg [] r.length (fun f wr=>∃(x:aB) (l2:List aC) (kb:Option Addr) (cb:Nat),l2.length≤f∧Hid (fQ N T en d M4 M5 w x kb cb l2 wr)∧Hid (oZ (j+1) sub l=oP (j+1) sub f x l2))
  case atStart=>exact ⟨p,r,ka,cap,Nat.le_refl _,I0,er⟩
  case round =>
   obtain ⟨x,l2,kb,cb,hlf,I,hch⟩:=hrel
   obtain ⟨n2,a2,c2,hP⟩:=ah I.out.bI
   have HP:=ah hP
   obtain ⟨c0,c1,cd,cf⟩:=hP.c0
   have hn:=hP.num
   cases l2 with
   | nil =>
    have z:decide ((0:Int)<(n2:Int))=false:=by rw [hn];rfl
    have z':decide (0<n2)=false:=by rw [hn];rfl
    have fin:Hid (oZ (j+1) sub l=.ok (x,[])):=by unfold Hid;rw [hch.out];cases gk<;>rfl
    clear hn hP cf hch hlf
    go_wp2_with fail
    go_quiet (fail)
    have I2:=ah (I.out.quiet ((Kept.refl aA wr).drewN nq))
    obtain ⟨x0,x1,x2,x3,x4,_⟩:=I2.out.five.cells
    obtain ⟨z0,z1,z2,z3,z4,zf⟩:=I2.out.zero.cells
    have xA:=zf 0;have xB:=zf 1;have xC:=zf 2;have yB:=zf 3;have yC:=zf 4
    clear zf
    go_wp2_with fail
    exact iD 4 rfl rfl (I2.out.zero.fP _ _ _ _ _) (I2.out.fin (by have:=hsz.out;omega) (by have:=hsz.out;omega) (by have:=hsz.out;omega) hN fin.out)
   | cons t r2 =>
    rw [List.length_cons] at hn
    have h0:0<n2:=by omega
    have h1:(0:Int)<(n2:Int):=by omega
    have z:decide ((0:Int)<(n2:Int))=true:=ak h1
    have z':decide (0<n2)=true:=ak h0
    obtain ⟨o,rfl,t0,t1,t2⟩:=hP.head
    have htb:=(hP.good t (List.mem_cons_self ..)).2.1
    obtain ⟨mj,nj,lv,lm⟩:=(HLV.out.kept I.out.kept (fun b hb=>by have:=UG.out;omega)).get HJ.out
    have LV:=ah lv;have LM:=ah lm
    obtain ⟨op,hop⟩:∃op,op=Di (j+1) t.text:=⟨_,rfl⟩
    have hlook:∀i,(Instr.lookup 275 (.map (some mj)) (.string t.text) false).run Tryz.prog (wr.drewN i)=.ok (.int .i64 op) (wr.drewN i):=fun i=>by
     have:=(lm.kept ((Kept.refl aA wr).drewN i) (fun h=>h)).o8 t.text (by unfold maxLen;omega)
     rw [this,ael,hop]
    by_cases hk:t.kind=5
    ·have y:(t.kind==5)=true:=by simpa using hk
     by_cases ho:0<op
     ·have y3:decide (0<op)=true:=ak ho
      obtain ⟨g,rfl⟩:∃g,gk=g+1:=by cases gk with|zero=>simp at hlf|succ g=>exact ⟨g,rfl⟩
      have jW:Hid (oZ (j+1) sub l=match sub r2 with | .error er=>.error er | .ok (y,r)=>oP (j+1) sub g (node2 op x y) r):=by
       unfold Hid
       have e:opAt (j+1) (t::r2)=op:=by show (if t.kind=5 then Di (j+1) t.text else 0)=op;rw [if_pos hk,←hop]
       rw [hch.out,oP,e,if_pos ho];rfl
      have HLF:Hid (r2.length≤g):=by unfold Hid;simp at hlf;omega
      clear hn hP cf hch hlf hop hk ho lm
      go_upto_region 5 with fail
      go_quiet (fail)
      obtain ⟨wA,hwA⟩:∃wA,wA=wr.drewN nq:=⟨_,rfl⟩
      have kA:Kept aA wr wA:=by rw [hwA];exact (Kept.refl aA wr).drewN nq
      have IA:=ah (I.out.quiet kA)
      have hPA:=HP.out.kept kA (fun h=>h) (fun h=>h)
      have IG:=ah hPA
      have lvA:=kA.cell (HLV.out.kept I.out.kept (fun b hb=>by have:=UG.out;omega)).lt (fun h=>h) (o:=j)
      rw [LV.out] at lvA
      have agS:∀i,(Instr.lookup 275 (.map (some mj)) (.string t.text) false).run Tryz.prog (wA.drewN i)=.ok (.int .i64 op) (wA.drewN i):=by
       intro i;rw [hwA,World.drewN_drewN];exact hlook _
      rw [←hwA]
      clear hwA hlook lv c0 c1 cd t0 t1 t2
      obtain ⟨c0,c1,cd,cf⟩:=hPA.c0
      obtain ⟨o',ho',t0,t1,t2⟩:=hPA.head
      simp only [Option.some.injEq,Addr.mk.injEq,true_and,and_true] at ho'
      subst ho'
      clear hPA cf
      go_upto_region 6 with fail
      go_quiet (fail)
      obtain ⟨wB,hwB⟩:∃wB,wB=wA.drewN nq:=⟨_,rfl⟩
      have kB:Kept aA wA wB:=by rw [hwB];exact (Kept.refl aA wA).drewN nq
      have IB:=ah (IA.out.quiet kB)
      have hPB:=IG.out.kept kB (fun h=>h) (fun h=>h)
      rw [←hwB]
      clear hwB agS lvA c0 c1 cd t0 t1 t2
      obtain ⟨c0,c1,cd,cf⟩:=hPB.c0
      obtain ⟨n',a',c',hn',hslB,hR⟩:=hPB.rest
      have hs1:=hslB wB
      have TQ:=cf 0
      obtain ⟨wC,hwC⟩:∃wC,wC=wB.setCell ⟨N,0,none⟩ (.slice a' n' c'):=⟨_,rfl⟩
      have kC:Kept (· = N) wB wC:=by rw [hwC];exact (Kept.refl (· = N) wB).setCell (p:=⟨N,0,none⟩) (.inl rfl) _
      rw [←hwC] at hR
      have IC:=ah (IB.out.aS (by have:=hsz.out;omega) (by have:=hsz.out;omega) kC ⟨_,_,_,hR⟩)
      have HWC:=ah hwC
      clear hslB hPB hR cf hwC kC kB kA
      go_upto_region 7 with fail
      rw [←HWC.out]
      clear hs1 c0 c1 cd TQ
      obtain ⟨x0,x1,x2,x3,x4,xf⟩:=IC.out.five.cells
      have xf0:=xf 0;have xf1:=xf 1;have xf2:=xf 2;have xf3:=xf 3;have xf4:=xf 4
      clear xf
      have hs2:=HSL.out wC.drew
      have CB:=ah (LW.out r2 wC.drew lo B (IC.out.bI.kept (Kept.refl aA wC).drew (fun h=>h) (fun h=>h)) (HLV.out.kept (IC.out.kept.trans ((Kept.refl _ wC).drew)) (fun b hb=>by have:=UG.out;omega)) UG.out)
      go_region_with (go_at_call 129;(refine CB.out.mono ?_);intro e w3 eG;rcases hu:sub r2 with e0|⟨y,r3⟩;(obtain ⟨bF,rfl⟩:=eG.bad hu;have er0:oZ (j+1) sub l=.error e0:=(by rw [jW.out,hu]);have fin0:XQ N T en d (oZ (j+1) sub l) w (.panicked [{v:=bK e0,recovered:=false}]) w3:=⟨IC.out.kept.trans ((Kept.refl (· = N) wC).drew.trans bF),by rw [er0];exact rfl⟩;exact ⟨rfl,fin0⟩);(obtain ⟨bF,iO,S2,kc,cc,rfl,iP,iQ,fZ⟩:=eG.ok hu;have K3:=ah ((Kept.refl (· = N) wC).drew.trans bF);have R3:=ah iO;have HS2:=ah iP;have HZ2:=ah iQ;have CS:=ah fZ;have HU:=ah hu;have I3:=ah (IC.out.aS (by have:=hsz.out;omega) (by have:=hsz.out;omega) K3.out R3.out);obtain ⟨y0,y1,y2,y3,y4,-⟩:=I3.out.five.cells;obtain ⟨g0,g1,g2,g3,g4,gf⟩:=(I3.out.five.kept ((Kept.refl aA w3).alloc (.cells #[.int .i64 x.kind,.string x.text,.int .i64 x.n,.string x.name,.slice kb x.kids.length cb,.int .i64 y.kind,.string y.text,.int .i64 y.n,.string y.name,.slice kc y.kids.length cc] 54)) (fun h=>h)).cells;have gf0:=gf 0;have gf1:=gf 1;have gf2:=gf 2;have gf3:=gf 3;have gf4:=gf 4;clear gf bF iO iP iQ fZ eG hu))
      all_goals
       have er:Hid (oZ (j+1) sub l=oP (j+1) sub g (node2 op x y) r3):=by unfold Hid;rw [jW.out,HU.out]
       have HR3:Hid (r3.length≤g):=by have:=HSH.out r2 y r3 HU.out;have:=HLF.out;unfold Hid;omega
       have I5:Hid (fQ N T en d M4 M5 w (node2 op x y) (some ⟨w3.heap.size,0,none⟩) 2 r3 (fP (w3.alloc (.cells #[.int .i64 x.kind,.string x.text,.int .i64 x.n,.string x.name,.slice kb x.kids.length cb,.int .i64 y.kind,.string y.text,.int .i64 y.n,.string y.name,.slice kc y.kids.length cc] 54)) M5 (.int .i64 op) (.string ⟨#[]⟩) (.int .i64 0) (.string ⟨#[]⟩) (.slice (some ⟨w3.heap.size,0,none⟩) 2 2))):=(IC.out.step op (by have:=hsz.out;omega) (by have:=hsz.out;omega) (by have:=hsz.out;omega) (by have:=hsz.out;omega) hN hT K3.out R3.out (fun b hb=>HS2.out b hb) HZ2.out CS.out rfl)
       go_wp2_with fail
       go_roundg g
       case measure=>omega
       case rel=>exact ⟨node2 op x y,r3,_,_,HR3.out,I5,er⟩
     ·have y3:decide (0<op)=false:=au ho
      have fin:Hid (oZ (j+1) sub l=.ok (x,t::r2)):=by unfold Hid;rw [hch.out];cases gk with
       | zero=>rfl
       | succ g=>rw [oP,if_neg (by show ¬0<(if t.kind=5 then Di (j+1) t.text else 0);rw [if_pos hk,←hop];exact ho)]
      clear hn hP cf hch hlf hop hk ho lm
      go_wp2_with fail
      go_quiet (fail)
      have I2:=ah (I.out.quiet ((Kept.refl aA wr).drewN nq))
      obtain ⟨x0,x1,x2,x3,x4,_⟩:=I2.out.five.cells
      obtain ⟨z0,z1,z2,z3,z4,zf⟩:=I2.out.zero.cells
      have xA:=zf 0;have xB:=zf 1;have xC:=zf 2;have yB:=zf 3;have yC:=zf 4
      clear zf
      go_wp2_with fail
      exact iD 4 rfl rfl (I2.out.zero.fP _ _ _ _ _) (I2.out.fin (by have:=hsz.out;omega) (by have:=hsz.out;omega) (by have:=hsz.out;omega) hN fin.out)
    ·have y:(t.kind==5)=false:=by simpa using hk
     have fin:Hid (oZ (j+1) sub l=.ok (x,t::r2)):=by unfold Hid;rw [hch.out];cases gk with
      | zero=>rfl
      | succ g=>rw [oP,if_neg (by show ¬0<(if t.kind=5 then Di (j+1) t.text else 0);rw [if_neg hk];decide)]
     clear hn hP cf hch hlf hop hk lm hlook
     go_wp2_with fail
     go_quiet (fail)
     have I2:=ah (I.out.quiet ((Kept.refl aA wr).drewN nq))
     obtain ⟨x0,x1,x2,x3,x4,_⟩:=I2.out.five.cells
     obtain ⟨z0,z1,z2,z3,z4,zf⟩:=I2.out.zero.cells
     have xA:=zf 0;have xB:=zf 1;have xC:=zf 2;have yB:=zf 3;have yC:=zf 4
     clear zf
     go_wp2_with fail
     exact iD 4 rfl rfl (I2.out.zero.fP _ _ _ _ _) (I2.out.fin (by have:=hsz.out;omega) (by have:=hsz.out;omega) (by have:=hsz.out;omega) hN fin.out)
end Go.Proofs.YtgoijmpahffnhaaGreatDoor
