/-  -/
import Derived.Test.YtodebjhalipefaaGreatDoorLq22
import Derived.Test.YtodebjhalipefaaGreatDoorTk3
import Derived.WalkLawsBesides
namespace Go.Proofs.YtodebjhalipefaaGreatDoor
set_option linter.all false
open Go.RowKit
set_option maxRecDepth 100000
set_option maxHeartbeats 1000000
theorem bW {a b:aj}:(a.toList==b.toList)=decide (a=b):=by
 rw [Bool.eq_iff_iff,decide_eq_true_eq,beq_iff_eq,ByteArray.toList_eq,ByteArray.toList_eq]
 constructor
 ·intro h
  obtain ⟨x⟩:=a;obtain ⟨y⟩:=b
  have:x=y:=by rw [←Array.toList_inj];exact h
  rw [this]
 ·rintro rfl;rfl
def oD (l:List aC):Prop:=∀t∈l,t.at_≤1000000∧t.text.size≤1000000∧t.kind≠4∧(t.kind=2→t.text.size≠0∧∀c∈t.text.data.toList,48≤c.toNat∧c.toNat≤57)∧(t.kind=1→t.text.size≠0)
def iD (w:World):Prop:=∃ev,w.cell? ⟨5,0,none⟩=some ev∧(ev=.nilIface∨∃te pe,ev=.iface te pe)
structure rQ (N T en n:Nat) (a:Option Addr) (c:Nat) (l:List aC) (d:Nat) (w:World):Prop where
 blk:w.heap[N]?=some (.cells #[.slice a n c,.int .i64 en,.int .i64 d] 99 (0,0))
 num:n=l.length
 cap:n≤c
 toks:l≠[]→∃o,a=some ⟨T,o,none⟩∧∀j u,(jK l)[j]?=some u→w.cell? ⟨T,o+j,none⟩=some u
 ne:N≠T
 lt:T<w.heap.size
 small:c≤9223372036854775807
 good:oD l
 old:5<N
 rng:iD w
theorem rQ.jm {N T en n c d:Nat} {a:Option Addr} {l:List aC} {w:World} (h:rQ N T en n a c l d w):N<w.heap.size:=(Array.getElem?_eq_some_iff.1 h.blk).1
theorem rQ.c0 {N T en n c d:Nat} {a:Option Addr} {l:List aC} {w:World} (h:rQ N T en n a c l d w):w.cell? ⟨N,0,none⟩=some (.slice a n c)∧w.cell? ⟨N,1,none⟩=some (.int .i64 en)∧w.cell? ⟨N,2,none⟩=some (.int .i64 d)∧∀o,w.frozen? ⟨N,o,none⟩=false:=by
 refine ⟨?_,?_,?_,fun o=>by simp [World.frozen?,h.blk]⟩<;>(rw [cell_of_row w N _ _ _ _ h.blk];rfl)
theorem rQ.kept {N T en n c d:Nat} {a:Option Addr} {l:List aC} {w w':World} {X:Nat→Prop} (h:rQ N T en n a c l d w) (hk:Kept X w w') (hx:¬X N) (hy:¬X T) (hz:¬X 5:=by exact fun h=>h):rQ N T en n a c l d w' :=
 ⟨by rw [hk.block N h.jm hx];exact h.blk,h.num,h.cap,fun hl=>by obtain ⟨o,e,hc⟩:=h.toks hl;exact ⟨o,e,fun j u hu=>(hk.cell h.lt hy).trans (hc j u hu)⟩,h.ne,Nat.lt_of_lt_of_le h.lt hk.size,h.small,h.good,h.old,by obtain ⟨ev,h1,h2⟩:=h.rng;exact ⟨ev,(hk.cell (Nat.lt_trans h.old h.jm) hz).trans h1,h2⟩⟩
theorem rQ.head {N T en n c d:Nat} {a:Option Addr} {t:aC} {r:List aC} {w:World} (h:rQ N T en n a c (t::r) d w):∃o,a=some ⟨T,o,none⟩∧w.cell? ⟨T,o,none⟩=some (.int .i64 t.kind)∧w.cell? ⟨T,o+1,none⟩=some (.string t.text)∧w.cell? ⟨T,o+2,none⟩=some (.int .i64 t.at_):=by
 obtain ⟨o,e,hc⟩:=h.toks (by simp)
 have e2:jK (t::r)=Dq t++jK r:=by simp [jK]
 rw [e2] at hc
 exact ⟨o,e,hc 0 _ rfl,hc 1 _ rfl,hc 2 _ rfl⟩
theorem rQ.rest {N T en n c d:Nat} {a:Option Addr} {t:aC} {r:List aC} {w:World} (h:rQ N T en n a c (t::r) d w) :
  ∃n' a' c',Hid (n'=r.length)∧(∀wx,(Instr.slice 92 (.slice a n c) (some (.int .i64 1)) none none).run Tryz.prog wx=.ok (.slice a' n' c') wx)∧rQ N T en n' a' c' r d (w.setCell ⟨N,0,none⟩ (.slice a' n' c')):=by
 obtain ⟨o,e,hc⟩:=h.toks (by simp)
 have hn:=h.num;have hcap:=h.cap
 rw [List.length_cons] at hn
 subst e
 have hne:=h.ne
 refine ⟨n-1,if c=1 then some ⟨T,o,none⟩ else some ⟨T,o+3,none⟩,c-1,by unfold Hid;omega,fun wx=>?_,?_⟩
 ·have hsz:(sizeOf 130).run Tryz.prog wx=.ok 3 wx:=by kernel_rfl
  have hle:(1:Int)≤(n:Int):=by omega
  unfold Instr.slice Instr.sliceBounds Instr.sliceBound
  simp only [Sem.run_bind,run_underlying Tryz.underlying92,Result.andThen_ok,Sem.run_pure,asIntOf]
  rw [if_pos ⟨by decide,by omega⟩]
  simp only [Sem.run_pure,Result.andThen_ok,hsz]
  by_cases hc1:c=1
  ·subst hc1;simp
  ·have hc2:¬c=Int.toNat 1:=by simpa using hc1
   rw [if_neg hc2,if_neg hc1]
   simp [Addr.add]
 ·have hk:Kept (· = N) w (w.setCell ⟨N,0,none⟩ (.slice (if c=1 then some ⟨T,o,none⟩ else some ⟨T,o+3,none⟩) (n-1) (c-1))):=(Kept.refl (· = N) w).setCell (p:=⟨N,0,none⟩) (.inl rfl) _
  refine ⟨?_,by omega,by omega,fun hr=>?_,hne,Nat.lt_of_lt_of_le h.lt hk.size,by have:=h.small;omega,fun u hu=>h.good u (List.mem_cons_of_mem _ hu),h.old,by obtain ⟨ev,h1,h2⟩:=h.rng;exact ⟨ev,(hk.cell (Nat.lt_trans h.old h.jm) (Nat.ne_of_lt h.old)).trans h1,h2⟩⟩
  ·rw [aO h.blk];rfl
  ·have hr0:0<r.length:=List.length_pos_iff.2 hr
   refine ⟨o+3,by rw [if_neg (by omega)],fun j u hu=>(hk.cell h.lt (fun e=>hne e.symm)).trans ?_⟩
   rw [show o+3+j=o+(3+j) by omega]
   refine hc _ _ ?_
   have e2:jK (t::r)=Dq t++jK r:=by simp [jK]
   rw [e2,List.getElem?_append_right (by simp [Dq])]
   simpa [Dq] using hu
def bI (er:Er):Value:=.iface 96 (.agg #[.int .i64 er.1,.int .i64 er.2])
def jo (er:Er) (e:Ending):Prop:=e=.panicked [{v:=bI er,recovered:=false}]
theorem dD (a:Value) (er:Int) (i:Nat) (w:World):Calls Tryz.prog 70 #[a,.int .i64 er,.int .i64 i] w fun e w'=>jo (er,i) e∧w=w':=by
 go_enter Tryz.func70, Tryz.ntmps70
 go_wp2_with fail
 exact ⟨rfl,rfl,rfl⟩
theorem kU {N T en n c d:Nat} {a:Option Addr} {l:List aC} {w:World} (h:rQ N T en n a c l d w):Calls Tryz.prog 71 #[.pointer (some ⟨N,0,none⟩)] w (vP (dJ en l) w):=by
 obtain ⟨c0,c1,c2,_⟩:=h.c0
 have hn:=h.num
 cases l with
 | nil =>
  have z:((n:Int)==0)=true:=by rw [hn];rfl
  clear hn
  go_enter Tryz.func71, Tryz.ntmps71
  go_wp2_with fail
  go_ret
  exact ⟨rfl,rfl⟩
 | cons t r =>
  rw [List.length_cons] at hn
  have z:((n:Int)==0)=false:=by simp;omega
  have h0:0<n:=by omega
  have h1:(0:Int)<(n:Int):=by omega
  obtain ⟨o,rfl,t0,t1,t2⟩:=h.head
  clear hn h
  go_enter Tryz.func71, Tryz.ntmps71
  go_wp2_with fail
  go_ret
  exact ⟨rfl,rfl⟩
theorem yE {N T en n c d:Nat} {a:Option Addr} {l:List aC} {w:World} (x:aj) (h:rQ N T en n a c l d w):Calls Tryz.prog 66 #[.pointer (some ⟨N,0,none⟩),.string x] w (LZ (aG x l) w):=by
 obtain ⟨c0,c1,c2,_⟩:=h.c0
 have hn:=h.num
 cases l with
 | nil =>
  have z:decide ((0:Int)<(n:Int))=false:=by rw [hn];rfl
  have z':decide (0<n)=false:=by rw [hn];rfl
  clear hn
  go_enter Tryz.func66, Tryz.ntmps66
  go_wp2_with fail
  go_ret
  exact ⟨rfl,rfl⟩
 | cons t r =>
  rw [List.length_cons] at hn
  have h0:0<n:=by omega
  have h1:(0:Int)<(n:Int):=by omega
  have z:decide ((0:Int)<(n:Int))=true:=ak h1
  have z':decide (0<n)=true:=ak h0
  obtain ⟨o,rfl,t0,t1,t2⟩:=h.head
  clear hn h
  by_cases hk:t.kind=5
  ·have y:(t.kind==5)=true:=by simpa using hk
   by_cases hx:t.text=x
   ·have y2:(t.text.toList==x.toList)=true:=by rw [bW];simpa using hx
    have fin:Hid (aG x (t::r)=true):=ak ⟨hk,hx⟩
    clear hk hx
    go_enter Tryz.func66, Tryz.ntmps66
    go_wp2_with fail
    go_ret
    exact ⟨by rw [fin.out];rfl,rfl⟩
   ·have y2:(t.text.toList==x.toList)=false:=by rw [bW];simpa using hx
    have fin:Hid (aG x (t::r)=false):=au (fun h=>hx h.2)
    clear hk hx
    go_enter Tryz.func66, Tryz.ntmps66
    go_wp2_with fail
    go_ret
    exact ⟨by rw [fin.out];rfl,rfl⟩
  ·have y:(t.kind==5)=false:=by simpa using hk
   have fin:Hid (aG x (t::r)=false):=au (fun h=>hk h.1)
   clear hk
   go_enter Tryz.func66, Tryz.ntmps66
   go_wp2_with fail
   go_ret
   exact ⟨by rw [fin.out];rfl,rfl⟩
end Go.Proofs.YtodebjhalipefaaGreatDoor

namespace Go.Proofs.YtodebjhalipefaaGreatDoor
set_option linter.all false
open Go.RowKit
set_option maxRecDepth 100000
set_option maxHeartbeats 2000000
def bV (N T en:Nat) (l:List aC) (d:Nat) (w:World):Prop:=∃n a c,rQ N T en n a c l d w
theorem bV.kept {N T en d:Nat} {l:List aC} {w w':World} {X:Nat→Prop} (h:bV N T en l d w) (hk:Kept X w w') (hx:¬X N) (hy:¬X T) (hz:¬X 5:=by exact fun h=>h):bV N T en l d w':=by
 obtain ⟨n,a,c,h⟩:=h;exact ⟨n,a,c,h.kept hk hx hy hz⟩
def AO (x:aj) (N T en:Nat) (l:List aC) (d:Nat) (w:World) (e:Ending) (w':World):Prop :=
 e=.returned (.bool (aG x l))∧bV N T en (if aG x l=true then l.tail else l) d w'∧Kept (· = N) w w'
theorem wR {N T en d:Nat} {l:List aC} {w:World} (x:aj) (h:bV N T en l d w):Calls Tryz.prog 68 #[.pointer (some ⟨N,0,none⟩),.string x] w (AO x N T en l d w):=by
 obtain ⟨n,a,c,h⟩:=h
 have HS:=ah (yE x h)
 cases hs:aG x l with
 | false =>
  rw [hs] at HS
  have fin:Hid (AO x N T en l d w (.returned (.bool false)) w):=by unfold Hid AO;rw [hs];exact ⟨rfl,⟨n,a,c,h⟩,Kept.refl _ _⟩
  clear h hs
  go_enter Tryz.func68, Tryz.ntmps68
  go_wp2_with (go_at_call 66;(refine HS.out.mono ?_);rintro e w' ⟨rfl,aH⟩;obtain rfl:=aH.symm)
  go_ret
  exact fin.out
 | true =>
  rw [hs] at HS
  cases l with
  | nil=>cases hs
  | cons t r =>
   obtain ⟨c0,c1,c2,cf⟩:=h.c0
   obtain ⟨n',a',c',hn',hsl,hR⟩:=h.rest
   have hs1:=hsl w
   have Ro:=cf 0
   have fin:Hid (AO x N T en (t::r) d w (.returned (.bool true)) (w.setCell ⟨N,0,none⟩ (.slice a' n' c'))):=by unfold Hid AO;rw [hs];exact ⟨rfl,⟨_,_,_,hR⟩,(Kept.refl (· = N) w).setCell (p:=⟨N,0,none⟩) (.inl rfl) _⟩
   clear h hs hsl hR cf
   go_enter Tryz.func68, Tryz.ntmps68
   go_wp2_with (go_at_call 66;(refine HS.out.mono ?_);rintro e w' ⟨rfl,aH⟩;obtain rfl:=aH.symm)
   go_ret
   exact fin.out
def qE (x:aj) (N T en:Nat) (l:List aC) (d:Nat) (w:World) (e:Ending) (w':World):Prop :=
 Kept (· = N) w w'∧match dW x en l with
  | .ok r=>e=.returned (.tuple #[])∧bV N T en r d w'
  | .error er=>jo er e
theorem jd {N T en d:Nat} {l:List aC} {w:World} (x:aj) (h:bV N T en l d w):Calls Tryz.prog 103 #[.pointer (some ⟨N,0,none⟩),.string x] w (qE x N T en l d w):=by
 have HS:=ah (wR x h)
 unfold AO at HS
 cases hs:aG x l with
 | true =>
  rw [hs] at HS
  have e2:Hid (dW x en l=.ok l.tail):=by unfold Hid dW;rw [if_pos hs]
  clear h hs
  go_enter Tryz.func103, Tryz.ntmps103
  go_wp2_with (go_at_call 68;(refine HS.out.mono ?_);rintro e w1 ⟨rfl,dV,bF⟩;have R1:=ah dV;have K1:=ah bF;clear dV bF)
  first|go_end0|(refine bodyPost_ret (results_none rfl _ _ _) rfl ?_)
  refine ⟨K1.out,?_⟩
  rw [e2.out]
  exact ⟨rfl,R1.out⟩
 | false =>
  rw [hs] at HS
  have e2:Hid (dW x en l=.error (2,dJ en l)):=by unfold Hid dW;rw [if_neg (by simp [hs])]
  clear h hs
  go_enter Tryz.func103, Tryz.ntmps103
  go_wp2_with (first
   | (go_at_call 68;(refine HS.out.mono ?_);rintro e w1 ⟨rfl,dV,bF⟩;obtain ⟨n1,a1,c1,dV⟩:=dV;have R1:=ah dV;have K1:=ah bF;clear dV bF)
   | (go_at_call 71;(refine (kU R1.out).mono ?_);rintro e w' ⟨rfl,aH⟩;obtain rfl:=aH.symm)
   | (go_at_call 70;(refine (dD _ 2 (dJ en l) w1).mono ?_);rintro e w2 ⟨rfl,rfl⟩))
  refine ⟨rfl,K1.out,?_⟩
  rw [e2.out]
  exact rfl
def EI (t:aC):Value:=.agg #[.int .i64 t.kind,.string t.text,.int .i64 t.at_]
def AP (w:World) (M:Nat) (c0 c1 c2:Value):World:=((w.setCell ⟨M,0,none⟩ c0).setCell ⟨M,1,none⟩ c1).setCell ⟨M,2,none⟩ c2
theorem nX.AP {M:Nat} {t:aC} {w:World} (h:nX M t w) (t2:aC):nX M t2 (AP w M (.int .i64 t2.kind) (.string t2.text) (.int .i64 t2.at_)):=by
 unfold nX at *
 simp [Go.Proofs.YtodebjhalipefaaGreatDoor.AP,World.setCell,Array.getElem?_modify,h]
theorem Kept.AP {X:Nat→Prop} {a w:World} (h:Kept X a w) {M:Nat} (hM:X M∨a.heap.size≤M) (c0 c1 c2:Value):Kept X a (AP w M c0 c1 c2) :=
 ((h.setCell (p:=⟨M,0,none⟩) hM _).setCell (p:=⟨M,1,none⟩) hM _).setCell (p:=⟨M,2,none⟩) hM _
theorem abl {f:Func} {tmps:Array Value} {M:Nat} {t:aC} {w2:World} {Q:Ending→World→Prop} (hres:f.results = #[.cell 4 130]) (ht:tmps.getD 4 undef=.pointer (some ⟨M,0,none⟩)) (hF:nX M t w2)
  (hq:Q (.returned (EI t)) w2):bodyPost Tryz.prog f Q .ret ⟨tmps,[]⟩ w2:=by
 obtain ⟨h0,h1,h2,_⟩:=hF.cells
 have ht':tmps[4]?.getD undef=.pointer (some ⟨M,0,none⟩):=by rw [←ht,Array.getD_eq_getD_getElem?]
 exact bodyPost_ret (v:=EI t) (by simp [results,hres,go_sem,ht',h0,h1,h2,EI]) rfl hq
def tu (k:Int) (N T en:Nat) (l:List aC) (d:Nat) (w:World) (e:Ending) (w':World):Prop :=
 Kept (· = N) w w'∧match dZ k en l with
  | .ok (t,r)=>e=.returned (EI t)∧bV N T en r d w'
  | .error er=>jo er e
theorem rU {N T en d:Nat} {l:List aC} {w:World} (k:Int) (h:bV N T en l d w):Calls Tryz.prog 101 #[.pointer (some ⟨N,0,none⟩),.int .i64 k] w (tu k N T en l d w):=by
 obtain ⟨n,a,c,h⟩:=h
 have hN:=h.jm;have hT:=h.lt;have hne:=h.ne;have h7:=h.old
 obtain ⟨w0,hw0⟩:∃w0,w0=w.alloc (.cells #[.int .i64 0,.string ⟨#[]⟩,.int .i64 0] 130):=⟨_,rfl⟩
 have k0:Kept aA w w0:=by rw [hw0];exact (Kept.refl _ _).alloc _
 have Z0:Hid (nX w.heap.size ⟨0,⟨#[]⟩,0⟩ w0):=by rw [hw0];exact ay w _
 have P0:=h.kept k0 (fun h=>h) (fun h=>h)
 have K0:=ah k0;have HW0:=ah hw0
 obtain ⟨c0,c1,c2,cf⟩:=P0.c0
 have hn:=P0.num
 have HA:=ah (kU P0)
 clear h k0 hw0
 cases l with
 | nil =>
  have z:((n:Int)==0)=true:=by rw [hn];rfl
  clear hn cf P0
  go_enter Tryz.func101, Tryz.ntmps101
  go_upto_region 1 with fail
  rw [←HW0.out]
  go_wp2_with (first
   | (go_at_call 71;(refine HA.out.mono ?_);rintro e w' ⟨rfl,aH⟩;obtain rfl:=aH.symm)
   | (go_at_call 70;(refine (dD _ 2 (dJ en []) w0).mono ?_);rintro e w2 ⟨rfl,rfl⟩))
  exact ⟨rfl,K0.out.more (fun _ h=>h.elim),rfl⟩
 | cons t r =>
  rw [List.length_cons] at hn
  have h0:0<n:=by omega
  have h1:(0:Int)<(n:Int):=by omega
  have z:((n:Int)==0)=false:=by simp;omega
  obtain ⟨o,rfl,t0,t1,t2⟩:=P0.head
  by_cases hk:t.kind=k
  ·have y:(t.kind != k)=false:=by simpa using hk
   have fin:Hid (dZ k en (t::r)=.ok (t,r)):=by unfold Hid;show (if t.kind=k then Except.ok (t,r) else Except.error (2,t.at_))=_;rw [if_pos hk]
   obtain ⟨w1,hw1⟩:∃w1,w1=w0.alloc (.cells #[.int .i64 t.kind,.string t.text,.int .i64 t.at_] 130):=⟨_,rfl⟩
   have k1:Kept aA w0 w1:=by rw [hw1];exact (Kept.refl _ _).alloc _
   have T1:Hid (nX w0.heap.size t w1):=by rw [hw1];exact ay w0 _
   have P1:=P0.kept k1 (fun h=>h) (fun h=>h)
   obtain ⟨q0,q1,q2,qf⟩:=P1.c0
   obtain ⟨n',a',c',hn',hsl,hR⟩:=P1.rest
   have hs1:=hsl w1
   have Hg:=qf 0
   have kN:Kept (· = N) w1 (w1.setCell ⟨N,0,none⟩ (.slice a' n' c')):=(Kept.refl (· = N) w1).setCell (p:=⟨N,0,none⟩) (.inl rfl) _
   obtain ⟨w2,hw2⟩:∃w2,w2=w1.setCell ⟨N,0,none⟩ (.slice a' n' c'):=⟨_,rfl⟩
   rw [←hw2] at hR kN
   have hz0:w0.heap.size=w.heap.size+1:=by rw [HW0.out];simp
   have T2:=ah (T1.out.kept kN (by omega));have Z2:=ah ((Z0.out.kept k1 (fun h=>h)).kept kN (by omega))
   have HR2:=ah hR;have KN:=ah kN;have K1:=ah k1
   have HW1:=ah hw1;have HW2:=ah hw2;have HZ0:=ah hz0
   obtain ⟨M5,lM⟩:∃M,M=w0.heap.size:=⟨_,rfl⟩
   obtain ⟨M4,Dt⟩:∃M,M=w.heap.size:=⟨_,rfl⟩
   rw [←lM] at T1 T2
   rw [←Dt] at Z0 Z2
   have HM5:=ah lM;have tC:=ah Dt
   clear hn hk hw1 hw2 hR kN k1 hsl qf P0 P1 hz0 lM Dt
   go_enter Tryz.func101, Tryz.ntmps101
   go_upto_region 1 with fail
   rw [←HW0.out,←tC.out]
   go_upto_region 4 with fail
   rw [←HW1.out,←HM5.out]
   go_upto_region 5 with fail
   rw [←HW2.out]
   obtain ⟨u0,u1,u2,_⟩:=T2.out.cells
   obtain ⟨z0,z1,z2,zf⟩:=Z2.out.cells
   have vY:=zf 0;have vZ:=zf 1;have wo:=zf 2
   clear zf
   go_wp2_with fail
   refine abl rfl rfl (Z2.out.AP t) ⟨?_,?_⟩
   ·exact (((K0.out.trans K1.out).more (fun _ h=>h.elim)).trans KN.out).AP (.inr (Nat.le_of_eq tC.out.symm)) _ _ _
   ·rw [fin.out]
    have k3:Kept (· = M4) w2 (Go.Proofs.YtodebjhalipefaaGreatDoor.AP w2 M4 (.int .i64 t.kind) (.string t.text) (.int .i64 t.at_)):=(Kept.refl (· = M4) w2).AP (.inl rfl) _ _ _
    exact ⟨rfl,_,_,_,HR2.out.kept k3 (by have:=tC.out;omega) (by have:=tC.out;omega) (by have:=tC.out;omega)⟩
  ·have y:(t.kind != k)=true:=by simpa using hk
   have fin:Hid (dZ k en (t::r)=.error (2,t.at_)):=by unfold Hid;show (if t.kind=k then Except.ok (t,r) else Except.error (2,t.at_))=_;rw [if_neg hk]
   clear hn hk cf P0
   go_enter Tryz.func101, Tryz.ntmps101
   go_upto_region 1 with fail
   rw [←HW0.out]
   go_wp2_with (first
    | (go_at_call 71;(refine HA.out.mono ?_);rintro e w' ⟨rfl,aH⟩;obtain rfl:=aH.symm)
    | (go_at_call 70;(refine (dD _ 2 (dJ en (t::r)) w0).mono ?_);rintro e w2 ⟨rfl,rfl⟩))
   refine ⟨rfl,K0.out.more (fun _ h=>h.elim),?_⟩
   rw [fin.out]
   exact rfl
end Go.Proofs.YtodebjhalipefaaGreatDoor
