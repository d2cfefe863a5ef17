/-  -/
import Derived.Test.YtefjbnhpjdhjmaaGreatDoorTs14
import Derived.Test.YtefjbnhpjdhjmaaGreatDoorTs17
namespace Go.Proofs.YtefjbnhpjdhjmaaGreatDoor
set_option linter.all false
open Go.RowKit
set_option maxRecDepth 100000
set_option maxHeartbeats 4000000
def JT (A B C:Nat) (p3 p4 p5:Bool) (a:ig) (s:aN) (v c0 c1:Value) (w:World):Prop:=sV A B C w∧(p3=true→dF A a s w)∧(p4=true→gG w B 4 v)∧(p5=true→Two C c0 c1 w)
section
variable {A B C:Nat} {p3 p4 p5:Bool} {a:ig} {s:aN} {v c0 c1:Value} {w:World}
theorem JT.sB (hne:A≠B∧A≠C∧B≠C) (h:JT A B C p3 p4 p5 a s v c0 c1 w):JT A B C p3 true p5 a s v c0 c1 (w.setCell ⟨B,0,none⟩ v) :=
 ⟨ZP hne h.1,fun e=>ab5 hne (h.2.1 e),fun _=>QH h.1,fun e=>ZQ hne (h.2.2.2 e)⟩
theorem JT.sF (hne:A≠B∧A≠C∧B≠C) (h:JT A B C p3 p4 p5 a s v c0 c1 w):JT A B C p3 p4 true a s v c0 c1 ((w.setCell ⟨C,0,none⟩ c0).setCell ⟨C,1,none⟩ c1) :=
 ⟨Vj hne (Vh hne h.1),fun e=>RV hne (RV hne (h.2.1 e)),fun e=>MK hne (MK hne (h.2.2.1 e)),fun _=>QI h.1⟩
theorem JT.sS {w2:World} (hne:A≠B∧A≠C∧B≠C) (h:JT A B C p3 p4 p5 a s v c0 c1 w) (hk:Kept (· = A) w w2) (hB:dF A a s w2):JT A B C true p4 p5 a s v c0 c1 w2:=by
 obtain ⟨⟨a0,s0,v0,d0,d1,hT⟩,h3,h4,h5⟩:=h
 refine ⟨⟨_,_,_,_,_,hT.JI hne hk hB⟩,fun _=>hB,fun e=>?_,fun e=>(h5 e).kept hk (fun e=>hne.2.1 e.symm)⟩
 unfold gG;rw [hk.block B (h4 e).lt (fun e=>hne.1 e.symm)];exact h4 e
theorem JT.start (h:sV A B C w):JT A B C false false false a s v c0 c1 w.drew:=⟨NZ h,fun e=>(by cases e),fun e=>(by cases e),fun e=>(by cases e)⟩
end
theorem nZ {x:Act} {o:Oper} {p y:Operand} {A:Nat} {a0:ig} {s0:aN} {w:World} (ho:o.op=.store 30 p y) (hB0:dF A a0 s0 w) (hp:x.eval p=.pointer (some ⟨A,0,none⟩)) (sa:ig) (s:aN) (hx:x.eval y=bV sa s) :
  ∃w',(execOp x.eval o).run Tryz.prog w=.ok .skip w'∧dF A sa s w'∧Kept (· = A) w w':=by
 unfold dF at hB0
 obtain ⟨w',hr,hB,hk⟩:=Qv (sa:=sa) (s:=s) hB0 rfl
 refine ⟨w',?_,hB,hk⟩
 unfold execOp
 rw [ho]
 simp only [hp,hx,Sem.run_bind,hr,Result.andThen_ok,Sem.run_pure]
theorem wo {x:Act} {o:Oper} {p:Operand} {A:Nat} {sa:ig} {s:aN} {w:World} (ho:o.op=.load 30 p) (hB:dF A sa s w) (hp:x.eval p=.pointer (some ⟨A,0,none⟩)) :
  (execOp x.eval o).run Tryz.prog w=.ok (.value (bV sa s)) w:=by
 unfold execOp
 rw [ho]
 simp only [hp,Sem.run_bind,Ia hB.hc0,Result.andThen_ok,Sem.run_pure]
def ab7 (A B C:Nat) (er:Er) (w:World) (e:Ending) (u:FrameMode) (w':World):Prop :=
 e=.returned (.tuple #[])∧u=.panicking [{v:=dQ er,recovered:=true}]∧ji A B C nilA dU (.bool false) (.int .i64 er.1) (.int .i64 er.2) w'∧Kept (oW A B C) w w'
theorem RX (A B C:Nat) (hne:A≠B∧A≠C∧B≠C) (er:Er) (w:World) (hT:sV A B C w) :
  CallsD Tryz.prog 19 #[.pointer (some ⟨A,0,none⟩),.pointer (some ⟨B,0,none⟩),.pointer (some ⟨C,0,none⟩)] (.panicking [{v:=dQ er,recovered:=false}]) w (ab7 A B C er w):=by
 have hta:∀(x:Value) (w:World),(Instr.typeAssert (.iface 59 x) 20 59 true).run Tryz.prog w=.ok (.tuple #[x,.bool true]) w:=fun _ _=>by kernel_rfl
 refine callsD_of_wpS Tryz.func19 rfl fun c₀ cs hu=>?_
 obtain ⟨e1,e2⟩:=er
 have HU:=ah hu;have HT:=ah hT
 have hlA:A<w.heap.size∧B<w.heap.size∧C<w.heap.size:=by obtain ⟨a,s,v,c0,c1,h⟩:=hT;exact ⟨h.st.lt,h.bo.lt,h.fl.lt⟩
 apply wpS_seq
 apply wpS_region
 simp [wpOpsS,go_sem,recoverD,hu,Tryz.ntmps19,Exit.thenS]
 clear hT hu
 unfold dQ
 dsimp only
 show Code.wpS _ _ _ ⟨#[.pointer (some ⟨A,0,none⟩),.pointer (some ⟨B,0,none⟩),.pointer (some ⟨C,0,none⟩),undef,undef,undef,.iface 59 (.agg #[.int .i64 e1,.int .i64 e2]),undef,undef,undef,undef,undef,undef,undef,undef],[]⟩ _ _
 refine wpS_of_wp ?_
 go_upto_region 7 with fail
 obtain ⟨w6,hw6⟩:∃w6,w6=w.alloc (.cells #[.int .i64 e1,.int .i64 e2] 59):=⟨_,rfl⟩
 have k6:Kept aC w w6:=by rw [hw6];exact (Kept.refl aC w).alloc _
 have T6:=ah (HT.out.kept k6 ⟨fun h=>h,fun h=>h,fun h=>h⟩)
 have X6:w6.heap[w.heap.size]?=some (.cells #[.int .i64 e1,.int .i64 e2] 59 (0,0)):=by rw [hw6];exact ay w _
 obtain ⟨X,hX⟩:∃X,X=w.heap.size:=⟨_,rfl⟩
 rw [←hX] at X6 hlA
 rw [←hw6,←hX]
 have cx0:w6.cell? ⟨X,0,none⟩=some (.int .i64 e1):=by rw [cell_of_row w6 X _ _ _ _ X6];rfl
 have cx1:w6.cell? ⟨X,1,none⟩=some (.int .i64 e2):=by rw [cell_of_row w6 X _ _ _ _ X6];rfl
 have ZR:Hid (X<w6.heap.size∧¬oW A B C X):=⟨(Array.getElem?_eq_some_iff.1 X6).1,fun h=>by rcases h with h|h|h<;>omega⟩
 have K6:=ah k6
 have CX:=ah (And.intro cx0 cx1)
 clear hw6 k6 hX X6 cx0 cx1
 obtain ⟨Sp,hSp⟩:∃Sp:Nat→Value→World→Prop,Sp=(fun i v wx=>match i with
  | 0=>v=bV nilA dU
  | 1=>v=.pointer (some ⟨X,0,none⟩)
  | 2=>v=.agg #[.int .i64 e1,.int .i64 e2]
  | _=>True):=⟨_,rfl⟩
 obtain ⟨J,hJd⟩:∃J:(Nat→Bool)→(Nat→Value)→World→Prop,J=(fun pp f wx=>JT A B C (pp 3) (pp 4) (pp 5) nilA dU (.bool false) (.int .i64 e1) (.int .i64 e2) wx):=⟨_,rfl⟩
 refine mW (oW A B C) J Sp [12,13,14] (by kernel_rfl) (by kernel_rfl) (by kernel_rfl) (fun i v w w' h hk=>by subst hSp;exact h) ?_ ?_ ?_ ?_
 ·intro i o hi lq x wy hI hJ hlf haft
  rw [hJd] at hJ
  have hJ:JT A B C (lq 3) (lq 4) (lq 5) nilA dU (.bool false) (.int .i64 e1) (.int .i64 e2) wy:=hJ
  have s0:x.eval (.tmp 0)=.pointer (some ⟨A,0,none⟩):=hI.keep 0 _ rfl (by kernel_rfl)
  have s1:x.eval (.tmp 1)=.pointer (some ⟨B,0,none⟩):=hI.keep 1 _ rfl (by kernel_rfl)
  have s2:x.eval (.tmp 2)=.pointer (some ⟨C,0,none⟩):=hI.keep 2 _ rfl (by kernel_rfl)
  have s4:x.eval (.tmp 4)=.pointer (some ⟨X,0,none⟩):=hI.keep 4 _ rfl (by kernel_rfl)
  obtain ⟨⟨vb,cb⟩,fb,⟨vc,qO⟩,⟨vd,qP⟩,qQ,qR⟩:=hJ.1.cells
  have cx0:=(hI.kept.cell ZR.out.1 ZR.out.2 (o:=0)).trans CX.out.1
  have cx1:=(hI.kept.cell ZR.out.1 ZR.out.2 (o:=1)).trans CX.out.2
  have hjn:∀(l':Nat→Bool),(∀j,l' j=true↔j=i∨lq j=true)→(∀j∈([3,4,5]:List Nat),i≠j)→∀f,J l' f wy:=by
   intro l' hl hne f
   rw [hJd]
   show JT A B C (l' 3) (l' 4) (l' 5) nilA dU (.bool false) (.int .i64 e1) (.int .i64 e2) wy
   rw [upd_ne hl 3 (Ne.symm (hne 3 (by simp)))]
   rw [upd_ne hl 4 (Ne.symm (hne 4 (by simp)))]
   rw [upd_ne hl 5 (Ne.symm (hne 5 (by simp)))]
   exact hJ
  rcases i with _|_|_|_|_|_|i
  all_goals (simp only [List.getElem?_toArray,List.getElem?_cons_zero,List.getElem?_cons_succ,List.getElem?_nil,Option.some.injEq,reduceCtorEq] at hi)
  all_goals subst hi
  ·refine cu rfl ?_
   refine bJ (v:=bV nilA dU) ?_ (by subst hSp;exact rfl) (fun l' hl=>hjn l' hl (by decide) _)
   simp only [execOp,resolve,invoke,List.map_toArray,List.map_cons,List.map_nil,List.map_nil];go_simp;try rfl
  ·refine cu rfl ?_
   refine bJ (v:=.pointer (some ⟨X,0,none⟩)) ?_ (by subst hSp;exact rfl) (fun l' hl=>hjn l' hl (by decide) _)
   simp only [execOp,resolve,invoke,List.map_toArray,List.map_cons,List.map_nil,s4];go_simp
  ·refine cu rfl ?_
   have d13:x.eval (.tmp 13)=.pointer (some ⟨X,0,none⟩):=by have h_:=hI.dep haft 1 13 rfl rfl rfl;rw [hSp] at h_;exact h_
   refine bJ (v:=.agg #[.int .i64 e1,.int .i64 e2]) ?_ (by subst hSp;exact rfl) (fun l' hl=>hjn l' hl (by decide) _)
   simp only [execOp,resolve,invoke,List.map_toArray,List.map_cons,List.map_nil,d13];go_simp
  ·refine cu rfl ?_
   have d12:x.eval (.tmp 12)=bV nilA dU:=by have h_:=hI.dep haft 0 12 rfl rfl rfl;rw [hSp] at h_;exact h_
   obtain ⟨a0,s0_,v0_,c0_,c1_,hT0⟩:=hJ.1
   refine uK (F:=fun w'=>dF A nilA dU w'∧Kept (· = A) wy w') (nZ rfl hT0.st s0 nilA dU d12) rfl (fun w' hf=>hf.2.more fun _ h=>.inl h) (fun w' hf l' hl=>?_)
   rw [hJd]
   show JT A B C (l' 3) (l' 4) (l' 5) nilA dU (.bool false) (.int .i64 e1) (.int .i64 e2) w'
   rw [qV hl,upd_ne hl 4 (by decide),upd_ne hl 5 (by decide)]
   exact hJ.sS hne hf.2 hf.1
  ·refine cu rfl ?_
   refine kZ (w':=wy.setCell ⟨B,0,none⟩ (.bool false)) ?_ rfl (N9 (Kept.refl _ _)) (fun l' hl=>?_)
   ·simp only [execOp,resolve,invoke,List.map_toArray,List.map_cons,List.map_nil,s1];go_simp
   ·rw [hJd]
    show JT A B C (l' 3) (l' 4) (l' 5) nilA dU (.bool false) (.int .i64 e1) (.int .i64 e2) _
    rw [qV hl,upd_ne hl 3 (by decide),upd_ne hl 5 (by decide)]
    exact hJ.sB hne
  ·refine cu rfl ?_
   have zu:x.eval (.tmp 14)=.agg #[.int .i64 e1,.int .i64 e2]:=by have h_:=hI.dep haft 2 14 rfl rfl rfl;rw [hSp] at h_;exact h_
   refine kZ (w':=(wy.setCell ⟨C,0,none⟩ (.int .i64 e1)).setCell ⟨C,1,none⟩ (.int .i64 e2)) ?_ rfl (qC (qC (Kept.refl _ _))) (fun l' hl=>?_)
   ·simp only [execOp,resolve,invoke,List.map_toArray,List.map_cons,List.map_nil,s2,zu];go_simp
   ·rw [hJd]
    show JT A B C (l' 3) (l' 4) (l' 5) nilA dU (.bool false) (.int .i64 e1) (.int .i64 e2) _
    rw [qV hl,upd_ne hl 3 (by decide),upd_ne hl 4 (by decide)]
    exact hJ.sF hne
 ·intro lq hl
  rw [hJd]
  show JT A B C (lq 3) (lq 4) (lq 5) nilA dU (.bool false) (.int .i64 e1) (.int .i64 e2) w6.drew
  rw [hl 3 (by decide)]
  rw [hl 4 (by decide)]
  rw [hl 5 (by decide)]
  exact JT.start T6.out
 ·intro lq l' f wx hl h
  rw [hJd] at h⊢
  have h:JT A B C (lq 3) (lq 4) (lq 5) nilA dU (.bool false) (.int .i64 e1) (.int .i64 e2) wx:=h
  show JT A B C (l' 3) (l' 4) (l' 5) nilA dU (.bool false) (.int .i64 e1) (.int .i64 e2) wx
  rw [←hl 3 (by decide)]
  rw [←hl 4 (by decide)]
  rw [←hl 5 (by decide)]
  exact h
 ·intro f wy hK hS hJ
  rw [hJd] at hJ
  have hJ:JT A B C ((fun _=>true) 3) ((fun _=>true) 4) ((fun _=>true) 5) nilA dU (.bool false) (.int .i64 e1) (.int .i64 e2) wy:=hJ
  have K7:Kept (oW A B C) w6 wy:=hK
  simp only [jP,List.foldl_cons,List.foldl_nil,List.setIfInBounds_toArray,List.set_cons_zero,List.set_cons_succ]
  go_wp2_with fail
  exact ⟨rfl,_,rfl,.tuple #[],by simp [results,Tryz.results19,go_sem],rfl,rfl,⟨hJ.2.1 rfl,hJ.2.2.1 rfl,hJ.2.2.2 rfl⟩,(K6.out.more (fun _ h=>h.elim)).trans K7⟩
theorem IG (a b c:Value) (w:World) :
  CallsD Tryz.prog 19 #[a,b,c] .returning w fun e u' w'=>e=.returned (.tuple #[])∧u'=.returning∧w=w':=by
 refine callsD_of_wpS Tryz.func19 rfl fun c₀ cs hu=>?_
 have HU:=ah hu
 apply wpS_seq
 apply wpS_region
 simp [wpOpsS,go_sem,recoverD,hu,Tryz.ntmps19,Exit.thenS]
 clear hu
 show Code.wpS _ _ _ ⟨#[a,b,c,undef,undef,undef,.nilIface,undef,undef,undef,undef,undef,undef,undef,undef],[]⟩ _ _
 refine wpS_of_wp ?_
 go_wp2_with fail
 refine ⟨rfl,.returning,?_,.tuple #[],by simp [results,Tryz.results19,go_sem],rfl,rfl,rfl⟩
 have h:=HU.out
 cases c₀;simp_all
end Go.Proofs.YtefjbnhpjdhjmaaGreatDoor

namespace Go.Proofs.YtefjbnhpjdhjmaaGreatDoor
set_option linter.all false
open Go.RowKit
theorem PU {s:aj} {i:Nat} {h:i<s.size} {er:Er} (e:dR s i h=.bad er):er.1=2:=by
 unfold dR at e
 repeat' split at e
 all_goals first|(cases e;done)|(simp only [qm.bad.injEq] at e;subst e;rfl)
theorem Ej {s:aj}:∀(f i:Nat) (out:List aF) {er:Er},pJ s f i out=.error er→er.1=2
 | 0,_,_,er,h=>by cases h
 | f+1,i,out,er,h=>by
  rw [pJ] at h
  split at h
  ·split at h
   ·exact Ej f _ _ h
   ·exact Ej f _ _ h
   ·next e=>simp only [Except.error.injEq] at h;subst h;exact PU e
  ·cases h
theorem GK {s:aj} {er:Er} (h:nH s=.error er):er.1≠0:=by
 unfold nH at h
 split at h
 ·simp only [Except.error.injEq] at h;subst h;decide
 ·have:=Ej _ _ _ h;omega
theorem Oa {f:Func} {R:Ending→World→Prop} {w1:World} {tmps:Array Value} {A B C:Nat} {a:ig} {s:aN} {v c0 c1:Value} (hres:f.results = #[.cell 2 30,.cell 3 4,.cell 4 36]) (h2:tmps.getD 2 undef=.pointer (some ⟨A,0,none⟩)) (h3:tmps.getD 3 undef=.pointer (some ⟨B,0,none⟩)) (h4:tmps.getD 4 undef=.pointer (some ⟨C,0,none⟩))
  (hT:ji A B C a s v c0 c1 w1) (hR:R (.returned (.tuple #[bV a s,v,.agg #[c0,c1]])) w1) :
  bodyPostD Tryz.prog f R .ret ⟨tmps,[{target:=.fn (.func 19) #[.pointer (some ⟨A,0,none⟩),.pointer (some ⟨B,0,none⟩),.pointer (some ⟨C,0,none⟩)],args:=#[]}]⟩ w1:=by
 refine leaves_cons (f:=19) (args:=#[.pointer (some ⟨A,0,none⟩),.pointer (some ⟨B,0,none⟩),.pointer (some ⟨C,0,none⟩)]) (by simp) (by simp [go_sem]) ?_
 refine (IG _ _ _ w1).mono ?_
 rintro e u' w2 ⟨rfl,rfl,rfl⟩
 exact ⟨_,qE hres h2 h3 h4 hT,hR⟩
theorem IJ {f:Func} {R:Ending→World→Prop} {w1:World} {tmps:Array Value} {A B C:Nat} {er:Er} (hne:A≠B∧A≠C∧B≠C) (hres:f.results = #[.cell 2 30,.cell 3 4,.cell 4 36]) (h2:tmps.getD 2 undef=.pointer (some ⟨A,0,none⟩)) (h3:tmps.getD 3 undef=.pointer (some ⟨B,0,none⟩)) (h4:tmps.getD 4 undef=.pointer (some ⟨C,0,none⟩))
  (hT:sV A B C w1) (hR:∀w2,Kept (oW A B C) w1 w2→R (.returned (.tuple #[bV nilA dU,.bool false,.agg #[.int .i64 er.1,.int .i64 er.2]])) w2) :
  bodyPostD Tryz.prog f R (.panic [{v:=dQ er,recovered:=false}]) ⟨tmps,[{target:=.fn (.func 19) #[.pointer (some ⟨A,0,none⟩),.pointer (some ⟨B,0,none⟩),.pointer (some ⟨C,0,none⟩)],args:=#[]}]⟩ w1:=by
 refine leaves_cons (f:=19) (args:=#[.pointer (some ⟨A,0,none⟩),.pointer (some ⟨B,0,none⟩),.pointer (some ⟨C,0,none⟩)]) (by simp) (by simp [go_sem]) ?_
 refine (RX A B C hne er w1 hT).mono ?_
 rintro e u' w2 ⟨rfl,rfl,T,k⟩
 show Leaves _ _ _ _ [] (settle (.panicking [{v:=dQ er,recovered:=true}])) w2
 exact ⟨_,qE hres h2 h3 h4 T,hR w2 k⟩
theorem rO {ops:Array Oper} {o oj:Oper} {x:Act} {j d:Nat} {b:Bool} {p q:Prop} (hg:o.guard=some (j,true)) (ho:ops[j]?=some oj) (hd:oj.dst=some d) (hv:x.eval (.tmp d)=.bool b) (hlt:d<x.tmps.size) (hp:b=true→p) (hq:b=false→q) :
  if Region.wanted o (yielded ops x.tmps)=true then p else q:=by
 have hv':x.tmps[d]?=some (.bool b):=by
  have:x.tmps.getD d undef=.bool b:=hv
  rw [Array.getD_eq_getD_getElem?,Array.getElem?_eq_getElem hlt] at this
  rw [Array.getElem?_eq_getElem hlt]
  exact congrArg some this
 have hw:Region.wanted o (yielded ops x.tmps)=b:=by
  simp only [Region.wanted,hg,yielded,ho,Option.bind_some,hd,hv']
  cases b<;>rfl
 rw [hw]
 cases b with
 | true=>exact hp rfl
 | false=>exact hq rfl
end Go.Proofs.YtefjbnhpjdhjmaaGreatDoor

namespace Go.Proofs.YtefjbnhpjdhjmaaGreatDoor
set_option linter.all false
open Go.RowKit
set_option maxRecDepth 100000
set_option maxHeartbeats 16000000
def zQ (s:aj):Bool:=decide (s.size≠0∧peek s 0≠32∧peek s 0≠58)
theorem oW.new {A B C n:Nat} {w w2:World} (h:Kept (oW A B C) w w2) {w0:World} (k:Kept aC w0 w) (hA:w0.heap.size≤A∧w0.heap.size≤B∧w0.heap.size≤C):Kept aC w0 w2 :=
 k.step h (fun y hy=>by rcases hy with h|h|h<;>exact .inr (by omega))
theorem cell_lt {w:World} {b o:Nat} {v:Value} (h:w.cell? ⟨b,o,none⟩=some v):b<w.heap.size:=by
 by_cases hb:b<w.heap.size
 ·exact hb
 ·exfalso
  have:w.heap[b]?=none:=Array.getElem?_eq_none (by omega)
  simp [World.cell?,this] at h
theorem PX (s:aj) (w:World) (hs:s.size≤1000000000) (hm:uN w) (hr:mg w) (h0:0<s.size) (h1:s[0].toNat=42) (h2:s.size≤2000):Calls Tryz.prog 7 #[.string s] w (Fe s w):=by
 have er:Hid (kP s=.ok none):=by unfold Hid kP;rw [if_pos ⟨by rw [nT h0];omega,h2⟩]
 obtain ⟨w0,hw0⟩:∃w0,w0=((w.alloc (.cells #[.string ⟨#[]⟩,.int .i64 0,.int .i64 0,.string ⟨#[]⟩,.int .i64 0,.string ⟨#[]⟩,.slice none 0 0,.int .i64 0,.string ⟨#[]⟩,.int .i64 0,.string ⟨#[]⟩,.slice none 0 0,.int .i64 0,.string ⟨#[]⟩,.int .i64 0,.string ⟨#[]⟩,.slice none 0 0,.string ⟨#[]⟩,.string ⟨#[]⟩,.slice none 0 0,.slice none 0 0,.string ⟨#[]⟩,.string ⟨#[]⟩,.string ⟨#[]⟩] 30)).alloc (.cells #[.bool false] 4)).alloc (.cells #[.int .i64 0,.int .i64 0] 36):=⟨_,rfl⟩
 have k0:Kept aC w w0:=by rw [hw0];exact (((Kept.refl _ _).alloc _).alloc _).alloc _
 have T0:Hid (ji w.heap.size (w.heap.size+1) (w.heap.size+1+1) nilA dU (.bool false) (.int .i64 0) (.int .i64 0) w0):=by
  rw [hw0]
  refine ⟨(dF.new w nilA dU).kept (((Kept.refl aC _).alloc _).alloc _) (fun h=>h),?_,?_⟩
  ·have h1:gG ((w.alloc (.cells #[.string ⟨#[]⟩,.int .i64 0,.int .i64 0,.string ⟨#[]⟩,.int .i64 0,.string ⟨#[]⟩,.slice none 0 0,.int .i64 0,.string ⟨#[]⟩,.int .i64 0,.string ⟨#[]⟩,.slice none 0 0,.int .i64 0,.string ⟨#[]⟩,.int .i64 0,.string ⟨#[]⟩,.slice none 0 0,.string ⟨#[]⟩,.string ⟨#[]⟩,.slice none 0 0,.slice none 0 0,.string ⟨#[]⟩,.string ⟨#[]⟩,.string ⟨#[]⟩] 30)).alloc (.cells #[.bool false] 4)) (w.heap.size+1) 4 (.bool false):=dO (by simp)
   unfold gG;rw [Below.heap_alloc _ _ _ h1.lt];exact h1
  ·exact dO (by simp)
 have hsz0:w0.heap.size=w.heap.size+3:=by rw [hw0];simp
 have HW0:=ah hw0
 have K0:=ah k0
 have M0:=ah (hm.kept k0 (fun h=>h))
 have G0:Hid (mg w0):=by obtain ⟨ev,h1,h2⟩:=hr;exact ⟨ev,(k0.cell (cell_lt h1) (fun h=>h)).trans h1,h2⟩
 have QJ:7<w.heap.size:=by obtain ⟨ev,h1,h2⟩:=hr;exact cell_lt h1
 clear hw0 k0 hm hr
 go_enter_defers Tryz.func7, Tryz.ntmps7
 go_upto_region 1 with fail
 rw [←HW0.out]
 obtain ⟨C,hC⟩:∃C,C=w.heap.size+1+1:=⟨_,rfl⟩
 rw [←hC] at T0⊢
 obtain ⟨B,hB⟩:∃B,B=w.heap.size+1:=⟨_,rfl⟩
 rw [←hB] at T0⊢
 obtain ⟨A,hA⟩:∃A,A=w.heap.size:=⟨_,rfl⟩
 rw [←hA] at T0⊢
 have hne:A≠B∧A≠C∧B≠C:=by omega
 have yA:w.heap.size≤A∧w.heap.size≤B∧w.heap.size≤C:=by omega
 have hlt:A<w0.heap.size∧B<w0.heap.size∧C<w0.heap.size:=by omega
 clear hA hB hC hsz0
 have s0:s.toList.isEmpty=false:=qN (fun e=>by rw [e] at h0;exact absurd h0 (by decide))
 have bi:(0:Int)<(s.size:Int):=by omega
 have y1:((s[0].toNat:Int)==42)=true:=by rw [h1];rfl
 have d1:decide ((s.size:Int)≤(2000:Int))=true:=ak (by omega)
 have d2:decide (s.size≤2000)=true:=ak h2
 go_upto_region 2 with fail
 obtain ⟨Sp,hSp⟩:∃Sp:Nat→Value→World→Prop,Sp=(fun i v wx=>match i with
  | 0=>v=bV nilA dU
  | 1=>v=.agg #[.int .i64 0,.int .i64 0]
  | _=>True):=⟨_,rfl⟩
 obtain ⟨J,hJd⟩:∃J:(Nat→Bool)→(Nat→Value)→World→Prop,J=(fun pp f wx=>ji A B C nilA dU (.bool false) (.int .i64 0) (.int .i64 0) wx):=⟨_,rfl⟩
 refine mW (oW A B C) J Sp [19,20] (by kernel_rfl) (by kernel_rfl) (by kernel_rfl) (fun i v w w' h hk=>by subst hSp;exact h) ?_ ?_ ?_ ?_
 ·intro i o hi lq x wy hI hJ hlf haft
  rw [hJd] at hJ
  have hJ:ji A B C nilA dU (.bool false) (.int .i64 0) (.int .i64 0) wy:=hJ
  have s2:x.eval (.tmp 2)=.pointer (some ⟨A,0,none⟩):=hI.keep 2 _ rfl (by kernel_rfl)
  have s3:x.eval (.tmp 3)=.pointer (some ⟨B,0,none⟩):=hI.keep 3 _ rfl (by kernel_rfl)
  have s4:x.eval (.tmp 4)=.pointer (some ⟨C,0,none⟩):=hI.keep 4 _ rfl (by kernel_rfl)
  have cb:=hJ.bo.cell;have fb:=hJ.bo.free
  obtain ⟨qO,qP,iO⟩:=hJ.fl.cells
  have qQ:=iO 0;have qR:=iO 1
  have hjn:∀(l':Nat→Bool),(∀j,l' j=true↔j=i∨lq j=true)→(∀j∈([]:List Nat),i≠j)→∀f,J l' f wy:=by
   intro l' hl hne f
   rw [hJd]
   show ji A B C nilA dU (.bool false) (.int .i64 0) (.int .i64 0) wy
   exact hJ
  rcases i with _|_|_|_|_|i
  all_goals (simp only [List.getElem?_toArray,List.getElem?_cons_zero,List.getElem?_cons_succ,List.getElem?_nil,Option.some.injEq,reduceCtorEq] at hi)
  all_goals subst hi
  ·refine cu rfl ?_
   refine bJ (v:=bV nilA dU) ?_ (by subst hSp;exact rfl) (fun l' hl=>hjn l' hl (by decide) _)
   exact wo rfl hJ.st s2
  ·refine cu rfl ?_
   refine bJ (v:=.agg #[.int .i64 0,.int .i64 0]) ?_ (by subst hSp;exact rfl) (fun l' hl=>hjn l' hl (by decide) _)
   simp only [execOp,resolve,invoke,List.map_toArray,List.map_cons,List.map_nil,s4];go_simp
  ·refine cu rfl ?_
   have yC:x.eval (.tmp 19)=bV nilA dU:=by have h_:=hI.dep haft 0 19 rfl rfl rfl;rw [hSp] at h_;exact h_
   refine uK (F:=fun w'=>dF A nilA dU w'∧Kept (· = A) wy w') (nZ rfl hJ.st s2 nilA dU yC) rfl (fun w' hf=>hf.2.more fun _ h=>.inl h) (fun w' hf l' hl=>?_)
   rw [hJd]
   exact hJ.JI hne hf.2 hf.1
  ·refine cu rfl ?_
   refine kZ (w':=wy.setCell ⟨B,0,none⟩ (.bool false)) ?_ rfl (N9 (Kept.refl _ _)) (fun l' hl=>?_)
   ·simp only [execOp,resolve,invoke,List.map_toArray,List.map_cons,List.map_nil,s3];go_simp
   ·rw [hJd];exact hJ.setB hne _
  ·refine cu rfl ?_
   have yD:x.eval (.tmp 20)=.agg #[.int .i64 0,.int .i64 0]:=by have h_:=hI.dep haft 1 20 rfl rfl rfl;rw [hSp] at h_;exact h_
   refine kZ (w':=(wy.setCell ⟨C,0,none⟩ (.int .i64 0)).setCell ⟨C,1,none⟩ (.int .i64 0)) ?_ rfl (qC (qC (Kept.refl _ _))) (fun l' hl=>?_)
   ·simp only [execOp,resolve,invoke,List.map_toArray,List.map_cons,List.map_nil,s4,yD];go_simp
   ·rw [hJd];exact hJ.CO hne _ _
 ·intro lq hl
  rw [hJd]
  show ji A B C nilA dU (.bool false) (.int .i64 0) (.int .i64 0) w0.drew
  exact T0.out.drew
 ·intro lq l' f wx hl h
  rw [hJd] at h⊢
  have h:ji A B C nilA dU (.bool false) (.int .i64 0) (.int .i64 0) wx:=h
  show ji A B C nilA dU (.bool false) (.int .i64 0) (.int .i64 0) wx
  exact h
 ·intro f wy hK hS hJ
  rw [hJd] at hJ
  have hJ:ji A B C nilA dU (.bool false) (.int .i64 0) (.int .i64 0) wy:=hJ
  simp only [jP,List.foldl_cons,List.foldl_nil,List.setIfInBounds_toArray,List.set_cons_zero,List.set_cons_succ]
  go_wp2_with fail
  refine ⟨_,qE rfl rfl rfl rfl hJ,oW.new (n:=0) hK K0.out yA,?_⟩
  rw [er.out]
  exact rfl
structure LT (A B C:Nat) (w:World):Prop where
 tri:sV A B C w
 bo:(∃v,w.cell? ⟨B,0,none⟩=some v)∧w.frozen? ⟨B,0,none⟩=false
 st:∃a s,dF A a s w
theorem LT.of {A B C:Nat} {w:World} (h:sV A B C w):LT A B C w:=by
 obtain ⟨a,s,v,c0,c1,hT⟩:=h
 exact ⟨⟨a,s,v,c0,c1,hT⟩,⟨⟨_,hT.bo.cell⟩,hT.bo.free⟩,a,s,hT.st⟩
def LJ (A B C N T en:Nat) (l:List aF) (lb:Bool) (w3:World) (p13 BF p16:Bool) (w:World):Prop :=
 LT A B C w∧Two C (.int .i64 0) (.int .i64 0) w∧(BF=true→∃st a S,dF A a st w∧iR en lb l=.ok st∧nX st∧uM w S a st∧∀b,S b→w3.heap.size≤b∧b<w.heap.size)∧(p16=true→gG w B 4 (.bool true))∧(p13=false→fA N T en l 0 w)
section
variable {A B C N T en:Nat} {l:List aF} {lb:Bool} {w3 w:World} {p13 BF p16:Bool}
theorem LJ.start {a:ig} {s:aN} {v:Value} (h:ji A B C a s v (.int .i64 0) (.int .i64 0) w) (hr:fA N T en l 0 w):LJ A B C N T en l lb w3 false false false w.drew :=
 ⟨LT.of (NZ ⟨_,_,_,_,_,h⟩),h.fl,fun e=>(by cases e),fun e=>(by cases e),fun _=>hr.kept (Kept.refl aC w).drew (fun h=>h) (fun h=>h)⟩
theorem LJ.call {w2:World} (hne:A≠B∧A≠C∧B≠C) (h:LJ A B C N T en l lb w3 p13 BF p16 w) (hk:Kept (· = N) w w2) (hn:A≠N∧B≠N∧C≠N) (h15:BF=false):LJ A B C N T en l lb w3 true BF p16 w2:=by
 obtain ⟨h1,h2,h3,h4,h5⟩:=h
 refine ⟨LT.of (h1.tri.kept hk hn),h2.kept hk hn.2.2,fun e=>(by rw [h15] at e;cases e),fun e=>?_,fun e=>by cases e⟩
 unfold gG;rw [hk.block B (h4 e).lt hn.2.1];exact h4 e
theorem LJ.upd {w2:World} {X:Nat→Prop} (h:LJ A B C N T en l lb w3 p13 BF p16 w) (hk:Kept X w w2) (hX:∀b,X b→b=A∨b=B∨b=C) (hT:sV A B C w2) (hF:Two C (.int .i64 0) (.int .i64 0) w2) (hw:A<w3.heap.size∧B<w3.heap.size∧C<w3.heap.size) (BG:A≠N∧B≠N∧C≠N∧A≠T∧B≠T∧C≠T∧7≠A∧7≠B∧7≠C)
  (hA:BF=true→∀a s,dF A a s w→dF A a s w2) (hB:p16=true→gG w B 4 (.bool true)→gG w2 B 4 (.bool true)):LJ A B C N T en l lb w3 p13 BF p16 w2:=by
 obtain ⟨h1,h2,h3,h4,h5⟩:=h
 refine ⟨LT.of hT,hF,fun e=>?_,fun e=>hB e (h4 e),fun e=>(h5 e).kept hk (fun hx=>by have:=hX _ hx;omega) (fun hx=>by have:=hX _ hx;omega) (fun hx=>by have:=hX _ hx;omega)⟩
 obtain ⟨st,a,S,x1,x2,x3,x4,x5⟩:=h3 e
 exact ⟨st,a,S,hA e a st x1,x2,x3,x4.to hk (fun b hb=>⟨(x5 b hb).2,fun hx=>by have:=x5 b hb;have:=hX _ hx;omega⟩) (fun _ h=>h),fun b hb=>⟨(x5 b hb).1,Nat.lt_of_lt_of_le (x5 b hb).2 hk.size⟩⟩
theorem LJ.sB (hne:A≠B∧A≠C∧B≠C) (h:LJ A B C N T en l lb w3 p13 BF p16 w) (hw:A<w3.heap.size∧B<w3.heap.size∧C<w3.heap.size) (BG:A≠N∧B≠N∧C≠N∧A≠T∧B≠T∧C≠T∧7≠A∧7≠B∧7≠C):LJ A B C N T en l lb w3 p13 BF true (w.setCell ⟨B,0,none⟩ (.bool true)):=by
 have k:Kept (· = B) w (w.setCell ⟨B,0,none⟩ (.bool true)):=(Kept.refl (· = B) w).setCell (p:=⟨B,0,none⟩) (.inl rfl) _
 have hc:=QH (v:=.bool true) h.1.tri
 obtain ⟨a1,a2,a3,a4,a5⟩:=LJ.upd h k (fun b hb=>.inr (.inl hb)) (ZP hne h.1.tri) (ZQ hne h.2.1) hw BG (fun _ _ _ x=>ab5 hne x) (fun _ _=>hc)
 exact ⟨a1,a2,a3,fun _=>hc,a5⟩
theorem LJ.sF (hne:A≠B∧A≠C∧B≠C) (h:LJ A B C N T en l lb w3 p13 BF p16 w) (hw:A<w3.heap.size∧B<w3.heap.size∧C<w3.heap.size) (BG:A≠N∧B≠N∧C≠N∧A≠T∧B≠T∧C≠T∧7≠A∧7≠B∧7≠C):LJ A B C N T en l lb w3 p13 BF p16 ((w.setCell ⟨C,0,none⟩ (.int .i64 0)).setCell ⟨C,1,none⟩ (.int .i64 0)):=by
 have k:Kept (· = C) w ((w.setCell ⟨C,0,none⟩ (.int .i64 0)).setCell ⟨C,1,none⟩ (.int .i64 0)):=((Kept.refl (· = C) w).setCell (p:=⟨C,0,none⟩) (.inl rfl) _).setCell (p:=⟨C,1,none⟩) (.inl rfl) _
 exact LJ.upd h k (fun b hb=>.inr (.inr hb)) (Vj hne (Vh hne h.1.tri)) (QI h.1.tri) hw BG (fun _ _ _ x=>RV hne (RV hne x)) (fun _ x=>MK hne (MK hne x))
theorem LJ.sS {w2:World} {st:aN} {a:ig} {S:Nat→Prop} (hne:A≠B∧A≠C∧B≠C) (h:LJ A B C N T en l lb w3 p13 BF p16 w) (hk:Kept (· = A) w w2) (hB:dF A a st w2) (hu:iR en lb l=.ok st) (hz:nX st) (ho:uM w S a st) (hS:∀b,S b→w3.heap.size≤b∧b<w.heap.size)
  (hw:A<w3.heap.size∧B<w3.heap.size∧C<w3.heap.size) (BG:A≠N∧B≠N∧C≠N∧A≠T∧B≠T∧C≠T∧7≠A∧7≠B∧7≠C):LJ A B C N T en l lb w3 p13 true p16 w2:=by
 obtain ⟨h1,h2,h3,h4,h5⟩:=h
 obtain ⟨a0,s0,v0,d0,d1,hT⟩:=h1.tri
 have hT2:sV A B C w2:=⟨_,_,_,_,_,hT.JI hne hk hB⟩
 refine ⟨LT.of hT2,h2.kept hk (fun e=>hne.2.1 e.symm),fun _=>⟨st,a,S,hB,hu,hz,ho.to hk (fun b hb=>⟨(hS b hb).2,by have:=hS b hb;omega⟩) (fun _ h=>h),fun b hb=>⟨(hS b hb).1,Nat.lt_of_lt_of_le (hS b hb).2 hk.size⟩⟩,fun e=>?_,fun e=>(h5 e).kept hk (by omega) (by omega) (by omega)⟩
 unfold gG;rw [hk.block B (h4 e).lt (fun e=>hne.1 e.symm)];exact h4 e
end
theorem Vl (s:aj):zQ s=((!s.toList.isEmpty&&decide (peek s 0≠32))&&decide (peek s 0≠58)):=by
 unfold zQ
 by_cases h:s=E0
 ·subst h;rw [oI];exact au (fun h=>h.1 rfl)
 ·rw [qN h]
  have h2:s.size≠0:=fun e=>h (by
   apply ByteArray.ext;apply Array.toList_inj.1
   have:s.data.toList.length=0:=by have e_:s.data.toList.length=s.size:=rfl;omega
   rw [List.length_eq_zero_iff.1 this];rfl)
  by_cases h3:peek s 0=32
  ·simp [h3]
  ·by_cases h4:peek s 0=58
   ·simp [h4]
   ·simp [h2,h3,h4]
theorem RY (s:aj) (w:World) (hs:s.size≤1000000000) (hm:uN w) (hr:mg w) (h0:s=E0):Calls Tryz.prog 7 #[.string s] w (Fe s w):=by
 have HL:Hid (kP s=match nH s with
  | .error er=>.error er
  | .ok l=>match iR s.size (zQ s) l with
   | .error er=>.error er
   | .ok x=>.ok (some x)):=by unfold Hid kP;rw [if_neg (by rw [h0];intro h;exact absurd h.1 (by decide))];rfl
 obtain ⟨w0,hw0⟩:∃w0,w0=((w.alloc (.cells #[.string ⟨#[]⟩,.int .i64 0,.int .i64 0,.string ⟨#[]⟩,.int .i64 0,.string ⟨#[]⟩,.slice none 0 0,.int .i64 0,.string ⟨#[]⟩,.int .i64 0,.string ⟨#[]⟩,.slice none 0 0,.int .i64 0,.string ⟨#[]⟩,.int .i64 0,.string ⟨#[]⟩,.slice none 0 0,.string ⟨#[]⟩,.string ⟨#[]⟩,.slice none 0 0,.slice none 0 0,.string ⟨#[]⟩,.string ⟨#[]⟩,.string ⟨#[]⟩] 30)).alloc (.cells #[.bool false] 4)).alloc (.cells #[.int .i64 0,.int .i64 0] 36):=⟨_,rfl⟩
 have k0:Kept aC w w0:=by rw [hw0];exact (((Kept.refl _ _).alloc _).alloc _).alloc _
 have T0:Hid (ji w.heap.size (w.heap.size+1) (w.heap.size+1+1) nilA dU (.bool false) (.int .i64 0) (.int .i64 0) w0):=by
  rw [hw0]
  refine ⟨(dF.new w nilA dU).kept (((Kept.refl aC _).alloc _).alloc _) (fun h=>h),?_,?_⟩
  ·have h1:gG ((w.alloc (.cells #[.string ⟨#[]⟩,.int .i64 0,.int .i64 0,.string ⟨#[]⟩,.int .i64 0,.string ⟨#[]⟩,.slice none 0 0,.int .i64 0,.string ⟨#[]⟩,.int .i64 0,.string ⟨#[]⟩,.slice none 0 0,.int .i64 0,.string ⟨#[]⟩,.int .i64 0,.string ⟨#[]⟩,.slice none 0 0,.string ⟨#[]⟩,.string ⟨#[]⟩,.slice none 0 0,.slice none 0 0,.string ⟨#[]⟩,.string ⟨#[]⟩,.string ⟨#[]⟩] 30)).alloc (.cells #[.bool false] 4)) (w.heap.size+1) 4 (.bool false):=dO (by simp)
   unfold gG;rw [Below.heap_alloc _ _ _ h1.lt];exact h1
  ·exact dO (by simp)
 have hsz0:w0.heap.size=w.heap.size+3:=by rw [hw0];simp
 have HW0:=ah hw0
 have K0:=ah k0
 have M0:=ah (hm.kept k0 (fun h=>h))
 have G0:Hid (mg w0):=by obtain ⟨ev,h1,h2⟩:=hr;exact ⟨ev,(k0.cell (cell_lt h1) (fun h=>h)).trans h1,h2⟩
 have QJ:7<w.heap.size:=by obtain ⟨ev,h1,h2⟩:=hr;exact cell_lt h1
 clear hw0 k0 hm hr
 go_enter_defers Tryz.func7, Tryz.ntmps7
 go_upto_region 1 with fail
 rw [←HW0.out]
 obtain ⟨C,hC⟩:∃C,C=w.heap.size+1+1:=⟨_,rfl⟩
 rw [←hC] at T0⊢
 obtain ⟨B,hB⟩:∃B,B=w.heap.size+1:=⟨_,rfl⟩
 rw [←hB] at T0⊢
 obtain ⟨A,hA⟩:∃A,A=w.heap.size:=⟨_,rfl⟩
 rw [←hA] at T0⊢
 have hne:A≠B∧A≠C∧B≠C:=by omega
 have yA:w.heap.size≤A∧w.heap.size≤B∧w.heap.size≤C:=by omega
 have hlt:A<w0.heap.size∧B<w0.heap.size∧C<w0.heap.size:=by omega
 clear hA hB hC hsz0
 have s0:s.toList.isEmpty=true:=by rw [h0];exact oI
 clear h0
 have ace:=hs
 cases hx:nH s with
 | error er =>
  have fin:Hid (kP s=.error er):=by unfold Hid;rw [HL.out,hx]
  have her:=GK hx
  have e1:(er.1 != 0)=true:=by simpa using her
  go_upto_region 4 with (go_at_call 18;(refine (uj s w0 hs M0.out).mono ?_);intro e w1 h_;obtain ⟨k_,h_⟩:=h_;rw [hx] at h_;obtain rfl:=h_;have T1:=ah (T0.out.kept k_ ⟨fun h=>h,fun h=>h,fun h=>h⟩);have K1:=ah (K0.out.trans k_);obtain ⟨qO,qP,iO⟩:=T1.out.fl.cells;have qQ:=iO 0;have qR:=iO 1;clear k_ iO)
  have T2:=ah (T1.out.CO hne (.int .i64 er.1) (.int .i64 er.2))
  have K2:=ah (oW.new (n:=0) (qC (i:=1) (d:=.int .i64 er.2) (qC (i:=0) (d:=.int .i64 er.1) (A:=A) (B:=B) (C:=C) (Kept.refl _ w1))) K1.out yA)
  obtain ⟨w2,hw2⟩:∃w2,w2=(w1.setCell ⟨C,0,none⟩ (.int .i64 er.1)).setCell ⟨C,1,none⟩ (.int .i64 er.2):=⟨_,rfl⟩
  rw [←hw2] at T2 K2
  rw [←hw2]
  clear hw2 qO qP qQ qR
  obtain ⟨qO,qP,iO⟩:=T2.out.fl.cells
  have qQ:=iO 0;have qR:=iO 1
  go_upto_region 5 with fail
  clear qO qP iO qQ qR
  obtain ⟨Sp,hSp⟩:∃Sp:Nat→Value→World→Prop,Sp=(fun i v wx=>match i with
   | 0=>v=bV nilA dU
   | 1=>v=.agg #[.int .i64 er.1,.int .i64 er.2]
   | _=>True):=⟨_,rfl⟩
  obtain ⟨J,hJd⟩:∃J:(Nat→Bool)→(Nat→Value)→World→Prop,J=(fun pp f wx=>ji A B C nilA dU (.bool false) (.int .i64 er.1) (.int .i64 er.2) wx):=⟨_,rfl⟩
  refine mW (oW A B C) J Sp [29,30] (by kernel_rfl) (by kernel_rfl) (by kernel_rfl) (fun i v w w' h hk=>by subst hSp;exact h) ?_ ?_ ?_ ?_
  ·intro i o hi lq x wy hI hJ hlf haft
   rw [hJd] at hJ
   have hJ:ji A B C nilA dU (.bool false) (.int .i64 er.1) (.int .i64 er.2) wy:=hJ
   have s2:x.eval (.tmp 2)=.pointer (some ⟨A,0,none⟩):=hI.keep 2 _ rfl (by kernel_rfl)
   have s3:x.eval (.tmp 3)=.pointer (some ⟨B,0,none⟩):=hI.keep 3 _ rfl (by kernel_rfl)
   have s4:x.eval (.tmp 4)=.pointer (some ⟨C,0,none⟩):=hI.keep 4 _ rfl (by kernel_rfl)
   have cb:=hJ.bo.cell;have fb:=hJ.bo.free
   obtain ⟨qO,qP,iO⟩:=hJ.fl.cells
   have qQ:=iO 0;have qR:=iO 1
   have hjn:∀(l':Nat→Bool),(∀j,l' j=true↔j=i∨lq j=true)→(∀j∈([]:List Nat),i≠j)→∀f,J l' f wy:=by
    intro l' hl hne f
    rw [hJd]
    show ji A B C nilA dU (.bool false) (.int .i64 er.1) (.int .i64 er.2) wy
    exact hJ
   rcases i with _|_|_|_|_|i
   all_goals (simp only [List.getElem?_toArray,List.getElem?_cons_zero,List.getElem?_cons_succ,List.getElem?_nil,Option.some.injEq,reduceCtorEq] at hi)
   all_goals subst hi
   ·refine cu rfl ?_
    refine bJ (v:=bV nilA dU) ?_ (by subst hSp;exact rfl) (fun l' hl=>hjn l' hl (by decide) _)
    exact wo rfl hJ.st s2
   ·refine cu rfl ?_
    refine bJ (v:=.agg #[.int .i64 er.1,.int .i64 er.2]) ?_ (by subst hSp;exact rfl) (fun l' hl=>hjn l' hl (by decide) _)
    simp only [execOp,resolve,invoke,List.map_toArray,List.map_cons,List.map_nil,s4];go_simp
   ·refine cu rfl ?_
    have Vm:x.eval (.tmp 29)=bV nilA dU:=by have h_:=hI.dep haft 0 29 rfl rfl rfl;rw [hSp] at h_;exact h_
    refine uK (F:=fun w'=>dF A nilA dU w'∧Kept (· = A) wy w') (nZ rfl hJ.st s2 nilA dU Vm) rfl (fun w' hf=>hf.2.more fun _ h=>.inl h) (fun w' hf l' hl=>?_)
    rw [hJd]
    exact hJ.JI hne hf.2 hf.1
   ·refine cu rfl ?_
    refine kZ (w':=wy.setCell ⟨B,0,none⟩ (.bool false)) ?_ rfl (N9 (Kept.refl _ _)) (fun l' hl=>?_)
    ·simp only [execOp,resolve,invoke,List.map_toArray,List.map_cons,List.map_nil,s3];go_simp
    ·rw [hJd];exact hJ.setB hne _
   ·refine cu rfl ?_
    have Vo:x.eval (.tmp 30)=.agg #[.int .i64 er.1,.int .i64 er.2]:=by have h_:=hI.dep haft 1 30 rfl rfl rfl;rw [hSp] at h_;exact h_
    refine kZ (w':=(wy.setCell ⟨C,0,none⟩ (.int .i64 er.1)).setCell ⟨C,1,none⟩ (.int .i64 er.2)) ?_ rfl (qC (qC (Kept.refl _ _))) (fun l' hl=>?_)
    ·simp only [execOp,resolve,invoke,List.map_toArray,List.map_cons,List.map_nil,s4,Vo];go_simp
    ·rw [hJd];exact hJ.CO hne _ _
  ·intro lq hl
   rw [hJd]
   show ji A B C nilA dU (.bool false) (.int .i64 er.1) (.int .i64 er.2) w2.drew
   exact T2.out.drew
  ·intro lq l' f wx hl h
   rw [hJd] at h⊢
   have h:ji A B C nilA dU (.bool false) (.int .i64 er.1) (.int .i64 er.2) wx:=h
   show ji A B C nilA dU (.bool false) (.int .i64 er.1) (.int .i64 er.2) wx
   exact h
  ·intro f wy hK hS hJ
   rw [hJd] at hJ
   have hJ:ji A B C nilA dU (.bool false) (.int .i64 er.1) (.int .i64 er.2) wy:=hJ
   simp only [jP,List.foldl_cons,List.foldl_nil,List.setIfInBounds_toArray,List.set_cons_zero,List.set_cons_succ]
   go_wp2_with fail
   refine ⟨_,qE rfl rfl rfl rfl hJ,oW.new (n:=0) hK K2.out yA,?_⟩
   rw [fin.out]
   exact rfl
 | ok l =>
  obtain ⟨hgood,hlen,hs2⟩:=Ei hx
  have HG:=ah hgood;have wP:=ah hlen
  have fin:Hid (kP s=match iR s.size (zQ s) l with | .error er=>.error er | .ok x=>.ok (some x)):=by unfold Hid;rw [HL.out,hx]
  clear hgood hlen
  go_upto_region 4 with (go_at_call 18;(refine (uj s w0 hs M0.out).mono ?_);intro e w1 h_;obtain ⟨k_,h_⟩:=h_;rw [hx] at h_;obtain ⟨la,lc,rfl,aQ⟩:=h_;have WN:=ah aQ;have T1:=ah (T0.out.kept k_ ⟨fun h=>h,fun h=>h,fun h=>h⟩);have iG:=ah k_;have K1:=ah (K0.out.trans k_);obtain ⟨qO,qP,iO⟩:=T1.out.fl.cells;have qQ:=iO 0;have qR:=iO 1;clear k_ iO aQ)
  have T2:=ah (T1.out.CO hne (.int .i64 0) (.int .i64 0))
  have rP:=ah (qC (i:=1) (d:=.int .i64 0) (qC (i:=0) (d:=.int .i64 0) (A:=A) (B:=B) (C:=C) (Kept.refl _ w1)))
  have K2:=ah (oW.new (n:=0) rP.out K1.out yA)
  obtain ⟨w2,hw2⟩:∃w2,w2=(w1.setCell ⟨C,0,none⟩ (.int .i64 0)).setCell ⟨C,1,none⟩ (.int .i64 0):=⟨_,rfl⟩
  rw [←hw2] at T2 K2 rP
  rw [←hw2]
  clear hw2 qO qP qQ qR
  obtain ⟨qO,qP,iO⟩:=T2.out.fl.cells
  have qQ:=iO 0;have qR:=iO 1
  have hmf:∀(fn:Fn) (first cap:Array Value) (w:World),(Instr.makeFunc fn first cap).run Tryz.prog w=.ok (.func fn first cap) w:=fun _ _ _ _=>rfl
  go_upto_region 8 with fail
  clear qO qP iO qQ qR
  obtain ⟨w3,hw3⟩:∃w3,w3=w2.alloc (.cells #[.slice la l.length lc,.int .i64 s.size,.int .i64 0] 62):=⟨_,rfl⟩
  have k3:Kept aC w2 w3:=by rw [hw3];exact (Kept.refl _ _).alloc _
  have X3:w3.heap[w2.heap.size]?=some (.cells #[.slice la l.length lc,.int .i64 s.size,.int .i64 0] 62 (0,0)):=by rw [hw3];exact ay w2 _
  obtain ⟨N,hN⟩:∃N,N=w2.heap.size:=⟨_,rfl⟩
  rw [←hN] at X3
  rw [←hw3,←hN]
  have Yy:=rP.out.size;have Ob:=iG.out.size
  have hNA:A<N∧B<N∧C<N∧w0.heap.size≤N:=by omega
  have hlN:N<w3.heap.size:=(Array.getElem?_eq_some_iff.1 X3).1
  have R3:Hid (∃T,fA N T s.size l 0 w3∧A≠T∧B≠T∧C≠T):=by
   have hg2:mg w2:=by
    obtain ⟨ev,h1,h2⟩:=G0.out
    have e1:¬oW A B C 7:=fun h=>by rcases h with h|h|h<;>omega
    exact ⟨ev,(rP.out.cell (Nat.lt_of_lt_of_le (cell_lt h1) Ob) e1).trans ((iG.out.cell (cell_lt h1) (fun h=>h)).trans h1),h2⟩
   have hg3:mg w3:=by obtain ⟨ev,h1,h2⟩:=hg2;exact ⟨ev,(k3.cell (cell_lt h1) (fun h=>h)).trans h1,h2⟩
   rcases WN.out.cells with ⟨hv,hn⟩|⟨g,o,c',hv,hg1,hgl,hcap,hcm,hc⟩
   ·simp only [Value.slice.injEq] at hv
    obtain ⟨rfl,_,rfl⟩:=hv
    obtain rfl:l=[]:=List.length_eq_zero_iff.1 hn
    exact ⟨7,⟨0,none,0,X3,rfl,Nat.le_refl _,fun h=>absurd rfl h,by omega,by have:=k3.size;omega,by omega,HG.out,by omega,hg3⟩,by omega,by omega,by omega⟩
   ·simp only [Value.slice.injEq,true_and] at hv
    obtain ⟨rfl,rfl⟩:=hv
    have hgn:g<N:=by omega
    have hgi:¬oW A B C g:=fun h=>by rcases h with h|h|h<;>omega
    exact ⟨g,⟨l.length,_,_,X3,rfl,hcap,fun _=>⟨o,rfl,fun j u hu=>(k3.cell (by omega) (fun h=>h)).trans ((rP.out.cell hgl hgi).trans (hc j u hu).1)⟩,by omega,by omega,by unfold maxLen at hcm;omega,HG.out,by omega,hg3⟩,by omega,by omega,by omega⟩
  obtain ⟨T,R3,hTA⟩:=R3.out
  have T3:=ah (T2.out.kept k3 ⟨fun h=>h,fun h=>h,fun h=>h⟩)
  have K3:=ah (K2.out.trans k3)
  have R3:=ah R3
  clear hw3 k3 X3 hN Yy Ob WN T2 K2 rP iG T1 K1 T0 M0 G0 HG
  have Bz:Hid (zQ s=((!s.toList.isEmpty&&decide (peek s 0≠32))&&decide (peek s 0≠58))):=Vl s
  obtain ⟨lb,hlb⟩:∃lb,lb=zQ s:=⟨_,rfl⟩
  rw [←hlb] at Bz fin
  obtain ⟨en,hen⟩:∃en,en=s.size:=⟨_,rfl⟩
  rw [←hen] at R3 fin
  have BG:A≠N∧B≠N∧C≠N∧A≠T∧B≠T∧C≠T∧7≠A∧7≠B∧7≠C:=by omega
  obtain ⟨Sp,hSp⟩:∃Sp:Nat→Value→World→Prop,Sp=(fun i v wx=>match i with
   | 0=>v=.pointer (some ⟨N,0,none⟩)
   | 1=>v=.string s
   | 2=>v=.bool (!s.toList.isEmpty)
   | 3=>v=.bool (!s.toList.isEmpty)
   | 4=>(!s.toList.isEmpty)=true→v=.string s
   | 5=>(!s.toList.isEmpty)=true→v=.int .u8 (peek s 0)
   | 6=>(!s.toList.isEmpty)=true→v=.bool (decide (peek s 0≠32))
   | 7=>v=.bool (!s.toList.isEmpty&&decide (peek s 0≠32))
   | 8=>v=.bool (!s.toList.isEmpty&&decide (peek s 0≠32))
   | 9=>(!s.toList.isEmpty&&decide (peek s 0≠32))=true→v=.string s
   | 10=>(!s.toList.isEmpty&&decide (peek s 0≠32))=true→v=.int .u8 (peek s 0)
   | 11=>(!s.toList.isEmpty&&decide (peek s 0≠32))=true→v=.bool (decide (peek s 0≠58))
   | 12=>v=.bool lb
   | 13=>∃st a S,v=bV a st∧iR en lb l=.ok st∧nX st∧uM wx S a st∧∀b,S b→w3.heap.size≤b∧b<wx.heap.size
   | 14=>v=.agg #[.int .i64 0,.int .i64 0]
   | _=>True):=⟨_,rfl⟩
  obtain ⟨J,hJd⟩:∃J:(Nat→Bool)→(Nat→Value)→World→Prop,J=(fun pp f wx=>LJ A B C N T en l lb w3 (pp 13) (pp 15) (pp 16) wx):=⟨_,rfl⟩
  refine mW (fun b=>b=N∨oW A B C b) J Sp [37,38,39,40,41,42,43,44,45,46,47,48,49,50,51] (by kernel_rfl) (by kernel_rfl) (by kernel_rfl) (fun i v w w' h hk=>by subst hSp;rcases i with _|_|_|_|_|_|_|_|_|_|_|_|_|_|_|i;all_goals first|exact h|(obtain ⟨st,a,S,h1,h2,h3,h4,h5⟩:=h;exact ⟨st,a,S,h1,h2,h3,h4.to hk (fun b hb=>⟨(h5 b hb).2,fun hx=>by have:=h5 b hb;rcases hx with h|h|h|h<;>omega⟩) (fun _ h=>h),fun b hb=>⟨(h5 b hb).1,Nat.lt_of_lt_of_le (h5 b hb).2 hk.size⟩⟩)) ?_ ?_ ?_ ?_
  ·intro i o hi lq x wy hI hJ hlf haft
   rw [hJd] at hJ
   have hJ:LJ A B C N T en l lb w3 (lq 13) (lq 15) (lq 16) wy:=hJ
   have s0:x.eval (.tmp 0)=.string s:=hI.keep 0 _ rfl (by kernel_rfl)
   have s2:x.eval (.tmp 2)=.pointer (some ⟨A,0,none⟩):=hI.keep 2 _ rfl (by kernel_rfl)
   have s3:x.eval (.tmp 3)=.pointer (some ⟨B,0,none⟩):=hI.keep 3 _ rfl (by kernel_rfl)
   have s4:x.eval (.tmp 4)=.pointer (some ⟨C,0,none⟩):=hI.keep 4 _ rfl (by kernel_rfl)
   have s6:x.eval (.tmp 6)=.pointer (some ⟨N,0,none⟩):=hI.keep 6 _ rfl (by kernel_rfl)
   have hsz:x.tmps.size=52:=hI.size
   obtain ⟨⟨vb,cb⟩,fb⟩:=hJ.1.bo
   obtain ⟨qO,qP,iO⟩:=hJ.2.1.cells
   have qQ:=iO 0;have qR:=iO 1
   have hjn:∀(l':Nat→Bool),(∀j,l' j=true↔j=i∨lq j=true)→(∀j∈([13,15,16]:List Nat),i≠j)→∀f,J l' f wy:=by
    intro l' hl hne f
    rw [hJd]
    show LJ A B C N T en l lb w3 (l' 13) (l' 15) (l' 16) wy
    rw [upd_ne hl 13 (Ne.symm (hne 13 (by simp)))]
    rw [upd_ne hl 15 (Ne.symm (hne 15 (by simp)))]
    rw [upd_ne hl 16 (Ne.symm (hne 16 (by simp)))]
    exact hJ
   rcases i with _|_|_|_|_|_|_|_|_|_|_|_|_|_|_|_|_|_|i
   all_goals (simp only [List.getElem?_toArray,List.getElem?_cons_zero,List.getElem?_cons_succ,List.getElem?_nil,Option.some.injEq,reduceCtorEq] at hi)
   all_goals subst hi
   ·refine cu rfl ?_
    refine bJ (v:=.pointer (some ⟨N,0,none⟩)) ?_ (by subst hSp;exact rfl) (fun l' hl=>hjn l' hl (by decide) _)
    simp only [execOp,resolve,invoke,List.map_toArray,List.map_cons,List.map_nil,s6];go_simp
   ·refine cu rfl ?_
    refine bJ (v:=.string s) ?_ (by subst hSp;exact rfl) (fun l' hl=>hjn l' hl (by decide) _)
    simp only [execOp,resolve,invoke,List.map_toArray,List.map_cons,List.map_nil,s0];go_simp
   ·refine cu rfl ?_
    have d38:x.eval (.tmp 38)=.string s:=by have h_:=hI.dep haft 1 38 rfl rfl rfl;rw [hSp] at h_;exact h_
    refine bJ (v:=.bool (!s.toList.isEmpty)) ?_ (by subst hSp;exact rfl) (fun l' hl=>hjn l' hl (by decide) _)
    simp only [execOp,resolve,invoke,List.map_toArray,List.map_cons,List.map_nil,d38];go_simp;try rfl
   ·refine cu rfl ?_
    have d39:x.eval (.tmp 39)=.bool (!s.toList.isEmpty):=by have h_:=hI.dep haft 2 39 rfl rfl rfl;rw [hSp] at h_;exact h_
    refine bJ (v:=.bool (!s.toList.isEmpty)) ?_ (by subst hSp;exact rfl) (fun l' hl=>hjn l' hl (by decide) _)
    simp only [execOp,resolve,invoke,List.map_toArray,List.map_cons,List.map_nil,d39];go_simp
   ·have um:x.eval (.tmp 40)=.bool (!s.toList.isEmpty):=by have h_:=hI.dep haft 3 40 rfl rfl rfl;rw [hSp] at h_;exact h_
    refine rO (j:=3) rfl rfl rfl um (by rw [hsz];decide) (fun hb=>?_) (fun hb=>⟨fun d hd=>by subst hSp;exact fun h=>(by rw [hb] at h;cases h),fun l' hl=>hjn l' hl (by decide) _⟩)
    refine bJ (v:=.string s) ?_ (by subst hSp;exact fun _=>rfl) (fun l' hl=>hjn l' hl (by decide) _)
    simp only [execOp,resolve,invoke,List.map_toArray,List.map_cons,List.map_nil,s0];go_simp
   ·have um:x.eval (.tmp 40)=.bool (!s.toList.isEmpty):=by have h_:=hI.dep haft 3 40 rfl rfl rfl;rw [hSp] at h_;exact h_
    refine rO (j:=3) rfl rfl rfl um (by rw [hsz];decide) (fun hb=>?_) (fun hb=>⟨fun d hd=>by subst hSp;exact fun h=>(by rw [hb] at h;cases h),fun l' hl=>hjn l' hl (by decide) _⟩)
    have d41:x.eval (.tmp 41)=.string s:=by have h_:=hI.dep haft 4 41 rfl rfl rfl;rw [hSp] at h_;exact h_ hb
    have hbe:=hb
    have hp0:0<s.size:=by (by_cases hz:0<s.size;exact hz;exfalso;have e0:s=E0:=(by apply ByteArray.ext;apply Array.toList_inj.1;have:s.data.toList.length=0:=(by have e_:s.data.toList.length=s.size:=rfl;omega);rw [List.length_eq_zero_iff.1 this];rfl);rw [e0,oI] at hbe;cases hbe)
    have hbi:(0:Int)<(s.size:Int):=by omega
    refine bJ (v:=.int .u8 (peek s 0)) ?_ (by subst hSp;exact fun _=>rfl) (fun l' hl=>hjn l' hl (by decide) _)
    rw [nT hp0]
    simp only [execOp,resolve,invoke,List.map_toArray,List.map_cons,List.map_nil,d41];go_simp
   ·have um:x.eval (.tmp 40)=.bool (!s.toList.isEmpty):=by have h_:=hI.dep haft 3 40 rfl rfl rfl;rw [hSp] at h_;exact h_
    refine rO (j:=3) rfl rfl rfl um (by rw [hsz];decide) (fun hb=>?_) (fun hb=>⟨fun d hd=>by subst hSp;exact fun h=>(by rw [hb] at h;cases h),fun l' hl=>hjn l' hl (by decide) _⟩)
    have d42:x.eval (.tmp 42)=.int .u8 (peek s 0):=by have h_:=hI.dep haft 5 42 rfl rfl rfl;rw [hSp] at h_;exact h_ hb
    refine bJ (v:=.bool (decide (peek s 0≠32))) ?_ (by subst hSp;exact fun _=>rfl) (fun l' hl=>hjn l' hl (by decide) _)
    simp only [execOp,resolve,invoke,List.map_toArray,List.map_cons,List.map_nil,d42];go_simp;try rfl
   ·refine cu rfl ?_
    have um:x.eval (.tmp 40)=.bool (!s.toList.isEmpty):=by have h_:=hI.dep haft 3 40 rfl rfl rfl;rw [hSp] at h_;exact h_
    have Oc:(!s.toList.isEmpty)=true→x.eval (.tmp 43)=.bool (decide (peek s 0≠32)):=by have h_:=hI.dep haft 6 43 rfl rfl rfl;rw [hSp] at h_;exact h_
    refine bJ (v:=.bool (!s.toList.isEmpty&&decide (peek s 0≠32))) ?_ (by subst hSp;exact rfl) (fun l' hl=>hjn l' hl (by decide) _)
    cases hb:(!s.toList.isEmpty) with
    | true=>have Oc:=Oc hb;rw [hb] at um;simp only [execOp,resolve,invoke,List.map_toArray,List.map_cons,List.map_nil,um,Oc];go_simp;try rfl
    | false=>rw [hb] at um;simp only [execOp,resolve,invoke,List.map_toArray,List.map_cons,List.map_nil,um];go_simp;try rfl
   ·refine cu rfl ?_
    have d44:x.eval (.tmp 44)=.bool (!s.toList.isEmpty&&decide (peek s 0≠32)):=by have h_:=hI.dep haft 7 44 rfl rfl rfl;rw [hSp] at h_;exact h_
    refine bJ (v:=.bool (!s.toList.isEmpty&&decide (peek s 0≠32))) ?_ (by subst hSp;exact rfl) (fun l' hl=>hjn l' hl (by decide) _)
    simp only [execOp,resolve,invoke,List.map_toArray,List.map_cons,List.map_nil,d44];go_simp
   ·have uo:x.eval (.tmp 45)=.bool (!s.toList.isEmpty&&decide (peek s 0≠32)):=by have h_:=hI.dep haft 8 45 rfl rfl rfl;rw [hSp] at h_;exact h_
    refine rO (j:=8) rfl rfl rfl uo (by rw [hsz];decide) (fun hb=>?_) (fun hb=>⟨fun d hd=>by subst hSp;exact fun h=>(by rw [hb] at h;cases h),fun l' hl=>hjn l' hl (by decide) _⟩)
    refine bJ (v:=.string s) ?_ (by subst hSp;exact fun _=>rfl) (fun l' hl=>hjn l' hl (by decide) _)
    simp only [execOp,resolve,invoke,List.map_toArray,List.map_cons,List.map_nil,s0];go_simp
   ·have uo:x.eval (.tmp 45)=.bool (!s.toList.isEmpty&&decide (peek s 0≠32)):=by have h_:=hI.dep haft 8 45 rfl rfl rfl;rw [hSp] at h_;exact h_
    refine rO (j:=8) rfl rfl rfl uo (by rw [hsz];decide) (fun hb=>?_) (fun hb=>⟨fun d hd=>by subst hSp;exact fun h=>(by rw [hb] at h;cases h),fun l' hl=>hjn l' hl (by decide) _⟩)
    have Vp:x.eval (.tmp 46)=.string s:=by have h_:=hI.dep haft 9 46 rfl rfl rfl;rw [hSp] at h_;exact h_ hb
    have hbe:(!s.toList.isEmpty)=true:=by rw [Bool.and_eq_true] at hb;exact hb.1
    have hp0:0<s.size:=by (by_cases hz:0<s.size;exact hz;exfalso;have e0:s=E0:=(by apply ByteArray.ext;apply Array.toList_inj.1;have:s.data.toList.length=0:=(by have e_:s.data.toList.length=s.size:=rfl;omega);rw [List.length_eq_zero_iff.1 this];rfl);rw [e0,oI] at hbe;cases hbe)
    have hbi:(0:Int)<(s.size:Int):=by omega
    refine bJ (v:=.int .u8 (peek s 0)) ?_ (by subst hSp;exact fun _=>rfl) (fun l' hl=>hjn l' hl (by decide) _)
    rw [nT hp0]
    simp only [execOp,resolve,invoke,List.map_toArray,List.map_cons,List.map_nil,Vp];go_simp
   ·have uo:x.eval (.tmp 45)=.bool (!s.toList.isEmpty&&decide (peek s 0≠32)):=by have h_:=hI.dep haft 8 45 rfl rfl rfl;rw [hSp] at h_;exact h_
    refine rO (j:=8) rfl rfl rfl uo (by rw [hsz];decide) (fun hb=>?_) (fun hb=>⟨fun d hd=>by subst hSp;exact fun h=>(by rw [hb] at h;cases h),fun l' hl=>hjn l' hl (by decide) _⟩)
    have Vq:x.eval (.tmp 47)=.int .u8 (peek s 0):=by have h_:=hI.dep haft 10 47 rfl rfl rfl;rw [hSp] at h_;exact h_ hb
    refine bJ (v:=.bool (decide (peek s 0≠58))) ?_ (by subst hSp;exact fun _=>rfl) (fun l' hl=>hjn l' hl (by decide) _)
    simp only [execOp,resolve,invoke,List.map_toArray,List.map_cons,List.map_nil,Vq];go_simp;try rfl
   ·refine cu rfl ?_
    have uo:x.eval (.tmp 45)=.bool (!s.toList.isEmpty&&decide (peek s 0≠32)):=by have h_:=hI.dep haft 8 45 rfl rfl rfl;rw [hSp] at h_;exact h_
    have IK:(!s.toList.isEmpty&&decide (peek s 0≠32))=true→x.eval (.tmp 48)=.bool (decide (peek s 0≠58)):=by have h_:=hI.dep haft 11 48 rfl rfl rfl;rw [hSp] at h_;exact h_
    refine bJ (v:=.bool lb) ?_ (by subst hSp;exact rfl) (fun l' hl=>hjn l' hl (by decide) _)
    cases hb:(!s.toList.isEmpty&&decide (peek s 0≠32)) with
    | true=>have IK:=IK hb;rw [hb] at uo;rw [Bz.out,hb,Bool.true_and];simp only [execOp,resolve,invoke,List.map_toArray,List.map_cons,List.map_nil,uo,IK];go_simp;try rfl
    | false=>rw [hb] at uo;rw [Bz.out,hb,Bool.false_and];simp only [execOp,resolve,invoke,List.map_toArray,List.map_cons,List.map_nil,uo];go_simp;try rfl
   ·refine cu rfl ?_
    have d37:x.eval (.tmp 37)=.pointer (some ⟨N,0,none⟩):=by have h_:=hI.dep haft 0 37 rfl rfl rfl;rw [hSp] at h_;exact h_
    have Vr:x.eval (.tmp 49)=.bool lb:=by have h_:=hI.dep haft 12 49 rfl rfl rfl;rw [hSp] at h_;exact h_
    have hrd:=hJ.2.2.2.2 hlf
    refine Kw (f:=20) (args:=#[.pointer (some ⟨N,0,none⟩),.bool lb]) ?_ ?_
    ·simp only [execOp,resolve,invoke,List.map_toArray,List.map_cons,List.map_nil,d37,Vr];go_simp;try rfl
    ·refine (KY lb hrd (by have:=wP.out;omega)).mono ?_
     intro e wz hq
     obtain ⟨kz,hq⟩:=hq
     cases hu:iR en lb l with
     | error er =>
      rw [hu] at hq
      refine .inr ⟨_,hq,?_⟩
      have hxd:=hI.defers
      obtain ⟨xt,xd⟩:=x
      dsimp only at hxd s2 s3 s4
      rw [hxd]
      refine IJ (er:=er) hne rfl s2 s3 s4 (hJ.1.tri.kept kz ⟨by omega,by omega,by omega⟩) (fun wv kv=>⟨((K3.out.step hI.kept (fun y hy=>by rcases hy with rfl|hy;exact .inr (by omega);rcases hy with h|h|h<;>exact .inr (by omega))).step kz (fun y hy=>.inr (by omega))).step kv (fun y hy=>by rcases hy with h|h|h<;>exact .inr (by omega)),?_⟩)
      rw [fin.out,hu]
      exact rfl
     | ok st =>
      rw [hu] at hq
      obtain ⟨a,S,he,hz,ho,hS⟩:=hq
      have hge:w3.heap.size≤wy.heap.size:=hI.kept.size
      refine .inl ⟨_,he,by subst hSp;exact ⟨st,a,S,rfl,hu,hz,ho,fun b hb=>⟨by have:=(hS b hb).1;omega,(hS b hb).2⟩⟩,kz.more (fun _ h=>.inl h),fun l' hl=>?_⟩
      rw [hJd]
      show LJ A B C N T en l lb w3 (l' 13) (l' 15) (l' 16) wz
      rw [qV hl,upd_ne hl 15 (by decide),upd_ne hl 16 (by decide)]
      have n15:=hI.no hlf 15 rfl rfl
      exact hJ.call hne kz ⟨by omega,by omega,by omega⟩ n15
   ·refine cu rfl ?_
    refine bJ (v:=.agg #[.int .i64 0,.int .i64 0]) ?_ (by subst hSp;exact rfl) (fun l' hl=>hjn l' hl (by decide) _)
    simp only [execOp,resolve,invoke,List.map_toArray,List.map_cons,List.map_nil,s4];go_simp
   ·refine cu rfl ?_
    obtain ⟨st,a,S,Vs,hu,hz,ho,hS⟩:=(by have h_:=hI.dep haft 13 50 rfl rfl rfl;rw [hSp] at h_;exact h_:∃st a S,x.eval (.tmp 50)=bV a st∧iR en lb l=.ok st∧nX st∧uM wy S a st∧∀b,S b→w3.heap.size≤b∧b<wy.heap.size)
    obtain ⟨a0,s0_,hB0⟩:=hJ.1.st
    refine uK (F:=fun w'=>dF A a st w'∧Kept (· = A) wy w') (nZ rfl hB0 s2 a st Vs) rfl (fun w' hf=>hf.2.more fun _ h=>.inr (.inl h)) (fun w' hf l' hl=>?_)
    rw [hJd]
    show LJ A B C N T en l lb w3 (l' 13) (l' 15) (l' 16) w'
    rw [qV hl,upd_ne hl 13 (by decide),upd_ne hl 16 (by decide)]
    exact hJ.sS hne hf.2 hf.1 hu hz ho hS (by omega) BG
   ·refine cu rfl ?_
    refine kZ (w':=wy.setCell ⟨B,0,none⟩ (.bool true)) ?_ rfl ((Kept.refl _ _).setCell (p:=⟨B,0,none⟩) (.inl (.inr (.inr (.inl rfl)))) _) (fun l' hl=>?_)
    ·simp only [execOp,resolve,invoke,List.map_toArray,List.map_cons,List.map_nil,s3];go_simp
    ·rw [hJd]
     show LJ A B C N T en l lb w3 (l' 13) (l' 15) (l' 16) _
     rw [qV hl,upd_ne hl 13 (by decide),upd_ne hl 15 (by decide)]
     exact hJ.sB hne (by omega) BG
   ·refine cu rfl ?_
    have Vt:x.eval (.tmp 51)=.agg #[.int .i64 0,.int .i64 0]:=by have h_:=hI.dep haft 14 51 rfl rfl rfl;rw [hSp] at h_;exact h_
    refine kZ (w':=(wy.setCell ⟨C,0,none⟩ (.int .i64 0)).setCell ⟨C,1,none⟩ (.int .i64 0)) ?_ rfl (((Kept.refl _ _).setCell (p:=⟨C,0,none⟩) (.inl (.inr (.inr (.inr rfl)))) _).setCell (p:=⟨C,1,none⟩) (.inl (.inr (.inr (.inr rfl)))) _) (fun l' hl=>?_)
    ·simp only [execOp,resolve,invoke,List.map_toArray,List.map_cons,List.map_nil,s4,Vt];go_simp
    ·rw [hJd]
     show LJ A B C N T en l lb w3 (l' 13) (l' 15) (l' 16) _
     rw [upd_ne hl 13 (by decide),upd_ne hl 15 (by decide),upd_ne hl 16 (by decide)]
     exact hJ.sF hne (by omega) BG
  ·intro lq hl
   rw [hJd]
   show LJ A B C N T en l lb w3 (lq 13) (lq 15) (lq 16) w3.drew
   rw [hl 13 (by decide)]
   rw [hl 15 (by decide)]
   rw [hl 16 (by decide)]
   exact LJ.start T3.out R3.out
  ·intro lq l' f wx hl h
   rw [hJd] at h⊢
   have h:LJ A B C N T en l lb w3 (lq 13) (lq 15) (lq 16) wx:=h
   show LJ A B C N T en l lb w3 (l' 13) (l' 15) (l' 16) wx
   rw [←hl 13 (by decide)]
   rw [←hl 15 (by decide)]
   rw [←hl 16 (by decide)]
   exact h
  ·intro f wy hK hS hJ
   rw [hJd] at hJ
   have hJ:LJ A B C N T en l lb w3 ((fun _=>true) 13) ((fun _=>true) 15) ((fun _=>true) 16) wy:=hJ
   obtain ⟨hq1,hq2,hq3,hq4,hq5⟩:=hJ
   obtain ⟨st,a,S,hB,hu,hz,ho,hS⟩:=hq3 (by trivial)
   have K9:=K3.out.step hK (fun y hy=>by rcases hy with rfl|hy;exact .inr (by omega);rcases hy with h|h|h<;>exact .inr (by omega))
   simp only [jP,List.foldl_cons,List.foldl_nil,List.setIfInBounds_toArray,List.set_cons_zero,List.set_cons_succ]
   go_wp2_with fail
   refine Oa rfl rfl rfl rfl ⟨hB,hq4 (by trivial),hq2⟩ ⟨K9,?_⟩
   rw [fin.out,hu]
   exact ⟨a,S,rfl,hz,ho,fun b hb=>⟨by have:=(hS b hb).1;omega,(hS b hb).2⟩⟩
theorem Vu (s:aj) (w:World) (hs:s.size≤1000000000) (hm:uN w) (hr:mg w) (h0:0<s.size) (h1:s[0].toNat=42) (h2:2000<s.size):Calls Tryz.prog 7 #[.string s] w (Fe s w):=by
 have HL:Hid (kP s=match nH s with
  | .error er=>.error er
  | .ok l=>match iR s.size (zQ s) l with
   | .error er=>.error er
   | .ok x=>.ok (some x)):=by unfold Hid kP;rw [if_neg (by intro h;omega)];rfl
 obtain ⟨w0,hw0⟩:∃w0,w0=((w.alloc (.cells #[.string ⟨#[]⟩,.int .i64 0,.int .i64 0,.string ⟨#[]⟩,.int .i64 0,.string ⟨#[]⟩,.slice none 0 0,.int .i64 0,.string ⟨#[]⟩,.int .i64 0,.string ⟨#[]⟩,.slice none 0 0,.int .i64 0,.string ⟨#[]⟩,.int .i64 0,.string ⟨#[]⟩,.slice none 0 0,.string ⟨#[]⟩,.string ⟨#[]⟩,.slice none 0 0,.slice none 0 0,.string ⟨#[]⟩,.string ⟨#[]⟩,.string ⟨#[]⟩] 30)).alloc (.cells #[.bool false] 4)).alloc (.cells #[.int .i64 0,.int .i64 0] 36):=⟨_,rfl⟩
 have k0:Kept aC w w0:=by rw [hw0];exact (((Kept.refl _ _).alloc _).alloc _).alloc _
 have T0:Hid (ji w.heap.size (w.heap.size+1) (w.heap.size+1+1) nilA dU (.bool false) (.int .i64 0) (.int .i64 0) w0):=by
  rw [hw0]
  refine ⟨(dF.new w nilA dU).kept (((Kept.refl aC _).alloc _).alloc _) (fun h=>h),?_,?_⟩
  ·have h1:gG ((w.alloc (.cells #[.string ⟨#[]⟩,.int .i64 0,.int .i64 0,.string ⟨#[]⟩,.int .i64 0,.string ⟨#[]⟩,.slice none 0 0,.int .i64 0,.string ⟨#[]⟩,.int .i64 0,.string ⟨#[]⟩,.slice none 0 0,.int .i64 0,.string ⟨#[]⟩,.int .i64 0,.string ⟨#[]⟩,.slice none 0 0,.string ⟨#[]⟩,.string ⟨#[]⟩,.slice none 0 0,.slice none 0 0,.string ⟨#[]⟩,.string ⟨#[]⟩,.string ⟨#[]⟩] 30)).alloc (.cells #[.bool false] 4)) (w.heap.size+1) 4 (.bool false):=dO (by simp)
   unfold gG;rw [Below.heap_alloc _ _ _ h1.lt];exact h1
  ·exact dO (by simp)
 have hsz0:w0.heap.size=w.heap.size+3:=by rw [hw0];simp
 have HW0:=ah hw0
 have K0:=ah k0
 have M0:=ah (hm.kept k0 (fun h=>h))
 have G0:Hid (mg w0):=by obtain ⟨ev,h1,h2⟩:=hr;exact ⟨ev,(k0.cell (cell_lt h1) (fun h=>h)).trans h1,h2⟩
 have QJ:7<w.heap.size:=by obtain ⟨ev,h1,h2⟩:=hr;exact cell_lt h1
 clear hw0 k0 hm hr
 go_enter_defers Tryz.func7, Tryz.ntmps7
 go_upto_region 1 with fail
 rw [←HW0.out]
 obtain ⟨C,hC⟩:∃C,C=w.heap.size+1+1:=⟨_,rfl⟩
 rw [←hC] at T0⊢
 obtain ⟨B,hB⟩:∃B,B=w.heap.size+1:=⟨_,rfl⟩
 rw [←hB] at T0⊢
 obtain ⟨A,hA⟩:∃A,A=w.heap.size:=⟨_,rfl⟩
 rw [←hA] at T0⊢
 have hne:A≠B∧A≠C∧B≠C:=by omega
 have yA:w.heap.size≤A∧w.heap.size≤B∧w.heap.size≤C:=by omega
 have hlt:A<w0.heap.size∧B<w0.heap.size∧C<w0.heap.size:=by omega
 clear hA hB hC hsz0
 have s0:s.toList.isEmpty=false:=qN (fun e=>by rw [e] at h0;exact absurd h0 (by decide))
 have bi:(0:Int)<(s.size:Int):=by omega
 have y1:((s[0].toNat:Int)==42)=true:=by rw [h1];rfl
 have d1:decide ((s.size:Int)≤(2000:Int))=false:=au (by omega)
 have d2:decide (s.size≤2000)=false:=au (by omega)
 clear h1
 have ace:=hs
 cases hx:nH s with
 | error er =>
  have fin:Hid (kP s=.error er):=by unfold Hid;rw [HL.out,hx]
  have her:=GK hx
  have e1:(er.1 != 0)=true:=by simpa using her
  go_upto_region 4 with (go_at_call 18;(refine (uj s w0 hs M0.out).mono ?_);intro e w1 h_;obtain ⟨k_,h_⟩:=h_;rw [hx] at h_;obtain rfl:=h_;have T1:=ah (T0.out.kept k_ ⟨fun h=>h,fun h=>h,fun h=>h⟩);have K1:=ah (K0.out.trans k_);obtain ⟨qO,qP,iO⟩:=T1.out.fl.cells;have qQ:=iO 0;have qR:=iO 1;clear k_ iO)
  have T2:=ah (T1.out.CO hne (.int .i64 er.1) (.int .i64 er.2))
  have K2:=ah (oW.new (n:=0) (qC (i:=1) (d:=.int .i64 er.2) (qC (i:=0) (d:=.int .i64 er.1) (A:=A) (B:=B) (C:=C) (Kept.refl _ w1))) K1.out yA)
  obtain ⟨w2,hw2⟩:∃w2,w2=(w1.setCell ⟨C,0,none⟩ (.int .i64 er.1)).setCell ⟨C,1,none⟩ (.int .i64 er.2):=⟨_,rfl⟩
  rw [←hw2] at T2 K2
  rw [←hw2]
  clear hw2 qO qP qQ qR
  obtain ⟨qO,qP,iO⟩:=T2.out.fl.cells
  have qQ:=iO 0;have qR:=iO 1
  go_upto_region 5 with fail
  clear qO qP iO qQ qR
  obtain ⟨Sp,hSp⟩:∃Sp:Nat→Value→World→Prop,Sp=(fun i v wx=>match i with
   | 0=>v=bV nilA dU
   | 1=>v=.agg #[.int .i64 er.1,.int .i64 er.2]
   | _=>True):=⟨_,rfl⟩
  obtain ⟨J,hJd⟩:∃J:(Nat→Bool)→(Nat→Value)→World→Prop,J=(fun pp f wx=>ji A B C nilA dU (.bool false) (.int .i64 er.1) (.int .i64 er.2) wx):=⟨_,rfl⟩
  refine mW (oW A B C) J Sp [29,30] (by kernel_rfl) (by kernel_rfl) (by kernel_rfl) (fun i v w w' h hk=>by subst hSp;exact h) ?_ ?_ ?_ ?_
  ·intro i o hi lq x wy hI hJ hlf haft
   rw [hJd] at hJ
   have hJ:ji A B C nilA dU (.bool false) (.int .i64 er.1) (.int .i64 er.2) wy:=hJ
   have s2:x.eval (.tmp 2)=.pointer (some ⟨A,0,none⟩):=hI.keep 2 _ rfl (by kernel_rfl)
   have s3:x.eval (.tmp 3)=.pointer (some ⟨B,0,none⟩):=hI.keep 3 _ rfl (by kernel_rfl)
   have s4:x.eval (.tmp 4)=.pointer (some ⟨C,0,none⟩):=hI.keep 4 _ rfl (by kernel_rfl)
   have cb:=hJ.bo.cell;have fb:=hJ.bo.free
   obtain ⟨qO,qP,iO⟩:=hJ.fl.cells
   have qQ:=iO 0;have qR:=iO 1
   have hjn:∀(l':Nat→Bool),(∀j,l' j=true↔j=i∨lq j=true)→(∀j∈([]:List Nat),i≠j)→∀f,J l' f wy:=by
    intro l' hl hne f
    rw [hJd]
    show ji A B C nilA dU (.bool false) (.int .i64 er.1) (.int .i64 er.2) wy
    exact hJ
   rcases i with _|_|_|_|_|i
   all_goals (simp only [List.getElem?_toArray,List.getElem?_cons_zero,List.getElem?_cons_succ,List.getElem?_nil,Option.some.injEq,reduceCtorEq] at hi)
   all_goals subst hi
   ·refine cu rfl ?_
    refine bJ (v:=bV nilA dU) ?_ (by subst hSp;exact rfl) (fun l' hl=>hjn l' hl (by decide) _)
    exact wo rfl hJ.st s2
   ·refine cu rfl ?_
    refine bJ (v:=.agg #[.int .i64 er.1,.int .i64 er.2]) ?_ (by subst hSp;exact rfl) (fun l' hl=>hjn l' hl (by decide) _)
    simp only [execOp,resolve,invoke,List.map_toArray,List.map_cons,List.map_nil,s4];go_simp
   ·refine cu rfl ?_
    have Vm:x.eval (.tmp 29)=bV nilA dU:=by have h_:=hI.dep haft 0 29 rfl rfl rfl;rw [hSp] at h_;exact h_
    refine uK (F:=fun w'=>dF A nilA dU w'∧Kept (· = A) wy w') (nZ rfl hJ.st s2 nilA dU Vm) rfl (fun w' hf=>hf.2.more fun _ h=>.inl h) (fun w' hf l' hl=>?_)
    rw [hJd]
    exact hJ.JI hne hf.2 hf.1
   ·refine cu rfl ?_
    refine kZ (w':=wy.setCell ⟨B,0,none⟩ (.bool false)) ?_ rfl (N9 (Kept.refl _ _)) (fun l' hl=>?_)
    ·simp only [execOp,resolve,invoke,List.map_toArray,List.map_cons,List.map_nil,s3];go_simp
    ·rw [hJd];exact hJ.setB hne _
   ·refine cu rfl ?_
    have Vo:x.eval (.tmp 30)=.agg #[.int .i64 er.1,.int .i64 er.2]:=by have h_:=hI.dep haft 1 30 rfl rfl rfl;rw [hSp] at h_;exact h_
    refine kZ (w':=(wy.setCell ⟨C,0,none⟩ (.int .i64 er.1)).setCell ⟨C,1,none⟩ (.int .i64 er.2)) ?_ rfl (qC (qC (Kept.refl _ _))) (fun l' hl=>?_)
    ·simp only [execOp,resolve,invoke,List.map_toArray,List.map_cons,List.map_nil,s4,Vo];go_simp
    ·rw [hJd];exact hJ.CO hne _ _
  ·intro lq hl
   rw [hJd]
   show ji A B C nilA dU (.bool false) (.int .i64 er.1) (.int .i64 er.2) w2.drew
   exact T2.out.drew
  ·intro lq l' f wx hl h
   rw [hJd] at h⊢
   have h:ji A B C nilA dU (.bool false) (.int .i64 er.1) (.int .i64 er.2) wx:=h
   show ji A B C nilA dU (.bool false) (.int .i64 er.1) (.int .i64 er.2) wx
   exact h
  ·intro f wy hK hS hJ
   rw [hJd] at hJ
   have hJ:ji A B C nilA dU (.bool false) (.int .i64 er.1) (.int .i64 er.2) wy:=hJ
   simp only [jP,List.foldl_cons,List.foldl_nil,List.setIfInBounds_toArray,List.set_cons_zero,List.set_cons_succ]
   go_wp2_with fail
   refine ⟨_,qE rfl rfl rfl rfl hJ,oW.new (n:=0) hK K2.out yA,?_⟩
   rw [fin.out]
   exact rfl
 | ok l =>
  exact absurd hx (fun h=>by have:=(Ei h).2.2;omega)
theorem line_text (s:aj) (w:World) (hs:s.size≤1000000000) (hm:uN w) (hr:mg w) (h0:0<s.size) (h1:s[0].toNat≠42):Calls Tryz.prog 7 #[.string s] w (Fe s w):=by
 have HL:Hid (kP s=match nH s with
  | .error er=>.error er
  | .ok l=>match iR s.size (zQ s) l with
   | .error er=>.error er
   | .ok x=>.ok (some x)):=by unfold Hid kP;rw [if_neg (by rw [nT h0];intro h;omega)];rfl
 obtain ⟨w0,hw0⟩:∃w0,w0=((w.alloc (.cells #[.string ⟨#[]⟩,.int .i64 0,.int .i64 0,.string ⟨#[]⟩,.int .i64 0,.string ⟨#[]⟩,.slice none 0 0,.int .i64 0,.string ⟨#[]⟩,.int .i64 0,.string ⟨#[]⟩,.slice none 0 0,.int .i64 0,.string ⟨#[]⟩,.int .i64 0,.string ⟨#[]⟩,.slice none 0 0,.string ⟨#[]⟩,.string ⟨#[]⟩,.slice none 0 0,.slice none 0 0,.string ⟨#[]⟩,.string ⟨#[]⟩,.string ⟨#[]⟩] 30)).alloc (.cells #[.bool false] 4)).alloc (.cells #[.int .i64 0,.int .i64 0] 36):=⟨_,rfl⟩
 have k0:Kept aC w w0:=by rw [hw0];exact (((Kept.refl _ _).alloc _).alloc _).alloc _
 have T0:Hid (ji w.heap.size (w.heap.size+1) (w.heap.size+1+1) nilA dU (.bool false) (.int .i64 0) (.int .i64 0) w0):=by
  rw [hw0]
  refine ⟨(dF.new w nilA dU).kept (((Kept.refl aC _).alloc _).alloc _) (fun h=>h),?_,?_⟩
  ·have h1:gG ((w.alloc (.cells #[.string ⟨#[]⟩,.int .i64 0,.int .i64 0,.string ⟨#[]⟩,.int .i64 0,.string ⟨#[]⟩,.slice none 0 0,.int .i64 0,.string ⟨#[]⟩,.int .i64 0,.string ⟨#[]⟩,.slice none 0 0,.int .i64 0,.string ⟨#[]⟩,.int .i64 0,.string ⟨#[]⟩,.slice none 0 0,.string ⟨#[]⟩,.string ⟨#[]⟩,.slice none 0 0,.slice none 0 0,.string ⟨#[]⟩,.string ⟨#[]⟩,.string ⟨#[]⟩] 30)).alloc (.cells #[.bool false] 4)) (w.heap.size+1) 4 (.bool false):=dO (by simp)
   unfold gG;rw [Below.heap_alloc _ _ _ h1.lt];exact h1
  ·exact dO (by simp)
 have hsz0:w0.heap.size=w.heap.size+3:=by rw [hw0];simp
 have HW0:=ah hw0
 have K0:=ah k0
 have M0:=ah (hm.kept k0 (fun h=>h))
 have G0:Hid (mg w0):=by obtain ⟨ev,h1,h2⟩:=hr;exact ⟨ev,(k0.cell (cell_lt h1) (fun h=>h)).trans h1,h2⟩
 have QJ:7<w.heap.size:=by obtain ⟨ev,h1,h2⟩:=hr;exact cell_lt h1
 clear hw0 k0 hm hr
 go_enter_defers Tryz.func7, Tryz.ntmps7
 go_upto_region 1 with fail
 rw [←HW0.out]
 obtain ⟨C,hC⟩:∃C,C=w.heap.size+1+1:=⟨_,rfl⟩
 rw [←hC] at T0⊢
 obtain ⟨B,hB⟩:∃B,B=w.heap.size+1:=⟨_,rfl⟩
 rw [←hB] at T0⊢
 obtain ⟨A,hA⟩:∃A,A=w.heap.size:=⟨_,rfl⟩
 rw [←hA] at T0⊢
 have hne:A≠B∧A≠C∧B≠C:=by omega
 have yA:w.heap.size≤A∧w.heap.size≤B∧w.heap.size≤C:=by omega
 have hlt:A<w0.heap.size∧B<w0.heap.size∧C<w0.heap.size:=by omega
 clear hA hB hC hsz0
 have s0:s.toList.isEmpty=false:=qN (fun e=>by rw [e] at h0;exact absurd h0 (by decide))
 have bi:(0:Int)<(s.size:Int):=by omega
 have y1:((s[0].toNat:Int)==42)=false:=by simp;omega
 clear h1
 have ace:=hs
 cases hx:nH s with
 | error er =>
  have fin:Hid (kP s=.error er):=by unfold Hid;rw [HL.out,hx]
  have her:=GK hx
  have e1:(er.1 != 0)=true:=by simpa using her
  go_upto_region 4 with (go_at_call 18;(refine (uj s w0 hs M0.out).mono ?_);intro e w1 h_;obtain ⟨k_,h_⟩:=h_;rw [hx] at h_;obtain rfl:=h_;have T1:=ah (T0.out.kept k_ ⟨fun h=>h,fun h=>h,fun h=>h⟩);have K1:=ah (K0.out.trans k_);obtain ⟨qO,qP,iO⟩:=T1.out.fl.cells;have qQ:=iO 0;have qR:=iO 1;clear k_ iO)
  have T2:=ah (T1.out.CO hne (.int .i64 er.1) (.int .i64 er.2))
  have K2:=ah (oW.new (n:=0) (qC (i:=1) (d:=.int .i64 er.2) (qC (i:=0) (d:=.int .i64 er.1) (A:=A) (B:=B) (C:=C) (Kept.refl _ w1))) K1.out yA)
  obtain ⟨w2,hw2⟩:∃w2,w2=(w1.setCell ⟨C,0,none⟩ (.int .i64 er.1)).setCell ⟨C,1,none⟩ (.int .i64 er.2):=⟨_,rfl⟩
  rw [←hw2] at T2 K2
  rw [←hw2]
  clear hw2 qO qP qQ qR
  obtain ⟨qO,qP,iO⟩:=T2.out.fl.cells
  have qQ:=iO 0;have qR:=iO 1
  go_upto_region 5 with fail
  clear qO qP iO qQ qR
  obtain ⟨Sp,hSp⟩:∃Sp:Nat→Value→World→Prop,Sp=(fun i v wx=>match i with
   | 0=>v=bV nilA dU
   | 1=>v=.agg #[.int .i64 er.1,.int .i64 er.2]
   | _=>True):=⟨_,rfl⟩
  obtain ⟨J,hJd⟩:∃J:(Nat→Bool)→(Nat→Value)→World→Prop,J=(fun pp f wx=>ji A B C nilA dU (.bool false) (.int .i64 er.1) (.int .i64 er.2) wx):=⟨_,rfl⟩
  refine mW (oW A B C) J Sp [29,30] (by kernel_rfl) (by kernel_rfl) (by kernel_rfl) (fun i v w w' h hk=>by subst hSp;exact h) ?_ ?_ ?_ ?_
  ·intro i o hi lq x wy hI hJ hlf haft
   rw [hJd] at hJ
   have hJ:ji A B C nilA dU (.bool false) (.int .i64 er.1) (.int .i64 er.2) wy:=hJ
   have s2:x.eval (.tmp 2)=.pointer (some ⟨A,0,none⟩):=hI.keep 2 _ rfl (by kernel_rfl)
   have s3:x.eval (.tmp 3)=.pointer (some ⟨B,0,none⟩):=hI.keep 3 _ rfl (by kernel_rfl)
   have s4:x.eval (.tmp 4)=.pointer (some ⟨C,0,none⟩):=hI.keep 4 _ rfl (by kernel_rfl)
   have cb:=hJ.bo.cell;have fb:=hJ.bo.free
   obtain ⟨qO,qP,iO⟩:=hJ.fl.cells
   have qQ:=iO 0;have qR:=iO 1
   have hjn:∀(l':Nat→Bool),(∀j,l' j=true↔j=i∨lq j=true)→(∀j∈([]:List Nat),i≠j)→∀f,J l' f wy:=by
    intro l' hl hne f
    rw [hJd]
    show ji A B C nilA dU (.bool false) (.int .i64 er.1) (.int .i64 er.2) wy
    exact hJ
   rcases i with _|_|_|_|_|i
   all_goals (simp only [List.getElem?_toArray,List.getElem?_cons_zero,List.getElem?_cons_succ,List.getElem?_nil,Option.some.injEq,reduceCtorEq] at hi)
   all_goals subst hi
   ·refine cu rfl ?_
    refine bJ (v:=bV nilA dU) ?_ (by subst hSp;exact rfl) (fun l' hl=>hjn l' hl (by decide) _)
    exact wo rfl hJ.st s2
   ·refine cu rfl ?_
    refine bJ (v:=.agg #[.int .i64 er.1,.int .i64 er.2]) ?_ (by subst hSp;exact rfl) (fun l' hl=>hjn l' hl (by decide) _)
    simp only [execOp,resolve,invoke,List.map_toArray,List.map_cons,List.map_nil,s4];go_simp
   ·refine cu rfl ?_
    have Vm:x.eval (.tmp 29)=bV nilA dU:=by have h_:=hI.dep haft 0 29 rfl rfl rfl;rw [hSp] at h_;exact h_
    refine uK (F:=fun w'=>dF A nilA dU w'∧Kept (· = A) wy w') (nZ rfl hJ.st s2 nilA dU Vm) rfl (fun w' hf=>hf.2.more fun _ h=>.inl h) (fun w' hf l' hl=>?_)
    rw [hJd]
    exact hJ.JI hne hf.2 hf.1
   ·refine cu rfl ?_
    refine kZ (w':=wy.setCell ⟨B,0,none⟩ (.bool false)) ?_ rfl (N9 (Kept.refl _ _)) (fun l' hl=>?_)
    ·simp only [execOp,resolve,invoke,List.map_toArray,List.map_cons,List.map_nil,s3];go_simp
    ·rw [hJd];exact hJ.setB hne _
   ·refine cu rfl ?_
    have Vo:x.eval (.tmp 30)=.agg #[.int .i64 er.1,.int .i64 er.2]:=by have h_:=hI.dep haft 1 30 rfl rfl rfl;rw [hSp] at h_;exact h_
    refine kZ (w':=(wy.setCell ⟨C,0,none⟩ (.int .i64 er.1)).setCell ⟨C,1,none⟩ (.int .i64 er.2)) ?_ rfl (qC (qC (Kept.refl _ _))) (fun l' hl=>?_)
    ·simp only [execOp,resolve,invoke,List.map_toArray,List.map_cons,List.map_nil,s4,Vo];go_simp
    ·rw [hJd];exact hJ.CO hne _ _
  ·intro lq hl
   rw [hJd]
   show ji A B C nilA dU (.bool false) (.int .i64 er.1) (.int .i64 er.2) w2.drew
   exact T2.out.drew
  ·intro lq l' f wx hl h
   rw [hJd] at h⊢
   have h:ji A B C nilA dU (.bool false) (.int .i64 er.1) (.int .i64 er.2) wx:=h
   show ji A B C nilA dU (.bool false) (.int .i64 er.1) (.int .i64 er.2) wx
   exact h
  ·intro f wy hK hS hJ
   rw [hJd] at hJ
   have hJ:ji A B C nilA dU (.bool false) (.int .i64 er.1) (.int .i64 er.2) wy:=hJ
   simp only [jP,List.foldl_cons,List.foldl_nil,List.setIfInBounds_toArray,List.set_cons_zero,List.set_cons_succ]
   go_wp2_with fail
   refine ⟨_,qE rfl rfl rfl rfl hJ,oW.new (n:=0) hK K2.out yA,?_⟩
   rw [fin.out]
   exact rfl
 | ok l =>
  obtain ⟨hgood,hlen,hs2⟩:=Ei hx
  have HG:=ah hgood;have wP:=ah hlen
  have fin:Hid (kP s=match iR s.size (zQ s) l with | .error er=>.error er | .ok x=>.ok (some x)):=by unfold Hid;rw [HL.out,hx]
  clear hgood hlen
  go_upto_region 4 with (go_at_call 18;(refine (uj s w0 hs M0.out).mono ?_);intro e w1 h_;obtain ⟨k_,h_⟩:=h_;rw [hx] at h_;obtain ⟨la,lc,rfl,aQ⟩:=h_;have WN:=ah aQ;have T1:=ah (T0.out.kept k_ ⟨fun h=>h,fun h=>h,fun h=>h⟩);have iG:=ah k_;have K1:=ah (K0.out.trans k_);obtain ⟨qO,qP,iO⟩:=T1.out.fl.cells;have qQ:=iO 0;have qR:=iO 1;clear k_ iO aQ)
  have T2:=ah (T1.out.CO hne (.int .i64 0) (.int .i64 0))
  have rP:=ah (qC (i:=1) (d:=.int .i64 0) (qC (i:=0) (d:=.int .i64 0) (A:=A) (B:=B) (C:=C) (Kept.refl _ w1)))
  have K2:=ah (oW.new (n:=0) rP.out K1.out yA)
  obtain ⟨w2,hw2⟩:∃w2,w2=(w1.setCell ⟨C,0,none⟩ (.int .i64 0)).setCell ⟨C,1,none⟩ (.int .i64 0):=⟨_,rfl⟩
  rw [←hw2] at T2 K2 rP
  rw [←hw2]
  clear hw2 qO qP qQ qR
  obtain ⟨qO,qP,iO⟩:=T2.out.fl.cells
  have qQ:=iO 0;have qR:=iO 1
  have hmf:∀(fn:Fn) (first cap:Array Value) (w:World),(Instr.makeFunc fn first cap).run Tryz.prog w=.ok (.func fn first cap) w:=fun _ _ _ _=>rfl
  go_upto_region 8 with fail
  clear qO qP iO qQ qR
  obtain ⟨w3,hw3⟩:∃w3,w3=w2.alloc (.cells #[.slice la l.length lc,.int .i64 s.size,.int .i64 0] 62):=⟨_,rfl⟩
  have k3:Kept aC w2 w3:=by rw [hw3];exact (Kept.refl _ _).alloc _
  have X3:w3.heap[w2.heap.size]?=some (.cells #[.slice la l.length lc,.int .i64 s.size,.int .i64 0] 62 (0,0)):=by rw [hw3];exact ay w2 _
  obtain ⟨N,hN⟩:∃N,N=w2.heap.size:=⟨_,rfl⟩
  rw [←hN] at X3
  rw [←hw3,←hN]
  have Yy:=rP.out.size;have Ob:=iG.out.size
  have hNA:A<N∧B<N∧C<N∧w0.heap.size≤N:=by omega
  have hlN:N<w3.heap.size:=(Array.getElem?_eq_some_iff.1 X3).1
  have R3:Hid (∃T,fA N T s.size l 0 w3∧A≠T∧B≠T∧C≠T):=by
   have hg2:mg w2:=by
    obtain ⟨ev,h1,h2⟩:=G0.out
    have e1:¬oW A B C 7:=fun h=>by rcases h with h|h|h<;>omega
    exact ⟨ev,(rP.out.cell (Nat.lt_of_lt_of_le (cell_lt h1) Ob) e1).trans ((iG.out.cell (cell_lt h1) (fun h=>h)).trans h1),h2⟩
   have hg3:mg w3:=by obtain ⟨ev,h1,h2⟩:=hg2;exact ⟨ev,(k3.cell (cell_lt h1) (fun h=>h)).trans h1,h2⟩
   rcases WN.out.cells with ⟨hv,hn⟩|⟨g,o,c',hv,hg1,hgl,hcap,hcm,hc⟩
   ·simp only [Value.slice.injEq] at hv
    obtain ⟨rfl,_,rfl⟩:=hv
    obtain rfl:l=[]:=List.length_eq_zero_iff.1 hn
    exact ⟨7,⟨0,none,0,X3,rfl,Nat.le_refl _,fun h=>absurd rfl h,by omega,by have:=k3.size;omega,by omega,HG.out,by omega,hg3⟩,by omega,by omega,by omega⟩
   ·simp only [Value.slice.injEq,true_and] at hv
    obtain ⟨rfl,rfl⟩:=hv
    have hgn:g<N:=by omega
    have hgi:¬oW A B C g:=fun h=>by rcases h with h|h|h<;>omega
    exact ⟨g,⟨l.length,_,_,X3,rfl,hcap,fun _=>⟨o,rfl,fun j u hu=>(k3.cell (by omega) (fun h=>h)).trans ((rP.out.cell hgl hgi).trans (hc j u hu).1)⟩,by omega,by omega,by unfold maxLen at hcm;omega,HG.out,by omega,hg3⟩,by omega,by omega,by omega⟩
  obtain ⟨T,R3,hTA⟩:=R3.out
  have T3:=ah (T2.out.kept k3 ⟨fun h=>h,fun h=>h,fun h=>h⟩)
  have K3:=ah (K2.out.trans k3)
  have R3:=ah R3
  clear hw3 k3 X3 hN Yy Ob WN T2 K2 rP iG T1 K1 T0 M0 G0 HG
  have Bz:Hid (zQ s=((!s.toList.isEmpty&&decide (peek s 0≠32))&&decide (peek s 0≠58))):=Vl s
  obtain ⟨lb,hlb⟩:∃lb,lb=zQ s:=⟨_,rfl⟩
  rw [←hlb] at Bz fin
  obtain ⟨en,hen⟩:∃en,en=s.size:=⟨_,rfl⟩
  rw [←hen] at R3 fin
  have BG:A≠N∧B≠N∧C≠N∧A≠T∧B≠T∧C≠T∧7≠A∧7≠B∧7≠C:=by omega
  obtain ⟨Sp,hSp⟩:∃Sp:Nat→Value→World→Prop,Sp=(fun i v wx=>match i with
   | 0=>v=.pointer (some ⟨N,0,none⟩)
   | 1=>v=.string s
   | 2=>v=.bool (!s.toList.isEmpty)
   | 3=>v=.bool (!s.toList.isEmpty)
   | 4=>(!s.toList.isEmpty)=true→v=.string s
   | 5=>(!s.toList.isEmpty)=true→v=.int .u8 (peek s 0)
   | 6=>(!s.toList.isEmpty)=true→v=.bool (decide (peek s 0≠32))
   | 7=>v=.bool (!s.toList.isEmpty&&decide (peek s 0≠32))
   | 8=>v=.bool (!s.toList.isEmpty&&decide (peek s 0≠32))
   | 9=>(!s.toList.isEmpty&&decide (peek s 0≠32))=true→v=.string s
   | 10=>(!s.toList.isEmpty&&decide (peek s 0≠32))=true→v=.int .u8 (peek s 0)
   | 11=>(!s.toList.isEmpty&&decide (peek s 0≠32))=true→v=.bool (decide (peek s 0≠58))
   | 12=>v=.bool lb
   | 13=>∃st a S,v=bV a st∧iR en lb l=.ok st∧nX st∧uM wx S a st∧∀b,S b→w3.heap.size≤b∧b<wx.heap.size
   | 14=>v=.agg #[.int .i64 0,.int .i64 0]
   | _=>True):=⟨_,rfl⟩
  obtain ⟨J,hJd⟩:∃J:(Nat→Bool)→(Nat→Value)→World→Prop,J=(fun pp f wx=>LJ A B C N T en l lb w3 (pp 13) (pp 15) (pp 16) wx):=⟨_,rfl⟩
  refine mW (fun b=>b=N∨oW A B C b) J Sp [37,38,39,40,41,42,43,44,45,46,47,48,49,50,51] (by kernel_rfl) (by kernel_rfl) (by kernel_rfl) (fun i v w w' h hk=>by subst hSp;rcases i with _|_|_|_|_|_|_|_|_|_|_|_|_|_|_|i;all_goals first|exact h|(obtain ⟨st,a,S,h1,h2,h3,h4,h5⟩:=h;exact ⟨st,a,S,h1,h2,h3,h4.to hk (fun b hb=>⟨(h5 b hb).2,fun hx=>by have:=h5 b hb;rcases hx with h|h|h|h<;>omega⟩) (fun _ h=>h),fun b hb=>⟨(h5 b hb).1,Nat.lt_of_lt_of_le (h5 b hb).2 hk.size⟩⟩)) ?_ ?_ ?_ ?_
  ·intro i o hi lq x wy hI hJ hlf haft
   rw [hJd] at hJ
   have hJ:LJ A B C N T en l lb w3 (lq 13) (lq 15) (lq 16) wy:=hJ
   have s0:x.eval (.tmp 0)=.string s:=hI.keep 0 _ rfl (by kernel_rfl)
   have s2:x.eval (.tmp 2)=.pointer (some ⟨A,0,none⟩):=hI.keep 2 _ rfl (by kernel_rfl)
   have s3:x.eval (.tmp 3)=.pointer (some ⟨B,0,none⟩):=hI.keep 3 _ rfl (by kernel_rfl)
   have s4:x.eval (.tmp 4)=.pointer (some ⟨C,0,none⟩):=hI.keep 4 _ rfl (by kernel_rfl)
   have s6:x.eval (.tmp 6)=.pointer (some ⟨N,0,none⟩):=hI.keep 6 _ rfl (by kernel_rfl)
   have hsz:x.tmps.size=52:=hI.size
   obtain ⟨⟨vb,cb⟩,fb⟩:=hJ.1.bo
   obtain ⟨qO,qP,iO⟩:=hJ.2.1.cells
   have qQ:=iO 0;have qR:=iO 1
   have hjn:∀(l':Nat→Bool),(∀j,l' j=true↔j=i∨lq j=true)→(∀j∈([13,15,16]:List Nat),i≠j)→∀f,J l' f wy:=by
    intro l' hl hne f
    rw [hJd]
    show LJ A B C N T en l lb w3 (l' 13) (l' 15) (l' 16) wy
    rw [upd_ne hl 13 (Ne.symm (hne 13 (by simp)))]
    rw [upd_ne hl 15 (Ne.symm (hne 15 (by simp)))]
    rw [upd_ne hl 16 (Ne.symm (hne 16 (by simp)))]
    exact hJ
   rcases i with _|_|_|_|_|_|_|_|_|_|_|_|_|_|_|_|_|_|i
   all_goals (simp only [List.getElem?_toArray,List.getElem?_cons_zero,List.getElem?_cons_succ,List.getElem?_nil,Option.some.injEq,reduceCtorEq] at hi)
   all_goals subst hi
   ·refine cu rfl ?_
    refine bJ (v:=.pointer (some ⟨N,0,none⟩)) ?_ (by subst hSp;exact rfl) (fun l' hl=>hjn l' hl (by decide) _)
    simp only [execOp,resolve,invoke,List.map_toArray,List.map_cons,List.map_nil,s6];go_simp
   ·refine cu rfl ?_
    refine bJ (v:=.string s) ?_ (by subst hSp;exact rfl) (fun l' hl=>hjn l' hl (by decide) _)
    simp only [execOp,resolve,invoke,List.map_toArray,List.map_cons,List.map_nil,s0];go_simp
   ·refine cu rfl ?_
    have d38:x.eval (.tmp 38)=.string s:=by have h_:=hI.dep haft 1 38 rfl rfl rfl;rw [hSp] at h_;exact h_
    refine bJ (v:=.bool (!s.toList.isEmpty)) ?_ (by subst hSp;exact rfl) (fun l' hl=>hjn l' hl (by decide) _)
    simp only [execOp,resolve,invoke,List.map_toArray,List.map_cons,List.map_nil,d38];go_simp;try rfl
   ·refine cu rfl ?_
    have d39:x.eval (.tmp 39)=.bool (!s.toList.isEmpty):=by have h_:=hI.dep haft 2 39 rfl rfl rfl;rw [hSp] at h_;exact h_
    refine bJ (v:=.bool (!s.toList.isEmpty)) ?_ (by subst hSp;exact rfl) (fun l' hl=>hjn l' hl (by decide) _)
    simp only [execOp,resolve,invoke,List.map_toArray,List.map_cons,List.map_nil,d39];go_simp
   ·have um:x.eval (.tmp 40)=.bool (!s.toList.isEmpty):=by have h_:=hI.dep haft 3 40 rfl rfl rfl;rw [hSp] at h_;exact h_
    refine rO (j:=3) rfl rfl rfl um (by rw [hsz];decide) (fun hb=>?_) (fun hb=>⟨fun d hd=>by subst hSp;exact fun h=>(by rw [hb] at h;cases h),fun l' hl=>hjn l' hl (by decide) _⟩)
    refine bJ (v:=.string s) ?_ (by subst hSp;exact fun _=>rfl) (fun l' hl=>hjn l' hl (by decide) _)
    simp only [execOp,resolve,invoke,List.map_toArray,List.map_cons,List.map_nil,s0];go_simp
   ·have um:x.eval (.tmp 40)=.bool (!s.toList.isEmpty):=by have h_:=hI.dep haft 3 40 rfl rfl rfl;rw [hSp] at h_;exact h_
    refine rO (j:=3) rfl rfl rfl um (by rw [hsz];decide) (fun hb=>?_) (fun hb=>⟨fun d hd=>by subst hSp;exact fun h=>(by rw [hb] at h;cases h),fun l' hl=>hjn l' hl (by decide) _⟩)
    have d41:x.eval (.tmp 41)=.string s:=by have h_:=hI.dep haft 4 41 rfl rfl rfl;rw [hSp] at h_;exact h_ hb
    have hbe:=hb
    have hp0:0<s.size:=by (by_cases hz:0<s.size;exact hz;exfalso;have e0:s=E0:=(by apply ByteArray.ext;apply Array.toList_inj.1;have:s.data.toList.length=0:=(by have e_:s.data.toList.length=s.size:=rfl;omega);rw [List.length_eq_zero_iff.1 this];rfl);rw [e0,oI] at hbe;cases hbe)
    have hbi:(0:Int)<(s.size:Int):=by omega
    refine bJ (v:=.int .u8 (peek s 0)) ?_ (by subst hSp;exact fun _=>rfl) (fun l' hl=>hjn l' hl (by decide) _)
    rw [nT hp0]
    simp only [execOp,resolve,invoke,List.map_toArray,List.map_cons,List.map_nil,d41];go_simp
   ·have um:x.eval (.tmp 40)=.bool (!s.toList.isEmpty):=by have h_:=hI.dep haft 3 40 rfl rfl rfl;rw [hSp] at h_;exact h_
    refine rO (j:=3) rfl rfl rfl um (by rw [hsz];decide) (fun hb=>?_) (fun hb=>⟨fun d hd=>by subst hSp;exact fun h=>(by rw [hb] at h;cases h),fun l' hl=>hjn l' hl (by decide) _⟩)
    have d42:x.eval (.tmp 42)=.int .u8 (peek s 0):=by have h_:=hI.dep haft 5 42 rfl rfl rfl;rw [hSp] at h_;exact h_ hb
    refine bJ (v:=.bool (decide (peek s 0≠32))) ?_ (by subst hSp;exact fun _=>rfl) (fun l' hl=>hjn l' hl (by decide) _)
    simp only [execOp,resolve,invoke,List.map_toArray,List.map_cons,List.map_nil,d42];go_simp;try rfl
   ·refine cu rfl ?_
    have um:x.eval (.tmp 40)=.bool (!s.toList.isEmpty):=by have h_:=hI.dep haft 3 40 rfl rfl rfl;rw [hSp] at h_;exact h_
    have Oc:(!s.toList.isEmpty)=true→x.eval (.tmp 43)=.bool (decide (peek s 0≠32)):=by have h_:=hI.dep haft 6 43 rfl rfl rfl;rw [hSp] at h_;exact h_
    refine bJ (v:=.bool (!s.toList.isEmpty&&decide (peek s 0≠32))) ?_ (by subst hSp;exact rfl) (fun l' hl=>hjn l' hl (by decide) _)
    cases hb:(!s.toList.isEmpty) with
    | true=>have Oc:=Oc hb;rw [hb] at um;simp only [execOp,resolve,invoke,List.map_toArray,List.map_cons,List.map_nil,um,Oc];go_simp;try rfl
    | false=>rw [hb] at um;simp only [execOp,resolve,invoke,List.map_toArray,List.map_cons,List.map_nil,um];go_simp;try rfl
   ·refine cu rfl ?_
    have d44:x.eval (.tmp 44)=.bool (!s.toList.isEmpty&&decide (peek s 0≠32)):=by have h_:=hI.dep haft 7 44 rfl rfl rfl;rw [hSp] at h_;exact h_
    refine bJ (v:=.bool (!s.toList.isEmpty&&decide (peek s 0≠32))) ?_ (by subst hSp;exact rfl) (fun l' hl=>hjn l' hl (by decide) _)
    simp only [execOp,resolve,invoke,List.map_toArray,List.map_cons,List.map_nil,d44];go_simp
   ·have uo:x.eval (.tmp 45)=.bool (!s.toList.isEmpty&&decide (peek s 0≠32)):=by have h_:=hI.dep haft 8 45 rfl rfl rfl;rw [hSp] at h_;exact h_
    refine rO (j:=8) rfl rfl rfl uo (by rw [hsz];decide) (fun hb=>?_) (fun hb=>⟨fun d hd=>by subst hSp;exact fun h=>(by rw [hb] at h;cases h),fun l' hl=>hjn l' hl (by decide) _⟩)
    refine bJ (v:=.string s) ?_ (by subst hSp;exact fun _=>rfl) (fun l' hl=>hjn l' hl (by decide) _)
    simp only [execOp,resolve,invoke,List.map_toArray,List.map_cons,List.map_nil,s0];go_simp
   ·have uo:x.eval (.tmp 45)=.bool (!s.toList.isEmpty&&decide (peek s 0≠32)):=by have h_:=hI.dep haft 8 45 rfl rfl rfl;rw [hSp] at h_;exact h_
    refine rO (j:=8) rfl rfl rfl uo (by rw [hsz];decide) (fun hb=>?_) (fun hb=>⟨fun d hd=>by subst hSp;exact fun h=>(by rw [hb] at h;cases h),fun l' hl=>hjn l' hl (by decide) _⟩)
    have Vp:x.eval (.tmp 46)=.string s:=by have h_:=hI.dep haft 9 46 rfl rfl rfl;rw [hSp] at h_;exact h_ hb
    have hbe:(!s.toList.isEmpty)=true:=by rw [Bool.and_eq_true] at hb;exact hb.1
    have hp0:0<s.size:=by (by_cases hz:0<s.size;exact hz;exfalso;have e0:s=E0:=(by apply ByteArray.ext;apply Array.toList_inj.1;have:s.data.toList.length=0:=(by have e_:s.data.toList.length=s.size:=rfl;omega);rw [List.length_eq_zero_iff.1 this];rfl);rw [e0,oI] at hbe;cases hbe)
    have hbi:(0:Int)<(s.size:Int):=by omega
    refine bJ (v:=.int .u8 (peek s 0)) ?_ (by subst hSp;exact fun _=>rfl) (fun l' hl=>hjn l' hl (by decide) _)
    rw [nT hp0]
    simp only [execOp,resolve,invoke,List.map_toArray,List.map_cons,List.map_nil,Vp];go_simp
   ·have uo:x.eval (.tmp 45)=.bool (!s.toList.isEmpty&&decide (peek s 0≠32)):=by have h_:=hI.dep haft 8 45 rfl rfl rfl;rw [hSp] at h_;exact h_
    refine rO (j:=8) rfl rfl rfl uo (by rw [hsz];decide) (fun hb=>?_) (fun hb=>⟨fun d hd=>by subst hSp;exact fun h=>(by rw [hb] at h;cases h),fun l' hl=>hjn l' hl (by decide) _⟩)
    have Vq:x.eval (.tmp 47)=.int .u8 (peek s 0):=by have h_:=hI.dep haft 10 47 rfl rfl rfl;rw [hSp] at h_;exact h_ hb
    refine bJ (v:=.bool (decide (peek s 0≠58))) ?_ (by subst hSp;exact fun _=>rfl) (fun l' hl=>hjn l' hl (by decide) _)
    simp only [execOp,resolve,invoke,List.map_toArray,List.map_cons,List.map_nil,Vq];go_simp;try rfl
   ·refine cu rfl ?_
    have uo:x.eval (.tmp 45)=.bool (!s.toList.isEmpty&&decide (peek s 0≠32)):=by have h_:=hI.dep haft 8 45 rfl rfl rfl;rw [hSp] at h_;exact h_
    have IK:(!s.toList.isEmpty&&decide (peek s 0≠32))=true→x.eval (.tmp 48)=.bool (decide (peek s 0≠58)):=by have h_:=hI.dep haft 11 48 rfl rfl rfl;rw [hSp] at h_;exact h_
    refine bJ (v:=.bool lb) ?_ (by subst hSp;exact rfl) (fun l' hl=>hjn l' hl (by decide) _)
    cases hb:(!s.toList.isEmpty&&decide (peek s 0≠32)) with
    | true=>have IK:=IK hb;rw [hb] at uo;rw [Bz.out,hb,Bool.true_and];simp only [execOp,resolve,invoke,List.map_toArray,List.map_cons,List.map_nil,uo,IK];go_simp;try rfl
    | false=>rw [hb] at uo;rw [Bz.out,hb,Bool.false_and];simp only [execOp,resolve,invoke,List.map_toArray,List.map_cons,List.map_nil,uo];go_simp;try rfl
   ·refine cu rfl ?_
    have d37:x.eval (.tmp 37)=.pointer (some ⟨N,0,none⟩):=by have h_:=hI.dep haft 0 37 rfl rfl rfl;rw [hSp] at h_;exact h_
    have Vr:x.eval (.tmp 49)=.bool lb:=by have h_:=hI.dep haft 12 49 rfl rfl rfl;rw [hSp] at h_;exact h_
    have hrd:=hJ.2.2.2.2 hlf
    refine Kw (f:=20) (args:=#[.pointer (some ⟨N,0,none⟩),.bool lb]) ?_ ?_
    ·simp only [execOp,resolve,invoke,List.map_toArray,List.map_cons,List.map_nil,d37,Vr];go_simp;try rfl
    ·refine (KY lb hrd (by have:=wP.out;omega)).mono ?_
     intro e wz hq
     obtain ⟨kz,hq⟩:=hq
     cases hu:iR en lb l with
     | error er =>
      rw [hu] at hq
      refine .inr ⟨_,hq,?_⟩
      have hxd:=hI.defers
      obtain ⟨xt,xd⟩:=x
      dsimp only at hxd s2 s3 s4
      rw [hxd]
      refine IJ (er:=er) hne rfl s2 s3 s4 (hJ.1.tri.kept kz ⟨by omega,by omega,by omega⟩) (fun wv kv=>⟨((K3.out.step hI.kept (fun y hy=>by rcases hy with rfl|hy;exact .inr (by omega);rcases hy with h|h|h<;>exact .inr (by omega))).step kz (fun y hy=>.inr (by omega))).step kv (fun y hy=>by rcases hy with h|h|h<;>exact .inr (by omega)),?_⟩)
      rw [fin.out,hu]
      exact rfl
     | ok st =>
      rw [hu] at hq
      obtain ⟨a,S,he,hz,ho,hS⟩:=hq
      have hge:w3.heap.size≤wy.heap.size:=hI.kept.size
      refine .inl ⟨_,he,by subst hSp;exact ⟨st,a,S,rfl,hu,hz,ho,fun b hb=>⟨by have:=(hS b hb).1;omega,(hS b hb).2⟩⟩,kz.more (fun _ h=>.inl h),fun l' hl=>?_⟩
      rw [hJd]
      show LJ A B C N T en l lb w3 (l' 13) (l' 15) (l' 16) wz
      rw [qV hl,upd_ne hl 15 (by decide),upd_ne hl 16 (by decide)]
      have n15:=hI.no hlf 15 rfl rfl
      exact hJ.call hne kz ⟨by omega,by omega,by omega⟩ n15
   ·refine cu rfl ?_
    refine bJ (v:=.agg #[.int .i64 0,.int .i64 0]) ?_ (by subst hSp;exact rfl) (fun l' hl=>hjn l' hl (by decide) _)
    simp only [execOp,resolve,invoke,List.map_toArray,List.map_cons,List.map_nil,s4];go_simp
   ·refine cu rfl ?_
    obtain ⟨st,a,S,Vs,hu,hz,ho,hS⟩:=(by have h_:=hI.dep haft 13 50 rfl rfl rfl;rw [hSp] at h_;exact h_:∃st a S,x.eval (.tmp 50)=bV a st∧iR en lb l=.ok st∧nX st∧uM wy S a st∧∀b,S b→w3.heap.size≤b∧b<wy.heap.size)
    obtain ⟨a0,s0_,hB0⟩:=hJ.1.st
    refine uK (F:=fun w'=>dF A a st w'∧Kept (· = A) wy w') (nZ rfl hB0 s2 a st Vs) rfl (fun w' hf=>hf.2.more fun _ h=>.inr (.inl h)) (fun w' hf l' hl=>?_)
    rw [hJd]
    show LJ A B C N T en l lb w3 (l' 13) (l' 15) (l' 16) w'
    rw [qV hl,upd_ne hl 13 (by decide),upd_ne hl 16 (by decide)]
    exact hJ.sS hne hf.2 hf.1 hu hz ho hS (by omega) BG
   ·refine cu rfl ?_
    refine kZ (w':=wy.setCell ⟨B,0,none⟩ (.bool true)) ?_ rfl ((Kept.refl _ _).setCell (p:=⟨B,0,none⟩) (.inl (.inr (.inr (.inl rfl)))) _) (fun l' hl=>?_)
    ·simp only [execOp,resolve,invoke,List.map_toArray,List.map_cons,List.map_nil,s3];go_simp
    ·rw [hJd]
     show LJ A B C N T en l lb w3 (l' 13) (l' 15) (l' 16) _
     rw [qV hl,upd_ne hl 13 (by decide),upd_ne hl 15 (by decide)]
     exact hJ.sB hne (by omega) BG
   ·refine cu rfl ?_
    have Vt:x.eval (.tmp 51)=.agg #[.int .i64 0,.int .i64 0]:=by have h_:=hI.dep haft 14 51 rfl rfl rfl;rw [hSp] at h_;exact h_
    refine kZ (w':=(wy.setCell ⟨C,0,none⟩ (.int .i64 0)).setCell ⟨C,1,none⟩ (.int .i64 0)) ?_ rfl (((Kept.refl _ _).setCell (p:=⟨C,0,none⟩) (.inl (.inr (.inr (.inr rfl)))) _).setCell (p:=⟨C,1,none⟩) (.inl (.inr (.inr (.inr rfl)))) _) (fun l' hl=>?_)
    ·simp only [execOp,resolve,invoke,List.map_toArray,List.map_cons,List.map_nil,s4,Vt];go_simp
    ·rw [hJd]
     show LJ A B C N T en l lb w3 (l' 13) (l' 15) (l' 16) _
     rw [upd_ne hl 13 (by decide),upd_ne hl 15 (by decide),upd_ne hl 16 (by decide)]
     exact hJ.sF hne (by omega) BG
  ·intro lq hl
   rw [hJd]
   show LJ A B C N T en l lb w3 (lq 13) (lq 15) (lq 16) w3.drew
   rw [hl 13 (by decide)]
   rw [hl 15 (by decide)]
   rw [hl 16 (by decide)]
   exact LJ.start T3.out R3.out
  ·intro lq l' f wx hl h
   rw [hJd] at h⊢
   have h:LJ A B C N T en l lb w3 (lq 13) (lq 15) (lq 16) wx:=h
   show LJ A B C N T en l lb w3 (l' 13) (l' 15) (l' 16) wx
   rw [←hl 13 (by decide)]
   rw [←hl 15 (by decide)]
   rw [←hl 16 (by decide)]
   exact h
  ·intro f wy hK hS hJ
   rw [hJd] at hJ
   have hJ:LJ A B C N T en l lb w3 ((fun _=>true) 13) ((fun _=>true) 15) ((fun _=>true) 16) wy:=hJ
   obtain ⟨hq1,hq2,hq3,hq4,hq5⟩:=hJ
   obtain ⟨st,a,S,hB,hu,hz,ho,hS⟩:=hq3 (by trivial)
   have K9:=K3.out.step hK (fun y hy=>by rcases hy with rfl|hy;exact .inr (by omega);rcases hy with h|h|h<;>exact .inr (by omega))
   simp only [jP,List.foldl_cons,List.foldl_nil,List.setIfInBounds_toArray,List.set_cons_zero,List.set_cons_succ]
   go_wp2_with fail
   refine Oa rfl rfl rfl rfl ⟨hB,hq4 (by trivial),hq2⟩ ⟨K9,?_⟩
   rw [fin.out,hu]
   exact ⟨a,S,rfl,hz,ho,fun b hb=>⟨by have:=(hS b hb).1;omega,(hS b hb).2⟩⟩
theorem CP (s:aj) (w:World) (hs:s.size≤1000000000) (hm:uN w) (hr:mg w):Calls Tryz.prog 7 #[.string s] w (Fe s w):=by
 by_cases h0:0<s.size
 ·by_cases h1:s[0].toNat=42
  ·by_cases h2:s.size≤2000
   ·exact PX s w hs hm hr h0 h1 h2
   ·exact Vu s w hs hm hr h0 h1 (by omega)
  ·exact line_text s w hs hm hr h0 h1
 ·refine RY s w hs hm hr ?_
  apply ByteArray.ext;apply Array.toList_inj.1
  have:s.data.toList.length=0:=by have e_:s.data.toList.length=s.size:=rfl;omega
  rw [List.length_eq_zero_iff.1 this];rfl
end Go.Proofs.YtefjbnhpjdhjmaaGreatDoor
