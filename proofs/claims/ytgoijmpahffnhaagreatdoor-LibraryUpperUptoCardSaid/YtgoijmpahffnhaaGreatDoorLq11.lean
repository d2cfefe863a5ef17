/-  -/
import Derived.Test.YtgoijmpahffnhaaGreatDoorLq9
import Derived.Test.YtgoijmpahffnhaaGreatDoorSt3
import Derived.Test.YtgoijmpahffnhaaGreatDoorLq15
import Derived.Test.YtgoijmpahffnhaaGreatDoorLq12
import Derived.BigQuiet
import Derived.Test.YtgoijmpahffnhaaGreatDoorLq5
import Derived.Test.YtgoijmpahffnhaaGreatDoorLq7
import Derived.Test.YtgoijmpahffnhaaGreatDoorShelf
import Derived.Lib.AppendZerosOnto
import Derived.Test.YtgoijmpahffnhaaGreatDoorNu2
import Derived.Shelf.Strings.SlTrimAscii
import Derived.Deep.RegionWith
namespace Go.Proofs.YtgoijmpahffnhaaGreatDoor
set_option linter.all false
open Go.RowKit
def Jz (n:aj):Nat→List aF→Int
 | _,[] => -1
 | i,s::r=>if s.label=n∧n.size≠0 then (i:Int) else Jz n (i+1) r
def oM (l:List aF) (n:aj):Int:=Jz n 0 l
def NG (n:aj):Nat→List aF→Int
 | _,[] => -1
 | i,s::r=>if s.kind=7∧s.name=n then (i:Int) else NG n (i+1) r
def funcF (l:List aF) (n:aj):Int:=NG n 0 l
end Go.Proofs.YtgoijmpahffnhaaGreatDoor

namespace Go.Proofs.YtgoijmpahffnhaaGreatDoor
set_option linter.all false
open Go.RowKit
def iW (s:aF):List aB:=if s.kind=2∨s.kind=4 then [s.value] else if s.kind=3∨s.kind=5 then [s.target,s.value] else []
theorem yO {w:World} {S':Nat→Prop} {g o:Nat} {p:aB} {ka:Option Addr} {kc:Nat} (hg:S' g) (hz:p.text.size<1000000000∧p.name.size<1000000000∧p.kids.length<1000000000)
  (h0:w.cell? ⟨g,o,none⟩=some (.int .i64 p.kind)) (h1:w.cell? ⟨g,o+1,none⟩=some (.string p.text)) (h2:w.cell? ⟨g,o+2,none⟩=some (.int .i64 p.n)) (h3:w.cell? ⟨g,o+3,none⟩=some (.string p.name))
  (h4:w.cell? ⟨g,o+4,none⟩=some (.slice ka p.kids.length kc)) (hk:aN w S' ka p.kids):aX w S' g o p:=by
 obtain ⟨k,t,n,nm,kids⟩:=p
 unfold aX
 exact ⟨hg,hz,h0,h1,h2,h3,ka,kc,h4,hk⟩
end Go.Proofs.YtgoijmpahffnhaaGreatDoor

namespace Go.Proofs.YtgoijmpahffnhaaGreatDoor
set_option linter.all false
open Go.RowKit
def Il (all:List aj):Prop:=∀a (h:a<all.length),all[a].toList≠[73,78,80,85,84]∧all[a].toList≠[79,85,84,80,85,84]∧∀b (hb:b<a),all[a]≠all[b]'(by omega)
def JW (l:List aF) (i:Nat) (s:aF):Prop:=s.label.size=0∨(rH s.label=false∧oM l s.label=i)
def Po (l:List aF) (i:Nat) (s:aF):Prop:=aH s.name<0∧funcF l s.name=i
def ql (l:List aF) (i:Nat) (s:aF):Prop:=JW l i s∧(s.kind=7→Po l i s∧Il (s.name::s.params++s.locals))
end Go.Proofs.YtgoijmpahffnhaaGreatDoor

namespace Go.Proofs.YtgoijmpahffnhaaGreatDoor
set_option linter.all false
open Go.RowKit
def xR (l:List aF) (n:aj):Prop:=n.size≠0∧rH n=false∧oM l n<0
instance (l:List aF) (n:aj):Decidable (xR l n):=by unfold xR;exact inferInstance
def ZT (l:List aF):List aj→Int
 | []=>0
 | n::r=>if xR l n then 6 else ZT l r
def Am (s:aF):List aj:=[s.always,s.yes,s.bW]
def xX (l:List aF) (d:Int):Nat:=match l[d.toNat]? with|some t=>t.params.length|none=>0
def Ir (l:List aF) (x:aB):Int :=
 if x.kind≠6 then 0
 else if 0≤aH x.name∧aH x.name≠x.kids.length then 5
 else if aH x.name<0∧funcF l x.name<0 then 7
 else if aH x.name<0∧xX l (funcF l x.name)<x.kids.length then 5 else 0
def yA (l:List aF):List aB→Int
 | []=>0
 | y::r=>if Ir l y=0 then yA l r else Ir l y
def exE (l:List aF):List aB→Int
 | []=>0
 | x::r=>if yA l (allT x)=0 then exE l r else yA l (allT x)
def vY (l:List aF) (s:aF):Int:=dL [ZT l (Am s),if s.kind=7∧oM l s.entry<0 then 6 else 0,exE l (iW s)]
theorem bV.hc {N:Nat} {a:gZ} {s:aF} {w:World} (h:bV N a s w):∀i (hi:i<24),w.cell? ⟨N,0+i,none⟩=some ((bQ a s)[i]'(by simpa [bQ] using hi)):=by
 intro i hi
 unfold bV at h
 rw [cell_of_row w N (0+i) _ _ _ h,Nat.zero_add]
 show ((bQ a s).toArray)[i]?=_
 rw [List.getElem?_toArray,List.getElem?_eq_getElem (by simpa [bQ] using hi)]
end Go.Proofs.YtgoijmpahffnhaaGreatDoor

namespace Go.Proofs.YtgoijmpahffnhaaGreatDoor
set_option linter.all false
open Go.RowKit
def qm:Nat→List aF→Option (Int×Nat)
 | _,[]=>none
 | i,s::r=>if jO s=0 then qm (i+1) r else some (jO s,i)
open Classical in
noncomputable def lC (l:List aF):Nat→List aF→Option (Int×Nat)
 | _,[]=>none
 | i,s::r=>if ql l i s then lC l (i+1) r else some (7,i)
def wS (l:List aF):Nat→List aF→Option (Int×Nat)
 | _,[]=>none
 | i,s::r=>if vY l s=0 then wS l (i+1) r else some (vY l s,i)
noncomputable def bY (l:List aF):Int×Nat :=
 if 1000<l.length then (5,0) else ((qm 0 l).orElse fun _=>(lC l 0 l).orElse fun _=>wS l 0 l).getD (0,0)
end Go.Proofs.YtgoijmpahffnhaaGreatDoor

namespace Go.Proofs.YtgoijmpahffnhaaGreatDoor
set_option linter.all false
open Go.RowKit
set_option maxRecDepth 100000
set_option maxHeartbeats 1000000
def Fs (N:Nat) (r:Int×Int) (w:World):Prop:=w.heap[N]?=some (.cells #[.int .i64 r.1,.int .i64 r.2] 118 (0,0))
theorem Fs.lt {N:Nat} {r:Int×Int} {w:World} (h:Fs N r w):N<w.heap.size:=(Array.getElem?_eq_some_iff.1 h).1
theorem Fs.kept {N:Nat} {r:Int×Int} {w w':World} {X:Nat→Prop} (h:Fs N r w) (hk:Kept X w w') (hx:¬X N):Fs N r w':=by
 unfold Fs;rw [hk.block N h.lt hx];exact h
theorem Fs.cells {N:Nat} {r:Int×Int} {w:World} (h:Fs N r w):w.cell? ⟨N,0,none⟩=some (.int .i64 r.1)∧w.cell? ⟨N,1,none⟩=some (.int .i64 r.2)∧w.frozen? ⟨N,0,none⟩=false∧w.frozen? ⟨N,1,none⟩=false:=by
 unfold Fs at h
 exact ⟨by rw [cell_of_row w N _ _ _ _ h];rfl,by rw [cell_of_row w N _ _ _ _ h];rfl,by simp [World.frozen?,h],by simp [World.frozen?,h]⟩
theorem Fs.set {N:Nat} {r:Int×Int} {w:World} (h:Fs N r w) (c d:Int):Fs N (c,d) ((w.setCell ⟨N,0,none⟩ (.int .i64 c)).setCell ⟨N,1,none⟩ (.int .i64 d)):=by
 unfold Fs at *
 simp [World.setCell,Array.getElem?_modify,h]
def wP (r q:Int×Int):Int×Int:=if r.1=0 then q else r
def aa8 (N:Nat) (r:Int×Int) (w:World) (e:Ending) (w':World):Prop:=e=.returned (.tuple #[])∧Fs N r w'∧Kept (· = N) w w'
theorem qB (N:Nat) (r:Int×Int) (err at_:Int) (w:World) (h:Fs N r w):Calls Tryz.prog 58 #[.pointer (some ⟨N,0,none⟩),.int .i64 err,.int .i64 at_] w (aa8 N (wP r (err,at_)) w):=by
 obtain ⟨a,b⟩:=r
 obtain ⟨f0,f1,f2,f3⟩:=h.cells
 have HF:=ah h
 dsimp only at f0 f1
 clear h
 by_cases h0:a=0
 ·have fin:Hid (wP (a,b) (err,at_)=(err,at_)):=if_pos h0
  have e1:(a==0)=true:=by simpa using h0
  clear h0
  go_enter Tryz.func58, Tryz.ntmps58
  go_wp2_with fail
  refine bodyPost_ret (v:=.tuple #[]) (by simp [results,Tryz.results58,go_sem]) rfl ⟨rfl,by rw [fin.out];exact HF.out.set err at_,((Kept.refl (· = N) w).setCell (p:=⟨N,0,none⟩) (.inl rfl) _).setCell (p:=⟨N,1,none⟩) (.inl rfl) _⟩
 ·have fin:Hid (wP (a,b) (err,at_)=(a,b)):=if_neg h0
  have e1:(a==0)=false:=by simpa using h0
  clear h0
  go_enter Tryz.func58, Tryz.ntmps58
  go_wp2_with fail
  refine bodyPost_ret (v:=.tuple #[]) (by simp [results,Tryz.results58,go_sem]) rfl ⟨rfl,by rw [fin.out];exact HF.out,Kept.refl _ _⟩
def jP (k:Int):List Nat:=if k=2∨k=4 then [7] else if k=3∨k=5 then [2,7] else []
def PtrRow (w:World) (a:Option Addr) (B b o:Nat) (l:List Nat):Prop:=0<l.length→∃g,a=some ⟨g,0,none⟩∧B≤g∧g<w.heap.size∧∀i (h:i<l.length),w.cell? ⟨g,i,none⟩=some (.pointer (some ⟨b,o+l[i],none⟩))
def ahI (k:Int) (b o:Nat) (w:World) (e:Ending) (w':World):Prop:=∃a,e=.returned (.slice a (jP k).length (jP k).length)∧PtrRow w' a w.heap.size b o (jP k)∧Kept aA w w'
theorem Z8 (k:Int) (b o:Nat) (w:World) (h1:w.cell? ⟨b,o+1,none⟩=some (.int .i64 k)):Calls Tryz.prog 65 #[.pointer (some ⟨b,o,none⟩)] w (ahI k b o w):=by
 by_cases zk:k=2∨k=4
 ·have fin:Hid (jP k=[7]):=if_pos zk
  have P2:Hid (PtrRow (w.alloc (.cells #[.pointer (some ⟨b,o+7,none⟩)] 117)) (some ⟨w.heap.size,0,none⟩) w.heap.size b o [7]):=fun _=>⟨_,rfl,Nat.le_refl _,by simp,fun i hi=>by
   obtain rfl:i=0:=by simpa using hi
   simp⟩
  rcases zk with rfl|rfl
  all_goals
   go_enter Tryz.func65, Tryz.ntmps65
   go_wp2_with fail
   go_ret
   exact ⟨some ⟨w.heap.size,0,none⟩,by rw [fin.out];rfl,by rw [fin.out];exact P2.out,(Kept.refl _ _).alloc _⟩
 by_cases h35:k=3∨k=5
 ·have fin:Hid (jP k=[2,7]):=by unfold Hid jP;rw [if_neg zk,if_pos h35]
  have P2:Hid (∀w':World,w'.heap=w.heap→PtrRow (w'.alloc (.cells #[.pointer (some ⟨b,o+2,none⟩),.pointer (some ⟨b,o+7,none⟩)] 117)) (some ⟨w.heap.size,0,none⟩) w.heap.size b o [2,7]):=fun w' hw _=>⟨_,rfl,Nat.le_refl _,by simp [hw],fun i hi=>by
   rcases (show i=0∨i=1 by simp at hi;omega) with rfl|rfl<;>(rw [←hw];simp)⟩
  clear zk
  rcases h35 with rfl|rfl
  all_goals
   go_enter Tryz.func65, Tryz.ntmps65
   go_wp2_with fail
   go_region
   go_wp2_with fail
   go_ret
   exact ⟨some ⟨w.heap.size,0,none⟩,by rw [fin.out];rfl,by rw [fin.out];exact P2.out _ rfl,(Kept.refl _ _).drew.alloc _⟩
 ·have fin:Hid (jP k=[]):=by unfold Hid jP;rw [if_neg zk,if_neg h35]
  have z1:(k==2)=false:=by simp;omega
  have z2:(k==4)=false:=by simp;omega
  have z3:(k==3)=false:=by simp;omega
  have z4:(k==5)=false:=by simp;omega
  clear zk h35
  go_enter Tryz.func65, Tryz.ntmps65
  go_wp2_with fail
  go_ret
  exact ⟨none,by rw [fin.out];rfl,by rw [fin.out];exact fun h=>by simp at h,Kept.refl _ _⟩
end Go.Proofs.YtgoijmpahffnhaaGreatDoor

namespace Go.Proofs.YtgoijmpahffnhaaGreatDoor
set_option linter.all false
open Go.RowKit Go.Maps Go.WideMaps
set_option maxRecDepth 100000
set_option maxHeartbeats 8000000
def qK (w:World) (T B1 B2:Nat):Prop:=w.heap[T]?=some (.cells #[.map (some B1),.map (some B2)] 100 (0,0))
theorem qK.lt {w:World} {T B1 B2:Nat} (h:qK w T B1 B2):T<w.heap.size:=(Array.getElem?_eq_some_iff.1 h).1
theorem qK.kept {w w':World} {T B1 B2:Nat} {X:Nat→Prop} (h:qK w T B1 B2) (hk:Kept X w w') (hx:¬X T):qK w' T B1 B2:=by
 unfold qK;rw [hk.block T h.lt hx];exact h
theorem qK.cells {w:World} {T B1 B2:Nat} (h:qK w T B1 B2):w.cell? ⟨T,0,none⟩=some (.map (some B1))∧w.cell? ⟨T,1,none⟩=some (.map (some B2)):=by
 unfold qK at h
 exact ⟨by rw [cell_of_row w T _ _ _ _ h];rfl,by rw [cell_of_row w T _ _ _ _ h];rfl⟩
theorem eH.look_ok {w:World} {B n:Nat} {m:aj→Option Int} (h:eH w B n m) (s:aj) (hs:s.size≤maxLen) :
  (Instr.lookup 98 (.map (some B)) (.string s) true).run Tryz.prog w=.ok (.tuple #[.int .i64 ((m s).getD 0),.bool (m s).isSome]) w:=by
 obtain ⟨D,hown,hmap,hD⟩:=h
 obtain ⟨v,ps,hrun,hv⟩:=hown.look_ok qU Tryz.underlying98 (Jv w) (plainElem_int (H:=Unit) (a:=0) Tryz.underlying3 (by decide)) (keyOf_string_mk Tryz.underlying9 hs)
 obtain ⟨c,rfl,hc,_⟩:=plainElem_int_inv Tryz.underlying3 hv
 obtain ⟨h1,h2⟩:=hD s
 have hat:=congrArg Prod.fst hc
 rw [hrun,h1]
 cases hms:m s with
 | none=>rw [h2,hms] at hat;simp only [DataW.lit.injEq,Lit.int.injEq,true_and] at hat;subst hat;rfl
 | some d=>rw [h2,hms] at hat;simp only [DataW.lit.injEq,Lit.int.injEq,true_and] at hat;subst hat;rfl
theorem eH.drewN {w:World} {B n:Nat} {m:aj→Option Int} (h:eH w B n m) (k:Nat):eH (w.drewN k) B n m:=h.kept ((Kept.refl aA w).drewN k) (fun h=>h)
def yM (m:aj→Option Int) (l:List aF) (x:aB):Int :=
 if x.kind≠6 then 0
 else if 0≤aH x.name∧aH x.name≠x.kids.length then 5
 else if aH x.name<0∧(m x.name).isSome=false then 7
 else if aH x.name<0∧xX l ((m x.name).getD 0)<x.kids.length then 5 else 0
def jv (r:Int×Int) (e at_:Int):Int×Int:=if e=0 then r else wP r (e,at_)
mutual
def oL (m:aj→Option Int) (l:List aF) (at_:Int):aB→Int×Int→Int×Int
 | .mk k t n nm kids,r=>jl m l at_ kids (jv r (yM m l (.mk k t n nm kids)) at_)
def jl (m:aj→Option Int) (l:List aF) (at_:Int):List aB→Int×Int→Int×Int
 | [],r=>r
 | x::q,r=>jl m l at_ q (oL m l at_ x r)
end
theorem EY (m:aj→Option Int) (l:List aF) (at_:Int) (q:List aB) (j:Nat) (h:j<q.length) (r:Int×Int):jl m l at_ (q.drop j) r=jl m l at_ (q.drop (j+1)) (oL m l at_ q[j] r):=by
 rw [List.drop_eq_getElem_cons h,jl]
theorem XL (T B1 B2 n2 N:Nat) (mF:aj→Option Int) (l:List aF) (al:Option Addr) (cl:Nat) (S:Nat→Prop) (at_:Int) (hmF:∀s d,mF s=some d→∃k:Nat,d=k∧k<l.length) (hTN:T≠N) (hBN:B2≠N) (hlen:l.length≤1048576) :
  ∀(m:Nat) (x:aB) (b o:Nat) (r:Int×Int) (w:World),sizeT x≤m→aX w S b o x→oh w S al l→Safe S (· = N) w.heap.size→qK w T B1 B2→eH w B2 n2 mF→Fs N r w→
  Calls Tryz.prog 66 #[.pointer (some ⟨T,0,none⟩),.slice al l.length cl,.pointer (some ⟨b,o,none⟩),.int .i64 at_,.pointer (some ⟨N,0,none⟩)] w (aa8 N (oL mF l at_ x r) w):=by
 intro m
 induction m with
 | zero=>intro x b o r w hm;have:=Dh x;omega
 | succ m ih =>
 intro x b o r w hm hp hl hS hT hM hF
 obtain ⟨k,t,n,nm,kids⟩:=x
 have hih:∀(j:Nat) (hj:j<kids.length) (b o:Nat) (r:Int×Int) (w:World),aX w S b o kids[j]→oh w S al l→Safe S (· = N) w.heap.size→qK w T B1 B2→eH w B2 n2 mF→Fs N r w→
   Calls Tryz.prog 66 #[.pointer (some ⟨T,0,none⟩),.slice al l.length cl,.pointer (some ⟨b,o,none⟩),.int .i64 at_,.pointer (some ⟨N,0,none⟩)] w (aa8 N (oL mF l at_ kids[j] r) w) :=
  fun j hj b o r w h1 h2 h3 h4 h5 h6=>ih kids[j] b o r w (by have:=pI kids j hj;simp only [sizeT] at hm;omega) h1 h2 h3 h4 h5 h6
 have HP:=ah hp
 unfold aX at hp
 obtain ⟨_,⟨_,hnz,hkl⟩,q0,_,_,q3,ka,cap,q4,_⟩:=hp
 have hnl:nm.size≤maxLen:=by unfold maxLen;omega
 have HIH:=ah hih;have HL:=ah hl;have HS:=ah hS;have HT:=ah hT;have HM:=ah hM;have HF:=ah hF;have HMF:=ah hmF
 have hr:Hid (oL mF l at_ (.mk k t n nm kids) r=jl mF l at_ kids (jv r (yM mF l (.mk k t n nm kids)) at_)):=by unfold Hid;rw [oL]
 obtain ⟨x0,x1⟩:=HT.out.cells
 have hlook:∀i,(Instr.lookup 98 (.map (some B2)) (.string nm) true).run Tryz.prog (w.drewN i)=.ok (.tuple #[.int .i64 ((mF nm).getD 0),.bool (mF nm).isSome]) (w.drewN i):=fun i=>(HM.out.drewN i).look_ok nm hnl
 clear hih ih hm hl hS hT hM hF
 go_enter Tryz.func66, Tryz.ntmps66
 go_upto_if 18 with fail
 go_cut [18] (fun c wx=>Fs N (jv r (yM mF l (.mk k t n nm kids)) at_) wx∧Kept (· = N) w wx)
 case first =>
  by_cases h6:k=6
  ·have z1:(k==6)=true:=by simpa using h6
   go_wp2_with fail
   go_quiet (fail)
   go_wp2_with fail
   refine (mD nm _).mono ?_
   rintro e w' ⟨rfl,rfl⟩
   have hcs:Hid (yM mF l (.mk k t n nm kids)=if 0≤aH nm∧aH nm≠kids.length then 5 else if aH nm<0∧(mF nm).isSome=false then 7 else if aH nm<0∧xX l ((mF nm).getD 0)<kids.length then 5 else 0):=by
    exact if_neg (fun h=>h h6)
   have hrg : -1≤aH nm∧aH nm≤3:=by unfold aH;split<;>(try split)<;>(try split)<;>omega
   have HFq:Hid (Fs N r (w.drewN nq)):=HF.out.kept ((Kept.refl aA w).drewN nq) (fun h=>h)
   have KQ:Hid (Kept (· = N) w (w.drewN nq)):=(Kept.refl (· = N) w).drewN nq
   generalize hcl:yM mF l (.mk k t n nm kids)=ce at *
   generalize hbn:aH nm=bn at *
   clear hbn h6 hlook hr hcl
   by_cases hn:0≤bn
   ·have e1:decide (0≤bn)=true:=ak hn
    have e3:decide (bn<0)=false:=au (by omega)
    by_cases hne:bn=(kids.length:Int)
    ·have e2:(bn != (kids.length:Int))=false:=by simpa using hne
     have fin:Hid (ce=0):=by unfold Hid;rw [hcs.out,if_neg (fun h=>h.2 hne),if_neg (by omega),if_neg (by omega)]
     clear hne hn
     go_wp2_with fail
     go_quiet (fail)
     go_wp2_with fail
     go_meet
     exact ⟨by rw [fin.out];exact HFq.out.kept ((Kept.refl aA _).drewN _) (fun h=>h),KQ.out.drewN _⟩
    ·have e2:(bn != (kids.length:Int))=true:=by simpa using hne
     have fin:Hid (ce=5):=by unfold Hid;rw [hcs.out,if_pos ⟨hn,hne⟩]
     clear hne hn
     go_wp2_with (go_at_call 58;(with_reducible refine (qB N r 5 at_ _ HFq.out).mono ?_);rintro e w3 ⟨rfl,yN,bF⟩;have F3:=ah yN;have K3:=ah (KQ.out.trans bF);clear yN bF)
     go_meet
     exact ⟨by rw [fin.out];exact F3.out,K3.out⟩
   have e1:decide (0≤bn)=false:=au hn
   have e3:decide (bn<0)=true:=ak (by omega)
   cases hm:mF nm with
   | none =>
    have fin:Hid (ce=7):=by unfold Hid;rw [hcs.out,if_neg (fun h=>hn h.1),if_pos ⟨by omega,by rw [hm];rfl⟩]
    clear hn
    dsimp only [Option.isSome,Option.getD]
    go_wp2_with (go_at_call 58;(with_reducible refine (qB N r 7 at_ _ HFq.out).mono ?_);rintro e w3 ⟨rfl,yN,bF⟩;have F3:=ah yN;have K3:=ah (KQ.out.trans bF);clear yN bF)
    go_meet
    exact ⟨by rw [fin.out];exact F3.out,K3.out⟩
   | some d =>
    obtain ⟨dn,rfl,hdn⟩:=HMF.out nm d hm
    obtain ⟨bl,ol,rfl,hcl⟩:=HL.out (by omega)
    obtain ⟨ad,_,hzd,hcd,_⟩:=hcl dn hdn
    have x19:=hcd 19 (by decide)
    have hpl:xX l ((dn:Nat):Int)=l[dn].params.length:=by unfold xX;rw [Int.toNat_natCast,List.getElem?_eq_getElem hdn]
    have hpz:=hzd.params.1
    have amb:_=some (Value.slice ad.ma l[dn].params.length ad.mc):=x19
    have hcs':Hid (ce=if l[dn].params.length<kids.length then 5 else 0):=by
     have h1:=hcs.out
     rw [if_neg (fun h=>hn h.1),if_neg (fun h=>by have h2:=h.2;rw [hm] at h2;cases h2)] at h1
     unfold Hid
     rw [h1]
     simp only [hm,Option.getD,hpl]
     by_cases hq:l[dn].params.length<kids.length
     ·rw [if_pos ⟨by omega,hq⟩,if_pos hq]
     ·rw [if_neg (fun h=>hq h.2),if_neg hq]
    clear hcl hcd hzd x19 hpl hcs
    generalize l[dn].params.length=pl at *
    dsimp only [Option.isSome,Option.getD]
    by_cases hq:pl<kids.length
    ·have e4:decide ((pl:Int)<(kids.length:Int))=true:=ak (by omega)
     have e5:decide (pl<kids.length)=true:=ak hq
     have fin:Hid (ce=5):=hcs'.out.trans (if_pos hq)
     clear hn hq
     go_wp2_with fail
     go_quiet (fail)
     go_wp2_with (go_at_call 58;(refine (qB N r 5 at_ _ (HF.out.kept ((Kept.refl aA w).drewN _) (fun h=>h))).mono ?_);rintro e w3 ⟨rfl,yN,bF⟩;have F3:=ah yN;have K3:=ah (((Kept.refl (· = N) w).drewN _).trans bF);clear yN bF)
     go_meet
     exact ⟨by rw [fin.out];exact F3.out,K3.out⟩
    ·have e4:decide ((pl:Int)<(kids.length:Int))=false:=au (by omega)
     have e5:decide (pl<kids.length)=false:=au hq
     have fin:Hid (ce=0):=hcs'.out.trans (if_neg hq)
     clear hn hq
     go_wp2_with fail
     go_quiet (fail)
     go_wp2_with fail
     go_meet
     exact ⟨by rw [fin.out];exact HFq.out.kept ((Kept.refl aA _).drewN _) (fun h=>h),KQ.out.drewN _⟩
  ·have z1:(k==6)=false:=by simpa using h6
   have fin:Hid (yM mF l (.mk k t n nm kids)=0):=if_pos h6
   clear h6 hlook
   go_wp2_with fail
   go_meet
   exact ⟨by rw [fin.out];exact HF.out,Kept.refl _ _⟩
 case rest =>
  obtain ⟨hF1,hk1⟩:=hcut
  have F1:=ah hF1;have K1:=ah hk1
  have hp1:=HP.out.kept hk1 HS.out
  unfold aX at hp1
  obtain ⟨_,_,_,_,_,_,ka1,cap1,q41,_⟩:=hp1
  clear hF1 hk1 q0 q3 q4 x0 x1 hlook HF
  go_wp2_with fail
  go_loopw [86] (fun i wr=>∃(j:Nat) (r2:Int×Int),j≤kids.length∧i=.int .i64 j∧Hid (oL mF l at_ (.mk k t n nm kids) r=jl mF l at_ (kids.drop j) r2)∧Fs N r2 wr∧Kept (· = N) w wr) (fun i _=>kids.length-(intOf i).toNat)
  case atStart=>exact ⟨0,_,Nat.zero_le _,rfl,by unfold Hid;rw [hr.out,List.drop_zero],F1.out,K1.out⟩
  case round =>
   obtain ⟨j,r2,hj,rfl,hno,hf2,hkw⟩:=hrel
   have KW:=ah hkw;have F2:=ah hf2
   by_cases hlt:j<kids.length
   ·have hp2:=HP.out.kept hkw HS.out
    unfold aX at hp2
    obtain ⟨_,_,_,_,_,_,ka2,cap2,q42,hks⟩:=hp2
    obtain ⟨b1,o1,rfl⟩:=oU hks (by omega)
    have CS:=ah (nZ kids b1 o1 j hlt hks)
    have step:=ah (hno.out.trans (EY mF l at_ kids j hlt r2))
    have L2:=ah (HL.out.to hkw HS.out (fun _ h=>h));have S2:=ah (HS.out.mono hkw.size);have T2:=ah (HT.out.kept hkw hTN);have M2:=ah (HM.out.kept hkw hBN)
    clear hks hkw hf2
    go_wp2_with fail
    refine (HIH.out j hlt b1 (o1+j*5) r2 _ CS.out L2.out S2.out T2.out M2.out F2.out).mono ?_
    rintro e w3 ⟨rfl,yN,bF⟩
    have F3:=ah yN;have K3:=ah (KW.out.trans bF)
    clear yN bF
    go_wp2_with fail
    go_roundw
    case rel=>exact ⟨j+1,_,by omega,by go_num,step,F3.out,K3.out⟩
    case measure=>simp [intOf];omega
   ·obtain rfl:j=kids.length:=by omega
    have fin:Hid (oL mF l at_ (.mk k t n nm kids) r=r2):=by unfold Hid;rw [hno.out,List.drop_length,jl]
    go_wp2_with fail
    refine bodyPost_ret (v:=.tuple #[]) (by simp [results,Tryz.results66,go_sem]) rfl ⟨rfl,by rw [fin.out];exact F2.out,KW.out⟩
end Go.Proofs.YtgoijmpahffnhaaGreatDoor

namespace Go.Proofs.YtgoijmpahffnhaaGreatDoor
set_option linter.all false
open Go.RowKit
set_option maxRecDepth 100000
set_option maxHeartbeats 1000000
def xK (l:List aj):Prop:=∀x (h:x<l.length),∀y (hy:y<x),l[x]≠l[y]'(by omega)
theorem contains_iff (l:List aj) (n:Nat) (hn:n≤l.length) (x:aj):Lib.containsS (l.take n) x=true↔∃y,∃(h:y<n),l[y]'(by omega)=x:=by
 rw [Lib.containsS_iff]
 constructor
 ·intro h
  obtain ⟨y,hy,e⟩:=List.getElem_of_mem h
  rw [List.getElem_take] at e
  rw [List.length_take] at hy
  exact ⟨y,by omega,e⟩
 ·rintro ⟨y,hy,rfl⟩
  have hl:y<(l.take n).length:=by rw [List.length_take];omega
  have:(l.take n)[y]=l[y]'(by omega):=List.getElem_take
  rw [←this];exact List.getElem_mem hl
def ais (l:List aj) (w:World) (e:Ending) (w':World):Prop:=∃b:Bool,e=.returned (.bool b)∧(b=false↔xK l)∧w'=w
theorem wL (l:List aj) (a:Option Addr) (c:Nat) (S:Nat→Prop) (w:World) (hl:aQ w S a l) (hlc:l.length≤c) (hlen:l.length≤4000000000) :
  Calls Tryz.prog 63 #[.slice a l.length c] w (ais l w):=by
 have HL:=ah hl
 clear hl
 go_enter Tryz.func63, Tryz.ntmps63
 go_wp2_with fail
 go_loop [7] (fun i=>∃j:Nat,j≤l.length∧i=.int .i64 j∧Hid (∀x (h:x<l.length),x<j→∀y (hy:y<x),l[x]≠l[y]'(by omega))) (fun i=>l.length-(intOf i).toNat)
 case atStart=>exact ⟨0,Nat.zero_le _,rfl,by intro x _ hx;omega⟩
 case round =>
  obtain ⟨j,hj,rfl,hno⟩:=hrel
  by_cases hlt:j<l.length
  ·obtain ⟨b,o,rfl,_,hc⟩:=HL.out (by omega)
   have hcj:=hc j hlt
   have HC:Hid (∀x,x<l.length→w.cell? ⟨b,o+x,none⟩=some (.string (l.getD x ByteArray.empty))):=fun x hx=>by rw [hc x hx,List.getD_eq_getElem?_getD,List.getElem?_eq_getElem hx];rfl
   have hjc:j≤c:=by omega
   clear hc
   by_cases h0:j=0
   ·subst h0
    rw [Nat.add_zero] at hcj
    have step:Hid (∀x (h:x<l.length),x<0+1→∀y (hy:y<x),l[x]≠l[y]'(by omega)):=by intro x _ hx y hy;omega
    go_wp2_with (go_at_call 64;refine (Tryz.slices_Contains_string_empty _ _ _ w).mono ?_;rintro e w' ⟨rfl,rfl⟩)
    go_round
    case rel=>exact ⟨0+1,by omega,by go_num,step⟩
    case measure=>simp [intOf];omega
   ·cases hq:Lib.containsS (l.take j) l[j] with
    | true =>
     obtain ⟨y,hy,he⟩:=(contains_iff l j (by omega) l[j]).1 hq
     have fin:Hid (¬xK l):=fun h=>h j hlt y hy he.symm
     have HQ:=ah hq
     clear hq
     go_wp2_with (go_at_call 64;refine (Tryz.slices_Contains_string b o j c l l[j] w (by omega) (by omega) HC.out).mono ?_;rintro e w' ⟨rfl,rfl⟩;rw [HQ.out])
     go_ret
     exact ⟨true,rfl,⟨fun h=>(by cases h),fun h=>absurd h fin.out⟩,rfl⟩
    | false =>
     have step:Hid (∀x (h:x<l.length),x<j+1→∀y (hy:y<x),l[x]≠l[y]'(by omega)):=by
      intro x h hx y hy
      rcases Nat.lt_or_ge x j with h1|h1
      ·exact hno.out x h h1 y hy
      ·obtain rfl:x=j:=by omega
       intro he
       have:=(contains_iff l x (by omega) l[x]).2 ⟨y,hy,he.symm⟩
       rw [hq] at this;cases this
     have HQ:=ah hq
     clear hq
     go_wp2_with (go_at_call 64;refine (Tryz.slices_Contains_string b o j c l l[j] w (by omega) (by omega) HC.out).mono ?_;rintro e w' ⟨rfl,rfl⟩;rw [HQ.out])
     go_round
     case rel=>exact ⟨j+1,by omega,by go_num,step⟩
     case measure=>simp [intOf];omega
  ·obtain rfl:j=l.length:=by omega
   have fin:Hid (xK l):=fun x h y hy=>hno.out x h h y hy
   go_wp2_with fail
   go_ret
   exact ⟨false,rfl,⟨fun _=>fin.out,fun _=>rfl⟩,rfl⟩
end Go.Proofs.YtgoijmpahffnhaaGreatDoor

namespace Go.Proofs.YtgoijmpahffnhaaGreatDoor
set_option linter.all false
open Go.RowKit
set_option maxRecDepth 100000
set_option maxHeartbeats 1000000
def ChQ (n:Nat) (xs:List Value) (w:World) (e:Ending) (w':World):Prop:=∃v,e=.returned v∧Ch w' w.heap.size n xs v∧Kept aA w w'
theorem aec (w:World) (k:Nat) (h0:0<k) (hk:k≤4000000000):∃cap w',(Builtin.append_ #[22,3] 22 #[.slice none 0 0,.int .i64 (k:Int)]).run Tryz.prog w=.ok (.slice (some ⟨w.heap.size,0,none⟩) k cap) w'∧
  Kept aA w w'∧Ch w' w.heap.size 0 [] (.slice (some ⟨w.heap.size,0,none⟩) 0 cap)∧k≤cap∧cap≤maxLen:=by
 obtain ⟨i0,hi0,hz0,hz1,hz2⟩:=info_parts zW
 have h:=Lib.run_append_grow_zeros (P:=Tryz.prog) w 22 3 22 9 i0 (.string ⟨#[]⟩) .i64 .i64 Tryz.underlying22 Tryz.underlying3 hi0 hz0 none 0 0 [] (by simp [Builtin.firstCells]) k h0 (by rw [hz1];decide) (by omega) (by omega) (by rw [hz2];omega) (growslice_fits (by omega) (by rw [hz2];omega))
 rw [Nat.zero_add] at h
 have hge:=grownCap_ge w k 0 9
 have hcm:grownCap w k 0 9≤maxLen:=grownCap_le_maxLen w k 0 9 (by unfold maxLen;omega)
 refine ⟨_,_,h,((Kept.refl aA w).drew).alloc _,⟨_,_,rfl,by simp,.inr ⟨w.heap.size,0,_,_,rfl,Nat.le_refl _,ay w.drew _,Nat.zero_le _,hcm,?_,by simp⟩⟩,hge,hcm⟩
 rw [Array.size_append,Array.size_append,List.size_toArray,size_zeroCells,size_zeroCells]
 have hzs:(Value.string ⟨#[]⟩).cells.size=1:=rfl
 rw [hzs]
 simp only [List.length_nil]
 omega
theorem QK {w:World} {ops:Array Oper} {rest:List Oper} {o:Oper} {a:Act} {Q:Exit→Act→World→Prop} (hgd:o.guard=none) (s x:Operand) (hty:o.type=22)
  (ho:o.op=.call {callee:=.builtin .append,args:=#[s,x],argTypes:=#[22,3]}) (hs:a.eval s=.slice none 0 0) (k:Nat) (hx:a.eval x=.int .i64 (k:Int)) (h0:0<k) (hk:k≤4000000000)
  (h:∀b cap w',Kept aA w w'→Ch w' w.heap.size 0 [] (.slice (some ⟨b,0,none⟩) 0 cap)→k≤cap→cap≤maxLen→wpList Tryz.prog ops Q rest (a.put o.dst (.slice (some ⟨b,0,none⟩) k cap)) w'):wpList Tryz.prog ops Q (o::rest) a w:=by
 refine wpList_plain hgd fun _ hK=>?_
 obtain ⟨cap,w',hr,h1,h2,h3,h4⟩:=aec w k h0 hk
 unfold Oper.wp execOp
 simp only [ho,hty,resolve,invoke,builtin,Sem.run_bind,Sem.run_pure,Result.andThen_ok,List.map_toArray,List.map_cons,List.map_nil,hs,hx,hr]
 exact hK _ _ (h _ cap w' h1 h2 h3 h4)
theorem aa9 (k:Nat) (w:World) (hk:k≤4000000000):Calls Tryz.prog 97 #[.slice none 0 0,.int .i64 (k:Int)] w (ChQ 0 [] w):=by
 have e1:decide ((k:Int)<0)=false:=au (by omega)
 have hwr:IntKind.i64.wrap (k:Int)=k:=IntWalk.i64_in _ (by omega)
 by_cases h0:k=0
 ·subst h0
  go_enter Tryz.func97, Tryz.ntmps97
  go_wp2_with fail
  go_ret
  exact ⟨.slice none 0 0,rfl,⟨_,_,rfl,aO.nil ..⟩,Kept.refl _ _⟩
 ·have hp:0<k:=by omega
  have e3:decide (0<k)=true:=ak hp
  have e2:decide ((0:Int)<(k:Int))=true:=ak (by omega)
  clear h0
  go_enter Tryz.func97, Tryz.ntmps97
  go_wp2_with (at_builtin;go_loud (refine QK rfl _ _ rfl rfl rfl k rfl hp hk ?_);rintro b cap w' bG c1_ hkc hcm;have HK:=ah bG;have HC:=ah c1_;clear bG c1_)
  go_ret
  exact ⟨_,rfl,HC.out,HK.out⟩
theorem U1 (b:Nat) (p q:List aj) (pa la:Option Addr) (pc lc:Nat) (S:Nat→Prop) (w:World) (h0:w.cell? ⟨b,0,none⟩=some (.slice pa p.length pc)) (h1:w.cell? ⟨b,1,none⟩=some (.slice la q.length lc)) (hb:b<w.heap.size)
  (hp:aQ w S pa p) (hq:aQ w S la q) (hS:Safe S aA w.heap.size) (hpl:p.length≤1000000000) (hql:q.length≤1000000000) :
  Calls Tryz.prog 61 #[.slice (some ⟨b,0,none⟩) 2 2] w (ChQ (p.length+q.length) (p.map Value.string++q.map Value.string) w):=by
 have HP:=ah hp;have HQ:=ah hq;have HS:=ah hS
 clear hp hq hS
 have w1:IntKind.i64.wrap ((p.length:Int))=p.length:=IntWalk.i64_in _ (by omega)
 have w2:IntKind.i64.wrap ((p.length:Int)+q.length)=((p.length+q.length:Nat):Int):=IntWalk.i64_in _ (by omega)
 have e1:decide ((p.length:Int)<0)=false:=au (by omega)
 have e2:decide (((p.length+q.length:Nat):Int)<0)=false:=au (by omega)
 obtain ⟨i0,hi0,hz0,hz1,hz2⟩:=info_parts zW
 go_enter Tryz.func61, Tryz.ntmps61
 go_wp2_with fail
 go_loop [11,3] (fun i s=>(i=.int .i64 0∧s=.int .i64 0)∨(i=.int .i64 1∧s=.int .i64 p.length)∨(i=.int .i64 2∧s=.int .i64 (p.length+q.length:Nat))) (fun i s=>2-(intOf i).toNat)
 case atStart=>exact .inl ⟨rfl,rfl⟩
 case round =>
  rcases hrel with ⟨rfl,rfl⟩|⟨rfl,rfl⟩|⟨rfl,rfl⟩
  ·go_wp2_with fail
   go_round
   case rel=>exact .inr (.inl ⟨rfl,rfl⟩)
   case measure=>simp [intOf]
  ·go_wp2_with fail
   go_round
   case rel=>exact .inr (.inr ⟨rfl,rfl⟩)
   case measure=>simp [intOf]
  ·have HG:=ah (aa9 (p.length+q.length) w (by omega))
   go_wp2_with (go_at_call 97;(refine HG.out.mono ?_);rintro e w3 ⟨v3,rfl,⟨a3,c3,rfl,hw3⟩,bF⟩;have W3:=ah hw3;have K3:=ah bF;clear hw3 bF)
   go_loopw [27,6] (fun i v w'=>(i=.int .i64 0∧Ch w' w.heap.size 0 [] v∧Kept aA w w')∨(i=.int .i64 1∧Ch w' w.heap.size p.length (p.map Value.string) v∧Kept aA w w')∨(i=.int .i64 2∧Ch w' w.heap.size (p.length+q.length) (p.map Value.string++q.map Value.string) v∧Kept aA w w')) (fun i _ _=>2-(intOf i).toNat)
   case atStart=>exact .inl ⟨rfl,⟨a3,c3,rfl,W3.out⟩,K3.out⟩
   case round =>
    rcases hrel with ⟨rfl,⟨a4,c4,rfl,hw4⟩,hk4⟩|⟨rfl,⟨a4,c4,rfl,hw4⟩,hk4⟩|⟨rfl,⟨a4,c4,rfl,hw4⟩,hk4⟩
    ·have x0:wr.cell? ⟨b,0,none⟩=some (.slice pa p.length pc):=(hk4.cell hb (fun h=>h)).trans h0
     have SR:=ah (Gh (HP.out.to hk4 HS.out (fun _ h=>h)) pc)
     have WV:=ah hw4;have KV:=ah hk4
     have hb4:=hk4.size
     clear hw4 hk4
     go_wp2_with (at_builtin;go_loud (refine dM _ rfl (.tmp 31) (.tmp 32) 22 22 rfl w.heap.size 9 i0 (.string ⟨#[]⟩) 1 16 Tryz.underlying22 hi0 hz0 hz1 hz2 rfl _ 0 [] rfl WV.out _ p.length (p.map Value.string) rfl SR.out (by unfold maxLen;omega) (by omega) hb4 ?_);intro a5 c5 w5 XM hg5 _;have K5:=ah (KV.out.grown hg5 fun k hk=>.inr (WV.out.lt k hk).1))
     go_roundw
     case rel=>exact .inr (.inl ⟨rfl,⟨a5,c5,rfl,by first|exact XM|(rw [Nat.zero_add] at XM;exact XM)⟩,K5.out⟩)
     case measure=>simp [intOf]
    ·have x0:wr.cell? ⟨b,1,none⟩=some (.slice la q.length lc):=(hk4.cell hb (fun h=>h)).trans h1
     have SR:=ah (Gh (HQ.out.to hk4 HS.out (fun _ h=>h)) lc)
     have WV:=ah hw4;have KV:=ah hk4
     have hb4:=hk4.size
     clear hw4 hk4
     go_wp2_with (at_builtin;go_loud (refine dM _ rfl (.tmp 31) (.tmp 32) 22 22 rfl w.heap.size 9 i0 (.string ⟨#[]⟩) 1 16 Tryz.underlying22 hi0 hz0 hz1 hz2 rfl _ p.length (p.map Value.string) rfl WV.out _ q.length (q.map Value.string) rfl SR.out (by unfold maxLen;omega) (by omega) hb4 ?_);intro a5 c5 w5 XM hg5 _;have K5:=ah (KV.out.grown hg5 fun k hk=>.inr (WV.out.lt k hk).1))
     go_roundw
     case rel=>exact .inr (.inr ⟨rfl,⟨a5,c5,rfl,XM⟩,K5.out⟩)
     case measure=>simp [intOf]
    ·have fin:Hid (ChQ (p.length+q.length) (p.map Value.string++q.map Value.string) w (.returned (.slice a4 (p.length+q.length) c4)) wr):=⟨_,rfl,⟨a4,c4,rfl,hw4⟩,hk4⟩
     go_wp2_with fail
     go_ret
     exact fin.out
end Go.Proofs.YtgoijmpahffnhaaGreatDoor

namespace Go.Proofs.YtgoijmpahffnhaaGreatDoor
set_option linter.all false
open Go.RowKit
section
variable (p:aF→Prop) [DecidablePred p]
def oN:Nat→List aF→Int
 | _,[] => -1
 | i,s::r=>if p s then (i:Int) else oN (i+1) r
def mQ (l:List aF):Nat→Option Int
 | 0=>none
 | j+1=>match l[j]? with|some s=>if p s then some (j:Int) else mQ l j|none=>mQ l j
theorem BM (l:List aF):∀j,mQ p l j=none↔∀k,k<j→∀h:k<l.length,¬p l[k]
 | 0=>⟨fun _ k hk=>absurd hk (by omega),fun _=>rfl⟩
 | j+1=>by
  have ih:=BM l j
  rw [mQ]
  by_cases hj:j<l.length
  ·rw [List.getElem?_eq_getElem hj]
   by_cases hp:p l[j]
   ·simp only [hp,if_true]
    exact ⟨fun h=>(by cases h),fun h=>absurd hp (h j (by omega) hj)⟩
   ·simp only [hp,if_false]
    rw [ih]
    refine ⟨fun h k hk hl=>?_,fun h k hk hl=>h k (by omega) hl⟩
    by_cases he:k=j
    ·subst he;exact hp
    ·exact h k (by omega) hl
  ·rw [List.getElem?_eq_none (by omega)]
   show mQ p l j=none↔_
   rw [ih]
   exact ⟨fun h k hk hl=>h k (by omega) hl,fun h k hk hl=>h k (by omega) hl⟩
theorem xJ (l:List aF) {d:Int}:∀j,mQ p l j=some d→∃k:Nat,d=k∧k<j∧∃h:k<l.length,p l[k]
 | 0,h=>by cases h
 | j+1,h=>by
  rw [mQ] at h
  by_cases hj:j<l.length
  ·rw [List.getElem?_eq_getElem hj] at h
   by_cases hp:p l[j]
   ·simp only [hp,if_true,Option.some.injEq] at h
    exact ⟨j,h.symm,by omega,hj,hp⟩
   ·simp only [hp,if_false] at h
    obtain ⟨k,h1,h2,h3⟩:=xJ l j h
    exact ⟨k,h1,by omega,h3⟩
  ·rw [List.getElem?_eq_none (by omega)] at h
   obtain ⟨k,h1,h2,h3⟩:=xJ l j h
   exact ⟨k,h1,by omega,h3⟩
theorem vV:∀(l:List aF) (i:Nat),(oN p i l = -1∧∀k (h:k<l.length),¬p l[k])∨∃k,∃h:k<l.length,oN p i l=((i+k:Nat):Int)∧p l[k]∧∀m (hm:m<k),¬p (l[m]'(by omega))
 | [],i=>.inl ⟨rfl,fun k h=>absurd h (by simp)⟩
 | s::r,i=>by
  rw [oN]
  by_cases hp:p s
  ·rw [if_pos hp];exact .inr ⟨0,by simp,rfl,hp,fun m hm=>absurd hm (by omega)⟩
  ·rw [if_neg hp]
   rcases vV r (i+1) with ⟨h1,h2⟩|⟨k,h,h1,h2,h3⟩
   ·exact .inl ⟨h1,fun k h=>by cases k with|zero=>exact hp|succ k=>exact h2 k (by simpa using h)⟩
   ·refine .inr ⟨k+1,by simp;omega,by rw [h1];omega,h2,fun m hm=>?_⟩
    cases m with
    | zero=>exact hp
    | succ m=>exact h3 m (by omega)
theorem Py (l:List aF) (j:Nat) (h:j<l.length) (hp:p l[j]):oN p 0 l=j↔mQ p l j=none:=by
 rw [BM]
 rcases vV p l 0 with ⟨_,h2⟩|⟨k,hk,h1,h2,h3⟩
 ·exact absurd hp (h2 j h)
 ·rw [h1,Nat.zero_add]
  constructor
  ·intro e m hm hl;obtain rfl:k=j:=by omega
   exact h3 m hm
  ·intro e
   by_cases hkj:k=j
   ·rw [hkj]
   ·rcases Nat.lt_or_ge k j with h4|h4
    ·exact absurd h2 (e k h4 hk)
    ·exact absurd hp (h3 j (by omega))
theorem Pz (l:List aF) (hu:∀j (h:j<l.length),p l[j]→oN p 0 l=j):mQ p l l.length=if oN p 0 l<0 then none else some (oN p 0 l):=by
 cases hl:mQ p l l.length with
 | none =>
  rw [BM] at hl
  rcases vV p l 0 with ⟨h1,_⟩|⟨k,hk,_,h2,_⟩
  ·rw [h1];rfl
  ·exact absurd h2 (hl k hk hk)
 | some d =>
  obtain ⟨k,rfl,_,hk,hp⟩:=xJ p l _ hl
  rw [hu k hk hp,if_neg (by omega)]
end
def NQ (n:aj) (s:aF):Prop:=s.label=n∧n.size≠0
def Uw (n:aj) (s:aF):Prop:=s.kind=7∧s.name=n
instance (n:aj):DecidablePred (NQ n):=fun s=>by unfold NQ;exact inferInstance
instance (n:aj):DecidablePred (Uw n):=fun s=>by unfold Uw;exact inferInstance
theorem tY (l:List aF) (n:aj):oM l n=oN (NQ n) 0 l:=by
 unfold oM
 generalize 0=i
 induction l generalizing i with
 | nil=>rfl
 | cons s r ih=>rw [Jz,oN,ih];rfl
theorem zM (l:List aF) (n:aj):funcF l n=oN (Uw n) 0 l:=by
 unfold funcF
 generalize 0=i
 induction l generalizing i with
 | nil=>rfl
 | cons s r ih=>rw [NG,oN,ih];rfl
def eY (l:List aF):Nat→aj→Option Int
 | 0=>fun _=>none
 | j+1=>match l[j]? with|some s=>if s.label.size=0 then eY l j else lg (eY l j) s.label j|none=>eY l j
def fJ (l:List aF):Nat→aj→Option Int
 | 0=>fun _=>none
 | j+1=>match l[j]? with|some s=>if s.kind=7 then lg (fJ l j) s.name j else fJ l j|none=>fJ l j
theorem wI (l:List aF) (n:aj):∀j,eY l j n=mQ (NQ n) l j
 | 0=>rfl
 | j+1=>by
  rw [eY,mQ]
  cases l[j]? with
  | none=>exact wI l n j
  | some s =>
   dsimp only
   by_cases h0:s.label.size=0
   ·rw [if_pos h0,wI l n j,if_neg (fun h=>h.2 (by rw [←h.1];exact h0))]
   ·rw [if_neg h0]
    unfold lg
    by_cases hn:n=s.label
    ·rw [if_pos hn,if_pos ⟨hn.symm,by rw [hn];exact h0⟩]
    ·rw [if_neg hn,wI l n j,if_neg (fun h=>hn h.1.symm)]
theorem sZ (l:List aF) (n:aj):∀j,fJ l j n=mQ (Uw n) l j
 | 0=>rfl
 | j+1=>by
  rw [fJ,mQ]
  cases l[j]? with
  | none=>exact sZ l n j
  | some s =>
   dsimp only
   by_cases h0:s.kind=7
   ·rw [if_pos h0]
    unfold lg
    by_cases hn:n=s.name
    ·rw [if_pos hn,if_pos ⟨h0,hn.symm⟩]
    ·rw [if_neg hn,sZ l n j,if_neg (fun h=>hn h.2.symm)]
   ·rw [if_neg h0,sZ l n j,if_neg (fun h=>h0 h.1)]
theorem acW (l:List aF) (j:Nat) (h:j<l.length) (h0:l[j].label.size≠0):eY l (j+1)=lg (eY l j) l[j].label j:=by
 rw [eY,List.getElem?_eq_getElem h];exact if_neg h0
theorem afa (l:List aF) (j:Nat) (h:j<l.length) (h0:l[j].label.size=0):eY l (j+1)=eY l j:=by
 rw [eY,List.getElem?_eq_getElem h];exact if_pos h0
theorem acX (l:List aF) (j:Nat) (h:j<l.length) (h0:l[j].kind=7):fJ l (j+1)=lg (fJ l j) l[j].name j:=by
 rw [fJ,List.getElem?_eq_getElem h];exact if_pos h0
theorem afb (l:List aF) (j:Nat) (h:j<l.length) (h0:l[j].kind≠7):fJ l (j+1)=fJ l j:=by
 rw [fJ,List.getElem?_eq_getElem h];exact if_neg h0
theorem afc (l:List aF) (j:Nat) (n:aj) (d:Int) (h:fJ l j n=some d):∃k:Nat,d=k∧k<l.length:=by
 rw [sZ] at h
 obtain ⟨k,h1,_,h2,_⟩:=xJ _ l j h
 exact ⟨k,h1,h2⟩
def own (s:aF):List aj:=s.params++s.locals++[s.name]
def Fz:aj:=⟨#[73,78,80,85,84]⟩
def zN:aj:=⟨#[79,85,84,80,85,84]⟩
def badL (m:aj→Option Int) (s:aF):Prop:=s.label.size≠0∧((m s.label).isSome=true∨rH s.label=true)
def uF (m:aj→Option Int) (s:aF):Prop:=s.kind=7∧((m s.name).isSome=true∨0≤aH s.name∨¬xK (own s)∨Fz∈own s∨zN∈own s)
theorem FB (l:List aj):xK l↔l.Nodup:=by
 unfold xK List.Nodup
 rw [List.pairwise_iff_getElem]
 exact ⟨fun h i j hi hj hij e=>h j hj i hij e.symm,fun h x hx y hy e=>h y x (by omega) hx hy e.symm⟩
theorem Iq (x:aj) (a:Array UInt8):x.toList=a.toList↔x=⟨a⟩:=by
 rw [ByteArray.toList_eq]
 obtain ⟨y⟩:=x
 exact ⟨fun h=>congrArg ByteArray.mk (Array.toList_inj.1 h),fun h=>(by cases h;rfl)⟩
theorem ZQ (s:aF):Il (s.name::s.params++s.locals)↔xK (own s)∧Fz∉own s∧zN∉own s:=by
 have hp:List.Perm (s.name::s.params++s.locals) (own s):=by
  show List.Perm (s.name::(s.params++s.locals)) (s.params++s.locals++[s.name])
  exact (List.perm_append_singleton _ _).symm
 rw [FB,←hp.nodup_iff,←hp.mem_iff,←hp.mem_iff,←FB]
 generalize s.name::s.params++s.locals=all
 constructor
 ·intro h
  refine ⟨fun x hx y hy=>(h x hx).2.2 y hy,fun hm=>?_,fun hm=>?_⟩
  ·obtain ⟨i,hi,e⟩:=List.getElem_of_mem hm
   exact (h i hi).1 (by rw [e,ByteArray.toList_eq];rfl)
  ·obtain ⟨i,hi,e⟩:=List.getElem_of_mem hm
   exact (h i hi).2.1 (by rw [e,ByteArray.toList_eq];rfl)
 ·rintro ⟨h1,h2,h3⟩ a ha
  refine ⟨fun e=>h2 ?_,fun e=>h3 ?_,fun b hb=>h1 a ha b hb⟩
  ·have:=(Iq all[a] #[73,78,80,85,84]).1 e
   show (⟨#[73,78,80,85,84]⟩:aj)∈all
   rw [←this];exact List.getElem_mem ha
  ·have:=(Iq all[a] #[79,85,84,80,85,84]).1 e
   show (⟨#[79,85,84,80,85,84]⟩:aj)∈all
   rw [←this];exact List.getElem_mem ha
theorem LQ (l:List aF) (j:Nat) (h:j<l.length):ql l j l[j]↔¬badL (eY l j) l[j]∧¬uF (fJ l j) l[j]:=by
 have h1:JW l j l[j]↔¬badL (eY l j) l[j]:=by
  unfold JW badL
  by_cases h0:l[j].label.size=0
  ·simp [h0]
  ·have:=Py (NQ l[j].label) l j h ⟨rfl,h0⟩
   rw [tY,this,wI,←Option.isNone_iff_eq_none,←Option.not_isSome]
   cases rH l[j].label<;>cases (mQ (NQ l[j].label) l j).isSome<;>simp [h0]
 have h2:(l[j].kind=7→Po l j l[j]∧Il (l[j].name::l[j].params++l[j].locals))↔¬uF (fJ l j) l[j]:=by
  unfold uF Po
  by_cases h7:l[j].kind=7
  ·have:=Py (Uw l[j].name) l j h ⟨h7,rfl⟩
   rw [zM,this,sZ,←Option.isNone_iff_eq_none,←Option.not_isSome,ZQ]
   generalize (mQ (Uw l[j].name) l j).isSome=b
   constructor
   ·rintro h ⟨_,h3⟩
    obtain ⟨⟨h4,h5⟩,h6,h8,h9⟩:=h h7
    rcases h3 with h3|h3|h3|h3|h3
    ·rw [h3] at h5;cases h5
    ·omega
    ·exact h3 h6
    ·exact h8 h3
    ·exact h9 h3
   ·intro h _
    have h':¬(b=true∨0≤aH l[j].name∨¬xK (own l[j])∨Fz∈own l[j]∨zN∈own l[j]):=fun e=>h ⟨h7,e⟩
    refine ⟨⟨by have:¬0≤aH l[j].name:=fun e=>h' (.inr (.inl e));omega,?_⟩,Classical.byContradiction fun e=>h' (.inr (.inr (.inl e))),fun e=>h' (.inr (.inr (.inr (.inl e)))),fun e=>h' (.inr (.inr (.inr (.inr e))))⟩
    cases b with
    | true=>exact absurd (.inl rfl) h'
    | false=>rfl
  ·simp [h7]
 unfold ql
 rw [h1,h2]
end Go.Proofs.YtgoijmpahffnhaaGreatDoor

namespace Go.Proofs.YtgoijmpahffnhaaGreatDoor
set_option linter.all false
open Go.RowKit
theorem ZV (l:List aF) (j:Nat) (h:j<l.length):qm j (l.drop j)=if jO l[j]=0 then qm (j+1) (l.drop (j+1)) else some (jO l[j],j):=by
 rw [List.drop_eq_getElem_cons h,qm]
theorem PD (l:List aF) (j:Nat) (h:j<l.length) (hn:ql l j l[j]):lC l j (l.drop j)=lC l (j+1) (l.drop (j+1)):=by
 rw [List.drop_eq_getElem_cons h,lC,if_pos hn]
theorem Uz (l:List aF) (j:Nat) (h:j<l.length) (hn:¬ql l j l[j]):lC l j (l.drop j)=some (7,j):=by
 rw [List.drop_eq_getElem_cons h,lC,if_neg hn]
theorem ZU (l:List aF) (j:Nat) (h:j<l.length):wS l j (l.drop j)=if vY l l[j]=0 then wS l (j+1) (l.drop (j+1)) else some (vY l l[j],j):=by
 rw [List.drop_eq_getElem_cons h,wS]
theorem ac4 {l:List aF} (hl:¬1000<l.length) {r:Int×Nat} (h:qm 0 l=some r):bY l=r:=by unfold bY;rw [if_neg hl,h];rfl
theorem PS {l:List aF} (hl:¬1000<l.length) (h0:qm 0 l=none) {r:Int×Nat} (h:lC l 0 l=some r):bY l=r:=by unfold bY;rw [if_neg hl,h0,h];rfl
theorem ac0 {l:List aF} (hl:¬1000<l.length) (h0:qm 0 l=none) (h1:lC l 0 l=none) {r:Int×Nat} (h:wS l 0 l=some r):bY l=r:=by unfold bY;rw [if_neg hl,h0,h1,h];rfl
theorem ac1 {l:List aF} (hl:¬1000<l.length) (h0:qm 0 l=none) (h1:lC l 0 l=none) (h:wS l 0 l=none):bY l=(0,0):=by unfold bY;rw [if_neg hl,h0,h1,h];rfl
end Go.Proofs.YtgoijmpahffnhaaGreatDoor

namespace Go.Proofs.YtgoijmpahffnhaaGreatDoor
set_option linter.all false
open Go.RowKit
def Ba (w:World):Prop:=5<w.heap.size∧∃ev,w.cell? ⟨5,0,none⟩=some ev∧(ev=.nilIface∨∃te pe,ev=.iface te pe)
theorem Ba.kept {w w':World} {X:Nat→Prop} (h:Ba w) (hk:Kept X w w') (hx:¬X 5):Ba w':=by
 obtain ⟨hl,ev,h1,h2⟩:=h
 exact ⟨Nat.lt_of_lt_of_le hl hk.size,ev,(hk.cell hl hx).trans h1,h2⟩
theorem Kept.under {w w':World} (b:Below w.heap.size w w'):Kept aA w w':=⟨b.os,b.tape,b.output,b.size,fun k hk _=>b.block k hk⟩
def kP (o:Option Int) (w:World) (e:Ending) (w':World):Prop :=
 Kept aA w w'∧((∃n,o=some n∧e=.returned (.tuple #[.int .i64 n,.int .i64 0]))∨(o=none∧∃x,x≠0∧e=.returned (.tuple #[.int .i64 0,.int .i64 x])))
theorem acJ (s:aj) (cs:List UInt8) (w:World) (hs:s.size≤65536) (hl:cs.length≤100) (ha:cs.all (fun b=>decide (b.toNat<128))=true) :
  Calls Tryz.prog 237 #[.string s,.string ⟨cs.toArray⟩] w fun e w'=>e=.returned (.string ⟨(Lib.trimS s.data.toList cs).toArray⟩)∧Kept aA w w':=by
 have h:=Any.strings_Trim_laid Tryz.lays160 (by kernel_rfl) s ⟨cs.toArray⟩ w (by omega) (by rw [lF];omega) (by simpa using ascii_of_all ha)
 refine Calls.mono h fun e w' ⟨h1,h2⟩=>⟨?_,Kept.under h2⟩
 simpa using h1
theorem DJ (l cs:List UInt8):(Lib.trimS l cs).length≤l.length:=by
 unfold Lib.trimS Lib.trimLeftS Lib.trimRightS
 have h1:=rO (cs.contains ·) ((l.reverse.dropWhile (cs.contains ·)).reverse)
 have h2:=rO (cs.contains ·) l.reverse
 rw [List.length_reverse] at h1 h2;omega
end Go.Proofs.YtgoijmpahffnhaaGreatDoor
