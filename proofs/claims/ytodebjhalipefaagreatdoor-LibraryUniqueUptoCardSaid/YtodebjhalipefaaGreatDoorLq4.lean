/-  -/
import Derived.Test.YtodebjhalipefaaGreatDoorCa
import Derived.Test.YtodebjhalipefaaGreatDoorShelf
import Derived.Lib.AppendZerosOnto
import Derived.Test.YtodebjhalipefaaGreatDoorLq7
import Derived.Test.YtodebjhalipefaaGreatDoorLq19
import Derived.Test.YtodebjhalipefaaGreatDoorLq22
import Derived.Test.YtodebjhalipefaaGreatDoorLq8
import Derived.Test.YtodebjhalipefaaGreatDoorLq11
namespace Go.Proofs.YtodebjhalipefaaGreatDoor
set_option linter.all false
open Go.RowKit
set_option maxRecDepth 100000
set_option maxHeartbeats 1000000
def wK (l:List aj):Prop:=∀x (h:x<l.length),∀y (hy:y<x),l[x]≠l[y]'(by omega)
theorem contains_iff (l:List aj) (n:Nat) (hn:n≤l.length) (x:aj):Lib.containsS (l.take n) x=true↔∃y,∃(h:y<n),l[y]'(by omega)=x:=by
 rw [Lib.containsS_iff]
 constructor
 ·intro h
  obtain ⟨y,hy,e⟩:=List.getElem_of_mem h
  rw [List.getElem_take] at e
  rw [List.length_take] at hy
  exact ⟨y,by omega,e⟩
 ·rintro ⟨y,hy,rfl⟩
  have hl:y<(l.take n).length:=by rw [List.length_take];omega
  have:(l.take n)[y]=l[y]'(by omega):=List.getElem_take
  rw [←this];exact List.getElem_mem hl
def ag7 (l:List aj) (w:World) (e:Ending) (w':World):Prop:=∃b:Bool,e=.returned (.bool b)∧(b=false↔wK l)∧w'=w
theorem vF (l:List aj) (a:Option Addr) (c:Nat) (S:Nat→Prop) (w:World) (hl:aX w S a l) (hlc:l.length≤c) (hlen:l.length≤4000000000) :
  Calls Tryz.prog 78 #[.slice a l.length c] w (ag7 l w):=by
 have HL:=ah hl
 clear hl
 go_enter Tryz.func78, Tryz.ntmps78
 go_wp2_with fail
 go_loop [7] (fun i=>∃j:Nat,j≤l.length∧i=.int .i64 j∧Hid (∀x (h:x<l.length),x<j→∀y (hy:y<x),l[x]≠l[y]'(by omega))) (fun i=>l.length-(intOf i).toNat)
 case atStart=>exact ⟨0,Nat.zero_le _,rfl,by intro x _ hx;omega⟩
 case round =>
  obtain ⟨j,hj,rfl,hno⟩:=hrel
  by_cases hlt:j<l.length
  ·obtain ⟨b,o,rfl,_,hc⟩:=HL.out (by omega)
   have hcj:=hc j hlt
   have HC:Hid (∀x,x<l.length→w.cell? ⟨b,o+x,none⟩=some (.string (l.getD x ByteArray.empty))):=fun x hx=>by rw [hc x hx,List.getD_eq_getElem?_getD,List.getElem?_eq_getElem hx];rfl
   have hjc:j≤c:=by omega
   clear hc
   by_cases h0:j=0
   ·subst h0
    rw [Nat.add_zero] at hcj
    have step:Hid (∀x (h:x<l.length),x<0+1→∀y (hy:y<x),l[x]≠l[y]'(by omega)):=by intro x _ hx y hy;omega
    go_wp2_with (go_at_call 79;refine (Tryz.slices_Contains_string_empty _ _ _ w).mono ?_;rintro e w' ⟨rfl,rfl⟩)
    go_round
    case rel=>exact ⟨0+1,by omega,by go_num,step⟩
    case measure=>simp [intOf];omega
   ·cases hq:Lib.containsS (l.take j) l[j] with
    | true =>
     obtain ⟨y,hy,he⟩:=(contains_iff l j (by omega) l[j]).1 hq
     have fin:Hid (¬wK l):=fun h=>h j hlt y hy he.symm
     have HQ:=ah hq
     clear hq
     go_wp2_with (go_at_call 79;refine (Tryz.slices_Contains_string b o j c l l[j] w (by omega) (by omega) HC.out).mono ?_;rintro e w' ⟨rfl,rfl⟩;rw [HQ.out])
     go_ret
     exact ⟨true,rfl,⟨fun h=>(by cases h),fun h=>absurd h fin.out⟩,rfl⟩
    | false =>
     have step:Hid (∀x (h:x<l.length),x<j+1→∀y (hy:y<x),l[x]≠l[y]'(by omega)):=by
      intro x h hx y hy
      rcases Nat.lt_or_ge x j with h1|h1
      ·exact hno.out x h h1 y hy
      ·obtain rfl:x=j:=by omega
       intro he
       have:=(contains_iff l x (by omega) l[x]).2 ⟨y,hy,he.symm⟩
       rw [hq] at this;cases this
     have HQ:=ah hq
     clear hq
     go_wp2_with (go_at_call 79;refine (Tryz.slices_Contains_string b o j c l l[j] w (by omega) (by omega) HC.out).mono ?_;rintro e w' ⟨rfl,rfl⟩;rw [HQ.out])
     go_round
     case rel=>exact ⟨j+1,by omega,by go_num,step⟩
     case measure=>simp [intOf];omega
  ·obtain rfl:j=l.length:=by omega
   have fin:Hid (wK l):=fun x h y hy=>hno.out x h h y hy
   go_wp2_with fail
   go_ret
   exact ⟨false,rfl,⟨fun _=>fin.out,fun _=>rfl⟩,rfl⟩
end Go.Proofs.YtodebjhalipefaaGreatDoor

namespace Go.Proofs.YtodebjhalipefaaGreatDoor
set_option linter.all false
open Go.RowKit
set_option maxRecDepth 100000
set_option maxHeartbeats 1000000
def ChQ (n:Nat) (xs:List Value) (w:World) (e:Ending) (w':World):Prop:=∃v,e=.returned v∧Ch w' w.heap.size n xs v∧Kept aA w w'
theorem acL (w:World) (k:Nat) (h0:0<k) (hk:k≤4000000000):∃cap w',(Builtin.append_ #[22,3] 22 #[.slice none 0 0,.int .i64 (k:Int)]).run Tryz.prog w=.ok (.slice (some ⟨w.heap.size,0,none⟩) k cap) w'∧
  Kept aA w w'∧Ch w' w.heap.size 0 [] (.slice (some ⟨w.heap.size,0,none⟩) 0 cap)∧k≤cap∧cap≤maxLen:=by
 obtain ⟨i0,hi0,hz0,hz1,hz2⟩:=info_parts zl
 have h:=Lib.run_append_grow_zeros (P:=Tryz.prog) w 22 3 22 9 i0 (.string ⟨#[]⟩) .i64 .i64 Tryz.underlying22 Tryz.underlying3 hi0 hz0 none 0 0 [] (by simp [Builtin.firstCells]) k h0 (by rw [hz1];decide) (by omega) (by omega) (by rw [hz2];omega) (growslice_fits (by omega) (by rw [hz2];omega))
 rw [Nat.zero_add] at h
 have hge:=grownCap_ge w k 0 9
 have hcm:grownCap w k 0 9≤maxLen:=grownCap_le_maxLen w k 0 9 (by unfold maxLen;omega)
 refine ⟨_,_,h,((Kept.refl aA w).drew).alloc _,⟨_,_,rfl,by simp,.inr ⟨w.heap.size,0,_,_,rfl,Nat.le_refl _,ay w.drew _,Nat.zero_le _,hcm,?_,by simp⟩⟩,hge,hcm⟩
 rw [Array.size_append,Array.size_append,List.size_toArray,size_zeroCells,size_zeroCells]
 have hzs:(Value.string ⟨#[]⟩).cells.size=1:=rfl
 rw [hzs]
 simp only [List.length_nil]
 omega
theorem Ql {w:World} {ops:Array Oper} {rest:List Oper} {o:Oper} {a:Act} {Q:Exit→Act→World→Prop} (hgd:o.guard=none) (s x:Operand) (hty:o.type=22)
  (ho:o.op=.call {callee:=.builtin .append,args:=#[s,x],argTypes:=#[22,3]}) (hs:a.eval s=.slice none 0 0) (k:Nat) (hx:a.eval x=.int .i64 (k:Int)) (h0:0<k) (hk:k≤4000000000)
  (h:∀b cap w',Kept aA w w'→Ch w' w.heap.size 0 [] (.slice (some ⟨b,0,none⟩) 0 cap)→k≤cap→cap≤maxLen→wpList Tryz.prog ops Q rest (a.put o.dst (.slice (some ⟨b,0,none⟩) k cap)) w'):wpList Tryz.prog ops Q (o::rest) a w:=by
 refine wpList_plain hgd fun _ hK=>?_
 obtain ⟨cap,w',hr,h1,h2,h3,h4⟩:=acL w k h0 hk
 unfold Oper.wp execOp
 simp only [ho,hty,resolve,invoke,builtin,Sem.run_bind,Sem.run_pure,Result.andThen_ok,List.map_toArray,List.map_cons,List.map_nil,hs,hx,hr]
 exact hK _ _ (h _ cap w' h1 h2 h3 h4)
theorem ZH (k:Nat) (w:World) (hk:k≤4000000000):Calls Tryz.prog 112 #[.slice none 0 0,.int .i64 (k:Int)] w (ChQ 0 [] w):=by
 have e1:decide ((k:Int)<0)=false:=au (by omega)
 have hwr:IntKind.i64.wrap (k:Int)=k:=IntWalk.i64_in _ (by omega)
 by_cases h0:k=0
 ·subst h0
  go_enter Tryz.func112, Tryz.ntmps112
  go_wp2_with fail
  go_ret
  exact ⟨.slice none 0 0,rfl,⟨_,_,rfl,aP.nil ..⟩,Kept.refl _ _⟩
 ·have hp:0<k:=by omega
  have e3:decide (0<k)=true:=ak hp
  have e2:decide ((0:Int)<(k:Int))=true:=ak (by omega)
  clear h0
  go_enter Tryz.func112, Tryz.ntmps112
  go_wp2_with (at_builtin;go_loud (refine Ql rfl _ _ rfl rfl rfl k rfl hp hk ?_);rintro b cap w' bF c1_ hkc hcm;have HK:=ah bF;have HC:=ah c1_;clear bF c1_)
  go_ret
  exact ⟨_,rfl,HC.out,HK.out⟩
theorem TG (b:Nat) (p q:List aj) (pa la:Option Addr) (pc lc:Nat) (S:Nat→Prop) (w:World) (h0:w.cell? ⟨b,0,none⟩=some (.slice pa p.length pc)) (h1:w.cell? ⟨b,1,none⟩=some (.slice la q.length lc)) (hb:b<w.heap.size)
  (hp:aX w S pa p) (hq:aX w S la q) (hS:Safe S aA w.heap.size) (hpl:p.length≤1000000000) (hql:q.length≤1000000000) :
  Calls Tryz.prog 76 #[.slice (some ⟨b,0,none⟩) 2 2] w (ChQ (p.length+q.length) (p.map Value.string++q.map Value.string) w):=by
 have HP:=ah hp;have HQ:=ah hq;have HS:=ah hS
 clear hp hq hS
 have w1:IntKind.i64.wrap ((p.length:Int))=p.length:=IntWalk.i64_in _ (by omega)
 have w2:IntKind.i64.wrap ((p.length:Int)+q.length)=((p.length+q.length:Nat):Int):=IntWalk.i64_in _ (by omega)
 have e1:decide ((p.length:Int)<0)=false:=au (by omega)
 have e2:decide (((p.length+q.length:Nat):Int)<0)=false:=au (by omega)
 obtain ⟨i0,hi0,hz0,hz1,hz2⟩:=info_parts zl
 go_enter Tryz.func76, Tryz.ntmps76
 go_wp2_with fail
 go_loop [11,3] (fun i s=>(i=.int .i64 0∧s=.int .i64 0)∨(i=.int .i64 1∧s=.int .i64 p.length)∨(i=.int .i64 2∧s=.int .i64 (p.length+q.length:Nat))) (fun i s=>2-(intOf i).toNat)
 case atStart=>exact .inl ⟨rfl,rfl⟩
 case round =>
  rcases hrel with ⟨rfl,rfl⟩|⟨rfl,rfl⟩|⟨rfl,rfl⟩
  ·go_wp2_with fail
   go_round
   case rel=>exact .inr (.inl ⟨rfl,rfl⟩)
   case measure=>simp [intOf]
  ·go_wp2_with fail
   go_round
   case rel=>exact .inr (.inr ⟨rfl,rfl⟩)
   case measure=>simp [intOf]
  ·have HG:=ah (ZH (p.length+q.length) w (by omega))
   go_wp2_with (go_at_call 112;(refine HG.out.mono ?_);rintro e w3 ⟨v3,rfl,⟨a3,c3,rfl,hw3⟩,bD⟩;have W3:=ah hw3;have K3:=ah bD;clear hw3 bD)
   go_loopw [27,6] (fun i v w'=>(i=.int .i64 0∧Ch w' w.heap.size 0 [] v∧Kept aA w w')∨(i=.int .i64 1∧Ch w' w.heap.size p.length (p.map Value.string) v∧Kept aA w w')∨(i=.int .i64 2∧Ch w' w.heap.size (p.length+q.length) (p.map Value.string++q.map Value.string) v∧Kept aA w w')) (fun i _ _=>2-(intOf i).toNat)
   case atStart=>exact .inl ⟨rfl,⟨a3,c3,rfl,W3.out⟩,K3.out⟩
   case round =>
    rcases hrel with ⟨rfl,⟨a4,c4,rfl,hw4⟩,hk4⟩|⟨rfl,⟨a4,c4,rfl,hw4⟩,hk4⟩|⟨rfl,⟨a4,c4,rfl,hw4⟩,hk4⟩
    ·have x0:wr.cell? ⟨b,0,none⟩=some (.slice pa p.length pc):=(hk4.cell hb (fun h=>h)).trans h0
     have SR:=ah (Fa (HP.out.to hk4 HS.out (fun _ h=>h)) pc)
     have WV:=ah hw4;have KV:=ah hk4
     have hb4:=hk4.size
     clear hw4 hk4
     go_wp2_with (at_builtin;go_loud (refine dw _ rfl (.tmp 31) (.tmp 32) 22 22 rfl w.heap.size 9 i0 (.string ⟨#[]⟩) 1 16 Tryz.underlying22 hi0 hz0 hz1 hz2 rfl _ 0 [] rfl WV.out _ p.length (p.map Value.string) rfl SR.out (by unfold maxLen;omega) (by omega) hb4 ?_);intro a5 c5 w5 VZ hg5 _;have K5:=ah (KV.out.grown hg5 fun k hk=>.inr (WV.out.lt k hk).1))
     go_roundw
     case rel=>exact .inr (.inl ⟨rfl,⟨a5,c5,rfl,by first|exact VZ|(rw [Nat.zero_add] at VZ;exact VZ)⟩,K5.out⟩)
     case measure=>simp [intOf]
    ·have x0:wr.cell? ⟨b,1,none⟩=some (.slice la q.length lc):=(hk4.cell hb (fun h=>h)).trans h1
     have SR:=ah (Fa (HQ.out.to hk4 HS.out (fun _ h=>h)) lc)
     have WV:=ah hw4;have KV:=ah hk4
     have hb4:=hk4.size
     clear hw4 hk4
     go_wp2_with (at_builtin;go_loud (refine dw _ rfl (.tmp 31) (.tmp 32) 22 22 rfl w.heap.size 9 i0 (.string ⟨#[]⟩) 1 16 Tryz.underlying22 hi0 hz0 hz1 hz2 rfl _ p.length (p.map Value.string) rfl WV.out _ q.length (q.map Value.string) rfl SR.out (by unfold maxLen;omega) (by omega) hb4 ?_);intro a5 c5 w5 VZ hg5 _;have K5:=ah (KV.out.grown hg5 fun k hk=>.inr (WV.out.lt k hk).1))
     go_roundw
     case rel=>exact .inr (.inr ⟨rfl,⟨a5,c5,rfl,VZ⟩,K5.out⟩)
     case measure=>simp [intOf]
    ·have fin:Hid (ChQ (p.length+q.length) (p.map Value.string++q.map Value.string) w (.returned (.slice a4 (p.length+q.length) c4)) wr):=⟨_,rfl,⟨a4,c4,rfl,hw4⟩,hk4⟩
     go_wp2_with fail
     go_ret
     exact fin.out
end Go.Proofs.YtodebjhalipefaaGreatDoor

namespace Go.Proofs.YtodebjhalipefaaGreatDoor
set_option linter.all false
open Go.RowKit
section
variable (p:aF→Prop) [DecidablePred p]
def nU:Nat→List aF→Int
 | _,[] => -1
 | i,s::r=>if p s then (i:Int) else nU (i+1) r
def lQ (l:List aF):Nat→Option Int
 | 0=>none
 | j+1=>match l[j]? with|some s=>if p s then some (j:Int) else lQ l j|none=>lQ l j
theorem Aw (l:List aF):∀j,lQ p l j=none↔∀k,k<j→∀h:k<l.length,¬p l[k]
 | 0=>⟨fun _ k hk=>absurd hk (by omega),fun _=>rfl⟩
 | j+1=>by
  have ih:=Aw l j
  rw [lQ]
  by_cases hj:j<l.length
  ·rw [List.getElem?_eq_getElem hj]
   by_cases hp:p l[j]
   ·simp only [hp,if_true]
    exact ⟨fun h=>(by cases h),fun h=>absurd hp (h j (by omega) hj)⟩
   ·simp only [hp,if_false]
    rw [ih]
    refine ⟨fun h k hk hl=>?_,fun h k hk hl=>h k (by omega) hl⟩
    by_cases he:k=j
    ·subst he;exact hp
    ·exact h k (by omega) hl
  ·rw [List.getElem?_eq_none (by omega)]
   show lQ p l j=none↔_
   rw [ih]
   exact ⟨fun h k hk hl=>h k (by omega) hl,fun h k hk hl=>h k (by omega) hl⟩
theorem wJ (l:List aF) {d:Int}:∀j,lQ p l j=some d→∃k:Nat,d=k∧k<j∧∃h:k<l.length,p l[k]
 | 0,h=>by cases h
 | j+1,h=>by
  rw [lQ] at h
  by_cases hj:j<l.length
  ·rw [List.getElem?_eq_getElem hj] at h
   by_cases hp:p l[j]
   ·simp only [hp,if_true,Option.some.injEq] at h
    exact ⟨j,h.symm,by omega,hj,hp⟩
   ·simp only [hp,if_false] at h
    obtain ⟨k,h1,h2,h3⟩:=wJ l j h
    exact ⟨k,h1,by omega,h3⟩
  ·rw [List.getElem?_eq_none (by omega)] at h
   obtain ⟨k,h1,h2,h3⟩:=wJ l j h
   exact ⟨k,h1,by omega,h3⟩
theorem uU:∀(l:List aF) (i:Nat),(nU p i l = -1∧∀k (h:k<l.length),¬p l[k])∨∃k,∃h:k<l.length,nU p i l=((i+k:Nat):Int)∧p l[k]∧∀m (hm:m<k),¬p (l[m]'(by omega))
 | [],i=>.inl ⟨rfl,fun k h=>absurd h (by simp)⟩
 | s::r,i=>by
  rw [nU]
  by_cases hp:p s
  ·rw [if_pos hp];exact .inr ⟨0,by simp,rfl,hp,fun m hm=>absurd hm (by omega)⟩
  ·rw [if_neg hp]
   rcases uU r (i+1) with ⟨h1,h2⟩|⟨k,h,h1,h2,h3⟩
   ·exact .inl ⟨h1,fun k h=>by cases k with|zero=>exact hp|succ k=>exact h2 k (by simpa using h)⟩
   ·refine .inr ⟨k+1,by simp;omega,by rw [h1];omega,h2,fun m hm=>?_⟩
    cases m with
    | zero=>exact hp
    | succ m=>exact h3 m (by omega)
theorem OD (l:List aF) (j:Nat) (h:j<l.length) (hp:p l[j]):nU p 0 l=j↔lQ p l j=none:=by
 rw [Aw]
 rcases uU p l 0 with ⟨_,h2⟩|⟨k,hk,h1,h2,h3⟩
 ·exact absurd hp (h2 j h)
 ·rw [h1,Nat.zero_add]
  constructor
  ·intro e m hm hl;obtain rfl:k=j:=by omega
   exact h3 m hm
  ·intro e
   by_cases hkj:k=j
   ·rw [hkj]
   ·rcases Nat.lt_or_ge k j with h4|h4
    ·exact absurd h2 (e k h4 hk)
    ·exact absurd hp (h3 j (by omega))
theorem OE (l:List aF) (hu:∀j (h:j<l.length),p l[j]→nU p 0 l=j):lQ p l l.length=if nU p 0 l<0 then none else some (nU p 0 l):=by
 cases hl:lQ p l l.length with
 | none =>
  rw [Aw] at hl
  rcases uU p l 0 with ⟨h1,_⟩|⟨k,hk,_,h2,_⟩
  ·rw [h1];rfl
  ·exact absurd h2 (hl k hk hk)
 | some d =>
  obtain ⟨k,rfl,_,hk,hp⟩:=wJ p l _ hl
  rw [hu k hk hp,if_neg (by omega)]
end
def Nk (n:aj) (s:aF):Prop:=s.label=n∧n.size≠0
def Sv (n:aj) (s:aF):Prop:=s.kind=7∧s.name=n
instance (n:aj):DecidablePred (Nk n):=fun s=>by unfold Nk;exact inferInstance
instance (n:aj):DecidablePred (Sv n):=fun s=>by unfold Sv;exact inferInstance
theorem sH (l:List aF) (n:aj):nS l n=nU (Nk n) 0 l:=by
 unfold nS
 generalize 0=i
 induction l generalizing i with
 | nil=>rfl
 | cons s r ih=>rw [IY,nU,ih];rfl
theorem yX (l:List aF) (n:aj):funcF l n=nU (Sv n) 0 l:=by
 unfold funcF
 generalize 0=i
 induction l generalizing i with
 | nil=>rfl
 | cons s r ih=>rw [MX,nU,ih];rfl
def eP (l:List aF):Nat→aj→Option Int
 | 0=>fun _=>none
 | j+1=>match l[j]? with|some s=>if s.label.size=0 then eP l j else kL (eP l j) s.label j|none=>eP l j
def fJ (l:List aF):Nat→aj→Option Int
 | 0=>fun _=>none
 | j+1=>match l[j]? with|some s=>if s.kind=7 then kL (fJ l j) s.name j else fJ l j|none=>fJ l j
theorem vk (l:List aF) (n:aj):∀j,eP l j n=lQ (Nk n) l j
 | 0=>rfl
 | j+1=>by
  rw [eP,lQ]
  cases l[j]? with
  | none=>exact vk l n j
  | some s =>
   dsimp only
   by_cases h0:s.label.size=0
   ·rw [if_pos h0,vk l n j,if_neg (fun h=>h.2 (by rw [←h.1];exact h0))]
   ·rw [if_neg h0]
    unfold kL
    by_cases hn:n=s.label
    ·rw [if_pos hn,if_pos ⟨hn.symm,by rw [hn];exact h0⟩]
    ·rw [if_neg hn,vk l n j,if_neg (fun h=>hn h.1.symm)]
theorem rO (l:List aF) (n:aj):∀j,fJ l j n=lQ (Sv n) l j
 | 0=>rfl
 | j+1=>by
  rw [fJ,lQ]
  cases l[j]? with
  | none=>exact rO l n j
  | some s =>
   dsimp only
   by_cases h0:s.kind=7
   ·rw [if_pos h0]
    unfold kL
    by_cases hn:n=s.name
    ·rw [if_pos hn,if_pos ⟨h0,hn.symm⟩]
    ·rw [if_neg hn,rO l n j,if_neg (fun h=>hn h.2.symm)]
   ·rw [if_neg h0,rO l n j,if_neg (fun h=>h0 h.1)]
theorem aa8 (l:List aF) (j:Nat) (h:j<l.length) (h0:l[j].label.size≠0):eP l (j+1)=kL (eP l j) l[j].label j:=by
 rw [eP,List.getElem?_eq_getElem h];exact if_neg h0
theorem adv (l:List aF) (j:Nat) (h:j<l.length) (h0:l[j].label.size=0):eP l (j+1)=eP l j:=by
 rw [eP,List.getElem?_eq_getElem h];exact if_pos h0
theorem aa9 (l:List aF) (j:Nat) (h:j<l.length) (h0:l[j].kind=7):fJ l (j+1)=kL (fJ l j) l[j].name j:=by
 rw [fJ,List.getElem?_eq_getElem h];exact if_pos h0
theorem adw (l:List aF) (j:Nat) (h:j<l.length) (h0:l[j].kind≠7):fJ l (j+1)=fJ l j:=by
 rw [fJ,List.getElem?_eq_getElem h];exact if_neg h0
theorem adx (l:List aF) (j:Nat) (n:aj) (d:Int) (h:fJ l j n=some d):∃k:Nat,d=k∧k<l.length:=by
 rw [rO] at h
 obtain ⟨k,h1,_,h2,_⟩:=wJ _ l j h
 exact ⟨k,h1,h2⟩
def own (s:aF):List aj:=s.params++s.locals++[s.name]
def Ez:aj:=⟨#[73,78,80,85,84]⟩
def yY:aj:=⟨#[79,85,84,80,85,84]⟩
def badL (m:aj→Option Int) (s:aF):Prop:=s.label.size≠0∧((m s.label).isSome=true∨qN s.label=true)
def sZ (m:aj→Option Int) (s:aF):Prop:=s.kind=7∧((m s.name).isSome=true∨0≤aI s.name∨¬wK (own s)∨Ez∈own s∨yY∈own s)
theorem EC (l:List aj):wK l↔l.Nodup:=by
 unfold wK List.Nodup
 rw [List.pairwise_iff_getElem]
 exact ⟨fun h i j hi hj hij e=>h j hj i hij e.symm,fun h x hx y hy e=>h y x (by omega) hx hy e.symm⟩
theorem GY (x:aj) (a:Array UInt8):x.toList=a.toList↔x=⟨a⟩:=by
 rw [ByteArray.toList_eq]
 obtain ⟨y⟩:=x
 exact ⟨fun h=>congrArg ByteArray.mk (Array.toList_inj.1 h),fun h=>(by cases h;rfl)⟩
theorem Ym (s:aF):GU (s.name::s.params++s.locals)↔wK (own s)∧Ez∉own s∧yY∉own s:=by
 have hp:List.Perm (s.name::s.params++s.locals) (own s):=by
  show List.Perm (s.name::(s.params++s.locals)) (s.params++s.locals++[s.name])
  exact (List.perm_append_singleton _ _).symm
 rw [EC,←hp.nodup_iff,←hp.mem_iff,←hp.mem_iff,←EC]
 generalize s.name::s.params++s.locals=all
 constructor
 ·intro h
  refine ⟨fun x hx y hy=>(h x hx).2.2 y hy,fun hm=>?_,fun hm=>?_⟩
  ·obtain ⟨i,hi,e⟩:=List.getElem_of_mem hm
   exact (h i hi).1 (by rw [e,ByteArray.toList_eq];rfl)
  ·obtain ⟨i,hi,e⟩:=List.getElem_of_mem hm
   exact (h i hi).2.1 (by rw [e,ByteArray.toList_eq];rfl)
 ·rintro ⟨h1,h2,h3⟩ a ha
  refine ⟨fun e=>h2 ?_,fun e=>h3 ?_,fun b hb=>h1 a ha b hb⟩
  ·have:=(GY all[a] #[73,78,80,85,84]).1 e
   show (⟨#[73,78,80,85,84]⟩:aj)∈all
   rw [←this];exact List.getElem_mem ha
  ·have:=(GY all[a] #[79,85,84,80,85,84]).1 e
   show (⟨#[79,85,84,80,85,84]⟩:aj)∈all
   rw [←this];exact List.getElem_mem ha
theorem KC (l:List aF) (j:Nat) (h:j<l.length):pF l j l[j]↔¬badL (eP l j) l[j]∧¬sZ (fJ l j) l[j]:=by
 have h1:Jk l j l[j]↔¬badL (eP l j) l[j]:=by
  unfold Jk badL
  by_cases h0:l[j].label.size=0
  ·simp [h0]
  ·have:=OD (Nk l[j].label) l j h ⟨rfl,h0⟩
   rw [sH,this,vk,←Option.isNone_iff_eq_none,←Option.not_isSome]
   cases qN l[j].label<;>cases (lQ (Nk l[j].label) l j).isSome<;>simp [h0]
 have h2:(l[j].kind=7→Oz l j l[j]∧GU (l[j].name::l[j].params++l[j].locals))↔¬sZ (fJ l j) l[j]:=by
  unfold sZ Oz
  by_cases h7:l[j].kind=7
  ·have:=OD (Sv l[j].name) l j h ⟨h7,rfl⟩
   rw [yX,this,rO,←Option.isNone_iff_eq_none,←Option.not_isSome,Ym]
   generalize (lQ (Sv l[j].name) l j).isSome=b
   constructor
   ·rintro h ⟨_,h3⟩
    obtain ⟨⟨h4,h5⟩,h6,h8,h9⟩:=h h7
    rcases h3 with h3|h3|h3|h3|h3
    ·rw [h3] at h5;cases h5
    ·omega
    ·exact h3 h6
    ·exact h8 h3
    ·exact h9 h3
   ·intro h _
    have h':¬(b=true∨0≤aI l[j].name∨¬wK (own l[j])∨Ez∈own l[j]∨yY∈own l[j]):=fun e=>h ⟨h7,e⟩
    refine ⟨⟨by have:¬0≤aI l[j].name:=fun e=>h' (.inr (.inl e));omega,?_⟩,Classical.byContradiction fun e=>h' (.inr (.inr (.inl e))),fun e=>h' (.inr (.inr (.inr (.inl e)))),fun e=>h' (.inr (.inr (.inr (.inr e))))⟩
    cases b with
    | true=>exact absurd (.inl rfl) h'
    | false=>rfl
  ·simp [h7]
 unfold pF
 rw [h1,h2]
end Go.Proofs.YtodebjhalipefaaGreatDoor

namespace Go.Proofs.YtodebjhalipefaaGreatDoor
set_option linter.all false
open Go.RowKit
open Classical in
noncomputable def ng (P:Prop) (i:Int) (r:Int×Int):Int×Int:=if P then vI r (7,i) else r
theorem Az {P:Prop} (h:P) (i:Int) (r:Int×Int):ng P i r=vI r (7,i):=if_pos h
theorem uK {P:Prop} (h:¬P) (i:Int) (r:Int×Int):ng P i r=r:=if_neg h
theorem KE {r:Int×Int} (h:r.1≠0) (q:Int×Int):vI r q=r:=if_neg h
theorem Dj (q:Int×Int):vI (0,0) q=q:=if_pos rfl
theorem rP {r:Int×Int} (h:r.1≠0) (e i:Int):jr r e i=r:=by unfold jr;split;rfl;exact KE h _
noncomputable def nR (l:List aF):Nat→Int×Int
 | 0=>(0,0)
 | j+1=>match l[j]? with|some s=>ng (sZ (fJ l j) s) j (ng (badL (eP l j) s) j (nR l j))|none=>nR l j
theorem Jr (l:List aF) (j:Nat) (h:j<l.length):nR l (j+1)=ng (sZ (fJ l j) l[j]) j (ng (badL (eP l j) l[j]) j (nR l j)):=by
 rw [nR,List.getElem?_eq_getElem h]
theorem Dk {P:Prop} {i:Int} {r:Int×Int} (h:r.1≠0):ng P i r=r:=by unfold ng;split;exact KE h _;rfl
theorem Sz (l:List aF) (j:Nat) (h0:(nR l j).1≠0):∀k,nR l (j+k)=nR l j
 | 0=>rfl
 | k+1=>by
  rw [←Nat.add_assoc,nR]
  have ih:=Sz l j h0 k
  cases l[j+k]? with
  | none=>exact ih
  | some s=>dsimp only;rw [ih,Dk h0,Dk h0]
theorem SA (l:List aF):∀(k j:Nat),j+k=l.length→nR l j=(0,0)→nR l l.length=match kR l j (l.drop j) with|some (a,b)=>(a,(b:Int))|none=>(0,0)
 | 0,j,hj,h0=>by
  obtain rfl:j=l.length:=by omega
  rw [List.drop_length,kR,h0]
 | k+1,j,hj,h0=>by
  have hlt:j<l.length:=by omega
  have hs:=Jr l j hlt
  by_cases hn:pF l j l[j]
  ·rw [OG l j hlt hn]
   obtain ⟨h1,h2⟩:=(KC l j hlt).1 hn
   rw [uK h2,uK h1,h0] at hs
   exact SA l k (j+1) (by omega) hs
  ·rw [SB l j hlt hn]
   have h7:nR l (j+1)=(7,(j:Int)):=by
    rw [hs,h0]
    by_cases h1:badL (eP l j) l[j]
    ·rw [Az h1,Dj,Dk (by show (7:Int)≠0;decide)]
    ·by_cases h2:sZ (fJ l j) l[j]
     ·rw [Az h2,uK h1,Dj]
     ·exact absurd ((KC l j hlt).2 ⟨h1,h2⟩) hn
   have:=Sz l (j+1) (by rw [h7];show (7:Int)≠0;decide) (l.length-(j+1))
   rw [show j+1+(l.length-(j+1))=l.length by omega] at this
   rw [this,h7]
theorem OH (l:List aF):∀(k j:Nat),j+k=l.length→kR l j (l.drop j)=none→∀i (h:i<l.length),j≤i→pF l i l[i]
 | 0,j,hj,h0,i,hi,hji=>by omega
 | k+1,j,hj,h0,i,hi,hji=>by
  have hlt:j<l.length:=by omega
  by_cases hn:pF l j l[j]
  ·rw [OG l j hlt hn] at h0
   by_cases he:j=i
   ·subst he;exact hn
   ·exact OH l k (j+1) (by omega) h0 i hi (by omega)
  ·rw [SB l j hlt hn] at h0;cases h0
def jU (l:List aF) (n:aj):Option Int:=if nS l n<0 then none else some (nS l n)
def tq (l:List aF) (n:aj):Option Int:=if funcF l n<0 then none else some (funcF l n)
theorem OI (l:List aF) (h:∀i (h:i<l.length),pF l i l[i]):eP l l.length=jU l:=by
 funext n
 rw [vk,OE,←sH];rfl
 intro j hj hp
 rw [←sH]
 rcases (h j hj).1 with h1|h1
 ·exact absurd h1 (by rw [hp.1];exact hp.2)
 ·rw [←hp.1];exact h1.2
theorem OJ (l:List aF) (h:∀i (h:i<l.length),pF l i l[i]):fJ l l.length=tq l:=by
 funext n
 rw [rO,OE,←yX];rfl
 intro j hj hp
 rw [←yX]
 have h1:=((h j hj).2 hp.1).1.2
 rw [←hp.2];exact h1
def Eb (m:aj→Option Int) (n:aj):Prop:=n.size≠0∧(m n).isSome=false∧qN n=false
instance (m:aj→Option Int) (n:aj):Decidable (Eb m n):=by unfold Eb;exact inferInstance
def BD (m:aj→Option Int) (i:Int):List aj→Int×Int→Int×Int
 | [],r=>r
 | n::q,r=>BD m i q (jr r (if Eb m n then 6 else 0) i)
def AA (m:aj→Option Int) (s:aF):Int:=if s.kind=7∧(m s.entry).isSome=false then 6 else 0
def FQ (m1 m2:aj→Option Int) (l:List aF) (i:Int) (s:aF) (r:Int×Int):Int×Int :=
 ji m2 l i (iW s) (jr (BD m1 i (zJ s) r) (AA m1 s) i)
def uR (m1 m2:aj→Option Int) (l:List aF) (r:Int×Int):Nat→Int×Int
 | 0=>r
 | j+1=>match l[j]? with|some s=>FQ m1 m2 l j s (uR m1 m2 l r j)|none=>uR m1 m2 l r j
theorem SC (m1 m2:aj→Option Int) (l:List aF) (r:Int×Int) (j:Nat) (h:j<l.length):uR m1 m2 l r (j+1)=FQ m1 m2 l j l[j] (uR m1 m2 l r j):=by
 rw [uR,List.getElem?_eq_getElem h]
theorem abb (m:aj→Option Int) (i:Int) (q:List aj) (j:Nat) (h:j<q.length) (r:Int×Int):BD m i (q.drop j) r=BD m i (q.drop (j+1)) (jr r (if Eb m q[j] then 6 else 0) i):=by
 rw [List.drop_eq_getElem_cons h,BD]
theorem OL (m:aj→Option Int) (i:Int) (r:Int×Int) (h:r.1≠0):∀q,BD m i q r=r
 | []=>rfl
 | n::q=>by rw [BD,rP h,OL m i r h q]
mutual
theorem QE (m:aj→Option Int) (l:List aF) (i:Int) (r:Int×Int) (h:r.1≠0):∀x,nP m l i x r=r
 | .mk k t n nm kids=>by rw [nP,rP h,yZ m l i r h kids]
theorem yZ (m:aj→Option Int) (l:List aF) (i:Int) (r:Int×Int) (h:r.1≠0):∀q,ji m l i q r=r
 | []=>by rw [ji]
 | x::q=>by rw [ji,QE m l i r h x,yZ m l i r h q]
end
theorem Yn (m1 m2:aj→Option Int) (l:List aF) (i:Int) (s:aF) (r:Int×Int) (h:r.1≠0):FQ m1 m2 l i s r=r:=by
 unfold FQ
 rw [OL _ _ _ h,rP h,yZ _ _ _ _ h]
theorem Js (m1 m2:aj→Option Int) (l:List aF) (r:Int×Int) (j:Nat) (h:(uR m1 m2 l r j).1≠0):∀k,uR m1 m2 l r (j+k)=uR m1 m2 l r j
 | 0=>rfl
 | k+1=>by
  rw [←Nat.add_assoc,uR]
  have ih:=Js m1 m2 l r j h k
  cases l[j+k]? with
  | none=>exact ih
  | some s=>dsimp only;rw [ih,Yn _ _ _ _ _ _ h]
theorem vw (r:Int×Int) (a b i:Int):jr (jr r a i) b i=jr r (if a=0 then b else a) i:=by
 by_cases ha:a=0
 ·rw [if_pos ha,show jr r a i=r from if_pos ha]
 ·rw [if_neg ha]
  by_cases hr:r.1=0
  ·have:jr r a i=(a,i):=(if_neg ha).trans (if_pos hr)
   rw [this,rP ha]
  ·rw [rP hr,rP hr]
theorem OM (l:List aF) (n:aj):Eb (jU l) n↔wQ l n:=by
 unfold Eb wQ jU
 by_cases h:nS l n<0
 ·simp [h]
 ·simp [h]
theorem SE (l:List aF) (i:Int):∀q r,BD (jU l) i q r=jr r (Yo l q) i
 | [],r=>(if_pos rfl).symm
 | n::q,r=>by
  rw [BD,SE l i q,vw,Yo]
  by_cases h:wQ l n
  ·rw [if_pos h,if_pos ((OM l n).2 h),if_neg (by decide)]
  ·rw [if_neg h,if_neg (fun e=>h ((OM l n).1 e)),if_pos rfl]
theorem ady (l:List aF) (s:aF):AA (jU l) s=if s.kind=7∧nS l s.entry<0 then 6 else 0:=by
 unfold AA jU
 by_cases h:nS l s.entry<0
 ·simp [h]
 ·simp [h]
theorem abd (l:List aF) (x:aB):xR (tq l) l x=GZ l x:=by
 unfold xR GZ tq
 by_cases h:funcF l x.name<0
 ·simp [h]
  by_cases h1:x.kind=6
  ·rw [if_pos h1,if_pos h1]
   by_cases h2:0≤aI x.name∧¬aI x.name=x.kids.length
   ·rw [if_pos h2,if_pos h2]
   ·rw [if_neg h2,if_neg h2]
    by_cases h3:aI x.name<0
    ·rw [if_pos h3,if_pos h3]
    ·rw [if_neg h3,if_neg h3,if_neg (fun e=>h3 e.1),if_neg (fun e=>h3 e.1)]
  ·rw [if_neg h1,if_neg h1]
 ·simp [h]
theorem Jt (l:List aF):∀a b,xw l (a++b)=if xw l a=0 then xw l b else xw l a
 | [],b=>(if_pos rfl).symm
 | y::r,b=>by
  rw [List.cons_append,xw,xw,Jt l r b]
  by_cases h:GZ l y=0
  ·simp only [h,if_true]
  ·simp only [h,if_false]
mutual
theorem Vf (l:List aF) (i:Int):∀x r,nP (tq l) l i x r=jr r (xw l (allT x)) i
 | .mk k t n nm kids,r=>by
  rw [nP,AB l i kids,vw,abd,allT,xw]
theorem AB (l:List aF) (i:Int):∀q r,ji (tq l) l i q r=jr r (xw l (allL q)) i
 | [],r=>by rw [ji,allL,xw];exact (if_pos rfl).symm
 | x::q,r=>by
  rw [ji,AB l i q,Vf l i x,vw,allL,Jt]
end
theorem OO (l:List aF):∀q,exE l q=xw l (allL q)
 | []=>rfl
 | x::q=>by rw [exE,allL,Jt,OO l q]
theorem adz (l:List aF) (i:Int) (s:aF) (r:Int×Int):FQ (jU l) (tq l) l i s r=jr r (uX l s) i:=by
 unfold FQ uX
 rw [AB,SE,vw,vw,ady,OO]
 simp only [dK]
 generalize Yo l (zJ s)=a
 generalize (if s.kind=7∧nS l s.entry<0 then (6:Int) else 0)=b
 generalize xw l (allL (iW s))=c
 by_cases h1:a=0<;>by_cases h2:b=0<;>by_cases h3:c=0<;>simp [h1,h2,h3]
theorem SG (l:List aF):∀(k j:Nat),j+k=l.length→uR (jU l) (tq l) l (0,0) j=(0,0)→uR (jU l) (tq l) l (0,0) l.length=match vM l j (l.drop j) with|some (a,b)=>(a,(b:Int))|none=>(0,0)
 | 0,j,hj,h0=>by
  obtain rfl:j=l.length:=by omega
  rw [List.drop_length,vM,h0]
 | k+1,j,hj,h0=>by
  have hlt:j<l.length:=by omega
  have hs:=SC (jU l) (tq l) l (0,0) j hlt
  rw [h0,adz] at hs
  rw [Yp l j hlt]
  by_cases hu:uX l l[j]=0
  ·rw [if_pos hu]
   exact SG l k (j+1) (by omega) (hs.trans (if_pos hu))
  ·rw [if_neg hu]
   have h7:uR (jU l) (tq l) l (0,0) (j+1)=(uX l l[j],(j:Int)):=hs.trans ((if_neg hu).trans (Dj _))
   have:=Js (jU l) (tq l) l (0,0) (j+1) (by rw [h7];exact hu) (l.length-(j+1))
   rw [show j+1+(l.length-(j+1))=l.length by omega] at this
   rw [this,h7]
noncomputable def LY (l:List aF):Int×Int:=uR (eP l l.length) (fJ l l.length) l (nR l l.length) l.length
theorem OQ (l:List aF) (hl:¬1000<l.length) (hw:pG 0 l=none):LY l=((bZ l).1,((bZ l).2:Int)):=by
 unfold LY
 have h1:=SA l l.length 0 (by omega) rfl
 rw [List.drop_zero] at h1
 cases hn:kR l 0 l with
 | some r =>
  rw [hn] at h1
  rw [OT hl hw hn,h1]
  have hr:r.1=7:=by
   have:∀(q:List aF) (i:Nat) (r:Int×Nat),kR l i q=some r→r.1=7:=by
    intro q
    induction q with
    | nil=>intro i r h;cases h
    | cons s q ih =>
     intro i r h
     rw [kR] at h
     split at h
     ·exact ih _ _ h
     ·cases h;rfl
   exact this l 0 r hn
  have:=Js (eP l l.length) (fJ l l.length) l (r.1,(r.2:Int)) 0 (by show r.1≠0;rw [hr];decide) l.length
  rw [Nat.zero_add] at this
  exact this
 | none =>
  rw [hn] at h1
  have hall:=OH l l.length 0 (by omega) (by rw [List.drop_zero];exact hn)
  rw [h1,OI l (fun i h=>hall i h (Nat.zero_le _)),OJ l (fun i h=>hall i h (Nat.zero_le _)),SG l l.length 0 (by omega) rfl,List.drop_zero]
  cases hu:vM l 0 l with
  | some r=>rw [abe hl hw hn hu]
  | none=>rw [abf hl hw hn hu];rfl
theorem Vg (l:List aF) (hl:¬1000<l.length) (hw:pG 0 l=none) (hr:(LY l).1=0):eP l l.length=jU l∧fJ l l.length=tq l∧(bZ l).1=0:=by
 have h1:=OQ l hl hw
 have h2:(bZ l).1=0:=by rw [h1] at hr;exact hr
 refine ⟨?_,?_,h2⟩
 all_goals
  have hn:kR l 0 l=none:=by
   cases hn:kR l 0 l with
   | none=>rfl
   | some r =>
    rw [OT hl hw hn] at h2
    have:∀(q:List aF) (i:Nat) (r:Int×Nat),kR l i q=some r→r.1=7:=by
     intro q
     induction q with
     | nil=>intro i r h;cases h
     | cons s q ih =>
      intro i r h
      rw [kR] at h
      split at h
      ·exact ih _ _ h
      ·cases h;rfl
    rw [this l 0 r hn] at h2;cases h2
  have hall:=OH l l.length 0 (by omega) (by rw [List.drop_zero];exact hn)
 ·exact OI l (fun i h=>hall i h (Nat.zero_le _))
 ·exact OJ l (fun i h=>hall i h (Nat.zero_le _))
end Go.Proofs.YtodebjhalipefaaGreatDoor

namespace Go.Proofs.YtodebjhalipefaaGreatDoor
set_option linter.all false
open Go.RowKit
def qm (l:List aF) (B:Nat) (p:Option Addr) (w':World):Prop :=
 ∃T B1 B2 n1 n2,p=some ⟨T,0,none⟩∧qj w' T B1 B2∧eG w' B1 n1 (jU l)∧eG w' B2 n2 (tq l)∧B≤T∧B≤B1∧B≤B2
def acd (l:List aF) (w:World) (e:Ending) (w':World):Prop :=
 ∃p,e=.returned (.tuple #[.pointer p,.agg #[.int .i64 (bZ l).1,.int .i64 ((bZ l).2:Int)]])∧Kept aA w w'∧((bZ l).1=0→qm l w.heap.size p w')∧((bZ l).1≠0→p=none)
theorem AL {f:Func} {tmps:Array Value} {l:List aF} {w w2:World} {F:Nat} {p:Option Addr} {a b:Int} (hres:f.results = #[.tmp 2,.cell 3 39]) (h2:tmps.getD 2 undef=.pointer p) (h3:tmps.getD 3 undef=.pointer (some ⟨F,0,none⟩)) (hF:Fl F a b w2)
  (hr:(a,b)=((bZ l).1,((bZ l).2:Int))) (K:Kept aA w w2) (hp:(bZ l).1=0→qm l w.heap.size p w2) (hn:(bZ l).1≠0→p=none):bodyPost Tryz.prog f (acd l w) .ret ⟨tmps,[]⟩ w2:=by
 obtain ⟨h0,h1,_,_⟩:=hF.cells
 simp only [Prod.mk.injEq] at hr
 obtain ⟨rfl,rfl⟩:=hr
 have ht2:tmps[2]?.getD undef=.pointer p:=by rw [←h2,Array.getD_eq_getD_getElem?]
 have ht3:tmps[3]?.getD undef=.pointer (some ⟨F,0,none⟩):=by rw [←h3,Array.getD_eq_getD_getElem?]
 exact bodyPost_ret (v:=.tuple #[.pointer p,.agg #[.int .i64 (bZ l).1,.int .i64 ((bZ l).2:Int)]]) (by simp [results,hres,go_sem,ht2,ht3,h0,h1]) rfl ⟨p,rfl,K,hp,hn⟩
theorem check_big {l:List aF} (h:1000<l.length):bZ l=(5,0):=if_pos h
section
open Go.Maps Go.WideMaps
theorem eG.put {w:World} {B n:Nat} {m:aj→Option Int} (h:eG w B n m) (hn:n<maxLen) (s:aj) (hs:s.size≤maxLen) (c:Int) (hc:(Lit.int .i64 c).wf=true) :
  ∃w',(Instr.mapUpdate 114 (.map (some B)) (.string s) (.int .i64 c)).run Tryz.prog w=.ok () w'∧eG w' B (n+1) (kL m s c)∧Kept (· = B) w w':=by
 obtain ⟨D,hown,hmap,hD⟩:=h
 obtain ⟨w',hrun,hown',hgr⟩:=hown.update qy Tryz.underlying114 hn (keyOf_string_mk Tryz.underlying9 hs) (plainElem_int (H:=Unit) (a:=c) Tryz.underlying3 hc)
 refine ⟨w',hrun,⟨_,hown',?_,fun t=>?_⟩,(Kept.refl (· = B) w).grown hgr fun k hk=>.inl (by cases hk;rfl)⟩
 ·obtain ⟨es,rfl⟩:=hmap;exact ⟨_,rfl⟩
 ·have hkl:WideAt.IsKeyLit (Lit.string s.data.toList):=by first|exact .string _|trivial|(simp [WideAt.IsKeyLit])
  unfold kL
  by_cases ht:t=s
  ·subst ht
   rw [if_pos rfl]
   exact ⟨has_put_same hmap hkl _,fun z=>atKey_put_same hmap hkl _ z⟩
  ·rw [if_neg ht]
   exact ⟨(has_put_other (lG ht) _).trans (hD t).1,fun z=>(atKey_put_other (lG ht) _ z).trans ((hD t).2 z)⟩
end
def G7 (N B1 B2:Nat) (b:Nat):Prop:=b=N∨b=B1∨b=B2
end Go.Proofs.YtodebjhalipefaaGreatDoor

namespace Go.Proofs.YtodebjhalipefaaGreatDoor
set_option linter.all false
open Go.RowKit
structure JQ where
 name:aj
 key:aj
 keyed:Bool
def zq (w:aW) (p:JQ) (t:aj):Bool×aW:=if p.keyed=true then IZ w (p.name,p.key) t else fU w p.name t
def su (k:Int) (nm:aj) (a:List aj):Option aj :=
 if k=7 then sD 10 ⟨#[48]⟩ (arg a 0) else if k=6 then gK nm a else sD k (arg a 0) (arg a 1)
def okO (p:(aj×Bool)×aW):Option aj×aW:=(if p.1.2=true then some p.1.1 else none,p.2)
mutual
def iK:aB→aW→Option aj×aW
 | .mk k t n nm kids,w =>
  if k=1 then (some t,w) else if k=2 then (some (bY n),w) else if k=3 then okO (jg w nm)
  else match jh kids w with
   | (none,w1)=>(none,w1)
   | (some a,w1)=>(if k=4 then some (lookA w1.items (nm,arg a 0)) else su k nm a,w1)
def jh:List aB→aW→Option (List aj)×aW
 | [],w=>(some [],w)
 | x::q,w=>match iK x w with
  | (none,w1)=>(none,w1)
  | (some t,w1)=>match jh q w1 with
   | (none,w2)=>(none,w2)
   | (some l,w2)=>(some (t::l),w2)
end
def nT (x:aB) (w:aW):Option JQ×aW :=
 if x.kind=3 then (some ⟨x.name,⟨#[]⟩,false⟩,w)
 else match jh x.kids w with
  | (none,w1)=>(none,w1)
  | (some a,w1)=>(some ⟨x.name,arg a 0,true⟩,w1)
def l7 (s:aF) (w:aW):Bool×aW :=
 if s.kind=2 then ((iK s.value w).1.isSome,(iK s.value w).2)
 else if s.kind=3 then match nT s.target w with
  | (none,w1)=>(false,w1)
  | (some p,w1)=>match iK s.value w1 with
   | (none,w2)=>(false,w2)
   | (some t,w2)=>zq w2 p t
 else (true,w)
def aec:aj:=⟨#[69,78,68]⟩
def aed:aj:=⟨#[82,69,84,85,82,78]⟩
def abO:aj:=⟨#[70,82,69,84,85,82,78]⟩
def toS (s:aF) (ok:Bool):aj:=if s.always.size≠0 then s.always else if ok=true then s.yes else s.bU
def nextL (l:List aF) (i:Nat) (u:aj):Nat :=
 if u.size=0 then i+1 else if u=aec∨u=aed∨u=abO then l.length else ((jU l u).getD 0).toNat
def tick (w:aW):aW:={w with steps:=w.steps+1}
def jP (l:List aF):Nat→Nat→aW→aW
 | 0,i,w=>if h:i<l.length then {w with how:=2} else {w with how:=1}
 | n+1,i,w=>if h:i<l.length then
   (if (l7 l[i] (tick w)).2.how≠0 then (l7 l[i] (tick w)).2 else jP l n (nextL l i (toS l[i] (l7 l[i] (tick w)).1)) (l7 l[i] (tick w)).2)
  else {w with how:=1}
def qB (input:List aj):aW:=⟨[],[],0,0,[],input,0,[],0,[]⟩
mutual
def rD (nb:aj→Bool) (kb:Int→Bool):aB→Bool
 | .mk k t n nm kids=>if k=1 then decide (t.size≤65536) else if k=2 then kb 2&&decide (eH n) else if k=3 then true
  else yT nb kb kids&&(if k=4 then kb 4&&decide (kids.length=1) else if k=6 then nb nm&&decide (0≤aI nm∧aI nm=(kids.length:Int)) else if k=7 then kb 10&&decide (kids.length=1) else kb k&&decide (8≤k∧k≤13∧kids.length=2))
def yT (nb:aj→Bool) (kb:Int→Bool):List aB→Bool
 | []=>true
 | x::q=>rD nb kb x&&yT nb kb q
end
def okS (nb:aj→Bool) (kb:Int→Bool) (s:aF):Bool :=
 if s.kind=1 then true else if s.kind=2 then rD nb kb s.value else decide (s.kind=3)&&(rD nb kb s.value&&(rD nb kb s.target&&decide (s.target.kind=3∨s.target.kind=4)))
theorem Fb {nb:aj→Bool} {kb:Int→Bool}:∀{l:List aB},yT nb kb l=true→∀(j:Nat) (h:j<l.length),rD nb kb l[j]=true
 | x::q,h,0,_=>by rw [yT,Bool.and_eq_true] at h;exact h.1
 | x::q,h,j+1,hj=>by rw [yT,Bool.and_eq_true] at h;exact Fb h.2 j (by simpa using hj)
theorem bG.get' {w:aW} (h:bG w) (n:aj):bG (okO (jg w n)).2∧∀t,(okO (jg w n)).1=some t→t.size≤65536:=by
 obtain ⟨h1,h2⟩:=h.get n
 refine ⟨h1,fun t ht=>?_⟩
 unfold okO at ht
 dsimp only at ht
 split at ht
 ·cases ht;exact h2
 ·cases ht
theorem acV {w:aW} (h:bG w) (k:aj×aj):(lookA w.items k).size≤65536:=by
 by_cases h0:(lookA w.items k).size=0
 ·omega
 ·exact h.isz _ (xX h0)
theorem D9 {a:List aj} (h:∀t∈a,t.size≤65536) (i:Nat):(arg a i).size≤65536:=by
 unfold arg
 by_cases hi:i<a.length
 ·rw [List.getD_eq_getElem?_getD,List.getElem?_eq_getElem hi];exact h _ (List.getElem_mem hi)
 ·rw [List.getD_eq_getElem?_getD,List.getElem?_eq_none (by omega)];exact Nat.zero_le _
theorem acW {k:Int} {nm:aj} {a:List aj} (h:∀t∈a,t.size≤65536) {o:aj} (ho:su k nm a=some o):o.size≤65536:=by
 unfold su at ho
 split at ho
 ·exact Na ho
 split at ho
 ·exact Nb ho (D9 h)
 ·exact Na ho
mutual
theorem Gn {nb:aj→Bool} {kb:Int→Bool}:∀(x:aB) (w:aW),rD nb kb x=true→bG w→bG (iK x w).2∧∀t,(iK x w).1=some t→t.size≤65536
 | .mk k t n nm kids,w,hk,h=>by
  have ih:=Nc (nb:=nb) (kb:=kb) kids w
  rw [iK]
  rw [rD] at hk
  split
  ·rename_i e;rw [if_pos e] at hk;exact ⟨h,fun t ht=>by cases ht;exact of_decide_eq_true hk⟩
  rename_i e1;rw [if_neg e1] at hk
  split
  ·rename_i e;rw [if_pos e,Bool.and_eq_true] at hk;exact ⟨h,fun t ht=>by cases ht;have:=mX (of_decide_eq_true hk.2);omega⟩
  rename_i e2;rw [if_neg e2] at hk
  split
  ·exact h.get' nm
  rename_i e3;rw [if_neg e3,Bool.and_eq_true] at hk
  obtain ⟨i1,i2⟩:=ih hk.1 h
  split
  ·rename_i w1 he;rw [he] at i1;exact ⟨i1,fun t ht=>by cases ht⟩
  ·rename_i a w1 he
   rw [he] at i1 i2
   refine ⟨i1,fun t ht=>?_⟩
   dsimp only at ht
   split at ht
   ·cases ht;exact acV i1 _
   ·exact acW (i2 a rfl) ht
theorem Nc {nb:aj→Bool} {kb:Int→Bool}:∀(l:List aB) (w:aW),yT nb kb l=true→bG w→bG (jh l w).2∧∀a,(jh l w).1=some a→∀t∈a,t.size≤65536
 | [],w,_,h=>by rw [jh];exact ⟨h,fun a ha=>by cases ha;simp⟩
 | x::q,w,hk,h=>by
  rw [yT,Bool.and_eq_true] at hk
  obtain ⟨a1,a2⟩:=Gn x w hk.1 h
  rw [jh]
  split
  ·rename_i w1 he;rw [he] at a1;exact ⟨a1,fun a ha=>by cases ha⟩
  ·rename_i t w1 he
   rw [he] at a1 a2
   obtain ⟨b1,b2⟩:=Nc q w1 hk.2 a1
   split
   ·rename_i w2 h2;rw [h2] at b1;exact ⟨b1,fun a ha=>by cases ha⟩
   ·rename_i l w2 h2
    rw [h2] at b1 b2
    refine ⟨b1,fun a ha u hu=>?_⟩
    cases ha
    rcases List.mem_cons.1 hu with rfl|hu
    ·exact a2 _ rfl
    ·exact b2 l rfl u hu
end
theorem bG.write {w:aW} (h:bG w) (p:JQ) (t:aj):bG (zq w p t).2:=by
 unfold zq
 split
 ·exact h.put _ _
 ·exact h.set _ _
theorem ZO {nb:aj→Bool} {kb:Int→Bool} (x:aB) (w:aW) (hk:rD nb kb x=true) (hx:x.kind=3∨x.kind=4) (h:bG w):bG (nT x w).2:=by
 unfold nT
 split
 ·exact h
 ·rename_i e
  obtain ⟨k,t,n,nm,kids⟩:=x
  have hk4:k=4:=hx.resolve_left e
  subst hk4
  rw [rD,if_neg (by decide),if_neg (by decide),if_neg (by decide),Bool.and_eq_true] at hk
  obtain ⟨i1,_⟩:=Nc kids w hk.1 h
  dsimp only [aB.kids]
  split
  ·rename_i w1 he;rw [he] at i1;exact i1
  ·rename_i a w1 he;rw [he] at i1;exact i1
theorem abP {nb:aj→Bool} {kb:Int→Bool} (s:aF) (w:aW) (hk:okS nb kb s=true) (h:bG w):bG (l7 s w).2:=by
 unfold l7
 unfold okS at hk
 split
 ·rename_i e
  rw [if_neg (by omega),if_pos e] at hk
  exact (Gn s.value w hk h).1
 split
 ·rename_i e2 e
  rw [if_neg (by omega),if_neg e2,Bool.and_eq_true,Bool.and_eq_true,Bool.and_eq_true] at hk
  have h1:=ZO s.target w hk.2.2.1 (of_decide_eq_true hk.2.2.2) h
  split
  ·rename_i w1 he;rw [he] at h1;exact h1
  ·rename_i p w1 he
   rw [he] at h1
   obtain ⟨h2,_⟩:=Gn s.value w1 hk.2.1 h1
   split
   ·rename_i w2 he2;rw [he2] at h2;exact h2
   ·rename_i t w2 he2;rw [he2] at h2;exact h2.write p t
 ·exact h
theorem bG.tick {w:aW} (h:bG w):bG (tick w):={h with}
theorem abQ {nb:aj→Bool} {kb:Int→Bool} {l:List aF} (hl:∀s∈l,okS nb kb s=true):∀(n i:Nat) (w:aW),bG w→bG (jP l n i w)
 | 0,i,w,h=>by rw [jP];split<;>exact h.how _
 | n+1,i,w,h=>by
  rw [jP]
  split
  ·rename_i hi
   have h1:=abP (nb:=nb) (kb:=kb) l[i] (tick w) (hl _ (List.getElem_mem hi)) {h with}
   split
   ·exact h1
   ·exact abQ hl n _ _ h1
  ·exact h.how _
theorem bG.start {input:List aj} (h:∀t∈input,t.size≤65536):bG (qB input) :=
 ⟨⟨List.Pairwise.nil,fun p hp=>(by cases hp)⟩,⟨List.Pairwise.nil,fun p hp=>(by cases hp)⟩,rfl,Nat.zero_le _,rfl,Nat.zero_le _,fun p hp=>(by cases hp),fun p hp=>(by cases hp),fun p hp=>(by cases hp),h⟩
theorem TN (w:aW) (n:aj):(jg w n).2.steps=w.steps∧(jg w n).2.rules=w.rules:=by
 unfold jg;split
 ·exact ⟨rfl,rfl⟩
 split
 ·split<;>exact ⟨rfl,rfl⟩
 ·exact ⟨rfl,rfl⟩
theorem TP (w:aW) (n t:aj):(fU w n t).2.steps=w.steps∧(fU w n t).2.rules=w.rules:=by
 unfold fU wF
 split
 ·exact ⟨rfl,rfl⟩
 split
 ·split<;>exact ⟨rfl,rfl⟩
 split<;>exact ⟨rfl,rfl⟩
theorem TQ (w:aW) (k:aj×aj) (t:aj):(IZ w k t).2.steps=w.steps∧(IZ w k t).2.rules=w.rules:=by
 unfold IZ
 split
 ·exact ⟨rfl,rfl⟩
 split<;>exact ⟨rfl,rfl⟩
mutual
theorem BO:∀(x:aB) (w:aW),(iK x w).2.steps=w.steps∧(iK x w).2.rules=w.rules
 | .mk k t n nm kids,w=>by
  have ih:=zW kids w
  rw [iK]
  split
  ·exact ⟨rfl,rfl⟩
  split
  ·exact ⟨rfl,rfl⟩
  split
  ·exact TN w nm
  split
  ·rename_i w1 he;rw [he] at ih;exact ih
  ·rename_i a w1 he;rw [he] at ih;exact ih
theorem zW:∀(l:List aB) (w:aW),(jh l w).2.steps=w.steps∧(jh l w).2.rules=w.rules
 | [],w=>by rw [jh];exact ⟨rfl,rfl⟩
 | x::q,w=>by
  have h1:=BO x w
  rw [jh]
  split
  ·rename_i w1 he;rw [he] at h1;exact h1
  ·rename_i t w1 he
   rw [he] at h1
   have h2:=zW q w1
   split
   ·rename_i w2 h3;rw [h3] at h2;exact ⟨h2.1.trans h1.1,h2.2.trans h1.2⟩
   ·rename_i l w2 h3;rw [h3] at h2;exact ⟨h2.1.trans h1.1,h2.2.trans h1.2⟩
end
theorem Nh (w:aW) (p:JQ) (t:aj):(zq w p t).2.steps=w.steps∧(zq w p t).2.rules=w.rules:=by
 unfold zq
 split
 ·exact TQ _ _ _
 ·exact TP _ _ _
theorem V5 (s:aF) (w:aW):(l7 s w).2.steps=w.steps∧(l7 s w).2.rules=w.rules:=by
 unfold l7
 split
 ·exact BO _ _
 split
 ·have h0:(nT s.target w).2.steps=w.steps∧(nT s.target w).2.rules=w.rules:=by
   unfold nT
   split
   ·exact ⟨rfl,rfl⟩
   ·have:=zW s.target.kids w
    split
    ·rename_i w1 he;rw [he] at this;exact this
    ·rename_i a w1 he;rw [he] at this;exact this
  split
  ·rename_i w1 he;rw [he] at h0;exact h0
  ·rename_i p w1 he
   rw [he] at h0
   have h1:=BO s.value w1
   split
   ·rename_i w2 he2;rw [he2] at h1;exact ⟨h1.1.trans h0.1,h1.2.trans h0.2⟩
   ·rename_i t w2 he2
    rw [he2] at h1
    have h2:=Nh w2 p t
    exact ⟨h2.1.trans (h1.1.trans h0.1),h2.2.trans (h1.2.trans h0.2)⟩
 ·exact ⟨rfl,rfl⟩
def xY (a:List aj) (r:Option (List aj)×aW):Option (List aj)×aW:=(r.1.map (a ++ ·),r.2)
theorem V6 (r:Option (List aj)×aW):xY [] r=r:=by
 obtain ⟨o,w⟩:=r;cases o<;>rfl
theorem acX {l:List aB} {j:Nat} (h:j<l.length) {w w1:aW} (he:iK l[j] w=(none,w1)) (a:List aj):xY a (jh (l.drop j) w)=(none,w1):=by
 rw [List.drop_eq_getElem_cons h,jh,he];rfl
theorem ZP {l:List aB} {j:Nat} (h:j<l.length) {w w1:aW} {t:aj} (he:iK l[j] w=(some t,w1)) (a:List aj):xY a (jh (l.drop j) w)=xY (a++[t]) (jh (l.drop (j+1)) w1):=by
 rw [List.drop_eq_getElem_cons h,jh,he]
 dsimp only
 cases hq:jh (l.drop (j+1)) w1 with
 | mk o w2=>cases o with
  | none=>rfl
  | some q=>simp [xY]
theorem ZQ (l:List aB) (w:aW) (a:List aj):xY a (jh (l.drop l.length) w)=(some a,w):=by
 rw [List.drop_length,jh];simp [xY]
end Go.Proofs.YtodebjhalipefaaGreatDoor

namespace Go.Proofs.YtodebjhalipefaaGreatDoor
set_option linter.all false
open Go.RowKit
structure dG where
 N:Nat
 M:Nat
 O:Nat
 W:Nat
 R:Nat
 V:Nat
 I:Nat
 Ru:Nat
 H:Nat
 l:List aF
 al:Option Addr
 cl:Nat
 S:Nat→Prop
 T:Nat
 B1:Nat
 B2:Nat
 n1:Nat
 lim:Nat
 G:World→Prop
structure abR (F:dG):Prop where
 nO:F.N≤F.O∧F.O<F.M
 nW:F.N≤F.W∧F.W<F.M
 nR:F.N≤F.R∧F.R<F.M
 nV:F.N≤F.V∧F.V<F.M
 nI:F.N≤F.I∧F.I<F.M
 nH:F.N≤F.H∧F.H<F.M
 ne:F.O≠F.W∧F.O≠F.R∧F.O≠F.V∧F.O≠F.I∧F.O≠F.H∧F.W≠F.R∧F.W≠F.V∧F.W≠F.I∧F.W≠F.H∧F.R≠F.V∧F.R≠F.I∧F.R≠F.H∧F.V≠F.I∧F.V≠F.H∧F.I≠F.H
structure TR (F:dG) (w:World):Prop where
 low:F.N≤w.heap.size
 prog:mW w F.S F.al F.l
 hS:∀b,F.S b→b<F.N
 tab:qj w F.T F.B1 F.B2
 kP:eG w F.B1 F.n1 (jU F.l)
 tl:F.T<F.N∧F.B1<F.N
 g:F.G w
 gk:∀w w',Kept (fun b=>F.N≤b) w w'→F.G w→F.G w'
theorem TR.kept {F:dG} {w w':World} {X:Nat→Prop} (h:TR F w) (hk:Kept X w w') (hx:∀b,X b→F.N≤b):TR F w' :=
 ⟨Nat.le_trans h.low hk.size,h.prog.to hk (fun b hb=>⟨Nat.lt_of_lt_of_le (h.hS b hb) h.low,fun hb2=>by have:=hx b hb2;have:=h.hS b hb;omega⟩) (fun _ h=>h),h.hS,
  h.tab.kept hk (fun hb=>by have:=hx _ hb;have:=h.tl;omega),h.kP.kept hk (fun hb=>by have:=hx _ hb;have:=h.tl;omega),h.tl,h.gk _ _ (hk.more hx) h.g,h.gk⟩
def RX (F:dG) (ov:Value) (b:Nat):Prop:=b=F.O∨b=F.W∨b=F.V∨b=F.I∨b=F.H∨ov.ownBlock=some b
def Q5 (w:World) (B:Nat) (l:List ((aj×aj)×aj)):Prop:=l=[]∧w.heap[B]?=some (.map #[] 0)
theorem Q5.lt {w:World} {B:Nat} {l:List ((aj×aj)×aj)} (h:Q5 w B l):B<w.heap.size:=(Array.getElem?_eq_some_iff.1 h.2).1
theorem Q5.kept {w w':World} {B:Nat} {l:List ((aj×aj)×aj)} {X:Nat→Prop} (h:Q5 w B l) (hk:Kept X w w') (hx:¬X B):Q5 w' B l :=
 ⟨h.1,(hk.block B h.lt hx).trans h.2⟩
def Fe (F:dG) (ov:Value) (S:aW) (a:Option Addr) (c:Nat):List Value:=[.map (some F.V),.map (some F.I),.int .i64 S.bytes,.int .i64 S.told,ov,.slice a S.input.length c,.int .i64 S.how]
def Fg (F:dG) (S:aW):List Value:=[.pointer (some ⟨F.O,0,none⟩),.map (some F.Ru),.int .i64 S.steps,.int .i64 F.lim,.slice (some ⟨F.H,0,none⟩) F.l.length F.l.length]
def aib (F:dG):List Value:=[.pointer (some ⟨F.W,0,none⟩),.slice F.al F.l.length F.cl,.pointer (some ⟨F.T,0,none⟩),.int .i64 0]
structure aY (F:dG) (ov:Value) (S:aW) (w:World):Prop where
 oJ:TR F w
 fix:abR F
 sz:F.M≤w.heap.size
 run:dI F.R 80 (aib F) w
 BP:dI F.W 106 (Fg F S) w
 hits:∃hs:List Int,hs.length=F.l.length∧dI F.H 3 (hs.map (Value.int .i64)) w
 BQ:∃a c,dI F.O 113 (Fe F ov S a c) w∧aX w (· < F.N) a S.input∧S.input.length≤c
 out:aP w F.M 9 1 ov S.output.length (S.output.map Value.string)
 vars:iT w F.V S.vars none
 items:Q5 w F.I S.items
section
variable {F:dG} {ov:Value} {S:aW} {w w':World}
theorem aY.xlt (h:aY F ov S w) {b:Nat} (hb:RX F ov b):F.N≤b∧b<w.heap.size:=by
 have:=h.fix.nO;have:=h.fix.nW;have:=h.fix.nV;have:=h.fix.nI;have:=h.fix.nH;have:=h.sz
 rcases hb with rfl|rfl|rfl|rfl|rfl|hb
 ·omega
 ·omega
 ·omega
 ·omega
 ·omega
 ·have:=h.out.lt b hb;omega
theorem rE {w w':World} {X:Nat→Prop} {N:Nat} {a:Option Addr} {l:List aj} (h:aX w (· < N) a l) (hk:Kept X w w') (hl:N≤w.heap.size) (hx:∀b,X b→N≤b):aX w' (· < N) a l :=
 h.to hk (fun b hb=>⟨Nat.lt_of_lt_of_le hb hl,fun h=>by have:=hx b h;omega⟩) (fun _ h=>h)
theorem aY.kept {Y:Nat→Prop} (h:aY F ov S w) (hk:Kept Y w w') (hY:∀b,Y b→F.N≤b∧b≠F.R∧¬RX F ov b):aY F ov S w':=by
 have nx:∀b,RX F ov b→¬Y b:=fun b hb hy=>(hY b hy).2.2 hb
 obtain ⟨hs,h1,h2⟩:=h.hits
 obtain ⟨a,c,h3,h4,h5⟩:=h.BQ
 exact ⟨h.oJ.kept hk (fun b hb=>(hY b hb).1),h.fix,Nat.le_trans h.sz hk.size,h.run.kept hk (fun hb=>(hY _ hb).2.1 rfl),h.BP.kept hk (nx _ (.inr (.inl rfl))),
  ⟨hs,h1,h2.kept hk (nx _ (.inr (.inr (.inr (.inr (.inl rfl))))))⟩,⟨a,c,h3.kept hk (nx _ (.inl rfl)),rE h4 hk h.oJ.low (fun b hb=>(hY b hb).1),h5⟩,
  h.out.kept hk (fun b hb=>nx _ (.inr (.inr (.inr (.inr (.inr hb)))))),h.vars.kept hk (nx _ (.inr (.inr (.inl rfl)))),h.items.kept hk (nx _ (.inr (.inr (.inr (.inl rfl)))))⟩
theorem aY.quiet (h:aY F ov S w) (hk:Kept aA w w'):aY F ov S w':=h.kept hk fun _ h=>h.elim
structure bf (F:dG) (ov:Value) (w:World) (qC:Value) (S':aW) (w':World):Prop where
 at_:aY F qC S' w'
 kept:Kept (RX F ov) w w'
 grow:∀b,RX F qC b→RX F ov b∨w.heap.size≤b
theorem bf.refl (h:aY F ov S w):bf F ov w ov S w:=⟨h,Kept.refl _ _,fun _ h=>.inl h⟩
theorem bf.trans {dU kW:Value} {S1 S2:aW} {w1 w2:World} (h:bf F ov w dU S1 w1) (k:bf F dU w1 kW S2 w2):bf F ov w kW S2 w2 :=
 ⟨k.at_,h.kept.step k.kept h.grow,fun b hb=>(k.grow b hb).elim (h.grow b) (fun h2=>.inr (Nat.le_trans h.kept.size h2))⟩
theorem bf.after {dU:Value} {S1:aW} {w0 w1:World} (k0:Kept aA w0 w) (h:bf F ov w dU S1 w1):bf F ov w0 dU S1 w1 :=
 ⟨h.at_,(k0.more (fun _ h=>h.elim)).trans h.kept,fun b hb=>(h.grow b hb).imp id (fun h2=>Nat.le_trans k0.size h2)⟩
theorem bf.quiet {dU:Value} {S1:aW} {w1 w2:World} (h:bf F ov w dU S1 w1) (k:Kept aA w1 w2):bf F ov w dU S1 w2 :=
 ⟨h.at_.quiet k,h.kept.quiet k,h.grow⟩
theorem bf.local {dU:Value} {S1:aW} {w1 w2:World} {Y:Nat→Prop} (h:bf F ov w dU S1 w1) (k:Kept Y w1 w2) (hw:aY F ov S w) (hY:∀b,Y b→w.heap.size≤b∧¬RX F dU b):bf F ov w dU S1 w2 :=
 ⟨h.at_.kept k (fun b hb=>⟨Nat.le_trans hw.oJ.low (hY b hb).1,fun e=>by have:=hw.run.lt;have:=(hY b hb).1;omega,(hY b hb).2⟩),h.kept.step k (fun b hb=>.inr (hY b hb).1),h.grow⟩
theorem bf.mine {dU:Value} {S1:aW} {w1:World} (h:bf F ov w dU S1 w1) {b:Nat} (hb:b<w.heap.size) (hx:¬RX F ov b):¬RX F dU b:=fun hc=>(h.grow b hc).elim hx (fun h2=>by omega)
theorem aY.mine (h:aY F ov S w) {b:Nat} (hb:w.heap.size≤b):¬RX F ov b:=fun hc=>by have:=(h.xlt hc).2;omega
theorem aY.TT {i:Nat} {v:Value} {S':aW} {a':Option Addr} {c':Nat} (h:aY F ov S w) (ho:∃a c,(dI F.O 113 (Fe F ov S a c) w∧aX w (· < F.N) a S.input∧S.input.length≤c)∧(Fe F ov S a c).set i v=Fe F ov S' a' c')
  (hin:aX w (· < F.N) a' S'.input) (hc:S'.input.length≤c') (e1:S'.steps=S.steps) (e2:S'.output=S.output) (e3:S'.vars=S.vars) (e4:S'.items=S.items) :
  bf F ov w ov S' (w.setCell ⟨F.O,i,none⟩ v):=by
 have k:Kept (· = F.O) w (w.setCell ⟨F.O,i,none⟩ v):=(Kept.refl (· = F.O) w).setCell (p:=⟨F.O,i,none⟩) (.inl rfl) _
 obtain ⟨n1,n2,n3,n4,n5,-⟩:=h.fix.ne
 obtain ⟨hs,h1,h2⟩:=h.hits
 obtain ⟨a,c,⟨h3,h4,h5⟩,hset⟩:=ho
 have hO:F.N≤F.O:=h.fix.nO.1
 have hw:Fg F S'=Fg F S:=by unfold Fg;rw [e1]
 refine ⟨⟨h.oJ.kept k (fun b hb=>by have:b=F.O:=hb;omega),h.fix,Nat.le_trans h.sz k.size,h.run.kept k (fun e=>n2 e.symm),by rw [hw];exact h.BP.kept k (fun e=>n1 e.symm),
  ⟨hs,h1,h2.kept k (fun e=>n5 e.symm)⟩,⟨a',c',by rw [←hset];exact h3.set i v,rE hin k h.oJ.low (fun b hb=>by have:b=F.O:=hb;omega),hc⟩,
  ?_,by rw [e3];exact h.vars.kept k (fun e=>n3 e.symm),by rw [e4];exact h.items.kept k (fun e=>n4 e.symm)⟩,k.more (fun _ h=>.inl h),fun _ h=>.inl h⟩
 rw [e2]
 exact h.out.kept k (fun b hb e=>by have e:b=F.O:=e;have:=h.out.lt b hb;have:=h.fix.nO;omega)
theorem aY.Gp (h:aY F ov S w) (n:Int):bf F ov w ov {S with how:=n} (w.setCell ⟨F.O,6,none⟩ (.int .i64 n)):=by
 obtain ⟨a,c,h3,h4,h5⟩:=h.BQ
 exact h.TT (S':={S with how:=n}) ⟨a,c,⟨h3,h4,h5⟩,rfl⟩ h4 h5 rfl rfl rfl rfl
theorem aY.setBytes (h:aY F ov S w) (n:Nat):bf F ov w ov {S with bytes:=n} (w.setCell ⟨F.O,2,none⟩ (.int .i64 n)):=by
 obtain ⟨a,c,h3,h4,h5⟩:=h.BQ
 exact h.TT (S':={S with bytes:=n}) ⟨a,c,⟨h3,h4,h5⟩,rfl⟩ h4 h5 rfl rfl rfl rfl
theorem aY.acY (h:aY F ov S w) (n:Nat):bf F ov w ov {S with told:=n} (w.setCell ⟨F.O,3,none⟩ (.int .i64 n)):=by
 obtain ⟨a,c,h3,h4,h5⟩:=h.BQ
 exact h.TT (S':={S with told:=n}) ⟨a,c,⟨h3,h4,h5⟩,rfl⟩ h4 h5 rfl rfl rfl rfl
theorem aY.kX (h:aY F ov S w):∃a c,w.cell? ⟨F.O,0,none⟩=some (.map (some F.V))∧w.cell? ⟨F.O,1,none⟩=some (.map (some F.I))∧w.cell? ⟨F.O,2,none⟩=some (.int .i64 S.bytes)∧w.cell? ⟨F.O,3,none⟩=some (.int .i64 S.told)∧w.cell? ⟨F.O,4,none⟩=some ov∧
  w.cell? ⟨F.O,5,none⟩=some (.slice a S.input.length c)∧w.cell? ⟨F.O,6,none⟩=some (.int .i64 S.how)∧(∀i,w.frozen? ⟨F.O,i,none⟩=false)∧aX w (· < F.N) a S.input∧S.input.length≤c:=by
 obtain ⟨a,c,h3,h4,h5⟩:=h.BQ
 exact ⟨a,c,h3.cell rfl,h3.cell rfl,h3.cell rfl,h3.cell rfl,h3.cell rfl,h3.cell rfl,h3.cell rfl,fun i=>h3.free i,h4,h5⟩
theorem aY.oW (h:aY F ov S w):w.cell? ⟨F.W,0,none⟩=some (.pointer (some ⟨F.O,0,none⟩))∧w.cell? ⟨F.W,2,none⟩=some (.int .i64 S.steps)∧w.cell? ⟨F.W,3,none⟩=some (.int .i64 F.lim)∧w.cell? ⟨F.W,4,none⟩=some (.slice (some ⟨F.H,0,none⟩) F.l.length F.l.length)∧∀i,w.frozen? ⟨F.W,i,none⟩=false :=
 ⟨h.BP.cell rfl,h.BP.cell rfl,h.BP.cell rfl,h.BP.cell rfl,fun i=>h.BP.free i⟩
theorem aY.wW (h:aY F ov S w):w.cell? ⟨F.R,0,none⟩=some (.pointer (some ⟨F.W,0,none⟩))∧w.cell? ⟨F.R,1,none⟩=some (.slice F.al F.l.length F.cl)∧w.cell? ⟨F.R,2,none⟩=some (.pointer (some ⟨F.T,0,none⟩))∧w.cell? ⟨F.R,3,none⟩=some (.int .i64 0) :=
 ⟨h.run.cell rfl,h.run.cell rfl,h.run.cell rfl,h.run.cell rfl⟩
def Nj (F:dG) (ov:Value) (w:World) (r:(aj×Bool)×aW) (e:Ending) (w':World):Prop:=e=.returned (.tuple #[.string r.1.1,.bool r.1.2])∧∃qC,bf F ov w qC r.2 w'
def sG (F:dG) (ov:Value) (w:World) (r:Bool×aW) (e:Ending) (w':World):Prop:=e=.returned (.bool r.1)∧∃qC,bf F ov w qC r.2 w'
end
end Go.Proofs.YtodebjhalipefaaGreatDoor
