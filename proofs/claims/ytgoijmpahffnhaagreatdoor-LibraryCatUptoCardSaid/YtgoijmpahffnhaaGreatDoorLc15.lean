/-  -/
import Derived.Test.YtgoijmpahffnhaaGreatDoorLc9
import Derived.Test.YtgoijmpahffnhaaGreatDoorEx3
import Derived.Test.YtgoijmpahffnhaaGreatDoorLc14
import Derived.BigQuiet
import Derived.Test.YtgoijmpahffnhaaGreatDoorLc19
import Derived.Test.YtgoijmpahffnhaaGreatDoorWin
import Derived.Test.YtgoijmpahffnhaaGreatDoorBase
import Derived.Maps.Own
import Derived.Maps.OwnOps
import Derived.Maps.OwnSet
import Derived.Maps.Views
import Derived.Deep.AppendSrc
import Derived.Deep.AppendLies
import Derived.Test.YtgoijmpahffnhaaGreatDoorLc6
import Derived.Test.YtgoijmpahffnhaaGreatDoorShelf
import Derived.WalkSmall
import Derived.Lib.LaidTab
import Derived.WalkLawsBesides
import Derived.Lib.ItoaNum
import Derived.Lib.Replace
import Derived.Lib.SplitLaws
import Derived.Shelf.Strings.BuilderK
import Derived.Test.YtgoijmpahffnhaaGreatDoorRows
import Derived.Test.YtgoijmpahffnhaaGreatDoorLc1
import Derived.Deep.Slices
import Derived.ProofKit
import Derived.OpenShut
namespace Go.Proofs.YtgoijmpahffnhaaGreatDoor
set_option linter.all false
open Go.RowKit
set_option maxRecDepth 100000
set_option maxHeartbeats 1000000
theorem Qv (l:List aj) (j:Nat) (h:j<l.length):aN (l.drop j)=if gW l[j]=true then aN (l.drop (j+1)) else 7:=by
 rw [List.drop_eq_getElem_cons h,aN]
theorem yF {w:World} {b:Nat} {l:List aj} {t:TypeId} {fr:Nat×Nat} (h:w.heap[b]?=some (.cells (l.map Value.string).toArray t fr)) {S:Nat→Prop} (hS:S b):bU w S (some ⟨b,0,none⟩) l:=by
 intro _
 refine ⟨b,0,rfl,hS,fun i hi=>?_⟩
 rw [cell_of_row w b (0+i) _ t fr h];simp [hi]
theorem uV (l:List aj) (a:Option Addr) (cap:Nat) (S:Nat→Prop) (w:World) (hl:bU w S a l) (hz:l.length<1000000000∧∀x∈l,x.size<1000000000) :
  Calls Tryz.prog 96 #[.slice a l.length cap] w fun e w'=>e=.returned (.int .i64 (aN l))∧w'=w:=by
 have HL:=ah hl;have HZ:=ah hz.2
 have hzl:=hz.1
 clear hl hz
 go_enter Tryz.func96, Tryz.ntmps96
 go_wp2_with fail
 go_loop [7] (fun i=>∃j:Nat,j≤l.length∧i=.int .i64 j∧Hid (aN l=aN (l.drop j))) (fun i=>l.length-(intOf i).toNat)
 case atStart=>exact ⟨0,Nat.zero_le _,rfl,by unfold Hid;rw [List.drop_zero]⟩
 case round =>
  obtain ⟨j,hj,rfl,hno⟩:=hrel
  by_cases hlt:j<l.length
  ·obtain ⟨b,o,rfl,_,hc⟩:=HL.out (by omega)
   have hcj:=hc j hlt
   have hn:(l[j]).size≤maxLen:=by have:=HZ.out l[j] (List.getElem_mem hlt);unfold maxLen;omega
   have hd:=Qv l j hlt
   clear hc
   cases hb:gW l[j] with
   | true =>
    rw [if_pos hb] at hd
    have step:=ah (hno.out.trans hd)
    have HB:=ah hb
    clear hd hb
    go_wp2_with (go_at_call 93;(with_reducible refine (tC _ _ hn).mono ?_);rintro e w' ⟨rfl,rfl⟩;rw [HB.out])
    go_round
    case rel=>exact ⟨j+1,by omega,by go_num,step⟩
    case measure=>simp [intOf];omega
   | false =>
    rw [if_neg (by simp [hb])] at hd
    have fin:=ah (hno.out.trans hd)
    have HB:=ah hb
    clear hd hb
    go_wp2_with (go_at_call 93;(with_reducible refine (tC _ _ hn).mono ?_);rintro e w' ⟨rfl,rfl⟩;rw [HB.out])
    go_ret
    exact ⟨by rw [fin.out];try rfl,rfl⟩
  ·obtain rfl:j=l.length:=by omega
   have fin:Hid (aN l=0):=by unfold Hid;rw [hno.out,List.drop_length,aN]
   go_wp2_with fail
   go_ret
   exact ⟨by rw [fin.out];try rfl,rfl⟩
theorem Ir (p:aA) (v:Value) (S:Nat→Prop) (w:World) (hp:kP w S v p):Calls Tryz.prog 91 #[v] w (Aw (decide (isTarget p)) w):=by
 obtain ⟨ka,cap,rfl,hz,hk⟩:=hp
 by_cases h:isTarget p
 ·have hb:Hid (decide (isTarget p)=true):=ak h
  have h':=h;unfold isTarget at h'
  rcases h' with h'|h'|h'
  all_goals
   rw [h']
   clear h
   go_enter Tryz.func91, Tryz.ntmps91
   go_wp2_with fail
   go_ret
   exact ⟨by rw [hb.out];try rfl,(Kept.refl _ _).alloc _⟩
 ·have hb:Hid (decide (isTarget p)=false):=au h
  have h':=h;unfold isTarget at h'
  have e1:(p.kind==3)=false:=by simp;omega
  have e2:(p.kind==4)=false:=by simp;omega
  have e3:(p.kind==5)=false:=by simp;omega
  clear h h'
  go_enter Tryz.func91, Tryz.ntmps91
  go_wp2_with fail
  go_ret
  exact ⟨by rw [hb.out];try rfl,(Kept.refl _ _).alloc _⟩
end Go.Proofs.YtgoijmpahffnhaaGreatDoor

namespace Go.Proofs.YtgoijmpahffnhaaGreatDoor
set_option linter.all false
open Go.RowKit
theorem zO:(Tryz.prog.info? 9).map (fun i=>(i.zero,i.size,i.bytes))=some (some (.string ⟨#[]⟩),1,16):=by kernel_rfl
theorem Fp {w:World} {S:Nat→Prop} {a:Option Addr} {l:List aj} (h:bU w S a l) (c:Nat):Src Tryz.prog 1 22 (.slice a l.length c) l.length (l.map Value.string) w:=by
 cases a with
 | none =>
  have:l=[]:=by
   cases l with
   | nil=>rfl
   | cons x r=>obtain ⟨b,o,e,_⟩:=h (by simp);cases e
  subst this
  exact Src.ofNil _ Tryz.underlying22 _
 | some ad =>
  refine Src.ofSlice _ Tryz.underlying22 _ _ _ _ (by simp) (fun j u hu=>?_) (by intro u hu;obtain ⟨e,_,rfl⟩:=List.mem_map.1 hu;rfl)
  rw [List.getElem?_map] at hu
  cases hj:l[j]? with
  | none=>rw [hj] at hu;cases hu
  | some y =>
   rw [hj] at hu
   obtain ⟨hlt,hy⟩:=List.getElem?_eq_some_iff.1 hj
   obtain ⟨b,o,e,_,hc⟩:=h (by omega)
   simp only [Option.some.injEq] at e
   subst e
   have e1:(⟨b,o,none⟩:Addr).add j=⟨b,o+j,none⟩:=by unfold Addr.add;split<;>simp_all
   rw [e1,hc j hlt,hy];exact hu
theorem ab9 {w:World} {g:Nat} {x:aj} (hg:w.heap[g]?=some (.cells #[.string x] 9 (0,0))):Src Tryz.prog 1 22 (.slice (some ⟨g,0,none⟩) 1 1) 1 [.string x] w :=
 Fp (l:=[x]) (yF hg (S:=fun _=>True) trivial) 1
def Ch (w:World) (B n:Nat) (xs:List Value) (u:Value):Prop:=∃a c,u=.slice a n c∧aS w B 9 1 (.slice a n c) n xs
section
variable {B n1 n2 n3:Nat} {xs1 xs2 xs3:List Value} {e:aj} {b0 b3 b6 b9 b10:Bool} {u0 u3 u6 u9 u10:Value} {w w':World}
end
theorem ab8 {J:(Nat→Bool)→(Nat→Value)→World→Prop} {X:Nat→Prop} {l:Nat→Bool} {i:Nat} {o:Oper} {x:Act} {w:World} {R:Nat→Value→World→Prop} {Q:Exit→Act→World→Prop} (s y:Operand)
  (ho:o.op=.call {callee:=.builtin .append,args:=#[s,y],argTypes:=#[22,22]})
  {B n:Nat} {xs:List Value} {v:Value} (hs:x.eval s=v) (hown:Ch w B n xs v) (yv:Value) (m:Nat) (news:List Value) (hy:x.eval y=yv) (hsrc:Src Tryz.prog 1 22 yv m news w)
  (hn:n+m≤4000000000) (hB:B≤w.heap.size) (hX:∀k,B≤k→X k) (hR:∀v w',R i v w')
  (h:∀v' w',Ch w' B (n+m) (xs++news) v'→w.grownBy w' v.ownBlock→(v'.ownBlock=v.ownBlock∨v'.ownBlock=some w.heap.size)→∀l',(∀j,l' j=true↔j=i∨l j=true)→J l' (fun t=>(x.put o.dst v').tmps.getD t undef) w') :
  o.wp Tryz.prog x w (fun a' w'=>∃v,a'=x.put o.dst v∧(∀d,o.dst=some d→R i v w')∧Kept X w w'∧∀l',(∀j,l' j=true↔j=i∨l j=true)→J l' (fun t=>(x.put o.dst v).tmps.getD t undef) w') Q:=by
 obtain ⟨i0,hi0,hz0,hz1,hz2⟩:=info_parts zO
 obtain ⟨a,c,rfl,hW⟩:=hown
 refine sK w s y _ _ ho B 9 i0 (.string ⟨#[]⟩) 1 16 Tryz.underlying22 hi0 hz0 hz1 hz2 rfl (.slice a n c) n xs hs hW yv m news hy hsrc (by unfold maxLen;omega) (by omega) hB ?_
 intro a' c' w' hW' hgr hoo
 exact ⟨_,rfl,fun _ _=>hR _ _,(Kept.refl X w).grown hgr fun k hk=>.inl (hX k (hW.lt k hk).1),h _ _ ⟨a',c',rfl,hW'⟩ hgr hoo⟩
end Go.Proofs.YtgoijmpahffnhaaGreatDoor

namespace Go.Proofs.YtgoijmpahffnhaaGreatDoor
set_option linter.all false
open Go.RowKit
set_option maxRecDepth 100000
theorem MN {w:World} {b o:Nat} {sa:iM} {s:aG} (hc:∀i (h:i<24),w.cell? ⟨b,o+i,none⟩=some ((bV sa s)[i]'(by simpa [bV] using h))) :
  (Instr.loadAt 59 (.pointer (some ⟨b,o,none⟩))).run Tryz.prog w=.ok (dY sa s) w:=by
 have h1:=run_loadCells_list (P:=Tryz.prog) w ⟨b,o,none⟩ (bV sa s) (fun j v hv=>by
  obtain ⟨hlt,rfl⟩:=List.getElem?_eq_some_iff.1 hv
  have e1:(⟨b,o,none⟩:Addr).add j=⟨b,o+j,none⟩:=by unfold Addr.add;split<;>simp_all
  rw [e1];exact hc j (by simpa [bV] using hlt))
 have hag:(isAgg 59).run Tryz.prog w=.ok true w:=by kernel_rfl
 have hsz:(sizeOf 59).run Tryz.prog w=.ok 24 w:=by kernel_rfl
 have hlen:(bV sa s).length=24:=rfl
 rw [hlen] at h1
 unfold Instr.loadAt loadVar
 simp only [Instr.sureAddr,Sem.run_bind,Sem.run_pure,Result.andThen_ok,hag,hsz,h1,if_true]
 rfl
theorem QD {w:World} {g:Nat} {old:Array Value} {sa:iM} {s:aG} (hg:w.heap[g]?=some (.cells old 59 (0,0))) (ho:old.size=24) :
  ∃w',(Instr.storeAt 59 (.pointer (some ⟨g,0,none⟩)) (dY sa s)).run Tryz.prog w=.ok () w'∧bZ g sa s w'∧Kept (· = g) w w':=by
 have h:=run_storeVar_row (P:=Tryz.prog) w g 59 59 old (bV sa s).toArray hg (by kernel_rfl) (by rw [ho];rfl) (by simp [bV,Value.oneCell'])
 refine ⟨_,h,?_,?_⟩
 ·exact setRow_heap w g old _ _ _ hg
 ·exact ⟨rfl,rfl,rfl,by simp,fun k _ hx=>setRow_other w g k _ hx⟩
theorem lg {ops:Array Oper} {rest:List Oper} {o:Oper} {a:Act} {Q:Exit→Act→World→Prop} {w:World} (hgd:o.guard=none) (p:Operand) (ho:o.op=.load 59 p)
  (b of:Nat) (hp:a.eval p=.pointer (some ⟨b,of,none⟩)) (sa:iM) (s:aG) (hc:∀i (h:i<24),w.cell? ⟨b,of+i,none⟩=some ((bV sa s)[i]'(by simpa [bV] using h)))
  (h:wpList Tryz.prog ops Q rest (a.put o.dst (dY sa s)) w):wpList Tryz.prog ops Q (o::rest) a w:=by
 refine wpList_plain hgd fun K hK=>?_
 have hr:(execOp a.eval o).run Tryz.prog w=.ok (.value (dY sa s)) w:=by
  unfold execOp
  rw [ho]
  simp only [hp,Sem.run_bind,MN hc,Result.andThen_ok,Sem.run_pure]
 unfold Oper.wp
 rw [hr]
 exact hK _ _ h
theorem iZ {ops:Array Oper} {rest:List Oper} {o:Oper} {a:Act} {Q:Exit→Act→World→Prop} {w:World} (hgd:o.guard=none) (p x:Operand) (ho:o.op=.store 59 p x)
  (g:Nat) (hp:a.eval p=.pointer (some ⟨g,0,none⟩)) (sa:iM) (s:aG) (hx:a.eval x=dY sa s) (old:Array Value) (hg:w.heap[g]?=some (.cells old 59 (0,0))) (hold:old.size=24)
  (h:∀w',bZ g sa s w'→Kept (· = g) w w'→wpList Tryz.prog ops Q rest (a.put o.dst undef) w'):wpList Tryz.prog ops Q (o::rest) a w:=by
 refine wpList_plain hgd fun K hK=>?_
 obtain ⟨w',hr,hB,hk⟩:=QD (sa:=sa) (s:=s) hg hold
 have hr2:(execOp a.eval o).run Tryz.prog w=.ok .skip w':=by
  unfold execOp
  rw [ho]
  simp only [hp,hx,Sem.run_bind,hr,Result.andThen_ok,Sem.run_pure]
 unfold Oper.wp
 rw [hr2]
 exact hK _ _ (h w' hB hk)
end Go.Proofs.YtgoijmpahffnhaaGreatDoor

namespace Go.Proofs.YtgoijmpahffnhaaGreatDoor
set_option linter.all false
open Go.RowKit
section
variable {B n0 n1 n2:Nat} {xs0 xs1 xs2:List Value} {u0 u1 u2:Value} {w w':World}
theorem Ch.row {l:List Value} (hB:B≤w.heap.size) (hl:∀u∈l,True) (hz:l.length≤1000):Ch (w.alloc (.cells l.toArray 9)) B l.length l (.slice (some ⟨w.heap.size,0,none⟩) l.length l.length) :=
 ⟨_,_,rfl,by simp,.inr ⟨w.heap.size,0,l.length,l.toArray,rfl,hB,ay w _,Nat.le_refl _,by unfold maxLen;omega,by simp,by simp⟩⟩
end
end Go.Proofs.YtgoijmpahffnhaaGreatDoor

namespace Go.Proofs.YtgoijmpahffnhaaGreatDoor
set_option linter.all false
open Go.RowKit Go.Maps Go.WideMaps
theorem rO:Keyed Tryz.prog 9:=string_keyed Tryz.underlying9
theorem IQ (w:World):(zeroValue 3).run Tryz.prog w=.ok (.int .i64 0) w:=by kernel_rfl
def fJ (w:World) (B n:Nat) (m:aj→Option Int):Prop :=
 ∃D:DataW Unit,w.ownsMap Tryz.prog 9 (plainElem Tryz.prog 3) B n D∧IsMap D∧
  ∀s:aj,Maps.has D (.string s.data.toList)=(m s).isSome∧∀z,D.atKey (.string s.data.toList) z=match m s with|some c=>.lit (.int .i64 c)|none=>z
theorem fJ.made (w:World):fJ (w.alloc (.map #[] 0)) w.heap.size 0 (fun _=>none) :=
 ⟨.map [],World.ownsMap_made w _ _ _,⟨[],rfl⟩,fun s=>⟨rfl,fun z=>rfl⟩⟩
theorem fJ.lt {w:World} {B n:Nat} {m:aj→Option Int} (h:fJ w B n m):B<w.heap.size:=by
 obtain ⟨D,h,_⟩:=h;exact h.lt
theorem fJ.kept {w w':World} {B n:Nat} {m:aj→Option Int} {X:Nat→Prop} (h:fJ w B n m) (hk:Kept X w w') (hx:¬X B):fJ w' B n m:=by
 have hlt:=h.lt
 obtain ⟨D,⟨es,clock,hb,F,hs,hD⟩,h2⟩:=h
 exact ⟨D,⟨es,clock,(hk.block B hlt hx).trans hb,F,hs,hD⟩,h2⟩
theorem nD {s t:aj} (h:s≠t):(Lit.string s.data.toList)≠.string t.data.toList:=by
 intro e
 simp only [Lit.string.injEq] at e
 apply h
 obtain ⟨x⟩:=s;obtain ⟨y⟩:=t
 have:x=y:=Array.toList_inj.1 e
 rw [this]
def lZ (m:aj→Option Int) (k:aj) (c:Int):aj→Option Int:=fun s=>if s=k then some c else m s
theorem fJ.look {w:World} {B n:Nat} {m:aj→Option Int} (h:fJ w B n m) (s:aj) (hs:s.size≤maxLen) :
  (Instr.lookup 98 (.map (some B)) (.string s) false).run Tryz.prog w=.ok (.int .i64 ((m s).getD 0)) w:=by
 obtain ⟨D,hown,hmap,hD⟩:=h
 obtain ⟨c,hrun,hat,_⟩:=hown.lookup_int rO Tryz.underlying98 Tryz.underlying3 (IQ w) (keyOf_string_mk Tryz.underlying9 hs)
 obtain ⟨h1,h2⟩:=hD s
 rw [h2] at hat
 rw [hrun]
 cases hms:m s with
 | none=>rw [hms] at hat;simp only [DataW.lit.injEq,Lit.int.injEq,true_and] at hat;subst hat;rfl
 | some d=>rw [hms] at hat;simp only [DataW.lit.injEq,Lit.int.injEq,true_and] at hat;subst hat;rfl
end Go.Proofs.YtgoijmpahffnhaaGreatDoor

namespace Go.Proofs.YtgoijmpahffnhaaGreatDoor
set_option linter.all false
open Go.RowKit
def dO (b:Nat) (t:TypeId) (vs:List Value) (w:World):Prop:=w.heap[b]?=some (.cells vs.toArray t (0,0))
section
variable {b:Nat} {t:TypeId} {vs:List Value} {w w':World}
theorem dO.lt (h:dO b t vs w):b<w.heap.size:=(Array.getElem?_eq_some_iff.1 h).1
theorem dO.kept {X:Nat→Prop} (h:dO b t vs w) (hk:Kept X w w') (hx:¬X b):dO b t vs w':=by
 unfold dO;rw [hk.block b h.lt hx];exact h
theorem dO.cell (h:dO b t vs w) {i:Nat} {v:Value} (hv:vs[i]?=some v):w.cell? ⟨b,i,none⟩=some v:=by
 unfold dO at h
 rw [cell_of_row w b _ _ _ _ h,←hv];simp
theorem dO.free (h:dO b t vs w) (i:Nat):w.frozen? ⟨b,i,none⟩=false:=by unfold dO at h;simp [World.frozen?,h]
theorem dO.set (h:dO b t vs w) (i:Nat) (v:Value):dO b t (vs.set i v) (w.setCell ⟨b,i,none⟩ v):=by
 unfold dO at *
 simp [World.setCell,Array.getElem?_modify,h]
theorem dO.new (w:World) (t:TypeId) (vs:List Value):dO w.heap.size t vs (w.alloc (.cells vs.toArray t)):=ay w _
end
theorem IL {t e:TypeId} {w:World} {g:Nat} {vs:List Value} {n:Nat} (ht:Tryz.prog.underlying t=some (.slice e)) (size:Nat) (hl:vs.length=n*size) (h:w.heap[g]?=some (.cells vs.toArray e (0,0))) (h1:∀u∈vs,u.oneCell'=true) :
  Src Tryz.prog size t (.slice (some ⟨g,0,none⟩) n n) n vs w :=
 Src.ofSlice w ht _ _ _ _ hl (World.news_of_block (by simpa using h)) h1
end Go.Proofs.YtgoijmpahffnhaaGreatDoor

namespace Go.Proofs.YtgoijmpahffnhaaGreatDoor
set_option linter.all false
open Go.RowKit
theorem Kept.of_below {w w':World} (h:Below w.heap.size w w'):Kept aB w w':=⟨h.os,h.tape,h.output,h.size,fun k hk _=>h.block k hk⟩
def aha (l:List UInt8) (w:World) (e:Ending) (w':World):Prop:=e=.returned (.string ⟨l.toArray⟩)∧Kept aB w w'
end Go.Proofs.YtgoijmpahffnhaaGreatDoor

namespace Go.Proofs.YtgoijmpahffnhaaGreatDoor
set_option linter.all false
open Go.RowKit Go.Deep
theorem Qp {H:Type} (d:DataW H):1≤Rows.uptoBulk d:=by
 cases d with
 | lit l=>cases l<;>simp [Rows.uptoBulk]
 | nil=>simp [Rows.uptoBulk]
 | ptr d=>simp [Rows.uptoBulk]
 | slice elems spare=>simp [Rows.uptoBulk]
 | agg parts=>simp [Rows.uptoBulk]
 | iface t d=>simp [Rows.uptoBulk]
 | map entries=>simp [Rows.uptoBulk]
 | held h=>simp [Rows.uptoBulk]
theorem Qo {H:Type} (s:aj):Rows.uptoBulk (DataW.lit (H:=H) (.string s.data.toList))=s.size+1:=by
 simp only [Rows.uptoBulk];rfl
theorem Ag {H:Type}:∀(l:List (DataW H)),l.length≤Rows.uptoBulkAll l
 | []=>by simp [Rows.uptoBulkAll]
 | x::r=>by have:=Qp x;have:=Ag r;simp only [Rows.uptoBulkAll,List.length_cons];omega
section
variable {H:Type} {enc:TypeId×Value→H} {w:World} {spare:Nat→Bool} {held:Bool}
theorem cells_lt {a:Addr} {v:Value} (h:w.cell? a=some v):a.block<w.heap.size:=by
 unfold World.cell? at h
 cases hb:w.heap[a.block]? with
 | none=>rw [hb] at h;simp at h
 | some o=>exact (Array.getElem?_eq_some_iff.1 hb).1
theorem Ii (f:Nat→Nat):∀(l:List Nat) (i:Nat),i∈l→f i≤(l.map f).sum
 | [],i,h=>by simp at h
 | j::r,i,h=>by
  rw [List.map_cons,List.sum_cons]
  rcases List.mem_cons.1 h with rfl|h
  ·omega
  ·have:=Ii f r i h;omega
theorem OW (D:Nat→DataW H):∀(l:List Nat),(l.map fun i=>Rows.uptoBulk (D i)).sum=Rows.uptoBulkAll (l.map D)
 | []=>by simp [Rows.uptoBulkAll]
 | i::r=>by simp only [List.map_cons,List.sum_cons,Rows.uptoBulkAll,OW D r]
end
end Go.Proofs.YtgoijmpahffnhaaGreatDoor
