/-  -/
import Derived.Test.YtgoijmpahffnhaaGreatDoorLq21
import Derived.Test.YtgoijmpahffnhaaGreatDoorLq5
import Derived.Test.YtgoijmpahffnhaaGreatDoorLq12
import Derived.Test.YtgoijmpahffnhaaGreatDoorLq9
import Derived.Shelf.SlicesE.Reverse
import Derived.Deep.LoopGhost
import Derived.Test.YtgoijmpahffnhaaGreatDoorLq1
import Derived.Test.YtgoijmpahffnhaaGreatDoorLq18
import Derived.Shelf.Strconv.Itoa4
namespace Go.Proofs.YtgoijmpahffnhaaGreatDoor
set_option linter.all false
open Go.RowKit
def Dx:aB:=.mk 0 ⟨#[]⟩ 0 ⟨#[]⟩ []
def qF:aj:=⟨#[76,79,79,80]⟩
theorem YA:gW≠dA:=by decide
theorem OA:dA≠gW:=by decide
theorem EO (w:aU):okO (iK w gW)=match w.input with
  | []=>(none,w)
  | t::r=>(some t,{w with input:=r}):=by
 unfold iK okO
 rw [if_neg YA,if_pos rfl]
 cases w.input<;>rfl
theorem aeG (w:aU) (t:aj):fH w dA t=if 65536<t.size then (false,w) else if 1048576<w.told+t.size+1 then (false,{w with how:=3}) else (true,{w with told:=w.told+(t.size+1),output:=w.output++[t]}):=by
 unfold fH vU
 by_cases h:65536<t.size
 ·rw [if_pos (.inr h),if_pos h]
 ·rw [if_neg (fun e=>e.elim OA h),if_pos rfl,if_neg h]
theorem Bf (t:aj) (n:Int) (nm:aj) (k:List aB) (w:aU):fK (.mk 3 t n nm k) w=okO (iK w nm):=by
 rw [fK,if_neg (by decide),if_neg (by decide),if_pos rfl]
theorem OB {l:List aF} {n i:Nat} {w:aU} (h:i<l.length) {r:Bool×aU} (hr:lN l[i] (tick w)=r):gQ l (n+1) i w=if r.2.how≠0 then r.2 else gQ l n (nextL l i (toS l[i] r.1)) r.2:=by
 subst hr;rw [gQ,dif_pos h]
def jk (l:List aj):Nat:=(l.map fun t=>t.size+1).sum
theorem JH:∀(l:List aj),(∀t∈l,t.size≤30)→jk l≤31*l.length
 | [],_=>Nat.le_refl _
 | t::r,h=>by
  have:=JH r fun x hx=>h x (List.mem_cons_of_mem _ hx)
  have:=h t (List.mem_cons_self ..)
  unfold jk at *
  simp only [List.map_cons,List.sum_cons,List.length_cons]
  omega
end Go.Proofs.YtgoijmpahffnhaaGreatDoor

namespace Go.Proofs.YtgoijmpahffnhaaGreatDoor
set_option linter.all false
open Go.RowKit Go.Shelf Go.Sort
set_option maxRecDepth 100000
set_option maxHeartbeats 2000000
def jF (l:List aj):Bool:=l.any fun t=>decide (65536<t.size)
theorem Bq (input:List aj) (ia:Option Addr) (ic:Nat) (w:World) (hin:aQ w (· < w.heap.size) ia input) (hil:input.length<1000000000):Calls Tryz.prog 201 #[.slice ia input.length ic] w (fun e w'=>e=.returned (.bool (jF input))∧w'=w):=by
 have jL:=ah hin
 clear hin
 go_enter Tryz.func201, Tryz.ntmps201
 go_wp2_with fail
 go_loopw [7] (fun i wr=>∃j:Nat,j≤input.length∧i=.int .i64 j∧wr=w∧Hid (∀k,(h:k<input.length)→k<j→input[k].size≤65536)) (fun i _=>input.length-(intOf i).toNat)
 case atStart=>exact ⟨0,Nat.zero_le _,rfl,rfl,fun k _ h=>absurd h (by omega)⟩
 case round =>
  obtain ⟨j,hj,rfl,rfl,hall⟩:=hrel
  by_cases hlt:j<input.length
  ·obtain ⟨bi,oi,rfl,_,hc⟩:=jL.out (by omega)
   have cj:=hc j hlt
   obtain ⟨tj,htj⟩:∃tj,tj=input[j]:=⟨_,rfl⟩
   rw [←htj] at cj
   have bj:(j:Int)<(input.length:Int):=by omega
   have kJ:=ah htj
   clear hc htj
   by_cases hs:65536<tj.size
   ·have e2:decide ((65536:Int)<(tj.size:Int))=true:=ak (by omega)
    have e2':decide (65536<tj.size)=true:=ak hs
    have fin:Hid (jF input=true):=by
     unfold Hid jF
     rw [List.any_eq_true]
     exact ⟨input[j],List.getElem_mem hlt,ak (by rw [←kJ.out];exact hs)⟩
    go_wp2_with fail
    go_ret
    exact ⟨by rw [fin.out];rfl,rfl⟩
   ·have e2:decide ((65536:Int)<(tj.size:Int))=false:=au (by omega)
    have e2':decide (65536<tj.size)=false:=au hs
    go_wp2_with fail
    go_roundw
    case rel=>exact ⟨j+1,by omega,by go_num,by trivial,fun k hk hkj=>by
     by_cases AV:k=j
     ·subst AV;rw [←kJ.out];omega
     ·exact hall.out k hk (by omega)⟩
    case measure=>simp [intOf];omega
  ·obtain rfl:j=input.length:=by omega
   have fin:Hid (jF input=false):=by
    unfold Hid jF
    rw [List.any_eq_false]
    intro t ht
    obtain ⟨k,hk,rfl⟩:=List.mem_iff_getElem.1 ht
    have:=hall.out k hk hk
    simp;omega
   go_wp2_with fail
   go_ret
   exact ⟨by rw [fin.out];rfl,rfl⟩
def aeU:Go.Shelf.Ren:=⟨fun|35=>203|n=>n,fun|0=>0|3=>3|4=>4|22=>28|23=>5|n=>n,fun n=>n⟩
theorem aeV:Go.Proofs.SlLaysE.n35 Tryz.prog aeU:={
 mixed:=by kernel_rfl
 f35:=⟨"slices.Reverse[[]byte,byte]",rfl,by kernel_rfl⟩
 t0:=by kernel_rfl
 a0:=fun w=>by kernel_rfl
 z0:=fun w=>by kernel_rfl
 v0:=fun w=>by kernel_rfl
 t3:=by kernel_rfl
 a3:=fun w=>by kernel_rfl
 z3:=fun w=>by kernel_rfl
 v3:=fun w=>by kernel_rfl
 t4:=by kernel_rfl
 a4:=fun w=>by kernel_rfl
 z4:=fun w=>by kernel_rfl
 v4:=fun w=>by kernel_rfl
 t22:=by kernel_rfl
 a22:=fun w=>by kernel_rfl
 z22:=fun w=>by kernel_rfl
 v22:=fun w=>by kernel_rfl
 a23:=fun w=>by kernel_rfl
 z23:=fun w=>by kernel_rfl}
def Gt (c:UInt8):Value:=.int .u8 (c.toNat:Int)
def BytesIn (w:World) (g o:Nat) (l:List UInt8):Prop:=∀i (h:i<l.length),w.cell? ⟨g,o+i,none⟩=some (.int .u8 ((l[i]).toNat:Int))
theorem OT {g o:Nat} {d:Array UInt8} {w:World} (n:Nat):Kept (· = g) w (Sort.putRow Gt (Sort.ahead w n) g o d) :=
 ⟨rfl,rfl,rfl,by simp [Sort.putRow,Sort.mapBlock,Sort.ahead],fun j hj hx=>by
  have:g≠j:=fun e=>hx e.symm
  simp [Sort.putRow,Sort.mapBlock,Sort.ahead,Array.getElem?_modify,this]⟩
theorem aco (l:List UInt8) (g o cap:Nat) (w:World) (h:Holds Gt w g o l.toArray) (hl:l.length≤1000000000) :
  Calls Tryz.prog 203 #[.slice (some ⟨g,o,none⟩) l.length cap] w (fun e w'=>e=.returned (.tuple #[])∧BytesIn w' g o l.reverse∧Kept (· = g) w w'):=by
 refine (AnyE.slices_Reverse aeV Gt (fun _=>rfl) g o cap l w h (by omega)).mono ?_
 rintro e w' ⟨rfl,n,rfl⟩
 have hH2:=holds_putRow Gt (Sort.ahead w n) g o l.toArray l.reverse.toArray (fun j hj=>h j hj) (by simp)
 refine ⟨rfl,fun i hi=>?_,OT n⟩
 rw [(hH2 i (by simpa using hi)).1]
 have hi':i<l.length:=by simpa using hi
 have:(l.reverse.toArray)[i]! = l.reverse[i]:=by rw [getElem!_pos _ i (by simpa using hi)];simp
 rw [this];rfl
theorem Bc (w:World) (t:aj):∃cap w2,(convert 9 28 (.string t)).run Tryz.prog w=.ok (.slice (some ⟨w.heap.size,0,none⟩) t.size cap) w2∧Holds Gt w2 w.heap.size 0 t.data.toList.toArray∧Kept aA w w2∧w.heap.size<w2.heap.size:=by
 refine ⟨_,_,run_bytes_of_string w 9 28 5 t Tryz.underlying9 Tryz.underlying28 Tryz.underlying5,fun j hj=>?_,((Kept.refl aA w).drew).alloc _,by simp⟩
 have hj':j<t.data.size:=by simpa using hj
 have hb:(w.drew.alloc (.cells (bytesRow t (grownCap w t.size 0 5)) 5 ((bytesRow t (grownCap w t.size 0 5)).size,(bytesRow t (grownCap w t.size 0 5)).size+1))).heap[w.heap.size]?=some (.cells (bytesRow t (grownCap w t.size 0 5)) 5 ((bytesRow t (grownCap w t.size 0 5)).size,(bytesRow t (grownCap w t.size 0 5)).size+1)):=ay w.drew _
 have hsz:t.data.size≤(bytesRow t (grownCap w t.size 0 5)).size:=by unfold bytesRow;simp
 have e1:=bytesRow_at t (grownCap w t.size 0 5) j hj'
 have e2:(t.data.toList.toArray)[j]! = t.data[j]:=by rw [getElem!_pos _ j (by simpa using hj')]
 rw [e2]
 constructor
 ·unfold World.cell?
  rw [hb]
  show (bytesRow t _)[0+j]?=_
  rw [Nat.zero_add]
  exact e1
 ·unfold World.frozen?
  rw [hb]
  simp;omega
def WQ (o:aj) (w:World) (e:Ending) (w':World):Prop:=e=.returned (.tuple #[.string o,.int .i64 0])∧Kept aA w w'
theorem BytesIn.conv {w:World} {g o c:Nat} {bs:List UInt8} (h:BytesIn w g o bs):(convert 28 9 (.slice (some ⟨g,o,none⟩) bs.length c)).run Tryz.prog w=.ok (.string ⟨bs.toArray⟩) w:=by
 refine run_convert_bytes_back w 28 9 5 _ c bs Tryz.underlying28 Tryz.underlying5 Tryz.underlying9 fun j hj=>?_
 have e1:(⟨g,o,none⟩:Addr).add j=⟨g,o+j,none⟩:=by unfold Addr.add;split<;>simp_all
 rw [e1];exact h j hj
theorem OU (t:aj) (w:World) (ht:t.size≤65536):Calls Tryz.prog 147 #[.string t] w (WQ ⟨t.data.toList.reverse.toArray⟩ w):=by
 have hlong:jF [t]=false:=by unfold jF;simp;omega
 have HL:=ah hlong
 clear hlong
 go_enter Tryz.func147, Tryz.ntmps147
 have hs:Hid (aQ (w.alloc (.cells #[.string t] 9)) (· < (w.alloc (.cells #[.string t] 9)).heap.size) (some ⟨w.heap.size,0,none⟩) [t]):=by
  intro _
  refine ⟨_,0,rfl,by simp,fun i hi=>?_⟩
  obtain rfl:i=0:=by simpa using hi
  exact (dJ.new w 9 (.string t)).cell
 obtain ⟨cap,wb,hcv,hh,hkb,hzb⟩:=Bc (w.alloc (.cells #[.string t] 9)) t
 rw [show (w.alloc (.cells #[.string t] 9)).heap.size=w.heap.size+1 by simp] at hcv hh hzb
 have hn:t.data.toList.length=t.size:=by rw [Array.length_toList];rfl
 have HR:=ah (aco t.data.toList (w.heap.size+1) 0 cap wb hh (by rw [hn];omega))
 rw [hn] at HR
 have HKB:=ah (((Kept.refl aA w).alloc _).step hkb fun _ h=>.inl h)
 clear hh hkb hzb
 go_wp2_with first
  | (go_at_call 201;go_loud (refine (Bq [t] (some ⟨w.heap.size,0,none⟩) 1 _ hs.out (by simp)).mono ?_;rintro e w2 ⟨rfl,hw2⟩;rw [HL.out];subst hw2))
  | (go_at_call 203;go_loud (refine HR.out.mono ?_;rintro e w3 ⟨rfl,hb3,hk3⟩;have B3:=ah hb3;have K3:=ah hk3;have ajG:=hb3.conv (c:=cap);rw [List.length_reverse,hn] at ajG;clear hb3 hk3))
 go_ret2
 exact ⟨rfl,HKB.out.step K3.out fun b hb=>.inr (by omega)⟩
end Go.Proofs.YtgoijmpahffnhaaGreatDoor

namespace Go.Proofs.YtgoijmpahffnhaaGreatDoor
set_option linter.all false
open Go.RowKit
set_option maxRecDepth 100000
set_option maxHeartbeats 2000000
def Dt (v:Value) (w:World) (e:Ending) (w':World):Prop:=e=.returned v∧w'=w
theorem Oo (k:Int) (w:World):Calls Tryz.prog 105 #[.int .i64 k] w (Dt (.bool (decide (k=0))) w):=by
 go_enter Tryz.func105, Tryz.ntmps105
 go_wp2_with fail
 go_ret
 exact ⟨rfl,rfl⟩
theorem Gv (t:aj) (k:Int) (w:World):Calls Tryz.prog 145 #[.string t,.int .i64 k] w (Dt (.tuple #[.string t,.bool (decide (k=0))]) w):=by
 have H:=ah (Oo k w)
 go_enter Tryz.func145, Tryz.ntmps145
 go_wp2_with (go_at_call 105;(with_reducible refine H.out.mono ?_);rintro e w2 ⟨rfl,hw2⟩;subst hw2)
 go_ret2
 exact ⟨rfl,rfl⟩
theorem Fq (a:List aj) (al:Option Addr) (cl:Nat) (w:World) (hs:aQ w (· < w.heap.size) al a) (h1:a.length=1) (hz:∀t∈a,t.size≤65536) :
  Calls Tryz.prog 101 #[.string ⟨#[82,69,86,69,82,83,69]⟩,.slice al a.length cl] w (AZ (bJ ⟨#[82,69,86,69,82,83,69]⟩ a) w):=by
 obtain ⟨t,rfl⟩:∃t,a=[t]:=by
  match a,h1 with
  | [t],_=>exact ⟨t,rfl⟩
 obtain ⟨b,o,rfl,_,hc⟩:=hs (by simp)
 have c0:w.cell? ⟨b,o,none⟩=some (.string t):=by have:=hc 0 (by simp);simpa using this
 have ht:=hz t (by simp)
 have hfin:bJ ⟨#[82,69,86,69,82,83,69]⟩ [t]=some ⟨t.data.toList.reverse.toArray⟩:=by
  unfold bJ
  dsimp only
  rw [if_neg (by decide +kernel),if_neg (by decide +kernel),if_pos (by decide +kernel)]
  show Dz t=_
  unfold Dz
  rw [if_neg (by omega)]
 have FIN:=ah hfin
 have HT:=ah (OU t w ht)
 clear hs hc hfin hz h1
 show Calls Tryz.prog 101 #[.string ⟨#[82,69,86,69,82,83,69]⟩,.slice (some ⟨b,o,none⟩) 1 cl] w _
 go_enter Tryz.func101, Tryz.ntmps101
 go_wp2_with first
  | (go_at_call 147;(with_reducible refine HT.out.mono ?_);rintro e w2 ⟨rfl,hk⟩;have K2:=ah hk;clear hk)
  | (go_at_call 145;go_loud (with_reducible refine (Gv _ _ _).mono ?_);rintro e w3 ⟨rfl,hw3⟩;subst hw3)
 go_ret2
 exact ⟨by rw [FIN.out];rfl,K2.out⟩
end Go.Proofs.YtgoijmpahffnhaaGreatDoor

namespace Go.Proofs.YtgoijmpahffnhaaGreatDoor
set_option linter.all false
open Go.RowKit
set_option maxRecDepth 100000
set_option maxHeartbeats 2000000
theorem OM (input:List aj) (ia:Option Addr) (ic:Nat) (w:World) (hin:aQ w (· < w.heap.size) ia input) (hil:input.length<1000000000):Calls Tryz.prog 15 #[.slice ia input.length ic] w (fun e w'=>e=.returned (.bool (jF input))∧w'=w):=by
 have jL:=ah hin
 clear hin
 go_enter Tryz.func15, Tryz.ntmps15
 go_wp2_with fail
 go_loopw [7] (fun i wr=>∃j:Nat,j≤input.length∧i=.int .i64 j∧wr=w∧Hid (∀k,(h:k<input.length)→k<j→input[k].size≤65536)) (fun i _=>input.length-(intOf i).toNat)
 case atStart=>exact ⟨0,Nat.zero_le _,rfl,rfl,fun k _ h=>absurd h (by omega)⟩
 case round =>
  obtain ⟨j,hj,rfl,rfl,hall⟩:=hrel
  by_cases hlt:j<input.length
  ·obtain ⟨bi,oi,rfl,_,hc⟩:=jL.out (by omega)
   have cj:=hc j hlt
   obtain ⟨tj,htj⟩:∃tj,tj=input[j]:=⟨_,rfl⟩
   rw [←htj] at cj
   have bj:(j:Int)<(input.length:Int):=by omega
   have kJ:=ah htj
   clear hc htj
   by_cases hs:65536<tj.size
   ·have e2:decide ((65536:Int)<(tj.size:Int))=true:=ak (by omega)
    have e2':decide (65536<tj.size)=true:=ak hs
    have fin:Hid (jF input=true):=by
     unfold Hid jF
     rw [List.any_eq_true]
     exact ⟨input[j],List.getElem_mem hlt,ak (by rw [←kJ.out];exact hs)⟩
    go_wp2_with fail
    go_ret
    exact ⟨by rw [fin.out];rfl,rfl⟩
   ·have e2:decide ((65536:Int)<(tj.size:Int))=false:=au (by omega)
    have e2':decide (65536<tj.size)=false:=au hs
    go_wp2_with fail
    go_roundw
    case rel=>exact ⟨j+1,by omega,by go_num,by trivial,fun k hk hkj=>by
     by_cases AV:k=j
     ·subst AV;rw [←kJ.out];omega
     ·exact hall.out k hk (by omega)⟩
    case measure=>simp [intOf];omega
  ·obtain rfl:j=input.length:=by omega
   have fin:Hid (jF input=false):=by
    unfold Hid jF
    rw [List.any_eq_false]
    intro t ht
    obtain ⟨k,hk,rfl⟩:=List.mem_iff_getElem.1 ht
    have:=hall.out k hk hk
    simp;omega
   go_wp2_with fail
   go_ret
   exact ⟨by rw [fin.out];rfl,rfl⟩
theorem WE (t:aj) (w:World) (ht:t.size≤65536):Calls Tryz.prog 10 #[.string t] w (WQ ⟨t.data.toList.reverse.toArray⟩ w):=by
 have HL:Hid (jF [t]=false):=by unfold Hid jF;simp;omega
 have hs:Hid (aQ (w.alloc (.cells #[.string t] 9)) (· < (w.alloc (.cells #[.string t] 9)).heap.size) (some ⟨w.heap.size,0,none⟩) [t]):=by
  intro _
  refine ⟨_,0,rfl,by simp,fun i hi=>?_⟩
  obtain rfl:i=0:=by simpa using hi
  exact (dJ.new w 9 (.string t)).cell
 have HN:Hid (t.data.toList.length=t.size):=by unfold Hid;rw [Array.length_toList];rfl
 go_enter Tryz.func10, Tryz.ntmps10
 go_wp2_with (go_at_call 15;(refine (OM [t] (some ⟨w.heap.size,0,none⟩) 1 _ hs.out (by simp)).mono ?_;rintro e w2 ⟨rfl,hw2⟩;rw [HL.out];subst hw2))
 go_loopw [4,5] (fun v i wr=>∃(k n:Nat) (d:List UInt8) (a:Option Addr) (c:Nat),k≤t.size∧i=.int .i64 ((k:Int)-1)∧v=.slice a n c∧Hid (n=d.length)∧Hid (d=(t.data.toList.drop k).reverse)∧Hid (aO wr w.heap.size 5 1 v n (GZ d))∧Hid (Kept aA w wr)) (fun _ i _=>(intOf i+1).toNat)
 case atStart=>exact ⟨t.size,0,[],none,0,Nat.le_refl _,rfl,rfl,rfl,by unfold Hid;rw [List.drop_eq_nil_of_le (by rw [HN.out];exact Nat.le_refl _)];rfl,aO.nil ..,(Kept.refl _ w).alloc _⟩
 case round =>
  obtain ⟨k,n,d,a,c,hk,rfl,rfl,hn,hd,hW,hK⟩:=hrel
  cases k with
  | zero =>
   have hc:=aa7 hW.out hn.out
   have e1:decide ((0:Int)≤((0:Nat):Int)-1)=false:=rfl
   have FIN:Hid (d=t.data.toList.reverse):=by unfold Hid;rw [hd.out,List.drop_zero]
   clear hd hn
   go_wp2_with fail
   go_ret2
   exact ⟨by rw [FIN.out];rfl,hK.out⟩
  | succ j =>
   have e0:((j+1:Nat):Int)-1=(j:Int):=by omega
   rw [e0]
   have bj:(j:Int)<(t.size:Int):=by omega
   have hj:j<t.size:=by omega
   have Du:Hid (d.length≤65536):=by unfold Hid;rw [hd.out];simp;have:=HN.out;omega
   go_wp2_with (refine G7 rfl _ _ rfl _ n d t[j] hn.out rfl w.heap.size (hW.out.alloc _) _ rfl (ay wr _) (by have:=Du.out;omega) (by have:=hK.out.size;simp;omega) ?_;intro a9 c9 n9 w9 um nC hk9;have W9:=ah nC;have K9:Hid (Kept aA w w9):=((hK.out.alloc _).step hk9 (fun y hy=>.inr hy));clear nC hk9)
   go_roundw
   case rel =>
    refine ⟨j,n9,d++[t[j]],a9,c9,by omega,by go_num,rfl,um,?_,W9,K9⟩
    have hj':j<t.data.toList.length:=by rw [HN.out];exact hj
    unfold Hid
    rw [hd.out,List.drop_eq_getElem_cons hj',List.reverse_cons]
    rfl
   case measure=>simp [intOf]
end Go.Proofs.YtgoijmpahffnhaaGreatDoor

namespace Go.Proofs.YtgoijmpahffnhaaGreatDoor
set_option linter.all false
open Go.RowKit
set_option maxRecDepth 100000
set_option maxHeartbeats 4000000
theorem wH {s:aj} {l:List UInt8} (h:s.data.toList=l):s.toList=l:=by rw [ByteArray.toList_eq];exact h
theorem ext1 {s:aj} {c:UInt8} {r:List UInt8} (h:s.data.toList=c::r):(s.extract 1 s.size).data.toList=r:=by
 rw [ByteArray.data_extract,Array.toList_extract,h]
 have:s.size=(c::r).length:=by rw [←h];simp
 rw [this];simp [List.extract_eq_drop_take]
theorem Ag {s:aj} {c:UInt8} {r:List UInt8} (h:s.data.toList=c::r) (h0:0<s.size):s[0]=c:=by
 obtain ⟨⟨l⟩⟩:=s
 have e:l=c::r:=h
 subst e;rfl
theorem ZE (t s d:aj) (c:UInt8) (r:List UInt8) (w:World) (hR:Ba w) (h:¬65536<t.size) (hs:s.data.toList=c::r) (hL:Lib.trimS t.data.toList [32,9]=c::r) (hc:c=43) (hd:d=s.extract 1 s.size):Calls Tryz.prog 196 #[.string t] w (kP (aY t) w):=by
 have hl:=DJ t.data.toList [32,9]
 rw [hL,uD] at hl
 have hss:s.size=(c::r).length:=by rw [←hs];simp
 have fin:Hid (aY t=uw (c::r)):=by unfold Hid aY;rw [if_neg h,Bz,hL]
 have hrd:jE c r=d.data.toList:=by unfold jE;rw [if_pos (by first|exact .inl hc|exact .inr hc),hd,ext1 hs]
 have hds:d.size≤65536:=by rw [hd,ByteArray.size_extract];omega
 have HT:=ah (rY (cs:=[32,9]) hL w (by omega) (by decide) (by decide))
 have hst:(⟨(c::r).toArray⟩:aj)=s:=by obtain ⟨⟨l⟩⟩:=s;have e:l=c::r:=hs;subst e;rfl
 rw [hst] at HT
 have b0:decide ((65536:Int)<(t.size:Int))=false:=au (by omega)
 have b0':decide (65536<t.size)=false:=au h
 have e0:(s.toList==[])=false:=by rw [wH hs];rfl
 have h0:0<s.size:=by rw [hss];simp
 have h1:(0:Int)<(s.size:Int):=by omega
 have z:decide ((0:Int)<(s.size:Int))=true:=ak h1
 have z':decide (0<s.size)=true:=ak h0
 have y1:((s[0].toNat:Int)==43)=true:=by rw [Ag hs h0,hc];rfl
 have HD:=ah hd;have HR:=ah hR;have HS:=ah hs;have xg:Hid (s.size≤65536):=by unfold Hid;omega
 clear hL hc hst h hl hss hd
 go_enter Tryz.func196, Tryz.ntmps196
 go_upto_region 7 with (go_at_call 237;(refine HT.out.mono ?_);rintro e w1 ⟨rfl,bG⟩;have K1:=ah bG;clear bG)
 go_upto_region 9 with fail
 rw [←HD.out]
 clear y1 z z' h1
 by_cases hn:d.data.toList=[]
 ·have e1:(d.toList==[])=true:=by rw [wH hn];rfl
  have fin2:Hid (aY t=none):=by unfold Hid;rw [fin.out,lZ,if_pos (.inl (hrd.trans hn))]
  go_wp2_with fail
  exact rW rfl rfl rfl (kP.none K1.out fin2.out (by decide))
 ·have e1:(d.toList==[])=false:=by rw [ByteArray.toList_eq];cases hq:d.data.toList with|nil=>exact absurd hq hn|cons _ _=>rfl
  obtain ⟨D,hD⟩:∃D,D=Lib.trimS d.data.toList BA:=⟨_,rfl⟩
  have HT2:=fun w=>ah (rY (cs:=BA) hD.symm w hds (by decide) (by decide))
  by_cases ha:d.data.toList.all qj=true
  ·have hDn:D=[]:=by rw [hD];exact (qI _).2 ha
   subst hDn
   have LH:=BD c r (by rw [hrd];exact hn) (by rw [hrd];exact ha)
   rw [←HS.out] at LH
   rcases LH with ⟨n,hr1,hr2⟩|⟨hr1,hr2⟩
   ·have fin2:Hid (aY t=some n):=by unfold Hid;rw [fin.out,←HS.out,hr1]
    have HP:=ah hr2
    clear hr1 hr2 hn ha hD hrd
    go_wp2_with (first
     | (go_at_call 237;(refine (HT2 _).out.mono ?_);rintro e w2 ⟨rfl,bU⟩;have K2:=ah (K1.out.trans bU);clear bU)
     | (go_at_call 238;(refine (Tryz.strconv_ParseInt_10_at64_ok s (by have:=xg.out;omega) _ HP.out _).mono ?_);rintro e w3 ⟨rfl,DK⟩;have K3:=ah (K2.out.trans (show Kept aA _ w3 by rcases DK with rfl|⟨_,rfl⟩;exact Kept.refl _ _;exact Kept.under (Lib.bytesWorld_below _ _ _)));clear DK))
    exact rW rfl rfl rfl (kP.some K3.out fin2.out)
   ·have fin2:Hid (aY t=none):=by unfold Hid;rw [fin.out,←HS.out,hr1]
    have HP:=ah hr2
    clear hr1 hr2 hn ha hD hrd
    go_upto_region 11 with (go_at_call 237;(refine (HT2 _).out.mono ?_);rintro e w2 ⟨rfl,bU⟩;have K2:=ah (K1.out.trans bU);clear bU)
    obtain ⟨_,ev,hev1,hev2⟩:=HR.out.kept K2.out (fun h=>h)
    have Ip:=ah hev1;have HE2:=ah hev2;clear hev1 hev2
    go_wp2_with (go_at_call 238;(refine (Tryz.strconv_ParseInt_10_at64_range s (by have:=xg.out;omega) HP.out ev _ Ip.out HE2.out).mono ?_);rintro e w3 ⟨np,rfl,-,-,DL⟩;have K3:=ah (K2.out.trans (Kept.under DL));clear DL)
    exact rW rfl rfl rfl (kP.none K3.out fin2.out (by decide))
  ·have hDn:D≠[]:=fun e=>ha ((qI _).1 (by rw [←hD];exact e))
   have fin2:Hid (aY t=none):=by unfold Hid;rw [fin.out,lZ,if_pos (.inr (by rw [hrd];simpa using ha))]
   have e2:((⟨D.toArray⟩:aj).toList==[])=false:=by rw [ByteArray.toList_eq];cases D with|nil=>exact absurd rfl hDn|cons _ _=>rfl
   have e2':(D==[])=false:=by cases D with|nil=>exact absurd rfl hDn|cons _ _=>rfl
   clear hn ha hD hrd hDn
   go_wp2_with (go_at_call 237;(refine (HT2 _).out.mono ?_);rintro e w2 ⟨rfl,bU⟩;have K2:=ah (K1.out.trans bU);clear bU)
   exact rW rfl rfl rfl (kP.none K2.out fin2.out (by decide))
theorem ZF (t s d:aj) (c:UInt8) (r:List UInt8) (w:World) (hR:Ba w) (h:¬65536<t.size) (hs:s.data.toList=c::r) (hL:Lib.trimS t.data.toList [32,9]=c::r) (hc:c=45) (hd:d=s.extract 1 s.size):Calls Tryz.prog 196 #[.string t] w (kP (aY t) w):=by
 have hl:=DJ t.data.toList [32,9]
 rw [hL,uD] at hl
 have hss:s.size=(c::r).length:=by rw [←hs];simp
 have fin:Hid (aY t=uw (c::r)):=by unfold Hid aY;rw [if_neg h,Bz,hL]
 have hrd:jE c r=d.data.toList:=by unfold jE;rw [if_pos (by first|exact .inl hc|exact .inr hc),hd,ext1 hs]
 have hds:d.size≤65536:=by rw [hd,ByteArray.size_extract];omega
 have HT:=ah (rY (cs:=[32,9]) hL w (by omega) (by decide) (by decide))
 have hst:(⟨(c::r).toArray⟩:aj)=s:=by obtain ⟨⟨l⟩⟩:=s;have e:l=c::r:=hs;subst e;rfl
 rw [hst] at HT
 have b0:decide ((65536:Int)<(t.size:Int))=false:=au (by omega)
 have b0':decide (65536<t.size)=false:=au h
 have e0:(s.toList==[])=false:=by rw [wH hs];rfl
 have h0:0<s.size:=by rw [hss];simp
 have h1:(0:Int)<(s.size:Int):=by omega
 have z:decide ((0:Int)<(s.size:Int))=true:=ak h1
 have z':decide (0<s.size)=true:=ak h0
 have y1:((s[0].toNat:Int)==43)=false:=by rw [Ag hs h0,hc];rfl
 have y2:((s[0].toNat:Int)==45)=true:=by rw [Ag hs h0,hc];rfl
 have HD:=ah hd;have HR:=ah hR;have HS:=ah hs;have xg:Hid (s.size≤65536):=by unfold Hid;omega
 clear hL hc hst h hl hss hd
 go_enter Tryz.func196, Tryz.ntmps196
 go_upto_region 7 with (go_at_call 237;(refine HT.out.mono ?_);rintro e w1 ⟨rfl,bG⟩;have K1:=ah bG;clear bG)
 go_upto_region 9 with fail
 rw [←HD.out]
 clear y1 y2 z z' h1
 by_cases hn:d.data.toList=[]
 ·have e1:(d.toList==[])=true:=by rw [wH hn];rfl
  have fin2:Hid (aY t=none):=by unfold Hid;rw [fin.out,lZ,if_pos (.inl (hrd.trans hn))]
  go_wp2_with fail
  exact rW rfl rfl rfl (kP.none K1.out fin2.out (by decide))
 ·have e1:(d.toList==[])=false:=by rw [ByteArray.toList_eq];cases hq:d.data.toList with|nil=>exact absurd hq hn|cons _ _=>rfl
  obtain ⟨D,hD⟩:∃D,D=Lib.trimS d.data.toList BA:=⟨_,rfl⟩
  have HT2:=fun w=>ah (rY (cs:=BA) hD.symm w hds (by decide) (by decide))
  by_cases ha:d.data.toList.all qj=true
  ·have hDn:D=[]:=by rw [hD];exact (qI _).2 ha
   subst hDn
   have LH:=BD c r (by rw [hrd];exact hn) (by rw [hrd];exact ha)
   rw [←HS.out] at LH
   rcases LH with ⟨n,hr1,hr2⟩|⟨hr1,hr2⟩
   ·have fin2:Hid (aY t=some n):=by unfold Hid;rw [fin.out,←HS.out,hr1]
    have HP:=ah hr2
    clear hr1 hr2 hn ha hD hrd
    go_wp2_with (first
     | (go_at_call 237;(refine (HT2 _).out.mono ?_);rintro e w2 ⟨rfl,bU⟩;have K2:=ah (K1.out.trans bU);clear bU)
     | (go_at_call 238;(refine (Tryz.strconv_ParseInt_10_at64_ok s (by have:=xg.out;omega) _ HP.out _).mono ?_);rintro e w3 ⟨rfl,DK⟩;have K3:=ah (K2.out.trans (show Kept aA _ w3 by rcases DK with rfl|⟨_,rfl⟩;exact Kept.refl _ _;exact Kept.under (Lib.bytesWorld_below _ _ _)));clear DK))
    exact rW rfl rfl rfl (kP.some K3.out fin2.out)
   ·have fin2:Hid (aY t=none):=by unfold Hid;rw [fin.out,←HS.out,hr1]
    have HP:=ah hr2
    clear hr1 hr2 hn ha hD hrd
    go_upto_region 11 with (go_at_call 237;(refine (HT2 _).out.mono ?_);rintro e w2 ⟨rfl,bU⟩;have K2:=ah (K1.out.trans bU);clear bU)
    obtain ⟨_,ev,hev1,hev2⟩:=HR.out.kept K2.out (fun h=>h)
    have Ip:=ah hev1;have HE2:=ah hev2;clear hev1 hev2
    go_wp2_with (go_at_call 238;(refine (Tryz.strconv_ParseInt_10_at64_range s (by have:=xg.out;omega) HP.out ev _ Ip.out HE2.out).mono ?_);rintro e w3 ⟨np,rfl,-,-,DL⟩;have K3:=ah (K2.out.trans (Kept.under DL));clear DL)
    exact rW rfl rfl rfl (kP.none K3.out fin2.out (by decide))
  ·have hDn:D≠[]:=fun e=>ha ((qI _).1 (by rw [←hD];exact e))
   have fin2:Hid (aY t=none):=by unfold Hid;rw [fin.out,lZ,if_pos (.inr (by rw [hrd];simpa using ha))]
   have e2:((⟨D.toArray⟩:aj).toList==[])=false:=by rw [ByteArray.toList_eq];cases D with|nil=>exact absurd rfl hDn|cons _ _=>rfl
   have e2':(D==[])=false:=by cases D with|nil=>exact absurd rfl hDn|cons _ _=>rfl
   clear hn ha hD hrd hDn
   go_wp2_with (go_at_call 237;(refine (HT2 _).out.mono ?_);rintro e w2 ⟨rfl,bU⟩;have K2:=ah (K1.out.trans bU);clear bU)
   exact rW rfl rfl rfl (kP.none K2.out fin2.out (by decide))
theorem ZG (t s:aj) (c:UInt8) (r:List UInt8) (w:World) (hR:Ba w) (h:¬65536<t.size) (hs:s.data.toList=c::r) (hL:Lib.trimS t.data.toList [32,9]=c::r) (hc:c≠43∧c≠45):Calls Tryz.prog 196 #[.string t] w (kP (aY t) w):=by
 have hl:=DJ t.data.toList [32,9]
 rw [hL,uD] at hl
 have hss:s.size=(c::r).length:=by rw [←hs];simp
 have fin:Hid (aY t=uw (c::r)):=by unfold Hid aY;rw [if_neg h,Bz,hL]
 have hrd:jE c r=s.data.toList:=by unfold jE;rw [if_neg (fun e=>e.elim hc.1 hc.2),hs]
 have hds:s.size≤65536:=by omega
 have HT:=ah (rY (cs:=[32,9]) hL w (by omega) (by decide) (by decide))
 have hst:(⟨(c::r).toArray⟩:aj)=s:=by obtain ⟨⟨l⟩⟩:=s;have e:l=c::r:=hs;subst e;rfl
 rw [hst] at HT
 have b0:decide ((65536:Int)<(t.size:Int))=false:=au (by omega)
 have b0':decide (65536<t.size)=false:=au h
 have e0:(s.toList==[])=false:=by rw [wH hs];rfl
 have h0:0<s.size:=by rw [hss];simp
 have h1:(0:Int)<(s.size:Int):=by omega
 have z:decide ((0:Int)<(s.size:Int))=true:=ak h1
 have z':decide (0<s.size)=true:=ak h0
 have y1:((s[0].toNat:Int)==43)=false:=by rw [Ag hs h0];have:=hc.1;simp;intro e;exact this ((adK c).1 (by omega))
 have y2:((s[0].toNat:Int)==45)=false:=by rw [Ag hs h0];have:=hc.2;simp;intro e;exact this ((MZ c).1 (by omega))
 have HR:=ah hR;have HS:=ah hs;have xg:Hid (s.size≤65536):=by unfold Hid;omega
 clear hL hc hst h hl hss
 go_enter Tryz.func196, Tryz.ntmps196
 go_upto_region 7 with (go_at_call 237;(refine HT.out.mono ?_);rintro e w1 ⟨rfl,bG⟩;have K1:=ah bG;clear bG)
 go_upto_region 9 with fail
 clear y1 y2 z z' h1
 by_cases hn:s.data.toList=[]
 ·rw [HS.out] at hn;cases hn
 ·have e1:(s.toList==[])=false:=by rw [ByteArray.toList_eq];cases hq:s.data.toList with|nil=>exact absurd hq hn|cons _ _=>rfl
  obtain ⟨D,hD⟩:∃D,D=Lib.trimS s.data.toList BA:=⟨_,rfl⟩
  have HT2:=fun w=>ah (rY (cs:=BA) hD.symm w hds (by decide) (by decide))
  by_cases ha:s.data.toList.all qj=true
  ·have hDn:D=[]:=by rw [hD];exact (qI _).2 ha
   subst hDn
   have LH:=BD c r (by rw [hrd];exact hn) (by rw [hrd];exact ha)
   rw [←HS.out] at LH
   rcases LH with ⟨n,hr1,hr2⟩|⟨hr1,hr2⟩
   ·have fin2:Hid (aY t=some n):=by unfold Hid;rw [fin.out,←HS.out,hr1]
    have HP:=ah hr2
    clear hr1 hr2 hn ha hD hrd
    go_wp2_with (first
     | (go_at_call 237;(refine (HT2 _).out.mono ?_);rintro e w2 ⟨rfl,bU⟩;have K2:=ah (K1.out.trans bU);clear bU)
     | (go_at_call 238;(refine (Tryz.strconv_ParseInt_10_at64_ok s (by have:=xg.out;omega) _ HP.out _).mono ?_);rintro e w3 ⟨rfl,DK⟩;have K3:=ah (K2.out.trans (show Kept aA _ w3 by rcases DK with rfl|⟨_,rfl⟩;exact Kept.refl _ _;exact Kept.under (Lib.bytesWorld_below _ _ _)));clear DK))
    exact rW rfl rfl rfl (kP.some K3.out fin2.out)
   ·have fin2:Hid (aY t=none):=by unfold Hid;rw [fin.out,←HS.out,hr1]
    have HP:=ah hr2
    clear hr1 hr2 hn ha hD hrd
    go_upto_region 11 with (go_at_call 237;(refine (HT2 _).out.mono ?_);rintro e w2 ⟨rfl,bU⟩;have K2:=ah (K1.out.trans bU);clear bU)
    obtain ⟨_,ev,hev1,hev2⟩:=HR.out.kept K2.out (fun h=>h)
    have Ip:=ah hev1;have HE2:=ah hev2;clear hev1 hev2
    go_wp2_with (go_at_call 238;(refine (Tryz.strconv_ParseInt_10_at64_range s (by have:=xg.out;omega) HP.out ev _ Ip.out HE2.out).mono ?_);rintro e w3 ⟨np,rfl,-,-,DL⟩;have K3:=ah (K2.out.trans (Kept.under DL));clear DL)
    exact rW rfl rfl rfl (kP.none K3.out fin2.out (by decide))
  ·have hDn:D≠[]:=fun e=>ha ((qI _).1 (by rw [←hD];exact e))
   have fin2:Hid (aY t=none):=by unfold Hid;rw [fin.out,lZ,if_pos (.inr (by rw [hrd];simpa using ha))]
   have e2:((⟨D.toArray⟩:aj).toList==[])=false:=by rw [ByteArray.toList_eq];cases D with|nil=>exact absurd rfl hDn|cons _ _=>rfl
   have e2':(D==[])=false:=by cases D with|nil=>exact absurd rfl hDn|cons _ _=>rfl
   clear hn ha hD hrd hDn
   go_wp2_with (go_at_call 237;(refine (HT2 _).out.mono ?_);rintro e w2 ⟨rfl,bU⟩;have K2:=ah (K1.out.trans bU);clear bU)
   exact rW rfl rfl rfl (kP.none K2.out fin2.out (by decide))
theorem QV (t:aj) (w:World) (hR:Ba w):Calls Tryz.prog 196 #[.string t] w (kP (aY t) w):=by
 by_cases h:65536<t.size
 ·exact Pn t w h
 ·cases hL:Lib.trimS t.data.toList [32,9] with
  | nil=>exact SK t w h hL
  | cons c r =>
   by_cases h1:c=43
   ·exact ZE t ⟨(c::r).toArray⟩ _ c r w hR h (by simp) hL h1 rfl
   ·by_cases h2:c=45
    ·exact ZF t ⟨(c::r).toArray⟩ _ c r w hR h (by simp) hL h2 rfl
    ·exact ZG t ⟨(c::r).toArray⟩ c r w hR h (by simp) hL ⟨h1,h2⟩
end Go.Proofs.YtgoijmpahffnhaaGreatDoor

namespace Go.Proofs.YtgoijmpahffnhaaGreatDoor
set_option linter.all false
open Go.RowKit
set_option maxRecDepth 100000
set_option maxHeartbeats 2000000
theorem abO:Tryz.prog.globalNamed "internal/strconv.uint64pow10" = some 3:=by kernel_rfl
def qg (w:World):Prop:=Ba w∧3<w.heap.size∧Lib.TabIs Tryz.prog w "internal/strconv.uint64pow10" .u64 Lib.pow10Tab
theorem qg.kept {w w':World} {X:Nat→Prop} (h:qg w) (hk:Kept X w w') (h1:¬X 5) (h2:¬X 3):qg w':=by
 refine ⟨h.1.kept hk h1,Nat.lt_of_lt_of_le h.2.1 hk.size,?_⟩
 have ht:=h.2.2
 unfold Lib.TabIs World.var? at ht⊢
 simp only [abO,Option.bind_some] at ht⊢
 rw [hk.block _ h.2.1 h2]
 exact ht
theorem qg.gk (w:World) (h0:qg w):∀N wa wb,w.heap.size≤N→Kept (fun b=>N≤b) wa wb→qg wa→qg wb:=fun N wa wb hN hk h =>
 h.kept hk (by have:=h0.1.1;show ¬N≤_;omega) (by have:=h0.2.1;show ¬N≤_;omega)
theorem agf (n:Int) (w:World) (hg:qg w) (hz:jw n):Calls Tryz.prog 144 #[.int .i64 n] w (fun e w'=>e=.returned (.string (iM n))∧Kept aA w w'):=by
 refine (Tryz.strconv_Itoa n hz.1 hz.2 w hg.2.2).mono ?_
 rintro e w' ⟨rfl,k,os,rfl⟩
 refine ⟨rfl,rfl,rfl,rfl,?_,fun j hj _=>?_⟩
 ·show w.heap.size≤(w.heap++os).size;simp
 ·show (w.heap++os)[j]?=_;rw [Array.getElem?_append_left hj]
theorem args1 {w:World} {al:Option Addr} {l:List aj} (hs:aQ w (· < w.heap.size) al l) (h1:l.length=1):∃t b o,l=[t]∧al=some ⟨b,o,none⟩∧w.cell? ⟨b,o,none⟩=some (.string t):=by
 match l,h1 with
 | [t],_ =>
  obtain ⟨b,o,rfl,_,hc⟩:=hs (by simp)
  exact ⟨t,b,o,rfl,rfl,by have:=hc 0 (by simp);simpa using this⟩
theorem args2 {w:World} {al:Option Addr} {l:List aj} (hs:aQ w (· < w.heap.size) al l) (h1:l.length=2):∃t u b o,l=[t,u]∧al=some ⟨b,o,none⟩∧w.cell? ⟨b,o,none⟩=some (.string t)∧w.cell? ⟨b,o+1,none⟩=some (.string u):=by
 match l,h1 with
 | [t,u],_ =>
  obtain ⟨b,o,rfl,_,hc⟩:=hs (by simp)
  exact ⟨t,u,b,o,rfl,rfl,by have:=hc 0 (by simp);simpa using this,by have:=hc 1 (by simp);simpa using this⟩
def rM:aj:=⟨#[83,73,90,69]⟩
def qX:aj:=⟨#[73,68,69,78,84]⟩
theorem Ol (t:aj):bJ rM [t]=some (iM t.size):=by
 unfold bJ
 dsimp only
 rw [if_pos (by decide +kernel)];rfl
theorem Ue (t u:aj):bJ qX [t,u]=rV (decide (t=u)):=by
 unfold bJ
 dsimp only
 rw [if_neg (by decide +kernel),if_neg (by decide +kernel),if_neg (by decide +kernel),if_neg (by decide +kernel),if_pos (by decide +kernel)];rfl
theorem Om (l:List aj) (al:Option Addr) (cl:Nat) (w:World) (hg:qg w) (hs:aQ w (· < w.heap.size) al l) (h1:l.length=1) (hz:∀t∈l,t.size≤65536) :
  Calls Tryz.prog 101 #[.string rM,.slice al l.length cl] w (AZ (bJ rM l) w):=by
 obtain ⟨t,b,o,rfl,rfl,c0⟩:=args1 hs h1
 have ht:=hz t (by simp)
 have FIN:=ah (Ol t)
 have HI:=ah (agf t.size w hg (by unfold jw;omega))
 clear hs h1 hz hg
 show Calls Tryz.prog 101 #[.string ⟨#[83,73,90,69]⟩,.slice (some ⟨b,o,none⟩) 1 cl] w _
 go_enter Tryz.func101, Tryz.ntmps101
 go_wp2_with (go_at_call 144;(with_reducible refine HI.out.mono ?_);rintro e w2 ⟨rfl,hk⟩;have K2:=ah hk;clear hk)
 go_ret2
 exact ⟨by rw [FIN.out];rfl,K2.out⟩
theorem MO (l:List aj) (al:Option Addr) (cl:Nat) (w:World) (hs:aQ w (· < w.heap.size) al l) (h1:l.length=2) :
  Calls Tryz.prog 101 #[.string qX,.slice al l.length cl] w (AZ (bJ qX l) w):=by
 obtain ⟨t,u,b,o,rfl,rfl,c0,c1⟩:=args2 hs h1
 have FIN:=ah (Ue t u)
 clear hs h1
 show Calls Tryz.prog 101 #[.string ⟨#[73,68,69,78,84]⟩,.slice (some ⟨b,o,none⟩) 2 cl] w _
 by_cases h:t=u
 ·have e:(t.toList==u.toList)=true:=by rw [h];simp
  have abP:Hid (bJ qX [t,u]=some ⟨#[]⟩):=by unfold Hid;rw [FIN.out,ak h];rfl
  clear h
  go_enter Tryz.func101, Tryz.ntmps101
  go_wp2_with (go_region_with fail)
  all_goals
   go_ret2
   exact ⟨by rw [abP.out];rfl,by repeat (first|exact Kept.refl aA _|refine Kept.drew ?_|refine Kept.drewN ?_ _)⟩
 ·have e:(t.toList==u.toList)=false:=by
   rw [beq_eq_false_iff_ne,ByteArray.toList_eq,ByteArray.toList_eq];exact fun e=>h (ByteArray.ext (Array.toList_inj.1 e))
  have abP:Hid (bJ qX [t,u]=none):=by unfold Hid;rw [FIN.out,au h];rfl
  clear h
  go_enter Tryz.func101, Tryz.ntmps101
  go_wp2_with (go_region_with fail)
  all_goals
   go_ret2
   exact ⟨by rw [abP.out];rfl,by repeat (first|exact Kept.refl aA _|refine Kept.drew ?_|refine Kept.drewN ?_ _)⟩
end Go.Proofs.YtgoijmpahffnhaaGreatDoor

namespace Go.Proofs.YtgoijmpahffnhaaGreatDoor
set_option linter.all false
open Go.RowKit
set_option maxRecDepth 100000
set_option maxHeartbeats 4000000
def iZ (w:World) (b n:Nat) (g:Nat→UInt8):Prop:=∀i,i<n→w.cell? ⟨b,i,none⟩=some (.int .u8 ((g i).toNat:Int))∧w.frozen? ⟨b,i,none⟩=false
theorem iZ.set {w:World} {b n:Nat} {g:Nat→UInt8} (h:iZ w b n g) {i:Nat} (hi:i<n) (x:UInt8):iZ (w.setCell ⟨b,i,none⟩ (.int .u8 (x.toNat:Int))) b n (fun k=>if k=i then x else g k):=by
 intro k hk
 refine ⟨?_,by rw [World.frozen?_setCell];exact (h k hk).2⟩
 by_cases e:k=i
 ·subst e
  rw [World.cell?_setCell_same' _ _ _ (by rw [(h k hk).1];rfl)];simp
 ·rw [World.cell?_setCell_other (w:=w) (a:=⟨b,i,none⟩) (b:=⟨b,k,none⟩) _ (by intro h;injection h with _ h2 _;exact e h2.symm)]
  rw [(h k hk).1];simp [e]
theorem iZ.kept {X:Nat→Prop} {w w':World} {b n:Nat} {g:Nat→UInt8} (h:iZ w b n g) (hb:b<w.heap.size) (hk:Kept X w w') (hx:¬X b):iZ w' b n g:=fun i hi=>⟨(hk.cell hb hx).trans (h i hi).1,by
 have:=hk.block b hb hx
 have h2:=(h i hi).2
 unfold World.frozen? at h2⊢
 rw [this];exact h2⟩
theorem iZ.zero (w:World) (n:Nat) (t:TypeId):iZ (w.alloc (.cells (Array.replicate n (.int .u8 0)) t)) w.heap.size n (fun _=>0):=by
 intro i hi
 have hb:=ay w (.cells (Array.replicate n (.int .u8 0)) t)
 constructor
 ·unfold World.cell?
  rw [hb]
  simp [hi]
 ·unfold World.frozen?
  rw [hb]
  simp
theorem aeW:(Tryz.prog.info? 5).map (fun i=>(i.zero,i.size,i.bytes))=some (some (.int .u8 0),1,1):=by kernel_rfl
theorem aeX (w:World) (n:Nat) (hn:n≤65536):∃w2,(Instr.makeSlice 28 (.int .i64 (n:Int)) (.int .i64 (n:Int))).run Tryz.prog w=.ok (.slice (some ⟨w.heap.size,0,none⟩) n n) w2∧iZ w2 w.heap.size n (fun _=>0)∧Kept aA w w2∧w.heap.size<w2.heap.size:=by
 obtain ⟨i0,hi0,hz0,hz1,hz2⟩:=info_parts aeW
 refine ⟨_,by simpa using run_make w 28 5 i0 (.int .u8 0) Tryz.underlying28 hi0 hz0 .i64 .i64 (n:Int) (n:Int) (by omega) (by omega) (by rw [hz2];omega) (by omega),fun i hi=>?_,(Kept.refl aA w).alloc _,by simp⟩
 have hb:=ay w (.cells (madeCells (Value.int .u8 0).cells (n*i0.size)) 5)
 constructor
 ·unfold World.cell?
  rw [hb,hz1]
  show (madeCells #[.int .u8 0] (n*1))[i]?=_
  rw [Nat.mul_one,←Array.getElem?_toList,toList_madeCells_one]
  simp [hi]
 ·unfold World.frozen?
  rw [hb]
  simp
theorem OV:∀(l q:List UInt8) (x y c:UInt8),l.length=q.length→sU (l++[x]) (q++[y]) c=if c=x then y else sU l q c
 | [],[],x,y,c,_=>by simp [sU]
 | a::r,b::q,x,y,c,h=>by
  have ih:=OV r q x y c (by simpa using h)
  rw [List.cons_append,List.cons_append,sU,sU,ih]
  by_cases hx:c=x
  ·rw [if_pos (by simp [hx]),if_pos hx,if_pos hx]
  ·have e:(c∈r++[x])↔c∈r:=by simp [hx]
   rw [if_neg hx,if_neg hx]
   by_cases hr:c∈r
   ·rw [if_pos (e.2 hr),if_pos hr]
   ·rw [if_neg (fun h=>hr (e.1 h)),if_neg hr]
theorem OW (t a b:aj) (w:World) (ht:t.size≤65536) (ha:a.size≤65536) (hb:b.size≤65536) (hab:a.size=b.size) (h0:0<a.size):Calls Tryz.prog 148 #[.string t,.string a,.string b] w (WQ ⟨(t.data.toList.map (sU a.data.toList b.data.toList)).toArray⟩ w):=by
 have HL:Hid (jF [t,a,b]=false):=by unfold Hid jF;simp;omega
 have hs:Hid (aQ (w.alloc (.cells #[.string t,.string a,.string b] 9)) (· < (w.alloc (.cells #[.string t,.string a,.string b] 9)).heap.size) (some ⟨w.heap.size,0,none⟩) [t,a,b]):=by
  intro _
  refine ⟨_,0,rfl,by simp,fun i hi=>?_⟩
  have HB:=dG.new w 9 [.string t,.string a,.string b]
  rw [Nat.zero_add]
  match i,hi with
  | 0,_=>exact HB.cell rfl
  | 1,_=>exact HB.cell rfl
  | 2,_=>exact HB.cell rfl
 have e1:((a.size:Int) != (b.size:Int))=false:=by simp;omega
 have e2:a.toList.isEmpty=false:=by
  rw [ByteArray.toList_eq]
  cases h:a.data.toList with
  | nil =>
       exfalso;have:a.data.toList.length=a.size:=by rw [Array.length_toList];rfl
       rw [h] at this;simp at this;omega
  | cons=>rfl
 go_enter Tryz.func148, Tryz.ntmps148
 go_wp2_with (go_at_call 201;(refine (Bq [t,a,b] (some ⟨w.heap.size,0,none⟩) 3 _ hs.out (by simp)).mono ?_;rintro e w2 ⟨rfl,hw2⟩;rw [HL.out];subst hw2))
 have hz0:Hid (iZ ((w.alloc (.cells #[.string t,.string a,.string b] 9)).alloc (.cells Tryz.zeroCells263 263)) (w.heap.size+1) 256 (fun _=>0)):=by
  have:=iZ.zero (w.alloc (.cells #[.string t,.string a,.string b] 9)) 256 263
  rw [show (w.alloc (.cells #[.string t,.string a,.string b] 9)).heap.size=w.heap.size+1 by simp] at this
  exact this
 go_loopw [29] (fun i wr=>∃(j:Nat) (g:Nat→UInt8),j≤256∧i=.int .i64 (j:Int)∧Hid (iZ wr (w.heap.size+1) 256 g)∧Hid (∀k,k<j→g k=UInt8.ofNat k)∧Hid (Kept aA w wr)∧Hid (w.heap.size+1<wr.heap.size)) (fun i _=>256-(intOf i).toNat)
 case atStart=>exact ⟨0,_,Nat.zero_le _,rfl,hz0,fun k h=>absurd h (by omega),((Kept.refl aA w).alloc _).alloc _,by unfold Hid;simp⟩
 case round =>
  obtain ⟨j,g,hj,rfl,hB,hG,hK,hS⟩:=hrel
  by_cases hlt:j<256
  ·obtain ⟨c0,f0⟩:=hB.out j hlt
   have bj:(j:Int)<256:=by omega
   have ej:((UInt8.ofNat j).toNat:Int)=(j:Int):=by
    rw [UInt8.toNat_ofNat',Nat.mod_eq_of_lt (by omega)]
   have hB2:=hB.out.set hlt (UInt8.ofNat j)
   rw [ej] at hB2
   have B2:=ah hB2
   clear hB2 ej
   go_wp2_with fail
   refine ⟨⟨j+1,_,by omega,by go_num,B2,fun k hk=>?_,hK.out.setCell (.inr (by simp)) _,by have:=hS.out;unfold Hid;simpa using this⟩,by simp [intOf];omega⟩
   by_cases e:k=j
   ·subst e;exact if_pos rfl
   ·exact (if_neg e).trans (hG.out k (by omega))
  ·obtain rfl:j=256:=by omega
   have G0:Hid (∀k,k<256→g k=sU (a.data.toList.take 0) (b.data.toList.take 0) (UInt8.ofNat k)):=fun k hk=>(hG.out k hk).trans (by simp [sU])
   have X9:Hid (a.data.toList.length=a.size):=by unfold Hid;rw [Array.length_toList];rfl
   have HBL:Hid (b.data.toList.length=b.size):=by unfold Hid;rw [Array.length_toList];rfl
   have HTL:Hid (t.data.toList.length=t.size):=by unfold Hid;rw [Array.length_toList];rfl
   clear hG hz0
   go_wp2_with fail
   go_loopw [39] (fun i wr=>∃(j:Nat) (g:Nat→UInt8),j≤b.size∧i=.int .i64 (j:Int)∧Hid (iZ wr (w.heap.size+1) 256 g)∧Hid (∀k,k<256→g k=sU (a.data.toList.take j) (b.data.toList.take j) (UInt8.ofNat k))∧Hid (Kept aA w wr)∧Hid (w.heap.size+1<wr.heap.size)) (fun i _=>b.size-(intOf i).toNat)
   case atStart=>exact ⟨0,g,Nat.zero_le _,rfl,hB,G0,hK,hS⟩
   case round =>
    obtain ⟨j,g,hj,rfl,hB,hG,hK,hS⟩:=hrel
    by_cases hlt:j<b.size
    ·have hla:j<a.size:=by omega
     have bj:(j:Int)<(b.size:Int):=by omega
     have ba:(j:Int)<(a.size:Int):=by omega
     obtain ⟨c0,f0⟩:=hB.out a[j].toNat (UInt8.toNat_lt _)
     have ajH:((a[j].toNat:Nat):Int)<256:=by have:=UInt8.toNat_lt a[j];omega
     go_wp2_with fail
     have hB2:=ah (hB.out.set (UInt8.toNat_lt a[j]) b[j])
     go_region
     go_wp2_with fail
     refine ⟨⟨j+1,_,by omega,by go_num,hB2,fun k hk=>?_,(hK.out.setCell (.inr (by simp)) _).drew,by have:=hS.out;unfold Hid;simpa using this⟩,by simp [intOf];omega⟩
     have ha':j<a.data.toList.length:=by rw [X9.out];exact hla
     have hb':j<b.data.toList.length:=by rw [HBL.out];exact hlt
     rw [List.take_succ_eq_append_getElem ha',List.take_succ_eq_append_getElem hb',OV _ _ _ _ _ (by rw [List.length_take,List.length_take,X9.out,HBL.out];omega),hG.out k hk]
     have e:(k=a[j].toNat)↔(UInt8.ofNat k=a.data.toList[j]):=by
      constructor
      ·rintro rfl;rw [UInt8.ofNat_toNat];rfl
      ·intro h
       have h2:(UInt8.ofNat k).toNat=a[j].toNat:=by rw [h];rfl
       rw [UInt8.toNat_ofNat',Nat.mod_eq_of_lt (by omega)] at h2
       exact h2
     by_cases hk2:k=a[j].toNat
     ·rw [if_pos hk2,if_pos (e.1 hk2)];rfl
     ·rw [if_neg hk2,if_neg (fun h=>hk2 (e.2 h))]
    ·obtain rfl:j=b.size:=by omega
     obtain ⟨wm,hmk,hO,hKm,hSm⟩:=aeX wr t.size ht
     have O0:=ah hO;have KM:=ah hKm;have SM:=ah hSm
     have hta:a.data.toList.take b.size=a.data.toList:=List.take_of_length_le (by rw [X9.out];omega)
     have htb:b.data.toList.take b.size=b.data.toList:=List.take_of_length_le (by rw [HBL.out];omega)
     rw [hta,htb] at hG
     have BW:Hid (iZ wm (w.heap.size+1) 256 g):=hB.out.kept hS.out KM.out (fun h=>h)
     have KW:Hid (Kept aA w wm):=hK.out.trans KM.out
     have HO:Hid (w.heap.size+1<wr.heap.size):=hS
     have HW0:Hid (w.heap.size≤wr.heap.size):=hK.out.size
     have HW1:Hid (w.heap.size+1<wr.heap.size):=hS
     have HX:Hid (∀(wx:World) (v:Value) (j:Nat),w.heap.size+1<wx.heap.size→iZ wx (w.heap.size+1) 256 g→iZ (wx.setCell ⟨wr.heap.size,j,none⟩ v) (w.heap.size+1) 256 g):=fun wx v j h1 h2=>h2.kept h1 ((Kept.refl (· = wr.heap.size) wx).setCell (p:=⟨wr.heap.size,j,none⟩) (.inl rfl) v) (by have:=HW1.out;intro h;omega)
     clear hO hKm hSm hta htb
     go_wp2_with fail
     go_loopw [55] (fun i wx=>∃(j:Nat) (h:Nat→UInt8),j≤t.size∧i=.int .i64 (j:Int)∧Hid (iZ wx (w.heap.size+1) 256 g)∧Hid (iZ wx wr.heap.size t.size h)∧Hid (∀k,(hk:k<t.size)→k<j→h k=sU a.data.toList b.data.toList t[k])∧Hid (Kept aA w wx)∧Hid (wr.heap.size<wx.heap.size)) (fun i _=>t.size-(intOf i).toNat)
     case atStart=>exact ⟨0,_,Nat.zero_le _,rfl,BW,O0,fun k _ h=>absurd h (by omega),KW,SM⟩
     case round =>
      obtain ⟨j,h,hj,rfl,hBx,hOx,hHx,hKx,hSx⟩:=hrel
      by_cases hlt:j<t.size
      ·have bj:(j:Int)<(t.size:Int):=by omega
       obtain ⟨c0,f0⟩:=hBx.out t[j].toNat (UInt8.toNat_lt _)
       obtain ⟨c1,f1⟩:=hOx.out j hlt
       have ajH:((t[j].toNat:Nat):Int)<256:=by have:=UInt8.toNat_lt t[j];omega
       have hO2:=ah (hOx.out.set hlt (g t[j].toNat))
       have hB2:=ah (HX.out wr (.int .u8 ((g t[j].toNat).toNat:Int)) j (by have:=hKx.out.size;have:=hSx.out;have:=HW1.out;omega) hBx.out)
       go_wp2_with fail
       refine ⟨⟨j+1,_,by omega,by go_num,hB2,hO2,fun k hk hkj=>?_,hKx.out.setCell (.inr HW0.out) _,by have:=hSx.out;unfold Hid;simpa using this⟩,by simp [intOf];omega⟩
       by_cases e:k=j
       ·subst e
        rw [if_pos rfl,hG.out _ (UInt8.toNat_lt _),UInt8.ofNat_toNat]
       ·rw [if_neg e];exact hHx.out k hk (by omega)
      ·obtain rfl:j=t.size:=by omega
       have hml:(t.data.toList.map (sU a.data.toList b.data.toList)).length=t.size:=by rw [List.length_map,HTL.out]
       have hcv:=BytesIn.conv (w:=wr) (o:=0) (c:=t.size) (bs:=t.data.toList.map (sU a.data.toList b.data.toList)) (fun i hi=>by
        have hi':i<t.size:=by rw [←hml];exact hi
        rw [Nat.zero_add,(hOx.out i hi').1,hHx.out i hi' hi',List.getElem_map];rfl)
       rw [hml] at hcv
       clear hml
       go_wp2_with fail
       go_ret2
       exact ⟨rfl,hKx.out⟩
end Go.Proofs.YtgoijmpahffnhaaGreatDoor
