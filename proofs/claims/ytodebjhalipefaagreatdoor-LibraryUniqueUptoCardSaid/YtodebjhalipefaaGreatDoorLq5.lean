/-  -/
import Derived.Test.YtodebjhalipefaaGreatDoorLq17
import Derived.Test.YtodebjhalipefaaGreatDoorLq27
import Derived.Test.YtodebjhalipefaaGreatDoorLq30
import Derived.Test.YtodebjhalipefaaGreatDoorLq14
namespace Go.Proofs.YtodebjhalipefaaGreatDoor
set_option linter.all false
open Go.RowKit
set_option maxRecDepth 100000
set_option maxHeartbeats 8000000
def lJ (a b:Nat) (input:List aj):Bool:=(input.any fun t=>decide (a<t.size))||decide (b<input.length)
theorem Z8 (input:List aj):o7 input↔lJ 65536 1000 input=true:=by
 unfold o7 lJ
 rw [Bool.or_eq_true,List.any_eq_true]
 constructor
 ·rintro (h|⟨i,hi,h⟩)
  ·exact .inr (ak h)
  ·exact .inl ⟨_,List.getElem_mem hi,ak h⟩
 ·rintro (⟨t,ht,h⟩|h)
  ·obtain ⟨k,hk,rfl⟩:=List.mem_iff_getElem.1 ht
   exact .inr ⟨k,hk,of_decide_eq_true h⟩
  ·exact .inl (of_decide_eq_true h)
theorem TY (input:List aj) (ia:Option Addr) (ic:Nat) (w:World) (hin:aX w (· < w.heap.size) ia input) (hil:input.length<1000000000):Calls Tryz.prog 8 #[.slice ia input.length ic] w (fun e w'=>e=.returned (.bool (lJ 65536 1000 input))∧w'=w):=by
 have uZ:=ah hin
 clear hin
 go_enter Tryz.func8, Tryz.ntmps8
 go_wp2_with fail
 go_loopw [7] (fun i wr=>∃j:Nat,j≤input.length∧i=.int .i64 j∧wr=w∧Hid (∀k,(h:k<input.length)→k<j→input[k].size≤65536)) (fun i _=>input.length-(intOf i).toNat)
 case atStart=>exact ⟨0,Nat.zero_le _,rfl,rfl,fun k _ h=>absurd h (by omega)⟩
 case round =>
  obtain ⟨j,hj,rfl,rfl,hall⟩:=hrel
  by_cases hlt:j<input.length
  ·obtain ⟨bi,oi,rfl,_,hc⟩:=uZ.out (by omega)
   have cj:=hc j hlt
   obtain ⟨tj,htj⟩:∃tj,tj=input[j]:=⟨_,rfl⟩
   rw [←htj] at cj
   have bj:(j:Int)<(input.length:Int):=by omega
   have BU:=ah htj
   clear hc htj
   by_cases hs:65536<tj.size
   ·have e2:decide ((65536:Int)<(tj.size:Int))=true:=ak (by omega)
    have e2':decide (65536<tj.size)=true:=ak hs
    have fin:Hid (lJ 65536 1000 input=true):=by
     unfold Hid lJ
     rw [Bool.or_eq_true,List.any_eq_true]
     exact .inl ⟨input[j],List.getElem_mem hlt,ak (by rw [←BU.out];exact hs)⟩
    go_wp2_with fail
    go_ret
    exact ⟨by rw [fin.out];rfl,rfl⟩
   ·have e2:decide ((65536:Int)<(tj.size:Int))=false:=au (by omega)
    have e2':decide (65536<tj.size)=false:=au hs
    go_wp2_with fail
    go_roundw
    case rel=>exact ⟨j+1,by omega,by go_num,by trivial,fun k hk hkj=>by
     by_cases Nv:k=j
     ·subst Nv;rw [←BU.out];omega
     ·exact hall.out k hk (by omega)⟩
    case measure=>simp [intOf];omega
  ·obtain rfl:j=input.length:=by omega
   have fin:Hid (lJ 65536 1000 input=decide (1000<input.length)):=by
    unfold Hid lJ
    have:(input.any fun t=>decide (65536<t.size))=false:=by
     rw [List.any_eq_false]
     intro t ht
     obtain ⟨k,hk,rfl⟩:=List.mem_iff_getElem.1 ht
     have:=hall.out k hk hk
     simp;omega
    rw [this,Bool.false_or]
   have fin2:Hid (lJ 65536 1000 input=decide ((1000:Int)<(input.length:Int))):=by
    unfold Hid
    rw [fin.out]
    by_cases hx:1000<input.length
    ·rw [ak hx,ak (by omega)]
    ·rw [au hx,au (by omega)]
   go_wp2_with fail
   go_ret
   exact ⟨by first|(rw [fin2.out];rfl)|(rw [fin.out];rfl),rfl⟩
theorem Wj (input:List aj) (ia:Option Addr) (ic:Nat) (w:World) (hin:aX w (· < w.heap.size) ia input) (hil:input.length<1000000000):Calls Tryz.prog 9 #[.slice ia input.length ic] w (fun e w'=>e=.returned (.bool (lJ 30 12 input))∧w'=w):=by
 have uZ:=ah hin
 clear hin
 go_enter Tryz.func9, Tryz.ntmps9
 go_wp2_with fail
 go_loopw [7] (fun i wr=>∃j:Nat,j≤input.length∧i=.int .i64 j∧wr=w∧Hid (∀k,(h:k<input.length)→k<j→input[k].size≤30)) (fun i _=>input.length-(intOf i).toNat)
 case atStart=>exact ⟨0,Nat.zero_le _,rfl,rfl,fun k _ h=>absurd h (by omega)⟩
 case round =>
  obtain ⟨j,hj,rfl,rfl,hall⟩:=hrel
  by_cases hlt:j<input.length
  ·obtain ⟨bi,oi,rfl,_,hc⟩:=uZ.out (by omega)
   have cj:=hc j hlt
   obtain ⟨tj,htj⟩:∃tj,tj=input[j]:=⟨_,rfl⟩
   rw [←htj] at cj
   have bj:(j:Int)<(input.length:Int):=by omega
   have BU:=ah htj
   clear hc htj
   by_cases hs:30<tj.size
   ·have e2:decide ((30:Int)<(tj.size:Int))=true:=ak (by omega)
    have e2':decide (30<tj.size)=true:=ak hs
    have fin:Hid (lJ 30 12 input=true):=by
     unfold Hid lJ
     rw [Bool.or_eq_true,List.any_eq_true]
     exact .inl ⟨input[j],List.getElem_mem hlt,ak (by rw [←BU.out];exact hs)⟩
    go_wp2_with fail
    go_ret
    exact ⟨by rw [fin.out];rfl,rfl⟩
   ·have e2:decide ((30:Int)<(tj.size:Int))=false:=au (by omega)
    have e2':decide (30<tj.size)=false:=au hs
    go_wp2_with fail
    go_roundw
    case rel=>exact ⟨j+1,by omega,by go_num,by trivial,fun k hk hkj=>by
     by_cases Nv:k=j
     ·subst Nv;rw [←BU.out];omega
     ·exact hall.out k hk (by omega)⟩
    case measure=>simp [intOf];omega
  ·obtain rfl:j=input.length:=by omega
   have fin:Hid (lJ 30 12 input=decide (12<input.length)):=by
    unfold Hid lJ
    have:(input.any fun t=>decide (30<t.size))=false:=by
     rw [List.any_eq_false]
     intro t ht
     obtain ⟨k,hk,rfl⟩:=List.mem_iff_getElem.1 ht
     have:=hall.out k hk hk
     simp;omega
    rw [this,Bool.false_or]
   have fin2:Hid (lJ 30 12 input=decide ((12:Int)<(input.length:Int))):=by
    unfold Hid
    rw [fin.out]
    by_cases hx:12<input.length
    ·rw [ak hx,ak (by omega)]
    ·rw [au hx,au (by omega)]
   go_wp2_with fail
   go_ret
   exact ⟨by first|(rw [fin2.out];rfl)|(rw [fin.out];rfl),rfl⟩
theorem Wn (l:List aj) (a b:Option Addr) (ca cb:Nat) (w:World) (ha:aX w (· < w.heap.size) a l) (hb:aX w (· < w.heap.size) b l) (hlen:l.length≤1048576):Calls Tryz.prog 10 #[.slice a l.length ca,.slice b l.length cb] w (wG true w):=by
 have HA:=ah ha;have HB:=ah hb
 clear ha hb
 go_enter Tryz.func10, Tryz.ntmps10
 go_wp2_with fail
 go_loopw [13] (fun i wr=>∃j:Nat,j≤l.length∧i=.int .i64 j∧Hid (Kept aA w wr)) (fun i _=>l.length-(intOf i).toNat)
 case atStart=>exact ⟨0,Nat.zero_le _,rfl,Kept.refl _ _⟩
 case round =>
  obtain ⟨j,hj,rfl,K⟩:=hrel
  by_cases hlt:j<l.length
  ·have e1:decide ((j:Int)<(l.length:Int))=true:=ak (by omega)
   have bj:(j:Int)<(l.length:Int):=by omega
   obtain ⟨ga,oa,rfl,hga,hca⟩:=HA.out.to K.out (Safe.lt (Nat.le_refl _)) (fun _ h=>h) (by omega)
   obtain ⟨gb,ob,rfl,hgb,hcb⟩:=HB.out.to K.out (Safe.lt (Nat.le_refl _)) (fun _ h=>h) (by omega)
   have qa:=hca j hlt;have qb:=hcb j hlt
   obtain ⟨x,hx⟩:∃x,x=l[j]:=⟨_,rfl⟩
   rw [←hx] at qa qb
   clear hca hcb hga hgb hx
   go_wp2_with fail
   go_quiet (fail)
   have K2:Hid (Kept aA w (wr.drewN nq)):=K.out.drewN nq
   go_wp2_with fail
   go_roundw
   case rel=>exact ⟨j+1,by omega,by go_num,K2⟩
   case measure=>simp [intOf];omega
  ·obtain rfl:j=l.length:=by omega
   go_wp2_with fail
   go_ret
   exact ⟨rfl,K.out⟩
end Go.Proofs.YtodebjhalipefaaGreatDoor

namespace Go.Proofs.YtodebjhalipefaaGreatDoor
set_option linter.all false
open Go.RowKit
set_option maxRecDepth 100000
set_option maxHeartbeats 8000000
def agI (l:List aF) (input:List aj) (w:World) (e:Ending) (w':World):Prop :=
 Kept aA w w'∧((o7 input∧e=.returned (.tuple #[.agg #[.slice none 0 0,.int .i64 0,.int .i64 0,.slice none 0 0,.slice none 0 0],.bool false]))∨
  (¬o7 input∧∃(oa a3 a4:Option Addr) (oc n3 c3 n4 c4:Nat),e=.returned (.tuple #[.agg #[.slice oa (jP l 100000 0 (qB input)).output.length oc,.int .i64 (jP l 100000 0 (qB input)).how,.int .i64 (jP l 100000 0 (qB input)).steps,.slice a3 n3 c3,.slice a4 n4 c4],.bool true])∧
   aX w' (· < w'.heap.size) oa (jP l 100000 0 (qB input)).output))
theorem Nz {f:Func} {tmps:Array Value} {Q:Ending→World→Prop} {w2:World} {A:Nat} {v0 v1 v2 v3 v4:Value} {b:Bool} (hf:f.results = #[.cell 4 29,.tmp 5]) (h4:tmps.getD 4 undef=.pointer (some ⟨A,0,none⟩)) (h5:tmps.getD 5 undef=.bool b)
  (hA:dI A 29 [v0,v1,v2,v3,v4] w2) (hq:Q (.returned (.tuple #[.agg #[v0,v1,v2,v3,v4],.bool b])) w2):bodyPost Tryz.prog f Q .ret ⟨tmps,[]⟩ w2:=by
 have z0:=hA.cell (i:=0) rfl
 have z1:=hA.cell (i:=1) rfl
 have z2:=hA.cell (i:=2) rfl
 have z3:=hA.cell (i:=3) rfl
 have z4:=hA.cell (i:=4) rfl
 have NC:tmps[4]?.getD undef=.pointer (some ⟨A,0,none⟩):=by rw [←h4,Array.getD_eq_getD_getElem?]
 have ht5:tmps[5]?.getD undef=.bool b:=by rw [←h5,Array.getD_eq_getD_getElem?]
 exact bodyPost_ret (v:=.tuple #[.agg #[v0,v1,v2,v3,v4],.bool b]) (by simp [results,hf,go_sem,NC,ht5,z0,z1,z2,z3,z4]) rfl hq
theorem Z9 (name tx:aj) (l:List aF) (input:List aj) (ia:Option Addr) (ic:Nat) (w:World) (G:World→Prop) (nb:aj→Bool) (kb:Int→Bool) (BH:∀F:dG,F.G=G→BR F nb kb) (h4:kb 4=false)
  (hnb:Jc tx=true) (htx:oK name sK=(tx,0)) (hz:tx.size≤100000) (hrd:mY tx=.ok l) (hck:bZ l=(0,0)) (hl0:0<l.length) (hlen:l.length≤1000) (hok:∀s∈l,okS nb kb s=true) (hm:oz w) (hr:iD w)
  (hin:aX w (· < w.heap.size) ia input) (hic:input.length≤ic) (hil:input.length<1000000000) (hg:G w) (gk:∀N wa wb,w.heap.size≤N→Kept (fun b=>N≤b) wa wb→G wa→G wb) :
  Calls Tryz.prog 7 #[.string name,.slice ia input.length ic] w (agI l input w):=by
 obtain ⟨w1,hw1⟩:∃w1,w1=w.alloc (.cells #[.slice none 0 0,.int .i64 0,.int .i64 0,.slice none 0 0,.slice none 0 0] 29):=⟨_,rfl⟩
 obtain ⟨A,hA⟩:∃A,A=w.heap.size:=⟨_,rfl⟩
 have k1:Kept aA w w1:=by rw [hw1];exact (Kept.refl aA w).alloc _
 have A1:Hid (dI A 29 TW w1):=by rw [hw1,hA];exact dI.new w _ TW
 have En:Hid (∀wx,Calls Tryz.prog 12 #[.string name] wx (fun e w'=>e=.returned (.tuple #[.string tx,.int .i64 0])∧Kept aA wx w')):=fun wx=>by
  have:=Qq name wx;unfold ND at this;rw [htx] at this;exact this
 have Rq:Hid (∀wx,Kept aA w wx→Calls Tryz.prog 13 #[.string tx] wx (fun e w'=>∃la lc S,e=.returned (.tuple #[.slice la l.length lc,.agg #[.int .i64 0,.int .i64 0]])∧Kept aA wx w'∧mW w' S la l∧∀b,S b→b<w'.heap.size)):=fun wx hk =>
  (Wp tx hnb wx (by omega) (hm.kept hk (fun h=>h)) (uw hr hk)).mono fun e w' h=>by
   obtain ⟨k_,h_⟩:=h
   rw [hrd] at h_
   obtain ⟨la,lc,S,he,hs,hb⟩:=h_
   exact ⟨la,lc,S,he,k_,hs,fun b hb2=>(hb b hb2).2⟩
 have HW1:=ah hw1;have HA:=ah hA;have K1:=ah k1;have uZ:=ah hin;have HG:=ah hg;have GK:=ah gk;have HBH:=ah BH;have Rn:=ah hok
 have hAl:A<w1.heap.size∧w.heap.size≤A:=⟨A1.out.lt,by omega⟩
 have HAL:=ah hAl
 clear hw1 hA k1 hin hg gk BH hok hrd htx hnb hm hr hAl
 go_enter Tryz.func7, Tryz.ntmps7
 go_upto_region 1 with fail
 rw [←HW1.out,←HA.out]
 clear HW1
 go_upto_region 2 with (go_at_call 12;(with_reducible refine (En.out _).mono ?_);rintro e w2 ⟨rfl,k_⟩;have K2:=ah k_;clear k_)
 go_upto_region 3 with (go_at_call 13;(with_reducible refine (Rq.out _ (K1.out.trans K2.out)).mono ?_);rintro e w3 ⟨la,lc,S,rfl,k_,s_,b_⟩;have K3:=ah k_;have S3:=ah s_;have B3:=ah b_;clear k_ s_ b_)
 obtain ⟨w5,hw5⟩:∃w5,w5=w3.alloc (.cells #[.int .i64 0,.int .i64 0] 39):=⟨_,rfl⟩
 obtain ⟨D,hD⟩:∃D,D=w3.heap.size:=⟨_,rfl⟩
 have k5:Kept aA w3 w5:=by rw [hw5];exact (Kept.refl aA w3).alloc _
 have D5:Hid (Fl D 0 0 w5):=by rw [hw5,hD];exact ay w3 _
 have A5:=ah (((A1.out.kept K2.out (fun h=>h)).kept K3.out (fun h=>h)).kept k5 (fun h=>h))
 have Rt:Hid (Kept aA w w5):=((K1.out.trans K2.out).trans K3.out).trans k5
 have zk:Hid (A<D∧D<w5.heap.size∧w.heap.size≤A∧w.heap.size≤D):=by
  have:=HAL.out;have:=K2.out.size;have:=K3.out.size;have:=D5.out.lt;have:=k5.size
  unfold Hid;omega
 rw [←hw5,←hD]
 obtain ⟨d0,d1,JY,JZ⟩:=D5.out.cells
 have e0:decide ((l.length:Int)=0)=false:=au (by omega)
 have e0':((l.length:Int)==0)=false:=by simp;exact fun e=>by rw [e] at hl0;simp at hl0
 have hSf:Safe S aA w3.heap.size:=fun b hb=>⟨B3.out b hb,fun h=>h⟩
 have Ua:=ah (run_any l la lc S input ia ic 100000 w5 G nb kb HBH.out h4 (S3.out.to k5 hSf (fun _ h=>h)) (hSf.mono k5.size) (by omega) hl0 hck Rn.out (uZ.out.to Rt.out (Safe.lt (Nat.le_refl _)) (fun _ h=>Nat.lt_of_lt_of_le h Rt.out.size)) hic hil (Nat.le_refl _) (GK.out w.heap.size _ _ (Nat.le_refl _) (Rt.out.more fun _ h=>h.elim) HG.out) (fun N wa wb hN hk hg=>GK.out N wa wb (Nat.le_trans Rt.out.size hN) hk hg))
 clear hw5 hD k5 hSf
 go_upto_region 5 with fail
 by_cases hb:o7 input
 ·have HRB:Hid (Calls Tryz.prog 14 #[.slice la l.length lc,.slice ia input.length ic,.int .i64 100000] w5 (fun e w'=>∃a b:Int,a≠0∧e=.returned (.tuple #[.agg #[.slice none 0 0,.int .i64 0,.int .i64 0,.slice none 0 0,.slice none 0 0],.slice none 0 0,.agg #[.int .i64 a,.int .i64 b]])∧Kept aA w5 w')):=Ua.out.mono (by
   rintro e w' ⟨hk,⟨_,a,b,ha,he⟩|⟨hn,_⟩⟩
   ·exact ⟨a,b,ha,he,hk⟩
   ·exact absurd hb hn)
  clear Ua d0 d1 JY JZ
  go_upto_region 6 with (go_at_call 14;(with_reducible refine HRB.out.mono ?_);rintro e w6 ⟨a,b,Wi,rfl,k_⟩;have K6:=ah k_;have e1:(a==0)=false:=(by simpa using Wi);clear k_ Wi;obtain ⟨m0,m1,m2,m3⟩:=((D5.out.kept K6.out (fun h=>h)).kept ((Kept.refl aA w6).alloc (.cells #[.slice none 0 0,.int .i64 0,.int .i64 0,.slice none 0 0,.slice none 0 0] 29)) (fun h=>h)).cells)
  clear m0 m1 m2 m3
  obtain ⟨w7,hw7⟩:∃w7,w7=w6.alloc (.cells #[.slice none 0 0,.int .i64 0,.int .i64 0,.slice none 0 0,.slice none 0 0] 29):=⟨_,rfl⟩
  obtain ⟨E,hE⟩:∃E,E=w6.heap.size:=⟨_,rfl⟩
  have k7:Kept aA w6 w7:=by rw [hw7];exact (Kept.refl aA w6).alloc _
  have Wq:dI E 29 [.slice none 0 0,.int .i64 0,.int .i64 0,.slice none 0 0,.slice none 0 0] w7:=by rw [hw7,hE];exact dI.new w6 _ _
  have A7:=ah ((A5.out.kept K6.out (fun h=>h)).kept k7 (fun h=>h))
  have D7:=((D5.out.kept K6.out (fun h=>h)).kept k7 (fun h=>h)).set (a) (b)
  have kD:Kept (· = D) w7 ((w7.setCell ⟨D,0,none⟩ (.int .i64 (a))).setCell ⟨D,1,none⟩ (.int .i64 (b))):=yg D w7 _ _
  have hne:A≠D∧A≠E∧D≠E∧D≠A∧E≠A∧E≠D:=by have:=K6.out.size;have:=zk.out;omega
  obtain ⟨ne1,ne2,ne3,ne4,ne5,ne6⟩:=hne
  rw [←hw7,←hE]
  obtain ⟨w8,hw8⟩:∃w8,w8=(w7.setCell ⟨D,0,none⟩ (.int .i64 (a))).setCell ⟨D,1,none⟩ (.int .i64 (b)):=⟨_,rfl⟩
  try dsimp only [Act.put]
  rw [←hw8] at D7 kD⊢
  have A8:=ah (A7.out.kept kD (fun e=>ne1 e))
  have E8:=Wq.kept kD (fun e=>ne6 e)
  obtain ⟨d0,d1,JY,JZ⟩:=D7.cells
  have x0:=A8.out.cell (i:=0) rfl;have x1:=A8.out.cell (i:=1) rfl;have x2:=A8.out.cell (i:=2) rfl;have x3:=A8.out.cell (i:=3) rfl;have x4:=A8.out.cell (i:=4) rfl
  have y0:=A8.out.free 0;have y1:=A8.out.free 1;have y2:=A8.out.free 2;have y3:=A8.out.free 3;have y4:=A8.out.free 4
  have z0:=E8.cell (i:=0) rfl;have z1:=E8.cell (i:=1) rfl;have z2:=E8.cell (i:=2) rfl;have z3:=E8.cell (i:=3) rfl;have z4:=E8.cell (i:=4) rfl
  have KD:=ah kD;have K7:=ah k7
  clear hw7 hE k7 Wq D7 kD E8 hw8
  go_wp2_with go_region
  have H5:=Aa A8.out rfl (.slice none 0 0) (.int .i64 0) (.int .i64 0) (.slice none 0 0) (.slice none 0 0)
  have k5:=yc A w8 (.slice none 0 0) (.int .i64 0) (.int .i64 0) (.slice none 0 0) (.slice none 0 0)
  have h1:=zk.out
  refine Nz Tryz.results7 rfl rfl (H5.kept (Kept.refl aA _).drew (fun h=>h)) ⟨?_,.inl ⟨hb,rfl⟩⟩
  exact ((((Rt.out.trans K6.out).trans K7.out).step KD.out (fun y hy=>.inr (by have:y=D:=hy;omega))).step k5 (fun y hy=>.inr (by have:y=A:=hy;omega))).drew
 ·obtain ⟨R0,hR0⟩:∃R0,R0=jP l 100000 0 (qB input):=⟨_,rfl⟩
  have HRB:Hid (Calls Tryz.prog 14 #[.slice la l.length lc,.slice ia input.length ic,.int .i64 100000] w5 (fun e w'=>∃(oa a3 a4:Option Addr) (oc n3 c3 n4 c4:Nat) (hv:Value),e=.returned (.tuple #[.agg #[.slice oa R0.output.length oc,.int .i64 R0.how,.int .i64 R0.steps,.slice a3 n3 c3,.slice a4 n4 c4],hv,.agg #[.int .i64 0,.int .i64 0]])∧Kept aA w5 w'∧
    aP w' w5.heap.size 9 1 (.slice oa R0.output.length oc) R0.output.length (R0.output.map Value.string))):=Ua.out.mono (by
   rintro e w' ⟨hk,⟨hn,_⟩|⟨_,oa,a3,a4,oc,n3,c3,n4,c4,hv,he,hw⟩⟩
   ·exact absurd hn hb
   ·rw [←hR0] at he hw;exact ⟨oa,a3,a4,oc,n3,c3,n4,c4,hv,he,hk,hw⟩)
  have HR0:=ah hR0
  clear Ua d0 d1 JY JZ hR0
  go_upto_region 6 with (go_at_call 14;(with_reducible refine HRB.out.mono ?_);rintro e w6 ⟨oa,a3,a4,oc,n3,c3,n4,c4,hv,rfl,k_,o_⟩;have K6:=ah k_;have O6:=ah o_;clear k_ o_;obtain ⟨m0,m1,m2,m3⟩:=((D5.out.kept K6.out (fun h=>h)).kept ((Kept.refl aA w6).alloc (.cells #[.slice oa R0.output.length oc,.int .i64 R0.how,.int .i64 R0.steps,.slice a3 n3 c3,.slice a4 n4 c4] 29)) (fun h=>h)).cells)
  clear m0 m1 m2 m3
  obtain ⟨w7,hw7⟩:∃w7,w7=w6.alloc (.cells #[.slice oa R0.output.length oc,.int .i64 R0.how,.int .i64 R0.steps,.slice a3 n3 c3,.slice a4 n4 c4] 29):=⟨_,rfl⟩
  obtain ⟨E,hE⟩:∃E,E=w6.heap.size:=⟨_,rfl⟩
  have k7:Kept aA w6 w7:=by rw [hw7];exact (Kept.refl aA w6).alloc _
  have Wq:dI E 29 [.slice oa R0.output.length oc,.int .i64 R0.how,.int .i64 R0.steps,.slice a3 n3 c3,.slice a4 n4 c4] w7:=by rw [hw7,hE];exact dI.new w6 _ _
  have A7:=ah ((A5.out.kept K6.out (fun h=>h)).kept k7 (fun h=>h))
  have D7:=((D5.out.kept K6.out (fun h=>h)).kept k7 (fun h=>h)).set (0) (0)
  have kD:Kept (· = D) w7 ((w7.setCell ⟨D,0,none⟩ (.int .i64 (0))).setCell ⟨D,1,none⟩ (.int .i64 (0))):=yg D w7 _ _
  have hne:A≠D∧A≠E∧D≠E∧D≠A∧E≠A∧E≠D:=by have:=K6.out.size;have:=zk.out;omega
  obtain ⟨ne1,ne2,ne3,ne4,ne5,ne6⟩:=hne
  rw [←hw7,←hE]
  obtain ⟨w8,hw8⟩:∃w8,w8=(w7.setCell ⟨D,0,none⟩ (.int .i64 (0))).setCell ⟨D,1,none⟩ (.int .i64 (0)):=⟨_,rfl⟩
  try dsimp only [Act.put]
  rw [←hw8] at D7 kD⊢
  have A8:=ah (A7.out.kept kD (fun e=>ne1 e))
  have E8:=Wq.kept kD (fun e=>ne6 e)
  obtain ⟨d0,d1,JY,JZ⟩:=D7.cells
  have x0:=A8.out.cell (i:=0) rfl;have x1:=A8.out.cell (i:=1) rfl;have x2:=A8.out.cell (i:=2) rfl;have x3:=A8.out.cell (i:=3) rfl;have x4:=A8.out.cell (i:=4) rfl
  have y0:=A8.out.free 0;have y1:=A8.out.free 1;have y2:=A8.out.free 2;have y3:=A8.out.free 3;have y4:=A8.out.free 4
  have z0:=E8.cell (i:=0) rfl;have z1:=E8.cell (i:=1) rfl;have z2:=E8.cell (i:=2) rfl;have z3:=E8.cell (i:=3) rfl;have z4:=E8.cell (i:=4) rfl
  have KD:=ah kD;have K7:=ah k7
  clear hw7 hE k7 Wq D7 kD E8 hw8
  go_wp2_with go_region
  have H5:=Aa A8.out rfl (.slice oa R0.output.length oc) (.int .i64 R0.how) (.int .i64 R0.steps) (.slice a3 n3 c3) (.slice a4 n4 c4)
  have k5:=yc A w8 (.slice oa R0.output.length oc) (.int .i64 R0.how) (.int .i64 R0.steps) (.slice a3 n3 c3) (.slice a4 n4 c4)
  have h1:=zk.out
  have O9:=((((O6.out.kept K7.out (fun _ _ h=>h)).kept KD.out (fun b hb e=>by have e:b=D:=e;have:=(O6.out.lt b hb).1;omega)).kept k5 (fun b hb e=>by have e:b=A:=e;have:=(O6.out.lt b hb).1;omega)).kept (Kept.refl aA _).drew (fun _ _ h=>h)).strs rfl
  refine Nz Tryz.results7 rfl rfl (H5.kept (Kept.refl aA _).drew (fun h=>h)) ⟨?_,.inr ⟨hb,oa,a3,a4,oc,n3,c3,n4,c4,by rw [←HR0.out],by rw [←HR0.out];exact O9⟩⟩
  exact ((((Rt.out.trans K6.out).trans K7.out).step KD.out (fun y hy=>.inr (by have:y=D:=hy;omega))).step k5 (fun y hy=>.inr (by have:y=A:=hy;omega))).drew
end Go.Proofs.YtodebjhalipefaaGreatDoor

namespace Go.Proofs.YtodebjhalipefaaGreatDoor
set_option linter.all false
open Go.RowKit
set_option maxRecDepth 100000
set_option maxHeartbeats 8000000
def Gt (l:List aF) (input want:List aj):Prop:=¬o7 input→((jP l 100000 0 (qB input)).how≠1→lJ 30 12 input=true)∧((jP l 100000 0 (qB input)).how=1→(jP l 100000 0 (qB input)).output=want)
theorem J3 (name tx:aj) (l:List aF) (input want:List aj) (ia wa:Option Addr) (ic wc:Nat) (w:World) (G:World→Prop) (nb:aj→Bool) (kb:Int→Bool) (BH:∀F:dG,F.G=G→BR F nb kb) (h4:kb 4=false)
  (hnb:Jc tx=true) (htx:oK name sK=(tx,0)) (hz:tx.size≤100000) (hrd:mY tx=.ok l) (hck:bZ l=(0,0)) (hl0:0<l.length) (hlen:l.length≤1000) (hok:∀s∈l,okS nb kb s=true) (hm:oz w) (hr:iD w)
  (hin:aX w (· < w.heap.size) ia input) (hic:input.length≤ic) (hil:input.length<1000000000) (hg:G w) (gk:∀N wa wb,w.heap.size≤N→Kept (fun b=>N≤b) wa wb→G wa→G wb)
  (Ws:aX w (· < w.heap.size) wa want) (hwl:want.length≤1048576) (aeB:Gt l input want) :
  Calls Tryz.prog 5 #[.string name,.slice ia input.length ic,.slice wa want.length wc] w (wG true w):=by
 have HP:=ah (Z9 name tx l input ia ic w G nb kb BH h4 hnb htx hz hrd hck hl0 hlen hok hm hr hin hic hil hg gk)
 have uZ:Hid (∀wx,Kept aA w wx→aX wx (· < wx.heap.size) ia input):=fun wx hk=>hin.to hk (Safe.lt (Nat.le_refl _)) (fun _ h=>Nat.lt_of_lt_of_le h hk.size)
 have HWA:Hid (∀wx,Kept aA w wx→aX wx (· < wx.heap.size) wa want):=fun wx hk=>Ws.to hk (Safe.lt (Nat.le_refl _)) (fun _ h=>Nat.lt_of_lt_of_le h hk.size)
 have HL:=ah aeB
 clear BH h4 hnb htx hz hrd hck hl0 hlen hok hm hr hin hg gk Ws aeB
 by_cases hb:o7 input
 ·have Wu:Hid (Calls Tryz.prog 7 #[.string name,.slice ia input.length ic] w (fun e w'=>e=.returned (.tuple #[.agg #[.slice none 0 0,.int .i64 0,.int .i64 0,.slice none 0 0,.slice none 0 0],.bool false])∧Kept aA w w')):=HP.out.mono (by
   rintro e w' ⟨hk,⟨_,he⟩|⟨hn,_⟩⟩
   ·exact ⟨he,hk⟩
   ·exact absurd hb hn)
  have HB:Hid (lJ 65536 1000 input=true):=(Z8 input).1 hb
  clear HP hb
  go_enter Tryz.func5, Tryz.ntmps5
  go_wp2_with (first
   | (go_at_call 7;(with_reducible refine Wu.out.mono ?_);rintro e w1 ⟨rfl,k_⟩;have K1:=ah k_;have K2:Hid (Kept aA w (w1.alloc (.cells #[.slice none 0 0,.int .i64 0,.int .i64 0,.slice none 0 0,.slice none 0 0] 29))):=k_.alloc _;clear k_)
   | (go_at_call 8;(refine (TY input ia ic _ (uZ.out _ K2.out) hil).mono ?_);rintro e w2 ⟨rfl,aH⟩;obtain rfl:=aH.symm;clear aH;rw [HB.out]))
  go_ret
  exact ⟨rfl,K2.out⟩
 ·obtain ⟨R0,hR0⟩:∃R0,R0=jP l 100000 0 (qB input):=⟨_,rfl⟩
  have Wv:=HL.out hb
  rw [←hR0] at Wv
  have Wu:Hid (Calls Tryz.prog 7 #[.string name,.slice ia input.length ic] w (fun e w'=>∃(oa a3 a4:Option Addr) (oc n3 c3 n4 c4:Nat),e=.returned (.tuple #[.agg #[.slice oa R0.output.length oc,.int .i64 R0.how,.int .i64 R0.steps,.slice a3 n3 c3,.slice a4 n4 c4],.bool true])∧Kept aA w w'∧aX w' (· < w'.heap.size) oa R0.output)):=HP.out.mono (by
   rintro e w' ⟨hk,⟨hn,_⟩|⟨_,oa,a3,a4,oc,n3,c3,n4,c4,he,ho⟩⟩
   ·exact absurd hn hb
   ·rw [←hR0] at he ho;exact ⟨oa,a3,a4,oc,n3,c3,n4,c4,he,hk,ho⟩)
  clear HP HL hb hR0
  by_cases hh:R0.how≠1
  ·have e1:(R0.how != 1)=true:=by simpa using hh
   have HB:Hid (lJ 30 12 input=true):=Wv.1 hh
   clear Wv hh
   go_enter Tryz.func5, Tryz.ntmps5
   go_wp2_with (first
    | (go_at_call 7;(with_reducible refine Wu.out.mono ?_);rintro e w1 ⟨oa,a3,a4,oc,n3,c3,n4,c4,rfl,k_,o_⟩;have K2:Hid (Kept aA w (w1.alloc (.cells #[.slice oa R0.output.length oc,.int .i64 R0.how,.int .i64 R0.steps,.slice a3 n3 c3,.slice a4 n4 c4] 29))):=k_.alloc _;clear k_ o_)
    | (go_at_call 9;(refine (Wj input ia ic _ (uZ.out _ K2.out) hil).mono ?_);rintro e w2 ⟨rfl,aH⟩;obtain rfl:=aH.symm;clear aH;rw [HB.out]))
   go_ret
   exact ⟨rfl,K2.out⟩
  ·have hh:R0.how=1:=Decidable.not_not.1 hh
   have e1:(R0.how != 1)=false:=by rw [hh];rfl
   have ho:R0.output=want:=Wv.2 hh
   rw [ho] at Wu
   clear Wv hh ho
   go_enter Tryz.func5, Tryz.ntmps5
   go_wp2_with (first
    | (go_at_call 7;(with_reducible refine Wu.out.mono ?_);rintro e w1 ⟨oa,a3,a4,oc,n3,c3,n4,c4,rfl,k_,o_⟩;have K2:Hid (Kept aA w (w1.alloc (.cells #[.slice oa want.length oc,.int .i64 R0.how,.int .i64 R0.steps,.slice a3 n3 c3,.slice a4 n4 c4] 29))):=k_.alloc _;have O2:Hid (aX (w1.alloc (.cells #[.slice oa want.length oc,.int .i64 R0.how,.int .i64 R0.steps,.slice a3 n3 c3,.slice a4 n4 c4] 29)) (· < (w1.alloc (.cells #[.slice oa want.length oc,.int .i64 R0.how,.int .i64 R0.steps,.slice a3 n3 c3,.slice a4 n4 c4] 29)).heap.size) oa want):=o_.to ((Kept.refl aA w1).alloc _) (Safe.lt (Nat.le_refl _)) (fun _ h=>Nat.lt_of_lt_of_le h ((Kept.refl aA w1).alloc _).size);clear k_ o_)
    | (go_at_call 10;(refine (Wn want _ _ _ _ _ O2.out (HWA.out _ K2.out) hwl).mono ?_);rintro e w3 ⟨rfl,k_⟩;have K3:=ah (K2.out.trans k_);clear k_))
   go_ret
   exact ⟨rfl,K3.out⟩
end Go.Proofs.YtodebjhalipefaaGreatDoor

namespace Go.Proofs.YtodebjhalipefaaGreatDoor
set_option linter.all false
open Go.RowKit
structure jl where
 v:List aj
 inp:List aj
 out:List aj
 told:Nat
def zy:List aj→aj→Nat
 | [],_=>0
 | x::r,n=>if x=n then 0 else zy r n+1
def BZ (ns:List aj) (s:jl) (n:aj):Option aj×jl :=
 if n=fH then (some ⟨#[]⟩,s)
 else if n=iY then match s.inp with
  | []=>(none,s)
  | t::r=>(some t,{s with inp:=r})
 else (some (s.v.getD (zy ns n) ⟨#[]⟩),s)
mutual
def jW (ns:List aj):aB→jl→Option aj×jl
 | .mk k t n nm kids,s =>
  if k=1 then (some t,s) else if k=2 then (some (bY n),s) else if k=3 then BZ ns s nm
  else match uy ns kids s with
   | (none,s1)=>(none,s1)
   | (some a,s1)=>(su k nm a,s1)
def uy (ns:List aj):List aB→jl→Option (List aj)×jl
 | [],s=>(some [],s)
 | x::q,s=>match jW ns x s with
  | (none,s1)=>(none,s1)
  | (some t,s1)=>match uy ns q s1 with
   | (none,s2)=>(none,s2)
   | (some l,s2)=>(some (t::l),s2)
end
def yj (s:jl) (t:aj):Option Bool×jl :=
 if 1048576<s.told+t.size+1 then (none,s) else (some true,{s with told:=s.told+(t.size+1),out:=s.out++[t]})
def wY (ns:List aj) (s:jl) (n t:aj):Option Bool×jl :=
 if n=iY∨65536<t.size then (some false,s) else if n=fH then yj s t else (some true,{s with v:=s.v.set (zy ns n) t})
def oL (ns:List aj) (st:aF) (s:jl):Option Bool×jl :=
 if st.kind=2 then (some (jW ns st.value s).1.isSome,(jW ns st.value s).2)
 else if st.kind=3 then match jW ns st.value s with
  | (none,s1)=>(some false,s1)
  | (some t,s1)=>wY ns s1 st.target.name t
 else (some true,s)
def uh (l:List aF) (ns:List aj):Nat→Nat→jl→Int×jl
 | 0,i,s=>if i<l.length then (2,s) else (1,s)
 | n+1,i,s=>if h:i<l.length then
   match oL ns l[i] s with
   | (none,s1)=>(3,s1)
   | (some b,s1)=>uh l ns n (nextL l i (toS l[i] b)) s1
  else (1,s)
structure sO (ns:List aj) (w:aW) (s:jl):Prop where
 ok:bG w
 how:w.how=0
 len:s.v.length=ns.length
 look:∀n,lookA w.vars n=s.v.getD (zy ns n) ⟨#[]⟩
 keys:∀p∈w.vars,p.1∈ns
 its:w.items=[]
 inp:w.input=s.inp
 out:w.output=s.out
 told:w.told=s.told
theorem NH:∀(ns:List aj) (l:List (aj×aj)),kG l→(∀p∈l,p.1∈ns)→(∀p∈l,p.2.size≤65536)→o8 (fun _=>0) l≤65536*ns.length
 | [],l,_,h,_=>by
  cases l with
  | nil=>exact Nat.zero_le _
  | cons p r=>exact absurd (h p (List.mem_cons_self ..)) (by simp)
 | x::ns,l,ho,h,hz=>by
  have e:=yt (fun _=>0) ho x
  rw [wH] at e
  have ih:=NH ns (iE l x) (ho.drop x) (fun p hp=>by
   obtain ⟨h1,h2⟩:=rG.1 hp
   exact (List.mem_cons.1 (h p h1)).resolve_left h2) (fun p hp=>hz p (rG.1 hp).1)
  have hl:(lookA l x).size≤65536:=by
   by_cases h0:(lookA l x).size=0
   ·omega
   ·exact hz _ (xX h0)
  rw [List.length_cons];omega
theorem WJ:∀(ns:List aj) (n:aj),n∈ns→zy ns n<ns.length
 | x::ns,n,h=>by
  unfold zy
  split
  ·simp
  ·rename_i hx
   have:=WJ ns n ((List.mem_cons.1 h).resolve_left (fun e=>hx e.symm))
   rw [List.length_cons];omega
theorem RD:∀(ns:List aj) (n m:aj),n∈ns→zy ns m=zy ns n→m=n
 | x::ns,n,m,h,he=>by
  unfold zy at he
  by_cases h1:x=m
  ·rw [if_pos h1] at he
   by_cases h2:x=n
   ·exact h1.symm.trans h2
   ·rw [if_neg h2] at he;omega
  ·rw [if_neg h1] at he
   by_cases h2:x=n
   ·rw [if_pos h2] at he;omega
   ·rw [if_neg h2] at he
    exact RD ns n m ((List.mem_cons.1 h).resolve_left (fun e=>h2 e.symm)) (by omega)
section
variable {ns:List aj} {nb:aj→Bool} {kb:Int→Bool} (h4:kb 4=false)
theorem sO.get {w:aW} {s:jl} (h:sO ns w s) (n:aj):(okO (jg w n)).1=(BZ ns s n).1∧sO ns (okO (jg w n)).2 (BZ ns s n).2:=by
 have ho:=(h.ok.get' n).1
 have hi:=h.inp
 unfold jg okO BZ at *
 by_cases h1:n=fH
 ·rw [if_pos h1,if_pos h1] at *;exact ⟨rfl,h⟩
 rw [if_neg h1,if_neg h1] at *
 by_cases h2:n=iY
 ·rw [if_pos h2,if_pos h2] at *
  obtain ⟨v,inp,out,told⟩:=s
  dsimp only at hi
  subst hi
  cases hw:w.input with
  | nil=>rw [hw] at ho;exact ⟨rfl,by simpa [hw] using h⟩
  | cons t r=>rw [hw] at ho;exact ⟨rfl,⟨ho,h.how,h.len,h.look,h.keys,h.its,rfl,h.out,h.told⟩⟩
 ·rw [if_neg h2,if_neg h2] at *
  exact ⟨congrArg some (h.look n),h⟩
include h4 in
mutual
theorem Jd:∀(x:aB) (w:aW) (s:jl),rD nb kb x=true→sO ns w s→(iK x w).1=(jW ns x s).1∧sO ns (iK x w).2 (jW ns x s).2
 | .mk k t n nm kids,w,s,hk,h=>by
  have ih:=NI kids w s
  rw [iK,jW]
  rw [rD] at hk
  by_cases k1:k=1
  ·rw [if_pos k1,if_pos k1];exact ⟨rfl,h⟩
  rw [if_neg k1,if_neg k1]
  by_cases k2:k=2
  ·rw [if_pos k2,if_pos k2];exact ⟨rfl,h⟩
  rw [if_neg k2,if_neg k2]
  by_cases k3:k=3
  ·rw [if_pos k3,if_pos k3];exact h.get nm
  rw [if_neg k3,if_neg k3]
  rw [if_neg k1,if_neg k2,if_neg k3,Bool.and_eq_true] at hk
  have k4:k≠4:=fun e=>by
   have:=hk.2
   rw [if_pos e,h4] at this;cases this
  obtain ⟨e1,e2⟩:=ih hk.1 h
  generalize jh kids w=a at e1 e2⊢
  generalize uy ns kids s=b at e1 e2⊢
  obtain ⟨o1,w1⟩:=a
  obtain ⟨o2,s1⟩:=b
  dsimp only at e1 e2
  subst e1
  cases o1 with
  | none=>exact ⟨rfl,e2⟩
  | some l=>dsimp only;rw [if_neg k4];exact ⟨rfl,e2⟩
theorem NI:∀(l:List aB) (w:aW) (s:jl),yT nb kb l=true→sO ns w s→(jh l w).1=(uy ns l s).1∧sO ns (jh l w).2 (uy ns l s).2
 | [],w,s,_,h=>by rw [jh,uy];exact ⟨rfl,h⟩
 | x::q,w,s,hk,h=>by
  rw [yT,Bool.and_eq_true] at hk
  obtain ⟨e1,e2⟩:=Jd x w s hk.1 h
  rw [jh,uy]
  generalize iK x w=a at e1 e2⊢
  generalize jW ns x s=b at e1 e2⊢
  obtain ⟨o1,w1⟩:=a
  obtain ⟨o2,s1⟩:=b
  dsimp only at e1 e2
  subst e1
  cases o1 with
  | none=>exact ⟨rfl,e2⟩
  | some t =>
   dsimp only
   obtain ⟨e3,e4⟩:=NI q w1 s1 hk.2 e2
   generalize jh q w1=c at e3 e4⊢
   generalize uy ns q s1=d at e3 e4⊢
   obtain ⟨o3,w2⟩:=c
   obtain ⟨o4,s2⟩:=d
   dsimp only at e3 e4
   subst e3
   cases o3 with
   | none=>exact ⟨rfl,e4⟩
   | some r=>exact ⟨rfl,e4⟩
end
def aeI (ns:List aj) (a:Bool×aW) (b:Option Bool×jl):Prop :=
 match b with
 | (none,s)=>a.2.how=3∧a.2.output=s.out
 | (some y,s)=>a.1=y∧sO ns a.2 s
theorem sO.aiu {w:aW} {s:jl} (h:sO ns w s) (hns:ns.length≤15) (n t:aj) (hn:n=fH∨n∈ns):aeI ns (fU w n t) (wY ns s n t):=by
 have ho:=h.ok.set n t
 unfold fU wY at *
 by_cases h1:n=iY∨65536<t.size
 ·rw [if_pos h1,if_pos h1];exact ⟨rfl,h⟩
 rw [if_neg h1] at ho⊢
 rw [if_neg h1]
 by_cases h2:n=fH
 ·rw [if_pos h2] at ho⊢
  rw [if_pos h2]
  unfold wF yj at *
  rw [h.told] at ho⊢
  by_cases h3:1048576<s.told+t.size+1
  ·rw [if_pos h3,if_pos h3];exact ⟨rfl,h.out⟩
  ·rw [if_neg h3] at ho⊢
   rw [if_neg h3]
   exact ⟨rfl,⟨ho,h.how,h.len,h.look,h.keys,h.its,h.inp,by show w.output++[t]=_;rw [h.out],rfl⟩⟩
 ·rw [if_neg h2] at ho⊢
  rw [if_neg h2]
  have hb:=h.ok.bytes
  rw [h.its] at hb
  have hsum:=NH ns w.vars h.ok.vars h.keys (fun p hp=>(h.ok.WA p hp).1)
  have hb':w.bytes=o8 (fun _=>0) w.vars:=hb
  have hnm:=hn.resolve_left h2
  have h3:¬1048576+(lookA w.vars n).size<w.bytes+t.size:=by omega
  rw [if_neg h3] at ho⊢
  refine ⟨rfl,⟨ho,h.how,by rw [List.length_set];exact h.len,fun m=>?_,fun p hp=>?_,h.its,h.inp,h.out,h.told⟩⟩
  ·show lookA (jV w.vars n t) m=_
   by_cases hm:m=n
   ·subst hm
    rw [zA,List.getD_eq_getElem?_getD,List.getElem?_set_self (by rw [h.len];exact WJ ns m hnm)];rfl
   ·rw [yu _ hm,h.look m,List.getD_eq_getElem?_getD,List.getD_eq_getElem?_getD,List.getElem?_set_ne (fun e=>hm (RD ns n m hnm e.symm))]
  ·rcases Fh hp with rfl|hp
   ·exact hnm
   ·exact h.keys p hp
def Ud (ns:List aj) (st:aF):Bool:=decide (st.kind≠3)||(decide (st.target.kind=3)&&(decide (st.target.name=fH)||ns.any (fun m=>decide (m=st.target.name))))
include h4 in
theorem ac7 {w:aW} {s:jl} (hns:ns.length≤15) (st:aF) (hk:okS nb kb st=true) (ha:Ud ns st=true) (h:sO ns w s):aeI ns (l7 st w) (oL ns st s):=by
 unfold l7 oL
 unfold okS at hk
 by_cases k2:st.kind=2
 ·rw [if_pos k2,if_pos k2]
  rw [if_neg (by omega),if_pos k2] at hk
  obtain ⟨e1,e2⟩:=Jd h4 st.value w s hk h
  exact ⟨congrArg Option.isSome e1,e2⟩
 rw [if_neg k2,if_neg k2]
 by_cases k3:st.kind=3
 ·rw [if_pos k3,if_pos k3]
  rw [if_neg (by omega),if_neg k2,Bool.and_eq_true,Bool.and_eq_true] at hk
  unfold Ud at ha
  rw [Bool.or_eq_true] at ha
  have ha:=ha.resolve_left (fun e=>of_decide_eq_true e k3)
  rw [Bool.and_eq_true] at ha
  have hp:nT st.target w=(some ⟨st.target.name,⟨#[]⟩,false⟩,w):=if_pos (of_decide_eq_true ha.1)
  rw [hp]
  dsimp only
  obtain ⟨e1,e2⟩:=Jd h4 st.value w s hk.2.1 h
  have hn:st.target.name=fH∨st.target.name∈ns:=by
   rcases Bool.or_eq_true _ _ ▸ ha.2 with h|h
   ·exact .inl (of_decide_eq_true h)
   ·obtain ⟨m,hm,he⟩:=List.any_eq_true.1 h
    exact .inr (of_decide_eq_true he ▸ hm)
  generalize iK st.value w=a at e1 e2⊢
  generalize jW ns st.value s=b at e1 e2⊢
  obtain ⟨o1,w1⟩:=a
  obtain ⟨o2,s1⟩:=b
  dsimp only at e1 e2
  subst e1
  cases o1 with
  | none=>exact ⟨rfl,e2⟩
  | some t=>exact e2.aiu hns _ t hn
 ·rw [if_neg k3,if_neg k3];exact ⟨rfl,h⟩
theorem sO.tick {w:aW} {s:jl} (h:sO ns w s):sO ns (tick w) s:=⟨h.ok.tick,h.how,h.len,h.look,h.keys,h.its,h.inp,h.out,h.told⟩
include h4 in
theorem RF {l:List aF} (hns:ns.length≤15) (hk:∀st∈l,okS nb kb st=true) (ha:∀st∈l,Ud ns st=true):∀(n i:Nat) (w:aW) (s:jl),sO ns w s→(jP l n i w).how=(uh l ns n i s).1∧(jP l n i w).output=(uh l ns n i s).2.out
 | 0,i,w,s,h=>by
  rw [jP,uh]
  by_cases hi:i<l.length
  ·rw [dif_pos hi,if_pos hi];exact ⟨rfl,h.out⟩
  ·rw [dif_neg hi,if_neg hi];exact ⟨rfl,h.out⟩
 | n+1,i,w,s,h=>by
  rw [jP,uh]
  by_cases hi:i<l.length
  ·rw [dif_pos hi,dif_pos hi]
   have hd:=ac7 h4 hns l[i] (hk _ (List.getElem_mem hi)) (ha _ (List.getElem_mem hi)) h.tick
   generalize l7 l[i] (Go.Proofs.YtodebjhalipefaaGreatDoor.tick w)=a at hd⊢
   generalize oL ns l[i] s=b at hd⊢
   obtain ⟨y,w1⟩:=a
   obtain ⟨o,s1⟩:=b
   cases o with
   | none =>
    have hh:w1.how=3:=hd.1
    have he:w1.output=s1.out:=hd.2
    dsimp only
    rw [if_pos (by rw [hh];decide)]
    exact ⟨hh,he⟩
   | some y2 =>
    obtain ⟨rfl,hr⟩:y=y2∧sO ns w1 s1:=hd
    dsimp only
    rw [if_neg (fun e=>e hr.how)]
    exact RF hns hk ha n _ w1 s1 hr
  ·rw [dif_neg hi,dif_neg hi];exact ⟨rfl,h.out⟩
theorem sO.start {input:List aj} (h:∀t∈input,t.size≤65536):sO ns (qB input) ⟨List.replicate ns.length ⟨#[]⟩,input,[],0⟩ :=
 ⟨bG.start h,rfl,List.length_replicate,fun n=>by
  show (⟨#[]⟩:aj)=_
  rw [List.getD_eq_getElem?_getD,List.getElem?_replicate]
  split<;>rfl,fun p hp=>(by cases hp),rfl,rfl,rfl,rfl⟩
end
def fC (l:List aF) (ns:List aj) (i:Nat) (s:jl) (k:Nat) (r:Int×jl):Prop:=∀n,uh l ns (n+k) i s=r
section
variable {l:List aF} {ns:List aj} {i j k:Nat} {s s1:jl} {r:Int×jl}
theorem fC.fin (h:l.length≤i):fC l ns i s 0 (1,s):=fun n=>by
 cases n with
 | zero=>rw [uh,if_neg (by omega)]
 | succ n=>rw [Nat.add_zero,uh,dif_neg (by omega)]
theorem fC.step {st:aF} {b:Bool} (hi:l[i]?=some st) (hd:oL ns st s=(some b,s1)) (hj:nextL l i (toS st b)=j) (h:fC l ns j s1 k r):fC l ns i s (k+1) r:=fun n=>by
 obtain ⟨hl,rfl⟩:=List.getElem?_eq_some_iff.1 hi
 rw [←Nat.add_assoc,uh,dif_pos hl,hd]
 dsimp only
 rw [hj];exact h n
theorem fC.stop {st:aF} (hi:l[i]?=some st) (hd:oL ns st s=(none,s1)):fC l ns i s 1 (3,s1):=fun n=>by
 obtain ⟨hl,rfl⟩:=List.getElem?_eq_some_iff.1 hi
 rw [uh,dif_pos hl,hd]
theorem NJ (l:List aF) (ns:List aj):∀(n i:Nat) (s:jl),(uh l ns n i s).1≠2→∀m,uh l ns (n+m) i s=uh l ns n i s
 | 0,i,s,h,m=>by
  rw [uh] at h⊢
  by_cases hi:i<l.length
  ·rw [if_pos hi] at h;exact absurd rfl h
  ·rw [if_neg hi]
   cases m with
   | zero=>rw [Nat.add_zero,uh,if_neg hi]
   | succ m=>rw [Nat.zero_add,uh,dif_neg hi]
 | n+1,i,s,h,m=>by
  rw [Nat.add_right_comm,uh]
  rw [uh] at h⊢
  by_cases hi:i<l.length
  ·rw [dif_pos hi] at h⊢
   rw [dif_pos hi]
   generalize oL ns l[i] s=b at h⊢
   obtain ⟨o,s1⟩:=b
   cases o with
   | none=>rfl
   | some y=>exact NJ l ns n _ s1 h m
  ·rw [dif_neg hi,dif_neg hi]
def NK (want:List aj) (r:Int×jl):Prop:=(r.1=1∧r.2.out=want)∨(r.1=3∧1048576<kQ want)
end
theorem Fj (a b:List aj):kQ (a++b)=kQ a+kQ b:=by unfold kQ;rw [List.map_append,List.sum_append]
theorem Fp (t:aj):kQ [t]=t.size+1:=by simp [kQ]
theorem Gv (s:jl) (t:aj) (rest:List aj) (hs:s.told=kQ s.out) :
  (yj s t=(some true,{s with told:=s.told+(t.size+1),out:=s.out++[t]})∧s.told+(t.size+1)=kQ (s.out++[t]))∨(yj s t=(none,s)∧1048576<kQ (s.out++t::rest)):=by
 unfold yj
 by_cases h:1048576<s.told+t.size+1
 ·refine .inr ⟨if_pos h,?_⟩
  rw [show s.out++t::rest=(s.out++[t])++rest by simp,Fj,Fj,Fp,←hs];omega
 ·exact .inl ⟨if_neg h,by rw [Fj,Fp,hs]⟩
theorem Je {input:List aj} (hb:¬o7 input):∀t∈input,t.size≤65536:=fun t ht=>by
 obtain ⟨i,hi,rfl⟩:=List.mem_iff_getElem.1 ht
 exact Nat.le_of_not_lt fun h=>hb (.inr ⟨i,hi,h⟩)
theorem RG {input:List aj} (hbg:lJ 30 12 input=false):(∀t∈input,t.size≤30)∧input.length≤12:=by
 unfold lJ at hbg
 rw [Bool.or_eq_false_iff] at hbg
 exact ⟨fun t ht=>by have:=List.any_eq_false.1 hbg.1 t ht;simpa using this,by have:=of_decide_eq_false hbg.2;omega⟩
theorem NM {l:List aF} {ns:List aj} {nb:aj→Bool} {kb:Int→Bool} (h4:kb 4=false) (hns:ns.length≤15) (hk:∀st∈l,okS nb kb st=true) (ha:∀st∈l,Ud ns st=true) {input want:List aj}
  (H:¬o7 input→∃k r,fC l ns 0 ⟨List.replicate ns.length ⟨#[]⟩,input,[],0⟩ k r∧NK want r∧(lJ 30 12 input=false→k≤100000∧kQ want≤1048576)):Gt l input want:=by
 intro hb
 obtain ⟨e1,e2⟩:=RF h4 hns hk ha 100000 0 _ _ (sO.start (ns:=ns) (Je hb))
 obtain ⟨k,r,hr,hres,hsm⟩:=H hb
 rw [e1,e2]
 refine ⟨fun hh=>?_,fun hh=>?_⟩
 ·cases hbg:lJ 30 12 input with
  | true=>rfl
  | false =>
   exfalso
   obtain ⟨h1,h2⟩:=hsm hbg
   obtain ⟨m,hm⟩:∃m,100000=m+k:=⟨100000-k,by omega⟩
   rw [hm,hr m] at hh
   rcases hres with h|h
   ·exact hh h.1
   ·omega
 ·have h3:=NJ l ns 100000 0 _ (by rw [hh];decide) k
  rw [hr 100000] at h3
  rw [←h3] at hh⊢
  rcases hres with h|h
  ·exact h.2
  ·rw [h.1] at hh;exact absurd hh (by decide)
end Go.Proofs.YtodebjhalipefaaGreatDoor
