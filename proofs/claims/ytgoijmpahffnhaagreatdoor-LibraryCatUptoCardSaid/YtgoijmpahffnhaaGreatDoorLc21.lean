/-  -/
import Derived.Test.YtgoijmpahffnhaaGreatDoorLc12
import Derived.Test.YtgoijmpahffnhaaGreatDoorLc20
import Derived.Test.YtgoijmpahffnhaaGreatDoorPs31
import Derived.Test.YtgoijmpahffnhaaGreatDoorLc7
import Derived.Test.YtgoijmpahffnhaaGreatDoorPg3
namespace Go.Proofs.YtgoijmpahffnhaaGreatDoor
set_option linter.all false
open Go.RowKit
set_option maxRecDepth 100000
set_option maxHeartbeats 8000000
def afg (l:List aG) (input:List aj) (w:World) (e:Ending) (w':World):Prop :=
 Kept aB w w'∧((sV input∧e=.returned (.tuple #[.agg #[.slice none 0 0,.int .i64 0,.int .i64 0,.slice none 0 0,.slice none 0 0],.bool false]))∨
  (¬sV input∧∃(oa a3 a4:Option Addr) (oc n3 c3 n4 c4:Nat),e=.returned (.tuple #[.agg #[.slice oa (jc l 100000 0 (qZ input)).output.length oc,.int .i64 (jc l 100000 0 (qZ input)).how,.int .i64 (jc l 100000 0 (qZ input)).steps,.slice a3 n3 c3,.slice a4 n4 c4],.bool true])∧
   bU w' (· < w'.heap.size) oa (jc l 100000 0 (qZ input)).output))
theorem Np {f:Func} {tmps:Array Value} {Q:Ending→World→Prop} {w2:World} {A:Nat} {v0 v1 v2 v3 v4:Value} {b:Bool} (hf:f.results = #[.cell 4 32,.tmp 5]) (h4:tmps.getD 4 undef=.pointer (some ⟨A,0,none⟩)) (h5:tmps.getD 5 undef=.bool b)
  (hA:dO A 32 [v0,v1,v2,v3,v4] w2) (hq:Q (.returned (.tuple #[.agg #[v0,v1,v2,v3,v4],.bool b])) w2):bodyPost Tryz.prog f Q .ret ⟨tmps,[]⟩ w2:=by
 have z0:=hA.cell (i:=0) rfl
 have z1:=hA.cell (i:=1) rfl
 have z2:=hA.cell (i:=2) rfl
 have z3:=hA.cell (i:=3) rfl
 have z4:=hA.cell (i:=4) rfl
 have Nq:tmps[4]?.getD undef=.pointer (some ⟨A,0,none⟩):=by rw [←h4,Array.getD_eq_getD_getElem?]
 have ht5:tmps[5]?.getD undef=.bool b:=by rw [←h5,Array.getD_eq_getD_getElem?]
 exact bodyPost_ret (v:=.tuple #[.agg #[v0,v1,v2,v3,v4],.bool b]) (by simp [results,hf,go_sem,Nq,ht5,z0,z1,z2,z3,z4]) rfl hq
theorem YF (name tx:aj) (l:List aG) (input:List aj) (ia:Option Addr) (ic:Nat) (w:World) (G:World→Prop) (nb:aj→Bool) (kb:Int→Bool) (BH:∀F:dQ,F.G=G→Et F nb kb) (h4:kb 4=false)
  (htx:qX name vC=(tx,0)) (hz:tx.size≤100000) (hrd:qm tx=.ok l) (hck:dI l=(0,0)) (hl0:0<l.length) (hlen:l.length≤1000) (hok:∀s∈l,okS nb kb s=true) (hm:rG w) (hr:jC w)
  (hin:bU w (· < w.heap.size) ia input) (hic:input.length≤ic) (hil:input.length<1000000000) (hg:G w) (gk:∀N wa wb,w.heap.size≤N→Kept (fun b=>N≤b) wa wb→G wa→G wb) :
  Calls Tryz.prog 11 #[.string name,.slice ia input.length ic] w (afg l input w):=by
 obtain ⟨w1,hw1⟩:∃w1,w1=w.alloc (.cells #[.slice none 0 0,.int .i64 0,.int .i64 0,.slice none 0 0,.slice none 0 0] 32):=⟨_,rfl⟩
 obtain ⟨A,hA⟩:∃A,A=w.heap.size:=⟨_,rfl⟩
 have k1:Kept aB w w1:=by rw [hw1];exact (Kept.refl aB w).alloc _
 have A1:Hid (dO A 32 SL w1):=by rw [hw1,hA];exact dO.new w _ SL
 have Ey:Hid (∀wx,Calls Tryz.prog 16 #[.string name] wx (fun e w'=>e=.returned (.tuple #[.string tx,.int .i64 0])∧Kept aB wx w')):=fun wx=>by
  have:=P6 name wx;unfold Nr at this;rw [htx] at this;exact this
 have HRD:Hid (∀wx,Kept aB w wx→Calls Tryz.prog 17 #[.string tx] wx (fun e w'=>∃la lc S,e=.returned (.tuple #[.slice la l.length lc,.agg #[.int .i64 0,.int .i64 0]])∧Kept aB wx w'∧oU w' S la l∧∀b,S b→b<w'.heap.size)):=fun wx hk =>
  (Vj tx wx (by omega) (hm.kept hk (fun h=>h)) (vF hr hk)).mono fun e w' h=>by
   obtain ⟨k_,h_⟩:=h
   rw [hrd] at h_
   obtain ⟨la,lc,S,he,hs,hb⟩:=h_
   exact ⟨la,lc,S,he,k_,hs,fun b hb2=>(hb b hb2).2⟩
 have HW1:=ah hw1;have HA:=ah hA;have K1:=ah k1;have wF:=ah hin;have HG:=ah hg;have GK:=ah gk;have HBH:=ah BH;have QL:=ah hok
 have hAl:A<w1.heap.size∧w.heap.size≤A:=⟨A1.out.lt,by omega⟩
 have HAL:=ah hAl
 clear hw1 hA k1 hin hg gk BH hok hrd htx hm hr hAl
 go_enter Tryz.func11, Tryz.ntmps11
 go_upto_region 1 with fail
 rw [←HW1.out,←HA.out]
 clear HW1
 go_upto_region 2 with (go_at_call 16;(with_reducible refine (Ey.out _).mono ?_);rintro e w2 ⟨rfl,k_⟩;have K2:=ah k_;clear k_)
 go_upto_region 3 with (go_at_call 17;(with_reducible refine (HRD.out _ (K1.out.trans K2.out)).mono ?_);rintro e w3 ⟨la,lc,S,rfl,k_,s_,b_⟩;have K3:=ah k_;have S3:=ah s_;have B3:=ah b_;clear k_ s_ b_)
 obtain ⟨w5,hw5⟩:∃w5,w5=w3.alloc (.cells #[.int .i64 0,.int .i64 0] 39):=⟨_,rfl⟩
 obtain ⟨D,hD⟩:∃D,D=w3.heap.size:=⟨_,rfl⟩
 have k5:Kept aB w3 w5:=by rw [hw5];exact (Kept.refl aB w3).alloc _
 have D5:Hid (Fl D 0 0 w5):=by rw [hw5,hD];exact ay w3 _
 have A5:=ah (((A1.out.kept K2.out (fun h=>h)).kept K3.out (fun h=>h)).kept k5 (fun h=>h))
 have QN:Hid (Kept aB w w5):=((K1.out.trans K2.out).trans K3.out).trans k5
 have HLT:Hid (A<D∧D<w5.heap.size∧w.heap.size≤A∧w.heap.size≤D):=by
  have:=HAL.out;have:=K2.out.size;have:=K3.out.size;have:=D5.out.lt;have:=k5.size
  unfold Hid;omega
 rw [←hw5,←hD]
 obtain ⟨d0,d1,JX,JY⟩:=D5.out.cells
 have e0:decide ((l.length:Int)=0)=false:=au (by omega)
 have e0':((l.length:Int)==0)=false:=by simp;exact fun e=>by rw [e] at hl0;simp at hl0
 have hSf:Safe S aB w3.heap.size:=fun b hb=>⟨B3.out b hb,fun h=>h⟩
 have SQ:=ah (run_any l la lc S input ia ic 100000 w5 G nb kb HBH.out h4 (S3.out.to k5 hSf (fun _ h=>h)) (hSf.mono k5.size) (by omega) hl0 hck QL.out (wF.out.to QN.out (Safe.lt (Nat.le_refl _)) (fun _ h=>Nat.lt_of_lt_of_le h QN.out.size)) hic hil (Nat.le_refl _) (GK.out w.heap.size _ _ (Nat.le_refl _) (QN.out.more fun _ h=>h.elim) HG.out) (fun N wa wb hN hk hg=>GK.out N wa wb (Nat.le_trans QN.out.size hN) hk hg))
 clear hw5 hD k5 hSf
 go_upto_region 5 with fail
 by_cases hb:sV input
 ·have HRB:Hid (Calls Tryz.prog 18 #[.slice la l.length lc,.slice ia input.length ic,.int .i64 100000] w5 (fun e w'=>∃a b:Int,a≠0∧e=.returned (.tuple #[.agg #[.slice none 0 0,.int .i64 0,.int .i64 0,.slice none 0 0,.slice none 0 0],.slice none 0 0,.agg #[.int .i64 a,.int .i64 b]])∧Kept aB w5 w')):=SQ.out.mono (by
   rintro e w' ⟨hk,⟨_,a,b,ha,he⟩|⟨hn,_⟩⟩
   ·exact ⟨a,b,ha,he,hk⟩
   ·exact absurd hb hn)
  clear SQ d0 d1 JX JY
  go_upto_region 6 with (go_at_call 18;(with_reducible refine HRB.out.mono ?_);rintro e w6 ⟨a,b,Vf,rfl,k_⟩;have K6:=ah k_;have e1:(a==0)=false:=(by simpa using Vf);clear k_ Vf;obtain ⟨m0,m1,m2,m3⟩:=((D5.out.kept K6.out (fun h=>h)).kept ((Kept.refl aB w6).alloc (.cells #[.slice none 0 0,.int .i64 0,.int .i64 0,.slice none 0 0,.slice none 0 0] 32)) (fun h=>h)).cells)
  clear m0 m1 m2 m3
  obtain ⟨w7,hw7⟩:∃w7,w7=w6.alloc (.cells #[.slice none 0 0,.int .i64 0,.int .i64 0,.slice none 0 0,.slice none 0 0] 32):=⟨_,rfl⟩
  obtain ⟨E,hE⟩:∃E,E=w6.heap.size:=⟨_,rfl⟩
  have k7:Kept aB w6 w7:=by rw [hw7];exact (Kept.refl aB w6).alloc _
  have Vk:dO E 32 [.slice none 0 0,.int .i64 0,.int .i64 0,.slice none 0 0,.slice none 0 0] w7:=by rw [hw7,hE];exact dO.new w6 _ _
  have A7:=ah ((A5.out.kept K6.out (fun h=>h)).kept k7 (fun h=>h))
  have D7:=((D5.out.kept K6.out (fun h=>h)).kept k7 (fun h=>h)).set (a) (b)
  have kD:Kept (· = D) w7 ((w7.setCell ⟨D,0,none⟩ (.int .i64 (a))).setCell ⟨D,1,none⟩ (.int .i64 (b))):=yS D w7 _ _
  have hne:A≠D∧A≠E∧D≠E∧D≠A∧E≠A∧E≠D:=by have:=K6.out.size;have:=HLT.out;omega
  obtain ⟨ne1,ne2,ne3,ne4,ne5,ne6⟩:=hne
  rw [←hw7,←hE]
  obtain ⟨w8,hw8⟩:∃w8,w8=(w7.setCell ⟨D,0,none⟩ (.int .i64 (a))).setCell ⟨D,1,none⟩ (.int .i64 (b)):=⟨_,rfl⟩
  try dsimp only [Act.put]
  rw [←hw8] at D7 kD⊢
  have A8:=ah (A7.out.kept kD (fun e=>ne1 e))
  have E8:=Vk.kept kD (fun e=>ne6 e)
  obtain ⟨d0,d1,JX,JY⟩:=D7.cells
  have x0:=A8.out.cell (i:=0) rfl;have x1:=A8.out.cell (i:=1) rfl;have x2:=A8.out.cell (i:=2) rfl;have x3:=A8.out.cell (i:=3) rfl;have x4:=A8.out.cell (i:=4) rfl
  have y0:=A8.out.free 0;have y1:=A8.out.free 1;have y2:=A8.out.free 2;have y3:=A8.out.free 3;have y4:=A8.out.free 4
  have z0:=E8.cell (i:=0) rfl;have z1:=E8.cell (i:=1) rfl;have z2:=E8.cell (i:=2) rfl;have z3:=E8.cell (i:=3) rfl;have z4:=E8.cell (i:=4) rfl
  have KD:=ah kD;have K7:=ah k7
  clear hw7 hE k7 Vk D7 kD E8 hw8
  go_wp2_with go_region
  have H5:=Au A8.out rfl (.slice none 0 0) (.int .i64 0) (.int .i64 0) (.slice none 0 0) (.slice none 0 0)
  have k5:=yR A w8 (.slice none 0 0) (.int .i64 0) (.int .i64 0) (.slice none 0 0) (.slice none 0 0)
  have h1:=HLT.out
  refine Np Tryz.results11 rfl rfl (H5.kept (Kept.refl aB _).drew (fun h=>h)) ⟨?_,.inl ⟨hb,rfl⟩⟩
  exact ((((QN.out.trans K6.out).trans K7.out).step KD.out (fun y hy=>.inr (by have:y=D:=hy;omega))).step k5 (fun y hy=>.inr (by have:y=A:=hy;omega))).drew
 ·obtain ⟨R0,hR0⟩:∃R0,R0=jc l 100000 0 (qZ input):=⟨_,rfl⟩
  have HRB:Hid (Calls Tryz.prog 18 #[.slice la l.length lc,.slice ia input.length ic,.int .i64 100000] w5 (fun e w'=>∃(oa a3 a4:Option Addr) (oc n3 c3 n4 c4:Nat) (hv:Value),e=.returned (.tuple #[.agg #[.slice oa R0.output.length oc,.int .i64 R0.how,.int .i64 R0.steps,.slice a3 n3 c3,.slice a4 n4 c4],hv,.agg #[.int .i64 0,.int .i64 0]])∧Kept aB w5 w'∧
    aS w' w5.heap.size 9 1 (.slice oa R0.output.length oc) R0.output.length (R0.output.map Value.string))):=SQ.out.mono (by
   rintro e w' ⟨hk,⟨hn,_⟩|⟨_,oa,a3,a4,oc,n3,c3,n4,c4,hv,he,hw⟩⟩
   ·exact absurd hn hb
   ·rw [←hR0] at he hw;exact ⟨oa,a3,a4,oc,n3,c3,n4,c4,hv,he,hk,hw⟩)
  have HR0:=ah hR0
  clear SQ d0 d1 JX JY hR0
  go_upto_region 6 with (go_at_call 18;(with_reducible refine HRB.out.mono ?_);rintro e w6 ⟨oa,a3,a4,oc,n3,c3,n4,c4,hv,rfl,k_,o_⟩;have K6:=ah k_;have O6:=ah o_;clear k_ o_;obtain ⟨m0,m1,m2,m3⟩:=((D5.out.kept K6.out (fun h=>h)).kept ((Kept.refl aB w6).alloc (.cells #[.slice oa R0.output.length oc,.int .i64 R0.how,.int .i64 R0.steps,.slice a3 n3 c3,.slice a4 n4 c4] 32)) (fun h=>h)).cells)
  clear m0 m1 m2 m3
  obtain ⟨w7,hw7⟩:∃w7,w7=w6.alloc (.cells #[.slice oa R0.output.length oc,.int .i64 R0.how,.int .i64 R0.steps,.slice a3 n3 c3,.slice a4 n4 c4] 32):=⟨_,rfl⟩
  obtain ⟨E,hE⟩:∃E,E=w6.heap.size:=⟨_,rfl⟩
  have k7:Kept aB w6 w7:=by rw [hw7];exact (Kept.refl aB w6).alloc _
  have Vk:dO E 32 [.slice oa R0.output.length oc,.int .i64 R0.how,.int .i64 R0.steps,.slice a3 n3 c3,.slice a4 n4 c4] w7:=by rw [hw7,hE];exact dO.new w6 _ _
  have A7:=ah ((A5.out.kept K6.out (fun h=>h)).kept k7 (fun h=>h))
  have D7:=((D5.out.kept K6.out (fun h=>h)).kept k7 (fun h=>h)).set (0) (0)
  have kD:Kept (· = D) w7 ((w7.setCell ⟨D,0,none⟩ (.int .i64 (0))).setCell ⟨D,1,none⟩ (.int .i64 (0))):=yS D w7 _ _
  have hne:A≠D∧A≠E∧D≠E∧D≠A∧E≠A∧E≠D:=by have:=K6.out.size;have:=HLT.out;omega
  obtain ⟨ne1,ne2,ne3,ne4,ne5,ne6⟩:=hne
  rw [←hw7,←hE]
  obtain ⟨w8,hw8⟩:∃w8,w8=(w7.setCell ⟨D,0,none⟩ (.int .i64 (0))).setCell ⟨D,1,none⟩ (.int .i64 (0)):=⟨_,rfl⟩
  try dsimp only [Act.put]
  rw [←hw8] at D7 kD⊢
  have A8:=ah (A7.out.kept kD (fun e=>ne1 e))
  have E8:=Vk.kept kD (fun e=>ne6 e)
  obtain ⟨d0,d1,JX,JY⟩:=D7.cells
  have x0:=A8.out.cell (i:=0) rfl;have x1:=A8.out.cell (i:=1) rfl;have x2:=A8.out.cell (i:=2) rfl;have x3:=A8.out.cell (i:=3) rfl;have x4:=A8.out.cell (i:=4) rfl
  have y0:=A8.out.free 0;have y1:=A8.out.free 1;have y2:=A8.out.free 2;have y3:=A8.out.free 3;have y4:=A8.out.free 4
  have z0:=E8.cell (i:=0) rfl;have z1:=E8.cell (i:=1) rfl;have z2:=E8.cell (i:=2) rfl;have z3:=E8.cell (i:=3) rfl;have z4:=E8.cell (i:=4) rfl
  have KD:=ah kD;have K7:=ah k7
  clear hw7 hE k7 Vk D7 kD E8 hw8
  go_wp2_with go_region
  have H5:=Au A8.out rfl (.slice oa R0.output.length oc) (.int .i64 R0.how) (.int .i64 R0.steps) (.slice a3 n3 c3) (.slice a4 n4 c4)
  have k5:=yR A w8 (.slice oa R0.output.length oc) (.int .i64 R0.how) (.int .i64 R0.steps) (.slice a3 n3 c3) (.slice a4 n4 c4)
  have h1:=HLT.out
  have O9:=((((O6.out.kept K7.out (fun _ _ h=>h)).kept KD.out (fun b hb e=>by have e:b=D:=e;have:=(O6.out.lt b hb).1;omega)).kept k5 (fun b hb e=>by have e:b=A:=e;have:=(O6.out.lt b hb).1;omega)).kept (Kept.refl aB _).drew (fun _ _ h=>h)).strs rfl
  refine Np Tryz.results11 rfl rfl (H5.kept (Kept.refl aB _).drew (fun h=>h)) ⟨?_,.inr ⟨hb,oa,a3,a4,oc,n3,c3,n4,c4,by rw [←HR0.out],by rw [←HR0.out];exact O9⟩⟩
  exact ((((QN.out.trans K6.out).trans K7.out).step KD.out (fun y hy=>.inr (by have:y=D:=hy;omega))).step k5 (fun y hy=>.inr (by have:y=A:=hy;omega))).drew
end Go.Proofs.YtgoijmpahffnhaaGreatDoor

namespace Go.Proofs.YtgoijmpahffnhaaGreatDoor
set_option linter.all false
open Go.RowKit
set_option maxRecDepth 100000
set_option maxHeartbeats 8000000
def Vl (l:List aG) (input want:List aj):Prop:=¬sV input→((jc l 100000 0 (qZ input)).how≠1→oV 30 12 input=true)∧((jc l 100000 0 (qZ input)).how=1→(jc l 100000 0 (qZ input)).output=want)
theorem Vm (name tx:aj) (l:List aG) (input want:List aj) (ia wa:Option Addr) (ic wc:Nat) (w:World) (G:World→Prop) (nb:aj→Bool) (kb:Int→Bool) (BH:∀F:dQ,F.G=G→Et F nb kb) (h4:kb 4=false)
  (htx:qX name vC=(tx,0)) (hz:tx.size≤100000) (hrd:qm tx=.ok l) (hck:dI l=(0,0)) (hl0:0<l.length) (hlen:l.length≤1000) (hok:∀s∈l,okS nb kb s=true) (hm:rG w) (hr:jC w)
  (hin:bU w (· < w.heap.size) ia input) (hic:input.length≤ic) (hil:input.length<1000000000) (hg:G w) (gk:∀N wa wb,w.heap.size≤N→Kept (fun b=>N≤b) wa wb→G wa→G wb)
  (hwa:bU w (· < w.heap.size) wa want) (hwl:want.length≤1048576) (ade:Vl l input want) :
  Calls Tryz.prog 9 #[.string name,.slice ia input.length ic,.slice wa want.length wc] w (Aw true w):=by
 have HP:=ah (YF name tx l input ia ic w G nb kb BH h4 htx hz hrd hck hl0 hlen hok hm hr hin hic hil hg gk)
 have wF:Hid (∀wx,Kept aB w wx→bU wx (· < wx.heap.size) ia input):=fun wx hk=>hin.to hk (Safe.lt (Nat.le_refl _)) (fun _ h=>Nat.lt_of_lt_of_le h hk.size)
 have HWA:Hid (∀wx,Kept aB w wx→bU wx (· < wx.heap.size) wa want):=fun wx hk=>hwa.to hk (Safe.lt (Nat.le_refl _)) (fun _ h=>Nat.lt_of_lt_of_le h hk.size)
 have HL:=ah ade
 clear BH h4 htx hz hrd hck hl0 hlen hok hm hr hin hg gk hwa ade
 by_cases hb:sV input
 ·have Vo:Hid (Calls Tryz.prog 11 #[.string name,.slice ia input.length ic] w (fun e w'=>e=.returned (.tuple #[.agg #[.slice none 0 0,.int .i64 0,.int .i64 0,.slice none 0 0,.slice none 0 0],.bool false])∧Kept aB w w')):=HP.out.mono (by
   rintro e w' ⟨hk,⟨_,he⟩|⟨hn,_⟩⟩
   ·exact ⟨he,hk⟩
   ·exact absurd hb hn)
  have HB:Hid (oV 65536 1000 input=true):=(YE input).1 hb
  clear HP hb
  go_enter Tryz.func9, Tryz.ntmps9
  go_wp2_with (first
   | (go_at_call 11;(with_reducible refine Vo.out.mono ?_);rintro e w1 ⟨rfl,k_⟩;have K1:=ah k_;have K2:Hid (Kept aB w (w1.alloc (.cells #[.slice none 0 0,.int .i64 0,.int .i64 0,.slice none 0 0,.slice none 0 0] 32))):=k_.alloc _;clear k_)
   | (go_at_call 12;(refine (SN input ia ic _ (wF.out _ K2.out) hil).mono ?_);rintro e w2 ⟨rfl,aK⟩;obtain rfl:=aK.symm;clear aK;rw [HB.out]))
  go_ret
  exact ⟨rfl,K2.out⟩
 ·obtain ⟨R0,hR0⟩:∃R0,R0=jc l 100000 0 (qZ input):=⟨_,rfl⟩
  have Vp:=HL.out hb
  rw [←hR0] at Vp
  have Vo:Hid (Calls Tryz.prog 11 #[.string name,.slice ia input.length ic] w (fun e w'=>∃(oa a3 a4:Option Addr) (oc n3 c3 n4 c4:Nat),e=.returned (.tuple #[.agg #[.slice oa R0.output.length oc,.int .i64 R0.how,.int .i64 R0.steps,.slice a3 n3 c3,.slice a4 n4 c4],.bool true])∧Kept aB w w'∧bU w' (· < w'.heap.size) oa R0.output)):=HP.out.mono (by
   rintro e w' ⟨hk,⟨hn,_⟩|⟨_,oa,a3,a4,oc,n3,c3,n4,c4,he,ho⟩⟩
   ·exact absurd hn hb
   ·rw [←hR0] at he ho;exact ⟨oa,a3,a4,oc,n3,c3,n4,c4,he,hk,ho⟩)
  clear HP HL hb hR0
  by_cases hh:R0.how≠1
  ·have e1:(R0.how != 1)=true:=by simpa using hh
   have HB:Hid (oV 30 12 input=true):=Vp.1 hh
   clear Vp hh
   go_enter Tryz.func9, Tryz.ntmps9
   go_wp2_with (first
    | (go_at_call 11;(with_reducible refine Vo.out.mono ?_);rintro e w1 ⟨oa,a3,a4,oc,n3,c3,n4,c4,rfl,k_,o_⟩;have K2:Hid (Kept aB w (w1.alloc (.cells #[.slice oa R0.output.length oc,.int .i64 R0.how,.int .i64 R0.steps,.slice a3 n3 c3,.slice a4 n4 c4] 32))):=k_.alloc _;clear k_ o_)
    | (go_at_call 13;(refine (Vg input ia ic _ (wF.out _ K2.out) hil).mono ?_);rintro e w2 ⟨rfl,aK⟩;obtain rfl:=aK.symm;clear aK;rw [HB.out]))
   go_ret
   exact ⟨rfl,K2.out⟩
  ·have hh:R0.how=1:=Decidable.not_not.1 hh
   have e1:(R0.how != 1)=false:=by rw [hh];rfl
   have ho:R0.output=want:=Vp.2 hh
   rw [ho] at Vo
   clear Vp hh ho
   go_enter Tryz.func9, Tryz.ntmps9
   go_wp2_with (first
    | (go_at_call 11;(with_reducible refine Vo.out.mono ?_);rintro e w1 ⟨oa,a3,a4,oc,n3,c3,n4,c4,rfl,k_,o_⟩;have K2:Hid (Kept aB w (w1.alloc (.cells #[.slice oa want.length oc,.int .i64 R0.how,.int .i64 R0.steps,.slice a3 n3 c3,.slice a4 n4 c4] 32))):=k_.alloc _;have O2:Hid (bU (w1.alloc (.cells #[.slice oa want.length oc,.int .i64 R0.how,.int .i64 R0.steps,.slice a3 n3 c3,.slice a4 n4 c4] 32)) (· < (w1.alloc (.cells #[.slice oa want.length oc,.int .i64 R0.how,.int .i64 R0.steps,.slice a3 n3 c3,.slice a4 n4 c4] 32)).heap.size) oa want):=o_.to ((Kept.refl aB w1).alloc _) (Safe.lt (Nat.le_refl _)) (fun _ h=>Nat.lt_of_lt_of_le h ((Kept.refl aB w1).alloc _).size);clear k_ o_)
    | (go_at_call 14;(refine (Vh want _ _ _ _ _ O2.out (HWA.out _ K2.out) hwl).mono ?_);rintro e w3 ⟨rfl,k_⟩;have K3:=ah (K2.out.trans k_);clear k_))
   go_ret
   exact ⟨rfl,K3.out⟩
end Go.Proofs.YtgoijmpahffnhaaGreatDoor

namespace Go.Proofs.YtgoijmpahffnhaaGreatDoor
set_option linter.all false
open Go.RowKit
def agO:aA:=.mk 0 ⟨#[]⟩ 0 ⟨#[]⟩ []
def aax:aj:=⟨#[76,79,79,80]⟩
def xG:aG:=⟨aax,3,.mk 3 ⟨#[]⟩ 0 jV [],.mk 3 ⟨#[]⟩ 0 qG [],agO,⟨#[]⟩,⟨#[]⟩,[],[],⟨#[]⟩,aax,⟨#[]⟩⟩
def iQ:List aG:=[xG]
theorem adn:qG≠jV:=by decide
theorem ado:jV≠qG:=by decide
theorem abw (w:aY):okO (jH w qG)=match w.input with
  | []=>(none,w)
  | t::r=>(some t,{w with input:=r}):=by
 unfold jH okO
 rw [if_neg adn,if_pos rfl]
 cases w.input<;>rfl
theorem abx (w:aY) (t:aj):gU w jV t=if 65536<t.size then (false,w) else if 1048576<w.told+t.size+1 then (false,{w with how:=3}) else (true,{w with told:=w.told+(t.size+1),output:=w.output++[t]}):=by
 unfold gU xF
 by_cases h:65536<t.size
 ·rw [if_pos (.inr h),if_pos h]
 ·rw [if_neg (fun e=>e.elim ado h),if_pos rfl,if_neg h]
theorem Y0 (t:aj) (n:Int) (nm:aj) (k:List aA) (w:aY):jy (.mk 3 t n nm k) w=okO (jH w nm):=by
 rw [jy,if_neg (by decide),if_neg (by decide),if_pos rfl]
theorem adp (w:aY):oC xG w=match w.input with
  | []=>(false,w)
  | t::r=>gU {w with input:=r} jV t:=by
 have k2:¬xG.kind=2:=by decide
 have k3:xG.kind=3:=rfl
 unfold oC
 rw [if_neg k2,if_pos k3]
 show (match nT (.mk 3 ⟨#[]⟩ 0 jV []) w with
  | (none,w1)=>(false,w1)
  | (some p,w1)=>match jy (.mk 3 ⟨#[]⟩ 0 qG []) w1 with
   | (none,w2)=>(false,w2)
   | (some t,w2)=>xX w2 p t)=_
 have hp:nT (.mk 3 ⟨#[]⟩ 0 jV []) w=(some ⟨jV,⟨#[]⟩,false⟩,w):=if_pos rfl
 rw [hp]
 dsimp only
 rw [Y0,abw]
 cases w.input<;>rfl
theorem Gz {l:List aG} {n i:Nat} {w:aY} (h:i<l.length) {r:Bool×aY} (hr:oC l[i] (tick w)=r):jc l (n+1) i w=if r.2.how≠0 then r.2 else jc l n (nextL l i (toS l[i] r.1)) r.2:=by
 subst hr;rw [jc,dif_pos h]
theorem Az (n:Nat) (w:aY) (h0:w.how=0):jc iQ (n+1) 0 w=match w.input with
  | []=>{tick w with how:=1}
  | t::r=>if 65536<t.size then {tick w with input:=r,how:=1} else if 1048576<w.told+t.size+1 then {tick w with input:=r,how:=3} else jc iQ n 0 {tick w with input:=r,told:=w.told+(t.size+1),output:=w.output++[t]}:=by
 have hend:∀m v,jc iQ m 1 v={v with how:=1}:=by
  intro m v
  cases m with
  | zero=>rw [jc,dif_neg (by decide)]
  | succ m=>rw [jc,dif_neg (by decide)]
 have hlt:0<iQ.length:=by decide
 have n1:nextL iQ 0 (toS xG false)=1:=by decide
 have n2:nextL iQ 0 (toS xG true)=0:=by decide
 have hd:=adp (tick w)
 have hi:(tick w).input=w.input:=rfl
 rw [hi] at hd
 cases hw:w.input with
 | nil =>
  rw [hw] at hd
  rw [Gz hlt hd,if_neg (fun h=>h h0)]
  show jc iQ n (nextL iQ 0 (toS xG false)) (tick w)=_
  rw [n1,hend]
 | cons t r =>
  rw [hw] at hd
  dsimp only at hd⊢
  rw [abx] at hd
  by_cases h1:65536<t.size
  ·rw [if_pos h1] at hd⊢
   rw [Gz hlt hd,if_neg (fun h=>h h0)]
   show jc iQ n (nextL iQ 0 (toS xG false)) _=_
   rw [n1,hend]
  ·rw [if_neg h1] at hd⊢
   by_cases h2:1048576<w.told+t.size+1
   ·have h2':1048576<({tick w with input:=r}:aY).told+t.size+1:=h2
    rw [if_pos h2'] at hd
    rw [if_pos h2]
    rw [Gz hlt hd,if_pos (by show (3:Int)≠0;decide)]
   ·have h2':¬1048576<({tick w with input:=r}:aY).told+t.size+1:=h2
    rw [if_neg h2'] at hd
    rw [if_neg h2]
    rw [Gz hlt hd,if_neg (fun h=>h h0)]
    show jc iQ n (nextL iQ 0 (toS xG true)) _=_
    rw [n2]
    rfl
def FI (l:List aj):Nat:=(l.map fun t=>t.size+1).sum
theorem QT:∀(inp:List aj) (n:Nat) (w:aY),w.input=inp→w.how=0→(∀t∈inp,t.size≤65536)→(jc iQ n 0 w).how=1→(jc iQ n 0 w).output=w.output++inp
 | [],n,w,hi,h0,_,h=>by
  cases n with
  | zero=>rw [jc,dif_pos (by decide)] at h;cases h
  | succ n=>rw [Az n w h0,hi];simp [tick]
 | t::r,n,w,hi,h0,hz,h=>by
  cases n with
  | zero=>rw [jc,dif_pos (by decide)] at h;cases h
  | succ n =>
   rw [Az n w h0,hi] at h⊢
   have h1:¬65536<t.size:=by have:=hz t (List.mem_cons_self ..);omega
   dsimp only at h⊢
   rw [if_neg h1] at h⊢
   split at h
   ·cases h
   ·rename_i h2
    rw [if_neg h2]
    rw [QT r n {tick w with input:=r,told:=w.told+(t.size+1),output:=w.output++[t]} rfl h0 (fun x hx=>hz x (List.mem_cons_of_mem _ hx)) h]
    simp
theorem QS:∀(inp:List aj) (n:Nat) (w:aY),w.input=inp→w.how=0→(∀t∈inp,t.size≤65536)→inp.length<n→w.told+FI inp≤1048576→(jc iQ n 0 w).how=1
 | [],n,w,hi,h0,_,hn,_=>by
  obtain ⟨m,rfl⟩:∃m,n=m+1:=⟨n-1,by simp at hn;omega⟩
  rw [Az m w h0,hi]
 | t::r,n,w,hi,h0,hz,hn,hs=>by
  obtain ⟨m,rfl⟩:∃m,n=m+1:=⟨n-1,by simp at hn;omega⟩
  rw [Az m w h0,hi]
  have h1:¬65536<t.size:=by have:=hz t (List.mem_cons_self ..);omega
  unfold FI at hs
  rw [List.map_cons,List.sum_cons] at hs
  dsimp only
  rw [if_neg h1,if_neg (by omega)]
  exact QS r m {tick w with input:=r,told:=w.told+(t.size+1),output:=w.output++[t]} rfl h0 (fun x hx=>hz x (List.mem_cons_of_mem _ hx)) (by simpa using hn) (by show w.told+(t.size+1)+FI r≤1048576;unfold FI;omega)
theorem QO:∀(l:List aj),(∀t∈l,t.size≤30)→FI l≤31*l.length
 | [],_=>Nat.le_refl _
 | t::r,h=>by
  have:=QO r fun x hx=>h x (List.mem_cons_of_mem _ hx)
  have:=h t (List.mem_cons_self ..)
  unfold FI at *
  simp only [List.map_cons,List.sum_cons,List.length_cons]
  omega
end Go.Proofs.YtgoijmpahffnhaaGreatDoor

namespace Go.Proofs.YtgoijmpahffnhaaGreatDoor
set_option linter.all false
open Go.RowKit
def TA:List aj→Bool
 | []=>true
 | x::r=>(r.all fun y=>decide (y≠x))&&TA r
def ownB (l:List aj):Bool:=(l.all fun x=>decide (x.data.toList≠[73,78,80,85,84])&&decide (x.data.toList≠[79,85,84,80,85,84]))&&TA l
theorem Q5:∀(l:List aj),TA l=true→∀a (h:a<l.length) b (hb:b<a),l[a]≠l[b]'(by omega)
 | [],_,a,h,_,_=>by simp at h
 | x::r,hd,a,h,b,hb=>by
  rw [TA,Bool.and_eq_true] at hd
  obtain ⟨a',rfl⟩:∃a',a=a'+1:=⟨a-1,by omega⟩
  have ha:a'<r.length:=by simpa using h
  cases b with
  | zero =>
   have:=List.all_eq_true.1 hd.1 _ (List.getElem_mem ha)
   simpa using this
  | succ b =>
   have:=Q5 r hd.2 a' ha b (by omega)
   simpa using this
theorem abW {l:List aj} (h:ownB l=true):GH l:=by
 unfold ownB at h
 rw [Bool.and_eq_true] at h
 intro a ha
 have h1:=List.all_eq_true.1 h.1 _ (List.getElem_mem ha)
 simp only [Bool.and_eq_true,decide_eq_true_eq] at h1
 exact ⟨by rw [ByteArray.toList_eq];exact h1.1,by rw [ByteArray.toList_eq];exact h1.2,fun b hb=>Q5 l h.2 a ha b hb⟩
def ND (l:List aG) (i:Nat) (s:aG):Bool :=
 (decide (s.label.size=0)||(decide (sJ s.label=false)&&decide (pJ l s.label=i))) &&
 (decide (s.kind≠7)||(decide (aJ s.name<0)&&decide (funcF l s.name=i)&&ownB (s.name::s.params++s.locals)))
theorem VX {l:List aG} {i:Nat} {s:aG} (h:ND l i s=true):qH l i s:=by
 unfold ND at h
 simp only [Bool.and_eq_true,Bool.or_eq_true,decide_eq_true_eq] at h
 refine ⟨h.1,fun hk=>?_⟩
 rcases h.2 with h2|h2
 ·exact absurd hk h2
 ·exact ⟨⟨h2.1.1,h2.1.2⟩,abW h2.2⟩
def wrB (l:List aG):Bool:=l.all fun s=>decide (kJ s=0)
def nmB (l:List aG):Nat→List aG→Bool
 | _,[]=>true
 | i,s::r=>ND l i s&&nmB l (i+1) r
def usB (l:List aG):Bool:=l.all fun s=>decide (wo l s=0)
def VY (l:List aG):Bool:=decide (l.length≤1000)&&wrB l&&nmB l 0 l&&usB l
theorem VZ:∀(l:List aG) (i:Nat),wrB l=true→qI i l=none
 | [],_,_=>rfl
 | s::r,i,h=>by
  unfold wrB at h
  rw [List.all_cons,Bool.and_eq_true,decide_eq_true_eq] at h
  rw [qI,if_pos h.1];exact VZ r (i+1) h.2
theorem V3 (l:List aG):∀(r:List aG) (i:Nat),nmB l i r=true→mD l i r=none
 | [],_,_=>rfl
 | s::r,i,h=>by
  rw [nmB,Bool.and_eq_true] at h
  rw [mD,if_pos (VX h.1)];exact V3 l r (i+1) h.2
theorem V6 (l:List aG):∀(r:List aG) (i:Nat),(r.all fun s=>decide (wo l s=0))=true→wU l i r=none
 | [],_,_=>rfl
 | s::r,i,h=>by
  rw [List.all_cons,Bool.and_eq_true,decide_eq_true_eq] at h
  rw [wU,if_pos h.1];exact V6 l r (i+1) h.2
theorem Vr {l:List aG} (h:VY l=true):dI l=(0,0)∧l.length≤1000:=by
 unfold VY at h
 simp only [Bool.and_eq_true,decide_eq_true_eq] at h
 obtain ⟨⟨⟨h1,h2⟩,h3⟩,h4⟩:=h
 refine ⟨?_,h1⟩
 unfold dI
 rw [if_neg (by omega),VZ l 0 h2,V3 l l 0 h3,V6 l l 0 h4]
 rfl
end Go.Proofs.YtgoijmpahffnhaaGreatDoor

namespace Go.Proofs.YtgoijmpahffnhaaGreatDoor
set_option linter.all false
open Go.RowKit
set_option maxRecDepth 100000
set_option maxHeartbeats 1000000
theorem YG {F:dQ}:Et F (fun _=>false) (fun _=>false):=⟨fun _ h=>absurd h Bool.false_ne_true,fun _ h=>absurd h Bool.false_ne_true,fun h=>absurd h Bool.false_ne_true⟩
set_option maxRecDepth 1000000 in
theorem YH:qX ⟨#[99,97,116]⟩ vC=(CS,0):=by kernel_rfl
set_option maxRecDepth 1000000 in
theorem YI:CS.size≤100000:=of_decide_eq_true (by kernel_rfl)
set_option maxRecDepth 1000000 in
theorem YJ:qm CS=.ok iQ:=by kernel_rfl
theorem Vq:dI iQ=(0,0):=(Vr (by kernel_rfl)).1
theorem abn (input:List aj):Vl iQ input input:=by
 intro hb
 have hz:∀t∈input,t.size≤65536:=fun t ht=>by
  obtain ⟨i,hi,rfl⟩:=List.mem_iff_getElem.1 ht
  exact Nat.le_of_not_lt fun h=>hb (.inr ⟨i,hi,h⟩)
 refine ⟨fun hh=>?_,fun hh=>?_⟩
 ·cases hbg:oV 30 12 input with
  | true=>rfl
  | false =>
   exfalso
   unfold oV at hbg
   rw [Bool.or_eq_false_iff] at hbg
   have h12:=of_decide_eq_false hbg.2
   have h30:∀t∈input,t.size≤30:=fun t ht=>by
    have:=List.any_eq_false.1 hbg.1 t ht
    simpa using this
   have:=QO input h30
   exact hh (QS input 100000 (qZ input) rfl rfl hz (by omega) (by show 0+FI input≤1048576;omega))
 ·rw [QT input 100000 (qZ input) rfl rfl hz hh];rfl
theorem cat_walk (input:List aj) (ia:Option Addr) (ic:Nat) (w:World) (hm:rG w) (hr:jC w) (hin:bU w (· < w.heap.size) ia input) (hic:input.length≤ic) (hil:input.length≤1048576) :
  Calls Tryz.prog 3 #[.slice ia input.length ic] w (Aw true w):=by
 have HT:=ah (Vm ⟨#[99,97,116]⟩ CS iQ input input ia ia ic ic w (fun _=>True) (fun _=>false) (fun _=>false) (fun _ _=>YG) rfl YH YI YJ Vq (by decide) (by decide) (by decide) hm hr hin hic (by omega) trivial (fun _ _ _ _ _ _=>trivial) hin hil (abn input))
 clear hm hr hin
 go_enter Tryz.func3, Tryz.ntmps3
 go_wp2_with (go_at_call 9;(with_reducible refine HT.out.mono ?_);rintro e w1 ⟨rfl,k_⟩;have K1:=ah k_;clear k_)
 go_ret
 exact ⟨rfl,K1.out⟩
end Go.Proofs.YtgoijmpahffnhaaGreatDoor
