/-  -/
import Derived.Test.YtgoijmpahffnhaaGreatDoorLq22
import Derived.Test.YtgoijmpahffnhaaGreatDoorLy2
import Derived.Test.YtgoijmpahffnhaaGreatDoorLq14
import Derived.Test.YtgoijmpahffnhaaGreatDoorLq13
import Derived.Test.YtgoijmpahffnhaaGreatDoorLq10
namespace Go.Proofs.YtgoijmpahffnhaaGreatDoor
set_option linter.all false
open Go.RowKit
set_option maxRecDepth 100000
set_option maxHeartbeats 8000000
def ah3 (l:List aF) (input:List aj) (w:World) (e:Ending) (w':World):Prop :=
 Kept aA w w'∧((pU input∧e=.returned (.tuple #[.agg #[.slice none 0 0,.int .i64 0,.int .i64 0,.slice none 0 0,.slice none 0 0],.bool false]))∨
  (¬pU input∧∃(oa a3 a4:Option Addr) (oc n3 c3 n4 c4:Nat),e=.returned (.tuple #[.agg #[.slice oa (gQ l 100000 0 (pK input)).output.length oc,.int .i64 (gQ l 100000 0 (pK input)).how,.int .i64 (gQ l 100000 0 (pK input)).steps,.slice a3 n3 c3,.slice a4 n4 c4],.bool true])∧
   aQ w' (· < w'.heap.size) oa (gQ l 100000 0 (pK input)).output))
theorem Oa {f:Func} {tmps:Array Value} {Q:Ending→World→Prop} {w2:World} {A:Nat} {v0 v1 v2 v3 v4:Value} {b:Bool} (hf:f.results = #[.cell 4 32,.tmp 5]) (h4:tmps.getD 4 undef=.pointer (some ⟨A,0,none⟩)) (h5:tmps.getD 5 undef=.bool b)
  (hA:dG A 32 [v0,v1,v2,v3,v4] w2) (hq:Q (.returned (.tuple #[.agg #[v0,v1,v2,v3,v4],.bool b])) w2):bodyPost Tryz.prog f Q .ret ⟨tmps,[]⟩ w2:=by
 have z0:=hA.cell (i:=0) rfl
 have z1:=hA.cell (i:=1) rfl
 have z2:=hA.cell (i:=2) rfl
 have z3:=hA.cell (i:=3) rfl
 have z4:=hA.cell (i:=4) rfl
 have Ob:tmps[4]?.getD undef=.pointer (some ⟨A,0,none⟩):=by rw [←h4,Array.getD_eq_getD_getElem?]
 have ht5:tmps[5]?.getD undef=.bool b:=by rw [←h5,Array.getD_eq_getD_getElem?]
 exact bodyPost_ret (v:=.tuple #[.agg #[v0,v1,v2,v3,v4],.bool b]) (by simp [results,hf,go_sem,Ob,ht5,z0,z1,z2,z3,z4]) rfl hq
theorem abw (name tx:aj) (l:List aF) (input:List aj) (ia:Option Addr) (ic:Nat) (w:World) (G:World→Prop) (nb:aj→Bool) (kb:Int→Bool) (BH:∀F:dF,F.G=G→zY F nb kb) (h4:kb 4=false)
  (hnb:AY tx=true) (htx:lS name pV=(tx,0)) (hz:tx.size≤100000) (hrd:kV tx=.ok l) (hck:bY l=(0,0)) (hl0:0<l.length) (hlen:l.length≤1000) (hok:∀s∈l,okS nb kb s=true) (hm:jR w) (hr:eU w)
  (hin:aQ w (· < w.heap.size) ia input) (hic:input.length≤ic) (hil:input.length<1000000000) (hg:G w) (gk:∀N wa wb,w.heap.size≤N→Kept (fun b=>N≤b) wa wb→G wa→G wb) :
  Calls Tryz.prog 11 #[.string name,.slice ia input.length ic] w (ah3 l input w):=by
 obtain ⟨w1,hw1⟩:∃w1,w1=w.alloc (.cells #[.slice none 0 0,.int .i64 0,.int .i64 0,.slice none 0 0,.slice none 0 0] 32):=⟨_,rfl⟩
 obtain ⟨A,hA⟩:∃A,A=w.heap.size:=⟨_,rfl⟩
 have k1:Kept aA w w1:=by rw [hw1];exact (Kept.refl aA w).alloc _
 have A1:Hid (dG A 32 Vd w1):=by rw [hw1,hA];exact dG.new w _ Vd
 have TR:Hid (∀wx,Calls Tryz.prog 16 #[.string name] wx (fun e w'=>e=.returned (.tuple #[.string tx,.int .i64 0])∧Kept aA wx w')):=fun wx=>by
  have:=QS name wx;unfold Oc at this;rw [htx] at this;exact this
 have HRD:Hid (∀wx,Kept aA w wx→Calls Tryz.prog 17 #[.string tx] wx (fun e w'=>∃la lc S,e=.returned (.tuple #[.slice la l.length lc,.agg #[.int .i64 0,.int .i64 0]])∧Kept aA wx w'∧oh w' S la l∧∀b,S b→b<w'.heap.size)):=fun wx hk =>
  (X8 tx hnb wx (by omega) (hm.kept hk (fun h=>h)) (uZ hr hk)).mono fun e w' h=>by
   obtain ⟨k_,h_⟩:=h
   rw [hrd] at h_
   obtain ⟨la,lc,S,he,hs,hb⟩:=h_
   exact ⟨la,lc,S,he,k_,hs,fun b hb2=>(hb b hb2).2⟩
 have HW1:=ah hw1;have HA:=ah hA;have K1:=ah k1;have jL:=ah hin;have HG:=ah hg;have GK:=ah gk;have HBH:=ah BH;have TP:=ah hok
 have hAl:A<w1.heap.size∧w.heap.size≤A:=⟨A1.out.lt,by omega⟩
 have X9:=ah hAl
 clear hw1 hA k1 hin hg gk BH hok hrd htx hnb hm hr hAl
 go_enter Tryz.func11, Tryz.ntmps11
 go_upto_region 1 with fail
 rw [←HW1.out,←HA.out]
 clear HW1
 go_upto_region 2 with (go_at_call 16;(with_reducible refine (TR.out _).mono ?_);rintro e w2 ⟨rfl,k_⟩;have K2:=ah k_;clear k_)
 go_upto_region 3 with (go_at_call 17;(with_reducible refine (HRD.out _ (K1.out.trans K2.out)).mono ?_);rintro e w3 ⟨la,lc,S,rfl,k_,s_,b_⟩;have K3:=ah k_;have S3:=ah s_;have B3:=ah b_;clear k_ s_ b_)
 obtain ⟨w5,hw5⟩:∃w5,w5=w3.alloc (.cells #[.int .i64 0,.int .i64 0] 39):=⟨_,rfl⟩
 obtain ⟨D,hD⟩:∃D,D=w3.heap.size:=⟨_,rfl⟩
 have k5:Kept aA w3 w5:=by rw [hw5];exact (Kept.refl aA w3).alloc _
 have D5:Hid (Fl D 0 0 w5):=by rw [hw5,hD];exact ay w3 _
 have A5:=ah (((A1.out.kept K2.out (fun h=>h)).kept K3.out (fun h=>h)).kept k5 (fun h=>h))
 have TT:Hid (Kept aA w w5):=((K1.out.trans K2.out).trans K3.out).trans k5
 have HLT:Hid (A<D∧D<w5.heap.size∧w.heap.size≤A∧w.heap.size≤D):=by
  have:=X9.out;have:=K2.out.size;have:=K3.out.size;have:=D5.out.lt;have:=k5.size
  unfold Hid;omega
 rw [←hw5,←hD]
 obtain ⟨d0,d1,Ld,Le⟩:=D5.out.cells
 have e0:decide ((l.length:Int)=0)=false:=au (by omega)
 have e0':((l.length:Int)==0)=false:=by simp;exact fun e=>by rw [e] at hl0;simp at hl0
 have hSf:Safe S aA w3.heap.size:=fun b hb=>⟨B3.out b hb,fun h=>h⟩
 have Vf:=ah (run_any l la lc S input ia ic 100000 w5 G nb kb HBH.out h4 (S3.out.to k5 hSf (fun _ h=>h)) (hSf.mono k5.size) (by omega) hl0 hck TP.out (jL.out.to TT.out (Safe.lt (Nat.le_refl _)) (fun _ h=>Nat.lt_of_lt_of_le h TT.out.size)) hic hil (Nat.le_refl _) (GK.out w.heap.size _ _ (Nat.le_refl _) (TT.out.more fun _ h=>h.elim) HG.out) (fun N wa wb hN hk hg=>GK.out N wa wb (Nat.le_trans TT.out.size hN) hk hg))
 clear hw5 hD k5 hSf
 go_upto_region 5 with fail
 by_cases hb:pU input
 ·have HRB:Hid (Calls Tryz.prog 18 #[.slice la l.length lc,.slice ia input.length ic,.int .i64 100000] w5 (fun e w'=>∃a b:Int,a≠0∧e=.returned (.tuple #[.agg #[.slice none 0 0,.int .i64 0,.int .i64 0,.slice none 0 0,.slice none 0 0],.slice none 0 0,.agg #[.int .i64 a,.int .i64 b]])∧Kept aA w5 w')):=Vf.out.mono (by
   rintro e w' ⟨hk,⟨_,a,b,ha,he⟩|⟨hn,_⟩⟩
   ·exact ⟨a,b,ha,he,hk⟩
   ·exact absurd hb hn)
  clear Vf d0 d1 Ld Le
  go_upto_region 6 with (go_at_call 18;(with_reducible refine HRB.out.mono ?_);rintro e w6 ⟨a,b,XZ,rfl,k_⟩;have K6:=ah k_;have e1:(a==0)=false:=(by simpa using XZ);clear k_ XZ;obtain ⟨m0,m1,m2,m3⟩:=((D5.out.kept K6.out (fun h=>h)).kept ((Kept.refl aA w6).alloc (.cells #[.slice none 0 0,.int .i64 0,.int .i64 0,.slice none 0 0,.slice none 0 0] 32)) (fun h=>h)).cells)
  clear m0 m1 m2 m3
  obtain ⟨w7,hw7⟩:∃w7,w7=w6.alloc (.cells #[.slice none 0 0,.int .i64 0,.int .i64 0,.slice none 0 0,.slice none 0 0] 32):=⟨_,rfl⟩
  obtain ⟨E,hE⟩:∃E,E=w6.heap.size:=⟨_,rfl⟩
  have k7:Kept aA w6 w7:=by rw [hw7];exact (Kept.refl aA w6).alloc _
  have Ya:dG E 32 [.slice none 0 0,.int .i64 0,.int .i64 0,.slice none 0 0,.slice none 0 0] w7:=by rw [hw7,hE];exact dG.new w6 _ _
  have A7:=ah ((A5.out.kept K6.out (fun h=>h)).kept k7 (fun h=>h))
  have D7:=((D5.out.kept K6.out (fun h=>h)).kept k7 (fun h=>h)).set (a) (b)
  have kD:Kept (· = D) w7 ((w7.setCell ⟨D,0,none⟩ (.int .i64 (a))).setCell ⟨D,1,none⟩ (.int .i64 (b))):=yV D w7 _ _
  have hne:A≠D∧A≠E∧D≠E∧D≠A∧E≠A∧E≠D:=by have:=K6.out.size;have:=HLT.out;omega
  obtain ⟨ne1,ne2,ne3,ne4,ne5,ne6⟩:=hne
  rw [←hw7,←hE]
  obtain ⟨w8,hw8⟩:∃w8,w8=(w7.setCell ⟨D,0,none⟩ (.int .i64 (a))).setCell ⟨D,1,none⟩ (.int .i64 (b)):=⟨_,rfl⟩
  try dsimp only [Act.put]
  rw [←hw8] at D7 kD⊢
  have A8:=ah (A7.out.kept kD (fun e=>ne1 e))
  have E8:=Ya.kept kD (fun e=>ne6 e)
  obtain ⟨d0,d1,Ld,Le⟩:=D7.cells
  have x0:=A8.out.cell (i:=0) rfl;have x1:=A8.out.cell (i:=1) rfl;have x2:=A8.out.cell (i:=2) rfl;have x3:=A8.out.cell (i:=3) rfl;have x4:=A8.out.cell (i:=4) rfl
  have y0:=A8.out.free 0;have y1:=A8.out.free 1;have y2:=A8.out.free 2;have y3:=A8.out.free 3;have y4:=A8.out.free 4
  have z0:=E8.cell (i:=0) rfl;have z1:=E8.cell (i:=1) rfl;have z2:=E8.cell (i:=2) rfl;have z3:=E8.cell (i:=3) rfl;have z4:=E8.cell (i:=4) rfl
  have KD:=ah kD;have K7:=ah k7
  clear hw7 hE k7 Ya D7 kD E8 hw8
  go_wp2_with go_region
  have H5:=AX A8.out rfl (.slice none 0 0) (.int .i64 0) (.int .i64 0) (.slice none 0 0) (.slice none 0 0)
  have k5:=yU A w8 (.slice none 0 0) (.int .i64 0) (.int .i64 0) (.slice none 0 0) (.slice none 0 0)
  have h1:=HLT.out
  refine Oa Tryz.results11 rfl rfl (H5.kept (Kept.refl aA _).drew (fun h=>h)) ⟨?_,.inl ⟨hb,rfl⟩⟩
  exact ((((TT.out.trans K6.out).trans K7.out).step KD.out (fun y hy=>.inr (by have:y=D:=hy;omega))).step k5 (fun y hy=>.inr (by have:y=A:=hy;omega))).drew
 ·obtain ⟨R0,hR0⟩:∃R0,R0=gQ l 100000 0 (pK input):=⟨_,rfl⟩
  have HRB:Hid (Calls Tryz.prog 18 #[.slice la l.length lc,.slice ia input.length ic,.int .i64 100000] w5 (fun e w'=>∃(oa a3 a4:Option Addr) (oc n3 c3 n4 c4:Nat) (hv:Value),e=.returned (.tuple #[.agg #[.slice oa R0.output.length oc,.int .i64 R0.how,.int .i64 R0.steps,.slice a3 n3 c3,.slice a4 n4 c4],hv,.agg #[.int .i64 0,.int .i64 0]])∧Kept aA w5 w'∧
    aO w' w5.heap.size 9 1 (.slice oa R0.output.length oc) R0.output.length (R0.output.map Value.string))):=Vf.out.mono (by
   rintro e w' ⟨hk,⟨hn,_⟩|⟨_,oa,a3,a4,oc,n3,c3,n4,c4,hv,he,hw⟩⟩
   ·exact absurd hn hb
   ·rw [←hR0] at he hw;exact ⟨oa,a3,a4,oc,n3,c3,n4,c4,hv,he,hk,hw⟩)
  have HR0:=ah hR0
  clear Vf d0 d1 Ld Le hR0
  go_upto_region 6 with (go_at_call 18;(with_reducible refine HRB.out.mono ?_);rintro e w6 ⟨oa,a3,a4,oc,n3,c3,n4,c4,hv,rfl,k_,o_⟩;have K6:=ah k_;have O6:=ah o_;clear k_ o_;obtain ⟨m0,m1,m2,m3⟩:=((D5.out.kept K6.out (fun h=>h)).kept ((Kept.refl aA w6).alloc (.cells #[.slice oa R0.output.length oc,.int .i64 R0.how,.int .i64 R0.steps,.slice a3 n3 c3,.slice a4 n4 c4] 32)) (fun h=>h)).cells)
  clear m0 m1 m2 m3
  obtain ⟨w7,hw7⟩:∃w7,w7=w6.alloc (.cells #[.slice oa R0.output.length oc,.int .i64 R0.how,.int .i64 R0.steps,.slice a3 n3 c3,.slice a4 n4 c4] 32):=⟨_,rfl⟩
  obtain ⟨E,hE⟩:∃E,E=w6.heap.size:=⟨_,rfl⟩
  have k7:Kept aA w6 w7:=by rw [hw7];exact (Kept.refl aA w6).alloc _
  have Ya:dG E 32 [.slice oa R0.output.length oc,.int .i64 R0.how,.int .i64 R0.steps,.slice a3 n3 c3,.slice a4 n4 c4] w7:=by rw [hw7,hE];exact dG.new w6 _ _
  have A7:=ah ((A5.out.kept K6.out (fun h=>h)).kept k7 (fun h=>h))
  have D7:=((D5.out.kept K6.out (fun h=>h)).kept k7 (fun h=>h)).set (0) (0)
  have kD:Kept (· = D) w7 ((w7.setCell ⟨D,0,none⟩ (.int .i64 (0))).setCell ⟨D,1,none⟩ (.int .i64 (0))):=yV D w7 _ _
  have hne:A≠D∧A≠E∧D≠E∧D≠A∧E≠A∧E≠D:=by have:=K6.out.size;have:=HLT.out;omega
  obtain ⟨ne1,ne2,ne3,ne4,ne5,ne6⟩:=hne
  rw [←hw7,←hE]
  obtain ⟨w8,hw8⟩:∃w8,w8=(w7.setCell ⟨D,0,none⟩ (.int .i64 (0))).setCell ⟨D,1,none⟩ (.int .i64 (0)):=⟨_,rfl⟩
  try dsimp only [Act.put]
  rw [←hw8] at D7 kD⊢
  have A8:=ah (A7.out.kept kD (fun e=>ne1 e))
  have E8:=Ya.kept kD (fun e=>ne6 e)
  obtain ⟨d0,d1,Ld,Le⟩:=D7.cells
  have x0:=A8.out.cell (i:=0) rfl;have x1:=A8.out.cell (i:=1) rfl;have x2:=A8.out.cell (i:=2) rfl;have x3:=A8.out.cell (i:=3) rfl;have x4:=A8.out.cell (i:=4) rfl
  have y0:=A8.out.free 0;have y1:=A8.out.free 1;have y2:=A8.out.free 2;have y3:=A8.out.free 3;have y4:=A8.out.free 4
  have z0:=E8.cell (i:=0) rfl;have z1:=E8.cell (i:=1) rfl;have z2:=E8.cell (i:=2) rfl;have z3:=E8.cell (i:=3) rfl;have z4:=E8.cell (i:=4) rfl
  have KD:=ah kD;have K7:=ah k7
  clear hw7 hE k7 Ya D7 kD E8 hw8
  go_wp2_with go_region
  have H5:=AX A8.out rfl (.slice oa R0.output.length oc) (.int .i64 R0.how) (.int .i64 R0.steps) (.slice a3 n3 c3) (.slice a4 n4 c4)
  have k5:=yU A w8 (.slice oa R0.output.length oc) (.int .i64 R0.how) (.int .i64 R0.steps) (.slice a3 n3 c3) (.slice a4 n4 c4)
  have h1:=HLT.out
  have O9:=((((O6.out.kept K7.out (fun _ _ h=>h)).kept KD.out (fun b hb e=>by have e:b=D:=e;have:=(O6.out.lt b hb).1;omega)).kept k5 (fun b hb e=>by have e:b=A:=e;have:=(O6.out.lt b hb).1;omega)).kept (Kept.refl aA _).drew (fun _ _ h=>h)).strs rfl
  refine Oa Tryz.results11 rfl rfl (H5.kept (Kept.refl aA _).drew (fun h=>h)) ⟨?_,.inr ⟨hb,oa,a3,a4,oc,n3,c3,n4,c4,by rw [←HR0.out],by rw [←HR0.out];exact O9⟩⟩
  exact ((((TT.out.trans K6.out).trans K7.out).step KD.out (fun y hy=>.inr (by have:y=D:=hy;omega))).step k5 (fun y hy=>.inr (by have:y=A:=hy;omega))).drew
end Go.Proofs.YtgoijmpahffnhaaGreatDoor

namespace Go.Proofs.YtgoijmpahffnhaaGreatDoor
set_option linter.all false
open Go.RowKit
set_option maxRecDepth 100000
set_option maxHeartbeats 8000000
def yh (l:List aF) (input want:List aj):Prop:=¬pU input→((gQ l 100000 0 (pK input)).how≠1→kK 30 12 input=true)∧((gQ l 100000 0 (pK input)).how=1→(gQ l 100000 0 (pK input)).output=want)
theorem wo (name tx:aj) (l:List aF) (input want:List aj) (ia wa:Option Addr) (ic wc:Nat) (w:World) (G:World→Prop) (nb:aj→Bool) (kb:Int→Bool) (BH:∀F:dF,F.G=G→zY F nb kb) (h4:kb 4=false)
  (hnb:AY tx=true) (htx:lS name pV=(tx,0)) (hz:tx.size≤100000) (hrd:kV tx=.ok l) (hck:bY l=(0,0)) (hl0:0<l.length) (hlen:l.length≤1000) (hok:∀s∈l,okS nb kb s=true) (hm:jR w) (hr:eU w)
  (hin:aQ w (· < w.heap.size) ia input) (hic:input.length≤ic) (hil:input.length<1000000000) (hg:G w) (gk:∀N wa wb,w.heap.size≤N→Kept (fun b=>N≤b) wa wb→G wa→G wb)
  (wu:aQ w (· < w.heap.size) wa want) (hwl:want.length≤1048576) (af6:yh l input want) :
  Calls Tryz.prog 9 #[.string name,.slice ia input.length ic,.slice wa want.length wc] w (ug true w):=by
 have HP:=ah (abw name tx l input ia ic w G nb kb BH h4 hnb htx hz hrd hck hl0 hlen hok hm hr hin hic hil hg gk)
 have jL:Hid (∀wx,Kept aA w wx→aQ wx (· < wx.heap.size) ia input):=fun wx hk=>hin.to hk (Safe.lt (Nat.le_refl _)) (fun _ h=>Nat.lt_of_lt_of_le h hk.size)
 have HWA:Hid (∀wx,Kept aA w wx→aQ wx (· < wx.heap.size) wa want):=fun wx hk=>wu.to hk (Safe.lt (Nat.le_refl _)) (fun _ h=>Nat.lt_of_lt_of_le h hk.size)
 have HL:=ah af6
 clear BH h4 hnb htx hz hrd hck hl0 hlen hok hm hr hin hg gk wu af6
 by_cases hb:pU input
 ·have Yb:Hid (Calls Tryz.prog 11 #[.string name,.slice ia input.length ic] w (fun e w'=>e=.returned (.tuple #[.agg #[.slice none 0 0,.int .i64 0,.int .i64 0,.slice none 0 0,.slice none 0 0],.bool false])∧Kept aA w w')):=HP.out.mono (by
   rintro e w' ⟨hk,⟨_,he⟩|⟨hn,_⟩⟩
   ·exact ⟨he,hk⟩
   ·exact absurd hb hn)
  have HB:Hid (kK 65536 1000 input=true):=(abv input).1 hb
  clear HP hb
  go_enter Tryz.func9, Tryz.ntmps9
  go_wp2_with (first
   | (go_at_call 11;(with_reducible refine Yb.out.mono ?_);rintro e w1 ⟨rfl,k_⟩;have K1:=ah k_;have K2:Hid (Kept aA w (w1.alloc (.cells #[.slice none 0 0,.int .i64 0,.int .i64 0,.slice none 0 0,.slice none 0 0] 32))):=k_.alloc _;clear k_)
   | (go_at_call 12;(refine (Ve input ia ic _ (jL.out _ K2.out) hil).mono ?_);rintro e w2 ⟨rfl,aI⟩;obtain rfl:=aI.symm;clear aI;rw [HB.out]))
  go_ret
  exact ⟨rfl,K2.out⟩
 ·obtain ⟨R0,hR0⟩:∃R0,R0=gQ l 100000 0 (pK input):=⟨_,rfl⟩
  have Yc:=HL.out hb
  rw [←hR0] at Yc
  have Yb:Hid (Calls Tryz.prog 11 #[.string name,.slice ia input.length ic] w (fun e w'=>∃(oa a3 a4:Option Addr) (oc n3 c3 n4 c4:Nat),e=.returned (.tuple #[.agg #[.slice oa R0.output.length oc,.int .i64 R0.how,.int .i64 R0.steps,.slice a3 n3 c3,.slice a4 n4 c4],.bool true])∧Kept aA w w'∧aQ w' (· < w'.heap.size) oa R0.output)):=HP.out.mono (by
   rintro e w' ⟨hk,⟨hn,_⟩|⟨_,oa,a3,a4,oc,n3,c3,n4,c4,he,ho⟩⟩
   ·exact absurd hn hb
   ·rw [←hR0] at he ho;exact ⟨oa,a3,a4,oc,n3,c3,n4,c4,he,hk,ho⟩)
  clear HP HL hb hR0
  by_cases hh:R0.how≠1
  ·have e1:(R0.how != 1)=true:=by simpa using hh
   have HB:Hid (kK 30 12 input=true):=Yc.1 hh
   clear Yc hh
   go_enter Tryz.func9, Tryz.ntmps9
   go_wp2_with (first
    | (go_at_call 11;(with_reducible refine Yb.out.mono ?_);rintro e w1 ⟨oa,a3,a4,oc,n3,c3,n4,c4,rfl,k_,o_⟩;have K2:Hid (Kept aA w (w1.alloc (.cells #[.slice oa R0.output.length oc,.int .i64 R0.how,.int .i64 R0.steps,.slice a3 n3 c3,.slice a4 n4 c4] 32))):=k_.alloc _;clear k_ o_)
    | (go_at_call 13;(refine (X0 input ia ic _ (jL.out _ K2.out) hil).mono ?_);rintro e w2 ⟨rfl,aI⟩;obtain rfl:=aI.symm;clear aI;rw [HB.out]))
   go_ret
   exact ⟨rfl,K2.out⟩
  ·have hh:R0.how=1:=Decidable.not_not.1 hh
   have e1:(R0.how != 1)=false:=by rw [hh];rfl
   have ho:R0.output=want:=Yc.2 hh
   rw [ho] at Yb
   clear Yc hh ho
   go_enter Tryz.func9, Tryz.ntmps9
   go_wp2_with (first
    | (go_at_call 11;(with_reducible refine Yb.out.mono ?_);rintro e w1 ⟨oa,a3,a4,oc,n3,c3,n4,c4,rfl,k_,o_⟩;have K2:Hid (Kept aA w (w1.alloc (.cells #[.slice oa want.length oc,.int .i64 R0.how,.int .i64 R0.steps,.slice a3 n3 c3,.slice a4 n4 c4] 32))):=k_.alloc _;have O2:Hid (aQ (w1.alloc (.cells #[.slice oa want.length oc,.int .i64 R0.how,.int .i64 R0.steps,.slice a3 n3 c3,.slice a4 n4 c4] 32)) (· < (w1.alloc (.cells #[.slice oa want.length oc,.int .i64 R0.how,.int .i64 R0.steps,.slice a3 n3 c3,.slice a4 n4 c4] 32)).heap.size) oa want):=o_.to ((Kept.refl aA w1).alloc _) (Safe.lt (Nat.le_refl _)) (fun _ h=>Nat.lt_of_lt_of_le h ((Kept.refl aA w1).alloc _).size);clear k_ o_)
    | (go_at_call 14;(refine (X7 want _ _ _ _ _ O2.out (HWA.out _ K2.out) hwl).mono ?_);rintro e w3 ⟨rfl,k_⟩;have K3:=ah (K2.out.trans k_);clear k_))
   go_ret
   exact ⟨rfl,K3.out⟩
end Go.Proofs.YtgoijmpahffnhaaGreatDoor

namespace Go.Proofs.YtgoijmpahffnhaaGreatDoor
set_option linter.all false
open Go.RowKit
def wF (e:aB):aF:=⟨qF,3,.mk 3 ⟨#[]⟩ 0 dA [],e,Dx,⟨#[]⟩,⟨#[]⟩,[],[],⟨#[]⟩,qF,⟨#[]⟩⟩
def eP (e:aB):List aF:=[wF e]
structure Bg (e:aB) (f:aj→aj):Prop where
 no:∀w,w.input=[]→fK e w=(none,w)
 yes:∀w t r,w.input=t::r→t.size≤65536→fK e w=(some (f t),{w with input:=r})
 sz:∀t,t.size≤65536→(f t).size=t.size
theorem YC (w:aU):lM (.mk 3 ⟨#[]⟩ 0 dA []) w=(some ⟨dA,⟨#[]⟩,false⟩,w):=if_pos rfl
theorem Uk (e:aB) (w:aU):lN (wF e) w=match fK e w with
  | (none,w2)=>(false,w2)
  | (some t,w2)=>fH w2 dA t:=by
 have k2:¬(wF e).kind=2:=show ¬(3:Int)=2 by decide
 have k3:(wF e).kind=3:=rfl
 unfold lN
 rw [if_neg k2,if_pos k3]
 show (match lM (.mk 3 ⟨#[]⟩ 0 dA []) w with
  | (none,w1)=>(false,w1)
  | (some p,w1)=>match fK e w1 with
   | (none,w2)=>(false,w2)
   | (some t,w2)=>x9 w2 p t)=_
 rw [YC]
 rfl
theorem YD (e:aB) (m:Nat) (v:aU):gQ (eP e) m 1 v={v with how:=1}:=by
 have h:¬1<(eP e).length:=show ¬1<1 by decide
 cases m with
 | zero=>rw [gQ,dif_neg h]
 | succ m=>rw [gQ,dif_neg h]
theorem aeH (e:aB):nextL (eP e) 0 (toS (wF e) false)=1:=rfl
theorem aeI (e:aB):nextL (eP e) 0 (toS (wF e) true)=0:=rfl
theorem Ul {e:aB} {f:aj→aj} (L:Bg e f) (n:Nat) (w:aU) (h0:w.how=0) (hw:w.input=[]):gQ (eP e) (n+1) 0 w={tick w with how:=1}:=by
 have hlt:0<(eP e).length:=show 0<1 by decide
 have hd:=Uk e (tick w)
 rw [L.no (tick w) hw] at hd
 rw [OB hlt hd,if_neg (fun h=>h h0)]
 show gQ (eP e) n (nextL (eP e) 0 (toS (wF e) false)) (tick w)=_
 rw [aeH,YD]
theorem Lj {e:aB} {f:aj→aj} (L:Bg e f) (n:Nat) (w:aU) (h0:w.how=0) (t:aj) (r:List aj) (hw:w.input=t::r) (hz:t.size≤65536):gQ (eP e) (n+1) 0 w =
  if 1048576<w.told+t.size+1 then {tick w with input:=r,how:=3} else gQ (eP e) n 0 {tick w with input:=r,told:=w.told+(t.size+1),output:=w.output++[f t]}:=by
 have hlt:0<(eP e).length:=show 0<1 by decide
 have hd:=Uk e (tick w)
 rw [L.yes (tick w) t r hw hz] at hd
 dsimp only at hd
 rw [aeG,L.sz t hz,if_neg (by omega)] at hd
 by_cases h2:1048576<w.told+t.size+1
 ·have h2':1048576<({tick w with input:=r}:aU).told+t.size+1:=h2
  rw [if_pos h2'] at hd
  rw [if_pos h2]
  rw [OB hlt hd,if_pos (by show (3:Int)≠0;decide)]
 ·have h2':¬1048576<({tick w with input:=r}:aU).told+t.size+1:=h2
  rw [if_neg h2'] at hd
  rw [if_neg h2]
  rw [OB hlt hd,if_neg (fun h=>h h0)]
  show gQ (eP e) n (nextL (eP e) 0 (toS (wF e) true)) _=_
  rw [aeI]
  rfl
theorem Ll (e:aB) (w:aU) (h:(gQ (eP e) 0 0 w).how=1):False:=by
 have hlt:0<(eP e).length:=show 0<1 by decide
 rw [gQ,dif_pos hlt] at h;cases h
theorem OC {e:aB} {f:aj→aj} (L:Bg e f):∀(inp:List aj) (n:Nat) (w:aU),w.input=inp→w.how=0→(∀t∈inp,t.size≤65536)→(gQ (eP e) n 0 w).how=1→(gQ (eP e) n 0 w).output=w.output++inp.map f
 | [],n,w,hi,h0,_,h=>by
  cases n with
  | zero=>exact (Ll e w h).elim
  | succ n=>rw [Ul L n w h0 hi];simp [tick]
 | t::r,n,w,hi,h0,hz,h=>by
  cases n with
  | zero=>exact (Ll e w h).elim
  | succ n =>
   rw [Lj L n w h0 t r hi (hz t (List.mem_cons_self ..))] at h⊢
   split at h
   ·cases h
   ·rename_i h2
    rw [if_neg h2]
    rw [OC L r n {tick w with input:=r,told:=w.told+(t.size+1),output:=w.output++[f t]} rfl h0 (fun x hx=>hz x (List.mem_cons_of_mem _ hx)) h]
    simp
theorem OD {e:aB} {f:aj→aj} (L:Bg e f):∀(inp:List aj) (n:Nat) (w:aU),w.input=inp→w.how=0→(∀t∈inp,t.size≤65536)→inp.length<n→w.told+jk inp≤1048576→(gQ (eP e) n 0 w).how=1
 | [],n,w,hi,h0,_,hn,_=>by
  obtain ⟨m,rfl⟩:∃m,n=m+1:=⟨n-1,by simp at hn;omega⟩
  rw [Ul L m w h0 hi]
 | t::r,n,w,hi,h0,hz,hn,hs=>by
  obtain ⟨m,rfl⟩:∃m,n=m+1:=⟨n-1,by simp at hn;omega⟩
  rw [Lj L m w h0 t r hi (hz t (List.mem_cons_self ..))]
  unfold jk at hs
  rw [List.map_cons,List.sum_cons] at hs
  rw [if_neg (by omega)]
  exact OD L r m {tick w with input:=r,told:=w.told+(t.size+1),output:=w.output++[f t]} rfl h0 (fun x hx=>hz x (List.mem_cons_of_mem _ hx)) (by simpa using hn) (by show w.told+(t.size+1)+jk r≤1048576;unfold jk;omega)
theorem line_law {e:aB} {f:aj→aj} (L:Bg e f) (input:List aj):yh (eP e) input (input.map f):=by
 intro hb
 have hz:∀t∈input,t.size≤65536:=fun t ht=>by
  obtain ⟨i,hi,rfl⟩:=List.mem_iff_getElem.1 ht
  exact Nat.le_of_not_lt fun h=>hb (.inr ⟨i,hi,h⟩)
 refine ⟨fun hh=>?_,fun hh=>?_⟩
 ·cases hbg:kK 30 12 input with
  | true=>rfl
  | false =>
   exfalso
   unfold kK at hbg
   rw [Bool.or_eq_false_iff] at hbg
   have h12:=of_decide_eq_false hbg.2
   have h30:∀t∈input,t.size≤30:=fun t ht=>by
    have:=List.any_eq_false.1 hbg.1 t ht
    simpa using this
   have:=JH input h30
   exact hh (OD L input 100000 (pK input) rfl rfl hz (by omega) (by show 0+jk input≤1048576;omega))
 ·rw [OC L input 100000 (pK input) rfl rfl hz hh];rfl
end Go.Proofs.YtgoijmpahffnhaaGreatDoor

namespace Go.Proofs.YtgoijmpahffnhaaGreatDoor
set_option linter.all false
open Go.RowKit
set_option maxRecDepth 100000
set_option maxHeartbeats 2000000
def DC:aj:=⟨#[82,69,86,69,82,83,69]⟩
def WA:aB:=.mk 6 ⟨#[]⟩ 0 DC [.mk 3 ⟨#[]⟩ 0 gW []]
def JQ:List aF:=eP WA
def mY (t:aj):aj:=if 65536<t.size then ⟨#[]⟩ else ⟨t.data.toList.reverse.toArray⟩
def adI (n:aj):Bool:=decide (n=DC)
theorem ah9 (t:aj) (h:t.size≤65536):bJ DC [t]=some (mY t):=by
 unfold bJ
 dsimp only
 rw [if_neg (by decide +kernel),if_neg (by decide +kernel),if_pos (by decide +kernel)]
 show Dz t=_
 unfold Dz mY
 rw [if_neg (by omega),if_neg (by omega)]
theorem ach:Bg WA mY where
 no w h:=by
  unfold WA
  rw [fK,if_neg (by decide),if_neg (by decide),if_neg (by decide),gJ,Bf,EO,h]
 yes w t r h hz:=by
  unfold WA
  rw [fK,if_neg (by decide),if_neg (by decide),if_neg (by decide),gJ,Bf,EO,h]
  dsimp only
  rw [gJ]
  dsimp only
  rw [if_neg (by decide)]
  show (bJ DC [t],_)=_
  rw [ah9 t hz]
 sz t h:=by
  unfold mY
  rw [if_neg (by omega),lF,List.length_reverse,Array.length_toList];rfl
theorem aeR {F:dF}:zY F adI (fun _=>false) where
 bu nm hn a al cl w hg hs hf hz:=by
  obtain rfl:nm=DC:=of_decide_eq_true hn
  have h1:a.length=1:=by
   have:aH DC=1:=by kernel_rfl
   rw [this] at hf;omega
  exact Fq a al cl w hs h1 hz
 bi k h:=absurd h Bool.false_ne_true
 nu h:=absurd h Bool.false_ne_true
set_option maxRecDepth 1000000 in
theorem aci:lS ⟨#[114,101,118,101,114,115,101]⟩ pV=(qH,0):=by kernel_rfl
set_option maxRecDepth 1000000 in
theorem aeS:AY qH=true:=by kernel_rfl
set_option maxRecDepth 1000000 in
theorem rev_size:qH.size≤100000:=of_decide_eq_true (by kernel_rfl)
set_option maxRecDepth 1000000 in
theorem acj:kV qH=.ok JQ:=by kernel_rfl
theorem YV:bY JQ=(0,0):=(wE (by kernel_rfl)).1
theorem WC (t:aj) (w:World):Calls Tryz.prog 10 #[.string t] w (fun e w'=>(∃k:Int,e=.returned (.tuple #[.string (mY t),.int .i64 k]))∧Kept aA w w'):=by
 by_cases ht:65536<t.size
 ·have HL:Hid (jF [t]=true):=by unfold Hid jF;simp;omega
  have HR:Hid (mY t=⟨#[]⟩):=if_pos ht
  have hs:Hid (aQ (w.alloc (.cells #[.string t] 9)) (· < (w.alloc (.cells #[.string t] 9)).heap.size) (some ⟨w.heap.size,0,none⟩) [t]):=by
   intro _
   refine ⟨_,0,rfl,by simp,fun i hi=>?_⟩
   obtain rfl:i=0:=by simpa using hi
   exact (dJ.new w 9 (.string t)).cell
  clear ht
  go_enter Tryz.func10, Tryz.ntmps10
  go_wp2_with (go_at_call 15;(refine (OM [t] (some ⟨w.heap.size,0,none⟩) 1 _ hs.out (by simp)).mono ?_;rintro e w2 ⟨rfl,hw2⟩;rw [HL.out];subst hw2))
  go_ret2
  exact ⟨⟨4,by rw [HR.out];rfl⟩,(Kept.refl _ w).alloc _⟩
 ·refine (WE t w (by omega)).mono ?_
  rintro e w' ⟨rfl,hk⟩
  exact ⟨⟨0,by unfold mY;rw [if_neg ht]⟩,hk⟩
theorem pz {ops:Array Oper} {rest:List Oper} {o:Oper} {a:Act} {Q:Exit→Act→World→Prop} {w:World} (hgd:o.guard=none) (s x:Operand)
  (ho:o.op=.call {callee:=.builtin .append,args:=#[s,x],argTypes:=#[22,22]})
  (v:Value) (n:Nat) (l:List aj) (t:aj) (hnd:n=l.length) (hs:a.eval s=v) (B:Nat) (hown:aO w B 9 1 v n (jI l)) (g:Nat) (hx:a.eval x=.slice (some ⟨g,0,none⟩) 1 1)
  (hg:w.heap[g]?=some (.cells #[.string t] 9 (0,0))) (hn:l.length≤2000000) (hB:B≤w.heap.size)
  (h:∀a' c' n' w',Hid (n'=(l++[t]).length)→aO w' B 9 1 (.slice a' n' c') n' (jI (l++[t]))→Kept (fun b=>B≤b) w w'→wpList Tryz.prog ops Q rest (a.put o.dst (.slice a' n' c')) w') :
  wpList Tryz.prog ops Q (o::rest) a w:=by
 obtain ⟨i0,hi0,hz0,hz1,hz2⟩:=info_parts OO
 have hsr:Src Tryz.prog 1 22 (.slice (some ⟨g,0,none⟩) 1 1) 1 [.string t] w :=
  Src.ofSlice _ Tryz.underlying22 _ _ _ _ rfl (World.news_of_block (fr:=(0,0)) (cs:=#[.string t]) hg) (by intro u hu;simp at hu;subst hu;rfl)
 refine dM w hgd s x _ _ ho B 9 i0 (.string ⟨#[]⟩) 1 16 Tryz.underlying22 hi0 hz0 hz1 hz2 rfl v n (jI l) hs hown _ 1 _ hx hsr (by unfold maxLen;omega) (by omega) hB ?_
 intro a' c' w' hW hgr _
 rw [Ls] at hW
 exact h a' c' _ w' (by unfold Hid;rw [List.length_append,hnd];rfl) hW ((Kept.refl _ w).grown hgr fun k hk=>.inl (hown.lt k hk).1)
end Go.Proofs.YtgoijmpahffnhaaGreatDoor

namespace Go.Proofs.YtgoijmpahffnhaaGreatDoor
set_option linter.all false
open Go.RowKit
set_option maxRecDepth 100000
set_option maxHeartbeats 4000000
theorem Lu (input:List aj) (f:aj→aj) (j:Nat) (h:j<input.length):(input.take j).map f++[f input[j]]=(input.take (j+1)).map f:=by
 rw [List.take_succ_eq_append_getElem h,List.map_append];rfl
theorem acn (input:List aj) (ia:Option Addr) (ic:Nat) (w:World) (hm:jR w) (hr:eU w) (hin:aQ w (· < w.heap.size) ia input) (hic:input.length≤ic) (hil:input.length≤1048576) :
  Calls Tryz.prog 4 #[.slice ia input.length ic] w (ug true w):=by
 have jL:Hid (∀wx,Kept aA w wx→aQ wx (· < wx.heap.size) ia input):=fun wx hk=>hin.to hk (Safe.lt (Nat.le_refl _)) (fun _ h=>Nat.lt_of_lt_of_le h hk.size)
 have HM:Hid (∀wx,Kept aA w wx→jR wx):=fun wx hk=>hm.kept hk (fun h=>h)
 have HR:Hid (∀wx,Kept aA w wx→eU wx):=fun wx hk=>by obtain ⟨ev,h1,h2⟩:=hr;exact ⟨ev,(hk.cell (cell_lt h1) (fun h=>h)).trans h1,h2⟩
 have H8:=ah hic
 have Ae:=ah hil
 clear hm hr hin hic
 go_enter Tryz.func4, Tryz.ntmps4
 go_wp2_with fail
 go_loopw [3,10] (fun v i wr=>∃(j n:Nat) (a:Option Addr) (c:Nat),j≤input.length∧i=.int .i64 (j:Int)∧v=.slice a n c∧Hid (n=((input.take j).map mY).length)∧Hid (aO wr w.heap.size 9 1 v n (jI ((input.take j).map mY)))∧Hid (Kept aA w wr)) (fun _ i _=>input.length-(intOf i).toNat)
 case atStart=>exact ⟨0,0,none,0,Nat.zero_le _,rfl,rfl,rfl,aO.nil ..,Kept.refl _ w⟩
 case round =>
  obtain ⟨j,n,a,c,hj,rfl,rfl,hn,hW,hK⟩:=hrel
  by_cases hlt:j<input.length
  ·obtain ⟨bi,oi,rfl,_,hc⟩:=jL.out wr hK.out (by omega)
   have cj:=hc j hlt
   obtain ⟨tj,htj⟩:∃tj,tj=input[j]:=⟨_,rfl⟩
   rw [←htj] at cj
   have bj:(j:Int)<(input.length:Int):=by omega
   have kJ:=ah htj
   have Du:Hid (((input.take j).map mY).length≤2000000):=by unfold Hid;simp;omega
   clear hc htj
   go_wp2_with first
    | (go_at_call 10;(refine (WC tj _).mono ?_);rintro e w2 ⟨⟨k,rfl⟩,hk2⟩;have K2:Hid (Kept aA w w2):=hK.out.trans hk2;have W2:Hid (aO w2 w.heap.size 9 1 (.slice a n c) n (jI ((input.take j).map mY))):=hW.out.kept hk2 (fun _ _ h=>h);clear hk2)
    | (refine pz rfl _ _ rfl _ n ((input.take j).map mY) (mY tj) hn.out rfl w.heap.size (W2.out.alloc _) _ rfl (ay w2 _) Du.out (by have:=K2.out.size;simp;omega) ?_;intro a9 c9 n9 w9 um nC hk9;have W9:=ah nC;have K9:Hid (Kept aA w w9):=((K2.out.alloc _).step hk9 (fun y hy=>.inr hy));clear nC hk9)
   go_roundw
   case rel =>
    refine ⟨j+1,n9,a9,c9,by omega,by go_num,rfl,?_,?_,K9⟩
    ·rw [←Lu input mY j hlt,←kJ.out];exact um
    ·rw [←Lu input mY j hlt,←kJ.out];exact W9
   case measure=>simp [intOf];omega
  ·obtain rfl:j=input.length:=by omega
   have hwl:((input.take input.length).map mY)=input.map mY:=by rw [List.take_length]
   rw [hwl] at hn hW
   have hn':n=(input.map mY).length:=hn.out
   have wu:aQ wr (· < wr.heap.size) a (input.map mY):=aO.strs hW.out hn'.symm
   have HT:=ah (wo ⟨#[114,101,118,101,114,115,101]⟩ qH JQ input (input.map mY) ia a ic c wr (fun _=>True) adI (fun _=>false) (fun _ _=>aeR) rfl aeS aci rev_size acj YV (by decide) (by decide) (by decide +kernel) (HM.out wr hK.out) (HR.out wr hK.out) (jL.out wr hK.out) H8.out (by have:=Ae.out;omega) trivial (fun _ _ _ _ _ _=>trivial) wu (by rw [List.length_map];exact Ae.out) (line_law ach input))
   rw [←hn'] at HT
   clear wu hn' hwl
   go_wp2_with (go_at_call 9;(with_reducible refine HT.out.mono ?_);rintro e w1 ⟨rfl,k_⟩;have K1:=ah k_;clear k_)
   go_ret
   exact ⟨rfl,hK.out.trans K1.out⟩
end Go.Proofs.YtgoijmpahffnhaaGreatDoor
