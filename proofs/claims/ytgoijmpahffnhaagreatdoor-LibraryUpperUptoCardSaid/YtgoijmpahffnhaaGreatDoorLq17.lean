/-  -/
import Derived.Test.YtgoijmpahffnhaaGreatDoorLq6
import Derived.Test.YtgoijmpahffnhaaGreatDoorLrT3
namespace Go.Proofs.YtgoijmpahffnhaaGreatDoor
set_option linter.all false
open Go.RowKit
set_option maxRecDepth 100000
def Ot (a b:aj):aB:=.mk 6 ⟨#[]⟩ 0 uy [.mk 3 ⟨#[]⟩ 0 gW [],.mk 1 a 0 ⟨#[]⟩ [],.mk 1 b 0 ⟨#[]⟩ []]
def H7 (n:aj):Bool:=decide (n=uy)
theorem OI (t:aj) (n:Int) (nm:aj) (k:List aB) (w:aU):fK (.mk 1 t n nm k) w=(some t,w):=by
 rw [fK,if_pos rfl]
theorem Ou {a b:aj} (ha:a.size≤65536) (hb:b.size≤65536) (hab:a.size=b.size) (h0:0<a.size):Bg (Ot a b) (Bo a.data.toList b.data.toList) where
 no w h:=by
  unfold Ot
  rw [fK,if_neg (by decide),if_neg (by decide),if_neg (by decide),gJ,Bf,EO,h]
 yes w t r h hz:=by
  unfold Ot
  rw [fK,if_neg (by decide),if_neg (by decide),if_neg (by decide),gJ,Bf,EO,h]
  dsimp only
  rw [gJ,OI]
  dsimp only
  rw [gJ,OI]
  dsimp only
  rw [gJ]
  dsimp only
  rw [if_neg (by decide)]
  show (bJ uy [t,a,b],_)=_
  rw [YU t a b hz ha hb hab h0]
 sz t h:=by
  unfold Bo
  rw [lF,List.length_map,Array.length_toList];rfl
theorem Uh {F:dF}:zY F H7 (fun _=>false) where
 bu nm hn a al cl w hg hs hf hz:=by
  obtain rfl:nm=uy:=of_decide_eq_true hn
  have h1:a.length=3:=by
   have:aH uy=3:=by kernel_rfl
   rw [this] at hf;omega
  exact OJ a al cl w hs h1 hz
 bi k h:=absurd h Bool.false_ne_true
 nu h:=absurd h Bool.false_ne_true
def Wy:aj:=⟨#[97,98,99,100,101,102,103,104,105,106,107,108,109,110,111,112,113,114,115,116,117,118,119,120,121,122]⟩
def Dv:aj:=⟨#[65,66,67,68,69,70,71,72,73,74,75,76,77,78,79,80,81,82,83,84,85,86,87,88,89,90]⟩
def Vl:aj:=⟨#[68,69,70,71,72,73,74,75,76,77,78,79,80,81,82,83,84,85,86,87,88,89,90,65,66,67]⟩
def nD (c:UInt8):UInt8:=if 97≤c.toNat∧c.toNat≤122 then UInt8.ofNat (c.toNat-32) else c
def jy (c:UInt8):UInt8:=if 65≤c.toNat∧c.toNat≤90 then UInt8.ofNat (65+(c.toNat-65+3) % 26) else c
theorem OL {p:UInt8→Prop} (h:∀n:Fin 256,p (UInt8.ofNat n.val)) (c:UInt8):p c:=by
 have:=h ⟨c.toNat,UInt8.toNat_lt c⟩
 rwa [UInt8.ofNat_toNat] at this
theorem aeQ:∀c,sU Wy.data.toList Dv.data.toList c=nD c:=OL (by decide +kernel)
theorem acg:∀c,sU Dv.data.toList Vl.data.toList c=jy c:=OL (by decide +kernel)
def iY (f:UInt8→UInt8) (t:aj):aj:=⟨(t.data.toList.map f).toArray⟩
theorem agq:Bo Wy.data.toList Dv.data.toList=iY nD:=by
 funext t;unfold Bo iY;rw [show sU Wy.data.toList Dv.data.toList=nD from funext aeQ]
theorem aeF:Bo Dv.data.toList Vl.data.toList=iY jy:=by
 funext t;unfold Bo iY;rw [show sU Dv.data.toList Vl.data.toList=jy from funext acg]
def mX (t:aj) (f:UInt8→UInt8) (j k:Nat):UInt8:=if k<j then f (t.data.toList.getD k 0) else t.data.toList.getD k 0
theorem H9 {w:World} {b:Nat} {t:aj} (h:Go.Sort.Holds Gt w b 0 t.data.toList.toArray) (f:UInt8→UInt8):iZ w b t.size (mX t f 0):=by
 intro i hi
 have hi':i<t.data.toList.toArray.size:=by simpa using hi
 have:=h i hi'
 rw [Nat.zero_add] at this
 refine ⟨this.1.trans ?_,this.2⟩
 unfold mX Gt
 rw [if_neg (by omega),getElem!_pos _ i hi',List.getD_eq_getElem?_getD,List.getElem?_eq_getElem (by simpa using hi)]
 rfl
theorem iZ.same {w:World} {b n:Nat} {g h:Nat→UInt8} (k:iZ w b n g) (e:∀i,i<n→g i=h i):iZ w b n h:=fun i hi=>by rw [←e i hi];exact k i hi
theorem Lh {w:World} {b c:Nat} {t:aj} {f:UInt8→UInt8} (h:iZ w b t.size (mX t f t.size)):(convert 28 9 (.slice (some ⟨b,0,none⟩) t.size c)).run Tryz.prog w=.ok (.string (iY f t)) w:=by
 have hl:(t.data.toList.map f).length=t.size:=by rw [List.length_map,Array.length_toList];rfl
 have:=BytesIn.conv (w:=w) (g:=b) (o:=0) (c:=c) (bs:=t.data.toList.map f) (fun i hi=>by
  have hi':i<t.size:=by rw [←hl];exact hi
  rw [Nat.zero_add,(h i hi').1]
  unfold mX
  rw [if_pos hi',List.getElem_map,List.getD_eq_getElem?_getD,List.getElem?_eq_getElem (by rw [Array.length_toList];exact hi')]
  rfl)
 rw [hl] at this
 exact this
theorem Bd (t:aj) (f:UInt8→UInt8) (j:Nat):mX t f (j+1)=fun k=>if k=j then f (t.data.toList.getD j 0) else mX t f j k:=by
 funext k
 unfold mX
 by_cases h:k=j
 ·subst h;rw [if_pos (by omega),if_pos rfl]
 ·rw [if_neg h]
  by_cases h2:k<j
  ·rw [if_pos (by omega),if_pos h2]
  ·rw [if_neg (by omega),if_neg h2]
theorem Ia (t:aj) (f:UInt8→UInt8) (j:Nat):mX t f j j=t.data.toList.getD j 0:=if_neg (by omega)
theorem xH (input:List aj) (f:aj→aj) (j:Nat) (h:j<input.length):(input.take j).map f++[f input[j]]=(input.take (j+1)).map f:=by
 rw [List.take_succ_eq_append_getElem h,List.map_append];rfl
end Go.Proofs.YtgoijmpahffnhaaGreatDoor

namespace Go.Proofs.YtgoijmpahffnhaaGreatDoor
set_option linter.all false
open Go.RowKit
set_option maxRecDepth 100000
set_option maxHeartbeats 8000000
def uo:List aF:=eP (Ot Dv Vl)
set_option maxRecDepth 1000000 in
theorem abQ:lS ⟨#[99,97,101,115,97,114]⟩ pV=(sO,0):=by kernel_rfl
set_option maxRecDepth 1000000 in
theorem aeC:AY sO=true:=by kernel_rfl
set_option maxRecDepth 1000000 in
theorem abR:sO.size≤100000:=of_decide_eq_true (by kernel_rfl)
set_option maxRecDepth 1000000 in
theorem abS:kV sO=.ok uo:=by kernel_rfl
theorem Yo:bY uo=(0,0):=(wE (by kernel_rfl)).1
theorem agj:∀st∈uo,okS H7 (fun _=>false) st=true:=by decide +kernel
theorem aeD (ch:UInt8) (h1:65≤ch.toNat) (h2:ch.toNat≤90):65+((ch.toNat:Int)-65+3) % 26=((jy ch).toNat:Int):=by
 unfold jy
 rw [if_pos ⟨h1,h2⟩,UInt8.toNat_ofNat',Nat.mod_eq_of_lt (by omega)];omega
theorem aeE (input:List aj):yh uo input (input.map (iY jy)):=by
 rw [←aeF];exact line_law (Ou (by decide) (by decide) (by decide) (by decide)) input
theorem abT (input:List aj) (ia:Option Addr) (ic:Nat) (w:World) (hm:jR w) (hr:eU w) (hin:aQ w (· < w.heap.size) ia input) (hic:input.length≤ic) (hil:input.length≤1048576) (hsz:∀t∈input,t.size≤1000000000) :
  Calls Tryz.prog 7 #[.slice ia input.length ic] w (ug true w):=by
 have jL:Hid (∀wx,Kept aA w wx→aQ wx (· < wx.heap.size) ia input):=fun wx hk=>hin.to hk (Safe.lt (Nat.le_refl _)) (fun _ h=>Nat.lt_of_lt_of_le h hk.size)
 have HM:Hid (∀wx,Kept aA w wx→jR wx):=fun wx hk=>hm.kept hk (fun h=>h)
 have HR:Hid (∀wx,Kept aA w wx→eU wx):=fun wx hk=>by obtain ⟨ev,h1,h2⟩:=hr;exact ⟨ev,(hk.cell (cell_lt h1) (fun h=>h)).trans h1,h2⟩
 have H8:=ah hic
 have Ae:=ah hil
 have Dw:=ah hsz
 clear hm hr hin hic hsz
 go_enter Tryz.func7, Tryz.ntmps7
 go_wp2_with fail
 go_loopw [3,11] (fun v i wr=>∃(j n:Nat) (a:Option Addr) (c:Nat),j≤input.length∧i=.int .i64 (j:Int)∧v=.slice a n c∧Hid (n=((input.take j).map (iY jy)).length)∧Hid (aO wr w.heap.size 9 1 v n (jI ((input.take j).map (iY jy))))∧Hid (Kept aA w wr)) (fun _ i _=>input.length-(intOf i).toNat)
 case atStart=>exact ⟨0,0,none,0,Nat.zero_le _,rfl,rfl,rfl,aO.nil ..,Kept.refl _ w⟩
 case round =>
  obtain ⟨j,n,a,c,hj,rfl,rfl,hn,hW,hK⟩:=hrel
  by_cases hlt:j<input.length
  ·obtain ⟨bi,oi,rfl,_,hc⟩:=jL.out wr hK.out (by omega)
   have cj:=hc j hlt
   obtain ⟨tj,htj⟩:∃tj,tj=input[j]:=⟨_,rfl⟩
   rw [←htj] at cj
   have bj:(j:Int)<(input.length:Int):=by omega
   have kJ:=ah htj
   have ztj:tj.size≤1000000000:=by rw [htj];exact Dw.out _ (List.getElem_mem hlt)
   have Du:Hid (((input.take j).map (iY jy)).length≤2000000):=by unfold Hid;simp;omega
   clear hc htj
   obtain ⟨cap,w2,hcv,hh,hk2,hz2⟩:=Bc wr tj
   obtain ⟨B,hB⟩:∃B,B=wr.heap.size:=⟨_,rfl⟩
   rw [←hB] at hcv hh hz2
   have K2:=ah (hK.out.trans hk2)
   have HBW:Hid (w.heap.size≤B):=by unfold Hid;rw [hB];exact hK.out.size
   have W2:Hid (∀wx,Kept (· = B) w2 wx→aO wx w.heap.size 9 1 (.slice a n c) n (jI ((input.take j).map (iY jy)))):=fun wx hk=>(hW.out.kept hk2 (fun _ _ h=>h)).kept hk (fun b hb e=>by have:=hW.out.lt b hb;omega)
   have Y2:Hid (iZ w2 B tj.size (mX tj jy 0)):=H9 hh _
   have HZ2:=ah hz2
   clear hk2 hh hB hz2
   go_wp2_with fail
   go_loopw [19] (fun i wx=>∃(k:Nat),k≤tj.size∧i=.int .i64 (k:Int)∧Hid (iZ wx B tj.size (mX tj jy k))∧Hid (Kept (· = B) w2 wx)) (fun i _=>tj.size-(intOf i).toNat)
   case atStart=>exact ⟨0,Nat.zero_le _,rfl,Y2,Kept.refl _ _⟩
   case round =>
    obtain ⟨k,hk,rfl,hY,hKx⟩:=hrel
    by_cases hlk:k<tj.size
    ·have bk:(k:Int)<(tj.size:Int):=by omega
     obtain ⟨ch,hch⟩:∃ch,ch=tj.data.toList.getD k 0:=⟨_,rfl⟩
     obtain ⟨cb,fb⟩:=hY.out k hlk
     rw [Ia,←hch] at cb
     have Yp:=ah hch
     clear hch
     by_cases hr:65≤ch.toNat∧ch.toNat≤90
     ·obtain ⟨q,hq⟩:∃q,q=jy ch:=⟨_,rfl⟩
      have hY2:=hY.out.set hlk q
      have ew:mX tj jy (k+1)=fun i=>if i=k then q else mX tj jy k i:=by rw [Bd,←Yp.out,hq]
      rw [←ew] at hY2
      have Ov:=aeD ch hr.1 hr.2
      rw [←hq] at Ov
      have HQN:=ah Ov
      have Ib:=ah hY2
      have K3:=ah (hKx.out.setCell (p:=⟨B,k,none⟩) (.inl rfl) (.int .u8 (q.toNat:Int)))
      obtain ⟨h1,h2⟩:=hr
      have d1:decide ((65:Int)≤(ch.toNat:Int))=true:=ak (by omega)
      have d2:decide ((ch.toNat:Int)≤90)=true:=ak (by omega)
      have d3:decide (65≤ch.toNat)=true:=ak h1
      have d4:decide (ch.toNat≤90)=true:=ak h2
      clear hY2 ew hq Ov
      go_wp2_with fail
      rw [HQN.out]
      exact ⟨⟨k+1,by omega,by go_num,Ib,K3⟩,by simp [intOf];omega⟩
     ·have hfc:jy ch=ch:=if_neg hr
      have Ib:Hid (iZ wr B tj.size (mX tj jy (k+1))):=hY.out.same fun i _=>by
       rw [Bd]
       show _=if i=k then jy (tj.data.toList.getD k 0) else mX tj jy k i
       by_cases e:i=k
       ·subst e;rw [Ia,if_pos rfl,←Yp.out,hfc]
       ·rw [if_neg e]
      clear hfc
      by_cases h1:65≤ch.toNat
      ·have h2:¬ch.toNat≤90:=fun h=>hr ⟨h1,h⟩
       have d1:decide ((65:Int)≤(ch.toNat:Int))=true:=ak (by omega)
       have d2:decide ((ch.toNat:Int)≤90)=false:=au (by omega)
       have d3:decide (65≤ch.toNat)=true:=ak h1
       have d4:decide (ch.toNat≤90)=false:=au h2
       clear hr
       go_wp2_with fail
       go_roundw
       case rel=>exact ⟨k+1,by omega,by go_num,Ib,hKx⟩
       case measure=>simp [intOf];omega
      ·have d1:decide ((65:Int)≤(ch.toNat:Int))=false:=au (by omega)
       have d3:decide (65≤ch.toNat)=false:=au h1
       clear hr
       go_wp2_with fail
       go_roundw
       case rel=>exact ⟨k+1,by omega,by go_num,Ib,hKx⟩
       case measure=>simp [intOf];omega
    ·obtain rfl:k=tj.size:=by omega
     have hcb:=Lh (c:=cap) hY.out
     have K3:Hid (Kept aA w wr):=K2.out.step hKx.out (fun b hb=>.inr (by have:=HBW.out;omega))
     have W3:=ah (W2.out _ hKx.out)
     go_wp2_with (refine pz rfl _ _ rfl _ n ((input.take j).map (iY jy)) (iY jy tj) hn.out rfl w.heap.size (W3.out.alloc _) _ rfl (ay _ _) Du.out (by have:=K3.out.size;simp;omega) ?_;intro a9 c9 n9 w9 um nC hk9;have W9:=ah nC;have K9:Hid (Kept aA w w9):=((K3.out.alloc _).step hk9 (fun y hy=>.inr hy));clear nC hk9)
     go_roundw
     case rel =>
      refine ⟨j+1,n9,a9,c9,by omega,by go_num,rfl,?_,?_,K9⟩
      ·rw [←xH input (iY jy) j hlt,←kJ.out];exact um
      ·rw [←xH input (iY jy) j hlt,←kJ.out];exact W9
     case measure=>simp [intOf];omega
  ·obtain rfl:j=input.length:=by omega
   rw [List.take_length] at hn hW
   have hn':n=(input.map (iY jy)).length:=hn.out
   have wu:aQ wr (· < wr.heap.size) a (input.map (iY jy)):=aO.strs hW.out hn'.symm
   have HT:=ah (wo ⟨#[99,97,101,115,97,114]⟩ sO uo input (input.map (iY jy)) ia a ic c wr (fun _=>True) H7 (fun _=>false) (fun _ _=>Uh) rfl aeC abQ abR abS Yo (by decide) (by decide) agj (HM.out wr hK.out) (HR.out wr hK.out) (jL.out wr hK.out) H8.out (by have:=Ae.out;omega) trivial (fun _ _ _ _ _ _=>trivial) wu (by rw [List.length_map];exact Ae.out) (aeE input))
   rw [←hn'] at HT
   clear wu hn'
   go_wp2_with (go_at_call 9;(with_reducible refine HT.out.mono ?_);rintro e w1 ⟨rfl,k_⟩;have K1:=ah k_;clear k_)
   go_ret
   exact ⟨rfl,hK.out.trans K1.out⟩
end Go.Proofs.YtgoijmpahffnhaaGreatDoor

namespace Go.Proofs.YtgoijmpahffnhaaGreatDoor
set_option linter.all false
open Go.RowKit
set_option maxRecDepth 100000
set_option maxHeartbeats 8000000
def wG:List aF:=eP (Ot Wy Dv)
set_option maxRecDepth 1000000 in
theorem aeY:lS ⟨#[117,112,112,101,114]⟩ pV=(vC,0):=by kernel_rfl
set_option maxRecDepth 1000000 in
theorem agt:AY vC=true:=by kernel_rfl
set_option maxRecDepth 1000000 in
theorem aeZ:vC.size≤100000:=of_decide_eq_true (by kernel_rfl)
set_option maxRecDepth 1000000 in
theorem ae0:kV vC=.ok wG:=by kernel_rfl
theorem acr:bY wG=(0,0):=(wE (by kernel_rfl)).1
theorem aia:∀st∈wG,okS H7 (fun _=>false) st=true:=by decide +kernel
theorem agu (ch:UInt8) (h1:97≤ch.toNat) (h2:ch.toNat≤122):(ch.toNat:Int)-97+65=((nD ch).toNat:Int):=by
 unfold nD
 rw [if_pos ⟨h1,h2⟩,UInt8.toNat_ofNat',Nat.mod_eq_of_lt (by omega)];omega
theorem agv (input:List aj):yh wG input (input.map (iY nD)):=by
 rw [←agq];exact line_law (Ou (by decide) (by decide) (by decide) (by decide)) input
theorem ae1 (input:List aj) (ia:Option Addr) (ic:Nat) (w:World) (hm:jR w) (hr:eU w) (hin:aQ w (· < w.heap.size) ia input) (hic:input.length≤ic) (hil:input.length≤1048576) (hsz:∀t∈input,t.size≤1000000000) :
  Calls Tryz.prog 8 #[.slice ia input.length ic] w (ug true w):=by
 have jL:Hid (∀wx,Kept aA w wx→aQ wx (· < wx.heap.size) ia input):=fun wx hk=>hin.to hk (Safe.lt (Nat.le_refl _)) (fun _ h=>Nat.lt_of_lt_of_le h hk.size)
 have HM:Hid (∀wx,Kept aA w wx→jR wx):=fun wx hk=>hm.kept hk (fun h=>h)
 have HR:Hid (∀wx,Kept aA w wx→eU wx):=fun wx hk=>by obtain ⟨ev,h1,h2⟩:=hr;exact ⟨ev,(hk.cell (cell_lt h1) (fun h=>h)).trans h1,h2⟩
 have H8:=ah hic
 have Ae:=ah hil
 have Dw:=ah hsz
 clear hm hr hin hic hsz
 go_enter Tryz.func8, Tryz.ntmps8
 go_wp2_with fail
 go_loopw [3,11] (fun v i wr=>∃(j n:Nat) (a:Option Addr) (c:Nat),j≤input.length∧i=.int .i64 (j:Int)∧v=.slice a n c∧Hid (n=((input.take j).map (iY nD)).length)∧Hid (aO wr w.heap.size 9 1 v n (jI ((input.take j).map (iY nD))))∧Hid (Kept aA w wr)) (fun _ i _=>input.length-(intOf i).toNat)
 case atStart=>exact ⟨0,0,none,0,Nat.zero_le _,rfl,rfl,rfl,aO.nil ..,Kept.refl _ w⟩
 case round =>
  obtain ⟨j,n,a,c,hj,rfl,rfl,hn,hW,hK⟩:=hrel
  by_cases hlt:j<input.length
  ·obtain ⟨bi,oi,rfl,_,hc⟩:=jL.out wr hK.out (by omega)
   have cj:=hc j hlt
   obtain ⟨tj,htj⟩:∃tj,tj=input[j]:=⟨_,rfl⟩
   rw [←htj] at cj
   have bj:(j:Int)<(input.length:Int):=by omega
   have kJ:=ah htj
   have ztj:tj.size≤1000000000:=by rw [htj];exact Dw.out _ (List.getElem_mem hlt)
   have Du:Hid (((input.take j).map (iY nD)).length≤2000000):=by unfold Hid;simp;omega
   clear hc htj
   obtain ⟨cap,w2,hcv,hh,hk2,hz2⟩:=Bc wr tj
   obtain ⟨B,hB⟩:∃B,B=wr.heap.size:=⟨_,rfl⟩
   rw [←hB] at hcv hh hz2
   have K2:=ah (hK.out.trans hk2)
   have HBW:Hid (w.heap.size≤B):=by unfold Hid;rw [hB];exact hK.out.size
   have W2:Hid (∀wx,Kept (· = B) w2 wx→aO wx w.heap.size 9 1 (.slice a n c) n (jI ((input.take j).map (iY nD)))):=fun wx hk=>(hW.out.kept hk2 (fun _ _ h=>h)).kept hk (fun b hb e=>by have:=hW.out.lt b hb;omega)
   have Y2:Hid (iZ w2 B tj.size (mX tj nD 0)):=H9 hh _
   have HZ2:=ah hz2
   clear hk2 hh hB hz2
   go_wp2_with fail
   go_loopw [19] (fun i wx=>∃(k:Nat),k≤tj.size∧i=.int .i64 (k:Int)∧Hid (iZ wx B tj.size (mX tj nD k))∧Hid (Kept (· = B) w2 wx)) (fun i _=>tj.size-(intOf i).toNat)
   case atStart=>exact ⟨0,Nat.zero_le _,rfl,Y2,Kept.refl _ _⟩
   case round =>
    obtain ⟨k,hk,rfl,hY,hKx⟩:=hrel
    by_cases hlk:k<tj.size
    ·have bk:(k:Int)<(tj.size:Int):=by omega
     obtain ⟨ch,hch⟩:∃ch,ch=tj.data.toList.getD k 0:=⟨_,rfl⟩
     obtain ⟨cb,fb⟩:=hY.out k hlk
     rw [Ia,←hch] at cb
     have Yp:=ah hch
     clear hch
     by_cases hr:97≤ch.toNat∧ch.toNat≤122
     ·obtain ⟨q,hq⟩:∃q,q=nD ch:=⟨_,rfl⟩
      have hY2:=hY.out.set hlk q
      have ew:mX tj nD (k+1)=fun i=>if i=k then q else mX tj nD k i:=by rw [Bd,←Yp.out,hq]
      rw [←ew] at hY2
      have Ov:=agu ch hr.1 hr.2
      rw [←hq] at Ov
      have HQN:=ah Ov
      have Ib:=ah hY2
      have K3:=ah (hKx.out.setCell (p:=⟨B,k,none⟩) (.inl rfl) (.int .u8 (q.toNat:Int)))
      obtain ⟨h1,h2⟩:=hr
      have d1:decide ((97:Int)≤(ch.toNat:Int))=true:=ak (by omega)
      have d2:decide ((ch.toNat:Int)≤122)=true:=ak (by omega)
      have d3:decide (97≤ch.toNat)=true:=ak h1
      have d4:decide (ch.toNat≤122)=true:=ak h2
      clear hY2 ew hq Ov
      go_wp2_with fail
      rw [HQN.out]
      exact ⟨⟨k+1,by omega,by go_num,Ib,K3⟩,by simp [intOf];omega⟩
     ·have hfc:nD ch=ch:=if_neg hr
      have Ib:Hid (iZ wr B tj.size (mX tj nD (k+1))):=hY.out.same fun i _=>by
       rw [Bd]
       show _=if i=k then nD (tj.data.toList.getD k 0) else mX tj nD k i
       by_cases e:i=k
       ·subst e;rw [Ia,if_pos rfl,←Yp.out,hfc]
       ·rw [if_neg e]
      clear hfc
      by_cases h1:97≤ch.toNat
      ·have h2:¬ch.toNat≤122:=fun h=>hr ⟨h1,h⟩
       have d1:decide ((97:Int)≤(ch.toNat:Int))=true:=ak (by omega)
       have d2:decide ((ch.toNat:Int)≤122)=false:=au (by omega)
       have d3:decide (97≤ch.toNat)=true:=ak h1
       have d4:decide (ch.toNat≤122)=false:=au h2
       clear hr
       go_wp2_with fail
       go_roundw
       case rel=>exact ⟨k+1,by omega,by go_num,Ib,hKx⟩
       case measure=>simp [intOf];omega
      ·have d1:decide ((97:Int)≤(ch.toNat:Int))=false:=au (by omega)
       have d3:decide (97≤ch.toNat)=false:=au h1
       clear hr
       go_wp2_with fail
       go_roundw
       case rel=>exact ⟨k+1,by omega,by go_num,Ib,hKx⟩
       case measure=>simp [intOf];omega
    ·obtain rfl:k=tj.size:=by omega
     have hcb:=Lh (c:=cap) hY.out
     have K3:Hid (Kept aA w wr):=K2.out.step hKx.out (fun b hb=>.inr (by have:=HBW.out;omega))
     have W3:=ah (W2.out _ hKx.out)
     go_wp2_with (refine pz rfl _ _ rfl _ n ((input.take j).map (iY nD)) (iY nD tj) hn.out rfl w.heap.size (W3.out.alloc _) _ rfl (ay _ _) Du.out (by have:=K3.out.size;simp;omega) ?_;intro a9 c9 n9 w9 um nC hk9;have W9:=ah nC;have K9:Hid (Kept aA w w9):=((K3.out.alloc _).step hk9 (fun y hy=>.inr hy));clear nC hk9)
     go_roundw
     case rel =>
      refine ⟨j+1,n9,a9,c9,by omega,by go_num,rfl,?_,?_,K9⟩
      ·rw [←xH input (iY nD) j hlt,←kJ.out];exact um
      ·rw [←xH input (iY nD) j hlt,←kJ.out];exact W9
     case measure=>simp [intOf];omega
  ·obtain rfl:j=input.length:=by omega
   rw [List.take_length] at hn hW
   have hn':n=(input.map (iY nD)).length:=hn.out
   have wu:aQ wr (· < wr.heap.size) a (input.map (iY nD)):=aO.strs hW.out hn'.symm
   have HT:=ah (wo ⟨#[117,112,112,101,114]⟩ vC wG input (input.map (iY nD)) ia a ic c wr (fun _=>True) H7 (fun _=>false) (fun _ _=>Uh) rfl agt aeY aeZ ae0 acr (by decide) (by decide) aia (HM.out wr hK.out) (HR.out wr hK.out) (jL.out wr hK.out) H8.out (by have:=Ae.out;omega) trivial (fun _ _ _ _ _ _=>trivial) wu (by rw [List.length_map];exact Ae.out) (agv input))
   rw [←hn'] at HT
   clear wu hn'
   go_wp2_with (go_at_call 9;(with_reducible refine HT.out.mono ?_);rintro e w1 ⟨rfl,k_⟩;have K1:=ah k_;clear k_)
   go_ret
   exact ⟨rfl,hK.out.trans K1.out⟩
end Go.Proofs.YtgoijmpahffnhaaGreatDoor
