/-  -/
import Derived.Test.YtodebjhalipefaaGreatDoorLq23
namespace Go.Proofs.YtodebjhalipefaaGreatDoor
set_option linter.all false
open Go.RowKit
set_option maxRecDepth 100000
set_option maxHeartbeats 8000000
def Uw (n:aj):Bool:=decide (n=zB)||decide (n=sQ)
def Ux (k:Int):Bool:=decide (k=2)
theorem adk {F:dG} (hG:F.G=jq):BR F Uw Ux where
 bu nm hn a al cl w hg hs hf hz:=by
  rw [hG] at hg
  rcases Bool.or_eq_true _ _ ▸ hn with h|h
  ·obtain rfl:nm=zB:=of_decide_eq_true h
   have h1:a.length=2:=by
    have:aI zB=2:=by kernel_rfl
    rw [this] at hf;omega
   exact Uf a al cl w hg hs h1
  ·obtain rfl:nm=sQ:=of_decide_eq_true h
   have h1:a.length=2:=by
    have:aI sQ=2:=by kernel_rfl
    rw [this] at hf;omega
   exact LD a al cl w hs h1
 bi k h h8:=by have:=of_decide_eq_true h;omega
 nu _ n hz w hg:=Fv n w (by rw [hG] at hg;exact hg) hz
set_option maxRecDepth 1000000 in
theorem aaL:oK ⟨#[117,110,105,113,117,101]⟩ sK=(rH,0):=by kernel_rfl
set_option maxRecDepth 1000000 in
theorem adl:Jc rH=true:=by kernel_rfl
set_option maxRecDepth 1000000 in
theorem aaM:rH.size≤100000:=of_decide_eq_true (by kernel_rfl)
set_option maxRecDepth 1000000 in
theorem aaN:mY rH=.ok pX:=by kernel_rfl
theorem Xu:bZ pX=(0,0):=(J5 (by kernel_rfl)).1
theorem Xv:∀st∈pX,okS Uw Ux st=true:=by decide +kernel
theorem Kr (t:aj):∀(l:List aj) (p:Option aj),gG p (l++[t])=gG p l++(if (l.getLast?.or p)=some t then [] else [t])
 | [],p=>by
  have e:(([]:List aj).getLast?.or p)=p:=rfl
  show gG p [t]=gG p []++_
  rw [e]
  by_cases h:p=some t
  ·simp [gG,h]
  ·simp [gG,h]
 | x::r,p=>by
  have ih:=Kr t r (some x)
  have e:(x::r).getLast?.or p=r.getLast?.or (some x):=by
   rw [List.getLast?_cons]
   cases r.getLast?<;>rfl
  rw [List.cons_append,gG,gG,ih,e]
  split<;>simp
theorem FK:∀(l:List aj) (p:Option aj),(gG p l).length≤l.length
 | [],_=>Nat.le_refl _
 | t::r,p=>by
  have:=FK r (some t)
  rw [gG]
  split<;>simp only [List.length_cons]<;>omega
theorem Xw (input:List aj) (h:0<input.length):gG none (input.take 1)=[input[0]]:=by
 cases input with
 | nil=>cases h
 | cons t r=>rfl
theorem Xx (input:List aj) (k j:Nat) (e:j=k+1) (h:j<input.length):gG none (input.take (j+1))=gG none (input.take j)++(if input[k]'(by omega)=input[j] then [] else [input[j]]):=by
 rw [List.take_succ_eq_append_getElem h,Kr]
 have e:(input.take j).getLast?=some (input[k]'(by omega)):=by
  rw [List.getLast?_eq_getElem?,List.length_take,show min j input.length-1=k by omega,List.getElem?_take_of_lt (by omega),List.getElem?_eq_getElem (by omega)]
 rw [e]
 simp
theorem aaO (input:List aj) (ia:Option Addr) (ic:Nat) (w:World) (hm:oz w) (hr:iD w) (hg:jq w) (hin:aX w (· < w.heap.size) ia input) (hic:input.length≤ic) (hil:input.length≤1048576) :
  Calls Tryz.prog 4 #[.slice ia input.length ic] w (wG true w):=by
 have uZ:Hid (∀wx,Kept aA w wx→aX wx (· < wx.heap.size) ia input):=fun wx hk=>hin.to hk (Safe.lt (Nat.le_refl _)) (fun _ h=>Nat.lt_of_lt_of_le h hk.size)
 have HM:Hid (∀wx,Kept aA w wx→oz wx):=fun wx hk=>hm.kept hk (fun h=>h)
 have HR:Hid (∀wx,Kept aA w wx→iD wx):=fun wx hk=>by obtain ⟨ev,h1,h2⟩:=hr;exact ⟨ev,(hk.cell (cell_lt h1) (fun h=>h)).trans h1,h2⟩
 have HG:Hid (∀wx,Kept aA w wx→jq wx):=fun wx hk=>hg.kept hk (fun h=>h) (fun h=>h)
 have HIC:=ah hic
 have HIL:=ah hil
 clear hm hr hin hic hg
 go_enter Tryz.func4, Tryz.ntmps4
 go_wp2_with fail
 go_loopw [3,8] (fun v i wr=>∃(j n:Nat) (a:Option Addr) (c:Nat),j≤input.length∧i=.int .i64 (j:Int)∧v=.slice a n c∧Hid (n=(gG none (input.take j)).length)∧Hid (aP wr w.heap.size 9 1 v n (oC (gG none (input.take j))))∧Hid (Kept aA w wr)) (fun _ i _=>input.length-(intOf i).toNat)
 case atStart=>exact ⟨0,0,none,0,Nat.zero_le _,rfl,rfl,rfl,aP.nil ..,Kept.refl _ w⟩
 case round =>
  obtain ⟨j,n,a,c,hj,rfl,rfl,hn,hW,hK⟩:=hrel
  by_cases hlt:j<input.length
  ·obtain ⟨bi,oi,rfl,_,hc⟩:=uZ.out wr hK.out (by omega)
   have cj:=hc j hlt
   obtain ⟨tj,htj⟩:∃tj,tj=input[j]:=⟨_,rfl⟩
   rw [←htj] at cj
   have bj:(j:Int)<(input.length:Int):=by omega
   have BU:=ah htj
   have HDL:Hid ((gG none (input.take j)).length≤2000000):=by unfold Hid;have:=FK (input.take j) none;rw [List.length_take] at this;omega
   have HA:Hid (∀wx,Kept aA wr wx→aP wx w.heap.size 9 1 (.slice a n c) n (oC (gG none (input.take j)))):=fun wx hk=>hW.out.kept hk (fun _ _ h=>h)
   clear htj
   by_cases h0:j=0
   ·have fin:Hid (gG none (input.take (j+1))=gG none (input.take j)++[tj]):=by subst h0;unfold Hid;rw [Xw input hlt,←BU.out];rfl
    have z0:((j:Int)==0)=true:=by simp [h0]
    clear hc h0
    go_wp2_with (refine GL rfl _ _ rfl _ n (gG none (input.take j)) tj hn.out rfl w.heap.size ((HA.out _ (by repeat (first|exact Kept.refl aA _|refine Kept.drew ?_|refine Kept.drewN ?_ _))).alloc _) _ rfl (ay _ _) HDL.out (by have:=hK.out.size;simp;omega) ?_;intro a9 c9 n9 w9 Cc yw hk9;have W9:=ah yw;have K9:Hid (Kept aA w w9):=Kept.step (Kept.alloc (by repeat (first|exact hK.out|refine Kept.drew ?_|refine Kept.drewN ?_ _)) _) hk9 (fun y hy=>.inr hy);clear yw hk9)
    go_roundw
    case rel=>exact ⟨j+1,n9,a9,c9,by omega,by go_num,rfl,by rw [fin.out];exact Cc,by rw [fin.out];exact W9,K9⟩
    case measure=>simp [intOf];omega
   ·obtain ⟨k,hk⟩:∃k,k=j-1:=⟨_,rfl⟩
    have ck:=hc k (by omega)
    obtain ⟨tk,htk⟩:∃tk,tk=input[k]'(by omega):=⟨_,rfl⟩
    rw [←htk] at ck
    have e0:(j:Int)-1=(k:Int):=by omega
    have z0:((j:Int)==0)=false:=by simp;omega
    have bk:(k:Int)<(input.length:Int):=by omega
    have hkl:k<input.length:=by omega
    have fin0:=Xx input k j (by omega) hlt
    rw [←htk,←BU.out] at fin0
    clear hc htk h0 hk
    by_cases he:tk=tj
    ·have eb:(tk.toList==tj.toList)=true:=by rw [he];simp
     have fin:Hid (gG none (input.take (j+1))=gG none (input.take j)):=by unfold Hid;rw [fin0,if_pos he];simp
     clear fin0 he
     go_wp2_with fail
     go_roundw
     case rel=>exact ⟨j+1,n,a,c,by omega,by go_num,rfl,by rw [fin.out];exact hn,by rw [fin.out];exact HA.out _ (by repeat (first|exact Kept.refl aA _|refine Kept.drew ?_|refine Kept.drewN ?_ _)),by repeat (first|exact hK.out|refine Kept.drew ?_|refine Kept.drewN ?_ _)⟩
     case measure=>simp [intOf];omega
    ·have eb:(tk.toList==tj.toList)=false:=by
      rw [beq_eq_false_iff_ne,ByteArray.toList_eq,ByteArray.toList_eq];exact fun e=>he (ByteArray.ext (Array.toList_inj.1 e))
     have fin:Hid (gG none (input.take (j+1))=gG none (input.take j)++[tj]):=by unfold Hid;rw [fin0,if_neg he]
     clear fin0 he
     go_wp2_with (refine GL rfl _ _ rfl _ n (gG none (input.take j)) tj hn.out rfl w.heap.size ((HA.out _ (by repeat (first|exact Kept.refl aA _|refine Kept.drew ?_|refine Kept.drewN ?_ _))).alloc _) _ rfl (ay _ _) HDL.out (by have:=hK.out.size;simp;omega) ?_;intro a9 c9 n9 w9 Cc yw hk9;have W9:=ah yw;have K9:Hid (Kept aA w w9):=Kept.step (Kept.alloc (by repeat (first|exact hK.out|refine Kept.drew ?_|refine Kept.drewN ?_ _)) _) hk9 (fun y hy=>.inr hy);clear yw hk9)
     go_roundw
     case rel=>exact ⟨j+1,n9,a9,c9,by omega,by go_num,rfl,by rw [fin.out];exact Cc,by rw [fin.out];exact W9,K9⟩
     case measure=>simp [intOf];omega
  ·obtain rfl:j=input.length:=by omega
   rw [List.take_length] at hn hW
   have hn':n=(gG none input).length:=hn.out
   have Ws:aX wr (· < wr.heap.size) a (gG none input):=aP.strs hW.out hn'.symm
   have HT:=ah (J3 ⟨#[117,110,105,113,117,101]⟩ rH pX input (gG none input) ia a ic c wr jq Uw Ux (fun _ h=>adk h) rfl adl aaL aaM aaN Xu (by decide) (by decide) Xv (HM.out wr hK.out) (HR.out wr hK.out) (uZ.out wr hK.out) HIC.out (by have:=HIL.out;omega) (HG.out wr hK.out) (jq.gk _ (HG.out wr hK.out)) Ws (Nat.le_trans (FK input none) HIL.out) (adi rfl Xv input))
   rw [←hn'] at HT
   clear Ws hn'
   go_wp2_with (go_at_call 5;(with_reducible refine HT.out.mono ?_);rintro e w1 ⟨rfl,k_⟩;have K1:=ah k_;clear k_)
   go_ret
   exact ⟨rfl,hK.out.trans K1.out⟩
end Go.Proofs.YtodebjhalipefaaGreatDoor
