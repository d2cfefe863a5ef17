/-  -/
import Derived.Test.YtefjbnhpjdhjmaaGreatDoorSameT
import Derived.Test.YtefjbnhpjdhjmaaGreatDoorTs10
namespace Go.Proofs.YtefjbnhpjdhjmaaGreatDoor
set_option linter.all false
open Go.RowKit
set_option maxRecDepth 100000
set_option maxHeartbeats 2000000
theorem YT:∀(m:Nat) (p:aA) (v1 v2:Value) (S1 S2:Nat→Prop) (w:World),sizeT p≤m→m≤100000000→gV w S1 v1 p→gV w S2 v2 p→Safe S1 aC w.heap.size→Safe S2 aC w.heap.size→Calls Tryz.prog 21 #[v1,v2] w (mY true w):=by
 intro m
 induction m with
 | zero=>intro p v1 v2 S1 S2 w hm;have:=lW p;omega
 | succ m ih =>
  intro p v1 v2 S1 S2 w hm hmm hp1 hp2 hS1 hS2
  obtain ⟨k,t,n,nm,kids⟩:=p
  obtain ⟨ka,cap,rfl,hz,hk⟩:=hp1
  obtain ⟨kb,Ez,rfl,_,hkb⟩:=hp2
  dsimp only [aA.aY,aA.aW,aA.dY,aA.aX,aA.aU] at hz hk hkb⊢
  have hl:kids.length≤m:=by have h:=rX kids;simp only [sizeT] at hm;omega
  have hkz:kids.length<1000000000:=hz.2.2
  have e1:(k != k)=false:=by simp
  have e2:(n != n)=false:=by simp
  have e3:((kids.length:Int) != (kids.length:Int))=false:=by simp
  have K0:Kept aC w ((w.alloc (.cells #[.int .i64 k,.string t,.int .i64 n,.string nm,.slice ka kids.length cap] 24)).alloc (.cells #[.int .i64 k,.string t,.int .i64 n,.string nm,.slice kb kids.length Ez] 24)):=((Kept.refl _ _).alloc _).alloc _
  have F1:dJ w.heap.size (.int .i64 k) (.string t) (.int .i64 n) (.string nm) (.slice ka kids.length cap) ((w.alloc (.cells #[.int .i64 k,.string t,.int .i64 n,.string nm,.slice ka kids.length cap] 24)).alloc (.cells #[.int .i64 k,.string t,.int .i64 n,.string nm,.slice kb kids.length Ez] 24)):=dJ.kept (ay w _) ((Kept.refl aC _).alloc _) (fun h=>h)
  have F2:dJ (w.heap.size+1) (.int .i64 k) (.string t) (.int .i64 n) (.string nm) (.slice kb kids.length Ez) ((w.alloc (.cells #[.int .i64 k,.string t,.int .i64 n,.string nm,.slice ka kids.length cap] 24)).alloc (.cells #[.int .i64 k,.string t,.int .i64 n,.string nm,.slice kb kids.length Ez] 24)):=dO (by simp)
  have HK0:=ah K0;have HF1:=ah F1;have HF2:=ah F2;have HK:=ah hk;have HKB:=ah hkb
  have HIH:=ah ih
  clear K0 F1 F2 hk hkb hz ih
  go_enter Tryz.func21, Tryz.ntmps21
  go_wp2_with fail
  go_loopw [44] (fun i wr=>∃j:Nat,j≤kids.length∧i=.int .i64 j∧Kept aC ((w.alloc (.cells #[.int .i64 k,.string t,.int .i64 n,.string nm,.slice ka kids.length cap] 24)).alloc (.cells #[.int .i64 k,.string t,.int .i64 n,.string nm,.slice kb kids.length Ez] 24)) wr) (fun i _=>kids.length-(intOf i).toNat)
  case atStart=>exact ⟨0,Nat.zero_le _,rfl,Kept.refl _ _⟩
  case round =>
   obtain ⟨j,hj,rfl,hK⟩:=hrel
   have BI:=HK0.out.trans hK
   have HKw:=ah BI
   by_cases hlt:j<kids.length
   ·have hk':=HK.out.kept BI hS1
    have hkb':=HKB.out.kept BI hS2
    obtain ⟨b1,o1,rfl⟩:=iF hk' (by omega)
    obtain ⟨b2,o2,rfl⟩:=iF hkb' (by omega)
    obtain ⟨_,hz1,p0,p1,p2,p3,ka1,cap1,p4,hk1⟩:=(iH kids b1 o1 j hlt hk').open
    obtain ⟨_,hz2,q0,q1,q2,q3,V8,cap2,q4,hk2⟩:=(iH kids b2 o2 j hlt hkb').open
    obtain ⟨_,_,_,_,x4,_⟩:=(HF1.out.kept hK (fun h=>h)).cells
    obtain ⟨_,_,_,_,y4,_⟩:=(HF2.out.kept hK (fun h=>h)).cells
    have Gt:sizeT kids[j]≤m:=by have:=ng kids j hlt;simp only [sizeT] at hm;omega
    have GY:Safe S1 aC wr.heap.size:=hS1.mono BI.size
    have GZ:Safe S2 aC wr.heap.size:=hS2.mono BI.size
    have HKr:=ah hK
    have V1:Hid (gV wr.drew S1 (.agg #[.int .i64 kids[j].kind,.string kids[j].text,.int .i64 kids[j].n,.string kids[j].name,.slice ka1 kids[j].kids.length cap1]) kids[j]):=⟨ka1,cap1,rfl,hz1,hk1.kept (Kept.refl aC wr).drew GY⟩
    have V2:Hid (gV wr.drew S2 (.agg #[.int .i64 kids[j].kind,.string kids[j].text,.int .i64 kids[j].n,.string kids[j].name,.slice V8 kids[j].kids.length cap2]) kids[j]):=⟨V8,cap2,rfl,hz2,hk2.kept (Kept.refl aC wr).drew GZ⟩
    have D1:=ah (GY.mono (Kept.refl aC wr).drew.size);have D2:=ah (GZ.mono (Kept.refl aC wr).drew.size)
    clear hk' hkb' hk1 hk2 hK GY GZ hz1 hz2 hm BI
    go_upto_region 6 with fail
    go_cut [58] (fun c wx=>c=.bool false∧Kept aC wr wx)
    case first =>
     go_region_with ((go_at_call 21;(with_reducible refine (HIH.out kids[j] _ _ S1 S2 _ Gt (by omega) V1.out V2.out D1.out D2.out).mono ?_);rintro e w2 ⟨rfl,k_⟩;have K2:=ah ((Kept.refl aC wr).drew.trans k_);clear k_))
     all_goals (go_wp2_with fail;go_meet;exact ⟨rfl,K2.out⟩)
    case rest =>
     obtain ⟨rfl,k2⟩:=hcut
     have K2:=ah (HKr.out.trans k2)
     clear p0 p1 p2 p3 p4 q0 q1 q2 q3 q4 x4 y4 k2
     go_wp2_with fail
     go_roundw
     case rel=>exact ⟨j+1,by omega,by go_num,K2.out⟩
     case measure=>simp [intOf];omega
   ·obtain rfl:j=kids.length:=by omega
    go_wp2_with fail
    go_ret
    exact ⟨rfl,HKw.out⟩
end Go.Proofs.YtefjbnhpjdhjmaaGreatDoor
