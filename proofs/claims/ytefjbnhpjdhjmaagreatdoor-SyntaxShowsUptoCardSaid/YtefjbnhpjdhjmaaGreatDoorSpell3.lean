/-  -/
import Derived.Test.YtefjbnhpjdhjmaaGreatDoorSpell2
namespace Go.Proofs.YtefjbnhpjdhjmaaGreatDoor
set_option linter.all false
open Go.RowKit
set_option maxRecDepth 100000
set_option maxHeartbeats 4000000
theorem WI (N T W:Nat) (S:Nat→Prop) (b o i:Nat) (k:Int) (t:aj) (n:Int) (nm:aj) (kids:List aA) (l:List UInt8) (w:World) (h:pY N T W S b o (.mk k t n nm kids) l w) (hn:dS (.mk k t n nm kids)=0) (hl:l.length+(aG (.mk k t n nm kids) i).length≤big) (hk:bD k) :
  nJ N T W S b o i (.mk k t n nm kids) l w:=by
 obtain ⟨Hg,ht,hnn,hnm,_⟩:=jD hn
 obtain ⟨hSb,hz,p0,p1,p2,p3,ka,cap,p4,hkk⟩:=h.pat.open
 dsimp only [aA.aY,aA.aW,aA.dY,aA.aX,aA.aU] at p0 p1 p2 p3 p4
 unfold big at hl
 unfold nJ
 have HH:=ah h
 have hN:T≤N:=h.hT
 have e0:decide ((i:Int)<0)=false:=by simp
 clear hkk hz hn
 have hk1:k=2∨(8≤k∧k≤11):=hk
 obtain ⟨kk,rfl⟩:∃kk:Nat,k=kk:=⟨k.toNat,by omega⟩
 have hs:aG (.mk kk t n nm kids) i=fD kk++(40::(Lib.decDigits n.toNat++[41])):=by rw [aG,if_neg (by unfold bD at hk;omega),if_neg (by unfold aT bD at *;omega),if_pos hk]
 rw [hs] at hl⊢
 obtain ⟨hn0,hn1⟩:=hnn hk
 have hql:=BH 5 n.toNat (by omega)
 have hw6:=rE kk
 simp only [List.length_append,List.length_cons,List.length_nil] at hl
 unfold bD at hk
 have z18:((kk:Int)==18)=false:=by simp;omega
 have z19:((kk:Int)==19)=false:=by simp;omega
 have z1:((kk:Int)==1)=false:=by simp;omega
 have z3:((kk:Int)==3)=false:=by simp;omega
 have z4:((kk:Int)==4)=false:=by simp;omega
 have z5:((kk:Int)==5)=false:=by simp;omega
 have z6:((kk:Int)==6)=false:=by simp;omega
 have z7:((kk:Int)==7)=false:=by simp;omega
 obtain ⟨x,x0,hx⟩:=HH.out.word kk (by omega)
 have hstr:Hid (x++⟨#[40]⟩++⟨(Lib.decDigits n.toNat).toArray⟩++⟨#[41]⟩=⟨(fD kk++(40::(Lib.decDigits n.toNat++[41]))).toArray⟩):=by
  unfold Hid;rw [hx,aag,aah,kQ,kQ,kQ];simp
 have hln:l.length+(⟨(fD kk++(40::(Lib.decDigits n.toNat++[41]))).toArray⟩:aj).size≤140737488355328:=by
  show l.length+(fD kk++(40::(Lib.decDigits n.toNat++[41]))).toArray.size≤_;rw [List.size_toArray];simp only [List.length_append,List.length_cons,List.length_nil];omega
 have HB:b<w.heap.size∧W<w.heap.size:=⟨Nat.lt_of_lt_of_le (h.hS _ hSb) h.hw,h.wd.lt⟩
 have hxs:x.size≤6:=by rw [hx];exact hw6
 have hkl:(kk:Int)<21:=by omega
 clear hnn hnm hs hx h ht
 go_enter_defers Tryz.func36, Tryz.ntmps36
 refine Code.wp_mono Jf ?_
 go_upto_if 70 with fail
 go_cut [70] from 71 to 75 (fun c wx=>c=.bool true∧w=wx)
 case first =>
  by_cases b2:(kk:Int)=2
  ·have y2:((kk:Int)==2)=true:=by simpa using b2
   clear b2
   go_wp2_with fail
   go_meet
   first
    | exact ⟨rfl,rfl⟩
    | exact ⟨congrArg Value.bool y2,rfl⟩
  have y2:((kk:Int)==2)=false:=by simpa using b2
  by_cases b8:(kk:Int)=8
  ·have y8:((kk:Int)==8)=true:=by simpa using b8
   clear b8
   go_wp2_with fail
   go_meet
   first
    | exact ⟨rfl,rfl⟩
    | exact ⟨congrArg Value.bool y8,rfl⟩
  have y8:((kk:Int)==8)=false:=by simpa using b8
  by_cases b9:(kk:Int)=9
  ·have y9:((kk:Int)==9)=true:=by simpa using b9
   clear b9
   go_wp2_with fail
   go_meet
   first
    | exact ⟨rfl,rfl⟩
    | exact ⟨congrArg Value.bool y9,rfl⟩
  have y9:((kk:Int)==9)=false:=by simpa using b9
  by_cases b10:(kk:Int)=10
  ·have y10:((kk:Int)==10)=true:=by simpa using b10
   clear b10
   go_wp2_with fail
   go_meet
   first
    | exact ⟨rfl,rfl⟩
    | exact ⟨congrArg Value.bool y10,rfl⟩
  have y10:((kk:Int)==10)=false:=by simpa using b10
  by_cases b11:(kk:Int)=11
  ·have y11:((kk:Int)==11)=true:=by simpa using b11
   clear b11
   go_wp2_with fail
   go_meet
   first
    | exact ⟨rfl,rfl⟩
    | exact ⟨congrArg Value.bool y11,rfl⟩
  have y11:((kk:Int)==11)=false:=by simpa using b11
  exact absurd hk (by omega)
 case rest =>
  obtain ⟨rfl,rfl⟩:=hcut
  go_wp2_with fail
  go_region_with (first
   | (go_at_call 69;(with_reducible refine (YI n _ (HH.out.quiet (Kept.refl aC w).drew).gl hn0 hn1).mono ?_);(rintro e w1 ⟨rfl,K1⟩);(have h1:=ah (HH.out.quiet ((Kept.refl aC w).drew.trans K1)));(have iG:=ah ((Kept.refl aC w).drew.trans K1));(have q0:=(iG.out.cell HB.1 (fun h=>h)).trans p0);(have q1:=(iG.out.cell HB.1 (fun h=>h)).trans p1);(have q2:=(iG.out.cell HB.1 (fun h=>h)).trans p2);(have x1:=(iG.out.cell HB.2 (fun h=>h)).trans x0))
   | (go_at_call 31;(rw [hstr.out]);(refine (bM N T l _ _ h1.out.jd hln h1.out.hw).mono ?_);(rintro e w2 ⟨rfl,Q,K2⟩);(have KK:Hid (KB N T w w2):=KB.trans (Kept.more iG.out fun _ h=>h.elim) K2);(have Q:=ah Q)))
  all_goals
   go_wp2_with fail
   exact ⟨_,results_none rfl _ _ _,rfl,Q.out,KK.out⟩
end Go.Proofs.YtefjbnhpjdhjmaaGreatDoor
