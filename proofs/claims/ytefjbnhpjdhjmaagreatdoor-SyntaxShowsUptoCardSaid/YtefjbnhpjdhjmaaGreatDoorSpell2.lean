/-  -/
import Derived.Test.YtefjbnhpjdhjmaaGreatDoorTs15
namespace Go.Proofs.YtefjbnhpjdhjmaaGreatDoor
set_option linter.all false
open Go.RowKit
set_option maxRecDepth 100000
set_option maxHeartbeats 4000000
theorem aag:(⟨#[40]⟩:aj)=⟨[40].toArray⟩:=rfl
theorem aah:(⟨#[41]⟩:aj)=⟨[41].toArray⟩:=rfl
theorem adz:(⟨#[42]⟩:aj)=⟨[42].toArray⟩:=rfl
theorem adA:(⟨#[64]⟩:aj)=⟨[64].toArray⟩:=rfl
theorem TD (N T W:Nat) (S:Nat→Prop) (b o i:Nat) (k:Int) (t:aj) (n:Int) (nm:aj) (kids:List aA) (l:List UInt8) (w:World) (h:pY N T W S b o (.mk k t n nm kids) l w) (hn:dS (.mk k t n nm kids)=0) (hl:l.length+(aG (.mk k t n nm kids) i).length≤big) (hk:aT k) :
  nJ N T W S b o i (.mk k t n nm kids) l w:=by
 obtain ⟨Hg,ht,hnn,hnm,_⟩:=jD hn
 obtain ⟨hSb,hz,p0,p1,p2,p3,ka,cap,p4,hkk⟩:=h.pat.open
 dsimp only [aA.aY,aA.aW,aA.dY,aA.aX,aA.aU] at p0 p1 p2 p3 p4
 unfold big at hl
 unfold nJ
 have HH:=ah h
 have hN:T≤N:=h.hT
 have e0:decide ((i:Int)<0)=false:=by simp
 clear hkk hz hn
 have hk0:=hk
 unfold aT at hk
 obtain ⟨kk,rfl⟩:∃kk:Nat,k=kk:=⟨k.toNat,by omega⟩
 have hs:aG (.mk kk t n nm kids) i=fD kk++(40::(gu t++[41])):=by rw [aG,if_neg (by omega),if_pos hk0]
 rw [hs] at hl⊢
 have ht1:=ht (.inr hk)
 have htq:t.size≤100000:=by omega
 have hql:=Aw t
 have hw6:=rE kk
 simp only [List.length_append,List.length_cons,List.length_nil] at hl
 have z18:((kk:Int)==18)=false:=by simp;omega
 have z19:((kk:Int)==19)=false:=by simp;omega
 have z1:((kk:Int)==1)=false:=by simp;omega
 obtain ⟨x,x0,hx⟩:=HH.out.word kk (by omega)
 have hstr:Hid (x++⟨#[40]⟩++⟨(gu t).toArray⟩++⟨#[41]⟩=⟨(fD kk++(40::(gu t++[41]))).toArray⟩):=by
  unfold Hid;rw [hx,aag,aah,kQ,kQ,kQ];simp
 have hln:l.length+(⟨(fD kk++(40::(gu t++[41]))).toArray⟩:aj).size≤140737488355328:=by
  show l.length+(fD kk++(40::(gu t++[41]))).toArray.size≤_;rw [List.size_toArray];simp only [List.length_append,List.length_cons,List.length_nil];omega
 have HB:b<w.heap.size∧W<w.heap.size:=⟨Nat.lt_of_lt_of_le (h.hS _ hSb) h.hw,h.wd.lt⟩
 have hxs:x.size≤6:=by rw [hx];exact hw6
 have hkl:(kk:Int)<21:=by omega
 clear hnn hnm hs hx h ht
 go_enter_defers Tryz.func36, Tryz.ntmps36
 refine Code.wp_mono Jf ?_
 go_upto_if 47 with fail
 go_cut [47] from 48 to 52 (fun c wx=>c=.bool true∧w=wx)
 case first =>
  by_cases b3:(kk:Int)=3
  ·have y3:((kk:Int)==3)=true:=by simpa using b3
   clear b3
   go_wp2_with fail
   go_meet
   first
    | exact ⟨rfl,rfl⟩
    | exact ⟨congrArg Value.bool y3,rfl⟩
  have y3:((kk:Int)==3)=false:=by simpa using b3
  by_cases b4:(kk:Int)=4
  ·have y4:((kk:Int)==4)=true:=by simpa using b4
   clear b4
   go_wp2_with fail
   go_meet
   first
    | exact ⟨rfl,rfl⟩
    | exact ⟨congrArg Value.bool y4,rfl⟩
  have y4:((kk:Int)==4)=false:=by simpa using b4
  by_cases b5:(kk:Int)=5
  ·have y5:((kk:Int)==5)=true:=by simpa using b5
   clear b5
   go_wp2_with fail
   go_meet
   first
    | exact ⟨rfl,rfl⟩
    | exact ⟨congrArg Value.bool y5,rfl⟩
  have y5:((kk:Int)==5)=false:=by simpa using b5
  by_cases b6:(kk:Int)=6
  ·have y6:((kk:Int)==6)=true:=by simpa using b6
   clear b6
   go_wp2_with fail
   go_meet
   first
    | exact ⟨rfl,rfl⟩
    | exact ⟨congrArg Value.bool y6,rfl⟩
  have y6:((kk:Int)==6)=false:=by simpa using b6
  by_cases b7:(kk:Int)=7
  ·have y7:((kk:Int)==7)=true:=by simpa using b7
   clear b7
   go_wp2_with fail
   go_meet
   first
    | exact ⟨rfl,rfl⟩
    | exact ⟨congrArg Value.bool y7,rfl⟩
  have y7:((kk:Int)==7)=false:=by simpa using b7
  exact absurd hk (by omega)
 case rest =>
  obtain ⟨rfl,rfl⟩:=hcut
  go_wp2_with fail
  go_region_with (first
   | (go_at_call 68;(with_reducible refine (Eo t _ (HH.out.quiet (Kept.refl aC w).drew).gl htq).mono ?_);(rintro e w1 ⟨rfl,K1⟩);(have h1:=ah (HH.out.quiet ((Kept.refl aC w).drew.trans K1)));(have iG:=ah ((Kept.refl aC w).drew.trans K1));(have q0:=(iG.out.cell HB.1 (fun h=>h)).trans p0);(have q1:=(iG.out.cell HB.1 (fun h=>h)).trans p1);(have q2:=(iG.out.cell HB.1 (fun h=>h)).trans p2);(have x1:=(iG.out.cell HB.2 (fun h=>h)).trans x0))
   | (go_at_call 31;(rw [hstr.out]);(refine (bM N T l _ _ h1.out.jd hln h1.out.hw).mono ?_);(rintro e w2 ⟨rfl,Q,K2⟩);(have KK:Hid (KB N T w w2):=KB.trans (Kept.more iG.out fun _ h=>h.elim) K2);(have Q:=ah Q)))
  all_goals
   go_wp2_with fail
   exact ⟨_,results_none rfl _ _ _,rfl,Q.out,KK.out⟩
end Go.Proofs.YtefjbnhpjdhjmaaGreatDoor
