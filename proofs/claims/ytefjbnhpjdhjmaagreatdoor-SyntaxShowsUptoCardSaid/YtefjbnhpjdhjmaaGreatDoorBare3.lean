/-  -/
import Derived.Test.YtefjbnhpjdhjmaaGreatDoorTs17
namespace Go.Proofs.YtefjbnhpjdhjmaaGreatDoor
set_option linter.all false
open Go.RowKit
set_option maxRecDepth 100000
set_option maxHeartbeats 8000000
theorem Uo (k:Int) (t:aj) (n:Int) (nm:aj) (kids:List aA) (ka:Option Addr) (cap:Nat) (S:Nat→Prop) (w:World) (hk:aI w S ka kids) (hsf:Safe S aC w.heap.size) (hz:t.size<1000000000∧nm.size<1000000000∧kids.length<1000000000) (hc:bn k) (hih:Bd S kids) :
  Calls Tryz.prog 25 #[.agg #[.int .i64 k,.string t,.int .i64 n,.string nm,.slice ka kids.length cap]] w (lJ (.mk k t n nm kids) w):=by
 obtain ⟨i0,hi0,hz0,hz1,hz2⟩:=info_parts Tryz.infoP
 have hc0:=hc
 try simp only [aT,bD,bn] at hc
 have hb:Hid (aB (.mk k t n nm kids)=.mk k ⟨#[]⟩ 0 nm (dD kids)):=by unfold Hid;rw [aB];rw [if_neg (by unfold aT;omega),if_neg (by unfold bD;omega),if_pos (by unfold bn;omega)]<;>rfl
 have e1:(k==1)=false:=by simp;omega
 have dT:decide (aT k)=false:=au (by unfold aT;omega)
 have dN:decide (bD k)=false:=au (by unfold bD;omega)
 have dM:decide (bn k)=true:=ak (by unfold bn;omega)
 have pF:=jG.start (p:=.mk k t n nm kids) (cap:=cap) hk hsf
 dsimp only [aA.aY,aA.aW,aA.dY,aA.aX,aA.aU] at pF
 obtain ⟨w0,hw0⟩:∃w0,w0=(((w.alloc (.cells #[.int .i64 k,.string t,.int .i64 n,.string nm,.slice ka kids.length cap] 27)).alloc (.cells #[.int .i64 0,.string ⟨#[]⟩,.int .i64 0,.string ⟨#[]⟩,.slice none 0 0] 27)).alloc (.cells #[.int .i64 k,.string ⟨#[]⟩,.int .i64 0,.string ⟨#[]⟩,.slice none 0 0] 27)):=⟨_,rfl⟩
 rw [←hw0] at pF
 have I0:=ah pF;have HW0:=ah hw0;have HIH:=ah hih;have HZ:=ah hz
 have hkl:=hz.2.2
 have hsw:=hsf
 clear pF hw0 hk hsf hih hc hc0 hz
 obtain ⟨c0,c1,c2,c3,c4,_⟩:=I0.out.box.cells
 dsimp only [aA.aY,aA.aW,aA.dY,aA.aX,aA.aU] at c0 c1 c2 c3 c4
 obtain ⟨_,_,_,_,_,of⟩:=I0.out.out.cells
 have f1:=of 1;have f2:=of 2;have f3:=of 3;clear of
 go_enter Tryz.func25, Tryz.ntmps25
 go_upto_region 2 with fail
 rw [←HW0.out]
 go_wp2_with fail
 refine (Ag k _).mono ?_
 rintro e u1 ⟨rfl,k_⟩
 have J1:=ah (I0.out.next k_)
 rw [dT]
 clear k_ c0 c1 c2 c3 c4 f1 f2 f3
 obtain ⟨c0,c1,c2,c3,c4,_⟩:=J1.out.box.cells
 dsimp only [aA.aY,aA.aW,aA.dY,aA.aX,aA.aU] at c0 c1 c2 c3 c4
 obtain ⟨_,_,_,_,_,of⟩:=J1.out.out.cells
 have f1:=of 1;have f2:=of 2;have f3:=of 3;clear of
 go_wp2_with fail
 refine (tZ k _).mono ?_
 rintro e u2 ⟨rfl,k_⟩
 have J2:=ah (J1.out.next k_)
 rw [dN]
 clear k_ c0 c1 c2 c3 c4 f1 f2 f3
 obtain ⟨c0,c1,c2,c3,c4,_⟩:=J2.out.box.cells
 dsimp only [aA.aY,aA.aW,aA.dY,aA.aX,aA.aU] at c0 c1 c2 c3 c4
 obtain ⟨_,_,_,_,_,of⟩:=J2.out.out.cells
 have f1:=of 1;have f2:=of 2;have f3:=of 3;clear of
 go_wp2_with fail
 refine (zB k [21,22,23,24] _ (vO k) _ 4 3 (0,0) _ (ay _ _) (by decide)).mono ?_
 rintro e u3 ⟨rfl,hu⟩
 subst hu
 rw [dM]
 have kI:Kept aC u2 (u2.alloc (.cells #[.int .i64 21,.int .i64 22,.int .i64 23,.int .i64 24] 3)):=(Kept.refl _ _).alloc _
 have J3:=ah (J2.out.next kI)
 clear kI c0 c1 c2 c3 c4 f1 f2 f3
 obtain ⟨c0,c1,c2,c3,c4,_⟩:=J3.out.box.cells
 dsimp only [aA.aY,aA.aW,aA.dY,aA.aX,aA.aU] at c0 c1 c2 c3 c4
 obtain ⟨_,_,_,_,_,of⟩:=J3.out.out.cells
 have f1:=of 1;have f2:=of 2;have f3:=of 3;clear of
 have J4:=ah (J3.out.put (k1 (o:=3) (u2.alloc (.cells #[.int .i64 21,.int .i64 22,.int .i64 23,.int .i64 24] 3)) (.string nm)) (J3.out.out.st _).2.2.1)
 go_wp2_with fail
 go_loopw [36] (fun x wr=>∃(j:Nat) (a:Option Addr) (c:Nat),j≤kids.length∧x=.int .i64 j∧Hid (jG S (.mk k t n nm kids) ka cap w ⟨#[]⟩ 0 nm (dD (kids.take j)) (.slice a (dD (kids.take j)).length c) wr)) (fun x _=>kids.length-(intOf x).toNat)
 case atStart=>exact ⟨0,none,0,Nat.zero_le _,rfl,by simpa [dD] using J4⟩
 case round =>
  obtain ⟨j,a,c,hj,rfl,I⟩:=hrel
  clear c0 c1 c2 c3 c4 f1 f2 f3
  by_cases hlt:j<kids.length
  ·have hlj:(dD (kids.take j)).length=j:=by rw [mZ,List.length_take];omega
   obtain ⟨kb,ko,rfl⟩:=iF I.out.kids (by show 0<kids.length;omega)
   obtain ⟨_,xO,q0,q1,q2,q3,kc,dK,q4,hkk⟩:=(iH kids kb ko j hlt I.out.kids).open
   have kA:Kept aC wr (wr.alloc (.cells #[.int .i64 kids[j].kind,.string kids[j].text,.int .i64 kids[j].n,.string kids[j].name,.slice kc kids[j].kids.length dK] 27)):=(Kept.refl aC wr).alloc _
   have I1:=ah (I.out.next kA)
   have kD:Kept aC (wr.alloc (.cells #[.int .i64 kids[j].kind,.string kids[j].text,.int .i64 kids[j].n,.string kids[j].name,.slice kc kids[j].kids.length dK] 27)) (wr.alloc (.cells #[.int .i64 kids[j].kind,.string kids[j].text,.int .i64 kids[j].n,.string kids[j].name,.slice kc kids[j].kids.length dK] 27)).drew:=(Kept.refl aC _).drew
   have hsr:Safe S aC wr.heap.size:=hsw.mono I.out.kept.size
   have hC:Hid (Calls Tryz.prog 25 #[(.agg #[.int .i64 kids[j].kind,.string kids[j].text,.int .i64 kids[j].n,.string kids[j].name,.slice kc kids[j].kids.length dK])] (wr.alloc (.cells #[.int .i64 kids[j].kind,.string kids[j].text,.int .i64 kids[j].n,.string kids[j].name,.slice kc kids[j].kids.length dK] 27)).drew (lJ kids[j] (wr.alloc (.cells #[.int .i64 kids[j].kind,.string kids[j].text,.int .i64 kids[j].n,.string kids[j].name,.slice kc kids[j].kids.length dK] 27)).drew)):=HIH.out j hlt _ _ ⟨kc,dK,rfl,xO,hkk.kept (kA.trans kD) hsr⟩ (hsr.mono (kA.trans kD).size)
   have I2:=ah (I1.out.next kD)
   obtain ⟨o0,o1,o2,o3,o4,of⟩:=I2.out.out.cells
   have hof:=of 4
   obtain ⟨g0,g1,g2,g3,g4,_⟩:=I1.out.out.cells
   have hst:=ah (vN kids j hlt)
   have hKF:=ah I.out.kept.size
   clear kA hkk xO of hsr kD
   generalize hll:dD (kids.take j)=l at *
   have hlz:l.length≤1000000000:=by omega
   have Um:=ah hlj
   clear hlj
   go_wp2_with fail
   go_region_law (first
    | (refine lK (w:=w3.alloc (.cells #[.int .i64 (aB kids[j]).kind,.string (aB kids[j]).text,.int .i64 (aB kids[j]).n,.string (aB kids[j]).name,.slice gB (aB kids[j]).kids.length bZ] 27)) rfl (.tmp 41) (.tmp 44) 25 25 rfl (w.heap.size+3) 27 i0 (.agg #[.int .i64 0,.string ⟨#[]⟩,.int .i64 0,.string ⟨#[]⟩,.slice none 0 0]) 5 72 Tryz.underlying25 hi0 hz0 hz1 hz2 rfl (.slice a l.length c) l.length cs (by simp [Act.eval]) WB.out _ 1 [.int .i64 (aB kids[j]).kind,.string (aB kids[j]).text,.int .i64 (aB kids[j]).n,.string (aB kids[j]).name,.slice gB (aB kids[j]).kids.length bZ] (by simp [Act.eval]) SR.out (by unfold maxLen;omega) (by omega) hb3 ?_;intro a4 c4 w4 Bf hg4 Bg;have Bh:=ah (LM.out a4 c4 w4 Bf hg4 (by simpa using Bg));have Qo:=(HF.out w4 hg4).1;have Qp:=(HF.out w4 hg4).2)
    | (go_simp;go_at_call 25;(with_reducible refine (Calls.mono hC.out ?_));(rintro e w3 ⟨v2,rfl,⟨S2,hS2,⟨gB,bZ,rfl,zC,hk2⟩⟩,K3⟩);(have I3:=ah (I2.out.next K3));(obtain ⟨p0,p1,p2,p3,p4,pf⟩:=I3.out.out.cells);(have MR:(w3.alloc (.cells #[.int .i64 (aB kids[j]).kind,.string (aB kids[j]).text,.int .i64 (aB kids[j]).n,.string (aB kids[j]).name,.slice gB (aB kids[j]).kids.length bZ] 27)).cell? ⟨w.heap.size+2,4,none⟩=some (.slice a l.length c):=(((Kept.refl aC w3).alloc _).cell I3.out.out.lt (fun h=>h)).trans p4);(obtain ⟨cs,S1,hw1,hr1,hS1⟩:=I2.out.own);(have Bj:=ah K3);(have WB:=ah ((hw1.kept K3 (fun _ _ h=>h)).alloc (.cells #[.int .i64 (aB kids[j]).kind,.string (aB kids[j]).text,.int .i64 (aB kids[j]).n,.string (aB kids[j]).name,.slice gB (aB kids[j]).kids.length bZ] 27)));(have SR:Hid (Src Tryz.prog 5 25 (.slice (some ⟨w3.heap.size,0,none⟩) 1 1) 1 [.int .i64 (aB kids[j]).kind,.string (aB kids[j]).text,.int .i64 (aB kids[j]).n,.string (aB kids[j]).name,.slice gB (aB kids[j]).kids.length bZ] (w3.alloc (.cells #[.int .i64 (aB kids[j]).kind,.string (aB kids[j]).text,.int .i64 (aB kids[j]).n,.string (aB kids[j]).name,.slice gB (aB kids[j]).kids.length bZ] 27))):=Src.ofSlice _ Tryz.underlying25 _ _ _ _ rfl (World.news_of_block (fr:=(0,0)) (cs:=#[.int .i64 (aB kids[j]).kind,.string (aB kids[j]).text,.int .i64 (aB kids[j]).n,.string (aB kids[j]).name,.slice gB (aB kids[j]).kids.length bZ]) (ay w3 _)) (by intro u hu;simp at hu;rcases hu with rfl|rfl|rfl|rfl|rfl<;>rfl));(have hb3:w.heap.size+3≤(w3.alloc (.cells #[.int .i64 (aB kids[j]).kind,.string (aB kids[j]).text,.int .i64 (aB kids[j]).n,.string (aB kids[j]).name,.slice gB (aB kids[j]).kids.length bZ] 27)).heap.size:=by have:=I3.out.out.lt;simp;omega);(have LM:Hid (∀(a':Option Addr) (c':Nat) (w4:World),bT w4 (w.heap.size+3) 27 5 (.slice a' (l.length+1) c') (l.length+1) (cs++[.int .i64 (aB kids[j]).kind,.string (aB kids[j]).text,.int .i64 (aB kids[j]).n,.string (aB kids[j]).name,.slice gB (aB kids[j]).kids.length bZ])→(w3.alloc (.cells #[.int .i64 (aB kids[j]).kind,.string (aB kids[j]).text,.int .i64 (aB kids[j]).n,.string (aB kids[j]).name,.slice gB (aB kids[j]).kids.length bZ] 27)).grownBy w4 (Value.slice a l.length c).ownBlock→((Value.slice a' (l.length+1) c').ownBlock=(Value.slice a l.length c).ownBlock∨(Value.slice a' (l.length+1) c').ownBlock=some (w3.heap.size+1))→jG S (.mk k t n nm kids) (some ⟨kb,ko,none⟩) cap w ⟨#[]⟩ 0 nm (l++[aB kids[j]]) (.slice a' (l.length+1) c') (w4.setCell ⟨w.heap.size+2,4,none⟩ (.slice a' (l.length+1) c'))):=fun a' c' w4 x1 x2 x3=>xK I2.out hw1 hr1 hS1 Bj.out zC hS2 hk2 x1 x2 x3);(have HF:Hid (∀w4:World,(w3.alloc (.cells #[.int .i64 (aB kids[j]).kind,.string (aB kids[j]).text,.int .i64 (aB kids[j]).n,.string (aB kids[j]).name,.slice gB (aB kids[j]).kids.length bZ] 27)).grownBy w4 (Value.slice a l.length c).ownBlock→w4.frozen? ⟨w.heap.size+2,4,none⟩=false∧w4.cell? ⟨w.heap.size+2,4,none⟩=some (.slice a l.length c)):=fun w4 hg=>by have hlt3:=I3.out.out.lt;have hx:=hg.block (w.heap.size+2) (by simp;omega) (fun e=>by have:=(hw1.lt _ e.symm).1;omega);have hy:=I3.out.out;unfold Five at hy;exact ⟨by simp [World.frozen?,hx,Below.heap_alloc _ _ _ hlt3,hy],by simp [World.cell?,hx,Below.heap_alloc _ _ _ hlt3,hy]⟩)))
   all_goals
    go_wp2_with fail
    go_roundw
    case rel=>exact ⟨j+1,a4,c4,by omega,by go_num,by rw [hst.out,List.length_append];exact Bh⟩
    case measure=>simp [intOf];omega
  ·obtain rfl:j=kids.length:=by omega
   rw [List.take_length] at I
   obtain ⟨o0,o1,o2,o3,o4,_⟩:=I.out.out.cells
   dsimp only [aA.aY,aA.aW,aA.dY,aA.aX,aA.aU] at o0
   obtain ⟨z0,z1,z2,z3,z4,zf⟩:=Five.cells I.out.zero
   have f0:=zf 0;have f1:=zf 1;have f2:=zf 2;have f3:=zf 3;have f4:=zf 4;clear zf
   go_wp2_with fail
   exact zA rfl rfl I.out hb.out rfl ⟨by first|exact HZ.out.1|decide,by first|exact HZ.out.2.1|decide,by rw [mZ];exact hkl⟩
theorem Ur (k:Int) (t:aj) (n:Int) (nm:aj) (kids:List aA) (ka:Option Addr) (cap:Nat) (S:Nat→Prop) (w:World) (hk:aI w S ka kids) (hsf:Safe S aC w.heap.size) (hz:t.size<1000000000∧nm.size<1000000000∧kids.length<1000000000) (hc:(k≠1∧¬aT k∧¬bD k∧¬bn k)) (hih:Bd S kids) :
  Calls Tryz.prog 25 #[.agg #[.int .i64 k,.string t,.int .i64 n,.string nm,.slice ka kids.length cap]] w (lJ (.mk k t n nm kids) w):=by
 obtain ⟨i0,hi0,hz0,hz1,hz2⟩:=info_parts Tryz.infoP
 have hc0:=hc
 try simp only [aT,bD,bn] at hc
 have hb:Hid (aB (.mk k t n nm kids)=.mk k ⟨#[]⟩ 0 ⟨#[]⟩ (dD kids)):=by unfold Hid;rw [aB];rw [if_neg (by unfold aT;omega),if_neg (by unfold bD;omega),if_neg (by unfold bn;omega)]<;>rfl
 have e1:(k==1)=false:=by simp;omega
 have dT:decide (aT k)=false:=au (by unfold aT;omega)
 have dN:decide (bD k)=false:=au (by unfold bD;omega)
 have dM:decide (bn k)=false:=au (by unfold bn;omega)
 have pF:=jG.start (p:=.mk k t n nm kids) (cap:=cap) hk hsf
 dsimp only [aA.aY,aA.aW,aA.dY,aA.aX,aA.aU] at pF
 obtain ⟨w0,hw0⟩:∃w0,w0=(((w.alloc (.cells #[.int .i64 k,.string t,.int .i64 n,.string nm,.slice ka kids.length cap] 27)).alloc (.cells #[.int .i64 0,.string ⟨#[]⟩,.int .i64 0,.string ⟨#[]⟩,.slice none 0 0] 27)).alloc (.cells #[.int .i64 k,.string ⟨#[]⟩,.int .i64 0,.string ⟨#[]⟩,.slice none 0 0] 27)):=⟨_,rfl⟩
 rw [←hw0] at pF
 have I0:=ah pF;have HW0:=ah hw0;have HIH:=ah hih;have HZ:=ah hz
 have hkl:=hz.2.2
 have hsw:=hsf
 clear pF hw0 hk hsf hih hc hc0 hz
 obtain ⟨c0,c1,c2,c3,c4,_⟩:=I0.out.box.cells
 dsimp only [aA.aY,aA.aW,aA.dY,aA.aX,aA.aU] at c0 c1 c2 c3 c4
 obtain ⟨_,_,_,_,_,of⟩:=I0.out.out.cells
 have f1:=of 1;have f2:=of 2;have f3:=of 3;clear of
 go_enter Tryz.func25, Tryz.ntmps25
 go_upto_region 2 with fail
 rw [←HW0.out]
 go_wp2_with fail
 refine (Ag k _).mono ?_
 rintro e u1 ⟨rfl,k_⟩
 have J1:=ah (I0.out.next k_)
 rw [dT]
 clear k_ c0 c1 c2 c3 c4 f1 f2 f3
 obtain ⟨c0,c1,c2,c3,c4,_⟩:=J1.out.box.cells
 dsimp only [aA.aY,aA.aW,aA.dY,aA.aX,aA.aU] at c0 c1 c2 c3 c4
 obtain ⟨_,_,_,_,_,of⟩:=J1.out.out.cells
 have f1:=of 1;have f2:=of 2;have f3:=of 3;clear of
 go_wp2_with fail
 refine (tZ k _).mono ?_
 rintro e u2 ⟨rfl,k_⟩
 have J2:=ah (J1.out.next k_)
 rw [dN]
 clear k_ c0 c1 c2 c3 c4 f1 f2 f3
 obtain ⟨c0,c1,c2,c3,c4,_⟩:=J2.out.box.cells
 dsimp only [aA.aY,aA.aW,aA.dY,aA.aX,aA.aU] at c0 c1 c2 c3 c4
 obtain ⟨_,_,_,_,_,of⟩:=J2.out.out.cells
 have f1:=of 1;have f2:=of 2;have f3:=of 3;clear of
 go_wp2_with fail
 refine (zB k [21,22,23,24] _ (vO k) _ 4 3 (0,0) _ (ay _ _) (by decide)).mono ?_
 rintro e u3 ⟨rfl,hu⟩
 subst hu
 rw [dM]
 have kI:Kept aC u2 (u2.alloc (.cells #[.int .i64 21,.int .i64 22,.int .i64 23,.int .i64 24] 3)):=(Kept.refl _ _).alloc _
 have J3:=ah (J2.out.next kI)
 clear kI c0 c1 c2 c3 c4 f1 f2 f3
 obtain ⟨c0,c1,c2,c3,c4,_⟩:=J3.out.box.cells
 dsimp only [aA.aY,aA.aW,aA.dY,aA.aX,aA.aU] at c0 c1 c2 c3 c4
 obtain ⟨_,_,_,_,_,of⟩:=J3.out.out.cells
 have f1:=of 1;have f2:=of 2;have f3:=of 3;clear of
 go_wp2_with fail
 go_loopw [36] (fun x wr=>∃(j:Nat) (a:Option Addr) (c:Nat),j≤kids.length∧x=.int .i64 j∧Hid (jG S (.mk k t n nm kids) ka cap w ⟨#[]⟩ 0 ⟨#[]⟩ (dD (kids.take j)) (.slice a (dD (kids.take j)).length c) wr)) (fun x _=>kids.length-(intOf x).toNat)
 case atStart=>exact ⟨0,none,0,Nat.zero_le _,rfl,by simpa [dD] using J3⟩
 case round =>
  obtain ⟨j,a,c,hj,rfl,I⟩:=hrel
  clear c0 c1 c2 c3 c4 f1 f2 f3
  by_cases hlt:j<kids.length
  ·have hlj:(dD (kids.take j)).length=j:=by rw [mZ,List.length_take];omega
   obtain ⟨kb,ko,rfl⟩:=iF I.out.kids (by show 0<kids.length;omega)
   obtain ⟨_,xO,q0,q1,q2,q3,kc,dK,q4,hkk⟩:=(iH kids kb ko j hlt I.out.kids).open
   have kA:Kept aC wr (wr.alloc (.cells #[.int .i64 kids[j].kind,.string kids[j].text,.int .i64 kids[j].n,.string kids[j].name,.slice kc kids[j].kids.length dK] 27)):=(Kept.refl aC wr).alloc _
   have I1:=ah (I.out.next kA)
   have kD:Kept aC (wr.alloc (.cells #[.int .i64 kids[j].kind,.string kids[j].text,.int .i64 kids[j].n,.string kids[j].name,.slice kc kids[j].kids.length dK] 27)) (wr.alloc (.cells #[.int .i64 kids[j].kind,.string kids[j].text,.int .i64 kids[j].n,.string kids[j].name,.slice kc kids[j].kids.length dK] 27)).drew:=(Kept.refl aC _).drew
   have hsr:Safe S aC wr.heap.size:=hsw.mono I.out.kept.size
   have hC:Hid (Calls Tryz.prog 25 #[(.agg #[.int .i64 kids[j].kind,.string kids[j].text,.int .i64 kids[j].n,.string kids[j].name,.slice kc kids[j].kids.length dK])] (wr.alloc (.cells #[.int .i64 kids[j].kind,.string kids[j].text,.int .i64 kids[j].n,.string kids[j].name,.slice kc kids[j].kids.length dK] 27)).drew (lJ kids[j] (wr.alloc (.cells #[.int .i64 kids[j].kind,.string kids[j].text,.int .i64 kids[j].n,.string kids[j].name,.slice kc kids[j].kids.length dK] 27)).drew)):=HIH.out j hlt _ _ ⟨kc,dK,rfl,xO,hkk.kept (kA.trans kD) hsr⟩ (hsr.mono (kA.trans kD).size)
   have I2:=ah (I1.out.next kD)
   obtain ⟨o0,o1,o2,o3,o4,of⟩:=I2.out.out.cells
   have hof:=of 4
   obtain ⟨g0,g1,g2,g3,g4,_⟩:=I1.out.out.cells
   have hst:=ah (vN kids j hlt)
   have hKF:=ah I.out.kept.size
   clear kA hkk xO of hsr kD
   generalize hll:dD (kids.take j)=l at *
   have hlz:l.length≤1000000000:=by omega
   have Um:=ah hlj
   clear hlj
   go_wp2_with fail
   go_region_law (first
    | (refine lK (w:=w3.alloc (.cells #[.int .i64 (aB kids[j]).kind,.string (aB kids[j]).text,.int .i64 (aB kids[j]).n,.string (aB kids[j]).name,.slice gB (aB kids[j]).kids.length bZ] 27)) rfl (.tmp 41) (.tmp 44) 25 25 rfl (w.heap.size+3) 27 i0 (.agg #[.int .i64 0,.string ⟨#[]⟩,.int .i64 0,.string ⟨#[]⟩,.slice none 0 0]) 5 72 Tryz.underlying25 hi0 hz0 hz1 hz2 rfl (.slice a l.length c) l.length cs (by simp [Act.eval]) WB.out _ 1 [.int .i64 (aB kids[j]).kind,.string (aB kids[j]).text,.int .i64 (aB kids[j]).n,.string (aB kids[j]).name,.slice gB (aB kids[j]).kids.length bZ] (by simp [Act.eval]) SR.out (by unfold maxLen;omega) (by omega) hb3 ?_;intro a4 c4 w4 Bf hg4 Bg;have Bh:=ah (LM.out a4 c4 w4 Bf hg4 (by simpa using Bg));have Qo:=(HF.out w4 hg4).1;have Qp:=(HF.out w4 hg4).2)
    | (go_simp;go_at_call 25;(with_reducible refine (Calls.mono hC.out ?_));(rintro e w3 ⟨v2,rfl,⟨S2,hS2,⟨gB,bZ,rfl,zC,hk2⟩⟩,K3⟩);(have I3:=ah (I2.out.next K3));(obtain ⟨p0,p1,p2,p3,p4,pf⟩:=I3.out.out.cells);(have MR:(w3.alloc (.cells #[.int .i64 (aB kids[j]).kind,.string (aB kids[j]).text,.int .i64 (aB kids[j]).n,.string (aB kids[j]).name,.slice gB (aB kids[j]).kids.length bZ] 27)).cell? ⟨w.heap.size+2,4,none⟩=some (.slice a l.length c):=(((Kept.refl aC w3).alloc _).cell I3.out.out.lt (fun h=>h)).trans p4);(obtain ⟨cs,S1,hw1,hr1,hS1⟩:=I2.out.own);(have Bj:=ah K3);(have WB:=ah ((hw1.kept K3 (fun _ _ h=>h)).alloc (.cells #[.int .i64 (aB kids[j]).kind,.string (aB kids[j]).text,.int .i64 (aB kids[j]).n,.string (aB kids[j]).name,.slice gB (aB kids[j]).kids.length bZ] 27)));(have SR:Hid (Src Tryz.prog 5 25 (.slice (some ⟨w3.heap.size,0,none⟩) 1 1) 1 [.int .i64 (aB kids[j]).kind,.string (aB kids[j]).text,.int .i64 (aB kids[j]).n,.string (aB kids[j]).name,.slice gB (aB kids[j]).kids.length bZ] (w3.alloc (.cells #[.int .i64 (aB kids[j]).kind,.string (aB kids[j]).text,.int .i64 (aB kids[j]).n,.string (aB kids[j]).name,.slice gB (aB kids[j]).kids.length bZ] 27))):=Src.ofSlice _ Tryz.underlying25 _ _ _ _ rfl (World.news_of_block (fr:=(0,0)) (cs:=#[.int .i64 (aB kids[j]).kind,.string (aB kids[j]).text,.int .i64 (aB kids[j]).n,.string (aB kids[j]).name,.slice gB (aB kids[j]).kids.length bZ]) (ay w3 _)) (by intro u hu;simp at hu;rcases hu with rfl|rfl|rfl|rfl|rfl<;>rfl));(have hb3:w.heap.size+3≤(w3.alloc (.cells #[.int .i64 (aB kids[j]).kind,.string (aB kids[j]).text,.int .i64 (aB kids[j]).n,.string (aB kids[j]).name,.slice gB (aB kids[j]).kids.length bZ] 27)).heap.size:=by have:=I3.out.out.lt;simp;omega);(have LM:Hid (∀(a':Option Addr) (c':Nat) (w4:World),bT w4 (w.heap.size+3) 27 5 (.slice a' (l.length+1) c') (l.length+1) (cs++[.int .i64 (aB kids[j]).kind,.string (aB kids[j]).text,.int .i64 (aB kids[j]).n,.string (aB kids[j]).name,.slice gB (aB kids[j]).kids.length bZ])→(w3.alloc (.cells #[.int .i64 (aB kids[j]).kind,.string (aB kids[j]).text,.int .i64 (aB kids[j]).n,.string (aB kids[j]).name,.slice gB (aB kids[j]).kids.length bZ] 27)).grownBy w4 (Value.slice a l.length c).ownBlock→((Value.slice a' (l.length+1) c').ownBlock=(Value.slice a l.length c).ownBlock∨(Value.slice a' (l.length+1) c').ownBlock=some (w3.heap.size+1))→jG S (.mk k t n nm kids) (some ⟨kb,ko,none⟩) cap w ⟨#[]⟩ 0 ⟨#[]⟩ (l++[aB kids[j]]) (.slice a' (l.length+1) c') (w4.setCell ⟨w.heap.size+2,4,none⟩ (.slice a' (l.length+1) c'))):=fun a' c' w4 x1 x2 x3=>xK I2.out hw1 hr1 hS1 Bj.out zC hS2 hk2 x1 x2 x3);(have HF:Hid (∀w4:World,(w3.alloc (.cells #[.int .i64 (aB kids[j]).kind,.string (aB kids[j]).text,.int .i64 (aB kids[j]).n,.string (aB kids[j]).name,.slice gB (aB kids[j]).kids.length bZ] 27)).grownBy w4 (Value.slice a l.length c).ownBlock→w4.frozen? ⟨w.heap.size+2,4,none⟩=false∧w4.cell? ⟨w.heap.size+2,4,none⟩=some (.slice a l.length c)):=fun w4 hg=>by have hlt3:=I3.out.out.lt;have hx:=hg.block (w.heap.size+2) (by simp;omega) (fun e=>by have:=(hw1.lt _ e.symm).1;omega);have hy:=I3.out.out;unfold Five at hy;exact ⟨by simp [World.frozen?,hx,Below.heap_alloc _ _ _ hlt3,hy],by simp [World.cell?,hx,Below.heap_alloc _ _ _ hlt3,hy]⟩)))
   all_goals
    go_wp2_with fail
    go_roundw
    case rel=>exact ⟨j+1,a4,c4,by omega,by go_num,by rw [hst.out,List.length_append];exact Bh⟩
    case measure=>simp [intOf];omega
  ·obtain rfl:j=kids.length:=by omega
   rw [List.take_length] at I
   obtain ⟨o0,o1,o2,o3,o4,_⟩:=I.out.out.cells
   dsimp only [aA.aY,aA.aW,aA.dY,aA.aX,aA.aU] at o0
   obtain ⟨z0,z1,z2,z3,z4,zf⟩:=Five.cells I.out.zero
   have f0:=zf 0;have f1:=zf 1;have f2:=zf 2;have f3:=zf 3;have f4:=zf 4;clear zf
   go_wp2_with fail
   exact zA rfl rfl I.out hb.out rfl ⟨by first|exact HZ.out.1|decide,by first|exact HZ.out.2.1|decide,by rw [mZ];exact hkl⟩
end Go.Proofs.YtefjbnhpjdhjmaaGreatDoor
