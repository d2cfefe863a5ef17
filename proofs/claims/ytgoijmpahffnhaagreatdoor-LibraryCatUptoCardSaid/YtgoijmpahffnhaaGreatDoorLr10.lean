/-  -/
import Derived.Test.YtgoijmpahffnhaaGreatDoorLc13
namespace Go.Proofs.YtgoijmpahffnhaaGreatDoor
set_option linter.all false
open Go.RowKit
set_option maxRecDepth 100000
set_option maxHeartbeats 8000000
theorem QF {l:List aG} {u:aj} {d:Int} (h:lF l u=some d):∃k:Nat,d=k∧k<l.length:=by
 unfold lF at h
 rw [uD] at h
 rcases vZ (MV u) l 0 with ⟨h1,_⟩|⟨k,hk,h1,_⟩
 ·rw [h1] at h;cases h
 ·rw [h1] at h
  rw [if_neg (by omega)] at h
  cases h
  exact ⟨0+k,rfl,by omega⟩
theorem Yw {l:List aG} {i:Nat} (u:aj) (hi:i<l.length):nextL l i u≤l.length:=by
 unfold nextL
 split
 ·omega
 split
 ·exact Nat.le_refl _
 ·cases h:lF l u with
  | none=>simp
  | some d=>obtain ⟨k,rfl,hk⟩:=QF h;simp;omega
theorem QG {s:aj} (h:s.size=0):s.toList=[]:=by rw [qF h];rw [ByteArray.toList_eq]
theorem JM {s:aj} (h:s.toList=[]):(⟨#[]⟩:aj)=s:=(Fh.2 h).symm
def ThQ (F:dQ) (ov:Value) (w:World) (S:aY) (e:Ending) (w':World):Prop:=e=.returned (.int .i64 0)∧∃rQ,bI F ov w rQ S w'
structure ThJ (F:dQ) (ov:Value) (w:World) (R0:aY) (i n:Nat) (ru:Value) (Sj:aY) (wr:World):Prop where
 eq:jc F.l n i Sj=R0
 le:i≤F.l.length
 st:Sj.steps+n=F.lim
 ok:bM Sj
 run:bI F ov w ru Sj wr
def tK (F:dQ) (w:World):Nat:=(intOf ((w.cell? ⟨F.W,2,none⟩).getD undef)).toNat
theorem bg.tK {F:dQ} {ov:Value} {S:aY} {w:World} (h:bg F ov S w):tK F w=S.steps:=by
 unfold Go.Proofs.YtgoijmpahffnhaaGreatDoor.tK
 rw [h.qE.2.1]
 simp [intOf]
section
variable (F:dQ) (nb:aj→Bool) (kb:Int→Bool) (BH:Et F nb kb) (h4:kb 4=false) (ov:Value) (S:aY) (w:World) (h:bg F ov S w) (ok:bM S) (hl:∀s∈F.l,okS nb kb s=true) (hlim:F.lim≤1000000) (hlen:F.l.length≤1000000)
include h ok hl hlim hlen BH h4
theorem PY (hs:S.steps≤F.lim):Calls Tryz.prog 27 #[.pointer (some ⟨F.R,0,none⟩),.int .i64 0] w (ThQ F ov w (jc F.l (F.lim-S.steps) 0 S)):=by
 obtain ⟨R0,hR0⟩:∃R0,jc F.l (F.lim-S.steps) 0 S=R0:=⟨_,rfl⟩
 rw [hR0]
 have hstart:Hid (ThJ F ov w R0 0 (F.lim-S.steps) ov S w):=⟨hR0,Nat.zero_le _,by omega,ok,bI.refl h⟩
 have H:=ah h;have HB:=ah BH;have HL:=ah hl
 clear h BH hl ok hR0
 go_enter Tryz.func27, Tryz.ntmps27
 go_wp2_with fail
 go_loopw [1] (fun a wr=>∃(i n:Nat) (ru:Value) (Sj:aY),a=.int .i64 i∧ThJ F ov w R0 i n ru Sj wr) (fun _ wr=>F.lim+1-tK F wr)
 case atStart=>exact ⟨0,_,ov,S,rfl,hstart.out⟩
 case round =>
  obtain ⟨i,n,ru,Sj,rfl,hJ⟩:=hrel
  have HJ:=ah hJ
  have hle:=hJ.le
  have hst:=hJ.st
  have hrun:=hJ.run
  obtain ⟨r0,r1,r2,r3⟩:=hrun.at_.xZ
  by_cases hlt:i<F.l.length
  ·have e1:decide ((i:Int)<(F.l.length:Int))=true:=ak (by omega)
   have e1':decide (i<F.l.length)=true:=ak hlt
   by_cases hn:n=0
   ·subst hn
    have fin:Hid (R0={Sj with how:=2}):=by unfold Hid;rw [←hJ.eq,jc,dif_pos hlt]
    have HS:=MW F ru Sj i wr hrun.at_ hlt hlim (by omega)
    rw [if_pos (by omega)] at HS
    have HS:=ah HS
    clear hJ hrun r2 r3
    go_wp2_with (go_at_call 37;(with_reducible refine HS.out.mono ?_);rintro e w1 ⟨rfl,fE,r_⟩;have R1:=ah (HJ.out.run.trans r_);clear r_)
    go_ret
    exact ⟨rfl,fE,by rw [fin.out];exact R1.out⟩
   ·obtain ⟨m,rfl⟩:∃m,n=m+1:=⟨n-1,by omega⟩
    have HS:=MW F ru Sj i wr hrun.at_ hlt hlim (by omega)
    rw [if_neg (by omega)] at HS
    have HS:=ah HS
    obtain ⟨b,o,hal,agA⟩:=hrun.at_.ql.prog (by omega)
    have okT:bM (tick Sj):=hJ.ok.tick
    have hsm:okS nb kb F.l[i]=true:=HL.out _ (List.getElem_mem hlt)
    have hth:=hJ.eq
    rw [jc,dif_pos hlt] at hth
    have MX:Hid (∀fE w1,bg F fE (tick Sj) w1→Calls Tryz.prog 38 #[.pointer (some ⟨F.R,0,none⟩),.pointer (some ⟨b,o+i*24,none⟩)] w1 (x8 F fE w1 (oC F.l[i] (tick Sj)))):=fun fE w1 hr=>by
     obtain ⟨b',o',hal',SK⟩:=hr.ql.prog (by omega)
     rw [hal] at hal'
     simp only [Option.some.injEq,Addr.mk.injEq,and_true] at hal'
     obtain ⟨rfl,rfl⟩:=hal'
     exact acS F nb kb HB.out h4 fE (tick Sj) F.S F.l[i] b (o+i*24) w1 hr okT hr.ql.hS (SK i hlt) hsm
    have HST:Hid (∀fE S1 w1,bg F fE S1 w1→Ah w1 F.S b (o+i*24) F.l[i]):=fun fE S1 w1 hr=>by
     obtain ⟨b',o',hal',SK⟩:=hr.ql.prog (by omega)
     rw [hal] at hal'
     simp only [Option.some.injEq,Addr.mk.injEq,and_true] at hal'
     obtain ⟨rfl,rfl⟩:=hal'
     exact SK i hlt
    have hdo:=aaq (nb:=nb) (kb:=kb) F.l[i] (tick Sj) hsm okT
    have hds:=(U8 F.l[i] (tick Sj)).1
    rw [hal] at r1
    have HR1:Hid (∀fE S1 w1,bg F fE S1 w1→w1.cell? ⟨F.R,0,none⟩=some (.pointer (some ⟨F.W,0,none⟩))∧w1.cell? ⟨F.R,1,none⟩=some (.slice (some ⟨b,o,none⟩) F.l.length F.cl)∧w1.cell? ⟨F.R,2,none⟩=some (.pointer (some ⟨F.T,0,none⟩))∧w1.cell? ⟨F.R,3,none⟩=some (.int .i64 0)):=fun fE S1 w1 hr=>by
     have:=hr.xZ;rw [hal] at this;exact this
    have bi:(i:Int)<(F.l.length:Int):=by omega
    cases hd:oC F.l[i] (tick Sj) with
    | mk bb S1 =>
    rw [hd] at MX hdo hds hth
    dsimp only at hth hdo hds
    have hok1:bM S1:=hdo
    have hs1:S1.steps=Sj.steps+1:=hds
    clear hJ hrun r2 r3 hsm okT hd hdo hds agA hal
    by_cases hw:S1.how≠0
    ·rw [if_pos hw] at hth
     have fin:=ah hth
     have e2:(S1.how != 0)=true:=by simpa using hw
     clear hth hw
     go_wp2_with (first
      | (go_at_call 37;(with_reducible refine HS.out.mono ?_);rintro e w1 ⟨rfl,fE,r_⟩;have R1:=ah r_;obtain ⟨g0,g1,g2,g3⟩:=HR1.out _ _ _ r_.at_;clear r_)
      | (go_at_call 38;(with_reducible refine (MX.out fE w1 R1.out.at_).mono ?_);rintro e w2 ⟨rfl,nU,r_⟩;have R2:=ah (HJ.out.run.trans (R1.out.trans r_));obtain ⟨g0,g1,g2,g3⟩:=HR1.out _ _ _ r_.at_;obtain ⟨u0,_⟩:=r_.at_.qE;obtain ⟨a_,c_,_,_,_,_,_,_,q6,_⟩:=r_.at_.mX;clear r_))
     go_ret
     exact ⟨rfl,nU,by rw [←fin.out];exact R2.out⟩
    ·rw [if_neg hw] at hth
     have e2:(S1.how != 0)=false:=by simpa using hw
     obtain ⟨tv,BQ⟩:∃tv,tv=toS F.l[i] bb:=⟨_,rfl⟩
     rw [←BQ] at hth
     have HTH:=ah hth
     have JQ:=ah BQ
     clear hth hw BQ
     go_upto_block 2 with (first
      | (go_at_call 37;(with_reducible refine HS.out.mono ?_);rintro e w1 ⟨rfl,fE,r_⟩;have R1:=ah r_;obtain ⟨g0,g1,g2,g3⟩:=HR1.out _ _ _ r_.at_;clear r_)
      | (go_at_call 38;(with_reducible refine (MX.out fE w1 R1.out.at_).mono ?_);rintro e w2 ⟨rfl,nU,r_⟩;have R2:=ah (HJ.out.run.trans (R1.out.trans r_));obtain ⟨g0,g1,g2,g3⟩:=HR1.out _ _ _ r_.at_;obtain ⟨u0,_⟩:=r_.at_.qE;obtain ⟨a_,c_,_,_,_,_,_,_,q6,_⟩:=r_.at_.mX;obtain ⟨_,_,_,_,_,q21,q22,q23⟩:=vk (HST.out _ _ _ r_.at_);clear r_))
     go_cut [7] (fun c wx=>c=.string tv∧wx=w2)
     case first =>
      unfold toS at JQ
      by_cases ha:F.l[i].always.size=0
      ·have a1:=QG ha
       have a2:F.l[i].always.toList.isEmpty=true:=by rw [a1];rfl
       have BQ:=JQ.out
       rw [if_neg (fun h=>h ha)] at BQ
       cases bb with
       | true =>
        rw [if_pos rfl] at BQ
        clear JQ ha HS MX HST HR1 HJ
        go_wp2_with fail
        go_meet
        exact ⟨by rw [BQ],rfl⟩
       | false =>
        rw [if_neg (fun h=>by cases h)] at BQ
        clear JQ ha HS MX HST HR1 HJ
        go_wp2_with fail
        go_meet
        exact ⟨by rw [BQ],rfl⟩
      ·have a1:F.l[i].always.toList≠[]:=fun e=>ha (by rw [←JM e];rfl)
       have a2:F.l[i].always.toList.isEmpty=false:=by simpa using a1
       have BQ:=JQ.out
       rw [if_pos ha] at BQ
       clear JQ ha HS MX HST HR1 HJ
       go_wp2_with fail
       go_meet
       exact ⟨by rw [BQ],rfl⟩
     case rest =>
      obtain ⟨rfl,rfl⟩:=hcut
      have hnx:Hid (ThJ F ov w R0 (nextL F.l i tv) m nU S1 wc):=⟨HTH.out,Yw tv hlt,by omega,hok1,R2.out⟩
      have hms:Hid (F.lim+1-tK F wc<F.lim+1-tK F wr):=by
       unfold Hid
       rw [R2.out.at_.tK,HJ.out.run.at_.tK];omega
      have htz:tv.size≤maxLen:=by
       obtain ⟨_,_,hz,_⟩:=HST.out _ _ _ R2.out.at_
       have h1:=hz.always;have h2:=hz.yes;have h3:=hz.dh
       rw [JQ.out];unfold toS maxLen;split
       ·omega
       ·split<;>omega
      have hlk:=R2.out.at_.ql.l9.look tv htz
      obtain ⟨t0,_⟩:=R2.out.at_.ql.tab.cells
      clear HS MX HST HR1 HJ HTH JQ R1 R2 q21 q22 q23 q6 u0
      by_cases h0:tv.size=0
      ·have a1:=QG h0
       have a2:tv.toList.isEmpty=true:=by rw [a1];rfl
       have hne:nextL F.l i tv=i+1:=if_pos h0
       rw [hne] at hnx
       clear h0 hlk hne
       go_wp2_with fail
       go_roundw
       case rel=>exact ⟨i+1,m,nU,S1,by go_num,hnx.out⟩
       case measure=>exact hms.out
      have a1:tv.toList≠[]:=fun e=>h0 (by rw [←JM e];rfl)
      have a2:tv.toList.isEmpty=false:=by simpa using a1
      by_cases hE:tv=acO
      ·have b1:(tv.toList==[69,78,68])=true:=yO hE
       have hne:nextL F.l i tv=F.l.length:=by unfold nextL;rw [if_neg h0,if_pos (.inl hE)]
       rw [hne] at hnx
       clear h0 hlk hne hE
       go_wp2_with fail
       go_roundw
       case rel=>exact ⟨F.l.length,m,nU,S1,by go_num,hnx.out⟩
       case measure=>exact hms.out
      have b1:(tv.toList==[69,78,68])=false:=yP hE
      by_cases hR:tv=acP
      ·have b2:(tv.toList==[82,69,84,85,82,78])=true:=yO hR
       have hne:nextL F.l i tv=F.l.length:=by unfold nextL;rw [if_neg h0,if_pos (.inr (.inl hR))]
       rw [hne] at hnx
       clear h0 hlk hne hE hR
       go_wp2_with fail
       go_roundw
       case rel=>exact ⟨F.l.length,m,nU,S1,by go_num,hnx.out⟩
       case measure=>exact hms.out
      have b2:(tv.toList==[82,69,84,85,82,78])=false:=yP hR
      by_cases hF:tv=aap
      ·have b3:(tv.toList==[70,82,69,84,85,82,78])=true:=yO hF
       have hne:nextL F.l i tv=F.l.length:=by unfold nextL;rw [if_neg h0,if_pos (.inr (.inr hF))]
       rw [hne] at hnx
       clear h0 hlk hne hE hR hF
       go_wp2_with fail
       go_roundw
       case rel=>exact ⟨F.l.length,m,nU,S1,by go_num,hnx.out⟩
       case measure=>exact hms.out
      have b3:(tv.toList==[70,82,69,84,85,82,78])=false:=yP hF
      have hne:nextL F.l i tv=((lF F.l tv).getD 0).toNat:=by unfold nextL;rw [if_neg h0,if_neg (by rintro (h|h|h);exact hE h;exact hR h;exact hF h)]
      obtain ⟨kn,hkn⟩:∃kn:Nat,(lF F.l tv).getD 0=(kn:Int):=by
       cases hm:lF F.l tv with
       | none=>exact ⟨0,rfl⟩
       | some d=>obtain ⟨k,rfl,_⟩:=QF hm;exact ⟨k,rfl⟩
      rw [hne,hkn,Int.toNat_natCast] at hnx
      rw [hkn] at hlk
      clear h0 hne hE hR hF hkn
      go_wp2_with fail
      go_roundw
      case rel=>exact ⟨kn,m,nU,S1,by go_num,hnx.out⟩
      case measure=>exact hms.out
  ·have e1:decide ((i:Int)<(F.l.length:Int))=false:=au (by omega)
   have e1':decide (i<F.l.length)=false:=au hlt
   have fin:Hid (R0={Sj with how:=1}):=by
    unfold Hid;rw [←hJ.eq]
    cases n with
    | zero=>rw [jc,dif_neg hlt]
    | succ n=>rw [jc,dif_neg hlt]
   have HS:=ah (hrun.trans (hrun.at_.Gu 1))
   obtain ⟨u0,_⟩:=hrun.at_.qE
   obtain ⟨a_,c_,_,_,_,_,_,_,q6,qf,_⟩:=hrun.at_.mX
   have f6:=qf 6
   clear hJ hrun qf
   go_wp2_with fail
   go_ret
   exact ⟨rfl,ru,by rw [fin.out];exact HS.out⟩
end
end Go.Proofs.YtgoijmpahffnhaaGreatDoor
