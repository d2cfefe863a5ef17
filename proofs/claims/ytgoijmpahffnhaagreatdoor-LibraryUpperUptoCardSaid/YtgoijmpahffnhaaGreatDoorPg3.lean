/-  -/
import Derived.Test.YtgoijmpahffnhaaGreatDoorLq21
namespace Go.Proofs.YtgoijmpahffnhaaGreatDoor
set_option linter.all false
open Go.RowKit
set_option maxRecDepth 100000
set_option maxHeartbeats 8000000
theorem QO (l:List aF) (al:Option Addr) (cl:Nat) (S:Nat→Prop) (w:World) (hl:oh w S al l) (hS:Safe S aA w.heap.size) (hlen:l.length≤1048576) :
  Calls Tryz.prog 35 #[.slice al l.length cl] w (adP l w):=by
 obtain ⟨w1,hw1⟩:∃w1,w1=(w.alloc (.cells #[.int .i64 0,.int .i64 0] 39)).alloc (.cells #[.int .i64 0,.int .i64 0] 118):=⟨_,rfl⟩
 have k1:Kept aA w w1:=by rw [hw1];exact ((Kept.refl aA w).alloc _).alloc _
 have hz1:w1.heap.size=w.heap.size+2:=by rw [hw1];simp
 have F1:Hid (Fl w.heap.size 0 0 w1):=by rw [hw1];unfold Hid Fl;rw [Below.heap_alloc _ _ _ (by simp)];exact ay w _
 have N1:Hid (Fs (w.heap.size+1) (0,0) w1):=by rw [hw1];have:=ay (w.alloc (.cells #[.int .i64 0,.int .i64 0] 39)) (.cells #[.int .i64 0,.int .i64 0] 118);unfold Hid Fs;rw [←this];simp
 have S0:=ah hS
 have L1:=ah (hl.to k1 hS (fun _ h=>h));have S1:=ah (hS.mono k1.size);have K1:=ah k1;have HW1:=ah hw1;have HZ1:=ah hz1
 clear hl hS k1 hw1 hz1
 by_cases hbig:1000<l.length
 ·have e1:decide ((1000:Int)<(l.length:Int))=true:=ak (by omega)
  have e1':decide (1000<l.length)=true:=ak hbig
  have fin:Hid (bY l=(5,0)):=check_big hbig
  clear hbig
  go_enter Tryz.func35, Tryz.ntmps35
  go_upto_region 2 with fail
  rw [←HW1.out]
  go_wp2_with (go_at_call 58;(with_reducible refine (qB (w.heap.size+1) (0,0) 5 0 w1 N1.out).mono ?_);rintro e w3 ⟨rfl,yN,bF⟩;have FS3:=ah yN;have K3:=ah bF;clear yN bF)
  obtain ⟨n0,n1,n2,n3⟩:=FS3.out.cells
  have F3:=F1.out.kept K3.out (by show w.heap.size≠w.heap.size+1;omega)
  obtain ⟨f0,f1,f2,f3⟩:=F3.cells
  have KZ:Hid (Kept aA w w3):=K1.out.step K3.out (fun y hy=>.inr (by subst hy;omega))
  go_region
  go_wp2_with fail
  exact BQ rfl rfl rfl (F3.set _ _) (by rw [fin.out];rfl) ((KZ.out.drew.setCell (p:=⟨w.heap.size,0,none⟩) (.inr (Nat.le_refl _)) _).setCell (p:=⟨w.heap.size,1,none⟩) (.inr (Nat.le_refl _)) _) (by rw [fin.out];intro h;cases h) (fun _=>rfl)
 have e1:decide ((1000:Int)<(l.length:Int))=false:=au (by omega)
 have e1':decide (1000<l.length)=false:=au hbig
 have ac2:=ah hbig
 clear hbig
 go_enter Tryz.func35, Tryz.ntmps35
 go_upto_region 2 with fail
 rw [←HW1.out]
 clear HW1
 have hmm :=@run_makeMap Tryz.prog
 go_wp2_with fail
 go_loopw [34] (fun i wr=>∃j:Nat,j≤l.length∧i=.int .i64 j∧Hid (qm 0 l=qm j (l.drop j))∧Kept aA w1 wr) (fun i _=>l.length-(intOf i).toNat)
 case atStart=>exact ⟨0,Nat.zero_le _,rfl,by unfold Hid;rw [List.drop_zero],Kept.refl _ _⟩
 case round =>
  obtain ⟨j,hj,rfl,hno,hkw⟩:=hrel
  have KW:=ah hkw
  by_cases hlt:j<l.length
  ·have FC:=L1.out.to hkw S1.out (fun _ h=>h)
   obtain ⟨b,o,rfl,hc⟩:=FC (by omega)
   obtain ⟨a,_,hz,hcc,ho⟩:=hc j hlt
   have HZ:=ah hz;have HO:=ah ho
   have SW:=ah (S1.out.mono hkw.size)
   have hd:=ZV l j hlt
   have HD:=ah hd
   clear hc hkw hz ho FC hd
   go_wp2_with (first
    | (refine kE rfl _ rfl b (o+j*24) rfl a l[j] hcc ?_)
    | (refine kE rfl _ rfl wr.heap.size 0 rfl a l[j] HHC.out ?_)
    | (refine iE rfl _ _ rfl wr.heap.size rfl a l[j] rfl _ (ay wr _) rfl ?_;intro w2 hB2 hk2;have K2:Hid (Kept aA w1 w2):=(KW.out.alloc _).step hk2 (fun y hy=>.inr (by subst hy;exact KW.out.size));have HHC:=ah hB2.hc;have KQ2:Hid (Kept aA wr w2):=((Kept.refl aA wr).alloc _).step hk2 (fun y hy=>.inr (by subst hy;exact Nat.le_refl _));clear hB2 hk2))
   refine (ac3 l[j] (dO a l[j]) S w2 ⟨a,rfl,HZ.out,HO.out.to KQ2.out SW.out (fun _ h=>h)⟩ (SW.out.mono KQ2.out.size)).mono ?_
   rintro e w3 ⟨rfl,bF⟩
   have K3:=ah (K2.out.trans bF)
   have hd:=HD.out
   clear bF hcc HHC
   by_cases hw0:jO l[j]=0
   ·rw [if_pos hw0] at hd
    have step:=ah (hno.out.trans hd)
    have z1:(jO l[j] != 0)=false:=by simpa using hw0
    clear hd hw0
    go_wp2_with fail
    go_roundw
    case rel=>exact ⟨j+1,by omega,by go_num,step,K3.out⟩
    case measure=>simp [intOf];omega
   ·rw [if_neg hw0] at hd
    have fin:=ah (ac4 ac2.out (hno.out.trans hd))
    have z1:(jO l[j] != 0)=true:=by simpa using hw0
    have N3:=ah (N1.out.kept K3.out (fun h=>h))
    have HNZ:=ah hw0
    clear hd hw0
    go_wp2_with (go_at_call 58;(with_reducible refine (qB (w.heap.size+1) (0,0) (jO l[j]) j w3 N3.out).mono ?_);rintro e w4 ⟨rfl,f4_,D6⟩;have FS4:=ah f4_;have K4:=ah D6;clear f4_ D6)
    obtain ⟨n0,n1,n2,n3⟩:=FS4.out.cells
    have F4:=(F1.out.kept K3.out (fun h=>h)).kept K4.out (by show w.heap.size≠w.heap.size+1;omega)
    obtain ⟨f0,f1,f2,f3⟩:=F4.cells
    have KZ:Hid (Kept aA w w4):=(K1.out.trans K3.out).step K4.out (fun y hy=>.inr (by subst hy;omega))
    go_region
    go_wp2_with fail
    exact BQ rfl rfl rfl (F4.set _ _) (by rw [fin.out];rfl) ((KZ.out.drew.setCell (p:=⟨w.heap.size,0,none⟩) (.inr (Nat.le_refl _)) _).setCell (p:=⟨w.heap.size,1,none⟩) (.inr (Nat.le_refl _)) _) (by rw [fin.out];intro h;exact absurd h HNZ.out) (fun _=>rfl)
  ·obtain rfl:j=l.length:=by omega
   have hwr:Hid (qm 0 l=none):=by unfold Hid;rw [hno.out,List.drop_length,qm]
   clear hno hkw
   go_upto_region 14 with fail
   obtain ⟨wv,hwv⟩:∃x,x=wr:=⟨_,rfl⟩
   rw [←hwv]
   obtain ⟨w2,hw2⟩:∃w2,w2=((wv.alloc (.map #[] 0)).alloc (.map #[] 0)).alloc (.cells #[.map (some wv.heap.size),.map (some (wv.heap.size+1))] 100):=⟨_,rfl⟩
   obtain ⟨B1,hB1⟩:∃B1,B1=wv.heap.size:=⟨_,rfl⟩
   have KV:Hid (Kept aA w1 wv):=by rw [hwv];exact KW.out
   clear KW hj hlt
   have Kq:Hid (w.heap.size+2≤B1):=by have:=KV.out.size;have:=HZ1.out;unfold Hid;omega
   have M1:Hid (eH w2 B1 0 (eY l 0)):=by rw [hw2,hB1];exact (eH.made wv).kept (((Kept.refl aA _).alloc _).alloc _) (fun h=>h)
   have M2:Hid (eH w2 (B1+1) 0 (fJ l 0)):=by rw [hw2,hB1];have:=(eH.made (wv.alloc (.map #[] 0))).kept ((Kept.refl aA _).alloc (.cells #[.map (some wv.heap.size),.map (some (wv.heap.size+1))] 100)) (fun h=>h);unfold Hid;exact (by simpa using this:eH _ (wv.heap.size+1) 0 (fun _=>none))
   have T2:Hid (qK w2 (B1+1+1) B1 (B1+1)):=by rw [hw2,hB1];have:=ay ((wv.alloc (.map #[] 0)).alloc (.map #[] 0)) (.cells #[.map (some wv.heap.size),.map (some (wv.heap.size+1))] 100);unfold Hid qK;rw [←this];simp
   have K2:Hid (Kept aA w1 w2):=by rw [hw2];exact ((KV.out.alloc _).alloc _).alloc _
   have hz2:Hid (w2.heap.size=B1+3):=by unfold Hid;rw [hw2,hB1];simp
   have HW2:=ah hw2
   have HB1:=ah hB1
   clear hw2 hB1
   go_upto_region 14 with fail
   have hw2:=HW2.out
   rw [←HB1.out] at hw2⊢
   rw [←hw2]
   clear hw2 HW2 HB1 hmm KV
   have kQ:Hid (B1+1+1≠w.heap.size+1∧B1+1+1≠B1∧B1+1+1≠B1+1∧B1≠w.heap.size+1∧B1+1≠w.heap.size+1∧B1+1≠B1):=by have:=Kq.out;unfold Hid;omega
   obtain ⟨T,hT⟩:∃T,T=B1+1+1:=⟨_,rfl⟩
   rw [←hT] at T2 kQ⊢
   obtain ⟨B2,hB2⟩:∃B2,B2=B1+1:=⟨_,rfl⟩
   rw [←hB2] at T2 kQ M2
   have L2:=ah (L1.out.to K2.out S1.out (fun _ h=>h))
   have S2:Hid (Safe S (Iu (w.heap.size+1) B1 B2) w2.heap.size):=fun b hb=>by
    have:=(S0.out b hb).1;have:=hz2.out;have:=Kq.out
    exact ⟨by omega,fun h=>by rcases h with h|h|h<;>omega⟩
   have HB2:Hid (w.heap.size+2≤B2∧w.heap.size+2≤T):=by have:=Kq.out;unfold Hid;omega
   clear hT hB2
   have N2:=ah (N1.out.kept K2.out (fun h=>h))
   have F2:=ah (F1.out.kept K2.out (fun h=>h))
   go_wp2_with fail
   go_loopw [55] (fun i wr=>∃j:Nat,j≤l.length∧i=.int .i64 j∧Fs (w.heap.size+1) (nR l j) wr∧(∃n,n≤j∧eH wr B1 n (eY l j))∧(∃n,n≤j∧eH wr B2 n (fJ l j))∧Kept (Iu (w.heap.size+1) B1 B2) w2 wr) (fun i _=>l.length-(intOf i).toNat)
   case atStart=>exact ⟨0,Nat.zero_le _,rfl,N2.out,⟨0,Nat.le_refl _,M1.out⟩,⟨0,Nat.le_refl _,M2.out⟩,Kept.refl _ _⟩
   case round =>
    obtain ⟨j,hj,rfl,Iw,⟨n1,hn1,hM1⟩,⟨n2,hn2,hM2⟩,hkw⟩:=hrel
    have KW:=ah hkw
    by_cases hlt:j<l.length
    ·
     have FC:=L2.out.to hkw S2.out (fun _ h=>h)
     have HLQ:=ah FC
     obtain ⟨b,o,rfl,hc⟩:=FC (by omega)
     obtain ⟨a,_,hz,hcc,ho⟩:=hc j hlt
     have HZ:=ah hz;have HO:=ah ho
     have SW:=ah (S2.out.mono hkw.size)
     have FR:=ah Iw;have MR1:=ah hM1;have MR2:=ah hM2
     clear hc hkw hz ho FC Iw hM1 hM2
     go_upto_region 16 with fail
     go_upto_region 17 with (first
      | (refine kE rfl _ rfl b (o+j*24) rfl a l[j] hcc ?_)
      | (refine (iE rfl _ _ rfl wr.heap.size rfl a l[j] rfl _ (ay wr _) rfl ?_);intro w3 hB2 hk2;have FD:Hid (Kept aA wr w3):=((Kept.refl aA wr).alloc _).step hk2 (fun y hy=>.inr (by subst hy;exact Nat.le_refl _));have HB3:=ah hB2;clear hB2 hk2))
     obtain ⟨s,hs⟩:∃s,s=l[j]:=⟨_,rfl⟩
     have FH:=ah hs
     rw [←hs] at HB3 HZ HO
     clear hs hcc
     try dsimp only [Act.put]
     obtain ⟨c0,c1,_,_,_,_,_,_,_,_,_,_,_,_,_,_,_,c17,_⟩:=HB3.out.cells
     have K3:Hid (Kept (Iu (w.heap.size+1) B1 B2) w2 w3):=KW.out.step FD.out (fun y hy=>hy.elim)
     have N3:=ah (FR.out.kept FD.out (fun h=>h))
     have T3:=ah ((T2.out.kept K3.out (fun h=>by rcases h with h|h|h;exact kQ.out.1 h;exact kQ.out.2.1 h;exact kQ.out.2.2.1 h)))
     have P3:=ah (MR1.out.kept FD.out (fun h=>h));have Q3:=ah (MR2.out.kept FD.out (fun h=>h))
     obtain ⟨x0,x1⟩:=T3.out.cells
     have FRN:Hid (w.heap.size+1<wr.heap.size):=FR.out.lt
     have aij:Hid (B1<wr.heap.size):=MR1.out.lt
     clear FR MR1 MR2
     go_upto_if 62 with fail
     have hkl:s.label.size≤maxLen:=by have:=HZ.out.label;unfold maxLen;omega
     go_cut [62] (fun c wx=>Fs (w.heap.size+1) (ou (badL (eY l j) s) j (nR l j)) wx∧(∃n,n≤j+1∧eH wx B1 n (eY l (j+1)))∧Kept (fun b=>b=w.heap.size+1∨b=B1) w3 wx)
     case first =>
      by_cases h0:s.label.size=0
      ·have e3:s.label.toList.isEmpty=true:=qo.2 h0
       have fin:Hid (ou (badL (eY l j) s) j (nR l j)=nR l j):=vJ (fun h=>h.1 h0) _ _
       have fin2:Hid (eY l (j+1)=eY l j):=afa l j hlt (by rw [←FH.out];exact h0)
       clear h0
       rw [e3]
       go_wp2_with fail
       go_meet
       exact ⟨by rw [fin.out];exact N3.out,⟨n1,by omega,by rw [fin2.out];exact P3.out⟩,Kept.refl _ _⟩
      have e3:s.label.toList.isEmpty=false:=jJ.2 (by omega)
      have fin2:Hid (eY l (j+1)=lg (eY l j) s.label j):=by have:=acW l j hlt (by rw [←FH.out];exact h0);rw [←FH.out] at this;exact this
      have hlook:∀i,(Instr.lookup 98 (.map (some B1)) (.string s.label) true).run Tryz.prog (w3.drewN i)=.ok (.tuple #[.int .i64 ((eY l j s.label).getD 0),.bool (eY l j s.label).isSome]) (w3.drewN i):=fun i=>(P3.out.drewN i).look_ok s.label hkl
      have h0':=ah h0
      clear h0
      rw [e3]
      go_wp2_with fail
      go_quiet (fail)
      clear hlook
      obtain ⟨w4,hw4⟩:∃x,x=w3.drewN nq:=⟨_,rfl⟩
      have K4:Hid (Kept aA w3 w4):=by rw [hw4];exact (Kept.refl aA w3).drewN nq
      rw [←hw4]
      clear hw4 x0 x1 c0 c1 c17
      have N4:=ah (N3.out.kept K4.out (fun h=>h));have P4:=ah (P3.out.kept K4.out (fun h=>h));have T4:=ah (T3.out.kept K4.out (fun h=>h))
      obtain ⟨x0,x1⟩:=T4.out.cells
      obtain ⟨c0,c1,_,_,_,_,_,_,_,_,_,_,_,_,_,_,_,c17,_⟩:=(HB3.out.kept K4.out (fun h=>h)).cells
      go_upto_region 19 with fail
      go_cut [12,78] (fun _ c wx=>c=.bool ((eY l j s.label).isSome||rH s.label)∧w4=wx)
      case first =>
       cases hso:(eY l j s.label).isSome with
       | true =>
        go_wp2_with fail
        go_meet
        exact ⟨by rw [hso];rfl,rfl⟩
       | false =>
        go_wp2_with (go_at_call 60;(with_reducible refine (Gg s.label w4).mono ?_);rintro e w' ⟨rfl,rfl⟩)
        go_meet
        exact ⟨by rw [hso];rfl,rfl⟩
      case rest =>
       obtain ⟨rfl,rfl⟩:=hcut
       go_upto_if 78 with fail
       go_cut [78] (fun c wx=>Fs (w.heap.size+1) (ou (badL (eY l j) s) j (nR l j)) wx∧Kept (· = w.heap.size+1) w4 wx)
       case first =>
        cases hb:((eY l j s.label).isSome||rH s.label) with
        | true =>
         have fin:Hid (ou (badL (eY l j) s) j (nR l j)=wP (nR l j) (7,j)):=BN ⟨h0'.out,by simpa using hb⟩ _ _
         clear hb
         go_wp2_with (go_at_call 58;(with_reducible refine (qB (w.heap.size+1) (nR l j) 7 j w4 N4.out).mono ?_);rintro e w5 ⟨rfl,ZW,wK⟩;have FS5:=ah ZW;have K5:=ah wK;clear ZW wK)
         go_meet
         exact ⟨by rw [fin.out];exact FS5.out,K5.out⟩
        | false =>
         have fin:Hid (ou (badL (eY l j) s) j (nR l j)=nR l j):=vJ (fun h=>by have h2:=h.2;simp at hb;simp [hb] at h2) _ _
         clear hb
         go_wp2_with fail
         go_meet
         exact ⟨by rw [fin.out];exact N4.out,Kept.refl _ _⟩
       case rest =>
        obtain ⟨w5,hw5⟩:∃x,x=wc:=⟨_,rfl⟩
        rw [←hw5] at hcut⊢
        obtain ⟨hN5,hK5⟩:=hcut
        clear hw5
        have N5:=ah hN5;have K5:=ah hK5
        have hgN:¬wr.heap.size=w.heap.size+1:=by have:=FRN.out;omega
        have P5:=ah (P4.out.kept hK5 (fun h=>kQ.out.2.2.2.1 h));have T5:=ah (T4.out.kept hK5 (fun h=>kQ.out.1 h))
        have KY:=ah ((HB3.out.kept K4.out (fun h=>h)).kept hK5 hgN)
        clear hN5 hK5 x0 x1 c0 c1 c17
        obtain ⟨x0,x1⟩:=T5.out.cells
        obtain ⟨c0,c1,_,_,_,_,_,_,_,_,_,_,_,_,_,_,_,c17,_⟩:=KY.out.cells
        obtain ⟨w6,hput,hm6,hk6⟩:=P5.out.drewN 1 |>.put (by unfold maxLen;omega) s.label hkl (j:Int) (WalkArith.wf_i64 (by omega))
        rw [show w5.drewN 1=w5.drew from rfl] at hput hk6
        have M6:=ah hm6
        have K6:Hid (Kept (fun b=>b=w.heap.size+1∨b=B1) w3 w6):=((K4.out.more (fun _ h=>h.elim)).trans (K5.out.more (fun _ h=>.inl h))).drew.step hk6 (fun y hy=>.inl (.inr hy))
        have N6:=ah ((N5.out.kept (Kept.refl aA _).drew (fun h=>h)).kept hk6 (fun h=>kQ.out.2.2.2.1 (Eq.symm h)))
        clear hm6 hk6
        go_wp2_with fail
        go_region
        go_wp2_with fail
        go_meet
        exact ⟨N6.out,⟨n1+1,by omega,by rw [fin2.out];exact M6.out⟩,K6.out⟩
     case rest =>
      obtain ⟨w7,hw7⟩:∃x,x=wc:=⟨_,rfl⟩
      rw [←hw7] at hcut⊢
      clear hw7
      obtain ⟨hN7,⟨n3,hn3,hM7⟩,hK7⟩:=hcut
      have N7:=ah hN7;have P7:=ah hM7;have K37:=ah hK7
      have hgN:¬(wr.heap.size=w.heap.size+1∨wr.heap.size=B1):=by have:=FRN.out;have:=aij.out;omega
      have Q7:=ah (Q3.out.kept hK7 (fun h=>by rcases h with h|h;exact kQ.out.2.2.2.2.1 h;exact kQ.out.2.2.2.2.2 h))
      have T7:=ah (T3.out.kept hK7 (fun h=>by rcases h with h|h;exact kQ.out.1 h;exact kQ.out.2.1 h))
      have PU:=ah (HB3.out.kept hK7 hgN)
      have K7:Hid (Kept (Iu (w.heap.size+1) B1 B2) w2 w7):=K3.out.step hK7 (fun y hy=>.inl (by rcases hy with h|h;exact .inl h;exact .inr (.inl h)))
      have KQ7:Hid (Kept (fun b=>b=w.heap.size+1∨b=B1) wr w7):=(FD.out.more (fun _ h=>h.elim)).trans hK7
      clear hN7 hM7 hK7 x0 x1 c0 c1 c17 N3 P3 Q3 T3 HB3 K3 K37 FD
      obtain ⟨x0,x1⟩:=T7.out.cells
      obtain ⟨c0,c1,_,_,_,_,_,_,_,_,_,_,_,_,_,_,_,c17,_⟩:=PU.out.cells
      by_cases xu:s.kind=7
      rotate_left
      ·have e3:(s.kind != 7)=true:=by simpa using xu
       have fin:Hid (nR l (j+1)=ou (badL (eY l j) s) j (nR l j)):=by have:=J5 l j hlt;rw [←FH.out] at this;exact this.trans (vJ (fun h=>xu h.1) _ _)
       have fin2:Hid (fJ l (j+1)=fJ l j):=afb l j hlt (by rw [←FH.out];exact xu)
       clear xu
       go_wp2_with fail
       go_roundw
       case rel=>exact ⟨j+1,by omega,by go_num,by rw [fin.out];exact N7.out,⟨n3,hn3,P7.out⟩,⟨n2,by omega,by rw [fin2.out];exact Q7.out⟩,K7.out⟩
       case measure=>simp [intOf];omega
      have e3:(s.kind != 7)=false:=by simpa using xu
      have fin2:Hid (fJ l (j+1)=lg (fJ l j) s.name j):=by have:=acX l j hlt (by rw [←FH.out];exact xu);rw [←FH.out] at this;exact this
      have ZX:=ah xu
      clear xu
      go_upto_region 23 with fail
      have O7:Hid (wQ w7 S a s):=HO.out.to (KQ7.out.more (fun _ h=>by rcases h with h|h;exact .inl h;exact .inr (.inl h))) SW.out (fun _ h=>h)
      have hNX:¬w7.heap.size≤wr.heap.size:=by have:=PU.out.lt;omega
      have SX:Hid (Safe S (fun b=>w7.heap.size≤b) w7.heap.size):=fun b hb=>by have:=(S0.out b hb).1;have:=FRN.out;have:=PU.out.lt;exact ⟨by omega,by omega⟩
      have S7:Hid (Safe S aA w7.heap.size):=fun b hb=>⟨(SX.out b hb).1,fun h=>h⟩
      go_cut [13,91,92,93,94,95,96,97,98,99,100] (fun c _ _ _ _ _ _ _ _ _ _ wx=>Ch wx w7.heap.size (own s).length ((own s).map Value.string) c∧Kept aA w7 wx)
      case first =>
       obtain ⟨Sp,hSp⟩:∃Sp:Nat→Value→World→Prop,Sp=(fun i v _=>match i with
        | 0=>v=.pointer (some ⟨wr.heap.size,19,none⟩)
        | 1=>v=.slice a.ma s.params.length a.mc
        | 2=>v=.pointer (some ⟨wr.heap.size,20,none⟩)
        | 3=>v=.slice a.la s.locals.length a.lc
        | 6=>v=.pointer (some ⟨wr.heap.size,17,none⟩)
        | 7=>v=.string s.name
        | _=>True):=⟨_,rfl⟩
       obtain ⟨J,hJd⟩:∃J:(Nat→Bool)→(Nat→Value)→World→Prop,J=JO w7.heap.size (s.params.length+s.locals.length) (s.params.map Value.string++s.locals.map Value.string) ((s.params.map Value.string++s.locals.map Value.string)++[.string s.name]) (.slice a.ma s.params.length a.mc) (.slice a.la s.locals.length a.lc) s.name:=⟨_,rfl⟩
       refine Xe (fun b=>w7.heap.size≤b) J Sp [91,92,93,94,95,96,97,98,99,100,13] (by kernel_rfl) (by kernel_rfl) (by kernel_rfl) (fun i v w w' h hk=>by subst hSp;exact h) ?_ ?_ ?_ ?_
       ·intro i o hi lq x wy hI hJ hlf haft
        rw [hJd] at hJ
        have e10:x.eval (.tmp 10)=.pointer (some ⟨wr.heap.size,0,none⟩):=hI.keep 10 _ rfl (by kernel_rfl)
        have hsz:x.tmps.size=221:=hI.size
        have hs1:101<x.tmps.size:=by omega
        have B3:=PU.out.kept hI.kept hNX
        have O3:=O7.out.to hI.kept SX.out (fun _ h=>h)
        have hyz:w7.heap.size≤wy.heap.size:=hI.kept.size
        obtain ⟨c0,c1,c2,c3,c4,c5,c6,c7,c8,c9,c10,c11,c12,c13,c14,c15,c16,c17,c18,c19,c20,c21,dU,c23⟩:=B3.cells
        rcases i with _|_|_|_|_|_|_|_|_|_|_|i
        all_goals (simp only [List.getElem?_toArray,List.getElem?_cons_zero,List.getElem?_cons_succ,List.getElem?_nil,Option.some.injEq,reduceCtorEq] at hi)
        all_goals subst hi
        ·refine aK (v:=.pointer (some ⟨wr.heap.size,19,none⟩)) ?_ (by subst hSp;exact rfl) (fun l' hl=>by rw [hJd];exact hJ.other hl (by decide) (by decide))
         simp only [execOp,resolve,invoke,List.map_toArray,List.map_cons,List.map_nil,e10];go_simp
        ·have d1:x.eval (.tmp 91)=.pointer (some ⟨wr.heap.size,19,none⟩):=by have h_:=hI.dep haft 0 91 rfl rfl rfl;rw [hSp] at h_;exact h_
         refine aK (v:=.slice a.ma s.params.length a.mc) ?_ (by subst hSp;exact rfl) (fun l' hl=>by rw [hJd];exact hJ.other hl (by decide) (by decide))
         simp only [execOp,resolve,invoke,List.map_toArray,List.map_cons,List.map_nil,d1];go_simp
        ·refine aK (v:=.pointer (some ⟨wr.heap.size,20,none⟩)) ?_ (by subst hSp;exact rfl) (fun l' hl=>by rw [hJd];exact hJ.other hl (by decide) (by decide))
         simp only [execOp,resolve,invoke,List.map_toArray,List.map_cons,List.map_nil,e10];go_simp
        ·have d1:x.eval (.tmp 93)=.pointer (some ⟨wr.heap.size,20,none⟩):=by have h_:=hI.dep haft 2 93 rfl rfl rfl;rw [hSp] at h_;exact h_
         refine aK (v:=.slice a.la s.locals.length a.lc) ?_ (by subst hSp;exact rfl) (fun l' hl=>by rw [hJd];exact hJ.other hl (by decide) (by decide))
         simp only [execOp,resolve,invoke,List.map_toArray,List.map_cons,List.map_nil,d1];go_simp
        ·have d1:x.eval (.tmp 92)=.slice a.ma s.params.length a.mc:=by have h_:=hI.dep haft 1 92 rfl rfl rfl;rw [hSp] at h_;exact h_
         have d2:x.eval (.tmp 94)=.slice a.la s.locals.length a.lc:=by have h_:=hI.dep haft 3 94 rfl rfl rfl;rw [hSp] at h_;exact h_
         have n5:=hI.no hlf 5 rfl rfl
         have n9:=hI.no n5 9 rfl rfl
         have n10:=hI.no n9 10 rfl rfl
         refine Aa (v:=.slice (some ⟨wy.heap.size,0,none⟩) 2 2) (w':=wy.alloc (.cells #[.slice a.ma s.params.length a.mc,.slice a.la s.locals.length a.lc] 22)) ?_ (by subst hSp;trivial) ((Kept.refl _ _).alloc _) (fun l' hl=>by rw [hJd];exact hJ.ajN n9 n10 hs1 ((Kept.refl _ _).alloc _) ⟨wy.heap.size,rfl,by simp,by simp,by simp⟩ hl)
         simp only [execOp,resolve,invoke,List.map_toArray,List.map_cons,List.map_nil,d1,d2];go_simp
        ·have t4:=BL haft 4 rfl
         have n9:=hI.no hlf 9 rfl rfl
         have n10:=hI.no n9 10 rfl rfl
         obtain ⟨g,hg,hgl,hg0,hg1⟩:=hJ.two n9 t4
         have hg':x.eval (.tmp 95)=.slice (some ⟨g,0,none⟩) 2 2:=hg
         refine AQ (f:=61) (args:=#[.slice (some ⟨g,0,none⟩) 2 2]) ?_ ((U1 g s.params s.locals a.ma a.la a.mc a.lc S wy hg0 hg1 hgl O3.params O3.locals (S7.out.mono hyz) (by have:=HZ.out.params.1;omega) (by have:=HZ.out.locals.1;omega)).mono ?_)
         ·simp only [execOp,resolve,invoke,List.map_toArray,List.map_cons,List.map_nil,hg'];go_simp
         ·rintro e w' ⟨v,rfl,hch,hk⟩
          exact ⟨v,rfl,by subst hSp;trivial,hk.more (fun _ h=>h.elim),fun l' hl=>by rw [hJd];exact hJ.DX n9 n10 hs1 hk hch hl⟩
        ·refine aK (v:=.pointer (some ⟨wr.heap.size,17,none⟩)) ?_ (by subst hSp;exact rfl) (fun l' hl=>by rw [hJd];exact hJ.other hl (by decide) (by decide))
         simp only [execOp,resolve,invoke,List.map_toArray,List.map_cons,List.map_nil,e10];go_simp
        ·have d1:x.eval (.tmp 97)=.pointer (some ⟨wr.heap.size,17,none⟩):=by have h_:=hI.dep haft 6 97 rfl rfl rfl;rw [hSp] at h_;exact h_
         refine aK (v:=.string s.name) ?_ (by subst hSp;exact rfl) (fun l' hl=>by rw [hJd];exact hJ.other hl (by decide) (by decide))
         simp only [execOp,resolve,invoke,List.map_toArray,List.map_cons,List.map_nil,d1];go_simp
        ·have d1:x.eval (.tmp 98)=.string s.name:=by have h_:=hI.dep haft 7 98 rfl rfl rfl;rw [hSp] at h_;exact h_
         have n9:=hI.no hlf 9 rfl rfl
         have n10:=hI.no n9 10 rfl rfl
         refine Aa (v:=.slice (some ⟨wy.heap.size,0,none⟩) 1 1) (w':=wy.alloc (.cells #[.string s.name] 9)) ?_ (by subst hSp;trivial) ((Kept.refl _ _).alloc _) (fun l' hl=>by rw [hJd];exact hJ.ajO n9 n10 hs1 ((Kept.refl _ _).alloc _) ⟨wy.heap.size,rfl,by simp,ay wy _⟩ hl)
         simp only [execOp,resolve,invoke,List.map_toArray,List.map_cons,List.map_nil,d1];go_simp
        ·have t5:=BL haft 5 rfl
         have t8:=BL haft 8 rfl
         have n10:=hI.no hlf 10 rfl rfl
         obtain ⟨g,hg,hgl,hgb⟩:=hJ.one hlf t8
         have hg':x.eval (.tmp 99)=.slice (some ⟨g,0,none⟩) 1 1:=hg
         refine aff (n:=s.params.length+s.locals.length) (xs:=s.params.map Value.string++s.locals.map Value.string) _ _ rfl rfl (hJ.ch hlf t5) (.slice (some ⟨g,0,none⟩) 1 1) 1 [.string s.name] hg' (afg hgb) (by have:=HZ.out.params.1;have:=HZ.out.locals.1;omega) hJ.base (fun _ h=>h) (fun _ _=>by subst hSp;trivial) ?_
         intro v' w' hC hgr hoo l' hl
         rw [hJd]
         exact hJ.ajP hlf n10 hs1 hgr.size hC hl
        ·have t9:=BL haft 9 rfl
         obtain ⟨aa,cc,hv,_⟩:=hJ.fin t9
         have hv2:x.eval (.tmp 100)=.slice aa (s.params.length+s.locals.length+1) cc:=hv
         refine aK (v:=.slice aa (s.params.length+s.locals.length+1) cc) ?_ (by subst hSp;trivial) (fun l' hl=>by rw [hJd];exact hJ.aii hs1 hv.symm hl)
         simp only [execOp,resolve,invoke,List.map_toArray,List.map_cons,List.map_nil,hv2];go_simp
       ·intro lq hl
        rw [hJd]
        exact JO.start (w:=w7.drew) (show w7.heap.size≤w7.drew.heap.size from Nat.le_refl _) hl
       ·intro lq l' f wx hl h
        rw [hJd] at h⊢
        exact h.eqv hl
       ·intro f wy hK hS hJ
        rw [hJd] at hJ
        have hch:Ch wy w7.heap.size (own s).length ((own s).map Value.string) (f 13):=by rw [J4,ae9,hJ.set rfl];exact hJ.fin rfl
        have HC:=ah hch
        have K8:Hid (Kept aA w7 wy):=(Kept.refl aA w7).step hK (fun y hy=>.inr hy)
        clear hch hJ hS hK hJd hSp SX S7 O7 hNX
        simp only [gV,List.foldl_cons,List.foldl_nil,List.setIfInBounds_toArray,List.set_cons_zero,List.set_cons_succ]
        go_wp2_with fail
        go_meet
        exact ⟨HC.out,K8.out⟩
      case rest =>
       obtain ⟨w8,hw8⟩:∃x,x=wc:=⟨_,rfl⟩
       rw [←hw8] at hcut⊢
       clear hw8
       obtain ⟨hch,hK8⟩:=hcut
       obtain ⟨oa,oc,rfl,hoc,hos⟩:=hch.strs
       have N8:=ah (N7.out.kept hK8 (fun h=>h));have P8:=ah (P7.out.kept hK8 (fun h=>h));have Q8:=ah (Q7.out.kept hK8 (fun h=>h));have T8:=ah (T7.out.kept hK8 (fun h=>h));have PV:=ah (PU.out.kept hK8 (fun h=>h))
       have K8:Hid (Kept (Iu (w.heap.size+1) B1 B2) w2 w8):=K7.out.quiet hK8
       have hob:0<(own s).length:=by rw [J4];omega
       obtain ⟨ob,oo,rfl,hoB,ac5⟩:=hos hob
       clear hch hos x0 x1 c0 c1 c17 hK8 O7 S7 SX hNX N7 P7 Q7 T7 K7
       obtain ⟨x0,x1⟩:=T8.out.cells
       obtain ⟨c0,c1,_,_,_,_,_,_,_,_,_,_,_,_,_,_,_,c17,_⟩:=PV.out.cells
       have hnl:s.name.size≤maxLen:=by have:=HZ.out.name;unfold maxLen;omega
       have hlook:∀i,(Instr.lookup 98 (.map (some B2)) (.string s.name) true).run Tryz.prog (w8.drewN i)=.ok (.tuple #[.int .i64 ((fJ l j s.name).getD 0),.bool (fJ l j s.name).isSome]) (w8.drewN i):=fun i=>(Q8.out.drewN i).look_ok s.name hnl
       go_upto_region 24 with fail
       go_quiet (fail)
       clear hlook
       obtain ⟨w9,ZY⟩:∃x,x=w8.drewN nq:=⟨_,rfl⟩
       have UE:Hid (Kept aA w8 w9):=by rw [ZY];exact (Kept.refl aA w8).drewN nq
       have D9:Hid (∀j,j<(own s).length→w9.cell? ⟨ob,oo+j,none⟩=some (.string ((own s).getD j ByteArray.empty))):=fun x hx=>by rw [ZY,List.getD_eq_getElem?_getD,List.getElem?_eq_getElem hx];exact ac5 x hx
       have UF:Hid (aQ w9 (fun b=>w7.heap.size≤b) (some ⟨ob,oo,none⟩) (own s)):=fun _=>⟨ob,oo,rfl,hoB,fun x hx=>by rw [ZY];exact ac5 x hx⟩
       rw [←ZY]
       clear ZY x0 x1 c0 c1 c17 ac5
       have N9:=ah (N8.out.kept UE.out (fun h=>h));have P9:=ah (P8.out.kept UE.out (fun h=>h));have Q9:=ah (Q8.out.kept UE.out (fun h=>h));have T9:=ah (T8.out.kept UE.out (fun h=>h));have HB9:=ah (PV.out.kept UE.out (fun h=>h))
       have K9:Hid (Kept (Iu (w.heap.size+1) B1 B2) w2 w9):=K8.out.quiet UE.out
       have hol:(own s).length≤4000000000:=by rw [J4];have:=HZ.out.params.1;have:=HZ.out.locals.1;omega
       clear N8 P8 Q8 T8 PV K8
       obtain ⟨x0,x1⟩:=T9.out.cells
       obtain ⟨c0,c1,_,_,_,_,_,_,_,_,_,_,_,_,_,_,_,c17,_⟩:=HB9.out.cells
       go_upto_region 25 with fail
       go_cut [15,129] (fun _ c wx=>∃bb:Bool,c=.bool bb∧(bb=true↔uF (fJ l j) s)∧w9=wx)
       case first =>
        cases hso:(fJ l j s.name).isSome with
        | true =>
         have fin:Hid (uF (fJ l j) s):=⟨ZX.out,.inl hso⟩
         go_wp2_with fail
         go_meet
         exact ⟨true,rfl,⟨fun _=>fin.out,fun _=>rfl⟩,rfl⟩
        | false =>
         by_cases hbn:0≤aH s.name
         ·have fin:Hid (uF (fJ l j) s):=⟨ZX.out,.inr (.inl hbn)⟩
          have e4:decide (0≤aH s.name)=true:=ak hbn
          clear hbn
          go_wp2_with (first
          | (go_at_call 62;refine (mD s.name w9).mono ?_;rintro e w' ⟨rfl,aI⟩;obtain rfl:=aI.symm)
          | (go_at_call 63;refine (wL (own s) (some ⟨ob,oo,none⟩) oc (fun b=>w7.heap.size≤b) w9 UF.out hoc hol).mono ?_;rintro e w' ⟨tb,rfl,htb,aI⟩;obtain rfl:=aI.symm;obtain rfl:tb=false:=htb.2 PW.out;clear htb)
          | (go_at_call 64;refine (Tryz.slices_Contains_string ob oo (own s).length oc (own s) Fz w9 (Nat.le_refl _) (by omega) D9.out).mono ?_;rintro e w' ⟨rfl,aI⟩;obtain rfl:=aI.symm;rw [HI.out])
          | (go_at_call 64;refine (Tryz.slices_Contains_string ob oo (own s).length oc (own s) zN w9 (Nat.le_refl _) (by omega) D9.out).mono ?_;rintro e w' ⟨rfl,aI⟩;obtain rfl:=aI.symm;rw [HU.out]))
          go_meet
          exact ⟨true,rfl,⟨fun _=>fin.out,fun _=>rfl⟩,rfl⟩
         have e4:decide (0≤aH s.name)=false:=au hbn
         have LW:=ah hbn
         clear hbn
         by_cases htw:xK (own s)
         rotate_left
         ·have fin:Hid (uF (fJ l j) s):=⟨ZX.out,.inr (.inr (.inl htw))⟩
          have PW:=ah htw
          clear htw
          go_wp2_with (first
          | (go_at_call 62;refine (mD s.name w9).mono ?_;rintro e w' ⟨rfl,aI⟩;obtain rfl:=aI.symm)
          | (go_at_call 63;refine (wL (own s) (some ⟨ob,oo,none⟩) oc (fun b=>w7.heap.size≤b) w9 UF.out hoc hol).mono ?_;rintro e w' ⟨tb,rfl,htb,aI⟩;obtain rfl:=aI.symm;obtain rfl:tb=true:=(by cases tb;exact absurd (htb.1 rfl) PW.out;rfl);clear htb)
          | (go_at_call 64;refine (Tryz.slices_Contains_string ob oo (own s).length oc (own s) Fz w9 (Nat.le_refl _) (by omega) D9.out).mono ?_;rintro e w' ⟨rfl,aI⟩;obtain rfl:=aI.symm;rw [HI.out])
          | (go_at_call 64;refine (Tryz.slices_Contains_string ob oo (own s).length oc (own s) zN w9 (Nat.le_refl _) (by omega) D9.out).mono ?_;rintro e w' ⟨rfl,aI⟩;obtain rfl:=aI.symm;rw [HU.out]))
          go_meet
          exact ⟨true,rfl,⟨fun _=>fin.out,fun _=>rfl⟩,rfl⟩
         have PW:=ah htw
         clear htw
         by_cases hin:Fz∈own s
         ·have fin:Hid (uF (fJ l j) s):=⟨ZX.out,.inr (.inr (.inr (.inl hin)))⟩
          have HI:=ah ((J3 (own s) Fz).2 hin)
          clear hin
          go_wp2_with (first
          | (go_at_call 62;refine (mD s.name w9).mono ?_;rintro e w' ⟨rfl,aI⟩;obtain rfl:=aI.symm)
          | (go_at_call 63;refine (wL (own s) (some ⟨ob,oo,none⟩) oc (fun b=>w7.heap.size≤b) w9 UF.out hoc hol).mono ?_;rintro e w' ⟨tb,rfl,htb,aI⟩;obtain rfl:=aI.symm;obtain rfl:tb=false:=htb.2 PW.out;clear htb)
          | (go_at_call 64;refine (Tryz.slices_Contains_string ob oo (own s).length oc (own s) Fz w9 (Nat.le_refl _) (by omega) D9.out).mono ?_;rintro e w' ⟨rfl,aI⟩;obtain rfl:=aI.symm;rw [HI.out])
          | (go_at_call 64;refine (Tryz.slices_Contains_string ob oo (own s).length oc (own s) zN w9 (Nat.le_refl _) (by omega) D9.out).mono ?_;rintro e w' ⟨rfl,aI⟩;obtain rfl:=aI.symm;rw [HU.out]))
          go_meet
          exact ⟨true,rfl,⟨fun _=>fin.out,fun _=>rfl⟩,rfl⟩
         have HI:=ah (ZP hin)
         by_cases hou:zN∈own s
         ·have fin:Hid (uF (fJ l j) s):=⟨ZX.out,.inr (.inr (.inr (.inr hou)))⟩
          have HU:=ah ((J3 (own s) zN).2 hou)
          clear hin hou
          go_wp2_with (first
          | (go_at_call 62;refine (mD s.name w9).mono ?_;rintro e w' ⟨rfl,aI⟩;obtain rfl:=aI.symm)
          | (go_at_call 63;refine (wL (own s) (some ⟨ob,oo,none⟩) oc (fun b=>w7.heap.size≤b) w9 UF.out hoc hol).mono ?_;rintro e w' ⟨tb,rfl,htb,aI⟩;obtain rfl:=aI.symm;obtain rfl:tb=false:=htb.2 PW.out;clear htb)
          | (go_at_call 64;refine (Tryz.slices_Contains_string ob oo (own s).length oc (own s) Fz w9 (Nat.le_refl _) (by omega) D9.out).mono ?_;rintro e w' ⟨rfl,aI⟩;obtain rfl:=aI.symm;rw [HI.out])
          | (go_at_call 64;refine (Tryz.slices_Contains_string ob oo (own s).length oc (own s) zN w9 (Nat.le_refl _) (by omega) D9.out).mono ?_;rintro e w' ⟨rfl,aI⟩;obtain rfl:=aI.symm;rw [HU.out]))
          go_meet
          exact ⟨true,rfl,⟨fun _=>fin.out,fun _=>rfl⟩,rfl⟩
         have HU:=ah (ZP hou)
         have fin:Hid (¬uF (fJ l j) s):=fun h=>by
          rcases h.2 with h1|h1|h1|h1|h1
          ·rw [hso] at h1;cases h1
          ·exact LW.out h1
          ·exact h1 PW.out
          ·exact hin h1
          ·exact hou h1
         clear hin hou
         go_wp2_with (first
          | (go_at_call 62;refine (mD s.name w9).mono ?_;rintro e w' ⟨rfl,aI⟩;obtain rfl:=aI.symm)
          | (go_at_call 63;refine (wL (own s) (some ⟨ob,oo,none⟩) oc (fun b=>w7.heap.size≤b) w9 UF.out hoc hol).mono ?_;rintro e w' ⟨tb,rfl,htb,aI⟩;obtain rfl:=aI.symm;obtain rfl:tb=false:=htb.2 PW.out;clear htb)
          | (go_at_call 64;refine (Tryz.slices_Contains_string ob oo (own s).length oc (own s) Fz w9 (Nat.le_refl _) (by omega) D9.out).mono ?_;rintro e w' ⟨rfl,aI⟩;obtain rfl:=aI.symm;rw [HI.out])
          | (go_at_call 64;refine (Tryz.slices_Contains_string ob oo (own s).length oc (own s) zN w9 (Nat.le_refl _) (by omega) D9.out).mono ?_;rintro e w' ⟨rfl,aI⟩;obtain rfl:=aI.symm;rw [HU.out]))
         go_meet
         exact ⟨false,rfl,⟨fun h=>(by cases h),fun h=>absurd h fin.out⟩,rfl⟩
       case rest =>
        obtain ⟨bb,rfl,hbb,rfl⟩:=hcut
        go_upto_if 129 with fail
        go_cut [129] (fun c wx=>Fs (w.heap.size+1) (nR l (j+1)) wx∧Kept (· = w.heap.size+1) w9 wx)
        case first =>
         have hst:Hid (nR l (j+1)=ou (uF (fJ l j) s) j (ou (badL (eY l j) s) j (nR l j))):=by have:=J5 l j hlt;rw [←FH.out] at this;exact this
         cases bb with
         | true =>
          have fin:Hid (nR l (j+1)=wP (ou (badL (eY l j) s) j (nR l j)) (7,j)):=hst.out.trans (BN (hbb.1 rfl) _ _)
          clear hbb
          go_wp2_with (go_at_call 58;(with_reducible refine (qB (w.heap.size+1) (ou (badL (eY l j) s) j (nR l j)) 7 j w9 N9.out).mono ?_);rintro e w10 ⟨rfl,ZW,wK⟩;have FS5:=ah ZW;have K10:=ah wK;clear ZW wK)
          go_meet
          exact ⟨by rw [fin.out];exact FS5.out,K10.out⟩
         | false =>
          have fin:Hid (nR l (j+1)=ou (badL (eY l j) s) j (nR l j)):=hst.out.trans (vJ (fun h=>by have:=hbb.2 h;cases this) _ _)
          clear hbb
          go_wp2_with fail
          go_meet
          exact ⟨by rw [fin.out];exact N9.out,Kept.refl _ _⟩
        case rest =>
         obtain ⟨w10,agG⟩:∃x,x=wc:=⟨_,rfl⟩
         rw [←agG] at hcut⊢
         obtain ⟨agH,hK10⟩:=hcut
         clear agG hbb
         have N10:=ah agH
         have ajQ:¬wr.heap.size=w.heap.size+1:=by have:=FRN.out;omega
         have P10:=ah (P9.out.kept hK10 (fun h=>kQ.out.2.2.2.1 h));have Q10:=ah (Q9.out.kept hK10 (fun h=>kQ.out.2.2.2.2.1 h));have T10:=ah (T9.out.kept hK10 (fun h=>kQ.out.1 h));have ajR:=ah (HB9.out.kept hK10 ajQ)
         have K10:Hid (Kept (Iu (w.heap.size+1) B1 B2) w2 w10):=K9.out.step hK10 (fun y hy=>.inl (.inl hy))
         clear agH hK10 x0 x1 c0 c1 c17 N9 P9 Q9 T9 HB9 K9 D9 UF
         obtain ⟨x0,x1⟩:=T10.out.cells
         obtain ⟨c0,c1,_,_,_,_,_,_,_,_,_,_,_,_,_,_,_,c17,_⟩:=ajR.out.cells
         obtain ⟨w11,hput,agJ,PX⟩:=Q10.out.drewN 1 |>.put (by unfold maxLen;omega) s.name hnl (j:Int) (WalkArith.wf_i64 (by omega))
         rw [show w10.drewN 1=w10.drew from rfl] at hput PX
         have M11:=ah agJ
         have K11:Hid (Kept (Iu (w.heap.size+1) B1 B2) w2 w11):=K10.out.drew.step PX (fun y hy=>.inl (.inr (.inr hy)))
         have N11:=ah ((N10.out.kept (Kept.refl aA _).drew (fun h=>h)).kept PX (fun h=>kQ.out.2.2.2.2.1 (Eq.symm h)))
         have P11:=ah ((P10.out.kept (Kept.refl aA _).drew (fun h=>h)).kept PX (fun h=>kQ.out.2.2.2.2.2 (Eq.symm h)))
         clear agJ PX
         go_upto_region 27 with fail
         go_region
         go_wp2_with fail
         go_roundw
         case rel=>exact ⟨j+1,by omega,by go_num,N11.out,⟨n3,hn3,P11.out⟩,⟨n2+1,by omega,by rw [fin2.out];exact M11.out⟩,K11.out⟩
         case measure=>simp [intOf];omega
    ·obtain rfl:j=l.length:=by omega
     obtain ⟨wv,hwv⟩:∃x,x=wr:=⟨_,rfl⟩
     have hX:Hid (wr=wv):=hwv.symm
     rw [←hwv]
     have KV:Hid (Kept (Iu (w.heap.size+1) B1 B2) w2 wv):=by rw [hwv];exact KW.out
     have FV:Hid (Fs (w.heap.size+1) (nR l l.length) wv):=by rw [hwv];exact Iw
     have MV1:Hid (eH wv B1 n1 (eY l l.length)):=by rw [hwv];exact hM1
     have MV2:Hid (eH wv B2 n2 (fJ l l.length)):=by rw [hwv];exact hM2
     have TV:Hid (qK wv T B1 B2):=T2.out.kept KV.out (fun h=>by rcases h with h|h|h;exact kQ.out.1 h;exact kQ.out.2.1 h;exact kQ.out.2.2.1 h)
     have LV:Hid (oh wv S al l):=L2.out.to KV.out S2.out (fun _ h=>h)
     have SV:Hid (Safe S (· = w.heap.size+1) wv.heap.size):=fun b hb=>⟨Nat.lt_of_lt_of_le (S2.out b hb).1 KV.out.size,fun h=>(S2.out b hb).2 (.inl h)⟩
     have La:Hid (∀s d,fJ l l.length s=some d→∃k:Nat,d=k∧k<l.length):=fun s d h=>afc l l.length s d h
     clear hwv hX hlt hj Iw hM1 hM2 hkw KW hn1 hn2 M1 M2 T2 N2 L2
     obtain ⟨m1,hm1⟩:∃m,m=eY l l.length:=⟨_,rfl⟩
     obtain ⟨m2,hm2⟩:∃m,m=fJ l l.length:=⟨_,rfl⟩
     obtain ⟨r0,hr0⟩:∃r,r=nR l l.length:=⟨_,rfl⟩
     rw [←hm1] at MV1;rw [←hm2] at MV2 La;rw [←hr0] at FV
     have HM1:=ah hm1;have bD:=ah hm2;have HR0:=ah hr0
     clear hm1 hm2 hr0
     go_wp2_with fail
     go_loopw [142] (fun i wr=>∃j:Nat,j≤l.length∧i=.int .i64 j∧Fs (w.heap.size+1) (uR m1 m2 l r0 j) wr∧Kept (· = w.heap.size+1) wv wr) (fun i _=>l.length-(intOf i).toNat)
     case atStart=>exact ⟨0,Nat.zero_le _,rfl,FV.out,Kept.refl _ _⟩
     case round =>
      obtain ⟨j,hj,rfl,Iw,hkw⟩:=hrel
      have KW:=ah hkw
      by_cases hlt:j<l.length
      ·have FC:=LV.out.to hkw SV.out (fun _ h=>h)
       have HLQ:=ah FC
       obtain ⟨b,o,rfl,hc⟩:=FC (by omega)
       obtain ⟨a,_,hz,hcc,ho⟩:=hc j hlt
       have HZ:=ah hz;have HO:=ah ho
       have SW:=ah (SV.out.mono hkw.size)
       have FR:=ah Iw
       clear hc hkw hz ho FC Iw
       go_upto_region 31 with fail
       go_upto_region 32 with (first
        | (refine kE rfl _ rfl b (o+j*24) rfl a l[j] hcc ?_)
        | (refine (iE rfl _ _ rfl wr.heap.size rfl a l[j] rfl _ (ay wr _) rfl ?_);intro w3 hB2 hk2;have FD:Hid (Kept aA wr w3):=((Kept.refl aA wr).alloc _).step hk2 (fun y hy=>.inr (by subst hy;exact Nat.le_refl _));have HB3:=ah hB2;clear hB2 hk2))
       obtain ⟨s,hs⟩:∃s,s=l[j]:=⟨_,rfl⟩
       have FH:=ah hs
       rw [←hs] at HB3 HZ HO
       clear hs hcc
       try dsimp only [Act.put]
       obtain ⟨c0,c1,_,_,_,_,_,_,_,_,_,_,_,_,_,_,_,c17,c18,_,_,c21,dU,c23⟩:=HB3.out.cells
       have HO3:Hid (wQ w3 S a s):=HO.out.to FD.out (fun b hb=>⟨(SW.out b hb).1,fun h=>h⟩) (fun _ h=>h)
       clear HO
       obtain ⟨g,hg⟩:∃g,g=wr.heap.size:=⟨_,rfl⟩
       have HGN:Hid (g≠w.heap.size+1∧¬S g):=by rw [hg];exact ⟨by have:=FR.out.lt;omega,fun h=>by have:=(SW.out g (by rw [hg];exact h)).1;omega⟩
       rw [←hg] at HB3 c0 c1 c17 c18 c21 dU c23⊢
       have N3:=ah (FR.out.kept FD.out (fun h=>h))
       have K3:Hid (Kept (· = w.heap.size+1) wv w3):=KW.out.quiet FD.out
       clear hg FR
       obtain ⟨w4,hw4⟩:∃x,x=w3.alloc (.cells #[.string s.always,.string s.yes,.string s.bW] 9):=⟨_,rfl⟩
       have Ea:Hid (Kept aA w3 w4):=by rw [hw4];exact (Kept.refl aA w3).alloc _
       have R4:Hid (∀k (h:k<3),w4.cell? ⟨w3.heap.size,0+k,none⟩=some (.string ((Am s)[k]'h))):=by
        rw [hw4];intro k h
        rcases (show k=0∨k=1∨k=2 by omega) with rfl|rfl|rfl<;>simp [Am]
       have xw:=ah hw4
       have HQ3:Hid (w3.heap.size≠w.heap.size+1∧w3.heap.size<w4.heap.size):=by rw [hw4];exact ⟨by have:=N3.out.lt;omega,by simp⟩
       clear hw4
       go_wp2_with fail
       rw [←xw.out]
       clear xw c0 c1 c17 c18 c21 dU c23
       have K4:Hid (Kept (· = w.heap.size+1) wv w4):=K3.out.quiet Ea.out
       have N4:=ah (N3.out.kept Ea.out (fun h=>h))
       have agM:∀k (h:k<3),((Am s)[k]'h).size≤maxLen:=by
        intro k h
        have:=HZ.out.always;have:=HZ.out.yes;have:=HZ.out.bW
        rcases (show k=0∨k=1∨k=2 by omega) with rfl|rfl|rfl<;>(simp [Am];unfold maxLen;omega)
       have HGS:=ah agM
       clear agM
       go_loopw [155] (fun i wr=>∃(k:Nat) (r2:Int×Int),k≤3∧i=.int .i64 k∧Hid (CZ m1 j (Am s) (uR m1 m2 l r0 j)=CZ m1 j ((Am s).drop k) r2)∧Fs (w.heap.size+1) r2 wr∧Kept (· = w.heap.size+1) w4 wr) (fun i _=>3-(intOf i).toNat)
       case atStart=>exact ⟨0,_,by omega,rfl,by unfold Hid;rw [List.drop_zero],N4.out,Kept.refl _ _⟩
       case round =>
        obtain ⟨k,r2,hk,rfl,hno,hf2,PY⟩:=hrel
        have F2:=ah hf2;have KX:=ah PY
        by_cases hlt2:k<3
        ·have x3:wr.cell? ⟨w3.heap.size,0+k,none⟩=some (.string ((Am s)[k]'hlt2)):=(PY.cell HQ3.out.2 HQ3.out.1).trans (R4.out k hlt2)
         rw [Nat.zero_add] at x3
         have step:=ah (hno.out.trans (acY m1 j (Am s) k hlt2 r2))
         have KVX:=ah (K4.out.trans PY)
         have M5:=ah (MV1.out.kept KVX.out (fun h=>kQ.out.2.2.2.1 h));have T5:=ah (TV.out.kept KVX.out (fun h=>kQ.out.1 h))
         obtain ⟨x0,x1⟩:=T5.out.cells
         have hnl:=HGS.out k hlt2
         generalize (Am s)[k]'hlt2=nm at *
         have hlook:=M5.out.look_ok nm hnl
         clear hf2 PY hno
         by_cases h0:nm.size=0
         ·have e3:nm.toList.isEmpty=true:=qo.2 h0
          rw [if_neg (fun h=>h.1 h0),show jv r2 0 j=r2 from if_pos rfl] at step
          clear h0
          go_wp2_with fail
          go_roundw
          case rel=>exact ⟨k+1,_,by omega,by go_num,step,F2.out,KX.out⟩
          case measure=>simp [intOf];omega
         have e3:nm.toList.isEmpty=false:=jJ.2 (by omega)
         cases hso:(m1 nm).isSome with
         | true =>
          rw [if_neg (fun h=>by have:=h.2.1;rw [hso] at this;cases this),show jv r2 0 j=r2 from if_pos rfl] at step
          rw [hso] at hlook
          clear h0 hso
          go_wp2_with fail
          go_roundw
          case rel=>exact ⟨k+1,_,by omega,by go_num,step,F2.out,KX.out⟩
          case measure=>simp [intOf];omega
         | false =>
          cases hkp:rH nm with
          | true =>
           have HK:=ah hkp
           rw [if_neg (fun h=>by have:=h.2.2;rw [hkp] at this;cases this),show jv r2 0 j=r2 from if_pos rfl] at step
           rw [hso] at hlook
           clear h0 hso hkp
           go_wp2_with (go_at_call 60;(with_reducible refine (Gg nm _).mono ?_);rintro e w' ⟨rfl,aI⟩;obtain rfl:=aI.symm;rw [HK.out])
           go_roundw
           case rel=>exact ⟨k+1,_,by omega,by go_num,step,F2.out,KX.out⟩
           case measure=>simp [intOf];omega
          | false =>
           have HK:=ah hkp
           rw [if_pos ⟨h0,hso,hkp⟩,show jv r2 6 j=wP r2 (6,j) from if_neg (by decide)] at step
           rw [hso] at hlook
           clear h0 hso hkp
           go_wp2_with (first
            | (go_at_call 60;(with_reducible refine (Gg nm _).mono ?_);rintro e w' ⟨rfl,aI⟩;obtain rfl:=aI.symm;rw [HK.out])
            | (go_at_call 58;(with_reducible refine (qB (w.heap.size+1) r2 6 j wr F2.out).mono ?_);rintro e w6 ⟨rfl,Z7,nJ⟩;have F6:=ah Z7;have K6:=ah (KX.out.trans nJ);clear Z7 nJ))
           go_roundw
           case rel=>exact ⟨k+1,_,by omega,by go_num,step,F6.out,K6.out⟩
           case measure=>simp [intOf];omega
        ·obtain rfl:k=3:=by omega
         have hr2:Hid (CZ m1 j (Am s) (uR m1 m2 l r0 j)=r2):=by unfold Hid;rw [hno.out];exact rfl
         obtain ⟨w5,hw5⟩:∃x,x=wr:=⟨_,rfl⟩
         rw [←hw5] at F2 KX⊢
         have K5:Hid (Kept (· = w.heap.size+1) wv w5):=K4.out.trans KX.out
         have Ap:Hid (Kept (· = w.heap.size+1) w3 w5):=(Ea.out.more (fun _ h=>h.elim)).trans KX.out
         have KY:=ah (HB3.out.kept Ap.out HGN.out.1)
         have M5:=ah (MV1.out.kept K5.out (fun h=>kQ.out.2.2.2.1 h));have T5:=ah (TV.out.kept K5.out (fun h=>kQ.out.1 h))
         clear hw5 hlt2 hk hno hf2 PY
         obtain ⟨x0,x1⟩:=T5.out.cells
         obtain ⟨c0,c1,_,_,_,_,_,_,_,_,_,_,_,_,_,_,_,c17,c18,_⟩:=KY.out.cells
         go_upto_if 184 with fail
         go_cut [184] (fun c wx=>Fs (w.heap.size+1) (jv r2 (BO m1 s) j) wx∧Kept (· = w.heap.size+1) w5 wx)
         case first =>
          by_cases xu:s.kind=7
          rotate_left
          ·have e3:(s.kind==7)=false:=by simpa using xu
           have fin:Hid (jv r2 (BO m1 s) j=r2):=if_pos (if_neg (fun h=>xu h.1))
           clear xu
           rw [e3]
           go_wp2_with fail
           go_meet
           exact ⟨by rw [fin.out];exact F2.out,Kept.refl _ _⟩
          have e3:(s.kind==7)=true:=by simpa using xu
          have hel:s.entry.size≤maxLen:=by have:=HZ.out.entry;unfold maxLen;omega
          cases hso:(m1 s.entry).isSome with
          | true =>
           have fin:Hid (jv r2 (BO m1 s) j=r2):=if_pos (if_neg (fun h=>by have:=h.2;rw [hso] at this;cases this))
           have hlook:∀i,(Instr.lookup 98 (.map (some B1)) (.string s.entry) true).run Tryz.prog (w5.drewN i)=.ok (.tuple #[.int .i64 ((m1 s.entry).getD 0),.bool true]) (w5.drewN i):=fun i=>by have h_:=(M5.out.drewN i).look_ok s.entry hel;rw [hso] at h_;exact h_
           clear hso xu
           rw [e3]
           go_wp2_with fail
           go_quiet (fail)
           go_wp2_with fail
           go_meet
           exact ⟨by rw [fin.out];exact F2.out.kept ((Kept.refl aA _).drewN _) (fun h=>h),(Kept.refl _ _).drewN _⟩
          | false =>
           have fin:Hid (jv r2 (BO m1 s) j=wP r2 (6,j)):=by
            unfold Hid;rw [show BO m1 s=6 from if_pos ⟨xu,hso⟩];exact if_neg (by decide)
           have hlook:∀i,(Instr.lookup 98 (.map (some B1)) (.string s.entry) true).run Tryz.prog (w5.drewN i)=.ok (.tuple #[.int .i64 ((m1 s.entry).getD 0),.bool false]) (w5.drewN i):=fun i=>by have h_:=(M5.out.drewN i).look_ok s.entry hel;rw [hso] at h_;exact h_
           clear hso xu
           rw [e3]
           go_wp2_with fail
           go_quiet (fail)
           go_wp2_with (go_at_call 58;(refine (qB (w.heap.size+1) r2 6 j _ (F2.out.kept ((Kept.refl aA _).drewN _) (fun h=>h))).mono ?_);rintro e w6 ⟨rfl,Z7,nJ⟩;have F6:=ah Z7;have K6:=ah (((Kept.refl (· = w.heap.size+1) w5).drewN _).trans nJ);clear Z7 nJ)
           go_meet
           exact ⟨by rw [fin.out];exact F6.out,K6.out⟩
         case rest =>
          obtain ⟨w6,hw6⟩:∃x,x=wc:=⟨_,rfl⟩
          rw [←hw6] at hcut⊢
          obtain ⟨hF6,hK6⟩:=hcut
          clear hw6 x0 x1 c0 c1 c17 c18
          have F6:=ah hF6
          have K6:Hid (Kept (· = w.heap.size+1) wv w6):=K5.out.trans hK6
          have K36:Hid (Kept (· = w.heap.size+1) w3 w6):=Ap.out.trans hK6
          have HB6:=ah (KY.out.kept hK6 HGN.out.1)
          clear hF6 hK6 KY M5 T5
          have c1:=HB6.out.cells.2.1
          have amd:(iW s).length≤2:=by unfold iW;split;exact (by decide:1≤2);split;exact (by decide:2≤2);exact (by decide:0≤2)
          go_wp2_with (go_at_call 65;(refine (Z8 s.kind g 0 w6 c1).mono ?_);rintro e w7 ⟨pa,rfl,hpr,k7_⟩;rw [zi s];have PR:=ah hpr;have K67:=ah k7_;clear hpr k7_)
          have K7:Hid (Kept (· = w.heap.size+1) wv w7):=K6.out.quiet K67.out
          have F7:=ah (F6.out.kept K67.out (fun h=>h))
          go_loopw [201] (fun i wr=>∃(k:Nat) (r3:Int×Int),k≤(iW s).length∧i=.int .i64 k∧Hid (jl m2 l j (iW s) (jv r2 (BO m1 s) j)=jl m2 l j ((iW s).drop k) r3)∧Fs (w.heap.size+1) r3 wr∧Kept (· = w.heap.size+1) w7 wr) (fun i _=>(iW s).length-(intOf i).toNat)
          case atStart=>exact ⟨0,_,by omega,rfl,by unfold Hid;rw [List.drop_zero],F7.out,Kept.refl _ _⟩
          case round =>
           obtain ⟨k,r3,hk,rfl,hno,hf3,GH⟩:=hrel
           by_cases hlt2:k<(iW s).length
           ·have step:=ah (hno.out.trans (EY m2 l j (iW s) k hlt2 r3))
            obtain ⟨pg,rfl,hpB,ajS,hpc⟩:=PR.out (by rw [zi];omega)
            have hkp:k<(jP s.kind).length:=by rw [zi];exact hlt2
            have x4:wr.cell? ⟨pg,k,none⟩=some (.pointer (some ⟨g,0+(jP s.kind)[k],none⟩)):=(GH.cell ajS (fun h=>by have:=F6.out.lt;omega)).trans (hpc k hkp)
            rw [Nat.zero_add] at x4
            have K8:Hid (Kept (· = w.heap.size+1) wv wr):=K7.out.trans GH
            have K38:Hid (Kept (· = w.heap.size+1) w3 wr):=(K36.out.quiet K67.out).trans GH
            have F8:=ah hf3;have KX:=ah GH
            have PV:=HB3.out.kept K38.out HGN.out.1
            have hs3:Safe S (· = w.heap.size+1) w3.heap.size:=fun b hb=>⟨by have:=(S0.out b hb).1;have:=N3.out.lt;omega,(SW.out b hb).2⟩
            have PA:Hid (aX wr (fun b=>S b∨b=g) g ((jP s.kind)[k]) (iW s)[k]):=acV PV HZ.out (HO3.out.to K38.out hs3 (fun _ h=>.inl h)) (.inr rfl) k hlt2
            have L8:Hid (oh wr (fun b=>S b∨b=g) (some ⟨b,o,none⟩) l):=LV.out.to K8.out SV.out (fun _ h=>.inl h)
            have S8:Hid (Safe (fun b=>S b∨b=g) (· = w.heap.size+1) wr.heap.size):=fun b hb=>by
             rcases hb with hb|rfl
             ·exact ⟨Nat.lt_of_lt_of_le (SV.out b hb).1 K8.out.size,(SV.out b hb).2⟩
             ·exact ⟨PV.lt,HGN.out.1⟩
            have T8:=ah (TV.out.kept K8.out (fun h=>kQ.out.1 h));have M8:=ah (MV2.out.kept K8.out (fun h=>kQ.out.2.2.2.2.1 h))
            generalize (jP s.kind)[k]=po at *
            generalize hxk:(iW s)[k]=xk at *
            clear hxk hno hf3 GH PV hpc
            go_wp2_with (go_at_call 66;(refine (XL T B1 B2 n2 (w.heap.size+1) m2 l (some ⟨b,o,none⟩) cl (fun b=>S b∨b=g) j La.out kQ.out.1 kQ.out.2.2.2.2.1 hlen _ xk g po r3 wr (Nat.le_refl _) PA.out L8.out S8.out T8.out M8.out F8.out).mono ?_);rintro e w9 ⟨rfl,f9_,Iy⟩;have F9:=ah f9_;have K9:=ah (KX.out.trans Iy);clear f9_ Iy)
            go_roundw
            case rel=>exact ⟨k+1,_,by omega,by go_num,step,F9.out,K9.out⟩
            case measure=>simp [intOf];omega
           ·obtain rfl:k=(iW s).length:=by omega
            have fin:Hid (uR m1 m2 l r0 (j+1)=r3):=by
             unfold Hid
             rw [UA m1 m2 l r0 j hlt,←FH.out]
             unfold Gz
             rw [hr2.out,hno.out,List.drop_length,jl]
            have K8:Hid (Kept (· = w.heap.size+1) wv wr):=K7.out.trans GH
            have F8:=ah hf3
            clear hno hf3 GH
            go_wp2_with fail
            go_roundw
            case rel=>exact ⟨j+1,by omega,by go_num,by rw [fin.out];exact F8.out,K8.out⟩
            case measure=>simp [intOf];omega
      ·obtain rfl:j=l.length:=by omega
       have hR:Hid (uR m1 m2 l r0 l.length=Nb l):=by unfold Hid;rw [HM1.out,bD.out,HR0.out];exact rfl
       have hPR:=PO l ac2.out hwr.out
       have F8:Hid (Fs (w.heap.size+1) ((bY l).1,((bY l).2:Int)) wr):=by rw [←hPR,←hR.out];exact Iw
       have aik:Hid ((bY l).1=0→m1=kH l∧m2=uG l):=fun h=>by
        have h2:=Xg l ac2.out hwr.out (by rw [hPR];exact h)
        rw [HM1.out,bD.out];exact ⟨h2.1,h2.2.1⟩
       have M8:=ah (MV1.out.kept hkw (fun h=>kQ.out.2.2.2.1 h));have Q8:=ah (MV2.out.kept hkw (fun h=>kQ.out.2.2.2.2.1 h));have T8:=ah (TV.out.kept hkw (fun h=>kQ.out.1 h))
       have FL8:Hid (Fl w.heap.size 0 0 wr):=(F2.out.kept KV.out (fun h=>by have:=Kq.out;have:=HB2.out;rcases (show w.heap.size=w.heap.size+1∨w.heap.size=B1∨w.heap.size=B2 from h) with h|h|h<;>omega)).kept hkw (fun h=>by have:w.heap.size=w.heap.size+1:=h;omega)
       have KZ:Hid (Kept aA w wr):=((K1.out.trans K2.out).step KV.out (fun y hy=>by have:=Kq.out;have:=HB2.out;rcases (show y=w.heap.size+1∨y=B1∨y=B2 from hy) with h|h|h<;>exact .inr (by omega))).step hkw (fun y hy=>.inr (by have:y=w.heap.size+1:=hy;omega))
       have KF:Hid (∀c d,Kept (· = w.heap.size) wr (((wr.drew).setCell ⟨w.heap.size,0,none⟩ (.int .i64 c)).setCell ⟨w.heap.size,1,none⟩ (.int .i64 d))):=fun c d=>((Kept.refl (· = w.heap.size) wr).drew.setCell (p:=⟨w.heap.size,0,none⟩) (.inl rfl) _).setCell (p:=⟨w.heap.size,1,none⟩) (.inl rfl) _
       obtain ⟨k0,k1,k2,k3⟩:=F8.out.cells
       obtain ⟨f0,f1,f2,f3⟩:=FL8.out.cells
       dsimp only at k0 k1
       clear Iw hPR hkw hj hlt
       by_cases hc:(bY l).1=0
       ·have e3:((bY l).1 != 0)=false:=by simpa using hc
        obtain ⟨hma,hmb⟩:=aik.out hc
        have fin:Hid (qN l w.heap.size (some ⟨T,0,none⟩) (((wr.drew).setCell ⟨w.heap.size,0,none⟩ (.int .i64 (bY l).1)).setCell ⟨w.heap.size,1,none⟩ (.int .i64 ((bY l).2:Int)))):=by
         have hn:=HB2.out;have hn1:=Kq.out
         refine ⟨T,B1,B2,n1,n2,rfl,T8.out.kept (KF.out _ _) (fun h=>?_),?_,?_,by omega,by omega,by omega⟩
         ·have:T=w.heap.size:=h;omega
         ·rw [←hma];exact M8.out.kept (KF.out _ _) (fun h=>by have:B1=w.heap.size:=h;omega)
         ·rw [←hmb];exact Q8.out.kept (KF.out _ _) (fun h=>by have:B2=w.heap.size:=h;omega)
        have HC:=ah hc
        clear hc hma hmb
        go_wp2_with fail
        go_region
        go_wp2_with fail
        exact BQ rfl rfl rfl (FL8.out.set _ _) rfl (KZ.out.step (KF.out _ _) (fun y hy=>.inr (by subst hy;exact Nat.le_refl _))) (fun _=>fin.out) (fun h=>absurd HC.out h)
       ·have e3:((bY l).1 != 0)=true:=by simpa using hc
        have HC:=ah hc
        clear hc
        go_wp2_with fail
        go_region
        go_wp2_with fail
        exact BQ rfl rfl rfl (FL8.out.set _ _) rfl (KZ.out.step (KF.out _ _) (fun y hy=>.inr (by subst hy;exact Nat.le_refl _))) (fun h=>absurd h HC.out) (fun _=>rfl)
end Go.Proofs.YtgoijmpahffnhaaGreatDoor
