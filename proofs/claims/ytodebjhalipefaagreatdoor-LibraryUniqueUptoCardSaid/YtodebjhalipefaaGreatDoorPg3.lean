/-  -/
import Derived.Test.YtodebjhalipefaaGreatDoorLq14
namespace Go.Proofs.YtodebjhalipefaaGreatDoor
set_option linter.all false
open Go.RowKit
set_option maxRecDepth 100000
set_option maxHeartbeats 8000000
theorem Qp (l:List aF) (al:Option Addr) (cl:Nat) (S:Nat→Prop) (w:World) (hl:mW w S al l) (hS:Safe S aA w.heap.size) (hlen:l.length≤1048576) :
  Calls Tryz.prog 41 #[.slice al l.length cl] w (acd l w):=by
 obtain ⟨w1,hw1⟩:∃w1,w1=(w.alloc (.cells #[.int .i64 0,.int .i64 0] 39)).alloc (.cells #[.int .i64 0,.int .i64 0] 142):=⟨_,rfl⟩
 have k1:Kept aA w w1:=by rw [hw1];exact ((Kept.refl aA w).alloc _).alloc _
 have hz1:w1.heap.size=w.heap.size+2:=by rw [hw1];simp
 have F1:Hid (Fl w.heap.size 0 0 w1):=by rw [hw1];unfold Hid Fl;rw [Below.heap_alloc _ _ _ (by simp)];exact ay w _
 have N1:Hid (Fs (w.heap.size+1) (0,0) w1):=by rw [hw1];have:=ay (w.alloc (.cells #[.int .i64 0,.int .i64 0] 39)) (.cells #[.int .i64 0,.int .i64 0] 142);unfold Hid Fs;rw [←this];simp
 have S0:=ah hS
 have L1:=ah (hl.to k1 hS (fun _ h=>h));have S1:=ah (hS.mono k1.size);have K1:=ah k1;have HW1:=ah hw1;have HZ1:=ah hz1
 clear hl hS k1 hw1 hz1
 by_cases hbig:1000<l.length
 ·have e1:decide ((1000:Int)<(l.length:Int))=true:=ak (by omega)
  have e1':decide (1000<l.length)=true:=ak hbig
  have fin:Hid (bZ l=(5,0)):=check_big hbig
  clear hbig
  go_enter Tryz.func41, Tryz.ntmps41
  go_upto_region 2 with fail
  rw [←HW1.out]
  go_wp2_with (go_at_call 73;(with_reducible refine (pV (w.heap.size+1) (0,0) 5 0 w1 N1.out).mono ?_);rintro e w3 ⟨rfl,xU,bD⟩;have FS3:=ah xU;have K3:=ah bD;clear xU bD)
  obtain ⟨n0,n1,n2,n3⟩:=FS3.out.cells
  have F3:=F1.out.kept K3.out (by show w.heap.size≠w.heap.size+1;omega)
  obtain ⟨f0,f1,f2,f3⟩:=F3.cells
  have KZ:Hid (Kept aA w w3):=K1.out.step K3.out (fun y hy=>.inr (by subst hy;omega))
  go_region
  go_wp2_with fail
  exact AL rfl rfl rfl (F3.set _ _) (by rw [fin.out];rfl) ((KZ.out.drew.setCell (p:=⟨w.heap.size,0,none⟩) (.inr (Nat.le_refl _)) _).setCell (p:=⟨w.heap.size,1,none⟩) (.inr (Nat.le_refl _)) _) (by rw [fin.out];intro h;cases h) (fun _=>rfl)
 have e1:decide ((1000:Int)<(l.length:Int))=false:=au (by omega)
 have e1':decide (1000<l.length)=false:=au hbig
 have abg:=ah hbig
 clear hbig
 go_enter Tryz.func41, Tryz.ntmps41
 go_upto_region 2 with fail
 rw [←HW1.out]
 clear HW1
 have hmm :=@run_makeMap Tryz.prog
 go_wp2_with fail
 go_loopw [34] (fun i wr=>∃j:Nat,j≤l.length∧i=.int .i64 j∧Hid (pG 0 l=pG j (l.drop j))∧Kept aA w1 wr) (fun i _=>l.length-(intOf i).toNat)
 case atStart=>exact ⟨0,Nat.zero_le _,rfl,by unfold Hid;rw [List.drop_zero],Kept.refl _ _⟩
 case round =>
  obtain ⟨j,hj,rfl,hno,hkw⟩:=hrel
  have KW:=ah hkw
  by_cases hlt:j<l.length
  ·have ED:=L1.out.to hkw S1.out (fun _ h=>h)
   obtain ⟨b,o,rfl,hc⟩:=ED (by omega)
   obtain ⟨a,_,hz,hcc,ho⟩:=hc j hlt
   have HZ:=ah hz;have HO:=ah ho
   have SW:=ah (S1.out.mono hkw.size)
   have hd:=Yq l j hlt
   have HD:=ah hd
   clear hc hkw hz ho ED hd
   go_wp2_with (first
    | (refine jS rfl _ rfl b (o+j*24) rfl a l[j] hcc ?_)
    | (refine jS rfl _ rfl wr.heap.size 0 rfl a l[j] HHC.out ?_)
    | (refine iC rfl _ _ rfl wr.heap.size rfl a l[j] rfl _ (ay wr _) rfl ?_;intro w2 hB2 hk2;have K2:Hid (Kept aA w1 w2):=(KW.out.alloc _).step hk2 (fun y hy=>.inr (by subst hy;exact KW.out.size));have HHC:=ah hB2.hc;have KQ2:Hid (Kept aA wr w2):=((Kept.refl aA wr).alloc _).step hk2 (fun y hy=>.inr (by subst hy;exact Nat.le_refl _));clear hB2 hk2))
   refine (abh l[j] (dN a l[j]) S w2 ⟨a,rfl,HZ.out,HO.out.to KQ2.out SW.out (fun _ h=>h)⟩ (SW.out.mono KQ2.out.size)).mono ?_
   rintro e w3 ⟨rfl,bD⟩
   have K3:=ah (K2.out.trans bD)
   have hd:=HD.out
   clear bD hcc HHC
   by_cases hw0:jG l[j]=0
   ·rw [if_pos hw0] at hd
    have step:=ah (hno.out.trans hd)
    have z1:(jG l[j] != 0)=false:=by simpa using hw0
    clear hd hw0
    go_wp2_with fail
    go_roundw
    case rel=>exact ⟨j+1,by omega,by go_num,step,K3.out⟩
    case measure=>simp [intOf];omega
   ·rw [if_neg hw0] at hd
    have fin:=ah (abj abg.out (hno.out.trans hd))
    have z1:(jG l[j] != 0)=true:=by simpa using hw0
    have N3:=ah (N1.out.kept K3.out (fun h=>h))
    have HNZ:=ah hw0
    clear hd hw0
    go_wp2_with (go_at_call 73;(with_reducible refine (pV (w.heap.size+1) (0,0) (jG l[j]) j w3 N3.out).mono ?_);rintro e w4 ⟨rfl,f4_,Dl⟩;have FS4:=ah f4_;have K4:=ah Dl;clear f4_ Dl)
    obtain ⟨n0,n1,n2,n3⟩:=FS4.out.cells
    have F4:=(F1.out.kept K3.out (fun h=>h)).kept K4.out (by show w.heap.size≠w.heap.size+1;omega)
    obtain ⟨f0,f1,f2,f3⟩:=F4.cells
    have KZ:Hid (Kept aA w w4):=(K1.out.trans K3.out).step K4.out (fun y hy=>.inr (by subst hy;omega))
    go_region
    go_wp2_with fail
    exact AL rfl rfl rfl (F4.set _ _) (by rw [fin.out];rfl) ((KZ.out.drew.setCell (p:=⟨w.heap.size,0,none⟩) (.inr (Nat.le_refl _)) _).setCell (p:=⟨w.heap.size,1,none⟩) (.inr (Nat.le_refl _)) _) (by rw [fin.out];intro h;exact absurd h HNZ.out) (fun _=>rfl)
  ·obtain rfl:j=l.length:=by omega
   have hwr:Hid (pG 0 l=none):=by unfold Hid;rw [hno.out,List.drop_length,pG]
   clear hno hkw
   go_upto_region 14 with fail
   obtain ⟨wv,hwv⟩:∃x,x=wr:=⟨_,rfl⟩
   rw [←hwv]
   obtain ⟨w2,hw2⟩:∃w2,w2=((wv.alloc (.map #[] 0)).alloc (.map #[] 0)).alloc (.cells #[.map (some wv.heap.size),.map (some (wv.heap.size+1))] 116):=⟨_,rfl⟩
   obtain ⟨B1,hB1⟩:∃B1,B1=wv.heap.size:=⟨_,rfl⟩
   have KV:Hid (Kept aA w1 wv):=by rw [hwv];exact KW.out
   clear KW hj hlt
   have Ju:Hid (w.heap.size+2≤B1):=by have:=KV.out.size;have:=HZ1.out;unfold Hid;omega
   have M1:Hid (eG w2 B1 0 (eP l 0)):=by rw [hw2,hB1];exact (eG.made wv).kept (((Kept.refl aA _).alloc _).alloc _) (fun h=>h)
   have M2:Hid (eG w2 (B1+1) 0 (fJ l 0)):=by rw [hw2,hB1];have:=(eG.made (wv.alloc (.map #[] 0))).kept ((Kept.refl aA _).alloc (.cells #[.map (some wv.heap.size),.map (some (wv.heap.size+1))] 116)) (fun h=>h);unfold Hid;exact (by simpa using this:eG _ (wv.heap.size+1) 0 (fun _=>none))
   have T2:Hid (qj w2 (B1+1+1) B1 (B1+1)):=by rw [hw2,hB1];have:=ay ((wv.alloc (.map #[] 0)).alloc (.map #[] 0)) (.cells #[.map (some wv.heap.size),.map (some (wv.heap.size+1))] 116);unfold Hid qj;rw [←this];simp
   have K2:Hid (Kept aA w1 w2):=by rw [hw2];exact ((KV.out.alloc _).alloc _).alloc _
   have hz2:Hid (w2.heap.size=B1+3):=by unfold Hid;rw [hw2,hB1];simp
   have HW2:=ah hw2
   have HB1:=ah hB1
   clear hw2 hB1
   go_upto_region 14 with fail
   have hw2:=HW2.out
   rw [←HB1.out] at hw2⊢
   rw [←hw2]
   clear hw2 HW2 HB1 hmm KV
   have jX:Hid (B1+1+1≠w.heap.size+1∧B1+1+1≠B1∧B1+1+1≠B1+1∧B1≠w.heap.size+1∧B1+1≠w.heap.size+1∧B1+1≠B1):=by have:=Ju.out;unfold Hid;omega
   obtain ⟨T,hT⟩:∃T,T=B1+1+1:=⟨_,rfl⟩
   rw [←hT] at T2 jX⊢
   obtain ⟨B2,hB2⟩:∃B2,B2=B1+1:=⟨_,rfl⟩
   rw [←hB2] at T2 jX M2
   have L2:=ah (L1.out.to K2.out S1.out (fun _ h=>h))
   have S2:Hid (Safe S (G7 (w.heap.size+1) B1 B2) w2.heap.size):=fun b hb=>by
    have:=(S0.out b hb).1;have:=hz2.out;have:=Ju.out
    exact ⟨by omega,fun h=>by rcases h with h|h|h<;>omega⟩
   have HB2:Hid (w.heap.size+2≤B2∧w.heap.size+2≤T):=by have:=Ju.out;unfold Hid;omega
   clear hT hB2
   have N2:=ah (N1.out.kept K2.out (fun h=>h))
   have F2:=ah (F1.out.kept K2.out (fun h=>h))
   go_wp2_with fail
   go_loopw [55] (fun i wr=>∃j:Nat,j≤l.length∧i=.int .i64 j∧Fs (w.heap.size+1) (nR l j) wr∧(∃n,n≤j∧eG wr B1 n (eP l j))∧(∃n,n≤j∧eG wr B2 n (fJ l j))∧Kept (G7 (w.heap.size+1) B1 B2) w2 wr) (fun i _=>l.length-(intOf i).toNat)
   case atStart=>exact ⟨0,Nat.zero_le _,rfl,N2.out,⟨0,Nat.le_refl _,M1.out⟩,⟨0,Nat.le_refl _,M2.out⟩,Kept.refl _ _⟩
   case round =>
    obtain ⟨j,hj,rfl,G8,⟨n1,hn1,hM1⟩,⟨n2,hn2,hM2⟩,hkw⟩:=hrel
    have KW:=ah hkw
    by_cases hlt:j<l.length
    ·
     have ED:=L2.out.to hkw S2.out (fun _ h=>h)
     have HLQ:=ah ED
     obtain ⟨b,o,rfl,hc⟩:=ED (by omega)
     obtain ⟨a,_,hz,hcc,ho⟩:=hc j hlt
     have HZ:=ah hz;have HO:=ah ho
     have SW:=ah (S2.out.mono hkw.size)
     have FR:=ah G8;have MR1:=ah hM1;have MR2:=ah hM2
     clear hc hkw hz ho ED G8 hM1 hM2
     go_upto_region 16 with fail
     go_upto_region 17 with (first
      | (refine jS rfl _ rfl b (o+j*24) rfl a l[j] hcc ?_)
      | (refine (iC rfl _ _ rfl wr.heap.size rfl a l[j] rfl _ (ay wr _) rfl ?_);intro w3 hB2 hk2;have EG:Hid (Kept aA wr w3):=((Kept.refl aA wr).alloc _).step hk2 (fun y hy=>.inr (by subst hy;exact Nat.le_refl _));have HB3:=ah hB2;clear hB2 hk2))
     obtain ⟨s,hs⟩:∃s,s=l[j]:=⟨_,rfl⟩
     have EH:=ah hs
     rw [←hs] at HB3 HZ HO
     clear hs hcc
     try dsimp only [Act.put]
     obtain ⟨c0,c1,_,_,_,_,_,_,_,_,_,_,_,_,_,_,_,c17,_⟩:=HB3.out.cells
     have K3:Hid (Kept (G7 (w.heap.size+1) B1 B2) w2 w3):=KW.out.step EG.out (fun y hy=>hy.elim)
     have N3:=ah (FR.out.kept EG.out (fun h=>h))
     have T3:=ah ((T2.out.kept K3.out (fun h=>by rcases h with h|h|h;exact jX.out.1 h;exact jX.out.2.1 h;exact jX.out.2.2.1 h)))
     have P3:=ah (MR1.out.kept EG.out (fun h=>h));have Q3:=ah (MR2.out.kept EG.out (fun h=>h))
     obtain ⟨x0,x1⟩:=T3.out.cells
     have FRN:Hid (w.heap.size+1<wr.heap.size):=FR.out.lt
     have agY:Hid (B1<wr.heap.size):=MR1.out.lt
     clear FR MR1 MR2
     go_upto_if 62 with fail
     have hkl:s.label.size≤maxLen:=by have:=HZ.out.label;unfold maxLen;omega
     go_cut [62] (fun c wx=>Fs (w.heap.size+1) (ng (badL (eP l j) s) j (nR l j)) wx∧(∃n,n≤j+1∧eG wx B1 n (eP l (j+1)))∧Kept (fun b=>b=w.heap.size+1∨b=B1) w3 wx)
     case first =>
      by_cases h0:s.label.size=0
      ·have e3:s.label.toList.isEmpty=true:=pI.2 h0
       have fin:Hid (ng (badL (eP l j) s) j (nR l j)=nR l j):=uK (fun h=>h.1 h0) _ _
       have fin2:Hid (eP l (j+1)=eP l j):=adv l j hlt (by rw [←EH.out];exact h0)
       clear h0
       rw [e3]
       go_wp2_with fail
       go_meet
       exact ⟨by rw [fin.out];exact N3.out,⟨n1,by omega,by rw [fin2.out];exact P3.out⟩,Kept.refl _ _⟩
      have e3:s.label.toList.isEmpty=false:=jD.2 (by omega)
      have fin2:Hid (eP l (j+1)=kL (eP l j) s.label j):=by have:=aa8 l j hlt (by rw [←EH.out];exact h0);rw [←EH.out] at this;exact this
      have hlook:∀i,(Instr.lookup 114 (.map (some B1)) (.string s.label) true).run Tryz.prog (w3.drewN i)=.ok (.tuple #[.int .i64 ((eP l j s.label).getD 0),.bool (eP l j s.label).isSome]) (w3.drewN i):=fun i=>(P3.out.drewN i).look_ok s.label hkl
      have h0':=ah h0
      clear h0
      rw [e3]
      go_wp2_with fail
      go_quiet (fail)
      clear hlook
      obtain ⟨w4,hw4⟩:∃x,x=w3.drewN nq:=⟨_,rfl⟩
      have K4:Hid (Kept aA w3 w4):=by rw [hw4];exact (Kept.refl aA w3).drewN nq
      rw [←hw4]
      clear hw4 x0 x1 c0 c1 c17
      have N4:=ah (N3.out.kept K4.out (fun h=>h));have P4:=ah (P3.out.kept K4.out (fun h=>h));have T4:=ah (T3.out.kept K4.out (fun h=>h))
      obtain ⟨x0,x1⟩:=T4.out.cells
      obtain ⟨c0,c1,_,_,_,_,_,_,_,_,_,_,_,_,_,_,_,c17,_⟩:=(HB3.out.kept K4.out (fun h=>h)).cells
      go_upto_region 19 with fail
      go_cut [12,78] (fun _ c wx=>c=.bool ((eP l j s.label).isSome||qN s.label)∧w4=wx)
      case first =>
       cases hso:(eP l j s.label).isSome with
       | true =>
        go_wp2_with fail
        go_meet
        exact ⟨by rw [hso];rfl,rfl⟩
       | false =>
        go_wp2_with (go_at_call 75;(with_reducible refine (E9 s.label w4).mono ?_);rintro e w' ⟨rfl,rfl⟩)
        go_meet
        exact ⟨by rw [hso];rfl,rfl⟩
      case rest =>
       obtain ⟨rfl,rfl⟩:=hcut
       go_upto_if 78 with fail
       go_cut [78] (fun c wx=>Fs (w.heap.size+1) (ng (badL (eP l j) s) j (nR l j)) wx∧Kept (· = w.heap.size+1) w4 wx)
       case first =>
        cases hb:((eP l j s.label).isSome||qN s.label) with
        | true =>
         have fin:Hid (ng (badL (eP l j) s) j (nR l j)=vI (nR l j) (7,j)):=Az ⟨h0'.out,by simpa using hb⟩ _ _
         clear hb
         go_wp2_with (go_at_call 73;(with_reducible refine (pV (w.heap.size+1) (nR l j) 7 j w4 N4.out).mono ?_);rintro e w5 ⟨rfl,Yr,vC⟩;have FS5:=ah Yr;have K5:=ah vC;clear Yr vC)
         go_meet
         exact ⟨by rw [fin.out];exact FS5.out,K5.out⟩
        | false =>
         have fin:Hid (ng (badL (eP l j) s) j (nR l j)=nR l j):=uK (fun h=>by have h2:=h.2;simp at hb;simp [hb] at h2) _ _
         clear hb
         go_wp2_with fail
         go_meet
         exact ⟨by rw [fin.out];exact N4.out,Kept.refl _ _⟩
       case rest =>
        obtain ⟨w5,hw5⟩:∃x,x=wc:=⟨_,rfl⟩
        rw [←hw5] at hcut⊢
        obtain ⟨hN5,hK5⟩:=hcut
        clear hw5
        have N5:=ah hN5;have K5:=ah hK5
        have hgN:¬wr.heap.size=w.heap.size+1:=by have:=FRN.out;omega
        have P5:=ah (P4.out.kept hK5 (fun h=>jX.out.2.2.2.1 h));have T5:=ah (T4.out.kept hK5 (fun h=>jX.out.1 h))
        have JV:=ah ((HB3.out.kept K4.out (fun h=>h)).kept hK5 hgN)
        clear hN5 hK5 x0 x1 c0 c1 c17
        obtain ⟨x0,x1⟩:=T5.out.cells
        obtain ⟨c0,c1,_,_,_,_,_,_,_,_,_,_,_,_,_,_,_,c17,_⟩:=JV.out.cells
        obtain ⟨w6,hput,hm6,hk6⟩:=P5.out.drewN 1 |>.put (by unfold maxLen;omega) s.label hkl (j:Int) (WalkArith.wf_i64 (by omega))
        rw [show w5.drewN 1=w5.drew from rfl] at hput hk6
        have M6:=ah hm6
        have K6:Hid (Kept (fun b=>b=w.heap.size+1∨b=B1) w3 w6):=((K4.out.more (fun _ h=>h.elim)).trans (K5.out.more (fun _ h=>.inl h))).drew.step hk6 (fun y hy=>.inl (.inr hy))
        have N6:=ah ((N5.out.kept (Kept.refl aA _).drew (fun h=>h)).kept hk6 (fun h=>jX.out.2.2.2.1 (Eq.symm h)))
        clear hm6 hk6
        go_wp2_with fail
        go_region
        go_wp2_with fail
        go_meet
        exact ⟨N6.out,⟨n1+1,by omega,by rw [fin2.out];exact M6.out⟩,K6.out⟩
     case rest =>
      obtain ⟨w7,hw7⟩:∃x,x=wc:=⟨_,rfl⟩
      rw [←hw7] at hcut⊢
      clear hw7
      obtain ⟨hN7,⟨n3,hn3,hM7⟩,hK7⟩:=hcut
      have N7:=ah hN7;have P7:=ah hM7;have K37:=ah hK7
      have hgN:¬(wr.heap.size=w.heap.size+1∨wr.heap.size=B1):=by have:=FRN.out;have:=agY.out;omega
      have Q7:=ah (Q3.out.kept hK7 (fun h=>by rcases h with h|h;exact jX.out.2.2.2.2.1 h;exact jX.out.2.2.2.2.2 h))
      have T7:=ah (T3.out.kept hK7 (fun h=>by rcases h with h|h;exact jX.out.1 h;exact jX.out.2.1 h))
      have OU:=ah (HB3.out.kept hK7 hgN)
      have K7:Hid (Kept (G7 (w.heap.size+1) B1 B2) w2 w7):=K3.out.step hK7 (fun y hy=>.inl (by rcases hy with h|h;exact .inl h;exact .inr (.inl h)))
      have KQ7:Hid (Kept (fun b=>b=w.heap.size+1∨b=B1) wr w7):=(EG.out.more (fun _ h=>h.elim)).trans hK7
      clear hN7 hM7 hK7 x0 x1 c0 c1 c17 N3 P3 Q3 T3 HB3 K3 K37 EG
      obtain ⟨x0,x1⟩:=T7.out.cells
      obtain ⟨c0,c1,_,_,_,_,_,_,_,_,_,_,_,_,_,_,_,c17,_⟩:=OU.out.cells
      by_cases vW:s.kind=7
      rotate_left
      ·have e3:(s.kind != 7)=true:=by simpa using vW
       have fin:Hid (nR l (j+1)=ng (badL (eP l j) s) j (nR l j)):=by have:=Jr l j hlt;rw [←EH.out] at this;exact this.trans (uK (fun h=>vW h.1) _ _)
       have fin2:Hid (fJ l (j+1)=fJ l j):=adw l j hlt (by rw [←EH.out];exact vW)
       clear vW
       go_wp2_with fail
       go_roundw
       case rel=>exact ⟨j+1,by omega,by go_num,by rw [fin.out];exact N7.out,⟨n3,hn3,P7.out⟩,⟨n2,by omega,by rw [fin2.out];exact Q7.out⟩,K7.out⟩
       case measure=>simp [intOf];omega
      have e3:(s.kind != 7)=false:=by simpa using vW
      have fin2:Hid (fJ l (j+1)=kL (fJ l j) s.name j):=by have:=aa9 l j hlt (by rw [←EH.out];exact vW);rw [←EH.out] at this;exact this
      have Yt:=ah vW
      clear vW
      go_upto_region 23 with fail
      have O7:Hid (vJ w7 S a s):=HO.out.to (KQ7.out.more (fun _ h=>by rcases h with h|h;exact .inl h;exact .inr (.inl h))) SW.out (fun _ h=>h)
      have hNX:¬w7.heap.size≤wr.heap.size:=by have:=OU.out.lt;omega
      have SX:Hid (Safe S (fun b=>w7.heap.size≤b) w7.heap.size):=fun b hb=>by have:=(S0.out b hb).1;have:=FRN.out;have:=OU.out.lt;exact ⟨by omega,by omega⟩
      have S7:Hid (Safe S aA w7.heap.size):=fun b hb=>⟨(SX.out b hb).1,fun h=>h⟩
      go_cut [13,91,92,93,94,95,96,97,98,99,100] (fun c _ _ _ _ _ _ _ _ _ _ wx=>Ch wx w7.heap.size (own s).length ((own s).map Value.string) c∧Kept aA w7 wx)
      case first =>
       obtain ⟨Sp,hSp⟩:∃Sp:Nat→Value→World→Prop,Sp=(fun i v _=>match i with
        | 0=>v=.pointer (some ⟨wr.heap.size,19,none⟩)
        | 1=>v=.slice a.ma s.params.length a.mc
        | 2=>v=.pointer (some ⟨wr.heap.size,20,none⟩)
        | 3=>v=.slice a.la s.locals.length a.lc
        | 6=>v=.pointer (some ⟨wr.heap.size,17,none⟩)
        | 7=>v=.string s.name
        | _=>True):=⟨_,rfl⟩
       obtain ⟨J,hJd⟩:∃J:(Nat→Bool)→(Nat→Value)→World→Prop,J=JO w7.heap.size (s.params.length+s.locals.length) (s.params.map Value.string++s.locals.map Value.string) ((s.params.map Value.string++s.locals.map Value.string)++[.string s.name]) (.slice a.ma s.params.length a.mc) (.slice a.la s.locals.length a.lc) s.name:=⟨_,rfl⟩
       refine Ve (fun b=>w7.heap.size≤b) J Sp [91,92,93,94,95,96,97,98,99,100,13] (by kernel_rfl) (by kernel_rfl) (by kernel_rfl) (fun i v w w' h hk=>by subst hSp;exact h) ?_ ?_ ?_ ?_
       ·intro i o hi lq x wy hI hJ hlf haft
        rw [hJd] at hJ
        have e10:x.eval (.tmp 10)=.pointer (some ⟨wr.heap.size,0,none⟩):=hI.keep 10 _ rfl (by kernel_rfl)
        have hsz:x.tmps.size=221:=hI.size
        have hs1:101<x.tmps.size:=by omega
        have B3:=OU.out.kept hI.kept hNX
        have O3:=O7.out.to hI.kept SX.out (fun _ h=>h)
        have hyz:w7.heap.size≤wy.heap.size:=hI.kept.size
        obtain ⟨c0,c1,c2,c3,c4,c5,c6,c7,c8,c9,c10,c11,c12,c13,c14,c15,c16,c17,c18,c19,c20,c21,dS,c23⟩:=B3.cells
        rcases i with _|_|_|_|_|_|_|_|_|_|_|i
        all_goals (simp only [List.getElem?_toArray,List.getElem?_cons_zero,List.getElem?_cons_succ,List.getElem?_nil,Option.some.injEq,reduceCtorEq] at hi)
        all_goals subst hi
        ·refine aK (v:=.pointer (some ⟨wr.heap.size,19,none⟩)) ?_ (by subst hSp;exact rfl) (fun l' hl=>by rw [hJd];exact hJ.other hl (by decide) (by decide))
         simp only [execOp,resolve,invoke,List.map_toArray,List.map_cons,List.map_nil,e10];go_simp
        ·have d1:x.eval (.tmp 91)=.pointer (some ⟨wr.heap.size,19,none⟩):=by have h_:=hI.dep haft 0 91 rfl rfl rfl;rw [hSp] at h_;exact h_
         refine aK (v:=.slice a.ma s.params.length a.mc) ?_ (by subst hSp;exact rfl) (fun l' hl=>by rw [hJd];exact hJ.other hl (by decide) (by decide))
         simp only [execOp,resolve,invoke,List.map_toArray,List.map_cons,List.map_nil,d1];go_simp
        ·refine aK (v:=.pointer (some ⟨wr.heap.size,20,none⟩)) ?_ (by subst hSp;exact rfl) (fun l' hl=>by rw [hJd];exact hJ.other hl (by decide) (by decide))
         simp only [execOp,resolve,invoke,List.map_toArray,List.map_cons,List.map_nil,e10];go_simp
        ·have d1:x.eval (.tmp 93)=.pointer (some ⟨wr.heap.size,20,none⟩):=by have h_:=hI.dep haft 2 93 rfl rfl rfl;rw [hSp] at h_;exact h_
         refine aK (v:=.slice a.la s.locals.length a.lc) ?_ (by subst hSp;exact rfl) (fun l' hl=>by rw [hJd];exact hJ.other hl (by decide) (by decide))
         simp only [execOp,resolve,invoke,List.map_toArray,List.map_cons,List.map_nil,d1];go_simp
        ·have d1:x.eval (.tmp 92)=.slice a.ma s.params.length a.mc:=by have h_:=hI.dep haft 1 92 rfl rfl rfl;rw [hSp] at h_;exact h_
         have d2:x.eval (.tmp 94)=.slice a.la s.locals.length a.lc:=by have h_:=hI.dep haft 3 94 rfl rfl rfl;rw [hSp] at h_;exact h_
         have n5:=hI.no hlf 5 rfl rfl
         have n9:=hI.no n5 9 rfl rfl
         have n10:=hI.no n9 10 rfl rfl
         refine zx (v:=.slice (some ⟨wy.heap.size,0,none⟩) 2 2) (w':=wy.alloc (.cells #[.slice a.ma s.params.length a.mc,.slice a.la s.locals.length a.lc] 22)) ?_ (by subst hSp;trivial) ((Kept.refl _ _).alloc _) (fun l' hl=>by rw [hJd];exact hJ.aiA n9 n10 hs1 ((Kept.refl _ _).alloc _) ⟨wy.heap.size,rfl,by simp,by simp,by simp⟩ hl)
         simp only [execOp,resolve,invoke,List.map_toArray,List.map_cons,List.map_nil,d1,d2];go_simp
        ·have t4:=Au haft 4 rfl
         have n9:=hI.no hlf 9 rfl rfl
         have n10:=hI.no n9 10 rfl rfl
         obtain ⟨g,hg,hgl,hg0,hg1⟩:=hJ.two n9 t4
         have hg':x.eval (.tmp 95)=.slice (some ⟨g,0,none⟩) 2 2:=hg
         refine zY (f:=76) (args:=#[.slice (some ⟨g,0,none⟩) 2 2]) ?_ ((TG g s.params s.locals a.ma a.la a.mc a.lc S wy hg0 hg1 hgl O3.params O3.locals (S7.out.mono hyz) (by have:=HZ.out.params.1;omega) (by have:=HZ.out.locals.1;omega)).mono ?_)
         ·simp only [execOp,resolve,invoke,List.map_toArray,List.map_cons,List.map_nil,hg'];go_simp
         ·rintro e w' ⟨v,rfl,hch,hk⟩
          exact ⟨v,rfl,by subst hSp;trivial,hk.more (fun _ h=>h.elim),fun l' hl=>by rw [hJd];exact hJ.Di n9 n10 hs1 hk hch hl⟩
        ·refine aK (v:=.pointer (some ⟨wr.heap.size,17,none⟩)) ?_ (by subst hSp;exact rfl) (fun l' hl=>by rw [hJd];exact hJ.other hl (by decide) (by decide))
         simp only [execOp,resolve,invoke,List.map_toArray,List.map_cons,List.map_nil,e10];go_simp
        ·have d1:x.eval (.tmp 97)=.pointer (some ⟨wr.heap.size,17,none⟩):=by have h_:=hI.dep haft 6 97 rfl rfl rfl;rw [hSp] at h_;exact h_
         refine aK (v:=.string s.name) ?_ (by subst hSp;exact rfl) (fun l' hl=>by rw [hJd];exact hJ.other hl (by decide) (by decide))
         simp only [execOp,resolve,invoke,List.map_toArray,List.map_cons,List.map_nil,d1];go_simp
        ·have d1:x.eval (.tmp 98)=.string s.name:=by have h_:=hI.dep haft 7 98 rfl rfl rfl;rw [hSp] at h_;exact h_
         have n9:=hI.no hlf 9 rfl rfl
         have n10:=hI.no n9 10 rfl rfl
         refine zx (v:=.slice (some ⟨wy.heap.size,0,none⟩) 1 1) (w':=wy.alloc (.cells #[.string s.name] 9)) ?_ (by subst hSp;trivial) ((Kept.refl _ _).alloc _) (fun l' hl=>by rw [hJd];exact hJ.aiB n9 n10 hs1 ((Kept.refl _ _).alloc _) ⟨wy.heap.size,rfl,by simp,ay wy _⟩ hl)
         simp only [execOp,resolve,invoke,List.map_toArray,List.map_cons,List.map_nil,d1];go_simp
        ·have t5:=Au haft 5 rfl
         have t8:=Au haft 8 rfl
         have n10:=hI.no hlf 10 rfl rfl
         obtain ⟨g,hg,hgl,hgb⟩:=hJ.one hlf t8
         have hg':x.eval (.tmp 99)=.slice (some ⟨g,0,none⟩) 1 1:=hg
         refine adA (n:=s.params.length+s.locals.length) (xs:=s.params.map Value.string++s.locals.map Value.string) _ _ rfl rfl (hJ.ch hlf t5) (.slice (some ⟨g,0,none⟩) 1 1) 1 [.string s.name] hg' (adB hgb) (by have:=HZ.out.params.1;have:=HZ.out.locals.1;omega) hJ.base (fun _ h=>h) (fun _ _=>by subst hSp;trivial) ?_
         intro v' w' hC hgr hoo l' hl
         rw [hJd]
         exact hJ.aiC hlf n10 hs1 hgr.size hC hl
        ·have t9:=Au haft 9 rfl
         obtain ⟨aa,cc,hv,_⟩:=hJ.fin t9
         have hv2:x.eval (.tmp 100)=.slice aa (s.params.length+s.locals.length+1) cc:=hv
         refine aK (v:=.slice aa (s.params.length+s.locals.length+1) cc) ?_ (by subst hSp;trivial) (fun l' hl=>by rw [hJd];exact hJ.agX hs1 hv.symm hl)
         simp only [execOp,resolve,invoke,List.map_toArray,List.map_cons,List.map_nil,hv2];go_simp
       ·intro lq hl
        rw [hJd]
        exact JO.start (w:=w7.drew) (show w7.heap.size≤w7.drew.heap.size from Nat.le_refl _) hl
       ·intro lq l' f wx hl h
        rw [hJd] at h⊢
        exact h.eqv hl
       ·intro f wy hK hS hJ
        rw [hJd] at hJ
        have hch:Ch wy w7.heap.size (own s).length ((own s).map Value.string) (f 13):=by rw [Jq,adu,hJ.set rfl];exact hJ.fin rfl
        have HC:=ah hch
        have K8:Hid (Kept aA w7 wy):=(Kept.refl aA w7).step hK (fun y hy=>.inr hy)
        clear hch hJ hS hK hJd hSp SX S7 O7 hNX
        simp only [gQ,List.foldl_cons,List.foldl_nil,List.setIfInBounds_toArray,List.set_cons_zero,List.set_cons_succ]
        go_wp2_with fail
        go_meet
        exact ⟨HC.out,K8.out⟩
      case rest =>
       obtain ⟨w8,hw8⟩:∃x,x=wc:=⟨_,rfl⟩
       rw [←hw8] at hcut⊢
       clear hw8
       obtain ⟨hch,hK8⟩:=hcut
       obtain ⟨oa,oc,rfl,hoc,hos⟩:=hch.strs
       have N8:=ah (N7.out.kept hK8 (fun h=>h));have P8:=ah (P7.out.kept hK8 (fun h=>h));have Q8:=ah (Q7.out.kept hK8 (fun h=>h));have T8:=ah (T7.out.kept hK8 (fun h=>h));have OV:=ah (OU.out.kept hK8 (fun h=>h))
       have K8:Hid (Kept (G7 (w.heap.size+1) B1 B2) w2 w8):=K7.out.quiet hK8
       have hob:0<(own s).length:=by rw [Jq];omega
       obtain ⟨ob,oo,rfl,hoB,abk⟩:=hos hob
       clear hch hos x0 x1 c0 c1 c17 hK8 O7 S7 SX hNX N7 P7 Q7 T7 K7
       obtain ⟨x0,x1⟩:=T8.out.cells
       obtain ⟨c0,c1,_,_,_,_,_,_,_,_,_,_,_,_,_,_,_,c17,_⟩:=OV.out.cells
       have hnl:s.name.size≤maxLen:=by have:=HZ.out.name;unfold maxLen;omega
       have hlook:∀i,(Instr.lookup 114 (.map (some B2)) (.string s.name) true).run Tryz.prog (w8.drewN i)=.ok (.tuple #[.int .i64 ((fJ l j s.name).getD 0),.bool (fJ l j s.name).isSome]) (w8.drewN i):=fun i=>(Q8.out.drewN i).look_ok s.name hnl
       go_upto_region 24 with fail
       go_quiet (fail)
       clear hlook
       obtain ⟨w9,Yu⟩:∃x,x=w8.drewN nq:=⟨_,rfl⟩
       have SH:Hid (Kept aA w8 w9):=by rw [Yu];exact (Kept.refl aA w8).drewN nq
       have Dn:Hid (∀j,j<(own s).length→w9.cell? ⟨ob,oo+j,none⟩=some (.string ((own s).getD j ByteArray.empty))):=fun x hx=>by rw [Yu,List.getD_eq_getElem?_getD,List.getElem?_eq_getElem hx];exact abk x hx
       have SI:Hid (aX w9 (fun b=>w7.heap.size≤b) (some ⟨ob,oo,none⟩) (own s)):=fun _=>⟨ob,oo,rfl,hoB,fun x hx=>by rw [Yu];exact abk x hx⟩
       rw [←Yu]
       clear Yu x0 x1 c0 c1 c17 abk
       have N9:=ah (N8.out.kept SH.out (fun h=>h));have P9:=ah (P8.out.kept SH.out (fun h=>h));have Q9:=ah (Q8.out.kept SH.out (fun h=>h));have T9:=ah (T8.out.kept SH.out (fun h=>h));have HB9:=ah (OV.out.kept SH.out (fun h=>h))
       have K9:Hid (Kept (G7 (w.heap.size+1) B1 B2) w2 w9):=K8.out.quiet SH.out
       have hol:(own s).length≤4000000000:=by rw [Jq];have:=HZ.out.params.1;have:=HZ.out.locals.1;omega
       clear N8 P8 Q8 T8 OV K8
       obtain ⟨x0,x1⟩:=T9.out.cells
       obtain ⟨c0,c1,_,_,_,_,_,_,_,_,_,_,_,_,_,_,_,c17,_⟩:=HB9.out.cells
       go_upto_region 25 with fail
       go_cut [15,129] (fun _ c wx=>∃bb:Bool,c=.bool bb∧(bb=true↔sZ (fJ l j) s)∧w9=wx)
       case first =>
        cases hso:(fJ l j s.name).isSome with
        | true =>
         have fin:Hid (sZ (fJ l j) s):=⟨Yt.out,.inl hso⟩
         go_wp2_with fail
         go_meet
         exact ⟨true,rfl,⟨fun _=>fin.out,fun _=>rfl⟩,rfl⟩
        | false =>
         by_cases hbn:0≤aI s.name
         ·have fin:Hid (sZ (fJ l j) s):=⟨Yt.out,.inr (.inl hbn)⟩
          have e4:decide (0≤aI s.name)=true:=ak hbn
          clear hbn
          go_wp2_with (first
          | (go_at_call 77;refine (lF s.name w9).mono ?_;rintro e w' ⟨rfl,aH⟩;obtain rfl:=aH.symm)
          | (go_at_call 78;refine (vF (own s) (some ⟨ob,oo,none⟩) oc (fun b=>w7.heap.size≤b) w9 SI.out hoc hol).mono ?_;rintro e w' ⟨tb,rfl,htb,aH⟩;obtain rfl:=aH.symm;obtain rfl:tb=false:=htb.2 OW.out;clear htb)
          | (go_at_call 79;refine (Tryz.slices_Contains_string ob oo (own s).length oc (own s) Ez w9 (Nat.le_refl _) (by omega) Dn.out).mono ?_;rintro e w' ⟨rfl,aH⟩;obtain rfl:=aH.symm;rw [HI.out])
          | (go_at_call 79;refine (Tryz.slices_Contains_string ob oo (own s).length oc (own s) yY w9 (Nat.le_refl _) (by omega) Dn.out).mono ?_;rintro e w' ⟨rfl,aH⟩;obtain rfl:=aH.symm;rw [HU.out]))
          go_meet
          exact ⟨true,rfl,⟨fun _=>fin.out,fun _=>rfl⟩,rfl⟩
         have e4:decide (0≤aI s.name)=false:=au hbn
         have KH:=ah hbn
         clear hbn
         by_cases htw:wK (own s)
         rotate_left
         ·have fin:Hid (sZ (fJ l j) s):=⟨Yt.out,.inr (.inr (.inl htw))⟩
          have OW:=ah htw
          clear htw
          go_wp2_with (first
          | (go_at_call 77;refine (lF s.name w9).mono ?_;rintro e w' ⟨rfl,aH⟩;obtain rfl:=aH.symm)
          | (go_at_call 78;refine (vF (own s) (some ⟨ob,oo,none⟩) oc (fun b=>w7.heap.size≤b) w9 SI.out hoc hol).mono ?_;rintro e w' ⟨tb,rfl,htb,aH⟩;obtain rfl:=aH.symm;obtain rfl:tb=true:=(by cases tb;exact absurd (htb.1 rfl) OW.out;rfl);clear htb)
          | (go_at_call 79;refine (Tryz.slices_Contains_string ob oo (own s).length oc (own s) Ez w9 (Nat.le_refl _) (by omega) Dn.out).mono ?_;rintro e w' ⟨rfl,aH⟩;obtain rfl:=aH.symm;rw [HI.out])
          | (go_at_call 79;refine (Tryz.slices_Contains_string ob oo (own s).length oc (own s) yY w9 (Nat.le_refl _) (by omega) Dn.out).mono ?_;rintro e w' ⟨rfl,aH⟩;obtain rfl:=aH.symm;rw [HU.out]))
          go_meet
          exact ⟨true,rfl,⟨fun _=>fin.out,fun _=>rfl⟩,rfl⟩
         have OW:=ah htw
         clear htw
         by_cases hin:Ez∈own s
         ·have fin:Hid (sZ (fJ l j) s):=⟨Yt.out,.inr (.inr (.inr (.inl hin)))⟩
          have HI:=ah ((Jp (own s) Ez).2 hin)
          clear hin
          go_wp2_with (first
          | (go_at_call 77;refine (lF s.name w9).mono ?_;rintro e w' ⟨rfl,aH⟩;obtain rfl:=aH.symm)
          | (go_at_call 78;refine (vF (own s) (some ⟨ob,oo,none⟩) oc (fun b=>w7.heap.size≤b) w9 SI.out hoc hol).mono ?_;rintro e w' ⟨tb,rfl,htb,aH⟩;obtain rfl:=aH.symm;obtain rfl:tb=false:=htb.2 OW.out;clear htb)
          | (go_at_call 79;refine (Tryz.slices_Contains_string ob oo (own s).length oc (own s) Ez w9 (Nat.le_refl _) (by omega) Dn.out).mono ?_;rintro e w' ⟨rfl,aH⟩;obtain rfl:=aH.symm;rw [HI.out])
          | (go_at_call 79;refine (Tryz.slices_Contains_string ob oo (own s).length oc (own s) yY w9 (Nat.le_refl _) (by omega) Dn.out).mono ?_;rintro e w' ⟨rfl,aH⟩;obtain rfl:=aH.symm;rw [HU.out]))
          go_meet
          exact ⟨true,rfl,⟨fun _=>fin.out,fun _=>rfl⟩,rfl⟩
         have HI:=ah (Yl hin)
         by_cases hou:yY∈own s
         ·have fin:Hid (sZ (fJ l j) s):=⟨Yt.out,.inr (.inr (.inr (.inr hou)))⟩
          have HU:=ah ((Jp (own s) yY).2 hou)
          clear hin hou
          go_wp2_with (first
          | (go_at_call 77;refine (lF s.name w9).mono ?_;rintro e w' ⟨rfl,aH⟩;obtain rfl:=aH.symm)
          | (go_at_call 78;refine (vF (own s) (some ⟨ob,oo,none⟩) oc (fun b=>w7.heap.size≤b) w9 SI.out hoc hol).mono ?_;rintro e w' ⟨tb,rfl,htb,aH⟩;obtain rfl:=aH.symm;obtain rfl:tb=false:=htb.2 OW.out;clear htb)
          | (go_at_call 79;refine (Tryz.slices_Contains_string ob oo (own s).length oc (own s) Ez w9 (Nat.le_refl _) (by omega) Dn.out).mono ?_;rintro e w' ⟨rfl,aH⟩;obtain rfl:=aH.symm;rw [HI.out])
          | (go_at_call 79;refine (Tryz.slices_Contains_string ob oo (own s).length oc (own s) yY w9 (Nat.le_refl _) (by omega) Dn.out).mono ?_;rintro e w' ⟨rfl,aH⟩;obtain rfl:=aH.symm;rw [HU.out]))
          go_meet
          exact ⟨true,rfl,⟨fun _=>fin.out,fun _=>rfl⟩,rfl⟩
         have HU:=ah (Yl hou)
         have fin:Hid (¬sZ (fJ l j) s):=fun h=>by
          rcases h.2 with h1|h1|h1|h1|h1
          ·rw [hso] at h1;cases h1
          ·exact KH.out h1
          ·exact h1 OW.out
          ·exact hin h1
          ·exact hou h1
         clear hin hou
         go_wp2_with (first
          | (go_at_call 77;refine (lF s.name w9).mono ?_;rintro e w' ⟨rfl,aH⟩;obtain rfl:=aH.symm)
          | (go_at_call 78;refine (vF (own s) (some ⟨ob,oo,none⟩) oc (fun b=>w7.heap.size≤b) w9 SI.out hoc hol).mono ?_;rintro e w' ⟨tb,rfl,htb,aH⟩;obtain rfl:=aH.symm;obtain rfl:tb=false:=htb.2 OW.out;clear htb)
          | (go_at_call 79;refine (Tryz.slices_Contains_string ob oo (own s).length oc (own s) Ez w9 (Nat.le_refl _) (by omega) Dn.out).mono ?_;rintro e w' ⟨rfl,aH⟩;obtain rfl:=aH.symm;rw [HI.out])
          | (go_at_call 79;refine (Tryz.slices_Contains_string ob oo (own s).length oc (own s) yY w9 (Nat.le_refl _) (by omega) Dn.out).mono ?_;rintro e w' ⟨rfl,aH⟩;obtain rfl:=aH.symm;rw [HU.out]))
         go_meet
         exact ⟨false,rfl,⟨fun h=>(by cases h),fun h=>absurd h fin.out⟩,rfl⟩
       case rest =>
        obtain ⟨bb,rfl,hbb,rfl⟩:=hcut
        go_upto_if 129 with fail
        go_cut [129] (fun c wx=>Fs (w.heap.size+1) (nR l (j+1)) wx∧Kept (· = w.heap.size+1) w9 wx)
        case first =>
         have hst:Hid (nR l (j+1)=ng (sZ (fJ l j) s) j (ng (badL (eP l j) s) j (nR l j))):=by have:=Jr l j hlt;rw [←EH.out] at this;exact this
         cases bb with
         | true =>
          have fin:Hid (nR l (j+1)=vI (ng (badL (eP l j) s) j (nR l j)) (7,j)):=hst.out.trans (Az (hbb.1 rfl) _ _)
          clear hbb
          go_wp2_with (go_at_call 73;(with_reducible refine (pV (w.heap.size+1) (ng (badL (eP l j) s) j (nR l j)) 7 j w9 N9.out).mono ?_);rintro e w10 ⟨rfl,Yr,vC⟩;have FS5:=ah Yr;have K10:=ah vC;clear Yr vC)
          go_meet
          exact ⟨by rw [fin.out];exact FS5.out,K10.out⟩
         | false =>
          have fin:Hid (nR l (j+1)=ng (badL (eP l j) s) j (nR l j)):=hst.out.trans (uK (fun h=>by have:=hbb.2 h;cases this) _ _)
          clear hbb
          go_wp2_with fail
          go_meet
          exact ⟨by rw [fin.out];exact N9.out,Kept.refl _ _⟩
        case rest =>
         obtain ⟨w10,ae7⟩:∃x,x=wc:=⟨_,rfl⟩
         rw [←ae7] at hcut⊢
         obtain ⟨ae8,hK10⟩:=hcut
         clear ae7 hbb
         have N10:=ah ae8
         have aiD:¬wr.heap.size=w.heap.size+1:=by have:=FRN.out;omega
         have P10:=ah (P9.out.kept hK10 (fun h=>jX.out.2.2.2.1 h));have Q10:=ah (Q9.out.kept hK10 (fun h=>jX.out.2.2.2.2.1 h));have T10:=ah (T9.out.kept hK10 (fun h=>jX.out.1 h));have aiE:=ah (HB9.out.kept hK10 aiD)
         have K10:Hid (Kept (G7 (w.heap.size+1) B1 B2) w2 w10):=K9.out.step hK10 (fun y hy=>.inl (.inl hy))
         clear ae8 hK10 x0 x1 c0 c1 c17 N9 P9 Q9 T9 HB9 K9 Dn SI
         obtain ⟨x0,x1⟩:=T10.out.cells
         obtain ⟨c0,c1,_,_,_,_,_,_,_,_,_,_,_,_,_,_,_,c17,_⟩:=aiE.out.cells
         obtain ⟨w11,hput,afa,OX⟩:=Q10.out.drewN 1 |>.put (by unfold maxLen;omega) s.name hnl (j:Int) (WalkArith.wf_i64 (by omega))
         rw [show w10.drewN 1=w10.drew from rfl] at hput OX
         have M11:=ah afa
         have K11:Hid (Kept (G7 (w.heap.size+1) B1 B2) w2 w11):=K10.out.drew.step OX (fun y hy=>.inl (.inr (.inr hy)))
         have N11:=ah ((N10.out.kept (Kept.refl aA _).drew (fun h=>h)).kept OX (fun h=>jX.out.2.2.2.2.1 (Eq.symm h)))
         have P11:=ah ((P10.out.kept (Kept.refl aA _).drew (fun h=>h)).kept OX (fun h=>jX.out.2.2.2.2.2 (Eq.symm h)))
         clear afa OX
         go_upto_region 27 with fail
         go_region
         go_wp2_with fail
         go_roundw
         case rel=>exact ⟨j+1,by omega,by go_num,N11.out,⟨n3,hn3,P11.out⟩,⟨n2+1,by omega,by rw [fin2.out];exact M11.out⟩,K11.out⟩
         case measure=>simp [intOf];omega
    ·obtain rfl:j=l.length:=by omega
     obtain ⟨wv,hwv⟩:∃x,x=wr:=⟨_,rfl⟩
     have hX:Hid (wr=wv):=hwv.symm
     rw [←hwv]
     have KV:Hid (Kept (G7 (w.heap.size+1) B1 B2) w2 wv):=by rw [hwv];exact KW.out
     have FV:Hid (Fs (w.heap.size+1) (nR l l.length) wv):=by rw [hwv];exact G8
     have MV1:Hid (eG wv B1 n1 (eP l l.length)):=by rw [hwv];exact hM1
     have MV2:Hid (eG wv B2 n2 (fJ l l.length)):=by rw [hwv];exact hM2
     have TV:Hid (qj wv T B1 B2):=T2.out.kept KV.out (fun h=>by rcases h with h|h|h;exact jX.out.1 h;exact jX.out.2.1 h;exact jX.out.2.2.1 h)
     have LV:Hid (mW wv S al l):=L2.out.to KV.out S2.out (fun _ h=>h)
     have SV:Hid (Safe S (· = w.heap.size+1) wv.heap.size):=fun b hb=>⟨Nat.lt_of_lt_of_le (S2.out b hb).1 KV.out.size,fun h=>(S2.out b hb).2 (.inl h)⟩
     have JW:Hid (∀s d,fJ l l.length s=some d→∃k:Nat,d=k∧k<l.length):=fun s d h=>adx l l.length s d h
     clear hwv hX hlt hj G8 hM1 hM2 hkw KW hn1 hn2 M1 M2 T2 N2 L2
     obtain ⟨m1,hm1⟩:∃m,m=eP l l.length:=⟨_,rfl⟩
     obtain ⟨m2,hm2⟩:∃m,m=fJ l l.length:=⟨_,rfl⟩
     obtain ⟨r0,hr0⟩:∃r,r=nR l l.length:=⟨_,rfl⟩
     rw [←hm1] at MV1;rw [←hm2] at MV2 JW;rw [←hr0] at FV
     have HM1:=ah hm1;have bC:=ah hm2;have HR0:=ah hr0
     clear hm1 hm2 hr0
     go_wp2_with fail
     go_loopw [142] (fun i wr=>∃j:Nat,j≤l.length∧i=.int .i64 j∧Fs (w.heap.size+1) (uR m1 m2 l r0 j) wr∧Kept (· = w.heap.size+1) wv wr) (fun i _=>l.length-(intOf i).toNat)
     case atStart=>exact ⟨0,Nat.zero_le _,rfl,FV.out,Kept.refl _ _⟩
     case round =>
      obtain ⟨j,hj,rfl,G8,hkw⟩:=hrel
      have KW:=ah hkw
      by_cases hlt:j<l.length
      ·have ED:=LV.out.to hkw SV.out (fun _ h=>h)
       have HLQ:=ah ED
       obtain ⟨b,o,rfl,hc⟩:=ED (by omega)
       obtain ⟨a,_,hz,hcc,ho⟩:=hc j hlt
       have HZ:=ah hz;have HO:=ah ho
       have SW:=ah (SV.out.mono hkw.size)
       have FR:=ah G8
       clear hc hkw hz ho ED G8
       go_upto_region 31 with fail
       go_upto_region 32 with (first
        | (refine jS rfl _ rfl b (o+j*24) rfl a l[j] hcc ?_)
        | (refine (iC rfl _ _ rfl wr.heap.size rfl a l[j] rfl _ (ay wr _) rfl ?_);intro w3 hB2 hk2;have EG:Hid (Kept aA wr w3):=((Kept.refl aA wr).alloc _).step hk2 (fun y hy=>.inr (by subst hy;exact Nat.le_refl _));have HB3:=ah hB2;clear hB2 hk2))
       obtain ⟨s,hs⟩:∃s,s=l[j]:=⟨_,rfl⟩
       have EH:=ah hs
       rw [←hs] at HB3 HZ HO
       clear hs hcc
       try dsimp only [Act.put]
       obtain ⟨c0,c1,_,_,_,_,_,_,_,_,_,_,_,_,_,_,_,c17,c18,_,_,c21,dS,c23⟩:=HB3.out.cells
       have HO3:Hid (vJ w3 S a s):=HO.out.to EG.out (fun b hb=>⟨(SW.out b hb).1,fun h=>h⟩) (fun _ h=>h)
       clear HO
       obtain ⟨g,hg⟩:∃g,g=wr.heap.size:=⟨_,rfl⟩
       have HGN:Hid (g≠w.heap.size+1∧¬S g):=by rw [hg];exact ⟨by have:=FR.out.lt;omega,fun h=>by have:=(SW.out g (by rw [hg];exact h)).1;omega⟩
       rw [←hg] at HB3 c0 c1 c17 c18 c21 dS c23⊢
       have N3:=ah (FR.out.kept EG.out (fun h=>h))
       have K3:Hid (Kept (· = w.heap.size+1) wv w3):=KW.out.quiet EG.out
       clear hg FR
       obtain ⟨w4,hw4⟩:∃x,x=w3.alloc (.cells #[.string s.always,.string s.yes,.string s.bU] 9):=⟨_,rfl⟩
       have Dp:Hid (Kept aA w3 w4):=by rw [hw4];exact (Kept.refl aA w3).alloc _
       have R4:Hid (∀k (h:k<3),w4.cell? ⟨w3.heap.size,0+k,none⟩=some (.string ((zJ s)[k]'h))):=by
        rw [hw4];intro k h
        rcases (show k=0∨k=1∨k=2 by omega) with rfl|rfl|rfl<;>simp [zJ]
       have vX:=ah hw4
       have HQ3:Hid (w3.heap.size≠w.heap.size+1∧w3.heap.size<w4.heap.size):=by rw [hw4];exact ⟨by have:=N3.out.lt;omega,by simp⟩
       clear hw4
       go_wp2_with fail
       rw [←vX.out]
       clear vX c0 c1 c17 c18 c21 dS c23
       have K4:Hid (Kept (· = w.heap.size+1) wv w4):=K3.out.quiet Dp.out
       have N4:=ah (N3.out.kept Dp.out (fun h=>h))
       have afd:∀k (h:k<3),((zJ s)[k]'h).size≤maxLen:=by
        intro k h
        have:=HZ.out.always;have:=HZ.out.yes;have:=HZ.out.bU
        rcases (show k=0∨k=1∨k=2 by omega) with rfl|rfl|rfl<;>(simp [zJ];unfold maxLen;omega)
       have HGS:=ah afd
       clear afd
       go_loopw [155] (fun i wr=>∃(k:Nat) (r2:Int×Int),k≤3∧i=.int .i64 k∧Hid (BD m1 j (zJ s) (uR m1 m2 l r0 j)=BD m1 j ((zJ s).drop k) r2)∧Fs (w.heap.size+1) r2 wr∧Kept (· = w.heap.size+1) w4 wr) (fun i _=>3-(intOf i).toNat)
       case atStart=>exact ⟨0,_,by omega,rfl,by unfold Hid;rw [List.drop_zero],N4.out,Kept.refl _ _⟩
       case round =>
        obtain ⟨k,r2,hk,rfl,hno,hf2,OY⟩:=hrel
        have F2:=ah hf2;have KX:=ah OY
        by_cases hlt2:k<3
        ·have x3:wr.cell? ⟨w3.heap.size,0+k,none⟩=some (.string ((zJ s)[k]'hlt2)):=(OY.cell HQ3.out.2 HQ3.out.1).trans (R4.out k hlt2)
         rw [Nat.zero_add] at x3
         have step:=ah (hno.out.trans (abb m1 j (zJ s) k hlt2 r2))
         have KVX:=ah (K4.out.trans OY)
         have M5:=ah (MV1.out.kept KVX.out (fun h=>jX.out.2.2.2.1 h));have T5:=ah (TV.out.kept KVX.out (fun h=>jX.out.1 h))
         obtain ⟨x0,x1⟩:=T5.out.cells
         have hnl:=HGS.out k hlt2
         generalize (zJ s)[k]'hlt2=nm at *
         have hlook:=M5.out.look_ok nm hnl
         clear hf2 OY hno
         by_cases h0:nm.size=0
         ·have e3:nm.toList.isEmpty=true:=pI.2 h0
          rw [if_neg (fun h=>h.1 h0),show jr r2 0 j=r2 from if_pos rfl] at step
          clear h0
          go_wp2_with fail
          go_roundw
          case rel=>exact ⟨k+1,_,by omega,by go_num,step,F2.out,KX.out⟩
          case measure=>simp [intOf];omega
         have e3:nm.toList.isEmpty=false:=jD.2 (by omega)
         cases hso:(m1 nm).isSome with
         | true =>
          rw [if_neg (fun h=>by have:=h.2.1;rw [hso] at this;cases this),show jr r2 0 j=r2 from if_pos rfl] at step
          rw [hso] at hlook
          clear h0 hso
          go_wp2_with fail
          go_roundw
          case rel=>exact ⟨k+1,_,by omega,by go_num,step,F2.out,KX.out⟩
          case measure=>simp [intOf];omega
         | false =>
          cases hkp:qN nm with
          | true =>
           have HK:=ah hkp
           rw [if_neg (fun h=>by have:=h.2.2;rw [hkp] at this;cases this),show jr r2 0 j=r2 from if_pos rfl] at step
           rw [hso] at hlook
           clear h0 hso hkp
           go_wp2_with (go_at_call 75;(with_reducible refine (E9 nm _).mono ?_);rintro e w' ⟨rfl,aH⟩;obtain rfl:=aH.symm;rw [HK.out])
           go_roundw
           case rel=>exact ⟨k+1,_,by omega,by go_num,step,F2.out,KX.out⟩
           case measure=>simp [intOf];omega
          | false =>
           have HK:=ah hkp
           rw [if_pos ⟨h0,hso,hkp⟩,show jr r2 6 j=vI r2 (6,j) from if_neg (by decide)] at step
           rw [hso] at hlook
           clear h0 hso hkp
           go_wp2_with (first
            | (go_at_call 75;(with_reducible refine (E9 nm _).mono ?_);rintro e w' ⟨rfl,aH⟩;obtain rfl:=aH.symm;rw [HK.out])
            | (go_at_call 73;(with_reducible refine (pV (w.heap.size+1) r2 6 j wr F2.out).mono ?_);rintro e w6 ⟨rfl,Yv,mg⟩;have F6:=ah Yv;have K6:=ah (KX.out.trans mg);clear Yv mg))
           go_roundw
           case rel=>exact ⟨k+1,_,by omega,by go_num,step,F6.out,K6.out⟩
           case measure=>simp [intOf];omega
        ·obtain rfl:k=3:=by omega
         have hr2:Hid (BD m1 j (zJ s) (uR m1 m2 l r0 j)=r2):=by unfold Hid;rw [hno.out];exact rfl
         obtain ⟨w5,hw5⟩:∃x,x=wr:=⟨_,rfl⟩
         rw [←hw5] at F2 KX⊢
         have K5:Hid (Kept (· = w.heap.size+1) wv w5):=K4.out.trans KX.out
         have zK:Hid (Kept (· = w.heap.size+1) w3 w5):=(Dp.out.more (fun _ h=>h.elim)).trans KX.out
         have JV:=ah (HB3.out.kept zK.out HGN.out.1)
         have M5:=ah (MV1.out.kept K5.out (fun h=>jX.out.2.2.2.1 h));have T5:=ah (TV.out.kept K5.out (fun h=>jX.out.1 h))
         clear hw5 hlt2 hk hno hf2 OY
         obtain ⟨x0,x1⟩:=T5.out.cells
         obtain ⟨c0,c1,_,_,_,_,_,_,_,_,_,_,_,_,_,_,_,c17,c18,_⟩:=JV.out.cells
         go_upto_if 184 with fail
         go_cut [184] (fun c wx=>Fs (w.heap.size+1) (jr r2 (AA m1 s) j) wx∧Kept (· = w.heap.size+1) w5 wx)
         case first =>
          by_cases vW:s.kind=7
          rotate_left
          ·have e3:(s.kind==7)=false:=by simpa using vW
           have fin:Hid (jr r2 (AA m1 s) j=r2):=if_pos (if_neg (fun h=>vW h.1))
           clear vW
           rw [e3]
           go_wp2_with fail
           go_meet
           exact ⟨by rw [fin.out];exact F2.out,Kept.refl _ _⟩
          have e3:(s.kind==7)=true:=by simpa using vW
          have hel:s.entry.size≤maxLen:=by have:=HZ.out.entry;unfold maxLen;omega
          cases hso:(m1 s.entry).isSome with
          | true =>
           have fin:Hid (jr r2 (AA m1 s) j=r2):=if_pos (if_neg (fun h=>by have:=h.2;rw [hso] at this;cases this))
           have hlook:∀i,(Instr.lookup 114 (.map (some B1)) (.string s.entry) true).run Tryz.prog (w5.drewN i)=.ok (.tuple #[.int .i64 ((m1 s.entry).getD 0),.bool true]) (w5.drewN i):=fun i=>by have h_:=(M5.out.drewN i).look_ok s.entry hel;rw [hso] at h_;exact h_
           clear hso vW
           rw [e3]
           go_wp2_with fail
           go_quiet (fail)
           go_wp2_with fail
           go_meet
           exact ⟨by rw [fin.out];exact F2.out.kept ((Kept.refl aA _).drewN _) (fun h=>h),(Kept.refl _ _).drewN _⟩
          | false =>
           have fin:Hid (jr r2 (AA m1 s) j=vI r2 (6,j)):=by
            unfold Hid;rw [show AA m1 s=6 from if_pos ⟨vW,hso⟩];exact if_neg (by decide)
           have hlook:∀i,(Instr.lookup 114 (.map (some B1)) (.string s.entry) true).run Tryz.prog (w5.drewN i)=.ok (.tuple #[.int .i64 ((m1 s.entry).getD 0),.bool false]) (w5.drewN i):=fun i=>by have h_:=(M5.out.drewN i).look_ok s.entry hel;rw [hso] at h_;exact h_
           clear hso vW
           rw [e3]
           go_wp2_with fail
           go_quiet (fail)
           go_wp2_with (go_at_call 73;(refine (pV (w.heap.size+1) r2 6 j _ (F2.out.kept ((Kept.refl aA _).drewN _) (fun h=>h))).mono ?_);rintro e w6 ⟨rfl,Yv,mg⟩;have F6:=ah Yv;have K6:=ah (((Kept.refl (· = w.heap.size+1) w5).drewN _).trans mg);clear Yv mg)
           go_meet
           exact ⟨by rw [fin.out];exact F6.out,K6.out⟩
         case rest =>
          obtain ⟨w6,hw6⟩:∃x,x=wc:=⟨_,rfl⟩
          rw [←hw6] at hcut⊢
          obtain ⟨hF6,hK6⟩:=hcut
          clear hw6 x0 x1 c0 c1 c17 c18
          have F6:=ah hF6
          have K6:Hid (Kept (· = w.heap.size+1) wv w6):=K5.out.trans hK6
          have K36:Hid (Kept (· = w.heap.size+1) w3 w6):=zK.out.trans hK6
          have HB6:=ah (JV.out.kept hK6 HGN.out.1)
          clear hF6 hK6 JV M5 T5
          have c1:=HB6.out.cells.2.1
          have ak5:(iW s).length≤2:=by unfold iW;split;exact (by decide:1≤2);split;exact (by decide:2≤2);exact (by decide:0≤2)
          go_wp2_with (go_at_call 80;(refine (Yw s.kind g 0 w6 c1).mono ?_);rintro e w7 ⟨pa,rfl,hpr,k7_⟩;rw [yC s];have PR:=ah hpr;have K67:=ah k7_;clear hpr k7_)
          have K7:Hid (Kept (· = w.heap.size+1) wv w7):=K6.out.quiet K67.out
          have F7:=ah (F6.out.kept K67.out (fun h=>h))
          go_loopw [201] (fun i wr=>∃(k:Nat) (r3:Int×Int),k≤(iW s).length∧i=.int .i64 k∧Hid (ji m2 l j (iW s) (jr r2 (AA m1 s) j)=ji m2 l j ((iW s).drop k) r3)∧Fs (w.heap.size+1) r3 wr∧Kept (· = w.heap.size+1) w7 wr) (fun i _=>(iW s).length-(intOf i).toNat)
          case atStart=>exact ⟨0,_,by omega,rfl,by unfold Hid;rw [List.drop_zero],F7.out,Kept.refl _ _⟩
          case round =>
           obtain ⟨k,r3,hk,rfl,hno,hf3,FT⟩:=hrel
           by_cases hlt2:k<(iW s).length
           ·have step:=ah (hno.out.trans (Ei m2 l j (iW s) k hlt2 r3))
            obtain ⟨pg,rfl,hpB,aiF,hpc⟩:=PR.out (by rw [yC];omega)
            have hkp:k<(jH s.kind).length:=by rw [yC];exact hlt2
            have x4:wr.cell? ⟨pg,k,none⟩=some (.pointer (some ⟨g,0+(jH s.kind)[k],none⟩)):=(FT.cell aiF (fun h=>by have:=F6.out.lt;omega)).trans (hpc k hkp)
            rw [Nat.zero_add] at x4
            have K8:Hid (Kept (· = w.heap.size+1) wv wr):=K7.out.trans FT
            have K38:Hid (Kept (· = w.heap.size+1) w3 wr):=(K36.out.quiet K67.out).trans FT
            have F8:=ah hf3;have KX:=ah FT
            have OV:=HB3.out.kept K38.out HGN.out.1
            have hs3:Safe S (· = w.heap.size+1) w3.heap.size:=fun b hb=>⟨by have:=(S0.out b hb).1;have:=N3.out.lt;omega,(SW.out b hb).2⟩
            have PA:Hid (aU wr (fun b=>S b∨b=g) g ((jH s.kind)[k]) (iW s)[k]):=aa7 OV HZ.out (HO3.out.to K38.out hs3 (fun _ h=>.inl h)) (.inr rfl) k hlt2
            have L8:Hid (mW wr (fun b=>S b∨b=g) (some ⟨b,o,none⟩) l):=LV.out.to K8.out SV.out (fun _ h=>.inl h)
            have S8:Hid (Safe (fun b=>S b∨b=g) (· = w.heap.size+1) wr.heap.size):=fun b hb=>by
             rcases hb with hb|rfl
             ·exact ⟨Nat.lt_of_lt_of_le (SV.out b hb).1 K8.out.size,(SV.out b hb).2⟩
             ·exact ⟨OV.lt,HGN.out.1⟩
            have T8:=ah (TV.out.kept K8.out (fun h=>jX.out.1 h));have M8:=ah (MV2.out.kept K8.out (fun h=>jX.out.2.2.2.2.1 h))
            generalize (jH s.kind)[k]=po at *
            generalize hxk:(iW s)[k]=xk at *
            clear hxk hno hf3 FT OV hpc
            go_wp2_with (go_at_call 81;(refine (VY T B1 B2 n2 (w.heap.size+1) m2 l (some ⟨b,o,none⟩) cl (fun b=>S b∨b=g) j JW.out jX.out.1 jX.out.2.2.2.2.1 hlen _ xk g po r3 wr (Nat.le_refl _) PA.out L8.out S8.out T8.out M8.out F8.out).mono ?_);rintro e w9 ⟨rfl,f9_,G9⟩;have F9:=ah f9_;have K9:=ah (KX.out.trans G9);clear f9_ G9)
            go_roundw
            case rel=>exact ⟨k+1,_,by omega,by go_num,step,F9.out,K9.out⟩
            case measure=>simp [intOf];omega
           ·obtain rfl:k=(iW s).length:=by omega
            have fin:Hid (uR m1 m2 l r0 (j+1)=r3):=by
             unfold Hid
             rw [SC m1 m2 l r0 j hlt,←EH.out]
             unfold FQ
             rw [hr2.out,hno.out,List.drop_length,ji]
            have K8:Hid (Kept (· = w.heap.size+1) wv wr):=K7.out.trans FT
            have F8:=ah hf3
            clear hno hf3 FT
            go_wp2_with fail
            go_roundw
            case rel=>exact ⟨j+1,by omega,by go_num,by rw [fin.out];exact F8.out,K8.out⟩
            case measure=>simp [intOf];omega
      ·obtain rfl:j=l.length:=by omega
       have hR:Hid (uR m1 m2 l r0 l.length=LY l):=by unfold Hid;rw [HM1.out,bC.out,HR0.out];exact rfl
       have hPR:=OQ l abg.out hwr.out
       have F8:Hid (Fs (w.heap.size+1) ((bZ l).1,((bZ l).2:Int)) wr):=by rw [←hPR,←hR.out];exact G8
       have agZ:Hid ((bZ l).1=0→m1=jU l∧m2=tq l):=fun h=>by
        have h2:=Vg l abg.out hwr.out (by rw [hPR];exact h)
        rw [HM1.out,bC.out];exact ⟨h2.1,h2.2.1⟩
       have M8:=ah (MV1.out.kept hkw (fun h=>jX.out.2.2.2.1 h));have Q8:=ah (MV2.out.kept hkw (fun h=>jX.out.2.2.2.2.1 h));have T8:=ah (TV.out.kept hkw (fun h=>jX.out.1 h))
       have FL8:Hid (Fl w.heap.size 0 0 wr):=(F2.out.kept KV.out (fun h=>by have:=Ju.out;have:=HB2.out;rcases (show w.heap.size=w.heap.size+1∨w.heap.size=B1∨w.heap.size=B2 from h) with h|h|h<;>omega)).kept hkw (fun h=>by have:w.heap.size=w.heap.size+1:=h;omega)
       have KZ:Hid (Kept aA w wr):=((K1.out.trans K2.out).step KV.out (fun y hy=>by have:=Ju.out;have:=HB2.out;rcases (show y=w.heap.size+1∨y=B1∨y=B2 from hy) with h|h|h<;>exact .inr (by omega))).step hkw (fun y hy=>.inr (by have:y=w.heap.size+1:=hy;omega))
       have KF:Hid (∀c d,Kept (· = w.heap.size) wr (((wr.drew).setCell ⟨w.heap.size,0,none⟩ (.int .i64 c)).setCell ⟨w.heap.size,1,none⟩ (.int .i64 d))):=fun c d=>((Kept.refl (· = w.heap.size) wr).drew.setCell (p:=⟨w.heap.size,0,none⟩) (.inl rfl) _).setCell (p:=⟨w.heap.size,1,none⟩) (.inl rfl) _
       obtain ⟨k0,k1,k2,k3⟩:=F8.out.cells
       obtain ⟨f0,f1,f2,f3⟩:=FL8.out.cells
       dsimp only at k0 k1
       clear G8 hPR hkw hj hlt
       by_cases hc:(bZ l).1=0
       ·have e3:((bZ l).1 != 0)=false:=by simpa using hc
        obtain ⟨hma,hmb⟩:=agZ.out hc
        have fin:Hid (qm l w.heap.size (some ⟨T,0,none⟩) (((wr.drew).setCell ⟨w.heap.size,0,none⟩ (.int .i64 (bZ l).1)).setCell ⟨w.heap.size,1,none⟩ (.int .i64 ((bZ l).2:Int)))):=by
         have hn:=HB2.out;have hn1:=Ju.out
         refine ⟨T,B1,B2,n1,n2,rfl,T8.out.kept (KF.out _ _) (fun h=>?_),?_,?_,by omega,by omega,by omega⟩
         ·have:T=w.heap.size:=h;omega
         ·rw [←hma];exact M8.out.kept (KF.out _ _) (fun h=>by have:B1=w.heap.size:=h;omega)
         ·rw [←hmb];exact Q8.out.kept (KF.out _ _) (fun h=>by have:B2=w.heap.size:=h;omega)
        have HC:=ah hc
        clear hc hma hmb
        go_wp2_with fail
        go_region
        go_wp2_with fail
        exact AL rfl rfl rfl (FL8.out.set _ _) rfl (KZ.out.step (KF.out _ _) (fun y hy=>.inr (by subst hy;exact Nat.le_refl _))) (fun _=>fin.out) (fun h=>absurd HC.out h)
       ·have e3:((bZ l).1 != 0)=true:=by simpa using hc
        have HC:=ah hc
        clear hc
        go_wp2_with fail
        go_region
        go_wp2_with fail
        exact AL rfl rfl rfl (FL8.out.set _ _) rfl (KZ.out.step (KF.out _ _) (fun y hy=>.inr (by subst hy;exact Nat.le_refl _))) (fun h=>absurd h HC.out) (fun _=>rfl)
end Go.Proofs.YtodebjhalipefaaGreatDoor
