/-  -/
import Derived.Test.YtefjbnhpjdhjmaaGreatDoorTm16
namespace Go.Proofs.YtefjbnhpjdhjmaaGreatDoor
set_option linter.all false
open Go.RowKit
set_option maxRecDepth 100000
set_option maxHeartbeats 8000000
theorem Tryz.infoE:(Tryz.prog.info? 24).map (fun i=>(i.zero,i.size,i.bytes))=some (some (.agg #[.int .i64 0,.string ⟨#[]⟩,.int .i64 0,.string ⟨#[]⟩,.slice none 0 0]),5,72):=by kernel_rfl
theorem Yk (k:Int) (t:aj) (n:Int) (nm:aj) (kids:List aA) (ka:Option Addr) (cap:Nat) (S:Nat→Prop) (w:World) (hk:aI w S ka kids) (hsf:Safe S aF w.heap.size) (hz:t.size<1000000000∧nm.size<1000000000∧kids.length<1000000000) (hih:aec S kids) :
  Calls Tryz.prog 24 #[.agg #[.int .i64 k,.string t,.int .i64 n,.string nm,.slice ka kids.length cap]] w (wU (.mk k t n nm kids) w):=by
 obtain ⟨i0,hi0,hz0,hz1,hz2⟩:=info_parts Tryz.infoE
 obtain ⟨t',ht⟩:∃t',t'=(if k=1 then t else E0):=⟨_,rfl⟩
 obtain ⟨n',hn⟩:∃n',n'=(if k=2 then n else 0):=⟨_,rfl⟩
 obtain ⟨nm',hm⟩:∃nm',nm'=(if k=3∨k=4∨k=6 then nm else E0):=⟨_,rfl⟩
 have hb:Hid (bF (.mk k t n nm kids)=.mk k t' n' nm' (iP kids)):=by unfold Hid;rw [bF,ht,hn,hm]
 have HT:Hid (t'.size<1000000000):=by
  unfold Hid;rw [ht];split
  ·exact hz.1
  ·decide
 have HM:Hid (nm'.size<1000000000):=by
  unfold Hid;rw [hm];split
  ·exact hz.2.1
  ·decide
 have HS':=ah ht;have HN':=ah hn;have HM':=ah hm
 clear ht hn hm
 have pG:=pU.start (p:=.mk k t n nm kids) (cap:=cap) hk hsf
 dsimp only [aA.aZ,aA.aX,aA.eG,aA.aY,aA.aV] at pG
 obtain ⟨w0,hw0⟩:∃w0,w0=(((w.alloc (.cells #[.int .i64 k,.string t,.int .i64 n,.string nm,.slice ka kids.length cap] 24)).alloc (.cells #[.int .i64 0,.string ⟨#[]⟩,.int .i64 0,.string ⟨#[]⟩,.slice none 0 0] 24)).alloc (.cells #[.int .i64 k,.string ⟨#[]⟩,.int .i64 0,.string ⟨#[]⟩,.slice none 0 0] 24)):=⟨_,rfl⟩
 rw [←hw0] at pG
 have I0:=ah pG;have HW0:=ah hw0;have HIH:=ah hih
 have hkl:=hz.2.2
 have hsw:=hsf
 clear pG hw0 hk hsf hih hz
 go_enter Tryz.func24, Tryz.ntmps24
 go_upto_region 2 with fail
 rw [←HW0.out]
 obtain ⟨c0,c1,c2,c3,c4,_⟩:=I0.out.box.cells
 dsimp only [aA.aZ,aA.aX,aA.eG,aA.aY,aA.aV] at c0 c1 c2 c3 c4
 obtain ⟨_,_,_,_,_,of⟩:=I0.out.out.cells
 have f1:=of 1;have f2:=of 2;have f3:=of 3;clear of
 go_upto_block 0 with fail
 go_cut [] (fun wx=>Hid (pU S (.mk k t n nm kids) ka cap w t' n' nm' [] (.slice none 0 0) wx))
 case first =>
  by_cases h1:k=1
  ·have e1:(k==1)=true:=by simp [h1]
   have fin:Hid (pU S (.mk k t n nm kids) ka cap w t' n' nm' [] (.slice none 0 0) (w0.setCell ⟨w.heap.size+2,1,none⟩ (.string t))):=by
    have hx:=I0.out.put (k1 (o:=1) w0 (.string t)) (I0.out.out.st _).1
    rw [HS'.out,HN'.out,HM'.out,if_pos h1,if_neg (by omega),if_neg (by omega)];exact hx
   clear h1
   go_wp2_with fail
   go_meet
   exact fin
  have e1:(k==1)=false:=by simp;omega
  by_cases h2:k=2
  ·have e2:(k==2)=true:=by simp [h2]
   have fin:Hid (pU S (.mk k t n nm kids) ka cap w t' n' nm' [] (.slice none 0 0) (w0.setCell ⟨w.heap.size+2,2,none⟩ (.int .i64 n))):=by
    have hx:=I0.out.put (k1 (o:=2) w0 (.int .i64 n)) (I0.out.out.st _).2.1
    rw [HS'.out,HN'.out,HM'.out,if_neg (by omega),if_pos h2,if_neg (by omega)];exact hx
   clear h1 h2
   go_wp2_with fail
   go_meet
   exact fin
  have e2:(k==2)=false:=by simp;omega
  by_cases h3:k=3∨k=4∨k=6
  ·have fin:Hid (pU S (.mk k t n nm kids) ka cap w t' n' nm' [] (.slice none 0 0) (w0.setCell ⟨w.heap.size+2,3,none⟩ (.string nm))):=by
    have hx:=I0.out.put (k1 (o:=3) w0 (.string nm)) (I0.out.out.st _).2.2.1
    rw [HS'.out,HN'.out,HM'.out,if_neg (by omega),if_neg (by omega),if_pos h3];exact hx
   clear h1 h2
   rcases h3 with h3|h3|h3
   ·have e3:(k==3)=true:=by simp [h3]
    clear h3
    go_wp2_with fail
    go_meet
    exact fin
   ·have e3:(k==3)=false:=by simp;omega
    have e4:(k==4)=true:=by simp [h3]
    clear h3
    go_wp2_with fail
    go_meet
    exact fin
   ·have e3:(k==3)=false:=by simp;omega
    have e4:(k==4)=false:=by simp;omega
    have e6:(k==6)=true:=by simp [h3]
    clear h3
    go_wp2_with fail
    go_meet
    exact fin
  ·have fin:Hid (pU S (.mk k t n nm kids) ka cap w t' n' nm' [] (.slice none 0 0) w0):=by
    rw [HS'.out,HN'.out,HM'.out,if_neg h1,if_neg h2,if_neg h3];exact I0.out
   have e3:(k==3)=false:=by simp;omega
   have e4:(k==4)=false:=by simp;omega
   have e6:(k==6)=false:=by simp;omega
   clear h1 h2 h3
   go_wp2_with fail
   go_meet
   exact fin
 case rest =>
  have J4:=hcut
  clear c0 c1 c2 c3 c4 f1 f2 f3 hcut
  obtain ⟨_,_,_,_,c4,_⟩:=J4.out.box.cells
  dsimp only [aA.aZ,aA.aX,aA.eG,aA.aY,aA.aV] at c4
  go_wp2_with fail
  go_loopw [31] (fun x wr=>∃(j:Nat) (a:Option Addr) (c:Nat),j≤kids.length∧x=.int .i64 j∧Hid (pU S (.mk k t n nm kids) ka cap w t' n' nm' (iP (kids.take j)) (.slice a (iP (kids.take j)).length c) wr)) (fun x _=>kids.length-(intOf x).toNat)
  case atStart=>exact ⟨0,none,0,Nat.zero_le _,rfl,by simpa [iP] using J4⟩
  case round =>
   clear c4
   obtain ⟨j,a,c,hj,rfl,I⟩:=hrel
   by_cases hlt:j<kids.length
   ·have hlj:(iP (kids.take j)).length=j:=by rw [yD,List.length_take];omega
    obtain ⟨kb,ko,rfl⟩:=iJ I.out.kids (by show 0<kids.length;omega)
    obtain ⟨_,xI,q0,q1,q2,q3,kc,dR,q4,hkk⟩:=(iO kids kb ko j hlt I.out.kids).open
    have kA:Kept aF wr (wr.alloc (.cells #[.int .i64 kids[j].kind,.string kids[j].text,.int .i64 kids[j].n,.string kids[j].name,.slice kc kids[j].kids.length dR] 24)):=(Kept.refl aF wr).alloc _
    have I1:=ah (I.out.next kA)
    have kD:Kept aF (wr.alloc (.cells #[.int .i64 kids[j].kind,.string kids[j].text,.int .i64 kids[j].n,.string kids[j].name,.slice kc kids[j].kids.length dR] 24)) (wr.alloc (.cells #[.int .i64 kids[j].kind,.string kids[j].text,.int .i64 kids[j].n,.string kids[j].name,.slice kc kids[j].kids.length dR] 24)).drew:=(Kept.refl aF _).drew
    have hsr:Safe S aF wr.heap.size:=hsw.mono I.out.kept.size
    have hC:Hid (Calls Tryz.prog 24 #[(.agg #[.int .i64 kids[j].kind,.string kids[j].text,.int .i64 kids[j].n,.string kids[j].name,.slice kc kids[j].kids.length dR])] (wr.alloc (.cells #[.int .i64 kids[j].kind,.string kids[j].text,.int .i64 kids[j].n,.string kids[j].name,.slice kc kids[j].kids.length dR] 24)).drew (wU kids[j] (wr.alloc (.cells #[.int .i64 kids[j].kind,.string kids[j].text,.int .i64 kids[j].n,.string kids[j].name,.slice kc kids[j].kids.length dR] 24)).drew)):=HIH.out j hlt _ _ ⟨kc,dR,rfl,xI,hkk.kept (kA.trans kD) hsr⟩ (hsr.mono (kA.trans kD).size)
    have I2:=ah (I1.out.next kD)
    obtain ⟨o0,o1,o2,o3,o4,of⟩:=I2.out.out.cells
    have hof:=of 4
    obtain ⟨g0,g1,g2,g3,g4,_⟩:=I1.out.out.cells
    have hst:=ah (Qp kids j hlt)
    have hKF:=ah I.out.kept.size
    clear kA hkk xI of hsr kD
    generalize hll:iP (kids.take j)=l at *
    have hlz:l.length≤1000000000:=by omega
    have Vb:=ah hlj
    clear hlj
    go_wp2_with fail
    go_region_law (first
     | (refine lV (w:=w3.alloc (.cells #[.int .i64 (bF kids[j]).kind,.string (bF kids[j]).text,.int .i64 (bF kids[j]).n,.string (bF kids[j]).name,.slice gU (bF kids[j]).kids.length cO] 24)) rfl (.tmp 36) (.tmp 39) 22 22 rfl (w.heap.size+3) 24 i0 (.agg #[.int .i64 0,.string ⟨#[]⟩,.int .i64 0,.string ⟨#[]⟩,.slice none 0 0]) 5 72 Tryz.underlying22 hi0 hz0 hz1 hz2 rfl (.slice a l.length c) l.length cs (by simp [Act.eval]) WB.out _ 1 [.int .i64 (bF kids[j]).kind,.string (bF kids[j]).text,.int .i64 (bF kids[j]).n,.string (bF kids[j]).name,.slice gU (bF kids[j]).kids.length cO] (by simp [Act.eval]) SR.out (by unfold maxLen;omega) (by omega) hb3 ?_;intro a4 c4 w4 Bj hg4 Bl;have Bo:=ah (LM.out a4 c4 w4 Bj hg4 (by simpa using Bl));have QS:=(HF.out w4 hg4).1;have QU:=(HF.out w4 hg4).2)
     | (go_simp;go_at_call 24;(with_reducible refine (Calls.mono hC.out ?_));(rintro e w3 ⟨v2,rfl,⟨S2,hS2,⟨gU,cO,rfl,zl,hk2⟩⟩,K3⟩);(have I3:=ah (I2.out.next K3));(obtain ⟨p0,p1,p2,p3,p4,pf⟩:=I3.out.out.cells);(have Nl:(w3.alloc (.cells #[.int .i64 (bF kids[j]).kind,.string (bF kids[j]).text,.int .i64 (bF kids[j]).n,.string (bF kids[j]).name,.slice gU (bF kids[j]).kids.length cO] 24)).cell? ⟨w.heap.size+2,4,none⟩=some (.slice a l.length c):=(((Kept.refl aF w3).alloc _).cell I3.out.out.lt (fun h=>h)).trans p4);(obtain ⟨cs,S1,hw1,hr1,hS1⟩:=I2.out.own);(have Bq:=ah K3);(have WB:=ah ((hw1.kept K3 (fun _ _ h=>h)).alloc (.cells #[.int .i64 (bF kids[j]).kind,.string (bF kids[j]).text,.int .i64 (bF kids[j]).n,.string (bF kids[j]).name,.slice gU (bF kids[j]).kids.length cO] 24)));(have SR:Hid (Src Tryz.prog 5 22 (.slice (some ⟨w3.heap.size,0,none⟩) 1 1) 1 [.int .i64 (bF kids[j]).kind,.string (bF kids[j]).text,.int .i64 (bF kids[j]).n,.string (bF kids[j]).name,.slice gU (bF kids[j]).kids.length cO] (w3.alloc (.cells #[.int .i64 (bF kids[j]).kind,.string (bF kids[j]).text,.int .i64 (bF kids[j]).n,.string (bF kids[j]).name,.slice gU (bF kids[j]).kids.length cO] 24))):=Src.ofSlice _ Tryz.underlying22 _ _ _ _ rfl (World.news_of_block (fr:=(0,0)) (cs:=#[.int .i64 (bF kids[j]).kind,.string (bF kids[j]).text,.int .i64 (bF kids[j]).n,.string (bF kids[j]).name,.slice gU (bF kids[j]).kids.length cO]) (ay w3 _)) (by intro u hu;simp at hu;rcases hu with rfl|rfl|rfl|rfl|rfl<;>rfl));(have hb3:w.heap.size+3≤(w3.alloc (.cells #[.int .i64 (bF kids[j]).kind,.string (bF kids[j]).text,.int .i64 (bF kids[j]).n,.string (bF kids[j]).name,.slice gU (bF kids[j]).kids.length cO] 24)).heap.size:=by have:=I3.out.out.lt;simp;omega);(have LM:Hid (∀(a':Option Addr) (c':Nat) (w4:World),cZ w4 (w.heap.size+3) 24 5 (.slice a' (l.length+1) c') (l.length+1) (cs++[.int .i64 (bF kids[j]).kind,.string (bF kids[j]).text,.int .i64 (bF kids[j]).n,.string (bF kids[j]).name,.slice gU (bF kids[j]).kids.length cO])→(w3.alloc (.cells #[.int .i64 (bF kids[j]).kind,.string (bF kids[j]).text,.int .i64 (bF kids[j]).n,.string (bF kids[j]).name,.slice gU (bF kids[j]).kids.length cO] 24)).grownBy w4 (Value.slice a l.length c).ownBlock→((Value.slice a' (l.length+1) c').ownBlock=(Value.slice a l.length c).ownBlock∨(Value.slice a' (l.length+1) c').ownBlock=some (w3.heap.size+1))→pU S (.mk k t n nm kids) (some ⟨kb,ko,none⟩) cap w t' n' nm' (l++[bF kids[j]]) (.slice a' (l.length+1) c') (w4.setCell ⟨w.heap.size+2,4,none⟩ (.slice a' (l.length+1) c'))):=fun a' c' w4 x1 x2 x3=>Yj I2.out hw1 hr1 hS1 Bq.out zl hS2 hk2 x1 x2 x3);(have HF:Hid (∀w4:World,(w3.alloc (.cells #[.int .i64 (bF kids[j]).kind,.string (bF kids[j]).text,.int .i64 (bF kids[j]).n,.string (bF kids[j]).name,.slice gU (bF kids[j]).kids.length cO] 24)).grownBy w4 (Value.slice a l.length c).ownBlock→w4.frozen? ⟨w.heap.size+2,4,none⟩=false∧w4.cell? ⟨w.heap.size+2,4,none⟩=some (.slice a l.length c)):=fun w4 hg=>by have hlt3:=I3.out.out.lt;have hx:=hg.block (w.heap.size+2) (by simp;omega) (fun e=>by have:=(hw1.lt _ e.symm).1;omega);have hy:=I3.out.out;unfold dO at hy;exact ⟨by simp [World.frozen?,hx,Below.heap_alloc _ _ _ hlt3,hy],by simp [World.cell?,hx,Below.heap_alloc _ _ _ hlt3,hy]⟩)))
    all_goals
     go_wp2_with fail
     go_roundw
     case rel=>exact ⟨j+1,a4,c4,by omega,by go_num,by rw [hst.out,List.length_append];exact Bo⟩
     case measure=>simp [intOf];omega
   ·obtain rfl:j=kids.length:=by omega
    rw [List.take_length] at I
    obtain ⟨o0,o1,o2,o3,o4,_⟩:=I.out.out.cells
    dsimp only [aA.aZ,aA.aX,aA.eG,aA.aY,aA.aV] at o0
    obtain ⟨z0,z1,z2,z3,z4,zf⟩:=dO.cells I.out.zero
    have f0:=zf 0;have f1:=zf 1;have f2:=zf 2;have f3:=zf 3;have f4:=zf 4;clear zf
    go_wp2_with fail
    exact aaZ rfl rfl I.out hb.out rfl ⟨HT.out,HM.out,by rw [yD];exact hkl⟩
theorem QO:∀(m:Nat) (p:aA) (v:Value) (S:Nat→Prop) (w:World),sizeT p≤m→gZ w S v p→Safe S aF w.heap.size→Calls Tryz.prog 24 #[v] w (wU p w):=by
 intro m
 induction m with
 | zero=>intro p v S w hm;have:=mF p;omega
 | succ m ih =>
  intro p v S w hm hp hS
  obtain ⟨k,t,n,nm,kids⟩:=p
  obtain ⟨ka,cap,rfl,hz,hk⟩:=hp
  refine Yk k t n nm kids ka cap S w hk hS hz fun j hj v2 w2 h2 s2=>ih _ v2 S w2 ?_ h2 s2
  have:=nI kids j hj
  simp only [sizeT] at hm;omega
end Go.Proofs.YtefjbnhpjdhjmaaGreatDoor
