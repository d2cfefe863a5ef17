/-  -/
import Derived.Test.YtodebjhalipefaaGreatDoorLr6
import Derived.Test.YtodebjhalipefaaGreatDoorLq8
import Derived.BigRegion
import Derived.Deep.RegionLaw
namespace Go.Proofs.YtodebjhalipefaaGreatDoor
set_option linter.all false
open Go.RowKit
set_option maxRecDepth 100000
set_option maxHeartbeats 4000000
theorem ac3 {F:dG} {ov qh:Value} {S Sj:aW} {w wr wb w2:World} {av Es:Value} {n:Nat} {xs ys:List Value} (hR:bf F ov w qh Sj wr) (h0:aY F ov S w) (hW:aP wr w.heap.size 9 1 av n xs) (hX:∀b,av.ownBlock=some b→¬RX F qh b)
  (hwb:Kept aA wr wb) (hW2:aP w2 w.heap.size 9 1 Es (n+1) ys) (hg:wb.grownBy w2 av.ownBlock) (ho:Es.ownBlock=av.ownBlock∨Es.ownBlock=some wb.heap.size) :
  bf F ov w qh Sj w2∧∀b,Es.ownBlock=some b→¬RX F qh b:=by
 have kg:Kept (fun b=>av.ownBlock=some b) wr w2:=(hwb.more (fun _ h=>h.elim)).trans ((Kept.refl _ wb).grown hg fun k hk=>.inl hk)
 refine ⟨hR.local kg h0 (fun b hb=>⟨(hW.lt b hb).1,hX b hb⟩),fun b hb=>?_⟩
 rcases ho with ho|ho
 ·exact hX b (by rw [←ho];exact hb)
 ·rw [ho] at hb;cases hb
  exact hR.at_.mine hwb.size
structure aaf (F:dG) (ov:Value) (S:aW) (w:World) (kids:List aB) (j:Nat) (av:Value) (acc:List aj) (qh:Value) (Sj:aW) (wr:World):Prop where
 eq:jh kids S=xY acc (jh (kids.drop j) Sj)
 sz:∀t∈acc,t.size≤65536
 len:acc.length=j
 ok:bG Sj
 run:bf F ov w qh Sj wr
 own:aP wr w.heap.size 9 1 av j (acc.map Value.string)
 off:∀b,av.ownBlock=some b→¬RX F qh b
theorem aag {k:Int} {t:aj} {n:Int} {nm:aj} {kids:List aB} {S:aW} (hk:6≤k):iK (.mk k t n nm kids) S=match jh kids S with
   | (none,w1)=>(none,w1)
   | (some a,w1)=>(su k nm a,w1):=by
 rw [iK,if_neg (by omega),if_neg (by omega),if_neg (by omega)]
 split<;>rename_i e<;>rw [e]
 simp only [if_neg (show ¬k=4 by omega)]
theorem zX {w:World} {B:Nat} {a:Option Addr} {c n:Nat} {l:List aj} {i:Nat} (h:aP w B 9 1 (.slice a n c) n (l.map Value.string)) (hl:l.length=n) (hi:i<n):∃g o,a=some ⟨g,o,none⟩∧w.cell? ⟨g,o+i,none⟩=some (.string (arg l i)):=by
 rcases h.cells with ⟨hv,hn⟩|⟨g,o,c',hv,_,hg,_,_,hc⟩
 ·omega
 ·simp only [Value.slice.injEq,true_and] at hv
  obtain ⟨rfl,rfl⟩:=hv
  refine ⟨g,o,rfl,(hc i _ ?_).1⟩
  unfold arg
  rw [List.getElem?_map,List.getElem?_eq_getElem (by omega),List.getD_eq_getElem?_getD,List.getElem?_eq_getElem (by omega)];rfl
theorem aP.strs {w:World} {B:Nat} {a:Option Addr} {c n:Nat} {l:List aj} (h:aP w B 9 1 (.slice a n c) n (l.map Value.string)) (hl:l.length=n):aX w (· < w.heap.size) a l:=by
 intro h0
 rcases h.cells with ⟨hv,hn⟩|⟨g,o,c',hv,_,hg,_,_,hc⟩
 ·omega
 ·simp only [Value.slice.injEq,true_and] at hv
  obtain ⟨rfl,rfl⟩:=hv
  exact ⟨g,o,rfl,hg,fun i hi=>(hc i _ (by rw [List.getElem?_map,List.getElem?_eq_getElem hi];rfl)).1⟩
section
variable (F:dG) (nb:aj→Bool) (kb:Int→Bool) (BH:BR F nb kb) (ov:Value) (S:aW) (Sx:Nat→Prop) (k:Int) (t:aj) (n:Int) (nm:aj) (kids:List aB) (b o:Nat) (w:World) (h:aY F ov S w) (hsx:∀b,Sx b→b<F.N)
include h hsx BH
theorem ac4 (hk6:6≤k∧k≤13) (hok:rD nb kb (.mk k t n nm kids)=true) (ok:bG S) (hx:aU w Sx b o (.mk k t n nm kids))
  (ih:∀(j:Nat) (hj:j<kids.length) (b o:Nat) (ov:Value) (S:aW) (w:World),aY F ov S w→bG S→aU w Sx b o kids[j]→Calls Tryz.prog 82 #[.pointer (some ⟨F.R,0,none⟩),.pointer (some ⟨b,o,none⟩)] w (EvQ F ov w (iK kids[j] S))) :
  Calls Tryz.prog 82 #[.pointer (some ⟨F.R,0,none⟩),.pointer (some ⟨b,o,none⟩)] w (EvQ F ov w (iK (.mk k t n nm kids) S)):=by
 obtain ⟨i0,hi0,hz0,hz1,hz2⟩:=info_parts zl
 have z1:(k==1)=false:=by simp;omega
 have z2:(k==2)=false:=by simp;omega
 have z3:(k==3)=false:=by simp;omega
 have z4:(k==4)=false:=by simp;omega
 have z5:(k==5)=false:=by simp;omega
 have EF:=ah (aag (t:=t) (n:=n) (nm:=nm) (kids:=kids) (S:=S) hk6.1)
 have aeD:yT nb kb kids=true:=by rw [rD,if_neg (by omega),if_neg (by omega),if_neg (by omega),Bool.and_eq_true] at hok;exact hok.1
 have HX:=ah hx
 have hx0:=hx
 unfold aU at hx0
 obtain ⟨_,⟨_,hnz,hkl⟩,q0,_,_,q3,ka,cap,q4,_⟩:=hx0
 have H:=ah h;have Rn:=ah hok;have HI:=ah ih;have HB:=ah BH;have HSX:=ah hsx;have WG:=ah aeD;have HS:=ah ok;have WH:=ah hk6
 have hstart:Hid (aaf F ov S w kids 0 (.slice none 0 0) [] ov S w):=⟨by rw [V6,List.drop_zero],by simp,rfl,ok,bf.refl h,aP.nil _ _ _ _,fun b hb=>by cases hb⟩
 have HM:Hid (∀wr,Kept (RX F ov) w wr→aU wr Sx b o (.mk k t n nm kids)):=fun wr hk=>hx.kept hk (fun y hy=>⟨Nat.lt_of_lt_of_le (hsx y hy) h.oJ.low,fun hc=>by have:=(h.xlt hc).1;have:=hsx y hy;omega⟩)
 clear h hok ih BH hsx aeD ok hk6 hx q3
 go_enter Tryz.func82, Tryz.ntmps82
 go_wp2_with fail
 go_loopw [59,8] (fun i av wr=>∃(j:Nat) (acc:List aj) (qh:Value) (Sj:aW),j≤kids.length∧i=.int .i64 j∧aaf F ov S w kids j av acc qh Sj wr) (fun i _ _=>kids.length-(intOf i).toNat)
 case atStart=>exact ⟨0,[],ov,S,Nat.zero_le _,rfl,hstart.out⟩
 case round =>
  obtain ⟨j,acc,qh,Sj,hj,rfl,hJ⟩:=hrel
  have hp1:=HM.out wr hJ.run.kept
  unfold aU at hp1
  obtain ⟨_,_,p0,_,_,p3,ka2,cap2,p4,hks⟩:=hp1
  obtain ⟨a0,c0,hav⟩:=hJ.own.shape
  subst hav
  by_cases hlt:j<kids.length
  ·obtain ⟨b1,o1,rfl⟩:=oh hks (by omega)
   have HC:=HI.out j hlt b1 (o1+j*5) qh Sj wr hJ.run.at_ hJ.ok (mV kids b1 o1 j hlt hks)
   have hev:=Gn (nb:=nb) (kb:=kb) kids[j] Sj (Fb WG.out j hlt) hJ.ok
   cases he:iK kids[j] Sj with
   | mk r1 S1 =>
   rw [he] at HC hev
   have HC:=ah HC
   cases r1 with
   | none =>
    have fin:Hid (iK (.mk k t n nm kids) S=(none,S1)):=by unfold Hid;rw [EF.out,hJ.eq,acX hlt he acc]
    have HJ:=ah hJ
    clear hJ hks he hev p0 p3 z1 z2 z3 z4 z5 q0 q4
    go_wp2_with (go_at_call 82;(with_reducible refine HC.out.mono ?_);rintro e w2 ⟨rfl,kW,r_⟩;dsimp only [Option.getD,Option.isSome] at r_⊢;have R2:=ah r_;clear r_)
    go_ret2
    exact ⟨by rw [fin.out];rfl,kW,by rw [fin.out];exact HJ.out.run.trans R2.out⟩
   | some u =>
    have heq:=ah (hJ.eq.trans (ZP hlt he acc))
    have hu:u.size≤65536:=hev.2 u rfl
    have hS1:bG S1:=hev.1
    have hacc:(acc++[u]).length=j+1:=by rw [List.length_append,hJ.len];rfl
    have hmap:(acc++[u]).map Value.string=acc.map Value.string++[.string u]:=by simp
    have hJ':Hid (∀{kW:Value} {w2 wb w4:World} {Es:Value},bf F qh wr kW S1 w2→Kept aA w2 wb→aP w4 w.heap.size 9 1 Es (j+1) (acc.map Value.string++[.string u])→wb.grownBy w4 (Value.slice a0 j c0).ownBlock→(Es.ownBlock=(Value.slice a0 j c0).ownBlock∨Es.ownBlock=some wb.heap.size)→aaf F ov S w kids (j+1) Es (acc++[u]) kW S1 w4):=fun {kW w2 wb w4 Es} r hk hW hg ho=>by
     have hW2:aP w2 w.heap.size 9 1 (.slice a0 j c0) j (acc.map Value.string):=hJ.own.kept r.kept (fun b hb=>hJ.off b hb)
     have agJ:∀b,(Value.slice a0 j c0).ownBlock=some b→¬RX F kW b:=fun b hb=>r.mine (hJ.own.lt b hb).2 (hJ.off b hb)
     have:=ac3 (hJ.run.trans r) H.out hW2 agJ hk hW hg ho
     exact ⟨heq.out,fun t ht=>by rcases List.mem_append.1 ht with ht|ht;exact hJ.sz t ht;rw [List.mem_singleton.1 ht];exact hu,hacc,hS1,this.1,by rw [hmap];exact hW,this.2⟩
    have WO:Hid (∀{kW:Value} {w2:World},bf F qh wr kW S1 w2→∀wb,Kept aA w2 wb→aP wb w.heap.size 9 1 (.slice a0 j c0) j (acc.map Value.string)∧w.heap.size≤wb.heap.size):=fun {kW w2} r wb hk =>
     ⟨(hJ.own.kept r.kept (fun b hb=>hJ.off b hb)).kept hk (fun _ _ h=>h),Nat.le_trans hJ.run.kept.size (Nat.le_trans r.kept.size hk.size)⟩
    clear hJ hks he hev p0 p3 z1 z2 z3 z4 z5 q0 q4 heq hacc hmap
    go_wp2_with (first
     | (go_at_call 82;(with_reducible refine HC.out.mono ?_);rintro e w2 ⟨rfl,kW,r_⟩;dsimp only [Option.getD,Option.isSome] at r_⊢;have R2:=ah r_;clear r_)
     | (at_builtin;refine dw _ rfl (.tmp 75) (.tmp 77) 22 22 rfl w.heap.size 9 i0 (.string ⟨#[]⟩) 1 16 Tryz.underlying22 hi0 hz0 hz1 hz2 rfl (.slice a0 j c0) j (acc.map Value.string) rfl (WO.out R2.out _ (by repeat (first|exact Kept.refl aA _|refine Kept.drew ?_|refine Kept.alloc ?_ _))).1 _ 1 [.string u] rfl (IU Tryz.underlying22 1 rfl (ay _ _) (by intro u hu;simp at hu;rcases hu with rfl;rfl)) (by unfold maxLen;omega) (by omega) (WO.out R2.out _ (by repeat (first|exact Kept.refl aA _|refine Kept.drew ?_|refine Kept.alloc ?_ _))).2 ?_;intro a4 c4 w4 Ej hg4 Gs;have HJ4:=ah (hJ'.out R2.out (by repeat (first|exact Kept.refl aA _|refine Kept.drew ?_|refine Kept.alloc ?_ _)) Ej hg4 Gs);clear Ej hg4 Gs))
    go_roundw
    case rel=>exact ⟨j+1,_,kW,S1,by omega,by go_num,HJ4.out⟩
    case measure=>simp [intOf];omega
  ·obtain rfl:j=kids.length:=by omega
   have hfe:=hJ.eq
   rw [ZQ] at hfe
   have hev:iK (.mk k t n nm kids) S=(su k nm acc,Sj):=by rw [EF.out,hfe]
   have fin:=ah hev
   have hst:=hJ.own.strs hJ.len
   have hsz:=hJ.sz
   have hal:=hJ.len
   have hg:=hJ.run.at_.g
   have HJ:=ah hJ
   have hend:∀{o:Option aj} {wx:World} {e:Ending} {w':World},Kept aA wr wx→su k nm acc=o→wX o wx e w'→EvQ F ov w (iK (.mk k t n nm kids) S) e w':=fun {o wx e w'} hk ho q=>by
    rw [fin.out,ho];exact ⟨q.1,qh,(HJ.out.run.quiet hk).quiet q.2⟩
   have hk6:=WH.out
   have hko:=Rn.out
   rw [rD,if_neg (by omega),if_neg (by omega),if_neg (by omega),Bool.and_eq_true] at hko
   have hko:=hko.2
   rw [if_neg (by omega)] at hko
   have hgk:∀wx,Kept aA wr wx→F.G wx:=fun wx hk=>(hJ.run.at_.quiet hk).g
   have ak4:nm.size≤maxLen:=by unfold maxLen;omega
   clear hJ hfe hks hev EF q0 q4
   by_cases h6:k=6
   ·rw [if_pos h6,Bool.and_eq_true] at hko
    obtain ⟨hnb,hbk⟩:=hko
    have hbk:=of_decide_eq_true hbk
    have hop:su k nm acc=gK nm acc:=by unfold su;rw [if_neg (by omega),if_pos h6]
    have HBU:Hid (∀wx,Kept aA wr wx→Calls Tryz.prog 116 #[.string nm,.slice a0 (kids.length:Nat) c0] wx (EvQ F ov w (iK (.mk k t n nm kids) S))):=fun wx hk=>by
     have:=HB.out.bu nm hnb acc a0 c0 wx (hgk wx hk) (hst.to hk (Safe.lt (Nat.le_refl _)) (fun _ h=>Nat.lt_of_lt_of_le h hk.size)) (by rw [hal];exact hbk.2) hsz
     rw [hal] at this
     exact this.mono fun e w' q=>hend hk hop q
    have e7:(k==7)=false:=by simp;omega
    have e6:(k==6)=true:=by simpa using h6
    have eb:decide (0≤aI nm)=true:=ak hbk.1
    clear h6 hbk hst hsz hal hg hgk hnb hop hend z1 z2 z3 z4 z5
    go_wp2_with (first
     | (go_at_call 77;(with_reducible refine (lF nm _).mono ?_);rintro e w2 ⟨rfl,aH⟩;obtain rfl:=aH.symm;clear aH)
     | (go_at_call 116;(with_reducible refine (HBU.out _ (Kept.refl _ _)).mono ?_);rintro e w2 ⟨rfl,q_⟩;have Q2:=ah q_;clear q_))
    go_ret2
    exact ⟨rfl,Q2.out⟩
   rw [if_neg h6] at hko
   by_cases h7:k=7
   ·rw [if_pos h7,Bool.and_eq_true] at hko
    obtain ⟨hkb,hkn⟩:=hko
    have hkn:=of_decide_eq_true hkn
    obtain ⟨g,og,rfl,c_⟩:=zX (i:=0) HJ.out.own HJ.out.len (by omega)
    have hop:su k nm acc=sD 10 ⟨#[48]⟩ (arg acc 0):=by unfold su;rw [if_pos h7]
    have HBI:=ah ((HB.out.bi 10 hkb (by decide) ⟨#[48]⟩ (arg acc 0) wr hg (by decide) (D9 hsz 0)).mono fun e w' q=>hend (Kept.refl _ _) hop q)
    have e7:(k==7)=true:=by simpa using h7
    have hp:0<kids.length:=by omega
    rw [Nat.add_zero] at c_
    clear h6 h7 hst hsz hal hg hgk hkb hop hend z1 z2 z3 z4 z5
    go_wp2_with (go_at_call 115;(with_reducible refine HBI.out.mono ?_);rintro e w2 ⟨rfl,q_⟩;have Q2:=ah q_;clear q_)
    go_ret2
    exact ⟨rfl,Q2.out⟩
   ·rw [if_neg h7,Bool.and_eq_true] at hko
    obtain ⟨hkb,hkn⟩:=hko
    have hkn:=of_decide_eq_true hkn
    obtain ⟨g,og,hsl,c0_⟩:=zX (i:=0) HJ.out.own HJ.out.len (by omega)
    obtain ⟨g',og',aeF,c1_⟩:=zX (i:=1) HJ.out.own HJ.out.len (by omega)
    subst hsl
    simp only [Option.some.injEq,Addr.mk.injEq,and_true] at aeF
    obtain ⟨rfl,rfl⟩:=aeF
    have hop:su k nm acc=sD k (arg acc 0) (arg acc 1):=by unfold su;rw [if_neg h7,if_neg h6]
    have HBI:Hid (∀wx,Kept aA wr wx→Calls Tryz.prog 115 #[.int .i64 k,.string (arg acc 0),.string (arg acc 1)] wx (EvQ F ov w (iK (.mk k t n nm kids) S))):=fun wx hk=>(HB.out.bi k hkb hkn.1 (arg acc 0) (arg acc 1) wx (hgk wx hk) (D9 hsz 0) (D9 hsz 1)).mono fun e w' q=>hend hk hop q
    have e7:(k==7)=false:=by simp;omega
    have e6:(k==6)=false:=by simp;omega
    have hp:0<kids.length:=by omega
    have hp1:1<kids.length:=by omega
    rw [Nat.add_zero] at c0_
    clear h6 h7 hst hsz hal hg hgk hkb hop hend z1 z2 z3 z4 z5 hkn
    go_wp2_with (go_region_with (go_at_call 115;(with_reducible refine (HBI.out _ (by repeat (first|exact Kept.refl aA _|refine Kept.drew ?_|refine Kept.drewN ?_ _))).mono ?_);rintro e w2 ⟨rfl,q_⟩;have Q2:=ah q_;clear q_))
    all_goals
     go_ret2
     exact ⟨rfl,Q2.out⟩
end
end Go.Proofs.YtodebjhalipefaaGreatDoor
