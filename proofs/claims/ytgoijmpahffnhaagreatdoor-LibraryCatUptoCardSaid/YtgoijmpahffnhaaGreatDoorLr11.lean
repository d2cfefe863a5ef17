/-  -/
import Derived.Test.YtgoijmpahffnhaaGreatDoorLr10
import Derived.Test.YtgoijmpahffnhaaGreatDoorLc7
import Derived.Test.YtgoijmpahffnhaaGreatDoorLc13
import Derived.Maps.RangeRun
import Derived.BigRegion
namespace Go.Proofs.YtgoijmpahffnhaaGreatDoor
set_option linter.all false
open Go.RowKit
set_option maxRecDepth 100000
set_option maxHeartbeats 4000000
def afd (F:dQ) (ov:Value) (S:aY) (w:World) (e:Ending) (w':World):Prop:=∃(a3 a4:Option Addr) (n3 c3 n4 c4:Nat),e=.returned (.agg #[ov,.int .i64 S.how,.int .i64 S.steps,.slice a3 n3 c3,.slice a4 n4 c4])∧Kept aB w w'
theorem abm:(Tryz.prog.info? 148).map (fun i=>(i.zero,i.size,i.bytes))=some (some (.agg #[.string ⟨#[]⟩,.string ⟨#[]⟩]),2,32):=by kernel_rfl
def acT (ov:Value) (S:aY) (vv:Value):List Value:=[ov,.int .i64 S.how,.int .i64 S.steps,vv,.slice none 0 0]
structure Ef (B:Nat) (ov:Value) (S:aY) (w3:World) (j:Nat) (vv:Value) (wr:World):Prop where
 kept:Kept (· = B) w3 wr
 lt:B<w3.heap.size
 blk:dO B 32 (acT ov S vv) wr
 own:∃xs,aS wr w3.heap.size 148 2 vv j xs
theorem Ef.put {B:Nat} {ov:Value} {S:aY} {w3 wr wb w4:World} {j:Nat} {vv Gv:Value} {xs ys:List Value} (h:Ef B ov S w3 j vv wr) (hx:aS wr w3.heap.size 148 2 vv j xs) (hk:Kept aB wr wb) (hW:aS w4 w3.heap.size 148 2 Gv (j+1) ys) (hg:wb.grownBy w4 vv.ownBlock) :
  Ef B ov S w3 (j+1) Gv (w4.setCell ⟨B,3,none⟩ Gv):=by
 have kg:Kept (fun b=>vv.ownBlock=some b) wr w4:=(hk.more (fun _ h=>h.elim)).trans ((Kept.refl _ wb).grown hg fun k hk=>.inl hk)
 have hB:vv.ownBlock≠some B:=fun e=>by have:=(hx.lt B e).1;have:=h.lt;omega
 refine ⟨(h.kept.step kg (fun y hy=>.inr (hx.lt y hy).1)).setCell (p:=⟨B,3,none⟩) (.inl rfl) _,h.lt,(h.blk.kept kg (fun e=>hB e)).set 3 Gv,ys,hW.setCell (fun e=>?_) _⟩
 have:=(hW.lt B (by simpa using e)).1;have:=h.lt;omega
theorem Yx (F:dQ) (ov:Value) (S:aY) (w:World) (h:bg F ov S w) (ok:bM S):Calls Tryz.prog 39 #[.pointer (some ⟨F.O,0,none⟩),.int .i64 S.steps] w (afd F ov S w):=by
 obtain ⟨i0,hi0,hz0,hz1,hz2⟩:=info_parts abm
 obtain ⟨a0,c0,hov⟩:=h.out.shape
 subst hov
 obtain ⟨w1,hw1⟩:∃w1,w1=w.alloc (.cells #[.slice none 0 0,.int .i64 0,.int .i64 0,.slice none 0 0,.slice none 0 0] 32):=⟨_,rfl⟩
 have k1:Kept aB w w1:=by rw [hw1];exact (Kept.refl aB w).alloc _
 have h1:=h.quiet k1
 obtain ⟨a,c,q0,q1,_,_,q4,_,q6,qf,_⟩:=h1.mX
 have ltO:F.O<w1.heap.size:=(h1.xlt (.inl rfl)).2
 obtain ⟨B0,hB0⟩:∃B0,B0=w.heap.size:=⟨_,rfl⟩
 have lt0:B0<w1.heap.size:=by rw [hw1,hB0];simp
 have Yy:Hid (dO B0 32 [.slice none 0 0,.int .i64 0,.int .i64 0,.slice none 0 0,.slice none 0 0] w1):=by rw [hw1,hB0];exact dO.new w _ _
 have HW1:=ah hw1;have HB0:=ah hB0;have H:=ah h;have H1:=ah h1;have K1:=ah k1
 clear hw1 hB0 h h1 k1 qf
 go_enter Tryz.func39, Tryz.ntmps39
 go_upto_region 1 with fail
 rw [←HW1.out,←HB0.out]
 go_region
 obtain ⟨w2,hw2⟩:∃w2,w2=(w1.alloc (.cells #[.slice a0 S.output.length c0,.int .i64 S.how,.int .i64 S.steps,.slice none 0 0,.slice none 0 0] 32)).drew:=⟨_,rfl⟩
 obtain ⟨B,hB⟩:∃B,B=w1.heap.size:=⟨_,rfl⟩
 have k2:Kept aB w1 w2:=by rw [hw2];exact ((Kept.refl aB w1).alloc _).drew
 have hb2:dO B 32 (acT (.slice a0 S.output.length c0) S (.slice none 0 0)) w2:=by rw [hw2,hB];exact dO.new w1 _ _
 have h2:=H1.out.quiet k2
 have hlt2:B<w2.heap.size:=hb2.lt
 have hB1:w1.heap.size≤B:=by omega
 rw [←hw2,←hB]
 obtain ⟨a',c',g0,g1,_⟩:=h2.mX
 have hvl:S.vars.length≤1048576:=by
  have:=zQ (fun _=>0) ok.vars
  have:=ok.bytes;have:=ok.most
  omega
 have HSK:=ah (IZ w2 F.V S.vars h2.vars hvl)
 have H2:=ah h2;have HB2:=ah hb2;have K2:=ah k2
 clear h2 hb2 k2 hw2 hB q0 q1 q4 q6
 go_wp2_with (first
  | (go_at_call 74;(with_reducible refine (Yz (some F.V) _).mono ?_);rintro e w' ⟨rfl,rfl⟩)
  | (go_at_call 73;(with_reducible refine HSK.out.mono ?_);rintro e w3 ⟨v_,ks,rfl,hv_,acV,acW,k_⟩;obtain ⟨ka,kc,rfl⟩:=hv_.shape;have KS:=ah hv_;have KZ:=ah acV;have KL:=ah acW;have K3:=ah (((Kept.refl aB w2).alloc (.cells #[.map (some F.V)] 94)).trans k_);clear hv_ acV acW k_))
 have hstart:Hid (Ef B (.slice a0 S.output.length c0) S w3 0 (.slice none 0 0) w3):=⟨Kept.refl _ _,Nat.lt_of_lt_of_le hlt2 K3.out.size,HB2.out.kept K3.out (fun h=>h),[],aS.nil _ _ _ _⟩
 have QH:Hid (ks.length≤1048576):=Nat.le_trans KL.out hvl
 clear g0 g1
 go_loopw [27] (fun i wr=>∃(j:Nat) (vv:Value),j≤ks.length∧i=.int .i64 j∧Ef B (.slice a0 S.output.length c0) S w3 j vv wr) (fun i _=>ks.length-(intOf i).toNat)
 case atStart=>exact ⟨0,_,Nat.zero_le _,rfl,hstart.out⟩
 case round =>
  obtain ⟨j,vv,hj,rfl,hJ⟩:=hrel
  have kw:Kept aB w1 wr:=(K2.out.trans K3.out).step hJ.kept (fun y hy=>.inr (by have:y=B:=hy;omega))
  have Ja:=H1.out.quiet kw
  obtain ⟨a',c',g0,g1,_⟩:=Ja.mX
  have KW:=ah kw;have HR:=ah Ja;have HJ:=ah hJ
  by_cases hlt:j<ks.length
  ·obtain ⟨g,og,hka,ck⟩:=Ap (i:=j) (KS.out.kept hJ.kept (fun b hb e=>by have e:b=B:=e;have:=(KS.out.lt b hb).1;omega)) rfl hlt
   subst hka
   obtain ⟨kj,hkj⟩:∃kj,kj=arg ks j:=⟨_,rfl⟩
   rw [←hkj] at ck
   have hkz:kj.size≤maxLen:=by
    rw [hkj];unfold arg
    rw [List.getD_eq_getElem?_getD,List.getElem?_eq_getElem hlt]
    exact KZ.out _ (List.getElem_mem hlt)
   have hlook:=(Ja.vars.kept ((Kept.refl aB wr).drew) (fun h=>h)).look kj hkz
   obtain ⟨lv,hlv⟩:∃lv,lv=lookA S.vars kj:=⟨_,rfl⟩
   rw [←hlv] at hlook
   obtain ⟨xs,hxs⟩:=hJ.own
   obtain ⟨va,vc,hvv⟩:=hxs.shape
   subst hvv
   have v3:wr.cell? ⟨B,3,none⟩=some (.slice va j vc):=hJ.blk.cell rfl
   have v3f:wr.frozen? ⟨B,3,none⟩=false:=hJ.blk.free 3
   have hBr:B<wr.heap.size:=hJ.blk.lt
   have bj:(j:Int)<(ks.length:Int):=by omega
   have FN:Hid (∀{wb w4:World} {Gv:Value} {ys:List Value},Kept aB wr wb→aS w4 w3.heap.size 148 2 Gv (j+1) ys→wb.grownBy w4 (Value.slice va j vc).ownBlock→Ef B (.slice a0 S.output.length c0) S w3 (j+1) Gv (w4.setCell ⟨B,3,none⟩ Gv)∧w4.cell? ⟨B,3,none⟩=some (.slice va j vc)∧w4.frozen? ⟨B,3,none⟩=false):=fun {wb w4 Gv ys} hk hW hg=>by
    have kg:Kept (fun b=>(Value.slice va j vc).ownBlock=some b) wr w4:=(hk.more (fun _ h=>h.elim)).trans ((Kept.refl _ wb).grown hg fun k hk=>.inl hk)
    have hb4:=hJ.blk.kept kg (fun e=>by have:=(hxs.lt B e).1;have:=hJ.lt;omega)
    exact ⟨hJ.put hxs hk hW hg,hb4.cell rfl,hb4.free 3⟩
   have WO:Hid (∀wb,Kept aB wr wb→aS wb w3.heap.size 148 2 (.slice va j vc) j xs∧w3.heap.size≤wb.heap.size):=fun wb hk=>⟨hxs.kept hk (fun _ _ h=>h),Nat.le_trans hJ.kept.size hk.size⟩
   clear hJ hxs hkj hlv kw Ja
   have hkb:=QH.out
   go_upto_region 5 with fail
   go_region_law (refine yQ _ rfl (.tmp 32) (.tmp 41) 29 29 rfl w3.heap.size 148 i0 (.agg #[.string ⟨#[]⟩,.string ⟨#[]⟩]) 2 32 Tryz.underlying29 hi0 hz0 hz1 hz2 rfl (.slice va j vc) j xs (by simp [Act.eval]) (WO.out _ (by repeat (first|exact Kept.refl aB _|refine Kept.drew ?_|refine Kept.alloc ?_ _))).1 (.slice (some ⟨wr.heap.size,0,none⟩) 1 1) 1 [.string kj,.string lv] (by simp [Act.eval]) (IL (g:=wr.heap.size) (vs:=[.string kj,.string lv]) (n:=1) Tryz.underlying29 2 rfl (ay wr _) (by intro u hu;simp at hu;rcases hu with rfl|rfl<;>rfl)) (by have:=QH.out;unfold maxLen;omega) (by have:=QH.out;omega) (WO.out _ (by repeat (first|exact Kept.refl aB _|refine Kept.drew ?_|refine Kept.alloc ?_ _))).2 ?_;intro a4 c4 w4 Eu hg4 Gw;obtain ⟨j_,d5,df⟩:=FN.out (by repeat (first|exact Kept.refl aB _|refine Kept.drew ?_|refine Kept.alloc ?_ _)) Eu hg4;have HJ4:=ah j_;clear Eu hg4 Gw j_)
   all_goals
    go_wp2_with fail
    go_roundw
    case rel=>exact ⟨j+1,_,by omega,by go_num,HJ4.out⟩
    case measure=>simp [intOf];omega
  ·obtain rfl:j=ks.length:=by omega
   obtain ⟨_,hI⟩:=Ja.items
   have hrg:(Instr.range 95 (.map (some F.I))).run Tryz.prog wr=.ok (.pointer (some ⟨wr.heap.size,0,none⟩)) (wr.alloc (.mapIter (some F.I) 0 #[] 0)):=run_range_map wr 95 _ _ F.I #[] 0 Tryz.underlying95 hI
   obtain ⟨w5,hw5⟩:∃w5,w5=wr.alloc (.mapIter (some F.I) 0 #[] 0):=⟨_,rfl⟩
   have k5:Kept aB wr w5:=by rw [hw5];exact (Kept.refl aB wr).alloc _
   obtain ⟨G,hG⟩:∃G,G=wr.heap.size:=⟨_,rfl⟩
   have hit:w5.heap[G]?=some (.mapIter (some F.I) 0 #[] 0):=by rw [hw5,hG];exact ay wr _
   have hI5:w5.heap[F.I]?=some (.map #[] 0):=(k5.block F.I (Array.getElem?_eq_some_iff.1 hI).1 (fun h=>h)).trans hI
   have hnx:∀ty,(Instr.next (.pointer (some ⟨G,0,none⟩)) false ty).run Tryz.prog w5=.ok (.tuple #[.bool false]) w5:=fun ty=>by
    rcases run_next_at w5 ty G F.I 0 0 #[] #[] 0 hit hI5 (by simp) (by simp) with ⟨_,h⟩|⟨e,he,_⟩
    ·exact h
    ·exfalso;simp [leftOf] at he
   rw [←hw5,←hG] at hrg
   obtain ⟨xs,hxs⟩:=hJ.own
   obtain ⟨va,vc,hvv⟩:=hxs.shape
   subst hvv
   have JR:=ah (hJ.blk.kept k5 (fun h=>h))
   have k15:=kw.trans k5
   have H05:=ah (Yy.out.kept k15 (fun h=>h))
   have K15:=ah k15
   clear hJ Ja kw hI hit hI5 hw5 hG hxs k15
   go_wp2_with fail
   go_loopw [] (fun wx=>wx=w5) (fun _=>0)
   case atStart=>rfl
   case round =>
    subst hrel
    have x4:wr.cell? ⟨B,4,none⟩=some (.slice none 0 0):=JR.out.cell rfl
    go_wp2_with (go_at_call 75;(with_reducible refine (afe _ _).mono ?_);rintro e w6 ⟨rfl,k_⟩;have K6:=ah k_;have hb6:=JR.out.kept k_ (fun h=>h);have h06:=H05.out.kept k_ (fun h=>h);have H06:=ah h06;have y0:=hb6.cell (i:=0) rfl;have y1:=hb6.cell (i:=1) rfl;have y2:=hb6.cell (i:=2) rfl;have y3:=hb6.cell (i:=3) rfl;have y4:=hb6.cell (i:=4) rfl;have t0:=h06.cell (i:=0) rfl;have t1:=h06.cell (i:=1) rfl;have t2:=h06.cell (i:=2) rfl;have t3:=h06.cell (i:=3) rfl;have t4:=h06.cell (i:=4) rfl;have s0:=h06.free 0;have s1:=h06.free 1;have s2:=h06.free 2;have s3:=h06.free 3;have s4:=h06.free 4;clear k_ hb6 h06)
    have hf:=((((H06.out.set 0 (.slice a0 S.output.length c0)).set 1 (.int .i64 S.how)).set 2 (.int .i64 S.steps)).set 3 (.slice va ks.length vc)).set 4 (.slice none 0 0)
    have z0:=hf.cell (i:=0) rfl
    have z1:=hf.cell (i:=1) rfl
    have z2:=hf.cell (i:=2) rfl
    have z3:=hf.cell (i:=3) rfl
    have z4:=hf.cell (i:=4) rfl
    refine bodyPost_ret (v:=.agg #[.slice a0 S.output.length c0,.int .i64 S.how,.int .i64 S.steps,.slice va ks.length vc,.slice none 0 0]) (by simp only [results,Tryz.results39,go_sem,z0,z1,z2,z3,z4];simp [results,go_sem,z0,z1,z2,z3,z4]) rfl ⟨_,_,_,_,_,_,rfl,?_⟩
    have agB:=(K1.out.trans K15.out).trans K6.out
    have MZ:w.heap.size≤B0:=by rw [HB0.out];exact Nat.le_refl _
    exact (((((agB.setCell (p:=⟨B0,0,none⟩) (.inr MZ) _).setCell (p:=⟨B0,1,none⟩) (.inr MZ) _).setCell (p:=⟨B0,2,none⟩) (.inr MZ) _).setCell (p:=⟨B0,3,none⟩) (.inr MZ) _).setCell (p:=⟨B0,4,none⟩) (.inr MZ) _)
end Go.Proofs.YtgoijmpahffnhaaGreatDoor
