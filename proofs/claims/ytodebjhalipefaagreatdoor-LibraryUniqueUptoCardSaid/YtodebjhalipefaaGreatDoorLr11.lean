/-  -/
import Derived.Test.YtodebjhalipefaaGreatDoorLq21
import Derived.Test.YtodebjhalipefaaGreatDoorLq14
import Derived.Test.YtodebjhalipefaaGreatDoorLq25
import Derived.Maps.RangeRun
import Derived.BigRegion
namespace Go.Proofs.YtodebjhalipefaaGreatDoor
set_option linter.all false
open Go.RowKit
set_option maxRecDepth 100000
set_option maxHeartbeats 4000000
def agF (F:dG) (ov:Value) (S:aW) (w:World) (e:Ending) (w':World):Prop:=∃(a3 a4:Option Addr) (n3 c3 n4 c4:Nat),e=.returned (.agg #[ov,.int .i64 S.how,.int .i64 S.steps,.slice a3 n3 c3,.slice a4 n4 c4])∧Kept aA w w'
theorem acZ:(Tryz.prog.info? 172).map (fun i=>(i.zero,i.size,i.bytes))=some (some (.agg #[.string ⟨#[]⟩,.string ⟨#[]⟩]),2,32):=by kernel_rfl
def aeh (ov:Value) (S:aW) (vv:Value):List Value:=[ov,.int .i64 S.how,.int .i64 S.steps,vv,.slice none 0 0]
structure Ea (B:Nat) (ov:Value) (S:aW) (w3:World) (j:Nat) (vv:Value) (wr:World):Prop where
 kept:Kept (· = B) w3 wr
 lt:B<w3.heap.size
 blk:dI B 29 (aeh ov S vv) wr
 own:∃xs,aP wr w3.heap.size 172 2 vv j xs
theorem Ea.put {B:Nat} {ov:Value} {S:aW} {w3 wr wb w4:World} {j:Nat} {vv Gq:Value} {xs ys:List Value} (h:Ea B ov S w3 j vv wr) (hx:aP wr w3.heap.size 172 2 vv j xs) (hk:Kept aA wr wb) (hW:aP w4 w3.heap.size 172 2 Gq (j+1) ys) (hg:wb.grownBy w4 vv.ownBlock) :
  Ea B ov S w3 (j+1) Gq (w4.setCell ⟨B,3,none⟩ Gq):=by
 have kg:Kept (fun b=>vv.ownBlock=some b) wr w4:=(hk.more (fun _ h=>h.elim)).trans ((Kept.refl _ wb).grown hg fun k hk=>.inl hk)
 have hB:vv.ownBlock≠some B:=fun e=>by have:=(hx.lt B e).1;have:=h.lt;omega
 refine ⟨(h.kept.step kg (fun y hy=>.inr (hx.lt y hy).1)).setCell (p:=⟨B,3,none⟩) (.inl rfl) _,h.lt,(h.blk.kept kg (fun e=>hB e)).set 3 Gq,ys,hW.setCell (fun e=>?_) _⟩
 have:=(hW.lt B (by simpa using e)).1;have:=h.lt;omega
theorem ZT (F:dG) (ov:Value) (S:aW) (w:World) (h:aY F ov S w) (ok:bG S):Calls Tryz.prog 45 #[.pointer (some ⟨F.O,0,none⟩),.int .i64 S.steps] w (agF F ov S w):=by
 obtain ⟨i0,hi0,hz0,hz1,hz2⟩:=info_parts acZ
 obtain ⟨a0,c0,hov⟩:=h.out.shape
 subst hov
 obtain ⟨w1,hw1⟩:∃w1,w1=w.alloc (.cells #[.slice none 0 0,.int .i64 0,.int .i64 0,.slice none 0 0,.slice none 0 0] 29):=⟨_,rfl⟩
 have k1:Kept aA w w1:=by rw [hw1];exact (Kept.refl aA w).alloc _
 have h1:=h.quiet k1
 obtain ⟨a,c,q0,q1,_,_,q4,_,q6,qf,_⟩:=h1.kX
 have ltO:F.O<w1.heap.size:=(h1.xlt (.inl rfl)).2
 obtain ⟨B0,hB0⟩:∃B0,B0=w.heap.size:=⟨_,rfl⟩
 have lt0:B0<w1.heap.size:=by rw [hw1,hB0];simp
 have ZU:Hid (dI B0 29 [.slice none 0 0,.int .i64 0,.int .i64 0,.slice none 0 0,.slice none 0 0] w1):=by rw [hw1,hB0];exact dI.new w _ _
 have HW1:=ah hw1;have HB0:=ah hB0;have H:=ah h;have H1:=ah h1;have K1:=ah k1
 clear hw1 hB0 h h1 k1 qf
 go_enter Tryz.func45, Tryz.ntmps45
 go_upto_region 1 with fail
 rw [←HW1.out,←HB0.out]
 go_region
 obtain ⟨w2,hw2⟩:∃w2,w2=(w1.alloc (.cells #[.slice a0 S.output.length c0,.int .i64 S.how,.int .i64 S.steps,.slice none 0 0,.slice none 0 0] 29)).drew:=⟨_,rfl⟩
 obtain ⟨B,hB⟩:∃B,B=w1.heap.size:=⟨_,rfl⟩
 have k2:Kept aA w1 w2:=by rw [hw2];exact ((Kept.refl aA w1).alloc _).drew
 have hb2:dI B 29 (aeh (.slice a0 S.output.length c0) S (.slice none 0 0)) w2:=by rw [hw2,hB];exact dI.new w1 _ _
 have h2:=H1.out.quiet k2
 have hlt2:B<w2.heap.size:=hb2.lt
 have hB1:w1.heap.size≤B:=by omega
 rw [←hw2,←hB]
 obtain ⟨a',c',g0,g1,_⟩:=h2.kX
 have hvl:S.vars.length≤1048576:=by
  have:=zu (fun _=>0) ok.vars
  have:=ok.bytes;have:=ok.most
  omega
 have HSK:=ah (Ja w2 F.V S.vars h2.vars hvl)
 have H2:=ah h2;have HB2:=ah hb2;have K2:=ah k2
 clear h2 hb2 k2 hw2 hB q0 q1 q4 q6
 go_wp2_with (first
  | (go_at_call 89;(with_reducible refine (ZV (some F.V) _).mono ?_);rintro e w' ⟨rfl,rfl⟩)
  | (go_at_call 88;(with_reducible refine HSK.out.mono ?_);rintro e w3 ⟨v_,ks,rfl,hv_,aej,aek,k_⟩;obtain ⟨ka,kc,rfl⟩:=hv_.shape;have KS:=ah hv_;have KZ:=ah aej;have KL:=ah aek;have K3:=ah (((Kept.refl aA w2).alloc (.cells #[.map (some F.V)] 110)).trans k_);clear hv_ aej aek k_))
 have hstart:Hid (Ea B (.slice a0 S.output.length c0) S w3 0 (.slice none 0 0) w3):=⟨Kept.refl _ _,Nat.lt_of_lt_of_le hlt2 K3.out.size,HB2.out.kept K3.out (fun h=>h),[],aP.nil _ _ _ _⟩
 have Ri:Hid (ks.length≤1048576):=Nat.le_trans KL.out hvl
 clear g0 g1
 go_loopw [27] (fun i wr=>∃(j:Nat) (vv:Value),j≤ks.length∧i=.int .i64 j∧Ea B (.slice a0 S.output.length c0) S w3 j vv wr) (fun i _=>ks.length-(intOf i).toNat)
 case atStart=>exact ⟨0,_,Nat.zero_le _,rfl,hstart.out⟩
 case round =>
  obtain ⟨j,vv,hj,rfl,hJ⟩:=hrel
  have kw:Kept aA w1 wr:=(K2.out.trans K3.out).step hJ.kept (fun y hy=>.inr (by have:y=B:=hy;omega))
  have Jb:=H1.out.quiet kw
  obtain ⟨a',c',g0,g1,_⟩:=Jb.kX
  have KW:=ah kw;have HR:=ah Jb;have HJ:=ah hJ
  by_cases hlt:j<ks.length
  ·obtain ⟨g,og,hka,ck⟩:=zX (i:=j) (KS.out.kept hJ.kept (fun b hb e=>by have e:b=B:=e;have:=(KS.out.lt b hb).1;omega)) rfl hlt
   subst hka
   obtain ⟨kj,hkj⟩:∃kj,kj=arg ks j:=⟨_,rfl⟩
   rw [←hkj] at ck
   have hkz:kj.size≤maxLen:=by
    rw [hkj];unfold arg
    rw [List.getD_eq_getElem?_getD,List.getElem?_eq_getElem hlt]
    exact KZ.out _ (List.getElem_mem hlt)
   have hlook:=(Jb.vars.kept ((Kept.refl aA wr).drew) (fun h=>h)).look kj hkz
   obtain ⟨lv,hlv⟩:∃lv,lv=lookA S.vars kj:=⟨_,rfl⟩
   rw [←hlv] at hlook
   obtain ⟨xs,hxs⟩:=hJ.own
   obtain ⟨va,vc,hvv⟩:=hxs.shape
   subst hvv
   have v3:wr.cell? ⟨B,3,none⟩=some (.slice va j vc):=hJ.blk.cell rfl
   have v3f:wr.frozen? ⟨B,3,none⟩=false:=hJ.blk.free 3
   have hBr:B<wr.heap.size:=hJ.blk.lt
   have bj:(j:Int)<(ks.length:Int):=by omega
   have FN:Hid (∀{wb w4:World} {Gq:Value} {ys:List Value},Kept aA wr wb→aP w4 w3.heap.size 172 2 Gq (j+1) ys→wb.grownBy w4 (Value.slice va j vc).ownBlock→Ea B (.slice a0 S.output.length c0) S w3 (j+1) Gq (w4.setCell ⟨B,3,none⟩ Gq)∧w4.cell? ⟨B,3,none⟩=some (.slice va j vc)∧w4.frozen? ⟨B,3,none⟩=false):=fun {wb w4 Gq ys} hk hW hg=>by
    have kg:Kept (fun b=>(Value.slice va j vc).ownBlock=some b) wr w4:=(hk.more (fun _ h=>h.elim)).trans ((Kept.refl _ wb).grown hg fun k hk=>.inl hk)
    have hb4:=hJ.blk.kept kg (fun e=>by have:=(hxs.lt B e).1;have:=hJ.lt;omega)
    exact ⟨hJ.put hxs hk hW hg,hb4.cell rfl,hb4.free 3⟩
   have WO:Hid (∀wb,Kept aA wr wb→aP wb w3.heap.size 172 2 (.slice va j vc) j xs∧w3.heap.size≤wb.heap.size):=fun wb hk=>⟨hxs.kept hk (fun _ _ h=>h),Nat.le_trans hJ.kept.size hk.size⟩
   clear hJ hxs hkj hlv kw Jb
   have hkb:=Ri.out
   go_upto_region 5 with fail
   go_region_law (refine x9 _ rfl (.tmp 32) (.tmp 41) 26 26 rfl w3.heap.size 172 i0 (.agg #[.string ⟨#[]⟩,.string ⟨#[]⟩]) 2 32 Tryz.underlying26 hi0 hz0 hz1 hz2 rfl (.slice va j vc) j xs (by simp [Act.eval]) (WO.out _ (by repeat (first|exact Kept.refl aA _|refine Kept.drew ?_|refine Kept.alloc ?_ _))).1 (.slice (some ⟨wr.heap.size,0,none⟩) 1 1) 1 [.string kj,.string lv] (by simp [Act.eval]) (IU (g:=wr.heap.size) (vs:=[.string kj,.string lv]) (n:=1) Tryz.underlying26 2 rfl (ay wr _) (by intro u hu;simp at hu;rcases hu with rfl|rfl<;>rfl)) (by have:=Ri.out;unfold maxLen;omega) (by have:=Ri.out;omega) (WO.out _ (by repeat (first|exact Kept.refl aA _|refine Kept.drew ?_|refine Kept.alloc ?_ _))).2 ?_;intro a4 c4 w4 Ej hg4 Gs;obtain ⟨j_,d5,df⟩:=FN.out (by repeat (first|exact Kept.refl aA _|refine Kept.drew ?_|refine Kept.alloc ?_ _)) Ej hg4;have HJ4:=ah j_;clear Ej hg4 Gs j_)
   all_goals
    go_wp2_with fail
    go_roundw
    case rel=>exact ⟨j+1,_,by omega,by go_num,HJ4.out⟩
    case measure=>simp [intOf];omega
  ·obtain rfl:j=ks.length:=by omega
   obtain ⟨_,hI⟩:=Jb.items
   have hrg:(Instr.range 111 (.map (some F.I))).run Tryz.prog wr=.ok (.pointer (some ⟨wr.heap.size,0,none⟩)) (wr.alloc (.mapIter (some F.I) 0 #[] 0)):=run_range_map wr 111 _ _ F.I #[] 0 Tryz.underlying111 hI
   obtain ⟨w5,hw5⟩:∃w5,w5=wr.alloc (.mapIter (some F.I) 0 #[] 0):=⟨_,rfl⟩
   have k5:Kept aA wr w5:=by rw [hw5];exact (Kept.refl aA wr).alloc _
   obtain ⟨G,hG⟩:∃G,G=wr.heap.size:=⟨_,rfl⟩
   have hit:w5.heap[G]?=some (.mapIter (some F.I) 0 #[] 0):=by rw [hw5,hG];exact ay wr _
   have hI5:w5.heap[F.I]?=some (.map #[] 0):=(k5.block F.I (Array.getElem?_eq_some_iff.1 hI).1 (fun h=>h)).trans hI
   have hnx:∀ty,(Instr.next (.pointer (some ⟨G,0,none⟩)) false ty).run Tryz.prog w5=.ok (.tuple #[.bool false]) w5:=fun ty=>by
    rcases run_next_at w5 ty G F.I 0 0 #[] #[] 0 hit hI5 (by simp) (by simp) with ⟨_,h⟩|⟨e,he,_⟩
    ·exact h
    ·exfalso;simp [leftOf] at he
   rw [←hw5,←hG] at hrg
   obtain ⟨xs,hxs⟩:=hJ.own
   obtain ⟨va,vc,hvv⟩:=hxs.shape
   subst hvv
   have JV:=ah (hJ.blk.kept k5 (fun h=>h))
   have k15:=kw.trans k5
   have H05:=ah (ZU.out.kept k15 (fun h=>h))
   have K15:=ah k15
   clear hJ Jb kw hI hit hI5 hw5 hG hxs k15
   go_wp2_with fail
   go_loopw [] (fun wx=>wx=w5) (fun _=>0)
   case atStart=>rfl
   case round =>
    subst hrel
    have x4:wr.cell? ⟨B,4,none⟩=some (.slice none 0 0):=JV.out.cell rfl
    go_wp2_with (go_at_call 90;(with_reducible refine (agG _ _).mono ?_);rintro e w6 ⟨rfl,k_⟩;have K6:=ah k_;have hb6:=JV.out.kept k_ (fun h=>h);have h06:=H05.out.kept k_ (fun h=>h);have H06:=ah h06;have y0:=hb6.cell (i:=0) rfl;have y1:=hb6.cell (i:=1) rfl;have y2:=hb6.cell (i:=2) rfl;have y3:=hb6.cell (i:=3) rfl;have y4:=hb6.cell (i:=4) rfl;have t0:=h06.cell (i:=0) rfl;have t1:=h06.cell (i:=1) rfl;have t2:=h06.cell (i:=2) rfl;have t3:=h06.cell (i:=3) rfl;have t4:=h06.cell (i:=4) rfl;have s0:=h06.free 0;have s1:=h06.free 1;have s2:=h06.free 2;have s3:=h06.free 3;have s4:=h06.free 4;clear k_ hb6 h06)
    have hf:=((((H06.out.set 0 (.slice a0 S.output.length c0)).set 1 (.int .i64 S.how)).set 2 (.int .i64 S.steps)).set 3 (.slice va ks.length vc)).set 4 (.slice none 0 0)
    have z0:=hf.cell (i:=0) rfl
    have z1:=hf.cell (i:=1) rfl
    have z2:=hf.cell (i:=2) rfl
    have z3:=hf.cell (i:=3) rfl
    have z4:=hf.cell (i:=4) rfl
    refine bodyPost_ret (v:=.agg #[.slice a0 S.output.length c0,.int .i64 S.how,.int .i64 S.steps,.slice va ks.length vc,.slice none 0 0]) (by simp only [results,Tryz.results45,go_sem,z0,z1,z2,z3,z4];simp [results,go_sem,z0,z1,z2,z3,z4]) rfl ⟨_,_,_,_,_,_,rfl,?_⟩
    have aie:=(K1.out.trans K15.out).trans K6.out
    have Nq:w.heap.size≤B0:=by rw [HB0.out];exact Nat.le_refl _
    exact (((((aie.setCell (p:=⟨B0,0,none⟩) (.inr Nq) _).setCell (p:=⟨B0,1,none⟩) (.inr Nq) _).setCell (p:=⟨B0,2,none⟩) (.inr Nq) _).setCell (p:=⟨B0,3,none⟩) (.inr Nq) _).setCell (p:=⟨B0,4,none⟩) (.inr Nq) _)
end Go.Proofs.YtodebjhalipefaaGreatDoor
