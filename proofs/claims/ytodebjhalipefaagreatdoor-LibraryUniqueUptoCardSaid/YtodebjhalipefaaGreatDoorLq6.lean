/-  -/
import Derived.Test.YtodebjhalipefaaGreatDoorLq4
import Derived.Test.YtodebjhalipefaaGreatDoorShelf
import Derived.Test.YtodebjhalipefaaGreatDoorLq20
import Derived.BigRegion
namespace Go.Proofs.YtodebjhalipefaaGreatDoor
set_option linter.all false
open Go.RowKit
set_option maxRecDepth 100000
set_option maxHeartbeats 1000000
theorem xZ {s:aj} {l:List UInt8} (h:s=IQ l):(s.toList==l)=true:=by rw [EZ.1 h];simp
theorem x8 {s:aj} {l:List UInt8} (h:s≠IQ l):(s.toList==l)=false:=by
 have:s.toList≠l:=fun e=>h (EZ.2 e)
 simpa using this
theorem Ub {F:dG} {ov:Value} {S:aW} {w:World} (h:aY F ov S w) {t:aj} {r:List aj} (hr:S.input=t::r) :
  ∃b o c,w.cell? ⟨F.O,5,none⟩=some (.slice (some ⟨b,o,none⟩) (r.length+1:Nat) c)∧w.cell? ⟨b,o,none⟩=some (.string t)∧r.length+1≤c∧∀o' c',(o'=o+1∨r.length=0)→r.length≤c'→bf F ov w ov {S with input:=r} (w.setCell ⟨F.O,5,none⟩ (.slice (some ⟨b,o',none⟩) r.length c')):=by
 obtain ⟨a,c,h3,h4,h5⟩:=h.BQ
 have h4':=h4
 rw [hr] at h4 h5
 obtain ⟨b,o,rfl,hb,hc⟩:=h4 (by simp)
 have h0:=hc 0 (by simp)
 refine ⟨b,o,c,by rw [h3.cell (i:=5) rfl,hr];rfl,h0,by simpa using h5,fun o' c' ho hc'=>?_⟩
 refine h.TT (S':={S with input:=r}) (a':=some ⟨b,o',none⟩) (c':=c') ⟨_,c,⟨h3,h4',by rw [hr];exact h5⟩,rfl⟩ ?_ hc' rfl rfl rfl rfl
 intro hp
 have hp:0<r.length:=hp
 obtain rfl:o'=o+1:=ho.resolve_right (by omega)
 refine ⟨b,o+1,rfl,hb,fun i hi=>?_⟩
 have:=hc (i+1) (by simpa using hi)
 rw [show o+1+i=o+(i+1) by omega];exact this
theorem get_any (F:dG) (ov:Value) (S:aW) (n:aj) (w:World) (h:aY F ov S w) (hn:n.size≤1000000000) :
  Calls Tryz.prog 126 #[.pointer (some ⟨F.O,0,none⟩),.string n] w (Nj F ov w (jg S n)):=by
 obtain ⟨a,c,q0,_,_,_,_,q5,_,qf,_,_⟩:=h.kX
 have f5:=qf 5
 by_cases h1:n=fH
 ·have e1:(n.toList==[79,85,84,80,85,84])=true:=xZ h1
  have fin:Hid (jg S n=((⟨#[]⟩,true),S)):=if_pos h1
  have H:=ah h
  clear h h1
  go_enter Tryz.func126, Tryz.ntmps126
  go_wp2_with fail
  go_ret2
  exact ⟨by rw [fin.out];rfl,ov,by rw [fin.out];exact bf.refl H.out⟩
 have e1:(n.toList==[79,85,84,80,85,84])=false:=x8 h1
 by_cases h2:n=iY
 ·have e2:(n.toList==[73,78,80,85,84])=true:=xZ h2
  cases hi:S.input with
  | nil =>
   have fin:Hid (jg S n=((⟨#[]⟩,false),S)):=by unfold Hid jg;rw [if_neg h1,if_pos h2,hi]
   have H:=ah h
   rw [hi] at q5
   clear h h1 h2 hi
   go_enter Tryz.func126, Tryz.ntmps126
   go_wp2_with fail
   go_ret2
   exact ⟨by rw [fin.out];rfl,ov,by rw [fin.out];exact bf.refl H.out⟩
  | cons t r =>
   have fin:Hid (jg S n=((t,true),{S with input:=r})):=by unfold Hid jg;rw [if_neg h1,if_pos h2,hi]
   obtain ⟨b,o,c',k5,kt,hc,hr⟩:=Ub h hi
   by_cases hc1:c'=1
   ·subst hc1
    have hr0:=hr o 0 (.inr (by omega)) (by omega)
    rw [show r.length=0 by omega] at hr0
    have HR:=ah hr0
    clear hr0
    clear h h1 h2 hi q5 hr
    go_enter Tryz.func126, Tryz.ntmps126
    go_wp2_with fail
    go_ret2
    exact ⟨by rw [fin.out];rfl,ov,by rw [fin.out];exact HR.out⟩
   ·have HR:=ah (hr (o+1) (c'-1) (.inl rfl) (by omega))
    have hc2:¬c'-1=0:=by omega
    clear h h1 h2 hi q5 hr
    go_enter Tryz.func126, Tryz.ntmps126
    go_wp2_with fail
    go_ret2
    exact ⟨by rw [fin.out];rfl,ov,by rw [fin.out];exact HR.out⟩
 have e2:(n.toList==[73,78,80,85,84])=false:=x8 h2
 have fin:Hid (jg S n=((lookA S.vars n,true),S)):=by unfold Hid jg;rw [if_neg h1,if_neg h2]
 have hl:=h.vars.look n (by unfold maxLen;omega)
 have H:=ah h
 clear h h1 h2
 go_enter Tryz.func126, Tryz.ntmps126
 go_wp2_with fail
 go_ret2
 exact ⟨by rw [fin.out];rfl,ov,by rw [fin.out];exact bf.refl H.out⟩
theorem aac (F:dG) (ov:Value) (S:aW) (more:Int) (w:World) (h:aY F ov S w) (hb:S.bytes≤1048576) (hm : -65536≤more∧more≤1000000000) (h0:0≤(S.bytes:Int)+more) :
  Calls Tryz.prog 186 #[.pointer (some ⟨F.O,0,none⟩),.int .i64 more] w (sG F ov w (if 1048576<(S.bytes:Int)+more then (false,{S with how:=3}) else (true,{S with bytes:=((S.bytes:Int)+more).toNat}))):=by
 obtain ⟨a,c,_,_,q2,_,_,_,q6,qf,_,_⟩:=h.kX
 have f2:=qf 2
 have f6:=qf 6
 by_cases hc:1048576<(S.bytes:Int)+more
 ·have H3:=ah (h.Gp 3)
  rw [if_pos hc]
  have e1:decide (1048576<(S.bytes:Int)+more)=true:=ak hc
  clear h
  go_enter Tryz.func186, Tryz.ntmps186
  go_wp2_with fail
  go_ret
  exact ⟨rfl,ov,H3.out⟩
 ·have H3:=h.setBytes ((S.bytes:Int)+more).toNat
  rw [Int.toNat_of_nonneg h0] at H3
  have H3:=ah H3
  rw [if_neg hc]
  have e1:decide (1048576<(S.bytes:Int)+more)=false:=au hc
  clear h
  go_enter Tryz.func186, Tryz.ntmps186
  go_wp2_with fail
  go_ret
  exact ⟨rfl,ov,H3.out⟩
end Go.Proofs.YtodebjhalipefaaGreatDoor

namespace Go.Proofs.YtodebjhalipefaaGreatDoor
set_option linter.all false
open Go.RowKit
set_option maxRecDepth 100000
set_option maxHeartbeats 2000000
theorem aad {F:dG} {ov:Value} {S:aW} {w wb w2:World} {t:aj} {a:Option Addr} {c:Nat} (h:aY F ov S w) (hwb:Kept aA w wb)
  (hW:aP w2 F.M 9 1 (.slice a (S.output.length+1) c) (S.output.length+1) (S.output.map Value.string++[.string t])) (hg:wb.grownBy w2 ov.ownBlock)
  (ho:(Value.slice a (S.output.length+1) c).ownBlock=ov.ownBlock∨(Value.slice a (S.output.length+1) c).ownBlock=some wb.heap.size) :
  bf F ov w (.slice a (S.output.length+1) c) {S with output:=S.output++[t]} (w2.setCell ⟨F.O,4,none⟩ (.slice a (S.output.length+1) c)):=by
 generalize (Value.slice a (S.output.length+1) c)=qC at *
 have hO:=h.fix.nO
 have hsz:=hwb.size
 have kg:Kept (fun b=>ov.ownBlock=some b) w w2:=(hwb.more (fun _ h=>h.elim)).trans ((Kept.refl _ wb).grown hg fun k hk=>.inl hk)
 have hlow:∀b,ov.ownBlock=some b→F.M≤b:=fun b hb=>(h.out.lt b hb).1
 have hlow':∀b,qC.ownBlock=some b→F.M≤b:=fun b hb=>(hW.lt b hb).1
 have kO:Kept (· = F.O) w2 (w2.setCell ⟨F.O,4,none⟩ qC):=(Kept.refl (· = F.O) w2).setCell (p:=⟨F.O,4,none⟩) (.inl rfl) _
 have k:Kept (fun b=>b=F.O∨ov.ownBlock=some b) w (w2.setCell ⟨F.O,4,none⟩ qC):=(kg.more fun _ h=>.inr h).trans (kO.more fun _ h=>.inl h)
 have nx:∀b,b<F.M→b≠F.O→¬(b=F.O∨ov.ownBlock=some b):=fun b h1 h2 h3=>h3.elim h2 (fun h4=>by have:=hlow b h4;omega)
 have nN:∀b,(b=F.O∨ov.ownBlock=some b)→F.N≤b:=fun b hb=>hb.elim (fun e=>by omega) (fun e=>by have:=hlow b e;omega)
 obtain ⟨hs,h1,h2⟩:=h.hits
 obtain ⟨a1,c1,h3,h4,h5⟩:=h.BQ
 obtain ⟨n1,n2,n3,n4,n5,-⟩:=h.fix.ne
 have hbo:dI F.O 113 (Fe F ov S a1 c1) w2:=h3.kept kg (fun e=>by have:=hlow _ e;omega)
 refine ⟨⟨h.oJ.kept k nN,h.fix,Nat.le_trans h.sz k.size,h.run.kept k (nx _ h.fix.nR.2 (fun e=>n2 e.symm)),h.BP.kept k (nx _ h.fix.nW.2 (fun e=>n1 e.symm)),
  ⟨hs,h1,h2.kept k (nx _ h.fix.nH.2 (fun e=>n5 e.symm))⟩,⟨a1,c1,hbo.set 4 qC,rE h4 k h.oJ.low nN,h5⟩,?_,h.vars.kept k (nx _ h.fix.nV.2 (fun e=>n3 e.symm)),h.items.kept k (nx _ h.fix.nI.2 (fun e=>n4 e.symm))⟩,
  k.more (fun b hb=>hb.elim (fun e=>.inl e) (fun e=>.inr (.inr (.inr (.inr (.inr e)))))),fun b hb=>?_⟩
 ·have e:(S.output++[t]).length=S.output.length+1:=by simp
  have e2:(S.output++[t]).map Value.string=S.output.map Value.string++[.string t]:=by simp
  show aP _ _ _ _ _ (S.output++[t]).length ((S.output++[t]).map Value.string)
  rw [e,e2]
  exact hW.setCell (fun e=>by have:=hlow' _ e;have:F.M≤F.O:=this;omega) _
 ·rcases hb with hb|hb|hb|hb|hb|hb
  ·exact .inl (.inl hb)
  ·exact .inl (.inr (.inl hb))
  ·exact .inl (.inr (.inr (.inl hb)))
  ·exact .inl (.inr (.inr (.inr (.inl hb))))
  ·exact .inl (.inr (.inr (.inr (.inr (.inl hb)))))
  ·rcases ho with ho|ho
   ·exact .inl (.inr (.inr (.inr (.inr (.inr (by rw [←ho];exact hb))))))
   ·rw [ho] at hb;cases hb;exact .inr hsz
theorem aae (F:dG) (ov:Value) (S:aW) (t:aj) (w:World) (h:aY F ov S w) (hk:S.told≤1048576) (hl:S.output.length≤1048576) (ht:t.size≤65536) :
  Calls Tryz.prog 185 #[.pointer (some ⟨F.O,0,none⟩),.string t] w (sG F ov w (wF S t)):=by
 obtain ⟨i0,hi0,hz0,hz1,hz2⟩:=info_parts zl
 obtain ⟨a,c,_,_,_,q3,q4,_,q6,qf,_,_⟩:=h.kX
 have f3:=qf 3
 have f6:=qf 6
 by_cases hc:1048576<S.told+t.size+1
 ·have H3:=ah (h.Gp 3)
  unfold wF
  rw [if_pos hc]
  have e1:decide (1048576<(S.told:Int)+(t.size:Int)+1)=true:=ak (by omega)
  clear h hc
  go_enter Tryz.func185, Tryz.ntmps185
  go_wp2_with fail
  go_ret
  exact ⟨rfl,ov,H3.out⟩
 ·have R1:=h.acY (S.told+(t.size+1))
  unfold wF
  rw [if_neg hc]
  have e1:decide (1048576<(S.told:Int)+(t.size:Int)+1)=false:=au (by omega)
  have H1:=R1.at_
  rw [show ((S.told+(t.size+1):Nat):Int)=(S.told:Int)+((t.size:Int)+1) by omega] at R1 H1
  obtain ⟨w1,hw1⟩:∃w1,w1=w.setCell ⟨F.O,3,none⟩ (.int .i64 ((S.told:Int)+((t.size:Int)+1))):=⟨_,rfl⟩
  rw [←hw1] at R1 H1
  obtain ⟨a0,c0,hov⟩:=H1.out.shape
  subst hov
  have FN:Hid (∀{wb w2:World} {a:Option Addr} {c:Nat},Kept aA w1 wb→aP w2 F.M 9 1 (.slice a (S.output.length+1) c) (S.output.length+1) (S.output.map Value.string++[.string t])→wb.grownBy w2 (Value.slice a0 S.output.length c0).ownBlock→
   ((Value.slice a (S.output.length+1) c).ownBlock=(Value.slice a0 S.output.length c0).ownBlock∨(Value.slice a (S.output.length+1) c).ownBlock=some wb.heap.size)→_):=fun hwb hW hg ho=>R1.trans (aad H1 hwb hW hg ho)
  obtain ⟨a2,c2,_,_,_,_,g4,_,_,gf,_,_⟩:=H1.kX
  have g4f:=gf 4
  have WO:Hid (∀wb,Kept aA w1 wb→aP wb F.M 9 1 (.slice a0 S.output.length c0) S.output.length (S.output.map Value.string)):=fun wb hk=>H1.out.kept hk (fun _ _ h=>h)
  have FZ:Hid (∀wb w',Kept aA w1 wb→wb.grownBy w' (Value.slice a0 S.output.length c0).ownBlock→w'.cell? ⟨F.O,4,none⟩=some (.slice a0 S.output.length c0)∧w'.frozen? ⟨F.O,4,none⟩=false):=fun wb w' hk hg=>by
   obtain ⟨a3,c3,hb,_⟩:=(H1.quiet hk).BQ
   have hne:(Value.slice a0 S.output.length c0).ownBlock≠some F.O:=fun e=>by have:=(H1.out.lt _ e).1;have:=H1.fix.nO;omega
   have hb2:dI F.O 113 _ w':=hb.kept ((Kept.refl (fun b=>(Value.slice a0 S.output.length c0).ownBlock=some b) wb).grown hg fun k hk=>.inl hk) (fun e=>hne e)
   exact ⟨hb2.cell rfl,hb2.free 4⟩
  have HM:=ah H1.sz
  have HL:=ah hl
  have HW1:=ah hw1
  clear h hc R1 H1 hl hw1
  go_enter Tryz.func185, Tryz.ntmps185
  go_upto_region 5 with fail
  rw [←HW1.out]
  clear HW1 q3 f3 q4 q6 f6 qf
  go_wp2_with (at_builtin;go_loud (refine dw _ rfl (.tmp 31) (.tmp 33) 22 22 rfl F.M 9 i0 (.string ⟨#[]⟩) 1 16 Tryz.underlying22 hi0 hz0 hz1 hz2 rfl (.slice a0 S.output.length c0) S.output.length (S.output.map Value.string) rfl (WO.out _ (by repeat (first|exact Kept.refl aA _|refine Kept.drew ?_|refine Kept.alloc ?_ _))) _ 1 [.string t] rfl (IU Tryz.underlying22 1 rfl (ay _ _) (by intro u hu;simp at hu;rcases hu with rfl;rfl)) (by have:=HL.out;unfold maxLen;omega) (by have:=HL.out;omega) (by have:=HM.out;simp;omega) ?_);intro a4 c4 w4 Ej hg4 Gs;obtain ⟨d5,df⟩:=FZ.out _ _ (by repeat (first|exact Kept.refl aA _|refine Kept.drew ?_|refine Kept.alloc ?_ _)) hg4;have RES:=ah (FN.out (by repeat (first|exact Kept.refl aA _|refine Kept.drew ?_|refine Kept.alloc ?_ _)) Ej hg4 Gs);clear Ej hg4 Gs)
  go_ret
  exact ⟨rfl,_,RES.out⟩
end Go.Proofs.YtodebjhalipefaaGreatDoor

namespace Go.Proofs.YtodebjhalipefaaGreatDoor
set_option linter.all false
open Go.RowKit
set_option maxRecDepth 100000
set_option maxHeartbeats 2000000
theorem aY.aij {F:dG} {ov:Value} {S:aW} {w w':World} {l:List (aj×aj)} (h:aY F ov S w) (k:Kept (· = F.V) w w') (hm:iT w' F.V l none):bf F ov w ov {S with vars:=l} w':=by
 obtain ⟨n1,n2,n3,n4,n5,m1,m2,m3,m4,p1,p2,p3,r1,r2,r3⟩:=h.fix.ne
 obtain ⟨hs,h1,h2⟩:=h.hits
 obtain ⟨a,c,h3,h4,h5⟩:=h.BQ
 have hV:=h.fix.nV
 refine ⟨⟨h.oJ.kept k (fun b hb=>by have:b=F.V:=hb;omega),h.fix,Nat.le_trans h.sz k.size,h.run.kept k p1,h.BP.kept k m2,⟨hs,h1,h2.kept k (fun e=>r2 e.symm)⟩,
  ⟨a,c,h3.kept k n3,rE h4 k h.oJ.low (fun b hb=>by have:b=F.V:=hb;omega),h5⟩,?_,hm,h.items.kept k (fun e=>r1 e.symm)⟩,k.more (fun _ h=>.inr (.inr (.inl h))),fun _ h=>.inl h⟩
 exact h.out.kept k (fun b hb e=>by have e:b=F.V:=e;have:=h.out.lt b hb;omega)
theorem Wx {S:aW} {n t:aj} (h1:n≠iY) (h2:¬65536<t.size) (h3:n≠fH):fU S n t=if 1048576+(lookA S.vars n).size<S.bytes+t.size then (false,{S with how:=3}) else (true,{S with bytes:=S.bytes+t.size-(lookA S.vars n).size,vars:=jV S.vars n t}):=by
 unfold fU
 rw [if_neg (fun h=>h.elim h1 h2),if_neg h3]
theorem Rw {F:dG} {ov dU:Value} {S:aW} {w w1 w2:World} {b:Nat} {l:List (aj×aj)} (h:bf F ov w dU {S with bytes:=b} w1) (k:Kept (· = F.V) w1 w2) (hm:iT w2 F.V l none):bf F ov w dU {S with bytes:=b,vars:=l} w2:=h.trans (h.at_.aij k hm)
theorem set_any (F:dG) (ov:Value) (S:aW) (n t:aj) (w:World) (h:aY F ov S w) (ok:bG S) (hn:n.size≤1000000000) (ht:t.size≤1000000000) :
  Calls Tryz.prog 122 #[.pointer (some ⟨F.O,0,none⟩),.string n,.string t] w (sG F ov w (fU S n t)):=by
 have hol:S.output.length≤1048576:=by
  have h1:=ok.told
  have h2:=ok.much
  have h3:∀l:List aj,l.length≤(l.map fun t=>t.size+1).sum:=by
   intro l
   induction l with
   | nil=>exact Nat.le_refl _
   | cons a r ih=>simp only [List.length_cons,List.map_cons,List.sum_cons];omega
  have:=h3 S.output
  omega
 by_cases h1:n=iY
 ·have e1:(n.toList==[73,78,80,85,84])=true:=xZ h1
  have fin:Hid (fU S n t=(false,S)):=if_pos (.inl h1)
  have H:=ah h
  clear h h1 ok hol
  go_enter Tryz.func122, Tryz.ntmps122
  go_wp2_with fail
  go_ret
  exact ⟨by rw [fin.out];try rfl,ov,by rw [fin.out];exact bf.refl H.out⟩
 have e1:(n.toList==[73,78,80,85,84])=false:=x8 h1
 by_cases h2:65536<t.size
 ·have e2:decide ((65536:Int)<(t.size:Int))=true:=ak (by omega)
  have e2':decide (65536<t.size)=true:=ak h2
  have fin:Hid (fU S n t=(false,S)):=if_pos (.inr h2)
  have H:=ah h
  clear h h1 h2 ok hol
  go_enter Tryz.func122, Tryz.ntmps122
  go_wp2_with fail
  go_ret
  exact ⟨by rw [fin.out];try rfl,ov,by rw [fin.out];exact bf.refl H.out⟩
 have e2:decide ((65536:Int)<(t.size:Int))=false:=au (by omega)
 have e2':decide (65536<t.size)=false:=au h2
 by_cases h3:n=fH
 ·have e3:(n.toList==[79,85,84,80,85,84])=true:=xZ h3
  have fin:Hid (fU S n t=wF S t):=by unfold Hid fU;rw [if_neg (fun h=>h.elim h1 h2),if_pos h3]
  have HT:=ah (aae F ov S t w h ok.much hol (by omega))
  clear h h1 h2 h3 ok hol
  go_enter Tryz.func122, Tryz.ntmps122
  go_wp2_with (go_at_call 185;(refine HT.out.mono ?_);rintro e w1 ⟨rfl,dU,r_⟩;have R1:=ah r_;clear r_)
  go_ret
  exact ⟨by rw [fin.out];try rfl,dU,by rw [fin.out];exact R1.out⟩
 have e3:(n.toList==[79,85,84,80,85,84])=false:=x8 h3
 have hb:=ok.most
 have hlk:=Wy ok n
 have hl:=h.vars.look n (by unfold maxLen;omega)
 obtain ⟨a,c,q0,_⟩:=h.kX
 obtain ⟨lk,Uc⟩:∃lk,lk=lookA S.vars n:=⟨_,rfl⟩
 have hlz:lk.size≤65536:=by rw [Uc];by_cases h0:(lookA S.vars n).size=0;omega;exact (ok.WA _ (xX h0)).1
 have f4:=Wx (S:=S) (t:=t) h1 h2 h3
 rw [←Uc] at hlk hl f4
 have HR:=aac F ov S ((t.size:Int)-lk.size) w h hb (by omega) (by omega)
 by_cases hc:1048576+lk.size<S.bytes+t.size
 ·rw [if_pos hc] at f4
  rw [if_pos (by omega)] at HR
  have HR:=ah HR
  have fin:=ah f4
  clear h h1 h2 h3 hc Uc f4 ok hol
  go_enter Tryz.func122, Tryz.ntmps122
  go_wp2_with (go_at_call 186;(refine HR.out.mono ?_);rintro e w1 ⟨rfl,dU,r_⟩;have R1:=ah r_;clear r_)
  go_ret
  exact ⟨by rw [fin.out];try rfl,dU,by rw [fin.out];exact R1.out⟩
 rw [if_neg hc] at f4
 rw [if_neg (by omega)] at HR
 have hbe:((S.bytes:Int)+((t.size:Int)-lk.size)).toNat=S.bytes+t.size-lk.size:=by omega
 rw [hbe] at HR
 have HR:=ah HR
 have fin:=ah f4
 have ho:=ok.vars
 have hvl:S.vars.length<maxLen:=by
  have:=zu (fun _=>0) ok.vars
  have:=ok.bytes
  unfold maxLen;omega
 have hs:n.size≤maxLen:=by unfold maxLen;omega
 have hs':t.size≤maxLen:=by unfold maxLen;omega
 have HO:=ah ho
 clear h h1 h2 h3 hc Uc f4 ok hol hbe hlk hb ho
 by_cases h0:t.size=0
 ·have e0:(t.toList==[])=true:=xZ (oZ h0)
  have Z:=ah h0
  clear h0
  go_enter Tryz.func122, Tryz.ntmps122
  go_upto_region 7 with (go_at_call 186;(refine HR.out.mono ?_);rintro e w1 ⟨rfl,dU,r_⟩;have R1:=ah r_;obtain ⟨a1,c1,g0,_⟩:=r_.at_.kX;clear r_)
  go_wp2_with (first
   | (refine Eo rfl _ _ _ rfl rfl R1.out.at_.vars HO.out hvl n t rfl hs rfl hs' ?_;intro w2 Ep fV;rw [if_pos Z.out] at Ep;have M2:=ah Ep;have K2:=ah fV;obtain ⟨g0',_⟩:w2.cell? ⟨F.O,0,none⟩=some (.map (some F.V))∧True:=⟨(fV.cell (R1.out.at_.xlt (.inl rfl)).2 (R1.out.at_.fix.ne.2.2.1)).trans g0,trivial⟩;clear Ep fV)
   | (refine Qr rfl _ _ rfl rfl M2.out rfl hs ?_;intro w3 Ep fV;have K3:=ah (K2.out.trans fV);have M3:=ah Ep;clear Ep fV))
  go_ret
  refine ⟨by rw [fin.out];try rfl,dU,?_⟩
  rw [fin.out]
  have M:iT w3 F.V (jV S.vars n t) none:=by unfold jV;rw [if_pos Z.out];exact M3.out
  exact Rw R1.out K3.out M
 ·have e0:(t.toList==[])=false:=x8 (fun e=>h0 (by rw [e];rfl))
  go_enter Tryz.func122, Tryz.ntmps122
  go_upto_region 7 with (go_at_call 186;(refine HR.out.mono ?_);rintro e w1 ⟨rfl,dU,r_⟩;have R1:=ah r_;obtain ⟨a1,c1,g0,_⟩:=r_.at_.kX;clear r_)
  go_wp2_with (refine Eo rfl _ _ _ rfl rfl R1.out.at_.vars HO.out hvl n t rfl hs rfl hs' ?_;intro w2 Ep fV;rw [if_neg h0] at Ep;have M2:=ah Ep;have K2:=ah fV;clear Ep fV)
  go_ret
  refine ⟨by rw [fin.out];try rfl,dU,?_⟩
  rw [fin.out]
  have M:iT w2 F.V (jV S.vars n t) none:=M2.out
  exact Rw R1.out K2.out M
end Go.Proofs.YtodebjhalipefaaGreatDoor

namespace Go.Proofs.YtodebjhalipefaaGreatDoor
set_option linter.all false
open Go.RowKit
set_option maxRecDepth 100000
set_option maxHeartbeats 1000000
theorem WC (F:dG) (ov:Value) (S:aW) (n k:aj) (w:World) (h:aY F ov S w) (hn:n.size≤1000000000) :
  Calls Tryz.prog 85 #[.pointer (some ⟨F.O,0,none⟩),.agg #[.string n,.string k,.bool false]] w (Nj F ov w (jg S n)):=by
 obtain ⟨w1,hw1⟩:∃w1,w1=w.alloc (.cells #[.string n,.string k,.bool false] 161):=⟨_,rfl⟩
 have k1:Kept aA w w1:=by rw [hw1];exact (Kept.refl aA w).alloc _
 have hb:dI w.heap.size 161 [.string n,.string k,.bool false] w1:=by rw [hw1];exact dI.new _ _ _
 have c0:w1.cell? ⟨w.heap.size,0,none⟩=some (.string n):=hb.cell rfl
 have c2:w1.cell? ⟨w.heap.size,2,none⟩=some (.bool false):=hb.cell rfl
 obtain ⟨B,hB⟩:∃B,B=w.heap.size:=⟨_,rfl⟩
 rw [←hB] at c0 c2
 have HG:=ah (get_any F ov S n w1 (h.quiet k1) hn)
 have K1:=ah k1
 have HW:=ah hw1;have HB:=ah hB
 clear h k1 hw1 hb hB
 go_enter Tryz.func85, Tryz.ntmps85
 go_upto_region 1 with fail
 rw [←HW.out,←HB.out]
 go_wp2_with (go_at_call 126;(with_reducible refine HG.out.mono ?_);rintro e w2 ⟨rfl,dU,r_⟩;have R1:=ah r_;clear r_)
 go_ret2
 exact ⟨rfl,dU,bf.after K1.out R1.out⟩
theorem write_any (F:dG) (ov:Value) (S:aW) (n k t:aj) (w:World) (h:aY F ov S w) (ok:bG S) (hn:n.size≤1000000000) (ht:t.size≤1000000000) :
  Calls Tryz.prog 86 #[.pointer (some ⟨F.O,0,none⟩),.agg #[.string n,.string k,.bool false],.string t] w (sG F ov w (fU S n t)):=by
 obtain ⟨w1,hw1⟩:∃w1,w1=w.alloc (.cells #[.string n,.string k,.bool false] 161):=⟨_,rfl⟩
 have k1:Kept aA w w1:=by rw [hw1];exact (Kept.refl aA w).alloc _
 have hb:dI w.heap.size 161 [.string n,.string k,.bool false] w1:=by rw [hw1];exact dI.new _ _ _
 have c0:w1.cell? ⟨w.heap.size,0,none⟩=some (.string n):=hb.cell rfl
 have c2:w1.cell? ⟨w.heap.size,2,none⟩=some (.bool false):=hb.cell rfl
 obtain ⟨B,hB⟩:∃B,B=w.heap.size:=⟨_,rfl⟩
 rw [←hB] at c0 c2
 have HG:=ah (set_any F ov S n t w1 (h.quiet k1) ok hn ht)
 have K1:=ah k1
 have HW:=ah hw1;have HB:=ah hB
 clear h k1 hw1 hb hB
 go_enter Tryz.func86, Tryz.ntmps86
 go_upto_region 1 with fail
 rw [←HW.out,←HB.out]
 go_wp2_with (go_at_call 122;(with_reducible refine HG.out.mono ?_);rintro e w2 ⟨rfl,dU,r_⟩;have R1:=ah r_;clear r_)
 go_ret
 exact ⟨rfl,dU,bf.after K1.out R1.out⟩
theorem ac0 (n:aj) (w:World):Calls Tryz.prog 123 #[.string n] w (fun e w'=>e=.returned (.agg #[.string n,.string ⟨#[]⟩,.bool false])∧Kept aA w w'):=by
 go_enter Tryz.func123, Tryz.ntmps123
 go_wp2_with fail
 have hb:=dI.new w 161 [.string n,.string ⟨#[]⟩,.bool false]
 have c0:=hb.cell (i:=0) rfl
 have c1:=hb.cell (i:=1) rfl
 have c2:=hb.cell (i:=2) rfl
 exact bodyPost_ret (v:=.agg #[.string n,.string ⟨#[]⟩,.bool false]) (by simp [results,Tryz.results123,go_sem]) rfl ⟨rfl,(Kept.refl _ _).alloc _⟩
def PlQ (F:dG) (ov:Value) (w:World) (r:Option JQ×aW) (e:Ending) (w':World):Prop :=
 (∃p:JQ,e=.returned (.tuple #[.agg #[.string p.name,.string p.key,.bool p.keyed],.bool r.1.isSome])∧∀q,r.1=some q→p=q)∧∃qC,bf F ov w qC r.2 w'
theorem Nj.back {F:dG} {ov dU:Value} {S1:aW} {w w1 wx:World} {r:(aj×Bool)×aW} (h:bf F ov w dU S1 w1) (k:Kept aA w1 wx) {e:Ending} {w':World} (q:Nj F dU wx r e w'):Nj F ov w r e w':=by
 obtain ⟨rfl,kW,r2⟩:=q
 exact ⟨rfl,kW,h.trans (bf.after k r2)⟩
theorem sG.back {F:dG} {ov dU:Value} {S1:aW} {w w1 wx:World} {r:Bool×aW} (h:bf F ov w dU S1 w1) (k:Kept aA w1 wx) {e:Ending} {w':World} (q:sG F dU wx r e w'):sG F ov w r e w':=by
 obtain ⟨rfl,kW,r2⟩:=q
 exact ⟨rfl,kW,h.trans (bf.after k r2)⟩
def yh (M:Nat) (n k:aj) (b:Bool) (w:World):Prop:=dI M 161 [.string n,.string k,.bool b] w
theorem yh.cells {M:Nat} {n k:aj} {b:Bool} {w:World} (h:yh M n k b w):w.cell? ⟨M,0,none⟩=some (.string n)∧w.cell? ⟨M,1,none⟩=some (.string k)∧w.cell? ⟨M,2,none⟩=some (.bool b)∧∀i,w.frozen? ⟨M,i,none⟩=false :=
 ⟨dI.cell h rfl,dI.cell h rfl,dI.cell h rfl,dI.free h⟩
theorem yh.put {M:Nat} {n k:aj} {b:Bool} {w:World} (h:yh M n k b w) (n' k':aj) (b':Bool) :
  yh M n' k' b' (((w.setCell ⟨M,0,none⟩ (.string n')).setCell ⟨M,1,none⟩ (.string k')).setCell ⟨M,2,none⟩ (.bool b'))∧Kept (· = M) w (((w.setCell ⟨M,0,none⟩ (.string n')).setCell ⟨M,1,none⟩ (.string k')).setCell ⟨M,2,none⟩ (.bool b')) :=
 ⟨((dI.set h 0 (.string n')).set 1 (.string k')).set 2 (.bool b'),((((Kept.refl (· = M) w).setCell (p:=⟨M,0,none⟩) (.inl rfl) _).setCell (p:=⟨M,1,none⟩) (.inl rfl) _).setCell (p:=⟨M,2,none⟩) (.inl rfl) _)⟩
theorem WE {F:dG} {ov:Value} {w w2:World} {f:Func} {tmps:Array Value} {M:Nat} {n k:aj} {b c:Bool} {r:Option JQ×aW} {dU:Value} (hf:f.results = #[.cell 4 161,.tmp 5]) (h4:tmps.getD 4 undef=.pointer (some ⟨M,0,none⟩)) (h5:tmps.getD 5 undef=.bool c)
  (hM:yh M n k b w2) (hc:c=r.1.isSome) (hq:∀q,r.1=some q→(⟨n,k,b⟩:JQ)=q) (hr:bf F ov w dU r.2 w2):bodyPost Tryz.prog f (PlQ F ov w r) .ret ⟨tmps,[]⟩ w2:=by
 obtain ⟨c0,c1,c2,_⟩:=hM.cells
 have NC:tmps[4]?.getD undef=.pointer (some ⟨M,0,none⟩):=by rw [←h4,Array.getD_eq_getD_getElem?]
 have ht5:tmps[5]?.getD undef=.bool c:=by rw [←h5,Array.getD_eq_getD_getElem?]
 refine bodyPost_ret (v:=.tuple #[.agg #[.string n,.string k,.bool b],.bool c]) (by simp [results,hf,go_sem,NC,ht5,c0,c1,c2]) rfl ⟨⟨⟨n,k,b⟩,by rw [hc],hq⟩,dU,hr⟩
theorem Gu (F:dG) (ov:Value) (S:aW) (Sx:Nat→Prop) (x:aB) (b o:Nat) (w:World) (h:aY F ov S w) (hx:aU w Sx b o x) (hs:Safe Sx aA w.heap.size) (h3:x.kind=3) :
  Calls Tryz.prog 84 #[.pointer (some ⟨F.R,0,none⟩),.pointer (some ⟨b,o,none⟩)] w (PlQ F ov w (nT x S)):=by
 have fin:Hid (nT x S=(some ⟨x.name,⟨#[]⟩,false⟩,S)):=if_pos h3
 obtain ⟨k,t,n,nm,kids⟩:=x
 obtain rfl:k=3:=h3
 obtain ⟨w1,hw1⟩:∃w1,w1=w.alloc (.cells #[.string ⟨#[]⟩,.string ⟨#[]⟩,.bool false] 161):=⟨_,rfl⟩
 have k1:Kept aA w w1:=by rw [hw1];exact (Kept.refl aA w).alloc _
 have hb:yh w.heap.size ⟨#[]⟩ ⟨#[]⟩ false w1:=by rw [hw1];exact dI.new _ _ _
 have hp:=hx.kept k1 hs
 unfold aU at hp
 obtain ⟨_,_,q0,_,_,q3,_⟩:=hp
 obtain ⟨M,hM⟩:∃M,M=w.heap.size:=⟨_,rfl⟩
 rw [←hM] at hb
 have HB:=ah hb;have K1:=ah k1;have HW:=ah hw1;have HM:=ah hM;have H:=ah h
 clear hx hb k1 hw1 hM h
 go_enter Tryz.func84, Tryz.ntmps84
 go_upto_region 1 with fail
 rw [←HW.out,←HM.out]
 go_wp2_with (go_at_call 123;(with_reducible refine (ac0 nm _).mono ?_);rintro e w2 ⟨rfl,k_⟩;have K2:=ah k_;have B2:=ah (dI.kept HB.out k_ (fun h=>h));obtain ⟨c0,c1,c2,cf⟩:=yh.cells B2.out;have f0:=cf 0;have f1:=cf 1;have f2:=cf 2;clear k_)
 have P:=yh.put B2.out nm ⟨#[]⟩ false
 refine WE (r:=nT (.mk 3 t n nm kids) S) Tryz.results84 rfl rfl P.1 (by rw [fin.out];rfl) (by rw [fin.out];intro q hq;cases hq;rfl) (dU:=ov) ?_
 rw [fin.out]
 exact ((bf.refl H.out).quiet (K1.out.trans K2.out)).local P.2 H.out (fun b hb=>by obtain rfl:b=M:=hb;exact ⟨by rw [HM.out];exact Nat.le_refl _,H.out.mine (by rw [HM.out];exact Nat.le_refl _)⟩)
end Go.Proofs.YtodebjhalipefaaGreatDoor
