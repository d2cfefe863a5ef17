/-  -/
import Derived.Test.YtgoijmpahffnhaaGreatDoorPs30
import Derived.Test.YtgoijmpahffnhaaGreatDoorShelf
import Derived.Test.YtgoijmpahffnhaaGreatDoorLc17
namespace Go.Proofs.YtgoijmpahffnhaaGreatDoor
set_option linter.all false
open Go.RowKit
set_option maxRecDepth 100000
set_option maxHeartbeats 16000000
def nl:aj:=⟨#[10]⟩
def yA (s:aj):List aj:=Lib.splitB nl 0 (Lib.countB s nl) s
def sO (l:List aj):List aj:=if l.getLast?=some E0 then l.dropLast else l
def lN (i:Nat) (out:List aG):List aj→Except Er (List aG)
 | []=>.ok out
 | t::r=>match lU t with
  | .error er=>if er.1≠0 then .error (er.1,i) else lN (i+1) out r
  | .ok none=>lN (i+1) out r
  | .ok (some x)=>lN (i+1) (out++[x]) r
def qm (s:aj):Except Er (List aG) :=
 if 65536<s.size then .error (4,0)
 else if 1000<(sO (yA s)).length then .error (5,0)
 else lN 0 [] (sO (yA s))
def aeD (s:aj) (w:World) (e:Ending) (w':World):Prop :=
 Kept aB w w'∧match qm s with
  | .ok l=>∃a c S,e=.returned (.tuple #[.slice a l.length c,KY (0,0)])∧oU w' S a l∧∀b,S b→w.heap.size≤b∧b<w'.heap.size
  | .error er=>e=.returned (.tuple #[.slice none 0 0,KY er])
theorem Xt (s:aj):(yA s).length=Lib.countB s nl+1:=Lib.splitB_all nl (by decide) 0 _ s rfl
theorem ZU (a:Option Addr) (n c:Nat) (w:World) (h:(a=none∧n=0∧c=0)∨(∃g o,a=some ⟨g,o,none⟩∧n≤c)):Calls Tryz.prog 24 #[.slice a n c] w (fun e w'=>e=.returned (.slice a n n)∧w'=w):=by
 rcases h with ⟨rfl,rfl,rfl⟩|⟨g,o,rfl,h1⟩
 ·go_enter Tryz.func24, Tryz.ntmps24
  go_wp2_with fail
  go_ret
  exact ⟨rfl,rfl⟩
 ·have hsz:∀wx,(sizeOf 59).run Tryz.prog wx=.ok 24 wx:=fun _=>by kernel_rfl
  have hsl:∀wx,(Instr.slice 37 (.slice (some ⟨g,o,none⟩) n c) none (some (.int .i64 n)) (some (.int .i64 n))).run Tryz.prog wx=.ok (.slice (some ⟨g,o,none⟩) n n) wx:=by
   intro wx
   unfold Instr.slice Instr.sliceBounds Instr.sliceBound
   simp only [Sem.run_bind,run_underlying Tryz.underlying37,Result.andThen_ok,Sem.run_pure,asIntOf]
   rw [if_pos ⟨by omega,by omega⟩]
   simp only [Sem.run_pure,Result.andThen_ok,hsz]
   rw [if_pos ⟨by omega,by omega⟩]
   simp only [Sem.run_pure,Result.andThen_ok,hsz]
   by_cases hn:n=0
   ·simp [Addr.add,hn]
   ·simp [Addr.add,hn]
  have hs1:=hsl w
  go_enter Tryz.func24, Tryz.ntmps24
  go_wp2_with fail
  go_ret
  exact ⟨rfl,rfl⟩
theorem LG {ops:Array Oper} {rest:List Oper} {o:Oper} {a:Act} {Q:Exit→Act→World→Prop} {w:World} (hgd:o.guard=none) (s x:Operand)
  (ho:o.op=.call {callee:=.builtin .append,args:=#[s,x],argTypes:=#[37,37]})
  (v:Value) (n:Nat) (cs:List Value) (hs:a.eval s=v) (B:Nat) (hown:aS w B 59 24 v n cs) (g:Nat) (hx:a.eval x=.slice (some ⟨g,0,none⟩) 1 1)
  (sa:iM) (st:aG) (hg:bZ g sa st w) (hn:n≤1000000) (hB:B≤w.heap.size)
  (h:∀a' c' w',aS w' B 59 24 (.slice a' (n+1) c') (n+1) (cs++bV sa st)→w.grownBy w' v.ownBlock→((Value.slice a' (n+1) c').ownBlock=v.ownBlock∨(Value.slice a' (n+1) c').ownBlock=some w.heap.size)→wpList Tryz.prog ops Q rest (a.put o.dst (.slice a' (n+1) c')) w') :
  wpList Tryz.prog ops Q (o::rest) a w:=by
 obtain ⟨i0,hi0,hz0,hz1,hz2⟩:=info_parts aa5
 exact dK w hgd s x _ _ ho B 59 i0 U5 24 368 Tryz.underlying37 hi0 hz0 hz1 hz2 rfl v n cs hs hown _ 1 _ hx (acI hg) (by unfold maxLen;omega) (by omega) hB h
structure RN (B F:Nat) (w1:World) (out:List aG) (v:Value) (wx:World):Prop where
 win:∃cs S,aS wx B 59 24 v out.length cs∧iF wx S cs out∧∀b,S b→B≤b∧b<wx.heap.size∧v.ownBlock≠some b
 k:Kept aB w1 wx
 lt:B=w1.heap.size
theorem RN.kept {B F:Nat} {w1 wx wy:World} {out:List aG} {v:Value} (h:RN B F w1 out v wx) (hk:Kept aB wx wy):RN B F w1 out v wy:=by
 obtain ⟨⟨cs,S,h1,h2,h3⟩,h4,h5⟩:=h
 exact ⟨⟨cs,S,h1.kept hk (fun _ _ h=>h),h2.kept hk (fun b hb=>⟨(h3 b hb).2.1,fun h=>h⟩),fun b hb=>⟨(h3 b hb).1,Nat.lt_of_lt_of_le (h3 b hb).2.1 hk.size,(h3 b hb).2.2⟩⟩,h4.trans hk,h5⟩
theorem La (l:List aj):(sO l).length≤l.length:=by
 unfold sO;split
 ·rw [List.length_dropLast];omega
 ·exact Nat.le_refl _
theorem Lc (l:List aj) (j:Nat) (h:j<(sO l).length):(sO l)[j]=l[j]'(Nat.lt_of_lt_of_le h (La l)):=by
 unfold sO at h⊢
 split
 ·simp [List.getElem_dropLast]
 ·rfl
theorem Qn (i:Nat) (out:List aG) (l:List aj) (j:Nat) (h:j<l.length):lN i out (l.drop j)=match lU l[j] with
  | .error er=>if er.1≠0 then .error (er.1,i) else lN (i+1) out (l.drop (j+1))
  | .ok none=>lN (i+1) out (l.drop (j+1))
  | .ok (some x)=>lN (i+1) (out++[x]) (l.drop (j+1)):=by
 rw [List.drop_eq_getElem_cons h,lN]
theorem iF.more {w:World} {S S':Nat→Prop}:∀{l:List aG} {cs:List Value},iF w S cs l→(∀b,S b→S' b)→iF w S' cs l
 | [],_,h,_=>h
 | p::ps,cs,h,hs=>by
  rw [iF] at h⊢;obtain ⟨sa,r,rfl,hz,h1,h2⟩:=h
  exact ⟨sa,r,rfl,hz,⟨aI.same (fun _ _=>rfl) hs _ _ h1.target,aI.same (fun _ _=>rfl) hs _ _ h1.value,aI.same (fun _ _=>rfl) hs _ _ h1.pat,fun h=>(by obtain ⟨b,o,e,hb,hc⟩:=h1.params h;exact ⟨b,o,e,hs b hb,hc⟩),fun h=>(by obtain ⟨b,o,e,hb,hc⟩:=h1.locals h;exact ⟨b,o,e,hs b hb,hc⟩)⟩,h2.more hs⟩
theorem vF {w w2:World} (h:jC w) (k:Kept aB w w2):jC w2:=by
 obtain ⟨ev,h1,h2⟩:=h;exact ⟨ev,(k.cell (cell_lt h1) (fun h=>h)).trans h1,h2⟩
theorem Vj (s:aj) (w:World) (hs:s.size≤1000000000) (hm:rG w) (hr:jC w):Calls Tryz.prog 17 #[.string s] w (aeD s w):=by
 obtain ⟨w0,hw0⟩:∃w0,w0=w.alloc (.cells #[.int .i64 0,.int .i64 0] 39):=⟨_,rfl⟩
 have k0:Kept aB w w0:=by rw [hw0];exact (Kept.refl _ _).alloc _
 have F0:Hid (Fl w.heap.size 0 0 w0):=by rw [hw0];exact ay w _
 have M0:=hm.kept k0 (fun h=>h);have G0:=vF hr k0
 have HW0:=ah hw0;have K0:=ah k0
 obtain ⟨F,hF⟩:∃F,F=w.heap.size:=⟨_,rfl⟩
 rw [←hF] at F0
 have HF:=ah hF
 have hz0:w0.heap.size=F+1:=by rw [hw0,hF];simp
 have HZ0:=ah hz0
 clear hw0 k0 hF hz0 hm hr
 by_cases hbig:65536<s.size
 ·have fin:Hid (qm s=.error (4,0)):=by unfold Hid qm;rw [if_pos hbig]
  have d1:decide ((65536:Int)<(s.size:Int))=true:=ak (by omega)
  have d2:decide (65536<s.size)=true:=ak hbig
  clear hbig
  obtain ⟨f0,f1,f2,f3⟩:=F0.out.cells
  go_enter Tryz.func17, Tryz.ntmps17
  go_upto_region 1 with fail
  rw [←HW0.out,←HF.out]
  go_wp2_with fail
  refine uz rfl rfl rfl (F0.out.set _ _) ⟨K0.out.pF (Nat.le_of_eq HF.out.symm) _ _,?_⟩
  rw [fin.out];exact rfl
 have d1:decide ((65536:Int)<(s.size:Int))=false:=au (by omega)
 have d2:decide (65536<s.size)=false:=au hbig
 have HE:Hid (qm s=if 1000<(sO (yA s)).length then .error (5,0) else lN 0 [] (sO (yA s))):=by unfold Hid qm;rw [if_neg hbig]
 obtain ⟨L,hL⟩:∃L,L=yA s:=⟨_,rfl⟩
 have Xu:=Xt s
 rw [←hL] at Xu HE
 obtain ⟨m,hmx⟩:∃m,w0.cell? ⟨0,0,none⟩=some (.int .i64 m):=M0
 have HSP:=ah (Tryz.strings_Split s nl m w0 (by omega) hmx (by decide))
 have hcl:Lib.countB s nl≤s.size:=Lib.countB_le nl (by decide) _ s (Nat.le_refl _)
 obtain ⟨n,hn⟩:∃n,n=Lib.countB s nl+1:=⟨_,rfl⟩
 rw [←hn] at Xu HSP
 have hn0:0<n:=by omega
 have hnb:n≤65537:=by omega
 rw [show Lib.splitB nl 0 (Lib.countB s nl) s=L from hL.symm] at HSP
 obtain ⟨w1,hw1⟩:∃w1,w1=w0.alloc (.cells (L.map Value.string).toArray 9):=⟨_,rfl⟩
 have k1:Kept aB w0 w1:=by rw [hw1];exact (Kept.refl _ _).alloc _
 have hrow:w1.heap[w0.heap.size]?=some (.cells (L.map Value.string).toArray 9 (0,0)):=by rw [hw1];exact ay w0 _
 obtain ⟨g,hg⟩:∃g,g=w0.heap.size:=⟨_,rfl⟩
 rw [←hw1,←hg] at HSP
 rw [←hg] at hrow
 have HC:Hid (∀j (h:j<L.length),w1.cell? ⟨g,j,none⟩=some (.string L[j])):=by
  intro j h
  rw [cell_of_row w1 g j _ _ _ hrow]
  simp [h]
 have F1:=ah (F0.out.kept k1 (fun h=>h))
 have HM:Hid (rG w1):=rG.kept ⟨m,hmx⟩ k1 (fun h=>h)
 have HG:=ah (vF G0 k1)
 have K1:=ah (K0.out.trans k1)
 have hgl:g<w1.heap.size:=(Array.getElem?_eq_some_iff.1 hrow).1
 have hLz:∀j (h:j<L.length),L[j].size≤s.size:=by
  intro j h
  have hm:L[j]∈yA s:=by
   have:=List.getElem_mem h
   exact hL ▸ this
  have key:∀(k:Nat) (s:aj),∀x∈Lib.splitB nl 0 k s,x.size≤s.size:=by
   intro k
   induction k with
   | zero=>intro s x hx;rw [Lib.splitB_zero] at hx;rw [List.mem_singleton.1 hx];exact Nat.le_refl _
   | succ k ih =>
    intro s x hx
    rcases Lib.indexB_cases s nl with hi|⟨i,hi2,_⟩
    ·rw [Lib.splitB_miss nl 0 _ s hi] at hx;rw [List.mem_singleton.1 hx];exact Nat.le_refl _
    ·rw [Lib.splitB_hit nl 0 k s i hi2] at hx
     rcases List.mem_cons.1 hx with rfl|hx
     ·rw [ByteArray.size_extract];omega
     ·have:=ih _ x hx;rw [ByteArray.size_extract] at this;omega
  exact key _ s _ hm
 have HLZ:=ah hLz
 clear hw1 k1 hg hL hcl hn hmx G0 hLz hrow
 go_enter Tryz.func17, Tryz.ntmps17
 go_upto_region 1 with fail
 rw [←HW0.out,←HF.out]
 go_upto_region 4 with (go_at_call 22;(refine HSP.out.mono ?_);rintro e w2 ⟨rfl,aK⟩;subst aK)
 obtain ⟨w1,rfl⟩:∃x:World,x=w2:=⟨_,rfl⟩
 obtain ⟨n1,hn1⟩:∃n1,n=n1+1:=⟨n-1,by omega⟩
 have ag6:(n:Int)-1=(n1:Int):=by omega
 have bi:(n1:Int)<(n:Int):=by omega
 have hlast:L.getLast?=some (L[n1]'(by omega)):=by rw [List.getLast?_eq_getElem?,show L.length-1=n1 by omega];exact List.getElem?_eq_getElem (by omega)
 have cl:=HC.out n1 (by omega)
 obtain ⟨x1,hx1⟩:∃x,x=L[n1]'(by omega):=⟨_,rfl⟩
 rw [←hx1] at cl hlast
 obtain ⟨ls,hls⟩:∃ls,ls=sO L:=⟨_,rfl⟩
 have HLE:Hid (ls.length≤n):=by unfold Hid;rw [hls,←Xu];exact La L
 have HCL:Hid (∀j (h:j<ls.length),w1.cell? ⟨g,j,none⟩=some (.string ls[j])):=by
  unfold Hid;subst hls
  intro j h
  rw [Lc L j h];exact HC.out j _
 have HSZ:Hid (∀j (h:j<ls.length),ls[j].size≤s.size):=by
  unfold Hid;subst hls
  intro j h
  rw [Lc L j h];exact HLZ.out j _
 have hsl:∀wx,(Instr.slice 22 (.slice (some ⟨g,0,none⟩) n n) none (some (.int .i64 n1)) none).run Tryz.prog wx=.ok (.slice (some ⟨g,0,none⟩) n1 n) wx:=by
  intro wx
  have hsz:(sizeOf 9).run Tryz.prog wx=.ok 1 wx:=by kernel_rfl
  unfold Instr.slice Instr.sliceBounds Instr.sliceBound
  simp only [Sem.run_bind,run_underlying Tryz.underlying22,Result.andThen_ok,Sem.run_pure,asIntOf]
  rw [if_pos ⟨by omega,by omega⟩]
  simp only [Sem.run_pure,Result.andThen_ok,hsz]
  have hn:¬(n=0):=by omega
  simp [Addr.add,hn]
 rw [←hls] at HE
 have HN1:=ah hn1
 clear hx1 hn1
 go_upto_if 23 with fail
 go_cut [4] (fun v wx=>v=.slice (some ⟨g,0,none⟩) ls.length n∧w1=wx)
 case first =>
  by_cases he:x1=E0
  ·have y1:x1.toList.isEmpty=true:=by rw [he];exact kZ
   have y2:(x1.toList==[])=true:=by rw [he,ByteArray.toList_eq];rfl
   have hlen:ls.length=n1:=by rw [hls];unfold sO;rw [if_pos (by rw [hlast,he]),List.length_dropLast,Xu,HN1.out];rfl
   have hs1:=hsl w1
   have HLn:=ah hlen
   clear he hlast hls hsl hlen
   rw [y1]
   go_wp2_with fail
   go_meet
   exact ⟨by rw [HLn.out],rfl⟩
  ·have y1:x1.toList.isEmpty=false:=oL he
   have y2:(x1.toList==[])=false:=by
    cases h:(x1.toList==[]) with
    | false=>rfl
    | true=>rw [eq_of_beq h] at y1;cases y1
   have hlen:ls.length=n:=by rw [hls];unfold sO;rw [if_neg (by rw [hlast];intro h;exact he (Option.some.inj h)),Xu]
   have HLn:=ah hlen
   clear he hlast hls hsl hlen
   rw [y1]
   go_wp2_with fail
   go_meet
   exact ⟨by rw [HLn.out],rfl⟩
 case rest =>
  obtain ⟨rfl,rfl⟩:=hcut
  clear hsl hlast hls cl HC HLZ bi ag6
  have hlb:ls.length≤65537:=by have:=HLE.out;omega
  by_cases BA:1000<ls.length
  ·have fin:Hid (qm s=.error (5,0)):=by unfold Hid;rw [HE.out,if_pos BA]
   have d3:decide ((1000:Int)<(ls.length:Int))=true:=ak (by omega)
   have d4:decide (1000<ls.length)=true:=ak BA
   clear BA
   obtain ⟨f0,f1,f2,f3⟩:=F1.out.cells
   go_wp2_with fail
   refine uz rfl rfl rfl (F1.out.set _ _) ⟨K1.out.pF (Nat.le_of_eq HF.out.symm) _ _,?_⟩
   rw [fin.out];exact rfl
  have d3:decide ((1000:Int)<(ls.length:Int))=false:=au (by omega)
  have d4:decide (1000<ls.length)=false:=au BA
  have HE2:Hid (qm s=lN 0 [] (ls.drop 0)):=by unfold Hid;rw [HE.out,if_neg BA,List.drop_zero]
  have HL1:Hid (ls.length≤1000):=Nat.not_lt.1 BA
  obtain ⟨B,hB⟩:∃B,B=w1.heap.size:=⟨_,rfl⟩
  have HB:=ah hB
  have I0:Hid (RN B F w1 [] (.slice none 0 0) w1):=⟨⟨[],aB,aS.nil _ _ _ _,by rw [iF],fun b hb=>hb.elim⟩,Kept.refl _ _,hB⟩
  clear BA hB HE
  go_wp2_with fail
  go_loopg [5,35] ls.length (fun f v x wr=>∃(j n2:Nat) (out:List aG) (a:Option Addr) (c:Nat),x=.int .i64 j∧v=.slice a n2 c∧j≤ls.length∧f=ls.length-j∧Hid (n2=out.length∧n2≤j)∧Hid (RN B F w1 out (.slice a n2 c) wr)∧Hid (qm s=lN j out (ls.drop j)))
  case atStart=>exact ⟨0,0,[],none,0,rfl,rfl,Nat.zero_le _,rfl,⟨rfl,Nat.le_refl _⟩,I0,HE2⟩
  case round =>
   obtain ⟨j,n2,out,a,c,rfl,rfl,hj,rfl,hn2,I,hrd⟩:=hrel
   by_cases hlt:j<ls.length
   ·have e1:decide ((j:Int)<(ls.length:Int))=true:=ak (by omega)
    have e2:decide (j<ls.length)=true:=ak hlt
    have bj:(j:Int)<(ls.length:Int):=by omega
    have cj:wr.cell? ⟨g,j,none⟩=some (.string ls[j]):=(I.out.k.cell hgl (fun h=>h)).trans (HCL.out j hlt)
    have Uo:Hid (qm s=match lU ls[j] with
      | .error er=>if er.1≠0 then .error (er.1,j) else lN (j+1) out (ls.drop (j+1))
      | .ok none=>lN (j+1) out (ls.drop (j+1))
      | .ok (some x)=>lN (j+1) (out++[x]) (ls.drop (j+1))):=by unfold Hid;rw [hrd.out,Qn j out ls j hlt]
    have hjb:j<1000:=by have:=HL1.out;omega
    clear hrd
    cases hu:lU ls[j] with
    | error er =>
     go_upto_region 13 with (first
      | (go_at_call 23;(refine (Gh ls[j] wr (by have:=HSZ.out j hlt;omega) (HM.out.kept I.out.k (fun h=>h)) (vF HG.out I.out.k)).mono ?_);intro e w3 h_;obtain ⟨k_,h_⟩:=h_;rw [hu] at h_;unfold KY at h_;obtain rfl:=h_;have RQ:=ah k_;clear k_)
      | (refine iZ rfl _ _ rfl w3.heap.size rfl nilA dH rfl _ ((Below.heap_alloc _ _ _ (by simp)).trans (ay w3 _)) rfl ?_;intro w4 hB4 hk4;have S4:=ah hB4;have Xv:=ah hk4;have DU:=ah (Fl.kept (X:=(· = w3.heap.size)) (dX (by simp):Fl (w3.heap.size+1) 0 0 _) hk4 (by omega));obtain ⟨q0,q1,G8,Ld⟩:=DU.out.cells;clear hB4 hk4))
     have Le:=ah (DU.out.set (er.1) (er.2))
     have aeF:w3.heap.size+1<w4.heap.size:=DU.out.lt
     have zZ:Hid (Kept aB w3 ((w4.setCell ⟨w3.heap.size+1,0,none⟩ (.int .i64 (er.1))).setCell ⟨w3.heap.size+1,1,none⟩ (.int .i64 (er.2)))):=(((((Kept.refl aB w3).alloc _).alloc _).step Xv.out (fun y hy=>.inr (by omega))).step (((Kept.refl (· = w3.heap.size+1) _).setCell (p:=⟨w3.heap.size+1,0,none⟩) (.inl rfl) _).setCell (p:=⟨w3.heap.size+1,1,none⟩) (.inl rfl) _) (fun y hy=>.inr (by omega)))
     have S5:=ah (S4.out.kept (((Kept.refl (· = w3.heap.size+1) w4).setCell (p:=⟨w3.heap.size+1,0,none⟩) (.inl rfl) (.int .i64 (er.1))).setCell (p:=⟨w3.heap.size+1,1,none⟩) (.inl rfl) (.int .i64 (er.2))) (by omega))
     obtain ⟨w5,hw5⟩:∃w5,w5=(w4.setCell ⟨w3.heap.size+1,0,none⟩ (.int .i64 (er.1))).setCell ⟨w3.heap.size+1,1,none⟩ (.int .i64 (er.2)):=⟨_,rfl⟩
     rw [←hw5] at Le zZ S5
     rw [←hw5]
     have I5:=ah ((I.out.kept RQ.out).kept zZ.out)
     clear hw5 q0 q1 G8 Ld
     obtain ⟨q0,q1,G8,Ld⟩:=Le.out.cells
     by_cases he:er.1=0
     ·have y1:(er.1 != 0)=false:=by simpa using he
      have y2:er.1=0:=he
      go_wp2_with fail
      go_roundg (ls.length-(j+1))
      case measure=>omega
      case rel=>exact ⟨j+1,n2,out,a,c,by go_num,rfl,by omega,rfl,⟨hn2.out.1,by have:=hn2.out.2;omega⟩,I5,by unfold Hid;rw [Uo.out,hu];dsimp only;rw [if_neg (by simp [y2])]⟩
     ·have y1:(er.1 != 0)=true:=by simpa using he
      have fin:Hid (qm s=.error (er.1,j)):=by unfold Hid;rw [Uo.out,hu];dsimp only;rw [if_pos he]
      have F5:=ah (F1.out.kept I5.out.k (fun h=>h))
      obtain ⟨f0,f1,f2,f3⟩:=F5.out.cells
      have KW:=ah (K1.out.trans I5.out.k)
      clear he
      go_wp2_with fail
      go_region
      all_goals go_wp2_with fail
      all_goals
       refine uz rfl rfl rfl (Fl.kept (F5.out.set er.1 j) (Kept.refl aB _).drew (fun h=>h)) ⟨(KW.out.pF (Nat.le_of_eq HF.out.symm) _ _).drew,?_⟩
       rw [fin.out];exact rfl
    | ok o =>
     cases o with
     | none =>
      go_upto_region 13 with (first
       | (go_at_call 23;(refine (Gh ls[j] wr (by have:=HSZ.out j hlt;omega) (HM.out.kept I.out.k (fun h=>h)) (vF HG.out I.out.k)).mono ?_);intro e w3 h_;obtain ⟨k_,h_⟩:=h_;rw [hu] at h_;unfold KY at h_;obtain rfl:=h_;have RQ:=ah k_;clear k_)
       | (refine iZ rfl _ _ rfl w3.heap.size rfl nilA dH rfl _ ((Below.heap_alloc _ _ _ (by simp)).trans (ay w3 _)) rfl ?_;intro w4 hB4 hk4;have S4:=ah hB4;have Xv:=ah hk4;have DU:=ah (Fl.kept (X:=(· = w3.heap.size)) (dX (by simp):Fl (w3.heap.size+1) 0 0 _) hk4 (by omega));obtain ⟨q0,q1,G8,Ld⟩:=DU.out.cells;clear hB4 hk4))
      have Le:=ah (DU.out.set (0) (0))
      have aeF:w3.heap.size+1<w4.heap.size:=DU.out.lt
      have zZ:Hid (Kept aB w3 ((w4.setCell ⟨w3.heap.size+1,0,none⟩ (.int .i64 (0))).setCell ⟨w3.heap.size+1,1,none⟩ (.int .i64 (0)))):=(((((Kept.refl aB w3).alloc _).alloc _).step Xv.out (fun y hy=>.inr (by omega))).step (((Kept.refl (· = w3.heap.size+1) _).setCell (p:=⟨w3.heap.size+1,0,none⟩) (.inl rfl) _).setCell (p:=⟨w3.heap.size+1,1,none⟩) (.inl rfl) _) (fun y hy=>.inr (by omega)))
      have S5:=ah (S4.out.kept (((Kept.refl (· = w3.heap.size+1) w4).setCell (p:=⟨w3.heap.size+1,0,none⟩) (.inl rfl) (.int .i64 (0))).setCell (p:=⟨w3.heap.size+1,1,none⟩) (.inl rfl) (.int .i64 (0))) (by omega))
      obtain ⟨w5,hw5⟩:∃w5,w5=(w4.setCell ⟨w3.heap.size+1,0,none⟩ (.int .i64 (0))).setCell ⟨w3.heap.size+1,1,none⟩ (.int .i64 (0)):=⟨_,rfl⟩
      rw [←hw5] at Le zZ S5
      rw [←hw5]
      have I5:=ah ((I.out.kept RQ.out).kept zZ.out)
      clear hw5 q0 q1 G8 Ld
      obtain ⟨q0,q1,G8,Ld⟩:=Le.out.cells
      go_wp2_with fail
      go_roundg (ls.length-(j+1))
      case measure=>omega
      case rel=>exact ⟨j+1,n2,out,a,c,by go_num,rfl,by omega,rfl,⟨hn2.out.1,by have:=hn2.out.2;omega⟩,I5,by unfold Hid;rw [Uo.out,hu]⟩
     | some st =>
      go_upto_region 13 with (first
       | (go_at_call 23;(refine (Gh ls[j] wr (by have:=HSZ.out j hlt;omega) (HM.out.kept I.out.k (fun h=>h)) (vF HG.out I.out.k)).mono ?_);intro e w3 h_;obtain ⟨k_,h_⟩:=h_;rw [hu] at h_;unfold KY at h_;obtain ⟨sa,SS,rfl,aeG,aeH,aeI⟩:=h_;have aeJ:=aeH.ok;clear aeH;have ag7:=ah aeG;have ag8:=ah aeJ;have OU:=ah aeI;clear aeG aeJ aeI;have RQ:=ah k_;clear k_)
       | (refine iZ rfl _ _ rfl w3.heap.size rfl sa st rfl _ ((Below.heap_alloc _ _ _ (by simp)).trans (ay w3 _)) rfl ?_;intro w4 hB4 hk4;have S4:=ah hB4;have Xv:=ah hk4;have DU:=ah (Fl.kept (X:=(· = w3.heap.size)) (dX (by simp):Fl (w3.heap.size+1) 0 0 _) hk4 (by omega));obtain ⟨q0,q1,G8,Ld⟩:=DU.out.cells;clear hB4 hk4))
      have Le:=ah (DU.out.set (0) (0))
      have aeF:w3.heap.size+1<w4.heap.size:=DU.out.lt
      have zZ:Hid (Kept aB w3 ((w4.setCell ⟨w3.heap.size+1,0,none⟩ (.int .i64 (0))).setCell ⟨w3.heap.size+1,1,none⟩ (.int .i64 (0)))):=(((((Kept.refl aB w3).alloc _).alloc _).step Xv.out (fun y hy=>.inr (by omega))).step (((Kept.refl (· = w3.heap.size+1) _).setCell (p:=⟨w3.heap.size+1,0,none⟩) (.inl rfl) _).setCell (p:=⟨w3.heap.size+1,1,none⟩) (.inl rfl) _) (fun y hy=>.inr (by omega)))
      have S5:=ah (S4.out.kept (((Kept.refl (· = w3.heap.size+1) w4).setCell (p:=⟨w3.heap.size+1,0,none⟩) (.inl rfl) (.int .i64 (0))).setCell (p:=⟨w3.heap.size+1,1,none⟩) (.inl rfl) (.int .i64 (0))) (by omega))
      obtain ⟨w5,hw5⟩:∃w5,w5=(w4.setCell ⟨w3.heap.size+1,0,none⟩ (.int .i64 (0))).setCell ⟨w3.heap.size+1,1,none⟩ (.int .i64 (0)):=⟨_,rfl⟩
      rw [←hw5] at Le zZ S5
      rw [←hw5]
      have I5:=ah ((I.out.kept RQ.out).kept zZ.out)
      clear hw5 q0 q1 G8 Ld
      obtain ⟨q0,q1,G8,Ld⟩:=Le.out.cells
      obtain ⟨cs,S1,hw1,hr1,hS1⟩:=I5.out.win
      have HW1:=ah hw1;have HR1:=ah hr1;have J3:=ah hS1
      have hBw:B≤w5.heap.size:=by have:=I5.out.k.size;have:=I5.out.lt;omega
      have hn3:n2≤1000000:=by have:=hn2.out.2;have:=HL1.out;omega
      clear hw1 hr1 hS1
      go_wp2_with (first
       | (refine lg rfl _ rfl w3.heap.size 0 rfl sa st S5.out.hc0 ?_)
       | (refine Gn rfl _ rfl sa st rfl ?_;intro w6 Xk hk6;have S6:=ah Xk;have K6:=ah hk6;clear Xk hk6)
       | (refine LG rfl _ _ rfl (.slice a n2 c) n2 cs rfl B (by have e_:=HW1.out.kept K6.out (fun _ _ h=>h);rw [←hn2.out.1] at e_;exact e_) w5.heap.size rfl sa st S6.out hn3 (by have:=K6.out.size;omega) ?_;intro a7 c7 w7 hW7 RJ ho7;have W7:=ah hW7;have HG7:=ah RJ;have HO7:=ah ho7;clear hW7 RJ ho7))
      have hl5:B≤w5.heap.size:=hBw
      have K7:Kept (fun b=>(Value.slice a n2 c).ownBlock=some b) w6 w7:=(Kept.refl _ w6).grown HG7.out (fun b hb=>.inl hb)
      have hlow:∀b,(Value.slice a n2 c).ownBlock=some b→B≤b∧b<w5.heap.size:=HW1.out.lt
      have aaX:∀b,(Value.slice a n2 c).ownBlock=some b→b<wr.heap.size:=by obtain ⟨_,_,hwr,_⟩:=I.out.win;exact fun b hb=>(hwr.lt b hb).2
      have hs6:=K6.out.size;have hs7:=K7.size;have ajy:=zZ.out.size;have hs3:=RQ.out.size
      have hBr:B≤wr.heap.size:=by have:=I.out.k.size;have:=I.out.lt;omega
      have I7:Hid (RN B F w1 (out++[st]) (.slice a7 (n2+1) c7) w7):=by
       refine ⟨⟨cs++bV sa st,fun b=>S1 b∨SS b,?_,?_,?_⟩,(I5.out.k.trans K6.out).step K7 (fun y hy=>.inr (by have:=hlow y hy;have:=I5.out.lt;omega)),I5.out.lt⟩
       ·rw [List.length_append,←hn2.out.1];exact W7.out
       ·refine iF.append ?_ ?_
        ·have r1:=(HR1.out.kept K6.out (fun b hb=>⟨(J3.out b hb).2.1,fun h=>h⟩)).kept K7 (fun b hb=>⟨by have:=(J3.out b hb).2.1;omega,(J3.out b hb).2.2⟩)
         exact iF.more r1 (fun b h=>.inl h)
        ·refine iF.one ag7.out ?_
         have o1:=ag8.out.to (S':=SS) zZ.out (fun b hb=>⟨(OU.out b hb).2,fun h=>h⟩) (fun _ h=>h)
         have o2:=o1.to (S':=SS) K6.out (fun b hb=>⟨by have:=(OU.out b hb).2;omega,fun h=>h⟩) (fun _ h=>h)
         exact o2.to K7 (fun b hb=>⟨by have:=(OU.out b hb).2;omega,fun e=>by have:=aaX b e;have:=(OU.out b hb).1;omega⟩) (fun b h=>.inr h)
       ·intro b hb
        rcases hb with hb|hb
        ·have x:=J3.out b hb
         refine ⟨x.1,by omega,?_⟩
         rcases HO7.out with h|h
         ·rw [h];exact x.2.2
         ·rw [h];intro h';have:=Option.some.inj h';omega
        ·have x:=OU.out b hb
         refine ⟨by omega,by omega,?_⟩
         rcases HO7.out with h|h
         ·rw [h];intro h';have:=aaX b h';omega
         ·rw [h];intro h';have:=Option.some.inj h';omega
      go_roundg (ls.length-(j+1))
      case measure=>omega
      case rel=>exact ⟨j+1,n2+1,out++[st],a7,c7,by go_num,rfl,by omega,rfl,⟨by rw [List.length_append,←hn2.out.1];rfl,by have:=hn2.out.2;omega⟩,I7,by unfold Hid;rw [Uo.out,hu]⟩
   ·obtain rfl:j=ls.length:=by omega
    have e1:decide ((ls.length:Int)<(ls.length:Int))=false:=au (by omega)
    have e2:decide (ls.length<ls.length)=false:=au (by omega)
    have fin:Hid (qm s=.ok out):=by unfold Hid;rw [hrd.out,List.drop_length];rfl
    obtain ⟨cs,S,hw1,hw2,hw3⟩:=I.out.win
    have hcl:(a=none∧n2=0∧c=0)∨(∃g o,a=some ⟨g,o,none⟩∧n2≤c):=by
     rcases hw1.cells with ⟨hv,hn⟩|⟨g,o,c',hv,_,_,hcap,_⟩
     ·simp only [Value.slice.injEq] at hv
      exact .inl ⟨hv.1,hv.2.1,hv.2.2⟩
     ·simp only [Value.slice.injEq] at hv
      exact .inr ⟨g,o,hv.1,by have:=hn2.out.1;omega⟩
    have ag9:=ah (ZU a n2 c wr hcl)
    have HW1:=ah hw1;have HW2:=ah hw2;have HW3:=ah hw3
    have F5:=ah (F1.out.kept I.out.k (fun h=>h))
    have KW:=ah (K1.out.trans I.out.k)
    obtain ⟨f0,f1,f2,f3⟩:=F5.out.cells
    clear hw1 hw2 hw3 hcl hrd
    go_wp2_with (go_at_call 24;(refine ag9.out.mono ?_);rintro e w9 ⟨rfl,aK⟩;obtain rfl:=aK)
    obtain ⟨a5,c5,hv5,hst⟩:=aS.sts (S':=fun b=>S b∨(Value.slice a n2 c).ownBlock=some b) HW1.out HW2.out (fun b hb=>⟨(HW3.out b hb).2.1,fun h=>h⟩) (fun b h=>.inl h) (fun g h=>.inr h)
    simp only [Value.slice.injEq] at hv5
    obtain ⟨rfl,yZ,rfl⟩:=hv5
    have hb9:B=w1.heap.size:=I.out.lt
    have hFb:w.heap.size+1≤B:=by have:=K1.out.size;have:=F1.out.lt;have:=HF.out;omega
    have hlow:∀b,(S b∨(Value.slice a n2 c).ownBlock=some b)→B≤b∧b<w9.heap.size:=fun b hb=>by
     rcases hb with hb|hb
     ·exact ⟨(HW3.out b hb).1,(HW3.out b hb).2.1⟩
     ·exact HW1.out.lt b hb
    have kF:Kept (· = F) w9 ((w9.setCell ⟨F,0,none⟩ (.int .i64 0)).setCell ⟨F,1,none⟩ (.int .i64 0)):=((Kept.refl (· = F) _).setCell (p:=⟨F,0,none⟩) (.inl rfl) _).setCell (p:=⟨F,1,none⟩) (.inl rfl) _
    refine uz rfl rfl rfl (F5.out.set 0 0) ⟨KW.out.pF (Nat.le_of_eq HF.out.symm) _ _,?_⟩
    rw [fin.out]
    refine ⟨a,n2,_,by rw [←yZ];rfl,hst.to kF (fun b hb=>⟨(hlow b hb).2,by have:=hlow b hb;have:=HF.out;omega⟩) (fun _ h=>h),fun b hb=>⟨by have:=hlow b hb;omega,Nat.lt_of_lt_of_le (hlow b hb).2 kF.size⟩⟩
end Go.Proofs.YtgoijmpahffnhaaGreatDoor
