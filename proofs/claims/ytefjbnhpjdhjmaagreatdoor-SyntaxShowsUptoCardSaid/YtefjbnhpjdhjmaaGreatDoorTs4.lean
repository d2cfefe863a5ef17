/-  -/
import Derived.Test.YtefjbnhpjdhjmaaGreatDoorStn
import Derived.Test.YtefjbnhpjdhjmaaGreatDoorTs7
namespace Go.Proofs.YtefjbnhpjdhjmaaGreatDoor
set_option linter.all false
open Go.RowKit
set_option maxRecDepth 100000
set_option maxHeartbeats 8000000
theorem Je {a:ig} {s:aN} {xa:Act} {wy:World} {M of:Nat} {t:Nat} {o:Oper} (e:xa.eval (.tmp t)=.pointer (some ⟨M,of,none⟩)) (hc:∀i (hi:i<24),wy.cell? ⟨M,of+i,none⟩=some ((aV a s)[i]'(by simpa [aV] using hi)))
  (ho:o.op=.load 30 (.tmp t)):(execOp xa.eval o).run Tryz.prog wy=.ok (.value (bV a s)) wy:=by
 unfold execOp
 rw [ho]
 simp only [e,Sem.run_bind,Ia hc,Result.andThen_ok,Sem.run_pure]
theorem ql.here {w wy:World} {a:Option Addr} {l:List aN} (h:ql w (· < w.heap.size) a l) (hk:Kept aC w wy):ql wy (· < wy.heap.size) a l:=h.to hk (Safe.lt (Nat.le_refl _)) (fun _ h=>Nat.lt_of_lt_of_le h hk.size)
theorem lH.here {w wy:World} {a:ig} {s:aN} (h:lH w (· < w.heap.size) a s) (hk:Kept aC w wy):lH wy (· < wy.heap.size) a s:=h.to hk (Safe.lt (Nat.le_refl _)) (fun _ h=>Nat.lt_of_lt_of_le h hk.size)
theorem Qe (l:List aN) (a1 a2:Option Addr) (c1 c2:Nat) (w:World) (h1:ql w (· < w.heap.size) a1 l) (h2:ql w (· < w.heap.size) a2 l) (hl:l.length≤1048576) :
  Calls Tryz.prog 13 #[.slice a1 l.length c1,.slice a2 l.length c2] w (mY true w):=by
 have H1:=ah h1;have H2:=ah h2
 have e3:((l.length:Int) != (l.length:Int))=false:=by simp
 clear h1 h2
 go_enter Tryz.func13, Tryz.ntmps13
 go_wp2_with fail
 go_loopw [13] (fun i wr=>∃j:Nat,j≤l.length∧i=.int .i64 j∧Hid (Kept aC w wr)) (fun i _=>l.length-(intOf i).toNat)
 case atStart=>exact ⟨0,Nat.zero_le _,rfl,Kept.refl _ _⟩
 case round =>
  obtain ⟨j,hj,rfl,KR⟩:=hrel
  by_cases hlt:j<l.length
  ·obtain ⟨b1,o1,rfl,hc1⟩:=(H1.out.here KR.out) (by omega)
   obtain ⟨b2,o2,rfl,hc2⟩:=(H2.out.here KR.out) (by omega)
   obtain ⟨s,hs⟩:∃s,s=l[j]:=⟨_,rfl⟩
   obtain ⟨s1,hb1,hz,EF,ho1⟩:=hc1 j hlt
   obtain ⟨s2,hb2,_,G8,ho2⟩:=hc2 j hlt
   rw [←hs] at EF G8 ho1 ho2 hz
   have B1:Hid (∀i (hi:i<24),b1<wr.heap.size∧wr.cell? ⟨b1,o1+j*24+i,none⟩=some ((aV s1 s)[i]'(by simpa [aV] using hi))):=fun i hi=>⟨hb1,EF i hi⟩
   have B2:Hid (∀i (hi:i<24),b2<wr.heap.size∧wr.cell? ⟨b2,o2+j*24+i,none⟩=some ((aV s2 s)[i]'(by simpa [aV] using hi))):=fun i hi=>⟨hb2,G8 i hi⟩
   have HSA:Hid (∀wy,Kept aC wr wy→Calls Tryz.prog 8 #[bV s1 s,bV s2 s] wy (mY true wy)):=fun wy hk=>LD s s1 s2 wy hz (ho1.here hk) (ho2.here hk)
   have bi:(j:Int)<(l.length:Int):=by omega
   clear hc1 hc2 hs hb1 hb2 hz EF G8 ho1 ho2
   go_upto_region 6 with fail
   obtain ⟨Sp,hSp⟩:∃Sp:Nat→Value→World→Prop,Sp=(fun i v wx=>match i with
    | 0=>v=.slice (some ⟨b1,o1,none⟩) l.length c1
    | 1=>v=.int .i64 j
    | 2=>v=.pointer (some ⟨b1,o1+j*24,none⟩)
    | 3=>v=bV s1 s
    | 4=>v=.slice (some ⟨b2,o2,none⟩) l.length c2
    | 5=>v=.int .i64 j
    | 6=>v=.pointer (some ⟨b2,o2+j*24,none⟩)
    | 7=>v=bV s2 s
    | 8=>v=.bool true
    | _=>v=.bool false):=⟨_,rfl⟩
   obtain ⟨J,HJ⟩:∃J:(Nat→Bool)→(Nat→Value)→World→Prop,∀l f w,J l f w:=⟨fun _ _ _=>True,fun _ _ _=>trivial⟩
   refine mW aC J Sp [16,17,18,19,20,21,22,23,24,25] (by kernel_rfl) (by kernel_rfl) (by kernel_rfl) (fun i v w w' h hk=>by subst hSp;exact h) ?_ (fun _ _=>HJ _ _ _) (fun _ _ _ _ _ _=>HJ _ _ _) ?_
   ·intro i o hi lq x wy hI _ hlf haft
    have hsz:x.tmps.size=27:=hI.size
    have JK:=hI.kept
    have e0:x.eval (.tmp 0)=.slice (some ⟨b1,o1,none⟩) l.length c1:=hI.keep 0 _ rfl (by kernel_rfl)
    have e1:x.eval (.tmp 1)=.slice (some ⟨b2,o2,none⟩) l.length c2:=hI.keep 1 _ rfl (by kernel_rfl)
    have e5:x.eval (.tmp 5)=.int .i64 j:=hI.keep 5 _ rfl (by kernel_rfl)
    rcases i with _|_|_|_|_|_|_|_|_|_|i
    all_goals (simp only [List.getElem?_toArray,List.getElem?_cons_zero,List.getElem?_cons_succ,List.getElem?_nil,Option.some.injEq,reduceCtorEq] at hi)
    all_goals subst hi
    ·refine cu rfl ?_
     refine bJ (v:=.slice (some ⟨b1,o1,none⟩) l.length c1) ?_ (by subst hSp;exact rfl) (fun _ _=>HJ _ _ _)
     simp only [execOp,resolve,invoke,List.map_toArray,List.map_cons,List.map_nil,e0];go_simp
    ·refine cu rfl ?_
     refine bJ (v:=.int .i64 j) ?_ (by subst hSp;exact rfl) (fun _ _=>HJ _ _ _)
     simp only [execOp,resolve,invoke,List.map_toArray,List.map_cons,List.map_nil,e5];go_simp
    ·refine cu rfl ?_
     have zx:x.eval (.tmp 16)=.slice (some ⟨b1,o1,none⟩) l.length c1:=by have h_:=hI.dep haft 0 16 rfl rfl rfl;rw [hSp] at h_;exact h_
     have zq:x.eval (.tmp 17)=.int .i64 j:=by have h_:=hI.dep haft 1 17 rfl rfl rfl;rw [hSp] at h_;exact h_
     refine bJ (v:=.pointer (some ⟨b1,o1+j*24,none⟩)) ?_ (by subst hSp;exact rfl) (fun _ _=>HJ _ _ _)
     simp only [execOp,resolve,invoke,List.map_toArray,List.map_cons,List.map_nil,zx,zq];go_simp
    ·refine cu rfl ?_
     have Af:x.eval (.tmp 18)=.pointer (some ⟨b1,o1+j*24,none⟩):=by have h_:=hI.dep haft 2 18 rfl rfl rfl;rw [hSp] at h_;exact h_
     refine bJ (v:=bV s1 s) ?_ (by subst hSp;exact rfl) (fun _ _=>HJ _ _ _)
     exact Je Af (fun i hi=>(JK.cell (B1.out i hi).1 (fun h=>h)).trans (B1.out i hi).2) rfl
    ·refine cu rfl ?_
     refine bJ (v:=.slice (some ⟨b2,o2,none⟩) l.length c2) ?_ (by subst hSp;exact rfl) (fun _ _=>HJ _ _ _)
     simp only [execOp,resolve,invoke,List.map_toArray,List.map_cons,List.map_nil,e1];go_simp
    ·refine cu rfl ?_
     refine bJ (v:=.int .i64 j) ?_ (by subst hSp;exact rfl) (fun _ _=>HJ _ _ _)
     simp only [execOp,resolve,invoke,List.map_toArray,List.map_cons,List.map_nil,e5];go_simp
    ·refine cu rfl ?_
     have yD:x.eval (.tmp 20)=.slice (some ⟨b2,o2,none⟩) l.length c2:=by have h_:=hI.dep haft 4 20 rfl rfl rfl;rw [hSp] at h_;exact h_
     have Dx:x.eval (.tmp 21)=.int .i64 j:=by have h_:=hI.dep haft 5 21 rfl rfl rfl;rw [hSp] at h_;exact h_
     refine bJ (v:=.pointer (some ⟨b2,o2+j*24,none⟩)) ?_ (by subst hSp;exact rfl) (fun _ _=>HJ _ _ _)
     simp only [execOp,resolve,invoke,List.map_toArray,List.map_cons,List.map_nil,yD,Dx];go_simp
    ·refine cu rfl ?_
     have Dy:x.eval (.tmp 22)=.pointer (some ⟨b2,o2+j*24,none⟩):=by have h_:=hI.dep haft 6 22 rfl rfl rfl;rw [hSp] at h_;exact h_
     refine bJ (v:=bV s2 s) ?_ (by subst hSp;exact rfl) (fun _ _=>HJ _ _ _)
     exact Je Dy (fun i hi=>(JK.cell (B2.out i hi).1 (fun h=>h)).trans (B2.out i hi).2) rfl
    ·refine cu rfl ?_
     have yC:x.eval (.tmp 19)=bV s1 s:=by have h_:=hI.dep haft 3 19 rfl rfl rfl;rw [hSp] at h_;exact h_
     have Dz:x.eval (.tmp 23)=bV s2 s:=by have h_:=hI.dep haft 7 23 rfl rfl rfl;rw [hSp] at h_;exact h_
     refine G9 (f:=8) (args:=#[bV s1 s,bV s2 s]) ?_ ?_
     ·simp only [execOp,resolve,invoke,List.map_toArray,List.map_cons,List.map_nil,yC,Dz];go_simp
     ·exact (HSA.out _ JK).mono fun e w' h=>⟨_,h.1,by subst hSp;exact rfl,h.2,fun _ _=>HJ _ _ _⟩
    ·refine cu rfl ?_
     have d24:x.eval (.tmp 24)=.bool true:=by have h_:=hI.dep haft 8 24 rfl rfl rfl;rw [hSp] at h_;exact h_
     refine bJ (v:=.bool false) ?_ (by subst hSp;exact rfl) (fun _ _=>HJ _ _ _)
     simp only [execOp,resolve,invoke,List.map_toArray,List.map_cons,List.map_nil,d24];go_simp
   ·intro f wy hK hS _
    have h_:=hS 9 _ 25 rfl rfl
    rw [hSp] at h_
    have e25:f 25=.bool false:=h_
    have K7:=ah (KR.out.trans hK)
    clear hK hS h_
    simp only [jP,List.foldl_cons,List.foldl_nil,List.setIfInBounds_toArray,List.set_cons_zero,List.set_cons_succ,e25]
    clear e25
    go_wp2_with fail
    go_roundw
    case rel=>exact ⟨j+1,by omega,by go_num,K7⟩
    case measure=>simp [intOf];omega
  ·obtain rfl:j=l.length:=by omega
   go_wp2_with fail
   go_ret
   exact ⟨rfl,KR.out⟩
end Go.Proofs.YtefjbnhpjdhjmaaGreatDoor

namespace Go.Proofs.YtefjbnhpjdhjmaaGreatDoor
set_option linter.all false
open Go.RowKit
set_option maxRecDepth 100000
set_option maxHeartbeats 16000000
theorem AZ.sts {w:World} {S:Nat→Prop} {a:Option Addr} {l:List aN} (h:AZ w S a l):ql w S a l:=fun h0=>by
 obtain ⟨b,o,e,hc⟩:=h h0
 exact ⟨b,o,e,fun i hi=>by obtain ⟨a,_,h1,h2,h3,h4⟩:=hc i hi;exact ⟨a,h1,h2,h3,h4⟩⟩
theorem AZ.num {w:World} {S:Nat→Prop} {a:Option Addr} {l:List aN} (h:AZ w S a l):∀s∈l,ED s:=by
 intro s hs
 obtain ⟨i,hi,rfl⟩:=List.getElem_of_mem hs
 obtain ⟨b,o,e,hc⟩:=h (by omega)
 obtain ⟨a,hx,_⟩:=hc i hi
 exact ⟨hx.target,hx.value⟩
theorem yT:∀(ls:List aj) (i:Nat) (out:List aN) (er:Er),iJ i out ls=.error er→er.1≠0
 | [],i,out,er,h=>by rw [iJ] at h;cases h
 | t::r,i,out,er,h=>by
  rw [iJ] at h
  cases ht:kP t with
  | error e =>
   rw [ht] at h
   dsimp only at h
   by_cases he:e.1≠0
   ·rw [if_pos he] at h;simp only [Except.error.injEq] at h;subst h;exact he
   ·rw [if_neg he] at h;exact yT r _ _ _ h
  | ok o =>
   rw [ht] at h
   cases o with
   | none=>exact yT r _ _ _ h
   | some x=>exact yT r _ _ _ h
theorem Wv {s:aj} {er:Er} (h:lG s=.error er):er.1≠0:=by
 unfold lG at h
 split at h
 ·simp only [Except.error.injEq] at h;subst h;decide
 split at h
 ·simp only [Except.error.injEq] at h;subst h;decide
 ·exact yT _ _ _ _ h
theorem yU:∀(ls:List aj) (i:Nat) (out k:List aN),iJ i out ls=.ok k→k.length≤out.length+ls.length
 | [],i,out,k,h=>by rw [iJ] at h;simp only [Except.ok.injEq] at h;subst h;omega
 | t::r,i,out,k,h=>by
  rw [iJ] at h
  cases ht:kP t with
  | error e =>
   rw [ht] at h
   dsimp only at h
   by_cases he:e.1≠0
   ·rw [if_pos he] at h;cases h
   ·rw [if_neg he] at h;have:=yU r _ _ _ h;simp only [List.length_cons];omega
  | ok o =>
   rw [ht] at h
   cases o with
   | none=>have:=yU r _ _ _ h;simp only [List.length_cons];omega
   | some x=>have:=yU r _ _ _ h;simp only [List.length_append,List.length_cons,List.length_nil] at this⊢;omega
theorem Wx {s:aj} {k:List aN} (h:lG s=.ok k):k.length≤1000:=by
 unfold lG at h
 split at h
 ·cases h
 split at h
 ·cases h
 ·have:=yU _ _ _ _ h;simp only [List.length_nil] at this;omega
theorem Tv (l:List aN) (hl:l.length≤1048576):(⟨(jM l).1.toArray⟩:aj).size≤1000000000:=by
 have e:(⟨(jM l).1.toArray⟩:aj).size=(jM l).1.length:=by show (jM l).1.toArray.size=_;simp
 rw [e]
 have key:∀(l:List aN) (i:Nat) (d:List UInt8),(jl l i d).1.length≤65536:=by
  intro l
  induction l with
  | nil =>
   intro i d;rw [jl];split
   ·simp
   ·dsimp only;omega
  | cons s r ih =>
   intro i d;rw [jl];split
   ·simp
   ·exact ih _ _
 unfold jM
 split
 ·simp
 ·have:=key l 0 [];omega
def ReadW (w:World):Prop:=∀(x:aj) wy,x.size≤1000000000→Kept aC w wy→Calls Tryz.prog 12 #[.string x] wy (Vw x wy)
theorem ReadW.of {w:World} (hm:uN w) (hr:mg w):ReadW w:=fun x _ hx hk=>Vx x _ hx (hm.kept hk (fun h=>h)) (uO hr hk)
theorem Tn (l:List aN) (al:Option Addr) (cl:Nat) (t rem:aj) (w:World) (hl:AZ w (· < w.heap.size) al l) (hlen:l.length≤1048576) (ht:t.size≤1100000) (hrm:rem.size≤1100000) (hg:E9 w) (hL:Jd w) (hR:ReadW w) :
  Calls Tryz.prog 4 #[.slice al l.length cl,.string t,.string rem] w (mY true w):=by
 have HA:Hid (∀wy,Kept aC w wy→Calls Tryz.prog 5 #[] wy (mY true wy)):=fun wy hk=>Qc wy fun x _ h1 h2=>hL x _ h1 (hk.trans h2)
 have HS:Hid (∀wy,Kept aC w wy→Calls Tryz.prog 11 #[.slice al l.length cl] wy (Wh l wy)):=fun wy hk=>Wj l al cl wy (hl.to hk (Safe.lt (Nat.le_refl _)) (fun _ h=>Nat.lt_of_lt_of_le h hk.size)) hlen (hg.next hk)
 have HR:=ah hR;have HT:=ah ht;have HRM:=ah hrm;have HNU:=ah hl.num;have HL:=ah hl.sts;have wP:=ah hlen
 have HPZ:=ah (Tv l hlen)
 clear hR ht hrm hl hg hL hlen
 go_enter Tryz.func4, Tryz.ntmps4
 go_upto_region 3 with (go_at_call 5;(refine (HA.out _ (Kept.refl _ _)).mono ?_);rintro e w2 ⟨rfl,k_⟩;have K2:=ah k_;clear k_)
 go_upto_region 4 with (go_at_call 11;(refine (HS.out _ K2.out).mono ?_);rintro e w3 ⟨rfl,k_⟩;have K3:=ah (K2.out.trans k_);clear k_)
 obtain ⟨w4,hw4⟩:∃x,x=w3.alloc (.cells #[.int .i64 (jM l).2.1,.int .i64 ((jM l).2.2:Int)] 36):=⟨_,rfl⟩
 have zS:Hid (Fl w3.heap.size (jM l).2.1 ((jM l).2.2:Int) w4):=by rw [hw4];exact ay w3 _
 have K4:Hid (Kept aC w w4):=by rw [hw4];exact K3.out.trans ((Kept.refl _ _).alloc _)
 rw [←hw4]
 clear hw4 K2 K3 HA HS
 obtain ⟨q0,q1,qg,qF⟩:=zS.out.cells
 go_upto_if 25 with fail
 go_cut [] (fun wx=>Hid (Kept aC w wx))
 case first =>
  by_cases hp0:(jM l).2.1=0
  ·have z1:((jM l).2.1==0)=true:=by simpa using hp0
   have PT:Hid (lG ⟨(jM l).1.toArray⟩=.ok (l.map dV)):=Wy hp0 HNU.out
   have el:((l.length:Int) != (l.length:Int))=false:=by simp
   clear hp0 q0 q1 qg qF
   go_upto_region 6 with (go_at_call 12;(refine (HR.out _ _ HPZ.out K4.out).mono ?_);intro e w5 h_;obtain ⟨k_,h_⟩:=h_;rw [PT.out] at h_;dsimp only at h_;rw [List.length_map] at h_;unfold zN at h_;obtain ⟨kb,c1,SS,rfl,fJ,wY⟩:=h_;have ZU:=ah fJ;have xZ:=ah wY;have K5:=ah (K4.out.trans k_);clear k_ fJ wY)
   obtain ⟨w6,hw6⟩:∃x,x=w5.alloc (.cells #[.int .i64 0,.int .i64 0] 36):=⟨_,rfl⟩
   have FF6:Hid (Fl w5.heap.size 0 0 w6):=by rw [hw6];exact ay w5 _
   have k56:Kept aC w5 w6:=by rw [hw6];exact (Kept.refl _ _).alloc _
   rw [←hw6]
   have K6:=ah (K5.out.trans k56)
   have Ip:Hid (ql w6 (· < w6.heap.size) kb (l.map dV)):=ZU.out.to k56 (fun b hb=>⟨(xZ.out b hb).2,fun h=>h⟩) (fun b hb=>Nat.lt_of_lt_of_le (xZ.out b hb).2 k56.size)
   clear hw6 k56 K5 ZU xZ K4 zS
   obtain ⟨q0,q1,qg,qF⟩:=FF6.out.cells
   go_wp2_with fail
   go_loopw [43] (fun i wr=>∃j:Nat,j≤l.length∧i=.int .i64 j∧Hid (Kept aC w6 wr)) (fun i _=>l.length-(intOf i).toNat)
   case atStart=>exact ⟨0,Nat.zero_le _,rfl,Kept.refl _ _⟩
   case round =>
    obtain ⟨j,hj,rfl,KR⟩:=hrel
    clear q0 q1 qg qF
    have hln:l.length≤1048576:=wP.out
    by_cases hlt:j<l.length
    ·obtain ⟨b1,o1,rfl,hc1⟩:=(Ip.out.here KR.out) (by rw [List.length_map];omega)
     obtain ⟨b2,o2,rfl,hc2⟩:=(HL.out.here (K6.out.trans KR.out)) (by omega)
     obtain ⟨s,hs⟩:∃s,s=l[j]:=⟨_,rfl⟩
     obtain ⟨s1,hb1,hz1,EF,ho1⟩:=hc1 j (by rw [List.length_map];exact hlt)
     obtain ⟨s2,hb2,hz2,G8,ho2⟩:=hc2 j hlt
     rw [List.getElem_map] at EF ho1 hz1
     rw [←hs] at EF G8 ho1 ho2 hz1 hz2
     have B1:Hid (∀i (hi:i<24),b1<wr.heap.size∧wr.cell? ⟨b1,o1+j*24+i,none⟩=some ((aV s1 (dV s))[i]'(by simpa [aV] using hi))):=fun i hi=>⟨hb1,EF i hi⟩
     have B2:Hid (∀i (hi:i<24),b2<wr.heap.size∧wr.cell? ⟨b2,o2+j*24+i,none⟩=some ((aV s2 s)[i]'(by simpa [aV] using hi))):=fun i hi=>⟨hb2,G8 i hi⟩
     have HSA:Hid (∀wy c,Kept aC wr wy→lH wy (· < wy.heap.size) c (dV s)→Calls Tryz.prog 8 #[bV s1 (dV s),bV c (dV s)] wy (mY true wy)):=fun wy c hk ho=>LD (dV s) s1 c wy hz1 (ho1.here hk) ho
     have HB:Hid (∀wy,Kept aC wr wy→Calls Tryz.prog 9 #[bV s2 s] wy (Zv s wy)):=fun wy hk=>Xv s s2 wy hz2 (ho2.here hk)
     have bi:(j:Int)<(l.length:Int):=by omega
     clear hc1 hc2 hs hb1 hb2 hz1 hz2 EF G8 ho1 ho2
     go_upto_region 11 with fail
     obtain ⟨Sp,hSp⟩:∃Sp:Nat→Value→World→Prop,Sp=(fun i v wx=>match i with
      | 0=>v=.slice (some ⟨b1,o1,none⟩) l.length c1
      | 1=>v=.int .i64 j
      | 2=>v=.pointer (some ⟨b1,o1+j*24,none⟩)
      | 3=>v=bV s1 (dV s)
      | 4=>v=.slice (some ⟨b2,o2,none⟩) l.length cl
      | 5=>v=.int .i64 j
      | 6=>v=.pointer (some ⟨b2,o2+j*24,none⟩)
      | 7=>v=bV s2 s
      | 8=>∃c,v=bV c (dV s)∧lH wx (· < wx.heap.size) c (dV s)
      | 9=>v=.bool true
      | _=>v=.bool false):=⟨_,rfl⟩
     obtain ⟨J,HJ⟩:∃J:(Nat→Bool)→(Nat→Value)→World→Prop,∀l f w,J l f w:=⟨fun _ _ _=>True,fun _ _ _=>trivial⟩
     refine mW aC J Sp [46,47,48,49,50,51,52,53,54,55,56] (by kernel_rfl) (by kernel_rfl) (by kernel_rfl) (fun i v w w' h hk=>by subst hSp;rcases i with _|_|_|_|_|_|_|_|_|_|_|i;all_goals first|exact h|(obtain ⟨c_,h1,h2⟩:=h;exact ⟨c_,h1,h2.to hk (Safe.lt (Nat.le_refl _)) (fun _ q=>Nat.lt_of_lt_of_le q hk.size)⟩)) ?_ (fun _ _=>HJ _ _ _) (fun _ _ _ _ _ _=>HJ _ _ _) ?_
     ·intro i o hi lq x wy hI _ hlf haft
      have hsz:x.tmps.size=114:=hI.size
      have JK:=hI.kept
      have e9:x.eval (.tmp 9)=.slice (some ⟨b1,o1,none⟩) l.length c1:=hI.keep 9 _ rfl (by kernel_rfl)
      have e0:x.eval (.tmp 0)=.slice (some ⟨b2,o2,none⟩) l.length cl:=hI.keep 0 _ rfl (by kernel_rfl)
      have e11:x.eval (.tmp 11)=.int .i64 j:=hI.keep 11 _ rfl (by kernel_rfl)
      rcases i with _|_|_|_|_|_|_|_|_|_|_|i
      all_goals (simp only [List.getElem?_toArray,List.getElem?_cons_zero,List.getElem?_cons_succ,List.getElem?_nil,Option.some.injEq,reduceCtorEq] at hi)
      all_goals subst hi
      ·refine cu rfl ?_
       refine bJ (v:=.slice (some ⟨b1,o1,none⟩) l.length c1) ?_ (by subst hSp;exact rfl) (fun _ _=>HJ _ _ _)
       simp only [execOp,resolve,invoke,List.map_toArray,List.map_cons,List.map_nil,e9];go_simp
      ·refine cu rfl ?_
       refine bJ (v:=.int .i64 j) ?_ (by subst hSp;exact rfl) (fun _ _=>HJ _ _ _)
       simp only [execOp,resolve,invoke,List.map_toArray,List.map_cons,List.map_nil,e11];go_simp
      ·refine cu rfl ?_
       have Vp:x.eval (.tmp 46)=.slice (some ⟨b1,o1,none⟩) l.length c1:=by have h_:=hI.dep haft 0 46 rfl rfl rfl;rw [hSp] at h_;exact h_
       have Vq:x.eval (.tmp 47)=.int .i64 j:=by have h_:=hI.dep haft 1 47 rfl rfl rfl;rw [hSp] at h_;exact h_
       refine bJ (v:=.pointer (some ⟨b1,o1+j*24,none⟩)) ?_ (by subst hSp;exact rfl) (fun _ _=>HJ _ _ _)
       simp only [execOp,resolve,invoke,List.map_toArray,List.map_cons,List.map_nil,Vp,Vq];go_simp
      ·refine cu rfl ?_
       have IK:x.eval (.tmp 48)=.pointer (some ⟨b1,o1+j*24,none⟩):=by have h_:=hI.dep haft 2 48 rfl rfl rfl;rw [hSp] at h_;exact h_
       refine bJ (v:=bV s1 (dV s)) ?_ (by subst hSp;exact rfl) (fun _ _=>HJ _ _ _)
       exact Je IK (fun i hi=>(JK.cell (B1.out i hi).1 (fun h=>h)).trans (B1.out i hi).2) rfl
      ·refine cu rfl ?_
       refine bJ (v:=.slice (some ⟨b2,o2,none⟩) l.length cl) ?_ (by subst hSp;exact rfl) (fun _ _=>HJ _ _ _)
       simp only [execOp,resolve,invoke,List.map_toArray,List.map_cons,List.map_nil,e0];go_simp
      ·refine cu rfl ?_
       refine bJ (v:=.int .i64 j) ?_ (by subst hSp;exact rfl) (fun _ _=>HJ _ _ _)
       simp only [execOp,resolve,invoke,List.map_toArray,List.map_cons,List.map_nil,e11];go_simp
      ·refine cu rfl ?_
       have Vs:x.eval (.tmp 50)=.slice (some ⟨b2,o2,none⟩) l.length cl:=by have h_:=hI.dep haft 4 50 rfl rfl rfl;rw [hSp] at h_;exact h_
       have Vt:x.eval (.tmp 51)=.int .i64 j:=by have h_:=hI.dep haft 5 51 rfl rfl rfl;rw [hSp] at h_;exact h_
       refine bJ (v:=.pointer (some ⟨b2,o2+j*24,none⟩)) ?_ (by subst hSp;exact rfl) (fun _ _=>HJ _ _ _)
       simp only [execOp,resolve,invoke,List.map_toArray,List.map_cons,List.map_nil,Vs,Vt];go_simp
      ·refine cu rfl ?_
       have d52:x.eval (.tmp 52)=.pointer (some ⟨b2,o2+j*24,none⟩):=by have h_:=hI.dep haft 6 52 rfl rfl rfl;rw [hSp] at h_;exact h_
       refine bJ (v:=bV s2 s) ?_ (by subst hSp;exact rfl) (fun _ _=>HJ _ _ _)
       exact Je d52 (fun i hi=>(JK.cell (B2.out i hi).1 (fun h=>h)).trans (B2.out i hi).2) rfl
      ·refine cu rfl ?_
       have d53:x.eval (.tmp 53)=bV s2 s:=by have h_:=hI.dep haft 7 53 rfl rfl rfl;rw [hSp] at h_;exact h_
       refine G9 (f:=9) (args:=#[bV s2 s]) ?_ ?_
       ·simp only [execOp,resolve,invoke,List.map_toArray,List.map_cons,List.map_nil,d53];go_simp
       ·exact (HB.out _ JK).mono fun e w' h=>⟨_,(Classical.choose_spec h.2).1,by subst hSp;exact ⟨_,rfl,(Classical.choose_spec h.2).2⟩,h.1,fun _ _=>HJ _ _ _⟩
      ·refine cu rfl ?_
       have Vr:x.eval (.tmp 49)=bV s1 (dV s):=by have h_:=hI.dep haft 3 49 rfl rfl rfl;rw [hSp] at h_;exact h_
       have UJ:∃c,x.eval (.tmp 54)=bV c (dV s)∧lH wy (· < wy.heap.size) c (dV s):=by have h_:=hI.dep haft 8 54 rfl rfl rfl;rw [hSp] at h_;exact h_
       obtain ⟨c,UJ,hc⟩:=UJ
       refine G9 (f:=8) (args:=#[bV s1 (dV s),bV c (dV s)]) ?_ ?_
       ·simp only [execOp,resolve,invoke,List.map_toArray,List.map_cons,List.map_nil,Vr,UJ];go_simp
       ·exact (HSA.out _ c JK hc).mono fun e w' h=>⟨_,h.1,by subst hSp;exact rfl,h.2,fun _ _=>HJ _ _ _⟩
      ·refine cu rfl ?_
       have d55:x.eval (.tmp 55)=.bool true:=by have h_:=hI.dep haft 9 55 rfl rfl rfl;rw [hSp] at h_;exact h_
       refine bJ (v:=.bool false) ?_ (by subst hSp;exact rfl) (fun _ _=>HJ _ _ _)
       simp only [execOp,resolve,invoke,List.map_toArray,List.map_cons,List.map_nil,d55];go_simp
     ·intro f wy hK hS _
      have h_:=hS 10 _ 56 rfl rfl
      rw [hSp] at h_
      have e56:f 56=.bool false:=h_
      have K7:=ah (KR.out.trans hK)
      clear hK hS h_
      simp only [jP,List.foldl_cons,List.foldl_nil,List.setIfInBounds_toArray,List.set_cons_zero,List.set_cons_succ,e56]
      clear e56
      go_wp2_with fail
      go_roundw
      case rel=>exact ⟨j+1,by omega,by go_num,K7⟩
      case measure=>simp [intOf];omega
    ·obtain rfl:j=l.length:=by omega
     go_wp2_with fail
     go_meet
     exact K6.out.trans KR.out
  ·have z1:((jM l).2.1==0)=false:=by simpa using hp0
   clear hp0
   go_wp2_with fail
   go_meet
   exact K4
 case rest =>
 have K8:=hcut
 clear hcut q0 q1 qg qF zS K4 HPZ HNU wP
 cases hu:lG t with
 | error er =>
  have HU:=ah hu
  have he:=Wv hu
  have y1:(er.1 != 0)=true:=by simpa using he
  clear hu he
  go_upto_region 15 with (go_at_call 12;(refine (HR.out t _ (by have:=HT.out;omega) K8.out).mono ?_);intro e w9 h_;obtain ⟨k_,h_⟩:=h_;rw [HU.out] at h_;unfold zN at h_;obtain rfl:=h_;have K9:=ah (K8.out.trans k_);clear k_)
  go_wp2_with fail
  go_ret
  exact ⟨rfl,K9.out.trans ((Kept.refl _ _).alloc _)⟩
 | ok k =>
 have HU:=ah hu
 have hkl:=Wx hu
 clear hu
 go_upto_region 15 with (go_at_call 12;(refine (HR.out t _ (by have:=HT.out;omega) K8.out).mono ?_);intro e w9 h_;obtain ⟨k_,h_⟩:=h_;rw [HU.out] at h_;unfold zN at h_;obtain ⟨kb,kc,SS,rfl,fJ,wY⟩:=h_;have HK9:=ah fJ;have xZ:=ah wY;have K9:=ah (K8.out.trans k_);clear k_ fJ wY)
 obtain ⟨w10,Tz⟩:∃x,x=w9.alloc (.cells #[.int .i64 0,.int .i64 0] 36):=⟨_,rfl⟩
 have FF:Hid (Fl w9.heap.size 0 0 w10):=by rw [Tz];exact ay w9 _
 have TA:Kept aC w9 w10:=by rw [Tz];exact (Kept.refl _ _).alloc _
 rw [←Tz]
 have K10:=ah (K9.out.trans TA)
 have hFN:Hid (w.heap.size≤w9.heap.size):=K9.out.size
 have Ip:Hid (ql w10 (fun b=>b<w10.heap.size∧¬b=w9.heap.size) kb k):=HK9.out.to TA (fun b hb=>⟨(xZ.out b hb).2,fun h=>h⟩) (fun b hb=>⟨Nat.lt_of_lt_of_le (xZ.out b hb).2 TA.size,by have:=(xZ.out b hb).2;omega⟩)
 obtain ⟨FN,hF⟩:∃x,x=w9.heap.size:=⟨_,rfl⟩
 rw [←hF] at FF hFN Ip
 rw [←hF]
 clear Tz TA K9 HK9 xZ hF
 obtain ⟨q0,q1,qg,qF⟩:=FF.out.cells
 by_cases MN:1000<rem.size
 ·have d1:decide ((1000:Int)<(rem.size:Int))=true:=ak (by omega)
  have d2:decide (1000<rem.size)=true:=ak MN
  clear MN
  go_wp2_with fail
  go_ret
  exact ⟨rfl,K10.out⟩
 have d1:decide ((1000:Int)<(rem.size:Int))=false:=au (by omega)
 have d2:decide (1000<rem.size)=false:=au MN
 have hrl:rem.size≤1000:=by omega
 obtain ⟨wc,C,hcv,kC⟩:∃wc C,(convert 9 48 (.string rem)).run Tryz.prog w10=.ok (.slice (some ⟨w10.heap.size,0,none⟩) rem.size C) wc∧Kept aC w10 wc :=
  ⟨_,_,run_bytes_of_string w10 9 48 5 rem Tryz.underlying9 Tryz.underlying48 Tryz.underlying5,((Kept.refl aC w10).drew).alloc _⟩
 clear MN
 go_upto_region 18 with fail
 have KC:=ah kC
 clear kC hcv q0 q1 qg qF d1 d2
 go_loopw [74] (fun i wr=>∃j:Nat,j≤rem.size∧i=.int .i64 j∧wr=wc∧Hid (∀x,∀h:x<rem.size,x<j→rem[x].toNat≠10)) (fun i _=>rem.size-(intOf i).toNat)
 case atStart=>exact ⟨0,Nat.zero_le _,rfl,by first|trivial|rfl,fun x _ h=>by omega⟩
 case round =>
  obtain ⟨j,hj,rfl,rfl,hno⟩:=hrel
  by_cases hlt:j<rem.size
  ·have bi:(j:Int)<(rem.size:Int):=by omega
   by_cases hc:rem[j].toNat=10
   ·have g2:((rem[j].toNat:Int)==10)=true:=by simp;omega
    clear hc
    go_wp2_with fail
    go_ret
    exact ⟨rfl,K10.out.trans KC.out⟩
   ·have g2:((rem[j].toNat:Int)==10)=false:=by simp;omega
    have step:Hid (∀x,∀h:x<rem.size,x<j+1→rem[x].toNat≠10):=fun x h hx=>by
     by_cases he:x<j
     ·exact hno.out x h he
     ·have:x=j:=by omega
      subst this;exact hc
    clear hc
    go_wp2_with fail
    go_roundw
    case rel=>exact ⟨j+1,by omega,by go_num,trivial,step⟩
    case measure=>simp [intOf];omega
  ·obtain rfl:j=rem.size:=by omega
   have hnl:Hid ((10:UInt8)∉rem.data.toList):=fun hm=>by
    obtain ⟨i,hi,e⟩:=List.getElem_of_mem hm
    have hi':i<rem.size:=hi
    have:=hno.out i hi' hi'
    apply this
    have e2:rem[i]=rem.data.toList[i]:=by rw [Array.getElem_toList];rfl
    rw [e2,e];rfl
   obtain ⟨x,hx⟩:∃x:aj,x=(⟨#[42]⟩:aj)++rem++(⟨#[10]⟩:aj)++t:=⟨_,rfl⟩
   have hxd:x.data.toList=42::(rem.data.toList++10::t.data.toList):=by rw [hx];simp [ByteArray.data_append]
   have hxs:Hid (x.size≤1000000000):=by
    have e:=congrArg List.length hxd
    have e1:x.data.toList.length=x.size:=rfl
    have e2:t.data.toList.length=t.size:=rfl
    have e3:rem.data.toList.length=rem.size:=rfl
    have:=HT.out
    simp only [List.length_cons,List.length_append] at e
    unfold Hid;omega
   have hts:t.size≤1100000:=HT.out
   have z1:(⟨#[42]⟩:aj).size=1:=rfl
   have z2:(⟨#[10]⟩:aj).size=1:=rfl
   have QB:=ah (K10.out.trans KC.out)
   have FC:=ah (FF.out.kept KC.out (fun h=>h))
   have hKC:=ah (Ip.out.to KC.out (fun b hb=>⟨hb.1,fun h=>h⟩) (fun b hb=>⟨Nat.lt_of_lt_of_le hb.1 KC.out.size,hb.2⟩):ql wr (fun b=>b<wr.heap.size∧¬b=FN) kb k)
   have hrt:=Qd HU.out hxd hnl.out hrl
   have hk1:k.length≤1048576:=by omega
   clear hxd hnl hno Ip FF KC HU
   have fl:∀(wa:World) (e0 e1:Int),Fl FN 0 0 wa→Kept aC wr wa→Fl FN e0 e1 ((wa.setCell ⟨FN,0,none⟩ (.int .i64 e0)).setCell ⟨FN,1,none⟩ (.int .i64 e1))∧Kept aC w ((wa.setCell ⟨FN,0,none⟩ (.int .i64 e0)).setCell ⟨FN,1,none⟩ (.int .i64 e1)):=fun wa e0 e1 h k=>⟨h.set e0 e1,(QB.out.trans k).step (((Kept.refl (· = FN) wa).setCell (p:=⟨FN,0,none⟩) (.inl rfl) _).setCell (p:=⟨FN,1,none⟩) (.inl rfl) _) (fun y hy=>.inr (by have:=hFN.out;omega))⟩
   have HF:=ah fl
   clear fl
   rcases hrt with h1|⟨h1,hbig⟩|h1
   ·have HE:=ah h1
    subst hx
    clear h1
    go_upto_region 24 with (go_at_call 12;(refine (HR.out _ _ hxs.out QB.out).mono ?_);intro e w12 h_;obtain ⟨k_,h_⟩:=h_;rw [HE.out] at h_;unfold zN at h_;obtain ⟨mb,mc,SS,rfl,fJ,wY⟩:=h_;have HKM:=ah fJ;have xZ:=ah wY;have rP:=ah k_;have FE:=ah (FC.out.kept k_ (fun h=>h));obtain ⟨q0,q1,qg,qF⟩:=FE.out.cells;clear k_ fJ wY)
    have hfl:=HF.out w12 0 0 FE.out rP.out
    have kS:Kept (· = FN) w12 ((w12.setCell ⟨FN,0,none⟩ (.int .i64 0)).setCell ⟨FN,1,none⟩ (.int .i64 0)):=((Kept.refl (· = FN) w12).setCell (p:=⟨FN,0,none⟩) (.inl rfl) _).setCell (p:=⟨FN,1,none⟩) (.inl rfl) _
    have S1:Hid (ql ((w12.setCell ⟨FN,0,none⟩ (.int .i64 0)).setCell ⟨FN,1,none⟩ (.int .i64 0)) (· < ((w12.setCell ⟨FN,0,none⟩ (.int .i64 0)).setCell ⟨FN,1,none⟩ (.int .i64 0)).heap.size) kb k):=(hKC.out.to rP.out (fun b hb=>⟨hb.1,fun h=>h⟩) (fun b hb=>(⟨Nat.lt_of_lt_of_le hb.1 rP.out.size,hb.2⟩:b<w12.heap.size∧¬b=FN))).to kS (fun b hb=>hb) (fun b hb=>Nat.lt_of_lt_of_le hb.1 kS.size)
    have S2:Hid (ql ((w12.setCell ⟨FN,0,none⟩ (.int .i64 0)).setCell ⟨FN,1,none⟩ (.int .i64 0)) (· < ((w12.setCell ⟨FN,0,none⟩ (.int .i64 0)).setCell ⟨FN,1,none⟩ (.int .i64 0)).heap.size) mb k):=HKM.out.to kS (fun b hb=>⟨(xZ.out b hb).2,by have h2:=(xZ.out b hb).1;have h3:=FC.out.lt;omega⟩) (fun b hb=>Nat.lt_of_lt_of_le (xZ.out b hb).2 kS.size)
    obtain ⟨w13,vW⟩:∃x,x=(w12.setCell ⟨FN,0,none⟩ (.int .i64 0)).setCell ⟨FN,1,none⟩ (.int .i64 0):=⟨_,rfl⟩
    rw [←vW] at hfl S1 S2
    try dsimp only [Act.put]
    rw [←vW]
    have WA:=ah hfl.2;have WC:=ah hfl.1
    clear vW hfl kS q0 q1 qg qF
    obtain ⟨q0,q1,qg,qF⟩:=WC.out.cells
    go_wp2_with (go_at_call 13;(refine (Qe k kb mb kc mc w13 S1.out S2.out hk1).mono ?_);rintro e w14 ⟨rfl,k_⟩;have xM:=ah (WA.out.trans k_);clear k_)
    go_ret
    exact ⟨rfl,xM.out⟩
   ·have HE:=ah h1
    subst hx
    have y2:decide ((65536:Int)<(t.size:Int)+(rem.size:Int)+2)=true:=ak (by omega)
    have y3:decide (65536<t.size+rem.size+2)=true:=ak (by omega)
    clear h1
    go_upto_region 24 with (go_at_call 12;(refine (HR.out _ _ hxs.out QB.out).mono ?_);intro e w12 h_;obtain ⟨k_,h_⟩:=h_;rw [HE.out] at h_;unfold zN at h_;obtain rfl:=h_;have rP:=ah k_;have FE:=ah (FC.out.kept k_ (fun h=>h));obtain ⟨q0,q1,qg,qF⟩:=FE.out.cells;clear k_)
    have hfl:=HF.out w12 4 0 FE.out rP.out
    obtain ⟨w13,vW⟩:∃x,x=(w12.setCell ⟨FN,0,none⟩ (.int .i64 4)).setCell ⟨FN,1,none⟩ (.int .i64 0):=⟨_,rfl⟩
    rw [←vW] at hfl
    try dsimp only [Act.put]
    rw [←vW]
    have WA:=ah hfl.2;have WC:=ah hfl.1
    clear vW hfl q0 q1 qg qF
    obtain ⟨q0,q1,qg,qF⟩:=WC.out.cells
    go_wp2_with fail
    go_ret
    exact ⟨rfl,WA.out⟩
   ·have HE:=ah h1
    subst hx
    clear h1
    go_upto_region 24 with (go_at_call 12;(refine (HR.out _ _ hxs.out QB.out).mono ?_);intro e w12 h_;obtain ⟨k_,h_⟩:=h_;rw [HE.out] at h_;unfold zN at h_;obtain rfl:=h_;have rP:=ah k_;have FE:=ah (FC.out.kept k_ (fun h=>h));obtain ⟨q0,q1,qg,qF⟩:=FE.out.cells;clear k_)
    have hfl:=HF.out w12 5 0 FE.out rP.out
    obtain ⟨w13,vW⟩:∃x,x=(w12.setCell ⟨FN,0,none⟩ (.int .i64 5)).setCell ⟨FN,1,none⟩ (.int .i64 0):=⟨_,rfl⟩
    rw [←vW] at hfl
    try dsimp only [Act.put]
    rw [←vW]
    have WA:=ah hfl.2;have WC:=ah hfl.1
    clear vW hfl q0 q1 qg qF
    obtain ⟨q0,q1,qg,qF⟩:=WC.out.cells
    go_wp2_with fail
    go_ret
    exact ⟨rfl,WA.out⟩
end Go.Proofs.YtefjbnhpjdhjmaaGreatDoor
