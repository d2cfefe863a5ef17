/-  -/
import Derived.Test.YtefjbnhpjdhjmaaGreatDoorTs21
import Derived.Deep.RegionWith
namespace Go.Proofs.YtefjbnhpjdhjmaaGreatDoor
set_option linter.all false
open Go.RowKit
set_option maxRecDepth 100000
set_option maxHeartbeats 16000000
theorem UF (s:aN) (a:ig) (w:World) (hz:nX s) (ho:lH w (· < w.heap.size) a s) (hx:UD a s) (hg:E9 w):Calls Tryz.prog 6 #[bV a s] w (aay s w):=by
 have hWr:Hid (∀wy,Kept aC w wy→Calls Tryz.prog 10 #[bV a s] wy (XJ (lC s) wy)):=fun wy hk=>XW s _ (· < wy.heap.size) wy ⟨a,rfl,hz,ho.to hk (Safe.lt (Nat.le_refl _)) (fun _ h=>Nat.lt_of_lt_of_le h hk.size)⟩ (Safe.lt (Nat.le_refl _))
 have B1:=dF.new w a s
 have k1:Kept aC w _:=(Kept.refl aC w).alloc (.cells (aV a s).toArray 30)
 unfold aV at k1
 unfold bV
 generalize hw1:World.alloc w _=w1 at B1 k1
 have I1:Hid (oh w.heap.size a s w w1):=⟨B1,ho.to k1 (Safe.lt (Nat.le_refl _)) (fun _ h=>h),k1⟩
 have Qw:=ah (UC B1)
 have HG:=ah hg;have HX:=ah hx;have HZ:=ah hz
 have HW1:=ah hw1
 clear hw1 B1 k1 ho hg hx hz
 obtain ⟨N,hN⟩:∃x,x=w.heap.size:=⟨_,rfl⟩
 by_cases hw0:lC s=0
 rotate_left
 ·have z1:(lC s != 0)=true:=by simpa using hw0
  have fin:Hid (fE s=([],lC s)):=by unfold Hid fE;rw [if_pos hw0]
  clear hw0 hN
  go_enter Tryz.func6, Tryz.ntmps6
  go_upto_region 1 with fail
  rw [HW1.out]
  go_wp2_with (first
   | (refine mP rfl _ rfl w.heap.size 0 rfl a s Qw.out ?_)
   | (go_at_call 10;(refine (hWr.out w1 I1.out.keep).mono ?_);rintro e w2 ⟨rfl,iw⟩;have K2:=ah (I1.out.keep.trans iw);clear iw))
  go_ret2
  exact ⟨by rw [fin.out];rfl,K2.out⟩
 have hr:=XV hw0
 have hvo:s.kind=2∨s.kind=3∨s.kind=4∨s.kind=5→lI s.value∧sizeT s.value≤4096:=fun h=>tN (hr.value h) HX.out.value
 have hto:s.kind=3∨s.kind=5→lI s.target∧sizeT s.target≤4096:=fun h=>tN (hr.target h) HX.out.target
 have HR:=ah hr;have Nr:=ah hvo;have UG:=ah hto;have HW0:=ah hw0
 clear hr hvo hto hw0
 have ZB:Hid (∀wy,oh w.heap.size a s w wy→Calls Tryz.prog 14 #[DJ a s] wy (UH s.pat wy)):=fun wy I=>print_any s.pat _ wy (gV.here (w0:=w) (I.pat HZ.out) I.keep.size) (by have:=HZ.out.pat.t;omega) (HG.out.next I.keep).1 (HG.out.next I.keep).2
 have ZC:Hid (s.kind=3∨s.kind=5→∀wy,oh w.heap.size a s w wy→Calls Tryz.prog 15 #[DF a s] wy (zI (aP s.target 1) wy)):=fun h wy I=>Kz s.target _ wy (gV.here (w0:=w) (I.target HZ.out) I.keep.size) (UG.out h).1 (UG.out h).2 (HG.out.next I.keep).1 (HG.out.next I.keep).2
 have Qx:Hid (s.kind=2∨s.kind=3∨s.kind=4∨s.kind=5→∀wy,oh w.heap.size a s w wy→Calls Tryz.prog 15 #[DI a s] wy (zI (aP s.value 1) wy)):=fun h wy I=>Kz s.value _ wy (gV.here (w0:=w) (I.value HZ.out) I.keep.size) (Nr.out h).1 (Nr.out h).2 (HG.out.next I.keep).1 (HG.out.next I.keep).2
 unfold DJ at ZB
 unfold DF at ZC
 unfold DI at Qx
 have hpl:=UE s
 go_enter Tryz.func6, Tryz.ntmps6
 go_upto_region 1 with fail
 rw [HW1.out]
 go_upto_region 5 with (first
  | (refine mP rfl _ rfl w.heap.size 0 rfl a s Qw.out ?_)
  | (go_at_call 10;(refine (hWr.out w1 I1.out.keep).mono ?_);rintro e w2 ⟨rfl,iw⟩;rw [HW0.out];have I2:=ah (I1.out.next iw);clear iw))
 clear I1 Qw HW1
 rw [←hN] at I2 ZB ZC Qx⊢
 clear hN
 obtain ⟨c0,c1,-⟩:=I2.out.box.cells
 go_cut [26] (fun c wx=>c=.bool (decide (eG s))∧w2=wx)
 case first =>
  by_cases k4:s.kind=4
  ·have z4:(s.kind==4)=true:=by simpa using k4
   have fin:Hid (decide (eG s)=true):=ak (.inl k4)
   clear k4
   go_wp2_with fail
   go_meet
   exact ⟨by rw [fin.out],rfl⟩
  have z4:(s.kind==4)=false:=by simpa using k4
  by_cases k5:s.kind=5
  ·have z5:(s.kind==5)=true:=by simpa using k5
   have fin:Hid (decide (eG s)=true):=ak (.inr (.inl k5))
   clear k5 k4
   go_wp2_with fail
   go_meet
   exact ⟨by rw [fin.out],rfl⟩
  have z5:(s.kind==5)=false:=by simpa using k5
  by_cases k6:s.kind=6
  ·have z6:(s.kind==6)=true:=by simpa using k6
   have fin:Hid (decide (eG s)=true):=ak (.inr (.inr k6))
   clear k6 k5 k4
   go_wp2_with fail
   go_meet
   exact ⟨by rw [fin.out],rfl⟩
  have z6:(s.kind==6)=false:=by simpa using k6
  have fin:Hid (decide (eG s)=false):=au (by unfold eG;omega)
  clear k6 k5 k4
  go_wp2_with fail
  go_meet
  exact ⟨by rw [fin.out],rfl⟩
 case rest =>
 obtain ⟨rfl,rfl⟩:=hcut
 clear c0 c1
 obtain ⟨c0,c1,c2,c3,c4,c5,c6,c7,c8,c9,c10,c11,c12,c13,c14,c15,c16,c17,c18,c19,c20,c21,dX,c23⟩:=I2.out.box.cells
 by_cases hbad:eG s∧(fQ s.pat).2≠0
 ·have zb:((fQ s.pat).2 != 0)=true:=by simpa using hbad.2
  have fin:Hid (fE s=([],(fQ s.pat).2)):=by unfold Hid fE;rw [if_neg (by simp [HW0.out]),if_pos hbad]
  rw [ak hbad.1]
  clear hbad
  go_wp2_with (go_at_call 14;(refine (ZB.out w2 I2.out).mono ?_);rintro e w3 ⟨rfl,eu⟩;have K3:=ah (I2.out.keep.trans eu);clear eu)
  go_ret2
  exact ⟨by rw [fin.out];rfl,K3.out⟩
 have HBAD:=ah hbad
 go_upto_if 26 with fail
 go_cut [5] (fun v wx=>v=.string ⟨(iE s).toArray⟩∧oh N a s w wx)
 case first =>
  by_cases hp:eG s
  ·have h0:(fQ s.pat).2=0:=Classical.not_not.1 fun h=>hbad ⟨hp,h⟩
   have fin:Hid ((⟨#[91]⟩:aj)++⟨(fQ s.pat).1.toArray⟩++⟨#[93]⟩=⟨(iE s).toArray⟩):=by unfold Hid iE;rw [if_pos hp];exact bytes_eq (by simp [ByteArray.data_append])
   have hsz:(fQ s.pat).1.length≤65540:=by unfold iE at hpl;rw [if_pos hp] at hpl;simp only [List.length_cons,List.length_append] at hpl;omega
   have H0:=ah h0
   rw [ak hp]
   clear hbad hp h0
   go_wp2_with (go_at_call 14;(refine (ZB.out w2 I2.out).mono ?_);rintro e w3 ⟨rfl,eu⟩;rw [H0.out];have I3:=ah (I2.out.next eu);clear eu)
   go_meet
   exact ⟨congrArg Value.string fin.out,I3.out⟩
  ·have fin:Hid (iE s=[]):=if_neg hp
   rw [au hp]
   clear hbad hp
   go_wp2_with fail
   go_meet
   exact ⟨by rw [fin.out],I2.out⟩
 case rest =>
 obtain ⟨rfl,hI3⟩:=hcut
 obtain ⟨w3,hw3⟩:∃x,x=wc:=⟨_,rfl⟩
 rw [←hw3] at hI3⊢
 have I3:=ah hI3
 clear hw3 hI3 hbad c0 c1 c2 c3 c4 c5 c6 c7 c8 c9 c10 c11 c12 c13 c14 c15 c16 c17 c18 c19 c20 c21 dX c23 I2
 obtain ⟨c0,c1,c2,c3,c4,c5,c6,c7,c8,c9,c10,c11,c12,c13,c14,c15,c16,c17,c18,c19,c20,c21,dX,c23⟩:=I3.out.box.cells
 have hlb:=HR.out.label
 go_upto_block 0 with fail
 go_cut [8] (fun v wx=>v=.string ⟨(s.label.data.toList++jI s (iE s)).toArray⟩∧oh N a s w wx)
 case first =>
  by_cases hk:s.kind=1
  ·have fin:Hid (s.label=⟨(s.label.data.toList++jI s (iE s)).toArray⟩):=bytes_eq (by simp [jI,hk,ByteArray.data_append])
   have z2:(s.kind==2)=false:=by rw [hk];rfl
   have z3:(s.kind==3)=false:=by rw [hk];rfl
   have z4:(s.kind==4)=false:=by rw [hk];rfl
   have z5:(s.kind==5)=false:=by rw [hk];rfl
   have z6:(s.kind==6)=false:=by rw [hk];rfl
   have z7:(s.kind==7)=false:=by rw [hk];rfl
   clear hk
   go_wp2_with fail
   go_meet
   exact ⟨congrArg Value.string fin.out,I3.out⟩
  by_cases hk:s.kind=2
  ·have fin:Hid (s.label++((⟨#[32]⟩:aj)++(⟨(aP s.value 1).toArray⟩:aj))=⟨(s.label.data.toList++jI s (iE s)).toArray⟩):=bytes_eq (by simp [jI,hk,ByteArray.data_append])
   have hle:=rJ (Nr.out (by omega)) 1;have HV:=ah (Qx.out (by omega))
   have z2:(s.kind==2)=true:=by rw [hk];rfl
   have z3:(s.kind==3)=false:=by rw [hk];rfl
   have z4:(s.kind==4)=false:=by rw [hk];rfl
   have z5:(s.kind==5)=false:=by rw [hk];rfl
   have z6:(s.kind==6)=false:=by rw [hk];rfl
   have z7:(s.kind==7)=false:=by rw [hk];rfl
   clear hk
   go_wp2_with (go_at_call 15;(refine (HV.out w3 I3.out).mono ?_);rintro e w5 ⟨rfl,xQ⟩;have I5:=ah (I3.out.next xQ);clear xQ)
   go_meet
   exact ⟨congrArg Value.string fin.out,I5.out⟩
  by_cases hk:s.kind=3
  ·have fin:Hid (s.label++((⟨#[32]⟩:aj)++(⟨(aP s.target 1).toArray⟩:aj)++(⟨#[32,61,32]⟩:aj)++(⟨(aP s.value 1).toArray⟩:aj))=⟨(s.label.data.toList++jI s (iE s)).toArray⟩):=bytes_eq (by simp [jI,hk,ByteArray.data_append])
   have hle:=rJ (Nr.out (by omega)) 1;have HV:=ah (Qx.out (by omega))
   have hlt:=rJ (UG.out (by omega)) 1;have HT:=ah (ZC.out (by omega))
   have z2:(s.kind==2)=false:=by rw [hk];rfl
   have z3:(s.kind==3)=true:=by rw [hk];rfl
   have z4:(s.kind==4)=false:=by rw [hk];rfl
   have z5:(s.kind==5)=false:=by rw [hk];rfl
   have z6:(s.kind==6)=false:=by rw [hk];rfl
   have z7:(s.kind==7)=false:=by rw [hk];rfl
   have ID:=ah (I3.out.next ((Kept.refl aC w3).drew))
   clear hk
   go_upto_region 15 with fail
   obtain ⟨Sp,hSp⟩:∃Sp:Nat→Value→World→Prop,Sp=(fun i v wx=>match i with
    | 0=>v=.string s.label
    | 1=>v=.pointer (some ⟨N,2,none⟩)
    | 2=>v=.agg #[.int .i64 s.target.kind,.string s.target.text,.int .i64 s.target.n,.string s.target.name,.slice a.ta s.target.kids.length a.tc]
    | 3=>v=.string ((⟨(aP s.target 1).toArray⟩:aj))
    | 4=>v=.string ((⟨#[32]⟩:aj)++(⟨(aP s.target 1).toArray⟩:aj))
    | 5=>v=.string ((⟨#[32]⟩:aj)++(⟨(aP s.target 1).toArray⟩:aj)++(⟨#[32,61,32]⟩:aj))
    | 6=>v=.pointer (some ⟨N,7,none⟩)
    | 7=>v=.agg #[.int .i64 s.value.kind,.string s.value.text,.int .i64 s.value.n,.string s.value.name,.slice a.va s.value.kids.length a.vc]
    | 8=>v=.string ((⟨(aP s.value 1).toArray⟩:aj))
    | 9=>v=.string ((⟨#[32]⟩:aj)++(⟨(aP s.target 1).toArray⟩:aj)++(⟨#[32,61,32]⟩:aj)++(⟨(aP s.value 1).toArray⟩:aj))
    | 10=>v=.string (s.label++((⟨#[32]⟩:aj)++(⟨(aP s.target 1).toArray⟩:aj)++(⟨#[32,61,32]⟩:aj)++(⟨(aP s.value 1).toArray⟩:aj)))
    | _=>v=.string (s.label++((⟨#[32]⟩:aj)++(⟨(aP s.target 1).toArray⟩:aj)++(⟨#[32,61,32]⟩:aj)++(⟨(aP s.value 1).toArray⟩:aj)))):=⟨_,rfl⟩
   refine uV Sp [53,54,55,56,57,58,59,60,61,62,63,8] (by kernel_rfl) (by kernel_rfl) (by kernel_rfl) (fun i v w w' h hk=>by
     subst hSp
     rcases i with _|_|_|_|_|_|_|_|_|_|_|_|i
     all_goals (first
      | exact h)) ?_ ?_
   ·intro i o hi l x wy hI hlf haft
    have e1:x.eval (.tmp 1)=.pointer (some ⟨N,0,none⟩):=hI.keep 1 _ rfl (by kernel_rfl)
    have J:=I3.out.next hI.kept
    clear c0 c1 c2 c3 c4 c5 c6 c7 c8 c9 c10 c11 c12 c13 c14 c15 c16 c17 c18 c19 c20 c21 dX c23
    obtain ⟨c0,c1,c2,c3,c4,c5,c6,c7,c8,c9,c10,c11,c12,c13,c14,c15,c16,c17,c18,c19,c20,c21,dX,c23⟩:=J.box.cells
    rcases i with _|_|_|_|_|_|_|_|_|_|_|_|i
    all_goals (simp only [List.getElem?_toArray,List.getElem?_cons_zero,List.getElem?_cons_succ,List.getElem?_nil,Option.some.injEq,reduceCtorEq] at hi)
    all_goals subst hi
    ·have e8:x.eval (.tmp 8)=.string s.label:=hI.late hlf 11 8 rfl rfl rfl _ rfl
     refine bQ (v:=.string s.label) ?_ (by subst hSp;exact rfl)
     simp only [execOp,resolve,invoke,List.map_toArray,List.map_cons,List.map_nil,e8];go_simp<;>omega
    ·refine bQ (v:=.pointer (some ⟨N,2,none⟩)) ?_ (by subst hSp;exact rfl)
     simp only [execOp,resolve,invoke,List.map_toArray,List.map_cons,List.map_nil,e1];go_simp<;>omega
    ·have UJ:x.eval (.tmp 54)=.pointer (some ⟨N,2,none⟩):=by have h_:=hI.dep haft 1 54 rfl rfl rfl;rw [hSp] at h_;exact h_
     refine bQ (v:=.agg #[.int .i64 s.target.kind,.string s.target.text,.int .i64 s.target.n,.string s.target.name,.slice a.ta s.target.kids.length a.tc]) ?_ (by subst hSp;exact rfl)
     simp only [execOp,resolve,invoke,List.map_toArray,List.map_cons,List.map_nil,UJ];go_simp<;>omega
    ·have d55:x.eval (.tmp 55)=.agg #[.int .i64 s.target.kind,.string s.target.text,.int .i64 s.target.n,.string s.target.name,.slice a.ta s.target.kids.length a.tc]:=by have h_:=hI.dep haft 2 55 rfl rfl rfl;rw [hSp] at h_;exact h_
     refine nR (f:=15) (args:=#[.agg #[.int .i64 s.target.kind,.string s.target.text,.int .i64 s.target.n,.string s.target.name,.slice a.ta s.target.kids.length a.tc]]) ?_ ?_
     ·simp only [execOp,resolve,invoke,List.map_toArray,List.map_cons,List.map_nil,d55];go_simp<;>omega
     ·exact (HT.out _ J).mono fun e w' h=>⟨_,h.1,by subst hSp;exact rfl,h.2⟩
    ·have d56:x.eval (.tmp 56)=.string ((⟨(aP s.target 1).toArray⟩:aj)):=by have h_:=hI.dep haft 3 56 rfl rfl rfl;rw [hSp] at h_;exact h_
     refine bQ (v:=.string ((⟨#[32]⟩:aj)++(⟨(aP s.target 1).toArray⟩:aj))) ?_ (by subst hSp;exact rfl)
     simp only [execOp,resolve,invoke,List.map_toArray,List.map_cons,List.map_nil,d56];go_simp<;>omega
    ·have d57:x.eval (.tmp 57)=.string ((⟨#[32]⟩:aj)++(⟨(aP s.target 1).toArray⟩:aj)):=by have h_:=hI.dep haft 4 57 rfl rfl rfl;rw [hSp] at h_;exact h_
     refine bQ (v:=.string ((⟨#[32]⟩:aj)++(⟨(aP s.target 1).toArray⟩:aj)++(⟨#[32,61,32]⟩:aj))) ?_ (by subst hSp;exact rfl)
     simp only [execOp,resolve,invoke,List.map_toArray,List.map_cons,List.map_nil,d57];go_simp<;>omega
    ·refine bQ (v:=.pointer (some ⟨N,7,none⟩)) ?_ (by subst hSp;exact rfl)
     simp only [execOp,resolve,invoke,List.map_toArray,List.map_cons,List.map_nil,e1];go_simp<;>omega
    ·have d59:x.eval (.tmp 59)=.pointer (some ⟨N,7,none⟩):=by have h_:=hI.dep haft 6 59 rfl rfl rfl;rw [hSp] at h_;exact h_
     refine bQ (v:=.agg #[.int .i64 s.value.kind,.string s.value.text,.int .i64 s.value.n,.string s.value.name,.slice a.va s.value.kids.length a.vc]) ?_ (by subst hSp;exact rfl)
     simp only [execOp,resolve,invoke,List.map_toArray,List.map_cons,List.map_nil,d59];go_simp<;>omega
    ·have d60:x.eval (.tmp 60)=.agg #[.int .i64 s.value.kind,.string s.value.text,.int .i64 s.value.n,.string s.value.name,.slice a.va s.value.kids.length a.vc]:=by have h_:=hI.dep haft 7 60 rfl rfl rfl;rw [hSp] at h_;exact h_
     refine nR (f:=15) (args:=#[.agg #[.int .i64 s.value.kind,.string s.value.text,.int .i64 s.value.n,.string s.value.name,.slice a.va s.value.kids.length a.vc]]) ?_ ?_
     ·simp only [execOp,resolve,invoke,List.map_toArray,List.map_cons,List.map_nil,d60];go_simp<;>omega
     ·exact (HV.out _ J).mono fun e w' h=>⟨_,h.1,by subst hSp;exact rfl,h.2⟩
    ·have d58:x.eval (.tmp 58)=.string ((⟨#[32]⟩:aj)++(⟨(aP s.target 1).toArray⟩:aj)++(⟨#[32,61,32]⟩:aj)):=by have h_:=hI.dep haft 5 58 rfl rfl rfl;rw [hSp] at h_;exact h_
     have d61:x.eval (.tmp 61)=.string ((⟨(aP s.value 1).toArray⟩:aj)):=by have h_:=hI.dep haft 8 61 rfl rfl rfl;rw [hSp] at h_;exact h_
     refine bQ (v:=.string ((⟨#[32]⟩:aj)++(⟨(aP s.target 1).toArray⟩:aj)++(⟨#[32,61,32]⟩:aj)++(⟨(aP s.value 1).toArray⟩:aj))) ?_ (by subst hSp;exact rfl)
     simp only [execOp,resolve,invoke,List.map_toArray,List.map_cons,List.map_nil,d58,d61];go_simp<;>omega
    ·have d53:x.eval (.tmp 53)=.string s.label:=by have h_:=hI.dep haft 0 53 rfl rfl rfl;rw [hSp] at h_;exact h_
     have d62:x.eval (.tmp 62)=.string ((⟨#[32]⟩:aj)++(⟨(aP s.target 1).toArray⟩:aj)++(⟨#[32,61,32]⟩:aj)++(⟨(aP s.value 1).toArray⟩:aj)):=by have h_:=hI.dep haft 9 62 rfl rfl rfl;rw [hSp] at h_;exact h_
     refine bQ (v:=.string (s.label++((⟨#[32]⟩:aj)++(⟨(aP s.target 1).toArray⟩:aj)++(⟨#[32,61,32]⟩:aj)++(⟨(aP s.value 1).toArray⟩:aj)))) ?_ (by subst hSp;exact rfl)
     simp only [execOp,resolve,invoke,List.map_toArray,List.map_cons,List.map_nil,d53,d62];go_simp<;>omega
    ·have d63:x.eval (.tmp 63)=.string (s.label++((⟨#[32]⟩:aj)++(⟨(aP s.target 1).toArray⟩:aj)++(⟨#[32,61,32]⟩:aj)++(⟨(aP s.value 1).toArray⟩:aj))):=by have h_:=hI.dep haft 10 63 rfl rfl rfl;rw [hSp] at h_;exact h_
     refine bQ (v:=.string (s.label++((⟨#[32]⟩:aj)++(⟨(aP s.target 1).toArray⟩:aj)++(⟨#[32,61,32]⟩:aj)++(⟨(aP s.value 1).toArray⟩:aj)))) ?_ (by subst hSp;exact rfl)
     simp only [execOp,resolve,invoke,List.map_toArray,List.map_cons,List.map_nil,d63];go_simp<;>omega
   ·intro f wy hK hS
    have qH:=hS 11 _ 8 rfl rfl
    rw [hSp] at qH
    have e8:f 8=.string (s.label++((⟨#[32]⟩:aj)++(⟨(aP s.target 1).toArray⟩:aj)++(⟨#[32,61,32]⟩:aj)++(⟨(aP s.value 1).toArray⟩:aj))):=qH
    rw [fin.out] at e8
    have K4:=ah hK
    clear hK hS qH
    simp only [jP,List.foldl_cons,List.foldl_nil,List.setIfInBounds_toArray,List.set_cons_zero,List.set_cons_succ,e8]
    clear e8
    go_wp2_with fail
    go_meet
    exact ⟨rfl,I3.out.next K4.out⟩
  by_cases hk:s.kind=4
  ·have fin:Hid (s.label++((⟨#[32]⟩:aj)++(⟨(aP s.value 1).toArray⟩:aj)++(⟨#[32,63,32]⟩:aj)++(⟨(iE s).toArray⟩:aj))=⟨(s.label.data.toList++jI s (iE s)).toArray⟩):=bytes_eq (by simp [jI,hk,ByteArray.data_append])
   have hle:=rJ (Nr.out (by omega)) 1;have HV:=ah (Qx.out (by omega))
   have z2:(s.kind==2)=false:=by rw [hk];rfl
   have z3:(s.kind==3)=false:=by rw [hk];rfl
   have z4:(s.kind==4)=true:=by rw [hk];rfl
   have z5:(s.kind==5)=false:=by rw [hk];rfl
   have z6:(s.kind==6)=false:=by rw [hk];rfl
   have z7:(s.kind==7)=false:=by rw [hk];rfl
   clear hk
   go_wp2_with (go_at_call 15;(refine (HV.out w3 I3.out).mono ?_);rintro e w5 ⟨rfl,xQ⟩;have I5:=ah (I3.out.next xQ);clear xQ)
   go_meet
   exact ⟨congrArg Value.string fin.out,I5.out⟩
  by_cases hk:s.kind=5
  ·have fin:Hid (s.label++((⟨#[32]⟩:aj)++(⟨(aP s.target 1).toArray⟩:aj)++(⟨#[32,63,32]⟩:aj)++(⟨(iE s).toArray⟩:aj)++(⟨#[32,61,32]⟩:aj)++(⟨(aP s.value 1).toArray⟩:aj))=⟨(s.label.data.toList++jI s (iE s)).toArray⟩):=bytes_eq (by simp [jI,hk,ByteArray.data_append])
   have hle:=rJ (Nr.out (by omega)) 1;have HV:=ah (Qx.out (by omega))
   have hlt:=rJ (UG.out (by omega)) 1;have HT:=ah (ZC.out (by omega))
   have z2:(s.kind==2)=false:=by rw [hk];rfl
   have z3:(s.kind==3)=false:=by rw [hk];rfl
   have z4:(s.kind==4)=false:=by rw [hk];rfl
   have z5:(s.kind==5)=true:=by rw [hk];rfl
   have z6:(s.kind==6)=false:=by rw [hk];rfl
   have z7:(s.kind==7)=false:=by rw [hk];rfl
   have ID:=ah (I3.out.next ((Kept.refl aC w3).drew))
   clear hk
   go_upto_region 19 with fail
   obtain ⟨Sp,hSp⟩:∃Sp:Nat→Value→World→Prop,Sp=(fun i v wx=>match i with
    | 0=>v=.string s.label
    | 1=>v=.pointer (some ⟨N,2,none⟩)
    | 2=>v=.agg #[.int .i64 s.target.kind,.string s.target.text,.int .i64 s.target.n,.string s.target.name,.slice a.ta s.target.kids.length a.tc]
    | 3=>v=.string ((⟨(aP s.target 1).toArray⟩:aj))
    | 4=>v=.string ((⟨#[32]⟩:aj)++(⟨(aP s.target 1).toArray⟩:aj))
    | 5=>v=.string ((⟨#[32]⟩:aj)++(⟨(aP s.target 1).toArray⟩:aj)++(⟨#[32,63,32]⟩:aj))
    | 6=>v=.string (⟨(iE s).toArray⟩:aj)
    | 7=>v=.string ((⟨#[32]⟩:aj)++(⟨(aP s.target 1).toArray⟩:aj)++(⟨#[32,63,32]⟩:aj)++(⟨(iE s).toArray⟩:aj))
    | 8=>v=.string ((⟨#[32]⟩:aj)++(⟨(aP s.target 1).toArray⟩:aj)++(⟨#[32,63,32]⟩:aj)++(⟨(iE s).toArray⟩:aj)++(⟨#[32,61,32]⟩:aj))
    | 9=>v=.pointer (some ⟨N,7,none⟩)
    | 10=>v=.agg #[.int .i64 s.value.kind,.string s.value.text,.int .i64 s.value.n,.string s.value.name,.slice a.va s.value.kids.length a.vc]
    | 11=>v=.string ((⟨(aP s.value 1).toArray⟩:aj))
    | 12=>v=.string ((⟨#[32]⟩:aj)++(⟨(aP s.target 1).toArray⟩:aj)++(⟨#[32,63,32]⟩:aj)++(⟨(iE s).toArray⟩:aj)++(⟨#[32,61,32]⟩:aj)++(⟨(aP s.value 1).toArray⟩:aj))
    | 13=>v=.string (s.label++((⟨#[32]⟩:aj)++(⟨(aP s.target 1).toArray⟩:aj)++(⟨#[32,63,32]⟩:aj)++(⟨(iE s).toArray⟩:aj)++(⟨#[32,61,32]⟩:aj)++(⟨(aP s.value 1).toArray⟩:aj)))
    | _=>v=.string (s.label++((⟨#[32]⟩:aj)++(⟨(aP s.target 1).toArray⟩:aj)++(⟨#[32,63,32]⟩:aj)++(⟨(iE s).toArray⟩:aj)++(⟨#[32,61,32]⟩:aj)++(⟨(aP s.value 1).toArray⟩:aj)))):=⟨_,rfl⟩
   refine uV Sp [77,78,79,80,81,82,83,84,85,86,87,88,89,90,8] (by kernel_rfl) (by kernel_rfl) (by kernel_rfl) (fun i v w w' h hk=>by
     subst hSp
     rcases i with _|_|_|_|_|_|_|_|_|_|_|_|_|_|_|i
     all_goals (first
      | exact h)) ?_ ?_
   ·intro i o hi l x wy hI hlf haft
    have e1:x.eval (.tmp 1)=.pointer (some ⟨N,0,none⟩):=hI.keep 1 _ rfl (by kernel_rfl)
    have e5:x.eval (.tmp 5)=.string (⟨(iE s).toArray⟩:aj):=hI.keep 5 _ rfl (by kernel_rfl)
    have J:=I3.out.next hI.kept
    clear c0 c1 c2 c3 c4 c5 c6 c7 c8 c9 c10 c11 c12 c13 c14 c15 c16 c17 c18 c19 c20 c21 dX c23
    obtain ⟨c0,c1,c2,c3,c4,c5,c6,c7,c8,c9,c10,c11,c12,c13,c14,c15,c16,c17,c18,c19,c20,c21,dX,c23⟩:=J.box.cells
    rcases i with _|_|_|_|_|_|_|_|_|_|_|_|_|_|_|i
    all_goals (simp only [List.getElem?_toArray,List.getElem?_cons_zero,List.getElem?_cons_succ,List.getElem?_nil,Option.some.injEq,reduceCtorEq] at hi)
    all_goals subst hi
    ·have e8:x.eval (.tmp 8)=.string s.label:=hI.late hlf 14 8 rfl rfl rfl _ rfl
     refine bQ (v:=.string s.label) ?_ (by subst hSp;exact rfl)
     simp only [execOp,resolve,invoke,List.map_toArray,List.map_cons,List.map_nil,e8];go_simp<;>omega
    ·refine bQ (v:=.pointer (some ⟨N,2,none⟩)) ?_ (by subst hSp;exact rfl)
     simp only [execOp,resolve,invoke,List.map_toArray,List.map_cons,List.map_nil,e1];go_simp<;>omega
    ·have d78:x.eval (.tmp 78)=.pointer (some ⟨N,2,none⟩):=by have h_:=hI.dep haft 1 78 rfl rfl rfl;rw [hSp] at h_;exact h_
     refine bQ (v:=.agg #[.int .i64 s.target.kind,.string s.target.text,.int .i64 s.target.n,.string s.target.name,.slice a.ta s.target.kids.length a.tc]) ?_ (by subst hSp;exact rfl)
     simp only [execOp,resolve,invoke,List.map_toArray,List.map_cons,List.map_nil,d78];go_simp<;>omega
    ·have d79:x.eval (.tmp 79)=.agg #[.int .i64 s.target.kind,.string s.target.text,.int .i64 s.target.n,.string s.target.name,.slice a.ta s.target.kids.length a.tc]:=by have h_:=hI.dep haft 2 79 rfl rfl rfl;rw [hSp] at h_;exact h_
     refine nR (f:=15) (args:=#[.agg #[.int .i64 s.target.kind,.string s.target.text,.int .i64 s.target.n,.string s.target.name,.slice a.ta s.target.kids.length a.tc]]) ?_ ?_
     ·simp only [execOp,resolve,invoke,List.map_toArray,List.map_cons,List.map_nil,d79];go_simp<;>omega
     ·exact (HT.out _ J).mono fun e w' h=>⟨_,h.1,by subst hSp;exact rfl,h.2⟩
    ·have d80:x.eval (.tmp 80)=.string ((⟨(aP s.target 1).toArray⟩:aj)):=by have h_:=hI.dep haft 3 80 rfl rfl rfl;rw [hSp] at h_;exact h_
     refine bQ (v:=.string ((⟨#[32]⟩:aj)++(⟨(aP s.target 1).toArray⟩:aj))) ?_ (by subst hSp;exact rfl)
     simp only [execOp,resolve,invoke,List.map_toArray,List.map_cons,List.map_nil,d80];go_simp<;>omega
    ·have d81:x.eval (.tmp 81)=.string ((⟨#[32]⟩:aj)++(⟨(aP s.target 1).toArray⟩:aj)):=by have h_:=hI.dep haft 4 81 rfl rfl rfl;rw [hSp] at h_;exact h_
     refine bQ (v:=.string ((⟨#[32]⟩:aj)++(⟨(aP s.target 1).toArray⟩:aj)++(⟨#[32,63,32]⟩:aj))) ?_ (by subst hSp;exact rfl)
     simp only [execOp,resolve,invoke,List.map_toArray,List.map_cons,List.map_nil,d81];go_simp<;>omega
    ·refine bQ (v:=.string (⟨(iE s).toArray⟩:aj)) ?_ (by subst hSp;exact rfl)
     simp only [execOp,resolve,invoke,List.map_toArray,List.map_cons,List.map_nil,e5];go_simp<;>omega
    ·have d82:x.eval (.tmp 82)=.string ((⟨#[32]⟩:aj)++(⟨(aP s.target 1).toArray⟩:aj)++(⟨#[32,63,32]⟩:aj)):=by have h_:=hI.dep haft 5 82 rfl rfl rfl;rw [hSp] at h_;exact h_
     have d83:x.eval (.tmp 83)=.string (⟨(iE s).toArray⟩:aj):=by have h_:=hI.dep haft 6 83 rfl rfl rfl;rw [hSp] at h_;exact h_
     refine bQ (v:=.string ((⟨#[32]⟩:aj)++(⟨(aP s.target 1).toArray⟩:aj)++(⟨#[32,63,32]⟩:aj)++(⟨(iE s).toArray⟩:aj))) ?_ (by subst hSp;exact rfl)
     simp only [execOp,resolve,invoke,List.map_toArray,List.map_cons,List.map_nil,d82,d83];go_simp<;>omega
    ·have d84:x.eval (.tmp 84)=.string ((⟨#[32]⟩:aj)++(⟨(aP s.target 1).toArray⟩:aj)++(⟨#[32,63,32]⟩:aj)++(⟨(iE s).toArray⟩:aj)):=by have h_:=hI.dep haft 7 84 rfl rfl rfl;rw [hSp] at h_;exact h_
     refine bQ (v:=.string ((⟨#[32]⟩:aj)++(⟨(aP s.target 1).toArray⟩:aj)++(⟨#[32,63,32]⟩:aj)++(⟨(iE s).toArray⟩:aj)++(⟨#[32,61,32]⟩:aj))) ?_ (by subst hSp;exact rfl)
     simp only [execOp,resolve,invoke,List.map_toArray,List.map_cons,List.map_nil,d84];go_simp<;>omega
    ·refine bQ (v:=.pointer (some ⟨N,7,none⟩)) ?_ (by subst hSp;exact rfl)
     simp only [execOp,resolve,invoke,List.map_toArray,List.map_cons,List.map_nil,e1];go_simp<;>omega
    ·have d86:x.eval (.tmp 86)=.pointer (some ⟨N,7,none⟩):=by have h_:=hI.dep haft 9 86 rfl rfl rfl;rw [hSp] at h_;exact h_
     refine bQ (v:=.agg #[.int .i64 s.value.kind,.string s.value.text,.int .i64 s.value.n,.string s.value.name,.slice a.va s.value.kids.length a.vc]) ?_ (by subst hSp;exact rfl)
     simp only [execOp,resolve,invoke,List.map_toArray,List.map_cons,List.map_nil,d86];go_simp<;>omega
    ·have d87:x.eval (.tmp 87)=.agg #[.int .i64 s.value.kind,.string s.value.text,.int .i64 s.value.n,.string s.value.name,.slice a.va s.value.kids.length a.vc]:=by have h_:=hI.dep haft 10 87 rfl rfl rfl;rw [hSp] at h_;exact h_
     refine nR (f:=15) (args:=#[.agg #[.int .i64 s.value.kind,.string s.value.text,.int .i64 s.value.n,.string s.value.name,.slice a.va s.value.kids.length a.vc]]) ?_ ?_
     ·simp only [execOp,resolve,invoke,List.map_toArray,List.map_cons,List.map_nil,d87];go_simp<;>omega
     ·exact (HV.out _ J).mono fun e w' h=>⟨_,h.1,by subst hSp;exact rfl,h.2⟩
    ·have d85:x.eval (.tmp 85)=.string ((⟨#[32]⟩:aj)++(⟨(aP s.target 1).toArray⟩:aj)++(⟨#[32,63,32]⟩:aj)++(⟨(iE s).toArray⟩:aj)++(⟨#[32,61,32]⟩:aj)):=by have h_:=hI.dep haft 8 85 rfl rfl rfl;rw [hSp] at h_;exact h_
     have d88:x.eval (.tmp 88)=.string ((⟨(aP s.value 1).toArray⟩:aj)):=by have h_:=hI.dep haft 11 88 rfl rfl rfl;rw [hSp] at h_;exact h_
     refine bQ (v:=.string ((⟨#[32]⟩:aj)++(⟨(aP s.target 1).toArray⟩:aj)++(⟨#[32,63,32]⟩:aj)++(⟨(iE s).toArray⟩:aj)++(⟨#[32,61,32]⟩:aj)++(⟨(aP s.value 1).toArray⟩:aj))) ?_ (by subst hSp;exact rfl)
     simp only [execOp,resolve,invoke,List.map_toArray,List.map_cons,List.map_nil,d85,d88];go_simp<;>omega
    ·have d77:x.eval (.tmp 77)=.string s.label:=by have h_:=hI.dep haft 0 77 rfl rfl rfl;rw [hSp] at h_;exact h_
     have d89:x.eval (.tmp 89)=.string ((⟨#[32]⟩:aj)++(⟨(aP s.target 1).toArray⟩:aj)++(⟨#[32,63,32]⟩:aj)++(⟨(iE s).toArray⟩:aj)++(⟨#[32,61,32]⟩:aj)++(⟨(aP s.value 1).toArray⟩:aj)):=by have h_:=hI.dep haft 12 89 rfl rfl rfl;rw [hSp] at h_;exact h_
     refine bQ (v:=.string (s.label++((⟨#[32]⟩:aj)++(⟨(aP s.target 1).toArray⟩:aj)++(⟨#[32,63,32]⟩:aj)++(⟨(iE s).toArray⟩:aj)++(⟨#[32,61,32]⟩:aj)++(⟨(aP s.value 1).toArray⟩:aj)))) ?_ (by subst hSp;exact rfl)
     simp only [execOp,resolve,invoke,List.map_toArray,List.map_cons,List.map_nil,d77,d89];go_simp<;>omega
    ·have d90:x.eval (.tmp 90)=.string (s.label++((⟨#[32]⟩:aj)++(⟨(aP s.target 1).toArray⟩:aj)++(⟨#[32,63,32]⟩:aj)++(⟨(iE s).toArray⟩:aj)++(⟨#[32,61,32]⟩:aj)++(⟨(aP s.value 1).toArray⟩:aj))):=by have h_:=hI.dep haft 13 90 rfl rfl rfl;rw [hSp] at h_;exact h_
     refine bQ (v:=.string (s.label++((⟨#[32]⟩:aj)++(⟨(aP s.target 1).toArray⟩:aj)++(⟨#[32,63,32]⟩:aj)++(⟨(iE s).toArray⟩:aj)++(⟨#[32,61,32]⟩:aj)++(⟨(aP s.value 1).toArray⟩:aj)))) ?_ (by subst hSp;exact rfl)
     simp only [execOp,resolve,invoke,List.map_toArray,List.map_cons,List.map_nil,d90];go_simp<;>omega
   ·intro f wy hK hS
    have qH:=hS 14 _ 8 rfl rfl
    rw [hSp] at qH
    have e8:f 8=.string (s.label++((⟨#[32]⟩:aj)++(⟨(aP s.target 1).toArray⟩:aj)++(⟨#[32,63,32]⟩:aj)++(⟨(iE s).toArray⟩:aj)++(⟨#[32,61,32]⟩:aj)++(⟨(aP s.value 1).toArray⟩:aj))):=qH
    rw [fin.out] at e8
    have K4:=ah hK
    clear hK hS qH
    simp only [jP,List.foldl_cons,List.foldl_nil,List.setIfInBounds_toArray,List.set_cons_zero,List.set_cons_succ,e8]
    clear e8
    go_wp2_with fail
    go_meet
    exact ⟨rfl,I3.out.next K4.out⟩
  by_cases hk:s.kind=6
  ·have fin:Hid (s.label++((⟨#[32]⟩:aj)++s.name++(⟨#[32,58,61,32]⟩:aj)++(⟨(iE s).toArray⟩:aj))=⟨(s.label.data.toList++jI s (iE s)).toArray⟩):=bytes_eq (by simp [jI,hk,ByteArray.data_append])
   have hnm:=HR.out.name (by omega)
   have z2:(s.kind==2)=false:=by rw [hk];rfl
   have z3:(s.kind==3)=false:=by rw [hk];rfl
   have z4:(s.kind==4)=false:=by rw [hk];rfl
   have z5:(s.kind==5)=false:=by rw [hk];rfl
   have z6:(s.kind==6)=true:=by rw [hk];rfl
   have z7:(s.kind==7)=false:=by rw [hk];rfl
   clear hk
   go_wp2_with fail
   go_meet
   exact ⟨congrArg Value.string fin.out,I3.out⟩
  by_cases hk:s.kind=7
  ·have fin:Hid (s.label++((⟨#[32,68,69,70,73,78,69,32]⟩:aj)++s.name++(⟨#[40]⟩:aj)++(⟨(dA s.params).toArray⟩:aj)++(⟨#[41]⟩:aj)++(⟨(dA s.locals).toArray⟩:aj)++(⟨#[32]⟩:aj)++s.entry)=⟨(s.label.data.toList++jI s (iE s)).toArray⟩):=bytes_eq (by simp [jI,hk,ByteArray.data_append])
   have hnm:=HR.out.name (by omega)
   have hen:=HR.out.entry hk;have hpa:=HR.out.params hk;have hlo:=HR.out.locals hk
   have hc1:=vT hpa.1 hpa.2;have hc2:=vT hlo.1 hlo.2
   have HJ:Hid (∀wy,oh N a s w wy→Calls Tryz.prog 16 #[.slice a.ma s.params.length a.mc,.string ⟨#[44]⟩] wy (zI (dA s.params) wy)):=fun wy I=>Nq s.params a.ma a.mc _ wy I.ok.params I.safe HX.out.params hpa.1 hpa.2
   have HK:Hid (∀wy,oh N a s w wy→Calls Tryz.prog 16 #[.slice a.la s.locals.length a.lc,.string ⟨#[44]⟩] wy (zI (dA s.locals) wy)):=fun wy I=>Nq s.locals a.la a.lc _ wy I.ok.locals I.safe HX.out.locals hlo.1 hlo.2
   clear hpa hlo
   have z2:(s.kind==2)=false:=by rw [hk];rfl
   have z3:(s.kind==3)=false:=by rw [hk];rfl
   have z4:(s.kind==4)=false:=by rw [hk];rfl
   have z5:(s.kind==5)=false:=by rw [hk];rfl
   have z6:(s.kind==6)=false:=by rw [hk];rfl
   have z7:(s.kind==7)=true:=by rw [hk];rfl
   have ID:=ah (I3.out.next ((Kept.refl aC w3).drew))
   clear hk
   go_upto_region 23 with fail
   obtain ⟨Sp,hSp⟩:∃Sp:Nat→Value→World→Prop,Sp=(fun i v wx=>match i with
    | 0=>v=.string s.label
    | 1=>v=.pointer (some ⟨N,17,none⟩)
    | 2=>v=.string s.name
    | 3=>v=.string ((⟨#[32,68,69,70,73,78,69,32]⟩:aj)++s.name)
    | 4=>v=.string ((⟨#[32,68,69,70,73,78,69,32]⟩:aj)++s.name++(⟨#[40]⟩:aj))
    | 5=>v=.pointer (some ⟨N,19,none⟩)
    | 6=>v=.slice a.ma s.params.length a.mc
    | 7=>v=.string ((⟨(dA s.params).toArray⟩:aj))
    | 8=>v=.string ((⟨#[32,68,69,70,73,78,69,32]⟩:aj)++s.name++(⟨#[40]⟩:aj)++(⟨(dA s.params).toArray⟩:aj))
    | 9=>v=.string ((⟨#[32,68,69,70,73,78,69,32]⟩:aj)++s.name++(⟨#[40]⟩:aj)++(⟨(dA s.params).toArray⟩:aj)++(⟨#[41]⟩:aj))
    | 10=>v=.pointer (some ⟨N,20,none⟩)
    | 11=>v=.slice a.la s.locals.length a.lc
    | 12=>v=.string ((⟨(dA s.locals).toArray⟩:aj))
    | 13=>v=.string ((⟨#[32,68,69,70,73,78,69,32]⟩:aj)++s.name++(⟨#[40]⟩:aj)++(⟨(dA s.params).toArray⟩:aj)++(⟨#[41]⟩:aj)++(⟨(dA s.locals).toArray⟩:aj))
    | 14=>v=.string ((⟨#[32,68,69,70,73,78,69,32]⟩:aj)++s.name++(⟨#[40]⟩:aj)++(⟨(dA s.params).toArray⟩:aj)++(⟨#[41]⟩:aj)++(⟨(dA s.locals).toArray⟩:aj)++(⟨#[32]⟩:aj))
    | 15=>v=.pointer (some ⟨N,18,none⟩)
    | 16=>v=.string s.entry
    | 17=>v=.string ((⟨#[32,68,69,70,73,78,69,32]⟩:aj)++s.name++(⟨#[40]⟩:aj)++(⟨(dA s.params).toArray⟩:aj)++(⟨#[41]⟩:aj)++(⟨(dA s.locals).toArray⟩:aj)++(⟨#[32]⟩:aj)++s.entry)
    | 18=>v=.string (s.label++((⟨#[32,68,69,70,73,78,69,32]⟩:aj)++s.name++(⟨#[40]⟩:aj)++(⟨(dA s.params).toArray⟩:aj)++(⟨#[41]⟩:aj)++(⟨(dA s.locals).toArray⟩:aj)++(⟨#[32]⟩:aj)++s.entry))
    | _=>v=.string (s.label++((⟨#[32,68,69,70,73,78,69,32]⟩:aj)++s.name++(⟨#[40]⟩:aj)++(⟨(dA s.params).toArray⟩:aj)++(⟨#[41]⟩:aj)++(⟨(dA s.locals).toArray⟩:aj)++(⟨#[32]⟩:aj)++s.entry))):=⟨_,rfl⟩
   refine uV Sp [103,104,105,106,107,108,109,110,111,112,113,114,115,116,117,118,119,120,121,8] (by kernel_rfl) (by kernel_rfl) (by kernel_rfl) (fun i v w w' h hk=>by
     subst hSp
     rcases i with _|_|_|_|_|_|_|_|_|_|_|_|_|_|_|_|_|_|_|_|i
     all_goals (first
      | exact h)) ?_ ?_
   ·intro i o hi l x wy hI hlf haft
    have e1:x.eval (.tmp 1)=.pointer (some ⟨N,0,none⟩):=hI.keep 1 _ rfl (by kernel_rfl)
    have J:=I3.out.next hI.kept
    clear c0 c1 c2 c3 c4 c5 c6 c7 c8 c9 c10 c11 c12 c13 c14 c15 c16 c17 c18 c19 c20 c21 dX c23
    obtain ⟨c0,c1,c2,c3,c4,c5,c6,c7,c8,c9,c10,c11,c12,c13,c14,c15,c16,c17,c18,c19,c20,c21,dX,c23⟩:=J.box.cells
    rcases i with _|_|_|_|_|_|_|_|_|_|_|_|_|_|_|_|_|_|_|_|i
    all_goals (simp only [List.getElem?_toArray,List.getElem?_cons_zero,List.getElem?_cons_succ,List.getElem?_nil,Option.some.injEq,reduceCtorEq] at hi)
    all_goals subst hi
    ·have e8:x.eval (.tmp 8)=.string s.label:=hI.late hlf 19 8 rfl rfl rfl _ rfl
     refine bQ (v:=.string s.label) ?_ (by subst hSp;exact rfl)
     simp only [execOp,resolve,invoke,List.map_toArray,List.map_cons,List.map_nil,e8];go_simp<;>omega
    ·refine bQ (v:=.pointer (some ⟨N,17,none⟩)) ?_ (by subst hSp;exact rfl)
     simp only [execOp,resolve,invoke,List.map_toArray,List.map_cons,List.map_nil,e1];go_simp<;>omega
    ·have XY:x.eval (.tmp 104)=.pointer (some ⟨N,17,none⟩):=by have h_:=hI.dep haft 1 104 rfl rfl rfl;rw [hSp] at h_;exact h_
     refine bQ (v:=.string s.name) ?_ (by subst hSp;exact rfl)
     simp only [execOp,resolve,invoke,List.map_toArray,List.map_cons,List.map_nil,XY];go_simp<;>omega
    ·have XZ:x.eval (.tmp 105)=.string s.name:=by have h_:=hI.dep haft 2 105 rfl rfl rfl;rw [hSp] at h_;exact h_
     refine bQ (v:=.string ((⟨#[32,68,69,70,73,78,69,32]⟩:aj)++s.name)) ?_ (by subst hSp;exact rfl)
     simp only [execOp,resolve,invoke,List.map_toArray,List.map_cons,List.map_nil,XZ];go_simp<;>omega
    ·have X0:x.eval (.tmp 106)=.string ((⟨#[32,68,69,70,73,78,69,32]⟩:aj)++s.name):=by have h_:=hI.dep haft 3 106 rfl rfl rfl;rw [hSp] at h_;exact h_
     refine bQ (v:=.string ((⟨#[32,68,69,70,73,78,69,32]⟩:aj)++s.name++(⟨#[40]⟩:aj))) ?_ (by subst hSp;exact rfl)
     simp only [execOp,resolve,invoke,List.map_toArray,List.map_cons,List.map_nil,X0];go_simp<;>omega
    ·refine bQ (v:=.pointer (some ⟨N,19,none⟩)) ?_ (by subst hSp;exact rfl)
     simp only [execOp,resolve,invoke,List.map_toArray,List.map_cons,List.map_nil,e1];go_simp<;>omega
    ·have X7:x.eval (.tmp 108)=.pointer (some ⟨N,19,none⟩):=by have h_:=hI.dep haft 5 108 rfl rfl rfl;rw [hSp] at h_;exact h_
     refine bQ (v:=.slice a.ma s.params.length a.mc) ?_ (by subst hSp;exact rfl)
     simp only [execOp,resolve,invoke,List.map_toArray,List.map_cons,List.map_nil,X7];go_simp<;>omega
    ·have aeB:x.eval (.tmp 109)=.slice a.ma s.params.length a.mc:=by have h_:=hI.dep haft 6 109 rfl rfl rfl;rw [hSp] at h_;exact h_
     refine nR (f:=16) (args:=#[.slice a.ma s.params.length a.mc,.string ⟨#[44]⟩]) ?_ ?_
     ·simp only [execOp,resolve,invoke,List.map_toArray,List.map_cons,List.map_nil,aeB];go_simp<;>omega
     ·exact (HJ.out _ J).mono fun e w' h=>⟨_,h.1,by subst hSp;exact rfl,h.2⟩
    ·have X8:x.eval (.tmp 107)=.string ((⟨#[32,68,69,70,73,78,69,32]⟩:aj)++s.name++(⟨#[40]⟩:aj)):=by have h_:=hI.dep haft 4 107 rfl rfl rfl;rw [hSp] at h_;exact h_
     have aeC:x.eval (.tmp 110)=.string ((⟨(dA s.params).toArray⟩:aj)):=by have h_:=hI.dep haft 7 110 rfl rfl rfl;rw [hSp] at h_;exact h_
     refine bQ (v:=.string ((⟨#[32,68,69,70,73,78,69,32]⟩:aj)++s.name++(⟨#[40]⟩:aj)++(⟨(dA s.params).toArray⟩:aj))) ?_ (by subst hSp;exact rfl)
     simp only [execOp,resolve,invoke,List.map_toArray,List.map_cons,List.map_nil,X8,aeC];go_simp<;>omega
    ·have X9:x.eval (.tmp 111)=.string ((⟨#[32,68,69,70,73,78,69,32]⟩:aj)++s.name++(⟨#[40]⟩:aj)++(⟨(dA s.params).toArray⟩:aj)):=by have h_:=hI.dep haft 8 111 rfl rfl rfl;rw [hSp] at h_;exact h_
     refine bQ (v:=.string ((⟨#[32,68,69,70,73,78,69,32]⟩:aj)++s.name++(⟨#[40]⟩:aj)++(⟨(dA s.params).toArray⟩:aj)++(⟨#[41]⟩:aj))) ?_ (by subst hSp;exact rfl)
     simp only [execOp,resolve,invoke,List.map_toArray,List.map_cons,List.map_nil,X9];go_simp<;>omega
    ·refine bQ (v:=.pointer (some ⟨N,20,none⟩)) ?_ (by subst hSp;exact rfl)
     simp only [execOp,resolve,invoke,List.map_toArray,List.map_cons,List.map_nil,e1];go_simp<;>omega
    ·have Ya:x.eval (.tmp 113)=.pointer (some ⟨N,20,none⟩):=by have h_:=hI.dep haft 10 113 rfl rfl rfl;rw [hSp] at h_;exact h_
     refine bQ (v:=.slice a.la s.locals.length a.lc) ?_ (by subst hSp;exact rfl)
     simp only [execOp,resolve,invoke,List.map_toArray,List.map_cons,List.map_nil,Ya];go_simp<;>omega
    ·have Yb:x.eval (.tmp 114)=.slice a.la s.locals.length a.lc:=by have h_:=hI.dep haft 11 114 rfl rfl rfl;rw [hSp] at h_;exact h_
     refine nR (f:=16) (args:=#[.slice a.la s.locals.length a.lc,.string ⟨#[44]⟩]) ?_ ?_
     ·simp only [execOp,resolve,invoke,List.map_toArray,List.map_cons,List.map_nil,Yb];go_simp<;>omega
     ·exact (HK.out _ J).mono fun e w' h=>⟨_,h.1,by subst hSp;exact rfl,h.2⟩
    ·have Yc:x.eval (.tmp 112)=.string ((⟨#[32,68,69,70,73,78,69,32]⟩:aj)++s.name++(⟨#[40]⟩:aj)++(⟨(dA s.params).toArray⟩:aj)++(⟨#[41]⟩:aj)):=by have h_:=hI.dep haft 9 112 rfl rfl rfl;rw [hSp] at h_;exact h_
     have Yd:x.eval (.tmp 115)=.string ((⟨(dA s.locals).toArray⟩:aj)):=by have h_:=hI.dep haft 12 115 rfl rfl rfl;rw [hSp] at h_;exact h_
     refine bQ (v:=.string ((⟨#[32,68,69,70,73,78,69,32]⟩:aj)++s.name++(⟨#[40]⟩:aj)++(⟨(dA s.params).toArray⟩:aj)++(⟨#[41]⟩:aj)++(⟨(dA s.locals).toArray⟩:aj))) ?_ (by subst hSp;exact rfl)
     simp only [execOp,resolve,invoke,List.map_toArray,List.map_cons,List.map_nil,Yc,Yd];go_simp<;>omega
    ·have Ye:x.eval (.tmp 116)=.string ((⟨#[32,68,69,70,73,78,69,32]⟩:aj)++s.name++(⟨#[40]⟩:aj)++(⟨(dA s.params).toArray⟩:aj)++(⟨#[41]⟩:aj)++(⟨(dA s.locals).toArray⟩:aj)):=by have h_:=hI.dep haft 13 116 rfl rfl rfl;rw [hSp] at h_;exact h_
     refine bQ (v:=.string ((⟨#[32,68,69,70,73,78,69,32]⟩:aj)++s.name++(⟨#[40]⟩:aj)++(⟨(dA s.params).toArray⟩:aj)++(⟨#[41]⟩:aj)++(⟨(dA s.locals).toArray⟩:aj)++(⟨#[32]⟩:aj))) ?_ (by subst hSp;exact rfl)
     simp only [execOp,resolve,invoke,List.map_toArray,List.map_cons,List.map_nil,Ye];go_simp<;>omega
    ·refine bQ (v:=.pointer (some ⟨N,18,none⟩)) ?_ (by subst hSp;exact rfl)
     simp only [execOp,resolve,invoke,List.map_toArray,List.map_cons,List.map_nil,e1];go_simp<;>omega
    ·have Yf:x.eval (.tmp 118)=.pointer (some ⟨N,18,none⟩):=by have h_:=hI.dep haft 15 118 rfl rfl rfl;rw [hSp] at h_;exact h_
     refine bQ (v:=.string s.entry) ?_ (by subst hSp;exact rfl)
     simp only [execOp,resolve,invoke,List.map_toArray,List.map_cons,List.map_nil,Yf];go_simp<;>omega
    ·have Yg:x.eval (.tmp 117)=.string ((⟨#[32,68,69,70,73,78,69,32]⟩:aj)++s.name++(⟨#[40]⟩:aj)++(⟨(dA s.params).toArray⟩:aj)++(⟨#[41]⟩:aj)++(⟨(dA s.locals).toArray⟩:aj)++(⟨#[32]⟩:aj)):=by have h_:=hI.dep haft 14 117 rfl rfl rfl;rw [hSp] at h_;exact h_
     have Yh:x.eval (.tmp 119)=.string s.entry:=by have h_:=hI.dep haft 16 119 rfl rfl rfl;rw [hSp] at h_;exact h_
     refine bQ (v:=.string ((⟨#[32,68,69,70,73,78,69,32]⟩:aj)++s.name++(⟨#[40]⟩:aj)++(⟨(dA s.params).toArray⟩:aj)++(⟨#[41]⟩:aj)++(⟨(dA s.locals).toArray⟩:aj)++(⟨#[32]⟩:aj)++s.entry)) ?_ (by subst hSp;exact rfl)
     simp only [execOp,resolve,invoke,List.map_toArray,List.map_cons,List.map_nil,Yg,Yh];go_simp<;>omega
    ·have Yi:x.eval (.tmp 103)=.string s.label:=by have h_:=hI.dep haft 0 103 rfl rfl rfl;rw [hSp] at h_;exact h_
     have Yj:x.eval (.tmp 120)=.string ((⟨#[32,68,69,70,73,78,69,32]⟩:aj)++s.name++(⟨#[40]⟩:aj)++(⟨(dA s.params).toArray⟩:aj)++(⟨#[41]⟩:aj)++(⟨(dA s.locals).toArray⟩:aj)++(⟨#[32]⟩:aj)++s.entry):=by have h_:=hI.dep haft 17 120 rfl rfl rfl;rw [hSp] at h_;exact h_
     refine bQ (v:=.string (s.label++((⟨#[32,68,69,70,73,78,69,32]⟩:aj)++s.name++(⟨#[40]⟩:aj)++(⟨(dA s.params).toArray⟩:aj)++(⟨#[41]⟩:aj)++(⟨(dA s.locals).toArray⟩:aj)++(⟨#[32]⟩:aj)++s.entry))) ?_ (by subst hSp;exact rfl)
     simp only [execOp,resolve,invoke,List.map_toArray,List.map_cons,List.map_nil,Yi,Yj];go_simp<;>omega
    ·have Yk:x.eval (.tmp 121)=.string (s.label++((⟨#[32,68,69,70,73,78,69,32]⟩:aj)++s.name++(⟨#[40]⟩:aj)++(⟨(dA s.params).toArray⟩:aj)++(⟨#[41]⟩:aj)++(⟨(dA s.locals).toArray⟩:aj)++(⟨#[32]⟩:aj)++s.entry)):=by have h_:=hI.dep haft 18 121 rfl rfl rfl;rw [hSp] at h_;exact h_
     refine bQ (v:=.string (s.label++((⟨#[32,68,69,70,73,78,69,32]⟩:aj)++s.name++(⟨#[40]⟩:aj)++(⟨(dA s.params).toArray⟩:aj)++(⟨#[41]⟩:aj)++(⟨(dA s.locals).toArray⟩:aj)++(⟨#[32]⟩:aj)++s.entry))) ?_ (by subst hSp;exact rfl)
     simp only [execOp,resolve,invoke,List.map_toArray,List.map_cons,List.map_nil,Yk];go_simp<;>omega
   ·intro f wy hK hS
    have qH:=hS 19 _ 8 rfl rfl
    rw [hSp] at qH
    have e8:f 8=.string (s.label++((⟨#[32,68,69,70,73,78,69,32]⟩:aj)++s.name++(⟨#[40]⟩:aj)++(⟨(dA s.params).toArray⟩:aj)++(⟨#[41]⟩:aj)++(⟨(dA s.locals).toArray⟩:aj)++(⟨#[32]⟩:aj)++s.entry)):=qH
    rw [fin.out] at e8
    have K4:=ah hK
    clear hK hS qH
    simp only [jP,List.foldl_cons,List.foldl_nil,List.setIfInBounds_toArray,List.set_cons_zero,List.set_cons_succ,e8]
    clear e8
    go_wp2_with fail
    go_meet
    exact ⟨rfl,I3.out.next K4.out⟩
  exact absurd HR.out.kind (by omega)
 case rest =>
 obtain ⟨rfl,hI4⟩:=hcut
 obtain ⟨w4,hw4⟩:∃x,x=wc:=⟨_,rfl⟩
 rw [←hw4] at hI4⊢
 have I4:=ah hI4
 clear hw4 hI4 I3 c0 c1 c2 c3 c4 c5 c6 c7 c8 c9 c10 c11 c12 c13 c14 c15 c16 c17 c18 c19 c20 c21 dX c23
 obtain ⟨c0,c1,c2,c3,c4,c5,c6,c7,c8,c9,c10,c11,c12,c13,c14,c15,c16,c17,c18,c19,c20,c21,dX,c23⟩:=I4.out.box.cells
 have hal:=HR.out.always;have hye:=HR.out.yes;have hno:=HR.out.aZ
 go_upto_block 1 with fail
 go_cut [8] (fun v wx=>v=.string ⟨(lineS s).toArray⟩∧w4=wx)
 case first =>
  have hfit:=HR.out.fit
  have hbl:(s.label.data.toList++jI s (iE s)).length≤2000000000:=aaz HR.out Nr.out UG.out
  generalize hLB:s.label.data.toList++jI s (iE s)=LB at *
  have Bz:=ah hLB
  clear hLB
  by_cases hj1:s.always.size=0
  rotate_left
  ·obtain ⟨hj2,hj3⟩:s.yes.size=0∧s.aZ.size=0:=hfit.resolve_left hj1
   have fin:Hid ((⟨LB.toArray⟩:aj)++((⟨#[32,58,40]⟩:aj)++s.always++(⟨#[41]⟩:aj))=⟨(lineS s).toArray⟩):=bytes_eq (by rw [←Bz.out];simp [lineS,qW,hj1,hj2,hj3,ByteArray.data_append])
   have y0:s.always.toList.isEmpty=false:=by rw [ku];simp [hj1]
   clear hj1 hj2 hj3 hfit
   go_wp2_with fail
   go_meet
   exact ⟨congrArg Value.string fin.out,rfl⟩
  by_cases hj2:s.yes.size=0
  ·by_cases hj3:s.aZ.size=0
   ·have fin:Hid ((⟨LB.toArray⟩:aj)=⟨(lineS s).toArray⟩):=bytes_eq (by rw [←Bz.out];simp [lineS,qW,hj1,hj2,hj3,ByteArray.data_append])
    have y0:s.always.toList.isEmpty=true:=by rw [ku];simp [hj1]
    have y1:s.yes.toList.isEmpty=true:=by rw [ku];simp [hj2]
    have y2:s.aZ.toList.isEmpty=true:=by rw [ku];simp [hj3]
    clear hj1 hj2 hj3 hfit
    go_wp2_with fail
    go_meet
    exact ⟨congrArg Value.string fin.out,rfl⟩
   ·have fin:Hid ((⟨LB.toArray⟩:aj)++(⟨#[32,58]⟩:aj)++((⟨#[70,40]⟩:aj)++s.aZ++(⟨#[41]⟩:aj))=⟨(lineS s).toArray⟩):=bytes_eq (by rw [←Bz.out];simp [lineS,qW,hj1,hj2,hj3,ByteArray.data_append])
    have y0:s.always.toList.isEmpty=true:=by rw [ku];simp [hj1]
    have y1:s.yes.toList.isEmpty=true:=by rw [ku];simp [hj2]
    have y2:s.aZ.toList.isEmpty=false:=by rw [ku];simp [hj3]
    clear hj1 hj2 hj3 hfit
    go_wp2_with fail
    go_meet
    exact ⟨congrArg Value.string fin.out,rfl⟩
  ·by_cases hj3:s.aZ.size=0
   ·have fin:Hid ((⟨LB.toArray⟩:aj)++(⟨#[32,58]⟩:aj)++((⟨#[83,40]⟩:aj)++s.yes++(⟨#[41]⟩:aj))=⟨(lineS s).toArray⟩):=bytes_eq (by rw [←Bz.out];simp [lineS,qW,hj1,hj2,hj3,ByteArray.data_append])
    have y0:s.always.toList.isEmpty=true:=by rw [ku];simp [hj1]
    have y1:s.yes.toList.isEmpty=false:=by rw [ku];simp [hj2]
    have y2:s.aZ.toList.isEmpty=true:=by rw [ku];simp [hj3]
    clear hj1 hj2 hj3 hfit
    go_wp2_with fail
    go_meet
    exact ⟨congrArg Value.string fin.out,rfl⟩
   ·have fin:Hid ((⟨LB.toArray⟩:aj)++(⟨#[32,58]⟩:aj)++((⟨#[83,40]⟩:aj)++s.yes++(⟨#[41]⟩:aj))++((⟨#[70,40]⟩:aj)++s.aZ++(⟨#[41]⟩:aj))=⟨(lineS s).toArray⟩):=bytes_eq (by rw [←Bz.out];simp [lineS,qW,hj1,hj2,hj3,ByteArray.data_append])
    have y0:s.always.toList.isEmpty=true:=by rw [ku];simp [hj1]
    have y1:s.yes.toList.isEmpty=false:=by rw [ku];simp [hj2]
    have y2:s.aZ.toList.isEmpty=false:=by rw [ku];simp [hj3]
    clear hj1 hj2 hj3 hfit
    go_wp2_with fail
    go_meet
    exact ⟨congrArg Value.string fin.out,rfl⟩
 case rest =>
 obtain ⟨rfl,rfl⟩:=hcut
 have K4:=ah I4.out.keep
 clear I4 c0 c1 c2 c3 c4 c5 c6 c7 c8 c9 c10 c11 c12 c13 c14 c15 c16 c17 c18 c19 c20 c21 dX c23 hal hye hno
 have hnb:¬(eG s∧(fQ s.pat).2≠0):=HBAD.out
 have HC:Hid (∀wy,Calls Tryz.prog 17 #[.string ⟨(lineS s).toArray⟩,.string ⟨#[10]⟩] wy fun e w'=>e=.returned (.bool (decide ((10:UInt8)∈lineS s)))∧w'=wy):=fun wy=>by
  have h:=Tryz.strings_Contains_one ⟨(lineS s).toArray⟩ 10 wy
  rw [show ((⟨(lineS s).toArray⟩:aj)).data.toList=lineS s from rfl,abu] at h
  exact h
 by_cases hm:(10:UInt8)∈lineS s
 ·have fin:Hid (fE s=([],2)):=by unfold Hid fE;rw [if_neg (by simp [HW0.out]),if_neg hnb,if_pos hm]
  rw [ak hm] at HC
  clear hm hnb
  go_wp2_with (go_at_call 17;(refine (HC.out _).mono ?_);rintro e w' ⟨rfl,aQ⟩;obtain rfl:=aQ.symm)
  go_ret2
  exact ⟨by rw [fin.out];rfl,K4.out⟩
 ·rw [au hm] at HC
  by_cases hl:2000<(lineS s).length
  ·have fin:Hid (fE s=([],4)):=by unfold Hid fE;rw [if_neg (by simp [HW0.out]),if_neg hnb,if_neg hm,if_pos hl]
   have d1:decide ((2000:Int)<((lineS s).length:Int))=true:=ak (by omega)
   have d2:decide (2000<(lineS s).length)=true:=ak hl
   clear hm hnb hl
   go_wp2_with (go_at_call 17;(refine (HC.out _).mono ?_);rintro e w' ⟨rfl,aQ⟩;obtain rfl:=aQ.symm)
   go_ret2
   exact ⟨by rw [fin.out];rfl,K4.out⟩
  ·have fin:Hid (fE s=(lineS s,0)):=by unfold Hid fE;rw [if_neg (by simp [HW0.out]),if_neg hnb,if_neg hm,if_neg hl]
   have d1:decide ((2000:Int)<((lineS s).length:Int))=false:=au (by omega)
   have d2:decide (2000<(lineS s).length)=false:=au hl
   clear hm hnb hl
   go_wp2_with (go_at_call 17;(refine (HC.out _).mono ?_);rintro e w' ⟨rfl,aQ⟩;obtain rfl:=aQ.symm)
   go_ret2
   exact ⟨by rw [fin.out];rfl,K4.out⟩
end Go.Proofs.YtefjbnhpjdhjmaaGreatDoor
